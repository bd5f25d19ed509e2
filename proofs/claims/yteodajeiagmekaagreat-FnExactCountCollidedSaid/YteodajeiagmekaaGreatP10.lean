/-
  An immutable slice of a slot gets its value told: it may stand in memory that is lent.
-/
import Derived.Orders
import Derived.Test.YteodajeiagmekaaGreatP9
namespace Go.Proofs.YteodajeiagmekaaGreat.G
set_option linter.all false
open Go.RowKit L D
section
variable{ty:Tag→Nat}
def nD(Γ:Nat→TK)(E:Tag→Nat→Prop)(S:FuncId→List S1→List S1→Prop)(bD:List (Nat×Nat))(cr:List (Nat×CR))(ops:List Oper):List Oper→St→List Prop→Option (List Prop×St)
 | [],st,acc=>some (acc,st)
 |o::r,⟨n,sl,hp⟩,acc=>match o.dst with
  |some d=>match sl.any (fun e=>e.2.mentions d),eJ Γ E S bD cr ops ⟨n,sl,hp⟩ o with
   |false,some ([],v,os)=>nD Γ E S bD cr ops r ⟨n,(d,v)::sl,fQ os hp⟩ acc
   |false,some ([p],v,os)=>nD Γ E S bD cr ops r ⟨n,(d,v)::sl,fQ os hp⟩ (p::acc)
   |false,some ([p,q],v,os)=>nD Γ E S bD cr ops r ⟨n,(d,v)::sl,fQ os hp⟩ (p::q::acc)
   |false,some (l,v,os)=>nD Γ E S bD cr ops r ⟨n,(d,v)::sl,fQ os hp⟩ (l++acc)
   |_,_=>none
  |none=>none
structure TE where
 d:Nat
 v:SV
 os:Hp
def app(s:St)(e:TE):St:=⟨s.n,(e.d,e.v)::s.sl,e.os++s.hp⟩
theorem pO{Γ:Nat→TK}{E:Tag→Nat→Prop}{S:FuncId→List S1→List S1→Prop}{bD:List (Nat×Nat)}{cr:List (Nat×CR)}{ops:List Oper}{o:Oper}{r:List Oper}{st:St}{acc vcs:List Prop}{ke:St}(h:nD Γ E S bD cr ops (o::r) st acc=some (vcs,ke)):
  ∃vc e,o.dst=some e.d∧(st.sl.any fun x=>x.2.mentions e.d)=false∧eJ Γ E S bD cr ops st o=some (vc,e.v,e.os)∧nD Γ E S bD cr ops r (app st e) (vc++acc)=some (vcs,ke):=by
 obtain⟨n,sl,hp⟩:=st
 simp only[nD]at h
 split at h
 ·rename_i d hd
  split at h
  ·rename_i v os h1 h2;exact⟨[],⟨d,v,os⟩,hd,h1,h2,by simp only[bN]at h;exact h⟩
  ·rename_i p v os h1 h2;exact⟨[p],⟨d,v,os⟩,hd,h1,h2,by simp only[bN]at h;exact h⟩
  ·rename_i p q v os h1 h2;exact⟨[p,q],⟨d,v,os⟩,hd,h1,h2,by simp only[bN]at h;exact h⟩
  ·rename_i l v os _ _ _ h1 h2;exact⟨_,⟨d,v,os⟩,hd,h1,h2,by simp only[bN]at h;exact h⟩
  ·cases h
 ·cases h
def sD(sl:List (Nat×SV)):Bool:=sl.all fun e=>match e.2 with| .cond _ _=>false|_=>true
def EY(P:Program)(ty:Tag→Nat)(Γ:Nat→TK)(bD:List (Nat×Nat))(cr:List (Nat×CR))(ks hs:List Nat)(m:Nat)(ops:List Oper):St→Option (List Prop×St)
 | ⟨n,CY,cR⟩=>match sD CY,nD Γ (yC P ty) (Sound ty P) bD cr ops (ops.take m) ⟨n,CY,cR⟩ []with
   |true,some (j7,s1)=>match run P ty Γ bD cr ops (ops.drop m) s1 j7 with
    |some (vc,st')=>match pG st'.sl ks,pH st'.hp (A2 st'.sl st'.hp ks hs)with
     |some sl,some hp=>match jB sl hp,Nat.beq st'.n n with
      |true,true=>some (vc,⟨n,sl,hp⟩)
      |_,_=>none
     |_,_=>none
    |none=>none
   |_,_=>none
def bK(o:Oper):List Nat:=o.after.toList.filterMap fun e=>if Region.binds .any e then some e.on else none
def cP(acc:List Nat)(o:Oper):List Nat:=acc++ [(bK o).foldl (fun s j=>s|||2^j|||acc.getD j 0) 0]
def DX(ops:List Oper):List Nat:=ops.foldl cP []
def tmpsOf(o:Oper):List Nat:=o.op.operands.toList.filterMap fun| .tmp t=>some t|_=>none
def uA(o:Oper)(t:Nat):Bool:=match o.dst with|some d=>Nat.beq d t|none=>false
def idx{α:Type}:Nat→List α→List (Nat×α)
 |_,[]=> []
 |i,x::r=>(i,x)::idx (i+1) r
def A7(A:List (Nat×Oper))(cl:List Nat)(i:Nat)(o:Oper):Bool:=
 (tmpsOf o).all fun t=>A.all fun e=> !(uA e.2 t)||Nat.beq e.1 i|| (bK o).any (Nat.beq e.1)|| (Nat.blt i e.1&&(cl.getD e.1 0).testBit i)
def xL(m:Nat)(i:Nat)(o:Oper):Bool:=match o.guard with
 |none=>true
 |some (j,_)=>Nat.blt j i&&Nat.blt j m&&(bK o).any (Nat.beq j)
def A8(A:List (Nat×Oper))(i:Nat)(o:Oper):Bool:=match o.dst with
 |some d=>A.all fun e=>Nat.beq e.1 i|| !(uA e.2 d)
 |none=>false
def Ht(ops:List Oper)(m:Nat):Bool:=
 let cl:=DX ops
 let A:=idx 0 (ops.take m)
 (Nat.ble m ops.length)&&
 ((idx 0 ops).all fun e=>(bK e.2).all fun j=>Nat.blt j e.1)&&
 (A.all fun e=>A7 A cl e.1 e.2&&xL m e.1 e.2&&A8 A e.1 e.2)&&
 ((idx 0 ops).all fun e=>Nat.blt e.1 m|| (List.range e.1).all fun j=>(cl.getD e.1 0).testBit j)
end
section
variable{ty:Tag→Nat}
def Compat(hp eK:Hp):Prop:= ∀n o o',look hp n=some o→look eK n=some o'→o=o'
section
variable{zb:aY}{st T:St}{a:Act}{w:World}{env:Env}
theorem uB(c:Compat st.hp T.hp){tg:Option Tag}{v x:V}{u:Value}(hr:RA w T.hp env v u)(h:fM st tg v=some x):fM T tg v=some x:=by
 cases v with
 |own n=>
  obtain⟨⟨t,l,hl⟩,_⟩:=hr
  simp only[fM]at h ⊢
  split at h
  ·rename_i t' l' hl'
   have:=c n _ _ hl' hl
   simp only[Obj.arr.injEq]at this
   obtain⟨rfl,nR⟩:=this
   rw[hl]
   simp only[←eq_of_heq nR]
   exact h
  ·cases h
 |sl t l=>exact h
 |vw n p t l=>exact h
 |mix n c t l=>exact h
 |l6 n=>
  obtain⟨⟨t,l,s,hl⟩,_⟩:=hr
  simp only[fM]at h ⊢
  split at h
  ·rename_i t' l' hl'
   have:=c n _ _ hl' hl
   rw[←this]at hl
   rw[hl];exact h
  ·rename_i t' l' m hl'
   have:=c n _ _ hl' hl
   rw[←this]at hl
   rw[hl];exact h
  ·cases h
 |lit v=>
  have e:fM T tg (.lit v)=fM st tg (.lit v):=by
   cases v with
   |slice a n c=>cases a<;>cases n<;>cases c<;>rfl
   |_=>rfl
  rw[e];exact h
 |_=>simp[fM]at h
theorem ru(c:Compat st.hp T.hp): ∀{vs:List V} {tg:List (Option Tag)} {xs:List V} {us:List Value},aD (RA w T.hp env) vs us→tC st tg vs=some xs→tC T tg vs=some xs
 | [],_,xs,us,_,h=>h
 |v::r,tg,xs,us,hr,h=>by
  cases us with
  |nil=>exact hr.elim
  |cons u us=>
   simp only[tC]at h ⊢
   split at h
   ·rename_i x y h1 h2
    rw[uB c hr.1 h1,ru c hr.2 h2]
    exact h
   ·cases h
theorem yY(c:Compat st.hp T.hp){k:TK}{v x:S1}{u:Value}(hr:cz w T.hp env v u)(h:arg1 st k v=some x):arg1 T k v=some x:=by
 cases v with
 |a v=>
  simp only[arg1]at h ⊢
  split at h
  ·rename_i y hy
   rw[uB c hr hy]
   exact h
  ·cases h
 |agg l=>
  obtain⟨cs,_,hl⟩:=hr
  simp only[arg1]at h ⊢
  split at h
  ·rename_i y hy
   rw[ru c hl hy]
   exact h
  ·cases h
theorem lE{p:List (Nat×Bool)}{x:Operand}(hs: ∀t,x= .tmp t→look st.sl t=look T.sl t):vo st p x=vo T p x:=by
 cases x with
 |tmp t=>simp only[vo,hs t rfl]
 |_=>rfl
theorem pP{p:List (Nat×Bool)}{x:Operand}(hs: ∀t,x= .tmp t→look st.sl t=look T.sl t):cC st p x=cC T p x:=by
 unfold cC
 rw[lE hs]
theorem yZ{b:Bool}(c:Compat st.hp T.hp){k:TK}{v x:S1}{u:Value}(hr:cz w T.hp env v u)(h:yz b st k v=some x):yz b T k v=some x:=by
 unfold yz at h ⊢
 split at h
 ·exact h
 ·exact yY c hr h
theorem mD{b:Bool}{Γ:Nat→TK}(c:Compat st.hp T.hp)(g:Good ty zb T a.tmps w env){p:List (Nat×Bool)}(hp:holds a.tmps p): ∀{xs:List Operand} {ts:List Nat} {as:List S1},(∀x,x∈xs→ ∀t,x= .tmp t→look st.sl t=look T.sl t)→args b Γ st p xs ts=some as→args b Γ T p xs ts=some as
 | [],_,as,_,h=>h
 |x::r,ts,as,hs,h=>by
  simp only[args]at h ⊢
  rw[←pP (st:=st) (T:=T) (hs x (by simp))]
  split at h
  ·rename_i v hv
   split at h
   ·rename_i y ys h1 h2
    have hr:=bX g hp (by rw[←pP (hs x (by simp))];exact hv)
    rw[yZ c hr h1,mD c g hp (fun z hz=>hs z (List.mem_cons_of_mem _ hz)) h2]
    exact h
   ·cases h
  ·cases h
theorem wB(c:Compat st.hp T.hp){k:TK}{v:V}{u:Value}{n:Int}(hr:RA w T.hp env v u)(h:lenOf st k v=some n):lenOf T k v=some n:=by
 cases v with
 |own m=>
  obtain⟨⟨t,l,hl⟩,_⟩:=hr
  simp only[lenOf]at h ⊢
  split at h
  ·split at h
   ·rename_i t' l' hl'
    have:=c m _ _ hl' hl
    simp only[Obj.arr.injEq]at this
    obtain⟨rfl,nR⟩:=this
    rw[hl]
    simp only[←eq_of_heq nR]
    exact h
   ·cases h
  ·cases h
 |sl t l=>exact h
 |vw n p t l=>exact h
 |lit v=>
  have e:lenOf T k (.lit v)=lenOf st k (.lit v):=by
   cases v with
   |slice a n c=>cases a<;>cases n<;>cases c<;>rfl
   |_=>rfl
  rw[e];exact h
 |_=>simp[lenOf]at h
theorem sE(c:Compat st.hp T.hp){v:V}{u:Value}(hr:RA w T.hp env v u){l:List UInt8}(h:bytesOf st v=some l):bytesOf T v=some l:=by
 cases v with
 |own n=>
  obtain⟨⟨t,l2,fP⟩,_⟩:=hr
  simp only[bytesOf]at h ⊢
  split at h
  ·rename_i l3 Ez
   simp only[Option.some.injEq]at h
   subst h
   have:=c n _ _ Ez fP
   simp only[Obj.arr.injEq]at this
   obtain⟨rfl,nR⟩:=this
   rw[fP]
   simp only[eq_of_heq nR]
  ·cases h
 |sl t l=>
  have e:bytesOf T (.sl t l)=bytesOf st (.sl t l):=by cases t<;>rfl
  rw[e];exact h
 |vw n p t l=>
  have e:bytesOf T (.vw n p t l)=bytesOf st (.vw n p t l):=by cases t<;>rfl
  rw[e];exact h
 |lit v=>
  have e:bytesOf T (.lit v)=bytesOf st (.lit v):=by
   cases v with
   |slice a n c=>cases a<;>cases n<;>cases c<;>rfl
   |_=>rfl
  rw[e];exact h
 |_=>simp[bytesOf]at h
theorem nk{p:List (Nat×Bool)}{g:Tag}: ∀{xs:List (Nat×Operand)} {i:Nat},(∀x,x∈xs→cC st p x.2=cC T p x.2)→fN st p g i xs=fN T p g i xs
 | [],_,_=>rfl
 | (j,x)::r,i,h=>by
   simp only[fN]
   rw[h (j,x) (by simp),nk (fun y hy=>h y (List.mem_cons_of_mem _ hy))]
theorem pQ{p:List (Nat×Bool)}{n:Nat}{fo:List Nat}: ∀{xs:List (Nat×Operand)} {c:List V},(∀x,x∈xs→vo st p x.2=vo T p x.2)→ij st p n fo xs c=ij T p n fo xs c
 | [],_,_=>rfl
 | (j,x)::r,c,h=>by
   simp only[ij]
   rw[h (j,x) (by simp)]
   have: ∀c',ij st p n fo r c'=ij T p n fo r c':=fun c'=>pQ (fun y hy=>h y (List.mem_cons_of_mem _ hy))
   simp only[this]
theorem kg{p:List (Nat×Bool)}: ∀{xs:List Operand},(∀x,x∈xs→cC st p x=cC T p x)→kU st p xs=kU T p xs
 | [],_=>rfl
 |x::r,h=>by
  simp only[kU,Ct]
  rw[h x (by simp),kg (fun y hy=>h y (List.mem_cons_of_mem _ hy))]
theorem jD(c:Compat st.hp T.hp){v:V}{u:Value}(hr:RA w T.hp env v u){n:Nat}(hn:v.name=some n){o:Obj}(h:look st.hp n=some o):look T.hp n=some o:=by
 have: ∃o',look T.hp n=some o':=by
  cases v<;>simp only[V.name,Option.some.injEq,reduceCtorEq]at hn
  case own m=>subst hn;obtain⟨⟨t,l,hl⟩,_⟩:=hr;exact⟨_,hl⟩
  case ptr m off=>subst hn;obtain⟨⟨c,hl⟩,_⟩:=hr;exact⟨_,hl⟩
  case fA m i off=>subst hn;obtain⟨t,l,hl,_⟩:=hr;exact⟨_,hl⟩
  case vw m p t l=>subst hn;obtain⟨⟨t,l,hl⟩,_⟩:=hr;exact⟨_,hl⟩
  case qn m t l=>subst hn;obtain⟨⟨t,l,hl⟩,_⟩:=hr;exact⟨_,hl⟩
  case mix m c t l=>subst hn;obtain⟨⟨t,l,hl⟩,_⟩:=hr;exact⟨_,hl⟩
  case l6 m=>subst hn;obtain⟨⟨t,l,s,hl⟩,_⟩:=hr;exact⟨_,hl⟩
  case ou f m=>subst hn;obtain⟨⟨c,hl⟩,_⟩:=hr;exact⟨_,hl⟩
  case qm m p t x off=>subst hn;obtain⟨⟨t,l,hl⟩,_⟩:=hr;exact⟨_,hl⟩
 obtain⟨o',h'⟩:=this
 rw[c n _ _ h h'];exact h'
theorem mE(c:Compat st.hp T.hp): ∀{l d:List V} {n:Nat} {us:List Value},aD (RA w T.hp env) l us→jZ st.hp l=some (d,n)→jZ T.hp l=some (d,n)
 | [],_,_,_,_,h=>by simp[jZ]at h
 |v::r,d,n,us,hr,h=>by
  cases us with
  |nil=>exact hr.elim
  |cons u us=>
   unfold jZ at h
   split at h
   ·rename_i m r' he
    simp only[List.cons.injEq]at he
    obtain⟨rfl,rfl⟩:=he
    split at h
    ·rename_i t l hl iq
     have:=jD c hr.1 (n:=m) rfl hl
     simp only[jZ,this,iq]
     exact h
    ·cases h
   ·rename_i m pp t l r' he
    simp only[List.cons.injEq]at he
    obtain⟨rfl,rfl⟩:=he
    split at h
    ·rename_i t0 l0 hl iq
     have:=jD c hr.1 (n:=m) rfl hl
     simp only[jZ,this,iq]
     exact h
    ·cases h
   ·cases h
   ·rename_i x r' JZ he
    simp only[List.cons.injEq]at he
    obtain⟨rfl,rfl⟩:=he
    split at h
    ·rename_i c' n' h'
     have:=mE c hr.2 h'
     unfold jZ
     split
     ·rename_i e;simp at e
     ·rename_i e;simp at e
     ·rename_i e;simp only[List.cons.injEq,V.lit.injEq]at e;exact absurd e.1 (by rintro rfl;exact JZ _ _ _ rfl)
     ·rename_i e
      simp only[List.cons.injEq,V.lit.injEq]at e
      obtain⟨rfl,rfl⟩:=e
      rw[this];exact h
     ·rename_i e1 e2 e3;exact absurd rfl (e3 _ _)
    ·cases h
   ·cases h
theorem quiet_mono{Γ:Nat→TK}{E:Tag→Nat→Prop}{S:FuncId→List S1→List S1→Prop}(c:Compat st.hp T.hp)(g:Good ty zb T a.tmps w env){p:List (Nat×Bool)}(hp:holds a.tmps p){cr:List (Nat×CR)}{d m:Nat}{op:Op}{out:Out}
  (hs: ∀x,x∈op.operands.toList→ ∀t,x= .tmp t→look st.sl t=look T.sl t)(h:quiet Γ E S cr st p d m op=some out):quiet Γ E S cr T p d m op=some out:=by
 have ho: ∀{q x},x∈op.operands.toList→cC st q x=cC T q x:=fun hx=>pP (hs _ hx)
 have hr: ∀{x v},x∈op.operands.toList→cC st p x=some v→cz w T.hp env v (a.eval x):=fun hx hv=>bX g hp (by rw[←ho hx];exact hv)
 have rn: ∀{x v n o},x∈op.operands.toList→cC st p x=some (.a v)→v.name=some n→look st.hp n=some o→look T.hp n=some o:=fun hx hv hn hl=>jD c (hr hx hv) hn hl
 cases op with
 |move x=>
  have hm:zZ st x=zZ T x:=by
   cases x with
   |tmp t=>simp only[zZ];rw[hs (.tmp t) (by simp[Op.operands]) t rfl]
   |_=>rfl
  simp only[quiet]at h ⊢;rw[←lE (st:=st) (hs x (by simp[Op.operands])), ←hm];exact h
 |assign x=>
  have hm:zZ st x=zZ T x:=by
   cases x with
   |tmp t=>simp only[zZ];rw[hs (.tmp t) (by simp[Op.operands]) t rfl]
   |_=>rfl
  simp only[quiet]at h ⊢;rw[←lE (st:=st) (hs x (by simp[Op.operands])), ←hm];exact h
 |nilCheck x=>simp only[quiet]at h ⊢;rw[←ho (by simp[Op.operands])];exact h
 |lookup t x y b=>
  cases b with
  |true=>simp[quiet]at h
  |false=>
   simp only[quiet]at h ⊢
   split at h
   ·rename_i hk
    split at h
    ·rename_i n k hx hy
     split at h
     ·rename_i tg l0 hl
      have FM:RA w T.hp env (.l6 n) (a.eval x):=hr (x:=x) (by simp[Op.operands]) hx
      have fP:=jD c FM (n:=n) rfl hl
      simp only[hk, ←ho (x:=x) (by simp[Op.operands]), ←ho (x:=y) (by simp[Op.operands]),hx,hy,fP]
      exact h
     ·cases h
    ·cases h
   ·cases h
 |makeMap t r=>
  cases r with
  |some _=>simp[quiet]at h
  |none=>exact h
 |makeSlice t x y=>simp only[quiet]at h ⊢;rw[←ho (x:=x) (by simp[Op.operands]), ←ho (x:=y) (by simp[Op.operands])];exact h
 |buildSlice t n xs=>
  simp only[quiet]at h ⊢
  have hq: ∀g,fN st p g 0 xs.toList=fN T p g 0 xs.toList:=fun g=>nk fun x hx=>ho (by simp only[Op.operands,List.mem_map];exact⟨x,hx,rfl⟩)
  simp only[←hq]
  split at h
  case h_2=>cases h
  rename_i gt e hk
  cases hkey:(look cr (d+500000)).isSome with
  |false=>simp only[hkey]at h ⊢;exact h
  |true=>
   simp only[hkey]at h ⊢
   split at h
   case h_2=>cases h
   rename_i x hlen hps
   split at h
   case h_2=>cases h
   rename_i s hx
   split at h
   case h_2=>cases h
   rename_i cc n1 hc
   have hmem:x∈(Op.buildSlice t n xs).operands.toList:=by
    simp only[Op.operands,List.mem_map,Array.toList_map]
    exact⟨(0,x),by rw[hps];simp,rfl⟩
   have FM:=hr hmem hx
   have hown:jZ T.hp (cellsOf s)=some (cc,n1):=by
    cases s with
    |agg l=>obtain⟨cs,_,hl⟩:=FM;exact mE c hl hc
    |a v=>exact mE c (us:= [a.eval x]) ⟨FM,trivial⟩ hc
   simp only[←ho hmem,hx,hown]
   exact h
 |build t xs=>
  simp only[quiet]at h ⊢
  have hq: ∀n fo z,ij st p n fo xs.toList z=ij T p n fo xs.toList z:=fun n fo z=>pQ fun x hx=>lE (hs _ (by simp only[Op.operands,List.mem_map];exact⟨x,hx,rfl⟩))
  simp only[←hq]
  exact h
 |pick x y z=>
  cases x with
  |tmp t=>
   simp only[quiet]at h ⊢
   rw[←ho (x:= .tmp t) (by simp[Op.operands]), ←ho (x:=y) (by simp[Op.operands]), ←ho (x:=z) (by simp[Op.operands])]
   exact h
  |_=>simp[quiet]at h
 |box e x=>simp only[quiet]at h ⊢;rw[←ho (by simp[Op.operands])];exact h
 |alloc t=>exact h
 |load t x=>
  have hm:x∈(Op.load t x).operands.toList:=by simp[Op.operands]
  simp only[quiet]at h ⊢
  rw[←ho hm]
  split at h
  ·rename_i n off hx
   try rw[hx]
   try dsimp only
   split at h
   ·rename_i c2 fP
    rw[rn hm hx rfl fP]
    exact h
   ·cases h
  ·rename_i hx
   try rw[hx]
   exact h
  ·rename_i hx
   try rw[hx]
   exact h
  ·rename_i n i off hx
   try rw[hx]
   try dsimp only
   split at h
   ·rename_i c2 fP
    rw[rn hm hx rfl fP]
    exact h
   ·cases h
  ·cases h
 |binOp op t x y t'=>
  simp only[quiet]at h ⊢
  rw[←ho (x:=x) (by simp[Op.operands]), ←ho (x:=y) (by simp[Op.operands])]
  exact h
 |unOp op t x=>
  cases op with
  |not=>simp only[quiet]at h ⊢;rw[←ho (by simp[Op.operands])];exact h
  |neg=>simp only[quiet]at h ⊢;rw[←ho (by simp[Op.operands])];exact h
  |_=>simp[quiet]at h
 |convert s t x=>
  simp only[quiet]at h ⊢
  rw[←ho (x:=x) (by simp[Op.operands])]
  split at h
  ·rename_i ik n k1 k2 hx hk1 hk2
   try rw[hx,hk1,hk2]
   exact h
  ·rename_i v g' e hx hk1 hk2
   try rw[hx,hk1,hk2]
   try dsimp only
   split at h
   ·rename_i l Ar hl
    rw[Ar,sE c (show RA w T.hp env v _ from hr (x:=x) (by simp[Op.operands]) hx) hl]
    exact h
   ·cases h
  ·cases h
 |slice t x lo hi mx=>
  cases mx with
  |some mx=>
   cases lo with
   |some _=>simp[quiet]at h
   |none=>
    cases hi with
    |none=>simp[quiet]at h
    |some hi=>
     have hb: ∀(y:Operand),y∈(Op.slice t x none (some hi) (some mx)).operands.toList→s8 st p 0 (some y)=s8 T p 0 (some y):=fun y hy=>by simp only[s8];rw[ho hy]
     have hm:x∈(Op.slice t x none (some hi) (some mx)).operands.toList:=by simp[Op.operands]
     simp only[quiet]at h ⊢
     rw[←ho hm, ←hb hi (by simp[Op.operands]), ←hb mx (by simp[Op.operands])]
     split at h
     case h_2=>cases h
     rename_i hk
     try rw[hk]
     try dsimp only
     split at h
     case h_2=>cases h
     rename_i n n1 n2 hx h1 h2
     try rw[hx,h1,h2]
     try dsimp only
     split at h
     case h_2=>cases h
     rename_i t' l hl
     rw[rn hm hx rfl hl]
     exact h
  |none=>
   have hb: ∀(b:Option Operand),(∀y,b=some y→y∈(Op.slice t x lo hi none).operands.toList)→ ∀z,s8 st p z b=s8 T p z b:=by
    intro b hm z
    cases b with
    |none=>rfl
    |some y=>simp only[s8];rw[ho (hm y rfl)]
   have hm:x∈(Op.slice t x lo hi none).operands.toList:=by simp[Op.operands]
   simp only[quiet]at h ⊢
   rw[←ho hm, ←hb lo (by rintro y rfl;simp[Op.operands])]
   simp only[←hb hi (by rintro y rfl;simp[Op.operands])]
   cases hkey:(look cr (d+600000)).isSome with
   |true=>simp only[hkey]at h ⊢;exact h
   |false=>
    simp only[hkey]at h ⊢
    split at h
    ·split at h
     ·rename_i hx hlo
      try rw[hx,hlo]
      exact h
     ·rename_i hx hlo
      try rw[hx,hlo]
      exact h
     ·rename_i hx hlo
      try rw[hx,hlo]
      try dsimp only
      split at h
      ·rename_i fP
       rw[rn hm hx rfl fP]
       exact h
      ·cases h
     ·cases h
    ·exact h
    ·cases h
 |makeFunc fn first captured=>
  cases fn with
  |func f=>
   simp only[quiet]at h ⊢
   split at h
   ·rename_i x hf hc
    try rw[hf,hc]
    try dsimp only
    have hm:x∈(Op.makeFunc (.func f) first captured).operands.toList:=by simp only[Op.operands,Array.toList_append,hf,hc];simp
    have e:=ho (q:=p) hm
    rw[←e]
    exact h
   ·cases h
  |_=>simp[quiet]at h
 |fieldAddr t x f=>
  simp only[quiet]at h ⊢
  rw[←ho (x:=x) (by simp[Op.operands])]
  exact h
 |indexAddr t x i=>
  have hm:x∈(Op.indexAddr t x i).operands.toList:=by simp[Op.operands]
  simp only[quiet]at h ⊢
  rw[←ho hm, ←ho (x:=i) (by simp[Op.operands])]
  split at h
  ·split at h
   ·rename_i hx hi
    try rw[hx,hi]
    exact h
   ·rename_i hx hi
    try rw[hx,hi]
    try dsimp only
    split at h
    ·rename_i fP
     rw[rn hm hx rfl fP]
     exact h
    ·cases h
   ·rename_i hx hi
    try rw[hx,hi]
    exact h
   ·cases h
  ·cases h
 |extract x i=>
  cases x with
  |tmp t=>simp only[quiet]at h ⊢;rw[←hs (.tmp t) (by simp[Op.operands]) t rfl];exact h
  |_=>simp[quiet]at h
 |call cl=>
  obtain⟨callee,xs,ts⟩:=cl
  have hop: ∀x,x∈xs.toList→x∈(Op.call ⟨callee,xs,ts⟩).operands.toList:=by
   intro x hx
   simp only[Op.operands,Call.operands,Array.toList_append]
   exact List.mem_append_right _ hx
  cases callee with
  |value x=>
   cases x with
   |func f=>
    simp only[quiet]at h ⊢
    split at h
    ·rename_i as c1 h1 h2
     rw[mD c g hp (fun x hx=>hs x (hop x hx)) h1,h2]
     exact h
    ·cases h
   |tmp y=>
    simp only[quiet]at h ⊢
    rw[←ho (x:= .tmp y) (by simp[Op.operands,Call.operands])]
    split at h
    ·rename_i v hv
     try rw[hv]
     try dsimp only
     split at h
     ·rename_i f hf
      try rw[hf]
      try dsimp only
      split at h
      ·rename_i as c1 h1 h2
       rw[mD c g hp (fun x hx=>hs x (hop x hx)) h1,h2]
       exact h
      ·cases h
     ·cases h
    ·cases h
   |_=>simp[quiet]at h
  |builtin b=>
   cases b with
   |len=>
    simp only[quiet]at h ⊢
    split at h
    ·rename_i x t hxl htl
     have hm:x∈xs.toList:=by rw[hxl];simp
     try rw[hxl,htl]
     try dsimp only
     rw[←ho (hop x hm)]
     split at h
     ·rename_i v hv
      try rw[hv]
      try dsimp only
      split at h
      ·rename_i n hn
       rw[wB c (show RA w T.hp env v _ from hr (hop x hm) hv) hn]
       exact h
      ·cases h
     ·cases h
    ·cases h
   |append=>
    simp only[quiet]at h ⊢
    split at h
    case h_2=>cases h
    rename_i x y t1 t2 hkey hxl htl
    try rw[hkey,hxl,htl]
    try dsimp only
    have Cd:x∈xs.toList:=by rw[hxl];simp
    have J0:y∈xs.toList:=by rw[hxl];simp
    rw[←ho (hop x Cd), ←ho (hop y J0)]
    exact h
   |max=>simp only[quiet]at h ⊢;rw[←kg (st:=st) (T:=T) (xs:=xs.toList) (fun x hx=>ho (hop x hx))];exact h
   |min=>simp only[quiet]at h ⊢;rw[←kg (st:=st) (T:=T) (xs:=xs.toList) (fun x hx=>ho (hop x hx))];exact h
   |_=>simp[quiet]at h
  |invoke _ _=>simp[quiet]at h
 |_=>simp[quiet]at h
theorem za{p:List (Nat×Bool)}(hs: ∀e,e∈p→look st.sl e.1=look T.sl e.1):hyps st p=hyps T p:=by
 induction p with
 |nil=>rfl
 |cons e r ih=>
  obtain⟨d,x⟩:=e
  simp only[hyps]
  rw[hs (d,x) (by simp),ih fun e he=>hs e (by simp[he])]
theorem wC{Γ:Nat→TK}{E:Tag→Nat→Prop}{S:FuncId→List S1→List S1→Prop}(c:Compat st.hp T.hp)(g:Good ty zb T a.tmps w env)(hn:T.n=st.n){bD:List (Nat×Nat)}{cr:List (Nat×CR)}{ops:List Oper}{o:Oper}{p:List (Nat×Bool)}(ef:cT st ops o=some p)(iR:cT T ops o=some p)(hp:holds a.tmps p)
  (hs: ∀x,x∈o.op.operands.toList→ ∀t,x= .tmp t→look st.sl t=look T.sl t)(hps: ∀e,e∈p→look st.sl e.1=look T.sl e.1){vc:List Prop}{v:SV}{os:Hp}(hf:fresh T.hp os=true)(h:eJ Γ E S bD cr ops st o=some (vc,v,os)):
  eJ Γ E S bD cr ops T o=some (vc,v,os):=by
 have hd:m6 T o.dst=m6 st o.dst:=by unfold m6;rw[hn]
 simp only[eJ]at h ⊢
 rw[hd,iR]
 rw[ef]at h
 split at h
 ·rename_i m e1 e2 e3
  simp only[Option.some.injEq]at e3
  subst e3
  try rw[e1,e2]
  try dsimp only
  split at h
  ·rename_i j7 v1 J1 hq
   rw[quiet_mono c g hp hs hq]
   try dsimp only
   split at h
   ·rename_i h1 h2
    simp only[Option.some.injEq,Prod.mk.injEq]at h
    obtain⟨rfl,rfl,rfl⟩:=h
    simp only[hf,h2]
   ·cases h
  ·cases h
 ·rename_i m e p' e1 e2 e3
  simp only[Option.some.injEq]at e3
  subst e3
  try rw[e1,e2]
  try dsimp only
  split at h
  ·rename_i h1
   try rw[h1]
   try dsimp only
   split at h
   ·rename_i j7 v1 hq
    rw[quiet_mono c g hp hs hq]
    try dsimp only
    rw[←za hps]
    exact h
   ·cases h
  ·cases h
 ·cases h
end
end
section
variable{ty:Tag→Nat}
def bV(fT:Nat→Bool)(tr:List TE)(s:St):Nat→St
 |0=>s
 |i+1=>match fT i,tr[i]? with
  |true,some e=>app (bV fT tr s i) e
  |_,_=>bV fT tr s i
abbrev pre(tr:List TE)(s:St)(i:Nat):St:=bV (fun _=>true) tr s i
structure Trace(Γ:Nat→TK)(E:Tag→Nat→Prop)(S:FuncId→List S1→List S1→Prop)(bD:List (Nat×Nat))(cr:List (Nat×CR))(ops:List Oper)(m:Nat)(s:St)(tr:List TE)(vcs:List Prop):Prop where
 len:tr.length=m
 one: ∀i,i<m→ ∃o e vc,ops[i]? =some o∧tr[i]? =some e∧o.dst=some e.d∧((pre tr s i).sl.any fun x=>x.2.mentions e.d)=false∧eJ Γ E S bD cr ops (pre tr s i) o=some (vc,e.v,e.os)∧ ∀q,q∈vc→q∈vcs
theorem uC{Γ:Nat→TK}{E:Tag→Nat→Prop}{S:FuncId→List S1→List S1→Prop}{bD:List (Nat×Nat)}{cr:List (Nat×CR)}{ops:List Oper}: ∀{l:List Oper} {st ke:St} {acc vcs:List Prop},nD Γ E S bD cr ops l st acc=some (vcs,ke)→ ∀q,q∈acc→q∈vcs
 | [],st,ke,acc,vcs,h,q,hq=>by
   simp only[nD,Option.some.injEq,Prod.mk.injEq]at h
   rw[←h.1];exact hq
 |o::r,st,ke,acc,vcs,h,q,hq=>by
  obtain⟨vc,e,_,_,_,h2⟩:=pO h
  exact uC h2 q (List.mem_append_right _ hq)
theorem iS(fT:Nat→Bool)(e:TE)(tr:List TE)(s:St)(h:fT 0=true): ∀i,bV fT (e::tr) s (i+1)=bV (fun j=>fT (j+1)) tr (app s e) i
 |0=>by simp[bV,h]
 |i+1=>by
  rw[bV,iS fT e tr s h i,bV]
  simp only[List.getElem?_cons_succ]
theorem uD{Γ:Nat→TK}{E:Tag→Nat→Prop}{S:FuncId→List S1→List S1→Prop}{bD:List (Nat×Nat)}{cr:List (Nat×CR)}{ops:List Oper}: ∀{l:List Oper} {k:Nat} {st ke:St} {acc vcs:List Prop},nD Γ E S bD cr ops l st acc=some (vcs,ke)→(∀i o,l[i]? =some o→ops[k+i]? =some o)→
  ∃tr:List TE,tr.length=l.length∧ke=pre tr st l.length∧ ∀i,i<l.length→ ∃o e vc,ops[k+i]? =some o∧tr[i]? =some e∧o.dst=some e.d∧((pre tr st i).sl.any fun x=>x.2.mentions e.d)=false∧eJ Γ E S bD cr ops (pre tr st i) o=some (vc,e.v,e.os)∧ ∀q,q∈vc→q∈vcs
 | [],k,st,ke,acc,vcs,h,_=>by
   simp only[nD,Option.some.injEq,Prod.mk.injEq]at h
   exact⟨[],rfl,h.2.symm,fun i hi=>absurd hi (by simp)⟩
 |o::r,k,st,ke,acc,vcs,h,hk=>by
  obtain⟨vc,e,h1,h2,h3,h4⟩:=pO h
  obtain⟨tr,q1,q2,q3⟩:=uD (k:=k+1) h4 (fun i o' ho=>by
   have:=hk (i+1) o' (by simpa using ho)
   rw[show k+1+i=k+(i+1)by omega];exact this)
  refine⟨e::tr,by simp[q1],?_,?_⟩
  ·rw[q2,List.length_cons]
   exact(iS (fun _=>true) e tr st rfl _).symm
  ·intro i hi
   cases i with
   |zero=>exact⟨o,e,vc,hk 0 o rfl,rfl,h1,h2,h3,fun q hq=>uC h4 q (List.mem_append_left _ hq)⟩
   |succ i=>
    obtain⟨o',e',GL,p1,p2,p3,p4,p5,p6⟩:=q3 i (by simpa using hi)
    refine⟨o',e',GL,by rw[show k+(i+1)=k+1+i by omega];exact p1,by simpa using p2,p3,?_,?_,p6⟩
    ·rw[pre,iS (fun _=>true) e tr st rfl i];exact p4
    ·rw[pre,iS (fun _=>true) e tr st rfl i];exact p5
section
variable{fT KI:Nat→Bool}{tr:List TE}{s:St}
theorem iT{i:Nat}{e:TE}(h:fT i=true)(he:tr[i]? =some e):bV fT tr s (i+1)=app (bV fT tr s i) e:=by rw[bV,h,he]
theorem sG{i:Nat}(h:fT i=false):bV fT tr s (i+1)=bV fT tr s i:=by rw[bV,h]
theorem nq: ∀i,(bV fT tr s i).n=s.n
 |0=>rfl
 |i+1=>by
  rw[bV]
  split
  ·exact nq i
  ·exact nq i
theorem ey: ∀{i j:Nat} {e:TE},j<i→fT j=true→tr[j]? =some e→(∀j' e',j'<i→fT j'=true→tr[j']? =some e'→e'.d=e.d→j'=j)→look (bV fT tr s i).sl e.d=some e.v
 |i+1,j,e,hj,hin,he,hd=>by
  by_cases hij:j=i
  ·subst hij
   rw[iT hin he];exact look_eq
  ·have ih:=ey (i:=i) (j:=j) (by omega) hin he (fun j' e' h1 h2 h3 h4=>hd j' e' (by omega) h2 h3 h4)
   rw[bV]
   split
   ·rename_i e' h1 h2
    have hne:e.d≠e'.d:=fun hh=>by
     have:=hd i e' (by omega) h1 h2 hh.symm
     omega
    show look ((e'.d,e'.v)::_) e.d=_
    rw[aC hne];exact ih
   ·exact ih
theorem gj: ∀{i:Nat} {t:Nat},(∀j e,j<i→fT j=true→tr[j]? =some e→e.d≠t)→look (bV fT tr s i).sl t=look s.sl t
 |0,_,_=>rfl
 |i+1,t,h=>by
  have ih:=gj (i:=i) (t:=t) fun j e h1 h2 h3=>h j e (by omega) h2 h3
  rw[bV]
  split
  ·rename_i e' h1 h2
   have hne:t≠e'.d:=fun hh=>h i e' (by omega) h1 h2 hh.symm
   show look ((e'.d,e'.v)::_) t=_
   rw[aC hne];exact ih
  ·exact ih
theorem sH: ∀{i:Nat} {x:Nat×SV},x∈(bV fT tr s i).sl→x∈s.sl∨ ∃j e,j<i∧fT j=true∧tr[j]? =some e∧x=(e.d,e.v)
 |0,_,h=>Or.inl h
 |i+1,x,h=>by
  rw[bV]at h
  split at h
  ·rename_i e' h1 h2
   rcases List.mem_cons.1 (show x∈(e'.d,e'.v)::(bV fT tr s i).sl from h)with rfl|h
   ·exact Or.inr ⟨i,e',by omega,h1,h2,rfl⟩
   ·rcases sH h with h| ⟨j,e,a,b⟩
    ·exact Or.inl h
    ·exact Or.inr ⟨j,e,by omega,b⟩
  ·rcases sH h with h| ⟨j,e,a,b⟩
   ·exact Or.inl h
   ·exact Or.inr ⟨j,e,by omega,b⟩
def iU(tr:List TE)(s:St)(m:Nat):Prop:= ∀i e,i<m→tr[i]? =some e→ ∀n o,look e.os n=some o→look (pre tr s i).hp n=none
theorem iV{m:Nat}(hf:iU tr s m): ∀{j i:Nat},i≤j→j≤m→ ∀{n o},look (pre tr s i).hp n=some o→look (pre tr s j).hp n=some o
 |0,i,hi,_,n,o,h=>by
  have:i=0:=by omega
  subst this;exact h
 |j+1,i,hi,hm,n,o,h=>by
  by_cases hij:i=j+1
  ·subst hij;exact h
  ·have ih:=iV hf (j:=j) (i:=i) (by omega) (by omega) h
   show look (bV (fun _=>true) tr s (j+1)).hp n=_
   rw[bV]
   split
   ·rename_i e' _ h2
    show look (e'.os++(pre tr s j).hp) n=_
    cases hq:look e'.os n with
    |none=>rw[av hq];exact ih
    |some o'=>
     have:=hf j e' (by omega) h2 n o' hq
     rw[this]at ih;cases ih
   ·exact ih
theorem e9{m:Nat}(hf:iU tr s m): ∀{i:Nat},i≤m→ ∀{n o},look (bV fT tr s i).hp n=some o→look (pre tr s i).hp n=some o
 |0,_,n,o,h=>h
 |i+1,hm,n,o,h=>by
  rw[bV]at h
  split at h
  ·rename_i e' h1 h2
   have h:look (e'.os++(bV fT tr s i).hp) n=some o:=h
   rw[pre,iT rfl h2]
   show look (e'.os++(pre tr s i).hp) n=some o
   cases hq:look e'.os n with
   |none=>rw[av hq]at h ⊢;exact e9 hf (by omega) h
   |some o'=>rw[aJ hq]at h ⊢;exact h
  ·exact iV hf (Nat.le_succ i) hm (e9 hf (by omega) h)
theorem ez: ∀{i:Nat} {n:Nat} {o:Obj},look (bV fT tr s i).hp n=some o→look s.hp n=some o∨ ∃j e,j<i∧fT j=true∧tr[j]? =some e∧look e.os n=some o
 |0,_,_,h=>Or.inl h
 |i+1,n,o,h=>by
  rw[bV]at h
  split at h
  ·rename_i e' h1 h2
   have h:look (e'.os++(bV fT tr s i).hp) n=some o:=h
   cases hq:look e'.os n with
   |none=>
    rw[av hq]at h
    rcases ez h with h| ⟨j,e,a,b⟩
    ·exact Or.inl h
    ·exact Or.inr ⟨j,e,by omega,b⟩
   |some o'=>
    rw[aJ hq]at h
    exact Or.inr ⟨i,e',by omega,h1,h2,by rw[hq];exact h⟩
  ·rcases ez h with h| ⟨j,e,a,b⟩
   ·exact Or.inl h
   ·exact Or.inr ⟨j,e,by omega,b⟩
theorem fH{m:Nat}(hf:iU tr s m): ∀{i:Nat},i≤m→ ∀{n o},look s.hp n=some o→look (bV fT tr s i).hp n=some o
 |0,_,n,o,h=>h
 |i+1,hm,n,o,h=>by
  have ih:=fH hf (i:=i) (by omega) h
  rw[bV]
  split
  ·rename_i e' h1 h2
   show look (e'.os++(bV fT tr s i).hp) n=some o
   cases hq:look e'.os n with
   |none=>rw[av hq];exact ih
   |some o'=>
    have h1:=hf i e' (by omega) h2 n o' hq
    have h3:=e9 hf (by omega) ih
    rw[h1]at h3;cases h3
  ·exact ih
theorem eU{m:Nat}(hf:iU tr s m): ∀{i:Nat},i≤m→ ∀{j:Nat} {e:TE} {n:Nat} {o:Obj},j<i→fT j=true→tr[j]? =some e→look e.os n=some o→look (bV fT tr s i).hp n=some o
 |i+1,hm,j,e,n,o,hj,hin,he,h=>by
  by_cases hij:j=i
  ·subst hij
   rw[iT hin he]
   exact aJ h
  ·have ih:=eU hf (i:=i) (by omega) (j:=j) (by omega) hin he h
   rw[bV]
   split
   ·rename_i e' h1 h2
    show look (e'.os++(bV fT tr s i).hp) n=some o
    cases hq:look e'.os n with
    |none=>rw[av hq];exact ih
    |some o'=>
     have h1:=hf i e' (by omega) h2 n o' hq
     have h3:=e9 hf (by omega) ih
     rw[h1]at h3;cases h3
   ·exact ih
end
theorem uE{hp:Hp}: ∀{os:Hp},(∀n o,look os n=some o→look hp n=none∧ec n=false)→fresh hp os=true
 | [],_=>rfl
 | (n,x)::r,h=>by
   simp only[fresh,Bool.and_eq_true]
   obtain⟨h1,h2⟩:=h n x look_eq
   refine⟨⟨by rw[h1],by rw[h2];rfl⟩,uE fun k o hk=> ?_⟩
   by_cases hkn:k=n
   ·subst hkn;exact h k x look_eq
   ·exact h k o (by rw[aC hkn];exact hk)
theorem Good.congr{zb:aY}{st st':St}{tmps:Array Value}{w:World}{env:Env}(g:Good ty zb st tmps w env)(hs: ∀s v,look st'.sl s=some v→look st.sl s=some v)(hh: ∀n,look st'.hp n=look st.hp n):Good ty zb st' tmps w env:=by
 have s:Step (fun _=>True) (fun _=>True) w st.hp env w st'.hp env:=by
  refine⟨fun _ _ _=>rfl,?_,?_,?_⟩
  ·rintro b _ ⟨n,o,h1,h2⟩;exact⟨n,o,by rw[←hh];exact h1,h2⟩
  ·intro n o _ h1
   exact⟨o,by rw[hh];exact h1,by cases o<;>simp[Obj.like],rfl⟩
  ·intro n t l _ h1
   exact⟨by rw[hh];exact h1,rfl,fun _ _=>rfl⟩
 refine⟨fun n o hl=> ?_,fun n m o o' hne h1 h2=>g.eO n m o o' hne (by rw[←hh];exact h1) (by rw[←hh];exact h2),fun t v hl=>jG.step s (fun v _=>v.bQ) (g.slot t v (hs t v hl)),fun n o hl=>g.dom n o (by rw[←hh];exact hl),g.pins⟩
 exact(g.obj n o (by rw[←hh];exact hl)).step s o.bQ (fun _ _=>rfl)
end
section
variable{ty:Tag→Nat}
theorem sI{α:Type}: ∀{l:List α} {k i:Nat} {x:α},l[i]? =some x→(k+i,x)∈idx k l
 |y::r,k,0,x,h=>by simp at h;simp[idx,h]
 |y::r,k,i+1,x,h=>by
  have:=sI (l:=r) (k:=k+1) (i:=i) (by simpa using h)
  rw[idx];right
  rw[show k+(i+1)=k+1+i by omega];exact this
structure GM(ops:List Oper)(m:Nat):Prop where
 le:m≤ops.length
 back: ∀i o,ops[i]? =some o→ ∀j,j∈bK o→j<i
 uses: ∀i o,i<m→ops[i]? =some o→ ∀t,t∈tmpsOf o→ ∀k o',k<m→ops[k]? =some o'→o'.dst=some t→k=i∨k∈bK o∨(i<k∧((DX ops).getD k 0).testBit i=true)
 guard: ∀i o j x,i<m→ops[i]? =some o→o.guard=some (j,x)→j<i∧j<m∧j∈bK o
 dist: ∀i o k o' d,i<m→k<m→ops[i]? =some o→ops[k]? =some o'→o.dst=some d→o'.dst=some d→k=i
 tail: ∀i o,m≤i→ops[i]? =some o→ ∀j,j<i→((DX ops).getD i 0).testBit j=true
theorem EZ{ops:List Oper}{m:Nat}(h:Ht ops m=true):GM ops m:=by
 simp only[Ht,Bool.and_eq_true,List.all_eq_true,Bool.or_eq_true]at h
 obtain⟨⟨⟨h1,h2⟩,h3⟩,h4⟩:=h
 have hA: ∀{i o},i<m→ops[i]? =some o→(i,o)∈idx 0 (ops.take m):=by
  intro i o hi ho
  have:=sI (l:=ops.take m) (k:=0) (i:=i) (x:=o) (by rw[List.getElem?_take,if_pos hi];exact ho)
  simpa using this
 have hall: ∀{i o},ops[i]? =some o→(i,o)∈idx 0 ops:=by
  intro i o ho
  simpa using sI (l:=ops) (k:=0) ho
 refine⟨Nat.le_of_ble_eq_true h1,fun i o ho j hj=> ?_,fun i o hi ho t ht k o' hk ho' hd=> ?_,fun i o j x hi ho hg=> ?_,fun i o k o' d hi hk ho ho' hd hd'=> ?_,fun i o hi ho j hj=> ?_⟩
 ·have:=h2 _ (hall ho) j hj
  exact Nat.le_of_ble_eq_true this
 ·have hu:=(h3 _ (hA hi ho)).1.1
  simp only[A7,List.all_eq_true,Bool.or_eq_true,Bool.not_eq_true',List.any_eq_true,Bool.and_eq_true]at hu
  have J2:uA o' t=true:=by simp[uA,hd]
  rcases hu t ht _ (hA hk ho')with((q|q)|q)|q
  ·rw[J2]at q;cases q
  ·exact Or.inl (Nat.eq_of_beq_eq_true q)
  ·obtain⟨y,hy,q⟩:=q
   have J3:k=y:=Nat.eq_of_beq_eq_true q
   exact Or.inr (Or.inl (by rw[J3];exact hy))
  ·exact Or.inr (Or.inr ⟨Nat.le_of_ble_eq_true q.1,q.2⟩)
 ·have hgd:=(h3 _ (hA hi ho)).1.2
  simp only[xL,hg,Bool.and_eq_true,List.any_eq_true]at hgd
  obtain⟨⟨q1,q2⟩,y,hy,q3⟩:=hgd
  have:=Nat.eq_of_beq_eq_true q3
  exact⟨Nat.le_of_ble_eq_true q1,Nat.le_of_ble_eq_true q2,by rw[this];exact hy⟩
 ·have hds:=(h3 _ (hA hi ho)).2
  simp only[A8,hd,List.all_eq_true,Bool.or_eq_true,Bool.not_eq_true']at hds
  rcases hds _ (hA hk ho')with q|q
  ·exact Nat.eq_of_beq_eq_true q
  ·simp[uA,hd']at q
 ·rcases h4 _ (hall ho)with q|q
  ·have:=Nat.le_of_ble_eq_true q
   simp only at this
   omega
  ·exact q j (List.mem_range.2 hj)
theorem xM: ∀(l:List Oper) (acc:List Nat),(∀j,j<acc.length→(l.foldl cP acc).getD j 0=acc.getD j 0)∧
  ∀i o,l[i]? =some o→(∀j,j∈bK o→j<acc.length+i)→(l.foldl cP acc).getD (acc.length+i) 0=(bK o).foldl (fun s j=>s|||2^j||| (l.foldl cP acc).getD j 0) 0
 | [],acc=>⟨fun _ _=>rfl,fun i o h=>by simp at h⟩
 |o::r,acc=>by
  obtain⟨h1,h2⟩:=xM r (cP acc o)
  have hl:(cP acc o).length=acc.length+1:=by simp[cP]
  have ha: ∀j,j<acc.length→((o::r).foldl cP acc).getD j 0=acc.getD j 0:=by
   intro j hj
   rw[List.foldl_cons,h1 j (by omega)]
   simp only[cP,List.getD_eq_getElem?_getD]
   rw[List.getElem?_append_left hj]
  refine⟨ha,fun i o' ho hj=> ?_⟩
  cases i with
  |zero=>
   simp at ho
   subst ho
   rw[Nat.add_zero,List.foldl_cons,h1 _ (by omega)]
   have:(cP acc o).getD acc.length 0=(bK o).foldl (fun s j=>s|||2^j|||acc.getD j 0) 0:=by
    simp[cP,List.getD_eq_getElem?_getD]
   rw[this]
   have GN: ∀(es:List Nat) (s0:Nat),(∀j,j∈es→j<acc.length)→es.foldl (fun s j=>s|||2^j|||acc.getD j 0) s0=es.foldl (fun s j=>s|||2^j||| (r.foldl cP (cP acc o)).getD j 0) s0:=by
    intro es
    induction es with
    |nil=>intros;rfl
    |cons j es ih=>
     intro s0 hh
     rw[List.foldl_cons,List.foldl_cons,ih _ fun k hk=>hh k (by simp[hk])]
     have:=ha j (hh j (by simp))
     rw[List.foldl_cons]at this
     rw[this]
   exact GN _ _ fun j Ig=>by simpa using hj j Ig
  |succ i=>
   have:=h2 i o' (by simpa using ho) (fun j Ig=>by rw[hl];have:=hj j Ig;omega)
   rw[hl,show acc.length+1+i=acc.length+(i+1)by omega]at this
   rw[List.foldl_cons];exact this
theorem pR(g:Nat→Nat)(k:Nat): ∀(es:List Nat) (s0:Nat),(es.foldl (fun s j=>s|||2^j|||g j) s0).testBit k=true→s0.testBit k=true∨ ∃j,j∈es∧(k=j∨(g j).testBit k=true)
 | [],s0,h=>Or.inl h
 |j::es,s0,h=>by
  rcases pR g k es _ h with h| ⟨i,hi,h⟩
  ·rw[Nat.testBit_or,Nat.testBit_or,Nat.testBit_two_pow]at h
   simp only[Bool.or_eq_true,decide_eq_true_eq]at h
   rcases h with(h|h)|h
   ·exact Or.inl h
   ·exact Or.inr ⟨j,by simp,Or.inl h.symm⟩
   ·exact Or.inr ⟨j,by simp,Or.inr h⟩
  ·exact Or.inr ⟨i,by simp[hi],h⟩
theorem wD{ops:List Oper}(hb: ∀i o,ops[i]? =some o→ ∀j,j∈bK o→j<i){D:Nat→Prop}(hD: ∀i o,D i→ops[i]? =some o→ ∀j,j∈bK o→D j): ∀(i:Nat) (o:Oper),ops[i]? =some o→(∀j,j∈bK o→D j)→ ∀k,((DX ops).getD i 0).testBit k=true→D k:=by
 intro i
 induction i using Nat.strongRecOn with
 |_ i ih=>
  intro o ho he k hk
  have:=(xM ops []).2 i o ho (fun j hj=>by simpa using hb i o ho j hj)
  simp only[List.length_nil,Nat.zero_add]at this
  have hc:(DX ops).getD i 0=(bK o).foldl (fun s j=>s|||2^j||| (DX ops).getD j 0) 0:=this
  rw[hc]at hk
  rcases pR _ k _ _ hk with h| ⟨j,hj,h⟩
  ·simp at h
  ·rcases h with rfl|h
   ·exact he k hj
   ·have hji:=hb i o ho j hj
    have hlen:j<ops.length:=by have:=(List.getElem?_eq_some_iff.1 ho).1;omega
    exact ih j hji ops[j] (List.getElem?_eq_getElem hlen) (hD j _ (he j hj) (List.getElem?_eq_getElem hlen)) k h
section
variable{P:Program}{Γ:Nat→TK}{bD:List (Nat×Nat)}{cr:List (Nat×CR)}{ops:List Oper}{m:Nat}{s:St}{tr:List TE}{vcs:List Prop}
theorem dU{E:Tag→Nat→Prop}{S:FuncId→List S1→List S1→Prop}{st:St}{o:Oper}{vc:List Prop}{v:SV}{os:Hp}(h:eJ Γ E S bD cr ops st o=some (vc,v,os)):
  ∃p,cT st ops o=some p∧(p= []→ ∀q x,v≠ .cond q x)∧(p≠ []→(∃x,v= .cond p x)∧os= []∧ ∀d,o.dst=some d→ ∀e,e∈p→e.1≠d)∧(∀n x,look os n=some x→look st.hp n=none∧ec n=false):=by
 unfold eJ at h
 split at h
 ·rename_i nm _ _ hg
  split at h
  ·rename_i j7 v1 J1 hq
   split at h
   ·rename_i hf _
    simp only[Option.some.injEq,Prod.mk.injEq]at h
    obtain⟨_,rfl,rfl⟩:=h
    refine⟨[],hg,fun _ q x=> ?_,fun hh=>absurd rfl hh,fun n x hl=>⟨eW hf n x hl,mh hf n x hl⟩⟩
    rintro rfl
    unfold quiet zZ at hq
    repeat' split at hq
    all_goals first
     | (cases hq;done)
     | (simp only[bn,Option.some.injEq,Out.mk.injEq]at hq;cases hq.2.1;done)
     | (simp only[Option.some.injEq,Out.mk.injEq]at hq;cases hq.2.1;done)
     | (simp only[Option.some.injEq]at hq;unfold outs at hq;(repeat' split at hq)<;>(simp only[Out.mk.injEq]at hq;cases hq.2.1))
   ·cases h
  ·cases h
 ·rename_i nm e p _ _ hg
  split at h
  ·rename_i GO
   split at h
   ·rename_i j7 v1 hq
    simp only[Option.some.injEq,Prod.mk.injEq]at h
    obtain⟨_,rfl,rfl⟩:=h
    refine⟨e::p,hg,(fun hh=>by cases hh),fun _=>⟨⟨_,rfl⟩,rfl,fun d hd x hx J4=> ?_⟩,fun n x hl=>by simp[look]at hl⟩
    rw[List.any_eq_false]at GO
    exact GO x hx (by rw[hd,J4];simp)
   ·cases h
  ·cases h
 ·cases h
theorem Trace.fresh{E:Tag→Nat→Prop}{S:FuncId→List S1→List S1→Prop}(T:Trace Γ E S bD cr ops m s tr vcs):iU tr s m:=by
 intro i e hi he n x hl
 obtain⟨o,e',vc,_,he',_,_,hq,_⟩:=T.one i hi
 rw[he]at he'
 simp only[Option.some.injEq]at he'
 subst he'
 obtain⟨p,_,_,_,hf⟩:=dU hq
 exact(hf n x hl).1
theorem Trace.path{E:Tag→Nat→Prop}{S:FuncId→List S1→List S1→Prop}(T:Trace Γ E S bD cr ops m s tr vcs)(K:GM ops m): ∀(i:Nat),i<m→ ∀o p,ops[i]? =some o→cT (pre tr s i) ops o=some p→ ∀e,e∈p→
  ∃k o',k<i∧ops[k]? =some o'∧o'.dst=some e.1∧ ∀D:Nat→Prop,(∀i o,D i→ops[i]? =some o→ ∀j,j∈bK o→D j)→(∀j,j∈bK o→D j)→D k:=by
 intro i
 induction i using Nat.strongRecOn with
 |_ i ih=>
  intro hi o p ho hg e he
  unfold cT at hg
  split at hg
  ·simp at hg;subst hg;simp at he
  ·rename_i j x hgd
   obtain⟨hji,Ih,FP⟩:=K.guard i o j x hi ho hgd
   obtain⟨q,ej,J5,hq,Ii,DY,_,E0,_⟩:=T.one j Ih
   rw[hq]at hg
   dsimp only at hg
   rw[DY]at hg
   dsimp only at hg
   have qo:look (pre tr s i).sl ej.d=some ej.v:=by
    refine ey hji rfl Ii fun j' e' h1 _ h3 h4=> ?_
    obtain⟨q',e2,_,E1,qu,hd2,_⟩:=T.one j' (by omega)
    rw[h3]at qu
    simp only[Option.some.injEq]at qu
    subst qu
    exact K.dist j q j' q' ej.d Ih (by omega) hq E1 DY (by rw[hd2,h4])
   rw[qo]at hg
   obtain⟨pj,GP,cR,cg,_⟩:=dU E0
   have base: ∃k o',k<i∧ops[k]? =some o'∧o'.dst=some ej.d∧ ∀D:Nat→Prop,(∀i o,D i→ops[i]? =some o→ ∀j,j∈bK o→D j)→(∀j,j∈bK o→D j)→D k:=
    ⟨j,q,hji,hq,DY,fun D _ hE=>hE j FP⟩
   split at hg
   ·simp only[Option.some.injEq]at hg
    subst hg
    simp only[List.mem_singleton]at he
    subst he
    exact base
   ·rename_i p' b hv
    simp only[Option.some.injEq]at hv
    simp only[Option.some.injEq]at hg
    subst hg
    rcases List.mem_cons.1 he with rfl|he
    ·exact base
    ·have GJ:pj=p':=by
      by_cases hnil:pj= []
      ·exact absurd hv (cR hnil _ _)
      ·obtain⟨x',hx'⟩:=(cg hnil).1
       rw[hx']at hv
       simp only[SV.cond.injEq]at hv
       exact hv.1
     subst GJ
     obtain⟨k,o',h1,h2,h3,h4⟩:=ih j hji Ih q pj hq GP e he
     exact⟨k,o',by omega,h2,h3,fun D hD hE=>h4 D hD (hD j q (hE j FP) hq)⟩
   ·cases hg
theorem zc(C: ∀t,aQ P t (Γ t))(T:Trace Γ (yC P ty) (Sound ty P) bD cr ops m s tr vcs)(K:GM ops m)(hv: ∀q,q∈vcs→q)(hnc:sD s.sl=true){zb:aY}{Q:Exit→Act→World→Prop}{D:Nat→Bool}(KJ: ∀i,D i=true→i<m)(GQ: ∀i o,D i=true→ops[i]? =some o→ ∀j,j∈bK o→D j=true)
  {i:Nat}(hi:i<m)(Hu:D i=false){o:Oper}(ho:ops[i]? =some o)(hE: ∀j,j∈bK o→D j=true){a:Act}{w:World}(iv:Inv ty zb (bV D tr s m) a w):
  mu P ops.toArray o a w (fun a' w'=>Inv ty zb (bV (fun j=>D j||j==i) tr s m) a' w') Q:=by
 obtain⟨o',e,vc,ho',he,hd,hnm,hq,F8⟩:=T.one i hi
 rw[ho]at ho'
 simp only[Option.some.injEq]at ho'
 subst ho'
 have hfr:=T.fresh
 have hdist: ∀{j e'},j<m→tr[j]? =some e'→ ∃q,ops[j]? =some q∧q.dst=some e'.d:=by
  intro j e' hj he'
  obtain⟨q,e2,_,E1,qu,hd2,_⟩:=T.one j hj
  rw[he']at qu
  simp only[Option.some.injEq]at qu
  subst qu
  exact⟨q,E1,hd2⟩
 have uF: ∀{j j':Nat} {e1 e2:TE},j<m→j'<m→tr[j]? =some e1→tr[j']? =some e2→e2.d=e1.d→j'=j:=by
  intro j j' e1 e2 h1 h2 h3 h4 h5
  obtain⟨q1,p1,p2⟩:=hdist h1 h3
  obtain⟨q2,p3,p4⟩:=hdist h2 h4
  exact K.dist j q1 j' q2 e1.d h1 h2 p1 p3 p2 (by rw[p4,h5])
 have aB: ∀t,(∀k o',k<m→ops[k]? =some o'→o'.dst=some t→k=i∨(k<i∧D k=true)∨(i<k∧D k=false))→look (pre tr s i).sl t=look (bV D tr s m).sl t:=by
  intro t ht
  by_cases hex: ∃k e',k<i∧D k=true∧tr[k]? =some e'∧e'.d=t
  ·obtain⟨k,e',hk,oV,he',rfl⟩:=hex
   rw[ey hk rfl he' fun j' e2 h1 _ h3 h4=>uF (by omega) (by omega) he' h3 h4,ey (by omega) oV he' fun j' e2 h1 _ h3 h4=>uF (by omega) h1 he' h3 h4]
  ·rw[gj (fun k e' hk _ he' hdt=>by
      obtain⟨q,h1,h2⟩:=hdist (by omega) he'
      rcases ht k q (by omega) h1 (by rw[h2,hdt])with h|h|h
      ·omega
      ·exact hex ⟨k,e',hk,h.2,he',hdt⟩
      ·omega),
    gj (fun k e' hk oV he' hdt=>by
     obtain⟨q,h1,h2⟩:=hdist hk he'
     rcases ht k q hk h1 (by rw[h2,hdt])with h|h|h
     ·subst h;rw[Hu]at oV;cases oV
     ·exact hex ⟨k,e',h.1,h.2,he',hdt⟩
     ·rw[h.2]at oV;cases oV)]
 obtain⟨p,ef,cR,cg,tX⟩:=dU hq
 have GR: ∀x,x∈p→ ∃k o',k<i∧ops[k]? =some o'∧o'.dst=some x.1∧D k=true:=by
  intro x hx
  obtain⟨k,o',h1,h2,h3,h4⟩:=T.path K i hi o p ho ef x hx
  exact⟨k,o',h1,h2,h3,h4 (fun j=>D j=true) GQ hE⟩
 have xN: ∀x,x∈p→look (pre tr s i).sl x.1=look (bV D tr s m).sl x.1:=by
  intro x hx
  obtain⟨k,o',h1,h2,h3,h4⟩:=GR x hx
  refine aB x.1 fun k' o2 hk' GS hd2=> ?_
  have:k'=k:=K.dist k o' k' o2 x.1 (by omega) hk' h2 GS h3 hd2
  subst this
  exact Or.inr (Or.inl ⟨h1,h4⟩)
 have iR:cT (bV D tr s m) ops o=some p:=by
  rw[←ef]
  unfold cT
  split
  ·rfl
  ·rename_i j x hgd
   split
   ·rename_i q xO
    split
    ·rename_i d Cg
     have hmem: ∃y,(d,y)∈p:=by
      unfold cT at ef
      rw[hgd]at ef
      dsimp only at ef
      rw[xO]at ef
      dsimp only at ef
      rw[Cg]at ef
      dsimp only at ef
      split at ef
      ·simp only[Option.some.injEq]at ef;exact⟨x,by rw[←ef];simp⟩
      ·simp only[Option.some.injEq]at ef;exact⟨x,by rw[←ef];simp⟩
      ·cases ef
     obtain⟨y,hy⟩:=hmem
     rw[←xN (d,y) hy]
    ·rfl
   ·rfl
 have E2:fresh (bV D tr s m).hp e.os=true:=by
  refine uE fun n x hl=> ?_
  cases zA:look (bV D tr s m).hp n with
  |none=>exact⟨rfl,(tX n x hl).2⟩
  |some y=>
   exfalso
   have hpi:=hfr i e hi he n x hl
   rcases ez zA with h| ⟨j,e',hj,A9,he',h⟩
   ·have:=fH (fT:=fun _=>true) hfr (i:=i) (by omega) h
    rw[show bV (fun _=>true) tr s i=pre tr s i from rfl,hpi]at this
    cases this
   ·have hji:j≠i:=by rintro rfl;rw[Hu]at A9;cases A9
    by_cases hlt:j<i
    ·have:=eU (fT:=fun _=>true) hfr (i:=i) (by omega) hlt rfl he' h
     rw[show bV (fun _=>true) tr s i=pre tr s i from rfl,hpi]at this
     cases this
    ·have h2:=hfr j e' hj he' n y h
     have:=eU (fT:=fun _=>true) hfr (i:=j) (by omega) (j:=i) (by omega) rfl he hl
     rw[show bV (fun _=>true) tr s j=pre tr s j from rfl,h2]at this
     cases this
 have GU:((bV D tr s m).sl.any fun x=>x.2.mentions e.d)=false:=by
  rw[List.any_eq_false]
  intro x hx hm
  rcases sH hx with h| ⟨j,e',hj,A9,he',rfl⟩
  ·simp only[sD,List.all_eq_true]at hnc
   have:=hnc x h
   cases nE:x.2 with
   |cond q y=>simp[nE]at this
   |one y=>simp[nE,SV.mentions]at hm
   |l9 y=>simp[nE,SV.mentions]at hm
  ·obtain⟨q,e2,EL,xO,qu,hd2,_,E0,_⟩:=T.one j hj
   rw[he']at qu
   simp only[Option.some.injEq]at qu
   subst qu
   obtain⟨pj,GP,hj0,CJ,_⟩:=dU E0
   by_cases hnil:pj= []
   ·cases nE:e'.v with
    |cond q y=>exact hj0 hnil _ _ nE
    |one y=>simp[nE,SV.mentions]at hm
    |l9 y=>simp[nE,SV.mentions]at hm
   ·obtain⟨y,hy⟩:=(CJ hnil).1
    simp only[hy,SV.mentions,List.any_eq_true]at hm
    obtain⟨z,hz,hzd⟩:=hm
    have hzd:=Nat.eq_of_beq_eq_true hzd
    obtain⟨k,o2,k1,k2,k3,k4⟩:=T.path K j hj q pj xO GP z hz
    have oV:=k4 (fun j=>D j=true) GQ (GQ j q A9 xO)
    have:k=i:=K.dist i o k o2 e.d hi (by omega) ho k2 hd (by rw[k3,hzd])
    subst this
    rw[Hu]at oV;cases oV
 have Ix:e.v.mentions e.d=false:=by
  by_cases hnil:p= []
  ·cases nE:e.v with
   |cond q y=>exact absurd nE (cR hnil _ _)
   |one y=>rfl
   |l9 y=>rfl
  ·obtain⟨⟨y,hy⟩,_,hne⟩:=cg hnil
   rw[hy]
   simp only[SV.mentions]
   rw[List.any_eq_false]
   intro z hz hb
   exact hne e.d hd z hz (Nat.eq_of_beq_eq_true hb)
 have behind: ∀a' w',Inv ty zb (app (bV D tr s m) e) a' w'→Inv ty zb (bV (fun j=>D j||j==i) tr s m) a' w':=by
  intro a' w' jA
  obtain⟨env,g⟩:=jA.good
  refine⟨by rw[jA.size,nq];show(bV D tr s m).n=s.n;exact nq m,jA.defers,jA.kept,jA.vO,env,g.congr ?_ ?_⟩
  ·intro t v hl
   show look ((e.d,e.v)::(bV D tr s m).sl) t=some v
   by_cases ht:t=e.d
   ·subst ht
    rw[ey hi (by simp) he fun j' e2 h1 _ h3 h4=>uF hi h1 he h3 h4]at hl
    rw[look_eq];exact hl
   ·rw[aC ht]
    by_cases hex: ∃k e',k<m∧D k=true∧tr[k]? =some e'∧e'.d=t
    ·obtain⟨k,e',hk,oV,he',rfl⟩:=hex
     rw[ey hk (by simp[oV]) he' fun j' e2 h1 _ h3 h4=>uF hk h1 he' h3 h4]at hl
     rw[ey hk oV he' fun j' e2 h1 _ h3 h4=>uF hk h1 he' h3 h4]
     exact hl
    ·rw[gj fun k e' hk oV he' hdt=>by
      simp only[Bool.or_eq_true,beq_iff_eq]at oV
      rcases oV with h|rfl
      ·exact hex ⟨k,e',hk,h,he',hdt⟩
      ·rw[he]at he'
       simp only[Option.some.injEq]at he'
       exact ht (by rw[he',hdt])]at hl
     rw[gj fun k e' hk oV he' hdt=>hex ⟨k,e',hk,oV,he',hdt⟩]
     exact hl
  ·intro n
   show look (bV (fun j=>D j||j==i) tr s m).hp n=look (e.os++(bV D tr s m).hp) n
   cases hl:look e.os n with
   |some x=>
    rw[aJ hl]
    exact eU hfr (Nat.le_refl _) hi (by simp) he hl
   |none=>
    rw[av hl]
    cases hx:look (bV (fun j=>D j||j==i) tr s m).hp n with
    |some y=>
     rcases ez hx with h| ⟨j,e',hj,A9,he',h⟩
     ·exact(fH hfr (Nat.le_refl _) h).symm
     ·have hji:j≠i:=by
       rintro rfl
       rw[he]at he'
       simp only[Option.some.injEq]at he'
       subst he'
       rw[hl]at h;cases h
      have A9:D j=true:=by
       simp only[Bool.or_eq_true,beq_iff_eq]at A9
       exact A9.resolve_right hji
      exact(eU hfr (Nat.le_refl _) hj A9 he' h).symm
    |none=>
     cases hy:look (bV D tr s m).hp n with
     |none=>rfl
     |some y=>
      rcases ez hy with h| ⟨j,e',hj,A9,he',h⟩
      ·rw[fH hfr (Nat.le_refl _) h]at hx;cases hx
      ·rw[eU hfr (Nat.le_refl _) hj (by simp[A9]) he' h]at hx;cases hx
 have hput:St.put ⟨(bV D tr s m).n,(bV D tr s m).sl,e.os++(bV D tr s m).hp⟩ o.dst e.v=app (bV D tr s m) e:=by
  rw[hd]
  simp only[St.put,GU]
  rfl
 by_cases hw:Region.wanted o (yielded ops.toArray a.tmps)=true
 ·have hh:holds a.tmps p:=by
   obtain⟨env,g⟩:=iv.good
   unfold cT at iR
   split at iR
   ·simp at iR;subst iR;intro y hy;simp at hy
   ·rename_i j x hgd
    split at iR
    ·rename_i q xO
     split at iR
     ·rename_i d Cg
      have Ij:=(j8 (ops:=ops.toArray) hgd (by simpa using xO) Cg a.tmps).1 hw
      split at iR
      ·simp only[Option.some.injEq]at iR
       subst iR
       intro y hy
       simp at hy
       subst hy
       exact Ij
      ·rename_i p' b hl
       simp only[Option.some.injEq]at iR
       subst iR
       intro y hy
       rcases List.mem_cons.1 hy with rfl|hy
       ·exact Ij
       ·exact(mq g hl Ij).1 y hy
      ·cases iR
     ·cases iR
    ·cases iR
  obtain⟨env,g⟩:=iv.good
  have CZ:Compat (pre tr s i).hp (bV D tr s m).hp:=by
   intro n x y h1 h2
   have h3:=iV hfr (Nat.le_of_lt hi) (Nat.le_refl m) h1
   have h4:=e9 hfr (Nat.le_refl m) h2
   rw[h3]at h4
   simpa using h4
  have hmono:=wC CZ g (by rw[nq,nq]) ef iR hh (fun x hx t J6=>aB t fun k o2 hk GS hd2=>by
    have ht:t∈tmpsOf o:=by
     simp only[tmpsOf,List.mem_filterMap]
     exact⟨x,hx,by rw[J6]⟩
    rcases K.uses i o hi ho t ht k o2 hk GS hd2 with h|h|h
    ·exact Or.inl h
    ·exact Or.inr (Or.inl ⟨K.back i o ho k h,hE k h⟩)
    ·refine Or.inr (Or.inr ⟨h.1,?_⟩)
     cases oV:D k with
     |false=>rfl
     |true=>
      have:=wD (D:=fun j=>D j=true) K.back GQ k o2 GS (GQ k o2 oV GS) i h.2
      rw[Hu]at this;cases this) xN E2 hq
  have:=tS (Q:=Q) C hmono iv (fun q hq=>hv q (F8 q hq))
  rw[hput]at this
  exact this.mono behind
 ·unfold mu
  rw[if_neg hw]
  have hnil:p≠ []:=by
   rintro rfl
   unfold cT at ef
   split at ef
   ·rename_i hgd;exact hw (by simp[Region.wanted,hgd])
   ·repeat' split at ef
    all_goals simp at ef
  obtain⟨⟨y,hy⟩,hos,_⟩:=cg hnil
  have J7: ¬holds a.tmps p:=by
   intro hh
   unfold cT at ef
   split at ef
   ·rename_i hgd;exact hw (by simp[Region.wanted,hgd])
   ·rename_i j x hgd
    split at ef
    ·rename_i q xO
     split at ef
     ·rename_i d Cg
      have J8:(d,x)∈p:=by
       split at ef
       ·simp only[Option.some.injEq]at ef;rw[←ef];simp
       ·simp only[Option.some.injEq]at ef;rw[←ef];simp
       ·cases ef
      exact hw ((j8 (ops:=ops.toArray) hgd (by simpa using xO) Cg a.tmps).2 (hh _ J8))
     ·cases ef
    ·cases ef
  apply behind
  obtain⟨env,g⟩:=iv.good
  have hlt:e.d<a.tmps.size:=by
   unfold eJ at hq
   have:m6 (pre tr s i) o.dst=true:=by
    cases GV:m6 (pre tr s i) o.dst with
    |true=>rfl
    |false=>rw[GV]at hq;simp at hq
   rw[hd]at this
   rw[iv.size,nq]
   have:=Nat.le_of_ble_eq_true this
   rw[show(pre tr s i).n=s.n from nq i]at this
   exact this
  have GW:=g.put (d:=e.d) hlt (v:=e.v) (u:=undef) (by rw[hy];exact⟨fun hh=>absurd hh J7,fun _=>rfl⟩) Ix
  refine⟨by rw[eX];exact iv.size,by rw[put_defers];exact iv.defers,iv.kept,iv.vO,env,?_⟩
  rw[hd]
  have Ik:(bV D tr s m).put (some e.d) e.v=app (bV D tr s m) e:=by
   simp only[St.put,GU,app,hos]
   rfl
  rw[Ik]at GW
  exact GW
end
end
section
variable{ty:Tag→Nat}
theorem gk{ops:List Oper}{listed:Array Bool}(hl:listed.size=ops.length){i:Nat}:i∈Region.ready .any ops.toArray listed↔ ∃o,ops[i]? =some o∧listed.getD i false=false∧ ∀j,j∈bK o→listed.getD j false=true:=by
 unfold Region.ready
 rw[List.mem_filter,List.mem_range]
 simp only[List.size_toArray,List.getElem?_toArray,Bool.and_eq_true,Bool.not_eq_true']
 constructor
 ·rintro⟨hi,h1,h2⟩
  refine⟨ops[i],List.getElem?_eq_getElem hi,?_,?_⟩
  ·have:listed[i]? =some listed[i]:=by simp[hl,hi]
   rw[Array.getD_eq_getD_getElem?,this]at h1 ⊢
   exact h1
  ·intro j hj
   simp only[bK,List.mem_filterMap,Array.mem_toList_iff]at hj
   obtain⟨e,he,hj⟩:=hj
   split at hj
   ·rename_i hb
    simp only[Option.some.injEq]at hj
    subst hj
    rw[List.getElem?_eq_getElem hi]at h2
    simp only[Option.map_some,Option.getD_some]at h2
    have:=Array.all_eq_true_iff_forall_mem.1 h2 e he
    simpa[hb]using this
   ·cases hj
 ·rintro⟨o,ho,h1,h2⟩
  have hi:=(List.getElem?_eq_some_iff.1 ho).1
  refine⟨hi,?_,?_⟩
  ·have:listed[i]? =some listed[i]:=by simp[hl,hi]
   rw[Array.getD_eq_getD_getElem?,this]at h1 ⊢
   exact h1
  ·rw[ho]
   simp only[Option.map_some,Option.getD_some]
   rw[Array.all_eq_true_iff_forall_mem]
   intro e he
   cases hb:Region.binds .any e with
   |false=>simp
   |true=>
    have:=h2 e.on (by
     simp only[bK,List.mem_filterMap,Array.mem_toList_iff]
     exact⟨e,he,by simp[hb]⟩)
    simp[this]
theorem uG{listed:Array Bool}{i j:Nat}(hi:i<listed.size):(listed.setIfInBounds i true).getD j false=(listed.getD j false||j==i):=by
 rw[Array.getD_eq_getD_getElem?,Array.getD_eq_getD_getElem?]
 by_cases hij:i=j
 ·subst hij
  rw[Array.getElem?_setIfInBounds_self_of_lt hi];simp
 ·rw[Array.getElem?_setIfInBounds_ne hij]
  simp[show¬j=i from fun h=>hij h.symm]
def cnt(n:Nat)(D:Nat→Bool):Nat:=((List.range n).filter fun i=> !D i).length
theorem filter_lt{p q:Nat→Bool}: ∀{l:List Nat},(∀x,x∈l→q x=true→p x=true)→(∃x,x∈l∧p x=true∧q x=false)→(l.filter q).length<(l.filter p).length
 |y::r,h,⟨x,hx,hp,hq⟩=>by
  have le: ∀{l:List Nat},(∀x,x∈l→q x=true→p x=true)→(l.filter q).length≤(l.filter p).length:=by
   intro l
   induction l with
   |nil=>intro _;simp
   |cons z l ih=>
    intro hh
    have:=ih fun x hx=>hh x (by simp[hx])
    cases hz:q z with
    |true=>rw[List.filter_cons_of_pos hz,List.filter_cons_of_pos (hh z (by simp) hz)];simp;exact this
    |false=>
     rw[List.filter_cons_of_neg (by simp[hz])]
     cases I8:p z with
     |true=>rw[List.filter_cons_of_pos I8];simp;omega
     |false=>rw[List.filter_cons_of_neg (by simp[I8])];exact this
  rcases List.mem_cons.1 hx with rfl|hx
  ·rw[List.filter_cons_of_neg (by simp[hq]),List.filter_cons_of_pos hp]
   have:=le (l:=r) fun x hx=>h x (by simp[hx])
   simp;omega
  ·have ih:=filter_lt (l:=r) (fun x hx=>h x (by simp[hx])) ⟨x,hx,hp,hq⟩
   cases hy:q y with
   |true=>rw[List.filter_cons_of_pos hy,List.filter_cons_of_pos (h y (by simp) hy)];simp;exact ih
   |false=>
    rw[List.filter_cons_of_neg (by simp[hy])]
    cases DZ:p y with
    |true=>rw[List.filter_cons_of_pos DZ];simp;omega
    |false=>rw[List.filter_cons_of_neg (by simp[DZ])];exact ih
theorem C0{n i:Nat}{D:Nat→Bool}(hi:i<n)(hD:D i=false):cnt n (fun j=>D j||j==i)<cnt n D:=by
 refine filter_lt ?_ ⟨i,List.mem_range.2 hi,by simp[hD],by simp⟩
 intro x _ h
 simp only[Bool.not_eq_true',Bool.or_eq_false_iff]at h
 simp[h.1]
theorem Ba{n:Nat}{D:Nat→Bool}(h:cnt n D=0): ∀i,i<n→D i=true:=by
 intro i hi
 have:=List.eq_nil_of_length_eq_zero h
 cases hd:D i with
 |true=>rfl
 |false=>
  have:i∈(List.range n).filter fun i=> !D i:=List.mem_filter.2 ⟨List.mem_range.2 hi,by simp[hd]⟩
  simp_all
section
variable{P:Program}{Γ:Nat→TK}{bD:List (Nat×Nat)}{cr:List (Nat×CR)}{ops:List Oper}{m:Nat}{s:St}{tr:List TE}{zb:aY}{Q:Exit→Act→World→Prop}
theorem Bb(X:Ctx P ty Γ)(K:GM ops m){vcs:List Prop}{ke:St}(hv: ∀q,q∈vcs→q)(hQ: ∀a w,Inv ty zb ke a w→Q .normal a w): ∀(fuel k:Nat) (st:St) (acc:List Prop) (listed:Array Bool) (a:Act) (w:World),m≤k→k≤ops.length→ops.length-k≤fuel→listed.size=ops.length→
  (∀i,listed.getD i false=true↔i<k)→run P ty Γ bD cr ops (ops.drop k) st acc=some (vcs,ke)→Inv ty zb st a w→wpAny P .any ops.toArray Q fuel listed a w:=by
 have fin: ∀{k st acc a w},ops.length≤k→run P ty Γ bD cr ops (ops.drop k) st acc=some (vcs,ke)→Inv ty zb st a w→Q .normal a w:=by
  intro k st acc a w hk hr iv
  rw[List.drop_eq_nil_of_le hk]at hr
  simp only[run,Option.some.injEq,Prod.mk.injEq]at hr
  exact hQ a w (hr.2▸iv)
 have J9: ∀{k:Nat} {listed:Array Bool},k<ops.length→listed.size=ops.length→(∀i,listed.getD i false=true↔i<k)→k∈Region.ready .any ops.toArray listed:=by
  intro k listed hk hl hL
  rw[gk hl]
  refine⟨ops[k],List.getElem?_eq_getElem hk,?_,fun j hj=>(hL j).2 (K.back k _ (List.getElem?_eq_getElem hk) j hj)⟩
  cases h:listed.getD k false with
  |false=>rfl
  |true=>have:=(hL k).1 h;omega
 intro fuel
 induction fuel with
 |zero=>
  intro k st acc listed a w hmk hkn hf hl hL hr iv
  refine⟨?_,fin (by omega) hr iv⟩
  apply List.eq_nil_iff_forall_not_mem.2
  intro i hi
  obtain⟨o,ho,h1,_⟩:=(gk hl).1 hi
  have:=(List.getElem?_eq_some_iff.1 ho).1
  rw[(hL i).2 (by omega)]at h1
  cases h1
 |succ fuel ih=>
  intro k st acc listed a w hmk hkn hf hl hL hr iv
  refine⟨fun hnil=> ?_,fun i hi=> ?_⟩
  ·by_cases hk:k<ops.length
   ·have:=J9 hk hl hL
    rw[hnil]at this
    simp at this
   ·exact fin (by omega) hr iv
  ·obtain⟨o,ho,h1,h2⟩:=(gk hl).1 hi
   have hin:=(List.getElem?_eq_some_iff.1 ho).1
   have hki:k≤i:=by
    rcases Nat.lt_or_ge i k with h|h
    ·rw[(hL i).2 h]at h1;cases h1
    ·exact h
   have hik:i=k:=by
    rcases Nat.lt_or_ge k i with h|h
    ·exfalso
     have hc: ∀i o,listed.getD i false=true→ops[i]? =some o→ ∀j,j∈bK o→listed.getD j false=true:=fun i o hi ho j hj=>(hL j).2 (by have:=K.back i o ho j hj;have:=(hL i).1 hi;omega)
     have:=wD (D:=fun j=>listed.getD j false=true) K.back hc i o ho h2 k (K.tail i o (by omega) ho k h)
     have:=(hL k).1 this
     omega
    ·omega
   subst hik
   have GX:ops.drop i=o::ops.drop (i+1):=by
    rw[List.drop_eq_getElem_cons hin]
    congr 1
    have:=List.getElem?_eq_getElem hin
    rw[ho]at this
    simpa using this.symm
   rw[GX]at hr
   obtain⟨vc,qp,hs,B9⟩:=jz hr
   have hstep:=sw (Q:=Q) X.kind X.one hs iv (fun q hq=>hv q (lC B9 q (List.mem_append_left _ hq)))
   unfold wpOp
   rw[List.getElem?_toArray,ho]
   dsimp only
   have:=hstep.mono fun a' w' jA=>ih (i+1) qp _ (listed.setIfInBounds i true) a' w' (by omega) (by omega) (by omega) (by simpa using hl)
    (fun j=>by
     rw[uG (by omega)]
     simp only[Bool.or_eq_true,beq_iff_eq,hL]
     omega) B9 jA
   exact this
theorem Bc(X:Ctx P ty Γ)(K:GM ops m){j7 vcs:List Prop}{ke:St}(T:Trace Γ (yC P ty) (Sound ty P) bD cr ops m s tr vcs)(hnc:sD s.sl=true)(hv: ∀q,q∈vcs→q)(hQ: ∀a w,Inv ty zb ke a w→Q .normal a w)
  (hr:run P ty Γ bD cr ops (ops.drop m) (pre tr s m) j7=some (vcs,ke)): ∀(fuel:Nat) (listed:Array Bool) (a:Act) (w:World),cnt ops.length (fun i=>listed.getD i false)≤fuel→listed.size=ops.length→(∀i,listed.getD i false=true→i<m)→
  (∀i o,listed.getD i false=true→ops[i]? =some o→ ∀j,j∈bK o→listed.getD j false=true)→Inv ty zb (bV (fun i=>listed.getD i false) tr s m) a w→wpAny P .any ops.toArray Q fuel listed a w:=by
 have all: ∀{listed:Array Bool} {fuel:Nat} {a:Act} {w:World},listed.size=ops.length→(∀i,listed.getD i false=true→i<m)→(∀i,i<m→listed.getD i false=true)→cnt ops.length (fun i=>listed.getD i false)≤fuel→Inv ty zb (bV (fun i=>listed.getD i false) tr s m) a w→wpAny P .any ops.toArray Q fuel listed a w:=by
  intro listed fuel a w hl h1 h2 hf iv
  have heq: ∀i,i≤m→bV (fun i=>listed.getD i false) tr s i=pre tr s i:=by
   intro i
   induction i with
   |zero=>intro _;rfl
   |succ i ih=>
    intro hi
    rw[bV,pre,bV,ih (by omega),h2 i (by omega)]
  rw[heq m (Nat.le_refl _)]at iv
  refine Bb X K hv hQ fuel m _ j7 listed a w (Nat.le_refl _) K.le ?_ hl (fun i=>⟨h1 i,h2 i⟩) hr iv
  refine Nat.le_trans ?_ hf
  unfold cnt
  have hsub:(List.range ops.length).filter (fun i=> !listed.getD i false)=(List.range ops.length).filter fun i=>decide (m≤i):=by
   apply List.filter_congr
   intro i _
   by_cases h:m≤i
   ·cases hh:listed.getD i false with
    |true=>have:=h1 i hh;omega
    |false=>simp[h]
   ·simp[h2 i (by omega),h]
  rw[hsub]
  have: ∀n,m≤n→((List.range n).filter fun i=>decide (m≤i)).length=n-m:=by
   intro n hn
   induction n with
   |zero=>simp
   |succ n ih=>
    rw[List.range_succ,List.filter_append]
    by_cases h:m≤n
    ·simp[ih h,h];omega
    ·have:(List.range n).filter (fun i=>decide (m≤i))= []:=by
      apply List.filter_eq_nil_iff.2
      intro i hi
      have:=List.mem_range.1 hi
      simp;omega
     simp[this,h];omega
  rw[this _ K.le]
  exact Nat.le_refl _
 intro fuel
 induction fuel with
 |zero=>
  intro listed a w hf hl h1 h2 iv
  have hz:=Ba (by omega:cnt ops.length (fun i=>listed.getD i false)=0)
  exact all hl h1 (fun i hi=>hz i (by have:=K.le;omega)) hf iv
 |succ fuel ih=>
  intro listed a w hf hl h1 h2 iv
  by_cases hall: ∀i,i<m→listed.getD i false=true
  ·exact all hl h1 hall hf iv
  ·have hex: ∃i,i<m∧listed.getD i false=false∧ ∀j,j<i→listed.getD j false=true:=by
    have: ∃i,i<m∧listed.getD i false=false:=by
     apply Classical.byContradiction
     intro hno
     apply hall
     intro i hi
     cases h:listed.getD i false with
     |true=>rfl
     |false=>exact absurd ⟨i,hi,h⟩ hno
    obtain⟨i,hi,h⟩:=this
    induction i using Nat.strongRecOn with
    |_ i ihi=>
     by_cases C1: ∀j,j<i→listed.getD j false=true
     ·exact⟨i,hi,h,C1⟩
     ·have: ∃j,j<i∧listed.getD j false=false:=by
       apply Classical.byContradiction
       intro hno
       apply C1
       intro j hj
       cases hh:listed.getD j false with
       |true=>rfl
       |false=>exact absurd ⟨j,hj,hh⟩ hno
      obtain⟨j,hj,Il⟩:=this
      exact ihi j hj (by omega) Il
   have hml:=K.le
   refine⟨fun hnil=> ?_,fun i hi=> ?_⟩
   ·obtain⟨i,hi,hif,C1⟩:=hex
    have hin:i<ops.length:=by omega
    have:i∈Region.ready .any ops.toArray listed:=(gk hl).2 ⟨ops[i],List.getElem?_eq_getElem hin,hif,fun j hj=>C1 j (K.back i _ (List.getElem?_eq_getElem hin) j hj)⟩
    rw[hnil]at this
    simp at this
   ·obtain⟨o,ho,hif,hE⟩:=(gk hl).1 hi
    have hin:=(List.getElem?_eq_some_iff.1 ho).1
    have I9:i<m:=by
     rcases Nat.lt_or_ge i m with h|h
     ·exact h
     ·exfalso
      obtain⟨j,hj,Il,_⟩:=hex
      have:=wD (D:=fun j=>listed.getD j false=true) K.back h2 i o ho hE j (K.tail i o h ho j (by omega))
      rw[Il]at this;cases this
    unfold wpOp
    rw[List.getElem?_toArray,ho]
    dsimp only
    have hstep:=zc (Q:=Q) X.kind T K hv hnc (D:=fun i=>listed.getD i false) h1 h2 I9 hif ho hE iv
    have E3: ∀j,(listed.setIfInBounds i true).getD j false=(listed.getD j false||j==i):=fun j=>uG (by omega)
    have GY:(fun j=>(listed.setIfInBounds i true).getD j false)=fun j=>listed.getD j false||j==i:=funext E3
    have:=hstep.mono fun a' w' jA=>ih (listed.setIfInBounds i true) a' w'
     (by rw[GY];have:=C0 (D:=fun i=>listed.getD i false) hin hif;omega) (by simpa using hl)
     (fun j hj=>by
      rw[E3,Bool.or_eq_true,beq_iff_eq]at hj
      rcases hj with hj|rfl
      ·exact h1 j hj
      ·exact I9)
     (fun j o' hj ho' x hx=>by
      rw[E3]at hj ⊢
      rw[Bool.or_eq_true,beq_iff_eq]at hj
      rw[Bool.or_eq_true]
      rcases hj with hj|rfl
      ·exact Or.inl (h2 j o' hj ho' x hx)
      ·rw[ho]at ho'
       simp only[Option.some.injEq]at ho'
       subst ho'
       exact Or.inl (hE x hx))
     (by rw[GY];exact jA)
    exact this
end
section
variable{P:Program}{Γ:Nat→TK}{zb:aY}{Q:Post}{st:St}
theorem W.draw(X:Ctx P ty Γ)(bD:List (Nat×Nat))(cr:List (Nat×CR))(ks hs:List Nat)(m:Nat){id:Nat}{ops:List Oper}{vc:List Prop}{st':St}(hm:P.follows .mixedOrders=true)(hc:Ht ops m=true)(h:EY P ty Γ bD cr ks hs m ops st=some (vc,st'))(hv:ah vc)(k:Q .normal st'):
  W P ty zb (.region id ops.toArray true) Q st:=by
 intro a w iv
 obtain⟨n,CY,cR⟩:=st
 have K:=EZ hc
 simp only[EY]at h
 split at h
 ·rename_i j7 s1 hnc hq
  split at h
  ·rename_i EL s2 hr
   split at h
   ·rename_i sl hp h1 h2
    split at h
    ·rename_i tL hn
     simp only[Option.some.injEq,Prod.mk.injEq]at h
     obtain⟨rfl,rfl⟩:=h
     obtain⟨tr,t1,t2,t3⟩:=uD (k:=0) hq (fun i o ho=>by
      rw[List.getElem?_take]at ho
      split at ho
      ·simpa using ho
      ·cases ho)
     have hlen:(ops.take m).length=m:=by rw[List.length_take];have:=K.le;omega
     rw[hlen]at t1 t2 t3
     subst t2
     have T:Trace Γ (yC P ty) (Sound ty P) bD cr ops m ⟨n,CY,cR⟩ tr EL:=⟨t1,fun i hi=>by
      obtain⟨o,e,vc,p1,p2,p3,p4,p5,p6⟩:=t3 i hi
      exact⟨o,e,vc,by simpa using p1,p2,p3,p4,p5,fun q hq=>lC hr q (p6 q hq)⟩⟩
     refine wp_region_any hm ?_
     have hz: ∀i,(Array.replicate ops.toArray.size false).getD i false=false:=by
      intro i
      rw[Array.getD_eq_getD_getElem?,Array.getElem?_replicate]
      split<;>rfl
     refine Bc (Q:=uw ty zb Q) X K T hnc hv.out (fun a w jA=>⟨_,jA.weaken (Nat.eq_of_beq_eq_true hn).symm (gR h1) (gS h2) tL,k⟩) hr _ _ a _ ?_ (by simp) (fun i hi=>by rw[hz]at hi;cases hi) (fun i o hi=>by rw[hz]at hi;cases hi) ?_
     ·unfold cnt
      refine Nat.le_trans (List.length_filter_le _ _) ?_
      simp
     ·have hD:(fun i=>(Array.replicate ops.toArray.size false).getD i false)=fun _=>false:=funext hz
      rw[hD]
      have hmk: ∀i,bV (fun _=>false) tr ⟨n,CY,cR⟩ i=⟨n,CY,cR⟩:=by
       intro i
       induction i with
       |zero=>rfl
       |succ i ih=>rw[sG rfl,ih]
      rw[hmk]
      obtain⟨env,g⟩:=iv.good
      have Ja:Below w.heap.size w w.drew:=(Below.refl _ _).drew
      refine⟨iv.size,iv.defers,iv.kept.trans (eV Ja iv.kept.size),iv.vO,env,?_⟩
      have:=g.grow (os:= []) (w':=w.drew) (env':=env) iv.kept.size rfl (eF.none Ja)
      exact this
    ·cases h
   ·cases h
  ·cases h
 ·cases h
theorem W.sd(X:Ctx P ty Γ)(bD:List (Nat×Nat))(cr:List (Nat×CR))(ks hs:List Nat)(m:Nat){y:Code}{id:Nat}{ops:List Oper}{vc:List Prop}{st':St}(hm:P.follows .mixedOrders=true)(hc:Ht ops m=true)(h:EY P ty Γ bD cr ks hs m ops st=some (vc,st'))(hv:ah vc)(k:W P ty zb y Q st'):W P ty zb (.seq (.region id ops.toArray true) y) Q st:=W.seq (W.draw X bD cr ks hs m hm hc h hv k)
end
end
section
variable{ty:Tag→Nat}
def mI(l:List Oper):Option (List Oper×Oper):=match l.reverse with
 | []=>none
 |o::r=>some (r.reverse,o)
theorem sO{l p:List Oper}{q:Oper}(h:mI l=some (p,q)):l=p++ [q]:=by
 unfold mI at h
 split at h
 ·cases h
 ·rename_i o r he
  simp only[Option.some.injEq,Prod.mk.injEq]at h
  obtain⟨rfl,rfl⟩:=h
  have:=congrArg List.reverse he
  rw[List.reverse_reverse,List.reverse_cons]at this
  exact this
def xY(Γ:Nat→TK)(st:St)(o:Oper):Option (Nat×Prop):=match o.guard,o.dst,o.op with
 |none,some d, .binOp .eql t (.tmp s) (.const (.slice none 0 0)) _=>match Γ t,look st.sl s,Nat.blt d st.n with
  | .sl _ _,some (.one (.a (.sl _ l))),true=>some (d,l= [])
  | .sl _ _,some (.one (.a (.vw _ _ _ l))),true=>some (d,l= [])
  | .sl _ _,some (.one (.a (.own n))),true=>match look st.hp n with
    |some (.arr _ l)=>some (d,l= [])
    |_=>none
  |_,_,_=>none
 |_,_,_=>none
def D4(n:Nat)(st':St)(ks:List Nat):Option St:=match pG st'.sl ks,pH st'.hp (A2 st'.sl st'.hp ks [])with
 |some sl,some hp=>match jB sl hp with
  |true=>some ⟨n,sl,hp⟩
  |false=>none
 |_,_=>none
def xZ(qp:St)(ks:List Nat)(d:Nat)(b:Bool):Option St:=D4 qp.n (qp.put (some d) (.one (.a (.lit (.bool b))))) ks
def BV(P:Program)(ty:Tag→Nat)(Γ:Nat→TK)(bD:List (Nat×Nat))(cr:List (Nat×CR))(ks:List Nat)(ops:List Oper)(st:St):Option (List Prop×Prop×St×St):=
 match mI ops with
 |some (pre,o)=>match run P ty Γ bD cr ops pre st []with
  |some (vc,qp)=>match xY Γ qp o with
   |some (d,p)=>match xZ qp ks d true,xZ qp ks d false with
    |some a,some b=>some (vc,p,a,b)
    |_,_=>none
   |none=>none
  |none=>none
 |none=>none
section
variable{P:Program}{Γ:Nat→TK}{zb:aY}{Q:Post}{st:St}
theorem ya(C: ∀t,aQ P t (Γ t))(Z: ∀t,(∀z tg fo,Γ t≠ .st z tg fo)→Γ t≠ .other→(P.info? t).map (·.size)=some 1){bD:List (Nat×Nat)}{cr:List (Nat×CR)}{ops:List Oper}{ke:St}{vcs:List Prop}{Q:Exit→Act→World→Prop}{tail:List Oper}
  (hQ: ∀a w,Inv ty zb ke a w→wpList P ops.toArray Q tail a w): ∀{l:List Oper} {st:St} {acc:List Prop} {a:Act} {w:World},run P ty Γ bD cr ops l st acc=some (vcs,ke)→(∀q,q∈vcs→q)→Inv ty zb st a w→wpList P ops.toArray Q (l++tail) a w
 | [],st,acc,a,w,h,hv,iv=>by
   simp only[run,Option.some.injEq,Prod.mk.injEq]at h
   obtain⟨_,rfl⟩:=h
   exact hQ a w iv
 |o::r,st,acc,a,w,h,hv,iv=>by
  obtain⟨vc,qp,h1,h2⟩:=jz h
  have:=sw (Q:=Q) C Z h1 iv (fun q hq=>hv q (lC h2 q (List.mem_append_left _ hq)))
  exact this.mono fun a' w' jA=>ya C Z hQ h2 hv jA
theorem uV{w:World}{t e:Nat}(d:Nat)(hu:P.underlying t=some (.slice e)){oa:Option Addr}{n cap:Nat}:(Op.equalIn (d+1) t (.slice oa n cap) (.slice none 0 0)).run P w= .ok oa.isNone w:=by
 cases oa<;>simp[Op.equalIn,run_underlying hu]
theorem Fi{o:Oper}{a:Act}{w:World}{K:Act→World→Prop}{Q:Exit→Act→World→Prop}{t s e ge:Nat}{Jc:TypeId}(ho:o.op= .binOp .eql t (.tmp s) (.const (.slice none 0 0)) Jc)(hu:P.underlying t=some (.slice e)){oa:Option Addr}{n cap:Nat}(hs:a.tmps.getD s undef= .slice oa n cap)
  (h:K (a.put o.dst (.bool oa.isNone)) w):o.wp P a w K Q:=by
 have hx:a.eval (.tmp s)= .slice oa n cap:=hs
 have hrun:(execOp a.eval o).run P w= .ok (.value (.bool oa.isNone)) w:=by
  have hy:a.eval (.const (.slice none 0 0))= .slice none 0 0:=rfl
  unfold execOp
  simp only[ho,hx,hy]
  have he:(Op.equal t (.slice oa n cap) (.slice none 0 0)).run P w= .ok oa.isNone w:=uV 9999 hu
  have hb:(binOp .eql t (.slice oa n cap) (.slice none 0 0)).run P w= .ok (.bool oa.isNone) w:=by
   show(do pure (.bool (←Op.equal t (.slice oa n cap) (.slice none 0 0))):Sem Value).run P w=_
   simp only[Sem.run_bind,he,Result.andThen_ok,Sem.run_pure]
  have hg:(eqGuard .eql t (.tmp s) (.const (.slice none 0 0)) (.slice oa n cap) (.slice none 0 0)).run P w= .ok () w:=by simp[eqGuard]
  simp only[Sem.run_bind,hg,hb,Result.andThen_ok,Sem.run_pure]
 unfold Oper.wp
 rw[hrun]
 exact h
theorem uW{qp st':St}{ks:List Nat}{d:Nat}{b:Bool}(h:xZ qp ks d b=some st'){a:Act}{w:World}(iv:Inv ty zb qp a w)(hd:Nat.blt d qp.n=true):Inv ty zb st' (a.put (some d) (.bool b)) w:=by
 have Kb:Inv ty zb (qp.put (some d) (.one (.a (.lit (.bool b))))) (a.put (some d) (.bool b)) w:=by
  obtain⟨env,g⟩:=iv.good
  have hlt: ∀d',some d=some d'→d'<a.tmps.size:=by
   intro d' e
   simp only[Option.some.injEq]at e
   subst e
   rw[iv.size]
   exact Nat.le_of_ble_eq_true hd
  exact⟨by rw[eX,tR];exact iv.size,by rw[put_defers];exact iv.defers,iv.kept,iv.vO,env,k9 (dst:=some d) g hlt (u:= .bool b) (show jG w qp.hp env a.tmps (.one (.a (.lit (.bool b)))) (.bool b)from ⟨rfl,rfl⟩) fun d _=>nj ⟨_,rfl⟩⟩
 unfold xZ D4 at h
 split at h
 ·rename_i sl hp h1 h2
  split at h
  ·rename_i hc
   simp only[Option.some.injEq]at h
   subst h
   exact Kb.weaken (by rw[tR]) (gR h1) (gS h2) hc
  ·cases h
 ·cases h
theorem W.isNil(X:Ctx P ty Γ)(bD:List (Nat×Nat))(cr:List (Nat×CR))(ks:List Nat){id:Nat}{ops:List Oper}{vc:List Prop}{p:Prop}{sT sF:St}(h:BV P ty Γ bD cr ks ops st=some (vc,p,sT,sF))(hv:ah vc)(kT:p→Q .normal sT)(kF:Q .normal sF):
  W P ty zb (.region id ops.toArray false) Q st:=by
 intro a w iv
 unfold BV at h
 split at h
 case h_2=>cases h
 rename_i pre o hsp
 split at h
 case h_2=>cases h
 rename_i j7 qp hrun
 split at h
 case h_2=>cases h
 rename_i d p1 hnp
 split at h
 case h_2=>cases h
 rename_i sa sb hT hF
 simp only[Option.some.injEq,Prod.mk.injEq]at h
 obtain⟨rfl,rfl,rfl,rfl⟩:=h
 refine wp_region_lit ?_
 rw[show wpList P ops.toArray (uw ty zb Q) ops a w=wpList P ops.toArray (uw ty zb Q) (pre++ [o]) a w by rw[←sO hsp]]
 refine ya X.kind X.one (fun a w iv=> ?_) hrun hv.out iv
 obtain⟨env,g⟩:=iv.good
 unfold xY at hnp
 split at hnp
 case h_2=>cases hnp
 rename_i d0 t s Jc hg hd hop
 have fin: ∀{oa:Option Addr} {n cap:Nat} {e ge:Nat},P.underlying t=some (.slice e)→a.tmps.getD s undef= .slice oa n cap→(oa=none→p1)→d0=d→Nat.blt d0 qp.n=true→wpList P ops.toArray (uw ty zb Q) [o] a w:=by
  intro oa n cap e ge hu hs hn HK hlt
  subst HK
  have hk: ∀a' w',(fun a' w'=>a'=a.put (some d0) (.bool oa.isNone)∧w'=w) a' w'→wpList P ops.toArray (uw ty zb Q) [] a' w':=by
   rintro a' w' ⟨rfl,rfl⟩
   refine wpList_nil ?_
   cases oa with
   |none=>exact⟨sa,uW hT iv hlt,kT (hn rfl)⟩
   |some x=>exact⟨sb,uW hF iv hlt,kF⟩
  have hR:mu P ops.toArray o a w (fun a' w'=>a'=a.put (some d0) (.bool oa.isNone)∧w'=w) (uw ty zb Q):=eY hg (Fi (ge:=ge) hop hu hs ⟨by rw[hd],rfl⟩)
  exact hR.mono hk
 split at hnp
 ·rename_i g1 e1 t1 l hk hl hlt
  simp only[Option.some.injEq,Prod.mk.injEq]at hnp
  have hC:=X.kind t
  rw[hk]at hC
  obtain⟨fp,qo,_⟩:=g.slot s _ hl
  obtain⟨oa,cap,hv0,_,_,h3⟩:=qo
  refine fin (ge:=0) hC.1 hv0 (fun hn=> ?_) hnp.1 hlt
  rw[←hnp.2]
  rcases h3 with⟨h3,_⟩| ⟨b,off,az,rfl,_⟩
  ·exact h3
  ·cases hn
 ·rename_i g1 e1 n1 p2 t1 l hk hl hlt
  simp only[Option.some.injEq,Prod.mk.injEq]at hnp
  have hC:=X.kind t
  rw[hk]at hC
  obtain⟨_,⟨fp,qo,_⟩,_⟩:=g.slot s _ hl
  obtain⟨oa,cap,hv0,_,_,h3⟩:=qo
  refine fin (ge:=0) hC.1 hv0 (fun hn=> ?_) hnp.1 hlt
  rw[←hnp.2]
  rcases h3 with⟨h3,_⟩| ⟨b,off,az,rfl,_⟩
  ·exact h3
  ·cases hn
 ·rename_i g1 e1 n1 hk hl hlt
  split at hnp
  ·rename_i t1 l yX
   simp only[Option.some.injEq,Prod.mk.injEq]at hnp
   have hC:=X.kind t
   rw[hk]at hC
   obtain⟨_,hu⟩:=g.slot s _ hl
   obtain⟨oa,cap,hv0,_,_,h3⟩:=RO.sl (g.obj n1 _ yX)
   refine fin (ge:=0) hC.1 (hu.trans hv0) (fun hn=> ?_) hnp.1 hlt
   rw[←hnp.2]
   rcases h3 with⟨h3,_⟩| ⟨b,off,az,rfl,_⟩
   ·exact h3
   ·cases hn
  ·cases hnp
 ·cases hnp
end
end
section
variable{ty:Tag→Nat}
inductive G3 where
 |last(q:Nat)
 |ph(q:Nat)(c:G3)
 |br(d t:Nat)(sub next:G3)
 |nil
def zn(Γ:Nat→TK)(E:Tag→Nat→Prop)(S:FuncId→List S1→List S1→Prop)(bD:List (Nat×Nat))(cr:List (Nat×CR))(ops:List Oper)(q:Nat):Nat→List Oper→St→Option (List TE×List (Nat×List Prop))
 |_,[],_=>some ([],[])
 |i,o::r,⟨n,sl,hp⟩=>match q.testBit i with
  |false=>match zn Γ E S bD cr ops q (i+1) r ⟨n,sl,hp⟩with
   |some (tr,vq)=>some (⟨0, .l9 [],[]⟩::tr,vq)
   |none=>none
  |true=>match o.dst with
   |some d=>match sl.any (fun e=>e.2.mentions d),eJ Γ E S bD cr ops ⟨n,sl,hp⟩ o with
    |false,some (vc,v,os)=>match fS v,FO os with
     |some v,some os=>match zn Γ E S bD cr ops q (i+1) r ⟨n,(d,v)::sl,fQ os hp⟩with
      |some (tr,vq)=>some (⟨d,v,os⟩::tr,(i,vc)::vq)
      |none=>none
     |_,_=>none
    |_,_=>none
   |none=>none
section
variable{fT D:Nat→Bool}{tr:List TE}{s:St}
theorem hJ(fT:Nat→Bool)(e:TE)(tr:List TE)(s:St)(h:fT 0=false): ∀i,bV fT (e::tr) s (i+1)=bV (fun j=>fT (j+1)) tr s i
 |0=>by simp[bV,h]
 |i+1=>by
  rw[bV,hJ fT e tr s h i,bV]
  simp only[List.getElem?_cons_succ]
theorem jh: ∀{i:Nat} {x:Nat×SV},x∈s.sl→x∈(bV D tr s i).sl
 |0,_,h=>h
 |i+1,x,h=>by
  rw[bV]
  split
  ·exact List.mem_cons_of_mem _ (jh h)
  ·exact jh h
def Fp(Qb:Nat→Bool)(tr:List TE)(s:St)(m:Nat):Prop:= ∀i e,i<m→Qb i=true→tr[i]? =some e→ ∀n o,look e.os n=some o→look (bV Qb tr s i).hp n=none
variable{Qb:Nat→Bool}
end
structure FR(Γ:Nat→TK)(E:Tag→Nat→Prop)(S:FuncId→List S1→List S1→Prop)(bD:List (Nat×Nat))(cr:List (Nat×CR))(ops:List Oper)(q:Nat)(s:St)(tr:List TE)(vq:List (Nat×List Prop)):Prop where
 len:tr.length=ops.length
 one: ∀i,i<ops.length→q.testBit i=true→ ∃o e vc,ops[i]? =some o∧tr[i]? =some e∧o.dst=some e.d∧((bV (fun j=>q.testBit j) tr s i).sl.any fun x=>x.2.mentions e.d)=false∧eJ Γ E S bD cr ops (bV (fun j=>q.testBit j) tr s i) o=some (vc,e.v,e.os)∧(i,vc)∈vq
theorem kL{Γ:Nat→TK}{E:Tag→Nat→Prop}{S:FuncId→List S1→List S1→Prop}{bD:List (Nat×Nat)}{cr:List (Nat×CR)}{ops:List Oper}{q:Nat}: ∀{l:List Oper} {k:Nat} {st:St} {tr:List TE} {vq:List (Nat×List Prop)},zn Γ E S bD cr ops q k l st=some (tr,vq)→(∀i o,l[i]? =some o→ops[k+i]? =some o)→
  tr.length=l.length∧ ∀i,i<l.length→q.testBit (k+i)=true→ ∃o e vc,ops[k+i]? =some o∧tr[i]? =some e∧o.dst=some e.d∧((bV (fun j=>q.testBit (k+j)) tr st i).sl.any fun x=>x.2.mentions e.d)=false∧eJ Γ E S bD cr ops (bV (fun j=>q.testBit (k+j)) tr st i) o=some (vc,e.v,e.os)∧(k+i,vc)∈vq
 | [],k,st,tr,vq,h,_=>by
   simp only[zn,Option.some.injEq,Prod.mk.injEq]at h
   exact⟨by rw[←h.1];rfl,fun i hi=>absurd hi (by simp)⟩
 |o::r,k,⟨n,sl,hp⟩,tr,vq,h,hk=>by
  have hk': ∀i o',r[i]? =some o'→ops[k+1+i]? =some o':=fun i o' ho=>by
   have:=hk (i+1) o' (by simpa using ho)
   rw[show k+1+i=k+(i+1)by omega];exact this
  have hf:(fun j=>q.testBit (k+(j+1)))=fun i=>q.testBit (k+1+i):=by funext j;congr 1;omega
  simp only[zn]at h
  split at h
  ·rename_i hb
   split at h
   case h_2=>cases h
   rename_i Hv Kh h2
   simp only[Option.some.injEq,Prod.mk.injEq]at h
   obtain⟨rfl,rfl⟩:=h
   obtain⟨q1,q2⟩:=kL h2 hk'
   refine⟨by simp[q1],fun i hi hq=> ?_⟩
   cases i with
   |zero=>rw[Nat.add_zero,hb]at hq;cases hq
   |succ i=>
    obtain⟨o',e',GL,p1,p2,p3,p4,p5,p6⟩:=q2 i (by simpa using hi) (by rw[show k+1+i=k+(i+1)by omega];exact hq)
    refine⟨o',e',GL,by rw[show k+(i+1)=k+1+i by omega];exact p1,by simpa using p2,p3,?_,?_,by rw[show k+(i+1)=k+1+i by omega];exact p6⟩
    ·rw[hJ _ _ Hv _ (by simpa using hb) i,hf];exact p4
    ·rw[hJ _ _ Hv _ (by simpa using hb) i,hf];exact p5
  ·rename_i hb
   split at h
   case h_2=>cases h
   rename_i d hd
   split at h
   case h_2=>cases h
   rename_i vc v os hm Ki
   split at h
   case h_2=>cases h
   rename_i v2 Je Aq Fq
   have Aq:=AU Aq
   have Fq:=wo Fq
   subst Aq;subst Fq
   split at h
   case h_2=>cases h
   rename_i Hv Kh h2
   simp only[Option.some.injEq,Prod.mk.injEq]at h
   obtain⟨rfl,rfl⟩:=h
   rw[bN]at h2
   obtain⟨q1,q2⟩:=kL h2 hk'
   refine⟨by simp[q1],fun i hi hq=> ?_⟩
   cases i with
   |zero=>exact⟨o,⟨d,v2,Je⟩,vc,hk 0 o rfl,rfl,hd,hm,Ki,by simp⟩
   |succ i=>
    obtain⟨o',e',GL,p1,p2,p3,p4,p5,p6⟩:=q2 i (by simpa using hi) (by rw[show k+1+i=k+(i+1)by omega];exact hq)
    have hc:=iS (fun j=>q.testBit (k+j)) ⟨d,v2,Je⟩ Hv ⟨n,sl,hp⟩ (by simpa using hb) i
    refine⟨o',e',GL,by rw[show k+(i+1)=k+1+i by omega];exact p1,by simpa using p2,p3,?_,?_,by rw[show k+(i+1)=k+1+i by omega];exact List.mem_cons_of_mem _ p6⟩
    ·rw[hc,hf];exact p4
    ·rw[hc,hf];exact p5
theorem FR.of{Γ:Nat→TK}{E:Tag→Nat→Prop}{S:FuncId→List S1→List S1→Prop}{bD:List (Nat×Nat)}{cr:List (Nat×CR)}{ops:List Oper}{q:Nat}{s:St}{tr:List TE}{vq:List (Nat×List Prop)}(h:zn Γ E S bD cr ops q 0 ops s=some (tr,vq)):FR Γ E S bD cr ops q s tr vq:=by
 obtain⟨h1,h2⟩:=kL h (fun i o ho=>by simpa using ho)
 refine⟨h1,fun i hi hq=> ?_⟩
 have:=h2 i hi (by simpa using hq)
 simpa using this
structure Kj(ops:List Oper)(qs B q:Nat):Prop where
 back: ∀i o,ops[i]? =some o→ ∀j,j∈bK o→j<i
 eO: ∀i,i<ops.length→q.testBit i=true→B.testBit i=false
 full: ∀i o,ops[i]? =some o→B.testBit i=false→qs.testBit i=true→(∀j,j∈bK o→B.testBit j=true∨q.testBit j=true)→q.testBit i=true
 uses: ∀i o,q.testBit i=true→ops[i]? =some o→ ∀t,t∈tmpsOf o→ ∀k o',q.testBit k=true→ops[k]? =some o'→o'.dst=some t→k=i∨((DX ops).getD i 0).testBit k=true∨(i<k∧((DX ops).getD k 0).testBit i=true)
 guard: ∀i o j x,q.testBit i=true→ops[i]? =some o→o.guard=some (j,x)→j∈bK o
 dist: ∀i o k o' d,q.testBit i=true→ops[i]? =some o→ops[k]? =some o'→o.dst=some d→o'.dst=some d→k=i
 KM: ∀i o,q.testBit i=true→ops[i]? =some o→ ∀j,j∈bK o→(B.testBit j=true∨q.testBit j=true)
end
section
variable{ty:Tag→Nat}
section
variable{P:Program}{Γ:Nat→TK}{bD:List (Nat×Nat)}{cr:List (Nat×CR)}{ops:List Oper}{s:St}{tr:List TE}{vq:List (Nat×List Prop)}{qs B q:Nat}
theorem FR.fresh{E:Tag→Nat→Prop}{S:FuncId→List S1→List S1→Prop}(T:FR Γ E S bD cr ops q s tr vq):Fp (fun j=>q.testBit j) tr s ops.length:=by
 intro i e hi hq he n x hl
 obtain⟨o,e',vc,_,he',_,_,E0,_⟩:=T.one i hi hq
 rw[he]at he'
 simp only[Option.some.injEq]at he'
 subst he'
 obtain⟨p,_,_,_,hf⟩:=dU E0
 exact(hf n x hl).1
theorem FR.path{E:Tag→Nat→Prop}{S:FuncId→List S1→List S1→Prop}(T:FR Γ E S bD cr ops q s tr vq)(K:Kj ops qs B q): ∀(i:Nat),i<ops.length→q.testBit i=true→ ∀o p,ops[i]? =some o→cT (bV (fun j=>q.testBit j) tr s i) ops o=some p→ ∀e,e∈p→
  ∀k o',q.testBit k=true→ops[k]? =some o'→o'.dst=some e.1→ ∀D:Nat→Prop,(∀i o,D i→ops[i]? =some o→ ∀j,j∈bK o→D j)→(∀j,j∈bK o→D j)→D k:=by
 intro i
 induction i using Nat.strongRecOn with
 |_ i ih=>
  intro hi Kk o p ho hg e he k o' Ip hok GV D hD hE
  have Kl:k<ops.length:=(List.getElem?_eq_some_iff.1 hok).1
  unfold cT at hg
  split at hg
  ·simp at hg;subst hg;simp at he
  ·rename_i j x hgd
   have FP:=K.guard i o j x Kk ho hgd
   have hji:=K.back i o ho j FP
   split at hg
   case h_2=>cases hg
   rename_i qj FT
   split at hg
   case h_2=>cases hg
   rename_i d DY
   have base:e.1=d→D k:=by
    intro Km
    have:j=k:=K.dist k o' j qj d Ip hok FT (by rw[GV,Km]) DY
    rw[←this];exact hE j FP
   split at hg
   ·simp only[Option.some.injEq]at hg
    subst hg
    simp only[List.mem_singleton]at he
    exact base (by rw[he])
   ·rename_i p' b qo
    simp only[Option.some.injEq]at hg
    subst hg
    rcases List.mem_cons.1 he with h|h
    ·exact base (by rw[h])
    ·by_cases xO:q.testBit j=true
     ·obtain⟨q2,ej,J5,zA,Ii,Ft,_,E0,_⟩:=T.one j (by omega) xO
      rw[FT]at zA
      simp only[Option.some.injEq]at zA
      subst zA
      rw[DY]at Ft
      simp only[Option.some.injEq]at Ft
      subst Ft
      have Fu:look (bV (fun j=>q.testBit j) tr s i).sl ej.d=some ej.v:=by
       refine ey hji xO Ii fun j' e' h1 h2 h3 h4=> ?_
       obtain⟨q',e2,_,E1,qu,hd2,_⟩:=T.one j' (by omega) h2
       rw[h3]at qu
       simp only[Option.some.injEq]at qu
       subst qu
       exact K.dist j _ j' q' ej.d xO FT E1 DY (by rw[hd2,h4])
      rw[Fu]at qo
      simp only[Option.some.injEq]at qo
      obtain⟨pj,GP,cR,cg,_⟩:=dU E0
      have GJ:pj=p':=by
       by_cases hnil:pj= []
       ·exact absurd qo (cR hnil _ _)
       ·obtain⟨x',hx'⟩:=(cg hnil).1
        rw[hx']at qo
        simp only[SV.cond.injEq]at qo
        exact qo.1
      subst GJ
      exact ih j hji (by omega) xO _ pj FT GP e h k o' Ip hok GV D hD (hD j _ (hE j FP) FT)
     ·
      exfalso
      have Fu:look (bV (fun j=>q.testBit j) tr s i).sl d=look s.sl d:=by
       refine gj fun j' e' h1 h2 h3 h4=> ?_
       obtain⟨q',e2,_,E1,qu,hd2,_⟩:=T.one j' (by omega) h2
       rw[h3]at qu
       simp only[Option.some.injEq]at qu
       subst qu
       have:=K.dist j' q' j qj d h2 E1 FT (by rw[hd2,h4]) DY
       subst this
       exact xO h2
      rw[Fu]at qo
      obtain⟨q2,ek,KN,zA,KO,Fv,hnm,_,_⟩:=T.one k Kl Ip
      rw[hok]at zA
      simp only[Option.some.injEq]at zA
      subst zA
      rw[GV]at Fv
      simp only[Option.some.injEq]at Fv
      rw[List.any_eq_false]at hnm
      refine hnm (d, .cond p' (.a (.lit (.bool b)))) (jh (bt qo)) ?_
      simp only[SV.mentions,List.any_eq_true]
      exact⟨e,h,by rw[Fv];simp⟩
   ·cases hg
end
section
variable{P:Program}{Γ:Nat→TK}{bD:List (Nat×Nat)}{cr:List (Nat×CR)}{ks hs:List Nat}{ops:List Oper}{n0 qs:Nat}
variable{zb:aY}{Q:Exit→Act→World→Prop}
end
def yg(x:List Prop×St):List (List Prop×St)→Prop
 | []=>True
 |y::r=>y=x∧yg x r
theorem yg.out{x:List Prop×St}: ∀{l:List (List Prop×St)},yg x l→ ∀y,y∈l→y=x
 |_::_,h,y,hy=>by
  rcases List.mem_cons.1 hy with rfl|hy
  ·exact h.1
  ·exact yg.out h.2 y hy
section
variable{P:Program}{Γ:Nat→TK}{zb:aY}{Q:Post}{st:St}
end
section
variable{P:Program}{Γ:Nat→TK}{zb:aY}{Q:Post}{st:St}
end
end
section
variable{ty:Tag→Nat}
theorem aD.set{α β:Type}{R:α→β→Prop}: ∀{as:List α} {bs:List β} {i:Nat} {x:α},aD R as bs→(∀y,bs[i]? =some y→R x y)→aD R (as.set i x) bs
 | [],[],_,_,_,_=>trivial
 |a::as,b::bs,0,x,h,hx=>⟨hx b rfl,h.2⟩
 |a::as,b::bs,i+1,x,h,hx=>⟨h.1,aD.set h.2 (fun y hy=>hx y (by simpa using hy))⟩
 | [],_::_,_,_,h,_=>h.elim
 |_::_,[],_,_,h,_=>h.elim
section
variable{P:Program}{zb:aY}{st st':St}{Q:Post}
end
end
section
variable{ty:Tag→Nat}
def toLsl(st:St)(s:Nat)(v:Value):Option St:=match look st.sl s with
 |some (.one (.a (.sl t l)))=>GH ⟨st.n,(s, .one (.a (.fZ v t l)))::st.sl,st.hp⟩
 |_=>none
theorem W.fZ{P:Program}{zb:aY}{c:Code}{Q:Post}{st:St}(s:Nat){f:Value→St}(h: ∀v,toLsl st s v=some (f v))(k: ∀v,W P ty zb c Q (f v)):W P ty zb c Q st:=by
 intro a w iv
 have h:=h (a.tmps.getD s undef)
 refine k (a.tmps.getD s undef) a w ?_
 obtain⟨env,g⟩:=iv.good
 unfold toLsl at h
 split at h
 case h_2=>cases h
 rename_i t l hs
 have h:=wq h
 rw[h]
 refine⟨iv.size,iv.defers,iv.kept,iv.vO,env,⟨g.obj,g.eO,fun s' v hv=> ?_,g.dom,g.pins⟩⟩
 by_cases hss:s'=s
 ·subst hss
  rw[look_eq]at hv
  simp only[Option.some.injEq]at hv
  subst hv
  exact⟨rfl,g.slot _ _ hs⟩
 ·rw[aC hss]at hv
  exact g.slot s' v hv
end
end Go.Proofs.YteodajeiagmekaaGreat.G
