/-
  Regions whose guards are known.
-/
import Derived.Orders
import Derived.Test.YtcnomgcfijjkmaaGreatM8
namespace Go.Proofs.YtcnomgcfijjkmaaGreat.G
set_option linter.all false
open Go.RowKit L D
section
variable{ty:Tag→Nat}
def Cf(Γ:Nat→TK)(E:Tag→Nat→Prop)(S:FuncId→List S1→List S1→Prop)(cH:List (Nat×Nat))(cr:List (Nat×CR))(ops:List Oper):List Oper→St→List Prop→Option (List Prop×St)
 | [],st,acc=>some (acc,st)
 |o::r,⟨n,sl,hp⟩,acc=>match o.dst with
  |some d=>match sl.any (fun e=>e.2.mentions d),mh Γ E S cH cr ops ⟨n,sl,hp⟩ o with
   |false,some ([],v,os)=>Cf Γ E S cH cr ops r ⟨n,(d,v)::sl,lz os hp⟩ acc
   |false,some ([p],v,os)=>Cf Γ E S cH cr ops r ⟨n,(d,v)::sl,lz os hp⟩ (p::acc)
   |false,some ([p,q],v,os)=>Cf Γ E S cH cr ops r ⟨n,(d,v)::sl,lz os hp⟩ (p::q::acc)
   |false,some (l,v,os)=>Cf Γ E S cH cr ops r ⟨n,(d,v)::sl,lz os hp⟩ (l++acc)
   |_,_=>none
  |none=>none
structure TE where
 d:Nat
 v:SV
 os:Hp
def app(s:St)(e:TE):St:=⟨s.n,(e.d,e.v)::s.sl,e.os++s.hp⟩
theorem Em{Γ:Nat→TK}{E:Tag→Nat→Prop}{S:FuncId→List S1→List S1→Prop}{cH:List (Nat×Nat)}{cr:List (Nat×CR)}{ops:List Oper}{o:Oper}{r:List Oper}{st:St}{acc vcs:List Prop}{mM:St}(h:Cf Γ E S cH cr ops (o::r) st acc=some (vcs,mM)):
  ∃vc e,o.dst=some e.d∧(st.sl.any fun x=>x.2.mentions e.d)=false∧mh Γ E S cH cr ops st o=some (vc,e.v,e.os)∧Cf Γ E S cH cr ops r (app st e) (vc++acc)=some (vcs,mM):=by
 obtain⟨n,sl,hp⟩:=st
 simp only[Cf]at h
 split at h
 ·rename_i d hd
  split at h
  ·rename_i v os h1 h2;exact⟨[],⟨d,v,os⟩,hd,h1,h2,by simp only[dM]at h;exact h⟩
  ·rename_i p v os h1 h2;exact⟨[p],⟨d,v,os⟩,hd,h1,h2,by simp only[dM]at h;exact h⟩
  ·rename_i p q v os h1 h2;exact⟨[p,q],⟨d,v,os⟩,hd,h1,h2,by simp only[dM]at h;exact h⟩
  ·rename_i l v os _ _ _ h1 h2;exact⟨_,⟨d,v,os⟩,hd,h1,h2,by simp only[dM]at h;exact h⟩
  ·cases h
 ·cases h
def HV(sl:List (Nat×SV)):Bool:=sl.all fun e=>match e.2 with| .cond _ _=>false|_=>true
def ZB(P:Program)(ty:Tag→Nat)(Γ:Nat→TK)(cH:List (Nat×Nat))(cr:List (Nat×CR))(ks hs:List Nat)(m:Nat)(ops:List Oper):St→Option (List Prop×St)
 | ⟨n,I8,fQ⟩=>match HV I8,Cf Γ (I6 P ty) (Sound ty P) cH cr ops (ops.take m) ⟨n,I8,fQ⟩ []with
   |true,some (nM,s1)=>match run P ty Γ cH cr ops (ops.drop m) s1 nM with
    |some (vc,st')=>match wP st'.sl ks,wQ st'.hp (Gz st'.sl st'.hp ks hs)with
     |some sl,some hp=>match ng sl hp,Nat.beq st'.n n with
      |true,true=>some (vc,⟨n,sl,hp⟩)
      |_,_=>none
     |_,_=>none
    |none=>none
   |_,_=>none
def cC(o:Oper):List Nat:=o.after.toList.filterMap fun e=>if Region.binds .any e then some e.on else none
def iW(acc:List Nat)(o:Oper):List Nat:=acc++ [(cC o).foldl (fun s j=>s|||2^j|||acc.getD j 0) 0]
def GA(ops:List Oper):List Nat:=ops.foldl iW []
def tmpsOf(o:Oper):List Nat:=o.op.operands.toList.filterMap fun| .tmp t=>some t|_=>none
def yY(o:Oper)(t:Nat):Bool:=match o.dst with|some d=>Nat.beq d t|none=>false
def idx{α:Type}:Nat→List α→List (Nat×α)
 |_,[]=> []
 |i,x::r=>(i,x)::idx (i+1) r
def Sf(A:List (Nat×Oper))(cl:List Nat)(i:Nat)(o:Oper):Bool:=
 (tmpsOf o).all fun t=>A.all fun e=> !(yY e.2 t)||Nat.beq e.1 i|| (cC o).any (Nat.beq e.1)|| (Nat.blt i e.1&&(cl.getD e.1 0).testBit i)
def NR(m:Nat)(i:Nat)(o:Oper):Bool:=match o.guard with
 |none=>true
 |some (j,_)=>Nat.blt j i&&Nat.blt j m&&(cC o).any (Nat.beq j)
def Sg(A:List (Nat×Oper))(i:Nat)(o:Oper):Bool:=match o.dst with
 |some d=>A.all fun e=>Nat.beq e.1 i|| !(yY e.2 d)
 |none=>false
def chk(ops:List Oper)(m:Nat):Bool:=
 let cl:=GA ops
 let A:=idx 0 (ops.take m)
 (Nat.ble m ops.length)&&
 ((idx 0 ops).all fun e=>(cC e.2).all fun j=>Nat.blt j e.1)&&
 (A.all fun e=>Sf A cl e.1 e.2&&NR m e.1 e.2&&Sg A e.1 e.2)&&
 ((idx 0 ops).all fun e=>Nat.blt e.1 m|| (List.range e.1).all fun j=>(cl.getD e.1 0).testBit j)
end
section
variable{ty:Tag→Nat}
def Compat(hp iT:Hp):Prop:= ∀n o o',look hp n=some o→look iT n=some o'→o=o'
section
variable{zb:cK}{st T:St}{a:Act}{w:World}{env:Env}
theorem JW(c:Compat st.hp T.hp){tg:Option Tag}{v x:V}{u:Value}(hr:RA w T.hp env v u)(h:nJ st tg v=some x):nJ T tg v=some x:=by
 cases v with
 |own n=>
  obtain⟨⟨t,l,hl⟩,_⟩:=hr
  simp only[nJ]at h ⊢
  split at h
  ·rename_i t' l' hl'
   have:=c n _ _ hl' hl
   simp only[Obj.arr.injEq]at this
   obtain⟨rfl,j0⟩:=this
   rw[hl]
   simp only[←eq_of_heq j0]
   exact h
  ·cases h
 |sl t l=>exact h
 |vw n p t l=>exact h
 |mix n c t l=>exact h
 |we n=>
  obtain⟨⟨t,l,s,hl⟩,_⟩:=hr
  simp only[nJ]at h ⊢
  split at h
  ·rename_i t' l' hl'
   have:=c n _ _ hl' hl
   rw[←this]at hl
   rw[hl];exact h
  ·rename_i t' l' m hl'
   have:=c n _ _ hl' hl
   rw[←this]at hl
   rw[hl];exact h
  ·cases h
 |lit v=>
  have e:nJ T tg (.lit v)=nJ st tg (.lit v):=by
   cases v with
   |slice a n c=>cases a<;>cases n<;>cases c<;>rfl
   |_=>rfl
  rw[e];exact h
 |_=>simp[nJ]at h
theorem GB(c:Compat st.hp T.hp): ∀{vs:List V} {tg:List (Option Tag)} {xs:List V} {us:List Value},bN (RA w T.hp env) vs us→Jn st tg vs=some xs→Jn T tg vs=some xs
 | [],_,xs,us,_,h=>h
 |v::r,tg,xs,us,hr,h=>by
  cases us with
  |nil=>exact hr.elim
  |cons u us=>
   simp only[Jn]at h ⊢
   split at h
   ·rename_i x y h1 h2
    rw[JW c hr.1 h1,GB c hr.2 h2]
    exact h
   ·cases h
theorem PK(c:Compat st.hp T.hp){k:TK}{v x:S1}{u:Value}(hr:fG w T.hp env v u)(h:arg1 st k v=some x):arg1 T k v=some x:=by
 cases v with
 |a v=>
  simp only[arg1]at h ⊢
  split at h
  ·rename_i y hy
   rw[JW c hr hy]
   exact h
  ·cases h
 |agg l=>
  obtain⟨cs,_,hl⟩:=hr
  simp only[arg1]at h ⊢
  split at h
  ·rename_i y hy
   rw[GB c hl hy]
   exact h
  ·cases h
theorem yZ{p:List (Nat×Bool)}{x:Operand}(hs: ∀t,x= .tmp t→look st.sl t=look T.sl t):Lt st p x=Lt T p x:=by
 cases x with
 |tmp t=>simp only[Lt,hs t rfl]
 |_=>rfl
theorem En{p:List (Nat×Bool)}{x:Operand}(hs: ∀t,x= .tmp t→look st.sl t=look T.sl t):gr st p x=gr T p x:=by
 unfold gr
 rw[yZ hs]
theorem PL{b:Bool}(c:Compat st.hp T.hp){k:TK}{v x:S1}{u:Value}(hr:fG w T.hp env v u)(h:Pk b st k v=some x):Pk b T k v=some x:=by
 unfold Pk at h ⊢
 split at h
 ·exact h
 ·exact PK c hr h
theorem AL{b:Bool}{Γ:Nat→TK}(c:Compat st.hp T.hp)(g:Good ty zb T a.tmps w env){p:List (Nat×Bool)}(hp:holds a.tmps p): ∀{xs:List Operand} {ts:List Nat} {as:List S1},(∀x,x∈xs→ ∀t,x= .tmp t→look st.sl t=look T.sl t)→args b Γ st p xs ts=some as→args b Γ T p xs ts=some as
 | [],_,as,_,h=>h
 |x::r,ts,as,hs,h=>by
  simp only[args]at h ⊢
  rw[←En (st:=st) (T:=T) (hs x (by simp))]
  split at h
  ·rename_i v hv
   split at h
   ·rename_i y ys h1 h2
    have hr:=eI g hp (by rw[←En (hs x (by simp))];exact hv)
    rw[PL c hr h1,AL c g hp (fun z hz=>hs z (List.mem_cons_of_mem _ hz)) h2]
    exact h
   ·cases h
  ·cases h
theorem L9(c:Compat st.hp T.hp){k:TK}{v:V}{u:Value}{n:Int}(hr:RA w T.hp env v u)(h:lenOf st k v=some n):lenOf T k v=some n:=by
 cases v with
 |own m=>
  obtain⟨⟨t,l,hl⟩,_⟩:=hr
  simp only[lenOf]at h ⊢
  split at h
  ·split at h
   ·rename_i t' l' hl'
    have:=c m _ _ hl' hl
    simp only[Obj.arr.injEq]at this
    obtain⟨rfl,j0⟩:=this
    rw[hl]
    simp only[←eq_of_heq j0]
    exact h
   ·cases h
  ·cases h
 |sl t l=>exact h
 |vw n p t l=>exact h
 |lit v=>
  have e:lenOf T k (.lit v)=lenOf st k (.lit v):=by
   cases v with
   |slice a n c=>cases a<;>cases n<;>cases c<;>rfl
   |_=>rfl
  rw[e];exact h
 |_=>simp[lenOf]at h
theorem HW(c:Compat st.hp T.hp){v:V}{u:Value}(hr:RA w T.hp env v u){l:List UInt8}(h:bytesOf st v=some l):bytesOf T v=some l:=by
 cases v with
 |own n=>
  obtain⟨⟨t,l2,mo⟩,_⟩:=hr
  simp only[bytesOf]at h ⊢
  split at h
  ·rename_i l3 RE
   simp only[oI]at h
   subst h
   have:=c n _ _ RE mo
   simp only[Obj.arr.injEq]at this
   obtain⟨rfl,j0⟩:=this
   rw[mo]
   simp only[eq_of_heq j0]
  ·cases h
 |sl t l=>
  have e:bytesOf T (.sl t l)=bytesOf st (.sl t l):=by cases t<;>rfl
  rw[e];exact h
 |vw n p t l=>
  have e:bytesOf T (.vw n p t l)=bytesOf st (.vw n p t l):=by cases t<;>rfl
  rw[e];exact h
 |lit v=>
  have e:bytesOf T (.lit v)=bytesOf st (.lit v):=by
   cases v with
   |slice a n c=>cases a<;>cases n<;>cases c<;>rfl
   |_=>rfl
  rw[e];exact h
 |_=>simp[bytesOf]at h
theorem BS{p:List (Nat×Bool)}{g:Tag}: ∀{xs:List (Nat×Operand)} {i:Nat},(∀x,x∈xs→gr st p x.2=gr T p x.2)→pY st p g i xs=pY T p g i xs
 | [],_,_=>rfl
 | (j,x)::r,i,h=>by
   simp only[pY]
   rw[h (j,x) (by simp),BS (fun y hy=>h y (List.mem_cons_of_mem _ hy))]
theorem Eo{p:List (Nat×Bool)}{n:Nat}{fo:List Nat}: ∀{xs:List (Nat×Operand)} {c:List V},(∀x,x∈xs→Lt st p x.2=Lt T p x.2)→sQ st p n fo xs c=sQ T p n fo xs c
 | [],_,_=>rfl
 | (j,x)::r,c,h=>by
   simp only[sQ]
   rw[h (j,x) (by simp)]
   have: ∀c',sQ st p n fo r c'=sQ T p n fo r c':=fun c'=>Eo (fun y hy=>h y (List.mem_cons_of_mem _ hy))
   simp only[this]
theorem xq{p:List (Nat×Bool)}: ∀{xs:List Operand},(∀x,x∈xs→gr st p x=gr T p x)→yG st p xs=yG T p xs
 | [],_=>rfl
 |x::r,h=>by
  simp only[yG,Pm]
  rw[h x (by simp),xq (fun y hy=>h y (List.mem_cons_of_mem _ hy))]
theorem vP(c:Compat st.hp T.hp){v:V}{u:Value}(hr:RA w T.hp env v u){n:Nat}(hn:v.name=some n){o:Obj}(h:look st.hp n=some o):look T.hp n=some o:=by
 have: ∃o',look T.hp n=some o':=by
  cases v<;>simp only[V.name,oI,reduceCtorEq]at hn
  case own m=>subst hn;obtain⟨⟨t,l,hl⟩,_⟩:=hr;exact⟨_,hl⟩
  case ptr m off=>subst hn;obtain⟨⟨c,hl⟩,_⟩:=hr;exact⟨_,hl⟩
  case mL m i off=>subst hn;obtain⟨t,l,hl,_⟩:=hr;exact⟨_,hl⟩
  case vw m p t l=>subst hn;obtain⟨⟨t,l,hl⟩,_⟩:=hr;exact⟨_,hl⟩
  case Ca m t l=>subst hn;obtain⟨⟨t,l,hl⟩,_⟩:=hr;exact⟨_,hl⟩
  case mix m c t l=>subst hn;obtain⟨⟨t,l,hl⟩,_⟩:=hr;exact⟨_,hl⟩
  case we m=>subst hn;obtain⟨⟨t,l,s,hl⟩,_⟩:=hr;exact⟨_,hl⟩
  case As f m=>subst hn;obtain⟨⟨c,hl⟩,_⟩:=hr;exact⟨_,hl⟩
  case B9 m p t x off=>subst hn;obtain⟨⟨t,l,hl⟩,_⟩:=hr;exact⟨_,hl⟩
 obtain⟨o',h'⟩:=this
 rw[c n _ _ h h'];exact h'
theorem AM(c:Compat st.hp T.hp): ∀{l d:List V} {n:Nat} {us:List Value},bN (RA w T.hp env) l us→xk st.hp l=some (d,n)→xk T.hp l=some (d,n)
 | [],_,_,_,_,h=>by simp[xk]at h
 |v::r,d,n,us,hr,h=>by
  cases us with
  |nil=>exact hr.elim
  |cons u us=>
   unfold xk at h
   split at h
   ·rename_i m r' he
    simp only[List.cons.injEq]at he
    obtain⟨rfl,rfl⟩:=he
    split at h
    ·rename_i t l hl nL
     have:=vP c hr.1 (n:=m) rfl hl
     simp only[xk,this,nL]
     exact h
    ·cases h
   ·rename_i m pp t l r' he
    simp only[List.cons.injEq]at he
    obtain⟨rfl,rfl⟩:=he
    split at h
    ·rename_i t0 l0 hl nL
     have:=vP c hr.1 (n:=m) rfl hl
     simp only[xk,this,nL]
     exact h
    ·cases h
   ·cases h
   ·rename_i x r' Sh he
    simp only[List.cons.injEq]at he
    obtain⟨rfl,rfl⟩:=he
    split at h
    ·rename_i c' n' h'
     have:=AM c hr.2 h'
     unfold xk
     split
     ·rename_i e;simp at e
     ·rename_i e;simp at e
     ·rename_i e;simp only[List.cons.injEq,V.lit.injEq]at e;exact absurd e.1 (by rintro rfl;exact Sh _ _ _ rfl)
     ·rename_i e
      simp only[List.cons.injEq,V.lit.injEq]at e
      obtain⟨rfl,rfl⟩:=e
      rw[this];exact h
     ·rename_i e1 e2 e3;exact absurd rfl (e3 _ _)
    ·cases h
   ·cases h
theorem quiet_mono{Γ:Nat→TK}{E:Tag→Nat→Prop}{S:FuncId→List S1→List S1→Prop}(c:Compat st.hp T.hp)(g:Good ty zb T a.tmps w env){p:List (Nat×Bool)}(hp:holds a.tmps p){cr:List (Nat×CR)}{d m:Nat}{op:Op}{out:Out}
  (hs: ∀x,x∈op.operands.toList→ ∀t,x= .tmp t→look st.sl t=look T.sl t)(h:quiet Γ E S cr st p d m op=some out):quiet Γ E S cr T p d m op=some out:=by
 have ho: ∀{q x},x∈op.operands.toList→gr st q x=gr T q x:=fun hx=>En (hs _ hx)
 have hr: ∀{x v},x∈op.operands.toList→gr st p x=some v→fG w T.hp env v (a.eval x):=fun hx hv=>eI g hp (by rw[←ho hx];exact hv)
 have rn: ∀{x v n o},x∈op.operands.toList→gr st p x=some (.a v)→v.name=some n→look st.hp n=some o→look T.hp n=some o:=fun hx hv hn hl=>vP c (hr hx hv) hn hl
 cases op with
 |move x=>
  have hm:Rb st x=Rb T x:=by
   cases x with
   |tmp t=>simp only[Rb];rw[hs (.tmp t) (by simp[Op.operands]) t rfl]
   |_=>rfl
  simp only[quiet]at h ⊢;rw[←yZ (st:=st) (hs x (by simp[Op.operands])), ←hm];exact h
 |assign x=>
  have hm:Rb st x=Rb T x:=by
   cases x with
   |tmp t=>simp only[Rb];rw[hs (.tmp t) (by simp[Op.operands]) t rfl]
   |_=>rfl
  simp only[quiet]at h ⊢;rw[←yZ (st:=st) (hs x (by simp[Op.operands])), ←hm];exact h
 |nilCheck x=>simp only[quiet]at h ⊢;rw[←ho (by simp[Op.operands])];exact h
 |lookup t x y b=>
  cases b with
  |true=>simp[quiet]at h
  |false=>
   simp only[quiet]at h ⊢
   split at h
   ·rename_i hk
    split at h
    ·rename_i n k hx hy
     split at h
     ·rename_i tg l0 hl
      have hrx:RA w T.hp env (.we n) (a.eval x):=hr (x:=x) (by simp[Op.operands]) hx
      have mo:=vP c hrx (n:=n) rfl hl
      simp only[hk, ←ho (x:=x) (by simp[Op.operands]), ←ho (x:=y) (by simp[Op.operands]),hx,hy,mo]
      exact h
     ·cases h
    ·cases h
   ·cases h
 |makeMap t r=>
  cases r with
  |some _=>simp[quiet]at h
  |none=>exact h
 |makeSlice t x y=>simp only[quiet]at h ⊢;rw[←ho (x:=x) (by simp[Op.operands]), ←ho (x:=y) (by simp[Op.operands])];exact h
 |buildSlice t n xs=>
  simp only[quiet]at h ⊢
  have hq: ∀g,pY st p g 0 xs.toList=pY T p g 0 xs.toList:=fun g=>BS fun x hx=>ho (by simp only[Op.operands,List.mem_map];exact⟨x,hx,rfl⟩)
  simp only[←hq]
  split at h
  case h_2=>cases h
  rename_i gt e hk
  cases hkey:(look cr (d+500000)).isSome with
  |false=>simp only[hkey]at h ⊢;exact h
  |true=>
   simp only[hkey]at h ⊢
   split at h
   case h_2=>cases h
   rename_i x hlen hps
   split at h
   case h_2=>cases h
   rename_i s hx
   split at h
   case h_2=>cases h
   rename_i cc n1 hc
   have hmem:x∈(Op.buildSlice t n xs).operands.toList:=by
    simp only[Op.operands,List.mem_map,Array.toList_map]
    exact⟨(0,x),by rw[hps];simp,rfl⟩
   have hrx:=hr hmem hx
   have hown:xk T.hp (cellsOf s)=some (cc,n1):=by
    cases s with
    |agg l=>obtain⟨cs,_,hl⟩:=hrx;exact AM c hl hc
    |a v=>exact AM c (us:= [a.eval x]) ⟨hrx,trivial⟩ hc
   simp only[←ho hmem,hx,hown]
   exact h
 |build t xs=>
  simp only[quiet]at h ⊢
  have hq: ∀n fo z,sQ st p n fo xs.toList z=sQ T p n fo xs.toList z:=fun n fo z=>Eo fun x hx=>yZ (hs _ (by simp only[Op.operands,List.mem_map];exact⟨x,hx,rfl⟩))
  simp only[←hq]
  exact h
 |pick x y z=>
  cases x with
  |tmp t=>
   simp only[quiet]at h ⊢
   rw[←ho (x:= .tmp t) (by simp[Op.operands]), ←ho (x:=y) (by simp[Op.operands]), ←ho (x:=z) (by simp[Op.operands])]
   exact h
  |_=>simp[quiet]at h
 |box e x=>simp only[quiet]at h ⊢;rw[←ho (by simp[Op.operands])];exact h
 |alloc t=>exact h
 |load t x=>
  have hm:x∈(Op.load t x).operands.toList:=by simp[Op.operands]
  simp only[quiet]at h ⊢
  rw[←ho hm]
  split at h
  ·rename_i n off hx
   try rw[hx]
   try dsimp only
   split at h
   ·rename_i c2 mo
    rw[rn hm hx rfl mo]
    exact h
   ·cases h
  ·rename_i hx
   try rw[hx]
   exact h
  ·rename_i hx
   try rw[hx]
   exact h
  ·rename_i n i off hx
   try rw[hx]
   try dsimp only
   split at h
   ·rename_i c2 mo
    rw[rn hm hx rfl mo]
    exact h
   ·cases h
  ·cases h
 |binOp op t x y t'=>
  simp only[quiet]at h ⊢
  rw[←ho (x:=x) (by simp[Op.operands]), ←ho (x:=y) (by simp[Op.operands])]
  exact h
 |unOp op t x=>
  cases op with
  |not=>simp only[quiet]at h ⊢;rw[←ho (by simp[Op.operands])];exact h
  |neg=>simp only[quiet]at h ⊢;rw[←ho (by simp[Op.operands])];exact h
  |_=>simp[quiet]at h
 |convert s t x=>
  simp only[quiet]at h ⊢
  rw[←ho (x:=x) (by simp[Op.operands])]
  split at h
  ·rename_i ik n k1 k2 hx hk1 hk2
   try rw[hx,hk1,hk2]
   exact h
  ·rename_i v g' e hx hk1 hk2
   try rw[hx,hk1,hk2]
   try dsimp only
   split at h
   ·rename_i l Rt hl
    rw[Rt,HW c (show RA w T.hp env v _ from hr (x:=x) (by simp[Op.operands]) hx) hl]
    exact h
   ·cases h
  ·cases h
 |slice t x lo hi mx=>
  cases mx with
  |some mx=>
   cases lo with
   |some _=>simp[quiet]at h
   |none=>
    cases hi with
    |none=>simp[quiet]at h
    |some hi=>
     have hb: ∀(y:Operand),y∈(Op.slice t x none (some hi) (some mx)).operands.toList→Hx st p 0 (some y)=Hx T p 0 (some y):=fun y hy=>by simp only[Hx];rw[ho hy]
     have hm:x∈(Op.slice t x none (some hi) (some mx)).operands.toList:=by simp[Op.operands]
     simp only[quiet]at h ⊢
     rw[←ho hm, ←hb hi (by simp[Op.operands]), ←hb mx (by simp[Op.operands])]
     split at h
     case h_2=>cases h
     rename_i hk
     try rw[hk]
     try dsimp only
     split at h
     case h_2=>cases h
     rename_i n n1 n2 hx h1 h2
     try rw[hx,h1,h2]
     try dsimp only
     split at h
     case h_2=>cases h
     rename_i t' l hl
     rw[rn hm hx rfl hl]
     exact h
  |none=>
   have hb: ∀(b:Option Operand),(∀y,b=some y→y∈(Op.slice t x lo hi none).operands.toList)→ ∀z,Hx st p z b=Hx T p z b:=by
    intro b hm z
    cases b with
    |none=>rfl
    |some y=>simp only[Hx];rw[ho (hm y rfl)]
   have hm:x∈(Op.slice t x lo hi none).operands.toList:=by simp[Op.operands]
   simp only[quiet]at h ⊢
   rw[←ho hm, ←hb lo (by rintro y rfl;simp[Op.operands])]
   simp only[←hb hi (by rintro y rfl;simp[Op.operands])]
   cases hkey:(look cr (d+600000)).isSome with
   |true=>simp only[hkey]at h ⊢;exact h
   |false=>
    simp only[hkey]at h ⊢
    split at h
    ·split at h
     ·rename_i hx hlo
      try rw[hx,hlo]
      exact h
     ·rename_i hx hlo
      try rw[hx,hlo]
      exact h
     ·rename_i hx hlo
      try rw[hx,hlo]
      try dsimp only
      split at h
      ·rename_i mo
       rw[rn hm hx rfl mo]
       exact h
      ·cases h
     ·rename_i hx hlo
      try rw[hx,hlo]
      exact h
     ·cases h
    ·exact h
    ·cases h
 |makeFunc fn first captured=>
  cases fn with
  |func f=>
   simp only[quiet]at h ⊢
   split at h
   ·rename_i x hf hc
    try rw[hf,hc]
    try dsimp only
    have hm:x∈(Op.makeFunc (.func f) first captured).operands.toList:=by simp only[Op.operands,Array.toList_append,hf,hc];simp
    have e:=ho (q:=p) hm
    rw[←e]
    exact h
   ·cases h
  |_=>simp[quiet]at h
 |fieldAddr t x f=>
  simp only[quiet]at h ⊢
  rw[←ho (x:=x) (by simp[Op.operands])]
  exact h
 |indexAddr t x i=>
  have hm:x∈(Op.indexAddr t x i).operands.toList:=by simp[Op.operands]
  simp only[quiet]at h ⊢
  rw[←ho hm, ←ho (x:=i) (by simp[Op.operands])]
  split at h
  ·split at h
   ·rename_i hx hi
    try rw[hx,hi]
    exact h
   ·rename_i hx hi
    try rw[hx,hi]
    try dsimp only
    split at h
    ·rename_i mo
     rw[rn hm hx rfl mo]
     exact h
    ·cases h
   ·rename_i hx hi
    try rw[hx,hi]
    exact h
   ·cases h
  ·cases h
 |extract x i=>
  cases x with
  |tmp t=>simp only[quiet]at h ⊢;rw[←hs (.tmp t) (by simp[Op.operands]) t rfl];exact h
  |_=>simp[quiet]at h
 |call cl=>
  obtain⟨callee,xs,ts⟩:=cl
  have hop: ∀x,x∈xs.toList→x∈(Op.call ⟨callee,xs,ts⟩).operands.toList:=by
   intro x hx
   simp only[Op.operands,Call.operands,Array.toList_append]
   exact List.mem_append_right _ hx
  cases callee with
  |value x=>
   cases x with
   |func f=>
    simp only[quiet]at h ⊢
    split at h
    ·rename_i as c1 h1 h2
     rw[AL c g hp (fun x hx=>hs x (hop x hx)) h1,h2]
     exact h
    ·cases h
   |tmp y=>
    simp only[quiet]at h ⊢
    rw[←ho (x:= .tmp y) (by simp[Op.operands,Call.operands])]
    split at h
    ·rename_i v hv
     try rw[hv]
     try dsimp only
     split at h
     ·rename_i f hf
      try rw[hf]
      try dsimp only
      split at h
      ·rename_i as c1 h1 h2
       rw[AL c g hp (fun x hx=>hs x (hop x hx)) h1,h2]
       exact h
      ·cases h
     ·cases h
    ·cases h
   |_=>simp[quiet]at h
  |builtin b=>
   cases b with
   |len=>
    simp only[quiet]at h ⊢
    split at h
    ·rename_i x t hxl htl
     have hm:x∈xs.toList:=by rw[hxl];simp
     try rw[hxl,htl]
     try dsimp only
     rw[←ho (hop x hm)]
     split at h
     ·rename_i v hv
      try rw[hv]
      try dsimp only
      split at h
      ·rename_i n hn
       rw[L9 c (show RA w T.hp env v _ from hr (hop x hm) hv) hn]
       exact h
      ·cases h
     ·cases h
    ·cases h
   |append=>
    simp only[quiet]at h ⊢
    split at h
    case h_2=>cases h
    rename_i x y t1 t2 hkey hxl htl
    try rw[hkey,hxl,htl]
    try dsimp only
    have LL:x∈xs.toList:=by rw[hxl];simp
    have hmy:y∈xs.toList:=by rw[hxl];simp
    rw[←ho (hop x LL), ←ho (hop y hmy)]
    exact h
   |max=>simp only[quiet]at h ⊢;rw[←xq (st:=st) (T:=T) (xs:=xs.toList) (fun x hx=>ho (hop x hx))];exact h
   |min=>simp only[quiet]at h ⊢;rw[←xq (st:=st) (T:=T) (xs:=xs.toList) (fun x hx=>ho (hop x hx))];exact h
   |_=>simp[quiet]at h
  |invoke _ _=>simp[quiet]at h
 |_=>simp[quiet]at h
theorem PM{p:List (Nat×Bool)}(hs: ∀e,e∈p→look st.sl e.1=look T.sl e.1):hyps st p=hyps T p:=by
 induction p with
 |nil=>rfl
 |cons e r ih=>
  obtain⟨d,x⟩:=e
  simp only[hyps]
  rw[hs (d,x) (by simp),ih fun e he=>hs e (by simp[he])]
theorem Ep{Γ:Nat→TK}{E:Tag→Nat→Prop}{S:FuncId→List S1→List S1→Prop}(c:Compat st.hp T.hp)(g:Good ty zb T a.tmps w env)(hn:T.n=st.n){cH:List (Nat×Nat)}{cr:List (Nat×CR)}{ops:List Oper}{o:Oper}{p:List (Nat×Bool)}(fN:fH st ops o=some p)(jo:fH T ops o=some p)(hp:holds a.tmps p)
  (hs: ∀x,x∈o.op.operands.toList→ ∀t,x= .tmp t→look st.sl t=look T.sl t)(hps: ∀e,e∈p→look st.sl e.1=look T.sl e.1){vc:List Prop}{v:SV}{os:Hp}(hf:fresh T.hp os=true)(h:mh Γ E S cH cr ops st o=some (vc,v,os)):
  mh Γ E S cH cr ops T o=some (vc,v,os):=by
 have hd:ue T o.dst=ue st o.dst:=by unfold ue;rw[hn]
 simp only[mh]at h ⊢
 rw[hd,jo]
 rw[fN]at h
 split at h
 ·rename_i m e1 e2 e3
  simp only[oI]at e3
  subst e3
  try rw[e1,e2]
  try dsimp only
  split at h
  ·rename_i nM v1 os1 hq
   rw[quiet_mono c g hp hs hq]
   try dsimp only
   split at h
   ·rename_i h1 h2
    simp only[oI,pI]at h
    obtain⟨rfl,rfl,rfl⟩:=h
    simp only[hf,h2]
   ·cases h
  ·cases h
 ·rename_i m e p' e1 e2 e3
  simp only[oI]at e3
  subst e3
  try rw[e1,e2]
  try dsimp only
  split at h
  ·rename_i h1
   try rw[h1]
   try dsimp only
   split at h
   ·rename_i nM v1 hq
    rw[quiet_mono c g hp hs hq]
    try dsimp only
    rw[←PM hps]
    exact h
   ·cases h
  ·cases h
 ·cases h
end
end
section
variable{ty:Tag→Nat}
def dw(qa:Nat→Bool)(tr:List TE)(s:St):Nat→St
 |0=>s
 |i+1=>match qa i,tr[i]? with
  |true,some e=>app (dw qa tr s i) e
  |_,_=>dw qa tr s i
abbrev pre(tr:List TE)(s:St)(i:Nat):St:=dw (fun _=>true) tr s i
structure Trace(Γ:Nat→TK)(E:Tag→Nat→Prop)(S:FuncId→List S1→List S1→Prop)(cH:List (Nat×Nat))(cr:List (Nat×CR))(ops:List Oper)(m:Nat)(s:St)(tr:List TE)(vcs:List Prop):Prop where
 len:tr.length=m
 one: ∀i,i<m→ ∃o e vc,ops[i]? =some o∧tr[i]? =some e∧o.dst=some e.d∧((pre tr s i).sl.any fun x=>x.2.mentions e.d)=false∧mh Γ E S cH cr ops (pre tr s i) o=some (vc,e.v,e.os)∧ ∀q,q∈vc→q∈vcs
theorem JX{Γ:Nat→TK}{E:Tag→Nat→Prop}{S:FuncId→List S1→List S1→Prop}{cH:List (Nat×Nat)}{cr:List (Nat×CR)}{ops:List Oper}: ∀{l:List Oper} {st mM:St} {acc vcs:List Prop},Cf Γ E S cH cr ops l st acc=some (vcs,mM)→ ∀q,q∈acc→q∈vcs
 | [],st,mM,acc,vcs,h,q,hq=>by
   simp only[Cf,oI,pI]at h
   rw[←h.1];exact hq
 |o::r,st,mM,acc,vcs,h,q,hq=>by
  obtain⟨vc,e,_,_,_,h2⟩:=Em h
  exact JX h2 q (List.mem_append_right _ hq)
theorem qv(qa:Nat→Bool)(e:TE)(tr:List TE)(s:St)(h:qa 0=true): ∀i,dw qa (e::tr) s (i+1)=dw (fun j=>qa (j+1)) tr (app s e) i
 |0=>by simp[dw,h]
 |i+1=>by
  rw[dw,qv qa e tr s h i,dw]
  simp only[List.getElem?_cons_succ]
theorem JY{Γ:Nat→TK}{E:Tag→Nat→Prop}{S:FuncId→List S1→List S1→Prop}{cH:List (Nat×Nat)}{cr:List (Nat×CR)}{ops:List Oper}: ∀{l:List Oper} {k:Nat} {st mM:St} {acc vcs:List Prop},Cf Γ E S cH cr ops l st acc=some (vcs,mM)→(∀i o,l[i]? =some o→ops[k+i]? =some o)→
  ∃tr:List TE,tr.length=l.length∧mM=pre tr st l.length∧ ∀i,i<l.length→ ∃o e vc,ops[k+i]? =some o∧tr[i]? =some e∧o.dst=some e.d∧((pre tr st i).sl.any fun x=>x.2.mentions e.d)=false∧mh Γ E S cH cr ops (pre tr st i) o=some (vc,e.v,e.os)∧ ∀q,q∈vc→q∈vcs
 | [],k,st,mM,acc,vcs,h,_=>by
   simp only[Cf,oI,pI]at h
   exact⟨[],rfl,h.2.symm,fun i hi=>absurd hi (by simp)⟩
 |o::r,k,st,mM,acc,vcs,h,hk=>by
  obtain⟨vc,e,h1,h2,h3,h4⟩:=Em h
  obtain⟨tr,q1,q2,q3⟩:=JY (k:=k+1) h4 (fun i o' ho=>by
   have:=hk (i+1) o' (by simpa using ho)
   rw[show k+1+i=k+(i+1)by omega];exact this)
  refine⟨e::tr,by simp[q1],?_,?_⟩
  ·rw[q2,List.length_cons]
   exact(qv (fun _=>true) e tr st rfl _).symm
  ·intro i hi
   cases i with
   |zero=>exact⟨o,e,vc,hk 0 o rfl,rfl,h1,h2,h3,fun q hq=>JX h4 q (List.mem_append_left _ hq)⟩
   |succ i=>
    obtain⟨o',e',ZC,p1,p2,p3,p4,p5,p6⟩:=q3 i (by simpa using hi)
    refine⟨o',e',ZC,by rw[show k+(i+1)=k+1+i by omega];exact p1,by simpa using p2,p3,?_,?_,p6⟩
    ·rw[pre,qv (fun _=>true) e tr st rfl i];exact p4
    ·rw[pre,qv (fun _=>true) e tr st rfl i];exact p5
section
variable{qa inE:Nat→Bool}{tr:List TE}{s:St}
theorem mq{i:Nat}{e:TE}(h:qa i=true)(he:tr[i]? =some e):dw qa tr s (i+1)=app (dw qa tr s i) e:=by rw[dw,h,he]
theorem y8{i:Nat}(h:qa i=false):dw qa tr s (i+1)=dw qa tr s i:=by rw[dw,h]
theorem o9: ∀i,(dw qa tr s i).n=s.n
 |0=>rfl
 |i+1=>by
  rw[dw]
  split
  ·exact o9 i
  ·exact o9 i
theorem ga: ∀{i j:Nat} {e:TE},j<i→qa j=true→tr[j]? =some e→(∀j' e',j'<i→qa j'=true→tr[j']? =some e'→e'.d=e.d→j'=j)→look (dw qa tr s i).sl e.d=some e.v
 |i+1,j,e,hj,hin,he,hd=>by
  by_cases hij:j=i
  ·subst hij
   rw[mq hin he];exact look_eq
  ·have ih:=ga (i:=i) (j:=j) (by omega) hin he (fun j' e' h1 h2 h3 h4=>hd j' e' (by omega) h2 h3 h4)
   rw[dw]
   split
   ·rename_i e' h1 h2
    have hne:e.d≠e'.d:=fun hh=>by
     have:=hd i e' (by omega) h1 h2 hh.symm
     omega
    show look ((e'.d,e'.v)::_) e.d=_
    rw[bg hne];exact ih
   ·exact ih
theorem jz: ∀{i:Nat} {t:Nat},(∀j e,j<i→qa j=true→tr[j]? =some e→e.d≠t)→look (dw qa tr s i).sl t=look s.sl t
 |0,_,_=>rfl
 |i+1,t,h=>by
  have ih:=jz (i:=i) (t:=t) fun j e h1 h2 h3=>h j e (by omega) h2 h3
  rw[dw]
  split
  ·rename_i e' h1 h2
   have hne:t≠e'.d:=fun hh=>h i e' (by omega) h1 h2 hh.symm
   show look ((e'.d,e'.v)::_) t=_
   rw[bg hne];exact ih
  ·exact ih
theorem CU: ∀{i:Nat} {x:Nat×SV},x∈(dw qa tr s i).sl→x∈s.sl∨ ∃j e,j<i∧qa j=true∧tr[j]? =some e∧x=(e.d,e.v)
 |0,_,h=>Or.inl h
 |i+1,x,h=>by
  rw[dw]at h
  split at h
  ·rename_i e' h1 h2
   rcases List.mem_cons.1 (show x∈(e'.d,e'.v)::(dw qa tr s i).sl from h)with rfl|h
   ·exact Or.inr ⟨i,e',by omega,h1,h2,rfl⟩
   ·rcases CU h with h| ⟨j,e,a,b⟩
    ·exact Or.inl h
    ·exact Or.inr ⟨j,e,by omega,b⟩
  ·rcases CU h with h| ⟨j,e,a,b⟩
   ·exact Or.inl h
   ·exact Or.inr ⟨j,e,by omega,b⟩
def uu(tr:List TE)(s:St)(m:Nat):Prop:= ∀i e,i<m→tr[i]? =some e→ ∀n o,look e.os n=some o→look (pre tr s i).hp n=none
theorem uw{m:Nat}(hf:uu tr s m): ∀{j i:Nat},i≤j→j≤m→ ∀{n o},look (pre tr s i).hp n=some o→look (pre tr s j).hp n=some o
 |0,i,hi,_,n,o,h=>by
  have:i=0:=by omega
  subst this;exact h
 |j+1,i,hi,hm,n,o,h=>by
  by_cases hij:i=j+1
  ·subst hij;exact h
  ·have ih:=uw hf (j:=j) (i:=i) (by omega) (by omega) h
   show look (dw (fun _=>true) tr s (j+1)).hp n=_
   rw[dw]
   split
   ·rename_i e' _ h2
    show look (e'.os++(pre tr s j).hp) n=_
    cases hq:look e'.os n with
    |none=>rw[bq hq];exact ih
    |some o'=>
     have:=hf j e' (by omega) h2 n o' hq
     rw[this]at ih;cases ih
   ·exact ih
theorem nQ{m:Nat}(hf:uu tr s m): ∀{i:Nat},i≤m→ ∀{n o},look (dw qa tr s i).hp n=some o→look (pre tr s i).hp n=some o
 |0,_,n,o,h=>h
 |i+1,hm,n,o,h=>by
  rw[dw]at h
  split at h
  ·rename_i e' h1 h2
   have h:look (e'.os++(dw qa tr s i).hp) n=some o:=h
   rw[pre,mq rfl h2]
   show look (e'.os++(pre tr s i).hp) n=some o
   cases hq:look e'.os n with
   |none=>rw[bq hq]at h ⊢;exact nQ hf (by omega) h
   |some o'=>rw[cg hq]at h ⊢;exact h
  ·exact uw hf (Nat.le_succ i) hm (nQ hf (by omega) h)
theorem gy: ∀{i:Nat} {n:Nat} {o:Obj},look (dw qa tr s i).hp n=some o→look s.hp n=some o∨ ∃j e,j<i∧qa j=true∧tr[j]? =some e∧look e.os n=some o
 |0,_,_,h=>Or.inl h
 |i+1,n,o,h=>by
  rw[dw]at h
  split at h
  ·rename_i e' h1 h2
   have h:look (e'.os++(dw qa tr s i).hp) n=some o:=h
   cases hq:look e'.os n with
   |none=>
    rw[bq hq]at h
    rcases gy h with h| ⟨j,e,a,b⟩
    ·exact Or.inl h
    ·exact Or.inr ⟨j,e,by omega,b⟩
   |some o'=>
    rw[cg hq]at h
    exact Or.inr ⟨i,e',by omega,h1,h2,by rw[hq];exact h⟩
  ·rcases gy h with h| ⟨j,e,a,b⟩
   ·exact Or.inl h
   ·exact Or.inr ⟨j,e,by omega,b⟩
theorem pe{m:Nat}(hf:uu tr s m): ∀{i:Nat},i≤m→ ∀{n o},look s.hp n=some o→look (dw qa tr s i).hp n=some o
 |0,_,n,o,h=>h
 |i+1,hm,n,o,h=>by
  have ih:=pe hf (i:=i) (by omega) h
  rw[dw]
  split
  ·rename_i e' h1 h2
   show look (e'.os++(dw qa tr s i).hp) n=some o
   cases hq:look e'.os n with
   |none=>rw[bq hq];exact ih
   |some o'=>
    have h1:=hf i e' (by omega) h2 n o' hq
    have h3:=nQ hf (by omega) ih
    rw[h1]at h3;cases h3
  ·exact ih
theorem nA{m:Nat}(hf:uu tr s m): ∀{i:Nat},i≤m→ ∀{j:Nat} {e:TE} {n:Nat} {o:Obj},j<i→qa j=true→tr[j]? =some e→look e.os n=some o→look (dw qa tr s i).hp n=some o
 |i+1,hm,j,e,n,o,hj,hin,he,h=>by
  by_cases hij:j=i
  ·subst hij
   rw[mq hin he]
   exact cg h
  ·have ih:=nA hf (i:=i) (by omega) (j:=j) (by omega) hin he h
   rw[dw]
   split
   ·rename_i e' h1 h2
    show look (e'.os++(dw qa tr s i).hp) n=some o
    cases hq:look e'.os n with
    |none=>rw[bq hq];exact ih
    |some o'=>
     have h1:=hf i e' (by omega) h2 n o' hq
     have h3:=nQ hf (by omega) ih
     rw[h1]at h3;cases h3
   ·exact ih
end
theorem Er{hp:Hp}: ∀{os:Hp},(∀n o,look os n=some o→look hp n=none∧iA n=false)→fresh hp os=true
 | [],_=>rfl
 | (n,x)::r,h=>by
   simp only[fresh,Bool.and_eq_true]
   obtain⟨h1,h2⟩:=h n x look_eq
   refine⟨⟨by rw[h1],by rw[h2];rfl⟩,Er fun k o hk=> ?_⟩
   by_cases hkn:k=n
   ·subst hkn;exact h k x look_eq
   ·exact h k o (by rw[bg hkn];exact hk)
theorem Good.congr{zb:cK}{st st':St}{tmps:Array Value}{w:World}{env:Env}(g:Good ty zb st tmps w env)(hs: ∀s v,look st'.sl s=some v→look st.sl s=some v)(hh: ∀n,look st'.hp n=look st.hp n):Good ty zb st' tmps w env:=by
 have s:Step (fun _=>True) (fun _=>True) w st.hp env w st'.hp env:=by
  refine⟨fun _ _ _=>rfl,?_,?_,?_⟩
  ·rintro b _ ⟨n,o,h1,h2⟩;exact⟨n,o,by rw[←hh];exact h1,h2⟩
  ·intro n o _ h1
   exact⟨o,by rw[hh];exact h1,by cases o<;>simp[Obj.like],rfl⟩
  ·intro n t l _ h1
   exact⟨by rw[hh];exact h1,rfl,fun _ _=>rfl⟩
 refine⟨fun n o hl=> ?_,fun n m o o' hne h1 h2=>g.iB n m o o' hne (by rw[←hh];exact h1) (by rw[←hh];exact h2),fun t v hl=>oR.step s (fun v _=>v.dG) (g.slot t v (hs t v hl)),fun n o hl=>g.dom n o (by rw[←hh];exact hl),g.pins⟩
 exact(g.obj n o (by rw[←hh];exact hl)).step s o.dG (fun _ _=>rfl)
end
section
variable{ty:Tag→Nat}
theorem za{α:Type}: ∀{l:List α} {k i:Nat} {x:α},l[i]? =some x→(k+i,x)∈idx k l
 |y::r,k,0,x,h=>by simp at h;simp[idx,h]
 |y::r,k,i+1,x,h=>by
  have:=za (l:=r) (k:=k+1) (i:=i) (by simpa using h)
  rw[idx];right
  rw[show k+(i+1)=k+1+i by omega];exact this
structure Chk(ops:List Oper)(m:Nat):Prop where
 le:m≤ops.length
 back: ∀i o,ops[i]? =some o→ ∀j,j∈cC o→j<i
 uses: ∀i o,i<m→ops[i]? =some o→ ∀t,t∈tmpsOf o→ ∀k o',k<m→ops[k]? =some o'→o'.dst=some t→k=i∨k∈cC o∨(i<k∧((GA ops).getD k 0).testBit i=true)
 guard: ∀i o j x,i<m→ops[i]? =some o→o.guard=some (j,x)→j<i∧j<m∧j∈cC o
 dist: ∀i o k o' d,i<m→k<m→ops[i]? =some o→ops[k]? =some o'→o.dst=some d→o'.dst=some d→k=i
 tail: ∀i o,m≤i→ops[i]? =some o→ ∀j,j<i→((GA ops).getD i 0).testBit j=true
theorem ZD{ops:List Oper}{m:Nat}(h:chk ops m=true):Chk ops m:=by
 simp only[chk,Bool.and_eq_true,List.all_eq_true,Bool.or_eq_true]at h
 obtain⟨⟨⟨h1,h2⟩,h3⟩,h4⟩:=h
 have hA: ∀{i o},i<m→ops[i]? =some o→(i,o)∈idx 0 (ops.take m):=by
  intro i o hi ho
  have:=za (l:=ops.take m) (k:=0) (i:=i) (x:=o) (by rw[List.getElem?_take,if_pos hi];exact ho)
  simpa using this
 have hall: ∀{i o},ops[i]? =some o→(i,o)∈idx 0 ops:=by
  intro i o ho
  simpa using za (l:=ops) (k:=0) ho
 refine⟨Nat.le_of_ble_eq_true h1,fun i o ho j hj=> ?_,fun i o hi ho t ht k o' hk ho' hd=> ?_,fun i o j x hi ho hg=> ?_,fun i o k o' d hi hk ho ho' hd hd'=> ?_,fun i o hi ho j hj=> ?_⟩
 ·have:=h2 _ (hall ho) j hj
  exact Nat.le_of_ble_eq_true this
 ·have hu:=(h3 _ (hA hi ho)).1.1
  simp only[Sf,List.all_eq_true,Bool.or_eq_true,Bool.not_eq_true',List.any_eq_true,Bool.and_eq_true]at hu
  have hdi:yY o' t=true:=by simp[yY,hd]
  rcases hu t ht _ (hA hk ho')with((q|q)|q)|q
  ·rw[hdi]at q;cases q
  ·exact Or.inl (Nat.eq_of_beq_eq_true q)
  ·obtain⟨y,hy,q⟩:=q
   have hky:k=y:=Nat.eq_of_beq_eq_true q
   exact Or.inr (Or.inl (by rw[hky];exact hy))
  ·exact Or.inr (Or.inr ⟨Nat.le_of_ble_eq_true q.1,q.2⟩)
 ·have hgd:=(h3 _ (hA hi ho)).1.2
  simp only[NR,hg,Bool.and_eq_true,List.any_eq_true]at hgd
  obtain⟨⟨q1,q2⟩,y,hy,q3⟩:=hgd
  have:=Nat.eq_of_beq_eq_true q3
  exact⟨Nat.le_of_ble_eq_true q1,Nat.le_of_ble_eq_true q2,by rw[this];exact hy⟩
 ·have hds:=(h3 _ (hA hi ho)).2
  simp only[Sg,hd,List.all_eq_true,Bool.or_eq_true,Bool.not_eq_true']at hds
  rcases hds _ (hA hk ho')with q|q
  ·exact Nat.eq_of_beq_eq_true q
  ·simp[yY,hd']at q
 ·rcases h4 _ (hall ho)with q|q
  ·have:=Nat.le_of_ble_eq_true q
   simp only at this
   omega
  ·exact q j (List.mem_range.2 hj)
theorem NS: ∀(l:List Oper) (acc:List Nat),(∀j,j<acc.length→(l.foldl iW acc).getD j 0=acc.getD j 0)∧
  ∀i o,l[i]? =some o→(∀j,j∈cC o→j<acc.length+i)→(l.foldl iW acc).getD (acc.length+i) 0=(cC o).foldl (fun s j=>s|||2^j||| (l.foldl iW acc).getD j 0) 0
 | [],acc=>⟨fun _ _=>rfl,fun i o h=>by simp at h⟩
 |o::r,acc=>by
  obtain⟨h1,h2⟩:=NS r (iW acc o)
  have hl:(iW acc o).length=acc.length+1:=by simp[iW]
  have ha: ∀j,j<acc.length→((o::r).foldl iW acc).getD j 0=acc.getD j 0:=by
   intro j hj
   rw[List.foldl_cons,h1 j (by omega)]
   simp only[iW,List.getD_eq_getElem?_getD]
   rw[List.getElem?_append_left hj]
  refine⟨ha,fun i o' ho hj=> ?_⟩
  cases i with
  |zero=>
   simp at ho
   subst ho
   rw[Nat.add_zero,List.foldl_cons,h1 _ (by omega)]
   have:(iW acc o).getD acc.length 0=(cC o).foldl (fun s j=>s|||2^j|||acc.getD j 0) 0:=by
    simp[iW,List.getD_eq_getElem?_getD]
   rw[this]
   have ach: ∀(es:List Nat) (s0:Nat),(∀j,j∈es→j<acc.length)→es.foldl (fun s j=>s|||2^j|||acc.getD j 0) s0=es.foldl (fun s j=>s|||2^j||| (r.foldl iW (iW acc o)).getD j 0) s0:=by
    intro es
    induction es with
    |nil=>intros;rfl
    |cons j es ih=>
     intro s0 hh
     rw[List.foldl_cons,List.foldl_cons,ih _ fun k hk=>hh k (by simp[hk])]
     have:=ha j (hh j (by simp))
     rw[List.foldl_cons]at this
     rw[this]
   exact ach _ _ fun j hjj=>by simpa using hj j hjj
  |succ i=>
   have:=h2 i o' (by simpa using ho) (fun j hjj=>by rw[hl];have:=hj j hjj;omega)
   rw[hl,show acc.length+1+i=acc.length+(i+1)by omega]at this
   rw[List.foldl_cons];exact this
theorem Es(g:Nat→Nat)(k:Nat): ∀(es:List Nat) (s0:Nat),(es.foldl (fun s j=>s|||2^j|||g j) s0).testBit k=true→s0.testBit k=true∨ ∃j,j∈es∧(k=j∨(g j).testBit k=true)
 | [],s0,h=>Or.inl h
 |j::es,s0,h=>by
  rcases Es g k es _ h with h| ⟨i,hi,h⟩
  ·rw[Nat.testBit_or,Nat.testBit_or,Nat.testBit_two_pow]at h
   simp only[Bool.or_eq_true,decide_eq_true_eq]at h
   rcases h with(h|h)|h
   ·exact Or.inl h
   ·exact Or.inr ⟨j,by simp,Or.inl h.symm⟩
   ·exact Or.inr ⟨j,by simp,Or.inr h⟩
  ·exact Or.inr ⟨i,by simp[hi],h⟩
theorem uy{ops:List Oper}(hb: ∀i o,ops[i]? =some o→ ∀j,j∈cC o→j<i){D:Nat→Prop}(hD: ∀i o,D i→ops[i]? =some o→ ∀j,j∈cC o→D j): ∀(i:Nat) (o:Oper),ops[i]? =some o→(∀j,j∈cC o→D j)→ ∀k,((GA ops).getD i 0).testBit k=true→D k:=by
 intro i
 induction i using Nat.strongRecOn with
 |_ i ih=>
  intro o ho he k hk
  have:=(NS ops []).2 i o ho (fun j hj=>by simpa using hb i o ho j hj)
  simp only[List.length_nil,Nat.zero_add]at this
  have hc:(GA ops).getD i 0=(cC o).foldl (fun s j=>s|||2^j||| (GA ops).getD j 0) 0:=this
  rw[hc]at hk
  rcases Es _ k _ _ hk with h| ⟨j,hj,h⟩
  ·simp at h
  ·rcases h with rfl|h
   ·exact he k hj
   ·have hji:=hb i o ho j hj
    have hlen:j<ops.length:=by have:=(List.getElem?_eq_some_iff.1 ho).1;omega
    exact ih j hji ops[j] (List.getElem?_eq_getElem hlen) (hD j _ (he j hj) (List.getElem?_eq_getElem hlen)) k h
section
variable{P:Program}{Γ:Nat→TK}{cH:List (Nat×Nat)}{cr:List (Nat×CR)}{ops:List Oper}{m:Nat}{s:St}{tr:List TE}{vcs:List Prop}
theorem iF{E:Tag→Nat→Prop}{S:FuncId→List S1→List S1→Prop}{st:St}{o:Oper}{vc:List Prop}{v:SV}{os:Hp}(h:mh Γ E S cH cr ops st o=some (vc,v,os)):
  ∃p,fH st ops o=some p∧(p= []→ ∀q x,v≠ .cond q x)∧(p≠ []→(∃x,v= .cond p x)∧os= []∧ ∀d,o.dst=some d→ ∀e,e∈p→e.1≠d)∧(∀n x,look os n=some x→look st.hp n=none∧iA n=false):=by
 unfold mh at h
 split at h
 ·rename_i nm _ _ hg
  split at h
  ·rename_i nM v1 os1 hq
   split at h
   ·rename_i hf _
    simp only[oI,pI]at h
    obtain⟨_,rfl,rfl⟩:=h
    refine⟨[],hg,fun _ q x=> ?_,fun hh=>absurd rfl hh,fun n x hl=>⟨nK hf n x hl,Aw hf n x hl⟩⟩
    rintro rfl
    unfold quiet Rb at hq
    repeat' split at hq
    all_goals first
     | (cases hq;done)
     | (simp only[eB,oI,Out.mk.injEq]at hq;cases hq.2.1;done)
     | (simp only[oI,Out.mk.injEq]at hq;cases hq.2.1;done)
     | (simp only[oI]at hq;unfold outs at hq;(repeat' split at hq)<;>(simp only[Out.mk.injEq]at hq;cases hq.2.1))
   ·cases h
  ·cases h
 ·rename_i nm e p _ _ hg
  split at h
  ·rename_i aci
   split at h
   ·rename_i nM v1 hq
    simp only[oI,pI]at h
    obtain⟨_,rfl,rfl⟩:=h
    refine⟨e::p,hg,(fun hh=>by cases hh),fun _=>⟨⟨_,rfl⟩,rfl,fun d hd x hx hxd=> ?_⟩,fun n x hl=>by simp[look]at hl⟩
    rw[List.any_eq_false]at aci
    exact aci x hx (by rw[hd,hxd];simp)
   ·cases h
  ·cases h
 ·cases h
theorem Trace.fresh{E:Tag→Nat→Prop}{S:FuncId→List S1→List S1→Prop}(T:Trace Γ E S cH cr ops m s tr vcs):uu tr s m:=by
 intro i e hi he n x hl
 obtain⟨o,e',vc,_,he',_,_,hq,_⟩:=T.one i hi
 rw[he]at he'
 simp only[oI]at he'
 subst he'
 obtain⟨p,_,_,_,hf⟩:=iF hq
 exact(hf n x hl).1
theorem Trace.path{E:Tag→Nat→Prop}{S:FuncId→List S1→List S1→Prop}(T:Trace Γ E S cH cr ops m s tr vcs)(K:Chk ops m): ∀(i:Nat),i<m→ ∀o p,ops[i]? =some o→fH (pre tr s i) ops o=some p→ ∀e,e∈p→
  ∃k o',k<i∧ops[k]? =some o'∧o'.dst=some e.1∧ ∀D:Nat→Prop,(∀i o,D i→ops[i]? =some o→ ∀j,j∈cC o→D j)→(∀j,j∈cC o→D j)→D k:=by
 intro i
 induction i using Nat.strongRecOn with
 |_ i ih=>
  intro hi o p ho hg e he
  unfold fH at hg
  split at hg
  ·simp at hg;subst hg;simp at he
  ·rename_i j x hgd
   obtain⟨hji,hjm,hje⟩:=K.guard i o j x hi ho hgd
   obtain⟨q,ej,vcj,hq,hej,X4,_,Si,_⟩:=T.one j hjm
   rw[hq]at hg
   dsimp only at hg
   rw[X4]at hg
   dsimp only at hg
   have Aq:look (pre tr s i).sl ej.d=some ej.v:=by
    refine ga hji rfl hej fun j' e' h1 _ h3 h4=> ?_
    obtain⟨q',e2,_,Wl,yS,hd2,_⟩:=T.one j' (by omega)
    rw[h3]at yS
    simp only[oI]at yS
    subst yS
    exact K.dist j q j' q' ej.d hjm (by omega) hq Wl X4 (by rw[hd2,h4])
   rw[Aq]at hg
   obtain⟨pj,ZE,fQ,fu,_⟩:=iF Si
   have base: ∃k o',k<i∧ops[k]? =some o'∧o'.dst=some ej.d∧ ∀D:Nat→Prop,(∀i o,D i→ops[i]? =some o→ ∀j,j∈cC o→D j)→(∀j,j∈cC o→D j)→D k:=
    ⟨j,q,hji,hq,X4,fun D _ hE=>hE j hje⟩
   split at hg
   ·simp only[oI]at hg
    subst hg
    simp only[List.mem_singleton]at he
    subst he
    exact base
   ·rename_i p' b hv
    simp only[oI]at hv
    simp only[oI]at hg
    subst hg
    rcases List.mem_cons.1 he with rfl|he
    ·exact base
    ·have hpj:pj=p':=by
      by_cases hnil:pj= []
      ·exact absurd hv (fQ hnil _ _)
      ·obtain⟨x',hx'⟩:=(fu hnil).1
       rw[hx']at hv
       simp only[SV.cond.injEq]at hv
       exact hv.1
     subst hpj
     obtain⟨k,o',h1,h2,h3,h4⟩:=ih j hji hjm q pj hq ZE e he
     exact⟨k,o',by omega,h2,h3,fun D hD hE=>h4 D hD (hD j q (hE j hje) hq)⟩
   ·cases hg
theorem PN(C: ∀t,c8 P t (Γ t))(T:Trace Γ (I6 P ty) (Sound ty P) cH cr ops m s tr vcs)(K:Chk ops m)(hv: ∀q,q∈vcs→q)(hnc:HV s.sl=true){zb:cK}{Q:Exit→Act→World→Prop}{D:Nat→Bool}(X5: ∀i,D i=true→i<m)(CV: ∀i o,D i=true→ops[i]? =some o→ ∀j,j∈cC o→D j=true)
  {i:Nat}(hi:i<m)(FH:D i=false){o:Oper}(ho:ops[i]? =some o)(hE: ∀j,j∈cC o→D j=true){a:Act}{w:World}(iv:Inv ty zb (dw D tr s m) a w):
  gT P ops.toArray o a w (fun a' w'=>Inv ty zb (dw (fun j=>D j||j==i) tr s m) a' w') Q:=by
 obtain⟨o',e,vc,ho',he,hd,hnm,hq,VZ⟩:=T.one i hi
 rw[ho]at ho'
 simp only[oI]at ho'
 subst ho'
 have hfr:=T.fresh
 have hdist: ∀{j e'},j<m→tr[j]? =some e'→ ∃q,ops[j]? =some q∧q.dst=some e'.d:=by
  intro j e' hj he'
  obtain⟨q,e2,_,Wl,yS,hd2,_⟩:=T.one j hj
  rw[he']at yS
  simp only[oI]at yS
  subst yS
  exact⟨q,Wl,hd2⟩
 have uz: ∀{j j':Nat} {e1 e2:TE},j<m→j'<m→tr[j]? =some e1→tr[j']? =some e2→e2.d=e1.d→j'=j:=by
  intro j j' e1 e2 h1 h2 h3 h4 h5
  obtain⟨q1,p1,p2⟩:=hdist h1 h3
  obtain⟨q2,p3,p4⟩:=hdist h2 h4
  exact K.dist j q1 j' q2 e1.d h1 h2 p1 p3 p2 (by rw[p4,h5])
 have bI: ∀t,(∀k o',k<m→ops[k]? =some o'→o'.dst=some t→k=i∨(k<i∧D k=true)∨(i<k∧D k=false))→look (pre tr s i).sl t=look (dw D tr s m).sl t:=by
  intro t ht
  by_cases hex: ∃k e',k<i∧D k=true∧tr[k]? =some e'∧e'.d=t
  ·obtain⟨k,e',hk,lD,he',rfl⟩:=hex
   rw[ga hk rfl he' fun j' e2 h1 _ h3 h4=>uz (by omega) (by omega) he' h3 h4,ga (by omega) lD he' fun j' e2 h1 _ h3 h4=>uz (by omega) h1 he' h3 h4]
  ·rw[jz (fun k e' hk _ he' hdt=>by
      obtain⟨q,h1,h2⟩:=hdist (by omega) he'
      rcases ht k q (by omega) h1 (by rw[h2,hdt])with h|h|h
      ·omega
      ·exact hex ⟨k,e',hk,h.2,he',hdt⟩
      ·omega),
    jz (fun k e' hk lD he' hdt=>by
     obtain⟨q,h1,h2⟩:=hdist hk he'
     rcases ht k q hk h1 (by rw[h2,hdt])with h|h|h
     ·subst h;rw[FH]at lD;cases lD
     ·exact hex ⟨k,e',h.1,h.2,he',hdt⟩
     ·rw[h.2]at lD;cases lD)]
 obtain⟨p,fN,fQ,fu,FP⟩:=iF hq
 have acj: ∀x,x∈p→ ∃k o',k<i∧ops[k]? =some o'∧o'.dst=some x.1∧D k=true:=by
  intro x hx
  obtain⟨k,o',h1,h2,h3,h4⟩:=T.path K i hi o p ho fN x hx
  exact⟨k,o',h1,h2,h3,h4 (fun j=>D j=true) CV hE⟩
 have zc: ∀x,x∈p→look (pre tr s i).sl x.1=look (dw D tr s m).sl x.1:=by
  intro x hx
  obtain⟨k,o',h1,h2,h3,h4⟩:=acj x hx
  refine bI x.1 fun k' o2 hk' I9 hd2=> ?_
  have:k'=k:=K.dist k o' k' o2 x.1 (by omega) hk' h2 I9 h3 hd2
  subst this
  exact Or.inr (Or.inl ⟨h1,h4⟩)
 have jo:fH (dw D tr s m) ops o=some p:=by
  rw[←fN]
  unfold fH
  split
  ·rfl
  ·rename_i j x hgd
   split
   ·rename_i q Et
    split
    ·rename_i d Lv
     have hmem: ∃y,(d,y)∈p:=by
      unfold fH at fN
      rw[hgd]at fN
      dsimp only at fN
      rw[Et]at fN
      dsimp only at fN
      rw[Lv]at fN
      dsimp only at fN
      split at fN
      ·simp only[oI]at fN;exact⟨x,by rw[←fN];simp⟩
      ·simp only[oI]at fN;exact⟨x,by rw[←fN];simp⟩
      ·cases fN
     obtain⟨y,hy⟩:=hmem
     rw[←zc (d,y) hy]
    ·rfl
   ·rfl
 have Ma:fresh (dw D tr s m).hp e.os=true:=by
  refine Er fun n x hl=> ?_
  cases I7:look (dw D tr s m).hp n with
  |none=>exact⟨rfl,(FP n x hl).2⟩
  |some y=>
   exfalso
   have hpi:=hfr i e hi he n x hl
   rcases gy I7 with h| ⟨j,e',hj,AN,he',h⟩
   ·have:=pe (qa:=fun _=>true) hfr (i:=i) (by omega) h
    rw[show dw (fun _=>true) tr s i=pre tr s i from rfl,hpi]at this
    cases this
   ·have hji:j≠i:=by rintro rfl;rw[FH]at AN;cases AN
    by_cases hlt:j<i
    ·have:=nA (qa:=fun _=>true) hfr (i:=i) (by omega) hlt rfl he' h
     rw[show dw (fun _=>true) tr s i=pre tr s i from rfl,hpi]at this
     cases this
    ·have h2:=hfr j e' hj he' n y h
     have:=nA (qa:=fun _=>true) hfr (i:=j) (by omega) (j:=i) (by omega) rfl he hl
     rw[show dw (fun _=>true) tr s j=pre tr s j from rfl,h2]at this
     cases this
 have Sj:((dw D tr s m).sl.any fun x=>x.2.mentions e.d)=false:=by
  rw[List.any_eq_false]
  intro x hx hm
  rcases CU hx with h| ⟨j,e',hj,AN,he',rfl⟩
  ·simp only[HV,List.all_eq_true]at hnc
   have:=hnc x h
   cases wU:x.2 with
   |cond q y=>simp[wU]at this
   |one y=>simp[wU,SV.mentions]at hm
   |tZ y=>simp[wU,SV.mentions]at hm
  ·obtain⟨q,e2,V4,Et,yS,hd2,_,Si,_⟩:=T.one j hj
   rw[he']at yS
   simp only[oI]at yS
   subst yS
   obtain⟨pj,ZE,hj0,Rz,_⟩:=iF Si
   by_cases hnil:pj= []
   ·cases wU:e'.v with
    |cond q y=>exact hj0 hnil _ _ wU
    |one y=>simp[wU,SV.mentions]at hm
    |tZ y=>simp[wU,SV.mentions]at hm
   ·obtain⟨y,hy⟩:=(Rz hnil).1
    simp only[hy,SV.mentions,List.any_eq_true]at hm
    obtain⟨z,hz,hzd⟩:=hm
    have hzd:=Nat.eq_of_beq_eq_true hzd
    obtain⟨k,o2,k1,k2,k3,k4⟩:=T.path K j hj q pj Et ZE z hz
    have lD:=k4 (fun j=>D j=true) CV (CV j q AN Et)
    have:k=i:=K.dist i o k o2 e.d hi (by omega) ho k2 hd (by rw[k3,hzd])
    subst this
    rw[FH]at lD;cases lD
 have hdm:e.v.mentions e.d=false:=by
  by_cases hnil:p= []
  ·cases wU:e.v with
   |cond q y=>exact absurd wU (fQ hnil _ _)
   |one y=>rfl
   |tZ y=>rfl
  ·obtain⟨⟨y,hy⟩,_,hne⟩:=fu hnil
   rw[hy]
   simp only[SV.mentions]
   rw[List.any_eq_false]
   intro z hz hb
   exact hne e.d hd z hz (Nat.eq_of_beq_eq_true hb)
 have behind: ∀a' w',Inv ty zb (app (dw D tr s m) e) a' w'→Inv ty zb (dw (fun j=>D j||j==i) tr s m) a' w':=by
  intro a' w' kI
  obtain⟨env,g⟩:=kI.good
  refine⟨by rw[kI.size,o9];show(dw D tr s m).n=s.n;exact o9 m,kI.defers,kI.kept,kI.Ap,env,g.congr ?_ ?_⟩
  ·intro t v hl
   show look ((e.d,e.v)::(dw D tr s m).sl) t=some v
   by_cases ht:t=e.d
   ·subst ht
    rw[ga hi (by simp) he fun j' e2 h1 _ h3 h4=>uz hi h1 he h3 h4]at hl
    rw[look_eq];exact hl
   ·rw[bg ht]
    by_cases hex: ∃k e',k<m∧D k=true∧tr[k]? =some e'∧e'.d=t
    ·obtain⟨k,e',hk,lD,he',rfl⟩:=hex
     rw[ga hk (by simp[lD]) he' fun j' e2 h1 _ h3 h4=>uz hk h1 he' h3 h4]at hl
     rw[ga hk lD he' fun j' e2 h1 _ h3 h4=>uz hk h1 he' h3 h4]
     exact hl
    ·rw[jz fun k e' hk lD he' hdt=>by
      simp only[Bool.or_eq_true,beq_iff_eq]at lD
      rcases lD with h|rfl
      ·exact hex ⟨k,e',hk,h,he',hdt⟩
      ·rw[he]at he'
       simp only[oI]at he'
       exact ht (by rw[he',hdt])]at hl
     rw[jz fun k e' hk lD he' hdt=>hex ⟨k,e',hk,lD,he',hdt⟩]
     exact hl
  ·intro n
   show look (dw (fun j=>D j||j==i) tr s m).hp n=look (e.os++(dw D tr s m).hp) n
   cases hl:look e.os n with
   |some x=>
    rw[cg hl]
    exact nA hfr (Nat.le_refl _) hi (by simp) he hl
   |none=>
    rw[bq hl]
    cases hx:look (dw (fun j=>D j||j==i) tr s m).hp n with
    |some y=>
     rcases gy hx with h| ⟨j,e',hj,AN,he',h⟩
     ·exact(pe hfr (Nat.le_refl _) h).symm
     ·have hji:j≠i:=by
       rintro rfl
       rw[he]at he'
       simp only[oI]at he'
       subst he'
       rw[hl]at h;cases h
      have AN:D j=true:=by
       simp only[Bool.or_eq_true,beq_iff_eq]at AN
       exact AN.resolve_right hji
      exact(nA hfr (Nat.le_refl _) hj AN he' h).symm
    |none=>
     cases hy:look (dw D tr s m).hp n with
     |none=>rfl
     |some y=>
      rcases gy hy with h| ⟨j,e',hj,AN,he',h⟩
      ·rw[pe hfr (Nat.le_refl _) h]at hx;cases hx
      ·rw[nA hfr (Nat.le_refl _) hj (by simp[AN]) he' h]at hx;cases hx
 have hput:St.put ⟨(dw D tr s m).n,(dw D tr s m).sl,e.os++(dw D tr s m).hp⟩ o.dst e.v=app (dw D tr s m) e:=by
  rw[hd]
  simp only[St.put,Sj]
  rfl
 by_cases hw:Region.wanted o (yielded ops.toArray a.tmps)=true
 ·have hh:holds a.tmps p:=by
   obtain⟨env,g⟩:=iv.good
   unfold fH at jo
   split at jo
   ·simp at jo;subst jo;intro y hy;simp at hy
   ·rename_i j x hgd
    split at jo
    ·rename_i q Et
     split at jo
     ·rename_i d Lv
      have ZF:=(lM (ops:=ops.toArray) hgd (by simpa using Et) Lv a.tmps).1 hw
      split at jo
      ·simp only[oI]at jo
       subst jo
       intro y hy
       simp at hy
       subst hy
       exact ZF
      ·rename_i p' b hl
       simp only[oI]at jo
       subst jo
       intro y hy
       rcases List.mem_cons.1 hy with rfl|hy
       ·exact ZF
       ·exact(vH g hl ZF).1 y hy
      ·cases jo
     ·cases jo
    ·cases jo
  obtain⟨env,g⟩:=iv.good
  have HX:Compat (pre tr s i).hp (dw D tr s m).hp:=by
   intro n x y h1 h2
   have h3:=uw hfr (Nat.le_of_lt hi) (Nat.le_refl m) h1
   have h4:=nQ hfr (Nat.le_refl m) h2
   rw[h3]at h4
   simpa using h4
  have hmono:=Ep HX g (by rw[o9,o9]) fN jo hh (fun x hx t hxt=>bI t fun k o2 hk I9 hd2=>by
    have ht:t∈tmpsOf o:=by
     simp only[tmpsOf,List.mem_filterMap]
     exact⟨x,hx,by rw[hxt]⟩
    rcases K.uses i o hi ho t ht k o2 hk I9 hd2 with h|h|h
    ·exact Or.inl h
    ·exact Or.inr (Or.inl ⟨K.back i o ho k h,hE k h⟩)
    ·refine Or.inr (Or.inr ⟨h.1,?_⟩)
     cases lD:D k with
     |false=>rfl
     |true=>
      have:=uy (D:=fun j=>D j=true) K.back CV k o2 I9 (CV k o2 lD I9) i h.2
      rw[FH]at this;cases this) zc Ma hq
  have:=DS (Q:=Q) C hmono iv (fun q hq=>hv q (VZ q hq))
  rw[hput]at this
  exact this.mono behind
 ·unfold gT
  rw[if_neg hw]
  have hnil:p≠ []:=by
   rintro rfl
   unfold fH at fN
   split at fN
   ·rename_i hgd;exact hw (by simp[Region.wanted,hgd])
   ·repeat' split at fN
    all_goals simp at fN
  obtain⟨⟨y,hy⟩,hos,_⟩:=fu hnil
  have hnh: ¬holds a.tmps p:=by
   intro hh
   unfold fH at fN
   split at fN
   ·rename_i hgd;exact hw (by simp[Region.wanted,hgd])
   ·rename_i j x hgd
    split at fN
    ·rename_i q Et
     split at fN
     ·rename_i d Lv
      have hdx:(d,x)∈p:=by
       split at fN
       ·simp only[oI]at fN;rw[←fN];simp
       ·simp only[oI]at fN;rw[←fN];simp
       ·cases fN
      exact hw ((lM (ops:=ops.toArray) hgd (by simpa using Et) Lv a.tmps).2 (hh _ hdx))
     ·cases fN
    ·cases fN
  apply behind
  obtain⟨env,g⟩:=iv.good
  have hlt:e.d<a.tmps.size:=by
   unfold mh at hq
   have:ue (pre tr s i) o.dst=true:=by
    cases ZG:ue (pre tr s i) o.dst with
    |true=>rfl
    |false=>rw[ZG]at hq;simp at hq
   rw[hd]at this
   rw[iv.size,o9]
   have:=Nat.le_of_ble_eq_true this
   rw[show(pre tr s i).n=s.n from o9 i]at this
   exact this
  have Sk:=g.put (d:=e.d) hlt (v:=e.v) (u:=undef) (by rw[hy];exact⟨fun hh=>absurd hh hnh,fun _=>rfl⟩) hdm
  refine⟨by rw[gM];exact iv.size,by rw[put_defers];exact iv.defers,iv.kept,iv.Ap,env,?_⟩
  rw[hd]
  have ZH:(dw D tr s m).put (some e.d) e.v=app (dw D tr s m) e:=by
   simp only[St.put,Sj,app,hos]
   rfl
  rw[ZH]at Sk
  exact Sk
end
end
section
variable{ty:Tag→Nat}
theorem j8{ops:List Oper}{listed:Array Bool}(hl:listed.size=ops.length){i:Nat}:i∈Region.ready .any ops.toArray listed↔ ∃o,ops[i]? =some o∧listed.getD i false=false∧ ∀j,j∈cC o→listed.getD j false=true:=by
 unfold Region.ready
 rw[List.mem_filter,List.mem_range]
 simp only[List.size_toArray,List.getElem?_toArray,Bool.and_eq_true,Bool.not_eq_true']
 constructor
 ·rintro⟨hi,h1,h2⟩
  refine⟨ops[i],List.getElem?_eq_getElem hi,?_,?_⟩
  ·have:listed[i]? =some listed[i]:=by simp[hl,hi]
   rw[Array.getD_eq_getD_getElem?,this]at h1 ⊢
   exact h1
  ·intro j hj
   simp only[cC,List.mem_filterMap,Array.mem_toList_iff]at hj
   obtain⟨e,he,hj⟩:=hj
   split at hj
   ·rename_i hb
    simp only[oI]at hj
    subst hj
    rw[List.getElem?_eq_getElem hi]at h2
    simp only[Option.map_some,Option.getD_some]at h2
    have:=Array.all_eq_true_iff_forall_mem.1 h2 e he
    simpa[hb]using this
   ·cases hj
 ·rintro⟨o,ho,h1,h2⟩
  have hi:=(List.getElem?_eq_some_iff.1 ho).1
  refine⟨hi,?_,?_⟩
  ·have:listed[i]? =some listed[i]:=by simp[hl,hi]
   rw[Array.getD_eq_getD_getElem?,this]at h1 ⊢
   exact h1
  ·rw[ho]
   simp only[Option.map_some,Option.getD_some]
   rw[Array.all_eq_true_iff_forall_mem]
   intro e he
   cases hb:Region.binds .any e with
   |false=>simp
   |true=>
    have:=h2 e.on (by
     simp only[cC,List.mem_filterMap,Array.mem_toList_iff]
     exact⟨e,he,by simp[hb]⟩)
    simp[this]
theorem ze{listed:Array Bool}{i j:Nat}(hi:i<listed.size):(listed.setIfInBounds i true).getD j false=(listed.getD j false||j==i):=by
 rw[Array.getD_eq_getD_getElem?,Array.getD_eq_getD_getElem?]
 by_cases hij:i=j
 ·subst hij
  rw[Array.getElem?_setIfInBounds_self_of_lt hi];simp
 ·rw[Array.getElem?_setIfInBounds_ne hij]
  simp[show¬j=i from fun h=>hij h.symm]
def cnt(n:Nat)(D:Nat→Bool):Nat:=((List.range n).filter fun i=> !D i).length
theorem filter_lt{p q:Nat→Bool}: ∀{l:List Nat},(∀x,x∈l→q x=true→p x=true)→(∃x,x∈l∧p x=true∧q x=false)→(l.filter q).length<(l.filter p).length
 |y::r,h,⟨x,hx,hp,hq⟩=>by
  have le: ∀{l:List Nat},(∀x,x∈l→q x=true→p x=true)→(l.filter q).length≤(l.filter p).length:=by
   intro l
   induction l with
   |nil=>intro _;simp
   |cons z l ih=>
    intro hh
    have:=ih fun x hx=>hh x (by simp[hx])
    cases hz:q z with
    |true=>rw[List.filter_cons_of_pos hz,List.filter_cons_of_pos (hh z (by simp) hz)];simp;exact this
    |false=>
     rw[List.filter_cons_of_neg (by simp[hz])]
     cases NT:p z with
     |true=>rw[List.filter_cons_of_pos NT];simp;omega
     |false=>rw[List.filter_cons_of_neg (by simp[NT])];exact this
  rcases List.mem_cons.1 hx with rfl|hx
  ·rw[List.filter_cons_of_neg (by simp[hq]),List.filter_cons_of_pos hp]
   have:=le (l:=r) fun x hx=>h x (by simp[hx])
   simp;omega
  ·have ih:=filter_lt (l:=r) (fun x hx=>h x (by simp[hx])) ⟨x,hx,hp,hq⟩
   cases hy:q y with
   |true=>rw[List.filter_cons_of_pos hy,List.filter_cons_of_pos (h y (by simp) hy)];simp;exact ih
   |false=>
    rw[List.filter_cons_of_neg (by simp[hy])]
    cases hy2:p y with
    |true=>rw[List.filter_cons_of_pos hy2];simp;omega
    |false=>rw[List.filter_cons_of_neg (by simp[hy2])];exact ih
theorem NU{n i:Nat}{D:Nat→Bool}(hi:i<n)(hD:D i=false):cnt n (fun j=>D j||j==i)<cnt n D:=by
 refine filter_lt ?_ ⟨i,List.mem_range.2 hi,by simp[hD],by simp⟩
 intro x _ h
 simp only[Bool.not_eq_true',Bool.or_eq_false_iff]at h
 simp[h.1]
theorem JZ{n:Nat}{D:Nat→Bool}(h:cnt n D=0): ∀i,i<n→D i=true:=by
 intro i hi
 have:=List.eq_nil_of_length_eq_zero h
 cases hd:D i with
 |true=>rfl
 |false=>
  have:i∈(List.range n).filter fun i=> !D i:=List.mem_filter.2 ⟨List.mem_range.2 hi,by simp[hd]⟩
  simp_all
section
variable{P:Program}{Γ:Nat→TK}{cH:List (Nat×Nat)}{cr:List (Nat×CR)}{ops:List Oper}{m:Nat}{s:St}{tr:List TE}{zb:cK}{Q:Exit→Act→World→Prop}
theorem Sm(X:Ctx P ty Γ)(K:Chk ops m){vcs:List Prop}{mM:St}(hv: ∀q,q∈vcs→q)(hQ: ∀a w,Inv ty zb mM a w→Q .normal a w): ∀(fuel k:Nat) (st:St) (acc:List Prop) (listed:Array Bool) (a:Act) (w:World),m≤k→k≤ops.length→ops.length-k≤fuel→listed.size=ops.length→
  (∀i,listed.getD i false=true↔i<k)→run P ty Γ cH cr ops (ops.drop k) st acc=some (vcs,mM)→Inv ty zb st a w→wpAny P .any ops.toArray Q fuel listed a w:=by
 have fin: ∀{k st acc a w},ops.length≤k→run P ty Γ cH cr ops (ops.drop k) st acc=some (vcs,mM)→Inv ty zb st a w→Q .normal a w:=by
  intro k st acc a w hk hr iv
  rw[List.drop_eq_nil_of_le hk]at hr
  simp only[run,oI,pI]at hr
  exact hQ a w (hr.2▸iv)
 have rdy: ∀{k:Nat} {listed:Array Bool},k<ops.length→listed.size=ops.length→(∀i,listed.getD i false=true↔i<k)→k∈Region.ready .any ops.toArray listed:=by
  intro k listed hk hl hL
  rw[j8 hl]
  refine⟨ops[k],List.getElem?_eq_getElem hk,?_,fun j hj=>(hL j).2 (K.back k _ (List.getElem?_eq_getElem hk) j hj)⟩
  cases h:listed.getD k false with
  |false=>rfl
  |true=>have:=(hL k).1 h;omega
 intro fuel
 induction fuel with
 |zero=>
  intro k st acc listed a w hmk hkn hf hl hL hr iv
  refine⟨?_,fin (by omega) hr iv⟩
  apply List.eq_nil_iff_forall_not_mem.2
  intro i hi
  obtain⟨o,ho,h1,_⟩:=(j8 hl).1 hi
  have:=(List.getElem?_eq_some_iff.1 ho).1
  rw[(hL i).2 (by omega)]at h1
  cases h1
 |succ fuel ih=>
  intro k st acc listed a w hmk hkn hf hl hL hr iv
  refine⟨fun hnil=> ?_,fun i hi=> ?_⟩
  ·by_cases hk:k<ops.length
   ·have:=rdy hk hl hL
    rw[hnil]at this
    simp at this
   ·exact fin (by omega) hr iv
  ·obtain⟨o,ho,h1,h2⟩:=(j8 hl).1 hi
   have hin:=(List.getElem?_eq_some_iff.1 ho).1
   have hki:k≤i:=by
    rcases Nat.lt_or_ge i k with h|h
    ·rw[(hL i).2 h]at h1;cases h1
    ·exact h
   have hik:i=k:=by
    rcases Nat.lt_or_ge k i with h|h
    ·exfalso
     have hc: ∀i o,listed.getD i false=true→ops[i]? =some o→ ∀j,j∈cC o→listed.getD j false=true:=fun i o hi ho j hj=>(hL j).2 (by have:=K.back i o ho j hj;have:=(hL i).1 hi;omega)
     have:=uy (D:=fun j=>listed.getD j false=true) K.back hc i o ho h2 k (K.tail i o (by omega) ho k h)
     have:=(hL k).1 this
     omega
    ·omega
   subst hik
   have ack:ops.drop i=o::ops.drop (i+1):=by
    rw[List.drop_eq_getElem_cons hin]
    congr 1
    have:=List.getElem?_eq_getElem hin
    rw[ho]at this
    simpa using this.symm
   rw[ack]at hr
   obtain⟨vc,AI,hs,Nl⟩:=vN hr
   have hstep:=rP (Q:=Q) X.kind X.one hs iv (fun q hq=>hv q (rQ Nl q (List.mem_append_left _ hq)))
   unfold wpOp
   rw[List.getElem?_toArray,ho]
   dsimp only
   have:=hstep.mono fun a' w' kI=>ih (i+1) AI _ (listed.setIfInBounds i true) a' w' (by omega) (by omega) (by omega) (by simpa using hl)
    (fun j=>by
     rw[ze (by omega)]
     simp only[Bool.or_eq_true,beq_iff_eq,hL]
     omega) Nl kI
   exact this
theorem Sn(X:Ctx P ty Γ)(K:Chk ops m){nM vcs:List Prop}{mM:St}(T:Trace Γ (I6 P ty) (Sound ty P) cH cr ops m s tr vcs)(hnc:HV s.sl=true)(hv: ∀q,q∈vcs→q)(hQ: ∀a w,Inv ty zb mM a w→Q .normal a w)
  (hr:run P ty Γ cH cr ops (ops.drop m) (pre tr s m) nM=some (vcs,mM)): ∀(fuel:Nat) (listed:Array Bool) (a:Act) (w:World),cnt ops.length (fun i=>listed.getD i false)≤fuel→listed.size=ops.length→(∀i,listed.getD i false=true→i<m)→
  (∀i o,listed.getD i false=true→ops[i]? =some o→ ∀j,j∈cC o→listed.getD j false=true)→Inv ty zb (dw (fun i=>listed.getD i false) tr s m) a w→wpAny P .any ops.toArray Q fuel listed a w:=by
 have all: ∀{listed:Array Bool} {fuel:Nat} {a:Act} {w:World},listed.size=ops.length→(∀i,listed.getD i false=true→i<m)→(∀i,i<m→listed.getD i false=true)→cnt ops.length (fun i=>listed.getD i false)≤fuel→Inv ty zb (dw (fun i=>listed.getD i false) tr s m) a w→wpAny P .any ops.toArray Q fuel listed a w:=by
  intro listed fuel a w hl h1 h2 hf iv
  have heq: ∀i,i≤m→dw (fun i=>listed.getD i false) tr s i=pre tr s i:=by
   intro i
   induction i with
   |zero=>intro _;rfl
   |succ i ih=>
    intro hi
    rw[dw,pre,dw,ih (by omega),h2 i (by omega)]
  rw[heq m (Nat.le_refl _)]at iv
  refine Sm X K hv hQ fuel m _ nM listed a w (Nat.le_refl _) K.le ?_ hl (fun i=>⟨h1 i,h2 i⟩) hr iv
  refine Nat.le_trans ?_ hf
  unfold cnt
  have hsub:(List.range ops.length).filter (fun i=> !listed.getD i false)=(List.range ops.length).filter fun i=>decide (m≤i):=by
   apply List.filter_congr
   intro i _
   by_cases h:m≤i
   ·cases hh:listed.getD i false with
    |true=>have:=h1 i hh;omega
    |false=>simp[h]
   ·simp[h2 i (by omega),h]
  rw[hsub]
  have: ∀n,m≤n→((List.range n).filter fun i=>decide (m≤i)).length=n-m:=by
   intro n hn
   induction n with
   |zero=>simp
   |succ n ih=>
    rw[List.range_succ,List.filter_append]
    by_cases h:m≤n
    ·simp[ih h,h];omega
    ·have:(List.range n).filter (fun i=>decide (m≤i))= []:=by
      apply List.filter_eq_nil_iff.2
      intro i hi
      have:=List.mem_range.1 hi
      simp;omega
     simp[this,h];omega
  rw[this _ K.le]
  exact Nat.le_refl _
 intro fuel
 induction fuel with
 |zero=>
  intro listed a w hf hl h1 h2 iv
  have hz:=JZ (by omega:cnt ops.length (fun i=>listed.getD i false)=0)
  exact all hl h1 (fun i hi=>hz i (by have:=K.le;omega)) hf iv
 |succ fuel ih=>
  intro listed a w hf hl h1 h2 iv
  by_cases hall: ∀i,i<m→listed.getD i false=true
  ·exact all hl h1 hall hf iv
  ·have hex: ∃i,i<m∧listed.getD i false=false∧ ∀j,j<i→listed.getD j false=true:=by
    have: ∃i,i<m∧listed.getD i false=false:=by
     apply Classical.byContradiction
     intro hno
     apply hall
     intro i hi
     cases h:listed.getD i false with
     |true=>rfl
     |false=>exact absurd ⟨i,hi,h⟩ hno
    obtain⟨i,hi,h⟩:=this
    induction i using Nat.strongRecOn with
    |_ i ihi=>
     by_cases PO: ∀j,j<i→listed.getD j false=true
     ·exact⟨i,hi,h,PO⟩
     ·have: ∃j,j<i∧listed.getD j false=false:=by
       apply Classical.byContradiction
       intro hno
       apply PO
       intro j hj
       cases hh:listed.getD j false with
       |true=>rfl
       |false=>exact absurd ⟨j,hj,hh⟩ hno
      obtain⟨j,hj,hjf⟩:=this
      exact ihi j hj (by omega) hjf
   have hml:=K.le
   refine⟨fun hnil=> ?_,fun i hi=> ?_⟩
   ·obtain⟨i,hi,hif,PO⟩:=hex
    have hin:i<ops.length:=by omega
    have:i∈Region.ready .any ops.toArray listed:=(j8 hl).2 ⟨ops[i],List.getElem?_eq_getElem hin,hif,fun j hj=>PO j (K.back i _ (List.getElem?_eq_getElem hin) j hj)⟩
    rw[hnil]at this
    simp at this
   ·obtain⟨o,ho,hif,hE⟩:=(j8 hl).1 hi
    have hin:=(List.getElem?_eq_some_iff.1 ho).1
    have him:i<m:=by
     rcases Nat.lt_or_ge i m with h|h
     ·exact h
     ·exfalso
      obtain⟨j,hj,hjf,_⟩:=hex
      have:=uy (D:=fun j=>listed.getD j false=true) K.back h2 i o ho hE j (K.tail i o h ho j (by omega))
      rw[hjf]at this;cases this
    unfold wpOp
    rw[List.getElem?_toArray,ho]
    dsimp only
    have hstep:=PN (Q:=Q) X.kind T K hv hnc (D:=fun i=>listed.getD i false) h1 h2 him hif ho hE iv
    have PR: ∀j,(listed.setIfInBounds i true).getD j false=(listed.getD j false||j==i):=fun j=>ze (by omega)
    have Wm:(fun j=>(listed.setIfInBounds i true).getD j false)=fun j=>listed.getD j false||j==i:=funext PR
    have:=hstep.mono fun a' w' kI=>ih (listed.setIfInBounds i true) a' w'
     (by rw[Wm];have:=NU (D:=fun i=>listed.getD i false) hin hif;omega) (by simpa using hl)
     (fun j hj=>by
      rw[PR,Bool.or_eq_true,beq_iff_eq]at hj
      rcases hj with hj|rfl
      ·exact h1 j hj
      ·exact him)
     (fun j o' hj ho' x hx=>by
      rw[PR]at hj ⊢
      rw[Bool.or_eq_true,beq_iff_eq]at hj
      rw[Bool.or_eq_true]
      rcases hj with hj|rfl
      ·exact Or.inl (h2 j o' hj ho' x hx)
      ·rw[ho]at ho'
       simp only[oI]at ho'
       subst ho'
       exact Or.inl (hE x hx))
     (by rw[Wm];exact kI)
    exact this
end
section
variable{P:Program}{Γ:Nat→TK}{zb:cK}{Q:Post}{st:St}
theorem bZ(X:Ctx P ty Γ)(cH:List (Nat×Nat))(cr:List (Nat×CR))(ks hs:List Nat)(m:Nat){id:Nat}{ops:List Oper}{vc:List Prop}{st':St}(hm:P.follows .mixedOrders=true)(hc:chk ops m=true)(h:ZB P ty Γ cH cr ks hs m ops st=some (vc,st'))(hv:lB vc)(k:Q .normal st'):
  W P ty zb (.region id ops.toArray true) Q st:=by
 intro a w iv
 obtain⟨n,I8,fQ⟩:=st
 have K:=ZD hc
 simp only[ZB]at h
 split at h
 ·rename_i nM s1 hnc hq
  split at h
  ·rename_i V4 s2 hr
   split at h
   ·rename_i sl hp h1 h2
    split at h
    ·rename_i yx hn
     simp only[oI,pI]at h
     obtain⟨rfl,rfl⟩:=h
     obtain⟨tr,t1,t2,t3⟩:=JY (k:=0) hq (fun i o ho=>by
      rw[List.getElem?_take]at ho
      split at ho
      ·simpa using ho
      ·cases ho)
     have hlen:(ops.take m).length=m:=by rw[List.length_take];have:=K.le;omega
     rw[hlen]at t1 t2 t3
     subst t2
     have T:Trace Γ (I6 P ty) (Sound ty P) cH cr ops m ⟨n,I8,fQ⟩ tr V4:=⟨t1,fun i hi=>by
      obtain⟨o,e,vc,p1,p2,p3,p4,p5,p6⟩:=t3 i hi
      exact⟨o,e,vc,by simpa using p1,p2,p3,p4,p5,fun q hq=>rQ hr q (p6 q hq)⟩⟩
     refine wp_region_any hm ?_
     have hz: ∀i,(Array.replicate ops.toArray.size false).getD i false=false:=by
      intro i
      rw[Array.getD_eq_getD_getElem?,Array.getElem?_replicate]
      split<;>rfl
     refine Sn (Q:=Ee ty zb Q) X K T hnc hv.out (fun a w kI=>⟨_,kI.weaken (Nat.eq_of_beq_eq_true hn).symm (iC h1) (iD h2) yx,k⟩) hr _ _ a _ ?_ (by simp) (fun i hi=>by rw[hz]at hi;cases hi) (fun i o hi=>by rw[hz]at hi;cases hi) ?_
     ·unfold cnt
      refine Nat.le_trans (List.length_filter_le _ _) ?_
      simp
     ·have hD:(fun i=>(Array.replicate ops.toArray.size false).getD i false)=fun _=>false:=funext hz
      rw[hD]
      have hmk: ∀i,dw (fun _=>false) tr ⟨n,I8,fQ⟩ i=⟨n,I8,fQ⟩:=by
       intro i
       induction i with
       |zero=>rfl
       |succ i ih=>rw[y8 rfl,ih]
      rw[hmk]
      obtain⟨env,g⟩:=iv.good
      have hdr:Below w.heap.size w w.drew:=(Below.refl _ _).drew
      refine⟨iv.size,iv.defers,iv.kept.trans (jN hdr iv.kept.size),iv.Ap,env,?_⟩
      have:=g.grow (os:= []) (w':=w.drew) (env':=env) iv.kept.size rfl (lu.none hdr)
      exact this
    ·cases h
   ·cases h
  ·cases h
 ·cases h
theorem cQ(X:Ctx P ty Γ)(cH:List (Nat×Nat))(cr:List (Nat×CR))(ks hs:List Nat)(m:Nat){y:Code}{id:Nat}{ops:List Oper}{vc:List Prop}{st':St}(hm:P.follows .mixedOrders=true)(hc:chk ops m=true)(h:ZB P ty Γ cH cr ks hs m ops st=some (vc,st'))(hv:lB vc)(k:W P ty zb y Q st'):W P ty zb (.seq (.region id ops.toArray true) y) Q st:=aa (bZ X cH cr ks hs m hm hc h hv k)
end
end
section
variable{ty:Tag→Nat}
def AQ(l:List Oper):Option (List Oper×Oper):=match l.reverse with
 | []=>none
 |o::r=>some (r.reverse,o)
theorem H8{l p:List Oper}{q:Oper}(h:AQ l=some (p,q)):l=p++ [q]:=by
 unfold AQ at h
 split at h
 ·cases h
 ·rename_i o r he
  simp only[oI,pI]at h
  obtain⟨rfl,rfl⟩:=h
  have:=congrArg List.reverse he
  rw[List.reverse_reverse,List.reverse_cons]at this
  exact this
def NX(Γ:Nat→TK)(st:St)(o:Oper):Option (Nat×Prop):=match o.guard,o.dst,o.op with
 |none,some d, .binOp .eql t (.tmp s) (.const (.slice none 0 0)) _=>match Γ t,look st.sl s,Nat.blt d st.n with
  | .sl _ _,some (.one (.a (.sl _ l))),true=>some (d,l= [])
  | .sl _ _,some (.one (.a (.vw _ _ _ l))),true=>some (d,l= [])
  | .sl _ _,some (.one (.a (.own n))),true=>match look st.hp n with
    |some (.arr _ l)=>some (d,l= [])
    |_=>none
  |_,_,_=>none
 |_,_,_=>none
def NY(n:Nat)(st':St)(ks:List Nat):Option St:=match wP st'.sl ks,wQ st'.hp (Gz st'.sl st'.hp ks [])with
 |some sl,some hp=>match ng sl hp with
  |true=>some ⟨n,sl,hp⟩
  |false=>none
 |_,_=>none
def NZ(AI:St)(ks:List Nat)(d:Nat)(b:Bool):Option St:=NY AI.n (AI.put (some d) (.one (.a (.lit (.bool b))))) ks
def SL(P:Program)(ty:Tag→Nat)(Γ:Nat→TK)(cH:List (Nat×Nat))(cr:List (Nat×CR))(ks:List Nat)(ops:List Oper)(st:St):Option (List Prop×Prop×St×St):=
 match AQ ops with
 |some (pre,o)=>match run P ty Γ cH cr ops pre st []with
  |some (vc,AI)=>match NX Γ AI o with
   |some (d,p)=>match NZ AI ks d true,NZ AI ks d false with
    |some a,some b=>some (vc,p,a,b)
    |_,_=>none
   |none=>none
  |none=>none
 |none=>none
section
variable{P:Program}{Γ:Nat→TK}{zb:cK}{Q:Post}{st:St}
theorem H9(C: ∀t,c8 P t (Γ t))(Z: ∀t,(∀z tg fo,Γ t≠ .st z tg fo)→Γ t≠ .other→(P.info? t).map (·.size)=some 1){cH:List (Nat×Nat)}{cr:List (Nat×CR)}{ops:List Oper}{mM:St}{vcs:List Prop}{Q:Exit→Act→World→Prop}{tail:List Oper}
  (hQ: ∀a w,Inv ty zb mM a w→wpList P ops.toArray Q tail a w): ∀{l:List Oper} {st:St} {acc:List Prop} {a:Act} {w:World},run P ty Γ cH cr ops l st acc=some (vcs,mM)→(∀q,q∈vcs→q)→Inv ty zb st a w→wpList P ops.toArray Q (l++tail) a w
 | [],st,acc,a,w,h,hv,iv=>by
   simp only[run,oI,pI]at h
   obtain⟨_,rfl⟩:=h
   exact hQ a w iv
 |o::r,st,acc,a,w,h,hv,iv=>by
  obtain⟨vc,AI,h1,h2⟩:=vN h
  have:=rP (Q:=Q) C Z h1 iv (fun q hq=>hv q (rQ h2 q (List.mem_append_left _ hq)))
  exact this.mono fun a' w' kI=>H9 C Z hQ h2 hv kI
theorem J4{w:World}{t e:Nat}(d:Nat)(hu:P.underlying t=some (.slice e)){oa:Option Addr}{n cap:Nat}:(Op.equalIn (d+1) t (.slice oa n cap) (.slice none 0 0)).run P w= .ok oa.isNone w:=by
 cases oa<;>simp[Op.equalIn,run_underlying hu]
theorem ZQ{o:Oper}{a:Act}{w:World}{K:Act→World→Prop}{Q:Exit→Act→World→Prop}{t s e ge:Nat}{ty2:TypeId}(ho:o.op= .binOp .eql t (.tmp s) (.const (.slice none 0 0)) ty2)(hu:P.underlying t=some (.slice e)){oa:Option Addr}{n cap:Nat}(hs:a.tmps.getD s undef= .slice oa n cap)
  (h:K (a.put o.dst (.bool oa.isNone)) w):o.wp P a w K Q:=by
 have hx:a.eval (.tmp s)= .slice oa n cap:=hs
 have hrun:(execOp a.eval o).run P w= .ok (.value (.bool oa.isNone)) w:=by
  have hy:a.eval (.const (.slice none 0 0))= .slice none 0 0:=rfl
  unfold execOp
  simp only[ho,hx,hy]
  have he:(Op.equal t (.slice oa n cap) (.slice none 0 0)).run P w= .ok oa.isNone w:=J4 9999 hu
  have hb:(binOp .eql t (.slice oa n cap) (.slice none 0 0)).run P w= .ok (.bool oa.isNone) w:=by
   show(do pure (.bool (←Op.equal t (.slice oa n cap) (.slice none 0 0))):Sem Value).run P w=_
   simp only[Sem.run_bind,he,Result.andThen_ok,Sem.run_pure]
  have hg:(eqGuard .eql t (.tmp s) (.const (.slice none 0 0)) (.slice oa n cap) (.slice none 0 0)).run P w= .ok () w:=by simp[eqGuard]
  simp only[Sem.run_bind,hg,hb,Result.andThen_ok,Sem.run_pure]
 unfold Oper.wp
 rw[hrun]
 exact h
theorem J5{AI st':St}{ks:List Nat}{d:Nat}{b:Bool}(h:NZ AI ks d b=some st'){a:Act}{w:World}(iv:Inv ty zb AI a w)(hd:Nat.blt d AI.n=true):Inv ty zb st' (a.put (some d) (.bool b)) w:=by
 have iv2:Inv ty zb (AI.put (some d) (.one (.a (.lit (.bool b))))) (a.put (some d) (.bool b)) w:=by
  obtain⟨env,g⟩:=iv.good
  have hlt: ∀d',some d=some d'→d'<a.tmps.size:=by
   intro d' e
   simp only[oI]at e
   subst e
   rw[iv.size]
   exact Nat.le_of_ble_eq_true hd
  exact⟨by rw[gM,wN];exact iv.size,by rw[put_defers];exact iv.defers,iv.kept,iv.Ap,env,nN (dst:=some d) g hlt (u:= .bool b) (show oR w AI.hp env a.tmps (.one (.a (.lit (.bool b)))) (.bool b)from ⟨rfl,rfl⟩) fun d _=>o8 ⟨_,rfl⟩⟩
 unfold NZ NY at h
 split at h
 ·rename_i sl hp h1 h2
  split at h
  ·rename_i hc
   simp only[oI]at h
   subst h
   exact iv2.weaken (by rw[wN]) (iC h1) (iD h2) hc
  ·cases h
 ·cases h
theorem J6(X:Ctx P ty Γ)(cH:List (Nat×Nat))(cr:List (Nat×CR))(ks:List Nat){id:Nat}{ops:List Oper}{vc:List Prop}{p:Prop}{sT sF:St}(h:SL P ty Γ cH cr ks ops st=some (vc,p,sT,sF))(hv:lB vc)(kT:p→Q .normal sT)(kF:Q .normal sF):
  W P ty zb (.region id ops.toArray false) Q st:=by
 intro a w iv
 unfold SL at h
 split at h
 case h_2=>cases h
 rename_i pre o hsp
 split at h
 case h_2=>cases h
 rename_i nM AI hrun
 split at h
 case h_2=>cases h
 rename_i d p1 hnp
 split at h
 case h_2=>cases h
 rename_i sa sb hT hF
 simp only[oI,pI]at h
 obtain⟨rfl,rfl,rfl,rfl⟩:=h
 refine wp_region_lit ?_
 rw[show wpList P ops.toArray (Ee ty zb Q) ops a w=wpList P ops.toArray (Ee ty zb Q) (pre++ [o]) a w by rw[←H8 hsp]]
 refine H9 X.kind X.one (fun a w iv=> ?_) hrun hv.out iv
 obtain⟨env,g⟩:=iv.good
 unfold NX at hnp
 split at hnp
 case h_2=>cases hnp
 rename_i d0 t s ty2 hg hd hop
 have fin: ∀{oa:Option Addr} {n cap:Nat} {e ge:Nat},P.underlying t=some (.slice e)→a.tmps.getD s undef= .slice oa n cap→(oa=none→p1)→d0=d→Nat.blt d0 AI.n=true→wpList P ops.toArray (Ee ty zb Q) [o] a w:=by
  intro oa n cap e ge hu hs hn hdd hlt
  subst hdd
  have hk: ∀a' w',(fun a' w'=>a'=a.put (some d0) (.bool oa.isNone)∧w'=w) a' w'→wpList P ops.toArray (Ee ty zb Q) [] a' w':=by
   rintro a' w' ⟨rfl,rfl⟩
   refine wpList_nil ?_
   cases oa with
   |none=>exact⟨sa,J5 hT iv hlt,kT (hn rfl)⟩
   |some x=>exact⟨sb,J5 hF iv hlt,kF⟩
  have hR:gT P ops.toArray o a w (fun a' w'=>a'=a.put (some d0) (.bool oa.isNone)∧w'=w) (Ee ty zb Q):=jO hg (ZQ (ge:=ge) hop hu hs ⟨by rw[hd],rfl⟩)
  exact hR.mono hk
 split at hnp
 ·rename_i g1 e1 t1 l hk hl hlt
  simp only[oI,pI]at hnp
  have hC:=X.kind t
  rw[hk]at hC
  obtain⟨fp,Aq,_⟩:=g.slot s _ hl
  obtain⟨oa,cap,hv0,_,_,h3⟩:=Aq
  refine fin (ge:=0) hC.1 hv0 (fun hn=> ?_) hnp.1 hlt
  rw[←hnp.2]
  rcases h3 with⟨h3,_⟩| ⟨b,off,bA,rfl,_⟩
  ·exact h3
  ·cases hn
 ·rename_i g1 e1 n1 p2 t1 l hk hl hlt
  simp only[oI,pI]at hnp
  have hC:=X.kind t
  rw[hk]at hC
  obtain⟨_,⟨fp,Aq,_⟩,_⟩:=g.slot s _ hl
  obtain⟨oa,cap,hv0,_,_,h3⟩:=Aq
  refine fin (ge:=0) hC.1 hv0 (fun hn=> ?_) hnp.1 hlt
  rw[←hnp.2]
  rcases h3 with⟨h3,_⟩| ⟨b,off,bA,rfl,_⟩
  ·exact h3
  ·cases hn
 ·rename_i g1 e1 n1 hk hl hlt
  split at hnp
  ·rename_i t1 l PJ
   simp only[oI,pI]at hnp
   have hC:=X.kind t
   rw[hk]at hC
   obtain⟨_,hu⟩:=g.slot s _ hl
   obtain⟨oa,cap,hv0,_,_,h3⟩:=RO.sl (g.obj n1 _ PJ)
   refine fin (ge:=0) hC.1 (hu.trans hv0) (fun hn=> ?_) hnp.1 hlt
   rw[←hnp.2]
   rcases h3 with⟨h3,_⟩| ⟨b,off,bA,rfl,_⟩
   ·exact h3
   ·cases hn
  ·cases hnp
 ·cases hnp
end
end
section
variable{ty:Tag→Nat}
def V.rev(hp:Hp)(ks ns:List Nat)(m0:Nat):V→V
 | .own n=>match ns.any (Nat.beq n)with
   |true=>match look hp n with|some (.arr t l)=> .vw m0 none t l|_=> .any
   |false=>(V.own n).bQ ks []
 |v=>v.bQ ks []
def S1.rev(hp:Hp)(ks ns:List Nat)(m0:Nat):S1→S1
 | .a v=> .a (v.rev hp ks ns m0)
 | .agg l=> .agg (l.map (V.rev hp ks ns m0))
def SV.rev(hp:Hp)(ks ns:List Nat)(m0:Nat):SV→SV
 | .one x=> .one (x.rev hp ks ns m0)
 | .tZ l=> .tZ (l.map (S1.rev hp ks ns m0))
 | .cond p x=> .cond p (x.rev hp ks ns m0)
def Obj.rev(hp:Hp)(ks ns:List Nat)(m0:Nat):Obj→Obj
 | .box c=> .box (c.map (V.rev hp ks ns m0))
 | .arr t l=> .arr t l
 | .gq t l s=> .gq t l (s.bQ ks [])
def Kj(fQ:Hp)(ks ns:List Nat)(m0:Nat)(hp:Hp):Hp:=(hp.filter fun e=> !ks.any (Nat.beq e.1)).map fun e=>(e.1,e.2.rev fQ ks ns m0)
theorem A1{fQ:Hp}{ks ns:List Nat}{m0:Nat}{hp:Hp}{n:Nat}:look (Kj fQ ks ns m0 hp) n=if n∈ks then none else(look hp n).map (Obj.rev fQ ks ns m0):=by
 unfold Kj
 rw[kG (α:=Obj) (f:=fun e:Nat×Obj=>e.2.rev fQ ks ns m0)]
 have h:=bS (ks:=ks) (kv:= []) (hp:=hp) (n:=n)
 unfold cF at h
 rw[kG (α:=Obj) (f:=fun e:Nat×Obj=>e.2.bQ ks [])]at h
 by_cases hn:n∈ks
 ·rw[if_pos hn]at h ⊢
  cases hq:look (hp.filter fun e=> !ks.any (Nat.beq e.1)) n with
  |none=>rfl
  |some o=>rw[hq]at h;cases h
 ·rw[if_neg hn]at h ⊢
  have:look (hp.filter fun e=> !ks.any (Nat.beq e.1)) n=look hp n:=by
   induction hp with
   |nil=>rfl
   |cons e r ih=>
    obtain⟨j,x⟩:=e
    by_cases hj:j∈ks
    ·have hne:n≠j:=by rintro rfl;exact hn hj
     have hb:(ks.any (Nat.beq j))=true:=List.any_eq_true.2 ⟨j,hj,by simp⟩
     rw[List.filter_cons_of_neg (by simp[hb])]at h ⊢
     rw[bg hne]at h ⊢
     exact ih h
    ·have hb:(ks.any (Nat.beq j))=false:=by
      rw[List.any_eq_false]
      intro y hy h2
      exact hj (by rw[Nat.eq_of_beq_eq_true h2];exact hy)
     rw[List.filter_cons_of_pos (by simp[hb])]at h ⊢
     by_cases Zt:n=j
     ·subst Zt;rw[look_eq,look_eq]
     ·rw[bg Zt]at h ⊢
      rw[bg Zt]at h ⊢
      exact ih h
  rw[this]
section
variable{ks ns:List Nat}{m0:Nat}{w w':World}{hp iT:Hp}{env env':Env}
theorem Mn{ns:List Nat}{n:Nat}(h:ns.any (Nat.beq n)=true):n∈ns:=by
 obtain⟨y,hy,h2⟩:=List.any_eq_true.1 h
 rw[Nat.eq_of_beq_eq_true h2];exact hy
theorem RA.rev(s:rM ks [] w hp env w' iT env')(hv: ∀n t l,n∈ns→look hp n=some (.arr t l)→RA w' iT env' (.vw m0 none t l) (env n).v){v:V}{u:Value}(h:RA w hp env v u):RA w' iT env' (v.rev hp ks ns m0) u:=by
 cases v with
 |own n=>
  have e:V.rev hp ks ns m0 (.own n)=match ns.any (Nat.beq n)with
   |true=>(match look hp n with|some (.arr t l)=> .vw m0 none t l|_=> .any)
   |false=>(V.own n).bQ ks []:=rfl
  rw[e]
  cases hn:ns.any (Nat.beq n)with
  |true=>
   obtain⟨⟨t,l,hl⟩,rfl⟩:=h
   rw[hl]
   exact hv n t l (Mn hn) hl
  |false=>exact RA.iU s h
 |_=>exact RA.iU s h
theorem fG.rev(s:rM ks [] w hp env w' iT env')(hv: ∀n t l,n∈ns→look hp n=some (.arr t l)→RA w' iT env' (.vw m0 none t l) (env n).v){x:S1}{u:Value}(h:fG w hp env x u):fG w' iT env' (x.rev hp ks ns m0) u:=by
 cases x with
 |a v=>exact RA.rev s hv h
 |agg l=>obtain⟨cs,hu,hl⟩:=h;exact⟨cs,hu,hl.map fun a b hr=>RA.rev s hv hr⟩
theorem oR.rev(s:rM ks [] w hp env w' iT env')(hv: ∀n t l,n∈ns→look hp n=some (.arr t l)→RA w' iT env' (.vw m0 none t l) (env n).v){tmps:Array Value}{x:SV}{u:Value}(h:oR w hp env tmps x u):oR w' iT env' tmps (x.rev hp ks ns m0) u:=by
 cases x with
 |one x=>exact fG.rev s hv h
 |tZ l=>obtain⟨us,hu,hl⟩:=h;exact⟨us,hu,hl.map fun a b hr=>fG.rev s hv hr⟩
 |cond p x=>exact⟨fun hh=>fG.rev s hv (h.1 hh),h.2⟩
theorem RO.rev(s:rM ks [] w hp env w' iT env')(hv: ∀n t l,n∈ns→look hp n=some (.arr t l)→RA w' iT env' (.vw m0 none t l) (env n).v){n:Nat}{o:Obj}{co:CO}(h:RO ty w hp env n o co)(hk: ∀b,b∈co.fp→w'.heap[b]? =w.heap[b]?):RO ty w' iT env' n (o.rev hp ks ns m0) co:=by
 cases o with
 |box c=>
  obtain⟨b,cs,e,rfl,hh,hc⟩:=h
  exact⟨b,cs,e,rfl,by rw[hk b (by simp)];exact hh,hc.map fun a u hr=>RA.rev s hv hr⟩
 |arr t l=>exact RO.bI h hk
 |gq t l r=>
  rcases RO.DF h with⟨rfl,h⟩| ⟨u,rfl,h⟩| ⟨hr,h1,us,hB,h2,h3⟩
  ·exact Jq.bI h hk
  ·exact Hz.step s hk h
  ·exact RO.Po (vE.JA hr) ⟨h1,us,jm.bI yH hB hk,h2,fun i x u hx hu=>BE.iU s (h3 i x u hx hu)⟩
end
section
variable{P:Program}{zb:cK}{st:St}{a:Act}{w:World}{env:Env}
theorem SS(g:Good ty zb st a.tmps w env)(hB:zb.w.heap.size≤w.heap.size){ks ns:List Nat}{d:Nat}(Y9:iA d=false)(hd:look (cF ks [] st.hp) d=none){v v':Value}{w':World}{t:Tag}{l:List (T t)}{fp fx fI:List Nat}
  (gC: ∀b,b∈fp++fx→ ∃i o,i∈ks∧look st.hp i=some o∧b∈(env i).fp)(CQ: ∀b,v.ownBlock=some b→b∈fp)
  (Za:jm (kk t) (rd t) 0 (ty t) w' v' l fI)(hg:w.grownBy w' v.ownBlock)(hsub: ∀b,b∈fI→b∈fp∨b∈fx∨w.heap.size≤b)
  (Sh: ∀n,n∈ns→n∈ks)(hin: ∀n o b,n∈ns→look st.hp n=some o→b∈(env n).fp→b∈fI∧w'.heap[b]? =w.heap[b]?):
  ∃env',Good ty zb ⟨st.n,st.sl.map fun e=>(e.1,e.2.rev st.hp ks ns d),(d, .arr t l)::Kj st.hp ks ns d st.hp⟩ a.tmps w' env'∧(env' d).v=v':=by
 refine⟨fun n=>if n=d then⟨v',fI⟩else env n,?_,by simp⟩
 have hlk: ∀m o,look ((d,Obj.arr t l)::Kj st.hp ks ns d st.hp) m=some o→(m=d∧o= .arr t l)∨(m≠d∧m∉ks∧ ∃o',look st.hp m=some o'∧o=o'.rev st.hp ks ns d):=by
  intro m o hm
  by_cases mK:m=d
  ·subst mK;rw[look_eq]at hm;simp only[oI]at hm;exact Or.inl ⟨rfl,hm.symm⟩
  ·rw[bg mK,A1]at hm
   split at hm
   ·cases hm
   ·rename_i hks
    cases hq:look st.hp m with
    |none=>rw[hq]at hm;cases hm
    |some o'=>rw[hq]at hm;simp only[Option.map_some,oI]at hm;exact Or.inr ⟨mK,hks,o',rfl,hm.symm⟩
 have how: ∀b,b∈fI→b<w.heap.size→ ∃i o,i∈ks∧look st.hp i=some o∧b∈(env i).fp:=by
  intro b hb hlt
  rcases hsub b hb with h|h|h
  ·exact gC b (List.mem_append_left _ h)
  ·exact gC b (List.mem_append_right _ h)
  ·omega
 have hnd: ∀m o,m∉ks→look st.hp m=some o→m≠d:=by
  rintro m o hks h1 rfl
  rw[bS,if_neg hks,h1]at hd
  cases hd
 have hst: ∀m o,m∉ks→look st.hp m=some o→ ∀b,b∈(env m).fp→w'.heap[b]? =w.heap[b]? :=by
  intro m o hks h3 b hb
  refine hg.block b ((g.obj m o h3).Ao b hb) fun e=> ?_
  obtain⟨i,oi,hi,h5,h6⟩:=gC b (List.mem_append_left _ (CQ b e.symm))
  exact g.iB m i _ _ (fun e=>hks (e▸hi)) h3 h5 b hb h6
 have s:rM ks [] w st.hp env w' ((d, .arr t l)::Kj st.hp ks ns d st.hp) (fun n=>if n=d then⟨v',fI⟩else env n):=by
  refine⟨fun b hb hno=>hg.block b hb fun e=> ?_,?_,?_,?_⟩
  ·obtain⟨i,o',_,h1,h2⟩:=gC b (List.mem_append_left _ (CQ b e.symm))
   exact hno ⟨i,o',h1,h2⟩
  ·rintro b hb ⟨m,o',h1,h2⟩
   rcases hlk m o' h1 with⟨rfl,rfl⟩| ⟨mK,hks,Ce,h3,rfl⟩
   ·simp at h2
    obtain⟨i,o',_,h3,h4⟩:=how b h2 hb
    exact⟨i,o',h3,h4⟩
   ·simp[mK]at h2
    exact⟨m,Ce,h3,h2⟩
  ·intro m o' hks h1
   have mK:=hnd m o' hks h1
   refine⟨o'.rev st.hp ks ns d,by rw[bg mK,A1,if_neg hks,h1];rfl,by cases o'<;>simp[Obj.like,Obj.rev],by simp[mK]⟩
  ·rintro m t' l' ⟨hks,_⟩ h1
   have mK:=hnd m _ hks h1
   exact⟨by rw[bg mK,A1,if_neg hks,h1];rfl,by simp[mK],hst m _ hks h1⟩
 have hv: ∀n t1 l1,n∈ns→look st.hp n=some (.arr t1 l1)→RA w' ((d, .arr t l)::Kj st.hp ks ns d st.hp) (fun n=>if n=d then⟨v',fI⟩else env n) (.vw d none t1 l1) (env n).v:=by
  intro n t1 l1 hn hl
  have Aq:=RO.sl (g.obj n _ hl)
  refine⟨⟨_,_,look_eq⟩,⟨_,Sl.bI (eA t1) Aq fun b hb=>(hin n _ b hn hl hb).2,(RO.own (g.obj n _ hl)).nodup,fun b hb=> ?_⟩,fun _ _ h=>by cases h⟩
  simp only[if_true]
  exact(hin n _ b hn hl hb).1
 have RX:Good ty zb ⟨st.n,st.sl.map fun e=>(e.1,e.2.rev st.hp ks ns d),(d, .arr t l)::Kj st.hp ks ns d st.hp⟩ a.tmps w' (fun n=>if n=d then⟨v',fI⟩else env n):=by
  refine⟨fun m o' hm=> ?_,fun m m' o1 o2 hne h1 h2 b hb hb'=> ?_,fun s1 x hl=> ?_,fun m o' hm b hb=> ?_,fun m hm=> ?_⟩
  ·rcases hlk m o' hm with⟨rfl,rfl⟩| ⟨mK,hks,Ce,h3,rfl⟩
   ·simp only[if_true];exact RO.Gg Za
   ·simp only[if_neg mK]
    exact RO.rev s hv (g.obj m Ce h3) (hst m Ce hks h3)
  ·rcases hlk m o1 h1 with⟨e1,_⟩| ⟨mK,hks,q1,h3,_⟩<;>rcases hlk m' o2 h2 with⟨e2,_⟩| ⟨HI,Ry,q2,h4,_⟩
   ·exact hne (e1.trans e2.symm)
   ·simp only[if_pos e1]at hb
    simp only[if_neg HI]at hb'
    have hlt:=(g.obj m' q2 h4).Ao b hb'
    obtain⟨i,oi,hi,h5,h6⟩:=how b hb hlt
    exact g.iB m' i _ _ (fun e=>Ry (e▸hi)) h4 h5 b hb' h6
   ·simp only[if_pos e2]at hb'
    simp only[if_neg mK]at hb
    have hlt:=(g.obj m q1 h3).Ao b hb
    obtain⟨i,oi,hi,h5,h6⟩:=how b hb' hlt
    exact g.iB m i _ _ (fun e=>hks (e▸hi)) h3 h5 b hb h6
   ·simp only[if_neg mK]at hb
    simp only[if_neg HI]at hb'
    exact g.iB m m' _ _ hne h3 h4 b hb hb'
  ·have hl:look (st.sl.map fun e=>(e.1,e.2.rev st.hp ks ns d)) s1=some x:=hl
   rw[kG (α:=SV) (f:=fun e:Nat×SV=>e.2.rev st.hp ks ns d)]at hl
   cases hq:look st.sl s1 with
   |none=>rw[hq]at hl;cases hl
   |some y=>
    rw[hq]at hl
    simp only[Option.map_some,oI]at hl
    subst hl
    exact oR.rev s hv (g.slot s1 y hq)
  ·rcases hlk m o' hm with⟨e1,_⟩| ⟨mK,hks,q1,h3,_⟩
   ·simp only[if_pos e1]at hb
    by_cases hlt:b<w.heap.size
    ·obtain⟨i,oi,hi,h5,h6⟩:=how b hb hlt
     exact g.dom i oi h5 b h6
    ·exact Or.inr (by omega)
   ·simp only[if_neg mK]at hb
    exact g.dom m q1 h3 b hb
  ·have:m≠d:=by rintro rfl;rw[Y9]at hm;cases hm
   simp only[if_neg this]
   exact g.pins m hm
 exact RX
theorem A2(g:Good ty zb st a.tmps w env): ∀{l c:List V} {k:List Nat} {us:List Value},bN (RA w st.hp env) l us→takes st l=some (c,k)→k.Nodup→
  ∃fp,cE w c us fp∧Own 0 w fp∧(∀b,b∈fp→ ∃i o,i∈k∧look st.hp i=some o∧b∈(env i).fp)∧ ∀i b,i∈k→b∈(env i).fp→b∈fp
 | [],c,k,us,hr,h,_=>by
   simp only[takes,oI,pI]at h
   obtain⟨rfl,rfl⟩:=h
   cases us with
   |nil=>exact⟨[],rfl,Own.nil _ _,by simp,by simp⟩
   |cons _ _=>exact hr.elim
 |v::r,c,k,us,hr,h,hnd=>by
  cases us with
  |nil=>exact hr.elim
  |cons u us=>
   cases v with
   |lit x=>
    simp only[takes]at h
    split at h
    ·rename_i c' k' h'
     simp only[oI,pI]at h
     obtain⟨rfl,rfl⟩:=h
     obtain⟨fp,h1,h2,h3,h4⟩:=A2 g hr.2 h' hnd
     obtain⟨e1,e2⟩:=hr.1
     exact⟨fp,⟨[],fp,⟨e1,e2,rfl⟩,h1,rfl⟩,h2,h3,h4⟩
    ·cases h
   |own n=>
    simp only[takes]at h
    split at h
    ·rename_i t l c' k' hl h'
     simp only[oI,pI]at h
     obtain⟨rfl,rfl⟩:=h
     obtain⟨hn1,hn2⟩:=List.nodup_cons.1 hnd
     obtain⟨fp,h1,h2,h3,h6⟩:=A2 g hr.2 h' hn2
     obtain⟨_,rfl⟩:=hr.1
     have hb:=RO.sl (g.obj n _ hl)
     have ho:=RO.own (g.obj n _ hl)
     refine⟨(env n).fp++fp,⟨_,_,hb,h1,rfl⟩,⟨List.nodup_append.2 ⟨ho.nodup,h2.nodup,?_⟩,fun b hb=> ?_,fun b hb=> ?_⟩,fun b hb=> ?_,fun i b hi hbi=> ?_⟩
     ·rintro b hb x hx rfl
      obtain⟨i,o,hi,h4,h5⟩:=h3 b hx
      exact g.iB n i _ _ (fun e=>hn1 (e▸hi)) hl h4 b hb h5
     ·rcases List.mem_append.1 hb with hb|hb
      ·exact ho.ge b hb
      ·exact h2.ge b hb
     ·rcases List.mem_append.1 hb with hb|hb
      ·exact ho.kind b hb
      ·exact h2.kind b hb
     ·rcases List.mem_append.1 hb with hb|hb
      ·exact⟨n,_,by simp,hl,hb⟩
      ·obtain⟨i,o,hi,h4,h5⟩:=h3 b hb
       exact⟨i,o,List.mem_cons_of_mem _ hi,h4,h5⟩
     ·rcases List.mem_cons.1 hi with rfl|hi
      ·exact List.mem_append_left _ hbi
      ·exact List.mem_append_right _ (h6 i b hi hbi)
    ·cases h
   |_=>simp[takes]at h
theorem EI(g:Good ty zb st a.tmps w env){t:Tag}: ∀{ps:List (Nat×Operand)} {i:Nat} {vc:List Prop} {xs:List (T t)} {ks:List Nat},D0 st t i ps=some (vc,xs,ks)→ks.Nodup→(∀q,q∈vc→q)→
  (ps.map fun p=>(p.1,a.eval p.2))=wg i (ps.map fun p=>a.eval p.2)∧xs.length=ps.length∧ ∃bA:List (List Nat),bA.length=xs.length∧
   (∀(i:Nat) (x:T t) (f:List Nat),xs[i]? =some x→bA[i]? =some f→ ∃p:Nat×Operand,ps[i]? =some p∧rd t w (a.eval p.2).cells.toList x f)∧Own 0 w bA.flatten∧(∀b,b∈bA.flatten→ ∃i o,i∈ks∧look st.hp i=some o∧b∈(env i).fp)∧
   ∀i b,i∈ks→b∈(env i).fp→b∈bA.flatten
 | [],i,vc,xs,ks,h,_,_=>by
   simp only[D0,oI,pI]at h
   obtain⟨rfl,rfl,rfl⟩:=h
   exact⟨rfl,rfl,[],rfl,by simp,Own.nil _ _,by simp,by simp⟩
 | (j,x)::r,i,vc,xs,ks,h,hnd,hv=>by
   simp only[D0]at h
   split at h
   ·rename_i s hij hx
    have hij:=Nat.eq_of_beq_eq_true hij
    subst hij
    split at h
    ·rename_i c k hc
     split at h
     ·rename_i nM y vcs ys ks1 he hb
      simp only[oI,pI]at h
      obtain⟨rfl,rfl,rfl⟩:=h
      obtain⟨hn1,hn2,VR⟩:=List.nodup_append.1 hnd
      obtain⟨q1,q2,bA,q3,q4,q5,q6,q7⟩:=EI g hb hn2 (fun q hq=>hv q (List.mem_append_right _ hq))
      obtain⟨fp,r1,r2,r3,r4⟩:=A2 g (jQ g (eI g (fun e he=>by simp at he) hx) (fJ hc)) hc hn1
      have hE:=tY t he (fun q hq=>hv q (List.mem_append_left _ hq)) r1
      refine⟨by simp[wg,q1],by simp[q2],fp::bA,by simp[q3],?_,⟨?_,?_,?_⟩,?_,?_⟩
      ·intro i' x' f hx' hf
       cases i' with
       |zero=>simp at hx' hf;subst hx';subst hf;exact⟨(i,x),rfl,hE⟩
       |succ n=>simp at hx' hf;obtain⟨p,h1,h2⟩:=q4 n x' f hx' hf;exact⟨p,by simpa using h1,h2⟩
      ·rw[List.flatten_cons]
       refine List.nodup_append.2 ⟨r2.nodup,q5.nodup,?_⟩
       rintro b hb z hz rfl
       obtain⟨n,o1,h1,h2,h3⟩:=r3 b hb
       obtain⟨m,o2,h4,h5,h6⟩:=q6 b hz
       exact g.iB n m _ _ (fun e=>VR n h1 m h4 e) h2 h5 b h3 h6
      ·intro b hb
       rw[List.flatten_cons]at hb
       rcases List.mem_append.1 hb with hb|hb
       ·exact r2.ge b hb
       ·exact q5.ge b hb
      ·intro b hb
       rw[List.flatten_cons]at hb
       rcases List.mem_append.1 hb with hb|hb
       ·exact r2.kind b hb
       ·exact q5.kind b hb
      ·intro b hb
       rw[List.flatten_cons]at hb
       rcases List.mem_append.1 hb with hb|hb
       ·obtain⟨n,o1,h1,h2,h3⟩:=r3 b hb;exact⟨n,o1,List.mem_append_left _ h1,h2,h3⟩
       ·obtain⟨n,o1,h1,h2,h3⟩:=q6 b hb;exact⟨n,o1,List.mem_append_right _ h1,h2,h3⟩
      ·intro n b hn hb
       rw[List.flatten_cons]
       rcases List.mem_append.1 hn with hn|hn
       ·exact List.mem_append_left _ (r4 n b hn hb)
       ·exact List.mem_append_right _ (q7 n b hn hb)
     ·cases h
    ·cases h
   ·cases h
end
def ZU(d:Nat):Operand→Bool
 | .tmp s=> !Nat.beq s d
 | .const _=>true
 |_=>false
def ZV(P:Program)(ty:Tag→Nat)(Γ:Nat→TK)(st:St)(m0:Nat)(o1 o2:Oper):Option (List Prop×St):=
 match o1.guard,o1.dst,o1.op with
 |none,some d1, .buildSlice tb len parts=>match Γ tb with
  | .sl t e=>match Nat.beq e (ty t)&&Nat.beq parts.toList.length len&&Nat.ble (len*kk t) 16777216,D0 st t 0 parts.toList with
    |true,some (vc,lx,m)=>match o2.guard,o2.dst,o2.op with
     |none,some d2, .call ⟨.builtin .append,xs,ts⟩=>match xs.toList,ts.toList with
      | [s, .tmp d],[t1,t2]=>match Nat.beq d d1&&ZU d1 s&&Nat.beq t1 tb&&Nat.beq t2 tb,gr st [] s with
        |true,some vs=>match DW st t vs with
         |some (l,k)=>match p7 m&&DX k m&& !pinned k&& !iA m0&&Nat.blt d1 st.n&&Nat.blt d2 st.n,look (cF (lz k m) [] st.hp) m0 with
          |true,none=>some ([El P ty t,(l.length+lx.length)*dO t≤140737488355328∧l.length+lx.length≤maxLen]++vc,
            (St.put ⟨st.n,st.sl.map fun e=>(e.1,e.2.rev st.hp (lz k m) m m0),(m0, .arr t (l++lx))::Kj st.hp (lz k m) m m0 st.hp⟩ (some d1) (.one (.a .any))).put (some d2) (.one (.a (.own m0))))
          |_,_=>none
         |none=>none
        |_,_=>none
      |_,_=>none
     |_,_,_=>none
    |_,_=>none
  |_=>none
 |_,_,_=>none
theorem Mo{w:World}{base:Nat}{e:TypeId}{k g o n cap:Nat}{xs:List Value}(h:gZ w base e k (.slice (some ⟨g,o,none⟩) n cap) n xs): ∀j u,xs[j]? =some u→w.cell? ((⟨g,o,none⟩:Addr).add j)=some u:=by
 intro j u hu
 rcases h.2 with⟨h1,_⟩| ⟨g',o',cap',cur,hv,_,hg,_,_,_,Dh⟩
 ·cases h1
 ·simp only[Value.slice.injEq,oI,Addr.mk.injEq,and_true,true_and]at hv
  obtain⟨⟨rfl,rfl⟩,rfl⟩:=hv
  rw[Addr.add_mid]
  exact Ar hg j u (by rw[Dh];exact hu)
section
variable{P:Program}{zb:cK}{st:St}{a:Act}{w:World}{env:Env}{o:Oper}
theorem WQ{Γ:Nat→TK}(C: ∀t,c8 P t (Γ t)){m0:Nat}{o1 o2:Oper}{vc:List Prop}{st':St}(h:ZV P ty Γ st m0 o1 o2=some (vc,st'))(hv: ∀q,q∈vc→q)(iv:Inv ty zb st a w)
  {ops:Array Oper}{tail:List Oper}{Q:Exit→Act→World→Prop}(hQ: ∀a w,Inv ty zb st' a w→wpList P ops Q tail a w):wpList P ops Q (o1::o2::tail) a w:=by
 obtain⟨env,g⟩:=iv.good
 have hB:=iv.kept.size
 unfold ZV at h
 split at h
 case h_2=>cases h
 rename_i d1 tb len parts hg1 hd1 ho1
 split at h
 case h_2=>cases h
 rename_i t e hk
 split at h
 case h_2=>cases h
 rename_i nM lx m rC hb
 split at h
 case h_2=>cases h
 rename_i d2 xs ts hg2 hd2 I9
 split at h
 case h_2=>cases h
 rename_i s d t1 t2 hxl htl
 split at h
 case h_2=>cases h
 rename_i vs JB hs
 split at h
 case h_2=>cases h
 rename_i l k hds
 split at h
 case h_2=>cases h
 rename_i hc3 hlk
 simp only[oI,pI,dM]at h
 rw[dM]at hlk
 obtain⟨rfl,afa⟩:=h
 simp only[Bool.and_eq_true,Bool.not_eq_true']at rC JB hc3
 obtain⟨⟨he,hlen⟩,DM⟩:=rC
 obtain⟨⟨⟨hdd,hoff⟩,ht1⟩,ht2⟩:=JB
 obtain⟨⟨⟨⟨⟨hnd,hno⟩,hpk⟩,FO⟩,nv⟩,mo⟩:=hc3
 have he:=Nat.eq_of_beq_eq_true he
 obtain rfl:=Nat.eq_of_beq_eq_true hdd
 obtain rfl:=Nat.eq_of_beq_eq_true ht1
 obtain rfl:=Nat.eq_of_beq_eq_true ht2
 obtain rfl:xs= #[s, .tmp d]:=by cases xs;simp_all
 obtain rfl:ts= #[t2,t2]:=by cases ts;simp_all
 have rA:El P ty t:=hv _ (by simp)
 obtain⟨aW,bz⟩:(l.length+lx.length)*dO t≤140737488355328∧l.length+lx.length≤maxLen:=hv _ (by simp)
 obtain⟨q1,q2,bA,q3,q4,q5,q6,q7⟩:=EI g hb (j6 hnd) (fun q hq=>hv q (by simp[hq]))
 have hC:=C t2
 rw[hk,he]at hC
 have hlen:=Nat.eq_of_beq_eq_true hlen
 obtain⟨w1,r1,r2,r3⟩:=vG (P:=P) (w:=w) (a:=a) ho1 hC.1 rA (Nat.le_of_ble_eq_true DM) hlen (Nat.zero_le _) q1 q2 q3 q4 q5
 have g1:Good ty zb st a.tmps w1 env:=by
  have:=Good.grow hB g (os:= []) rfl (lu.none r2)
  exact this
 have hB1:zb.w.heap.size≤w1.heap.size:=Nat.le_trans hB r2.size
 have hR1:gT P ops o1 a w (fun a' w'=>a'=a.put o1.dst (.slice (some ⟨w.heap.size,0,none⟩) len len)∧w1=w') Q:=by
  refine jO hg1 ?_
  unfold Oper.wp
  rw[r1]
  exact⟨rfl,rfl⟩
 refine hR1.mono ?_
 rintro a1 w1 ⟨rfl,rfl⟩
 have BO:d<a.tmps.size:=by rw[iv.size];exact Nat.le_of_ble_eq_true nv
 have afb:d2<a.tmps.size:=by rw[iv.size];exact Nat.le_of_ble_eq_true mo
 rw[hd1]
 have o7:(a.put (some d) (.slice (some ⟨w.heap.size,0,none⟩) len len)).eval s=a.eval s:=by
  cases s with
  |tmp s=>
   simp only[ZU,Bool.not_eq_true']at hoff
   have hne:s≠d:=by rintro rfl;simp at hoff
   show(a.tmps.setIfInBounds d _).getD s undef=a.tmps.getD s undef
   rw[Array.getD_eq_getD_getElem?,Array.getD_eq_getD_getElem?,Array.getElem?_setIfInBounds_ne (fun e=>hne e.symm)]
  |const v=>rfl
  |_=>simp[ZU]at hoff
 have hxv:(a.put (some d) (.slice (some ⟨w.heap.size,0,none⟩) len len)).eval (.tmp d)= .slice (some ⟨w.heap.size,0,none⟩) len len:=by
  show(a.tmps.setIfInBounds d _).getD d undef=_
  rw[Array.getD_eq_getD_getElem?,Array.getElem?_setIfInBounds_self_of_lt BO];rfl
 obtain⟨fp,hD,lD⟩:=AB g1 (eI g1 (fun e he=>by simp at he) hs) hds hpk
 obtain⟨news,fx,hown,hfl,Zl,gC,hfo⟩:=r3
 have Nw:fx.flatten=bA.flatten:=by simpa[Value.ownBlock]using gC.symm
 have hq5:Own 0 w1 bA.flatten:=q5.below r2
 have hlx:len=lx.length:=by rw[q2,hlen]
 have O7:Own 0 w1 (fp++fx.flatten):=by
  rw[Nw]
  have ho:=hD.own
  refine⟨List.nodup_append.2 ⟨ho.nodup,hq5.nodup,?_⟩,fun b hb=> ?_,fun b hb=> ?_⟩
  ·rintro b hb c hc rfl
   obtain⟨i,oi,hi,h1,h2⟩:=lD b hb
   obtain⟨j,oj,hj,h3,h4⟩:=q6 b hc
   have hij:i≠j:=by
    rintro rfl
    simp only[DX,List.all_eq_true,Bool.not_eq_true',List.any_eq_false]at hno
    exact hno i hi i hj (by simp)
   exact g.iB i j _ _ hij h1 h3 b h2 h4
  ·rcases List.mem_append.1 hb with hb|hb
   ·exact ho.ge b hb
   ·exact hq5.ge b hb
  ·rcases List.mem_append.1 hb with hb|hb
   ·exact ho.kind b hb
   ·exact hq5.kind b hb
 have CQ: ∀b,(a.eval s).ownBlock=some b→b∈fp:=by
  intro b hb
  obtain⟨xs,bA,_,_,_,gC,_⟩:=hD
  rw[gC,hb];simp
 have hsrc:Src w1 (.slice (some ⟨w.heap.size,0,none⟩) len len) lx.length news:=by
  subst hlx
  exact Or.inr ⟨⟨w.heap.size,0,none⟩,_,rfl,Mo hown⟩
 have hR2:gT P ops o2 (a.put (some d) (.slice (some ⟨w.heap.size,0,none⟩) len len)) w1 (fun a' w'=>Inv ty zb st' a' w') Q:=by
  refine jO hg2 ?_
  refine CE s (.tmp d) t2 I9 (eA t) (fY t) 0 (ty t) (eZ t) (dO t) hC.1 rA (lK t) (a.eval s) l fp o7 hD _ hxv lx news fx hsrc hfl hown.1 Zl O7 bz aW (Nat.zero_le _) ?_
  intro v' w' fI k1 k2 k3 k4 k5 k6
  obtain⟨env',hg',Gp⟩:=SS (ty:=ty) g1 hB1 (ks:=k++m) (ns:=m) FO hlk (v:=a.eval s) (fp:=fp) (fx:=bA.flatten)
   (by
    intro b hb
    rcases List.mem_append.1 hb with hb|hb
    ·obtain⟨i,oi,hi,h1⟩:=lD b hb;exact⟨i,oi,List.mem_append_left _ hi,h1⟩
    ·obtain⟨i,oi,hi,h1⟩:=q6 b hb;exact⟨i,oi,List.mem_append_right _ hi,h1⟩)
   CQ k1 k2 (fun b hb=>by
    rcases k4 b hb with h|h|h
    ·exact Or.inl h
    ·exact Or.inr (Or.inl (Nw▸h))
    ·exact Or.inr (Or.inr (by omega)))
   (fun n hn=>List.mem_append_right _ hn)
   (fun n o b hn hl hb=>by
    have LS:=q7 n b hn hb
    refine⟨k6 b (by rw[Nw];exact LS),k2.block b (hq5.lt b LS) fun e=> ?_⟩
    obtain⟨i,oi,hi,h1,h2⟩:=lD b (CQ b e.symm)
    have hij:i≠n:=by
     rintro rfl
     simp only[DX,List.all_eq_true,Bool.not_eq_true',List.any_eq_false]at hno
     exact hno i hi i hn (by simp)
    exact g.iB i n _ _ hij h1 hl b h2 hb)
  have acw:Kept zb w1 w':=by
   refine⟨k2.os,k2.tape,k2.output,k2.size,fun b hb hn=>k2.block b (by omega) fun e=> ?_,k5⟩
   obtain⟨i,oi,hi,h1,h2⟩:=lD b (CQ b e.symm)
   rcases g.dom i oi h1 b h2 with h|h
   ·exact hn h
   ·omega
  rw[←afa]
  refine⟨?_,?_,(iv.kept.trans (jN r2 hB)).trans acw,iv.Ap,env',?_⟩
  ·rw[gM,gM,wN,wN];exact iv.size
  ·rw[put_defers,put_defers];exact iv.defers
  ·have gp:=nN hg' (dst:=some d) (fun _ e=>by cases e;exact BO) (v:= .one (.a .any)) (u:= .slice (some ⟨w.heap.size,0,none⟩) len len) trivial (fun d _=>o8 ⟨_,rfl⟩)
   rw[hd2]
   refine nN gp (fun _ e=>by cases e;rw[gM];exact afb) ?_ (fun d _=>o8 ⟨_,rfl⟩)
   rw[Y7]
   exact⟨⟨t,_,look_eq⟩,Gp.symm⟩
 exact hR2.mono fun a' w' kI=>hQ a' w' kI
end
def EJ:Nat→List Oper→Option (List Oper×Oper×Oper×List Oper)
 |0,o1::o2::r=>some ([],o1,o2,r)
 |n+1,o::r=>match EJ n r with
  |some (p,o1,o2,q)=>some (o::p,o1,o2,q)
  |none=>none
 |_,_=>none
theorem GI: ∀{n:Nat} {l p q:List Oper} {o1 o2:Oper},EJ n l=some (p,o1,o2,q)→l=p++o1::o2::q
 |0,[],_,_,_,_,h=>by cases h
 |0,[_],_,_,_,_,h=>by cases h
 |0,o1::o2::r,p,q,a,b,h=>by
  simp only[EJ,oI,pI]at h
  obtain⟨rfl,rfl,rfl,rfl⟩:=h;rfl
 |n+1,[],_,_,_,_,h=>by cases h
 |n+1,o::r,p,q,a,b,h=>by
  simp only[EJ]at h
  split at h
  ·rename_i p' o1 o2 q' h'
   simp only[oI,pI]at h
   obtain⟨rfl,rfl,rfl,rfl⟩:=h
   rw[GI h'];rfl
  ·cases h
def runK(P:Program)(ty:Tag→Nat)(Γ:Nat→TK)(cH:List (Nat×Nat))(cr:List (Nat×CR))(ops rest:List Oper)(nM:List Prop):Option (List Prop×St)→Option (List Prop×St)
 |some ([p,q],⟨n,sl,hp⟩)=>run P ty Γ cH cr ops rest ⟨n,sl,hp⟩ (p::q::nM)
 |some ([p,q,r],⟨n,sl,hp⟩)=>run P ty Γ cH cr ops rest ⟨n,sl,hp⟩ (p::q::r::nM)
 |some (l,⟨n,sl,hp⟩)=>run P ty Γ cH cr ops rest ⟨n,sl,hp⟩ (l++nM)
 |none=>none
def fR:Option (List Prop×St)→Option (List Prop×St)
 |some (l,st)=>match L3 st with|some st=>some (l,st)|none=>none
 |none=>none
theorem acy{x:Option (List Prop×St)}{y:List Prop×St}(h:fR x=some y):x=some y:=by
 unfold fR at h
 split at h
 ·split at h
  ·rename_i l st mM hs
   simp only[oI]at h
   rw[←h,lP hs]
  ·cases h
 ·cases h
theorem WR{P:Program}{Γ:Nat→TK}{cH:List (Nat×Nat)}{cr:List (Nat×CR)}{ops rest:List Oper}{nM:List Prop}{x:Option (List Prop×St)}{y:List Prop×St}(h:runK P ty Γ cH cr ops rest nM x=some y):
  ∃l st acc,x=some (l,st)∧run P ty Γ cH cr ops rest st acc=some y∧ ∀q,q∈l++nM→q∈acc:=by
 unfold runK at h
 split at h
 ·exact⟨_,_,_,rfl,h,fun q hq=>by simpa using hq⟩
 ·exact⟨_,_,_,rfl,h,fun q hq=>by simpa using hq⟩
 ·exact⟨_,_,_,rfl,h,fun q hq=>by simpa using hq⟩
 ·cases h
def acz(P:Program)(ty:Tag→Nat)(Γ:Nat→TK)(cH:List (Nat×Nat))(cr:List (Nat×CR))(ks:List Nat)(ix m0:Nat)(ops:List Oper):St→Option (List Prop×St)
 | ⟨n,I8,fQ⟩=>match EJ ix ops with
   |some (pre,o1,o2,rest)=>match run P ty Γ cH cr ops pre ⟨n,I8,fQ⟩ []with
    |some (nM,AI)=>match runK P ty Γ cH cr ops rest nM (fR (ZV P ty Γ AI m0 o1 o2))with
     |some (vc,st')=>match NY n st' ks,Nat.beq st'.n n with
      |some mM,true=>some (vc,mM)
      |_,_=>none
     |none=>none
    |none=>none
   |none=>none
section
variable{P:Program}{Γ:Nat→TK}{zb:cK}{Q:Post}{st:St}
theorem N5(X:Ctx P ty Γ)(cH:List (Nat×Nat))(cr:List (Nat×CR))(ks:List Nat)(ix m0:Nat){id:Nat}{ops:List Oper}{vc:List Prop}{st':St}(h:acz P ty Γ cH cr ks ix m0 ops st=some (vc,st'))(hv:lB vc)(k:Q .normal st'):
  W P ty zb (.region id ops.toArray false) Q st:=by
 intro a w iv
 obtain⟨n,I8,fQ⟩:=st
 unfold G.acz at h
 dsimp only at h
 split at h
 case h_2=>cases h
 rename_i pre o1 o2 rest hsp
 split at h
 case h_2=>cases h
 rename_i nM AI hrun
 split at h
 case h_2=>cases h
 rename_i V4 mM hk
 split at h
 case h_2=>cases h
 rename_i st3 hkeep hn
 simp only[oI,pI]at h
 obtain⟨rfl,rfl⟩:=h
 obtain⟨l,st4,acc,he,SU,hacc⟩:=WR hk
 have he:=acy he
 have hv:=hv.out
 refine wp_region_lit ?_
 rw[show wpList P ops.toArray (Ee ty zb Q) ops a w=wpList P ops.toArray (Ee ty zb Q) (pre++o1::o2::rest) a w by rw[←GI hsp]]
 refine H9 X.kind X.one (fun a w iv=> ?_) hrun (fun q hq=>hv q (rQ SU q (hacc q (List.mem_append_right _ hq)))) iv
 refine WQ X.kind he (fun q hq=>hv q (rQ SU q (hacc q (List.mem_append_left _ hq)))) iv fun a w iv=> ?_
 refine L5 X.kind X.one (fun a w iv=>⟨_,?_,k⟩) SU hv iv
 unfold NY at hkeep
 split at hkeep
 ·rename_i sl hp h1 h2
  split at hkeep
  ·rename_i hc
   simp only[oI]at hkeep
   subst hkeep
   exact iv.weaken (Nat.eq_of_beq_eq_true hn).symm (iC h1) (iD h2) hc
  ·cases hkeep
 ·cases hkeep
end
def rename(st:St)(s m:Nat):Option St:=match look st.sl s,Nat.blt s st.n with
 |some (.one (.a (.own n))),true=>match look st.hp n,pinned [n],iA m,look (cF [n] [] st.hp) m with
  |some (.arr t l),false,false,none=>L3 ((st.gone [n] m t l).put (some s) (.one (.a (.own m))))
  |_,_,_,_=>none
 |_,_=>none
theorem P0{zb:cK}{st st':St}{s m:Nat}(h:rename st s m=some st'){a:Act}{w:World}(iv:Inv ty zb st a w):Inv ty zb st' a w:=by
 obtain⟨env,g⟩:=iv.good
 have hB:=iv.kept.size
 unfold rename at h
 split at h
 case h_2=>cases h
 rename_i n hs hlt
 split at h
 case h_2=>cases h
 rename_i t l hl hpk FO hlk
 have h:=lP h
 rw[St.gone_eq]at h
 have XM:soft n=false:=nO hpk (by simp)
 have hb:=RO.VL XM (g.obj n _ hl)
 have CQ: ∀b,(env n).v.ownBlock=some b→b∈(env n).fp:=by
  intro b hb'
  obtain⟨xs,bA,_,_,_,gC,_⟩:=hb
  rw[gC,hb'];simp
 obtain⟨env',hg',Gp⟩:=yO (ty:=ty) g hB (ks:= [n]) hpk FO hlk (v:=(env n).v) (v':=(env n).v) (w':=w) (fp:=(env n).fp) (fx:= []) (by
  intro b hb
  rw[List.append_nil]at hb
  exact⟨n,_,by simp,hl,hb⟩) CQ hb ⟨rfl,rfl,rfl,Nat.le_refl _,fun _ _ _=>rfl⟩ (fun b hb=>Or.inl hb)
 have hlt:s<a.tmps.size:=by rw[iv.size];exact Nat.le_of_ble_eq_true hlt
 obtain⟨_,hu⟩:=g.slot s _ hs
 have gp:=hg'.put hlt (v:= .one (.a (.own m))) (u:=a.tmps.getD s undef) ⟨⟨t,l,look_eq⟩,by rw[Gp];exact hu⟩ rfl
 have e:a.tmps.setIfInBounds s (a.tmps.getD s undef)=a.tmps:=by
  rw[Array.getD_eq_getD_getElem?,Array.getElem?_eq_getElem hlt]
  apply Array.ext
  ·simp
  ·intro i h1 h2
   rw[Array.getElem_setIfInBounds]
   split
   ·rename_i hi;subst hi;rfl
   ·rfl
 rw[e]at gp
 rw[h]
 exact⟨by rw[wN];exact iv.size,iv.defers,iv.kept,iv.Ap,env',gp⟩
theorem nD{P:Program}{zb:cK}{Q:Post}{st st':St}{c:Code}(s m:Nat)(h:G.rename st s m=some st')(k:W P ty zb c Q st'):W P ty zb c Q st:=fun a w iv=>k a w (P0 h iv)
def Mp(st:St)(b i m:Nat)(t:Tag):Option St:=match look st.hp b,iA m,look st.hp m with
 |some (.box c),false,none=>match yw c i with
  |some (.lit (.slice none 0 0))=>L3 ⟨st.n,st.sl,(b, .box (c.set i (.own m)))::(m, .arr t [])::st.hp⟩
  |_=>none
 |_,_,_=>none
theorem bN.set'{R R':V→Value→Prop}{y:V}(hm: ∀a u,R a u→R' a u): ∀{c:List V} {cs:List Value} {i:Nat} {v:V},bN R c cs→yw c i=some v→(∀u,R v u→R' y u)→bN R' (c.set i y) cs
 | [],_,_,_,_,h,_=>by cases h
 |a::r,[],_,_,h,_,_=>h.elim
 |a::r,u::us,0,v,⟨h1,h2⟩,h,hy=>by
  simp only[yw,oI]at h
  subst h
  exact⟨hy u h1,h2.mono fun a b _ h=>hm a b h⟩
 |a::r,u::us,i+1,v,⟨h1,h2⟩,h,hy=>⟨hm a u h1,bN.set' hm h2 (by simpa[yw]using h) hy⟩
theorem P1{zb:cK}{st st':St}{b i m:Nat}{t:Tag}(h:Mp st b i m t=some st'){a:Act}{w:World}(iv:Inv ty zb st a w):Inv ty zb st' a w:=by
 obtain⟨env,g⟩:=iv.good
 have hB:=iv.kept.size
 unfold Mp at h
 split at h
 case h_2=>cases h
 rename_i c hl FO hlk
 split at h
 case h_2=>cases h
 rename_i he
 have h:=lP h
 have hne:b≠m:=by rintro rfl;rw[hl]at hlk;cases hlk
 have hN:lu (ty:=ty) w w st.hp [(m, .arr t [])] env (fun n=>if n=m then⟨DD,[]⟩else env n):=by
  refine⟨Below.refl _ _,fun n hn=> ?_,fun n o hn=> ?_,fun n n' o o' hne h1 h2=> ?_⟩
  ·by_cases hnm:n=m
   ·subst hnm;rw[look_eq]at hn;cases hn
   ·simp[hnm]
  ·by_cases hnm:n=m
   ·subst hnm
    rw[look_eq]at hn
    simp only[oI]at hn
    subst hn
    simp only[if_true]
    exact⟨RO.Gg (jm.nil _ _ _ _ _),by simp⟩
   ·rw[bg hnm]at hn;cases hn
  ·intro x hx
   by_cases hnm:n=m
   ·subst hnm;simp at hx
   ·rw[bg hnm]at h1;cases h1
 have g1:=Good.grow hB g (os:= [(m, .arr t [])]) (by simp[fresh,hlk,FO]) hN
 have nv:look ([(m,Obj.arr t [])]++st.hp) b=some (.box c):=by
  show look ((m,Obj.arr t [])::st.hp) b=_
  rw[bg hne];exact hl
 obtain⟨b',cs,e,DR,hh,hc⟩:=g1.obj b _ nv
 have g2:=DU (off:=0) (us:= []) (c':=c.set i (.own m)) g1 nv DR hh (Nat.zero_le _) (by
  simp only[List.take_zero,List.nil_append,Nat.zero_add,List.length_nil,List.drop_zero]
  refine bN.set' (fun _ _ h=>h) hc he fun u hu=> ?_
  obtain⟨rfl,_⟩:=hu
  refine⟨⟨t,[],look_eq⟩,?_⟩
  simp only[if_true])
 rw[h]
 exact⟨iv.size,iv.defers,iv.kept,iv.Ap,_,g2⟩
theorem eM{P:Program}{zb:cK}{Q:Post}{st st':St}{c:Code}(b i m:Nat)(t:Tag)(h:G.Mp st b i m t=some st')(k:W P ty zb c Q st'):W P ty zb c Q st:=fun a w iv=>k a w (P1 h iv)
def Ia(st:St)(b i m:Nat):Option St:=match look st.hp b with
 |some (.box c)=>match yw c i with
  |some (.own n)=>match look st.hp n,pinned [n],iA m,look (cF [n] [] st.hp) m with
   |some (.arr t l),false,false,none=>match st.gone [n] m t l with
    | ⟨nn,sl,hp⟩=>L3 ⟨nn,sl,(b, .box ((c.map fun v=>v.bQ [n] []).set i (.own m)))::hp⟩
   |_,_,_,_=>none
  |_=>none
 |_=>none
theorem bN.acA{R R':V→Value→Prop}{f:V→V}{y:V}(hm: ∀a u,R a u→R' (f a) u): ∀{c:List V} {cs:List Value} {i:Nat} {v:V},bN R c cs→yw c i=some v→(∀u,R v u→R' y u)→bN R' ((c.map f).set i y) cs
 | [],_,_,_,_,h,_=>by cases h
 |a::r,[],_,_,h,_,_=>h.elim
 |a::r,u::us,0,v,⟨h1,h2⟩,h,hy=>by
  simp only[yw,oI]at h
  subst h
  exact⟨hy u h1,h2.map hm⟩
 |a::r,u::us,i+1,v,⟨h1,h2⟩,h,hy=>⟨hm a u h1,bN.acA hm h2 (by simpa[yw]using h) hy⟩
theorem Mq{zb:cK}{st st':St}{b i m:Nat}(h:Ia st b i m=some st'){a:Act}{w:World}(iv:Inv ty zb st a w):Inv ty zb st' a w:=by
 obtain⟨env,g⟩:=iv.good
 have hB:=iv.kept.size
 unfold Ia at h
 split at h
 case h_2=>cases h
 rename_i c AF
 split at h
 case h_2=>cases h
 rename_i n he
 split at h
 case h_2=>cases h
 rename_i t l hl hpk FO hlk
 rw[St.gone_eq]at h
 have h:=lP h
 have XM:soft n=false:=nO hpk (by simp)
 have hb:=RO.VL XM (g.obj n _ hl)
 have CQ: ∀b,(env n).v.ownBlock=some b→b∈(env n).fp:=by
  intro b hb'
  obtain⟨xs,bA,_,_,_,gC,_⟩:=hb
  rw[gC,hb'];simp
 obtain⟨env',hg',Gp,hold,afc⟩:=AA (ty:=ty) g hB (ks:= [n]) hpk FO hlk (v:=(env n).v) (v':=(env n).v) (w':=w) (fp:=(env n).fp) (fx:= []) (by
  intro b hb
  rw[List.append_nil]at hb
  exact⟨n,_,by simp,hl,hb⟩) CQ hb ⟨rfl,rfl,rfl,Nat.le_refl _,fun _ _ _=>rfl⟩ (fun b hb=>Or.inl hb)
 have hbn:b≠n:=by rintro rfl;rw[AF]at hl;cases hl
 have hbk:look (cF [n] [] st.hp) b=some (.box (c.map fun v=>v.bQ [n] [])):=by
  rw[bS,if_neg (by simpa using hbn),AF];rfl
 have Gr:b≠m:=by rintro rfl;rw[hbk]at hlk;cases hlk
 have bz:look ((m,Obj.arr t l)::cF [n] [] st.hp) b=some (.box (c.map fun v=>v.bQ [n] [])):=by rw[bg Gr];exact hbk
 obtain⟨b',cs,e,DR,hh,hc⟩:=hg'.obj b _ bz
 obtain⟨b0,cs0,e0,afd,hh0,hc0⟩:=g.obj b _ AF
 have Y6:b'=b0:=by
  rw[hold b Gr,afd]at DR
  simpa using DR.symm
 subst Y6
 have hcs:cs=cs0:=by
  rw[hh0]at hh
  simp at hh
  exact hh.1.symm
 subst hcs
 have s:rM [n] [] w st.hp env w ((m,Obj.arr t l)::cF [n] [] st.hp) env':=by
  have hnm: ∀x o,x≠n→look st.hp x=some o→x≠m:=by
   rintro x o hx h1 rfl
   rw[bS,if_neg (by simpa using hx),h1]at hlk;cases hlk
  refine⟨fun _ _ _=>rfl,?_,?_,?_⟩
  ·rintro x hx ⟨y,o',h1,h2⟩
   by_cases hy:y=m
   ·subst hy
    exact⟨n,_,hl,by rw[←afc];exact h2⟩
   ·rw[hold y hy]at h2
    rw[bg hy,bS]at h1
    split at h1
    ·cases h1
    ·cases hq:look st.hp y with
     |none=>rw[hq]at h1;cases h1
     |some o=>exact⟨y,o,hq,h2⟩
  ·intro x o hx h1
   have hx:x≠n:=by simpa using hx
   have Mr:=hnm x o hx h1
   exact⟨o.bQ [n] [],by rw[bg Mr,bS,if_neg (by simpa using hx),h1];rfl,by cases o<;>simp[Obj.like,Obj.bQ],by rw[hold x Mr]⟩
  ·rintro x t' l' ⟨hx,_⟩ h1
   have hx:x≠n:=by simpa using hx
   have Mr:=hnm x _ hx h1
   exact⟨by rw[bg Mr,bS,if_neg (by simpa using hx),h1];rfl,by rw[hold x Mr],fun _ _=>rfl⟩
 have g2:=DU (off:=0) (us:= []) (c':=(c.map fun v=>v.bQ [n] []).set i (.own m)) hg' bz DR hh (Nat.zero_le _) (by
  simp only[List.take_zero,List.nil_append,Nat.zero_add,List.length_nil,List.drop_zero]
  refine bN.acA (fun v u h=>RA.iU s h) hc0 he fun u hu=> ?_
  obtain⟨_,hu⟩:=hu
  exact⟨⟨t,l,look_eq⟩,by rw[hu,Gp]⟩)
 rw[h]
 exact⟨iv.size,iv.defers,iv.kept,iv.Ap,_,g2⟩
theorem lU{P:Program}{zb:cK}{Q:Post}{st st':St}{c:Code}(b i m:Nat)(h:G.Ia st b i m=some st')(k:W P ty zb c Q st'):W P ty zb c Q st:=fun a w iv=>k a w (Mq h iv)
end
section
variable{ty:Tag→Nat}
inductive gE where
 |last(q:Nat)
 |ph(q:Nat)(c:gE)
 |br(d t:Nat)(sub next:gE)
 |nil
def gE.N7:gE→List (Nat×Nat×gE)
 | .br d t sub next=>(d,t,sub)::next.N7
 |_=> []
def gE.SZ:gE→Bool
 | .last _=>true
 | .ph _ _=>true
 |_=>false
def Km(Γ:Nat→TK)(E:Tag→Nat→Prop)(S:FuncId→List S1→List S1→Prop)(cH:List (Nat×Nat))(cr:List (Nat×CR))(ops:List Oper)(q:Nat):Nat→List Oper→St→Option (List TE×List (Nat×List Prop))
 |_,[],_=>some ([],[])
 |i,o::r,⟨n,sl,hp⟩=>match q.testBit i with
  |false=>match Km Γ E S cH cr ops q (i+1) r ⟨n,sl,hp⟩with
   |some (tr,vq)=>some (⟨0, .tZ [],[]⟩::tr,vq)
   |none=>none
  |true=>match o.dst with
   |some d=>match sl.any (fun e=>e.2.mentions d),mh Γ E S cH cr ops ⟨n,sl,hp⟩ o with
    |false,some (vc,v,os)=>match fS v,Zw os with
     |some v,some os=>match Km Γ E S cH cr ops q (i+1) r ⟨n,(d,v)::sl,lz os hp⟩with
      |some (tr,vq)=>some (⟨d,v,os⟩::tr,(i,vc)::vq)
      |none=>none
     |_,_=>none
    |_,_=>none
   |none=>none
def Kn(d:Nat):Nat→List TE→St→St
 |_,[],s=>s
 |i,e::r,s=>match d.testBit i with
  |true=>Kn d (i+1) r (app s e)
  |false=>Kn d (i+1) r s
def Ms(i:Nat)(vc:List Prop):List (Nat×List Prop)→List (Nat×List Prop)
 | []=> [(i,vc)]
 | (j,v)::r=>match Nat.blt j i with
   |true=>(i,vc)::(j,v)::r
   |false=>(j,v)::Ms i vc r
def Ko(d:Nat):List (Nat×List Prop)→List (Nat×List Prop)→List (Nat×List Prop)
 | [],acc=>acc
 | (i,vc)::r,acc=>match d.testBit i with
   |true=>Ko d r (Ms i vc acc)
   |false=>Ko d r acc
def B1:List (Nat×List Prop)→Option (List Prop)
 | []=>some []
 | (_,[])::r=>B1 r
 | (_,[p])::r=>match B1 r with|some l=>some (p::l)|none=>none
 | (_,[p,q])::r=>match B1 r with|some l=>some (p::q::l)|none=>none
 | (_,l)::r=>match B1 r with|some l'=>some (l++l')|none=>none
theorem uO{i:Nat}{vc:List Prop}: ∀{l:List (Nat×List Prop)} {x:Nat×List Prop},x∈Ms i vc l↔x=(i,vc)∨x∈l
 | [],x=>by simp[Ms]
 | (j,v)::r,x=>by
   simp only[Ms]
   split
   ·simp
   ·rw[List.mem_cons,List.mem_cons,uO]
    constructor
    ·rintro(h|h|h)
     ·exact Or.inr (Or.inl h)
     ·exact Or.inl h
     ·exact Or.inr (Or.inr h)
    ·rintro(h|h|h)
     ·exact Or.inr (Or.inl h)
     ·exact Or.inl h
     ·exact Or.inr (Or.inr h)
theorem qF{d:Nat}: ∀{vq acc:List (Nat×List Prop)} {x:Nat×List Prop},x∈Ko d vq acc↔(x∈vq∧d.testBit x.1=true)∨x∈acc
 | [],acc,x=>by simp[Ko]
 | (i,vc)::r,acc,x=>by
   simp only[Ko]
   split
   ·rename_i hb
    rw[qF,uO]
    constructor
    ·rintro(⟨h1,h2⟩|rfl|h)
     ·exact Or.inl ⟨List.mem_cons_of_mem _ h1,h2⟩
     ·exact Or.inl ⟨by simp,hb⟩
     ·exact Or.inr h
    ·rintro(⟨h1,h2⟩|h)
     ·rcases List.mem_cons.1 h1 with rfl|h1
      ·exact Or.inr (Or.inl rfl)
      ·exact Or.inl ⟨h1,h2⟩
     ·exact Or.inr (Or.inr h)
   ·rename_i hb
    rw[qF]
    constructor
    ·rintro(⟨h1,h2⟩|h)
     ·exact Or.inl ⟨List.mem_cons_of_mem _ h1,h2⟩
     ·exact Or.inr h
    ·rintro(⟨h1,h2⟩|h)
     ·rcases List.mem_cons.1 h1 with rfl|h1
      ·simp only at h2;rw[h2]at hb;cases hb
      ·exact Or.inl ⟨h1,h2⟩
     ·exact Or.inr h
theorem A6: ∀{l:List (Nat×List Prop)} {m:List Prop},B1 l=some m→ ∀x,x∈l→ ∀q,q∈x.2→q∈m
 | [],_,_,x,hx=>by cases hx
 | (i,v)::r,m,h,x,hx=>by
   have key: ∃l',B1 r=some l'∧m=v++l':=by
    unfold B1 at h
    split at h
    ·rename_i he;cases he
    ·rename_i he;simp only[List.cons.injEq,pI]at he;obtain⟨⟨rfl,rfl⟩,rfl⟩:=he;exact⟨m,h,rfl⟩
    ·rename_i he
     simp only[List.cons.injEq,pI]at he;obtain⟨⟨rfl,rfl⟩,rfl⟩:=he
     split at h
     ·rename_i l' h1;simp only[oI]at h;exact⟨l',h1,h.symm⟩
     ·cases h
    ·rename_i he
     simp only[List.cons.injEq,pI]at he;obtain⟨⟨rfl,rfl⟩,rfl⟩:=he
     split at h
     ·rename_i l' h1;simp only[oI]at h;exact⟨l',h1,h.symm⟩
     ·cases h
    ·rename_i he
     simp only[List.cons.injEq,pI]at he;obtain⟨⟨rfl,rfl⟩,rfl⟩:=he
     split at h
     ·rename_i l' h1;simp only[oI]at h;exact⟨l',h1,h.symm⟩
     ·cases h
   obtain⟨l',h1,rfl⟩:=key
   intro q hq
   rcases List.mem_cons.1 hx with rfl|hx
   ·exact List.mem_append_left _ hq
   ·exact List.mem_append_right _ (A6 h1 x hx q hq)
def kf(P:Program)(ty:Tag→Nat)(Γ:Nat→TK)(cH:List (Nat×Nat))(cr:List (Nat×CR))(ks hs:List Nat)(ops:List Oper)(n0:Nat):gE→St→List TE→List (Nat×List Prop)→List (Nat×List Prop)→Option (List (List Prop×St))
 | .last q,s,_,_,acc=>match Km Γ (I6 P ty) (Sound ty P) cH cr ops q 0 ops s with
   |some (tr,vq)=>match L3 (Kn q 0 tr s)with
    |some ⟨n,sl1,fu⟩=>match wP sl1 ks,wQ fu (Gz sl1 fu ks hs),B1 (Ko q vq acc)with
     |some sl,some hp,some vc=>match ng sl hp,Nat.beq n n0 with
      |true,true=>some [(vc,⟨n0,sl,hp⟩)]
      |_,_=>none
     |_,_,_=>none
    |none=>none
   |none=>none
 | .ph q c,s,_,_,acc=>match Km Γ (I6 P ty) (Sound ty P) cH cr ops q 0 ops s with
   |some (tr,vq)=>kf P ty Γ cH cr ks hs ops n0 c s tr vq acc
   |none=>none
 | .br d t sub next,s,tr,vq,acc=>match L3 (Kn d 0 tr s),ops[t]? with
   |some s1,some o=>match step P ty Γ cH cr ops s1 o with
    |some (vc,s2)=>match L3 s2 with
     |some s2=>match kf P ty Γ cH cr ks hs ops n0 sub s2 [] [] (Ms t vc (Ko d vq acc)),kf P ty Γ cH cr ks hs ops n0 next s tr vq acc with
      |some l1,some l2=>some (lz l1 l2)
      |_,_=>none
     |none=>none
    |none=>none
   |_,_=>none
 | .nil,_,_,_,_=>some []
def EM(ops:List Oper)(B q Kp:Nat):Nat→Nat→Nat→List Nat
 |0,_,d=> [d]
 |m+1,i,d=>match q.testBit i with
  |false=>EM ops B q Kp m (i+1) d
  |true=>(match((ops[i]?).map fun o=>(cC o).all fun j=>B.testBit j||d.testBit j).getD false with
   |true=>EM ops B q Kp m (i+1) (d|||2^i)
   |false=> [])++(match Kp.testBit i with
   |true=> []
   |false=>EM ops B q Kp m (i+1) d)
def WT(ops:List Oper)(cl:List Nat)(A:List (Nat×Oper))(qs B q:Nat):Bool:=
 A.all fun e=>(!(q.testBit e.1)|| !(B.testBit e.1))&&
   (B.testBit e.1||q.testBit e.1|| !(qs.testBit e.1)|| !((cC e.2).all fun j=>B.testBit j||q.testBit j))&&
   (!(q.testBit e.1)||
     ((tmpsOf e.2).all fun t=>A.all fun f=> !(q.testBit f.1)|| !(yY f.2 t)||Nat.beq f.1 e.1|| (cl.getD e.1 0).testBit f.1|| (Nat.blt e.1 f.1&&(cl.getD f.1 0).testBit e.1))&&
     (match e.2.guard with
      |none=>true
      |some (j,_)=>(cC e.2).any (Nat.beq j))&&
     (match e.2.dst with
      |some d=>A.all fun f=>Nat.beq f.1 e.1|| !(yY f.2 d)
      |none=>false)&&(cC e.2).all fun j=>B.testBit j||q.testBit j)
def Ic(ops:List Oper)(cl:List Nat)(n B q:Nat)(c:gE):Bool:=
 (List.range n).all fun t=>B.testBit t||q.testBit t||
  (EM ops B q (cl.getD t 0) n 0 0).all fun d=> !(((ops[t]?).map fun o=>(cC o).all fun j=>B.testBit j||d.testBit j).getD false)||c.N7.any fun b=>Nat.beq b.1 d&&Nat.beq b.2.1 t
def QA(ops:List Oper)(cl:List Nat)(A:List (Nat×Oper))(qs n:Nat):Nat→gE→Bool
 |B, .last q=>WT ops cl A qs B q&&(List.range n).all fun i=>B.testBit i||q.testBit i
 |B, .ph q c=>WT ops cl A qs B q&&Ic ops cl n B q c&& !((List.range n).all fun i=>B.testBit i||q.testBit i)&&QA ops cl A qs n B c
 |B, .br d t sub next=>sub.SZ&&Nat.blt t n&&QA ops cl A qs n (B|||d|||2^t) sub&&QA ops cl A qs n B next
 |_, .nil=>true
def WU(ops:List Oper)(qs:Nat)(p:gE):Bool:=
 ((idx 0 ops).all fun e=>(cC e.2).all fun j=>Nat.blt j e.1)&&p.SZ&&QA ops (GA ops) (idx 0 ops) qs ops.length 0 p
section
variable{qa D:Nat→Bool}{tr:List TE}{s:St}
theorem nj(qa:Nat→Bool)(e:TE)(tr:List TE)(s:St)(h:qa 0=false): ∀i,dw qa (e::tr) s (i+1)=dw (fun j=>qa (j+1)) tr s i
 |0=>by simp[dw,h]
 |i+1=>by
  rw[dw,nj qa e tr s h i,dw]
  simp only[List.getElem?_cons_succ]
theorem zu(d:Nat): ∀(tr:List TE) (k:Nat) (s:St),Kn d k tr s=dw (fun i=>d.testBit (k+i)) tr s tr.length
 | [],_,_=>rfl
 |e::r,k,s=>by
  have hf:(fun j=>d.testBit (k+(j+1)))=fun i=>d.testBit (k+1+i):=by funext j;congr 1;omega
  simp only[Kn]
  split
  ·rename_i h
   rw[zu d r (k+1) (app s e),List.length_cons,qv _ e r s (by simpa using h),hf]
  ·rename_i h
   rw[zu d r (k+1) s,List.length_cons,nj _ e r s (by simpa using h),hf]
theorem A7{D':Nat→Bool}: ∀{n:Nat},(∀i,i<n→D i=D' i)→dw D tr s n=dw D' tr s n
 |0,_=>rfl
 |n+1,h=>by rw[dw,dw,A7 (n:=n) fun i hi=>h i (by omega),h n (by omega)]
theorem EN: ∀{n:Nat},dw (fun _=>false) tr s n=s
 |0=>rfl
 |n+1=>by rw[y8 rfl,EN]
theorem pH: ∀{i:Nat} {x:Nat×SV},x∈s.sl→x∈(dw D tr s i).sl
 |0,_,h=>h
 |i+1,x,h=>by
  rw[dw]
  split
  ·exact List.mem_cons_of_mem _ (pH h)
  ·exact pH h
def EO(Qb:Nat→Bool)(tr:List TE)(s:St)(m:Nat):Prop:= ∀i e,i<m→Qb i=true→tr[i]? =some e→ ∀n o,look e.os n=some o→look (dw Qb tr s i).hp n=none
variable{Qb:Nat→Bool}
theorem A8{m:Nat}(hf:EO Qb tr s m): ∀{j i:Nat},i≤j→j≤m→ ∀{n o},look (dw Qb tr s i).hp n=some o→look (dw Qb tr s j).hp n=some o
 |0,i,hi,_,n,o,h=>by
  have:i=0:=by omega
  subst this;exact h
 |j+1,i,hi,hm,n,o,h=>by
  by_cases hij:i=j+1
  ·subst hij;exact h
  ·have ih:=A8 hf (j:=j) (i:=i) (by omega) (by omega) h
   rw[dw]
   split
   ·rename_i e' h1 h2
    show look (e'.os++(dw Qb tr s j).hp) n=_
    cases hq:look e'.os n with
    |none=>rw[bq hq];exact ih
    |some o'=>
     have:=hf j e' (by omega) h1 h2 n o' hq
     rw[this]at ih;cases ih
   ·exact ih
theorem uP{m:Nat}(hf:EO Qb tr s m)(hD: ∀i,D i=true→Qb i=true): ∀{i:Nat},i≤m→ ∀{n o},look (dw D tr s i).hp n=some o→look (dw Qb tr s i).hp n=some o
 |0,_,n,o,h=>h
 |i+1,hm,n,o,h=>by
  rw[dw]at h
  split at h
  ·rename_i e' h1 h2
   have h:look (e'.os++(dw D tr s i).hp) n=some o:=h
   rw[mq (hD i h1) h2]
   show look (e'.os++(dw Qb tr s i).hp) n=some o
   cases hq:look e'.os n with
   |none=>rw[bq hq]at h ⊢;exact uP hf hD (by omega) h
   |some o'=>rw[cg hq]at h ⊢;exact h
  ·exact A8 hf (Nat.le_succ i) hm (uP hf hD (by omega) h)
theorem vT{m:Nat}(hf:EO Qb tr s m)(hD: ∀i,D i=true→Qb i=true): ∀{i:Nat},i≤m→ ∀{n o},look s.hp n=some o→look (dw D tr s i).hp n=some o
 |0,_,n,o,h=>h
 |i+1,hm,n,o,h=>by
  have ih:=vT hf hD (i:=i) (by omega) h
  rw[dw]
  split
  ·rename_i e' h1 h2
   show look (e'.os++(dw D tr s i).hp) n=some o
   cases hq:look e'.os n with
   |none=>rw[bq hq];exact ih
   |some o'=>
    have h3:=hf i e' (by omega) (hD i h1) h2 n o' hq
    have h4:=uP hf hD (by omega) ih
    rw[h3]at h4;cases h4
  ·exact ih
theorem vU{m:Nat}(hf:EO Qb tr s m)(hD: ∀i,D i=true→Qb i=true): ∀{i:Nat},i≤m→ ∀{j:Nat} {e:TE} {n:Nat} {o:Obj},j<i→D j=true→tr[j]? =some e→look e.os n=some o→look (dw D tr s i).hp n=some o
 |i+1,hm,j,e,n,o,hj,hin,he,h=>by
  by_cases hij:j=i
  ·subst hij
   rw[mq hin he]
   exact cg h
  ·have ih:=vU hf hD (i:=i) (by omega) (j:=j) (by omega) hin he h
   rw[dw]
   split
   ·rename_i e' h1 h2
    show look (e'.os++(dw D tr s i).hp) n=some o
    cases hq:look e'.os n with
    |none=>rw[bq hq];exact ih
    |some o'=>
     have h3:=hf i e' (by omega) (hD i h1) h2 n o' hq
     have h4:=uP hf hD (by omega) ih
     rw[h3]at h4;cases h4
   ·exact ih
end
structure Vo(Γ:Nat→TK)(E:Tag→Nat→Prop)(S:FuncId→List S1→List S1→Prop)(cH:List (Nat×Nat))(cr:List (Nat×CR))(ops:List Oper)(q:Nat)(s:St)(tr:List TE)(vq:List (Nat×List Prop)):Prop where
 len:tr.length=ops.length
 one: ∀i,i<ops.length→q.testBit i=true→ ∃o e vc,ops[i]? =some o∧tr[i]? =some e∧o.dst=some e.d∧((dw (fun j=>q.testBit j) tr s i).sl.any fun x=>x.2.mentions e.d)=false∧mh Γ E S cH cr ops (dw (fun j=>q.testBit j) tr s i) o=some (vc,e.v,e.os)∧(i,vc)∈vq
theorem xH{Γ:Nat→TK}{E:Tag→Nat→Prop}{S:FuncId→List S1→List S1→Prop}{cH:List (Nat×Nat)}{cr:List (Nat×CR)}{ops:List Oper}{q:Nat}: ∀{l:List Oper} {k:Nat} {st:St} {tr:List TE} {vq:List (Nat×List Prop)},Km Γ E S cH cr ops q k l st=some (tr,vq)→(∀i o,l[i]? =some o→ops[k+i]? =some o)→
  tr.length=l.length∧ ∀i,i<l.length→q.testBit (k+i)=true→ ∃o e vc,ops[k+i]? =some o∧tr[i]? =some e∧o.dst=some e.d∧((dw (fun j=>q.testBit (k+j)) tr st i).sl.any fun x=>x.2.mentions e.d)=false∧mh Γ E S cH cr ops (dw (fun j=>q.testBit (k+j)) tr st i) o=some (vc,e.v,e.os)∧(k+i,vc)∈vq
 | [],k,st,tr,vq,h,_=>by
   simp only[Km,oI,pI]at h
   exact⟨by rw[←h.1];rfl,fun i hi=>absurd hi (by simp)⟩
 |o::r,k,⟨n,sl,hp⟩,tr,vq,h,hk=>by
  have hk': ∀i o',r[i]? =some o'→ops[k+1+i]? =some o':=fun i o' ho=>by
   have:=hk (i+1) o' (by simpa using ho)
   rw[show k+1+i=k+(i+1)by omega];exact this
  have hf:(fun j=>q.testBit (k+(j+1)))=fun i=>q.testBit (k+1+i):=by funext j;congr 1;omega
  simp only[Km]at h
  split at h
  ·rename_i hb
   split at h
   case h_2=>cases h
   rename_i tr' vq' h2
   simp only[oI,pI]at h
   obtain⟨rfl,rfl⟩:=h
   obtain⟨q1,q2⟩:=xH h2 hk'
   refine⟨by simp[q1],fun i hi hq=> ?_⟩
   cases i with
   |zero=>rw[Nat.add_zero,hb]at hq;cases hq
   |succ i=>
    obtain⟨o',e',ZC,p1,p2,p3,p4,p5,p6⟩:=q2 i (by simpa using hi) (by rw[show k+1+i=k+(i+1)by omega];exact hq)
    refine⟨o',e',ZC,by rw[show k+(i+1)=k+1+i by omega];exact p1,by simpa using p2,p3,?_,?_,by rw[show k+(i+1)=k+1+i by omega];exact p6⟩
    ·rw[nj _ _ tr' _ (by simpa using hb) i,hf];exact p4
    ·rw[nj _ _ tr' _ (by simpa using hb) i,hf];exact p5
  ·rename_i hb
   split at h
   case h_2=>cases h
   rename_i d hd
   split at h
   case h_2=>cases h
   rename_i vc v os hm hq0
   split at h
   case h_2=>cases h
   rename_i v2 os2 Pu ZW
   have Pu:=R4 Pu
   have ZW:=HQ ZW
   subst Pu;subst ZW
   split at h
   case h_2=>cases h
   rename_i tr' vq' h2
   simp only[oI,pI]at h
   obtain⟨rfl,rfl⟩:=h
   rw[dM]at h2
   obtain⟨q1,q2⟩:=xH h2 hk'
   refine⟨by simp[q1],fun i hi hq=> ?_⟩
   cases i with
   |zero=>exact⟨o,⟨d,v2,os2⟩,vc,hk 0 o rfl,rfl,hd,hm,hq0,by simp⟩
   |succ i=>
    obtain⟨o',e',ZC,p1,p2,p3,p4,p5,p6⟩:=q2 i (by simpa using hi) (by rw[show k+1+i=k+(i+1)by omega];exact hq)
    have hc:=qv (fun j=>q.testBit (k+j)) ⟨d,v2,os2⟩ tr' ⟨n,sl,hp⟩ (by simpa using hb) i
    refine⟨o',e',ZC,by rw[show k+(i+1)=k+1+i by omega];exact p1,by simpa using p2,p3,?_,?_,by rw[show k+(i+1)=k+1+i by omega];exact List.mem_cons_of_mem _ p6⟩
    ·rw[hc,hf];exact p4
    ·rw[hc,hf];exact p5
theorem Vo.of{Γ:Nat→TK}{E:Tag→Nat→Prop}{S:FuncId→List S1→List S1→Prop}{cH:List (Nat×Nat)}{cr:List (Nat×CR)}{ops:List Oper}{q:Nat}{s:St}{tr:List TE}{vq:List (Nat×List Prop)}(h:Km Γ E S cH cr ops q 0 ops s=some (tr,vq)):Vo Γ E S cH cr ops q s tr vq:=by
 obtain⟨h1,h2⟩:=xH h (fun i o ho=>by simpa using ho)
 refine⟨h1,fun i hi hq=> ?_⟩
 have:=h2 i hi (by simpa using hq)
 simpa using this
structure ZX(ops:List Oper)(qs B q:Nat):Prop where
 back: ∀i o,ops[i]? =some o→ ∀j,j∈cC o→j<i
 iB: ∀i,i<ops.length→q.testBit i=true→B.testBit i=false
 full: ∀i o,ops[i]? =some o→B.testBit i=false→qs.testBit i=true→(∀j,j∈cC o→B.testBit j=true∨q.testBit j=true)→q.testBit i=true
 uses: ∀i o,q.testBit i=true→ops[i]? =some o→ ∀t,t∈tmpsOf o→ ∀k o',q.testBit k=true→ops[k]? =some o'→o'.dst=some t→k=i∨((GA ops).getD i 0).testBit k=true∨(i<k∧((GA ops).getD k 0).testBit i=true)
 guard: ∀i o j x,q.testBit i=true→ops[i]? =some o→o.guard=some (j,x)→j∈cC o
 dist: ∀i o k o' d,q.testBit i=true→ops[i]? =some o→ops[k]? =some o'→o.dst=some d→o'.dst=some d→k=i
 clq: ∀i o,q.testBit i=true→ops[i]? =some o→ ∀j,j∈cC o→(B.testBit j=true∨q.testBit j=true)
theorem acC{ops:List Oper}(h:((idx 0 ops).all fun e=>(cC e.2).all fun j=>Nat.blt j e.1)=true): ∀i o,ops[i]? =some o→ ∀j,j∈cC o→j<i:=by
 intro i o ho j hj
 simp only[List.all_eq_true]at h
 have:=h _ (by simpa using za (l:=ops) (k:=0) ho) j hj
 exact Nat.le_of_ble_eq_true this
theorem Ie{ops:List Oper}{qs B q:Nat}(hb: ∀i o,ops[i]? =some o→ ∀j,j∈cC o→j<i)(h:WT ops (GA ops) (idx 0 ops) qs B q=true):ZX ops qs B q:=by
 simp only[WT,List.all_eq_true,Bool.and_eq_true,Bool.or_eq_true,Bool.not_eq_true']at h
 have hA: ∀{i o},ops[i]? =some o→(i,o)∈idx 0 ops:=by
  intro i o ho
  simpa using za (l:=ops) (k:=0) ho
 have hdi: ∀{o:Oper} {t:Nat},o.dst=some t→yY o t=true:=by intro o t hd;simp[yY,hd]
 refine⟨hb,fun i hi hq=> ?_,fun i o ho hB hqs he=> ?_,fun i o hq ho t ht k o' Mt ho' hd=> ?_,fun i o j x hq ho hg=> ?_,fun i o k o' d hq ho ho' hd hd'=> ?_,fun i o hq ho j hj=> ?_⟩
 ·rcases(h _ (hA (List.getElem?_eq_getElem hi))).1.1 with h1|h1
  ·simp only at h1;rw[hq]at h1;cases h1
  ·exact h1
 ·rcases(h _ (hA ho)).1.2 with((h1|h1)|h1)|h1
  ·simp only at h1;rw[hB]at h1;cases h1
  ·exact h1
  ·simp only at h1;rw[hqs]at h1;cases h1
  ·exfalso
   have:((cC o).all fun j=>B.testBit j||q.testBit j)=true:=by
    rw[List.all_eq_true];intro j hj
    rcases he j hj with h|h
    ·rw[h];rfl
    ·rw[h];simp
   simp only at h1
   rw[this]at h1;cases h1
 ·rcases(h _ (hA ho)).2 with h1|h1
  ·simp only at h1;rw[hq]at h1;cases h1
  ·rcases h1.1.1.1 t ht _ (hA ho')with(((h2|h2)|h2)|h2)|h2
   ·simp only at h2;rw[Mt]at h2;cases h2
   ·rw[hdi hd]at h2;cases h2
   ·exact Or.inl (Nat.eq_of_beq_eq_true h2)
   ·exact Or.inr (Or.inl h2)
   ·exact Or.inr (Or.inr ⟨Nat.le_of_ble_eq_true h2.1,h2.2⟩)
 ·rcases(h _ (hA ho)).2 with h1|h1
  ·simp only at h1;rw[hq]at h1;cases h1
  ·have h2:=h1.1.1.2
   simp only[hg,List.any_eq_true]at h2
   obtain⟨y,hy,h3⟩:=h2
   rw[Nat.eq_of_beq_eq_true h3];exact hy
 ·rcases(h _ (hA ho)).2 with h1|h1
  ·simp only at h1;rw[hq]at h1;cases h1
  ·have h2:=h1.1.2
   simp only[hd,List.all_eq_true,Bool.or_eq_true,Bool.not_eq_true']at h2
   rcases h2 _ (hA ho')with h3|h3
   ·exact Nat.eq_of_beq_eq_true h3
   ·rw[hdi hd']at h3;cases h3
 ·rcases(h _ (hA ho)).2 with h1|h1
  ·simp only at h1;rw[hq]at h1;cases h1
  ·exact h1.2 j hj
end
section
variable{ty:Tag→Nat}
section
variable{P:Program}{Γ:Nat→TK}{cH:List (Nat×Nat)}{cr:List (Nat×CR)}{ops:List Oper}{s:St}{tr:List TE}{vq:List (Nat×List Prop)}{qs B q:Nat}
theorem Vo.fresh{E:Tag→Nat→Prop}{S:FuncId→List S1→List S1→Prop}(T:Vo Γ E S cH cr ops q s tr vq):EO (fun j=>q.testBit j) tr s ops.length:=by
 intro i e hi hq he n x hl
 obtain⟨o,e',vc,_,he',_,_,Si,_⟩:=T.one i hi hq
 rw[he]at he'
 simp only[oI]at he'
 subst he'
 obtain⟨p,_,_,_,hf⟩:=iF Si
 exact(hf n x hl).1
theorem Vo.path{E:Tag→Nat→Prop}{S:FuncId→List S1→List S1→Prop}(T:Vo Γ E S cH cr ops q s tr vq)(K:ZX ops qs B q): ∀(i:Nat),i<ops.length→q.testBit i=true→ ∀o p,ops[i]? =some o→fH (dw (fun j=>q.testBit j) tr s i) ops o=some p→ ∀e,e∈p→
  ∀k o',q.testBit k=true→ops[k]? =some o'→o'.dst=some e.1→ ∀D:Nat→Prop,(∀i o,D i→ops[i]? =some o→ ∀j,j∈cC o→D j)→(∀j,j∈cC o→D j)→D k:=by
 intro i
 induction i using Nat.strongRecOn with
 |_ i ih=>
  intro hi CY o p ho hg e he k o' Mt hok ZG D hD hE
  have xF:k<ops.length:=(List.getElem?_eq_some_iff.1 hok).1
  unfold fH at hg
  split at hg
  ·simp at hg;subst hg;simp at he
  ·rename_i j x hgd
   have hje:=K.guard i o j x CY ho hgd
   have hji:=K.back i o ho j hje
   split at hg
   case h_2=>cases hg
   rename_i qj Yc
   split at hg
   case h_2=>cases hg
   rename_i d X4
   have base:e.1=d→D k:=by
    intro hed
    have:j=k:=K.dist k o' j qj d Mt hok Yc (by rw[ZG,hed]) X4
    rw[←this];exact hE j hje
   split at hg
   ·simp only[oI]at hg
    subst hg
    simp only[List.mem_singleton]at he
    exact base (by rw[he])
   ·rename_i p' b Aq
    simp only[oI]at hg
    subst hg
    rcases List.mem_cons.1 he with h|h
    ·exact base (by rw[h])
    ·by_cases Et:q.testBit j=true
     ·obtain⟨q2,ej,vcj,I7,hej,ZY,_,Si,_⟩:=T.one j (by omega) Et
      rw[Yc]at I7
      simp only[oI]at I7
      subst I7
      rw[X4]at ZY
      simp only[oI]at ZY
      subst ZY
      have ZZ:look (dw (fun j=>q.testBit j) tr s i).sl ej.d=some ej.v:=by
       refine ga hji Et hej fun j' e' h1 h2 h3 h4=> ?_
       obtain⟨q',e2,_,Wl,yS,hd2,_⟩:=T.one j' (by omega) h2
       rw[h3]at yS
       simp only[oI]at yS
       subst yS
       exact K.dist j _ j' q' ej.d Et Yc Wl X4 (by rw[hd2,h4])
      rw[ZZ]at Aq
      simp only[oI]at Aq
      obtain⟨pj,ZE,fQ,fu,_⟩:=iF Si
      have hpj:pj=p':=by
       by_cases hnil:pj= []
       ·exact absurd Aq (fQ hnil _ _)
       ·obtain⟨x',hx'⟩:=(fu hnil).1
        rw[hx']at Aq
        simp only[SV.cond.injEq]at Aq
        exact Aq.1
      subst hpj
      exact ih j hji (by omega) Et _ pj Yc ZE e h k o' Mt hok ZG D hD (hD j _ (hE j hje) Yc)
     ·
      exfalso
      have ZZ:look (dw (fun j=>q.testBit j) tr s i).sl d=look s.sl d:=by
       refine jz fun j' e' h1 h2 h3 h4=> ?_
       obtain⟨q',e2,_,Wl,yS,hd2,_⟩:=T.one j' (by omega) h2
       rw[h3]at yS
       simp only[oI]at yS
       subst yS
       have:=K.dist j' q' j qj d h2 Wl Yc (by rw[hd2,h4]) X4
       subst this
       exact Et h2
      rw[ZZ]at Aq
      obtain⟨q2,ek,vck,I7,hek,Z0,hnm,_,_⟩:=T.one k xF Mt
      rw[hok]at I7
      simp only[oI]at I7
      subst I7
      rw[ZG]at Z0
      simp only[oI]at Z0
      rw[List.any_eq_false]at hnm
      refine hnm (d, .cond p' (.a (.lit (.bool b)))) (pH (eH Aq)) ?_
      simp only[SV.mentions,List.any_eq_true]
      exact⟨e,h,by rw[Z0];simp⟩
   ·cases hg
theorem Mu(C: ∀t,c8 P t (Γ t))(T:Vo Γ (I6 P ty) (Sound ty P) cH cr ops q s tr vq)(K:ZX ops qs B q)(hv: ∀x,x∈vq→q.testBit x.1=true→x.1<ops.length→ ∀p,p∈x.2→p){zb:cK}{Q:Exit→Act→World→Prop}{D:Nat→Bool}(tQ: ∀i,D i=true→q.testBit i=true)(X5: ∀i,D i=true→i<ops.length)
  (CV: ∀i o,(B.testBit i=true∨D i=true)→ops[i]? =some o→ ∀j,j∈cC o→(B.testBit j=true∨D j=true))
  {i:Nat}(CY:q.testBit i=true)(FH:D i=false){o:Oper}(ho:ops[i]? =some o)(hE: ∀j,j∈cC o→(B.testBit j=true∨D j=true)){a:Act}{w:World}(iv:Inv ty zb (dw D tr s ops.length) a w):
  gT P ops.toArray o a w (fun a' w'=>Inv ty zb (dw (fun j=>D j||j==i) tr s ops.length) a' w') Q:=by
 have hi:i<ops.length:=(List.getElem?_eq_some_iff.1 ho).1
 obtain⟨o',e,vc,ho',he,hd,hnm,hq,VZ⟩:=T.one i hi CY
 rw[ho]at ho'
 simp only[oI]at ho'
 subst ho'
 have hfr:=T.fresh
 have N8: ∀{k},q.testBit k=true→k<ops.length→(B.testBit k=true∨D k=true)→D k=true:=by
  intro k hk xF h
  rcases h with h|h
  ·rw[K.iB k xF hk]at h;cases h
  ·exact h
 have aff: ∀{x},((GA ops).getD i 0).testBit x=true→(B.testBit x=true∨D x=true):=fun h=>uy (D:=fun j=>B.testBit j=true∨D j=true) K.back CV i o ho hE _ h
 have acE: ∀{x},((GA ops).getD i 0).testBit x=true→x<i:=fun h=>uy (D:=fun j=>j<i) K.back (fun a b hab hb j hj=>Nat.lt_trans (K.back a b hb j hj) hab) i o ho (fun j hj=>K.back i o ho j hj) _ h
 have hdist: ∀{j e'},j<ops.length→q.testBit j=true→tr[j]? =some e'→ ∃q,ops[j]? =some q∧q.dst=some e'.d:=by
  intro j e' hj Yc he'
  obtain⟨q,e2,_,Wl,yS,hd2,_⟩:=T.one j hj Yc
  rw[he']at yS
  simp only[oI]at yS
  subst yS
  exact⟨q,Wl,hd2⟩
 have uz: ∀{j j':Nat} {e1 e2:TE},j<ops.length→j'<ops.length→q.testBit j=true→q.testBit j'=true→tr[j]? =some e1→tr[j']? =some e2→e2.d=e1.d→j'=j:=by
  intro j j' e1 e2 h1 h2 g1 g2 h3 h4 h5
  obtain⟨q1,p1,p2⟩:=hdist h1 g1 h3
  obtain⟨q2,p3,p4⟩:=hdist h2 g2 h4
  exact K.dist j q1 j' q2 e1.d g1 p1 p3 p2 (by rw[p4,h5])
 have bI: ∀t,(∀k o',k<ops.length→q.testBit k=true→ops[k]? =some o'→o'.dst=some t→k=i∨(k<i∧D k=true)∨(i<k∧D k=false))→look (dw (fun j=>q.testBit j) tr s i).sl t=look (dw D tr s ops.length).sl t:=by
  intro t ht
  by_cases hex: ∃k e',k<i∧D k=true∧tr[k]? =some e'∧e'.d=t
  ·obtain⟨k,e',hk,lD,he',rfl⟩:=hex
   rw[ga hk (tQ k lD) he' fun j' e2 h1 h2 h3 h4=>uz (by omega) (by omega) (tQ k lD) h2 he' h3 h4,ga (by omega) lD he' fun j' e2 h1 h2 h3 h4=>uz (by omega) h1 (tQ k lD) (tQ j' h2) he' h3 h4]
  ·rw[jz (fun k e' hk Mt he' hdt=>by
      obtain⟨q',h1,h2⟩:=hdist (by omega) Mt he'
      rcases ht k q' (by omega) Mt h1 (by rw[h2,hdt])with h|h|h
      ·omega
      ·exact hex ⟨k,e',hk,h.2,he',hdt⟩
      ·omega),
    jz (fun k e' hk lD he' hdt=>by
     obtain⟨q',h1,h2⟩:=hdist hk (tQ k lD) he'
     rcases ht k q' hk (tQ k lD) h1 (by rw[h2,hdt])with h|h|h
     ·subst h;rw[FH]at lD;cases lD
     ·exact hex ⟨k,e',h.1,h.2,he',hdt⟩
     ·rw[h.2]at lD;cases lD)]
 obtain⟨p,fN,fQ,fu,FP⟩:=iF hq
 have zc: ∀x,x∈p→look (dw (fun j=>q.testBit j) tr s i).sl x.1=look (dw D tr s ops.length).sl x.1:=by
  intro x hx
  refine bI x.1 fun k o2 xF Mt I9 hd2=>Or.inr (Or.inl ⟨?_,N8 Mt xF ?_⟩)
  ·exact T.path K i hi CY o p ho fN x hx k o2 Mt I9 hd2 (fun j=>j<i) (fun a b hab hb j hj=>Nat.lt_trans (K.back a b hb j hj) hab) (fun j hj=>K.back i o ho j hj)
  ·exact T.path K i hi CY o p ho fN x hx k o2 Mt I9 hd2 (fun j=>B.testBit j=true∨D j=true) CV hE
 have jo:fH (dw D tr s ops.length) ops o=some p:=by
  rw[←fN]
  unfold fH
  split
  ·rfl
  ·rename_i j x hgd
   split
   ·rename_i q Et
    split
    ·rename_i d Lv
     have hmem: ∃y,(d,y)∈p:=by
      unfold fH at fN
      rw[hgd]at fN
      dsimp only at fN
      rw[Et]at fN
      dsimp only at fN
      rw[Lv]at fN
      dsimp only at fN
      split at fN
      ·simp only[oI]at fN;exact⟨x,by rw[←fN];simp⟩
      ·simp only[oI]at fN;exact⟨x,by rw[←fN];simp⟩
      ·cases fN
     obtain⟨y,hy⟩:=hmem
     rw[←zc (d,y) hy]
    ·rfl
   ·rfl
 have Ma:fresh (dw D tr s ops.length).hp e.os=true:=by
  refine Er fun n x hl=> ?_
  cases I7:look (dw D tr s ops.length).hp n with
  |none=>exact⟨rfl,(FP n x hl).2⟩
  |some y=>
   exfalso
   have hpi:=hfr i e hi CY he n x hl
   rcases gy I7 with h| ⟨j,e',hj,AN,he',h⟩
   ·have:=vT (D:=fun j=>q.testBit j) hfr (fun _ h=>h) (i:=i) (by omega) h
    rw[hpi]at this
    cases this
   ·have hji:j≠i:=by rintro rfl;rw[FH]at AN;cases AN
    by_cases hlt:j<i
    ·have:=vU (D:=fun j=>q.testBit j) hfr (fun _ h=>h) (i:=i) (by omega) hlt (tQ j AN) he' h
     rw[hpi]at this
     cases this
    ·have h2:=hfr j e' hj (tQ j AN) he' n y h
     have:=vU (D:=fun j=>q.testBit j) hfr (fun _ h=>h) (i:=j) (by omega) (j:=i) (by omega) CY he hl
     rw[h2]at this
     cases this
 have Sj:((dw D tr s ops.length).sl.any fun x=>x.2.mentions e.d)=false:=by
  rw[List.any_eq_false]
  intro x hx hm
  rcases CU hx with h| ⟨j,e',hj,AN,he',rfl⟩
  ·rw[List.any_eq_false]at hnm
   exact hnm x (pH h) hm
  ·obtain⟨qq,e2,V4,Et,yS,hd2,_,Si,_⟩:=T.one j hj (tQ j AN)
   rw[he']at yS
   simp only[oI]at yS
   subst yS
   obtain⟨pj,ZE,hj0,Rz,_⟩:=iF Si
   by_cases hnil:pj= []
   ·cases wU:e'.v with
    |cond q y=>exact hj0 hnil _ _ wU
    |one y=>simp[wU,SV.mentions]at hm
    |tZ y=>simp[wU,SV.mentions]at hm
   ·obtain⟨y,hy⟩:=(Rz hnil).1
    simp only[hy,SV.mentions,List.any_eq_true]at hm
    obtain⟨z,hz,hzd⟩:=hm
    have hzd:=Nat.eq_of_beq_eq_true hzd
    have h4:=T.path K j hj (tQ j AN) qq pj Et ZE z hz i o CY ho (by rw[hd,hzd]) (fun j=>B.testBit j=true∨D j=true) CV (CV j qq (Or.inr AN) Et)
    have:=N8 CY hi h4
    rw[FH]at this;cases this
 have hdm:e.v.mentions e.d=false:=by
  by_cases hnil:p= []
  ·cases wU:e.v with
   |cond q y=>exact absurd wU (fQ hnil _ _)
   |one y=>rfl
   |tZ y=>rfl
  ·obtain⟨⟨y,hy⟩,_,hne⟩:=fu hnil
   rw[hy]
   simp only[SV.mentions]
   rw[List.any_eq_false]
   intro z hz hb
   exact hne e.d hd z hz (Nat.eq_of_beq_eq_true hb)
 have hD2: ∀j,(fun j=>D j||j==i) j=true→q.testBit j=true:=by
  intro j hj
  simp only[Bool.or_eq_true,beq_iff_eq]at hj
  rcases hj with h|rfl
  ·exact tQ j h
  ·exact CY
 have behind: ∀a' w',Inv ty zb (app (dw D tr s ops.length) e) a' w'→Inv ty zb (dw (fun j=>D j||j==i) tr s ops.length) a' w':=by
  intro a' w' kI
  obtain⟨env,g⟩:=kI.good
  refine⟨by rw[kI.size,o9];show(dw D tr s ops.length).n=s.n;exact o9 _,kI.defers,kI.kept,kI.Ap,env,g.congr ?_ ?_⟩
  ·intro t v hl
   show look ((e.d,e.v)::(dw D tr s ops.length).sl) t=some v
   by_cases ht:t=e.d
   ·subst ht
    rw[ga hi (by simp) he fun j' e2 h1 h2 h3 h4=>uz hi h1 CY (hD2 j' h2) he h3 h4]at hl
    rw[look_eq];exact hl
   ·rw[bg ht]
    by_cases hex: ∃k e',k<ops.length∧D k=true∧tr[k]? =some e'∧e'.d=t
    ·obtain⟨k,e',hk,lD,he',rfl⟩:=hex
     rw[ga hk (by simp[lD]) he' fun j' e2 h1 h2 h3 h4=>uz hk h1 (tQ k lD) (hD2 j' h2) he' h3 h4]at hl
     rw[ga hk lD he' fun j' e2 h1 h2 h3 h4=>uz hk h1 (tQ k lD) (tQ j' h2) he' h3 h4]
     exact hl
    ·rw[jz fun k e' hk lD he' hdt=>by
      simp only[Bool.or_eq_true,beq_iff_eq]at lD
      rcases lD with h|rfl
      ·exact hex ⟨k,e',hk,h,he',hdt⟩
      ·rw[he]at he'
       simp only[oI]at he'
       exact ht (by rw[he',hdt])]at hl
     rw[jz fun k e' hk lD he' hdt=>hex ⟨k,e',hk,lD,he',hdt⟩]
     exact hl
  ·intro n
   show look (dw (fun j=>D j||j==i) tr s ops.length).hp n=look (e.os++(dw D tr s ops.length).hp) n
   cases hl:look e.os n with
   |some x=>
    rw[cg hl]
    exact vU hfr hD2 (Nat.le_refl _) hi (by simp) he hl
   |none=>
    rw[bq hl]
    cases hx:look (dw (fun j=>D j||j==i) tr s ops.length).hp n with
    |some y=>
     rcases gy hx with h| ⟨j,e',hj,AN,he',h⟩
     ·exact(vT hfr tQ (Nat.le_refl _) h).symm
     ·have hji:j≠i:=by
       rintro rfl
       rw[he]at he'
       simp only[oI]at he'
       subst he'
       rw[hl]at h;cases h
      have AN:D j=true:=by
       simp only[Bool.or_eq_true,beq_iff_eq]at AN
       exact AN.resolve_right hji
      exact(vU hfr tQ (Nat.le_refl _) hj AN he' h).symm
    |none=>
     cases hy:look (dw D tr s ops.length).hp n with
     |none=>rfl
     |some y=>
      rcases gy hy with h| ⟨j,e',hj,AN,he',h⟩
      ·rw[vT hfr hD2 (Nat.le_refl _) h]at hx;cases hx
      ·rw[vU hfr hD2 (Nat.le_refl _) hj (by simp[AN]) he' h]at hx;cases hx
 have hput:St.put ⟨(dw D tr s ops.length).n,(dw D tr s ops.length).sl,e.os++(dw D tr s ops.length).hp⟩ o.dst e.v=app (dw D tr s ops.length) e:=by
  rw[hd]
  simp only[St.put,Sj]
  rfl
 by_cases hw:Region.wanted o (yielded ops.toArray a.tmps)=true
 ·have hh:holds a.tmps p:=by
   obtain⟨env,g⟩:=iv.good
   unfold fH at jo
   split at jo
   ·simp at jo;subst jo;intro y hy;simp at hy
   ·rename_i j x hgd
    split at jo
    ·rename_i q Et
     split at jo
     ·rename_i d Lv
      have ZF:=(lM (ops:=ops.toArray) hgd (by simpa using Et) Lv a.tmps).1 hw
      split at jo
      ·simp only[oI]at jo
       subst jo
       intro y hy
       simp at hy
       subst hy
       exact ZF
      ·rename_i p' b hl
       simp only[oI]at jo
       subst jo
       intro y hy
       rcases List.mem_cons.1 hy with rfl|hy
       ·exact ZF
       ·exact(vH g hl ZF).1 y hy
      ·cases jo
     ·cases jo
    ·cases jo
  obtain⟨env,g⟩:=iv.good
  have HX:Compat (dw (fun j=>q.testBit j) tr s i).hp (dw D tr s ops.length).hp:=by
   intro n x y h1 h2
   have h3:=A8 hfr (Nat.le_of_lt hi) (Nat.le_refl _) h1
   have h4:=uP hfr tQ (Nat.le_refl _) h2
   rw[h3]at h4
   simpa using h4
  have hmono:=Ep HX g (by rw[o9,o9]) fN jo hh (fun x hx t hxt=>bI t fun k o2 hk Mt I9 hd2=>by
    have ht:t∈tmpsOf o:=by
     simp only[tmpsOf,List.mem_filterMap]
     exact⟨x,hx,by rw[hxt]⟩
    rcases K.uses i o CY ho t ht k o2 Mt I9 hd2 with h|h|h
    ·exact Or.inl h
    ·exact Or.inr (Or.inl ⟨acE h,N8 Mt hk (aff h)⟩)
    ·refine Or.inr (Or.inr ⟨h.1,?_⟩)
     cases lD:D k with
     |false=>rfl
     |true=>
      have:=uy (D:=fun j=>B.testBit j=true∨D j=true) K.back CV k o2 I9 (CV k o2 (Or.inr lD) I9) i h.2
      have:=N8 CY hi this
      rw[FH]at this;cases this) zc Ma hq
  have:=DS (Q:=Q) C hmono iv (fun p hp=>hv _ VZ CY hi p hp)
  rw[hput]at this
  exact this.mono behind
 ·unfold gT
  rw[if_neg hw]
  have hnil:p≠ []:=by
   rintro rfl
   unfold fH at fN
   split at fN
   ·rename_i hgd;exact hw (by simp[Region.wanted,hgd])
   ·repeat' split at fN
    all_goals simp at fN
  obtain⟨⟨y,hy⟩,hos,_⟩:=fu hnil
  have hnh: ¬holds a.tmps p:=by
   intro hh
   unfold fH at fN
   split at fN
   ·rename_i hgd;exact hw (by simp[Region.wanted,hgd])
   ·rename_i j x hgd
    split at fN
    ·rename_i q Et
     split at fN
     ·rename_i d Lv
      have hdx:(d,x)∈p:=by
       split at fN
       ·simp only[oI]at fN;rw[←fN];simp
       ·simp only[oI]at fN;rw[←fN];simp
       ·cases fN
      exact hw ((lM (ops:=ops.toArray) hgd (by simpa using Et) Lv a.tmps).2 (hh _ hdx))
     ·cases fN
    ·cases fN
  apply behind
  obtain⟨env,g⟩:=iv.good
  have hlt:e.d<a.tmps.size:=by
   unfold mh at hq
   have:ue (dw (fun j=>q.testBit j) tr s i) o.dst=true:=by
    cases ZG:ue (dw (fun j=>q.testBit j) tr s i) o.dst with
    |true=>rfl
    |false=>rw[ZG]at hq;simp at hq
   rw[hd]at this
   rw[iv.size,o9]
   have:=Nat.le_of_ble_eq_true this
   rw[show(dw (fun j=>q.testBit j) tr s i).n=s.n from o9 i]at this
   exact this
  have Sk:=g.put (d:=e.d) hlt (v:=e.v) (u:=undef) (by rw[hy];exact⟨fun hh=>absurd hh hnh,fun _=>rfl⟩) hdm
  refine⟨by rw[gM];exact iv.size,by rw[put_defers];exact iv.defers,iv.kept,iv.Ap,env,?_⟩
  rw[hd]
  have ZH:(dw D tr s ops.length).put (some e.d) e.v=app (dw D tr s ops.length) e:=by
   simp only[St.put,Sj,app,hos]
   rfl
  rw[ZH]at Sk
  exact Sk
end
theorem zv{ops:List Oper}{B q Kp:Nat}{D:Nat→Bool}(tQ: ∀i,D i=true→q.testBit i=true)(Z1: ∀i,D i=true→i<ops.length)(hb: ∀i o,ops[i]? =some o→ ∀j,j∈cC o→j<i)
  (hc: ∀i o,D i=true→ops[i]? =some o→ ∀j,j∈cC o→(B.testBit j=true∨D j=true))(N9: ∀i,q.testBit i=true→Kp.testBit i=true→D i=true):
  ∀(m i d:Nat),i+m=ops.length→(∀j,d.testBit j=(decide (j<i)&&D j))→ ∃d',d'∈EM ops B q Kp m i d∧ ∀j,d'.testBit j=D j
 |0,i,d,him,hd=>by
  refine⟨d,by simp[EM],fun j=> ?_⟩
  rw[hd j]
  cases hj:D j with
  |false=>simp
  |true=>have:=Z1 j hj;simp;omega
 |m+1,i,d,him,hd=>by
  have hstep:D i=false→ ∀j,d.testBit j=(decide (j<i+1)&&D j):=by
   intro FH j
   rw[hd j]
   by_cases hji:j=i
   ·subst hji;simp[FH]
   ·have:decide (j<i)=decide (j<i+1):=by
     apply decide_eq_decide.2;omega
    rw[this]
  simp only[EM]
  split
  ·rename_i hq
   have FH:D i=false:=by
    cases h:D i with
    |false=>rfl
    |true=>rw[tQ i h]at hq;cases hq
   exact zv tQ Z1 hb hc N9 m (i+1) d (by omega) (hstep FH)
  ·rename_i hq
   cases FH:D i with
   |true=>
    have hlt:=Z1 i FH
    have ho:=List.getElem?_eq_getElem hlt
    have hcond:(((ops[i]?).map fun o=>(cC o).all fun j=>B.testBit j||d.testBit j).getD false)=true:=by
     rw[ho]
     simp only[Option.map_some,Option.getD_some,List.all_eq_true,Bool.or_eq_true]
     intro j hj
     rcases hc i _ FH ho j hj with h|h
     ·exact Or.inl h
     ·exact Or.inr (by rw[hd j,h];have:=hb i _ ho j hj;simp[this])
    obtain⟨d',h1,h2⟩:=zv tQ Z1 hb hc N9 m (i+1) (d|||2^i) (by omega) (fun j=>by
     rw[Nat.testBit_or,Nat.testBit_two_pow,hd j]
     by_cases hji:i=j
     ·subst hji;simp[FH]
     ·have:decide (j<i)=decide (j<i+1):=by
       apply decide_eq_decide.2;omega
      simp[hji,this])
    refine⟨d',?_,h2⟩
    rw[hcond]
    exact List.mem_append_left _ h1
   |false=>
    obtain⟨d',h1,h2⟩:=zv tQ Z1 hb hc N9 m (i+1) d (by omega) (hstep FH)
    refine⟨d',List.mem_append_right _ ?_,h2⟩
    split
    ·rename_i hm
     have:=N9 i hq hm
     rw[FH]at this;cases this
    ·exact h1
section
variable{P:Program}{Γ:Nat→TK}{cH:List (Nat×Nat)}{cr:List (Nat×CR)}{ks hs:List Nat}{ops:List Oper}{n0 qs:Nat}
theorem pJ: ∀{c:gE} {s:St} {tr:List TE} {vq acc:List (Nat×List Prop)} {lv:List (List Prop×St)},kf P ty Γ cH cr ks hs ops n0 c s tr vq acc=some lv→ ∀d t sub,(d,t,sub)∈c.N7→
  ∃o vc s2 l1,ops[t]? =some o∧step P ty Γ cH cr ops (Kn d 0 tr s) o=some (vc,s2)∧kf P ty Γ cH cr ks hs ops n0 sub s2 [] [] (Ms t vc (Ko d vq acc))=some l1∧ ∀x,x∈l1→x∈lv
 | .br d0 t0 acG next,s,tr,vq,acc,lv,h,d,t,sub,hm=>by
   simp only[kf]at h
   split at h
   case h_2=>cases h
   rename_i s1 o hs1 ho
   have hs1:=lP hs1
   subst hs1
   split at h
   case h_2=>cases h
   rename_i vc s2 hst
   split at h
   case h_2=>cases h
   rename_i s3 hs3
   have hs3:=lP hs3
   subst hs3
   split at h
   case h_2=>cases h
   rename_i l1 l2 h1 h2
   simp only[oI]at h
   rw[dM]at h
   subst h
   simp only[gE.N7,List.mem_cons,pI]at hm
   rcases hm with⟨rfl,rfl,rfl⟩|hm
   ·exact⟨o,vc,_,l1,ho,hst,h1,fun x hx=>List.mem_append_left _ hx⟩
   ·obtain⟨o',ZC,s',l',p1,p2,p3,p4⟩:=pJ h2 d t sub hm
    exact⟨o',ZC,s',l',p1,p2,p3,fun x hx=>List.mem_append_right _ (p4 x hx)⟩
 | .last _,_,_,_,_,_,_,_,_,_,hm=>by simp[gE.N7]at hm
 | .ph _ _,_,_,_,_,_,_,_,_,_,hm=>by simp[gE.N7]at hm
 | .nil,_,_,_,_,_,_,_,_,_,hm=>by simp[gE.N7]at hm
theorem qG: ∀{c:gE} {s:St} {tr:List TE} {vq acc:List (Nat×List Prop)} {lv:List (List Prop×St)},kf P ty Γ cH cr ks hs ops n0 c s tr vq acc=some lv→ ∀x,x∈lv→ ∀y,y∈acc→ ∀p,p∈y.2→p∈x.1
 | .last q,s,tr,vq,acc,lv,h,x,hx,y,hy,p,hp=>by
   simp only[kf]at h
   repeat' split at h
   all_goals first
    | (cases h;done)
    |skip
   rename_i hf _ _ _ _
   simp only[oI]at h
   subst h
   rw[List.mem_singleton]at hx
   subst hx
   exact A6 hf y (qF.2 (Or.inr hy)) p hp
 | .ph q c,s,tr,vq,acc,lv,h,x,hx,y,hy,p,hp=>by
   simp only[kf]at h
   split at h
   ·exact qG h x hx y hy p hp
   ·cases h
 | .br d0 t0 acG next,s,tr,vq,acc,lv,h,x,hx,y,hy,p,hp=>by
   simp only[kf]at h
   split at h
   case h_2=>cases h
   split at h
   case h_2=>cases h
   split at h
   case h_2=>cases h
   split at h
   case h_2=>cases h
   rename_i l1 l2 h1 h2
   simp only[oI]at h
   rw[dM]at h
   subst h
   rcases List.mem_append.1 hx with hx|hx
   ·exact qG h1 x hx y (uO.2 (Or.inr (qF.2 (Or.inr hy)))) p hp
   ·exact qG h2 x hx y hy p hp
 | .nil,_,_,_,_,_,h,x,hx,_,_,_,_=>by
   simp only[kf,oI]at h
   subst h
   cases hx
theorem vV{n:Nat}: ∀{c:gE} {B:Nat},QA ops (GA ops) (idx 0 ops) qs n B c=true→ ∀d t sub,(d,t,sub)∈c.N7→sub.SZ=true∧t<n∧QA ops (GA ops) (idx 0 ops) qs n (B|||d|||2^t) sub=true∧SizeOf.sizeOf sub<SizeOf.sizeOf c
 | .br d0 t0 acG next,B,h,d,t,sub,hm=>by
   simp only[QA,Bool.and_eq_true]at h
   simp only[gE.N7,List.mem_cons,pI]at hm
   rcases hm with⟨rfl,rfl,rfl⟩|hm
   ·exact⟨h.1.1.1,Nat.le_of_ble_eq_true h.1.1.2,h.1.2,by simp only[gE.br.sizeOf_spec];omega⟩
   ·obtain⟨p1,p2,p3,p4⟩:=vV h.2 d t sub hm
    exact⟨p1,p2,p3,by simp only[gE.br.sizeOf_spec];omega⟩
 | .last _,_,_,_,_,_,hm=>by simp[gE.N7]at hm
 | .ph _ _,_,_,_,_,_,hm=>by simp[gE.N7]at hm
 | .nil,_,_,_,_,_,hm=>by simp[gE.N7]at hm
theorem GM{B q:Nat}{c:gE}(h:Ic ops (GA ops) ops.length B q c=true)(K:ZX ops qs B q){D:Nat→Bool}(tQ: ∀i,D i=true→q.testBit i=true)(Z1: ∀i,D i=true→i<ops.length)
  (CV: ∀i o,(B.testBit i=true∨D i=true)→ops[i]? =some o→ ∀j,j∈cC o→(B.testBit j=true∨D j=true)){t:Nat}{o:Oper}(ho:ops[t]? =some o)(ht:B.testBit t=false)(hqt:q.testBit t=false)(hE: ∀j,j∈cC o→(B.testBit j=true∨D j=true)):
  ∃d sub,(d,t,sub)∈c.N7∧ ∀i,d.testBit i=D i:=by
 have htl:t<ops.length:=(List.getElem?_eq_some_iff.1 ho).1
 simp only[Ic,List.all_eq_true,List.mem_range,Bool.or_eq_true]at h
 obtain⟨d,h1,h2⟩:=zv (B:=B) (q:=q) (Kp:=(GA ops).getD t 0) tQ Z1 K.back (fun i o hi=>CV i o (Or.inr hi)) (fun i CY hm=>by
  have:=uy (D:=fun j=>B.testBit j=true∨D j=true) K.back CV t o ho hE i hm
  rcases this with h|h
  ·have hil:i<ops.length:=by
    have:=uy (D:=fun j=>j<t) K.back (fun a b hab hb j hj=>Nat.lt_trans (K.back a b hb j hj) hab) t o ho (fun j hj=>K.back t o ho j hj) _ hm
    omega
   rw[K.iB i hil CY]at h;cases h
  ·exact h) ops.length 0 0 (by omega) (fun j=>by simp)
 rcases h t htl with(h3|h3)|h3
 ·rw[ht]at h3;cases h3
 ·rw[hqt]at h3;cases h3
 ·have h4:=h3 d h1
  simp only[Bool.not_eq_true',List.any_eq_true,Bool.and_eq_true]at h4
  rcases h4 with h4| ⟨⟨d',t',sub⟩,h5,h6,h7⟩
  ·exfalso
   rw[ho]at h4
   simp only[Option.map_some,Option.getD_some]at h4
   have:((cC o).all fun j=>B.testBit j||d.testBit j)=true:=by
    rw[List.all_eq_true]
    intro j hj
    rw[Bool.or_eq_true,h2 j]
    exact hE j hj
   rw[this]at h4;cases h4
  ·have h6:=Nat.eq_of_beq_eq_true h6
   have h7:=Nat.eq_of_beq_eq_true h7
   simp only at h6 h7
   subst h6;subst h7
   exact⟨d',sub,h5,h2⟩
theorem Oa{B q:Nat}{c:gE}(afg:Ic ops (GA ops) ops.length B q c=true)(K:ZX ops qs B q)(Kq: ∀i o,B.testBit i=true→ops[i]? =some o→ ∀j,j∈cC o→B.testBit j=true)
  (Si: ∀i o,q.testBit i=true→ops[i]? =some o→ ∀j,j∈cC o→(B.testBit j=true∨q.testBit j=true))(hnot:((List.range ops.length).all fun i=>B.testBit i||q.testBit i)=false):
  ∃d t sub,(d,t,sub)∈c.N7∧(∀i,d.testBit i=(q.testBit i&&decide (i<ops.length)))∧ ∀o,ops[t]? =some o→ ∀j,j∈cC o→(B.testBit j=true∨d.testBit j=true):=by
 have: ∃i,i<ops.length∧B.testBit i=false∧q.testBit i=false∧ ∀j,j<i→B.testBit j=true∨q.testBit j=true:=by
  rw[List.all_eq_false]at hnot
  obtain⟨i,hi,hn⟩:=hnot
  rw[List.mem_range]at hi
  simp only[Bool.or_eq_true,not_or,Bool.not_eq_true]at hn
  induction i using Nat.strongRecOn with
  |_ i ih=>
   by_cases hl: ∀j,j<i→B.testBit j=true∨q.testBit j=true
   ·exact⟨i,hi,hn.1,hn.2,hl⟩
   ·have: ∃j,j<i∧B.testBit j=false∧q.testBit j=false:=by
     apply Classical.byContradiction
     intro hno
     apply hl
     intro j hj
     cases hb:B.testBit j with
     |true=>exact Or.inl rfl
     |false=>
      cases hq:q.testBit j with
      |true=>exact Or.inr rfl
      |false=>exact absurd ⟨j,hj,hb,hq⟩ hno
    obtain⟨j,hj,h1,h2⟩:=this
    exact ih j hj (by omega) ⟨h1,h2⟩
 obtain⟨i,hi,h1,h2,h3⟩:=this
 have ho:=List.getElem?_eq_getElem hi
 obtain⟨d,sub,h4,h5⟩:=GM (D:=fun j=>q.testBit j&&decide (j<ops.length)) afg K (fun j hj=>by simp at hj;exact hj.1) (fun j hj=>by simp at hj;exact hj.2)
  (fun a b hab hb j hj=>by
   have hal:a<ops.length:=(List.getElem?_eq_some_iff.1 hb).1
   have hjl:j<ops.length:=Nat.lt_trans (K.back a b hb j hj) hal
   rcases hab with h|h
   ·exact Or.inl (Kq a b h hb j hj)
   ·simp at h
    rcases Si a b h.1 hb j hj with h|h
    ·exact Or.inl h
    ·exact Or.inr (by simp[h,hjl])) ho h1 h2 (fun j hj=>by
   have hji:=K.back i _ ho j hj
   rcases h3 j hji with h|h
   ·exact Or.inl h
   ·exact Or.inr (by simp[h];omega))
 refine⟨d,i,sub,h4,h5,fun o ho' j hj=> ?_⟩
 have hji:=K.back i _ ho' j hj
 rcases h3 j hji with h|h
 ·exact Or.inl h
 ·exact Or.inr (by rw[h5 j,h];simp;omega)
theorem Ig{B d t q:Nat}(K:ZX ops qs B q)(Kq: ∀i o,B.testBit i=true→ops[i]? =some o→ ∀j,j∈cC o→B.testBit j=true)(hd: ∀i o,d.testBit i=true→ops[i]? =some o→ ∀j,j∈cC o→(B.testBit j=true∨d.testBit j=true))
  (ht: ∀o,ops[t]? =some o→ ∀j,j∈cC o→(B.testBit j=true∨d.testBit j=true)): ∀i o,(B|||d|||2^t).testBit i=true→ops[i]? =some o→ ∀j,j∈cC o→(B|||d|||2^t).testBit j=true:=by
 intro i o hi ho j hj
 simp only[Nat.testBit_or,Nat.testBit_two_pow,Bool.or_eq_true,decide_eq_true_eq]at hi ⊢
 rcases hi with(h|h)|h
 ·exact Or.inl (Or.inl (Kq i o h ho j hj))
 ·exact Or.inl (hd i o h ho j hj)
 ·subst h;exact Or.inl (ht o ho j hj)
theorem EP: ∀(N:Nat) (p:gE),SizeOf.sizeOf p≤N→p.SZ=true→ ∀(B:Nat) (s:St) (tr:List TE) (vq acc:List (Nat×List Prop)) (lv:List (List Prop×St)),(∀i o,ops[i]? =some o→ ∀j,j∈cC o→j<i)→(∀i o,B.testBit i=true→ops[i]? =some o→ ∀j,j∈cC o→B.testBit j=true)→
  QA ops (GA ops) (idx 0 ops) qs ops.length B p=true→kf P ty Γ cH cr ks hs ops n0 p s tr vq acc=some lv→lv≠ []
 |N, .last q,_,_,B,s,tr,vq,acc,lv,hb,Kq,hok,h=>by
  simp only[kf]at h
  repeat' split at h
  all_goals first
   | (cases h;done)
   |skip
  simp only[oI]at h
  rw[←h];simp
 |0, .ph q c,hN,_,_,_,_,_,_,_,_,_,_,_=>by simp only[gE.ph.sizeOf_spec]at hN;omega
 |N+1, .ph q c,hN,_,B,s,tr,vq,acc,lv,hb,Kq,hok,h=>by
  simp only[QA,Bool.and_eq_true,Bool.not_eq_true']at hok
  have K:=Ie hb hok.1.1.1
  obtain⟨d,t,sub,hm,hd,ht⟩:=Oa hok.1.1.2 K Kq K.clq hok.1.2
  simp only[kf]at h
  split at h
  case h_2=>cases h
  rename_i tr' vq' hr
  obtain⟨o,vc,s2,l1,h1,h2,h3,h4⟩:=pJ h d t sub hm
  obtain⟨p1,p2,p3,p4⟩:=vV hok.2 d t sub hm
  have hsz:SizeOf.sizeOf sub≤N:=by simp only[gE.ph.sizeOf_spec]at hN;omega
  have:=EP N sub hsz p1 (B|||d|||2^t) s2 [] [] _ l1 hb (Ig K Kq (fun i o hi ho j hj=>by
   rw[hd i]at hi
   simp only[Bool.and_eq_true,decide_eq_true_eq]at hi
   rcases K.clq i o hi.1 ho j hj with h|h
   ·exact Or.inl h
   ·exact Or.inr (by rw[hd j,h];have:=K.back i o ho j hj;simp;omega)) ht) p3 h3
  intro hnil
  cases l1 with
  |nil=>exact this rfl
  |cons x r=>have:=h4 x (by simp);rw[hnil]at this;cases this
 |_, .br _ _ _ _,_,hp,_,_,_,_,_,_,_,_,_,_=>by cases hp
 |_, .nil,_,hp,_,_,_,_,_,_,_,_,_,_=>by cases hp
variable{zb:cK}{Q:Exit→Act→World→Prop}
theorem GN(X:Ctx P ty Γ){B q:Nat}{s:St}{tr:List TE}{vq:List (Nat×List Prop)}(T:Vo Γ (I6 P ty) (Sound ty P) cH cr ops q s tr vq)(K:ZX ops qs B q)(hv: ∀x,x∈vq→q.testBit x.1=true→x.1<ops.length→ ∀p,p∈x.2→p)(Kq: ∀i o,B.testBit i=true→ops[i]? =some o→ ∀j,j∈cC o→B.testBit j=true)
  (fin: ∀a w,(∀i,i<ops.length→B.testBit i=true∨q.testBit i=true)→Inv ty zb (dw (fun j=>q.testBit j) tr s ops.length) a w→Q .normal a w)
  (iU: ∀(fuel:Nat) (D:Nat→Bool) (listed:Array Bool) (i:Nat) (o:Oper) (a:Act) (w:World),listed.size=ops.length→(∀j,j<ops.length→listed.getD j false=(B.testBit j||D j))→(∀i,D i=true→q.testBit i=true)→(∀i,D i=true→i<ops.length)→
   (∀i o,(B.testBit i=true∨D i=true)→ops[i]? =some o→ ∀j,j∈cC o→(B.testBit j=true∨D j=true))→ops[i]? =some o→B.testBit i=false→q.testBit i=false→(∀j,j∈cC o→(B.testBit j=true∨D j=true))→cnt ops.length (fun j=>(listed.setIfInBounds i true).getD j false)≤fuel→
   Inv ty zb (dw D tr s ops.length) a w→gT P ops.toArray o a w (wpAny P .any ops.toArray Q fuel (listed.setIfInBounds i true)) Q):
  ∀(fuel:Nat) (D:Nat→Bool) (listed:Array Bool) (a:Act) (w:World),listed.size=ops.length→(∀j,j<ops.length→listed.getD j false=(B.testBit j||D j))→(∀i,D i=true→q.testBit i=true)→(∀i,D i=true→i<ops.length)→
   (∀i o,(B.testBit i=true∨D i=true)→ops[i]? =some o→ ∀j,j∈cC o→(B.testBit j=true∨D j=true))→cnt ops.length (fun j=>listed.getD j false)≤fuel→Inv ty zb (dw D tr s ops.length) a w→wpAny P .any ops.toArray Q fuel listed a w:=by
 have all: ∀{D:Nat→Bool} {listed:Array Bool} {a:Act} {w:World},listed.size=ops.length→(∀j,j<ops.length→listed.getD j false=(B.testBit j||D j))→(∀i,D i=true→q.testBit i=true)→Region.ready .any ops.toArray listed= []→Inv ty zb (dw D tr s ops.length) a w→Q .normal a w:=by
  intro D listed a w hl hL tQ hnil iv
  have PO: ∀i,i<ops.length→listed.getD i false=true:=by
   intro i
   induction i using Nat.strongRecOn with
   |_ i ih=>
    intro hi
    cases hd:listed.getD i false with
    |true=>rfl
    |false=>
     have:i∈Region.ready .any ops.toArray listed:=(j8 hl).2 ⟨ops[i],List.getElem?_eq_getElem hi,hd,fun j hj=>by
      have:=K.back i _ (List.getElem?_eq_getElem hi) j hj
      exact ih j this (by omega)⟩
     rw[hnil]at this
     cases this
  have hBD: ∀i,i<ops.length→B.testBit i=true∨D i=true:=by
   intro i hi
   have:=PO i hi
   rw[hL i hi,Bool.or_eq_true]at this
   exact this
  refine fin a w (fun i hi=>(hBD i hi).imp id (tQ i)) ?_
  rw[←A7 (D:=D) fun i hi=> ?_]
  ·exact iv
  ·cases hq:q.testBit i with
   |false=>
    cases hd:D i with
    |false=>rfl
    |true=>rw[tQ i hd]at hq;cases hq
   |true=>
    rcases hBD i hi with h|h
    ·rw[K.iB i hi hq]at h;cases h
    ·exact h
 intro fuel
 induction fuel with
 |zero=>
  intro D listed a w hl hL tQ X5 CV hf iv
  have hz:=JZ (by omega:cnt ops.length (fun i=>listed.getD i false)=0)
  have hnil:Region.ready .any ops.toArray listed= []:=by
   apply List.eq_nil_iff_forall_not_mem.2
   intro i hi
   obtain⟨o,ho,h1,_⟩:=(j8 hl).1 hi
   rw[hz i (List.getElem?_eq_some_iff.1 ho).1]at h1
   cases h1
  exact⟨hnil,all hl hL tQ hnil iv⟩
 |succ fuel ih=>
  intro D listed a w hl hL tQ X5 CV hf iv
  refine⟨fun hnil=>all hl hL tQ hnil iv,fun i hi=> ?_⟩
  obtain⟨o,ho,hif,hE0⟩:=(j8 hl).1 hi
  have hin:=(List.getElem?_eq_some_iff.1 ho).1
  have hE: ∀j,j∈cC o→(B.testBit j=true∨D j=true):=by
   intro j hj
   have:=hE0 j hj
   rw[hL j (by have:=K.back i o ho j hj;omega),Bool.or_eq_true]at this
   exact this
  rw[hL i hin,Bool.or_eq_false_iff]at hif
  obtain⟨hBi,FH⟩:=hif
  have PR: ∀j,(listed.setIfInBounds i true).getD j false=(listed.getD j false||j==i):=fun j=>ze (by omega)
  have Wm:(fun j=>(listed.setIfInBounds i true).getD j false)=fun j=>listed.getD j false||j==i:=funext PR
  have WV:cnt ops.length (fun j=>(listed.setIfInBounds i true).getD j false)≤fuel:=by
   rw[Wm]
   have:=NU (D:=fun i=>listed.getD i false) hin (by rw[hL i hin,hBi,FH];rfl)
   omega
  unfold wpOp
  rw[List.getElem?_toArray,ho]
  dsimp only
  cases CY:q.testBit i with
  |true=>
   have hstep:=Mu (Q:=Q) X.kind T K hv tQ X5 CV CY FH ho hE iv
   refine gT.mono (fun a' w' kI=>ih (fun j=>D j||j==i) (listed.setIfInBounds i true) a' w' (by simpa using hl) (fun j hj=> ?_) (fun j hj=> ?_) (fun j hj=> ?_) (fun a b hab hb j hj=> ?_) WV kI) hstep
   ·rw[PR,hL j hj,Bool.or_assoc]
   ·simp only[Bool.or_eq_true,beq_iff_eq]at hj
    rcases hj with h|rfl
    ·exact tQ j h
    ·exact CY
   ·simp only[Bool.or_eq_true,beq_iff_eq]at hj
    rcases hj with h|rfl
    ·exact X5 j h
    ·exact hin
   ·have up: ∀{x},(B.testBit x=true∨D x=true)→(B.testBit x=true∨(D x||x==i)=true):=fun h=>h.imp id (fun h=>by simp[h])
    simp only[Bool.or_eq_true,beq_iff_eq]at hab
    rcases hab with h|h|rfl
    ·exact up (CV a b (Or.inl h) hb j hj)
    ·exact up (CV a b (Or.inr h) hb j hj)
    ·rw[ho]at hb
     simp only[oI]at hb
     subst hb
     exact up (hE j hj)
  |false=>exact iU fuel D listed i o a w hl hL tQ X5 CV ho hBi CY hE WV iv
theorem Kr(X:Ctx P ty Γ)(hb: ∀i o,ops[i]? =some o→ ∀j,j∈cC o→j<i): ∀(N:Nat) (p:gE),SizeOf.sizeOf p≤N→p.SZ=true→ ∀(B:Nat) (s:St) (tr0:List TE) (vq0 acc:List (Nat×List Prop)) (lv:List (List Prop×St)),
  (∀i o,B.testBit i=true→ops[i]? =some o→ ∀j,j∈cC o→B.testBit j=true)→QA ops (GA ops) (idx 0 ops) qs ops.length B p=true→kf P ty Γ cH cr ks hs ops n0 p s tr0 vq0 acc=some lv→
  (∀x,x∈lv→(∀q,q∈x.1→q)∧ ∀a w,Inv ty zb x.2 a w→Q .normal a w)→
  ∀(fuel:Nat) (listed:Array Bool) (a:Act) (w:World),listed.size=ops.length→(∀j,j<ops.length→listed.getD j false=B.testBit j)→cnt ops.length (fun j=>listed.getD j false)≤fuel→Inv ty zb s a w→wpAny P .any ops.toArray Q fuel listed a w
 |N, .last q,hN,_,B,s,tr0,vq0,acc,lv,Kq,hok,h,hlv,fuel,listed,a,w,hl,hL,hf,iv=>by
  simp only[QA,Bool.and_eq_true]at hok
  have K:=Ie hb hok.1
  simp only[kf]at h
  split at h
  case h_2=>cases h
  rename_i tr vq hr
  split at h
  case h_2=>cases h
  rename_i n sl1 fu hs1
  have hs1:=lP hs1
  split at h
  case h_2=>cases h
  rename_i sl hp vc h1 h2 h3
  split at h
  case h_2=>cases h
  rename_i yx hn
  simp only[oI]at h
  have T:=Vo.of hr
  obtain⟨hx1,wU⟩:=hlv (vc,⟨n0,sl,hp⟩) (by rw[←h];simp)
  have hmk:dw (fun j=>q.testBit j) tr s ops.length=⟨n,sl1,fu⟩:=by
   rw[hs1,zu,T.len]
   congr 1
   funext j;rw[Nat.zero_add]
  refine GN X T K (fun x hx hq _ p hp=>hx1 p (A6 h3 x (qF.2 (Or.inl ⟨hx,hq⟩)) p hp)) Kq (fun a w _ kI=> ?_) (fun fuel D listed i o a w _ _ _ _ _ ho hBi CY _ _ _=> ?_) fuel (fun _=>false) listed a w hl (fun j hj=>by rw[hL j hj,Bool.or_false]) (by simp) (by simp) (fun i o hi ho j hj=>by
    rcases hi with h|h
    ·exact Or.inl (Kq i o h ho j hj)
    ·cases h) hf (by rw[EN];exact iv)
  ·rw[hmk]at kI
   exact wU a w (kI.weaken (Nat.eq_of_beq_eq_true hn).symm (iC h1) (iD h2) yx)
  ·exfalso
   have hil:=(List.getElem?_eq_some_iff.1 ho).1
   have:=List.all_eq_true.1 hok.2 i (List.mem_range.2 hil)
   rw[hBi,CY]at this;cases this
 |0, .ph q c,hN,_,_,_,_,_,_,_,_,_,_,_,_,_,_,_,_,_,_,_=>by simp only[gE.ph.sizeOf_spec]at hN;omega
 |N+1, .ph q c,hN,_,B,s,tr0,vq0,acc,lv,Kq,hok,h,hlv,fuel,listed,a,w,hl,hL,hf,iv=>by
  simp only[QA,Bool.and_eq_true,Bool.not_eq_true']at hok
  have K:=Ie hb hok.1.1.1
  obtain⟨d,t,sub,hm,hd,ht⟩:=Oa hok.1.1.2 K Kq K.clq hok.1.2
  simp only[kf]at h
  split at h
  case h_2=>cases h
  rename_i tr vq hr
  have T:=Vo.of hr
  have hv: ∀x,x∈vq→q.testBit x.1=true→x.1<ops.length→ ∀p,p∈x.2→p:=by
   obtain⟨o,vc,s2,l1,h1,h2,h3,h4⟩:=pJ h d t sub hm
   obtain⟨p1,p2,p3,p4⟩:=vV hok.2 d t sub hm
   have hsz:SizeOf.sizeOf sub≤N:=by simp only[gE.ph.sizeOf_spec]at hN;omega
   have hne:=EP N sub hsz p1 (B|||d|||2^t) s2 [] [] _ l1 hb (Ig K Kq (fun i o hi ho j hj=>by
    rw[hd i]at hi
    simp only[Bool.and_eq_true,decide_eq_true_eq]at hi
    rcases K.clq i o hi.1 ho j hj with h|h
    ·exact Or.inl h
    ·exact Or.inr (by rw[hd j,h];have:=K.back i o ho j hj;simp;omega)) ht) p3 h3
   cases l1 with
   |nil=>exact absurd rfl hne
   |cons x r=>
    intro y hy hq hyl p hp
    exact(hlv x (h4 x (by simp))).1 p (qG h3 x (by simp) y (uO.2 (Or.inr (qF.2 (Or.inl ⟨hy,by rw[hd y.1,hq];simp[hyl]⟩)))) p hp)
  refine GN X T K hv Kq (fun a w hall _=> ?_) (fun fuel D listed i o a w hl hL tQ X5 CV ho hBi CY hE WV kI=> ?_) fuel (fun _=>false) listed a w hl (fun j hj=>by rw[hL j hj,Bool.or_false]) (by simp) (by simp) (fun i o hi ho j hj=>by
    rcases hi with h|h
    ·exact Or.inl (Kq i o h ho j hj)
    ·cases h) hf (by rw[EN];exact iv)
  ·exfalso
   have:((List.range ops.length).all fun i=>B.testBit i||q.testBit i)=true:=by
    rw[List.all_eq_true]
    intro i hi
    rw[Bool.or_eq_true]
    exact hall i (List.mem_range.1 hi)
   rw[hok.1.2]at this;cases this
  ·obtain⟨d,sub,hm,hd⟩:=GM hok.1.1.2 K tQ X5 CV ho hBi CY hE
   obtain⟨o',vc,s2,l1,h1,h2,h3,h4⟩:=pJ h d i sub hm
   rw[ho]at h1
   simp only[oI]at h1
   subst h1
   obtain⟨p1,p2,p3,p4⟩:=vV hok.2 d i sub hm
   have hsz:SizeOf.sizeOf sub≤N:=by simp only[gE.ph.sizeOf_spec]at hN;omega
   have hmk:Kn d 0 tr s=dw D tr s ops.length:=by
    rw[zu,T.len]
    exact A7 fun j _=>by rw[Nat.zero_add];exact hd j
   rw[hmk]at h2
   have acI:=Ig (d:=d) (t:=i) K Kq (fun i o hi ho j hj=>by
    rw[hd i]at hi
    rw[hd j]
    exact CV i o (Or.inr hi) ho j hj) (fun o2 I9 j hj=>by
    rw[ho]at I9
    simp only[oI]at I9
    subst I9
    rw[hd j]
    exact hE j hj)
   have hne:=EP N sub hsz p1 (B|||d|||2^i) s2 [] [] _ l1 hb acI p3 h3
   have VZ: ∀p,p∈vc→p:=by
    cases l1 with
    |nil=>exact absurd rfl hne
    |cons x r=>
     intro p hp
     exact(hlv x (h4 x (by simp))).1 p (qG h3 x (by simp) (i,vc) (uO.2 (Or.inl rfl)) p hp)
   have hstep:=rP (Q:=Q) X.kind X.one h2 kI VZ
   refine gT.mono (fun a' w' iv2=>Kr X hb N sub hsz p1 (B|||d|||2^i) s2 [] [] _ l1 acI p3 h3 (fun x hx=>hlv x (h4 x hx)) fuel (listed.setIfInBounds i true) a' w' (by simpa using hl) (fun j hj=> ?_) WV iv2) hstep
   have hin:=(List.getElem?_eq_some_iff.1 ho).1
   rw[ze (by omega),hL j hj]
   simp only[Nat.testBit_or,Nat.testBit_two_pow,hd j]
   by_cases hji:j=i
   ·subst hji;simp
   ·have: ¬i=j:=fun e=>hji e.symm
    simp[hji,this]
 |_, .br _ _ _ _,_,hp,_,_,_,_,_,_,_,_,_,_,_,_,_,_,_,_,_,_=>by cases hp
 |_, .nil,_,hp,_,_,_,_,_,_,_,_,_,_,_,_,_,_,_,_,_,_=>by cases hp
end
def GO(x:List Prop×St):List (List Prop×St)→Prop
 | []=>True
 |y::r=>y=x∧GO x r
theorem GO.out{x:List Prop×St}: ∀{l:List (List Prop×St)},GO x l→ ∀y,y∈l→y=x
 |_::_,h,y,hy=>by
  rcases List.mem_cons.1 hy with rfl|hy
  ·exact h.1
  ·exact GO.out h.2 y hy
section
variable{P:Program}{Γ:Nat→TK}{zb:cK}{Q:Post}{st:St}
theorem S0(X:Ctx P ty Γ)(cH:List (Nat×Nat))(cr:List (Nat×CR))(ks hs:List Nat)(qs:Nat)(pl:gE){id:Nat}{ops:List Oper}{vc:List Prop}{st':St}{rest:List (List Prop×St)}(hm:P.follows .mixedOrders=true)(hc:WU ops qs pl=true)(h:kf P ty Γ cH cr ks hs ops st.n pl st [] [] []=some ((vc,st')::rest))(he:GO (vc,st') rest)(hv:lB vc)(k:Q .normal st'):
  W P ty zb (.region id ops.toArray true) Q st:=by
 intro a w iv
 simp only[WU,Bool.and_eq_true]at hc
 have hb:=acC hc.1.1
 refine wp_region_any hm ?_
 have hz: ∀i,(Array.replicate ops.toArray.size false).getD i false=false:=by
  intro i
  rw[Array.getD_eq_getD_getElem?,Array.getElem?_replicate]
  split<;>rfl
 refine Kr (zb:=zb) (Q:=Ee ty zb Q) X hb _ pl (Nat.le_refl _) hc.1.2 0 st [] [] [] _ (fun i o hi=>by simp at hi) hc.2 h (fun x hx=> ?_) _ _ a _ (by simp) (fun j hj=>by rw[hz];simp) ?_ ?_
 ·have hx:x=(vc,st'):=by
   rcases List.mem_cons.1 hx with rfl|hx
   ·rfl
   ·exact he.out x hx
  subst hx
  exact⟨hv.out,fun a w kI=>⟨st',kI,k⟩⟩
 ·unfold cnt
  refine Nat.le_trans (List.length_filter_le _ _) ?_
  simp
 ·obtain⟨env,g⟩:=iv.good
  have hdr:Below w.heap.size w w.drew:=(Below.refl _ _).drew
  refine⟨iv.size,iv.defers,iv.kept.trans (jN hdr iv.kept.size),iv.Ap,env,?_⟩
  have:=g.grow (os:= []) (w':=w.drew) (env':=env) iv.kept.size rfl (lu.none hdr)
  exact this
end
section
variable{P:Program}{Γ:Nat→TK}{zb:cK}{Q:Post}{st:St}
theorem S2(X:Ctx P ty Γ)(cH:List (Nat×Nat))(cr:List (Nat×CR))(ks hs:List Nat)(qs:Nat)(pl:gE)(nw:Nat){id:Nat}{ops:List Oper}{vc:List Prop}{st':St}(hm:P.follows .mixedOrders=true)(hc:WU ops qs pl=true)(_h0:G.Vm P ty Γ cH cr ks hs ops st=some (vc,st'))(h:kf P ty Γ cH cr ks hs ops st.n pl st [] [] []=some ((vc,st')::List.replicate nw (vc,st')))(hv:lB vc)(k:Q .normal st'):
  W P ty zb (.region id ops.toArray true) Q st:=by
 refine S0 X cH cr ks hs qs pl hm hc h ?_ hv k
 have: ∀n,GO (vc,st') (List.replicate n (vc,st')):=by
  intro n
  induction n with
  |zero=>trivial
  |succ n ih=>exact⟨rfl,ih⟩
 exact this nw
def hasB(B:Nat)(es:List Nat):Bool:=es.all fun j=>B.testBit j
def mkQ(B qs:Nat):List (Nat×List Nat)→Nat→Nat
 | [],q=>q
 | (i,es)::r,q=>match !B.testBit i&&qs.testBit i&&hasB (B|||q) es with
   |true=>mkQ B qs r (q|||2^i)
   |false=>mkQ B qs r q
def enD(B q clt:Nat):List (Nat×List Nat)→Nat→List Nat
 | [],d=> [d]
 | (i,es)::r,d=>match q.testBit i with
   |false=>enD B q clt r d
   |true=>(match hasB (B|||d) es with|true=>enD B q clt r (d|||2^i)|false=> [])++(match clt.testBit i with|true=> []|false=>enD B q clt r d)
def mkB(f:Nat→gE)(B q:Nat)(E:List (Nat×List Nat))(cl:List Nat):List (Nat×List Nat)→gE
 | []=> .nil
 | (t,es)::r=>match(B|||q).testBit t with
   |true=>mkB f B q E cl r
   |false=>((enD B q (cl.getD t 0) E 0).filter fun d=>hasB (B|||d) es).foldr (fun d p=> .br d t (f (B|||d|||2^t)) p) (mkB f B q E cl r)
def mkP(E:List (Nat×List Nat))(cl:List Nat)(qs full:Nat):Nat→Nat→gE
 |0,_=> .nil
 |k+1,B=>match mkQ B qs E 0 with
  |q=>match Nat.beq (B|||q) full with
   |true=> .last q
   |false=> .ph q (mkB (mkP E cl qs full k) B q E cl E)
def Mv(ops:List Oper)(qs:Nat):gE:=mkP ((idx 0 ops).map fun e=>(e.1,cC e.2)) (GA ops) qs (2^ops.length-1) (ops.length+1) 0
theorem bu(X:Ctx P ty Γ)(cH:List (Nat×Nat))(cr:List (Nat×CR))(ks hs:List Nat)(qs:Nat)(nw:Nat){id:Nat}{ops:List Oper}{vc:List Prop}{st':St}(hm:P.follows .mixedOrders=true)(hc:WU ops qs (Mv ops qs)=true)(h0:G.Vm P ty Γ cH cr ks hs ops st=some (vc,st'))(h:kf P ty Γ cH cr ks hs ops st.n (Mv ops qs) st [] [] []=some ((vc,st')::List.replicate nw (vc,st')))(hv:lB vc)(k:Q .normal st'):
  W P ty zb (.region id ops.toArray true) Q st:=S2 X cH cr ks hs qs (Mv ops qs) nw hm hc h0 h hv k
end
end
section
variable{ty:Tag→Nat}
def KG(st:St)(n i:Nat):Option St:=match look st.hp n with
 |some (.box c)=>match yw c i with
  |some (.own m)=>match look st.hp m with
   |some (.arr t l)=>match Zw ((n, .box (c.set i (.vw m none t l)))::st.hp.filter fun e=> !Nat.beq e.1 n)with
    |some hp=>some ⟨st.n,st.sl,hp⟩
    |none=>none
   |_=>none
  |_=>none
 |_=>none
theorem k9{α:Type}{hp:List (Nat×α)}{n m:Nat}(h:m≠n):look (hp.filter fun e=> !Nat.beq e.1 n) m=look hp m:=by
 induction hp with
 |nil=>rfl
 |cons e r ih=>
  obtain⟨j,x⟩:=e
  by_cases hj:j=n
  ·subst hj
   rw[List.filter_cons_of_neg (by simp),ih,bg h]
  ·have:Nat.beq j n=false:=by
    cases hb:Nat.beq j n with
    |false=>rfl
    |true=>exact absurd (Nat.eq_of_beq_eq_true hb) hj
   rw[List.filter_cons_of_pos (by simp[this])]
   by_cases hm:m=j
   ·subst hm;rw[look_eq,look_eq]
   ·rw[bg hm,bg hm,ih]
theorem bN.set{α β:Type}{R:α→β→Prop}: ∀{as:List α} {bs:List β} {i:Nat} {x:α},bN R as bs→(∀y,bs[i]? =some y→R x y)→bN R (as.set i x) bs
 | [],[],_,_,_,_=>trivial
 |a::as,b::bs,0,x,h,hx=>⟨hx b rfl,h.2⟩
 |a::as,b::bs,i+1,x,h,hx=>⟨h.1,bN.set h.2 (fun y hy=>hx y (by simpa using hy))⟩
 | [],_::_,_,_,h,_=>h.elim
 |_::_,[],_,_,h,_=>h.elim
section
variable{P:Program}{zb:cK}{st st':St}{Q:Post}
theorem Inv.KG{a:Act}{w:World}(n i:Nat)(h:G.KG st n i=some st')(iv:Inv ty zb st a w):Inv ty zb st' a w:=by
 unfold G.KG at h
 split at h
 case h_2=>cases h
 rename_i c hc
 split at h
 case h_2=>cases h
 rename_i m hm
 split at h
 case h_2=>cases h
 rename_i t l hl
 split at h
 case h_2=>cases h
 rename_i hp hf
 simp only[oI]at h
 subst h
 have hf:=HQ hf
 obtain⟨env,g⟩:=iv.good
 have hmn:m≠n:=by rintro rfl;rw[hl]at hc;cases hc
 have hlk: ∀k o,look hp k=some o→(k=n∧o= .box (c.set i (.vw m none t l)))∨(k≠n∧look st.hp k=some o):=by
  intro k o hk
  rw[hf]at hk
  by_cases hkn:k=n
  ·subst hkn;rw[look_eq]at hk;simp only[oI]at hk;exact Or.inl ⟨rfl,hk.symm⟩
  ·rw[bg hkn,k9 hkn]at hk;exact Or.inr ⟨hkn,hk⟩
 have hne: ∀k o,k≠n→look st.hp k=some o→look hp k=some o:=by
  intro k o hkn hk
  rw[hf,bg hkn,k9 hkn];exact hk
 have hnn:look hp n=some (.box (c.set i (.vw m none t l))):=by rw[hf,look_eq]
 have s:Step (fun _=>True) (fun _=>True) w st.hp env w hp env:=by
  refine⟨fun _ _ _=>rfl,?_,?_,?_⟩
  ·rintro b _ ⟨k,o,h1,h2⟩
   rcases hlk k o h1 with⟨rfl,_⟩| ⟨_,h3⟩
   ·exact⟨_,_,hc,h2⟩
   ·exact⟨k,o,h3,h2⟩
  ·intro k o _ h1
   by_cases hkn:k=n
   ·subst hkn
    rw[hc]at h1
    simp only[oI]at h1
    subst h1
    exact⟨_,hnn,trivial,rfl⟩
   ·exact⟨o,hne k o hkn h1,by cases o<;>simp[Obj.like],rfl⟩
  ·intro k t' l' _ h1
   have hkn:k≠n:=by rintro rfl;rw[hc]at h1;cases h1
   exact⟨hne k _ hkn h1,rfl,fun _ _=>rfl⟩
 refine⟨iv.size,iv.defers,iv.kept,iv.Ap,env,⟨fun k o hk=> ?_,fun k k' o o' hkk h1 h2=> ?_,fun t v hv=>oR.step s (fun v _=>v.dG) (g.slot t v hv),fun k o hk b hb=> ?_,g.pins⟩⟩
 ·rcases hlk k o hk with⟨rfl,rfl⟩| ⟨hkn,h3⟩
  ·obtain⟨b,cs,e,h1,h2,h3⟩:=g.obj _ _ hc
   refine⟨b,cs,e,h1,h2,bN.set (h3.mono fun x y _ hr=>RA.step s x.dG hr) fun y hy=> ?_⟩
   rw[yL]at hm
   obtain⟨y',hy',hr⟩:=h3.at hm
   rw[hy]at hy'
   simp only[oI]at hy'
   subst hy'
   obtain⟨_,hu⟩:=hr
   have hro:=g.obj m _ hl
   have hlm:=hne m _ hmn hl
   refine⟨⟨t,l,hlm⟩,⟨(env m).fp,?_,(RO.own hro).nodup,fun _ h=>h⟩,by simp⟩
   rw[hu];exact RO.sl hro
  ·exact(g.obj k o h3).step s o.dG (fun _ _=>rfl)
 ·have: ∀k o,look hp k=some o→ ∃x,look st.hp k=some x:=by
   intro k o hk
   rcases hlk k o hk with⟨rfl,_⟩| ⟨_,h3⟩
   ·exact⟨_,hc⟩
   ·exact⟨_,h3⟩
  obtain⟨x,hx⟩:=this k o h1
  obtain⟨y,hy⟩:=this k' o' h2
  exact g.iB k k' x y hkk hx hy
 ·rcases hlk k o hk with⟨rfl,_⟩| ⟨_,h3⟩
  ·exact g.dom _ _ hc b hb
  ·exact g.dom k o h3 b hb
theorem Tb{c:Code}(n i:Nat)(h:G.KG st n i=some st')(k:W P ty zb c Q st'):W P ty zb c Q st:=fun a w iv=>k a w (iv.KG n i h)
end
end
section
variable{ty:Tag→Nat}
def w8(a b n:Nat):Nat:=match Nat.beq n a,Nat.beq n b with
 |true,_=>b
 |false,true=>a
 |false,false=>n
def V.sw(a b:Nat):V→V
 | .own n=> .own (w8 a b n)
 | .ptr n o=> .ptr (w8 a b n) o
 | .mL n i o=> .mL (w8 a b n) i o
 | .vw n p t l=> .vw (w8 a b n) p t l
 | .B9 n p t x o=> .B9 (w8 a b n) p t x o
 | .Ca n t l=> .Ca (w8 a b n) t l
 | .As f n=> .As f (w8 a b n)
 | .mix n c t l=> .mix (w8 a b n) c t l
 | .we n=> .we (w8 a b n)
 |v=>v
def S1.sw(a b:Nat):S1→S1
 | .a v=> .a (v.sw a b)
 | .agg l=> .agg (l.map (V.sw a b))
def SV.sw(a b:Nat):SV→SV
 | .one x=> .one (x.sw a b)
 | .tZ l=> .tZ (l.map (S1.sw a b))
 | .cond p x=> .cond p (x.sw a b)
def vE.sw(a b:Nat):vE→vE
 | .of n=> .of (w8 a b n)
 |s=>s
def Obj.sw(a b:Nat):Obj→Obj
 | .box c=> .box (c.map (V.sw a b))
 | .arr t l=> .arr t l
 | .gq t l s=> .gq t l (s.sw a b)
def Qd(a b:Nat)(hp:Hp):Hp:=hp.map fun e=>(w8 a b e.1,e.2.sw a b)
def Tr(st:St)(a b:Nat):Option St:=match iA a,iA b,soft a,soft b with
 |false,false,false,false=>L3 ⟨st.n,st.sl.map fun e=>(e.1,e.2.sw a b),Qd a b st.hp⟩
 |_,_,_,_=>none
theorem MF(a b n:Nat):w8 a b n=if n=a then b else if n=b then a else n:=by
 unfold w8
 by_cases h1:n=a
 ·subst h1;rw[if_pos rfl,Nat.beq_refl]
 ·have e1:Nat.beq n a=false:=by
   cases h:Nat.beq n a with
   |false=>rfl
   |true=>exact absurd (Nat.eq_of_beq_eq_true h) h1
  rw[if_neg h1,e1]
  by_cases h2:n=b
  ·subst h2;rw[if_pos rfl,Nat.beq_refl]
  ·have e2:Nat.beq n b=false:=by
    cases h:Nat.beq n b with
    |false=>rfl
    |true=>exact absurd (Nat.eq_of_beq_eq_true h) h2
   rw[if_neg h2,e2]
theorem pM(a b n:Nat):w8 a b (w8 a b n)=n:=by
 simp only[MF]
 by_cases h1:n=a
 ·subst h1;simp only[if_true]
  by_cases h2:b=n
  ·rw[if_pos h2,h2]
  ·rw[if_neg h2]
 ·by_cases h2:n=b
  ·subst h2;simp[h1]
  ·simp[h1,h2]
theorem W4{a b n m:Nat}(h:w8 a b n=w8 a b m):n=m:=by
 have:=congrArg (w8 a b) h
 rwa [pM,pM]at this
theorem qN(a b:Nat): ∀(hp:Hp) (n:Nat),look (Qd a b hp) n=(look hp (w8 a b n)).map (Obj.sw a b)
 | [],n=>rfl
 | (j,x)::r,n=>by
   show look ((w8 a b j,x.sw a b)::Qd a b r) n=_
   by_cases h:n=w8 a b j
   ·subst h
    rw[look_eq,pM,look_eq];rfl
   ·rw[bg h,qN a b r n,bg]
    intro e
    exact h (by rw[←e,pM])
section
variable{w:World}{hp:Hp}{env:Env}{a b:Nat}
theorem pN{n:Nat}{t:Tag}{l:List (T t)}(h:look hp n=some (.arr t l)):look (Qd a b hp) (w8 a b n)=some (.arr t l):=by
 rw[qN,pM,h];rfl
theorem Oo{n:Nat}{c:List V}(h:look hp n=some (.box c)):look (Qd a b hp) (w8 a b n)=some (.box (c.map (V.sw a b))):=by
 rw[qN,pM,h];rfl
def Tt(a b:Nat)(env:Env):Env:=fun n=>env (w8 a b n)
theorem lW(n:Nat):Tt a b env (w8 a b n)=env n:=by unfold Tt;rw[pM]
theorem su{x:Nat}(h:Ow (Qd a b hp) (Tt a b env) x):Ow hp env x:=by
 obtain⟨n,o,h1,h2⟩:=h
 rw[qN]at h1
 cases hq:look hp (w8 a b n)with
 |none=>rw[hq]at h1;cases h1
 |some o'=>exact⟨_,_,hq,h2⟩
theorem RV.sw{n:Nat}{p:Option (Nat×Nat)}{t:Tag}{l:List (T t)}{u:Value}(h:RV w hp env n p t l u):RV w (Qd a b hp) (Tt a b env) (w8 a b n) p t l u:=by
 obtain⟨⟨t1,l1,h1⟩,⟨fp,h2,h3,h4⟩,h5⟩:=h
 refine⟨⟨t1,l1,pN h1⟩,⟨fp,h2,h3,by rw[lW];exact h4⟩,fun i off iT=> ?_⟩
 obtain⟨t0,l0,b0,o,len,cap,q1,q2,q3,q4,q5,q6⟩:=h5 i off iT
 exact⟨t0,l0,b0,o,len,cap,pN q1,q2,q3,by rw[lW];exact q4,by rw[lW];exact q5,q6⟩
theorem RA.sw{v:V}{u:Value}(h:RA w hp env v u):RA w (Qd a b hp) (Tt a b env) (v.sw a b) u:=by
 cases v with
 |any=>trivial
 |lit v=>exact h
 |rF k=>exact h
 |raw v=>exact h
 |eX v t l=>obtain⟨hu,fp,h1,h2⟩:=h;exact⟨hu,fp,h1,fun x hx ho=>h2 x hx (su ho)⟩
 |sl t l=>obtain⟨fp,h1,h2⟩:=h;exact⟨fp,h1,fun x hx ho=>h2 x hx (su ho)⟩
 |ip t x off=>obtain⟨b',o,cs,fp,h1,h2,h3,h4,h5,h6⟩:=h;exact⟨b',o,cs,fp,h1,h2,h3,h4,fun ho=>h5 (su ho),fun c hc ho=>h6 c hc (su ho)⟩
 |own n=>obtain⟨⟨t,l,hl⟩,hu⟩:=h;exact⟨⟨t,l,pN hl⟩,by rw[lW];exact hu⟩
 |ptr n off=>obtain⟨⟨c,hl⟩,b',h1,h2⟩:=h;exact⟨⟨_,Oo hl⟩,b',by rw[lW];exact h1,h2⟩
 |As f n=>obtain⟨⟨c,hl⟩,b',h1,h2⟩:=h;exact⟨⟨_,Oo hl⟩,b',by rw[lW];exact h1,h2⟩
 |mL n i off=>obtain⟨t,l,hl,b',o,len,cap,h1,h2⟩:=h;exact⟨t,l,pN hl,b',o,len,cap,by rw[lW];exact h1,h2⟩
 |vw n p t l=>exact RV.sw h
 |Ca n t l=>
  obtain⟨⟨t1,l1,h1⟩,b',fp,h2,h3,h4,h5⟩:=h
  exact⟨⟨t1,l1,pN h1⟩,b',fp,h2,fun ho=>h3 (su ho),h4,by rw[lW];exact h5⟩
 |we n=>
  obtain⟨⟨t,l,s,hl⟩,hu⟩:=h
  exact⟨⟨t,l,s.sw a b,by rw[qN,pM,hl];rfl⟩,by rw[lW];exact hu⟩
 |mix n c t l=>
  obtain⟨⟨t1,l1,h1⟩,⟨fp,h2,h3⟩,h4⟩:=h
  exact⟨⟨t1,l1,pN h1⟩,⟨fp,h2,fun x hx=>(h3 x hx).imp (fun q=>by rw[lW];exact q) (fun q ho=>q (su ho))⟩,h4⟩
 |B9 n p t x off=>
  obtain⟨⟨t1,l1,h1⟩,b',o,cs,fp,h2,h3,h4,h5,h6,h7,h8⟩:=h
  refine⟨⟨t1,l1,pN h1⟩,b',o,cs,fp,h2,by rw[lW];exact h3,h4,h5,h6,by rw[lW];exact h7,fun i o2 j iT=> ?_⟩
  obtain⟨l2,u0,b0,pZ,len,cap,q1,q2,q3,q4,q5⟩:=h8 i o2 j iT
  exact⟨l2,u0,b0,pZ,len,cap,q1.sw,q2,q3,q4,q5⟩
theorem fG.sw{x:S1}{u:Value}(h:fG w hp env x u):fG w (Qd a b hp) (Tt a b env) (x.sw a b) u:=by
 cases x with
 |a v=>exact RA.sw h
 |agg l=>obtain⟨cs,h1,h2⟩:=h;exact⟨cs,h1,h2.map fun _ _ q=>RA.sw q⟩
theorem oR.sw{tmps:Array Value}{x:SV}{u:Value}(h:oR w hp env tmps x u):oR w (Qd a b hp) (Tt a b env) tmps (x.sw a b) u:=by
 cases x with
 |one x=>exact fG.sw h
 |tZ l=>obtain⟨us,h1,h2⟩:=h;exact⟨us,h1,h2.map fun _ _ q=>fG.sw q⟩
 |cond p x=>exact⟨fun q=>fG.sw (h.1 q),h.2⟩
theorem BE.sw{s:vE}{t:Tag}{x:T t}{u:Value}(h:BE w hp env s t x u):BE w (Qd a b hp) (Tt a b env) (s.sw a b) t x u:=by
 cases s with
 |gone=>trivial
 |mp=>trivial
 |FG u=>trivial
 |nJ=>obtain⟨f,h1,h2⟩:=h;exact⟨f,h1,fun c hc ho=>h2 c hc (su ho)⟩
 |of n=>
  obtain⟨⟨t1,l1,h1⟩,f,h2,h3⟩:=h
  exact⟨⟨t1,l1,pN h1⟩,f,h2,fun c hc=>(h3 c hc).imp (fun q=>by rw[lW];exact q) (fun q ho=>q (su ho))⟩
end
theorem Tu{a b n:Nat}{p:Nat→Bool}(ha:p a=false)(hb:p b=false):p (w8 a b n)=p n:=by
 rw[MF]
 split
 ·rename_i h;subst h;rw[ha,hb]
 ·split
  ·rename_i h;subst h;rw[ha,hb]
  ·rfl
theorem W5{a b n:Nat}(ha:iA a=false)(hb:iA b=false)(h:iA n=true):w8 a b n=n:=by
 rw[MF]
 split
 ·rename_i h1;subst h1;rw[ha]at h;cases h
 ·split
  ·rename_i h1;subst h1;rw[hb]at h;cases h
  ·rfl
theorem Tv{zb:cK}{st st':St}{a b:Nat}(h:Tr st a b=some st'){c:Act}{w:World}(iv:Inv ty zb st c w):Inv ty zb st' c w:=by
 obtain⟨env,g⟩:=iv.good
 unfold Tr at h
 split at h
 case h_2=>cases h
 rename_i hpa hpb hsa hsb
 have h:=lP h
 subst h
 have hlk: ∀n o,look (Qd a b st.hp) n=some o→ ∃o0,look st.hp (w8 a b n)=some o0∧o=o0.sw a b:=by
  intro n o hl
  rw[qN]at hl
  cases hq:look st.hp (w8 a b n)with
  |none=>rw[hq]at hl;cases hl
  |some o0=>rw[hq]at hl;simp only[Option.map_some,oI]at hl;exact⟨o0,rfl,hl.symm⟩
 refine⟨iv.size,iv.defers,iv.kept,iv.Ap,Tt a b env,⟨fun n o hl=> ?_,fun n m o o' hne h1 h2=> ?_,fun s v hs=> ?_,fun n o hl=> ?_,fun n hn=> ?_⟩⟩
 ·obtain⟨o0,h1,rfl⟩:=hlk n o hl
  have hro:=g.obj _ _ h1
  show RO ty w (Qd a b st.hp) (Tt a b env) n (o0.sw a b) (env (w8 a b n))
  cases o0 with
  |arr t l=>exact NK (fun q=>by rw[Tu hsa hsb]at q;exact q) hro
  |box l=>
   obtain⟨x,cs,e,q1,q2,q3⟩:=hro
   exact⟨x,cs,e,q1,q2,q3.map fun _ _ q=>RA.sw q⟩
  |gq t l s=>
   rcases RO.DF hro with⟨rfl,h⟩| ⟨u,rfl,h1,h2,fp,h3,h4⟩| ⟨hr,q1,us,q2,q3,q4⟩
   ·exact h
   ·exact⟨h1,h2,fp,h3,h4.imp id fun⟨c,e1,e2⟩=>⟨c,e1,fun ho=>e2 (su ho)⟩⟩
   ·exact RO.Po (by cases s<;>first|exact hr.elim|trivial) ⟨q1,us,q2,q3,fun i x u hx hu=>(q4 i x u hx hu).sw⟩
 ·obtain⟨o1,q1,_⟩:=hlk n o h1
  obtain⟨o2,q2,_⟩:=hlk m o' h2
  exact g.iB _ _ _ _ (fun e=>hne (W4 e)) q1 q2
 ·replace hs:look (st.sl.map fun e=>(e.1,e.2.sw a b)) s=some v:=hs
  rw[kG (α:=SV) (f:=fun e:Nat×SV=>e.2.sw a b)]at hs
  cases hq:look st.sl s with
  |none=>rw[hq]at hs;cases hs
  |some v0=>
   rw[hq]at hs
   simp only[Option.map_some,oI]at hs
   subst hs
   exact oR.sw (g.slot s v0 hq)
 ·obtain⟨o0,h1,_⟩:=hlk n o hl
  exact g.dom _ _ h1
 ·have hq:=g.pins n hn
  unfold Tt
  rw[W5 hpa hpb hn]
  exact hq
theorem bl{P:Program}{zb:cK}{Q:Post}{st st':St}{c:Code}(a b:Nat)(h:Tr st a b=some st')(k:W P ty zb c Q st'):W P ty zb c Q st:=fun x w iv=>k x w (Tv h iv)
end
section
variable{ty:Tag→Nat}
def toBrr(st:St)(s m:Nat)(r:vE):Option St:=match look st.sl s,Nat.blt s st.n with
 |some (.one (.a (.own n))),true=>match look st.hp n,pinned [n],iA m,look (cF [n] [] st.hp) m with
  |some (.arr t []),false,false,none=>match Nat.beq (kk t) 1 with
   |true=>L3 ((⟨st.n,st.sl.map fun e=>(e.1,e.2.bQ [n] []),ab5 st.hp n m t [] r⟩:St).put (some s) (.one (.a (.we m))))
   |false=>none
  |_,_,_,_=>none
 |_,_=>none
theorem toBrr_ok{zb:cK}{st st':St}{s m:Nat}{r:vE}(hr:r.br)(h:toBrr st s m r=some st'){a:Act}{w:World}(iv:Inv ty zb st a w):Inv ty zb st' a w:=by
 obtain⟨env,g⟩:=iv.good
 have hB:=iv.kept.size
 unfold toBrr at h
 split at h
 case h_2=>cases h
 rename_i n hs hlt
 split at h
 case h_2=>cases h
 rename_i t hl hpk FO hlk
 split at h
 case h_2=>cases h
 rename_i hk1
 have hk1:=Nat.eq_of_beq_eq_true hk1
 have h:=lP h
 have XM:soft n=false:=nO hpk (by simp)
 have hb:=RO.VL XM (g.obj n _ hl)
 have CQ: ∀b,(env n).v.ownBlock=some b→b∈(env n).fp:=by
  intro b hb'
  obtain⟨xs,bA,_,_,_,gC,_⟩:=hb
  rw[gC,hb'];simp
 have hbE:jm 1 Rd 0 (ty t) w (env n).v ([]:List Value) (env n).fp:=by
  obtain⟨xs,bA,q1,q2,q3,q4,q5⟩:=hb
  obtain rfl:bA= []:=List.length_eq_zero_iff.1 q2
  exact⟨xs,[],by rw[hk1]at q1;exact q1,rfl,fun i x f hx=>by simp at hx,q4,q5⟩
 obtain⟨env',hg',Gp,_,_⟩:=Az (ty:=ty) g hB (ks:= [n]) hpk FO hlk (v:=(env n).v) (v':=(env n).v) (w':=w) (ob:= .gq t [] r) (fp:=(env n).fp) (fx:= []) (fI:=(env n).fp) (by
  intro b hb
  rw[List.append_nil]at hb
  exact⟨n,_,by simp,hl,hb⟩) CQ (fun aeX hd s2=>RO.Po hr ⟨hk1,[],hbE,rfl,fun i x u hx=>by simp at hx⟩) ⟨rfl,rfl,rfl,Nat.le_refl _,fun _ _ _=>rfl⟩ (fun b hb=>Or.inl hb)
 have hlt:s<a.tmps.size:=by rw[iv.size];exact Nat.le_of_ble_eq_true hlt
 obtain⟨_,hu⟩:=g.slot s _ hs
 have gp:=hg'.put hlt (v:= .one (.a (.we m))) (u:=a.tmps.getD s undef) ⟨⟨t,[],_,look_eq⟩,by rw[Gp];exact hu⟩ rfl
 have e:a.tmps.setIfInBounds s (a.tmps.getD s undef)=a.tmps:=by
  rw[Array.getD_eq_getD_getElem?,Array.getElem?_eq_getElem hlt]
  apply Array.ext
  ·simp
  ·intro i h1 h2
   rw[Array.getElem_setIfInBounds]
   split
   ·rename_i hi;subst hi;rfl
   ·rfl
 rw[e]at gp
 rw[h]
 exact⟨by rw[wN];exact iv.size,iv.defers,iv.kept,iv.Ap,env',gp⟩
theorem KM{P:Program}{zb:cK}{Q:Post}{st st':St}{c:Code}(s m:Nat)(h:G.toBrr st s m .nJ=some st')(k:W P ty zb c Q st'):W P ty zb c Q st:=fun a w iv=>k a w (toBrr_ok (by trivial) h iv)
end
section
variable{ty:Tag→Nat}
def toLsl(st:St)(s:Nat)(v:Value):Option St:=match look st.sl s with
 |some (.one (.a (.sl t l)))=>L3 ⟨st.n,(s, .one (.a (.eX v t l)))::st.sl,st.hp⟩
 |_=>none
theorem UA{P:Program}{zb:cK}{c:Code}{Q:Post}{st:St}(s:Nat){f:Value→St}(h: ∀v,toLsl st s v=some (f v))(k: ∀v,W P ty zb c Q (f v)):W P ty zb c Q st:=by
 intro a w iv
 have h:=h (a.tmps.getD s undef)
 refine k (a.tmps.getD s undef) a w ?_
 obtain⟨env,g⟩:=iv.good
 unfold toLsl at h
 split at h
 case h_2=>cases h
 rename_i t l hs
 have h:=lP h
 rw[h]
 refine⟨iv.size,iv.defers,iv.kept,iv.Ap,env,⟨g.obj,g.iB,fun s' v hv=> ?_,g.dom,g.pins⟩⟩
 by_cases hss:s'=s
 ·subst hss
  rw[look_eq]at hv
  simp only[oI]at hv
  subst hv
  exact⟨rfl,g.slot _ _ hs⟩
 ·rw[bg hss]at hv
  exact g.slot s' v hv
end
section
variable{ty:Tag→Nat}
theorem O3{t:Tag}{w:World}{b off cap:Nat}{l:List (T t)}{bA:List (List Nat)}(hb:Fit w b (off+cap*kk t))(hc:l.length≤cap)(hm:cap≤maxLen)(hE:qn (kk t) (rd t) w b off l bA){lo hi:Nat}(h1:lo≤hi)(h2:hi≤l.length):
  ∃fp,Sl (kk t) (rd t) w (CK (some ⟨b,off,none⟩) cap (kk t) lo hi) ((l.take hi).drop lo) fp∧((fp= []∧((bA.take hi).drop lo).flatten= [])∨fp=b::((bA.take hi).drop lo).flatten):=by
 have hlen:((l.take hi).drop lo).length=hi-lo:=by simp;omega
 by_cases XN:cap=lo
 ·have e0:(l.take hi).drop lo= []:=by apply List.eq_nil_of_length_eq_zero;omega
  have e1:(bA.take hi).drop lo= []:=by apply List.eq_nil_of_length_eq_zero;simp;have:=hE.1;omega
  refine⟨[],⟨_,_,by rw[hlen];rfl,by rw[hlen];omega,by omega,Or.inl ⟨e0,rfl,?_⟩⟩,Or.inl ⟨rfl,by rw[e1];rfl⟩⟩
  omega
 ·refine⟨_,⟨_,_,by rw[hlen];rfl,by rw[hlen];omega,by omega,Or.inr ⟨b,off+lo*kk t,(bA.take hi).drop lo,?_,hb.mono (by rw[Nat.add_assoc, ←Nat.add_mul,Nat.add_sub_cancel' (by omega)];exact Nat.le_refl _),rfl,?_,?_⟩⟩,Or.inr rfl⟩
  ·rw[if_neg XN];simp[Addr.add_mid]
  ·have:=hE.1;simp[this]
  ·intro i x f hx hf
   rw[List.getElem?_drop,List.getElem?_take]at hx hf
   split at hx
   ·rename_i hlt
    rw[if_pos hlt]at hf
    obtain⟨cs,k1,k2⟩:=hE.2 _ x f hx hf
    exact⟨cs,by rw[Nat.add_assoc, ←Nat.add_mul];exact k1,k2⟩
   ·cases hx
section
variable{P:Program}{zb:cK}{st st':St}{Q:Post}{w:World}{env:Env}{tmps:Array Value}
theorem Qs{t:Tag}{l:List (T t)}{oa:Option Addr}{cap k:Nat}{fp:List Nat}(hs:Sl (kk t) (rd t) w (.slice oa l.length cap) l fp)(ho:Own 0 w fp)(hk:k≤l.length):
  ∃f1 f2,Own 0 w f1∧Own 0 w f2∧(∀b,b∈f1→b∈fp)∧(∀b,b∈f2→b∈fp)∧(∀b,b∈f1→b∉f2)∧
   (∃g,Sl (kk t) (rd t) w (CK oa cap (kk t) 0 k) (l.take k) g∧((g= []∧f1= [])∨ ∃b,g=b::f1∧b∈fp∧b∉f1∧b∉f2))∧
   (∃g,Sl (kk t) (rd t) w (CK oa cap (kk t) k l.length) (l.drop k) g∧((g= []∧f2= [])∨ ∃b,g=b::f2∧b∈fp∧b∉f1∧b∉f2)):=by
 obtain⟨VA,cap',hv,hc,hm,h3⟩:=hs
 simp only[Value.slice.injEq]at hv
 obtain⟨rfl,_,rfl⟩:=hv
 rcases h3 with⟨rfl,rfl,hn⟩| ⟨b,off,bA,rfl,hb,rfl,hE⟩
 ·obtain rfl:k=0:=by simpa using hk
  have hz:Sl (kk t) (rd t) w (CK oa cap (kk t) 0 0) ([]:List (T t)) []:=⟨_,cap,rfl,Nat.zero_le _,hm,Or.inl ⟨rfl,rfl,by omega⟩⟩
  exact⟨[],[],Own.nil _ _,Own.nil _ _,by simp,by simp,by simp,⟨[],hz,Or.inl ⟨rfl,rfl⟩⟩,⟨[],hz,Or.inl ⟨rfl,rfl⟩⟩⟩
 ·obtain⟨g1,p1,p2⟩:=O3 hb hc hm hE (lo:=0) (hi:=k) (Nat.zero_le _) hk
  obtain⟨g2,q1,q2⟩:=O3 hb hc hm hE (lo:=k) (hi:=l.length) hk (Nat.le_refl _)
  have hfl:bA.flatten=((bA.take k).drop 0).flatten++((bA.take l.length).drop k).flatten:=by
   have e1:bA.take l.length=bA:=List.take_of_length_le (by rw[hE.1];exact Nat.le_refl _)
   rw[List.drop_zero,e1, ←List.flatten_append,List.take_append_drop]
  rw[List.drop_zero]at p1
  rw[List.take_of_length_le (Nat.le_refl _)]at q1
  generalize ((bA.take k).drop 0).flatten=f1 at*
  generalize ((bA.take l.length).drop k).flatten=f2 at*
  have hnd:=ho.nodup
  rw[hfl]at hnd ⊢
  rw[hfl]at ho
  obtain⟨hnb,p9⟩:=List.nodup_cons.1 hnd
  obtain⟨hd1,hd2,hd3⟩:=List.nodup_append.1 p9
  have aW:b∉f1:=fun h=>hnb (List.mem_append_left _ h)
  have bz:b∉f2:=fun h=>hnb (List.mem_append_right _ h)
  exact⟨f1,f2,⟨hd1,fun _ _=>Nat.zero_le _,fun x hx=>ho.kind x (List.mem_cons_of_mem _ (List.mem_append_left _ hx))⟩,⟨hd2,fun _ _=>Nat.zero_le _,fun x hx=>ho.kind x (List.mem_cons_of_mem _ (List.mem_append_right _ hx))⟩,
   fun x hx=>List.mem_cons_of_mem _ (List.mem_append_left _ hx),fun x hx=>List.mem_cons_of_mem _ (List.mem_append_right _ hx),fun x hx hx'=>hd3 x hx x hx' rfl,
   ⟨g1,p1,p2.imp id fun h=>⟨b,h,List.mem_cons_self,aW,bz⟩⟩,⟨g2,q1,q2.imp id fun h=>⟨b,h,List.mem_cons_self,aW,bz⟩⟩⟩
abbrev FC(hp:Hp)(m k n1 n2:Nat)(oa:Option Addr)(cap:Nat)(t:Tag)(l:List (T t)):Hp:=(n1, .gq t (l.take k) (.FG (CK oa cap (kk t) 0 k)))::(n2, .gq t (l.drop k) (.FG (CK oa cap (kk t) k l.length)))::cF [m] [] hp
theorem Qt(g:Good ty zb st tmps w env){m k n1 n2:Nat}{t:Tag}{l:List (T t)}(hl:look st.hp m=some (.arr t l)){oa:Option Addr}{cap:Nat}(hv:(env m).v= .slice oa l.length cap)(hk:k≤l.length)
  (h1:iA n1=false)(h2:iA n2=false)(h3:look (cF [m] [] st.hp) n1=none)(h4:look (cF [m] [] st.hp) n2=none)(h12:n1≠n2):
  ∃env',Good ty zb ⟨st.n,st.sl.map fun e=>(e.1,e.2.bQ [m] []),FC st.hp m k n1 n2 oa cap t l⟩ tmps w env'∧ ∀x,x≠n1→x≠n2→env' x=env x:=by
 have hro:=g.obj m _ hl
 have hs:=RO.sl hro
 rw[hv]at hs
 obtain⟨f1,f2,o1,o2,s1,s2,d12,⟨g1,r1,c1⟩,⟨g2,r2,c2⟩⟩:=Qs hs (RO.own hro) hk
 let env':Env:=fun x=>if x=n1 then⟨CK oa cap (kk t) 0 k,f1⟩else if x=n2 then⟨CK oa cap (kk t) k l.length,f2⟩else env x
 have e1:env' n1=⟨CK oa cap (kk t) 0 k,f1⟩:=by simp[env']
 have e2:env' n2=⟨CK oa cap (kk t) k l.length,f2⟩:=(if_neg (Ne.symm h12)).trans (if_pos rfl)
 have e3: ∀x,x≠n1→x≠n2→env' x=env x:=fun x hx hy=>(if_neg hx).trans (if_neg hy)
 have hlk: ∀x o,look (FC st.hp m k n1 n2 oa cap t l) x=some o→(x=n1∧o= .gq t (l.take k) (.FG (CK oa cap (kk t) 0 k)))∨(x=n2∧o= .gq t (l.drop k) (.FG (CK oa cap (kk t) k l.length)))∨(x≠n1∧x≠n2∧x≠m∧ ∃o',look st.hp x=some o'∧o=o'.bQ [m] []):=by
  intro x o hx
  by_cases hx1:x=n1
  ·subst hx1;rw[look_eq]at hx;simp only[oI]at hx;exact Or.inl ⟨rfl,hx.symm⟩
  ·rw[bg hx1]at hx
   by_cases wU:x=n2
   ·subst wU;rw[look_eq]at hx;simp only[oI]at hx;exact Or.inr (Or.inl ⟨rfl,hx.symm⟩)
   ·rw[bg wU,bS]at hx
    split at hx
    ·cases hx
    ·rename_i hks
     cases hq:look st.hp x with
     |none=>rw[hq]at hx;cases hx
     |some o'=>rw[hq]at hx;simp only[Option.map_some,oI]at hx;exact Or.inr (Or.inr ⟨hx1,wU,by simpa using hks,o',rfl,hx.symm⟩)
 have hnd: ∀x o,x≠m→look st.hp x=some o→x≠n1∧x≠n2:=by
  intro x o hks hx
  constructor
  ·rintro rfl;rw[bS,if_neg (by simpa using hks),hx]at h3;cases h3
  ·rintro rfl;rw[bS,if_neg (by simpa using hks),hx]at h4;cases h4
 have hin: ∀x o b,look (FC st.hp m k n1 n2 oa cap t l) x=some o→b∈(env' x).fp→(∃o',look st.hp x=some o'∧x≠m∧env' x=env x∧b∈(env x).fp)∨b∈(env m).fp:=by
  intro x o b hx hb
  rcases hlk x o hx with⟨rfl,_⟩| ⟨rfl,_⟩| ⟨hx1,wU,Mr,o',ho,_⟩
  ·rw[e1]at hb;exact Or.inr (s1 b hb)
  ·rw[e2]at hb;exact Or.inr (s2 b hb)
  ·rw[e3 x hx1 wU]at hb;exact Or.inl ⟨o',ho,Mr,e3 x hx1 wU,hb⟩
 have s:rM [m] [] w st.hp env w (FC st.hp m k n1 n2 oa cap t l) env':=by
  refine⟨fun _ _ _=>rfl,?_,?_,?_⟩
  ·rintro b _ ⟨x,o,hx,hb⟩
   rcases hin x o b hx hb with⟨o',q1,_,_,q2⟩|h
   ·exact⟨x,o',q1,q2⟩
   ·exact⟨m,_,hl,h⟩
  ·intro x o hx ho
   obtain⟨q1,q2⟩:=hnd x o (by simpa using hx) ho
   exact⟨o.bQ [m] [],by rw[bg q1,bg q2,bS,if_neg hx,ho];rfl,by cases o<;>simp[Obj.like,Obj.bQ],by rw[e3 x q1 q2]⟩
  ·rintro x t' l' ⟨hx,_⟩ ho
   obtain⟨q1,q2⟩:=hnd x _ (by simpa using hx) ho
   exact⟨by rw[bg q1,bg q2,bS,if_neg hx,ho];rfl,e3 x q1 q2,fun _ _=>rfl⟩
 have hno: ∀b,b∈(env m).fp→b∉f1→b∉f2→ ¬Ow (FC st.hp m k n1 n2 oa cap t l) env' b:=by
  rintro b hb aW bz ⟨x,o,hx,AF⟩
  rcases hlk x o hx with⟨rfl,_⟩| ⟨rfl,_⟩| ⟨hx1,wU,Mr,o',ho,_⟩
  ·rw[e1]at AF;exact aW AF
  ·rw[e2]at AF;exact bz AF
  ·rw[e3 x hx1 wU]at AF;exact g.iB x m _ _ Mr ho hl b AF hb
 refine⟨env',g.iU s (fun x o hx=> ?_) (fun x y o o' hne hx hy b hb hb'=> ?_) (fun x o hx b hb=> ?_) (fun x hx=> ?_),e3⟩
 ·rcases hlk x o hx with⟨rfl,rfl⟩| ⟨rfl,rfl⟩| ⟨hx1,wU,Mr,o',ho,rfl⟩
  ·rw[e1]
   exact⟨rfl,o1,g1,r1,c1.imp id fun⟨b,q1,q2,q3,q4⟩=>⟨b,q1,hno b q2 q3 q4⟩⟩
  ·rw[e2]
   exact⟨rfl,o2,g2,r2,c2.imp id fun⟨b,q1,q2,q3,q4⟩=>⟨b,q1,hno b q2 q3 q4⟩⟩
  ·rw[e3 x hx1 wU]
   exact(g.obj x o' ho).iU s fun _ _=>rfl
 ·rcases hlk x o hx with⟨rfl,_⟩| ⟨rfl,_⟩| ⟨hx1,wU,Mr,p,hp,_⟩<;>rcases hlk y o' hy with⟨rfl,_⟩| ⟨rfl,_⟩| ⟨hy1,hy2,hym,q,hq,_⟩
  ·exact hne rfl
  ·rw[e1]at hb;rw[e2]at hb';exact d12 b hb hb'
  ·rw[e1]at hb;rw[e3 y hy1 hy2]at hb';exact g.iB y m _ _ hym hq hl b hb' (s1 b hb)
  ·rw[e2]at hb;rw[e1]at hb';exact d12 b hb' hb
  ·exact hne rfl
  ·rw[e2]at hb;rw[e3 y hy1 hy2]at hb';exact g.iB y m _ _ hym hq hl b hb' (s2 b hb)
  ·rw[e3 x hx1 wU]at hb;rw[e1]at hb';exact g.iB x m _ _ Mr hp hl b hb (s1 b hb')
  ·rw[e3 x hx1 wU]at hb;rw[e2]at hb';exact g.iB x m _ _ Mr hp hl b hb (s2 b hb')
  ·rw[e3 x hx1 wU]at hb;rw[e3 y hy1 hy2]at hb';exact g.iB x y _ _ hne hp hq b hb hb'
 ·rcases hin x o b hx hb with⟨o',q1,_,_,q2⟩|h
  ·exact g.dom x o' q1 b q2
  ·exact g.dom m _ hl b h
 ·have q1:x≠n1:=by rintro rfl;rw[h1]at hx;cases hx
  have q2:x≠n2:=by rintro rfl;rw[h2]at hx;cases hx
  rw[e3 x q1 q2];exact g.pins x hx
theorem U7(g:Good ty zb st tmps w env){n i:Nat}{c:List V}{v:Value}(hc:look st.hp n=some (.box c))(h1:v.oneCell'=true)
  (hx: ∀b cs e,env n=⟨.pointer (some ⟨b,0,none⟩),[b]⟩→w.heap[b]? =some (.cells (Array.mk cs) e (0,0))→ ∀y,cs[i]? =some y→y=v):
  Good ty zb ⟨st.n,st.sl,(n, .box (c.set i (.raw v)))::st.hp.filter fun e=> !Nat.beq e.1 n⟩ tmps w env:=by
 have hlk: ∀k o,look ((n,Obj.box (c.set i (.raw v)))::st.hp.filter fun e=> !Nat.beq e.1 n) k=some o→(k=n∧o= .box (c.set i (.raw v)))∨(k≠n∧look st.hp k=some o):=by
  intro k o hk
  by_cases hkn:k=n
  ·subst hkn;rw[look_eq]at hk;simp only[oI]at hk;exact Or.inl ⟨rfl,hk.symm⟩
  ·rw[bg hkn,k9 hkn]at hk;exact Or.inr ⟨hkn,hk⟩
 have hne: ∀k o,k≠n→look st.hp k=some o→look ((n,Obj.box (c.set i (.raw v)))::st.hp.filter fun e=> !Nat.beq e.1 n) k=some o:=by
  intro k o hkn hk
  rw[bg hkn,k9 hkn];exact hk
 have s:Step (fun _=>True) (fun _=>True) w st.hp env w ((n,Obj.box (c.set i (.raw v)))::st.hp.filter fun e=> !Nat.beq e.1 n) env:=by
  refine⟨fun _ _ _=>rfl,?_,?_,?_⟩
  ·rintro b _ ⟨k,o,h1,h2⟩
   rcases hlk k o h1 with⟨rfl,_⟩| ⟨_,h3⟩
   ·exact⟨_,_,hc,h2⟩
   ·exact⟨k,o,h3,h2⟩
  ·intro k o _ h1
   by_cases hkn:k=n
   ·subst hkn
    rw[hc]at h1
    simp only[oI]at h1
    subst h1
    exact⟨_,look_eq,trivial,rfl⟩
   ·exact⟨o,hne k o hkn h1,by cases o<;>simp[Obj.like],rfl⟩
  ·intro k t' l' _ h1
   have hkn:k≠n:=by rintro rfl;rw[hc]at h1;cases h1
   exact⟨hne k _ hkn h1,rfl,fun _ _=>rfl⟩
 have hex: ∀k o,look ((n,Obj.box (c.set i (.raw v)))::st.hp.filter fun e=> !Nat.beq e.1 n) k=some o→ ∃x,look st.hp k=some x:=by
  intro k o hk
  rcases hlk k o hk with⟨rfl,_⟩| ⟨_,h3⟩
  ·exact⟨_,hc⟩
  ·exact⟨_,h3⟩
 refine⟨fun k o hk=> ?_,fun k k' o o' hkk h1 h2=> ?_,fun t v hv=>oR.step s (fun v _=>v.dG) (g.slot t v hv),fun k o hk b hb=> ?_,g.pins⟩
 ·rcases hlk k o hk with⟨rfl,rfl⟩| ⟨hkn,h3⟩
  ·obtain⟨b,cs,e,q1,q2,q3⟩:=g.obj _ _ hc
   exact⟨b,cs,e,q1,q2,bN.set (q3.mono fun x y _ hr=>RA.step s x.dG hr) fun y hy=>⟨hx b cs e q1 q2 y hy,h1⟩⟩
  ·exact(g.obj k o h3).step s o.dG (fun _ _=>rfl)
 ·obtain⟨x,hx⟩:=hex k o h1
  obtain⟨y,hy⟩:=hex k' o' h2
  exact g.iB k k' x y hkk hx hy
 ·obtain⟨x,hx⟩:=hex k o hk
  exact g.dom k x hx b hb
def Nh(st:St)(n i k n1 n2:Nat)(oa:Option Addr)(cap:Nat):Option (St×Nat):=match look st.hp n with
 |some (.box c)=>match yw c i with
  |some (.own m)=>match look st.hp m with
   |some (.arr t l)=>match iA n1,iA n2,look (cF [m] [] st.hp) n1,look (cF [m] [] st.hp) n2,Nat.beq n1 n2 with
    |false,false,none,none,false=>match L3 ⟨st.n,st.sl.map fun e=>(e.1,e.2.bQ [m] []),(n, .box ((c.map (V.bQ [m] [])).set i (.raw (.slice oa l.length cap))))::(FC st.hp m k n1 n2 oa cap t l).filter fun e=> !Nat.beq e.1 n⟩with
     |some s=>some (s,l.length)
     |none=>none
    |_,_,_,_,_=>none
   |_=>none
  |_=>none
 |_=>none
theorem U8{c:Code}(n i k n1 n2:Nat){S:Option Addr→Nat→St}{L:Nat}(h: ∀oa cap,G.Nh st n i k n1 n2 oa cap=some (S oa cap,L))(hk:k≤L)(K: ∀oa cap,L≤cap→W P ty zb c Q (S oa cap)):W P ty zb c Q st:=by
 intro a w iv
 obtain⟨env,g⟩:=iv.good
 have h0:=h none 0
 unfold G.Nh at h0
 split at h0
 case h_2=>cases h0
 rename_i c0 hc
 split at h0
 case h_2=>cases h0
 rename_i m hm
 split at h0
 case h_2=>cases h0
 rename_i t l hl
 split at h0
 case h_2=>cases h0
 rename_i p1 p2 p3 p4 p5
 have hmn:n≠m:=by rintro rfl;rw[hl]at hc;cases hc
 have h12:n1≠n2:=by rintro rfl;simp at p5
 obtain⟨oa,cap,hv,hcap,_,_⟩:=RO.sl (g.obj m _ hl)
 have h1:=h oa cap
 unfold G.Nh at h1
 rw[hc]at h1
 dsimp only at h1
 rw[hm]at h1
 dsimp only at h1
 rw[hl]at h1
 dsimp only at h1
 rw[p1,p2,p3,p4,p5]at h1
 dsimp only at h1
 split at h1
 case h_2=>cases h1
 rename_i s hs
 have hs:=lP hs
 simp only[oI,pI]at h1
 obtain⟨rfl,rfl⟩:=h1
 obtain⟨env',g',he⟩:=Qt g hl hv hk p1 p2 p3 p4 h12
 have hn1:n≠n1:=by rintro rfl;rw[bS,if_neg (by simpa using hmn),hc]at p3;cases p3
 have hn2:n≠n2:=by rintro rfl;rw[bS,if_neg (by simpa using hmn),hc]at p4;cases p4
 have I5:look (FC st.hp m k n1 n2 oa cap t l) n=some (.box (c0.map (V.bQ [m] []))):=by
  rw[bg hn1,bg hn2,bS,if_neg (by simpa using hmn),hc];rfl
 have g2:=U7 g' (i:=i) (v:= .slice oa l.length cap) I5 rfl (fun b cs e q1 q2 y hy=>by
  rw[he n hn1 hn2]at q1
  obtain⟨b',cs',e',r1,r2,r3⟩:=g.obj _ _ hc
  rw[q1]at r1
  simp only[CO.mk.injEq,Value.pointer.injEq,oI,Addr.mk.injEq,and_true,true_and]at r1
  obtain⟨rfl,_⟩:=r1
  rw[q2]at r2
  simp only[oI,Go.Obj.cells.injEq,Array.mk.injEq,and_true]at r2
  obtain⟨rfl,_⟩:=r2
  rw[yL]at hm
  obtain⟨y',hy',hr⟩:=r3.at hm
  rw[hy]at hy'
  simp only[oI]at hy'
  subst hy'
  rw[hr.2,hv])
 rw[←hs]at g2
 exact K oa cap hcap a w ⟨by rw[hs];exact iv.size,iv.defers,iv.kept,iv.Ap,env',g2⟩
end
end
section
variable{ty:Tag→Nat}
def gk(cr:List (Nat×CR))(ops:List Oper)(st:St)(o:Oper):Option (Bool×Prop):=match o.guard with
 |some (j,x)=>match ops[j]? with
  |some q=>match q.dst with
   |some d=>match look cr (d+1100000),look st.sl d with
    |some ⟨y,_⟩,some (.one (.a (.lit (.bool b))))=>some (x==y,b=y)
    |_,_=>none
   |none=>none
  |none=>none
 |none=>none
def pk(cr:List (Nat×CR))(st:St)(o:Oper):Option (Oper×Prop):=match o.op with
 | .pick (.tmp c) x y=>match look cr (c+1100000),look st.sl c with
   |some ⟨z,_⟩,some (.one (.a (.lit (.bool b))))=>some ({o with op:= .move (match z with|true=>x|false=>y)},b=z)
   |_,_=>none
 |_=>none
def ung(o:Oper):Oper:={o with guard:=none}
def Hi(P:Program)(ty:Tag→Nat)(Γ:Nat→TK)(cH:List (Nat×Nat))(cr:List (Nat×CR))(ops:List Oper)(st:St)(o:Oper):Option (List Prop×St):=
 match gk cr ops st o with
 |none=>match pk cr st o with
  |some (o',p)=>match step P ty Γ cH cr ops st o' with
   |some (vc,st')=>some (p::vc,st')
   |none=>none
  |none=>step P ty Γ cH cr ops st o
 |some (true,p)=>match step P ty Γ cH cr ops st (ung o)with
  |some (vc,st')=>some (p::vc,st')
  |none=>none
 |some (false,p)=>match ue st o.dst with
  |true=>some ([p],st.put o.dst (.one (.a .any)))
  |false=>none
def vp(P:Program)(ty:Tag→Nat)(Γ:Nat→TK)(cH:List (Nat×Nat))(cr:List (Nat×CR))(ops:List Oper):List Oper→St→List Prop→Option (List Prop×St)
 | [],st,acc=>some (acc,st)
 |o::r,st,acc=>match Hi P ty Γ cH cr ops st o with
  |some ([],⟨n,sl,hp⟩)=>vp P ty Γ cH cr ops r ⟨n,sl,hp⟩ (acc)
  |some ([p0],⟨n,sl,hp⟩)=>vp P ty Γ cH cr ops r ⟨n,sl,hp⟩ (p0::acc)
  |some ([p0,p1],⟨n,sl,hp⟩)=>vp P ty Γ cH cr ops r ⟨n,sl,hp⟩ (p0::p1::acc)
  |some ([p0,p1,p2],⟨n,sl,hp⟩)=>vp P ty Γ cH cr ops r ⟨n,sl,hp⟩ (p0::p1::p2::acc)
  |some ([p0,p1,p2,p3],⟨n,sl,hp⟩)=>vp P ty Γ cH cr ops r ⟨n,sl,hp⟩ (p0::p1::p2::p3::acc)
  |some ([p0,p1,p2,p3,p4],⟨n,sl,hp⟩)=>vp P ty Γ cH cr ops r ⟨n,sl,hp⟩ (p0::p1::p2::p3::p4::acc)
  |some ([p0,p1,p2,p3,p4,p5],⟨n,sl,hp⟩)=>vp P ty Γ cH cr ops r ⟨n,sl,hp⟩ (p0::p1::p2::p3::p4::p5::acc)
  |some (l,⟨n,sl,hp⟩)=>vp P ty Γ cH cr ops r ⟨n,sl,hp⟩ (l++acc)
  |none=>none
def adE(P:Program)(ty:Tag→Nat)(Γ:Nat→TK)(cH:List (Nat×Nat))(cr:List (Nat×CR))(ks hs:List Nat)(ops:List Oper):St→Option (List Prop×St)
 | ⟨n,I8,fQ⟩=>match vp P ty Γ cH cr ops ops ⟨n,I8,fQ⟩ []with
 |some (vc,st')=>match wP st'.sl ks,wQ st'.hp (Gz st'.sl st'.hp ks hs)with
  |some sl,some hp=>match ng sl hp,Nat.beq st'.n n with
   |true,true=>some (vc,⟨n,sl,hp⟩)
   |_,_=>none
  |_,_=>none
 |none=>none
section
variable{P:Program}{zb:cK}{st st':St}{a:Act}{w:World}{Q:Exit→Act→World→Prop}{o:Oper}
theorem gT.ung{ops:Array Oper}{K:Act→World→Prop}(hw:Region.wanted o (yielded ops a.tmps)=true)(h:gT P ops (ung o) a w K Q):gT P ops o a w K Q:=by
 unfold gT at h ⊢
 rw[if_pos (by simp[Region.wanted,G.ung])]at h
 rw[if_pos hw]
 exact h
theorem gT.as{ops:Array Oper}{op':Op}{K:Act→World→Prop}(he:execOp a.eval o=execOp a.eval {o with op:=op'})(hr:gT P ops {o with op:=op'} a w K Q):gT P ops o a w K Q:=by
 have hwp:o.wp P a w K Q↔Oper.wp P {o with op:=op'} a w K Q:=by
  unfold Oper.wp
  rw[he]
  rfl
 have has:o.asks P a w↔Oper.asks P {o with op:=op'} a w:=by
  unfold Oper.asks
  rw[he]
 unfold gT at hr ⊢
 rw[hwp,has]
 exact hr
theorem gT.pk{cr:List (Nat×CR)}{ops:Array Oper}{o':Oper}{p:Prop}{K:Act→World→Prop}(iv:Inv ty zb st a w)(h:G.pk cr st o=some (o',p))(hp:p)(hr:gT P ops o' a w K Q):gT P ops o a w K Q:=by
 unfold G.pk at h
 split at h
 case h_2=>cases h
 rename_i c x y ho
 split at h
 case h_2=>cases h
 rename_i z rs b hl hs
 simp only[oI,pI]at h
 obtain⟨rfl,rfl⟩:=h
 obtain⟨env,g⟩:=iv.good
 have hs1:=g.slot c _ hs
 have rB:a.eval (.tmp c)= .bool b:=(show fG w st.hp env (.a (.lit (.bool b))) (a.tmps.getD c undef)from hs1).lit
 subst hp
 cases b with
 |true=>exact gT.as (by unfold execOp;simp only[ho,rB];rfl) hr
 |false=>exact gT.as (by unfold execOp;simp only[ho,rB];rfl) hr
theorem Ln{Γ:Nat→TK}(C: ∀t,c8 P t (Γ t))(Z: ∀t,(∀z tg fo,Γ t≠ .st z tg fo)→Γ t≠ .other→(P.info? t).map (·.size)=some 1){cH:List (Nat×Nat)}{cr:List (Nat×CR)}{ops:List Oper}{vc:List Prop}(h:Hi P ty Γ cH cr ops st o=some (vc,st'))(iv:Inv ty zb st a w)(hv: ∀q,q∈vc→q):
  gT P ops.toArray o a w (fun a' w'=>Inv ty zb st' a' w') Q:=by
 have hgk: ∀{x:Bool} {p:Prop},gk cr ops st o=some (x,p)→p→(Region.wanted o (yielded ops.toArray a.tmps)=true↔x=true):=by
  intro x p hq hp
  unfold gk at hq
  split at hq
  case h_2=>cases hq
  rename_i j y hg
  split at hq
  case h_2=>cases hq
  rename_i q hj
  split at hq
  case h_2=>cases hq
  rename_i d hd
  split at hq
  case h_2=>cases hq
  rename_i z rs b hl hs
  simp only[oI,pI]at hq
  obtain⟨rfl,rfl⟩:=hq
  rw[lM hg (by simpa using hj) hd]
  obtain⟨env,g⟩:=iv.good
  have hs1:=g.slot d _ hs
  have rB:=(show fG w st.hp env (.a (.lit (.bool b))) (a.tmps.getD d undef)from hs1).lit
  rw[Array.getD_eq_getD_getElem?]at rB
  have hs3:a.tmps[d]? =some (.bool b):=by
   cases I7:a.tmps[d]? with
   |none=>rw[I7]at rB;simp[undef]at rB
   |some u=>rw[I7]at rB;simp only[Option.getD_some]at rB;rw[rB]
  rw[hs3]
  simp only[oI,Value.bool.injEq]
  subst hp
  constructor
  ·rintro rfl;simp
  ·intro h;exact(eq_of_beq h).symm
 unfold Hi at h
 split at h
 ·split at h
  ·rename_i o' p hq
   split at h
   case h_2=>cases h
   rename_i nM AI hs
   simp only[oI,pI]at h
   obtain⟨rfl,rfl⟩:=h
   have hp:p:=hv p (by simp)
   exact gT.pk iv hq hp (rP C Z hs iv fun q hq=>hv q (by simp[hq]))
  ·exact rP C Z h iv hv
 ·rename_i p hq
  split at h
  case h_2=>cases h
  rename_i nM AI hs
  simp only[oI,pI]at h
  obtain⟨rfl,rfl⟩:=h
  have hp:p:=hv p (by simp)
  exact gT.ung ((hgk hq hp).2 rfl) (rP C Z hs iv fun q hq=>hv q (by simp[hq]))
 ·rename_i p hq
  split at h
  case h_2=>cases h
  rename_i hd
  simp only[oI,pI]at h
  obtain⟨rfl,rfl⟩:=h
  have hp:p:=hv p (by simp)
  have hw: ¬Region.wanted o (yielded ops.toArray a.tmps)=true:=fun hw=>by have:=(hgk hq hp).1 hw;cases this
  unfold gT
  rw[if_neg hw]
  obtain⟨env,g⟩:=iv.good
  exact⟨by rw[gM,wN];exact iv.size,by rw[put_defers];exact iv.defers,iv.kept,iv.Ap,env,nN g (HH iv hd) trivial (fun d _=>rfl)⟩
theorem FD{Γ:Nat→TK}{cH:List (Nat×Nat)}{cr:List (Nat×CR)}{ops:List Oper}{mM:St}{vcs:List Prop}{o:Oper}{r:List Oper}{st:St}{acc:List Prop}(h:vp P ty Γ cH cr ops (o::r) st acc=some (vcs,mM)):
  ∃q:List Prop×St,Hi P ty Γ cH cr ops st o=some q∧vp P ty Γ cH cr ops r q.2 (q.1++acc)=some (vcs,mM):=by
 simp only[vp]at h
 repeat' split at h
 all_goals first
  | (cases h;done)
  | (rename_i h1;exact⟨_,h1,h⟩)
theorem Lo{Γ:Nat→TK}{cH:List (Nat×Nat)}{cr:List (Nat×CR)}{ops:List Oper}{mM:St}{vcs:List Prop}: ∀{l:List Oper} {st:St} {acc:List Prop},vp P ty Γ cH cr ops l st acc=some (vcs,mM)→ ∀q,q∈acc→q∈vcs
 | [],st,acc,h,q,hq=>by
   simp only[vp,oI,pI]at h
   rw[←h.1];exact hq
 |o::r,st,acc,h,q,hq=>by
  obtain⟨l,h⟩:=FD h
  exact Lo h.2 q (List.mem_append_right _ hq)
theorem O4{Γ:Nat→TK}(C: ∀t,c8 P t (Γ t))(Z: ∀t,(∀z tg fo,Γ t≠ .st z tg fo)→Γ t≠ .other→(P.info? t).map (·.size)=some 1){cH:List (Nat×Nat)}{cr:List (Nat×CR)}{ops:List Oper}{mM:St}{vcs:List Prop}
  (hQ: ∀a w,Inv ty zb mM a w→Q .normal a w): ∀{l:List Oper} {st:St} {acc:List Prop} {a:Act} {w:World},vp P ty Γ cH cr ops l st acc=some (vcs,mM)→(∀q,q∈vcs→q)→Inv ty zb st a w→wpList P ops.toArray Q l a w
 | [],st,acc,a,w,h,hv,iv=>by
   simp only[vp,oI,pI]at h
   obtain⟨_,rfl⟩:=h
   exact hQ a w iv
 |o::r,st,acc,a,w,h,hv,iv=>by
  obtain⟨⟨l,s1⟩,h1,h2⟩:=FD h
  have:=Ln (Q:=Q) C Z h1 iv (fun q hq=>hv q (Lo h2 q (List.mem_append_left _ hq)))
  exact this.mono fun a' w' kI=>O4 C Z hQ h2 hv kI
end
section
variable{P:Program}{Γ:Nat→TK}{zb:cK}{Q:Post}{st:St}
theorem O5(X:Ctx P ty Γ)(cH:List (Nat×Nat))(cr:List (Nat×CR))(ks hs:List Nat){id:Nat}{ops:List Oper}{vc:List Prop}{st':St}(h:G.adE P ty Γ cH cr ks hs ops st=some (vc,st'))(hv:lB vc)(k:Q .normal st'):W P ty zb (.region id ops.toArray false) Q st:=by
 intro a w iv
 have hsp: ∃s1,vp P ty Γ cH cr ops ops st []=some (vc,s1)∧ ∀a w,Inv ty zb s1 a w→Inv ty zb st' a w:=by
  obtain⟨n,I8,fQ⟩:=st
  simp only[G.adE]at h
  split at h
  ·rename_i nM s1 hr
   split at h
   ·rename_i sl hp h1 h2
    split at h
    ·rename_i hc hn
     simp only[oI,pI]at h
     obtain⟨rfl,rfl⟩:=h
     exact⟨s1,hr,fun a w iv=>iv.weaken (Nat.eq_of_beq_eq_true hn).symm (iC h1) (iD h2) hc⟩
    ·cases h
   ·cases h
  ·cases h
 obtain⟨s1,h1,h2⟩:=hsp
 exact wp_region_lit (O4 X.kind X.one (fun a w kI=>⟨st',h2 a w kI,k⟩) h1 hv.out iv)
end
end
end Go.Proofs.YtcnomgcfijjkmaaGreat.G
