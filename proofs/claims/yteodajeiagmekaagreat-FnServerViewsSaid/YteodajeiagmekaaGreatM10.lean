/-
  An immutable slice of a slot gets its value told: it may stand in memory that is lent.
-/
import Derived.Orders
import Derived.Test.YteodajeiagmekaaGreatM9
namespace Go.Proofs.YteodajeiagmekaaGreat.G
set_option linter.all false
open Go.RowKit L D
section
variable{ty:Tag→Nat}
def B8(Γ:Nat→TK)(E:Tag→Nat→Prop)(S:FuncId→List S1→List S1→Prop)(dc:List (Nat×Nat))(cr:List (Nat×CR))(ops:List Oper):List Oper→St→List Prop→Option (List Prop×St)
 | [],st,acc=>some (acc,st)
 |o::r,⟨n,sl,hp⟩,acc=>match o.dst with
  |some d=>match sl.any (fun e=>e.2.mentions d),l5 Γ E S dc cr ops ⟨n,sl,hp⟩ o with
   |false,some ([],v,os)=>B8 Γ E S dc cr ops r ⟨n,(d,v)::sl,mO os hp⟩ acc
   |false,some ([p],v,os)=>B8 Γ E S dc cr ops r ⟨n,(d,v)::sl,mO os hp⟩ (p::acc)
   |false,some ([p,q],v,os)=>B8 Γ E S dc cr ops r ⟨n,(d,v)::sl,mO os hp⟩ (p::q::acc)
   |false,some (l,v,os)=>B8 Γ E S dc cr ops r ⟨n,(d,v)::sl,mO os hp⟩ (l++acc)
   |_,_=>none
  |none=>none
structure TE where
 d:Nat
 v:SV
 os:Hp
def app(s:St)(e:TE):St:=⟨s.n,(e.d,e.v)::s.sl,e.os++s.hp⟩
theorem D8{Γ:Nat→TK}{E:Tag→Nat→Prop}{S:FuncId→List S1→List S1→Prop}{dc:List (Nat×Nat)}{cr:List (Nat×CR)}{ops:List Oper}{o:Oper}{r:List Oper}{st:St}{acc vcs:List Prop}{tU:St}(h:B8 Γ E S dc cr ops (o::r) st acc=some (vcs,tU)):
  ∃vc e,o.dst=some e.d∧(st.sl.any fun x=>x.2.mentions e.d)=false∧l5 Γ E S dc cr ops st o=some (vc,e.v,e.os)∧B8 Γ E S dc cr ops r (app st e) (vc++acc)=some (vcs,tU):=by
 obtain⟨n,sl,hp⟩:=st
 simp only[B8]at h
 split at h
 ·rename_i d hd
  split at h
  ·rename_i v os h1 h2;exact⟨[],⟨d,v,os⟩,hd,h1,h2,by simp only[dU]at h;exact h⟩
  ·rename_i p v os h1 h2;exact⟨[p],⟨d,v,os⟩,hd,h1,h2,by simp only[dU]at h;exact h⟩
  ·rename_i p q v os h1 h2;exact⟨[p,q],⟨d,v,os⟩,hd,h1,h2,by simp only[dU]at h;exact h⟩
  ·rename_i l v os _ _ _ h1 h2;exact⟨_,⟨d,v,os⟩,hd,h1,h2,by simp only[dU]at h;exact h⟩
  ·cases h
 ·cases h
def HD(sl:List (Nat×SV)):Bool:=sl.all fun e=>match e.2 with| .cond _ _=>false|_=>true
def Ze(P:Program)(ty:Tag→Nat)(Γ:Nat→TK)(dc:List (Nat×Nat))(cr:List (Nat×CR))(ks hs:List Nat)(m:Nat)(ops:List Oper):St→Option (List Prop×St)
 | ⟨n,QB,gG⟩=>match HD QB,B8 Γ (I2 P ty) (Sound ty P) dc cr ops (ops.take m) ⟨n,QB,gG⟩ []with
   |true,some (pO,s1)=>match run P ty Γ dc cr ops (ops.drop m) s1 pO with
    |some (vc,st')=>match Bz st'.sl ks,BA st'.hp (NH st'.sl st'.hp ks hs)with
     |some sl,some hp=>match rQ sl hp,Nat.beq st'.n n with
      |true,true=>some (vc,⟨n,sl,hp⟩)
      |_,_=>none
     |_,_=>none
    |none=>none
   |_,_=>none
def bU(o:Oper):List Nat:=o.after.toList.filterMap fun e=>if Region.binds .any e then some e.on else none
def iQ(acc:List Nat)(o:Oper):List Nat:=acc++ [(bU o).foldl (fun s j=>s|||2^j|||acc.getD j 0) 0]
def HE(ops:List Oper):List Nat:=ops.foldl iQ []
def tmpsOf(o:Oper):List Nat:=o.op.operands.toList.filterMap fun| .tmp t=>some t|_=>none
def yL(o:Oper)(t:Nat):Bool:=match o.dst with|some d=>Nat.beq d t|none=>false
def idx{α:Type}:Nat→List α→List (Nat×α)
 |_,[]=> []
 |i,x::r=>(i,x)::idx (i+1) r
def R6(A:List (Nat×Oper))(cl:List Nat)(i:Nat)(o:Oper):Bool:=
 (tmpsOf o).all fun t=>A.all fun e=> !(yL e.2 t)||Nat.beq e.1 i|| (bU o).any (Nat.beq e.1)|| (Nat.blt i e.1&&(cl.getD e.1 0).testBit i)
def NK(m:Nat)(i:Nat)(o:Oper):Bool:=match o.guard with
 |none=>true
 |some (j,_)=>Nat.blt j i&&Nat.blt j m&&(bU o).any (Nat.beq j)
def R7(A:List (Nat×Oper))(i:Nat)(o:Oper):Bool:=match o.dst with
 |some d=>A.all fun e=>Nat.beq e.1 i|| !(yL e.2 d)
 |none=>false
def chk(ops:List Oper)(m:Nat):Bool:=
 let cl:=HE ops
 let A:=idx 0 (ops.take m)
 (Nat.ble m ops.length)&&
 ((idx 0 ops).all fun e=>(bU e.2).all fun j=>Nat.blt j e.1)&&
 (A.all fun e=>R6 A cl e.1 e.2&&NK m e.1 e.2&&R7 A e.1 e.2)&&
 ((idx 0 ops).all fun e=>Nat.blt e.1 m|| (List.range e.1).all fun j=>(cl.getD e.1 0).testBit j)
end
section
variable{ty:Tag→Nat}
def Compat(hp iZ:Hp):Prop:= ∀n o o',look hp n=some o→look iZ n=some o'→o=o'
section
variable{zb:bY}{st T:St}{a:Act}{w:World}{env:Env}
theorem Jx(c:Compat st.hp T.hp){tg:Option Tag}{v x:V}{u:Value}(hr:RA w T.hp env v u)(h:oB st tg v=some x):oB T tg v=some x:=by
 cases v with
 |own n=>
  obtain⟨⟨t,l,hl⟩,_⟩:=hr
  simp only[oB]at h ⊢
  split at h
  ·rename_i t' l' hl'
   have:=c n _ _ hl' hl
   simp only[Obj.arr.injEq]at this
   obtain⟨rfl,kZ⟩:=this
   rw[hl]
   simp only[←eq_of_heq kZ]
   exact h
  ·cases h
 |sl t l=>exact h
 |vw n p t l=>exact h
 |mix n c t l=>exact h
 |Ag n=>
  obtain⟨⟨t,l,s,hl⟩,_⟩:=hr
  simp only[oB]at h ⊢
  split at h
  ·rename_i t' l' hl'
   have:=c n _ _ hl' hl
   rw[←this]at hl
   rw[hl];exact h
  ·rename_i t' l' m hl'
   have:=c n _ _ hl' hl
   rw[←this]at hl
   rw[hl];exact h
  ·cases h
 |lit v=>
  have e:oB T tg (.lit v)=oB st tg (.lit v):=by
   cases v with
   |slice a n c=>cases a<;>cases n<;>cases c<;>rfl
   |_=>rfl
  rw[e];exact h
 |_=>simp[oB]at h
theorem Gh(c:Compat st.hp T.hp): ∀{vs:List V} {tg:List (Option Tag)} {xs:List V} {us:List Value},bt (RA w T.hp env) vs us→IY st tg vs=some xs→IY T tg vs=some xs
 | [],_,xs,us,_,h=>h
 |v::r,tg,xs,us,hr,h=>by
  cases us with
  |nil=>exact hr.elim
  |cons u us=>
   simp only[IY]at h ⊢
   split at h
   ·rename_i x y h1 h2
    rw[Jx c hr.1 h1,Gh c hr.2 h2]
    exact h
   ·cases h
theorem PD(c:Compat st.hp T.hp){k:TK}{v x:S1}{u:Value}(hr:fP w T.hp env v u)(h:arg1 st k v=some x):arg1 T k v=some x:=by
 cases v with
 |a v=>
  simp only[arg1]at h ⊢
  split at h
  ·rename_i y hy
   rw[Jx c hr hy]
   exact h
  ·cases h
 |agg l=>
  obtain⟨cs,_,hl⟩:=hr
  simp only[arg1]at h ⊢
  split at h
  ·rename_i y hy
   rw[Gh c hl hy]
   exact h
  ·cases h
theorem yM{p:List (Nat×Bool)}{x:Operand}(hs: ∀t,x= .tmp t→look st.sl t=look T.sl t):Lm st p x=Lm T p x:=by
 cases x with
 |tmp t=>simp only[Lm,hs t rfl]
 |_=>rfl
theorem D9{p:List (Nat×Bool)}{x:Operand}(hs: ∀t,x= .tmp t→look st.sl t=look T.sl t):iO st p x=iO T p x:=by
 unfold iO
 rw[yM hs]
theorem PE{b:Bool}(c:Compat st.hp T.hp){k:TK}{v x:S1}{u:Value}(hr:fP w T.hp env v u)(h:Pf b st k v=some x):Pf b T k v=some x:=by
 unfold Pf at h ⊢
 split at h
 ·exact h
 ·exact PD c hr h
theorem Ay{b:Bool}{Γ:Nat→TK}(c:Compat st.hp T.hp)(g:Good ty zb T a.tmps w env){p:List (Nat×Bool)}(hp:holds a.tmps p): ∀{xs:List Operand} {ts:List Nat} {as:List S1},(∀x,x∈xs→ ∀t,x= .tmp t→look st.sl t=look T.sl t)→args b Γ st p xs ts=some as→args b Γ T p xs ts=some as
 | [],_,as,_,h=>h
 |x::r,ts,as,hs,h=>by
  simp only[args]at h ⊢
  rw[←D9 (st:=st) (T:=T) (hs x (by simp))]
  split at h
  ·rename_i v hv
   split at h
   ·rename_i y ys h1 h2
    have hr:=fC g hp (by rw[←D9 (hs x (by simp))];exact hv)
    rw[PE c hr h1,Ay c g hp (fun z hz=>hs z (List.mem_cons_of_mem _ hz)) h2]
    exact h
   ·cases h
  ·cases h
theorem L9(c:Compat st.hp T.hp){k:TK}{v:V}{u:Value}{n:Int}(hr:RA w T.hp env v u)(h:lenOf st k v=some n):lenOf T k v=some n:=by
 cases v with
 |own m=>
  obtain⟨⟨t,l,hl⟩,_⟩:=hr
  simp only[lenOf]at h ⊢
  split at h
  ·split at h
   ·rename_i t' l' hl'
    have:=c m _ _ hl' hl
    simp only[Obj.arr.injEq]at this
    obtain⟨rfl,kZ⟩:=this
    rw[hl]
    simp only[←eq_of_heq kZ]
    exact h
   ·cases h
  ·cases h
 |sl t l=>exact h
 |vw n p t l=>exact h
 |lit v=>
  have e:lenOf T k (.lit v)=lenOf st k (.lit v):=by
   cases v with
   |slice a n c=>cases a<;>cases n<;>cases c<;>rfl
   |_=>rfl
  rw[e];exact h
 |_=>simp[lenOf]at h
theorem HF(c:Compat st.hp T.hp){v:V}{u:Value}(hr:RA w T.hp env v u){l:List UInt8}(h:bytesOf st v=some l):bytesOf T v=some l:=by
 cases v with
 |own n=>
  obtain⟨⟨t,l2,j0⟩,_⟩:=hr
  simp only[bytesOf]at h ⊢
  split at h
  ·rename_i l3 Rw
   simp only[Option.some.injEq]at h
   subst h
   have:=c n _ _ Rw j0
   simp only[Obj.arr.injEq]at this
   obtain⟨rfl,kZ⟩:=this
   rw[j0]
   simp only[eq_of_heq kZ]
  ·cases h
 |sl t l=>
  have e:bytesOf T (.sl t l)=bytesOf st (.sl t l):=by cases t<;>rfl
  rw[e];exact h
 |vw n p t l=>
  have e:bytesOf T (.vw n p t l)=bytesOf st (.vw n p t l):=by cases t<;>rfl
  rw[e];exact h
 |lit v=>
  have e:bytesOf T (.lit v)=bytesOf st (.lit v):=by
   cases v with
   |slice a n c=>cases a<;>cases n<;>cases c<;>rfl
   |_=>rfl
  rw[e];exact h
 |_=>simp[bytesOf]at h
theorem BB{p:List (Nat×Bool)}{g:Tag}: ∀{xs:List (Nat×Operand)} {i:Nat},(∀x,x∈xs→iO st p x.2=iO T p x.2)→pM st p g i xs=pM T p g i xs
 | [],_,_=>rfl
 | (j,x)::r,i,h=>by
   simp only[pM]
   rw[h (j,x) (by simp),BB (fun y hy=>h y (List.mem_cons_of_mem _ hy))]
theorem Ea{p:List (Nat×Bool)}{n:Nat}{fo:List Nat}: ∀{xs:List (Nat×Operand)} {c:List V},(∀x,x∈xs→Lm st p x.2=Lm T p x.2)→sG st p n fo xs c=sG T p n fo xs c
 | [],_,_=>rfl
 | (j,x)::r,c,h=>by
   simp only[sG]
   rw[h (j,x) (by simp)]
   have: ∀c',sG st p n fo r c'=sG T p n fo r c':=fun c'=>Ea (fun y hy=>h y (List.mem_cons_of_mem _ hy))
   simp only[this]
theorem wY{p:List (Nat×Bool)}: ∀{xs:List Operand},(∀x,x∈xs→iO st p x=iO T p x)→yq st p xs=yq T p xs
 | [],_=>rfl
 |x::r,h=>by
  simp only[yq,Vj]
  rw[h x (by simp),wY (fun y hy=>h y (List.mem_cons_of_mem _ hy))]
theorem Az(c:Compat st.hp T.hp){v:V}{u:Value}(hr:RA w T.hp env v u){n:Nat}(hn:v.name=some n){o:Obj}(h:look st.hp n=some o):look T.hp n=some o:=by
 have: ∃o',look T.hp n=some o':=by
  cases v<;>simp only[V.name,Option.some.injEq,reduceCtorEq]at hn
  case own m=>subst hn;obtain⟨⟨t,l,hl⟩,_⟩:=hr;exact⟨_,hl⟩
  case ptr m off=>subst hn;obtain⟨⟨c,hl⟩,_⟩:=hr;exact⟨_,hl⟩
  case mM m i off=>subst hn;obtain⟨t,l,hl,_⟩:=hr;exact⟨_,hl⟩
  case vw m p t l=>subst hn;obtain⟨⟨t,l,hl⟩,_⟩:=hr;exact⟨_,hl⟩
  case BZ m t l=>subst hn;obtain⟨⟨t,l,hl⟩,_⟩:=hr;exact⟨_,hl⟩
  case mix m c t l=>subst hn;obtain⟨⟨t,l,hl⟩,_⟩:=hr;exact⟨_,hl⟩
  case Ag m=>subst hn;obtain⟨⟨t,l,s,hl⟩,_⟩:=hr;exact⟨_,hl⟩
  case Aj f m=>subst hn;obtain⟨⟨c,hl⟩,_⟩:=hr;exact⟨_,hl⟩
  case BY m p t x off=>subst hn;obtain⟨⟨t,l,hl⟩,_⟩:=hr;exact⟨_,hl⟩
 obtain⟨o',h'⟩:=this
 rw[c n _ _ h h'];exact h'
theorem AA(c:Compat st.hp T.hp): ∀{l d:List V} {n:Nat} {us:List Value},bt (RA w T.hp env) l us→wT st.hp l=some (d,n)→wT T.hp l=some (d,n)
 | [],_,_,_,_,h=>by simp[wT]at h
 |v::r,d,n,us,hr,h=>by
  cases us with
  |nil=>exact hr.elim
  |cons u us=>
   unfold wT at h
   split at h
   ·rename_i m r' he
    simp only[List.cons.injEq]at he
    obtain⟨rfl,rfl⟩:=he
    split at h
    ·rename_i t l hl oD
     have:=Az c hr.1 (n:=m) rfl hl
     simp only[wT,this,oD]
     exact h
    ·cases h
   ·rename_i m pp t l r' he
    simp only[List.cons.injEq]at he
    obtain⟨rfl,rfl⟩:=he
    split at h
    ·rename_i t0 l0 hl oD
     have:=Az c hr.1 (n:=m) rfl hl
     simp only[wT,this,oD]
     exact h
    ·cases h
   ·cases h
   ·rename_i x r' VP he
    simp only[List.cons.injEq]at he
    obtain⟨rfl,rfl⟩:=he
    split at h
    ·rename_i c' n' h'
     have:=AA c hr.2 h'
     unfold wT
     split
     ·rename_i e;simp at e
     ·rename_i e;simp at e
     ·rename_i e;simp only[List.cons.injEq,V.lit.injEq]at e;exact absurd e.1 (by rintro rfl;exact VP _ _ _ rfl)
     ·rename_i e
      simp only[List.cons.injEq,V.lit.injEq]at e
      obtain⟨rfl,rfl⟩:=e
      rw[this];exact h
     ·rename_i e1 e2 e3;exact absurd rfl (e3 _ _)
    ·cases h
   ·cases h
theorem quiet_mono{Γ:Nat→TK}{E:Tag→Nat→Prop}{S:FuncId→List S1→List S1→Prop}(c:Compat st.hp T.hp)(g:Good ty zb T a.tmps w env){p:List (Nat×Bool)}(hp:holds a.tmps p){cr:List (Nat×CR)}{d m:Nat}{op:Op}{out:Out}
  (hs: ∀x,x∈op.operands.toList→ ∀t,x= .tmp t→look st.sl t=look T.sl t)(h:quiet Γ E S cr st p d m op=some out):quiet Γ E S cr T p d m op=some out:=by
 have ho: ∀{q x},x∈op.operands.toList→iO st q x=iO T q x:=fun hx=>D9 (hs _ hx)
 have hr: ∀{x v},x∈op.operands.toList→iO st p x=some v→fP w T.hp env v (a.eval x):=fun hx hv=>fC g hp (by rw[←ho hx];exact hv)
 have rn: ∀{x v n o},x∈op.operands.toList→iO st p x=some (.a v)→v.name=some n→look st.hp n=some o→look T.hp n=some o:=fun hx hv hn hl=>Az c (hr hx hv) hn hl
 cases op with
 |move x=>
  have hm:Q7 st x=Q7 T x:=by
   cases x with
   |tmp t=>simp only[Q7];rw[hs (.tmp t) (by simp[Op.operands]) t rfl]
   |_=>rfl
  simp only[quiet]at h ⊢;rw[←yM (st:=st) (hs x (by simp[Op.operands])), ←hm];exact h
 |assign x=>
  have hm:Q7 st x=Q7 T x:=by
   cases x with
   |tmp t=>simp only[Q7];rw[hs (.tmp t) (by simp[Op.operands]) t rfl]
   |_=>rfl
  simp only[quiet]at h ⊢;rw[←yM (st:=st) (hs x (by simp[Op.operands])), ←hm];exact h
 |nilCheck x=>simp only[quiet]at h ⊢;rw[←ho (by simp[Op.operands])];exact h
 |makeSlice t x y=>simp only[quiet]at h ⊢;rw[←ho (x:=x) (by simp[Op.operands]), ←ho (x:=y) (by simp[Op.operands])];exact h
 |buildSlice t n xs=>
  simp only[quiet]at h ⊢
  have hq: ∀g,pM st p g 0 xs.toList=pM T p g 0 xs.toList:=fun g=>BB fun x hx=>ho (by simp only[Op.operands,List.mem_map];exact⟨x,hx,rfl⟩)
  simp only[←hq]
  split at h
  case h_2=>cases h
  rename_i gt e hk
  cases hkey:(look cr (d+500000)).isSome with
  |false=>simp only[hkey]at h ⊢;exact h
  |true=>
   simp only[hkey]at h ⊢
   split at h
   case h_2=>cases h
   rename_i x hlen hps
   split at h
   case h_2=>cases h
   rename_i s hx
   split at h
   case h_2=>cases h
   rename_i cc n1 hc
   have hmem:x∈(Op.buildSlice t n xs).operands.toList:=by
    simp only[Op.operands,List.mem_map,Array.toList_map]
    exact⟨(0,x),by rw[hps];simp,rfl⟩
   have hrx:=hr hmem hx
   have hown:wT T.hp (cellsOf s)=some (cc,n1):=by
    cases s with
    |agg l=>obtain⟨cs,_,hl⟩:=hrx;exact AA c hl hc
    |a v=>exact AA c (us:= [a.eval x]) ⟨hrx,trivial⟩ hc
   simp only[←ho hmem,hx,hown]
   exact h
 |build t xs=>
  simp only[quiet]at h ⊢
  have hq: ∀n fo z,sG st p n fo xs.toList z=sG T p n fo xs.toList z:=fun n fo z=>Ea fun x hx=>yM (hs _ (by simp only[Op.operands,List.mem_map];exact⟨x,hx,rfl⟩))
  simp only[←hq]
  exact h
 |pick x y z=>
  cases x with
  |tmp t=>
   simp only[quiet]at h ⊢
   rw[←ho (x:= .tmp t) (by simp[Op.operands]), ←ho (x:=y) (by simp[Op.operands]), ←ho (x:=z) (by simp[Op.operands])]
   exact h
  |_=>simp[quiet]at h
 |box e x=>simp only[quiet]at h ⊢;rw[←ho (by simp[Op.operands])];exact h
 |alloc t=>exact h
 |load t x=>
  have hm:x∈(Op.load t x).operands.toList:=by simp[Op.operands]
  simp only[quiet]at h ⊢
  rw[←ho hm]
  split at h
  ·rename_i n off hx
   try rw[hx]
   try dsimp only
   split at h
   ·rename_i c2 j0
    rw[rn hm hx rfl j0]
    exact h
   ·cases h
  ·rename_i hx
   try rw[hx]
   exact h
  ·rename_i hx
   try rw[hx]
   exact h
  ·rename_i n i off hx
   try rw[hx]
   try dsimp only
   split at h
   ·rename_i c2 j0
    rw[rn hm hx rfl j0]
    exact h
   ·cases h
  ·cases h
 |binOp op t x y t'=>
  simp only[quiet]at h ⊢
  rw[←ho (x:=x) (by simp[Op.operands]), ←ho (x:=y) (by simp[Op.operands])]
  exact h
 |unOp op t x=>
  cases op with
  |not=>simp only[quiet]at h ⊢;rw[←ho (by simp[Op.operands])];exact h
  |neg=>simp only[quiet]at h ⊢;rw[←ho (by simp[Op.operands])];exact h
  |_=>simp[quiet]at h
 |convert s t x=>
  simp only[quiet]at h ⊢
  rw[←ho (x:=x) (by simp[Op.operands])]
  split at h
  ·rename_i ik n k1 k2 hx hk1 hk2
   try rw[hx,hk1,hk2]
   exact h
  ·rename_i v g' e hx hk1 hk2
   try rw[hx,hk1,hk2]
   try dsimp only
   split at h
   ·rename_i l Rp hl
    rw[Rp,HF c (show RA w T.hp env v _ from hr (x:=x) (by simp[Op.operands]) hx) hl]
    exact h
   ·cases h
  ·cases h
 |slice t x lo hi mx=>
  cases mx with
  |some mx=>
   cases lo with
   |some _=>simp[quiet]at h
   |none=>
    cases hi with
    |none=>simp[quiet]at h
    |some hi=>
     have hb: ∀(y:Operand),y∈(Op.slice t x none (some hi) (some mx)).operands.toList→IJ st p 0 (some y)=IJ T p 0 (some y):=fun y hy=>by simp only[IJ];rw[ho hy]
     have hm:x∈(Op.slice t x none (some hi) (some mx)).operands.toList:=by simp[Op.operands]
     simp only[quiet]at h ⊢
     rw[←ho hm, ←hb hi (by simp[Op.operands]), ←hb mx (by simp[Op.operands])]
     split at h
     case h_2=>cases h
     rename_i hk
     try rw[hk]
     try dsimp only
     split at h
     case h_2=>cases h
     rename_i n n1 n2 hx h1 h2
     try rw[hx,h1,h2]
     try dsimp only
     split at h
     case h_2=>cases h
     rename_i t' l hl
     rw[rn hm hx rfl hl]
     exact h
  |none=>
   have hb: ∀(b:Option Operand),(∀y,b=some y→y∈(Op.slice t x lo hi none).operands.toList)→ ∀z,IJ st p z b=IJ T p z b:=by
    intro b hm z
    cases b with
    |none=>rfl
    |some y=>simp only[IJ];rw[ho (hm y rfl)]
   have hm:x∈(Op.slice t x lo hi none).operands.toList:=by simp[Op.operands]
   simp only[quiet]at h ⊢
   rw[←ho hm, ←hb lo (by rintro y rfl;simp[Op.operands])]
   simp only[←hb hi (by rintro y rfl;simp[Op.operands])]
   cases hkey:(look cr (d+600000)).isSome with
   |true=>simp only[hkey]at h ⊢;exact h
   |false=>
    simp only[hkey]at h ⊢
    split at h
    ·split at h
     ·rename_i hx hlo
      try rw[hx,hlo]
      exact h
     ·rename_i hx hlo
      try rw[hx,hlo]
      exact h
     ·rename_i hx hlo
      try rw[hx,hlo]
      try dsimp only
      split at h
      ·rename_i j0
       rw[rn hm hx rfl j0]
       exact h
      ·cases h
     ·cases h
    ·exact h
    ·cases h
 |makeFunc fn first captured=>
  cases fn with
  |func f=>
   simp only[quiet]at h ⊢
   split at h
   ·rename_i x hf hc
    try rw[hf,hc]
    try dsimp only
    have hm:x∈(Op.makeFunc (.func f) first captured).operands.toList:=by simp only[Op.operands,Array.toList_append,hf,hc];simp
    have e:=ho (q:=p) hm
    rw[←e]
    exact h
   ·cases h
  |_=>simp[quiet]at h
 |fieldAddr t x f=>
  simp only[quiet]at h ⊢
  rw[←ho (x:=x) (by simp[Op.operands])]
  exact h
 |indexAddr t x i=>
  have hm:x∈(Op.indexAddr t x i).operands.toList:=by simp[Op.operands]
  simp only[quiet]at h ⊢
  rw[←ho hm, ←ho (x:=i) (by simp[Op.operands])]
  split at h
  ·split at h
   ·rename_i hx hi
    try rw[hx,hi]
    exact h
   ·rename_i hx hi
    try rw[hx,hi]
    try dsimp only
    split at h
    ·rename_i j0
     rw[rn hm hx rfl j0]
     exact h
    ·cases h
   ·rename_i hx hi
    try rw[hx,hi]
    exact h
   ·cases h
  ·cases h
 |extract x i=>
  cases x with
  |tmp t=>simp only[quiet]at h ⊢;rw[←hs (.tmp t) (by simp[Op.operands]) t rfl];exact h
  |_=>simp[quiet]at h
 |call cl=>
  obtain⟨callee,xs,ts⟩:=cl
  have hop: ∀x,x∈xs.toList→x∈(Op.call ⟨callee,xs,ts⟩).operands.toList:=by
   intro x hx
   simp only[Op.operands,Call.operands,Array.toList_append]
   exact List.mem_append_right _ hx
  cases callee with
  |value x=>
   cases x with
   |func f=>
    simp only[quiet]at h ⊢
    split at h
    ·rename_i as c1 h1 h2
     rw[Ay c g hp (fun x hx=>hs x (hop x hx)) h1,h2]
     exact h
    ·cases h
   |tmp y=>
    simp only[quiet]at h ⊢
    rw[←ho (x:= .tmp y) (by simp[Op.operands,Call.operands])]
    split at h
    ·rename_i v hv
     try rw[hv]
     try dsimp only
     split at h
     ·rename_i f hf
      try rw[hf]
      try dsimp only
      split at h
      ·rename_i as c1 h1 h2
       rw[Ay c g hp (fun x hx=>hs x (hop x hx)) h1,h2]
       exact h
      ·cases h
     ·cases h
    ·cases h
   |_=>simp[quiet]at h
  |builtin b=>
   cases b with
   |len=>
    simp only[quiet]at h ⊢
    split at h
    ·rename_i x t hxl htl
     have hm:x∈xs.toList:=by rw[hxl];simp
     try rw[hxl,htl]
     try dsimp only
     rw[←ho (hop x hm)]
     split at h
     ·rename_i v hv
      try rw[hv]
      try dsimp only
      split at h
      ·rename_i n hn
       rw[L9 c (show RA w T.hp env v _ from hr (hop x hm) hv) hn]
       exact h
      ·cases h
     ·cases h
    ·cases h
   |append=>
    simp only[quiet]at h ⊢
    split at h
    case h_2=>cases h
    rename_i x y t1 t2 hkey hxl htl
    try rw[hkey,hxl,htl]
    try dsimp only
    have Lo:x∈xs.toList:=by rw[hxl];simp
    have hmy:y∈xs.toList:=by rw[hxl];simp
    rw[←ho (hop x Lo), ←ho (hop y hmy)]
    exact h
   |max=>simp only[quiet]at h ⊢;rw[←wY (st:=st) (T:=T) (xs:=xs.toList) (fun x hx=>ho (hop x hx))];exact h
   |min=>simp only[quiet]at h ⊢;rw[←wY (st:=st) (T:=T) (xs:=xs.toList) (fun x hx=>ho (hop x hx))];exact h
   |_=>simp[quiet]at h
  |invoke _ _=>simp[quiet]at h
 |_=>simp[quiet]at h
theorem PF{p:List (Nat×Bool)}(hs: ∀e,e∈p→look st.sl e.1=look T.sl e.1):hyps st p=hyps T p:=by
 induction p with
 |nil=>rfl
 |cons e r ih=>
  obtain⟨d,x⟩:=e
  simp only[hyps]
  rw[hs (d,x) (by simp),ih fun e he=>hs e (by simp[he])]
theorem Eb{Γ:Nat→TK}{E:Tag→Nat→Prop}{S:FuncId→List S1→List S1→Prop}(c:Compat st.hp T.hp)(g:Good ty zb T a.tmps w env)(hn:T.n=st.n){dc:List (Nat×Nat)}{cr:List (Nat×CR)}{ops:List Oper}{o:Oper}{p:List (Nat×Bool)}(fN:fB st ops o=some p)(jc:fB T ops o=some p)(hp:holds a.tmps p)
  (hs: ∀x,x∈o.op.operands.toList→ ∀t,x= .tmp t→look st.sl t=look T.sl t)(hps: ∀e,e∈p→look st.sl e.1=look T.sl e.1){vc:List Prop}{v:SV}{os:Hp}(hf:fresh T.hp os=true)(h:l5 Γ E S dc cr ops st o=some (vc,v,os)):
  l5 Γ E S dc cr ops T o=some (vc,v,os):=by
 have hd:wE T o.dst=wE st o.dst:=by unfold wE;rw[hn]
 simp only[l5]at h ⊢
 rw[hd,jc]
 rw[fN]at h
 split at h
 ·rename_i m e1 e2 e3
  simp only[Option.some.injEq]at e3
  subst e3
  try rw[e1,e2]
  try dsimp only
  split at h
  ·rename_i pO v1 os1 hq
   rw[quiet_mono c g hp hs hq]
   try dsimp only
   split at h
   ·rename_i h1 h2
    simp only[Option.some.injEq,Prod.mk.injEq]at h
    obtain⟨rfl,rfl,rfl⟩:=h
    simp only[hf,h2]
   ·cases h
  ·cases h
 ·rename_i m e p' e1 e2 e3
  simp only[Option.some.injEq]at e3
  subst e3
  try rw[e1,e2]
  try dsimp only
  split at h
  ·rename_i h1
   try rw[h1]
   try dsimp only
   split at h
   ·rename_i pO v1 hq
    rw[quiet_mono c g hp hs hq]
    try dsimp only
    rw[←PF hps]
    exact h
   ·cases h
  ·cases h
 ·cases h
end
end
section
variable{ty:Tag→Nat}
def cU(oM:Nat→Bool)(tr:List TE)(s:St):Nat→St
 |0=>s
 |i+1=>match oM i,tr[i]? with
  |true,some e=>app (cU oM tr s i) e
  |_,_=>cU oM tr s i
abbrev pre(tr:List TE)(s:St)(i:Nat):St:=cU (fun _=>true) tr s i
structure Trace(Γ:Nat→TK)(E:Tag→Nat→Prop)(S:FuncId→List S1→List S1→Prop)(dc:List (Nat×Nat))(cr:List (Nat×CR))(ops:List Oper)(m:Nat)(s:St)(tr:List TE)(vcs:List Prop):Prop where
 len:tr.length=m
 one: ∀i,i<m→ ∃o e vc,ops[i]? =some o∧tr[i]? =some e∧o.dst=some e.d∧((pre tr s i).sl.any fun x=>x.2.mentions e.d)=false∧l5 Γ E S dc cr ops (pre tr s i) o=some (vc,e.v,e.os)∧ ∀q,q∈vc→q∈vcs
theorem Jy{Γ:Nat→TK}{E:Tag→Nat→Prop}{S:FuncId→List S1→List S1→Prop}{dc:List (Nat×Nat)}{cr:List (Nat×CR)}{ops:List Oper}: ∀{l:List Oper} {st tU:St} {acc vcs:List Prop},B8 Γ E S dc cr ops l st acc=some (vcs,tU)→ ∀q,q∈acc→q∈vcs
 | [],st,tU,acc,vcs,h,q,hq=>by
   simp only[B8,Option.some.injEq,Prod.mk.injEq]at h
   rw[←h.1];exact hq
 |o::r,st,tU,acc,vcs,h,q,hq=>by
  obtain⟨vc,e,_,_,_,h2⟩:=D8 h
  exact Jy h2 q (List.mem_append_right _ hq)
theorem qg(oM:Nat→Bool)(e:TE)(tr:List TE)(s:St)(h:oM 0=true): ∀i,cU oM (e::tr) s (i+1)=cU (fun j=>oM (j+1)) tr (app s e) i
 |0=>by simp[cU,h]
 |i+1=>by
  rw[cU,qg oM e tr s h i,cU]
  simp only[List.getElem?_cons_succ]
theorem Jz{Γ:Nat→TK}{E:Tag→Nat→Prop}{S:FuncId→List S1→List S1→Prop}{dc:List (Nat×Nat)}{cr:List (Nat×CR)}{ops:List Oper}: ∀{l:List Oper} {k:Nat} {st tU:St} {acc vcs:List Prop},B8 Γ E S dc cr ops l st acc=some (vcs,tU)→(∀i o,l[i]? =some o→ops[k+i]? =some o)→
  ∃tr:List TE,tr.length=l.length∧tU=pre tr st l.length∧ ∀i,i<l.length→ ∃o e vc,ops[k+i]? =some o∧tr[i]? =some e∧o.dst=some e.d∧((pre tr st i).sl.any fun x=>x.2.mentions e.d)=false∧l5 Γ E S dc cr ops (pre tr st i) o=some (vc,e.v,e.os)∧ ∀q,q∈vc→q∈vcs
 | [],k,st,tU,acc,vcs,h,_=>by
   simp only[B8,Option.some.injEq,Prod.mk.injEq]at h
   exact⟨[],rfl,h.2.symm,fun i hi=>absurd hi (by simp)⟩
 |o::r,k,st,tU,acc,vcs,h,hk=>by
  obtain⟨vc,e,h1,h2,h3,h4⟩:=D8 h
  obtain⟨tr,q1,q2,q3⟩:=Jz (k:=k+1) h4 (fun i o' ho=>by
   have:=hk (i+1) o' (by simpa using ho)
   rw[show k+1+i=k+(i+1)by omega];exact this)
  refine⟨e::tr,by simp[q1],?_,?_⟩
  ·rw[q2,List.length_cons]
   exact(qg (fun _=>true) e tr st rfl _).symm
  ·intro i hi
   cases i with
   |zero=>exact⟨o,e,vc,hk 0 o rfl,rfl,h1,h2,h3,fun q hq=>Jy h4 q (List.mem_append_left _ hq)⟩
   |succ i=>
    obtain⟨o',e',Zf,p1,p2,p3,p4,p5,p6⟩:=q3 i (by simpa using hi)
    refine⟨o',e',Zf,by rw[show k+(i+1)=k+1+i by omega];exact p1,by simpa using p2,p3,?_,?_,p6⟩
    ·rw[pre,qg (fun _=>true) e tr st rfl i];exact p4
    ·rw[pre,qg (fun _=>true) e tr st rfl i];exact p5
section
variable{oM inE:Nat→Bool}{tr:List TE}{s:St}
theorem l8{i:Nat}{e:TE}(h:oM i=true)(he:tr[i]? =some e):cU oM tr s (i+1)=app (cU oM tr s i) e:=by rw[cU,h,he]
theorem yN{i:Nat}(h:oM i=false):cU oM tr s (i+1)=cU oM tr s i:=by rw[cU,h]
theorem oN: ∀i,(cU oM tr s i).n=s.n
 |0=>rfl
 |i+1=>by
  rw[cU]
  split
  ·exact oN i
  ·exact oN i
theorem gh: ∀{i j:Nat} {e:TE},j<i→oM j=true→tr[j]? =some e→(∀j' e',j'<i→oM j'=true→tr[j']? =some e'→e'.d=e.d→j'=j)→look (cU oM tr s i).sl e.d=some e.v
 |i+1,j,e,hj,hin,he,hd=>by
  by_cases hij:j=i
  ·subst hij
   rw[l8 hin he];exact look_eq
  ·have ih:=gh (i:=i) (j:=j) (by omega) hin he (fun j' e' h1 h2 h3 h4=>hd j' e' (by omega) h2 h3 h4)
   rw[cU]
   split
   ·rename_i e' h1 h2
    have hne:e.d≠e'.d:=fun hh=>by
     have:=hd i e' (by omega) h1 h2 hh.symm
     omega
    show look ((e'.d,e'.v)::_) e.d=_
    rw[aU hne];exact ih
   ·exact ih
theorem jo: ∀{i:Nat} {t:Nat},(∀j e,j<i→oM j=true→tr[j]? =some e→e.d≠t)→look (cU oM tr s i).sl t=look s.sl t
 |0,_,_=>rfl
 |i+1,t,h=>by
  have ih:=jo (i:=i) (t:=t) fun j e h1 h2 h3=>h j e (by omega) h2 h3
  rw[cU]
  split
  ·rename_i e' h1 h2
   have hne:t≠e'.d:=fun hh=>h i e' (by omega) h1 h2 hh.symm
   show look ((e'.d,e'.v)::_) t=_
   rw[aU hne];exact ih
  ·exact ih
theorem CI: ∀{i:Nat} {x:Nat×SV},x∈(cU oM tr s i).sl→x∈s.sl∨ ∃j e,j<i∧oM j=true∧tr[j]? =some e∧x=(e.d,e.v)
 |0,_,h=>Or.inl h
 |i+1,x,h=>by
  rw[cU]at h
  split at h
  ·rename_i e' h1 h2
   rcases List.mem_cons.1 (show x∈(e'.d,e'.v)::(cU oM tr s i).sl from h)with rfl|h
   ·exact Or.inr ⟨i,e',by omega,h1,h2,rfl⟩
   ·rcases CI h with h| ⟨j,e,a,b⟩
    ·exact Or.inl h
    ·exact Or.inr ⟨j,e,by omega,b⟩
  ·rcases CI h with h| ⟨j,e,a,b⟩
   ·exact Or.inl h
   ·exact Or.inr ⟨j,e,by omega,b⟩
def tW(tr:List TE)(s:St)(m:Nat):Prop:= ∀i e,i<m→tr[i]? =some e→ ∀n o,look e.os n=some o→look (pre tr s i).hp n=none
theorem tX{m:Nat}(hf:tW tr s m): ∀{j i:Nat},i≤j→j≤m→ ∀{n o},look (pre tr s i).hp n=some o→look (pre tr s j).hp n=some o
 |0,i,hi,_,n,o,h=>by
  have:i=0:=by omega
  subst this;exact h
 |j+1,i,hi,hm,n,o,h=>by
  by_cases hij:i=j+1
  ·subst hij;exact h
  ·have ih:=tX hf (j:=j) (i:=i) (by omega) (by omega) h
   show look (cU (fun _=>true) tr s (j+1)).hp n=_
   rw[cU]
   split
   ·rename_i e' _ h2
    show look (e'.os++(pre tr s j).hp) n=_
    cases hq:look e'.os n with
    |none=>rw[aS hq];exact ih
    |some o'=>
     have:=hf j e' (by omega) h2 n o' hq
     rw[this]at ih;cases ih
   ·exact ih
theorem nO{m:Nat}(hf:tW tr s m): ∀{i:Nat},i≤m→ ∀{n o},look (cU oM tr s i).hp n=some o→look (pre tr s i).hp n=some o
 |0,_,n,o,h=>h
 |i+1,hm,n,o,h=>by
  rw[cU]at h
  split at h
  ·rename_i e' h1 h2
   have h:look (e'.os++(cU oM tr s i).hp) n=some o:=h
   rw[pre,l8 rfl h2]
   show look (e'.os++(pre tr s i).hp) n=some o
   cases hq:look e'.os n with
   |none=>rw[aS hq]at h ⊢;exact nO hf (by omega) h
   |some o'=>rw[bJ hq]at h ⊢;exact h
  ·exact tX hf (Nat.le_succ i) hm (nO hf (by omega) h)
theorem gC: ∀{i:Nat} {n:Nat} {o:Obj},look (cU oM tr s i).hp n=some o→look s.hp n=some o∨ ∃j e,j<i∧oM j=true∧tr[j]? =some e∧look e.os n=some o
 |0,_,_,h=>Or.inl h
 |i+1,n,o,h=>by
  rw[cU]at h
  split at h
  ·rename_i e' h1 h2
   have h:look (e'.os++(cU oM tr s i).hp) n=some o:=h
   cases hq:look e'.os n with
   |none=>
    rw[aS hq]at h
    rcases gC h with h| ⟨j,e,a,b⟩
    ·exact Or.inl h
    ·exact Or.inr ⟨j,e,by omega,b⟩
   |some o'=>
    rw[bJ hq]at h
    exact Or.inr ⟨i,e',by omega,h1,h2,by rw[hq];exact h⟩
  ·rcases gC h with h| ⟨j,e,a,b⟩
   ·exact Or.inl h
   ·exact Or.inr ⟨j,e,by omega,b⟩
theorem oO{m:Nat}(hf:tW tr s m): ∀{i:Nat},i≤m→ ∀{n o},look s.hp n=some o→look (cU oM tr s i).hp n=some o
 |0,_,n,o,h=>h
 |i+1,hm,n,o,h=>by
  have ih:=oO hf (i:=i) (by omega) h
  rw[cU]
  split
  ·rename_i e' h1 h2
   show look (e'.os++(cU oM tr s i).hp) n=some o
   cases hq:look e'.os n with
   |none=>rw[aS hq];exact ih
   |some o'=>
    have h1:=hf i e' (by omega) h2 n o' hq
    have h3:=nO hf (by omega) ih
    rw[h1]at h3;cases h3
  ·exact ih
theorem nD{m:Nat}(hf:tW tr s m): ∀{i:Nat},i≤m→ ∀{j:Nat} {e:TE} {n:Nat} {o:Obj},j<i→oM j=true→tr[j]? =some e→look e.os n=some o→look (cU oM tr s i).hp n=some o
 |i+1,hm,j,e,n,o,hj,hin,he,h=>by
  by_cases hij:j=i
  ·subst hij
   rw[l8 hin he]
   exact bJ h
  ·have ih:=nD hf (i:=i) (by omega) (j:=j) (by omega) hin he h
   rw[cU]
   split
   ·rename_i e' h1 h2
    show look (e'.os++(cU oM tr s i).hp) n=some o
    cases hq:look e'.os n with
    |none=>rw[aS hq];exact ih
    |some o'=>
     have h1:=hf i e' (by omega) h2 n o' hq
     have h3:=nO hf (by omega) ih
     rw[h1]at h3;cases h3
   ·exact ih
end
theorem Ec{hp:Hp}: ∀{os:Hp},(∀n o,look os n=some o→look hp n=none∧jk n=false)→fresh hp os=true
 | [],_=>rfl
 | (n,x)::r,h=>by
   simp only[fresh,Bool.and_eq_true]
   obtain⟨h1,h2⟩:=h n x look_eq
   refine⟨⟨by rw[h1],by rw[h2];rfl⟩,Ec fun k o hk=> ?_⟩
   by_cases hkn:k=n
   ·subst hkn;exact h k x look_eq
   ·exact h k o (by rw[aU hkn];exact hk)
theorem Good.congr{zb:bY}{st st':St}{tmps:Array Value}{w:World}{env:Env}(g:Good ty zb st tmps w env)(hs: ∀s v,look st'.sl s=some v→look st.sl s=some v)(hh: ∀n,look st'.hp n=look st.hp n):Good ty zb st' tmps w env:=by
 have s:Step (fun _=>True) (fun _=>True) w st.hp env w st'.hp env:=by
  refine⟨fun _ _ _=>rfl,?_,?_,?_⟩
  ·rintro b _ ⟨n,o,h1,h2⟩;exact⟨n,o,by rw[←hh];exact h1,h2⟩
  ·intro n o _ h1
   exact⟨o,by rw[hh];exact h1,by cases o<;>simp[Obj.like],rfl⟩
  ·intro n t l _ h1
   exact⟨by rw[hh];exact h1,rfl,fun _ _=>rfl⟩
 refine⟨fun n o hl=> ?_,fun n m o o' hne h1 h2=>g.kW n m o o' hne (by rw[←hh];exact h1) (by rw[←hh];exact h2),fun t v hl=>p8.step s (fun v _=>v.eY) (g.slot t v (hs t v hl)),fun n o hl=>g.dom n o (by rw[←hh];exact hl),g.pins⟩
 exact(g.obj n o (by rw[←hh];exact hl)).step s o.eY (fun _ _=>rfl)
end
section
variable{ty:Tag→Nat}
theorem yO{α:Type}: ∀{l:List α} {k i:Nat} {x:α},l[i]? =some x→(k+i,x)∈idx k l
 |y::r,k,0,x,h=>by simp at h;simp[idx,h]
 |y::r,k,i+1,x,h=>by
  have:=yO (l:=r) (k:=k+1) (i:=i) (by simpa using h)
  rw[idx];right
  rw[show k+(i+1)=k+1+i by omega];exact this
structure Chk(ops:List Oper)(m:Nat):Prop where
 le:m≤ops.length
 back: ∀i o,ops[i]? =some o→ ∀j,j∈bU o→j<i
 uses: ∀i o,i<m→ops[i]? =some o→ ∀t,t∈tmpsOf o→ ∀k o',k<m→ops[k]? =some o'→o'.dst=some t→k=i∨k∈bU o∨(i<k∧((HE ops).getD k 0).testBit i=true)
 guard: ∀i o j x,i<m→ops[i]? =some o→o.guard=some (j,x)→j<i∧j<m∧j∈bU o
 dist: ∀i o k o' d,i<m→k<m→ops[i]? =some o→ops[k]? =some o'→o.dst=some d→o'.dst=some d→k=i
 tail: ∀i o,m≤i→ops[i]? =some o→ ∀j,j<i→((HE ops).getD i 0).testBit j=true
theorem Zg{ops:List Oper}{m:Nat}(h:chk ops m=true):Chk ops m:=by
 simp only[chk,Bool.and_eq_true,List.all_eq_true,Bool.or_eq_true]at h
 obtain⟨⟨⟨h1,h2⟩,h3⟩,h4⟩:=h
 have hA: ∀{i o},i<m→ops[i]? =some o→(i,o)∈idx 0 (ops.take m):=by
  intro i o hi ho
  have:=yO (l:=ops.take m) (k:=0) (i:=i) (x:=o) (by rw[List.getElem?_take,if_pos hi];exact ho)
  simpa using this
 have hall: ∀{i o},ops[i]? =some o→(i,o)∈idx 0 ops:=by
  intro i o ho
  simpa using yO (l:=ops) (k:=0) ho
 refine⟨Nat.le_of_ble_eq_true h1,fun i o ho j hj=> ?_,fun i o hi ho t ht k o' hk ho' hd=> ?_,fun i o j x hi ho hg=> ?_,fun i o k o' d hi hk ho ho' hd hd'=> ?_,fun i o hi ho j hj=> ?_⟩
 ·have:=h2 _ (hall ho) j hj
  exact Nat.le_of_ble_eq_true this
 ·have hu:=(h3 _ (hA hi ho)).1.1
  simp only[R6,List.all_eq_true,Bool.or_eq_true,Bool.not_eq_true',List.any_eq_true,Bool.and_eq_true]at hu
  have hdi:yL o' t=true:=by simp[yL,hd]
  rcases hu t ht _ (hA hk ho')with((q|q)|q)|q
  ·rw[hdi]at q;cases q
  ·exact Or.inl (Nat.eq_of_beq_eq_true q)
  ·obtain⟨y,hy,q⟩:=q
   have hky:k=y:=Nat.eq_of_beq_eq_true q
   exact Or.inr (Or.inl (by rw[hky];exact hy))
  ·exact Or.inr (Or.inr ⟨Nat.le_of_ble_eq_true q.1,q.2⟩)
 ·have hgd:=(h3 _ (hA hi ho)).1.2
  simp only[NK,hg,Bool.and_eq_true,List.any_eq_true]at hgd
  obtain⟨⟨q1,q2⟩,y,hy,q3⟩:=hgd
  have:=Nat.eq_of_beq_eq_true q3
  exact⟨Nat.le_of_ble_eq_true q1,Nat.le_of_ble_eq_true q2,by rw[this];exact hy⟩
 ·have hds:=(h3 _ (hA hi ho)).2
  simp only[R7,hd,List.all_eq_true,Bool.or_eq_true,Bool.not_eq_true']at hds
  rcases hds _ (hA hk ho')with q|q
  ·exact Nat.eq_of_beq_eq_true q
  ·simp[yL,hd']at q
 ·rcases h4 _ (hall ho)with q|q
  ·have:=Nat.le_of_ble_eq_true q
   simp only at this
   omega
  ·exact q j (List.mem_range.2 hj)
theorem NL: ∀(l:List Oper) (acc:List Nat),(∀j,j<acc.length→(l.foldl iQ acc).getD j 0=acc.getD j 0)∧
  ∀i o,l[i]? =some o→(∀j,j∈bU o→j<acc.length+i)→(l.foldl iQ acc).getD (acc.length+i) 0=(bU o).foldl (fun s j=>s|||2^j||| (l.foldl iQ acc).getD j 0) 0
 | [],acc=>⟨fun _ _=>rfl,fun i o h=>by simp at h⟩
 |o::r,acc=>by
  obtain⟨h1,h2⟩:=NL r (iQ acc o)
  have hl:(iQ acc o).length=acc.length+1:=by simp[iQ]
  have ha: ∀j,j<acc.length→((o::r).foldl iQ acc).getD j 0=acc.getD j 0:=by
   intro j hj
   rw[List.foldl_cons,h1 j (by omega)]
   simp only[iQ,List.getD_eq_getElem?_getD]
   rw[List.getElem?_append_left hj]
  refine⟨ha,fun i o' ho hj=> ?_⟩
  cases i with
  |zero=>
   simp at ho
   subst ho
   rw[Nat.add_zero,List.foldl_cons,h1 _ (by omega)]
   have:(iQ acc o).getD acc.length 0=(bU o).foldl (fun s j=>s|||2^j|||acc.getD j 0) 0:=by
    simp[iQ,List.getD_eq_getElem?_getD]
   rw[this]
   have abE: ∀(es:List Nat) (s0:Nat),(∀j,j∈es→j<acc.length)→es.foldl (fun s j=>s|||2^j|||acc.getD j 0) s0=es.foldl (fun s j=>s|||2^j||| (r.foldl iQ (iQ acc o)).getD j 0) s0:=by
    intro es
    induction es with
    |nil=>intros;rfl
    |cons j es ih=>
     intro s0 hh
     rw[List.foldl_cons,List.foldl_cons,ih _ fun k hk=>hh k (by simp[hk])]
     have:=ha j (hh j (by simp))
     rw[List.foldl_cons]at this
     rw[this]
   exact abE _ _ fun j hjj=>by simpa using hj j hjj
  |succ i=>
   have:=h2 i o' (by simpa using ho) (fun j hjj=>by rw[hl];have:=hj j hjj;omega)
   rw[hl,show acc.length+1+i=acc.length+(i+1)by omega]at this
   rw[List.foldl_cons];exact this
theorem Ed(g:Nat→Nat)(k:Nat): ∀(es:List Nat) (s0:Nat),(es.foldl (fun s j=>s|||2^j|||g j) s0).testBit k=true→s0.testBit k=true∨ ∃j,j∈es∧(k=j∨(g j).testBit k=true)
 | [],s0,h=>Or.inl h
 |j::es,s0,h=>by
  rcases Ed g k es _ h with h| ⟨i,hi,h⟩
  ·rw[Nat.testBit_or,Nat.testBit_or,Nat.testBit_two_pow]at h
   simp only[Bool.or_eq_true,decide_eq_true_eq]at h
   rcases h with(h|h)|h
   ·exact Or.inl h
   ·exact Or.inr ⟨j,by simp,Or.inl h.symm⟩
   ·exact Or.inr ⟨j,by simp,Or.inr h⟩
  ·exact Or.inr ⟨i,by simp[hi],h⟩
theorem tY{ops:List Oper}(hb: ∀i o,ops[i]? =some o→ ∀j,j∈bU o→j<i){D:Nat→Prop}(hD: ∀i o,D i→ops[i]? =some o→ ∀j,j∈bU o→D j): ∀(i:Nat) (o:Oper),ops[i]? =some o→(∀j,j∈bU o→D j)→ ∀k,((HE ops).getD i 0).testBit k=true→D k:=by
 intro i
 induction i using Nat.strongRecOn with
 |_ i ih=>
  intro o ho he k hk
  have:=(NL ops []).2 i o ho (fun j hj=>by simpa using hb i o ho j hj)
  simp only[List.length_nil,Nat.zero_add]at this
  have hc:(HE ops).getD i 0=(bU o).foldl (fun s j=>s|||2^j||| (HE ops).getD j 0) 0:=this
  rw[hc]at hk
  rcases Ed _ k _ _ hk with h| ⟨j,hj,h⟩
  ·simp at h
  ·rcases h with rfl|h
   ·exact he k hj
   ·have hji:=hb i o ho j hj
    have hlen:j<ops.length:=by have:=(List.getElem?_eq_some_iff.1 ho).1;omega
    exact ih j hji ops[j] (List.getElem?_eq_getElem hlen) (hD j _ (he j hj) (List.getElem?_eq_getElem hlen)) k h
section
variable{P:Program}{Γ:Nat→TK}{dc:List (Nat×Nat)}{cr:List (Nat×CR)}{ops:List Oper}{m:Nat}{s:St}{tr:List TE}{vcs:List Prop}
theorem ir{E:Tag→Nat→Prop}{S:FuncId→List S1→List S1→Prop}{st:St}{o:Oper}{vc:List Prop}{v:SV}{os:Hp}(h:l5 Γ E S dc cr ops st o=some (vc,v,os)):
  ∃p,fB st ops o=some p∧(p= []→ ∀q x,v≠ .cond q x)∧(p≠ []→(∃x,v= .cond p x)∧os= []∧ ∀d,o.dst=some d→ ∀e,e∈p→e.1≠d)∧(∀n x,look os n=some x→look st.hp n=none∧jk n=false):=by
 unfold l5 at h
 split at h
 ·rename_i nm _ _ hg
  split at h
  ·rename_i pO v1 os1 hq
   split at h
   ·rename_i hf _
    simp only[Option.some.injEq,Prod.mk.injEq]at h
    obtain⟨_,rfl,rfl⟩:=h
    refine⟨[],hg,fun _ q x=> ?_,fun hh=>absurd rfl hh,fun n x hl=>⟨nL hf n x hl,Ao hf n x hl⟩⟩
    rintro rfl
    unfold quiet Q7 at hq
    repeat' split at hq
    all_goals first
     | (cases hq;done)
     | (simp only[dX,Option.some.injEq,Out.mk.injEq]at hq;cases hq.2.1;done)
     | (simp only[Option.some.injEq,Out.mk.injEq]at hq;cases hq.2.1;done)
     | (simp only[Option.some.injEq]at hq;unfold outs at hq;(repeat' split at hq)<;>(simp only[Out.mk.injEq]at hq;cases hq.2.1))
   ·cases h
  ·cases h
 ·rename_i nm e p _ _ hg
  split at h
  ·rename_i abF
   split at h
   ·rename_i pO v1 hq
    simp only[Option.some.injEq,Prod.mk.injEq]at h
    obtain⟨_,rfl,rfl⟩:=h
    refine⟨e::p,hg,(fun hh=>by cases hh),fun _=>⟨⟨_,rfl⟩,rfl,fun d hd x hx hxd=> ?_⟩,fun n x hl=>by simp[look]at hl⟩
    rw[List.any_eq_false]at abF
    exact abF x hx (by rw[hd,hxd];simp)
   ·cases h
  ·cases h
 ·cases h
theorem Trace.fresh{E:Tag→Nat→Prop}{S:FuncId→List S1→List S1→Prop}(T:Trace Γ E S dc cr ops m s tr vcs):tW tr s m:=by
 intro i e hi he n x hl
 obtain⟨o,e',vc,_,he',_,_,hq,_⟩:=T.one i hi
 rw[he]at he'
 simp only[Option.some.injEq]at he'
 subst he'
 obtain⟨p,_,_,_,hf⟩:=ir hq
 exact(hf n x hl).1
theorem Trace.path{E:Tag→Nat→Prop}{S:FuncId→List S1→List S1→Prop}(T:Trace Γ E S dc cr ops m s tr vcs)(K:Chk ops m): ∀(i:Nat),i<m→ ∀o p,ops[i]? =some o→fB (pre tr s i) ops o=some p→ ∀e,e∈p→
  ∃k o',k<i∧ops[k]? =some o'∧o'.dst=some e.1∧ ∀D:Nat→Prop,(∀i o,D i→ops[i]? =some o→ ∀j,j∈bU o→D j)→(∀j,j∈bU o→D j)→D k:=by
 intro i
 induction i using Nat.strongRecOn with
 |_ i ih=>
  intro hi o p ho hg e he
  unfold fB at hg
  split at hg
  ·simp at hg;subst hg;simp at he
  ·rename_i j x hgd
   obtain⟨hji,hjm,hje⟩:=K.guard i o j x hi ho hgd
   obtain⟨q,ej,vcj,hq,hej,XS,_,R8,_⟩:=T.one j hjm
   rw[hq]at hg
   dsimp only at hg
   rw[XS]at hg
   dsimp only at hg
   have rN:look (pre tr s i).sl ej.d=some ej.v:=by
    refine gh hji rfl hej fun j' e' h1 _ h3 h4=> ?_
    obtain⟨q',e2,_,VQ,yE,hd2,_⟩:=T.one j' (by omega)
    rw[h3]at yE
    simp only[Option.some.injEq]at yE
    subst yE
    exact K.dist j q j' q' ej.d hjm (by omega) hq VQ XS (by rw[hd2,h4])
   rw[rN]at hg
   obtain⟨pj,Zh,gG,fu,_⟩:=ir R8
   have base: ∃k o',k<i∧ops[k]? =some o'∧o'.dst=some ej.d∧ ∀D:Nat→Prop,(∀i o,D i→ops[i]? =some o→ ∀j,j∈bU o→D j)→(∀j,j∈bU o→D j)→D k:=
    ⟨j,q,hji,hq,XS,fun D _ hE=>hE j hje⟩
   split at hg
   ·simp only[Option.some.injEq]at hg
    subst hg
    simp only[List.mem_singleton]at he
    subst he
    exact base
   ·rename_i p' b hv
    simp only[Option.some.injEq]at hv
    simp only[Option.some.injEq]at hg
    subst hg
    rcases List.mem_cons.1 he with rfl|he
    ·exact base
    ·have hpj:pj=p':=by
      by_cases hnil:pj= []
      ·exact absurd hv (gG hnil _ _)
      ·obtain⟨x',hx'⟩:=(fu hnil).1
       rw[hx']at hv
       simp only[SV.cond.injEq]at hv
       exact hv.1
     subst hpj
     obtain⟨k,o',h1,h2,h3,h4⟩:=ih j hji hjm q pj hq Zh e he
     exact⟨k,o',by omega,h2,h3,fun D hD hE=>h4 D hD (hD j q (hE j hje) hq)⟩
   ·cases hg
theorem PG(C: ∀t,cA P t (Γ t))(T:Trace Γ (I2 P ty) (Sound ty P) dc cr ops m s tr vcs)(K:Chk ops m)(hv: ∀q,q∈vcs→q)(hnc:HD s.sl=true){zb:bY}{Q:Exit→Act→World→Prop}{D:Nat→Bool}(XT: ∀i,D i=true→i<m)(CJ: ∀i o,D i=true→ops[i]? =some o→ ∀j,j∈bU o→D j=true)
  {i:Nat}(hi:i<m)(Fl:D i=false){o:Oper}(ho:ops[i]? =some o)(hE: ∀j,j∈bU o→D j=true){a:Act}{w:World}(iv:Inv ty zb (cU D tr s m) a w):
  qb P ops.toArray o a w (fun a' w'=>Inv ty zb (cU (fun j=>D j||j==i) tr s m) a' w') Q:=by
 obtain⟨o',e,vc,ho',he,hd,hnm,hq,Vz⟩:=T.one i hi
 rw[ho]at ho'
 simp only[Option.some.injEq]at ho'
 subst ho'
 have hfr:=T.fresh
 have hdist: ∀{j e'},j<m→tr[j]? =some e'→ ∃q,ops[j]? =some q∧q.dst=some e'.d:=by
  intro j e' hj he'
  obtain⟨q,e2,_,VQ,yE,hd2,_⟩:=T.one j hj
  rw[he']at yE
  simp only[Option.some.injEq]at yE
  subst yE
  exact⟨q,VQ,hd2⟩
 have tZ: ∀{j j':Nat} {e1 e2:TE},j<m→j'<m→tr[j]? =some e1→tr[j']? =some e2→e2.d=e1.d→j'=j:=by
  intro j j' e1 e2 h1 h2 h3 h4 h5
  obtain⟨q1,p1,p2⟩:=hdist h1 h3
  obtain⟨q2,p3,p4⟩:=hdist h2 h4
  exact K.dist j q1 j' q2 e1.d h1 h2 p1 p3 p2 (by rw[p4,h5])
 have bu: ∀t,(∀k o',k<m→ops[k]? =some o'→o'.dst=some t→k=i∨(k<i∧D k=true)∨(i<k∧D k=false))→look (pre tr s i).sl t=look (cU D tr s m).sl t:=by
  intro t ht
  by_cases hex: ∃k e',k<i∧D k=true∧tr[k]? =some e'∧e'.d=t
  ·obtain⟨k,e',hk,mK,he',rfl⟩:=hex
   rw[gh hk rfl he' fun j' e2 h1 _ h3 h4=>tZ (by omega) (by omega) he' h3 h4,gh (by omega) mK he' fun j' e2 h1 _ h3 h4=>tZ (by omega) h1 he' h3 h4]
  ·rw[jo (fun k e' hk _ he' hdt=>by
      obtain⟨q,h1,h2⟩:=hdist (by omega) he'
      rcases ht k q (by omega) h1 (by rw[h2,hdt])with h|h|h
      ·omega
      ·exact hex ⟨k,e',hk,h.2,he',hdt⟩
      ·omega),
    jo (fun k e' hk mK he' hdt=>by
     obtain⟨q,h1,h2⟩:=hdist hk he'
     rcases ht k q hk h1 (by rw[h2,hdt])with h|h|h
     ·subst h;rw[Fl]at mK;cases mK
     ·exact hex ⟨k,e',h.1,h.2,he',hdt⟩
     ·rw[h.2]at mK;cases mK)]
 obtain⟨p,fN,gG,fu,Fx⟩:=ir hq
 have abG: ∀x,x∈p→ ∃k o',k<i∧ops[k]? =some o'∧o'.dst=some x.1∧D k=true:=by
  intro x hx
  obtain⟨k,o',h1,h2,h3,h4⟩:=T.path K i hi o p ho fN x hx
  exact⟨k,o',h1,h2,h3,h4 (fun j=>D j=true) CJ hE⟩
 have yP: ∀x,x∈p→look (pre tr s i).sl x.1=look (cU D tr s m).sl x.1:=by
  intro x hx
  obtain⟨k,o',h1,h2,h3,h4⟩:=abG x hx
  refine bu x.1 fun k' o2 hk' IM hd2=> ?_
  have:k'=k:=K.dist k o' k' o2 x.1 (by omega) hk' h2 IM h3 hd2
  subst this
  exact Or.inr (Or.inl ⟨h1,h4⟩)
 have jc:fB (cU D tr s m) ops o=some p:=by
  rw[←fN]
  unfold fB
  split
  ·rfl
  ·rename_i j x hgd
   split
   ·rename_i q Ee
    split
    ·rename_i d Ls
     have hmem: ∃y,(d,y)∈p:=by
      unfold fB at fN
      rw[hgd]at fN
      dsimp only at fN
      rw[Ee]at fN
      dsimp only at fN
      rw[Ls]at fN
      dsimp only at fN
      split at fN
      ·simp only[Option.some.injEq]at fN;exact⟨x,by rw[←fN];simp⟩
      ·simp only[Option.some.injEq]at fN;exact⟨x,by rw[←fN];simp⟩
      ·cases fN
     obtain⟨y,hy⟩:=hmem
     rw[←yP (d,y) hy]
    ·rfl
   ·rfl
 have Ma:fresh (cU D tr s m).hp e.os=true:=by
  refine Ec fun n x hl=> ?_
  cases Lu:look (cU D tr s m).hp n with
  |none=>exact⟨rfl,(Fx n x hl).2⟩
  |some y=>
   exfalso
   have hpi:=hfr i e hi he n x hl
   rcases gC Lu with h| ⟨j,e',hj,AB,he',h⟩
   ·have:=oO (oM:=fun _=>true) hfr (i:=i) (by omega) h
    rw[show cU (fun _=>true) tr s i=pre tr s i from rfl,hpi]at this
    cases this
   ·have hji:j≠i:=by rintro rfl;rw[Fl]at AB;cases AB
    by_cases hlt:j<i
    ·have:=nD (oM:=fun _=>true) hfr (i:=i) (by omega) hlt rfl he' h
     rw[show cU (fun _=>true) tr s i=pre tr s i from rfl,hpi]at this
     cases this
    ·have h2:=hfr j e' hj he' n y h
     have:=nD (oM:=fun _=>true) hfr (i:=j) (by omega) (j:=i) (by omega) rfl he hl
     rw[show cU (fun _=>true) tr s j=pre tr s j from rfl,h2]at this
     cases this
 have R9:((cU D tr s m).sl.any fun x=>x.2.mentions e.d)=false:=by
  rw[List.any_eq_false]
  intro x hx hm
  rcases CI hx with h| ⟨j,e',hj,AB,he',rfl⟩
  ·simp only[HD,List.all_eq_true]at hnc
   have:=hnc x h
   cases vU:x.2 with
   |cond q y=>simp[vU]at this
   |one y=>simp[vU,SV.mentions]at hm
   |tK y=>simp[vU,SV.mentions]at hm
  ·obtain⟨q,e2,VD,Ee,yE,hd2,_,R8,_⟩:=T.one j hj
   rw[he']at yE
   simp only[Option.some.injEq]at yE
   subst yE
   obtain⟨pj,Zh,hj0,Rt,_⟩:=ir R8
   by_cases hnil:pj= []
   ·cases vU:e'.v with
    |cond q y=>exact hj0 hnil _ _ vU
    |one y=>simp[vU,SV.mentions]at hm
    |tK y=>simp[vU,SV.mentions]at hm
   ·obtain⟨y,hy⟩:=(Rt hnil).1
    simp only[hy,SV.mentions,List.any_eq_true]at hm
    obtain⟨z,hz,hzd⟩:=hm
    have hzd:=Nat.eq_of_beq_eq_true hzd
    obtain⟨k,o2,k1,k2,k3,k4⟩:=T.path K j hj q pj Ee Zh z hz
    have mK:=k4 (fun j=>D j=true) CJ (CJ j q AB Ee)
    have:k=i:=K.dist i o k o2 e.d hi (by omega) ho k2 hd (by rw[k3,hzd])
    subst this
    rw[Fl]at mK;cases mK
 have hdm:e.v.mentions e.d=false:=by
  by_cases hnil:p= []
  ·cases vU:e.v with
   |cond q y=>exact absurd vU (gG hnil _ _)
   |one y=>rfl
   |tK y=>rfl
  ·obtain⟨⟨y,hy⟩,_,hne⟩:=fu hnil
   rw[hy]
   simp only[SV.mentions]
   rw[List.any_eq_false]
   intro z hz hb
   exact hne e.d hd z hz (Nat.eq_of_beq_eq_true hb)
 have behind: ∀a' w',Inv ty zb (app (cU D tr s m) e) a' w'→Inv ty zb (cU (fun j=>D j||j==i) tr s m) a' w':=by
  intro a' w' mQ
  obtain⟨env,g⟩:=mQ.good
  refine⟨by rw[mQ.size,oN];show(cU D tr s m).n=s.n;exact oN m,mQ.defers,mQ.kept,mQ.B0,env,g.congr ?_ ?_⟩
  ·intro t v hl
   show look ((e.d,e.v)::(cU D tr s m).sl) t=some v
   by_cases ht:t=e.d
   ·subst ht
    rw[gh hi (by simp) he fun j' e2 h1 _ h3 h4=>tZ hi h1 he h3 h4]at hl
    rw[look_eq];exact hl
   ·rw[aU ht]
    by_cases hex: ∃k e',k<m∧D k=true∧tr[k]? =some e'∧e'.d=t
    ·obtain⟨k,e',hk,mK,he',rfl⟩:=hex
     rw[gh hk (by simp[mK]) he' fun j' e2 h1 _ h3 h4=>tZ hk h1 he' h3 h4]at hl
     rw[gh hk mK he' fun j' e2 h1 _ h3 h4=>tZ hk h1 he' h3 h4]
     exact hl
    ·rw[jo fun k e' hk mK he' hdt=>by
      simp only[Bool.or_eq_true,beq_iff_eq]at mK
      rcases mK with h|rfl
      ·exact hex ⟨k,e',hk,h,he',hdt⟩
      ·rw[he]at he'
       simp only[Option.some.injEq]at he'
       exact ht (by rw[he',hdt])]at hl
     rw[jo fun k e' hk mK he' hdt=>hex ⟨k,e',hk,mK,he',hdt⟩]
     exact hl
  ·intro n
   show look (cU (fun j=>D j||j==i) tr s m).hp n=look (e.os++(cU D tr s m).hp) n
   cases hl:look e.os n with
   |some x=>
    rw[bJ hl]
    exact nD hfr (Nat.le_refl _) hi (by simp) he hl
   |none=>
    rw[aS hl]
    cases hx:look (cU (fun j=>D j||j==i) tr s m).hp n with
    |some y=>
     rcases gC hx with h| ⟨j,e',hj,AB,he',h⟩
     ·exact(oO hfr (Nat.le_refl _) h).symm
     ·have hji:j≠i:=by
       rintro rfl
       rw[he]at he'
       simp only[Option.some.injEq]at he'
       subst he'
       rw[hl]at h;cases h
      have AB:D j=true:=by
       simp only[Bool.or_eq_true,beq_iff_eq]at AB
       exact AB.resolve_right hji
      exact(nD hfr (Nat.le_refl _) hj AB he' h).symm
    |none=>
     cases hy:look (cU D tr s m).hp n with
     |none=>rfl
     |some y=>
      rcases gC hy with h| ⟨j,e',hj,AB,he',h⟩
      ·rw[oO hfr (Nat.le_refl _) h]at hx;cases hx
      ·rw[nD hfr (Nat.le_refl _) hj (by simp[AB]) he' h]at hx;cases hx
 have hput:St.put ⟨(cU D tr s m).n,(cU D tr s m).sl,e.os++(cU D tr s m).hp⟩ o.dst e.v=app (cU D tr s m) e:=by
  rw[hd]
  simp only[St.put,R9]
  rfl
 by_cases hw:Region.wanted o (yielded ops.toArray a.tmps)=true
 ·have hh:holds a.tmps p:=by
   obtain⟨env,g⟩:=iv.good
   unfold fB at jc
   split at jc
   ·simp at jc;subst jc;intro y hy;simp at hy
   ·rename_i j x hgd
    split at jc
    ·rename_i q Ee
     split at jc
     ·rename_i d Ls
      have Zi:=(nM (ops:=ops.toArray) hgd (by simpa using Ee) Ls a.tmps).1 hw
      split at jc
      ·simp only[Option.some.injEq]at jc
       subst jc
       intro y hy
       simp at hy
       subst hy
       exact Zi
      ·rename_i p' b hl
       simp only[Option.some.injEq]at jc
       subst jc
       intro y hy
       rcases List.mem_cons.1 hy with rfl|hy
       ·exact Zi
       ·exact(vp g hl Zi).1 y hy
      ·cases jc
     ·cases jc
    ·cases jc
  obtain⟨env,g⟩:=iv.good
  have HG:Compat (pre tr s i).hp (cU D tr s m).hp:=by
   intro n x y h1 h2
   have h3:=tX hfr (Nat.le_of_lt hi) (Nat.le_refl m) h1
   have h4:=nO hfr (Nat.le_refl m) h2
   rw[h3]at h4
   simpa using h4
  have hmono:=Eb HG g (by rw[oN,oN]) fN jc hh (fun x hx t hxt=>bu t fun k o2 hk IM hd2=>by
    have ht:t∈tmpsOf o:=by
     simp only[tmpsOf,List.mem_filterMap]
     exact⟨x,hx,by rw[hxt]⟩
    rcases K.uses i o hi ho t ht k o2 hk IM hd2 with h|h|h
    ·exact Or.inl h
    ·exact Or.inr (Or.inl ⟨K.back i o ho k h,hE k h⟩)
    ·refine Or.inr (Or.inr ⟨h.1,?_⟩)
     cases mK:D k with
     |false=>rfl
     |true=>
      have:=tY (D:=fun j=>D j=true) K.back CJ k o2 IM (CJ k o2 mK IM) i h.2
      rw[Fl]at this;cases this) yP Ma hq
  have:=DJ (Q:=Q) C hmono iv (fun q hq=>hv q (Vz q hq))
  rw[hput]at this
  exact this.mono behind
 ·unfold qb
  rw[if_neg hw]
  have hnil:p≠ []:=by
   rintro rfl
   unfold fB at fN
   split at fN
   ·rename_i hgd;exact hw (by simp[Region.wanted,hgd])
   ·repeat' split at fN
    all_goals simp at fN
  obtain⟨⟨y,hy⟩,hos,_⟩:=fu hnil
  have hnh: ¬holds a.tmps p:=by
   intro hh
   unfold fB at fN
   split at fN
   ·rename_i hgd;exact hw (by simp[Region.wanted,hgd])
   ·rename_i j x hgd
    split at fN
    ·rename_i q Ee
     split at fN
     ·rename_i d Ls
      have hdx:(d,x)∈p:=by
       split at fN
       ·simp only[Option.some.injEq]at fN;rw[←fN];simp
       ·simp only[Option.some.injEq]at fN;rw[←fN];simp
       ·cases fN
      exact hw ((nM (ops:=ops.toArray) hgd (by simpa using Ee) Ls a.tmps).2 (hh _ hdx))
     ·cases fN
    ·cases fN
  apply behind
  obtain⟨env,g⟩:=iv.good
  have hlt:e.d<a.tmps.size:=by
   unfold l5 at hq
   have:wE (pre tr s i) o.dst=true:=by
    cases Zj:wE (pre tr s i) o.dst with
    |true=>rfl
    |false=>rw[Zj]at hq;simp at hq
   rw[hd]at this
   rw[iv.size,oN]
   have:=Nat.le_of_ble_eq_true this
   rw[show(pre tr s i).n=s.n from oN i]at this
   exact this
  have Sa:=g.put (d:=e.d) hlt (v:=e.v) (u:=undef) (by rw[hy];exact⟨fun hh=>absurd hh hnh,fun _=>rfl⟩) hdm
  refine⟨by rw[ij];exact iv.size,by rw[put_defers];exact iv.defers,iv.kept,iv.B0,env,?_⟩
  rw[hd]
  have Zk:(cU D tr s m).put (some e.d) e.v=app (cU D tr s m) e:=by
   simp only[St.put,R9,app,hos]
   rfl
  rw[Zk]at Sa
  exact Sa
end
end
section
variable{ty:Tag→Nat}
theorem jT{ops:List Oper}{listed:Array Bool}(hl:listed.size=ops.length){i:Nat}:i∈Region.ready .any ops.toArray listed↔ ∃o,ops[i]? =some o∧listed.getD i false=false∧ ∀j,j∈bU o→listed.getD j false=true:=by
 unfold Region.ready
 rw[List.mem_filter,List.mem_range]
 simp only[List.size_toArray,List.getElem?_toArray,Bool.and_eq_true,Bool.not_eq_true']
 constructor
 ·rintro⟨hi,h1,h2⟩
  refine⟨ops[i],List.getElem?_eq_getElem hi,?_,?_⟩
  ·have:listed[i]? =some listed[i]:=by simp[hl,hi]
   rw[Array.getD_eq_getD_getElem?,this]at h1 ⊢
   exact h1
  ·intro j hj
   simp only[bU,List.mem_filterMap,Array.mem_toList_iff]at hj
   obtain⟨e,he,hj⟩:=hj
   split at hj
   ·rename_i hb
    simp only[Option.some.injEq]at hj
    subst hj
    rw[List.getElem?_eq_getElem hi]at h2
    simp only[Option.map_some,Option.getD_some]at h2
    have:=Array.all_eq_true_iff_forall_mem.1 h2 e he
    simpa[hb]using this
   ·cases hj
 ·rintro⟨o,ho,h1,h2⟩
  have hi:=(List.getElem?_eq_some_iff.1 ho).1
  refine⟨hi,?_,?_⟩
  ·have:listed[i]? =some listed[i]:=by simp[hl,hi]
   rw[Array.getD_eq_getD_getElem?,this]at h1 ⊢
   exact h1
  ·rw[ho]
   simp only[Option.map_some,Option.getD_some]
   rw[Array.all_eq_true_iff_forall_mem]
   intro e he
   cases hb:Region.binds .any e with
   |false=>simp
   |true=>
    have:=h2 e.on (by
     simp only[bU,List.mem_filterMap,Array.mem_toList_iff]
     exact⟨e,he,by simp[hb]⟩)
    simp[this]
theorem yQ{listed:Array Bool}{i j:Nat}(hi:i<listed.size):(listed.setIfInBounds i true).getD j false=(listed.getD j false||j==i):=by
 rw[Array.getD_eq_getD_getElem?,Array.getD_eq_getD_getElem?]
 by_cases hij:i=j
 ·subst hij
  rw[Array.getElem?_setIfInBounds_self_of_lt hi];simp
 ·rw[Array.getElem?_setIfInBounds_ne hij]
  simp[show¬j=i from fun h=>hij h.symm]
def cnt(n:Nat)(D:Nat→Bool):Nat:=((List.range n).filter fun i=> !D i).length
theorem filter_lt{p q:Nat→Bool}: ∀{l:List Nat},(∀x,x∈l→q x=true→p x=true)→(∃x,x∈l∧p x=true∧q x=false)→(l.filter q).length<(l.filter p).length
 |y::r,h,⟨x,hx,hp,hq⟩=>by
  have le: ∀{l:List Nat},(∀x,x∈l→q x=true→p x=true)→(l.filter q).length≤(l.filter p).length:=by
   intro l
   induction l with
   |nil=>intro _;simp
   |cons z l ih=>
    intro hh
    have:=ih fun x hx=>hh x (by simp[hx])
    cases hz:q z with
    |true=>rw[List.filter_cons_of_pos hz,List.filter_cons_of_pos (hh z (by simp) hz)];simp;exact this
    |false=>
     rw[List.filter_cons_of_neg (by simp[hz])]
     cases QC:p z with
     |true=>rw[List.filter_cons_of_pos QC];simp;omega
     |false=>rw[List.filter_cons_of_neg (by simp[QC])];exact this
  rcases List.mem_cons.1 hx with rfl|hx
  ·rw[List.filter_cons_of_neg (by simp[hq]),List.filter_cons_of_pos hp]
   have:=le (l:=r) fun x hx=>h x (by simp[hx])
   simp;omega
  ·have ih:=filter_lt (l:=r) (fun x hx=>h x (by simp[hx])) ⟨x,hx,hp,hq⟩
   cases hy:q y with
   |true=>rw[List.filter_cons_of_pos hy,List.filter_cons_of_pos (h y (by simp) hy)];simp;exact ih
   |false=>
    rw[List.filter_cons_of_neg (by simp[hy])]
    cases Sb:p y with
    |true=>rw[List.filter_cons_of_pos Sb];simp;omega
    |false=>rw[List.filter_cons_of_neg (by simp[Sb])];exact ih
theorem NM{n i:Nat}{D:Nat→Bool}(hi:i<n)(hD:D i=false):cnt n (fun j=>D j||j==i)<cnt n D:=by
 refine filter_lt ?_ ⟨i,List.mem_range.2 hi,by simp[hD],by simp⟩
 intro x _ h
 simp only[Bool.not_eq_true',Bool.or_eq_false_iff]at h
 simp[h.1]
theorem JA{n:Nat}{D:Nat→Bool}(h:cnt n D=0): ∀i,i<n→D i=true:=by
 intro i hi
 have:=List.eq_nil_of_length_eq_zero h
 cases hd:D i with
 |true=>rfl
 |false=>
  have:i∈(List.range n).filter fun i=> !D i:=List.mem_filter.2 ⟨List.mem_range.2 hi,by simp[hd]⟩
  simp_all
section
variable{P:Program}{Γ:Nat→TK}{dc:List (Nat×Nat)}{cr:List (Nat×CR)}{ops:List Oper}{m:Nat}{s:St}{tr:List TE}{zb:bY}{Q:Exit→Act→World→Prop}
theorem Sc(X:Ctx P ty Γ)(K:Chk ops m){vcs:List Prop}{tU:St}(hv: ∀q,q∈vcs→q)(hQ: ∀a w,Inv ty zb tU a w→Q .normal a w): ∀(fuel k:Nat) (st:St) (acc:List Prop) (listed:Array Bool) (a:Act) (w:World),m≤k→k≤ops.length→ops.length-k≤fuel→listed.size=ops.length→
  (∀i,listed.getD i false=true↔i<k)→run P ty Γ dc cr ops (ops.drop k) st acc=some (vcs,tU)→Inv ty zb st a w→wpAny P .any ops.toArray Q fuel listed a w:=by
 have fin: ∀{k st acc a w},ops.length≤k→run P ty Γ dc cr ops (ops.drop k) st acc=some (vcs,tU)→Inv ty zb st a w→Q .normal a w:=by
  intro k st acc a w hk hr iv
  rw[List.drop_eq_nil_of_le hk]at hr
  simp only[run,Option.some.injEq,Prod.mk.injEq]at hr
  exact hQ a w (hr.2▸iv)
 have rdy: ∀{k:Nat} {listed:Array Bool},k<ops.length→listed.size=ops.length→(∀i,listed.getD i false=true↔i<k)→k∈Region.ready .any ops.toArray listed:=by
  intro k listed hk hl hL
  rw[jT hl]
  refine⟨ops[k],List.getElem?_eq_getElem hk,?_,fun j hj=>(hL j).2 (K.back k _ (List.getElem?_eq_getElem hk) j hj)⟩
  cases h:listed.getD k false with
  |false=>rfl
  |true=>have:=(hL k).1 h;omega
 intro fuel
 induction fuel with
 |zero=>
  intro k st acc listed a w hmk hkn hf hl hL hr iv
  refine⟨?_,fin (by omega) hr iv⟩
  apply List.eq_nil_iff_forall_not_mem.2
  intro i hi
  obtain⟨o,ho,h1,_⟩:=(jT hl).1 hi
  have:=(List.getElem?_eq_some_iff.1 ho).1
  rw[(hL i).2 (by omega)]at h1
  cases h1
 |succ fuel ih=>
  intro k st acc listed a w hmk hkn hf hl hL hr iv
  refine⟨fun hnil=> ?_,fun i hi=> ?_⟩
  ·by_cases hk:k<ops.length
   ·have:=rdy hk hl hL
    rw[hnil]at this
    simp at this
   ·exact fin (by omega) hr iv
  ·obtain⟨o,ho,h1,h2⟩:=(jT hl).1 hi
   have hin:=(List.getElem?_eq_some_iff.1 ho).1
   have hki:k≤i:=by
    rcases Nat.lt_or_ge i k with h|h
    ·rw[(hL i).2 h]at h1;cases h1
    ·exact h
   have hik:i=k:=by
    rcases Nat.lt_or_ge k i with h|h
    ·exfalso
     have hc: ∀i o,listed.getD i false=true→ops[i]? =some o→ ∀j,j∈bU o→listed.getD j false=true:=fun i o hi ho j hj=>(hL j).2 (by have:=K.back i o ho j hj;have:=(hL i).1 hi;omega)
     have:=tY (D:=fun j=>listed.getD j false=true) K.back hc i o ho h2 k (K.tail i o (by omega) ho k h)
     have:=(hL k).1 this
     omega
    ·omega
   subst hik
   have abH:ops.drop i=o::ops.drop (i+1):=by
    rw[List.drop_eq_getElem_cons hin]
    congr 1
    have:=List.getElem?_eq_getElem hin
    rw[ho]at this
    simpa using this.symm
   rw[abH]at hr
   obtain⟨vc,B7,hs,Na⟩:=vC hr
   have hstep:=CG (Q:=Q) X.kind X.one hs iv (fun q hq=>hv q (rO Na q (List.mem_append_left _ hq)))
   unfold wpOp
   rw[List.getElem?_toArray,ho]
   dsimp only
   have:=hstep.mono fun a' w' mQ=>ih (i+1) B7 _ (listed.setIfInBounds i true) a' w' (by omega) (by omega) (by omega) (by simpa using hl)
    (fun j=>by
     rw[yQ (by omega)]
     simp only[Bool.or_eq_true,beq_iff_eq,hL]
     omega) Na mQ
   exact this
theorem Sd(X:Ctx P ty Γ)(K:Chk ops m){pO vcs:List Prop}{tU:St}(T:Trace Γ (I2 P ty) (Sound ty P) dc cr ops m s tr vcs)(hnc:HD s.sl=true)(hv: ∀q,q∈vcs→q)(hQ: ∀a w,Inv ty zb tU a w→Q .normal a w)
  (hr:run P ty Γ dc cr ops (ops.drop m) (pre tr s m) pO=some (vcs,tU)): ∀(fuel:Nat) (listed:Array Bool) (a:Act) (w:World),cnt ops.length (fun i=>listed.getD i false)≤fuel→listed.size=ops.length→(∀i,listed.getD i false=true→i<m)→
  (∀i o,listed.getD i false=true→ops[i]? =some o→ ∀j,j∈bU o→listed.getD j false=true)→Inv ty zb (cU (fun i=>listed.getD i false) tr s m) a w→wpAny P .any ops.toArray Q fuel listed a w:=by
 have all: ∀{listed:Array Bool} {fuel:Nat} {a:Act} {w:World},listed.size=ops.length→(∀i,listed.getD i false=true→i<m)→(∀i,i<m→listed.getD i false=true)→cnt ops.length (fun i=>listed.getD i false)≤fuel→Inv ty zb (cU (fun i=>listed.getD i false) tr s m) a w→wpAny P .any ops.toArray Q fuel listed a w:=by
  intro listed fuel a w hl h1 h2 hf iv
  have heq: ∀i,i≤m→cU (fun i=>listed.getD i false) tr s i=pre tr s i:=by
   intro i
   induction i with
   |zero=>intro _;rfl
   |succ i ih=>
    intro hi
    rw[cU,pre,cU,ih (by omega),h2 i (by omega)]
  rw[heq m (Nat.le_refl _)]at iv
  refine Sc X K hv hQ fuel m _ pO listed a w (Nat.le_refl _) K.le ?_ hl (fun i=>⟨h1 i,h2 i⟩) hr iv
  refine Nat.le_trans ?_ hf
  unfold cnt
  have hsub:(List.range ops.length).filter (fun i=> !listed.getD i false)=(List.range ops.length).filter fun i=>decide (m≤i):=by
   apply List.filter_congr
   intro i _
   by_cases h:m≤i
   ·cases hh:listed.getD i false with
    |true=>have:=h1 i hh;omega
    |false=>simp[h]
   ·simp[h2 i (by omega),h]
  rw[hsub]
  have: ∀n,m≤n→((List.range n).filter fun i=>decide (m≤i)).length=n-m:=by
   intro n hn
   induction n with
   |zero=>simp
   |succ n ih=>
    rw[List.range_succ,List.filter_append]
    by_cases h:m≤n
    ·simp[ih h,h];omega
    ·have:(List.range n).filter (fun i=>decide (m≤i))= []:=by
      apply List.filter_eq_nil_iff.2
      intro i hi
      have:=List.mem_range.1 hi
      simp;omega
     simp[this,h];omega
  rw[this _ K.le]
  exact Nat.le_refl _
 intro fuel
 induction fuel with
 |zero=>
  intro listed a w hf hl h1 h2 iv
  have hz:=JA (by omega:cnt ops.length (fun i=>listed.getD i false)=0)
  exact all hl h1 (fun i hi=>hz i (by have:=K.le;omega)) hf iv
 |succ fuel ih=>
  intro listed a w hf hl h1 h2 iv
  by_cases hall: ∀i,i<m→listed.getD i false=true
  ·exact all hl h1 hall hf iv
  ·have hex: ∃i,i<m∧listed.getD i false=false∧ ∀j,j<i→listed.getD j false=true:=by
    have: ∃i,i<m∧listed.getD i false=false:=by
     apply Classical.byContradiction
     intro hno
     apply hall
     intro i hi
     cases h:listed.getD i false with
     |true=>rfl
     |false=>exact absurd ⟨i,hi,h⟩ hno
    obtain⟨i,hi,h⟩:=this
    induction i using Nat.strongRecOn with
    |_ i ihi=>
     by_cases PI: ∀j,j<i→listed.getD j false=true
     ·exact⟨i,hi,h,PI⟩
     ·have: ∃j,j<i∧listed.getD j false=false:=by
       apply Classical.byContradiction
       intro hno
       apply PI
       intro j hj
       cases hh:listed.getD j false with
       |true=>rfl
       |false=>exact absurd ⟨j,hj,hh⟩ hno
      obtain⟨j,hj,hjf⟩:=this
      exact ihi j hj (by omega) hjf
   have hml:=K.le
   refine⟨fun hnil=> ?_,fun i hi=> ?_⟩
   ·obtain⟨i,hi,hif,PI⟩:=hex
    have hin:i<ops.length:=by omega
    have:i∈Region.ready .any ops.toArray listed:=(jT hl).2 ⟨ops[i],List.getElem?_eq_getElem hin,hif,fun j hj=>PI j (K.back i _ (List.getElem?_eq_getElem hin) j hj)⟩
    rw[hnil]at this
    simp at this
   ·obtain⟨o,ho,hif,hE⟩:=(jT hl).1 hi
    have hin:=(List.getElem?_eq_some_iff.1 ho).1
    have him:i<m:=by
     rcases Nat.lt_or_ge i m with h|h
     ·exact h
     ·exfalso
      obtain⟨j,hj,hjf,_⟩:=hex
      have:=tY (D:=fun j=>listed.getD j false=true) K.back h2 i o ho hE j (K.tail i o h ho j (by omega))
      rw[hjf]at this;cases this
    unfold wpOp
    rw[List.getElem?_toArray,ho]
    dsimp only
    have hstep:=PG (Q:=Q) X.kind T K hv hnc (D:=fun i=>listed.getD i false) h1 h2 him hif ho hE iv
    have PJ: ∀j,(listed.setIfInBounds i true).getD j false=(listed.getD j false||j==i):=fun j=>yQ (by omega)
    have VR:(fun j=>(listed.setIfInBounds i true).getD j false)=fun j=>listed.getD j false||j==i:=funext PJ
    have:=hstep.mono fun a' w' mQ=>ih (listed.setIfInBounds i true) a' w'
     (by rw[VR];have:=NM (D:=fun i=>listed.getD i false) hin hif;omega) (by simpa using hl)
     (fun j hj=>by
      rw[PJ,Bool.or_eq_true,beq_iff_eq]at hj
      rcases hj with hj|rfl
      ·exact h1 j hj
      ·exact him)
     (fun j o' hj ho' x hx=>by
      rw[PJ]at hj ⊢
      rw[Bool.or_eq_true,beq_iff_eq]at hj
      rw[Bool.or_eq_true]
      rcases hj with hj|rfl
      ·exact Or.inl (h2 j o' hj ho' x hx)
      ·rw[ho]at ho'
       simp only[Option.some.injEq]at ho'
       subst ho'
       exact Or.inl (hE x hx))
     (by rw[VR];exact mQ)
    exact this
end
section
variable{P:Program}{Γ:Nat→TK}{zb:bY}{Q:Post}{st:St}
theorem W.draw(X:Ctx P ty Γ)(dc:List (Nat×Nat))(cr:List (Nat×CR))(ks hs:List Nat)(m:Nat){id:Nat}{ops:List Oper}{vc:List Prop}{st':St}(hm:P.follows .mixedOrders=true)(hc:chk ops m=true)(h:Ze P ty Γ dc cr ks hs m ops st=some (vc,st'))(hv:aj vc)(k:Q .normal st'):
  W P ty zb (.region id ops.toArray true) Q st:=by
 intro a w iv
 obtain⟨n,QB,gG⟩:=st
 have K:=Zg hc
 simp only[Ze]at h
 split at h
 ·rename_i pO s1 hnc hq
  split at h
  ·rename_i VD s2 hr
   split at h
   ·rename_i sl hp h1 h2
    split at h
    ·rename_i Ar hn
     simp only[Option.some.injEq,Prod.mk.injEq]at h
     obtain⟨rfl,rfl⟩:=h
     obtain⟨tr,t1,t2,t3⟩:=Jz (k:=0) hq (fun i o ho=>by
      rw[List.getElem?_take]at ho
      split at ho
      ·simpa using ho
      ·cases ho)
     have hlen:(ops.take m).length=m:=by rw[List.length_take];have:=K.le;omega
     rw[hlen]at t1 t2 t3
     subst t2
     have T:Trace Γ (I2 P ty) (Sound ty P) dc cr ops m ⟨n,QB,gG⟩ tr VD:=⟨t1,fun i hi=>by
      obtain⟨o,e,vc,p1,p2,p3,p4,p5,p6⟩:=t3 i hi
      exact⟨o,e,vc,by simpa using p1,p2,p3,p4,p5,fun q hq=>rO hr q (p6 q hq)⟩⟩
     refine wp_region_any hm ?_
     have hz: ∀i,(Array.replicate ops.toArray.size false).getD i false=false:=by
      intro i
      rw[Array.getD_eq_getD_getElem?,Array.getElem?_replicate]
      split<;>rfl
     refine Sd (Q:=D1 ty zb Q) X K T hnc hv.out (fun a w mQ=>⟨_,mQ.weaken (Nat.eq_of_beq_eq_true hn).symm (lg h1) (lp h2) Ar,k⟩) hr _ _ a _ ?_ (by simp) (fun i hi=>by rw[hz]at hi;cases hi) (fun i o hi=>by rw[hz]at hi;cases hi) ?_
     ·unfold cnt
      refine Nat.le_trans (List.length_filter_le _ _) ?_
      simp
     ·have hD:(fun i=>(Array.replicate ops.toArray.size false).getD i false)=fun _=>false:=funext hz
      rw[hD]
      have hmk: ∀i,cU (fun _=>false) tr ⟨n,QB,gG⟩ i=⟨n,QB,gG⟩:=by
       intro i
       induction i with
       |zero=>rfl
       |succ i ih=>rw[yN rfl,ih]
      rw[hmk]
      obtain⟨env,g⟩:=iv.good
      have hdr:Below w.heap.size w w.drew:=(Below.refl _ _).drew
      refine⟨iv.size,iv.defers,iv.kept.trans (jF hdr iv.kept.size),iv.B0,env,?_⟩
      have:=g.grow (os:= []) (w':=w.drew) (env':=env) iv.kept.size rfl (ld.none hdr)
      exact this
    ·cases h
   ·cases h
  ·cases h
 ·cases h
theorem W.sd(X:Ctx P ty Γ)(dc:List (Nat×Nat))(cr:List (Nat×CR))(ks hs:List Nat)(m:Nat){y:Code}{id:Nat}{ops:List Oper}{vc:List Prop}{st':St}(hm:P.follows .mixedOrders=true)(hc:chk ops m=true)(h:Ze P ty Γ dc cr ks hs m ops st=some (vc,st'))(hv:aj vc)(k:W P ty zb y Q st'):W P ty zb (.seq (.region id ops.toArray true) y) Q st:=W.seq (W.draw X dc cr ks hs m hm hc h hv k)
end
end
section
variable{ty:Tag→Nat}
def AH(l:List Oper):Option (List Oper×Oper):=match l.reverse with
 | []=>none
 |o::r=>some (r.reverse,o)
theorem HN{l p:List Oper}{q:Oper}(h:AH l=some (p,q)):l=p++ [q]:=by
 unfold AH at h
 split at h
 ·cases h
 ·rename_i o r he
  simp only[Option.some.injEq,Prod.mk.injEq]at h
  obtain⟨rfl,rfl⟩:=h
  have:=congrArg List.reverse he
  rw[List.reverse_reverse,List.reverse_cons]at this
  exact this
def NV(Γ:Nat→TK)(st:St)(o:Oper):Option (Nat×Prop):=match o.guard,o.dst,o.op with
 |none,some d, .binOp .eql t (.tmp s) (.const (.slice none 0 0)) _=>match Γ t,look st.sl s,Nat.blt d st.n with
  | .sl _ _,some (.one (.a (.sl _ l))),true=>some (d,l= [])
  | .sl _ _,some (.one (.a (.vw _ _ _ l))),true=>some (d,l= [])
  | .sl _ _,some (.one (.a (.own n))),true=>match look st.hp n with
    |some (.arr _ l)=>some (d,l= [])
    |_=>none
  |_,_,_=>none
 |_,_,_=>none
def NW(n:Nat)(st':St)(ks:List Nat):Option St:=match Bz st'.sl ks,BA st'.hp (NH st'.sl st'.hp ks [])with
 |some sl,some hp=>match rQ sl hp with
  |true=>some ⟨n,sl,hp⟩
  |false=>none
 |_,_=>none
def NX(B7:St)(ks:List Nat)(d:Nat)(b:Bool):Option St:=NW B7.n (B7.put (some d) (.one (.a (.lit (.bool b))))) ks
def SL(P:Program)(ty:Tag→Nat)(Γ:Nat→TK)(dc:List (Nat×Nat))(cr:List (Nat×CR))(ks:List Nat)(ops:List Oper)(st:St):Option (List Prop×Prop×St×St):=
 match AH ops with
 |some (pre,o)=>match run P ty Γ dc cr ops pre st []with
  |some (vc,B7)=>match NV Γ B7 o with
   |some (d,p)=>match NX B7 ks d true,NX B7 ks d false with
    |some a,some b=>some (vc,p,a,b)
    |_,_=>none
   |none=>none
  |none=>none
 |none=>none
section
variable{P:Program}{Γ:Nat→TK}{zb:bY}{Q:Post}{st:St}
theorem HO(C: ∀t,cA P t (Γ t))(Z: ∀t,(∀z tg fo,Γ t≠ .st z tg fo)→Γ t≠ .other→(P.info? t).map (·.size)=some 1){dc:List (Nat×Nat)}{cr:List (Nat×CR)}{ops:List Oper}{tU:St}{vcs:List Prop}{Q:Exit→Act→World→Prop}{tail:List Oper}
  (hQ: ∀a w,Inv ty zb tU a w→wpList P ops.toArray Q tail a w): ∀{l:List Oper} {st:St} {acc:List Prop} {a:Act} {w:World},run P ty Γ dc cr ops l st acc=some (vcs,tU)→(∀q,q∈vcs→q)→Inv ty zb st a w→wpList P ops.toArray Q (l++tail) a w
 | [],st,acc,a,w,h,hv,iv=>by
   simp only[run,Option.some.injEq,Prod.mk.injEq]at h
   obtain⟨_,rfl⟩:=h
   exact hQ a w iv
 |o::r,st,acc,a,w,h,hv,iv=>by
  obtain⟨vc,B7,h1,h2⟩:=vC h
  have:=CG (Q:=Q) C Z h1 iv (fun q hq=>hv q (rO h2 q (List.mem_append_left _ hq)))
  exact this.mono fun a' w' mQ=>HO C Z hQ h2 hv mQ
theorem JF{w:World}{t e:Nat}(d:Nat)(hu:P.underlying t=some (.slice e)){oa:Option Addr}{n cap:Nat}:(Op.equalIn (d+1) t (.slice oa n cap) (.slice none 0 0)).run P w= .ok oa.isNone w:=by
 cases oa<;>simp[Op.equalIn,run_underlying hu]
theorem Zt{o:Oper}{a:Act}{w:World}{K:Act→World→Prop}{Q:Exit→Act→World→Prop}{t s e ge:Nat}{ty2:TypeId}(ho:o.op= .binOp .eql t (.tmp s) (.const (.slice none 0 0)) ty2)(hu:P.underlying t=some (.slice e)){oa:Option Addr}{n cap:Nat}(hs:a.tmps.getD s undef= .slice oa n cap)
  (h:K (a.put o.dst (.bool oa.isNone)) w):o.wp P a w K Q:=by
 have hx:a.eval (.tmp s)= .slice oa n cap:=hs
 have hrun:(execOp a.eval o).run P w= .ok (.value (.bool oa.isNone)) w:=by
  have hy:a.eval (.const (.slice none 0 0))= .slice none 0 0:=rfl
  unfold execOp
  simp only[ho,hx,hy]
  have he:(Op.equal t (.slice oa n cap) (.slice none 0 0)).run P w= .ok oa.isNone w:=JF 9999 hu
  have hb:(binOp .eql t (.slice oa n cap) (.slice none 0 0)).run P w= .ok (.bool oa.isNone) w:=by
   show(do pure (.bool (←Op.equal t (.slice oa n cap) (.slice none 0 0))):Sem Value).run P w=_
   simp only[Sem.run_bind,he,Result.andThen_ok,Sem.run_pure]
  have hg:(eqGuard .eql t (.tmp s) (.const (.slice none 0 0)) (.slice oa n cap) (.slice none 0 0)).run P w= .ok () w:=by simp[eqGuard]
  simp only[Sem.run_bind,hg,hb,Result.andThen_ok,Sem.run_pure]
 unfold Oper.wp
 rw[hrun]
 exact h
theorem JG{B7 st':St}{ks:List Nat}{d:Nat}{b:Bool}(h:NX B7 ks d b=some st'){a:Act}{w:World}(iv:Inv ty zb B7 a w)(hd:Nat.blt d B7.n=true):Inv ty zb st' (a.put (some d) (.bool b)) w:=by
 have iv2:Inv ty zb (B7.put (some d) (.one (.a (.lit (.bool b))))) (a.put (some d) (.bool b)) w:=by
  obtain⟨env,g⟩:=iv.good
  have hlt: ∀d',some d=some d'→d'<a.tmps.size:=by
   intro d' e
   simp only[Option.some.injEq]at e
   subst e
   rw[iv.size]
   exact Nat.le_of_ble_eq_true hd
  exact⟨by rw[ij,yz];exact iv.size,by rw[put_defers];exact iv.defers,iv.kept,iv.B0,env,qa (dst:=some d) g hlt (u:= .bool b) (show p8 w B7.hp env a.tmps (.one (.a (.lit (.bool b)))) (.bool b)from ⟨rfl,rfl⟩) fun d _=>oL ⟨_,rfl⟩⟩
 unfold NX NW at h
 split at h
 ·rename_i sl hp h1 h2
  split at h
  ·rename_i hc
   simp only[Option.some.injEq]at h
   subst h
   exact iv2.weaken (by rw[yz]) (lg h1) (lp h2) hc
  ·cases h
 ·cases h
theorem W.isNil(X:Ctx P ty Γ)(dc:List (Nat×Nat))(cr:List (Nat×CR))(ks:List Nat){id:Nat}{ops:List Oper}{vc:List Prop}{p:Prop}{sT sF:St}(h:SL P ty Γ dc cr ks ops st=some (vc,p,sT,sF))(hv:aj vc)(kT:p→Q .normal sT)(kF:Q .normal sF):
  W P ty zb (.region id ops.toArray false) Q st:=by
 intro a w iv
 unfold SL at h
 split at h
 case h_2=>cases h
 rename_i pre o hsp
 split at h
 case h_2=>cases h
 rename_i pO B7 hrun
 split at h
 case h_2=>cases h
 rename_i d p1 hnp
 split at h
 case h_2=>cases h
 rename_i sa sb hT hF
 simp only[Option.some.injEq,Prod.mk.injEq]at h
 obtain⟨rfl,rfl,rfl,rfl⟩:=h
 refine wp_region_lit ?_
 rw[show wpList P ops.toArray (D1 ty zb Q) ops a w=wpList P ops.toArray (D1 ty zb Q) (pre++ [o]) a w by rw[←HN hsp]]
 refine HO X.kind X.one (fun a w iv=> ?_) hrun hv.out iv
 obtain⟨env,g⟩:=iv.good
 unfold NV at hnp
 split at hnp
 case h_2=>cases hnp
 rename_i d0 t s ty2 hg hd hop
 have fin: ∀{oa:Option Addr} {n cap:Nat} {e ge:Nat},P.underlying t=some (.slice e)→a.tmps.getD s undef= .slice oa n cap→(oa=none→p1)→d0=d→Nat.blt d0 B7.n=true→wpList P ops.toArray (D1 ty zb Q) [o] a w:=by
  intro oa n cap e ge hu hs hn hdd hlt
  subst hdd
  have hk: ∀a' w',(fun a' w'=>a'=a.put (some d0) (.bool oa.isNone)∧w'=w) a' w'→wpList P ops.toArray (D1 ty zb Q) [] a' w':=by
   rintro a' w' ⟨rfl,rfl⟩
   refine wpList_nil ?_
   cases oa with
   |none=>exact⟨sa,JG hT iv hlt,kT (hn rfl)⟩
   |some x=>exact⟨sb,JG hF iv hlt,kF⟩
  have hR:qb P ops.toArray o a w (fun a' w'=>a'=a.put (some d0) (.bool oa.isNone)∧w'=w) (D1 ty zb Q):=jG hg (Zt (ge:=ge) hop hu hs ⟨by rw[hd],rfl⟩)
  exact hR.mono hk
 split at hnp
 ·rename_i g1 e1 t1 l hk hl hlt
  simp only[Option.some.injEq,Prod.mk.injEq]at hnp
  have hC:=X.kind t
  rw[hk]at hC
  obtain⟨fp,rN,_⟩:=g.slot s _ hl
  obtain⟨oa,cap,hv0,_,_,h3⟩:=rN
  refine fin (ge:=0) hC.1 hv0 (fun hn=> ?_) hnp.1 hlt
  rw[←hnp.2]
  rcases h3 with⟨h3,_⟩| ⟨b,off,bh,rfl,_⟩
  ·exact h3
  ·cases hn
 ·rename_i g1 e1 n1 p2 t1 l hk hl hlt
  simp only[Option.some.injEq,Prod.mk.injEq]at hnp
  have hC:=X.kind t
  rw[hk]at hC
  obtain⟨_,⟨fp,rN,_⟩,_⟩:=g.slot s _ hl
  obtain⟨oa,cap,hv0,_,_,h3⟩:=rN
  refine fin (ge:=0) hC.1 hv0 (fun hn=> ?_) hnp.1 hlt
  rw[←hnp.2]
  rcases h3 with⟨h3,_⟩| ⟨b,off,bh,rfl,_⟩
  ·exact h3
  ·cases hn
 ·rename_i g1 e1 n1 hk hl hlt
  split at hnp
  ·rename_i t1 l PC
   simp only[Option.some.injEq,Prod.mk.injEq]at hnp
   have hC:=X.kind t
   rw[hk]at hC
   obtain⟨_,hu⟩:=g.slot s _ hl
   obtain⟨oa,cap,hv0,_,_,h3⟩:=RO.sl (g.obj n1 _ PC)
   refine fin (ge:=0) hC.1 (hu.trans hv0) (fun hn=> ?_) hnp.1 hlt
   rw[←hnp.2]
   rcases h3 with⟨h3,_⟩| ⟨b,off,bh,rfl,_⟩
   ·exact h3
   ·cases hn
  ·cases hnp
 ·cases hnp
end
end
section
variable{ty:Tag→Nat}
def V.rev(hp:Hp)(ks ns:List Nat)(m0:Nat):V→V
 | .own n=>match ns.any (Nat.beq n)with
   |true=>match look hp n with|some (.arr t l)=> .vw m0 none t l|_=> .any
   |false=>(V.own n).bE ks []
 |v=>v.bE ks []
def S1.rev(hp:Hp)(ks ns:List Nat)(m0:Nat):S1→S1
 | .a v=> .a (v.rev hp ks ns m0)
 | .agg l=> .agg (l.map (V.rev hp ks ns m0))
def SV.rev(hp:Hp)(ks ns:List Nat)(m0:Nat):SV→SV
 | .one x=> .one (x.rev hp ks ns m0)
 | .tK l=> .tK (l.map (S1.rev hp ks ns m0))
 | .cond p x=> .cond p (x.rev hp ks ns m0)
def Obj.rev(hp:Hp)(ks ns:List Nat)(m0:Nat):Obj→Obj
 | .box c=> .box (c.map (V.rev hp ks ns m0))
 | .arr t l=> .arr t l
 | .lZ t l s=> .lZ t l (s.bE ks [])
def JR(gG:Hp)(ks ns:List Nat)(m0:Nat)(hp:Hp):Hp:=(hp.filter fun e=> !ks.any (Nat.beq e.1)).map fun e=>(e.1,e.2.rev gG ks ns m0)
theorem AO{gG:Hp}{ks ns:List Nat}{m0:Nat}{hp:Hp}{n:Nat}:look (JR gG ks ns m0 hp) n=if n∈ks then none else(look hp n).map (Obj.rev gG ks ns m0):=by
 unfold JR
 rw[j9 (α:=Obj) (f:=fun e:Nat×Obj=>e.2.rev gG ks ns m0)]
 have h:=bT (ks:=ks) (kv:= []) (hp:=hp) (n:=n)
 unfold cE at h
 rw[j9 (α:=Obj) (f:=fun e:Nat×Obj=>e.2.bE ks [])]at h
 by_cases hn:n∈ks
 ·rw[if_pos hn]at h ⊢
  cases hq:look (hp.filter fun e=> !ks.any (Nat.beq e.1)) n with
  |none=>rfl
  |some o=>rw[hq]at h;cases h
 ·rw[if_neg hn]at h ⊢
  have:look (hp.filter fun e=> !ks.any (Nat.beq e.1)) n=look hp n:=by
   induction hp with
   |nil=>rfl
   |cons e r ih=>
    obtain⟨j,x⟩:=e
    by_cases hj:j∈ks
    ·have hne:n≠j:=by rintro rfl;exact hn hj
     have hb:(ks.any (Nat.beq j))=true:=List.any_eq_true.2 ⟨j,hj,by simp⟩
     rw[List.filter_cons_of_neg (by simp[hb])]at h ⊢
     rw[aU hne]at h ⊢
     exact ih h
    ·have hb:(ks.any (Nat.beq j))=false:=by
      rw[List.any_eq_false]
      intro y hy h2
      exact hj (by rw[Nat.eq_of_beq_eq_true h2];exact hy)
     rw[List.filter_cons_of_pos (by simp[hb])]at h ⊢
     by_cases Y7:n=j
     ·subst Y7;rw[look_eq,look_eq]
     ·rw[aU Y7]at h ⊢
      rw[aU Y7]at h ⊢
      exact ih h
  rw[this]
section
variable{ks ns:List Nat}{m0:Nat}{w w':World}{hp iZ:Hp}{env env':Env}
theorem Mk{ns:List Nat}{n:Nat}(h:ns.any (Nat.beq n)=true):n∈ns:=by
 obtain⟨y,hy,h2⟩:=List.any_eq_true.1 h
 rw[Nat.eq_of_beq_eq_true h2];exact hy
theorem RA.rev(s:sS ks [] w hp env w' iZ env')(hv: ∀n t l,n∈ns→look hp n=some (.arr t l)→RA w' iZ env' (.vw m0 none t l) (env n).v){v:V}{u:Value}(h:RA w hp env v u):RA w' iZ env' (v.rev hp ks ns m0) u:=by
 cases v with
 |own n=>
  have e:V.rev hp ks ns m0 (.own n)=match ns.any (Nat.beq n)with
   |true=>(match look hp n with|some (.arr t l)=> .vw m0 none t l|_=> .any)
   |false=>(V.own n).bE ks []:=rfl
  rw[e]
  cases hn:ns.any (Nat.beq n)with
  |true=>
   obtain⟨⟨t,l,hl⟩,rfl⟩:=h
   rw[hl]
   exact hv n t l (Mk hn) hl
  |false=>exact RA.jl s h
 |_=>exact RA.jl s h
theorem fP.rev(s:sS ks [] w hp env w' iZ env')(hv: ∀n t l,n∈ns→look hp n=some (.arr t l)→RA w' iZ env' (.vw m0 none t l) (env n).v){x:S1}{u:Value}(h:fP w hp env x u):fP w' iZ env' (x.rev hp ks ns m0) u:=by
 cases x with
 |a v=>exact RA.rev s hv h
 |agg l=>obtain⟨cs,hu,hl⟩:=h;exact⟨cs,hu,hl.map fun a b hr=>RA.rev s hv hr⟩
theorem p8.rev(s:sS ks [] w hp env w' iZ env')(hv: ∀n t l,n∈ns→look hp n=some (.arr t l)→RA w' iZ env' (.vw m0 none t l) (env n).v){tmps:Array Value}{x:SV}{u:Value}(h:p8 w hp env tmps x u):p8 w' iZ env' tmps (x.rev hp ks ns m0) u:=by
 cases x with
 |one x=>exact fP.rev s hv h
 |tK l=>obtain⟨us,hu,hl⟩:=h;exact⟨us,hu,hl.map fun a b hr=>fP.rev s hv hr⟩
 |cond p x=>exact⟨fun hh=>fP.rev s hv (h.1 hh),h.2⟩
theorem RO.rev(s:sS ks [] w hp env w' iZ env')(hv: ∀n t l,n∈ns→look hp n=some (.arr t l)→RA w' iZ env' (.vw m0 none t l) (env n).v){n:Nat}{o:Obj}{co:CO}(h:RO ty w hp env n o co)(hk: ∀b,b∈co.fp→w'.heap[b]? =w.heap[b]?):RO ty w' iZ env' n (o.rev hp ks ns m0) co:=by
 cases o with
 |box c=>
  obtain⟨b,cs,e,rfl,hh,hc⟩:=h
  exact⟨b,cs,e,rfl,by rw[hk b (by simp)];exact hh,hc.map fun a u hr=>RA.rev s hv hr⟩
 |arr t l=>exact RO.bu h hk
 |lZ t l r=>
  obtain⟨h1,us,hB,h2,h3⟩:=h
  exact⟨h1,us,jE.bu yt hB hk,h2,fun i x u hx hu=>BE.jl s (h3 i x u hx hu)⟩
end
section
variable{P:Program}{zb:bY}{st:St}{a:Act}{w:World}{env:Env}
theorem SR(g:Good ty zb st a.tmps w env)(hB:zb.w.heap.size≤w.heap.size){ks ns:List Nat}{d:Nat}(YO:jk d=false)(hd:look (cE ks [] st.hp) d=none){v v':Value}{w':World}{t:Tag}{l:List (T t)}{fp fx gA:List Nat}
  (ig: ∀b,b∈fp++fx→ ∃i o,i∈ks∧look st.hp i=some o∧b∈(env i).fp)(Fk: ∀b,v.ownBlock=some b→b∈fp)
  (hB':jE (kk t) (rd t) 0 (ty t) w' v' l gA)(hg:w.grownBy w' v.ownBlock)(hsub: ∀b,b∈gA→b∈fp∨b∈fx∨w.heap.size≤b)
  (VP: ∀n,n∈ns→n∈ks)(hin: ∀n o b,n∈ns→look st.hp n=some o→b∈(env n).fp→b∈gA∧w'.heap[b]? =w.heap[b]?):
  ∃env',Good ty zb ⟨st.n,st.sl.map fun e=>(e.1,e.2.rev st.hp ks ns d),(d, .arr t l)::JR st.hp ks ns d st.hp⟩ a.tmps w' env'∧(env' d).v=v':=by
 refine⟨fun n=>if n=d then⟨v',gA⟩else env n,?_,by simp⟩
 have hlk: ∀m o,look ((d,Obj.arr t l)::JR st.hp ks ns d st.hp) m=some o→(m=d∧o= .arr t l)∨(m≠d∧m∉ks∧ ∃o',look st.hp m=some o'∧o=o'.rev st.hp ks ns d):=by
  intro m o hm
  by_cases mJ:m=d
  ·subst mJ;rw[look_eq]at hm;simp only[Option.some.injEq]at hm;exact Or.inl ⟨rfl,hm.symm⟩
  ·rw[aU mJ,AO]at hm
   split at hm
   ·cases hm
   ·rename_i hks
    cases hq:look st.hp m with
    |none=>rw[hq]at hm;cases hm
    |some o'=>rw[hq]at hm;simp only[Option.map_some,Option.some.injEq]at hm;exact Or.inr ⟨mJ,hks,o',rfl,hm.symm⟩
 have how: ∀b,b∈gA→b<w.heap.size→ ∃i o,i∈ks∧look st.hp i=some o∧b∈(env i).fp:=by
  intro b hb hlt
  rcases hsub b hb with h|h|h
  ·exact ig b (List.mem_append_left _ h)
  ·exact ig b (List.mem_append_right _ h)
  ·omega
 have hnd: ∀m o,m∉ks→look st.hp m=some o→m≠d:=by
  rintro m o hks h1 rfl
  rw[bT,if_neg hks,h1]at hd
  cases hd
 have hst: ∀m o,m∉ks→look st.hp m=some o→ ∀b,b∈(env m).fp→w'.heap[b]? =w.heap[b]? :=by
  intro m o hks h3 b hb
  refine hg.block b ((g.obj m o h3).wQ b hb) fun e=> ?_
  obtain⟨i,oi,hi,h5,h6⟩:=ig b (List.mem_append_left _ (Fk b e.symm))
  exact g.kW m i _ _ (fun e=>hks (e▸hi)) h3 h5 b hb h6
 have s:sS ks [] w st.hp env w' ((d, .arr t l)::JR st.hp ks ns d st.hp) (fun n=>if n=d then⟨v',gA⟩else env n):=by
  refine⟨fun b hb hno=>hg.block b hb fun e=> ?_,?_,?_,?_⟩
  ·obtain⟨i,o',_,h1,h2⟩:=ig b (List.mem_append_left _ (Fk b e.symm))
   exact hno ⟨i,o',h1,h2⟩
  ·rintro b hb ⟨m,o',h1,h2⟩
   rcases hlk m o' h1 with⟨rfl,rfl⟩| ⟨mJ,hks,B6,h3,rfl⟩
   ·simp at h2
    obtain⟨i,o',_,h3,h4⟩:=how b h2 hb
    exact⟨i,o',h3,h4⟩
   ·simp[mJ]at h2
    exact⟨m,B6,h3,h2⟩
  ·intro m o' hks h1
   have mJ:=hnd m o' hks h1
   refine⟨o'.rev st.hp ks ns d,by rw[aU mJ,AO,if_neg hks,h1];rfl,by cases o'<;>simp[Obj.like,Obj.rev],by simp[mJ]⟩
  ·rintro m t' l' ⟨hks,_⟩ h1
   have mJ:=hnd m _ hks h1
   exact⟨by rw[aU mJ,AO,if_neg hks,h1];rfl,by simp[mJ],hst m _ hks h1⟩
 have hv: ∀n t1 l1,n∈ns→look st.hp n=some (.arr t1 l1)→RA w' ((d, .arr t l)::JR st.hp ks ns d st.hp) (fun n=>if n=d then⟨v',gA⟩else env n) (.vw d none t1 l1) (env n).v:=by
  intro n t1 l1 hn hl
  have rN:=RO.sl (g.obj n _ hl)
  refine⟨⟨_,_,look_eq⟩,⟨_,Sl.bu (eK t1) rN fun b hb=>(hin n _ b hn hl hb).2,(RO.own (g.obj n _ hl)).nodup,fun b hb=> ?_⟩,fun _ _ h=>by cases h⟩
  simp only[if_true]
  exact(hin n _ b hn hl hb).1
 have RQ:Good ty zb ⟨st.n,st.sl.map fun e=>(e.1,e.2.rev st.hp ks ns d),(d, .arr t l)::JR st.hp ks ns d st.hp⟩ a.tmps w' (fun n=>if n=d then⟨v',gA⟩else env n):=by
  refine⟨fun m o' hm=> ?_,fun m m' o1 o2 hne h1 h2 b hb hb'=> ?_,fun s1 x hl=> ?_,fun m o' hm b hb=> ?_,fun m hm=> ?_⟩
  ·rcases hlk m o' hm with⟨rfl,rfl⟩| ⟨mJ,hks,B6,h3,rfl⟩
   ·simp only[if_true];exact RO.FZ hB'
   ·simp only[if_neg mJ]
    exact RO.rev s hv (g.obj m B6 h3) (hst m B6 hks h3)
  ·rcases hlk m o1 h1 with⟨e1,_⟩| ⟨mJ,hks,q1,h3,_⟩<;>rcases hlk m' o2 h2 with⟨e2,_⟩| ⟨Ho,Rs,q2,h4,_⟩
   ·exact hne (e1.trans e2.symm)
   ·simp only[if_pos e1]at hb
    simp only[if_neg Ho]at hb'
    have hlt:=(g.obj m' q2 h4).wQ b hb'
    obtain⟨i,oi,hi,h5,h6⟩:=how b hb hlt
    exact g.kW m' i _ _ (fun e=>Rs (e▸hi)) h4 h5 b hb' h6
   ·simp only[if_pos e2]at hb'
    simp only[if_neg mJ]at hb
    have hlt:=(g.obj m q1 h3).wQ b hb
    obtain⟨i,oi,hi,h5,h6⟩:=how b hb' hlt
    exact g.kW m i _ _ (fun e=>hks (e▸hi)) h3 h5 b hb h6
   ·simp only[if_neg mJ]at hb
    simp only[if_neg Ho]at hb'
    exact g.kW m m' _ _ hne h3 h4 b hb hb'
  ·have hl:look (st.sl.map fun e=>(e.1,e.2.rev st.hp ks ns d)) s1=some x:=hl
   rw[j9 (α:=SV) (f:=fun e:Nat×SV=>e.2.rev st.hp ks ns d)]at hl
   cases hq:look st.sl s1 with
   |none=>rw[hq]at hl;cases hl
   |some y=>
    rw[hq]at hl
    simp only[Option.map_some,Option.some.injEq]at hl
    subst hl
    exact p8.rev s hv (g.slot s1 y hq)
  ·rcases hlk m o' hm with⟨e1,_⟩| ⟨mJ,hks,q1,h3,_⟩
   ·simp only[if_pos e1]at hb
    by_cases hlt:b<w.heap.size
    ·obtain⟨i,oi,hi,h5,h6⟩:=how b hb hlt
     exact g.dom i oi h5 b h6
    ·exact Or.inr (by omega)
   ·simp only[if_neg mJ]at hb
    exact g.dom m q1 h3 b hb
  ·have:m≠d:=by rintro rfl;rw[YO]at hm;cases hm
   simp only[if_neg this]
   exact g.pins m hm
 exact RQ
theorem AP(g:Good ty zb st a.tmps w env): ∀{l c:List V} {k:List Nat} {us:List Value},bt (RA w st.hp env) l us→takes st l=some (c,k)→k.Nodup→
  ∃fp,bW w c us fp∧Own 0 w fp∧(∀b,b∈fp→ ∃i o,i∈k∧look st.hp i=some o∧b∈(env i).fp)∧ ∀i b,i∈k→b∈(env i).fp→b∈fp
 | [],c,k,us,hr,h,_=>by
   simp only[takes,Option.some.injEq,Prod.mk.injEq]at h
   obtain⟨rfl,rfl⟩:=h
   cases us with
   |nil=>exact⟨[],rfl,Own.nil _ _,by simp,by simp⟩
   |cons _ _=>exact hr.elim
 |v::r,c,k,us,hr,h,hnd=>by
  cases us with
  |nil=>exact hr.elim
  |cons u us=>
   cases v with
   |lit x=>
    simp only[takes]at h
    split at h
    ·rename_i c' k' h'
     simp only[Option.some.injEq,Prod.mk.injEq]at h
     obtain⟨rfl,rfl⟩:=h
     obtain⟨fp,h1,h2,h3,h4⟩:=AP g hr.2 h' hnd
     obtain⟨e1,e2⟩:=hr.1
     exact⟨fp,⟨[],fp,⟨e1,e2,rfl⟩,h1,rfl⟩,h2,h3,h4⟩
    ·cases h
   |own n=>
    simp only[takes]at h
    split at h
    ·rename_i t l c' k' hl h'
     simp only[Option.some.injEq,Prod.mk.injEq]at h
     obtain⟨rfl,rfl⟩:=h
     obtain⟨hn1,hn2⟩:=List.nodup_cons.1 hnd
     obtain⟨fp,h1,h2,h3,h6⟩:=AP g hr.2 h' hn2
     obtain⟨_,rfl⟩:=hr.1
     have hb:=RO.sl (g.obj n _ hl)
     have ho:=RO.own (g.obj n _ hl)
     refine⟨(env n).fp++fp,⟨_,_,hb,h1,rfl⟩,⟨List.nodup_append.2 ⟨ho.nodup,h2.nodup,?_⟩,fun b hb=> ?_,fun b hb=> ?_⟩,fun b hb=> ?_,fun i b hi hbi=> ?_⟩
     ·rintro b hb x hx rfl
      obtain⟨i,o,hi,h4,h5⟩:=h3 b hx
      exact g.kW n i _ _ (fun e=>hn1 (e▸hi)) hl h4 b hb h5
     ·rcases List.mem_append.1 hb with hb|hb
      ·exact ho.ge b hb
      ·exact h2.ge b hb
     ·rcases List.mem_append.1 hb with hb|hb
      ·exact ho.kind b hb
      ·exact h2.kind b hb
     ·rcases List.mem_append.1 hb with hb|hb
      ·exact⟨n,_,by simp,hl,hb⟩
      ·obtain⟨i,o,hi,h4,h5⟩:=h3 b hb
       exact⟨i,o,List.mem_cons_of_mem _ hi,h4,h5⟩
     ·rcases List.mem_cons.1 hi with rfl|hi
      ·exact List.mem_append_left _ hbi
      ·exact List.mem_append_right _ (h6 i b hi hbi)
    ·cases h
   |_=>simp[takes]at h
theorem Ep(g:Good ty zb st a.tmps w env){t:Tag}: ∀{ps:List (Nat×Operand)} {i:Nat} {vc:List Prop} {xs:List (T t)} {ks:List Nat},DO st t i ps=some (vc,xs,ks)→ks.Nodup→(∀q,q∈vc→q)→
  (ps.map fun p=>(p.1,a.eval p.2))=vS i (ps.map fun p=>a.eval p.2)∧xs.length=ps.length∧ ∃bh:List (List Nat),bh.length=xs.length∧
   (∀(i:Nat) (x:T t) (f:List Nat),xs[i]? =some x→bh[i]? =some f→ ∃p:Nat×Operand,ps[i]? =some p∧rd t w (a.eval p.2).cells.toList x f)∧Own 0 w bh.flatten∧(∀b,b∈bh.flatten→ ∃i o,i∈ks∧look st.hp i=some o∧b∈(env i).fp)∧
   ∀i b,i∈ks→b∈(env i).fp→b∈bh.flatten
 | [],i,vc,xs,ks,h,_,_=>by
   simp only[DO,Option.some.injEq,Prod.mk.injEq]at h
   obtain⟨rfl,rfl,rfl⟩:=h
   exact⟨rfl,rfl,[],rfl,by simp,Own.nil _ _,by simp,by simp⟩
 | (j,x)::r,i,vc,xs,ks,h,hnd,hv=>by
   simp only[DO]at h
   split at h
   ·rename_i s hij hx
    have hij:=Nat.eq_of_beq_eq_true hij
    subst hij
    split at h
    ·rename_i c k hc
     split at h
     ·rename_i pO y vcs ys ks1 he hb
      simp only[Option.some.injEq,Prod.mk.injEq]at h
      obtain⟨rfl,rfl,rfl⟩:=h
      obtain⟨hn1,hn2,Vq⟩:=List.nodup_append.1 hnd
      obtain⟨q1,q2,bh,q3,q4,q5,q6,q7⟩:=Ep g hb hn2 (fun q hq=>hv q (List.mem_append_right _ hq))
      obtain⟨fp,r1,r2,r3,r4⟩:=AP g (jI g (fC g (fun e he=>by simp at he) hx) (fF hc)) hc hn1
      have hE:=tJ t he (fun q hq=>hv q (List.mem_append_left _ hq)) r1
      refine⟨by simp[vS,q1],by simp[q2],fp::bh,by simp[q3],?_,⟨?_,?_,?_⟩,?_,?_⟩
      ·intro i' x' f hx' hf
       cases i' with
       |zero=>simp at hx' hf;subst hx';subst hf;exact⟨(i,x),rfl,hE⟩
       |succ n=>simp at hx' hf;obtain⟨p,h1,h2⟩:=q4 n x' f hx' hf;exact⟨p,by simpa using h1,h2⟩
      ·rw[List.flatten_cons]
       refine List.nodup_append.2 ⟨r2.nodup,q5.nodup,?_⟩
       rintro b hb z hz rfl
       obtain⟨n,o1,h1,h2,h3⟩:=r3 b hb
       obtain⟨m,o2,h4,h5,h6⟩:=q6 b hz
       exact g.kW n m _ _ (fun e=>Vq n h1 m h4 e) h2 h5 b h3 h6
      ·intro b hb
       rw[List.flatten_cons]at hb
       rcases List.mem_append.1 hb with hb|hb
       ·exact r2.ge b hb
       ·exact q5.ge b hb
      ·intro b hb
       rw[List.flatten_cons]at hb
       rcases List.mem_append.1 hb with hb|hb
       ·exact r2.kind b hb
       ·exact q5.kind b hb
      ·intro b hb
       rw[List.flatten_cons]at hb
       rcases List.mem_append.1 hb with hb|hb
       ·obtain⟨n,o1,h1,h2,h3⟩:=r3 b hb;exact⟨n,o1,List.mem_append_left _ h1,h2,h3⟩
       ·obtain⟨n,o1,h1,h2,h3⟩:=q6 b hb;exact⟨n,o1,List.mem_append_right _ h1,h2,h3⟩
      ·intro n b hn hb
       rw[List.flatten_cons]
       rcases List.mem_append.1 hn with hn|hn
       ·exact List.mem_append_left _ (r4 n b hn hb)
       ·exact List.mem_append_right _ (q7 n b hn hb)
     ·cases h
    ·cases h
   ·cases h
end
def Zz(d:Nat):Operand→Bool
 | .tmp s=> !Nat.beq s d
 | .const _=>true
 |_=>false
def ZA(P:Program)(ty:Tag→Nat)(Γ:Nat→TK)(st:St)(m0:Nat)(o1 o2:Oper):Option (List Prop×St):=
 match o1.guard,o1.dst,o1.op with
 |none,some d1, .buildSlice tb len parts=>match Γ tb with
  | .sl t e=>match Nat.beq e (ty t)&&Nat.beq parts.toList.length len&&Nat.ble (len*kk t) 16777216,DO st t 0 parts.toList with
    |true,some (vc,lx,m)=>match o2.guard,o2.dst,o2.op with
     |none,some d2, .call ⟨.builtin .append,xs,ts⟩=>match xs.toList,ts.toList with
      | [s, .tmp d],[t1,t2]=>match Nat.beq d d1&&Zz d1 s&&Nat.beq t1 tb&&Nat.beq t2 tb,iO st [] s with
        |true,some vs=>match Hq st t vs with
         |some (l,k)=>match pP m&&Jc k m&& !pinned k&& !jk m0&&Nat.blt d1 st.n&&Nat.blt d2 st.n,look (cE (mO k m) [] st.hp) m0 with
          |true,none=>some ([El P ty t,(l.length+lx.length)*cT t≤140737488355328∧l.length+lx.length≤maxLen]++vc,
            (St.put ⟨st.n,st.sl.map fun e=>(e.1,e.2.rev st.hp (mO k m) m m0),(m0, .arr t (l++lx))::JR st.hp (mO k m) m m0 st.hp⟩ (some d1) (.one (.a .any))).put (some d2) (.one (.a (.own m0))))
          |_,_=>none
         |none=>none
        |_,_=>none
      |_,_=>none
     |_,_,_=>none
    |_,_=>none
  |_=>none
 |_,_,_=>none
section
variable{P:Program}{zb:bY}{st:St}{a:Act}{w:World}{env:Env}{o:Oper}
theorem Wm{Γ:Nat→TK}(C: ∀t,cA P t (Γ t)){m0:Nat}{o1 o2:Oper}{vc:List Prop}{st':St}(h:ZA P ty Γ st m0 o1 o2=some (vc,st'))(hv: ∀q,q∈vc→q)(iv:Inv ty zb st a w)
  {ops:Array Oper}{tail:List Oper}{Q:Exit→Act→World→Prop}(hQ: ∀a w,Inv ty zb st' a w→wpList P ops Q tail a w):wpList P ops Q (o1::o2::tail) a w:=by
 obtain⟨env,g⟩:=iv.good
 have hB:=iv.kept.size
 unfold ZA at h
 split at h
 case h_2=>cases h
 rename_i d1 tb len parts hg1 hd1 ho1
 split at h
 case h_2=>cases h
 rename_i t e hk
 split at h
 case h_2=>cases h
 rename_i pO lx m wV hb
 split at h
 case h_2=>cases h
 rename_i d2 xs ts hg2 hd2 IM
 split at h
 case h_2=>cases h
 rename_i s d t1 t2 hxl htl
 split at h
 case h_2=>cases h
 rename_i vs Nu hs
 split at h
 case h_2=>cases h
 rename_i l k hds
 split at h
 case h_2=>cases h
 rename_i hc3 hlk
 simp only[Option.some.injEq,Prod.mk.injEq,dU]at h
 rw[dU]at hlk
 obtain⟨rfl,aec⟩:=h
 simp only[Bool.and_eq_true,Bool.not_eq_true']at wV Nu hc3
 obtain⟨⟨he,hlen⟩,DE⟩:=wV
 obtain⟨⟨⟨hdd,hoff⟩,ht1⟩,ht2⟩:=Nu
 obtain⟨⟨⟨⟨⟨hnd,hno⟩,hpk⟩,Jb⟩,nj⟩,j0⟩:=hc3
 have he:=Nat.eq_of_beq_eq_true he
 obtain rfl:=Nat.eq_of_beq_eq_true hdd
 obtain rfl:=Nat.eq_of_beq_eq_true ht1
 obtain rfl:=Nat.eq_of_beq_eq_true ht2
 obtain rfl:xs= #[s, .tmp d]:=by cases xs;simp_all
 obtain rfl:ts= #[t2,t2]:=by cases ts;simp_all
 have sH:El P ty t:=hv _ (by simp)
 obtain⟨aB,aM⟩:(l.length+lx.length)*cT t≤140737488355328∧l.length+lx.length≤maxLen:=hv _ (by simp)
 obtain⟨q1,q2,bh,q3,q4,q5,q6,q7⟩:=Ep g hb (jS hnd) (fun q hq=>hv q (by simp[hq]))
 have hC:=C t2
 rw[hk,he]at hC
 have hlen:=Nat.eq_of_beq_eq_true hlen
 obtain⟨w1,r1,r2,r3⟩:=vo (P:=P) (w:=w) (a:=a) ho1 hC.1 sH (Nat.le_of_ble_eq_true DE) hlen (Nat.zero_le _) q1 q2 q3 q4 q5
 have g1:Good ty zb st a.tmps w1 env:=by
  have:=Good.grow hB g (os:= []) rfl (ld.none r2)
  exact this
 have hB1:zb.w.heap.size≤w1.heap.size:=Nat.le_trans hB r2.size
 have hR1:qb P ops o1 a w (fun a' w'=>a'=a.put o1.dst (.slice (some ⟨w.heap.size,0,none⟩) len len)∧w1=w') Q:=by
  refine jG hg1 ?_
  unfold Oper.wp
  rw[r1]
  exact⟨rfl,rfl⟩
 refine hR1.mono ?_
 rintro a1 w1 ⟨rfl,rfl⟩
 have Fw:d<a.tmps.size:=by rw[iv.size];exact Nat.le_of_ble_eq_true nj
 have aee:d2<a.tmps.size:=by rw[iv.size];exact Nat.le_of_ble_eq_true j0
 rw[hd1]
 have oK:(a.put (some d) (.slice (some ⟨w.heap.size,0,none⟩) len len)).eval s=a.eval s:=by
  cases s with
  |tmp s=>
   simp only[Zz,Bool.not_eq_true']at hoff
   have hne:s≠d:=by rintro rfl;simp at hoff
   show(a.tmps.setIfInBounds d _).getD s undef=a.tmps.getD s undef
   rw[Array.getD_eq_getD_getElem?,Array.getD_eq_getD_getElem?,Array.getElem?_setIfInBounds_ne (fun e=>hne e.symm)]
  |const v=>rfl
  |_=>simp[Zz]at hoff
 have hxv:(a.put (some d) (.slice (some ⟨w.heap.size,0,none⟩) len len)).eval (.tmp d)= .slice (some ⟨w.heap.size,0,none⟩) len len:=by
  show(a.tmps.setIfInBounds d _).getD d undef=_
  rw[Array.getD_eq_getD_getElem?,Array.getElem?_setIfInBounds_self_of_lt Fw];rfl
 obtain⟨fp,hD,mK⟩:=F8 g1 (fC g1 (fun e he=>by simp at he) hs) hds hpk
 obtain⟨news,fx,hown,hfl,YZ,ig,hfo⟩:=r3
 have Nn:fx.flatten=bh.flatten:=by simpa[Value.ownBlock]using ig.symm
 have hq5:Own 0 w1 bh.flatten:=q5.below r2
 have hlx:len=lx.length:=by rw[q2,hlen]
 have Va:Own 0 w1 (fp++fx.flatten):=by
  rw[Nn]
  have ho:=hD.own
  refine⟨List.nodup_append.2 ⟨ho.nodup,hq5.nodup,?_⟩,fun b hb=> ?_,fun b hb=> ?_⟩
  ·rintro b hb c hc rfl
   obtain⟨i,oi,hi,h1,h2⟩:=mK b hb
   obtain⟨j,oj,hj,h3,h4⟩:=q6 b hc
   have hij:i≠j:=by
    rintro rfl
    simp only[Jc,List.all_eq_true,Bool.not_eq_true',List.any_eq_false]at hno
    exact hno i hi i hj (by simp)
   exact g.kW i j _ _ hij h1 h3 b h2 h4
  ·rcases List.mem_append.1 hb with hb|hb
   ·exact ho.ge b hb
   ·exact hq5.ge b hb
  ·rcases List.mem_append.1 hb with hb|hb
   ·exact ho.kind b hb
   ·exact hq5.kind b hb
 have Fk: ∀b,(a.eval s).ownBlock=some b→b∈fp:=by
  intro b hb
  obtain⟨xs,bh,_,_,_,ig,_⟩:=hD
  rw[ig,hb];simp
 have hsrc:Src w1 (.slice (some ⟨w.heap.size,0,none⟩) len len) lx.length news:=by
  subst hlx
  exact Or.inr ⟨⟨w.heap.size,0,none⟩,_,rfl,hown.cells (g:=w.heap.size) rfl⟩
 have hR2:qb P ops o2 (a.put (some d) (.slice (some ⟨w.heap.size,0,none⟩) len len)) w1 (fun a' w'=>Inv ty zb st' a' w') Q:=by
  refine jG hg2 ?_
  refine GY s (.tmp d) t2 IM (eK t) (gQ t) 0 (ty t) (eZ t) (cT t) hC.1 sH (nK t) (a.eval s) l fp oK hD _ hxv lx news fx hsrc hfl hown.1 YZ Va aM aB (Nat.zero_le _) ?_
  intro v' w' gA k1 k2 k3 k4 k5 k6
  obtain⟨env',hg',Lt⟩:=SR (ty:=ty) g1 hB1 (ks:=k++m) (ns:=m) Jb hlk (v:=a.eval s) (fp:=fp) (fx:=bh.flatten)
   (by
    intro b hb
    rcases List.mem_append.1 hb with hb|hb
    ·obtain⟨i,oi,hi,h1⟩:=mK b hb;exact⟨i,oi,List.mem_append_left _ hi,h1⟩
    ·obtain⟨i,oi,hi,h1⟩:=q6 b hb;exact⟨i,oi,List.mem_append_right _ hi,h1⟩)
   Fk k1 k2 (fun b hb=>by
    rcases k4 b hb with h|h|h
    ·exact Or.inl h
    ·exact Or.inr (Or.inl (Nn▸h))
    ·exact Or.inr (Or.inr (by omega)))
   (fun n hn=>List.mem_append_right _ hn)
   (fun n o b hn hl hb=>by
    have Pp:=q7 n b hn hb
    refine⟨k6 b (by rw[Nn];exact Pp),k2.block b (hq5.lt b Pp) fun e=> ?_⟩
    obtain⟨i,oi,hi,h1,h2⟩:=mK b (Fk b e.symm)
    have hij:i≠n:=by
     rintro rfl
     simp only[Jc,List.all_eq_true,Bool.not_eq_true',List.any_eq_false]at hno
     exact hno i hi i hn (by simp)
    exact g.kW i n _ _ hij h1 hl b h2 hb)
  have abQ:Kept zb w1 w':=by
   refine⟨k2.os,k2.tape,k2.output,k2.size,fun b hb hn=>k2.block b (by omega) fun e=> ?_,k5⟩
   obtain⟨i,oi,hi,h1,h2⟩:=mK b (Fk b e.symm)
   rcases g.dom i oi h1 b h2 with h|h
   ·exact hn h
   ·omega
  rw[←aec]
  refine⟨?_,?_,(iv.kept.trans (jF r2 hB)).trans abQ,iv.B0,env',?_⟩
  ·rw[ij,ij,yz,yz];exact iv.size
  ·rw[put_defers,put_defers];exact iv.defers
  ·have gp:=qa hg' (dst:=some d) (fun _ e=>by cases e;exact Fw) (v:= .one (.a .any)) (u:= .slice (some ⟨w.heap.size,0,none⟩) len len) trivial (fun d _=>oL ⟨_,rfl⟩)
   rw[hd2]
   refine qa gp (fun _ e=>by cases e;rw[ij];exact aee) ?_ (fun d _=>oL ⟨_,rfl⟩)
   rw[YM]
   exact⟨⟨t,_,look_eq⟩,Lt.symm⟩
 exact hR2.mono fun a' w' mQ=>hQ a' w' mQ
end
def Er:Nat→List Oper→Option (List Oper×Oper×Oper×List Oper)
 |0,o1::o2::r=>some ([],o1,o2,r)
 |n+1,o::r=>match Er n r with
  |some (p,o1,o2,q)=>some (o::p,o1,o2,q)
  |none=>none
 |_,_=>none
theorem Gl: ∀{n:Nat} {l p q:List Oper} {o1 o2:Oper},Er n l=some (p,o1,o2,q)→l=p++o1::o2::q
 |0,[],_,_,_,_,h=>by cases h
 |0,[_],_,_,_,_,h=>by cases h
 |0,o1::o2::r,p,q,a,b,h=>by
  simp only[Er,Option.some.injEq,Prod.mk.injEq]at h
  obtain⟨rfl,rfl,rfl,rfl⟩:=h;rfl
 |n+1,[],_,_,_,_,h=>by cases h
 |n+1,o::r,p,q,a,b,h=>by
  simp only[Er]at h
  split at h
  ·rename_i p' o1 o2 q' h'
   simp only[Option.some.injEq,Prod.mk.injEq]at h
   obtain⟨rfl,rfl,rfl,rfl⟩:=h
   rw[Gl h'];rfl
  ·cases h
def runK(P:Program)(ty:Tag→Nat)(Γ:Nat→TK)(dc:List (Nat×Nat))(cr:List (Nat×CR))(ops rest:List Oper)(pO:List Prop):Option (List Prop×St)→Option (List Prop×St)
 |some ([p,q],⟨n,sl,hp⟩)=>run P ty Γ dc cr ops rest ⟨n,sl,hp⟩ (p::q::pO)
 |some ([p,q,r],⟨n,sl,hp⟩)=>run P ty Γ dc cr ops rest ⟨n,sl,hp⟩ (p::q::r::pO)
 |some (l,⟨n,sl,hp⟩)=>run P ty Γ dc cr ops rest ⟨n,sl,hp⟩ (l++pO)
 |none=>none
def fR:Option (List Prop×St)→Option (List Prop×St)
 |some (l,st)=>match NF st with|some st=>some (l,st)|none=>none
 |none=>none
theorem abR{x:Option (List Prop×St)}{y:List Prop×St}(h:fR x=some y):x=some y:=by
 unfold fR at h
 split at h
 ·split at h
  ·rename_i l st tU hs
   simp only[Option.some.injEq]at h
   rw[←h,mP hs]
  ·cases h
 ·cases h
theorem Wn{P:Program}{Γ:Nat→TK}{dc:List (Nat×Nat)}{cr:List (Nat×CR)}{ops rest:List Oper}{pO:List Prop}{x:Option (List Prop×St)}{y:List Prop×St}(h:runK P ty Γ dc cr ops rest pO x=some y):
  ∃l st acc,x=some (l,st)∧run P ty Γ dc cr ops rest st acc=some y∧ ∀q,q∈l++pO→q∈acc:=by
 unfold runK at h
 split at h
 ·exact⟨_,_,_,rfl,h,fun q hq=>by simpa using hq⟩
 ·exact⟨_,_,_,rfl,h,fun q hq=>by simpa using hq⟩
 ·exact⟨_,_,_,rfl,h,fun q hq=>by simpa using hq⟩
 ·cases h
def SS(P:Program)(ty:Tag→Nat)(Γ:Nat→TK)(dc:List (Nat×Nat))(cr:List (Nat×CR))(ks:List Nat)(ix m0:Nat)(ops:List Oper):St→Option (List Prop×St)
 | ⟨n,QB,gG⟩=>match Er ix ops with
   |some (pre,o1,o2,rest)=>match run P ty Γ dc cr ops pre ⟨n,QB,gG⟩ []with
    |some (pO,B7)=>match runK P ty Γ dc cr ops rest pO (fR (ZA P ty Γ B7 m0 o1 o2))with
     |some (vc,st')=>match NW n st' ks,Nat.beq st'.n n with
      |some tU,true=>some (vc,tU)
      |_,_=>none
     |none=>none
    |none=>none
   |none=>none
section
variable{P:Program}{Γ:Nat→TK}{zb:bY}{Q:Post}{st:St}
theorem W.SS(X:Ctx P ty Γ)(dc:List (Nat×Nat))(cr:List (Nat×CR))(ks:List Nat)(ix m0:Nat){id:Nat}{ops:List Oper}{vc:List Prop}{st':St}(h:SS P ty Γ dc cr ks ix m0 ops st=some (vc,st'))(hv:aj vc)(k:Q .normal st'):
  W P ty zb (.region id ops.toArray false) Q st:=by
 intro a w iv
 obtain⟨n,QB,gG⟩:=st
 unfold G.SS at h
 dsimp only at h
 split at h
 case h_2=>cases h
 rename_i pre o1 o2 rest hsp
 split at h
 case h_2=>cases h
 rename_i pO B7 hrun
 split at h
 case h_2=>cases h
 rename_i VD tU hk
 split at h
 case h_2=>cases h
 rename_i st3 hkeep hn
 simp only[Option.some.injEq,Prod.mk.injEq]at h
 obtain⟨rfl,rfl⟩:=h
 obtain⟨l,st4,acc,he,SU,hacc⟩:=Wn hk
 have he:=abR he
 have hv:=hv.out
 refine wp_region_lit ?_
 rw[show wpList P ops.toArray (D1 ty zb Q) ops a w=wpList P ops.toArray (D1 ty zb Q) (pre++o1::o2::rest) a w by rw[←Gl hsp]]
 refine HO X.kind X.one (fun a w iv=> ?_) hrun (fun q hq=>hv q (rO SU q (hacc q (List.mem_append_right _ hq)))) iv
 refine Wm X.kind he (fun q hq=>hv q (rO SU q (hacc q (List.mem_append_left _ hq)))) iv fun a w iv=> ?_
 refine L5 X.kind X.one (fun a w iv=>⟨_,?_,k⟩) SU hv iv
 unfold NW at hkeep
 split at hkeep
 ·rename_i sl hp h1 h2
  split at hkeep
  ·rename_i hc
   simp only[Option.some.injEq]at hkeep
   subst hkeep
   exact iv.weaken (Nat.eq_of_beq_eq_true hn).symm (lg h1) (lp h2) hc
  ·cases hkeep
 ·cases hkeep
end
end
section
variable{ty:Tag→Nat}
inductive dH where
 |last(q:Nat)
 |ph(q:Nat)(c:dH)
 |br(d t:Nat)(sub next:dH)
 |nil
def JU(Γ:Nat→TK)(E:Tag→Nat→Prop)(S:FuncId→List S1→List S1→Prop)(dc:List (Nat×Nat))(cr:List (Nat×CR))(ops:List Oper)(q:Nat):Nat→List Oper→St→Option (List TE×List (Nat×List Prop))
 |_,[],_=>some ([],[])
 |i,o::r,⟨n,sl,hp⟩=>match q.testBit i with
  |false=>match JU Γ E S dc cr ops q (i+1) r ⟨n,sl,hp⟩with
   |some (tr,vq)=>some (⟨0, .tK [],[]⟩::tr,vq)
   |none=>none
  |true=>match o.dst with
   |some d=>match sl.any (fun e=>e.2.mentions d),l5 Γ E S dc cr ops ⟨n,sl,hp⟩ o with
    |false,some (vc,v,os)=>match fS v,Za os with
     |some v,some os=>match JU Γ E S dc cr ops q (i+1) r ⟨n,(d,v)::sl,mO os hp⟩with
      |some (tr,vq)=>some (⟨d,v,os⟩::tr,(i,vc)::vq)
      |none=>none
     |_,_=>none
    |_,_=>none
   |none=>none
section
variable{oM D:Nat→Bool}{tr:List TE}{s:St}
theorem nv(oM:Nat→Bool)(e:TE)(tr:List TE)(s:St)(h:oM 0=false): ∀i,cU oM (e::tr) s (i+1)=cU (fun j=>oM (j+1)) tr s i
 |0=>by simp[cU,h]
 |i+1=>by
  rw[cU,nv oM e tr s h i,cU]
  simp only[List.getElem?_cons_succ]
theorem oY: ∀{i:Nat} {x:Nat×SV},x∈s.sl→x∈(cU D tr s i).sl
 |0,_,h=>h
 |i+1,x,h=>by
  rw[cU]
  split
  ·exact List.mem_cons_of_mem _ (oY h)
  ·exact oY h
def Eu(Qb:Nat→Bool)(tr:List TE)(s:St)(m:Nat):Prop:= ∀i e,i<m→Qb i=true→tr[i]? =some e→ ∀n o,look e.os n=some o→look (cU Qb tr s i).hp n=none
variable{Qb:Nat→Bool}
end
structure U3(Γ:Nat→TK)(E:Tag→Nat→Prop)(S:FuncId→List S1→List S1→Prop)(dc:List (Nat×Nat))(cr:List (Nat×CR))(ops:List Oper)(q:Nat)(s:St)(tr:List TE)(vq:List (Nat×List Prop)):Prop where
 len:tr.length=ops.length
 one: ∀i,i<ops.length→q.testBit i=true→ ∃o e vc,ops[i]? =some o∧tr[i]? =some e∧o.dst=some e.d∧((cU (fun j=>q.testBit j) tr s i).sl.any fun x=>x.2.mentions e.d)=false∧l5 Γ E S dc cr ops (cU (fun j=>q.testBit j) tr s i) o=some (vc,e.v,e.os)∧(i,vc)∈vq
theorem xk{Γ:Nat→TK}{E:Tag→Nat→Prop}{S:FuncId→List S1→List S1→Prop}{dc:List (Nat×Nat)}{cr:List (Nat×CR)}{ops:List Oper}{q:Nat}: ∀{l:List Oper} {k:Nat} {st:St} {tr:List TE} {vq:List (Nat×List Prop)},JU Γ E S dc cr ops q k l st=some (tr,vq)→(∀i o,l[i]? =some o→ops[k+i]? =some o)→
  tr.length=l.length∧ ∀i,i<l.length→q.testBit (k+i)=true→ ∃o e vc,ops[k+i]? =some o∧tr[i]? =some e∧o.dst=some e.d∧((cU (fun j=>q.testBit (k+j)) tr st i).sl.any fun x=>x.2.mentions e.d)=false∧l5 Γ E S dc cr ops (cU (fun j=>q.testBit (k+j)) tr st i) o=some (vc,e.v,e.os)∧(k+i,vc)∈vq
 | [],k,st,tr,vq,h,_=>by
   simp only[JU,Option.some.injEq,Prod.mk.injEq]at h
   exact⟨by rw[←h.1];rfl,fun i hi=>absurd hi (by simp)⟩
 |o::r,k,⟨n,sl,hp⟩,tr,vq,h,hk=>by
  have hk': ∀i o',r[i]? =some o'→ops[k+1+i]? =some o':=fun i o' ho=>by
   have:=hk (i+1) o' (by simpa using ho)
   rw[show k+1+i=k+(i+1)by omega];exact this
  have hf:(fun j=>q.testBit (k+(j+1)))=fun i=>q.testBit (k+1+i):=by funext j;congr 1;omega
  simp only[JU]at h
  split at h
  ·rename_i hb
   split at h
   case h_2=>cases h
   rename_i tr' vq' h2
   simp only[Option.some.injEq,Prod.mk.injEq]at h
   obtain⟨rfl,rfl⟩:=h
   obtain⟨q1,q2⟩:=xk h2 hk'
   refine⟨by simp[q1],fun i hi hq=> ?_⟩
   cases i with
   |zero=>rw[Nat.add_zero,hb]at hq;cases hq
   |succ i=>
    obtain⟨o',e',Zf,p1,p2,p3,p4,p5,p6⟩:=q2 i (by simpa using hi) (by rw[show k+1+i=k+(i+1)by omega];exact hq)
    refine⟨o',e',Zf,by rw[show k+(i+1)=k+1+i by omega];exact p1,by simpa using p2,p3,?_,?_,by rw[show k+(i+1)=k+1+i by omega];exact p6⟩
    ·rw[nv _ _ tr' _ (by simpa using hb) i,hf];exact p4
    ·rw[nv _ _ tr' _ (by simpa using hb) i,hf];exact p5
  ·rename_i hb
   split at h
   case h_2=>cases h
   rename_i d hd
   split at h
   case h_2=>cases h
   rename_i vc v os hm hq0
   split at h
   case h_2=>cases h
   rename_i v2 os2 Ro ZC
   have Ro:=RT Ro
   have ZC:=Hy ZC
   subst Ro;subst ZC
   split at h
   case h_2=>cases h
   rename_i tr' vq' h2
   simp only[Option.some.injEq,Prod.mk.injEq]at h
   obtain⟨rfl,rfl⟩:=h
   rw[dU]at h2
   obtain⟨q1,q2⟩:=xk h2 hk'
   refine⟨by simp[q1],fun i hi hq=> ?_⟩
   cases i with
   |zero=>exact⟨o,⟨d,v2,os2⟩,vc,hk 0 o rfl,rfl,hd,hm,hq0,by simp⟩
   |succ i=>
    obtain⟨o',e',Zf,p1,p2,p3,p4,p5,p6⟩:=q2 i (by simpa using hi) (by rw[show k+1+i=k+(i+1)by omega];exact hq)
    have hc:=qg (fun j=>q.testBit (k+j)) ⟨d,v2,os2⟩ tr' ⟨n,sl,hp⟩ (by simpa using hb) i
    refine⟨o',e',Zf,by rw[show k+(i+1)=k+1+i by omega];exact p1,by simpa using p2,p3,?_,?_,by rw[show k+(i+1)=k+1+i by omega];exact List.mem_cons_of_mem _ p6⟩
    ·rw[hc,hf];exact p4
    ·rw[hc,hf];exact p5
theorem U3.of{Γ:Nat→TK}{E:Tag→Nat→Prop}{S:FuncId→List S1→List S1→Prop}{dc:List (Nat×Nat)}{cr:List (Nat×CR)}{ops:List Oper}{q:Nat}{s:St}{tr:List TE}{vq:List (Nat×List Prop)}(h:JU Γ E S dc cr ops q 0 ops s=some (tr,vq)):U3 Γ E S dc cr ops q s tr vq:=by
 obtain⟨h1,h2⟩:=xk h (fun i o ho=>by simpa using ho)
 refine⟨h1,fun i hi hq=> ?_⟩
 have:=h2 i hi (by simpa using hq)
 simpa using this
structure ZD(ops:List Oper)(qs B q:Nat):Prop where
 back: ∀i o,ops[i]? =some o→ ∀j,j∈bU o→j<i
 kW: ∀i,i<ops.length→q.testBit i=true→B.testBit i=false
 full: ∀i o,ops[i]? =some o→B.testBit i=false→qs.testBit i=true→(∀j,j∈bU o→B.testBit j=true∨q.testBit j=true)→q.testBit i=true
 uses: ∀i o,q.testBit i=true→ops[i]? =some o→ ∀t,t∈tmpsOf o→ ∀k o',q.testBit k=true→ops[k]? =some o'→o'.dst=some t→k=i∨((HE ops).getD i 0).testBit k=true∨(i<k∧((HE ops).getD k 0).testBit i=true)
 guard: ∀i o j x,q.testBit i=true→ops[i]? =some o→o.guard=some (j,x)→j∈bU o
 dist: ∀i o k o' d,q.testBit i=true→ops[i]? =some o→ops[k]? =some o'→o.dst=some d→o'.dst=some d→k=i
 clq: ∀i o,q.testBit i=true→ops[i]? =some o→ ∀j,j∈bU o→(B.testBit j=true∨q.testBit j=true)
end
section
variable{ty:Tag→Nat}
section
variable{P:Program}{Γ:Nat→TK}{dc:List (Nat×Nat)}{cr:List (Nat×CR)}{ops:List Oper}{s:St}{tr:List TE}{vq:List (Nat×List Prop)}{qs B q:Nat}
theorem U3.fresh{E:Tag→Nat→Prop}{S:FuncId→List S1→List S1→Prop}(T:U3 Γ E S dc cr ops q s tr vq):Eu (fun j=>q.testBit j) tr s ops.length:=by
 intro i e hi hq he n x hl
 obtain⟨o,e',vc,_,he',_,_,R8,_⟩:=T.one i hi hq
 rw[he]at he'
 simp only[Option.some.injEq]at he'
 subst he'
 obtain⟨p,_,_,_,hf⟩:=ir R8
 exact(hf n x hl).1
theorem U3.path{E:Tag→Nat→Prop}{S:FuncId→List S1→List S1→Prop}(T:U3 Γ E S dc cr ops q s tr vq)(K:ZD ops qs B q): ∀(i:Nat),i<ops.length→q.testBit i=true→ ∀o p,ops[i]? =some o→fB (cU (fun j=>q.testBit j) tr s i) ops o=some p→ ∀e,e∈p→
  ∀k o',q.testBit k=true→ops[k]? =some o'→o'.dst=some e.1→ ∀D:Nat→Prop,(∀i o,D i→ops[i]? =some o→ ∀j,j∈bU o→D j)→(∀j,j∈bU o→D j)→D k:=by
 intro i
 induction i using Nat.strongRecOn with
 |_ i ih=>
  intro hi CN o p ho hg e he k o' Mq hok Zj D hD hE
  have nG:k<ops.length:=(List.getElem?_eq_some_iff.1 hok).1
  unfold fB at hg
  split at hg
  ·simp at hg;subst hg;simp at he
  ·rename_i j x hgd
   have hje:=K.guard i o j x CN ho hgd
   have hji:=K.back i o ho j hje
   split at hg
   case h_2=>cases hg
   rename_i qj XZ
   split at hg
   case h_2=>cases hg
   rename_i d XS
   have base:e.1=d→D k:=by
    intro hed
    have:j=k:=K.dist k o' j qj d Mq hok XZ (by rw[Zj,hed]) XS
    rw[←this];exact hE j hje
   split at hg
   ·simp only[Option.some.injEq]at hg
    subst hg
    simp only[List.mem_singleton]at he
    exact base (by rw[he])
   ·rename_i p' b rN
    simp only[Option.some.injEq]at hg
    subst hg
    rcases List.mem_cons.1 he with h|h
    ·exact base (by rw[h])
    ·by_cases Ee:q.testBit j=true
     ·obtain⟨q2,ej,vcj,Lu,hej,ZF,_,R8,_⟩:=T.one j (by omega) Ee
      rw[XZ]at Lu
      simp only[Option.some.injEq]at Lu
      subst Lu
      rw[XS]at ZF
      simp only[Option.some.injEq]at ZF
      subst ZF
      have ZG:look (cU (fun j=>q.testBit j) tr s i).sl ej.d=some ej.v:=by
       refine gh hji Ee hej fun j' e' h1 h2 h3 h4=> ?_
       obtain⟨q',e2,_,VQ,yE,hd2,_⟩:=T.one j' (by omega) h2
       rw[h3]at yE
       simp only[Option.some.injEq]at yE
       subst yE
       exact K.dist j _ j' q' ej.d Ee XZ VQ XS (by rw[hd2,h4])
      rw[ZG]at rN
      simp only[Option.some.injEq]at rN
      obtain⟨pj,Zh,gG,fu,_⟩:=ir R8
      have hpj:pj=p':=by
       by_cases hnil:pj= []
       ·exact absurd rN (gG hnil _ _)
       ·obtain⟨x',hx'⟩:=(fu hnil).1
        rw[hx']at rN
        simp only[SV.cond.injEq]at rN
        exact rN.1
      subst hpj
      exact ih j hji (by omega) Ee _ pj XZ Zh e h k o' Mq hok Zj D hD (hD j _ (hE j hje) XZ)
     ·
      exfalso
      have ZG:look (cU (fun j=>q.testBit j) tr s i).sl d=look s.sl d:=by
       refine jo fun j' e' h1 h2 h3 h4=> ?_
       obtain⟨q',e2,_,VQ,yE,hd2,_⟩:=T.one j' (by omega) h2
       rw[h3]at yE
       simp only[Option.some.injEq]at yE
       subst yE
       have:=K.dist j' q' j qj d h2 VQ XZ (by rw[hd2,h4]) XS
       subst this
       exact Ee h2
      rw[ZG]at rN
      obtain⟨q2,ek,vck,Lu,hek,ZH,hnm,_,_⟩:=T.one k nG Mq
      rw[hok]at Lu
      simp only[Option.some.injEq]at Lu
      subst Lu
      rw[Zj]at ZH
      simp only[Option.some.injEq]at ZH
      rw[List.any_eq_false]at hnm
      refine hnm (d, .cond p' (.a (.lit (.bool b)))) (oY (ew rN)) ?_
      simp only[SV.mentions,List.any_eq_true]
      exact⟨e,h,by rw[ZH];simp⟩
   ·cases hg
end
section
variable{P:Program}{Γ:Nat→TK}{dc:List (Nat×Nat)}{cr:List (Nat×CR)}{ks hs:List Nat}{ops:List Oper}{n0 qs:Nat}
variable{zb:bY}{Q:Exit→Act→World→Prop}
end
def Gp(x:List Prop×St):List (List Prop×St)→Prop
 | []=>True
 |y::r=>y=x∧Gp x r
theorem Gp.out{x:List Prop×St}: ∀{l:List (List Prop×St)},Gp x l→ ∀y,y∈l→y=x
 |_::_,h,y,hy=>by
  rcases List.mem_cons.1 hy with rfl|hy
  ·exact h.1
  ·exact Gp.out h.2 y hy
section
variable{P:Program}{Γ:Nat→TK}{zb:bY}{Q:Post}{st:St}
end
section
variable{P:Program}{Γ:Nat→TK}{zb:bY}{Q:Post}{st:St}
end
end
section
variable{ty:Tag→Nat}
theorem bt.set{α β:Type}{R:α→β→Prop}: ∀{as:List α} {bs:List β} {i:Nat} {x:α},bt R as bs→(∀y,bs[i]? =some y→R x y)→bt R (as.set i x) bs
 | [],[],_,_,_,_=>trivial
 |a::as,b::bs,0,x,h,hx=>⟨hx b rfl,h.2⟩
 |a::as,b::bs,i+1,x,h,hx=>⟨h.1,bt.set h.2 (fun y hy=>hx y (by simpa using hy))⟩
 | [],_::_,_,_,h,_=>h.elim
 |_::_,[],_,_,h,_=>h.elim
section
variable{P:Program}{zb:bY}{st st':St}{Q:Post}
end
end
section
variable{ty:Tag→Nat}
def toBrr(st:St)(s m:Nat)(r:CB):Option St:=match look st.sl s,Nat.blt s st.n with
 |some (.one (.a (.own n))),true=>match look st.hp n,pinned [n],jk m,look (cE [n] [] st.hp) m with
  |some (.arr t []),false,false,none=>match Nat.beq (kk t) 1 with
   |true=>NF ((⟨st.n,st.sl.map fun e=>(e.1,e.2.bE [n] []),aby st.hp n m t [] r⟩:St).put (some s) (.one (.a (.Ag m))))
   |false=>none
  |_,_,_,_=>none
 |_,_=>none
theorem toBrr_ok{zb:bY}{st st':St}{s m:Nat}{r:CB}(h:toBrr st s m r=some st'){a:Act}{w:World}(iv:Inv ty zb st a w):Inv ty zb st' a w:=by
 obtain⟨env,g⟩:=iv.good
 have hB:=iv.kept.size
 unfold toBrr at h
 split at h
 case h_2=>cases h
 rename_i n hs hlt
 split at h
 case h_2=>cases h
 rename_i t hl hpk Jb hlk
 split at h
 case h_2=>cases h
 rename_i hk1
 have hk1:=Nat.eq_of_beq_eq_true hk1
 have h:=mP h
 have XF:soft n=false:=rK hpk (by simp)
 have hb:=RO.Nk XF (g.obj n _ hl)
 have Fk: ∀b,(env n).v.ownBlock=some b→b∈(env n).fp:=by
  intro b hb'
  obtain⟨xs,bh,_,_,_,ig,_⟩:=hb
  rw[ig,hb'];simp
 have hbE:jE 1 Q9 0 (ty t) w (env n).v ([]:List Value) (env n).fp:=by
  obtain⟨xs,bh,q1,q2,q3,q4,q5⟩:=hb
  obtain rfl:bh= []:=List.length_eq_zero_iff.1 q2
  exact⟨xs,[],by rw[hk1]at q1;exact q1,rfl,fun i x f hx=>by simp at hx,q4,q5⟩
 obtain⟨env',hg',Lt,_,_⟩:=At (ty:=ty) g hB (ks:= [n]) hpk Jb hlk (v:=(env n).v) (v':=(env n).v) (w':=w) (ob:= .lZ t [] r) (fp:=(env n).fp) (fx:= []) (gA:=(env n).fp) (by
  intro b hb
  rw[List.append_nil]at hb
  exact⟨n,_,by simp,hl,hb⟩) Fk (fun ad0 hd s2=>⟨hk1,[],hbE,rfl,fun i x u hx=>by simp at hx⟩) ⟨rfl,rfl,rfl,Nat.le_refl _,fun _ _ _=>rfl⟩ (fun b hb=>Or.inl hb)
 have hlt:s<a.tmps.size:=by rw[iv.size];exact Nat.le_of_ble_eq_true hlt
 obtain⟨_,hu⟩:=g.slot s _ hs
 have gp:=hg'.put hlt (v:= .one (.a (.Ag m))) (u:=a.tmps.getD s undef) ⟨⟨t,[],_,look_eq⟩,by rw[Lt];exact hu⟩ rfl
 have e:a.tmps.setIfInBounds s (a.tmps.getD s undef)=a.tmps:=by
  rw[Array.getD_eq_getD_getElem?,Array.getElem?_eq_getElem hlt]
  apply Array.ext
  ·simp
  ·intro i h1 h2
   rw[Array.getElem_setIfInBounds]
   split
   ·rename_i hi;subst hi;rfl
   ·rfl
 rw[e]at gp
 rw[h]
 exact⟨by rw[yz];exact iv.size,iv.defers,iv.kept,iv.B0,env',gp⟩
theorem W.toBrr{P:Program}{zb:bY}{Q:Post}{st st':St}{c:Code}(s m:Nat)(h:G.toBrr st s m .oB=some st')(k:W P ty zb c Q st'):W P ty zb c Q st:=fun a w iv=>k a w (toBrr_ok h iv)
end
section
variable{ty:Tag→Nat}
def toLsl(st:St)(s:Nat)(v:Value):Option St:=match look st.sl s with
 |some (.one (.a (.sl t l)))=>NF ⟨st.n,(s, .one (.a (.fY v t l)))::st.sl,st.hp⟩
 |_=>none
theorem W.fY{P:Program}{zb:bY}{c:Code}{Q:Post}{st:St}(s:Nat){f:Value→St}(h: ∀v,toLsl st s v=some (f v))(k: ∀v,W P ty zb c Q (f v)):W P ty zb c Q st:=by
 intro a w iv
 have h:=h (a.tmps.getD s undef)
 refine k (a.tmps.getD s undef) a w ?_
 obtain⟨env,g⟩:=iv.good
 unfold toLsl at h
 split at h
 case h_2=>cases h
 rename_i t l hs
 have h:=mP h
 rw[h]
 refine⟨iv.size,iv.defers,iv.kept,iv.B0,env,⟨g.obj,g.kW,fun s' v hv=> ?_,g.dom,g.pins⟩⟩
 by_cases hss:s'=s
 ·subst hss
  rw[look_eq]at hv
  simp only[Option.some.injEq]at hv
  subst hv
  exact⟨rfl,g.slot _ _ hs⟩
 ·rw[aU hss]at hv
  exact g.slot s' v hv
end
end Go.Proofs.YteodajeiagmekaaGreat.G
