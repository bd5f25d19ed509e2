/-
  Regions whose guards are known.
-/
import Derived.Orders
import Derived.Test.YtkkfjbfkjbljiaaGreatDoorM9
namespace Go.Proofs.YtkkfjbfkjbljiaaGreatDoor.G
set_option linter.all false
open Go.RowKit L D
section
variable{ty:Tag→Nat}
def yQ(Γ:Nat→TK)(E:Tag→Nat→Prop)(S:FuncId→List S1→List S1→Prop)(cU:List (Nat×Nat))(cr:List (Nat×CR))(ops:List Oper):List Oper→St→List Prop→Option (List Prop×St)
 | [],st,acc=>some (acc,st)
 |o::r,⟨n,sl,hp⟩,acc=>match o.dst with
  |some d=>match sl.any (fun e=>e.2.mentions d),kF Γ E S cU cr ops ⟨n,sl,hp⟩ o with
   |false,some ([],v,os)=>yQ Γ E S cU cr ops r ⟨n,(d,v)::sl,kT os hp⟩ acc
   |false,some ([p],v,os)=>yQ Γ E S cU cr ops r ⟨n,(d,v)::sl,kT os hp⟩ (p::acc)
   |false,some ([p,q],v,os)=>yQ Γ E S cU cr ops r ⟨n,(d,v)::sl,kT os hp⟩ (p::q::acc)
   |false,some (l,v,os)=>yQ Γ E S cU cr ops r ⟨n,(d,v)::sl,kT os hp⟩ (l++acc)
   |_,_=>none
  |none=>none
structure TE where
 d:Nat
 v:SV
 os:Hp
def app(s:St)(e:TE):St:=⟨s.n,(e.d,e.v)::s.sl,e.os++s.hp⟩
theorem AM{Γ:Nat→TK}{E:Tag→Nat→Prop}{S:FuncId→List S1→List S1→Prop}{cU:List (Nat×Nat)}{cr:List (Nat×CR)}{ops:List Oper}{o:Oper}{r:List Oper}{st:St}{acc vcs:List Prop}{qg:St}(h:yQ Γ E S cU cr ops (o::r) st acc=some (vcs,qg)):
  ∃vc e,o.dst=some e.d∧(st.sl.any fun x=>x.2.mentions e.d)=false∧kF Γ E S cU cr ops st o=some (vc,e.v,e.os)∧yQ Γ E S cU cr ops r (app st e) (vc++acc)=some (vcs,qg):=by
 obtain⟨n,sl,hp⟩:=st
 simp only[yQ]at h
 split at h
 ·rename_i d hd
  split at h
  ·rename_i v os h1 h2;exact⟨[],⟨d,v,os⟩,hd,h1,h2,by simp only[dJ]at h;exact h⟩
  ·rename_i p v os h1 h2;exact⟨[p],⟨d,v,os⟩,hd,h1,h2,by simp only[dJ]at h;exact h⟩
  ·rename_i p q v os h1 h2;exact⟨[p,q],⟨d,v,os⟩,hd,h1,h2,by simp only[dJ]at h;exact h⟩
  ·rename_i l v os _ _ _ h1 h2;exact⟨_,⟨d,v,os⟩,hd,h1,h2,by simp only[dJ]at h;exact h⟩
  ·cases h
 ·cases h
def Eh(sl:List (Nat×SV)):Bool:=sl.all fun e=>match e.2 with| .cond _ _=>false|_=>true
def WQ(P:Program)(ty:Tag→Nat)(Γ:Nat→TK)(cU:List (Nat×Nat))(cr:List (Nat×CR))(ks hs:List Nat)(m:Nat)(ops:List Oper):St→Option (List Prop×St)
 | ⟨n,MK,gH⟩=>match Eh MK,yQ Γ (Fw P ty) (Sound ty P) cU cr ops (ops.take m) ⟨n,MK,gH⟩ []with
   |true,some (oL,s1)=>match run P ty Γ cU cr ops (ops.drop m) s1 oL with
    |some (vc,st')=>match yp st'.sl ks,yq st'.hp (JQ st'.sl st'.hp ks hs)with
     |some sl,some hp=>match oR sl hp,Nat.beq st'.n n with
      |true,true=>some (vc,⟨n,sl,hp⟩)
      |_,_=>none
     |_,_=>none
    |none=>none
   |_,_=>none
def cm(o:Oper):List Nat:=o.after.toList.filterMap fun e=>if Region.binds .any e then some e.on else none
def iE(acc:List Nat)(o:Oper):List Nat:=acc++ [(cm o).foldl (fun s j=>s|||2^j|||acc.getD j 0) 0]
def C0(ops:List Oper):List Nat:=ops.foldl iE []
def tmpsOf(o:Oper):List Nat:=o.op.operands.toList.filterMap fun| .tmp t=>some t|_=>none
def vk(o:Oper)(t:Nat):Bool:=match o.dst with|some d=>Nat.beq d t|none=>false
def idx{α:Type}:Nat→List α→List (Nat×α)
 |_,[]=> []
 |i,x::r=>(i,x)::idx (i+1) r
def Oy(A:List (Nat×Oper))(cl:List Nat)(i:Nat)(o:Oper):Bool:=
 (tmpsOf o).all fun t=>A.all fun e=> !(vk e.2 t)||Nat.beq e.1 i|| (cm o).any (Nat.beq e.1)|| (Nat.blt i e.1&&(cl.getD e.1 0).testBit i)
def JT(m:Nat)(i:Nat)(o:Oper):Bool:=match o.guard with
 |none=>true
 |some (j,_)=>Nat.blt j i&&Nat.blt j m&&(cm o).any (Nat.beq j)
def Oz(A:List (Nat×Oper))(i:Nat)(o:Oper):Bool:=match o.dst with
 |some d=>A.all fun e=>Nat.beq e.1 i|| !(vk e.2 d)
 |none=>false
def chk(ops:List Oper)(m:Nat):Bool:=
 let cl:=C0 ops
 let A:=idx 0 (ops.take m)
 (Nat.ble m ops.length)&&
 ((idx 0 ops).all fun e=>(cm e.2).all fun j=>Nat.blt j e.1)&&
 (A.all fun e=>Oy A cl e.1 e.2&&JT m e.1 e.2&&Oz A e.1 e.2)&&
 ((idx 0 ops).all fun e=>Nat.blt e.1 m|| (List.range e.1).all fun j=>(cl.getD e.1 0).testBit j)
end
section
variable{ty:Tag→Nat}
def Compat(hp hp':Hp):Prop:= ∀n o o',look hp n=some o→look hp' n=some o'→o=o'
section
variable{zb:cL}{st T:St}{a:Act}{w:World}{env:Env}
theorem F2(c:Compat st.hp T.hp){tg:Option Tag}{v x:V}{u:Value}(hr:RA w T.hp env v u)(h:mE st tg v=some x):mE T tg v=some x:=by
 cases v with
 |own n=>
  obtain⟨⟨t,l,hl⟩,_⟩:=hr
  simp only[mE]at h ⊢
  split at h
  ·rename_i t' l' hl'
   have:=c n _ _ hl' hl
   simp only[Obj.arr.injEq]at this
   obtain⟨rfl,nC⟩:=this
   rw[hl]
   simp only[←eq_of_heq nC]
   exact h
  ·cases h
 |sl t l=>exact h
 |vw n p t l=>exact h
 |mix n c t l=>exact h
 |pW n=>
  obtain⟨⟨t,l,s,hl⟩,_⟩:=hr
  simp only[mE]at h ⊢
  split at h
  ·rename_i t' l' hl'
   have:=c n _ _ hl' hl
   rw[←this]at hl
   rw[hl];exact h
  ·rename_i t' l' m hl'
   have:=c n _ _ hl' hl
   rw[←this]at hl
   rw[hl];exact h
  ·cases h
 |lit v=>
  have e:mE T tg (.lit v)=mE st tg (.lit v):=by
   cases v with
   |slice a n c=>cases a<;>cases n<;>cases c<;>rfl
   |_=>rfl
  rw[e];exact h
 |_=>simp[mE]at h
theorem C1(c:Compat st.hp T.hp): ∀{vs:List V} {tg:List (Option Tag)} {xs:List V} {us:List Value},bH (RA w T.hp env) vs us→Fm st tg vs=some xs→Fm T tg vs=some xs
 | [],_,xs,us,_,h=>h
 |v::r,tg,xs,us,hr,h=>by
  cases us with
  |nil=>exact hr.elim
  |cons u us=>
   simp only[Fm]at h ⊢
   split at h
   ·rename_i x y h1 h2
    rw[F2 c hr.1 h1,C1 c hr.2 h2]
    exact h
   ·cases h
theorem LA(c:Compat st.hp T.hp){k:TK}{v x:S1}{u:Value}(hr:fD w T.hp env v u)(h:arg1 st k v=some x):arg1 T k v=some x:=by
 cases v with
 |a v=>
  simp only[arg1]at h ⊢
  split at h
  ·rename_i y hy
   rw[F2 c hr hy]
   exact h
  ·cases h
 |agg l=>
  obtain⟨cs,_,hl⟩:=hr
  simp only[arg1]at h ⊢
  split at h
  ·rename_i y hy
   rw[C1 c hl hy]
   exact h
  ·cases h
theorem vl{p:List (Nat×Bool)}{x:Operand}(hs: ∀t,x= .tmp t→look st.sl t=look T.sl t):Hr st p x=Hr T p x:=by
 cases x with
 |tmp t=>simp only[Hr,hs t rfl]
 |_=>rfl
theorem AN{p:List (Nat×Bool)}{x:Operand}(hs: ∀t,x= .tmp t→look st.sl t=look T.sl t):fC st p x=fC T p x:=by
 unfold fC
 rw[vl hs]
theorem LB{b:Bool}(c:Compat st.hp T.hp){k:TK}{v x:S1}{u:Value}(hr:fD w T.hp env v u)(h:Ld b st k v=some x):Ld b T k v=some x:=by
 unfold Ld at h ⊢
 split at h
 ·exact h
 ·exact LA c hr h
theorem wW{b:Bool}{Γ:Nat→TK}(c:Compat st.hp T.hp)(g:Good ty zb T a.tmps w env){p:List (Nat×Bool)}(hp:holds a.tmps p): ∀{xs:List Operand} {ts:List Nat} {as:List S1},(∀x,x∈xs→ ∀t,x= .tmp t→look st.sl t=look T.sl t)→args b Γ st p xs ts=some as→args b Γ T p xs ts=some as
 | [],_,as,_,h=>h
 |x::r,ts,as,hs,h=>by
  simp only[args]at h ⊢
  rw[←AN (st:=st) (T:=T) (hs x (by simp))]
  split at h
  ·rename_i v hv
   split at h
   ·rename_i y ys h1 h2
    have hr:=ef g hp (by rw[←AN (hs x (by simp))];exact hv)
    rw[LB c hr h1,wW c g hp (fun z hz=>hs z (List.mem_cons_of_mem _ hz)) h2]
    exact h
   ·cases h
  ·cases h
theorem Ic(c:Compat st.hp T.hp){k:TK}{v:V}{u:Value}{n:Int}(hr:RA w T.hp env v u)(h:lenOf st k v=some n):lenOf T k v=some n:=by
 cases v with
 |own m=>
  obtain⟨⟨t,l,hl⟩,_⟩:=hr
  simp only[lenOf]at h ⊢
  split at h
  ·split at h
   ·rename_i t' l' hl'
    have:=c m _ _ hl' hl
    simp only[Obj.arr.injEq]at this
    obtain⟨rfl,nC⟩:=this
    rw[hl]
    simp only[←eq_of_heq nC]
    exact h
   ·cases h
  ·cases h
 |sl t l=>exact h
 |vw n p t l=>exact h
 |lit v=>
  have e:lenOf T k (.lit v)=lenOf st k (.lit v):=by
   cases v with
   |slice a n c=>cases a<;>cases n<;>cases c<;>rfl
   |_=>rfl
  rw[e];exact h
 |_=>simp[lenOf]at h
theorem Ei(c:Compat st.hp T.hp){v:V}{u:Value}(hr:RA w T.hp env v u){l:List UInt8}(h:bytesOf st v=some l):bytesOf T v=some l:=by
 cases v with
 |own n=>
  obtain⟨⟨t,l2,lI⟩,_⟩:=hr
  simp only[bytesOf]at h ⊢
  split at h
  ·rename_i l3 SD
   simp only[oI]at h
   subst h
   have:=c n _ _ SD lI
   simp only[Obj.arr.injEq]at this
   obtain⟨rfl,nC⟩:=this
   rw[lI]
   simp only[eq_of_heq nC]
  ·cases h
 |sl t l=>
  have e:bytesOf T (.sl t l)=bytesOf st (.sl t l):=by cases t<;>rfl
  rw[e];exact h
 |vw n p t l=>
  have e:bytesOf T (.vw n p t l)=bytesOf st (.vw n p t l):=by cases t<;>rfl
  rw[e];exact h
 |lit v=>
  have e:bytesOf T (.lit v)=bytesOf st (.lit v):=by
   cases v with
   |slice a n c=>cases a<;>cases n<;>cases c<;>rfl
   |_=>rfl
  rw[e];exact h
 |_=>simp[bytesOf]at h
theorem yt{p:List (Nat×Bool)}{g:Tag}: ∀{xs:List (Nat×Operand)} {i:Nat},(∀x,x∈xs→fC st p x.2=fC T p x.2)→nj st p g i xs=nj T p g i xs
 | [],_,_=>rfl
 | (j,x)::r,i,h=>by
   simp only[nj]
   rw[h (j,x) (by simp),yt (fun y hy=>h y (List.mem_cons_of_mem _ hy))]
theorem AO{p:List (Nat×Bool)}{n:Nat}{fo:List Nat}: ∀{xs:List (Nat×Operand)} {c:List V},(∀x,x∈xs→Hr st p x.2=Hr T p x.2)→pK st p n fo xs c=pK T p n fo xs c
 | [],_,_=>rfl
 | (j,x)::r,c,h=>by
   simp only[pK]
   rw[h (j,x) (by simp)]
   have: ∀c',pK st p n fo r c'=pK T p n fo r c':=fun c'=>AO (fun y hy=>h y (List.mem_cons_of_mem _ hy))
   simp only[this]
theorem tP{p:List (Nat×Bool)}: ∀{xs:List Operand},(∀x,x∈xs→fC st p x=fC T p x)→uJ st p xs=uJ T p xs
 | [],_=>rfl
 |x::r,h=>by
  simp only[uJ,Le]
  rw[h x (by simp),tP (fun y hy=>h y (List.mem_cons_of_mem _ hy))]
theorem rW(c:Compat st.hp T.hp){v:V}{u:Value}(hr:RA w T.hp env v u){n:Nat}(hn:v.name=some n){o:Obj}(h:look st.hp n=some o):look T.hp n=some o:=by
 have: ∃o',look T.hp n=some o':=by
  cases v<;>simp only[V.name,oI,reduceCtorEq]at hn
  case own m=>subst hn;obtain⟨⟨t,l,hl⟩,_⟩:=hr;exact⟨_,hl⟩
  case ptr m off=>subst hn;obtain⟨⟨c,hl⟩,_⟩:=hr;exact⟨_,hl⟩
  case kE m i off=>subst hn;obtain⟨t,l,hl,_⟩:=hr;exact⟨_,hl⟩
  case vw m p t l=>subst hn;obtain⟨⟨t,l,hl⟩,_⟩:=hr;exact⟨_,hl⟩
  case yI m t l=>subst hn;obtain⟨⟨t,l,hl⟩,_⟩:=hr;exact⟨_,hl⟩
  case mix m c t l=>subst hn;obtain⟨⟨t,l,hl⟩,_⟩:=hr;exact⟨_,hl⟩
  case pW m=>subst hn;obtain⟨⟨t,l,s,hl⟩,_⟩:=hr;exact⟨_,hl⟩
  case yf f m=>subst hn;obtain⟨⟨c,hl⟩,_⟩:=hr;exact⟨_,hl⟩
  case yH m p t x off=>subst hn;obtain⟨⟨t,l,hl⟩,_⟩:=hr;exact⟨_,hl⟩
 obtain⟨o',h'⟩:=this
 rw[c n _ _ h h'];exact h'
theorem wX(c:Compat st.hp T.hp): ∀{l d:List V} {n:Nat} {us:List Value},bH (RA w T.hp env) l us→tJ st.hp l=some (d,n)→tJ T.hp l=some (d,n)
 | [],_,_,_,_,h=>by simp[tJ]at h
 |v::r,d,n,us,hr,h=>by
  cases us with
  |nil=>exact hr.elim
  |cons u us=>
   unfold tJ at h
   split at h
   ·rename_i m r' he
    simp only[List.cons.injEq]at he
    obtain⟨rfl,rfl⟩:=he
    split at h
    ·rename_i t l hl nB
     have:=rW c hr.1 (n:=m) rfl hl
     simp only[tJ,this,nB]
     exact h
    ·cases h
   ·rename_i m pp t l r' he
    simp only[List.cons.injEq]at he
    obtain⟨rfl,rfl⟩:=he
    split at h
    ·rename_i t0 l0 hl nB
     have:=rW c hr.1 (n:=m) rfl hl
     simp only[tJ,this,nB]
     exact h
    ·cases h
   ·cases h
   ·rename_i x r' Vr he
    simp only[List.cons.injEq]at he
    obtain⟨rfl,rfl⟩:=he
    split at h
    ·rename_i c' n' h'
     have:=wX c hr.2 h'
     unfold tJ
     split
     ·rename_i e;simp at e
     ·rename_i e;simp at e
     ·rename_i e;simp only[List.cons.injEq,V.lit.injEq]at e;exact absurd e.1 (by rintro rfl;exact Vr _ _ _ rfl)
     ·rename_i e
      simp only[List.cons.injEq,V.lit.injEq]at e
      obtain⟨rfl,rfl⟩:=e
      rw[this];exact h
     ·rename_i e1 e2 e3;exact absurd rfl (e3 _ _)
    ·cases h
   ·cases h
theorem quiet_mono{Γ:Nat→TK}{E:Tag→Nat→Prop}{S:FuncId→List S1→List S1→Prop}(c:Compat st.hp T.hp)(g:Good ty zb T a.tmps w env){p:List (Nat×Bool)}(hp:holds a.tmps p){cr:List (Nat×CR)}{d m:Nat}{op:Op}{out:Out}
  (hs: ∀x,x∈op.operands.toList→ ∀t,x= .tmp t→look st.sl t=look T.sl t)(h:quiet Γ E S cr st p d m op=some out):quiet Γ E S cr T p d m op=some out:=by
 have ho: ∀{q x},x∈op.operands.toList→fC st q x=fC T q x:=fun hx=>AN (hs _ hx)
 have hr: ∀{x v},x∈op.operands.toList→fC st p x=some v→fD w T.hp env v (a.eval x):=fun hx hv=>ef g hp (by rw[←ho hx];exact hv)
 have rn: ∀{x v n o},x∈op.operands.toList→fC st p x=some (.a v)→v.name=some n→look st.hp n=some o→look T.hp n=some o:=fun hx hv hn hl=>rW c (hr hx hv) hn hl
 cases op with
 |move x=>
  have hm:No st x=No T x:=by
   cases x with
   |tmp t=>simp only[No];rw[hs (.tmp t) (by simp[Op.operands]) t rfl]
   |_=>rfl
  simp only[quiet]at h ⊢;rw[←vl (st:=st) (hs x (by simp[Op.operands])), ←hm];exact h
 |assign x=>
  have hm:No st x=No T x:=by
   cases x with
   |tmp t=>simp only[No];rw[hs (.tmp t) (by simp[Op.operands]) t rfl]
   |_=>rfl
  simp only[quiet]at h ⊢;rw[←vl (st:=st) (hs x (by simp[Op.operands])), ←hm];exact h
 |nilCheck x=>simp only[quiet]at h ⊢;rw[←ho (by simp[Op.operands])];exact h
 |index t x i=>simp only[quiet]at h ⊢;rw[←ho (x:=x) (by simp[Op.operands]), ←ho (x:=i) (by simp[Op.operands])];exact h
 |lookup t x y b=>
  cases b with
  |true=>simp[quiet]at h
  |false=>
   simp only[quiet]at h ⊢
   split at h
   ·rename_i hk
    split at h
    ·rename_i n k hx hy
     split at h
     ·rename_i tg l0 hl
      have Y0:RA w T.hp env (.pW n) (a.eval x):=hr (x:=x) (by simp[Op.operands]) hx
      have lI:=rW c Y0 (n:=n) rfl hl
      simp only[hk, ←ho (x:=x) (by simp[Op.operands]), ←ho (x:=y) (by simp[Op.operands]),hx,hy,lI]
      exact h
     ·cases h
    ·cases h
   ·cases h
 |makeMap t r=>
  cases r with
  |some _=>simp[quiet]at h
  |none=>exact h
 |makeSlice t x y=>simp only[quiet]at h ⊢;rw[←ho (x:=x) (by simp[Op.operands]), ←ho (x:=y) (by simp[Op.operands])];exact h
 |buildSlice t n xs=>
  simp only[quiet]at h ⊢
  have hq: ∀g,nj st p g 0 xs.toList=nj T p g 0 xs.toList:=fun g=>yt fun x hx=>ho (by simp only[Op.operands,List.mem_map];exact⟨x,hx,rfl⟩)
  simp only[←hq]
  split at h
  case h_2=>cases h
  rename_i gt e hk
  cases hkey:(look cr (d+500000)).isSome with
  |false=>simp only[hkey]at h ⊢;exact h
  |true=>
   simp only[hkey]at h ⊢
   split at h
   case h_2=>cases h
   rename_i x hlen hps
   split at h
   case h_2=>cases h
   rename_i s hx
   split at h
   case h_2=>cases h
   rename_i cc n1 hc
   have hmem:x∈(Op.buildSlice t n xs).operands.toList:=by
    simp only[Op.operands,List.mem_map,Array.toList_map]
    exact⟨(0,x),by rw[hps];simp,rfl⟩
   have Y0:=hr hmem hx
   have hown:tJ T.hp (cellsOf s)=some (cc,n1):=by
    cases s with
    |agg l=>obtain⟨cs,_,hl⟩:=Y0;exact wX c hl hc
    |a v=>exact wX c (us:= [a.eval x]) ⟨Y0,trivial⟩ hc
   simp only[←ho hmem,hx,hown]
   exact h
 |build t xs=>
  simp only[quiet]at h ⊢
  have hq: ∀n fo z,pK st p n fo xs.toList z=pK T p n fo xs.toList z:=fun n fo z=>AO fun x hx=>vl (hs _ (by simp only[Op.operands,List.mem_map];exact⟨x,hx,rfl⟩))
  simp only[←hq]
  exact h
 |pick x y z=>
  cases x with
  |tmp t=>
   simp only[quiet]at h ⊢
   rw[←ho (x:= .tmp t) (by simp[Op.operands]), ←ho (x:=y) (by simp[Op.operands]), ←ho (x:=z) (by simp[Op.operands])]
   exact h
  |_=>simp[quiet]at h
 |box e x=>simp only[quiet]at h ⊢;rw[←ho (by simp[Op.operands])];exact h
 |alloc t=>exact h
 |load t x=>
  have hm:x∈(Op.load t x).operands.toList:=by simp[Op.operands]
  simp only[quiet]at h ⊢
  rw[←ho hm]
  split at h
  ·rename_i n off hx
   try rw[hx]
   try dsimp only
   split at h
   ·rename_i c2 lI
    rw[rn hm hx rfl lI]
    exact h
   ·cases h
  ·rename_i hx
   try rw[hx]
   exact h
  ·rename_i hx
   try rw[hx]
   exact h
  ·rename_i n i off hx
   try rw[hx]
   try dsimp only
   split at h
   ·rename_i c2 lI
    rw[rn hm hx rfl lI]
    exact h
   ·cases h
  ·cases h
 |binOp op t x y t'=>
  simp only[quiet]at h ⊢
  rw[←ho (x:=x) (by simp[Op.operands]), ←ho (x:=y) (by simp[Op.operands])]
  exact h
 |unOp op t x=>
  cases op with
  |not=>simp only[quiet]at h ⊢;rw[←ho (by simp[Op.operands])];exact h
  |neg=>simp only[quiet]at h ⊢;rw[←ho (by simp[Op.operands])];exact h
  |_=>simp[quiet]at h
 |convert s t x=>
  simp only[quiet]at h ⊢
  rw[←ho (x:=x) (by simp[Op.operands])]
  split at h
  ·rename_i ik n k1 k2 hx hk1 hk2
   try rw[hx,hk1,hk2]
   exact h
  ·rename_i v g' e hx hk1 hk2
   try rw[hx,hk1,hk2]
   try dsimp only
   split at h
   ·rename_i l Wk hl
    rw[Wk,Ei c (show RA w T.hp env v _ from hr (x:=x) (by simp[Op.operands]) hx) hl]
    exact h
   ·cases h
  ·cases h
 |slice t x lo hi mx=>
  cases mx with
  |some mx=>
   cases lo with
   |some _=>simp[quiet]at h
   |none=>
    cases hi with
    |none=>simp[quiet]at h
    |some hi=>
     have hb: ∀(y:Operand),y∈(Op.slice t x none (some hi) (some mx)).operands.toList→DQ st p 0 (some y)=DQ T p 0 (some y):=fun y hy=>by simp only[DQ];rw[ho hy]
     have hm:x∈(Op.slice t x none (some hi) (some mx)).operands.toList:=by simp[Op.operands]
     simp only[quiet]at h ⊢
     rw[←ho hm, ←hb hi (by simp[Op.operands]), ←hb mx (by simp[Op.operands])]
     split at h
     case h_2=>cases h
     rename_i hk
     try rw[hk]
     try dsimp only
     split at h
     case h_2=>cases h
     rename_i n n1 n2 hx h1 h2
     try rw[hx,h1,h2]
     try dsimp only
     split at h
     case h_2=>cases h
     rename_i t' l hl
     rw[rn hm hx rfl hl]
     exact h
  |none=>
   have hb: ∀(b:Option Operand),(∀y,b=some y→y∈(Op.slice t x lo hi none).operands.toList)→ ∀z,DQ st p z b=DQ T p z b:=by
    intro b hm z
    cases b with
    |none=>rfl
    |some y=>simp only[DQ];rw[ho (hm y rfl)]
   have hm:x∈(Op.slice t x lo hi none).operands.toList:=by simp[Op.operands]
   simp only[quiet]at h ⊢
   rw[←ho hm, ←hb lo (by rintro y rfl;simp[Op.operands])]
   simp only[←hb hi (by rintro y rfl;simp[Op.operands])]
   cases hkey:(look cr (d+600000)).isSome with
   |true=>simp only[hkey]at h ⊢;exact h
   |false=>
    simp only[hkey]at h ⊢
    split at h
    ·split at h
     ·rename_i hx hlo
      try rw[hx,hlo]
      exact h
     ·rename_i hx hlo
      try rw[hx,hlo]
      exact h
     ·rename_i hx hlo
      try rw[hx,hlo]
      try dsimp only
      split at h
      ·rename_i lI
       rw[rn hm hx rfl lI]
       exact h
      ·cases h
     ·rename_i hx hlo
      try rw[hx,hlo]
      exact h
     ·cases h
    ·exact h
    ·cases h
 |makeFunc fn first captured=>
  cases fn with
  |func f=>
   simp only[quiet]at h ⊢
   split at h
   ·rename_i x hf hc
    try rw[hf,hc]
    try dsimp only
    have hm:x∈(Op.makeFunc (.func f) first captured).operands.toList:=by simp only[Op.operands,Array.toList_append,hf,hc];simp
    have e:=ho (q:=p) hm
    rw[←e]
    exact h
   ·cases h
  |_=>simp[quiet]at h
 |fieldAddr t x f=>
  simp only[quiet]at h ⊢
  rw[←ho (x:=x) (by simp[Op.operands])]
  exact h
 |indexAddr t x i=>
  have hm:x∈(Op.indexAddr t x i).operands.toList:=by simp[Op.operands]
  simp only[quiet]at h ⊢
  rw[←ho hm, ←ho (x:=i) (by simp[Op.operands])]
  split at h
  ·split at h
   ·rename_i hx hi
    try rw[hx,hi]
    exact h
   ·rename_i hx hi
    try rw[hx,hi]
    try dsimp only
    split at h
    ·rename_i lI
     rw[rn hm hx rfl lI]
     exact h
    ·cases h
   ·rename_i hx hi
    try rw[hx,hi]
    exact h
   ·cases h
  ·cases h
 |extract x i=>
  cases x with
  |tmp t=>simp only[quiet]at h ⊢;rw[←hs (.tmp t) (by simp[Op.operands]) t rfl];exact h
  |_=>simp[quiet]at h
 |call cl=>
  obtain⟨callee,xs,ts⟩:=cl
  have hop: ∀x,x∈xs.toList→x∈(Op.call ⟨callee,xs,ts⟩).operands.toList:=by
   intro x hx
   simp only[Op.operands,Call.operands,Array.toList_append]
   exact List.mem_append_right _ hx
  cases callee with
  |value x=>
   cases x with
   |func f=>
    simp only[quiet]at h ⊢
    split at h
    ·rename_i as c1 h1 h2
     rw[wW c g hp (fun x hx=>hs x (hop x hx)) h1,h2]
     exact h
    ·cases h
   |tmp y=>
    simp only[quiet]at h ⊢
    rw[←ho (x:= .tmp y) (by simp[Op.operands,Call.operands])]
    split at h
    ·rename_i v hv
     try rw[hv]
     try dsimp only
     split at h
     ·rename_i f hf
      try rw[hf]
      try dsimp only
      split at h
      ·rename_i as c1 h1 h2
       rw[wW c g hp (fun x hx=>hs x (hop x hx)) h1,h2]
       exact h
      ·cases h
     ·cases h
    ·cases h
   |_=>simp[quiet]at h
  |builtin b=>
   cases b with
   |len=>
    simp only[quiet]at h ⊢
    split at h
    ·rename_i x t hxl htl
     have hm:x∈xs.toList:=by rw[hxl];simp
     try rw[hxl,htl]
     try dsimp only
     rw[←ho (hop x hm)]
     split at h
     ·rename_i v hv
      try rw[hv]
      try dsimp only
      split at h
      ·rename_i n hn
       rw[Ic c (show RA w T.hp env v _ from hr (hop x hm) hv) hn]
       exact h
      ·cases h
     ·cases h
    ·cases h
   |append=>
    simp only[quiet]at h ⊢
    split at h
    case h_2=>cases h
    rename_i x y t1 t2 hkey hxl htl
    try rw[hkey,hxl,htl]
    try dsimp only
    have U8:x∈xs.toList:=by rw[hxl];simp
    have hmy:y∈xs.toList:=by rw[hxl];simp
    rw[←ho (hop x U8), ←ho (hop y hmy)]
    exact h
   |max=>simp only[quiet]at h ⊢;rw[←tP (st:=st) (T:=T) (xs:=xs.toList) (fun x hx=>ho (hop x hx))];exact h
   |min=>simp only[quiet]at h ⊢;rw[←tP (st:=st) (T:=T) (xs:=xs.toList) (fun x hx=>ho (hop x hx))];exact h
   |_=>simp[quiet]at h
  |invoke _ _=>simp[quiet]at h
 |_=>simp[quiet]at h
theorem LC{p:List (Nat×Bool)}(hs: ∀e,e∈p→look st.sl e.1=look T.sl e.1):hyps st p=hyps T p:=by
 induction p with
 |nil=>rfl
 |cons e r ih=>
  obtain⟨d,x⟩:=e
  simp only[hyps]
  rw[hs (d,x) (by simp),ih fun e he=>hs e (by simp[he])]
theorem AP{Γ:Nat→TK}{E:Tag→Nat→Prop}{S:FuncId→List S1→List S1→Prop}(c:Compat st.hp T.hp)(g:Good ty zb T a.tmps w env)(hn:T.n=st.n){cU:List (Nat×Nat)}{cr:List (Nat×CR)}{ops:List Oper}{o:Oper}{p:List (Nat×Bool)}(fu:e9 st ops o=some p)(iO:e9 T ops o=some p)(hp:holds a.tmps p)
  (hs: ∀x,x∈o.op.operands.toList→ ∀t,x= .tmp t→look st.sl t=look T.sl t)(hps: ∀e,e∈p→look st.sl e.1=look T.sl e.1){vc:List Prop}{v:SV}{os:Hp}(hf:fresh T.hp os=true)(h:kF Γ E S cU cr ops st o=some (vc,v,os)):
  kF Γ E S cU cr ops T o=some (vc,v,os):=by
 have hd:qz T o.dst=qz st o.dst:=by unfold qz;rw[hn]
 simp only[kF]at h ⊢
 rw[hd,iO]
 rw[fu]at h
 split at h
 ·rename_i m e1 e2 e3
  simp only[oI]at e3
  subst e3
  try rw[e1,e2]
  try dsimp only
  split at h
  ·rename_i oL v1 os1 hq
   rw[quiet_mono c g hp hs hq]
   try dsimp only
   split at h
   ·rename_i h1 h2
    simp only[oI,pI]at h
    obtain⟨rfl,rfl,rfl⟩:=h
    simp only[hf,h2]
   ·cases h
  ·cases h
 ·rename_i m e p' e1 e2 e3
  simp only[oI]at e3
  subst e3
  try rw[e1,e2]
  try dsimp only
  split at h
  ·rename_i h1
   try rw[h1]
   try dsimp only
   split at h
   ·rename_i oL v1 hq
    rw[quiet_mono c g hp hs hq]
    try dsimp only
    rw[←LC hps]
    exact h
   ·cases h
  ·cases h
 ·cases h
end
end
section
variable{ty:Tag→Nat}
def cY(nu:Nat→Bool)(tr:List TE)(s:St):Nat→St
 |0=>s
 |i+1=>match nu i,tr[i]? with
  |true,some e=>app (cY nu tr s i) e
  |_,_=>cY nu tr s i
abbrev pre(tr:List TE)(s:St)(i:Nat):St:=cY (fun _=>true) tr s i
structure Trace(Γ:Nat→TK)(E:Tag→Nat→Prop)(S:FuncId→List S1→List S1→Prop)(cU:List (Nat×Nat))(cr:List (Nat×CR))(ops:List Oper)(m:Nat)(s:St)(tr:List TE)(vcs:List Prop):Prop where
 len:tr.length=m
 one: ∀i,i<m→ ∃o e vc,ops[i]? =some o∧tr[i]? =some e∧o.dst=some e.d∧((pre tr s i).sl.any fun x=>x.2.mentions e.d)=false∧kF Γ E S cU cr ops (pre tr s i) o=some (vc,e.v,e.os)∧ ∀q,q∈vc→q∈vcs
theorem F3{Γ:Nat→TK}{E:Tag→Nat→Prop}{S:FuncId→List S1→List S1→Prop}{cU:List (Nat×Nat)}{cr:List (Nat×CR)}{ops:List Oper}: ∀{l:List Oper} {st qg:St} {acc vcs:List Prop},yQ Γ E S cU cr ops l st acc=some (vcs,qg)→ ∀q,q∈acc→q∈vcs
 | [],st,qg,acc,vcs,h,q,hq=>by
   simp only[yQ,oI,pI]at h
   rw[←h.1];exact hq
 |o::r,st,qg,acc,vcs,h,q,hq=>by
  obtain⟨vc,e,_,_,_,h2⟩:=AM h
  exact F3 h2 q (List.mem_append_right _ hq)
theorem nK(nu:Nat→Bool)(e:TE)(tr:List TE)(s:St)(h:nu 0=true): ∀i,cY nu (e::tr) s (i+1)=cY (fun j=>nu (j+1)) tr (app s e) i
 |0=>by simp[cY,h]
 |i+1=>by
  rw[cY,nK nu e tr s h i,cY]
  simp only[List.getElem?_cons_succ]
theorem F4{Γ:Nat→TK}{E:Tag→Nat→Prop}{S:FuncId→List S1→List S1→Prop}{cU:List (Nat×Nat)}{cr:List (Nat×CR)}{ops:List Oper}: ∀{l:List Oper} {k:Nat} {st qg:St} {acc vcs:List Prop},yQ Γ E S cU cr ops l st acc=some (vcs,qg)→(∀i o,l[i]? =some o→ops[k+i]? =some o)→
  ∃tr:List TE,tr.length=l.length∧qg=pre tr st l.length∧ ∀i,i<l.length→ ∃o e vc,ops[k+i]? =some o∧tr[i]? =some e∧o.dst=some e.d∧((pre tr st i).sl.any fun x=>x.2.mentions e.d)=false∧kF Γ E S cU cr ops (pre tr st i) o=some (vc,e.v,e.os)∧ ∀q,q∈vc→q∈vcs
 | [],k,st,qg,acc,vcs,h,_=>by
   simp only[yQ,oI,pI]at h
   exact⟨[],rfl,h.2.symm,fun i hi=>absurd hi (by simp)⟩
 |o::r,k,st,qg,acc,vcs,h,hk=>by
  obtain⟨vc,e,h1,h2,h3,h4⟩:=AM h
  obtain⟨tr,q1,q2,q3⟩:=F4 (k:=k+1) h4 (fun i o' ho=>by
   have:=hk (i+1) o' (by simpa using ho)
   rw[show k+1+i=k+(i+1)by omega];exact this)
  refine⟨e::tr,by simp[q1],?_,?_⟩
  ·rw[q2,List.length_cons]
   exact(nK (fun _=>true) e tr st rfl _).symm
  ·intro i hi
   cases i with
   |zero=>exact⟨o,e,vc,hk 0 o rfl,rfl,h1,h2,h3,fun q hq=>F3 h4 q (List.mem_append_left _ hq)⟩
   |succ i=>
    obtain⟨o',e',WR,p1,p2,p3,p4,p5,p6⟩:=q3 i (by simpa using hi)
    refine⟨o',e',WR,by rw[show k+(i+1)=k+1+i by omega];exact p1,by simpa using p2,p3,?_,?_,p6⟩
    ·rw[pre,nK (fun _=>true) e tr st rfl i];exact p4
    ·rw[pre,nK (fun _=>true) e tr st rfl i];exact p5
section
variable{nu inE:Nat→Bool}{tr:List TE}{s:St}
theorem kJ{i:Nat}{e:TE}(h:nu i=true)(he:tr[i]? =some e):cY nu tr s (i+1)=app (cY nu tr s i) e:=by rw[cY,h,he]
theorem vm{i:Nat}(h:nu i=false):cY nu tr s (i+1)=cY nu tr s i:=by rw[cY,h]
theorem mQ: ∀i,(cY nu tr s i).n=s.n
 |0=>rfl
 |i+1=>by
  rw[cY]
  split
  ·exact mQ i
  ·exact mQ i
theorem fR: ∀{i j:Nat} {e:TE},j<i→nu j=true→tr[j]? =some e→(∀j' e',j'<i→nu j'=true→tr[j']? =some e'→e'.d=e.d→j'=j)→look (cY nu tr s i).sl e.d=some e.v
 |i+1,j,e,hj,hin,he,hd=>by
  by_cases hij:j=i
  ·subst hij
   rw[kJ hin he];exact look_eq
  ·have ih:=fR (i:=i) (j:=j) (by omega) hin he (fun j' e' h1 h2 h3 h4=>hd j' e' (by omega) h2 h3 h4)
   rw[cY]
   split
   ·rename_i e' h1 h2
    have hne:e.d≠e'.d:=fun hh=>by
     have:=hd i e' (by omega) h1 h2 hh.symm
     omega
    show look ((e'.d,e'.v)::_) e.d=_
    rw[aY hne];exact ih
   ·exact ih
theorem iY: ∀{i:Nat} {t:Nat},(∀j e,j<i→nu j=true→tr[j]? =some e→e.d≠t)→look (cY nu tr s i).sl t=look s.sl t
 |0,_,_=>rfl
 |i+1,t,h=>by
  have ih:=iY (i:=i) (t:=t) fun j e h1 h2 h3=>h j e (by omega) h2 h3
  rw[cY]
  split
  ·rename_i e' h1 h2
   have hne:t≠e'.d:=fun hh=>h i e' (by omega) h1 h2 hh.symm
   show look ((e'.d,e'.v)::_) t=_
   rw[aY hne];exact ih
  ·exact ih
theorem zu: ∀{i:Nat} {x:Nat×SV},x∈(cY nu tr s i).sl→x∈s.sl∨ ∃j e,j<i∧nu j=true∧tr[j]? =some e∧x=(e.d,e.v)
 |0,_,h=>Or.inl h
 |i+1,x,h=>by
  rw[cY]at h
  split at h
  ·rename_i e' h1 h2
   rcases List.mem_cons.1 (show x∈(e'.d,e'.v)::(cY nu tr s i).sl from h)with rfl|h
   ·exact Or.inr ⟨i,e',by omega,h1,h2,rfl⟩
   ·rcases zu h with h| ⟨j,e,a,b⟩
    ·exact Or.inl h
    ·exact Or.inr ⟨j,e,by omega,b⟩
  ·rcases zu h with h| ⟨j,e,a,b⟩
   ·exact Or.inl h
   ·exact Or.inr ⟨j,e,by omega,b⟩
def qI(tr:List TE)(s:St)(m:Nat):Prop:= ∀i e,i<m→tr[i]? =some e→ ∀n o,look e.os n=some o→look (pre tr s i).hp n=none
theorem qJ{m:Nat}(hf:qI tr s m): ∀{j i:Nat},i≤j→j≤m→ ∀{n o},look (pre tr s i).hp n=some o→look (pre tr s j).hp n=some o
 |0,i,hi,_,n,o,h=>by
  have:i=0:=by omega
  subst this;exact h
 |j+1,i,hi,hm,n,o,h=>by
  by_cases hij:i=j+1
  ·subst hij;exact h
  ·have ih:=qJ hf (j:=j) (i:=i) (by omega) (by omega) h
   show look (cY (fun _=>true) tr s (j+1)).hp n=_
   rw[cY]
   split
   ·rename_i e' _ h2
    show look (e'.os++(pre tr s j).hp) n=_
    cases hq:look e'.os n with
    |none=>rw[bl hq];exact ih
    |some o'=>
     have:=hf j e' (by omega) h2 n o' hq
     rw[this]at ih;cases ih
   ·exact ih
theorem lU{m:Nat}(hf:qI tr s m): ∀{i:Nat},i≤m→ ∀{n o},look (cY nu tr s i).hp n=some o→look (pre tr s i).hp n=some o
 |0,_,n,o,h=>h
 |i+1,hm,n,o,h=>by
  rw[cY]at h
  split at h
  ·rename_i e' h1 h2
   have h:look (e'.os++(cY nu tr s i).hp) n=some o:=h
   rw[pre,kJ rfl h2]
   show look (e'.os++(pre tr s i).hp) n=some o
   cases hq:look e'.os n with
   |none=>rw[bl hq]at h ⊢;exact lU hf (by omega) h
   |some o'=>rw[bS hq]at h ⊢;exact h
  ·exact qJ hf (Nat.le_succ i) hm (lU hf (by omega) h)
theorem gl: ∀{i:Nat} {n:Nat} {o:Obj},look (cY nu tr s i).hp n=some o→look s.hp n=some o∨ ∃j e,j<i∧nu j=true∧tr[j]? =some e∧look e.os n=some o
 |0,_,_,h=>Or.inl h
 |i+1,n,o,h=>by
  rw[cY]at h
  split at h
  ·rename_i e' h1 h2
   have h:look (e'.os++(cY nu tr s i).hp) n=some o:=h
   cases hq:look e'.os n with
   |none=>
    rw[bl hq]at h
    rcases gl h with h| ⟨j,e,a,b⟩
    ·exact Or.inl h
    ·exact Or.inr ⟨j,e,by omega,b⟩
   |some o'=>
    rw[bS hq]at h
    exact Or.inr ⟨i,e',by omega,h1,h2,by rw[hq];exact h⟩
  ·rcases gl h with h| ⟨j,e,a,b⟩
   ·exact Or.inl h
   ·exact Or.inr ⟨j,e,by omega,b⟩
theorem mR{m:Nat}(hf:qI tr s m): ∀{i:Nat},i≤m→ ∀{n o},look s.hp n=some o→look (cY nu tr s i).hp n=some o
 |0,_,n,o,h=>h
 |i+1,hm,n,o,h=>by
  have ih:=mR hf (i:=i) (by omega) h
  rw[cY]
  split
  ·rename_i e' h1 h2
   show look (e'.os++(cY nu tr s i).hp) n=some o
   cases hq:look e'.os n with
   |none=>rw[bl hq];exact ih
   |some o'=>
    have h1:=hf i e' (by omega) h2 n o' hq
    have h3:=lU hf (by omega) ih
    rw[h1]at h3;cases h3
  ·exact ih
theorem lK{m:Nat}(hf:qI tr s m): ∀{i:Nat},i≤m→ ∀{j:Nat} {e:TE} {n:Nat} {o:Obj},j<i→nu j=true→tr[j]? =some e→look e.os n=some o→look (cY nu tr s i).hp n=some o
 |i+1,hm,j,e,n,o,hj,hin,he,h=>by
  by_cases hij:j=i
  ·subst hij
   rw[kJ hin he]
   exact bS h
  ·have ih:=lK hf (i:=i) (by omega) (j:=j) (by omega) hin he h
   rw[cY]
   split
   ·rename_i e' h1 h2
    show look (e'.os++(cY nu tr s i).hp) n=some o
    cases hq:look e'.os n with
    |none=>rw[bl hq];exact ih
    |some o'=>
     have h1:=hf i e' (by omega) h2 n o' hq
     have h3:=lU hf (by omega) ih
     rw[h1]at h3;cases h3
   ·exact ih
end
theorem AQ{hp:Hp}: ∀{os:Hp},(∀n o,look os n=some o→look hp n=none∧gT n=false)→fresh hp os=true
 | [],_=>rfl
 | (n,x)::r,h=>by
   simp only[fresh,Bool.and_eq_true]
   obtain⟨h1,h2⟩:=h n x look_eq
   refine⟨⟨by rw[h1],by rw[h2];rfl⟩,AQ fun k o hk=> ?_⟩
   by_cases hkn:k=n
   ·subst hkn;exact h k x look_eq
   ·exact h k o (by rw[aY hkn];exact hk)
theorem Good.congr{zb:cL}{st st':St}{tmps:Array Value}{w:World}{env:Env}(g:Good ty zb st tmps w env)(hs: ∀s v,look st'.sl s=some v→look st.sl s=some v)(hh: ∀n,look st'.hp n=look st.hp n):Good ty zb st' tmps w env:=by
 have s:Step (fun _=>True) (fun _=>True) w st.hp env w st'.hp env:=by
  refine⟨fun _ _ _=>rfl,?_,?_,?_⟩
  ·rintro b _ ⟨n,o,h1,h2⟩;exact⟨n,o,by rw[←hh];exact h1,h2⟩
  ·intro n o _ h1
   exact⟨o,by rw[hh];exact h1,by cases o<;>simp[Obj.like],rfl⟩
  ·intro n t l _ h1
   exact⟨by rw[hh];exact h1,rfl,fun _ _=>rfl⟩
 refine⟨fun n o hl=> ?_,fun n m o o' hne h1 h2=>g.iN n m o o' hne (by rw[←hh];exact h1) (by rw[←hh];exact h2),fun t v hl=>nE.step s (fun v _=>v.dm) (g.slot t v (hs t v hl)),fun n o hl=>g.dom n o (by rw[←hh];exact hl),g.pins⟩
 exact(g.obj n o (by rw[←hh];exact hl)).step s o.dm (fun _ _=>rfl)
end
section
variable{ty:Tag→Nat}
theorem vn{α:Type}: ∀{l:List α} {k i:Nat} {x:α},l[i]? =some x→(k+i,x)∈idx k l
 |y::r,k,0,x,h=>by simp at h;simp[idx,h]
 |y::r,k,i+1,x,h=>by
  have:=vn (l:=r) (k:=k+1) (i:=i) (by simpa using h)
  rw[idx];right
  rw[show k+(i+1)=k+1+i by omega];exact this
structure Z4(ops:List Oper)(m:Nat):Prop where
 le:m≤ops.length
 back: ∀i o,ops[i]? =some o→ ∀j,j∈cm o→j<i
 uses: ∀i o,i<m→ops[i]? =some o→ ∀t,t∈tmpsOf o→ ∀k o',k<m→ops[k]? =some o'→o'.dst=some t→k=i∨k∈cm o∨(i<k∧((C0 ops).getD k 0).testBit i=true)
 guard: ∀i o j x,i<m→ops[i]? =some o→o.guard=some (j,x)→j<i∧j<m∧j∈cm o
 dist: ∀i o k o' d,i<m→k<m→ops[i]? =some o→ops[k]? =some o'→o.dst=some d→o'.dst=some d→k=i
 tail: ∀i o,m≤i→ops[i]? =some o→ ∀j,j<i→((C0 ops).getD i 0).testBit j=true
theorem WS{ops:List Oper}{m:Nat}(h:chk ops m=true):Z4 ops m:=by
 simp only[chk,Bool.and_eq_true,List.all_eq_true,Bool.or_eq_true]at h
 obtain⟨⟨⟨h1,h2⟩,h3⟩,h4⟩:=h
 have hA: ∀{i o},i<m→ops[i]? =some o→(i,o)∈idx 0 (ops.take m):=by
  intro i o hi ho
  have:=vn (l:=ops.take m) (k:=0) (i:=i) (x:=o) (by rw[List.getElem?_take,if_pos hi];exact ho)
  simpa using this
 have hall: ∀{i o},ops[i]? =some o→(i,o)∈idx 0 ops:=by
  intro i o ho
  simpa using vn (l:=ops) (k:=0) ho
 refine⟨Nat.le_of_ble_eq_true h1,fun i o ho j hj=> ?_,fun i o hi ho t ht k o' hk ho' hd=> ?_,fun i o j x hi ho hg=> ?_,fun i o k o' d hi hk ho ho' hd hd'=> ?_,fun i o hi ho j hj=> ?_⟩
 ·have:=h2 _ (hall ho) j hj
  exact Nat.le_of_ble_eq_true this
 ·have hu:=(h3 _ (hA hi ho)).1.1
  simp only[Oy,List.all_eq_true,Bool.or_eq_true,Bool.not_eq_true',List.any_eq_true,Bool.and_eq_true]at hu
  have hdi:vk o' t=true:=by simp[vk,hd]
  rcases hu t ht _ (hA hk ho')with((q|q)|q)|q
  ·rw[hdi]at q;cases q
  ·exact Or.inl (Nat.eq_of_beq_eq_true q)
  ·obtain⟨y,hy,q⟩:=q
   have hky:k=y:=Nat.eq_of_beq_eq_true q
   exact Or.inr (Or.inl (by rw[hky];exact hy))
  ·exact Or.inr (Or.inr ⟨Nat.le_of_ble_eq_true q.1,q.2⟩)
 ·have hgd:=(h3 _ (hA hi ho)).1.2
  simp only[JT,hg,Bool.and_eq_true,List.any_eq_true]at hgd
  obtain⟨⟨q1,q2⟩,y,hy,q3⟩:=hgd
  have:=Nat.eq_of_beq_eq_true q3
  exact⟨Nat.le_of_ble_eq_true q1,Nat.le_of_ble_eq_true q2,by rw[this];exact hy⟩
 ·have hds:=(h3 _ (hA hi ho)).2
  simp only[Oz,hd,List.all_eq_true,Bool.or_eq_true,Bool.not_eq_true']at hds
  rcases hds _ (hA hk ho')with q|q
  ·exact Nat.eq_of_beq_eq_true q
  ·simp[vk,hd']at q
 ·rcases h4 _ (hall ho)with q|q
  ·have:=Nat.le_of_ble_eq_true q
   simp only at this
   omega
  ·exact q j (List.mem_range.2 hj)
theorem JU: ∀(l:List Oper) (acc:List Nat),(∀j,j<acc.length→(l.foldl iE acc).getD j 0=acc.getD j 0)∧
  ∀i o,l[i]? =some o→(∀j,j∈cm o→j<acc.length+i)→(l.foldl iE acc).getD (acc.length+i) 0=(cm o).foldl (fun s j=>s|||2^j||| (l.foldl iE acc).getD j 0) 0
 | [],acc=>⟨fun _ _=>rfl,fun i o h=>by simp at h⟩
 |o::r,acc=>by
  obtain⟨h1,h2⟩:=JU r (iE acc o)
  have hl:(iE acc o).length=acc.length+1:=by simp[iE]
  have ha: ∀j,j<acc.length→((o::r).foldl iE acc).getD j 0=acc.getD j 0:=by
   intro j hj
   rw[List.foldl_cons,h1 j (by omega)]
   simp only[iE,List.getD_eq_getElem?_getD]
   rw[List.getElem?_append_left hj]
  refine⟨ha,fun i o' ho hj=> ?_⟩
  cases i with
  |zero=>
   simp at ho
   subst ho
   rw[Nat.add_zero,List.foldl_cons,h1 _ (by omega)]
   have:(iE acc o).getD acc.length 0=(cm o).foldl (fun s j=>s|||2^j|||acc.getD j 0) 0:=by
    simp[iE,List.getD_eq_getElem?_getD]
   rw[this]
   have Z5: ∀(es:List Nat) (s0:Nat),(∀j,j∈es→j<acc.length)→es.foldl (fun s j=>s|||2^j|||acc.getD j 0) s0=es.foldl (fun s j=>s|||2^j||| (r.foldl iE (iE acc o)).getD j 0) s0:=by
    intro es
    induction es with
    |nil=>intros;rfl
    |cons j es ih=>
     intro s0 hh
     rw[List.foldl_cons,List.foldl_cons,ih _ fun k hk=>hh k (by simp[hk])]
     have:=ha j (hh j (by simp))
     rw[List.foldl_cons]at this
     rw[this]
   exact Z5 _ _ fun j hjj=>by simpa using hj j hjj
  |succ i=>
   have:=h2 i o' (by simpa using ho) (fun j hjj=>by rw[hl];have:=hj j hjj;omega)
   rw[hl,show acc.length+1+i=acc.length+(i+1)by omega]at this
   rw[List.foldl_cons];exact this
theorem AR(g:Nat→Nat)(k:Nat): ∀(es:List Nat) (s0:Nat),(es.foldl (fun s j=>s|||2^j|||g j) s0).testBit k=true→s0.testBit k=true∨ ∃j,j∈es∧(k=j∨(g j).testBit k=true)
 | [],s0,h=>Or.inl h
 |j::es,s0,h=>by
  rcases AR g k es _ h with h| ⟨i,hi,h⟩
  ·rw[Nat.testBit_or,Nat.testBit_or,Nat.testBit_two_pow]at h
   simp only[Bool.or_eq_true,decide_eq_true_eq]at h
   rcases h with(h|h)|h
   ·exact Or.inl h
   ·exact Or.inr ⟨j,by simp,Or.inl h.symm⟩
   ·exact Or.inr ⟨j,by simp,Or.inr h⟩
  ·exact Or.inr ⟨i,by simp[hi],h⟩
theorem qL{ops:List Oper}(hb: ∀i o,ops[i]? =some o→ ∀j,j∈cm o→j<i){D:Nat→Prop}(hD: ∀i o,D i→ops[i]? =some o→ ∀j,j∈cm o→D j): ∀(i:Nat) (o:Oper),ops[i]? =some o→(∀j,j∈cm o→D j)→ ∀k,((C0 ops).getD i 0).testBit k=true→D k:=by
 intro i
 induction i using Nat.strongRecOn with
 |_ i ih=>
  intro o ho he k hk
  have:=(JU ops []).2 i o ho (fun j hj=>by simpa using hb i o ho j hj)
  simp only[List.length_nil,Nat.zero_add]at this
  have hc:(C0 ops).getD i 0=(cm o).foldl (fun s j=>s|||2^j||| (C0 ops).getD j 0) 0:=this
  rw[hc]at hk
  rcases AR _ k _ _ hk with h| ⟨j,hj,h⟩
  ·simp at h
  ·rcases h with rfl|h
   ·exact he k hj
   ·have hji:=hb i o ho j hj
    have hlen:j<ops.length:=by have:=(List.getElem?_eq_some_iff.1 ho).1;omega
    exact ih j hji ops[j] (List.getElem?_eq_getElem hlen) (hD j _ (he j hj) (List.getElem?_eq_getElem hlen)) k h
section
variable{P:Program}{Γ:Nat→TK}{cU:List (Nat×Nat)}{cr:List (Nat×CR)}{ops:List Oper}{m:Nat}{s:St}{tr:List TE}{vcs:List Prop}
theorem gW{E:Tag→Nat→Prop}{S:FuncId→List S1→List S1→Prop}{st:St}{o:Oper}{vc:List Prop}{v:SV}{os:Hp}(h:kF Γ E S cU cr ops st o=some (vc,v,os)):
  ∃p,e9 st ops o=some p∧(p= []→ ∀q x,v≠ .cond q x)∧(p≠ []→(∃x,v= .cond p x)∧os= []∧ ∀d,o.dst=some d→ ∀e,e∈p→e.1≠d)∧(∀n x,look os n=some x→look st.hp n=none∧gT n=false):=by
 unfold kF at h
 split at h
 ·rename_i nm _ _ hg
  split at h
  ·rename_i oL v1 os1 hq
   split at h
   ·rename_i hf _
    simp only[oI,pI]at h
    obtain⟨_,rfl,rfl⟩:=h
    refine⟨[],hg,fun _ q x=> ?_,fun hh=>absurd rfl hh,fun n x hl=>⟨lP hf n x hl,wH hf n x hl⟩⟩
    rintro rfl
    unfold quiet No at hq
    repeat' split at hq
    all_goals first
     | (cases hq;done)
     | (simp only[dP,oI,Out.mk.injEq]at hq;cases hq.2.1;done)
     | (simp only[oI,Out.mk.injEq]at hq;cases hq.2.1;done)
     | (simp only[oI]at hq;unfold outs at hq;(repeat' split at hq)<;>(simp only[Out.mk.injEq]at hq;cases hq.2.1))
   ·cases h
  ·cases h
 ·rename_i nm e p _ _ hg
  split at h
  ·rename_i Z6
   split at h
   ·rename_i oL v1 hq
    simp only[oI,pI]at h
    obtain⟨_,rfl,rfl⟩:=h
    refine⟨e::p,hg,(fun hh=>by cases hh),fun _=>⟨⟨_,rfl⟩,rfl,fun d hd x hx hxd=> ?_⟩,fun n x hl=>by simp[look]at hl⟩
    rw[List.any_eq_false]at Z6
    exact Z6 x hx (by rw[hd,hxd];simp)
   ·cases h
  ·cases h
 ·cases h
theorem Trace.fresh{E:Tag→Nat→Prop}{S:FuncId→List S1→List S1→Prop}(T:Trace Γ E S cU cr ops m s tr vcs):qI tr s m:=by
 intro i e hi he n x hl
 obtain⟨o,e',vc,_,he',_,_,hq,_⟩:=T.one i hi
 rw[he]at he'
 simp only[oI]at he'
 subst he'
 obtain⟨p,_,_,_,hf⟩:=gW hq
 exact(hf n x hl).1
theorem Trace.path{E:Tag→Nat→Prop}{S:FuncId→List S1→List S1→Prop}(T:Trace Γ E S cU cr ops m s tr vcs)(K:Z4 ops m): ∀(i:Nat),i<m→ ∀o p,ops[i]? =some o→e9 (pre tr s i) ops o=some p→ ∀e,e∈p→
  ∃k o',k<i∧ops[k]? =some o'∧o'.dst=some e.1∧ ∀D:Nat→Prop,(∀i o,D i→ops[i]? =some o→ ∀j,j∈cm o→D j)→(∀j,j∈cm o→D j)→D k:=by
 intro i
 induction i using Nat.strongRecOn with
 |_ i ih=>
  intro hi o p ho hg e he
  unfold e9 at hg
  split at hg
  ·simp at hg;subst hg;simp at he
  ·rename_i j x hgd
   obtain⟨hji,hjm,Y4⟩:=K.guard i o j x hi ho hgd
   obtain⟨q,ej,vcj,hq,hej,Vt,_,OA,_⟩:=T.one j hjm
   rw[hq]at hg
   dsimp only at hg
   rw[Vt]at hg
   dsimp only at hg
   have FY:look (pre tr s i).sl ej.d=some ej.v:=by
    refine fR hji rfl hej fun j' e' h1 _ h3 h4=> ?_
    obtain⟨q',e2,_,S3,va,hd2,_⟩:=T.one j' (by omega)
    rw[h3]at va
    simp only[oI]at va
    subst va
    exact K.dist j q j' q' ej.d hjm (by omega) hq S3 Vt (by rw[hd2,h4])
   rw[FY]at hg
   obtain⟨pj,WT,gH,eM,_⟩:=gW OA
   have base: ∃k o',k<i∧ops[k]? =some o'∧o'.dst=some ej.d∧ ∀D:Nat→Prop,(∀i o,D i→ops[i]? =some o→ ∀j,j∈cm o→D j)→(∀j,j∈cm o→D j)→D k:=
    ⟨j,q,hji,hq,Vt,fun D _ hE=>hE j Y4⟩
   split at hg
   ·simp only[oI]at hg
    subst hg
    simp only[List.mem_singleton]at he
    subst he
    exact base
   ·rename_i p' b hv
    simp only[oI]at hv
    simp only[oI]at hg
    subst hg
    rcases List.mem_cons.1 he with rfl|he
    ·exact base
    ·have Z2:pj=p':=by
      by_cases hnil:pj= []
      ·exact absurd hv (gH hnil _ _)
      ·obtain⟨x',hx'⟩:=(eM hnil).1
       rw[hx']at hv
       simp only[SV.cond.injEq]at hv
       exact hv.1
     subst Z2
     obtain⟨k,o',h1,h2,h3,h4⟩:=ih j hji hjm q pj hq WT e he
     exact⟨k,o',by omega,h2,h3,fun D hD hE=>h4 D hD (hD j q (hE j Y4) hq)⟩
   ·cases hg
theorem LD(C: ∀t,cV P t (Γ t))(T:Trace Γ (Fw P ty) (Sound ty P) cU cr ops m s tr vcs)(K:Z4 ops m)(hv: ∀q,q∈vcs→q)(hnc:Eh s.sl=true){zb:cL}{Q:Exit→Act→World→Prop}{D:Nat→Bool}(Vu: ∀i,D i=true→i<m)(zv: ∀i o,D i=true→ops[i]? =some o→ ∀j,j∈cm o→D j=true)
  {i:Nat}(hi:i<m)(B3:D i=false){o:Oper}(ho:ops[i]? =some o)(hE: ∀j,j∈cm o→D j=true){a:Act}{w:World}(iv:Inv ty zb (cY D tr s m) a w):
  iC P ops.toArray o a w (fun a' w'=>Inv ty zb (cY (fun j=>D j||j==i) tr s m) a' w') Q:=by
 obtain⟨o',e,vc,ho',he,hd,hnm,hq,Sy⟩:=T.one i hi
 rw[ho]at ho'
 simp only[oI]at ho'
 subst ho'
 have hfr:=T.fresh
 have hdist: ∀{j e'},j<m→tr[j]? =some e'→ ∃q,ops[j]? =some q∧q.dst=some e'.d:=by
  intro j e' hj he'
  obtain⟨q,e2,_,S3,va,hd2,_⟩:=T.one j hj
  rw[he']at va
  simp only[oI]at va
  subst va
  exact⟨q,S3,hd2⟩
 have qM: ∀{j j':Nat} {e1 e2:TE},j<m→j'<m→tr[j]? =some e1→tr[j']? =some e2→e2.d=e1.d→j'=j:=by
  intro j j' e1 e2 h1 h2 h3 h4 h5
  obtain⟨q1,p1,p2⟩:=hdist h1 h3
  obtain⟨q2,p3,p4⟩:=hdist h2 h4
  exact K.dist j q1 j' q2 e1.d h1 h2 p1 p3 p2 (by rw[p4,h5])
 have agree: ∀t,(∀k o',k<m→ops[k]? =some o'→o'.dst=some t→k=i∨(k<i∧D k=true)∨(i<k∧D k=false))→look (pre tr s i).sl t=look (cY D tr s m).sl t:=by
  intro t ht
  by_cases hex: ∃k e',k<i∧D k=true∧tr[k]? =some e'∧e'.d=t
  ·obtain⟨k,e',hk,kU,he',rfl⟩:=hex
   rw[fR hk rfl he' fun j' e2 h1 _ h3 h4=>qM (by omega) (by omega) he' h3 h4,fR (by omega) kU he' fun j' e2 h1 _ h3 h4=>qM (by omega) h1 he' h3 h4]
  ·rw[iY (fun k e' hk _ he' hdt=>by
      obtain⟨q,h1,h2⟩:=hdist (by omega) he'
      rcases ht k q (by omega) h1 (by rw[h2,hdt])with h|h|h
      ·omega
      ·exact hex ⟨k,e',hk,h.2,he',hdt⟩
      ·omega),
    iY (fun k e' hk kU he' hdt=>by
     obtain⟨q,h1,h2⟩:=hdist hk he'
     rcases ht k q hk h1 (by rw[h2,hdt])with h|h|h
     ·subst h;rw[B3]at kU;cases kU
     ·exact hex ⟨k,e',h.1,h.2,he',hdt⟩
     ·rw[h.2]at kU;cases kU)]
 obtain⟨p,fu,gH,eM,Cb⟩:=gW hq
 have Z7: ∀x,x∈p→ ∃k o',k<i∧ops[k]? =some o'∧o'.dst=some x.1∧D k=true:=by
  intro x hx
  obtain⟨k,o',h1,h2,h3,h4⟩:=T.path K i hi o p ho fu x hx
  exact⟨k,o',h1,h2,h3,h4 (fun j=>D j=true) zv hE⟩
 have vo: ∀x,x∈p→look (pre tr s i).sl x.1=look (cY D tr s m).sl x.1:=by
  intro x hx
  obtain⟨k,o',h1,h2,h3,h4⟩:=Z7 x hx
  refine agree x.1 fun k' o2 hk' Hw hd2=> ?_
  have:k'=k:=K.dist k o' k' o2 x.1 (by omega) hk' h2 Hw h3 hd2
  subst this
  exact Or.inr (Or.inl ⟨h1,h4⟩)
 have iO:e9 (cY D tr s m) ops o=some p:=by
  rw[←fu]
  unfold e9
  split
  ·rfl
  ·rename_i j x hgd
   split
   ·rename_i q AS
    split
    ·rename_i d Hu
     have hmem: ∃y,(d,y)∈p:=by
      unfold e9 at fu
      rw[hgd]at fu
      dsimp only at fu
      rw[AS]at fu
      dsimp only at fu
      rw[Hu]at fu
      dsimp only at fu
      split at fu
      ·simp only[oI]at fu;exact⟨x,by rw[←fu];simp⟩
      ·simp only[oI]at fu;exact⟨x,by rw[←fu];simp⟩
      ·cases fu
     obtain⟨y,hy⟩:=hmem
     rw[←vo (d,y) hy]
    ·rfl
   ·rfl
 have hfresh:fresh (cY D tr s m).hp e.os=true:=by
  refine AQ fun n x hl=> ?_
  cases CQ:look (cY D tr s m).hp n with
  |none=>exact⟨rfl,(Cb n x hl).2⟩
  |some y=>
   exfalso
   have hpi:=hfr i e hi he n x hl
   rcases gl CQ with h| ⟨j,e',hj,wY,he',h⟩
   ·have:=mR (nu:=fun _=>true) hfr (i:=i) (by omega) h
    rw[show cY (fun _=>true) tr s i=pre tr s i from rfl,hpi]at this
    cases this
   ·have hji:j≠i:=by rintro rfl;rw[B3]at wY;cases wY
    by_cases hlt:j<i
    ·have:=lK (nu:=fun _=>true) hfr (i:=i) (by omega) hlt rfl he' h
     rw[show cY (fun _=>true) tr s i=pre tr s i from rfl,hpi]at this
     cases this
    ·have h2:=hfr j e' hj he' n y h
     have:=lK (nu:=fun _=>true) hfr (i:=j) (by omega) (j:=i) (by omega) rfl he hl
     rw[show cY (fun _=>true) tr s j=pre tr s j from rfl,h2]at this
     cases this
 have OB:((cY D tr s m).sl.any fun x=>x.2.mentions e.d)=false:=by
  rw[List.any_eq_false]
  intro x hx hm
  rcases zu hx with h| ⟨j,e',hj,wY,he',rfl⟩
  ·simp only[Eh,List.all_eq_true]at hnc
   have:=hnc x h
   cases hx2:x.2 with
   |cond q y=>simp[hx2]at this
   |one y=>simp[hx2,SV.mentions]at hm
   |td y=>simp[hx2,SV.mentions]at hm
  ·obtain⟨q,e2,Vc,AS,va,hd2,_,OA,_⟩:=T.one j hj
   rw[he']at va
   simp only[oI]at va
   subst va
   obtain⟨pj,WT,hj0,NR,_⟩:=gW OA
   by_cases hnil:pj= []
   ·cases hx2:e'.v with
    |cond q y=>exact hj0 hnil _ _ hx2
    |one y=>simp[hx2,SV.mentions]at hm
    |td y=>simp[hx2,SV.mentions]at hm
   ·obtain⟨y,hy⟩:=(NR hnil).1
    simp only[hy,SV.mentions,List.any_eq_true]at hm
    obtain⟨z,hz,hzd⟩:=hm
    have hzd:=Nat.eq_of_beq_eq_true hzd
    obtain⟨k,o2,k1,k2,k3,k4⟩:=T.path K j hj q pj AS WT z hz
    have kU:=k4 (fun j=>D j=true) zv (zv j q wY AS)
    have:k=i:=K.dist i o k o2 e.d hi (by omega) ho k2 hd (by rw[k3,hzd])
    subst this
    rw[B3]at kU;cases kU
 have hdm:e.v.mentions e.d=false:=by
  by_cases hnil:p= []
  ·cases hx2:e.v with
   |cond q y=>exact absurd hx2 (gH hnil _ _)
   |one y=>rfl
   |td y=>rfl
  ·obtain⟨⟨y,hy⟩,_,hne⟩:=eM hnil
   rw[hy]
   simp only[SV.mentions]
   rw[List.any_eq_false]
   intro z hz hb
   exact hne e.d hd z hz (Nat.eq_of_beq_eq_true hb)
 have behind: ∀a' w',Inv ty zb (app (cY D tr s m) e) a' w'→Inv ty zb (cY (fun j=>D j||j==i) tr s m) a' w':=by
  intro a' w' kX
  obtain⟨env,g⟩:=kX.good
  refine⟨by rw[kX.size,mQ];show(cY D tr s m).n=s.n;exact mQ m,kX.defers,kX.kept,kX.yK,env,g.congr ?_ ?_⟩
  ·intro t v hl
   show look ((e.d,e.v)::(cY D tr s m).sl) t=some v
   by_cases ht:t=e.d
   ·subst ht
    rw[fR hi (by simp) he fun j' e2 h1 _ h3 h4=>qM hi h1 he h3 h4]at hl
    rw[look_eq];exact hl
   ·rw[aY ht]
    by_cases hex: ∃k e',k<m∧D k=true∧tr[k]? =some e'∧e'.d=t
    ·obtain⟨k,e',hk,kU,he',rfl⟩:=hex
     rw[fR hk (by simp[kU]) he' fun j' e2 h1 _ h3 h4=>qM hk h1 he' h3 h4]at hl
     rw[fR hk kU he' fun j' e2 h1 _ h3 h4=>qM hk h1 he' h3 h4]
     exact hl
    ·rw[iY fun k e' hk kU he' hdt=>by
      simp only[Bool.or_eq_true,beq_iff_eq]at kU
      rcases kU with h|rfl
      ·exact hex ⟨k,e',hk,h,he',hdt⟩
      ·rw[he]at he'
       simp only[oI]at he'
       exact ht (by rw[he',hdt])]at hl
     rw[iY fun k e' hk kU he' hdt=>hex ⟨k,e',hk,kU,he',hdt⟩]
     exact hl
  ·intro n
   show look (cY (fun j=>D j||j==i) tr s m).hp n=look (e.os++(cY D tr s m).hp) n
   cases hl:look e.os n with
   |some x=>
    rw[bS hl]
    exact lK hfr (Nat.le_refl _) hi (by simp) he hl
   |none=>
    rw[bl hl]
    cases hx:look (cY (fun j=>D j||j==i) tr s m).hp n with
    |some y=>
     rcases gl hx with h| ⟨j,e',hj,wY,he',h⟩
     ·exact(mR hfr (Nat.le_refl _) h).symm
     ·have hji:j≠i:=by
       rintro rfl
       rw[he]at he'
       simp only[oI]at he'
       subst he'
       rw[hl]at h;cases h
      have wY:D j=true:=by
       simp only[Bool.or_eq_true,beq_iff_eq]at wY
       exact wY.resolve_right hji
      exact(lK hfr (Nat.le_refl _) hj wY he' h).symm
    |none=>
     cases hy:look (cY D tr s m).hp n with
     |none=>rfl
     |some y=>
      rcases gl hy with h| ⟨j,e',hj,wY,he',h⟩
      ·rw[mR hfr (Nat.le_refl _) h]at hx;cases hx
      ·rw[lK hfr (Nat.le_refl _) hj (by simp[wY]) he' h]at hx;cases hx
 have hput:St.put ⟨(cY D tr s m).n,(cY D tr s m).sl,e.os++(cY D tr s m).hp⟩ o.dst e.v=app (cY D tr s m) e:=by
  rw[hd]
  simp only[St.put,OB]
  rfl
 by_cases hw:Region.wanted o (yielded ops.toArray a.tmps)=true
 ·have hh:holds a.tmps p:=by
   obtain⟨env,g⟩:=iv.good
   unfold e9 at iO
   split at iO
   ·simp at iO;subst iO;intro y hy;simp at hy
   ·rename_i j x hgd
    split at iO
    ·rename_i q AS
     split at iO
     ·rename_i d Hu
      have WU:=(j0 (ops:=ops.toArray) hgd (by simpa using AS) Hu a.tmps).1 hw
      split at iO
      ·simp only[oI]at iO
       subst iO
       intro y hy
       simp at hy
       subst hy
       exact WU
      ·rename_i p' b hl
       simp only[oI]at iO
       subst iO
       intro y hy
       rcases List.mem_cons.1 hy with rfl|hy
       ·exact WU
       ·exact(rO g hl WU).1 y hy
      ·cases iO
     ·cases iO
    ·cases iO
  obtain⟨env,g⟩:=iv.good
  have Ej:Compat (pre tr s i).hp (cY D tr s m).hp:=by
   intro n x y h1 h2
   have h3:=qJ hfr (Nat.le_of_lt hi) (Nat.le_refl m) h1
   have h4:=lU hfr (Nat.le_refl m) h2
   rw[h3]at h4
   simpa using h4
  have hmono:=AP Ej g (by rw[mQ,mQ]) fu iO hh (fun x hx t hxt=>agree t fun k o2 hk Hw hd2=>by
    have ht:t∈tmpsOf o:=by
     simp only[tmpsOf,List.mem_filterMap]
     exact⟨x,hx,by rw[hxt]⟩
    rcases K.uses i o hi ho t ht k o2 hk Hw hd2 with h|h|h
    ·exact Or.inl h
    ·exact Or.inr (Or.inl ⟨K.back i o ho k h,hE k h⟩)
    ·refine Or.inr (Or.inr ⟨h.1,?_⟩)
     cases kU:D k with
     |false=>rfl
     |true=>
      have:=qL (D:=fun j=>D j=true) K.back zv k o2 Hw (zv k o2 kU Hw) i h.2
      rw[B3]at this;cases this) vo hfresh hq
  have:=An (Q:=Q) C hmono iv (fun q hq=>hv q (Sy q hq))
  rw[hput]at this
  exact this.mono behind
 ·unfold iC
  rw[if_neg hw]
  have hnil:p≠ []:=by
   rintro rfl
   unfold e9 at fu
   split at fu
   ·rename_i hgd;exact hw (by simp[Region.wanted,hgd])
   ·repeat' split at fu
    all_goals simp at fu
  obtain⟨⟨y,hy⟩,hos,_⟩:=eM hnil
  have hnh: ¬holds a.tmps p:=by
   intro hh
   unfold e9 at fu
   split at fu
   ·rename_i hgd;exact hw (by simp[Region.wanted,hgd])
   ·rename_i j x hgd
    split at fu
    ·rename_i q AS
     split at fu
     ·rename_i d Hu
      have hdx:(d,x)∈p:=by
       split at fu
       ·simp only[oI]at fu;rw[←fu];simp
       ·simp only[oI]at fu;rw[←fu];simp
       ·cases fu
      exact hw ((j0 (ops:=ops.toArray) hgd (by simpa using AS) Hu a.tmps).2 (hh _ hdx))
     ·cases fu
    ·cases fu
  apply behind
  obtain⟨env,g⟩:=iv.good
  have hlt:e.d<a.tmps.size:=by
   unfold kF at hq
   have:qz (pre tr s i) o.dst=true:=by
    cases WV:qz (pre tr s i) o.dst with
    |true=>rfl
    |false=>rw[WV]at hq;simp at hq
   rw[hd]at this
   rw[iv.size,mQ]
   have:=Nat.le_of_ble_eq_true this
   rw[show(pre tr s i).n=s.n from mQ i]at this
   exact this
  have OC:=g.put (d:=e.d) hlt (v:=e.v) (u:=undef) (by rw[hy];exact⟨fun hh=>absurd hh hnh,fun _=>rfl⟩) hdm
  refine⟨by rw[kI];exact iv.size,by rw[put_defers];exact iv.defers,iv.kept,iv.yK,env,?_⟩
  rw[hd]
  have WW:(cY D tr s m).put (some e.d) e.v=app (cY D tr s m) e:=by
   simp only[St.put,OB,app,hos]
   rfl
  rw[WW]at OC
  exact OC
end
end
section
variable{ty:Tag→Nat}
theorem jz{ops:List Oper}{listed:Array Bool}(hl:listed.size=ops.length){i:Nat}:i∈Region.ready .any ops.toArray listed↔ ∃o,ops[i]? =some o∧listed.getD i false=false∧ ∀j,j∈cm o→listed.getD j false=true:=by
 unfold Region.ready
 rw[List.mem_filter,List.mem_range]
 simp only[List.size_toArray,List.getElem?_toArray,Bool.and_eq_true,Bool.not_eq_true']
 constructor
 ·rintro⟨hi,h1,h2⟩
  refine⟨ops[i],List.getElem?_eq_getElem hi,?_,?_⟩
  ·have:listed[i]? =some listed[i]:=by simp[hl,hi]
   rw[Array.getD_eq_getD_getElem?,this]at h1 ⊢
   exact h1
  ·intro j hj
   simp only[cm,List.mem_filterMap,Array.mem_toList_iff]at hj
   obtain⟨e,he,hj⟩:=hj
   split at hj
   ·rename_i hb
    simp only[oI]at hj
    subst hj
    rw[List.getElem?_eq_getElem hi]at h2
    simp only[Option.map_some,Option.getD_some]at h2
    have:=Array.all_eq_true_iff_forall_mem.1 h2 e he
    simpa[hb]using this
   ·cases hj
 ·rintro⟨o,ho,h1,h2⟩
  have hi:=(List.getElem?_eq_some_iff.1 ho).1
  refine⟨hi,?_,?_⟩
  ·have:listed[i]? =some listed[i]:=by simp[hl,hi]
   rw[Array.getD_eq_getD_getElem?,this]at h1 ⊢
   exact h1
  ·rw[ho]
   simp only[Option.map_some,Option.getD_some]
   rw[Array.all_eq_true_iff_forall_mem]
   intro e he
   cases hb:Region.binds .any e with
   |false=>simp
   |true=>
    have:=h2 e.on (by
     simp only[cm,List.mem_filterMap,Array.mem_toList_iff]
     exact⟨e,he,by simp[hb]⟩)
    simp[this]
theorem vp{listed:Array Bool}{i j:Nat}(hi:i<listed.size):(listed.setIfInBounds i true).getD j false=(listed.getD j false||j==i):=by
 rw[Array.getD_eq_getD_getElem?,Array.getD_eq_getD_getElem?]
 by_cases hij:i=j
 ·subst hij
  rw[Array.getElem?_setIfInBounds_self_of_lt hi];simp
 ·rw[Array.getElem?_setIfInBounds_ne hij]
  simp[show¬j=i from fun h=>hij h.symm]
def cnt(n:Nat)(D:Nat→Bool):Nat:=((List.range n).filter fun i=> !D i).length
theorem filter_lt{p q:Nat→Bool}: ∀{l:List Nat},(∀x,x∈l→q x=true→p x=true)→(∃x,x∈l∧p x=true∧q x=false)→(l.filter q).length<(l.filter p).length
 |y::r,h,⟨x,hx,hp,hq⟩=>by
  have le: ∀{l:List Nat},(∀x,x∈l→q x=true→p x=true)→(l.filter q).length≤(l.filter p).length:=by
   intro l
   induction l with
   |nil=>intro _;simp
   |cons z l ih=>
    intro hh
    have:=ih fun x hx=>hh x (by simp[hx])
    cases hz:q z with
    |true=>rw[List.filter_cons_of_pos hz,List.filter_cons_of_pos (hh z (by simp) hz)];simp;exact this
    |false=>
     rw[List.filter_cons_of_neg (by simp[hz])]
     cases RW:p z with
     |true=>rw[List.filter_cons_of_pos RW];simp;omega
     |false=>rw[List.filter_cons_of_neg (by simp[RW])];exact this
  rcases List.mem_cons.1 hx with rfl|hx
  ·rw[List.filter_cons_of_neg (by simp[hq]),List.filter_cons_of_pos hp]
   have:=le (l:=r) fun x hx=>h x (by simp[hx])
   simp;omega
  ·have ih:=filter_lt (l:=r) (fun x hx=>h x (by simp[hx])) ⟨x,hx,hp,hq⟩
   cases hy:q y with
   |true=>rw[List.filter_cons_of_pos hy,List.filter_cons_of_pos (h y (by simp) hy)];simp;exact ih
   |false=>
    rw[List.filter_cons_of_neg (by simp[hy])]
    cases Y5:p y with
    |true=>rw[List.filter_cons_of_pos Y5];simp;omega
    |false=>rw[List.filter_cons_of_neg (by simp[Y5])];exact ih
theorem JV{n i:Nat}{D:Nat→Bool}(hi:i<n)(hD:D i=false):cnt n (fun j=>D j||j==i)<cnt n D:=by
 refine filter_lt ?_ ⟨i,List.mem_range.2 hi,by simp[hD],by simp⟩
 intro x _ h
 simp only[Bool.not_eq_true',Bool.or_eq_false_iff]at h
 simp[h.1]
theorem F5{n:Nat}{D:Nat→Bool}(h:cnt n D=0): ∀i,i<n→D i=true:=by
 intro i hi
 have:=List.eq_nil_of_length_eq_zero h
 cases hd:D i with
 |true=>rfl
 |false=>
  have:i∈(List.range n).filter fun i=> !D i:=List.mem_filter.2 ⟨List.mem_range.2 hi,by simp[hd]⟩
  simp_all
section
variable{P:Program}{Γ:Nat→TK}{cU:List (Nat×Nat)}{cr:List (Nat×CR)}{ops:List Oper}{m:Nat}{s:St}{tr:List TE}{zb:cL}{Q:Exit→Act→World→Prop}
theorem OD(X:Ctx P ty Γ)(K:Z4 ops m){vcs:List Prop}{qg:St}(hv: ∀q,q∈vcs→q)(hQ: ∀a w,Inv ty zb qg a w→Q .normal a w): ∀(fuel k:Nat) (st:St) (acc:List Prop) (listed:Array Bool) (a:Act) (w:World),m≤k→k≤ops.length→ops.length-k≤fuel→listed.size=ops.length→
  (∀i,listed.getD i false=true↔i<k)→run P ty Γ cU cr ops (ops.drop k) st acc=some (vcs,qg)→Inv ty zb st a w→wpAny P .any ops.toArray Q fuel listed a w:=by
 have fin: ∀{k st acc a w},ops.length≤k→run P ty Γ cU cr ops (ops.drop k) st acc=some (vcs,qg)→Inv ty zb st a w→Q .normal a w:=by
  intro k st acc a w hk hr iv
  rw[List.drop_eq_nil_of_le hk]at hr
  simp only[run,oI,pI]at hr
  exact hQ a w (hr.2▸iv)
 have rdy: ∀{k:Nat} {listed:Array Bool},k<ops.length→listed.size=ops.length→(∀i,listed.getD i false=true↔i<k)→k∈Region.ready .any ops.toArray listed:=by
  intro k listed hk hl hL
  rw[jz hl]
  refine⟨ops[k],List.getElem?_eq_getElem hk,?_,fun j hj=>(hL j).2 (K.back k _ (List.getElem?_eq_getElem hk) j hj)⟩
  cases h:listed.getD k false with
  |false=>rfl
  |true=>have:=(hL k).1 h;omega
 intro fuel
 induction fuel with
 |zero=>
  intro k st acc listed a w hmk hkn hf hl hL hr iv
  refine⟨?_,fin (by omega) hr iv⟩
  apply List.eq_nil_iff_forall_not_mem.2
  intro i hi
  obtain⟨o,ho,h1,_⟩:=(jz hl).1 hi
  have:=(List.getElem?_eq_some_iff.1 ho).1
  rw[(hL i).2 (by omega)]at h1
  cases h1
 |succ fuel ih=>
  intro k st acc listed a w hmk hkn hf hl hL hr iv
  refine⟨fun hnil=> ?_,fun i hi=> ?_⟩
  ·by_cases hk:k<ops.length
   ·have:=rdy hk hl hL
    rw[hnil]at this
    simp at this
   ·exact fin (by omega) hr iv
  ·obtain⟨o,ho,h1,h2⟩:=(jz hl).1 hi
   have hin:=(List.getElem?_eq_some_iff.1 ho).1
   have hki:k≤i:=by
    rcases Nat.lt_or_ge i k with h|h
    ·rw[(hL i).2 h]at h1;cases h1
    ·exact h
   have hik:i=k:=by
    rcases Nat.lt_or_ge k i with h|h
    ·exfalso
     have hc: ∀i o,listed.getD i false=true→ops[i]? =some o→ ∀j,j∈cm o→listed.getD j false=true:=fun i o hi ho j hj=>(hL j).2 (by have:=K.back i o ho j hj;have:=(hL i).1 hi;omega)
     have:=qL (D:=fun j=>listed.getD j false=true) K.back hc i o ho h2 k (K.tail i o (by omega) ho k h)
     have:=(hL k).1 this
     omega
    ·omega
   subst hik
   have Z8:ops.drop i=o::ops.drop (i+1):=by
    rw[List.drop_eq_getElem_cons hin]
    congr 1
    have:=List.getElem?_eq_getElem hin
    rw[ho]at this
    simpa using this.symm
   rw[Z8]at hr
   obtain⟨vc,Vn,hs,yG⟩:=wS hr
   have hstep:=rU (Q:=Q) X.kind X.one hs iv (fun q hq=>hv q (zo yG q (List.mem_append_left _ hq)))
   unfold wpOp
   rw[List.getElem?_toArray,ho]
   dsimp only
   have:=hstep.mono fun a' w' kX=>ih (i+1) Vn _ (listed.setIfInBounds i true) a' w' (by omega) (by omega) (by omega) (by simpa using hl)
    (fun j=>by
     rw[vp (by omega)]
     simp only[Bool.or_eq_true,beq_iff_eq,hL]
     omega) yG kX
   exact this
theorem OE(X:Ctx P ty Γ)(K:Z4 ops m){oL vcs:List Prop}{qg:St}(T:Trace Γ (Fw P ty) (Sound ty P) cU cr ops m s tr vcs)(hnc:Eh s.sl=true)(hv: ∀q,q∈vcs→q)(hQ: ∀a w,Inv ty zb qg a w→Q .normal a w)
  (hr:run P ty Γ cU cr ops (ops.drop m) (pre tr s m) oL=some (vcs,qg)): ∀(fuel:Nat) (listed:Array Bool) (a:Act) (w:World),cnt ops.length (fun i=>listed.getD i false)≤fuel→listed.size=ops.length→(∀i,listed.getD i false=true→i<m)→
  (∀i o,listed.getD i false=true→ops[i]? =some o→ ∀j,j∈cm o→listed.getD j false=true)→Inv ty zb (cY (fun i=>listed.getD i false) tr s m) a w→wpAny P .any ops.toArray Q fuel listed a w:=by
 have all: ∀{listed:Array Bool} {fuel:Nat} {a:Act} {w:World},listed.size=ops.length→(∀i,listed.getD i false=true→i<m)→(∀i,i<m→listed.getD i false=true)→cnt ops.length (fun i=>listed.getD i false)≤fuel→Inv ty zb (cY (fun i=>listed.getD i false) tr s m) a w→wpAny P .any ops.toArray Q fuel listed a w:=by
  intro listed fuel a w hl h1 h2 hf iv
  have heq: ∀i,i≤m→cY (fun i=>listed.getD i false) tr s i=pre tr s i:=by
   intro i
   induction i with
   |zero=>intro _;rfl
   |succ i ih=>
    intro hi
    rw[cY,pre,cY,ih (by omega),h2 i (by omega)]
  rw[heq m (Nat.le_refl _)]at iv
  refine OD X K hv hQ fuel m _ oL listed a w (Nat.le_refl _) K.le ?_ hl (fun i=>⟨h1 i,h2 i⟩) hr iv
  refine Nat.le_trans ?_ hf
  unfold cnt
  have hsub:(List.range ops.length).filter (fun i=> !listed.getD i false)=(List.range ops.length).filter fun i=>decide (m≤i):=by
   apply List.filter_congr
   intro i _
   by_cases h:m≤i
   ·cases hh:listed.getD i false with
    |true=>have:=h1 i hh;omega
    |false=>simp[h]
   ·simp[h2 i (by omega),h]
  rw[hsub]
  have: ∀n,m≤n→((List.range n).filter fun i=>decide (m≤i)).length=n-m:=by
   intro n hn
   induction n with
   |zero=>simp
   |succ n ih=>
    rw[List.range_succ,List.filter_append]
    by_cases h:m≤n
    ·simp[ih h,h];omega
    ·have:(List.range n).filter (fun i=>decide (m≤i))= []:=by
      apply List.filter_eq_nil_iff.2
      intro i hi
      have:=List.mem_range.1 hi
      simp;omega
     simp[this,h];omega
  rw[this _ K.le]
  exact Nat.le_refl _
 intro fuel
 induction fuel with
 |zero=>
  intro listed a w hf hl h1 h2 iv
  have hz:=F5 (by omega:cnt ops.length (fun i=>listed.getD i false)=0)
  exact all hl h1 (fun i hi=>hz i (by have:=K.le;omega)) hf iv
 |succ fuel ih=>
  intro listed a w hf hl h1 h2 iv
  by_cases hall: ∀i,i<m→listed.getD i false=true
  ·exact all hl h1 hall hf iv
  ·have hex: ∃i,i<m∧listed.getD i false=false∧ ∀j,j<i→listed.getD j false=true:=by
    have: ∃i,i<m∧listed.getD i false=false:=by
     apply Classical.byContradiction
     intro hno
     apply hall
     intro i hi
     cases h:listed.getD i false with
     |true=>rfl
     |false=>exact absurd ⟨i,hi,h⟩ hno
    obtain⟨i,hi,h⟩:=this
    induction i using Nat.strongRecOn with
    |_ i ihi=>
     by_cases LF: ∀j,j<i→listed.getD j false=true
     ·exact⟨i,hi,h,LF⟩
     ·have: ∃j,j<i∧listed.getD j false=false:=by
       apply Classical.byContradiction
       intro hno
       apply LF
       intro j hj
       cases hh:listed.getD j false with
       |true=>rfl
       |false=>exact absurd ⟨j,hj,hh⟩ hno
      obtain⟨j,hj,ZV⟩:=this
      exact ihi j hj (by omega) ZV
   have hml:=K.le
   refine⟨fun hnil=> ?_,fun i hi=> ?_⟩
   ·obtain⟨i,hi,hif,LF⟩:=hex
    have hin:i<ops.length:=by omega
    have:i∈Region.ready .any ops.toArray listed:=(jz hl).2 ⟨ops[i],List.getElem?_eq_getElem hin,hif,fun j hj=>LF j (K.back i _ (List.getElem?_eq_getElem hin) j hj)⟩
    rw[hnil]at this
    simp at this
   ·obtain⟨o,ho,hif,hE⟩:=(jz hl).1 hi
    have hin:=(List.getElem?_eq_some_iff.1 ho).1
    have him:i<m:=by
     rcases Nat.lt_or_ge i m with h|h
     ·exact h
     ·exfalso
      obtain⟨j,hj,ZV,_⟩:=hex
      have:=qL (D:=fun j=>listed.getD j false=true) K.back h2 i o ho hE j (K.tail i o h ho j (by omega))
      rw[ZV]at this;cases this
    unfold wpOp
    rw[List.getElem?_toArray,ho]
    dsimp only
    have hstep:=LD (Q:=Q) X.kind T K hv hnc (D:=fun i=>listed.getD i false) h1 h2 him hif ho hE iv
    have Ea: ∀j,(listed.setIfInBounds i true).getD j false=(listed.getD j false||j==i):=fun j=>vp (by omega)
    have hfun:(fun j=>(listed.setIfInBounds i true).getD j false)=fun j=>listed.getD j false||j==i:=funext Ea
    have:=hstep.mono fun a' w' kX=>ih (listed.setIfInBounds i true) a' w'
     (by rw[hfun];have:=JV (D:=fun i=>listed.getD i false) hin hif;omega) (by simpa using hl)
     (fun j hj=>by
      rw[Ea,Bool.or_eq_true,beq_iff_eq]at hj
      rcases hj with hj|rfl
      ·exact h1 j hj
      ·exact him)
     (fun j o' hj ho' x hx=>by
      rw[Ea]at hj ⊢
      rw[Bool.or_eq_true,beq_iff_eq]at hj
      rw[Bool.or_eq_true]
      rcases hj with hj|rfl
      ·exact Or.inl (h2 j o' hj ho' x hx)
      ·rw[ho]at ho'
       simp only[oI]at ho'
       subst ho'
       exact Or.inl (hE x hx))
     (by rw[hfun];exact kX)
    exact this
end
section
variable{P:Program}{Γ:Nat→TK}{zb:cL}{Q:Post}{st:St}
theorem ct(X:Ctx P ty Γ)(cU:List (Nat×Nat))(cr:List (Nat×CR))(ks hs:List Nat)(m:Nat){id:Nat}{ops:List Oper}{vc:List Prop}{st':St}(hm:P.follows .mixedOrders=true)(hc:chk ops m=true)(h:WQ P ty Γ cU cr ks hs m ops st=some (vc,st'))(hv:kW vc)(k:Q .normal st'):
  W P ty zb (.region id ops.toArray true) Q st:=by
 intro a w iv
 obtain⟨n,MK,gH⟩:=st
 have K:=WS hc
 simp only[WQ]at h
 split at h
 ·rename_i oL s1 hnc hq
  split at h
  ·rename_i Vc s2 hr
   split at h
   ·rename_i sl hp h1 h2
    split at h
    ·rename_i pX hn
     simp only[oI,pI]at h
     obtain⟨rfl,rfl⟩:=h
     obtain⟨tr,t1,t2,t3⟩:=F4 (k:=0) hq (fun i o ho=>by
      rw[List.getElem?_take]at ho
      split at ho
      ·simpa using ho
      ·cases ho)
     have hlen:(ops.take m).length=m:=by rw[List.length_take];have:=K.le;omega
     rw[hlen]at t1 t2 t3
     subst t2
     have T:Trace Γ (Fw P ty) (Sound ty P) cU cr ops m ⟨n,MK,gH⟩ tr Vc:=⟨t1,fun i hi=>by
      obtain⟨o,e,vc,p1,p2,p3,p4,p5,p6⟩:=t3 i hi
      exact⟨o,e,vc,by simpa using p1,p2,p3,p4,p5,fun q hq=>zo hr q (p6 q hq)⟩⟩
     refine wp_region_any hm ?_
     have hz: ∀i,(Array.replicate ops.toArray.size false).getD i false=false:=by
      intro i
      rw[Array.getD_eq_getD_getElem?,Array.getElem?_replicate]
      split<;>rfl
     refine OE (Q:=SZ ty zb Q) X K T hnc hv.out (fun a w kX=>⟨_,kX.weaken (Nat.eq_of_beq_eq_true hn).symm (lS h1) (lT h2) pX,k⟩) hr _ _ a _ ?_ (by simp) (fun i hi=>by rw[hz]at hi;cases hi) (fun i o hi=>by rw[hz]at hi;cases hi) ?_
     ·unfold cnt
      refine Nat.le_trans (List.length_filter_le _ _) ?_
      simp
     ·have hD:(fun i=>(Array.replicate ops.toArray.size false).getD i false)=fun _=>false:=funext hz
      rw[hD]
      have hmk: ∀i,cY (fun _=>false) tr ⟨n,MK,gH⟩ i=⟨n,MK,gH⟩:=by
       intro i
       induction i with
       |zero=>rfl
       |succ i ih=>rw[vm rfl,ih]
      rw[hmk]
      obtain⟨env,g⟩:=iv.good
      have Y6:Below w.heap.size w w.drew:=(Below.refl _ _).drew
      refine⟨iv.size,iv.defers,iv.kept.trans (jY Y6 iv.kept.size),iv.yK,env,?_⟩
      have:=g.grow (os:= []) (w':=w.drew) (env':=env) iv.kept.size rfl (jZ.none Y6)
      exact this
    ·cases h
   ·cases h
  ·cases h
 ·cases h
theorem eI(X:Ctx P ty Γ)(cU:List (Nat×Nat))(cr:List (Nat×CR))(ks hs:List Nat)(m:Nat){y:Code}{id:Nat}{ops:List Oper}{vc:List Prop}{st':St}(hm:P.follows .mixedOrders=true)(hc:chk ops m=true)(h:WQ P ty Γ cU cr ks hs m ops st=some (vc,st'))(hv:kW vc)(k:W P ty zb y Q st'):W P ty zb (.seq (.region id ops.toArray true) y) Q st:=aa (ct X cU cr ks hs m hm hc h hv k)
end
end
section
variable{ty:Tag→Nat}
section
variable{ks ns:List Nat}{m0:Nat}{w w':World}{hp hp':Hp}{env env':Env}
end
section
variable{P:Program}{zb:cL}{st:St}{a:Act}{w:World}{env:Env}
end
section
variable{P:Program}{zb:cL}{st:St}{a:Act}{w:World}{env:Env}{o:Oper}
end
section
variable{P:Program}{Γ:Nat→TK}{zb:cL}{Q:Post}{st:St}
end
def rename(st:St)(s m:Nat):Option St:=match look st.sl s,Nat.blt s st.n with
 |some (.one (.a (.own n))),true=>match look st.hp n,pinned [n],gT m,look (cq [n] [] st.hp) m with
  |some (.arr t l),false,false,none=>JO ((st.gone [n] m t l).put (some s) (.one (.a (.own m))))
  |_,_,_,_=>none
 |_,_=>none
theorem LR{zb:cL}{st st':St}{s m:Nat}(h:rename st s m=some st'){a:Act}{w:World}(iv:Inv ty zb st a w):Inv ty zb st' a w:=by
 obtain⟨env,g⟩:=iv.good
 have hB:=iv.kept.size
 unfold rename at h
 split at h
 case h_2=>cases h
 rename_i n hs hlt
 split at h
 case h_2=>cases h
 rename_i t l hl hpk B9 hlk
 have h:=kV h
 rw[St.gone_eq]at h
 have U7:soft n=false:=lQ hpk (by simp)
 have hb:=RO.RM U7 (g.obj n _ hl)
 have DZ: ∀b,(env n).v.ownBlock=some b→b∈(env n).fp:=by
  intro b hb'
  obtain⟨xs,bn,_,_,_,gb,_⟩:=hb
  rw[gb,hb'];simp
 obtain⟨env',hg',Ca⟩:=uT (ty:=ty) g hB (ks:= [n]) hpk B9 hlk (v:=(env n).v) (v':=(env n).v) (w':=w) (fp:=(env n).fp) (fx:= []) (by
  intro b hb
  rw[List.append_nil]at hb
  exact⟨n,_,by simp,hl,hb⟩) DZ hb ⟨rfl,rfl,rfl,Nat.le_refl _,fun _ _ _=>rfl⟩ (fun b hb=>Or.inl hb)
 have hlt:s<a.tmps.size:=by rw[iv.size];exact Nat.le_of_ble_eq_true hlt
 obtain⟨_,hu⟩:=g.slot s _ hs
 have gp:=hg'.put hlt (v:= .one (.a (.own m))) (u:=a.tmps.getD s undef) ⟨⟨t,l,look_eq⟩,by rw[Ca];exact hu⟩ rfl
 have e:a.tmps.setIfInBounds s (a.tmps.getD s undef)=a.tmps:=by
  rw[Array.getD_eq_getD_getElem?,Array.getElem?_eq_getElem hlt]
  apply Array.ext
  ·simp
  ·intro i h1 h2
   rw[Array.getElem_setIfInBounds]
   split
   ·rename_i hi;subst hi;rfl
   ·rfl
 rw[e]at gp
 rw[h]
 exact⟨by rw[CL];exact iv.size,iv.defers,iv.kept,iv.yK,env',gp⟩
theorem w8{P:Program}{zb:cL}{Q:Post}{st st':St}{c:Code}(s m:Nat)(h:G.rename st s m=some st')(k:W P ty zb c Q st'):W P ty zb c Q st:=fun a w iv=>k a w (LR h iv)
def Iv(st:St)(b i m:Nat)(t:Tag):Option St:=match look st.hp b,gT m,look st.hp m with
 |some (.box c),false,none=>match uC c i with
  |some (.lit (.slice none 0 0))=>JO ⟨st.n,st.sl,(b, .box (c.set i (.own m)))::(m, .arr t [])::st.hp⟩
  |_=>none
 |_,_,_=>none
theorem bH.set'{R R':V→Value→Prop}{y:V}(hm: ∀a u,R a u→R' a u): ∀{c:List V} {cs:List Value} {i:Nat} {v:V},bH R c cs→uC c i=some v→(∀u,R v u→R' y u)→bH R' (c.set i y) cs
 | [],_,_,_,_,h,_=>by cases h
 |a::r,[],_,_,h,_,_=>h.elim
 |a::r,u::us,0,v,⟨h1,h2⟩,h,hy=>by
  simp only[uC,oI]at h
  subst h
  exact⟨hy u h1,h2.mono fun a b _ h=>hm a b h⟩
 |a::r,u::us,i+1,v,⟨h1,h2⟩,h,hy=>⟨hm a u h1,bH.set' hm h2 (by simpa[uC]using h) hy⟩
theorem LS{zb:cL}{st st':St}{b i m:Nat}{t:Tag}(h:Iv st b i m t=some st'){a:Act}{w:World}(iv:Inv ty zb st a w):Inv ty zb st' a w:=by
 obtain⟨env,g⟩:=iv.good
 have hB:=iv.kept.size
 unfold Iv at h
 split at h
 case h_2=>cases h
 rename_i c hl B9 hlk
 split at h
 case h_2=>cases h
 rename_i he
 have h:=kV h
 have hne:b≠m:=by rintro rfl;rw[hl]at hlk;cases hlk
 have hN:jZ (ty:=ty) w w st.hp [(m, .arr t [])] env (fun n=>if n=m then⟨Lb,[]⟩else env n):=by
  refine⟨Below.refl _ _,fun n hn=> ?_,fun n o hn=> ?_,fun n n' o o' hne h1 h2=> ?_⟩
  ·by_cases hnm:n=m
   ·subst hnm;rw[look_eq]at hn;cases hn
   ·simp[hnm]
  ·by_cases hnm:n=m
   ·subst hnm
    rw[look_eq]at hn
    simp only[oI]at hn
    subst hn
    simp only[if_true]
    exact⟨RO.Fu (iW.nil _ _ _ _ _),by simp⟩
   ·rw[aY hnm]at hn;cases hn
  ·intro x hx
   by_cases hnm:n=m
   ·subst hnm;simp at hx
   ·rw[aY hnm]at h1;cases h1
 have g1:=Good.grow hB g (os:= [(m, .arr t [])]) (by simp[fresh,hlk,B9]) hN
 have hl1:look ([(m,Obj.arr t [])]++st.hp) b=some (.box c):=by
  show look ((m,Obj.arr t [])::st.hp) b=_
  rw[aY hne];exact hl
 obtain⟨b',cs,e,yh,hh,hc⟩:=g1.obj b _ hl1
 have g2:=Ap (off:=0) (us:= []) (c':=c.set i (.own m)) g1 hl1 yh hh (Nat.zero_le _) (by
  simp only[List.take_zero,List.nil_append,Nat.zero_add,List.length_nil,List.drop_zero]
  refine bH.set' (fun _ _ h=>h) hc he fun u hu=> ?_
  obtain⟨rfl,_⟩:=hu
  refine⟨⟨t,[],look_eq⟩,?_⟩
  simp only[if_true])
 rw[h]
 exact⟨iv.size,iv.defers,iv.kept,iv.yK,_,g2⟩
theorem kg{P:Program}{zb:cL}{Q:Post}{st st':St}{c:Code}(b i m:Nat)(t:Tag)(h:G.Iv st b i m t=some st')(k:W P ty zb c Q st'):W P ty zb c Q st:=fun a w iv=>k a w (LS h iv)
def Et(st:St)(b i m:Nat):Option St:=match look st.hp b with
 |some (.box c)=>match uC c i with
  |some (.own n)=>match look st.hp n,pinned [n],gT m,look (cq [n] [] st.hp) m with
   |some (.arr t l),false,false,none=>match st.gone [n] m t l with
    | ⟨nn,sl,hp⟩=>JO ⟨nn,sl,(b, .box ((c.map fun v=>v.bF [n] []).set i (.own m)))::hp⟩
   |_,_,_,_=>none
  |_=>none
 |_=>none
theorem bH.aah{R R':V→Value→Prop}{f:V→V}{y:V}(hm: ∀a u,R a u→R' (f a) u): ∀{c:List V} {cs:List Value} {i:Nat} {v:V},bH R c cs→uC c i=some v→(∀u,R v u→R' y u)→bH R' ((c.map f).set i y) cs
 | [],_,_,_,_,h,_=>by cases h
 |a::r,[],_,_,h,_,_=>h.elim
 |a::r,u::us,0,v,⟨h1,h2⟩,h,hy=>by
  simp only[uC,oI]at h
  subst h
  exact⟨hy u h1,h2.map hm⟩
 |a::r,u::us,i+1,v,⟨h1,h2⟩,h,hy=>⟨hm a u h1,bH.aah hm h2 (by simpa[uC]using h) hy⟩
theorem Iw{zb:cL}{st st':St}{b i m:Nat}(h:Et st b i m=some st'){a:Act}{w:World}(iv:Inv ty zb st a w):Inv ty zb st' a w:=by
 obtain⟨env,g⟩:=iv.good
 have hB:=iv.kept.size
 unfold Et at h
 split at h
 case h_2=>cases h
 rename_i c yO
 split at h
 case h_2=>cases h
 rename_i n he
 split at h
 case h_2=>cases h
 rename_i t l hl hpk B9 hlk
 rw[St.gone_eq]at h
 have h:=kV h
 have U7:soft n=false:=lQ hpk (by simp)
 have hb:=RO.RM U7 (g.obj n _ hl)
 have DZ: ∀b,(env n).v.ownBlock=some b→b∈(env n).fp:=by
  intro b hb'
  obtain⟨xs,bn,_,_,_,gb,_⟩:=hb
  rw[gb,hb'];simp
 obtain⟨env',hg',Ca,hold,ade⟩:=wM (ty:=ty) g hB (ks:= [n]) hpk B9 hlk (v:=(env n).v) (v':=(env n).v) (w':=w) (fp:=(env n).fp) (fx:= []) (by
  intro b hb
  rw[List.append_nil]at hb
  exact⟨n,_,by simp,hl,hb⟩) DZ hb ⟨rfl,rfl,rfl,Nat.le_refl _,fun _ _ _=>rfl⟩ (fun b hb=>Or.inl hb)
 have Y1:b≠n:=by rintro rfl;rw[yO]at hl;cases hl
 have hbk:look (cq [n] [] st.hp) b=some (.box (c.map fun v=>v.bF [n] [])):=by
  rw[bC,if_neg (by simpa using Y1),yO];rfl
 have Hv:b≠m:=by rintro rfl;rw[hbk]at hlk;cases hlk
 have bY:look ((m,Obj.arr t l)::cq [n] [] st.hp) b=some (.box (c.map fun v=>v.bF [n] [])):=by rw[aY Hv];exact hbk
 obtain⟨b',cs,e,yh,hh,hc⟩:=hg'.obj b _ bY
 obtain⟨b0,cs0,e0,adf,hh0,hc0⟩:=g.obj b _ yO
 have Ht:b'=b0:=by
  rw[hold b Hv,adf]at yh
  simpa using yh.symm
 subst Ht
 have hcs:cs=cs0:=by
  rw[hh0]at hh
  simp at hh
  exact hh.1.symm
 subst hcs
 have s:sO [n] [] w st.hp env w ((m,Obj.arr t l)::cq [n] [] st.hp) env':=by
  have hnm: ∀x o,x≠n→look st.hp x=some o→x≠m:=by
   rintro x o hx h1 rfl
   rw[bC,if_neg (by simpa using hx),h1]at hlk;cases hlk
  refine⟨fun _ _ _=>rfl,?_,?_,?_⟩
  ·rintro x hx ⟨y,o',h1,h2⟩
   by_cases hy:y=m
   ·subst hy
    exact⟨n,_,hl,by rw[←ade];exact h2⟩
   ·rw[hold y hy]at h2
    rw[aY hy,bC]at h1
    split at h1
    ·cases h1
    ·cases hq:look st.hp y with
     |none=>rw[hq]at h1;cases h1
     |some o=>exact⟨y,o,hq,h2⟩
  ·intro x o hx h1
   have hx:x≠n:=by simpa using hx
   have Ix:=hnm x o hx h1
   exact⟨o.bF [n] [],by rw[aY Ix,bC,if_neg (by simpa using hx),h1];rfl,by cases o<;>simp[Obj.like,Obj.bF],by rw[hold x Ix]⟩
  ·rintro x t' l' ⟨hx,_⟩ h1
   have hx:x≠n:=by simpa using hx
   have Ix:=hnm x _ hx h1
   exact⟨by rw[aY Ix,bC,if_neg (by simpa using hx),h1];rfl,by rw[hold x Ix],fun _ _=>rfl⟩
 have g2:=Ap (off:=0) (us:= []) (c':=(c.map fun v=>v.bF [n] []).set i (.own m)) hg' bY yh hh (Nat.zero_le _) (by
  simp only[List.take_zero,List.nil_append,Nat.zero_add,List.length_nil,List.drop_zero]
  refine bH.aah (fun v u h=>RA.gU s h) hc0 he fun u hu=> ?_
  obtain⟨_,hu⟩:=hu
  exact⟨⟨t,l,look_eq⟩,by rw[hu,Ca]⟩)
 rw[h]
 exact⟨iv.size,iv.defers,iv.kept,iv.yK,_,g2⟩
theorem tX{P:Program}{zb:cL}{Q:Post}{st st':St}{c:Code}(b i m:Nat)(h:G.Et st b i m=some st')(k:W P ty zb c Q st'):W P ty zb c Q st:=fun a w iv=>k a w (Iw h iv)
end
section
variable{ty:Tag→Nat}
inductive gy where
 |last(q:Nat)
 |ph(q:Nat)(c:gy)
 |br(d t:Nat)(sub next:gy)
 |nil
def gy.J0:gy→List (Nat×Nat×gy)
 | .br d t sub next=>(d,t,sub)::next.J0
 |_=> []
def gy.O4:gy→Bool
 | .last _=>true
 | .ph _ _=>true
 |_=>false
def Gi(Γ:Nat→TK)(E:Tag→Nat→Prop)(S:FuncId→List S1→List S1→Prop)(cU:List (Nat×Nat))(cr:List (Nat×CR))(ops:List Oper)(q:Nat):Nat→List Oper→St→Option (List TE×List (Nat×List Prop))
 |_,[],_=>some ([],[])
 |i,o::r,⟨n,sl,hp⟩=>match q.testBit i with
  |false=>match Gi Γ E S cU cr ops q (i+1) r ⟨n,sl,hp⟩with
   |some (tr,vq)=>some (⟨0, .td [],[]⟩::tr,vq)
   |none=>none
  |true=>match o.dst with
   |some d=>match sl.any (fun e=>e.2.mentions d),kF Γ E S cU cr ops ⟨n,sl,hp⟩ o with
    |false,some (vc,v,os)=>match fS v,WK os with
     |some v,some os=>match Gi Γ E S cU cr ops q (i+1) r ⟨n,(d,v)::sl,kT os hp⟩with
      |some (tr,vq)=>some (⟨d,v,os⟩::tr,(i,vc)::vq)
      |none=>none
     |_,_=>none
    |_,_=>none
   |none=>none
def Gj(d:Nat):Nat→List TE→St→St
 |_,[],s=>s
 |i,e::r,s=>match d.testBit i with
  |true=>Gj d (i+1) r (app s e)
  |false=>Gj d (i+1) r s
def IA(i:Nat)(vc:List Prop):List (Nat×List Prop)→List (Nat×List Prop)
 | []=> [(i,vc)]
 | (j,v)::r=>match Nat.blt j i with
   |true=>(i,vc)::(j,v)::r
   |false=>(j,v)::IA i vc r
def Gk(d:Nat):List (Nat×List Prop)→List (Nat×List Prop)→List (Nat×List Prop)
 | [],acc=>acc
 | (i,vc)::r,acc=>match d.testBit i with
   |true=>Gk d r (IA i vc acc)
   |false=>Gk d r acc
def yy:List (Nat×List Prop)→Option (List Prop)
 | []=>some []
 | (_,[])::r=>yy r
 | (_,[p])::r=>match yy r with|some l=>some (p::l)|none=>none
 | (_,[p,q])::r=>match yy r with|some l=>some (p::q::l)|none=>none
 | (_,l)::r=>match yy r with|some l'=>some (l++l')|none=>none
theorem qW{i:Nat}{vc:List Prop}: ∀{l:List (Nat×List Prop)} {x:Nat×List Prop},x∈IA i vc l↔x=(i,vc)∨x∈l
 | [],x=>by simp[IA]
 | (j,v)::r,x=>by
   simp only[IA]
   split
   ·simp
   ·rw[List.mem_cons,List.mem_cons,qW]
    constructor
    ·rintro(h|h|h)
     ·exact Or.inr (Or.inl h)
     ·exact Or.inl h
     ·exact Or.inr (Or.inr h)
    ·rintro(h|h|h)
     ·exact Or.inr (Or.inl h)
     ·exact Or.inl h
     ·exact Or.inr (Or.inr h)
theorem nT{d:Nat}: ∀{vq acc:List (Nat×List Prop)} {x:Nat×List Prop},x∈Gk d vq acc↔(x∈vq∧d.testBit x.1=true)∨x∈acc
 | [],acc,x=>by simp[Gk]
 | (i,vc)::r,acc,x=>by
   simp only[Gk]
   split
   ·rename_i hb
    rw[nT,qW]
    constructor
    ·rintro(⟨h1,h2⟩|rfl|h)
     ·exact Or.inl ⟨List.mem_cons_of_mem _ h1,h2⟩
     ·exact Or.inl ⟨by simp,hb⟩
     ·exact Or.inr h
    ·rintro(⟨h1,h2⟩|h)
     ·rcases List.mem_cons.1 h1 with rfl|h1
      ·exact Or.inr (Or.inl rfl)
      ·exact Or.inl ⟨h1,h2⟩
     ·exact Or.inr (Or.inr h)
   ·rename_i hb
    rw[nT]
    constructor
    ·rintro(⟨h1,h2⟩|h)
     ·exact Or.inl ⟨List.mem_cons_of_mem _ h1,h2⟩
     ·exact Or.inr h
    ·rintro(⟨h1,h2⟩|h)
     ·rcases List.mem_cons.1 h1 with rfl|h1
      ·simp only at h2;rw[h2]at hb;cases hb
      ·exact Or.inl ⟨h1,h2⟩
     ·exact Or.inr h
theorem xg: ∀{l:List (Nat×List Prop)} {m:List Prop},yy l=some m→ ∀x,x∈l→ ∀q,q∈x.2→q∈m
 | [],_,_,x,hx=>by cases hx
 | (i,v)::r,m,h,x,hx=>by
   have key: ∃l',yy r=some l'∧m=v++l':=by
    unfold yy at h
    split at h
    ·rename_i he;cases he
    ·rename_i he;simp only[List.cons.injEq,pI]at he;obtain⟨⟨rfl,rfl⟩,rfl⟩:=he;exact⟨m,h,rfl⟩
    ·rename_i he
     simp only[List.cons.injEq,pI]at he;obtain⟨⟨rfl,rfl⟩,rfl⟩:=he
     split at h
     ·rename_i l' h1;simp only[oI]at h;exact⟨l',h1,h.symm⟩
     ·cases h
    ·rename_i he
     simp only[List.cons.injEq,pI]at he;obtain⟨⟨rfl,rfl⟩,rfl⟩:=he
     split at h
     ·rename_i l' h1;simp only[oI]at h;exact⟨l',h1,h.symm⟩
     ·cases h
    ·rename_i he
     simp only[List.cons.injEq,pI]at he;obtain⟨⟨rfl,rfl⟩,rfl⟩:=he
     split at h
     ·rename_i l' h1;simp only[oI]at h;exact⟨l',h1,h.symm⟩
     ·cases h
   obtain⟨l',h1,rfl⟩:=key
   intro q hq
   rcases List.mem_cons.1 hx with rfl|hx
   ·exact List.mem_append_left _ hq
   ·exact List.mem_append_right _ (xg h1 x hx q hq)
def jA(P:Program)(ty:Tag→Nat)(Γ:Nat→TK)(cU:List (Nat×Nat))(cr:List (Nat×CR))(ks hs:List Nat)(ops:List Oper)(n0:Nat):gy→St→List TE→List (Nat×List Prop)→List (Nat×List Prop)→Option (List (List Prop×St))
 | .last q,s,_,_,acc=>match Gi Γ (Fw P ty) (Sound ty P) cU cr ops q 0 ops s with
   |some (tr,vq)=>match JO (Gj q 0 tr s)with
    |some ⟨n,sl1,eM⟩=>match yp sl1 ks,yq eM (JQ sl1 eM ks hs),yy (Gk q vq acc)with
     |some sl,some hp,some vc=>match oR sl hp,Nat.beq n n0 with
      |true,true=>some [(vc,⟨n0,sl,hp⟩)]
      |_,_=>none
     |_,_,_=>none
    |none=>none
   |none=>none
 | .ph q c,s,_,_,acc=>match Gi Γ (Fw P ty) (Sound ty P) cU cr ops q 0 ops s with
   |some (tr,vq)=>jA P ty Γ cU cr ks hs ops n0 c s tr vq acc
   |none=>none
 | .br d t sub next,s,tr,vq,acc=>match JO (Gj d 0 tr s),ops[t]? with
   |some s1,some o=>match step P ty Γ cU cr ops s1 o with
    |some (vc,s2)=>match JO s2 with
     |some s2=>match jA P ty Γ cU cr ks hs ops n0 sub s2 [] [] (IA t vc (Gk d vq acc)),jA P ty Γ cU cr ks hs ops n0 next s tr vq acc with
      |some l1,some l2=>some (kT l1 l2)
      |_,_=>none
     |none=>none
    |none=>none
   |_,_=>none
 | .nil,_,_,_,_=>some []
def Bh(ops:List Oper)(B q Gl:Nat):Nat→Nat→Nat→List Nat
 |0,_,d=> [d]
 |m+1,i,d=>match q.testBit i with
  |false=>Bh ops B q Gl m (i+1) d
  |true=>(match((ops[i]?).map fun o=>(cm o).all fun j=>B.testBit j||d.testBit j).getD false with
   |true=>Bh ops B q Gl m (i+1) (d|||2^i)
   |false=> [])++(match Gl.testBit i with
   |true=> []
   |false=>Bh ops B q Gl m (i+1) d)
def TA(ops:List Oper)(cl:List Nat)(A:List (Nat×Oper))(qs B q:Nat):Bool:=
 A.all fun e=>(!(q.testBit e.1)|| !(B.testBit e.1))&&
   (B.testBit e.1||q.testBit e.1|| !(qs.testBit e.1)|| !((cm e.2).all fun j=>B.testBit j||q.testBit j))&&
   (!(q.testBit e.1)||
     ((tmpsOf e.2).all fun t=>A.all fun f=> !(q.testBit f.1)|| !(vk f.2 t)||Nat.beq f.1 e.1|| (cl.getD e.1 0).testBit f.1|| (Nat.blt e.1 f.1&&(cl.getD f.1 0).testBit e.1))&&
     (match e.2.guard with
      |none=>true
      |some (j,_)=>(cm e.2).any (Nat.beq j))&&
     (match e.2.dst with
      |some d=>A.all fun f=>Nat.beq f.1 e.1|| !(vk f.2 d)
      |none=>false)&&(cm e.2).all fun j=>B.testBit j||q.testBit j)
def Eu(ops:List Oper)(cl:List Nat)(n B q:Nat)(c:gy):Bool:=
 (List.range n).all fun t=>B.testBit t||q.testBit t||
  (Bh ops B q (cl.getD t 0) n 0 0).all fun d=> !(((ops[t]?).map fun o=>(cm o).all fun j=>B.testBit j||d.testBit j).getD false)||c.J0.any fun b=>Nat.beq b.1 d&&Nat.beq b.2.1 t
def ML(ops:List Oper)(cl:List Nat)(A:List (Nat×Oper))(qs n:Nat):Nat→gy→Bool
 |B, .last q=>TA ops cl A qs B q&&(List.range n).all fun i=>B.testBit i||q.testBit i
 |B, .ph q c=>TA ops cl A qs B q&&Eu ops cl n B q c&& !((List.range n).all fun i=>B.testBit i||q.testBit i)&&ML ops cl A qs n B c
 |B, .br d t sub next=>sub.O4&&Nat.blt t n&&ML ops cl A qs n (B|||d|||2^t) sub&&ML ops cl A qs n B next
 |_, .nil=>true
def TB(ops:List Oper)(qs:Nat)(p:gy):Bool:=
 ((idx 0 ops).all fun e=>(cm e.2).all fun j=>Nat.blt j e.1)&&p.O4&&ML ops (C0 ops) (idx 0 ops) qs ops.length 0 p
section
variable{nu D:Nat→Bool}{tr:List TE}{s:St}
theorem lD(nu:Nat→Bool)(e:TE)(tr:List TE)(s:St)(h:nu 0=false): ∀i,cY nu (e::tr) s (i+1)=cY (fun j=>nu (j+1)) tr s i
 |0=>by simp[cY,h]
 |i+1=>by
  rw[cY,lD nu e tr s h i,cY]
  simp only[List.getElem?_cons_succ]
theorem vJ(d:Nat): ∀(tr:List TE) (k:Nat) (s:St),Gj d k tr s=cY (fun i=>d.testBit (k+i)) tr s tr.length
 | [],_,_=>rfl
 |e::r,k,s=>by
  have hf:(fun j=>d.testBit (k+(j+1)))=fun i=>d.testBit (k+1+i):=by funext j;congr 1;omega
  simp only[Gj]
  split
  ·rename_i h
   rw[vJ d r (k+1) (app s e),List.length_cons,nK _ e r s (by simpa using h),hf]
  ·rename_i h
   rw[vJ d r (k+1) s,List.length_cons,lD _ e r s (by simpa using h),hf]
theorem xh{D':Nat→Bool}: ∀{n:Nat},(∀i,i<n→D i=D' i)→cY D tr s n=cY D' tr s n
 |0,_=>rfl
 |n+1,h=>by rw[cY,cY,xh (n:=n) fun i hi=>h i (by omega),h n (by omega)]
theorem Bi: ∀{n:Nat},cY (fun _=>false) tr s n=s
 |0=>rfl
 |n+1=>by rw[vm rfl,Bi]
theorem mT: ∀{i:Nat} {x:Nat×SV},x∈s.sl→x∈(cY D tr s i).sl
 |0,_,h=>h
 |i+1,x,h=>by
  rw[cY]
  split
  ·exact List.mem_cons_of_mem _ (mT h)
  ·exact mT h
def Bj(Qb:Nat→Bool)(tr:List TE)(s:St)(m:Nat):Prop:= ∀i e,i<m→Qb i=true→tr[i]? =some e→ ∀n o,look e.os n=some o→look (cY Qb tr s i).hp n=none
variable{Qb:Nat→Bool}
theorem xj{m:Nat}(hf:Bj Qb tr s m): ∀{j i:Nat},i≤j→j≤m→ ∀{n o},look (cY Qb tr s i).hp n=some o→look (cY Qb tr s j).hp n=some o
 |0,i,hi,_,n,o,h=>by
  have:i=0:=by omega
  subst this;exact h
 |j+1,i,hi,hm,n,o,h=>by
  by_cases hij:i=j+1
  ·subst hij;exact h
  ·have ih:=xj hf (j:=j) (i:=i) (by omega) (by omega) h
   rw[cY]
   split
   ·rename_i e' h1 h2
    show look (e'.os++(cY Qb tr s j).hp) n=_
    cases hq:look e'.os n with
    |none=>rw[bl hq];exact ih
    |some o'=>
     have:=hf j e' (by omega) h1 h2 n o' hq
     rw[this]at ih;cases ih
   ·exact ih
theorem qX{m:Nat}(hf:Bj Qb tr s m)(hD: ∀i,D i=true→Qb i=true): ∀{i:Nat},i≤m→ ∀{n o},look (cY D tr s i).hp n=some o→look (cY Qb tr s i).hp n=some o
 |0,_,n,o,h=>h
 |i+1,hm,n,o,h=>by
  rw[cY]at h
  split at h
  ·rename_i e' h1 h2
   have h:look (e'.os++(cY D tr s i).hp) n=some o:=h
   rw[kJ (hD i h1) h2]
   show look (e'.os++(cY Qb tr s i).hp) n=some o
   cases hq:look e'.os n with
   |none=>rw[bl hq]at h ⊢;exact qX hf hD (by omega) h
   |some o'=>rw[bS hq]at h ⊢;exact h
  ·exact xj hf (Nat.le_succ i) hm (qX hf hD (by omega) h)
theorem sr{m:Nat}(hf:Bj Qb tr s m)(hD: ∀i,D i=true→Qb i=true): ∀{i:Nat},i≤m→ ∀{n o},look s.hp n=some o→look (cY D tr s i).hp n=some o
 |0,_,n,o,h=>h
 |i+1,hm,n,o,h=>by
  have ih:=sr hf hD (i:=i) (by omega) h
  rw[cY]
  split
  ·rename_i e' h1 h2
   show look (e'.os++(cY D tr s i).hp) n=some o
   cases hq:look e'.os n with
   |none=>rw[bl hq];exact ih
   |some o'=>
    have h3:=hf i e' (by omega) (hD i h1) h2 n o' hq
    have h4:=qX hf hD (by omega) ih
    rw[h3]at h4;cases h4
  ·exact ih
theorem su{m:Nat}(hf:Bj Qb tr s m)(hD: ∀i,D i=true→Qb i=true): ∀{i:Nat},i≤m→ ∀{j:Nat} {e:TE} {n:Nat} {o:Obj},j<i→D j=true→tr[j]? =some e→look e.os n=some o→look (cY D tr s i).hp n=some o
 |i+1,hm,j,e,n,o,hj,hin,he,h=>by
  by_cases hij:j=i
  ·subst hij
   rw[kJ hin he]
   exact bS h
  ·have ih:=su hf hD (i:=i) (by omega) (j:=j) (by omega) hin he h
   rw[cY]
   split
   ·rename_i e' h1 h2
    show look (e'.os++(cY D tr s i).hp) n=some o
    cases hq:look e'.os n with
    |none=>rw[bl hq];exact ih
    |some o'=>
     have h3:=hf i e' (by omega) (hD i h1) h2 n o' hq
     have h4:=qX hf hD (by omega) ih
     rw[h3]at h4;cases h4
   ·exact ih
end
structure RX(Γ:Nat→TK)(E:Tag→Nat→Prop)(S:FuncId→List S1→List S1→Prop)(cU:List (Nat×Nat))(cr:List (Nat×CR))(ops:List Oper)(q:Nat)(s:St)(tr:List TE)(vq:List (Nat×List Prop)):Prop where
 len:tr.length=ops.length
 one: ∀i,i<ops.length→q.testBit i=true→ ∃o e vc,ops[i]? =some o∧tr[i]? =some e∧o.dst=some e.d∧((cY (fun j=>q.testBit j) tr s i).sl.any fun x=>x.2.mentions e.d)=false∧kF Γ E S cU cr ops (cY (fun j=>q.testBit j) tr s i) o=some (vc,e.v,e.os)∧(i,vc)∈vq
theorem tZ{Γ:Nat→TK}{E:Tag→Nat→Prop}{S:FuncId→List S1→List S1→Prop}{cU:List (Nat×Nat)}{cr:List (Nat×CR)}{ops:List Oper}{q:Nat}: ∀{l:List Oper} {k:Nat} {st:St} {tr:List TE} {vq:List (Nat×List Prop)},Gi Γ E S cU cr ops q k l st=some (tr,vq)→(∀i o,l[i]? =some o→ops[k+i]? =some o)→
  tr.length=l.length∧ ∀i,i<l.length→q.testBit (k+i)=true→ ∃o e vc,ops[k+i]? =some o∧tr[i]? =some e∧o.dst=some e.d∧((cY (fun j=>q.testBit (k+j)) tr st i).sl.any fun x=>x.2.mentions e.d)=false∧kF Γ E S cU cr ops (cY (fun j=>q.testBit (k+j)) tr st i) o=some (vc,e.v,e.os)∧(k+i,vc)∈vq
 | [],k,st,tr,vq,h,_=>by
   simp only[Gi,oI,pI]at h
   exact⟨by rw[←h.1];rfl,fun i hi=>absurd hi (by simp)⟩
 |o::r,k,⟨n,sl,hp⟩,tr,vq,h,hk=>by
  have hk': ∀i o',r[i]? =some o'→ops[k+1+i]? =some o':=fun i o' ho=>by
   have:=hk (i+1) o' (by simpa using ho)
   rw[show k+1+i=k+(i+1)by omega];exact this
  have hf:(fun j=>q.testBit (k+(j+1)))=fun i=>q.testBit (k+1+i):=by funext j;congr 1;omega
  simp only[Gi]at h
  split at h
  ·rename_i hb
   split at h
   case h_2=>cases h
   rename_i tr' vq' h2
   simp only[oI,pI]at h
   obtain⟨rfl,rfl⟩:=h
   obtain⟨q1,q2⟩:=tZ h2 hk'
   refine⟨by simp[q1],fun i hi hq=> ?_⟩
   cases i with
   |zero=>rw[Nat.add_zero,hb]at hq;cases hq
   |succ i=>
    obtain⟨o',e',WR,p1,p2,p3,p4,p5,p6⟩:=q2 i (by simpa using hi) (by rw[show k+1+i=k+(i+1)by omega];exact hq)
    refine⟨o',e',WR,by rw[show k+(i+1)=k+1+i by omega];exact p1,by simpa using p2,p3,?_,?_,by rw[show k+(i+1)=k+1+i by omega];exact p6⟩
    ·rw[lD _ _ tr' _ (by simpa using hb) i,hf];exact p4
    ·rw[lD _ _ tr' _ (by simpa using hb) i,hf];exact p5
  ·rename_i hb
   split at h
   case h_2=>cases h
   rename_i d hd
   split at h
   case h_2=>cases h
   rename_i vc v os hm hq0
   split at h
   case h_2=>cases h
   rename_i v2 os2 hv2 TC
   have hv2:=Oj hv2
   have TC:=Eb TC
   subst hv2;subst TC
   split at h
   case h_2=>cases h
   rename_i tr' vq' h2
   simp only[oI,pI]at h
   obtain⟨rfl,rfl⟩:=h
   rw[dJ]at h2
   obtain⟨q1,q2⟩:=tZ h2 hk'
   refine⟨by simp[q1],fun i hi hq=> ?_⟩
   cases i with
   |zero=>exact⟨o,⟨d,v2,os2⟩,vc,hk 0 o rfl,rfl,hd,hm,hq0,by simp⟩
   |succ i=>
    obtain⟨o',e',WR,p1,p2,p3,p4,p5,p6⟩:=q2 i (by simpa using hi) (by rw[show k+1+i=k+(i+1)by omega];exact hq)
    have hc:=nK (fun j=>q.testBit (k+j)) ⟨d,v2,os2⟩ tr' ⟨n,sl,hp⟩ (by simpa using hb) i
    refine⟨o',e',WR,by rw[show k+(i+1)=k+1+i by omega];exact p1,by simpa using p2,p3,?_,?_,by rw[show k+(i+1)=k+1+i by omega];exact List.mem_cons_of_mem _ p6⟩
    ·rw[hc,hf];exact p4
    ·rw[hc,hf];exact p5
theorem RX.of{Γ:Nat→TK}{E:Tag→Nat→Prop}{S:FuncId→List S1→List S1→Prop}{cU:List (Nat×Nat)}{cr:List (Nat×CR)}{ops:List Oper}{q:Nat}{s:St}{tr:List TE}{vq:List (Nat×List Prop)}(h:Gi Γ E S cU cr ops q 0 ops s=some (tr,vq)):RX Γ E S cU cr ops q s tr vq:=by
 obtain⟨h1,h2⟩:=tZ h (fun i o ho=>by simpa using ho)
 refine⟨h1,fun i hi hq=> ?_⟩
 have:=h2 i hi (by simpa using hq)
 simpa using this
structure Xb(ops:List Oper)(qs B q:Nat):Prop where
 back: ∀i o,ops[i]? =some o→ ∀j,j∈cm o→j<i
 iN: ∀i,i<ops.length→q.testBit i=true→B.testBit i=false
 full: ∀i o,ops[i]? =some o→B.testBit i=false→qs.testBit i=true→(∀j,j∈cm o→B.testBit j=true∨q.testBit j=true)→q.testBit i=true
 uses: ∀i o,q.testBit i=true→ops[i]? =some o→ ∀t,t∈tmpsOf o→ ∀k o',q.testBit k=true→ops[k]? =some o'→o'.dst=some t→k=i∨((C0 ops).getD i 0).testBit k=true∨(i<k∧((C0 ops).getD k 0).testBit i=true)
 guard: ∀i o j x,q.testBit i=true→ops[i]? =some o→o.guard=some (j,x)→j∈cm o
 dist: ∀i o k o' d,q.testBit i=true→ops[i]? =some o→ops[k]? =some o'→o.dst=some d→o'.dst=some d→k=i
 clq: ∀i o,q.testBit i=true→ops[i]? =some o→ ∀j,j∈cm o→(B.testBit j=true∨q.testBit j=true)
theorem aaj{ops:List Oper}(h:((idx 0 ops).all fun e=>(cm e.2).all fun j=>Nat.blt j e.1)=true): ∀i o,ops[i]? =some o→ ∀j,j∈cm o→j<i:=by
 intro i o ho j hj
 simp only[List.all_eq_true]at h
 have:=h _ (by simpa using vn (l:=ops) (k:=0) ho) j hj
 exact Nat.le_of_ble_eq_true this
theorem Ew{ops:List Oper}{qs B q:Nat}(hb: ∀i o,ops[i]? =some o→ ∀j,j∈cm o→j<i)(h:TA ops (C0 ops) (idx 0 ops) qs B q=true):Xb ops qs B q:=by
 simp only[TA,List.all_eq_true,Bool.and_eq_true,Bool.or_eq_true,Bool.not_eq_true']at h
 have hA: ∀{i o},ops[i]? =some o→(i,o)∈idx 0 ops:=by
  intro i o ho
  simpa using vn (l:=ops) (k:=0) ho
 have hdi: ∀{o:Oper} {t:Nat},o.dst=some t→vk o t=true:=by intro o t hd;simp[vk,hd]
 refine⟨hb,fun i hi hq=> ?_,fun i o ho hB hqs he=> ?_,fun i o hq ho t ht k o' IB ho' hd=> ?_,fun i o j x hq ho hg=> ?_,fun i o k o' d hq ho ho' hd hd'=> ?_,fun i o hq ho j hj=> ?_⟩
 ·rcases(h _ (hA (List.getElem?_eq_getElem hi))).1.1 with h1|h1
  ·simp only at h1;rw[hq]at h1;cases h1
  ·exact h1
 ·rcases(h _ (hA ho)).1.2 with((h1|h1)|h1)|h1
  ·simp only at h1;rw[hB]at h1;cases h1
  ·exact h1
  ·simp only at h1;rw[hqs]at h1;cases h1
  ·exfalso
   have:((cm o).all fun j=>B.testBit j||q.testBit j)=true:=by
    rw[List.all_eq_true];intro j hj
    rcases he j hj with h|h
    ·rw[h];rfl
    ·rw[h];simp
   simp only at h1
   rw[this]at h1;cases h1
 ·rcases(h _ (hA ho)).2 with h1|h1
  ·simp only at h1;rw[hq]at h1;cases h1
  ·rcases h1.1.1.1 t ht _ (hA ho')with(((h2|h2)|h2)|h2)|h2
   ·simp only at h2;rw[IB]at h2;cases h2
   ·rw[hdi hd]at h2;cases h2
   ·exact Or.inl (Nat.eq_of_beq_eq_true h2)
   ·exact Or.inr (Or.inl h2)
   ·exact Or.inr (Or.inr ⟨Nat.le_of_ble_eq_true h2.1,h2.2⟩)
 ·rcases(h _ (hA ho)).2 with h1|h1
  ·simp only at h1;rw[hq]at h1;cases h1
  ·have h2:=h1.1.1.2
   simp only[hg,List.any_eq_true]at h2
   obtain⟨y,hy,h3⟩:=h2
   rw[Nat.eq_of_beq_eq_true h3];exact hy
 ·rcases(h _ (hA ho)).2 with h1|h1
  ·simp only at h1;rw[hq]at h1;cases h1
  ·have h2:=h1.1.2
   simp only[hd,List.all_eq_true,Bool.or_eq_true,Bool.not_eq_true']at h2
   rcases h2 _ (hA ho')with h3|h3
   ·exact Nat.eq_of_beq_eq_true h3
   ·rw[hdi hd']at h3;cases h3
 ·rcases(h _ (hA ho)).2 with h1|h1
  ·simp only at h1;rw[hq]at h1;cases h1
  ·exact h1.2 j hj
end
section
variable{ty:Tag→Nat}
section
variable{P:Program}{Γ:Nat→TK}{cU:List (Nat×Nat)}{cr:List (Nat×CR)}{ops:List Oper}{s:St}{tr:List TE}{vq:List (Nat×List Prop)}{qs B q:Nat}
theorem RX.fresh{E:Tag→Nat→Prop}{S:FuncId→List S1→List S1→Prop}(T:RX Γ E S cU cr ops q s tr vq):Bj (fun j=>q.testBit j) tr s ops.length:=by
 intro i e hi hq he n x hl
 obtain⟨o,e',vc,_,he',_,_,OA,_⟩:=T.one i hi hq
 rw[he]at he'
 simp only[oI]at he'
 subst he'
 obtain⟨p,_,_,_,hf⟩:=gW OA
 exact(hf n x hl).1
theorem RX.path{E:Tag→Nat→Prop}{S:FuncId→List S1→List S1→Prop}(T:RX Γ E S cU cr ops q s tr vq)(K:Xb ops qs B q): ∀(i:Nat),i<ops.length→q.testBit i=true→ ∀o p,ops[i]? =some o→e9 (cY (fun j=>q.testBit j) tr s i) ops o=some p→ ∀e,e∈p→
  ∀k o',q.testBit k=true→ops[k]? =some o'→o'.dst=some e.1→ ∀D:Nat→Prop,(∀i o,D i→ops[i]? =some o→ ∀j,j∈cm o→D j)→(∀j,j∈cm o→D j)→D k:=by
 intro i
 induction i using Nat.strongRecOn with
 |_ i ih=>
  intro hi zy o p ho hg e he k o' IB hok WV D hD hE
  have zx:k<ops.length:=(List.getElem?_eq_some_iff.1 hok).1
  unfold e9 at hg
  split at hg
  ·simp at hg;subst hg;simp at he
  ·rename_i j x hgd
   have Y4:=K.guard i o j x zy ho hgd
   have hji:=K.back i o ho j Y4
   split at hg
   case h_2=>cases hg
   rename_i qj VA
   split at hg
   case h_2=>cases hg
   rename_i d Vt
   have base:e.1=d→D k:=by
    intro hed
    have:j=k:=K.dist k o' j qj d IB hok VA (by rw[WV,hed]) Vt
    rw[←this];exact hE j Y4
   split at hg
   ·simp only[oI]at hg
    subst hg
    simp only[List.mem_singleton]at he
    exact base (by rw[he])
   ·rename_i p' b FY
    simp only[oI]at hg
    subst hg
    rcases List.mem_cons.1 he with h|h
    ·exact base (by rw[h])
    ·by_cases AS:q.testBit j=true
     ·obtain⟨q2,ej,vcj,CQ,hej,Xc,_,OA,_⟩:=T.one j (by omega) AS
      rw[VA]at CQ
      simp only[oI]at CQ
      subst CQ
      rw[Vt]at Xc
      simp only[oI]at Xc
      subst Xc
      have Xd:look (cY (fun j=>q.testBit j) tr s i).sl ej.d=some ej.v:=by
       refine fR hji AS hej fun j' e' h1 h2 h3 h4=> ?_
       obtain⟨q',e2,_,S3,va,hd2,_⟩:=T.one j' (by omega) h2
       rw[h3]at va
       simp only[oI]at va
       subst va
       exact K.dist j _ j' q' ej.d AS VA S3 Vt (by rw[hd2,h4])
      rw[Xd]at FY
      simp only[oI]at FY
      obtain⟨pj,WT,gH,eM,_⟩:=gW OA
      have Z2:pj=p':=by
       by_cases hnil:pj= []
       ·exact absurd FY (gH hnil _ _)
       ·obtain⟨x',hx'⟩:=(eM hnil).1
        rw[hx']at FY
        simp only[SV.cond.injEq]at FY
        exact FY.1
      subst Z2
      exact ih j hji (by omega) AS _ pj VA WT e h k o' IB hok WV D hD (hD j _ (hE j Y4) VA)
     ·
      exfalso
      have Xd:look (cY (fun j=>q.testBit j) tr s i).sl d=look s.sl d:=by
       refine iY fun j' e' h1 h2 h3 h4=> ?_
       obtain⟨q',e2,_,S3,va,hd2,_⟩:=T.one j' (by omega) h2
       rw[h3]at va
       simp only[oI]at va
       subst va
       have:=K.dist j' q' j qj d h2 S3 VA (by rw[hd2,h4]) Vt
       subst this
       exact AS h2
      rw[Xd]at FY
      obtain⟨q2,ek,vck,CQ,hek,Xe,hnm,_,_⟩:=T.one k zx IB
      rw[hok]at CQ
      simp only[oI]at CQ
      subst CQ
      rw[WV]at Xe
      simp only[oI]at Xe
      rw[List.any_eq_false]at hnm
      refine hnm (d, .cond p' (.a (.lit (.bool b)))) (mT (dZ FY)) ?_
      simp only[SV.mentions,List.any_eq_true]
      exact⟨e,h,by rw[Xe];simp⟩
   ·cases hg
theorem IC(C: ∀t,cV P t (Γ t))(T:RX Γ (Fw P ty) (Sound ty P) cU cr ops q s tr vq)(K:Xb ops qs B q)(hv: ∀x,x∈vq→q.testBit x.1=true→x.1<ops.length→ ∀p,p∈x.2→p){zb:cL}{Q:Exit→Act→World→Prop}{D:Nat→Bool}(qh: ∀i,D i=true→q.testBit i=true)(Vu: ∀i,D i=true→i<ops.length)
  (zv: ∀i o,(B.testBit i=true∨D i=true)→ops[i]? =some o→ ∀j,j∈cm o→(B.testBit j=true∨D j=true))
  {i:Nat}(zy:q.testBit i=true)(B3:D i=false){o:Oper}(ho:ops[i]? =some o)(hE: ∀j,j∈cm o→(B.testBit j=true∨D j=true)){a:Act}{w:World}(iv:Inv ty zb (cY D tr s ops.length) a w):
  iC P ops.toArray o a w (fun a' w'=>Inv ty zb (cY (fun j=>D j||j==i) tr s ops.length) a' w') Q:=by
 have hi:i<ops.length:=(List.getElem?_eq_some_iff.1 ho).1
 obtain⟨o',e,vc,ho',he,hd,hnm,hq,Sy⟩:=T.one i hi zy
 rw[ho]at ho'
 simp only[oI]at ho'
 subst ho'
 have hfr:=T.fresh
 have J1: ∀{k},q.testBit k=true→k<ops.length→(B.testBit k=true∨D k=true)→D k=true:=by
  intro k hk zx h
  rcases h with h|h
  ·rw[K.iN k zx hk]at h;cases h
  ·exact h
 have adg: ∀{x},((C0 ops).getD i 0).testBit x=true→(B.testBit x=true∨D x=true):=fun h=>qL (D:=fun j=>B.testBit j=true∨D j=true) K.back zv i o ho hE _ h
 have aal: ∀{x},((C0 ops).getD i 0).testBit x=true→x<i:=fun h=>qL (D:=fun j=>j<i) K.back (fun a b hab hb j hj=>Nat.lt_trans (K.back a b hb j hj) hab) i o ho (fun j hj=>K.back i o ho j hj) _ h
 have hdist: ∀{j e'},j<ops.length→q.testBit j=true→tr[j]? =some e'→ ∃q,ops[j]? =some q∧q.dst=some e'.d:=by
  intro j e' hj VA he'
  obtain⟨q,e2,_,S3,va,hd2,_⟩:=T.one j hj VA
  rw[he']at va
  simp only[oI]at va
  subst va
  exact⟨q,S3,hd2⟩
 have qM: ∀{j j':Nat} {e1 e2:TE},j<ops.length→j'<ops.length→q.testBit j=true→q.testBit j'=true→tr[j]? =some e1→tr[j']? =some e2→e2.d=e1.d→j'=j:=by
  intro j j' e1 e2 h1 h2 g1 g2 h3 h4 h5
  obtain⟨q1,p1,p2⟩:=hdist h1 g1 h3
  obtain⟨q2,p3,p4⟩:=hdist h2 g2 h4
  exact K.dist j q1 j' q2 e1.d g1 p1 p3 p2 (by rw[p4,h5])
 have agree: ∀t,(∀k o',k<ops.length→q.testBit k=true→ops[k]? =some o'→o'.dst=some t→k=i∨(k<i∧D k=true)∨(i<k∧D k=false))→look (cY (fun j=>q.testBit j) tr s i).sl t=look (cY D tr s ops.length).sl t:=by
  intro t ht
  by_cases hex: ∃k e',k<i∧D k=true∧tr[k]? =some e'∧e'.d=t
  ·obtain⟨k,e',hk,kU,he',rfl⟩:=hex
   rw[fR hk (qh k kU) he' fun j' e2 h1 h2 h3 h4=>qM (by omega) (by omega) (qh k kU) h2 he' h3 h4,fR (by omega) kU he' fun j' e2 h1 h2 h3 h4=>qM (by omega) h1 (qh k kU) (qh j' h2) he' h3 h4]
  ·rw[iY (fun k e' hk IB he' hdt=>by
      obtain⟨q',h1,h2⟩:=hdist (by omega) IB he'
      rcases ht k q' (by omega) IB h1 (by rw[h2,hdt])with h|h|h
      ·omega
      ·exact hex ⟨k,e',hk,h.2,he',hdt⟩
      ·omega),
    iY (fun k e' hk kU he' hdt=>by
     obtain⟨q',h1,h2⟩:=hdist hk (qh k kU) he'
     rcases ht k q' hk (qh k kU) h1 (by rw[h2,hdt])with h|h|h
     ·subst h;rw[B3]at kU;cases kU
     ·exact hex ⟨k,e',h.1,h.2,he',hdt⟩
     ·rw[h.2]at kU;cases kU)]
 obtain⟨p,fu,gH,eM,Cb⟩:=gW hq
 have vo: ∀x,x∈p→look (cY (fun j=>q.testBit j) tr s i).sl x.1=look (cY D tr s ops.length).sl x.1:=by
  intro x hx
  refine agree x.1 fun k o2 zx IB Hw hd2=>Or.inr (Or.inl ⟨?_,J1 IB zx ?_⟩)
  ·exact T.path K i hi zy o p ho fu x hx k o2 IB Hw hd2 (fun j=>j<i) (fun a b hab hb j hj=>Nat.lt_trans (K.back a b hb j hj) hab) (fun j hj=>K.back i o ho j hj)
  ·exact T.path K i hi zy o p ho fu x hx k o2 IB Hw hd2 (fun j=>B.testBit j=true∨D j=true) zv hE
 have iO:e9 (cY D tr s ops.length) ops o=some p:=by
  rw[←fu]
  unfold e9
  split
  ·rfl
  ·rename_i j x hgd
   split
   ·rename_i q AS
    split
    ·rename_i d Hu
     have hmem: ∃y,(d,y)∈p:=by
      unfold e9 at fu
      rw[hgd]at fu
      dsimp only at fu
      rw[AS]at fu
      dsimp only at fu
      rw[Hu]at fu
      dsimp only at fu
      split at fu
      ·simp only[oI]at fu;exact⟨x,by rw[←fu];simp⟩
      ·simp only[oI]at fu;exact⟨x,by rw[←fu];simp⟩
      ·cases fu
     obtain⟨y,hy⟩:=hmem
     rw[←vo (d,y) hy]
    ·rfl
   ·rfl
 have hfresh:fresh (cY D tr s ops.length).hp e.os=true:=by
  refine AQ fun n x hl=> ?_
  cases CQ:look (cY D tr s ops.length).hp n with
  |none=>exact⟨rfl,(Cb n x hl).2⟩
  |some y=>
   exfalso
   have hpi:=hfr i e hi zy he n x hl
   rcases gl CQ with h| ⟨j,e',hj,wY,he',h⟩
   ·have:=sr (D:=fun j=>q.testBit j) hfr (fun _ h=>h) (i:=i) (by omega) h
    rw[hpi]at this
    cases this
   ·have hji:j≠i:=by rintro rfl;rw[B3]at wY;cases wY
    by_cases hlt:j<i
    ·have:=su (D:=fun j=>q.testBit j) hfr (fun _ h=>h) (i:=i) (by omega) hlt (qh j wY) he' h
     rw[hpi]at this
     cases this
    ·have h2:=hfr j e' hj (qh j wY) he' n y h
     have:=su (D:=fun j=>q.testBit j) hfr (fun _ h=>h) (i:=j) (by omega) (j:=i) (by omega) zy he hl
     rw[h2]at this
     cases this
 have OB:((cY D tr s ops.length).sl.any fun x=>x.2.mentions e.d)=false:=by
  rw[List.any_eq_false]
  intro x hx hm
  rcases zu hx with h| ⟨j,e',hj,wY,he',rfl⟩
  ·rw[List.any_eq_false]at hnm
   exact hnm x (mT h) hm
  ·obtain⟨qq,e2,Vc,AS,va,hd2,_,OA,_⟩:=T.one j hj (qh j wY)
   rw[he']at va
   simp only[oI]at va
   subst va
   obtain⟨pj,WT,hj0,NR,_⟩:=gW OA
   by_cases hnil:pj= []
   ·cases hx2:e'.v with
    |cond q y=>exact hj0 hnil _ _ hx2
    |one y=>simp[hx2,SV.mentions]at hm
    |td y=>simp[hx2,SV.mentions]at hm
   ·obtain⟨y,hy⟩:=(NR hnil).1
    simp only[hy,SV.mentions,List.any_eq_true]at hm
    obtain⟨z,hz,hzd⟩:=hm
    have hzd:=Nat.eq_of_beq_eq_true hzd
    have h4:=T.path K j hj (qh j wY) qq pj AS WT z hz i o zy ho (by rw[hd,hzd]) (fun j=>B.testBit j=true∨D j=true) zv (zv j qq (Or.inr wY) AS)
    have:=J1 zy hi h4
    rw[B3]at this;cases this
 have hdm:e.v.mentions e.d=false:=by
  by_cases hnil:p= []
  ·cases hx2:e.v with
   |cond q y=>exact absurd hx2 (gH hnil _ _)
   |one y=>rfl
   |td y=>rfl
  ·obtain⟨⟨y,hy⟩,_,hne⟩:=eM hnil
   rw[hy]
   simp only[SV.mentions]
   rw[List.any_eq_false]
   intro z hz hb
   exact hne e.d hd z hz (Nat.eq_of_beq_eq_true hb)
 have hD2: ∀j,(fun j=>D j||j==i) j=true→q.testBit j=true:=by
  intro j hj
  simp only[Bool.or_eq_true,beq_iff_eq]at hj
  rcases hj with h|rfl
  ·exact qh j h
  ·exact zy
 have behind: ∀a' w',Inv ty zb (app (cY D tr s ops.length) e) a' w'→Inv ty zb (cY (fun j=>D j||j==i) tr s ops.length) a' w':=by
  intro a' w' kX
  obtain⟨env,g⟩:=kX.good
  refine⟨by rw[kX.size,mQ];show(cY D tr s ops.length).n=s.n;exact mQ _,kX.defers,kX.kept,kX.yK,env,g.congr ?_ ?_⟩
  ·intro t v hl
   show look ((e.d,e.v)::(cY D tr s ops.length).sl) t=some v
   by_cases ht:t=e.d
   ·subst ht
    rw[fR hi (by simp) he fun j' e2 h1 h2 h3 h4=>qM hi h1 zy (hD2 j' h2) he h3 h4]at hl
    rw[look_eq];exact hl
   ·rw[aY ht]
    by_cases hex: ∃k e',k<ops.length∧D k=true∧tr[k]? =some e'∧e'.d=t
    ·obtain⟨k,e',hk,kU,he',rfl⟩:=hex
     rw[fR hk (by simp[kU]) he' fun j' e2 h1 h2 h3 h4=>qM hk h1 (qh k kU) (hD2 j' h2) he' h3 h4]at hl
     rw[fR hk kU he' fun j' e2 h1 h2 h3 h4=>qM hk h1 (qh k kU) (qh j' h2) he' h3 h4]
     exact hl
    ·rw[iY fun k e' hk kU he' hdt=>by
      simp only[Bool.or_eq_true,beq_iff_eq]at kU
      rcases kU with h|rfl
      ·exact hex ⟨k,e',hk,h,he',hdt⟩
      ·rw[he]at he'
       simp only[oI]at he'
       exact ht (by rw[he',hdt])]at hl
     rw[iY fun k e' hk kU he' hdt=>hex ⟨k,e',hk,kU,he',hdt⟩]
     exact hl
  ·intro n
   show look (cY (fun j=>D j||j==i) tr s ops.length).hp n=look (e.os++(cY D tr s ops.length).hp) n
   cases hl:look e.os n with
   |some x=>
    rw[bS hl]
    exact su hfr hD2 (Nat.le_refl _) hi (by simp) he hl
   |none=>
    rw[bl hl]
    cases hx:look (cY (fun j=>D j||j==i) tr s ops.length).hp n with
    |some y=>
     rcases gl hx with h| ⟨j,e',hj,wY,he',h⟩
     ·exact(sr hfr qh (Nat.le_refl _) h).symm
     ·have hji:j≠i:=by
       rintro rfl
       rw[he]at he'
       simp only[oI]at he'
       subst he'
       rw[hl]at h;cases h
      have wY:D j=true:=by
       simp only[Bool.or_eq_true,beq_iff_eq]at wY
       exact wY.resolve_right hji
      exact(su hfr qh (Nat.le_refl _) hj wY he' h).symm
    |none=>
     cases hy:look (cY D tr s ops.length).hp n with
     |none=>rfl
     |some y=>
      rcases gl hy with h| ⟨j,e',hj,wY,he',h⟩
      ·rw[sr hfr hD2 (Nat.le_refl _) h]at hx;cases hx
      ·rw[su hfr hD2 (Nat.le_refl _) hj (by simp[wY]) he' h]at hx;cases hx
 have hput:St.put ⟨(cY D tr s ops.length).n,(cY D tr s ops.length).sl,e.os++(cY D tr s ops.length).hp⟩ o.dst e.v=app (cY D tr s ops.length) e:=by
  rw[hd]
  simp only[St.put,OB]
  rfl
 by_cases hw:Region.wanted o (yielded ops.toArray a.tmps)=true
 ·have hh:holds a.tmps p:=by
   obtain⟨env,g⟩:=iv.good
   unfold e9 at iO
   split at iO
   ·simp at iO;subst iO;intro y hy;simp at hy
   ·rename_i j x hgd
    split at iO
    ·rename_i q AS
     split at iO
     ·rename_i d Hu
      have WU:=(j0 (ops:=ops.toArray) hgd (by simpa using AS) Hu a.tmps).1 hw
      split at iO
      ·simp only[oI]at iO
       subst iO
       intro y hy
       simp at hy
       subst hy
       exact WU
      ·rename_i p' b hl
       simp only[oI]at iO
       subst iO
       intro y hy
       rcases List.mem_cons.1 hy with rfl|hy
       ·exact WU
       ·exact(rO g hl WU).1 y hy
      ·cases iO
     ·cases iO
    ·cases iO
  obtain⟨env,g⟩:=iv.good
  have Ej:Compat (cY (fun j=>q.testBit j) tr s i).hp (cY D tr s ops.length).hp:=by
   intro n x y h1 h2
   have h3:=xj hfr (Nat.le_of_lt hi) (Nat.le_refl _) h1
   have h4:=qX hfr qh (Nat.le_refl _) h2
   rw[h3]at h4
   simpa using h4
  have hmono:=AP Ej g (by rw[mQ,mQ]) fu iO hh (fun x hx t hxt=>agree t fun k o2 hk IB Hw hd2=>by
    have ht:t∈tmpsOf o:=by
     simp only[tmpsOf,List.mem_filterMap]
     exact⟨x,hx,by rw[hxt]⟩
    rcases K.uses i o zy ho t ht k o2 IB Hw hd2 with h|h|h
    ·exact Or.inl h
    ·exact Or.inr (Or.inl ⟨aal h,J1 IB hk (adg h)⟩)
    ·refine Or.inr (Or.inr ⟨h.1,?_⟩)
     cases kU:D k with
     |false=>rfl
     |true=>
      have:=qL (D:=fun j=>B.testBit j=true∨D j=true) K.back zv k o2 Hw (zv k o2 (Or.inr kU) Hw) i h.2
      have:=J1 zy hi this
      rw[B3]at this;cases this) vo hfresh hq
  have:=An (Q:=Q) C hmono iv (fun p hp=>hv _ Sy zy hi p hp)
  rw[hput]at this
  exact this.mono behind
 ·unfold iC
  rw[if_neg hw]
  have hnil:p≠ []:=by
   rintro rfl
   unfold e9 at fu
   split at fu
   ·rename_i hgd;exact hw (by simp[Region.wanted,hgd])
   ·repeat' split at fu
    all_goals simp at fu
  obtain⟨⟨y,hy⟩,hos,_⟩:=eM hnil
  have hnh: ¬holds a.tmps p:=by
   intro hh
   unfold e9 at fu
   split at fu
   ·rename_i hgd;exact hw (by simp[Region.wanted,hgd])
   ·rename_i j x hgd
    split at fu
    ·rename_i q AS
     split at fu
     ·rename_i d Hu
      have hdx:(d,x)∈p:=by
       split at fu
       ·simp only[oI]at fu;rw[←fu];simp
       ·simp only[oI]at fu;rw[←fu];simp
       ·cases fu
      exact hw ((j0 (ops:=ops.toArray) hgd (by simpa using AS) Hu a.tmps).2 (hh _ hdx))
     ·cases fu
    ·cases fu
  apply behind
  obtain⟨env,g⟩:=iv.good
  have hlt:e.d<a.tmps.size:=by
   unfold kF at hq
   have:qz (cY (fun j=>q.testBit j) tr s i) o.dst=true:=by
    cases WV:qz (cY (fun j=>q.testBit j) tr s i) o.dst with
    |true=>rfl
    |false=>rw[WV]at hq;simp at hq
   rw[hd]at this
   rw[iv.size,mQ]
   have:=Nat.le_of_ble_eq_true this
   rw[show(cY (fun j=>q.testBit j) tr s i).n=s.n from mQ i]at this
   exact this
  have OC:=g.put (d:=e.d) hlt (v:=e.v) (u:=undef) (by rw[hy];exact⟨fun hh=>absurd hh hnh,fun _=>rfl⟩) hdm
  refine⟨by rw[kI];exact iv.size,by rw[put_defers];exact iv.defers,iv.kept,iv.yK,env,?_⟩
  rw[hd]
  have WW:(cY D tr s ops.length).put (some e.d) e.v=app (cY D tr s ops.length) e:=by
   simp only[St.put,OB,app,hos]
   rfl
  rw[WW]at OC
  exact OC
end
theorem vK{ops:List Oper}{B q Gl:Nat}{D:Nat→Bool}(qh: ∀i,D i=true→q.testBit i=true)(Xf: ∀i,D i=true→i<ops.length)(hb: ∀i o,ops[i]? =some o→ ∀j,j∈cm o→j<i)
  (hc: ∀i o,D i=true→ops[i]? =some o→ ∀j,j∈cm o→(B.testBit j=true∨D j=true))(J2: ∀i,q.testBit i=true→Gl.testBit i=true→D i=true):
  ∀(m i d:Nat),i+m=ops.length→(∀j,d.testBit j=(decide (j<i)&&D j))→ ∃d',d'∈Bh ops B q Gl m i d∧ ∀j,d'.testBit j=D j
 |0,i,d,him,hd=>by
  refine⟨d,by simp[Bh],fun j=> ?_⟩
  rw[hd j]
  cases hj:D j with
  |false=>simp
  |true=>have:=Xf j hj;simp;omega
 |m+1,i,d,him,hd=>by
  have hstep:D i=false→ ∀j,d.testBit j=(decide (j<i+1)&&D j):=by
   intro B3 j
   rw[hd j]
   by_cases hji:j=i
   ·subst hji;simp[B3]
   ·have:decide (j<i)=decide (j<i+1):=by
     apply decide_eq_decide.2;omega
    rw[this]
  simp only[Bh]
  split
  ·rename_i hq
   have B3:D i=false:=by
    cases h:D i with
    |false=>rfl
    |true=>rw[qh i h]at hq;cases hq
   exact vK qh Xf hb hc J2 m (i+1) d (by omega) (hstep B3)
  ·rename_i hq
   cases B3:D i with
   |true=>
    have hlt:=Xf i B3
    have ho:=List.getElem?_eq_getElem hlt
    have hcond:(((ops[i]?).map fun o=>(cm o).all fun j=>B.testBit j||d.testBit j).getD false)=true:=by
     rw[ho]
     simp only[Option.map_some,Option.getD_some,List.all_eq_true,Bool.or_eq_true]
     intro j hj
     rcases hc i _ B3 ho j hj with h|h
     ·exact Or.inl h
     ·exact Or.inr (by rw[hd j,h];have:=hb i _ ho j hj;simp[this])
    obtain⟨d',h1,h2⟩:=vK qh Xf hb hc J2 m (i+1) (d|||2^i) (by omega) (fun j=>by
     rw[Nat.testBit_or,Nat.testBit_two_pow,hd j]
     by_cases hji:i=j
     ·subst hji;simp[B3]
     ·have:decide (j<i)=decide (j<i+1):=by
       apply decide_eq_decide.2;omega
      simp[hji,this])
    refine⟨d',?_,h2⟩
    rw[hcond]
    exact List.mem_append_left _ h1
   |false=>
    obtain⟨d',h1,h2⟩:=vK qh Xf hb hc J2 m (i+1) d (by omega) (hstep B3)
    refine⟨d',List.mem_append_right _ ?_,h2⟩
    split
    ·rename_i hm
     have:=J2 i hq hm
     rw[B3]at this;cases this
    ·exact h1
section
variable{P:Program}{Γ:Nat→TK}{cU:List (Nat×Nat)}{cr:List (Nat×CR)}{ks hs:List Nat}{ops:List Oper}{n0 qs:Nat}
theorem mU: ∀{c:gy} {s:St} {tr:List TE} {vq acc:List (Nat×List Prop)} {lv:List (List Prop×St)},jA P ty Γ cU cr ks hs ops n0 c s tr vq acc=some lv→ ∀d t sub,(d,t,sub)∈c.J0→
  ∃o vc s2 l1,ops[t]? =some o∧step P ty Γ cU cr ops (Gj d 0 tr s) o=some (vc,s2)∧jA P ty Γ cU cr ks hs ops n0 sub s2 [] [] (IA t vc (Gk d vq acc))=some l1∧ ∀x,x∈l1→x∈lv
 | .br d0 t0 aan next,s,tr,vq,acc,lv,h,d,t,sub,hm=>by
   simp only[jA]at h
   split at h
   case h_2=>cases h
   rename_i s1 o hs1 ho
   have hs1:=kV hs1
   subst hs1
   split at h
   case h_2=>cases h
   rename_i vc s2 hst
   split at h
   case h_2=>cases h
   rename_i s3 hs3
   have hs3:=kV hs3
   subst hs3
   split at h
   case h_2=>cases h
   rename_i l1 l2 h1 h2
   simp only[oI]at h
   rw[dJ]at h
   subst h
   simp only[gy.J0,List.mem_cons,pI]at hm
   rcases hm with⟨rfl,rfl,rfl⟩|hm
   ·exact⟨o,vc,_,l1,ho,hst,h1,fun x hx=>List.mem_append_left _ hx⟩
   ·obtain⟨o',WR,s',l',p1,p2,p3,p4⟩:=mU h2 d t sub hm
    exact⟨o',WR,s',l',p1,p2,p3,fun x hx=>List.mem_append_right _ (p4 x hx)⟩
 | .last _,_,_,_,_,_,_,_,_,_,hm=>by simp[gy.J0]at hm
 | .ph _ _,_,_,_,_,_,_,_,_,_,hm=>by simp[gy.J0]at hm
 | .nil,_,_,_,_,_,_,_,_,_,hm=>by simp[gy.J0]at hm
theorem nU: ∀{c:gy} {s:St} {tr:List TE} {vq acc:List (Nat×List Prop)} {lv:List (List Prop×St)},jA P ty Γ cU cr ks hs ops n0 c s tr vq acc=some lv→ ∀x,x∈lv→ ∀y,y∈acc→ ∀p,p∈y.2→p∈x.1
 | .last q,s,tr,vq,acc,lv,h,x,hx,y,hy,p,hp=>by
   simp only[jA]at h
   repeat' split at h
   all_goals first
    | (cases h;done)
    |skip
   rename_i hf _ _ _ _
   simp only[oI]at h
   subst h
   rw[List.mem_singleton]at hx
   subst hx
   exact xg hf y (nT.2 (Or.inr hy)) p hp
 | .ph q c,s,tr,vq,acc,lv,h,x,hx,y,hy,p,hp=>by
   simp only[jA]at h
   split at h
   ·exact nU h x hx y hy p hp
   ·cases h
 | .br d0 t0 aan next,s,tr,vq,acc,lv,h,x,hx,y,hy,p,hp=>by
   simp only[jA]at h
   split at h
   case h_2=>cases h
   split at h
   case h_2=>cases h
   split at h
   case h_2=>cases h
   split at h
   case h_2=>cases h
   rename_i l1 l2 h1 h2
   simp only[oI]at h
   rw[dJ]at h
   subst h
   rcases List.mem_append.1 hx with hx|hx
   ·exact nU h1 x hx y (qW.2 (Or.inr (nT.2 (Or.inr hy)))) p hp
   ·exact nU h2 x hx y hy p hp
 | .nil,_,_,_,_,_,h,x,hx,_,_,_,_=>by
   simp only[jA,oI]at h
   subst h
   cases hx
theorem sA{n:Nat}: ∀{c:gy} {B:Nat},ML ops (C0 ops) (idx 0 ops) qs n B c=true→ ∀d t sub,(d,t,sub)∈c.J0→sub.O4=true∧t<n∧ML ops (C0 ops) (idx 0 ops) qs n (B|||d|||2^t) sub=true∧SizeOf.sizeOf sub<SizeOf.sizeOf c
 | .br d0 t0 aan next,B,h,d,t,sub,hm=>by
   simp only[ML,Bool.and_eq_true]at h
   simp only[gy.J0,List.mem_cons,pI]at hm
   rcases hm with⟨rfl,rfl,rfl⟩|hm
   ·exact⟨h.1.1.1,Nat.le_of_ble_eq_true h.1.1.2,h.1.2,by simp only[gy.br.sizeOf_spec];omega⟩
   ·obtain⟨p1,p2,p3,p4⟩:=sA h.2 d t sub hm
    exact⟨p1,p2,p3,by simp only[gy.br.sizeOf_spec];omega⟩
 | .last _,_,_,_,_,_,hm=>by simp[gy.J0]at hm
 | .ph _ _,_,_,_,_,_,hm=>by simp[gy.J0]at hm
 | .nil,_,_,_,_,_,hm=>by simp[gy.J0]at hm
theorem Da{B q:Nat}{c:gy}(h:Eu ops (C0 ops) ops.length B q c=true)(K:Xb ops qs B q){D:Nat→Bool}(qh: ∀i,D i=true→q.testBit i=true)(Xf: ∀i,D i=true→i<ops.length)
  (zv: ∀i o,(B.testBit i=true∨D i=true)→ops[i]? =some o→ ∀j,j∈cm o→(B.testBit j=true∨D j=true)){t:Nat}{o:Oper}(ho:ops[t]? =some o)(ht:B.testBit t=false)(hqt:q.testBit t=false)(hE: ∀j,j∈cm o→(B.testBit j=true∨D j=true)):
  ∃d sub,(d,t,sub)∈c.J0∧ ∀i,d.testBit i=D i:=by
 have htl:t<ops.length:=(List.getElem?_eq_some_iff.1 ho).1
 simp only[Eu,List.all_eq_true,List.mem_range,Bool.or_eq_true]at h
 obtain⟨d,h1,h2⟩:=vK (B:=B) (q:=q) (Gl:=(C0 ops).getD t 0) qh Xf K.back (fun i o hi=>zv i o (Or.inr hi)) (fun i zy hm=>by
  have:=qL (D:=fun j=>B.testBit j=true∨D j=true) K.back zv t o ho hE i hm
  rcases this with h|h
  ·have hil:i<ops.length:=by
    have:=qL (D:=fun j=>j<t) K.back (fun a b hab hb j hj=>Nat.lt_trans (K.back a b hb j hj) hab) t o ho (fun j hj=>K.back t o ho j hj) _ hm
    omega
   rw[K.iN i hil zy]at h;cases h
  ·exact h) ops.length 0 0 (by omega) (fun j=>by simp)
 rcases h t htl with(h3|h3)|h3
 ·rw[ht]at h3;cases h3
 ·rw[hqt]at h3;cases h3
 ·have h4:=h3 d h1
  simp only[Bool.not_eq_true',List.any_eq_true,Bool.and_eq_true]at h4
  rcases h4 with h4| ⟨⟨d',t',sub⟩,h5,h6,h7⟩
  ·exfalso
   rw[ho]at h4
   simp only[Option.map_some,Option.getD_some]at h4
   have:((cm o).all fun j=>B.testBit j||d.testBit j)=true:=by
    rw[List.all_eq_true]
    intro j hj
    rw[Bool.or_eq_true,h2 j]
    exact hE j hj
   rw[this]at h4;cases h4
  ·have h6:=Nat.eq_of_beq_eq_true h6
   have h7:=Nat.eq_of_beq_eq_true h7
   simp only at h6 h7
   subst h6;subst h7
   exact⟨d',sub,h5,h2⟩
theorem J3{B q:Nat}{c:gy}(adh:Eu ops (C0 ops) ops.length B q c=true)(K:Xb ops qs B q)(Gm: ∀i o,B.testBit i=true→ops[i]? =some o→ ∀j,j∈cm o→B.testBit j=true)
  (OA: ∀i o,q.testBit i=true→ops[i]? =some o→ ∀j,j∈cm o→(B.testBit j=true∨q.testBit j=true))(hnot:((List.range ops.length).all fun i=>B.testBit i||q.testBit i)=false):
  ∃d t sub,(d,t,sub)∈c.J0∧(∀i,d.testBit i=(q.testBit i&&decide (i<ops.length)))∧ ∀o,ops[t]? =some o→ ∀j,j∈cm o→(B.testBit j=true∨d.testBit j=true):=by
 have: ∃i,i<ops.length∧B.testBit i=false∧q.testBit i=false∧ ∀j,j<i→B.testBit j=true∨q.testBit j=true:=by
  rw[List.all_eq_false]at hnot
  obtain⟨i,hi,hn⟩:=hnot
  rw[List.mem_range]at hi
  simp only[Bool.or_eq_true,not_or,Bool.not_eq_true]at hn
  induction i using Nat.strongRecOn with
  |_ i ih=>
   by_cases hl: ∀j,j<i→B.testBit j=true∨q.testBit j=true
   ·exact⟨i,hi,hn.1,hn.2,hl⟩
   ·have: ∃j,j<i∧B.testBit j=false∧q.testBit j=false:=by
     apply Classical.byContradiction
     intro hno
     apply hl
     intro j hj
     cases hb:B.testBit j with
     |true=>exact Or.inl rfl
     |false=>
      cases hq:q.testBit j with
      |true=>exact Or.inr rfl
      |false=>exact absurd ⟨j,hj,hb,hq⟩ hno
    obtain⟨j,hj,h1,h2⟩:=this
    exact ih j hj (by omega) ⟨h1,h2⟩
 obtain⟨i,hi,h1,h2,h3⟩:=this
 have ho:=List.getElem?_eq_getElem hi
 obtain⟨d,sub,h4,h5⟩:=Da (D:=fun j=>q.testBit j&&decide (j<ops.length)) adh K (fun j hj=>by simp at hj;exact hj.1) (fun j hj=>by simp at hj;exact hj.2)
  (fun a b hab hb j hj=>by
   have hal:a<ops.length:=(List.getElem?_eq_some_iff.1 hb).1
   have hjl:j<ops.length:=Nat.lt_trans (K.back a b hb j hj) hal
   rcases hab with h|h
   ·exact Or.inl (Gm a b h hb j hj)
   ·simp at h
    rcases OA a b h.1 hb j hj with h|h
    ·exact Or.inl h
    ·exact Or.inr (by simp[h,hjl])) ho h1 h2 (fun j hj=>by
   have hji:=K.back i _ ho j hj
   rcases h3 j hji with h|h
   ·exact Or.inl h
   ·exact Or.inr (by simp[h];omega))
 refine⟨d,i,sub,h4,h5,fun o ho' j hj=> ?_⟩
 have hji:=K.back i _ ho' j hj
 rcases h3 j hji with h|h
 ·exact Or.inl h
 ·exact Or.inr (by rw[h5 j,h];simp;omega)
theorem Ex{B d t q:Nat}(K:Xb ops qs B q)(Gm: ∀i o,B.testBit i=true→ops[i]? =some o→ ∀j,j∈cm o→B.testBit j=true)(hd: ∀i o,d.testBit i=true→ops[i]? =some o→ ∀j,j∈cm o→(B.testBit j=true∨d.testBit j=true))
  (ht: ∀o,ops[t]? =some o→ ∀j,j∈cm o→(B.testBit j=true∨d.testBit j=true)): ∀i o,(B|||d|||2^t).testBit i=true→ops[i]? =some o→ ∀j,j∈cm o→(B|||d|||2^t).testBit j=true:=by
 intro i o hi ho j hj
 simp only[Nat.testBit_or,Nat.testBit_two_pow,Bool.or_eq_true,decide_eq_true_eq]at hi ⊢
 rcases hi with(h|h)|h
 ·exact Or.inl (Or.inl (Gm i o h ho j hj))
 ·exact Or.inl (hd i o h ho j hj)
 ·subst h;exact Or.inl (ht o ho j hj)
theorem Bk: ∀(N:Nat) (p:gy),SizeOf.sizeOf p≤N→p.O4=true→ ∀(B:Nat) (s:St) (tr:List TE) (vq acc:List (Nat×List Prop)) (lv:List (List Prop×St)),(∀i o,ops[i]? =some o→ ∀j,j∈cm o→j<i)→(∀i o,B.testBit i=true→ops[i]? =some o→ ∀j,j∈cm o→B.testBit j=true)→
  ML ops (C0 ops) (idx 0 ops) qs ops.length B p=true→jA P ty Γ cU cr ks hs ops n0 p s tr vq acc=some lv→lv≠ []
 |N, .last q,_,_,B,s,tr,vq,acc,lv,hb,Gm,hok,h=>by
  simp only[jA]at h
  repeat' split at h
  all_goals first
   | (cases h;done)
   |skip
  simp only[oI]at h
  rw[←h];simp
 |0, .ph q c,hN,_,_,_,_,_,_,_,_,_,_,_=>by simp only[gy.ph.sizeOf_spec]at hN;omega
 |N+1, .ph q c,hN,_,B,s,tr,vq,acc,lv,hb,Gm,hok,h=>by
  simp only[ML,Bool.and_eq_true,Bool.not_eq_true']at hok
  have K:=Ew hb hok.1.1.1
  obtain⟨d,t,sub,hm,hd,ht⟩:=J3 hok.1.1.2 K Gm K.clq hok.1.2
  simp only[jA]at h
  split at h
  case h_2=>cases h
  rename_i tr' vq' hr
  obtain⟨o,vc,s2,l1,h1,h2,h3,h4⟩:=mU h d t sub hm
  obtain⟨p1,p2,p3,p4⟩:=sA hok.2 d t sub hm
  have hsz:SizeOf.sizeOf sub≤N:=by simp only[gy.ph.sizeOf_spec]at hN;omega
  have:=Bk N sub hsz p1 (B|||d|||2^t) s2 [] [] _ l1 hb (Ex K Gm (fun i o hi ho j hj=>by
   rw[hd i]at hi
   simp only[Bool.and_eq_true,decide_eq_true_eq]at hi
   rcases K.clq i o hi.1 ho j hj with h|h
   ·exact Or.inl h
   ·exact Or.inr (by rw[hd j,h];have:=K.back i o ho j hj;simp;omega)) ht) p3 h3
  intro hnil
  cases l1 with
  |nil=>exact this rfl
  |cons x r=>have:=h4 x (by simp);rw[hnil]at this;cases this
 |_, .br _ _ _ _,_,hp,_,_,_,_,_,_,_,_,_,_=>by cases hp
 |_, .nil,_,hp,_,_,_,_,_,_,_,_,_,_=>by cases hp
variable{zb:cL}{Q:Exit→Act→World→Prop}
theorem Db(X:Ctx P ty Γ){B q:Nat}{s:St}{tr:List TE}{vq:List (Nat×List Prop)}(T:RX Γ (Fw P ty) (Sound ty P) cU cr ops q s tr vq)(K:Xb ops qs B q)(hv: ∀x,x∈vq→q.testBit x.1=true→x.1<ops.length→ ∀p,p∈x.2→p)(Gm: ∀i o,B.testBit i=true→ops[i]? =some o→ ∀j,j∈cm o→B.testBit j=true)
  (fin: ∀a w,(∀i,i<ops.length→B.testBit i=true∨q.testBit i=true)→Inv ty zb (cY (fun j=>q.testBit j) tr s ops.length) a w→Q .normal a w)
  (gU: ∀(fuel:Nat) (D:Nat→Bool) (listed:Array Bool) (i:Nat) (o:Oper) (a:Act) (w:World),listed.size=ops.length→(∀j,j<ops.length→listed.getD j false=(B.testBit j||D j))→(∀i,D i=true→q.testBit i=true)→(∀i,D i=true→i<ops.length)→
   (∀i o,(B.testBit i=true∨D i=true)→ops[i]? =some o→ ∀j,j∈cm o→(B.testBit j=true∨D j=true))→ops[i]? =some o→B.testBit i=false→q.testBit i=false→(∀j,j∈cm o→(B.testBit j=true∨D j=true))→cnt ops.length (fun j=>(listed.setIfInBounds i true).getD j false)≤fuel→
   Inv ty zb (cY D tr s ops.length) a w→iC P ops.toArray o a w (wpAny P .any ops.toArray Q fuel (listed.setIfInBounds i true)) Q):
  ∀(fuel:Nat) (D:Nat→Bool) (listed:Array Bool) (a:Act) (w:World),listed.size=ops.length→(∀j,j<ops.length→listed.getD j false=(B.testBit j||D j))→(∀i,D i=true→q.testBit i=true)→(∀i,D i=true→i<ops.length)→
   (∀i o,(B.testBit i=true∨D i=true)→ops[i]? =some o→ ∀j,j∈cm o→(B.testBit j=true∨D j=true))→cnt ops.length (fun j=>listed.getD j false)≤fuel→Inv ty zb (cY D tr s ops.length) a w→wpAny P .any ops.toArray Q fuel listed a w:=by
 have all: ∀{D:Nat→Bool} {listed:Array Bool} {a:Act} {w:World},listed.size=ops.length→(∀j,j<ops.length→listed.getD j false=(B.testBit j||D j))→(∀i,D i=true→q.testBit i=true)→Region.ready .any ops.toArray listed= []→Inv ty zb (cY D tr s ops.length) a w→Q .normal a w:=by
  intro D listed a w hl hL qh hnil iv
  have LF: ∀i,i<ops.length→listed.getD i false=true:=by
   intro i
   induction i using Nat.strongRecOn with
   |_ i ih=>
    intro hi
    cases hd:listed.getD i false with
    |true=>rfl
    |false=>
     have:i∈Region.ready .any ops.toArray listed:=(jz hl).2 ⟨ops[i],List.getElem?_eq_getElem hi,hd,fun j hj=>by
      have:=K.back i _ (List.getElem?_eq_getElem hi) j hj
      exact ih j this (by omega)⟩
     rw[hnil]at this
     cases this
  have hBD: ∀i,i<ops.length→B.testBit i=true∨D i=true:=by
   intro i hi
   have:=LF i hi
   rw[hL i hi,Bool.or_eq_true]at this
   exact this
  refine fin a w (fun i hi=>(hBD i hi).imp id (qh i)) ?_
  rw[←xh (D:=D) fun i hi=> ?_]
  ·exact iv
  ·cases hq:q.testBit i with
   |false=>
    cases hd:D i with
    |false=>rfl
    |true=>rw[qh i hd]at hq;cases hq
   |true=>
    rcases hBD i hi with h|h
    ·rw[K.iN i hi hq]at h;cases h
    ·exact h
 intro fuel
 induction fuel with
 |zero=>
  intro D listed a w hl hL qh Vu zv hf iv
  have hz:=F5 (by omega:cnt ops.length (fun i=>listed.getD i false)=0)
  have hnil:Region.ready .any ops.toArray listed= []:=by
   apply List.eq_nil_iff_forall_not_mem.2
   intro i hi
   obtain⟨o,ho,h1,_⟩:=(jz hl).1 hi
   rw[hz i (List.getElem?_eq_some_iff.1 ho).1]at h1
   cases h1
  exact⟨hnil,all hl hL qh hnil iv⟩
 |succ fuel ih=>
  intro D listed a w hl hL qh Vu zv hf iv
  refine⟨fun hnil=>all hl hL qh hnil iv,fun i hi=> ?_⟩
  obtain⟨o,ho,hif,hE0⟩:=(jz hl).1 hi
  have hin:=(List.getElem?_eq_some_iff.1 ho).1
  have hE: ∀j,j∈cm o→(B.testBit j=true∨D j=true):=by
   intro j hj
   have:=hE0 j hj
   rw[hL j (by have:=K.back i o ho j hj;omega),Bool.or_eq_true]at this
   exact this
  rw[hL i hin,Bool.or_eq_false_iff]at hif
  obtain⟨Y8,B3⟩:=hif
  have Ea: ∀j,(listed.setIfInBounds i true).getD j false=(listed.getD j false||j==i):=fun j=>vp (by omega)
  have hfun:(fun j=>(listed.setIfInBounds i true).getD j false)=fun j=>listed.getD j false||j==i:=funext Ea
  have TD:cnt ops.length (fun j=>(listed.setIfInBounds i true).getD j false)≤fuel:=by
   rw[hfun]
   have:=JV (D:=fun i=>listed.getD i false) hin (by rw[hL i hin,Y8,B3];rfl)
   omega
  unfold wpOp
  rw[List.getElem?_toArray,ho]
  dsimp only
  cases zy:q.testBit i with
  |true=>
   have hstep:=IC (Q:=Q) X.kind T K hv qh Vu zv zy B3 ho hE iv
   refine iC.mono (fun a' w' kX=>ih (fun j=>D j||j==i) (listed.setIfInBounds i true) a' w' (by simpa using hl) (fun j hj=> ?_) (fun j hj=> ?_) (fun j hj=> ?_) (fun a b hab hb j hj=> ?_) TD kX) hstep
   ·rw[Ea,hL j hj,Bool.or_assoc]
   ·simp only[Bool.or_eq_true,beq_iff_eq]at hj
    rcases hj with h|rfl
    ·exact qh j h
    ·exact zy
   ·simp only[Bool.or_eq_true,beq_iff_eq]at hj
    rcases hj with h|rfl
    ·exact Vu j h
    ·exact hin
   ·have up: ∀{x},(B.testBit x=true∨D x=true)→(B.testBit x=true∨(D x||x==i)=true):=fun h=>h.imp id (fun h=>by simp[h])
    simp only[Bool.or_eq_true,beq_iff_eq]at hab
    rcases hab with h|h|rfl
    ·exact up (zv a b (Or.inl h) hb j hj)
    ·exact up (zv a b (Or.inr h) hb j hj)
    ·rw[ho]at hb
     simp only[oI]at hb
     subst hb
     exact up (hE j hj)
  |false=>exact gU fuel D listed i o a w hl hL qh Vu zv ho Y8 zy hE TD iv
theorem Gn(X:Ctx P ty Γ)(hb: ∀i o,ops[i]? =some o→ ∀j,j∈cm o→j<i): ∀(N:Nat) (p:gy),SizeOf.sizeOf p≤N→p.O4=true→ ∀(B:Nat) (s:St) (tr0:List TE) (vq0 acc:List (Nat×List Prop)) (lv:List (List Prop×St)),
  (∀i o,B.testBit i=true→ops[i]? =some o→ ∀j,j∈cm o→B.testBit j=true)→ML ops (C0 ops) (idx 0 ops) qs ops.length B p=true→jA P ty Γ cU cr ks hs ops n0 p s tr0 vq0 acc=some lv→
  (∀x,x∈lv→(∀q,q∈x.1→q)∧ ∀a w,Inv ty zb x.2 a w→Q .normal a w)→
  ∀(fuel:Nat) (listed:Array Bool) (a:Act) (w:World),listed.size=ops.length→(∀j,j<ops.length→listed.getD j false=B.testBit j)→cnt ops.length (fun j=>listed.getD j false)≤fuel→Inv ty zb s a w→wpAny P .any ops.toArray Q fuel listed a w
 |N, .last q,hN,_,B,s,tr0,vq0,acc,lv,Gm,hok,h,hlv,fuel,listed,a,w,hl,hL,hf,iv=>by
  simp only[ML,Bool.and_eq_true]at hok
  have K:=Ew hb hok.1
  simp only[jA]at h
  split at h
  case h_2=>cases h
  rename_i tr vq hr
  split at h
  case h_2=>cases h
  rename_i n sl1 eM hs1
  have hs1:=kV hs1
  split at h
  case h_2=>cases h
  rename_i sl hp vc h1 h2 h3
  split at h
  case h_2=>cases h
  rename_i pX hn
  simp only[oI]at h
  have T:=RX.of hr
  obtain⟨hx1,hx2⟩:=hlv (vc,⟨n0,sl,hp⟩) (by rw[←h];simp)
  have hmk:cY (fun j=>q.testBit j) tr s ops.length=⟨n,sl1,eM⟩:=by
   rw[hs1,vJ,T.len]
   congr 1
   funext j;rw[Nat.zero_add]
  refine Db X T K (fun x hx hq _ p hp=>hx1 p (xg h3 x (nT.2 (Or.inl ⟨hx,hq⟩)) p hp)) Gm (fun a w _ kX=> ?_) (fun fuel D listed i o a w _ _ _ _ _ ho Y8 zy _ _ _=> ?_) fuel (fun _=>false) listed a w hl (fun j hj=>by rw[hL j hj,Bool.or_false]) (by simp) (by simp) (fun i o hi ho j hj=>by
    rcases hi with h|h
    ·exact Or.inl (Gm i o h ho j hj)
    ·cases h) hf (by rw[Bi];exact iv)
  ·rw[hmk]at kX
   exact hx2 a w (kX.weaken (Nat.eq_of_beq_eq_true hn).symm (lS h1) (lT h2) pX)
  ·exfalso
   have hil:=(List.getElem?_eq_some_iff.1 ho).1
   have:=List.all_eq_true.1 hok.2 i (List.mem_range.2 hil)
   rw[Y8,zy]at this;cases this
 |0, .ph q c,hN,_,_,_,_,_,_,_,_,_,_,_,_,_,_,_,_,_,_,_=>by simp only[gy.ph.sizeOf_spec]at hN;omega
 |N+1, .ph q c,hN,_,B,s,tr0,vq0,acc,lv,Gm,hok,h,hlv,fuel,listed,a,w,hl,hL,hf,iv=>by
  simp only[ML,Bool.and_eq_true,Bool.not_eq_true']at hok
  have K:=Ew hb hok.1.1.1
  obtain⟨d,t,sub,hm,hd,ht⟩:=J3 hok.1.1.2 K Gm K.clq hok.1.2
  simp only[jA]at h
  split at h
  case h_2=>cases h
  rename_i tr vq hr
  have T:=RX.of hr
  have hv: ∀x,x∈vq→q.testBit x.1=true→x.1<ops.length→ ∀p,p∈x.2→p:=by
   obtain⟨o,vc,s2,l1,h1,h2,h3,h4⟩:=mU h d t sub hm
   obtain⟨p1,p2,p3,p4⟩:=sA hok.2 d t sub hm
   have hsz:SizeOf.sizeOf sub≤N:=by simp only[gy.ph.sizeOf_spec]at hN;omega
   have hne:=Bk N sub hsz p1 (B|||d|||2^t) s2 [] [] _ l1 hb (Ex K Gm (fun i o hi ho j hj=>by
    rw[hd i]at hi
    simp only[Bool.and_eq_true,decide_eq_true_eq]at hi
    rcases K.clq i o hi.1 ho j hj with h|h
    ·exact Or.inl h
    ·exact Or.inr (by rw[hd j,h];have:=K.back i o ho j hj;simp;omega)) ht) p3 h3
   cases l1 with
   |nil=>exact absurd rfl hne
   |cons x r=>
    intro y hy hq hyl p hp
    exact(hlv x (h4 x (by simp))).1 p (nU h3 x (by simp) y (qW.2 (Or.inr (nT.2 (Or.inl ⟨hy,by rw[hd y.1,hq];simp[hyl]⟩)))) p hp)
  refine Db X T K hv Gm (fun a w hall _=> ?_) (fun fuel D listed i o a w hl hL qh Vu zv ho Y8 zy hE TD kX=> ?_) fuel (fun _=>false) listed a w hl (fun j hj=>by rw[hL j hj,Bool.or_false]) (by simp) (by simp) (fun i o hi ho j hj=>by
    rcases hi with h|h
    ·exact Or.inl (Gm i o h ho j hj)
    ·cases h) hf (by rw[Bi];exact iv)
  ·exfalso
   have:((List.range ops.length).all fun i=>B.testBit i||q.testBit i)=true:=by
    rw[List.all_eq_true]
    intro i hi
    rw[Bool.or_eq_true]
    exact hall i (List.mem_range.1 hi)
   rw[hok.1.2]at this;cases this
  ·obtain⟨d,sub,hm,hd⟩:=Da hok.1.1.2 K qh Vu zv ho Y8 zy hE
   obtain⟨o',vc,s2,l1,h1,h2,h3,h4⟩:=mU h d i sub hm
   rw[ho]at h1
   simp only[oI]at h1
   subst h1
   obtain⟨p1,p2,p3,p4⟩:=sA hok.2 d i sub hm
   have hsz:SizeOf.sizeOf sub≤N:=by simp only[gy.ph.sizeOf_spec]at hN;omega
   have hmk:Gj d 0 tr s=cY D tr s ops.length:=by
    rw[vJ,T.len]
    exact xh fun j _=>by rw[Nat.zero_add];exact hd j
   rw[hmk]at h2
   have aao:=Ex (d:=d) (t:=i) K Gm (fun i o hi ho j hj=>by
    rw[hd i]at hi
    rw[hd j]
    exact zv i o (Or.inr hi) ho j hj) (fun o2 Hw j hj=>by
    rw[ho]at Hw
    simp only[oI]at Hw
    subst Hw
    rw[hd j]
    exact hE j hj)
   have hne:=Bk N sub hsz p1 (B|||d|||2^i) s2 [] [] _ l1 hb aao p3 h3
   have Sy: ∀p,p∈vc→p:=by
    cases l1 with
    |nil=>exact absurd rfl hne
    |cons x r=>
     intro p hp
     exact(hlv x (h4 x (by simp))).1 p (nU h3 x (by simp) (i,vc) (qW.2 (Or.inl rfl)) p hp)
   have hstep:=rU (Q:=Q) X.kind X.one h2 kX Sy
   refine iC.mono (fun a' w' iv2=>Gn X hb N sub hsz p1 (B|||d|||2^i) s2 [] [] _ l1 aao p3 h3 (fun x hx=>hlv x (h4 x hx)) fuel (listed.setIfInBounds i true) a' w' (by simpa using hl) (fun j hj=> ?_) TD iv2) hstep
   have hin:=(List.getElem?_eq_some_iff.1 ho).1
   rw[vp (by omega),hL j hj]
   simp only[Nat.testBit_or,Nat.testBit_two_pow,hd j]
   by_cases hji:j=i
   ·subst hji;simp
   ·have: ¬i=j:=fun e=>hji e.symm
    simp[hji,this]
 |_, .br _ _ _ _,_,hp,_,_,_,_,_,_,_,_,_,_,_,_,_,_,_,_,_,_=>by cases hp
 |_, .nil,_,hp,_,_,_,_,_,_,_,_,_,_,_,_,_,_,_,_,_,_=>by cases hp
end
def Dc(x:List Prop×St):List (List Prop×St)→Prop
 | []=>True
 |y::r=>y=x∧Dc x r
theorem Dc.out{x:List Prop×St}: ∀{l:List (List Prop×St)},Dc x l→ ∀y,y∈l→y=x
 |_::_,h,y,hy=>by
  rcases List.mem_cons.1 hy with rfl|hy
  ·exact h.1
  ·exact Dc.out h.2 y hy
section
variable{P:Program}{Γ:Nat→TK}{zb:cL}{Q:Post}{st:St}
theorem O5(X:Ctx P ty Γ)(cU:List (Nat×Nat))(cr:List (Nat×CR))(ks hs:List Nat)(qs:Nat)(pl:gy){id:Nat}{ops:List Oper}{vc:List Prop}{st':St}{rest:List (List Prop×St)}(hm:P.follows .mixedOrders=true)(hc:TB ops qs pl=true)(h:jA P ty Γ cU cr ks hs ops st.n pl st [] [] []=some ((vc,st')::rest))(he:Dc (vc,st') rest)(hv:kW vc)(k:Q .normal st'):
  W P ty zb (.region id ops.toArray true) Q st:=by
 intro a w iv
 simp only[TB,Bool.and_eq_true]at hc
 have hb:=aaj hc.1.1
 refine wp_region_any hm ?_
 have hz: ∀i,(Array.replicate ops.toArray.size false).getD i false=false:=by
  intro i
  rw[Array.getD_eq_getD_getElem?,Array.getElem?_replicate]
  split<;>rfl
 refine Gn (zb:=zb) (Q:=SZ ty zb Q) X hb _ pl (Nat.le_refl _) hc.1.2 0 st [] [] [] _ (fun i o hi=>by simp at hi) hc.2 h (fun x hx=> ?_) _ _ a _ (by simp) (fun j hj=>by rw[hz];simp) ?_ ?_
 ·have hx:x=(vc,st'):=by
   rcases List.mem_cons.1 hx with rfl|hx
   ·rfl
   ·exact he.out x hx
  subst hx
  exact⟨hv.out,fun a w kX=>⟨st',kX,k⟩⟩
 ·unfold cnt
  refine Nat.le_trans (List.length_filter_le _ _) ?_
  simp
 ·obtain⟨env,g⟩:=iv.good
  have Y6:Below w.heap.size w w.drew:=(Below.refl _ _).drew
  refine⟨iv.size,iv.defers,iv.kept.trans (jY Y6 iv.kept.size),iv.yK,env,?_⟩
  have:=g.grow (os:= []) (w':=w.drew) (env':=env) iv.kept.size rfl (jZ.none Y6)
  exact this
end
section
variable{P:Program}{Γ:Nat→TK}{zb:cL}{Q:Post}{st:St}
theorem O6(X:Ctx P ty Γ)(cU:List (Nat×Nat))(cr:List (Nat×CR))(ks hs:List Nat)(qs:Nat)(pl:gy)(nw:Nat){id:Nat}{ops:List Oper}{vc:List Prop}{st':St}(hm:P.follows .mixedOrders=true)(hc:TB ops qs pl=true)(_h0:G.RU P ty Γ cU cr ks hs ops st=some (vc,st'))(h:jA P ty Γ cU cr ks hs ops st.n pl st [] [] []=some ((vc,st')::List.replicate nw (vc,st')))(hv:kW vc)(k:Q .normal st'):
  W P ty zb (.region id ops.toArray true) Q st:=by
 refine O5 X cU cr ks hs qs pl hm hc h ?_ hv k
 have: ∀n,Dc (vc,st') (List.replicate n (vc,st')):=by
  intro n
  induction n with
  |zero=>trivial
  |succ n ih=>exact⟨rfl,ih⟩
 exact this nw
def hasB(B:Nat)(es:List Nat):Bool:=es.all fun j=>B.testBit j
def mkQ(B qs:Nat):List (Nat×List Nat)→Nat→Nat
 | [],q=>q
 | (i,es)::r,q=>match !B.testBit i&&qs.testBit i&&hasB (B|||q) es with
   |true=>mkQ B qs r (q|||2^i)
   |false=>mkQ B qs r q
def enD(B q clt:Nat):List (Nat×List Nat)→Nat→List Nat
 | [],d=> [d]
 | (i,es)::r,d=>match q.testBit i with
   |false=>enD B q clt r d
   |true=>(match hasB (B|||d) es with|true=>enD B q clt r (d|||2^i)|false=> [])++(match clt.testBit i with|true=> []|false=>enD B q clt r d)
def mkB(f:Nat→gy)(B q:Nat)(E:List (Nat×List Nat))(cl:List Nat):List (Nat×List Nat)→gy
 | []=> .nil
 | (t,es)::r=>match(B|||q).testBit t with
   |true=>mkB f B q E cl r
   |false=>((enD B q (cl.getD t 0) E 0).filter fun d=>hasB (B|||d) es).foldr (fun d p=> .br d t (f (B|||d|||2^t)) p) (mkB f B q E cl r)
def mkP(E:List (Nat×List Nat))(cl:List Nat)(qs full:Nat):Nat→Nat→gy
 |0,_=> .nil
 |k+1,B=>match mkQ B qs E 0 with
  |q=>match Nat.beq (B|||q) full with
   |true=> .last q
   |false=> .ph q (mkB (mkP E cl qs full k) B q E cl E)
def ID(ops:List Oper)(qs:Nat):gy:=mkP ((idx 0 ops).map fun e=>(e.1,cm e.2)) (C0 ops) qs (2^ops.length-1) (ops.length+1) 0
theorem bM(X:Ctx P ty Γ)(cU:List (Nat×Nat))(cr:List (Nat×CR))(ks hs:List Nat)(qs:Nat)(nw:Nat){id:Nat}{ops:List Oper}{vc:List Prop}{st':St}(hm:P.follows .mixedOrders=true)(hc:TB ops qs (ID ops qs)=true)(h0:G.RU P ty Γ cU cr ks hs ops st=some (vc,st'))(h:jA P ty Γ cU cr ks hs ops st.n (ID ops qs) st [] [] []=some ((vc,st')::List.replicate nw (vc,st')))(hv:kW vc)(k:Q .normal st'):
  W P ty zb (.region id ops.toArray true) Q st:=O6 X cU cr ks hs qs (ID ops qs) nw hm hc h0 h hv k
end
end
section
variable{ty:Tag→Nat}
def GB(st:St)(n i:Nat):Option St:=match look st.hp n with
 |some (.box c)=>match uC c i with
  |some (.own m)=>match look st.hp m with
   |some (.arr t l)=>match WK ((n, .box (c.set i (.vw m none t l)))::st.hp.filter fun e=> !Nat.beq e.1 n)with
    |some hp=>some ⟨st.n,st.sl,hp⟩
    |none=>none
   |_=>none
  |_=>none
 |_=>none
theorem jP{α:Type}{hp:List (Nat×α)}{n m:Nat}(h:m≠n):look (hp.filter fun e=> !Nat.beq e.1 n) m=look hp m:=by
 induction hp with
 |nil=>rfl
 |cons e r ih=>
  obtain⟨j,x⟩:=e
  by_cases hj:j=n
  ·subst hj
   rw[List.filter_cons_of_neg (by simp),ih,aY h]
  ·have:Nat.beq j n=false:=by
    cases hb:Nat.beq j n with
    |false=>rfl
    |true=>exact absurd (Nat.eq_of_beq_eq_true hb) hj
   rw[List.filter_cons_of_pos (by simp[this])]
   by_cases hm:m=j
   ·subst hm;rw[look_eq,look_eq]
   ·rw[aY hm,aY hm,ih]
theorem bH.set{α β:Type}{R:α→β→Prop}: ∀{as:List α} {bs:List β} {i:Nat} {x:α},bH R as bs→(∀y,bs[i]? =some y→R x y)→bH R (as.set i x) bs
 | [],[],_,_,_,_=>trivial
 |a::as,b::bs,0,x,h,hx=>⟨hx b rfl,h.2⟩
 |a::as,b::bs,i+1,x,h,hx=>⟨h.1,bH.set h.2 (fun y hy=>hx y (by simpa using hy))⟩
 | [],_::_,_,_,h,_=>h.elim
 |_::_,[],_,_,h,_=>h.elim
section
variable{P:Program}{zb:cL}{st st':St}{Q:Post}
theorem Inv.GB{a:Act}{w:World}(n i:Nat)(h:G.GB st n i=some st')(iv:Inv ty zb st a w):Inv ty zb st' a w:=by
 unfold G.GB at h
 split at h
 case h_2=>cases h
 rename_i c hc
 split at h
 case h_2=>cases h
 rename_i m hm
 split at h
 case h_2=>cases h
 rename_i t l hl
 split at h
 case h_2=>cases h
 rename_i hp hf
 simp only[oI]at h
 subst h
 have hf:=Eb hf
 obtain⟨env,g⟩:=iv.good
 have hmn:m≠n:=by rintro rfl;rw[hl]at hc;cases hc
 have hlk: ∀k o,look hp k=some o→(k=n∧o= .box (c.set i (.vw m none t l)))∨(k≠n∧look st.hp k=some o):=by
  intro k o hk
  rw[hf]at hk
  by_cases hkn:k=n
  ·subst hkn;rw[look_eq]at hk;simp only[oI]at hk;exact Or.inl ⟨rfl,hk.symm⟩
  ·rw[aY hkn,jP hkn]at hk;exact Or.inr ⟨hkn,hk⟩
 have hne: ∀k o,k≠n→look st.hp k=some o→look hp k=some o:=by
  intro k o hkn hk
  rw[hf,aY hkn,jP hkn];exact hk
 have hnn:look hp n=some (.box (c.set i (.vw m none t l))):=by rw[hf,look_eq]
 have s:Step (fun _=>True) (fun _=>True) w st.hp env w hp env:=by
  refine⟨fun _ _ _=>rfl,?_,?_,?_⟩
  ·rintro b _ ⟨k,o,h1,h2⟩
   rcases hlk k o h1 with⟨rfl,_⟩| ⟨_,h3⟩
   ·exact⟨_,_,hc,h2⟩
   ·exact⟨k,o,h3,h2⟩
  ·intro k o _ h1
   by_cases hkn:k=n
   ·subst hkn
    rw[hc]at h1
    simp only[oI]at h1
    subst h1
    exact⟨_,hnn,trivial,rfl⟩
   ·exact⟨o,hne k o hkn h1,by cases o<;>simp[Obj.like],rfl⟩
  ·intro k t' l' _ h1
   have hkn:k≠n:=by rintro rfl;rw[hc]at h1;cases h1
   exact⟨hne k _ hkn h1,rfl,fun _ _=>rfl⟩
 refine⟨iv.size,iv.defers,iv.kept,iv.yK,env,⟨fun k o hk=> ?_,fun k k' o o' hkk h1 h2=> ?_,fun t v hv=>nE.step s (fun v _=>v.dm) (g.slot t v hv),fun k o hk b hb=> ?_,g.pins⟩⟩
 ·rcases hlk k o hk with⟨rfl,rfl⟩| ⟨hkn,h3⟩
  ·obtain⟨b,cs,e,h1,h2,h3⟩:=g.obj _ _ hc
   refine⟨b,cs,e,h1,h2,bH.set (h3.mono fun x y _ hr=>RA.step s x.dm hr) fun y hy=> ?_⟩
   rw[rN]at hm
   obtain⟨y',hy',hr⟩:=h3.at hm
   rw[hy]at hy'
   simp only[oI]at hy'
   subst hy'
   obtain⟨_,hu⟩:=hr
   have hro:=g.obj m _ hl
   have U3:=hne m _ hmn hl
   refine⟨⟨t,l,U3⟩,⟨(env m).fp,?_,(RO.own hro).nodup,fun _ h=>h⟩,by simp⟩
   rw[hu];exact RO.sl hro
  ·exact(g.obj k o h3).step s o.dm (fun _ _=>rfl)
 ·have: ∀k o,look hp k=some o→ ∃x,look st.hp k=some x:=by
   intro k o hk
   rcases hlk k o hk with⟨rfl,_⟩| ⟨_,h3⟩
   ·exact⟨_,hc⟩
   ·exact⟨_,h3⟩
  obtain⟨x,hx⟩:=this k o h1
  obtain⟨y,hy⟩:=this k' o' h2
  exact g.iN k k' x y hkk hx hy
 ·rcases hlk k o hk with⟨rfl,_⟩| ⟨_,h3⟩
  ·exact g.dom _ _ hc b hb
  ·exact g.dom k o h3 b hb
theorem Pk{c:Code}(n i:Nat)(h:G.GB st n i=some st')(k:W P ty zb c Q st'):W P ty zb c Q st:=fun a w iv=>k a w (iv.GB n i h)
end
end
section
variable{ty:Tag→Nat}
def tv(a b n:Nat):Nat:=match Nat.beq n a,Nat.beq n b with
 |true,_=>b
 |false,true=>a
 |false,false=>n
def V.sw(a b:Nat):V→V
 | .own n=> .own (tv a b n)
 | .ptr n o=> .ptr (tv a b n) o
 | .kE n i o=> .kE (tv a b n) i o
 | .vw n p t l=> .vw (tv a b n) p t l
 | .yH n p t x o=> .yH (tv a b n) p t x o
 | .yI n t l=> .yI (tv a b n) t l
 | .yf f n=> .yf f (tv a b n)
 | .mix n c t l=> .mix (tv a b n) c t l
 | .pW n=> .pW (tv a b n)
 |v=>v
def S1.sw(a b:Nat):S1→S1
 | .a v=> .a (v.sw a b)
 | .agg l=> .agg (l.map (V.sw a b))
def SV.sw(a b:Nat):SV→SV
 | .one x=> .one (x.sw a b)
 | .td l=> .td (l.map (S1.sw a b))
 | .cond p x=> .cond p (x.sw a b)
def oG.sw(a b:Nat):oG→oG
 | .of n=> .of (tv a b n)
 | .sN _=> .sN none
 |s=>s
def Obj.sw(a b:Nat):Obj→Obj
 | .box c=> .box (c.map (V.sw a b))
 | .arr t l=> .arr t l
 | .fk t l s=> .fk t l (s.sw a b)
def Ma(a b:Nat)(hp:Hp):Hp:=hp.map fun e=>(tv a b e.1,e.2.sw a b)
def PA(st:St)(a b:Nat):Option St:=match gT a,gT b,soft a,soft b with
 |false,false,false,false=>JO ⟨st.n,st.sl.map fun e=>(e.1,e.2.sw a b),Ma a b st.hp⟩
 |_,_,_,_=>none
theorem IT(a b n:Nat):tv a b n=if n=a then b else if n=b then a else n:=by
 unfold tv
 by_cases h1:n=a
 ·subst h1;rw[if_pos rfl,Nat.beq_refl]
 ·have e1:Nat.beq n a=false:=by
   cases h:Nat.beq n a with
   |false=>rfl
   |true=>exact absurd (Nat.eq_of_beq_eq_true h) h1
  rw[if_neg h1,e1]
  by_cases h2:n=b
  ·subst h2;rw[if_pos rfl,Nat.beq_refl]
  ·have e2:Nat.beq n b=false:=by
    cases h:Nat.beq n b with
    |false=>rfl
    |true=>exact absurd (Nat.eq_of_beq_eq_true h) h2
   rw[if_neg h2,e2]
theorem mX(a b n:Nat):tv a b (tv a b n)=n:=by
 simp only[IT]
 by_cases h1:n=a
 ·subst h1;simp only[if_true]
  by_cases h2:b=n
  ·rw[if_pos h2,h2]
  ·rw[if_neg h2]
 ·by_cases h2:n=b
  ·subst h2;simp[h1]
  ·simp[h1,h2]
theorem T3{a b n m:Nat}(h:tv a b n=tv a b m):n=m:=by
 have:=congrArg (tv a b) h
 rwa [mX,mX]at this
theorem nX(a b:Nat): ∀(hp:Hp) (n:Nat),look (Ma a b hp) n=(look hp (tv a b n)).map (Obj.sw a b)
 | [],n=>rfl
 | (j,x)::r,n=>by
   show look ((tv a b j,x.sw a b)::Ma a b r) n=_
   by_cases h:n=tv a b j
   ·subst h
    rw[look_eq,mX,look_eq];rfl
   ·rw[aY h,nX a b r n,aY]
    intro e
    exact h (by rw[←e,mX])
section
variable{w:World}{hp:Hp}{env:Env}{a b:Nat}
theorem mY{n:Nat}{t:Tag}{l:List (T t)}(h:look hp n=some (.arr t l)):look (Ma a b hp) (tv a b n)=some (.arr t l):=by
 rw[nX,mX,h];rfl
theorem Kj{n:Nat}{c:List V}(h:look hp n=some (.box c)):look (Ma a b hp) (tv a b n)=some (.box (c.map (V.sw a b))):=by
 rw[nX,mX,h];rfl
def PB(a b:Nat)(env:Env):Env:=fun n=>env (tv a b n)
theorem kj(n:Nat):PB a b env (tv a b n)=env n:=by unfold PB;rw[mX]
theorem oZ{x:Nat}(h:Ow (Ma a b hp) (PB a b env) x):Ow hp env x:=by
 obtain⟨n,o,h1,h2⟩:=h
 rw[nX]at h1
 cases hq:look hp (tv a b n)with
 |none=>rw[hq]at h1;cases h1
 |some o'=>exact⟨_,_,hq,h2⟩
theorem RV.sw{n:Nat}{p:Option (Nat×Nat)}{t:Tag}{l:List (T t)}{u:Value}(h:RV w hp env n p t l u):RV w (Ma a b hp) (PB a b env) (tv a b n) p t l u:=by
 obtain⟨⟨t1,l1,h1⟩,⟨fp,h2,h3,h4⟩,h5⟩:=h
 refine⟨⟨t1,l1,mY h1⟩,⟨fp,h2,h3,by rw[kj];exact h4⟩,fun i off hp'=> ?_⟩
 obtain⟨t0,l0,b0,o,len,cap,q1,q2,q3,q4,q5,q6⟩:=h5 i off hp'
 exact⟨t0,l0,b0,o,len,cap,mY q1,q2,q3,by rw[kj];exact q4,by rw[kj];exact q5,q6⟩
theorem RA.sw{v:V}{u:Value}(h:RA w hp env v u):RA w (Ma a b hp) (PB a b env) (v.sw a b) u:=by
 cases v with
 |any=>trivial
 |lit v=>exact h
 |oA k=>exact h
 |raw v=>exact h
 |eF v t l=>obtain⟨hu,fp,h1,h2⟩:=h;exact⟨hu,fp,h1,fun x hx ho=>h2 x hx (oZ ho)⟩
 |sl t l=>obtain⟨fp,h1,h2⟩:=h;exact⟨fp,h1,fun x hx ho=>h2 x hx (oZ ho)⟩
 |ip t x off=>obtain⟨b',o,cs,fp,h1,h2,h3,h4,h5,h6⟩:=h;exact⟨b',o,cs,fp,h1,h2,h3,h4,fun ho=>h5 (oZ ho),fun c hc ho=>h6 c hc (oZ ho)⟩
 |own n=>obtain⟨⟨t,l,hl⟩,hu⟩:=h;exact⟨⟨t,l,mY hl⟩,by rw[kj];exact hu⟩
 |ptr n off=>obtain⟨⟨c,hl⟩,b',h1,h2⟩:=h;exact⟨⟨_,Kj hl⟩,b',by rw[kj];exact h1,h2⟩
 |yf f n=>obtain⟨⟨c,hl⟩,b',h1,h2⟩:=h;exact⟨⟨_,Kj hl⟩,b',by rw[kj];exact h1,h2⟩
 |kE n i off=>obtain⟨t,l,hl,b',o,len,cap,h1,h2⟩:=h;exact⟨t,l,mY hl,b',o,len,cap,by rw[kj];exact h1,h2⟩
 |vw n p t l=>exact RV.sw h
 |yI n t l=>
  obtain⟨⟨t1,l1,h1⟩,b',fp,h2,h3,h4,h5⟩:=h
  exact⟨⟨t1,l1,mY h1⟩,b',fp,h2,fun ho=>h3 (oZ ho),h4,by rw[kj];exact h5⟩
 |pW n=>
  obtain⟨⟨t,l,s,hl⟩,hu⟩:=h
  exact⟨⟨t,l,s.sw a b,by rw[nX,mX,hl];rfl⟩,by rw[kj];exact hu⟩
 |mix n c t l=>
  obtain⟨⟨t1,l1,h1⟩,⟨fp,h2,h3⟩,h4⟩:=h
  exact⟨⟨t1,l1,mY h1⟩,⟨fp,h2,fun x hx=>(h3 x hx).imp (fun q=>by rw[kj];exact q) (fun q ho=>q (oZ ho))⟩,h4⟩
 |yH n p t x off=>
  obtain⟨⟨t1,l1,h1⟩,b',o,cs,fp,h2,h3,h4,h5,h6,h7,h8⟩:=h
  refine⟨⟨t1,l1,mY h1⟩,b',o,cs,fp,h2,by rw[kj];exact h3,h4,h5,h6,by rw[kj];exact h7,fun i o2 j hp'=> ?_⟩
  obtain⟨l2,u0,b0,nk,len,cap,q1,q2,q3,q4,q5⟩:=h8 i o2 j hp'
  exact⟨l2,u0,b0,nk,len,cap,q1.sw,q2,q3,q4,q5⟩
theorem fD.sw{x:S1}{u:Value}(h:fD w hp env x u):fD w (Ma a b hp) (PB a b env) (x.sw a b) u:=by
 cases x with
 |a v=>exact RA.sw h
 |agg l=>obtain⟨cs,h1,h2⟩:=h;exact⟨cs,h1,h2.map fun _ _ q=>RA.sw q⟩
theorem nE.sw{tmps:Array Value}{x:SV}{u:Value}(h:nE w hp env tmps x u):nE w (Ma a b hp) (PB a b env) tmps (x.sw a b) u:=by
 cases x with
 |one x=>exact fD.sw h
 |td l=>obtain⟨us,h1,h2⟩:=h;exact⟨us,h1,h2.map fun _ _ q=>fD.sw q⟩
 |cond p x=>exact⟨fun q=>fD.sw (h.1 q),h.2⟩
theorem BE.sw{s:oG}{t:Tag}{x:T t}{u:Value}(h:BE w hp env s t x u):BE w (Ma a b hp) (PB a b env) (s.sw a b) t x u:=by
 cases s with
 |gone=>trivial
 |mp=>trivial
 |B1 u=>trivial
 |sN p=>trivial
 |mE=>obtain⟨f,h1,h2⟩:=h;exact⟨f,h1,fun c hc ho=>h2 c hc (oZ ho)⟩
 |of n=>
  obtain⟨⟨t1,l1,h1⟩,f,h2,h3⟩:=h
  exact⟨⟨t1,l1,mY h1⟩,f,h2,fun c hc=>(h3 c hc).imp (fun q=>by rw[kj];exact q) (fun q ho=>q (oZ ho))⟩
end
theorem PC{a b n:Nat}{p:Nat→Bool}(ha:p a=false)(hb:p b=false):p (tv a b n)=p n:=by
 rw[IT]
 split
 ·rename_i h;subst h;rw[ha,hb]
 ·split
  ·rename_i h;subst h;rw[ha,hb]
  ·rfl
theorem T4{a b n:Nat}(ha:gT a=false)(hb:gT b=false)(h:gT n=true):tv a b n=n:=by
 rw[IT]
 split
 ·rename_i h1;subst h1;rw[ha]at h;cases h
 ·split
  ·rename_i h1;subst h1;rw[hb]at h;cases h
  ·rfl
theorem PD{zb:cL}{st st':St}{a b:Nat}(h:PA st a b=some st'){c:Act}{w:World}(iv:Inv ty zb st c w):Inv ty zb st' c w:=by
 obtain⟨env,g⟩:=iv.good
 unfold PA at h
 split at h
 case h_2=>cases h
 rename_i hpa hpb hsa hsb
 have h:=kV h
 subst h
 have hlk: ∀n o,look (Ma a b st.hp) n=some o→ ∃o0,look st.hp (tv a b n)=some o0∧o=o0.sw a b:=by
  intro n o hl
  rw[nX]at hl
  cases hq:look st.hp (tv a b n)with
  |none=>rw[hq]at hl;cases hl
  |some o0=>rw[hq]at hl;simp only[Option.map_some,oI]at hl;exact⟨o0,rfl,hl.symm⟩
 refine⟨iv.size,iv.defers,iv.kept,iv.yK,PB a b env,⟨fun n o hl=> ?_,fun n m o o' hne h1 h2=> ?_,fun s v hs=> ?_,fun n o hl=> ?_,fun n hn=> ?_⟩⟩
 ·obtain⟨o0,h1,rfl⟩:=hlk n o hl
  have hro:=g.obj _ _ h1
  show RO ty w (Ma a b st.hp) (PB a b env) n (o0.sw a b) (env (tv a b n))
  cases o0 with
  |arr t l=>exact JJ (fun q=>by rw[PC hsa hsb]at q;exact q) hro
  |box l=>
   obtain⟨x,cs,e,q1,q2,q3⟩:=hro
   exact⟨x,cs,e,q1,q2,q3.map fun _ _ q=>RA.sw q⟩
  |fk t l s=>
   rcases RO.B7 hro with⟨rfl,h⟩| ⟨u,rfl,h1,h2,fp,h3,h4⟩| ⟨p,rfl,h⟩| ⟨hr,q1,us,q2,q3,q4⟩
   ·exact h
   ·exact⟨h1,h2,fp,h3,h4.imp id fun⟨c,e1,e2⟩=>⟨c,e1,fun ho=>e2 (oZ ho)⟩⟩
   ·exact⟨h.1,h.2.1,fun _ _ _ e=>by cases e⟩
   ·exact RO.Ns (by cases s<;>first|exact hr.elim|trivial) ⟨q1,us,q2,q3,fun i x u hx hu=>(q4 i x u hx hu).sw⟩
 ·obtain⟨o1,q1,_⟩:=hlk n o h1
  obtain⟨o2,q2,_⟩:=hlk m o' h2
  exact g.iN _ _ _ _ (fun e=>hne (T3 e)) q1 q2
 ·replace hs:look (st.sl.map fun e=>(e.1,e.2.sw a b)) s=some v:=hs
  rw[nH (α:=SV) (f:=fun e:Nat×SV=>e.2.sw a b)]at hs
  cases hq:look st.sl s with
  |none=>rw[hq]at hs;cases hs
  |some v0=>
   rw[hq]at hs
   simp only[Option.map_some,oI]at hs
   subst hs
   exact nE.sw (g.slot s v0 hq)
 ·obtain⟨o0,h1,_⟩:=hlk n o hl
  exact g.dom _ _ h1
 ·have hq:=g.pins n hn
  unfold PB
  rw[T4 hpa hpb hn]
  exact hq
theorem bp{P:Program}{zb:cL}{Q:Post}{st st':St}{c:Code}(a b:Nat)(h:PA st a b=some st')(k:W P ty zb c Q st'):W P ty zb c Q st:=fun x w iv=>k x w (PD h iv)
end
section
variable{ty:Tag→Nat}
def toBrr(st:St)(s m:Nat)(r:oG):Option St:=match look st.sl s,Nat.blt s st.n with
 |some (.one (.a (.own n))),true=>match look st.hp n,pinned [n],gT m,look (cq [n] [] st.hp) m with
  |some (.arr t []),false,false,none=>match Nat.beq (kk t) 1 with
   |true=>JO ((⟨st.n,st.sl.map fun e=>(e.1,e.2.bF [n] []),ZQ st.hp n m t [] r⟩:St).put (some s) (.one (.a (.pW m))))
   |false=>none
  |_,_,_,_=>none
 |_,_=>none
theorem toBrr_ok{zb:cL}{st st':St}{s m:Nat}{r:oG}(hr:r.br)(h:toBrr st s m r=some st'){a:Act}{w:World}(iv:Inv ty zb st a w):Inv ty zb st' a w:=by
 obtain⟨env,g⟩:=iv.good
 have hB:=iv.kept.size
 unfold toBrr at h
 split at h
 case h_2=>cases h
 rename_i n hs hlt
 split at h
 case h_2=>cases h
 rename_i t hl hpk B9 hlk
 split at h
 case h_2=>cases h
 rename_i hk1
 have hk1:=Nat.eq_of_beq_eq_true hk1
 have h:=kV h
 have U7:soft n=false:=lQ hpk (by simp)
 have hb:=RO.RM U7 (g.obj n _ hl)
 have DZ: ∀b,(env n).v.ownBlock=some b→b∈(env n).fp:=by
  intro b hb'
  obtain⟨xs,bn,_,_,_,gb,_⟩:=hb
  rw[gb,hb'];simp
 have hbE:iW 1 Nq 0 (ty t) w (env n).v ([]:List Value) (env n).fp:=by
  obtain⟨xs,bn,q1,q2,q3,q4,q5⟩:=hb
  obtain rfl:bn= []:=List.length_eq_zero_iff.1 q2
  exact⟨xs,[],by rw[hk1]at q1;exact q1,rfl,fun i x f hx=>by simp at hx,q4,q5⟩
 obtain⟨env',hg',Ca,_,_⟩:=wL (ty:=ty) g hB (ks:= [n]) hpk B9 hlk (v:=(env n).v) (v':=(env n).v) (w':=w) (ob:= .fk t [] r) (fp:=(env n).fp) (fx:= []) (gw:=(env n).fp) (by
  intro b hb
  rw[List.append_nil]at hb
  exact⟨n,_,by simp,hl,hb⟩) DZ (fun acR hd s2=>RO.Ns hr ⟨hk1,[],hbE,rfl,fun i x u hx=>by simp at hx⟩) ⟨rfl,rfl,rfl,Nat.le_refl _,fun _ _ _=>rfl⟩ (fun b hb=>Or.inl hb)
 have hlt:s<a.tmps.size:=by rw[iv.size];exact Nat.le_of_ble_eq_true hlt
 obtain⟨_,hu⟩:=g.slot s _ hs
 have gp:=hg'.put hlt (v:= .one (.a (.pW m))) (u:=a.tmps.getD s undef) ⟨⟨t,[],_,look_eq⟩,by rw[Ca];exact hu⟩ rfl
 have e:a.tmps.setIfInBounds s (a.tmps.getD s undef)=a.tmps:=by
  rw[Array.getD_eq_getD_getElem?,Array.getElem?_eq_getElem hlt]
  apply Array.ext
  ·simp
  ·intro i h1 h2
   rw[Array.getElem_setIfInBounds]
   split
   ·rename_i hi;subst hi;rfl
   ·rfl
 rw[e]at gp
 rw[h]
 exact⟨by rw[CL];exact iv.size,iv.defers,iv.kept,iv.yK,env',gp⟩
theorem PE{P:Program}{zb:cL}{Q:Post}{st st':St}{c:Code}(s m:Nat)(h:G.toBrr st s m .mE=some st')(k:W P ty zb c Q st'):W P ty zb c Q st:=fun a w iv=>k a w (toBrr_ok (by trivial) h iv)
end
section
variable{ty:Tag→Nat}
def toLsl(st:St)(s:Nat)(v:Value):Option St:=match look st.sl s with
 |some (.one (.a (.sl t l)))=>JO ⟨st.n,(s, .one (.a (.eF v t l)))::st.sl,st.hp⟩
 |_=>none
theorem uw{P:Program}{zb:cL}{c:Code}{Q:Post}{st:St}(s:Nat){f:Value→St}(h: ∀v,toLsl st s v=some (f v))(k: ∀v,W P ty zb c Q (f v)):W P ty zb c Q st:=by
 intro a w iv
 have h:=h (a.tmps.getD s undef)
 refine k (a.tmps.getD s undef) a w ?_
 obtain⟨env,g⟩:=iv.good
 unfold toLsl at h
 split at h
 case h_2=>cases h
 rename_i t l hs
 have h:=kV h
 rw[h]
 refine⟨iv.size,iv.defers,iv.kept,iv.yK,env,⟨g.obj,g.iN,fun s' v hv=> ?_,g.dom,g.pins⟩⟩
 by_cases hss:s'=s
 ·subst hss
  rw[look_eq]at hv
  simp only[oI]at hv
  subst hv
  exact⟨rfl,g.slot _ _ hs⟩
 ·rw[aY hss]at hv
  exact g.slot s' v hv
end
section
variable{ty:Tag→Nat}
theorem KL{t:Tag}{w:World}{b off cap:Nat}{l:List (T t)}{bn:List (List Nat)}(hb:Fit w b (off+cap*kk t))(hc:l.length≤cap)(hm:cap≤maxLen)(hE:lO (kk t) (rd t) w b off l bn){lo hi:Nat}(h1:lo≤hi)(h2:hi≤l.length):
  ∃fp,Sl (kk t) (rd t) w (zk (some ⟨b,off,none⟩) cap (kk t) lo hi) ((l.take hi).drop lo) fp∧((fp= []∧((bn.take hi).drop lo).flatten= [])∨fp=b::((bn.take hi).drop lo).flatten):=by
 have hlen:((l.take hi).drop lo).length=hi-lo:=by simp;omega
 by_cases Wg:cap=lo
 ·have e0:(l.take hi).drop lo= []:=by apply List.eq_nil_of_length_eq_zero;omega
  have e1:(bn.take hi).drop lo= []:=by apply List.eq_nil_of_length_eq_zero;simp;have:=hE.1;omega
  refine⟨[],⟨_,_,by rw[hlen];rfl,by rw[hlen];omega,by omega,Or.inl ⟨e0,rfl,?_⟩⟩,Or.inl ⟨rfl,by rw[e1];rfl⟩⟩
  omega
 ·refine⟨_,⟨_,_,by rw[hlen];rfl,by rw[hlen];omega,by omega,Or.inr ⟨b,off+lo*kk t,(bn.take hi).drop lo,?_,hb.mono (by rw[Nat.add_assoc, ←Nat.add_mul,Nat.add_sub_cancel' (by omega)];exact Nat.le_refl _),rfl,?_,?_⟩⟩,Or.inr rfl⟩
  ·rw[if_neg Wg];simp[Addr.add_mid]
  ·have:=hE.1;simp[this]
  ·intro i x f hx hf
   rw[List.getElem?_drop,List.getElem?_take]at hx hf
   split at hx
   ·rename_i hlt
    rw[if_pos hlt]at hf
    obtain⟨cs,k1,k2⟩:=hE.2 _ x f hx hf
    exact⟨cs,by rw[Nat.add_assoc, ←Nat.add_mul];exact k1,k2⟩
   ·cases hx
section
variable{P:Program}{zb:cL}{st st':St}{Q:Post}{w:World}{env:Env}{tmps:Array Value}
theorem Mx{t:Tag}{l:List (T t)}{oa:Option Addr}{cap k:Nat}{fp:List Nat}(hs:Sl (kk t) (rd t) w (.slice oa l.length cap) l fp)(ho:Own 0 w fp)(hk:k≤l.length):
  ∃f1 f2,Own 0 w f1∧Own 0 w f2∧(∀b,b∈f1→b∈fp)∧(∀b,b∈f2→b∈fp)∧(∀b,b∈f1→b∉f2)∧
   (∃g,Sl (kk t) (rd t) w (zk oa cap (kk t) 0 k) (l.take k) g∧((g= []∧f1= [])∨ ∃b,g=b::f1∧b∈fp∧b∉f1∧b∉f2))∧
   (∃g,Sl (kk t) (rd t) w (zk oa cap (kk t) k l.length) (l.drop k) g∧((g= []∧f2= [])∨ ∃b,g=b::f2∧b∈fp∧b∉f1∧b∉f2)):=by
 obtain⟨MV,cap',hv,hc,hm,h3⟩:=hs
 simp only[Value.slice.injEq]at hv
 obtain⟨rfl,_,rfl⟩:=hv
 rcases h3 with⟨rfl,rfl,hn⟩| ⟨b,off,bn,rfl,hb,rfl,hE⟩
 ·obtain rfl:k=0:=by simpa using hk
  have hz:Sl (kk t) (rd t) w (zk oa cap (kk t) 0 0) ([]:List (T t)) []:=⟨_,cap,rfl,Nat.zero_le _,hm,Or.inl ⟨rfl,rfl,by omega⟩⟩
  exact⟨[],[],Own.nil _ _,Own.nil _ _,by simp,by simp,by simp,⟨[],hz,Or.inl ⟨rfl,rfl⟩⟩,⟨[],hz,Or.inl ⟨rfl,rfl⟩⟩⟩
 ·obtain⟨g1,p1,p2⟩:=KL hb hc hm hE (lo:=0) (hi:=k) (Nat.zero_le _) hk
  obtain⟨g2,q1,q2⟩:=KL hb hc hm hE (lo:=k) (hi:=l.length) hk (Nat.le_refl _)
  have hfl:bn.flatten=((bn.take k).drop 0).flatten++((bn.take l.length).drop k).flatten:=by
   have e1:bn.take l.length=bn:=List.take_of_length_le (by rw[hE.1];exact Nat.le_refl _)
   rw[List.drop_zero,e1, ←List.flatten_append,List.take_append_drop]
  rw[List.drop_zero]at p1
  rw[List.take_of_length_le (Nat.le_refl _)]at q1
  generalize ((bn.take k).drop 0).flatten=f1 at*
  generalize ((bn.take l.length).drop k).flatten=f2 at*
  have hnd:=ho.nodup
  rw[hfl]at hnd ⊢
  rw[hfl]at ho
  obtain⟨hnb,nr⟩:=List.nodup_cons.1 hnd
  obtain⟨hd1,hd2,hd3⟩:=List.nodup_append.1 nr
  have bt:b∉f1:=fun h=>hnb (List.mem_append_left _ h)
  have bY:b∉f2:=fun h=>hnb (List.mem_append_right _ h)
  exact⟨f1,f2,⟨hd1,fun _ _=>Nat.zero_le _,fun x hx=>ho.kind x (List.mem_cons_of_mem _ (List.mem_append_left _ hx))⟩,⟨hd2,fun _ _=>Nat.zero_le _,fun x hx=>ho.kind x (List.mem_cons_of_mem _ (List.mem_append_right _ hx))⟩,
   fun x hx=>List.mem_cons_of_mem _ (List.mem_append_left _ hx),fun x hx=>List.mem_cons_of_mem _ (List.mem_append_right _ hx),fun x hx hx'=>hd3 x hx x hx' rfl,
   ⟨g1,p1,p2.imp id fun h=>⟨b,h,List.mem_cons_self,bt,bY⟩⟩,⟨g2,q1,q2.imp id fun h=>⟨b,h,List.mem_cons_self,bt,bY⟩⟩⟩
abbrev BU(hp:Hp)(m k n1 n2:Nat)(oa:Option Addr)(cap:Nat)(t:Tag)(l:List (T t)):Hp:=(n1, .fk t (l.take k) (.B1 (zk oa cap (kk t) 0 k)))::(n2, .fk t (l.drop k) (.B1 (zk oa cap (kk t) k l.length)))::cq [m] [] hp
theorem My(g:Good ty zb st tmps w env){m k n1 n2:Nat}{t:Tag}{l:List (T t)}(hl:look st.hp m=some (.arr t l)){oa:Option Addr}{cap:Nat}(hv:(env m).v= .slice oa l.length cap)(hk:k≤l.length)
  (h1:gT n1=false)(h2:gT n2=false)(h3:look (cq [m] [] st.hp) n1=none)(h4:look (cq [m] [] st.hp) n2=none)(h12:n1≠n2):
  ∃env',Good ty zb ⟨st.n,st.sl.map fun e=>(e.1,e.2.bF [m] []),BU st.hp m k n1 n2 oa cap t l⟩ tmps w env'∧ ∀x,x≠n1→x≠n2→env' x=env x:=by
 have hro:=g.obj m _ hl
 have hs:=RO.sl hro
 rw[hv]at hs
 obtain⟨f1,f2,o1,o2,s1,s2,d12,⟨g1,r1,c1⟩,⟨g2,r2,c2⟩⟩:=Mx hs (RO.own hro) hk
 let env':Env:=fun x=>if x=n1 then⟨zk oa cap (kk t) 0 k,f1⟩else if x=n2 then⟨zk oa cap (kk t) k l.length,f2⟩else env x
 have e1:env' n1=⟨zk oa cap (kk t) 0 k,f1⟩:=by simp[env']
 have e2:env' n2=⟨zk oa cap (kk t) k l.length,f2⟩:=(if_neg (Ne.symm h12)).trans (if_pos rfl)
 have e3: ∀x,x≠n1→x≠n2→env' x=env x:=fun x hx hy=>(if_neg hx).trans (if_neg hy)
 have hlk: ∀x o,look (BU st.hp m k n1 n2 oa cap t l) x=some o→(x=n1∧o= .fk t (l.take k) (.B1 (zk oa cap (kk t) 0 k)))∨(x=n2∧o= .fk t (l.drop k) (.B1 (zk oa cap (kk t) k l.length)))∨(x≠n1∧x≠n2∧x≠m∧ ∃o',look st.hp x=some o'∧o=o'.bF [m] []):=by
  intro x o hx
  by_cases hx1:x=n1
  ·subst hx1;rw[look_eq]at hx;simp only[oI]at hx;exact Or.inl ⟨rfl,hx.symm⟩
  ·rw[aY hx1]at hx
   by_cases hx2:x=n2
   ·subst hx2;rw[look_eq]at hx;simp only[oI]at hx;exact Or.inr (Or.inl ⟨rfl,hx.symm⟩)
   ·rw[aY hx2,bC]at hx
    split at hx
    ·cases hx
    ·rename_i hks
     cases hq:look st.hp x with
     |none=>rw[hq]at hx;cases hx
     |some o'=>rw[hq]at hx;simp only[Option.map_some,oI]at hx;exact Or.inr (Or.inr ⟨hx1,hx2,by simpa using hks,o',rfl,hx.symm⟩)
 have hnd: ∀x o,x≠m→look st.hp x=some o→x≠n1∧x≠n2:=by
  intro x o hks hx
  constructor
  ·rintro rfl;rw[bC,if_neg (by simpa using hks),hx]at h3;cases h3
  ·rintro rfl;rw[bC,if_neg (by simpa using hks),hx]at h4;cases h4
 have hin: ∀x o b,look (BU st.hp m k n1 n2 oa cap t l) x=some o→b∈(env' x).fp→(∃o',look st.hp x=some o'∧x≠m∧env' x=env x∧b∈(env x).fp)∨b∈(env m).fp:=by
  intro x o b hx hb
  rcases hlk x o hx with⟨rfl,_⟩| ⟨rfl,_⟩| ⟨hx1,hx2,Ix,o',ho,_⟩
  ·rw[e1]at hb;exact Or.inr (s1 b hb)
  ·rw[e2]at hb;exact Or.inr (s2 b hb)
  ·rw[e3 x hx1 hx2]at hb;exact Or.inl ⟨o',ho,Ix,e3 x hx1 hx2,hb⟩
 have s:sO [m] [] w st.hp env w (BU st.hp m k n1 n2 oa cap t l) env':=by
  refine⟨fun _ _ _=>rfl,?_,?_,?_⟩
  ·rintro b _ ⟨x,o,hx,hb⟩
   rcases hin x o b hx hb with⟨o',q1,_,_,q2⟩|h
   ·exact⟨x,o',q1,q2⟩
   ·exact⟨m,_,hl,h⟩
  ·intro x o hx ho
   obtain⟨q1,q2⟩:=hnd x o (by simpa using hx) ho
   exact⟨o.bF [m] [],by rw[aY q1,aY q2,bC,if_neg hx,ho];rfl,by cases o<;>simp[Obj.like,Obj.bF],by rw[e3 x q1 q2]⟩
  ·rintro x t' l' ⟨hx,_⟩ ho
   obtain⟨q1,q2⟩:=hnd x _ (by simpa using hx) ho
   exact⟨by rw[aY q1,aY q2,bC,if_neg hx,ho];rfl,e3 x q1 q2,fun _ _=>rfl⟩
 have hno: ∀b,b∈(env m).fp→b∉f1→b∉f2→ ¬Ow (BU st.hp m k n1 n2 oa cap t l) env' b:=by
  rintro b hb bt bY ⟨x,o,hx,yO⟩
  rcases hlk x o hx with⟨rfl,_⟩| ⟨rfl,_⟩| ⟨hx1,hx2,Ix,o',ho,_⟩
  ·rw[e1]at yO;exact bt yO
  ·rw[e2]at yO;exact bY yO
  ·rw[e3 x hx1 hx2]at yO;exact g.iN x m _ _ Ix ho hl b yO hb
 refine⟨env',g.gU s (fun x o hx=> ?_) (fun x y o o' hne hx hy b hb hb'=> ?_) (fun x o hx b hb=> ?_) (fun x hx=> ?_),e3⟩
 ·rcases hlk x o hx with⟨rfl,rfl⟩| ⟨rfl,rfl⟩| ⟨hx1,hx2,Ix,o',ho,rfl⟩
  ·rw[e1]
   exact⟨rfl,o1,g1,r1,c1.imp id fun⟨b,q1,q2,q3,q4⟩=>⟨b,q1,hno b q2 q3 q4⟩⟩
  ·rw[e2]
   exact⟨rfl,o2,g2,r2,c2.imp id fun⟨b,q1,q2,q3,q4⟩=>⟨b,q1,hno b q2 q3 q4⟩⟩
  ·rw[e3 x hx1 hx2]
   exact(g.obj x o' ho).gU s fun _ _=>rfl
 ·rcases hlk x o hx with⟨rfl,_⟩| ⟨rfl,_⟩| ⟨hx1,hx2,Ix,p,hp,_⟩<;>rcases hlk y o' hy with⟨rfl,_⟩| ⟨rfl,_⟩| ⟨hy1,Y5,hym,q,hq,_⟩
  ·exact hne rfl
  ·rw[e1]at hb;rw[e2]at hb';exact d12 b hb hb'
  ·rw[e1]at hb;rw[e3 y hy1 Y5]at hb';exact g.iN y m _ _ hym hq hl b hb' (s1 b hb)
  ·rw[e2]at hb;rw[e1]at hb';exact d12 b hb' hb
  ·exact hne rfl
  ·rw[e2]at hb;rw[e3 y hy1 Y5]at hb';exact g.iN y m _ _ hym hq hl b hb' (s2 b hb)
  ·rw[e3 x hx1 hx2]at hb;rw[e1]at hb';exact g.iN x m _ _ Ix hp hl b hb (s1 b hb')
  ·rw[e3 x hx1 hx2]at hb;rw[e2]at hb';exact g.iN x m _ _ Ix hp hl b hb (s2 b hb')
  ·rw[e3 x hx1 hx2]at hb;rw[e3 y hy1 Y5]at hb';exact g.iN x y _ _ hne hp hq b hb hb'
 ·rcases hin x o b hx hb with⟨o',q1,_,_,q2⟩|h
  ·exact g.dom x o' q1 b q2
  ·exact g.dom m _ hl b h
 ·have q1:x≠n1:=by rintro rfl;rw[h1]at hx;cases hx
  have q2:x≠n2:=by rintro rfl;rw[h2]at hx;cases hx
  rw[e3 x q1 q2];exact g.pins x hx
theorem Rg(g:Good ty zb st tmps w env){n i:Nat}{c:List V}{v:Value}(hc:look st.hp n=some (.box c))(h1:v.oneCell'=true)
  (hx: ∀b cs e,env n=⟨.pointer (some ⟨b,0,none⟩),[b]⟩→w.heap[b]? =some (.cells (Array.mk cs) e (0,0))→ ∀y,cs[i]? =some y→y=v):
  Good ty zb ⟨st.n,st.sl,(n, .box (c.set i (.raw v)))::st.hp.filter fun e=> !Nat.beq e.1 n⟩ tmps w env:=by
 have hlk: ∀k o,look ((n,Obj.box (c.set i (.raw v)))::st.hp.filter fun e=> !Nat.beq e.1 n) k=some o→(k=n∧o= .box (c.set i (.raw v)))∨(k≠n∧look st.hp k=some o):=by
  intro k o hk
  by_cases hkn:k=n
  ·subst hkn;rw[look_eq]at hk;simp only[oI]at hk;exact Or.inl ⟨rfl,hk.symm⟩
  ·rw[aY hkn,jP hkn]at hk;exact Or.inr ⟨hkn,hk⟩
 have hne: ∀k o,k≠n→look st.hp k=some o→look ((n,Obj.box (c.set i (.raw v)))::st.hp.filter fun e=> !Nat.beq e.1 n) k=some o:=by
  intro k o hkn hk
  rw[aY hkn,jP hkn];exact hk
 have s:Step (fun _=>True) (fun _=>True) w st.hp env w ((n,Obj.box (c.set i (.raw v)))::st.hp.filter fun e=> !Nat.beq e.1 n) env:=by
  refine⟨fun _ _ _=>rfl,?_,?_,?_⟩
  ·rintro b _ ⟨k,o,h1,h2⟩
   rcases hlk k o h1 with⟨rfl,_⟩| ⟨_,h3⟩
   ·exact⟨_,_,hc,h2⟩
   ·exact⟨k,o,h3,h2⟩
  ·intro k o _ h1
   by_cases hkn:k=n
   ·subst hkn
    rw[hc]at h1
    simp only[oI]at h1
    subst h1
    exact⟨_,look_eq,trivial,rfl⟩
   ·exact⟨o,hne k o hkn h1,by cases o<;>simp[Obj.like],rfl⟩
  ·intro k t' l' _ h1
   have hkn:k≠n:=by rintro rfl;rw[hc]at h1;cases h1
   exact⟨hne k _ hkn h1,rfl,fun _ _=>rfl⟩
 have hex: ∀k o,look ((n,Obj.box (c.set i (.raw v)))::st.hp.filter fun e=> !Nat.beq e.1 n) k=some o→ ∃x,look st.hp k=some x:=by
  intro k o hk
  rcases hlk k o hk with⟨rfl,_⟩| ⟨_,h3⟩
  ·exact⟨_,hc⟩
  ·exact⟨_,h3⟩
 refine⟨fun k o hk=> ?_,fun k k' o o' hkk h1 h2=> ?_,fun t v hv=>nE.step s (fun v _=>v.dm) (g.slot t v hv),fun k o hk b hb=> ?_,g.pins⟩
 ·rcases hlk k o hk with⟨rfl,rfl⟩| ⟨hkn,h3⟩
  ·obtain⟨b,cs,e,q1,q2,q3⟩:=g.obj _ _ hc
   exact⟨b,cs,e,q1,q2,bH.set (q3.mono fun x y _ hr=>RA.step s x.dm hr) fun y hy=>⟨hx b cs e q1 q2 y hy,h1⟩⟩
  ·exact(g.obj k o h3).step s o.dm (fun _ _=>rfl)
 ·obtain⟨x,hx⟩:=hex k o h1
  obtain⟨y,hy⟩:=hex k' o' h2
  exact g.iN k k' x y hkk hx hy
 ·obtain⟨x,hx⟩:=hex k o hk
  exact g.dom k x hx b hb
def Jk(st:St)(n i k n1 n2:Nat)(oa:Option Addr)(cap:Nat):Option (St×Nat):=match look st.hp n with
 |some (.box c)=>match uC c i with
  |some (.own m)=>match look st.hp m with
   |some (.arr t l)=>match gT n1,gT n2,look (cq [m] [] st.hp) n1,look (cq [m] [] st.hp) n2,Nat.beq n1 n2 with
    |false,false,none,none,false=>match JO ⟨st.n,st.sl.map fun e=>(e.1,e.2.bF [m] []),(n, .box ((c.map (V.bF [m] [])).set i (.raw (.slice oa l.length cap))))::(BU st.hp m k n1 n2 oa cap t l).filter fun e=> !Nat.beq e.1 n⟩with
     |some s=>some (s,l.length)
     |none=>none
    |_,_,_,_,_=>none
   |_=>none
  |_=>none
 |_=>none
theorem Rh{c:Code}(n i k n1 n2:Nat){S:Option Addr→Nat→St}{L:Nat}(h: ∀oa cap,G.Jk st n i k n1 n2 oa cap=some (S oa cap,L))(hk:k≤L)(K: ∀oa cap,L≤cap→W P ty zb c Q (S oa cap)):W P ty zb c Q st:=by
 intro a w iv
 obtain⟨env,g⟩:=iv.good
 have h0:=h none 0
 unfold G.Jk at h0
 split at h0
 case h_2=>cases h0
 rename_i c0 hc
 split at h0
 case h_2=>cases h0
 rename_i m hm
 split at h0
 case h_2=>cases h0
 rename_i t l hl
 split at h0
 case h_2=>cases h0
 rename_i p1 p2 p3 p4 p5
 have hmn:n≠m:=by rintro rfl;rw[hl]at hc;cases hc
 have h12:n1≠n2:=by rintro rfl;simp at p5
 obtain⟨oa,cap,hv,hcap,_,_⟩:=RO.sl (g.obj m _ hl)
 have h1:=h oa cap
 unfold G.Jk at h1
 rw[hc]at h1
 dsimp only at h1
 rw[hm]at h1
 dsimp only at h1
 rw[hl]at h1
 dsimp only at h1
 rw[p1,p2,p3,p4,p5]at h1
 dsimp only at h1
 split at h1
 case h_2=>cases h1
 rename_i s hs
 have hs:=kV hs
 simp only[oI,pI]at h1
 obtain⟨rfl,rfl⟩:=h1
 obtain⟨env',g',he⟩:=My g hl hv hk p1 p2 p3 p4 h12
 have hn1:n≠n1:=by rintro rfl;rw[bC,if_neg (by simpa using hmn),hc]at p3;cases p3
 have hn2:n≠n2:=by rintro rfl;rw[bC,if_neg (by simpa using hmn),hc]at p4;cases p4
 have Ct:look (BU st.hp m k n1 n2 oa cap t l) n=some (.box (c0.map (V.bF [m] []))):=by
  rw[aY hn1,aY hn2,bC,if_neg (by simpa using hmn),hc];rfl
 have g2:=Rg g' (i:=i) (v:= .slice oa l.length cap) Ct rfl (fun b cs e q1 q2 y hy=>by
  rw[he n hn1 hn2]at q1
  obtain⟨b',cs',e',r1,r2,r3⟩:=g.obj _ _ hc
  rw[q1]at r1
  simp only[CO.mk.injEq,Value.pointer.injEq,oI,Addr.mk.injEq,and_true,true_and]at r1
  obtain⟨rfl,_⟩:=r1
  rw[q2]at r2
  simp only[oI,Go.Obj.cells.injEq,Array.mk.injEq,and_true]at r2
  obtain⟨rfl,_⟩:=r2
  rw[rN]at hm
  obtain⟨y',hy',hr⟩:=r3.at hm
  rw[hy]at hy'
  simp only[oI]at hy'
  subst hy'
  rw[hr.2,hv])
 rw[←hs]at g2
 exact K oa cap hcap a w ⟨by rw[hs];exact iv.size,iv.defers,iv.kept,iv.yK,env',g2⟩
end
end
section
variable{ty:Tag→Nat}
def gk(cr:List (Nat×CR))(ops:List Oper)(st:St)(o:Oper):Option (Bool×Prop):=match o.guard with
 |some (j,x)=>match ops[j]? with
  |some q=>match q.dst with
   |some d=>match look cr (d+1100000),look st.sl d with
    |some ⟨y,_⟩,some (.one (.a (.lit (.bool b))))=>some (x==y,b=y)
    |_,_=>none
   |none=>none
  |none=>none
 |none=>none
def pk(cr:List (Nat×CR))(st:St)(o:Oper):Option (Oper×Prop):=match o.op with
 | .pick (.tmp c) x y=>match look cr (c+1100000),look st.sl c with
   |some ⟨z,_⟩,some (.one (.a (.lit (.bool b))))=>some ({o with op:= .move (match z with|true=>x|false=>y)},b=z)
   |_,_=>none
 |_=>none
def ung(o:Oper):Oper:={o with guard:=none}
def step2(P:Program)(ty:Tag→Nat)(Γ:Nat→TK)(cU:List (Nat×Nat))(cr:List (Nat×CR))(ops:List Oper)(st:St)(o:Oper):Option (List Prop×St):=
 match gk cr ops st o with
 |none=>match pk cr st o with
  |some (o',p)=>match step P ty Γ cU cr ops st o' with
   |some (vc,st')=>some (p::vc,st')
   |none=>none
  |none=>step P ty Γ cU cr ops st o
 |some (true,p)=>match step P ty Γ cU cr ops st (ung o)with
  |some (vc,st')=>some (p::vc,st')
  |none=>none
 |some (false,p)=>match qz st o.dst with
  |true=>some ([p],st.put o.dst (.one (.a .any)))
  |false=>none
def rH(P:Program)(ty:Tag→Nat)(Γ:Nat→TK)(cU:List (Nat×Nat))(cr:List (Nat×CR))(ops:List Oper):List Oper→St→List Prop→Option (List Prop×St)
 | [],st,acc=>some (acc,st)
 |o::r,st,acc=>match step2 P ty Γ cU cr ops st o with
  |some ([],⟨n,sl,hp⟩)=>rH P ty Γ cU cr ops r ⟨n,sl,hp⟩ (acc)
  |some ([p0],⟨n,sl,hp⟩)=>rH P ty Γ cU cr ops r ⟨n,sl,hp⟩ (p0::acc)
  |some ([p0,p1],⟨n,sl,hp⟩)=>rH P ty Γ cU cr ops r ⟨n,sl,hp⟩ (p0::p1::acc)
  |some ([p0,p1,p2],⟨n,sl,hp⟩)=>rH P ty Γ cU cr ops r ⟨n,sl,hp⟩ (p0::p1::p2::acc)
  |some ([p0,p1,p2,p3],⟨n,sl,hp⟩)=>rH P ty Γ cU cr ops r ⟨n,sl,hp⟩ (p0::p1::p2::p3::acc)
  |some ([p0,p1,p2,p3,p4],⟨n,sl,hp⟩)=>rH P ty Γ cU cr ops r ⟨n,sl,hp⟩ (p0::p1::p2::p3::p4::acc)
  |some ([p0,p1,p2,p3,p4,p5],⟨n,sl,hp⟩)=>rH P ty Γ cU cr ops r ⟨n,sl,hp⟩ (p0::p1::p2::p3::p4::p5::acc)
  |some (l,⟨n,sl,hp⟩)=>rH P ty Γ cU cr ops r ⟨n,sl,hp⟩ (l++acc)
  |none=>none
def aa9(P:Program)(ty:Tag→Nat)(Γ:Nat→TK)(cU:List (Nat×Nat))(cr:List (Nat×CR))(ks hs:List Nat)(ops:List Oper):St→Option (List Prop×St)
 | ⟨n,MK,gH⟩=>match rH P ty Γ cU cr ops ops ⟨n,MK,gH⟩ []with
 |some (vc,st')=>match yp st'.sl ks,yq st'.hp (JQ st'.sl st'.hp ks hs)with
  |some sl,some hp=>match oR sl hp,Nat.beq st'.n n with
   |true,true=>some (vc,⟨n,sl,hp⟩)
   |_,_=>none
  |_,_=>none
 |none=>none
section
variable{P:Program}{zb:cL}{st st':St}{a:Act}{w:World}{Q:Exit→Act→World→Prop}{o:Oper}
theorem iC.ung{ops:Array Oper}{K:Act→World→Prop}(hw:Region.wanted o (yielded ops a.tmps)=true)(h:iC P ops (ung o) a w K Q):iC P ops o a w K Q:=by
 unfold iC at h ⊢
 rw[if_pos (by simp[Region.wanted,G.ung])]at h
 rw[if_pos hw]
 exact h
theorem iC.as{ops:Array Oper}{op':Op}{K:Act→World→Prop}(he:execOp a.eval o=execOp a.eval {o with op:=op'})(hr:iC P ops {o with op:=op'} a w K Q):iC P ops o a w K Q:=by
 have hwp:o.wp P a w K Q↔Oper.wp P {o with op:=op'} a w K Q:=by
  unfold Oper.wp
  rw[he]
  rfl
 have has:o.asks P a w↔Oper.asks P {o with op:=op'} a w:=by
  unfold Oper.asks
  rw[he]
 unfold iC at hr ⊢
 rw[hwp,has]
 exact hr
theorem iC.pk{cr:List (Nat×CR)}{ops:Array Oper}{o':Oper}{p:Prop}{K:Act→World→Prop}(iv:Inv ty zb st a w)(h:G.pk cr st o=some (o',p))(hp:p)(hr:iC P ops o' a w K Q):iC P ops o a w K Q:=by
 unfold G.pk at h
 split at h
 case h_2=>cases h
 rename_i c x y ho
 split at h
 case h_2=>cases h
 rename_i z rs b hl hs
 simp only[oI,pI]at h
 obtain⟨rfl,rfl⟩:=h
 obtain⟨env,g⟩:=iv.good
 have hs1:=g.slot c _ hs
 have hs2:a.eval (.tmp c)= .bool b:=(show fD w st.hp env (.a (.lit (.bool b))) (a.tmps.getD c undef)from hs1).lit
 subst hp
 cases b with
 |true=>exact iC.as (by unfold execOp;simp only[ho,hs2];rfl) hr
 |false=>exact iC.as (by unfold execOp;simp only[ho,hs2];rfl) hr
theorem Ri{Γ:Nat→TK}(C: ∀t,cV P t (Γ t))(Z: ∀t,(∀z tg fo,Γ t≠ .st z tg fo)→Γ t≠ .other→(P.info? t).map (·.size)=some 1){cU:List (Nat×Nat)}{cr:List (Nat×CR)}{ops:List Oper}{vc:List Prop}(h:step2 P ty Γ cU cr ops st o=some (vc,st'))(iv:Inv ty zb st a w)(hv: ∀q,q∈vc→q):
  iC P ops.toArray o a w (fun a' w'=>Inv ty zb st' a' w') Q:=by
 have hgk: ∀{x:Bool} {p:Prop},gk cr ops st o=some (x,p)→p→(Region.wanted o (yielded ops.toArray a.tmps)=true↔x=true):=by
  intro x p hq hp
  unfold gk at hq
  split at hq
  case h_2=>cases hq
  rename_i j y hg
  split at hq
  case h_2=>cases hq
  rename_i q hj
  split at hq
  case h_2=>cases hq
  rename_i d hd
  split at hq
  case h_2=>cases hq
  rename_i z rs b hl hs
  simp only[oI,pI]at hq
  obtain⟨rfl,rfl⟩:=hq
  rw[j0 hg (by simpa using hj) hd]
  obtain⟨env,g⟩:=iv.good
  have hs1:=g.slot d _ hs
  have hs2:=(show fD w st.hp env (.a (.lit (.bool b))) (a.tmps.getD d undef)from hs1).lit
  rw[Array.getD_eq_getD_getElem?]at hs2
  have hs3:a.tmps[d]? =some (.bool b):=by
   cases CQ:a.tmps[d]? with
   |none=>rw[CQ]at hs2;simp[undef]at hs2
   |some u=>rw[CQ]at hs2;simp only[Option.getD_some]at hs2;rw[hs2]
  rw[hs3]
  simp only[oI,Value.bool.injEq]
  subst hp
  constructor
  ·rintro rfl;simp
  ·intro h;exact(eq_of_beq h).symm
 unfold step2 at h
 split at h
 ·split at h
  ·rename_i o' p hq
   split at h
   case h_2=>cases h
   rename_i oL Vn hs
   simp only[oI,pI]at h
   obtain⟨rfl,rfl⟩:=h
   have hp:p:=hv p (by simp)
   exact iC.pk iv hq hp (rU C Z hs iv fun q hq=>hv q (by simp[hq]))
  ·exact rU C Z h iv hv
 ·rename_i p hq
  split at h
  case h_2=>cases h
  rename_i oL Vn hs
  simp only[oI,pI]at h
  obtain⟨rfl,rfl⟩:=h
  have hp:p:=hv p (by simp)
  exact iC.ung ((hgk hq hp).2 rfl) (rU C Z hs iv fun q hq=>hv q (by simp[hq]))
 ·rename_i p hq
  split at h
  case h_2=>cases h
  rename_i hd
  simp only[oI,pI]at h
  obtain⟨rfl,rfl⟩:=h
  have hp:p:=hv p (by simp)
  have hw: ¬Region.wanted o (yielded ops.toArray a.tmps)=true:=fun hw=>by have:=(hgk hq hp).1 hw;cases this
  unfold iC
  rw[if_neg hw]
  obtain⟨env,g⟩:=iv.good
  exact⟨by rw[kI,CL];exact iv.size,by rw[put_defers];exact iv.defers,iv.kept,iv.yK,env,uQ g (DY iv hd) trivial (fun d _=>rfl)⟩
theorem BV{Γ:Nat→TK}{cU:List (Nat×Nat)}{cr:List (Nat×CR)}{ops:List Oper}{qg:St}{vcs:List Prop}{o:Oper}{r:List Oper}{st:St}{acc:List Prop}(h:rH P ty Γ cU cr ops (o::r) st acc=some (vcs,qg)):
  ∃q:List Prop×St,step2 P ty Γ cU cr ops st o=some q∧rH P ty Γ cU cr ops r q.2 (q.1++acc)=some (vcs,qg):=by
 simp only[rH]at h
 repeat' split at h
 all_goals first
  | (cases h;done)
  | (rename_i h1;exact⟨_,h1,h⟩)
theorem Hf{Γ:Nat→TK}{cU:List (Nat×Nat)}{cr:List (Nat×CR)}{ops:List Oper}{qg:St}{vcs:List Prop}: ∀{l:List Oper} {st:St} {acc:List Prop},rH P ty Γ cU cr ops l st acc=some (vcs,qg)→ ∀q,q∈acc→q∈vcs
 | [],st,acc,h,q,hq=>by
   simp only[rH,oI,pI]at h
   rw[←h.1];exact hq
 |o::r,st,acc,h,q,hq=>by
  obtain⟨l,h⟩:=BV h
  exact Hf h.2 q (List.mem_append_right _ hq)
theorem KM{Γ:Nat→TK}(C: ∀t,cV P t (Γ t))(Z: ∀t,(∀z tg fo,Γ t≠ .st z tg fo)→Γ t≠ .other→(P.info? t).map (·.size)=some 1){cU:List (Nat×Nat)}{cr:List (Nat×CR)}{ops:List Oper}{qg:St}{vcs:List Prop}
  (hQ: ∀a w,Inv ty zb qg a w→Q .normal a w): ∀{l:List Oper} {st:St} {acc:List Prop} {a:Act} {w:World},rH P ty Γ cU cr ops l st acc=some (vcs,qg)→(∀q,q∈vcs→q)→Inv ty zb st a w→wpList P ops.toArray Q l a w
 | [],st,acc,a,w,h,hv,iv=>by
   simp only[rH,oI,pI]at h
   obtain⟨_,rfl⟩:=h
   exact hQ a w iv
 |o::r,st,acc,a,w,h,hv,iv=>by
  obtain⟨⟨l,s1⟩,h1,h2⟩:=BV h
  have:=Ri (Q:=Q) C Z h1 iv (fun q hq=>hv q (Hf h2 q (List.mem_append_left _ hq)))
  exact this.mono fun a' w' kX=>KM C Z hQ h2 hv kX
end
section
variable{P:Program}{Γ:Nat→TK}{zb:cL}{Q:Post}{st:St}
theorem zE(X:Ctx P ty Γ)(cU:List (Nat×Nat))(cr:List (Nat×CR))(ks hs:List Nat){id:Nat}{ops:List Oper}{vc:List Prop}{st':St}(h:G.aa9 P ty Γ cU cr ks hs ops st=some (vc,st'))(hv:kW vc)(k:Q .normal st'):W P ty zb (.region id ops.toArray false) Q st:=by
 intro a w iv
 have hsp: ∃s1,rH P ty Γ cU cr ops ops st []=some (vc,s1)∧ ∀a w,Inv ty zb s1 a w→Inv ty zb st' a w:=by
  obtain⟨n,MK,gH⟩:=st
  simp only[G.aa9]at h
  split at h
  ·rename_i oL s1 hr
   split at h
   ·rename_i sl hp h1 h2
    split at h
    ·rename_i hc hn
     simp only[oI,pI]at h
     obtain⟨rfl,rfl⟩:=h
     exact⟨s1,hr,fun a w iv=>iv.weaken (Nat.eq_of_beq_eq_true hn).symm (lS h1) (lT h2) hc⟩
    ·cases h
   ·cases h
  ·cases h
 obtain⟨s1,h1,h2⟩:=hsp
 exact wp_region_lit (KM X.kind X.one (fun a w kX=>⟨st',h2 a w kX,k⟩) h1 hv.out iv)
end
end
end Go.Proofs.YtkkfjbfkjbljiaaGreatDoor.G
