/-
  A slice of the call's own, without elements, becomes one whose elements' memory is others'.
-/
import Derived.Orders
import Derived.Test.YtmcgjpdljafkeaaGreatM7
namespace Go.Proofs.YtmcgjpdljafkeaaGreat.G
set_option linter.all false
open Go.RowKit L D
section
variable{ty:Tag→Nat}
def AD(Γ:Nat→TK)(E:Tag→Nat→Prop)(S:FuncId→List S1→List S1→Prop)(cO:List (Nat×Nat))(cr:List (Nat×CR))(ops:List Oper):List Oper→St→List Prop→Option (List Prop×St)
 | [],st,acc=>some (acc,st)
 |o::r,⟨n,sl,hp⟩,acc=>match o.dst with
  |some d=>match sl.any (fun e=>e.2.mentions d),ld Γ E S cO cr ops ⟨n,sl,hp⟩ o with
   |false,some ([],v,os)=>AD Γ E S cO cr ops r ⟨n,(d,v)::sl,mI os hp⟩ acc
   |false,some ([p],v,os)=>AD Γ E S cO cr ops r ⟨n,(d,v)::sl,mI os hp⟩ (p::acc)
   |false,some ([p,q],v,os)=>AD Γ E S cO cr ops r ⟨n,(d,v)::sl,mI os hp⟩ (p::q::acc)
   |false,some (l,v,os)=>AD Γ E S cO cr ops r ⟨n,(d,v)::sl,mI os hp⟩ (l++acc)
   |_,_=>none
  |none=>none
structure TE where
 d:Nat
 v:SV
 os:Hp
def app(s:St)(e:TE):St:=⟨s.n,(e.d,e.v)::s.sl,e.os++s.hp⟩
theorem Cp{Γ:Nat→TK}{E:Tag→Nat→Prop}{S:FuncId→List S1→List S1→Prop}{cO:List (Nat×Nat)}{cr:List (Nat×CR)}{ops:List Oper}{o:Oper}{r:List Oper}{st:St}{acc vcs:List Prop}{rN:St}(h:AD Γ E S cO cr ops (o::r) st acc=some (vcs,rN)):
  ∃vc e,o.dst=some e.d∧(st.sl.any fun x=>x.2.mentions e.d)=false∧ld Γ E S cO cr ops st o=some (vc,e.v,e.os)∧AD Γ E S cO cr ops r (app st e) (vc++acc)=some (vcs,rN):=by
 obtain⟨n,sl,hp⟩:=st
 simp only[AD]at h
 split at h
 ·rename_i d hd
  split at h
  ·rename_i v os h1 h2;exact⟨[],⟨d,v,os⟩,hd,h1,h2,by simp only[eo]at h;exact h⟩
  ·rename_i p v os h1 h2;exact⟨[p],⟨d,v,os⟩,hd,h1,h2,by simp only[eo]at h;exact h⟩
  ·rename_i p q v os h1 h2;exact⟨[p,q],⟨d,v,os⟩,hd,h1,h2,by simp only[eo]at h;exact h⟩
  ·rename_i l v os _ _ _ h1 h2;exact⟨_,⟨d,v,os⟩,hd,h1,h2,by simp only[eo]at h;exact h⟩
  ·cases h
 ·cases h
def FM(sl:List (Nat×SV)):Bool:=sl.all fun e=>match e.2 with| .cond _ _=>false|_=>true
def UD(P:Program)(ty:Tag→Nat)(Γ:Nat→TK)(cO:List (Nat×Nat))(cr:List (Nat×CR))(ks hs:List Nat)(m:Nat)(ops:List Oper):St→Option (List Prop×St)
 | ⟨n,NO,fQ⟩=>match FM NO,AD Γ (Jc P ty) (Sound ty P) cO cr ops (ops.take m) ⟨n,NO,fQ⟩ []with
   |true,some (oc,s1)=>match run P ty Γ cO cr ops (ops.drop m) s1 oc with
    |some (vc,st')=>match Ad st'.sl ks,Ae st'.hp (K8 st'.sl st'.hp ks hs)with
     |some sl,some hp=>match p9 sl hp,Nat.beq st'.n n with
      |true,true=>some (vc,⟨n,sl,hp⟩)
      |_,_=>none
     |_,_=>none
    |none=>none
   |_,_=>none
def bP(o:Oper):List Nat:=o.after.toList.filterMap fun e=>if Region.binds .any e then some e.on else none
def gQ(acc:List Nat)(o:Oper):List Nat:=acc++ [(bP o).foldl (fun s j=>s|||2^j|||acc.getD j 0) 0]
def FN(ops:List Oper):List Nat:=ops.foldl gQ []
def tmpsOf(o:Oper):List Nat:=o.op.operands.toList.filterMap fun| .tmp t=>some t|_=>none
def wQ(o:Oper)(t:Nat):Bool:=match o.dst with|some d=>Nat.beq d t|none=>false
def idx{α:Type}:Nat→List α→List (Nat×α)
 |_,[]=> []
 |i,x::r=>(i,x)::idx (i+1) r
def O6(A:List (Nat×Oper))(cl:List Nat)(i:Nat)(o:Oper):Bool:=
 (tmpsOf o).all fun t=>A.all fun e=> !(wQ e.2 t)||Nat.beq e.1 i|| (bP o).any (Nat.beq e.1)|| (Nat.blt i e.1&&(cl.getD e.1 0).testBit i)
def Lb(m:Nat)(i:Nat)(o:Oper):Bool:=match o.guard with
 |none=>true
 |some (j,_)=>Nat.blt j i&&Nat.blt j m&&(bP o).any (Nat.beq j)
def O7(A:List (Nat×Oper))(i:Nat)(o:Oper):Bool:=match o.dst with
 |some d=>A.all fun e=>Nat.beq e.1 i|| !(wQ e.2 d)
 |none=>false
def X2(ops:List Oper)(m:Nat):Bool:=
 let cl:=FN ops
 let A:=idx 0 (ops.take m)
 (Nat.ble m ops.length)&&
 ((idx 0 ops).all fun e=>(bP e.2).all fun j=>Nat.blt j e.1)&&
 (A.all fun e=>O6 A cl e.1 e.2&&Lb m e.1 e.2&&O7 A e.1 e.2)&&
 ((idx 0 ops).all fun e=>Nat.blt e.1 m|| (List.range e.1).all fun j=>(cl.getD e.1 0).testBit j)
end
section
variable{ty:Tag→Nat}
def Compat(hp iB:Hp):Prop:= ∀n o o',look hp n=some o→look iB n=some o'→o=o'
section
variable{zb:cA}{st T:St}{a:Act}{w:World}{env:Env}
theorem Hz(c:Compat st.hp T.hp){tg:Option Tag}{v x:V}{u:Value}(hr:RA w T.hp env v u)(h:nZ st tg v=some x):nZ T tg v=some x:=by
 cases v with
 |own n=>
  obtain⟨⟨t,l,hl⟩,_⟩:=hr
  simp only[nZ]at h ⊢
  split at h
  ·rename_i t' l' hl'
   have:=c n _ _ hl' hl
   simp only[Obj.arr.injEq]at this
   obtain⟨rfl,jr⟩:=this
   rw[hl]
   simp only[←eq_of_heq jr]
   exact h
  ·cases h
 |sl t l=>exact h
 |vw n p t l=>exact h
 |mix n c t l=>exact h
 |yu n=>
  obtain⟨⟨t,l,s,hl⟩,_⟩:=hr
  simp only[nZ]at h ⊢
  split at h
  ·rename_i t' l' hl'
   have:=c n _ _ hl' hl
   rw[←this]at hl
   rw[hl];exact h
  ·rename_i t' l' m hl'
   have:=c n _ _ hl' hl
   rw[←this]at hl
   rw[hl];exact h
  ·cases h
 |lit v=>
  have e:nZ T tg (.lit v)=nZ st tg (.lit v):=by
   cases v with
   |slice a n c=>cases a<;>cases n<;>cases c<;>rfl
   |_=>rfl
  rw[e];exact h
 |_=>simp[nZ]at h
theorem Es(c:Compat st.hp T.hp): ∀{vs:List V} {tg:List (Option Tag)} {xs:List V} {us:List Value},bn (RA w T.hp env) vs us→GU st tg vs=some xs→GU T tg vs=some xs
 | [],_,xs,us,_,h=>h
 |v::r,tg,xs,us,hr,h=>by
  cases us with
  |nil=>exact hr.elim
  |cons u us=>
   simp only[GU]at h ⊢
   split at h
   ·rename_i x y h1 h2
    rw[Hz c hr.1 h1,Es c hr.2 h2]
    exact h
   ·cases h
theorem MZ(c:Compat st.hp T.hp){k:TK}{v x:S1}{u:Value}(hr:fG w T.hp env v u)(h:arg1 st k v=some x):arg1 T k v=some x:=by
 cases v with
 |a v=>
  simp only[arg1]at h ⊢
  split at h
  ·rename_i y hy
   rw[Hz c hr hy]
   exact h
  ·cases h
 |agg l=>
  obtain⟨cs,_,hl⟩:=hr
  simp only[arg1]at h ⊢
  split at h
  ·rename_i y hy
   rw[Es c hl hy]
   exact h
  ·cases h
theorem Cq{p:List (Nat×Bool)}{x:Operand}(hs: ∀t,x= .tmp t→look st.sl t=look T.sl t):gf st p x=gf T p x:=by
 cases x with
 |tmp t=>simp only[gf,hs t rfl]
 |_=>rfl
theorem M0{b:Bool}(c:Compat st.hp T.hp){k:TK}{v x:S1}{u:Value}(hr:fG w T.hp env v u)(h:ME b st k v=some x):ME b T k v=some x:=by
 unfold ME at h ⊢
 split at h
 ·exact h
 ·exact MZ c hr h
theorem yK{b:Bool}{Γ:Nat→TK}(c:Compat st.hp T.hp)(g:Good ty zb T a.tmps w env){p:List (Nat×Bool)}(hp:holds a.tmps p): ∀{xs:List Operand} {ts:List Nat} {as:List S1},(∀x,x∈xs→ ∀t,x= .tmp t→look st.sl t=look T.sl t)→args b Γ st p xs ts=some as→args b Γ T p xs ts=some as
 | [],_,as,_,h=>h
 |x::r,ts,as,hs,h=>by
  simp only[args]at h ⊢
  rw[←Cq (st:=st) (T:=T) (hs x (by simp))]
  split at h
  ·rename_i v hv
   split at h
   ·rename_i y ys h1 h2
    have hr:=eg g hp (by rw[←Cq (hs x (by simp))];exact hv)
    rw[M0 c hr h1,yK c g hp (fun z hz=>hs z (List.mem_cons_of_mem _ hz)) h2]
    exact h
   ·cases h
  ·cases h
theorem JS(c:Compat st.hp T.hp){k:TK}{v:V}{u:Value}{n:Int}(hr:RA w T.hp env v u)(h:lenOf st k v=some n):lenOf T k v=some n:=by
 cases v with
 |own m=>
  obtain⟨⟨t,l,hl⟩,_⟩:=hr
  simp only[lenOf]at h ⊢
  split at h
  ·split at h
   ·rename_i t' l' hl'
    have:=c m _ _ hl' hl
    simp only[Obj.arr.injEq]at this
    obtain⟨rfl,jr⟩:=this
    rw[hl]
    simp only[←eq_of_heq jr]
    exact h
   ·cases h
  ·cases h
 |sl t l=>exact h
 |vw n p t l=>exact h
 |lit v=>
  have e:lenOf T k (.lit v)=lenOf st k (.lit v):=by
   cases v with
   |slice a n c=>cases a<;>cases n<;>cases c<;>rfl
   |_=>rfl
  rw[e];exact h
 |_=>simp[lenOf]at h
theorem FO(c:Compat st.hp T.hp){v:V}{u:Value}(hr:RA w T.hp env v u){l:List UInt8}(h:bytesOf st v=some l):bytesOf T v=some l:=by
 cases v with
 |own n=>
  obtain⟨⟨t,l2,iI⟩,_⟩:=hr
  simp only[bytesOf]at h ⊢
  split at h
  ·rename_i l3 OG
   simp only[Option.some.injEq]at h
   subst h
   have:=c n _ _ OG iI
   simp only[Obj.arr.injEq]at this
   obtain⟨rfl,jr⟩:=this
   rw[iI]
   simp only[eq_of_heq jr]
  ·cases h
 |sl t l=>
  have e:bytesOf T (.sl t l)=bytesOf st (.sl t l):=by cases t<;>rfl
  rw[e];exact h
 |vw n p t l=>
  have e:bytesOf T (.vw n p t l)=bytesOf st (.vw n p t l):=by cases t<;>rfl
  rw[e];exact h
 |lit v=>
  have e:bytesOf T (.lit v)=bytesOf st (.lit v):=by
   cases v with
   |slice a n c=>cases a<;>cases n<;>cases c<;>rfl
   |_=>rfl
  rw[e];exact h
 |_=>simp[bytesOf]at h
theorem Af{p:List (Nat×Bool)}{g:Tag}: ∀{xs:List (Nat×Operand)} {i:Nat},(∀x,x∈xs→gf st p x.2=gf T p x.2)→n7 st p g i xs=n7 T p g i xs
 | [],_,_=>rfl
 | (j,x)::r,i,h=>by
   simp only[n7]
   rw[h (j,x) (by simp),Af (fun y hy=>h y (List.mem_cons_of_mem _ hy))]
theorem Cr{p:List (Nat×Bool)}{n:Nat}{fo:List Nat}: ∀{xs:List (Nat×Operand)} {c:List V},(∀x,x∈xs→gf st p x.2=gf T p x.2)→qx st p n fo xs c=qx T p n fo xs c
 | [],_,_=>rfl
 | (j,x)::r,c,h=>by
   simp only[qx]
   rw[h (j,x) (by simp)]
   have: ∀c',qx st p n fo r c'=qx T p n fo r c':=fun c'=>Cr (fun y hy=>h y (List.mem_cons_of_mem _ hy))
   simp only[this]
theorem uZ{p:List (Nat×Bool)}: ∀{xs:List Operand},(∀x,x∈xs→gf st p x=gf T p x)→wo st p xs=wo T p xs
 | [],_=>rfl
 |x::r,h=>by
  simp only[wo,RE]
  rw[h x (by simp),uZ (fun y hy=>h y (List.mem_cons_of_mem _ hy))]
theorem Et(c:Compat st.hp T.hp){v:V}{u:Value}(hr:RA w T.hp env v u){n:Nat}(hn:v.name=some n){o:Obj}(h:look st.hp n=some o):look T.hp n=some o:=by
 have: ∃o',look T.hp n=some o':=by
  cases v<;>simp only[V.name,Option.some.injEq,reduceCtorEq]at hn
  case own m=>subst hn;obtain⟨⟨t,l,hl⟩,_⟩:=hr;exact⟨_,hl⟩
  case ptr m off=>subst hn;obtain⟨⟨c,hl⟩,_⟩:=hr;exact⟨_,hl⟩
  case lS m i off=>subst hn;obtain⟨t,l,hl,_⟩:=hr;exact⟨_,hl⟩
  case vw m p t l=>subst hn;obtain⟨⟨t,l,hl⟩,_⟩:=hr;exact⟨_,hl⟩
  case AX m t l=>subst hn;obtain⟨⟨t,l,hl⟩,_⟩:=hr;exact⟨_,hl⟩
  case mix m c t l=>subst hn;obtain⟨⟨t,l,hl⟩,_⟩:=hr;exact⟨_,hl⟩
  case yu m=>subst hn;obtain⟨⟨t,l,s,hl⟩,_⟩:=hr;exact⟨_,hl⟩
  case yx f m=>subst hn;obtain⟨⟨c,hl⟩,_⟩:=hr;exact⟨_,hl⟩
  case Aw m p t x off=>subst hn;obtain⟨⟨t,l,hl⟩,_⟩:=hr;exact⟨_,hl⟩
 obtain⟨o',h'⟩:=this
 rw[c n _ _ h h'];exact h'
theorem yL(c:Compat st.hp T.hp): ∀{l d:List V} {n:Nat} {us:List Value},bn (RA w T.hp env) l us→wq st.hp l=some (d,n)→wq T.hp l=some (d,n)
 | [],_,_,_,_,h=>by simp[wq]at h
 |v::r,d,n,us,hr,h=>by
  cases us with
  |nil=>exact hr.elim
  |cons u us=>
   unfold wq at h
   split at h
   ·rename_i m r' he
    simp only[List.cons.injEq]at he
    obtain⟨rfl,rfl⟩:=he
    split at h
    ·rename_i t l hl oy
     have:=Et c hr.1 (n:=m) rfl hl
     simp only[wq,this,oy]
     exact h
    ·cases h
   ·cases h
   ·rename_i x r' VU he
    simp only[List.cons.injEq]at he
    obtain⟨rfl,rfl⟩:=he
    split at h
    ·rename_i c' n' h'
     have:=yL c hr.2 h'
     unfold wq
     split
     ·rename_i e;simp at e
     ·rename_i e;simp only[List.cons.injEq,V.lit.injEq]at e;exact absurd e.1 (by rintro rfl;exact VU _ _ _ rfl)
     ·rename_i e
      simp only[List.cons.injEq,V.lit.injEq]at e
      obtain⟨rfl,rfl⟩:=e
      rw[this];exact h
     ·rename_i e1 e2 e3;exact absurd rfl (e3 _ _)
    ·cases h
   ·cases h
theorem quiet_mono{Γ:Nat→TK}{E:Tag→Nat→Prop}{S:FuncId→List S1→List S1→Prop}(c:Compat st.hp T.hp)(g:Good ty zb T a.tmps w env){p:List (Nat×Bool)}(hp:holds a.tmps p){cr:List (Nat×CR)}{d m:Nat}{op:Op}{out:Out}
  (hs: ∀x,x∈op.operands.toList→ ∀t,x= .tmp t→look st.sl t=look T.sl t)(h:quiet Γ E S cr st p d m op=some out):quiet Γ E S cr T p d m op=some out:=by
 have ho: ∀{q x},x∈op.operands.toList→gf st q x=gf T q x:=fun hx=>Cq (hs _ hx)
 have hr: ∀{x v},x∈op.operands.toList→gf st p x=some v→fG w T.hp env v (a.eval x):=fun hx hv=>eg g hp (by rw[←ho hx];exact hv)
 have rn: ∀{x v n o},x∈op.operands.toList→gf st p x=some (.a v)→v.name=some n→look st.hp n=some o→look T.hp n=some o:=fun hx hv hn hl=>Et c (hr hx hv) hn hl
 cases op with
 |move x=>
  have hm:Oc st x=Oc T x:=by
   cases x with
   |tmp t=>simp only[Oc];rw[hs (.tmp t) (by simp[Op.operands]) t rfl]
   |_=>rfl
  simp only[quiet]at h ⊢;rw[←ho (by simp[Op.operands]), ←hm];exact h
 |assign x=>
  have hm:Oc st x=Oc T x:=by
   cases x with
   |tmp t=>simp only[Oc];rw[hs (.tmp t) (by simp[Op.operands]) t rfl]
   |_=>rfl
  simp only[quiet]at h ⊢;rw[←ho (by simp[Op.operands]), ←hm];exact h
 |nilCheck x=>simp only[quiet]at h ⊢;rw[←ho (by simp[Op.operands])];exact h
 |makeSlice t x y=>simp only[quiet]at h ⊢;rw[←ho (x:=x) (by simp[Op.operands]), ←ho (x:=y) (by simp[Op.operands])];exact h
 |buildSlice t n xs=>
  simp only[quiet]at h ⊢
  have hq: ∀g,n7 st p g 0 xs.toList=n7 T p g 0 xs.toList:=fun g=>Af fun x hx=>ho (by simp only[Op.operands,List.mem_map];exact⟨x,hx,rfl⟩)
  simp only[←hq]
  split at h
  case h_2=>cases h
  rename_i gt e hk
  cases hkey:(look cr (d+500000)).isSome with
  |false=>simp only[hkey]at h ⊢;exact h
  |true=>
   simp only[hkey]at h ⊢
   split at h
   case h_2=>cases h
   rename_i x hlen hps
   split at h
   case h_2=>cases h
   rename_i s hx
   split at h
   case h_2=>cases h
   rename_i cc n1 hc
   have hmem:x∈(Op.buildSlice t n xs).operands.toList:=by
    simp only[Op.operands,List.mem_map,Array.toList_map]
    exact⟨(0,x),by rw[hps];simp,rfl⟩
   have XY:=hr hmem hx
   have hown:wq T.hp (cellsOf s)=some (cc,n1):=by
    cases s with
    |agg l=>obtain⟨cs,_,hl⟩:=XY;exact yL c hl hc
    |a v=>exact yL c (us:= [a.eval x]) ⟨XY,trivial⟩ hc
   simp only[←ho hmem,hx,hown]
   exact h
 |build t xs=>
  simp only[quiet]at h ⊢
  have hq: ∀n fo z,qx st p n fo xs.toList z=qx T p n fo xs.toList z:=fun n fo z=>Cr fun x hx=>ho (by simp only[Op.operands,List.mem_map];exact⟨x,hx,rfl⟩)
  simp only[←hq]
  exact h
 |pick x y z=>
  cases x with
  |tmp t=>
   simp only[quiet]at h ⊢
   rw[←ho (x:= .tmp t) (by simp[Op.operands]), ←ho (x:=y) (by simp[Op.operands]), ←ho (x:=z) (by simp[Op.operands])]
   exact h
  |_=>simp[quiet]at h
 |box e x=>simp only[quiet]at h ⊢;rw[←ho (by simp[Op.operands])];exact h
 |alloc t=>exact h
 |load t x=>
  have hm:x∈(Op.load t x).operands.toList:=by simp[Op.operands]
  simp only[quiet]at h ⊢
  rw[←ho hm]
  split at h
  ·rename_i n off hx
   try rw[hx]
   try dsimp only
   split at h
   ·rename_i c2 iI
    rw[rn hm hx rfl iI]
    exact h
   ·cases h
  ·rename_i hx
   try rw[hx]
   exact h
  ·rename_i hx
   try rw[hx]
   exact h
  ·rename_i n i off hx
   try rw[hx]
   try dsimp only
   split at h
   ·rename_i c2 iI
    rw[rn hm hx rfl iI]
    exact h
   ·cases h
  ·cases h
 |binOp op t x y t'=>
  simp only[quiet]at h ⊢
  rw[←ho (x:=x) (by simp[Op.operands]), ←ho (x:=y) (by simp[Op.operands])]
  exact h
 |unOp op t x=>
  cases op with
  |not=>simp only[quiet]at h ⊢;rw[←ho (by simp[Op.operands])];exact h
  |neg=>simp only[quiet]at h ⊢;rw[←ho (by simp[Op.operands])];exact h
  |_=>simp[quiet]at h
 |convert s t x=>
  simp only[quiet]at h ⊢
  rw[←ho (x:=x) (by simp[Op.operands])]
  split at h
  ·rename_i ik n k1 k2 hx hk1 hk2
   try rw[hx,hk1,hk2]
   exact h
  ·rename_i v g' e hx hk1 hk2
   try rw[hx,hk1,hk2]
   try dsimp only
   split at h
   ·rename_i l Oz hl
    rw[Oz,FO c (show RA w T.hp env v _ from hr (x:=x) (by simp[Op.operands]) hx) hl]
    exact h
   ·cases h
  ·cases h
 |slice t x lo hi mx=>
  cases mx with
  |some _=>simp[quiet]at h
  |none=>
   have hb: ∀(b:Option Operand),(∀y,b=some y→y∈(Op.slice t x lo hi none).operands.toList)→ ∀z,MF st p z b=MF T p z b:=by
    intro b hm z
    cases b with
    |none=>rfl
    |some y=>simp only[MF];rw[ho (hm y rfl)]
   have hm:x∈(Op.slice t x lo hi none).operands.toList:=by simp[Op.operands]
   simp only[quiet]at h ⊢
   rw[←ho hm, ←hb lo (by rintro y rfl;simp[Op.operands])]
   simp only[←hb hi (by rintro y rfl;simp[Op.operands])]
   cases hkey:(look cr (d+600000)).isSome with
   |true=>simp only[hkey]at h ⊢;exact h
   |false=>
    simp only[hkey]at h ⊢
    split at h
    ·split at h
     ·rename_i hx hlo
      try rw[hx,hlo]
      exact h
     ·rename_i hx hlo
      try rw[hx,hlo]
      exact h
     ·rename_i hx hlo
      try rw[hx,hlo]
      try dsimp only
      split at h
      ·rename_i iI
       rw[rn hm hx rfl iI]
       exact h
      ·cases h
     ·cases h
    ·exact h
    ·cases h
 |makeFunc fn first captured=>
  cases fn with
  |func f=>
   simp only[quiet]at h ⊢
   split at h
   ·rename_i x hf hc
    try rw[hf,hc]
    try dsimp only
    have hm:x∈(Op.makeFunc (.func f) first captured).operands.toList:=by simp only[Op.operands,Array.toList_append,hf,hc];simp
    have e:=ho (q:=p) hm
    rw[←e]
    exact h
   ·cases h
  |_=>simp[quiet]at h
 |fieldAddr t x f=>
  simp only[quiet]at h ⊢
  rw[←ho (x:=x) (by simp[Op.operands])]
  exact h
 |indexAddr t x i=>
  have hm:x∈(Op.indexAddr t x i).operands.toList:=by simp[Op.operands]
  simp only[quiet]at h ⊢
  rw[←ho hm, ←ho (x:=i) (by simp[Op.operands])]
  split at h
  ·split at h
   ·rename_i hx hi
    try rw[hx,hi]
    exact h
   ·rename_i hx hi
    try rw[hx,hi]
    try dsimp only
    split at h
    ·rename_i iI
     rw[rn hm hx rfl iI]
     exact h
    ·cases h
   ·rename_i hx hi
    try rw[hx,hi]
    exact h
   ·cases h
  ·cases h
 |extract x i=>
  cases x with
  |tmp t=>simp only[quiet]at h ⊢;rw[←hs (.tmp t) (by simp[Op.operands]) t rfl];exact h
  |_=>simp[quiet]at h
 |call cl=>
  obtain⟨callee,xs,ts⟩:=cl
  have hop: ∀x,x∈xs.toList→x∈(Op.call ⟨callee,xs,ts⟩).operands.toList:=by
   intro x hx
   simp only[Op.operands,Call.operands,Array.toList_append]
   exact List.mem_append_right _ hx
  cases callee with
  |value x=>
   cases x with
   |func f=>
    simp only[quiet]at h ⊢
    split at h
    ·rename_i as c1 h1 h2
     rw[yK c g hp (fun x hx=>hs x (hop x hx)) h1,h2]
     exact h
    ·cases h
   |tmp y=>
    simp only[quiet]at h ⊢
    rw[←ho (x:= .tmp y) (by simp[Op.operands,Call.operands])]
    split at h
    ·rename_i v hv
     try rw[hv]
     try dsimp only
     split at h
     ·rename_i f hf
      try rw[hf]
      try dsimp only
      split at h
      ·rename_i as c1 h1 h2
       rw[yK c g hp (fun x hx=>hs x (hop x hx)) h1,h2]
       exact h
      ·cases h
     ·cases h
    ·cases h
   |_=>simp[quiet]at h
  |builtin b=>
   cases b with
   |len=>
    simp only[quiet]at h ⊢
    split at h
    ·rename_i x t hxl htl
     have hm:x∈xs.toList:=by rw[hxl];simp
     try rw[hxl,htl]
     try dsimp only
     rw[←ho (hop x hm)]
     split at h
     ·rename_i v hv
      try rw[hv]
      try dsimp only
      split at h
      ·rename_i n hn
       rw[JS c (show RA w T.hp env v _ from hr (hop x hm) hv) hn]
       exact h
      ·cases h
     ·cases h
    ·cases h
   |max=>simp only[quiet]at h ⊢;rw[←uZ (st:=st) (T:=T) (xs:=xs.toList) (fun x hx=>ho (hop x hx))];exact h
   |min=>simp only[quiet]at h ⊢;rw[←uZ (st:=st) (T:=T) (xs:=xs.toList) (fun x hx=>ho (hop x hx))];exact h
   |_=>simp[quiet]at h
  |invoke _ _=>simp[quiet]at h
 |_=>simp[quiet]at h
theorem M1{p:List (Nat×Bool)}(hs: ∀e,e∈p→look st.sl e.1=look T.sl e.1):hyps st p=hyps T p:=by
 induction p with
 |nil=>rfl
 |cons e r ih=>
  obtain⟨d,x⟩:=e
  simp only[hyps]
  rw[hs (d,x) (by simp),ih fun e he=>hs e (by simp[he])]
theorem Cs{Γ:Nat→TK}{E:Tag→Nat→Prop}{S:FuncId→List S1→List S1→Prop}(c:Compat st.hp T.hp)(g:Good ty zb T a.tmps w env)(hn:T.n=st.n){cO:List (Nat×Nat)}{cr:List (Nat×CR)}{ops:List Oper}{o:Oper}{p:List (Nat×Bool)}(eY:eN st ops o=some p)(hJ:eN T ops o=some p)(hp:holds a.tmps p)
  (hs: ∀x,x∈o.op.operands.toList→ ∀t,x= .tmp t→look st.sl t=look T.sl t)(hps: ∀e,e∈p→look st.sl e.1=look T.sl e.1){vc:List Prop}{v:SV}{os:Hp}(hf:fresh T.hp os=true)(h:ld Γ E S cO cr ops st o=some (vc,v,os)):
  ld Γ E S cO cr ops T o=some (vc,v,os):=by
 have hd:uI T o.dst=uI st o.dst:=by unfold uI;rw[hn]
 simp only[ld]at h ⊢
 rw[hd,hJ]
 rw[eY]at h
 split at h
 ·rename_i m e1 e2 e3
  simp only[Option.some.injEq]at e3
  subst e3
  try rw[e1,e2]
  try dsimp only
  split at h
  ·rename_i oc v1 os1 hq
   rw[quiet_mono c g hp hs hq]
   try dsimp only
   split at h
   ·rename_i h1 h2
    simp only[Option.some.injEq,Prod.mk.injEq]at h
    obtain⟨rfl,rfl,rfl⟩:=h
    simp only[hf,h2]
   ·cases h
  ·cases h
 ·rename_i m e p' e1 e2 e3
  simp only[Option.some.injEq]at e3
  subst e3
  try rw[e1,e2]
  try dsimp only
  split at h
  ·rename_i h1
   try rw[h1]
   try dsimp only
   split at h
   ·rename_i oc v1 hq
    rw[quiet_mono c g hp hs hq]
    try dsimp only
    rw[←M1 hps]
    exact h
   ·cases h
  ·cases h
 ·cases h
end
end
section
variable{ty:Tag→Nat}
def cK(oq:Nat→Bool)(tr:List TE)(s:St):Nat→St
 |0=>s
 |i+1=>match oq i,tr[i]? with
  |true,some e=>app (cK oq tr s i) e
  |_,_=>cK oq tr s i
abbrev pre(tr:List TE)(s:St)(i:Nat):St:=cK (fun _=>true) tr s i
structure Trace(Γ:Nat→TK)(E:Tag→Nat→Prop)(S:FuncId→List S1→List S1→Prop)(cO:List (Nat×Nat))(cr:List (Nat×CR))(ops:List Oper)(m:Nat)(s:St)(tr:List TE)(vcs:List Prop):Prop where
 len:tr.length=m
 one: ∀i,i<m→ ∃o e vc,ops[i]? =some o∧tr[i]? =some e∧o.dst=some e.d∧((pre tr s i).sl.any fun x=>x.2.mentions e.d)=false∧ld Γ E S cO cr ops (pre tr s i) o=some (vc,e.v,e.os)∧ ∀q,q∈vc→q∈vcs
theorem HA{Γ:Nat→TK}{E:Tag→Nat→Prop}{S:FuncId→List S1→List S1→Prop}{cO:List (Nat×Nat)}{cr:List (Nat×CR)}{ops:List Oper}: ∀{l:List Oper} {st rN:St} {acc vcs:List Prop},AD Γ E S cO cr ops l st acc=some (vcs,rN)→ ∀q,q∈acc→q∈vcs
 | [],st,rN,acc,vcs,h,q,hq=>by
   simp only[AD,Option.some.injEq,Prod.mk.injEq]at h
   rw[←h.1];exact hq
 |o::r,st,rN,acc,vcs,h,q,hq=>by
  obtain⟨vc,e,_,_,_,h2⟩:=Cp h
  exact HA h2 q (List.mem_append_right _ hq)
theorem oI(oq:Nat→Bool)(e:TE)(tr:List TE)(s:St)(h:oq 0=true): ∀i,cK oq (e::tr) s (i+1)=cK (fun j=>oq (j+1)) tr (app s e) i
 |0=>by simp[cK,h]
 |i+1=>by
  rw[cK,oI oq e tr s h i,cK]
  simp only[List.getElem?_cons_succ]
theorem HB{Γ:Nat→TK}{E:Tag→Nat→Prop}{S:FuncId→List S1→List S1→Prop}{cO:List (Nat×Nat)}{cr:List (Nat×CR)}{ops:List Oper}: ∀{l:List Oper} {k:Nat} {st rN:St} {acc vcs:List Prop},AD Γ E S cO cr ops l st acc=some (vcs,rN)→(∀i o,l[i]? =some o→ops[k+i]? =some o)→
  ∃tr:List TE,tr.length=l.length∧rN=pre tr st l.length∧ ∀i,i<l.length→ ∃o e vc,ops[k+i]? =some o∧tr[i]? =some e∧o.dst=some e.d∧((pre tr st i).sl.any fun x=>x.2.mentions e.d)=false∧ld Γ E S cO cr ops (pre tr st i) o=some (vc,e.v,e.os)∧ ∀q,q∈vc→q∈vcs
 | [],k,st,rN,acc,vcs,h,_=>by
   simp only[AD,Option.some.injEq,Prod.mk.injEq]at h
   exact⟨[],rfl,h.2.symm,fun i hi=>absurd hi (by simp)⟩
 |o::r,k,st,rN,acc,vcs,h,hk=>by
  obtain⟨vc,e,h1,h2,h3,h4⟩:=Cp h
  obtain⟨tr,q1,q2,q3⟩:=HB (k:=k+1) h4 (fun i o' ho=>by
   have:=hk (i+1) o' (by simpa using ho)
   rw[show k+1+i=k+(i+1)by omega];exact this)
  refine⟨e::tr,by simp[q1],?_,?_⟩
  ·rw[q2,List.length_cons]
   exact(oI (fun _=>true) e tr st rfl _).symm
  ·intro i hi
   cases i with
   |zero=>exact⟨o,e,vc,hk 0 o rfl,rfl,h1,h2,h3,fun q hq=>HA h4 q (List.mem_append_left _ hq)⟩
   |succ i=>
    obtain⟨o',e',UE,p1,p2,p3,p4,p5,p6⟩:=q3 i (by simpa using hi)
    refine⟨o',e',UE,by rw[show k+(i+1)=k+1+i by omega];exact p1,by simpa using p2,p3,?_,?_,p6⟩
    ·rw[pre,oI (fun _=>true) e tr st rfl i];exact p4
    ·rw[pre,oI (fun _=>true) e tr st rfl i];exact p5
section
variable{oq inE:Nat→Bool}{tr:List TE}{s:St}
theorem lq{i:Nat}{e:TE}(h:oq i=true)(he:tr[i]? =some e):cK oq tr s (i+1)=app (cK oq tr s i) e:=by rw[cK,h,he]
theorem wS{i:Nat}(h:oq i=false):cK oq tr s (i+1)=cK oq tr s i:=by rw[cK,h]
theorem nD: ∀i,(cK oq tr s i).n=s.n
 |0=>rfl
 |i+1=>by
  rw[cK]
  split
  ·exact nD i
  ·exact nD i
theorem fu: ∀{i j:Nat} {e:TE},j<i→oq j=true→tr[j]? =some e→(∀j' e',j'<i→oq j'=true→tr[j']? =some e'→e'.d=e.d→j'=j)→look (cK oq tr s i).sl e.d=some e.v
 |i+1,j,e,hj,hin,he,hd=>by
  by_cases hij:j=i
  ·subst hij
   rw[lq hin he];exact look_eq
  ·have ih:=fu (i:=i) (j:=j) (by omega) hin he (fun j' e' h1 h2 h3 h4=>hd j' e' (by omega) h2 h3 h4)
   rw[cK]
   split
   ·rename_i e' h1 h2
    have hne:e.d≠e'.d:=fun hh=>by
     have:=hd i e' (by omega) h1 h2 hh.symm
     omega
    show look ((e'.d,e'.v)::_) e.d=_
    rw[aW hne];exact ih
   ·exact ih
theorem iD: ∀{i:Nat} {t:Nat},(∀j e,j<i→oq j=true→tr[j]? =some e→e.d≠t)→look (cK oq tr s i).sl t=look s.sl t
 |0,_,_=>rfl
 |i+1,t,h=>by
  have ih:=iD (i:=i) (t:=t) fun j e h1 h2 h3=>h j e (by omega) h2 h3
  rw[cK]
  split
  ·rename_i e' h1 h2
   have hne:t≠e'.d:=fun hh=>h i e' (by omega) h1 h2 hh.symm
   show look ((e'.d,e'.v)::_) t=_
   rw[aW hne];exact ih
  ·exact ih
theorem Bb: ∀{i:Nat} {x:Nat×SV},x∈(cK oq tr s i).sl→x∈s.sl∨ ∃j e,j<i∧oq j=true∧tr[j]? =some e∧x=(e.d,e.v)
 |0,_,h=>Or.inl h
 |i+1,x,h=>by
  rw[cK]at h
  split at h
  ·rename_i e' h1 h2
   rcases List.mem_cons.1 (show x∈(e'.d,e'.v)::(cK oq tr s i).sl from h)with rfl|h
   ·exact Or.inr ⟨i,e',by omega,h1,h2,rfl⟩
   ·rcases Bb h with h| ⟨j,e,a,b⟩
    ·exact Or.inl h
    ·exact Or.inr ⟨j,e,by omega,b⟩
  ·rcases Bb h with h| ⟨j,e,a,b⟩
   ·exact Or.inl h
   ·exact Or.inr ⟨j,e,by omega,b⟩
def rP(tr:List TE)(s:St)(m:Nat):Prop:= ∀i e,i<m→tr[i]? =some e→ ∀n o,look e.os n=some o→look (pre tr s i).hp n=none
theorem rQ{m:Nat}(hf:rP tr s m): ∀{j i:Nat},i≤j→j≤m→ ∀{n o},look (pre tr s i).hp n=some o→look (pre tr s j).hp n=some o
 |0,i,hi,_,n,o,h=>by
  have:i=0:=by omega
  subst this;exact h
 |j+1,i,hi,hm,n,o,h=>by
  by_cases hij:i=j+1
  ·subst hij;exact h
  ·have ih:=rQ hf (j:=j) (i:=i) (by omega) (by omega) h
   show look (cK (fun _=>true) tr s (j+1)).hp n=_
   rw[cK]
   split
   ·rename_i e' _ h2
    show look (e'.os++(pre tr s j).hp) n=_
    cases hq:look e'.os n with
    |none=>rw[aQ hq];exact ih
    |some o'=>
     have:=hf j e' (by omega) h2 n o' hq
     rw[this]at ih;cases ih
   ·exact ih
theorem mL{m:Nat}(hf:rP tr s m): ∀{i:Nat},i≤m→ ∀{n o},look (cK oq tr s i).hp n=some o→look (pre tr s i).hp n=some o
 |0,_,n,o,h=>h
 |i+1,hm,n,o,h=>by
  rw[cK]at h
  split at h
  ·rename_i e' h1 h2
   have h:look (e'.os++(cK oq tr s i).hp) n=some o:=h
   rw[pre,lq rfl h2]
   show look (e'.os++(pre tr s i).hp) n=some o
   cases hq:look e'.os n with
   |none=>rw[aQ hq]at h ⊢;exact mL hf (by omega) h
   |some o'=>rw[bG hq]at h ⊢;exact h
  ·exact rQ hf (Nat.le_succ i) hm (mL hf (by omega) h)
theorem fL: ∀{i:Nat} {n:Nat} {o:Obj},look (cK oq tr s i).hp n=some o→look s.hp n=some o∨ ∃j e,j<i∧oq j=true∧tr[j]? =some e∧look e.os n=some o
 |0,_,_,h=>Or.inl h
 |i+1,n,o,h=>by
  rw[cK]at h
  split at h
  ·rename_i e' h1 h2
   have h:look (e'.os++(cK oq tr s i).hp) n=some o:=h
   cases hq:look e'.os n with
   |none=>
    rw[aQ hq]at h
    rcases fL h with h| ⟨j,e,a,b⟩
    ·exact Or.inl h
    ·exact Or.inr ⟨j,e,by omega,b⟩
   |some o'=>
    rw[bG hq]at h
    exact Or.inr ⟨i,e',by omega,h1,h2,by rw[hq];exact h⟩
  ·rcases fL h with h| ⟨j,e,a,b⟩
   ·exact Or.inl h
   ·exact Or.inr ⟨j,e,by omega,b⟩
theorem nE{m:Nat}(hf:rP tr s m): ∀{i:Nat},i≤m→ ∀{n o},look s.hp n=some o→look (cK oq tr s i).hp n=some o
 |0,_,n,o,h=>h
 |i+1,hm,n,o,h=>by
  have ih:=nE hf (i:=i) (by omega) h
  rw[cK]
  split
  ·rename_i e' h1 h2
   show look (e'.os++(cK oq tr s i).hp) n=some o
   cases hq:look e'.os n with
   |none=>rw[aQ hq];exact ih
   |some o'=>
    have h1:=hf i e' (by omega) h2 n o' hq
    have h3:=mL hf (by omega) ih
    rw[h1]at h3;cases h3
  ·exact ih
theorem mC{m:Nat}(hf:rP tr s m): ∀{i:Nat},i≤m→ ∀{j:Nat} {e:TE} {n:Nat} {o:Obj},j<i→oq j=true→tr[j]? =some e→look e.os n=some o→look (cK oq tr s i).hp n=some o
 |i+1,hm,j,e,n,o,hj,hin,he,h=>by
  by_cases hij:j=i
  ·subst hij
   rw[lq hin he]
   exact bG h
  ·have ih:=mC hf (i:=i) (by omega) (j:=j) (by omega) hin he h
   rw[cK]
   split
   ·rename_i e' h1 h2
    show look (e'.os++(cK oq tr s i).hp) n=some o
    cases hq:look e'.os n with
    |none=>rw[aQ hq];exact ih
    |some o'=>
     have h1:=hf i e' (by omega) h2 n o' hq
     have h3:=mL hf (by omega) ih
     rw[h1]at h3;cases h3
   ·exact ih
end
theorem Ct{hp:Hp}: ∀{os:Hp},(∀n o,look os n=some o→look hp n=none∧iA n=false)→fresh hp os=true
 | [],_=>rfl
 | (n,x)::r,h=>by
   simp only[fresh,Bool.and_eq_true]
   obtain⟨h1,h2⟩:=h n x look_eq
   refine⟨⟨by rw[h1],by rw[h2];rfl⟩,Ct fun k o hk=> ?_⟩
   by_cases hkn:k=n
   ·subst hkn;exact h k x look_eq
   ·exact h k o (by rw[aW hkn];exact hk)
theorem Good.congr{zb:cA}{st st':St}{tmps:Array Value}{w:World}{env:Env}(g:Good ty zb st tmps w env)(hs: ∀s v,look st'.sl s=some v→look st.sl s=some v)(hh: ∀n,look st'.hp n=look st.hp n):Good ty zb st' tmps w env:=by
 have s:Step (fun _=>True) (fun _=>True) w st.hp env w st'.hp env:=by
  refine⟨fun _ _ _=>rfl,?_,?_,?_⟩
  ·rintro b _ ⟨n,o,h1,h2⟩;exact⟨n,o,by rw[←hh];exact h1,h2⟩
  ·intro n o _ h1
   exact⟨o,by rw[hh];exact h1,by cases o<;>simp[Obj.like],rfl⟩
  ·intro n t l _ h1
   exact⟨by rw[hh];exact h1,rfl,fun _ _=>rfl⟩
 refine⟨fun n o hl=> ?_,fun n m o o' hne h1 h2=>g.kj n m o o' hne (by rw[←hh];exact h1) (by rw[←hh];exact h2),fun t v hl=>oC.step s (fun v _=>v.eD) (g.slot t v (hs t v hl)),fun n o hl=>g.dom n o (by rw[←hh];exact hl),g.pins⟩
 exact(g.obj n o (by rw[←hh];exact hl)).step s o.eD (fun _ _=>rfl)
end
section
variable{ty:Tag→Nat}
theorem wT{α:Type}: ∀{l:List α} {k i:Nat} {x:α},l[i]? =some x→(k+i,x)∈idx k l
 |y::r,k,0,x,h=>by simp at h;simp[idx,h]
 |y::r,k,i+1,x,h=>by
  have:=wT (l:=r) (k:=k+1) (i:=i) (by simpa using h)
  rw[idx];right
  rw[show k+(i+1)=k+1+i by omega];exact this
structure WG(ops:List Oper)(m:Nat):Prop where
 le:m≤ops.length
 back: ∀i o,ops[i]? =some o→ ∀j,j∈bP o→j<i
 uses: ∀i o,i<m→ops[i]? =some o→ ∀t,t∈tmpsOf o→ ∀k o',k<m→ops[k]? =some o'→o'.dst=some t→k=i∨k∈bP o∨(i<k∧((FN ops).getD k 0).testBit i=true)
 guard: ∀i o j x,i<m→ops[i]? =some o→o.guard=some (j,x)→j<i∧j<m∧j∈bP o
 dist: ∀i o k o' d,i<m→k<m→ops[i]? =some o→ops[k]? =some o'→o.dst=some d→o'.dst=some d→k=i
 tail: ∀i o,m≤i→ops[i]? =some o→ ∀j,j<i→((FN ops).getD i 0).testBit j=true
theorem UF{ops:List Oper}{m:Nat}(h:X2 ops m=true):WG ops m:=by
 simp only[X2,Bool.and_eq_true,List.all_eq_true,Bool.or_eq_true]at h
 obtain⟨⟨⟨h1,h2⟩,h3⟩,h4⟩:=h
 have hA: ∀{i o},i<m→ops[i]? =some o→(i,o)∈idx 0 (ops.take m):=by
  intro i o hi ho
  have:=wT (l:=ops.take m) (k:=0) (i:=i) (x:=o) (by rw[List.getElem?_take,if_pos hi];exact ho)
  simpa using this
 have hall: ∀{i o},ops[i]? =some o→(i,o)∈idx 0 ops:=by
  intro i o ho
  simpa using wT (l:=ops) (k:=0) ho
 refine⟨Nat.le_of_ble_eq_true h1,fun i o ho j hj=> ?_,fun i o hi ho t ht k o' hk ho' hd=> ?_,fun i o j x hi ho hg=> ?_,fun i o k o' d hi hk ho ho' hd hd'=> ?_,fun i o hi ho j hj=> ?_⟩
 ·have:=h2 _ (hall ho) j hj
  exact Nat.le_of_ble_eq_true this
 ·have hu:=(h3 _ (hA hi ho)).1.1
  simp only[O6,List.all_eq_true,Bool.or_eq_true,Bool.not_eq_true',List.any_eq_true,Bool.and_eq_true]at hu
  have X3:wQ o' t=true:=by simp[wQ,hd]
  rcases hu t ht _ (hA hk ho')with((q|q)|q)|q
  ·rw[X3]at q;cases q
  ·exact Or.inl (Nat.eq_of_beq_eq_true q)
  ·obtain⟨y,hy,q⟩:=q
   have hky:k=y:=Nat.eq_of_beq_eq_true q
   exact Or.inr (Or.inl (by rw[hky];exact hy))
  ·exact Or.inr (Or.inr ⟨Nat.le_of_ble_eq_true q.1,q.2⟩)
 ·have hgd:=(h3 _ (hA hi ho)).1.2
  simp only[Lb,hg,Bool.and_eq_true,List.any_eq_true]at hgd
  obtain⟨⟨q1,q2⟩,y,hy,q3⟩:=hgd
  have:=Nat.eq_of_beq_eq_true q3
  exact⟨Nat.le_of_ble_eq_true q1,Nat.le_of_ble_eq_true q2,by rw[this];exact hy⟩
 ·have hds:=(h3 _ (hA hi ho)).2
  simp only[O7,hd,List.all_eq_true,Bool.or_eq_true,Bool.not_eq_true']at hds
  rcases hds _ (hA hk ho')with q|q
  ·exact Nat.eq_of_beq_eq_true q
  ·simp[wQ,hd']at q
 ·rcases h4 _ (hall ho)with q|q
  ·have:=Nat.le_of_ble_eq_true q
   simp only at this
   omega
  ·exact q j (List.mem_range.2 hj)
theorem Lc: ∀(l:List Oper) (acc:List Nat),(∀j,j<acc.length→(l.foldl gQ acc).getD j 0=acc.getD j 0)∧
  ∀i o,l[i]? =some o→(∀j,j∈bP o→j<acc.length+i)→(l.foldl gQ acc).getD (acc.length+i) 0=(bP o).foldl (fun s j=>s|||2^j||| (l.foldl gQ acc).getD j 0) 0
 | [],acc=>⟨fun _ _=>rfl,fun i o h=>by simp at h⟩
 |o::r,acc=>by
  obtain⟨h1,h2⟩:=Lc r (gQ acc o)
  have hl:(gQ acc o).length=acc.length+1:=by simp[gQ]
  have ha: ∀j,j<acc.length→((o::r).foldl gQ acc).getD j 0=acc.getD j 0:=by
   intro j hj
   rw[List.foldl_cons,h1 j (by omega)]
   simp only[gQ,List.getD_eq_getElem?_getD]
   rw[List.getElem?_append_left hj]
  refine⟨ha,fun i o' ho hj=> ?_⟩
  cases i with
  |zero=>
   simp at ho
   subst ho
   rw[Nat.add_zero,List.foldl_cons,h1 _ (by omega)]
   have:(gQ acc o).getD acc.length 0=(bP o).foldl (fun s j=>s|||2^j|||acc.getD j 0) 0:=by
    simp[gQ,List.getD_eq_getElem?_getD]
   rw[this]
   have WH: ∀(es:List Nat) (s0:Nat),(∀j,j∈es→j<acc.length)→es.foldl (fun s j=>s|||2^j|||acc.getD j 0) s0=es.foldl (fun s j=>s|||2^j||| (r.foldl gQ (gQ acc o)).getD j 0) s0:=by
    intro es
    induction es with
    |nil=>intros;rfl
    |cons j es ih=>
     intro s0 hh
     rw[List.foldl_cons,List.foldl_cons,ih _ fun k hk=>hh k (by simp[hk])]
     have:=ha j (hh j (by simp))
     rw[List.foldl_cons]at this
     rw[this]
   exact WH _ _ fun j YH=>by simpa using hj j YH
  |succ i=>
   have:=h2 i o' (by simpa using ho) (fun j YH=>by rw[hl];have:=hj j YH;omega)
   rw[hl,show acc.length+1+i=acc.length+(i+1)by omega]at this
   rw[List.foldl_cons];exact this
theorem Cu(g:Nat→Nat)(k:Nat): ∀(es:List Nat) (s0:Nat),(es.foldl (fun s j=>s|||2^j|||g j) s0).testBit k=true→s0.testBit k=true∨ ∃j,j∈es∧(k=j∨(g j).testBit k=true)
 | [],s0,h=>Or.inl h
 |j::es,s0,h=>by
  rcases Cu g k es _ h with h| ⟨i,hi,h⟩
  ·rw[Nat.testBit_or,Nat.testBit_or,Nat.testBit_two_pow]at h
   simp only[Bool.or_eq_true,decide_eq_true_eq]at h
   rcases h with(h|h)|h
   ·exact Or.inl h
   ·exact Or.inr ⟨j,by simp,Or.inl h.symm⟩
   ·exact Or.inr ⟨j,by simp,Or.inr h⟩
  ·exact Or.inr ⟨i,by simp[hi],h⟩
theorem rR{ops:List Oper}(hb: ∀i o,ops[i]? =some o→ ∀j,j∈bP o→j<i){D:Nat→Prop}(hD: ∀i o,D i→ops[i]? =some o→ ∀j,j∈bP o→D j): ∀(i:Nat) (o:Oper),ops[i]? =some o→(∀j,j∈bP o→D j)→ ∀k,((FN ops).getD i 0).testBit k=true→D k:=by
 intro i
 induction i using Nat.strongRecOn with
 |_ i ih=>
  intro o ho he k hk
  have:=(Lc ops []).2 i o ho (fun j hj=>by simpa using hb i o ho j hj)
  simp only[List.length_nil,Nat.zero_add]at this
  have hc:(FN ops).getD i 0=(bP o).foldl (fun s j=>s|||2^j||| (FN ops).getD j 0) 0:=this
  rw[hc]at hk
  rcases Cu _ k _ _ hk with h| ⟨j,hj,h⟩
  ·simp at h
  ·rcases h with rfl|h
   ·exact he k hj
   ·have hji:=hb i o ho j hj
    have hlen:j<ops.length:=by have:=(List.getElem?_eq_some_iff.1 ho).1;omega
    exact ih j hji ops[j] (List.getElem?_eq_getElem hlen) (hD j _ (he j hj) (List.getElem?_eq_getElem hlen)) k h
section
variable{P:Program}{Γ:Nat→TK}{cO:List (Nat×Nat)}{cr:List (Nat×CR)}{ops:List Oper}{m:Nat}{s:St}{tr:List TE}{vcs:List Prop}
theorem gD{E:Tag→Nat→Prop}{S:FuncId→List S1→List S1→Prop}{st:St}{o:Oper}{vc:List Prop}{v:SV}{os:Hp}(h:ld Γ E S cO cr ops st o=some (vc,v,os)):
  ∃p,eN st ops o=some p∧(p= []→ ∀q x,v≠ .cond q x)∧(p≠ []→(∃x,v= .cond p x)∧os= []∧ ∀d,o.dst=some d→ ∀e,e∈p→e.1≠d)∧(∀n x,look os n=some x→look st.hp n=none∧iA n=false):=by
 unfold ld at h
 split at h
 ·rename_i nm _ _ hg
  split at h
  ·rename_i oc v1 os1 hq
   split at h
   ·rename_i hf _
    simp only[Option.some.injEq,Prod.mk.injEq]at h
    obtain⟨_,rfl,rfl⟩:=h
    refine⟨[],hg,fun _ q x=> ?_,fun hh=>absurd rfl hh,fun n x hl=>⟨mG hf n x hl,yB hf n x hl⟩⟩
    rintro rfl
    unfold quiet Oc at hq
    repeat' split at hq
    all_goals first
     | (cases hq;done)
     | (simp only[dA,Option.some.injEq,Out.mk.injEq]at hq;cases hq.2.1;done)
     | (simp only[Option.some.injEq,Out.mk.injEq]at hq;cases hq.2.1;done)
     | (simp only[Option.some.injEq]at hq;unfold outs at hq;(repeat' split at hq)<;>(simp only[Out.mk.injEq]at hq;cases hq.2.1))
   ·cases h
  ·cases h
 ·rename_i nm e p _ _ hg
  split at h
  ·rename_i WI
   split at h
   ·rename_i oc v1 hq
    simp only[Option.some.injEq,Prod.mk.injEq]at h
    obtain⟨_,rfl,rfl⟩:=h
    refine⟨e::p,hg,(fun hh=>by cases hh),fun _=>⟨⟨_,rfl⟩,rfl,fun d hd x hx hxd=> ?_⟩,fun n x hl=>by simp[look]at hl⟩
    rw[List.any_eq_false]at WI
    exact WI x hx (by rw[hd,hxd];simp)
   ·cases h
  ·cases h
 ·cases h
theorem Trace.fresh{E:Tag→Nat→Prop}{S:FuncId→List S1→List S1→Prop}(T:Trace Γ E S cO cr ops m s tr vcs):rP tr s m:=by
 intro i e hi he n x hl
 obtain⟨o,e',vc,_,he',_,_,hq,_⟩:=T.one i hi
 rw[he]at he'
 simp only[Option.some.injEq]at he'
 subst he'
 obtain⟨p,_,_,_,hf⟩:=gD hq
 exact(hf n x hl).1
theorem Trace.path{E:Tag→Nat→Prop}{S:FuncId→List S1→List S1→Prop}(T:Trace Γ E S cO cr ops m s tr vcs)(K:WG ops m): ∀(i:Nat),i<m→ ∀o p,ops[i]? =some o→eN (pre tr s i) ops o=some p→ ∀e,e∈p→
  ∃k o',k<i∧ops[k]? =some o'∧o'.dst=some e.1∧ ∀D:Nat→Prop,(∀i o,D i→ops[i]? =some o→ ∀j,j∈bP o→D j)→(∀j,j∈bP o→D j)→D k:=by
 intro i
 induction i using Nat.strongRecOn with
 |_ i ih=>
  intro hi o p ho hg e he
  unfold eN at hg
  split at hg
  ·simp at hg;subst hg;simp at he
  ·rename_i j x hgd
   obtain⟨hji,YI,VV⟩:=K.guard i o j x hi ho hgd
   obtain⟨q,ej,vcj,hq,YJ,Tt,_,O8,_⟩:=T.one j YI
   rw[hq]at hg
   dsimp only at hg
   rw[Tt]at hg
   dsimp only at hg
   have rM:look (pre tr s i).sl ej.d=some ej.v:=by
    refine fu hji rfl YJ fun j' e' h1 _ h3 h4=> ?_
    obtain⟨q',e2,_,Sb,wJ,hd2,_⟩:=T.one j' (by omega)
    rw[h3]at wJ
    simp only[Option.some.injEq]at wJ
    subst wJ
    exact K.dist j q j' q' ej.d YI (by omega) hq Sb Tt (by rw[hd2,h4])
   rw[rM]at hg
   obtain⟨pj,UG,fQ,eZ,_⟩:=gD O8
   have base: ∃k o',k<i∧ops[k]? =some o'∧o'.dst=some ej.d∧ ∀D:Nat→Prop,(∀i o,D i→ops[i]? =some o→ ∀j,j∈bP o→D j)→(∀j,j∈bP o→D j)→D k:=
    ⟨j,q,hji,hq,Tt,fun D _ hE=>hE j VV⟩
   split at hg
   ·simp only[Option.some.injEq]at hg
    subst hg
    simp only[List.mem_singleton]at he
    subst he
    exact base
   ·rename_i p' b hv
    simp only[Option.some.injEq]at hv
    simp only[Option.some.injEq]at hg
    subst hg
    rcases List.mem_cons.1 he with rfl|he
    ·exact base
    ·have WD:pj=p':=by
      by_cases hnil:pj= []
      ·exact absurd hv (fQ hnil _ _)
      ·obtain⟨x',hx'⟩:=(eZ hnil).1
       rw[hx']at hv
       simp only[SV.cond.injEq]at hv
       exact hv.1
     subst WD
     obtain⟨k,o',h1,h2,h3,h4⟩:=ih j hji YI q pj hq UG e he
     exact⟨k,o',by omega,h2,h3,fun D hD hE=>h4 D hD (hD j q (hE j VV) hq)⟩
   ·cases hg
theorem M3(C: ∀t,cw P t (Γ t))(T:Trace Γ (Jc P ty) (Sound ty P) cO cr ops m s tr vcs)(K:WG ops m)(hv: ∀q,q∈vcs→q)(hnc:FM s.sl=true){zb:cA}{Q:Exit→Act→World→Prop}{D:Nat→Bool}(Tu: ∀i,D i=true→i<m)(Bc: ∀i o,D i=true→ops[i]? =some o→ ∀j,j∈bP o→D j=true)
  {i:Nat}(hi:i<m)(Dw:D i=false){o:Oper}(ho:ops[i]? =some o)(hE: ∀j,j∈bP o→D j=true){a:Act}{w:World}(iv:Inv ty zb (cK D tr s m) a w):
  oF P ops.toArray o a w (fun a' w'=>Inv ty zb (cK (fun j=>D j||j==i) tr s m) a' w') Q:=by
 obtain⟨o',e,vc,ho',he,hd,hnm,hq,RT⟩:=T.one i hi
 rw[ho]at ho'
 simp only[Option.some.injEq]at ho'
 subst ho'
 have hfr:=T.fresh
 have hdist: ∀{j e'},j<m→tr[j]? =some e'→ ∃q,ops[j]? =some q∧q.dst=some e'.d:=by
  intro j e' hj he'
  obtain⟨q,e2,_,Sb,wJ,hd2,_⟩:=T.one j hj
  rw[he']at wJ
  simp only[Option.some.injEq]at wJ
  subst wJ
  exact⟨q,Sb,hd2⟩
 have rS: ∀{j j':Nat} {e1 e2:TE},j<m→j'<m→tr[j]? =some e1→tr[j']? =some e2→e2.d=e1.d→j'=j:=by
  intro j j' e1 e2 h1 h2 h3 h4 h5
  obtain⟨q1,p1,p2⟩:=hdist h1 h3
  obtain⟨q2,p3,p4⟩:=hdist h2 h4
  exact K.dist j q1 j' q2 e1.d h1 h2 p1 p3 p2 (by rw[p4,h5])
 have bp: ∀t,(∀k o',k<m→ops[k]? =some o'→o'.dst=some t→k=i∨(k<i∧D k=true)∨(i<k∧D k=false))→look (pre tr s i).sl t=look (cK D tr s m).sl t:=by
  intro t ht
  by_cases hex: ∃k e',k<i∧D k=true∧tr[k]? =some e'∧e'.d=t
  ·obtain⟨k,e',hk,lR,he',rfl⟩:=hex
   rw[fu hk rfl he' fun j' e2 h1 _ h3 h4=>rS (by omega) (by omega) he' h3 h4,fu (by omega) lR he' fun j' e2 h1 _ h3 h4=>rS (by omega) h1 he' h3 h4]
  ·rw[iD (fun k e' hk _ he' hdt=>by
      obtain⟨q,h1,h2⟩:=hdist (by omega) he'
      rcases ht k q (by omega) h1 (by rw[h2,hdt])with h|h|h
      ·omega
      ·exact hex ⟨k,e',hk,h.2,he',hdt⟩
      ·omega),
    iD (fun k e' hk lR he' hdt=>by
     obtain⟨q,h1,h2⟩:=hdist hk he'
     rcases ht k q hk h1 (by rw[h2,hdt])with h|h|h
     ·subst h;rw[Dw]at lR;cases lR
     ·exact hex ⟨k,e',h.1,h.2,he',hdt⟩
     ·rw[h.2]at lR;cases lR)]
 obtain⟨p,eY,fQ,eZ,DC⟩:=gD hq
 have WJ: ∀x,x∈p→ ∃k o',k<i∧ops[k]? =some o'∧o'.dst=some x.1∧D k=true:=by
  intro x hx
  obtain⟨k,o',h1,h2,h3,h4⟩:=T.path K i hi o p ho eY x hx
  exact⟨k,o',h1,h2,h3,h4 (fun j=>D j=true) Bc hE⟩
 have wU: ∀x,x∈p→look (pre tr s i).sl x.1=look (cK D tr s m).sl x.1:=by
  intro x hx
  obtain⟨k,o',h1,h2,h3,h4⟩:=WJ x hx
  refine bp x.1 fun k' o2 hk' GK hd2=> ?_
  have:k'=k:=K.dist k o' k' o2 x.1 (by omega) hk' h2 GK h3 hd2
  subst this
  exact Or.inr (Or.inl ⟨h1,h4⟩)
 have hJ:eN (cK D tr s m) ops o=some p:=by
  rw[←eY]
  unfold eN
  split
  ·rfl
  ·rename_i j x hgd
   split
   ·rename_i q Cv
    split
    ·rename_i d Jg
     have hmem: ∃y,(d,y)∈p:=by
      unfold eN at eY
      rw[hgd]at eY
      dsimp only at eY
      rw[Cv]at eY
      dsimp only at eY
      rw[Jg]at eY
      dsimp only at eY
      split at eY
      ·simp only[Option.some.injEq]at eY;exact⟨x,by rw[←eY];simp⟩
      ·simp only[Option.some.injEq]at eY;exact⟨x,by rw[←eY];simp⟩
      ·cases eY
     obtain⟨y,hy⟩:=hmem
     rw[←wU (d,y) hy]
    ·rfl
   ·rfl
 have JT:fresh (cK D tr s m).hp e.os=true:=by
  refine Ct fun n x hl=> ?_
  cases KZ:look (cK D tr s m).hp n with
  |none=>exact⟨rfl,(DC n x hl).2⟩
  |some y=>
   exfalso
   have hpi:=hfr i e hi he n x hl
   rcases fL KZ with h| ⟨j,e',hj,yM,he',h⟩
   ·have:=nE (oq:=fun _=>true) hfr (i:=i) (by omega) h
    rw[show cK (fun _=>true) tr s i=pre tr s i from rfl,hpi]at this
    cases this
   ·have hji:j≠i:=by rintro rfl;rw[Dw]at yM;cases yM
    by_cases hlt:j<i
    ·have:=mC (oq:=fun _=>true) hfr (i:=i) (by omega) hlt rfl he' h
     rw[show cK (fun _=>true) tr s i=pre tr s i from rfl,hpi]at this
     cases this
    ·have h2:=hfr j e' hj he' n y h
     have:=mC (oq:=fun _=>true) hfr (i:=j) (by omega) (j:=i) (by omega) rfl he hl
     rw[show cK (fun _=>true) tr s j=pre tr s j from rfl,h2]at this
     cases this
 have O9:((cK D tr s m).sl.any fun x=>x.2.mentions e.d)=false:=by
  rw[List.any_eq_false]
  intro x hx hm
  rcases Bb hx with h| ⟨j,e',hj,yM,he',rfl⟩
  ·simp only[FM,List.all_eq_true]at hnc
   have:=hnc x h
   cases rT:x.2 with
   |cond q y=>simp[rT]at this
   |one y=>simp[rT,SV.mentions]at hm
   |rC y=>simp[rT,SV.mentions]at hm
  ·obtain⟨q,e2,RZ,Cv,wJ,hd2,_,O8,_⟩:=T.one j hj
   rw[he']at wJ
   simp only[Option.some.injEq]at wJ
   subst wJ
   obtain⟨pj,UG,hj0,OD,_⟩:=gD O8
   by_cases hnil:pj= []
   ·cases rT:e'.v with
    |cond q y=>exact hj0 hnil _ _ rT
    |one y=>simp[rT,SV.mentions]at hm
    |rC y=>simp[rT,SV.mentions]at hm
   ·obtain⟨y,hy⟩:=(OD hnil).1
    simp only[hy,SV.mentions,List.any_eq_true]at hm
    obtain⟨z,hz,hzd⟩:=hm
    have hzd:=Nat.eq_of_beq_eq_true hzd
    obtain⟨k,o2,k1,k2,k3,k4⟩:=T.path K j hj q pj Cv UG z hz
    have lR:=k4 (fun j=>D j=true) Bc (Bc j q yM Cv)
    have:k=i:=K.dist i o k o2 e.d hi (by omega) ho k2 hd (by rw[k3,hzd])
    subst this
    rw[Dw]at lR;cases lR
 have XQ:e.v.mentions e.d=false:=by
  by_cases hnil:p= []
  ·cases rT:e.v with
   |cond q y=>exact absurd rT (fQ hnil _ _)
   |one y=>rfl
   |rC y=>rfl
  ·obtain⟨⟨y,hy⟩,_,hne⟩:=eZ hnil
   rw[hy]
   simp only[SV.mentions]
   rw[List.any_eq_false]
   intro z hz hb
   exact hne e.d hd z hz (Nat.eq_of_beq_eq_true hb)
 have behind: ∀a' w',Inv ty zb (app (cK D tr s m) e) a' w'→Inv ty zb (cK (fun j=>D j||j==i) tr s m) a' w':=by
  intro a' w' lU
  obtain⟨env,g⟩:=lU.good
  refine⟨by rw[lU.size,nD];show(cK D tr s m).n=s.n;exact nD m,lU.defers,lU.kept,lU.A3,env,g.congr ?_ ?_⟩
  ·intro t v hl
   show look ((e.d,e.v)::(cK D tr s m).sl) t=some v
   by_cases ht:t=e.d
   ·subst ht
    rw[fu hi (by simp) he fun j' e2 h1 _ h3 h4=>rS hi h1 he h3 h4]at hl
    rw[look_eq];exact hl
   ·rw[aW ht]
    by_cases hex: ∃k e',k<m∧D k=true∧tr[k]? =some e'∧e'.d=t
    ·obtain⟨k,e',hk,lR,he',rfl⟩:=hex
     rw[fu hk (by simp[lR]) he' fun j' e2 h1 _ h3 h4=>rS hk h1 he' h3 h4]at hl
     rw[fu hk lR he' fun j' e2 h1 _ h3 h4=>rS hk h1 he' h3 h4]
     exact hl
    ·rw[iD fun k e' hk lR he' hdt=>by
      simp only[Bool.or_eq_true,beq_iff_eq]at lR
      rcases lR with h|rfl
      ·exact hex ⟨k,e',hk,h,he',hdt⟩
      ·rw[he]at he'
       simp only[Option.some.injEq]at he'
       exact ht (by rw[he',hdt])]at hl
     rw[iD fun k e' hk lR he' hdt=>hex ⟨k,e',hk,lR,he',hdt⟩]
     exact hl
  ·intro n
   show look (cK (fun j=>D j||j==i) tr s m).hp n=look (e.os++(cK D tr s m).hp) n
   cases hl:look e.os n with
   |some x=>
    rw[bG hl]
    exact mC hfr (Nat.le_refl _) hi (by simp) he hl
   |none=>
    rw[aQ hl]
    cases hx:look (cK (fun j=>D j||j==i) tr s m).hp n with
    |some y=>
     rcases fL hx with h| ⟨j,e',hj,yM,he',h⟩
     ·exact(nE hfr (Nat.le_refl _) h).symm
     ·have hji:j≠i:=by
       rintro rfl
       rw[he]at he'
       simp only[Option.some.injEq]at he'
       subst he'
       rw[hl]at h;cases h
      have yM:D j=true:=by
       simp only[Bool.or_eq_true,beq_iff_eq]at yM
       exact yM.resolve_right hji
      exact(mC hfr (Nat.le_refl _) hj yM he' h).symm
    |none=>
     cases hy:look (cK D tr s m).hp n with
     |none=>rfl
     |some y=>
      rcases fL hy with h| ⟨j,e',hj,yM,he',h⟩
      ·rw[nE hfr (Nat.le_refl _) h]at hx;cases hx
      ·rw[mC hfr (Nat.le_refl _) hj (by simp[yM]) he' h]at hx;cases hx
 have hput:St.put ⟨(cK D tr s m).n,(cK D tr s m).sl,e.os++(cK D tr s m).hp⟩ o.dst e.v=app (cK D tr s m) e:=by
  rw[hd]
  simp only[St.put,O9]
  rfl
 by_cases hw:Region.wanted o (yielded ops.toArray a.tmps)=true
 ·have hh:holds a.tmps p:=by
   obtain⟨env,g⟩:=iv.good
   unfold eN at hJ
   split at hJ
   ·simp at hJ;subst hJ;intro y hy;simp at hy
   ·rename_i j x hgd
    split at hJ
    ·rename_i q Cv
     split at hJ
     ·rename_i d Jg
      have UH:=(mH (ops:=ops.toArray) hgd (by simpa using Cv) Jg a.tmps).1 hw
      split at hJ
      ·simp only[Option.some.injEq]at hJ
       subst hJ
       intro y hy
       simp at hy
       subst hy
       exact UH
      ·rename_i p' b hl
       simp only[Option.some.injEq]at hJ
       subst hJ
       intro y hy
       rcases List.mem_cons.1 hy with rfl|hy
       ·exact UH
       ·exact(tH g hl UH).1 y hy
      ·cases hJ
     ·cases hJ
    ·cases hJ
  obtain⟨env,g⟩:=iv.good
  have FP:Compat (pre tr s i).hp (cK D tr s m).hp:=by
   intro n x y h1 h2
   have h3:=rQ hfr (Nat.le_of_lt hi) (Nat.le_refl m) h1
   have h4:=mL hfr (Nat.le_refl m) h2
   rw[h3]at h4
   simpa using h4
  have hmono:=Cs FP g (by rw[nD,nD]) eY hJ hh (fun x hx t YK=>bp t fun k o2 hk GK hd2=>by
    have ht:t∈tmpsOf o:=by
     simp only[tmpsOf,List.mem_filterMap]
     exact⟨x,hx,by rw[YK]⟩
    rcases K.uses i o hi ho t ht k o2 hk GK hd2 with h|h|h
    ·exact Or.inl h
    ·exact Or.inr (Or.inl ⟨K.back i o ho k h,hE k h⟩)
    ·refine Or.inr (Or.inr ⟨h.1,?_⟩)
     cases lR:D k with
     |false=>rfl
     |true=>
      have:=rR (D:=fun j=>D j=true) K.back Bc k o2 GK (Bc k o2 lR GK) i h.2
      rw[Dw]at this;cases this) wU JT hq
  have:=B0 (Q:=Q) C hmono iv (fun q hq=>hv q (RT q hq))
  rw[hput]at this
  exact this.mono behind
 ·unfold oF
  rw[if_neg hw]
  have hnil:p≠ []:=by
   rintro rfl
   unfold eN at eY
   split at eY
   ·rename_i hgd;exact hw (by simp[Region.wanted,hgd])
   ·repeat' split at eY
    all_goals simp at eY
  obtain⟨⟨y,hy⟩,hos,_⟩:=eZ hnil
  have YL: ¬holds a.tmps p:=by
   intro hh
   unfold eN at eY
   split at eY
   ·rename_i hgd;exact hw (by simp[Region.wanted,hgd])
   ·rename_i j x hgd
    split at eY
    ·rename_i q Cv
     split at eY
     ·rename_i d Jg
      have YM:(d,x)∈p:=by
       split at eY
       ·simp only[Option.some.injEq]at eY;rw[←eY];simp
       ·simp only[Option.some.injEq]at eY;rw[←eY];simp
       ·cases eY
      exact hw ((mH (ops:=ops.toArray) hgd (by simpa using Cv) Jg a.tmps).2 (hh _ YM))
     ·cases eY
    ·cases eY
  apply behind
  obtain⟨env,g⟩:=iv.good
  have hlt:e.d<a.tmps.size:=by
   unfold ld at hq
   have:uI (pre tr s i) o.dst=true:=by
    cases Pa:uI (pre tr s i) o.dst with
    |true=>rfl
    |false=>rw[Pa]at hq;simp at hq
   rw[hd]at this
   rw[iv.size,nD]
   have:=Nat.le_of_ble_eq_true this
   rw[show(pre tr s i).n=s.n from nD i]at this
   exact this
  have Pc:=g.put (d:=e.d) hlt (v:=e.v) (u:=undef) (by rw[hy];exact⟨fun hh=>absurd hh YL,fun _=>rfl⟩) XQ
  refine⟨by rw[gB];exact iv.size,by rw[put_defers];exact iv.defers,iv.kept,iv.A3,env,?_⟩
  rw[hd]
  have UI:(cK D tr s m).put (some e.d) e.v=app (cK D tr s m) e:=by
   simp only[St.put,O9,app,hos]
   rfl
  rw[UI]at Pc
  exact Pc
end
end
section
variable{ty:Tag→Nat}
theorem ju{ops:List Oper}{listed:Array Bool}(hl:listed.size=ops.length){i:Nat}:i∈Region.ready .any ops.toArray listed↔ ∃o,ops[i]? =some o∧listed.getD i false=false∧ ∀j,j∈bP o→listed.getD j false=true:=by
 unfold Region.ready
 rw[List.mem_filter,List.mem_range]
 simp only[List.size_toArray,List.getElem?_toArray,Bool.and_eq_true,Bool.not_eq_true']
 constructor
 ·rintro⟨hi,h1,h2⟩
  refine⟨ops[i],List.getElem?_eq_getElem hi,?_,?_⟩
  ·have:listed[i]? =some listed[i]:=by simp[hl,hi]
   rw[Array.getD_eq_getD_getElem?,this]at h1 ⊢
   exact h1
  ·intro j hj
   simp only[bP,List.mem_filterMap,Array.mem_toList_iff]at hj
   obtain⟨e,he,hj⟩:=hj
   split at hj
   ·rename_i hb
    simp only[Option.some.injEq]at hj
    subst hj
    rw[List.getElem?_eq_getElem hi]at h2
    simp only[Option.map_some,Option.getD_some]at h2
    have:=Array.all_eq_true_iff_forall_mem.1 h2 e he
    simpa[hb]using this
   ·cases hj
 ·rintro⟨o,ho,h1,h2⟩
  have hi:=(List.getElem?_eq_some_iff.1 ho).1
  refine⟨hi,?_,?_⟩
  ·have:listed[i]? =some listed[i]:=by simp[hl,hi]
   rw[Array.getD_eq_getD_getElem?,this]at h1 ⊢
   exact h1
  ·rw[ho]
   simp only[Option.map_some,Option.getD_some]
   rw[Array.all_eq_true_iff_forall_mem]
   intro e he
   cases hb:Region.binds .any e with
   |false=>simp
   |true=>
    have:=h2 e.on (by
     simp only[bP,List.mem_filterMap,Array.mem_toList_iff]
     exact⟨e,he,by simp[hb]⟩)
    simp[this]
theorem wV{listed:Array Bool}{i j:Nat}(hi:i<listed.size):(listed.setIfInBounds i true).getD j false=(listed.getD j false||j==i):=by
 rw[Array.getD_eq_getD_getElem?,Array.getD_eq_getD_getElem?]
 by_cases hij:i=j
 ·subst hij
  rw[Array.getElem?_setIfInBounds_self_of_lt hi];simp
 ·rw[Array.getElem?_setIfInBounds_ne hij]
  simp[show¬j=i from fun h=>hij h.symm]
def cnt(n:Nat)(D:Nat→Bool):Nat:=((List.range n).filter fun i=> !D i).length
theorem filter_lt{p q:Nat→Bool}: ∀{l:List Nat},(∀x,x∈l→q x=true→p x=true)→(∃x,x∈l∧p x=true∧q x=false)→(l.filter q).length<(l.filter p).length
 |y::r,h,⟨x,hx,hp,hq⟩=>by
  have le: ∀{l:List Nat},(∀x,x∈l→q x=true→p x=true)→(l.filter q).length≤(l.filter p).length:=by
   intro l
   induction l with
   |nil=>intro _;simp
   |cons z l ih=>
    intro hh
    have:=ih fun x hx=>hh x (by simp[hx])
    cases hz:q z with
    |true=>rw[List.filter_cons_of_pos hz,List.filter_cons_of_pos (hh z (by simp) hz)];simp;exact this
    |false=>
     rw[List.filter_cons_of_neg (by simp[hz])]
     cases NP:p z with
     |true=>rw[List.filter_cons_of_pos NP];simp;omega
     |false=>rw[List.filter_cons_of_neg (by simp[NP])];exact this
  rcases List.mem_cons.1 hx with rfl|hx
  ·rw[List.filter_cons_of_neg (by simp[hq]),List.filter_cons_of_pos hp]
   have:=le (l:=r) fun x hx=>h x (by simp[hx])
   simp;omega
  ·have ih:=filter_lt (l:=r) (fun x hx=>h x (by simp[hx])) ⟨x,hx,hp,hq⟩
   cases hy:q y with
   |true=>rw[List.filter_cons_of_pos hy,List.filter_cons_of_pos (h y (by simp) hy)];simp;exact ih
   |false=>
    rw[List.filter_cons_of_neg (by simp[hy])]
    cases Rl:p y with
    |true=>rw[List.filter_cons_of_pos Rl];simp;omega
    |false=>rw[List.filter_cons_of_neg (by simp[Rl])];exact ih
theorem Ld{n i:Nat}{D:Nat→Bool}(hi:i<n)(hD:D i=false):cnt n (fun j=>D j||j==i)<cnt n D:=by
 refine filter_lt ?_ ⟨i,List.mem_range.2 hi,by simp[hD],by simp⟩
 intro x _ h
 simp only[Bool.not_eq_true',Bool.or_eq_false_iff]at h
 simp[h.1]
theorem HC{n:Nat}{D:Nat→Bool}(h:cnt n D=0): ∀i,i<n→D i=true:=by
 intro i hi
 have:=List.eq_nil_of_length_eq_zero h
 cases hd:D i with
 |true=>rfl
 |false=>
  have:i∈(List.range n).filter fun i=> !D i:=List.mem_filter.2 ⟨List.mem_range.2 hi,by simp[hd]⟩
  simp_all
section
variable{P:Program}{Γ:Nat→TK}{cO:List (Nat×Nat)}{cr:List (Nat×CR)}{ops:List Oper}{m:Nat}{s:St}{tr:List TE}{zb:cA}{Q:Exit→Act→World→Prop}
theorem Pd(X:Ctx P ty Γ)(K:WG ops m){vcs:List Prop}{rN:St}(hv: ∀q,q∈vcs→q)(hQ: ∀a w,Inv ty zb rN a w→Q .normal a w): ∀(fuel k:Nat) (st:St) (acc:List Prop) (listed:Array Bool) (a:Act) (w:World),m≤k→k≤ops.length→ops.length-k≤fuel→listed.size=ops.length→
  (∀i,listed.getD i false=true↔i<k)→run P ty Γ cO cr ops (ops.drop k) st acc=some (vcs,rN)→Inv ty zb st a w→wpAny P .any ops.toArray Q fuel listed a w:=by
 have fin: ∀{k st acc a w},ops.length≤k→run P ty Γ cO cr ops (ops.drop k) st acc=some (vcs,rN)→Inv ty zb st a w→Q .normal a w:=by
  intro k st acc a w hk hr iv
  rw[List.drop_eq_nil_of_le hk]at hr
  simp only[run,Option.some.injEq,Prod.mk.injEq]at hr
  exact hQ a w (hr.2▸iv)
 have rdy: ∀{k:Nat} {listed:Array Bool},k<ops.length→listed.size=ops.length→(∀i,listed.getD i false=true↔i<k)→k∈Region.ready .any ops.toArray listed:=by
  intro k listed hk hl hL
  rw[ju hl]
  refine⟨ops[k],List.getElem?_eq_getElem hk,?_,fun j hj=>(hL j).2 (K.back k _ (List.getElem?_eq_getElem hk) j hj)⟩
  cases h:listed.getD k false with
  |false=>rfl
  |true=>have:=(hL k).1 h;omega
 intro fuel
 induction fuel with
 |zero=>
  intro k st acc listed a w hmk hkn hf hl hL hr iv
  refine⟨?_,fin (by omega) hr iv⟩
  apply List.eq_nil_iff_forall_not_mem.2
  intro i hi
  obtain⟨o,ho,h1,_⟩:=(ju hl).1 hi
  have:=(List.getElem?_eq_some_iff.1 ho).1
  rw[(hL i).2 (by omega)]at h1
  cases h1
 |succ fuel ih=>
  intro k st acc listed a w hmk hkn hf hl hL hr iv
  refine⟨fun hnil=> ?_,fun i hi=> ?_⟩
  ·by_cases hk:k<ops.length
   ·have:=rdy hk hl hL
    rw[hnil]at this
    simp at this
   ·exact fin (by omega) hr iv
  ·obtain⟨o,ho,h1,h2⟩:=(ju hl).1 hi
   have hin:=(List.getElem?_eq_some_iff.1 ho).1
   have hki:k≤i:=by
    rcases Nat.lt_or_ge i k with h|h
    ·rw[(hL i).2 h]at h1;cases h1
    ·exact h
   have hik:i=k:=by
    rcases Nat.lt_or_ge k i with h|h
    ·exfalso
     have hc: ∀i o,listed.getD i false=true→ops[i]? =some o→ ∀j,j∈bP o→listed.getD j false=true:=fun i o hi ho j hj=>(hL j).2 (by have:=K.back i o ho j hj;have:=(hL i).1 hi;omega)
     have:=rR (D:=fun j=>listed.getD j false=true) K.back hc i o ho h2 k (K.tail i o (by omega) ho k h)
     have:=(hL k).1 this
     omega
    ·omega
   subst hik
   have WK:ops.drop i=o::ops.drop (i+1):=by
    rw[List.drop_eq_getElem_cons hin]
    congr 1
    have:=List.getElem?_eq_getElem hin
    rw[ho]at this
    simpa using this.symm
   rw[WK]at hr
   obtain⟨vc,AB,hs,KE⟩:=tN hr
   have hstep:=A9 (Q:=Q) X.kind X.one hs iv (fun q hq=>hv q (p7 KE q (List.mem_append_left _ hq)))
   unfold wpOp
   rw[List.getElem?_toArray,ho]
   dsimp only
   have:=hstep.mono fun a' w' lU=>ih (i+1) AB _ (listed.setIfInBounds i true) a' w' (by omega) (by omega) (by omega) (by simpa using hl)
    (fun j=>by
     rw[wV (by omega)]
     simp only[Bool.or_eq_true,beq_iff_eq,hL]
     omega) KE lU
   exact this
theorem Pe(X:Ctx P ty Γ)(K:WG ops m){oc vcs:List Prop}{rN:St}(T:Trace Γ (Jc P ty) (Sound ty P) cO cr ops m s tr vcs)(hnc:FM s.sl=true)(hv: ∀q,q∈vcs→q)(hQ: ∀a w,Inv ty zb rN a w→Q .normal a w)
  (hr:run P ty Γ cO cr ops (ops.drop m) (pre tr s m) oc=some (vcs,rN)): ∀(fuel:Nat) (listed:Array Bool) (a:Act) (w:World),cnt ops.length (fun i=>listed.getD i false)≤fuel→listed.size=ops.length→(∀i,listed.getD i false=true→i<m)→
  (∀i o,listed.getD i false=true→ops[i]? =some o→ ∀j,j∈bP o→listed.getD j false=true)→Inv ty zb (cK (fun i=>listed.getD i false) tr s m) a w→wpAny P .any ops.toArray Q fuel listed a w:=by
 have all: ∀{listed:Array Bool} {fuel:Nat} {a:Act} {w:World},listed.size=ops.length→(∀i,listed.getD i false=true→i<m)→(∀i,i<m→listed.getD i false=true)→cnt ops.length (fun i=>listed.getD i false)≤fuel→Inv ty zb (cK (fun i=>listed.getD i false) tr s m) a w→wpAny P .any ops.toArray Q fuel listed a w:=by
  intro listed fuel a w hl h1 h2 hf iv
  have heq: ∀i,i≤m→cK (fun i=>listed.getD i false) tr s i=pre tr s i:=by
   intro i
   induction i with
   |zero=>intro _;rfl
   |succ i ih=>
    intro hi
    rw[cK,pre,cK,ih (by omega),h2 i (by omega)]
  rw[heq m (Nat.le_refl _)]at iv
  refine Pd X K hv hQ fuel m _ oc listed a w (Nat.le_refl _) K.le ?_ hl (fun i=>⟨h1 i,h2 i⟩) hr iv
  refine Nat.le_trans ?_ hf
  unfold cnt
  have hsub:(List.range ops.length).filter (fun i=> !listed.getD i false)=(List.range ops.length).filter fun i=>decide (m≤i):=by
   apply List.filter_congr
   intro i _
   by_cases h:m≤i
   ·cases hh:listed.getD i false with
    |true=>have:=h1 i hh;omega
    |false=>simp[h]
   ·simp[h2 i (by omega),h]
  rw[hsub]
  have: ∀n,m≤n→((List.range n).filter fun i=>decide (m≤i)).length=n-m:=by
   intro n hn
   induction n with
   |zero=>simp
   |succ n ih=>
    rw[List.range_succ,List.filter_append]
    by_cases h:m≤n
    ·simp[ih h,h];omega
    ·have:(List.range n).filter (fun i=>decide (m≤i))= []:=by
      apply List.filter_eq_nil_iff.2
      intro i hi
      have:=List.mem_range.1 hi
      simp;omega
     simp[this,h];omega
  rw[this _ K.le]
  exact Nat.le_refl _
 intro fuel
 induction fuel with
 |zero=>
  intro listed a w hf hl h1 h2 iv
  have hz:=HC (by omega:cnt ops.length (fun i=>listed.getD i false)=0)
  exact all hl h1 (fun i hi=>hz i (by have:=K.le;omega)) hf iv
 |succ fuel ih=>
  intro listed a w hf hl h1 h2 iv
  by_cases hall: ∀i,i<m→listed.getD i false=true
  ·exact all hl h1 hall hf iv
  ·have hex: ∃i,i<m∧listed.getD i false=false∧ ∀j,j<i→listed.getD j false=true:=by
    have: ∃i,i<m∧listed.getD i false=false:=by
     apply Classical.byContradiction
     intro hno
     apply hall
     intro i hi
     cases h:listed.getD i false with
     |true=>rfl
     |false=>exact absurd ⟨i,hi,h⟩ hno
    obtain⟨i,hi,h⟩:=this
    induction i using Nat.strongRecOn with
    |_ i ihi=>
     by_cases M4: ∀j,j<i→listed.getD j false=true
     ·exact⟨i,hi,h,M4⟩
     ·have: ∃j,j<i∧listed.getD j false=false:=by
       apply Classical.byContradiction
       intro hno
       apply M4
       intro j hj
       cases hh:listed.getD j false with
       |true=>rfl
       |false=>exact absurd ⟨j,hj,hh⟩ hno
      obtain⟨j,hj,YN⟩:=this
      exact ihi j hj (by omega) YN
   have hml:=K.le
   refine⟨fun hnil=> ?_,fun i hi=> ?_⟩
   ·obtain⟨i,hi,hif,M4⟩:=hex
    have hin:i<ops.length:=by omega
    have:i∈Region.ready .any ops.toArray listed:=(ju hl).2 ⟨ops[i],List.getElem?_eq_getElem hin,hif,fun j hj=>M4 j (K.back i _ (List.getElem?_eq_getElem hin) j hj)⟩
    rw[hnil]at this
    simp at this
   ·obtain⟨o,ho,hif,hE⟩:=(ju hl).1 hi
    have hin:=(List.getElem?_eq_some_iff.1 ho).1
    have X4:i<m:=by
     rcases Nat.lt_or_ge i m with h|h
     ·exact h
     ·exfalso
      obtain⟨j,hj,YN,_⟩:=hex
      have:=rR (D:=fun j=>listed.getD j false=true) K.back h2 i o ho hE j (K.tail i o h ho j (by omega))
      rw[YN]at this;cases this
    unfold wpOp
    rw[List.getElem?_toArray,ho]
    dsimp only
    have hstep:=M3 (Q:=Q) X.kind T K hv hnc (D:=fun i=>listed.getD i false) h1 h2 X4 hif ho hE iv
    have M5: ∀j,(listed.setIfInBounds i true).getD j false=(listed.getD j false||j==i):=fun j=>wV (by omega)
    have Sc:(fun j=>(listed.setIfInBounds i true).getD j false)=fun j=>listed.getD j false||j==i:=funext M5
    have:=hstep.mono fun a' w' lU=>ih (listed.setIfInBounds i true) a' w'
     (by rw[Sc];have:=Ld (D:=fun i=>listed.getD i false) hin hif;omega) (by simpa using hl)
     (fun j hj=>by
      rw[M5,Bool.or_eq_true,beq_iff_eq]at hj
      rcases hj with hj|rfl
      ·exact h1 j hj
      ·exact X4)
     (fun j o' hj ho' x hx=>by
      rw[M5]at hj ⊢
      rw[Bool.or_eq_true,beq_iff_eq]at hj
      rw[Bool.or_eq_true]
      rcases hj with hj|rfl
      ·exact Or.inl (h2 j o' hj ho' x hx)
      ·rw[ho]at ho'
       simp only[Option.some.injEq]at ho'
       subst ho'
       exact Or.inl (hE x hx))
     (by rw[Sc];exact lU)
    exact this
end
section
variable{P:Program}{Γ:Nat→TK}{zb:cA}{Q:Post}{st:St}
theorem W.draw(X:Ctx P ty Γ)(cO:List (Nat×Nat))(cr:List (Nat×CR))(ks hs:List Nat)(m:Nat){id:Nat}{ops:List Oper}{vc:List Prop}{st':St}(hm:P.follows .mixedOrders=true)(hc:X2 ops m=true)(h:UD P ty Γ cO cr ks hs m ops st=some (vc,st'))(hv:ah vc)(k:Q .normal st'):
  W P ty zb (.region id ops.toArray true) Q st:=by
 intro a w iv
 obtain⟨n,NO,fQ⟩:=st
 have K:=UF hc
 simp only[UD]at h
 split at h
 ·rename_i oc s1 hnc hq
  split at h
  ·rename_i RZ s2 hr
   split at h
   ·rename_i sl hp h1 h2
    split at h
    ·rename_i zZ hn
     simp only[Option.some.injEq,Prod.mk.injEq]at h
     obtain⟨rfl,rfl⟩:=h
     obtain⟨tr,t1,t2,t3⟩:=HB (k:=0) hq (fun i o ho=>by
      rw[List.getElem?_take]at ho
      split at ho
      ·simpa using ho
      ·cases ho)
     have hlen:(ops.take m).length=m:=by rw[List.length_take];have:=K.le;omega
     rw[hlen]at t1 t2 t3
     subst t2
     have T:Trace Γ (Jc P ty) (Sound ty P) cO cr ops m ⟨n,NO,fQ⟩ tr RZ:=⟨t1,fun i hi=>by
      obtain⟨o,e,vc,p1,p2,p3,p4,p5,p6⟩:=t3 i hi
      exact⟨o,e,vc,by simpa using p1,p2,p3,p4,p5,fun q hq=>p7 hr q (p6 q hq)⟩⟩
     refine wp_region_any hm ?_
     have hz: ∀i,(Array.replicate ops.toArray.size false).getD i false=false:=by
      intro i
      rw[Array.getD_eq_getD_getElem?,Array.getElem?_replicate]
      split<;>rfl
     refine Pe (Q:=Ci ty zb Q) X K T hnc hv.out (fun a w lU=>⟨_,lU.weaken (Nat.eq_of_beq_eq_true hn).symm (kD h1) (kE h2) zZ,k⟩) hr _ _ a _ ?_ (by simp) (fun i hi=>by rw[hz]at hi;cases hi) (fun i o hi=>by rw[hz]at hi;cases hi) ?_
     ·unfold cnt
      refine Nat.le_trans (List.length_filter_le _ _) ?_
      simp
     ·have hD:(fun i=>(Array.replicate ops.toArray.size false).getD i false)=fun _=>false:=funext hz
      rw[hD]
      have hmk: ∀i,cK (fun _=>false) tr ⟨n,NO,fQ⟩ i=⟨n,NO,fQ⟩:=by
       intro i
       induction i with
       |zero=>rfl
       |succ i ih=>rw[wS rfl,ih]
      rw[hmk]
      obtain⟨env,g⟩:=iv.good
      have WL:Below w.heap.size w w.drew:=(Below.refl _ _).drew
      refine⟨iv.size,iv.defers,iv.kept.trans (iV WL iv.kept.size),iv.A3,env,?_⟩
      have:=g.grow (os:= []) (w':=w.drew) (env':=env) iv.kept.size rfl (lf.none WL)
      exact this
    ·cases h
   ·cases h
  ·cases h
 ·cases h
theorem W.sd(X:Ctx P ty Γ)(cO:List (Nat×Nat))(cr:List (Nat×CR))(ks hs:List Nat)(m:Nat){y:Code}{id:Nat}{ops:List Oper}{vc:List Prop}{st':St}(hm:P.follows .mixedOrders=true)(hc:X2 ops m=true)(h:UD P ty Γ cO cr ks hs m ops st=some (vc,st'))(hv:ah vc)(k:W P ty zb y Q st'):W P ty zb (.seq (.region id ops.toArray true) y) Q st:=W.seq (W.draw X cO cr ks hs m hm hc h hv k)
end
end
section
variable{ty:Tag→Nat}
def yS(l:List Oper):Option (List Oper×Oper):=match l.reverse with
 | []=>none
 |o::r=>some (r.reverse,o)
theorem F2{l p:List Oper}{q:Oper}(h:yS l=some (p,q)):l=p++ [q]:=by
 unfold yS at h
 split at h
 ·cases h
 ·rename_i o r he
  simp only[Option.some.injEq,Prod.mk.injEq]at h
  obtain⟨rfl,rfl⟩:=h
  have:=congrArg List.reverse he
  rw[List.reverse_reverse,List.reverse_cons]at this
  exact this
def Lp(Γ:Nat→TK)(st:St)(o:Oper):Option (Nat×Prop):=match o.guard,o.dst,o.op with
 |none,some d, .binOp .eql t (.tmp s) (.const (.slice none 0 0)) _=>match Γ t,look st.sl s,Nat.blt d st.n with
  | .sl _ _,some (.one (.a (.sl _ l))),true=>some (d,l= [])
  | .sl _ _,some (.one (.a (.vw _ _ _ l))),true=>some (d,l= [])
  | .sl _ _,some (.one (.a (.own n))),true=>match look st.hp n with
    |some (.arr _ l)=>some (d,l= [])
    |_=>none
  |_,_,_=>none
 |_,_,_=>none
def Lr(n:Nat)(st':St)(ks:List Nat):Option St:=match Ad st'.sl ks,Ae st'.hp (K8 st'.sl st'.hp ks [])with
 |some sl,some hp=>match p9 sl hp with
  |true=>some ⟨n,sl,hp⟩
  |false=>none
 |_,_=>none
def Ls(AB:St)(ks:List Nat)(d:Nat)(b:Bool):Option St:=Lr AB.n (AB.put (some d) (.one (.a (.lit (.bool b))))) ks
def PX(P:Program)(ty:Tag→Nat)(Γ:Nat→TK)(cO:List (Nat×Nat))(cr:List (Nat×CR))(ks:List Nat)(ops:List Oper)(st:St):Option (List Prop×Prop×St×St):=
 match yS ops with
 |some (pre,o)=>match run P ty Γ cO cr ops pre st []with
  |some (vc,AB)=>match Lp Γ AB o with
   |some (d,p)=>match Ls AB ks d true,Ls AB ks d false with
    |some a,some b=>some (vc,p,a,b)
    |_,_=>none
   |none=>none
  |none=>none
 |none=>none
section
variable{P:Program}{Γ:Nat→TK}{zb:cA}{Q:Post}{st:St}
theorem F3(C: ∀t,cw P t (Γ t))(Z: ∀t,(∀z tg fo,Γ t≠ .st z tg fo)→Γ t≠ .other→(P.info? t).map (·.size)=some 1){cO:List (Nat×Nat)}{cr:List (Nat×CR)}{ops:List Oper}{rN:St}{vcs:List Prop}{Q:Exit→Act→World→Prop}{tail:List Oper}
  (hQ: ∀a w,Inv ty zb rN a w→wpList P ops.toArray Q tail a w): ∀{l:List Oper} {st:St} {acc:List Prop} {a:Act} {w:World},run P ty Γ cO cr ops l st acc=some (vcs,rN)→(∀q,q∈vcs→q)→Inv ty zb st a w→wpList P ops.toArray Q (l++tail) a w
 | [],st,acc,a,w,h,hv,iv=>by
   simp only[run,Option.some.injEq,Prod.mk.injEq]at h
   obtain⟨_,rfl⟩:=h
   exact hQ a w iv
 |o::r,st,acc,a,w,h,hv,iv=>by
  obtain⟨vc,AB,h1,h2⟩:=tN h
  have:=A9 (Q:=Q) C Z h1 iv (fun q hq=>hv q (p7 h2 q (List.mem_append_left _ hq)))
  exact this.mono fun a' w' lU=>F3 C Z hQ h2 hv lU
theorem HR{w:World}{t e:Nat}(d:Nat)(hu:P.underlying t=some (.slice e)){oa:Option Addr}{n cap:Nat}:(Op.equalIn (d+1) t (.slice oa n cap) (.slice none 0 0)).run P w= .ok oa.isNone w:=by
 cases oa<;>simp[Op.equalIn,run_underlying hu]
theorem U0{o:Oper}{a:Act}{w:World}{K:Act→World→Prop}{Q:Exit→Act→World→Prop}{t s e ge:Nat}{ZR:TypeId}(ho:o.op= .binOp .eql t (.tmp s) (.const (.slice none 0 0)) ZR)(hu:P.underlying t=some (.slice e)){oa:Option Addr}{n cap:Nat}(hs:a.tmps.getD s undef= .slice oa n cap)
  (h:K (a.put o.dst (.bool oa.isNone)) w):o.wp P a w K Q:=by
 have hx:a.eval (.tmp s)= .slice oa n cap:=hs
 have hrun:(execOp a.eval o).run P w= .ok (.value (.bool oa.isNone)) w:=by
  have hy:a.eval (.const (.slice none 0 0))= .slice none 0 0:=rfl
  unfold execOp
  simp only[ho,hx,hy]
  have he:(Op.equal t (.slice oa n cap) (.slice none 0 0)).run P w= .ok oa.isNone w:=HR 9999 hu
  have hb:(binOp .eql t (.slice oa n cap) (.slice none 0 0)).run P w= .ok (.bool oa.isNone) w:=by
   show(do pure (.bool (←Op.equal t (.slice oa n cap) (.slice none 0 0))):Sem Value).run P w=_
   simp only[Sem.run_bind,he,Result.andThen_ok,Sem.run_pure]
  have hg:(eqGuard .eql t (.tmp s) (.const (.slice none 0 0)) (.slice oa n cap) (.slice none 0 0)).run P w= .ok () w:=by simp[eqGuard]
  simp only[Sem.run_bind,hg,hb,Result.andThen_ok,Sem.run_pure]
 unfold Oper.wp
 rw[hrun]
 exact h
theorem HS{AB st':St}{ks:List Nat}{d:Nat}{b:Bool}(h:Ls AB ks d b=some st'){a:Act}{w:World}(iv:Inv ty zb AB a w)(hd:Nat.blt d AB.n=true):Inv ty zb st' (a.put (some d) (.bool b)) w:=by
 have YQ:Inv ty zb (AB.put (some d) (.one (.a (.lit (.bool b))))) (a.put (some d) (.bool b)) w:=by
  obtain⟨env,g⟩:=iv.good
  have hlt: ∀d',some d=some d'→d'<a.tmps.size:=by
   intro d' e
   simp only[Option.some.injEq]at e
   subst e
   rw[iv.size]
   exact Nat.le_of_ble_eq_true hd
  exact⟨by rw[gB,wD];exact iv.size,by rw[put_defers];exact iv.defers,iv.kept,iv.A3,env,oE (dst:=some d) g hlt (u:= .bool b) (show oC w AB.hp env a.tmps (.one (.a (.lit (.bool b)))) (.bool b)from ⟨rfl,rfl⟩) fun d _=>nC ⟨_,rfl⟩⟩
 unfold Ls Lr at h
 split at h
 ·rename_i sl hp h1 h2
  split at h
  ·rename_i hc
   simp only[Option.some.injEq]at h
   subst h
   exact YQ.weaken (by rw[wD]) (kD h1) (kE h2) hc
  ·cases h
 ·cases h
theorem W.isNil(X:Ctx P ty Γ)(cO:List (Nat×Nat))(cr:List (Nat×CR))(ks:List Nat){id:Nat}{ops:List Oper}{vc:List Prop}{p:Prop}{sT sF:St}(h:PX P ty Γ cO cr ks ops st=some (vc,p,sT,sF))(hv:ah vc)(kT:p→Q .normal sT)(kF:Q .normal sF):
  W P ty zb (.region id ops.toArray false) Q st:=by
 intro a w iv
 unfold PX at h
 split at h
 case h_2=>cases h
 rename_i pre o hsp
 split at h
 case h_2=>cases h
 rename_i oc AB hrun
 split at h
 case h_2=>cases h
 rename_i d p1 hnp
 split at h
 case h_2=>cases h
 rename_i sa sb hT hF
 simp only[Option.some.injEq,Prod.mk.injEq]at h
 obtain⟨rfl,rfl,rfl,rfl⟩:=h
 refine wp_region_lit ?_
 rw[show wpList P ops.toArray (Ci ty zb Q) ops a w=wpList P ops.toArray (Ci ty zb Q) (pre++ [o]) a w by rw[←F2 hsp]]
 refine F3 X.kind X.one (fun a w iv=> ?_) hrun hv.out iv
 obtain⟨env,g⟩:=iv.good
 unfold Lp at hnp
 split at hnp
 case h_2=>cases hnp
 rename_i d0 t s ZR hg hd hop
 have fin: ∀{oa:Option Addr} {n cap:Nat} {e ge:Nat},P.underlying t=some (.slice e)→a.tmps.getD s undef= .slice oa n cap→(oa=none→p1)→d0=d→Nat.blt d0 AB.n=true→wpList P ops.toArray (Ci ty zb Q) [o] a w:=by
  intro oa n cap e ge hu hs hn Wc hlt
  subst Wc
  have hk: ∀a' w',(fun a' w'=>a'=a.put (some d0) (.bool oa.isNone)∧w'=w) a' w'→wpList P ops.toArray (Ci ty zb Q) [] a' w':=by
   rintro a' w' ⟨rfl,rfl⟩
   refine wpList_nil ?_
   cases oa with
   |none=>exact⟨sa,HS hT iv hlt,kT (hn rfl)⟩
   |some x=>exact⟨sb,HS hF iv hlt,kF⟩
  have hR:oF P ops.toArray o a w (fun a' w'=>a'=a.put (some d0) (.bool oa.isNone)∧w'=w) (Ci ty zb Q):=iW hg (U0 (ge:=ge) hop hu hs ⟨by rw[hd],rfl⟩)
  exact hR.mono hk
 split at hnp
 ·rename_i g1 e1 t1 l hk hl hlt
  simp only[Option.some.injEq,Prod.mk.injEq]at hnp
  have hC:=X.kind t
  rw[hk]at hC
  obtain⟨fp,rM,_⟩:=g.slot s _ hl
  obtain⟨oa,cap,hv0,_,_,h3⟩:=rM
  refine fin (ge:=0) hC.1 hv0 (fun hn=> ?_) hnp.1 hlt
  rw[←hnp.2]
  rcases h3 with⟨h3,_⟩| ⟨b,off,bk,rfl,_⟩
  ·exact h3
  ·cases hn
 ·rename_i g1 e1 n1 p2 t1 l hk hl hlt
  simp only[Option.some.injEq,Prod.mk.injEq]at hnp
  have hC:=X.kind t
  rw[hk]at hC
  obtain⟨_,⟨fp,rM,_⟩,_⟩:=g.slot s _ hl
  obtain⟨oa,cap,hv0,_,_,h3⟩:=rM
  refine fin (ge:=0) hC.1 hv0 (fun hn=> ?_) hnp.1 hlt
  rw[←hnp.2]
  rcases h3 with⟨h3,_⟩| ⟨b,off,bk,rfl,_⟩
  ·exact h3
  ·cases hn
 ·rename_i g1 e1 n1 hk hl hlt
  split at hnp
  ·rename_i t1 l MY
   simp only[Option.some.injEq,Prod.mk.injEq]at hnp
   have hC:=X.kind t
   rw[hk]at hC
   obtain⟨_,hu⟩:=g.slot s _ hl
   obtain⟨oa,cap,hv0,_,_,h3⟩:=RO.sl (g.obj n1 _ MY)
   refine fin (ge:=0) hC.1 (hu.trans hv0) (fun hn=> ?_) hnp.1 hlt
   rw[←hnp.2]
   rcases h3 with⟨h3,_⟩| ⟨b,off,bk,rfl,_⟩
   ·exact h3
   ·cases hn
  ·cases hnp
 ·cases hnp
end
end
section
variable{ty:Tag→Nat}
def V.rev(hp:Hp)(ks ns:List Nat)(m0:Nat):V→V
 | .own n=>match ns.any (Nat.beq n)with
   |true=>match look hp n with|some (.arr t l)=> .vw m0 none t l|_=> .any
   |false=>(V.own n).bE ks []
 |v=>v.bE ks []
def S1.rev(hp:Hp)(ks ns:List Nat)(m0:Nat):S1→S1
 | .a v=> .a (v.rev hp ks ns m0)
 | .agg l=> .agg (l.map (V.rev hp ks ns m0))
def SV.rev(hp:Hp)(ks ns:List Nat)(m0:Nat):SV→SV
 | .one x=> .one (x.rev hp ks ns m0)
 | .rC l=> .rC (l.map (S1.rev hp ks ns m0))
 | .cond p x=> .cond p (x.rev hp ks ns m0)
def Obj.rev(hp:Hp)(ks ns:List Nat)(m0:Nat):Obj→Obj
 | .box c=> .box (c.map (V.rev hp ks ns m0))
 | .arr t l=> .arr t l
 | .lT t l s=> .lT t l (s.bE ks [])
def H8(fQ:Hp)(ks ns:List Nat)(m0:Nat)(hp:Hp):Hp:=(hp.filter fun e=> !ks.any (Nat.beq e.1)).map fun e=>(e.1,e.2.rev fQ ks ns m0)
theorem zf{fQ:Hp}{ks ns:List Nat}{m0:Nat}{hp:Hp}{n:Nat}:look (H8 fQ ks ns m0 hp) n=if n∈ks then none else(look hp n).map (Obj.rev fQ ks ns m0):=by
 unfold H8
 rw[jH (α:=Obj) (f:=fun e:Nat×Obj=>e.2.rev fQ ks ns m0)]
 have h:=bO (ks:=ks) (kv:= []) (hp:=hp) (n:=n)
 unfold cm at h
 rw[jH (α:=Obj) (f:=fun e:Nat×Obj=>e.2.bE ks [])]at h
 by_cases hn:n∈ks
 ·rw[if_pos hn]at h ⊢
  cases hq:look (hp.filter fun e=> !ks.any (Nat.beq e.1)) n with
  |none=>rfl
  |some o=>rw[hq]at h;cases h
 ·rw[if_neg hn]at h ⊢
  have:look (hp.filter fun e=> !ks.any (Nat.beq e.1)) n=look hp n:=by
   induction hp with
   |nil=>rfl
   |cons e r ih=>
    obtain⟨j,x⟩:=e
    by_cases hj:j∈ks
    ·have hne:n≠j:=by rintro rfl;exact hn hj
     have hb:(ks.any (Nat.beq j))=true:=List.any_eq_true.2 ⟨j,hj,by simp⟩
     rw[List.filter_cons_of_neg (by simp[hb])]at h ⊢
     rw[aW hne]at h ⊢
     exact ih h
    ·have hb:(ks.any (Nat.beq j))=false:=by
      rw[List.any_eq_false]
      intro y hy h2
      exact hj (by rw[Nat.eq_of_beq_eq_true h2];exact hy)
     rw[List.filter_cons_of_pos (by simp[hb])]at h ⊢
     by_cases Ux:n=j
     ·subst Ux;rw[look_eq,look_eq]
     ·rw[aW Ux]at h ⊢
      rw[aW Ux]at h ⊢
      exact ih h
  rw[this]
section
variable{ks ns:List Nat}{m0:Nat}{w w':World}{hp iB:Hp}{env env':Env}
theorem Kf{ns:List Nat}{n:Nat}(h:ns.any (Nat.beq n)=true):n∈ns:=by
 obtain⟨y,hy,h2⟩:=List.any_eq_true.1 h
 rw[Nat.eq_of_beq_eq_true h2];exact hy
theorem RA.rev(s:qH ks [] w hp env w' iB env')(hv: ∀n t l,n∈ns→look hp n=some (.arr t l)→RA w' iB env' (.vw m0 none t l) (env n).v){v:V}{u:Value}(h:RA w hp env v u):RA w' iB env' (v.rev hp ks ns m0) u:=by
 cases v with
 |own n=>
  have e:V.rev hp ks ns m0 (.own n)=match ns.any (Nat.beq n)with
   |true=>(match look hp n with|some (.arr t l)=> .vw m0 none t l|_=> .any)
   |false=>(V.own n).bE ks []:=rfl
  rw[e]
  cases hn:ns.any (Nat.beq n)with
  |true=>
   obtain⟨⟨t,l,hl⟩,rfl⟩:=h
   rw[hl]
   exact hv n t l (Kf hn) hl
  |false=>exact RA.iX s h
 |_=>exact RA.iX s h
theorem fG.rev(s:qH ks [] w hp env w' iB env')(hv: ∀n t l,n∈ns→look hp n=some (.arr t l)→RA w' iB env' (.vw m0 none t l) (env n).v){x:S1}{u:Value}(h:fG w hp env x u):fG w' iB env' (x.rev hp ks ns m0) u:=by
 cases x with
 |a v=>exact RA.rev s hv h
 |agg l=>obtain⟨cs,hu,hl⟩:=h;exact⟨cs,hu,hl.map fun a b hr=>RA.rev s hv hr⟩
theorem oC.rev(s:qH ks [] w hp env w' iB env')(hv: ∀n t l,n∈ns→look hp n=some (.arr t l)→RA w' iB env' (.vw m0 none t l) (env n).v){tmps:Array Value}{x:SV}{u:Value}(h:oC w hp env tmps x u):oC w' iB env' tmps (x.rev hp ks ns m0) u:=by
 cases x with
 |one x=>exact fG.rev s hv h
 |rC l=>obtain⟨us,hu,hl⟩:=h;exact⟨us,hu,hl.map fun a b hr=>fG.rev s hv hr⟩
 |cond p x=>exact⟨fun hh=>fG.rev s hv (h.1 hh),h.2⟩
theorem RO.rev(s:qH ks [] w hp env w' iB env')(hv: ∀n t l,n∈ns→look hp n=some (.arr t l)→RA w' iB env' (.vw m0 none t l) (env n).v){n:Nat}{o:Obj}{co:CO}(h:RO ty w hp env n o co)(hk: ∀b,b∈co.fp→w'.heap[b]? =w.heap[b]?):RO ty w' iB env' n (o.rev hp ks ns m0) co:=by
 cases o with
 |box c=>
  obtain⟨b,cs,e,rfl,hh,hc⟩:=h
  exact⟨b,cs,e,rfl,by rw[hk b (by simp)];exact hh,hc.map fun a u hr=>RA.rev s hv hr⟩
 |arr t l=>exact RO.bp h hk
 |lT t l r=>
  obtain⟨h1,us,hB,h2,h3⟩:=h
  exact⟨h1,us,iR.bp wu hB hk,h2,fun i x u hx hu=>BE.iX s (h3 i x u hx hu)⟩
end
section
variable{P:Program}{zb:cA}{st:St}{a:Act}{w:World}{env:Env}
theorem P5(g:Good ty zb st a.tmps w env)(hB:zb.w.heap.size≤w.heap.size){ks ns:List Nat}{d:Nat}(Uc:iA d=false)(hd:look (cm ks [] st.hp) d=none){v v':Value}{w':World}{t:Tag}{l:List (T t)}{fp fx ga:List Nat}
  (gA: ∀b,b∈fp++fx→ ∃i o,i∈ks∧look st.hp i=some o∧b∈(env i).fp)(Dv: ∀b,v.ownBlock=some b→b∈fp)
  (We:iR (kk t) (rd t) 0 (ty t) w' v' l ga)(hg:w.grownBy w' v.ownBlock)(hsub: ∀b,b∈ga→b∈fp∨b∈fx∨w.heap.size≤b)
  (VU: ∀n,n∈ns→n∈ks)(hin: ∀n o b,n∈ns→look st.hp n=some o→b∈(env n).fp→b∈ga∧w'.heap[b]? =w.heap[b]?):
  ∃env',Good ty zb ⟨st.n,st.sl.map fun e=>(e.1,e.2.rev st.hp ks ns d),(d, .arr t l)::H8 st.hp ks ns d st.hp⟩ a.tmps w' env'∧(env' d).v=v':=by
 refine⟨fun n=>if n=d then⟨v',ga⟩else env n,?_,by simp⟩
 have hlk: ∀m o,look ((d,Obj.arr t l)::H8 st.hp ks ns d st.hp) m=some o→(m=d∧o= .arr t l)∨(m≠d∧m∉ks∧ ∃o',look st.hp m=some o'∧o=o'.rev st.hp ks ns d):=by
  intro m o hm
  by_cases lQ:m=d
  ·subst lQ;rw[look_eq]at hm;simp only[Option.some.injEq]at hm;exact Or.inl ⟨rfl,hm.symm⟩
  ·rw[aW lQ,zf]at hm
   split at hm
   ·cases hm
   ·rename_i hks
    cases hq:look st.hp m with
    |none=>rw[hq]at hm;cases hm
    |some o'=>rw[hq]at hm;simp only[Option.map_some,Option.some.injEq]at hm;exact Or.inr ⟨lQ,hks,o',rfl,hm.symm⟩
 have how: ∀b,b∈ga→b<w.heap.size→ ∃i o,i∈ks∧look st.hp i=some o∧b∈(env i).fp:=by
  intro b hb hlt
  rcases hsub b hb with h|h|h
  ·exact gA b (List.mem_append_left _ h)
  ·exact gA b (List.mem_append_right _ h)
  ·omega
 have hnd: ∀m o,m∉ks→look st.hp m=some o→m≠d:=by
  rintro m o hks h1 rfl
  rw[bO,if_neg hks,h1]at hd
  cases hd
 have hst: ∀m o,m∉ks→look st.hp m=some o→ ∀b,b∈(env m).fp→w'.heap[b]? =w.heap[b]? :=by
  intro m o hks h3 b hb
  refine hg.block b ((g.obj m o h3).uV b hb) fun e=> ?_
  obtain⟨i,oi,hi,h5,h6⟩:=gA b (List.mem_append_left _ (Dv b e.symm))
  exact g.kj m i _ _ (fun e=>hks (e▸hi)) h3 h5 b hb h6
 have s:qH ks [] w st.hp env w' ((d, .arr t l)::H8 st.hp ks ns d st.hp) (fun n=>if n=d then⟨v',ga⟩else env n):=by
  refine⟨fun b hb hno=>hg.block b hb fun e=> ?_,?_,?_,?_⟩
  ·obtain⟨i,o',_,h1,h2⟩:=gA b (List.mem_append_left _ (Dv b e.symm))
   exact hno ⟨i,o',h1,h2⟩
  ·rintro b hb ⟨m,o',h1,h2⟩
   rcases hlk m o' h1 with⟨rfl,rfl⟩| ⟨lQ,hks,AA,h3,rfl⟩
   ·simp at h2
    obtain⟨i,o',_,h3,h4⟩:=how b h2 hb
    exact⟨i,o',h3,h4⟩
   ·simp[lQ]at h2
    exact⟨m,AA,h3,h2⟩
  ·intro m o' hks h1
   have lQ:=hnd m o' hks h1
   refine⟨o'.rev st.hp ks ns d,by rw[aW lQ,zf,if_neg hks,h1];rfl,by cases o'<;>simp[Obj.like,Obj.rev],by simp[lQ]⟩
  ·rintro m t' l' ⟨hks,_⟩ h1
   have lQ:=hnd m _ hks h1
   exact⟨by rw[aW lQ,zf,if_neg hks,h1];rfl,by simp[lQ],hst m _ hks h1⟩
 have hv: ∀n t1 l1,n∈ns→look st.hp n=some (.arr t1 l1)→RA w' ((d, .arr t l)::H8 st.hp ks ns d st.hp) (fun n=>if n=d then⟨v',ga⟩else env n) (.vw d none t1 l1) (env n).v:=by
  intro n t1 l1 hn hl
  have rM:=RO.sl (g.obj n _ hl)
  refine⟨⟨_,_,look_eq⟩,⟨_,Sl.bp (eT t1) rM fun b hb=>(hin n _ b hn hl hb).2,(RO.own (g.obj n _ hl)).nodup,fun b hb=> ?_⟩,fun _ _ h=>by cases h⟩
  simp only[if_true]
  exact(hin n _ b hn hl hb).1
 have OU:Good ty zb ⟨st.n,st.sl.map fun e=>(e.1,e.2.rev st.hp ks ns d),(d, .arr t l)::H8 st.hp ks ns d st.hp⟩ a.tmps w' (fun n=>if n=d then⟨v',ga⟩else env n):=by
  refine⟨fun m o' hm=> ?_,fun m m' o1 o2 hne h1 h2 b hb hb'=> ?_,fun s1 x hl=> ?_,fun m o' hm b hb=> ?_,fun m hm=> ?_⟩
  ·rcases hlk m o' hm with⟨rfl,rfl⟩| ⟨lQ,hks,AA,h3,rfl⟩
   ·simp only[if_true];exact RO.D8 We
   ·simp only[if_neg lQ]
    exact RO.rev s hv (g.obj m AA h3) (hst m AA hks h3)
  ·rcases hlk m o1 h1 with⟨e1,_⟩| ⟨lQ,hks,q1,h3,_⟩<;>rcases hlk m' o2 h2 with⟨e2,_⟩| ⟨Fy,OC,q2,h4,_⟩
   ·exact hne (e1.trans e2.symm)
   ·simp only[if_pos e1]at hb
    simp only[if_neg Fy]at hb'
    have hlt:=(g.obj m' q2 h4).uV b hb'
    obtain⟨i,oi,hi,h5,h6⟩:=how b hb hlt
    exact g.kj m' i _ _ (fun e=>OC (e▸hi)) h4 h5 b hb' h6
   ·simp only[if_pos e2]at hb'
    simp only[if_neg lQ]at hb
    have hlt:=(g.obj m q1 h3).uV b hb
    obtain⟨i,oi,hi,h5,h6⟩:=how b hb' hlt
    exact g.kj m i _ _ (fun e=>hks (e▸hi)) h3 h5 b hb h6
   ·simp only[if_neg lQ]at hb
    simp only[if_neg Fy]at hb'
    exact g.kj m m' _ _ hne h3 h4 b hb hb'
  ·have hl:look (st.sl.map fun e=>(e.1,e.2.rev st.hp ks ns d)) s1=some x:=hl
   rw[jH (α:=SV) (f:=fun e:Nat×SV=>e.2.rev st.hp ks ns d)]at hl
   cases hq:look st.sl s1 with
   |none=>rw[hq]at hl;cases hl
   |some y=>
    rw[hq]at hl
    simp only[Option.map_some,Option.some.injEq]at hl
    subst hl
    exact oC.rev s hv (g.slot s1 y hq)
  ·rcases hlk m o' hm with⟨e1,_⟩| ⟨lQ,hks,q1,h3,_⟩
   ·simp only[if_pos e1]at hb
    by_cases hlt:b<w.heap.size
    ·obtain⟨i,oi,hi,h5,h6⟩:=how b hb hlt
     exact g.dom i oi h5 b h6
    ·exact Or.inr (by omega)
   ·simp only[if_neg lQ]at hb
    exact g.dom m q1 h3 b hb
  ·have:m≠d:=by rintro rfl;rw[Uc]at hm;cases hm
   simp only[if_neg this]
   exact g.pins m hm
 exact OU
theorem zg(g:Good ty zb st a.tmps w env): ∀{l c:List V} {k:List Nat} {us:List Value},bn (RA w st.hp env) l us→takes st l=some (c,k)→k.Nodup→
  ∃fp,bR w c us fp∧Own 0 w fp∧(∀b,b∈fp→ ∃i o,i∈k∧look st.hp i=some o∧b∈(env i).fp)∧ ∀i b,i∈k→b∈(env i).fp→b∈fp
 | [],c,k,us,hr,h,_=>by
   simp only[takes,Option.some.injEq,Prod.mk.injEq]at h
   obtain⟨rfl,rfl⟩:=h
   cases us with
   |nil=>exact⟨[],rfl,Own.nil _ _,by simp,by simp⟩
   |cons _ _=>exact hr.elim
 |v::r,c,k,us,hr,h,hnd=>by
  cases us with
  |nil=>exact hr.elim
  |cons u us=>
   cases v with
   |lit x=>
    simp only[takes]at h
    split at h
    ·rename_i c' k' h'
     simp only[Option.some.injEq,Prod.mk.injEq]at h
     obtain⟨rfl,rfl⟩:=h
     obtain⟨fp,h1,h2,h3,h4⟩:=zg g hr.2 h' hnd
     obtain⟨e1,e2⟩:=hr.1
     exact⟨fp,⟨[],fp,⟨e1,e2,rfl⟩,h1,rfl⟩,h2,h3,h4⟩
    ·cases h
   |own n=>
    simp only[takes]at h
    split at h
    ·rename_i t l c' k' hl h'
     simp only[Option.some.injEq,Prod.mk.injEq]at h
     obtain⟨rfl,rfl⟩:=h
     obtain⟨hn1,hn2⟩:=List.nodup_cons.1 hnd
     obtain⟨fp,h1,h2,h3,h6⟩:=zg g hr.2 h' hn2
     obtain⟨_,rfl⟩:=hr.1
     have hb:=RO.sl (g.obj n _ hl)
     have ho:=RO.own (g.obj n _ hl)
     refine⟨(env n).fp++fp,⟨_,_,hb,h1,rfl⟩,⟨List.nodup_append.2 ⟨ho.nodup,h2.nodup,?_⟩,fun b hb=> ?_,fun b hb=> ?_⟩,fun b hb=> ?_,fun i b hi ZT=> ?_⟩
     ·rintro b hb x hx rfl
      obtain⟨i,o,hi,h4,h5⟩:=h3 b hx
      exact g.kj n i _ _ (fun e=>hn1 (e▸hi)) hl h4 b hb h5
     ·rcases List.mem_append.1 hb with hb|hb
      ·exact ho.ge b hb
      ·exact h2.ge b hb
     ·rcases List.mem_append.1 hb with hb|hb
      ·exact ho.kind b hb
      ·exact h2.kind b hb
     ·rcases List.mem_append.1 hb with hb|hb
      ·exact⟨n,_,by simp,hl,hb⟩
      ·obtain⟨i,o,hi,h4,h5⟩:=h3 b hb
       exact⟨i,o,List.mem_cons_of_mem _ hi,h4,h5⟩
     ·rcases List.mem_cons.1 hi with rfl|hi
      ·exact List.mem_append_left _ ZT
      ·exact List.mem_append_right _ (h6 i b hi ZT)
    ·cases h
   |_=>simp[takes]at h
theorem CP(g:Good ty zb st a.tmps w env){t:Tag}: ∀{ps:List (Nat×Operand)} {i:Nat} {vc:List Prop} {xs:List (T t)} {ks:List Nat},B5 st t i ps=some (vc,xs,ks)→ks.Nodup→(∀q,q∈vc→q)→
  (ps.map fun p=>(p.1,a.eval p.2))=tZ i (ps.map fun p=>a.eval p.2)∧xs.length=ps.length∧ ∃bk:List (List Nat),bk.length=xs.length∧
   (∀(i:Nat) (x:T t) (f:List Nat),xs[i]? =some x→bk[i]? =some f→ ∃p:Nat×Operand,ps[i]? =some p∧rd t w (a.eval p.2).cells.toList x f)∧Own 0 w bk.flatten∧(∀b,b∈bk.flatten→ ∃i o,i∈ks∧look st.hp i=some o∧b∈(env i).fp)∧
   ∀i b,i∈ks→b∈(env i).fp→b∈bk.flatten
 | [],i,vc,xs,ks,h,_,_=>by
   simp only[B5,Option.some.injEq,Prod.mk.injEq]at h
   obtain⟨rfl,rfl,rfl⟩:=h
   exact⟨rfl,rfl,[],rfl,by simp,Own.nil _ _,by simp,by simp⟩
 | (j,x)::r,i,vc,xs,ks,h,hnd,hv=>by
   simp only[B5]at h
   split at h
   ·rename_i s hij hx
    have hij:=Nat.eq_of_beq_eq_true hij
    subst hij
    split at h
    ·rename_i c k hc
     split at h
     ·rename_i oc y vcs ys ZG he hb
      simp only[Option.some.injEq,Prod.mk.injEq]at h
      obtain⟨rfl,rfl,rfl⟩:=h
      obtain⟨hn1,hn2,RM⟩:=List.nodup_append.1 hnd
      obtain⟨q1,q2,bk,q3,q4,q5,q6,q7⟩:=CP g hb hn2 (fun q hq=>hv q (List.mem_append_right _ hq))
      obtain⟨fp,r1,r2,r3,r4⟩:=zg g (iZ g (eg g (fun e he=>by simp at he) hx) (eV hc)) hc hn1
      have hE:=rB t he (fun q hq=>hv q (List.mem_append_left _ hq)) r1
      refine⟨by simp[tZ,q1],by simp[q2],fp::bk,by simp[q3],?_,⟨?_,?_,?_⟩,?_,?_⟩
      ·intro i' x' f hx' hf
       cases i' with
       |zero=>simp at hx' hf;subst hx';subst hf;exact⟨(i,x),rfl,hE⟩
       |succ n=>simp at hx' hf;obtain⟨p,h1,h2⟩:=q4 n x' f hx' hf;exact⟨p,by simpa using h1,h2⟩
      ·rw[List.flatten_cons]
       refine List.nodup_append.2 ⟨r2.nodup,q5.nodup,?_⟩
       rintro b hb z hz rfl
       obtain⟨n,o1,h1,h2,h3⟩:=r3 b hb
       obtain⟨m,o2,h4,h5,h6⟩:=q6 b hz
       exact g.kj n m _ _ (fun e=>RM n h1 m h4 e) h2 h5 b h3 h6
      ·intro b hb
       rw[List.flatten_cons]at hb
       rcases List.mem_append.1 hb with hb|hb
       ·exact r2.ge b hb
       ·exact q5.ge b hb
      ·intro b hb
       rw[List.flatten_cons]at hb
       rcases List.mem_append.1 hb with hb|hb
       ·exact r2.kind b hb
       ·exact q5.kind b hb
      ·intro b hb
       rw[List.flatten_cons]at hb
       rcases List.mem_append.1 hb with hb|hb
       ·obtain⟨n,o1,h1,h2,h3⟩:=r3 b hb;exact⟨n,o1,List.mem_append_left _ h1,h2,h3⟩
       ·obtain⟨n,o1,h1,h2,h3⟩:=q6 b hb;exact⟨n,o1,List.mem_append_right _ h1,h2,h3⟩
      ·intro n b hn hb
       rw[List.flatten_cons]
       rcases List.mem_append.1 hn with hn|hn
       ·exact List.mem_append_left _ (r4 n b hn hb)
       ·exact List.mem_append_right _ (q7 n b hn hb)
     ·cases h
    ·cases h
   ·cases h
end
def U6(d:Nat):Operand→Bool
 | .tmp s=> !Nat.beq s d
 | .const _=>true
 |_=>false
def U7(P:Program)(ty:Tag→Nat)(Γ:Nat→TK)(st:St)(m0:Nat)(o1 o2:Oper):Option (List Prop×St):=
 match o1.guard,o1.dst,o1.op with
 |none,some d1, .buildSlice tb len parts=>match Γ tb with
  | .sl t e=>match Nat.beq e (ty t)&&Nat.beq parts.toList.length len&&Nat.ble (len*kk t) 16777216,B5 st t 0 parts.toList with
    |true,some (vc,lx,m)=>match o2.guard,o2.dst,o2.op with
     |none,some d2, .call ⟨.builtin .append,xs,ts⟩=>match xs.toList,ts.toList with
      | [s, .tmp d],[t1,t2]=>match Nat.beq d d1&&U6 d1 s&&Nat.beq t1 tb&&Nat.beq t2 tb,gf st [] s with
        |true,some vs=>match Fz st t vs with
         |some (l,k)=>match og m&&G9 k m&& !pinned k&& !iA m0&&Nat.blt d1 st.n&&Nat.blt d2 st.n,look (cm (mI k m) [] st.hp) m0 with
          |true,none=>some ([El P ty t,(l.length+lx.length)*cN t≤140737488355328∧l.length+lx.length≤maxLen]++vc,
            (St.put ⟨st.n,st.sl.map fun e=>(e.1,e.2.rev st.hp (mI k m) m m0),(m0, .arr t (l++lx))::H8 st.hp (mI k m) m m0 st.hp⟩ (some d1) (.one (.a .any))).put (some d2) (.one (.a (.own m0))))
          |_,_=>none
         |none=>none
        |_,_=>none
      |_,_=>none
     |_,_,_=>none
    |_,_=>none
  |_=>none
 |_,_,_=>none
section
variable{P:Program}{zb:cA}{st:St}{a:Act}{w:World}{env:Env}{o:Oper}
theorem SJ{Γ:Nat→TK}(C: ∀t,cw P t (Γ t)){m0:Nat}{o1 o2:Oper}{vc:List Prop}{st':St}(h:U7 P ty Γ st m0 o1 o2=some (vc,st'))(hv: ∀q,q∈vc→q)(iv:Inv ty zb st a w)
  {ops:Array Oper}{tail:List Oper}{Q:Exit→Act→World→Prop}(hQ: ∀a w,Inv ty zb st' a w→wpList P ops Q tail a w):wpList P ops Q (o1::o2::tail) a w:=by
 obtain⟨env,g⟩:=iv.good
 have hB:=iv.kept.size
 unfold U7 at h
 split at h
 case h_2=>cases h
 rename_i d1 tb len parts hg1 hd1 ho1
 split at h
 case h_2=>cases h
 rename_i t e hk
 split at h
 case h_2=>cases h
 rename_i oc lx m pX hb
 split at h
 case h_2=>cases h
 rename_i d2 xs ts hg2 hd2 GK
 split at h
 case h_2=>cases h
 rename_i s d t1 t2 hxl htl
 split at h
 case h_2=>cases h
 rename_i vs Ji hs
 split at h
 case h_2=>cases h
 rename_i l k hds
 split at h
 case h_2=>cases h
 rename_i ZU hlk
 simp only[Option.some.injEq,Prod.mk.injEq,eo]at h
 rw[eo]at hlk
 obtain⟨rfl,YS⟩:=h
 simp only[Bool.and_eq_true,Bool.not_eq_true']at pX Ji ZU
 obtain⟨⟨he,hlen⟩,BV⟩:=pX
 obtain⟨⟨⟨Wc,hoff⟩,ht1⟩,ht2⟩:=Ji
 obtain⟨⟨⟨⟨⟨hnd,hno⟩,hpk⟩,G7⟩,nr⟩,iI⟩:=ZU
 have he:=Nat.eq_of_beq_eq_true he
 obtain rfl:=Nat.eq_of_beq_eq_true Wc
 obtain rfl:=Nat.eq_of_beq_eq_true ht1
 obtain rfl:=Nat.eq_of_beq_eq_true ht2
 obtain rfl:xs= #[s, .tmp d]:=by cases xs;simp_all
 obtain rfl:ts= #[t2,t2]:=by cases ts;simp_all
 have uJ:El P ty t:=hv _ (by simp)
 obtain⟨aD,aR⟩:(l.length+lx.length)*cN t≤140737488355328∧l.length+lx.length≤maxLen:=hv _ (by simp)
 obtain⟨q1,q2,bk,q3,q4,q5,q6,q7⟩:=CP g hb (jt hnd) (fun q hq=>hv q (by simp[hq]))
 have hC:=C t2
 rw[hk,he]at hC
 have hlen:=Nat.eq_of_beq_eq_true hlen
 obtain⟨w1,r1,r2,r3⟩:=tG (P:=P) (w:=w) (a:=a) ho1 hC.1 uJ (Nat.le_of_ble_eq_true BV) hlen (Nat.zero_le _) q1 q2 q3 q4 q5
 have g1:Good ty zb st a.tmps w1 env:=by
  have:=Good.grow hB g (os:= []) rfl (lf.none r2)
  exact this
 have WV:zb.w.heap.size≤w1.heap.size:=Nat.le_trans hB r2.size
 have hR1:oF P ops o1 a w (fun a' w'=>a'=a.put o1.dst (.slice (some ⟨w.heap.size,0,none⟩) len len)∧w1=w') Q:=by
  refine iW hg1 ?_
  unfold Oper.wp
  rw[r1]
  exact⟨rfl,rfl⟩
 refine hR1.mono ?_
 rintro a1 w1 ⟨rfl,rfl⟩
 have wE:d<a.tmps.size:=by rw[iv.size];exact Nat.le_of_ble_eq_true nr
 have YT:d2<a.tmps.size:=by rw[iv.size];exact Nat.le_of_ble_eq_true iI
 rw[hd1]
 have qy:(a.put (some d) (.slice (some ⟨w.heap.size,0,none⟩) len len)).eval s=a.eval s:=by
  cases s with
  |tmp s=>
   simp only[U6,Bool.not_eq_true']at hoff
   have hne:s≠d:=by rintro rfl;simp at hoff
   show(a.tmps.setIfInBounds d _).getD s undef=a.tmps.getD s undef
   rw[Array.getD_eq_getD_getElem?,Array.getD_eq_getD_getElem?,Array.getElem?_setIfInBounds_ne (fun e=>hne e.symm)]
  |const v=>rfl
  |_=>simp[U6]at hoff
 have hxv:(a.put (some d) (.slice (some ⟨w.heap.size,0,none⟩) len len)).eval (.tmp d)= .slice (some ⟨w.heap.size,0,none⟩) len len:=by
  show(a.tmps.setIfInBounds d _).getD d undef=_
  rw[Array.getD_eq_getD_getElem?,Array.getElem?_setIfInBounds_self_of_lt wE];rfl
 obtain⟨fp,hD,lR⟩:=Eh g1 (eg g1 (fun e he=>by simp at he) hs) hds hpk
 obtain⟨news,fx,hown,hfl,Uo,gA,hfo⟩:=r3
 have KQ:fx.flatten=bk.flatten:=by simpa[Value.ownBlock]using gA.symm
 have X5:Own 0 w1 bk.flatten:=q5.below r2
 have hlx:len=lx.length:=by rw[q2,hlen]
 have Rs:Own 0 w1 (fp++fx.flatten):=by
  rw[KQ]
  have ho:=hD.own
  refine⟨List.nodup_append.2 ⟨ho.nodup,X5.nodup,?_⟩,fun b hb=> ?_,fun b hb=> ?_⟩
  ·rintro b hb c hc rfl
   obtain⟨i,oi,hi,h1,h2⟩:=lR b hb
   obtain⟨j,oj,hj,h3,h4⟩:=q6 b hc
   have hij:i≠j:=by
    rintro rfl
    simp only[G9,List.all_eq_true,Bool.not_eq_true',List.any_eq_false]at hno
    exact hno i hi i hj (by simp)
   exact g.kj i j _ _ hij h1 h3 b h2 h4
  ·rcases List.mem_append.1 hb with hb|hb
   ·exact ho.ge b hb
   ·exact X5.ge b hb
  ·rcases List.mem_append.1 hb with hb|hb
   ·exact ho.kind b hb
   ·exact X5.kind b hb
 have Dv: ∀b,(a.eval s).ownBlock=some b→b∈fp:=by
  intro b hb
  obtain⟨xs,bk,_,_,_,gA,_⟩:=hD
  rw[gA,hb];simp
 have hsrc:Src w1 (.slice (some ⟨w.heap.size,0,none⟩) len len) lx.length news:=by
  subst hlx
  exact Or.inr ⟨⟨w.heap.size,0,none⟩,_,rfl,hown.cells (g:=w.heap.size) rfl⟩
 have hR2:oF P ops o2 (a.put (some d) (.slice (some ⟨w.heap.size,0,none⟩) len len)) w1 (fun a' w'=>Inv ty zb st' a' w') Q:=by
  refine iW hg2 ?_
  refine Fc s (.tmp d) t2 GK (eT t) (kB t) 0 (ty t) (eM t) (cN t) hC.1 uJ (pR t) (a.eval s) l fp qy hD _ hxv lx news fx hsrc hfl hown.1 Uo Rs aR aD (Nat.zero_le _) ?_
  intro v' w' ga k1 k2 k3 k4 k5 k6
  obtain⟨env',hg',Jh⟩:=P5 (ty:=ty) g1 WV (ks:=k++m) (ns:=m) G7 hlk (v:=a.eval s) (fp:=fp) (fx:=bk.flatten)
   (by
    intro b hb
    rcases List.mem_append.1 hb with hb|hb
    ·obtain⟨i,oi,hi,h1⟩:=lR b hb;exact⟨i,oi,List.mem_append_left _ hi,h1⟩
    ·obtain⟨i,oi,hi,h1⟩:=q6 b hb;exact⟨i,oi,List.mem_append_right _ hi,h1⟩)
   Dv k1 k2 (fun b hb=>by
    rcases k4 b hb with h|h|h
    ·exact Or.inl h
    ·exact Or.inr (Or.inl (KQ▸h))
    ·exact Or.inr (Or.inr (by omega)))
   (fun n hn=>List.mem_append_right _ hn)
   (fun n o b hn hl hb=>by
    have MM:=q7 n b hn hb
    refine⟨k6 b (by rw[KQ];exact MM),k2.block b (X5.lt b MM) fun e=> ?_⟩
    obtain⟨i,oi,hi,h1,h2⟩:=lR b (Dv b e.symm)
    have hij:i≠n:=by
     rintro rfl
     simp only[G9,List.all_eq_true,Bool.not_eq_true',List.any_eq_false]at hno
     exact hno i hi i hn (by simp)
    exact g.kj i n _ _ hij h1 hl b h2 hb)
  have WW:Kept zb w1 w':=by
   refine⟨k2.os,k2.tape,k2.output,k2.size,fun b hb hn=>k2.block b (by omega) fun e=> ?_,k5⟩
   obtain⟨i,oi,hi,h1,h2⟩:=lR b (Dv b e.symm)
   rcases g.dom i oi h1 b h2 with h|h
   ·exact hn h
   ·omega
  rw[←YS]
  refine⟨?_,?_,(iv.kept.trans (iV r2 hB)).trans WW,iv.A3,env',?_⟩
  ·rw[gB,gB,wD,wD];exact iv.size
  ·rw[put_defers,put_defers];exact iv.defers
  ·have gp:=oE hg' (dst:=some d) (fun _ e=>by cases e;exact wE) (v:= .one (.a .any)) (u:= .slice (some ⟨w.heap.size,0,none⟩) len len) trivial (fun d _=>nC ⟨_,rfl⟩)
   rw[hd2]
   refine oE gp (fun _ e=>by cases e;rw[gB];exact YT) ?_ (fun d _=>nC ⟨_,rfl⟩)
   rw[Ua]
   exact⟨⟨t,_,look_eq⟩,Jh.symm⟩
 exact hR2.mono fun a' w' lU=>hQ a' w' lU
end
def CQ:Nat→List Oper→Option (List Oper×Oper×Oper×List Oper)
 |0,o1::o2::r=>some ([],o1,o2,r)
 |n+1,o::r=>match CQ n r with
  |some (p,o1,o2,q)=>some (o::p,o1,o2,q)
  |none=>none
 |_,_=>none
theorem EG: ∀{n:Nat} {l p q:List Oper} {o1 o2:Oper},CQ n l=some (p,o1,o2,q)→l=p++o1::o2::q
 |0,[],_,_,_,_,h=>by cases h
 |0,[_],_,_,_,_,h=>by cases h
 |0,o1::o2::r,p,q,a,b,h=>by
  simp only[CQ,Option.some.injEq,Prod.mk.injEq]at h
  obtain⟨rfl,rfl,rfl,rfl⟩:=h;rfl
 |n+1,[],_,_,_,_,h=>by cases h
 |n+1,o::r,p,q,a,b,h=>by
  simp only[CQ]at h
  split at h
  ·rename_i p' o1 o2 q' h'
   simp only[Option.some.injEq,Prod.mk.injEq]at h
   obtain⟨rfl,rfl,rfl,rfl⟩:=h
   rw[EG h'];rfl
  ·cases h
def runK(P:Program)(ty:Tag→Nat)(Γ:Nat→TK)(cO:List (Nat×Nat))(cr:List (Nat×CR))(ops rest:List Oper)(oc:List Prop):Option (List Prop×St)→Option (List Prop×St)
 |some ([p,q],⟨n,sl,hp⟩)=>run P ty Γ cO cr ops rest ⟨n,sl,hp⟩ (p::q::oc)
 |some ([p,q,r],⟨n,sl,hp⟩)=>run P ty Γ cO cr ops rest ⟨n,sl,hp⟩ (p::q::r::oc)
 |some (l,⟨n,sl,hp⟩)=>run P ty Γ cO cr ops rest ⟨n,sl,hp⟩ (l++oc)
 |none=>none
def fR:Option (List Prop×St)→Option (List Prop×St)
 |some (l,st)=>match MV st with|some st=>some (l,st)|none=>none
 |none=>none
theorem WX{x:Option (List Prop×St)}{y:List Prop×St}(h:fR x=some y):x=some y:=by
 unfold fR at h
 split at h
 ·split at h
  ·rename_i l st rN hs
   simp only[Option.some.injEq]at h
   rw[←h,mK hs]
  ·cases h
 ·cases h
theorem SK{P:Program}{Γ:Nat→TK}{cO:List (Nat×Nat)}{cr:List (Nat×CR)}{ops rest:List Oper}{oc:List Prop}{x:Option (List Prop×St)}{y:List Prop×St}(h:runK P ty Γ cO cr ops rest oc x=some y):
  ∃l st acc,x=some (l,st)∧run P ty Γ cO cr ops rest st acc=some y∧ ∀q,q∈l++oc→q∈acc:=by
 unfold runK at h
 split at h
 ·exact⟨_,_,_,rfl,h,fun q hq=>by simpa using hq⟩
 ·exact⟨_,_,_,rfl,h,fun q hq=>by simpa using hq⟩
 ·exact⟨_,_,_,rfl,h,fun q hq=>by simpa using hq⟩
 ·cases h
def P6(P:Program)(ty:Tag→Nat)(Γ:Nat→TK)(cO:List (Nat×Nat))(cr:List (Nat×CR))(ks:List Nat)(ix m0:Nat)(ops:List Oper):St→Option (List Prop×St)
 | ⟨n,NO,fQ⟩=>match CQ ix ops with
   |some (pre,o1,o2,rest)=>match run P ty Γ cO cr ops pre ⟨n,NO,fQ⟩ []with
    |some (oc,AB)=>match runK P ty Γ cO cr ops rest oc (fR (U7 P ty Γ AB m0 o1 o2))with
     |some (vc,st')=>match Lr n st' ks,Nat.beq st'.n n with
      |some rN,true=>some (vc,rN)
      |_,_=>none
     |none=>none
    |none=>none
   |none=>none
section
variable{P:Program}{Γ:Nat→TK}{zb:cA}{Q:Post}{st:St}
theorem W.P6(X:Ctx P ty Γ)(cO:List (Nat×Nat))(cr:List (Nat×CR))(ks:List Nat)(ix m0:Nat){id:Nat}{ops:List Oper}{vc:List Prop}{st':St}(h:P6 P ty Γ cO cr ks ix m0 ops st=some (vc,st'))(hv:ah vc)(k:Q .normal st'):
  W P ty zb (.region id ops.toArray false) Q st:=by
 intro a w iv
 obtain⟨n,NO,fQ⟩:=st
 unfold G.P6 at h
 dsimp only at h
 split at h
 case h_2=>cases h
 rename_i pre o1 o2 rest hsp
 split at h
 case h_2=>cases h
 rename_i oc AB hrun
 split at h
 case h_2=>cases h
 rename_i RZ rN hk
 split at h
 case h_2=>cases h
 rename_i st3 hkeep hn
 simp only[Option.some.injEq,Prod.mk.injEq]at h
 obtain⟨rfl,rfl⟩:=h
 obtain⟨l,st4,acc,he,P7,hacc⟩:=SK hk
 have he:=WX he
 have hv:=hv.out
 refine wp_region_lit ?_
 rw[show wpList P ops.toArray (Ci ty zb Q) ops a w=wpList P ops.toArray (Ci ty zb Q) (pre++o1::o2::rest) a w by rw[←EG hsp]]
 refine F3 X.kind X.one (fun a w iv=> ?_) hrun (fun q hq=>hv q (p7 P7 q (hacc q (List.mem_append_right _ hq)))) iv
 refine SJ X.kind he (fun q hq=>hv q (p7 P7 q (hacc q (List.mem_append_left _ hq)))) iv fun a w iv=> ?_
 refine JO X.kind X.one (fun a w iv=>⟨_,?_,k⟩) P7 hv iv
 unfold Lr at hkeep
 split at hkeep
 ·rename_i sl hp h1 h2
  split at hkeep
  ·rename_i hc
   simp only[Option.some.injEq]at hkeep
   subst hkeep
   exact iv.weaken (Nat.eq_of_beq_eq_true hn).symm (kD h1) (kE h2) hc
  ·cases hkeep
 ·cases hkeep
end
def rename(st:St)(s m:Nat):Option St:=match look st.sl s,Nat.blt s st.n with
 |some (.one (.a (.own n))),true=>match look st.hp n,pinned [n],iA m,look (cm [n] [] st.hp) m with
  |some (.arr t l),false,false,none=>MV ((st.gone [n] m t l).put (some s) (.one (.a (.own m))))
  |_,_,_,_=>none
 |_,_=>none
theorem Ni{zb:cA}{st st':St}{s m:Nat}(h:rename st s m=some st'){a:Act}{w:World}(iv:Inv ty zb st a w):Inv ty zb st' a w:=by
 obtain⟨env,g⟩:=iv.good
 have hB:=iv.kept.size
 unfold rename at h
 split at h
 case h_2=>cases h
 rename_i n hs hlt
 split at h
 case h_2=>cases h
 rename_i t l hl hpk G7 hlk
 have h:=mK h
 rw[St.gone_eq]at h
 have Th:soft n=false:=pW hpk (by simp)
 have hb:=RO.KN Th (g.obj n _ hl)
 have Dv: ∀b,(env n).v.ownBlock=some b→b∈(env n).fp:=by
  intro b hb'
  obtain⟨xs,bk,_,_,_,gA,_⟩:=hb
  rw[gA,hb'];simp
 obtain⟨env',hg',Jh⟩:=B3 (ty:=ty) g hB (ks:= [n]) hpk G7 hlk (v:=(env n).v) (v':=(env n).v) (w':=w) (fp:=(env n).fp) (fx:= []) (by
  intro b hb
  rw[List.append_nil]at hb
  exact⟨n,_,by simp,hl,hb⟩) Dv hb ⟨rfl,rfl,rfl,Nat.le_refl _,fun _ _ _=>rfl⟩ (fun b hb=>Or.inl hb)
 have hlt:s<a.tmps.size:=by rw[iv.size];exact Nat.le_of_ble_eq_true hlt
 obtain⟨_,hu⟩:=g.slot s _ hs
 have gp:=hg'.put hlt (v:= .one (.a (.own m))) (u:=a.tmps.getD s undef) ⟨⟨t,l,look_eq⟩,by rw[Jh];exact hu⟩ rfl
 have e:a.tmps.setIfInBounds s (a.tmps.getD s undef)=a.tmps:=by
  rw[Array.getD_eq_getD_getElem?,Array.getElem?_eq_getElem hlt]
  apply Array.ext
  ·simp
  ·intro i h1 h2
   rw[Array.getElem_setIfInBounds]
   split
   ·rename_i hi;subst hi;rfl
   ·rfl
 rw[e]at gp
 rw[h]
 exact⟨by rw[wD];exact iv.size,iv.defers,iv.kept,iv.A3,env',gp⟩
theorem W.rename{P:Program}{zb:cA}{Q:Post}{st st':St}{c:Code}(s m:Nat)(h:G.rename st s m=some st')(k:W P ty zb c Q st'):W P ty zb c Q st:=fun a w iv=>k a w (Ni h iv)
def mX(st:St)(b i m:Nat)(t:Tag):Option St:=match look st.hp b,iA m,look st.hp m with
 |some (.box c),false,none=>match wm c i with
  |some (.lit (.slice none 0 0))=>MV ⟨st.n,st.sl,(b, .box (c.set i (.own m)))::(m, .arr t [])::st.hp⟩
  |_=>none
 |_,_,_=>none
theorem bn.set'{R R':V→Value→Prop}{y:V}(hm: ∀a u,R a u→R' a u): ∀{c:List V} {cs:List Value} {i:Nat} {v:V},bn R c cs→wm c i=some v→(∀u,R v u→R' y u)→bn R' (c.set i y) cs
 | [],_,_,_,_,h,_=>by cases h
 |a::r,[],_,_,h,_,_=>h.elim
 |a::r,u::us,0,v,⟨h1,h2⟩,h,hy=>by
  simp only[wm,Option.some.injEq]at h
  subst h
  exact⟨hy u h1,h2.mono fun a b _ h=>hm a b h⟩
 |a::r,u::us,i+1,v,⟨h1,h2⟩,h,hy=>⟨hm a u h1,bn.set' hm h2 (by simpa[wm]using h) hy⟩
theorem Nj{zb:cA}{st st':St}{b i m:Nat}{t:Tag}(h:mX st b i m t=some st'){a:Act}{w:World}(iv:Inv ty zb st a w):Inv ty zb st' a w:=by
 obtain⟨env,g⟩:=iv.good
 have hB:=iv.kept.size
 unfold mX at h
 split at h
 case h_2=>cases h
 rename_i c hl G7 hlk
 split at h
 case h_2=>cases h
 rename_i he
 have h:=mK h
 have hne:b≠m:=by rintro rfl;rw[hl]at hlk;cases hlk
 have hN:lf (ty:=ty) w w st.hp [(m, .arr t [])] env (fun n=>if n=m then⟨Fm,[]⟩else env n):=by
  refine⟨Below.refl _ _,fun n hn=> ?_,fun n o hn=> ?_,fun n n' o o' hne h1 h2=> ?_⟩
  ·by_cases hnm:n=m
   ·subst hnm;rw[look_eq]at hn;cases hn
   ·simp[hnm]
  ·by_cases hnm:n=m
   ·subst hnm
    rw[look_eq]at hn
    simp only[Option.some.injEq]at hn
    subst hn
    simp only[if_true]
    exact⟨RO.D8 (iR.nil _ _ _ _ _),by simp⟩
   ·rw[aW hnm]at hn;cases hn
  ·intro x hx
   by_cases hnm:n=m
   ·subst hnm;simp at hx
   ·rw[aW hnm]at h1;cases h1
 have g1:=Good.grow hB g (os:= [(m, .arr t [])]) (by simp[fresh,hlk,G7]) hN
 have nr:look ([(m,Obj.arr t [])]++st.hp) b=some (.box c):=by
  show look ((m,Obj.arr t [])::st.hp) b=_
  rw[aW hne];exact hl
 obtain⟨b',cs,e,GI,hh,hc⟩:=g1.obj b _ nr
 have g2:=B1 (off:=0) (us:= []) (c':=c.set i (.own m)) g1 nr GI hh (Nat.zero_le _) (by
  simp only[List.take_zero,List.nil_append,Nat.zero_add,List.length_nil,List.drop_zero]
  refine bn.set' (fun _ _ h=>h) hc he fun u hu=> ?_
  obtain⟨rfl,_⟩:=hu
  refine⟨⟨t,[],look_eq⟩,?_⟩
  simp only[if_true])
 rw[h]
 exact⟨iv.size,iv.defers,iv.kept,iv.A3,_,g2⟩
theorem W.mX{P:Program}{zb:cA}{Q:Post}{st st':St}{c:Code}(b i m:Nat)(t:Tag)(h:G.mX st b i m t=some st')(k:W P ty zb c Q st'):W P ty zb c Q st:=fun a w iv=>k a w (Nj h iv)
def kY(st:St)(b i m:Nat):Option St:=match look st.hp b with
 |some (.box c)=>match wm c i with
  |some (.own n)=>match look st.hp n,pinned [n],iA m,look (cm [n] [] st.hp) m with
   |some (.arr t l),false,false,none=>match st.gone [n] m t l with
    | ⟨nn,sl,hp⟩=>MV ⟨nn,sl,(b, .box ((c.map fun v=>v.bE [n] []).set i (.own m)))::hp⟩
   |_,_,_,_=>none
  |_=>none
 |_=>none
theorem bn.WY{R R':V→Value→Prop}{f:V→V}{y:V}(hm: ∀a u,R a u→R' (f a) u): ∀{c:List V} {cs:List Value} {i:Nat} {v:V},bn R c cs→wm c i=some v→(∀u,R v u→R' y u)→bn R' ((c.map f).set i y) cs
 | [],_,_,_,_,h,_=>by cases h
 |a::r,[],_,_,h,_,_=>h.elim
 |a::r,u::us,0,v,⟨h1,h2⟩,h,hy=>by
  simp only[wm,Option.some.injEq]at h
  subst h
  exact⟨hy u h1,h2.map hm⟩
 |a::r,u::us,i+1,v,⟨h1,h2⟩,h,hy=>⟨hm a u h1,bn.WY hm h2 (by simpa[wm]using h) hy⟩
theorem Kg{zb:cA}{st st':St}{b i m:Nat}(h:kY st b i m=some st'){a:Act}{w:World}(iv:Inv ty zb st a w):Inv ty zb st' a w:=by
 obtain⟨env,g⟩:=iv.good
 have hB:=iv.kept.size
 unfold kY at h
 split at h
 case h_2=>cases h
 rename_i c GJ
 split at h
 case h_2=>cases h
 rename_i n he
 split at h
 case h_2=>cases h
 rename_i t l hl hpk G7 hlk
 rw[St.gone_eq]at h
 have h:=mK h
 have Th:soft n=false:=pW hpk (by simp)
 have hb:=RO.KN Th (g.obj n _ hl)
 have Dv: ∀b,(env n).v.ownBlock=some b→b∈(env n).fp:=by
  intro b hb'
  obtain⟨xs,bk,_,_,_,gA,_⟩:=hb
  rw[gA,hb'];simp
 obtain⟨env',hg',Jh,hold,YU⟩:=Eg (ty:=ty) g hB (ks:= [n]) hpk G7 hlk (v:=(env n).v) (v':=(env n).v) (w':=w) (fp:=(env n).fp) (fx:= []) (by
  intro b hb
  rw[List.append_nil]at hb
  exact⟨n,_,by simp,hl,hb⟩) Dv hb ⟨rfl,rfl,rfl,Nat.le_refl _,fun _ _ _=>rfl⟩ (fun b hb=>Or.inl hb)
 have hbn:b≠n:=by rintro rfl;rw[GJ]at hl;cases hl
 have hbk:look (cm [n] [] st.hp) b=some (.box (c.map fun v=>v.bE [n] [])):=by
  rw[bO,if_neg (by simpa using hbn),GJ];rfl
 have Ej:b≠m:=by rintro rfl;rw[hbk]at hlk;cases hlk
 have aR:look ((m,Obj.arr t l)::cm [n] [] st.hp) b=some (.box (c.map fun v=>v.bE [n] [])):=by rw[aW Ej];exact hbk
 obtain⟨b',cs,e,GI,hh,hc⟩:=hg'.obj b _ aR
 obtain⟨b0,cs0,e0,YV,hh0,hc0⟩:=g.obj b _ GJ
 have T9:b'=b0:=by
  rw[hold b Ej,YV]at GI
  simpa using GI.symm
 subst T9
 have hcs:cs=cs0:=by
  rw[hh0]at hh
  simp at hh
  exact hh.1.symm
 subst hcs
 have s:qH [n] [] w st.hp env w ((m,Obj.arr t l)::cm [n] [] st.hp) env':=by
  have hnm: ∀x o,x≠n→look st.hp x=some o→x≠m:=by
   rintro x o hx h1 rfl
   rw[bO,if_neg (by simpa using hx),h1]at hlk;cases hlk
  refine⟨fun _ _ _=>rfl,?_,?_,?_⟩
  ·rintro x hx ⟨y,o',h1,h2⟩
   by_cases hy:y=m
   ·subst hy
    exact⟨n,_,hl,by rw[←YU];exact h2⟩
   ·rw[hold y hy]at h2
    rw[aW hy,bO]at h1
    split at h1
    ·cases h1
    ·cases hq:look st.hp y with
     |none=>rw[hq]at h1;cases h1
     |some o=>exact⟨y,o,hq,h2⟩
  ·intro x o hx h1
   have hx:x≠n:=by simpa using hx
   have WZ:=hnm x o hx h1
   exact⟨o.bE [n] [],by rw[aW WZ,bO,if_neg (by simpa using hx),h1];rfl,by cases o<;>simp[Obj.like,Obj.bE],by rw[hold x WZ]⟩
  ·rintro x t' l' ⟨hx,_⟩ h1
   have hx:x≠n:=by simpa using hx
   have WZ:=hnm x _ hx h1
   exact⟨by rw[aW WZ,bO,if_neg (by simpa using hx),h1];rfl,by rw[hold x WZ],fun _ _=>rfl⟩
 have g2:=B1 (off:=0) (us:= []) (c':=(c.map fun v=>v.bE [n] []).set i (.own m)) hg' aR GI hh (Nat.zero_le _) (by
  simp only[List.take_zero,List.nil_append,Nat.zero_add,List.length_nil,List.drop_zero]
  refine bn.WY (fun v u h=>RA.iX s h) hc0 he fun u hu=> ?_
  obtain⟨_,hu⟩:=hu
  exact⟨⟨t,l,look_eq⟩,by rw[hu,Jh]⟩)
 rw[h]
 exact⟨iv.size,iv.defers,iv.kept,iv.A3,_,g2⟩
theorem W.kY{P:Program}{zb:cA}{Q:Post}{st st':St}{c:Code}(b i m:Nat)(h:G.kY st b i m=some st')(k:W P ty zb c Q st'):W P ty zb c Q st:=fun a w iv=>k a w (Kg h iv)
end
section
variable{ty:Tag→Nat}
inductive eR where
 |last(q:Nat)
 |ph(q:Nat)(c:eR)
 |br(d t:Nat)(sub next:eR)
 |nil
def eR.Lz:eR→List (Nat×Nat×eR)
 | .br d t sub next=>(d,t,sub)::next.Lz
 |_=> []
def eR.Qa:eR→Bool
 | .last _=>true
 | .ph _ _=>true
 |_=>false
def Ib(Γ:Nat→TK)(E:Tag→Nat→Prop)(S:FuncId→List S1→List S1→Prop)(cO:List (Nat×Nat))(cr:List (Nat×CR))(ops:List Oper)(q:Nat):Nat→List Oper→St→Option (List TE×List (Nat×List Prop))
 |_,[],_=>some ([],[])
 |i,o::r,⟨n,sl,hp⟩=>match q.testBit i with
  |false=>match Ib Γ E S cO cr ops q (i+1) r ⟨n,sl,hp⟩with
   |some (tr,vq)=>some (⟨0, .rC [],[]⟩::tr,vq)
   |none=>none
  |true=>match o.dst with
   |some d=>match sl.any (fun e=>e.2.mentions d),ld Γ E S cO cr ops ⟨n,sl,hp⟩ o with
    |false,some (vc,v,os)=>match fS v,Uz os with
     |some v,some os=>match Ib Γ E S cO cr ops q (i+1) r ⟨n,(d,v)::sl,mI os hp⟩with
      |some (tr,vq)=>some (⟨d,v,os⟩::tr,(i,vc)::vq)
      |none=>none
     |_,_=>none
    |_,_=>none
   |none=>none
def Ic(d:Nat):Nat→List TE→St→St
 |_,[],s=>s
 |i,e::r,s=>match d.testBit i with
  |true=>Ic d (i+1) r (app s e)
  |false=>Ic d (i+1) r s
def Kh(i:Nat)(vc:List Prop):List (Nat×List Prop)→List (Nat×List Prop)
 | []=> [(i,vc)]
 | (j,v)::r=>match Nat.blt j i with
   |true=>(i,vc)::(j,v)::r
   |false=>(j,v)::Kh i vc r
def Ie(d:Nat):List (Nat×List Prop)→List (Nat×List Prop)→List (Nat×List Prop)
 | [],acc=>acc
 | (i,vc)::r,acc=>match d.testBit i with
   |true=>Ie d r (Kh i vc acc)
   |false=>Ie d r acc
def Ao:List (Nat×List Prop)→Option (List Prop)
 | []=>some []
 | (_,[])::r=>Ao r
 | (_,[p])::r=>match Ao r with|some l=>some (p::l)|none=>none
 | (_,[p,q])::r=>match Ao r with|some l=>some (p::q::l)|none=>none
 | (_,l)::r=>match Ao r with|some l'=>some (l++l')|none=>none
theorem sE{i:Nat}{vc:List Prop}: ∀{l:List (Nat×List Prop)} {x:Nat×List Prop},x∈Kh i vc l↔x=(i,vc)∨x∈l
 | [],x=>by simp[Kh]
 | (j,v)::r,x=>by
   simp only[Kh]
   split
   ·simp
   ·rw[List.mem_cons,List.mem_cons,sE]
    constructor
    ·rintro(h|h|h)
     ·exact Or.inr (Or.inl h)
     ·exact Or.inl h
     ·exact Or.inr (Or.inr h)
    ·rintro(h|h|h)
     ·exact Or.inr (Or.inl h)
     ·exact Or.inl h
     ·exact Or.inr (Or.inr h)
theorem oV{d:Nat}: ∀{vq acc:List (Nat×List Prop)} {x:Nat×List Prop},x∈Ie d vq acc↔(x∈vq∧d.testBit x.1=true)∨x∈acc
 | [],acc,x=>by simp[Ie]
 | (i,vc)::r,acc,x=>by
   simp only[Ie]
   split
   ·rename_i hb
    rw[oV,sE]
    constructor
    ·rintro(⟨h1,h2⟩|rfl|h)
     ·exact Or.inl ⟨List.mem_cons_of_mem _ h1,h2⟩
     ·exact Or.inl ⟨by simp,hb⟩
     ·exact Or.inr h
    ·rintro(⟨h1,h2⟩|h)
     ·rcases List.mem_cons.1 h1 with rfl|h1
      ·exact Or.inr (Or.inl rfl)
      ·exact Or.inl ⟨h1,h2⟩
     ·exact Or.inr (Or.inr h)
   ·rename_i hb
    rw[oV]
    constructor
    ·rintro(⟨h1,h2⟩|h)
     ·exact Or.inl ⟨List.mem_cons_of_mem _ h1,h2⟩
     ·exact Or.inr h
    ·rintro(⟨h1,h2⟩|h)
     ·rcases List.mem_cons.1 h1 with rfl|h1
      ·simp only at h2;rw[h2]at hb;cases hb
      ·exact Or.inl ⟨h1,h2⟩
     ·exact Or.inr h
theorem zl: ∀{l:List (Nat×List Prop)} {m:List Prop},Ao l=some m→ ∀x,x∈l→ ∀q,q∈x.2→q∈m
 | [],_,_,x,hx=>by cases hx
 | (i,v)::r,m,h,x,hx=>by
   have key: ∃l',Ao r=some l'∧m=v++l':=by
    unfold Ao at h
    split at h
    ·rename_i he;cases he
    ·rename_i he;simp only[List.cons.injEq,Prod.mk.injEq]at he;obtain⟨⟨rfl,rfl⟩,rfl⟩:=he;exact⟨m,h,rfl⟩
    ·rename_i he
     simp only[List.cons.injEq,Prod.mk.injEq]at he;obtain⟨⟨rfl,rfl⟩,rfl⟩:=he
     split at h
     ·rename_i l' h1;simp only[Option.some.injEq]at h;exact⟨l',h1,h.symm⟩
     ·cases h
    ·rename_i he
     simp only[List.cons.injEq,Prod.mk.injEq]at he;obtain⟨⟨rfl,rfl⟩,rfl⟩:=he
     split at h
     ·rename_i l' h1;simp only[Option.some.injEq]at h;exact⟨l',h1,h.symm⟩
     ·cases h
    ·rename_i he
     simp only[List.cons.injEq,Prod.mk.injEq]at he;obtain⟨⟨rfl,rfl⟩,rfl⟩:=he
     split at h
     ·rename_i l' h1;simp only[Option.some.injEq]at h;exact⟨l',h1,h.symm⟩
     ·cases h
   obtain⟨l',h1,rfl⟩:=key
   intro q hq
   rcases List.mem_cons.1 hx with rfl|hx
   ·exact List.mem_append_left _ hq
   ·exact List.mem_append_right _ (zl h1 x hx q hq)
def jW(P:Program)(ty:Tag→Nat)(Γ:Nat→TK)(cO:List (Nat×Nat))(cr:List (Nat×CR))(ks hs:List Nat)(ops:List Oper)(n0:Nat):eR→St→List TE→List (Nat×List Prop)→List (Nat×List Prop)→Option (List (List Prop×St))
 | .last q,s,_,_,acc=>match Ib Γ (Jc P ty) (Sound ty P) cO cr ops q 0 ops s with
   |some (tr,vq)=>match MV (Ic q 0 tr s)with
    |some ⟨n,X6,eZ⟩=>match Ad X6 ks,Ae eZ (K8 X6 eZ ks hs),Ao (Ie q vq acc)with
     |some sl,some hp,some vc=>match p9 sl hp,Nat.beq n n0 with
      |true,true=>some [(vc,⟨n0,sl,hp⟩)]
      |_,_=>none
     |_,_,_=>none
    |none=>none
   |none=>none
 | .ph q c,s,_,_,acc=>match Ib Γ (Jc P ty) (Sound ty P) cO cr ops q 0 ops s with
   |some (tr,vq)=>jW P ty Γ cO cr ks hs ops n0 c s tr vq acc
   |none=>none
 | .br d t sub next,s,tr,vq,acc=>match MV (Ic d 0 tr s),ops[t]? with
   |some s1,some o=>match step P ty Γ cO cr ops s1 o with
    |some (vc,s2)=>match MV s2 with
     |some s2=>match jW P ty Γ cO cr ks hs ops n0 sub s2 [] [] (Kh t vc (Ie d vq acc)),jW P ty Γ cO cr ks hs ops n0 next s tr vq acc with
      |some l1,some l2=>some (mI l1 l2)
      |_,_=>none
     |none=>none
    |none=>none
   |_,_=>none
 | .nil,_,_,_,_=>some []
def CU(ops:List Oper)(B q Ig:Nat):Nat→Nat→Nat→List Nat
 |0,_,d=> [d]
 |m+1,i,d=>match q.testBit i with
  |false=>CU ops B q Ig m (i+1) d
  |true=>(match((ops[i]?).map fun o=>(bP o).all fun j=>B.testBit j||d.testBit j).getD false with
   |true=>CU ops B q Ig m (i+1) (d|||2^i)
   |false=> [])++(match Ig.testBit i with
   |true=> []
   |false=>CU ops B q Ig m (i+1) d)
def SN(ops:List Oper)(cl:List Nat)(A:List (Nat×Oper))(qs B q:Nat):Bool:=
 A.all fun e=>(!(q.testBit e.1)|| !(B.testBit e.1))&&
   (B.testBit e.1||q.testBit e.1|| !(qs.testBit e.1)|| !((bP e.2).all fun j=>B.testBit j||q.testBit j))&&
   (!(q.testBit e.1)||
     ((tmpsOf e.2).all fun t=>A.all fun f=> !(q.testBit f.1)|| !(wQ f.2 t)||Nat.beq f.1 e.1|| (cl.getD e.1 0).testBit f.1|| (Nat.blt e.1 f.1&&(cl.getD f.1 0).testBit e.1))&&
     (match e.2.guard with
      |none=>true
      |some (j,_)=>(bP e.2).any (Nat.beq j))&&
     (match e.2.dst with
      |some d=>A.all fun f=>Nat.beq f.1 e.1|| !(wQ f.2 d)
      |none=>false)&&(bP e.2).all fun j=>B.testBit j||q.testBit j)
def F6(ops:List Oper)(cl:List Nat)(n B q:Nat)(c:eR):Bool:=
 (List.range n).all fun t=>B.testBit t||q.testBit t||
  (CU ops B q (cl.getD t 0) n 0 0).all fun d=> !(((ops[t]?).map fun o=>(bP o).all fun j=>B.testBit j||d.testBit j).getD false)||c.Lz.any fun b=>Nat.beq b.1 d&&Nat.beq b.2.1 t
def NQ(ops:List Oper)(cl:List Nat)(A:List (Nat×Oper))(qs n:Nat):Nat→eR→Bool
 |B, .last q=>SN ops cl A qs B q&&(List.range n).all fun i=>B.testBit i||q.testBit i
 |B, .ph q c=>SN ops cl A qs B q&&F6 ops cl n B q c&& !((List.range n).all fun i=>B.testBit i||q.testBit i)&&NQ ops cl A qs n B c
 |B, .br d t sub next=>sub.Qa&&Nat.blt t n&&NQ ops cl A qs n (B|||d|||2^t) sub&&NQ ops cl A qs n B next
 |_, .nil=>true
def U8(ops:List Oper)(qs:Nat)(p:eR):Bool:=
 ((idx 0 ops).all fun e=>(bP e.2).all fun j=>Nat.blt j e.1)&&p.Qa&&NQ ops (FN ops) (idx 0 ops) qs ops.length 0 p
section
variable{oq D:Nat→Bool}{tr:List TE}{s:St}
theorem mz(oq:Nat→Bool)(e:TE)(tr:List TE)(s:St)(h:oq 0=false): ∀i,cK oq (e::tr) s (i+1)=cK (fun j=>oq (j+1)) tr s i
 |0=>by simp[cK,h]
 |i+1=>by
  rw[cK,mz oq e tr s h i,cK]
  simp only[List.getElem?_cons_succ]
theorem xy(d:Nat): ∀(tr:List TE) (k:Nat) (s:St),Ic d k tr s=cK (fun i=>d.testBit (k+i)) tr s tr.length
 | [],_,_=>rfl
 |e::r,k,s=>by
  have hf:(fun j=>d.testBit (k+(j+1)))=fun i=>d.testBit (k+1+i):=by funext j;congr 1;omega
  simp only[Ic]
  split
  ·rename_i h
   rw[xy d r (k+1) (app s e),List.length_cons,oI _ e r s (by simpa using h),hf]
  ·rename_i h
   rw[xy d r (k+1) s,List.length_cons,mz _ e r s (by simpa using h),hf]
theorem zm{D':Nat→Bool}: ∀{n:Nat},(∀i,i<n→D i=D' i)→cK D tr s n=cK D' tr s n
 |0,_=>rfl
 |n+1,h=>by rw[cK,cK,zm (n:=n) fun i hi=>h i (by omega),h n (by omega)]
theorem CV: ∀{n:Nat},cK (fun _=>false) tr s n=s
 |0=>rfl
 |n+1=>by rw[wS rfl,CV]
theorem nN: ∀{i:Nat} {x:Nat×SV},x∈s.sl→x∈(cK D tr s i).sl
 |0,_,h=>h
 |i+1,x,h=>by
  rw[cK]
  split
  ·exact List.mem_cons_of_mem _ (nN h)
  ·exact nN h
def CW(Qb:Nat→Bool)(tr:List TE)(s:St)(m:Nat):Prop:= ∀i e,i<m→Qb i=true→tr[i]? =some e→ ∀n o,look e.os n=some o→look (cK Qb tr s i).hp n=none
variable{Qb:Nat→Bool}
theorem zn{m:Nat}(hf:CW Qb tr s m): ∀{j i:Nat},i≤j→j≤m→ ∀{n o},look (cK Qb tr s i).hp n=some o→look (cK Qb tr s j).hp n=some o
 |0,i,hi,_,n,o,h=>by
  have:i=0:=by omega
  subst this;exact h
 |j+1,i,hi,hm,n,o,h=>by
  by_cases hij:i=j+1
  ·subst hij;exact h
  ·have ih:=zn hf (j:=j) (i:=i) (by omega) (by omega) h
   rw[cK]
   split
   ·rename_i e' h1 h2
    show look (e'.os++(cK Qb tr s j).hp) n=_
    cases hq:look e'.os n with
    |none=>rw[aQ hq];exact ih
    |some o'=>
     have:=hf j e' (by omega) h1 h2 n o' hq
     rw[this]at ih;cases ih
   ·exact ih
theorem sG{m:Nat}(hf:CW Qb tr s m)(hD: ∀i,D i=true→Qb i=true): ∀{i:Nat},i≤m→ ∀{n o},look (cK D tr s i).hp n=some o→look (cK Qb tr s i).hp n=some o
 |0,_,n,o,h=>h
 |i+1,hm,n,o,h=>by
  rw[cK]at h
  split at h
  ·rename_i e' h1 h2
   have h:look (e'.os++(cK D tr s i).hp) n=some o:=h
   rw[lq (hD i h1) h2]
   show look (e'.os++(cK Qb tr s i).hp) n=some o
   cases hq:look e'.os n with
   |none=>rw[aQ hq]at h ⊢;exact sG hf hD (by omega) h
   |some o'=>rw[bG hq]at h ⊢;exact h
  ·exact zn hf (Nat.le_succ i) hm (sG hf hD (by omega) h)
theorem tQ{m:Nat}(hf:CW Qb tr s m)(hD: ∀i,D i=true→Qb i=true): ∀{i:Nat},i≤m→ ∀{n o},look s.hp n=some o→look (cK D tr s i).hp n=some o
 |0,_,n,o,h=>h
 |i+1,hm,n,o,h=>by
  have ih:=tQ hf hD (i:=i) (by omega) h
  rw[cK]
  split
  ·rename_i e' h1 h2
   show look (e'.os++(cK D tr s i).hp) n=some o
   cases hq:look e'.os n with
   |none=>rw[aQ hq];exact ih
   |some o'=>
    have h3:=hf i e' (by omega) (hD i h1) h2 n o' hq
    have h4:=sG hf hD (by omega) ih
    rw[h3]at h4;cases h4
  ·exact ih
theorem tR{m:Nat}(hf:CW Qb tr s m)(hD: ∀i,D i=true→Qb i=true): ∀{i:Nat},i≤m→ ∀{j:Nat} {e:TE} {n:Nat} {o:Obj},j<i→D j=true→tr[j]? =some e→look e.os n=some o→look (cK D tr s i).hp n=some o
 |i+1,hm,j,e,n,o,hj,hin,he,h=>by
  by_cases hij:j=i
  ·subst hij
   rw[lq hin he]
   exact bG h
  ·have ih:=tR hf hD (i:=i) (by omega) (j:=j) (by omega) hin he h
   rw[cK]
   split
   ·rename_i e' h1 h2
    show look (e'.os++(cK D tr s i).hp) n=some o
    cases hq:look e'.os n with
    |none=>rw[aQ hq];exact ih
    |some o'=>
     have h3:=hf i e' (by omega) (hD i h1) h2 n o' hq
     have h4:=sG hf hD (by omega) ih
     rw[h3]at h4;cases h4
   ·exact ih
end
structure Rn(Γ:Nat→TK)(E:Tag→Nat→Prop)(S:FuncId→List S1→List S1→Prop)(cO:List (Nat×Nat))(cr:List (Nat×CR))(ops:List Oper)(q:Nat)(s:St)(tr:List TE)(vq:List (Nat×List Prop)):Prop where
 len:tr.length=ops.length
 one: ∀i,i<ops.length→q.testBit i=true→ ∃o e vc,ops[i]? =some o∧tr[i]? =some e∧o.dst=some e.d∧((cK (fun j=>q.testBit j) tr s i).sl.any fun x=>x.2.mentions e.d)=false∧ld Γ E S cO cr ops (cK (fun j=>q.testBit j) tr s i) o=some (vc,e.v,e.os)∧(i,vc)∈vq
theorem vH{Γ:Nat→TK}{E:Tag→Nat→Prop}{S:FuncId→List S1→List S1→Prop}{cO:List (Nat×Nat)}{cr:List (Nat×CR)}{ops:List Oper}{q:Nat}: ∀{l:List Oper} {k:Nat} {st:St} {tr:List TE} {vq:List (Nat×List Prop)},Ib Γ E S cO cr ops q k l st=some (tr,vq)→(∀i o,l[i]? =some o→ops[k+i]? =some o)→
  tr.length=l.length∧ ∀i,i<l.length→q.testBit (k+i)=true→ ∃o e vc,ops[k+i]? =some o∧tr[i]? =some e∧o.dst=some e.d∧((cK (fun j=>q.testBit (k+j)) tr st i).sl.any fun x=>x.2.mentions e.d)=false∧ld Γ E S cO cr ops (cK (fun j=>q.testBit (k+j)) tr st i) o=some (vc,e.v,e.os)∧(k+i,vc)∈vq
 | [],k,st,tr,vq,h,_=>by
   simp only[Ib,Option.some.injEq,Prod.mk.injEq]at h
   exact⟨by rw[←h.1];rfl,fun i hi=>absurd hi (by simp)⟩
 |o::r,k,⟨n,sl,hp⟩,tr,vq,h,hk=>by
  have hk': ∀i o',r[i]? =some o'→ops[k+1+i]? =some o':=fun i o' ho=>by
   have:=hk (i+1) o' (by simpa using ho)
   rw[show k+1+i=k+(i+1)by omega];exact this
  have hf:(fun j=>q.testBit (k+(j+1)))=fun i=>q.testBit (k+1+i):=by funext j;congr 1;omega
  simp only[Ib]at h
  split at h
  ·rename_i hb
   split at h
   case h_2=>cases h
   rename_i W0 ZV h2
   simp only[Option.some.injEq,Prod.mk.injEq]at h
   obtain⟨rfl,rfl⟩:=h
   obtain⟨q1,q2⟩:=vH h2 hk'
   refine⟨by simp[q1],fun i hi hq=> ?_⟩
   cases i with
   |zero=>rw[Nat.add_zero,hb]at hq;cases hq
   |succ i=>
    obtain⟨o',e',UE,p1,p2,p3,p4,p5,p6⟩:=q2 i (by simpa using hi) (by rw[show k+1+i=k+(i+1)by omega];exact hq)
    refine⟨o',e',UE,by rw[show k+(i+1)=k+1+i by omega];exact p1,by simpa using p2,p3,?_,?_,by rw[show k+(i+1)=k+1+i by omega];exact p6⟩
    ·rw[mz _ _ W0 _ (by simpa using hb) i,hf];exact p4
    ·rw[mz _ _ W0 _ (by simpa using hb) i,hf];exact p5
  ·rename_i hb
   split at h
   case h_2=>cases h
   rename_i d hd
   split at h
   case h_2=>cases h
   rename_i vc v os hm hq0
   split at h
   case h_2=>cases h
   rename_i v2 ZW Oy U9
   have Oy:=OV Oy
   have U9:=FH U9
   subst Oy;subst U9
   split at h
   case h_2=>cases h
   rename_i W0 ZV h2
   simp only[Option.some.injEq,Prod.mk.injEq]at h
   obtain⟨rfl,rfl⟩:=h
   rw[eo]at h2
   obtain⟨q1,q2⟩:=vH h2 hk'
   refine⟨by simp[q1],fun i hi hq=> ?_⟩
   cases i with
   |zero=>exact⟨o,⟨d,v2,ZW⟩,vc,hk 0 o rfl,rfl,hd,hm,hq0,by simp⟩
   |succ i=>
    obtain⟨o',e',UE,p1,p2,p3,p4,p5,p6⟩:=q2 i (by simpa using hi) (by rw[show k+1+i=k+(i+1)by omega];exact hq)
    have hc:=oI (fun j=>q.testBit (k+j)) ⟨d,v2,ZW⟩ W0 ⟨n,sl,hp⟩ (by simpa using hb) i
    refine⟨o',e',UE,by rw[show k+(i+1)=k+1+i by omega];exact p1,by simpa using p2,p3,?_,?_,by rw[show k+(i+1)=k+1+i by omega];exact List.mem_cons_of_mem _ p6⟩
    ·rw[hc,hf];exact p4
    ·rw[hc,hf];exact p5
theorem Rn.of{Γ:Nat→TK}{E:Tag→Nat→Prop}{S:FuncId→List S1→List S1→Prop}{cO:List (Nat×Nat)}{cr:List (Nat×CR)}{ops:List Oper}{q:Nat}{s:St}{tr:List TE}{vq:List (Nat×List Prop)}(h:Ib Γ E S cO cr ops q 0 ops s=some (tr,vq)):Rn Γ E S cO cr ops q s tr vq:=by
 obtain⟨h1,h2⟩:=vH h (fun i o ho=>by simpa using ho)
 refine⟨h1,fun i hi hq=> ?_⟩
 have:=h2 i hi (by simpa using hq)
 simpa using this
structure Va(ops:List Oper)(qs B q:Nat):Prop where
 back: ∀i o,ops[i]? =some o→ ∀j,j∈bP o→j<i
 kj: ∀i,i<ops.length→q.testBit i=true→B.testBit i=false
 full: ∀i o,ops[i]? =some o→B.testBit i=false→qs.testBit i=true→(∀j,j∈bP o→B.testBit j=true∨q.testBit j=true)→q.testBit i=true
 uses: ∀i o,q.testBit i=true→ops[i]? =some o→ ∀t,t∈tmpsOf o→ ∀k o',q.testBit k=true→ops[k]? =some o'→o'.dst=some t→k=i∨((FN ops).getD i 0).testBit k=true∨(i<k∧((FN ops).getD k 0).testBit i=true)
 guard: ∀i o j x,q.testBit i=true→ops[i]? =some o→o.guard=some (j,x)→j∈bP o
 dist: ∀i o k o' d,q.testBit i=true→ops[i]? =some o→ops[k]? =some o'→o.dst=some d→o'.dst=some d→k=i
 X7: ∀i o,q.testBit i=true→ops[i]? =some o→ ∀j,j∈bP o→(B.testBit j=true∨q.testBit j=true)
theorem W1{ops:List Oper}(h:((idx 0 ops).all fun e=>(bP e.2).all fun j=>Nat.blt j e.1)=true): ∀i o,ops[i]? =some o→ ∀j,j∈bP o→j<i:=by
 intro i o ho j hj
 simp only[List.all_eq_true]at h
 have:=h _ (by simpa using wT (l:=ops) (k:=0) ho) j hj
 exact Nat.le_of_ble_eq_true this
theorem F7{ops:List Oper}{qs B q:Nat}(hb: ∀i o,ops[i]? =some o→ ∀j,j∈bP o→j<i)(h:SN ops (FN ops) (idx 0 ops) qs B q=true):Va ops qs B q:=by
 simp only[SN,List.all_eq_true,Bool.and_eq_true,Bool.or_eq_true,Bool.not_eq_true']at h
 have hA: ∀{i o},ops[i]? =some o→(i,o)∈idx 0 ops:=by
  intro i o ho
  simpa using wT (l:=ops) (k:=0) ho
 have X3: ∀{o:Oper} {t:Nat},o.dst=some t→wQ o t=true:=by intro o t hd;simp[wQ,hd]
 refine⟨hb,fun i hi hq=> ?_,fun i o ho hB hqs he=> ?_,fun i o hq ho t ht k o' Ki ho' hd=> ?_,fun i o j x hq ho hg=> ?_,fun i o k o' d hq ho ho' hd hd'=> ?_,fun i o hq ho j hj=> ?_⟩
 ·rcases(h _ (hA (List.getElem?_eq_getElem hi))).1.1 with h1|h1
  ·simp only at h1;rw[hq]at h1;cases h1
  ·exact h1
 ·rcases(h _ (hA ho)).1.2 with((h1|h1)|h1)|h1
  ·simp only at h1;rw[hB]at h1;cases h1
  ·exact h1
  ·simp only at h1;rw[hqs]at h1;cases h1
  ·exfalso
   have:((bP o).all fun j=>B.testBit j||q.testBit j)=true:=by
    rw[List.all_eq_true];intro j hj
    rcases he j hj with h|h
    ·rw[h];rfl
    ·rw[h];simp
   simp only at h1
   rw[this]at h1;cases h1
 ·rcases(h _ (hA ho)).2 with h1|h1
  ·simp only at h1;rw[hq]at h1;cases h1
  ·rcases h1.1.1.1 t ht _ (hA ho')with(((h2|h2)|h2)|h2)|h2
   ·simp only at h2;rw[Ki]at h2;cases h2
   ·rw[X3 hd]at h2;cases h2
   ·exact Or.inl (Nat.eq_of_beq_eq_true h2)
   ·exact Or.inr (Or.inl h2)
   ·exact Or.inr (Or.inr ⟨Nat.le_of_ble_eq_true h2.1,h2.2⟩)
 ·rcases(h _ (hA ho)).2 with h1|h1
  ·simp only at h1;rw[hq]at h1;cases h1
  ·have h2:=h1.1.1.2
   simp only[hg,List.any_eq_true]at h2
   obtain⟨y,hy,h3⟩:=h2
   rw[Nat.eq_of_beq_eq_true h3];exact hy
 ·rcases(h _ (hA ho)).2 with h1|h1
  ·simp only at h1;rw[hq]at h1;cases h1
  ·have h2:=h1.1.2
   simp only[hd,List.all_eq_true,Bool.or_eq_true,Bool.not_eq_true']at h2
   rcases h2 _ (hA ho')with h3|h3
   ·exact Nat.eq_of_beq_eq_true h3
   ·rw[X3 hd']at h3;cases h3
 ·rcases(h _ (hA ho)).2 with h1|h1
  ·simp only at h1;rw[hq]at h1;cases h1
  ·exact h1.2 j hj
end
section
variable{ty:Tag→Nat}
section
variable{P:Program}{Γ:Nat→TK}{cO:List (Nat×Nat)}{cr:List (Nat×CR)}{ops:List Oper}{s:St}{tr:List TE}{vq:List (Nat×List Prop)}{qs B q:Nat}
theorem Rn.fresh{E:Tag→Nat→Prop}{S:FuncId→List S1→List S1→Prop}(T:Rn Γ E S cO cr ops q s tr vq):CW (fun j=>q.testBit j) tr s ops.length:=by
 intro i e hi hq he n x hl
 obtain⟨o,e',vc,_,he',_,_,O8,_⟩:=T.one i hi hq
 rw[he]at he'
 simp only[Option.some.injEq]at he'
 subst he'
 obtain⟨p,_,_,_,hf⟩:=gD O8
 exact(hf n x hl).1
theorem Rn.path{E:Tag→Nat→Prop}{S:FuncId→List S1→List S1→Prop}(T:Rn Γ E S cO cr ops q s tr vq)(K:Va ops qs B q): ∀(i:Nat),i<ops.length→q.testBit i=true→ ∀o p,ops[i]? =some o→eN (cK (fun j=>q.testBit j) tr s i) ops o=some p→ ∀e,e∈p→
  ∀k o',q.testBit k=true→ops[k]? =some o'→o'.dst=some e.1→ ∀D:Nat→Prop,(∀i o,D i→ops[i]? =some o→ ∀j,j∈bP o→D j)→(∀j,j∈bP o→D j)→D k:=by
 intro i
 induction i using Nat.strongRecOn with
 |_ i ih=>
  intro hi Bf o p ho hg e he k o' Ki hok Pa D hD hE
  have qA:k<ops.length:=(List.getElem?_eq_some_iff.1 hok).1
  unfold eN at hg
  split at hg
  ·simp at hg;subst hg;simp at he
  ·rename_i j x hgd
   have VV:=K.guard i o j x Bf ho hgd
   have hji:=K.back i o ho j VV
   split at hg
   case h_2=>cases hg
   rename_i qj TA
   split at hg
   case h_2=>cases hg
   rename_i d Tt
   have base:e.1=d→D k:=by
    intro hed
    have:j=k:=K.dist k o' j qj d Ki hok TA (by rw[Pa,hed]) Tt
    rw[←this];exact hE j VV
   split at hg
   ·simp only[Option.some.injEq]at hg
    subst hg
    simp only[List.mem_singleton]at he
    exact base (by rw[he])
   ·rename_i p' b rM
    simp only[Option.some.injEq]at hg
    subst hg
    rcases List.mem_cons.1 he with h|h
    ·exact base (by rw[h])
    ·by_cases Cv:q.testBit j=true
     ·obtain⟨q2,ej,vcj,KZ,YJ,Vb,_,O8,_⟩:=T.one j (by omega) Cv
      rw[TA]at KZ
      simp only[Option.some.injEq]at KZ
      subst KZ
      rw[Tt]at Vb
      simp only[Option.some.injEq]at Vb
      subst Vb
      have Vc:look (cK (fun j=>q.testBit j) tr s i).sl ej.d=some ej.v:=by
       refine fu hji Cv YJ fun j' e' h1 h2 h3 h4=> ?_
       obtain⟨q',e2,_,Sb,wJ,hd2,_⟩:=T.one j' (by omega) h2
       rw[h3]at wJ
       simp only[Option.some.injEq]at wJ
       subst wJ
       exact K.dist j _ j' q' ej.d Cv TA Sb Tt (by rw[hd2,h4])
      rw[Vc]at rM
      simp only[Option.some.injEq]at rM
      obtain⟨pj,UG,fQ,eZ,_⟩:=gD O8
      have WD:pj=p':=by
       by_cases hnil:pj= []
       ·exact absurd rM (fQ hnil _ _)
       ·obtain⟨x',hx'⟩:=(eZ hnil).1
        rw[hx']at rM
        simp only[SV.cond.injEq]at rM
        exact rM.1
      subst WD
      exact ih j hji (by omega) Cv _ pj TA UG e h k o' Ki hok Pa D hD (hD j _ (hE j VV) TA)
     ·
      exfalso
      have Vc:look (cK (fun j=>q.testBit j) tr s i).sl d=look s.sl d:=by
       refine iD fun j' e' h1 h2 h3 h4=> ?_
       obtain⟨q',e2,_,Sb,wJ,hd2,_⟩:=T.one j' (by omega) h2
       rw[h3]at wJ
       simp only[Option.some.injEq]at wJ
       subst wJ
       have:=K.dist j' q' j qj d h2 Sb TA (by rw[hd2,h4]) Tt
       subst this
       exact Cv h2
      rw[Vc]at rM
      obtain⟨q2,ek,vck,KZ,hek,Vd,hnm,_,_⟩:=T.one k qA Ki
      rw[hok]at KZ
      simp only[Option.some.injEq]at KZ
      subst KZ
      rw[Pa]at Vd
      simp only[Option.some.injEq]at Vd
      rw[List.any_eq_false]at hnm
      refine hnm (d, .cond p' (.a (.lit (.bool b)))) (nN (eU rM)) ?_
      simp only[SV.mentions,List.any_eq_true]
      exact⟨e,h,by rw[Vd];simp⟩
   ·cases hg
theorem Kj(C: ∀t,cw P t (Γ t))(T:Rn Γ (Jc P ty) (Sound ty P) cO cr ops q s tr vq)(K:Va ops qs B q)(hv: ∀x,x∈vq→q.testBit x.1=true→x.1<ops.length→ ∀p,p∈x.2→p){zb:cA}{Q:Exit→Act→World→Prop}{D:Nat→Bool}(rm: ∀i,D i=true→q.testBit i=true)(Tu: ∀i,D i=true→i<ops.length)
  (Bc: ∀i o,(B.testBit i=true∨D i=true)→ops[i]? =some o→ ∀j,j∈bP o→(B.testBit j=true∨D j=true))
  {i:Nat}(Bf:q.testBit i=true)(Dw:D i=false){o:Oper}(ho:ops[i]? =some o)(hE: ∀j,j∈bP o→(B.testBit j=true∨D j=true)){a:Act}{w:World}(iv:Inv ty zb (cK D tr s ops.length) a w):
  oF P ops.toArray o a w (fun a' w'=>Inv ty zb (cK (fun j=>D j||j==i) tr s ops.length) a' w') Q:=by
 have hi:i<ops.length:=(List.getElem?_eq_some_iff.1 ho).1
 obtain⟨o',e,vc,ho',he,hd,hnm,hq,RT⟩:=T.one i hi Bf
 rw[ho]at ho'
 simp only[Option.some.injEq]at ho'
 subst ho'
 have hfr:=T.fresh
 have LA: ∀{k},q.testBit k=true→k<ops.length→(B.testBit k=true∨D k=true)→D k=true:=by
  intro k hk qA h
  rcases h with h|h
  ·rw[K.kj k qA hk]at h;cases h
  ·exact h
 have YX: ∀{x},((FN ops).getD i 0).testBit x=true→(B.testBit x=true∨D x=true):=fun h=>rR (D:=fun j=>B.testBit j=true∨D j=true) K.back Bc i o ho hE _ h
 have W2: ∀{x},((FN ops).getD i 0).testBit x=true→x<i:=fun h=>rR (D:=fun j=>j<i) K.back (fun a b hab hb j hj=>Nat.lt_trans (K.back a b hb j hj) hab) i o ho (fun j hj=>K.back i o ho j hj) _ h
 have hdist: ∀{j e'},j<ops.length→q.testBit j=true→tr[j]? =some e'→ ∃q,ops[j]? =some q∧q.dst=some e'.d:=by
  intro j e' hj TA he'
  obtain⟨q,e2,_,Sb,wJ,hd2,_⟩:=T.one j hj TA
  rw[he']at wJ
  simp only[Option.some.injEq]at wJ
  subst wJ
  exact⟨q,Sb,hd2⟩
 have rS: ∀{j j':Nat} {e1 e2:TE},j<ops.length→j'<ops.length→q.testBit j=true→q.testBit j'=true→tr[j]? =some e1→tr[j']? =some e2→e2.d=e1.d→j'=j:=by
  intro j j' e1 e2 h1 h2 g1 g2 h3 h4 h5
  obtain⟨q1,p1,p2⟩:=hdist h1 g1 h3
  obtain⟨q2,p3,p4⟩:=hdist h2 g2 h4
  exact K.dist j q1 j' q2 e1.d g1 p1 p3 p2 (by rw[p4,h5])
 have bp: ∀t,(∀k o',k<ops.length→q.testBit k=true→ops[k]? =some o'→o'.dst=some t→k=i∨(k<i∧D k=true)∨(i<k∧D k=false))→look (cK (fun j=>q.testBit j) tr s i).sl t=look (cK D tr s ops.length).sl t:=by
  intro t ht
  by_cases hex: ∃k e',k<i∧D k=true∧tr[k]? =some e'∧e'.d=t
  ·obtain⟨k,e',hk,lR,he',rfl⟩:=hex
   rw[fu hk (rm k lR) he' fun j' e2 h1 h2 h3 h4=>rS (by omega) (by omega) (rm k lR) h2 he' h3 h4,fu (by omega) lR he' fun j' e2 h1 h2 h3 h4=>rS (by omega) h1 (rm k lR) (rm j' h2) he' h3 h4]
  ·rw[iD (fun k e' hk Ki he' hdt=>by
      obtain⟨q',h1,h2⟩:=hdist (by omega) Ki he'
      rcases ht k q' (by omega) Ki h1 (by rw[h2,hdt])with h|h|h
      ·omega
      ·exact hex ⟨k,e',hk,h.2,he',hdt⟩
      ·omega),
    iD (fun k e' hk lR he' hdt=>by
     obtain⟨q',h1,h2⟩:=hdist hk (rm k lR) he'
     rcases ht k q' hk (rm k lR) h1 (by rw[h2,hdt])with h|h|h
     ·subst h;rw[Dw]at lR;cases lR
     ·exact hex ⟨k,e',h.1,h.2,he',hdt⟩
     ·rw[h.2]at lR;cases lR)]
 obtain⟨p,eY,fQ,eZ,DC⟩:=gD hq
 have wU: ∀x,x∈p→look (cK (fun j=>q.testBit j) tr s i).sl x.1=look (cK D tr s ops.length).sl x.1:=by
  intro x hx
  refine bp x.1 fun k o2 qA Ki GK hd2=>Or.inr (Or.inl ⟨?_,LA Ki qA ?_⟩)
  ·exact T.path K i hi Bf o p ho eY x hx k o2 Ki GK hd2 (fun j=>j<i) (fun a b hab hb j hj=>Nat.lt_trans (K.back a b hb j hj) hab) (fun j hj=>K.back i o ho j hj)
  ·exact T.path K i hi Bf o p ho eY x hx k o2 Ki GK hd2 (fun j=>B.testBit j=true∨D j=true) Bc hE
 have hJ:eN (cK D tr s ops.length) ops o=some p:=by
  rw[←eY]
  unfold eN
  split
  ·rfl
  ·rename_i j x hgd
   split
   ·rename_i q Cv
    split
    ·rename_i d Jg
     have hmem: ∃y,(d,y)∈p:=by
      unfold eN at eY
      rw[hgd]at eY
      dsimp only at eY
      rw[Cv]at eY
      dsimp only at eY
      rw[Jg]at eY
      dsimp only at eY
      split at eY
      ·simp only[Option.some.injEq]at eY;exact⟨x,by rw[←eY];simp⟩
      ·simp only[Option.some.injEq]at eY;exact⟨x,by rw[←eY];simp⟩
      ·cases eY
     obtain⟨y,hy⟩:=hmem
     rw[←wU (d,y) hy]
    ·rfl
   ·rfl
 have JT:fresh (cK D tr s ops.length).hp e.os=true:=by
  refine Ct fun n x hl=> ?_
  cases KZ:look (cK D tr s ops.length).hp n with
  |none=>exact⟨rfl,(DC n x hl).2⟩
  |some y=>
   exfalso
   have hpi:=hfr i e hi Bf he n x hl
   rcases fL KZ with h| ⟨j,e',hj,yM,he',h⟩
   ·have:=tQ (D:=fun j=>q.testBit j) hfr (fun _ h=>h) (i:=i) (by omega) h
    rw[hpi]at this
    cases this
   ·have hji:j≠i:=by rintro rfl;rw[Dw]at yM;cases yM
    by_cases hlt:j<i
    ·have:=tR (D:=fun j=>q.testBit j) hfr (fun _ h=>h) (i:=i) (by omega) hlt (rm j yM) he' h
     rw[hpi]at this
     cases this
    ·have h2:=hfr j e' hj (rm j yM) he' n y h
     have:=tR (D:=fun j=>q.testBit j) hfr (fun _ h=>h) (i:=j) (by omega) (j:=i) (by omega) Bf he hl
     rw[h2]at this
     cases this
 have O9:((cK D tr s ops.length).sl.any fun x=>x.2.mentions e.d)=false:=by
  rw[List.any_eq_false]
  intro x hx hm
  rcases Bb hx with h| ⟨j,e',hj,yM,he',rfl⟩
  ·rw[List.any_eq_false]at hnm
   exact hnm x (nN h) hm
  ·obtain⟨qq,e2,RZ,Cv,wJ,hd2,_,O8,_⟩:=T.one j hj (rm j yM)
   rw[he']at wJ
   simp only[Option.some.injEq]at wJ
   subst wJ
   obtain⟨pj,UG,hj0,OD,_⟩:=gD O8
   by_cases hnil:pj= []
   ·cases rT:e'.v with
    |cond q y=>exact hj0 hnil _ _ rT
    |one y=>simp[rT,SV.mentions]at hm
    |rC y=>simp[rT,SV.mentions]at hm
   ·obtain⟨y,hy⟩:=(OD hnil).1
    simp only[hy,SV.mentions,List.any_eq_true]at hm
    obtain⟨z,hz,hzd⟩:=hm
    have hzd:=Nat.eq_of_beq_eq_true hzd
    have h4:=T.path K j hj (rm j yM) qq pj Cv UG z hz i o Bf ho (by rw[hd,hzd]) (fun j=>B.testBit j=true∨D j=true) Bc (Bc j qq (Or.inr yM) Cv)
    have:=LA Bf hi h4
    rw[Dw]at this;cases this
 have XQ:e.v.mentions e.d=false:=by
  by_cases hnil:p= []
  ·cases rT:e.v with
   |cond q y=>exact absurd rT (fQ hnil _ _)
   |one y=>rfl
   |rC y=>rfl
  ·obtain⟨⟨y,hy⟩,_,hne⟩:=eZ hnil
   rw[hy]
   simp only[SV.mentions]
   rw[List.any_eq_false]
   intro z hz hb
   exact hne e.d hd z hz (Nat.eq_of_beq_eq_true hb)
 have W3: ∀j,(fun j=>D j||j==i) j=true→q.testBit j=true:=by
  intro j hj
  simp only[Bool.or_eq_true,beq_iff_eq]at hj
  rcases hj with h|rfl
  ·exact rm j h
  ·exact Bf
 have behind: ∀a' w',Inv ty zb (app (cK D tr s ops.length) e) a' w'→Inv ty zb (cK (fun j=>D j||j==i) tr s ops.length) a' w':=by
  intro a' w' lU
  obtain⟨env,g⟩:=lU.good
  refine⟨by rw[lU.size,nD];show(cK D tr s ops.length).n=s.n;exact nD _,lU.defers,lU.kept,lU.A3,env,g.congr ?_ ?_⟩
  ·intro t v hl
   show look ((e.d,e.v)::(cK D tr s ops.length).sl) t=some v
   by_cases ht:t=e.d
   ·subst ht
    rw[fu hi (by simp) he fun j' e2 h1 h2 h3 h4=>rS hi h1 Bf (W3 j' h2) he h3 h4]at hl
    rw[look_eq];exact hl
   ·rw[aW ht]
    by_cases hex: ∃k e',k<ops.length∧D k=true∧tr[k]? =some e'∧e'.d=t
    ·obtain⟨k,e',hk,lR,he',rfl⟩:=hex
     rw[fu hk (by simp[lR]) he' fun j' e2 h1 h2 h3 h4=>rS hk h1 (rm k lR) (W3 j' h2) he' h3 h4]at hl
     rw[fu hk lR he' fun j' e2 h1 h2 h3 h4=>rS hk h1 (rm k lR) (rm j' h2) he' h3 h4]
     exact hl
    ·rw[iD fun k e' hk lR he' hdt=>by
      simp only[Bool.or_eq_true,beq_iff_eq]at lR
      rcases lR with h|rfl
      ·exact hex ⟨k,e',hk,h,he',hdt⟩
      ·rw[he]at he'
       simp only[Option.some.injEq]at he'
       exact ht (by rw[he',hdt])]at hl
     rw[iD fun k e' hk lR he' hdt=>hex ⟨k,e',hk,lR,he',hdt⟩]
     exact hl
  ·intro n
   show look (cK (fun j=>D j||j==i) tr s ops.length).hp n=look (e.os++(cK D tr s ops.length).hp) n
   cases hl:look e.os n with
   |some x=>
    rw[bG hl]
    exact tR hfr W3 (Nat.le_refl _) hi (by simp) he hl
   |none=>
    rw[aQ hl]
    cases hx:look (cK (fun j=>D j||j==i) tr s ops.length).hp n with
    |some y=>
     rcases fL hx with h| ⟨j,e',hj,yM,he',h⟩
     ·exact(tQ hfr rm (Nat.le_refl _) h).symm
     ·have hji:j≠i:=by
       rintro rfl
       rw[he]at he'
       simp only[Option.some.injEq]at he'
       subst he'
       rw[hl]at h;cases h
      have yM:D j=true:=by
       simp only[Bool.or_eq_true,beq_iff_eq]at yM
       exact yM.resolve_right hji
      exact(tR hfr rm (Nat.le_refl _) hj yM he' h).symm
    |none=>
     cases hy:look (cK D tr s ops.length).hp n with
     |none=>rfl
     |some y=>
      rcases fL hy with h| ⟨j,e',hj,yM,he',h⟩
      ·rw[tQ hfr W3 (Nat.le_refl _) h]at hx;cases hx
      ·rw[tR hfr W3 (Nat.le_refl _) hj (by simp[yM]) he' h]at hx;cases hx
 have hput:St.put ⟨(cK D tr s ops.length).n,(cK D tr s ops.length).sl,e.os++(cK D tr s ops.length).hp⟩ o.dst e.v=app (cK D tr s ops.length) e:=by
  rw[hd]
  simp only[St.put,O9]
  rfl
 by_cases hw:Region.wanted o (yielded ops.toArray a.tmps)=true
 ·have hh:holds a.tmps p:=by
   obtain⟨env,g⟩:=iv.good
   unfold eN at hJ
   split at hJ
   ·simp at hJ;subst hJ;intro y hy;simp at hy
   ·rename_i j x hgd
    split at hJ
    ·rename_i q Cv
     split at hJ
     ·rename_i d Jg
      have UH:=(mH (ops:=ops.toArray) hgd (by simpa using Cv) Jg a.tmps).1 hw
      split at hJ
      ·simp only[Option.some.injEq]at hJ
       subst hJ
       intro y hy
       simp at hy
       subst hy
       exact UH
      ·rename_i p' b hl
       simp only[Option.some.injEq]at hJ
       subst hJ
       intro y hy
       rcases List.mem_cons.1 hy with rfl|hy
       ·exact UH
       ·exact(tH g hl UH).1 y hy
      ·cases hJ
     ·cases hJ
    ·cases hJ
  obtain⟨env,g⟩:=iv.good
  have FP:Compat (cK (fun j=>q.testBit j) tr s i).hp (cK D tr s ops.length).hp:=by
   intro n x y h1 h2
   have h3:=zn hfr (Nat.le_of_lt hi) (Nat.le_refl _) h1
   have h4:=sG hfr rm (Nat.le_refl _) h2
   rw[h3]at h4
   simpa using h4
  have hmono:=Cs FP g (by rw[nD,nD]) eY hJ hh (fun x hx t YK=>bp t fun k o2 hk Ki GK hd2=>by
    have ht:t∈tmpsOf o:=by
     simp only[tmpsOf,List.mem_filterMap]
     exact⟨x,hx,by rw[YK]⟩
    rcases K.uses i o Bf ho t ht k o2 Ki GK hd2 with h|h|h
    ·exact Or.inl h
    ·exact Or.inr (Or.inl ⟨W2 h,LA Ki hk (YX h)⟩)
    ·refine Or.inr (Or.inr ⟨h.1,?_⟩)
     cases lR:D k with
     |false=>rfl
     |true=>
      have:=rR (D:=fun j=>B.testBit j=true∨D j=true) K.back Bc k o2 GK (Bc k o2 (Or.inr lR) GK) i h.2
      have:=LA Bf hi this
      rw[Dw]at this;cases this) wU JT hq
  have:=B0 (Q:=Q) C hmono iv (fun p hp=>hv _ RT Bf hi p hp)
  rw[hput]at this
  exact this.mono behind
 ·unfold oF
  rw[if_neg hw]
  have hnil:p≠ []:=by
   rintro rfl
   unfold eN at eY
   split at eY
   ·rename_i hgd;exact hw (by simp[Region.wanted,hgd])
   ·repeat' split at eY
    all_goals simp at eY
  obtain⟨⟨y,hy⟩,hos,_⟩:=eZ hnil
  have YL: ¬holds a.tmps p:=by
   intro hh
   unfold eN at eY
   split at eY
   ·rename_i hgd;exact hw (by simp[Region.wanted,hgd])
   ·rename_i j x hgd
    split at eY
    ·rename_i q Cv
     split at eY
     ·rename_i d Jg
      have YM:(d,x)∈p:=by
       split at eY
       ·simp only[Option.some.injEq]at eY;rw[←eY];simp
       ·simp only[Option.some.injEq]at eY;rw[←eY];simp
       ·cases eY
      exact hw ((mH (ops:=ops.toArray) hgd (by simpa using Cv) Jg a.tmps).2 (hh _ YM))
     ·cases eY
    ·cases eY
  apply behind
  obtain⟨env,g⟩:=iv.good
  have hlt:e.d<a.tmps.size:=by
   unfold ld at hq
   have:uI (cK (fun j=>q.testBit j) tr s i) o.dst=true:=by
    cases Pa:uI (cK (fun j=>q.testBit j) tr s i) o.dst with
    |true=>rfl
    |false=>rw[Pa]at hq;simp at hq
   rw[hd]at this
   rw[iv.size,nD]
   have:=Nat.le_of_ble_eq_true this
   rw[show(cK (fun j=>q.testBit j) tr s i).n=s.n from nD i]at this
   exact this
  have Pc:=g.put (d:=e.d) hlt (v:=e.v) (u:=undef) (by rw[hy];exact⟨fun hh=>absurd hh YL,fun _=>rfl⟩) XQ
  refine⟨by rw[gB];exact iv.size,by rw[put_defers];exact iv.defers,iv.kept,iv.A3,env,?_⟩
  rw[hd]
  have UI:(cK D tr s ops.length).put (some e.d) e.v=app (cK D tr s ops.length) e:=by
   simp only[St.put,O9,app,hos]
   rfl
  rw[UI]at Pc
  exact Pc
end
theorem xz{ops:List Oper}{B q Ig:Nat}{D:Nat→Bool}(rm: ∀i,D i=true→q.testBit i=true)(Ve: ∀i,D i=true→i<ops.length)(hb: ∀i o,ops[i]? =some o→ ∀j,j∈bP o→j<i)
  (hc: ∀i o,D i=true→ops[i]? =some o→ ∀j,j∈bP o→(B.testBit j=true∨D j=true))(LB: ∀i,q.testBit i=true→Ig.testBit i=true→D i=true):
  ∀(m i d:Nat),i+m=ops.length→(∀j,d.testBit j=(decide (j<i)&&D j))→ ∃d',d'∈CU ops B q Ig m i d∧ ∀j,d'.testBit j=D j
 |0,i,d,X4,hd=>by
  refine⟨d,by simp[CU],fun j=> ?_⟩
  rw[hd j]
  cases hj:D j with
  |false=>simp
  |true=>have:=Ve j hj;simp;omega
 |m+1,i,d,X4,hd=>by
  have hstep:D i=false→ ∀j,d.testBit j=(decide (j<i+1)&&D j):=by
   intro Dw j
   rw[hd j]
   by_cases hji:j=i
   ·subst hji;simp[Dw]
   ·have:decide (j<i)=decide (j<i+1):=by
     apply decide_eq_decide.2;omega
    rw[this]
  simp only[CU]
  split
  ·rename_i hq
   have Dw:D i=false:=by
    cases h:D i with
    |false=>rfl
    |true=>rw[rm i h]at hq;cases hq
   exact xz rm Ve hb hc LB m (i+1) d (by omega) (hstep Dw)
  ·rename_i hq
   cases Dw:D i with
   |true=>
    have hlt:=Ve i Dw
    have ho:=List.getElem?_eq_getElem hlt
    have hcond:(((ops[i]?).map fun o=>(bP o).all fun j=>B.testBit j||d.testBit j).getD false)=true:=by
     rw[ho]
     simp only[Option.map_some,Option.getD_some,List.all_eq_true,Bool.or_eq_true]
     intro j hj
     rcases hc i _ Dw ho j hj with h|h
     ·exact Or.inl h
     ·exact Or.inr (by rw[hd j,h];have:=hb i _ ho j hj;simp[this])
    obtain⟨d',h1,h2⟩:=xz rm Ve hb hc LB m (i+1) (d|||2^i) (by omega) (fun j=>by
     rw[Nat.testBit_or,Nat.testBit_two_pow,hd j]
     by_cases hji:i=j
     ·subst hji;simp[Dw]
     ·have:decide (j<i)=decide (j<i+1):=by
       apply decide_eq_decide.2;omega
      simp[hji,this])
    refine⟨d',?_,h2⟩
    rw[hcond]
    exact List.mem_append_left _ h1
   |false=>
    obtain⟨d',h1,h2⟩:=xz rm Ve hb hc LB m (i+1) d (by omega) (hstep Dw)
    refine⟨d',List.mem_append_right _ ?_,h2⟩
    split
    ·rename_i hm
     have:=LB i hq hm
     rw[Dw]at this;cases this
    ·exact h1
section
variable{P:Program}{Γ:Nat→TK}{cO:List (Nat×Nat)}{cr:List (Nat×CR)}{ks hs:List Nat}{ops:List Oper}{n0 qs:Nat}
theorem nO: ∀{c:eR} {s:St} {tr:List TE} {vq acc:List (Nat×List Prop)} {lv:List (List Prop×St)},jW P ty Γ cO cr ks hs ops n0 c s tr vq acc=some lv→ ∀d t sub,(d,t,sub)∈c.Lz→
  ∃o vc s2 l1,ops[t]? =some o∧step P ty Γ cO cr ops (Ic d 0 tr s) o=some (vc,s2)∧jW P ty Γ cO cr ks hs ops n0 sub s2 [] [] (Kh t vc (Ie d vq acc))=some l1∧ ∀x,x∈l1→x∈lv
 | .br d0 t0 W4 next,s,tr,vq,acc,lv,h,d,t,sub,hm=>by
   simp only[jW]at h
   split at h
   case h_2=>cases h
   rename_i s1 o hs1 ho
   have hs1:=mK hs1
   subst hs1
   split at h
   case h_2=>cases h
   rename_i vc s2 hst
   split at h
   case h_2=>cases h
   rename_i s3 YY
   have YY:=mK YY
   subst YY
   split at h
   case h_2=>cases h
   rename_i l1 l2 h1 h2
   simp only[Option.some.injEq]at h
   rw[eo]at h
   subst h
   simp only[eR.Lz,List.mem_cons,Prod.mk.injEq]at hm
   rcases hm with⟨rfl,rfl,rfl⟩|hm
   ·exact⟨o,vc,_,l1,ho,hst,h1,fun x hx=>List.mem_append_left _ hx⟩
   ·obtain⟨o',UE,s',l',p1,p2,p3,p4⟩:=nO h2 d t sub hm
    exact⟨o',UE,s',l',p1,p2,p3,fun x hx=>List.mem_append_right _ (p4 x hx)⟩
 | .last _,_,_,_,_,_,_,_,_,_,hm=>by simp[eR.Lz]at hm
 | .ph _ _,_,_,_,_,_,_,_,_,_,hm=>by simp[eR.Lz]at hm
 | .nil,_,_,_,_,_,_,_,_,_,hm=>by simp[eR.Lz]at hm
theorem oW: ∀{c:eR} {s:St} {tr:List TE} {vq acc:List (Nat×List Prop)} {lv:List (List Prop×St)},jW P ty Γ cO cr ks hs ops n0 c s tr vq acc=some lv→ ∀x,x∈lv→ ∀y,y∈acc→ ∀p,p∈y.2→p∈x.1
 | .last q,s,tr,vq,acc,lv,h,x,hx,y,hy,p,hp=>by
   simp only[jW]at h
   repeat' split at h
   all_goals first
    | (cases h;done)
    |skip
   rename_i hf _ _ _ _
   simp only[Option.some.injEq]at h
   subst h
   rw[List.mem_singleton]at hx
   subst hx
   exact zl hf y (oV.2 (Or.inr hy)) p hp
 | .ph q c,s,tr,vq,acc,lv,h,x,hx,y,hy,p,hp=>by
   simp only[jW]at h
   split at h
   ·exact oW h x hx y hy p hp
   ·cases h
 | .br d0 t0 W4 next,s,tr,vq,acc,lv,h,x,hx,y,hy,p,hp=>by
   simp only[jW]at h
   split at h
   case h_2=>cases h
   split at h
   case h_2=>cases h
   split at h
   case h_2=>cases h
   split at h
   case h_2=>cases h
   rename_i l1 l2 h1 h2
   simp only[Option.some.injEq]at h
   rw[eo]at h
   subst h
   rcases List.mem_append.1 hx with hx|hx
   ·exact oW h1 x hx y (sE.2 (Or.inr (oV.2 (Or.inr hy)))) p hp
   ·exact oW h2 x hx y hy p hp
 | .nil,_,_,_,_,_,h,x,hx,_,_,_,_=>by
   simp only[jW,Option.some.injEq]at h
   subst h
   cases hx
theorem tS{n:Nat}: ∀{c:eR} {B:Nat},NQ ops (FN ops) (idx 0 ops) qs n B c=true→ ∀d t sub,(d,t,sub)∈c.Lz→sub.Qa=true∧t<n∧NQ ops (FN ops) (idx 0 ops) qs n (B|||d|||2^t) sub=true∧SizeOf.sizeOf sub<SizeOf.sizeOf c
 | .br d0 t0 W4 next,B,h,d,t,sub,hm=>by
   simp only[NQ,Bool.and_eq_true]at h
   simp only[eR.Lz,List.mem_cons,Prod.mk.injEq]at hm
   rcases hm with⟨rfl,rfl,rfl⟩|hm
   ·exact⟨h.1.1.1,Nat.le_of_ble_eq_true h.1.1.2,h.1.2,by simp only[eR.br.sizeOf_spec];omega⟩
   ·obtain⟨p1,p2,p3,p4⟩:=tS h.2 d t sub hm
    exact⟨p1,p2,p3,by simp only[eR.br.sizeOf_spec];omega⟩
 | .last _,_,_,_,_,_,hm=>by simp[eR.Lz]at hm
 | .ph _ _,_,_,_,_,_,hm=>by simp[eR.Lz]at hm
 | .nil,_,_,_,_,_,hm=>by simp[eR.Lz]at hm
theorem EK{B q:Nat}{c:eR}(h:F6 ops (FN ops) ops.length B q c=true)(K:Va ops qs B q){D:Nat→Bool}(rm: ∀i,D i=true→q.testBit i=true)(Ve: ∀i,D i=true→i<ops.length)
  (Bc: ∀i o,(B.testBit i=true∨D i=true)→ops[i]? =some o→ ∀j,j∈bP o→(B.testBit j=true∨D j=true)){t:Nat}{o:Oper}(ho:ops[t]? =some o)(ht:B.testBit t=false)(hqt:q.testBit t=false)(hE: ∀j,j∈bP o→(B.testBit j=true∨D j=true)):
  ∃d sub,(d,t,sub)∈c.Lz∧ ∀i,d.testBit i=D i:=by
 have htl:t<ops.length:=(List.getElem?_eq_some_iff.1 ho).1
 simp only[F6,List.all_eq_true,List.mem_range,Bool.or_eq_true]at h
 obtain⟨d,h1,h2⟩:=xz (B:=B) (q:=q) (Ig:=(FN ops).getD t 0) rm Ve K.back (fun i o hi=>Bc i o (Or.inr hi)) (fun i Bf hm=>by
  have:=rR (D:=fun j=>B.testBit j=true∨D j=true) K.back Bc t o ho hE i hm
  rcases this with h|h
  ·have hil:i<ops.length:=by
    have:=rR (D:=fun j=>j<t) K.back (fun a b hab hb j hj=>Nat.lt_trans (K.back a b hb j hj) hab) t o ho (fun j hj=>K.back t o ho j hj) _ hm
    omega
   rw[K.kj i hil Bf]at h;cases h
  ·exact h) ops.length 0 0 (by omega) (fun j=>by simp)
 rcases h t htl with(h3|h3)|h3
 ·rw[ht]at h3;cases h3
 ·rw[hqt]at h3;cases h3
 ·have h4:=h3 d h1
  simp only[Bool.not_eq_true',List.any_eq_true,Bool.and_eq_true]at h4
  rcases h4 with h4| ⟨⟨d',t',sub⟩,h5,h6,h7⟩
  ·exfalso
   rw[ho]at h4
   simp only[Option.map_some,Option.getD_some]at h4
   have:((bP o).all fun j=>B.testBit j||d.testBit j)=true:=by
    rw[List.all_eq_true]
    intro j hj
    rw[Bool.or_eq_true,h2 j]
    exact hE j hj
   rw[this]at h4;cases h4
  ·have h6:=Nat.eq_of_beq_eq_true h6
   have h7:=Nat.eq_of_beq_eq_true h7
   simp only at h6 h7
   subst h6;subst h7
   exact⟨d',sub,h5,h2⟩
theorem LC{B q:Nat}{c:eR}(YZ:F6 ops (FN ops) ops.length B q c=true)(K:Va ops qs B q)(Ih: ∀i o,B.testBit i=true→ops[i]? =some o→ ∀j,j∈bP o→B.testBit j=true)
  (O8: ∀i o,q.testBit i=true→ops[i]? =some o→ ∀j,j∈bP o→(B.testBit j=true∨q.testBit j=true))(hnot:((List.range ops.length).all fun i=>B.testBit i||q.testBit i)=false):
  ∃d t sub,(d,t,sub)∈c.Lz∧(∀i,d.testBit i=(q.testBit i&&decide (i<ops.length)))∧ ∀o,ops[t]? =some o→ ∀j,j∈bP o→(B.testBit j=true∨d.testBit j=true):=by
 have: ∃i,i<ops.length∧B.testBit i=false∧q.testBit i=false∧ ∀j,j<i→B.testBit j=true∨q.testBit j=true:=by
  rw[List.all_eq_false]at hnot
  obtain⟨i,hi,hn⟩:=hnot
  rw[List.mem_range]at hi
  simp only[Bool.or_eq_true,not_or,Bool.not_eq_true]at hn
  induction i using Nat.strongRecOn with
  |_ i ih=>
   by_cases hl: ∀j,j<i→B.testBit j=true∨q.testBit j=true
   ·exact⟨i,hi,hn.1,hn.2,hl⟩
   ·have: ∃j,j<i∧B.testBit j=false∧q.testBit j=false:=by
     apply Classical.byContradiction
     intro hno
     apply hl
     intro j hj
     cases hb:B.testBit j with
     |true=>exact Or.inl rfl
     |false=>
      cases hq:q.testBit j with
      |true=>exact Or.inr rfl
      |false=>exact absurd ⟨j,hj,hb,hq⟩ hno
    obtain⟨j,hj,h1,h2⟩:=this
    exact ih j hj (by omega) ⟨h1,h2⟩
 obtain⟨i,hi,h1,h2,h3⟩:=this
 have ho:=List.getElem?_eq_getElem hi
 obtain⟨d,sub,h4,h5⟩:=EK (D:=fun j=>q.testBit j&&decide (j<ops.length)) YZ K (fun j hj=>by simp at hj;exact hj.1) (fun j hj=>by simp at hj;exact hj.2)
  (fun a b hab hb j hj=>by
   have hal:a<ops.length:=(List.getElem?_eq_some_iff.1 hb).1
   have hjl:j<ops.length:=Nat.lt_trans (K.back a b hb j hj) hal
   rcases hab with h|h
   ·exact Or.inl (Ih a b h hb j hj)
   ·simp at h
    rcases O8 a b h.1 hb j hj with h|h
    ·exact Or.inl h
    ·exact Or.inr (by simp[h,hjl])) ho h1 h2 (fun j hj=>by
   have hji:=K.back i _ ho j hj
   rcases h3 j hji with h|h
   ·exact Or.inl h
   ·exact Or.inr (by simp[h];omega))
 refine⟨d,i,sub,h4,h5,fun o ho' j hj=> ?_⟩
 have hji:=K.back i _ ho' j hj
 rcases h3 j hji with h|h
 ·exact Or.inl h
 ·exact Or.inr (by rw[h5 j,h];simp;omega)
theorem F8{B d t q:Nat}(K:Va ops qs B q)(Ih: ∀i o,B.testBit i=true→ops[i]? =some o→ ∀j,j∈bP o→B.testBit j=true)(hd: ∀i o,d.testBit i=true→ops[i]? =some o→ ∀j,j∈bP o→(B.testBit j=true∨d.testBit j=true))
  (ht: ∀o,ops[t]? =some o→ ∀j,j∈bP o→(B.testBit j=true∨d.testBit j=true)): ∀i o,(B|||d|||2^t).testBit i=true→ops[i]? =some o→ ∀j,j∈bP o→(B|||d|||2^t).testBit j=true:=by
 intro i o hi ho j hj
 simp only[Nat.testBit_or,Nat.testBit_two_pow,Bool.or_eq_true,decide_eq_true_eq]at hi ⊢
 rcases hi with(h|h)|h
 ·exact Or.inl (Or.inl (Ih i o h ho j hj))
 ·exact Or.inl (hd i o h ho j hj)
 ·subst h;exact Or.inl (ht o ho j hj)
theorem CX: ∀(N:Nat) (p:eR),SizeOf.sizeOf p≤N→p.Qa=true→ ∀(B:Nat) (s:St) (tr:List TE) (vq acc:List (Nat×List Prop)) (lv:List (List Prop×St)),(∀i o,ops[i]? =some o→ ∀j,j∈bP o→j<i)→(∀i o,B.testBit i=true→ops[i]? =some o→ ∀j,j∈bP o→B.testBit j=true)→
  NQ ops (FN ops) (idx 0 ops) qs ops.length B p=true→jW P ty Γ cO cr ks hs ops n0 p s tr vq acc=some lv→lv≠ []
 |N, .last q,_,_,B,s,tr,vq,acc,lv,hb,Ih,hok,h=>by
  simp only[jW]at h
  repeat' split at h
  all_goals first
   | (cases h;done)
   |skip
  simp only[Option.some.injEq]at h
  rw[←h];simp
 |0, .ph q c,hN,_,_,_,_,_,_,_,_,_,_,_=>by simp only[eR.ph.sizeOf_spec]at hN;omega
 |N+1, .ph q c,hN,_,B,s,tr,vq,acc,lv,hb,Ih,hok,h=>by
  simp only[NQ,Bool.and_eq_true,Bool.not_eq_true']at hok
  have K:=F7 hb hok.1.1.1
  obtain⟨d,t,sub,hm,hd,ht⟩:=LC hok.1.1.2 K Ih K.X7 hok.1.2
  simp only[jW]at h
  split at h
  case h_2=>cases h
  rename_i W0 ZV hr
  obtain⟨o,vc,s2,l1,h1,h2,h3,h4⟩:=nO h d t sub hm
  obtain⟨p1,p2,p3,p4⟩:=tS hok.2 d t sub hm
  have hsz:SizeOf.sizeOf sub≤N:=by simp only[eR.ph.sizeOf_spec]at hN;omega
  have:=CX N sub hsz p1 (B|||d|||2^t) s2 [] [] _ l1 hb (F8 K Ih (fun i o hi ho j hj=>by
   rw[hd i]at hi
   simp only[Bool.and_eq_true,decide_eq_true_eq]at hi
   rcases K.X7 i o hi.1 ho j hj with h|h
   ·exact Or.inl h
   ·exact Or.inr (by rw[hd j,h];have:=K.back i o ho j hj;simp;omega)) ht) p3 h3
  intro hnil
  cases l1 with
  |nil=>exact this rfl
  |cons x r=>have:=h4 x (by simp);rw[hnil]at this;cases this
 |_, .br _ _ _ _,_,hp,_,_,_,_,_,_,_,_,_,_=>by cases hp
 |_, .nil,_,hp,_,_,_,_,_,_,_,_,_,_=>by cases hp
variable{zb:cA}{Q:Exit→Act→World→Prop}
theorem EL(X:Ctx P ty Γ){B q:Nat}{s:St}{tr:List TE}{vq:List (Nat×List Prop)}(T:Rn Γ (Jc P ty) (Sound ty P) cO cr ops q s tr vq)(K:Va ops qs B q)(hv: ∀x,x∈vq→q.testBit x.1=true→x.1<ops.length→ ∀p,p∈x.2→p)(Ih: ∀i o,B.testBit i=true→ops[i]? =some o→ ∀j,j∈bP o→B.testBit j=true)
  (fin: ∀a w,(∀i,i<ops.length→B.testBit i=true∨q.testBit i=true)→Inv ty zb (cK (fun j=>q.testBit j) tr s ops.length) a w→Q .normal a w)
  (iX: ∀(fuel:Nat) (D:Nat→Bool) (listed:Array Bool) (i:Nat) (o:Oper) (a:Act) (w:World),listed.size=ops.length→(∀j,j<ops.length→listed.getD j false=(B.testBit j||D j))→(∀i,D i=true→q.testBit i=true)→(∀i,D i=true→i<ops.length)→
   (∀i o,(B.testBit i=true∨D i=true)→ops[i]? =some o→ ∀j,j∈bP o→(B.testBit j=true∨D j=true))→ops[i]? =some o→B.testBit i=false→q.testBit i=false→(∀j,j∈bP o→(B.testBit j=true∨D j=true))→cnt ops.length (fun j=>(listed.setIfInBounds i true).getD j false)≤fuel→
   Inv ty zb (cK D tr s ops.length) a w→oF P ops.toArray o a w (wpAny P .any ops.toArray Q fuel (listed.setIfInBounds i true)) Q):
  ∀(fuel:Nat) (D:Nat→Bool) (listed:Array Bool) (a:Act) (w:World),listed.size=ops.length→(∀j,j<ops.length→listed.getD j false=(B.testBit j||D j))→(∀i,D i=true→q.testBit i=true)→(∀i,D i=true→i<ops.length)→
   (∀i o,(B.testBit i=true∨D i=true)→ops[i]? =some o→ ∀j,j∈bP o→(B.testBit j=true∨D j=true))→cnt ops.length (fun j=>listed.getD j false)≤fuel→Inv ty zb (cK D tr s ops.length) a w→wpAny P .any ops.toArray Q fuel listed a w:=by
 have all: ∀{D:Nat→Bool} {listed:Array Bool} {a:Act} {w:World},listed.size=ops.length→(∀j,j<ops.length→listed.getD j false=(B.testBit j||D j))→(∀i,D i=true→q.testBit i=true)→Region.ready .any ops.toArray listed= []→Inv ty zb (cK D tr s ops.length) a w→Q .normal a w:=by
  intro D listed a w hl hL rm hnil iv
  have M4: ∀i,i<ops.length→listed.getD i false=true:=by
   intro i
   induction i using Nat.strongRecOn with
   |_ i ih=>
    intro hi
    cases hd:listed.getD i false with
    |true=>rfl
    |false=>
     have:i∈Region.ready .any ops.toArray listed:=(ju hl).2 ⟨ops[i],List.getElem?_eq_getElem hi,hd,fun j hj=>by
      have:=K.back i _ (List.getElem?_eq_getElem hi) j hj
      exact ih j this (by omega)⟩
     rw[hnil]at this
     cases this
  have ZX: ∀i,i<ops.length→B.testBit i=true∨D i=true:=by
   intro i hi
   have:=M4 i hi
   rw[hL i hi,Bool.or_eq_true]at this
   exact this
  refine fin a w (fun i hi=>(ZX i hi).imp id (rm i)) ?_
  rw[←zm (D:=D) fun i hi=> ?_]
  ·exact iv
  ·cases hq:q.testBit i with
   |false=>
    cases hd:D i with
    |false=>rfl
    |true=>rw[rm i hd]at hq;cases hq
   |true=>
    rcases ZX i hi with h|h
    ·rw[K.kj i hi hq]at h;cases h
    ·exact h
 intro fuel
 induction fuel with
 |zero=>
  intro D listed a w hl hL rm Tu Bc hf iv
  have hz:=HC (by omega:cnt ops.length (fun i=>listed.getD i false)=0)
  have hnil:Region.ready .any ops.toArray listed= []:=by
   apply List.eq_nil_iff_forall_not_mem.2
   intro i hi
   obtain⟨o,ho,h1,_⟩:=(ju hl).1 hi
   rw[hz i (List.getElem?_eq_some_iff.1 ho).1]at h1
   cases h1
  exact⟨hnil,all hl hL rm hnil iv⟩
 |succ fuel ih=>
  intro D listed a w hl hL rm Tu Bc hf iv
  refine⟨fun hnil=>all hl hL rm hnil iv,fun i hi=> ?_⟩
  obtain⟨o,ho,hif,hE0⟩:=(ju hl).1 hi
  have hin:=(List.getElem?_eq_some_iff.1 ho).1
  have hE: ∀j,j∈bP o→(B.testBit j=true∨D j=true):=by
   intro j hj
   have:=hE0 j hj
   rw[hL j (by have:=K.back i o ho j hj;omega),Bool.or_eq_true]at this
   exact this
  rw[hL i hin,Bool.or_eq_false_iff]at hif
  obtain⟨VX,Dw⟩:=hif
  have M5: ∀j,(listed.setIfInBounds i true).getD j false=(listed.getD j false||j==i):=fun j=>wV (by omega)
  have Sc:(fun j=>(listed.setIfInBounds i true).getD j false)=fun j=>listed.getD j false||j==i:=funext M5
  have SO:cnt ops.length (fun j=>(listed.setIfInBounds i true).getD j false)≤fuel:=by
   rw[Sc]
   have:=Ld (D:=fun i=>listed.getD i false) hin (by rw[hL i hin,VX,Dw];rfl)
   omega
  unfold wpOp
  rw[List.getElem?_toArray,ho]
  dsimp only
  cases Bf:q.testBit i with
  |true=>
   have hstep:=Kj (Q:=Q) X.kind T K hv rm Tu Bc Bf Dw ho hE iv
   refine oF.mono (fun a' w' lU=>ih (fun j=>D j||j==i) (listed.setIfInBounds i true) a' w' (by simpa using hl) (fun j hj=> ?_) (fun j hj=> ?_) (fun j hj=> ?_) (fun a b hab hb j hj=> ?_) SO lU) hstep
   ·rw[M5,hL j hj,Bool.or_assoc]
   ·simp only[Bool.or_eq_true,beq_iff_eq]at hj
    rcases hj with h|rfl
    ·exact rm j h
    ·exact Bf
   ·simp only[Bool.or_eq_true,beq_iff_eq]at hj
    rcases hj with h|rfl
    ·exact Tu j h
    ·exact hin
   ·have up: ∀{x},(B.testBit x=true∨D x=true)→(B.testBit x=true∨(D x||x==i)=true):=fun h=>h.imp id (fun h=>by simp[h])
    simp only[Bool.or_eq_true,beq_iff_eq]at hab
    rcases hab with h|h|rfl
    ·exact up (Bc a b (Or.inl h) hb j hj)
    ·exact up (Bc a b (Or.inr h) hb j hj)
    ·rw[ho]at hb
     simp only[Option.some.injEq]at hb
     subst hb
     exact up (hE j hj)
  |false=>exact iX fuel D listed i o a w hl hL rm Tu Bc ho VX Bf hE SO iv
theorem Ii(X:Ctx P ty Γ)(hb: ∀i o,ops[i]? =some o→ ∀j,j∈bP o→j<i): ∀(N:Nat) (p:eR),SizeOf.sizeOf p≤N→p.Qa=true→ ∀(B:Nat) (s:St) (Y0:List TE) (Y1 acc:List (Nat×List Prop)) (lv:List (List Prop×St)),
  (∀i o,B.testBit i=true→ops[i]? =some o→ ∀j,j∈bP o→B.testBit j=true)→NQ ops (FN ops) (idx 0 ops) qs ops.length B p=true→jW P ty Γ cO cr ks hs ops n0 p s Y0 Y1 acc=some lv→
  (∀x,x∈lv→(∀q,q∈x.1→q)∧ ∀a w,Inv ty zb x.2 a w→Q .normal a w)→
  ∀(fuel:Nat) (listed:Array Bool) (a:Act) (w:World),listed.size=ops.length→(∀j,j<ops.length→listed.getD j false=B.testBit j)→cnt ops.length (fun j=>listed.getD j false)≤fuel→Inv ty zb s a w→wpAny P .any ops.toArray Q fuel listed a w
 |N, .last q,hN,_,B,s,Y0,Y1,acc,lv,Ih,hok,h,hlv,fuel,listed,a,w,hl,hL,hf,iv=>by
  simp only[NQ,Bool.and_eq_true]at hok
  have K:=F7 hb hok.1
  simp only[jW]at h
  split at h
  case h_2=>cases h
  rename_i tr vq hr
  split at h
  case h_2=>cases h
  rename_i n X6 eZ hs1
  have hs1:=mK hs1
  split at h
  case h_2=>cases h
  rename_i sl hp vc h1 h2 h3
  split at h
  case h_2=>cases h
  rename_i zZ hn
  simp only[Option.some.injEq]at h
  have T:=Rn.of hr
  obtain⟨hx1,rT⟩:=hlv (vc,⟨n0,sl,hp⟩) (by rw[←h];simp)
  have hmk:cK (fun j=>q.testBit j) tr s ops.length=⟨n,X6,eZ⟩:=by
   rw[hs1,xy,T.len]
   congr 1
   funext j;rw[Nat.zero_add]
  refine EL X T K (fun x hx hq _ p hp=>hx1 p (zl h3 x (oV.2 (Or.inl ⟨hx,hq⟩)) p hp)) Ih (fun a w _ lU=> ?_) (fun fuel D listed i o a w _ _ _ _ _ ho VX Bf _ _ _=> ?_) fuel (fun _=>false) listed a w hl (fun j hj=>by rw[hL j hj,Bool.or_false]) (by simp) (by simp) (fun i o hi ho j hj=>by
    rcases hi with h|h
    ·exact Or.inl (Ih i o h ho j hj)
    ·cases h) hf (by rw[CV];exact iv)
  ·rw[hmk]at lU
   exact rT a w (lU.weaken (Nat.eq_of_beq_eq_true hn).symm (kD h1) (kE h2) zZ)
  ·exfalso
   have hil:=(List.getElem?_eq_some_iff.1 ho).1
   have:=List.all_eq_true.1 hok.2 i (List.mem_range.2 hil)
   rw[VX,Bf]at this;cases this
 |0, .ph q c,hN,_,_,_,_,_,_,_,_,_,_,_,_,_,_,_,_,_,_,_=>by simp only[eR.ph.sizeOf_spec]at hN;omega
 |N+1, .ph q c,hN,_,B,s,Y0,Y1,acc,lv,Ih,hok,h,hlv,fuel,listed,a,w,hl,hL,hf,iv=>by
  simp only[NQ,Bool.and_eq_true,Bool.not_eq_true']at hok
  have K:=F7 hb hok.1.1.1
  obtain⟨d,t,sub,hm,hd,ht⟩:=LC hok.1.1.2 K Ih K.X7 hok.1.2
  simp only[jW]at h
  split at h
  case h_2=>cases h
  rename_i tr vq hr
  have T:=Rn.of hr
  have hv: ∀x,x∈vq→q.testBit x.1=true→x.1<ops.length→ ∀p,p∈x.2→p:=by
   obtain⟨o,vc,s2,l1,h1,h2,h3,h4⟩:=nO h d t sub hm
   obtain⟨p1,p2,p3,p4⟩:=tS hok.2 d t sub hm
   have hsz:SizeOf.sizeOf sub≤N:=by simp only[eR.ph.sizeOf_spec]at hN;omega
   have hne:=CX N sub hsz p1 (B|||d|||2^t) s2 [] [] _ l1 hb (F8 K Ih (fun i o hi ho j hj=>by
    rw[hd i]at hi
    simp only[Bool.and_eq_true,decide_eq_true_eq]at hi
    rcases K.X7 i o hi.1 ho j hj with h|h
    ·exact Or.inl h
    ·exact Or.inr (by rw[hd j,h];have:=K.back i o ho j hj;simp;omega)) ht) p3 h3
   cases l1 with
   |nil=>exact absurd rfl hne
   |cons x r=>
    intro y hy hq hyl p hp
    exact(hlv x (h4 x (by simp))).1 p (oW h3 x (by simp) y (sE.2 (Or.inr (oV.2 (Or.inl ⟨hy,by rw[hd y.1,hq];simp[hyl]⟩)))) p hp)
  refine EL X T K hv Ih (fun a w hall _=> ?_) (fun fuel D listed i o a w hl hL rm Tu Bc ho VX Bf hE SO lU=> ?_) fuel (fun _=>false) listed a w hl (fun j hj=>by rw[hL j hj,Bool.or_false]) (by simp) (by simp) (fun i o hi ho j hj=>by
    rcases hi with h|h
    ·exact Or.inl (Ih i o h ho j hj)
    ·cases h) hf (by rw[CV];exact iv)
  ·exfalso
   have:((List.range ops.length).all fun i=>B.testBit i||q.testBit i)=true:=by
    rw[List.all_eq_true]
    intro i hi
    rw[Bool.or_eq_true]
    exact hall i (List.mem_range.1 hi)
   rw[hok.1.2]at this;cases this
  ·obtain⟨d,sub,hm,hd⟩:=EK hok.1.1.2 K rm Tu Bc ho VX Bf hE
   obtain⟨o',vc,s2,l1,h1,h2,h3,h4⟩:=nO h d i sub hm
   rw[ho]at h1
   simp only[Option.some.injEq]at h1
   subst h1
   obtain⟨p1,p2,p3,p4⟩:=tS hok.2 d i sub hm
   have hsz:SizeOf.sizeOf sub≤N:=by simp only[eR.ph.sizeOf_spec]at hN;omega
   have hmk:Ic d 0 tr s=cK D tr s ops.length:=by
    rw[xy,T.len]
    exact zm fun j _=>by rw[Nat.zero_add];exact hd j
   rw[hmk]at h2
   have W5:=F8 (d:=d) (t:=i) K Ih (fun i o hi ho j hj=>by
    rw[hd i]at hi
    rw[hd j]
    exact Bc i o (Or.inr hi) ho j hj) (fun o2 GK j hj=>by
    rw[ho]at GK
    simp only[Option.some.injEq]at GK
    subst GK
    rw[hd j]
    exact hE j hj)
   have hne:=CX N sub hsz p1 (B|||d|||2^i) s2 [] [] _ l1 hb W5 p3 h3
   have RT: ∀p,p∈vc→p:=by
    cases l1 with
    |nil=>exact absurd rfl hne
    |cons x r=>
     intro p hp
     exact(hlv x (h4 x (by simp))).1 p (oW h3 x (by simp) (i,vc) (sE.2 (Or.inl rfl)) p hp)
   have hstep:=A9 (Q:=Q) X.kind X.one h2 lU RT
   refine oF.mono (fun a' w' YQ=>Ii X hb N sub hsz p1 (B|||d|||2^i) s2 [] [] _ l1 W5 p3 h3 (fun x hx=>hlv x (h4 x hx)) fuel (listed.setIfInBounds i true) a' w' (by simpa using hl) (fun j hj=> ?_) SO YQ) hstep
   have hin:=(List.getElem?_eq_some_iff.1 ho).1
   rw[wV (by omega),hL j hj]
   simp only[Nat.testBit_or,Nat.testBit_two_pow,hd j]
   by_cases hji:j=i
   ·subst hji;simp
   ·have: ¬i=j:=fun e=>hji e.symm
    simp[hji,this]
 |_, .br _ _ _ _,_,hp,_,_,_,_,_,_,_,_,_,_,_,_,_,_,_,_,_,_=>by cases hp
 |_, .nil,_,hp,_,_,_,_,_,_,_,_,_,_,_,_,_,_,_,_,_,_=>by cases hp
end
def EM(x:List Prop×St):List (List Prop×St)→Prop
 | []=>True
 |y::r=>y=x∧EM x r
theorem EM.out{x:List Prop×St}: ∀{l:List (List Prop×St)},EM x l→ ∀y,y∈l→y=x
 |_::_,h,y,hy=>by
  rcases List.mem_cons.1 hy with rfl|hy
  ·exact h.1
  ·exact EM.out h.2 y hy
section
variable{P:Program}{Γ:Nat→TK}{zb:cA}{Q:Post}{st:St}
theorem W.W6(X:Ctx P ty Γ)(cO:List (Nat×Nat))(cr:List (Nat×CR))(ks hs:List Nat)(qs:Nat)(pl:eR){id:Nat}{ops:List Oper}{vc:List Prop}{st':St}{rest:List (List Prop×St)}(hm:P.follows .mixedOrders=true)(hc:U8 ops qs pl=true)(h:jW P ty Γ cO cr ks hs ops st.n pl st [] [] []=some ((vc,st')::rest))(he:EM (vc,st') rest)(hv:ah vc)(k:Q .normal st'):
  W P ty zb (.region id ops.toArray true) Q st:=by
 intro a w iv
 simp only[U8,Bool.and_eq_true]at hc
 have hb:=W1 hc.1.1
 refine wp_region_any hm ?_
 have hz: ∀i,(Array.replicate ops.toArray.size false).getD i false=false:=by
  intro i
  rw[Array.getD_eq_getD_getElem?,Array.getElem?_replicate]
  split<;>rfl
 refine Ii (zb:=zb) (Q:=Ci ty zb Q) X hb _ pl (Nat.le_refl _) hc.1.2 0 st [] [] [] _ (fun i o hi=>by simp at hi) hc.2 h (fun x hx=> ?_) _ _ a _ (by simp) (fun j hj=>by rw[hz];simp) ?_ ?_
 ·have hx:x=(vc,st'):=by
   rcases List.mem_cons.1 hx with rfl|hx
   ·rfl
   ·exact he.out x hx
  subst hx
  exact⟨hv.out,fun a w lU=>⟨st',lU,k⟩⟩
 ·unfold cnt
  refine Nat.le_trans (List.length_filter_le _ _) ?_
  simp
 ·obtain⟨env,g⟩:=iv.good
  have WL:Below w.heap.size w w.drew:=(Below.refl _ _).drew
  refine⟨iv.size,iv.defers,iv.kept.trans (iV WL iv.kept.size),iv.A3,env,?_⟩
  have:=g.grow (os:= []) (w':=w.drew) (env':=env) iv.kept.size rfl (lf.none WL)
  exact this
end
section
variable{P:Program}{Γ:Nat→TK}{zb:cA}{Q:Post}{st:St}
theorem W.fD(X:Ctx P ty Γ)(cO:List (Nat×Nat))(cr:List (Nat×CR))(ks hs:List Nat)(qs:Nat)(pl:eR)(nw:Nat){id:Nat}{ops:List Oper}{vc:List Prop}{st':St}(hm:P.follows .mixedOrders=true)(hc:U8 ops qs pl=true)(_h0:G.fH P ty Γ cO cr ks hs ops st=some (vc,st'))(h:jW P ty Γ cO cr ks hs ops st.n pl st [] [] []=some ((vc,st')::List.replicate nw (vc,st')))(hv:ah vc)(k:Q .normal st'):
  W P ty zb (.region id ops.toArray true) Q st:=by
 refine W.W6 X cO cr ks hs qs pl hm hc h ?_ hv k
 have: ∀n,EM (vc,st') (List.replicate n (vc,st')):=by
  intro n
  induction n with
  |zero=>trivial
  |succ n ih=>exact⟨rfl,ih⟩
 exact this nw
end
end
section
variable{ty:Tag→Nat}
def C7(st:St)(n i:Nat):Option St:=match look st.hp n with
 |some (.box c)=>match wm c i with
  |some (.own m)=>match look st.hp m with
   |some (.arr t l)=>match Uz ((n, .box (c.set i (.vw m none t l)))::st.hp.filter fun e=> !Nat.beq e.1 n)with
    |some hp=>some ⟨st.n,st.sl,hp⟩
    |none=>none
   |_=>none
  |_=>none
 |_=>none
theorem sL{α:Type}{hp:List (Nat×α)}{n m:Nat}(h:m≠n):look (hp.filter fun e=> !Nat.beq e.1 n) m=look hp m:=by
 induction hp with
 |nil=>rfl
 |cons e r ih=>
  obtain⟨j,x⟩:=e
  by_cases hj:j=n
  ·subst hj
   rw[List.filter_cons_of_neg (by simp),ih,aW h]
  ·have:Nat.beq j n=false:=by
    cases hb:Nat.beq j n with
    |false=>rfl
    |true=>exact absurd (Nat.eq_of_beq_eq_true hb) hj
   rw[List.filter_cons_of_pos (by simp[this])]
   by_cases hm:m=j
   ·subst hm;rw[look_eq,look_eq]
   ·rw[aW hm,aW hm,ih]
theorem bn.set{α β:Type}{R:α→β→Prop}: ∀{as:List α} {bs:List β} {i:Nat} {x:α},bn R as bs→(∀y,bs[i]? =some y→R x y)→bn R (as.set i x) bs
 | [],[],_,_,_,_=>trivial
 |a::as,b::bs,0,x,h,hx=>⟨hx b rfl,h.2⟩
 |a::as,b::bs,i+1,x,h,hx=>⟨h.1,bn.set h.2 (fun y hy=>hx y (by simpa using hy))⟩
 | [],_::_,_,_,h,_=>h.elim
 |_::_,[],_,_,h,_=>h.elim
section
variable{P:Program}{zb:cA}{st st':St}{Q:Post}
theorem Inv.C7{a:Act}{w:World}(n i:Nat)(h:G.C7 st n i=some st')(iv:Inv ty zb st a w):Inv ty zb st' a w:=by
 unfold G.C7 at h
 split at h
 case h_2=>cases h
 rename_i c hc
 split at h
 case h_2=>cases h
 rename_i m hm
 split at h
 case h_2=>cases h
 rename_i t l hl
 split at h
 case h_2=>cases h
 rename_i hp hf
 simp only[Option.some.injEq]at h
 subst h
 have hf:=FH hf
 obtain⟨env,g⟩:=iv.good
 have hmn:m≠n:=by rintro rfl;rw[hl]at hc;cases hc
 have hlk: ∀k o,look hp k=some o→(k=n∧o= .box (c.set i (.vw m none t l)))∨(k≠n∧look st.hp k=some o):=by
  intro k o hk
  rw[hf]at hk
  by_cases hkn:k=n
  ·subst hkn;rw[look_eq]at hk;simp only[Option.some.injEq]at hk;exact Or.inl ⟨rfl,hk.symm⟩
  ·rw[aW hkn,sL hkn]at hk;exact Or.inr ⟨hkn,hk⟩
 have hne: ∀k o,k≠n→look st.hp k=some o→look hp k=some o:=by
  intro k o hkn hk
  rw[hf,aW hkn,sL hkn];exact hk
 have hnn:look hp n=some (.box (c.set i (.vw m none t l))):=by rw[hf,look_eq]
 have s:Step (fun _=>True) (fun _=>True) w st.hp env w hp env:=by
  refine⟨fun _ _ _=>rfl,?_,?_,?_⟩
  ·rintro b _ ⟨k,o,h1,h2⟩
   rcases hlk k o h1 with⟨rfl,_⟩| ⟨_,h3⟩
   ·exact⟨_,_,hc,h2⟩
   ·exact⟨k,o,h3,h2⟩
  ·intro k o _ h1
   by_cases hkn:k=n
   ·subst hkn
    rw[hc]at h1
    simp only[Option.some.injEq]at h1
    subst h1
    exact⟨_,hnn,trivial,rfl⟩
   ·exact⟨o,hne k o hkn h1,by cases o<;>simp[Obj.like],rfl⟩
  ·intro k t' l' _ h1
   have hkn:k≠n:=by rintro rfl;rw[hc]at h1;cases h1
   exact⟨hne k _ hkn h1,rfl,fun _ _=>rfl⟩
 refine⟨iv.size,iv.defers,iv.kept,iv.A3,env,⟨fun k o hk=> ?_,fun k k' o o' hkk h1 h2=> ?_,fun t v hv=>oC.step s (fun v _=>v.eD) (g.slot t v hv),fun k o hk b hb=> ?_,g.pins⟩⟩
 ·rcases hlk k o hk with⟨rfl,rfl⟩| ⟨hkn,h3⟩
  ·obtain⟨b,cs,e,h1,h2,h3⟩:=g.obj _ _ hc
   refine⟨b,cs,e,h1,h2,bn.set (h3.mono fun x y _ hr=>RA.step s x.eD hr) fun y hy=> ?_⟩
   rw[A5]at hm
   obtain⟨y',hy',hr⟩:=h3.at hm
   rw[hy]at hy'
   simp only[Option.some.injEq]at hy'
   subst hy'
   obtain⟨_,hu⟩:=hr
   have hro:=g.obj m _ hl
   have VQ:=hne m _ hmn hl
   refine⟨⟨t,l,VQ⟩,⟨(env m).fp,?_,(RO.own hro).nodup,fun _ h=>h⟩,by simp⟩
   rw[hu];exact RO.sl hro
  ·exact(g.obj k o h3).step s o.eD (fun _ _=>rfl)
 ·have: ∀k o,look hp k=some o→ ∃x,look st.hp k=some x:=by
   intro k o hk
   rcases hlk k o hk with⟨rfl,_⟩| ⟨_,h3⟩
   ·exact⟨_,hc⟩
   ·exact⟨_,h3⟩
  obtain⟨x,hx⟩:=this k o h1
  obtain⟨y,hy⟩:=this k' o' h2
  exact g.kj k k' x y hkk hx hy
 ·rcases hlk k o hk with⟨rfl,_⟩| ⟨_,h3⟩
  ·exact g.dom _ _ hc b hb
  ·exact g.dom k o h3 b hb
theorem W.C7{c:Code}(n i:Nat)(h:G.C7 st n i=some st')(k:W P ty zb c Q st'):W P ty zb c Q st:=fun a w iv=>k a w (iv.C7 n i h)
end
end
section
variable{ty:Tag→Nat}
def toBrr(st:St)(s m:Nat):Option St:=match look st.sl s,Nat.blt s st.n with
 |some (.one (.a (.own n))),true=>match look st.hp n,pinned [n],iA m,look (cm [n] [] st.hp) m with
  |some (.arr t []),false,false,none=>match Nat.beq (kk t) 1 with
   |true=>MV ((⟨st.n,st.sl.map fun e=>(e.1,e.2.bE [n] []),WA st.hp n m t []⟩:St).put (some s) (.one (.a (.yu m))))
   |false=>none
  |_,_,_,_=>none
 |_,_=>none
theorem toBrr_ok{zb:cA}{st st':St}{s m:Nat}(h:toBrr st s m=some st'){a:Act}{w:World}(iv:Inv ty zb st a w):Inv ty zb st' a w:=by
 obtain⟨env,g⟩:=iv.good
 have hB:=iv.kept.size
 unfold toBrr at h
 split at h
 case h_2=>cases h
 rename_i n hs hlt
 split at h
 case h_2=>cases h
 rename_i t hl hpk G7 hlk
 split at h
 case h_2=>cases h
 rename_i hk1
 have hk1:=Nat.eq_of_beq_eq_true hk1
 have h:=mK h
 have Th:soft n=false:=pW hpk (by simp)
 have hb:=RO.KN Th (g.obj n _ hl)
 have Dv: ∀b,(env n).v.ownBlock=some b→b∈(env n).fp:=by
  intro b hb'
  obtain⟨xs,bk,_,_,_,gA,_⟩:=hb
  rw[gA,hb'];simp
 have hbE:iR 1 Oe 0 (ty t) w (env n).v ([]:List Value) (env n).fp:=by
  obtain⟨xs,bk,q1,q2,q3,q4,q5⟩:=hb
  obtain rfl:bk= []:=List.length_eq_zero_iff.1 q2
  exact⟨xs,[],by rw[hk1]at q1;exact q1,rfl,fun i x f hx=>by simp at hx,q4,q5⟩
 obtain⟨env',hg',Jh,_,_⟩:=yF (ty:=ty) g hB (ks:= [n]) hpk G7 hlk (v:=(env n).v) (v':=(env n).v) (w':=w) (ob:= .lT t [] .nZ) (fp:=(env n).fp) (fx:= []) (ga:=(env n).fp) (by
  intro b hb
  rw[List.append_nil]at hb
  exact⟨n,_,by simp,hl,hb⟩) Dv (fun YG hd s2=>⟨hk1,[],hbE,rfl,fun i x u hx=>by simp at hx⟩) ⟨rfl,rfl,rfl,Nat.le_refl _,fun _ _ _=>rfl⟩ (fun b hb=>Or.inl hb)
 have hlt:s<a.tmps.size:=by rw[iv.size];exact Nat.le_of_ble_eq_true hlt
 obtain⟨_,hu⟩:=g.slot s _ hs
 have gp:=hg'.put hlt (v:= .one (.a (.yu m))) (u:=a.tmps.getD s undef) ⟨⟨t,[],_,look_eq⟩,by rw[Jh];exact hu⟩ rfl
 have e:a.tmps.setIfInBounds s (a.tmps.getD s undef)=a.tmps:=by
  rw[Array.getD_eq_getD_getElem?,Array.getElem?_eq_getElem hlt]
  apply Array.ext
  ·simp
  ·intro i h1 h2
   rw[Array.getElem_setIfInBounds]
   split
   ·rename_i hi;subst hi;rfl
   ·rfl
 rw[e]at gp
 rw[h]
 exact⟨by rw[wD];exact iv.size,iv.defers,iv.kept,iv.A3,env',gp⟩
theorem W.toBrr{P:Program}{zb:cA}{Q:Post}{st st':St}{c:Code}(s m:Nat)(h:G.toBrr st s m=some st')(k:W P ty zb c Q st'):W P ty zb c Q st:=fun a w iv=>k a w (toBrr_ok h iv)
end
end Go.Proofs.YtmcgjpdljafkeaaGreat.G
