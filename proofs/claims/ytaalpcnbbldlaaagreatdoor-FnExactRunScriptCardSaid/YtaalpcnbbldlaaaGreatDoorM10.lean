/-
  Regions whose guards are known, and in which nil slices of a struct that was written out are taken as immutable slices.
-/
import Derived.Orders
import Derived.Test.YtaalpcnbbldlaaaGreatDoorM9
open Array renaming all_eq_true_iff_forall_mem→qa,ext→ac7,getD_eq_getD_getElem?→ak,getElem?_eq_getElem→nv,getElem?_setIfInBounds_ne→gd,getElem?_setIfInBounds_self_of_lt→iN,getElem_setIfInBounds→tU,mem_toList_iff→mX,toList_append→Db
open Bool renaming and_eq_true→az,not_eq_true'→bX,or_eq_false_iff→jX,or_eq_true→dZ,or_false→xQ
open Go.Op renaming equal→OH,equalIn→Gk,operands→cP,slice→OZ
open Go.Region renaming binds→RG,ready→uN,wanted→iF
open List renaming all_eq_true→bE,any_eq_false→ct,any_eq_true→fB,append_nil→dA,drop_zero→iE,filter_cons_of_neg→eG,filter_cons_of_pos→dV,flatten_cons→cY,foldl_cons→gV,getD_eq_getElem?_getD→aA,getElem?_cons_succ→kN,getElem?_eq_getElem→aC,getElem?_eq_some_iff→aV,getElem?_toArray→rq,length_cons→bF,length_nil→c8,mem_append→bg,mem_append_left→aY,mem_append_right→aS,mem_cons→bu,mem_cons_of_mem→aT,mem_filter→tD,mem_filterMap→uO,mem_map→cO,mem_range→eg,mem_singleton→aZ,nil_append→eU,nodup_append→bK,range→bT,replicate→eK,take_zero→lu
open List.cons renaming injEq→cH
open Nat renaming add_zero→jL,beq→bW,beq_refl→Ab,blt→mJ,eq_of_beq_eq_true→aJ,le_of_ble_eq_true→cj,le_refl→bq,le_trans→dH,lt_trans→AJ,strongRecOn→j9,testBit_or→qT,testBit_two_pow→n8,zero_add→fL,zero_le→aE
open Option renaming getD_some→nN,map_some→dP
open Or renaming inl→bY,inr→bB
open SizeOf renaming sizeOf→mP
namespace Go.Proofs.YtaalpcnbbldlaaaGreatDoor.G
set_option linter.all false
open Go.RowKit L D
section
variable{ty:Tag→Nat}
structure TE where
 d:Nat
 v:SV
 os:Hp
def app(s:St)(e:TE):St:=⟨s.n,(e.d,e.v)::s.sl,e.os++s.hp⟩
def eH(o:Oper):List Nat:=o.after.toList.filterMap fun e=>if RG .any e then some e.on else none
def mM(acc:List Nat)(o:Oper):List Nat:=acc++ [(eH o).foldl (fun s j=>s|||2^j|||acc.getD j 0) 0]
def OX(ops:List Oper):List Nat:=ops.foldl mM []
def tmpsOf(o:Oper):List Nat:=o.op.operands.toList.filterMap fun| .tmp t=>some t|_=>none
def W0(o:Oper)(t:Nat):Bool:=match o.dst with|some d=>bW d t|none=>false
def idx{α:Type}:Nat→List α→List (Nat×α)
 |_,[]=> []
 |i,x::r=>(i,x)::idx (i+1) r
end
section
variable{ty:Tag→Nat}
def Compat(hp hp':Hp):Prop:= ∀n o o',look hp n=some o→look hp' n=some o'→o=o'
section
variable{zb:eM}{st T:St}{a:Act}{w:World}{env:Env}
theorem RH(c:Compat st.hp T.hp){tg:Option Tag}{v x:V}{u:Value}(hr:RA w T.hp env v u)(h:td st tg v=some x):td T tg v=some x:=by
 cases v with
 |own n=>
  obtain⟨⟨t,l,hl⟩,_⟩:=hr
  simp only[td]at h ⊢
  split at h
  ·rename_i t' l' hl'
   have:=c n _ _ hl' hl
   simp only[Obj.arr.injEq]at this
   obtain⟨rfl,mK⟩:=this
   rw[hl]
   simp only[←eq_of_heq mK]
   exact h
  ·cases h
 |sl t l=>exact h
 |vw n p t l=>exact h
 |mix n c t l=>exact h
 |Mn n=>
  obtain⟨⟨t,l,s,hl⟩,_⟩:=hr
  simp only[td]at h ⊢
  split at h
  ·rename_i t' l' hl'
   have:=c n _ _ hl' hl
   rw[←this]at hl
   rw[hl];exact h
  ·rename_i t' l' m hl'
   have:=c n _ _ hl' hl
   rw[←this]at hl
   rw[hl];exact h
  ·cases h
 |lit v=>
  have e:td T tg (.lit v)=td st tg (.lit v):=by
   cases v with
   |slice a n c=>cases a<;>cases n<;>cases c<;>rfl
   |_=>rfl
  rw[e];exact h
 |_=>simp[td]at h
theorem Nw(c:Compat st.hp T.hp): ∀{vs:List V} {tg:List (Option Tag)} {xs:List V} {us:List Value},cW (RA w T.hp env) vs us→QX st tg vs=some xs→QX T tg vs=some xs
 | [],_,xs,us,_,h=>h
 |v::r,tg,xs,us,hr,h=>by
  cases us with
  |nil=>exact hr.elim
  |cons u us=>
   simp only[QX]at h ⊢
   split at h
   ·rename_i x y h1 h2
    rw[RH c hr.1 h1,Nw c hr.2 h2]
    exact h
   ·cases h
theorem Zv(c:Compat st.hp T.hp){k:TK}{v x:S1}{u:Value}(hr:jU w T.hp env v u)(h:arg1 st k v=some x):arg1 T k v=some x:=by
 cases v with
 |a v=>
  simp only[arg1]at h ⊢
  split at h
  ·rename_i y hy
   rw[RH c hr hy]
   exact h
  ·cases h
 |agg l=>
  obtain⟨cs,_,hl⟩:=hr
  simp only[arg1]at h ⊢
  split at h
  ·rename_i y hy
   rw[Nw c hl hy]
   exact h
  ·cases h
theorem Er{p:List (Nat×Bool)}{x:Operand}(hs: ∀t,x= .tmp t→look st.sl t=look T.sl t):Ua st p x=Ua T p x:=by
 cases x with
 |tmp t=>simp only[Ua,hs t rfl]
 |_=>rfl
theorem KD{p:List (Nat×Bool)}{x:Operand}(hs: ∀t,x= .tmp t→look st.sl t=look T.sl t):l7 st p x=l7 T p x:=by
 unfold l7
 rw[Er hs]
theorem Zw{b:Bool}(c:Compat st.hp T.hp){k:TK}{v x:S1}{u:Value}(hr:jU w T.hp env v u)(h:Y9 b st k v=some x):Y9 b T k v=some x:=by
 unfold Y9 at h ⊢
 split at h
 ·exact h
 ·exact Zv c hr h
theorem Gt{b:Bool}{Γ:Nat→TK}(c:Compat st.hp T.hp)(g:Good ty zb T a.tmps w env){p:List (Nat×Bool)}(hp:holds a.tmps p): ∀{xs:List Operand} {ts:List Nat} {as:List S1},(∀x,x∈xs→ ∀t,x= .tmp t→look st.sl t=look T.sl t)→args b Γ st p xs ts=some as→args b Γ T p xs ts=some as
 | [],_,as,_,h=>h
 |x::r,ts,as,hs,h=>by
  simp only[args]at h ⊢
  rw[←KD (st:=st) (T:=T) (hs x (by simp))]
  split at h
  ·rename_i v hv
   split at h
   ·rename_i y ys h1 h2
    have hr:=jF g hp (by rw[←KD (hs x (by simp))];exact hv)
    rw[Zw c hr h1,Gt c g hp (fun z hz=>hs z (aT _ hz)) h2]
    exact h
   ·cases h
  ·cases h
theorem U9(c:Compat st.hp T.hp){k:TK}{v:V}{u:Value}{n:Int}(hr:RA w T.hp env v u)(h:lenOf st k v=some n):lenOf T k v=some n:=by
 cases v with
 |own m=>
  obtain⟨⟨t,l,hl⟩,_⟩:=hr
  simp only[lenOf]at h ⊢
  split at h
  ·split at h
   ·rename_i t' l' hl'
    have:=c m _ _ hl' hl
    simp only[Obj.arr.injEq]at this
    obtain⟨rfl,mK⟩:=this
    rw[hl]
    simp only[←eq_of_heq mK]
    exact h
   ·cases h
  ·cases h
 |sl t l=>exact h
 |vw n p t l=>exact h
 |lit v=>
  have e:lenOf T k (.lit v)=lenOf st k (.lit v):=by
   cases v with
   |slice a n c=>cases a<;>cases n<;>cases c<;>rfl
   |_=>rfl
  rw[e];exact h
 |_=>simp[lenOf]at h
theorem OY(c:Compat st.hp T.hp){v:V}{u:Value}(hr:RA w T.hp env v u){l:List UInt8}(h:bytesOf st v=some l):bytesOf T v=some l:=by
 cases v with
 |own n=>
  obtain⟨⟨t,l2,qS⟩,_⟩:=hr
  simp only[bytesOf]at h ⊢
  split at h
  ·rename_i l3 hl3
   simp only[oI]at h
   subst h
   have:=c n _ _ hl3 qS
   simp only[Obj.arr.injEq]at this
   obtain⟨rfl,mK⟩:=this
   rw[qS]
   simp only[eq_of_heq mK]
  ·cases h
 |sl t l=>
  have e:bytesOf T (.sl t l)=bytesOf st (.sl t l):=by cases t<;>rfl
  rw[e];exact h
 |vw n p t l=>
  have e:bytesOf T (.vw n p t l)=bytesOf st (.vw n p t l):=by cases t<;>rfl
  rw[e];exact h
 |lit v=>
  have e:bytesOf T (.lit v)=bytesOf st (.lit v):=by
   cases v with
   |slice a n c=>cases a<;>cases n<;>cases c<;>rfl
   |_=>rfl
  rw[e];exact h
 |_=>simp[bytesOf]at h
theorem Ic{p:List (Nat×Bool)}{g:Tag}: ∀{xs:List (Nat×Operand)} {i:Nat},(∀x,x∈xs→l7 st p x.2=l7 T p x.2)→vB st p g i xs=vB T p g i xs
 | [],_,_=>rfl
 | (j,x)::r,i,h=>by
   simp only[vB]
   rw[h (j,x) (by simp),Ic (fun y hy=>h y (aT _ hy))]
theorem KE{p:List (Nat×Bool)}{n:Nat}{fo:List Nat}: ∀{xs:List (Nat×Operand)} {c:List V},(∀x,x∈xs→Ua st p x.2=Ua T p x.2)→yE st p n fo xs c=yE T p n fo xs c
 | [],_,_=>rfl
 | (j,x)::r,c,h=>by
   simp only[yE]
   rw[h (j,x) (by simp)]
   have: ∀c',yE st p n fo r c'=yE T p n fo r c':=fun c'=>KE (fun y hy=>h y (aT _ hy))
   simp only[this]
theorem Da{p:List (Nat×Bool)}: ∀{xs:List Operand},(∀x,x∈xs→l7 st p x=l7 T p x)→D3 st p xs=D3 T p xs
 | [],_=>rfl
 |x::r,h=>by
  simp only[D3,agp]
  rw[h x (by simp),Da (fun y hy=>h y (aT _ hy))]
theorem Gu(c:Compat st.hp T.hp){v:V}{u:Value}(hr:RA w T.hp env v u){n:Nat}(hn:v.name=some n){o:Obj}(h:look st.hp n=some o):look T.hp n=some o:=by
 have: ∃o',look T.hp n=some o':=by
  cases v<;>simp only[V.name,oI,reduceCtorEq]at hn
  case own m=>subst hn;obtain⟨⟨t,l,hl⟩,_⟩:=hr;exact⟨_,hl⟩
  case ptr m off=>subst hn;obtain⟨⟨c,hl⟩,_⟩:=hr;exact⟨_,hl⟩
  case za m i off=>subst hn;obtain⟨t,l,hl,_⟩:=hr;exact⟨_,hl⟩
  case vw m p t l=>subst hn;obtain⟨⟨t,l,hl⟩,_⟩:=hr;exact⟨_,hl⟩
  case QC m t l=>subst hn;obtain⟨⟨t,l,hl⟩,_⟩:=hr;exact⟨_,hl⟩
  case mix m c t l=>subst hn;obtain⟨⟨t,l,hl⟩,_⟩:=hr;exact⟨_,hl⟩
  case Mn m=>subst hn;obtain⟨⟨t,l,s,hl⟩,_⟩:=hr;exact⟨_,hl⟩
  case M7 f m=>subst hn;obtain⟨⟨c,hl⟩,_⟩:=hr;exact⟨_,hl⟩
  case QB m p t x off=>subst hn;obtain⟨⟨t,l,hl⟩,_⟩:=hr;exact⟨_,hl⟩
 obtain⟨o',h'⟩:=this
 rw[c n _ _ h h'];exact h'
theorem Gv(c:Compat st.hp T.hp): ∀{l d:List V} {n:Nat} {us:List Value},cW (RA w T.hp env) l us→C3 st.hp l=some (d,n)→C3 T.hp l=some (d,n)
 | [],_,_,_,_,h=>by simp[C3]at h
 |v::r,d,n,us,hr,h=>by
  cases us with
  |nil=>exact hr.elim
  |cons u us=>
   unfold C3 at h
   split at h
   ·rename_i m r' he
    simp only[cH]at he
    obtain⟨rfl,rfl⟩:=he
    split at h
    ·rename_i t l hl hpl
     have:=Gu c hr.1 (n:=m) rfl hl
     simp only[C3,this,hpl]
     exact h
    ·cases h
   ·rename_i m pp t l r' he
    simp only[cH]at he
    obtain⟨rfl,rfl⟩:=he
    split at h
    ·rename_i t0 l0 hl hpl
     have:=Gu c hr.1 (n:=m) rfl hl
     simp only[C3,this,hpl]
     exact h
    ·cases h
   ·cases h
   ·rename_i x r' hns he
    simp only[cH]at he
    obtain⟨rfl,rfl⟩:=he
    split at h
    ·rename_i c' n' h'
     have:=Gv c hr.2 h'
     unfold C3
     split
     ·rename_i e;simp at e
     ·rename_i e;simp at e
     ·rename_i e;simp only[cH,V.lit.injEq]at e;exact absurd e.1 (by rintro rfl;exact hns _ _ _ rfl)
     ·rename_i e
      simp only[cH,V.lit.injEq]at e
      obtain⟨rfl,rfl⟩:=e
      rw[this];exact h
     ·rename_i e1 e2 e3;exact absurd rfl (e3 _ _)
    ·cases h
   ·cases h
theorem quiet_mono{Γ:Nat→TK}{E:Tag→Nat→Prop}{S:FuncId→List S1→List S1→Prop}(c:Compat st.hp T.hp)(g:Good ty zb T a.tmps w env){p:List (Nat×Bool)}(hp:holds a.tmps p){cr:List (Nat×CR)}{d m:Nat}{op:Op}{out:Out}
  (hs: ∀x,x∈op.operands.toList→ ∀t,x= .tmp t→look st.sl t=look T.sl t)(h:quiet Γ E S cr st p d m op=some out):quiet Γ E S cr T p d m op=some out:=by
 have ho: ∀{q x},x∈op.operands.toList→l7 st q x=l7 T q x:=fun hx=>KD (hs _ hx)
 have hr: ∀{x v},x∈op.operands.toList→l7 st p x=some v→jU w T.hp env v (a.eval x):=fun hx hv=>jF g hp (by rw[←ho hx];exact hv)
 have rn: ∀{x v n o},x∈op.operands.toList→l7 st p x=some (.a v)→v.name=some n→look st.hp n=some o→look T.hp n=some o:=fun hx hv hn hl=>Gu c (hr hx hv) hn hl
 cases op with
 |move x=>
  have hm:mvt st x=mvt T x:=by
   cases x with
   |tmp t=>simp only[mvt];rw[hs (.tmp t) (by simp[cP]) t rfl]
   |_=>rfl
  simp only[quiet]at h ⊢;rw[←Er (st:=st) (hs x (by simp[cP])), ←hm];exact h
 |assign x=>
  have hm:mvt st x=mvt T x:=by
   cases x with
   |tmp t=>simp only[mvt];rw[hs (.tmp t) (by simp[cP]) t rfl]
   |_=>rfl
  simp only[quiet]at h ⊢;rw[←Er (st:=st) (hs x (by simp[cP])), ←hm];exact h
 |nilCheck x=>simp only[quiet]at h ⊢;rw[←ho (by simp[cP])];exact h
 |index t x i=>simp only[quiet]at h ⊢;rw[←ho (x:=x) (by simp[cP]), ←ho (x:=i) (by simp[cP])];exact h
 |makeSlice t x y=>simp only[quiet]at h ⊢;rw[←ho (x:=x) (by simp[cP]), ←ho (x:=y) (by simp[cP])];exact h
 |buildSlice t n xs=>
  simp only[quiet]at h ⊢
  have hq: ∀g,vB st p g 0 xs.toList=vB T p g 0 xs.toList:=fun g=>Ic fun x hx=>ho (by simp only[cP,cO];exact⟨x,hx,rfl⟩)
  simp only[←hq]
  split at h
  case h_2=>cases h
  rename_i gt e hk
  cases hkey:(look cr (d+500000)).isSome with
  |false=>simp only[hkey]at h ⊢;exact h
  |true=>
   simp only[hkey]at h ⊢
   split at h
   case h_2=>cases h
   rename_i x hlen hps
   split at h
   case h_2=>cases h
   rename_i s hx
   split at h
   case h_2=>cases h
   rename_i cc n1 hc
   have hmem:x∈(Op.buildSlice t n xs).operands.toList:=by
    simp only[cP,cO,Array.toList_map]
    exact⟨(0,x),by rw[hps];simp,rfl⟩
   have hrx:=hr hmem hx
   have hown:C3 T.hp (cellsOf s)=some (cc,n1):=by
    cases s with
    |agg l=>obtain⟨cs,_,hl⟩:=hrx;exact Gv c hl hc
    |a v=>exact Gv c (us:= [a.eval x]) ⟨hrx,trivial⟩ hc
   simp only[←ho hmem,hx,hown]
   exact h
 |build t xs=>
  simp only[quiet]at h ⊢
  have hq: ∀n fo z,yE st p n fo xs.toList z=yE T p n fo xs.toList z:=fun n fo z=>KE fun x hx=>Er (hs _ (by simp only[cP,cO];exact⟨x,hx,rfl⟩))
  simp only[←hq]
  exact h
 |pick x y z=>
  cases x with
  |tmp t=>
   simp only[quiet]at h ⊢
   rw[←ho (x:= .tmp t) (by simp[cP]), ←ho (x:=y) (by simp[cP]), ←ho (x:=z) (by simp[cP])]
   exact h
  |_=>simp[quiet]at h
 |box e x=>simp only[quiet]at h ⊢;rw[←ho (by simp[cP])];exact h
 |alloc t=>exact h
 |load t x=>
  have hm:x∈(Op.load t x).operands.toList:=by simp[cP]
  simp only[quiet]at h ⊢
  rw[←ho hm]
  split at h
  ·rename_i n off hx
   try rw[hx]
   try dsimp only
   split at h
   ·rename_i c2 qS
    rw[rn hm hx rfl qS]
    exact h
   ·cases h
  ·rename_i hx
   try rw[hx]
   exact h
  ·rename_i hx
   try rw[hx]
   exact h
  ·rename_i n i off hx
   try rw[hx]
   try dsimp only
   split at h
   ·rename_i c2 qS
    rw[rn hm hx rfl qS]
    exact h
   ·cases h
  ·cases h
 |binOp op t x y t'=>
  simp only[quiet]at h ⊢
  rw[←ho (x:=x) (by simp[cP]), ←ho (x:=y) (by simp[cP])]
  exact h
 |unOp op t x=>
  cases op with
  |not=>simp only[quiet]at h ⊢;rw[←ho (by simp[cP])];exact h
  |neg=>simp only[quiet]at h ⊢;rw[←ho (by simp[cP])];exact h
  |_=>simp[quiet]at h
 |convert s t x=>
  simp only[quiet]at h ⊢
  rw[←ho (x:=x) (by simp[cP])]
  split at h
  ·rename_i ik n k1 k2 hx hk1 hk2
   try rw[hx,hk1,hk2]
   exact h
  ·rename_i v g' e hx hk1 hk2
   try rw[hx,hk1,hk2]
   try dsimp only
   split at h
   ·rename_i l Zj hl
    rw[Zj,OY c (show RA w T.hp env v _ from hr (x:=x) (by simp[cP]) hx) hl]
    exact h
   ·cases h
  ·cases h
 |slice t x lo hi mx=>
  cases mx with
  |some mx=>
   cases lo with
   |some _=>simp[quiet]at h
   |none=>
    cases hi with
    |none=>simp[quiet]at h
    |some hi=>
     have hb: ∀(y:Operand),y∈(OZ t x none (some hi) (some mx)).operands.toList→Oy st p 0 (some y)=Oy T p 0 (some y):=fun y hy=>by simp only[Oy];rw[ho hy]
     have hm:x∈(OZ t x none (some hi) (some mx)).operands.toList:=by simp[cP]
     simp only[quiet]at h ⊢
     rw[←ho hm, ←hb hi (by simp[cP]), ←hb mx (by simp[cP])]
     split at h
     case h_2=>cases h
     rename_i hk
     try rw[hk]
     try dsimp only
     split at h
     case h_2=>cases h
     rename_i n n1 n2 hx h1 h2
     try rw[hx,h1,h2]
     try dsimp only
     split at h
     case h_2=>cases h
     rename_i t' l hl
     rw[rn hm hx rfl hl]
     exact h
  |none=>
   have hb: ∀(b:Option Operand),(∀y,b=some y→y∈(OZ t x lo hi none).operands.toList)→ ∀z,Oy st p z b=Oy T p z b:=by
    intro b hm z
    cases b with
    |none=>rfl
    |some y=>simp only[Oy];rw[ho (hm y rfl)]
   have hm:x∈(OZ t x lo hi none).operands.toList:=by simp[cP]
   simp only[quiet]at h ⊢
   rw[←ho hm, ←hb lo (by rintro y rfl;simp[cP])]
   simp only[←hb hi (by rintro y rfl;simp[cP])]
   cases hkey:(look cr (d+600000)).isSome with
   |true=>simp only[hkey]at h ⊢;exact h
   |false=>
    simp only[hkey]at h ⊢
    split at h
    ·split at h
     ·rename_i hx hlo
      try rw[hx,hlo]
      exact h
     ·rename_i hx hlo
      try rw[hx,hlo]
      exact h
     ·rename_i hx hlo
      try rw[hx,hlo]
      try dsimp only
      split at h
      ·rename_i qS
       rw[rn hm hx rfl qS]
       exact h
      ·cases h
     ·rename_i hx hlo
      try rw[hx,hlo]
      exact h
     ·cases h
    ·exact h
    ·cases h
 |makeFunc fn first captured=>
  cases fn with
  |func f=>
   simp only[quiet]at h ⊢
   split at h
   ·rename_i x hf hc
    try rw[hf,hc]
    try dsimp only
    have hm:x∈(Op.makeFunc (.func f) first captured).operands.toList:=by simp only[cP,Db,hf,hc];simp
    have e:=ho (q:=p) hm
    rw[←e]
    exact h
   ·cases h
  |_=>simp[quiet]at h
 |fieldAddr t x f=>
  simp only[quiet]at h ⊢
  rw[←ho (x:=x) (by simp[cP])]
  exact h
 |indexAddr t x i=>
  have hm:x∈(Op.indexAddr t x i).operands.toList:=by simp[cP]
  simp only[quiet]at h ⊢
  rw[←ho hm, ←ho (x:=i) (by simp[cP])]
  split at h
  ·split at h
   ·rename_i hx hi
    try rw[hx,hi]
    exact h
   ·rename_i hx hi
    try rw[hx,hi]
    try dsimp only
    split at h
    ·rename_i qS
     rw[rn hm hx rfl qS]
     exact h
    ·cases h
   ·rename_i hx hi
    try rw[hx,hi]
    exact h
   ·cases h
  ·cases h
 |extract x i=>
  cases x with
  |tmp t=>simp only[quiet]at h ⊢;rw[←hs (.tmp t) (by simp[cP]) t rfl];exact h
  |_=>simp[quiet]at h
 |call cl=>
  obtain⟨callee,xs,ts⟩:=cl
  have hop: ∀x,x∈xs.toList→x∈(Op.call ⟨callee,xs,ts⟩).operands.toList:=by
   intro x hx
   simp only[cP,Call.operands,Db]
   exact aS _ hx
  cases callee with
  |value x=>
   cases x with
   |func f=>
    simp only[quiet]at h ⊢
    split at h
    ·rename_i as c1 h1 h2
     rw[Gt c g hp (fun x hx=>hs x (hop x hx)) h1,h2]
     exact h
    ·cases h
   |tmp y=>
    simp only[quiet]at h ⊢
    rw[←ho (x:= .tmp y) (by simp[cP,Call.operands])]
    split at h
    ·rename_i v hv
     try rw[hv]
     try dsimp only
     split at h
     ·rename_i f hf
      try rw[hf]
      try dsimp only
      split at h
      ·rename_i as c1 h1 h2
       rw[Gt c g hp (fun x hx=>hs x (hop x hx)) h1,h2]
       exact h
      ·cases h
     ·cases h
    ·cases h
   |_=>simp[quiet]at h
  |builtin b=>
   cases b with
   |len=>
    simp only[quiet]at h ⊢
    split at h
    ·rename_i x t hxl htl
     have hm:x∈xs.toList:=by rw[hxl];simp
     try rw[hxl,htl]
     try dsimp only
     rw[←ho (hop x hm)]
     split at h
     ·rename_i v hv
      try rw[hv]
      try dsimp only
      split at h
      ·rename_i n hn
       rw[U9 c (show RA w T.hp env v _ from hr (hop x hm) hv) hn]
       exact h
      ·cases h
     ·cases h
    ·cases h
   |append=>
    simp only[quiet]at h ⊢
    split at h
    case h_2=>cases h
    rename_i x y t1 t2 hkey hxl htl
    try rw[hkey,hxl,htl]
    try dsimp only
    have QD:x∈xs.toList:=by rw[hxl];simp
    have hmy:y∈xs.toList:=by rw[hxl];simp
    rw[←ho (hop x QD), ←ho (hop y hmy)]
    exact h
   |max=>simp only[quiet]at h ⊢;rw[←Da (st:=st) (T:=T) (xs:=xs.toList) (fun x hx=>ho (hop x hx))];exact h
   |min=>simp only[quiet]at h ⊢;rw[←Da (st:=st) (T:=T) (xs:=xs.toList) (fun x hx=>ho (hop x hx))];exact h
   |_=>simp[quiet]at h
  |invoke _ _=>simp[quiet]at h
 |_=>simp[quiet]at h
theorem Zx{p:List (Nat×Bool)}(hs: ∀e,e∈p→look st.sl e.1=look T.sl e.1):hyps st p=hyps T p:=by
 induction p with
 |nil=>rfl
 |cons e r ih=>
  obtain⟨d,x⟩:=e
  simp only[hyps]
  rw[hs (d,x) (by simp),ih fun e he=>hs e (by simp[he])]
theorem Va{Γ:Nat→TK}{E:Tag→Nat→Prop}{S:FuncId→List S1→List S1→Prop}(c:Compat st.hp T.hp)(g:Good ty zb T a.tmps w env)(hn:T.n=st.n){gq:List (Nat×Nat)}{cr:List (Nat×CR)}{ops:List Oper}{o:Oper}{p:List (Nat×Bool)}(qt:mW st ops o=some p)(Ai:mW T ops o=some p)(hp:holds a.tmps p)
  (hs: ∀x,x∈o.op.operands.toList→ ∀t,x= .tmp t→look st.sl t=look T.sl t)(hps: ∀e,e∈p→look st.sl e.1=look T.sl e.1){vc:List Prop}{v:SV}{os:Hp}(hf:fresh T.hp os=true)(h:vU Γ E S gq cr ops st o=some (vc,v,os)):
  vU Γ E S gq cr ops T o=some (vc,v,os):=by
 have hd:D4 T o.dst=D4 st o.dst:=by unfold D4;rw[hn]
 simp only[vU]at h ⊢
 rw[hd,Ai]
 rw[qt]at h
 split at h
 ·rename_i m e1 e2 e3
  simp only[oI]at e3
  subst e3
  try rw[e1,e2]
  try dsimp only
  split at h
  ·rename_i vX v1 os1 hq
   rw[quiet_mono c g hp hs hq]
   try dsimp only
   split at h
   ·rename_i h1 h2
    simp only[oI,pI]at h
    obtain⟨rfl,rfl,rfl⟩:=h
    simp only[hf,h2]
   ·cases h
  ·cases h
 ·rename_i m e p' e1 e2 e3
  simp only[oI]at e3
  subst e3
  try rw[e1,e2]
  try dsimp only
  split at h
  ·rename_i h1
   try rw[h1]
   try dsimp only
   split at h
   ·rename_i vX v1 hq
    rw[quiet_mono c g hp hs hq]
    try dsimp only
    rw[←Zx hps]
    exact h
   ·cases h
  ·cases h
 ·cases h
end
end
section
variable{ty:Tag→Nat}
def jr(Cc:Nat→Bool)(tr:List TE)(s:St):Nat→St
 |0=>s
 |i+1=>match Cc i,tr[i]? with
  |true,some e=>app (jr Cc tr s i) e
  |_,_=>jr Cc tr s i
abbrev pre(tr:List TE)(s:St)(i:Nat):St:=jr (fun _=>true) tr s i
structure Trace(Γ:Nat→TK)(E:Tag→Nat→Prop)(S:FuncId→List S1→List S1→Prop)(gq:List (Nat×Nat))(cr:List (Nat×CR))(ops:List Oper)(m:Nat)(s:St)(tr:List TE)(vcs:List Prop):Prop where
 len:tr.length=m
 one: ∀i,i<m→ ∃o e vc,ops[i]? =some o∧tr[i]? =some e∧o.dst=some e.d∧((pre tr s i).sl.any fun x=>x.2.mentions e.d)=false∧vU Γ E S gq cr ops (pre tr s i) o=some (vc,e.v,e.os)∧ ∀q,q∈vc→q∈vcs
theorem KF(Cc:Nat→Bool)(e:TE)(tr:List TE)(s:St)(h:Cc 0=true): ∀i,jr Cc (e::tr) s (i+1)=jr (fun j=>Cc (j+1)) tr (app s e) i
 |0=>by simp[jr,h]
 |i+1=>by
  rw[jr,KF Cc e tr s h i,jr]
  simp only[kN]
section
variable{Cc inE:Nat→Bool}{tr:List TE}{s:St}
theorem Aj{i:Nat}{e:TE}(h:Cc i=true)(he:tr[i]? =some e):jr Cc tr s (i+1)=app (jr Cc tr s i) e:=by rw[jr,h,he]
theorem O1{i:Nat}(h:Cc i=false):jr Cc tr s (i+1)=jr Cc tr s i:=by rw[jr,h]
theorem Ie: ∀i,(jr Cc tr s i).n=s.n
 |0=>rfl
 |i+1=>by
  rw[jr]
  split
  ·exact Ie i
  ·exact Ie i
theorem rz: ∀{i j:Nat} {e:TE},j<i→Cc j=true→tr[j]? =some e→(∀j' e',j'<i→Cc j'=true→tr[j']? =some e'→e'.d=e.d→j'=j)→look (jr Cc tr s i).sl e.d=some e.v
 |i+1,j,e,hj,hin,he,hd=>by
  by_cases hij:j=i
  ·subst hij
   rw[Aj hin he];exact look_eq
  ·have ih:=rz (i:=i) (j:=j) (by omega) hin he (fun j' e' h1 h2 h3 h4=>hd j' e' (by omega) h2 h3 h4)
   rw[jr]
   split
   ·rename_i e' h1 h2
    have hne:e.d≠e'.d:=fun hh=>by
     have:=hd i e' (by omega) h1 h2 hh.symm
     omega
    show look ((e'.d,e'.v)::_) e.d=_
    rw[cF hne];exact ih
   ·exact ih
theorem v7: ∀{i:Nat} {t:Nat},(∀j e,j<i→Cc j=true→tr[j]? =some e→e.d≠t)→look (jr Cc tr s i).sl t=look s.sl t
 |0,_,_=>rfl
 |i+1,t,h=>by
  have ih:=v7 (i:=i) (t:=t) fun j e h1 h2 h3=>h j e (by omega) h2 h3
  rw[jr]
  split
  ·rename_i e' h1 h2
   have hne:t≠e'.d:=fun hh=>h i e' (by omega) h1 h2 hh.symm
   show look ((e'.d,e'.v)::_) t=_
   rw[cF hne];exact ih
  ·exact ih
theorem O2: ∀{i:Nat} {x:Nat×SV},x∈(jr Cc tr s i).sl→x∈s.sl∨ ∃j e,j<i∧Cc j=true∧tr[j]? =some e∧x=(e.d,e.v)
 |0,_,h=>bY h
 |i+1,x,h=>by
  rw[jr]at h
  split at h
  ·rename_i e' h1 h2
   rcases bu.1 (show x∈(e'.d,e'.v)::(jr Cc tr s i).sl from h)with rfl|h
   ·exact bB ⟨i,e',by omega,h1,h2,rfl⟩
   ·rcases O2 h with h| ⟨j,e,a,b⟩
    ·exact bY h
    ·exact bB ⟨j,e,by omega,b⟩
  ·rcases O2 h with h| ⟨j,e,a,b⟩
   ·exact bY h
   ·exact bB ⟨j,e,by omega,b⟩
def acu(tr:List TE)(s:St)(m:Nat):Prop:= ∀i e,i<m→tr[i]? =some e→ ∀n o,look e.os n=some o→look (pre tr s i).hp n=none
theorem rA: ∀{i:Nat} {n:Nat} {o:Obj},look (jr Cc tr s i).hp n=some o→look s.hp n=some o∨ ∃j e,j<i∧Cc j=true∧tr[j]? =some e∧look e.os n=some o
 |0,_,_,h=>bY h
 |i+1,n,o,h=>by
  rw[jr]at h
  split at h
  ·rename_i e' h1 h2
   have h:look (e'.os++(jr Cc tr s i).hp) n=some o:=h
   cases hq:look e'.os n with
   |none=>
    rw[cV hq]at h
    rcases rA h with h| ⟨j,e,a,b⟩
    ·exact bY h
    ·exact bB ⟨j,e,by omega,b⟩
   |some o'=>
    rw[eX hq]at h
    exact bB ⟨i,e',by omega,h1,h2,by rw[hq];exact h⟩
  ·rcases rA h with h| ⟨j,e,a,b⟩
   ·exact bY h
   ·exact bB ⟨j,e,by omega,b⟩
end
theorem RJ{hp:Hp}: ∀{os:Hp},(∀n o,look os n=some o→look hp n=none∧p9 n=false)→fresh hp os=true
 | [],_=>rfl
 | (n,x)::r,h=>by
   simp only[fresh,az]
   obtain⟨h1,h2⟩:=h n x look_eq
   refine⟨⟨by rw[h1],by rw[h2];rfl⟩,RJ fun k o hk=> ?_⟩
   by_cases hkn:k=n
   ·subst hkn;exact h k x look_eq
   ·exact h k o (by rw[cF hkn];exact hk)
theorem Good.congr{zb:eM}{st st':St}{tmps:Array Value}{w:World}{env:Env}(g:Good ty zb st tmps w env)(hs: ∀s v,look st'.sl s=some v→look st.sl s=some v)(hh: ∀n,look st'.hp n=look st.hp n):Good ty zb st' tmps w env:=by
 have s:Step (fun _=>True) (fun _=>True) w st.hp env w st'.hp env:=by
  refine⟨fun _ _ _=>rfl,?_,?_,?_⟩
  ·rintro b _ ⟨n,o,h1,h2⟩;exact⟨n,o,by rw[←hh];exact h1,h2⟩
  ·intro n o _ h1
   exact⟨o,by rw[hh];exact h1,by cases o<;>simp[Obj.like],rfl⟩
  ·intro n t l _ h1
   exact⟨by rw[hh];exact h1,rfl,fun _ _=>rfl⟩
 refine⟨fun n o hl=> ?_,fun n m o o' hne h1 h2=>g.qn n m o o' hne (by rw[←hh];exact h1) (by rw[←hh];exact h2),fun t v hl=>xu.step s (fun v _=>v.jq) (g.slot t v (hs t v hl)),fun n o hl=>g.dom n o (by rw[←hh];exact hl),g.pins⟩
 exact(g.obj n o (by rw[←hh];exact hl)).step s o.jq (fun _ _=>rfl)
end
section
variable{ty:Tag→Nat}
theorem O3{α:Type}: ∀{l:List α} {k i:Nat} {x:α},l[i]? =some x→(k+i,x)∈idx k l
 |y::r,k,0,x,h=>by simp at h;simp[idx,h]
 |y::r,k,i+1,x,h=>by
  have:=O3 (l:=r) (k:=k+1) (i:=i) (by simpa using h)
  rw[idx];right
  rw[show k+(i+1)=k+1+i by omega];exact this
structure Chk(ops:List Oper)(m:Nat):Prop where
 le:m≤ops.length
 back: ∀i o,ops[i]? =some o→ ∀j,j∈eH o→j<i
 uses: ∀i o,i<m→ops[i]? =some o→ ∀t,t∈tmpsOf o→ ∀k o',k<m→ops[k]? =some o'→o'.dst=some t→k=i∨k∈eH o∨(i<k∧((OX ops).getD k 0).testBit i=true)
 guard: ∀i o j x,i<m→ops[i]? =some o→o.guard=some (j,x)→j<i∧j<m∧j∈eH o
 dist: ∀i o k o' d,i<m→k<m→ops[i]? =some o→ops[k]? =some o'→o.dst=some d→o'.dst=some d→k=i
 tail: ∀i o,m≤i→ops[i]? =some o→ ∀j,j<i→((OX ops).getD i 0).testBit j=true
theorem W1: ∀(l:List Oper) (acc:List Nat),(∀j,j<acc.length→(l.foldl mM acc).getD j 0=acc.getD j 0)∧
  ∀i o,l[i]? =some o→(∀j,j∈eH o→j<acc.length+i)→(l.foldl mM acc).getD (acc.length+i) 0=(eH o).foldl (fun s j=>s|||2^j||| (l.foldl mM acc).getD j 0) 0
 | [],acc=>⟨fun _ _=>rfl,fun i o h=>by simp at h⟩
 |o::r,acc=>by
  obtain⟨h1,h2⟩:=W1 r (mM acc o)
  have hl:(mM acc o).length=acc.length+1:=by simp[mM]
  have ha: ∀j,j<acc.length→((o::r).foldl mM acc).getD j 0=acc.getD j 0:=by
   intro j hj
   rw[gV,h1 j (by omega)]
   simp only[mM,aA]
   rw[List.getElem?_append_left hj]
  refine⟨ha,fun i o' ho hj=> ?_⟩
  cases i with
  |zero=>
   simp at ho
   subst ho
   rw[jL,gV,h1 _ (by omega)]
   have:(mM acc o).getD acc.length 0=(eH o).foldl (fun s j=>s|||2^j|||acc.getD j 0) 0:=by
    simp[mM,aA]
   rw[this]
   have aoj: ∀(es:List Nat) (s0:Nat),(∀j,j∈es→j<acc.length)→es.foldl (fun s j=>s|||2^j|||acc.getD j 0) s0=es.foldl (fun s j=>s|||2^j||| (r.foldl mM (mM acc o)).getD j 0) s0:=by
    intro es
    induction es with
    |nil=>intros;rfl
    |cons j es ih=>
     intro s0 hh
     rw[gV,gV,ih _ fun k hk=>hh k (by simp[hk])]
     have:=ha j (hh j (by simp))
     rw[gV]at this
     rw[this]
   exact aoj _ _ fun j hjj=>by simpa using hj j hjj
  |succ i=>
   have:=h2 i o' (by simpa using ho) (fun j hjj=>by rw[hl];have:=hj j hjj;omega)
   rw[hl,show acc.length+1+i=acc.length+(i+1)by omega]at this
   rw[gV];exact this
theorem KG(g:Nat→Nat)(k:Nat): ∀(es:List Nat) (s0:Nat),(es.foldl (fun s j=>s|||2^j|||g j) s0).testBit k=true→s0.testBit k=true∨ ∃j,j∈es∧(k=j∨(g j).testBit k=true)
 | [],s0,h=>bY h
 |j::es,s0,h=>by
  rcases KG g k es _ h with h| ⟨i,hi,h⟩
  ·rw[qT,qT,n8]at h
   simp only[dZ,decide_eq_true_eq]at h
   rcases h with(h|h)|h
   ·exact bY h
   ·exact bB ⟨j,by simp,bY h.symm⟩
   ·exact bB ⟨j,by simp,bB h⟩
  ·exact bB ⟨i,by simp[hi],h⟩
theorem KH{ops:List Oper}(hb: ∀i o,ops[i]? =some o→ ∀j,j∈eH o→j<i){D:Nat→Prop}(hD: ∀i o,D i→ops[i]? =some o→ ∀j,j∈eH o→D j): ∀(i:Nat) (o:Oper),ops[i]? =some o→(∀j,j∈eH o→D j)→ ∀k,((OX ops).getD i 0).testBit k=true→D k:=by
 intro i
 induction i using j9 with
 |_ i ih=>
  intro o ho he k hk
  have:=(W1 ops []).2 i o ho (fun j hj=>by simpa using hb i o ho j hj)
  simp only[c8,fL]at this
  have hc:(OX ops).getD i 0=(eH o).foldl (fun s j=>s|||2^j||| (OX ops).getD j 0) 0:=this
  rw[hc]at hk
  rcases KG _ k _ _ hk with h| ⟨j,hj,h⟩
  ·simp at h
  ·rcases h with rfl|h
   ·exact he k hj
   ·have hji:=hb i o ho j hj
    have hlen:j<ops.length:=by have:=(aV.1 ho).1;omega
    exact ih j hji ops[j] (aC hlen) (hD j _ (he j hj) (aC hlen)) k h
section
variable{P:Program}{Γ:Nat→TK}{gq:List (Nat×Nat)}{cr:List (Nat×CR)}{ops:List Oper}{m:Nat}{s:St}{tr:List TE}{vcs:List Prop}
theorem qv{E:Tag→Nat→Prop}{S:FuncId→List S1→List S1→Prop}{st:St}{o:Oper}{vc:List Prop}{v:SV}{os:Hp}(h:vU Γ E S gq cr ops st o=some (vc,v,os)):
  ∃p,mW st ops o=some p∧(p= []→ ∀q x,v≠ .cond q x)∧(p≠ []→(∃x,v= .cond p x)∧os= []∧ ∀d,o.dst=some d→ ∀e,e∈p→e.1≠d)∧(∀n x,look os n=some x→look st.hp n=none∧p9 n=false):=by
 unfold vU at h
 split at h
 ·rename_i nm _ _ hg
  split at h
  ·rename_i vX v1 os1 hq
   split at h
   ·rename_i hf _
    simp only[oI,pI]at h
    obtain⟨_,rfl,rfl⟩:=h
    refine⟨[],hg,fun _ q x=> ?_,fun hh=>absurd rfl hh,fun n x hl=>⟨th hf n x hl,Gf hf n x hl⟩⟩
    rintro rfl
    unfold quiet mvt at hq
    repeat' split at hq
    all_goals first
     | (cases hq;done)
     | (simp only[iw,oI,Out.mk.injEq]at hq;cases hq.2.1;done)
     | (simp only[oI,Out.mk.injEq]at hq;cases hq.2.1;done)
     | (simp only[oI]at hq;unfold outs at hq;(repeat' split at hq)<;>(simp only[Out.mk.injEq]at hq;cases hq.2.1))
   ·cases h
  ·cases h
 ·rename_i nm e p _ _ hg
  split at h
  ·rename_i aok
   split at h
   ·rename_i vX v1 hq
    simp only[oI,pI]at h
    obtain⟨_,rfl,rfl⟩:=h
    refine⟨e::p,hg,(fun hh=>by cases hh),fun _=>⟨⟨_,rfl⟩,rfl,fun d hd x hx hxd=> ?_⟩,fun n x hl=>by simp[look]at hl⟩
    rw[ct]at aok
    exact aok x hx (by rw[hd,hxd];simp)
   ·cases h
  ·cases h
 ·cases h
theorem Trace.fresh{E:Tag→Nat→Prop}{S:FuncId→List S1→List S1→Prop}(T:Trace Γ E S gq cr ops m s tr vcs):acu tr s m:=by
 intro i e hi he n x hl
 obtain⟨o,e',vc,_,he',_,_,hq,_⟩:=T.one i hi
 rw[he]at he'
 simp only[oI]at he'
 subst he'
 obtain⟨p,_,_,_,hf⟩:=qv hq
 exact(hf n x hl).1
theorem Trace.path{E:Tag→Nat→Prop}{S:FuncId→List S1→List S1→Prop}(T:Trace Γ E S gq cr ops m s tr vcs)(K:Chk ops m): ∀(i:Nat),i<m→ ∀o p,ops[i]? =some o→mW (pre tr s i) ops o=some p→ ∀e,e∈p→
  ∃k o',k<i∧ops[k]? =some o'∧o'.dst=some e.1∧ ∀D:Nat→Prop,(∀i o,D i→ops[i]? =some o→ ∀j,j∈eH o→D j)→(∀j,j∈eH o→D j)→D k:=by
 intro i
 induction i using j9 with
 |_ i ih=>
  intro hi o p ho hg e he
  unfold mW at hg
  split at hg
  ·simp at hg;subst hg;simp at he
  ·rename_i j x hgd
   obtain⟨hji,hjm,hje⟩:=K.guard i o j x hi ho hgd
   obtain⟨q,ej,vcj,hq,hej,hdj,_,hqc,_⟩:=T.one j hjm
   rw[hq]at hg
   dsimp only at hg
   rw[hdj]at hg
   dsimp only at hg
   have En:look (pre tr s i).sl ej.d=some ej.v:=by
    refine rz hji rfl hej fun j' e' h1 _ h3 h4=> ?_
    obtain⟨q',e2,_,hq',Mq,hd2,_⟩:=T.one j' (by omega)
    rw[h3]at Mq
    simp only[oI]at Mq
    subst Mq
    exact K.dist j q j' q' ej.d hjm (by omega) hq hq' hdj (by rw[hd2,h4])
   rw[En]at hg
   obtain⟨pj,hgj,kO,iW,_⟩:=qv hqc
   have base: ∃k o',k<i∧ops[k]? =some o'∧o'.dst=some ej.d∧ ∀D:Nat→Prop,(∀i o,D i→ops[i]? =some o→ ∀j,j∈eH o→D j)→(∀j,j∈eH o→D j)→D k:=
    ⟨j,q,hji,hq,hdj,fun D _ hE=>hE j hje⟩
   split at hg
   ·simp only[oI]at hg
    subst hg
    simp only[aZ]at he
    subst he
    exact base
   ·rename_i p' b hv
    simp only[oI]at hv
    simp only[oI]at hg
    subst hg
    rcases bu.1 he with rfl|he
    ·exact base
    ·have hpj:pj=p':=by
      by_cases hnil:pj= []
      ·exact absurd hv (kO hnil _ _)
      ·obtain⟨x',hx'⟩:=(iW hnil).1
       rw[hx']at hv
       simp only[SV.cond.injEq]at hv
       exact hv.1
     subst hpj
     obtain⟨k,o',h1,h2,h3,h4⟩:=ih j hji hjm q pj hq hgj e he
     exact⟨k,o',by omega,h2,h3,fun D hD hE=>h4 D hD (hD j q (hE j hje) hq)⟩
   ·cases hg
end
end
section
variable{ty:Tag→Nat}
theorem Gw{ops:List Oper}{listed:Array Bool}(hl:listed.size=ops.length){i:Nat}:i∈uN .any ops.toArray listed↔ ∃o,ops[i]? =some o∧listed.getD i false=false∧ ∀j,j∈eH o→listed.getD j false=true:=by
 unfold uN
 rw[tD,eg]
 simp only[List.size_toArray,rq,az,bX]
 constructor
 ·rintro⟨hi,h1,h2⟩
  refine⟨ops[i],aC hi,?_,?_⟩
  ·have:listed[i]? =some listed[i]:=by simp[hl,hi]
   rw[ak,this]at h1 ⊢
   exact h1
  ·intro j hj
   simp only[eH,uO,mX]at hj
   obtain⟨e,he,hj⟩:=hj
   split at hj
   ·rename_i hb
    simp only[oI]at hj
    subst hj
    rw[aC hi]at h2
    simp only[dP,nN]at h2
    have:=qa.1 h2 e he
    simpa[hb]using this
   ·cases hj
 ·rintro⟨o,ho,h1,h2⟩
  have hi:=(aV.1 ho).1
  refine⟨hi,?_,?_⟩
  ·have:listed[i]? =some listed[i]:=by simp[hl,hi]
   rw[ak,this]at h1 ⊢
   exact h1
  ·rw[ho]
   simp only[dP,nN]
   rw[qa]
   intro e he
   cases hb:RG .any e with
   |false=>simp
   |true=>
    have:=h2 e.on (by
     simp only[eH,uO,mX]
     exact⟨e,he,by simp[hb]⟩)
    simp[this]
theorem RL{listed:Array Bool}{i j:Nat}(hi:i<listed.size):(listed.setIfInBounds i true).getD j false=(listed.getD j false||j==i):=by
 rw[ak,ak]
 by_cases hij:i=j
 ·subst hij
  rw[iN hi];simp
 ·rw[gd hij]
  simp[show¬j=i from fun h=>hij h.symm]
def cnt(n:Nat)(D:Nat→Bool):Nat:=((bT n).filter fun i=> !D i).length
theorem filter_lt{p q:Nat→Bool}: ∀{l:List Nat},(∀x,x∈l→q x=true→p x=true)→(∃x,x∈l∧p x=true∧q x=false)→(l.filter q).length<(l.filter p).length
 |y::r,h,⟨x,hx,hp,hq⟩=>by
  have le: ∀{l:List Nat},(∀x,x∈l→q x=true→p x=true)→(l.filter q).length≤(l.filter p).length:=by
   intro l
   induction l with
   |nil=>intro _;simp
   |cons z l ih=>
    intro hh
    have:=ih fun x hx=>hh x (by simp[hx])
    cases hz:q z with
    |true=>rw[dV hz,dV (hh z (by simp) hz)];simp;exact this
    |false=>
     rw[eG (by simp[hz])]
     cases hz2:p z with
     |true=>rw[dV hz2];simp;omega
     |false=>rw[eG (by simp[hz2])];exact this
  rcases bu.1 hx with rfl|hx
  ·rw[eG (by simp[hq]),dV hp]
   have:=le (l:=r) fun x hx=>h x (by simp[hx])
   simp;omega
  ·have ih:=filter_lt (l:=r) (fun x hx=>h x (by simp[hx])) ⟨x,hx,hp,hq⟩
   cases hy:q y with
   |true=>rw[dV hy,dV (h y (by simp) hy)];simp;exact ih
   |false=>
    rw[eG (by simp[hy])]
    cases hy2:p y with
    |true=>rw[dV hy2];simp;omega
    |false=>rw[eG (by simp[hy2])];exact ih
theorem ag5{n i:Nat}{D:Nat→Bool}(hi:i<n)(hD:D i=false):cnt n (fun j=>D j||j==i)<cnt n D:=by
 refine filter_lt ?_ ⟨i,eg.2 hi,by simp[hD],by simp⟩
 intro x _ h
 simp only[bX,jX]at h
 simp[h.1]
theorem acv{n:Nat}{D:Nat→Bool}(h:cnt n D=0): ∀i,i<n→D i=true:=by
 intro i hi
 have:=List.eq_nil_of_length_eq_zero h
 cases hd:D i with
 |true=>rfl
 |false=>
  have:i∈(bT n).filter fun i=> !D i:=tD.2 ⟨eg.2 hi,by simp[hd]⟩
  simp_all
section
variable{P:Program}{Γ:Nat→TK}{gq:List (Nat×Nat)}{cr:List (Nat×CR)}{ops:List Oper}{m:Nat}{s:St}{tr:List TE}{zb:eM}{Q:Exit→Act→World→Prop}
end
section
variable{P:Program}{Γ:Nat→TK}{zb:eM}{Q:Post}{st:St}
end
end
section
variable{ty:Tag→Nat}
def GD(l:List Oper):Option (List Oper×Oper):=match l.reverse with
 | []=>none
 |o::r=>some (r.reverse,o)
theorem Pc{l p:List Oper}{q:Oper}(h:GD l=some (p,q)):l=p++ [q]:=by
 unfold GD at h
 split at h
 ·cases h
 ·rename_i o r he
  simp only[oI,pI]at h
  obtain⟨rfl,rfl⟩:=h
  have:=congrArg List.reverse he
  rw[List.reverse_reverse,List.reverse_cons]at this
  exact this
def Xl(Γ:Nat→TK)(st:St)(o:Oper):Option (Nat×Prop):=match o.guard,o.dst,o.op with
 |none,some d, .binOp .eql t (.tmp s) (.const (.slice none 0 0)) _=>match Γ t,look st.sl s,mJ d st.n with
  | .sl _ _,some (.one (.a (.sl _ l))),true=>some (d,l= [])
  | .sl _ _,some (.one (.a (.vw _ _ _ l))),true=>some (d,l= [])
  | .sl _ _,some (.one (.a (.own n))),true=>match look st.hp n with
    |some (.arr _ l)=>some (d,l= [])
    |_=>none
  |_,_,_=>none
 |_,_,_=>none
def Ny(n:Nat)(st':St)(ks:List Nat):Option St:=match Ia st'.sl ks,Ib st'.hp (WW st'.sl st'.hp ks [])with
 |some sl,some hp=>match xK sl hp with
  |true=>some ⟨n,sl,hp⟩
  |false=>none
 |_,_=>none
def Xm(F5:St)(ks:List Nat)(d:Nat)(b:Bool):Option St:=Ny F5.n (F5.put (some d) (.one (.a (.lit (.bool b))))) ks
def ac2(P:Program)(ty:Tag→Nat)(Γ:Nat→TK)(gq:List (Nat×Nat))(cr:List (Nat×CR))(ks:List Nat)(ops:List Oper)(st:St):Option (List Prop×Prop×St×St):=
 match GD ops with
 |some (pre,o)=>match run P ty Γ gq cr ops pre st []with
  |some (vc,F5)=>match Xl Γ F5 o with
   |some (d,p)=>match Xm F5 ks d true,Xm F5 ks d false with
    |some a,some b=>some (vc,p,a,b)
    |_,_=>none
   |none=>none
  |none=>none
 |none=>none
section
variable{P:Program}{Γ:Nat→TK}{zb:eM}{Q:Post}{st:St}
theorem Jz(C: ∀t,fF P t (Γ t))(Z: ∀t,(∀z tg fo,Γ t≠ .st z tg fo)→Γ t≠ .other→(P.info? t).map (·.size)=some 1){gq:List (Nat×Nat)}{cr:List (Nat×CR)}{ops:List Oper}{Gs:St}{vcs:List Prop}{Q:Exit→Act→World→Prop}{tail:List Oper}
  (hQ: ∀a w,Inv ty zb Gs a w→wpList P ops.toArray Q tail a w): ∀{l:List Oper} {st:St} {acc:List Prop} {a:Act} {w:World},run P ty Γ gq cr ops l st acc=some (vcs,Gs)→(∀q,q∈vcs→q)→Inv ty zb st a w→wpList P ops.toArray Q (l++tail) a w
 | [],st,acc,a,w,h,hv,iv=>by
   simp only[run,oI,pI]at h
   obtain⟨_,rfl⟩:=h
   exact hQ a w iv
 |o::r,st,acc,a,w,h,hv,iv=>by
  obtain⟨vc,F5,h1,h2⟩:=Gr h
  have:=BQ (Q:=Q) C Z h1 iv (fun q hq=>hv q (xI h2 q (aY _ hq)))
  exact this.mono fun a' w' vG=>Jz C Z hQ h2 hv vG
theorem RU{w:World}{t e:Nat}(d:Nat)(hu:P.underlying t=some (.slice e)){oa:Option Addr}{n cap:Nat}:(Gk (d+1) t (.slice oa n cap) (.slice none 0 0)).run P w= .ok oa.isNone w:=by
 cases oa<;>simp[Gk,run_underlying hu]
theorem alN{o:Oper}{a:Act}{w:World}{K:Act→World→Prop}{Q:Exit→Act→World→Prop}{t s e ge:Nat}{ty2:TypeId}(ho:o.op= .binOp .eql t (.tmp s) (.const (.slice none 0 0)) ty2)(hu:P.underlying t=some (.slice e)){oa:Option Addr}{n cap:Nat}(hs:a.tmps.getD s undef= .slice oa n cap)
  (h:K (a.put o.dst (.bool oa.isNone)) w):o.wp P a w K Q:=by
 have hx:a.eval (.tmp s)= .slice oa n cap:=hs
 have hrun:(execOp a.eval o).run P w= .ok (.value (.bool oa.isNone)) w:=by
  have hy:a.eval (.const (.slice none 0 0))= .slice none 0 0:=rfl
  unfold execOp
  simp only[ho,hx,hy]
  have he:(OH t (.slice oa n cap) (.slice none 0 0)).run P w= .ok oa.isNone w:=RU 9999 hu
  have hb:(binOp .eql t (.slice oa n cap) (.slice none 0 0)).run P w= .ok (.bool oa.isNone) w:=by
   show(do pure (.bool (←OH t (.slice oa n cap) (.slice none 0 0))):Sem Value).run P w=_
   simp only[Sem.run_bind,he,Result.andThen_ok,Sem.run_pure]
  have hg:(eqGuard .eql t (.tmp s) (.const (.slice none 0 0)) (.slice oa n cap) (.slice none 0 0)).run P w= .ok () w:=by simp[eqGuard]
  simp only[Sem.run_bind,hg,hb,Result.andThen_ok,Sem.run_pure]
 unfold Oper.wp
 rw[hrun]
 exact h
theorem RW{F5 st':St}{ks:List Nat}{d:Nat}{b:Bool}(h:Xm F5 ks d b=some st'){a:Act}{w:World}(iv:Inv ty zb F5 a w)(hd:mJ d F5.n=true):Inv ty zb st' (a.put (some d) (.bool b)) w:=by
 have iv2:Inv ty zb (F5.put (some d) (.one (.a (.lit (.bool b))))) (a.put (some d) (.bool b)) w:=by
  obtain⟨env,g⟩:=iv.good
  have hlt: ∀d',some d=some d'→d'<a.tmps.size:=by
   intro d' e
   simp only[oI]at e
   subst e
   rw[iv.size]
   exact cj hd
  exact⟨by rw[k9,Af];exact iv.size,by rw[put_defers];exact iv.defers,iv.kept,iv.Jt,env,qZ (dst:=some d) g hlt (u:= .bool b) (show xu w F5.hp env a.tmps (.one (.a (.lit (.bool b)))) (.bool b)from ⟨rfl,rfl⟩) fun d _=>ru ⟨_,rfl⟩⟩
 unfold Xm Ny at h
 split at h
 ·rename_i sl hp h1 h2
  split at h
  ·rename_i hc
   simp only[oI]at h
   subst h
   exact iv2.weaken (by rw[Af]) (nZ h1) (n7 h2) hc
  ·cases h
 ·cases h
theorem RX(X:Ctx P ty Γ)(gq:List (Nat×Nat))(cr:List (Nat×CR))(ks:List Nat){id:Nat}{ops:List Oper}{vc:List Prop}{p:Prop}{sT sF:St}(h:ac2 P ty Γ gq cr ks ops st=some (vc,p,sT,sF))(hv:tF vc)(kT:p→Q .normal sT)(kF:Q .normal sF):
  W P ty zb (.region id ops.toArray false) Q st:=by
 intro a w iv
 unfold ac2 at h
 split at h
 case h_2=>cases h
 rename_i pre o hsp
 split at h
 case h_2=>cases h
 rename_i vX F5 hrun
 split at h
 case h_2=>cases h
 rename_i d p1 hnp
 split at h
 case h_2=>cases h
 rename_i sa sb hT hF
 simp only[oI,pI]at h
 obtain⟨rfl,rfl,rfl,rfl⟩:=h
 refine wp_region_lit ?_
 rw[show wpList P ops.toArray (IV ty zb Q) ops a w=wpList P ops.toArray (IV ty zb Q) (pre++ [o]) a w by rw[←Pc hsp]]
 refine Jz X.kind X.one (fun a w iv=> ?_) hrun hv.out iv
 obtain⟨env,g⟩:=iv.good
 unfold Xl at hnp
 split at hnp
 case h_2=>cases hnp
 rename_i d0 t s ty2 hg hd hop
 have fin: ∀{oa:Option Addr} {n cap:Nat} {e ge:Nat},P.underlying t=some (.slice e)→a.tmps.getD s undef= .slice oa n cap→(oa=none→p1)→d0=d→mJ d0 F5.n=true→wpList P ops.toArray (IV ty zb Q) [o] a w:=by
  intro oa n cap e ge hu hs hn hdd hlt
  subst hdd
  have hk: ∀a' w',(fun a' w'=>a'=a.put (some d0) (.bool oa.isNone)∧w'=w) a' w'→wpList P ops.toArray (IV ty zb Q) [] a' w':=by
   rintro a' w' ⟨rfl,rfl⟩
   refine wpList_nil ?_
   cases oa with
   |none=>exact⟨sa,RW hT iv hlt,kT (hn rfl)⟩
   |some x=>exact⟨sb,RW hF iv hlt,kF⟩
  have hR:lX P ops.toArray o a w (fun a' w'=>a'=a.put (some d0) (.bool oa.isNone)∧w'=w) (IV ty zb Q):=l8 hg (alN (ge:=ge) hop hu hs ⟨by rw[hd],rfl⟩)
  exact hR.mono hk
 split at hnp
 ·rename_i g1 e1 t1 l hk hl hlt
  simp only[oI,pI]at hnp
  have hC:=X.kind t
  rw[hk]at hC
  obtain⟨fp,En,_⟩:=g.slot s _ hl
  obtain⟨oa,cap,hv0,_,_,h3⟩:=En
  refine fin (ge:=0) hC.1 hv0 (fun hn=> ?_) hnp.1 hlt
  rw[←hnp.2]
  rcases h3 with⟨h3,_⟩| ⟨b,off,dN,rfl,_⟩
  ·exact h3
  ·cases hn
 ·rename_i g1 e1 n1 p2 t1 l hk hl hlt
  simp only[oI,pI]at hnp
  have hC:=X.kind t
  rw[hk]at hC
  obtain⟨_,⟨fp,En,_⟩,_⟩:=g.slot s _ hl
  obtain⟨oa,cap,hv0,_,_,h3⟩:=En
  refine fin (ge:=0) hC.1 hv0 (fun hn=> ?_) hnp.1 hlt
  rw[←hnp.2]
  rcases h3 with⟨h3,_⟩| ⟨b,off,dN,rfl,_⟩
  ·exact h3
  ·cases hn
 ·rename_i g1 e1 n1 hk hl hlt
  split at hnp
  ·rename_i t1 l aqO
   simp only[oI,pI]at hnp
   have hC:=X.kind t
   rw[hk]at hC
   obtain⟨_,hu⟩:=g.slot s _ hl
   obtain⟨oa,cap,hv0,_,_,h3⟩:=RO.sl (g.obj n1 _ aqO)
   refine fin (ge:=0) hC.1 (hu.trans hv0) (fun hn=> ?_) hnp.1 hlt
   rw[←hnp.2]
   rcases h3 with⟨h3,_⟩| ⟨b,off,dN,rfl,_⟩
   ·exact h3
   ·cases hn
  ·cases hnp
 ·cases hnp
end
end
section
variable{ty:Tag→Nat}
def V.rev(hp:Hp)(ks ns:List Nat)(m0:Nat):V→V
 | .own n=>match ns.any (bW n)with
   |true=>match look hp n with|some (.arr t l)=> .vw m0 none t l|_=> .any
   |false=>(V.own n).cX ks []
 |v=>v.cX ks []
def S1.rev(hp:Hp)(ks ns:List Nat)(m0:Nat):S1→S1
 | .a v=> .a (v.rev hp ks ns m0)
 | .agg l=> .agg (l.map (V.rev hp ks ns m0))
def SV.rev(hp:Hp)(ks ns:List Nat)(m0:Nat):SV→SV
 | .one x=> .one (x.rev hp ks ns m0)
 | .CI l=> .CI (l.map (S1.rev hp ks ns m0))
 | .cond p x=> .cond p (x.rev hp ks ns m0)
def Obj.rev(hp:Hp)(ks ns:List Nat)(m0:Nat):Obj→Obj
 | .box c=> .box (c.map (V.rev hp ks ns m0))
 | .arr t l=> .arr t l
 | .mI t l s=> .mI t l (s.cX ks [])
def Sc(kO:Hp)(ks ns:List Nat)(m0:Nat)(hp:Hp):Hp:=(hp.filter fun e=> !ks.any (bW e.1)).map fun e=>(e.1,e.2.rev kO ks ns m0)
theorem GP{kO:Hp}{ks ns:List Nat}{m0:Nat}{hp:Hp}{n:Nat}:look (Sc kO ks ns m0 hp) n=if n∈ks then none else(look hp n).map (Obj.rev kO ks ns m0):=by
 unfold Sc
 rw[oW (α:=Obj) (f:=fun e:Nat×Obj=>e.2.rev kO ks ns m0)]
 have h:=ef (ks:=ks) (kv:= []) (hp:=hp) (n:=n)
 unfold eY at h
 rw[oW (α:=Obj) (f:=fun e:Nat×Obj=>e.2.cX ks [])]at h
 by_cases hn:n∈ks
 ·rw[if_pos hn]at h ⊢
  cases hq:look (hp.filter fun e=> !ks.any (bW e.1)) n with
  |none=>rfl
  |some o=>rw[hq]at h;cases h
 ·rw[if_neg hn]at h ⊢
  have:look (hp.filter fun e=> !ks.any (bW e.1)) n=look hp n:=by
   induction hp with
   |nil=>rfl
   |cons e r ih=>
    obtain⟨j,x⟩:=e
    by_cases hj:j∈ks
    ·have hne:n≠j:=by rintro rfl;exact hn hj
     have hb:(ks.any (bW j))=true:=fB.2 ⟨j,hj,by simp⟩
     rw[eG (by simp[hb])]at h ⊢
     rw[cF hne]at h ⊢
     exact ih h
    ·have hb:(ks.any (bW j))=false:=by
      rw[ct]
      intro y hy h2
      exact hj (by rw[aJ h2];exact hy)
     rw[dV (by simp[hb])]at h ⊢
     by_cases hnj:n=j
     ·subst hnj;rw[look_eq,look_eq]
     ·rw[cF hnj]at h ⊢
      rw[cF hnj]at h ⊢
      exact ih h
  rw[this]
section
variable{ks ns:List Nat}{m0:Nat}{w w':World}{hp hp':Hp}{env env':Env}
theorem Vi{ns:List Nat}{n:Nat}(h:ns.any (bW n)=true):n∈ns:=by
 obtain⟨y,hy,h2⟩:=fB.1 h
 rw[aJ h2];exact hy
theorem RA.rev(s:xC ks [] w hp env w' hp' env')(hv: ∀n t l,n∈ns→look hp n=some (.arr t l)→RA w' hp' env' (.vw m0 none t l) (env n).v){v:V}{u:Value}(h:RA w hp env v u):RA w' hp' env' (v.rev hp ks ns m0) u:=by
 cases v with
 |own n=>
  have e:V.rev hp ks ns m0 (.own n)=match ns.any (bW n)with
   |true=>(match look hp n with|some (.arr t l)=> .vw m0 none t l|_=> .any)
   |false=>(V.own n).cX ks []:=rfl
  rw[e]
  cases hn:ns.any (bW n)with
  |true=>
   obtain⟨⟨t,l,hl⟩,rfl⟩:=h
   rw[hl]
   exact hv n t l (Vi hn) hl
  |false=>exact RA.l9 s h
 |_=>exact RA.l9 s h
theorem jU.rev(s:xC ks [] w hp env w' hp' env')(hv: ∀n t l,n∈ns→look hp n=some (.arr t l)→RA w' hp' env' (.vw m0 none t l) (env n).v){x:S1}{u:Value}(h:jU w hp env x u):jU w' hp' env' (x.rev hp ks ns m0) u:=by
 cases x with
 |a v=>exact RA.rev s hv h
 |agg l=>obtain⟨cs,hu,hl⟩:=h;exact⟨cs,hu,hl.map fun a b hr=>RA.rev s hv hr⟩
theorem xu.rev(s:xC ks [] w hp env w' hp' env')(hv: ∀n t l,n∈ns→look hp n=some (.arr t l)→RA w' hp' env' (.vw m0 none t l) (env n).v){tmps:Array Value}{x:SV}{u:Value}(h:xu w hp env tmps x u):xu w' hp' env' tmps (x.rev hp ks ns m0) u:=by
 cases x with
 |one x=>exact jU.rev s hv h
 |CI l=>obtain⟨us,hu,hl⟩:=h;exact⟨us,hu,hl.map fun a b hr=>jU.rev s hv hr⟩
 |cond p x=>exact⟨fun hh=>jU.rev s hv (h.1 hh),h.2⟩
theorem RO.rev(s:xC ks [] w hp env w' hp' env')(hv: ∀n t l,n∈ns→look hp n=some (.arr t l)→RA w' hp' env' (.vw m0 none t l) (env n).v){n:Nat}{o:Obj}{co:CO}(h:RO ty w hp env n o co)(hk: ∀b,b∈co.fp→w'.heap[b]? =w.heap[b]?):RO ty w' hp' env' n (o.rev hp ks ns m0) co:=by
 cases o with
 |box c=>
  obtain⟨b,cs,e,rfl,hh,hc⟩:=h
  exact⟨b,cs,e,rfl,by rw[hk b (by simp)];exact hh,hc.map fun a u hr=>RA.rev s hv hr⟩
 |arr t l=>exact RO.agree h hk
 |mI t l r=>
  rcases RO.Mo h with⟨rfl,h⟩| ⟨u,rfl,h⟩| ⟨p,rfl,h⟩| ⟨hr,h1,us,hB,h2,h3⟩
  ·exact Q1.agree h hk
  ·exact Q2.step s hk h
  ·exact IL.l9 s hk h
  ·exact RO.Zb (xd.Rh hr) ⟨h1,us,nL.agree D5 hB hk,h2,fun i x u hx hu=>BE.l9 s (h3 i x u hx hu)⟩
end
section
variable{P:Program}{zb:eM}{st:St}{a:Act}{w:World}{env:Env}
theorem ac6(g:Good ty zb st a.tmps w env)(hB:zb.w.heap.size≤w.heap.size){ks ns:List Nat}{d:Nat}(hdp:p9 d=false)(hd:look (eY ks [] st.hp) d=none){v v':Value}{w':World}{t:Tag}{l:List (T t)}{fp fx lH:List Nat}
  (nU: ∀b,b∈fp++fx→ ∃i o,i∈ks∧look st.hp i=some o∧b∈(env i).fp)(Mg: ∀b,v.ownBlock=some b→b∈fp)
  (hB':nL (kk t) (rd t) 0 (ty t) w' v' l lH)(hg:w.grownBy w' v.ownBlock)(hsub: ∀b,b∈lH→b∈fp∨b∈fx∨w.heap.size≤b)
  (hns: ∀n,n∈ns→n∈ks)(hin: ∀n o b,n∈ns→look st.hp n=some o→b∈(env n).fp→b∈lH∧w'.heap[b]? =w.heap[b]?):
  ∃env',Good ty zb ⟨st.n,st.sl.map fun e=>(e.1,e.2.rev st.hp ks ns d),(d, .arr t l)::Sc st.hp ks ns d st.hp⟩ a.tmps w' env'∧(env' d).v=v':=by
 refine⟨fun n=>if n=d then⟨v',lH⟩else env n,?_,by simp⟩
 have hlk: ∀m o,look ((d,Obj.arr t l)::Sc st.hp ks ns d st.hp) m=some o→(m=d∧o= .arr t l)∨(m≠d∧m∉ks∧ ∃o',look st.hp m=some o'∧o=o'.rev st.hp ks ns d):=by
  intro m o hm
  by_cases rU:m=d
  ·subst rU;rw[look_eq]at hm;simp only[oI]at hm;exact bY ⟨rfl,hm.symm⟩
  ·rw[cF rU,GP]at hm
   split at hm
   ·cases hm
   ·rename_i hks
    cases hq:look st.hp m with
    |none=>rw[hq]at hm;cases hm
    |some o'=>rw[hq]at hm;simp only[dP,oI]at hm;exact bB ⟨rU,hks,o',rfl,hm.symm⟩
 have how: ∀b,b∈lH→b<w.heap.size→ ∃i o,i∈ks∧look st.hp i=some o∧b∈(env i).fp:=by
  intro b hb hlt
  rcases hsub b hb with h|h|h
  ·exact nU b (aY _ h)
  ·exact nU b (aS _ h)
  ·omega
 have hnd: ∀m o,m∉ks→look st.hp m=some o→m≠d:=by
  rintro m o hks h1 rfl
  rw[ef,if_neg hks,h1]at hd
  cases hd
 have hst: ∀m o,m∉ks→look st.hp m=some o→ ∀b,b∈(env m).fp→w'.heap[b]? =w.heap[b]? :=by
  intro m o hks h3 b hb
  refine hg.block b ((g.obj m o h3).blk b hb) fun e=> ?_
  obtain⟨i,oi,hi,h5,h6⟩:=nU b (aY _ (Mg b e.symm))
  exact g.qn m i _ _ (fun e=>hks (e▸hi)) h3 h5 b hb h6
 have s:xC ks [] w st.hp env w' ((d, .arr t l)::Sc st.hp ks ns d st.hp) (fun n=>if n=d then⟨v',lH⟩else env n):=by
  refine⟨fun b hb hno=>hg.block b hb fun e=> ?_,?_,?_,?_⟩
  ·obtain⟨i,o',_,h1,h2⟩:=nU b (aY _ (Mg b e.symm))
   exact hno ⟨i,o',h1,h2⟩
  ·rintro b hb ⟨m,o',h1,h2⟩
   rcases hlk m o' h1 with⟨rfl,rfl⟩| ⟨rU,hks,IU,h3,rfl⟩
   ·simp at h2
    obtain⟨i,o',_,h3,h4⟩:=how b h2 hb
    exact⟨i,o',h3,h4⟩
   ·simp[rU]at h2
    exact⟨m,IU,h3,h2⟩
  ·intro m o' hks h1
   have rU:=hnd m o' hks h1
   refine⟨o'.rev st.hp ks ns d,by rw[cF rU,GP,if_neg hks,h1];rfl,by cases o'<;>simp[Obj.like,Obj.rev],by simp[rU]⟩
  ·rintro m t' l' ⟨hks,_⟩ h1
   have rU:=hnd m _ hks h1
   exact⟨by rw[cF rU,GP,if_neg hks,h1];rfl,by simp[rU],hst m _ hks h1⟩
 have hv: ∀n t1 l1,n∈ns→look st.hp n=some (.arr t1 l1)→RA w' ((d, .arr t l)::Sc st.hp ks ns d st.hp) (fun n=>if n=d then⟨v',lH⟩else env n) (.vw d none t1 l1) (env n).v:=by
  intro n t1 l1 hn hl
  have En:=RO.sl (g.obj n _ hl)
  refine⟨⟨_,_,look_eq⟩,⟨_,Sl.agree (iL t1) En fun b hb=>(hin n _ b hn hl hb).2,(RO.own (g.obj n _ hl)).nodup,fun b hb=> ?_⟩,fun _ _ h=>by cases h⟩
  simp only[if_true]
  exact(hin n _ b hn hl hb).1
 have ace:Good ty zb ⟨st.n,st.sl.map fun e=>(e.1,e.2.rev st.hp ks ns d),(d, .arr t l)::Sc st.hp ks ns d st.hp⟩ a.tmps w' (fun n=>if n=d then⟨v',lH⟩else env n):=by
  refine⟨fun m o' hm=> ?_,fun m m' o1 o2 hne h1 h2 b hb hb'=> ?_,fun s1 x hl=> ?_,fun m o' hm b hb=> ?_,fun m hm=> ?_⟩
  ·rcases hlk m o' hm with⟨rfl,rfl⟩| ⟨rU,hks,IU,h3,rfl⟩
   ·simp only[if_true];exact RO.Nb hB'
   ·simp only[if_neg rU]
    exact RO.rev s hv (g.obj m IU h3) (hst m IU hks h3)
  ·rcases hlk m o1 h1 with⟨e1,_⟩| ⟨rU,hks,q1,h3,_⟩<;>rcases hlk m' o2 h2 with⟨e2,_⟩| ⟨OK,abV,q2,h4,_⟩
   ·exact hne (e1.trans e2.symm)
   ·simp only[if_pos e1]at hb
    simp only[if_neg OK]at hb'
    have hlt:=(g.obj m' q2 h4).blk b hb'
    obtain⟨i,oi,hi,h5,h6⟩:=how b hb hlt
    exact g.qn m' i _ _ (fun e=>abV (e▸hi)) h4 h5 b hb' h6
   ·simp only[if_pos e2]at hb'
    simp only[if_neg rU]at hb
    have hlt:=(g.obj m q1 h3).blk b hb
    obtain⟨i,oi,hi,h5,h6⟩:=how b hb' hlt
    exact g.qn m i _ _ (fun e=>hks (e▸hi)) h3 h5 b hb h6
   ·simp only[if_neg rU]at hb
    simp only[if_neg OK]at hb'
    exact g.qn m m' _ _ hne h3 h4 b hb hb'
  ·have hl:look (st.sl.map fun e=>(e.1,e.2.rev st.hp ks ns d)) s1=some x:=hl
   rw[oW (α:=SV) (f:=fun e:Nat×SV=>e.2.rev st.hp ks ns d)]at hl
   cases hq:look st.sl s1 with
   |none=>rw[hq]at hl;cases hl
   |some y=>
    rw[hq]at hl
    simp only[dP,oI]at hl
    subst hl
    exact xu.rev s hv (g.slot s1 y hq)
  ·rcases hlk m o' hm with⟨e1,_⟩| ⟨rU,hks,q1,h3,_⟩
   ·simp only[if_pos e1]at hb
    by_cases hlt:b<w.heap.size
    ·obtain⟨i,oi,hi,h5,h6⟩:=how b hb hlt
     exact g.dom i oi h5 b h6
    ·exact bB (by omega)
   ·simp only[if_neg rU]at hb
    exact g.dom m q1 h3 b hb
  ·have:m≠d:=by rintro rfl;rw[hdp]at hm;cases hm
   simp only[if_neg this]
   exact g.pins m hm
 exact ace
theorem GQ(g:Good ty zb st a.tmps w env): ∀{l c:List V} {k:List Nat} {us:List Value},cW (RA w st.hp env) l us→takes st l=some (c,k)→k.Nodup→
  ∃fp,ep w c us fp∧Own 0 w fp∧(∀b,b∈fp→ ∃i o,i∈k∧look st.hp i=some o∧b∈(env i).fp)∧ ∀i b,i∈k→b∈(env i).fp→b∈fp
 | [],c,k,us,hr,h,_=>by
   simp only[takes,oI,pI]at h
   obtain⟨rfl,rfl⟩:=h
   cases us with
   |nil=>exact⟨[],rfl,Own.nil _ _,by simp,by simp⟩
   |cons _ _=>exact hr.elim
 |v::r,c,k,us,hr,h,hnd=>by
  cases us with
  |nil=>exact hr.elim
  |cons u us=>
   cases v with
   |lit x=>
    simp only[takes]at h
    split at h
    ·rename_i c' k' h'
     simp only[oI,pI]at h
     obtain⟨rfl,rfl⟩:=h
     obtain⟨fp,h1,h2,h3,h4⟩:=GQ g hr.2 h' hnd
     obtain⟨e1,e2⟩:=hr.1
     exact⟨fp,⟨[],fp,⟨e1,e2,rfl⟩,h1,rfl⟩,h2,h3,h4⟩
    ·cases h
   |own n=>
    simp only[takes]at h
    split at h
    ·rename_i t l c' k' hl h'
     simp only[oI,pI]at h
     obtain⟨rfl,rfl⟩:=h
     obtain⟨hn1,hn2⟩:=List.nodup_cons.1 hnd
     obtain⟨fp,h1,h2,h3,h6⟩:=GQ g hr.2 h' hn2
     obtain⟨_,rfl⟩:=hr.1
     have hb:=RO.sl (g.obj n _ hl)
     have ho:=RO.own (g.obj n _ hl)
     refine⟨(env n).fp++fp,⟨_,_,hb,h1,rfl⟩,⟨bK.2 ⟨ho.nodup,h2.nodup,?_⟩,fun b hb=> ?_,fun b hb=> ?_⟩,fun b hb=> ?_,fun i b hi hbi=> ?_⟩
     ·rintro b hb x hx rfl
      obtain⟨i,o,hi,h4,h5⟩:=h3 b hx
      exact g.qn n i _ _ (fun e=>hn1 (e▸hi)) hl h4 b hb h5
     ·rcases bg.1 hb with hb|hb
      ·exact ho.ge b hb
      ·exact h2.ge b hb
     ·rcases bg.1 hb with hb|hb
      ·exact ho.kind b hb
      ·exact h2.kind b hb
     ·rcases bg.1 hb with hb|hb
      ·exact⟨n,_,by simp,hl,hb⟩
      ·obtain⟨i,o,hi,h4,h5⟩:=h3 b hb
       exact⟨i,o,aT _ hi,h4,h5⟩
     ·rcases bu.1 hi with rfl|hi
      ·exact aY _ hbi
      ·exact aS _ (h6 i b hi hbi)
    ·cases h
   |_=>simp[takes]at h
theorem KZ(g:Good ty zb st a.tmps w env){t:Tag}: ∀{ps:List (Nat×Operand)} {i:Nat} {vc:List Prop} {xs:List (T t)} {ks:List Nat},Ku st t i ps=some (vc,xs,ks)→ks.Nodup→(∀q,q∈vc→q)→
  (ps.map fun p=>(p.1,a.eval p.2))=Cb i (ps.map fun p=>a.eval p.2)∧xs.length=ps.length∧ ∃dN:List (List Nat),dN.length=xs.length∧
   (∀(i:Nat) (x:T t) (f:List Nat),xs[i]? =some x→dN[i]? =some f→ ∃p:Nat×Operand,ps[i]? =some p∧rd t w (a.eval p.2).cells.toList x f)∧Own 0 w dN.flatten∧(∀b,b∈dN.flatten→ ∃i o,i∈ks∧look st.hp i=some o∧b∈(env i).fp)∧
   ∀i b,i∈ks→b∈(env i).fp→b∈dN.flatten
 | [],i,vc,xs,ks,h,_,_=>by
   simp only[Ku,oI,pI]at h
   obtain⟨rfl,rfl,rfl⟩:=h
   exact⟨rfl,rfl,[],rfl,by simp,Own.nil _ _,by simp,by simp⟩
 | (j,x)::r,i,vc,xs,ks,h,hnd,hv=>by
   simp only[Ku]at h
   split at h
   ·rename_i s hij hx
    have hij:=aJ hij
    subst hij
    split at h
    ·rename_i c k hc
     split at h
     ·rename_i vX y vcs ys ks1 he hb
      simp only[oI,pI]at h
      obtain⟨rfl,rfl,rfl⟩:=h
      obtain⟨hn1,hn2,hn3⟩:=bK.1 hnd
      obtain⟨q1,q2,dN,q3,q4,q5,q6,q7⟩:=KZ g hb hn2 (fun q hq=>hv q (aS _ hq))
      obtain⟨fp,r1,r2,r3,r4⟩:=GQ g (nW g (jF g (fun e he=>by simp at he) hx) (jO hc)) hc hn1
      have hE:=zS t he (fun q hq=>hv q (aY _ hq)) r1
      refine⟨by simp[Cb,q1],by simp[q2],fp::dN,by simp[q3],?_,⟨?_,?_,?_⟩,?_,?_⟩
      ·intro i' x' f hx' hf
       cases i' with
       |zero=>simp at hx' hf;subst hx';subst hf;exact⟨(i,x),rfl,hE⟩
       |succ n=>simp at hx' hf;obtain⟨p,h1,h2⟩:=q4 n x' f hx' hf;exact⟨p,by simpa using h1,h2⟩
      ·rw[cY]
       refine bK.2 ⟨r2.nodup,q5.nodup,?_⟩
       rintro b hb z hz rfl
       obtain⟨n,o1,h1,h2,h3⟩:=r3 b hb
       obtain⟨m,o2,h4,h5,h6⟩:=q6 b hz
       exact g.qn n m _ _ (fun e=>hn3 n h1 m h4 e) h2 h5 b h3 h6
      ·intro b hb
       rw[cY]at hb
       rcases bg.1 hb with hb|hb
       ·exact r2.ge b hb
       ·exact q5.ge b hb
      ·intro b hb
       rw[cY]at hb
       rcases bg.1 hb with hb|hb
       ·exact r2.kind b hb
       ·exact q5.kind b hb
      ·intro b hb
       rw[cY]at hb
       rcases bg.1 hb with hb|hb
       ·obtain⟨n,o1,h1,h2,h3⟩:=r3 b hb;exact⟨n,o1,aY _ h1,h2,h3⟩
       ·obtain⟨n,o1,h1,h2,h3⟩:=q6 b hb;exact⟨n,o1,aS _ h1,h2,h3⟩
      ·intro n b hn hb
       rw[cY]
       rcases bg.1 hn with hn|hn
       ·exact aY _ (r4 n b hn hb)
       ·exact aS _ (q7 n b hn hb)
     ·cases h
    ·cases h
   ·cases h
end
def alS(d:Nat):Operand→Bool
 | .tmp s=> !Nat.beq s d
 | .const _=>true
 |_=>false
def alT(P:Program)(ty:Tag→Nat)(Γ:Nat→TK)(st:St)(m0:Nat)(o1 o2:Oper):Option (List Prop×St):=
 match o1.guard,o1.dst,o1.op with
 |none,some d1, .buildSlice tb len parts=>match Γ tb with
  | .sl t e=>match bW e (ty t)&&bW parts.toList.length len&&Nat.ble (len*kk t) 16777216,Ku st t 0 parts.toList with
    |true,some (vc,lx,m)=>match o2.guard,o2.dst,o2.op with
     |none,some d2, .call ⟨.builtin .append,xs,ts⟩=>match xs.toList,ts.toList with
      | [s, .tmp d],[t1,t2]=>match bW d d1&&alS d1 s&&bW t1 tb&&bW t2 tb,l7 st [] s with
        |true,some vs=>match OL st t vs with
         |some (l,k)=>match vE m&&Ri k m&& !pinned k&& !p9 m0&&mJ d1 st.n&&mJ d2 st.n,look (eY (vD k m) [] st.hp) m0 with
          |true,none=>some ([El P ty t,(l.length+lx.length)*gR t≤140737488355328∧l.length+lx.length≤maxLen]++vc,
            (St.put ⟨st.n,st.sl.map fun e=>(e.1,e.2.rev st.hp (vD k m) m m0),(m0, .arr t (l++lx))::Sc st.hp (vD k m) m m0 st.hp⟩ (some d1) (.one (.a .any))).put (some d2) (.one (.a (.own m0))))
          |_,_=>none
         |none=>none
        |_,_=>none
      |_,_=>none
     |_,_,_=>none
    |_,_=>none
  |_=>none
 |_,_,_=>none
theorem Vj{w:World}{base:Nat}{e:TypeId}{k g o n cap:Nat}{xs:List Value}(h:lI w base e k (.slice (some ⟨g,o,none⟩) n cap) n xs): ∀j u,xs[j]? =some u→w.cell? ((⟨g,o,none⟩:Addr).add j)=some u:=by
 intro j u hu
 rcases h.2 with⟨h1,_⟩| ⟨g',o',cap',cur,hv,_,hg,_,_,_,HU⟩
 ·cases h1
 ·simp only[Value.slice.injEq,oI,Addr.mk.injEq,and_true,true_and]at hv
  obtain⟨⟨rfl,rfl⟩,rfl⟩:=hv
  rw[Addr.add_mid]
  exact F9 hg j u (by rw[HU];exact hu)
section
variable{P:Program}{zb:eM}{st:St}{a:Act}{w:World}{env:Env}{o:Oper}
theorem ahw{Γ:Nat→TK}(C: ∀t,fF P t (Γ t)){m0:Nat}{o1 o2:Oper}{vc:List Prop}{st':St}(h:alT P ty Γ st m0 o1 o2=some (vc,st'))(hv: ∀q,q∈vc→q)(iv:Inv ty zb st a w)
  {ops:Array Oper}{tail:List Oper}{Q:Exit→Act→World→Prop}(hQ: ∀a w,Inv ty zb st' a w→wpList P ops Q tail a w):wpList P ops Q (o1::o2::tail) a w:=by
 obtain⟨env,g⟩:=iv.good
 have hB:=iv.kept.size
 unfold alT at h
 split at h
 case h_2=>cases h
 rename_i d1 tb len parts hg1 hd1 ho1
 split at h
 case h_2=>cases h
 rename_i t e hk
 split at h
 case h_2=>cases h
 rename_i vX lx m hc1 hb
 split at h
 case h_2=>cases h
 rename_i d2 xs ts hg2 hd2 ho2
 split at h
 case h_2=>cases h
 rename_i s d t1 t2 hxl htl
 split at h
 case h_2=>cases h
 rename_i vs hc2 hs
 split at h
 case h_2=>cases h
 rename_i l k hds
 split at h
 case h_2=>cases h
 rename_i hc3 hlk
 simp only[oI,pI,jC]at h
 rw[jC]at hlk
 obtain⟨rfl,aqQ⟩:=h
 simp only[az,bX]at hc1 hc2 hc3
 obtain⟨⟨he,hlen⟩,hbig⟩:=hc1
 obtain⟨⟨⟨hdd,hoff⟩,ht1⟩,ht2⟩:=hc2
 obtain⟨⟨⟨⟨⟨hnd,hno⟩,hpk⟩,Rf⟩,hl1⟩,qS⟩:=hc3
 have he:=aJ he
 obtain rfl:=aJ hdd
 obtain rfl:=aJ ht1
 obtain rfl:=aJ ht2
 obtain rfl:xs= #[s, .tmp d]:=by cases xs;simp_all
 obtain rfl:ts= #[t2,t2]:=by cases ts;simp_all
 have yG:El P ty t:=hv _ (by simp)
 obtain⟨bM,cS⟩:(l.length+lx.length)*gR t≤140737488355328∧l.length+lx.length≤maxLen:=hv _ (by simp)
 obtain⟨q1,q2,dN,q3,q4,q5,q6,q7⟩:=KZ g hb (oH hnd) (fun q hq=>hv q (by simp[hq]))
 have hC:=C t2
 rw[hk,he]at hC
 have hlen:=aJ hlen
 obtain⟨w1,r1,r2,r3⟩:=BK (P:=P) (w:=w) (a:=a) ho1 hC.1 yG (cj hbig) hlen (aE _) q1 q2 q3 q4 q5
 have g1:Good ty zb st a.tmps w1 env:=by
  have:=Good.grow hB g (os:= []) rfl (qo.none r2)
  exact this
 have hB1:zb.w.heap.size≤w1.heap.size:=dH hB r2.size
 have hR1:lX P ops o1 a w (fun a' w'=>a'=a.put o1.dst (.slice (some ⟨w.heap.size,0,none⟩) len len)∧w1=w') Q:=by
  refine l8 hg1 ?_
  unfold Oper.wp
  rw[r1]
  exact⟨rfl,rfl⟩
 refine hR1.mono ?_
 rintro a1 w1 ⟨rfl,rfl⟩
 have hdl:d<a.tmps.size:=by rw[iv.size];exact cj hl1
 have aqS:d2<a.tmps.size:=by rw[iv.size];exact cj qS
 rw[hd1]
 have hsv:(a.put (some d) (.slice (some ⟨w.heap.size,0,none⟩) len len)).eval s=a.eval s:=by
  cases s with
  |tmp s=>
   simp only[alS,bX]at hoff
   have hne:s≠d:=by rintro rfl;simp at hoff
   show(a.tmps.setIfInBounds d _).getD s undef=a.tmps.getD s undef
   rw[ak,ak,gd (fun e=>hne e.symm)]
  |const v=>rfl
  |_=>simp[alS]at hoff
 have hxv:(a.put (some d) (.slice (some ⟨w.heap.size,0,none⟩) len len)).eval (.tmp d)= .slice (some ⟨w.heap.size,0,none⟩) len len:=by
  show(a.tmps.setIfInBounds d _).getD d undef=_
  rw[ak,iN hdl];rfl
 obtain⟨fp,hD,CJ⟩:=Nn g1 (jF g1 (fun e he=>by simp at he) hs) hds hpk
 obtain⟨news,fx,hown,hfl,hfe,nU,hfo⟩:=r3
 have WE:fx.flatten=dN.flatten:=by simpa[Value.ownBlock]using nU.symm
 have hq5:Own 0 w1 dN.flatten:=q5.below r2
 have hlx:len=lx.length:=by rw[q2,hlen]
 have agf:Own 0 w1 (fp++fx.flatten):=by
  rw[WE]
  have ho:=hD.own
  refine⟨bK.2 ⟨ho.nodup,hq5.nodup,?_⟩,fun b hb=> ?_,fun b hb=> ?_⟩
  ·rintro b hb c hc rfl
   obtain⟨i,oi,hi,h1,h2⟩:=CJ b hb
   obtain⟨j,oj,hj,h3,h4⟩:=q6 b hc
   have hij:i≠j:=by
    rintro rfl
    simp only[Ri,bE,bX,ct]at hno
    exact hno i hi i hj (by simp)
   exact g.qn i j _ _ hij h1 h3 b h2 h4
  ·rcases bg.1 hb with hb|hb
   ·exact ho.ge b hb
   ·exact hq5.ge b hb
  ·rcases bg.1 hb with hb|hb
   ·exact ho.kind b hb
   ·exact hq5.kind b hb
 have Mg: ∀b,(a.eval s).ownBlock=some b→b∈fp:=by
  intro b hb
  obtain⟨xs,dN,_,_,_,nU,_⟩:=hD
  rw[nU,hb];simp
 have hsrc:Src w1 (.slice (some ⟨w.heap.size,0,none⟩) len len) lx.length news:=by
  subst hlx
  exact bB ⟨⟨w.heap.size,0,none⟩,_,rfl,Vj hown⟩
 have hR2:lX P ops o2 (a.put (some d) (.slice (some ⟨w.heap.size,0,none⟩) len len)) w1 (fun a' w'=>Inv ty zb st' a' w') Q:=by
  refine l8 hg2 ?_
  refine Ol s (.tmp d) t2 ho2 (iL t) (lC t) 0 (ty t) (jv t) (gR t) hC.1 yG (s9 t) (a.eval s) l fp hsv hD _ hxv lx news fx hsrc hfl hown.1 hfe agf cS bM (aE _) ?_
  intro v' w' lH k1 k2 k3 k4 k5 k6
  obtain⟨env',hg',UQ⟩:=ac6 (ty:=ty) g1 hB1 (ks:=k++m) (ns:=m) Rf hlk (v:=a.eval s) (fp:=fp) (fx:=dN.flatten)
   (by
    intro b hb
    rcases bg.1 hb with hb|hb
    ·obtain⟨i,oi,hi,h1⟩:=CJ b hb;exact⟨i,oi,aY _ hi,h1⟩
    ·obtain⟨i,oi,hi,h1⟩:=q6 b hb;exact⟨i,oi,aS _ hi,h1⟩)
   Mg k1 k2 (fun b hb=>by
    rcases k4 b hb with h|h|h
    ·exact bY h
    ·exact bB (bY (WE▸h))
    ·exact bB (bB (by omega)))
   (fun n hn=>aS _ hn)
   (fun n o b hn hl hb=>by
    have Zm:=q7 n b hn hb
    refine⟨k6 b (by rw[WE];exact Zm),k2.block b (hq5.lt b Zm) fun e=> ?_⟩
    obtain⟨i,oi,hi,h1,h2⟩:=CJ b (Mg b e.symm)
    have hij:i≠n:=by
     rintro rfl
     simp only[Ri,bE,bX,ct]at hno
     exact hno i hi i hn (by simp)
    exact g.qn i n _ _ hij h1 hl b h2 hb)
  have aow:Kept zb w1 w':=by
   refine⟨k2.os,k2.tape,k2.output,k2.size,fun b hb hn=>k2.block b (by omega) fun e=> ?_,k5⟩
   obtain⟨i,oi,hi,h1,h2⟩:=CJ b (Mg b e.symm)
   rcases g.dom i oi h1 b h2 with h|h
   ·exact hn h
   ·omega
  rw[←aqQ]
  refine⟨?_,?_,(iv.kept.trans (nT r2 hB)).trans aow,iv.Jt,env',?_⟩
  ·rw[k9,k9,Af,Af];exact iv.size
  ·rw[put_defers,put_defers];exact iv.defers
  ·have gp:=qZ hg' (dst:=some d) (fun _ e=>by cases e;exact hdl) (v:= .one (.a .any)) (u:= .slice (some ⟨w.heap.size,0,none⟩) len len) trivial (fun d _=>ru ⟨_,rfl⟩)
   rw[hd2]
   refine qZ gp (fun _ e=>by cases e;rw[k9];exact aqS) ?_ (fun d _=>ru ⟨_,rfl⟩)
   rw[alb]
   exact⟨⟨t,_,look_eq⟩,UQ.symm⟩
 exact hR2.mono fun a' w' vG=>hQ a' w' vG
end
def K0:Nat→List Oper→Option (List Oper×Oper×Oper×List Oper)
 |0,o1::o2::r=>some ([],o1,o2,r)
 |n+1,o::r=>match K0 n r with
  |some (p,o1,o2,q)=>some (o::p,o1,o2,q)
  |none=>none
 |_,_=>none
theorem NC: ∀{n:Nat} {l p q:List Oper} {o1 o2:Oper},K0 n l=some (p,o1,o2,q)→l=p++o1::o2::q
 |0,[],_,_,_,_,h=>by cases h
 |0,[_],_,_,_,_,h=>by cases h
 |0,o1::o2::r,p,q,a,b,h=>by
  simp only[K0,oI,pI]at h
  obtain⟨rfl,rfl,rfl,rfl⟩:=h;rfl
 |n+1,[],_,_,_,_,h=>by cases h
 |n+1,o::r,p,q,a,b,h=>by
  simp only[K0]at h
  split at h
  ·rename_i p' o1 o2 q' h'
   simp only[oI,pI]at h
   obtain⟨rfl,rfl,rfl,rfl⟩:=h
   rw[NC h'];rfl
  ·cases h
def runK(P:Program)(ty:Tag→Nat)(Γ:Nat→TK)(gq:List (Nat×Nat))(cr:List (Nat×CR))(ops rest:List Oper)(vX:List Prop):Option (List Prop×St)→Option (List Prop×St)
 |some ([p,q],⟨n,sl,hp⟩)=>run P ty Γ gq cr ops rest ⟨n,sl,hp⟩ (p::q::vX)
 |some ([p,q,r],⟨n,sl,hp⟩)=>run P ty Γ gq cr ops rest ⟨n,sl,hp⟩ (p::q::r::vX)
 |some (l,⟨n,sl,hp⟩)=>run P ty Γ gq cr ops rest ⟨n,sl,hp⟩ (l++vX)
 |none=>none
def fR:Option (List Prop×St)→Option (List Prop×St)
 |some (l,st)=>match Zt st with|some st=>some (l,st)|none=>none
 |none=>none
theorem ajH{x:Option (List Prop×St)}{y:List Prop×St}(h:fR x=some y):x=some y:=by
 unfold fR at h
 split at h
 ·split at h
  ·rename_i l st Gs hs
   simp only[oI]at h
   rw[←h,tE hs]
  ·cases h
 ·cases h
theorem ahx{P:Program}{Γ:Nat→TK}{gq:List (Nat×Nat)}{cr:List (Nat×CR)}{ops rest:List Oper}{vX:List Prop}{x:Option (List Prop×St)}{y:List Prop×St}(h:runK P ty Γ gq cr ops rest vX x=some y):
  ∃l st acc,x=some (l,st)∧run P ty Γ gq cr ops rest st acc=some y∧ ∀q,q∈l++vX→q∈acc:=by
 unfold runK at h
 split at h
 ·exact⟨_,_,_,rfl,h,fun q hq=>by simpa using hq⟩
 ·exact⟨_,_,_,rfl,h,fun q hq=>by simpa using hq⟩
 ·exact⟨_,_,_,rfl,h,fun q hq=>by simpa using hq⟩
 ·cases h
def aox(P:Program)(ty:Tag→Nat)(Γ:Nat→TK)(gq:List (Nat×Nat))(cr:List (Nat×CR))(ks:List Nat)(ix m0:Nat)(ops:List Oper):St→Option (List Prop×St)
 | ⟨n,sl0,kO⟩=>match K0 ix ops with
   |some (pre,o1,o2,rest)=>match run P ty Γ gq cr ops pre ⟨n,sl0,kO⟩ []with
    |some (vX,F5)=>match runK P ty Γ gq cr ops rest vX (fR (alT P ty Γ F5 m0 o1 o2))with
     |some (vc,st')=>match Ny n st' ks,bW st'.n n with
      |some Gs,true=>some (vc,Gs)
      |_,_=>none
     |none=>none
    |none=>none
   |none=>none
section
variable{P:Program}{Γ:Nat→TK}{zb:eM}{Q:Post}{st:St}
theorem Xs(X:Ctx P ty Γ)(gq:List (Nat×Nat))(cr:List (Nat×CR))(ks:List Nat)(ix m0:Nat){id:Nat}{ops:List Oper}{vc:List Prop}{st':St}(h:aox P ty Γ gq cr ks ix m0 ops st=some (vc,st'))(hv:tF vc)(k:Q .normal st'):
  W P ty zb (.region id ops.toArray false) Q st:=by
 intro a w iv
 obtain⟨n,sl0,kO⟩:=st
 unfold G.aox at h
 dsimp only at h
 split at h
 case h_2=>cases h
 rename_i pre o1 o2 rest hsp
 split at h
 case h_2=>cases h
 rename_i vX F5 hrun
 split at h
 case h_2=>cases h
 rename_i vc2 Gs hk
 split at h
 case h_2=>cases h
 rename_i st3 hkeep hn
 simp only[oI,pI]at h
 obtain⟨rfl,rfl⟩:=h
 obtain⟨l,st4,acc,he,K1,hacc⟩:=ahx hk
 have he:=ajH he
 have hv:=hv.out
 refine wp_region_lit ?_
 rw[show wpList P ops.toArray (IV ty zb Q) ops a w=wpList P ops.toArray (IV ty zb Q) (pre++o1::o2::rest) a w by rw[←NC hsp]]
 refine Jz X.kind X.one (fun a w iv=> ?_) hrun (fun q hq=>hv q (xI K1 q (hacc q (aS _ hq)))) iv
 refine ahw X.kind he (fun q hq=>hv q (xI K1 q (hacc q (aY _ hq)))) iv fun a w iv=> ?_
 refine OU X.kind X.one (fun a w iv=>⟨_,?_,k⟩) K1 hv iv
 unfold Ny at hkeep
 split at hkeep
 ·rename_i sl hp h1 h2
  split at hkeep
  ·rename_i hc
   simp only[oI]at hkeep
   subst hkeep
   exact iv.weaken (aJ hn).symm (nZ h1) (n7 h2) hc
  ·cases hkeep
 ·cases hkeep
end
def rename(st:St)(s m:Nat):Option St:=match look st.sl s,mJ s st.n with
 |some (.one (.a (.own n))),true=>match look st.hp n,pinned [n],p9 m,look (eY [n] [] st.hp) m with
  |some (.arr t l),false,false,none=>Zt ((st.gone [n] m t l).put (some s) (.one (.a (.own m))))
  |_,_,_,_=>none
 |_,_=>none
theorem ZW{zb:eM}{st st':St}{s m:Nat}(h:rename st s m=some st'){a:Act}{w:World}(iv:Inv ty zb st a w):Inv ty zb st' a w:=by
 obtain⟨env,g⟩:=iv.good
 have hB:=iv.kept.size
 unfold rename at h
 split at h
 case h_2=>cases h
 rename_i n hs hlt
 split at h
 case h_2=>cases h
 rename_i t l hl hpk Rf hlk
 have h:=tE h
 rw[St.gone_eq]at h
 have hsf:soft n=false:=xE hpk (by simp)
 have hb:=RO.bld hsf (g.obj n _ hl)
 have Mg: ∀b,(env n).v.ownBlock=some b→b∈(env n).fp:=by
  intro b hb'
  obtain⟨xs,dN,_,_,_,nU,_⟩:=hb
  rw[nU,hb'];simp
 obtain⟨env',hg',UQ⟩:=Kr (ty:=ty) g hB (ks:= [n]) hpk Rf hlk (v:=(env n).v) (v':=(env n).v) (w':=w) (fp:=(env n).fp) (fx:= []) (by
  intro b hb
  rw[dA]at hb
  exact⟨n,_,by simp,hl,hb⟩) Mg hb ⟨rfl,rfl,rfl,bq _,fun _ _ _=>rfl⟩ (fun b hb=>bY hb)
 have hlt:s<a.tmps.size:=by rw[iv.size];exact cj hlt
 obtain⟨_,hu⟩:=g.slot s _ hs
 have gp:=hg'.put hlt (v:= .one (.a (.own m))) (u:=a.tmps.getD s undef) ⟨⟨t,l,look_eq⟩,by rw[UQ];exact hu⟩ rfl
 have e:a.tmps.setIfInBounds s (a.tmps.getD s undef)=a.tmps:=by
  rw[ak,nv hlt]
  apply ac7
  ·simp
  ·intro i h1 h2
   rw[tU]
   split
   ·rename_i hi;subst hi;rfl
   ·rfl
 rw[e]at gp
 rw[h]
 exact⟨by rw[Af];exact iv.size,iv.defers,iv.kept,iv.Jt,env',gp⟩
theorem sZ{P:Program}{zb:eM}{Q:Post}{st st':St}{c:Code}(s m:Nat)(h:G.rename st s m=some st')(k:W P ty zb c Q st'):W P ty zb c Q st:=fun a w iv=>k a w (ZW h iv)
def Vk(st:St)(b i m:Nat)(t:Tag):Option St:=match look st.hp b,p9 m,look st.hp m with
 |some (.box c),false,none=>match D2 c i with
  |some (.lit (.slice none 0 0))=>Zt ⟨st.n,st.sl,(b, .box (c.set i (.own m)))::(m, .arr t [])::st.hp⟩
  |_=>none
 |_,_,_=>none
theorem cW.set'{R R':V→Value→Prop}{y:V}(hm: ∀a u,R a u→R' a u): ∀{c:List V} {cs:List Value} {i:Nat} {v:V},cW R c cs→D2 c i=some v→(∀u,R v u→R' y u)→cW R' (c.set i y) cs
 | [],_,_,_,_,h,_=>by cases h
 |a::r,[],_,_,h,_,_=>h.elim
 |a::r,u::us,0,v,⟨h1,h2⟩,h,hy=>by
  simp only[D2,oI]at h
  subst h
  exact⟨hy u h1,h2.mono fun a b _ h=>hm a b h⟩
 |a::r,u::us,i+1,v,⟨h1,h2⟩,h,hy=>⟨hm a u h1,cW.set' hm h2 (by simpa[D2]using h) hy⟩
theorem ZX{zb:eM}{st st':St}{b i m:Nat}{t:Tag}(h:Vk st b i m t=some st'){a:Act}{w:World}(iv:Inv ty zb st a w):Inv ty zb st' a w:=by
 obtain⟨env,g⟩:=iv.good
 have hB:=iv.kept.size
 unfold Vk at h
 split at h
 case h_2=>cases h
 rename_i c hl Rf hlk
 split at h
 case h_2=>cases h
 rename_i he
 have h:=tE h
 have hne:b≠m:=by rintro rfl;rw[hl]at hlk;cases hlk
 have hN:qo (ty:=ty) w w st.hp [(m, .arr t [])] env (fun n=>if n=m then⟨Kb,[]⟩else env n):=by
  refine⟨Below.refl _ _,fun n hn=> ?_,fun n o hn=> ?_,fun n n' o o' hne h1 h2=> ?_⟩
  ·by_cases hnm:n=m
   ·subst hnm;rw[look_eq]at hn;cases hn
   ·simp[hnm]
  ·by_cases hnm:n=m
   ·subst hnm
    rw[look_eq]at hn
    simp only[oI]at hn
    subst hn
    simp only[if_true]
    exact⟨RO.Nb (nL.nil _ _ _ _ _),by simp⟩
   ·rw[cF hnm]at hn;cases hn
  ·intro x hx
   by_cases hnm:n=m
   ·subst hnm;simp at hx
   ·rw[cF hnm]at h1;cases h1
 have g1:=Good.grow hB g (os:= [(m, .arr t [])]) (by simp[fresh,hlk,Rf]) hN
 have hl1:look ([(m,Obj.arr t [])]++st.hp) b=some (.box c):=by
  show look ((m,Obj.arr t [])::st.hp) b=_
  rw[cF hne];exact hl
 obtain⟨b',cs,e,QF,hh,hc⟩:=g1.obj b _ hl1
 have g2:=Kp (off:=0) (us:= []) (c':=c.set i (.own m)) g1 hl1 QF hh (aE _) (by
  simp only[lu,eU,fL,c8,iE]
  refine cW.set' (fun _ _ h=>h) hc he fun u hu=> ?_
  obtain⟨rfl,_⟩:=hu
  refine⟨⟨t,[],look_eq⟩,?_⟩
  simp only[if_true])
 rw[h]
 exact⟨iv.size,iv.defers,iv.kept,iv.Jt,_,g2⟩
theorem eo{P:Program}{zb:eM}{Q:Post}{st st':St}{c:Code}(b i m:Nat)(t:Tag)(h:G.Vk st b i m t=some st')(k:W P ty zb c Q st'):W P ty zb c Q st:=fun a w iv=>k a w (ZX h iv)
def Pk(st:St)(b i m:Nat):Option St:=match look st.hp b with
 |some (.box c)=>match D2 c i with
  |some (.own n)=>match look st.hp n,pinned [n],p9 m,look (eY [n] [] st.hp) m with
   |some (.arr t l),false,false,none=>match st.gone [n] m t l with
    | ⟨nn,sl,hp⟩=>Zt ⟨nn,sl,(b, .box ((c.map fun v=>v.cX [n] []).set i (.own m)))::hp⟩
   |_,_,_,_=>none
  |_=>none
 |_=>none
theorem cW.aoy{R R':V→Value→Prop}{f:V→V}{y:V}(hm: ∀a u,R a u→R' (f a) u): ∀{c:List V} {cs:List Value} {i:Nat} {v:V},cW R c cs→D2 c i=some v→(∀u,R v u→R' y u)→cW R' ((c.map f).set i y) cs
 | [],_,_,_,_,h,_=>by cases h
 |a::r,[],_,_,h,_,_=>h.elim
 |a::r,u::us,0,v,⟨h1,h2⟩,h,hy=>by
  simp only[D2,oI]at h
  subst h
  exact⟨hy u h1,h2.map hm⟩
 |a::r,u::us,i+1,v,⟨h1,h2⟩,h,hy=>⟨hm a u h1,cW.aoy hm h2 (by simpa[D2]using h) hy⟩
theorem Vl{zb:eM}{st st':St}{b i m:Nat}(h:Pk st b i m=some st'){a:Act}{w:World}(iv:Inv ty zb st a w):Inv ty zb st' a w:=by
 obtain⟨env,g⟩:=iv.good
 have hB:=iv.kept.size
 unfold Pk at h
 split at h
 case h_2=>cases h
 rename_i c QG
 split at h
 case h_2=>cases h
 rename_i n he
 split at h
 case h_2=>cases h
 rename_i t l hl hpk Rf hlk
 rw[St.gone_eq]at h
 have h:=tE h
 have hsf:soft n=false:=xE hpk (by simp)
 have hb:=RO.bld hsf (g.obj n _ hl)
 have Mg: ∀b,(env n).v.ownBlock=some b→b∈(env n).fp:=by
  intro b hb'
  obtain⟨xs,dN,_,_,_,nU,_⟩:=hb
  rw[nU,hb'];simp
 obtain⟨env',hg',UQ,hold,aqU⟩:=Nl (ty:=ty) g hB (ks:= [n]) hpk Rf hlk (v:=(env n).v) (v':=(env n).v) (w':=w) (fp:=(env n).fp) (fx:= []) (by
  intro b hb
  rw[dA]at hb
  exact⟨n,_,by simp,hl,hb⟩) Mg hb ⟨rfl,rfl,rfl,bq _,fun _ _ _=>rfl⟩ (fun b hb=>bY hb)
 have hbn:b≠n:=by rintro rfl;rw[QG]at hl;cases hl
 have hbk:look (eY [n] [] st.hp) b=some (.box (c.map fun v=>v.cX [n] [])):=by
  rw[ef,if_neg (by simpa using hbn),QG];rfl
 have No:b≠m:=by rintro rfl;rw[hbk]at hlk;cases hlk
 have cS:look ((m,Obj.arr t l)::eY [n] [] st.hp) b=some (.box (c.map fun v=>v.cX [n] [])):=by rw[cF No];exact hbk
 obtain⟨b',cs,e,QF,hh,hc⟩:=hg'.obj b _ cS
 obtain⟨b0,cs0,e0,aqV,hh0,hc0⟩:=g.obj b _ QG
 have hbb:b'=b0:=by
  rw[hold b No,aqV]at QF
  simpa using QF.symm
 subst hbb
 have hcs:cs=cs0:=by
  rw[hh0]at hh
  simp at hh
  exact hh.1.symm
 subst hcs
 have s:xC [n] [] w st.hp env w ((m,Obj.arr t l)::eY [n] [] st.hp) env':=by
  have hnm: ∀x o,x≠n→look st.hp x=some o→x≠m:=by
   rintro x o hx h1 rfl
   rw[ef,if_neg (by simpa using hx),h1]at hlk;cases hlk
  refine⟨fun _ _ _=>rfl,?_,?_,?_⟩
  ·rintro x hx ⟨y,o',h1,h2⟩
   by_cases hy:y=m
   ·subst hy
    exact⟨n,_,hl,by rw[←aqU];exact h2⟩
   ·rw[hold y hy]at h2
    rw[cF hy,ef]at h1
    split at h1
    ·cases h1
    ·cases hq:look st.hp y with
     |none=>rw[hq]at h1;cases h1
     |some o=>exact⟨y,o,hq,h2⟩
  ·intro x o hx h1
   have hx:x≠n:=by simpa using hx
   have hxm:=hnm x o hx h1
   exact⟨o.cX [n] [],by rw[cF hxm,ef,if_neg (by simpa using hx),h1];rfl,by cases o<;>simp[Obj.like,Obj.cX],by rw[hold x hxm]⟩
  ·rintro x t' l' ⟨hx,_⟩ h1
   have hx:x≠n:=by simpa using hx
   have hxm:=hnm x _ hx h1
   exact⟨by rw[cF hxm,ef,if_neg (by simpa using hx),h1];rfl,by rw[hold x hxm],fun _ _=>rfl⟩
 have g2:=Kp (off:=0) (us:= []) (c':=(c.map fun v=>v.cX [n] []).set i (.own m)) hg' cS QF hh (aE _) (by
  simp only[lu,eU,fL,c8,iE]
  refine cW.aoy (fun v u h=>RA.l9 s h) hc0 he fun u hu=> ?_
  obtain⟨_,hu⟩:=hu
  exact⟨⟨t,l,look_eq⟩,by rw[hu,UQ]⟩)
 rw[h]
 exact⟨iv.size,iv.defers,iv.kept,iv.Jt,_,g2⟩
theorem qE{P:Program}{zb:eM}{Q:Post}{st st':St}{c:Code}(b i m:Nat)(h:G.Pk st b i m=some st')(k:W P ty zb c Q st'):W P ty zb c Q st:=fun a w iv=>k a w (Vl h iv)
end
section
variable{ty:Tag→Nat}
inductive kQ where
 |last(q:Nat)
 |ph(q:Nat)(c:kQ)
 |br(d t:Nat)(sub next:kQ)
 |nil
def kQ.Xt:kQ→List (Nat×Nat×kQ)
 | .br d t sub next=>(d,t,sub)::next.Xt
 |_=> []
def kQ.adb:kQ→Bool
 | .last _=>true
 | .ph _ _=>true
 |_=>false
def Sf(Γ:Nat→TK)(E:Tag→Nat→Prop)(S:FuncId→List S1→List S1→Prop)(gq:List (Nat×Nat))(cr:List (Nat×CR))(ops:List Oper)(q:Nat):Nat→List Oper→St→Option (List TE×List (Nat×List Prop))
 |_,[],_=>some ([],[])
 |i,o::r,⟨n,sl,hp⟩=>match q.testBit i with
  |false=>match Sf Γ E S gq cr ops q (i+1) r ⟨n,sl,hp⟩with
   |some (tr,vq)=>some (⟨0, .CI [],[]⟩::tr,vq)
   |none=>none
  |true=>match o.dst with
   |some d=>match sl.any (fun e=>e.2.mentions d),vU Γ E S gq cr ops ⟨n,sl,hp⟩ o with
    |false,some (vc,v,os)=>match fS v,fHp os with
     |some v,some os=>match Sf Γ E S gq cr ops q (i+1) r ⟨n,(d,v)::sl,vD os hp⟩with
      |some (tr,vq)=>some (⟨d,v,os⟩::tr,(i,vc)::vq)
      |none=>none
     |_,_=>none
    |_,_=>none
   |none=>none
def Sg(d:Nat):Nat→List TE→St→St
 |_,[],s=>s
 |i,e::r,s=>match d.testBit i with
  |true=>Sg d (i+1) r (app s e)
  |false=>Sg d (i+1) r s
def Vm(i:Nat)(vc:List Prop):List (Nat×List Prop)→List (Nat×List Prop)
 | []=> [(i,vc)]
 | (j,v)::r=>match mJ j i with
   |true=>(i,vc)::(j,v)::r
   |false=>(j,v)::Vm i vc r
def Sh(d:Nat):List (Nat×List Prop)→List (Nat×List Prop)→List (Nat×List Prop)
 | [],acc=>acc
 | (i,vc)::r,acc=>match d.testBit i with
   |true=>Sh d r (Vm i vc acc)
   |false=>Sh d r acc
def Is:List (Nat×List Prop)→Option (List Prop)
 | []=>some []
 | (_,[])::r=>Is r
 | (_,[p])::r=>match Is r with|some l=>some (p::l)|none=>none
 | (_,[p,q])::r=>match Is r with|some l=>some (p::q::l)|none=>none
 | (_,l)::r=>match Is r with|some l'=>some (l++l')|none=>none
theorem AH{i:Nat}{vc:List Prop}: ∀{l:List (Nat×List Prop)} {x:Nat×List Prop},x∈Vm i vc l↔x=(i,vc)∨x∈l
 | [],x=>by simp[Vm]
 | (j,v)::r,x=>by
   simp only[Vm]
   split
   ·simp
   ·rw[bu,bu,AH]
    constructor
    ·rintro(h|h|h)
     ·exact bB (bY h)
     ·exact bY h
     ·exact bB (bB h)
    ·rintro(h|h|h)
     ·exact bB (bY h)
     ·exact bY h
     ·exact bB (bB h)
theorem wF{d:Nat}: ∀{vq acc:List (Nat×List Prop)} {x:Nat×List Prop},x∈Sh d vq acc↔(x∈vq∧d.testBit x.1=true)∨x∈acc
 | [],acc,x=>by simp[Sh]
 | (i,vc)::r,acc,x=>by
   simp only[Sh]
   split
   ·rename_i hb
    rw[wF,AH]
    constructor
    ·rintro(⟨h1,h2⟩|rfl|h)
     ·exact bY ⟨aT _ h1,h2⟩
     ·exact bY ⟨by simp,hb⟩
     ·exact bB h
    ·rintro(⟨h1,h2⟩|h)
     ·rcases bu.1 h1 with rfl|h1
      ·exact bB (bY rfl)
      ·exact bY ⟨h1,h2⟩
     ·exact bB (bB h)
   ·rename_i hb
    rw[wF]
    constructor
    ·rintro(⟨h1,h2⟩|h)
     ·exact bY ⟨aT _ h1,h2⟩
     ·exact bB h
    ·rintro(⟨h1,h2⟩|h)
     ·rcases bu.1 h1 with rfl|h1
      ·simp only at h2;rw[h2]at hb;cases hb
      ·exact bY ⟨h1,h2⟩
     ·exact bB h
theorem GV: ∀{l:List (Nat×List Prop)} {m:List Prop},Is l=some m→ ∀x,x∈l→ ∀q,q∈x.2→q∈m
 | [],_,_,x,hx=>by cases hx
 | (i,v)::r,m,h,x,hx=>by
   have key: ∃l',Is r=some l'∧m=v++l':=by
    unfold Is at h
    split at h
    ·rename_i he;cases he
    ·rename_i he;simp only[cH,pI]at he;obtain⟨⟨rfl,rfl⟩,rfl⟩:=he;exact⟨m,h,rfl⟩
    ·rename_i he
     simp only[cH,pI]at he;obtain⟨⟨rfl,rfl⟩,rfl⟩:=he
     split at h
     ·rename_i l' h1;simp only[oI]at h;exact⟨l',h1,h.symm⟩
     ·cases h
    ·rename_i he
     simp only[cH,pI]at he;obtain⟨⟨rfl,rfl⟩,rfl⟩:=he
     split at h
     ·rename_i l' h1;simp only[oI]at h;exact⟨l',h1,h.symm⟩
     ·cases h
    ·rename_i he
     simp only[cH,pI]at he;obtain⟨⟨rfl,rfl⟩,rfl⟩:=he
     split at h
     ·rename_i l' h1;simp only[oI]at h;exact⟨l',h1,h.symm⟩
     ·cases h
   obtain⟨l',h1,rfl⟩:=key
   intro q hq
   rcases bu.1 hx with rfl|hx
   ·exact aY _ hq
   ·exact aS _ (GV h1 x hx q hq)
def oK(P:Program)(ty:Tag→Nat)(Γ:Nat→TK)(gq:List (Nat×Nat))(cr:List (Nat×CR))(ks hs:List Nat)(ops:List Oper)(n0:Nat):kQ→St→List TE→List (Nat×List Prop)→List (Nat×List Prop)→Option (List (List Prop×St))
 | .last q,s,_,_,acc=>match Sf Γ (Zc P ty) (Sound ty P) gq cr ops q 0 ops s with
   |some (tr,vq)=>match Zt (Sg q 0 tr s)with
    |some ⟨n,sl1,iW⟩=>match Ia sl1 ks,Ib iW (WW sl1 iW ks hs),Is (Sh q vq acc)with
     |some sl,some hp,some vc=>match xK sl hp,bW n n0 with
      |true,true=>some [(vc,⟨n0,sl,hp⟩)]
      |_,_=>none
     |_,_,_=>none
    |none=>none
   |none=>none
 | .ph q c,s,_,_,acc=>match Sf Γ (Zc P ty) (Sound ty P) gq cr ops q 0 ops s with
   |some (tr,vq)=>oK P ty Γ gq cr ks hs ops n0 c s tr vq acc
   |none=>none
 | .br d t sub next,s,tr,vq,acc=>match Zt (Sg d 0 tr s),ops[t]? with
   |some s1,some o=>match step P ty Γ gq cr ops s1 o with
    |some (vc,s2)=>match Zt s2 with
     |some s2=>match oK P ty Γ gq cr ks hs ops n0 sub s2 [] [] (Vm t vc (Sh d vq acc)),oK P ty Γ gq cr ks hs ops n0 next s tr vq acc with
      |some l1,some l2=>some (vD l1 l2)
      |_,_=>none
     |none=>none
    |none=>none
   |_,_=>none
 | .nil,_,_,_,_=>some []
def K5(ops:List Oper)(B q Si:Nat):Nat→Nat→Nat→List Nat
 |0,_,d=> [d]
 |m+1,i,d=>match q.testBit i with
  |false=>K5 ops B q Si m (i+1) d
  |true=>(match((ops[i]?).map fun o=>(eH o).all fun j=>B.testBit j||d.testBit j).getD false with
   |true=>K5 ops B q Si m (i+1) (d|||2^i)
   |false=> [])++(match Si.testBit i with
   |true=> []
   |false=>K5 ops B q Si m (i+1) d)
def ahz(ops:List Oper)(cl:List Nat)(A:List (Nat×Oper))(qs B q:Nat):Bool:=
 A.all fun e=>(!(q.testBit e.1)|| !(B.testBit e.1))&&
   (B.testBit e.1||q.testBit e.1|| !(qs.testBit e.1)|| !((eH e.2).all fun j=>B.testBit j||q.testBit j))&&
   (!(q.testBit e.1)||
     ((tmpsOf e.2).all fun t=>A.all fun f=> !(q.testBit f.1)|| !(W0 f.2 t)||bW f.1 e.1|| (cl.getD e.1 0).testBit f.1|| (mJ e.1 f.1&&(cl.getD f.1 0).testBit e.1))&&
     (match e.2.guard with
      |none=>true
      |some (j,_)=>(eH e.2).any (bW j))&&
     (match e.2.dst with
      |some d=>A.all fun f=>bW f.1 e.1|| !(W0 f.2 d)
      |none=>false)&&(eH e.2).all fun j=>B.testBit j||q.testBit j)
def Pp(ops:List Oper)(cl:List Nat)(n B q:Nat)(c:kQ):Bool:=
 (bT n).all fun t=>B.testBit t||q.testBit t||
  (K5 ops B q (cl.getD t 0) n 0 0).all fun d=> !(((ops[t]?).map fun o=>(eH o).all fun j=>B.testBit j||d.testBit j).getD false)||c.Xt.any fun b=>bW b.1 d&&bW b.2.1 t
def okX(ops:List Oper)(cl:List Nat)(A:List (Nat×Oper))(qs n:Nat):Nat→kQ→Bool
 |B, .last q=>ahz ops cl A qs B q&&(bT n).all fun i=>B.testBit i||q.testBit i
 |B, .ph q c=>ahz ops cl A qs B q&&Pp ops cl n B q c&& !((bT n).all fun i=>B.testBit i||q.testBit i)&&okX ops cl A qs n B c
 |B, .br d t sub next=>sub.adb&&mJ t n&&okX ops cl A qs n (B|||d|||2^t) sub&&okX ops cl A qs n B next
 |_, .nil=>true
def ahA(ops:List Oper)(qs:Nat)(p:kQ):Bool:=
 ((idx 0 ops).all fun e=>(eH e.2).all fun j=>mJ j e.1)&&p.adb&&okX ops (OX ops) (idx 0 ops) qs ops.length 0 p
section
variable{Cc D:Nat→Bool}{tr:List TE}{s:St}
theorem sS(Cc:Nat→Bool)(e:TE)(tr:List TE)(s:St)(h:Cc 0=false): ∀i,jr Cc (e::tr) s (i+1)=jr (fun j=>Cc (j+1)) tr s i
 |0=>by simp[jr,h]
 |i+1=>by
  rw[jr,sS Cc e tr s h i,jr]
  simp only[kN]
theorem EG(d:Nat): ∀(tr:List TE) (k:Nat) (s:St),Sg d k tr s=jr (fun i=>d.testBit (k+i)) tr s tr.length
 | [],_,_=>rfl
 |e::r,k,s=>by
  have hf:(fun j=>d.testBit (k+(j+1)))=fun i=>d.testBit (k+1+i):=by funext j;congr 1;omega
  simp only[Sg]
  split
  ·rename_i h
   rw[EG d r (k+1) (app s e),bF,KF _ e r s (by simpa using h),hf]
  ·rename_i h
   rw[EG d r (k+1) s,bF,sS _ e r s (by simpa using h),hf]
theorem GW{D':Nat→Bool}: ∀{n:Nat},(∀i,i<n→D i=D' i)→jr D tr s n=jr D' tr s n
 |0,_=>rfl
 |n+1,h=>by rw[jr,jr,GW (n:=n) fun i hi=>h i (by omega),h n (by omega)]
theorem K6: ∀{n:Nat},jr (fun _=>false) tr s n=s
 |0=>rfl
 |n+1=>by rw[O1 rfl,K6]
theorem uV: ∀{i:Nat} {x:Nat×SV},x∈s.sl→x∈(jr D tr s i).sl
 |0,_,h=>h
 |i+1,x,h=>by
  rw[jr]
  split
  ·exact aT _ (uV h)
  ·exact uV h
def K7(Qb:Nat→Bool)(tr:List TE)(s:St)(m:Nat):Prop:= ∀i e,i<m→Qb i=true→tr[i]? =some e→ ∀n o,look e.os n=some o→look (jr Qb tr s i).hp n=none
variable{Qb:Nat→Bool}
theorem GX{m:Nat}(hf:K7 Qb tr s m): ∀{j i:Nat},i≤j→j≤m→ ∀{n o},look (jr Qb tr s i).hp n=some o→look (jr Qb tr s j).hp n=some o
 |0,i,hi,_,n,o,h=>by
  have:i=0:=by omega
  subst this;exact h
 |j+1,i,hi,hm,n,o,h=>by
  by_cases hij:i=j+1
  ·subst hij;exact h
  ·have ih:=GX hf (j:=j) (i:=i) (by omega) (by omega) h
   rw[jr]
   split
   ·rename_i e' h1 h2
    show look (e'.os++(jr Qb tr s j).hp) n=_
    cases hq:look e'.os n with
    |none=>rw[cV hq];exact ih
    |some o'=>
     have:=hf j e' (by omega) h1 h2 n o' hq
     rw[this]at ih;cases ih
   ·exact ih
theorem AI{m:Nat}(hf:K7 Qb tr s m)(hD: ∀i,D i=true→Qb i=true): ∀{i:Nat},i≤m→ ∀{n o},look (jr D tr s i).hp n=some o→look (jr Qb tr s i).hp n=some o
 |0,_,n,o,h=>h
 |i+1,hm,n,o,h=>by
  rw[jr]at h
  split at h
  ·rename_i e' h1 h2
   have h:look (e'.os++(jr D tr s i).hp) n=some o:=h
   rw[Aj (hD i h1) h2]
   show look (e'.os++(jr Qb tr s i).hp) n=some o
   cases hq:look e'.os n with
   |none=>rw[cV hq]at h ⊢;exact AI hf hD (by omega) h
   |some o'=>rw[eX hq]at h ⊢;exact h
  ·exact GX hf (Nat.le_succ i) hm (AI hf hD (by omega) h)
theorem BW{m:Nat}(hf:K7 Qb tr s m)(hD: ∀i,D i=true→Qb i=true): ∀{i:Nat},i≤m→ ∀{n o},look s.hp n=some o→look (jr D tr s i).hp n=some o
 |0,_,n,o,h=>h
 |i+1,hm,n,o,h=>by
  have ih:=BW hf hD (i:=i) (by omega) h
  rw[jr]
  split
  ·rename_i e' h1 h2
   show look (e'.os++(jr D tr s i).hp) n=some o
   cases hq:look e'.os n with
   |none=>rw[cV hq];exact ih
   |some o'=>
    have h3:=hf i e' (by omega) (hD i h1) h2 n o' hq
    have h4:=AI hf hD (by omega) ih
    rw[h3]at h4;cases h4
  ·exact ih
theorem BX{m:Nat}(hf:K7 Qb tr s m)(hD: ∀i,D i=true→Qb i=true): ∀{i:Nat},i≤m→ ∀{j:Nat} {e:TE} {n:Nat} {o:Obj},j<i→D j=true→tr[j]? =some e→look e.os n=some o→look (jr D tr s i).hp n=some o
 |i+1,hm,j,e,n,o,hj,hin,he,h=>by
  by_cases hij:j=i
  ·subst hij
   rw[Aj hin he]
   exact eX h
  ·have ih:=BX hf hD (i:=i) (by omega) (j:=j) (by omega) hin he h
   rw[jr]
   split
   ·rename_i e' h1 h2
    show look (e'.os++(jr D tr s i).hp) n=some o
    cases hq:look e'.os n with
    |none=>rw[cV hq];exact ih
    |some o'=>
     have h3:=hf i e' (by omega) (hD i h1) h2 n o' hq
     have h4:=AI hf hD (by omega) ih
     rw[h3]at h4;cases h4
   ·exact ih
end
structure TrX(Γ:Nat→TK)(E:Tag→Nat→Prop)(S:FuncId→List S1→List S1→Prop)(gq:List (Nat×Nat))(cr:List (Nat×CR))(ops:List Oper)(q:Nat)(s:St)(tr:List TE)(vq:List (Nat×List Prop)):Prop where
 len:tr.length=ops.length
 one: ∀i,i<ops.length→q.testBit i=true→ ∃o e vc,ops[i]? =some o∧tr[i]? =some e∧o.dst=some e.d∧((jr (fun j=>q.testBit j) tr s i).sl.any fun x=>x.2.mentions e.d)=false∧vU Γ E S gq cr ops (jr (fun j=>q.testBit j) tr s i) o=some (vc,e.v,e.os)∧(i,vc)∈vq
theorem Dl{Γ:Nat→TK}{E:Tag→Nat→Prop}{S:FuncId→List S1→List S1→Prop}{gq:List (Nat×Nat)}{cr:List (Nat×CR)}{ops:List Oper}{q:Nat}: ∀{l:List Oper} {k:Nat} {st:St} {tr:List TE} {vq:List (Nat×List Prop)},Sf Γ E S gq cr ops q k l st=some (tr,vq)→(∀i o,l[i]? =some o→ops[k+i]? =some o)→
  tr.length=l.length∧ ∀i,i<l.length→q.testBit (k+i)=true→ ∃o e vc,ops[k+i]? =some o∧tr[i]? =some e∧o.dst=some e.d∧((jr (fun j=>q.testBit (k+j)) tr st i).sl.any fun x=>x.2.mentions e.d)=false∧vU Γ E S gq cr ops (jr (fun j=>q.testBit (k+j)) tr st i) o=some (vc,e.v,e.os)∧(k+i,vc)∈vq
 | [],k,st,tr,vq,h,_=>by
   simp only[Sf,oI,pI]at h
   exact⟨by rw[←h.1];rfl,fun i hi=>absurd hi (by simp)⟩
 |o::r,k,⟨n,sl,hp⟩,tr,vq,h,hk=>by
  have hk': ∀i o',r[i]? =some o'→ops[k+1+i]? =some o':=fun i o' ho=>by
   have:=hk (i+1) o' (by simpa using ho)
   rw[show k+1+i=k+(i+1)by omega];exact this
  have hf:(fun j=>q.testBit (k+(j+1)))=fun i=>q.testBit (k+1+i):=by funext j;congr 1;omega
  simp only[Sf]at h
  split at h
  ·rename_i hb
   split at h
   case h_2=>cases h
   rename_i tr' vq' h2
   simp only[oI,pI]at h
   obtain⟨rfl,rfl⟩:=h
   obtain⟨q1,q2⟩:=Dl h2 hk'
   refine⟨by simp[q1],fun i hi hq=> ?_⟩
   cases i with
   |zero=>rw[jL,hb]at hq;cases hq
   |succ i=>
    obtain⟨o',e',vc',p1,p2,p3,p4,p5,p6⟩:=q2 i (by simpa using hi) (by rw[show k+1+i=k+(i+1)by omega];exact hq)
    refine⟨o',e',vc',by rw[show k+(i+1)=k+1+i by omega];exact p1,by simpa using p2,p3,?_,?_,by rw[show k+(i+1)=k+1+i by omega];exact p6⟩
    ·rw[sS _ _ tr' _ (by simpa using hb) i,hf];exact p4
    ·rw[sS _ _ tr' _ (by simpa using hb) i,hf];exact p5
  ·rename_i hb
   split at h
   case h_2=>cases h
   rename_i d hd
   split at h
   case h_2=>cases h
   rename_i vc v os hm hq0
   split at h
   case h_2=>cases h
   rename_i v2 os2 hv2 ahB
   have hv2:=ach hv2
   have ahB:=OT ahB
   subst hv2;subst ahB
   split at h
   case h_2=>cases h
   rename_i tr' vq' h2
   simp only[oI,pI]at h
   obtain⟨rfl,rfl⟩:=h
   rw[jC]at h2
   obtain⟨q1,q2⟩:=Dl h2 hk'
   refine⟨by simp[q1],fun i hi hq=> ?_⟩
   cases i with
   |zero=>exact⟨o,⟨d,v2,os2⟩,vc,hk 0 o rfl,rfl,hd,hm,hq0,by simp⟩
   |succ i=>
    obtain⟨o',e',vc',p1,p2,p3,p4,p5,p6⟩:=q2 i (by simpa using hi) (by rw[show k+1+i=k+(i+1)by omega];exact hq)
    have hc:=KF (fun j=>q.testBit (k+j)) ⟨d,v2,os2⟩ tr' ⟨n,sl,hp⟩ (by simpa using hb) i
    refine⟨o',e',vc',by rw[show k+(i+1)=k+1+i by omega];exact p1,by simpa using p2,p3,?_,?_,by rw[show k+(i+1)=k+1+i by omega];exact aT _ p6⟩
    ·rw[hc,hf];exact p4
    ·rw[hc,hf];exact p5
theorem TrX.of{Γ:Nat→TK}{E:Tag→Nat→Prop}{S:FuncId→List S1→List S1→Prop}{gq:List (Nat×Nat)}{cr:List (Nat×CR)}{ops:List Oper}{q:Nat}{s:St}{tr:List TE}{vq:List (Nat×List Prop)}(h:Sf Γ E S gq cr ops q 0 ops s=some (tr,vq)):TrX Γ E S gq cr ops q s tr vq:=by
 obtain⟨h1,h2⟩:=Dl h (fun i o ho=>by simpa using ho)
 refine⟨h1,fun i hi hq=> ?_⟩
 have:=h2 i hi (by simpa using hq)
 simpa using this
structure PhX(ops:List Oper)(qs B q:Nat):Prop where
 back: ∀i o,ops[i]? =some o→ ∀j,j∈eH o→j<i
 qn: ∀i,i<ops.length→q.testBit i=true→B.testBit i=false
 full: ∀i o,ops[i]? =some o→B.testBit i=false→qs.testBit i=true→(∀j,j∈eH o→B.testBit j=true∨q.testBit j=true)→q.testBit i=true
 uses: ∀i o,q.testBit i=true→ops[i]? =some o→ ∀t,t∈tmpsOf o→ ∀k o',q.testBit k=true→ops[k]? =some o'→o'.dst=some t→k=i∨((OX ops).getD i 0).testBit k=true∨(i<k∧((OX ops).getD k 0).testBit i=true)
 guard: ∀i o j x,q.testBit i=true→ops[i]? =some o→o.guard=some (j,x)→j∈eH o
 dist: ∀i o k o' d,q.testBit i=true→ops[i]? =some o→ops[k]? =some o'→o.dst=some d→o'.dst=some d→k=i
 clq: ∀i o,q.testBit i=true→ops[i]? =some o→ ∀j,j∈eH o→(B.testBit j=true∨q.testBit j=true)
theorem aoB{ops:List Oper}(h:((idx 0 ops).all fun e=>(eH e.2).all fun j=>mJ j e.1)=true): ∀i o,ops[i]? =some o→ ∀j,j∈eH o→j<i:=by
 intro i o ho j hj
 simp only[bE]at h
 have:=h _ (by simpa using O3 (l:=ops) (k:=0) ho) j hj
 exact cj this
theorem Pq{ops:List Oper}{qs B q:Nat}(hb: ∀i o,ops[i]? =some o→ ∀j,j∈eH o→j<i)(h:ahz ops (OX ops) (idx 0 ops) qs B q=true):PhX ops qs B q:=by
 simp only[ahz,bE,az,dZ,bX]at h
 have hA: ∀{i o},ops[i]? =some o→(i,o)∈idx 0 ops:=by
  intro i o ho
  simpa using O3 (l:=ops) (k:=0) ho
 have hdi: ∀{o:Oper} {t:Nat},o.dst=some t→W0 o t=true:=by intro o t hd;simp[W0,hd]
 refine⟨hb,fun i hi hq=> ?_,fun i o ho hB hqs he=> ?_,fun i o hq ho t ht k o' Vn ho' hd=> ?_,fun i o j x hq ho hg=> ?_,fun i o k o' d hq ho ho' hd hd'=> ?_,fun i o hq ho j hj=> ?_⟩
 ·rcases(h _ (hA (aC hi))).1.1 with h1|h1
  ·simp only at h1;rw[hq]at h1;cases h1
  ·exact h1
 ·rcases(h _ (hA ho)).1.2 with((h1|h1)|h1)|h1
  ·simp only at h1;rw[hB]at h1;cases h1
  ·exact h1
  ·simp only at h1;rw[hqs]at h1;cases h1
  ·exfalso
   have:((eH o).all fun j=>B.testBit j||q.testBit j)=true:=by
    rw[bE];intro j hj
    rcases he j hj with h|h
    ·rw[h];rfl
    ·rw[h];simp
   simp only at h1
   rw[this]at h1;cases h1
 ·rcases(h _ (hA ho)).2 with h1|h1
  ·simp only at h1;rw[hq]at h1;cases h1
  ·rcases h1.1.1.1 t ht _ (hA ho')with(((h2|h2)|h2)|h2)|h2
   ·simp only at h2;rw[Vn]at h2;cases h2
   ·rw[hdi hd]at h2;cases h2
   ·exact bY (aJ h2)
   ·exact bB (bY h2)
   ·exact bB (bB ⟨cj h2.1,h2.2⟩)
 ·rcases(h _ (hA ho)).2 with h1|h1
  ·simp only at h1;rw[hq]at h1;cases h1
  ·have h2:=h1.1.1.2
   simp only[hg,fB]at h2
   obtain⟨y,hy,h3⟩:=h2
   rw[aJ h3];exact hy
 ·rcases(h _ (hA ho)).2 with h1|h1
  ·simp only at h1;rw[hq]at h1;cases h1
  ·have h2:=h1.1.2
   simp only[hd,bE,dZ,bX]at h2
   rcases h2 _ (hA ho')with h3|h3
   ·exact aJ h3
   ·rw[hdi hd']at h3;cases h3
 ·rcases(h _ (hA ho)).2 with h1|h1
  ·simp only at h1;rw[hq]at h1;cases h1
  ·exact h1.2 j hj
end
section
variable{ty:Tag→Nat}
section
variable{P:Program}{Γ:Nat→TK}{gq:List (Nat×Nat)}{cr:List (Nat×CR)}{ops:List Oper}{s:St}{tr:List TE}{vq:List (Nat×List Prop)}{qs B q:Nat}
theorem TrX.fresh{E:Tag→Nat→Prop}{S:FuncId→List S1→List S1→Prop}(T:TrX Γ E S gq cr ops q s tr vq):K7 (fun j=>q.testBit j) tr s ops.length:=by
 intro i e hi hq he n x hl
 obtain⟨o,e',vc,_,he',_,_,hqc,_⟩:=T.one i hi hq
 rw[he]at he'
 simp only[oI]at he'
 subst he'
 obtain⟨p,_,_,_,hf⟩:=qv hqc
 exact(hf n x hl).1
theorem TrX.path{E:Tag→Nat→Prop}{S:FuncId→List S1→List S1→Prop}(T:TrX Γ E S gq cr ops q s tr vq)(K:PhX ops qs B q): ∀(i:Nat),i<ops.length→q.testBit i=true→ ∀o p,ops[i]? =some o→mW (jr (fun j=>q.testBit j) tr s i) ops o=some p→ ∀e,e∈p→
  ∀k o',q.testBit k=true→ops[k]? =some o'→o'.dst=some e.1→ ∀D:Nat→Prop,(∀i o,D i→ops[i]? =some o→ ∀j,j∈eH o→D j)→(∀j,j∈eH o→D j)→D k:=by
 intro i
 induction i using j9 with
 |_ i ih=>
  intro hi JA o p ho hg e he k o' Vn hok hdk D hD hE
  have EF:k<ops.length:=(aV.1 hok).1
  unfold mW at hg
  split at hg
  ·simp at hg;subst hg;simp at he
  ·rename_i j x hgd
   have hje:=K.guard i o j x JA ho hgd
   have hji:=K.back i o ho j hje
   split at hg
   case h_2=>cases hg
   rename_i qj hqj
   split at hg
   case h_2=>cases hg
   rename_i d hdj
   have base:e.1=d→D k:=by
    intro hed
    have:j=k:=K.dist k o' j qj d Vn hok hqj (by rw[hdk,hed]) hdj
    rw[←this];exact hE j hje
   split at hg
   ·simp only[oI]at hg
    subst hg
    simp only[aZ]at he
    exact base (by rw[he])
   ·rename_i p' b En
    simp only[oI]at hg
    subst hg
    rcases bu.1 he with h|h
    ·exact base (by rw[h])
    ·by_cases Xu:q.testBit j=true
     ·obtain⟨q2,ej,vcj,UR,hej,alX,_,hqc,_⟩:=T.one j (by omega) Xu
      rw[hqj]at UR
      simp only[oI]at UR
      subst UR
      rw[hdj]at alX
      simp only[oI]at alX
      subst alX
      have alY:look (jr (fun j=>q.testBit j) tr s i).sl ej.d=some ej.v:=by
       refine rz hji Xu hej fun j' e' h1 h2 h3 h4=> ?_
       obtain⟨q',e2,_,hq',Mq,hd2,_⟩:=T.one j' (by omega) h2
       rw[h3]at Mq
       simp only[oI]at Mq
       subst Mq
       exact K.dist j _ j' q' ej.d Xu hqj hq' hdj (by rw[hd2,h4])
      rw[alY]at En
      simp only[oI]at En
      obtain⟨pj,hgj,kO,iW,_⟩:=qv hqc
      have hpj:pj=p':=by
       by_cases hnil:pj= []
       ·exact absurd En (kO hnil _ _)
       ·obtain⟨x',hx'⟩:=(iW hnil).1
        rw[hx']at En
        simp only[SV.cond.injEq]at En
        exact En.1
      subst hpj
      exact ih j hji (by omega) Xu _ pj hqj hgj e h k o' Vn hok hdk D hD (hD j _ (hE j hje) hqj)
     ·
      exfalso
      have alY:look (jr (fun j=>q.testBit j) tr s i).sl d=look s.sl d:=by
       refine v7 fun j' e' h1 h2 h3 h4=> ?_
       obtain⟨q',e2,_,hq',Mq,hd2,_⟩:=T.one j' (by omega) h2
       rw[h3]at Mq
       simp only[oI]at Mq
       subst Mq
       have:=K.dist j' q' j qj d h2 hq' hqj (by rw[hd2,h4]) hdj
       subst this
       exact Xu h2
      rw[alY]at En
      obtain⟨q2,ek,vck,UR,hek,alZ,hnm,_,_⟩:=T.one k EF Vn
      rw[hok]at UR
      simp only[oI]at UR
      subst UR
      rw[hdk]at alZ
      simp only[oI]at alZ
      rw[ct]at hnm
      refine hnm (d, .cond p' (.a (.lit (.bool b)))) (uV (gU En)) ?_
      simp only[SV.mentions,fB]
      exact⟨e,h,by rw[alZ];simp⟩
   ·cases hg
theorem Vo(C: ∀t,fF P t (Γ t))(T:TrX Γ (Zc P ty) (Sound ty P) gq cr ops q s tr vq)(K:PhX ops qs B q)(hv: ∀x,x∈vq→q.testBit x.1=true→x.1<ops.length→ ∀p,p∈x.2→p){zb:eM}{Q:Exit→Act→World→Prop}{D:Nat→Bool}(zL: ∀i,D i=true→q.testBit i=true)(hDm: ∀i,D i=true→i<ops.length)
  (QH: ∀i o,(B.testBit i=true∨D i=true)→ops[i]? =some o→ ∀j,j∈eH o→(B.testBit j=true∨D j=true))
  {i:Nat}(JA:q.testBit i=true)(Sj:D i=false){o:Oper}(ho:ops[i]? =some o)(hE: ∀j,j∈eH o→(B.testBit j=true∨D j=true)){a:Act}{w:World}(iv:Inv ty zb (jr D tr s ops.length) a w):
  lX P ops.toArray o a w (fun a' w'=>Inv ty zb (jr (fun j=>D j||j==i) tr s ops.length) a' w') Q:=by
 have hi:i<ops.length:=(aV.1 ho).1
 obtain⟨o',e,vc,ho',he,hd,hnm,hq,hvc⟩:=T.one i hi JA
 rw[ho]at ho'
 simp only[oI]at ho'
 subst ho'
 have hfr:=T.fresh
 have Xv: ∀{k},q.testBit k=true→k<ops.length→(B.testBit k=true∨D k=true)→D k=true:=by
  intro k hk EF h
  rcases h with h|h
  ·rw[K.qn k EF hk]at h;cases h
  ·exact h
 have aqX: ∀{x},((OX ops).getD i 0).testBit x=true→(B.testBit x=true∨D x=true):=fun h=>KH (D:=fun j=>B.testBit j=true∨D j=true) K.back QH i o ho hE _ h
 have aoD: ∀{x},((OX ops).getD i 0).testBit x=true→x<i:=fun h=>KH (D:=fun j=>j<i) K.back (fun a b hab hb j hj=>AJ (K.back a b hb j hj) hab) i o ho (fun j hj=>K.back i o ho j hj) _ h
 have hdist: ∀{j e'},j<ops.length→q.testBit j=true→tr[j]? =some e'→ ∃q,ops[j]? =some q∧q.dst=some e'.d:=by
  intro j e' hj hqj he'
  obtain⟨q,e2,_,hq',Mq,hd2,_⟩:=T.one j hj hqj
  rw[he']at Mq
  simp only[oI]at Mq
  subst Mq
  exact⟨q,hq',hd2⟩
 have Sk: ∀{j j':Nat} {e1 e2:TE},j<ops.length→j'<ops.length→q.testBit j=true→q.testBit j'=true→tr[j]? =some e1→tr[j']? =some e2→e2.d=e1.d→j'=j:=by
  intro j j' e1 e2 h1 h2 g1 g2 h3 h4 h5
  obtain⟨q1,p1,p2⟩:=hdist h1 g1 h3
  obtain⟨q2,p3,p4⟩:=hdist h2 g2 h4
  exact K.dist j q1 j' q2 e1.d g1 p1 p3 p2 (by rw[p4,h5])
 have agree: ∀t,(∀k o',k<ops.length→q.testBit k=true→ops[k]? =some o'→o'.dst=some t→k=i∨(k<i∧D k=true)∨(i<k∧D k=false))→look (jr (fun j=>q.testBit j) tr s i).sl t=look (jr D tr s ops.length).sl t:=by
  intro t ht
  by_cases hex: ∃k e',k<i∧D k=true∧tr[k]? =some e'∧e'.d=t
  ·obtain⟨k,e',hk,CJ,he',rfl⟩:=hex
   rw[rz hk (zL k CJ) he' fun j' e2 h1 h2 h3 h4=>Sk (by omega) (by omega) (zL k CJ) h2 he' h3 h4,rz (by omega) CJ he' fun j' e2 h1 h2 h3 h4=>Sk (by omega) h1 (zL k CJ) (zL j' h2) he' h3 h4]
  ·rw[v7 (fun k e' hk Vn he' hdt=>by
      obtain⟨q',h1,h2⟩:=hdist (by omega) Vn he'
      rcases ht k q' (by omega) Vn h1 (by rw[h2,hdt])with h|h|h
      ·omega
      ·exact hex ⟨k,e',hk,h.2,he',hdt⟩
      ·omega),
    v7 (fun k e' hk CJ he' hdt=>by
     obtain⟨q',h1,h2⟩:=hdist hk (zL k CJ) he'
     rcases ht k q' hk (zL k CJ) h1 (by rw[h2,hdt])with h|h|h
     ·subst h;rw[Sj]at CJ;cases CJ
     ·exact hex ⟨k,e',h.1,h.2,he',hdt⟩
     ·rw[h.2]at CJ;cases CJ)]
 obtain⟨p,qt,kO,iW,Rm⟩:=qv hq
 have Xw: ∀x,x∈p→look (jr (fun j=>q.testBit j) tr s i).sl x.1=look (jr D tr s ops.length).sl x.1:=by
  intro x hx
  refine agree x.1 fun k o2 EF Vn ho2 hd2=>bB (bY ⟨?_,Xv Vn EF ?_⟩)
  ·exact T.path K i hi JA o p ho qt x hx k o2 Vn ho2 hd2 (fun j=>j<i) (fun a b hab hb j hj=>AJ (K.back a b hb j hj) hab) (fun j hj=>K.back i o ho j hj)
  ·exact T.path K i hi JA o p ho qt x hx k o2 Vn ho2 hd2 (fun j=>B.testBit j=true∨D j=true) QH hE
 have Ai:mW (jr D tr s ops.length) ops o=some p:=by
  rw[←qt]
  unfold mW
  split
  ·rfl
  ·rename_i j x hgd
   split
   ·rename_i q Xu
    split
    ·rename_i d hdq
     have hmem: ∃y,(d,y)∈p:=by
      unfold mW at qt
      rw[hgd]at qt
      dsimp only at qt
      rw[Xu]at qt
      dsimp only at qt
      rw[hdq]at qt
      dsimp only at qt
      split at qt
      ·simp only[oI]at qt;exact⟨x,by rw[←qt];simp⟩
      ·simp only[oI]at qt;exact⟨x,by rw[←qt];simp⟩
      ·cases qt
     obtain⟨y,hy⟩:=hmem
     rw[←Xw (d,y) hy]
    ·rfl
   ·rfl
 have hfresh:fresh (jr D tr s ops.length).hp e.os=true:=by
  refine RJ fun n x hl=> ?_
  cases UR:look (jr D tr s ops.length).hp n with
  |none=>exact⟨rfl,(Rm n x hl).2⟩
  |some y=>
   exfalso
   have hpi:=hfr i e hi JA he n x hl
   rcases rA UR with h| ⟨j,e',hj,Vp,he',h⟩
   ·have:=BW (D:=fun j=>q.testBit j) hfr (fun _ h=>h) (i:=i) (by omega) h
    rw[hpi]at this
    cases this
   ·have hji:j≠i:=by rintro rfl;rw[Sj]at Vp;cases Vp
    by_cases hlt:j<i
    ·have:=BX (D:=fun j=>q.testBit j) hfr (fun _ h=>h) (i:=i) (by omega) hlt (zL j Vp) he' h
     rw[hpi]at this
     cases this
    ·have h2:=hfr j e' hj (zL j Vp) he' n y h
     have:=BX (D:=fun j=>q.testBit j) hfr (fun _ h=>h) (i:=j) (by omega) (j:=i) (by omega) JA he hl
     rw[h2]at this
     cases this
 have aoE:((jr D tr s ops.length).sl.any fun x=>x.2.mentions e.d)=false:=by
  rw[ct]
  intro x hx hm
  rcases O2 hx with h| ⟨j,e',hj,Vp,he',rfl⟩
  ·rw[ct]at hnm
   exact hnm x (uV h) hm
  ·obtain⟨qq,e2,vc2,Xu,Mq,hd2,_,hqc,_⟩:=T.one j hj (zL j Vp)
   rw[he']at Mq
   simp only[oI]at Mq
   subst Mq
   obtain⟨pj,hgj,hj0,hj1,_⟩:=qv hqc
   by_cases hnil:pj= []
   ·cases hx2:e'.v with
    |cond q y=>exact hj0 hnil _ _ hx2
    |one y=>simp[hx2,SV.mentions]at hm
    |CI y=>simp[hx2,SV.mentions]at hm
   ·obtain⟨y,hy⟩:=(hj1 hnil).1
    simp only[hy,SV.mentions,fB]at hm
    obtain⟨z,hz,hzd⟩:=hm
    have hzd:=aJ hzd
    have h4:=T.path K j hj (zL j Vp) qq pj Xu hgj z hz i o JA ho (by rw[hd,hzd]) (fun j=>B.testBit j=true∨D j=true) QH (QH j qq (bB Vp) Xu)
    have:=Xv JA hi h4
    rw[Sj]at this;cases this
 have hdm:e.v.mentions e.d=false:=by
  by_cases hnil:p= []
  ·cases hx2:e.v with
   |cond q y=>exact absurd hx2 (kO hnil _ _)
   |one y=>rfl
   |CI y=>rfl
  ·obtain⟨⟨y,hy⟩,_,hne⟩:=iW hnil
   rw[hy]
   simp only[SV.mentions]
   rw[ct]
   intro z hz hb
   exact hne e.d hd z hz (aJ hb)
 have hD2: ∀j,(fun j=>D j||j==i) j=true→q.testBit j=true:=by
  intro j hj
  simp only[dZ,beq_iff_eq]at hj
  rcases hj with h|rfl
  ·exact zL j h
  ·exact JA
 have behind: ∀a' w',Inv ty zb (app (jr D tr s ops.length) e) a' w'→Inv ty zb (jr (fun j=>D j||j==i) tr s ops.length) a' w':=by
  intro a' w' vG
  obtain⟨env,g⟩:=vG.good
  refine⟨by rw[vG.size,Ie];show(jr D tr s ops.length).n=s.n;exact Ie _,vG.defers,vG.kept,vG.Jt,env,g.congr ?_ ?_⟩
  ·intro t v hl
   show look ((e.d,e.v)::(jr D tr s ops.length).sl) t=some v
   by_cases ht:t=e.d
   ·subst ht
    rw[rz hi (by simp) he fun j' e2 h1 h2 h3 h4=>Sk hi h1 JA (hD2 j' h2) he h3 h4]at hl
    rw[look_eq];exact hl
   ·rw[cF ht]
    by_cases hex: ∃k e',k<ops.length∧D k=true∧tr[k]? =some e'∧e'.d=t
    ·obtain⟨k,e',hk,CJ,he',rfl⟩:=hex
     rw[rz hk (by simp[CJ]) he' fun j' e2 h1 h2 h3 h4=>Sk hk h1 (zL k CJ) (hD2 j' h2) he' h3 h4]at hl
     rw[rz hk CJ he' fun j' e2 h1 h2 h3 h4=>Sk hk h1 (zL k CJ) (zL j' h2) he' h3 h4]
     exact hl
    ·rw[v7 fun k e' hk CJ he' hdt=>by
      simp only[dZ,beq_iff_eq]at CJ
      rcases CJ with h|rfl
      ·exact hex ⟨k,e',hk,h,he',hdt⟩
      ·rw[he]at he'
       simp only[oI]at he'
       exact ht (by rw[he',hdt])]at hl
     rw[v7 fun k e' hk CJ he' hdt=>hex ⟨k,e',hk,CJ,he',hdt⟩]
     exact hl
  ·intro n
   show look (jr (fun j=>D j||j==i) tr s ops.length).hp n=look (e.os++(jr D tr s ops.length).hp) n
   cases hl:look e.os n with
   |some x=>
    rw[eX hl]
    exact BX hfr hD2 (bq _) hi (by simp) he hl
   |none=>
    rw[cV hl]
    cases hx:look (jr (fun j=>D j||j==i) tr s ops.length).hp n with
    |some y=>
     rcases rA hx with h| ⟨j,e',hj,Vp,he',h⟩
     ·exact(BW hfr zL (bq _) h).symm
     ·have hji:j≠i:=by
       rintro rfl
       rw[he]at he'
       simp only[oI]at he'
       subst he'
       rw[hl]at h;cases h
      have Vp:D j=true:=by
       simp only[dZ,beq_iff_eq]at Vp
       exact Vp.resolve_right hji
      exact(BX hfr zL (bq _) hj Vp he' h).symm
    |none=>
     cases hy:look (jr D tr s ops.length).hp n with
     |none=>rfl
     |some y=>
      rcases rA hy with h| ⟨j,e',hj,Vp,he',h⟩
      ·rw[BW hfr hD2 (bq _) h]at hx;cases hx
      ·rw[BX hfr hD2 (bq _) hj (by simp[Vp]) he' h]at hx;cases hx
 have hput:St.put ⟨(jr D tr s ops.length).n,(jr D tr s ops.length).sl,e.os++(jr D tr s ops.length).hp⟩ o.dst e.v=app (jr D tr s ops.length) e:=by
  rw[hd]
  simp only[St.put,aoE]
  rfl
 by_cases hw:iF o (yielded ops.toArray a.tmps)=true
 ·have hh:holds a.tmps p:=by
   obtain⟨env,g⟩:=iv.good
   unfold mW at Ai
   split at Ai
   ·simp at Ai;subst Ai;intro y hy;simp at hy
   ·rename_i j x hgd
    split at Ai
    ·rename_i q Xu
     split at Ai
     ·rename_i d hdq
      have hwd:=(xB (ops:=ops.toArray) hgd (by simpa using Xu) hdq a.tmps).1 hw
      split at Ai
      ·simp only[oI]at Ai
       subst Ai
       intro y hy
       simp at hy
       subst hy
       exact hwd
      ·rename_i p' b hl
       simp only[oI]at Ai
       subst Ai
       intro y hy
       rcases bu.1 hy with rfl|hy
       ·exact hwd
       ·exact(Gl g hl hwd).1 y hy
      ·cases Ai
     ·cases Ai
    ·cases Ai
  obtain⟨env,g⟩:=iv.good
  have ahC:Compat (jr (fun j=>q.testBit j) tr s i).hp (jr D tr s ops.length).hp:=by
   intro n x y h1 h2
   have h3:=GX hfr (Nat.le_of_lt hi) (bq _) h1
   have h4:=AI hfr zL (bq _) h2
   rw[h3]at h4
   simpa using h4
  have hmono:=Va ahC g (by rw[Ie,Ie]) qt Ai hh (fun x hx t hxt=>agree t fun k o2 hk Vn ho2 hd2=>by
    have ht:t∈tmpsOf o:=by
     simp only[tmpsOf,uO]
     exact⟨x,hx,by rw[hxt]⟩
    rcases K.uses i o JA ho t ht k o2 Vn ho2 hd2 with h|h|h
    ·exact bY h
    ·exact bB (bY ⟨aoD h,Xv Vn hk (aqX h)⟩)
    ·refine bB (bB ⟨h.1,?_⟩)
     cases CJ:D k with
     |false=>rfl
     |true=>
      have:=KH (D:=fun j=>B.testBit j=true∨D j=true) K.back QH k o2 ho2 (QH k o2 (bB CJ) ho2) i h.2
      have:=Xv JA hi this
      rw[Sj]at this;cases this) Xw hfresh hq
  have:=Rg (Q:=Q) C hmono iv (fun p hp=>hv _ hvc JA hi p hp)
  rw[hput]at this
  exact this.mono behind
 ·unfold lX
  rw[if_neg hw]
  have hnil:p≠ []:=by
   rintro rfl
   unfold mW at qt
   split at qt
   ·rename_i hgd;exact hw (by simp[iF,hgd])
   ·repeat' split at qt
    all_goals simp at qt
  obtain⟨⟨y,hy⟩,hos,_⟩:=iW hnil
  have hnh: ¬holds a.tmps p:=by
   intro hh
   unfold mW at qt
   split at qt
   ·rename_i hgd;exact hw (by simp[iF,hgd])
   ·rename_i j x hgd
    split at qt
    ·rename_i q Xu
     split at qt
     ·rename_i d hdq
      have hdx:(d,x)∈p:=by
       split at qt
       ·simp only[oI]at qt;rw[←qt];simp
       ·simp only[oI]at qt;rw[←qt];simp
       ·cases qt
      exact hw ((xB (ops:=ops.toArray) hgd (by simpa using Xu) hdq a.tmps).2 (hh _ hdx))
     ·cases qt
    ·cases qt
  apply behind
  obtain⟨env,g⟩:=iv.good
  have hlt:e.d<a.tmps.size:=by
   unfold vU at hq
   have:D4 (jr (fun j=>q.testBit j) tr s i) o.dst=true:=by
    cases hdk:D4 (jr (fun j=>q.testBit j) tr s i) o.dst with
    |true=>rfl
    |false=>rw[hdk]at hq;simp at hq
   rw[hd]at this
   rw[iv.size,Ie]
   have:=cj this
   rw[show(jr (fun j=>q.testBit j) tr s i).n=s.n from Ie i]at this
   exact this
  have aoG:=g.put (d:=e.d) hlt (v:=e.v) (u:=undef) (by rw[hy];exact⟨fun hh=>absurd hh hnh,fun _=>rfl⟩) hdm
  refine⟨by rw[k9];exact iv.size,by rw[put_defers];exact iv.defers,iv.kept,iv.Jt,env,?_⟩
  rw[hd]
  have aqY:(jr D tr s ops.length).put (some e.d) e.v=app (jr D tr s ops.length) e:=by
   simp only[St.put,aoE,app,hos]
   rfl
  rw[aqY]at aoG
  exact aoG
end
theorem EH{ops:List Oper}{B q Si:Nat}{D:Nat→Bool}(zL: ∀i,D i=true→q.testBit i=true)(hDn: ∀i,D i=true→i<ops.length)(hb: ∀i o,ops[i]? =some o→ ∀j,j∈eH o→j<i)
  (hc: ∀i o,D i=true→ops[i]? =some o→ ∀j,j∈eH o→(B.testBit j=true∨D j=true))(Xx: ∀i,q.testBit i=true→Si.testBit i=true→D i=true):
  ∀(m i d:Nat),i+m=ops.length→(∀j,d.testBit j=(decide (j<i)&&D j))→ ∃d',d'∈K5 ops B q Si m i d∧ ∀j,d'.testBit j=D j
 |0,i,d,him,hd=>by
  refine⟨d,by simp[K5],fun j=> ?_⟩
  rw[hd j]
  cases hj:D j with
  |false=>simp
  |true=>have:=hDn j hj;simp;omega
 |m+1,i,d,him,hd=>by
  have hstep:D i=false→ ∀j,d.testBit j=(decide (j<i+1)&&D j):=by
   intro Sj j
   rw[hd j]
   by_cases hji:j=i
   ·subst hji;simp[Sj]
   ·have:decide (j<i)=decide (j<i+1):=by
     apply decide_eq_decide.2;omega
    rw[this]
  simp only[K5]
  split
  ·rename_i hq
   have Sj:D i=false:=by
    cases h:D i with
    |false=>rfl
    |true=>rw[zL i h]at hq;cases hq
   exact EH zL hDn hb hc Xx m (i+1) d (by omega) (hstep Sj)
  ·rename_i hq
   cases Sj:D i with
   |true=>
    have hlt:=hDn i Sj
    have ho:=aC hlt
    have hcond:(((ops[i]?).map fun o=>(eH o).all fun j=>B.testBit j||d.testBit j).getD false)=true:=by
     rw[ho]
     simp only[dP,nN,bE,dZ]
     intro j hj
     rcases hc i _ Sj ho j hj with h|h
     ·exact bY h
     ·exact bB (by rw[hd j,h];have:=hb i _ ho j hj;simp[this])
    obtain⟨d',h1,h2⟩:=EH zL hDn hb hc Xx m (i+1) (d|||2^i) (by omega) (fun j=>by
     rw[qT,n8,hd j]
     by_cases hji:i=j
     ·subst hji;simp[Sj]
     ·have:decide (j<i)=decide (j<i+1):=by
       apply decide_eq_decide.2;omega
      simp[hji,this])
    refine⟨d',?_,h2⟩
    rw[hcond]
    exact aY _ h1
   |false=>
    obtain⟨d',h1,h2⟩:=EH zL hDn hb hc Xx m (i+1) d (by omega) (hstep Sj)
    refine⟨d',aS _ ?_,h2⟩
    split
    ·rename_i hm
     have:=Xx i hq hm
     rw[Sj]at this;cases this
    ·exact h1
section
variable{P:Program}{Γ:Nat→TK}{gq:List (Nat×Nat)}{cr:List (Nat×CR)}{ks hs:List Nat}{ops:List Oper}{n0 qs:Nat}
theorem uW: ∀{c:kQ} {s:St} {tr:List TE} {vq acc:List (Nat×List Prop)} {lv:List (List Prop×St)},oK P ty Γ gq cr ks hs ops n0 c s tr vq acc=some lv→ ∀d t sub,(d,t,sub)∈c.Xt→
  ∃o vc s2 l1,ops[t]? =some o∧step P ty Γ gq cr ops (Sg d 0 tr s) o=some (vc,s2)∧oK P ty Γ gq cr ks hs ops n0 sub s2 [] [] (Vm t vc (Sh d vq acc))=some l1∧ ∀x,x∈l1→x∈lv
 | .br d0 t0 aoH next,s,tr,vq,acc,lv,h,d,t,sub,hm=>by
   simp only[oK]at h
   split at h
   case h_2=>cases h
   rename_i s1 o hs1 ho
   have hs1:=tE hs1
   subst hs1
   split at h
   case h_2=>cases h
   rename_i vc s2 hst
   split at h
   case h_2=>cases h
   rename_i s3 hs3
   have hs3:=tE hs3
   subst hs3
   split at h
   case h_2=>cases h
   rename_i l1 l2 h1 h2
   simp only[oI]at h
   rw[jC]at h
   subst h
   simp only[kQ.Xt,bu,pI]at hm
   rcases hm with⟨rfl,rfl,rfl⟩|hm
   ·exact⟨o,vc,_,l1,ho,hst,h1,fun x hx=>aY _ hx⟩
   ·obtain⟨o',vc',s',l',p1,p2,p3,p4⟩:=uW h2 d t sub hm
    exact⟨o',vc',s',l',p1,p2,p3,fun x hx=>aS _ (p4 x hx)⟩
 | .last _,_,_,_,_,_,_,_,_,_,hm=>by simp[kQ.Xt]at hm
 | .ph _ _,_,_,_,_,_,_,_,_,_,hm=>by simp[kQ.Xt]at hm
 | .nil,_,_,_,_,_,_,_,_,_,hm=>by simp[kQ.Xt]at hm
theorem wG: ∀{c:kQ} {s:St} {tr:List TE} {vq acc:List (Nat×List Prop)} {lv:List (List Prop×St)},oK P ty Γ gq cr ks hs ops n0 c s tr vq acc=some lv→ ∀x,x∈lv→ ∀y,y∈acc→ ∀p,p∈y.2→p∈x.1
 | .last q,s,tr,vq,acc,lv,h,x,hx,y,hy,p,hp=>by
   simp only[oK]at h
   repeat' split at h
   all_goals first
    | (cases h;done)
    |skip
   rename_i hf _ _ _ _
   simp only[oI]at h
   subst h
   rw[aZ]at hx
   subst hx
   exact GV hf y (wF.2 (bB hy)) p hp
 | .ph q c,s,tr,vq,acc,lv,h,x,hx,y,hy,p,hp=>by
   simp only[oK]at h
   split at h
   ·exact wG h x hx y hy p hp
   ·cases h
 | .br d0 t0 aoH next,s,tr,vq,acc,lv,h,x,hx,y,hy,p,hp=>by
   simp only[oK]at h
   split at h
   case h_2=>cases h
   split at h
   case h_2=>cases h
   split at h
   case h_2=>cases h
   split at h
   case h_2=>cases h
   rename_i l1 l2 h1 h2
   simp only[oI]at h
   rw[jC]at h
   subst h
   rcases bg.1 hx with hx|hx
   ·exact wG h1 x hx y (AH.2 (bB (wF.2 (bB hy)))) p hp
   ·exact wG h2 x hx y hy p hp
 | .nil,_,_,_,_,_,h,x,hx,_,_,_,_=>by
   simp only[oK,oI]at h
   subst h
   cases hx
theorem BY{n:Nat}: ∀{c:kQ} {B:Nat},okX ops (OX ops) (idx 0 ops) qs n B c=true→ ∀d t sub,(d,t,sub)∈c.Xt→sub.adb=true∧t<n∧okX ops (OX ops) (idx 0 ops) qs n (B|||d|||2^t) sub=true∧mP sub<mP c
 | .br d0 t0 aoH next,B,h,d,t,sub,hm=>by
   simp only[okX,az]at h
   simp only[kQ.Xt,bu,pI]at hm
   rcases hm with⟨rfl,rfl,rfl⟩|hm
   ·exact⟨h.1.1.1,cj h.1.1.2,h.1.2,by simp only[kQ.br.sizeOf_spec];omega⟩
   ·obtain⟨p1,p2,p3,p4⟩:=BY h.2 d t sub hm
    exact⟨p1,p2,p3,by simp only[kQ.br.sizeOf_spec];omega⟩
 | .last _,_,_,_,_,_,hm=>by simp[kQ.Xt]at hm
 | .ph _ _,_,_,_,_,_,hm=>by simp[kQ.Xt]at hm
 | .nil,_,_,_,_,_,hm=>by simp[kQ.Xt]at hm
theorem NH{B q:Nat}{c:kQ}(h:Pp ops (OX ops) ops.length B q c=true)(K:PhX ops qs B q){D:Nat→Bool}(zL: ∀i,D i=true→q.testBit i=true)(hDn: ∀i,D i=true→i<ops.length)
  (QH: ∀i o,(B.testBit i=true∨D i=true)→ops[i]? =some o→ ∀j,j∈eH o→(B.testBit j=true∨D j=true)){t:Nat}{o:Oper}(ho:ops[t]? =some o)(ht:B.testBit t=false)(hqt:q.testBit t=false)(hE: ∀j,j∈eH o→(B.testBit j=true∨D j=true)):
  ∃d sub,(d,t,sub)∈c.Xt∧ ∀i,d.testBit i=D i:=by
 have htl:t<ops.length:=(aV.1 ho).1
 simp only[Pp,bE,eg,dZ]at h
 obtain⟨d,h1,h2⟩:=EH (B:=B) (q:=q) (Si:=(OX ops).getD t 0) zL hDn K.back (fun i o hi=>QH i o (bB hi)) (fun i JA hm=>by
  have:=KH (D:=fun j=>B.testBit j=true∨D j=true) K.back QH t o ho hE i hm
  rcases this with h|h
  ·have hil:i<ops.length:=by
    have:=KH (D:=fun j=>j<t) K.back (fun a b hab hb j hj=>AJ (K.back a b hb j hj) hab) t o ho (fun j hj=>K.back t o ho j hj) _ hm
    omega
   rw[K.qn i hil JA]at h;cases h
  ·exact h) ops.length 0 0 (by omega) (fun j=>by simp)
 rcases h t htl with(h3|h3)|h3
 ·rw[ht]at h3;cases h3
 ·rw[hqt]at h3;cases h3
 ·have h4:=h3 d h1
  simp only[bX,fB,az]at h4
  rcases h4 with h4| ⟨⟨d',t',sub⟩,h5,h6,h7⟩
  ·exfalso
   rw[ho]at h4
   simp only[dP,nN]at h4
   have:((eH o).all fun j=>B.testBit j||d.testBit j)=true:=by
    rw[bE]
    intro j hj
    rw[dZ,h2 j]
    exact hE j hj
   rw[this]at h4;cases h4
  ·have h6:=aJ h6
   have h7:=aJ h7
   simp only at h6 h7
   subst h6;subst h7
   exact⟨d',sub,h5,h2⟩
theorem Xy{B q:Nat}{c:kQ}(aqZ:Pp ops (OX ops) ops.length B q c=true)(K:PhX ops qs B q)(Sm: ∀i o,B.testBit i=true→ops[i]? =some o→ ∀j,j∈eH o→B.testBit j=true)
  (hqc: ∀i o,q.testBit i=true→ops[i]? =some o→ ∀j,j∈eH o→(B.testBit j=true∨q.testBit j=true))(hnot:((bT ops.length).all fun i=>B.testBit i||q.testBit i)=false):
  ∃d t sub,(d,t,sub)∈c.Xt∧(∀i,d.testBit i=(q.testBit i&&decide (i<ops.length)))∧ ∀o,ops[t]? =some o→ ∀j,j∈eH o→(B.testBit j=true∨d.testBit j=true):=by
 have: ∃i,i<ops.length∧B.testBit i=false∧q.testBit i=false∧ ∀j,j<i→B.testBit j=true∨q.testBit j=true:=by
  rw[List.all_eq_false]at hnot
  obtain⟨i,hi,hn⟩:=hnot
  rw[eg]at hi
  simp only[dZ,not_or,Bool.not_eq_true]at hn
  induction i using j9 with
  |_ i ih=>
   by_cases hl: ∀j,j<i→B.testBit j=true∨q.testBit j=true
   ·exact⟨i,hi,hn.1,hn.2,hl⟩
   ·have: ∃j,j<i∧B.testBit j=false∧q.testBit j=false:=by
     apply Classical.byContradiction
     intro hno
     apply hl
     intro j hj
     cases hb:B.testBit j with
     |true=>exact bY rfl
     |false=>
      cases hq:q.testBit j with
      |true=>exact bB rfl
      |false=>exact absurd ⟨j,hj,hb,hq⟩ hno
    obtain⟨j,hj,h1,h2⟩:=this
    exact ih j hj (by omega) ⟨h1,h2⟩
 obtain⟨i,hi,h1,h2,h3⟩:=this
 have ho:=aC hi
 obtain⟨d,sub,h4,h5⟩:=NH (D:=fun j=>q.testBit j&&decide (j<ops.length)) aqZ K (fun j hj=>by simp at hj;exact hj.1) (fun j hj=>by simp at hj;exact hj.2)
  (fun a b hab hb j hj=>by
   have hal:a<ops.length:=(aV.1 hb).1
   have hjl:j<ops.length:=AJ (K.back a b hb j hj) hal
   rcases hab with h|h
   ·exact bY (Sm a b h hb j hj)
   ·simp at h
    rcases hqc a b h.1 hb j hj with h|h
    ·exact bY h
    ·exact bB (by simp[h,hjl])) ho h1 h2 (fun j hj=>by
   have hji:=K.back i _ ho j hj
   rcases h3 j hji with h|h
   ·exact bY h
   ·exact bB (by simp[h];omega))
 refine⟨d,i,sub,h4,h5,fun o ho' j hj=> ?_⟩
 have hji:=K.back i _ ho' j hj
 rcases h3 j hji with h|h
 ·exact bY h
 ·exact bB (by rw[h5 j,h];simp;omega)
theorem Pr{B d t q:Nat}(K:PhX ops qs B q)(Sm: ∀i o,B.testBit i=true→ops[i]? =some o→ ∀j,j∈eH o→B.testBit j=true)(hd: ∀i o,d.testBit i=true→ops[i]? =some o→ ∀j,j∈eH o→(B.testBit j=true∨d.testBit j=true))
  (ht: ∀o,ops[t]? =some o→ ∀j,j∈eH o→(B.testBit j=true∨d.testBit j=true)): ∀i o,(B|||d|||2^t).testBit i=true→ops[i]? =some o→ ∀j,j∈eH o→(B|||d|||2^t).testBit j=true:=by
 intro i o hi ho j hj
 simp only[qT,n8,dZ,decide_eq_true_eq]at hi ⊢
 rcases hi with(h|h)|h
 ·exact bY (bY (Sm i o h ho j hj))
 ·exact bY (hd i o h ho j hj)
 ·subst h;exact bY (ht o ho j hj)
theorem K8: ∀(N:Nat) (p:kQ),mP p≤N→p.adb=true→ ∀(B:Nat) (s:St) (tr:List TE) (vq acc:List (Nat×List Prop)) (lv:List (List Prop×St)),(∀i o,ops[i]? =some o→ ∀j,j∈eH o→j<i)→(∀i o,B.testBit i=true→ops[i]? =some o→ ∀j,j∈eH o→B.testBit j=true)→
  okX ops (OX ops) (idx 0 ops) qs ops.length B p=true→oK P ty Γ gq cr ks hs ops n0 p s tr vq acc=some lv→lv≠ []
 |N, .last q,_,_,B,s,tr,vq,acc,lv,hb,Sm,hok,h=>by
  simp only[oK]at h
  repeat' split at h
  all_goals first
   | (cases h;done)
   |skip
  simp only[oI]at h
  rw[←h];simp
 |0, .ph q c,hN,_,_,_,_,_,_,_,_,_,_,_=>by simp only[kQ.ph.sizeOf_spec]at hN;omega
 |N+1, .ph q c,hN,_,B,s,tr,vq,acc,lv,hb,Sm,hok,h=>by
  simp only[okX,az,bX]at hok
  have K:=Pq hb hok.1.1.1
  obtain⟨d,t,sub,hm,hd,ht⟩:=Xy hok.1.1.2 K Sm K.clq hok.1.2
  simp only[oK]at h
  split at h
  case h_2=>cases h
  rename_i tr' vq' hr
  obtain⟨o,vc,s2,l1,h1,h2,h3,h4⟩:=uW h d t sub hm
  obtain⟨p1,p2,p3,p4⟩:=BY hok.2 d t sub hm
  have hsz:mP sub≤N:=by simp only[kQ.ph.sizeOf_spec]at hN;omega
  have:=K8 N sub hsz p1 (B|||d|||2^t) s2 [] [] _ l1 hb (Pr K Sm (fun i o hi ho j hj=>by
   rw[hd i]at hi
   simp only[az,decide_eq_true_eq]at hi
   rcases K.clq i o hi.1 ho j hj with h|h
   ·exact bY h
   ·exact bB (by rw[hd j,h];have:=K.back i o ho j hj;simp;omega)) ht) p3 h3
  intro hnil
  cases l1 with
  |nil=>exact this rfl
  |cons x r=>have:=h4 x (by simp);rw[hnil]at this;cases this
 |_, .br _ _ _ _,_,hp,_,_,_,_,_,_,_,_,_,_=>by cases hp
 |_, .nil,_,hp,_,_,_,_,_,_,_,_,_,_=>by cases hp
variable{zb:eM}{Q:Exit→Act→World→Prop}
theorem NI(X:Ctx P ty Γ){B q:Nat}{s:St}{tr:List TE}{vq:List (Nat×List Prop)}(T:TrX Γ (Zc P ty) (Sound ty P) gq cr ops q s tr vq)(K:PhX ops qs B q)(hv: ∀x,x∈vq→q.testBit x.1=true→x.1<ops.length→ ∀p,p∈x.2→p)(Sm: ∀i o,B.testBit i=true→ops[i]? =some o→ ∀j,j∈eH o→B.testBit j=true)
  (fin: ∀a w,(∀i,i<ops.length→B.testBit i=true∨q.testBit i=true)→Inv ty zb (jr (fun j=>q.testBit j) tr s ops.length) a w→Q .normal a w)
  (l9: ∀(fuel:Nat) (D:Nat→Bool) (listed:Array Bool) (i:Nat) (o:Oper) (a:Act) (w:World),listed.size=ops.length→(∀j,j<ops.length→listed.getD j false=(B.testBit j||D j))→(∀i,D i=true→q.testBit i=true)→(∀i,D i=true→i<ops.length)→
   (∀i o,(B.testBit i=true∨D i=true)→ops[i]? =some o→ ∀j,j∈eH o→(B.testBit j=true∨D j=true))→ops[i]? =some o→B.testBit i=false→q.testBit i=false→(∀j,j∈eH o→(B.testBit j=true∨D j=true))→cnt ops.length (fun j=>(listed.setIfInBounds i true).getD j false)≤fuel→
   Inv ty zb (jr D tr s ops.length) a w→lX P ops.toArray o a w (wpAny P .any ops.toArray Q fuel (listed.setIfInBounds i true)) Q):
  ∀(fuel:Nat) (D:Nat→Bool) (listed:Array Bool) (a:Act) (w:World),listed.size=ops.length→(∀j,j<ops.length→listed.getD j false=(B.testBit j||D j))→(∀i,D i=true→q.testBit i=true)→(∀i,D i=true→i<ops.length)→
   (∀i o,(B.testBit i=true∨D i=true)→ops[i]? =some o→ ∀j,j∈eH o→(B.testBit j=true∨D j=true))→cnt ops.length (fun j=>listed.getD j false)≤fuel→Inv ty zb (jr D tr s ops.length) a w→wpAny P .any ops.toArray Q fuel listed a w:=by
 have all: ∀{D:Nat→Bool} {listed:Array Bool} {a:Act} {w:World},listed.size=ops.length→(∀j,j<ops.length→listed.getD j false=(B.testBit j||D j))→(∀i,D i=true→q.testBit i=true)→uN .any ops.toArray listed= []→Inv ty zb (jr D tr s ops.length) a w→Q .normal a w:=by
  intro D listed a w hl hL zL hnil iv
  have aq0: ∀i,i<ops.length→listed.getD i false=true:=by
   intro i
   induction i using j9 with
   |_ i ih=>
    intro hi
    cases hd:listed.getD i false with
    |true=>rfl
    |false=>
     have:i∈uN .any ops.toArray listed:=(Gw hl).2 ⟨ops[i],aC hi,hd,fun j hj=>by
      have:=K.back i _ (aC hi) j hj
      exact ih j this (by omega)⟩
     rw[hnil]at this
     cases this
  have hBD: ∀i,i<ops.length→B.testBit i=true∨D i=true:=by
   intro i hi
   have:=aq0 i hi
   rw[hL i hi,dZ]at this
   exact this
  refine fin a w (fun i hi=>(hBD i hi).imp id (zL i)) ?_
  rw[←GW (D:=D) fun i hi=> ?_]
  ·exact iv
  ·cases hq:q.testBit i with
   |false=>
    cases hd:D i with
    |false=>rfl
    |true=>rw[zL i hd]at hq;cases hq
   |true=>
    rcases hBD i hi with h|h
    ·rw[K.qn i hi hq]at h;cases h
    ·exact h
 intro fuel
 induction fuel with
 |zero=>
  intro D listed a w hl hL zL hDm QH hf iv
  have hz:=acv (by omega:cnt ops.length (fun i=>listed.getD i false)=0)
  have hnil:uN .any ops.toArray listed= []:=by
   apply List.eq_nil_iff_forall_not_mem.2
   intro i hi
   obtain⟨o,ho,h1,_⟩:=(Gw hl).1 hi
   rw[hz i (aV.1 ho).1]at h1
   cases h1
  exact⟨hnil,all hl hL zL hnil iv⟩
 |succ fuel ih=>
  intro D listed a w hl hL zL hDm QH hf iv
  refine⟨fun hnil=>all hl hL zL hnil iv,fun i hi=> ?_⟩
  obtain⟨o,ho,hif,hE0⟩:=(Gw hl).1 hi
  have hin:=(aV.1 ho).1
  have hE: ∀j,j∈eH o→(B.testBit j=true∨D j=true):=by
   intro j hj
   have:=hE0 j hj
   rw[hL j (by have:=K.back i o ho j hj;omega),dZ]at this
   exact this
  rw[hL i hin,jX]at hif
  obtain⟨hBi,Sj⟩:=hif
  have aoI: ∀j,(listed.setIfInBounds i true).getD j false=(listed.getD j false||j==i):=fun j=>RL (by omega)
  have hfun:(fun j=>(listed.setIfInBounds i true).getD j false)=fun j=>listed.getD j false||j==i:=funext aoI
  have ahD:cnt ops.length (fun j=>(listed.setIfInBounds i true).getD j false)≤fuel:=by
   rw[hfun]
   have:=ag5 (D:=fun i=>listed.getD i false) hin (by rw[hL i hin,hBi,Sj];rfl)
   omega
  unfold wpOp
  rw[rq,ho]
  dsimp only
  cases JA:q.testBit i with
  |true=>
   have hstep:=Vo (Q:=Q) X.kind T K hv zL hDm QH JA Sj ho hE iv
   refine lX.mono (fun a' w' vG=>ih (fun j=>D j||j==i) (listed.setIfInBounds i true) a' w' (by simpa using hl) (fun j hj=> ?_) (fun j hj=> ?_) (fun j hj=> ?_) (fun a b hab hb j hj=> ?_) ahD vG) hstep
   ·rw[aoI,hL j hj,Bool.or_assoc]
   ·simp only[dZ,beq_iff_eq]at hj
    rcases hj with h|rfl
    ·exact zL j h
    ·exact JA
   ·simp only[dZ,beq_iff_eq]at hj
    rcases hj with h|rfl
    ·exact hDm j h
    ·exact hin
   ·have up: ∀{x},(B.testBit x=true∨D x=true)→(B.testBit x=true∨(D x||x==i)=true):=fun h=>h.imp id (fun h=>by simp[h])
    simp only[dZ,beq_iff_eq]at hab
    rcases hab with h|h|rfl
    ·exact up (QH a b (bY h) hb j hj)
    ·exact up (QH a b (bB h) hb j hj)
    ·rw[ho]at hb
     simp only[oI]at hb
     subst hb
     exact up (hE j hj)
  |false=>exact l9 fuel D listed i o a w hl hL zL hDm QH ho hBi JA hE ahD iv
theorem Sn(X:Ctx P ty Γ)(hb: ∀i o,ops[i]? =some o→ ∀j,j∈eH o→j<i): ∀(N:Nat) (p:kQ),mP p≤N→p.adb=true→ ∀(B:Nat) (s:St) (tr0:List TE) (vq0 acc:List (Nat×List Prop)) (lv:List (List Prop×St)),
  (∀i o,B.testBit i=true→ops[i]? =some o→ ∀j,j∈eH o→B.testBit j=true)→okX ops (OX ops) (idx 0 ops) qs ops.length B p=true→oK P ty Γ gq cr ks hs ops n0 p s tr0 vq0 acc=some lv→
  (∀x,x∈lv→(∀q,q∈x.1→q)∧ ∀a w,Inv ty zb x.2 a w→Q .normal a w)→
  ∀(fuel:Nat) (listed:Array Bool) (a:Act) (w:World),listed.size=ops.length→(∀j,j<ops.length→listed.getD j false=B.testBit j)→cnt ops.length (fun j=>listed.getD j false)≤fuel→Inv ty zb s a w→wpAny P .any ops.toArray Q fuel listed a w
 |N, .last q,hN,_,B,s,tr0,vq0,acc,lv,Sm,hok,h,hlv,fuel,listed,a,w,hl,hL,hf,iv=>by
  simp only[okX,az]at hok
  have K:=Pq hb hok.1
  simp only[oK]at h
  split at h
  case h_2=>cases h
  rename_i tr vq hr
  split at h
  case h_2=>cases h
  rename_i n sl1 iW hs1
  have hs1:=tE hs1
  split at h
  case h_2=>cases h
  rename_i sl hp vc h1 h2 h3
  split at h
  case h_2=>cases h
  rename_i hcl hn
  simp only[oI]at h
  have T:=TrX.of hr
  obtain⟨hx1,hx2⟩:=hlv (vc,⟨n0,sl,hp⟩) (by rw[←h];simp)
  have hmk:jr (fun j=>q.testBit j) tr s ops.length=⟨n,sl1,iW⟩:=by
   rw[hs1,EG,T.len]
   congr 1
   funext j;rw[fL]
  refine NI X T K (fun x hx hq _ p hp=>hx1 p (GV h3 x (wF.2 (bY ⟨hx,hq⟩)) p hp)) Sm (fun a w _ vG=> ?_) (fun fuel D listed i o a w _ _ _ _ _ ho hBi JA _ _ _=> ?_) fuel (fun _=>false) listed a w hl (fun j hj=>by rw[hL j hj,xQ]) (by simp) (by simp) (fun i o hi ho j hj=>by
    rcases hi with h|h
    ·exact bY (Sm i o h ho j hj)
    ·cases h) hf (by rw[K6];exact iv)
  ·rw[hmk]at vG
   exact hx2 a w (vG.weaken (aJ hn).symm (nZ h1) (n7 h2) hcl)
  ·exfalso
   have hil:=(aV.1 ho).1
   have:=bE.1 hok.2 i (eg.2 hil)
   rw[hBi,JA]at this;cases this
 |0, .ph q c,hN,_,_,_,_,_,_,_,_,_,_,_,_,_,_,_,_,_,_,_=>by simp only[kQ.ph.sizeOf_spec]at hN;omega
 |N+1, .ph q c,hN,_,B,s,tr0,vq0,acc,lv,Sm,hok,h,hlv,fuel,listed,a,w,hl,hL,hf,iv=>by
  simp only[okX,az,bX]at hok
  have K:=Pq hb hok.1.1.1
  obtain⟨d,t,sub,hm,hd,ht⟩:=Xy hok.1.1.2 K Sm K.clq hok.1.2
  simp only[oK]at h
  split at h
  case h_2=>cases h
  rename_i tr vq hr
  have T:=TrX.of hr
  have hv: ∀x,x∈vq→q.testBit x.1=true→x.1<ops.length→ ∀p,p∈x.2→p:=by
   obtain⟨o,vc,s2,l1,h1,h2,h3,h4⟩:=uW h d t sub hm
   obtain⟨p1,p2,p3,p4⟩:=BY hok.2 d t sub hm
   have hsz:mP sub≤N:=by simp only[kQ.ph.sizeOf_spec]at hN;omega
   have hne:=K8 N sub hsz p1 (B|||d|||2^t) s2 [] [] _ l1 hb (Pr K Sm (fun i o hi ho j hj=>by
    rw[hd i]at hi
    simp only[az,decide_eq_true_eq]at hi
    rcases K.clq i o hi.1 ho j hj with h|h
    ·exact bY h
    ·exact bB (by rw[hd j,h];have:=K.back i o ho j hj;simp;omega)) ht) p3 h3
   cases l1 with
   |nil=>exact absurd rfl hne
   |cons x r=>
    intro y hy hq hyl p hp
    exact(hlv x (h4 x (by simp))).1 p (wG h3 x (by simp) y (AH.2 (bB (wF.2 (bY ⟨hy,by rw[hd y.1,hq];simp[hyl]⟩)))) p hp)
  refine NI X T K hv Sm (fun a w hall _=> ?_) (fun fuel D listed i o a w hl hL zL hDm QH ho hBi JA hE ahD vG=> ?_) fuel (fun _=>false) listed a w hl (fun j hj=>by rw[hL j hj,xQ]) (by simp) (by simp) (fun i o hi ho j hj=>by
    rcases hi with h|h
    ·exact bY (Sm i o h ho j hj)
    ·cases h) hf (by rw[K6];exact iv)
  ·exfalso
   have:((bT ops.length).all fun i=>B.testBit i||q.testBit i)=true:=by
    rw[bE]
    intro i hi
    rw[dZ]
    exact hall i (eg.1 hi)
   rw[hok.1.2]at this;cases this
  ·obtain⟨d,sub,hm,hd⟩:=NH hok.1.1.2 K zL hDm QH ho hBi JA hE
   obtain⟨o',vc,s2,l1,h1,h2,h3,h4⟩:=uW h d i sub hm
   rw[ho]at h1
   simp only[oI]at h1
   subst h1
   obtain⟨p1,p2,p3,p4⟩:=BY hok.2 d i sub hm
   have hsz:mP sub≤N:=by simp only[kQ.ph.sizeOf_spec]at hN;omega
   have hmk:Sg d 0 tr s=jr D tr s ops.length:=by
    rw[EG,T.len]
    exact GW fun j _=>by rw[fL];exact hd j
   rw[hmk]at h2
   have aoJ:=Pr (d:=d) (t:=i) K Sm (fun i o hi ho j hj=>by
    rw[hd i]at hi
    rw[hd j]
    exact QH i o (bB hi) ho j hj) (fun o2 ho2 j hj=>by
    rw[ho]at ho2
    simp only[oI]at ho2
    subst ho2
    rw[hd j]
    exact hE j hj)
   have hne:=K8 N sub hsz p1 (B|||d|||2^i) s2 [] [] _ l1 hb aoJ p3 h3
   have hvc: ∀p,p∈vc→p:=by
    cases l1 with
    |nil=>exact absurd rfl hne
    |cons x r=>
     intro p hp
     exact(hlv x (h4 x (by simp))).1 p (wG h3 x (by simp) (i,vc) (AH.2 (bY rfl)) p hp)
   have hstep:=BQ (Q:=Q) X.kind X.one h2 vG hvc
   refine lX.mono (fun a' w' iv2=>Sn X hb N sub hsz p1 (B|||d|||2^i) s2 [] [] _ l1 aoJ p3 h3 (fun x hx=>hlv x (h4 x hx)) fuel (listed.setIfInBounds i true) a' w' (by simpa using hl) (fun j hj=> ?_) ahD iv2) hstep
   have hin:=(aV.1 ho).1
   rw[RL (by omega),hL j hj]
   simp only[qT,n8,hd j]
   by_cases hji:j=i
   ·subst hji;simp
   ·have: ¬i=j:=fun e=>hji e.symm
    simp[hji,this]
 |_, .br _ _ _ _,_,hp,_,_,_,_,_,_,_,_,_,_,_,_,_,_,_,_,_,_=>by cases hp
 |_, .nil,_,hp,_,_,_,_,_,_,_,_,_,_,_,_,_,_,_,_,_,_=>by cases hp
end
def NJ(x:List Prop×St):List (List Prop×St)→Prop
 | []=>True
 |y::r=>y=x∧NJ x r
theorem NJ.out{x:List Prop×St}: ∀{l:List (List Prop×St)},NJ x l→ ∀y,y∈l→y=x
 |_::_,h,y,hy=>by
  rcases bu.1 hy with rfl|hy
  ·exact h.1
  ·exact NJ.out h.2 y hy
section
variable{P:Program}{Γ:Nat→TK}{zb:eM}{Q:Post}{st:St}
theorem ade(X:Ctx P ty Γ)(gq:List (Nat×Nat))(cr:List (Nat×CR))(ks hs:List Nat)(qs:Nat)(pl:kQ){id:Nat}{ops:List Oper}{vc:List Prop}{st':St}{rest:List (List Prop×St)}(hm:P.follows .mixedOrders=true)(hc:ahA ops qs pl=true)(h:oK P ty Γ gq cr ks hs ops st.n pl st [] [] []=some ((vc,st')::rest))(he:NJ (vc,st') rest)(hv:tF vc)(k:Q .normal st'):
  W P ty zb (.region id ops.toArray true) Q st:=by
 intro a w iv
 simp only[ahA,az]at hc
 have hb:=aoB hc.1.1
 refine wp_region_any hm ?_
 have hz: ∀i,(Array.replicate ops.toArray.size false).getD i false=false:=by
  intro i
  rw[ak,Array.getElem?_replicate]
  split<;>rfl
 refine Sn (zb:=zb) (Q:=IV ty zb Q) X hb _ pl (bq _) hc.1.2 0 st [] [] [] _ (fun i o hi=>by simp at hi) hc.2 h (fun x hx=> ?_) _ _ a _ (by simp) (fun j hj=>by rw[hz];simp) ?_ ?_
 ·have hx:x=(vc,st'):=by
   rcases bu.1 hx with rfl|hx
   ·rfl
   ·exact he.out x hx
  subst hx
  exact⟨hv.out,fun a w vG=>⟨st',vG,k⟩⟩
 ·unfold cnt
  refine dH (List.length_filter_le _ _) ?_
  simp
 ·obtain⟨env,g⟩:=iv.good
  have hdr:Below w.heap.size w w.drew:=(Below.refl _ _).drew
  refine⟨iv.size,iv.defers,iv.kept.trans (nT hdr iv.kept.size),iv.Jt,env,?_⟩
  have:=g.grow (os:= []) (w':=w.drew) (env':=env) iv.kept.size rfl (qo.none hdr)
  exact this
end
section
variable{P:Program}{Γ:Nat→TK}{zb:eM}{Q:Post}{st:St}
theorem adf(X:Ctx P ty Γ)(gq:List (Nat×Nat))(cr:List (Nat×CR))(ks hs:List Nat)(qs:Nat)(pl:kQ)(nw:Nat){id:Nat}{ops:List Oper}{vc:List Prop}{st':St}(hm:P.follows .mixedOrders=true)(hc:ahA ops qs pl=true)(_h0:G.reg P ty Γ gq cr ks hs ops st=some (vc,st'))(h:oK P ty Γ gq cr ks hs ops st.n pl st [] [] []=some ((vc,st')::eK nw (vc,st')))(hv:tF vc)(k:Q .normal st'):
  W P ty zb (.region id ops.toArray true) Q st:=by
 refine ade X gq cr ks hs qs pl hm hc h ?_ hv k
 have: ∀n,NJ (vc,st') (eK n (vc,st')):=by
  intro n
  induction n with
  |zero=>trivial
  |succ n ih=>exact⟨rfl,ih⟩
 exact this nw
def hasB(B:Nat)(es:List Nat):Bool:=es.all fun j=>B.testBit j
def mkQ(B qs:Nat):List (Nat×List Nat)→Nat→Nat
 | [],q=>q
 | (i,es)::r,q=>match !B.testBit i&&qs.testBit i&&hasB (B|||q) es with
   |true=>mkQ B qs r (q|||2^i)
   |false=>mkQ B qs r q
def enD(B q clt:Nat):List (Nat×List Nat)→Nat→List Nat
 | [],d=> [d]
 | (i,es)::r,d=>match q.testBit i with
   |false=>enD B q clt r d
   |true=>(match hasB (B|||d) es with|true=>enD B q clt r (d|||2^i)|false=> [])++(match clt.testBit i with|true=> []|false=>enD B q clt r d)
def mkB(f:Nat→kQ)(B q:Nat)(E:List (Nat×List Nat))(cl:List Nat):List (Nat×List Nat)→kQ
 | []=> .nil
 | (t,es)::r=>match(B|||q).testBit t with
   |true=>mkB f B q E cl r
   |false=>((enD B q (cl.getD t 0) E 0).filter fun d=>hasB (B|||d) es).foldr (fun d p=> .br d t (f (B|||d|||2^t)) p) (mkB f B q E cl r)
def mkP(E:List (Nat×List Nat))(cl:List Nat)(qs full:Nat):Nat→Nat→kQ
 |0,_=> .nil
 |k+1,B=>match mkQ B qs E 0 with
  |q=>match bW (B|||q) full with
   |true=> .last q
   |false=> .ph q (mkB (mkP E cl qs full k) B q E cl E)
def Vq(ops:List Oper)(qs:Nat):kQ:=mkP ((idx 0 ops).map fun e=>(e.1,eH e.2)) (OX ops) qs (2^ops.length-1) (ops.length+1) 0
theorem aQ(X:Ctx P ty Γ)(gq:List (Nat×Nat))(cr:List (Nat×CR))(ks hs:List Nat)(qs:Nat)(nw:Nat){id:Nat}{ops:List Oper}{vc:List Prop}{st':St}(hm:P.follows .mixedOrders=true)(hc:ahA ops qs (Vq ops qs)=true)(h0:G.reg P ty Γ gq cr ks hs ops st=some (vc,st'))(h:oK P ty Γ gq cr ks hs ops st.n (Vq ops qs) st [] [] []=some ((vc,st')::eK nw (vc,st')))(hv:tF vc)(k:Q .normal st'):
  W P ty zb (.region id ops.toArray true) Q st:=adf X gq cr ks hs qs (Vq ops qs) nw hm hc h0 h hv k
end
end
section
variable{ty:Tag→Nat}
def SF(st:St)(n i:Nat):Option St:=match look st.hp n with
 |some (.box c)=>match D2 c i with
  |some (.own m)=>match look st.hp m with
   |some (.arr t l)=>match fHp ((n, .box (c.set i (.vw m none t l)))::st.hp.filter fun e=> !Nat.beq e.1 n)with
    |some hp=>some ⟨st.n,st.sl,hp⟩
    |none=>none
   |_=>none
  |_=>none
 |_=>none
theorem AM{α:Type}{hp:List (Nat×α)}{n m:Nat}(h:m≠n):look (hp.filter fun e=> !Nat.beq e.1 n) m=look hp m:=by
 induction hp with
 |nil=>rfl
 |cons e r ih=>
  obtain⟨j,x⟩:=e
  by_cases hj:j=n
  ·subst hj
   rw[eG (by simp),ih,cF h]
  ·have:bW j n=false:=by
    cases hb:bW j n with
    |false=>rfl
    |true=>exact absurd (aJ hb) hj
   rw[dV (by simp[this])]
   by_cases hm:m=j
   ·subst hm;rw[look_eq,look_eq]
   ·rw[cF hm,cF hm,ih]
theorem cW.set{α β:Type}{R:α→β→Prop}: ∀{as:List α} {bs:List β} {i:Nat} {x:α},cW R as bs→(∀y,bs[i]? =some y→R x y)→cW R (as.set i x) bs
 | [],[],_,_,_,_=>trivial
 |a::as,b::bs,0,x,h,hx=>⟨hx b rfl,h.2⟩
 |a::as,b::bs,i+1,x,h,hx=>⟨h.1,cW.set h.2 (fun y hy=>hx y (by simpa using hy))⟩
 | [],_::_,_,_,h,_=>h.elim
 |_::_,[],_,_,h,_=>h.elim
section
variable{P:Program}{zb:eM}{st st':St}{Q:Post}
theorem Inv.SF{a:Act}{w:World}(n i:Nat)(h:G.SF st n i=some st')(iv:Inv ty zb st a w):Inv ty zb st' a w:=by
 unfold G.SF at h
 split at h
 case h_2=>cases h
 rename_i c hc
 split at h
 case h_2=>cases h
 rename_i m hm
 split at h
 case h_2=>cases h
 rename_i t l hl
 split at h
 case h_2=>cases h
 rename_i hp hf
 simp only[oI]at h
 subst h
 have hf:=OT hf
 obtain⟨env,g⟩:=iv.good
 have hmn:m≠n:=by rintro rfl;rw[hl]at hc;cases hc
 have hlk: ∀k o,look hp k=some o→(k=n∧o= .box (c.set i (.vw m none t l)))∨(k≠n∧look st.hp k=some o):=by
  intro k o hk
  rw[hf]at hk
  by_cases hkn:k=n
  ·subst hkn;rw[look_eq]at hk;simp only[oI]at hk;exact bY ⟨rfl,hk.symm⟩
  ·rw[cF hkn,AM hkn]at hk;exact bB ⟨hkn,hk⟩
 have hne: ∀k o,k≠n→look st.hp k=some o→look hp k=some o:=by
  intro k o hkn hk
  rw[hf,cF hkn,AM hkn];exact hk
 have hnn:look hp n=some (.box (c.set i (.vw m none t l))):=by rw[hf,look_eq]
 have s:Step (fun _=>True) (fun _=>True) w st.hp env w hp env:=by
  refine⟨fun _ _ _=>rfl,?_,?_,?_⟩
  ·rintro b _ ⟨k,o,h1,h2⟩
   rcases hlk k o h1 with⟨rfl,_⟩| ⟨_,h3⟩
   ·exact⟨_,_,hc,h2⟩
   ·exact⟨k,o,h3,h2⟩
  ·intro k o _ h1
   by_cases hkn:k=n
   ·subst hkn
    rw[hc]at h1
    simp only[oI]at h1
    subst h1
    exact⟨_,hnn,trivial,rfl⟩
   ·exact⟨o,hne k o hkn h1,by cases o<;>simp[Obj.like],rfl⟩
  ·intro k t' l' _ h1
   have hkn:k≠n:=by rintro rfl;rw[hc]at h1;cases h1
   exact⟨hne k _ hkn h1,rfl,fun _ _=>rfl⟩
 refine⟨iv.size,iv.defers,iv.kept,iv.Jt,env,⟨fun k o hk=> ?_,fun k k' o o' hkk h1 h2=> ?_,fun t v hv=>xu.step s (fun v _=>v.jq) (g.slot t v hv),fun k o hk b hb=> ?_,g.pins⟩⟩
 ·rcases hlk k o hk with⟨rfl,rfl⟩| ⟨hkn,h3⟩
  ·obtain⟨b,cs,e,h1,h2,h3⟩:=g.obj _ _ hc
   refine⟨b,cs,e,h1,h2,cW.set (h3.mono fun x y _ hr=>RA.step s x.jq hr) fun y hy=> ?_⟩
   rw[Jv]at hm
   obtain⟨y',hy',hr⟩:=h3.at hm
   rw[hy]at hy'
   simp only[oI]at hy'
   subst hy'
   obtain⟨_,hu⟩:=hr
   have hro:=g.obj m _ hl
   have hlm:=hne m _ hmn hl
   refine⟨⟨t,l,hlm⟩,⟨(env m).fp,?_,(RO.own hro).nodup,fun _ h=>h⟩,by simp⟩
   rw[hu];exact RO.sl hro
  ·exact(g.obj k o h3).step s o.jq (fun _ _=>rfl)
 ·have: ∀k o,look hp k=some o→ ∃x,look st.hp k=some x:=by
   intro k o hk
   rcases hlk k o hk with⟨rfl,_⟩| ⟨_,h3⟩
   ·exact⟨_,hc⟩
   ·exact⟨_,h3⟩
  obtain⟨x,hx⟩:=this k o h1
  obtain⟨y,hy⟩:=this k' o' h2
  exact g.qn k k' x y hkk hx hy
 ·rcases hlk k o hk with⟨rfl,_⟩| ⟨_,h3⟩
  ·exact g.dom _ _ hc b hb
  ·exact g.dom k o h3 b hb
theorem adp{c:Code}(n i:Nat)(h:G.SF st n i=some st')(k:W P ty zb c Q st'):W P ty zb c Q st:=fun a w iv=>k a w (iv.SF n i h)
end
end
section
variable{ty:Tag→Nat}
def CS(a b n:Nat):Nat:=match bW n a,bW n b with
 |true,_=>b
 |false,true=>a
 |false,false=>n
def V.sw(a b:Nat):V→V
 | .own n=> .own (CS a b n)
 | .ptr n o=> .ptr (CS a b n) o
 | .za n i o=> .za (CS a b n) i o
 | .vw n p t l=> .vw (CS a b n) p t l
 | .QB n p t x o=> .QB (CS a b n) p t x o
 | .QC n t l=> .QC (CS a b n) t l
 | .M7 f n=> .M7 f (CS a b n)
 | .mix n c t l=> .mix (CS a b n) c t l
 | .Mn n=> .Mn (CS a b n)
 |v=>v
def S1.sw(a b:Nat):S1→S1
 | .a v=> .a (v.sw a b)
 | .agg l=> .agg (l.map (V.sw a b))
def SV.sw(a b:Nat):SV→SV
 | .one x=> .one (x.sw a b)
 | .CI l=> .CI (l.map (S1.sw a b))
 | .cond p x=> .cond p (x.sw a b)
def xd.sw(a b:Nat):xd→xd
 | .of n=> .of (CS a b n)
 | .Gd _=> .Gd none
 |s=>s
def Obj.sw(a b:Nat):Obj→Obj
 | .box c=> .box (c.map (V.sw a b))
 | .arr t l=> .arr t l
 | .mI t l s=> .mI t l (s.sw a b)
def Uh(a b:Nat)(hp:Hp):Hp:=hp.map fun e=>(CS a b e.1,e.2.sw a b)
def adK(st:St)(a b:Nat):Option St:=match p9 a,p9 b,soft a,soft b with
 |false,false,false,false=>Zt ⟨st.n,st.sl.map fun e=>(e.1,e.2.sw a b),Uh a b st.hp⟩
 |_,_,_,_=>none
theorem VB(a b n:Nat):CS a b n=if n=a then b else if n=b then a else n:=by
 unfold CS
 by_cases h1:n=a
 ·subst h1;rw[if_pos rfl,Ab]
 ·have e1:bW n a=false:=by
   cases h:bW n a with
   |false=>rfl
   |true=>exact absurd (aJ h) h1
  rw[if_neg h1,e1]
  by_cases h2:n=b
  ·subst h2;rw[if_pos rfl,Ab]
  ·have e2:bW n b=false:=by
    cases h:bW n b with
    |false=>rfl
    |true=>exact absurd (aJ h) h2
   rw[if_neg h2,e2]
theorem uZ(a b n:Nat):CS a b (CS a b n)=n:=by
 simp only[VB]
 by_cases h1:n=a
 ·subst h1;simp only[if_true]
  by_cases h2:b=n
  ·rw[if_pos h2,h2]
  ·rw[if_neg h2]
 ·by_cases h2:n=b
  ·subst h2;simp[h1]
  ·simp[h1,h2]
theorem ahN{a b n m:Nat}(h:CS a b n=CS a b m):n=m:=by
 have:=congrArg (CS a b) h
 rwa [uZ,uZ]at this
theorem wL(a b:Nat): ∀(hp:Hp) (n:Nat),look (Uh a b hp) n=(look hp (CS a b n)).map (Obj.sw a b)
 | [],n=>rfl
 | (j,x)::r,n=>by
   show look ((CS a b j,x.sw a b)::Uh a b r) n=_
   by_cases h:n=CS a b j
   ·subst h
    rw[look_eq,uZ,look_eq];rfl
   ·rw[cF h,wL a b r n,cF]
    intro e
    exact h (by rw[←e,uZ])
section
variable{w:World}{hp:Hp}{env:Env}{a b:Nat}
theorem va{n:Nat}{t:Tag}{l:List (T t)}(h:look hp n=some (.arr t l)):look (Uh a b hp) (CS a b n)=some (.arr t l):=by
 rw[wL,uZ,h];rfl
theorem XK{n:Nat}{c:List V}(h:look hp n=some (.box c)):look (Uh a b hp) (CS a b n)=some (.box (c.map (V.sw a b))):=by
 rw[wL,uZ,h];rfl
def esw(a b:Nat)(env:Env):Env:=fun n=>env (CS a b n)
theorem qH(n:Nat):esw a b env (CS a b n)=env n:=by unfold esw;rw[uZ]
theorem yc{x:Nat}(h:Ow (Uh a b hp) (esw a b env) x):Ow hp env x:=by
 obtain⟨n,o,h1,h2⟩:=h
 rw[wL]at h1
 cases hq:look hp (CS a b n)with
 |none=>rw[hq]at h1;cases h1
 |some o'=>exact⟨_,_,hq,h2⟩
theorem RV.sw{n:Nat}{p:Option (Nat×Nat)}{t:Tag}{l:List (T t)}{u:Value}(h:RV w hp env n p t l u):RV w (Uh a b hp) (esw a b env) (CS a b n) p t l u:=by
 obtain⟨⟨t1,l1,h1⟩,⟨fp,h2,h3,h4⟩,h5⟩:=h
 refine⟨⟨t1,l1,va h1⟩,⟨fp,h2,h3,by rw[qH];exact h4⟩,fun i off hp'=> ?_⟩
 obtain⟨t0,l0,b0,o,len,cap,q1,q2,q3,q4,q5,q6⟩:=h5 i off hp'
 exact⟨t0,l0,b0,o,len,cap,va q1,q2,q3,by rw[qH];exact q4,by rw[qH];exact q5,q6⟩
theorem RA.sw{v:V}{u:Value}(h:RA w hp env v u):RA w (Uh a b hp) (esw a b env) (v.sw a b) u:=by
 cases v with
 |any=>trivial
 |lit v=>exact h
 |IJ k=>exact h
 |raw v=>exact h
 |BF v t l=>obtain⟨hu,fp,h1,h2⟩:=h;exact⟨hu,fp,h1,fun x hx ho=>h2 x hx (yc ho)⟩
 |sl t l=>obtain⟨fp,h1,h2⟩:=h;exact⟨fp,h1,fun x hx ho=>h2 x hx (yc ho)⟩
 |ip t x off=>obtain⟨b',o,cs,fp,h1,h2,h3,h4,h5,h6⟩:=h;exact⟨b',o,cs,fp,h1,h2,h3,h4,fun ho=>h5 (yc ho),fun c hc ho=>h6 c hc (yc ho)⟩
 |own n=>obtain⟨⟨t,l,hl⟩,hu⟩:=h;exact⟨⟨t,l,va hl⟩,by rw[qH];exact hu⟩
 |ptr n off=>obtain⟨⟨c,hl⟩,b',h1,h2⟩:=h;exact⟨⟨_,XK hl⟩,b',by rw[qH];exact h1,h2⟩
 |M7 f n=>obtain⟨⟨c,hl⟩,b',h1,h2⟩:=h;exact⟨⟨_,XK hl⟩,b',by rw[qH];exact h1,h2⟩
 |za n i off=>obtain⟨t,l,hl,b',o,len,cap,h1,h2⟩:=h;exact⟨t,l,va hl,b',o,len,cap,by rw[qH];exact h1,h2⟩
 |vw n p t l=>exact RV.sw h
 |QC n t l=>
  obtain⟨⟨t1,l1,h1⟩,b',fp,h2,h3,h4,h5⟩:=h
  exact⟨⟨t1,l1,va h1⟩,b',fp,h2,fun ho=>h3 (yc ho),h4,by rw[qH];exact h5⟩
 |Mn n=>
  obtain⟨⟨t,l,s,hl⟩,hu⟩:=h
  exact⟨⟨t,l,s.sw a b,by rw[wL,uZ,hl];rfl⟩,by rw[qH];exact hu⟩
 |mix n c t l=>
  obtain⟨⟨t1,l1,h1⟩,⟨fp,h2,h3⟩,h4⟩:=h
  exact⟨⟨t1,l1,va h1⟩,⟨fp,h2,fun x hx=>(h3 x hx).imp (fun q=>by rw[qH];exact q) (fun q ho=>q (yc ho))⟩,h4⟩
 |QB n p t x off=>
  obtain⟨⟨t1,l1,h1⟩,b',o,cs,fp,h2,h3,h4,h5,h6,h7,h8⟩:=h
  refine⟨⟨t1,l1,va h1⟩,b',o,cs,fp,h2,by rw[qH];exact h3,h4,h5,h6,by rw[qH];exact h7,fun i o2 j hp'=> ?_⟩
  obtain⟨l2,u0,b0,vC,len,cap,q1,q2,q3,q4,q5⟩:=h8 i o2 j hp'
  exact⟨l2,u0,b0,vC,len,cap,q1.sw,q2,q3,q4,q5⟩
theorem jU.sw{x:S1}{u:Value}(h:jU w hp env x u):jU w (Uh a b hp) (esw a b env) (x.sw a b) u:=by
 cases x with
 |a v=>exact RA.sw h
 |agg l=>obtain⟨cs,h1,h2⟩:=h;exact⟨cs,h1,h2.map fun _ _ q=>RA.sw q⟩
theorem xu.sw{tmps:Array Value}{x:SV}{u:Value}(h:xu w hp env tmps x u):xu w (Uh a b hp) (esw a b env) tmps (x.sw a b) u:=by
 cases x with
 |one x=>exact jU.sw h
 |CI l=>obtain⟨us,h1,h2⟩:=h;exact⟨us,h1,h2.map fun _ _ q=>jU.sw q⟩
 |cond p x=>exact⟨fun q=>jU.sw (h.1 q),h.2⟩
theorem BE.sw{s:xd}{t:Tag}{x:T t}{u:Value}(h:BE w hp env s t x u):BE w (Uh a b hp) (esw a b env) (s.sw a b) t x u:=by
 cases s with
 |gone=>trivial
 |mp=>trivial
 |T9 u=>trivial
 |Gd p=>trivial
 |td=>obtain⟨f,h1,h2⟩:=h;exact⟨f,h1,fun c hc ho=>h2 c hc (yc ho)⟩
 |of n=>
  obtain⟨⟨t1,l1,h1⟩,f,h2,h3⟩:=h
  exact⟨⟨t1,l1,va h1⟩,f,h2,fun c hc=>(h3 c hc).imp (fun q=>by rw[qH];exact q) (fun q ho=>q (yc ho))⟩
end
theorem adN{a b n:Nat}{p:Nat→Bool}(ha:p a=false)(hb:p b=false):p (CS a b n)=p n:=by
 rw[VB]
 split
 ·rename_i h;subst h;rw[ha,hb]
 ·split
  ·rename_i h;subst h;rw[ha,hb]
  ·rfl
theorem ahO{a b n:Nat}(ha:p9 a=false)(hb:p9 b=false)(h:p9 n=true):CS a b n=n:=by
 rw[VB]
 split
 ·rename_i h1;subst h1;rw[ha]at h;cases h
 ·split
  ·rename_i h1;subst h1;rw[hb]at h;cases h
  ·rfl
theorem adO{zb:eM}{st st':St}{a b:Nat}(h:adK st a b=some st'){c:Act}{w:World}(iv:Inv ty zb st c w):Inv ty zb st' c w:=by
 obtain⟨env,g⟩:=iv.good
 unfold adK at h
 split at h
 case h_2=>cases h
 rename_i hpa hpb hsa hsb
 have h:=tE h
 subst h
 have hlk: ∀n o,look (Uh a b st.hp) n=some o→ ∃o0,look st.hp (CS a b n)=some o0∧o=o0.sw a b:=by
  intro n o hl
  rw[wL]at hl
  cases hq:look st.hp (CS a b n)with
  |none=>rw[hq]at hl;cases hl
  |some o0=>rw[hq]at hl;simp only[dP,oI]at hl;exact⟨o0,rfl,hl.symm⟩
 refine⟨iv.size,iv.defers,iv.kept,iv.Jt,esw a b env,⟨fun n o hl=> ?_,fun n m o o' hne h1 h2=> ?_,fun s v hs=> ?_,fun n o hl=> ?_,fun n hn=> ?_⟩⟩
 ·obtain⟨o0,h1,rfl⟩:=hlk n o hl
  have hro:=g.obj _ _ h1
  show RO ty w (Uh a b st.hp) (esw a b env) n (o0.sw a b) (env (CS a b n))
  cases o0 with
  |arr t l=>exact WR (fun q=>by rw[adN hsa hsb]at q;exact q) hro
  |box l=>
   obtain⟨x,cs,e,q1,q2,q3⟩:=hro
   exact⟨x,cs,e,q1,q2,q3.map fun _ _ q=>RA.sw q⟩
  |mI t l s=>
   rcases RO.Mo hro with⟨rfl,h⟩| ⟨u,rfl,h1,h2,fp,h3,h4⟩| ⟨p,rfl,h⟩| ⟨hr,q1,us,q2,q3,q4⟩
   ·exact h
   ·exact⟨h1,h2,fp,h3,h4.imp id fun⟨c,e1,e2⟩=>⟨c,e1,fun ho=>e2 (yc ho)⟩⟩
   ·exact⟨h.1,h.2.1,fun _ _ _ e=>by cases e⟩
   ·exact RO.Zb (by cases s<;>first|exact hr.elim|trivial) ⟨q1,us,q2,q3,fun i x u hx hu=>(q4 i x u hx hu).sw⟩
 ·obtain⟨o1,q1,_⟩:=hlk n o h1
  obtain⟨o2,q2,_⟩:=hlk m o' h2
  exact g.qn _ _ _ _ (fun e=>hne (ahN e)) q1 q2
 ·replace hs:look (st.sl.map fun e=>(e.1,e.2.sw a b)) s=some v:=hs
  rw[oW (α:=SV) (f:=fun e:Nat×SV=>e.2.sw a b)]at hs
  cases hq:look st.sl s with
  |none=>rw[hq]at hs;cases hs
  |some v0=>
   rw[hq]at hs
   simp only[dP,oI]at hs
   subst hs
   exact xu.sw (g.slot s v0 hq)
 ·obtain⟨o0,h1,_⟩:=hlk n o hl
  exact g.dom _ _ h1
 ·have hq:=g.pins n hn
  unfold esw
  rw[ahO hpa hpb hn]
  exact hq
theorem eC{P:Program}{zb:eM}{Q:Post}{st st':St}{c:Code}(a b:Nat)(h:adK st a b=some st')(k:W P ty zb c Q st'):W P ty zb c Q st:=fun x w iv=>k x w (adO h iv)
end
section
variable{ty:Tag→Nat}
def toBrr(st:St)(s m:Nat)(r:xd):Option St:=match look st.sl s,mJ s st.n with
 |some (.one (.a (.own n))),true=>match look st.hp n,pinned [n],p9 m,look (eY [n] [] st.hp) m with
  |some (.arr t []),false,false,none=>match bW (kk t) 1 with
   |true=>Zt ((⟨st.n,st.sl.map fun e=>(e.1,e.2.cX [n] []),aod st.hp n m t [] r⟩:St).put (some s) (.one (.a (.Mn m))))
   |false=>none
  |_,_,_,_=>none
 |_,_=>none
theorem toBrr_ok{zb:eM}{st st':St}{s m:Nat}{r:xd}(hr:r.br)(h:toBrr st s m r=some st'){a:Act}{w:World}(iv:Inv ty zb st a w):Inv ty zb st' a w:=by
 obtain⟨env,g⟩:=iv.good
 have hB:=iv.kept.size
 unfold toBrr at h
 split at h
 case h_2=>cases h
 rename_i n hs hlt
 split at h
 case h_2=>cases h
 rename_i t hl hpk Rf hlk
 split at h
 case h_2=>cases h
 rename_i hk1
 have hk1:=aJ hk1
 have h:=tE h
 have hsf:soft n=false:=xE hpk (by simp)
 have hb:=RO.bld hsf (g.obj n _ hl)
 have Mg: ∀b,(env n).v.ownBlock=some b→b∈(env n).fp:=by
  intro b hb'
  obtain⟨xs,dN,_,_,_,nU,_⟩:=hb
  rw[nU,hb'];simp
 have hbE:nL 1 abw 0 (ty t) w (env n).v ([]:List Value) (env n).fp:=by
  obtain⟨xs,dN,q1,q2,q3,q4,q5⟩:=hb
  obtain rfl:dN= []:=List.length_eq_zero_iff.1 q2
  exact⟨xs,[],by rw[hk1]at q1;exact q1,rfl,fun i x f hx=>by simp at hx,q4,q5⟩
 obtain⟨env',hg',UQ,_,_⟩:=Gm (ty:=ty) g hB (ks:= [n]) hpk Rf hlk (v:=(env n).v) (v':=(env n).v) (w':=w) (ob:= .mI t [] r) (fp:=(env n).fp) (fx:= []) (lH:=(env n).fp) (by
  intro b hb
  rw[dA]at hb
  exact⟨n,_,by simp,hl,hb⟩) Mg (fun aqI hd s2=>RO.Zb hr ⟨hk1,[],hbE,rfl,fun i x u hx=>by simp at hx⟩) ⟨rfl,rfl,rfl,bq _,fun _ _ _=>rfl⟩ (fun b hb=>bY hb)
 have hlt:s<a.tmps.size:=by rw[iv.size];exact cj hlt
 obtain⟨_,hu⟩:=g.slot s _ hs
 have gp:=hg'.put hlt (v:= .one (.a (.Mn m))) (u:=a.tmps.getD s undef) ⟨⟨t,[],_,look_eq⟩,by rw[UQ];exact hu⟩ rfl
 have e:a.tmps.setIfInBounds s (a.tmps.getD s undef)=a.tmps:=by
  rw[ak,nv hlt]
  apply ac7
  ·simp
  ·intro i h1 h2
   rw[tU]
   split
   ·rename_i hi;subst hi;rfl
   ·rfl
 rw[e]at gp
 rw[h]
 exact⟨by rw[Af];exact iv.size,iv.defers,iv.kept,iv.Jt,env',gp⟩
theorem SL{P:Program}{zb:eM}{Q:Post}{st st':St}{c:Code}(s m:Nat)(h:G.toBrr st s m .td=some st')(k:W P ty zb c Q st'):W P ty zb c Q st:=fun a w iv=>k a w (toBrr_ok (by trivial) h iv)
end
section
variable{ty:Tag→Nat}
def gk(cr:List (Nat×CR))(ops:List Oper)(st:St)(o:Oper):Option (Bool×Prop):=match o.guard with
 |some (j,x)=>match ops[j]? with
  |some q=>match q.dst with
   |some d=>match look cr (d+1100000),look st.sl d with
    |some ⟨y,_⟩,some (.one (.a (.lit (.bool b))))=>some (x==y,b=y)
    |_,_=>none
   |none=>none
  |none=>none
 |none=>none
def pk(cr:List (Nat×CR))(st:St)(o:Oper):Option (Oper×Prop):=match o.op with
 | .pick (.tmp c) x y=>match look cr (c+1100000),look st.sl c with
   |some ⟨z,_⟩,some (.one (.a (.lit (.bool b))))=>some ({o with op:= .move (match z with|true=>x|false=>y)},b=z)
   |_,_=>none
 |_=>none
def ung(o:Oper):Oper:={o with guard:=none}
def step2(P:Program)(ty:Tag→Nat)(Γ:Nat→TK)(gq:List (Nat×Nat))(cr:List (Nat×CR))(ops:List Oper)(st:St)(o:Oper):Option (List Prop×St):=
 match gk cr ops st o with
 |none=>match pk cr st o with
  |some (o',p)=>match step P ty Γ gq cr ops st o' with
   |some (vc,st')=>some (p::vc,st')
   |none=>none
  |none=>step P ty Γ gq cr ops st o
 |some (true,p)=>match step P ty Γ gq cr ops st (ung o)with
  |some (vc,st')=>some (p::vc,st')
  |none=>none
 |some (false,p)=>match D4 st o.dst with
  |true=>some ([p],st.put o.dst (.one (.a .any)))
  |false=>none
section
variable{P:Program}{zb:eM}{st st':St}{a:Act}{w:World}{Q:Exit→Act→World→Prop}{o:Oper}
theorem lX.ung{ops:Array Oper}{K:Act→World→Prop}(hw:iF o (yielded ops a.tmps)=true)(h:lX P ops (ung o) a w K Q):lX P ops o a w K Q:=by
 unfold lX at h ⊢
 rw[if_pos (by simp[iF,G.ung])]at h
 rw[if_pos hw]
 exact h
theorem lX.as{ops:Array Oper}{op':Op}{K:Act→World→Prop}(he:execOp a.eval o=execOp a.eval {o with op:=op'})(hr:lX P ops {o with op:=op'} a w K Q):lX P ops o a w K Q:=by
 have hwp:o.wp P a w K Q↔Oper.wp P {o with op:=op'} a w K Q:=by
  unfold Oper.wp
  rw[he]
  rfl
 have has:o.asks P a w↔Oper.asks P {o with op:=op'} a w:=by
  unfold Oper.asks
  rw[he]
 unfold lX at hr ⊢
 rw[hwp,has]
 exact hr
theorem lX.pk{cr:List (Nat×CR)}{ops:Array Oper}{o':Oper}{p:Prop}{K:Act→World→Prop}(iv:Inv ty zb st a w)(h:G.pk cr st o=some (o',p))(hp:p)(hr:lX P ops o' a w K Q):lX P ops o a w K Q:=by
 unfold G.pk at h
 split at h
 case h_2=>cases h
 rename_i c x y ho
 split at h
 case h_2=>cases h
 rename_i z rs b hl hs
 simp only[oI,pI]at h
 obtain⟨rfl,rfl⟩:=h
 obtain⟨env,g⟩:=iv.good
 have hs1:=g.slot c _ hs
 have hs2:a.eval (.tmp c)= .bool b:=(show jU w st.hp env (.a (.lit (.bool b))) (a.tmps.getD c undef)from hs1).lit
 subst hp
 cases b with
 |true=>exact lX.as (by unfold execOp;simp only[ho,hs2];rfl) hr
 |false=>exact lX.as (by unfold execOp;simp only[ho,hs2];rfl) hr
theorem aeV{Γ:Nat→TK}(C: ∀t,fF P t (Γ t))(Z: ∀t,(∀z tg fo,Γ t≠ .st z tg fo)→Γ t≠ .other→(P.info? t).map (·.size)=some 1){gq:List (Nat×Nat)}{cr:List (Nat×CR)}{ops:List Oper}{vc:List Prop}(h:step2 P ty Γ gq cr ops st o=some (vc,st'))(iv:Inv ty zb st a w)(hv: ∀q,q∈vc→q):
  lX P ops.toArray o a w (fun a' w'=>Inv ty zb st' a' w') Q:=by
 have hgk: ∀{x:Bool} {p:Prop},gk cr ops st o=some (x,p)→p→(iF o (yielded ops.toArray a.tmps)=true↔x=true):=by
  intro x p hq hp
  unfold gk at hq
  split at hq
  case h_2=>cases hq
  rename_i j y hg
  split at hq
  case h_2=>cases hq
  rename_i q hj
  split at hq
  case h_2=>cases hq
  rename_i d hd
  split at hq
  case h_2=>cases hq
  rename_i z rs b hl hs
  simp only[oI,pI]at hq
  obtain⟨rfl,rfl⟩:=hq
  rw[xB hg (by simpa using hj) hd]
  obtain⟨env,g⟩:=iv.good
  have hs1:=g.slot d _ hs
  have hs2:=(show jU w st.hp env (.a (.lit (.bool b))) (a.tmps.getD d undef)from hs1).lit
  rw[ak]at hs2
  have hs3:a.tmps[d]? =some (.bool b):=by
   cases UR:a.tmps[d]? with
   |none=>rw[UR]at hs2;simp[undef]at hs2
   |some u=>rw[UR]at hs2;simp only[nN]at hs2;rw[hs2]
  rw[hs3]
  simp only[oI,Value.bool.injEq]
  subst hp
  constructor
  ·rintro rfl;simp
  ·intro h;exact(eq_of_beq h).symm
 unfold step2 at h
 split at h
 ·split at h
  ·rename_i o' p hq
   split at h
   case h_2=>cases h
   rename_i vX F5 hs
   simp only[oI,pI]at h
   obtain⟨rfl,rfl⟩:=h
   have hp:p:=hv p (by simp)
   exact lX.pk iv hq hp (BQ C Z hs iv fun q hq=>hv q (by simp[hq]))
  ·exact BQ C Z h iv hv
 ·rename_i p hq
  split at h
  case h_2=>cases h
  rename_i vX F5 hs
  simp only[oI,pI]at h
  obtain⟨rfl,rfl⟩:=h
  have hp:p:=hv p (by simp)
  exact lX.ung ((hgk hq hp).2 rfl) (BQ C Z hs iv fun q hq=>hv q (by simp[hq]))
 ·rename_i p hq
  split at h
  case h_2=>cases h
  rename_i hd
  simp only[oI,pI]at h
  obtain⟨rfl,rfl⟩:=h
  have hp:p:=hv p (by simp)
  have hw: ¬iF o (yielded ops.toArray a.tmps)=true:=fun hw=>by have:=(hgk hq hp).1 hw;cases this
  unfold lX
  rw[if_neg hw]
  obtain⟨env,g⟩:=iv.good
  exact⟨by rw[k9,Af];exact iv.size,by rw[put_defers];exact iv.defers,iv.kept,iv.Jt,env,qZ g (OI iv hd) trivial (fun d _=>rfl)⟩
end
section
variable{P:Program}{Γ:Nat→TK}{zb:eM}{Q:Post}{st:St}
end
end
section
variable{ty:Tag→Nat}
def fzn:List V→List V→List V
 | .lit (.slice none 0 0)::r, .sl t _::s=> .sl t []::fzn r s
 |v::r,_::s=>v::fzn r s
 |l,_=>l
theorem VX{w:World}{hp:Hp}{env:Env}: ∀{l s:List V} {us:List Value},cW (RA w hp env) l us→cW (RA w hp env) (fzn l s) us
 | [],s,us,h=>by
   unfold fzn
   exact h
 |v::r,[],us,h=>by
  unfold fzn
  first
   |exact h
   | (split<;>first|exact h| (rename_i h1 h2;cases h2))
 |v::r,x::s,[],h=>h.elim
 |v::r,x::s,u::us,⟨h1,h2⟩=>by
  unfold fzn
  split
  ·rename_i r' t l' s' e1 e2
   simp only[cH]at e1 e2
   obtain⟨rfl,rfl⟩:=e1
   obtain⟨rfl,rfl⟩:=e2
   refine⟨⟨[],?_,by simp⟩,VX h2⟩
   rw[h1.1]
   exact⟨none,0,rfl,bq _,aE _,bY ⟨rfl,rfl,rfl⟩⟩
  ·rename_i v' r' x' s' _ e1 e2
   simp only[cH]at e1 e2
   obtain⟨rfl,rfl⟩:=e1
   obtain⟨rfl,rfl⟩:=e2
   exact⟨h1,VX h2⟩
  ·exact⟨h1,h2⟩
def aeW(cr:List (Nat×CR))(d:Option Nat)(st:St):St:=match d with
 |some d=>match look cr (d+1200000),look st.sl d with
  |some ⟨_,[.agg s]⟩,some (.one (.agg c))=>⟨st.n,(d, .one (.agg (fzn c s)))::st.sl,st.hp⟩
  |_,_=>st
 |none=>st
theorem aiw{zb:eM}{cr:List (Nat×CR)}{d:Option Nat}{st:St}{a:Act}{w:World}(iv:Inv ty zb st a w):Inv ty zb (aeW cr d st) a w:=by
 unfold aeW
 split
 ·rename_i d
  split
  ·rename_i own s c hq hl
   obtain⟨env,g⟩:=iv.good
   refine⟨iv.size,iv.defers,iv.kept,iv.Jt,env,g.obj,g.qn,fun t v hv=> ?_,g.dom,g.pins⟩
   by_cases ht:t=d
   ·subst ht
    rw[look_eq]at hv
    simp only[oI]at hv
    subst hv
    obtain⟨us,h1,h2⟩:jU w st.hp env (.agg c) (a.tmps.getD t undef):=g.slot t _ hl
    exact⟨us,h1,VX h2⟩
   ·rw[cF ht]at hv
    exact g.slot t v hv
  ·exact iv
 ·exact iv
def FO(P:Program)(ty:Tag→Nat)(Γ:Nat→TK)(gq:List (Nat×Nat))(cr:List (Nat×CR))(ops:List Oper):List Oper→St→List Prop→Option (List Prop×St)
 | [],st,acc=>some (acc,st)
 |o::r,st,acc=>match step2 P ty Γ gq cr ops st o with
  |some (l,s)=>match aeW cr o.dst s with
   | ⟨n,sl,hp⟩=>match l with
     | []=>FO P ty Γ gq cr ops r ⟨n,sl,hp⟩ acc
     | [p]=>FO P ty Γ gq cr ops r ⟨n,sl,hp⟩ (p::acc)
     | [p,q]=>FO P ty Γ gq cr ops r ⟨n,sl,hp⟩ (p::q::acc)
     | [p,q,t]=>FO P ty Γ gq cr ops r ⟨n,sl,hp⟩ (p::q::t::acc)
     |l=>FO P ty Γ gq cr ops r ⟨n,sl,hp⟩ (l++acc)
  |none=>none
def apo(P:Program)(ty:Tag→Nat)(Γ:Nat→TK)(gq:List (Nat×Nat))(cr:List (Nat×CR))(ks hs:List Nat)(ops:List Oper):St→Option (List Prop×St)
 | ⟨n,sl0,kO⟩=>match FO P ty Γ gq cr ops ops ⟨n,sl0,kO⟩ []with
 |some (vc,st')=>match Ia st'.sl ks,Ib st'.hp (WW st'.sl st'.hp ks hs)with
  |some sl,some hp=>match xK sl hp,bW st'.n n with
   |true,true=>some (vc,⟨n,sl,hp⟩)
   |_,_=>none
  |_,_=>none
 |none=>none
section
variable{P:Program}{zb:eM}{st st':St}{a:Act}{w:World}{Q:Exit→Act→World→Prop}{o:Oper}
theorem L0{Γ:Nat→TK}{gq:List (Nat×Nat)}{cr:List (Nat×CR)}{ops:List Oper}{Gs:St}{vcs:List Prop}{o:Oper}{r:List Oper}{st:St}{acc:List Prop}(h:FO P ty Γ gq cr ops (o::r) st acc=some (vcs,Gs)):
  ∃q:List Prop×St,step2 P ty Γ gq cr ops st o=some q∧FO P ty Γ gq cr ops r (aeW cr o.dst q.2) (q.1++acc)=some (vcs,Gs):=by
 simp only[FO]at h
 split at h
 case h_2=>cases h
 rename_i l s h1
 refine⟨(l,s),h1,?_⟩
 generalize aeW cr o.dst s=z at h ⊢
 obtain⟨n,sl,hp⟩:=z
 dsimp only at h ⊢
 repeat' split at h
 all_goals exact h
theorem TG{Γ:Nat→TK}{gq:List (Nat×Nat)}{cr:List (Nat×CR)}{ops:List Oper}{Gs:St}{vcs:List Prop}: ∀{l:List Oper} {st:St} {acc:List Prop},FO P ty Γ gq cr ops l st acc=some (vcs,Gs)→ ∀q,q∈acc→q∈vcs
 | [],st,acc,h,q,hq=>by
   simp only[FO,oI,pI]at h
   rw[←h.1];exact hq
 |o::r,st,acc,h,q,hq=>by
  obtain⟨l,h⟩:=L0 h
  exact TG h.2 q (aS _ hq)
theorem Yz{Γ:Nat→TK}(C: ∀t,fF P t (Γ t))(Z: ∀t,(∀z tg fo,Γ t≠ .st z tg fo)→Γ t≠ .other→(P.info? t).map (·.size)=some 1){gq:List (Nat×Nat)}{cr:List (Nat×CR)}{ops:List Oper}{Gs:St}{vcs:List Prop}
  (hQ: ∀a w,Inv ty zb Gs a w→Q .normal a w): ∀{l:List Oper} {st:St} {acc:List Prop} {a:Act} {w:World},FO P ty Γ gq cr ops l st acc=some (vcs,Gs)→(∀q,q∈vcs→q)→Inv ty zb st a w→wpList P ops.toArray Q l a w
 | [],st,acc,a,w,h,hv,iv=>by
   simp only[FO,oI,pI]at h
   obtain⟨_,rfl⟩:=h
   exact hQ a w iv
 |o::r,st,acc,a,w,h,hv,iv=>by
  obtain⟨⟨l,s1⟩,h1,h2⟩:=L0 h
  have:=aeV (Q:=Q) C Z h1 iv (fun q hq=>hv q (TG h2 q (aY _ hq)))
  exact this.mono fun a' w' vG=>Yz C Z hQ h2 hv (aiw vG)
end
section
variable{P:Program}{Γ:Nat→TK}{zb:eM}{Q:Post}{st:St}
theorem yu(X:Ctx P ty Γ)(gq:List (Nat×Nat))(cr:List (Nat×CR))(ks hs:List Nat){id:Nat}{ops:List Oper}{vc:List Prop}{st':St}(h:G.apo P ty Γ gq cr ks hs ops st=some (vc,st'))(hv:tF vc)(k:Q .normal st'):W P ty zb (.region id ops.toArray false) Q st:=by
 intro a w iv
 have hsp: ∃s1,FO P ty Γ gq cr ops ops st []=some (vc,s1)∧ ∀a w,Inv ty zb s1 a w→Inv ty zb st' a w:=by
  obtain⟨n,sl0,kO⟩:=st
  simp only[G.apo]at h
  split at h
  ·rename_i vX s1 hr
   split at h
   ·rename_i sl hp h1 h2
    split at h
    ·rename_i hc hn
     simp only[oI,pI]at h
     obtain⟨rfl,rfl⟩:=h
     exact⟨s1,hr,fun a w iv=>iv.weaken (aJ hn).symm (nZ h1) (n7 h2) hc⟩
    ·cases h
   ·cases h
  ·cases h
 obtain⟨s1,h1,h2⟩:=hsp
 exact wp_region_lit (Yz X.kind X.one (fun a w vG=>⟨st',h2 a w vG,k⟩) h1 hv.out iv)
end
end
end Go.Proofs.YtaalpcnbbldlaaaGreatDoor.G
