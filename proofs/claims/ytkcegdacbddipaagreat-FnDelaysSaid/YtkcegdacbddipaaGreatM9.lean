/-
  A slice of the call's own, without elements, becomes one whose elements' memory is others'.
-/
import Derived.Orders
import Derived.Test.YtkcegdacbddipaaGreatM8
open Array renaming all_eq_true_iff_forall_mem→oo,ext→Xp,getD_eq_getD_getElem?→aa,getElem?_eq_getElem→lX,getElem?_setIfInBounds_ne→fE,getElem?_setIfInBounds_self_of_lt→gN,getElem_setIfInBounds→rV,mem_toList_iff→zk,toList_append→Ai
open Bool renaming and_eq_true→aj,not_eq_true'→bp,or_eq_false_iff→gm,or_eq_true→dh,or_false→BG
open Go.Op renaming equal→KD,equalIn→CM,operands→cz,slice→KY
open Go.Region renaming binds→M4,ready→sV,wanted→lB
open List renaming all_eq_true→bq,any_eq_false→bK,any_eq_true→dV,append_nil→cW,drop_zero→eV,filter_cons_of_neg→ef,filter_cons_of_pos→dc,flatten_cons→bO,foldl_cons→cH,getD_eq_getElem?_getD→ak,getElem?_cons_succ→jO,getElem?_eq_getElem→au,getElem?_eq_some_iff→aI,getElem?_toArray→kL,length_cons→bY,length_nil→gf,mem_append→aK,mem_append_left→aM,mem_append_right→aH,mem_cons→aW,mem_cons_of_mem→aJ,mem_filter→rI,mem_filterMap→sW,mem_map→cj,mem_range→bV,mem_singleton→aP,nil_append→eS,nodup_append→aY,range→bA,replicate→ey,take_zero→lZ
open List.cons renaming injEq→cx
open Nat renaming add_zero→kH,beq→bf,beq_refl→iA,blt→mo,eq_of_beq_eq_true→av,le_of_ble_eq_true→bT,le_refl→bh,le_trans→dY,lt_trans→xN,strongRecOn→kO,testBit_or→o8,testBit_two_pow→mG,zero_add→eE,zero_le→aA
open Option renaming getD_some→qn,map_some→dz
open Or renaming inl→bG,inr→bg
open SizeOf renaming sizeOf→lF
namespace Go.Proofs.YtkcegdacbddipaaGreat.G
set_option linter.all false
open Go.RowKit L D
section
variable{ty:Tag→Nat}
structure TE where
 d:Nat
 v:SV
 os:Hp
def app(s:St)(e:TE):St:=⟨s.n,(e.d,e.v)::s.sl,e.os++s.hp⟩
def eo(o:Oper):List Nat:=o.after.toList.filterMap fun e=>if M4 .any e then some e.on else none
def lD(acc:List Nat)(o:Oper):List Nat:=acc++ [(eo o).foldl (fun s j=>s|||2^j|||acc.getD j 0) 0]
def KW(ops:List Oper):List Nat:=ops.foldl lD []
def tmpsOf(o:Oper):List Nat:=o.op.operands.toList.filterMap fun| .tmp t=>some t|_=>none
def Rn(o:Oper)(t:Nat):Bool:=match o.dst with|some d=>bf d t|none=>false
def idx{α:Type}:Nat→List α→List (Nat×α)
 |_,[]=> []
 |i,x::r=>(i,x)::idx (i+1) r
end
section
variable{ty:Tag→Nat}
def Compat(hp kg:Hp):Prop:= ∀n o o',look hp n=some o→look kg n=some o'→o=o'
section
variable{zb:eJ}{st T:St}{a:Act}{w:World}{env:Env}
theorem M5(c:Compat st.hp T.hp){tg:Option Tag}{v x:V}{u:Value}(hr:RA w T.hp env v u)(h:rm st tg v=some x):rm T tg v=some x:=by
 cases v with
 |own n=>
  obtain⟨⟨t,l,hl⟩,_⟩:=hr
  simp only[rm]at h ⊢
  split at h
  ·rename_i t' l' hl'
   have:=c n _ _ hl' hl
   simp only[Obj.arr.injEq]at this
   obtain⟨rfl,oc⟩:=this
   rw[hl]
   simp only[←eq_of_heq oc]
   exact h
  ·cases h
 |sl t l=>exact h
 |vw n p t l=>exact h
 |mix n c t l=>exact h
 |yC n=>
  obtain⟨⟨t,l,s,hl⟩,_⟩:=hr
  simp only[rm]at h ⊢
  split at h
  ·rename_i t' l' hl'
   have:=c n _ _ hl' hl
   rw[←this]at hl
   rw[hl];exact h
  ·rename_i t' l' m hl'
   have:=c n _ _ hl' hl
   rw[←this]at hl
   rw[hl];exact h
  ·cases h
 |lit v=>
  have e:rm T tg (.lit v)=rm st tg (.lit v):=by
   cases v with
   |slice a n c=>cases a<;>cases n<;>cases c<;>rfl
   |_=>rfl
  rw[e];exact h
 |_=>simp[rm]at h
theorem JA(c:Compat st.hp T.hp): ∀{vs:List V} {tg:List (Option Tag)} {xs:List V} {us:List Value},cO (RA w T.hp env) vs us→Ml st tg vs=some xs→Ml T tg vs=some xs
 | [],_,xs,us,_,h=>h
 |v::r,tg,xs,us,hr,h=>by
  cases us with
  |nil=>exact hr.elim
  |cons u us=>
   simp only[Ml]at h ⊢
   split at h
   ·rename_i x y h1 h2
    rw[M5 c hr.1 h1,JA c hr.2 h2]
    exact h
   ·cases h
theorem TL(c:Compat st.hp T.hp){k:TK}{v x:S1}{u:Value}(hr:ji w T.hp env v u)(h:arg1 st k v=some x):arg1 T k v=some x:=by
 cases v with
 |a v=>
  simp only[arg1]at h ⊢
  split at h
  ·rename_i y hy
   rw[M5 c hr hy]
   exact h
  ·cases h
 |agg l=>
  obtain⟨cs,_,hl⟩:=hr
  simp only[arg1]at h ⊢
  split at h
  ·rename_i y hy
   rw[JA c hl hy]
   exact h
  ·cases h
theorem BC{p:List (Nat×Bool)}{x:Operand}(hs: ∀t,x= .tmp t→look st.sl t=look T.sl t):OK st p x=OK T p x:=by
 cases x with
 |tmp t=>simp only[OK,hs t rfl]
 |_=>rfl
theorem GW{p:List (Nat×Bool)}{x:Operand}(hs: ∀t,x= .tmp t→look st.sl t=look T.sl t):jh st p x=jh T p x:=by
 unfold jh
 rw[BC hs]
theorem TM{b:Bool}(c:Compat st.hp T.hp){k:TK}{v x:S1}{u:Value}(hr:ji w T.hp env v u)(h:Ti b st k v=some x):Ti b T k v=some x:=by
 unfold Ti at h ⊢
 split at h
 ·exact h
 ·exact TL c hr h
theorem CX{b:Bool}{Γ:Nat→TK}(c:Compat st.hp T.hp)(g:Good ty zb T a.tmps w env){p:List (Nat×Bool)}(hp:holds a.tmps p): ∀{xs:List Operand} {ts:List Nat} {as:List S1},(∀x,x∈xs→ ∀t,x= .tmp t→look st.sl t=look T.sl t)→args b Γ st p xs ts=some as→args b Γ T p xs ts=some as
 | [],_,as,_,h=>h
 |x::r,ts,as,hs,h=>by
  simp only[args]at h ⊢
  rw[←GW (st:=st) (T:=T) (hs x (by simp))]
  split at h
  ·rename_i v hv
   split at h
   ·rename_i y ys h1 h2
    have hr:=gu g hp (by rw[←GW (hs x (by simp))];exact hv)
    rw[TM c hr h1,CX c g hp (fun z hz=>hs z (aJ _ hz)) h2]
    exact h
   ·cases h
  ·cases h
theorem PO(c:Compat st.hp T.hp){k:TK}{v:V}{u:Value}{n:Int}(hr:RA w T.hp env v u)(h:lenOf st k v=some n):lenOf T k v=some n:=by
 cases v with
 |own m=>
  obtain⟨⟨t,l,hl⟩,_⟩:=hr
  simp only[lenOf]at h ⊢
  split at h
  ·split at h
   ·rename_i t' l' hl'
    have:=c m _ _ hl' hl
    simp only[Obj.arr.injEq]at this
    obtain⟨rfl,oc⟩:=this
    rw[hl]
    simp only[←eq_of_heq oc]
    exact h
   ·cases h
  ·cases h
 |sl t l=>exact h
 |vw n p t l=>exact h
 |lit v=>
  have e:lenOf T k (.lit v)=lenOf st k (.lit v):=by
   cases v with
   |slice a n c=>cases a<;>cases n<;>cases c<;>rfl
   |_=>rfl
  rw[e];exact h
 |_=>simp[lenOf]at h
theorem KX(c:Compat st.hp T.hp){v:V}{u:Value}(hr:RA w T.hp env v u){l:List UInt8}(h:bytesOf st v=some l):bytesOf T v=some l:=by
 cases v with
 |own n=>
  obtain⟨⟨t,l2,qN⟩,_⟩:=hr
  simp only[bytesOf]at h ⊢
  split at h
  ·rename_i l3 Wc
   simp only[oI]at h
   subst h
   have:=c n _ _ Wc qN
   simp only[Obj.arr.injEq]at this
   obtain⟨rfl,oc⟩:=this
   rw[qN]
   simp only[eq_of_heq oc]
  ·cases h
 |sl t l=>
  have e:bytesOf T (.sl t l)=bytesOf st (.sl t l):=by cases t<;>rfl
  rw[e];exact h
 |vw n p t l=>
  have e:bytesOf T (.vw n p t l)=bytesOf st (.vw n p t l):=by cases t<;>rfl
  rw[e];exact h
 |lit v=>
  have e:bytesOf T (.lit v)=bytesOf st (.lit v):=by
   cases v with
   |slice a n c=>cases a<;>cases n<;>cases c<;>rfl
   |_=>rfl
  rw[e];exact h
 |_=>simp[bytesOf]at h
theorem Eh{p:List (Nat×Bool)}{g:Tag}: ∀{xs:List (Nat×Operand)} {i:Nat},(∀x,x∈xs→jh st p x.2=jh T p x.2)→tE st p g i xs=tE T p g i xs
 | [],_,_=>rfl
 | (j,x)::r,i,h=>by
   simp only[tE]
   rw[h (j,x) (by simp),Eh (fun y hy=>h y (aJ _ hy))]
theorem GX{p:List (Nat×Bool)}{n:Nat}{fo:List Nat}: ∀{xs:List (Nat×Operand)} {c:List V},(∀x,x∈xs→OK st p x.2=OK T p x.2)→vP st p n fo xs c=vP T p n fo xs c
 | [],_,_=>rfl
 | (j,x)::r,c,h=>by
   simp only[vP]
   rw[h (j,x) (by simp)]
   have: ∀c',vP st p n fo r c'=vP T p n fo r c':=fun c'=>GX (fun y hy=>h y (aJ _ hy))
   simp only[this]
theorem Ah{p:List (Nat×Bool)}: ∀{xs:List Operand},(∀x,x∈xs→jh st p x=jh T p x)→A8 st p xs=A8 T p xs
 | [],_=>rfl
 |x::r,h=>by
  simp only[A8,Tj]
  rw[h x (by simp),Ah (fun y hy=>h y (aJ _ hy))]
theorem yQ(c:Compat st.hp T.hp){v:V}{u:Value}(hr:RA w T.hp env v u){n:Nat}(hn:v.name=some n){o:Obj}(h:look st.hp n=some o):look T.hp n=some o:=by
 have: ∃o',look T.hp n=some o':=by
  cases v<;>simp only[V.name,oI,reduceCtorEq]at hn
  case own m=>subst hn;obtain⟨⟨t,l,hl⟩,_⟩:=hr;exact⟨_,hl⟩
  case ptr m off=>subst hn;obtain⟨⟨c,hl⟩,_⟩:=hr;exact⟨_,hl⟩
  case rj m i off=>subst hn;obtain⟨t,l,hl,_⟩:=hr;exact⟨_,hl⟩
  case vw m p t l=>subst hn;obtain⟨⟨t,l,hl⟩,_⟩:=hr;exact⟨_,hl⟩
  case Ir m t l=>subst hn;obtain⟨⟨t,l,hl⟩,_⟩:=hr;exact⟨_,hl⟩
  case mix m c t l=>subst hn;obtain⟨⟨t,l,hl⟩,_⟩:=hr;exact⟨_,hl⟩
  case yC m=>subst hn;obtain⟨⟨t,l,s,hl⟩,_⟩:=hr;exact⟨_,hl⟩
  case Fi f m=>subst hn;obtain⟨⟨c,hl⟩,_⟩:=hr;exact⟨_,hl⟩
  case Iq m p t x off=>subst hn;obtain⟨⟨t,l,hl⟩,_⟩:=hr;exact⟨_,hl⟩
 obtain⟨o',h'⟩:=this
 rw[c n _ _ h h'];exact h'
theorem CY(c:Compat st.hp T.hp): ∀{l d:List V} {n:Nat} {us:List Value},cO (RA w T.hp env) l us→zV st.hp l=some (d,n)→zV T.hp l=some (d,n)
 | [],_,_,_,_,h=>by simp[zV]at h
 |v::r,d,n,us,hr,h=>by
  cases us with
  |nil=>exact hr.elim
  |cons u us=>
   unfold zV at h
   split at h
   ·rename_i m r' he
    simp only[cx]at he
    obtain⟨rfl,rfl⟩:=he
    split at h
    ·rename_i t l hl rz
     have:=yQ c hr.1 (n:=m) rfl hl
     simp only[zV,this,rz]
     exact h
    ·cases h
   ·rename_i m pp t l r' he
    simp only[cx]at he
    obtain⟨rfl,rfl⟩:=he
    split at h
    ·rename_i t0 l0 hl rz
     have:=yQ c hr.1 (n:=m) rfl hl
     simp only[zV,this,rz]
     exact h
    ·cases h
   ·cases h
   ·rename_i x r' hns he
    simp only[cx]at he
    obtain⟨rfl,rfl⟩:=he
    split at h
    ·rename_i c' n' h'
     have:=CY c hr.2 h'
     unfold zV
     split
     ·rename_i e;simp at e
     ·rename_i e;simp at e
     ·rename_i e;simp only[cx,V.lit.injEq]at e;exact absurd e.1 (by rintro rfl;exact hns _ _ _ rfl)
     ·rename_i e
      simp only[cx,V.lit.injEq]at e
      obtain⟨rfl,rfl⟩:=e
      rw[this];exact h
     ·rename_i e1 e2 e3;exact absurd rfl (e3 _ _)
    ·cases h
   ·cases h
theorem quiet_mono{Γ:Nat→TK}{E:Tag→Nat→Prop}{S:FuncId→List S1→List S1→Prop}(c:Compat st.hp T.hp)(g:Good ty zb T a.tmps w env){p:List (Nat×Bool)}(hp:holds a.tmps p){cr:List (Nat×CR)}{d m:Nat}{op:Op}{out:Out}
  (hs: ∀x,x∈op.operands.toList→ ∀t,x= .tmp t→look st.sl t=look T.sl t)(h:quiet Γ E S cr st p d m op=some out):quiet Γ E S cr T p d m op=some out:=by
 have ho: ∀{q x},x∈op.operands.toList→jh st q x=jh T q x:=fun hx=>GW (hs _ hx)
 have hr: ∀{x v},x∈op.operands.toList→jh st p x=some v→ji w T.hp env v (a.eval x):=fun hx hv=>gu g hp (by rw[←ho hx];exact hv)
 have rn: ∀{x v n o},x∈op.operands.toList→jh st p x=some (.a v)→v.name=some n→look st.hp n=some o→look T.hp n=some o:=fun hx hv hn hl=>yQ c (hr hx hv) hn hl
 cases op with
 |move x=>
  have hm:VH st x=VH T x:=by
   cases x with
   |tmp t=>simp only[VH];rw[hs (.tmp t) (by simp[cz]) t rfl]
   |_=>rfl
  simp only[quiet]at h ⊢;rw[←BC (st:=st) (hs x (by simp[cz])), ←hm];exact h
 |assign x=>
  have hm:VH st x=VH T x:=by
   cases x with
   |tmp t=>simp only[VH];rw[hs (.tmp t) (by simp[cz]) t rfl]
   |_=>rfl
  simp only[quiet]at h ⊢;rw[←BC (st:=st) (hs x (by simp[cz])), ←hm];exact h
 |nilCheck x=>simp only[quiet]at h ⊢;rw[←ho (by simp[cz])];exact h
 |index t x i=>simp only[quiet]at h ⊢;rw[←ho (x:=x) (by simp[cz]), ←ho (x:=i) (by simp[cz])];exact h
 |lookup t x y b=>
  cases b with
  |true=>simp[quiet]at h
  |false=>
   simp only[quiet]at h ⊢
   split at h
   ·rename_i hk
    split at h
    ·rename_i n k hx hy
     split at h
     ·rename_i tg l0 hl
      have hrx:RA w T.hp env (.yC n) (a.eval x):=hr (x:=x) (by simp[cz]) hx
      have qN:=yQ c hrx (n:=n) rfl hl
      simp only[hk, ←ho (x:=x) (by simp[cz]), ←ho (x:=y) (by simp[cz]),hx,hy,qN]
      exact h
     ·cases h
    ·cases h
   ·cases h
 |makeMap t r=>
  cases r with
  |some _=>simp[quiet]at h
  |none=>exact h
 |makeSlice t x y=>simp only[quiet]at h ⊢;rw[←ho (x:=x) (by simp[cz]), ←ho (x:=y) (by simp[cz])];exact h
 |buildSlice t n xs=>
  simp only[quiet]at h ⊢
  have hq: ∀g,tE st p g 0 xs.toList=tE T p g 0 xs.toList:=fun g=>Eh fun x hx=>ho (by simp only[cz,cj];exact⟨x,hx,rfl⟩)
  simp only[←hq]
  split at h
  case h_2=>cases h
  rename_i gt e hk
  cases hkey:(look cr (d+500000)).isSome with
  |false=>simp only[hkey]at h ⊢;exact h
  |true=>
   simp only[hkey]at h ⊢
   split at h
   case h_2=>cases h
   rename_i x hlen hps
   split at h
   case h_2=>cases h
   rename_i s hx
   split at h
   case h_2=>cases h
   rename_i cc n1 hc
   have hmem:x∈(Op.buildSlice t n xs).operands.toList:=by
    simp only[cz,cj,Array.toList_map]
    exact⟨(0,x),by rw[hps];simp,rfl⟩
   have hrx:=hr hmem hx
   have hown:zV T.hp (cellsOf s)=some (cc,n1):=by
    cases s with
    |agg l=>obtain⟨cs,_,hl⟩:=hrx;exact CY c hl hc
    |a v=>exact CY c (us:= [a.eval x]) ⟨hrx,trivial⟩ hc
   simp only[←ho hmem,hx,hown]
   exact h
 |build t xs=>
  simp only[quiet]at h ⊢
  have hq: ∀n fo z,vP st p n fo xs.toList z=vP T p n fo xs.toList z:=fun n fo z=>GX fun x hx=>BC (hs _ (by simp only[cz,cj];exact⟨x,hx,rfl⟩))
  simp only[←hq]
  exact h
 |pick x y z=>
  cases x with
  |tmp t=>
   simp only[quiet]at h ⊢
   rw[←ho (x:= .tmp t) (by simp[cz]), ←ho (x:=y) (by simp[cz]), ←ho (x:=z) (by simp[cz])]
   exact h
  |_=>simp[quiet]at h
 |box e x=>simp only[quiet]at h ⊢;rw[←ho (by simp[cz])];exact h
 |alloc t=>exact h
 |load t x=>
  have hm:x∈(Op.load t x).operands.toList:=by simp[cz]
  simp only[quiet]at h ⊢
  rw[←ho hm]
  split at h
  ·rename_i n off hx
   try rw[hx]
   try dsimp only
   split at h
   ·rename_i c2 qN
    rw[rn hm hx rfl qN]
    exact h
   ·cases h
  ·rename_i hx
   try rw[hx]
   exact h
  ·rename_i hx
   try rw[hx]
   exact h
  ·rename_i n i off hx
   try rw[hx]
   try dsimp only
   split at h
   ·rename_i c2 qN
    rw[rn hm hx rfl qN]
    exact h
   ·cases h
  ·cases h
 |binOp op t x y t'=>
  simp only[quiet]at h ⊢
  rw[←ho (x:=x) (by simp[cz]), ←ho (x:=y) (by simp[cz])]
  exact h
 |unOp op t x=>
  cases op with
  |not=>simp only[quiet]at h ⊢;rw[←ho (by simp[cz])];exact h
  |neg=>simp only[quiet]at h ⊢;rw[←ho (by simp[cz])];exact h
  |_=>simp[quiet]at h
 |convert s t x=>
  simp only[quiet]at h ⊢
  rw[←ho (x:=x) (by simp[cz])]
  split at h
  ·rename_i ik n k1 k2 hx hk1 hk2
   try rw[hx,hk1,hk2]
   exact h
  ·rename_i v g' e hx hk1 hk2
   try rw[hx,hk1,hk2]
   try dsimp only
   split at h
   ·rename_i l V4 hl
    rw[V4,KX c (show RA w T.hp env v _ from hr (x:=x) (by simp[cz]) hx) hl]
    exact h
   ·cases h
  ·cases h
 |slice t x lo hi mx=>
  cases mx with
  |some mx=>
   cases lo with
   |some _=>simp[quiet]at h
   |none=>
    cases hi with
    |none=>simp[quiet]at h
    |some hi=>
     have hb: ∀(y:Operand),y∈(KY t x none (some hi) (some mx)).operands.toList→Ks st p 0 (some y)=Ks T p 0 (some y):=fun y hy=>by simp only[Ks];rw[ho hy]
     have hm:x∈(KY t x none (some hi) (some mx)).operands.toList:=by simp[cz]
     simp only[quiet]at h ⊢
     rw[←ho hm, ←hb hi (by simp[cz]), ←hb mx (by simp[cz])]
     split at h
     case h_2=>cases h
     rename_i hk
     try rw[hk]
     try dsimp only
     split at h
     case h_2=>cases h
     rename_i n n1 n2 hx h1 h2
     try rw[hx,h1,h2]
     try dsimp only
     split at h
     case h_2=>cases h
     rename_i t' l hl
     rw[rn hm hx rfl hl]
     exact h
  |none=>
   have hb: ∀(b:Option Operand),(∀y,b=some y→y∈(KY t x lo hi none).operands.toList)→ ∀z,Ks st p z b=Ks T p z b:=by
    intro b hm z
    cases b with
    |none=>rfl
    |some y=>simp only[Ks];rw[ho (hm y rfl)]
   have hm:x∈(KY t x lo hi none).operands.toList:=by simp[cz]
   simp only[quiet]at h ⊢
   rw[←ho hm, ←hb lo (by rintro y rfl;simp[cz])]
   simp only[←hb hi (by rintro y rfl;simp[cz])]
   cases hkey:(look cr (d+600000)).isSome with
   |true=>simp only[hkey]at h ⊢;exact h
   |false=>
    simp only[hkey]at h ⊢
    split at h
    ·split at h
     ·rename_i hx hlo
      try rw[hx,hlo]
      exact h
     ·rename_i hx hlo
      try rw[hx,hlo]
      exact h
     ·rename_i hx hlo
      try rw[hx,hlo]
      try dsimp only
      split at h
      ·rename_i qN
       rw[rn hm hx rfl qN]
       exact h
      ·cases h
     ·rename_i hx hlo
      try rw[hx,hlo]
      exact h
     ·cases h
    ·exact h
    ·cases h
 |makeFunc fn first captured=>
  cases fn with
  |func f=>
   simp only[quiet]at h ⊢
   split at h
   ·rename_i x hf hc
    try rw[hf,hc]
    try dsimp only
    have hm:x∈(Op.makeFunc (.func f) first captured).operands.toList:=by simp only[cz,Ai,hf,hc];simp
    have e:=ho (q:=p) hm
    rw[←e]
    exact h
   ·cases h
  |_=>simp[quiet]at h
 |fieldAddr t x f=>
  simp only[quiet]at h ⊢
  rw[←ho (x:=x) (by simp[cz])]
  exact h
 |indexAddr t x i=>
  have hm:x∈(Op.indexAddr t x i).operands.toList:=by simp[cz]
  simp only[quiet]at h ⊢
  rw[←ho hm, ←ho (x:=i) (by simp[cz])]
  split at h
  ·split at h
   ·rename_i hx hi
    try rw[hx,hi]
    exact h
   ·rename_i hx hi
    try rw[hx,hi]
    try dsimp only
    split at h
    ·rename_i qN
     rw[rn hm hx rfl qN]
     exact h
    ·cases h
   ·rename_i hx hi
    try rw[hx,hi]
    exact h
   ·cases h
  ·cases h
 |extract x i=>
  cases x with
  |tmp t=>simp only[quiet]at h ⊢;rw[←hs (.tmp t) (by simp[cz]) t rfl];exact h
  |_=>simp[quiet]at h
 |call cl=>
  obtain⟨callee,xs,ts⟩:=cl
  have hop: ∀x,x∈xs.toList→x∈(Op.call ⟨callee,xs,ts⟩).operands.toList:=by
   intro x hx
   simp only[cz,Call.operands,Ai]
   exact aH _ hx
  cases callee with
  |value x=>
   cases x with
   |func f=>
    simp only[quiet]at h ⊢
    split at h
    ·rename_i as c1 h1 h2
     rw[CX c g hp (fun x hx=>hs x (hop x hx)) h1,h2]
     exact h
    ·cases h
   |tmp y=>
    simp only[quiet]at h ⊢
    rw[←ho (x:= .tmp y) (by simp[cz,Call.operands])]
    split at h
    ·rename_i v hv
     try rw[hv]
     try dsimp only
     split at h
     ·rename_i f hf
      try rw[hf]
      try dsimp only
      split at h
      ·rename_i as c1 h1 h2
       rw[CX c g hp (fun x hx=>hs x (hop x hx)) h1,h2]
       exact h
      ·cases h
     ·cases h
    ·cases h
   |_=>simp[quiet]at h
  |builtin b=>
   cases b with
   |len=>
    simp only[quiet]at h ⊢
    split at h
    ·rename_i x t hxl htl
     have hm:x∈xs.toList:=by rw[hxl];simp
     try rw[hxl,htl]
     try dsimp only
     rw[←ho (hop x hm)]
     split at h
     ·rename_i v hv
      try rw[hv]
      try dsimp only
      split at h
      ·rename_i n hn
       rw[PO c (show RA w T.hp env v _ from hr (hop x hm) hv) hn]
       exact h
      ·cases h
     ·cases h
    ·cases h
   |append=>
    simp only[quiet]at h ⊢
    split at h
    case h_2=>cases h
    rename_i x y t1 t2 hkey hxl htl
    try rw[hkey,hxl,htl]
    try dsimp only
    have UT:x∈xs.toList:=by rw[hxl];simp
    have hmy:y∈xs.toList:=by rw[hxl];simp
    rw[←ho (hop x UT), ←ho (hop y hmy)]
    exact h
   |max=>simp only[quiet]at h ⊢;rw[←Ah (st:=st) (T:=T) (xs:=xs.toList) (fun x hx=>ho (hop x hx))];exact h
   |min=>simp only[quiet]at h ⊢;rw[←Ah (st:=st) (T:=T) (xs:=xs.toList) (fun x hx=>ho (hop x hx))];exact h
   |_=>simp[quiet]at h
  |invoke _ _=>simp[quiet]at h
 |_=>simp[quiet]at h
theorem TN{p:List (Nat×Bool)}(hs: ∀e,e∈p→look st.sl e.1=look T.sl e.1):hyps st p=hyps T p:=by
 induction p with
 |nil=>rfl
 |cons e r ih=>
  obtain⟨d,x⟩:=e
  simp only[hyps]
  rw[hs (d,x) (by simp),ih fun e he=>hs e (by simp[he])]
theorem PR{Γ:Nat→TK}{E:Tag→Nat→Prop}{S:FuncId→List S1→List S1→Prop}(c:Compat st.hp T.hp)(g:Good ty zb T a.tmps w env)(hn:T.n=st.n){gL:List (Nat×Nat)}{cr:List (Nat×CR)}{ops:List Oper}{o:Oper}{p:List (Nat×Bool)}(oD:lQ st ops o=some p)(xl:lQ T ops o=some p)(hp:holds a.tmps p)
  (hs: ∀x,x∈o.op.operands.toList→ ∀t,x= .tmp t→look st.sl t=look T.sl t)(hps: ∀e,e∈p→look st.sl e.1=look T.sl e.1){vc:List Prop}{v:SV}{os:Hp}(hf:fresh T.hp os=true)(h:tU Γ E S gL cr ops st o=some (vc,v,os)):
  tU Γ E S gL cr ops T o=some (vc,v,os):=by
 have hd:D8 T o.dst=D8 st o.dst:=by unfold D8;rw[hn]
 simp only[tU]at h ⊢
 rw[hd,xl]
 rw[oD]at h
 split at h
 ·rename_i m e1 e2 e3
  simp only[oI]at e3
  subst e3
  try rw[e1,e2]
  try dsimp only
  split at h
  ·rename_i tO v1 os1 hq
   rw[quiet_mono c g hp hs hq]
   try dsimp only
   split at h
   ·rename_i h1 h2
    simp only[oI,pI]at h
    obtain⟨rfl,rfl,rfl⟩:=h
    simp only[hf,h2]
   ·cases h
  ·cases h
 ·rename_i m e p' e1 e2 e3
  simp only[oI]at e3
  subst e3
  try rw[e1,e2]
  try dsimp only
  split at h
  ·rename_i h1
   try rw[h1]
   try dsimp only
   split at h
   ·rename_i tO v1 hq
    rw[quiet_mono c g hp hs hq]
    try dsimp only
    rw[←TN hps]
    exact h
   ·cases h
  ·cases h
 ·cases h
end
end
section
variable{ty:Tag→Nat}
def iI(zj:Nat→Bool)(tr:List TE)(s:St):Nat→St
 |0=>s
 |i+1=>match zj i,tr[i]? with
  |true,some e=>app (iI zj tr s i) e
  |_,_=>iI zj tr s i
abbrev pre(tr:List TE)(s:St)(i:Nat):St:=iI (fun _=>true) tr s i
structure Trace(Γ:Nat→TK)(E:Tag→Nat→Prop)(S:FuncId→List S1→List S1→Prop)(gL:List (Nat×Nat))(cr:List (Nat×CR))(ops:List Oper)(m:Nat)(s:St)(tr:List TE)(vcs:List Prop):Prop where
 len:tr.length=m
 one: ∀i,i<m→ ∃o e vc,ops[i]? =some o∧tr[i]? =some e∧o.dst=some e.d∧((pre tr s i).sl.any fun x=>x.2.mentions e.d)=false∧tU Γ E S gL cr ops (pre tr s i) o=some (vc,e.v,e.os)∧ ∀q,q∈vc→q∈vcs
theorem GY(zj:Nat→Bool)(e:TE)(tr:List TE)(s:St)(h:zj 0=true): ∀i,iI zj (e::tr) s (i+1)=iI (fun j=>zj (j+1)) tr (app s e) i
 |0=>by simp[iI,h]
 |i+1=>by
  rw[iI,GY zj e tr s h i,iI]
  simp only[jO]
section
variable{zj inE:Nat→Bool}{tr:List TE}{s:St}
theorem xm{i:Nat}{e:TE}(h:zj i=true)(he:tr[i]? =some e):iI zj tr s (i+1)=app (iI zj tr s i) e:=by rw[iI,h,he]
theorem K0{i:Nat}(h:zj i=false):iI zj tr s (i+1)=iI zj tr s i:=by rw[iI,h]
theorem Ei: ∀i,(iI zj tr s i).n=s.n
 |0=>rfl
 |i+1=>by
  rw[iI]
  split
  ·exact Ei i
  ·exact Ei i
theorem pQ: ∀{i j:Nat} {e:TE},j<i→zj j=true→tr[j]? =some e→(∀j' e',j'<i→zj j'=true→tr[j']? =some e'→e'.d=e.d→j'=j)→look (iI zj tr s i).sl e.d=some e.v
 |i+1,j,e,hj,hin,he,hd=>by
  by_cases hij:j=i
  ·subst hij
   rw[xm hin he];exact look_eq
  ·have ih:=pQ (i:=i) (j:=j) (by omega) hin he (fun j' e' h1 h2 h3 h4=>hd j' e' (by omega) h2 h3 h4)
   rw[iI]
   split
   ·rename_i e' h1 h2
    have hne:e.d≠e'.d:=fun hh=>by
     have:=hd i e' (by omega) h1 h2 hh.symm
     omega
    show look ((e'.d,e'.v)::_) e.d=_
    rw[bX hne];exact ih
   ·exact ih
theorem ue: ∀{i:Nat} {t:Nat},(∀j e,j<i→zj j=true→tr[j]? =some e→e.d≠t)→look (iI zj tr s i).sl t=look s.sl t
 |0,_,_=>rfl
 |i+1,t,h=>by
  have ih:=ue (i:=i) (t:=t) fun j e h1 h2 h3=>h j e (by omega) h2 h3
  rw[iI]
  split
  ·rename_i e' h1 h2
   have hne:t≠e'.d:=fun hh=>h i e' (by omega) h1 h2 hh.symm
   show look ((e'.d,e'.v)::_) t=_
   rw[bX hne];exact ih
  ·exact ih
theorem K1: ∀{i:Nat} {x:Nat×SV},x∈(iI zj tr s i).sl→x∈s.sl∨ ∃j e,j<i∧zj j=true∧tr[j]? =some e∧x=(e.d,e.v)
 |0,_,h=>bG h
 |i+1,x,h=>by
  rw[iI]at h
  split at h
  ·rename_i e' h1 h2
   rcases aW.1 (show x∈(e'.d,e'.v)::(iI zj tr s i).sl from h)with rfl|h
   ·exact bg ⟨i,e',by omega,h1,h2,rfl⟩
   ·rcases K1 h with h| ⟨j,e,a,b⟩
    ·exact bG h
    ·exact bg ⟨j,e,by omega,b⟩
  ·rcases K1 h with h| ⟨j,e,a,b⟩
   ·exact bG h
   ·exact bg ⟨j,e,by omega,b⟩
def WQ(tr:List TE)(s:St)(m:Nat):Prop:= ∀i e,i<m→tr[i]? =some e→ ∀n o,look e.os n=some o→look (pre tr s i).hp n=none
theorem pR: ∀{i:Nat} {n:Nat} {o:Obj},look (iI zj tr s i).hp n=some o→look s.hp n=some o∨ ∃j e,j<i∧zj j=true∧tr[j]? =some e∧look e.os n=some o
 |0,_,_,h=>bG h
 |i+1,n,o,h=>by
  rw[iI]at h
  split at h
  ·rename_i e' h1 h2
   have h:look (e'.os++(iI zj tr s i).hp) n=some o:=h
   cases hq:look e'.os n with
   |none=>
    rw[cQ hq]at h
    rcases pR h with h| ⟨j,e,a,b⟩
    ·exact bG h
    ·exact bg ⟨j,e,by omega,b⟩
   |some o'=>
    rw[eL hq]at h
    exact bg ⟨i,e',by omega,h1,h2,by rw[hq];exact h⟩
  ·rcases pR h with h| ⟨j,e,a,b⟩
   ·exact bG h
   ·exact bg ⟨j,e,by omega,b⟩
end
theorem M6{hp:Hp}: ∀{os:Hp},(∀n o,look os n=some o→look hp n=none∧ng n=false)→fresh hp os=true
 | [],_=>rfl
 | (n,x)::r,h=>by
   simp only[fresh,aj]
   obtain⟨h1,h2⟩:=h n x look_eq
   refine⟨⟨by rw[h1],by rw[h2];rfl⟩,M6 fun k o hk=> ?_⟩
   by_cases hkn:k=n
   ·subst hkn;exact h k x look_eq
   ·exact h k o (by rw[bX hkn];exact hk)
theorem Good.congr{zb:eJ}{st st':St}{tmps:Array Value}{w:World}{env:Env}(g:Good ty zb st tmps w env)(hs: ∀s v,look st'.sl s=some v→look st.sl s=some v)(hh: ∀n,look st'.hp n=look st.hp n):Good ty zb st' tmps w env:=by
 have s:Step (fun _=>True) (fun _=>True) w st.hp env w st'.hp env:=by
  refine⟨fun _ _ _=>rfl,?_,?_,?_⟩
  ·rintro b _ ⟨n,o,h1,h2⟩;exact⟨n,o,by rw[←hh];exact h1,h2⟩
  ·intro n o _ h1
   exact⟨o,by rw[hh];exact h1,by cases o<;>simp[Obj.like],rfl⟩
  ·intro n t l _ h1
   exact⟨by rw[hh];exact h1,rfl,fun _ _=>rfl⟩
 refine⟨fun n o hl=> ?_,fun n m o o' hne h1 h2=>g.lR n m o o' hne (by rw[←hh];exact h1) (by rw[←hh];exact h2),fun t v hl=>sK.step s (fun v _=>v.gD) (g.slot t v (hs t v hl)),fun n o hl=>g.dom n o (by rw[←hh];exact hl),g.pins⟩
 exact(g.obj n o (by rw[←hh];exact hl)).step s o.gD (fun _ _=>rfl)
end
section
variable{ty:Tag→Nat}
theorem K2{α:Type}: ∀{l:List α} {k i:Nat} {x:α},l[i]? =some x→(k+i,x)∈idx k l
 |y::r,k,0,x,h=>by simp at h;simp[idx,h]
 |y::r,k,i+1,x,h=>by
  have:=K2 (l:=r) (k:=k+1) (i:=i) (by simpa using h)
  rw[idx];right
  rw[show k+(i+1)=k+1+i by omega];exact this
structure Chk(ops:List Oper)(m:Nat):Prop where
 le:m≤ops.length
 back: ∀i o,ops[i]? =some o→ ∀j,j∈eo o→j<i
 uses: ∀i o,i<m→ops[i]? =some o→ ∀t,t∈tmpsOf o→ ∀k o',k<m→ops[k]? =some o'→o'.dst=some t→k=i∨k∈eo o∨(i<k∧((KW ops).getD k 0).testBit i=true)
 guard: ∀i o j x,i<m→ops[i]? =some o→o.guard=some (j,x)→j<i∧j<m∧j∈eo o
 dist: ∀i o k o' d,i<m→k<m→ops[i]? =some o→ops[k]? =some o'→o.dst=some d→o'.dst=some d→k=i
 tail: ∀i o,m≤i→ops[i]? =some o→ ∀j,j<i→((KW ops).getD i 0).testBit j=true
theorem Ro: ∀(l:List Oper) (acc:List Nat),(∀j,j<acc.length→(l.foldl lD acc).getD j 0=acc.getD j 0)∧
  ∀i o,l[i]? =some o→(∀j,j∈eo o→j<acc.length+i)→(l.foldl lD acc).getD (acc.length+i) 0=(eo o).foldl (fun s j=>s|||2^j||| (l.foldl lD acc).getD j 0) 0
 | [],acc=>⟨fun _ _=>rfl,fun i o h=>by simp at h⟩
 |o::r,acc=>by
  obtain⟨h1,h2⟩:=Ro r (lD acc o)
  have hl:(lD acc o).length=acc.length+1:=by simp[lD]
  have ha: ∀j,j<acc.length→((o::r).foldl lD acc).getD j 0=acc.getD j 0:=by
   intro j hj
   rw[cH,h1 j (by omega)]
   simp only[lD,ak]
   rw[List.getElem?_append_left hj]
  refine⟨ha,fun i o' ho hj=> ?_⟩
  cases i with
  |zero=>
   simp at ho
   subst ho
   rw[kH,cH,h1 _ (by omega)]
   have:(lD acc o).getD acc.length 0=(eo o).foldl (fun s j=>s|||2^j|||acc.getD j 0) 0:=by
    simp[lD,ak]
   rw[this]
   have agV: ∀(es:List Nat) (s0:Nat),(∀j,j∈es→j<acc.length)→es.foldl (fun s j=>s|||2^j|||acc.getD j 0) s0=es.foldl (fun s j=>s|||2^j||| (r.foldl lD (lD acc o)).getD j 0) s0:=by
    intro es
    induction es with
    |nil=>intros;rfl
    |cons j es ih=>
     intro s0 hh
     rw[cH,cH,ih _ fun k hk=>hh k (by simp[hk])]
     have:=ha j (hh j (by simp))
     rw[cH]at this
     rw[this]
   exact agV _ _ fun j hjj=>by simpa using hj j hjj
  |succ i=>
   have:=h2 i o' (by simpa using ho) (fun j hjj=>by rw[hl];have:=hj j hjj;omega)
   rw[hl,show acc.length+1+i=acc.length+(i+1)by omega]at this
   rw[cH];exact this
theorem GZ(g:Nat→Nat)(k:Nat): ∀(es:List Nat) (s0:Nat),(es.foldl (fun s j=>s|||2^j|||g j) s0).testBit k=true→s0.testBit k=true∨ ∃j,j∈es∧(k=j∨(g j).testBit k=true)
 | [],s0,h=>bG h
 |j::es,s0,h=>by
  rcases GZ g k es _ h with h| ⟨i,hi,h⟩
  ·rw[o8,o8,mG]at h
   simp only[dh,decide_eq_true_eq]at h
   rcases h with(h|h)|h
   ·exact bG h
   ·exact bg ⟨j,by simp,bG h.symm⟩
   ·exact bg ⟨j,by simp,bg h⟩
  ·exact bg ⟨i,by simp[hi],h⟩
theorem G0{ops:List Oper}(hb: ∀i o,ops[i]? =some o→ ∀j,j∈eo o→j<i){D:Nat→Prop}(hD: ∀i o,D i→ops[i]? =some o→ ∀j,j∈eo o→D j): ∀(i:Nat) (o:Oper),ops[i]? =some o→(∀j,j∈eo o→D j)→ ∀k,((KW ops).getD i 0).testBit k=true→D k:=by
 intro i
 induction i using kO with
 |_ i ih=>
  intro o ho he k hk
  have:=(Ro ops []).2 i o ho (fun j hj=>by simpa using hb i o ho j hj)
  simp only[gf,eE]at this
  have hc:(KW ops).getD i 0=(eo o).foldl (fun s j=>s|||2^j||| (KW ops).getD j 0) 0:=this
  rw[hc]at hk
  rcases GZ _ k _ _ hk with h| ⟨j,hj,h⟩
  ·simp at h
  ·rcases h with rfl|h
   ·exact he k hj
   ·have hji:=hb i o ho j hj
    have hlen:j<ops.length:=by have:=(aI.1 ho).1;omega
    exact ih j hji ops[j] (au hlen) (hD j _ (he j hj) (au hlen)) k h
section
variable{P:Program}{Γ:Nat→TK}{gL:List (Nat×Nat)}{cr:List (Nat×CR)}{ops:List Oper}{m:Nat}{s:St}{tr:List TE}{vcs:List Prop}
theorem oG{E:Tag→Nat→Prop}{S:FuncId→List S1→List S1→Prop}{st:St}{o:Oper}{vc:List Prop}{v:SV}{os:Hp}(h:tU Γ E S gL cr ops st o=some (vc,v,os)):
  ∃p,lQ st ops o=some p∧(p= []→ ∀q x,v≠ .cond q x)∧(p≠ []→(∃x,v= .cond p x)∧os= []∧ ∀d,o.dst=some d→ ∀e,e∈p→e.1≠d)∧(∀n x,look os n=some x→look st.hp n=none∧ng n=false):=by
 unfold tU at h
 split at h
 ·rename_i nm _ _ hg
  split at h
  ·rename_i tO v1 os1 hq
   split at h
   ·rename_i hf _
    simp only[oI,pI]at h
    obtain⟨_,rfl,rfl⟩:=h
    refine⟨[],hg,fun _ q x=> ?_,fun hh=>absurd rfl hh,fun n x hl=>⟨ru hf n x hl,CH hf n x hl⟩⟩
    rintro rfl
    unfold quiet VH at hq
    repeat' split at hq
    all_goals first
     | (cases hq;done)
     | (simp only[gr,oI,Out.mk.injEq]at hq;cases hq.2.1;done)
     | (simp only[oI,Out.mk.injEq]at hq;cases hq.2.1;done)
     | (simp only[oI]at hq;unfold outs at hq;(repeat' split at hq)<;>(simp only[Out.mk.injEq]at hq;cases hq.2.1))
   ·cases h
  ·cases h
 ·rename_i nm e p _ _ hg
  split at h
  ·rename_i agW
   split at h
   ·rename_i tO v1 hq
    simp only[oI,pI]at h
    obtain⟨_,rfl,rfl⟩:=h
    refine⟨e::p,hg,(fun hh=>by cases hh),fun _=>⟨⟨_,rfl⟩,rfl,fun d hd x hx hxd=> ?_⟩,fun n x hl=>by simp[look]at hl⟩
    rw[bK]at agW
    exact agW x hx (by rw[hd,hxd];simp)
   ·cases h
  ·cases h
 ·cases h
theorem Trace.fresh{E:Tag→Nat→Prop}{S:FuncId→List S1→List S1→Prop}(T:Trace Γ E S gL cr ops m s tr vcs):WQ tr s m:=by
 intro i e hi he n x hl
 obtain⟨o,e',vc,_,he',_,_,hq,_⟩:=T.one i hi
 rw[he]at he'
 simp only[oI]at he'
 subst he'
 obtain⟨p,_,_,_,hf⟩:=oG hq
 exact(hf n x hl).1
theorem Trace.path{E:Tag→Nat→Prop}{S:FuncId→List S1→List S1→Prop}(T:Trace Γ E S gL cr ops m s tr vcs)(K:Chk ops m): ∀(i:Nat),i<m→ ∀o p,ops[i]? =some o→lQ (pre tr s i) ops o=some p→ ∀e,e∈p→
  ∃k o',k<i∧ops[k]? =some o'∧o'.dst=some e.1∧ ∀D:Nat→Prop,(∀i o,D i→ops[i]? =some o→ ∀j,j∈eo o→D j)→(∀j,j∈eo o→D j)→D k:=by
 intro i
 induction i using kO with
 |_ i ih=>
  intro hi o p ho hg e he
  unfold lQ at hg
  split at hg
  ·simp at hg;subst hg;simp at he
  ·rename_i j x hgd
   obtain⟨hji,hjm,hje⟩:=K.guard i o j x hi ho hgd
   obtain⟨q,ej,vcj,hq,hej,hdj,_,hqc,_⟩:=T.one j hjm
   rw[hq]at hg
   dsimp only at hg
   rw[hdj]at hg
   dsimp only at hg
   have By:look (pre tr s i).sl ej.d=some ej.v:=by
    refine pQ hji rfl hej fun j' e' h1 _ h3 h4=> ?_
    obtain⟨q',e2,_,hq',IF,hd2,_⟩:=T.one j' (by omega)
    rw[h3]at IF
    simp only[oI]at IF
    subst IF
    exact K.dist j q j' q' ej.d hjm (by omega) hq hq' hdj (by rw[hd2,h4])
   rw[By]at hg
   obtain⟨pj,hgj,kE,iT,_⟩:=oG hqc
   have base: ∃k o',k<i∧ops[k]? =some o'∧o'.dst=some ej.d∧ ∀D:Nat→Prop,(∀i o,D i→ops[i]? =some o→ ∀j,j∈eo o→D j)→(∀j,j∈eo o→D j)→D k:=
    ⟨j,q,hji,hq,hdj,fun D _ hE=>hE j hje⟩
   split at hg
   ·simp only[oI]at hg
    subst hg
    simp only[aP]at he
    subst he
    exact base
   ·rename_i p' b hv
    simp only[oI]at hv
    simp only[oI]at hg
    subst hg
    rcases aW.1 he with rfl|he
    ·exact base
    ·have hpj:pj=p':=by
      by_cases hnil:pj= []
      ·exact absurd hv (kE hnil _ _)
      ·obtain⟨x',hx'⟩:=(iT hnil).1
       rw[hx']at hv
       simp only[SV.cond.injEq]at hv
       exact hv.1
     subst hpj
     obtain⟨k,o',h1,h2,h3,h4⟩:=ih j hji hjm q pj hq hgj e he
     exact⟨k,o',by omega,h2,h3,fun D hD hE=>h4 D hD (hD j q (hE j hje) hq)⟩
   ·cases hg
end
end
section
variable{ty:Tag→Nat}
theorem CZ{ops:List Oper}{listed:Array Bool}(hl:listed.size=ops.length){i:Nat}:i∈sV .any ops.toArray listed↔ ∃o,ops[i]? =some o∧listed.getD i false=false∧ ∀j,j∈eo o→listed.getD j false=true:=by
 unfold sV
 rw[rI,bV]
 simp only[List.size_toArray,kL,aj,bp]
 constructor
 ·rintro⟨hi,h1,h2⟩
  refine⟨ops[i],au hi,?_,?_⟩
  ·have:listed[i]? =some listed[i]:=by simp[hl,hi]
   rw[aa,this]at h1 ⊢
   exact h1
  ·intro j hj
   simp only[eo,sW,zk]at hj
   obtain⟨e,he,hj⟩:=hj
   split at hj
   ·rename_i hb
    simp only[oI]at hj
    subst hj
    rw[au hi]at h2
    simp only[dz,qn]at h2
    have:=oo.1 h2 e he
    simpa[hb]using this
   ·cases hj
 ·rintro⟨o,ho,h1,h2⟩
  have hi:=(aI.1 ho).1
  refine⟨hi,?_,?_⟩
  ·have:listed[i]? =some listed[i]:=by simp[hl,hi]
   rw[aa,this]at h1 ⊢
   exact h1
  ·rw[ho]
   simp only[dz,qn]
   rw[oo]
   intro e he
   cases hb:M4 .any e with
   |false=>simp
   |true=>
    have:=h2 e.on (by
     simp only[eo,sW,zk]
     exact⟨e,he,by simp[hb]⟩)
    simp[this]
theorem M7{listed:Array Bool}{i j:Nat}(hi:i<listed.size):(listed.setIfInBounds i true).getD j false=(listed.getD j false||j==i):=by
 rw[aa,aa]
 by_cases hij:i=j
 ·subst hij
  rw[gN hi];simp
 ·rw[fE hij]
  simp[show¬j=i from fun h=>hij h.symm]
def cnt(n:Nat)(D:Nat→Bool):Nat:=((bA n).filter fun i=> !D i).length
theorem filter_lt{p q:Nat→Bool}: ∀{l:List Nat},(∀x,x∈l→q x=true→p x=true)→(∃x,x∈l∧p x=true∧q x=false)→(l.filter q).length<(l.filter p).length
 |y::r,h,⟨x,hx,hp,hq⟩=>by
  have le: ∀{l:List Nat},(∀x,x∈l→q x=true→p x=true)→(l.filter q).length≤(l.filter p).length:=by
   intro l
   induction l with
   |nil=>intro _;simp
   |cons z l ih=>
    intro hh
    have:=ih fun x hx=>hh x (by simp[hx])
    cases hz:q z with
    |true=>rw[dc hz,dc (hh z (by simp) hz)];simp;exact this
    |false=>
     rw[ef (by simp[hz])]
     cases hz2:p z with
     |true=>rw[dc hz2];simp;omega
     |false=>rw[ef (by simp[hz2])];exact this
  rcases aW.1 hx with rfl|hx
  ·rw[ef (by simp[hq]),dc hp]
   have:=le (l:=r) fun x hx=>h x (by simp[hx])
   simp;omega
  ·have ih:=filter_lt (l:=r) (fun x hx=>h x (by simp[hx])) ⟨x,hx,hp,hq⟩
   cases hy:q y with
   |true=>rw[dc hy,dc (h y (by simp) hy)];simp;exact ih
   |false=>
    rw[ef (by simp[hy])]
    cases hy2:p y with
    |true=>rw[dc hy2];simp;omega
    |false=>rw[ef (by simp[hy2])];exact ih
theorem aaF{n i:Nat}{D:Nat→Bool}(hi:i<n)(hD:D i=false):cnt n (fun j=>D j||j==i)<cnt n D:=by
 refine filter_lt ?_ ⟨i,bV.2 hi,by simp[hD],by simp⟩
 intro x _ h
 simp only[bp,gm]at h
 simp[h.1]
theorem WR{n:Nat}{D:Nat→Bool}(h:cnt n D=0): ∀i,i<n→D i=true:=by
 intro i hi
 have:=List.eq_nil_of_length_eq_zero h
 cases hd:D i with
 |true=>rfl
 |false=>
  have:i∈(bA n).filter fun i=> !D i:=rI.2 ⟨bV.2 hi,by simp[hd]⟩
  simp_all
section
variable{P:Program}{Γ:Nat→TK}{gL:List (Nat×Nat)}{cr:List (Nat×CR)}{ops:List Oper}{m:Nat}{s:St}{tr:List TE}{zb:eJ}{Q:Exit→Act→World→Prop}
end
section
variable{P:Program}{Γ:Nat→TK}{zb:eJ}{Q:Post}{st:St}
end
end
section
variable{ty:Tag→Nat}
def C4(l:List Oper):Option (List Oper×Oper):=match l.reverse with
 | []=>none
 |o::r=>some (r.reverse,o)
theorem La{l p:List Oper}{q:Oper}(h:C4 l=some (p,q)):l=p++ [q]:=by
 unfold C4 at h
 split at h
 ·cases h
 ·rename_i o r he
  simp only[oI,pI]at h
  obtain⟨rfl,rfl⟩:=h
  have:=congrArg List.reverse he
  rw[List.reverse_reverse,List.reverse_cons]at this
  exact this
def RH(Γ:Nat→TK)(st:St)(o:Oper):Option (Nat×Prop):=match o.guard,o.dst,o.op with
 |none,some d, .binOp .eql t (.tmp s) (.const (.slice none 0 0)) _=>match Γ t,look st.sl s,mo d st.n with
  | .sl _ _,some (.one (.a (.sl _ l))),true=>some (d,l= [])
  | .sl _ _,some (.one (.a (.vw _ _ _ l))),true=>some (d,l= [])
  | .sl _ _,some (.one (.a (.own n))),true=>match look st.hp n with
    |some (.arr _ l)=>some (d,l= [])
    |_=>none
  |_,_,_=>none
 |_,_,_=>none
def RJ(n:Nat)(st':St)(ks:List Nat):Option St:=match GU st'.sl ks,GV st'.hp (WK st'.sl st'.hp ks [])with
 |some sl,some hp=>match yN sl hp with
  |true=>some ⟨n,sl,hp⟩
  |false=>none
 |_,_=>none
def RK(GS:St)(ks:List Nat)(d:Nat)(b:Bool):Option St:=RJ GS.n (GS.put (some d) (.one (.a (.lit (.bool b))))) ks
def Xe(P:Program)(ty:Tag→Nat)(Γ:Nat→TK)(gL:List (Nat×Nat))(cr:List (Nat×CR))(ks:List Nat)(ops:List Oper)(st:St):Option (List Prop×Prop×St×St):=
 match C4 ops with
 |some (pre,o)=>match run P ty Γ gL cr ops pre st []with
  |some (vc,GS)=>match RH Γ GS o with
   |some (d,p)=>match RK GS ks d true,RK GS ks d false with
    |some a,some b=>some (vc,p,a,b)
    |_,_=>none
   |none=>none
  |none=>none
 |none=>none
section
variable{P:Program}{Γ:Nat→TK}{zb:eJ}{Q:Post}{st:St}
theorem Lb(C: ∀t,fD P t (Γ t))(Z: ∀t,(∀z tg fo,Γ t≠ .st z tg fo)→Γ t≠ .other→(P.info? t).map (·.size)=some 1){gL:List (Nat×Nat)}{cr:List (Nat×CR)}{ops:List Oper}{OP:St}{vcs:List Prop}{Q:Exit→Act→World→Prop}{tail:List Oper}
  (hQ: ∀a w,Inv ty zb OP a w→wpList P ops.toArray Q tail a w): ∀{l:List Oper} {st:St} {acc:List Prop} {a:Act} {w:World},run P ty Γ gL cr ops l st acc=some (vcs,OP)→(∀q,q∈vcs→q)→Inv ty zb st a w→wpList P ops.toArray Q (l++tail) a w
 | [],st,acc,a,w,h,hv,iv=>by
   simp only[run,oI,pI]at h
   obtain⟨_,rfl⟩:=h
   exact hQ a w iv
 |o::r,st,acc,a,w,h,hv,iv=>by
  obtain⟨vc,GS,h1,h2⟩:=CW h
  have:=KS (Q:=Q) C Z h1 iv (fun q hq=>hv q (Bz h2 q (aM _ hq)))
  exact this.mono fun a' w' vi=>Lb C Z hQ h2 hv vi
theorem Ng{w:World}{t e:Nat}(d:Nat)(hu:P.underlying t=some (.slice e)){oa:Option Addr}{n cap:Nat}:(CM (d+1) t (.slice oa n cap) (.slice none 0 0)).run P w= .ok oa.isNone w:=by
 cases oa<;>simp[CM,run_underlying hu]
theorem aew{o:Oper}{a:Act}{w:World}{K:Act→World→Prop}{Q:Exit→Act→World→Prop}{t s e ge:Nat}{ty2:TypeId}(ho:o.op= .binOp .eql t (.tmp s) (.const (.slice none 0 0)) ty2)(hu:P.underlying t=some (.slice e)){oa:Option Addr}{n cap:Nat}(hs:a.tmps.getD s undef= .slice oa n cap)
  (h:K (a.put o.dst (.bool oa.isNone)) w):o.wp P a w K Q:=by
 have hx:a.eval (.tmp s)= .slice oa n cap:=hs
 have hrun:(execOp a.eval o).run P w= .ok (.value (.bool oa.isNone)) w:=by
  have hy:a.eval (.const (.slice none 0 0))= .slice none 0 0:=rfl
  unfold execOp
  simp only[ho,hx,hy]
  have he:(KD t (.slice oa n cap) (.slice none 0 0)).run P w= .ok oa.isNone w:=Ng 9999 hu
  have hb:(binOp .eql t (.slice oa n cap) (.slice none 0 0)).run P w= .ok (.bool oa.isNone) w:=by
   show(do pure (.bool (←KD t (.slice oa n cap) (.slice none 0 0))):Sem Value).run P w=_
   simp only[Sem.run_bind,he,Result.andThen_ok,Sem.run_pure]
  have hg:(eqGuard .eql t (.tmp s) (.const (.slice none 0 0)) (.slice oa n cap) (.slice none 0 0)).run P w= .ok () w:=by simp[eqGuard]
  simp only[Sem.run_bind,hg,hb,Result.andThen_ok,Sem.run_pure]
 unfold Oper.wp
 rw[hrun]
 exact h
theorem Nh{GS st':St}{ks:List Nat}{d:Nat}{b:Bool}(h:RK GS ks d b=some st'){a:Act}{w:World}(iv:Inv ty zb GS a w)(hd:mo d GS.n=true):Inv ty zb st' (a.put (some d) (.bool b)) w:=by
 have iv2:Inv ty zb (GS.put (some d) (.one (.a (.lit (.bool b))))) (a.put (some d) (.bool b)) w:=by
  obtain⟨env,g⟩:=iv.good
  have hlt: ∀d',some d=some d'→d'<a.tmps.size:=by
   intro d' e
   simp only[oI]at e
   subst e
   rw[iv.size]
   exact bT hd
  exact⟨by rw[l6,Bj];exact iv.size,by rw[put_defers];exact iv.defers,iv.kept,iv.ID,env,tZ (dst:=some d) g hlt (u:= .bool b) (show sK w GS.hp env a.tmps (.one (.a (.lit (.bool b)))) (.bool b)from ⟨rfl,rfl⟩) fun d _=>sU ⟨_,rfl⟩⟩
 unfold RK RJ at h
 split at h
 ·rename_i sl hp h1 h2
  split at h
  ·rename_i hc
   simp only[oI]at h
   subst h
   exact iv2.weaken (by rw[Bj]) (rK h1) (rL h2) hc
  ·cases h
 ·cases h
theorem Ni(X:Ctx P ty Γ)(gL:List (Nat×Nat))(cr:List (Nat×CR))(ks:List Nat){id:Nat}{ops:List Oper}{vc:List Prop}{p:Prop}{sT sF:St}(h:Xe P ty Γ gL cr ks ops st=some (vc,p,sT,sF))(hv:qI vc)(kT:p→Q .normal sT)(kF:Q .normal sF):
  W P ty zb (.region id ops.toArray false) Q st:=by
 intro a w iv
 unfold Xe at h
 split at h
 case h_2=>cases h
 rename_i pre o hsp
 split at h
 case h_2=>cases h
 rename_i tO GS hrun
 split at h
 case h_2=>cases h
 rename_i d p1 hnp
 split at h
 case h_2=>cases h
 rename_i sa sb hT hF
 simp only[oI,pI]at h
 obtain⟨rfl,rfl,rfl,rfl⟩:=h
 refine wp_region_lit ?_
 rw[show wpList P ops.toArray (IJ ty zb Q) ops a w=wpList P ops.toArray (IJ ty zb Q) (pre++ [o]) a w by rw[←La hsp]]
 refine Lb X.kind X.one (fun a w iv=> ?_) hrun hv.out iv
 obtain⟨env,g⟩:=iv.good
 unfold RH at hnp
 split at hnp
 case h_2=>cases hnp
 rename_i d0 t s ty2 hg hd hop
 have fin: ∀{oa:Option Addr} {n cap:Nat} {e ge:Nat},P.underlying t=some (.slice e)→a.tmps.getD s undef= .slice oa n cap→(oa=none→p1)→d0=d→mo d0 GS.n=true→wpList P ops.toArray (IJ ty zb Q) [o] a w:=by
  intro oa n cap e ge hu hs hn hdd hlt
  subst hdd
  have hk: ∀a' w',(fun a' w'=>a'=a.put (some d0) (.bool oa.isNone)∧w'=w) a' w'→wpList P ops.toArray (IJ ty zb Q) [] a' w':=by
   rintro a' w' ⟨rfl,rfl⟩
   refine wpList_nil ?_
   cases oa with
   |none=>exact⟨sa,Nh hT iv hlt,kT (hn rfl)⟩
   |some x=>exact⟨sb,Nh hF iv hlt,kF⟩
  have hR:wo P ops.toArray o a w (fun a' w'=>a'=a.put (some d0) (.bool oa.isNone)∧w'=w) (IJ ty zb Q):=mC hg (aew (ge:=ge) hop hu hs ⟨by rw[hd],rfl⟩)
  exact hR.mono hk
 split at hnp
 ·rename_i g1 e1 t1 l hk hl hlt
  simp only[oI,pI]at hnp
  have hC:=X.kind t
  rw[hk]at hC
  obtain⟨fp,By,_⟩:=g.slot s _ hl
  obtain⟨oa,cap,hv0,_,_,h3⟩:=By
  refine fin (ge:=0) hC.1 hv0 (fun hn=> ?_) hnp.1 hlt
  rw[←hnp.2]
  rcases h3 with⟨h3,_⟩| ⟨b,off,cu,rfl,_⟩
  ·exact h3
  ·cases hn
 ·rename_i g1 e1 n1 p2 t1 l hk hl hlt
  simp only[oI,pI]at hnp
  have hC:=X.kind t
  rw[hk]at hC
  obtain⟨_,⟨fp,By,_⟩,_⟩:=g.slot s _ hl
  obtain⟨oa,cap,hv0,_,_,h3⟩:=By
  refine fin (ge:=0) hC.1 hv0 (fun hn=> ?_) hnp.1 hlt
  rw[←hnp.2]
  rcases h3 with⟨h3,_⟩| ⟨b,off,cu,rfl,_⟩
  ·exact h3
  ·cases hn
 ·rename_i g1 e1 n1 hk hl hlt
  split at hnp
  ·rename_i t1 l ajt
   simp only[oI,pI]at hnp
   have hC:=X.kind t
   rw[hk]at hC
   obtain⟨_,hu⟩:=g.slot s _ hl
   obtain⟨oa,cap,hv0,_,_,h3⟩:=RO.sl (g.obj n1 _ ajt)
   refine fin (ge:=0) hC.1 (hu.trans hv0) (fun hn=> ?_) hnp.1 hlt
   rw[←hnp.2]
   rcases h3 with⟨h3,_⟩| ⟨b,off,cu,rfl,_⟩
   ·exact h3
   ·cases hn
  ·cases hnp
 ·cases hnp
end
end
section
variable{ty:Tag→Nat}
def V.rev(hp:Hp)(ks ns:List Nat)(m0:Nat):V→V
 | .own n=>match ns.any (bf n)with
   |true=>match look hp n with|some (.arr t l)=> .vw m0 none t l|_=> .any
   |false=>(V.own n).cM ks []
 |v=>v.cM ks []
def S1.rev(hp:Hp)(ks ns:List Nat)(m0:Nat):S1→S1
 | .a v=> .a (v.rev hp ks ns m0)
 | .agg l=> .agg (l.map (V.rev hp ks ns m0))
def SV.rev(hp:Hp)(ks ns:List Nat)(m0:Nat):SV→SV
 | .one x=> .one (x.rev hp ks ns m0)
 | .zH l=> .zH (l.map (S1.rev hp ks ns m0))
 | .cond p x=> .cond p (x.rev hp ks ns m0)
def Obj.rev(hp:Hp)(ks ns:List Nat)(m0:Nat):Obj→Obj
 | .box c=> .box (c.map (V.rev hp ks ns m0))
 | .arr t l=> .arr t l
 | .jc t l s=> .jc t l (s.cM ks [])
def Nt(kE:Hp)(ks ns:List Nat)(m0:Nat)(hp:Hp):Hp:=(hp.filter fun e=> !ks.any (bf e.1)).map fun e=>(e.1,e.2.rev kE ks ns m0)
theorem De{kE:Hp}{ks ns:List Nat}{m0:Nat}{hp:Hp}{n:Nat}:look (Nt kE ks ns m0 hp) n=if n∈ks then none else(look hp n).map (Obj.rev kE ks ns m0):=by
 unfold Nt
 rw[ny (α:=Obj) (f:=fun e:Nat×Obj=>e.2.rev kE ks ns m0)]
 have h:=c8 (ks:=ks) (kv:= []) (hp:=hp) (n:=n)
 unfold dQ at h
 rw[ny (α:=Obj) (f:=fun e:Nat×Obj=>e.2.cM ks [])]at h
 by_cases hn:n∈ks
 ·rw[if_pos hn]at h ⊢
  cases hq:look (hp.filter fun e=> !ks.any (bf e.1)) n with
  |none=>rfl
  |some o=>rw[hq]at h;cases h
 ·rw[if_neg hn]at h ⊢
  have:look (hp.filter fun e=> !ks.any (bf e.1)) n=look hp n:=by
   induction hp with
   |nil=>rfl
   |cons e r ih=>
    obtain⟨j,x⟩:=e
    by_cases hj:j∈ks
    ·have hne:n≠j:=by rintro rfl;exact hn hj
     have hb:(ks.any (bf j))=true:=dV.2 ⟨j,hj,by simp⟩
     rw[ef (by simp[hb])]at h ⊢
     rw[bX hne]at h ⊢
     exact ih h
    ·have hb:(ks.any (bf j))=false:=by
      rw[bK]
      intro y hy h2
      exact hj (by rw[av h2];exact hy)
     rw[dc (by simp[hb])]at h ⊢
     by_cases hnj:n=j
     ·subst hnj;rw[look_eq,look_eq]
     ·rw[bX hnj]at h ⊢
      rw[bX hnj]at h ⊢
      exact ih h
  rw[this]
section
variable{ks ns:List Nat}{m0:Nat}{w w':World}{hp kg:Hp}{env env':Env}
theorem P3{ns:List Nat}{n:Nat}(h:ns.any (bf n)=true):n∈ns:=by
 obtain⟨y,hy,h2⟩:=dV.1 h
 rw[av h2];exact hy
theorem RA.rev(s:uc ks [] w hp env w' kg env')(hv: ∀n t l,n∈ns→look hp n=some (.arr t l)→RA w' kg env' (.vw m0 none t l) (env n).v){v:V}{u:Value}(h:RA w hp env v u):RA w' kg env' (v.rev hp ks ns m0) u:=by
 cases v with
 |own n=>
  have e:V.rev hp ks ns m0 (.own n)=match ns.any (bf n)with
   |true=>(match look hp n with|some (.arr t l)=> .vw m0 none t l|_=> .any)
   |false=>(V.own n).cM ks []:=rfl
  rw[e]
  cases hn:ns.any (bf n)with
  |true=>
   obtain⟨⟨t,l,hl⟩,rfl⟩:=h
   rw[hl]
   exact hv n t l (P3 hn) hl
  |false=>exact RA.kj s h
 |_=>exact RA.kj s h
theorem ji.rev(s:uc ks [] w hp env w' kg env')(hv: ∀n t l,n∈ns→look hp n=some (.arr t l)→RA w' kg env' (.vw m0 none t l) (env n).v){x:S1}{u:Value}(h:ji w hp env x u):ji w' kg env' (x.rev hp ks ns m0) u:=by
 cases x with
 |a v=>exact RA.rev s hv h
 |agg l=>obtain⟨cs,hu,hl⟩:=h;exact⟨cs,hu,hl.map fun a b hr=>RA.rev s hv hr⟩
theorem sK.rev(s:uc ks [] w hp env w' kg env')(hv: ∀n t l,n∈ns→look hp n=some (.arr t l)→RA w' kg env' (.vw m0 none t l) (env n).v){tmps:Array Value}{x:SV}{u:Value}(h:sK w hp env tmps x u):sK w' kg env' tmps (x.rev hp ks ns m0) u:=by
 cases x with
 |one x=>exact ji.rev s hv h
 |zH l=>obtain⟨us,hu,hl⟩:=h;exact⟨us,hu,hl.map fun a b hr=>ji.rev s hv hr⟩
 |cond p x=>exact⟨fun hh=>ji.rev s hv (h.1 hh),h.2⟩
theorem RO.rev(s:uc ks [] w hp env w' kg env')(hv: ∀n t l,n∈ns→look hp n=some (.arr t l)→RA w' kg env' (.vw m0 none t l) (env n).v){n:Nat}{o:Obj}{co:CO}(h:RO ty w hp env n o co)(hk: ∀b,b∈co.fp→w'.heap[b]? =w.heap[b]?):RO ty w' kg env' n (o.rev hp ks ns m0) co:=by
 cases o with
 |box c=>
  obtain⟨b,cs,e,rfl,hh,hc⟩:=h
  exact⟨b,cs,e,rfl,by rw[hk b (by simp)];exact hh,hc.map fun a u hr=>RA.rev s hv hr⟩
 |arr t l=>exact RO.agree h hk
 |jc t l r=>
  rcases RO.Gh h with⟨rfl,h⟩| ⟨u,rfl,h⟩| ⟨p,rfl,h⟩| ⟨hr,h1,us,hB,h2,h3⟩
  ·exact Mo.agree h hk
  ·exact Kt.step s hk h
  ·exact CG.kj s hk h
  ·exact RO.Tl (uM.MD hr) ⟨h1,us,lP.agree A9 hB hk,h2,fun i x u hx hu=>BE.kj s (h3 i x u hx hu)⟩
end
section
variable{P:Program}{zb:eJ}{st:St}{a:Act}{w:World}{env:Env}
theorem Xn(g:Good ty zb st a.tmps w env)(hB:zb.w.heap.size≤w.heap.size){ks ns:List Nat}{d:Nat}(hdp:ng d=false)(hd:look (dQ ks [] st.hp) d=none){v v':Value}{w':World}{t:Tag}{l:List (T t)}{fp fx je:List Nat}
  (iV: ∀b,b∈fp++fx→ ∃i o,i∈ks∧look st.hp i=some o∧b∈(env i).fp)(Ec: ∀b,v.ownBlock=some b→b∈fp)
  (hB':lP (kk t) (rd t) 0 (ty t) w' v' l je)(hg:w.grownBy w' v.ownBlock)(hsub: ∀b,b∈je→b∈fp∨b∈fx∨w.heap.size≤b)
  (hns: ∀n,n∈ns→n∈ks)(hin: ∀n o b,n∈ns→look st.hp n=some o→b∈(env n).fp→b∈je∧w'.heap[b]? =w.heap[b]?):
  ∃env',Good ty zb ⟨st.n,st.sl.map fun e=>(e.1,e.2.rev st.hp ks ns d),(d, .arr t l)::Nt st.hp ks ns d st.hp⟩ a.tmps w' env'∧(env' d).v=v':=by
 refine⟨fun n=>if n=d then⟨v',je⟩else env n,?_,by simp⟩
 have hlk: ∀m o,look ((d,Obj.arr t l)::Nt st.hp ks ns d st.hp) m=some o→(m=d∧o= .arr t l)∨(m≠d∧m∉ks∧ ∃o',look st.hp m=some o'∧o=o'.rev st.hp ks ns d):=by
  intro m o hm
  by_cases kK:m=d
  ·subst kK;rw[look_eq]at hm;simp only[oI]at hm;exact bG ⟨rfl,hm.symm⟩
  ·rw[bX kK,De]at hm
   split at hm
   ·cases hm
   ·rename_i hks
    cases hq:look st.hp m with
    |none=>rw[hq]at hm;cases hm
    |some o'=>rw[hq]at hm;simp only[dz,oI]at hm;exact bg ⟨kK,hks,o',rfl,hm.symm⟩
 have how: ∀b,b∈je→b<w.heap.size→ ∃i o,i∈ks∧look st.hp i=some o∧b∈(env i).fp:=by
  intro b hb hlt
  rcases hsub b hb with h|h|h
  ·exact iV b (aM _ h)
  ·exact iV b (aH _ h)
  ·omega
 have hnd: ∀m o,m∉ks→look st.hp m=some o→m≠d:=by
  rintro m o hks h1 rfl
  rw[c8,if_neg hks,h1]at hd
  cases hd
 have hst: ∀m o,m∉ks→look st.hp m=some o→ ∀b,b∈(env m).fp→w'.heap[b]? =w.heap[b]? :=by
  intro m o hks h3 b hb
  refine hg.block b ((g.obj m o h3).zS b hb) fun e=> ?_
  obtain⟨i,oi,hi,h5,h6⟩:=iV b (aM _ (Ec b e.symm))
  exact g.lR m i _ _ (fun e=>hks (e▸hi)) h3 h5 b hb h6
 have s:uc ks [] w st.hp env w' ((d, .arr t l)::Nt st.hp ks ns d st.hp) (fun n=>if n=d then⟨v',je⟩else env n):=by
  refine⟨fun b hb hno=>hg.block b hb fun e=> ?_,?_,?_,?_⟩
  ·obtain⟨i,o',_,h1,h2⟩:=iV b (aM _ (Ec b e.symm))
   exact hno ⟨i,o',h1,h2⟩
  ·rintro b hb ⟨m,o',h1,h2⟩
   rcases hlk m o' h1 with⟨rfl,rfl⟩| ⟨kK,hks,AW,h3,rfl⟩
   ·simp at h2
    obtain⟨i,o',_,h3,h4⟩:=how b h2 hb
    exact⟨i,o',h3,h4⟩
   ·simp[kK]at h2
    exact⟨m,AW,h3,h2⟩
  ·intro m o' hks h1
   have kK:=hnd m o' hks h1
   refine⟨o'.rev st.hp ks ns d,by rw[bX kK,De,if_neg hks,h1];rfl,by cases o'<;>simp[Obj.like,Obj.rev],by simp[kK]⟩
  ·rintro m t' l' ⟨hks,_⟩ h1
   have kK:=hnd m _ hks h1
   exact⟨by rw[bX kK,De,if_neg hks,h1];rfl,by simp[kK],hst m _ hks h1⟩
 have hv: ∀n t1 l1,n∈ns→look st.hp n=some (.arr t1 l1)→RA w' ((d, .arr t l)::Nt st.hp ks ns d st.hp) (fun n=>if n=d then⟨v',je⟩else env n) (.vw d none t1 l1) (env n).v:=by
  intro n t1 l1 hn hl
  have By:=RO.sl (g.obj n _ hl)
  refine⟨⟨_,_,look_eq⟩,⟨_,Sl.agree (fP t1) By fun b hb=>(hin n _ b hn hl hb).2,(RO.own (g.obj n _ hl)).nodup,fun b hb=> ?_⟩,fun _ _ h=>by cases h⟩
  simp only[if_true]
  exact(hin n _ b hn hl hb).1
 have Ws:Good ty zb ⟨st.n,st.sl.map fun e=>(e.1,e.2.rev st.hp ks ns d),(d, .arr t l)::Nt st.hp ks ns d st.hp⟩ a.tmps w' (fun n=>if n=d then⟨v',je⟩else env n):=by
  refine⟨fun m o' hm=> ?_,fun m m' o1 o2 hne h1 h2 b hb hb'=> ?_,fun s1 x hl=> ?_,fun m o' hm b hb=> ?_,fun m hm=> ?_⟩
  ·rcases hlk m o' hm with⟨rfl,rfl⟩| ⟨kK,hks,AW,h3,rfl⟩
   ·simp only[if_true];exact RO.Jg hB'
   ·simp only[if_neg kK]
    exact RO.rev s hv (g.obj m AW h3) (hst m AW hks h3)
  ·rcases hlk m o1 h1 with⟨e1,_⟩| ⟨kK,hks,q1,h3,_⟩<;>rcases hlk m' o2 h2 with⟨e2,_⟩| ⟨EO,Pp,q2,h4,_⟩
   ·exact hne (e1.trans e2.symm)
   ·simp only[if_pos e1]at hb
    simp only[if_neg EO]at hb'
    have hlt:=(g.obj m' q2 h4).zS b hb'
    obtain⟨i,oi,hi,h5,h6⟩:=how b hb hlt
    exact g.lR m' i _ _ (fun e=>Pp (e▸hi)) h4 h5 b hb' h6
   ·simp only[if_pos e2]at hb'
    simp only[if_neg kK]at hb
    have hlt:=(g.obj m q1 h3).zS b hb
    obtain⟨i,oi,hi,h5,h6⟩:=how b hb' hlt
    exact g.lR m i _ _ (fun e=>hks (e▸hi)) h3 h5 b hb h6
   ·simp only[if_neg kK]at hb
    simp only[if_neg EO]at hb'
    exact g.lR m m' _ _ hne h3 h4 b hb hb'
  ·have hl:look (st.sl.map fun e=>(e.1,e.2.rev st.hp ks ns d)) s1=some x:=hl
   rw[ny (α:=SV) (f:=fun e:Nat×SV=>e.2.rev st.hp ks ns d)]at hl
   cases hq:look st.sl s1 with
   |none=>rw[hq]at hl;cases hl
   |some y=>
    rw[hq]at hl
    simp only[dz,oI]at hl
    subst hl
    exact sK.rev s hv (g.slot s1 y hq)
  ·rcases hlk m o' hm with⟨e1,_⟩| ⟨kK,hks,q1,h3,_⟩
   ·simp only[if_pos e1]at hb
    by_cases hlt:b<w.heap.size
    ·obtain⟨i,oi,hi,h5,h6⟩:=how b hb hlt
     exact g.dom i oi h5 b h6
    ·exact bg (by omega)
   ·simp only[if_neg kK]at hb
    exact g.dom m q1 h3 b hb
  ·have:m≠d:=by rintro rfl;rw[hdp]at hm;cases hm
   simp only[if_neg this]
   exact g.pins m hm
 exact Ws
theorem Df(g:Good ty zb st a.tmps w env): ∀{l c:List V} {k:List Nat} {us:List Value},cO (RA w st.hp env) l us→takes st l=some (c,k)→k.Nodup→
  ∃fp,dM w c us fp∧Own 0 w fp∧(∀b,b∈fp→ ∃i o,i∈k∧look st.hp i=some o∧b∈(env i).fp)∧ ∀i b,i∈k→b∈(env i).fp→b∈fp
 | [],c,k,us,hr,h,_=>by
   simp only[takes,oI,pI]at h
   obtain⟨rfl,rfl⟩:=h
   cases us with
   |nil=>exact⟨[],rfl,Own.nil _ _,by simp,by simp⟩
   |cons _ _=>exact hr.elim
 |v::r,c,k,us,hr,h,hnd=>by
  cases us with
  |nil=>exact hr.elim
  |cons u us=>
   cases v with
   |lit x=>
    simp only[takes]at h
    split at h
    ·rename_i c' k' h'
     simp only[oI,pI]at h
     obtain⟨rfl,rfl⟩:=h
     obtain⟨fp,h1,h2,h3,h4⟩:=Df g hr.2 h' hnd
     obtain⟨e1,e2⟩:=hr.1
     exact⟨fp,⟨[],fp,⟨e1,e2,rfl⟩,h1,rfl⟩,h2,h3,h4⟩
    ·cases h
   |own n=>
    simp only[takes]at h
    split at h
    ·rename_i t l c' k' hl h'
     simp only[oI,pI]at h
     obtain⟨rfl,rfl⟩:=h
     obtain⟨hn1,hn2⟩:=List.nodup_cons.1 hnd
     obtain⟨fp,h1,h2,h3,h6⟩:=Df g hr.2 h' hn2
     obtain⟨_,rfl⟩:=hr.1
     have hb:=RO.sl (g.obj n _ hl)
     have ho:=RO.own (g.obj n _ hl)
     refine⟨(env n).fp++fp,⟨_,_,hb,h1,rfl⟩,⟨aY.2 ⟨ho.nodup,h2.nodup,?_⟩,fun b hb=> ?_,fun b hb=> ?_⟩,fun b hb=> ?_,fun i b hi hbi=> ?_⟩
     ·rintro b hb x hx rfl
      obtain⟨i,o,hi,h4,h5⟩:=h3 b hx
      exact g.lR n i _ _ (fun e=>hn1 (e▸hi)) hl h4 b hb h5
     ·rcases aK.1 hb with hb|hb
      ·exact ho.ge b hb
      ·exact h2.ge b hb
     ·rcases aK.1 hb with hb|hb
      ·exact ho.kind b hb
      ·exact h2.kind b hb
     ·rcases aK.1 hb with hb|hb
      ·exact⟨n,_,by simp,hl,hb⟩
      ·obtain⟨i,o,hi,h4,h5⟩:=h3 b hb
       exact⟨i,o,aJ _ hi,h4,h5⟩
     ·rcases aW.1 hi with rfl|hi
      ·exact aM _ hbi
      ·exact aH _ (h6 i b hi hbi)
    ·cases h
   |_=>simp[takes]at h
theorem Hl(g:Good ty zb st a.tmps w env){t:Tag}: ∀{ps:List (Nat×Operand)} {i:Nat} {vc:List Prop} {xs:List (T t)} {ks:List Nat},GC st t i ps=some (vc,xs,ks)→ks.Nodup→(∀q,q∈vc→q)→
  (ps.map fun p=>(p.1,a.eval p.2))=zh i (ps.map fun p=>a.eval p.2)∧xs.length=ps.length∧ ∃cu:List (List Nat),cu.length=xs.length∧
   (∀(i:Nat) (x:T t) (f:List Nat),xs[i]? =some x→cu[i]? =some f→ ∃p:Nat×Operand,ps[i]? =some p∧rd t w (a.eval p.2).cells.toList x f)∧Own 0 w cu.flatten∧(∀b,b∈cu.flatten→ ∃i o,i∈ks∧look st.hp i=some o∧b∈(env i).fp)∧
   ∀i b,i∈ks→b∈(env i).fp→b∈cu.flatten
 | [],i,vc,xs,ks,h,_,_=>by
   simp only[GC,oI,pI]at h
   obtain⟨rfl,rfl,rfl⟩:=h
   exact⟨rfl,rfl,[],rfl,by simp,Own.nil _ _,by simp,by simp⟩
 | (j,x)::r,i,vc,xs,ks,h,hnd,hv=>by
   simp only[GC]at h
   split at h
   ·rename_i s hij hx
    have hij:=av hij
    subst hij
    split at h
    ·rename_i c k hc
     split at h
     ·rename_i tO y vcs ys ks1 he hb
      simp only[oI,pI]at h
      obtain⟨rfl,rfl,rfl⟩:=h
      obtain⟨hn1,hn2,Zu⟩:=aY.1 hnd
      obtain⟨q1,q2,cu,q3,q4,q5,q6,q7⟩:=Hl g hb hn2 (fun q hq=>hv q (aH _ hq))
      obtain⟨fp,r1,r2,r3,r4⟩:=Df g (mF g (gu g (fun e he=>by simp at he) hx) (jk hc)) hc hn1
      have hE:=uW t he (fun q hq=>hv q (aM _ hq)) r1
      refine⟨by simp[zh,q1],by simp[q2],fp::cu,by simp[q3],?_,⟨?_,?_,?_⟩,?_,?_⟩
      ·intro i' x' f hx' hf
       cases i' with
       |zero=>simp at hx' hf;subst hx';subst hf;exact⟨(i,x),rfl,hE⟩
       |succ n=>simp at hx' hf;obtain⟨p,h1,h2⟩:=q4 n x' f hx' hf;exact⟨p,by simpa using h1,h2⟩
      ·rw[bO]
       refine aY.2 ⟨r2.nodup,q5.nodup,?_⟩
       rintro b hb z hz rfl
       obtain⟨n,o1,h1,h2,h3⟩:=r3 b hb
       obtain⟨m,o2,h4,h5,h6⟩:=q6 b hz
       exact g.lR n m _ _ (fun e=>Zu n h1 m h4 e) h2 h5 b h3 h6
      ·intro b hb
       rw[bO]at hb
       rcases aK.1 hb with hb|hb
       ·exact r2.ge b hb
       ·exact q5.ge b hb
      ·intro b hb
       rw[bO]at hb
       rcases aK.1 hb with hb|hb
       ·exact r2.kind b hb
       ·exact q5.kind b hb
      ·intro b hb
       rw[bO]at hb
       rcases aK.1 hb with hb|hb
       ·obtain⟨n,o1,h1,h2,h3⟩:=r3 b hb;exact⟨n,o1,aM _ h1,h2,h3⟩
       ·obtain⟨n,o1,h1,h2,h3⟩:=q6 b hb;exact⟨n,o1,aH _ h1,h2,h3⟩
      ·intro n b hn hb
       rw[bO]
       rcases aK.1 hn with hn|hn
       ·exact aM _ (r4 n b hn hb)
       ·exact aH _ (q7 n b hn hb)
     ·cases h
    ·cases h
   ·cases h
end
def aeC(d:Nat):Operand→Bool
 | .tmp s=> !Nat.beq s d
 | .const _=>true
 |_=>false
def aeD(P:Program)(ty:Tag→Nat)(Γ:Nat→TK)(st:St)(m0:Nat)(o1 o2:Oper):Option (List Prop×St):=
 match o1.guard,o1.dst,o1.op with
 |none,some d1, .buildSlice tb len parts=>match Γ tb with
  | .sl t e=>match bf e (ty t)&&bf parts.toList.length len&&Nat.ble (len*kk t) 16777216,GC st t 0 parts.toList with
    |true,some (vc,lx,m)=>match o2.guard,o2.dst,o2.op with
     |none,some d2, .call ⟨.builtin .append,xs,ts⟩=>match xs.toList,ts.toList with
      | [s, .tmp d],[t1,t2]=>match bf d d1&&aeC d1 s&&bf t1 tb&&bf t2 tb,jh st [] s with
        |true,some vs=>match Gz st t vs with
         |some (l,k)=>match tG m&&Bn k m&& !pinned k&& !ng m0&&mo d1 st.n&&mo d2 st.n,look (dQ (qE k m) [] st.hp) m0 with
          |true,none=>some ([El P ty t,(l.length+lx.length)*gl t≤140737488355328∧l.length+lx.length≤maxLen]++vc,
            (St.put ⟨st.n,st.sl.map fun e=>(e.1,e.2.rev st.hp (qE k m) m m0),(m0, .arr t (l++lx))::Nt st.hp (qE k m) m m0 st.hp⟩ (some d1) (.one (.a .any))).put (some d2) (.one (.a (.own m0))))
          |_,_=>none
         |none=>none
        |_,_=>none
      |_,_=>none
     |_,_,_=>none
    |_,_=>none
  |_=>none
 |_,_,_=>none
theorem P4{w:World}{base:Nat}{e:TypeId}{k g o n cap:Nat}{xs:List Value}(h:kq w base e k (.slice (some ⟨g,o,none⟩) n cap) n xs): ∀j u,xs[j]? =some u→w.cell? ((⟨g,o,none⟩:Addr).add j)=some u:=by
 intro j u hu
 rcases h.2 with⟨h1,_⟩| ⟨g',o',cap',cur,hv,_,hg,_,_,_,FR⟩
 ·cases h1
 ·simp only[Value.slice.injEq,oI,Addr.mk.injEq,and_true,true_and]at hv
  obtain⟨⟨rfl,rfl⟩,rfl⟩:=hv
  rw[Addr.add_mid]
  exact yB hg j u (by rw[FR];exact hu)
section
variable{P:Program}{zb:eJ}{st:St}{a:Act}{w:World}{env:Env}{o:Oper}
theorem aa5{Γ:Nat→TK}(C: ∀t,fD P t (Γ t)){m0:Nat}{o1 o2:Oper}{vc:List Prop}{st':St}(h:aeD P ty Γ st m0 o1 o2=some (vc,st'))(hv: ∀q,q∈vc→q)(iv:Inv ty zb st a w)
  {ops:Array Oper}{tail:List Oper}{Q:Exit→Act→World→Prop}(hQ: ∀a w,Inv ty zb st' a w→wpList P ops Q tail a w):wpList P ops Q (o1::o2::tail) a w:=by
 obtain⟨env,g⟩:=iv.good
 have hB:=iv.kept.size
 unfold aeD at h
 split at h
 case h_2=>cases h
 rename_i d1 tb len parts hg1 hd1 ho1
 split at h
 case h_2=>cases h
 rename_i t e hk
 split at h
 case h_2=>cases h
 rename_i tO lx m Ad hb
 split at h
 case h_2=>cases h
 rename_i d2 xs ts hg2 hd2 U7
 split at h
 case h_2=>cases h
 rename_i s d t1 t2 hxl htl
 split at h
 case h_2=>cases h
 rename_i vs KG hs
 split at h
 case h_2=>cases h
 rename_i l k hds
 split at h
 case h_2=>cases h
 rename_i hc3 hlk
 simp only[oI,pI,gI]at h
 rw[gI]at hlk
 obtain⟨rfl,ajv⟩:=h
 simp only[aj,bp]at Ad KG hc3
 obtain⟨⟨he,hlen⟩,hbig⟩:=Ad
 obtain⟨⟨⟨hdd,hoff⟩,ht1⟩,ht2⟩:=KG
 obtain⟨⟨⟨⟨⟨hnd,hno⟩,hpk⟩,Gw⟩,hl1⟩,qN⟩:=hc3
 have he:=av he
 obtain rfl:=av hdd
 obtain rfl:=av ht1
 obtain rfl:=av ht2
 obtain rfl:xs= #[s, .tmp d]:=by cases xs;simp_all
 obtain rfl:ts= #[t2,t2]:=by cases ts;simp_all
 have vQ:El P ty t:=hv _ (by simp)
 obtain⟨ck,dS⟩:(l.length+lx.length)*gl t≤140737488355328∧l.length+lx.length≤maxLen:=hv _ (by simp)
 obtain⟨q1,q2,cu,q3,q4,q5,q6,q7⟩:=Hl g hb (mR hnd) (fun q hq=>hv q (by simp[hq]))
 have hC:=C t2
 rw[hk,he]at hC
 have hlen:=av hlen
 obtain⟨w1,r1,r2,r3⟩:=yH (P:=P) (w:=w) (a:=a) ho1 hC.1 vQ (bT hbig) hlen (aA _) q1 q2 q3 q4 q5
 have g1:Good ty zb st a.tmps w1 env:=by
  have:=Good.grow hB g (os:= []) rfl (oC.none r2)
  exact this
 have ZE:zb.w.heap.size≤w1.heap.size:=dY hB r2.size
 have hR1:wo P ops o1 a w (fun a' w'=>a'=a.put o1.dst (.slice (some ⟨w.heap.size,0,none⟩) len len)∧w1=w') Q:=by
  refine mC hg1 ?_
  unfold Oper.wp
  rw[r1]
  exact⟨rfl,rfl⟩
 refine hR1.mono ?_
 rintro a1 w1 ⟨rfl,rfl⟩
 have zi:d<a.tmps.size:=by rw[iv.size];exact bT hl1
 have ajw:d2<a.tmps.size:=by rw[iv.size];exact bT qN
 rw[hd1]
 have tI:(a.put (some d) (.slice (some ⟨w.heap.size,0,none⟩) len len)).eval s=a.eval s:=by
  cases s with
  |tmp s=>
   simp only[aeC,bp]at hoff
   have hne:s≠d:=by rintro rfl;simp at hoff
   show(a.tmps.setIfInBounds d _).getD s undef=a.tmps.getD s undef
   rw[aa,aa,fE (fun e=>hne e.symm)]
  |const v=>rfl
  |_=>simp[aeC]at hoff
 have hxv:(a.put (some d) (.slice (some ⟨w.heap.size,0,none⟩) len len)).eval (.tmp d)= .slice (some ⟨w.heap.size,0,none⟩) len len:=by
  show(a.tmps.setIfInBounds d _).getD d undef=_
  rw[aa,gN zi];rfl
 obtain⟨fp,hD,wL⟩:=CS g1 (gu g1 (fun e he=>by simp at he) hs) hds hpk
 obtain⟨news,fx,hown,hfl,hfe,iV,hfo⟩:=r3
 have Q4:fx.flatten=cu.flatten:=by simpa[Value.ownBlock]using iV.symm
 have hq5:Own 0 w1 cu.flatten:=q5.below r2
 have hlx:len=lx.length:=by rw[q2,hlen]
 have S5:Own 0 w1 (fp++fx.flatten):=by
  rw[Q4]
  have ho:=hD.own
  refine⟨aY.2 ⟨ho.nodup,hq5.nodup,?_⟩,fun b hb=> ?_,fun b hb=> ?_⟩
  ·rintro b hb c hc rfl
   obtain⟨i,oi,hi,h1,h2⟩:=wL b hb
   obtain⟨j,oj,hj,h3,h4⟩:=q6 b hc
   have hij:i≠j:=by
    rintro rfl
    simp only[Bn,bq,bp,bK]at hno
    exact hno i hi i hj (by simp)
   exact g.lR i j _ _ hij h1 h3 b h2 h4
  ·rcases aK.1 hb with hb|hb
   ·exact ho.ge b hb
   ·exact hq5.ge b hb
  ·rcases aK.1 hb with hb|hb
   ·exact ho.kind b hb
   ·exact hq5.kind b hb
 have Ec: ∀b,(a.eval s).ownBlock=some b→b∈fp:=by
  intro b hb
  obtain⟨xs,cu,_,_,_,iV,_⟩:=hD
  rw[iV,hb];simp
 have hsrc:Src w1 (.slice (some ⟨w.heap.size,0,none⟩) len len) lx.length news:=by
  subst hlx
  exact bg ⟨⟨w.heap.size,0,none⟩,_,rfl,P4 hown⟩
 have hR2:wo P ops o2 (a.put (some d) (.slice (some ⟨w.heap.size,0,none⟩) len len)) w1 (fun a' w'=>Inv ty zb st' a' w') Q:=by
  refine mC hg2 ?_
  refine Fh s (.tmp d) t2 U7 (fP t) (iW t) 0 (ty t) (iH t) (gl t) hC.1 vQ (mB t) (a.eval s) l fp tI hD _ hxv lx news fx hsrc hfl hown.1 hfe S5 dS ck (aA _) ?_
  intro v' w' je k1 k2 k3 k4 k5 k6
  obtain⟨env',hg',GB⟩:=Xn (ty:=ty) g1 ZE (ks:=k++m) (ns:=m) Gw hlk (v:=a.eval s) (fp:=fp) (fx:=cu.flatten)
   (by
    intro b hb
    rcases aK.1 hb with hb|hb
    ·obtain⟨i,oi,hi,h1⟩:=wL b hb;exact⟨i,oi,aM _ hi,h1⟩
    ·obtain⟨i,oi,hi,h1⟩:=q6 b hb;exact⟨i,oi,aH _ hi,h1⟩)
   Ec k1 k2 (fun b hb=>by
    rcases k4 b hb with h|h|h
    ·exact bG h
    ·exact bg (bG (Q4▸h))
    ·exact bg (bg (by omega)))
   (fun n hn=>aH _ hn)
   (fun n o b hn hl hb=>by
    have Pr:=q7 n b hn hb
    refine⟨k6 b (by rw[Q4];exact Pr),k2.block b (hq5.lt b Pr) fun e=> ?_⟩
    obtain⟨i,oi,hi,h1,h2⟩:=wL b (Ec b e.symm)
    have hij:i≠n:=by
     rintro rfl
     simp only[Bn,bq,bp,bK]at hno
     exact hno i hi i hn (by simp)
    exact g.lR i n _ _ hij h1 hl b h2 hb)
  have ag8:Kept zb w1 w':=by
   refine⟨k2.os,k2.tape,k2.output,k2.size,fun b hb hn=>k2.block b (by omega) fun e=> ?_,k5⟩
   obtain⟨i,oi,hi,h1,h2⟩:=wL b (Ec b e.symm)
   rcases g.dom i oi h1 b h2 with h|h
   ·exact hn h
   ·omega
  rw[←ajv]
  refine⟨?_,?_,(iv.kept.trans (oB r2 hB)).trans ag8,iv.ID,env',?_⟩
  ·rw[l6,l6,Bj,Bj];exact iv.size
  ·rw[put_defers,put_defers];exact iv.defers
  ·have gp:=tZ hg' (dst:=some d) (fun _ e=>by cases e;exact zi) (v:= .one (.a .any)) (u:= .slice (some ⟨w.heap.size,0,none⟩) len len) trivial (fun d _=>sU ⟨_,rfl⟩)
   rw[hd2]
   refine tZ gp (fun _ e=>by cases e;rw[l6];exact ajw) ?_ (fun d _=>sU ⟨_,rfl⟩)
   rw[adO]
   exact⟨⟨t,_,look_eq⟩,GB.symm⟩
 exact hR2.mono fun a' w' vi=>hQ a' w' vi
end
def Ho:Nat→List Oper→Option (List Oper×Oper×Oper×List Oper)
 |0,o1::o2::r=>some ([],o1,o2,r)
 |n+1,o::r=>match Ho n r with
  |some (p,o1,o2,q)=>some (o::p,o1,o2,q)
  |none=>none
 |_,_=>none
theorem JF: ∀{n:Nat} {l p q:List Oper} {o1 o2:Oper},Ho n l=some (p,o1,o2,q)→l=p++o1::o2::q
 |0,[],_,_,_,_,h=>by cases h
 |0,[_],_,_,_,_,h=>by cases h
 |0,o1::o2::r,p,q,a,b,h=>by
  simp only[Ho,oI,pI]at h
  obtain⟨rfl,rfl,rfl,rfl⟩:=h;rfl
 |n+1,[],_,_,_,_,h=>by cases h
 |n+1,o::r,p,q,a,b,h=>by
  simp only[Ho]at h
  split at h
  ·rename_i p' o1 o2 q' h'
   simp only[oI,pI]at h
   obtain⟨rfl,rfl,rfl,rfl⟩:=h
   rw[JF h'];rfl
  ·cases h
def runK(P:Program)(ty:Tag→Nat)(Γ:Nat→TK)(gL:List (Nat×Nat))(cr:List (Nat×CR))(ops rest:List Oper)(tO:List Prop):Option (List Prop×St)→Option (List Prop×St)
 |some ([p,q],⟨n,sl,hp⟩)=>run P ty Γ gL cr ops rest ⟨n,sl,hp⟩ (p::q::tO)
 |some ([p,q,r],⟨n,sl,hp⟩)=>run P ty Γ gL cr ops rest ⟨n,sl,hp⟩ (p::q::r::tO)
 |some (l,⟨n,sl,hp⟩)=>run P ty Γ gL cr ops rest ⟨n,sl,hp⟩ (l++tO)
 |none=>none
def fR:Option (List Prop×St)→Option (List Prop×St)
 |some (l,st)=>match TI st with|some st=>some (l,st)|none=>none
 |none=>none
theorem ag9{x:Option (List Prop×St)}{y:List Prop×St}(h:fR x=some y):x=some y:=by
 unfold fR at h
 split at h
 ·split at h
  ·rename_i l st OP hs
   simp only[oI]at h
   rw[←h,rJ hs]
  ·cases h
 ·cases h
theorem aa6{P:Program}{Γ:Nat→TK}{gL:List (Nat×Nat)}{cr:List (Nat×CR)}{ops rest:List Oper}{tO:List Prop}{x:Option (List Prop×St)}{y:List Prop×St}(h:runK P ty Γ gL cr ops rest tO x=some y):
  ∃l st acc,x=some (l,st)∧run P ty Γ gL cr ops rest st acc=some y∧ ∀q,q∈l++tO→q∈acc:=by
 unfold runK at h
 split at h
 ·exact⟨_,_,_,rfl,h,fun q hq=>by simpa using hq⟩
 ·exact⟨_,_,_,rfl,h,fun q hq=>by simpa using hq⟩
 ·exact⟨_,_,_,rfl,h,fun q hq=>by simpa using hq⟩
 ·cases h
def aha(P:Program)(ty:Tag→Nat)(Γ:Nat→TK)(gL:List (Nat×Nat))(cr:List (Nat×CR))(ks:List Nat)(ix m0:Nat)(ops:List Oper):St→Option (List Prop×St)
 | ⟨n,sl0,kE⟩=>match Ho ix ops with
   |some (pre,o1,o2,rest)=>match run P ty Γ gL cr ops pre ⟨n,sl0,kE⟩ []with
    |some (tO,GS)=>match runK P ty Γ gL cr ops rest tO (fR (aeD P ty Γ GS m0 o1 o2))with
     |some (vc,st')=>match RJ n st' ks,bf st'.n n with
      |some OP,true=>some (vc,OP)
      |_,_=>none
     |none=>none
    |none=>none
   |none=>none
section
variable{P:Program}{Γ:Nat→TK}{zb:eJ}{Q:Post}{st:St}
theorem RS(X:Ctx P ty Γ)(gL:List (Nat×Nat))(cr:List (Nat×CR))(ks:List Nat)(ix m0:Nat){id:Nat}{ops:List Oper}{vc:List Prop}{st':St}(h:aha P ty Γ gL cr ks ix m0 ops st=some (vc,st'))(hv:qI vc)(k:Q .normal st'):
  W P ty zb (.region id ops.toArray false) Q st:=by
 intro a w iv
 obtain⟨n,sl0,kE⟩:=st
 unfold G.aha at h
 dsimp only at h
 split at h
 case h_2=>cases h
 rename_i pre o1 o2 rest hsp
 split at h
 case h_2=>cases h
 rename_i tO GS hrun
 split at h
 case h_2=>cases h
 rename_i vc2 OP hk
 split at h
 case h_2=>cases h
 rename_i st3 hkeep hn
 simp only[oI,pI]at h
 obtain⟨rfl,rfl⟩:=h
 obtain⟨l,st4,acc,he,Xo,hacc⟩:=aa6 hk
 have he:=ag9 he
 have hv:=hv.out
 refine wp_region_lit ?_
 rw[show wpList P ops.toArray (IJ ty zb Q) ops a w=wpList P ops.toArray (IJ ty zb Q) (pre++o1::o2::rest) a w by rw[←JF hsp]]
 refine Lb X.kind X.one (fun a w iv=> ?_) hrun (fun q hq=>hv q (Bz Xo q (hacc q (aH _ hq)))) iv
 refine aa5 X.kind he (fun q hq=>hv q (Bz Xo q (hacc q (aM _ hq)))) iv fun a w iv=> ?_
 refine PK X.kind X.one (fun a w iv=>⟨_,?_,k⟩) Xo hv iv
 unfold RJ at hkeep
 split at hkeep
 ·rename_i sl hp h1 h2
  split at hkeep
  ·rename_i hc
   simp only[oI]at hkeep
   subst hkeep
   exact iv.weaken (av hn).symm (rK h1) (rL h2) hc
  ·cases hkeep
 ·cases hkeep
end
def rename(st:St)(s m:Nat):Option St:=match look st.sl s,mo s st.n with
 |some (.one (.a (.own n))),true=>match look st.hp n,pinned [n],ng m,look (dQ [n] [] st.hp) m with
  |some (.arr t l),false,false,none=>TI ((st.gone [n] m t l).put (some s) (.one (.a (.own m))))
  |_,_,_,_=>none
 |_,_=>none
theorem Ud{zb:eJ}{st st':St}{s m:Nat}(h:rename st s m=some st'){a:Act}{w:World}(iv:Inv ty zb st a w):Inv ty zb st' a w:=by
 obtain⟨env,g⟩:=iv.good
 have hB:=iv.kept.size
 unfold rename at h
 split at h
 case h_2=>cases h
 rename_i n hs hlt
 split at h
 case h_2=>cases h
 rename_i t l hl hpk Gw hlk
 have h:=rJ h
 rw[St.gone_eq]at h
 have hsf:soft n=false:=rF hpk (by simp)
 have hb:=RO.Zr hsf (g.obj n _ hl)
 have Ec: ∀b,(env n).v.ownBlock=some b→b∈(env n).fp:=by
  intro b hb'
  obtain⟨xs,cu,_,_,_,iV,_⟩:=hb
  rw[iV,hb'];simp
 obtain⟨env',hg',GB⟩:=Bm (ty:=ty) g hB (ks:= [n]) hpk Gw hlk (v:=(env n).v) (v':=(env n).v) (w':=w) (fp:=(env n).fp) (fx:= []) (by
  intro b hb
  rw[cW]at hb
  exact⟨n,_,by simp,hl,hb⟩) Ec hb ⟨rfl,rfl,rfl,bh _,fun _ _ _=>rfl⟩ (fun b hb=>bG hb)
 have hlt:s<a.tmps.size:=by rw[iv.size];exact bT hlt
 obtain⟨_,hu⟩:=g.slot s _ hs
 have gp:=hg'.put hlt (v:= .one (.a (.own m))) (u:=a.tmps.getD s undef) ⟨⟨t,l,look_eq⟩,by rw[GB];exact hu⟩ rfl
 have e:a.tmps.setIfInBounds s (a.tmps.getD s undef)=a.tmps:=by
  rw[aa,lX hlt]
  apply Xp
  ·simp
  ·intro i h1 h2
   rw[rV]
   split
   ·rename_i hi;subst hi;rfl
   ·rfl
 rw[e]at gp
 rw[h]
 exact⟨by rw[Bj];exact iv.size,iv.defers,iv.kept,iv.ID,env',gp⟩
theorem qR{P:Program}{zb:eJ}{Q:Post}{st st':St}{c:Code}(s m:Nat)(h:G.rename st s m=some st')(k:W P ty zb c Q st'):W P ty zb c Q st:=fun a w iv=>k a w (Ud h iv)
def P5(st:St)(b i m:Nat)(t:Tag):Option St:=match look st.hp b,ng m,look st.hp m with
 |some (.box c),false,none=>match A7 c i with
  |some (.lit (.slice none 0 0))=>TI ⟨st.n,st.sl,(b, .box (c.set i (.own m)))::(m, .arr t [])::st.hp⟩
  |_=>none
 |_,_,_=>none
theorem cO.set'{R R':V→Value→Prop}{y:V}(hm: ∀a u,R a u→R' a u): ∀{c:List V} {cs:List Value} {i:Nat} {v:V},cO R c cs→A7 c i=some v→(∀u,R v u→R' y u)→cO R' (c.set i y) cs
 | [],_,_,_,_,h,_=>by cases h
 |a::r,[],_,_,h,_,_=>h.elim
 |a::r,u::us,0,v,⟨h1,h2⟩,h,hy=>by
  simp only[A7,oI]at h
  subst h
  exact⟨hy u h1,h2.mono fun a b _ h=>hm a b h⟩
 |a::r,u::us,i+1,v,⟨h1,h2⟩,h,hy=>⟨hm a u h1,cO.set' hm h2 (by simpa[A7]using h) hy⟩
theorem Ue{zb:eJ}{st st':St}{b i m:Nat}{t:Tag}(h:P5 st b i m t=some st'){a:Act}{w:World}(iv:Inv ty zb st a w):Inv ty zb st' a w:=by
 obtain⟨env,g⟩:=iv.good
 have hB:=iv.kept.size
 unfold P5 at h
 split at h
 case h_2=>cases h
 rename_i c hl Gw hlk
 split at h
 case h_2=>cases h
 rename_i he
 have h:=rJ h
 have hne:b≠m:=by rintro rfl;rw[hl]at hlk;cases hlk
 have hN:oC (ty:=ty) w w st.hp [(m, .arr t [])] env (fun n=>if n=m then⟨Kr,[]⟩else env n):=by
  refine⟨Below.refl _ _,fun n hn=> ?_,fun n o hn=> ?_,fun n n' o o' hne h1 h2=> ?_⟩
  ·by_cases hnm:n=m
   ·subst hnm;rw[look_eq]at hn;cases hn
   ·simp[hnm]
  ·by_cases hnm:n=m
   ·subst hnm
    rw[look_eq]at hn
    simp only[oI]at hn
    subst hn
    simp only[if_true]
    exact⟨RO.Jg (lP.nil _ _ _ _ _),by simp⟩
   ·rw[bX hnm]at hn;cases hn
  ·intro x hx
   by_cases hnm:n=m
   ·subst hnm;simp at hx
   ·rw[bX hnm]at h1;cases h1
 have g1:=Good.grow hB g (os:= [(m, .arr t [])]) (by simp[fresh,hlk,Gw]) hN
 have hl1:look ([(m,Obj.arr t [])]++st.hp) b=some (.box c):=by
  show look ((m,Obj.arr t [])::st.hp) b=_
  rw[bX hne];exact hl
 obtain⟨b',cs,e,Eb,hh,hc⟩:=g1.obj b _ hl1
 have g2:=Gy (off:=0) (us:= []) (c':=c.set i (.own m)) g1 hl1 Eb hh (aA _) (by
  simp only[lZ,eS,eE,gf,eV]
  refine cO.set' (fun _ _ h=>h) hc he fun u hu=> ?_
  obtain⟨rfl,_⟩:=hu
  refine⟨⟨t,[],look_eq⟩,?_⟩
  simp only[if_true])
 rw[h]
 exact⟨iv.size,iv.defers,iv.kept,iv.ID,_,g2⟩
theorem lE{P:Program}{zb:eJ}{Q:Post}{st st':St}{c:Code}(b i m:Nat)(t:Tag)(h:G.P5 st b i m t=some st')(k:W P ty zb c Q st'):W P ty zb c Q st:=fun a w iv=>k a w (Ue h iv)
def Le(st:St)(b i m:Nat):Option St:=match look st.hp b with
 |some (.box c)=>match A7 c i with
  |some (.own n)=>match look st.hp n,pinned [n],ng m,look (dQ [n] [] st.hp) m with
   |some (.arr t l),false,false,none=>match st.gone [n] m t l with
    | ⟨nn,sl,hp⟩=>TI ⟨nn,sl,(b, .box ((c.map fun v=>v.cM [n] []).set i (.own m)))::hp⟩
   |_,_,_,_=>none
  |_=>none
 |_=>none
theorem cO.ahb{R R':V→Value→Prop}{f:V→V}{y:V}(hm: ∀a u,R a u→R' (f a) u): ∀{c:List V} {cs:List Value} {i:Nat} {v:V},cO R c cs→A7 c i=some v→(∀u,R v u→R' y u)→cO R' ((c.map f).set i y) cs
 | [],_,_,_,_,h,_=>by cases h
 |a::r,[],_,_,h,_,_=>h.elim
 |a::r,u::us,0,v,⟨h1,h2⟩,h,hy=>by
  simp only[A7,oI]at h
  subst h
  exact⟨hy u h1,h2.map hm⟩
 |a::r,u::us,i+1,v,⟨h1,h2⟩,h,hy=>⟨hm a u h1,cO.ahb hm h2 (by simpa[A7]using h) hy⟩
theorem P6{zb:eJ}{st st':St}{b i m:Nat}(h:Le st b i m=some st'){a:Act}{w:World}(iv:Inv ty zb st a w):Inv ty zb st' a w:=by
 obtain⟨env,g⟩:=iv.good
 have hB:=iv.kept.size
 unfold Le at h
 split at h
 case h_2=>cases h
 rename_i c L5
 split at h
 case h_2=>cases h
 rename_i n he
 split at h
 case h_2=>cases h
 rename_i t l hl hpk Gw hlk
 rw[St.gone_eq]at h
 have h:=rJ h
 have hsf:soft n=false:=rF hpk (by simp)
 have hb:=RO.Zr hsf (g.obj n _ hl)
 have Ec: ∀b,(env n).v.ownBlock=some b→b∈(env n).fp:=by
  intro b hb'
  obtain⟨xs,cu,_,_,_,iV,_⟩:=hb
  rw[iV,hb'];simp
 obtain⟨env',hg',GB,hold,ajy⟩:=CQ (ty:=ty) g hB (ks:= [n]) hpk Gw hlk (v:=(env n).v) (v':=(env n).v) (w':=w) (fp:=(env n).fp) (fx:= []) (by
  intro b hb
  rw[cW]at hb
  exact⟨n,_,by simp,hl,hb⟩) Ec hb ⟨rfl,rfl,rfl,bh _,fun _ _ _=>rfl⟩ (fun b hb=>bG hb)
 have hbn:b≠n:=by rintro rfl;rw[L5]at hl;cases hl
 have hbk:look (dQ [n] [] st.hp) b=some (.box (c.map fun v=>v.cM [n] [])):=by
  rw[c8,if_neg (by simpa using hbn),L5];rfl
 have IE:b≠m:=by rintro rfl;rw[hbk]at hlk;cases hlk
 have dS:look ((m,Obj.arr t l)::dQ [n] [] st.hp) b=some (.box (c.map fun v=>v.cM [n] [])):=by rw[bX IE];exact hbk
 obtain⟨b',cs,e,Eb,hh,hc⟩:=hg'.obj b _ dS
 obtain⟨b0,cs0,e0,ajz,hh0,hc0⟩:=g.obj b _ L5
 have hbb:b'=b0:=by
  rw[hold b IE,ajz]at Eb
  simpa using Eb.symm
 subst hbb
 have hcs:cs=cs0:=by
  rw[hh0]at hh
  simp at hh
  exact hh.1.symm
 subst hcs
 have s:uc [n] [] w st.hp env w ((m,Obj.arr t l)::dQ [n] [] st.hp) env':=by
  have hnm: ∀x o,x≠n→look st.hp x=some o→x≠m:=by
   rintro x o hx h1 rfl
   rw[c8,if_neg (by simpa using hx),h1]at hlk;cases hlk
  refine⟨fun _ _ _=>rfl,?_,?_,?_⟩
  ·rintro x hx ⟨y,o',h1,h2⟩
   by_cases hy:y=m
   ·subst hy
    exact⟨n,_,hl,by rw[←ajy];exact h2⟩
   ·rw[hold y hy]at h2
    rw[bX hy,c8]at h1
    split at h1
    ·cases h1
    ·cases hq:look st.hp y with
     |none=>rw[hq]at h1;cases h1
     |some o=>exact⟨y,o,hq,h2⟩
  ·intro x o hx h1
   have hx:x≠n:=by simpa using hx
   have hxm:=hnm x o hx h1
   exact⟨o.cM [n] [],by rw[bX hxm,c8,if_neg (by simpa using hx),h1];rfl,by cases o<;>simp[Obj.like,Obj.cM],by rw[hold x hxm]⟩
  ·rintro x t' l' ⟨hx,_⟩ h1
   have hx:x≠n:=by simpa using hx
   have hxm:=hnm x _ hx h1
   exact⟨by rw[bX hxm,c8,if_neg (by simpa using hx),h1];rfl,by rw[hold x hxm],fun _ _=>rfl⟩
 have g2:=Gy (off:=0) (us:= []) (c':=(c.map fun v=>v.cM [n] []).set i (.own m)) hg' dS Eb hh (aA _) (by
  simp only[lZ,eS,eE,gf,eV]
  refine cO.ahb (fun v u h=>RA.kj s h) hc0 he fun u hu=> ?_
  obtain⟨_,hu⟩:=hu
  exact⟨⟨t,l,look_eq⟩,by rw[hu,GB]⟩)
 rw[h]
 exact⟨iv.size,iv.defers,iv.kept,iv.ID,_,g2⟩
theorem oS{P:Program}{zb:eJ}{Q:Post}{st st':St}{c:Code}(b i m:Nat)(h:G.Le st b i m=some st')(k:W P ty zb c Q st'):W P ty zb c Q st:=fun a w iv=>k a w (P6 h iv)
end
section
variable{ty:Tag→Nat}
inductive jS where
 |last(q:Nat)
 |ph(q:Nat)(c:jS)
 |br(d t:Nat)(sub next:jS)
 |nil
def jS.RU:jS→List (Nat×Nat×jS)
 | .br d t sub next=>(d,t,sub)::next.RU
 |_=> []
def jS.Xs:jS→Bool
 | .last _=>true
 | .ph _ _=>true
 |_=>false
def Nx(Γ:Nat→TK)(E:Tag→Nat→Prop)(S:FuncId→List S1→List S1→Prop)(gL:List (Nat×Nat))(cr:List (Nat×CR))(ops:List Oper)(q:Nat):Nat→List Oper→St→Option (List TE×List (Nat×List Prop))
 |_,[],_=>some ([],[])
 |i,o::r,⟨n,sl,hp⟩=>match q.testBit i with
  |false=>match Nx Γ E S gL cr ops q (i+1) r ⟨n,sl,hp⟩with
   |some (tr,vq)=>some (⟨0, .zH [],[]⟩::tr,vq)
   |none=>none
  |true=>match o.dst with
   |some d=>match sl.any (fun e=>e.2.mentions d),tU Γ E S gL cr ops ⟨n,sl,hp⟩ o with
    |false,some (vc,v,os)=>match fS v,fHp os with
     |some v,some os=>match Nx Γ E S gL cr ops q (i+1) r ⟨n,(d,v)::sl,qE os hp⟩with
      |some (tr,vq)=>some (⟨d,v,os⟩::tr,(i,vc)::vq)
      |none=>none
     |_,_=>none
    |_,_=>none
   |none=>none
def Ny(d:Nat):Nat→List TE→St→St
 |_,[],s=>s
 |i,e::r,s=>match d.testBit i with
  |true=>Ny d (i+1) r (app s e)
  |false=>Ny d (i+1) r s
def P7(i:Nat)(vc:List Prop):List (Nat×List Prop)→List (Nat×List Prop)
 | []=> [(i,vc)]
 | (j,v)::r=>match mo j i with
   |true=>(i,vc)::(j,v)::r
   |false=>(j,v)::P7 i vc r
def Nz(d:Nat):List (Nat×List Prop)→List (Nat×List Prop)→List (Nat×List Prop)
 | [],acc=>acc
 | (i,vc)::r,acc=>match d.testBit i with
   |true=>Nz d r (P7 i vc acc)
   |false=>Nz d r acc
def Ew:List (Nat×List Prop)→Option (List Prop)
 | []=>some []
 | (_,[])::r=>Ew r
 | (_,[p])::r=>match Ew r with|some l=>some (p::l)|none=>none
 | (_,[p,q])::r=>match Ew r with|some l=>some (p::q::l)|none=>none
 | (_,l)::r=>match Ew r with|some l'=>some (l++l')|none=>none
theorem xL{i:Nat}{vc:List Prop}: ∀{l:List (Nat×List Prop)} {x:Nat×List Prop},x∈P7 i vc l↔x=(i,vc)∨x∈l
 | [],x=>by simp[P7]
 | (j,v)::r,x=>by
   simp only[P7]
   split
   ·simp
   ·rw[aW,aW,xL]
    constructor
    ·rintro(h|h|h)
     ·exact bg (bG h)
     ·exact bG h
     ·exact bg (bg h)
    ·rintro(h|h|h)
     ·exact bg (bG h)
     ·exact bG h
     ·exact bg (bg h)
theorem uu{d:Nat}: ∀{vq acc:List (Nat×List Prop)} {x:Nat×List Prop},x∈Nz d vq acc↔(x∈vq∧d.testBit x.1=true)∨x∈acc
 | [],acc,x=>by simp[Nz]
 | (i,vc)::r,acc,x=>by
   simp only[Nz]
   split
   ·rename_i hb
    rw[uu,xL]
    constructor
    ·rintro(⟨h1,h2⟩|rfl|h)
     ·exact bG ⟨aJ _ h1,h2⟩
     ·exact bG ⟨by simp,hb⟩
     ·exact bg h
    ·rintro(⟨h1,h2⟩|h)
     ·rcases aW.1 h1 with rfl|h1
      ·exact bg (bG rfl)
      ·exact bG ⟨h1,h2⟩
     ·exact bg (bg h)
   ·rename_i hb
    rw[uu]
    constructor
    ·rintro(⟨h1,h2⟩|h)
     ·exact bG ⟨aJ _ h1,h2⟩
     ·exact bg h
    ·rintro(⟨h1,h2⟩|h)
     ·rcases aW.1 h1 with rfl|h1
      ·simp only at h2;rw[h2]at hb;cases hb
      ·exact bG ⟨h1,h2⟩
     ·exact bg h
theorem Dj: ∀{l:List (Nat×List Prop)} {m:List Prop},Ew l=some m→ ∀x,x∈l→ ∀q,q∈x.2→q∈m
 | [],_,_,x,hx=>by cases hx
 | (i,v)::r,m,h,x,hx=>by
   have key: ∃l',Ew r=some l'∧m=v++l':=by
    unfold Ew at h
    split at h
    ·rename_i he;cases he
    ·rename_i he;simp only[cx,pI]at he;obtain⟨⟨rfl,rfl⟩,rfl⟩:=he;exact⟨m,h,rfl⟩
    ·rename_i he
     simp only[cx,pI]at he;obtain⟨⟨rfl,rfl⟩,rfl⟩:=he
     split at h
     ·rename_i l' h1;simp only[oI]at h;exact⟨l',h1,h.symm⟩
     ·cases h
    ·rename_i he
     simp only[cx,pI]at he;obtain⟨⟨rfl,rfl⟩,rfl⟩:=he
     split at h
     ·rename_i l' h1;simp only[oI]at h;exact⟨l',h1,h.symm⟩
     ·cases h
    ·rename_i he
     simp only[cx,pI]at he;obtain⟨⟨rfl,rfl⟩,rfl⟩:=he
     split at h
     ·rename_i l' h1;simp only[oI]at h;exact⟨l',h1,h.symm⟩
     ·cases h
   obtain⟨l',h1,rfl⟩:=key
   intro q hq
   rcases aW.1 hx with rfl|hx
   ·exact aM _ hq
   ·exact aH _ (Dj h1 x hx q hq)
def mY(P:Program)(ty:Tag→Nat)(Γ:Nat→TK)(gL:List (Nat×Nat))(cr:List (Nat×CR))(ks hs:List Nat)(ops:List Oper)(n0:Nat):jS→St→List TE→List (Nat×List Prop)→List (Nat×List Prop)→Option (List (List Prop×St))
 | .last q,s,_,_,acc=>match Nx Γ (OL P ty) (Sound ty P) gL cr ops q 0 ops s with
   |some (tr,vq)=>match TI (Ny q 0 tr s)with
    |some ⟨n,sl1,iT⟩=>match GU sl1 ks,GV iT (WK sl1 iT ks hs),Ew (Nz q vq acc)with
     |some sl,some hp,some vc=>match yN sl hp,bf n n0 with
      |true,true=>some [(vc,⟨n0,sl,hp⟩)]
      |_,_=>none
     |_,_,_=>none
    |none=>none
   |none=>none
 | .ph q c,s,_,_,acc=>match Nx Γ (OL P ty) (Sound ty P) gL cr ops q 0 ops s with
   |some (tr,vq)=>mY P ty Γ gL cr ks hs ops n0 c s tr vq acc
   |none=>none
 | .br d t sub next,s,tr,vq,acc=>match TI (Ny d 0 tr s),ops[t]? with
   |some s1,some o=>match step P ty Γ gL cr ops s1 o with
    |some (vc,s2)=>match TI s2 with
     |some s2=>match mY P ty Γ gL cr ks hs ops n0 sub s2 [] [] (P7 t vc (Nz d vq acc)),mY P ty Γ gL cr ks hs ops n0 next s tr vq acc with
      |some l1,some l2=>some (qE l1 l2)
      |_,_=>none
     |none=>none
    |none=>none
   |_,_=>none
 | .nil,_,_,_,_=>some []
def Ht(ops:List Oper)(B q NA:Nat):Nat→Nat→Nat→List Nat
 |0,_,d=> [d]
 |m+1,i,d=>match q.testBit i with
  |false=>Ht ops B q NA m (i+1) d
  |true=>(match((ops[i]?).map fun o=>(eo o).all fun j=>B.testBit j||d.testBit j).getD false with
   |true=>Ht ops B q NA m (i+1) (d|||2^i)
   |false=> [])++(match NA.testBit i with
   |true=> []
   |false=>Ht ops B q NA m (i+1) d)
def aa8(ops:List Oper)(cl:List Nat)(A:List (Nat×Oper))(qs B q:Nat):Bool:=
 A.all fun e=>(!(q.testBit e.1)|| !(B.testBit e.1))&&
   (B.testBit e.1||q.testBit e.1|| !(qs.testBit e.1)|| !((eo e.2).all fun j=>B.testBit j||q.testBit j))&&
   (!(q.testBit e.1)||
     ((tmpsOf e.2).all fun t=>A.all fun f=> !(q.testBit f.1)|| !(Rn f.2 t)||bf f.1 e.1|| (cl.getD e.1 0).testBit f.1|| (mo e.1 f.1&&(cl.getD f.1 0).testBit e.1))&&
     (match e.2.guard with
      |none=>true
      |some (j,_)=>(eo e.2).any (bf j))&&
     (match e.2.dst with
      |some d=>A.all fun f=>bf f.1 e.1|| !(Rn f.2 d)
      |none=>false)&&(eo e.2).all fun j=>B.testBit j||q.testBit j)
def Lf(ops:List Oper)(cl:List Nat)(n B q:Nat)(c:jS):Bool:=
 (bA n).all fun t=>B.testBit t||q.testBit t||
  (Ht ops B q (cl.getD t 0) n 0 0).all fun d=> !(((ops[t]?).map fun o=>(eo o).all fun j=>B.testBit j||d.testBit j).getD false)||c.RU.any fun b=>bf b.1 d&&bf b.2.1 t
def U8(ops:List Oper)(cl:List Nat)(A:List (Nat×Oper))(qs n:Nat):Nat→jS→Bool
 |B, .last q=>aa8 ops cl A qs B q&&(bA n).all fun i=>B.testBit i||q.testBit i
 |B, .ph q c=>aa8 ops cl A qs B q&&Lf ops cl n B q c&& !((bA n).all fun i=>B.testBit i||q.testBit i)&&U8 ops cl A qs n B c
 |B, .br d t sub next=>sub.Xs&&mo t n&&U8 ops cl A qs n (B|||d|||2^t) sub&&U8 ops cl A qs n B next
 |_, .nil=>true
def aa9(ops:List Oper)(qs:Nat)(p:jS):Bool:=
 ((idx 0 ops).all fun e=>(eo e.2).all fun j=>mo j e.1)&&p.Xs&&U8 ops (KW ops) (idx 0 ops) qs ops.length 0 p
section
variable{zj D:Nat→Bool}{tr:List TE}{s:St}
theorem qK(zj:Nat→Bool)(e:TE)(tr:List TE)(s:St)(h:zj 0=false): ∀i,iI zj (e::tr) s (i+1)=iI (fun j=>zj (j+1)) tr s i
 |0=>by simp[iI,h]
 |i+1=>by
  rw[iI,qK zj e tr s h i,iI]
  simp only[jO]
theorem BP(d:Nat): ∀(tr:List TE) (k:Nat) (s:St),Ny d k tr s=iI (fun i=>d.testBit (k+i)) tr s tr.length
 | [],_,_=>rfl
 |e::r,k,s=>by
  have hf:(fun j=>d.testBit (k+(j+1)))=fun i=>d.testBit (k+1+i):=by funext j;congr 1;omega
  simp only[Ny]
  split
  ·rename_i h
   rw[BP d r (k+1) (app s e),bY,GY _ e r s (by simpa using h),hf]
  ·rename_i h
   rw[BP d r (k+1) s,bY,qK _ e r s (by simpa using h),hf]
theorem Dk{D':Nat→Bool}: ∀{n:Nat},(∀i,i<n→D i=D' i)→iI D tr s n=iI D' tr s n
 |0,_=>rfl
 |n+1,h=>by rw[iI,iI,Dk (n:=n) fun i hi=>h i (by omega),h n (by omega)]
theorem Hu: ∀{n:Nat},iI (fun _=>false) tr s n=s
 |0=>rfl
 |n+1=>by rw[K0 rfl,Hu]
theorem s6: ∀{i:Nat} {x:Nat×SV},x∈s.sl→x∈(iI D tr s i).sl
 |0,_,h=>h
 |i+1,x,h=>by
  rw[iI]
  split
  ·exact aJ _ (s6 h)
  ·exact s6 h
def Hv(Qb:Nat→Bool)(tr:List TE)(s:St)(m:Nat):Prop:= ∀i e,i<m→Qb i=true→tr[i]? =some e→ ∀n o,look e.os n=some o→look (iI Qb tr s i).hp n=none
variable{Qb:Nat→Bool}
theorem Dl{m:Nat}(hf:Hv Qb tr s m): ∀{j i:Nat},i≤j→j≤m→ ∀{n o},look (iI Qb tr s i).hp n=some o→look (iI Qb tr s j).hp n=some o
 |0,i,hi,_,n,o,h=>by
  have:i=0:=by omega
  subst this;exact h
 |j+1,i,hi,hm,n,o,h=>by
  by_cases hij:i=j+1
  ·subst hij;exact h
  ·have ih:=Dl hf (j:=j) (i:=i) (by omega) (by omega) h
   rw[iI]
   split
   ·rename_i e' h1 h2
    show look (e'.os++(iI Qb tr s j).hp) n=_
    cases hq:look e'.os n with
    |none=>rw[cQ hq];exact ih
    |some o'=>
     have:=hf j e' (by omega) h1 h2 n o' hq
     rw[this]at ih;cases ih
   ·exact ih
theorem xM{m:Nat}(hf:Hv Qb tr s m)(hD: ∀i,D i=true→Qb i=true): ∀{i:Nat},i≤m→ ∀{n o},look (iI D tr s i).hp n=some o→look (iI Qb tr s i).hp n=some o
 |0,_,n,o,h=>h
 |i+1,hm,n,o,h=>by
  rw[iI]at h
  split at h
  ·rename_i e' h1 h2
   have h:look (e'.os++(iI D tr s i).hp) n=some o:=h
   rw[xm (hD i h1) h2]
   show look (e'.os++(iI Qb tr s i).hp) n=some o
   cases hq:look e'.os n with
   |none=>rw[cQ hq]at h ⊢;exact xM hf hD (by omega) h
   |some o'=>rw[eL hq]at h ⊢;exact h
  ·exact Dl hf (Nat.le_succ i) hm (xM hf hD (by omega) h)
theorem yT{m:Nat}(hf:Hv Qb tr s m)(hD: ∀i,D i=true→Qb i=true): ∀{i:Nat},i≤m→ ∀{n o},look s.hp n=some o→look (iI D tr s i).hp n=some o
 |0,_,n,o,h=>h
 |i+1,hm,n,o,h=>by
  have ih:=yT hf hD (i:=i) (by omega) h
  rw[iI]
  split
  ·rename_i e' h1 h2
   show look (e'.os++(iI D tr s i).hp) n=some o
   cases hq:look e'.os n with
   |none=>rw[cQ hq];exact ih
   |some o'=>
    have h3:=hf i e' (by omega) (hD i h1) h2 n o' hq
    have h4:=xM hf hD (by omega) ih
    rw[h3]at h4;cases h4
  ·exact ih
theorem yU{m:Nat}(hf:Hv Qb tr s m)(hD: ∀i,D i=true→Qb i=true): ∀{i:Nat},i≤m→ ∀{j:Nat} {e:TE} {n:Nat} {o:Obj},j<i→D j=true→tr[j]? =some e→look e.os n=some o→look (iI D tr s i).hp n=some o
 |i+1,hm,j,e,n,o,hj,hin,he,h=>by
  by_cases hij:j=i
  ·subst hij
   rw[xm hin he]
   exact eL h
  ·have ih:=yU hf hD (i:=i) (by omega) (j:=j) (by omega) hin he h
   rw[iI]
   split
   ·rename_i e' h1 h2
    show look (e'.os++(iI D tr s i).hp) n=some o
    cases hq:look e'.os n with
    |none=>rw[cQ hq];exact ih
    |some o'=>
     have h3:=hf i e' (by omega) (hD i h1) h2 n o' hq
     have h4:=xM hf hD (by omega) ih
     rw[h3]at h4;cases h4
   ·exact ih
end
structure ZF(Γ:Nat→TK)(E:Tag→Nat→Prop)(S:FuncId→List S1→List S1→Prop)(gL:List (Nat×Nat))(cr:List (Nat×CR))(ops:List Oper)(q:Nat)(s:St)(tr:List TE)(vq:List (Nat×List Prop)):Prop where
 len:tr.length=ops.length
 one: ∀i,i<ops.length→q.testBit i=true→ ∃o e vc,ops[i]? =some o∧tr[i]? =some e∧o.dst=some e.d∧((iI (fun j=>q.testBit j) tr s i).sl.any fun x=>x.2.mentions e.d)=false∧tU Γ E S gL cr ops (iI (fun j=>q.testBit j) tr s i) o=some (vc,e.v,e.os)∧(i,vc)∈vq
theorem As{Γ:Nat→TK}{E:Tag→Nat→Prop}{S:FuncId→List S1→List S1→Prop}{gL:List (Nat×Nat)}{cr:List (Nat×CR)}{ops:List Oper}{q:Nat}: ∀{l:List Oper} {k:Nat} {st:St} {tr:List TE} {vq:List (Nat×List Prop)},Nx Γ E S gL cr ops q k l st=some (tr,vq)→(∀i o,l[i]? =some o→ops[k+i]? =some o)→
  tr.length=l.length∧ ∀i,i<l.length→q.testBit (k+i)=true→ ∃o e vc,ops[k+i]? =some o∧tr[i]? =some e∧o.dst=some e.d∧((iI (fun j=>q.testBit (k+j)) tr st i).sl.any fun x=>x.2.mentions e.d)=false∧tU Γ E S gL cr ops (iI (fun j=>q.testBit (k+j)) tr st i) o=some (vc,e.v,e.os)∧(k+i,vc)∈vq
 | [],k,st,tr,vq,h,_=>by
   simp only[Nx,oI,pI]at h
   exact⟨by rw[←h.1];rfl,fun i hi=>absurd hi (by simp)⟩
 |o::r,k,⟨n,sl,hp⟩,tr,vq,h,hk=>by
  have hk': ∀i o',r[i]? =some o'→ops[k+1+i]? =some o':=fun i o' ho=>by
   have:=hk (i+1) o' (by simpa using ho)
   rw[show k+1+i=k+(i+1)by omega];exact this
  have hf:(fun j=>q.testBit (k+(j+1)))=fun i=>q.testBit (k+1+i):=by funext j;congr 1;omega
  simp only[Nx]at h
  split at h
  ·rename_i hb
   split at h
   case h_2=>cases h
   rename_i tr' vq' h2
   simp only[oI,pI]at h
   obtain⟨rfl,rfl⟩:=h
   obtain⟨q1,q2⟩:=As h2 hk'
   refine⟨by simp[q1],fun i hi hq=> ?_⟩
   cases i with
   |zero=>rw[kH,hb]at hq;cases hq
   |succ i=>
    obtain⟨o',e',vc',p1,p2,p3,p4,p5,p6⟩:=q2 i (by simpa using hi) (by rw[show k+1+i=k+(i+1)by omega];exact hq)
    refine⟨o',e',vc',by rw[show k+(i+1)=k+1+i by omega];exact p1,by simpa using p2,p3,?_,?_,by rw[show k+(i+1)=k+1+i by omega];exact p6⟩
    ·rw[qK _ _ tr' _ (by simpa using hb) i,hf];exact p4
    ·rw[qK _ _ tr' _ (by simpa using hb) i,hf];exact p5
  ·rename_i hb
   split at h
   case h_2=>cases h
   rename_i d hd
   split at h
   case h_2=>cases h
   rename_i vc v os hm hq0
   split at h
   case h_2=>cases h
   rename_i v2 os2 Tq aeF
   have Tq:=WD Tq
   have aeF:=KR aeF
   subst Tq;subst aeF
   split at h
   case h_2=>cases h
   rename_i tr' vq' h2
   simp only[oI,pI]at h
   obtain⟨rfl,rfl⟩:=h
   rw[gI]at h2
   obtain⟨q1,q2⟩:=As h2 hk'
   refine⟨by simp[q1],fun i hi hq=> ?_⟩
   cases i with
   |zero=>exact⟨o,⟨d,v2,os2⟩,vc,hk 0 o rfl,rfl,hd,hm,hq0,by simp⟩
   |succ i=>
    obtain⟨o',e',vc',p1,p2,p3,p4,p5,p6⟩:=q2 i (by simpa using hi) (by rw[show k+1+i=k+(i+1)by omega];exact hq)
    have hc:=GY (fun j=>q.testBit (k+j)) ⟨d,v2,os2⟩ tr' ⟨n,sl,hp⟩ (by simpa using hb) i
    refine⟨o',e',vc',by rw[show k+(i+1)=k+1+i by omega];exact p1,by simpa using p2,p3,?_,?_,by rw[show k+(i+1)=k+1+i by omega];exact aJ _ p6⟩
    ·rw[hc,hf];exact p4
    ·rw[hc,hf];exact p5
theorem ZF.of{Γ:Nat→TK}{E:Tag→Nat→Prop}{S:FuncId→List S1→List S1→Prop}{gL:List (Nat×Nat)}{cr:List (Nat×CR)}{ops:List Oper}{q:Nat}{s:St}{tr:List TE}{vq:List (Nat×List Prop)}(h:Nx Γ E S gL cr ops q 0 ops s=some (tr,vq)):ZF Γ E S gL cr ops q s tr vq:=by
 obtain⟨h1,h2⟩:=As h (fun i o ho=>by simpa using ho)
 refine⟨h1,fun i hi hq=> ?_⟩
 have:=h2 i hi (by simpa using hq)
 simpa using this
structure PhX(ops:List Oper)(qs B q:Nat):Prop where
 back: ∀i o,ops[i]? =some o→ ∀j,j∈eo o→j<i
 lR: ∀i,i<ops.length→q.testBit i=true→B.testBit i=false
 full: ∀i o,ops[i]? =some o→B.testBit i=false→qs.testBit i=true→(∀j,j∈eo o→B.testBit j=true∨q.testBit j=true)→q.testBit i=true
 uses: ∀i o,q.testBit i=true→ops[i]? =some o→ ∀t,t∈tmpsOf o→ ∀k o',q.testBit k=true→ops[k]? =some o'→o'.dst=some t→k=i∨((KW ops).getD i 0).testBit k=true∨(i<k∧((KW ops).getD k 0).testBit i=true)
 guard: ∀i o j x,q.testBit i=true→ops[i]? =some o→o.guard=some (j,x)→j∈eo o
 dist: ∀i o k o' d,q.testBit i=true→ops[i]? =some o→ops[k]? =some o'→o.dst=some d→o'.dst=some d→k=i
 clq: ∀i o,q.testBit i=true→ops[i]? =some o→ ∀j,j∈eo o→(B.testBit j=true∨q.testBit j=true)
theorem ahf{ops:List Oper}(h:((idx 0 ops).all fun e=>(eo e.2).all fun j=>mo j e.1)=true): ∀i o,ops[i]? =some o→ ∀j,j∈eo o→j<i:=by
 intro i o ho j hj
 simp only[bq]at h
 have:=h _ (by simpa using K2 (l:=ops) (k:=0) ho) j hj
 exact bT this
theorem Lg{ops:List Oper}{qs B q:Nat}(hb: ∀i o,ops[i]? =some o→ ∀j,j∈eo o→j<i)(h:aa8 ops (KW ops) (idx 0 ops) qs B q=true):PhX ops qs B q:=by
 simp only[aa8,bq,aj,dh,bp]at h
 have hA: ∀{i o},ops[i]? =some o→(i,o)∈idx 0 ops:=by
  intro i o ho
  simpa using K2 (l:=ops) (k:=0) ho
 have hdi: ∀{o:Oper} {t:Nat},o.dst=some t→Rn o t=true:=by intro o t hd;simp[Rn,hd]
 refine⟨hb,fun i hi hq=> ?_,fun i o ho hB hqs he=> ?_,fun i o hq ho t ht k o' P9 ho' hd=> ?_,fun i o j x hq ho hg=> ?_,fun i o k o' d hq ho ho' hd hd'=> ?_,fun i o hq ho j hj=> ?_⟩
 ·rcases(h _ (hA (au hi))).1.1 with h1|h1
  ·simp only at h1;rw[hq]at h1;cases h1
  ·exact h1
 ·rcases(h _ (hA ho)).1.2 with((h1|h1)|h1)|h1
  ·simp only at h1;rw[hB]at h1;cases h1
  ·exact h1
  ·simp only at h1;rw[hqs]at h1;cases h1
  ·exfalso
   have:((eo o).all fun j=>B.testBit j||q.testBit j)=true:=by
    rw[bq];intro j hj
    rcases he j hj with h|h
    ·rw[h];rfl
    ·rw[h];simp
   simp only at h1
   rw[this]at h1;cases h1
 ·rcases(h _ (hA ho)).2 with h1|h1
  ·simp only at h1;rw[hq]at h1;cases h1
  ·rcases h1.1.1.1 t ht _ (hA ho')with(((h2|h2)|h2)|h2)|h2
   ·simp only at h2;rw[P9]at h2;cases h2
   ·rw[hdi hd]at h2;cases h2
   ·exact bG (av h2)
   ·exact bg (bG h2)
   ·exact bg (bg ⟨bT h2.1,h2.2⟩)
 ·rcases(h _ (hA ho)).2 with h1|h1
  ·simp only at h1;rw[hq]at h1;cases h1
  ·have h2:=h1.1.1.2
   simp only[hg,dV]at h2
   obtain⟨y,hy,h3⟩:=h2
   rw[av h3];exact hy
 ·rcases(h _ (hA ho)).2 with h1|h1
  ·simp only at h1;rw[hq]at h1;cases h1
  ·have h2:=h1.1.2
   simp only[hd,bq,dh,bp]at h2
   rcases h2 _ (hA ho')with h3|h3
   ·exact av h3
   ·rw[hdi hd']at h3;cases h3
 ·rcases(h _ (hA ho)).2 with h1|h1
  ·simp only at h1;rw[hq]at h1;cases h1
  ·exact h1.2 j hj
end
section
variable{ty:Tag→Nat}
section
variable{P:Program}{Γ:Nat→TK}{gL:List (Nat×Nat)}{cr:List (Nat×CR)}{ops:List Oper}{s:St}{tr:List TE}{vq:List (Nat×List Prop)}{qs B q:Nat}
theorem ZF.fresh{E:Tag→Nat→Prop}{S:FuncId→List S1→List S1→Prop}(T:ZF Γ E S gL cr ops q s tr vq):Hv (fun j=>q.testBit j) tr s ops.length:=by
 intro i e hi hq he n x hl
 obtain⟨o,e',vc,_,he',_,_,hqc,_⟩:=T.one i hi hq
 rw[he]at he'
 simp only[oI]at he'
 subst he'
 obtain⟨p,_,_,_,hf⟩:=oG hqc
 exact(hf n x hl).1
theorem ZF.path{E:Tag→Nat→Prop}{S:FuncId→List S1→List S1→Prop}(T:ZF Γ E S gL cr ops q s tr vq)(K:PhX ops qs B q): ∀(i:Nat),i<ops.length→q.testBit i=true→ ∀o p,ops[i]? =some o→lQ (iI (fun j=>q.testBit j) tr s i) ops o=some p→ ∀e,e∈p→
  ∀k o',q.testBit k=true→ops[k]? =some o'→o'.dst=some e.1→ ∀D:Nat→Prop,(∀i o,D i→ops[i]? =some o→ ∀j,j∈eo o→D j)→(∀j,j∈eo o→D j)→D k:=by
 intro i
 induction i using kO with
 |_ i ih=>
  intro hi Fy o p ho hg e he k o' P9 hok hdk D hD hE
  have Ix:k<ops.length:=(aI.1 hok).1
  unfold lQ at hg
  split at hg
  ·simp at hg;subst hg;simp at he
  ·rename_i j x hgd
   have hje:=K.guard i o j x Fy ho hgd
   have hji:=K.back i o ho j hje
   split at hg
   case h_2=>cases hg
   rename_i qj hqj
   split at hg
   case h_2=>cases hg
   rename_i d hdj
   have base:e.1=d→D k:=by
    intro hed
    have:j=k:=K.dist k o' j qj d P9 hok hqj (by rw[hdk,hed]) hdj
    rw[←this];exact hE j hje
   split at hg
   ·simp only[oI]at hg
    subst hg
    simp only[aP]at he
    exact base (by rw[he])
   ·rename_i p' b By
    simp only[oI]at hg
    subst hg
    rcases aW.1 he with h|h
    ·exact base (by rw[h])
    ·by_cases RW:q.testBit j=true
     ·obtain⟨q2,ej,vcj,OO,hej,aeH,_,hqc,_⟩:=T.one j (by omega) RW
      rw[hqj]at OO
      simp only[oI]at OO
      subst OO
      rw[hdj]at aeH
      simp only[oI]at aeH
      subst aeH
      have aeI:look (iI (fun j=>q.testBit j) tr s i).sl ej.d=some ej.v:=by
       refine pQ hji RW hej fun j' e' h1 h2 h3 h4=> ?_
       obtain⟨q',e2,_,hq',IF,hd2,_⟩:=T.one j' (by omega) h2
       rw[h3]at IF
       simp only[oI]at IF
       subst IF
       exact K.dist j _ j' q' ej.d RW hqj hq' hdj (by rw[hd2,h4])
      rw[aeI]at By
      simp only[oI]at By
      obtain⟨pj,hgj,kE,iT,_⟩:=oG hqc
      have hpj:pj=p':=by
       by_cases hnil:pj= []
       ·exact absurd By (kE hnil _ _)
       ·obtain⟨x',hx'⟩:=(iT hnil).1
        rw[hx']at By
        simp only[SV.cond.injEq]at By
        exact By.1
      subst hpj
      exact ih j hji (by omega) RW _ pj hqj hgj e h k o' P9 hok hdk D hD (hD j _ (hE j hje) hqj)
     ·
      exfalso
      have aeI:look (iI (fun j=>q.testBit j) tr s i).sl d=look s.sl d:=by
       refine ue fun j' e' h1 h2 h3 h4=> ?_
       obtain⟨q',e2,_,hq',IF,hd2,_⟩:=T.one j' (by omega) h2
       rw[h3]at IF
       simp only[oI]at IF
       subst IF
       have:=K.dist j' q' j qj d h2 hq' hqj (by rw[hd2,h4]) hdj
       subst this
       exact RW h2
      rw[aeI]at By
      obtain⟨q2,ek,vck,OO,hek,aeJ,hnm,_,_⟩:=T.one k Ix P9
      rw[hok]at OO
      simp only[oI]at OO
      subst OO
      rw[hdk]at aeJ
      simp only[oI]at aeJ
      rw[bK]at hnm
      refine hnm (d, .cond p' (.a (.lit (.bool b)))) (s6 (gM By)) ?_
      simp only[SV.mentions,dV]
      exact⟨e,h,by rw[aeJ];simp⟩
   ·cases hg
theorem Qa(C: ∀t,fD P t (Γ t))(T:ZF Γ (OL P ty) (Sound ty P) gL cr ops q s tr vq)(K:PhX ops qs B q)(hv: ∀x,x∈vq→q.testBit x.1=true→x.1<ops.length→ ∀p,p∈x.2→p){zb:eJ}{Q:Exit→Act→World→Prop}{D:Nat→Bool}(wM: ∀i,D i=true→q.testBit i=true)(hDm: ∀i,D i=true→i<ops.length)
  (L8: ∀i o,(B.testBit i=true∨D i=true)→ops[i]? =some o→ ∀j,j∈eo o→(B.testBit j=true∨D j=true))
  {i:Nat}(Fy:q.testBit i=true)(NB:D i=false){o:Oper}(ho:ops[i]? =some o)(hE: ∀j,j∈eo o→(B.testBit j=true∨D j=true)){a:Act}{w:World}(iv:Inv ty zb (iI D tr s ops.length) a w):
  wo P ops.toArray o a w (fun a' w'=>Inv ty zb (iI (fun j=>D j||j==i) tr s ops.length) a' w') Q:=by
 have hi:i<ops.length:=(aI.1 ho).1
 obtain⟨o',e,vc,ho',he,hd,hnm,hq,hvc⟩:=T.one i hi Fy
 rw[ho]at ho'
 simp only[oI]at ho'
 subst ho'
 have hfr:=T.fresh
 have RX: ∀{k},q.testBit k=true→k<ops.length→(B.testBit k=true∨D k=true)→D k=true:=by
  intro k hk Ix h
  rcases h with h|h
  ·rw[K.lR k Ix hk]at h;cases h
  ·exact h
 have ajA: ∀{x},((KW ops).getD i 0).testBit x=true→(B.testBit x=true∨D x=true):=fun h=>G0 (D:=fun j=>B.testBit j=true∨D j=true) K.back L8 i o ho hE _ h
 have ahg: ∀{x},((KW ops).getD i 0).testBit x=true→x<i:=fun h=>G0 (D:=fun j=>j<i) K.back (fun a b hab hb j hj=>xN (K.back a b hb j hj) hab) i o ho (fun j hj=>K.back i o ho j hj) _ h
 have hdist: ∀{j e'},j<ops.length→q.testBit j=true→tr[j]? =some e'→ ∃q,ops[j]? =some q∧q.dst=some e'.d:=by
  intro j e' hj hqj he'
  obtain⟨q,e2,_,hq',IF,hd2,_⟩:=T.one j hj hqj
  rw[he']at IF
  simp only[oI]at IF
  subst IF
  exact⟨q,hq',hd2⟩
 have NC: ∀{j j':Nat} {e1 e2:TE},j<ops.length→j'<ops.length→q.testBit j=true→q.testBit j'=true→tr[j]? =some e1→tr[j']? =some e2→e2.d=e1.d→j'=j:=by
  intro j j' e1 e2 h1 h2 g1 g2 h3 h4 h5
  obtain⟨q1,p1,p2⟩:=hdist h1 g1 h3
  obtain⟨q2,p3,p4⟩:=hdist h2 g2 h4
  exact K.dist j q1 j' q2 e1.d g1 p1 p3 p2 (by rw[p4,h5])
 have agree: ∀t,(∀k o',k<ops.length→q.testBit k=true→ops[k]? =some o'→o'.dst=some t→k=i∨(k<i∧D k=true)∨(i<k∧D k=false))→look (iI (fun j=>q.testBit j) tr s i).sl t=look (iI D tr s ops.length).sl t:=by
  intro t ht
  by_cases hex: ∃k e',k<i∧D k=true∧tr[k]? =some e'∧e'.d=t
  ·obtain⟨k,e',hk,wL,he',rfl⟩:=hex
   rw[pQ hk (wM k wL) he' fun j' e2 h1 h2 h3 h4=>NC (by omega) (by omega) (wM k wL) h2 he' h3 h4,pQ (by omega) wL he' fun j' e2 h1 h2 h3 h4=>NC (by omega) h1 (wM k wL) (wM j' h2) he' h3 h4]
  ·rw[ue (fun k e' hk P9 he' hdt=>by
      obtain⟨q',h1,h2⟩:=hdist (by omega) P9 he'
      rcases ht k q' (by omega) P9 h1 (by rw[h2,hdt])with h|h|h
      ·omega
      ·exact hex ⟨k,e',hk,h.2,he',hdt⟩
      ·omega),
    ue (fun k e' hk wL he' hdt=>by
     obtain⟨q',h1,h2⟩:=hdist hk (wM k wL) he'
     rcases ht k q' hk (wM k wL) h1 (by rw[h2,hdt])with h|h|h
     ·subst h;rw[NB]at wL;cases wL
     ·exact hex ⟨k,e',h.1,h.2,he',hdt⟩
     ·rw[h.2]at wL;cases wL)]
 obtain⟨p,oD,kE,iT,MG⟩:=oG hq
 have RY: ∀x,x∈p→look (iI (fun j=>q.testBit j) tr s i).sl x.1=look (iI D tr s ops.length).sl x.1:=by
  intro x hx
  refine agree x.1 fun k o2 Ix P9 U7 hd2=>bg (bG ⟨?_,RX P9 Ix ?_⟩)
  ·exact T.path K i hi Fy o p ho oD x hx k o2 P9 U7 hd2 (fun j=>j<i) (fun a b hab hb j hj=>xN (K.back a b hb j hj) hab) (fun j hj=>K.back i o ho j hj)
  ·exact T.path K i hi Fy o p ho oD x hx k o2 P9 U7 hd2 (fun j=>B.testBit j=true∨D j=true) L8 hE
 have xl:lQ (iI D tr s ops.length) ops o=some p:=by
  rw[←oD]
  unfold lQ
  split
  ·rfl
  ·rename_i j x hgd
   split
   ·rename_i q RW
    split
    ·rename_i d Zx
     have hmem: ∃y,(d,y)∈p:=by
      unfold lQ at oD
      rw[hgd]at oD
      dsimp only at oD
      rw[RW]at oD
      dsimp only at oD
      rw[Zx]at oD
      dsimp only at oD
      split at oD
      ·simp only[oI]at oD;exact⟨x,by rw[←oD];simp⟩
      ·simp only[oI]at oD;exact⟨x,by rw[←oD];simp⟩
      ·cases oD
     obtain⟨y,hy⟩:=hmem
     rw[←RY (d,y) hy]
    ·rfl
   ·rfl
 have aeL:fresh (iI D tr s ops.length).hp e.os=true:=by
  refine M6 fun n x hl=> ?_
  cases OO:look (iI D tr s ops.length).hp n with
  |none=>exact⟨rfl,(MG n x hl).2⟩
  |some y=>
   exfalso
   have hpi:=hfr i e hi Fy he n x hl
   rcases pR OO with h| ⟨j,e',hj,Qc,he',h⟩
   ·have:=yT (D:=fun j=>q.testBit j) hfr (fun _ h=>h) (i:=i) (by omega) h
    rw[hpi]at this
    cases this
   ·have hji:j≠i:=by rintro rfl;rw[NB]at Qc;cases Qc
    by_cases hlt:j<i
    ·have:=yU (D:=fun j=>q.testBit j) hfr (fun _ h=>h) (i:=i) (by omega) hlt (wM j Qc) he' h
     rw[hpi]at this
     cases this
    ·have h2:=hfr j e' hj (wM j Qc) he' n y h
     have:=yU (D:=fun j=>q.testBit j) hfr (fun _ h=>h) (i:=j) (by omega) (j:=i) (by omega) Fy he hl
     rw[h2]at this
     cases this
 have ahh:((iI D tr s ops.length).sl.any fun x=>x.2.mentions e.d)=false:=by
  rw[bK]
  intro x hx hm
  rcases K1 hx with h| ⟨j,e',hj,Qc,he',rfl⟩
  ·rw[bK]at hnm
   exact hnm x (s6 h) hm
  ·obtain⟨qq,e2,vc2,RW,IF,hd2,_,hqc,_⟩:=T.one j hj (wM j Qc)
   rw[he']at IF
   simp only[oI]at IF
   subst IF
   obtain⟨pj,hgj,hj0,hj1,_⟩:=oG hqc
   by_cases hnil:pj= []
   ·cases hx2:e'.v with
    |cond q y=>exact hj0 hnil _ _ hx2
    |one y=>simp[hx2,SV.mentions]at hm
    |zH y=>simp[hx2,SV.mentions]at hm
   ·obtain⟨y,hy⟩:=(hj1 hnil).1
    simp only[hy,SV.mentions,dV]at hm
    obtain⟨z,hz,hzd⟩:=hm
    have hzd:=av hzd
    have h4:=T.path K j hj (wM j Qc) qq pj RW hgj z hz i o Fy ho (by rw[hd,hzd]) (fun j=>B.testBit j=true∨D j=true) L8 (L8 j qq (bg Qc) RW)
    have:=RX Fy hi h4
    rw[NB]at this;cases this
 have hdm:e.v.mentions e.d=false:=by
  by_cases hnil:p= []
  ·cases hx2:e.v with
   |cond q y=>exact absurd hx2 (kE hnil _ _)
   |one y=>rfl
   |zH y=>rfl
  ·obtain⟨⟨y,hy⟩,_,hne⟩:=iT hnil
   rw[hy]
   simp only[SV.mentions]
   rw[bK]
   intro z hz hb
   exact hne e.d hd z hz (av hb)
 have hD2: ∀j,(fun j=>D j||j==i) j=true→q.testBit j=true:=by
  intro j hj
  simp only[dh,beq_iff_eq]at hj
  rcases hj with h|rfl
  ·exact wM j h
  ·exact Fy
 have behind: ∀a' w',Inv ty zb (app (iI D tr s ops.length) e) a' w'→Inv ty zb (iI (fun j=>D j||j==i) tr s ops.length) a' w':=by
  intro a' w' vi
  obtain⟨env,g⟩:=vi.good
  refine⟨by rw[vi.size,Ei];show(iI D tr s ops.length).n=s.n;exact Ei _,vi.defers,vi.kept,vi.ID,env,g.congr ?_ ?_⟩
  ·intro t v hl
   show look ((e.d,e.v)::(iI D tr s ops.length).sl) t=some v
   by_cases ht:t=e.d
   ·subst ht
    rw[pQ hi (by simp) he fun j' e2 h1 h2 h3 h4=>NC hi h1 Fy (hD2 j' h2) he h3 h4]at hl
    rw[look_eq];exact hl
   ·rw[bX ht]
    by_cases hex: ∃k e',k<ops.length∧D k=true∧tr[k]? =some e'∧e'.d=t
    ·obtain⟨k,e',hk,wL,he',rfl⟩:=hex
     rw[pQ hk (by simp[wL]) he' fun j' e2 h1 h2 h3 h4=>NC hk h1 (wM k wL) (hD2 j' h2) he' h3 h4]at hl
     rw[pQ hk wL he' fun j' e2 h1 h2 h3 h4=>NC hk h1 (wM k wL) (wM j' h2) he' h3 h4]
     exact hl
    ·rw[ue fun k e' hk wL he' hdt=>by
      simp only[dh,beq_iff_eq]at wL
      rcases wL with h|rfl
      ·exact hex ⟨k,e',hk,h,he',hdt⟩
      ·rw[he]at he'
       simp only[oI]at he'
       exact ht (by rw[he',hdt])]at hl
     rw[ue fun k e' hk wL he' hdt=>hex ⟨k,e',hk,wL,he',hdt⟩]
     exact hl
  ·intro n
   show look (iI (fun j=>D j||j==i) tr s ops.length).hp n=look (e.os++(iI D tr s ops.length).hp) n
   cases hl:look e.os n with
   |some x=>
    rw[eL hl]
    exact yU hfr hD2 (bh _) hi (by simp) he hl
   |none=>
    rw[cQ hl]
    cases hx:look (iI (fun j=>D j||j==i) tr s ops.length).hp n with
    |some y=>
     rcases pR hx with h| ⟨j,e',hj,Qc,he',h⟩
     ·exact(yT hfr wM (bh _) h).symm
     ·have hji:j≠i:=by
       rintro rfl
       rw[he]at he'
       simp only[oI]at he'
       subst he'
       rw[hl]at h;cases h
      have Qc:D j=true:=by
       simp only[dh,beq_iff_eq]at Qc
       exact Qc.resolve_right hji
      exact(yU hfr wM (bh _) hj Qc he' h).symm
    |none=>
     cases hy:look (iI D tr s ops.length).hp n with
     |none=>rfl
     |some y=>
      rcases pR hy with h| ⟨j,e',hj,Qc,he',h⟩
      ·rw[yT hfr hD2 (bh _) h]at hx;cases hx
      ·rw[yU hfr hD2 (bh _) hj (by simp[Qc]) he' h]at hx;cases hx
 have hput:St.put ⟨(iI D tr s ops.length).n,(iI D tr s ops.length).sl,e.os++(iI D tr s ops.length).hp⟩ o.dst e.v=app (iI D tr s ops.length) e:=by
  rw[hd]
  simp only[St.put,ahh]
  rfl
 by_cases hw:lB o (yielded ops.toArray a.tmps)=true
 ·have hh:holds a.tmps p:=by
   obtain⟨env,g⟩:=iv.good
   unfold lQ at xl
   split at xl
   ·simp at xl;subst xl;intro y hy;simp at hy
   ·rename_i j x hgd
    split at xl
    ·rename_i q RW
     split at xl
     ·rename_i d Zx
      have hwd:=(Ab (ops:=ops.toArray) hgd (by simpa using RW) Zx a.tmps).1 hw
      split at xl
      ·simp only[oI]at xl
       subst xl
       intro y hy
       simp at hy
       subst hy
       exact hwd
      ·rename_i p' b hl
       simp only[oI]at xl
       subst xl
       intro y hy
       rcases aW.1 hy with rfl|hy
       ·exact hwd
       ·exact(CN g hl hwd).1 y hy
      ·cases xl
     ·cases xl
    ·cases xl
  obtain⟨env,g⟩:=iv.good
  have aba:Compat (iI (fun j=>q.testBit j) tr s i).hp (iI D tr s ops.length).hp:=by
   intro n x y h1 h2
   have h3:=Dl hfr (Nat.le_of_lt hi) (bh _) h1
   have h4:=xM hfr wM (bh _) h2
   rw[h3]at h4
   simpa using h4
  have hmono:=PR aba g (by rw[Ei,Ei]) oD xl hh (fun x hx t hxt=>agree t fun k o2 hk P9 U7 hd2=>by
    have ht:t∈tmpsOf o:=by
     simp only[tmpsOf,sW]
     exact⟨x,hx,by rw[hxt]⟩
    rcases K.uses i o Fy ho t ht k o2 P9 U7 hd2 with h|h|h
    ·exact bG h
    ·exact bg (bG ⟨ahg h,RX P9 hk (ajA h)⟩)
    ·refine bg (bg ⟨h.1,?_⟩)
     cases wL:D k with
     |false=>rfl
     |true=>
      have:=G0 (D:=fun j=>B.testBit j=true∨D j=true) K.back L8 k o2 U7 (L8 k o2 (bg wL) U7) i h.2
      have:=RX Fy hi this
      rw[NB]at this;cases this) RY aeL hq
  have:=MC (Q:=Q) C hmono iv (fun p hp=>hv _ hvc Fy hi p hp)
  rw[hput]at this
  exact this.mono behind
 ·unfold wo
  rw[if_neg hw]
  have hnil:p≠ []:=by
   rintro rfl
   unfold lQ at oD
   split at oD
   ·rename_i hgd;exact hw (by simp[lB,hgd])
   ·repeat' split at oD
    all_goals simp at oD
  obtain⟨⟨y,hy⟩,hos,_⟩:=iT hnil
  have hnh: ¬holds a.tmps p:=by
   intro hh
   unfold lQ at oD
   split at oD
   ·rename_i hgd;exact hw (by simp[lB,hgd])
   ·rename_i j x hgd
    split at oD
    ·rename_i q RW
     split at oD
     ·rename_i d Zx
      have hdx:(d,x)∈p:=by
       split at oD
       ·simp only[oI]at oD;rw[←oD];simp
       ·simp only[oI]at oD;rw[←oD];simp
       ·cases oD
      exact hw ((Ab (ops:=ops.toArray) hgd (by simpa using RW) Zx a.tmps).2 (hh _ hdx))
     ·cases oD
    ·cases oD
  apply behind
  obtain⟨env,g⟩:=iv.good
  have hlt:e.d<a.tmps.size:=by
   unfold tU at hq
   have:D8 (iI (fun j=>q.testBit j) tr s i) o.dst=true:=by
    cases hdk:D8 (iI (fun j=>q.testBit j) tr s i) o.dst with
    |true=>rfl
    |false=>rw[hdk]at hq;simp at hq
   rw[hd]at this
   rw[iv.size,Ei]
   have:=bT this
   rw[show(iI (fun j=>q.testBit j) tr s i).n=s.n from Ei i]at this
   exact this
  have ahi:=g.put (d:=e.d) hlt (v:=e.v) (u:=undef) (by rw[hy];exact⟨fun hh=>absurd hh hnh,fun _=>rfl⟩) hdm
  refine⟨by rw[l6];exact iv.size,by rw[put_defers];exact iv.defers,iv.kept,iv.ID,env,?_⟩
  rw[hd]
  have ajB:(iI D tr s ops.length).put (some e.d) e.v=app (iI D tr s ops.length) e:=by
   simp only[St.put,ahh,app,hos]
   rfl
  rw[ajB]at ahi
  exact ahi
end
theorem BQ{ops:List Oper}{B q NA:Nat}{D:Nat→Bool}(wM: ∀i,D i=true→q.testBit i=true)(hDn: ∀i,D i=true→i<ops.length)(hb: ∀i o,ops[i]? =some o→ ∀j,j∈eo o→j<i)
  (hc: ∀i o,D i=true→ops[i]? =some o→ ∀j,j∈eo o→(B.testBit j=true∨D j=true))(RZ: ∀i,q.testBit i=true→NA.testBit i=true→D i=true):
  ∀(m i d:Nat),i+m=ops.length→(∀j,d.testBit j=(decide (j<i)&&D j))→ ∃d',d'∈Ht ops B q NA m i d∧ ∀j,d'.testBit j=D j
 |0,i,d,him,hd=>by
  refine⟨d,by simp[Ht],fun j=> ?_⟩
  rw[hd j]
  cases hj:D j with
  |false=>simp
  |true=>have:=hDn j hj;simp;omega
 |m+1,i,d,him,hd=>by
  have hstep:D i=false→ ∀j,d.testBit j=(decide (j<i+1)&&D j):=by
   intro NB j
   rw[hd j]
   by_cases hji:j=i
   ·subst hji;simp[NB]
   ·have:decide (j<i)=decide (j<i+1):=by
     apply decide_eq_decide.2;omega
    rw[this]
  simp only[Ht]
  split
  ·rename_i hq
   have NB:D i=false:=by
    cases h:D i with
    |false=>rfl
    |true=>rw[wM i h]at hq;cases hq
   exact BQ wM hDn hb hc RZ m (i+1) d (by omega) (hstep NB)
  ·rename_i hq
   cases NB:D i with
   |true=>
    have hlt:=hDn i NB
    have ho:=au hlt
    have hcond:(((ops[i]?).map fun o=>(eo o).all fun j=>B.testBit j||d.testBit j).getD false)=true:=by
     rw[ho]
     simp only[dz,qn,bq,dh]
     intro j hj
     rcases hc i _ NB ho j hj with h|h
     ·exact bG h
     ·exact bg (by rw[hd j,h];have:=hb i _ ho j hj;simp[this])
    obtain⟨d',h1,h2⟩:=BQ wM hDn hb hc RZ m (i+1) (d|||2^i) (by omega) (fun j=>by
     rw[o8,mG,hd j]
     by_cases hji:i=j
     ·subst hji;simp[NB]
     ·have:decide (j<i)=decide (j<i+1):=by
       apply decide_eq_decide.2;omega
      simp[hji,this])
    refine⟨d',?_,h2⟩
    rw[hcond]
    exact aM _ h1
   |false=>
    obtain⟨d',h1,h2⟩:=BQ wM hDn hb hc RZ m (i+1) d (by omega) (hstep NB)
    refine⟨d',aH _ ?_,h2⟩
    split
    ·rename_i hm
     have:=RZ i hq hm
     rw[NB]at this;cases this
    ·exact h1
section
variable{P:Program}{Γ:Nat→TK}{gL:List (Nat×Nat)}{cr:List (Nat×CR)}{ks hs:List Nat}{ops:List Oper}{n0 qs:Nat}
theorem s7: ∀{c:jS} {s:St} {tr:List TE} {vq acc:List (Nat×List Prop)} {lv:List (List Prop×St)},mY P ty Γ gL cr ks hs ops n0 c s tr vq acc=some lv→ ∀d t sub,(d,t,sub)∈c.RU→
  ∃o vc s2 l1,ops[t]? =some o∧step P ty Γ gL cr ops (Ny d 0 tr s) o=some (vc,s2)∧mY P ty Γ gL cr ks hs ops n0 sub s2 [] [] (P7 t vc (Nz d vq acc))=some l1∧ ∀x,x∈l1→x∈lv
 | .br d0 t0 ahj next,s,tr,vq,acc,lv,h,d,t,sub,hm=>by
   simp only[mY]at h
   split at h
   case h_2=>cases h
   rename_i s1 o hs1 ho
   have hs1:=rJ hs1
   subst hs1
   split at h
   case h_2=>cases h
   rename_i vc s2 hst
   split at h
   case h_2=>cases h
   rename_i s3 hs3
   have hs3:=rJ hs3
   subst hs3
   split at h
   case h_2=>cases h
   rename_i l1 l2 h1 h2
   simp only[oI]at h
   rw[gI]at h
   subst h
   simp only[jS.RU,aW,pI]at hm
   rcases hm with⟨rfl,rfl,rfl⟩|hm
   ·exact⟨o,vc,_,l1,ho,hst,h1,fun x hx=>aM _ hx⟩
   ·obtain⟨o',vc',s',l',p1,p2,p3,p4⟩:=s7 h2 d t sub hm
    exact⟨o',vc',s',l',p1,p2,p3,fun x hx=>aH _ (p4 x hx)⟩
 | .last _,_,_,_,_,_,_,_,_,_,hm=>by simp[jS.RU]at hm
 | .ph _ _,_,_,_,_,_,_,_,_,_,hm=>by simp[jS.RU]at hm
 | .nil,_,_,_,_,_,_,_,_,_,hm=>by simp[jS.RU]at hm
theorem uw: ∀{c:jS} {s:St} {tr:List TE} {vq acc:List (Nat×List Prop)} {lv:List (List Prop×St)},mY P ty Γ gL cr ks hs ops n0 c s tr vq acc=some lv→ ∀x,x∈lv→ ∀y,y∈acc→ ∀p,p∈y.2→p∈x.1
 | .last q,s,tr,vq,acc,lv,h,x,hx,y,hy,p,hp=>by
   simp only[mY]at h
   repeat' split at h
   all_goals first
    | (cases h;done)
    |skip
   rename_i hf _ _ _ _
   simp only[oI]at h
   subst h
   rw[aP]at hx
   subst hx
   exact Dj hf y (uu.2 (bg hy)) p hp
 | .ph q c,s,tr,vq,acc,lv,h,x,hx,y,hy,p,hp=>by
   simp only[mY]at h
   split at h
   ·exact uw h x hx y hy p hp
   ·cases h
 | .br d0 t0 ahj next,s,tr,vq,acc,lv,h,x,hx,y,hy,p,hp=>by
   simp only[mY]at h
   split at h
   case h_2=>cases h
   split at h
   case h_2=>cases h
   split at h
   case h_2=>cases h
   split at h
   case h_2=>cases h
   rename_i l1 l2 h1 h2
   simp only[oI]at h
   rw[gI]at h
   subst h
   rcases aK.1 hx with hx|hx
   ·exact uw h1 x hx y (xL.2 (bg (uu.2 (bg hy)))) p hp
   ·exact uw h2 x hx y hy p hp
 | .nil,_,_,_,_,_,h,x,hx,_,_,_,_=>by
   simp only[mY,oI]at h
   subst h
   cases hx
theorem yV{n:Nat}: ∀{c:jS} {B:Nat},U8 ops (KW ops) (idx 0 ops) qs n B c=true→ ∀d t sub,(d,t,sub)∈c.RU→sub.Xs=true∧t<n∧U8 ops (KW ops) (idx 0 ops) qs n (B|||d|||2^t) sub=true∧lF sub<lF c
 | .br d0 t0 ahj next,B,h,d,t,sub,hm=>by
   simp only[U8,aj]at h
   simp only[jS.RU,aW,pI]at hm
   rcases hm with⟨rfl,rfl,rfl⟩|hm
   ·exact⟨h.1.1.1,bT h.1.1.2,h.1.2,by simp only[jS.br.sizeOf_spec];omega⟩
   ·obtain⟨p1,p2,p3,p4⟩:=yV h.2 d t sub hm
    exact⟨p1,p2,p3,by simp only[jS.br.sizeOf_spec];omega⟩
 | .last _,_,_,_,_,_,hm=>by simp[jS.RU]at hm
 | .ph _ _,_,_,_,_,_,hm=>by simp[jS.RU]at hm
 | .nil,_,_,_,_,_,hm=>by simp[jS.RU]at hm
theorem JJ{B q:Nat}{c:jS}(h:Lf ops (KW ops) ops.length B q c=true)(K:PhX ops qs B q){D:Nat→Bool}(wM: ∀i,D i=true→q.testBit i=true)(hDn: ∀i,D i=true→i<ops.length)
  (L8: ∀i o,(B.testBit i=true∨D i=true)→ops[i]? =some o→ ∀j,j∈eo o→(B.testBit j=true∨D j=true)){t:Nat}{o:Oper}(ho:ops[t]? =some o)(ht:B.testBit t=false)(hqt:q.testBit t=false)(hE: ∀j,j∈eo o→(B.testBit j=true∨D j=true)):
  ∃d sub,(d,t,sub)∈c.RU∧ ∀i,d.testBit i=D i:=by
 have htl:t<ops.length:=(aI.1 ho).1
 simp only[Lf,bq,bV,dh]at h
 obtain⟨d,h1,h2⟩:=BQ (B:=B) (q:=q) (NA:=(KW ops).getD t 0) wM hDn K.back (fun i o hi=>L8 i o (bg hi)) (fun i Fy hm=>by
  have:=G0 (D:=fun j=>B.testBit j=true∨D j=true) K.back L8 t o ho hE i hm
  rcases this with h|h
  ·have hil:i<ops.length:=by
    have:=G0 (D:=fun j=>j<t) K.back (fun a b hab hb j hj=>xN (K.back a b hb j hj) hab) t o ho (fun j hj=>K.back t o ho j hj) _ hm
    omega
   rw[K.lR i hil Fy]at h;cases h
  ·exact h) ops.length 0 0 (by omega) (fun j=>by simp)
 rcases h t htl with(h3|h3)|h3
 ·rw[ht]at h3;cases h3
 ·rw[hqt]at h3;cases h3
 ·have h4:=h3 d h1
  simp only[bp,dV,aj]at h4
  rcases h4 with h4| ⟨⟨d',t',sub⟩,h5,h6,h7⟩
  ·exfalso
   rw[ho]at h4
   simp only[dz,qn]at h4
   have:((eo o).all fun j=>B.testBit j||d.testBit j)=true:=by
    rw[bq]
    intro j hj
    rw[dh,h2 j]
    exact hE j hj
   rw[this]at h4;cases h4
  ·have h6:=av h6
   have h7:=av h7
   simp only at h6 h7
   subst h6;subst h7
   exact⟨d',sub,h5,h2⟩
theorem R1{B q:Nat}{c:jS}(ajD:Lf ops (KW ops) ops.length B q c=true)(K:PhX ops qs B q)(ND: ∀i o,B.testBit i=true→ops[i]? =some o→ ∀j,j∈eo o→B.testBit j=true)
  (hqc: ∀i o,q.testBit i=true→ops[i]? =some o→ ∀j,j∈eo o→(B.testBit j=true∨q.testBit j=true))(hnot:((bA ops.length).all fun i=>B.testBit i||q.testBit i)=false):
  ∃d t sub,(d,t,sub)∈c.RU∧(∀i,d.testBit i=(q.testBit i&&decide (i<ops.length)))∧ ∀o,ops[t]? =some o→ ∀j,j∈eo o→(B.testBit j=true∨d.testBit j=true):=by
 have: ∃i,i<ops.length∧B.testBit i=false∧q.testBit i=false∧ ∀j,j<i→B.testBit j=true∨q.testBit j=true:=by
  rw[List.all_eq_false]at hnot
  obtain⟨i,hi,hn⟩:=hnot
  rw[bV]at hi
  simp only[dh,not_or,Bool.not_eq_true]at hn
  induction i using kO with
  |_ i ih=>
   by_cases hl: ∀j,j<i→B.testBit j=true∨q.testBit j=true
   ·exact⟨i,hi,hn.1,hn.2,hl⟩
   ·have: ∃j,j<i∧B.testBit j=false∧q.testBit j=false:=by
     apply Classical.byContradiction
     intro hno
     apply hl
     intro j hj
     cases hb:B.testBit j with
     |true=>exact bG rfl
     |false=>
      cases hq:q.testBit j with
      |true=>exact bg rfl
      |false=>exact absurd ⟨j,hj,hb,hq⟩ hno
    obtain⟨j,hj,h1,h2⟩:=this
    exact ih j hj (by omega) ⟨h1,h2⟩
 obtain⟨i,hi,h1,h2,h3⟩:=this
 have ho:=au hi
 obtain⟨d,sub,h4,h5⟩:=JJ (D:=fun j=>q.testBit j&&decide (j<ops.length)) ajD K (fun j hj=>by simp at hj;exact hj.1) (fun j hj=>by simp at hj;exact hj.2)
  (fun a b hab hb j hj=>by
   have hal:a<ops.length:=(aI.1 hb).1
   have hjl:j<ops.length:=xN (K.back a b hb j hj) hal
   rcases hab with h|h
   ·exact bG (ND a b h hb j hj)
   ·simp at h
    rcases hqc a b h.1 hb j hj with h|h
    ·exact bG h
    ·exact bg (by simp[h,hjl])) ho h1 h2 (fun j hj=>by
   have hji:=K.back i _ ho j hj
   rcases h3 j hji with h|h
   ·exact bG h
   ·exact bg (by simp[h];omega))
 refine⟨d,i,sub,h4,h5,fun o ho' j hj=> ?_⟩
 have hji:=K.back i _ ho' j hj
 rcases h3 j hji with h|h
 ·exact bG h
 ·exact bg (by rw[h5 j,h];simp;omega)
theorem Lh{B d t q:Nat}(K:PhX ops qs B q)(ND: ∀i o,B.testBit i=true→ops[i]? =some o→ ∀j,j∈eo o→B.testBit j=true)(hd: ∀i o,d.testBit i=true→ops[i]? =some o→ ∀j,j∈eo o→(B.testBit j=true∨d.testBit j=true))
  (ht: ∀o,ops[t]? =some o→ ∀j,j∈eo o→(B.testBit j=true∨d.testBit j=true)): ∀i o,(B|||d|||2^t).testBit i=true→ops[i]? =some o→ ∀j,j∈eo o→(B|||d|||2^t).testBit j=true:=by
 intro i o hi ho j hj
 simp only[o8,mG,dh,decide_eq_true_eq]at hi ⊢
 rcases hi with(h|h)|h
 ·exact bG (bG (ND i o h ho j hj))
 ·exact bG (hd i o h ho j hj)
 ·subst h;exact bG (ht o ho j hj)
theorem Hw: ∀(N:Nat) (p:jS),lF p≤N→p.Xs=true→ ∀(B:Nat) (s:St) (tr:List TE) (vq acc:List (Nat×List Prop)) (lv:List (List Prop×St)),(∀i o,ops[i]? =some o→ ∀j,j∈eo o→j<i)→(∀i o,B.testBit i=true→ops[i]? =some o→ ∀j,j∈eo o→B.testBit j=true)→
  U8 ops (KW ops) (idx 0 ops) qs ops.length B p=true→mY P ty Γ gL cr ks hs ops n0 p s tr vq acc=some lv→lv≠ []
 |N, .last q,_,_,B,s,tr,vq,acc,lv,hb,ND,hok,h=>by
  simp only[mY]at h
  repeat' split at h
  all_goals first
   | (cases h;done)
   |skip
  simp only[oI]at h
  rw[←h];simp
 |0, .ph q c,hN,_,_,_,_,_,_,_,_,_,_,_=>by simp only[jS.ph.sizeOf_spec]at hN;omega
 |N+1, .ph q c,hN,_,B,s,tr,vq,acc,lv,hb,ND,hok,h=>by
  simp only[U8,aj,bp]at hok
  have K:=Lg hb hok.1.1.1
  obtain⟨d,t,sub,hm,hd,ht⟩:=R1 hok.1.1.2 K ND K.clq hok.1.2
  simp only[mY]at h
  split at h
  case h_2=>cases h
  rename_i tr' vq' hr
  obtain⟨o,vc,s2,l1,h1,h2,h3,h4⟩:=s7 h d t sub hm
  obtain⟨p1,p2,p3,p4⟩:=yV hok.2 d t sub hm
  have hsz:lF sub≤N:=by simp only[jS.ph.sizeOf_spec]at hN;omega
  have:=Hw N sub hsz p1 (B|||d|||2^t) s2 [] [] _ l1 hb (Lh K ND (fun i o hi ho j hj=>by
   rw[hd i]at hi
   simp only[aj,decide_eq_true_eq]at hi
   rcases K.clq i o hi.1 ho j hj with h|h
   ·exact bG h
   ·exact bg (by rw[hd j,h];have:=K.back i o ho j hj;simp;omega)) ht) p3 h3
  intro hnil
  cases l1 with
  |nil=>exact this rfl
  |cons x r=>have:=h4 x (by simp);rw[hnil]at this;cases this
 |_, .br _ _ _ _,_,hp,_,_,_,_,_,_,_,_,_,_=>by cases hp
 |_, .nil,_,hp,_,_,_,_,_,_,_,_,_,_=>by cases hp
variable{zb:eJ}{Q:Exit→Act→World→Prop}
theorem JK(X:Ctx P ty Γ){B q:Nat}{s:St}{tr:List TE}{vq:List (Nat×List Prop)}(T:ZF Γ (OL P ty) (Sound ty P) gL cr ops q s tr vq)(K:PhX ops qs B q)(hv: ∀x,x∈vq→q.testBit x.1=true→x.1<ops.length→ ∀p,p∈x.2→p)(ND: ∀i o,B.testBit i=true→ops[i]? =some o→ ∀j,j∈eo o→B.testBit j=true)
  (fin: ∀a w,(∀i,i<ops.length→B.testBit i=true∨q.testBit i=true)→Inv ty zb (iI (fun j=>q.testBit j) tr s ops.length) a w→Q .normal a w)
  (kj: ∀(fuel:Nat) (D:Nat→Bool) (listed:Array Bool) (i:Nat) (o:Oper) (a:Act) (w:World),listed.size=ops.length→(∀j,j<ops.length→listed.getD j false=(B.testBit j||D j))→(∀i,D i=true→q.testBit i=true)→(∀i,D i=true→i<ops.length)→
   (∀i o,(B.testBit i=true∨D i=true)→ops[i]? =some o→ ∀j,j∈eo o→(B.testBit j=true∨D j=true))→ops[i]? =some o→B.testBit i=false→q.testBit i=false→(∀j,j∈eo o→(B.testBit j=true∨D j=true))→cnt ops.length (fun j=>(listed.setIfInBounds i true).getD j false)≤fuel→
   Inv ty zb (iI D tr s ops.length) a w→wo P ops.toArray o a w (wpAny P .any ops.toArray Q fuel (listed.setIfInBounds i true)) Q):
  ∀(fuel:Nat) (D:Nat→Bool) (listed:Array Bool) (a:Act) (w:World),listed.size=ops.length→(∀j,j<ops.length→listed.getD j false=(B.testBit j||D j))→(∀i,D i=true→q.testBit i=true)→(∀i,D i=true→i<ops.length)→
   (∀i o,(B.testBit i=true∨D i=true)→ops[i]? =some o→ ∀j,j∈eo o→(B.testBit j=true∨D j=true))→cnt ops.length (fun j=>listed.getD j false)≤fuel→Inv ty zb (iI D tr s ops.length) a w→wpAny P .any ops.toArray Q fuel listed a w:=by
 have all: ∀{D:Nat→Bool} {listed:Array Bool} {a:Act} {w:World},listed.size=ops.length→(∀j,j<ops.length→listed.getD j false=(B.testBit j||D j))→(∀i,D i=true→q.testBit i=true)→sV .any ops.toArray listed= []→Inv ty zb (iI D tr s ops.length) a w→Q .normal a w:=by
  intro D listed a w hl hL wM hnil iv
  have ajE: ∀i,i<ops.length→listed.getD i false=true:=by
   intro i
   induction i using kO with
   |_ i ih=>
    intro hi
    cases hd:listed.getD i false with
    |true=>rfl
    |false=>
     have:i∈sV .any ops.toArray listed:=(CZ hl).2 ⟨ops[i],au hi,hd,fun j hj=>by
      have:=K.back i _ (au hi) j hj
      exact ih j this (by omega)⟩
     rw[hnil]at this
     cases this
  have hBD: ∀i,i<ops.length→B.testBit i=true∨D i=true:=by
   intro i hi
   have:=ajE i hi
   rw[hL i hi,dh]at this
   exact this
  refine fin a w (fun i hi=>(hBD i hi).imp id (wM i)) ?_
  rw[←Dk (D:=D) fun i hi=> ?_]
  ·exact iv
  ·cases hq:q.testBit i with
   |false=>
    cases hd:D i with
    |false=>rfl
    |true=>rw[wM i hd]at hq;cases hq
   |true=>
    rcases hBD i hi with h|h
    ·rw[K.lR i hi hq]at h;cases h
    ·exact h
 intro fuel
 induction fuel with
 |zero=>
  intro D listed a w hl hL wM hDm L8 hf iv
  have hz:=WR (by omega:cnt ops.length (fun i=>listed.getD i false)=0)
  have hnil:sV .any ops.toArray listed= []:=by
   apply List.eq_nil_iff_forall_not_mem.2
   intro i hi
   obtain⟨o,ho,h1,_⟩:=(CZ hl).1 hi
   rw[hz i (aI.1 ho).1]at h1
   cases h1
  exact⟨hnil,all hl hL wM hnil iv⟩
 |succ fuel ih=>
  intro D listed a w hl hL wM hDm L8 hf iv
  refine⟨fun hnil=>all hl hL wM hnil iv,fun i hi=> ?_⟩
  obtain⟨o,ho,hif,hE0⟩:=(CZ hl).1 hi
  have hin:=(aI.1 ho).1
  have hE: ∀j,j∈eo o→(B.testBit j=true∨D j=true):=by
   intro j hj
   have:=hE0 j hj
   rw[hL j (by have:=K.back i o ho j hj;omega),dh]at this
   exact this
  rw[hL i hin,gm]at hif
  obtain⟨hBi,NB⟩:=hif
  have WC: ∀j,(listed.setIfInBounds i true).getD j false=(listed.getD j false||j==i):=fun j=>M7 (by omega)
  have ajF:(fun j=>(listed.setIfInBounds i true).getD j false)=fun j=>listed.getD j false||j==i:=funext WC
  have abb:cnt ops.length (fun j=>(listed.setIfInBounds i true).getD j false)≤fuel:=by
   rw[ajF]
   have:=aaF (D:=fun i=>listed.getD i false) hin (by rw[hL i hin,hBi,NB];rfl)
   omega
  unfold wpOp
  rw[kL,ho]
  dsimp only
  cases Fy:q.testBit i with
  |true=>
   have hstep:=Qa (Q:=Q) X.kind T K hv wM hDm L8 Fy NB ho hE iv
   refine wo.mono (fun a' w' vi=>ih (fun j=>D j||j==i) (listed.setIfInBounds i true) a' w' (by simpa using hl) (fun j hj=> ?_) (fun j hj=> ?_) (fun j hj=> ?_) (fun a b hab hb j hj=> ?_) abb vi) hstep
   ·rw[WC,hL j hj,Bool.or_assoc]
   ·simp only[dh,beq_iff_eq]at hj
    rcases hj with h|rfl
    ·exact wM j h
    ·exact Fy
   ·simp only[dh,beq_iff_eq]at hj
    rcases hj with h|rfl
    ·exact hDm j h
    ·exact hin
   ·have up: ∀{x},(B.testBit x=true∨D x=true)→(B.testBit x=true∨(D x||x==i)=true):=fun h=>h.imp id (fun h=>by simp[h])
    simp only[dh,beq_iff_eq]at hab
    rcases hab with h|h|rfl
    ·exact up (L8 a b (bG h) hb j hj)
    ·exact up (L8 a b (bg h) hb j hj)
    ·rw[ho]at hb
     simp only[oI]at hb
     subst hb
     exact up (hE j hj)
  |false=>exact kj fuel D listed i o a w hl hL wM hDm L8 ho hBi Fy hE abb iv
theorem NF(X:Ctx P ty Γ)(hb: ∀i o,ops[i]? =some o→ ∀j,j∈eo o→j<i): ∀(N:Nat) (p:jS),lF p≤N→p.Xs=true→ ∀(B:Nat) (s:St) (tr0:List TE) (vq0 acc:List (Nat×List Prop)) (lv:List (List Prop×St)),
  (∀i o,B.testBit i=true→ops[i]? =some o→ ∀j,j∈eo o→B.testBit j=true)→U8 ops (KW ops) (idx 0 ops) qs ops.length B p=true→mY P ty Γ gL cr ks hs ops n0 p s tr0 vq0 acc=some lv→
  (∀x,x∈lv→(∀q,q∈x.1→q)∧ ∀a w,Inv ty zb x.2 a w→Q .normal a w)→
  ∀(fuel:Nat) (listed:Array Bool) (a:Act) (w:World),listed.size=ops.length→(∀j,j<ops.length→listed.getD j false=B.testBit j)→cnt ops.length (fun j=>listed.getD j false)≤fuel→Inv ty zb s a w→wpAny P .any ops.toArray Q fuel listed a w
 |N, .last q,hN,_,B,s,tr0,vq0,acc,lv,ND,hok,h,hlv,fuel,listed,a,w,hl,hL,hf,iv=>by
  simp only[U8,aj]at hok
  have K:=Lg hb hok.1
  simp only[mY]at h
  split at h
  case h_2=>cases h
  rename_i tr vq hr
  split at h
  case h_2=>cases h
  rename_i n sl1 iT hs1
  have hs1:=rJ hs1
  split at h
  case h_2=>cases h
  rename_i sl hp vc h1 h2 h3
  split at h
  case h_2=>cases h
  rename_i zZ hn
  simp only[oI]at h
  have T:=ZF.of hr
  obtain⟨hx1,hx2⟩:=hlv (vc,⟨n0,sl,hp⟩) (by rw[←h];simp)
  have hmk:iI (fun j=>q.testBit j) tr s ops.length=⟨n,sl1,iT⟩:=by
   rw[hs1,BP,T.len]
   congr 1
   funext j;rw[eE]
  refine JK X T K (fun x hx hq _ p hp=>hx1 p (Dj h3 x (uu.2 (bG ⟨hx,hq⟩)) p hp)) ND (fun a w _ vi=> ?_) (fun fuel D listed i o a w _ _ _ _ _ ho hBi Fy _ _ _=> ?_) fuel (fun _=>false) listed a w hl (fun j hj=>by rw[hL j hj,BG]) (by simp) (by simp) (fun i o hi ho j hj=>by
    rcases hi with h|h
    ·exact bG (ND i o h ho j hj)
    ·cases h) hf (by rw[Hu];exact iv)
  ·rw[hmk]at vi
   exact hx2 a w (vi.weaken (av hn).symm (rK h1) (rL h2) zZ)
  ·exfalso
   have hil:=(aI.1 ho).1
   have:=bq.1 hok.2 i (bV.2 hil)
   rw[hBi,Fy]at this;cases this
 |0, .ph q c,hN,_,_,_,_,_,_,_,_,_,_,_,_,_,_,_,_,_,_,_=>by simp only[jS.ph.sizeOf_spec]at hN;omega
 |N+1, .ph q c,hN,_,B,s,tr0,vq0,acc,lv,ND,hok,h,hlv,fuel,listed,a,w,hl,hL,hf,iv=>by
  simp only[U8,aj,bp]at hok
  have K:=Lg hb hok.1.1.1
  obtain⟨d,t,sub,hm,hd,ht⟩:=R1 hok.1.1.2 K ND K.clq hok.1.2
  simp only[mY]at h
  split at h
  case h_2=>cases h
  rename_i tr vq hr
  have T:=ZF.of hr
  have hv: ∀x,x∈vq→q.testBit x.1=true→x.1<ops.length→ ∀p,p∈x.2→p:=by
   obtain⟨o,vc,s2,l1,h1,h2,h3,h4⟩:=s7 h d t sub hm
   obtain⟨p1,p2,p3,p4⟩:=yV hok.2 d t sub hm
   have hsz:lF sub≤N:=by simp only[jS.ph.sizeOf_spec]at hN;omega
   have hne:=Hw N sub hsz p1 (B|||d|||2^t) s2 [] [] _ l1 hb (Lh K ND (fun i o hi ho j hj=>by
    rw[hd i]at hi
    simp only[aj,decide_eq_true_eq]at hi
    rcases K.clq i o hi.1 ho j hj with h|h
    ·exact bG h
    ·exact bg (by rw[hd j,h];have:=K.back i o ho j hj;simp;omega)) ht) p3 h3
   cases l1 with
   |nil=>exact absurd rfl hne
   |cons x r=>
    intro y hy hq hyl p hp
    exact(hlv x (h4 x (by simp))).1 p (uw h3 x (by simp) y (xL.2 (bg (uu.2 (bG ⟨hy,by rw[hd y.1,hq];simp[hyl]⟩)))) p hp)
  refine JK X T K hv ND (fun a w hall _=> ?_) (fun fuel D listed i o a w hl hL wM hDm L8 ho hBi Fy hE abb vi=> ?_) fuel (fun _=>false) listed a w hl (fun j hj=>by rw[hL j hj,BG]) (by simp) (by simp) (fun i o hi ho j hj=>by
    rcases hi with h|h
    ·exact bG (ND i o h ho j hj)
    ·cases h) hf (by rw[Hu];exact iv)
  ·exfalso
   have:((bA ops.length).all fun i=>B.testBit i||q.testBit i)=true:=by
    rw[bq]
    intro i hi
    rw[dh]
    exact hall i (bV.1 hi)
   rw[hok.1.2]at this;cases this
  ·obtain⟨d,sub,hm,hd⟩:=JJ hok.1.1.2 K wM hDm L8 ho hBi Fy hE
   obtain⟨o',vc,s2,l1,h1,h2,h3,h4⟩:=s7 h d i sub hm
   rw[ho]at h1
   simp only[oI]at h1
   subst h1
   obtain⟨p1,p2,p3,p4⟩:=yV hok.2 d i sub hm
   have hsz:lF sub≤N:=by simp only[jS.ph.sizeOf_spec]at hN;omega
   have hmk:Ny d 0 tr s=iI D tr s ops.length:=by
    rw[BP,T.len]
    exact Dk fun j _=>by rw[eE];exact hd j
   rw[hmk]at h2
   have ahk:=Lh (d:=d) (t:=i) K ND (fun i o hi ho j hj=>by
    rw[hd i]at hi
    rw[hd j]
    exact L8 i o (bg hi) ho j hj) (fun o2 U7 j hj=>by
    rw[ho]at U7
    simp only[oI]at U7
    subst U7
    rw[hd j]
    exact hE j hj)
   have hne:=Hw N sub hsz p1 (B|||d|||2^i) s2 [] [] _ l1 hb ahk p3 h3
   have hvc: ∀p,p∈vc→p:=by
    cases l1 with
    |nil=>exact absurd rfl hne
    |cons x r=>
     intro p hp
     exact(hlv x (h4 x (by simp))).1 p (uw h3 x (by simp) (i,vc) (xL.2 (bG rfl)) p hp)
   have hstep:=KS (Q:=Q) X.kind X.one h2 vi hvc
   refine wo.mono (fun a' w' iv2=>NF X hb N sub hsz p1 (B|||d|||2^i) s2 [] [] _ l1 ahk p3 h3 (fun x hx=>hlv x (h4 x hx)) fuel (listed.setIfInBounds i true) a' w' (by simpa using hl) (fun j hj=> ?_) abb iv2) hstep
   have hin:=(aI.1 ho).1
   rw[M7 (by omega),hL j hj]
   simp only[o8,mG,hd j]
   by_cases hji:j=i
   ·subst hji;simp
   ·have: ¬i=j:=fun e=>hji e.symm
    simp[hji,this]
 |_, .br _ _ _ _,_,hp,_,_,_,_,_,_,_,_,_,_,_,_,_,_,_,_,_,_=>by cases hp
 |_, .nil,_,hp,_,_,_,_,_,_,_,_,_,_,_,_,_,_,_,_,_,_=>by cases hp
end
def JL(x:List Prop×St):List (List Prop×St)→Prop
 | []=>True
 |y::r=>y=x∧JL x r
theorem JL.out{x:List Prop×St}: ∀{l:List (List Prop×St)},JL x l→ ∀y,y∈l→y=x
 |_::_,h,y,hy=>by
  rcases aW.1 hy with rfl|hy
  ·exact h.1
  ·exact JL.out h.2 y hy
section
variable{P:Program}{Γ:Nat→TK}{zb:eJ}{Q:Post}{st:St}
theorem Xt(X:Ctx P ty Γ)(gL:List (Nat×Nat))(cr:List (Nat×CR))(ks hs:List Nat)(qs:Nat)(pl:jS){id:Nat}{ops:List Oper}{vc:List Prop}{st':St}{rest:List (List Prop×St)}(hm:P.follows .mixedOrders=true)(hc:aa9 ops qs pl=true)(h:mY P ty Γ gL cr ks hs ops st.n pl st [] [] []=some ((vc,st')::rest))(he:JL (vc,st') rest)(hv:qI vc)(k:Q .normal st'):
  W P ty zb (.region id ops.toArray true) Q st:=by
 intro a w iv
 simp only[aa9,aj]at hc
 have hb:=ahf hc.1.1
 refine wp_region_any hm ?_
 have hz: ∀i,(Array.replicate ops.toArray.size false).getD i false=false:=by
  intro i
  rw[aa,Array.getElem?_replicate]
  split<;>rfl
 refine NF (zb:=zb) (Q:=IJ ty zb Q) X hb _ pl (bh _) hc.1.2 0 st [] [] [] _ (fun i o hi=>by simp at hi) hc.2 h (fun x hx=> ?_) _ _ a _ (by simp) (fun j hj=>by rw[hz];simp) ?_ ?_
 ·have hx:x=(vc,st'):=by
   rcases aW.1 hx with rfl|hx
   ·rfl
   ·exact he.out x hx
  subst hx
  exact⟨hv.out,fun a w vi=>⟨st',vi,k⟩⟩
 ·unfold cnt
  refine dY (List.length_filter_le _ _) ?_
  simp
 ·obtain⟨env,g⟩:=iv.good
  have hdr:Below w.heap.size w w.drew:=(Below.refl _ _).drew
  refine⟨iv.size,iv.defers,iv.kept.trans (oB hdr iv.kept.size),iv.ID,env,?_⟩
  have:=g.grow (os:= []) (w':=w.drew) (env':=env) iv.kept.size rfl (oC.none hdr)
  exact this
end
section
variable{P:Program}{Γ:Nat→TK}{zb:eJ}{Q:Post}{st:St}
theorem Xu(X:Ctx P ty Γ)(gL:List (Nat×Nat))(cr:List (Nat×CR))(ks hs:List Nat)(qs:Nat)(pl:jS)(nw:Nat){id:Nat}{ops:List Oper}{vc:List Prop}{st':St}(hm:P.follows .mixedOrders=true)(hc:aa9 ops qs pl=true)(_h0:G.ZB P ty Γ gL cr ks hs ops st=some (vc,st'))(h:mY P ty Γ gL cr ks hs ops st.n pl st [] [] []=some ((vc,st')::ey nw (vc,st')))(hv:qI vc)(k:Q .normal st'):
  W P ty zb (.region id ops.toArray true) Q st:=by
 refine Xt X gL cr ks hs qs pl hm hc h ?_ hv k
 have: ∀n,JL (vc,st') (ey n (vc,st')):=by
  intro n
  induction n with
  |zero=>trivial
  |succ n ih=>exact⟨rfl,ih⟩
 exact this nw
def hasB(B:Nat)(es:List Nat):Bool:=es.all fun j=>B.testBit j
def mkQ(B qs:Nat):List (Nat×List Nat)→Nat→Nat
 | [],q=>q
 | (i,es)::r,q=>match !B.testBit i&&qs.testBit i&&hasB (B|||q) es with
   |true=>mkQ B qs r (q|||2^i)
   |false=>mkQ B qs r q
def enD(B q clt:Nat):List (Nat×List Nat)→Nat→List Nat
 | [],d=> [d]
 | (i,es)::r,d=>match q.testBit i with
   |false=>enD B q clt r d
   |true=>(match hasB (B|||d) es with|true=>enD B q clt r (d|||2^i)|false=> [])++(match clt.testBit i with|true=> []|false=>enD B q clt r d)
def mkB(f:Nat→jS)(B q:Nat)(E:List (Nat×List Nat))(cl:List Nat):List (Nat×List Nat)→jS
 | []=> .nil
 | (t,es)::r=>match(B|||q).testBit t with
   |true=>mkB f B q E cl r
   |false=>((enD B q (cl.getD t 0) E 0).filter fun d=>hasB (B|||d) es).foldr (fun d p=> .br d t (f (B|||d|||2^t)) p) (mkB f B q E cl r)
def mkP(E:List (Nat×List Nat))(cl:List Nat)(qs full:Nat):Nat→Nat→jS
 |0,_=> .nil
 |k+1,B=>match mkQ B qs E 0 with
  |q=>match bf (B|||q) full with
   |true=> .last q
   |false=> .ph q (mkB (mkP E cl qs full k) B q E cl E)
def Qd(ops:List Oper)(qs:Nat):jS:=mkP ((idx 0 ops).map fun e=>(e.1,eo e.2)) (KW ops) qs (2^ops.length-1) (ops.length+1) 0
theorem aZ(X:Ctx P ty Γ)(gL:List (Nat×Nat))(cr:List (Nat×CR))(ks hs:List Nat)(qs:Nat)(nw:Nat){id:Nat}{ops:List Oper}{vc:List Prop}{st':St}(hm:P.follows .mixedOrders=true)(hc:aa9 ops qs (Qd ops qs)=true)(h0:G.ZB P ty Γ gL cr ks hs ops st=some (vc,st'))(h:mY P ty Γ gL cr ks hs ops st.n (Qd ops qs) st [] [] []=some ((vc,st')::ey nw (vc,st')))(hv:qI vc)(k:Q .normal st'):
  W P ty zb (.region id ops.toArray true) Q st:=Xu X gL cr ks hs qs (Qd ops qs) nw hm hc h0 h hv k
end
end
section
variable{ty:Tag→Nat}
def NS(st:St)(n i:Nat):Option St:=match look st.hp n with
 |some (.box c)=>match A7 c i with
  |some (.own m)=>match look st.hp m with
   |some (.arr t l)=>match fHp ((n, .box (c.set i (.vw m none t l)))::st.hp.filter fun e=> !Nat.beq e.1 n)with
    |some hp=>some ⟨st.n,st.sl,hp⟩
    |none=>none
   |_=>none
  |_=>none
 |_=>none
theorem xP{α:Type}{hp:List (Nat×α)}{n m:Nat}(h:m≠n):look (hp.filter fun e=> !Nat.beq e.1 n) m=look hp m:=by
 induction hp with
 |nil=>rfl
 |cons e r ih=>
  obtain⟨j,x⟩:=e
  by_cases hj:j=n
  ·subst hj
   rw[ef (by simp),ih,bX h]
  ·have:bf j n=false:=by
    cases hb:bf j n with
    |false=>rfl
    |true=>exact absurd (av hb) hj
   rw[dc (by simp[this])]
   by_cases hm:m=j
   ·subst hm;rw[look_eq,look_eq]
   ·rw[bX hm,bX hm,ih]
theorem cO.set{α β:Type}{R:α→β→Prop}: ∀{as:List α} {bs:List β} {i:Nat} {x:α},cO R as bs→(∀y,bs[i]? =some y→R x y)→cO R (as.set i x) bs
 | [],[],_,_,_,_=>trivial
 |a::as,b::bs,0,x,h,hx=>⟨hx b rfl,h.2⟩
 |a::as,b::bs,i+1,x,h,hx=>⟨h.1,cO.set h.2 (fun y hy=>hx y (by simpa using hy))⟩
 | [],_::_,_,_,h,_=>h.elim
 |_::_,[],_,_,h,_=>h.elim
section
variable{P:Program}{zb:eJ}{st st':St}{Q:Post}
theorem Inv.NS{a:Act}{w:World}(n i:Nat)(h:G.NS st n i=some st')(iv:Inv ty zb st a w):Inv ty zb st' a w:=by
 unfold G.NS at h
 split at h
 case h_2=>cases h
 rename_i c hc
 split at h
 case h_2=>cases h
 rename_i m hm
 split at h
 case h_2=>cases h
 rename_i t l hl
 split at h
 case h_2=>cases h
 rename_i hp hf
 simp only[oI]at h
 subst h
 have hf:=KR hf
 obtain⟨env,g⟩:=iv.good
 have hmn:m≠n:=by rintro rfl;rw[hl]at hc;cases hc
 have hlk: ∀k o,look hp k=some o→(k=n∧o= .box (c.set i (.vw m none t l)))∨(k≠n∧look st.hp k=some o):=by
  intro k o hk
  rw[hf]at hk
  by_cases hkn:k=n
  ·subst hkn;rw[look_eq]at hk;simp only[oI]at hk;exact bG ⟨rfl,hk.symm⟩
  ·rw[bX hkn,xP hkn]at hk;exact bg ⟨hkn,hk⟩
 have hne: ∀k o,k≠n→look st.hp k=some o→look hp k=some o:=by
  intro k o hkn hk
  rw[hf,bX hkn,xP hkn];exact hk
 have hnn:look hp n=some (.box (c.set i (.vw m none t l))):=by rw[hf,look_eq]
 have s:Step (fun _=>True) (fun _=>True) w st.hp env w hp env:=by
  refine⟨fun _ _ _=>rfl,?_,?_,?_⟩
  ·rintro b _ ⟨k,o,h1,h2⟩
   rcases hlk k o h1 with⟨rfl,_⟩| ⟨_,h3⟩
   ·exact⟨_,_,hc,h2⟩
   ·exact⟨k,o,h3,h2⟩
  ·intro k o _ h1
   by_cases hkn:k=n
   ·subst hkn
    rw[hc]at h1
    simp only[oI]at h1
    subst h1
    exact⟨_,hnn,trivial,rfl⟩
   ·exact⟨o,hne k o hkn h1,by cases o<;>simp[Obj.like],rfl⟩
  ·intro k t' l' _ h1
   have hkn:k≠n:=by rintro rfl;rw[hc]at h1;cases h1
   exact⟨hne k _ hkn h1,rfl,fun _ _=>rfl⟩
 refine⟨iv.size,iv.defers,iv.kept,iv.ID,env,⟨fun k o hk=> ?_,fun k k' o o' hkk h1 h2=> ?_,fun t v hv=>sK.step s (fun v _=>v.gD) (g.slot t v hv),fun k o hk b hb=> ?_,g.pins⟩⟩
 ·rcases hlk k o hk with⟨rfl,rfl⟩| ⟨hkn,h3⟩
  ·obtain⟨b,cs,e,h1,h2,h3⟩:=g.obj _ _ hc
   refine⟨b,cs,e,h1,h2,cO.set (h3.mono fun x y _ hr=>RA.step s x.gD hr) fun y hy=> ?_⟩
   rw[Bf]at hm
   obtain⟨y',hy',hr⟩:=h3.at hm
   rw[hy]at hy'
   simp only[oI]at hy'
   subst hy'
   obtain⟨_,hu⟩:=hr
   have hro:=g.obj m _ hl
   have hlm:=hne m _ hmn hl
   refine⟨⟨t,l,hlm⟩,⟨(env m).fp,?_,(RO.own hro).nodup,fun _ h=>h⟩,by simp⟩
   rw[hu];exact RO.sl hro
  ·exact(g.obj k o h3).step s o.gD (fun _ _=>rfl)
 ·have: ∀k o,look hp k=some o→ ∃x,look st.hp k=some x:=by
   intro k o hk
   rcases hlk k o hk with⟨rfl,_⟩| ⟨_,h3⟩
   ·exact⟨_,hc⟩
   ·exact⟨_,h3⟩
  obtain⟨x,hx⟩:=this k o h1
  obtain⟨y,hy⟩:=this k' o' h2
  exact g.lR k k' x y hkk hx hy
 ·rcases hlk k o hk with⟨rfl,_⟩| ⟨_,h3⟩
  ·exact g.dom _ _ hc b hb
  ·exact g.dom k o h3 b hb
theorem XE{c:Code}(n i:Nat)(h:G.NS st n i=some st')(k:W P ty zb c Q st'):W P ty zb c Q st:=fun a w iv=>k a w (iv.NS n i h)
end
end
section
variable{ty:Tag→Nat}
def zP(a b n:Nat):Nat:=match bf n a,bf n b with
 |true,_=>b
 |false,true=>a
 |false,false=>n
def V.sw(a b:Nat):V→V
 | .own n=> .own (zP a b n)
 | .ptr n o=> .ptr (zP a b n) o
 | .rj n i o=> .rj (zP a b n) i o
 | .vw n p t l=> .vw (zP a b n) p t l
 | .Iq n p t x o=> .Iq (zP a b n) p t x o
 | .Ir n t l=> .Ir (zP a b n) t l
 | .Fi f n=> .Fi f (zP a b n)
 | .mix n c t l=> .mix (zP a b n) c t l
 | .yC n=> .yC (zP a b n)
 |v=>v
def S1.sw(a b:Nat):S1→S1
 | .a v=> .a (v.sw a b)
 | .agg l=> .agg (l.map (V.sw a b))
def SV.sw(a b:Nat):SV→SV
 | .one x=> .one (x.sw a b)
 | .zH l=> .zH (l.map (S1.sw a b))
 | .cond p x=> .cond p (x.sw a b)
def uM.sw(a b:Nat):uM→uM
 | .of n=> .of (zP a b n)
 | .zg _=> .zg none
 |s=>s
def Obj.sw(a b:Nat):Obj→Obj
 | .box c=> .box (c.map (V.sw a b))
 | .arr t l=> .arr t l
 | .jc t l s=> .jc t l (s.sw a b)
def Uq(a b:Nat)(hp:Hp):Hp:=hp.map fun e=>(zP a b e.1,e.2.sw a b)
def XU(st:St)(a b:Nat):Option St:=match ng a,ng b,soft a,soft b with
 |false,false,false,false=>TI ⟨st.n,st.sl.map fun e=>(e.1,e.2.sw a b),Uq a b st.hp⟩
 |_,_,_,_=>none
theorem Qm(a b n:Nat):zP a b n=if n=a then b else if n=b then a else n:=by
 unfold zP
 by_cases h1:n=a
 ·subst h1;rw[if_pos rfl,iA]
 ·have e1:bf n a=false:=by
   cases h:bf n a with
   |false=>rfl
   |true=>exact absurd (av h) h1
  rw[if_neg h1,e1]
  by_cases h2:n=b
  ·subst h2;rw[if_pos rfl,iA]
  ·have e2:bf n b=false:=by
    cases h:bf n b with
    |false=>rfl
    |true=>exact absurd (av h) h2
   rw[if_neg h2,e2]
theorem tj(a b n:Nat):zP a b (zP a b n)=n:=by
 simp only[Qm]
 by_cases h1:n=a
 ·subst h1;simp only[if_true]
  by_cases h2:b=n
  ·rw[if_pos h2,h2]
  ·rw[if_neg h2]
 ·by_cases h2:n=b
  ·subst h2;simp[h1]
  ·simp[h1,h2]
theorem abk{a b n m:Nat}(h:zP a b n=zP a b m):n=m:=by
 have:=congrArg (zP a b) h
 rwa [tj,tj]at this
theorem uB(a b:Nat): ∀(hp:Hp) (n:Nat),look (Uq a b hp) n=(look hp (zP a b n)).map (Obj.sw a b)
 | [],n=>rfl
 | (j,x)::r,n=>by
   show look ((zP a b j,x.sw a b)::Uq a b r) n=_
   by_cases h:n=zP a b j
   ·subst h
    rw[look_eq,tj,look_eq];rfl
   ·rw[bX h,uB a b r n,bX]
    intro e
    exact h (by rw[←e,tj])
section
variable{w:World}{hp:Hp}{env:Env}{a b:Nat}
theorem tq{n:Nat}{t:Tag}{l:List (T t)}(h:look hp n=some (.arr t l)):look (Uq a b hp) (zP a b n)=some (.arr t l):=by
 rw[uB,tj,h];rfl
theorem Sf{n:Nat}{c:List V}(h:look hp n=some (.box c)):look (Uq a b hp) (zP a b n)=some (.box (c.map (V.sw a b))):=by
 rw[uB,tj,h];rfl
def XV(a b:Nat)(env:Env):Env:=fun n=>env (zP a b n)
theorem oV(n:Nat):XV a b env (zP a b n)=env n:=by unfold XV;rw[tj]
theorem vH{x:Nat}(h:Ow (Uq a b hp) (XV a b env) x):Ow hp env x:=by
 obtain⟨n,o,h1,h2⟩:=h
 rw[uB]at h1
 cases hq:look hp (zP a b n)with
 |none=>rw[hq]at h1;cases h1
 |some o'=>exact⟨_,_,hq,h2⟩
theorem RV.sw{n:Nat}{p:Option (Nat×Nat)}{t:Tag}{l:List (T t)}{u:Value}(h:RV w hp env n p t l u):RV w (Uq a b hp) (XV a b env) (zP a b n) p t l u:=by
 obtain⟨⟨t1,l1,h1⟩,⟨fp,h2,h3,h4⟩,h5⟩:=h
 refine⟨⟨t1,l1,tq h1⟩,⟨fp,h2,h3,by rw[oV];exact h4⟩,fun i off kg=> ?_⟩
 obtain⟨t0,l0,b0,o,len,cap,q1,q2,q3,q4,q5,q6⟩:=h5 i off kg
 exact⟨t0,l0,b0,o,len,cap,tq q1,q2,q3,by rw[oV];exact q4,by rw[oV];exact q5,q6⟩
theorem RA.sw{v:V}{u:Value}(h:RA w hp env v u):RA w (Uq a b hp) (XV a b env) (v.sw a b) u:=by
 cases v with
 |any=>trivial
 |lit v=>exact h
 |zf k=>exact h
 |raw v=>exact h
 |vO v t l=>obtain⟨hu,fp,h1,h2⟩:=h;exact⟨hu,fp,h1,fun x hx ho=>h2 x hx (vH ho)⟩
 |sl t l=>obtain⟨fp,h1,h2⟩:=h;exact⟨fp,h1,fun x hx ho=>h2 x hx (vH ho)⟩
 |ip t x off=>obtain⟨b',o,cs,fp,h1,h2,h3,h4,h5,h6⟩:=h;exact⟨b',o,cs,fp,h1,h2,h3,h4,fun ho=>h5 (vH ho),fun c hc ho=>h6 c hc (vH ho)⟩
 |own n=>obtain⟨⟨t,l,hl⟩,hu⟩:=h;exact⟨⟨t,l,tq hl⟩,by rw[oV];exact hu⟩
 |ptr n off=>obtain⟨⟨c,hl⟩,b',h1,h2⟩:=h;exact⟨⟨_,Sf hl⟩,b',by rw[oV];exact h1,h2⟩
 |Fi f n=>obtain⟨⟨c,hl⟩,b',h1,h2⟩:=h;exact⟨⟨_,Sf hl⟩,b',by rw[oV];exact h1,h2⟩
 |rj n i off=>obtain⟨t,l,hl,b',o,len,cap,h1,h2⟩:=h;exact⟨t,l,tq hl,b',o,len,cap,by rw[oV];exact h1,h2⟩
 |vw n p t l=>exact RV.sw h
 |Ir n t l=>
  obtain⟨⟨t1,l1,h1⟩,b',fp,h2,h3,h4,h5⟩:=h
  exact⟨⟨t1,l1,tq h1⟩,b',fp,h2,fun ho=>h3 (vH ho),h4,by rw[oV];exact h5⟩
 |yC n=>
  obtain⟨⟨t,l,s,hl⟩,hu⟩:=h
  exact⟨⟨t,l,s.sw a b,by rw[uB,tj,hl];rfl⟩,by rw[oV];exact hu⟩
 |mix n c t l=>
  obtain⟨⟨t1,l1,h1⟩,⟨fp,h2,h3⟩,h4⟩:=h
  exact⟨⟨t1,l1,tq h1⟩,⟨fp,h2,fun x hx=>(h3 x hx).imp (fun q=>by rw[oV];exact q) (fun q ho=>q (vH ho))⟩,h4⟩
 |Iq n p t x off=>
  obtain⟨⟨t1,l1,h1⟩,b',o,cs,fp,h2,h3,h4,h5,h6,h7,h8⟩:=h
  refine⟨⟨t1,l1,tq h1⟩,b',o,cs,fp,h2,by rw[oV];exact h3,h4,h5,h6,by rw[oV];exact h7,fun i o2 j kg=> ?_⟩
  obtain⟨l2,u0,b0,tF,len,cap,q1,q2,q3,q4,q5⟩:=h8 i o2 j kg
  exact⟨l2,u0,b0,tF,len,cap,q1.sw,q2,q3,q4,q5⟩
theorem ji.sw{x:S1}{u:Value}(h:ji w hp env x u):ji w (Uq a b hp) (XV a b env) (x.sw a b) u:=by
 cases x with
 |a v=>exact RA.sw h
 |agg l=>obtain⟨cs,h1,h2⟩:=h;exact⟨cs,h1,h2.map fun _ _ q=>RA.sw q⟩
theorem sK.sw{tmps:Array Value}{x:SV}{u:Value}(h:sK w hp env tmps x u):sK w (Uq a b hp) (XV a b env) tmps (x.sw a b) u:=by
 cases x with
 |one x=>exact ji.sw h
 |zH l=>obtain⟨us,h1,h2⟩:=h;exact⟨us,h1,h2.map fun _ _ q=>ji.sw q⟩
 |cond p x=>exact⟨fun q=>ji.sw (h.1 q),h.2⟩
theorem BE.sw{s:uM}{t:Tag}{x:T t}{u:Value}(h:BE w hp env s t x u):BE w (Uq a b hp) (XV a b env) (s.sw a b) t x u:=by
 cases s with
 |gone=>trivial
 |mp=>trivial
 |L4 u=>trivial
 |zg p=>trivial
 |rm=>obtain⟨f,h1,h2⟩:=h;exact⟨f,h1,fun c hc ho=>h2 c hc (vH ho)⟩
 |of n=>
  obtain⟨⟨t1,l1,h1⟩,f,h2,h3⟩:=h
  exact⟨⟨t1,l1,tq h1⟩,f,h2,fun c hc=>(h3 c hc).imp (fun q=>by rw[oV];exact q) (fun q ho=>q (vH ho))⟩
end
theorem XW{a b n:Nat}{p:Nat→Bool}(ha:p a=false)(hb:p b=false):p (zP a b n)=p n:=by
 rw[Qm]
 split
 ·rename_i h;subst h;rw[ha,hb]
 ·split
  ·rename_i h;subst h;rw[ha,hb]
  ·rfl
theorem abl{a b n:Nat}(ha:ng a=false)(hb:ng b=false)(h:ng n=true):zP a b n=n:=by
 rw[Qm]
 split
 ·rename_i h1;subst h1;rw[ha]at h;cases h
 ·split
  ·rename_i h1;subst h1;rw[hb]at h;cases h
  ·rfl
theorem XX{zb:eJ}{st st':St}{a b:Nat}(h:XU st a b=some st'){c:Act}{w:World}(iv:Inv ty zb st c w):Inv ty zb st' c w:=by
 obtain⟨env,g⟩:=iv.good
 unfold XU at h
 split at h
 case h_2=>cases h
 rename_i hpa hpb hsa hsb
 have h:=rJ h
 subst h
 have hlk: ∀n o,look (Uq a b st.hp) n=some o→ ∃o0,look st.hp (zP a b n)=some o0∧o=o0.sw a b:=by
  intro n o hl
  rw[uB]at hl
  cases hq:look st.hp (zP a b n)with
  |none=>rw[hq]at hl;cases hl
  |some o0=>rw[hq]at hl;simp only[dz,oI]at hl;exact⟨o0,rfl,hl.symm⟩
 refine⟨iv.size,iv.defers,iv.kept,iv.ID,XV a b env,⟨fun n o hl=> ?_,fun n m o o' hne h1 h2=> ?_,fun s v hs=> ?_,fun n o hl=> ?_,fun n hn=> ?_⟩⟩
 ·obtain⟨o0,h1,rfl⟩:=hlk n o hl
  have hro:=g.obj _ _ h1
  show RO ty w (Uq a b st.hp) (XV a b env) n (o0.sw a b) (env (zP a b n))
  cases o0 with
  |arr t l=>exact Rf (fun q=>by rw[XW hsa hsb]at q;exact q) hro
  |box l=>
   obtain⟨x,cs,e,q1,q2,q3⟩:=hro
   exact⟨x,cs,e,q1,q2,q3.map fun _ _ q=>RA.sw q⟩
  |jc t l s=>
   rcases RO.Gh hro with⟨rfl,h⟩| ⟨u,rfl,h1,h2,fp,h3,h4⟩| ⟨p,rfl,h⟩| ⟨hr,q1,us,q2,q3,q4⟩
   ·exact h
   ·exact⟨h1,h2,fp,h3,h4.imp id fun⟨c,e1,e2⟩=>⟨c,e1,fun ho=>e2 (vH ho)⟩⟩
   ·exact⟨h.1,h.2.1,fun _ _ _ e=>by cases e⟩
   ·exact RO.Tl (by cases s<;>first|exact hr.elim|trivial) ⟨q1,us,q2,q3,fun i x u hx hu=>(q4 i x u hx hu).sw⟩
 ·obtain⟨o1,q1,_⟩:=hlk n o h1
  obtain⟨o2,q2,_⟩:=hlk m o' h2
  exact g.lR _ _ _ _ (fun e=>hne (abk e)) q1 q2
 ·replace hs:look (st.sl.map fun e=>(e.1,e.2.sw a b)) s=some v:=hs
  rw[ny (α:=SV) (f:=fun e:Nat×SV=>e.2.sw a b)]at hs
  cases hq:look st.sl s with
  |none=>rw[hq]at hs;cases hs
  |some v0=>
   rw[hq]at hs
   simp only[dz,oI]at hs
   subst hs
   exact sK.sw (g.slot s v0 hq)
 ·obtain⟨o0,h1,_⟩:=hlk n o hl
  exact g.dom _ _ h1
 ·have hq:=g.pins n hn
  unfold XV
  rw[abl hpa hpb hn]
  exact hq
theorem FF{P:Program}{zb:eJ}{Q:Post}{st st':St}{c:Code}(a b:Nat)(h:XU st a b=some st')(k:W P ty zb c Q st'):W P ty zb c Q st:=fun x w iv=>k x w (XX h iv)
end
section
variable{ty:Tag→Nat}
def toBrr(st:St)(s m:Nat)(r:uM):Option St:=match look st.sl s,mo s st.n with
 |some (.one (.a (.own n))),true=>match look st.hp n,pinned [n],ng m,look (dQ [n] [] st.hp) m with
  |some (.arr t []),false,false,none=>match bf (kk t) 1 with
   |true=>TI ((⟨st.n,st.sl.map fun e=>(e.1,e.2.cM [n] []),agH st.hp n m t [] r⟩:St).put (some s) (.one (.a (.yC m))))
   |false=>none
  |_,_,_,_=>none
 |_,_=>none
theorem toBrr_ok{zb:eJ}{st st':St}{s m:Nat}{r:uM}(hr:r.br)(h:toBrr st s m r=some st'){a:Act}{w:World}(iv:Inv ty zb st a w):Inv ty zb st' a w:=by
 obtain⟨env,g⟩:=iv.good
 have hB:=iv.kept.size
 unfold toBrr at h
 split at h
 case h_2=>cases h
 rename_i n hs hlt
 split at h
 case h_2=>cases h
 rename_i t hl hpk Gw hlk
 split at h
 case h_2=>cases h
 rename_i hk1
 have hk1:=av hk1
 have h:=rJ h
 have hsf:soft n=false:=rF hpk (by simp)
 have hb:=RO.Zr hsf (g.obj n _ hl)
 have Ec: ∀b,(env n).v.ownBlock=some b→b∈(env n).fp:=by
  intro b hb'
  obtain⟨xs,cu,_,_,_,iV,_⟩:=hb
  rw[iV,hb'];simp
 have hbE:lP 1 VJ 0 (ty t) w (env n).v ([]:List Value) (env n).fp:=by
  obtain⟨xs,cu,q1,q2,q3,q4,q5⟩:=hb
  obtain rfl:cu= []:=List.length_eq_zero_iff.1 q2
  exact⟨xs,[],by rw[hk1]at q1;exact q1,rfl,fun i x f hx=>by simp at hx,q4,q5⟩
 obtain⟨env',hg',GB,_,_⟩:=CP (ty:=ty) g hB (ks:= [n]) hpk Gw hlk (v:=(env n).v) (v':=(env n).v) (w':=w) (ob:= .jc t [] r) (fp:=(env n).fp) (fx:= []) (je:=(env n).fp) (by
  intro b hb
  rw[cW]at hb
  exact⟨n,_,by simp,hl,hb⟩) Ec (fun ai8 hd s2=>RO.Tl hr ⟨hk1,[],hbE,rfl,fun i x u hx=>by simp at hx⟩) ⟨rfl,rfl,rfl,bh _,fun _ _ _=>rfl⟩ (fun b hb=>bG hb)
 have hlt:s<a.tmps.size:=by rw[iv.size];exact bT hlt
 obtain⟨_,hu⟩:=g.slot s _ hs
 have gp:=hg'.put hlt (v:= .one (.a (.yC m))) (u:=a.tmps.getD s undef) ⟨⟨t,[],_,look_eq⟩,by rw[GB];exact hu⟩ rfl
 have e:a.tmps.setIfInBounds s (a.tmps.getD s undef)=a.tmps:=by
  rw[aa,lX hlt]
  apply Xp
  ·simp
  ·intro i h1 h2
   rw[rV]
   split
   ·rename_i hi;subst hi;rfl
   ·rfl
 rw[e]at gp
 rw[h]
 exact⟨by rw[Bj];exact iv.size,iv.defers,iv.kept,iv.ID,env',gp⟩
theorem NZ{P:Program}{zb:eJ}{Q:Post}{st st':St}{c:Code}(s m:Nat)(h:G.toBrr st s m .rm=some st')(k:W P ty zb c Q st'):W P ty zb c Q st:=fun a w iv=>k a w (toBrr_ok (by trivial) h iv)
end
end Go.Proofs.YtkcegdacbddipaaGreat.G
