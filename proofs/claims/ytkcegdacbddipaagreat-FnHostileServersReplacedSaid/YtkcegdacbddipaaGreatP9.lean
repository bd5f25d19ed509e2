/-
  Regions whose guards are known.
-/
import Derived.Orders
import Derived.Test.YtkcegdacbddipaaGreatP8
open Array renaming all_eq_true_iff_forall_mem→oQ,ext→YX,getD_eq_getD_getElem?→aa,getElem?_eq_getElem→mF,getElem?_setIfInBounds_ne→fL,getElem?_setIfInBounds_self_of_lt→hJ,getElem_setIfInBounds→sS,mem_toList_iff→zY,toList_append→AV
open Bool renaming and_eq_true→ak,not_eq_true'→bq,or_eq_false_iff→gB,or_eq_true→c8,or_false→Ck
open Go.Op renaming equal→LH,equalIn→DK,operands→cD,slice→L3
open Go.Region renaming binds→Of,ready→tQ,wanted→gU
open List renaming all_eq_true→bw,any_eq_false→bR,any_eq_true→eZ,append_nil→cS,drop_zero→eS,filter_cons_of_neg→ey,filter_cons_of_pos→dx,flatten_cons→bQ,foldl_cons→cK,getD_eq_getElem?_getD→an,getElem?_cons_succ→ku,getElem?_eq_getElem→au,getElem?_eq_some_iff→aI,getElem?_toArray→lH,length_cons→b9,length_nil→fF,mem_append→aL,mem_append_left→aN,mem_append_right→aH,mem_cons→bh,mem_cons_of_mem→aK,mem_filter→sH,mem_filterMap→tR,mem_map→cq,mem_range→cm,mem_singleton→aR,nil_append→eM,nodup_append→bf,range→bD,replicate→eF,take_zero→mH
open List.cons renaming injEq→cC
open Nat renaming add_zero→jE,beq→aU,beq_refl→gZ,blt→mP,eq_of_beq_eq_true→ay,le_of_ble_eq_true→bX,le_refl→aZ,le_trans→dy,lt_trans→yE,strongRecOn→lJ,testBit_or→p7,testBit_two_pow→m7,zero_add→dZ,zero_le→aD
open Option renaming getD_some→mS,map_some→dI
open Or renaming inl→bI,inr→bn
open SizeOf renaming sizeOf→l7
namespace Go.Proofs.YtkcegdacbddipaaGreat.G
set_option linter.all false
open Go.RowKit L D
section
variable{ty:Tag→Nat}
structure TE where
 d:Nat
 v:SV
 os:Hp
def app(s:St)(e:TE):St:=⟨s.n,(e.d,e.v)::s.sl,e.os++s.hp⟩
def ez(o:Oper):List Nat:=o.after.toList.filterMap fun e=>if Of .any e then some e.on else none
def l5(acc:List Nat)(o:Oper):List Nat:=acc++ [(ez o).foldl (fun s j=>s|||2^j|||acc.getD j 0) 0]
def L1(ops:List Oper):List Nat:=ops.foldl l5 []
def tmpsOf(o:Oper):List Nat:=o.op.operands.toList.filterMap fun| .tmp t=>some t|_=>none
def SL(o:Oper)(t:Nat):Bool:=match o.dst with|some d=>aU d t|none=>false
def idx{α:Type}:Nat→List α→List (Nat×α)
 |_,[]=> []
 |i,x::r=>(i,x)::idx (i+1) r
end
section
variable{ty:Tag→Nat}
def Compat(hp kY:Hp):Prop:= ∀n o o',look hp n=some o→look kY n=some o'→o=o'
section
variable{zb:eK}{st T:St}{a:Act}{w:World}{env:Env}
theorem Og(c:Compat st.hp T.hp){tg:Option Tag}{v x:V}{u:Value}(hr:RA w T.hp env v u)(h:sj st tg v=some x):sj T tg v=some x:=by
 cases v with
 |own n=>
  obtain⟨⟨t,l,hl⟩,_⟩:=hr
  simp only[sj]at h ⊢
  split at h
  ·rename_i t' l' hl'
   have:=c n _ _ hl' hl
   simp only[Obj.arr.injEq]at this
   obtain⟨rfl,oO⟩:=this
   rw[hl]
   simp only[←eq_of_heq oO]
   exact h
  ·cases h
 |sl t l=>exact h
 |vw n p t l=>exact h
 |mix n c t l=>exact h
 |zn n=>
  obtain⟨⟨t,l,s,hl⟩,_⟩:=hr
  simp only[sj]at h ⊢
  split at h
  ·rename_i t' l' hl'
   have:=c n _ _ hl' hl
   rw[←this]at hl
   rw[hl];exact h
  ·rename_i t' l' m hl'
   have:=c n _ _ hl' hl
   rw[←this]at hl
   rw[hl];exact h
  ·cases h
 |lit v=>
  have e:sj T tg (.lit v)=sj st tg (.lit v):=by
   cases v with
   |slice a n c=>cases a<;>cases n<;>cases c<;>rfl
   |_=>rfl
  rw[e];exact h
 |_=>simp[sj]at h
theorem KB(c:Compat st.hp T.hp): ∀{vs:List V} {tg:List (Option Tag)} {xs:List V} {us:List Value},cT (RA w T.hp env) vs us→Nw st tg vs=some xs→Nw T tg vs=some xs
 | [],_,xs,us,_,h=>h
 |v::r,tg,xs,us,hr,h=>by
  cases us with
  |nil=>exact hr.elim
  |cons u us=>
   simp only[Nw]at h ⊢
   split at h
   ·rename_i x y h1 h2
    rw[Og c hr.1 h1,KB c hr.2 h2]
    exact h
   ·cases h
theorem U9(c:Compat st.hp T.hp){k:TK}{v x:S1}{u:Value}(hr:ju w T.hp env v u)(h:arg1 st k v=some x):arg1 T k v=some x:=by
 cases v with
 |a v=>
  simp only[arg1]at h ⊢
  split at h
  ·rename_i y hy
   rw[Og c hr hy]
   exact h
  ·cases h
 |agg l=>
  obtain⟨cs,_,hl⟩:=hr
  simp only[arg1]at h ⊢
  split at h
  ·rename_i y hy
   rw[KB c hl hy]
   exact h
  ·cases h
theorem Ch{p:List (Nat×Bool)}{x:Operand}(hs: ∀t,x= .tmp t→look st.sl t=look T.sl t):P6 st p x=P6 T p x:=by
 cases x with
 |tmp t=>simp only[P6,hs t rfl]
 |_=>rfl
theorem HU{p:List (Nat×Bool)}{x:Operand}(hs: ∀t,x= .tmp t→look st.sl t=look T.sl t):jH st p x=jH T p x:=by
 unfold jH
 rw[Ch hs]
theorem Va{b:Bool}(c:Compat st.hp T.hp){k:TK}{v x:S1}{u:Value}(hr:ju w T.hp env v u)(h:UH b st k v=some x):UH b T k v=some x:=by
 unfold UH at h ⊢
 split at h
 ·exact h
 ·exact U9 c hr h
theorem DT{b:Bool}{Γ:Nat→TK}(c:Compat st.hp T.hp)(g:Good ty zb T a.tmps w env){p:List (Nat×Bool)}(hp:holds a.tmps p): ∀{xs:List Operand} {ts:List Nat} {as:List S1},(∀x,x∈xs→ ∀t,x= .tmp t→look st.sl t=look T.sl t)→args b Γ st p xs ts=some as→args b Γ T p xs ts=some as
 | [],_,as,_,h=>h
 |x::r,ts,as,hs,h=>by
  simp only[args]at h ⊢
  rw[←HU (st:=st) (T:=T) (hs x (by simp))]
  split at h
  ·rename_i v hv
   split at h
   ·rename_i y ys h1 h2
    have hr:=gG g hp (by rw[←HU (hs x (by simp))];exact hv)
    rw[Va c hr h1,DT c g hp (fun z hz=>hs z (aK _ hz)) h2]
    exact h
   ·cases h
  ·cases h
theorem Q1(c:Compat st.hp T.hp){k:TK}{v:V}{u:Value}{n:Int}(hr:RA w T.hp env v u)(h:lenOf st k v=some n):lenOf T k v=some n:=by
 cases v with
 |own m=>
  obtain⟨⟨t,l,hl⟩,_⟩:=hr
  simp only[lenOf]at h ⊢
  split at h
  ·split at h
   ·rename_i t' l' hl'
    have:=c m _ _ hl' hl
    simp only[Obj.arr.injEq]at this
    obtain⟨rfl,oO⟩:=this
    rw[hl]
    simp only[←eq_of_heq oO]
    exact h
   ·cases h
  ·cases h
 |sl t l=>exact h
 |vw n p t l=>exact h
 |lit v=>
  have e:lenOf T k (.lit v)=lenOf st k (.lit v):=by
   cases v with
   |slice a n c=>cases a<;>cases n<;>cases c<;>rfl
   |_=>rfl
  rw[e];exact h
 |_=>simp[lenOf]at h
theorem L2(c:Compat st.hp T.hp){v:V}{u:Value}(hr:RA w T.hp env v u){l:List UInt8}(h:bytesOf st v=some l):bytesOf T v=some l:=by
 cases v with
 |own n=>
  obtain⟨⟨t,l2,ru⟩,_⟩:=hr
  simp only[bytesOf]at h ⊢
  split at h
  ·rename_i l3 XO
   simp only[oI]at h
   subst h
   have:=c n _ _ XO ru
   simp only[Obj.arr.injEq]at this
   obtain⟨rfl,oO⟩:=this
   rw[ru]
   simp only[eq_of_heq oO]
  ·cases h
 |sl t l=>
  have e:bytesOf T (.sl t l)=bytesOf st (.sl t l):=by cases t<;>rfl
  rw[e];exact h
 |vw n p t l=>
  have e:bytesOf T (.vw n p t l)=bytesOf st (.vw n p t l):=by cases t<;>rfl
  rw[e];exact h
 |lit v=>
  have e:bytesOf T (.lit v)=bytesOf st (.lit v):=by
   cases v with
   |slice a n c=>cases a<;>cases n<;>cases c<;>rfl
   |_=>rfl
  rw[e];exact h
 |_=>simp[bytesOf]at h
theorem Fj{p:List (Nat×Bool)}{g:Tag}: ∀{xs:List (Nat×Operand)} {i:Nat},(∀x,x∈xs→jH st p x.2=jH T p x.2)→ur st p g i xs=ur T p g i xs
 | [],_,_=>rfl
 | (j,x)::r,i,h=>by
   simp only[ur]
   rw[h (j,x) (by simp),Fj (fun y hy=>h y (aK _ hy))]
theorem HV{p:List (Nat×Bool)}{n:Nat}{fo:List Nat}: ∀{xs:List (Nat×Operand)} {c:List V},(∀x,x∈xs→P6 st p x.2=P6 T p x.2)→wK st p n fo xs c=wK T p n fo xs c
 | [],_,_=>rfl
 | (j,x)::r,c,h=>by
   simp only[wK]
   rw[h (j,x) (by simp)]
   have: ∀c',wK st p n fo r c'=wK T p n fo r c':=fun c'=>HV (fun y hy=>h y (aK _ hy))
   simp only[this]
theorem AU{p:List (Nat×Bool)}: ∀{xs:List Operand},(∀x,x∈xs→jH st p x=jH T p x)→BK st p xs=BK T p xs
 | [],_=>rfl
 |x::r,h=>by
  simp only[BK,UI]
  rw[h x (by simp),AU (fun y hy=>h y (aK _ hy))]
theorem zF(c:Compat st.hp T.hp){v:V}{u:Value}(hr:RA w T.hp env v u){n:Nat}(hn:v.name=some n){o:Obj}(h:look st.hp n=some o):look T.hp n=some o:=by
 have: ∃o',look T.hp n=some o':=by
  cases v<;>simp only[V.name,oI,reduceCtorEq]at hn
  case own m=>subst hn;obtain⟨⟨t,l,hl⟩,_⟩:=hr;exact⟨_,hl⟩
  case ptr m off=>subst hn;obtain⟨⟨c,hl⟩,_⟩:=hr;exact⟨_,hl⟩
  case rZ m i off=>subst hn;obtain⟨t,l,hl,_⟩:=hr;exact⟨_,hl⟩
  case vw m p t l=>subst hn;obtain⟨⟨t,l,hl⟩,_⟩:=hr;exact⟨_,hl⟩
  case Jw m t l=>subst hn;obtain⟨⟨t,l,hl⟩,_⟩:=hr;exact⟨_,hl⟩
  case mix m c t l=>subst hn;obtain⟨⟨t,l,hl⟩,_⟩:=hr;exact⟨_,hl⟩
  case zn m=>subst hn;obtain⟨⟨t,l,s,hl⟩,_⟩:=hr;exact⟨_,hl⟩
  case Gi f m=>subst hn;obtain⟨⟨c,hl⟩,_⟩:=hr;exact⟨_,hl⟩
  case Jv m p t x off=>subst hn;obtain⟨⟨t,l,hl⟩,_⟩:=hr;exact⟨_,hl⟩
 obtain⟨o',h'⟩:=this
 rw[c n _ _ h h'];exact h'
theorem DU(c:Compat st.hp T.hp): ∀{l d:List V} {n:Nat} {us:List Value},cT (RA w T.hp env) l us→AK st.hp l=some (d,n)→AK T.hp l=some (d,n)
 | [],_,_,_,_,h=>by simp[AK]at h
 |v::r,d,n,us,hr,h=>by
  cases us with
  |nil=>exact hr.elim
  |cons u us=>
   unfold AK at h
   split at h
   ·rename_i m r' he
    simp only[cC]at he
    obtain⟨rfl,rfl⟩:=he
    split at h
    ·rename_i t l hl sr
     have:=zF c hr.1 (n:=m) rfl hl
     simp only[AK,this,sr]
     exact h
    ·cases h
   ·rename_i m pp t l r' he
    simp only[cC]at he
    obtain⟨rfl,rfl⟩:=he
    split at h
    ·rename_i t0 l0 hl sr
     have:=zF c hr.1 (n:=m) rfl hl
     simp only[AK,this,sr]
     exact h
    ·cases h
   ·cases h
   ·rename_i x r' Qa he
    simp only[cC]at he
    obtain⟨rfl,rfl⟩:=he
    split at h
    ·rename_i c' n' h'
     have:=DU c hr.2 h'
     unfold AK
     split
     ·rename_i e;simp at e
     ·rename_i e;simp at e
     ·rename_i e;simp only[cC,V.lit.injEq]at e;exact absurd e.1 (by rintro rfl;exact Qa _ _ _ rfl)
     ·rename_i e
      simp only[cC,V.lit.injEq]at e
      obtain⟨rfl,rfl⟩:=e
      rw[this];exact h
     ·rename_i e1 e2 e3;exact absurd rfl (e3 _ _)
    ·cases h
   ·cases h
theorem quiet_mono{Γ:Nat→TK}{E:Tag→Nat→Prop}{S:FuncId→List S1→List S1→Prop}(c:Compat st.hp T.hp)(g:Good ty zb T a.tmps w env){p:List (Nat×Bool)}(hp:holds a.tmps p){cr:List (Nat×CR)}{d m:Nat}{op:Op}{out:Out}
  (hs: ∀x,x∈op.operands.toList→ ∀t,x= .tmp t→look st.sl t=look T.sl t)(h:quiet Γ E S cr st p d m op=some out):quiet Γ E S cr T p d m op=some out:=by
 have ho: ∀{q x},x∈op.operands.toList→jH st q x=jH T q x:=fun hx=>HU (hs _ hx)
 have hr: ∀{x v},x∈op.operands.toList→jH st p x=some v→ju w T.hp env v (a.eval x):=fun hx hv=>gG g hp (by rw[←ho hx];exact hv)
 have rn: ∀{x v n o},x∈op.operands.toList→jH st p x=some (.a v)→v.name=some n→look st.hp n=some o→look T.hp n=some o:=fun hx hv hn hl=>zF c (hr hx hv) hn hl
 cases op with
 |move x=>
  have hm:Xk st x=Xk T x:=by
   cases x with
   |tmp t=>simp only[Xk];rw[hs (.tmp t) (by simp[cD]) t rfl]
   |_=>rfl
  simp only[quiet]at h ⊢;rw[←Ch (st:=st) (hs x (by simp[cD])), ←hm];exact h
 |assign x=>
  have hm:Xk st x=Xk T x:=by
   cases x with
   |tmp t=>simp only[Xk];rw[hs (.tmp t) (by simp[cD]) t rfl]
   |_=>rfl
  simp only[quiet]at h ⊢;rw[←Ch (st:=st) (hs x (by simp[cD])), ←hm];exact h
 |nilCheck x=>simp only[quiet]at h ⊢;rw[←ho (by simp[cD])];exact h
 |index t x i=>simp only[quiet]at h ⊢;rw[←ho (x:=x) (by simp[cD]), ←ho (x:=i) (by simp[cD])];exact h
 |lookup t x y b=>
  cases b with
  |true=>simp[quiet]at h
  |false=>
   simp only[quiet]at h ⊢
   split at h
   ·rename_i hk
    split at h
    ·rename_i n k hx hy
     split at h
     ·rename_i tg l0 hl
      have hrx:RA w T.hp env (.zn n) (a.eval x):=hr (x:=x) (by simp[cD]) hx
      have ru:=zF c hrx (n:=n) rfl hl
      simp only[hk, ←ho (x:=x) (by simp[cD]), ←ho (x:=y) (by simp[cD]),hx,hy,ru]
      exact h
     ·cases h
    ·cases h
   ·cases h
 |makeMap t r=>
  cases r with
  |some _=>simp[quiet]at h
  |none=>exact h
 |makeSlice t x y=>simp only[quiet]at h ⊢;rw[←ho (x:=x) (by simp[cD]), ←ho (x:=y) (by simp[cD])];exact h
 |buildSlice t n xs=>
  simp only[quiet]at h ⊢
  have hq: ∀g,ur st p g 0 xs.toList=ur T p g 0 xs.toList:=fun g=>Fj fun x hx=>ho (by simp only[cD,cq];exact⟨x,hx,rfl⟩)
  simp only[←hq]
  split at h
  case h_2=>cases h
  rename_i gt e hk
  cases hkey:(look cr (d+500000)).isSome with
  |false=>simp only[hkey]at h ⊢;exact h
  |true=>
   simp only[hkey]at h ⊢
   split at h
   case h_2=>cases h
   rename_i x hlen hps
   split at h
   case h_2=>cases h
   rename_i s hx
   split at h
   case h_2=>cases h
   rename_i cc n1 hc
   have hmem:x∈(Op.buildSlice t n xs).operands.toList:=by
    simp only[cD,cq,Array.toList_map]
    exact⟨(0,x),by rw[hps];simp,rfl⟩
   have hrx:=hr hmem hx
   have hown:AK T.hp (cellsOf s)=some (cc,n1):=by
    cases s with
    |agg l=>obtain⟨cs,_,hl⟩:=hrx;exact DU c hl hc
    |a v=>exact DU c (us:= [a.eval x]) ⟨hrx,trivial⟩ hc
   simp only[←ho hmem,hx,hown]
   exact h
 |build t xs=>
  simp only[quiet]at h ⊢
  have hq: ∀n fo z,wK st p n fo xs.toList z=wK T p n fo xs.toList z:=fun n fo z=>HV fun x hx=>Ch (hs _ (by simp only[cD,cq];exact⟨x,hx,rfl⟩))
  simp only[←hq]
  exact h
 |pick x y z=>
  cases x with
  |tmp t=>
   simp only[quiet]at h ⊢
   rw[←ho (x:= .tmp t) (by simp[cD]), ←ho (x:=y) (by simp[cD]), ←ho (x:=z) (by simp[cD])]
   exact h
  |_=>simp[quiet]at h
 |box e x=>simp only[quiet]at h ⊢;rw[←ho (by simp[cD])];exact h
 |alloc t=>exact h
 |load t x=>
  have hm:x∈(Op.load t x).operands.toList:=by simp[cD]
  simp only[quiet]at h ⊢
  rw[←ho hm]
  split at h
  ·rename_i n off hx
   try rw[hx]
   try dsimp only
   split at h
   ·rename_i c2 ru
    rw[rn hm hx rfl ru]
    exact h
   ·cases h
  ·rename_i hx
   try rw[hx]
   exact h
  ·rename_i hx
   try rw[hx]
   exact h
  ·rename_i n i off hx
   try rw[hx]
   try dsimp only
   split at h
   ·rename_i c2 ru
    rw[rn hm hx rfl ru]
    exact h
   ·cases h
  ·cases h
 |binOp op t x y t'=>
  simp only[quiet]at h ⊢
  rw[←ho (x:=x) (by simp[cD]), ←ho (x:=y) (by simp[cD])]
  exact h
 |unOp op t x=>
  cases op with
  |not=>simp only[quiet]at h ⊢;rw[←ho (by simp[cD])];exact h
  |neg=>simp only[quiet]at h ⊢;rw[←ho (by simp[cD])];exact h
  |_=>simp[quiet]at h
 |convert s t x=>
  simp only[quiet]at h ⊢
  rw[←ho (x:=x) (by simp[cD])]
  split at h
  ·rename_i ik n k1 k2 hx hk1 hk2
   try rw[hx,hk1,hk2]
   exact h
  ·rename_i v g' e hx hk1 hk2
   try rw[hx,hk1,hk2]
   try dsimp only
   split at h
   ·rename_i l Qx hl
    rw[Qx,L2 c (show RA w T.hp env v _ from hr (x:=x) (by simp[cD]) hx) hl]
    exact h
   ·cases h
  ·cases h
 |slice t x lo hi mx=>
  cases mx with
  |some mx=>
   cases lo with
   |some _=>simp[quiet]at h
   |none=>
    cases hi with
    |none=>simp[quiet]at h
    |some hi=>
     have hb: ∀(y:Operand),y∈(L3 t x none (some hi) (some mx)).operands.toList→Lv st p 0 (some y)=Lv T p 0 (some y):=fun y hy=>by simp only[Lv];rw[ho hy]
     have hm:x∈(L3 t x none (some hi) (some mx)).operands.toList:=by simp[cD]
     simp only[quiet]at h ⊢
     rw[←ho hm, ←hb hi (by simp[cD]), ←hb mx (by simp[cD])]
     split at h
     case h_2=>cases h
     rename_i hk
     try rw[hk]
     try dsimp only
     split at h
     case h_2=>cases h
     rename_i n n1 n2 hx h1 h2
     try rw[hx,h1,h2]
     try dsimp only
     split at h
     case h_2=>cases h
     rename_i t' l hl
     rw[rn hm hx rfl hl]
     exact h
  |none=>
   have hb: ∀(b:Option Operand),(∀y,b=some y→y∈(L3 t x lo hi none).operands.toList)→ ∀z,Lv st p z b=Lv T p z b:=by
    intro b hm z
    cases b with
    |none=>rfl
    |some y=>simp only[Lv];rw[ho (hm y rfl)]
   have hm:x∈(L3 t x lo hi none).operands.toList:=by simp[cD]
   simp only[quiet]at h ⊢
   rw[←ho hm, ←hb lo (by rintro y rfl;simp[cD])]
   simp only[←hb hi (by rintro y rfl;simp[cD])]
   cases hkey:(look cr (d+600000)).isSome with
   |true=>simp only[hkey]at h ⊢;exact h
   |false=>
    simp only[hkey]at h ⊢
    split at h
    ·split at h
     ·rename_i hx hlo
      try rw[hx,hlo]
      exact h
     ·rename_i hx hlo
      try rw[hx,hlo]
      exact h
     ·rename_i hx hlo
      try rw[hx,hlo]
      try dsimp only
      split at h
      ·rename_i ru
       rw[rn hm hx rfl ru]
       exact h
      ·cases h
     ·rename_i hx hlo
      try rw[hx,hlo]
      exact h
     ·cases h
    ·exact h
    ·cases h
 |makeFunc fn first captured=>
  cases fn with
  |func f=>
   simp only[quiet]at h ⊢
   split at h
   ·rename_i x hf hc
    try rw[hf,hc]
    try dsimp only
    have hm:x∈(Op.makeFunc (.func f) first captured).operands.toList:=by simp only[cD,AV,hf,hc];simp
    have e:=ho (q:=p) hm
    rw[←e]
    exact h
   ·cases h
  |_=>simp[quiet]at h
 |fieldAddr t x f=>
  simp only[quiet]at h ⊢
  rw[←ho (x:=x) (by simp[cD])]
  exact h
 |indexAddr t x i=>
  have hm:x∈(Op.indexAddr t x i).operands.toList:=by simp[cD]
  simp only[quiet]at h ⊢
  rw[←ho hm, ←ho (x:=i) (by simp[cD])]
  split at h
  ·split at h
   ·rename_i hx hi
    try rw[hx,hi]
    exact h
   ·rename_i hx hi
    try rw[hx,hi]
    try dsimp only
    split at h
    ·rename_i ru
     rw[rn hm hx rfl ru]
     exact h
    ·cases h
   ·rename_i hx hi
    try rw[hx,hi]
    exact h
   ·cases h
  ·cases h
 |extract x i=>
  cases x with
  |tmp t=>simp only[quiet]at h ⊢;rw[←hs (.tmp t) (by simp[cD]) t rfl];exact h
  |_=>simp[quiet]at h
 |call cl=>
  obtain⟨callee,xs,ts⟩:=cl
  have hop: ∀x,x∈xs.toList→x∈(Op.call ⟨callee,xs,ts⟩).operands.toList:=by
   intro x hx
   simp only[cD,Call.operands,AV]
   exact aH _ hx
  cases callee with
  |value x=>
   cases x with
   |func f=>
    simp only[quiet]at h ⊢
    split at h
    ·rename_i as c1 h1 h2
     rw[DT c g hp (fun x hx=>hs x (hop x hx)) h1,h2]
     exact h
    ·cases h
   |tmp y=>
    simp only[quiet]at h ⊢
    rw[←ho (x:= .tmp y) (by simp[cD,Call.operands])]
    split at h
    ·rename_i v hv
     try rw[hv]
     try dsimp only
     split at h
     ·rename_i f hf
      try rw[hf]
      try dsimp only
      split at h
      ·rename_i as c1 h1 h2
       rw[DT c g hp (fun x hx=>hs x (hop x hx)) h1,h2]
       exact h
      ·cases h
     ·cases h
    ·cases h
   |_=>simp[quiet]at h
  |builtin b=>
   cases b with
   |len=>
    simp only[quiet]at h ⊢
    split at h
    ·rename_i x t hxl htl
     have hm:x∈xs.toList:=by rw[hxl];simp
     try rw[hxl,htl]
     try dsimp only
     rw[←ho (hop x hm)]
     split at h
     ·rename_i v hv
      try rw[hv]
      try dsimp only
      split at h
      ·rename_i n hn
       rw[Q1 c (show RA w T.hp env v _ from hr (hop x hm) hv) hn]
       exact h
      ·cases h
     ·cases h
    ·cases h
   |append=>
    simp only[quiet]at h ⊢
    split at h
    case h_2=>cases h
    rename_i x y t1 t2 hkey hxl htl
    try rw[hkey,hxl,htl]
    try dsimp only
    have Wp:x∈xs.toList:=by rw[hxl];simp
    have hmy:y∈xs.toList:=by rw[hxl];simp
    rw[←ho (hop x Wp), ←ho (hop y hmy)]
    exact h
   |max=>simp only[quiet]at h ⊢;rw[←AU (st:=st) (T:=T) (xs:=xs.toList) (fun x hx=>ho (hop x hx))];exact h
   |min=>simp only[quiet]at h ⊢;rw[←AU (st:=st) (T:=T) (xs:=xs.toList) (fun x hx=>ho (hop x hx))];exact h
   |_=>simp[quiet]at h
  |invoke _ _=>simp[quiet]at h
 |_=>simp[quiet]at h
theorem Vb{p:List (Nat×Bool)}(hs: ∀e,e∈p→look st.sl e.1=look T.sl e.1):hyps st p=hyps T p:=by
 induction p with
 |nil=>rfl
 |cons e r ih=>
  obtain⟨d,x⟩:=e
  simp only[hyps]
  rw[hs (d,x) (by simp),ih fun e he=>hs e (by simp[he])]
theorem Q2{Γ:Nat→TK}{E:Tag→Nat→Prop}{S:FuncId→List S1→List S1→Prop}(c:Compat st.hp T.hp)(g:Good ty zb T a.tmps w env)(hn:T.n=st.n){fQ:List (Nat×Nat)}{cr:List (Nat×CR)}{ops:List Oper}{o:Oper}{p:List (Nat×Bool)}(o8:mq st ops o=some p)(ya:mq T ops o=some p)(hp:holds a.tmps p)
  (hs: ∀x,x∈o.op.operands.toList→ ∀t,x= .tmp t→look st.sl t=look T.sl t)(hps: ∀e,e∈p→look st.sl e.1=look T.sl e.1){vc:List Prop}{v:SV}{os:Hp}(hf:fresh T.hp os=true)(h:uK Γ E S fQ cr ops st o=some (vc,v,os)):
  uK Γ E S fQ cr ops T o=some (vc,v,os):=by
 have hd:BL T o.dst=BL st o.dst:=by unfold BL;rw[hn]
 simp only[uK]at h ⊢
 rw[hd,ya]
 rw[o8]at h
 split at h
 ·rename_i m e1 e2 e3
  simp only[oI]at e3
  subst e3
  try rw[e1,e2]
  try dsimp only
  split at h
  ·rename_i tG v1 os1 hq
   rw[quiet_mono c g hp hs hq]
   try dsimp only
   split at h
   ·rename_i h1 h2
    simp only[oI,pI]at h
    obtain⟨rfl,rfl,rfl⟩:=h
    simp only[hf,h2]
   ·cases h
  ·cases h
 ·rename_i m e p' e1 e2 e3
  simp only[oI]at e3
  subst e3
  try rw[e1,e2]
  try dsimp only
  split at h
  ·rename_i h1
   try rw[h1]
   try dsimp only
   split at h
   ·rename_i tG v1 hq
    rw[quiet_mono c g hp hs hq]
    try dsimp only
    rw[←Vb hps]
    exact h
   ·cases h
  ·cases h
 ·cases h
end
end
section
variable{ty:Tag→Nat}
def iZ(zX:Nat→Bool)(tr:List TE)(s:St):Nat→St
 |0=>s
 |i+1=>match zX i,tr[i]? with
  |true,some e=>app (iZ zX tr s i) e
  |_,_=>iZ zX tr s i
abbrev pre(tr:List TE)(s:St)(i:Nat):St:=iZ (fun _=>true) tr s i
structure Trace(Γ:Nat→TK)(E:Tag→Nat→Prop)(S:FuncId→List S1→List S1→Prop)(fQ:List (Nat×Nat))(cr:List (Nat×CR))(ops:List Oper)(m:Nat)(s:St)(tr:List TE)(vcs:List Prop):Prop where
 len:tr.length=m
 one: ∀i,i<m→ ∃o e vc,ops[i]? =some o∧tr[i]? =some e∧o.dst=some e.d∧((pre tr s i).sl.any fun x=>x.2.mentions e.d)=false∧uK Γ E S fQ cr ops (pre tr s i) o=some (vc,e.v,e.os)∧ ∀q,q∈vc→q∈vcs
theorem HW(zX:Nat→Bool)(e:TE)(tr:List TE)(s:St)(h:zX 0=true): ∀i,iZ zX (e::tr) s (i+1)=iZ (fun j=>zX (j+1)) tr (app s e) i
 |0=>by simp[iZ,h]
 |i+1=>by
  rw[iZ,HW zX e tr s h i,iZ]
  simp only[ku]
section
variable{zX inE:Nat→Bool}{tr:List TE}{s:St}
theorem yc{i:Nat}{e:TE}(h:zX i=true)(he:tr[i]? =some e):iZ zX tr s (i+1)=app (iZ zX tr s i) e:=by rw[iZ,h,he]
theorem L5{i:Nat}(h:zX i=false):iZ zX tr s (i+1)=iZ zX tr s i:=by rw[iZ,h]
theorem Fk: ∀i,(iZ zX tr s i).n=s.n
 |0=>rfl
 |i+1=>by
  rw[iZ]
  split
  ·exact Fk i
  ·exact Fk i
theorem qp: ∀{i j:Nat} {e:TE},j<i→zX j=true→tr[j]? =some e→(∀j' e',j'<i→zX j'=true→tr[j']? =some e'→e'.d=e.d→j'=j)→look (iZ zX tr s i).sl e.d=some e.v
 |i+1,j,e,hj,hin,he,hd=>by
  by_cases hij:j=i
  ·subst hij
   rw[yc hin he];exact look_eq
  ·have ih:=qp (i:=i) (j:=j) (by omega) hin he (fun j' e' h1 h2 h3 h4=>hd j' e' (by omega) h2 h3 h4)
   rw[iZ]
   split
   ·rename_i e' h1 h2
    have hne:e.d≠e'.d:=fun hh=>by
     have:=hd i e' (by omega) h1 h2 hh.symm
     omega
    show look ((e'.d,e'.v)::_) e.d=_
    rw[cj hne];exact ih
   ·exact ih
theorem uR: ∀{i:Nat} {t:Nat},(∀j e,j<i→zX j=true→tr[j]? =some e→e.d≠t)→look (iZ zX tr s i).sl t=look s.sl t
 |0,_,_=>rfl
 |i+1,t,h=>by
  have ih:=uR (i:=i) (t:=t) fun j e h1 h2 h3=>h j e (by omega) h2 h3
  rw[iZ]
  split
  ·rename_i e' h1 h2
   have hne:t≠e'.d:=fun hh=>h i e' (by omega) h1 h2 hh.symm
   show look ((e'.d,e'.v)::_) t=_
   rw[cj hne];exact ih
  ·exact ih
theorem L6: ∀{i:Nat} {x:Nat×SV},x∈(iZ zX tr s i).sl→x∈s.sl∨ ∃j e,j<i∧zX j=true∧tr[j]? =some e∧x=(e.d,e.v)
 |0,_,h=>bI h
 |i+1,x,h=>by
  rw[iZ]at h
  split at h
  ·rename_i e' h1 h2
   rcases bh.1 (show x∈(e'.d,e'.v)::(iZ zX tr s i).sl from h)with rfl|h
   ·exact bn ⟨i,e',by omega,h1,h2,rfl⟩
   ·rcases L6 h with h| ⟨j,e,a,b⟩
    ·exact bI h
    ·exact bn ⟨j,e,by omega,b⟩
  ·rcases L6 h with h| ⟨j,e,a,b⟩
   ·exact bI h
   ·exact bn ⟨j,e,by omega,b⟩
def Yp(tr:List TE)(s:St)(m:Nat):Prop:= ∀i e,i<m→tr[i]? =some e→ ∀n o,look e.os n=some o→look (pre tr s i).hp n=none
theorem qt: ∀{i:Nat} {n:Nat} {o:Obj},look (iZ zX tr s i).hp n=some o→look s.hp n=some o∨ ∃j e,j<i∧zX j=true∧tr[j]? =some e∧look e.os n=some o
 |0,_,_,h=>bI h
 |i+1,n,o,h=>by
  rw[iZ]at h
  split at h
  ·rename_i e' h1 h2
   have h:look (e'.os++(iZ zX tr s i).hp) n=some o:=h
   cases hq:look e'.os n with
   |none=>
    rw[cU hq]at h
    rcases qt h with h| ⟨j,e,a,b⟩
    ·exact bI h
    ·exact bn ⟨j,e,by omega,b⟩
   |some o'=>
    rw[eR hq]at h
    exact bn ⟨i,e',by omega,h1,h2,by rw[hq];exact h⟩
  ·rcases qt h with h| ⟨j,e,a,b⟩
   ·exact bI h
   ·exact bn ⟨j,e,by omega,b⟩
end
theorem Oh{hp:Hp}: ∀{os:Hp},(∀n o,look os n=some o→look hp n=none∧nI n=false)→fresh hp os=true
 | [],_=>rfl
 | (n,x)::r,h=>by
   simp only[fresh,ak]
   obtain⟨h1,h2⟩:=h n x look_eq
   refine⟨⟨by rw[h1],by rw[h2];rfl⟩,Oh fun k o hk=> ?_⟩
   by_cases hkn:k=n
   ·subst hkn;exact h k x look_eq
   ·exact h k o (by rw[cj hkn];exact hk)
theorem Good.congr{zb:eK}{st st':St}{tmps:Array Value}{w:World}{env:Env}(g:Good ty zb st tmps w env)(hs: ∀s v,look st'.sl s=some v→look st.sl s=some v)(hh: ∀n,look st'.hp n=look st.hp n):Good ty zb st' tmps w env:=by
 have s:Step (fun _=>True) (fun _=>True) w st.hp env w st'.hp env:=by
  refine⟨fun _ _ _=>rfl,?_,?_,?_⟩
  ·rintro b _ ⟨n,o,h1,h2⟩;exact⟨n,o,by rw[←hh];exact h1,h2⟩
  ·intro n o _ h1
   exact⟨o,by rw[hh];exact h1,by cases o<;>simp[Obj.like],rfl⟩
  ·intro n t l _ h1
   exact⟨by rw[hh];exact h1,rfl,fun _ _=>rfl⟩
 refine⟨fun n o hl=> ?_,fun n m o o' hne h1 h2=>g.mu n m o o' hne (by rw[←hh];exact h1) (by rw[←hh];exact h2),fun t v hl=>tF.step s (fun v _=>v.gM) (g.slot t v (hs t v hl)),fun n o hl=>g.dom n o (by rw[←hh];exact hl),g.pins⟩
 exact(g.obj n o (by rw[←hh];exact hl)).step s o.gM (fun _ _=>rfl)
end
section
variable{ty:Tag→Nat}
theorem L7{α:Type}: ∀{l:List α} {k i:Nat} {x:α},l[i]? =some x→(k+i,x)∈idx k l
 |y::r,k,0,x,h=>by simp at h;simp[idx,h]
 |y::r,k,i+1,x,h=>by
  have:=L7 (l:=r) (k:=k+1) (i:=i) (by simpa using h)
  rw[idx];right
  rw[show k+(i+1)=k+1+i by omega];exact this
structure Chk(ops:List Oper)(m:Nat):Prop where
 le:m≤ops.length
 back: ∀i o,ops[i]? =some o→ ∀j,j∈ez o→j<i
 uses: ∀i o,i<m→ops[i]? =some o→ ∀t,t∈tmpsOf o→ ∀k o',k<m→ops[k]? =some o'→o'.dst=some t→k=i∨k∈ez o∨(i<k∧((L1 ops).getD k 0).testBit i=true)
 guard: ∀i o j x,i<m→ops[i]? =some o→o.guard=some (j,x)→j<i∧j<m∧j∈ez o
 dist: ∀i o k o' d,i<m→k<m→ops[i]? =some o→ops[k]? =some o'→o.dst=some d→o'.dst=some d→k=i
 tail: ∀i o,m≤i→ops[i]? =some o→ ∀j,j<i→((L1 ops).getD i 0).testBit j=true
theorem SM: ∀(l:List Oper) (acc:List Nat),(∀j,j<acc.length→(l.foldl l5 acc).getD j 0=acc.getD j 0)∧
  ∀i o,l[i]? =some o→(∀j,j∈ez o→j<acc.length+i)→(l.foldl l5 acc).getD (acc.length+i) 0=(ez o).foldl (fun s j=>s|||2^j||| (l.foldl l5 acc).getD j 0) 0
 | [],acc=>⟨fun _ _=>rfl,fun i o h=>by simp at h⟩
 |o::r,acc=>by
  obtain⟨h1,h2⟩:=SM r (l5 acc o)
  have hl:(l5 acc o).length=acc.length+1:=by simp[l5]
  have ha: ∀j,j<acc.length→((o::r).foldl l5 acc).getD j 0=acc.getD j 0:=by
   intro j hj
   rw[cK,h1 j (by omega)]
   simp only[l5,an]
   rw[List.getElem?_append_left hj]
  refine⟨ha,fun i o' ho hj=> ?_⟩
  cases i with
  |zero=>
   simp at ho
   subst ho
   rw[jE,cK,h1 _ (by omega)]
   have:(l5 acc o).getD acc.length 0=(ez o).foldl (fun s j=>s|||2^j|||acc.getD j 0) 0:=by
    simp[l5,an]
   rw[this]
   have ajv: ∀(es:List Nat) (s0:Nat),(∀j,j∈es→j<acc.length)→es.foldl (fun s j=>s|||2^j|||acc.getD j 0) s0=es.foldl (fun s j=>s|||2^j||| (r.foldl l5 (l5 acc o)).getD j 0) s0:=by
    intro es
    induction es with
    |nil=>intros;rfl
    |cons j es ih=>
     intro s0 hh
     rw[cK,cK,ih _ fun k hk=>hh k (by simp[hk])]
     have:=ha j (hh j (by simp))
     rw[cK]at this
     rw[this]
   exact ajv _ _ fun j hjj=>by simpa using hj j hjj
  |succ i=>
   have:=h2 i o' (by simpa using ho) (fun j hjj=>by rw[hl];have:=hj j hjj;omega)
   rw[hl,show acc.length+1+i=acc.length+(i+1)by omega]at this
   rw[cK];exact this
theorem HX(g:Nat→Nat)(k:Nat): ∀(es:List Nat) (s0:Nat),(es.foldl (fun s j=>s|||2^j|||g j) s0).testBit k=true→s0.testBit k=true∨ ∃j,j∈es∧(k=j∨(g j).testBit k=true)
 | [],s0,h=>bI h
 |j::es,s0,h=>by
  rcases HX g k es _ h with h| ⟨i,hi,h⟩
  ·rw[p7,p7,m7]at h
   simp only[c8,decide_eq_true_eq]at h
   rcases h with(h|h)|h
   ·exact bI h
   ·exact bn ⟨j,by simp,bI h.symm⟩
   ·exact bn ⟨j,by simp,bn h⟩
  ·exact bn ⟨i,by simp[hi],h⟩
theorem HY{ops:List Oper}(hb: ∀i o,ops[i]? =some o→ ∀j,j∈ez o→j<i){D:Nat→Prop}(hD: ∀i o,D i→ops[i]? =some o→ ∀j,j∈ez o→D j): ∀(i:Nat) (o:Oper),ops[i]? =some o→(∀j,j∈ez o→D j)→ ∀k,((L1 ops).getD i 0).testBit k=true→D k:=by
 intro i
 induction i using lJ with
 |_ i ih=>
  intro o ho he k hk
  have:=(SM ops []).2 i o ho (fun j hj=>by simpa using hb i o ho j hj)
  simp only[fF,dZ]at this
  have hc:(L1 ops).getD i 0=(ez o).foldl (fun s j=>s|||2^j||| (L1 ops).getD j 0) 0:=this
  rw[hc]at hk
  rcases HX _ k _ _ hk with h| ⟨j,hj,h⟩
  ·simp at h
  ·rcases h with rfl|h
   ·exact he k hj
   ·have hji:=hb i o ho j hj
    have hlen:j<ops.length:=by have:=(aI.1 ho).1;omega
    exact ih j hji ops[j] (au hlen) (hD j _ (he j hj) (au hlen)) k h
section
variable{P:Program}{Γ:Nat→TK}{fQ:List (Nat×Nat)}{cr:List (Nat×CR)}{ops:List Oper}{m:Nat}{s:St}{tr:List TE}{vcs:List Prop}
theorem pz{E:Tag→Nat→Prop}{S:FuncId→List S1→List S1→Prop}{st:St}{o:Oper}{vc:List Prop}{v:SV}{os:Hp}(h:uK Γ E S fQ cr ops st o=some (vc,v,os)):
  ∃p,mq st ops o=some p∧(p= []→ ∀q x,v≠ .cond q x)∧(p≠ []→(∃x,v= .cond p x)∧os= []∧ ∀d,o.dst=some d→ ∀e,e∈p→e.1≠d)∧(∀n x,look os n=some x→look st.hp n=none∧nI n=false):=by
 unfold uK at h
 split at h
 ·rename_i nm _ _ hg
  split at h
  ·rename_i tG v1 os1 hq
   split at h
   ·rename_i hf _
    simp only[oI,pI]at h
    obtain⟨_,rfl,rfl⟩:=h
    refine⟨[],hg,fun _ q x=> ?_,fun hh=>absurd rfl hh,fun n x hl=>⟨so hf n x hl,DF hf n x hl⟩⟩
    rintro rfl
    unfold quiet Xk at hq
    repeat' split at hq
    all_goals first
     | (cases hq;done)
     | (simp only[gF,oI,Out.mk.injEq]at hq;cases hq.2.1;done)
     | (simp only[oI,Out.mk.injEq]at hq;cases hq.2.1;done)
     | (simp only[oI]at hq;unfold outs at hq;(repeat' split at hq)<;>(simp only[Out.mk.injEq]at hq;cases hq.2.1))
   ·cases h
  ·cases h
 ·rename_i nm e p _ _ hg
  split at h
  ·rename_i ajw
   split at h
   ·rename_i tG v1 hq
    simp only[oI,pI]at h
    obtain⟨_,rfl,rfl⟩:=h
    refine⟨e::p,hg,(fun hh=>by cases hh),fun _=>⟨⟨_,rfl⟩,rfl,fun d hd x hx hxd=> ?_⟩,fun n x hl=>by simp[look]at hl⟩
    rw[bR]at ajw
    exact ajw x hx (by rw[hd,hxd];simp)
   ·cases h
  ·cases h
 ·cases h
theorem Trace.fresh{E:Tag→Nat→Prop}{S:FuncId→List S1→List S1→Prop}(T:Trace Γ E S fQ cr ops m s tr vcs):Yp tr s m:=by
 intro i e hi he n x hl
 obtain⟨o,e',vc,_,he',_,_,hq,_⟩:=T.one i hi
 rw[he]at he'
 simp only[oI]at he'
 subst he'
 obtain⟨p,_,_,_,hf⟩:=pz hq
 exact(hf n x hl).1
theorem Trace.path{E:Tag→Nat→Prop}{S:FuncId→List S1→List S1→Prop}(T:Trace Γ E S fQ cr ops m s tr vcs)(K:Chk ops m): ∀(i:Nat),i<m→ ∀o p,ops[i]? =some o→mq (pre tr s i) ops o=some p→ ∀e,e∈p→
  ∃k o',k<i∧ops[k]? =some o'∧o'.dst=some e.1∧ ∀D:Nat→Prop,(∀i o,D i→ops[i]? =some o→ ∀j,j∈ez o→D j)→(∀j,j∈ez o→D j)→D k:=by
 intro i
 induction i using lJ with
 |_ i ih=>
  intro hi o p ho hg e he
  unfold mq at hg
  split at hg
  ·simp at hg;subst hg;simp at he
  ·rename_i j x hgd
   obtain⟨hji,hjm,hje⟩:=K.guard i o j x hi ho hgd
   obtain⟨q,ej,vcj,hq,hej,hdj,_,hqc,_⟩:=T.one j hjm
   rw[hq]at hg
   dsimp only at hg
   rw[hdj]at hg
   dsimp only at hg
   have Cd:look (pre tr s i).sl ej.d=some ej.v:=by
    refine qp hji rfl hej fun j' e' h1 _ h3 h4=> ?_
    obtain⟨q',e2,_,hq',JM,hd2,_⟩:=T.one j' (by omega)
    rw[h3]at JM
    simp only[oI]at JM
    subst JM
    exact K.dist j q j' q' ej.d hjm (by omega) hq hq' hdj (by rw[hd2,h4])
   rw[Cd]at hg
   obtain⟨pj,hgj,kV,jo,_⟩:=pz hqc
   have base: ∃k o',k<i∧ops[k]? =some o'∧o'.dst=some ej.d∧ ∀D:Nat→Prop,(∀i o,D i→ops[i]? =some o→ ∀j,j∈ez o→D j)→(∀j,j∈ez o→D j)→D k:=
    ⟨j,q,hji,hq,hdj,fun D _ hE=>hE j hje⟩
   split at hg
   ·simp only[oI]at hg
    subst hg
    simp only[aR]at he
    subst he
    exact base
   ·rename_i p' b hv
    simp only[oI]at hv
    simp only[oI]at hg
    subst hg
    rcases bh.1 he with rfl|he
    ·exact base
    ·have hpj:pj=p':=by
      by_cases hnil:pj= []
      ·exact absurd hv (kV hnil _ _)
      ·obtain⟨x',hx'⟩:=(jo hnil).1
       rw[hx']at hv
       simp only[SV.cond.injEq]at hv
       exact hv.1
     subst hpj
     obtain⟨k,o',h1,h2,h3,h4⟩:=ih j hji hjm q pj hq hgj e he
     exact⟨k,o',by omega,h2,h3,fun D hD hE=>h4 D hD (hD j q (hE j hje) hq)⟩
   ·cases hg
end
end
section
variable{ty:Tag→Nat}
theorem DV{ops:List Oper}{listed:Array Bool}(hl:listed.size=ops.length){i:Nat}:i∈tQ .any ops.toArray listed↔ ∃o,ops[i]? =some o∧listed.getD i false=false∧ ∀j,j∈ez o→listed.getD j false=true:=by
 unfold tQ
 rw[sH,cm]
 simp only[List.size_toArray,lH,ak,bq]
 constructor
 ·rintro⟨hi,h1,h2⟩
  refine⟨ops[i],au hi,?_,?_⟩
  ·have:listed[i]? =some listed[i]:=by simp[hl,hi]
   rw[aa,this]at h1 ⊢
   exact h1
  ·intro j hj
   simp only[ez,tR,zY]at hj
   obtain⟨e,he,hj⟩:=hj
   split at hj
   ·rename_i hb
    simp only[oI]at hj
    subst hj
    rw[au hi]at h2
    simp only[dI,mS]at h2
    have:=oQ.1 h2 e he
    simpa[hb]using this
   ·cases hj
 ·rintro⟨o,ho,h1,h2⟩
  have hi:=(aI.1 ho).1
  refine⟨hi,?_,?_⟩
  ·have:listed[i]? =some listed[i]:=by simp[hl,hi]
   rw[aa,this]at h1 ⊢
   exact h1
  ·rw[ho]
   simp only[dI,mS]
   rw[oQ]
   intro e he
   cases hb:Of .any e with
   |false=>simp
   |true=>
    have:=h2 e.on (by
     simp only[ez,tR,zY]
     exact⟨e,he,by simp[hb]⟩)
    simp[this]
theorem Oi{listed:Array Bool}{i j:Nat}(hi:i<listed.size):(listed.setIfInBounds i true).getD j false=(listed.getD j false||j==i):=by
 rw[aa,aa]
 by_cases hij:i=j
 ·subst hij
  rw[hJ hi];simp
 ·rw[fL hij]
  simp[show¬j=i from fun h=>hij h.symm]
def cnt(n:Nat)(D:Nat→Bool):Nat:=((bD n).filter fun i=> !D i).length
theorem filter_lt{p q:Nat→Bool}: ∀{l:List Nat},(∀x,x∈l→q x=true→p x=true)→(∃x,x∈l∧p x=true∧q x=false)→(l.filter q).length<(l.filter p).length
 |y::r,h,⟨x,hx,hp,hq⟩=>by
  have le: ∀{l:List Nat},(∀x,x∈l→q x=true→p x=true)→(l.filter q).length≤(l.filter p).length:=by
   intro l
   induction l with
   |nil=>intro _;simp
   |cons z l ih=>
    intro hh
    have:=ih fun x hx=>hh x (by simp[hx])
    cases hz:q z with
    |true=>rw[dx hz,dx (hh z (by simp) hz)];simp;exact this
    |false=>
     rw[ey (by simp[hz])]
     cases hz2:p z with
     |true=>rw[dx hz2];simp;omega
     |false=>rw[ey (by simp[hz2])];exact this
  rcases bh.1 hx with rfl|hx
  ·rw[ey (by simp[hq]),dx hp]
   have:=le (l:=r) fun x hx=>h x (by simp[hx])
   simp;omega
  ·have ih:=filter_lt (l:=r) (fun x hx=>h x (by simp[hx])) ⟨x,hx,hp,hq⟩
   cases hy:q y with
   |true=>rw[dx hy,dx (h y (by simp) hy)];simp;exact ih
   |false=>
    rw[ey (by simp[hy])]
    cases hy2:p y with
    |true=>rw[dx hy2];simp;omega
    |false=>rw[ey (by simp[hy2])];exact ih
theorem acz{n i:Nat}{D:Nat→Bool}(hi:i<n)(hD:D i=false):cnt n (fun j=>D j||j==i)<cnt n D:=by
 refine filter_lt ?_ ⟨i,cm.2 hi,by simp[hD],by simp⟩
 intro x _ h
 simp only[bq,gB]at h
 simp[h.1]
theorem Yq{n:Nat}{D:Nat→Bool}(h:cnt n D=0): ∀i,i<n→D i=true:=by
 intro i hi
 have:=List.eq_nil_of_length_eq_zero h
 cases hd:D i with
 |true=>rfl
 |false=>
  have:i∈(bD n).filter fun i=> !D i:=sH.2 ⟨cm.2 hi,by simp[hd]⟩
  simp_all
section
variable{P:Program}{Γ:Nat→TK}{fQ:List (Nat×Nat)}{cr:List (Nat×CR)}{ops:List Oper}{m:Nat}{s:St}{tr:List TE}{zb:eK}{Q:Exit→Act→World→Prop}
end
section
variable{P:Program}{Γ:Nat→TK}{zb:eK}{Q:Post}{st:St}
end
end
section
variable{ty:Tag→Nat}
def D2(l:List Oper):Option (List Oper×Oper):=match l.reverse with
 | []=>none
 |o::r=>some (r.reverse,o)
theorem Me{l p:List Oper}{q:Oper}(h:D2 l=some (p,q)):l=p++ [q]:=by
 unfold D2 at h
 split at h
 ·cases h
 ·rename_i o r he
  simp only[oI,pI]at h
  obtain⟨rfl,rfl⟩:=h
  have:=congrArg List.reverse he
  rw[List.reverse_reverse,List.reverse_cons]at this
  exact this
def S5(Γ:Nat→TK)(st:St)(o:Oper):Option (Nat×Prop):=match o.guard,o.dst,o.op with
 |none,some d, .binOp .eql t (.tmp s) (.const (.slice none 0 0)) _=>match Γ t,look st.sl s,mP d st.n with
  | .sl _ _,some (.one (.a (.sl _ l))),true=>some (d,l= [])
  | .sl _ _,some (.one (.a (.vw _ _ _ l))),true=>some (d,l= [])
  | .sl _ _,some (.one (.a (.own n))),true=>match look st.hp n with
    |some (.arr _ l)=>some (d,l= [])
    |_=>none
  |_,_,_=>none
 |_,_,_=>none
def S6(n:Nat)(st':St)(ks:List Nat):Option St:=match Fh st'.sl ks,Fi st'.hp (SI st'.sl st'.hp ks [])with
 |some sl,some hp=>match vU sl hp with
  |true=>some ⟨n,sl,hp⟩
  |false=>none
 |_,_=>none
def S7(FV:St)(ks:List Nat)(d:Nat)(b:Bool):Option St:=S6 FV.n (FV.put (some d) (.one (.a (.lit (.bool b))))) ks
def YN(P:Program)(ty:Tag→Nat)(Γ:Nat→TK)(fQ:List (Nat×Nat))(cr:List (Nat×CR))(ks:List Nat)(ops:List Oper)(st:St):Option (List Prop×Prop×St×St):=
 match D2 ops with
 |some (pre,o)=>match run P ty Γ fQ cr ops pre st []with
  |some (vc,FV)=>match S5 Γ FV o with
   |some (d,p)=>match S7 FV ks d true,S7 FV ks d false with
    |some a,some b=>some (vc,p,a,b)
    |_,_=>none
   |none=>none
  |none=>none
 |none=>none
section
variable{P:Program}{Γ:Nat→TK}{zb:eK}{Q:Post}{st:St}
theorem Mf(C: ∀t,fK P t (Γ t))(Z: ∀t,(∀z tg fo,Γ t≠ .st z tg fo)→Γ t≠ .other→(P.info? t).map (·.size)=some 1){fQ:List (Nat×Nat)}{cr:List (Nat×CR)}{ops:List Oper}{Gs:St}{vcs:List Prop}{Q:Exit→Act→World→Prop}{tail:List Oper}
  (hQ: ∀a w,Inv ty zb Gs a w→wpList P ops.toArray Q tail a w): ∀{l:List Oper} {st:St} {acc:List Prop} {a:Act} {w:World},run P ty Γ fQ cr ops l st acc=some (vcs,Gs)→(∀q,q∈vcs→q)→Inv ty zb st a w→wpList P ops.toArray Q (l++tail) a w
 | [],st,acc,a,w,h,hv,iv=>by
   simp only[run,oI,pI]at h
   obtain⟨_,rfl⟩:=h
   exact hQ a w iv
 |o::r,st,acc,a,w,h,hv,iv=>by
  obtain⟨vc,FV,h1,h2⟩:=DS h
  have:=zC (Q:=Q) C Z h1 iv (fun q hq=>hv q (Ce h2 q (aN _ hq)))
  exact this.mono fun a' w' uz=>Mf C Z hQ h2 hv uz
theorem Ou{w:World}{t e:Nat}(d:Nat)(hu:P.underlying t=some (.slice e)){oa:Option Addr}{n cap:Nat}:(DK (d+1) t (.slice oa n cap) (.slice none 0 0)).run P w= .ok oa.isNone w:=by
 cases oa<;>simp[DK,run_underlying hu]
theorem agU{o:Oper}{a:Act}{w:World}{K:Act→World→Prop}{Q:Exit→Act→World→Prop}{t s e ge:Nat}{ty2:TypeId}(ho:o.op= .binOp .eql t (.tmp s) (.const (.slice none 0 0)) ty2)(hu:P.underlying t=some (.slice e)){oa:Option Addr}{n cap:Nat}(hs:a.tmps.getD s undef= .slice oa n cap)
  (h:K (a.put o.dst (.bool oa.isNone)) w):o.wp P a w K Q:=by
 have hx:a.eval (.tmp s)= .slice oa n cap:=hs
 have hrun:(execOp a.eval o).run P w= .ok (.value (.bool oa.isNone)) w:=by
  have hy:a.eval (.const (.slice none 0 0))= .slice none 0 0:=rfl
  unfold execOp
  simp only[ho,hx,hy]
  have he:(LH t (.slice oa n cap) (.slice none 0 0)).run P w= .ok oa.isNone w:=Ou 9999 hu
  have hb:(binOp .eql t (.slice oa n cap) (.slice none 0 0)).run P w= .ok (.bool oa.isNone) w:=by
   show(do pure (.bool (←LH t (.slice oa n cap) (.slice none 0 0))):Sem Value).run P w=_
   simp only[Sem.run_bind,he,Result.andThen_ok,Sem.run_pure]
  have hg:(eqGuard .eql t (.tmp s) (.const (.slice none 0 0)) (.slice oa n cap) (.slice none 0 0)).run P w= .ok () w:=by simp[eqGuard]
  simp only[Sem.run_bind,hg,hb,Result.andThen_ok,Sem.run_pure]
 unfold Oper.wp
 rw[hrun]
 exact h
theorem Ov{FV st':St}{ks:List Nat}{d:Nat}{b:Bool}(h:S7 FV ks d b=some st'){a:Act}{w:World}(iv:Inv ty zb FV a w)(hd:mP d FV.n=true):Inv ty zb st' (a.put (some d) (.bool b)) w:=by
 have iv2:Inv ty zb (FV.put (some d) (.one (.a (.lit (.bool b))))) (a.put (some d) (.bool b)) w:=by
  obtain⟨env,g⟩:=iv.good
  have hlt: ∀d',some d=some d'→d'<a.tmps.size:=by
   intro d' e
   simp only[oI]at e
   subst e
   rw[iv.size]
   exact bX hd
  exact⟨by rw[lE,Av];exact iv.size,by rw[put_defers];exact iv.defers,iv.kept,iv.Jx,env,sC (dst:=some d) g hlt (u:= .bool b) (show tF w FV.hp env a.tmps (.one (.a (.lit (.bool b)))) (.bool b)from ⟨rfl,rfl⟩) fun d _=>tP ⟨_,rfl⟩⟩
 unfold S7 S6 at h
 split at h
 ·rename_i sl hp h1 h2
  split at h
  ·rename_i hc
   simp only[oI]at h
   subst h
   exact iv2.weaken (by rw[Av]) (pe h1) (pg h2) hc
  ·cases h
 ·cases h
theorem Ox(X:Ctx P ty Γ)(fQ:List (Nat×Nat))(cr:List (Nat×CR))(ks:List Nat){id:Nat}{ops:List Oper}{vc:List Prop}{p:Prop}{sT sF:St}(h:YN P ty Γ fQ cr ks ops st=some (vc,p,sT,sF))(hv:qK vc)(kT:p→Q .normal sT)(kF:Q .normal sF):
  W P ty zb (.region id ops.toArray false) Q st:=by
 intro a w iv
 unfold YN at h
 split at h
 case h_2=>cases h
 rename_i pre o hsp
 split at h
 case h_2=>cases h
 rename_i tG FV hrun
 split at h
 case h_2=>cases h
 rename_i d p1 hnp
 split at h
 case h_2=>cases h
 rename_i sa sb hT hF
 simp only[oI,pI]at h
 obtain⟨rfl,rfl,rfl,rfl⟩:=h
 refine wp_region_lit ?_
 rw[show wpList P ops.toArray (JP ty zb Q) ops a w=wpList P ops.toArray (JP ty zb Q) (pre++ [o]) a w by rw[←Me hsp]]
 refine Mf X.kind X.one (fun a w iv=> ?_) hrun hv.out iv
 obtain⟨env,g⟩:=iv.good
 unfold S5 at hnp
 split at hnp
 case h_2=>cases hnp
 rename_i d0 t s ty2 hg hd hop
 have fin: ∀{oa:Option Addr} {n cap:Nat} {e ge:Nat},P.underlying t=some (.slice e)→a.tmps.getD s undef= .slice oa n cap→(oa=none→p1)→d0=d→mP d0 FV.n=true→wpList P ops.toArray (JP ty zb Q) [o] a w:=by
  intro oa n cap e ge hu hs hn hdd hlt
  subst hdd
  have hk: ∀a' w',(fun a' w'=>a'=a.put (some d0) (.bool oa.isNone)∧w'=w) a' w'→wpList P ops.toArray (JP ty zb Q) [] a' w':=by
   rintro a' w' ⟨rfl,rfl⟩
   refine wpList_nil ?_
   cases oa with
   |none=>exact⟨sa,Ov hT iv hlt,kT (hn rfl)⟩
   |some x=>exact⟨sb,Ov hF iv hlt,kF⟩
  have hR:lF P ops.toArray o a w (fun a' w'=>a'=a.put (some d0) (.bool oa.isNone)∧w'=w) (JP ty zb Q):=mX hg (agU (ge:=ge) hop hu hs ⟨by rw[hd],rfl⟩)
  exact hR.mono hk
 split at hnp
 ·rename_i g1 e1 t1 l hk hl hlt
  simp only[oI,pI]at hnp
  have hC:=X.kind t
  rw[hk]at hC
  obtain⟨fp,Cd,_⟩:=g.slot s _ hl
  obtain⟨oa,cap,hv0,_,_,h3⟩:=Cd
  refine fin (ge:=0) hC.1 hv0 (fun hn=> ?_) hnp.1 hlt
  rw[←hnp.2]
  rcases h3 with⟨h3,_⟩| ⟨b,off,cB,rfl,_⟩
  ·exact h3
  ·cases hn
 ·rename_i g1 e1 n1 p2 t1 l hk hl hlt
  simp only[oI,pI]at hnp
  have hC:=X.kind t
  rw[hk]at hC
  obtain⟨_,⟨fp,Cd,_⟩,_⟩:=g.slot s _ hl
  obtain⟨oa,cap,hv0,_,_,h3⟩:=Cd
  refine fin (ge:=0) hC.1 hv0 (fun hn=> ?_) hnp.1 hlt
  rw[←hnp.2]
  rcases h3 with⟨h3,_⟩| ⟨b,off,cB,rfl,_⟩
  ·exact h3
  ·cases hn
 ·rename_i g1 e1 n1 hk hl hlt
  split at hnp
  ·rename_i t1 l amd
   simp only[oI,pI]at hnp
   have hC:=X.kind t
   rw[hk]at hC
   obtain⟨_,hu⟩:=g.slot s _ hl
   obtain⟨oa,cap,hv0,_,_,h3⟩:=RO.sl (g.obj n1 _ amd)
   refine fin (ge:=0) hC.1 (hu.trans hv0) (fun hn=> ?_) hnp.1 hlt
   rw[←hnp.2]
   rcases h3 with⟨h3,_⟩| ⟨b,off,cB,rfl,_⟩
   ·exact h3
   ·cases hn
  ·cases hnp
 ·cases hnp
end
end
section
variable{ty:Tag→Nat}
def V.rev(hp:Hp)(ks ns:List Nat)(m0:Nat):V→V
 | .own n=>match ns.any (aU n)with
   |true=>match look hp n with|some (.arr t l)=> .vw m0 none t l|_=> .any
   |false=>(V.own n).cR ks []
 |v=>v.cR ks []
def S1.rev(hp:Hp)(ks ns:List Nat)(m0:Nat):S1→S1
 | .a v=> .a (v.rev hp ks ns m0)
 | .agg l=> .agg (l.map (V.rev hp ks ns m0))
def SV.rev(hp:Hp)(ks ns:List Nat)(m0:Nat):SV→SV
 | .one x=> .one (x.rev hp ks ns m0)
 | .Au l=> .Au (l.map (S1.rev hp ks ns m0))
 | .cond p x=> .cond p (x.rev hp ks ns m0)
def Obj.rev(hp:Hp)(ks ns:List Nat)(m0:Nat):Obj→Obj
 | .box c=> .box (c.map (V.rev hp ks ns m0))
 | .arr t l=> .arr t l
 | .jG t l s=> .jG t l (s.cR ks [])
def OH(kV:Hp)(ks ns:List Nat)(m0:Nat)(hp:Hp):Hp:=(hp.filter fun e=> !ks.any (aU e.1)).map fun e=>(e.1,e.2.rev kV ks ns m0)
theorem Ec{kV:Hp}{ks ns:List Nat}{m0:Nat}{hp:Hp}{n:Nat}:look (OH kV ks ns m0 hp) n=if n∈ks then none else(look hp n).map (Obj.rev kV ks ns m0):=by
 unfold OH
 rw[nT (α:=Obj) (f:=fun e:Nat×Obj=>e.2.rev kV ks ns m0)]
 have h:=dr (ks:=ks) (kv:= []) (hp:=hp) (n:=n)
 unfold dX at h
 rw[nT (α:=Obj) (f:=fun e:Nat×Obj=>e.2.cR ks [])]at h
 by_cases hn:n∈ks
 ·rw[if_pos hn]at h ⊢
  cases hq:look (hp.filter fun e=> !ks.any (aU e.1)) n with
  |none=>rfl
  |some o=>rw[hq]at h;cases h
 ·rw[if_neg hn]at h ⊢
  have:look (hp.filter fun e=> !ks.any (aU e.1)) n=look hp n:=by
   induction hp with
   |nil=>rfl
   |cons e r ih=>
    obtain⟨j,x⟩:=e
    by_cases hj:j∈ks
    ·have hne:n≠j:=by rintro rfl;exact hn hj
     have hb:(ks.any (aU j))=true:=eZ.2 ⟨j,hj,by simp⟩
     rw[ey (by simp[hb])]at h ⊢
     rw[cj hne]at h ⊢
     exact ih h
    ·have hb:(ks.any (aU j))=false:=by
      rw[bR]
      intro y hy h2
      exact hj (by rw[ay h2];exact hy)
     rw[dx (by simp[hb])]at h ⊢
     by_cases hnj:n=j
     ·subst hnj;rw[look_eq,look_eq]
     ·rw[cj hnj]at h ⊢
      rw[cj hnj]at h ⊢
      exact ih h
  rw[this]
section
variable{ks ns:List Nat}{m0:Nat}{w w':World}{hp kY:Hp}{env env':Env}
theorem Rd{ns:List Nat}{n:Nat}(h:ns.any (aU n)=true):n∈ns:=by
 obtain⟨y,hy,h2⟩:=eZ.1 h
 rw[ay h2];exact hy
theorem RA.rev(s:uP ks [] w hp env w' kY env')(hv: ∀n t l,n∈ns→look hp n=some (.arr t l)→RA w' kY env' (.vw m0 none t l) (env n).v){v:V}{u:Value}(h:RA w hp env v u):RA w' kY env' (v.rev hp ks ns m0) u:=by
 cases v with
 |own n=>
  have e:V.rev hp ks ns m0 (.own n)=match ns.any (aU n)with
   |true=>(match look hp n with|some (.arr t l)=> .vw m0 none t l|_=> .any)
   |false=>(V.own n).cR ks []:=rfl
  rw[e]
  cases hn:ns.any (aU n)with
  |true=>
   obtain⟨⟨t,l,hl⟩,rfl⟩:=h
   rw[hl]
   exact hv n t l (Rd hn) hl
  |false=>exact RA.kZ s h
 |_=>exact RA.kZ s h
theorem ju.rev(s:uP ks [] w hp env w' kY env')(hv: ∀n t l,n∈ns→look hp n=some (.arr t l)→RA w' kY env' (.vw m0 none t l) (env n).v){x:S1}{u:Value}(h:ju w hp env x u):ju w' kY env' (x.rev hp ks ns m0) u:=by
 cases x with
 |a v=>exact RA.rev s hv h
 |agg l=>obtain⟨cs,hu,hl⟩:=h;exact⟨cs,hu,hl.map fun a b hr=>RA.rev s hv hr⟩
theorem tF.rev(s:uP ks [] w hp env w' kY env')(hv: ∀n t l,n∈ns→look hp n=some (.arr t l)→RA w' kY env' (.vw m0 none t l) (env n).v){tmps:Array Value}{x:SV}{u:Value}(h:tF w hp env tmps x u):tF w' kY env' tmps (x.rev hp ks ns m0) u:=by
 cases x with
 |one x=>exact ju.rev s hv h
 |Au l=>obtain⟨us,hu,hl⟩:=h;exact⟨us,hu,hl.map fun a b hr=>ju.rev s hv hr⟩
 |cond p x=>exact⟨fun hh=>ju.rev s hv (h.1 hh),h.2⟩
theorem RO.rev(s:uP ks [] w hp env w' kY env')(hv: ∀n t l,n∈ns→look hp n=some (.arr t l)→RA w' kY env' (.vw m0 none t l) (env n).v){n:Nat}{o:Obj}{co:CO}(h:RO ty w hp env n o co)(hk: ∀b,b∈co.fp→w'.heap[b]? =w.heap[b]?):RO ty w' kY env' n (o.rev hp ks ns m0) co:=by
 cases o with
 |box c=>
  obtain⟨b,cs,e,rfl,hh,hc⟩:=h
  exact⟨b,cs,e,rfl,by rw[hk b (by simp)];exact hh,hc.map fun a u hr=>RA.rev s hv hr⟩
 |arr t l=>exact RO.agree h hk
 |jG t l r=>
  rcases RO.Hf h with⟨rfl,h⟩| ⟨u,rfl,h⟩| ⟨p,rfl,h⟩| ⟨hr,h1,us,hB,h2,h3⟩
  ·exact Nz.agree h hk
  ·exact Lw.step s hk h
  ·exact DE.kZ s hk h
  ·exact RO.UL (vA.NP hr) ⟨h1,us,mo.agree BM hB hk,h2,fun i x u hx hu=>BE.kZ s (h3 i x u hx hu)⟩
end
section
variable{P:Program}{zb:eK}{st:St}{a:Act}{w:World}{env:Env}
theorem YV(g:Good ty zb st a.tmps w env)(hB:zb.w.heap.size≤w.heap.size){ks ns:List Nat}{d:Nat}(hdp:nI d=false)(hd:look (dX ks [] st.hp) d=none){v v':Value}{w':World}{t:Tag}{l:List (T t)}{fp fx jD:List Nat}
  (jr: ∀b,b∈fp++fx→ ∃i o,i∈ks∧look st.hp i=some o∧b∈(env i).fp)(Fb: ∀b,v.ownBlock=some b→b∈fp)
  (hB':mo (kk t) (rd t) 0 (ty t) w' v' l jD)(hg:w.grownBy w' v.ownBlock)(hsub: ∀b,b∈jD→b∈fp∨b∈fx∨w.heap.size≤b)
  (Qa: ∀n,n∈ns→n∈ks)(hin: ∀n o b,n∈ns→look st.hp n=some o→b∈(env n).fp→b∈jD∧w'.heap[b]? =w.heap[b]?):
  ∃env',Good ty zb ⟨st.n,st.sl.map fun e=>(e.1,e.2.rev st.hp ks ns d),(d, .arr t l)::OH st.hp ks ns d st.hp⟩ a.tmps w' env'∧(env' d).v=v':=by
 refine⟨fun n=>if n=d then⟨v',jD⟩else env n,?_,by simp⟩
 have hlk: ∀m o,look ((d,Obj.arr t l)::OH st.hp ks ns d st.hp) m=some o→(m=d∧o= .arr t l)∨(m≠d∧m∉ks∧ ∃o',look st.hp m=some o'∧o=o'.rev st.hp ks ns d):=by
  intro m o hm
  by_cases lG:m=d
  ·subst lG;rw[look_eq]at hm;simp only[oI]at hm;exact bI ⟨rfl,hm.symm⟩
  ·rw[cj lG,Ec]at hm
   split at hm
   ·cases hm
   ·rename_i hks
    cases hq:look st.hp m with
    |none=>rw[hq]at hm;cases hm
    |some o'=>rw[hq]at hm;simp only[dI,oI]at hm;exact bn ⟨lG,hks,o',rfl,hm.symm⟩
 have how: ∀b,b∈jD→b<w.heap.size→ ∃i o,i∈ks∧look st.hp i=some o∧b∈(env i).fp:=by
  intro b hb hlt
  rcases hsub b hb with h|h|h
  ·exact jr b (aN _ h)
  ·exact jr b (aH _ h)
  ·omega
 have hnd: ∀m o,m∉ks→look st.hp m=some o→m≠d:=by
  rintro m o hks h1 rfl
  rw[dr,if_neg hks,h1]at hd
  cases hd
 have hst: ∀m o,m∉ks→look st.hp m=some o→ ∀b,b∈(env m).fp→w'.heap[b]? =w.heap[b]? :=by
  intro m o hks h3 b hb
  refine hg.block b ((g.obj m o h3).AH b hb) fun e=> ?_
  obtain⟨i,oi,hi,h5,h6⟩:=jr b (aN _ (Fb b e.symm))
  exact g.mu m i _ _ (fun e=>hks (e▸hi)) h3 h5 b hb h6
 have s:uP ks [] w st.hp env w' ((d, .arr t l)::OH st.hp ks ns d st.hp) (fun n=>if n=d then⟨v',jD⟩else env n):=by
  refine⟨fun b hb hno=>hg.block b hb fun e=> ?_,?_,?_,?_⟩
  ·obtain⟨i,o',_,h1,h2⟩:=jr b (aN _ (Fb b e.symm))
   exact hno ⟨i,o',h1,h2⟩
  ·rintro b hb ⟨m,o',h1,h2⟩
   rcases hlk m o' h1 with⟨rfl,rfl⟩| ⟨lG,hks,By,h3,rfl⟩
   ·simp at h2
    obtain⟨i,o',_,h3,h4⟩:=how b h2 hb
    exact⟨i,o',h3,h4⟩
   ·simp[lG]at h2
    exact⟨m,By,h3,h2⟩
  ·intro m o' hks h1
   have lG:=hnd m o' hks h1
   refine⟨o'.rev st.hp ks ns d,by rw[cj lG,Ec,if_neg hks,h1];rfl,by cases o'<;>simp[Obj.like,Obj.rev],by simp[lG]⟩
  ·rintro m t' l' ⟨hks,_⟩ h1
   have lG:=hnd m _ hks h1
   exact⟨by rw[cj lG,Ec,if_neg hks,h1];rfl,by simp[lG],hst m _ hks h1⟩
 have hv: ∀n t1 l1,n∈ns→look st.hp n=some (.arr t1 l1)→RA w' ((d, .arr t l)::OH st.hp ks ns d st.hp) (fun n=>if n=d then⟨v',jD⟩else env n) (.vw d none t1 l1) (env n).v:=by
  intro n t1 l1 hn hl
  have Cd:=RO.sl (g.obj n _ hl)
  refine⟨⟨_,_,look_eq⟩,⟨_,Sl.agree (gh t1) Cd fun b hb=>(hin n _ b hn hl hb).2,(RO.own (g.obj n _ hl)).nodup,fun b hb=> ?_⟩,fun _ _ h=>by cases h⟩
  simp only[if_true]
  exact(hin n _ b hn hl hb).1
 have X4:Good ty zb ⟨st.n,st.sl.map fun e=>(e.1,e.2.rev st.hp ks ns d),(d, .arr t l)::OH st.hp ks ns d st.hp⟩ a.tmps w' (fun n=>if n=d then⟨v',jD⟩else env n):=by
  refine⟨fun m o' hm=> ?_,fun m m' o1 o2 hne h1 h2 b hb hb'=> ?_,fun s1 x hl=> ?_,fun m o' hm b hb=> ?_,fun m hm=> ?_⟩
  ·rcases hlk m o' hm with⟨rfl,rfl⟩| ⟨lG,hks,By,h3,rfl⟩
   ·simp only[if_true];exact RO.Ki hB'
   ·simp only[if_neg lG]
    exact RO.rev s hv (g.obj m By h3) (hst m By hks h3)
  ·rcases hlk m o1 h1 with⟨e1,_⟩| ⟨lG,hks,q1,h3,_⟩<;>rcases hlk m' o2 h2 with⟨e2,_⟩| ⟨FT,QC,q2,h4,_⟩
   ·exact hne (e1.trans e2.symm)
   ·simp only[if_pos e1]at hb
    simp only[if_neg FT]at hb'
    have hlt:=(g.obj m' q2 h4).AH b hb'
    obtain⟨i,oi,hi,h5,h6⟩:=how b hb hlt
    exact g.mu m' i _ _ (fun e=>QC (e▸hi)) h4 h5 b hb' h6
   ·simp only[if_pos e2]at hb'
    simp only[if_neg lG]at hb
    have hlt:=(g.obj m q1 h3).AH b hb
    obtain⟨i,oi,hi,h5,h6⟩:=how b hb' hlt
    exact g.mu m i _ _ (fun e=>hks (e▸hi)) h3 h5 b hb h6
   ·simp only[if_neg lG]at hb
    simp only[if_neg FT]at hb'
    exact g.mu m m' _ _ hne h3 h4 b hb hb'
  ·have hl:look (st.sl.map fun e=>(e.1,e.2.rev st.hp ks ns d)) s1=some x:=hl
   rw[nT (α:=SV) (f:=fun e:Nat×SV=>e.2.rev st.hp ks ns d)]at hl
   cases hq:look st.sl s1 with
   |none=>rw[hq]at hl;cases hl
   |some y=>
    rw[hq]at hl
    simp only[dI,oI]at hl
    subst hl
    exact tF.rev s hv (g.slot s1 y hq)
  ·rcases hlk m o' hm with⟨e1,_⟩| ⟨lG,hks,q1,h3,_⟩
   ·simp only[if_pos e1]at hb
    by_cases hlt:b<w.heap.size
    ·obtain⟨i,oi,hi,h5,h6⟩:=how b hb hlt
     exact g.dom i oi h5 b h6
    ·exact bn (by omega)
   ·simp only[if_neg lG]at hb
    exact g.dom m q1 h3 b hb
  ·have:m≠d:=by rintro rfl;rw[hdp]at hm;cases hm
   simp only[if_neg this]
   exact g.pins m hm
 exact X4
theorem Ed(g:Good ty zb st a.tmps w env): ∀{l c:List V} {k:List Nat} {us:List Value},cT (RA w st.hp env) l us→takes st l=some (c,k)→k.Nodup→
  ∃fp,dQ w c us fp∧Own 0 w fp∧(∀b,b∈fp→ ∃i o,i∈k∧look st.hp i=some o∧b∈(env i).fp)∧ ∀i b,i∈k→b∈(env i).fp→b∈fp
 | [],c,k,us,hr,h,_=>by
   simp only[takes,oI,pI]at h
   obtain⟨rfl,rfl⟩:=h
   cases us with
   |nil=>exact⟨[],rfl,Own.nil _ _,by simp,by simp⟩
   |cons _ _=>exact hr.elim
 |v::r,c,k,us,hr,h,hnd=>by
  cases us with
  |nil=>exact hr.elim
  |cons u us=>
   cases v with
   |lit x=>
    simp only[takes]at h
    split at h
    ·rename_i c' k' h'
     simp only[oI,pI]at h
     obtain⟨rfl,rfl⟩:=h
     obtain⟨fp,h1,h2,h3,h4⟩:=Ed g hr.2 h' hnd
     obtain⟨e1,e2⟩:=hr.1
     exact⟨fp,⟨[],fp,⟨e1,e2,rfl⟩,h1,rfl⟩,h2,h3,h4⟩
    ·cases h
   |own n=>
    simp only[takes]at h
    split at h
    ·rename_i t l c' k' hl h'
     simp only[oI,pI]at h
     obtain⟨rfl,rfl⟩:=h
     obtain⟨hn1,hn2⟩:=List.nodup_cons.1 hnd
     obtain⟨fp,h1,h2,h3,h6⟩:=Ed g hr.2 h' hn2
     obtain⟨_,rfl⟩:=hr.1
     have hb:=RO.sl (g.obj n _ hl)
     have ho:=RO.own (g.obj n _ hl)
     refine⟨(env n).fp++fp,⟨_,_,hb,h1,rfl⟩,⟨bf.2 ⟨ho.nodup,h2.nodup,?_⟩,fun b hb=> ?_,fun b hb=> ?_⟩,fun b hb=> ?_,fun i b hi hbi=> ?_⟩
     ·rintro b hb x hx rfl
      obtain⟨i,o,hi,h4,h5⟩:=h3 b hx
      exact g.mu n i _ _ (fun e=>hn1 (e▸hi)) hl h4 b hb h5
     ·rcases aL.1 hb with hb|hb
      ·exact ho.ge b hb
      ·exact h2.ge b hb
     ·rcases aL.1 hb with hb|hb
      ·exact ho.kind b hb
      ·exact h2.kind b hb
     ·rcases aL.1 hb with hb|hb
      ·exact⟨n,_,by simp,hl,hb⟩
      ·obtain⟨i,o,hi,h4,h5⟩:=h3 b hb
       exact⟨i,o,aK _ hi,h4,h5⟩
     ·rcases bh.1 hi with rfl|hi
      ·exact aN _ hbi
      ·exact aH _ (h6 i b hi hbi)
    ·cases h
   |_=>simp[takes]at h
theorem Ip(g:Good ty zb st a.tmps w env){t:Tag}: ∀{ps:List (Nat×Operand)} {i:Nat} {vc:List Prop} {xs:List (T t)} {ks:List Nat},HD st t i ps=some (vc,xs,ks)→ks.Nodup→(∀q,q∈vc→q)→
  (ps.map fun p=>(p.1,a.eval p.2))=zW i (ps.map fun p=>a.eval p.2)∧xs.length=ps.length∧ ∃cB:List (List Nat),cB.length=xs.length∧
   (∀(i:Nat) (x:T t) (f:List Nat),xs[i]? =some x→cB[i]? =some f→ ∃p:Nat×Operand,ps[i]? =some p∧rd t w (a.eval p.2).cells.toList x f)∧Own 0 w cB.flatten∧(∀b,b∈cB.flatten→ ∃i o,i∈ks∧look st.hp i=some o∧b∈(env i).fp)∧
   ∀i b,i∈ks→b∈(env i).fp→b∈cB.flatten
 | [],i,vc,xs,ks,h,_,_=>by
   simp only[HD,oI,pI]at h
   obtain⟨rfl,rfl,rfl⟩:=h
   exact⟨rfl,rfl,[],rfl,by simp,Own.nil _ _,by simp,by simp⟩
 | (j,x)::r,i,vc,xs,ks,h,hnd,hv=>by
   simp only[HD]at h
   split at h
   ·rename_i s hij hx
    have hij:=ay hij
    subst hij
    split at h
    ·rename_i c k hc
     split at h
     ·rename_i tG y vcs ys ks1 he hb
      simp only[oI,pI]at h
      obtain⟨rfl,rfl,rfl⟩:=h
      obtain⟨hn1,hn2,hn3⟩:=bf.1 hnd
      obtain⟨q1,q2,cB,q3,q4,q5,q6,q7⟩:=Ip g hb hn2 (fun q hq=>hv q (aH _ hq))
      obtain⟨fp,r1,r2,r3,r4⟩:=Ed g (m6 g (gG g (fun e he=>by simp at he) hx) (jJ hc)) hc hn1
      have hE:=vJ t he (fun q hq=>hv q (aN _ hq)) r1
      refine⟨by simp[zW,q1],by simp[q2],fp::cB,by simp[q3],?_,⟨?_,?_,?_⟩,?_,?_⟩
      ·intro i' x' f hx' hf
       cases i' with
       |zero=>simp at hx' hf;subst hx';subst hf;exact⟨(i,x),rfl,hE⟩
       |succ n=>simp at hx' hf;obtain⟨p,h1,h2⟩:=q4 n x' f hx' hf;exact⟨p,by simpa using h1,h2⟩
      ·rw[bQ]
       refine bf.2 ⟨r2.nodup,q5.nodup,?_⟩
       rintro b hb z hz rfl
       obtain⟨n,o1,h1,h2,h3⟩:=r3 b hb
       obtain⟨m,o2,h4,h5,h6⟩:=q6 b hz
       exact g.mu n m _ _ (fun e=>hn3 n h1 m h4 e) h2 h5 b h3 h6
      ·intro b hb
       rw[bQ]at hb
       rcases aL.1 hb with hb|hb
       ·exact r2.ge b hb
       ·exact q5.ge b hb
      ·intro b hb
       rw[bQ]at hb
       rcases aL.1 hb with hb|hb
       ·exact r2.kind b hb
       ·exact q5.kind b hb
      ·intro b hb
       rw[bQ]at hb
       rcases aL.1 hb with hb|hb
       ·obtain⟨n,o1,h1,h2,h3⟩:=r3 b hb;exact⟨n,o1,aN _ h1,h2,h3⟩
       ·obtain⟨n,o1,h1,h2,h3⟩:=q6 b hb;exact⟨n,o1,aH _ h1,h2,h3⟩
      ·intro n b hn hb
       rw[bQ]
       rcases aL.1 hn with hn|hn
       ·exact aN _ (r4 n b hn hb)
       ·exact aH _ (q7 n b hn hb)
     ·cases h
    ·cases h
   ·cases h
end
def ag0(d:Nat):Operand→Bool
 | .tmp s=> !Nat.beq s d
 | .const _=>true
 |_=>false
def ag2(P:Program)(ty:Tag→Nat)(Γ:Nat→TK)(st:St)(m0:Nat)(o1 o2:Oper):Option (List Prop×St):=
 match o1.guard,o1.dst,o1.op with
 |none,some d1, .buildSlice tb len parts=>match Γ tb with
  | .sl t e=>match aU e (ty t)&&aU parts.toList.length len&&Nat.ble (len*kk t) 16777216,HD st t 0 parts.toList with
    |true,some (vc,lx,m)=>match o2.guard,o2.dst,o2.op with
     |none,some d2, .call ⟨.builtin .append,xs,ts⟩=>match xs.toList,ts.toList with
      | [s, .tmp d],[t1,t2]=>match aU d d1&&ag0 d1 s&&aU t1 tb&&aU t2 tb,jH st [] s with
        |true,some vs=>match HA st t vs with
         |some (l,k)=>match uw m&&B0 k m&& !pinned k&& !nI m0&&mP d1 st.n&&mP d2 st.n,look (dX (rz k m) [] st.hp) m0 with
          |true,none=>some ([El P ty t,(l.length+lx.length)*gb t≤140737488355328∧l.length+lx.length≤maxLen]++vc,
            (St.put ⟨st.n,st.sl.map fun e=>(e.1,e.2.rev st.hp (rz k m) m m0),(m0, .arr t (l++lx))::OH st.hp (rz k m) m m0 st.hp⟩ (some d1) (.one (.a .any))).put (some d2) (.one (.a (.own m0))))
          |_,_=>none
         |none=>none
        |_,_=>none
      |_,_=>none
     |_,_,_=>none
    |_,_=>none
  |_=>none
 |_,_,_=>none
theorem Re{w:World}{base:Nat}{e:TypeId}{k g o n cap:Nat}{xs:List Value}(h:k9 w base e k (.slice (some ⟨g,o,none⟩) n cap) n xs): ∀j u,xs[j]? =some u→w.cell? ((⟨g,o,none⟩:Addr).add j)=some u:=by
 intro j u hu
 rcases h.2 with⟨h1,_⟩| ⟨g',o',cap',cur,hv,_,hg,_,_,_,GM⟩
 ·cases h1
 ·simp only[Value.slice.injEq,oI,Addr.mk.injEq,and_true,true_and]at hv
  obtain⟨⟨rfl,rfl⟩,rfl⟩:=hv
  rw[Addr.add_mid]
  exact zm hg j u (by rw[GM];exact hu)
section
variable{P:Program}{zb:eK}{st:St}{a:Act}{w:World}{env:Env}{o:Oper}
theorem acZ{Γ:Nat→TK}(C: ∀t,fK P t (Γ t)){m0:Nat}{o1 o2:Oper}{vc:List Prop}{st':St}(h:ag2 P ty Γ st m0 o1 o2=some (vc,st'))(hv: ∀q,q∈vc→q)(iv:Inv ty zb st a w)
  {ops:Array Oper}{tail:List Oper}{Q:Exit→Act→World→Prop}(hQ: ∀a w,Inv ty zb st' a w→wpList P ops Q tail a w):wpList P ops Q (o1::o2::tail) a w:=by
 obtain⟨env,g⟩:=iv.good
 have hB:=iv.kept.size
 unfold ag2 at h
 split at h
 case h_2=>cases h
 rename_i d1 tb len parts hg1 hd1 ho1
 split at h
 case h_2=>cases h
 rename_i t e hk
 split at h
 case h_2=>cases h
 rename_i tG lx m AQ hb
 split at h
 case h_2=>cases h
 rename_i d2 xs ts hg2 hd2 WC
 split at h
 case h_2=>cases h
 rename_i s d t1 t2 hxl htl
 split at h
 case h_2=>cases h
 rename_i vs LL hs
 split at h
 case h_2=>cases h
 rename_i l k hds
 split at h
 case h_2=>cases h
 rename_i hc3 hlk
 simp only[oI,pI,gV]at h
 rw[gV]at hlk
 obtain⟨rfl,amf⟩:=h
 simp only[ak,bq]at AQ LL hc3
 obtain⟨⟨he,hlen⟩,hbig⟩:=AQ
 obtain⟨⟨⟨hdd,hoff⟩,ht1⟩,ht2⟩:=LL
 obtain⟨⟨⟨⟨⟨hnd,hno⟩,hpk⟩,Hx⟩,hl1⟩,ru⟩:=hc3
 have he:=ay he
 obtain rfl:=ay hdd
 obtain rfl:=ay ht1
 obtain rfl:=ay ht2
 obtain rfl:xs= #[s, .tmp d]:=by cases xs;simp_all
 obtain rfl:ts= #[t2,t2]:=by cases ts;simp_all
 have wL:El P ty t:=hv _ (by simp)
 obtain⟨cx,dY⟩:(l.length+lx.length)*gb t≤140737488355328∧l.length+lx.length≤maxLen:=hv _ (by simp)
 obtain⟨q1,q2,cB,q3,q4,q5,q6,q7⟩:=Ip g hb (nr hnd) (fun q hq=>hv q (by simp[hq]))
 have hC:=C t2
 rw[hk,he]at hC
 have hlen:=ay hlen
 obtain⟨w1,r1,r2,r3⟩:=zw (P:=P) (w:=w) (a:=a) ho1 hC.1 wL (bX hbig) hlen (aD _) q1 q2 q3 q4 q5
 have g1:Good ty zb st a.tmps w1 env:=by
  have:=Good.grow hB g (os:= []) rfl (oZ.none r2)
  exact this
 have hB1:zb.w.heap.size≤w1.heap.size:=dy hB r2.size
 have hR1:lF P ops o1 a w (fun a' w'=>a'=a.put o1.dst (.slice (some ⟨w.heap.size,0,none⟩) len len)∧w1=w') Q:=by
  refine mX hg1 ?_
  unfold Oper.wp
  rw[r1]
  exact⟨rfl,rfl⟩
 refine hR1.mono ?_
 rintro a1 w1 ⟨rfl,rfl⟩
 have Fa:d<a.tmps.size:=by rw[iv.size];exact bX hl1
 have amg:d2<a.tmps.size:=by rw[iv.size];exact bX ru
 rw[hd1]
 have qT:(a.put (some d) (.slice (some ⟨w.heap.size,0,none⟩) len len)).eval s=a.eval s:=by
  cases s with
  |tmp s=>
   simp only[ag0,bq]at hoff
   have hne:s≠d:=by rintro rfl;simp at hoff
   show(a.tmps.setIfInBounds d _).getD s undef=a.tmps.getD s undef
   rw[aa,aa,fL (fun e=>hne e.symm)]
  |const v=>rfl
  |_=>simp[ag0]at hoff
 have hxv:(a.put (some d) (.slice (some ⟨w.heap.size,0,none⟩) len len)).eval (.tmp d)= .slice (some ⟨w.heap.size,0,none⟩) len len:=by
  show(a.tmps.setIfInBounds d _).getD d undef=_
  rw[aa,hJ Fa];rfl
 obtain⟨fp,hD,xC⟩:=DO g1 (gG g1 (fun e he=>by simp at he) hs) hds hpk
 obtain⟨news,fx,hown,hfl,hfe,jr,hfo⟩:=r3
 have Sq:fx.flatten=cB.flatten:=by simpa[Value.ownBlock]using jr.symm
 have hq5:Own 0 w1 cB.flatten:=q5.below r2
 have hlx:len=lx.length:=by rw[q2,hlen]
 have Uu:Own 0 w1 (fp++fx.flatten):=by
  rw[Sq]
  have ho:=hD.own
  refine⟨bf.2 ⟨ho.nodup,hq5.nodup,?_⟩,fun b hb=> ?_,fun b hb=> ?_⟩
  ·rintro b hb c hc rfl
   obtain⟨i,oi,hi,h1,h2⟩:=xC b hb
   obtain⟨j,oj,hj,h3,h4⟩:=q6 b hc
   have hij:i≠j:=by
    rintro rfl
    simp only[B0,bw,bq,bR]at hno
    exact hno i hi i hj (by simp)
   exact g.mu i j _ _ hij h1 h3 b h2 h4
  ·rcases aL.1 hb with hb|hb
   ·exact ho.ge b hb
   ·exact hq5.ge b hb
  ·rcases aL.1 hb with hb|hb
   ·exact ho.kind b hb
   ·exact hq5.kind b hb
 have Fb: ∀b,(a.eval s).ownBlock=some b→b∈fp:=by
  intro b hb
  obtain⟨xs,cB,_,_,_,jr,_⟩:=hD
  rw[jr,hb];simp
 have hsrc:Src w1 (.slice (some ⟨w.heap.size,0,none⟩) len len) lx.length news:=by
  subst hlx
  exact bn ⟨⟨w.heap.size,0,none⟩,_,rfl,Re hown⟩
 have hR2:lF P ops o2 (a.put (some d) (.slice (some ⟨w.heap.size,0,none⟩) len len)) w1 (fun a' w'=>Inv ty zb st' a' w') Q:=by
  refine mX hg2 ?_
  refine Gh s (.tmp d) t2 WC (gh t) (jt t) 0 (ty t) (iX t) (gb t) hC.1 wL (mW t) (a.eval s) l fp qT hD _ hxv lx news fx hsrc hfl hown.1 hfe Uu dY cx (aD _) ?_
  intro v' w' jD k1 k2 k3 k4 k5 k6
  obtain⟨env',hg',HC⟩:=YV (ty:=ty) g1 hB1 (ks:=k++m) (ns:=m) Hx hlk (v:=a.eval s) (fp:=fp) (fx:=cB.flatten)
   (by
    intro b hb
    rcases aL.1 hb with hb|hb
    ·obtain⟨i,oi,hi,h1⟩:=xC b hb;exact⟨i,oi,aN _ hi,h1⟩
    ·obtain⟨i,oi,hi,h1⟩:=q6 b hb;exact⟨i,oi,aH _ hi,h1⟩)
   Fb k1 k2 (fun b hb=>by
    rcases k4 b hb with h|h|h
    ·exact bI h
    ·exact bn (bI (Sq▸h))
    ·exact bn (bn (by omega)))
   (fun n hn=>aH _ hn)
   (fun n o b hn hl hb=>by
    have QE:=q7 n b hn hb
    refine⟨k6 b (by rw[Sq];exact QE),k2.block b (hq5.lt b QE) fun e=> ?_⟩
    obtain⟨i,oi,hi,h1,h2⟩:=xC b (Fb b e.symm)
    have hij:i≠n:=by
     rintro rfl
     simp only[B0,bw,bq,bR]at hno
     exact hno i hi i hn (by simp)
    exact g.mu i n _ _ hij h1 hl b h2 hb)
  have ajG:Kept zb w1 w':=by
   refine⟨k2.os,k2.tape,k2.output,k2.size,fun b hb hn=>k2.block b (by omega) fun e=> ?_,k5⟩
   obtain⟨i,oi,hi,h1,h2⟩:=xC b (Fb b e.symm)
   rcases g.dom i oi h1 b h2 with h|h
   ·exact hn h
   ·omega
  rw[←amf]
  refine⟨?_,?_,(iv.kept.trans (oY r2 hB)).trans ajG,iv.Jx,env',?_⟩
  ·rw[lE,lE,Av,Av];exact iv.size
  ·rw[put_defers,put_defers];exact iv.defers
  ·have gp:=sC hg' (dst:=some d) (fun _ e=>by cases e;exact Fa) (v:= .one (.a .any)) (u:= .slice (some ⟨w.heap.size,0,none⟩) len len) trivial (fun d _=>tP ⟨_,rfl⟩)
   rw[hd2]
   refine sC gp (fun _ e=>by cases e;rw[lE];exact amg) ?_ (fun d _=>tP ⟨_,rfl⟩)
   rw[agc]
   exact⟨⟨t,_,look_eq⟩,HC.symm⟩
 exact hR2.mono fun a' w' uz=>hQ a' w' uz
end
def Iq:Nat→List Oper→Option (List Oper×Oper×Oper×List Oper)
 |0,o1::o2::r=>some ([],o1,o2,r)
 |n+1,o::r=>match Iq n r with
  |some (p,o1,o2,q)=>some (o::p,o1,o2,q)
  |none=>none
 |_,_=>none
theorem KG: ∀{n:Nat} {l p q:List Oper} {o1 o2:Oper},Iq n l=some (p,o1,o2,q)→l=p++o1::o2::q
 |0,[],_,_,_,_,h=>by cases h
 |0,[_],_,_,_,_,h=>by cases h
 |0,o1::o2::r,p,q,a,b,h=>by
  simp only[Iq,oI,pI]at h
  obtain⟨rfl,rfl,rfl,rfl⟩:=h;rfl
 |n+1,[],_,_,_,_,h=>by cases h
 |n+1,o::r,p,q,a,b,h=>by
  simp only[Iq]at h
  split at h
  ·rename_i p' o1 o2 q' h'
   simp only[oI,pI]at h
   obtain⟨rfl,rfl,rfl,rfl⟩:=h
   rw[KG h'];rfl
  ·cases h
def runK(P:Program)(ty:Tag→Nat)(Γ:Nat→TK)(fQ:List (Nat×Nat))(cr:List (Nat×CR))(ops rest:List Oper)(tG:List Prop):Option (List Prop×St)→Option (List Prop×St)
 |some ([p,q],⟨n,sl,hp⟩)=>run P ty Γ fQ cr ops rest ⟨n,sl,hp⟩ (p::q::tG)
 |some ([p,q,r],⟨n,sl,hp⟩)=>run P ty Γ fQ cr ops rest ⟨n,sl,hp⟩ (p::q::r::tG)
 |some (l,⟨n,sl,hp⟩)=>run P ty Γ fQ cr ops rest ⟨n,sl,hp⟩ (l++tG)
 |none=>none
def fR:Option (List Prop×St)→Option (List Prop×St)
 |some (l,st)=>match U6 st with|some st=>some (l,st)|none=>none
 |none=>none
theorem ajH{x:Option (List Prop×St)}{y:List Prop×St}(h:fR x=some y):x=some y:=by
 unfold fR at h
 split at h
 ·split at h
  ·rename_i l st Gs hs
   simp only[oI]at h
   rw[←h,sI hs]
  ·cases h
 ·cases h
theorem ac0{P:Program}{Γ:Nat→TK}{fQ:List (Nat×Nat)}{cr:List (Nat×CR)}{ops rest:List Oper}{tG:List Prop}{x:Option (List Prop×St)}{y:List Prop×St}(h:runK P ty Γ fQ cr ops rest tG x=some y):
  ∃l st acc,x=some (l,st)∧run P ty Γ fQ cr ops rest st acc=some y∧ ∀q,q∈l++tG→q∈acc:=by
 unfold runK at h
 split at h
 ·exact⟨_,_,_,rfl,h,fun q hq=>by simpa using hq⟩
 ·exact⟨_,_,_,rfl,h,fun q hq=>by simpa using hq⟩
 ·exact⟨_,_,_,rfl,h,fun q hq=>by simpa using hq⟩
 ·cases h
def ajI(P:Program)(ty:Tag→Nat)(Γ:Nat→TK)(fQ:List (Nat×Nat))(cr:List (Nat×CR))(ks:List Nat)(ix m0:Nat)(ops:List Oper):St→Option (List Prop×St)
 | ⟨n,sl0,kV⟩=>match Iq ix ops with
   |some (pre,o1,o2,rest)=>match run P ty Γ fQ cr ops pre ⟨n,sl0,kV⟩ []with
    |some (tG,FV)=>match runK P ty Γ fQ cr ops rest tG (fR (ag2 P ty Γ FV m0 o1 o2))with
     |some (vc,st')=>match S6 n st' ks,aU st'.n n with
      |some Gs,true=>some (vc,Gs)
      |_,_=>none
     |none=>none
    |none=>none
   |none=>none
section
variable{P:Program}{Γ:Nat→TK}{zb:eK}{Q:Post}{st:St}
theorem Te(X:Ctx P ty Γ)(fQ:List (Nat×Nat))(cr:List (Nat×CR))(ks:List Nat)(ix m0:Nat){id:Nat}{ops:List Oper}{vc:List Prop}{st':St}(h:ajI P ty Γ fQ cr ks ix m0 ops st=some (vc,st'))(hv:qK vc)(k:Q .normal st'):
  W P ty zb (.region id ops.toArray false) Q st:=by
 intro a w iv
 obtain⟨n,sl0,kV⟩:=st
 unfold G.ajI at h
 dsimp only at h
 split at h
 case h_2=>cases h
 rename_i pre o1 o2 rest hsp
 split at h
 case h_2=>cases h
 rename_i tG FV hrun
 split at h
 case h_2=>cases h
 rename_i vc2 Gs hk
 split at h
 case h_2=>cases h
 rename_i st3 hkeep hn
 simp only[oI,pI]at h
 obtain⟨rfl,rfl⟩:=h
 obtain⟨l,st4,acc,he,YW,hacc⟩:=ac0 hk
 have he:=ajH he
 have hv:=hv.out
 refine wp_region_lit ?_
 rw[show wpList P ops.toArray (JP ty zb Q) ops a w=wpList P ops.toArray (JP ty zb Q) (pre++o1::o2::rest) a w by rw[←KG hsp]]
 refine Mf X.kind X.one (fun a w iv=> ?_) hrun (fun q hq=>hv q (Ce YW q (hacc q (aH _ hq)))) iv
 refine acZ X.kind he (fun q hq=>hv q (Ce YW q (hacc q (aN _ hq)))) iv fun a w iv=> ?_
 refine QX X.kind X.one (fun a w iv=>⟨_,?_,k⟩) YW hv iv
 unfold S6 at hkeep
 split at hkeep
 ·rename_i sl hp h1 h2
  split at hkeep
  ·rename_i hc
   simp only[oI]at hkeep
   subst hkeep
   exact iv.weaken (ay hn).symm (pe h1) (pg h2) hc
  ·cases hkeep
 ·cases hkeep
end
def rename(st:St)(s m:Nat):Option St:=match look st.sl s,mP s st.n with
 |some (.one (.a (.own n))),true=>match look st.hp n,pinned [n],nI m,look (dX [n] [] st.hp) m with
  |some (.arr t l),false,false,none=>U6 ((st.gone [n] m t l).put (some s) (.one (.a (.own m))))
  |_,_,_,_=>none
 |_,_=>none
theorem VC{zb:eK}{st st':St}{s m:Nat}(h:rename st s m=some st'){a:Act}{w:World}(iv:Inv ty zb st a w):Inv ty zb st' a w:=by
 obtain⟨env,g⟩:=iv.good
 have hB:=iv.kept.size
 unfold rename at h
 split at h
 case h_2=>cases h
 rename_i n hs hlt
 split at h
 case h_2=>cases h
 rename_i t l hl hpk Hx hlk
 have h:=sI h
 rw[St.gone_eq]at h
 have hsf:soft n=false:=sD hpk (by simp)
 have hb:=RO.bld hsf (g.obj n _ hl)
 have Fb: ∀b,(env n).v.ownBlock=some b→b∈(env n).fp:=by
  intro b hb'
  obtain⟨xs,cB,_,_,_,jr,_⟩:=hb
  rw[jr,hb'];simp
 obtain⟨env',hg',HC⟩:=BZ (ty:=ty) g hB (ks:= [n]) hpk Hx hlk (v:=(env n).v) (v':=(env n).v) (w':=w) (fp:=(env n).fp) (fx:= []) (by
  intro b hb
  rw[cS]at hb
  exact⟨n,_,by simp,hl,hb⟩) Fb hb ⟨rfl,rfl,rfl,aZ _,fun _ _ _=>rfl⟩ (fun b hb=>bI hb)
 have hlt:s<a.tmps.size:=by rw[iv.size];exact bX hlt
 obtain⟨_,hu⟩:=g.slot s _ hs
 have gp:=hg'.put hlt (v:= .one (.a (.own m))) (u:=a.tmps.getD s undef) ⟨⟨t,l,look_eq⟩,by rw[HC];exact hu⟩ rfl
 have e:a.tmps.setIfInBounds s (a.tmps.getD s undef)=a.tmps:=by
  rw[aa,mF hlt]
  apply YX
  ·simp
  ·intro i h1 h2
   rw[sS]
   split
   ·rename_i hi;subst hi;rfl
   ·rfl
 rw[e]at gp
 rw[h]
 exact⟨by rw[Av];exact iv.size,iv.defers,iv.kept,iv.Jx,env',gp⟩
theorem rQ{P:Program}{zb:eK}{Q:Post}{st st':St}{c:Code}(s m:Nat)(h:G.rename st s m=some st')(k:W P ty zb c Q st'):W P ty zb c Q st:=fun a w iv=>k a w (VC h iv)
def Rf(st:St)(b i m:Nat)(t:Tag):Option St:=match look st.hp b,nI m,look st.hp m with
 |some (.box c),false,none=>match BJ c i with
  |some (.lit (.slice none 0 0))=>U6 ⟨st.n,st.sl,(b, .box (c.set i (.own m)))::(m, .arr t [])::st.hp⟩
  |_=>none
 |_,_,_=>none
theorem cT.set'{R R':V→Value→Prop}{y:V}(hm: ∀a u,R a u→R' a u): ∀{c:List V} {cs:List Value} {i:Nat} {v:V},cT R c cs→BJ c i=some v→(∀u,R v u→R' y u)→cT R' (c.set i y) cs
 | [],_,_,_,_,h,_=>by cases h
 |a::r,[],_,_,h,_,_=>h.elim
 |a::r,u::us,0,v,⟨h1,h2⟩,h,hy=>by
  simp only[BJ,oI]at h
  subst h
  exact⟨hy u h1,h2.mono fun a b _ h=>hm a b h⟩
 |a::r,u::us,i+1,v,⟨h1,h2⟩,h,hy=>⟨hm a u h1,cT.set' hm h2 (by simpa[BJ]using h) hy⟩
theorem VD{zb:eK}{st st':St}{b i m:Nat}{t:Tag}(h:Rf st b i m t=some st'){a:Act}{w:World}(iv:Inv ty zb st a w):Inv ty zb st' a w:=by
 obtain⟨env,g⟩:=iv.good
 have hB:=iv.kept.size
 unfold Rf at h
 split at h
 case h_2=>cases h
 rename_i c hl Hx hlk
 split at h
 case h_2=>cases h
 rename_i he
 have h:=sI h
 have hne:b≠m:=by rintro rfl;rw[hl]at hlk;cases hlk
 have hN:oZ (ty:=ty) w w st.hp [(m, .arr t [])] env (fun n=>if n=m then⟨Lu,[]⟩else env n):=by
  refine⟨Below.refl _ _,fun n hn=> ?_,fun n o hn=> ?_,fun n n' o o' hne h1 h2=> ?_⟩
  ·by_cases hnm:n=m
   ·subst hnm;rw[look_eq]at hn;cases hn
   ·simp[hnm]
  ·by_cases hnm:n=m
   ·subst hnm
    rw[look_eq]at hn
    simp only[oI]at hn
    subst hn
    simp only[if_true]
    exact⟨RO.Ki (mo.nil _ _ _ _ _),by simp⟩
   ·rw[cj hnm]at hn;cases hn
  ·intro x hx
   by_cases hnm:n=m
   ·subst hnm;simp at hx
   ·rw[cj hnm]at h1;cases h1
 have g1:=Good.grow hB g (os:= [(m, .arr t [])]) (by simp[fresh,hlk,Hx]) hN
 have hl1:look ([(m,Obj.arr t [])]++st.hp) b=some (.box c):=by
  show look ((m,Obj.arr t [])::st.hp) b=_
  rw[cj hne];exact hl
 obtain⟨b',cs,e,BU,hh,hc⟩:=g1.obj b _ hl1
 have g2:=Hz (off:=0) (us:= []) (c':=c.set i (.own m)) g1 hl1 BU hh (aD _) (by
  simp only[mH,eM,dZ,fF,eS]
  refine cT.set' (fun _ _ h=>h) hc he fun u hu=> ?_
  obtain⟨rfl,_⟩:=hu
  refine⟨⟨t,[],look_eq⟩,?_⟩
  simp only[if_true])
 rw[h]
 exact⟨iv.size,iv.defers,iv.kept,iv.Jx,_,g2⟩
theorem l6{P:Program}{zb:eK}{Q:Post}{st st':St}{c:Code}(b i m:Nat)(t:Tag)(h:G.Rf st b i m t=some st')(k:W P ty zb c Q st'):W P ty zb c Q st:=fun a w iv=>k a w (VD h iv)
def Mi(st:St)(b i m:Nat):Option St:=match look st.hp b with
 |some (.box c)=>match BJ c i with
  |some (.own n)=>match look st.hp n,pinned [n],nI m,look (dX [n] [] st.hp) m with
   |some (.arr t l),false,false,none=>match st.gone [n] m t l with
    | ⟨nn,sl,hp⟩=>U6 ⟨nn,sl,(b, .box ((c.map fun v=>v.cR [n] []).set i (.own m)))::hp⟩
   |_,_,_,_=>none
  |_=>none
 |_=>none
theorem cT.ajJ{R R':V→Value→Prop}{f:V→V}{y:V}(hm: ∀a u,R a u→R' (f a) u): ∀{c:List V} {cs:List Value} {i:Nat} {v:V},cT R c cs→BJ c i=some v→(∀u,R v u→R' y u)→cT R' ((c.map f).set i y) cs
 | [],_,_,_,_,h,_=>by cases h
 |a::r,[],_,_,h,_,_=>h.elim
 |a::r,u::us,0,v,⟨h1,h2⟩,h,hy=>by
  simp only[BJ,oI]at h
  subst h
  exact⟨hy u h1,h2.map hm⟩
 |a::r,u::us,i+1,v,⟨h1,h2⟩,h,hy=>⟨hm a u h1,cT.ajJ hm h2 (by simpa[BJ]using h) hy⟩
theorem Rg{zb:eK}{st st':St}{b i m:Nat}(h:Mi st b i m=some st'){a:Act}{w:World}(iv:Inv ty zb st a w):Inv ty zb st' a w:=by
 obtain⟨env,g⟩:=iv.good
 have hB:=iv.kept.size
 unfold Mi at h
 split at h
 case h_2=>cases h
 rename_i c Nc
 split at h
 case h_2=>cases h
 rename_i n he
 split at h
 case h_2=>cases h
 rename_i t l hl hpk Hx hlk
 rw[St.gone_eq]at h
 have h:=sI h
 have hsf:soft n=false:=sD hpk (by simp)
 have hb:=RO.bld hsf (g.obj n _ hl)
 have Fb: ∀b,(env n).v.ownBlock=some b→b∈(env n).fp:=by
  intro b hb'
  obtain⟨xs,cB,_,_,_,jr,_⟩:=hb
  rw[jr,hb'];simp
 obtain⟨env',hg',HC,hold,amh⟩:=DN (ty:=ty) g hB (ks:= [n]) hpk Hx hlk (v:=(env n).v) (v':=(env n).v) (w':=w) (fp:=(env n).fp) (fx:= []) (by
  intro b hb
  rw[cS]at hb
  exact⟨n,_,by simp,hl,hb⟩) Fb hb ⟨rfl,rfl,rfl,aZ _,fun _ _ _=>rfl⟩ (fun b hb=>bI hb)
 have hbn:b≠n:=by rintro rfl;rw[Nc]at hl;cases hl
 have hbk:look (dX [n] [] st.hp) b=some (.box (c.map fun v=>v.cR [n] [])):=by
  rw[dr,if_neg (by simpa using hbn),Nc];rfl
 have JL:b≠m:=by rintro rfl;rw[hbk]at hlk;cases hlk
 have dY:look ((m,Obj.arr t l)::dX [n] [] st.hp) b=some (.box (c.map fun v=>v.cR [n] [])):=by rw[cj JL];exact hbk
 obtain⟨b',cs,e,BU,hh,hc⟩:=hg'.obj b _ dY
 obtain⟨b0,cs0,e0,ami,hh0,hc0⟩:=g.obj b _ Nc
 have hbb:b'=b0:=by
  rw[hold b JL,ami]at BU
  simpa using BU.symm
 subst hbb
 have hcs:cs=cs0:=by
  rw[hh0]at hh
  simp at hh
  exact hh.1.symm
 subst hcs
 have s:uP [n] [] w st.hp env w ((m,Obj.arr t l)::dX [n] [] st.hp) env':=by
  have hnm: ∀x o,x≠n→look st.hp x=some o→x≠m:=by
   rintro x o hx h1 rfl
   rw[dr,if_neg (by simpa using hx),h1]at hlk;cases hlk
  refine⟨fun _ _ _=>rfl,?_,?_,?_⟩
  ·rintro x hx ⟨y,o',h1,h2⟩
   by_cases hy:y=m
   ·subst hy
    exact⟨n,_,hl,by rw[←amh];exact h2⟩
   ·rw[hold y hy]at h2
    rw[cj hy,dr]at h1
    split at h1
    ·cases h1
    ·cases hq:look st.hp y with
     |none=>rw[hq]at h1;cases h1
     |some o=>exact⟨y,o,hq,h2⟩
  ·intro x o hx h1
   have hx:x≠n:=by simpa using hx
   have hxm:=hnm x o hx h1
   exact⟨o.cR [n] [],by rw[cj hxm,dr,if_neg (by simpa using hx),h1];rfl,by cases o<;>simp[Obj.like,Obj.cR],by rw[hold x hxm]⟩
  ·rintro x t' l' ⟨hx,_⟩ h1
   have hx:x≠n:=by simpa using hx
   have hxm:=hnm x _ hx h1
   exact⟨by rw[cj hxm,dr,if_neg (by simpa using hx),h1];rfl,by rw[hold x hxm],fun _ _=>rfl⟩
 have g2:=Hz (off:=0) (us:= []) (c':=(c.map fun v=>v.cR [n] []).set i (.own m)) hg' dY BU hh (aD _) (by
  simp only[mH,eM,dZ,fF,eS]
  refine cT.ajJ (fun v u h=>RA.kZ s h) hc0 he fun u hu=> ?_
  obtain⟨_,hu⟩:=hu
  exact⟨⟨t,l,look_eq⟩,by rw[hu,HC]⟩)
 rw[h]
 exact⟨iv.size,iv.defers,iv.kept,iv.Jx,_,g2⟩
theorem pP{P:Program}{zb:eK}{Q:Post}{st st':St}{c:Code}(b i m:Nat)(h:G.Mi st b i m=some st')(k:W P ty zb c Q st'):W P ty zb c Q st:=fun a w iv=>k a w (Rg h iv)
end
section
variable{ty:Tag→Nat}
inductive kE where
 |last(q:Nat)
 |ph(q:Nat)(c:kE)
 |br(d t:Nat)(sub next:kE)
 |nil
def kE.Tg:kE→List (Nat×Nat×kE)
 | .br d t sub next=>(d,t,sub)::next.Tg
 |_=> []
def kE.Y0:kE→Bool
 | .last _=>true
 | .ph _ _=>true
 |_=>false
def OK(Γ:Nat→TK)(E:Tag→Nat→Prop)(S:FuncId→List S1→List S1→Prop)(fQ:List (Nat×Nat))(cr:List (Nat×CR))(ops:List Oper)(q:Nat):Nat→List Oper→St→Option (List TE×List (Nat×List Prop))
 |_,[],_=>some ([],[])
 |i,o::r,⟨n,sl,hp⟩=>match q.testBit i with
  |false=>match OK Γ E S fQ cr ops q (i+1) r ⟨n,sl,hp⟩with
   |some (tr,vq)=>some (⟨0, .Au [],[]⟩::tr,vq)
   |none=>none
  |true=>match o.dst with
   |some d=>match sl.any (fun e=>e.2.mentions d),uK Γ E S fQ cr ops ⟨n,sl,hp⟩ o with
    |false,some (vc,v,os)=>match fS v,fHp os with
     |some v,some os=>match OK Γ E S fQ cr ops q (i+1) r ⟨n,(d,v)::sl,rz os hp⟩with
      |some (tr,vq)=>some (⟨d,v,os⟩::tr,(i,vc)::vq)
      |none=>none
     |_,_=>none
    |_,_=>none
   |none=>none
def OL(d:Nat):Nat→List TE→St→St
 |_,[],s=>s
 |i,e::r,s=>match d.testBit i with
  |true=>OL d (i+1) r (app s e)
  |false=>OL d (i+1) r s
def Rh(i:Nat)(vc:List Prop):List (Nat×List Prop)→List (Nat×List Prop)
 | []=> [(i,vc)]
 | (j,v)::r=>match mP j i with
   |true=>(i,vc)::(j,v)::r
   |false=>(j,v)::Rh i vc r
def OM(d:Nat):List (Nat×List Prop)→List (Nat×List Prop)→List (Nat×List Prop)
 | [],acc=>acc
 | (i,vc)::r,acc=>match d.testBit i with
   |true=>OM d r (Rh i vc acc)
   |false=>OM d r acc
def Fz:List (Nat×List Prop)→Option (List Prop)
 | []=>some []
 | (_,[])::r=>Fz r
 | (_,[p])::r=>match Fz r with|some l=>some (p::l)|none=>none
 | (_,[p,q])::r=>match Fz r with|some l=>some (p::q::l)|none=>none
 | (_,l)::r=>match Fz r with|some l'=>some (l++l')|none=>none
theorem yC{i:Nat}{vc:List Prop}: ∀{l:List (Nat×List Prop)} {x:Nat×List Prop},x∈Rh i vc l↔x=(i,vc)∨x∈l
 | [],x=>by simp[Rh]
 | (j,v)::r,x=>by
   simp only[Rh]
   split
   ·simp
   ·rw[bh,bh,yC]
    constructor
    ·rintro(h|h|h)
     ·exact bn (bI h)
     ·exact bI h
     ·exact bn (bn h)
    ·rintro(h|h|h)
     ·exact bn (bI h)
     ·exact bI h
     ·exact bn (bn h)
theorem ve{d:Nat}: ∀{vq acc:List (Nat×List Prop)} {x:Nat×List Prop},x∈OM d vq acc↔(x∈vq∧d.testBit x.1=true)∨x∈acc
 | [],acc,x=>by simp[OM]
 | (i,vc)::r,acc,x=>by
   simp only[OM]
   split
   ·rename_i hb
    rw[ve,yC]
    constructor
    ·rintro(⟨h1,h2⟩|rfl|h)
     ·exact bI ⟨aK _ h1,h2⟩
     ·exact bI ⟨by simp,hb⟩
     ·exact bn h
    ·rintro(⟨h1,h2⟩|h)
     ·rcases bh.1 h1 with rfl|h1
      ·exact bn (bI rfl)
      ·exact bI ⟨h1,h2⟩
     ·exact bn (bn h)
   ·rename_i hb
    rw[ve]
    constructor
    ·rintro(⟨h1,h2⟩|h)
     ·exact bI ⟨aK _ h1,h2⟩
     ·exact bn h
    ·rintro(⟨h1,h2⟩|h)
     ·rcases bh.1 h1 with rfl|h1
      ·simp only at h2;rw[h2]at hb;cases hb
      ·exact bI ⟨h1,h2⟩
     ·exact bn h
theorem Eh: ∀{l:List (Nat×List Prop)} {m:List Prop},Fz l=some m→ ∀x,x∈l→ ∀q,q∈x.2→q∈m
 | [],_,_,x,hx=>by cases hx
 | (i,v)::r,m,h,x,hx=>by
   have key: ∃l',Fz r=some l'∧m=v++l':=by
    unfold Fz at h
    split at h
    ·rename_i he;cases he
    ·rename_i he;simp only[cC,pI]at he;obtain⟨⟨rfl,rfl⟩,rfl⟩:=he;exact⟨m,h,rfl⟩
    ·rename_i he
     simp only[cC,pI]at he;obtain⟨⟨rfl,rfl⟩,rfl⟩:=he
     split at h
     ·rename_i l' h1;simp only[oI]at h;exact⟨l',h1,h.symm⟩
     ·cases h
    ·rename_i he
     simp only[cC,pI]at he;obtain⟨⟨rfl,rfl⟩,rfl⟩:=he
     split at h
     ·rename_i l' h1;simp only[oI]at h;exact⟨l',h1,h.symm⟩
     ·cases h
    ·rename_i he
     simp only[cC,pI]at he;obtain⟨⟨rfl,rfl⟩,rfl⟩:=he
     split at h
     ·rename_i l' h1;simp only[oI]at h;exact⟨l',h1,h.symm⟩
     ·cases h
   obtain⟨l',h1,rfl⟩:=key
   intro q hq
   rcases bh.1 hx with rfl|hx
   ·exact aN _ hq
   ·exact aH _ (Eh h1 x hx q hq)
def nE(P:Program)(ty:Tag→Nat)(Γ:Nat→TK)(fQ:List (Nat×Nat))(cr:List (Nat×CR))(ks hs:List Nat)(ops:List Oper)(n0:Nat):kE→St→List TE→List (Nat×List Prop)→List (Nat×List Prop)→Option (List (List Prop×St))
 | .last q,s,_,_,acc=>match OK Γ (P7 P ty) (Sound ty P) fQ cr ops q 0 ops s with
   |some (tr,vq)=>match U6 (OL q 0 tr s)with
    |some ⟨n,sl1,jo⟩=>match Fh sl1 ks,Fi jo (SI sl1 jo ks hs),Fz (OM q vq acc)with
     |some sl,some hp,some vc=>match vU sl hp,aU n n0 with
      |true,true=>some [(vc,⟨n0,sl,hp⟩)]
      |_,_=>none
     |_,_,_=>none
    |none=>none
   |none=>none
 | .ph q c,s,_,_,acc=>match OK Γ (P7 P ty) (Sound ty P) fQ cr ops q 0 ops s with
   |some (tr,vq)=>nE P ty Γ fQ cr ks hs ops n0 c s tr vq acc
   |none=>none
 | .br d t sub next,s,tr,vq,acc=>match U6 (OL d 0 tr s),ops[t]? with
   |some s1,some o=>match step P ty Γ fQ cr ops s1 o with
    |some (vc,s2)=>match U6 s2 with
     |some s2=>match nE P ty Γ fQ cr ks hs ops n0 sub s2 [] [] (Rh t vc (OM d vq acc)),nE P ty Γ fQ cr ks hs ops n0 next s tr vq acc with
      |some l1,some l2=>some (rz l1 l2)
      |_,_=>none
     |none=>none
    |none=>none
   |_,_=>none
 | .nil,_,_,_,_=>some []
def Iu(ops:List Oper)(B q ON:Nat):Nat→Nat→Nat→List Nat
 |0,_,d=> [d]
 |m+1,i,d=>match q.testBit i with
  |false=>Iu ops B q ON m (i+1) d
  |true=>(match((ops[i]?).map fun o=>(ez o).all fun j=>B.testBit j||d.testBit j).getD false with
   |true=>Iu ops B q ON m (i+1) (d|||2^i)
   |false=> [])++(match ON.testBit i with
   |true=> []
   |false=>Iu ops B q ON m (i+1) d)
def ac2(ops:List Oper)(cl:List Nat)(A:List (Nat×Oper))(qs B q:Nat):Bool:=
 A.all fun e=>(!(q.testBit e.1)|| !(B.testBit e.1))&&
   (B.testBit e.1||q.testBit e.1|| !(qs.testBit e.1)|| !((ez e.2).all fun j=>B.testBit j||q.testBit j))&&
   (!(q.testBit e.1)||
     ((tmpsOf e.2).all fun t=>A.all fun f=> !(q.testBit f.1)|| !(SL f.2 t)||aU f.1 e.1|| (cl.getD e.1 0).testBit f.1|| (mP e.1 f.1&&(cl.getD f.1 0).testBit e.1))&&
     (match e.2.guard with
      |none=>true
      |some (j,_)=>(ez e.2).any (aU j))&&
     (match e.2.dst with
      |some d=>A.all fun f=>aU f.1 e.1|| !(SL f.2 d)
      |none=>false)&&(ez e.2).all fun j=>B.testBit j||q.testBit j)
def Mj(ops:List Oper)(cl:List Nat)(n B q:Nat)(c:kE):Bool:=
 (bD n).all fun t=>B.testBit t||q.testBit t||
  (Iu ops B q (cl.getD t 0) n 0 0).all fun d=> !(((ops[t]?).map fun o=>(ez o).all fun j=>B.testBit j||d.testBit j).getD false)||c.Tg.any fun b=>aU b.1 d&&aU b.2.1 t
def WD(ops:List Oper)(cl:List Nat)(A:List (Nat×Oper))(qs n:Nat):Nat→kE→Bool
 |B, .last q=>ac2 ops cl A qs B q&&(bD n).all fun i=>B.testBit i||q.testBit i
 |B, .ph q c=>ac2 ops cl A qs B q&&Mj ops cl n B q c&& !((bD n).all fun i=>B.testBit i||q.testBit i)&&WD ops cl A qs n B c
 |B, .br d t sub next=>sub.Y0&&mP t n&&WD ops cl A qs n (B|||d|||2^t) sub&&WD ops cl A qs n B next
 |_, .nil=>true
def ac3(ops:List Oper)(qs:Nat)(p:kE):Bool:=
 ((idx 0 ops).all fun e=>(ez e.2).all fun j=>mP j e.1)&&p.Y0&&WD ops (L1 ops) (idx 0 ops) qs ops.length 0 p
section
variable{zX D:Nat→Bool}{tr:List TE}{s:St}
theorem rG(zX:Nat→Bool)(e:TE)(tr:List TE)(s:St)(h:zX 0=false): ∀i,iZ zX (e::tr) s (i+1)=iZ (fun j=>zX (j+1)) tr s i
 |0=>by simp[iZ,h]
 |i+1=>by
  rw[iZ,rG zX e tr s h i,iZ]
  simp only[ku]
theorem Ct(d:Nat): ∀(tr:List TE) (k:Nat) (s:St),OL d k tr s=iZ (fun i=>d.testBit (k+i)) tr s tr.length
 | [],_,_=>rfl
 |e::r,k,s=>by
  have hf:(fun j=>d.testBit (k+(j+1)))=fun i=>d.testBit (k+1+i):=by funext j;congr 1;omega
  simp only[OL]
  split
  ·rename_i h
   rw[Ct d r (k+1) (app s e),b9,HW _ e r s (by simpa using h),hf]
  ·rename_i h
   rw[Ct d r (k+1) s,b9,rG _ e r s (by simpa using h),hf]
theorem Ei{D':Nat→Bool}: ∀{n:Nat},(∀i,i<n→D i=D' i)→iZ D tr s n=iZ D' tr s n
 |0,_=>rfl
 |n+1,h=>by rw[iZ,iZ,Ei (n:=n) fun i hi=>h i (by omega),h n (by omega)]
theorem Iv: ∀{n:Nat},iZ (fun _=>false) tr s n=s
 |0=>rfl
 |n+1=>by rw[L5 rfl,Iv]
theorem tU: ∀{i:Nat} {x:Nat×SV},x∈s.sl→x∈(iZ D tr s i).sl
 |0,_,h=>h
 |i+1,x,h=>by
  rw[iZ]
  split
  ·exact aK _ (tU h)
  ·exact tU h
def Iw(Qb:Nat→Bool)(tr:List TE)(s:St)(m:Nat):Prop:= ∀i e,i<m→Qb i=true→tr[i]? =some e→ ∀n o,look e.os n=some o→look (iZ Qb tr s i).hp n=none
variable{Qb:Nat→Bool}
theorem Ej{m:Nat}(hf:Iw Qb tr s m): ∀{j i:Nat},i≤j→j≤m→ ∀{n o},look (iZ Qb tr s i).hp n=some o→look (iZ Qb tr s j).hp n=some o
 |0,i,hi,_,n,o,h=>by
  have:i=0:=by omega
  subst this;exact h
 |j+1,i,hi,hm,n,o,h=>by
  by_cases hij:i=j+1
  ·subst hij;exact h
  ·have ih:=Ej hf (j:=j) (i:=i) (by omega) (by omega) h
   rw[iZ]
   split
   ·rename_i e' h1 h2
    show look (e'.os++(iZ Qb tr s j).hp) n=_
    cases hq:look e'.os n with
    |none=>rw[cU hq];exact ih
    |some o'=>
     have:=hf j e' (by omega) h1 h2 n o' hq
     rw[this]at ih;cases ih
   ·exact ih
theorem yD{m:Nat}(hf:Iw Qb tr s m)(hD: ∀i,D i=true→Qb i=true): ∀{i:Nat},i≤m→ ∀{n o},look (iZ D tr s i).hp n=some o→look (iZ Qb tr s i).hp n=some o
 |0,_,n,o,h=>h
 |i+1,hm,n,o,h=>by
  rw[iZ]at h
  split at h
  ·rename_i e' h1 h2
   have h:look (e'.os++(iZ D tr s i).hp) n=some o:=h
   rw[yc (hD i h1) h2]
   show look (e'.os++(iZ Qb tr s i).hp) n=some o
   cases hq:look e'.os n with
   |none=>rw[cU hq]at h ⊢;exact yD hf hD (by omega) h
   |some o'=>rw[eR hq]at h ⊢;exact h
  ·exact Ej hf (Nat.le_succ i) hm (yD hf hD (by omega) h)
theorem zI{m:Nat}(hf:Iw Qb tr s m)(hD: ∀i,D i=true→Qb i=true): ∀{i:Nat},i≤m→ ∀{n o},look s.hp n=some o→look (iZ D tr s i).hp n=some o
 |0,_,n,o,h=>h
 |i+1,hm,n,o,h=>by
  have ih:=zI hf hD (i:=i) (by omega) h
  rw[iZ]
  split
  ·rename_i e' h1 h2
   show look (e'.os++(iZ D tr s i).hp) n=some o
   cases hq:look e'.os n with
   |none=>rw[cU hq];exact ih
   |some o'=>
    have h3:=hf i e' (by omega) (hD i h1) h2 n o' hq
    have h4:=yD hf hD (by omega) ih
    rw[h3]at h4;cases h4
  ·exact ih
theorem zJ{m:Nat}(hf:Iw Qb tr s m)(hD: ∀i,D i=true→Qb i=true): ∀{i:Nat},i≤m→ ∀{j:Nat} {e:TE} {n:Nat} {o:Obj},j<i→D j=true→tr[j]? =some e→look e.os n=some o→look (iZ D tr s i).hp n=some o
 |i+1,hm,j,e,n,o,hj,hin,he,h=>by
  by_cases hij:j=i
  ·subst hij
   rw[yc hin he]
   exact eR h
  ·have ih:=zJ hf hD (i:=i) (by omega) (j:=j) (by omega) hin he h
   rw[iZ]
   split
   ·rename_i e' h1 h2
    show look (e'.os++(iZ D tr s i).hp) n=some o
    cases hq:look e'.os n with
    |none=>rw[cU hq];exact ih
    |some o'=>
     have h3:=hf i e' (by omega) (hD i h1) h2 n o' hq
     have h4:=yD hf hD (by omega) ih
     rw[h3]at h4;cases h4
   ·exact ih
end
structure TrX(Γ:Nat→TK)(E:Tag→Nat→Prop)(S:FuncId→List S1→List S1→Prop)(fQ:List (Nat×Nat))(cr:List (Nat×CR))(ops:List Oper)(q:Nat)(s:St)(tr:List TE)(vq:List (Nat×List Prop)):Prop where
 len:tr.length=ops.length
 one: ∀i,i<ops.length→q.testBit i=true→ ∃o e vc,ops[i]? =some o∧tr[i]? =some e∧o.dst=some e.d∧((iZ (fun j=>q.testBit j) tr s i).sl.any fun x=>x.2.mentions e.d)=false∧uK Γ E S fQ cr ops (iZ (fun j=>q.testBit j) tr s i) o=some (vc,e.v,e.os)∧(i,vc)∈vq
theorem A9{Γ:Nat→TK}{E:Tag→Nat→Prop}{S:FuncId→List S1→List S1→Prop}{fQ:List (Nat×Nat)}{cr:List (Nat×CR)}{ops:List Oper}{q:Nat}: ∀{l:List Oper} {k:Nat} {st:St} {tr:List TE} {vq:List (Nat×List Prop)},OK Γ E S fQ cr ops q k l st=some (tr,vq)→(∀i o,l[i]? =some o→ops[k+i]? =some o)→
  tr.length=l.length∧ ∀i,i<l.length→q.testBit (k+i)=true→ ∃o e vc,ops[k+i]? =some o∧tr[i]? =some e∧o.dst=some e.d∧((iZ (fun j=>q.testBit (k+j)) tr st i).sl.any fun x=>x.2.mentions e.d)=false∧uK Γ E S fQ cr ops (iZ (fun j=>q.testBit (k+j)) tr st i) o=some (vc,e.v,e.os)∧(k+i,vc)∈vq
 | [],k,st,tr,vq,h,_=>by
   simp only[OK,oI,pI]at h
   exact⟨by rw[←h.1];rfl,fun i hi=>absurd hi (by simp)⟩
 |o::r,k,⟨n,sl,hp⟩,tr,vq,h,hk=>by
  have hk': ∀i o',r[i]? =some o'→ops[k+1+i]? =some o':=fun i o' ho=>by
   have:=hk (i+1) o' (by simpa using ho)
   rw[show k+1+i=k+(i+1)by omega];exact this
  have hf:(fun j=>q.testBit (k+(j+1)))=fun i=>q.testBit (k+1+i):=by funext j;congr 1;omega
  simp only[OK]at h
  split at h
  ·rename_i hb
   split at h
   case h_2=>cases h
   rename_i tr' vq' h2
   simp only[oI,pI]at h
   obtain⟨rfl,rfl⟩:=h
   obtain⟨q1,q2⟩:=A9 h2 hk'
   refine⟨by simp[q1],fun i hi hq=> ?_⟩
   cases i with
   |zero=>rw[jE,hb]at hq;cases hq
   |succ i=>
    obtain⟨o',e',vc',p1,p2,p3,p4,p5,p6⟩:=q2 i (by simpa using hi) (by rw[show k+1+i=k+(i+1)by omega];exact hq)
    refine⟨o',e',vc',by rw[show k+(i+1)=k+1+i by omega];exact p1,by simpa using p2,p3,?_,?_,by rw[show k+(i+1)=k+1+i by omega];exact p6⟩
    ·rw[rG _ _ tr' _ (by simpa using hb) i,hf];exact p4
    ·rw[rG _ _ tr' _ (by simpa using hb) i,hf];exact p5
  ·rename_i hb
   split at h
   case h_2=>cases h
   rename_i d hd
   split at h
   case h_2=>cases h
   rename_i vc v os hm hq0
   split at h
   case h_2=>cases h
   rename_i v2 os2 UQ ag5
   have UQ:=Yf UQ
   have ag5:=LY ag5
   subst UQ;subst ag5
   split at h
   case h_2=>cases h
   rename_i tr' vq' h2
   simp only[oI,pI]at h
   obtain⟨rfl,rfl⟩:=h
   rw[gV]at h2
   obtain⟨q1,q2⟩:=A9 h2 hk'
   refine⟨by simp[q1],fun i hi hq=> ?_⟩
   cases i with
   |zero=>exact⟨o,⟨d,v2,os2⟩,vc,hk 0 o rfl,rfl,hd,hm,hq0,by simp⟩
   |succ i=>
    obtain⟨o',e',vc',p1,p2,p3,p4,p5,p6⟩:=q2 i (by simpa using hi) (by rw[show k+1+i=k+(i+1)by omega];exact hq)
    have hc:=HW (fun j=>q.testBit (k+j)) ⟨d,v2,os2⟩ tr' ⟨n,sl,hp⟩ (by simpa using hb) i
    refine⟨o',e',vc',by rw[show k+(i+1)=k+1+i by omega];exact p1,by simpa using p2,p3,?_,?_,by rw[show k+(i+1)=k+1+i by omega];exact aK _ p6⟩
    ·rw[hc,hf];exact p4
    ·rw[hc,hf];exact p5
theorem TrX.of{Γ:Nat→TK}{E:Tag→Nat→Prop}{S:FuncId→List S1→List S1→Prop}{fQ:List (Nat×Nat)}{cr:List (Nat×CR)}{ops:List Oper}{q:Nat}{s:St}{tr:List TE}{vq:List (Nat×List Prop)}(h:OK Γ E S fQ cr ops q 0 ops s=some (tr,vq)):TrX Γ E S fQ cr ops q s tr vq:=by
 obtain⟨h1,h2⟩:=A9 h (fun i o ho=>by simpa using ho)
 refine⟨h1,fun i hi hq=> ?_⟩
 have:=h2 i hi (by simpa using hq)
 simpa using this
structure PhX(ops:List Oper)(qs B q:Nat):Prop where
 back: ∀i o,ops[i]? =some o→ ∀j,j∈ez o→j<i
 mu: ∀i,i<ops.length→q.testBit i=true→B.testBit i=false
 full: ∀i o,ops[i]? =some o→B.testBit i=false→qs.testBit i=true→(∀j,j∈ez o→B.testBit j=true∨q.testBit j=true)→q.testBit i=true
 uses: ∀i o,q.testBit i=true→ops[i]? =some o→ ∀t,t∈tmpsOf o→ ∀k o',q.testBit k=true→ops[k]? =some o'→o'.dst=some t→k=i∨((L1 ops).getD i 0).testBit k=true∨(i<k∧((L1 ops).getD k 0).testBit i=true)
 guard: ∀i o j x,q.testBit i=true→ops[i]? =some o→o.guard=some (j,x)→j∈ez o
 dist: ∀i o k o' d,q.testBit i=true→ops[i]? =some o→ops[k]? =some o'→o.dst=some d→o'.dst=some d→k=i
 clq: ∀i o,q.testBit i=true→ops[i]? =some o→ ∀j,j∈ez o→(B.testBit j=true∨q.testBit j=true)
theorem ajN{ops:List Oper}(h:((idx 0 ops).all fun e=>(ez e.2).all fun j=>mP j e.1)=true): ∀i o,ops[i]? =some o→ ∀j,j∈ez o→j<i:=by
 intro i o ho j hj
 simp only[bw]at h
 have:=h _ (by simpa using L7 (l:=ops) (k:=0) ho) j hj
 exact bX this
theorem Mk{ops:List Oper}{qs B q:Nat}(hb: ∀i o,ops[i]? =some o→ ∀j,j∈ez o→j<i)(h:ac2 ops (L1 ops) (idx 0 ops) qs B q=true):PhX ops qs B q:=by
 simp only[ac2,bw,ak,c8,bq]at h
 have hA: ∀{i o},ops[i]? =some o→(i,o)∈idx 0 ops:=by
  intro i o ho
  simpa using L7 (l:=ops) (k:=0) ho
 have hdi: ∀{o:Oper} {t:Nat},o.dst=some t→SL o t=true:=by intro o t hd;simp[SL,hd]
 refine⟨hb,fun i hi hq=> ?_,fun i o ho hB hqs he=> ?_,fun i o hq ho t ht k o' Rj ho' hd=> ?_,fun i o j x hq ho hg=> ?_,fun i o k o' d hq ho ho' hd hd'=> ?_,fun i o hq ho j hj=> ?_⟩
 ·rcases(h _ (hA (au hi))).1.1 with h1|h1
  ·simp only at h1;rw[hq]at h1;cases h1
  ·exact h1
 ·rcases(h _ (hA ho)).1.2 with((h1|h1)|h1)|h1
  ·simp only at h1;rw[hB]at h1;cases h1
  ·exact h1
  ·simp only at h1;rw[hqs]at h1;cases h1
  ·exfalso
   have:((ez o).all fun j=>B.testBit j||q.testBit j)=true:=by
    rw[bw];intro j hj
    rcases he j hj with h|h
    ·rw[h];rfl
    ·rw[h];simp
   simp only at h1
   rw[this]at h1;cases h1
 ·rcases(h _ (hA ho)).2 with h1|h1
  ·simp only at h1;rw[hq]at h1;cases h1
  ·rcases h1.1.1.1 t ht _ (hA ho')with(((h2|h2)|h2)|h2)|h2
   ·simp only at h2;rw[Rj]at h2;cases h2
   ·rw[hdi hd]at h2;cases h2
   ·exact bI (ay h2)
   ·exact bn (bI h2)
   ·exact bn (bn ⟨bX h2.1,h2.2⟩)
 ·rcases(h _ (hA ho)).2 with h1|h1
  ·simp only at h1;rw[hq]at h1;cases h1
  ·have h2:=h1.1.1.2
   simp only[hg,eZ]at h2
   obtain⟨y,hy,h3⟩:=h2
   rw[ay h3];exact hy
 ·rcases(h _ (hA ho)).2 with h1|h1
  ·simp only at h1;rw[hq]at h1;cases h1
  ·have h2:=h1.1.2
   simp only[hd,bw,c8,bq]at h2
   rcases h2 _ (hA ho')with h3|h3
   ·exact ay h3
   ·rw[hdi hd']at h3;cases h3
 ·rcases(h _ (hA ho)).2 with h1|h1
  ·simp only at h1;rw[hq]at h1;cases h1
  ·exact h1.2 j hj
end
section
variable{ty:Tag→Nat}
section
variable{P:Program}{Γ:Nat→TK}{fQ:List (Nat×Nat)}{cr:List (Nat×CR)}{ops:List Oper}{s:St}{tr:List TE}{vq:List (Nat×List Prop)}{qs B q:Nat}
theorem TrX.fresh{E:Tag→Nat→Prop}{S:FuncId→List S1→List S1→Prop}(T:TrX Γ E S fQ cr ops q s tr vq):Iw (fun j=>q.testBit j) tr s ops.length:=by
 intro i e hi hq he n x hl
 obtain⟨o,e',vc,_,he',_,_,hqc,_⟩:=T.one i hi hq
 rw[he]at he'
 simp only[oI]at he'
 subst he'
 obtain⟨p,_,_,_,hf⟩:=pz hqc
 exact(hf n x hl).1
theorem TrX.path{E:Tag→Nat→Prop}{S:FuncId→List S1→List S1→Prop}(T:TrX Γ E S fQ cr ops q s tr vq)(K:PhX ops qs B q): ∀(i:Nat),i<ops.length→q.testBit i=true→ ∀o p,ops[i]? =some o→mq (iZ (fun j=>q.testBit j) tr s i) ops o=some p→ ∀e,e∈p→
  ∀k o',q.testBit k=true→ops[k]? =some o'→o'.dst=some e.1→ ∀D:Nat→Prop,(∀i o,D i→ops[i]? =some o→ ∀j,j∈ez o→D j)→(∀j,j∈ez o→D j)→D k:=by
 intro i
 induction i using lJ with
 |_ i ih=>
  intro hi Gw o p ho hg e he k o' Rj hok hdk D hD hE
  have JU:k<ops.length:=(aI.1 hok).1
  unfold mq at hg
  split at hg
  ·simp at hg;subst hg;simp at he
  ·rename_i j x hgd
   have hje:=K.guard i o j x Gw ho hgd
   have hji:=K.back i o ho j hje
   split at hg
   case h_2=>cases hg
   rename_i qj hqj
   split at hg
   case h_2=>cases hg
   rename_i d hdj
   have base:e.1=d→D k:=by
    intro hed
    have:j=k:=K.dist k o' j qj d Rj hok hqj (by rw[hdk,hed]) hdj
    rw[←this];exact hE j hje
   split at hg
   ·simp only[oI]at hg
    subst hg
    simp only[aR]at he
    exact base (by rw[he])
   ·rename_i p' b Cd
    simp only[oI]at hg
    subst hg
    rcases bh.1 he with h|h
    ·exact base (by rw[h])
    ·by_cases Th:q.testBit j=true
     ·obtain⟨q2,ej,vcj,LO,hej,ag7,_,hqc,_⟩:=T.one j (by omega) Th
      rw[hqj]at LO
      simp only[oI]at LO
      subst LO
      rw[hdj]at ag7
      simp only[oI]at ag7
      subst ag7
      have ag8:look (iZ (fun j=>q.testBit j) tr s i).sl ej.d=some ej.v:=by
       refine qp hji Th hej fun j' e' h1 h2 h3 h4=> ?_
       obtain⟨q',e2,_,hq',JM,hd2,_⟩:=T.one j' (by omega) h2
       rw[h3]at JM
       simp only[oI]at JM
       subst JM
       exact K.dist j _ j' q' ej.d Th hqj hq' hdj (by rw[hd2,h4])
      rw[ag8]at Cd
      simp only[oI]at Cd
      obtain⟨pj,hgj,kV,jo,_⟩:=pz hqc
      have hpj:pj=p':=by
       by_cases hnil:pj= []
       ·exact absurd Cd (kV hnil _ _)
       ·obtain⟨x',hx'⟩:=(jo hnil).1
        rw[hx']at Cd
        simp only[SV.cond.injEq]at Cd
        exact Cd.1
      subst hpj
      exact ih j hji (by omega) Th _ pj hqj hgj e h k o' Rj hok hdk D hD (hD j _ (hE j hje) hqj)
     ·
      exfalso
      have ag8:look (iZ (fun j=>q.testBit j) tr s i).sl d=look s.sl d:=by
       refine uR fun j' e' h1 h2 h3 h4=> ?_
       obtain⟨q',e2,_,hq',JM,hd2,_⟩:=T.one j' (by omega) h2
       rw[h3]at JM
       simp only[oI]at JM
       subst JM
       have:=K.dist j' q' j qj d h2 hq' hqj (by rw[hd2,h4]) hdj
       subst this
       exact Th h2
      rw[ag8]at Cd
      obtain⟨q2,ek,vck,LO,hek,ag9,hnm,_,_⟩:=T.one k JU Rj
      rw[hok]at LO
      simp only[oI]at LO
      subst LO
      rw[hdk]at ag9
      simp only[oI]at ag9
      rw[bR]at hnm
      refine hnm (d, .cond p' (.a (.lit (.bool b)))) (tU (ji Cd)) ?_
      simp only[SV.mentions,eZ]
      exact⟨e,h,by rw[ag9];simp⟩
   ·cases hg
theorem Rk(C: ∀t,fK P t (Γ t))(T:TrX Γ (P7 P ty) (Sound ty P) fQ cr ops q s tr vq)(K:PhX ops qs B q)(hv: ∀x,x∈vq→q.testBit x.1=true→x.1<ops.length→ ∀p,p∈x.2→p){zb:eK}{Q:Exit→Act→World→Prop}{D:Nat→Bool}(xD: ∀i,D i=true→q.testBit i=true)(hDm: ∀i,D i=true→i<ops.length)
  (Nh: ∀i o,(B.testBit i=true∨D i=true)→ops[i]? =some o→ ∀j,j∈ez o→(B.testBit j=true∨D j=true))
  {i:Nat}(Gw:q.testBit i=true)(OO:D i=false){o:Oper}(ho:ops[i]? =some o)(hE: ∀j,j∈ez o→(B.testBit j=true∨D j=true)){a:Act}{w:World}(iv:Inv ty zb (iZ D tr s ops.length) a w):
  lF P ops.toArray o a w (fun a' w'=>Inv ty zb (iZ (fun j=>D j||j==i) tr s ops.length) a' w') Q:=by
 have hi:i<ops.length:=(aI.1 ho).1
 obtain⟨o',e,vc,ho',he,hd,hnm,hq,hvc⟩:=T.one i hi Gw
 rw[ho]at ho'
 simp only[oI]at ho'
 subst ho'
 have hfr:=T.fresh
 have Ti: ∀{k},q.testBit k=true→k<ops.length→(B.testBit k=true∨D k=true)→D k=true:=by
  intro k hk JU h
  rcases h with h|h
  ·rw[K.mu k JU hk]at h;cases h
  ·exact h
 have amj: ∀{x},((L1 ops).getD i 0).testBit x=true→(B.testBit x=true∨D x=true):=fun h=>HY (D:=fun j=>B.testBit j=true∨D j=true) K.back Nh i o ho hE _ h
 have ajO: ∀{x},((L1 ops).getD i 0).testBit x=true→x<i:=fun h=>HY (D:=fun j=>j<i) K.back (fun a b hab hb j hj=>yE (K.back a b hb j hj) hab) i o ho (fun j hj=>K.back i o ho j hj) _ h
 have hdist: ∀{j e'},j<ops.length→q.testBit j=true→tr[j]? =some e'→ ∃q,ops[j]? =some q∧q.dst=some e'.d:=by
  intro j e' hj hqj he'
  obtain⟨q,e2,_,hq',JM,hd2,_⟩:=T.one j hj hqj
  rw[he']at JM
  simp only[oI]at JM
  subst JM
  exact⟨q,hq',hd2⟩
 have OP: ∀{j j':Nat} {e1 e2:TE},j<ops.length→j'<ops.length→q.testBit j=true→q.testBit j'=true→tr[j]? =some e1→tr[j']? =some e2→e2.d=e1.d→j'=j:=by
  intro j j' e1 e2 h1 h2 g1 g2 h3 h4 h5
  obtain⟨q1,p1,p2⟩:=hdist h1 g1 h3
  obtain⟨q2,p3,p4⟩:=hdist h2 g2 h4
  exact K.dist j q1 j' q2 e1.d g1 p1 p3 p2 (by rw[p4,h5])
 have agree: ∀t,(∀k o',k<ops.length→q.testBit k=true→ops[k]? =some o'→o'.dst=some t→k=i∨(k<i∧D k=true)∨(i<k∧D k=false))→look (iZ (fun j=>q.testBit j) tr s i).sl t=look (iZ D tr s ops.length).sl t:=by
  intro t ht
  by_cases hex: ∃k e',k<i∧D k=true∧tr[k]? =some e'∧e'.d=t
  ·obtain⟨k,e',hk,xC,he',rfl⟩:=hex
   rw[qp hk (xD k xC) he' fun j' e2 h1 h2 h3 h4=>OP (by omega) (by omega) (xD k xC) h2 he' h3 h4,qp (by omega) xC he' fun j' e2 h1 h2 h3 h4=>OP (by omega) h1 (xD k xC) (xD j' h2) he' h3 h4]
  ·rw[uR (fun k e' hk Rj he' hdt=>by
      obtain⟨q',h1,h2⟩:=hdist (by omega) Rj he'
      rcases ht k q' (by omega) Rj h1 (by rw[h2,hdt])with h|h|h
      ·omega
      ·exact hex ⟨k,e',hk,h.2,he',hdt⟩
      ·omega),
    uR (fun k e' hk xC he' hdt=>by
     obtain⟨q',h1,h2⟩:=hdist hk (xD k xC) he'
     rcases ht k q' hk (xD k xC) h1 (by rw[h2,hdt])with h|h|h
     ·subst h;rw[OO]at xC;cases xC
     ·exact hex ⟨k,e',h.1,h.2,he',hdt⟩
     ·rw[h.2]at xC;cases xC)]
 obtain⟨p,o8,kV,jo,NS⟩:=pz hq
 have Tj: ∀x,x∈p→look (iZ (fun j=>q.testBit j) tr s i).sl x.1=look (iZ D tr s ops.length).sl x.1:=by
  intro x hx
  refine agree x.1 fun k o2 JU Rj WC hd2=>bn (bI ⟨?_,Ti Rj JU ?_⟩)
  ·exact T.path K i hi Gw o p ho o8 x hx k o2 Rj WC hd2 (fun j=>j<i) (fun a b hab hb j hj=>yE (K.back a b hb j hj) hab) (fun j hj=>K.back i o ho j hj)
  ·exact T.path K i hi Gw o p ho o8 x hx k o2 Rj WC hd2 (fun j=>B.testBit j=true∨D j=true) Nh hE
 have ya:mq (iZ D tr s ops.length) ops o=some p:=by
  rw[←o8]
  unfold mq
  split
  ·rfl
  ·rename_i j x hgd
   split
   ·rename_i q Th
    split
    ·rename_i d hdq
     have hmem: ∃y,(d,y)∈p:=by
      unfold mq at o8
      rw[hgd]at o8
      dsimp only at o8
      rw[Th]at o8
      dsimp only at o8
      rw[hdq]at o8
      dsimp only at o8
      split at o8
      ·simp only[oI]at o8;exact⟨x,by rw[←o8];simp⟩
      ·simp only[oI]at o8;exact⟨x,by rw[←o8];simp⟩
      ·cases o8
     obtain⟨y,hy⟩:=hmem
     rw[←Tj (d,y) hy]
    ·rfl
   ·rfl
 have ahb:fresh (iZ D tr s ops.length).hp e.os=true:=by
  refine Oh fun n x hl=> ?_
  cases LO:look (iZ D tr s ops.length).hp n with
  |none=>exact⟨rfl,(NS n x hl).2⟩
  |some y=>
   exfalso
   have hpi:=hfr i e hi Gw he n x hl
   rcases qt LO with h| ⟨j,e',hj,Rl,he',h⟩
   ·have:=zI (D:=fun j=>q.testBit j) hfr (fun _ h=>h) (i:=i) (by omega) h
    rw[hpi]at this
    cases this
   ·have hji:j≠i:=by rintro rfl;rw[OO]at Rl;cases Rl
    by_cases hlt:j<i
    ·have:=zJ (D:=fun j=>q.testBit j) hfr (fun _ h=>h) (i:=i) (by omega) hlt (xD j Rl) he' h
     rw[hpi]at this
     cases this
    ·have h2:=hfr j e' hj (xD j Rl) he' n y h
     have:=zJ (D:=fun j=>q.testBit j) hfr (fun _ h=>h) (i:=j) (by omega) (j:=i) (by omega) Gw he hl
     rw[h2]at this
     cases this
 have ajP:((iZ D tr s ops.length).sl.any fun x=>x.2.mentions e.d)=false:=by
  rw[bR]
  intro x hx hm
  rcases L6 hx with h| ⟨j,e',hj,Rl,he',rfl⟩
  ·rw[bR]at hnm
   exact hnm x (tU h) hm
  ·obtain⟨qq,e2,vc2,Th,JM,hd2,_,hqc,_⟩:=T.one j hj (xD j Rl)
   rw[he']at JM
   simp only[oI]at JM
   subst JM
   obtain⟨pj,hgj,hj0,hj1,_⟩:=pz hqc
   by_cases hnil:pj= []
   ·cases hx2:e'.v with
    |cond q y=>exact hj0 hnil _ _ hx2
    |one y=>simp[hx2,SV.mentions]at hm
    |Au y=>simp[hx2,SV.mentions]at hm
   ·obtain⟨y,hy⟩:=(hj1 hnil).1
    simp only[hy,SV.mentions,eZ]at hm
    obtain⟨z,hz,hzd⟩:=hm
    have hzd:=ay hzd
    have h4:=T.path K j hj (xD j Rl) qq pj Th hgj z hz i o Gw ho (by rw[hd,hzd]) (fun j=>B.testBit j=true∨D j=true) Nh (Nh j qq (bn Rl) Th)
    have:=Ti Gw hi h4
    rw[OO]at this;cases this
 have hdm:e.v.mentions e.d=false:=by
  by_cases hnil:p= []
  ·cases hx2:e.v with
   |cond q y=>exact absurd hx2 (kV hnil _ _)
   |one y=>rfl
   |Au y=>rfl
  ·obtain⟨⟨y,hy⟩,_,hne⟩:=jo hnil
   rw[hy]
   simp only[SV.mentions]
   rw[bR]
   intro z hz hb
   exact hne e.d hd z hz (ay hb)
 have hD2: ∀j,(fun j=>D j||j==i) j=true→q.testBit j=true:=by
  intro j hj
  simp only[c8,beq_iff_eq]at hj
  rcases hj with h|rfl
  ·exact xD j h
  ·exact Gw
 have behind: ∀a' w',Inv ty zb (app (iZ D tr s ops.length) e) a' w'→Inv ty zb (iZ (fun j=>D j||j==i) tr s ops.length) a' w':=by
  intro a' w' uz
  obtain⟨env,g⟩:=uz.good
  refine⟨by rw[uz.size,Fk];show(iZ D tr s ops.length).n=s.n;exact Fk _,uz.defers,uz.kept,uz.Jx,env,g.congr ?_ ?_⟩
  ·intro t v hl
   show look ((e.d,e.v)::(iZ D tr s ops.length).sl) t=some v
   by_cases ht:t=e.d
   ·subst ht
    rw[qp hi (by simp) he fun j' e2 h1 h2 h3 h4=>OP hi h1 Gw (hD2 j' h2) he h3 h4]at hl
    rw[look_eq];exact hl
   ·rw[cj ht]
    by_cases hex: ∃k e',k<ops.length∧D k=true∧tr[k]? =some e'∧e'.d=t
    ·obtain⟨k,e',hk,xC,he',rfl⟩:=hex
     rw[qp hk (by simp[xC]) he' fun j' e2 h1 h2 h3 h4=>OP hk h1 (xD k xC) (hD2 j' h2) he' h3 h4]at hl
     rw[qp hk xC he' fun j' e2 h1 h2 h3 h4=>OP hk h1 (xD k xC) (xD j' h2) he' h3 h4]
     exact hl
    ·rw[uR fun k e' hk xC he' hdt=>by
      simp only[c8,beq_iff_eq]at xC
      rcases xC with h|rfl
      ·exact hex ⟨k,e',hk,h,he',hdt⟩
      ·rw[he]at he'
       simp only[oI]at he'
       exact ht (by rw[he',hdt])]at hl
     rw[uR fun k e' hk xC he' hdt=>hex ⟨k,e',hk,xC,he',hdt⟩]
     exact hl
  ·intro n
   show look (iZ (fun j=>D j||j==i) tr s ops.length).hp n=look (e.os++(iZ D tr s ops.length).hp) n
   cases hl:look e.os n with
   |some x=>
    rw[eR hl]
    exact zJ hfr hD2 (aZ _) hi (by simp) he hl
   |none=>
    rw[cU hl]
    cases hx:look (iZ (fun j=>D j||j==i) tr s ops.length).hp n with
    |some y=>
     rcases qt hx with h| ⟨j,e',hj,Rl,he',h⟩
     ·exact(zI hfr xD (aZ _) h).symm
     ·have hji:j≠i:=by
       rintro rfl
       rw[he]at he'
       simp only[oI]at he'
       subst he'
       rw[hl]at h;cases h
      have Rl:D j=true:=by
       simp only[c8,beq_iff_eq]at Rl
       exact Rl.resolve_right hji
      exact(zJ hfr xD (aZ _) hj Rl he' h).symm
    |none=>
     cases hy:look (iZ D tr s ops.length).hp n with
     |none=>rfl
     |some y=>
      rcases qt hy with h| ⟨j,e',hj,Rl,he',h⟩
      ·rw[zI hfr hD2 (aZ _) h]at hx;cases hx
      ·rw[zJ hfr hD2 (aZ _) hj (by simp[Rl]) he' h]at hx;cases hx
 have hput:St.put ⟨(iZ D tr s ops.length).n,(iZ D tr s ops.length).sl,e.os++(iZ D tr s ops.length).hp⟩ o.dst e.v=app (iZ D tr s ops.length) e:=by
  rw[hd]
  simp only[St.put,ajP]
  rfl
 by_cases hw:gU o (yielded ops.toArray a.tmps)=true
 ·have hh:holds a.tmps p:=by
   obtain⟨env,g⟩:=iv.good
   unfold mq at ya
   split at ya
   ·simp at ya;subst ya;intro y hy;simp at hy
   ·rename_i j x hgd
    split at ya
    ·rename_i q Th
     split at ya
     ·rename_i d hdq
      have hwd:=(vO (ops:=ops.toArray) hgd (by simpa using Th) hdq a.tmps).1 hw
      split at ya
      ·simp only[oI]at ya
       subst ya
       intro y hy
       simp at hy
       subst hy
       exact hwd
      ·rename_i p' b hl
       simp only[oI]at ya
       subst ya
       intro y hy
       rcases bh.1 hy with rfl|hy
       ·exact hwd
       ·exact(DL g hl hwd).1 y hy
      ·cases ya
     ·cases ya
    ·cases ya
  obtain⟨env,g⟩:=iv.good
  have ac4:Compat (iZ (fun j=>q.testBit j) tr s i).hp (iZ D tr s ops.length).hp:=by
   intro n x y h1 h2
   have h3:=Ej hfr (Nat.le_of_lt hi) (aZ _) h1
   have h4:=yD hfr xD (aZ _) h2
   rw[h3]at h4
   simpa using h4
  have hmono:=Q2 ac4 g (by rw[Fk,Fk]) o8 ya hh (fun x hx t hxt=>agree t fun k o2 hk Rj WC hd2=>by
    have ht:t∈tmpsOf o:=by
     simp only[tmpsOf,tR]
     exact⟨x,hx,by rw[hxt]⟩
    rcases K.uses i o Gw ho t ht k o2 Rj WC hd2 with h|h|h
    ·exact bI h
    ·exact bn (bI ⟨ajO h,Ti Rj hk (amj h)⟩)
    ·refine bn (bn ⟨h.1,?_⟩)
     cases xC:D k with
     |false=>rfl
     |true=>
      have:=HY (D:=fun j=>B.testBit j=true∨D j=true) K.back Nh k o2 WC (Nh k o2 (bn xC) WC) i h.2
      have:=Ti Gw hi this
      rw[OO]at this;cases this) Tj ahb hq
  have:=NO (Q:=Q) C hmono iv (fun p hp=>hv _ hvc Gw hi p hp)
  rw[hput]at this
  exact this.mono behind
 ·unfold lF
  rw[if_neg hw]
  have hnil:p≠ []:=by
   rintro rfl
   unfold mq at o8
   split at o8
   ·rename_i hgd;exact hw (by simp[gU,hgd])
   ·repeat' split at o8
    all_goals simp at o8
  obtain⟨⟨y,hy⟩,hos,_⟩:=jo hnil
  have hnh: ¬holds a.tmps p:=by
   intro hh
   unfold mq at o8
   split at o8
   ·rename_i hgd;exact hw (by simp[gU,hgd])
   ·rename_i j x hgd
    split at o8
    ·rename_i q Th
     split at o8
     ·rename_i d hdq
      have hdx:(d,x)∈p:=by
       split at o8
       ·simp only[oI]at o8;rw[←o8];simp
       ·simp only[oI]at o8;rw[←o8];simp
       ·cases o8
      exact hw ((vO (ops:=ops.toArray) hgd (by simpa using Th) hdq a.tmps).2 (hh _ hdx))
     ·cases o8
    ·cases o8
  apply behind
  obtain⟨env,g⟩:=iv.good
  have hlt:e.d<a.tmps.size:=by
   unfold uK at hq
   have:BL (iZ (fun j=>q.testBit j) tr s i) o.dst=true:=by
    cases hdk:BL (iZ (fun j=>q.testBit j) tr s i) o.dst with
    |true=>rfl
    |false=>rw[hdk]at hq;simp at hq
   rw[hd]at this
   rw[iv.size,Fk]
   have:=bX this
   rw[show(iZ (fun j=>q.testBit j) tr s i).n=s.n from Fk i]at this
   exact this
  have ajQ:=g.put (d:=e.d) hlt (v:=e.v) (u:=undef) (by rw[hy];exact⟨fun hh=>absurd hh hnh,fun _=>rfl⟩) hdm
  refine⟨by rw[lE];exact iv.size,by rw[put_defers];exact iv.defers,iv.kept,iv.Jx,env,?_⟩
  rw[hd]
  have amk:(iZ D tr s ops.length).put (some e.d) e.v=app (iZ D tr s ops.length) e:=by
   simp only[St.put,ajP,app,hos]
   rfl
  rw[amk]at ajQ
  exact ajQ
end
theorem Cu{ops:List Oper}{B q ON:Nat}{D:Nat→Bool}(xD: ∀i,D i=true→q.testBit i=true)(hDn: ∀i,D i=true→i<ops.length)(hb: ∀i o,ops[i]? =some o→ ∀j,j∈ez o→j<i)
  (hc: ∀i o,D i=true→ops[i]? =some o→ ∀j,j∈ez o→(B.testBit j=true∨D j=true))(Tk: ∀i,q.testBit i=true→ON.testBit i=true→D i=true):
  ∀(m i d:Nat),i+m=ops.length→(∀j,d.testBit j=(decide (j<i)&&D j))→ ∃d',d'∈Iu ops B q ON m i d∧ ∀j,d'.testBit j=D j
 |0,i,d,him,hd=>by
  refine⟨d,by simp[Iu],fun j=> ?_⟩
  rw[hd j]
  cases hj:D j with
  |false=>simp
  |true=>have:=hDn j hj;simp;omega
 |m+1,i,d,him,hd=>by
  have hstep:D i=false→ ∀j,d.testBit j=(decide (j<i+1)&&D j):=by
   intro OO j
   rw[hd j]
   by_cases hji:j=i
   ·subst hji;simp[OO]
   ·have:decide (j<i)=decide (j<i+1):=by
     apply decide_eq_decide.2;omega
    rw[this]
  simp only[Iu]
  split
  ·rename_i hq
   have OO:D i=false:=by
    cases h:D i with
    |false=>rfl
    |true=>rw[xD i h]at hq;cases hq
   exact Cu xD hDn hb hc Tk m (i+1) d (by omega) (hstep OO)
  ·rename_i hq
   cases OO:D i with
   |true=>
    have hlt:=hDn i OO
    have ho:=au hlt
    have hcond:(((ops[i]?).map fun o=>(ez o).all fun j=>B.testBit j||d.testBit j).getD false)=true:=by
     rw[ho]
     simp only[dI,mS,bw,c8]
     intro j hj
     rcases hc i _ OO ho j hj with h|h
     ·exact bI h
     ·exact bn (by rw[hd j,h];have:=hb i _ ho j hj;simp[this])
    obtain⟨d',h1,h2⟩:=Cu xD hDn hb hc Tk m (i+1) (d|||2^i) (by omega) (fun j=>by
     rw[p7,m7,hd j]
     by_cases hji:i=j
     ·subst hji;simp[OO]
     ·have:decide (j<i)=decide (j<i+1):=by
       apply decide_eq_decide.2;omega
      simp[hji,this])
    refine⟨d',?_,h2⟩
    rw[hcond]
    exact aN _ h1
   |false=>
    obtain⟨d',h1,h2⟩:=Cu xD hDn hb hc Tk m (i+1) d (by omega) (hstep OO)
    refine⟨d',aH _ ?_,h2⟩
    split
    ·rename_i hm
     have:=Tk i hq hm
     rw[OO]at this;cases this
    ·exact h1
section
variable{P:Program}{Γ:Nat→TK}{fQ:List (Nat×Nat)}{cr:List (Nat×CR)}{ks hs:List Nat}{ops:List Oper}{n0 qs:Nat}
theorem tV: ∀{c:kE} {s:St} {tr:List TE} {vq acc:List (Nat×List Prop)} {lv:List (List Prop×St)},nE P ty Γ fQ cr ks hs ops n0 c s tr vq acc=some lv→ ∀d t sub,(d,t,sub)∈c.Tg→
  ∃o vc s2 l1,ops[t]? =some o∧step P ty Γ fQ cr ops (OL d 0 tr s) o=some (vc,s2)∧nE P ty Γ fQ cr ks hs ops n0 sub s2 [] [] (Rh t vc (OM d vq acc))=some l1∧ ∀x,x∈l1→x∈lv
 | .br d0 t0 ajR next,s,tr,vq,acc,lv,h,d,t,sub,hm=>by
   simp only[nE]at h
   split at h
   case h_2=>cases h
   rename_i s1 o hs1 ho
   have hs1:=sI hs1
   subst hs1
   split at h
   case h_2=>cases h
   rename_i vc s2 hst
   split at h
   case h_2=>cases h
   rename_i s3 hs3
   have hs3:=sI hs3
   subst hs3
   split at h
   case h_2=>cases h
   rename_i l1 l2 h1 h2
   simp only[oI]at h
   rw[gV]at h
   subst h
   simp only[kE.Tg,bh,pI]at hm
   rcases hm with⟨rfl,rfl,rfl⟩|hm
   ·exact⟨o,vc,_,l1,ho,hst,h1,fun x hx=>aN _ hx⟩
   ·obtain⟨o',vc',s',l',p1,p2,p3,p4⟩:=tV h2 d t sub hm
    exact⟨o',vc',s',l',p1,p2,p3,fun x hx=>aH _ (p4 x hx)⟩
 | .last _,_,_,_,_,_,_,_,_,_,hm=>by simp[kE.Tg]at hm
 | .ph _ _,_,_,_,_,_,_,_,_,_,hm=>by simp[kE.Tg]at hm
 | .nil,_,_,_,_,_,_,_,_,_,hm=>by simp[kE.Tg]at hm
theorem vf: ∀{c:kE} {s:St} {tr:List TE} {vq acc:List (Nat×List Prop)} {lv:List (List Prop×St)},nE P ty Γ fQ cr ks hs ops n0 c s tr vq acc=some lv→ ∀x,x∈lv→ ∀y,y∈acc→ ∀p,p∈y.2→p∈x.1
 | .last q,s,tr,vq,acc,lv,h,x,hx,y,hy,p,hp=>by
   simp only[nE]at h
   repeat' split at h
   all_goals first
    | (cases h;done)
    |skip
   rename_i hf _ _ _ _
   simp only[oI]at h
   subst h
   rw[aR]at hx
   subst hx
   exact Eh hf y (ve.2 (bn hy)) p hp
 | .ph q c,s,tr,vq,acc,lv,h,x,hx,y,hy,p,hp=>by
   simp only[nE]at h
   split at h
   ·exact vf h x hx y hy p hp
   ·cases h
 | .br d0 t0 ajR next,s,tr,vq,acc,lv,h,x,hx,y,hy,p,hp=>by
   simp only[nE]at h
   split at h
   case h_2=>cases h
   split at h
   case h_2=>cases h
   split at h
   case h_2=>cases h
   split at h
   case h_2=>cases h
   rename_i l1 l2 h1 h2
   simp only[oI]at h
   rw[gV]at h
   subst h
   rcases aL.1 hx with hx|hx
   ·exact vf h1 x hx y (yC.2 (bn (ve.2 (bn hy)))) p hp
   ·exact vf h2 x hx y hy p hp
 | .nil,_,_,_,_,_,h,x,hx,_,_,_,_=>by
   simp only[nE,oI]at h
   subst h
   cases hx
theorem zK{n:Nat}: ∀{c:kE} {B:Nat},WD ops (L1 ops) (idx 0 ops) qs n B c=true→ ∀d t sub,(d,t,sub)∈c.Tg→sub.Y0=true∧t<n∧WD ops (L1 ops) (idx 0 ops) qs n (B|||d|||2^t) sub=true∧l7 sub<l7 c
 | .br d0 t0 ajR next,B,h,d,t,sub,hm=>by
   simp only[WD,ak]at h
   simp only[kE.Tg,bh,pI]at hm
   rcases hm with⟨rfl,rfl,rfl⟩|hm
   ·exact⟨h.1.1.1,bX h.1.1.2,h.1.2,by simp only[kE.br.sizeOf_spec];omega⟩
   ·obtain⟨p1,p2,p3,p4⟩:=zK h.2 d t sub hm
    exact⟨p1,p2,p3,by simp only[kE.br.sizeOf_spec];omega⟩
 | .last _,_,_,_,_,_,hm=>by simp[kE.Tg]at hm
 | .ph _ _,_,_,_,_,_,hm=>by simp[kE.Tg]at hm
 | .nil,_,_,_,_,_,hm=>by simp[kE.Tg]at hm
theorem KK{B q:Nat}{c:kE}(h:Mj ops (L1 ops) ops.length B q c=true)(K:PhX ops qs B q){D:Nat→Bool}(xD: ∀i,D i=true→q.testBit i=true)(hDn: ∀i,D i=true→i<ops.length)
  (Nh: ∀i o,(B.testBit i=true∨D i=true)→ops[i]? =some o→ ∀j,j∈ez o→(B.testBit j=true∨D j=true)){t:Nat}{o:Oper}(ho:ops[t]? =some o)(ht:B.testBit t=false)(hqt:q.testBit t=false)(hE: ∀j,j∈ez o→(B.testBit j=true∨D j=true)):
  ∃d sub,(d,t,sub)∈c.Tg∧ ∀i,d.testBit i=D i:=by
 have htl:t<ops.length:=(aI.1 ho).1
 simp only[Mj,bw,cm,c8]at h
 obtain⟨d,h1,h2⟩:=Cu (B:=B) (q:=q) (ON:=(L1 ops).getD t 0) xD hDn K.back (fun i o hi=>Nh i o (bn hi)) (fun i Gw hm=>by
  have:=HY (D:=fun j=>B.testBit j=true∨D j=true) K.back Nh t o ho hE i hm
  rcases this with h|h
  ·have hil:i<ops.length:=by
    have:=HY (D:=fun j=>j<t) K.back (fun a b hab hb j hj=>yE (K.back a b hb j hj) hab) t o ho (fun j hj=>K.back t o ho j hj) _ hm
    omega
   rw[K.mu i hil Gw]at h;cases h
  ·exact h) ops.length 0 0 (by omega) (fun j=>by simp)
 rcases h t htl with(h3|h3)|h3
 ·rw[ht]at h3;cases h3
 ·rw[hqt]at h3;cases h3
 ·have h4:=h3 d h1
  simp only[bq,eZ,ak]at h4
  rcases h4 with h4| ⟨⟨d',t',sub⟩,h5,h6,h7⟩
  ·exfalso
   rw[ho]at h4
   simp only[dI,mS]at h4
   have:((ez o).all fun j=>B.testBit j||d.testBit j)=true:=by
    rw[bw]
    intro j hj
    rw[c8,h2 j]
    exact hE j hj
   rw[this]at h4;cases h4
  ·have h6:=ay h6
   have h7:=ay h7
   simp only at h6 h7
   subst h6;subst h7
   exact⟨d',sub,h5,h2⟩
theorem Tl{B q:Nat}{c:kE}(aml:Mj ops (L1 ops) ops.length B q c=true)(K:PhX ops qs B q)(OQ: ∀i o,B.testBit i=true→ops[i]? =some o→ ∀j,j∈ez o→B.testBit j=true)
  (hqc: ∀i o,q.testBit i=true→ops[i]? =some o→ ∀j,j∈ez o→(B.testBit j=true∨q.testBit j=true))(hnot:((bD ops.length).all fun i=>B.testBit i||q.testBit i)=false):
  ∃d t sub,(d,t,sub)∈c.Tg∧(∀i,d.testBit i=(q.testBit i&&decide (i<ops.length)))∧ ∀o,ops[t]? =some o→ ∀j,j∈ez o→(B.testBit j=true∨d.testBit j=true):=by
 have: ∃i,i<ops.length∧B.testBit i=false∧q.testBit i=false∧ ∀j,j<i→B.testBit j=true∨q.testBit j=true:=by
  rw[List.all_eq_false]at hnot
  obtain⟨i,hi,hn⟩:=hnot
  rw[cm]at hi
  simp only[c8,not_or,Bool.not_eq_true]at hn
  induction i using lJ with
  |_ i ih=>
   by_cases hl: ∀j,j<i→B.testBit j=true∨q.testBit j=true
   ·exact⟨i,hi,hn.1,hn.2,hl⟩
   ·have: ∃j,j<i∧B.testBit j=false∧q.testBit j=false:=by
     apply Classical.byContradiction
     intro hno
     apply hl
     intro j hj
     cases hb:B.testBit j with
     |true=>exact bI rfl
     |false=>
      cases hq:q.testBit j with
      |true=>exact bn rfl
      |false=>exact absurd ⟨j,hj,hb,hq⟩ hno
    obtain⟨j,hj,h1,h2⟩:=this
    exact ih j hj (by omega) ⟨h1,h2⟩
 obtain⟨i,hi,h1,h2,h3⟩:=this
 have ho:=au hi
 obtain⟨d,sub,h4,h5⟩:=KK (D:=fun j=>q.testBit j&&decide (j<ops.length)) aml K (fun j hj=>by simp at hj;exact hj.1) (fun j hj=>by simp at hj;exact hj.2)
  (fun a b hab hb j hj=>by
   have hal:a<ops.length:=(aI.1 hb).1
   have hjl:j<ops.length:=yE (K.back a b hb j hj) hal
   rcases hab with h|h
   ·exact bI (OQ a b h hb j hj)
   ·simp at h
    rcases hqc a b h.1 hb j hj with h|h
    ·exact bI h
    ·exact bn (by simp[h,hjl])) ho h1 h2 (fun j hj=>by
   have hji:=K.back i _ ho j hj
   rcases h3 j hji with h|h
   ·exact bI h
   ·exact bn (by simp[h];omega))
 refine⟨d,i,sub,h4,h5,fun o ho' j hj=> ?_⟩
 have hji:=K.back i _ ho' j hj
 rcases h3 j hji with h|h
 ·exact bI h
 ·exact bn (by rw[h5 j,h];simp;omega)
theorem Ml{B d t q:Nat}(K:PhX ops qs B q)(OQ: ∀i o,B.testBit i=true→ops[i]? =some o→ ∀j,j∈ez o→B.testBit j=true)(hd: ∀i o,d.testBit i=true→ops[i]? =some o→ ∀j,j∈ez o→(B.testBit j=true∨d.testBit j=true))
  (ht: ∀o,ops[t]? =some o→ ∀j,j∈ez o→(B.testBit j=true∨d.testBit j=true)): ∀i o,(B|||d|||2^t).testBit i=true→ops[i]? =some o→ ∀j,j∈ez o→(B|||d|||2^t).testBit j=true:=by
 intro i o hi ho j hj
 simp only[p7,m7,c8,decide_eq_true_eq]at hi ⊢
 rcases hi with(h|h)|h
 ·exact bI (bI (OQ i o h ho j hj))
 ·exact bI (hd i o h ho j hj)
 ·subst h;exact bI (ht o ho j hj)
theorem Ix: ∀(N:Nat) (p:kE),l7 p≤N→p.Y0=true→ ∀(B:Nat) (s:St) (tr:List TE) (vq acc:List (Nat×List Prop)) (lv:List (List Prop×St)),(∀i o,ops[i]? =some o→ ∀j,j∈ez o→j<i)→(∀i o,B.testBit i=true→ops[i]? =some o→ ∀j,j∈ez o→B.testBit j=true)→
  WD ops (L1 ops) (idx 0 ops) qs ops.length B p=true→nE P ty Γ fQ cr ks hs ops n0 p s tr vq acc=some lv→lv≠ []
 |N, .last q,_,_,B,s,tr,vq,acc,lv,hb,OQ,hok,h=>by
  simp only[nE]at h
  repeat' split at h
  all_goals first
   | (cases h;done)
   |skip
  simp only[oI]at h
  rw[←h];simp
 |0, .ph q c,hN,_,_,_,_,_,_,_,_,_,_,_=>by simp only[kE.ph.sizeOf_spec]at hN;omega
 |N+1, .ph q c,hN,_,B,s,tr,vq,acc,lv,hb,OQ,hok,h=>by
  simp only[WD,ak,bq]at hok
  have K:=Mk hb hok.1.1.1
  obtain⟨d,t,sub,hm,hd,ht⟩:=Tl hok.1.1.2 K OQ K.clq hok.1.2
  simp only[nE]at h
  split at h
  case h_2=>cases h
  rename_i tr' vq' hr
  obtain⟨o,vc,s2,l1,h1,h2,h3,h4⟩:=tV h d t sub hm
  obtain⟨p1,p2,p3,p4⟩:=zK hok.2 d t sub hm
  have hsz:l7 sub≤N:=by simp only[kE.ph.sizeOf_spec]at hN;omega
  have:=Ix N sub hsz p1 (B|||d|||2^t) s2 [] [] _ l1 hb (Ml K OQ (fun i o hi ho j hj=>by
   rw[hd i]at hi
   simp only[ak,decide_eq_true_eq]at hi
   rcases K.clq i o hi.1 ho j hj with h|h
   ·exact bI h
   ·exact bn (by rw[hd j,h];have:=K.back i o ho j hj;simp;omega)) ht) p3 h3
  intro hnil
  cases l1 with
  |nil=>exact this rfl
  |cons x r=>have:=h4 x (by simp);rw[hnil]at this;cases this
 |_, .br _ _ _ _,_,hp,_,_,_,_,_,_,_,_,_,_=>by cases hp
 |_, .nil,_,hp,_,_,_,_,_,_,_,_,_,_=>by cases hp
variable{zb:eK}{Q:Exit→Act→World→Prop}
theorem KL(X:Ctx P ty Γ){B q:Nat}{s:St}{tr:List TE}{vq:List (Nat×List Prop)}(T:TrX Γ (P7 P ty) (Sound ty P) fQ cr ops q s tr vq)(K:PhX ops qs B q)(hv: ∀x,x∈vq→q.testBit x.1=true→x.1<ops.length→ ∀p,p∈x.2→p)(OQ: ∀i o,B.testBit i=true→ops[i]? =some o→ ∀j,j∈ez o→B.testBit j=true)
  (fin: ∀a w,(∀i,i<ops.length→B.testBit i=true∨q.testBit i=true)→Inv ty zb (iZ (fun j=>q.testBit j) tr s ops.length) a w→Q .normal a w)
  (kZ: ∀(fuel:Nat) (D:Nat→Bool) (listed:Array Bool) (i:Nat) (o:Oper) (a:Act) (w:World),listed.size=ops.length→(∀j,j<ops.length→listed.getD j false=(B.testBit j||D j))→(∀i,D i=true→q.testBit i=true)→(∀i,D i=true→i<ops.length)→
   (∀i o,(B.testBit i=true∨D i=true)→ops[i]? =some o→ ∀j,j∈ez o→(B.testBit j=true∨D j=true))→ops[i]? =some o→B.testBit i=false→q.testBit i=false→(∀j,j∈ez o→(B.testBit j=true∨D j=true))→cnt ops.length (fun j=>(listed.setIfInBounds i true).getD j false)≤fuel→
   Inv ty zb (iZ D tr s ops.length) a w→lF P ops.toArray o a w (wpAny P .any ops.toArray Q fuel (listed.setIfInBounds i true)) Q):
  ∀(fuel:Nat) (D:Nat→Bool) (listed:Array Bool) (a:Act) (w:World),listed.size=ops.length→(∀j,j<ops.length→listed.getD j false=(B.testBit j||D j))→(∀i,D i=true→q.testBit i=true)→(∀i,D i=true→i<ops.length)→
   (∀i o,(B.testBit i=true∨D i=true)→ops[i]? =some o→ ∀j,j∈ez o→(B.testBit j=true∨D j=true))→cnt ops.length (fun j=>listed.getD j false)≤fuel→Inv ty zb (iZ D tr s ops.length) a w→wpAny P .any ops.toArray Q fuel listed a w:=by
 have all: ∀{D:Nat→Bool} {listed:Array Bool} {a:Act} {w:World},listed.size=ops.length→(∀j,j<ops.length→listed.getD j false=(B.testBit j||D j))→(∀i,D i=true→q.testBit i=true)→tQ .any ops.toArray listed= []→Inv ty zb (iZ D tr s ops.length) a w→Q .normal a w:=by
  intro D listed a w hl hL xD hnil iv
  have amm: ∀i,i<ops.length→listed.getD i false=true:=by
   intro i
   induction i using lJ with
   |_ i ih=>
    intro hi
    cases hd:listed.getD i false with
    |true=>rfl
    |false=>
     have:i∈tQ .any ops.toArray listed:=(DV hl).2 ⟨ops[i],au hi,hd,fun j hj=>by
      have:=K.back i _ (au hi) j hj
      exact ih j this (by omega)⟩
     rw[hnil]at this
     cases this
  have hBD: ∀i,i<ops.length→B.testBit i=true∨D i=true:=by
   intro i hi
   have:=amm i hi
   rw[hL i hi,c8]at this
   exact this
  refine fin a w (fun i hi=>(hBD i hi).imp id (xD i)) ?_
  rw[←Ei (D:=D) fun i hi=> ?_]
  ·exact iv
  ·cases hq:q.testBit i with
   |false=>
    cases hd:D i with
    |false=>rfl
    |true=>rw[xD i hd]at hq;cases hq
   |true=>
    rcases hBD i hi with h|h
    ·rw[K.mu i hi hq]at h;cases h
    ·exact h
 intro fuel
 induction fuel with
 |zero=>
  intro D listed a w hl hL xD hDm Nh hf iv
  have hz:=Yq (by omega:cnt ops.length (fun i=>listed.getD i false)=0)
  have hnil:tQ .any ops.toArray listed= []:=by
   apply List.eq_nil_iff_forall_not_mem.2
   intro i hi
   obtain⟨o,ho,h1,_⟩:=(DV hl).1 hi
   rw[hz i (aI.1 ho).1]at h1
   cases h1
  exact⟨hnil,all hl hL xD hnil iv⟩
 |succ fuel ih=>
  intro D listed a w hl hL xD hDm Nh hf iv
  refine⟨fun hnil=>all hl hL xD hnil iv,fun i hi=> ?_⟩
  obtain⟨o,ho,hif,hE0⟩:=(DV hl).1 hi
  have hin:=(aI.1 ho).1
  have hE: ∀j,j∈ez o→(B.testBit j=true∨D j=true):=by
   intro j hj
   have:=hE0 j hj
   rw[hL j (by have:=K.back i o ho j hj;omega),c8]at this
   exact this
  rw[hL i hin,gB]at hif
  obtain⟨hBi,OO⟩:=hif
  have Ye: ∀j,(listed.setIfInBounds i true).getD j false=(listed.getD j false||j==i):=fun j=>Oi (by omega)
  have amn:(fun j=>(listed.setIfInBounds i true).getD j false)=fun j=>listed.getD j false||j==i:=funext Ye
  have ac5:cnt ops.length (fun j=>(listed.setIfInBounds i true).getD j false)≤fuel:=by
   rw[amn]
   have:=acz (D:=fun i=>listed.getD i false) hin (by rw[hL i hin,hBi,OO];rfl)
   omega
  unfold wpOp
  rw[lH,ho]
  dsimp only
  cases Gw:q.testBit i with
  |true=>
   have hstep:=Rk (Q:=Q) X.kind T K hv xD hDm Nh Gw OO ho hE iv
   refine lF.mono (fun a' w' uz=>ih (fun j=>D j||j==i) (listed.setIfInBounds i true) a' w' (by simpa using hl) (fun j hj=> ?_) (fun j hj=> ?_) (fun j hj=> ?_) (fun a b hab hb j hj=> ?_) ac5 uz) hstep
   ·rw[Ye,hL j hj,Bool.or_assoc]
   ·simp only[c8,beq_iff_eq]at hj
    rcases hj with h|rfl
    ·exact xD j h
    ·exact Gw
   ·simp only[c8,beq_iff_eq]at hj
    rcases hj with h|rfl
    ·exact hDm j h
    ·exact hin
   ·have up: ∀{x},(B.testBit x=true∨D x=true)→(B.testBit x=true∨(D x||x==i)=true):=fun h=>h.imp id (fun h=>by simp[h])
    simp only[c8,beq_iff_eq]at hab
    rcases hab with h|h|rfl
    ·exact up (Nh a b (bI h) hb j hj)
    ·exact up (Nh a b (bn h) hb j hj)
    ·rw[ho]at hb
     simp only[oI]at hb
     subst hb
     exact up (hE j hj)
  |false=>exact kZ fuel D listed i o a w hl hL xD hDm Nh ho hBi Gw hE ac5 iv
theorem OR(X:Ctx P ty Γ)(hb: ∀i o,ops[i]? =some o→ ∀j,j∈ez o→j<i): ∀(N:Nat) (p:kE),l7 p≤N→p.Y0=true→ ∀(B:Nat) (s:St) (tr0:List TE) (vq0 acc:List (Nat×List Prop)) (lv:List (List Prop×St)),
  (∀i o,B.testBit i=true→ops[i]? =some o→ ∀j,j∈ez o→B.testBit j=true)→WD ops (L1 ops) (idx 0 ops) qs ops.length B p=true→nE P ty Γ fQ cr ks hs ops n0 p s tr0 vq0 acc=some lv→
  (∀x,x∈lv→(∀q,q∈x.1→q)∧ ∀a w,Inv ty zb x.2 a w→Q .normal a w)→
  ∀(fuel:Nat) (listed:Array Bool) (a:Act) (w:World),listed.size=ops.length→(∀j,j<ops.length→listed.getD j false=B.testBit j)→cnt ops.length (fun j=>listed.getD j false)≤fuel→Inv ty zb s a w→wpAny P .any ops.toArray Q fuel listed a w
 |N, .last q,hN,_,B,s,tr0,vq0,acc,lv,OQ,hok,h,hlv,fuel,listed,a,w,hl,hL,hf,iv=>by
  simp only[WD,ak]at hok
  have K:=Mk hb hok.1
  simp only[nE]at h
  split at h
  case h_2=>cases h
  rename_i tr vq hr
  split at h
  case h_2=>cases h
  rename_i n sl1 jo hs1
  have hs1:=sI hs1
  split at h
  case h_2=>cases h
  rename_i sl hp vc h1 h2 h3
  split at h
  case h_2=>cases h
  rename_i xA hn
  simp only[oI]at h
  have T:=TrX.of hr
  obtain⟨hx1,hx2⟩:=hlv (vc,⟨n0,sl,hp⟩) (by rw[←h];simp)
  have hmk:iZ (fun j=>q.testBit j) tr s ops.length=⟨n,sl1,jo⟩:=by
   rw[hs1,Ct,T.len]
   congr 1
   funext j;rw[dZ]
  refine KL X T K (fun x hx hq _ p hp=>hx1 p (Eh h3 x (ve.2 (bI ⟨hx,hq⟩)) p hp)) OQ (fun a w _ uz=> ?_) (fun fuel D listed i o a w _ _ _ _ _ ho hBi Gw _ _ _=> ?_) fuel (fun _=>false) listed a w hl (fun j hj=>by rw[hL j hj,Ck]) (by simp) (by simp) (fun i o hi ho j hj=>by
    rcases hi with h|h
    ·exact bI (OQ i o h ho j hj)
    ·cases h) hf (by rw[Iv];exact iv)
  ·rw[hmk]at uz
   exact hx2 a w (uz.weaken (ay hn).symm (pe h1) (pg h2) xA)
  ·exfalso
   have hil:=(aI.1 ho).1
   have:=bw.1 hok.2 i (cm.2 hil)
   rw[hBi,Gw]at this;cases this
 |0, .ph q c,hN,_,_,_,_,_,_,_,_,_,_,_,_,_,_,_,_,_,_,_=>by simp only[kE.ph.sizeOf_spec]at hN;omega
 |N+1, .ph q c,hN,_,B,s,tr0,vq0,acc,lv,OQ,hok,h,hlv,fuel,listed,a,w,hl,hL,hf,iv=>by
  simp only[WD,ak,bq]at hok
  have K:=Mk hb hok.1.1.1
  obtain⟨d,t,sub,hm,hd,ht⟩:=Tl hok.1.1.2 K OQ K.clq hok.1.2
  simp only[nE]at h
  split at h
  case h_2=>cases h
  rename_i tr vq hr
  have T:=TrX.of hr
  have hv: ∀x,x∈vq→q.testBit x.1=true→x.1<ops.length→ ∀p,p∈x.2→p:=by
   obtain⟨o,vc,s2,l1,h1,h2,h3,h4⟩:=tV h d t sub hm
   obtain⟨p1,p2,p3,p4⟩:=zK hok.2 d t sub hm
   have hsz:l7 sub≤N:=by simp only[kE.ph.sizeOf_spec]at hN;omega
   have hne:=Ix N sub hsz p1 (B|||d|||2^t) s2 [] [] _ l1 hb (Ml K OQ (fun i o hi ho j hj=>by
    rw[hd i]at hi
    simp only[ak,decide_eq_true_eq]at hi
    rcases K.clq i o hi.1 ho j hj with h|h
    ·exact bI h
    ·exact bn (by rw[hd j,h];have:=K.back i o ho j hj;simp;omega)) ht) p3 h3
   cases l1 with
   |nil=>exact absurd rfl hne
   |cons x r=>
    intro y hy hq hyl p hp
    exact(hlv x (h4 x (by simp))).1 p (vf h3 x (by simp) y (yC.2 (bn (ve.2 (bI ⟨hy,by rw[hd y.1,hq];simp[hyl]⟩)))) p hp)
  refine KL X T K hv OQ (fun a w hall _=> ?_) (fun fuel D listed i o a w hl hL xD hDm Nh ho hBi Gw hE ac5 uz=> ?_) fuel (fun _=>false) listed a w hl (fun j hj=>by rw[hL j hj,Ck]) (by simp) (by simp) (fun i o hi ho j hj=>by
    rcases hi with h|h
    ·exact bI (OQ i o h ho j hj)
    ·cases h) hf (by rw[Iv];exact iv)
  ·exfalso
   have:((bD ops.length).all fun i=>B.testBit i||q.testBit i)=true:=by
    rw[bw]
    intro i hi
    rw[c8]
    exact hall i (cm.1 hi)
   rw[hok.1.2]at this;cases this
  ·obtain⟨d,sub,hm,hd⟩:=KK hok.1.1.2 K xD hDm Nh ho hBi Gw hE
   obtain⟨o',vc,s2,l1,h1,h2,h3,h4⟩:=tV h d i sub hm
   rw[ho]at h1
   simp only[oI]at h1
   subst h1
   obtain⟨p1,p2,p3,p4⟩:=zK hok.2 d i sub hm
   have hsz:l7 sub≤N:=by simp only[kE.ph.sizeOf_spec]at hN;omega
   have hmk:OL d 0 tr s=iZ D tr s ops.length:=by
    rw[Ct,T.len]
    exact Ei fun j _=>by rw[dZ];exact hd j
   rw[hmk]at h2
   have ajT:=Ml (d:=d) (t:=i) K OQ (fun i o hi ho j hj=>by
    rw[hd i]at hi
    rw[hd j]
    exact Nh i o (bn hi) ho j hj) (fun o2 WC j hj=>by
    rw[ho]at WC
    simp only[oI]at WC
    subst WC
    rw[hd j]
    exact hE j hj)
   have hne:=Ix N sub hsz p1 (B|||d|||2^i) s2 [] [] _ l1 hb ajT p3 h3
   have hvc: ∀p,p∈vc→p:=by
    cases l1 with
    |nil=>exact absurd rfl hne
    |cons x r=>
     intro p hp
     exact(hlv x (h4 x (by simp))).1 p (vf h3 x (by simp) (i,vc) (yC.2 (bI rfl)) p hp)
   have hstep:=zC (Q:=Q) X.kind X.one h2 uz hvc
   refine lF.mono (fun a' w' iv2=>OR X hb N sub hsz p1 (B|||d|||2^i) s2 [] [] _ l1 ajT p3 h3 (fun x hx=>hlv x (h4 x hx)) fuel (listed.setIfInBounds i true) a' w' (by simpa using hl) (fun j hj=> ?_) ac5 iv2) hstep
   have hin:=(aI.1 ho).1
   rw[Oi (by omega),hL j hj]
   simp only[p7,m7,hd j]
   by_cases hji:j=i
   ·subst hji;simp
   ·have: ¬i=j:=fun e=>hji e.symm
    simp[hji,this]
 |_, .br _ _ _ _,_,hp,_,_,_,_,_,_,_,_,_,_,_,_,_,_,_,_,_,_=>by cases hp
 |_, .nil,_,hp,_,_,_,_,_,_,_,_,_,_,_,_,_,_,_,_,_,_=>by cases hp
end
def KM(x:List Prop×St):List (List Prop×St)→Prop
 | []=>True
 |y::r=>y=x∧KM x r
theorem KM.out{x:List Prop×St}: ∀{l:List (List Prop×St)},KM x l→ ∀y,y∈l→y=x
 |_::_,h,y,hy=>by
  rcases bh.1 hy with rfl|hy
  ·exact h.1
  ·exact KM.out h.2 y hy
section
variable{P:Program}{Γ:Nat→TK}{zb:eK}{Q:Post}{st:St}
theorem Y1(X:Ctx P ty Γ)(fQ:List (Nat×Nat))(cr:List (Nat×CR))(ks hs:List Nat)(qs:Nat)(pl:kE){id:Nat}{ops:List Oper}{vc:List Prop}{st':St}{rest:List (List Prop×St)}(hm:P.follows .mixedOrders=true)(hc:ac3 ops qs pl=true)(h:nE P ty Γ fQ cr ks hs ops st.n pl st [] [] []=some ((vc,st')::rest))(he:KM (vc,st') rest)(hv:qK vc)(k:Q .normal st'):
  W P ty zb (.region id ops.toArray true) Q st:=by
 intro a w iv
 simp only[ac3,ak]at hc
 have hb:=ajN hc.1.1
 refine wp_region_any hm ?_
 have hz: ∀i,(Array.replicate ops.toArray.size false).getD i false=false:=by
  intro i
  rw[aa,Array.getElem?_replicate]
  split<;>rfl
 refine OR (zb:=zb) (Q:=JP ty zb Q) X hb _ pl (aZ _) hc.1.2 0 st [] [] [] _ (fun i o hi=>by simp at hi) hc.2 h (fun x hx=> ?_) _ _ a _ (by simp) (fun j hj=>by rw[hz];simp) ?_ ?_
 ·have hx:x=(vc,st'):=by
   rcases bh.1 hx with rfl|hx
   ·rfl
   ·exact he.out x hx
  subst hx
  exact⟨hv.out,fun a w uz=>⟨st',uz,k⟩⟩
 ·unfold cnt
  refine dy (List.length_filter_le _ _) ?_
  simp
 ·obtain⟨env,g⟩:=iv.good
  have hdr:Below w.heap.size w w.drew:=(Below.refl _ _).drew
  refine⟨iv.size,iv.defers,iv.kept.trans (oY hdr iv.kept.size),iv.Jx,env,?_⟩
  have:=g.grow (os:= []) (w':=w.drew) (env':=env) iv.kept.size rfl (oZ.none hdr)
  exact this
end
section
variable{P:Program}{Γ:Nat→TK}{zb:eK}{Q:Post}{st:St}
theorem Y2(X:Ctx P ty Γ)(fQ:List (Nat×Nat))(cr:List (Nat×CR))(ks hs:List Nat)(qs:Nat)(pl:kE)(nw:Nat){id:Nat}{ops:List Oper}{vc:List Prop}{st':St}(hm:P.follows .mixedOrders=true)(hc:ac3 ops qs pl=true)(_h0:G.reg P ty Γ fQ cr ks hs ops st=some (vc,st'))(h:nE P ty Γ fQ cr ks hs ops st.n pl st [] [] []=some ((vc,st')::eF nw (vc,st')))(hv:qK vc)(k:Q .normal st'):
  W P ty zb (.region id ops.toArray true) Q st:=by
 refine Y1 X fQ cr ks hs qs pl hm hc h ?_ hv k
 have: ∀n,KM (vc,st') (eF n (vc,st')):=by
  intro n
  induction n with
  |zero=>trivial
  |succ n ih=>exact⟨rfl,ih⟩
 exact this nw
def hasB(B:Nat)(es:List Nat):Bool:=es.all fun j=>B.testBit j
def mkQ(B qs:Nat):List (Nat×List Nat)→Nat→Nat
 | [],q=>q
 | (i,es)::r,q=>match !B.testBit i&&qs.testBit i&&hasB (B|||q) es with
   |true=>mkQ B qs r (q|||2^i)
   |false=>mkQ B qs r q
def enD(B q clt:Nat):List (Nat×List Nat)→Nat→List Nat
 | [],d=> [d]
 | (i,es)::r,d=>match q.testBit i with
   |false=>enD B q clt r d
   |true=>(match hasB (B|||d) es with|true=>enD B q clt r (d|||2^i)|false=> [])++(match clt.testBit i with|true=> []|false=>enD B q clt r d)
def mkB(f:Nat→kE)(B q:Nat)(E:List (Nat×List Nat))(cl:List Nat):List (Nat×List Nat)→kE
 | []=> .nil
 | (t,es)::r=>match(B|||q).testBit t with
   |true=>mkB f B q E cl r
   |false=>((enD B q (cl.getD t 0) E 0).filter fun d=>hasB (B|||d) es).foldr (fun d p=> .br d t (f (B|||d|||2^t)) p) (mkB f B q E cl r)
def mkP(E:List (Nat×List Nat))(cl:List Nat)(qs full:Nat):Nat→Nat→kE
 |0,_=> .nil
 |k+1,B=>match mkQ B qs E 0 with
  |q=>match aU (B|||q) full with
   |true=> .last q
   |false=> .ph q (mkB (mkP E cl qs full k) B q E cl E)
def Rm(ops:List Oper)(qs:Nat):kE:=mkP ((idx 0 ops).map fun e=>(e.1,ez e.2)) (L1 ops) qs (2^ops.length-1) (ops.length+1) 0
theorem aX(X:Ctx P ty Γ)(fQ:List (Nat×Nat))(cr:List (Nat×CR))(ks hs:List Nat)(qs:Nat)(nw:Nat){id:Nat}{ops:List Oper}{vc:List Prop}{st':St}(hm:P.follows .mixedOrders=true)(hc:ac3 ops qs (Rm ops qs)=true)(h0:G.reg P ty Γ fQ cr ks hs ops st=some (vc,st'))(h:nE P ty Γ fQ cr ks hs ops st.n (Rm ops qs) st [] [] []=some ((vc,st')::eF nw (vc,st')))(hv:qK vc)(k:Q .normal st'):
  W P ty zb (.region id ops.toArray true) Q st:=Y2 X fQ cr ks hs qs (Rm ops qs) nw hm hc h0 h hv k
end
end
section
variable{ty:Tag→Nat}
def O4(st:St)(n i:Nat):Option St:=match look st.hp n with
 |some (.box c)=>match BJ c i with
  |some (.own m)=>match look st.hp m with
   |some (.arr t l)=>match fHp ((n, .box (c.set i (.vw m none t l)))::st.hp.filter fun e=> !Nat.beq e.1 n)with
    |some hp=>some ⟨st.n,st.sl,hp⟩
    |none=>none
   |_=>none
  |_=>none
 |_=>none
theorem yG{α:Type}{hp:List (Nat×α)}{n m:Nat}(h:m≠n):look (hp.filter fun e=> !Nat.beq e.1 n) m=look hp m:=by
 induction hp with
 |nil=>rfl
 |cons e r ih=>
  obtain⟨j,x⟩:=e
  by_cases hj:j=n
  ·subst hj
   rw[ey (by simp),ih,cj h]
  ·have:aU j n=false:=by
    cases hb:aU j n with
    |false=>rfl
    |true=>exact absurd (ay hb) hj
   rw[dx (by simp[this])]
   by_cases hm:m=j
   ·subst hm;rw[look_eq,look_eq]
   ·rw[cj hm,cj hm,ih]
theorem cT.set{α β:Type}{R:α→β→Prop}: ∀{as:List α} {bs:List β} {i:Nat} {x:α},cT R as bs→(∀y,bs[i]? =some y→R x y)→cT R (as.set i x) bs
 | [],[],_,_,_,_=>trivial
 |a::as,b::bs,0,x,h,hx=>⟨hx b rfl,h.2⟩
 |a::as,b::bs,i+1,x,h,hx=>⟨h.1,cT.set h.2 (fun y hy=>hx y (by simpa using hy))⟩
 | [],_::_,_,_,h,_=>h.elim
 |_::_,[],_,_,h,_=>h.elim
section
variable{P:Program}{zb:eK}{st st':St}{Q:Post}
theorem Inv.O4{a:Act}{w:World}(n i:Nat)(h:G.O4 st n i=some st')(iv:Inv ty zb st a w):Inv ty zb st' a w:=by
 unfold G.O4 at h
 split at h
 case h_2=>cases h
 rename_i c hc
 split at h
 case h_2=>cases h
 rename_i m hm
 split at h
 case h_2=>cases h
 rename_i t l hl
 split at h
 case h_2=>cases h
 rename_i hp hf
 simp only[oI]at h
 subst h
 have hf:=LY hf
 obtain⟨env,g⟩:=iv.good
 have hmn:m≠n:=by rintro rfl;rw[hl]at hc;cases hc
 have hlk: ∀k o,look hp k=some o→(k=n∧o= .box (c.set i (.vw m none t l)))∨(k≠n∧look st.hp k=some o):=by
  intro k o hk
  rw[hf]at hk
  by_cases hkn:k=n
  ·subst hkn;rw[look_eq]at hk;simp only[oI]at hk;exact bI ⟨rfl,hk.symm⟩
  ·rw[cj hkn,yG hkn]at hk;exact bn ⟨hkn,hk⟩
 have hne: ∀k o,k≠n→look st.hp k=some o→look hp k=some o:=by
  intro k o hkn hk
  rw[hf,cj hkn,yG hkn];exact hk
 have hnn:look hp n=some (.box (c.set i (.vw m none t l))):=by rw[hf,look_eq]
 have s:Step (fun _=>True) (fun _=>True) w st.hp env w hp env:=by
  refine⟨fun _ _ _=>rfl,?_,?_,?_⟩
  ·rintro b _ ⟨k,o,h1,h2⟩
   rcases hlk k o h1 with⟨rfl,_⟩| ⟨_,h3⟩
   ·exact⟨_,_,hc,h2⟩
   ·exact⟨k,o,h3,h2⟩
  ·intro k o _ h1
   by_cases hkn:k=n
   ·subst hkn
    rw[hc]at h1
    simp only[oI]at h1
    subst h1
    exact⟨_,hnn,trivial,rfl⟩
   ·exact⟨o,hne k o hkn h1,by cases o<;>simp[Obj.like],rfl⟩
  ·intro k t' l' _ h1
   have hkn:k≠n:=by rintro rfl;rw[hc]at h1;cases h1
   exact⟨hne k _ hkn h1,rfl,fun _ _=>rfl⟩
 refine⟨iv.size,iv.defers,iv.kept,iv.Jx,env,⟨fun k o hk=> ?_,fun k k' o o' hkk h1 h2=> ?_,fun t v hv=>tF.step s (fun v _=>v.gM) (g.slot t v hv),fun k o hk b hb=> ?_,g.pins⟩⟩
 ·rcases hlk k o hk with⟨rfl,rfl⟩| ⟨hkn,h3⟩
  ·obtain⟨b,cs,e,h1,h2,h3⟩:=g.obj _ _ hc
   refine⟨b,cs,e,h1,h2,cT.set (h3.mono fun x y _ hr=>RA.step s x.gM hr) fun y hy=> ?_⟩
   rw[BS]at hm
   obtain⟨y',hy',hr⟩:=h3.at hm
   rw[hy]at hy'
   simp only[oI]at hy'
   subst hy'
   obtain⟨_,hu⟩:=hr
   have hro:=g.obj m _ hl
   have hlm:=hne m _ hmn hl
   refine⟨⟨t,l,hlm⟩,⟨(env m).fp,?_,(RO.own hro).nodup,fun _ h=>h⟩,by simp⟩
   rw[hu];exact RO.sl hro
  ·exact(g.obj k o h3).step s o.gM (fun _ _=>rfl)
 ·have: ∀k o,look hp k=some o→ ∃x,look st.hp k=some x:=by
   intro k o hk
   rcases hlk k o hk with⟨rfl,_⟩| ⟨_,h3⟩
   ·exact⟨_,hc⟩
   ·exact⟨_,h3⟩
  obtain⟨x,hx⟩:=this k o h1
  obtain⟨y,hy⟩:=this k' o' h2
  exact g.mu k k' x y hkk hx hy
 ·rcases hlk k o hk with⟨rfl,_⟩| ⟨_,h3⟩
  ·exact g.dom _ _ hc b hb
  ·exact g.dom k o h3 b hb
theorem Zc{c:Code}(n i:Nat)(h:G.O4 st n i=some st')(k:W P ty zb c Q st'):W P ty zb c Q st:=fun a w iv=>k a w (iv.O4 n i h)
end
end
section
variable{ty:Tag→Nat}
def AD(a b n:Nat):Nat:=match aU n a,aU n b with
 |true,_=>b
 |false,true=>a
 |false,false=>n
def V.sw(a b:Nat):V→V
 | .own n=> .own (AD a b n)
 | .ptr n o=> .ptr (AD a b n) o
 | .rZ n i o=> .rZ (AD a b n) i o
 | .vw n p t l=> .vw (AD a b n) p t l
 | .Jv n p t x o=> .Jv (AD a b n) p t x o
 | .Jw n t l=> .Jw (AD a b n) t l
 | .Gi f n=> .Gi f (AD a b n)
 | .mix n c t l=> .mix (AD a b n) c t l
 | .zn n=> .zn (AD a b n)
 |v=>v
def S1.sw(a b:Nat):S1→S1
 | .a v=> .a (v.sw a b)
 | .agg l=> .agg (l.map (V.sw a b))
def SV.sw(a b:Nat):SV→SV
 | .one x=> .one (x.sw a b)
 | .Au l=> .Au (l.map (S1.sw a b))
 | .cond p x=> .cond p (x.sw a b)
def vA.sw(a b:Nat):vA→vA
 | .of n=> .of (AD a b n)
 | .zV _=> .zV none
 |s=>s
def Obj.sw(a b:Nat):Obj→Obj
 | .box c=> .box (c.map (V.sw a b))
 | .arr t l=> .arr t l
 | .jG t l s=> .jG t l (s.sw a b)
def VO(a b:Nat)(hp:Hp):Hp:=hp.map fun e=>(AD a b e.1,e.2.sw a b)
def Zs(st:St)(a b:Nat):Option St:=match nI a,nI b,soft a,soft b with
 |false,false,false,false=>U6 ⟨st.n,st.sl.map fun e=>(e.1,e.2.sw a b),VO a b st.hp⟩
 |_,_,_,_=>none
theorem Ru(a b n:Nat):AD a b n=if n=a then b else if n=b then a else n:=by
 unfold AD
 by_cases h1:n=a
 ·subst h1;rw[if_pos rfl,gZ]
 ·have e1:aU n a=false:=by
   cases h:aU n a with
   |false=>rfl
   |true=>exact absurd (ay h) h1
  rw[if_neg h1,e1]
  by_cases h2:n=b
  ·subst h2;rw[if_pos rfl,gZ]
  ·have e2:aU n b=false:=by
    cases h:aU n b with
    |false=>rfl
    |true=>exact absurd (ay h) h2
   rw[if_neg h2,e2]
theorem ud(a b n:Nat):AD a b (AD a b n)=n:=by
 simp only[Ru]
 by_cases h1:n=a
 ·subst h1;simp only[if_true]
  by_cases h2:b=n
  ·rw[if_pos h2,h2]
  ·rw[if_neg h2]
 ·by_cases h2:n=b
  ·subst h2;simp[h1]
  ·simp[h1,h2]
theorem adh{a b n m:Nat}(h:AD a b n=AD a b m):n=m:=by
 have:=congrArg (AD a b) h
 rwa [ud,ud]at this
theorem vk(a b:Nat): ∀(hp:Hp) (n:Nat),look (VO a b hp) n=(look hp (AD a b n)).map (Obj.sw a b)
 | [],n=>rfl
 | (j,x)::r,n=>by
   show look ((AD a b j,x.sw a b)::VO a b r) n=_
   by_cases h:n=AD a b j
   ·subst h
    rw[look_eq,ud,look_eq];rfl
   ·rw[cj h,vk a b r n,cj]
    intro e
    exact h (by rw[←e,ud])
section
variable{w:World}{hp:Hp}{env:Env}{a b:Nat}
theorem ue{n:Nat}{t:Tag}{l:List (T t)}(h:look hp n=some (.arr t l)):look (VO a b hp) (AD a b n)=some (.arr t l):=by
 rw[vk,ud,h];rfl
theorem TB{n:Nat}{c:List V}(h:look hp n=some (.box c)):look (VO a b hp) (AD a b n)=some (.box (c.map (V.sw a b))):=by
 rw[vk,ud,h];rfl
def Zt(a b:Nat)(env:Env):Env:=fun n=>env (AD a b n)
theorem pU(n:Nat):Zt a b env (AD a b n)=env n:=by unfold Zt;rw[ud]
theorem wo{x:Nat}(h:Ow (VO a b hp) (Zt a b env) x):Ow hp env x:=by
 obtain⟨n,o,h1,h2⟩:=h
 rw[vk]at h1
 cases hq:look hp (AD a b n)with
 |none=>rw[hq]at h1;cases h1
 |some o'=>exact⟨_,_,hq,h2⟩
theorem RV.sw{n:Nat}{p:Option (Nat×Nat)}{t:Tag}{l:List (T t)}{u:Value}(h:RV w hp env n p t l u):RV w (VO a b hp) (Zt a b env) (AD a b n) p t l u:=by
 obtain⟨⟨t1,l1,h1⟩,⟨fp,h2,h3,h4⟩,h5⟩:=h
 refine⟨⟨t1,l1,ue h1⟩,⟨fp,h2,h3,by rw[pU];exact h4⟩,fun i off kY=> ?_⟩
 obtain⟨t0,l0,b0,o,len,cap,q1,q2,q3,q4,q5,q6⟩:=h5 i off kY
 exact⟨t0,l0,b0,o,len,cap,ue q1,q2,q3,by rw[pU];exact q4,by rw[pU];exact q5,q6⟩
theorem RA.sw{v:V}{u:Value}(h:RA w hp env v u):RA w (VO a b hp) (Zt a b env) (v.sw a b) u:=by
 cases v with
 |any=>trivial
 |lit v=>exact h
 |zU k=>exact h
 |raw v=>exact h
 |wJ v t l=>obtain⟨hu,fp,h1,h2⟩:=h;exact⟨hu,fp,h1,fun x hx ho=>h2 x hx (wo ho)⟩
 |sl t l=>obtain⟨fp,h1,h2⟩:=h;exact⟨fp,h1,fun x hx ho=>h2 x hx (wo ho)⟩
 |ip t x off=>obtain⟨b',o,cs,fp,h1,h2,h3,h4,h5,h6⟩:=h;exact⟨b',o,cs,fp,h1,h2,h3,h4,fun ho=>h5 (wo ho),fun c hc ho=>h6 c hc (wo ho)⟩
 |own n=>obtain⟨⟨t,l,hl⟩,hu⟩:=h;exact⟨⟨t,l,ue hl⟩,by rw[pU];exact hu⟩
 |ptr n off=>obtain⟨⟨c,hl⟩,b',h1,h2⟩:=h;exact⟨⟨_,TB hl⟩,b',by rw[pU];exact h1,h2⟩
 |Gi f n=>obtain⟨⟨c,hl⟩,b',h1,h2⟩:=h;exact⟨⟨_,TB hl⟩,b',by rw[pU];exact h1,h2⟩
 |rZ n i off=>obtain⟨t,l,hl,b',o,len,cap,h1,h2⟩:=h;exact⟨t,l,ue hl,b',o,len,cap,by rw[pU];exact h1,h2⟩
 |vw n p t l=>exact RV.sw h
 |Jw n t l=>
  obtain⟨⟨t1,l1,h1⟩,b',fp,h2,h3,h4,h5⟩:=h
  exact⟨⟨t1,l1,ue h1⟩,b',fp,h2,fun ho=>h3 (wo ho),h4,by rw[pU];exact h5⟩
 |zn n=>
  obtain⟨⟨t,l,s,hl⟩,hu⟩:=h
  exact⟨⟨t,l,s.sw a b,by rw[vk,ud,hl];rfl⟩,by rw[pU];exact hu⟩
 |mix n c t l=>
  obtain⟨⟨t1,l1,h1⟩,⟨fp,h2,h3⟩,h4⟩:=h
  exact⟨⟨t1,l1,ue h1⟩,⟨fp,h2,fun x hx=>(h3 x hx).imp (fun q=>by rw[pU];exact q) (fun q ho=>q (wo ho))⟩,h4⟩
 |Jv n p t x off=>
  obtain⟨⟨t1,l1,h1⟩,b',o,cs,fp,h2,h3,h4,h5,h6,h7,h8⟩:=h
  refine⟨⟨t1,l1,ue h1⟩,b',o,cs,fp,h2,by rw[pU];exact h3,h4,h5,h6,by rw[pU];exact h7,fun i o2 j kY=> ?_⟩
  obtain⟨l2,u0,b0,uu,len,cap,q1,q2,q3,q4,q5⟩:=h8 i o2 j kY
  exact⟨l2,u0,b0,uu,len,cap,q1.sw,q2,q3,q4,q5⟩
theorem ju.sw{x:S1}{u:Value}(h:ju w hp env x u):ju w (VO a b hp) (Zt a b env) (x.sw a b) u:=by
 cases x with
 |a v=>exact RA.sw h
 |agg l=>obtain⟨cs,h1,h2⟩:=h;exact⟨cs,h1,h2.map fun _ _ q=>RA.sw q⟩
theorem tF.sw{tmps:Array Value}{x:SV}{u:Value}(h:tF w hp env tmps x u):tF w (VO a b hp) (Zt a b env) tmps (x.sw a b) u:=by
 cases x with
 |one x=>exact ju.sw h
 |Au l=>obtain⟨us,h1,h2⟩:=h;exact⟨us,h1,h2.map fun _ _ q=>ju.sw q⟩
 |cond p x=>exact⟨fun q=>ju.sw (h.1 q),h.2⟩
theorem BE.sw{s:vA}{t:Tag}{x:T t}{u:Value}(h:BE w hp env s t x u):BE w (VO a b hp) (Zt a b env) (s.sw a b) t x u:=by
 cases s with
 |gone=>trivial
 |mp=>trivial
 |Nb u=>trivial
 |zV p=>trivial
 |sj=>obtain⟨f,h1,h2⟩:=h;exact⟨f,h1,fun c hc ho=>h2 c hc (wo ho)⟩
 |of n=>
  obtain⟨⟨t1,l1,h1⟩,f,h2,h3⟩:=h
  exact⟨⟨t1,l1,ue h1⟩,f,h2,fun c hc=>(h3 c hc).imp (fun q=>by rw[pU];exact q) (fun q ho=>q (wo ho))⟩
end
theorem Zu{a b n:Nat}{p:Nat→Bool}(ha:p a=false)(hb:p b=false):p (AD a b n)=p n:=by
 rw[Ru]
 split
 ·rename_i h;subst h;rw[ha,hb]
 ·split
  ·rename_i h;subst h;rw[ha,hb]
  ·rfl
theorem adi{a b n:Nat}(ha:nI a=false)(hb:nI b=false)(h:nI n=true):AD a b n=n:=by
 rw[Ru]
 split
 ·rename_i h1;subst h1;rw[ha]at h;cases h
 ·split
  ·rename_i h1;subst h1;rw[hb]at h;cases h
  ·rfl
theorem Zv{zb:eK}{st st':St}{a b:Nat}(h:Zs st a b=some st'){c:Act}{w:World}(iv:Inv ty zb st c w):Inv ty zb st' c w:=by
 obtain⟨env,g⟩:=iv.good
 unfold Zs at h
 split at h
 case h_2=>cases h
 rename_i hpa hpb hsa hsb
 have h:=sI h
 subst h
 have hlk: ∀n o,look (VO a b st.hp) n=some o→ ∃o0,look st.hp (AD a b n)=some o0∧o=o0.sw a b:=by
  intro n o hl
  rw[vk]at hl
  cases hq:look st.hp (AD a b n)with
  |none=>rw[hq]at hl;cases hl
  |some o0=>rw[hq]at hl;simp only[dI,oI]at hl;exact⟨o0,rfl,hl.symm⟩
 refine⟨iv.size,iv.defers,iv.kept,iv.Jx,Zt a b env,⟨fun n o hl=> ?_,fun n m o o' hne h1 h2=> ?_,fun s v hs=> ?_,fun n o hl=> ?_,fun n hn=> ?_⟩⟩
 ·obtain⟨o0,h1,rfl⟩:=hlk n o hl
  have hro:=g.obj _ _ h1
  show RO ty w (VO a b st.hp) (Zt a b env) n (o0.sw a b) (env (AD a b n))
  cases o0 with
  |arr t l=>exact SC (fun q=>by rw[Zu hsa hsb]at q;exact q) hro
  |box l=>
   obtain⟨x,cs,e,q1,q2,q3⟩:=hro
   exact⟨x,cs,e,q1,q2,q3.map fun _ _ q=>RA.sw q⟩
  |jG t l s=>
   rcases RO.Hf hro with⟨rfl,h⟩| ⟨u,rfl,h1,h2,fp,h3,h4⟩| ⟨p,rfl,h⟩| ⟨hr,q1,us,q2,q3,q4⟩
   ·exact h
   ·exact⟨h1,h2,fp,h3,h4.imp id fun⟨c,e1,e2⟩=>⟨c,e1,fun ho=>e2 (wo ho)⟩⟩
   ·exact⟨h.1,h.2.1,fun _ _ _ e=>by cases e⟩
   ·exact RO.UL (by cases s<;>first|exact hr.elim|trivial) ⟨q1,us,q2,q3,fun i x u hx hu=>(q4 i x u hx hu).sw⟩
 ·obtain⟨o1,q1,_⟩:=hlk n o h1
  obtain⟨o2,q2,_⟩:=hlk m o' h2
  exact g.mu _ _ _ _ (fun e=>hne (adh e)) q1 q2
 ·replace hs:look (st.sl.map fun e=>(e.1,e.2.sw a b)) s=some v:=hs
  rw[nT (α:=SV) (f:=fun e:Nat×SV=>e.2.sw a b)]at hs
  cases hq:look st.sl s with
  |none=>rw[hq]at hs;cases hs
  |some v0=>
   rw[hq]at hs
   simp only[dI,oI]at hs
   subst hs
   exact tF.sw (g.slot s v0 hq)
 ·obtain⟨o0,h1,_⟩:=hlk n o hl
  exact g.dom _ _ h1
 ·have hq:=g.pins n hn
  unfold Zt
  rw[adi hpa hpb hn]
  exact hq
theorem GD{P:Program}{zb:eK}{Q:Post}{st st':St}{c:Code}(a b:Nat)(h:Zs st a b=some st')(k:W P ty zb c Q st'):W P ty zb c Q st:=fun x w iv=>k x w (Zv h iv)
end
section
variable{ty:Tag→Nat}
def toBrr(st:St)(s m:Nat)(r:vA):Option St:=match look st.sl s,mP s st.n with
 |some (.one (.a (.own n))),true=>match look st.hp n,pinned [n],nI m,look (dX [n] [] st.hp) m with
  |some (.arr t []),false,false,none=>match aU (kk t) 1 with
   |true=>U6 ((⟨st.n,st.sl.map fun e=>(e.1,e.2.cR [n] []),aji st.hp n m t [] r⟩:St).put (some s) (.one (.a (.zn m))))
   |false=>none
  |_,_,_,_=>none
 |_,_=>none
theorem toBrr_ok{zb:eK}{st st':St}{s m:Nat}{r:vA}(hr:r.br)(h:toBrr st s m r=some st'){a:Act}{w:World}(iv:Inv ty zb st a w):Inv ty zb st' a w:=by
 obtain⟨env,g⟩:=iv.good
 have hB:=iv.kept.size
 unfold toBrr at h
 split at h
 case h_2=>cases h
 rename_i n hs hlt
 split at h
 case h_2=>cases h
 rename_i t hl hpk Hx hlk
 split at h
 case h_2=>cases h
 rename_i hk1
 have hk1:=ay hk1
 have h:=sI h
 have hsf:soft n=false:=sD hpk (by simp)
 have hb:=RO.bld hsf (g.obj n _ hl)
 have Fb: ∀b,(env n).v.ownBlock=some b→b∈(env n).fp:=by
  intro b hb'
  obtain⟨xs,cB,_,_,_,jr,_⟩:=hb
  rw[jr,hb'];simp
 have hbE:mo 1 Xm 0 (ty t) w (env n).v ([]:List Value) (env n).fp:=by
  obtain⟨xs,cB,q1,q2,q3,q4,q5⟩:=hb
  obtain rfl:cB= []:=List.length_eq_zero_iff.1 q2
  exact⟨xs,[],by rw[hk1]at q1;exact q1,rfl,fun i x f hx=>by simp at hx,q4,q5⟩
 obtain⟨env',hg',HC,_,_⟩:=DM (ty:=ty) g hB (ks:= [n]) hpk Hx hlk (v:=(env n).v) (v':=(env n).v) (w':=w) (ob:= .jG t [] r) (fp:=(env n).fp) (fx:= []) (jD:=(env n).fp) (by
  intro b hb
  rw[cS]at hb
  exact⟨n,_,by simp,hl,hb⟩) Fb (fun alQ hd s2=>RO.UL hr ⟨hk1,[],hbE,rfl,fun i x u hx=>by simp at hx⟩) ⟨rfl,rfl,rfl,aZ _,fun _ _ _=>rfl⟩ (fun b hb=>bI hb)
 have hlt:s<a.tmps.size:=by rw[iv.size];exact bX hlt
 obtain⟨_,hu⟩:=g.slot s _ hs
 have gp:=hg'.put hlt (v:= .one (.a (.zn m))) (u:=a.tmps.getD s undef) ⟨⟨t,[],_,look_eq⟩,by rw[HC];exact hu⟩ rfl
 have e:a.tmps.setIfInBounds s (a.tmps.getD s undef)=a.tmps:=by
  rw[aa,mF hlt]
  apply YX
  ·simp
  ·intro i h1 h2
   rw[sS]
   split
   ·rename_i hi;subst hi;rfl
   ·rfl
 rw[e]at gp
 rw[h]
 exact⟨by rw[Av];exact iv.size,iv.defers,iv.kept,iv.Jx,env',gp⟩
theorem Pa{P:Program}{zb:eK}{Q:Post}{st st':St}{c:Code}(s m:Nat)(h:G.toBrr st s m .sj=some st')(k:W P ty zb c Q st'):W P ty zb c Q st:=fun a w iv=>k a w (toBrr_ok (by trivial) h iv)
end
section
variable{ty:Tag→Nat}
def gk(cr:List (Nat×CR))(ops:List Oper)(st:St)(o:Oper):Option (Bool×Prop):=match o.guard with
 |some (j,x)=>match ops[j]? with
  |some q=>match q.dst with
   |some d=>match look cr (d+1100000),look st.sl d with
    |some ⟨y,_⟩,some (.one (.a (.lit (.bool b))))=>some (x==y,b=y)
    |_,_=>none
   |none=>none
  |none=>none
 |none=>none
def pk(cr:List (Nat×CR))(st:St)(o:Oper):Option (Oper×Prop):=match o.op with
 | .pick (.tmp c) x y=>match look cr (c+1100000),look st.sl c with
   |some ⟨z,_⟩,some (.one (.a (.lit (.bool b))))=>some ({o with op:= .move (match z with|true=>x|false=>y)},b=z)
   |_,_=>none
 |_=>none
def ung(o:Oper):Oper:={o with guard:=none}
def step2(P:Program)(ty:Tag→Nat)(Γ:Nat→TK)(fQ:List (Nat×Nat))(cr:List (Nat×CR))(ops:List Oper)(st:St)(o:Oper):Option (List Prop×St):=
 match gk cr ops st o with
 |none=>match pk cr st o with
  |some (o',p)=>match step P ty Γ fQ cr ops st o' with
   |some (vc,st')=>some (p::vc,st')
   |none=>none
  |none=>step P ty Γ fQ cr ops st o
 |some (true,p)=>match step P ty Γ fQ cr ops st (ung o)with
  |some (vc,st')=>some (p::vc,st')
  |none=>none
 |some (false,p)=>match BL st o.dst with
  |true=>some ([p],st.put o.dst (.one (.a .any)))
  |false=>none
def zl(P:Program)(ty:Tag→Nat)(Γ:Nat→TK)(fQ:List (Nat×Nat))(cr:List (Nat×CR))(ops:List Oper):List Oper→St→List Prop→Option (List Prop×St)
 | [],st,acc=>some (acc,st)
 |o::r,st,acc=>match step2 P ty Γ fQ cr ops st o with
  |some ([],⟨n,sl,hp⟩)=>zl P ty Γ fQ cr ops r ⟨n,sl,hp⟩ (acc)
  |some ([p0],⟨n,sl,hp⟩)=>zl P ty Γ fQ cr ops r ⟨n,sl,hp⟩ (p0::acc)
  |some ([p0,p1],⟨n,sl,hp⟩)=>zl P ty Γ fQ cr ops r ⟨n,sl,hp⟩ (p0::p1::acc)
  |some ([p0,p1,p2],⟨n,sl,hp⟩)=>zl P ty Γ fQ cr ops r ⟨n,sl,hp⟩ (p0::p1::p2::acc)
  |some ([p0,p1,p2,p3],⟨n,sl,hp⟩)=>zl P ty Γ fQ cr ops r ⟨n,sl,hp⟩ (p0::p1::p2::p3::acc)
  |some ([p0,p1,p2,p3,p4],⟨n,sl,hp⟩)=>zl P ty Γ fQ cr ops r ⟨n,sl,hp⟩ (p0::p1::p2::p3::p4::acc)
  |some ([p0,p1,p2,p3,p4,p5],⟨n,sl,hp⟩)=>zl P ty Γ fQ cr ops r ⟨n,sl,hp⟩ (p0::p1::p2::p3::p4::p5::acc)
  |some (l,⟨n,sl,hp⟩)=>zl P ty Γ fQ cr ops r ⟨n,sl,hp⟩ (l++acc)
  |none=>none
def akF(P:Program)(ty:Tag→Nat)(Γ:Nat→TK)(fQ:List (Nat×Nat))(cr:List (Nat×CR))(ks hs:List Nat)(ops:List Oper):St→Option (List Prop×St)
 | ⟨n,sl0,kV⟩=>match zl P ty Γ fQ cr ops ops ⟨n,sl0,kV⟩ []with
 |some (vc,st')=>match Fh st'.sl ks,Fi st'.hp (SI st'.sl st'.hp ks hs)with
  |some sl,some hp=>match vU sl hp,aU st'.n n with
   |true,true=>some (vc,⟨n,sl,hp⟩)
   |_,_=>none
  |_,_=>none
 |none=>none
section
variable{P:Program}{zb:eK}{st st':St}{a:Act}{w:World}{Q:Exit→Act→World→Prop}{o:Oper}
theorem lF.ung{ops:Array Oper}{K:Act→World→Prop}(hw:gU o (yielded ops a.tmps)=true)(h:lF P ops (ung o) a w K Q):lF P ops o a w K Q:=by
 unfold lF at h ⊢
 rw[if_pos (by simp[gU,G.ung])]at h
 rw[if_pos hw]
 exact h
theorem lF.as{ops:Array Oper}{op':Op}{K:Act→World→Prop}(he:execOp a.eval o=execOp a.eval {o with op:=op'})(hr:lF P ops {o with op:=op'} a w K Q):lF P ops o a w K Q:=by
 have hwp:o.wp P a w K Q↔Oper.wp P {o with op:=op'} a w K Q:=by
  unfold Oper.wp
  rw[he]
  rfl
 have has:o.asks P a w↔Oper.asks P {o with op:=op'} a w:=by
  unfold Oper.asks
  rw[he]
 unfold lF at hr ⊢
 rw[hwp,has]
 exact hr
theorem lF.pk{cr:List (Nat×CR)}{ops:Array Oper}{o':Oper}{p:Prop}{K:Act→World→Prop}(iv:Inv ty zb st a w)(h:G.pk cr st o=some (o',p))(hp:p)(hr:lF P ops o' a w K Q):lF P ops o a w K Q:=by
 unfold G.pk at h
 split at h
 case h_2=>cases h
 rename_i c x y ho
 split at h
 case h_2=>cases h
 rename_i z rs b hl hs
 simp only[oI,pI]at h
 obtain⟨rfl,rfl⟩:=h
 obtain⟨env,g⟩:=iv.good
 have hs1:=g.slot c _ hs
 have xB:a.eval (.tmp c)= .bool b:=(show ju w st.hp env (.a (.lit (.bool b))) (a.tmps.getD c undef)from hs1).lit
 subst hp
 cases b with
 |true=>exact lF.as (by unfold execOp;simp only[ho,xB];rfl) hr
 |false=>exact lF.as (by unfold execOp;simp only[ho,xB];rfl) hr
theorem aaZ{Γ:Nat→TK}(C: ∀t,fK P t (Γ t))(Z: ∀t,(∀z tg fo,Γ t≠ .st z tg fo)→Γ t≠ .other→(P.info? t).map (·.size)=some 1){fQ:List (Nat×Nat)}{cr:List (Nat×CR)}{ops:List Oper}{vc:List Prop}(h:step2 P ty Γ fQ cr ops st o=some (vc,st'))(iv:Inv ty zb st a w)(hv: ∀q,q∈vc→q):
  lF P ops.toArray o a w (fun a' w'=>Inv ty zb st' a' w') Q:=by
 have hgk: ∀{x:Bool} {p:Prop},gk cr ops st o=some (x,p)→p→(gU o (yielded ops.toArray a.tmps)=true↔x=true):=by
  intro x p hq hp
  unfold gk at hq
  split at hq
  case h_2=>cases hq
  rename_i j y hg
  split at hq
  case h_2=>cases hq
  rename_i q hj
  split at hq
  case h_2=>cases hq
  rename_i d hd
  split at hq
  case h_2=>cases hq
  rename_i z rs b hl hs
  simp only[oI,pI]at hq
  obtain⟨rfl,rfl⟩:=hq
  rw[vO hg (by simpa using hj) hd]
  obtain⟨env,g⟩:=iv.good
  have hs1:=g.slot d _ hs
  have xB:=(show ju w st.hp env (.a (.lit (.bool b))) (a.tmps.getD d undef)from hs1).lit
  rw[aa]at xB
  have hs3:a.tmps[d]? =some (.bool b):=by
   cases LO:a.tmps[d]? with
   |none=>rw[LO]at xB;simp[undef]at xB
   |some u=>rw[LO]at xB;simp only[mS]at xB;rw[xB]
  rw[hs3]
  simp only[oI,Value.bool.injEq]
  subst hp
  constructor
  ·rintro rfl;simp
  ·intro h;exact(eq_of_beq h).symm
 unfold step2 at h
 split at h
 ·split at h
  ·rename_i o' p hq
   split at h
   case h_2=>cases h
   rename_i tG FV hs
   simp only[oI,pI]at h
   obtain⟨rfl,rfl⟩:=h
   have hp:p:=hv p (by simp)
   exact lF.pk iv hq hp (zC C Z hs iv fun q hq=>hv q (by simp[hq]))
  ·exact zC C Z h iv hv
 ·rename_i p hq
  split at h
  case h_2=>cases h
  rename_i tG FV hs
  simp only[oI,pI]at h
  obtain⟨rfl,rfl⟩:=h
  have hp:p:=hv p (by simp)
  exact lF.ung ((hgk hq hp).2 rfl) (zC C Z hs iv fun q hq=>hv q (by simp[hq]))
 ·rename_i p hq
  split at h
  case h_2=>cases h
  rename_i hd
  simp only[oI,pI]at h
  obtain⟨rfl,rfl⟩:=h
  have hp:p:=hv p (by simp)
  have hw: ¬gU o (yielded ops.toArray a.tmps)=true:=fun hw=>by have:=(hgk hq hp).1 hw;cases this
  unfold lF
  rw[if_neg hw]
  obtain⟨env,g⟩:=iv.good
  exact⟨by rw[lE,Av];exact iv.size,by rw[put_defers];exact iv.defers,iv.kept,iv.Jx,env,sC g (LI iv hd) trivial (fun d _=>rfl)⟩
theorem Ju{Γ:Nat→TK}{fQ:List (Nat×Nat)}{cr:List (Nat×CR)}{ops:List Oper}{Gs:St}{vcs:List Prop}{o:Oper}{r:List Oper}{st:St}{acc:List Prop}(h:zl P ty Γ fQ cr ops (o::r) st acc=some (vcs,Gs)):
  ∃q:List Prop×St,step2 P ty Γ fQ cr ops st o=some q∧zl P ty Γ fQ cr ops r q.2 (q.1++acc)=some (vcs,Gs):=by
 simp only[zl]at h
 repeat' split at h
 all_goals first
  | (cases h;done)
  | (rename_i h1;exact⟨_,h1,h⟩)
theorem P4{Γ:Nat→TK}{fQ:List (Nat×Nat)}{cr:List (Nat×CR)}{ops:List Oper}{Gs:St}{vcs:List Prop}: ∀{l:List Oper} {st:St} {acc:List Prop},zl P ty Γ fQ cr ops l st acc=some (vcs,Gs)→ ∀q,q∈acc→q∈vcs
 | [],st,acc,h,q,hq=>by
   simp only[zl,oI,pI]at h
   rw[←h.1];exact hq
 |o::r,st,acc,h,q,hq=>by
  obtain⟨l,h⟩:=Ju h
  exact P4 h.2 q (aH _ hq)
theorem Up{Γ:Nat→TK}(C: ∀t,fK P t (Γ t))(Z: ∀t,(∀z tg fo,Γ t≠ .st z tg fo)→Γ t≠ .other→(P.info? t).map (·.size)=some 1){fQ:List (Nat×Nat)}{cr:List (Nat×CR)}{ops:List Oper}{Gs:St}{vcs:List Prop}
  (hQ: ∀a w,Inv ty zb Gs a w→Q .normal a w): ∀{l:List Oper} {st:St} {acc:List Prop} {a:Act} {w:World},zl P ty Γ fQ cr ops l st acc=some (vcs,Gs)→(∀q,q∈vcs→q)→Inv ty zb st a w→wpList P ops.toArray Q l a w
 | [],st,acc,a,w,h,hv,iv=>by
   simp only[zl,oI,pI]at h
   obtain⟨_,rfl⟩:=h
   exact hQ a w iv
 |o::r,st,acc,a,w,h,hv,iv=>by
  obtain⟨⟨l,s1⟩,h1,h2⟩:=Ju h
  have:=aaZ (Q:=Q) C Z h1 iv (fun q hq=>hv q (P4 h2 q (aN _ hq)))
  exact this.mono fun a' w' uz=>Up C Z hQ h2 hv uz
end
section
variable{P:Program}{Γ:Nat→TK}{zb:eK}{Q:Post}{st:St}
theorem Uq(X:Ctx P ty Γ)(fQ:List (Nat×Nat))(cr:List (Nat×CR))(ks hs:List Nat){id:Nat}{ops:List Oper}{vc:List Prop}{st':St}(h:G.akF P ty Γ fQ cr ks hs ops st=some (vc,st'))(hv:qK vc)(k:Q .normal st'):W P ty zb (.region id ops.toArray false) Q st:=by
 intro a w iv
 have hsp: ∃s1,zl P ty Γ fQ cr ops ops st []=some (vc,s1)∧ ∀a w,Inv ty zb s1 a w→Inv ty zb st' a w:=by
  obtain⟨n,sl0,kV⟩:=st
  simp only[G.akF]at h
  split at h
  ·rename_i tG s1 hr
   split at h
   ·rename_i sl hp h1 h2
    split at h
    ·rename_i hc hn
     simp only[oI,pI]at h
     obtain⟨rfl,rfl⟩:=h
     exact⟨s1,hr,fun a w iv=>iv.weaken (ay hn).symm (pe h1) (pg h2) hc⟩
    ·cases h
   ·cases h
  ·cases h
 obtain⟨s1,h1,h2⟩:=hsp
 exact wp_region_lit (Up X.kind X.one (fun a w uz=>⟨st',h2 a w uz,k⟩) h1 hv.out iv)
end
end
end Go.Proofs.YtkcegdacbddipaaGreat.G
