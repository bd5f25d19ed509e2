/- Steps. -/
import Derived.Orders
import Derived.Test.YtaalpcnbbldlaaaGreatDoorR8
open Array renaming all_eq_true_iff_forall_mem→tI,getD_eq_getD_getElem?→ak,getElem?_setIfInBounds_ne→iF,getElem?_setIfInBounds_self_of_lt→kA,mem_toList_iff→qi,toList_append→GP
open Bool renaming and_eq_true→an,not_eq_true'→bO,or_eq_false_iff→jI,or_eq_true→eV,or_false→Be
open Go.Op renaming equal→UW,equalIn→KE,operands→nC,slice→Vg
open Go.Region renaming binds→Yv,ready→yG,wanted→j7
open List renaming all_eq_true→bE,any_eq_false→cq,any_eq_true→fF,append_nil→cW,drop_zero→ju,filter_cons_of_neg→ez,filter_cons_of_pos→dV,flatten_cons→dM,foldl_cons→cI,getD_eq_getElem?_getD→aq,getElem?_cons_succ→ny,getElem?_eq_getElem→az,getElem?_eq_some_iff→aU,getElem?_toArray→uY,length_cons→bp,length_nil→dh,mem_append→bg,mem_append_left→bl,mem_append_right→aW,mem_cons→bh,mem_cons_of_mem→aE,mem_filter→xC,mem_filterMap→yH,mem_range→cS,mem_singleton→aV,nil_append→eM,nodup_append→bM,range→bK,replicate→ew,take_zero→jv
open List.cons renaming injEq→cP
open Nat renaming add_zero→ia,beq→bH,blt→pR,eq_of_beq_eq_true→aG,le_of_ble_eq_true→bV,le_refl→aS,le_trans→cB,lt_trans→DM,strongRecOn→lG,testBit_or→uJ,testBit_two_pow→ry,zero_add→dB,zero_le→aY
open Option renaming getD_some→qP,map_some→eN
open Or renaming inl→bP,inr→bw
open SizeOf renaming sizeOf→pW
namespace Go.Proofs.YtaalpcnbbldlaaaGreatDoor.G
set_option linter.all false
open Go.RowKit L D
section
variable(o:Oper){ty:Tag→Nat}
structure TE where
 d:Nat
 v:SV
 os:Hp
def app(s:St)(e:TE):St:=⟨s.n,(e.d,e.v)::s.sl,e.os++s.hp⟩
def fU:List Nat:=o.after.toList.filterMap fun e=>if Yv .any e then some e.on else none
def pU(acc:List Nat)(o:Oper):List Nat:=acc++ [(fU o).foldl (fun s j=>s|||2^j|||acc.getD j 0) 0]
def Ve(ops:List Oper):List Nat:=ops.foldl pU []
def tmpsOf:List Nat:=o.op.operands.toList.filterMap fun| .tmp t=>some t|_=>none
def aer(t:Nat):Bool:=match o.dst with|some d=>bH d t|none=>false
def idx{α:Type}:Nat→List α→List (Nat×α)
 |_,[]=> []
 |i,x::r=>(i,x)::idx (i+1) r
end
section
variable{v:V}{u:Value}{k:TK}{p:List (Nat×Bool)}{ty:Tag→Nat}
def Compat(hp hp':Hp):Prop:= ∀n o o',look hp n=some o→look hp' n=some o'→o=o'
section
variable{zb:fG}{st T:St}{a:Act}{w:World}{env:Env}
theorem Yw(c:Compat st.hp T.hp){tg:Option Tag}{x:V}(hr:RA w T.hp env v u)(h:xp st tg v=some x):xp T tg v=some x:=by
 cases v with
 |own n=>
  obtain⟨⟨t,l,hl⟩,_⟩:=hr;simp only[xp]at h ⊢;split at h
  ·rename_i t' l' hl';have:=c n _ _ hl' hl;simp only[Obj.arr.injEq]at this;obtain⟨rfl,pK⟩:=this;rw[hl];simp only[←eq_of_heq pK];exact h
  ·cases h
 |sl t l=>exact h
 |vw n p t l=>exact h
 |mix n c t l=>exact h
 |RX n=>
  obtain⟨⟨t,l,s,hl⟩,_⟩:=hr;simp only[xp]at h ⊢;split at h
  ·rename_i t' l' hl';have:=c n _ _ hl' hl;rw[←this]at hl;rw[hl];exact h
  ·rename_i t' l' m hl';have:=c n _ _ hl' hl;rw[←this]at hl;rw[hl];exact h
  ·cases h
 |lit v=>
  have e:xp T tg (.lit v)=xp st tg (.lit v):=by
   cases v with
   |slice a n c=>cases a<;>cases n<;>cases c<;>rfl
   |_=>rfl
  rw[e];exact h
 |_=>simp[xp]at h
theorem Tr(c:Compat st.hp T.hp): ∀{vs:List V} {tg:List (Option Tag)} {xs:List V} {us:List Value},dG (RA w T.hp env) vs us→XP st tg vs=some xs→XP T tg vs=some xs
 | [],_,xs,us,_,h=>h
 |v::r,tg,xs,us,hr,h=>by
  cases us with
  |nil=>exact hr.elim
  |cons u us=>
   simp only[XP]at h ⊢;split at h
   ·rename_i x y h1 h2;rw[Yw c hr.1 h1,Tr c hr.2 h2];exact h
   ·cases h
theorem ahK(c:Compat st.hp T.hp){v x:S1}(hr:mG w T.hp env v u)(h:arg1 st k v=some x):arg1 T k v=some x:=by
 cases v with
 |a v=>
  simp only[arg1]at h ⊢;split at h
  ·rename_i y hy;rw[Yw c hr hy];exact h
  ·cases h
 |agg l=>
  obtain⟨cs,_,hl⟩:=hr;simp only[arg1]at h ⊢;split at h
  ·rename_i y hy;rw[Tr c hl hy];exact h
  ·cases h
theorem IA{x:Operand}(hs: ∀t,x= .tmp t→look st.sl t=look T.sl t):opr st p x=opr T p x:=by
 cases x with
 |tmp t=>simp only[opr,hs t rfl]
 |_=>rfl
theorem PA{x:Operand}(hs: ∀t,x= .tmp t→look st.sl t=look T.sl t):oH st p x=oH T p x:=by
 unfold oH;rw[IA hs]
theorem ahL{b:Bool}(c:Compat st.hp T.hp){v x:S1}(hr:mG w T.hp env v u)(h:ahp b st k v=some x):ahp b T k v=some x:=by
 unfold ahp at h ⊢;split at h
 ·exact h
 ·exact ahK c hr h
theorem KN{b:Bool}{Γ:Nat→TK}(c:Compat st.hp T.hp)(g:Good ty zb T a.tmps w env){p:List (Nat×Bool)}(hp:holds a.tmps p): ∀{xs:List Operand} {ts:List Nat} {as:List S1},(∀x,x∈xs→ ∀t,x= .tmp t→look st.sl t=look T.sl t)→args b Γ st p xs ts=some as→args b Γ T p xs ts=some as
 | [],_,as,_,h=>h
 |x::r,ts,as,hs,h=>by
  simp only[args]at h ⊢;rw[←PA (st:=st) (T:=T) (hs x fI)];split at h
  ·rename_i v hv;split at h
   ·rename_i y ys h1 h2;have hr:=lX g hp (by rw[←PA (hs x fI)];exact hv);rw[ahL c hr h1,KN c g hp (fun z hz=>hs z (aE _ hz)) h2];exact h
   ·cases h
  ·cases h
theorem aci(c:Compat st.hp T.hp){n:Int}(hr:RA w T.hp env v u)(h:lenOf st k v=some n):lenOf T k v=some n:=by
 cases v with
 |own m=>
  obtain⟨⟨t,l,hl⟩,_⟩:=hr;simp only[lenOf]at h ⊢;split at h
  ·split at h
   ·rename_i t' l' hl';have:=c m _ _ hl' hl;simp only[Obj.arr.injEq]at this;obtain⟨rfl,pK⟩:=this;rw[hl];simp only[←eq_of_heq pK];exact h
   ·cases h
  ·cases h
 |sl t l=>exact h
 |vw n p t l=>exact h
 |lit v=>
  have e:lenOf T k (.lit v)=lenOf st k (.lit v):=by
   cases v with
   |slice a n c=>cases a<;>cases n<;>cases c<;>rfl
   |_=>rfl
  rw[e];exact h
 |_=>simp[lenOf]at h
theorem Vf(c:Compat st.hp T.hp)(hr:RA w T.hp env v u){l:List UInt8}(h:bytesOf st v=some l):bytesOf T v=some l:=by
 cases v with
 |own n=>
  obtain⟨⟨t,l2,uI⟩,_⟩:=hr;simp only[bytesOf]at h ⊢;split at h
  ·rename_i l3 hl3;simp only[oI]at h;subst h;have:=c n _ _ hl3 uI;simp only[Obj.arr.injEq]at this;obtain⟨rfl,pK⟩:=this;rw[uI];simp only[eq_of_heq pK]
  ·cases h
 |sl t l=>
  have e:bytesOf T (.sl t l)=bytesOf st (.sl t l):=by cases t<;>rfl
  rw[e];exact h
 |vw n p t l=>
  have e:bytesOf T (.vw n p t l)=bytesOf st (.vw n p t l):=by cases t<;>rfl
  rw[e];exact h
 |lit v=>
  have e:bytesOf T (.lit v)=bytesOf st (.lit v):=by
   cases v with
   |slice a n c=>cases a<;>cases n<;>cases c<;>rfl
   |_=>rfl
  rw[e];exact h
 |_=>simp[bytesOf]at h
theorem Mx{p:List (Nat×Bool)}{g:Tag}: ∀{xs:List (Nat×Operand)} {i:Nat},(∀x,x∈xs→oH st p x.2=oH T p x.2)→zk st p g i xs=zk T p g i xs
 | [],_,_=>rfl
 | (j,x)::r,i,h=>by
   simp only[zk];rw[h (j,x) fI,Mx (fun y hy=>h y (aE _ hy))]
theorem PB{p:List (Nat×Bool)}{n:Nat}{fo:List Nat}: ∀{xs:List (Nat×Operand)} {c:List V},(∀x,x∈xs→opr st p x.2=opr T p x.2)→BW st p n fo xs c=BW T p n fo xs c
 | [],_,_=>rfl
 | (j,x)::r,c,h=>by
   simp only[BW];rw[h (j,x) fI];have: ∀c',BW st p n fo r c'=BW T p n fo r c':=fun c'=>PB (fun y hy=>h y (aE _ hy));simp only[this]
theorem GO{p:List (Nat×Bool)}: ∀{xs:List Operand},(∀x,x∈xs→oH st p x=oH T p x)→Ie st p xs=Ie T p xs
 | [],_=>rfl
 |x::r,h=>by
  simp only[Ie,ary];rw[h x fI,GO (fun y hy=>h y (aE _ hy))]
theorem KO(c:Compat st.hp T.hp)(hr:RA w T.hp env v u){n:Nat}(hn:v.name=some n){o:Obj}(h:look st.hp n=some o):look T.hp n=some o:=by
 have: ∃o',look T.hp n=some o':=by
  cases v<;>simp only[V.name,oI,reduceCtorEq]at hn
  case own m=>subst hn;obtain⟨⟨t,l,hl⟩,_⟩:=hr;exact⟨_,hl⟩
  case ptr m off=>subst hn;obtain⟨⟨c,hl⟩,_⟩:=hr;exact⟨_,hl⟩
  case Cm m i off=>subst hn;obtain⟨t,l,hl,_⟩:=hr;exact⟨_,hl⟩
  case vw m p t l=>subst hn;obtain⟨⟨t,l,hl⟩,_⟩:=hr;exact⟨_,hl⟩
  case Xc m t l=>subst hn;obtain⟨⟨t,l,hl⟩,_⟩:=hr;exact⟨_,hl⟩
  case mix m c t l=>subst hn;obtain⟨⟨t,l,hl⟩,_⟩:=hr;exact⟨_,hl⟩
  case RX m=>subst hn;obtain⟨⟨t,l,s,hl⟩,_⟩:=hr;exact⟨_,hl⟩
  case S3 f m=>subst hn;obtain⟨⟨c,hl⟩,_⟩:=hr;exact⟨_,hl⟩
  case Xb m p t x off=>subst hn;obtain⟨⟨t,l,hl⟩,_⟩:=hr;exact⟨_,hl⟩
 obtain⟨o',h'⟩:=this;rw[c n _ _ h h'];exact h'
theorem KP(c:Compat st.hp T.hp): ∀{l d:List V} {n:Nat} {us:List Value},dG (RA w T.hp env) l us→GI st.hp l=some (d,n)→GI T.hp l=some (d,n)
 | [],_,_,_,_,h=>by simp[GI]at h
 |v::r,d,n,us,hr,h=>by
  cases us with
  |nil=>exact hr.elim
  |cons u us=>
   unfold GI at h;split at h
   ·rename_i m r' he;simp only[cP]at he;obtain⟨rfl,rfl⟩:=he;split at h
    ·rename_i t l hl hpl;have:=KO c hr.1 (n:=m) rfl hl;simp only[GI,this,hpl];exact h
    ·cases h
   ·rename_i m pp t l r' he;simp only[cP]at he;obtain⟨rfl,rfl⟩:=he;split at h
    ·rename_i t0 l0 hl hpl;have:=KO c hr.1 (n:=m) rfl hl;simp only[GI,this,hpl];exact h
    ·cases h
   ·cases h
   ·rename_i x r' hns he;simp only[cP]at he;obtain⟨rfl,rfl⟩:=he;split at h
    ·rename_i c' n' h';have:=KP c hr.2 h';unfold GI;split
     ·rename_i e;simp at e
     ·rename_i e;simp at e
     ·rename_i e;simp only[cP,V.lit.injEq]at e;exact absurd e.1 (by rintro rfl;exact hns _ _ _ rfl)
     ·rename_i e;simp only[cP,V.lit.injEq]at e;obtain⟨rfl,rfl⟩:=e;rw[this];exact h
     ·rename_i e1 e2 e3;exact absurd rfl (e3 _ _)
    ·cases h
   ·cases h
theorem quiet_mono{Γ:Nat→TK}{E:Tag→Nat→Prop}{S:FuncId→List S1→List S1→Prop}(c:Compat st.hp T.hp)(g:Good ty zb T a.tmps w env)(hp:holds a.tmps p){cr:List (Nat×CR)}{d m:Nat}{op:Op}{out:Out}
  (hs: ∀x,x∈op.operands.toList→ ∀t,x= .tmp t→look st.sl t=look T.sl t)(h:quiet Γ E S cr st p d m op=some out):quiet Γ E S cr T p d m op=some out:=by
 have ho: ∀{q x},x∈op.operands.toList→oH st q x=oH T q x:=fun hx=>PA (hs _ hx);have hr: ∀{x v},x∈op.operands.toList→oH st p x=some v→mG w T.hp env v (a.eval x):=fun hx hv=>lX g hp (by rw[←ho hx];exact hv);have rn: ∀{x v n o},x∈op.operands.toList→oH st p x=some (.a v)→v.name=some n→look st.hp n=some o→look T.hp n=some o:=fun hx hv hn hl=>KO c (hr hx hv) hn hl;cases op with
 |move x=>
  have hm:mvt st x=mvt T x:=by
   cases x with
   |tmp t=>simp only[mvt];rw[hs (.tmp t) wI t rfl]
   |_=>rfl
  simp only[quiet]at h ⊢;rw[←IA (st:=st) (hs x wI), ←hm];exact h
 |assign x=>
  have hm:mvt st x=mvt T x:=by
   cases x with
   |tmp t=>simp only[mvt];rw[hs (.tmp t) wI t rfl]
   |_=>rfl
  simp only[quiet]at h ⊢;rw[←IA (st:=st) (hs x wI), ←hm];exact h
 |nilCheck x=>simp only[quiet]at h ⊢;rw[←ho wI];exact h
 |index t x i=>simp only[quiet]at h ⊢;rw[←ho (x:=x) wI, ←ho (x:=i) wI];exact h
 |makeSlice t x y=>simp only[quiet]at h ⊢;rw[←ho (x:=x) wI, ←ho (x:=y) wI];exact h
 |buildSlice t n xs=>
  simp only[quiet]at h ⊢;have hq: ∀g,zk st p g 0 xs.toList=zk T p g 0 xs.toList:=fun g=>Mx fun x hx=>ho aBB;simp only[←hq];split at h
  case h_2=>cases h
  rename_i gt e hk;cases hkey:(look cr (d+500000)).isSome with
  |false=>simp only[hkey]at h ⊢;exact h
  |true=>
   simp only[hkey]at h ⊢;split at h
   case h_2=>cases h
   rename_i x hlen hps;split at h
   case h_2=>cases h
   rename_i s hx;split at h
   case h_2=>cases h
   rename_i cc n1 hc;have hmem:x∈(Op.buildSlice t n xs).operands.toList:=by
    simp only[nC,List.mem_map,Array.toList_map];exact⟨(0,x),by rw[hps];simp,rfl⟩
   have hrx:=hr hmem hx;have hown:GI T.hp (cellsOf s)=some (cc,n1):=by
    cases s with
    |agg l=>obtain⟨cs,_,hl⟩:=hrx;exact KP c hl hc
    |a v=>exact KP c (us:= [a.eval x]) ⟨hrx,trivial⟩ hc
   simp only[←ho hmem,hx,hown];exact h
 |build t xs=>
  simp only[quiet]at h ⊢;have hq: ∀n fo z,BW st p n fo xs.toList z=BW T p n fo xs.toList z:=fun n fo z=>PB fun x hx=>IA (hs _ aBB);simp only[←hq];exact h
 |pick x y z=>
  cases x with
  |tmp t=>
   simp only[quiet]at h ⊢;rw[←ho (x:= .tmp t) wI, ←ho (x:=y) wI, ←ho (x:=z) wI];exact h
  |_=>simp[quiet]at h
 |box e x=>simp only[quiet]at h ⊢;rw[←ho wI];exact h
 |alloc t=>exact h
 |load t x=>
  have hm:x∈(Op.load t x).operands.toList:=by simp[nC]
  simp only[quiet]at h ⊢;rw[←ho hm];split at h
  ·rename_i n off hx;try rw[hx]
   try dsimp only
   split at h
   ·rename_i c2 uI;rw[rn hm hx rfl uI];exact h
   ·cases h
  ·rename_i hx;try rw[hx]
   exact h
  ·rename_i hx;try rw[hx]
   exact h
  ·rename_i n i off hx;try rw[hx]
   try dsimp only
   split at h
   ·rename_i c2 uI;rw[rn hm hx rfl uI];exact h
   ·cases h
  ·cases h
 |binOp op t x y t'=>
  simp only[quiet]at h ⊢;rw[←ho (x:=x) wI, ←ho (x:=y) wI];exact h
 |unOp op t x=>
  cases op with
  |not=>simp only[quiet]at h ⊢;rw[←ho wI];exact h
  |neg=>simp only[quiet]at h ⊢;rw[←ho wI];exact h
  |_=>simp[quiet]at h
 |convert s t x=>
  simp only[quiet]at h ⊢;rw[←ho (x:=x) wI];split at h
  ·rename_i ik n k1 k2 hx hk1 hk2;try rw[hx,hk1,hk2]
   exact h
  ·rename_i v g' e hx hk1 hk2;try rw[hx,hk1,hk2]
   try dsimp only
   split at h
   ·rename_i l hk3 hl;rw[hk3,Vf c (show RA w T.hp env v _ from hr (x:=x) wI hx) hl];exact h
   ·cases h
  ·cases h
 |slice t x lo hi mx=>
  cases mx with
  |some mx=>
   cases lo with
   |some _=>simp[quiet]at h
   |none=>
    cases hi with
    |none=>simp[quiet]at h
    |some hi=>
     have hb: ∀(y:Operand),y∈(Vg t x none (some hi) (some mx)).operands.toList→UN st p 0 (some y)=UN T p 0 (some y):=fun y hy=>by simp only[UN];rw[ho hy]
     have hm:x∈(Vg t x none (some hi) (some mx)).operands.toList:=by simp[nC]
     simp only[quiet]at h ⊢;rw[←ho hm, ←hb hi wI, ←hb mx wI];split at h
     case h_2=>cases h
     rename_i hk;try rw[hk]
     try dsimp only
     split at h
     case h_2=>cases h
     rename_i n n1 n2 hx h1 h2;try rw[hx,h1,h2]
     try dsimp only
     split at h
     case h_2=>cases h
     rename_i t' l hl;rw[rn hm hx rfl hl];exact h
  |none=>
   have hb: ∀(b:Option Operand),(∀y,b=some y→y∈(Vg t x lo hi none).operands.toList)→ ∀z,UN st p z b=UN T p z b:=by
    intro b hm z;cases b with
    |none=>rfl
    |some y=>simp only[UN];rw[ho (hm y rfl)]
   have hm:x∈(Vg t x lo hi none).operands.toList:=by simp[nC]
   simp only[quiet]at h ⊢;rw[←ho hm, ←hb lo (by rintro y rfl;simp[nC])];simp only[←hb hi (by rintro y rfl;simp[nC])];cases hkey:(look cr (d+600000)).isSome with
   |true=>simp only[hkey]at h ⊢;exact h
   |false=>
    simp only[hkey]at h ⊢;split at h
    ·split at h
     ·rename_i hx hlo;try rw[hx,hlo]
      exact h
     ·rename_i hx hlo;try rw[hx,hlo]
      exact h
     ·rename_i hx hlo;try rw[hx,hlo]
      try dsimp only
      split at h
      ·rename_i uI;rw[rn hm hx rfl uI];exact h
      ·cases h
     ·rename_i hx hlo;try rw[hx,hlo]
      exact h
     ·cases h
    ·exact h
    ·cases h
 |makeFunc fn first captured=>
  cases fn with
  |func f=>
   simp only[quiet]at h ⊢;split at h
   ·rename_i x hf hc;try rw[hf,hc]
    try dsimp only
    have hm:x∈(Op.makeFunc (.func f) first captured).operands.toList:=by simp only[nC,GP,hf,hc];simp
    have e:=ho (q:=p) hm;rw[←e];exact h
   ·cases h
  |_=>simp[quiet]at h
 |fieldAddr t x f=>
  simp only[quiet]at h ⊢;rw[←ho (x:=x) wI];exact h
 |indexAddr t x i=>
  have hm:x∈(Op.indexAddr t x i).operands.toList:=by simp[nC]
  simp only[quiet]at h ⊢;rw[←ho hm, ←ho (x:=i) wI];split at h
  ·split at h
   ·rename_i hx hi;try rw[hx,hi]
    exact h
   ·rename_i hx hi;try rw[hx,hi]
    try dsimp only
    split at h
    ·rename_i uI;rw[rn hm hx rfl uI];exact h
    ·cases h
   ·rename_i hx hi;try rw[hx,hi]
    exact h
   ·cases h
  ·cases h
 |extract x i=>
  cases x with
  |tmp t=>simp only[quiet]at h ⊢;rw[←hs (.tmp t) wI t rfl];exact h
  |_=>simp[quiet]at h
 |call cl=>
  obtain⟨callee,xs,ts⟩:=cl;have hop: ∀x,x∈xs.toList→x∈(Op.call ⟨callee,xs,ts⟩).operands.toList:=by
   intro x hx;simp only[nC,Call.operands,GP];exact aW _ hx
  cases callee with
  |value x=>
   cases x with
   |func f=>
    simp only[quiet]at h ⊢;split at h
    ·rename_i as c1 h1 h2;rw[KN c g hp (fun x hx=>hs x (hop x hx)) h1,h2];exact h
    ·cases h
   |tmp y=>
    simp only[quiet]at h ⊢;rw[←ho (x:= .tmp y) (by simp[nC,Call.operands])];split at h
    ·rename_i v hv;try rw[hv]
     try dsimp only
     split at h
     ·rename_i f hf;try rw[hf]
      try dsimp only
      split at h
      ·rename_i as c1 h1 h2;rw[KN c g hp (fun x hx=>hs x (hop x hx)) h1,h2];exact h
      ·cases h
     ·cases h
    ·cases h
   |_=>simp[quiet]at h
  |builtin b=>
   cases b with
   |len=>
    simp only[quiet]at h ⊢;split at h
    ·rename_i x t hxl htl;have hm:x∈xs.toList:=by rw[hxl];simp
     try rw[hxl,htl]
     try dsimp only
     rw[←ho (hop x hm)];split at h
     ·rename_i v hv;try rw[hv]
      try dsimp only
      split at h
      ·rename_i n hn;rw[aci c (show RA w T.hp env v _ from hr (hop x hm) hv) hn];exact h
      ·cases h
     ·cases h
    ·cases h
   |append=>
    simp only[quiet]at h ⊢;split at h
    case h_2=>cases h
    rename_i x y t1 t2 hkey hxl htl;try rw[hkey,hxl,htl]
    try dsimp only
    have Xd:x∈xs.toList:=by rw[hxl];simp
    have hmy:y∈xs.toList:=by rw[hxl];simp
    rw[←ho (hop x Xd), ←ho (hop y hmy)];exact h
   |max=>simp only[quiet]at h ⊢;rw[←GO (st:=st) (T:=T) (xs:=xs.toList) (fun x hx=>ho (hop x hx))];exact h
   |min=>simp only[quiet]at h ⊢;rw[←GO (st:=st) (T:=T) (xs:=xs.toList) (fun x hx=>ho (hop x hx))];exact h
   |_=>simp[quiet]at h
  |invoke _ _=>simp[quiet]at h
 |_=>simp[quiet]at h
theorem ahM(hs: ∀e,e∈p→look st.sl e.1=look T.sl e.1):hyps st p=hyps T p:=by
 induction p with
 |nil=>rfl
 |cons e r ih=>
  obtain⟨d,x⟩:=e;simp only[hyps];rw[hs (d,x) fI,ih fun e he=>hs e (by simp[he])]
theorem acj{Γ:Nat→TK}{E:Tag→Nat→Prop}{S:FuncId→List S1→List S1→Prop}(c:Compat st.hp T.hp)(g:Good ty zb T a.tmps w env)(hn:T.n=st.n){iD:List (Nat×Nat)}{cr:List (Nat×CR)}{ops:List Oper}{o:Oper}(tZ:qh st ops o=some p)(Dl:qh T ops o=some p)(hp:holds a.tmps p)
  (hs: ∀x,x∈o.op.operands.toList→ ∀t,x= .tmp t→look st.sl t=look T.sl t)(hps: ∀e,e∈p→look st.sl e.1=look T.sl e.1){vc:List Prop}{v:SV}{os:Hp}(hf:fresh T.hp os=true)(h:zJ Γ E S iD cr ops st o=some (vc,v,os)):
  zJ Γ E S iD cr ops T o=some (vc,v,os):=by
 have hd:Ig T o.dst=Ig st o.dst:=by unfold Ig;rw[hn]
 simp only[zJ]at h ⊢;rw[hd,Dl];rw[tZ]at h;split at h
 ·rename_i m e1 e2 e3;simp only[oI]at e3;subst e3;try rw[e1,e2]
  try dsimp only
  split at h
  ·rename_i zM v1 os1 hq;rw[quiet_mono c g hp hs hq];try dsimp only
   split at h
   ·rename_i h1 h2;simp only[oI,pI]at h;obtain⟨rfl,rfl,rfl⟩:=h;simp only[hf,h2]
   ·cases h
  ·cases h
 ·rename_i m e p' e1 e2 e3;simp only[oI]at e3;subst e3;try rw[e1,e2]
  try dsimp only
  split at h
  ·rename_i h1;try rw[h1]
   try dsimp only
   split at h
   ·rename_i zM v1 hq;rw[quiet_mono c g hp hs hq];try dsimp only
    rw[←ahM hps];exact h
   ·cases h
  ·cases h
 ·cases h
end
end
section
variable{ty:Tag→Nat}
def lu(FD:Nat→Bool)(tr:List TE)(s:St):Nat→St
 |0=>s
 |i+1=>match FD i,tr[i]? with
  |true,some e=>app (lu FD tr s i) e
  |_,_=>lu FD tr s i
abbrev pre(tr:List TE)(s:St)(i:Nat):St:=lu (fun _=>true) tr s i
structure Trace(Γ:Nat→TK)(E:Tag→Nat→Prop)(S:FuncId→List S1→List S1→Prop)(iD:List (Nat×Nat))(cr:List (Nat×CR))(ops:List Oper)(m:Nat)(s:St)(tr:List TE)(vcs:List Prop):Prop where
 len:tr.length=m
 one: ∀i,i<m→ ∃o e vc,ops[i]? =some o∧tr[i]? =some e∧o.dst=some e.d∧((pre tr s i).sl.any fun x=>x.2.mentions e.d)=false∧zJ Γ E S iD cr ops (pre tr s i) o=some (vc,e.v,e.os)∧ ∀q,q∈vc→q∈vcs
theorem PC(FD:Nat→Bool)(e:TE)(tr:List TE)(s:St)(h:FD 0=true): ∀i,lu FD (e::tr) s (i+1)=lu (fun j=>FD (j+1)) tr (app s e) i
 |0=>by simp[lu,h]
 |i+1=>by
  rw[lu,PC FD e tr s h i,lu];simp only[ny]
section
variable{FD inE:Nat→Bool}{tr:List TE}{s:St}
theorem Dm{i:Nat}{e:TE}(h:FD i=true)(he:tr[i]? =some e):lu FD tr s (i+1)=app (lu FD tr s i) e:=by rw[lu,h,he]
theorem Vi{i:Nat}(h:FD i=false):lu FD tr s (i+1)=lu FD tr s i:=by rw[lu,h]
theorem My: ∀i,(lu FD tr s i).n=s.n
 |0=>rfl
 |i+1=>by
  rw[lu];split
  ·exact My i
  ·exact My i
theorem ve: ∀{i j:Nat} {e:TE},j<i→FD j=true→tr[j]? =some e→(∀j' e',j'<i→FD j'=true→tr[j']? =some e'→e'.d=e.d→j'=j)→look (lu FD tr s i).sl e.d=some e.v
 |i+1,j,e,hj,hin,he,hd=>by
  by_cases hij:j=i
  ·subst hij;rw[Dm hin he];exact look_eq
  ·have ih:=ve (i:=i) (j:=j) aJ hin he (fun j' e' h1 h2 h3 h4=>hd j' e' aJ h2 h3 h4);rw[lu];split
   ·rename_i e' h1 h2;have hne:e.d≠e'.d:=fun hh=>by
     have:=hd i e' aJ h1 h2 hh.symm;omega
    show look ((e'.d,e'.v)::_) e.d=_
    rw[cR hne];exact ih
   ·exact ih
theorem zP: ∀{i:Nat} {t:Nat},(∀j e,j<i→FD j=true→tr[j]? =some e→e.d≠t)→look (lu FD tr s i).sl t=look s.sl t
 |0,_,_=>rfl
 |i+1,t,h=>by
  have ih:=zP (i:=i) (t:=t) fun j e h1 h2 h3=>h j e aJ h2 h3;rw[lu];split
  ·rename_i e' h1 h2;have hne:t≠e'.d:=fun hh=>h i e' aJ h1 h2 hh.symm;show look ((e'.d,e'.v)::_) t=_
   rw[cR hne];exact ih
  ·exact ih
theorem Vj: ∀{i:Nat} {x:Nat×SV},x∈(lu FD tr s i).sl→x∈s.sl∨ ∃j e,j<i∧FD j=true∧tr[j]? =some e∧x=(e.d,e.v)
 |0,_,h=>bP h
 |i+1,x,h=>by
  rw[lu]at h;split at h
  ·rename_i e' h1 h2;rcases bh.1 (show x∈(e'.d,e'.v)::(lu FD tr s i).sl from h)with rfl|h
   ·exact bw ⟨i,e',aJ,h1,h2,rfl⟩
   ·rcases Vj h with h| ⟨j,e,a,b⟩
    ·exact bP h
    ·exact bw ⟨j,e,aJ,b⟩
  ·rcases Vj h with h| ⟨j,e,a,b⟩
   ·exact bP h
   ·exact bw ⟨j,e,aJ,b⟩
def alw(tr:List TE)(s:St)(m:Nat):Prop:= ∀i e,i<m→tr[i]? =some e→ ∀n o,look e.os n=some o→look (pre tr s i).hp n=none
theorem vf: ∀{i:Nat} {n:Nat} {o:Obj},look (lu FD tr s i).hp n=some o→look s.hp n=some o∨ ∃j e,j<i∧FD j=true∧tr[j]? =some e∧look e.os n=some o
 |0,_,_,h=>bP h
 |i+1,n,o,h=>by
  rw[lu]at h;split at h
  ·rename_i e' h1 h2;have h:look (e'.os++(lu FD tr s i).hp) n=some o:=h;cases hq:look e'.os n with
   |none=>
    rw[dD hq]at h;rcases vf h with h| ⟨j,e,a,b⟩
    ·exact bP h
    ·exact bw ⟨j,e,aJ,b⟩
   |some o'=>
    rw[gm hq]at h;exact bw ⟨i,e',aJ,h1,h2,by rw[hq];exact h⟩
  ·rcases vf h with h| ⟨j,e,a,b⟩
   ·exact bP h
   ·exact bw ⟨j,e,aJ,b⟩
end
theorem Yx{hp:Hp}: ∀{os:Hp},(∀n o,look os n=some o→look hp n=none∧tG n=false)→fresh hp os=true
 | [],_=>rfl
 | (n,x)::r,h=>by
   simp only[fresh,an];obtain⟨h1,h2⟩:=h n x look_eq;refine⟨⟨by rw[h1],by rw[h2];rfl⟩,Yx fun k o hk=> ?_⟩;by_cases hkn:k=n
   ·subst hkn;exact h k x look_eq
   ·exact h k o (by rw[cR hkn];exact hk)
theorem Good.congr{zb:fG}{st st':St}{tmps:Array Value}{w:World}{env:Env}(g:Good ty zb st tmps w env)(hs: ∀s v,look st'.sl s=some v→look st.sl s=some v)(hh: ∀n,look st'.hp n=look st.hp n):Good ty zb st' tmps w env:=by
 have s:Step (fun _=>True) (fun _=>True) w st.hp env w st'.hp env:=by
  refine⟨fun _ _ _=>rfl,?_,?_,?_⟩
  ·rintro b _ ⟨n,o,h1,h2⟩;exact⟨n,o,by rw[←hh];exact h1,h2⟩
  ·intro n o _ h1;exact⟨o,by rw[hh];exact h1,by cases o<;>simp[Obj.like],rfl⟩
  ·intro n t l _ h1;exact⟨by rw[hh];exact h1,rfl,fun _ _=>rfl⟩
 refine⟨fun n o hl=> ?_,fun n m o o' hne h1 h2=>g.tN n m o o' hne (by rw[←hh];exact h1) (by rw[←hh];exact h2),fun t v hl=>AR.step s (fun v _=>v.lp) (g.slot t v (hs t v hl)),fun n o hl=>g.dom n o (by rw[←hh];exact hl),g.pins⟩;exact(g.obj n o (by rw[←hh];exact hl)).step s o.lp (fun _ _=>rfl)
end
section
variable{E:Tag→Nat→Prop}{S:FuncId→List S1→List S1→Prop}{ty:Tag→Nat}
theorem Vk{α:Type}: ∀{l:List α} {k i:Nat} {x:α},l[i]? =some x→(k+i,x)∈idx k l
 |y::r,k,0,x,h=>by simp at h;simp[idx,h]
 |y::r,k,i+1,x,h=>by
  have:=Vk (l:=r) (k:=k+1) (i:=i) Fy;rw[idx];right;rw[show k+(i+1)=k+1+i by omega];exact this
structure Chk(ops:List Oper)(m:Nat):Prop where
 le:m≤ops.length
 back: ∀i o,ops[i]? =some o→ ∀j,j∈fU o→j<i
 uses: ∀i o,i<m→ops[i]? =some o→ ∀t,t∈tmpsOf o→ ∀k o',k<m→ops[k]? =some o'→o'.dst=some t→k=i∨k∈fU o∨(i<k∧((Ve ops).getD k 0).testBit i=true)
 guard: ∀i o j x,i<m→ops[i]? =some o→o.guard=some (j,x)→j<i∧j<m∧j∈fU o
 dist: ∀i o k o' d,i<m→k<m→ops[i]? =some o→ops[k]? =some o'→o.dst=some d→o'.dst=some d→k=i
 tail: ∀i o,m≤i→ops[i]? =some o→ ∀j,j<i→((Ve ops).getD i 0).testBit j=true
theorem aes: ∀(l:List Oper) (acc:List Nat),(∀j,j<acc.length→(l.foldl pU acc).getD j 0=acc.getD j 0)∧
  ∀i o,l[i]? =some o→(∀j,j∈fU o→j<acc.length+i)→(l.foldl pU acc).getD (acc.length+i) 0=(fU o).foldl (fun s j=>s|||2^j||| (l.foldl pU acc).getD j 0) 0
 | [],acc=>⟨fun _ _=>rfl,fun i o h=>by simp at h⟩
 |o::r,acc=>by
  obtain⟨h1,h2⟩:=aes r (pU acc o);have hl:(pU acc o).length=acc.length+1:=by simp[pU]
  have ha: ∀j,j<acc.length→((o::r).foldl pU acc).getD j 0=acc.getD j 0:=by
   intro j hj;rw[cI,h1 j aJ];simp only[pU,aq];rw[List.getElem?_append_left hj]
  refine⟨ha,fun i o' ho hj=> ?_⟩;cases i with
  |zero=>
   simp at ho;subst ho;rw[ia,cI,h1 _ aJ];have:(pU acc o).getD acc.length 0=(fU o).foldl (fun s j=>s|||2^j|||acc.getD j 0) 0:=by
    simp[pU,aq]
   rw[this];have aDi: ∀(es:List Nat) (s0:Nat),(∀j,j∈es→j<acc.length)→es.foldl (fun s j=>s|||2^j|||acc.getD j 0) s0=es.foldl (fun s j=>s|||2^j||| (r.foldl pU (pU acc o)).getD j 0) s0:=by
    intro es;induction es with
    |nil=>intros;rfl
    |cons j es ih=>
     intro s0 hh;rw[cI,cI,ih _ fun k hk=>hh k (by simp[hk])];have:=ha j (hh j fI);rw[cI]at this;rw[this]
   exact aDi _ _ fun j hjj=>by simpa using hj j hjj
  |succ i=>
   have:=h2 i o' (by simpa using ho) (fun j hjj=>by rw[hl];have:=hj j hjj;omega);rw[hl,show acc.length+1+i=acc.length+(i+1)by omega]at this;rw[cI];exact this
theorem PD(g:Nat→Nat)(k:Nat): ∀(es:List Nat) (s0:Nat),(es.foldl (fun s j=>s|||2^j|||g j) s0).testBit k=true→s0.testBit k=true∨ ∃j,j∈es∧(k=j∨(g j).testBit k=true)
 | [],s0,h=>bP h
 |j::es,s0,h=>by
  rcases PD g k es _ h with h| ⟨i,hi,h⟩
  ·rw[uJ,uJ,ry]at h;simp only[eV,decide_eq_true_eq]at h;rcases h with(h|h)|h
   ·exact bP h
   ·exact bw ⟨j,by simp,bP h.symm⟩
   ·exact bw ⟨j,by simp,bw h⟩
  ·exact bw ⟨i,by simp[hi],h⟩
theorem PE{ops:List Oper}(hb: ∀i o,ops[i]? =some o→ ∀j,j∈fU o→j<i){D:Nat→Prop}(hD: ∀i o,D i→ops[i]? =some o→ ∀j,j∈fU o→D j): ∀(i:Nat) (o:Oper),ops[i]? =some o→(∀j,j∈fU o→D j)→ ∀k,((Ve ops).getD i 0).testBit k=true→D k:=by
 intro i;induction i using lG with
 |_ i ih=>
  intro o ho he k hk;have:=(aes ops []).2 i o ho (fun j hj=>by simpa using hb i o ho j hj);simp only[dh,dB]at this;have hc:(Ve ops).getD i 0=(fU o).foldl (fun s j=>s|||2^j||| (Ve ops).getD j 0) 0:=this;rw[hc]at hk;rcases PD _ k _ _ hk with h| ⟨j,hj,h⟩
  ·simp at h
  ·rcases h with rfl|h
   ·exact he k hj
   ·have hji:=hb i o ho j hj;have hlen:j<ops.length:=by have:=(aU.1 ho).1;omega
    exact ih j hji ops[j] (az hlen) (hD j _ (he j hj) (az hlen)) k h
section
variable{P:Program}{Γ:Nat→TK}{iD:List (Nat×Nat)}{cr:List (Nat×CR)}{ops:List Oper}{m:Nat}{s:St}{tr:List TE}{vcs:List Prop}
theorem ud{st:St}{o:Oper}{vc:List Prop}{v:SV}{os:Hp}(h:zJ Γ E S iD cr ops st o=some (vc,v,os)):
  ∃p,qh st ops o=some p∧(p= []→ ∀q x,v≠ .cond q x)∧(p≠ []→(∃x,v= .cond p x)∧os= []∧ ∀d,o.dst=some d→ ∀e,e∈p→e.1≠d)∧(∀n x,look os n=some x→look st.hp n=none∧tG n=false):=by
 unfold zJ at h;split at h
 ·rename_i nm _ _ hg;split at h
  ·rename_i zM v1 os1 hq;split at h
   ·rename_i hf _;simp only[oI,pI]at h;obtain⟨_,rfl,rfl⟩:=h;refine⟨[],hg,fun _ q x=> ?_,fun hh=>absurd rfl hh,fun n x hl=>⟨xq hf n x hl,Kz hf n x hl⟩⟩;rintro rfl;unfold quiet mvt at hq
    repeat' split at hq
    all_goals first
     | (cases hq;done)
     | (simp only[jU,oI,Out.mk.injEq]at hq;cases hq.2.1;done)
     | (simp only[oI,Out.mk.injEq]at hq;cases hq.2.1;done)
     | (simp only[oI]at hq;unfold outs at hq;(repeat' split at hq)<;>(simp only[Out.mk.injEq]at hq;cases hq.2.1))
   ·cases h
  ·cases h
 ·rename_i nm e p _ _ hg;split at h
  ·rename_i aDj;split at h
   ·rename_i zM v1 hq;simp only[oI,pI]at h;obtain⟨_,rfl,rfl⟩:=h;refine⟨e::p,hg,(fun hh=>by cases hh),fun _=>⟨⟨_,rfl⟩,rfl,fun d hd x hx hxd=> ?_⟩,fun n x hl=>by simp[look]at hl⟩;rw[cq]at aDj;exact aDj x hx (by rw[hd,hxd];simp)
   ·cases h
  ·cases h
 ·cases h
theorem Trace.fresh(T:Trace Γ E S iD cr ops m s tr vcs):alw tr s m:=by
 intro i e hi he n x hl;obtain⟨o,e',vc,_,he',_,_,hq,_⟩:=T.one i hi;rw[he]at he';simp only[oI]at he';subst he';obtain⟨p,_,_,_,hf⟩:=ud hq;exact(hf n x hl).1
theorem Trace.path(T:Trace Γ E S iD cr ops m s tr vcs)(K:Chk ops m): ∀(i:Nat),i<m→ ∀o p,ops[i]? =some o→qh (pre tr s i) ops o=some p→ ∀e,e∈p→
  ∃k o',k<i∧ops[k]? =some o'∧o'.dst=some e.1∧ ∀D:Nat→Prop,(∀i o,D i→ops[i]? =some o→ ∀j,j∈fU o→D j)→(∀j,j∈fU o→D j)→D k:=by
 intro i;induction i using lG with
 |_ i ih=>
  intro hi o p ho hg e he;unfold qh at hg;split at hg
  ·simp at hg;subst hg;simp at he
  ·rename_i j x hgd;obtain⟨hji,hjm,hje⟩:=K.guard i o j x hi ho hgd;obtain⟨q,ej,vcj,hq,hej,hdj,_,hqc,_⟩:=T.one j hjm;rw[hq]at hg;dsimp only at hg;rw[hdj]at hg;dsimp only at hg;have Gj:look (pre tr s i).sl ej.d=some ej.v:=by
    refine ve hji rfl hej fun j' e' h1 _ h3 h4=> ?_;obtain⟨q',e2,_,hq',R2,hd2,_⟩:=T.one j' aJ;rw[h3]at R2;simp only[oI]at R2;subst R2;exact K.dist j q j' q' ej.d hjm aJ hq hq' hdj (by rw[hd2,h4])
   rw[Gj]at hg;obtain⟨pj,hgj,nB,kY,_⟩:=ud hqc;have base: ∃k o',k<i∧ops[k]? =some o'∧o'.dst=some ej.d∧ ∀D:Nat→Prop,(∀i o,D i→ops[i]? =some o→ ∀j,j∈fU o→D j)→(∀j,j∈fU o→D j)→D k:=
    ⟨j,q,hji,hq,hdj,fun D _ hE=>hE j hje⟩
   split at hg
   ·simp only[oI]at hg;subst hg;simp only[aV]at he;subst he;exact base
   ·rename_i p' b hv;simp only[oI]at hv;simp only[oI]at hg;subst hg;rcases bh.1 he with rfl|he
    ·exact base
    ·have hpj:pj=p':=by
      by_cases hnil:pj= []
      ·exact absurd hv (nB hnil _ _)
      ·obtain⟨x',hx'⟩:=(kY hnil).1;rw[hx']at hv;simp only[SV.cond.injEq]at hv;exact hv.1
     subst hpj;obtain⟨k,o',h1,h2,h3,h4⟩:=ih j hji hjm q pj hq hgj e he;exact⟨k,o',aJ,h2,h3,fun D hD hE=>h4 D hD (hD j q (hE j hje) hq)⟩
   ·cases hg
end
end
section
variable{i:Nat}{ty:Tag→Nat}
theorem KQ{ops:List Oper}{listed:Array Bool}(hl:listed.size=ops.length):i∈yG .any ops.toArray listed↔ ∃o,ops[i]? =some o∧listed.getD i false=false∧ ∀j,j∈fU o→listed.getD j false=true:=by
 unfold yG;rw[xC,cS];simp only[List.size_toArray,uY,an,bO];constructor
 ·rintro⟨hi,h1,h2⟩;refine⟨ops[i],az hi,?_,?_⟩
  ·have:listed[i]? =some listed[i]:=by simp[hl,hi]
   rw[ak,this]at h1 ⊢;exact h1
  ·intro j hj;simp only[fU,yH,qi]at hj;obtain⟨e,he,hj⟩:=hj;split at hj
   ·rename_i hb;simp only[oI]at hj;subst hj;rw[az hi]at h2;simp only[eN,qP]at h2;have:=tI.1 h2 e he;simpa[hb]using this
   ·cases hj
 ·rintro⟨o,ho,h1,h2⟩;have hi:=(aU.1 ho).1;refine⟨hi,?_,?_⟩
  ·have:listed[i]? =some listed[i]:=by simp[hl,hi]
   rw[ak,this]at h1 ⊢;exact h1
  ·rw[ho];simp only[eN,qP];rw[tI];intro e he;cases hb:Yv .any e with
   |false=>simp
   |true=>
    have:=h2 e.on (by
     simp only[fU,yH,qi];exact⟨e,he,by simp[hb]⟩)
    simp[this]
theorem Yy{listed:Array Bool}{j:Nat}(hi:i<listed.size):(listed.setIfInBounds i true).getD j false=(listed.getD j false||j==i):=by
 rw[ak,ak];by_cases hij:i=j
 ·subst hij;rw[kA hi];simp
 ·rw[iF hij];simp[show¬j=i from fun h=>hij h.symm]
def cnt(n:Nat)(D:Nat→Bool):Nat:=((bK n).filter fun i=> !D i).length
theorem filter_lt{p q:Nat→Bool}: ∀{l:List Nat},(∀x,x∈l→q x=true→p x=true)→(∃x,x∈l∧p x=true∧q x=false)→(l.filter q).length<(l.filter p).length
 |y::r,h,⟨x,hx,hp,hq⟩=>by
  have le: ∀{l:List Nat},(∀x,x∈l→q x=true→p x=true)→(l.filter q).length≤(l.filter p).length:=by
   intro l;induction l with
   |nil=>intro _;simp
   |cons z l ih=>
    intro hh;have:=ih fun x hx=>hh x aj3;cases hz:q z with
    |true=>rw[dV hz,dV (hh z fI hz)];simp;exact this
    |false=>
     rw[ez (by simp[hz])];cases hz2:p z with
     |true=>rw[dV hz2];simp;omega
     |false=>rw[ez (by simp[hz2])];exact this
  rcases bh.1 hx with rfl|hx
  ·rw[ez OL,dV hp];have:=le (l:=r) fun x hx=>h x aj3;simp;omega
  ·have ih:=filter_lt (l:=r) (fun x hx=>h x aj3) ⟨x,hx,hp,hq⟩;cases hy:q y with
   |true=>rw[dV hy,dV (h y fI hy)];simp;exact ih
   |false=>
    rw[ez aj5];cases hy2:p y with
    |true=>rw[dV hy2];simp;omega
    |false=>rw[ez (by simp[hy2])];exact ih
theorem asb{n:Nat}{D:Nat→Bool}(hi:i<n)(hD:D i=false):cnt n (fun j=>D j||j==i)<cnt n D:=by
 refine filter_lt ?_ ⟨i,cS.2 hi,by simp[hD],by simp⟩;intro x _ h;simp only[bO,jI]at h;simp[h.1]
theorem alx{n:Nat}{D:Nat→Bool}(h:cnt n D=0): ∀i,i<n→D i=true:=by
 intro i hi;have:=List.eq_nil_of_length_eq_zero h;cases hd:D i with
 |true=>rfl
 |false=>
  have:i∈(bK n).filter fun i=> !D i:=xC.2 ⟨cS.2 hi,by simp[hd]⟩
  simp_all
section
variable{P:Program}{Γ:Nat→TK}{iD:List (Nat×Nat)}{cr:List (Nat×CR)}{ops:List Oper}{m:Nat}{s:St}{tr:List TE}{zb:fG}{Q:Exit→Act→World→Prop}
end
section
variable{P:Program}{Γ:Nat→TK}{zb:fG}{Q:Post}{st:St}
end
end
section
variable{w:World}{ty:Tag→Nat}
def KY(l:List Oper):Option (List Oper×Oper):=match l.reverse with
 | []=>none
 |o::r=>some (r.reverse,o)
theorem Vt{l p:List Oper}{q:Oper}(h:KY l=some (p,q)):l=p++ [q]:=by
 unfold KY at h;split at h
 ·cases h
 ·rename_i o r he;simp only[oI,pI]at h;obtain⟨rfl,rfl⟩:=h;have:=congrArg List.reverse he;rw[List.reverse_reverse,List.reverse_cons]at this;exact this
def aeM(Γ:Nat→TK)(st:St)(o:Oper):Option (Nat×Prop):=match o.guard,o.dst,o.op with
 |none,some d, .binOp .eql t (.tmp s) (.const (.slice none 0 0)) _=>match Γ t,look st.sl s,pR d st.n with
  | .sl _ _,some (.one (.a (.sl _ l))),true=>some (d,l= [])
  | .sl _ _,some (.one (.a (.vw _ _ _ l))),true=>some (d,l= [])
  | .sl _ _,some (.one (.a (.own n))),true=>match look st.hp n with
    |some (.arr _ l)=>some (d,l= [])
    |_=>none
  |_,_,_=>none
 |_,_,_=>none
def Tt(n:Nat)(st':St)(ks:List Nat):Option St:=match Mu st'.sl ks,Mv st'.hp (ael st'.sl st'.hp ks [])with
 |some sl,some hp=>match Bb sl hp with
  |true=>some ⟨n,sl,hp⟩
  |false=>none
 |_,_=>none
def aeN(Kn:St)(ks:List Nat)(d:Nat)(b:Bool):Option St:=Tt Kn.n (Kn.put (some d) (.one (.a (.lit (.bool b))))) ks
def al2(P:Program)(ty:Tag→Nat)(Γ:Nat→TK)(iD:List (Nat×Nat))(cr:List (Nat×CR))(ks:List Nat)(ops:List Oper)(st:St):Option (List Prop×Prop×St×St):=
 match KY ops with
 |some (pre,o)=>match run P ty Γ iD cr ops pre st []with
  |some (vc,Kn)=>match aeM Γ Kn o with
   |some (d,p)=>match aeN Kn ks d true,aeN Kn ks d false with
    |some a,some b=>some (vc,p,a,b)
    |_,_=>none
   |none=>none
  |none=>none
 |none=>none
section
variable{P:Program}{Γ:Nat→TK}{zb:fG}{Q:Post}{st:St}
theorem N3(C: ∀t,gO P t (Γ t))(Z: ∀t,(∀z tg fo,Γ t≠ .st z tg fo)→Γ t≠ .other→(P.info? t).map (·.size)=some 1){iD:List (Nat×Nat)}{cr:List (Nat×CR)}{ops:List Oper}{KM:St}{vcs:List Prop}{Q:Exit→Act→World→Prop}{tail:List Oper}
  (hQ: ∀a w,Inv ty zb KM a w→wpList P ops.toArray Q tail a w): ∀{l:List Oper} {st:St} {acc:List Prop} {a:Act} {w:World},run P ty Γ iD cr ops l st acc=some (vcs,KM)→(∀q,q∈vcs→q)→Inv ty zb st a w→wpList P ops.toArray Q (l++tail) a w
 | [],st,acc,a,w,h,hv,iv=>by
   simp only[run,oI,pI]at h;obtain⟨_,rfl⟩:=h;exact hQ a w iv
 |o::r,st,acc,a,w,h,hv,iv=>by
  obtain⟨vc,Kn,h1,h2⟩:=KL h;have:=Fb (Q:=Q) C Z h1 iv (fun q hq=>hv q (A9 h2 q (bl _ hq)));exact this.mono fun a' w' zu=>N3 C Z hQ h2 hv zu
theorem YG{t e:Nat}(d:Nat)(hu:P.underlying t=some (.slice e)){oa:Option Addr}{n cap:Nat}:(KE (d+1) t (.slice oa n cap) (.slice none 0 0)).run P w= .ok oa.isNone w:=by
 cases oa<;>simp[KE,run_underlying hu]
theorem ayw{o:Oper}{a:Act}{K:Act→World→Prop}{Q:Exit→Act→World→Prop}{t s e ge:Nat}{ty2:TypeId}(ho:o.op= .binOp .eql t (.tmp s) (.const (.slice none 0 0)) ty2)(hu:P.underlying t=some (.slice e)){oa:Option Addr}{n cap:Nat}(hs:a.tmps.getD s undef= .slice oa n cap)
  (h:K (a.put o.dst (.bool oa.isNone)) w):o.wp P a w K Q:=by
 have hx:a.eval (.tmp s)= .slice oa n cap:=hs;have hrun:(execOp a.eval o).run P w= .ok (.value (.bool oa.isNone)) w:=by
  have hy:a.eval (.const (.slice none 0 0))= .slice none 0 0:=rfl;unfold execOp;simp only[ho,hx,hy];have he:(UW t (.slice oa n cap) (.slice none 0 0)).run P w= .ok oa.isNone w:=YG 9999 hu;have hb:(binOp .eql t (.slice oa n cap) (.slice none 0 0)).run P w= .ok (.bool oa.isNone) w:=by
   show(do pure (.bool (←UW t (.slice oa n cap) (.slice none 0 0))):Sem Value).run P w=_
   simp only[Sem.run_bind,he,Result.andThen_ok,Sem.run_pure]
  have hg:(eqGuard .eql t (.tmp s) (.const (.slice none 0 0)) (.slice oa n cap) (.slice none 0 0)).run P w= .ok () w:=by simp[eqGuard]
  simp only[Sem.run_bind,hg,hb,Result.andThen_ok,Sem.run_pure]
 unfold Oper.wp;rw[hrun];exact h
theorem YH{Kn st':St}{ks:List Nat}{d:Nat}{b:Bool}(h:aeN Kn ks d b=some st'){a:Act}(iv:Inv ty zb Kn a w)(hd:pR d Kn.n=true):Inv ty zb st' (a.put (some d) (.bool b)) w:=by
 have iv2:Inv ty zb (Kn.put (some d) (.one (.a (.lit (.bool b))))) (a.put (some d) (.bool b)) w:=by
  obtain⟨env,g⟩:=iv.good;have hlt: ∀d',some d=some d'→d'<a.tmps.size:=by
   intro d' e;simp only[oI]at e;subst e;rw[iv.size];exact bV hd
  exact⟨by rw[nR,Dg];exact iv.size,by rw[put_defers];exact iv.defers,iv.kept,iv.Nf,env,uV (dst:=some d) g hlt (u:= .bool b) (show AR w Kn.hp env a.tmps (.one (.a (.lit (.bool b)))) (.bool b)from ⟨rfl,rfl⟩) fun d _=>uZ ⟨_,rfl⟩⟩
 unfold aeN Tt at h;split at h
 ·rename_i sl hp h1 h2;split at h
  ·rename_i hc;simp only[oI]at h;subst h;exact iv2.weaken (by rw[Dg]) (rq h1) (ru h2) hc
  ·cases h
 ·cases h
theorem YI(X:Ctx P ty Γ)(iD:List (Nat×Nat))(cr:List (Nat×CR))(ks:List Nat){id:Nat}{ops:List Oper}{vc:List Prop}{p:Prop}{sT sF:St}(h:al2 P ty Γ iD cr ks ops st=some (vc,p,sT,sF))(hv:tH vc)(kT:p→Q .normal sT)(kF:Q .normal sF):
  W P ty zb (.region id ops.toArray false) Q st:=by
 intro a w iv;unfold al2 at h;split at h
 case h_2=>cases h
 rename_i pre o hsp;split at h
 case h_2=>cases h
 rename_i zM Kn hrun;split at h
 case h_2=>cases h
 rename_i d p1 hnp;split at h
 case h_2=>cases h
 rename_i sa sb hT hF;simp only[oI,pI]at h;obtain⟨rfl,rfl,rfl,rfl⟩:=h;refine wp_region_lit ?_;rw[show wpList P ops.toArray (No ty zb Q) ops a w=wpList P ops.toArray (No ty zb Q) (pre++ [o]) a w by rw[←Vt hsp]];refine N3 X.kind X.one (fun a w iv=> ?_) hrun hv.out iv;obtain⟨env,g⟩:=iv.good;unfold aeM at hnp;split at hnp
 case h_2=>cases hnp
 rename_i d0 t s ty2 hg hd hop;have fin: ∀{oa:Option Addr} {n cap:Nat} {e ge:Nat},P.underlying t=some (.slice e)→a.tmps.getD s undef= .slice oa n cap→(oa=none→p1)→d0=d→pR d0 Kn.n=true→wpList P ops.toArray (No ty zb Q) [o] a w:=by
  intro oa n cap e ge hu hs hn hdd hlt;subst hdd;have hk: ∀a' w',(fun a' w'=>a'=a.put (some d0) (.bool oa.isNone)∧w'=w) a' w'→wpList P ops.toArray (No ty zb Q) [] a' w':=by
   rintro a' w' ⟨rfl,rfl⟩;refine wpList_nil ?_;cases oa with
   |none=>exact⟨sa,YH hT iv hlt,kT (hn rfl)⟩
   |some x=>exact⟨sb,YH hF iv hlt,kF⟩
  have hR:oJ P ops.toArray o a w (fun a' w'=>a'=a.put (some d0) (.bool oa.isNone)∧w'=w) (No ty zb Q):=oQ hg (ayw (ge:=ge) hop hu hs ⟨by rw[hd],rfl⟩);exact hR.mono hk
 split at hnp
 ·rename_i g1 e1 t1 l hk hl hlt;simp only[oI,pI]at hnp;have hC:=X.kind t;rw[hk]at hC;obtain⟨fp,Gj,_⟩:=g.slot s _ hl;obtain⟨oa,cap,hv0,_,_,h3⟩:=Gj;refine fin (ge:=0) hC.1 hv0 (fun hn=> ?_) hnp.1 hlt;rw[←hnp.2];rcases h3 with⟨h3,_⟩| ⟨b,off,eS,rfl,_⟩
  ·exact h3
  ·cases hn
 ·rename_i g1 e1 n1 p2 t1 l hk hl hlt;simp only[oI,pI]at hnp;have hC:=X.kind t;rw[hk]at hC;obtain⟨_,⟨fp,Gj,_⟩,_⟩:=g.slot s _ hl;obtain⟨oa,cap,hv0,_,_,h3⟩:=Gj;refine fin (ge:=0) hC.1 hv0 (fun hn=> ?_) hnp.1 hlt;rw[←hnp.2];rcases h3 with⟨h3,_⟩| ⟨b,off,eS,rfl,_⟩
  ·exact h3
  ·cases hn
 ·rename_i g1 e1 n1 hk hl hlt;split at hnp
  ·rename_i t1 l aGC;simp only[oI,pI]at hnp;have hC:=X.kind t;rw[hk]at hC;obtain⟨_,hu⟩:=g.slot s _ hl;obtain⟨oa,cap,hv0,_,_,h3⟩:=RO.sl (g.obj n1 _ aGC);refine fin (ge:=0) hC.1 (hu.trans hv0) (fun hn=> ?_) hnp.1 hlt;rw[←hnp.2];rcases h3 with⟨h3,_⟩| ⟨b,off,eS,rfl,_⟩
   ·exact h3
   ·cases hn
  ·cases hnp
 ·cases hnp
end
end
section
variable{n m:Nat}{u:Value}{st':St}{c:Code}{ty:Tag→Nat}
def V.rev(hp:Hp)(ks ns:List Nat)(m0:Nat):V→V
 | .own n=>match ns.any (bH n)with
   |true=>match look hp n with|some (.arr t l)=> .vw m0 none t l|_=> .any
   |false=>(V.own n).dJ ks []
 |v=>v.dJ ks []
def S1.rev(hp:Hp)(ks ns:List Nat)(m0:Nat):S1→S1
 | .a v=> .a (v.rev hp ks ns m0)
 | .agg l=> .agg (l.map (V.rev hp ks ns m0))
def SV.rev(hp:Hp)(ks ns:List Nat)(m0:Nat):SV→SV
 | .one x=> .one (x.rev hp ks ns m0)
 | .Gf l=> .Gf (l.map (S1.rev hp ks ns m0))
 | .cond p x=> .cond p (x.rev hp ks ns m0)
def Obj.rev(hp:Hp)(ks ns:List Nat)(m0:Nat):Obj→Obj
 | .box c=> .box (c.map (V.rev hp ks ns m0))
 | .arr t l=> .arr t l
 | .pQ t l s=> .pQ t l (s.dJ ks [])
def YS(nB:Hp)(ks ns:List Nat)(m0:Nat)(hp:Hp):Hp:=(hp.filter fun e=> !ks.any (bH e.1)).map fun e=>(e.1,e.2.rev nB ks ns m0)
theorem La{nB:Hp}{ks ns:List Nat}{m0:Nat}{hp:Hp}:look (YS nB ks ns m0 hp) n=if n∈ks then none else(look hp n).map (Obj.rev nB ks ns m0):=by
 unfold YS;rw[sH (α:=Obj) (f:=fun e:Nat×Obj=>e.2.rev nB ks ns m0)];have h:=fB (ks:=ks) (kv:= []) (hp:=hp) (n:=n);unfold gr at h;rw[sH (α:=Obj) (f:=fun e:Nat×Obj=>e.2.dJ ks [])]at h;by_cases hn:n∈ks
 ·rw[if_pos hn]at h ⊢;cases hq:look (hp.filter fun e=> !ks.any (bH e.1)) n with
  |none=>rfl
  |some o=>rw[hq]at h;cases h
 ·rw[if_neg hn]at h ⊢;have:look (hp.filter fun e=> !ks.any (bH e.1)) n=look hp n:=by
   induction hp with
   |nil=>rfl
   |cons e r ih=>
    obtain⟨j,x⟩:=e;by_cases hj:j∈ks
    ·have hne:n≠j:=by rintro rfl;exact hn hj
     have hb:(ks.any (bH j))=true:=fF.2 ⟨j,hj,by simp⟩;rw[ez (by simp[hb])]at h ⊢;rw[cR hne]at h ⊢;exact ih h
    ·have hb:(ks.any (bH j))=false:=by
      rw[cq];intro y hy h2;exact hj (by rw[aG h2];exact hy)
     rw[dV (by simp[hb])]at h ⊢;by_cases hnj:n=j
     ·subst hnj;rw[look_eq,look_eq]
     ·rw[cR hnj]at h ⊢;rw[cR hnj]at h ⊢;exact ih h
  rw[this]
section
variable{ks ns:List Nat}{m0:Nat}{w w':World}{hp hp':Hp}{env env':Env}
theorem acr{ns:List Nat}(h:ns.any (bH n)=true):n∈ns:=by
 obtain⟨y,hy,h2⟩:=fF.1 h;rw[aG h2];exact hy
theorem RA.rev(s:AX ks [] w hp env w' hp' env')(hv: ∀n t l,n∈ns→look hp n=some (.arr t l)→RA w' hp' env' (.vw m0 none t l) (env n).v){v:V}(h:RA w hp env v u):RA w' hp' env' (v.rev hp ks ns m0) u:=by
 cases v with
 |own n=>
  have e:V.rev hp ks ns m0 (.own n)=match ns.any (bH n)with
   |true=>(match look hp n with|some (.arr t l)=> .vw m0 none t l|_=> .any)
   |false=>(V.own n).dJ ks []:=rfl
  rw[e];cases hn:ns.any (bH n)with
  |true=>
   obtain⟨⟨t,l,hl⟩,rfl⟩:=h;rw[hl];exact hv n t l (acr hn) hl
  |false=>exact RA.oR s h
 |_=>exact RA.oR s h
theorem mG.rev(s:AX ks [] w hp env w' hp' env')(hv: ∀n t l,n∈ns→look hp n=some (.arr t l)→RA w' hp' env' (.vw m0 none t l) (env n).v){x:S1}(h:mG w hp env x u):mG w' hp' env' (x.rev hp ks ns m0) u:=by
 cases x with
 |a v=>exact RA.rev s hv h
 |agg l=>obtain⟨cs,hu,hl⟩:=h;exact⟨cs,hu,hl.map fun a b hr=>RA.rev s hv hr⟩
theorem AR.rev(s:AX ks [] w hp env w' hp' env')(hv: ∀n t l,n∈ns→look hp n=some (.arr t l)→RA w' hp' env' (.vw m0 none t l) (env n).v){tmps:Array Value}{x:SV}(h:AR w hp env tmps x u):AR w' hp' env' tmps (x.rev hp ks ns m0) u:=by
 cases x with
 |one x=>exact mG.rev s hv h
 |Gf l=>obtain⟨us,hu,hl⟩:=h;exact⟨us,hu,hl.map fun a b hr=>mG.rev s hv hr⟩
 |cond p x=>exact⟨fun hh=>mG.rev s hv (h.1 hh),h.2⟩
theorem RO.rev(s:AX ks [] w hp env w' hp' env')(hv: ∀n t l,n∈ns→look hp n=some (.arr t l)→RA w' hp' env' (.vw m0 none t l) (env n).v){o:Obj}{co:CO}(h:RO ty w hp env n o co)(hk: ∀b,b∈co.fp→w'.heap[b]? =w.heap[b]?):RO ty w' hp' env' n (o.rev hp ks ns m0) co:=by
 cases o with
 |box c=>
  obtain⟨b,cs,e,rfl,hh,hc⟩:=h;exact⟨b,cs,e,rfl,by rw[hk b fI];exact hh,hc.map fun a u hr=>RA.rev s hv hr⟩
 |arr t l=>exact RO.agree h hk
 |pQ t l r=>
  rcases RO.RZ h with⟨rfl,h⟩| ⟨u,rfl,h⟩| ⟨p,rfl,h⟩| ⟨hr,h1,us,hB,h2,h3⟩
  ·exact XS.agree h hk
  ·exact XT.step s hk h
  ·exact Nd.oR s hk h
  ·exact RO.ahr (BV.X9 hr) ⟨h1,us,qN.agree Ih hB hk,h2,fun i x u hx hu=>BE.oR s (h3 i x u hx hu)⟩
end
section
variable{P:Program}{zb:fG}{st:St}{a:Act}{w:World}{env:Env}
theorem al7(g:Good ty zb st a.tmps w env)(hB:zb.w.heap.size≤w.heap.size){ks ns:List Nat}{d:Nat}(hdp:tG d=false)(hd:look (gr ks [] st.hp) d=none){v v':Value}{w':World}{t:Tag}{l:List (T t)}{fp fx oK:List Nat}
  (qx: ∀b,b∈fp++fx→ ∃i o,i∈ks∧look st.hp i=some o∧b∈(env i).fp)(RG: ∀b,v.ownBlock=some b→b∈fp)
  (hB':qN (kk t) (rd t) 0 (ty t) w' v' l oK)(hg:w.grownBy w' v.ownBlock)(hsub: ∀b,b∈oK→b∈fp∨b∈fx∨w.heap.size≤b)
  (hns: ∀n,n∈ns→n∈ks)(hin: ∀n o b,n∈ns→look st.hp n=some o→b∈(env n).fp→b∈oK∧w'.heap[b]? =w.heap[b]?):
  ∃env',Good ty zb ⟨st.n,st.sl.map fun e=>(e.1,e.2.rev st.hp ks ns d),(d, .arr t l)::YS st.hp ks ns d st.hp⟩ a.tmps w' env'∧(env' d).v=v':=by
 refine⟨fun n=>if n=d then⟨v',oK⟩else env n,?_,by simp⟩;have hlk: ∀m o,look ((d,Obj.arr t l)::YS st.hp ks ns d st.hp) m=some o→(m=d∧o= .arr t l)∨(m≠d∧m∉ks∧ ∃o',look st.hp m=some o'∧o=o'.rev st.hp ks ns d):=by
  intro m o hm;by_cases vJ:m=d
  ·subst vJ;rw[look_eq]at hm;simp only[oI]at hm;exact bP ⟨rfl,hm.symm⟩
  ·rw[cR vJ,La]at hm;split at hm
   ·cases hm
   ·rename_i hks;cases hq:look st.hp m with
    |none=>rw[hq]at hm;cases hm
    |some o'=>rw[hq]at hm;simp only[eN,oI]at hm;exact bw ⟨vJ,hks,o',rfl,hm.symm⟩
 have how: ∀b,b∈oK→b<w.heap.size→ ∃i o,i∈ks∧look st.hp i=some o∧b∈(env i).fp:=by
  intro b hb hlt;rcases hsub b hb with h|h|h
  ·exact qx b (bl _ h)
  ·exact qx b (aW _ h)
  ·omega
 have hnd: ∀m o,m∉ks→look st.hp m=some o→m≠d:=by
  rintro m o hks h1 rfl;rw[fB,if_neg hks,h1]at hd;cases hd
 have hst: ∀m o,m∉ks→look st.hp m=some o→ ∀b,b∈(env m).fp→w'.heap[b]? =w.heap[b]? :=by
  intro m o hks h3 b hb;refine hg.block b ((g.obj m o h3).blk b hb) fun e=> ?_;obtain⟨i,oi,hi,h5,h6⟩:=qx b (bl _ (RG b e.symm));exact g.tN m i _ _ (fun e=>hks (e▸hi)) h3 h5 b hb h6
 have s:AX ks [] w st.hp env w' ((d, .arr t l)::YS st.hp ks ns d st.hp) (fun n=>if n=d then⟨v',oK⟩else env n):=by
  refine⟨fun b hb hno=>hg.block b hb fun e=> ?_,?_,?_,?_⟩
  ·obtain⟨i,o',_,h1,h2⟩:=qx b (bl _ (RG b e.symm));exact hno ⟨i,o',h1,h2⟩
  ·rintro b hb ⟨m,o',h1,h2⟩;rcases hlk m o' h1 with⟨rfl,rfl⟩| ⟨vJ,hks,Nn,h3,rfl⟩
   ·simp at h2;obtain⟨i,o',_,h3,h4⟩:=how b h2 hb;exact⟨i,o',h3,h4⟩
   ·simp[vJ]at h2;exact⟨m,Nn,h3,h2⟩
  ·intro m o' hks h1;have vJ:=hnd m o' hks h1;refine⟨o'.rev st.hp ks ns d,by rw[cR vJ,La,if_neg hks,h1];rfl,by cases o'<;>simp[Obj.like,Obj.rev],by simp[vJ]⟩
  ·rintro m t' l' ⟨hks,_⟩ h1;have vJ:=hnd m _ hks h1;exact⟨by rw[cR vJ,La,if_neg hks,h1];rfl,by simp[vJ],hst m _ hks h1⟩
 have hv: ∀n t1 l1,n∈ns→look st.hp n=some (.arr t1 l1)→RA w' ((d, .arr t l)::YS st.hp ks ns d st.hp) (fun n=>if n=d then⟨v',oK⟩else env n) (.vw d none t1 l1) (env n).v:=by
  intro n t1 l1 hn hl;have Gj:=RO.sl (g.obj n _ hl);refine⟨⟨_,_,look_eq⟩,⟨_,Sl.agree (ko t1) Gj fun b hb=>(hin n _ b hn hl hb).2,(RO.own (g.obj n _ hl)).nodup,fun b hb=> ?_⟩,fun _ _ h=>by cases h⟩;simp only[if_true];exact(hin n _ b hn hl hb).1
 have alf:Good ty zb ⟨st.n,st.sl.map fun e=>(e.1,e.2.rev st.hp ks ns d),(d, .arr t l)::YS st.hp ks ns d st.hp⟩ a.tmps w' (fun n=>if n=d then⟨v',oK⟩else env n):=by
  refine⟨fun m o' hm=> ?_,fun m m' o1 o2 hne h1 h2 b hb hb'=> ?_,fun s1 x hl=> ?_,fun m o' hm b hb=> ?_,fun m hm=> ?_⟩
  ·rcases hlk m o' hm with⟨rfl,rfl⟩| ⟨vJ,hks,Nn,h3,rfl⟩
   ·simp only[if_true];exact RO.S7 hB'
   ·simp only[if_neg vJ];exact RO.rev s hv (g.obj m Nn h3) (hst m Nn hks h3)
  ·rcases hlk m o1 h1 with⟨e1,_⟩| ⟨vJ,hks,q1,h3,_⟩<;>rcases hlk m' o2 h2 with⟨e2,_⟩| ⟨UZ,akZ,q2,h4,_⟩
   ·exact hne (e1.trans e2.symm)
   ·simp only[if_pos e1]at hb;simp only[if_neg UZ]at hb';have hlt:=(g.obj m' q2 h4).blk b hb';obtain⟨i,oi,hi,h5,h6⟩:=how b hb hlt;exact g.tN m' i _ _ (fun e=>akZ (e▸hi)) h4 h5 b hb' h6
   ·simp only[if_pos e2]at hb';simp only[if_neg vJ]at hb;have hlt:=(g.obj m q1 h3).blk b hb;obtain⟨i,oi,hi,h5,h6⟩:=how b hb' hlt;exact g.tN m i _ _ (fun e=>hks (e▸hi)) h3 h5 b hb h6
   ·simp only[if_neg vJ]at hb;simp only[if_neg UZ]at hb';exact g.tN m m' _ _ hne h3 h4 b hb hb'
  ·have hl:look (st.sl.map fun e=>(e.1,e.2.rev st.hp ks ns d)) s1=some x:=hl;rw[sH (α:=SV) (f:=fun e:Nat×SV=>e.2.rev st.hp ks ns d)]at hl;cases hq:look st.sl s1 with
   |none=>rw[hq]at hl;cases hl
   |some y=>
    rw[hq]at hl;simp only[eN,oI]at hl;subst hl;exact AR.rev s hv (g.slot s1 y hq)
  ·rcases hlk m o' hm with⟨e1,_⟩| ⟨vJ,hks,q1,h3,_⟩
   ·simp only[if_pos e1]at hb;by_cases hlt:b<w.heap.size
    ·obtain⟨i,oi,hi,h5,h6⟩:=how b hb hlt;exact g.dom i oi h5 b h6
    ·exact bw aJ
   ·simp only[if_neg vJ]at hb;exact g.dom m q1 h3 b hb
  ·have:m≠d:=by rintro rfl;rw[hdp]at hm;cases hm
   simp only[if_neg this];exact g.pins m hm
 exact alf
theorem Lb(g:Good ty zb st a.tmps w env): ∀{l c:List V} {k:List Nat} {us:List Value},dG (RA w st.hp env) l us→takes st l=some (c,k)→k.Nodup→
  ∃fp,fH w c us fp∧Own 0 w fp∧(∀b,b∈fp→ ∃i o,i∈k∧look st.hp i=some o∧b∈(env i).fp)∧ ∀i b,i∈k→b∈(env i).fp→b∈fp
 | [],c,k,us,hr,h,_=>by
   simp only[takes,oI,pI]at h;obtain⟨rfl,rfl⟩:=h;cases us with
   |nil=>exact⟨[],rfl,Own.nil _ _,by simp,by simp⟩
   |cons _ _=>exact hr.elim
 |v::r,c,k,us,hr,h,hnd=>by
  cases us with
  |nil=>exact hr.elim
  |cons u us=>
   cases v with
   |lit x=>
    simp only[takes]at h;split at h
    ·rename_i c' k' h';simp only[oI,pI]at h;obtain⟨rfl,rfl⟩:=h;obtain⟨fp,h1,h2,h3,h4⟩:=Lb g hr.2 h' hnd;obtain⟨e1,e2⟩:=hr.1;exact⟨fp,⟨[],fp,⟨e1,e2,rfl⟩,h1,rfl⟩,h2,h3,h4⟩
    ·cases h
   |own n=>
    simp only[takes]at h;split at h
    ·rename_i t l c' k' hl h';simp only[oI,pI]at h;obtain⟨rfl,rfl⟩:=h;obtain⟨hn1,hn2⟩:=List.nodup_cons.1 hnd;obtain⟨fp,h1,h2,h3,h6⟩:=Lb g hr.2 h' hn2;obtain⟨_,rfl⟩:=hr.1;have hb:=RO.sl (g.obj n _ hl);have ho:=RO.own (g.obj n _ hl);refine⟨(env n).fp++fp,⟨_,_,hb,h1,rfl⟩,⟨bM.2 ⟨ho.nodup,h2.nodup,?_⟩,fun b hb=> ?_,fun b hb=> ?_⟩,fun b hb=> ?_,fun i b hi hbi=> ?_⟩
     ·rintro b hb x hx rfl;obtain⟨i,o,hi,h4,h5⟩:=h3 b hx;exact g.tN n i _ _ (fun e=>hn1 (e▸hi)) hl h4 b hb h5
     ·rcases bg.1 hb with hb|hb
      ·exact ho.ge b hb
      ·exact h2.ge b hb
     ·rcases bg.1 hb with hb|hb
      ·exact ho.kind b hb
      ·exact h2.kind b hb
     ·rcases bg.1 hb with hb|hb
      ·exact⟨n,_,by simp,hl,hb⟩
      ·obtain⟨i,o,hi,h4,h5⟩:=h3 b hb;exact⟨i,o,aE _ hi,h4,h5⟩
     ·rcases bh.1 hi with rfl|hi
      ·exact bl _ hbi
      ·exact aW _ (h6 i b hi hbi)
    ·cases h
   |_=>simp[takes]at h
theorem PX(g:Good ty zb st a.tmps w env){t:Tag}: ∀{ps:List (Nat×Operand)} {i:Nat} {vc:List Prop} {xs:List (T t)} {ks:List Nat},Pq st t i ps=some (vc,xs,ks)→ks.Nodup→(∀q,q∈vc→q)→
  (ps.map fun p=>(p.1,a.eval p.2))=FC i (ps.map fun p=>a.eval p.2)∧xs.length=ps.length∧ ∃eS:List (List Nat),eS.length=xs.length∧
   (∀(i:Nat) (x:T t) (f:List Nat),xs[i]? =some x→eS[i]? =some f→ ∃p:Nat×Operand,ps[i]? =some p∧rd t w (a.eval p.2).cells.toList x f)∧Own 0 w eS.flatten∧(∀b,b∈eS.flatten→ ∃i o,i∈ks∧look st.hp i=some o∧b∈(env i).fp)∧
   ∀i b,i∈ks→b∈(env i).fp→b∈eS.flatten
 | [],i,vc,xs,ks,h,_,_=>by
   simp only[Pq,oI,pI]at h;obtain⟨rfl,rfl,rfl⟩:=h;exact⟨rfl,rfl,[],rfl,by simp,Own.nil _ _,by simp,by simp⟩
 | (j,x)::r,i,vc,xs,ks,h,hnd,hv=>by
   simp only[Pq]at h;split at h
   ·rename_i s hij hx;have hij:=aG hij;subst hij;split at h
    ·rename_i c k hc;split at h
     ·rename_i zM y vcs ys ks1 he hb;simp only[oI,pI]at h;obtain⟨rfl,rfl,rfl⟩:=h;obtain⟨hn1,hn2,hn3⟩:=bM.1 hnd;obtain⟨q1,q2,eS,q3,q4,q5,q6,q7⟩:=PX g hb hn2 (fun q hq=>hv q (aW _ hq));obtain⟨fp,r1,r2,r3,r4⟩:=Lb g (rm g (lX g (fun e he=>by simp at he) hx) (mj hc)) hc hn1;have hE:=C7 t he (fun q hq=>hv q (bl _ hq)) r1;refine⟨by simp[FC,q1],by simp[q2],fp::eS,by simp[q3],?_,⟨?_,?_,?_⟩,?_,?_⟩
      ·intro i' x' f hx' hf;cases i' with
       |zero=>simp at hx' hf;subst hx';subst hf;exact⟨(i,x),rfl,hE⟩
       |succ n=>simp at hx' hf;obtain⟨p,h1,h2⟩:=q4 n x' f hx' hf;exact⟨p,by simpa using h1,h2⟩
      ·rw[dM];refine bM.2 ⟨r2.nodup,q5.nodup,?_⟩;rintro b hb z hz rfl;obtain⟨n,o1,h1,h2,h3⟩:=r3 b hb;obtain⟨m,o2,h4,h5,h6⟩:=q6 b hz;exact g.tN n m _ _ (fun e=>hn3 n h1 m h4 e) h2 h5 b h3 h6
      ·intro b hb;rw[dM]at hb;rcases bg.1 hb with hb|hb
       ·exact r2.ge b hb
       ·exact q5.ge b hb
      ·intro b hb;rw[dM]at hb;rcases bg.1 hb with hb|hb
       ·exact r2.kind b hb
       ·exact q5.kind b hb
      ·intro b hb;rw[dM]at hb;rcases bg.1 hb with hb|hb
       ·obtain⟨n,o1,h1,h2,h3⟩:=r3 b hb;exact⟨n,o1,bl _ h1,h2,h3⟩
       ·obtain⟨n,o1,h1,h2,h3⟩:=q6 b hb;exact⟨n,o1,aW _ h1,h2,h3⟩
      ·intro n b hn hb;rw[dM];rcases bg.1 hn with hn|hn
       ·exact bl _ (r4 n b hn hb)
       ·exact aW _ (q7 n b hn hb)
     ·cases h
    ·cases h
   ·cases h
end
def ayB(d:Nat):Operand→Bool
 | .tmp s=> !Nat.beq s d
 | .const _=>true
 |_=>false
def ayC(P:Program)(ty:Tag→Nat)(Γ:Nat→TK)(st:St)(m0:Nat)(o1 o2:Oper):Option (List Prop×St):=
 match o1.guard,o1.dst,o1.op with
 |none,some d1, .buildSlice tb len parts=>match Γ tb with
  | .sl t e=>match bH e (ty t)&&bH parts.toList.length len&&Nat.ble (len*kk t) 16777216,Pq st t 0 parts.toList with
    |true,some (vc,lx,m)=>match o2.guard,o2.dst,o2.op with
     |none,some d2, .call ⟨.builtin .append,xs,ts⟩=>match xs.toList,ts.toList with
      | [s, .tmp d],[t1,t2]=>match bH d d1&&ayB d1 s&&bH t1 tb&&bH t2 tb,oH st [] s with
        |true,some vs=>match U0 st t vs with
         |some (l,k)=>match zo m&&Ya k m&& !pinned k&& !tG m0&&pR d1 st.n&&pR d2 st.n,look (gr (zn k m) [] st.hp) m0 with
          |true,none=>some ([El P ty t,(l.length+lx.length)*vI t≤140737488355328∧l.length+lx.length≤maxLen]++vc,
            (St.put ⟨st.n,st.sl.map fun e=>(e.1,e.2.rev st.hp (zn k m) m m0),(m0, .arr t (l++lx))::YS st.hp (zn k m) m m0 st.hp⟩ (some d1) (.one (.a .any))).put (some d2) (.one (.a (.own m0))))
          |_,_=>none
         |none=>none
        |_,_=>none
      |_,_=>none
     |_,_,_=>none
    |_,_=>none
  |_=>none
 |_,_,_=>none
theorem acs{w:World}{base:Nat}{e:TypeId}{k g o cap:Nat}{xs:List Value}(h:ot w base e k (.slice (some ⟨g,o,none⟩) n cap) n xs): ∀j u,xs[j]? =some u→w.cell? ((⟨g,o,none⟩:Addr).add j)=some u:=by
 intro j u hu;rcases h.2 with⟨h1,_⟩| ⟨g',o',cap',cur,hv,_,hg,_,_,_,Mk⟩
 ·cases h1
 ·simp only[Value.slice.injEq,oI,Addr.mk.injEq,and_true,true_and]at hv;obtain⟨⟨rfl,rfl⟩,rfl⟩:=hv;rw[Addr.add_mid];exact Kt hg j u (by rw[Mk];exact hu)
section
variable{P:Program}{zb:fG}{st:St}{a:Act}{w:World}{env:Env}{o:Oper}
theorem asF{Γ:Nat→TK}(C: ∀t,gO P t (Γ t)){m0:Nat}{o1 o2:Oper}{vc:List Prop}(h:ayC P ty Γ st m0 o1 o2=some (vc,st'))(hv: ∀q,q∈vc→q)(iv:Inv ty zb st a w)
  {ops:Array Oper}{tail:List Oper}{Q:Exit→Act→World→Prop}(hQ: ∀a w,Inv ty zb st' a w→wpList P ops Q tail a w):wpList P ops Q (o1::o2::tail) a w:=by
 obtain⟨env,g⟩:=iv.good;have hB:=iv.kept.size;unfold ayC at h;split at h
 case h_2=>cases h
 rename_i d1 tb len parts hg1 hd1 ho1;split at h
 case h_2=>cases h
 rename_i t e hk;split at h
 case h_2=>cases h
 rename_i zM lx m hc1 hb;split at h
 case h_2=>cases h
 rename_i d2 xs ts hg2 hd2 ho2;split at h
 case h_2=>cases h
 rename_i s d t1 t2 hxl htl;split at h
 case h_2=>cases h
 rename_i vs hc2 hs;split at h
 case h_2=>cases h
 rename_i l k hds;split at h
 case h_2=>cases h
 rename_i hc3 hlk;simp only[oI,pI,lR]at h;rw[lR]at hlk;obtain⟨rfl,aGE⟩:=h;simp only[an,bO]at hc1 hc2 hc3;obtain⟨⟨he,hlen⟩,hbig⟩:=hc1;obtain⟨⟨⟨hdd,hoff⟩,ht1⟩,ht2⟩:=hc2;obtain⟨⟨⟨⟨⟨hnd,hno⟩,hpk⟩,X7⟩,hl1⟩,uI⟩:=hc3;have he:=aG he;obtain rfl:=aG hdd;obtain rfl:=aG ht1;obtain rfl:=aG ht2;obtain rfl:xs= #[s, .tmp d]:=by cases xs;simp_all
 obtain rfl:ts= #[t2,t2]:=by cases ts;simp_all
 have BY:El P ty t:=hv _ fI;obtain⟨cQ,fu⟩:(l.length+lx.length)*vI t≤140737488355328∧l.length+lx.length≤maxLen:=hv _ fI;obtain⟨q1,q2,eS,q3,q4,q5,q6,q7⟩:=PX g hb (rO hnd) (fun q hq=>hv q OL);have hC:=C t2;rw[hk,he]at hC;have hlen:=aG hlen;obtain⟨w1,r1,r2,r3⟩:=E5 (P:=P) (w:=w) (a:=a) ho1 hC.1 BY (bV hbig) hlen (aY _) q1 q2 q3 q4 q5;have g1:Good ty zb st a.tmps w1 env:=by
  have:=Good.grow hB g (os:= []) rfl (tX.none r2);exact this
 have hB1:zb.w.heap.size≤w1.heap.size:=cB hB r2.size;have hR1:oJ P ops o1 a w (fun a' w'=>a'=a.put o1.dst (.slice (some ⟨w.heap.size,0,none⟩) len len)∧w1=w') Q:=by
  refine oQ hg1 ?_;unfold Oper.wp;rw[r1];exact⟨rfl,rfl⟩
 refine hR1.mono ?_;rintro a1 w1 ⟨rfl,rfl⟩;have hdl:d<a.tmps.size:=by rw[iv.size];exact bV hl1
 have aGG:d2<a.tmps.size:=by rw[iv.size];exact bV uI
 rw[hd1];have hsv:(a.put (some d) (.slice (some ⟨w.heap.size,0,none⟩) len len)).eval s=a.eval s:=by
  cases s with
  |tmp s=>
   simp only[ayB,bO]at hoff;have hne:s≠d:=by rintro rfl;simp at hoff
   show(a.tmps.setIfInBounds d _).getD s undef=a.tmps.getD s undef
   rw[ak,ak,iF (fun e=>hne e.symm)]
  |const v=>rfl
  |_=>simp[ayB]at hoff
 have hxv:(a.put (some d) (.slice (some ⟨w.heap.size,0,none⟩) len len)).eval (.tmp d)= .slice (some ⟨w.heap.size,0,none⟩) len len:=by
  show(a.tmps.setIfInBounds d _).getD d undef=_
  rw[ak,kA hdl];rfl
 obtain⟨fp,hD,Gh⟩:=Tj g1 (lX g1 (fun e he=>by simp at he) hs) hds hpk;obtain⟨news,fx,hown,hfl,hfe,qx,hfo⟩:=r3;have hff:fx.flatten=eS.flatten:=by simpa[Value.ownBlock]using qx.symm
 have hq5:Own 0 w1 eS.flatten:=q5.below r2;have hlx:len=lx.length:=by rw[q2,hlen]
 have aro:Own 0 w1 (fp++fx.flatten):=by
  rw[hff];have ho:=hD.own;refine⟨bM.2 ⟨ho.nodup,hq5.nodup,?_⟩,fun b hb=> ?_,fun b hb=> ?_⟩
  ·rintro b hb c hc rfl;obtain⟨i,oi,hi,h1,h2⟩:=Gh b hb;obtain⟨j,oj,hj,h3,h4⟩:=q6 b hc;have hij:i≠j:=by
    rintro rfl;simp only[Ya,bE,bO,cq]at hno;exact hno i hi i hj fI
   exact g.tN i j _ _ hij h1 h3 b h2 h4
  ·rcases bg.1 hb with hb|hb
   ·exact ho.ge b hb
   ·exact hq5.ge b hb
  ·rcases bg.1 hb with hb|hb
   ·exact ho.kind b hb
   ·exact hq5.kind b hb
 have RG: ∀b,(a.eval s).ownBlock=some b→b∈fp:=by
  intro b hb;obtain⟨xs,eS,_,_,_,qx,_⟩:=hD;rw[qx,hb];simp
 have hsrc:Src w1 (.slice (some ⟨w.heap.size,0,none⟩) len len) lx.length news:=by
  subst hlx;exact bw ⟨⟨w.heap.size,0,none⟩,_,rfl,acs hown⟩
 have hR2:oJ P ops o2 (a.put (some d) (.slice (some ⟨w.heap.size,0,none⟩) len len)) w1 (fun a' w'=>Inv ty zb st' a' w') Q:=by
  refine oQ hg2 ?_;refine UD s (.tmp d) t2 ho2 (ko t) (oc t) 0 (ty t) (oL t) (vI t) hC.1 BY (xm t) (a.eval s) l fp hsv hD _ hxv lx news fx hsrc hfl hown.1 hfe aro fu cQ (aY _) ?_;intro v' w' oK k1 k2 k3 k4 k5 k6;obtain⟨env',hg',hv'⟩:=al7 (ty:=ty) g1 hB1 (ks:=k++m) (ns:=m) X7 hlk (v:=a.eval s) (fp:=fp) (fx:=eS.flatten)
   (by
    intro b hb;rcases bg.1 hb with hb|hb
    ·obtain⟨i,oi,hi,h1⟩:=Gh b hb;exact⟨i,oi,bl _ hi,h1⟩
    ·obtain⟨i,oi,hi,h1⟩:=q6 b hb;exact⟨i,oi,aW _ hi,h1⟩)
   RG k1 k2 (fun b hb=>by
    rcases k4 b hb with h|h|h
    ·exact bP h
    ·exact bw (bP (hff▸h))
    ·exact bw (bw aJ))
   (fun n hn=>aW _ hn)
   (fun n o b hn hl hb=>by
    have hbf:=q7 n b hn hb;refine⟨k6 b (by rw[hff];exact hbf),k2.block b (hq5.lt b hbf) fun e=> ?_⟩;obtain⟨i,oi,hi,h1,h2⟩:=Gh b (RG b e.symm);have hij:i≠n:=by
     rintro rfl;simp only[Ya,bE,bO,cq]at hno;exact hno i hi i hn fI
    exact g.tN i n _ _ hij h1 hl b h2 hb)
  have aDw:Kept zb w1 w':=by
   refine⟨k2.os,k2.tape,k2.output,k2.size,fun b hb hn=>k2.block b aJ fun e=> ?_,k5⟩;obtain⟨i,oi,hi,h1,h2⟩:=Gh b (RG b e.symm);rcases g.dom i oi h1 b h2 with h|h
   ·exact hn h
   ·omega
  rw[←aGE];refine⟨?_,?_,(iv.kept.trans (qZ r2 hB)).trans aDw,iv.Nf,env',?_⟩
  ·rw[nR,nR,Dg,Dg];exact iv.size
  ·rw[put_defers,put_defers];exact iv.defers
  ·have gp:=uV hg' (dst:=some d) (fun _ e=>by cases e;exact hdl) (v:= .one (.a .any)) (u:= .slice (some ⟨w.heap.size,0,none⟩) len len) trivial (fun d _=>uZ ⟨_,rfl⟩);rw[hd2];refine uV gp (fun _ e=>by cases e;rw[nR];exact aGG) ?_ (fun d _=>uZ ⟨_,rfl⟩);rw[axW];exact⟨⟨t,_,look_eq⟩,hv'.symm⟩
 exact hR2.mono fun a' w' zu=>hQ a' w' zu
end
def PY:Nat→List Oper→Option (List Oper×Oper×Oper×List Oper)
 |0,o1::o2::r=>some ([],o1,o2,r)
 |n+1,o::r=>match PY n r with
  |some (p,o1,o2,q)=>some (o::p,o1,o2,q)
  |none=>none
 |_,_=>none
theorem Tv: ∀{n:Nat} {l p q:List Oper} {o1 o2:Oper},PY n l=some (p,o1,o2,q)→l=p++o1::o2::q
 |0,[],_,_,_,_,h=>by cases h
 |0,[_],_,_,_,_,h=>by cases h
 |0,o1::o2::r,p,q,a,b,h=>by
  simp only[PY,oI,pI]at h;obtain⟨rfl,rfl,rfl,rfl⟩:=h;rfl
 |n+1,[],_,_,_,_,h=>by cases h
 |n+1,o::r,p,q,a,b,h=>by
  simp only[PY]at h;split at h
  ·rename_i p' o1 o2 q' h';simp only[oI,pI]at h;obtain⟨rfl,rfl,rfl,rfl⟩:=h;rw[Tv h'];rfl
  ·cases h
def runK(P:Program)(ty:Tag→Nat)(Γ:Nat→TK)(iD:List (Nat×Nat))(cr:List (Nat×CR))(ops rest:List Oper)(zM:List Prop):Option (List Prop×St)→Option (List Prop×St)
 |some ([p,q],⟨n,sl,hp⟩)=>run P ty Γ iD cr ops rest ⟨n,sl,hp⟩ (p::q::zM)
 |some ([p,q,r],⟨n,sl,hp⟩)=>run P ty Γ iD cr ops rest ⟨n,sl,hp⟩ (p::q::r::zM)
 |some (l,⟨n,sl,hp⟩)=>run P ty Γ iD cr ops rest ⟨n,sl,hp⟩ (l++zM)
 |none=>none
def fR:Option (List Prop×St)→Option (List Prop×St)
 |some (l,st)=>match fSt st with|some st=>some (l,st)|none=>none
 |none=>none
theorem avI{x:Option (List Prop×St)}{y:List Prop×St}(h:fR x=some y):x=some y:=by
 unfold fR at h;split at h
 ·split at h
  ·rename_i l st KM hs;simp only[oI]at h;rw[←h,vP hs]
  ·cases h
 ·cases h
theorem asG{P:Program}{Γ:Nat→TK}{iD:List (Nat×Nat)}{cr:List (Nat×CR)}{ops rest:List Oper}{zM:List Prop}{x:Option (List Prop×St)}{y:List Prop×St}(h:runK P ty Γ iD cr ops rest zM x=some y):
  ∃l st acc,x=some (l,st)∧run P ty Γ iD cr ops rest st acc=some y∧ ∀q,q∈l++zM→q∈acc:=by
 unfold runK at h;split at h
 ·exact⟨_,_,_,rfl,h,fun q hq=>by simpa using hq⟩
 ·exact⟨_,_,_,rfl,h,fun q hq=>by simpa using hq⟩
 ·exact⟨_,_,_,rfl,h,fun q hq=>by simpa using hq⟩
 ·cases h
def aDx(P:Program)(ty:Tag→Nat)(Γ:Nat→TK)(iD:List (Nat×Nat))(cr:List (Nat×CR))(ks:List Nat)(ix m0:Nat)(ops:List Oper):St→Option (List Prop×St)
 | ⟨n,sl0,nB⟩=>match PY ix ops with
   |some (pre,o1,o2,rest)=>match run P ty Γ iD cr ops pre ⟨n,sl0,nB⟩ []with
    |some (zM,Kn)=>match runK P ty Γ iD cr ops rest zM (fR (ayC P ty Γ Kn m0 o1 o2))with
     |some (vc,st')=>match Tt n st' ks,bH st'.n n with
      |some KM,true=>some (vc,KM)
      |_,_=>none
     |none=>none
    |none=>none
   |none=>none
section
variable{P:Program}{Γ:Nat→TK}{zb:fG}{Q:Post}{st:St}
theorem aeS(X:Ctx P ty Γ)(iD:List (Nat×Nat))(cr:List (Nat×CR))(ks:List Nat)(ix m0:Nat){id:Nat}{ops:List Oper}{vc:List Prop}(h:aDx P ty Γ iD cr ks ix m0 ops st=some (vc,st'))(hv:tH vc)(k:Q .normal st'):
  W P ty zb (.region id ops.toArray false) Q st:=by
 intro a w iv;obtain⟨n,sl0,nB⟩:=st;unfold G.aDx at h;dsimp only at h;split at h
 case h_2=>cases h
 rename_i pre o1 o2 rest hsp;split at h
 case h_2=>cases h
 rename_i zM Kn hrun;split at h
 case h_2=>cases h
 rename_i vc2 KM hk;split at h
 case h_2=>cases h
 rename_i st3 hkeep hn;simp only[oI,pI]at h;obtain⟨rfl,rfl⟩:=h;obtain⟨l,st4,acc,he,PZ,hacc⟩:=asG hk;have he:=avI he;have hv:=hv.out;refine wp_region_lit ?_;rw[show wpList P ops.toArray (No ty zb Q) ops a w=wpList P ops.toArray (No ty zb Q) (pre++o1::o2::rest) a w by rw[←Tv hsp]];refine N3 X.kind X.one (fun a w iv=> ?_) hrun (fun q hq=>hv q (A9 PZ q (hacc q (aW _ hq)))) iv;refine asF X.kind he (fun q hq=>hv q (A9 PZ q (hacc q (bl _ hq)))) iv fun a w iv=> ?_;refine Vb X.kind X.one (fun a w iv=>⟨_,?_,k⟩) PZ hv iv;unfold Tt at hkeep;split at hkeep
 ·rename_i sl hp h1 h2;split at hkeep
  ·rename_i hc;simp only[oI]at hkeep;subst hkeep;exact iv.weaken (aG hn).symm (rq h1) (ru h2) hc
  ·cases hkeep
 ·cases hkeep
end
def rename(st:St)(s m:Nat):Option St:=match look st.sl s,pR s st.n with
 |some (.one (.a (.own n))),true=>match look st.hp n,pinned [n],tG m,look (gr [n] [] st.hp) m with
  |some (.arr t l),false,false,none=>fSt ((st.gone [n] m t l).put (some s) (.one (.a (.own m))))
  |_,_,_,_=>none
 |_,_=>none
theorem aia{zb:fG}{st:St}{s:Nat}(h:rename st s m=some st'){a:Act}{w:World}(iv:Inv ty zb st a w):Inv ty zb st' a w:=by
 obtain⟨env,g⟩:=iv.good;have hB:=iv.kept.size;unfold rename at h;split at h
 case h_2=>cases h
 rename_i n hs hlt;split at h
 case h_2=>cases h
 rename_i t l hl hpk X7 hlk;have h:=vP h;rw[St.gone_eq]at h;have hsf:soft n=false:=AZ hpk fI;have hb:=RO.bld hsf (g.obj n _ hl);have RG: ∀b,(env n).v.ownBlock=some b→b∈(env n).fp:=by
  intro b hb';obtain⟨xs,eS,_,_,_,qx,_⟩:=hb;rw[qx,hb'];simp
 obtain⟨env',hg',hv'⟩:=Pn (ty:=ty) g hB (ks:= [n]) hpk X7 hlk (v:=(env n).v) (v':=(env n).v) (w':=w) (fp:=(env n).fp) (fx:= []) (by
  intro b hb;rw[cW]at hb;exact⟨n,_,by simp,hl,hb⟩) RG hb ⟨rfl,rfl,rfl,aS _,fun _ _ _=>rfl⟩ (fun b hb=>bP hb)
 have hlt:s<a.tmps.size:=by rw[iv.size];exact bV hlt
 obtain⟨_,hu⟩:=g.slot s _ hs;have gp:=hg'.put hlt (v:= .one (.a (.own m))) (u:=a.tmps.getD s undef) ⟨⟨t,l,look_eq⟩,by rw[hv'];exact hu⟩ rfl;have e:a.tmps.setIfInBounds s (a.tmps.getD s undef)=a.tmps:=by
  rw[ak,Array.getElem?_eq_getElem hlt];apply Array.ext
  ·simp
  ·intro i h1 h2;rw[Array.getElem_setIfInBounds];split
   ·rename_i hi;subst hi;rfl
   ·rfl
 rw[e]at gp;rw[h];exact⟨by rw[Dg];exact iv.size,iv.defers,iv.kept,iv.Nf,env',gp⟩
theorem w7{P:Program}{zb:fG}{Q:Post}{st:St}(s m:Nat)(h:G.rename st s m=some st')(k:W P ty zb c Q st'):W P ty zb c Q st:=fun a w iv=>k a w (aia h iv)
def acu(st:St)(b i m:Nat)(t:Tag):Option St:=match look st.hp b,tG m,look st.hp m with
 |some (.box c),false,none=>match Ic c i with
  |some (.lit (.slice none 0 0))=>fSt ⟨st.n,st.sl,(b, .box (c.set i (.own m)))::(m, .arr t [])::st.hp⟩
  |_=>none
 |_,_,_=>none
theorem dG.set'{R R':V→Value→Prop}{y:V}(hm: ∀a u,R a u→R' a u): ∀{c:List V} {cs:List Value} {i:Nat} {v:V},dG R c cs→Ic c i=some v→(∀u,R v u→R' y u)→dG R' (c.set i y) cs
 | [],_,_,_,_,h,_=>by cases h
 |a::r,[],_,_,h,_,_=>h.elim
 |a::r,u::us,0,v,⟨h1,h2⟩,h,hy=>by
  simp only[Ic,oI]at h;subst h;exact⟨hy u h1,h2.mono fun a b _ h=>hm a b h⟩
 |a::r,u::us,i+1,v,⟨h1,h2⟩,h,hy=>⟨hm a u h1,dG.set' hm h2 (by simpa[Ic]using h) hy⟩
theorem aib{zb:fG}{st:St}{b i:Nat}{t:Tag}(h:acu st b i m t=some st'){a:Act}{w:World}(iv:Inv ty zb st a w):Inv ty zb st' a w:=by
 obtain⟨env,g⟩:=iv.good;have hB:=iv.kept.size;unfold acu at h;split at h
 case h_2=>cases h
 rename_i c hl X7 hlk;split at h
 case h_2=>cases h
 rename_i he;have h:=vP h;have hne:b≠m:=by rintro rfl;rw[hl]at hlk;cases hlk
 have hN:tX (ty:=ty) w w st.hp [(m, .arr t [])] env (fun n=>if n=m then⟨O4,[]⟩else env n):=by
  refine⟨Below.refl _ _,fun n hn=> ?_,fun n o hn=> ?_,fun n n' o o' hne h1 h2=> ?_⟩
  ·by_cases hnm:n=m
   ·subst hnm;rw[look_eq]at hn;cases hn
   ·simp[hnm]
  ·by_cases hnm:n=m
   ·subst hnm;rw[look_eq]at hn;simp only[oI]at hn;subst hn;simp only[if_true];exact⟨RO.S7 (qN.nil _ _ _ _ _),by simp⟩
   ·rw[cR hnm]at hn;cases hn
  ·intro x hx;by_cases hnm:n=m
   ·subst hnm;simp at hx
   ·rw[cR hnm]at h1;cases h1
 have g1:=Good.grow hB g (os:= [(m, .arr t [])]) (by simp[fresh,hlk,X7]) hN;have hl1:look ([(m,Obj.arr t [])]++st.hp) b=some (.box c):=by
  show look ((m,Obj.arr t [])::st.hp) b=_
  rw[cR hne];exact hl
 obtain⟨b',cs,e,Tg,hh,hc⟩:=g1.obj b _ hl1;have g2:=Pk (off:=0) (us:= []) (c':=c.set i (.own m)) g1 hl1 Tg hh (aY _) (by
  simp only[jv,eM,dB,dh,ju];refine dG.set' (fun _ _ h=>h) hc he fun u hu=> ?_;obtain⟨rfl,_⟩:=hu;refine⟨⟨t,[],look_eq⟩,?_⟩;simp only[if_true])
 rw[h];exact⟨iv.size,iv.defers,iv.kept,iv.Nf,_,g2⟩
theorem fD{P:Program}{zb:fG}{Q:Post}{st:St}(b i m:Nat)(t:Tag)(h:G.acu st b i m t=some st')(k:W P ty zb c Q st'):W P ty zb c Q st:=fun a w iv=>k a w (aib h iv)
def VA(st:St)(b i m:Nat):Option St:=match look st.hp b with
 |some (.box c)=>match Ic c i with
  |some (.own n)=>match look st.hp n,pinned [n],tG m,look (gr [n] [] st.hp) m with
   |some (.arr t l),false,false,none=>match st.gone [n] m t l with
    | ⟨nn,sl,hp⟩=>fSt ⟨nn,sl,(b, .box ((c.map fun v=>v.dJ [n] []).set i (.own m)))::hp⟩
   |_,_,_,_=>none
  |_=>none
 |_=>none
theorem dG.aDy{R R':V→Value→Prop}{f:V→V}{y:V}(hm: ∀a u,R a u→R' (f a) u): ∀{c:List V} {cs:List Value} {i:Nat} {v:V},dG R c cs→Ic c i=some v→(∀u,R v u→R' y u)→dG R' ((c.map f).set i y) cs
 | [],_,_,_,_,h,_=>by cases h
 |a::r,[],_,_,h,_,_=>h.elim
 |a::r,u::us,0,v,⟨h1,h2⟩,h,hy=>by
  simp only[Ic,oI]at h;subst h;exact⟨hy u h1,h2.map hm⟩
 |a::r,u::us,i+1,v,⟨h1,h2⟩,h,hy=>⟨hm a u h1,dG.aDy hm h2 (by simpa[Ic]using h) hy⟩
theorem acv{zb:fG}{st:St}{b i:Nat}(h:VA st b i m=some st'){a:Act}{w:World}(iv:Inv ty zb st a w):Inv ty zb st' a w:=by
 obtain⟨env,g⟩:=iv.good;have hB:=iv.kept.size;unfold VA at h;split at h
 case h_2=>cases h
 rename_i c Xf;split at h
 case h_2=>cases h
 rename_i n he;split at h
 case h_2=>cases h
 rename_i t l hl hpk X7 hlk;rw[St.gone_eq]at h;have h:=vP h;have hsf:soft n=false:=AZ hpk fI;have hb:=RO.bld hsf (g.obj n _ hl);have RG: ∀b,(env n).v.ownBlock=some b→b∈(env n).fp:=by
  intro b hb';obtain⟨xs,eS,_,_,_,qx,_⟩:=hb;rw[qx,hb'];simp
 obtain⟨env',hg',hv',hold,aGI⟩:=Ti (ty:=ty) g hB (ks:= [n]) hpk X7 hlk (v:=(env n).v) (v':=(env n).v) (w':=w) (fp:=(env n).fp) (fx:= []) (by
  intro b hb;rw[cW]at hb;exact⟨n,_,by simp,hl,hb⟩) RG hb ⟨rfl,rfl,rfl,aS _,fun _ _ _=>rfl⟩ (fun b hb=>bP hb)
 have hbn:b≠n:=by rintro rfl;rw[Xf]at hl;cases hl
 have hbk:look (gr [n] [] st.hp) b=some (.box (c.map fun v=>v.dJ [n] [])):=by
  rw[fB,if_neg (by simpa using hbn),Xf];rfl
 have Tk:b≠m:=by rintro rfl;rw[hbk]at hlk;cases hlk
 have fu:look ((m,Obj.arr t l)::gr [n] [] st.hp) b=some (.box (c.map fun v=>v.dJ [n] [])):=by rw[cR Tk];exact hbk
 obtain⟨b',cs,e,Tg,hh,hc⟩:=hg'.obj b _ fu;obtain⟨b0,cs0,e0,aGJ,hh0,hc0⟩:=g.obj b _ Xf;have hbb:b'=b0:=by
  rw[hold b Tk,aGJ]at Tg;simpa using Tg.symm
 subst hbb;have hcs:cs=cs0:=by
  rw[hh0]at hh;simp at hh;exact hh.1.symm
 subst hcs;have s:AX [n] [] w st.hp env w ((m,Obj.arr t l)::gr [n] [] st.hp) env':=by
  have hnm: ∀x o,x≠n→look st.hp x=some o→x≠m:=by
   rintro x o hx h1 rfl;rw[fB,if_neg (by simpa using hx),h1]at hlk;cases hlk
  refine⟨fun _ _ _=>rfl,?_,?_,?_⟩
  ·rintro x hx ⟨y,o',h1,h2⟩;by_cases hy:y=m
   ·subst hy;exact⟨n,_,hl,by rw[←aGI];exact h2⟩
   ·rw[hold y hy]at h2;rw[cR hy,fB]at h1;split at h1
    ·cases h1
    ·cases hq:look st.hp y with
     |none=>rw[hq]at h1;cases h1
     |some o=>exact⟨y,o,hq,h2⟩
  ·intro x o hx h1;have hx:x≠n:=by simpa using hx
   have hxm:=hnm x o hx h1;exact⟨o.dJ [n] [],by rw[cR hxm,fB,if_neg (by simpa using hx),h1];rfl,by cases o<;>simp[Obj.like,Obj.dJ],by rw[hold x hxm]⟩
  ·rintro x t' l' ⟨hx,_⟩ h1;have hx:x≠n:=by simpa using hx
   have hxm:=hnm x _ hx h1;exact⟨by rw[cR hxm,fB,if_neg (by simpa using hx),h1];rfl,by rw[hold x hxm],fun _ _=>rfl⟩
 have g2:=Pk (off:=0) (us:= []) (c':=(c.map fun v=>v.dJ [n] []).set i (.own m)) hg' fu Tg hh (aY _) (by
  simp only[jv,eM,dB,dh,ju];refine dG.aDy (fun v u h=>RA.oR s h) hc0 he fun u hu=> ?_;obtain⟨_,hu⟩:=hu;exact⟨⟨t,l,look_eq⟩,by rw[hu,hv']⟩)
 rw[h];exact⟨iv.size,iv.defers,iv.kept,iv.Nf,_,g2⟩
theorem uq{P:Program}{zb:fG}{Q:Post}{st:St}(b i m:Nat)(h:G.VA st b i m=some st')(k:W P ty zb c Q st'):W P ty zb c Q st:=fun a w iv=>k a w (acv h iv)
end
section
variable{ops:List Oper}{ty:Tag→Nat}
inductive nE where
 |last(q:Nat)
 |ph(q:Nat)(c:nE)
 |br(d t:Nat)(sub next:nE)
 |nil
def nE.brs:nE→List (Nat×Nat×nE)
 | .br d t sub next=>(d,t,sub)::next.brs
 |_=> []
def nE.amc:nE→Bool
 | .last _=>true
 | .ph _ _=>true
 |_=>false
def YW(Γ:Nat→TK)(E:Tag→Nat→Prop)(S:FuncId→List S1→List S1→Prop)(iD:List (Nat×Nat))(cr:List (Nat×CR))(ops:List Oper)(q:Nat):Nat→List Oper→St→Option (List TE×List (Nat×List Prop))
 |_,[],_=>some ([],[])
 |i,o::r,⟨n,sl,hp⟩=>match q.testBit i with
  |false=>match YW Γ E S iD cr ops q (i+1) r ⟨n,sl,hp⟩with
   |some (tr,vq)=>some (⟨0, .Gf [],[]⟩::tr,vq)
   |none=>none
  |true=>match o.dst with
   |some d=>match sl.any (fun e=>e.2.mentions d),zJ Γ E S iD cr ops ⟨n,sl,hp⟩ o with
    |false,some (vc,v,os)=>match fS v,fHp os with
     |some v,some os=>match YW Γ E S iD cr ops q (i+1) r ⟨n,(d,v)::sl,zn os hp⟩with
      |some (tr,vq)=>some (⟨d,v,os⟩::tr,(i,vc)::vq)
      |none=>none
     |_,_=>none
    |_,_=>none
   |none=>none
def YX(d:Nat):Nat→List TE→St→St
 |_,[],s=>s
 |i,e::r,s=>match d.testBit i with
  |true=>YX d (i+1) r (app s e)
  |false=>YX d (i+1) r s
def acw(i:Nat)(vc:List Prop):List (Nat×List Prop)→List (Nat×List Prop)
 | []=> [(i,vc)]
 | (j,v)::r=>match pR j i with
   |true=>(i,vc)::(j,v)::r
   |false=>(j,v)::acw i vc r
def YY(d:Nat):List (Nat×List Prop)→List (Nat×List Prop)→List (Nat×List Prop)
 | [],acc=>acc
 | (i,vc)::r,acc=>match d.testBit i with
   |true=>YY d r (acw i vc acc)
   |false=>YY d r acc
def MK:List (Nat×List Prop)→Option (List Prop)
 | []=>some []
 | (_,[])::r=>MK r
 | (_,[p])::r=>match MK r with|some l=>some (p::l)|none=>none
 | (_,[p,q])::r=>match MK r with|some l=>some (p::q::l)|none=>none
 | (_,l)::r=>match MK r with|some l'=>some (l++l')|none=>none
theorem DK{i:Nat}{vc:List Prop}: ∀{l:List (Nat×List Prop)} {x:Nat×List Prop},x∈acw i vc l↔x=(i,vc)∨x∈l
 | [],x=>by simp[acw]
 | (j,v)::r,x=>by
   simp only[acw];split
   ·simp
   ·rw[bh,bh,DK];constructor
    ·rintro(h|h|h)
     ·exact bw (bP h)
     ·exact bP h
     ·exact bw (bw h)
    ·rintro(h|h|h)
     ·exact bw (bP h)
     ·exact bP h
     ·exact bw (bw h)
theorem Ad{d:Nat}: ∀{vq acc:List (Nat×List Prop)} {x:Nat×List Prop},x∈YY d vq acc↔(x∈vq∧d.testBit x.1=true)∨x∈acc
 | [],acc,x=>by simp[YY]
 | (i,vc)::r,acc,x=>by
   simp only[YY];split
   ·rename_i hb;rw[Ad,DK];constructor
    ·rintro(⟨h1,h2⟩|rfl|h)
     ·exact bP ⟨aE _ h1,h2⟩
     ·exact bP ⟨by simp,hb⟩
     ·exact bw h
    ·rintro(⟨h1,h2⟩|h)
     ·rcases bh.1 h1 with rfl|h1
      ·exact bw (bP rfl)
      ·exact bP ⟨h1,h2⟩
     ·exact bw (bw h)
   ·rename_i hb;rw[Ad];constructor
    ·rintro(⟨h1,h2⟩|h)
     ·exact bP ⟨aE _ h1,h2⟩
     ·exact bw h
    ·rintro(⟨h1,h2⟩|h)
     ·rcases bh.1 h1 with rfl|h1
      ·simp only at h2;rw[h2]at hb;cases hb
      ·exact bP ⟨h1,h2⟩
     ·exact bw h
theorem Lf: ∀{l:List (Nat×List Prop)} {m:List Prop},MK l=some m→ ∀x,x∈l→ ∀q,q∈x.2→q∈m
 | [],_,_,x,hx=>by cases hx
 | (i,v)::r,m,h,x,hx=>by
   have key: ∃l',MK r=some l'∧m=v++l':=by
    unfold MK at h;split at h
    ·rename_i he;cases he
    ·rename_i he;simp only[cP,pI]at he;obtain⟨⟨rfl,rfl⟩,rfl⟩:=he;exact⟨m,h,rfl⟩
    ·rename_i he;simp only[cP,pI]at he;obtain⟨⟨rfl,rfl⟩,rfl⟩:=he;split at h
     ·rename_i l' h1;simp only[oI]at h;exact⟨l',h1,h.symm⟩
     ·cases h
    ·rename_i he;simp only[cP,pI]at he;obtain⟨⟨rfl,rfl⟩,rfl⟩:=he;split at h
     ·rename_i l' h1;simp only[oI]at h;exact⟨l',h1,h.symm⟩
     ·cases h
    ·rename_i he;simp only[cP,pI]at he;obtain⟨⟨rfl,rfl⟩,rfl⟩:=he;split at h
     ·rename_i l' h1;simp only[oI]at h;exact⟨l',h1,h.symm⟩
     ·cases h
   obtain⟨l',h1,rfl⟩:=key;intro q hq;rcases bh.1 hx with rfl|hx
   ·exact bl _ hq
   ·exact aW _ (Lf h1 x hx q hq)
def qE(P:Program)(ty:Tag→Nat)(Γ:Nat→TK)(iD:List (Nat×Nat))(cr:List (Nat×CR))(ks hs:List Nat)(ops:List Oper)(n0:Nat):nE→St→List TE→List (Nat×List Prop)→List (Nat×List Prop)→Option (List (List Prop×St))
 | .last q,s,_,_,acc=>match YW Γ (Elt P ty) (Sound ty P) iD cr ops q 0 ops s with
   |some (tr,vq)=>match fSt (YX q 0 tr s)with
    |some ⟨n,sl1,kY⟩=>match Mu sl1 ks,Mv kY (ael sl1 kY ks hs),MK (YY q vq acc)with
     |some sl,some hp,some vc=>match Bb sl hp,bH n n0 with
      |true,true=>some [(vc,⟨n0,sl,hp⟩)]
      |_,_=>none
     |_,_,_=>none
    |none=>none
   |none=>none
 | .ph q c,s,_,_,acc=>match YW Γ (Elt P ty) (Sound ty P) iD cr ops q 0 ops s with
   |some (tr,vq)=>qE P ty Γ iD cr ks hs ops n0 c s tr vq acc
   |none=>none
 | .br d t sub next,s,tr,vq,acc=>match fSt (YX d 0 tr s),ops[t]? with
   |some s1,some o=>match step P ty Γ iD cr ops s1 o with
    |some (vc,s2)=>match fSt s2 with
     |some s2=>match qE P ty Γ iD cr ks hs ops n0 sub s2 [] [] (acw t vc (YY d vq acc)),qE P ty Γ iD cr ks hs ops n0 next s tr vq acc with
      |some l1,some l2=>some (zn l1 l2)
      |_,_=>none
     |none=>none
    |none=>none
   |_,_=>none
 | .nil,_,_,_,_=>some []
def P3(ops:List Oper)(B q YZ:Nat):Nat→Nat→Nat→List Nat
 |0,_,d=> [d]
 |m+1,i,d=>match q.testBit i with
  |false=>P3 ops B q YZ m (i+1) d
  |true=>(match((ops[i]?).map fun o=>(fU o).all fun j=>B.testBit j||d.testBit j).getD false with
   |true=>P3 ops B q YZ m (i+1) (d|||2^i)
   |false=> [])++(match YZ.testBit i with
   |true=> []
   |false=>P3 ops B q YZ m (i+1) d)
def asI(ops:List Oper)(cl:List Nat)(A:List (Nat×Oper))(qs B q:Nat):Bool:=
 A.all fun e=>(!(q.testBit e.1)|| !(B.testBit e.1))&&
   (B.testBit e.1||q.testBit e.1|| !(qs.testBit e.1)|| !((fU e.2).all fun j=>B.testBit j||q.testBit j))&&
   (!(q.testBit e.1)||
     ((tmpsOf e.2).all fun t=>A.all fun f=> !(q.testBit f.1)|| !(aer f.2 t)||bH f.1 e.1|| (cl.getD e.1 0).testBit f.1|| (pR e.1 f.1&&(cl.getD f.1 0).testBit e.1))&&
     (match e.2.guard with
      |none=>true
      |some (j,_)=>(fU e.2).any (bH j))&&
     (match e.2.dst with
      |some d=>A.all fun f=>bH f.1 e.1|| !(aer f.2 d)
      |none=>false)&&(fU e.2).all fun j=>B.testBit j||q.testBit j)
def VE(ops:List Oper)(cl:List Nat)(n B q:Nat)(c:nE):Bool:=
 (bK n).all fun t=>B.testBit t||q.testBit t||
  (P3 ops B q (cl.getD t 0) n 0 0).all fun d=> !(((ops[t]?).map fun o=>(fU o).all fun j=>B.testBit j||d.testBit j).getD false)||c.brs.any fun b=>bH b.1 d&&bH b.2.1 t
def okX(ops:List Oper)(cl:List Nat)(A:List (Nat×Oper))(qs n:Nat):Nat→nE→Bool
 |B, .last q=>asI ops cl A qs B q&&(bK n).all fun i=>B.testBit i||q.testBit i
 |B, .ph q c=>asI ops cl A qs B q&&VE ops cl n B q c&& !((bK n).all fun i=>B.testBit i||q.testBit i)&&okX ops cl A qs n B c
 |B, .br d t sub next=>sub.amc&&pR t n&&okX ops cl A qs n (B|||d|||2^t) sub&&okX ops cl A qs n B next
 |_, .nil=>true
def amd(ops:List Oper)(qs:Nat)(p:nE):Bool:=
 ((idx 0 ops).all fun e=>(fU e.2).all fun j=>pR j e.1)&&p.amc&&okX ops (Ve ops) (idx 0 ops) qs ops.length 0 p
section
variable{FD D:Nat→Bool}{tr:List TE}{s:St}
theorem wS(FD:Nat→Bool)(e:TE)(tr:List TE)(s:St)(h:FD 0=false): ∀i,lu FD (e::tr) s (i+1)=lu (fun j=>FD (j+1)) tr s i
 |0=>by simp[lu,h]
 |i+1=>by
  rw[lu,wS FD e tr s h i,lu];simp only[ny]
theorem IM(d:Nat): ∀(tr:List TE) (k:Nat) (s:St),YX d k tr s=lu (fun i=>d.testBit (k+i)) tr s tr.length
 | [],_,_=>rfl
 |e::r,k,s=>by
  have hf:(fun j=>d.testBit (k+(j+1)))=fun i=>d.testBit (k+1+i):=by funext j;congr 1;omega
  simp only[YX];split
  ·rename_i h;rw[IM d r (k+1) (app s e),bp,PC _ e r s Fy,hf]
  ·rename_i h;rw[IM d r (k+1) s,bp,wS _ e r s Fy,hf]
theorem Lg{D':Nat→Bool}: ∀{n:Nat},(∀i,i<n→D i=D' i)→lu D tr s n=lu D' tr s n
 |0,_=>rfl
 |n+1,h=>by rw[lu,lu,Lg (n:=n) fun i hi=>h i aJ,h n aJ]
theorem P4: ∀{n:Nat},lu (fun _=>false) tr s n=s
 |0=>rfl
 |n+1=>by rw[Vi rfl,P4]
theorem yM: ∀{i:Nat} {x:Nat×SV},x∈s.sl→x∈(lu D tr s i).sl
 |0,_,h=>h
 |i+1,x,h=>by
  rw[lu];split
  ·exact aE _ (yM h)
  ·exact yM h
def P5(Qb:Nat→Bool)(tr:List TE)(s:St)(m:Nat):Prop:= ∀i e,i<m→Qb i=true→tr[i]? =some e→ ∀n o,look e.os n=some o→look (lu Qb tr s i).hp n=none
variable{Qb:Nat→Bool}
theorem Lh{m:Nat}(hf:P5 Qb tr s m): ∀{j i:Nat},i≤j→j≤m→ ∀{n o},look (lu Qb tr s i).hp n=some o→look (lu Qb tr s j).hp n=some o
 |0,i,hi,_,n,o,h=>by
  have:i=0:=by omega
  subst this;exact h
 |j+1,i,hi,hm,n,o,h=>by
  by_cases hij:i=j+1
  ·subst hij;exact h
  ·have ih:=Lh hf (j:=j) (i:=i) aJ aJ h;rw[lu];split
   ·rename_i e' h1 h2;show look (e'.os++(lu Qb tr s j).hp) n=_
    cases hq:look e'.os n with
    |none=>rw[dD hq];exact ih
    |some o'=>
     have:=hf j e' aJ h1 h2 n o' hq;rw[this]at ih;cases ih
   ·exact ih
theorem DL{m:Nat}(hf:P5 Qb tr s m)(hD: ∀i,D i=true→Qb i=true): ∀{i:Nat},i≤m→ ∀{n o},look (lu D tr s i).hp n=some o→look (lu Qb tr s i).hp n=some o
 |0,_,n,o,h=>h
 |i+1,hm,n,o,h=>by
  rw[lu]at h;split at h
  ·rename_i e' h1 h2;have h:look (e'.os++(lu D tr s i).hp) n=some o:=h;rw[Dm (hD i h1) h2];show look (e'.os++(lu Qb tr s i).hp) n=some o
   cases hq:look e'.os n with
   |none=>rw[dD hq]at h ⊢;exact DL hf hD aJ h
   |some o'=>rw[gm hq]at h ⊢;exact h
  ·exact Lh hf (Nat.le_succ i) hm (DL hf hD aJ h)
theorem Fg{m:Nat}(hf:P5 Qb tr s m)(hD: ∀i,D i=true→Qb i=true): ∀{i:Nat},i≤m→ ∀{n o},look s.hp n=some o→look (lu D tr s i).hp n=some o
 |0,_,n,o,h=>h
 |i+1,hm,n,o,h=>by
  have ih:=Fg hf hD (i:=i) aJ h;rw[lu];split
  ·rename_i e' h1 h2;show look (e'.os++(lu D tr s i).hp) n=some o
   cases hq:look e'.os n with
   |none=>rw[dD hq];exact ih
   |some o'=>
    have h3:=hf i e' aJ (hD i h1) h2 n o' hq;have h4:=DL hf hD aJ ih;rw[h3]at h4;cases h4
  ·exact ih
theorem Fh{m:Nat}(hf:P5 Qb tr s m)(hD: ∀i,D i=true→Qb i=true): ∀{i:Nat},i≤m→ ∀{j:Nat} {e:TE} {n:Nat} {o:Obj},j<i→D j=true→tr[j]? =some e→look e.os n=some o→look (lu D tr s i).hp n=some o
 |i+1,hm,j,e,n,o,hj,hin,he,h=>by
  by_cases hij:j=i
  ·subst hij;rw[Dm hin he];exact gm h
  ·have ih:=Fh hf hD (i:=i) aJ (j:=j) aJ hin he h;rw[lu];split
   ·rename_i e' h1 h2;show look (e'.os++(lu D tr s i).hp) n=some o
    cases hq:look e'.os n with
    |none=>rw[dD hq];exact ih
    |some o'=>
     have h3:=hf i e' aJ (hD i h1) h2 n o' hq;have h4:=DL hf hD aJ ih;rw[h3]at h4;cases h4
   ·exact ih
end
structure TrX(Γ:Nat→TK)(E:Tag→Nat→Prop)(S:FuncId→List S1→List S1→Prop)(iD:List (Nat×Nat))(cr:List (Nat×CR))(ops:List Oper)(q:Nat)(s:St)(tr:List TE)(vq:List (Nat×List Prop)):Prop where
 len:tr.length=ops.length
 one: ∀i,i<ops.length→q.testBit i=true→ ∃o e vc,ops[i]? =some o∧tr[i]? =some e∧o.dst=some e.d∧((lu (fun j=>q.testBit j) tr s i).sl.any fun x=>x.2.mentions e.d)=false∧zJ Γ E S iD cr ops (lu (fun j=>q.testBit j) tr s i) o=some (vc,e.v,e.os)∧(i,vc)∈vq
theorem GZ{Γ:Nat→TK}{E:Tag→Nat→Prop}{S:FuncId→List S1→List S1→Prop}{iD:List (Nat×Nat)}{cr:List (Nat×CR)}{ops:List Oper}{q:Nat}: ∀{l:List Oper} {k:Nat} {st:St} {tr:List TE} {vq:List (Nat×List Prop)},YW Γ E S iD cr ops q k l st=some (tr,vq)→(∀i o,l[i]? =some o→ops[k+i]? =some o)→
  tr.length=l.length∧ ∀i,i<l.length→q.testBit (k+i)=true→ ∃o e vc,ops[k+i]? =some o∧tr[i]? =some e∧o.dst=some e.d∧((lu (fun j=>q.testBit (k+j)) tr st i).sl.any fun x=>x.2.mentions e.d)=false∧zJ Γ E S iD cr ops (lu (fun j=>q.testBit (k+j)) tr st i) o=some (vc,e.v,e.os)∧(k+i,vc)∈vq
 | [],k,st,tr,vq,h,_=>by
   simp only[YW,oI,pI]at h;exact⟨by rw[←h.1];rfl,fun i hi=>absurd hi fI⟩
 |o::r,k,⟨n,sl,hp⟩,tr,vq,h,hk=>by
  have hk': ∀i o',r[i]? =some o'→ops[k+1+i]? =some o':=fun i o' ho=>by
   have:=hk (i+1) o' (by simpa using ho);rw[show k+1+i=k+(i+1)by omega];exact this
  have hf:(fun j=>q.testBit (k+(j+1)))=fun i=>q.testBit (k+1+i):=by funext j;congr 1;omega
  simp only[YW]at h;split at h
  ·rename_i hb;split at h
   case h_2=>cases h
   rename_i tr' vq' h2;simp only[oI,pI]at h;obtain⟨rfl,rfl⟩:=h;obtain⟨q1,q2⟩:=GZ h2 hk';refine⟨by simp[q1],fun i hi hq=> ?_⟩;cases i with
   |zero=>rw[ia,hb]at hq;cases hq
   |succ i=>
    obtain⟨o',e',vc',p1,p2,p3,p4,p5,p6⟩:=q2 i (by simpa using hi) aBx;refine⟨o',e',vc',by rw[show k+(i+1)=k+1+i by omega];exact p1,by simpa using p2,p3,?_,?_,by rw[show k+(i+1)=k+1+i by omega];exact p6⟩
    ·rw[wS _ _ tr' _ Uz i,hf];exact p4
    ·rw[wS _ _ tr' _ Uz i,hf];exact p5
  ·rename_i hb;split at h
   case h_2=>cases h
   rename_i d hd;split at h
   case h_2=>cases h
   rename_i vc v os hm hq0;split at h
   case h_2=>cases h
   rename_i v2 os2 hv2 asJ;have hv2:=ali hv2;have asJ:=Va asJ;subst hv2;subst asJ;split at h
   case h_2=>cases h
   rename_i tr' vq' h2;simp only[oI,pI]at h;obtain⟨rfl,rfl⟩:=h;rw[lR]at h2;obtain⟨q1,q2⟩:=GZ h2 hk';refine⟨by simp[q1],fun i hi hq=> ?_⟩;cases i with
   |zero=>exact⟨o,⟨d,v2,os2⟩,vc,hk 0 o rfl,rfl,hd,hm,hq0,by simp⟩
   |succ i=>
    obtain⟨o',e',vc',p1,p2,p3,p4,p5,p6⟩:=q2 i (by simpa using hi) aBx;have hc:=PC (fun j=>q.testBit (k+j)) ⟨d,v2,os2⟩ tr' ⟨n,sl,hp⟩ Uz i;refine⟨o',e',vc',by rw[show k+(i+1)=k+1+i by omega];exact p1,by simpa using p2,p3,?_,?_,by rw[show k+(i+1)=k+1+i by omega];exact aE _ p6⟩
    ·rw[hc,hf];exact p4
    ·rw[hc,hf];exact p5
theorem TrX.of{Γ:Nat→TK}{E:Tag→Nat→Prop}{S:FuncId→List S1→List S1→Prop}{iD:List (Nat×Nat)}{cr:List (Nat×CR)}{q:Nat}{s:St}{tr:List TE}{vq:List (Nat×List Prop)}(h:YW Γ E S iD cr ops q 0 ops s=some (tr,vq)):TrX Γ E S iD cr ops q s tr vq:=by
 obtain⟨h1,h2⟩:=GZ h (fun i o ho=>by simpa using ho);refine⟨h1,fun i hi hq=> ?_⟩;have:=h2 i hi (by simpa using hq);simpa using this
structure PhX(ops:List Oper)(qs B q:Nat):Prop where
 back: ∀i o,ops[i]? =some o→ ∀j,j∈fU o→j<i
 tN: ∀i,i<ops.length→q.testBit i=true→B.testBit i=false
 full: ∀i o,ops[i]? =some o→B.testBit i=false→qs.testBit i=true→(∀j,j∈fU o→B.testBit j=true∨q.testBit j=true)→q.testBit i=true
 uses: ∀i o,q.testBit i=true→ops[i]? =some o→ ∀t,t∈tmpsOf o→ ∀k o',q.testBit k=true→ops[k]? =some o'→o'.dst=some t→k=i∨((Ve ops).getD i 0).testBit k=true∨(i<k∧((Ve ops).getD k 0).testBit i=true)
 guard: ∀i o j x,q.testBit i=true→ops[i]? =some o→o.guard=some (j,x)→j∈fU o
 dist: ∀i o k o' d,q.testBit i=true→ops[i]? =some o→ops[k]? =some o'→o.dst=some d→o'.dst=some d→k=i
 clq: ∀i o,q.testBit i=true→ops[i]? =some o→ ∀j,j∈fU o→(B.testBit j=true∨q.testBit j=true)
theorem aDC(h:((idx 0 ops).all fun e=>(fU e.2).all fun j=>pR j e.1)=true): ∀i o,ops[i]? =some o→ ∀j,j∈fU o→j<i:=by
 intro i o ho j hj;simp only[bE]at h;have:=h _ (by simpa using Vk (l:=ops) (k:=0) ho) j hj;exact bV this
theorem VF{qs B q:Nat}(hb: ∀i o,ops[i]? =some o→ ∀j,j∈fU o→j<i)(h:asI ops (Ve ops) (idx 0 ops) qs B q=true):PhX ops qs B q:=by
 simp only[asI,bE,an,eV,bO]at h;have hA: ∀{i o},ops[i]? =some o→(i,o)∈idx 0 ops:=by
  intro i o ho;simpa using Vk (l:=ops) (k:=0) ho
 have hdi: ∀{o:Oper} {t:Nat},o.dst=some t→aer o t=true:=by intro o t hd;simp[aer,hd]
 refine⟨hb,fun i hi hq=> ?_,fun i o ho hB hqs he=> ?_,fun i o hq ho t ht k o' hqk ho' hd=> ?_,fun i o j x hq ho hg=> ?_,fun i o k o' d hq ho ho' hd hd'=> ?_,fun i o hq ho j hj=> ?_⟩
 ·rcases(h _ (hA (az hi))).1.1 with h1|h1
  ·simp only at h1;rw[hq]at h1;cases h1
  ·exact h1
 ·rcases(h _ (hA ho)).1.2 with((h1|h1)|h1)|h1
  ·simp only at h1;rw[hB]at h1;cases h1
  ·exact h1
  ·simp only at h1;rw[hqs]at h1;cases h1
  ·exfalso;have:((fU o).all fun j=>B.testBit j||q.testBit j)=true:=by
    rw[bE];intro j hj;rcases he j hj with h|h
    ·rw[h];rfl
    ·rw[h];simp
   simp only at h1;rw[this]at h1;cases h1
 ·rcases(h _ (hA ho)).2 with h1|h1
  ·simp only at h1;rw[hq]at h1;cases h1
  ·rcases h1.1.1.1 t ht _ (hA ho')with(((h2|h2)|h2)|h2)|h2
   ·simp only at h2;rw[hqk]at h2;cases h2
   ·rw[hdi hd]at h2;cases h2
   ·exact bP (aG h2)
   ·exact bw (bP h2)
   ·exact bw (bw ⟨bV h2.1,h2.2⟩)
 ·rcases(h _ (hA ho)).2 with h1|h1
  ·simp only at h1;rw[hq]at h1;cases h1
  ·have h2:=h1.1.1.2;simp only[hg,fF]at h2;obtain⟨y,hy,h3⟩:=h2;rw[aG h3];exact hy
 ·rcases(h _ (hA ho)).2 with h1|h1
  ·simp only at h1;rw[hq]at h1;cases h1
  ·have h2:=h1.1.2;simp only[hd,bE,eV,bO]at h2;rcases h2 _ (hA ho')with h3|h3
   ·exact aG h3
   ·rw[hdi hd']at h3;cases h3
 ·rcases(h _ (hA ho)).2 with h1|h1
  ·simp only at h1;rw[hq]at h1;cases h1
  ·exact h1.2 j hj
end
section
variable{id:Nat}{vc:List Prop}{st':St}{ty:Tag→Nat}
section
variable{P:Program}{Γ:Nat→TK}{iD:List (Nat×Nat)}{cr:List (Nat×CR)}{ops:List Oper}{s:St}{tr:List TE}{vq:List (Nat×List Prop)}{qs B q:Nat}
theorem TrX.fresh{E:Tag→Nat→Prop}{S:FuncId→List S1→List S1→Prop}(T:TrX Γ E S iD cr ops q s tr vq):P5 (fun j=>q.testBit j) tr s ops.length:=by
 intro i e hi hq he n x hl;obtain⟨o,e',vc,_,he',_,_,hqc,_⟩:=T.one i hi hq;rw[he]at he';simp only[oI]at he';subst he';obtain⟨p,_,_,_,hf⟩:=ud hqc;exact(hf n x hl).1
theorem TrX.path{E:Tag→Nat→Prop}{S:FuncId→List S1→List S1→Prop}(T:TrX Γ E S iD cr ops q s tr vq)(K:PhX ops qs B q): ∀(i:Nat),i<ops.length→q.testBit i=true→ ∀o p,ops[i]? =some o→qh (lu (fun j=>q.testBit j) tr s i) ops o=some p→ ∀e,e∈p→
  ∀k o',q.testBit k=true→ops[k]? =some o'→o'.dst=some e.1→ ∀D:Nat→Prop,(∀i o,D i→ops[i]? =some o→ ∀j,j∈fU o→D j)→(∀j,j∈fU o→D j)→D k:=by
 intro i;induction i using lG with
 |_ i ih=>
  intro hi N5 o p ho hg e he k o' hqk hok hdk D hD hE;have IL:k<ops.length:=(aU.1 hok).1;unfold qh at hg;split at hg
  ·simp at hg;subst hg;simp at he
  ·rename_i j x hgd;have hje:=K.guard i o j x N5 ho hgd;have hji:=K.back i o ho j hje;split at hg
   case h_2=>cases hg
   rename_i qj hqj;split at hg
   case h_2=>cases hg
   rename_i d hdj;have base:e.1=d→D k:=by
    intro hed;have:j=k:=K.dist k o' j qj d hqk hok hqj (by rw[hdk,hed]) hdj;rw[←this];exact hE j hje
   split at hg
   ·simp only[oI]at hg;subst hg;simp only[aV]at he;exact base (by rw[he])
   ·rename_i p' b Gj;simp only[oI]at hg;subst hg;rcases bh.1 he with h|h
    ·exact base (by rw[h])
    ·by_cases hqq:q.testBit j=true
     ·obtain⟨q2,ej,vcj,Yf,hej,ayG,_,hqc,_⟩:=T.one j aJ hqq;rw[hqj]at Yf;simp only[oI]at Yf;subst Yf;rw[hdj]at ayG;simp only[oI]at ayG;subst ayG;have ayH:look (lu (fun j=>q.testBit j) tr s i).sl ej.d=some ej.v:=by
       refine ve hji hqq hej fun j' e' h1 h2 h3 h4=> ?_;obtain⟨q',e2,_,hq',R2,hd2,_⟩:=T.one j' aJ h2;rw[h3]at R2;simp only[oI]at R2;subst R2;exact K.dist j _ j' q' ej.d hqq hqj hq' hdj (by rw[hd2,h4])
      rw[ayH]at Gj;simp only[oI]at Gj;obtain⟨pj,hgj,nB,kY,_⟩:=ud hqc;have hpj:pj=p':=by
       by_cases hnil:pj= []
       ·exact absurd Gj (nB hnil _ _)
       ·obtain⟨x',hx'⟩:=(kY hnil).1;rw[hx']at Gj;simp only[SV.cond.injEq]at Gj;exact Gj.1
      subst hpj;exact ih j hji aJ hqq _ pj hqj hgj e h k o' hqk hok hdk D hD (hD j _ (hE j hje) hqj)
     ·
      exfalso;have ayH:look (lu (fun j=>q.testBit j) tr s i).sl d=look s.sl d:=by
       refine zP fun j' e' h1 h2 h3 h4=> ?_;obtain⟨q',e2,_,hq',R2,hd2,_⟩:=T.one j' aJ h2;rw[h3]at R2;simp only[oI]at R2;subst R2;have:=K.dist j' q' j qj d h2 hq' hqj (by rw[hd2,h4]) hdj;subst this;exact hqq h2
      rw[ayH]at Gj;obtain⟨q2,ek,vck,Yf,hek,ayI,hnm,_,_⟩:=T.one k IL hqk;rw[hok]at Yf;simp only[oI]at Yf;subst Yf;rw[hdk]at ayI;simp only[oI]at ayI;rw[cq]at hnm;refine hnm (d, .cond p' (.a (.lit (.bool b)))) (yM (jx Gj)) ?_;simp only[SV.mentions,fF];exact⟨e,h,by rw[ayI];simp⟩
   ·cases hg
theorem acz(C: ∀t,gO P t (Γ t))(T:TrX Γ (Elt P ty) (Sound ty P) iD cr ops q s tr vq)(K:PhX ops qs B q)(hv: ∀x,x∈vq→q.testBit x.1=true→x.1<ops.length→ ∀p,p∈x.2→p){zb:fG}{Q:Exit→Act→World→Prop}{D:Nat→Bool}(CX: ∀i,D i=true→q.testBit i=true)(hDm: ∀i,D i=true→i<ops.length)
  (Xg: ∀i o,(B.testBit i=true∨D i=true)→ops[i]? =some o→ ∀j,j∈fU o→(B.testBit j=true∨D j=true))
  {i:Nat}(N5:q.testBit i=true)(Y0:D i=false){o:Oper}(ho:ops[i]? =some o)(hE: ∀j,j∈fU o→(B.testBit j=true∨D j=true)){a:Act}{w:World}(iv:Inv ty zb (lu D tr s ops.length) a w):
  oJ P ops.toArray o a w (fun a' w'=>Inv ty zb (lu (fun j=>D j||j==i) tr s ops.length) a' w') Q:=by
 have hi:i<ops.length:=(aU.1 ho).1;obtain⟨o',e,vc,ho',he,hd,hnm,hq,hvc⟩:=T.one i hi N5;rw[ho]at ho';simp only[oI]at ho';subst ho';have hfr:=T.fresh;have aeV: ∀{k},q.testBit k=true→k<ops.length→(B.testBit k=true∨D k=true)→D k=true:=by
  intro k hk IL h;rcases h with h|h
  ·rw[K.tN k IL hk]at h;cases h
  ·exact h
 have aGK: ∀{x},((Ve ops).getD i 0).testBit x=true→(B.testBit x=true∨D x=true):=fun h=>PE (D:=fun j=>B.testBit j=true∨D j=true) K.back Xg i o ho hE _ h;have aDF: ∀{x},((Ve ops).getD i 0).testBit x=true→x<i:=fun h=>PE (D:=fun j=>j<i) K.back (fun a b hab hb j hj=>DM (K.back a b hb j hj) hab) i o ho (fun j hj=>K.back i o ho j hj) _ h;have hdist: ∀{j e'},j<ops.length→q.testBit j=true→tr[j]? =some e'→ ∃q,ops[j]? =some q∧q.dst=some e'.d:=by
  intro j e' hj hqj he';obtain⟨q,e2,_,hq',R2,hd2,_⟩:=T.one j hj hqj;rw[he']at R2;simp only[oI]at R2;subst R2;exact⟨q,hq',hd2⟩
 have Y1: ∀{j j':Nat} {e1 e2:TE},j<ops.length→j'<ops.length→q.testBit j=true→q.testBit j'=true→tr[j]? =some e1→tr[j']? =some e2→e2.d=e1.d→j'=j:=by
  intro j j' e1 e2 h1 h2 g1 g2 h3 h4 h5;obtain⟨q1,p1,p2⟩:=hdist h1 g1 h3;obtain⟨q2,p3,p4⟩:=hdist h2 g2 h4;exact K.dist j q1 j' q2 e1.d g1 p1 p3 p2 (by rw[p4,h5])
 have agree: ∀t,(∀k o',k<ops.length→q.testBit k=true→ops[k]? =some o'→o'.dst=some t→k=i∨(k<i∧D k=true)∨(i<k∧D k=false))→look (lu (fun j=>q.testBit j) tr s i).sl t=look (lu D tr s ops.length).sl t:=by
  intro t ht;by_cases hex: ∃k e',k<i∧D k=true∧tr[k]? =some e'∧e'.d=t
  ·obtain⟨k,e',hk,Gh,he',rfl⟩:=hex;rw[ve hk (CX k Gh) he' fun j' e2 h1 h2 h3 h4=>Y1 aJ aJ (CX k Gh) h2 he' h3 h4,ve aJ Gh he' fun j' e2 h1 h2 h3 h4=>Y1 aJ h1 (CX k Gh) (CX j' h2) he' h3 h4]
  ·rw[zP (fun k e' hk hqk he' hdt=>by
      obtain⟨q',h1,h2⟩:=hdist aJ hqk he';rcases ht k q' aJ hqk h1 (by rw[h2,hdt])with h|h|h
      ·omega
      ·exact hex ⟨k,e',hk,h.2,he',hdt⟩
      ·omega),
    zP (fun k e' hk Gh he' hdt=>by
     obtain⟨q',h1,h2⟩:=hdist hk (CX k Gh) he';rcases ht k q' hk (CX k Gh) h1 (by rw[h2,hdt])with h|h|h
     ·subst h;rw[Y0]at Gh;cases Gh
     ·exact hex ⟨k,e',h.1,h.2,he',hdt⟩
     ·rw[h.2]at Gh;cases Gh)]
 obtain⟨p,tZ,nB,kY,Ye⟩:=ud hq;have aeW: ∀x,x∈p→look (lu (fun j=>q.testBit j) tr s i).sl x.1=look (lu D tr s ops.length).sl x.1:=by
  intro x hx;refine agree x.1 fun k o2 IL hqk ho2 hd2=>bw (bP ⟨?_,aeV hqk IL ?_⟩)
  ·exact T.path K i hi N5 o p ho tZ x hx k o2 hqk ho2 hd2 (fun j=>j<i) (fun a b hab hb j hj=>DM (K.back a b hb j hj) hab) (fun j hj=>K.back i o ho j hj)
  ·exact T.path K i hi N5 o p ho tZ x hx k o2 hqk ho2 hd2 (fun j=>B.testBit j=true∨D j=true) Xg hE
 have Dl:qh (lu D tr s ops.length) ops o=some p:=by
  rw[←tZ];unfold qh;split
  ·rfl
  ·rename_i j x hgd;split
   ·rename_i q hqq;split
    ·rename_i d hdq;have hmem: ∃y,(d,y)∈p:=by
      unfold qh at tZ;rw[hgd]at tZ;dsimp only at tZ;rw[hqq]at tZ;dsimp only at tZ;rw[hdq]at tZ;dsimp only at tZ;split at tZ
      ·simp only[oI]at tZ;exact⟨x,by rw[←tZ];simp⟩
      ·simp only[oI]at tZ;exact⟨x,by rw[←tZ];simp⟩
      ·cases tZ
     obtain⟨y,hy⟩:=hmem;rw[←aeW (d,y) hy]
    ·rfl
   ·rfl
 have hfresh:fresh (lu D tr s ops.length).hp e.os=true:=by
  refine Yx fun n x hl=> ?_;cases Yf:look (lu D tr s ops.length).hp n with
  |none=>exact⟨rfl,(Ye n x hl).2⟩
  |some y=>
   exfalso;have hpi:=hfr i e hi N5 he n x hl;rcases vf Yf with h| ⟨j,e',hj,hDj,he',h⟩
   ·have:=Fg (D:=fun j=>q.testBit j) hfr (fun _ h=>h) (i:=i) aJ h;rw[hpi]at this;cases this
   ·have hji:j≠i:=by rintro rfl;rw[Y0]at hDj;cases hDj
    by_cases hlt:j<i
    ·have:=Fh (D:=fun j=>q.testBit j) hfr (fun _ h=>h) (i:=i) aJ hlt (CX j hDj) he' h;rw[hpi]at this;cases this
    ·have h2:=hfr j e' hj (CX j hDj) he' n y h;have:=Fh (D:=fun j=>q.testBit j) hfr (fun _ h=>h) (i:=j) aJ (j:=i) aJ N5 he hl;rw[h2]at this;cases this
 have aDG:((lu D tr s ops.length).sl.any fun x=>x.2.mentions e.d)=false:=by
  rw[cq];intro x hx hm;rcases Vj hx with h| ⟨j,e',hj,hDj,he',rfl⟩
  ·rw[cq]at hnm;exact hnm x (yM h) hm
  ·obtain⟨qq,e2,vc2,hqq,R2,hd2,_,hqc,_⟩:=T.one j hj (CX j hDj);rw[he']at R2;simp only[oI]at R2;subst R2;obtain⟨pj,hgj,hj0,hj1,_⟩:=ud hqc;by_cases hnil:pj= []
   ·cases hx2:e'.v with
    |cond q y=>exact hj0 hnil _ _ hx2
    |one y=>simp[hx2,SV.mentions]at hm
    |Gf y=>simp[hx2,SV.mentions]at hm
   ·obtain⟨y,hy⟩:=(hj1 hnil).1;simp only[hy,SV.mentions,fF]at hm;obtain⟨z,hz,hzd⟩:=hm;have hzd:=aG hzd;have h4:=T.path K j hj (CX j hDj) qq pj hqq hgj z hz i o N5 ho (by rw[hd,hzd]) (fun j=>B.testBit j=true∨D j=true) Xg (Xg j qq (bw hDj) hqq);have:=aeV N5 hi h4;rw[Y0]at this;cases this
 have hdm:e.v.mentions e.d=false:=by
  by_cases hnil:p= []
  ·cases hx2:e.v with
   |cond q y=>exact absurd hx2 (nB hnil _ _)
   |one y=>rfl
   |Gf y=>rfl
  ·obtain⟨⟨y,hy⟩,_,hne⟩:=kY hnil;rw[hy];simp only[SV.mentions];rw[cq];intro z hz hb;exact hne e.d hd z hz (aG hb)
 have hD2: ∀j,(fun j=>D j||j==i) j=true→q.testBit j=true:=by
  intro j hj;simp only[eV,beq_iff_eq]at hj;rcases hj with h|rfl
  ·exact CX j h
  ·exact N5
 have behind: ∀a' w',Inv ty zb (app (lu D tr s ops.length) e) a' w'→Inv ty zb (lu (fun j=>D j||j==i) tr s ops.length) a' w':=by
  intro a' w' zu;obtain⟨env,g⟩:=zu.good;refine⟨by rw[zu.size,My];show(lu D tr s ops.length).n=s.n;exact My _,zu.defers,zu.kept,zu.Nf,env,g.congr ?_ ?_⟩
  ·intro t v hl;show look ((e.d,e.v)::(lu D tr s ops.length).sl) t=some v
   by_cases ht:t=e.d
   ·subst ht;rw[ve hi fI he fun j' e2 h1 h2 h3 h4=>Y1 hi h1 N5 (hD2 j' h2) he h3 h4]at hl;rw[look_eq];exact hl
   ·rw[cR ht];by_cases hex: ∃k e',k<ops.length∧D k=true∧tr[k]? =some e'∧e'.d=t
    ·obtain⟨k,e',hk,Gh,he',rfl⟩:=hex;rw[ve hk (by simp[Gh]) he' fun j' e2 h1 h2 h3 h4=>Y1 hk h1 (CX k Gh) (hD2 j' h2) he' h3 h4]at hl;rw[ve hk Gh he' fun j' e2 h1 h2 h3 h4=>Y1 hk h1 (CX k Gh) (CX j' h2) he' h3 h4];exact hl
    ·rw[zP fun k e' hk Gh he' hdt=>by
      simp only[eV,beq_iff_eq]at Gh;rcases Gh with h|rfl
      ·exact hex ⟨k,e',hk,h,he',hdt⟩
      ·rw[he]at he';simp only[oI]at he';exact ht (by rw[he',hdt])]at hl
     rw[zP fun k e' hk Gh he' hdt=>hex ⟨k,e',hk,Gh,he',hdt⟩];exact hl
  ·intro n;show look (lu (fun j=>D j||j==i) tr s ops.length).hp n=look (e.os++(lu D tr s ops.length).hp) n
   cases hl:look e.os n with
   |some x=>
    rw[gm hl];exact Fh hfr hD2 (aS _) hi fI he hl
   |none=>
    rw[dD hl];cases hx:look (lu (fun j=>D j||j==i) tr s ops.length).hp n with
    |some y=>
     rcases vf hx with h| ⟨j,e',hj,hDj,he',h⟩
     ·exact(Fg hfr CX (aS _) h).symm
     ·have hji:j≠i:=by
       rintro rfl;rw[he]at he';simp only[oI]at he';subst he';rw[hl]at h;cases h
      have hDj:D j=true:=by
       simp only[eV,beq_iff_eq]at hDj;exact hDj.resolve_right hji
      exact(Fh hfr CX (aS _) hj hDj he' h).symm
    |none=>
     cases hy:look (lu D tr s ops.length).hp n with
     |none=>rfl
     |some y=>
      rcases vf hy with h| ⟨j,e',hj,hDj,he',h⟩
      ·rw[Fg hfr hD2 (aS _) h]at hx;cases hx
      ·rw[Fh hfr hD2 (aS _) hj (by simp[hDj]) he' h]at hx;cases hx
 have hput:St.put ⟨(lu D tr s ops.length).n,(lu D tr s ops.length).sl,e.os++(lu D tr s ops.length).hp⟩ o.dst e.v=app (lu D tr s ops.length) e:=by
  rw[hd];simp only[St.put,aDG];rfl
 by_cases hw:j7 o (yielded ops.toArray a.tmps)=true
 ·have hh:holds a.tmps p:=by
   obtain⟨env,g⟩:=iv.good;unfold qh at Dl;split at Dl
   ·simp at Dl;subst Dl;intro y hy;simp at hy
   ·rename_i j x hgd;split at Dl
    ·rename_i q hqq;split at Dl
     ·rename_i d hdq;have hwd:=(AW (ops:=ops.toArray) hgd (by simpa using hqq) hdq a.tmps).1 hw;split at Dl
      ·simp only[oI]at Dl;subst Dl;intro y hy;simp at hy;subst hy;exact hwd
      ·rename_i p' b hl;simp only[oI]at Dl;subst Dl;intro y hy;rcases bh.1 hy with rfl|hy
       ·exact hwd
       ·exact(KG g hl hwd).1 y hy
      ·cases Dl
     ·cases Dl
    ·cases Dl
  obtain⟨env,g⟩:=iv.good;have asK:Compat (lu (fun j=>q.testBit j) tr s i).hp (lu D tr s ops.length).hp:=by
   intro n x y h1 h2;have h3:=Lh hfr (Nat.le_of_lt hi) (aS _) h1;have h4:=DL hfr CX (aS _) h2;rw[h3]at h4;simpa using h4
  have hmono:=acj asK g (by rw[My,My]) tZ Dl hh (fun x hx t hxt=>agree t fun k o2 hk hqk ho2 hd2=>by
    have ht:t∈tmpsOf o:=by
     simp only[tmpsOf,yH];exact⟨x,hx,by rw[hxt]⟩
    rcases K.uses i o N5 ho t ht k o2 hqk ho2 hd2 with h|h|h
    ·exact bP h
    ·exact bw (bP ⟨aDF h,aeV hqk hk (aGK h)⟩)
    ·refine bw (bw ⟨h.1,?_⟩);cases Gh:D k with
     |false=>rfl
     |true=>
      have:=PE (D:=fun j=>B.testBit j=true∨D j=true) K.back Xg k o2 ho2 (Xg k o2 (bw Gh) ho2) i h.2;have:=aeV N5 hi this;rw[Y0]at this;cases this) aeW hfresh hq
  have:=X8 (Q:=Q) C hmono iv (fun p hp=>hv _ hvc N5 hi p hp);rw[hput]at this;exact this.mono behind
 ·unfold oJ;rw[if_neg hw];have hnil:p≠ []:=by
   rintro rfl;unfold qh at tZ;split at tZ
   ·rename_i hgd;exact hw (by simp[j7,hgd])
   ·repeat' split at tZ
    all_goals simp at tZ
  obtain⟨⟨y,hy⟩,hos,_⟩:=kY hnil;have hnh: ¬holds a.tmps p:=by
   intro hh;unfold qh at tZ;split at tZ
   ·rename_i hgd;exact hw (by simp[j7,hgd])
   ·rename_i j x hgd;split at tZ
    ·rename_i q hqq;split at tZ
     ·rename_i d hdq;have hdx:(d,x)∈p:=by
       split at tZ
       ·simp only[oI]at tZ;rw[←tZ];simp
       ·simp only[oI]at tZ;rw[←tZ];simp
       ·cases tZ
      exact hw ((AW (ops:=ops.toArray) hgd (by simpa using hqq) hdq a.tmps).2 (hh _ hdx))
     ·cases tZ
    ·cases tZ
  apply behind;obtain⟨env,g⟩:=iv.good;have hlt:e.d<a.tmps.size:=by
   unfold zJ at hq;have:Ig (lu (fun j=>q.testBit j) tr s i) o.dst=true:=by
    cases hdk:Ig (lu (fun j=>q.testBit j) tr s i) o.dst with
    |true=>rfl
    |false=>rw[hdk]at hq;simp at hq
   rw[hd]at this;rw[iv.size,My];have:=bV this;rw[show(lu (fun j=>q.testBit j) tr s i).n=s.n from My i]at this;exact this
  have aDI:=g.put (d:=e.d) hlt (v:=e.v) (u:=undef) (by rw[hy];exact⟨fun hh=>absurd hh hnh,fun _=>rfl⟩) hdm;refine⟨by rw[nR];exact iv.size,by rw[put_defers];exact iv.defers,iv.kept,iv.Nf,env,?_⟩;rw[hd];have aGL:(lu D tr s ops.length).put (some e.d) e.v=app (lu D tr s ops.length) e:=by
   simp only[St.put,aDG,app,hos];rfl
  rw[aGL]at aDI;exact aDI
end
theorem IN{ops:List Oper}{B q YZ:Nat}{D:Nat→Bool}(CX: ∀i,D i=true→q.testBit i=true)(hDn: ∀i,D i=true→i<ops.length)(hb: ∀i o,ops[i]? =some o→ ∀j,j∈fU o→j<i)
  (hc: ∀i o,D i=true→ops[i]? =some o→ ∀j,j∈fU o→(B.testBit j=true∨D j=true))(aeX: ∀i,q.testBit i=true→YZ.testBit i=true→D i=true):
  ∀(m i d:Nat),i+m=ops.length→(∀j,d.testBit j=(decide (j<i)&&D j))→ ∃d',d'∈P3 ops B q YZ m i d∧ ∀j,d'.testBit j=D j
 |0,i,d,him,hd=>by
  refine⟨d,by simp[P3],fun j=> ?_⟩;rw[hd j];cases hj:D j with
  |false=>simp
  |true=>have:=hDn j hj;simp;omega
 |m+1,i,d,him,hd=>by
  have hstep:D i=false→ ∀j,d.testBit j=(decide (j<i+1)&&D j):=by
   intro Y0 j;rw[hd j];by_cases hji:j=i
   ·subst hji;simp[Y0]
   ·have:decide (j<i)=decide (j<i+1):=by
     apply decide_eq_decide.2;omega
    rw[this]
  simp only[P3];split
  ·rename_i hq;have Y0:D i=false:=by
    cases h:D i with
    |false=>rfl
    |true=>rw[CX i h]at hq;cases hq
   exact IN CX hDn hb hc aeX m (i+1) d aJ (hstep Y0)
  ·rename_i hq;cases Y0:D i with
   |true=>
    have hlt:=hDn i Y0;have ho:=az hlt;have aDJ:(((ops[i]?).map fun o=>(fU o).all fun j=>B.testBit j||d.testBit j).getD false)=true:=by
     rw[ho];simp only[eN,qP,bE,eV];intro j hj;rcases hc i _ Y0 ho j hj with h|h
     ·exact bP h
     ·exact bw (by rw[hd j,h];have:=hb i _ ho j hj;simp[this])
    obtain⟨d',h1,h2⟩:=IN CX hDn hb hc aeX m (i+1) (d|||2^i) aJ (fun j=>by
     rw[uJ,ry,hd j];by_cases hji:i=j
     ·subst hji;simp[Y0]
     ·have:decide (j<i)=decide (j<i+1):=by
       apply decide_eq_decide.2;omega
      simp[hji,this])
    refine⟨d',?_,h2⟩;rw[aDJ];exact bl _ h1
   |false=>
    obtain⟨d',h1,h2⟩:=IN CX hDn hb hc aeX m (i+1) d aJ (hstep Y0);refine⟨d',aW _ ?_,h2⟩;split
    ·rename_i hm;have:=aeX i hq hm;rw[Y0]at this;cases this
    ·exact h1
section
variable{P:Program}{Γ:Nat→TK}{iD:List (Nat×Nat)}{cr:List (Nat×CR)}{ks hs:List Nat}{ops:List Oper}{n0 qs:Nat}
theorem yN: ∀{c:nE} {s:St} {tr:List TE} {vq acc:List (Nat×List Prop)} {lv:List (List Prop×St)},qE P ty Γ iD cr ks hs ops n0 c s tr vq acc=some lv→ ∀d t sub,(d,t,sub)∈c.brs→
  ∃o vc s2 l1,ops[t]? =some o∧step P ty Γ iD cr ops (YX d 0 tr s) o=some (vc,s2)∧qE P ty Γ iD cr ks hs ops n0 sub s2 [] [] (acw t vc (YY d vq acc))=some l1∧ ∀x,x∈l1→x∈lv
 | .br d0 t0 aDK next,s,tr,vq,acc,lv,h,d,t,sub,hm=>by
   simp only[qE]at h;split at h
   case h_2=>cases h
   rename_i s1 o hs1 ho;have hs1:=vP hs1;subst hs1;split at h
   case h_2=>cases h
   rename_i vc s2 hst;split at h
   case h_2=>cases h
   rename_i s3 hs3;have hs3:=vP hs3;subst hs3;split at h
   case h_2=>cases h
   rename_i l1 l2 h1 h2;simp only[oI]at h;rw[lR]at h;subst h;simp only[nE.brs,bh,pI]at hm;rcases hm with⟨rfl,rfl,rfl⟩|hm
   ·exact⟨o,vc,_,l1,ho,hst,h1,fun x hx=>bl _ hx⟩
   ·obtain⟨o',vc',s',l',p1,p2,p3,p4⟩:=yN h2 d t sub hm;exact⟨o',vc',s',l',p1,p2,p3,fun x hx=>aW _ (p4 x hx)⟩
 | .last _,_,_,_,_,_,_,_,_,_,hm=>by simp[nE.brs]at hm
 | .ph _ _,_,_,_,_,_,_,_,_,_,hm=>by simp[nE.brs]at hm
 | .nil,_,_,_,_,_,_,_,_,_,hm=>by simp[nE.brs]at hm
theorem Ae: ∀{c:nE} {s:St} {tr:List TE} {vq acc:List (Nat×List Prop)} {lv:List (List Prop×St)},qE P ty Γ iD cr ks hs ops n0 c s tr vq acc=some lv→ ∀x,x∈lv→ ∀y,y∈acc→ ∀p,p∈y.2→p∈x.1
 | .last q,s,tr,vq,acc,lv,h,x,hx,y,hy,p,hp=>by
   simp only[qE]at h
   repeat' split at h
   all_goals first
    | (cases h;done)
    |skip
   rename_i hf _ _ _ _;simp only[oI]at h;subst h;rw[aV]at hx;subst hx;exact Lf hf y (Ad.2 (bw hy)) p hp
 | .ph q c,s,tr,vq,acc,lv,h,x,hx,y,hy,p,hp=>by
   simp only[qE]at h;split at h
   ·exact Ae h x hx y hy p hp
   ·cases h
 | .br d0 t0 aDK next,s,tr,vq,acc,lv,h,x,hx,y,hy,p,hp=>by
   simp only[qE]at h;split at h
   case h_2=>cases h
   split at h
   case h_2=>cases h
   split at h
   case h_2=>cases h
   split at h
   case h_2=>cases h
   rename_i l1 l2 h1 h2;simp only[oI]at h;rw[lR]at h;subst h;rcases bg.1 hx with hx|hx
   ·exact Ae h1 x hx y (DK.2 (bw (Ad.2 (bw hy)))) p hp
   ·exact Ae h2 x hx y hy p hp
 | .nil,_,_,_,_,_,h,x,hx,_,_,_,_=>by
   simp only[qE,oI]at h;subst h;cases hx
theorem Fi{n:Nat}: ∀{c:nE} {B:Nat},okX ops (Ve ops) (idx 0 ops) qs n B c=true→ ∀d t sub,(d,t,sub)∈c.brs→sub.amc=true∧t<n∧okX ops (Ve ops) (idx 0 ops) qs n (B|||d|||2^t) sub=true∧pW sub<pW c
 | .br d0 t0 aDK next,B,h,d,t,sub,hm=>by
   simp only[okX,an]at h;simp only[nE.brs,bh,pI]at hm;rcases hm with⟨rfl,rfl,rfl⟩|hm
   ·exact⟨h.1.1.1,bV h.1.1.2,h.1.2,by simp only[nE.br.sizeOf_spec];omega⟩
   ·obtain⟨p1,p2,p3,p4⟩:=Fi h.2 d t sub hm;exact⟨p1,p2,p3,by simp only[nE.br.sizeOf_spec];omega⟩
 | .last _,_,_,_,_,_,hm=>by simp[nE.brs]at hm
 | .ph _ _,_,_,_,_,_,hm=>by simp[nE.brs]at hm
 | .nil,_,_,_,_,_,hm=>by simp[nE.brs]at hm
theorem Tz{B q:Nat}{c:nE}(h:VE ops (Ve ops) ops.length B q c=true)(K:PhX ops qs B q){D:Nat→Bool}(CX: ∀i,D i=true→q.testBit i=true)(hDn: ∀i,D i=true→i<ops.length)
  (Xg: ∀i o,(B.testBit i=true∨D i=true)→ops[i]? =some o→ ∀j,j∈fU o→(B.testBit j=true∨D j=true)){t:Nat}{o:Oper}(ho:ops[t]? =some o)(ht:B.testBit t=false)(hqt:q.testBit t=false)(hE: ∀j,j∈fU o→(B.testBit j=true∨D j=true)):
  ∃d sub,(d,t,sub)∈c.brs∧ ∀i,d.testBit i=D i:=by
 have htl:t<ops.length:=(aU.1 ho).1;simp only[VE,bE,cS,eV]at h;obtain⟨d,h1,h2⟩:=IN (B:=B) (q:=q) (YZ:=(Ve ops).getD t 0) CX hDn K.back (fun i o hi=>Xg i o (bw hi)) (fun i N5 hm=>by
  have:=PE (D:=fun j=>B.testBit j=true∨D j=true) K.back Xg t o ho hE i hm;rcases this with h|h
  ·have hil:i<ops.length:=by
    have:=PE (D:=fun j=>j<t) K.back (fun a b hab hb j hj=>DM (K.back a b hb j hj) hab) t o ho (fun j hj=>K.back t o ho j hj) _ hm;omega
   rw[K.tN i hil N5]at h;cases h
  ·exact h) ops.length 0 0 aJ (fun j=>by simp)
 rcases h t htl with(h3|h3)|h3
 ·rw[ht]at h3;cases h3
 ·rw[hqt]at h3;cases h3
 ·have h4:=h3 d h1;simp only[bO,fF,an]at h4;rcases h4 with h4| ⟨⟨d',t',sub⟩,h5,h6,h7⟩
  ·exfalso;rw[ho]at h4;simp only[eN,qP]at h4;have:((fU o).all fun j=>B.testBit j||d.testBit j)=true:=by
    rw[bE];intro j hj;rw[eV,h2 j];exact hE j hj
   rw[this]at h4;cases h4
  ·have h6:=aG h6;have h7:=aG h7;simp only at h6 h7;subst h6;subst h7;exact⟨d',sub,h5,h2⟩
theorem aeY{B q:Nat}{c:nE}(aGM:VE ops (Ve ops) ops.length B q c=true)(K:PhX ops qs B q)(Y2: ∀i o,B.testBit i=true→ops[i]? =some o→ ∀j,j∈fU o→B.testBit j=true)
  (hqc: ∀i o,q.testBit i=true→ops[i]? =some o→ ∀j,j∈fU o→(B.testBit j=true∨q.testBit j=true))(hnot:((bK ops.length).all fun i=>B.testBit i||q.testBit i)=false):
  ∃d t sub,(d,t,sub)∈c.brs∧(∀i,d.testBit i=(q.testBit i&&decide (i<ops.length)))∧ ∀o,ops[t]? =some o→ ∀j,j∈fU o→(B.testBit j=true∨d.testBit j=true):=by
 have: ∃i,i<ops.length∧B.testBit i=false∧q.testBit i=false∧ ∀j,j<i→B.testBit j=true∨q.testBit j=true:=by
  rw[List.all_eq_false]at hnot;obtain⟨i,hi,hn⟩:=hnot;rw[cS]at hi;simp only[eV,not_or,Bool.not_eq_true]at hn;induction i using lG with
  |_ i ih=>
   by_cases hl: ∀j,j<i→B.testBit j=true∨q.testBit j=true
   ·exact⟨i,hi,hn.1,hn.2,hl⟩
   ·have: ∃j,j<i∧B.testBit j=false∧q.testBit j=false:=by
     apply Classical.byContradiction;intro hno;apply hl;intro j hj;cases hb:B.testBit j with
     |true=>exact bP rfl
     |false=>
      cases hq:q.testBit j with
      |true=>exact bw rfl
      |false=>exact absurd ⟨j,hj,hb,hq⟩ hno
    obtain⟨j,hj,h1,h2⟩:=this;exact ih j hj aJ ⟨h1,h2⟩
 obtain⟨i,hi,h1,h2,h3⟩:=this;have ho:=az hi;obtain⟨d,sub,h4,h5⟩:=Tz (D:=fun j=>q.testBit j&&decide (j<ops.length)) aGM K (fun j hj=>by simp at hj;exact hj.1) (fun j hj=>by simp at hj;exact hj.2)
  (fun a b hab hb j hj=>by
   have hal:a<ops.length:=(aU.1 hb).1;have hjl:j<ops.length:=DM (K.back a b hb j hj) hal;rcases hab with h|h
   ·exact bP (Y2 a b h hb j hj)
   ·simp at h;rcases hqc a b h.1 hb j hj with h|h
    ·exact bP h
    ·exact bw (by simp[h,hjl])) ho h1 h2 (fun j hj=>by
   have hji:=K.back i _ ho j hj;rcases h3 j hji with h|h
   ·exact bP h
   ·exact bw (by simp[h];omega))
 refine⟨d,i,sub,h4,h5,fun o ho' j hj=> ?_⟩;have hji:=K.back i _ ho' j hj;rcases h3 j hji with h|h
 ·exact bP h
 ·exact bw (by rw[h5 j,h];simp;omega)
theorem VG{B d t q:Nat}(K:PhX ops qs B q)(Y2: ∀i o,B.testBit i=true→ops[i]? =some o→ ∀j,j∈fU o→B.testBit j=true)(hd: ∀i o,d.testBit i=true→ops[i]? =some o→ ∀j,j∈fU o→(B.testBit j=true∨d.testBit j=true))
  (ht: ∀o,ops[t]? =some o→ ∀j,j∈fU o→(B.testBit j=true∨d.testBit j=true)): ∀i o,(B|||d|||2^t).testBit i=true→ops[i]? =some o→ ∀j,j∈fU o→(B|||d|||2^t).testBit j=true:=by
 intro i o hi ho j hj;simp only[uJ,ry,eV,decide_eq_true_eq]at hi ⊢;rcases hi with(h|h)|h
 ·exact bP (bP (Y2 i o h ho j hj))
 ·exact bP (hd i o h ho j hj)
 ·subst h;exact bP (ht o ho j hj)
theorem P6: ∀(N:Nat) (p:nE),pW p≤N→p.amc=true→ ∀(B:Nat) (s:St) (tr:List TE) (vq acc:List (Nat×List Prop)) (lv:List (List Prop×St)),(∀i o,ops[i]? =some o→ ∀j,j∈fU o→j<i)→(∀i o,B.testBit i=true→ops[i]? =some o→ ∀j,j∈fU o→B.testBit j=true)→
  okX ops (Ve ops) (idx 0 ops) qs ops.length B p=true→qE P ty Γ iD cr ks hs ops n0 p s tr vq acc=some lv→lv≠ []
 |N, .last q,_,_,B,s,tr,vq,acc,lv,hb,Y2,hok,h=>by
  simp only[qE]at h
  repeat' split at h
  all_goals first
   | (cases h;done)
   |skip
  simp only[oI]at h;rw[←h];simp
 |0, .ph q c,hN,_,_,_,_,_,_,_,_,_,_,_=>by simp only[nE.ph.sizeOf_spec]at hN;omega
 |N+1, .ph q c,hN,_,B,s,tr,vq,acc,lv,hb,Y2,hok,h=>by
  simp only[okX,an,bO]at hok;have K:=VF hb hok.1.1.1;obtain⟨d,t,sub,hm,hd,ht⟩:=aeY hok.1.1.2 K Y2 K.clq hok.1.2;simp only[qE]at h;split at h
  case h_2=>cases h
  rename_i tr' vq' hr;obtain⟨o,vc,s2,l1,h1,h2,h3,h4⟩:=yN h d t sub hm;obtain⟨p1,p2,p3,p4⟩:=Fi hok.2 d t sub hm;have hsz:pW sub≤N:=by simp only[nE.ph.sizeOf_spec]at hN;omega
  have:=P6 N sub hsz p1 (B|||d|||2^t) s2 [] [] _ l1 hb (VG K Y2 (fun i o hi ho j hj=>by
   rw[hd i]at hi;simp only[an,decide_eq_true_eq]at hi;rcases K.clq i o hi.1 ho j hj with h|h
   ·exact bP h
   ·exact bw aBy) ht) p3 h3
  intro hnil;cases l1 with
  |nil=>exact this rfl
  |cons x r=>have:=h4 x fI;rw[hnil]at this;cases this
 |_, .br _ _ _ _,_,hp,_,_,_,_,_,_,_,_,_,_=>by cases hp
 |_, .nil,_,hp,_,_,_,_,_,_,_,_,_,_=>by cases hp
variable{zb:fG}{Q:Exit→Act→World→Prop}
theorem TA(X:Ctx P ty Γ){B q:Nat}{s:St}{tr:List TE}{vq:List (Nat×List Prop)}(T:TrX Γ (Elt P ty) (Sound ty P) iD cr ops q s tr vq)(K:PhX ops qs B q)(hv: ∀x,x∈vq→q.testBit x.1=true→x.1<ops.length→ ∀p,p∈x.2→p)(Y2: ∀i o,B.testBit i=true→ops[i]? =some o→ ∀j,j∈fU o→B.testBit j=true)
  (fin: ∀a w,(∀i,i<ops.length→B.testBit i=true∨q.testBit i=true)→Inv ty zb (lu (fun j=>q.testBit j) tr s ops.length) a w→Q .normal a w)
  (oR: ∀(fuel:Nat) (D:Nat→Bool) (listed:Array Bool) (i:Nat) (o:Oper) (a:Act) (w:World),listed.size=ops.length→(∀j,j<ops.length→listed.getD j false=(B.testBit j||D j))→(∀i,D i=true→q.testBit i=true)→(∀i,D i=true→i<ops.length)→
   (∀i o,(B.testBit i=true∨D i=true)→ops[i]? =some o→ ∀j,j∈fU o→(B.testBit j=true∨D j=true))→ops[i]? =some o→B.testBit i=false→q.testBit i=false→(∀j,j∈fU o→(B.testBit j=true∨D j=true))→cnt ops.length (fun j=>(listed.setIfInBounds i true).getD j false)≤fuel→
   Inv ty zb (lu D tr s ops.length) a w→oJ P ops.toArray o a w (wpAny P .any ops.toArray Q fuel (listed.setIfInBounds i true)) Q):
  ∀(fuel:Nat) (D:Nat→Bool) (listed:Array Bool) (a:Act) (w:World),listed.size=ops.length→(∀j,j<ops.length→listed.getD j false=(B.testBit j||D j))→(∀i,D i=true→q.testBit i=true)→(∀i,D i=true→i<ops.length)→
   (∀i o,(B.testBit i=true∨D i=true)→ops[i]? =some o→ ∀j,j∈fU o→(B.testBit j=true∨D j=true))→cnt ops.length (fun j=>listed.getD j false)≤fuel→Inv ty zb (lu D tr s ops.length) a w→wpAny P .any ops.toArray Q fuel listed a w:=by
 have all: ∀{D:Nat→Bool} {listed:Array Bool} {a:Act} {w:World},listed.size=ops.length→(∀j,j<ops.length→listed.getD j false=(B.testBit j||D j))→(∀i,D i=true→q.testBit i=true)→yG .any ops.toArray listed= []→Inv ty zb (lu D tr s ops.length) a w→Q .normal a w:=by
  intro D listed a w hl hL CX hnil iv;have aGN: ∀i,i<ops.length→listed.getD i false=true:=by
   intro i;induction i using lG with
   |_ i ih=>
    intro hi;cases hd:listed.getD i false with
    |true=>rfl
    |false=>
     have:i∈yG .any ops.toArray listed:=(KQ hl).2 ⟨ops[i],az hi,hd,fun j hj=>by
      have:=K.back i _ (az hi) j hj;exact ih j this aJ⟩
     rw[hnil]at this;cases this
  have hBD: ∀i,i<ops.length→B.testBit i=true∨D i=true:=by
   intro i hi;have:=aGN i hi;rw[hL i hi,eV]at this;exact this
  refine fin a w (fun i hi=>(hBD i hi).imp id (CX i)) ?_;rw[←Lg (D:=D) fun i hi=> ?_]
  ·exact iv
  ·cases hq:q.testBit i with
   |false=>
    cases hd:D i with
    |false=>rfl
    |true=>rw[CX i hd]at hq;cases hq
   |true=>
    rcases hBD i hi with h|h
    ·rw[K.tN i hi hq]at h;cases h
    ·exact h
 intro fuel;induction fuel with
 |zero=>
  intro D listed a w hl hL CX hDm Xg hf iv;have hz:=alx (by omega:cnt ops.length (fun i=>listed.getD i false)=0);have hnil:yG .any ops.toArray listed= []:=by
   apply List.eq_nil_iff_forall_not_mem.2;intro i hi;obtain⟨o,ho,h1,_⟩:=(KQ hl).1 hi;rw[hz i (aU.1 ho).1]at h1;cases h1
  exact⟨hnil,all hl hL CX hnil iv⟩
 |succ fuel ih=>
  intro D listed a w hl hL CX hDm Xg hf iv;refine⟨fun hnil=>all hl hL CX hnil iv,fun i hi=> ?_⟩;obtain⟨o,ho,hif,hE0⟩:=(KQ hl).1 hi;have hin:=(aU.1 ho).1;have hE: ∀j,j∈fU o→(B.testBit j=true∨D j=true):=by
   intro j hj;have:=hE0 j hj;rw[hL j (by have:=K.back i o ho j hj;omega),eV]at this;exact this
  rw[hL i hin,jI]at hif;obtain⟨hBi,Y0⟩:=hif;have aDL: ∀j,(listed.setIfInBounds i true).getD j false=(listed.getD j false||j==i):=fun j=>Yy aJ;have hfun:(fun j=>(listed.setIfInBounds i true).getD j false)=fun j=>listed.getD j false||j==i:=funext aDL
  have asL:cnt ops.length (fun j=>(listed.setIfInBounds i true).getD j false)≤fuel:=by
   rw[hfun];have:=asb (D:=fun i=>listed.getD i false) hin (by rw[hL i hin,hBi,Y0];rfl);omega
  unfold wpOp;rw[uY,ho];dsimp only;cases N5:q.testBit i with
  |true=>
   have hstep:=acz (Q:=Q) X.kind T K hv CX hDm Xg N5 Y0 ho hE iv;refine oJ.mono (fun a' w' zu=>ih (fun j=>D j||j==i) (listed.setIfInBounds i true) a' w' ag8 (fun j hj=> ?_) (fun j hj=> ?_) (fun j hj=> ?_) (fun a b hab hb j hj=> ?_) asL zu) hstep
   ·rw[aDL,hL j hj,Bool.or_assoc]
   ·simp only[eV,beq_iff_eq]at hj;rcases hj with h|rfl
    ·exact CX j h
    ·exact N5
   ·simp only[eV,beq_iff_eq]at hj;rcases hj with h|rfl
    ·exact hDm j h
    ·exact hin
   ·have up: ∀{x},(B.testBit x=true∨D x=true)→(B.testBit x=true∨(D x||x==i)=true):=fun h=>h.imp id (fun h=>by simp[h]);simp only[eV,beq_iff_eq]at hab;rcases hab with h|h|rfl
    ·exact up (Xg a b (bP h) hb j hj)
    ·exact up (Xg a b (bw h) hb j hj)
    ·rw[ho]at hb;simp only[oI]at hb;subst hb;exact up (hE j hj)
  |false=>exact oR fuel D listed i o a w hl hL CX hDm Xg ho hBi N5 hE asL iv
theorem Y3(X:Ctx P ty Γ)(hb: ∀i o,ops[i]? =some o→ ∀j,j∈fU o→j<i): ∀(N:Nat) (p:nE),pW p≤N→p.amc=true→ ∀(B:Nat) (s:St) (tr0:List TE) (vq0 acc:List (Nat×List Prop)) (lv:List (List Prop×St)),
  (∀i o,B.testBit i=true→ops[i]? =some o→ ∀j,j∈fU o→B.testBit j=true)→okX ops (Ve ops) (idx 0 ops) qs ops.length B p=true→qE P ty Γ iD cr ks hs ops n0 p s tr0 vq0 acc=some lv→
  (∀x,x∈lv→(∀q,q∈x.1→q)∧ ∀a w,Inv ty zb x.2 a w→Q .normal a w)→
  ∀(fuel:Nat) (listed:Array Bool) (a:Act) (w:World),listed.size=ops.length→(∀j,j<ops.length→listed.getD j false=B.testBit j)→cnt ops.length (fun j=>listed.getD j false)≤fuel→Inv ty zb s a w→wpAny P .any ops.toArray Q fuel listed a w
 |N, .last q,hN,_,B,s,tr0,vq0,acc,lv,Y2,hok,h,hlv,fuel,listed,a,w,hl,hL,hf,iv=>by
  simp only[okX,an]at hok;have K:=VF hb hok.1;simp only[qE]at h;split at h
  case h_2=>cases h
  rename_i tr vq hr;split at h
  case h_2=>cases h
  rename_i n sl1 kY hs1;have hs1:=vP hs1;split at h
  case h_2=>cases h
  rename_i sl hp vc h1 h2 h3;split at h
  case h_2=>cases h
  rename_i hcl hn;simp only[oI]at h;have T:=TrX.of hr;obtain⟨hx1,hx2⟩:=hlv (vc,⟨n0,sl,hp⟩) (by rw[←h];simp);have hmk:lu (fun j=>q.testBit j) tr s ops.length=⟨n,sl1,kY⟩:=by
   rw[hs1,IM,T.len];congr 1;funext j;rw[dB]
  refine TA X T K (fun x hx hq _ p hp=>hx1 p (Lf h3 x (Ad.2 (bP ⟨hx,hq⟩)) p hp)) Y2 (fun a w _ zu=> ?_) (fun fuel D listed i o a w _ _ _ _ _ ho hBi N5 _ _ _=> ?_) fuel (fun _=>false) listed a w hl (fun j hj=>by rw[hL j hj,Be]) fI fI (fun i o hi ho j hj=>by
    rcases hi with h|h
    ·exact bP (Y2 i o h ho j hj)
    ·cases h) hf (by rw[P4];exact iv)
  ·rw[hmk]at zu;exact hx2 a w (zu.weaken (aG hn).symm (rq h1) (ru h2) hcl)
  ·exfalso;have hil:=(aU.1 ho).1;have:=bE.1 hok.2 i (cS.2 hil);rw[hBi,N5]at this;cases this
 |0, .ph q c,hN,_,_,_,_,_,_,_,_,_,_,_,_,_,_,_,_,_,_,_=>by simp only[nE.ph.sizeOf_spec]at hN;omega
 |N+1, .ph q c,hN,_,B,s,tr0,vq0,acc,lv,Y2,hok,h,hlv,fuel,listed,a,w,hl,hL,hf,iv=>by
  simp only[okX,an,bO]at hok;have K:=VF hb hok.1.1.1;obtain⟨d,t,sub,hm,hd,ht⟩:=aeY hok.1.1.2 K Y2 K.clq hok.1.2;simp only[qE]at h;split at h
  case h_2=>cases h
  rename_i tr vq hr;have T:=TrX.of hr;have hv: ∀x,x∈vq→q.testBit x.1=true→x.1<ops.length→ ∀p,p∈x.2→p:=by
   obtain⟨o,vc,s2,l1,h1,h2,h3,h4⟩:=yN h d t sub hm;obtain⟨p1,p2,p3,p4⟩:=Fi hok.2 d t sub hm;have hsz:pW sub≤N:=by simp only[nE.ph.sizeOf_spec]at hN;omega
   have hne:=P6 N sub hsz p1 (B|||d|||2^t) s2 [] [] _ l1 hb (VG K Y2 (fun i o hi ho j hj=>by
    rw[hd i]at hi;simp only[an,decide_eq_true_eq]at hi;rcases K.clq i o hi.1 ho j hj with h|h
    ·exact bP h
    ·exact bw aBy) ht) p3 h3
   cases l1 with
   |nil=>exact absurd rfl hne
   |cons x r=>
    intro y hy hq hyl p hp;exact(hlv x (h4 x fI)).1 p (Ae h3 x fI y (DK.2 (bw (Ad.2 (bP ⟨hy,by rw[hd y.1,hq];simp[hyl]⟩)))) p hp)
  refine TA X T K hv Y2 (fun a w hall _=> ?_) (fun fuel D listed i o a w hl hL CX hDm Xg ho hBi N5 hE asL zu=> ?_) fuel (fun _=>false) listed a w hl (fun j hj=>by rw[hL j hj,Be]) fI fI (fun i o hi ho j hj=>by
    rcases hi with h|h
    ·exact bP (Y2 i o h ho j hj)
    ·cases h) hf (by rw[P4];exact iv)
  ·exfalso;have:((bK ops.length).all fun i=>B.testBit i||q.testBit i)=true:=by
    rw[bE];intro i hi;rw[eV];exact hall i (cS.1 hi)
   rw[hok.1.2]at this;cases this
  ·obtain⟨d,sub,hm,hd⟩:=Tz hok.1.1.2 K CX hDm Xg ho hBi N5 hE;obtain⟨o',vc,s2,l1,h1,h2,h3,h4⟩:=yN h d i sub hm;rw[ho]at h1;simp only[oI]at h1;subst h1;obtain⟨p1,p2,p3,p4⟩:=Fi hok.2 d i sub hm;have hsz:pW sub≤N:=by simp only[nE.ph.sizeOf_spec]at hN;omega
   have hmk:YX d 0 tr s=lu D tr s ops.length:=by
    rw[IM,T.len];exact Lg fun j _=>by rw[dB];exact hd j
   rw[hmk]at h2;have aDM:=VG (d:=d) (t:=i) K Y2 (fun i o hi ho j hj=>by
    rw[hd i]at hi;rw[hd j];exact Xg i o (bw hi) ho j hj) (fun o2 ho2 j hj=>by
    rw[ho]at ho2;simp only[oI]at ho2;subst ho2;rw[hd j];exact hE j hj)
   have hne:=P6 N sub hsz p1 (B|||d|||2^i) s2 [] [] _ l1 hb aDM p3 h3;have hvc: ∀p,p∈vc→p:=by
    cases l1 with
    |nil=>exact absurd rfl hne
    |cons x r=>
     intro p hp;exact(hlv x (h4 x fI)).1 p (Ae h3 x fI (i,vc) (DK.2 (bP rfl)) p hp)
   have hstep:=Fb (Q:=Q) X.kind X.one h2 zu hvc;refine oJ.mono (fun a' w' iv2=>Y3 X hb N sub hsz p1 (B|||d|||2^i) s2 [] [] _ l1 aDM p3 h3 (fun x hx=>hlv x (h4 x hx)) fuel (listed.setIfInBounds i true) a' w' ag8 (fun j hj=> ?_) asL iv2) hstep;have hin:=(aU.1 ho).1;rw[Yy aJ,hL j hj];simp only[uJ,ry,hd j];by_cases hji:j=i
   ·subst hji;simp
   ·have: ¬i=j:=fun e=>hji e.symm;simp[hji,this]
 |_, .br _ _ _ _,_,hp,_,_,_,_,_,_,_,_,_,_,_,_,_,_,_,_,_,_=>by cases hp
 |_, .nil,_,hp,_,_,_,_,_,_,_,_,_,_,_,_,_,_,_,_,_,_=>by cases hp
end
def TB(x:List Prop×St):List (List Prop×St)→Prop
 | []=>True
 |y::r=>y=x∧TB x r
theorem TB.out{x:List Prop×St}: ∀{l:List (List Prop×St)},TB x l→ ∀y,y∈l→y=x
 |_::_,h,y,hy=>by
  rcases bh.1 hy with rfl|hy
  ·exact h.1
  ·exact TB.out h.2 y hy
section
variable{P:Program}{Γ:Nat→TK}{zb:fG}{Q:Post}{st:St}
theorem ame(X:Ctx P ty Γ)(iD:List (Nat×Nat))(cr:List (Nat×CR))(ks hs:List Nat)(qs:Nat)(pl:nE){ops:List Oper}{rest:List (List Prop×St)}(hm:P.follows .mixedOrders=true)(hc:amd ops qs pl=true)(h:qE P ty Γ iD cr ks hs ops st.n pl st [] [] []=some ((vc,st')::rest))(he:TB (vc,st') rest)(hv:tH vc)(k:Q .normal st'):
  W P ty zb (.region id ops.toArray true) Q st:=by
 intro a w iv;simp only[amd,an]at hc;have hb:=aDC hc.1.1;refine wp_region_any hm ?_;have hz: ∀i,(Array.replicate ops.toArray.size false).getD i false=false:=by
  intro i;rw[ak,Array.getElem?_replicate];split<;>rfl
 refine Y3 (zb:=zb) (Q:=No ty zb Q) X hb _ pl (aS _) hc.1.2 0 st [] [] [] _ (fun i o hi=>by simp at hi) hc.2 h (fun x hx=> ?_) _ _ a _ fI (fun j hj=>by rw[hz];simp) ?_ ?_
 ·have hx:x=(vc,st'):=by
   rcases bh.1 hx with rfl|hx
   ·rfl
   ·exact he.out x hx
  subst hx;exact⟨hv.out,fun a w zu=>⟨st',zu,k⟩⟩
 ·unfold cnt;refine cB (List.length_filter_le _ _) ?_;simp
 ·obtain⟨env,g⟩:=iv.good;have hdr:Below w.heap.size w w.drew:=(Below.refl _ _).drew;refine⟨iv.size,iv.defers,iv.kept.trans (qZ hdr iv.kept.size),iv.Nf,env,?_⟩;have:=g.grow (os:= []) (w':=w.drew) (env':=env) iv.kept.size rfl (tX.none hdr);exact this
end
section
variable{P:Program}{Γ:Nat→TK}{zb:fG}{Q:Post}{st:St}
theorem amf(X:Ctx P ty Γ)(iD:List (Nat×Nat))(cr:List (Nat×CR))(ks hs:List Nat)(qs:Nat)(pl:nE)(nw:Nat){ops:List Oper}(hm:P.follows .mixedOrders=true)(hc:amd ops qs pl=true)(_h0:G.reg P ty Γ iD cr ks hs ops st=some (vc,st'))(h:qE P ty Γ iD cr ks hs ops st.n pl st [] [] []=some ((vc,st')::ew nw (vc,st')))(hv:tH vc)(k:Q .normal st'):
  W P ty zb (.region id ops.toArray true) Q st:=by
 refine ame X iD cr ks hs qs pl hm hc h ?_ hv k;have: ∀n,TB (vc,st') (ew n (vc,st')):=by
  intro n;induction n with
  |zero=>trivial
  |succ n ih=>exact⟨rfl,ih⟩
 exact this nw
def hasB(B:Nat)(es:List Nat):Bool:=es.all fun j=>B.testBit j
def mkQ(B qs:Nat):List (Nat×List Nat)→Nat→Nat
 | [],q=>q
 | (i,es)::r,q=>match !B.testBit i&&qs.testBit i&&hasB (B|||q) es with
   |true=>mkQ B qs r (q|||2^i)
   |false=>mkQ B qs r q
def enD(B q clt:Nat):List (Nat×List Nat)→Nat→List Nat
 | [],d=> [d]
 | (i,es)::r,d=>match q.testBit i with
   |false=>enD B q clt r d
   |true=>(match hasB (B|||d) es with|true=>enD B q clt r (d|||2^i)|false=> [])++(match clt.testBit i with|true=> []|false=>enD B q clt r d)
def mkB(f:Nat→nE)(B q:Nat)(E:List (Nat×List Nat))(cl:List Nat):List (Nat×List Nat)→nE
 | []=> .nil
 | (t,es)::r=>match(B|||q).testBit t with
   |true=>mkB f B q E cl r
   |false=>((enD B q (cl.getD t 0) E 0).filter fun d=>hasB (B|||d) es).foldr (fun d p=> .br d t (f (B|||d|||2^t)) p) (mkB f B q E cl r)
def mkP(E:List (Nat×List Nat))(cl:List Nat)(qs full:Nat):Nat→Nat→nE
 |0,_=> .nil
 |k+1,B=>match mkQ B qs E 0 with
  |q=>match bH (B|||q) full with
   |true=> .last q
   |false=> .ph q (mkB (mkP E cl qs full k) B q E cl E)
def P7(ops:List Oper)(qs:Nat):nE:=mkP ((idx 0 ops).map fun e=>(e.1,fU e.2)) (Ve ops) qs (2^ops.length-1) (ops.length+1) 0
theorem cu(X:Ctx P ty Γ)(iD:List (Nat×Nat))(cr:List (Nat×CR))(ks hs:List Nat)(qs:Nat)(nw:Nat){ops:List Oper}(hm:P.follows .mixedOrders=true)(hc:amd ops qs (P7 ops qs)=true)(h0:G.reg P ty Γ iD cr ks hs ops st=some (vc,st'))(h:qE P ty Γ iD cr ks hs ops st.n (P7 ops qs) st [] [] []=some ((vc,st')::ew nw (vc,st')))(hv:tH vc)(k:Q .normal st'):
  W P ty zb (.region id ops.toArray true) Q st:=amf X iD cr ks hs qs (P7 ops qs) nw hm hc h0 h hv k
theorem cT(X:Ctx P ty Γ)(cr:List (Nat×CR))(ks:List Nat)(qs:Nat){ops:List Oper}(h0:G.reg P ty Γ [] cr ks [] ops st=some (vc,st'))(hv:tH vc)(k:Q .normal st')(hm:P.follows .mixedOrders=true:=by exact MO)(hc:amd ops qs (P7 ops qs)=true:=by kernel_rfl)(h:qE P ty Γ [] cr ks [] ops st.n (P7 ops qs) st [] [] []=some ((vc,st')::ew 0 (vc,st')):=by kernel_rfl):W P ty zb (.region id ops.toArray true) Q st:=cu X [] cr ks [] qs 0 hm hc h0 h hv k
end
end
end Go.Proofs.YtaalpcnbbldlaaaGreatDoor.G
