/-
  A slice of the call's own, without elements, becomes one whose elements' memory is others'.
-/
import Derived.Orders
import Derived.Test.YtkcegdacbddipaaGreatV8
namespace Go.Proofs.YtkcegdacbddipaaGreat.G
set_option linter.all false
open Go.RowKit L D
section
variable{ty:Tag→Nat}
structure TE where
 d:Nat
 v:SV
 os:Hp
def app(s:St)(e:TE):St:=⟨s.n,(e.d,e.v)::s.sl,e.os++s.hp⟩
def bZ(o:Oper):List Nat:=o.after.toList.filterMap fun e=>if Region.binds .any e then some e.on else none
def gT(acc:List Nat)(o:Oper):List Nat:=acc++ [(bZ o).foldl (fun s j=>s|||2^j|||acc.getD j 0) 0]
def Gy(ops:List Oper):List Nat:=ops.foldl gT []
def tmpsOf(o:Oper):List Nat:=o.op.operands.toList.filterMap fun| .tmp t=>some t|_=>none
def Mt(o:Oper)(t:Nat):Bool:=match o.dst with|some d=>Nat.beq d t|none=>false
def idx{α:Type}:Nat→List α→List (Nat×α)
 |_,[]=> []
 |i,x::r=>(i,x)::idx (i+1) r
end
section
variable{ty:Tag→Nat}
def Compat(hp gq:Hp):Prop:= ∀n o o',look hp n=some o→look gq n=some o'→o=o'
section
variable{zb:cm}{st T:St}{a:Act}{w:World}{env:Env}
theorem IK(c:Compat st.hp T.hp){tg:Option Tag}{v x:V}{u:Value}(hr:RA w T.hp env v u)(h:mH st tg v=some x):mH T tg v=some x:=by
 cases v with
 |own n=>
  obtain⟨⟨t,l,hl⟩,_⟩:=hr
  simp only[mH]at h ⊢
  split at h
  ·rename_i t' l' hl'
   have:=c n _ _ hl' hl
   simp only[Obj.arr.injEq]at this
   obtain⟨rfl,jV⟩:=this
   rw[hl]
   simp only[←eq_of_heq jV]
   exact h
  ·cases h
 |sl t l=>exact h
 |vw n p t l=>exact h
 |mix n c t l=>exact h
 |tG n=>
  obtain⟨⟨t,l,s,hl⟩,_⟩:=hr
  simp only[mH]at h ⊢
  split at h
  ·rename_i t' l' hl'
   have:=c n _ _ hl' hl
   rw[←this]at hl
   rw[hl];exact h
  ·rename_i t' l' m hl'
   have:=c n _ _ hl' hl
   rw[←this]at hl
   rw[hl];exact h
  ·cases h
 |lit v=>
  have e:mH T tg (.lit v)=mH st tg (.lit v):=by
   cases v with
   |slice a n c=>cases a<;>cases n<;>cases c<;>rfl
   |_=>rfl
  rw[e];exact h
 |_=>simp[mH]at h
theorem Fc(c:Compat st.hp T.hp): ∀{vs:List V} {tg:List (Option Tag)} {xs:List V} {us:List Value},bA (RA w T.hp env) vs us→HY st tg vs=some xs→HY T tg vs=some xs
 | [],_,xs,us,_,h=>h
 |v::r,tg,xs,us,hr,h=>by
  cases us with
  |nil=>exact hr.elim
  |cons u us=>
   simp only[HY]at h ⊢
   split at h
   ·rename_i x y h1 h2
    rw[IK c hr.1 h1,Fc c hr.2 h2]
    exact h
   ·cases h
theorem Ot(c:Compat st.hp T.hp){k:TK}{v x:S1}{u:Value}(hr:eT w T.hp env v u)(h:arg1 st k v=some x):arg1 T k v=some x:=by
 cases v with
 |a v=>
  simp only[arg1]at h ⊢
  split at h
  ·rename_i y hy
   rw[IK c hr hy]
   exact h
  ·cases h
 |agg l=>
  obtain⟨cs,_,hl⟩:=hr
  simp only[arg1]at h ⊢
  split at h
  ·rename_i y hy
   rw[Fc c hl hy]
   exact h
  ·cases h
theorem xe{p:List (Nat×Bool)}{x:Operand}(hs: ∀t,x= .tmp t→look st.sl t=look T.sl t):Km st p x=Km T p x:=by
 cases x with
 |tmp t=>simp only[Km,hs t rfl]
 |_=>rfl
theorem CU{p:List (Nat×Bool)}{x:Operand}(hs: ∀t,x= .tmp t→look st.sl t=look T.sl t):ff st p x=ff T p x:=by
 unfold ff
 rw[xe hs]
theorem Ou{b:Bool}(c:Compat st.hp T.hp){k:TK}{v x:S1}{u:Value}(hr:eT w T.hp env v u)(h:N0 b st k v=some x):N0 b T k v=some x:=by
 unfold N0 at h ⊢
 split at h
 ·exact h
 ·exact Ot c hr h
theorem za{b:Bool}{Γ:Nat→TK}(c:Compat st.hp T.hp)(g:Good ty zb T a.tmps w env){p:List (Nat×Bool)}(hp:holds a.tmps p): ∀{xs:List Operand} {ts:List Nat} {as:List S1},(∀x,x∈xs→ ∀t,x= .tmp t→look st.sl t=look T.sl t)→args b Γ st p xs ts=some as→args b Γ T p xs ts=some as
 | [],_,as,_,h=>h
 |x::r,ts,as,hs,h=>by
  simp only[args]at h ⊢
  rw[←CU (st:=st) (T:=T) (hs x (by simp))]
  split at h
  ·rename_i v hv
   split at h
   ·rename_i y ys h1 h2
    have hr:=dB g hp (by rw[←CU (hs x (by simp))];exact hv)
    rw[Ou c hr h1,za c g hp (fun z hz=>hs z (List.mem_cons_of_mem _ hz)) h2]
    exact h
   ·cases h
  ·cases h
theorem K0(c:Compat st.hp T.hp){k:TK}{v:V}{u:Value}{n:Int}(hr:RA w T.hp env v u)(h:lenOf st k v=some n):lenOf T k v=some n:=by
 cases v with
 |own m=>
  obtain⟨⟨t,l,hl⟩,_⟩:=hr
  simp only[lenOf]at h ⊢
  split at h
  ·split at h
   ·rename_i t' l' hl'
    have:=c m _ _ hl' hl
    simp only[Obj.arr.injEq]at this
    obtain⟨rfl,jV⟩:=this
    rw[hl]
    simp only[←eq_of_heq jV]
    exact h
   ·cases h
  ·cases h
 |sl t l=>exact h
 |vw n p t l=>exact h
 |lit v=>
  have e:lenOf T k (.lit v)=lenOf st k (.lit v):=by
   cases v with
   |slice a n c=>cases a<;>cases n<;>cases c<;>rfl
   |_=>rfl
  rw[e];exact h
 |_=>simp[lenOf]at h
theorem Gz(c:Compat st.hp T.hp){v:V}{u:Value}(hr:RA w T.hp env v u){l:List UInt8}(h:bytesOf st v=some l):bytesOf T v=some l:=by
 cases v with
 |own n=>
  obtain⟨⟨t,l2,lO⟩,_⟩:=hr
  simp only[bytesOf]at h ⊢
  split at h
  ·rename_i l3 Qr
   simp only[oI]at h
   subst h
   have:=c n _ _ Qr lO
   simp only[Obj.arr.injEq]at this
   obtain⟨rfl,jV⟩:=this
   rw[lO]
   simp only[eq_of_heq jV]
  ·cases h
 |sl t l=>
  have e:bytesOf T (.sl t l)=bytesOf st (.sl t l):=by cases t<;>rfl
  rw[e];exact h
 |vw n p t l=>
  have e:bytesOf T (.vw n p t l)=bytesOf st (.vw n p t l):=by cases t<;>rfl
  rw[e];exact h
 |lit v=>
  have e:bytesOf T (.lit v)=bytesOf st (.lit v):=by
   cases v with
   |slice a n c=>cases a<;>cases n<;>cases c<;>rfl
   |_=>rfl
  rw[e];exact h
 |_=>simp[bytesOf]at h
theorem AK{p:List (Nat×Bool)}{g:Tag}: ∀{xs:List (Nat×Operand)} {i:Nat},(∀x,x∈xs→ff st p x.2=ff T p x.2)→ou st p g i xs=ou T p g i xs
 | [],_,_=>rfl
 | (j,x)::r,i,h=>by
   simp only[ou]
   rw[h (j,x) (by simp),AK (fun y hy=>h y (List.mem_cons_of_mem _ hy))]
theorem CV{p:List (Nat×Bool)}{n:Nat}{fo:List Nat}: ∀{xs:List (Nat×Operand)} {c:List V},(∀x,x∈xs→Km st p x.2=Km T p x.2)→qL st p n fo xs c=qL T p n fo xs c
 | [],_,_=>rfl
 | (j,x)::r,c,h=>by
   simp only[qL]
   rw[h (j,x) (by simp)]
   have: ∀c',qL st p n fo r c'=qL T p n fo r c':=fun c'=>CV (fun y hy=>h y (List.mem_cons_of_mem _ hy))
   simp only[this]
theorem vo{p:List (Nat×Bool)}: ∀{xs:List Operand},(∀x,x∈xs→ff st p x=ff T p x)→wz st p xs=wz T p xs
 | [],_=>rfl
 |x::r,h=>by
  simp only[wz,N1]
  rw[h x (by simp),vo (fun y hy=>h y (List.mem_cons_of_mem _ hy))]
theorem tU(c:Compat st.hp T.hp){v:V}{u:Value}(hr:RA w T.hp env v u){n:Nat}(hn:v.name=some n){o:Obj}(h:look st.hp n=some o):look T.hp n=some o:=by
 have: ∃o',look T.hp n=some o':=by
  cases v<;>simp only[V.name,oI,reduceCtorEq]at hn
  case own m=>subst hn;obtain⟨⟨t,l,hl⟩,_⟩:=hr;exact⟨_,hl⟩
  case ptr m off=>subst hn;obtain⟨⟨c,hl⟩,_⟩:=hr;exact⟨_,hl⟩
  case mG m i off=>subst hn;obtain⟨t,l,hl,_⟩:=hr;exact⟨_,hl⟩
  case vw m p t l=>subst hn;obtain⟨⟨t,l,hl⟩,_⟩:=hr;exact⟨_,hl⟩
  case Ei m t l=>subst hn;obtain⟨⟨t,l,hl⟩,_⟩:=hr;exact⟨_,hl⟩
  case mix m c t l=>subst hn;obtain⟨⟨t,l,hl⟩,_⟩:=hr;exact⟨_,hl⟩
  case tG m=>subst hn;obtain⟨⟨t,l,s,hl⟩,_⟩:=hr;exact⟨_,hl⟩
  case Bt f m=>subst hn;obtain⟨⟨c,hl⟩,_⟩:=hr;exact⟨_,hl⟩
  case Eh m p t x off=>subst hn;obtain⟨⟨t,l,hl⟩,_⟩:=hr;exact⟨_,hl⟩
 obtain⟨o',h'⟩:=this
 rw[c n _ _ h h'];exact h'
theorem zc(c:Compat st.hp T.hp): ∀{l d:List V} {n:Nat} {us:List Value},bA (RA w T.hp env) l us→vg st.hp l=some (d,n)→vg T.hp l=some (d,n)
 | [],_,_,_,_,h=>by simp[vg]at h
 |v::r,d,n,us,hr,h=>by
  cases us with
  |nil=>exact hr.elim
  |cons u us=>
   unfold vg at h
   split at h
   ·rename_i m r' he
    simp only[List.cons.injEq]at he
    obtain⟨rfl,rfl⟩:=he
    split at h
    ·rename_i t l hl mK
     have:=tU c hr.1 (n:=m) rfl hl
     simp only[vg,this,mK]
     exact h
    ·cases h
   ·rename_i m pp t l r' he
    simp only[List.cons.injEq]at he
    obtain⟨rfl,rfl⟩:=he
    split at h
    ·rename_i t0 l0 hl mK
     have:=tU c hr.1 (n:=m) rfl hl
     simp only[vg,this,mK]
     exact h
    ·cases h
   ·cases h
   ·rename_i x r' Kp he
    simp only[List.cons.injEq]at he
    obtain⟨rfl,rfl⟩:=he
    split at h
    ·rename_i c' n' h'
     have:=zc c hr.2 h'
     unfold vg
     split
     ·rename_i e;simp at e
     ·rename_i e;simp at e
     ·rename_i e;simp only[List.cons.injEq,V.lit.injEq]at e;exact absurd e.1 (by rintro rfl;exact Kp _ _ _ rfl)
     ·rename_i e
      simp only[List.cons.injEq,V.lit.injEq]at e
      obtain⟨rfl,rfl⟩:=e
      rw[this];exact h
     ·rename_i e1 e2 e3;exact absurd rfl (e3 _ _)
    ·cases h
   ·cases h
theorem quiet_mono{Γ:Nat→TK}{E:Tag→Nat→Prop}{S:FuncId→List S1→List S1→Prop}(c:Compat st.hp T.hp)(g:Good ty zb T a.tmps w env){p:List (Nat×Bool)}(hp:holds a.tmps p){cr:List (Nat×CR)}{d m:Nat}{op:Op}{out:Out}
  (hs: ∀x,x∈op.operands.toList→ ∀t,x= .tmp t→look st.sl t=look T.sl t)(h:quiet Γ E S cr st p d m op=some out):quiet Γ E S cr T p d m op=some out:=by
 have ho: ∀{q x},x∈op.operands.toList→ff st q x=ff T q x:=fun hx=>CU (hs _ hx)
 have hr: ∀{x v},x∈op.operands.toList→ff st p x=some v→eT w T.hp env v (a.eval x):=fun hx hv=>dB g hp (by rw[←ho hx];exact hv)
 have rn: ∀{x v n o},x∈op.operands.toList→ff st p x=some (.a v)→v.name=some n→look st.hp n=some o→look T.hp n=some o:=fun hx hv hn hl=>tU c (hr hx hv) hn hl
 cases op with
 |move x=>
  have hm:PZ st x=PZ T x:=by
   cases x with
   |tmp t=>simp only[PZ];rw[hs (.tmp t) (by simp[Op.operands]) t rfl]
   |_=>rfl
  simp only[quiet]at h ⊢;rw[←xe (st:=st) (hs x (by simp[Op.operands])), ←hm];exact h
 |assign x=>
  have hm:PZ st x=PZ T x:=by
   cases x with
   |tmp t=>simp only[PZ];rw[hs (.tmp t) (by simp[Op.operands]) t rfl]
   |_=>rfl
  simp only[quiet]at h ⊢;rw[←xe (st:=st) (hs x (by simp[Op.operands])), ←hm];exact h
 |nilCheck x=>simp only[quiet]at h ⊢;rw[←ho (by simp[Op.operands])];exact h
 |index t x i=>simp only[quiet]at h ⊢;rw[←ho (x:=x) (by simp[Op.operands]), ←ho (x:=i) (by simp[Op.operands])];exact h
 |lookup t x y b=>
  cases b with
  |true=>simp[quiet]at h
  |false=>
   simp only[quiet]at h ⊢
   split at h
   ·rename_i hk
    split at h
    ·rename_i n k hx hy
     split at h
     ·rename_i tg l0 hl
      have Zw:RA w T.hp env (.tG n) (a.eval x):=hr (x:=x) (by simp[Op.operands]) hx
      have lO:=tU c Zw (n:=n) rfl hl
      simp only[hk, ←ho (x:=x) (by simp[Op.operands]), ←ho (x:=y) (by simp[Op.operands]),hx,hy,lO]
      exact h
     ·cases h
    ·cases h
   ·cases h
 |makeMap t r=>
  cases r with
  |some _=>simp[quiet]at h
  |none=>exact h
 |makeSlice t x y=>simp only[quiet]at h ⊢;rw[←ho (x:=x) (by simp[Op.operands]), ←ho (x:=y) (by simp[Op.operands])];exact h
 |buildSlice t n xs=>
  simp only[quiet]at h ⊢
  have hq: ∀g,ou st p g 0 xs.toList=ou T p g 0 xs.toList:=fun g=>AK fun x hx=>ho (by simp only[Op.operands,List.mem_map];exact⟨x,hx,rfl⟩)
  simp only[←hq]
  split at h
  case h_2=>cases h
  rename_i gt e hk
  cases hkey:(look cr (d+500000)).isSome with
  |false=>simp only[hkey]at h ⊢;exact h
  |true=>
   simp only[hkey]at h ⊢
   split at h
   case h_2=>cases h
   rename_i x hlen hps
   split at h
   case h_2=>cases h
   rename_i s hx
   split at h
   case h_2=>cases h
   rename_i cc n1 hc
   have hmem:x∈(Op.buildSlice t n xs).operands.toList:=by
    simp only[Op.operands,List.mem_map,Array.toList_map]
    exact⟨(0,x),by rw[hps];simp,rfl⟩
   have Zw:=hr hmem hx
   have hown:vg T.hp (cellsOf s)=some (cc,n1):=by
    cases s with
    |agg l=>obtain⟨cs,_,hl⟩:=Zw;exact zc c hl hc
    |a v=>exact zc c (us:= [a.eval x]) ⟨Zw,trivial⟩ hc
   simp only[←ho hmem,hx,hown]
   exact h
 |build t xs=>
  simp only[quiet]at h ⊢
  have hq: ∀n fo z,qL st p n fo xs.toList z=qL T p n fo xs.toList z:=fun n fo z=>CV fun x hx=>xe (hs _ (by simp only[Op.operands,List.mem_map];exact⟨x,hx,rfl⟩))
  simp only[←hq]
  exact h
 |pick x y z=>
  cases x with
  |tmp t=>
   simp only[quiet]at h ⊢
   rw[←ho (x:= .tmp t) (by simp[Op.operands]), ←ho (x:=y) (by simp[Op.operands]), ←ho (x:=z) (by simp[Op.operands])]
   exact h
  |_=>simp[quiet]at h
 |box e x=>simp only[quiet]at h ⊢;rw[←ho (by simp[Op.operands])];exact h
 |alloc t=>exact h
 |load t x=>
  have hm:x∈(Op.load t x).operands.toList:=by simp[Op.operands]
  simp only[quiet]at h ⊢
  rw[←ho hm]
  split at h
  ·rename_i n off hx
   try rw[hx]
   try dsimp only
   split at h
   ·rename_i c2 lO
    rw[rn hm hx rfl lO]
    exact h
   ·cases h
  ·rename_i hx
   try rw[hx]
   exact h
  ·rename_i hx
   try rw[hx]
   exact h
  ·rename_i n i off hx
   try rw[hx]
   try dsimp only
   split at h
   ·rename_i c2 lO
    rw[rn hm hx rfl lO]
    exact h
   ·cases h
  ·cases h
 |binOp op t x y t'=>
  simp only[quiet]at h ⊢
  rw[←ho (x:=x) (by simp[Op.operands]), ←ho (x:=y) (by simp[Op.operands])]
  exact h
 |unOp op t x=>
  cases op with
  |not=>simp only[quiet]at h ⊢;rw[←ho (by simp[Op.operands])];exact h
  |neg=>simp only[quiet]at h ⊢;rw[←ho (by simp[Op.operands])];exact h
  |_=>simp[quiet]at h
 |convert s t x=>
  simp only[quiet]at h ⊢
  rw[←ho (x:=x) (by simp[Op.operands])]
  split at h
  ·rename_i ik n k1 k2 hx hk1 hk2
   try rw[hx,hk1,hk2]
   exact h
  ·rename_i v g' e hx hk1 hk2
   try rw[hx,hk1,hk2]
   try dsimp only
   split at h
   ·rename_i l KB hl
    rw[KB,Gz c (show RA w T.hp env v _ from hr (x:=x) (by simp[Op.operands]) hx) hl]
    exact h
   ·cases h
  ·cases h
 |slice t x lo hi mx=>
  cases mx with
  |some mx=>
   cases lo with
   |some _=>simp[quiet]at h
   |none=>
    cases hi with
    |none=>simp[quiet]at h
    |some hi=>
     have hb: ∀(y:Operand),y∈(Op.slice t x none (some hi) (some mx)).operands.toList→F8 st p 0 (some y)=F8 T p 0 (some y):=fun y hy=>by simp only[F8];rw[ho hy]
     have hm:x∈(Op.slice t x none (some hi) (some mx)).operands.toList:=by simp[Op.operands]
     simp only[quiet]at h ⊢
     rw[←ho hm, ←hb hi (by simp[Op.operands]), ←hb mx (by simp[Op.operands])]
     split at h
     case h_2=>cases h
     rename_i hk
     try rw[hk]
     try dsimp only
     split at h
     case h_2=>cases h
     rename_i n n1 n2 hx h1 h2
     try rw[hx,h1,h2]
     try dsimp only
     split at h
     case h_2=>cases h
     rename_i t' l hl
     rw[rn hm hx rfl hl]
     exact h
  |none=>
   have hb: ∀(b:Option Operand),(∀y,b=some y→y∈(Op.slice t x lo hi none).operands.toList)→ ∀z,F8 st p z b=F8 T p z b:=by
    intro b hm z
    cases b with
    |none=>rfl
    |some y=>simp only[F8];rw[ho (hm y rfl)]
   have hm:x∈(Op.slice t x lo hi none).operands.toList:=by simp[Op.operands]
   simp only[quiet]at h ⊢
   rw[←ho hm, ←hb lo (by rintro y rfl;simp[Op.operands])]
   simp only[←hb hi (by rintro y rfl;simp[Op.operands])]
   cases hkey:(look cr (d+600000)).isSome with
   |true=>simp only[hkey]at h ⊢;exact h
   |false=>
    simp only[hkey]at h ⊢
    split at h
    ·split at h
     ·rename_i hx hlo
      try rw[hx,hlo]
      exact h
     ·rename_i hx hlo
      try rw[hx,hlo]
      exact h
     ·rename_i hx hlo
      try rw[hx,hlo]
      try dsimp only
      split at h
      ·rename_i lO
       rw[rn hm hx rfl lO]
       exact h
      ·cases h
     ·rename_i hx hlo
      try rw[hx,hlo]
      exact h
     ·cases h
    ·exact h
    ·cases h
 |makeFunc fn first captured=>
  cases fn with
  |func f=>
   simp only[quiet]at h ⊢
   split at h
   ·rename_i x hf hc
    try rw[hf,hc]
    try dsimp only
    have hm:x∈(Op.makeFunc (.func f) first captured).operands.toList:=by simp only[Op.operands,Array.toList_append,hf,hc];simp
    have e:=ho (q:=p) hm
    rw[←e]
    exact h
   ·cases h
  |_=>simp[quiet]at h
 |fieldAddr t x f=>
  simp only[quiet]at h ⊢
  rw[←ho (x:=x) (by simp[Op.operands])]
  exact h
 |indexAddr t x i=>
  have hm:x∈(Op.indexAddr t x i).operands.toList:=by simp[Op.operands]
  simp only[quiet]at h ⊢
  rw[←ho hm, ←ho (x:=i) (by simp[Op.operands])]
  split at h
  ·split at h
   ·rename_i hx hi
    try rw[hx,hi]
    exact h
   ·rename_i hx hi
    try rw[hx,hi]
    try dsimp only
    split at h
    ·rename_i lO
     rw[rn hm hx rfl lO]
     exact h
    ·cases h
   ·rename_i hx hi
    try rw[hx,hi]
    exact h
   ·cases h
  ·cases h
 |extract x i=>
  cases x with
  |tmp t=>simp only[quiet]at h ⊢;rw[←hs (.tmp t) (by simp[Op.operands]) t rfl];exact h
  |_=>simp[quiet]at h
 |call cl=>
  obtain⟨callee,xs,ts⟩:=cl
  have hop: ∀x,x∈xs.toList→x∈(Op.call ⟨callee,xs,ts⟩).operands.toList:=by
   intro x hx
   simp only[Op.operands,Call.operands,Array.toList_append]
   exact List.mem_append_right _ hx
  cases callee with
  |value x=>
   cases x with
   |func f=>
    simp only[quiet]at h ⊢
    split at h
    ·rename_i as c1 h1 h2
     rw[za c g hp (fun x hx=>hs x (hop x hx)) h1,h2]
     exact h
    ·cases h
   |tmp y=>
    simp only[quiet]at h ⊢
    rw[←ho (x:= .tmp y) (by simp[Op.operands,Call.operands])]
    split at h
    ·rename_i v hv
     try rw[hv]
     try dsimp only
     split at h
     ·rename_i f hf
      try rw[hf]
      try dsimp only
      split at h
      ·rename_i as c1 h1 h2
       rw[za c g hp (fun x hx=>hs x (hop x hx)) h1,h2]
       exact h
      ·cases h
     ·cases h
    ·cases h
   |_=>simp[quiet]at h
  |builtin b=>
   cases b with
   |len=>
    simp only[quiet]at h ⊢
    split at h
    ·rename_i x t hxl htl
     have hm:x∈xs.toList:=by rw[hxl];simp
     try rw[hxl,htl]
     try dsimp only
     rw[←ho (hop x hm)]
     split at h
     ·rename_i v hv
      try rw[hv]
      try dsimp only
      split at h
      ·rename_i n hn
       rw[K0 c (show RA w T.hp env v _ from hr (hop x hm) hv) hn]
       exact h
      ·cases h
     ·cases h
    ·cases h
   |append=>
    simp only[quiet]at h ⊢
    split at h
    case h_2=>cases h
    rename_i x y t1 t2 hkey hxl htl
    try rw[hkey,hxl,htl]
    try dsimp only
    have Pm:x∈xs.toList:=by rw[hxl];simp
    have hmy:y∈xs.toList:=by rw[hxl];simp
    rw[←ho (hop x Pm), ←ho (hop y hmy)]
    exact h
   |max=>simp only[quiet]at h ⊢;rw[←vo (st:=st) (T:=T) (xs:=xs.toList) (fun x hx=>ho (hop x hx))];exact h
   |min=>simp only[quiet]at h ⊢;rw[←vo (st:=st) (T:=T) (xs:=xs.toList) (fun x hx=>ho (hop x hx))];exact h
   |_=>simp[quiet]at h
  |invoke _ _=>simp[quiet]at h
 |_=>simp[quiet]at h
theorem Ov{p:List (Nat×Bool)}(hs: ∀e,e∈p→look st.sl e.1=look T.sl e.1):hyps st p=hyps T p:=by
 induction p with
 |nil=>rfl
 |cons e r ih=>
  obtain⟨d,x⟩:=e
  simp only[hyps]
  rw[hs (d,x) (by simp),ih fun e he=>hs e (by simp[he])]
theorem K1{Γ:Nat→TK}{E:Tag→Nat→Prop}{S:FuncId→List S1→List S1→Prop}(c:Compat st.hp T.hp)(g:Good ty zb T a.tmps w env)(hn:T.n=st.n){cO:List (Nat×Nat)}{cr:List (Nat×CR)}{ops:List Oper}{o:Oper}{p:List (Nat×Bool)}(kf:ij st ops o=some p)(rY:ij T ops o=some p)(hp:holds a.tmps p)
  (hs: ∀x,x∈o.op.operands.toList→ ∀t,x= .tmp t→look st.sl t=look T.sl t)(hps: ∀e,e∈p→look st.sl e.1=look T.sl e.1){vc:List Prop}{v:SV}{os:Hp}(hf:fresh T.hp os=true)(h:oN Γ E S cO cr ops st o=some (vc,v,os)):
  oN Γ E S cO cr ops T o=some (vc,v,os):=by
 have hd:wD T o.dst=wD st o.dst:=by unfold wD;rw[hn]
 simp only[oN]at h ⊢
 rw[hd,rY]
 rw[kf]at h
 split at h
 ·rename_i m e1 e2 e3
  simp only[oI]at e3
  subst e3
  try rw[e1,e2]
  try dsimp only
  split at h
  ·rename_i nH v1 os1 hq
   rw[quiet_mono c g hp hs hq]
   try dsimp only
   split at h
   ·rename_i h1 h2
    simp only[oI,pI]at h
    obtain⟨rfl,rfl,rfl⟩:=h
    simp only[hf,h2]
   ·cases h
  ·cases h
 ·rename_i m e p' e1 e2 e3
  simp only[oI]at e3
  subst e3
  try rw[e1,e2]
  try dsimp only
  split at h
  ·rename_i h1
   try rw[h1]
   try dsimp only
   split at h
   ·rename_i nH v1 hq
    rw[quiet_mono c g hp hs hq]
    try dsimp only
    rw[←Ov hps]
    exact h
   ·cases h
  ·cases h
 ·cases h
end
end
section
variable{ty:Tag→Nat}
def eG(uw:Nat→Bool)(tr:List TE)(s:St):Nat→St
 |0=>s
 |i+1=>match uw i,tr[i]? with
  |true,some e=>app (eG uw tr s i) e
  |_,_=>eG uw tr s i
abbrev pre(tr:List TE)(s:St)(i:Nat):St:=eG (fun _=>true) tr s i
structure Trace(Γ:Nat→TK)(E:Tag→Nat→Prop)(S:FuncId→List S1→List S1→Prop)(cO:List (Nat×Nat))(cr:List (Nat×CR))(ops:List Oper)(m:Nat)(s:St)(tr:List TE)(vcs:List Prop):Prop where
 len:tr.length=m
 one: ∀i,i<m→ ∃o e vc,ops[i]? =some o∧tr[i]? =some e∧o.dst=some e.d∧((pre tr s i).sl.any fun x=>x.2.mentions e.d)=false∧oN Γ E S cO cr ops (pre tr s i) o=some (vc,e.v,e.os)∧ ∀q,q∈vc→q∈vcs
theorem CW(uw:Nat→Bool)(e:TE)(tr:List TE)(s:St)(h:uw 0=true): ∀i,eG uw (e::tr) s (i+1)=eG (fun j=>uw (j+1)) tr (app s e) i
 |0=>by simp[eG,h]
 |i+1=>by
  rw[eG,CW uw e tr s h i,eG]
  simp only[List.getElem?_cons_succ]
section
variable{uw inE:Nat→Bool}{tr:List TE}{s:St}
theorem rZ{i:Nat}{e:TE}(h:uw i=true)(he:tr[i]? =some e):eG uw tr s (i+1)=app (eG uw tr s i) e:=by rw[eG,h,he]
theorem GA{i:Nat}(h:uw i=false):eG uw tr s (i+1)=eG uw tr s i:=by rw[eG,h]
theorem AL: ∀i,(eG uw tr s i).n=s.n
 |0=>rfl
 |i+1=>by
  rw[eG]
  split
  ·exact AL i
  ·exact AL i
theorem ld: ∀{i j:Nat} {e:TE},j<i→uw j=true→tr[j]? =some e→(∀j' e',j'<i→uw j'=true→tr[j']? =some e'→e'.d=e.d→j'=j)→look (eG uw tr s i).sl e.d=some e.v
 |i+1,j,e,hj,hin,he,hd=>by
  by_cases hij:j=i
  ·subst hij
   rw[rZ hin he];exact look_eq
  ·have ih:=ld (i:=i) (j:=j) (by omega) hin he (fun j' e' h1 h2 h3 h4=>hd j' e' (by omega) h2 h3 h4)
   rw[eG]
   split
   ·rename_i e' h1 h2
    have hne:e.d≠e'.d:=fun hh=>by
     have:=hd i e' (by omega) h1 h2 hh.symm
     omega
    show look ((e'.d,e'.v)::_) e.d=_
    rw[aZ hne];exact ih
   ·exact ih
theorem oS: ∀{i:Nat} {t:Nat},(∀j e,j<i→uw j=true→tr[j]? =some e→e.d≠t)→look (eG uw tr s i).sl t=look s.sl t
 |0,_,_=>rfl
 |i+1,t,h=>by
  have ih:=oS (i:=i) (t:=t) fun j e h1 h2 h3=>h j e (by omega) h2 h3
  rw[eG]
  split
  ·rename_i e' h1 h2
   have hne:t≠e'.d:=fun hh=>h i e' (by omega) h1 h2 hh.symm
   show look ((e'.d,e'.v)::_) t=_
   rw[aZ hne];exact ih
  ·exact ih
theorem GB: ∀{i:Nat} {x:Nat×SV},x∈(eG uw tr s i).sl→x∈s.sl∨ ∃j e,j<i∧uw j=true∧tr[j]? =some e∧x=(e.d,e.v)
 |0,_,h=>Or.inl h
 |i+1,x,h=>by
  rw[eG]at h
  split at h
  ·rename_i e' h1 h2
   rcases List.mem_cons.1 (show x∈(e'.d,e'.v)::(eG uw tr s i).sl from h)with rfl|h
   ·exact Or.inr ⟨i,e',by omega,h1,h2,rfl⟩
   ·rcases GB h with h| ⟨j,e,a,b⟩
    ·exact Or.inl h
    ·exact Or.inr ⟨j,e,by omega,b⟩
  ·rcases GB h with h| ⟨j,e,a,b⟩
   ·exact Or.inl h
   ·exact Or.inr ⟨j,e,by omega,b⟩
def Q5(tr:List TE)(s:St)(m:Nat):Prop:= ∀i e,i<m→tr[i]? =some e→ ∀n o,look e.os n=some o→look (pre tr s i).hp n=none
theorem lf: ∀{i:Nat} {n:Nat} {o:Obj},look (eG uw tr s i).hp n=some o→look s.hp n=some o∨ ∃j e,j<i∧uw j=true∧tr[j]? =some e∧look e.os n=some o
 |0,_,_,h=>Or.inl h
 |i+1,n,o,h=>by
  rw[eG]at h
  split at h
  ·rename_i e' h1 h2
   have h:look (e'.os++(eG uw tr s i).hp) n=some o:=h
   cases hq:look e'.os n with
   |none=>
    rw[bB hq]at h
    rcases lf h with h| ⟨j,e,a,b⟩
    ·exact Or.inl h
    ·exact Or.inr ⟨j,e,by omega,b⟩
   |some o'=>
    rw[cz hq]at h
    exact Or.inr ⟨i,e',by omega,h1,h2,by rw[hq];exact h⟩
  ·rcases lf h with h| ⟨j,e,a,b⟩
   ·exact Or.inl h
   ·exact Or.inr ⟨j,e,by omega,b⟩
end
theorem IL{hp:Hp}: ∀{os:Hp},(∀n o,look os n=some o→look hp n=none∧jg n=false)→fresh hp os=true
 | [],_=>rfl
 | (n,x)::r,h=>by
   simp only[fresh,Bool.and_eq_true]
   obtain⟨h1,h2⟩:=h n x look_eq
   refine⟨⟨by rw[h1],by rw[h2];rfl⟩,IL fun k o hk=> ?_⟩
   by_cases hkn:k=n
   ·subst hkn;exact h k x look_eq
   ·exact h k o (by rw[aZ hkn];exact hk)
theorem Good.congr{zb:cm}{st st':St}{tmps:Array Value}{w:World}{env:Env}(g:Good ty zb st tmps w env)(hs: ∀s v,look st'.sl s=some v→look st.sl s=some v)(hh: ∀n,look st'.hp n=look st.hp n):Good ty zb st' tmps w env:=by
 have s:Step (fun _=>True) (fun _=>True) w st.hp env w st'.hp env:=by
  refine⟨fun _ _ _=>rfl,?_,?_,?_⟩
  ·rintro b _ ⟨n,o,h1,h2⟩;exact⟨n,o,by rw[←hh];exact h1,h2⟩
  ·intro n o _ h1
   exact⟨o,by rw[hh];exact h1,by cases o<;>simp[Obj.like],rfl⟩
  ·intro n t l _ h1
   exact⟨by rw[hh];exact h1,rfl,fun _ _=>rfl⟩
 refine⟨fun n o hl=> ?_,fun n m o o' hne h1 h2=>g.iq n m o o' hne (by rw[←hh];exact h1) (by rw[←hh];exact h2),fun t v hl=>nG.step s (fun v _=>v.dH) (g.slot t v (hs t v hl)),fun n o hl=>g.dom n o (by rw[←hh];exact hl),g.pins⟩
 exact(g.obj n o (by rw[←hh];exact hl)).step s o.dH (fun _ _=>rfl)
end
section
variable{ty:Tag→Nat}
theorem GC{α:Type}: ∀{l:List α} {k i:Nat} {x:α},l[i]? =some x→(k+i,x)∈idx k l
 |y::r,k,0,x,h=>by simp at h;simp[idx,h]
 |y::r,k,i+1,x,h=>by
  have:=GC (l:=r) (k:=k+1) (i:=i) (by simpa using h)
  rw[idx];right
  rw[show k+(i+1)=k+1+i by omega];exact this
structure Chk(ops:List Oper)(m:Nat):Prop where
 le:m≤ops.length
 back: ∀i o,ops[i]? =some o→ ∀j,j∈bZ o→j<i
 uses: ∀i o,i<m→ops[i]? =some o→ ∀t,t∈tmpsOf o→ ∀k o',k<m→ops[k]? =some o'→o'.dst=some t→k=i∨k∈bZ o∨(i<k∧((Gy ops).getD k 0).testBit i=true)
 guard: ∀i o j x,i<m→ops[i]? =some o→o.guard=some (j,x)→j<i∧j<m∧j∈bZ o
 dist: ∀i o k o' d,i<m→k<m→ops[i]? =some o→ops[k]? =some o'→o.dst=some d→o'.dst=some d→k=i
 tail: ∀i o,m≤i→ops[i]? =some o→ ∀j,j<i→((Gy ops).getD i 0).testBit j=true
theorem Mu: ∀(l:List Oper) (acc:List Nat),(∀j,j<acc.length→(l.foldl gT acc).getD j 0=acc.getD j 0)∧
  ∀i o,l[i]? =some o→(∀j,j∈bZ o→j<acc.length+i)→(l.foldl gT acc).getD (acc.length+i) 0=(bZ o).foldl (fun s j=>s|||2^j||| (l.foldl gT acc).getD j 0) 0
 | [],acc=>⟨fun _ _=>rfl,fun i o h=>by simp at h⟩
 |o::r,acc=>by
  obtain⟨h1,h2⟩:=Mu r (gT acc o)
  have hl:(gT acc o).length=acc.length+1:=by simp[gT]
  have ha: ∀j,j<acc.length→((o::r).foldl gT acc).getD j 0=acc.getD j 0:=by
   intro j hj
   rw[List.foldl_cons,h1 j (by omega)]
   simp only[gT,List.getD_eq_getElem?_getD]
   rw[List.getElem?_append_left hj]
  refine⟨ha,fun i o' ho hj=> ?_⟩
  cases i with
  |zero=>
   simp at ho
   subst ho
   rw[Nat.add_zero,List.foldl_cons,h1 _ (by omega)]
   have:(gT acc o).getD acc.length 0=(bZ o).foldl (fun s j=>s|||2^j|||acc.getD j 0) 0:=by
    simp[gT,List.getD_eq_getElem?_getD]
   rw[this]
   have aau: ∀(es:List Nat) (s0:Nat),(∀j,j∈es→j<acc.length)→es.foldl (fun s j=>s|||2^j|||acc.getD j 0) s0=es.foldl (fun s j=>s|||2^j||| (r.foldl gT (gT acc o)).getD j 0) s0:=by
    intro es
    induction es with
    |nil=>intros;rfl
    |cons j es ih=>
     intro s0 hh
     rw[List.foldl_cons,List.foldl_cons,ih _ fun k hk=>hh k (by simp[hk])]
     have:=ha j (hh j (by simp))
     rw[List.foldl_cons]at this
     rw[this]
   exact aau _ _ fun j hjj=>by simpa using hj j hjj
  |succ i=>
   have:=h2 i o' (by simpa using ho) (fun j hjj=>by rw[hl];have:=hj j hjj;omega)
   rw[hl,show acc.length+1+i=acc.length+(i+1)by omega]at this
   rw[List.foldl_cons];exact this
theorem CX(g:Nat→Nat)(k:Nat): ∀(es:List Nat) (s0:Nat),(es.foldl (fun s j=>s|||2^j|||g j) s0).testBit k=true→s0.testBit k=true∨ ∃j,j∈es∧(k=j∨(g j).testBit k=true)
 | [],s0,h=>Or.inl h
 |j::es,s0,h=>by
  rcases CX g k es _ h with h| ⟨i,hi,h⟩
  ·rw[Nat.testBit_or,Nat.testBit_or,Nat.testBit_two_pow]at h
   simp only[Bool.or_eq_true,decide_eq_true_eq]at h
   rcases h with(h|h)|h
   ·exact Or.inl h
   ·exact Or.inr ⟨j,by simp,Or.inl h.symm⟩
   ·exact Or.inr ⟨j,by simp,Or.inr h⟩
  ·exact Or.inr ⟨i,by simp[hi],h⟩
theorem CY{ops:List Oper}(hb: ∀i o,ops[i]? =some o→ ∀j,j∈bZ o→j<i){D:Nat→Prop}(hD: ∀i o,D i→ops[i]? =some o→ ∀j,j∈bZ o→D j): ∀(i:Nat) (o:Oper),ops[i]? =some o→(∀j,j∈bZ o→D j)→ ∀k,((Gy ops).getD i 0).testBit k=true→D k:=by
 intro i
 induction i using Nat.strongRecOn with
 |_ i ih=>
  intro o ho he k hk
  have:=(Mu ops []).2 i o ho (fun j hj=>by simpa using hb i o ho j hj)
  simp only[List.length_nil,Nat.zero_add]at this
  have hc:(Gy ops).getD i 0=(bZ o).foldl (fun s j=>s|||2^j||| (Gy ops).getD j 0) 0:=this
  rw[hc]at hk
  rcases CX _ k _ _ hk with h| ⟨j,hj,h⟩
  ·simp at h
  ·rcases h with rfl|h
   ·exact he k hj
   ·have hji:=hb i o ho j hj
    have hlen:j<ops.length:=by have:=(List.getElem?_eq_some_iff.1 ho).1;omega
    exact ih j hji ops[j] (List.getElem?_eq_getElem hlen) (hD j _ (he j hj) (List.getElem?_eq_getElem hlen)) k h
section
variable{P:Program}{Γ:Nat→TK}{cO:List (Nat×Nat)}{cr:List (Nat×CR)}{ops:List Oper}{m:Nat}{s:St}{tr:List TE}{vcs:List Prop}
theorem kq{E:Tag→Nat→Prop}{S:FuncId→List S1→List S1→Prop}{st:St}{o:Oper}{vc:List Prop}{v:SV}{os:Hp}(h:oN Γ E S cO cr ops st o=some (vc,v,os)):
  ∃p,ij st ops o=some p∧(p= []→ ∀q x,v≠ .cond q x)∧(p≠ []→(∃x,v= .cond p x)∧os= []∧ ∀d,o.dst=some d→ ∀e,e∈p→e.1≠d)∧(∀n x,look os n=some x→look st.hp n=none∧jg n=false):=by
 unfold oN at h
 split at h
 ·rename_i nm _ _ hg
  split at h
  ·rename_i nH v1 os1 hq
   split at h
   ·rename_i hf _
    simp only[oI,pI]at h
    obtain⟨_,rfl,rfl⟩:=h
    refine⟨[],hg,fun _ q x=> ?_,fun hh=>absurd rfl hh,fun n x hl=>⟨mJ hf n x hl,yQ hf n x hl⟩⟩
    rintro rfl
    unfold quiet PZ at hq
    repeat' split at hq
    all_goals first
     | (cases hq;done)
     | (simp only[dA,oI,Out.mk.injEq]at hq;cases hq.2.1;done)
     | (simp only[oI,Out.mk.injEq]at hq;cases hq.2.1;done)
     | (simp only[oI]at hq;unfold outs at hq;(repeat' split at hq)<;>(simp only[Out.mk.injEq]at hq;cases hq.2.1))
   ·cases h
  ·cases h
 ·rename_i nm e p _ _ hg
  split at h
  ·rename_i aav
   split at h
   ·rename_i nH v1 hq
    simp only[oI,pI]at h
    obtain⟨_,rfl,rfl⟩:=h
    refine⟨e::p,hg,(fun hh=>by cases hh),fun _=>⟨⟨_,rfl⟩,rfl,fun d hd x hx hxd=> ?_⟩,fun n x hl=>by simp[look]at hl⟩
    rw[List.any_eq_false]at aav
    exact aav x hx (by rw[hd,hxd];simp)
   ·cases h
  ·cases h
 ·cases h
theorem Trace.fresh{E:Tag→Nat→Prop}{S:FuncId→List S1→List S1→Prop}(T:Trace Γ E S cO cr ops m s tr vcs):Q5 tr s m:=by
 intro i e hi he n x hl
 obtain⟨o,e',vc,_,he',_,_,hq,_⟩:=T.one i hi
 rw[he]at he'
 simp only[oI]at he'
 subst he'
 obtain⟨p,_,_,_,hf⟩:=kq hq
 exact(hf n x hl).1
theorem Trace.path{E:Tag→Nat→Prop}{S:FuncId→List S1→List S1→Prop}(T:Trace Γ E S cO cr ops m s tr vcs)(K:Chk ops m): ∀(i:Nat),i<m→ ∀o p,ops[i]? =some o→ij (pre tr s i) ops o=some p→ ∀e,e∈p→
  ∃k o',k<i∧ops[k]? =some o'∧o'.dst=some e.1∧ ∀D:Nat→Prop,(∀i o,D i→ops[i]? =some o→ ∀j,j∈bZ o→D j)→(∀j,j∈bZ o→D j)→D k:=by
 intro i
 induction i using Nat.strongRecOn with
 |_ i ih=>
  intro hi o p ho hg e he
  unfold ij at hg
  split at hg
  ·simp at hg;subst hg;simp at he
  ·rename_i j x hgd
   obtain⟨hji,hjm,ZA⟩:=K.guard i o j x hi ho hgd
   obtain⟨q,ej,vcj,hq,hej,WE,_,UO,_⟩:=T.one j hjm
   rw[hq]at hg
   dsimp only at hg
   rw[WE]at hg
   dsimp only at hg
   have w6:look (pre tr s i).sl ej.d=some ej.v:=by
    refine ld hji rfl hej fun j' e' h1 _ h3 h4=> ?_
    obtain⟨q',e2,_,X1,Ew,hd2,_⟩:=T.one j' (by omega)
    rw[h3]at Ew
    simp only[oI]at Ew
    subst Ew
    exact K.dist j q j' q' ej.d hjm (by omega) hq X1 WE (by rw[hd2,h4])
   rw[w6]at hg
   obtain⟨pj,hgj,gl,eO,_⟩:=kq UO
   have base: ∃k o',k<i∧ops[k]? =some o'∧o'.dst=some ej.d∧ ∀D:Nat→Prop,(∀i o,D i→ops[i]? =some o→ ∀j,j∈bZ o→D j)→(∀j,j∈bZ o→D j)→D k:=
    ⟨j,q,hji,hq,WE,fun D _ hE=>hE j ZA⟩
   split at hg
   ·simp only[oI]at hg
    subst hg
    simp only[List.mem_singleton]at he
    subst he
    exact base
   ·rename_i p' b hv
    simp only[oI]at hv
    simp only[oI]at hg
    subst hg
    rcases List.mem_cons.1 he with rfl|he
    ·exact base
    ·have hpj:pj=p':=by
      by_cases hnil:pj= []
      ·exact absurd hv (gl hnil _ _)
      ·obtain⟨x',hx'⟩:=(eO hnil).1
       rw[hx']at hv
       simp only[SV.cond.injEq]at hv
       exact hv.1
     subst hpj
     obtain⟨k,o',h1,h2,h3,h4⟩:=ih j hji hjm q pj hq hgj e he
     exact⟨k,o',by omega,h2,h3,fun D hD hE=>h4 D hD (hD j q (hE j ZA) hq)⟩
   ·cases hg
end
end
section
variable{ty:Tag→Nat}
theorem ze{ops:List Oper}{listed:Array Bool}(hl:listed.size=ops.length){i:Nat}:i∈Region.ready .any ops.toArray listed↔ ∃o,ops[i]? =some o∧listed.getD i false=false∧ ∀j,j∈bZ o→listed.getD j false=true:=by
 unfold Region.ready
 rw[List.mem_filter,List.mem_range]
 simp only[List.size_toArray,List.getElem?_toArray,Bool.and_eq_true,Bool.not_eq_true']
 constructor
 ·rintro⟨hi,h1,h2⟩
  refine⟨ops[i],List.getElem?_eq_getElem hi,?_,?_⟩
  ·have:listed[i]? =some listed[i]:=by simp[hl,hi]
   rw[Array.getD_eq_getD_getElem?,this]at h1 ⊢
   exact h1
  ·intro j hj
   simp only[bZ,List.mem_filterMap,Array.mem_toList_iff]at hj
   obtain⟨e,he,hj⟩:=hj
   split at hj
   ·rename_i hb
    simp only[oI]at hj
    subst hj
    rw[List.getElem?_eq_getElem hi]at h2
    simp only[Option.map_some,Option.getD_some]at h2
    have:=Array.all_eq_true_iff_forall_mem.1 h2 e he
    simpa[hb]using this
   ·cases hj
 ·rintro⟨o,ho,h1,h2⟩
  have hi:=(List.getElem?_eq_some_iff.1 ho).1
  refine⟨hi,?_,?_⟩
  ·have:listed[i]? =some listed[i]:=by simp[hl,hi]
   rw[Array.getD_eq_getD_getElem?,this]at h1 ⊢
   exact h1
  ·rw[ho]
   simp only[Option.map_some,Option.getD_some]
   rw[Array.all_eq_true_iff_forall_mem]
   intro e he
   cases hb:Region.binds .any e with
   |false=>simp
   |true=>
    have:=h2 e.on (by
     simp only[bZ,List.mem_filterMap,Array.mem_toList_iff]
     exact⟨e,he,by simp[hb]⟩)
    simp[this]
theorem IM{listed:Array Bool}{i j:Nat}(hi:i<listed.size):(listed.setIfInBounds i true).getD j false=(listed.getD j false||j==i):=by
 rw[Array.getD_eq_getD_getElem?,Array.getD_eq_getD_getElem?]
 by_cases hij:i=j
 ·subst hij
  rw[Array.getElem?_setIfInBounds_self_of_lt hi];simp
 ·rw[Array.getElem?_setIfInBounds_ne hij]
  simp[show¬j=i from fun h=>hij h.symm]
def cnt(n:Nat)(D:Nat→Bool):Nat:=((List.range n).filter fun i=> !D i).length
theorem filter_lt{p q:Nat→Bool}: ∀{l:List Nat},(∀x,x∈l→q x=true→p x=true)→(∃x,x∈l∧p x=true∧q x=false)→(l.filter q).length<(l.filter p).length
 |y::r,h,⟨x,hx,hp,hq⟩=>by
  have le: ∀{l:List Nat},(∀x,x∈l→q x=true→p x=true)→(l.filter q).length≤(l.filter p).length:=by
   intro l
   induction l with
   |nil=>intro _;simp
   |cons z l ih=>
    intro hh
    have:=ih fun x hx=>hh x (by simp[hx])
    cases hz:q z with
    |true=>rw[List.filter_cons_of_pos hz,List.filter_cons_of_pos (hh z (by simp) hz)];simp;exact this
    |false=>
     rw[List.filter_cons_of_neg (by simp[hz])]
     cases hz2:p z with
     |true=>rw[List.filter_cons_of_pos hz2];simp;omega
     |false=>rw[List.filter_cons_of_neg (by simp[hz2])];exact this
  rcases List.mem_cons.1 hx with rfl|hx
  ·rw[List.filter_cons_of_neg (by simp[hq]),List.filter_cons_of_pos hp]
   have:=le (l:=r) fun x hx=>h x (by simp[hx])
   simp;omega
  ·have ih:=filter_lt (l:=r) (fun x hx=>h x (by simp[hx])) ⟨x,hx,hp,hq⟩
   cases hy:q y with
   |true=>rw[List.filter_cons_of_pos hy,List.filter_cons_of_pos (h y (by simp) hy)];simp;exact ih
   |false=>
    rw[List.filter_cons_of_neg (by simp[hy])]
    cases WG:p y with
    |true=>rw[List.filter_cons_of_pos WG];simp;omega
    |false=>rw[List.filter_cons_of_neg (by simp[WG])];exact ih
theorem UP{n i:Nat}{D:Nat→Bool}(hi:i<n)(hD:D i=false):cnt n (fun j=>D j||j==i)<cnt n D:=by
 refine filter_lt ?_ ⟨i,List.mem_range.2 hi,by simp[hD],by simp⟩
 intro x _ h
 simp only[Bool.not_eq_true',Bool.or_eq_false_iff]at h
 simp[h.1]
theorem Q6{n:Nat}{D:Nat→Bool}(h:cnt n D=0): ∀i,i<n→D i=true:=by
 intro i hi
 have:=List.eq_nil_of_length_eq_zero h
 cases hd:D i with
 |true=>rfl
 |false=>
  have:i∈(List.range n).filter fun i=> !D i:=List.mem_filter.2 ⟨List.mem_range.2 hi,by simp[hd]⟩
  simp_all
section
variable{P:Program}{Γ:Nat→TK}{cO:List (Nat×Nat)}{cr:List (Nat×CR)}{ops:List Oper}{m:Nat}{s:St}{tr:List TE}{zb:cm}{Q:Exit→Act→World→Prop}
end
section
variable{P:Program}{Γ:Nat→TK}{zb:cm}{Q:Post}{st:St}
end
end
section
variable{ty:Tag→Nat}
def zi(l:List Oper):Option (List Oper×Oper):=match l.reverse with
 | []=>none
 |o::r=>some (r.reverse,o)
theorem GK{l p:List Oper}{q:Oper}(h:zi l=some (p,q)):l=p++ [q]:=by
 unfold zi at h
 split at h
 ·cases h
 ·rename_i o r he
  simp only[oI,pI]at h
  obtain⟨rfl,rfl⟩:=h
  have:=congrArg List.reverse he
  rw[List.reverse_reverse,List.reverse_cons]at this
  exact this
def Mw(Γ:Nat→TK)(st:St)(o:Oper):Option (Nat×Prop):=match o.guard,o.dst,o.op with
 |none,some d, .binOp .eql t (.tmp s) (.const (.slice none 0 0)) _=>match Γ t,look st.sl s,Nat.blt d st.n with
  | .sl _ _,some (.one (.a (.sl _ l))),true=>some (d,l= [])
  | .sl _ _,some (.one (.a (.vw _ _ _ l))),true=>some (d,l= [])
  | .sl _ _,some (.one (.a (.own n))),true=>match look st.hp n with
    |some (.arr _ l)=>some (d,l= [])
    |_=>none
  |_,_,_=>none
 |_,_,_=>none
def Mx(n:Nat)(st':St)(ks:List Nat):Option St:=match AI st'.sl ks,AJ st'.hp (Mq st'.sl st'.hp ks [])with
 |some sl,some hp=>match qd sl hp with
  |true=>some ⟨n,sl,hp⟩
  |false=>none
 |_,_=>none
def My(Bc:St)(ks:List Nat)(d:Nat)(b:Bool):Option St:=Mx Bc.n (Bc.put (some d) (.one (.a (.lit (.bool b))))) ks
def Rr(P:Program)(ty:Tag→Nat)(Γ:Nat→TK)(cO:List (Nat×Nat))(cr:List (Nat×CR))(ks:List Nat)(ops:List Oper)(st:St):Option (List Prop×Prop×St×St):=
 match zi ops with
 |some (pre,o)=>match run P ty Γ cO cr ops pre st []with
  |some (vc,Bc)=>match Mw Γ Bc o with
   |some (d,p)=>match My Bc ks d true,My Bc ks d false with
    |some a,some b=>some (vc,p,a,b)
    |_,_=>none
   |none=>none
  |none=>none
 |none=>none
section
variable{P:Program}{Γ:Nat→TK}{zb:cm}{Q:Post}{st:St}
theorem GL(C: ∀t,cG P t (Γ t))(Z: ∀t,(∀z tg fo,Γ t≠ .st z tg fo)→Γ t≠ .other→(P.info? t).map (·.size)=some 1){cO:List (Nat×Nat)}{cr:List (Nat×CR)}{ops:List Oper}{BC:St}{vcs:List Prop}{Q:Exit→Act→World→Prop}{tail:List Oper}
  (hQ: ∀a w,Inv ty zb BC a w→wpList P ops.toArray Q tail a w): ∀{l:List Oper} {st:St} {acc:List Prop} {a:Act} {w:World},run P ty Γ cO cr ops l st acc=some (vcs,BC)→(∀q,q∈vcs→q)→Inv ty zb st a w→wpList P ops.toArray Q (l++tail) a w
 | [],st,acc,a,w,h,hv,iv=>by
   simp only[run,oI,pI]at h
   obtain⟨_,rfl⟩:=h
   exact hQ a w iv
 |o::r,st,acc,a,w,h,hv,iv=>by
  obtain⟨vc,Bc,h1,h2⟩:=y8 h
  have:=tR (Q:=Q) C Z h1 iv (fun q hq=>hv q (w7 h2 q (List.mem_append_left _ hq)))
  exact this.mono fun a' w' oA=>GL C Z hQ h2 hv oA
theorem IU{w:World}{t e:Nat}(d:Nat)(hu:P.underlying t=some (.slice e)){oa:Option Addr}{n cap:Nat}:(Op.equalIn (d+1) t (.slice oa n cap) (.slice none 0 0)).run P w= .ok oa.isNone w:=by
 cases oa<;>simp[Op.equalIn,run_underlying hu]
theorem Yb{o:Oper}{a:Act}{w:World}{K:Act→World→Prop}{Q:Exit→Act→World→Prop}{t s e ge:Nat}{ty2:TypeId}(ho:o.op= .binOp .eql t (.tmp s) (.const (.slice none 0 0)) ty2)(hu:P.underlying t=some (.slice e)){oa:Option Addr}{n cap:Nat}(hs:a.tmps.getD s undef= .slice oa n cap)
  (h:K (a.put o.dst (.bool oa.isNone)) w):o.wp P a w K Q:=by
 have hx:a.eval (.tmp s)= .slice oa n cap:=hs
 have hrun:(execOp a.eval o).run P w= .ok (.value (.bool oa.isNone)) w:=by
  have hy:a.eval (.const (.slice none 0 0))= .slice none 0 0:=rfl
  unfold execOp
  simp only[ho,hx,hy]
  have he:(Op.equal t (.slice oa n cap) (.slice none 0 0)).run P w= .ok oa.isNone w:=IU 9999 hu
  have hb:(binOp .eql t (.slice oa n cap) (.slice none 0 0)).run P w= .ok (.bool oa.isNone) w:=by
   show(do pure (.bool (←Op.equal t (.slice oa n cap) (.slice none 0 0))):Sem Value).run P w=_
   simp only[Sem.run_bind,he,Result.andThen_ok,Sem.run_pure]
  have hg:(eqGuard .eql t (.tmp s) (.const (.slice none 0 0)) (.slice oa n cap) (.slice none 0 0)).run P w= .ok () w:=by simp[eqGuard]
  simp only[Sem.run_bind,hg,hb,Result.andThen_ok,Sem.run_pure]
 unfold Oper.wp
 rw[hrun]
 exact h
theorem IV{Bc st':St}{ks:List Nat}{d:Nat}{b:Bool}(h:My Bc ks d b=some st'){a:Act}{w:World}(iv:Inv ty zb Bc a w)(hd:Nat.blt d Bc.n=true):Inv ty zb st' (a.put (some d) (.bool b)) w:=by
 have iv2:Inv ty zb (Bc.put (some d) (.one (.a (.lit (.bool b))))) (a.put (some d) (.bool b)) w:=by
  obtain⟨env,g⟩:=iv.good
  have hlt: ∀d',some d=some d'→d'<a.tmps.size:=by
   intro d' e
   simp only[oI]at e
   subst e
   rw[iv.size]
   exact Nat.le_of_ble_eq_true hd
  exact⟨by rw[gC,uR];exact iv.size,by rw[put_defers];exact iv.defers,iv.kept,iv.Ej,env,mL (dst:=some d) g hlt (u:= .bool b) (show nG w Bc.hp env a.tmps (.one (.a (.lit (.bool b)))) (.bool b)from ⟨rfl,rfl⟩) fun d _=>nP ⟨_,rfl⟩⟩
 unfold My Mx at h
 split at h
 ·rename_i sl hp h1 h2
  split at h
  ·rename_i hc
   simp only[oI]at h
   subst h
   exact iv2.weaken (by rw[uR]) (kj h1) (ko h2) hc
  ·cases h
 ·cases h
theorem IW(X:Ctx P ty Γ)(cO:List (Nat×Nat))(cr:List (Nat×CR))(ks:List Nat){id:Nat}{ops:List Oper}{vc:List Prop}{p:Prop}{sT sF:St}(h:Rr P ty Γ cO cr ks ops st=some (vc,p,sT,sF))(hv:jX vc)(kT:p→Q .normal sT)(kF:Q .normal sF):
  W P ty zb (.region id ops.toArray false) Q st:=by
 intro a w iv
 unfold Rr at h
 split at h
 case h_2=>cases h
 rename_i pre o hsp
 split at h
 case h_2=>cases h
 rename_i nH Bc hrun
 split at h
 case h_2=>cases h
 rename_i d p1 hnp
 split at h
 case h_2=>cases h
 rename_i sa sb hT hF
 simp only[oI,pI]at h
 obtain⟨rfl,rfl,rfl,rfl⟩:=h
 refine wp_region_lit ?_
 rw[show wpList P ops.toArray (Ey ty zb Q) ops a w=wpList P ops.toArray (Ey ty zb Q) (pre++ [o]) a w by rw[←GK hsp]]
 refine GL X.kind X.one (fun a w iv=> ?_) hrun hv.out iv
 obtain⟨env,g⟩:=iv.good
 unfold Mw at hnp
 split at hnp
 case h_2=>cases hnp
 rename_i d0 t s ty2 hg hd hop
 have fin: ∀{oa:Option Addr} {n cap:Nat} {e ge:Nat},P.underlying t=some (.slice e)→a.tmps.getD s undef= .slice oa n cap→(oa=none→p1)→d0=d→Nat.blt d0 Bc.n=true→wpList P ops.toArray (Ey ty zb Q) [o] a w:=by
  intro oa n cap e ge hu hs hn Xy hlt
  subst Xy
  have hk: ∀a' w',(fun a' w'=>a'=a.put (some d0) (.bool oa.isNone)∧w'=w) a' w'→wpList P ops.toArray (Ey ty zb Q) [] a' w':=by
   rintro a' w' ⟨rfl,rfl⟩
   refine wpList_nil ?_
   cases oa with
   |none=>exact⟨sa,IV hT iv hlt,kT (hn rfl)⟩
   |some x=>exact⟨sb,IV hF iv hlt,kF⟩
  have hR:gD P ops.toArray o a w (fun a' w'=>a'=a.put (some d0) (.bool oa.isNone)∧w'=w) (Ey ty zb Q):=iK hg (Yb (ge:=ge) hop hu hs ⟨by rw[hd],rfl⟩)
  exact hR.mono hk
 split at hnp
 ·rename_i g1 e1 t1 l hk hl hlt
  simp only[oI,pI]at hnp
  have hC:=X.kind t
  rw[hk]at hC
  obtain⟨fp,w6,_⟩:=g.slot s _ hl
  obtain⟨oa,cap,hv0,_,_,h3⟩:=w6
  refine fin (ge:=0) hC.1 hv0 (fun hn=> ?_) hnp.1 hlt
  rw[←hnp.2]
  rcases h3 with⟨h3,_⟩| ⟨b,off,bn,rfl,_⟩
  ·exact h3
  ·cases hn
 ·rename_i g1 e1 n1 p2 t1 l hk hl hlt
  simp only[oI,pI]at hnp
  have hC:=X.kind t
  rw[hk]at hC
  obtain⟨_,⟨fp,w6,_⟩,_⟩:=g.slot s _ hl
  obtain⟨oa,cap,hv0,_,_,h3⟩:=w6
  refine fin (ge:=0) hC.1 hv0 (fun hn=> ?_) hnp.1 hlt
  rw[←hnp.2]
  rcases h3 with⟨h3,_⟩| ⟨b,off,bn,rfl,_⟩
  ·exact h3
  ·cases hn
 ·rename_i g1 e1 n1 hk hl hlt
  split at hnp
  ·rename_i t1 l ac8
   simp only[oI,pI]at hnp
   have hC:=X.kind t
   rw[hk]at hC
   obtain⟨_,hu⟩:=g.slot s _ hl
   obtain⟨oa,cap,hv0,_,_,h3⟩:=RO.sl (g.obj n1 _ ac8)
   refine fin (ge:=0) hC.1 (hu.trans hv0) (fun hn=> ?_) hnp.1 hlt
   rw[←hnp.2]
   rcases h3 with⟨h3,_⟩| ⟨b,off,bn,rfl,_⟩
   ·exact h3
   ·cases hn
  ·cases hnp
 ·cases hnp
end
end
section
variable{ty:Tag→Nat}
def V.rev(hp:Hp)(ks ns:List Nat)(m0:Nat):V→V
 | .own n=>match ns.any (Nat.beq n)with
   |true=>match look hp n with|some (.arr t l)=> .vw m0 none t l|_=> .any
   |false=>(V.own n).bz ks []
 |v=>v.bz ks []
def S1.rev(hp:Hp)(ks ns:List Nat)(m0:Nat):S1→S1
 | .a v=> .a (v.rev hp ks ns m0)
 | .agg l=> .agg (l.map (V.rev hp ks ns m0))
def SV.rev(hp:Hp)(ks ns:List Nat)(m0:Nat):SV→SV
 | .one x=> .one (x.rev hp ks ns m0)
 | .uQ l=> .uQ (l.map (S1.rev hp ks ns m0))
 | .cond p x=> .cond p (x.rev hp ks ns m0)
def Obj.rev(hp:Hp)(ks ns:List Nat)(m0:Nat):Obj→Obj
 | .box c=> .box (c.map (V.rev hp ks ns m0))
 | .arr t l=> .arr t l
 | .eZ t l s=> .eZ t l (s.bz ks [])
def I2(gl:Hp)(ks ns:List Nat)(m0:Nat)(hp:Hp):Hp:=(hp.filter fun e=> !ks.any (Nat.beq e.1)).map fun e=>(e.1,e.2.rev gl ks ns m0)
theorem zw{gl:Hp}{ks ns:List Nat}{m0:Nat}{hp:Hp}{n:Nat}:look (I2 gl ks ns m0 hp) n=if n∈ks then none else(look hp n).map (Obj.rev gl ks ns m0):=by
 unfold I2
 rw[jq (α:=Obj) (f:=fun e:Nat×Obj=>e.2.rev gl ks ns m0)]
 have h:=bI (ks:=ks) (kv:= []) (hp:=hp) (n:=n)
 unfold bW at h
 rw[jq (α:=Obj) (f:=fun e:Nat×Obj=>e.2.bz ks [])]at h
 by_cases hn:n∈ks
 ·rw[if_pos hn]at h ⊢
  cases hq:look (hp.filter fun e=> !ks.any (Nat.beq e.1)) n with
  |none=>rfl
  |some o=>rw[hq]at h;cases h
 ·rw[if_neg hn]at h ⊢
  have:look (hp.filter fun e=> !ks.any (Nat.beq e.1)) n=look hp n:=by
   induction hp with
   |nil=>rfl
   |cons e r ih=>
    obtain⟨j,x⟩:=e
    by_cases hj:j∈ks
    ·have hne:n≠j:=by rintro rfl;exact hn hj
     have hb:(ks.any (Nat.beq j))=true:=List.any_eq_true.2 ⟨j,hj,by simp⟩
     rw[List.filter_cons_of_neg (by simp[hb])]at h ⊢
     rw[aZ hne]at h ⊢
     exact ih h
    ·have hb:(ks.any (Nat.beq j))=false:=by
      rw[List.any_eq_false]
      intro y hy h2
      exact hj (by rw[Nat.eq_of_beq_eq_true h2];exact hy)
     rw[List.filter_cons_of_pos (by simp[hb])]at h ⊢
     by_cases XS:n=j
     ·subst XS;rw[look_eq,look_eq]
     ·rw[aZ XS]at h ⊢
      rw[aZ XS]at h ⊢
      exact ih h
  rw[this]
section
variable{ks ns:List Nat}{m0:Nat}{w w':World}{hp gq:Hp}{env env':Env}
theorem La{ns:List Nat}{n:Nat}(h:ns.any (Nat.beq n)=true):n∈ns:=by
 obtain⟨y,hy,h2⟩:=List.any_eq_true.1 h
 rw[Nat.eq_of_beq_eq_true h2];exact hy
theorem RA.rev(s:oQ ks [] w hp env w' gq env')(hv: ∀n t l,n∈ns→look hp n=some (.arr t l)→RA w' gq env' (.vw m0 none t l) (env n).v){v:V}{u:Value}(h:RA w hp env v u):RA w' gq env' (v.rev hp ks ns m0) u:=by
 cases v with
 |own n=>
  have e:V.rev hp ks ns m0 (.own n)=match ns.any (Nat.beq n)with
   |true=>(match look hp n with|some (.arr t l)=> .vw m0 none t l|_=> .any)
   |false=>(V.own n).bz ks []:=rfl
  rw[e]
  cases hn:ns.any (Nat.beq n)with
  |true=>
   obtain⟨⟨t,l,hl⟩,rfl⟩:=h
   rw[hl]
   exact hv n t l (La hn) hl
  |false=>exact RA.gr s h
 |_=>exact RA.gr s h
theorem eT.rev(s:oQ ks [] w hp env w' gq env')(hv: ∀n t l,n∈ns→look hp n=some (.arr t l)→RA w' gq env' (.vw m0 none t l) (env n).v){x:S1}{u:Value}(h:eT w hp env x u):eT w' gq env' (x.rev hp ks ns m0) u:=by
 cases x with
 |a v=>exact RA.rev s hv h
 |agg l=>obtain⟨cs,hu,hl⟩:=h;exact⟨cs,hu,hl.map fun a b hr=>RA.rev s hv hr⟩
theorem nG.rev(s:oQ ks [] w hp env w' gq env')(hv: ∀n t l,n∈ns→look hp n=some (.arr t l)→RA w' gq env' (.vw m0 none t l) (env n).v){tmps:Array Value}{x:SV}{u:Value}(h:nG w hp env tmps x u):nG w' gq env' tmps (x.rev hp ks ns m0) u:=by
 cases x with
 |one x=>exact eT.rev s hv h
 |uQ l=>obtain⟨us,hu,hl⟩:=h;exact⟨us,hu,hl.map fun a b hr=>eT.rev s hv hr⟩
 |cond p x=>exact⟨fun hh=>eT.rev s hv (h.1 hh),h.2⟩
theorem RO.rev(s:oQ ks [] w hp env w' gq env')(hv: ∀n t l,n∈ns→look hp n=some (.arr t l)→RA w' gq env' (.vw m0 none t l) (env n).v){n:Nat}{o:Obj}{co:CO}(h:RO ty w hp env n o co)(hk: ∀b,b∈co.fp→w'.heap[b]? =w.heap[b]?):RO ty w' gq env' n (o.rev hp ks ns m0) co:=by
 cases o with
 |box c=>
  obtain⟨b,cs,e,rfl,hh,hc⟩:=h
  exact⟨b,cs,e,rfl,by rw[hk b (by simp)];exact hh,hc.map fun a u hr=>RA.rev s hv hr⟩
 |arr t l=>exact RO.agree h hk
 |eZ t l r=>
  rcases RO.Cl h with⟨rfl,h⟩| ⟨u,rfl,h⟩| ⟨p,rfl,h⟩| ⟨hr,h1,us,hB,h2,h3⟩
  ·exact H7.agree h hk
  ·exact F9.step s hk h
  ·exact yP.gr s hk h
  ·exact RO.N4 (pP.Ik hr) ⟨h1,us,ig.agree wE hB hk,h2,fun i x u hx hu=>BE.gr s (h3 i x u hx hu)⟩
end
section
variable{P:Program}{zb:cm}{st:St}{a:Act}{w:World}{env:Env}
theorem Ry(g:Good ty zb st a.tmps w env)(hB:zb.w.heap.size≤w.heap.size){ks ns:List Nat}{d:Nat}(Xz:jg d=false)(hd:look (bW ks [] st.hp) d=none){v v':Value}{w':World}{t:Tag}{l:List (T t)}{fp fx e9:List Nat}
  (eR: ∀b,b∈fp++fx→ ∃i o,i∈ks∧look st.hp i=some o∧b∈(env i).fp)(AD: ∀b,v.ownBlock=some b→b∈fp)
  (XA:ig (kk t) (rd t) 0 (ty t) w' v' l e9)(hg:w.grownBy w' v.ownBlock)(hsub: ∀b,b∈e9→b∈fp∨b∈fx∨w.heap.size≤b)
  (Kp: ∀n,n∈ns→n∈ks)(hin: ∀n o b,n∈ns→look st.hp n=some o→b∈(env n).fp→b∈e9∧w'.heap[b]? =w.heap[b]?):
  ∃env',Good ty zb ⟨st.n,st.sl.map fun e=>(e.1,e.2.rev st.hp ks ns d),(d, .arr t l)::I2 st.hp ks ns d st.hp⟩ a.tmps w' env'∧(env' d).v=v':=by
 refine⟨fun n=>if n=d then⟨v',e9⟩else env n,?_,by simp⟩
 have hlk: ∀m o,look ((d,Obj.arr t l)::I2 st.hp ks ns d st.hp) m=some o→(m=d∧o= .arr t l)∨(m≠d∧m∉ks∧ ∃o',look st.hp m=some o'∧o=o'.rev st.hp ks ns d):=by
  intro m o hm
  by_cases gE:m=d
  ·subst gE;rw[look_eq]at hm;simp only[oI]at hm;exact Or.inl ⟨rfl,hm.symm⟩
  ·rw[aZ gE,zw]at hm
   split at hm
   ·cases hm
   ·rename_i hks
    cases hq:look st.hp m with
    |none=>rw[hq]at hm;cases hm
    |some o'=>rw[hq]at hm;simp only[Option.map_some,oI]at hm;exact Or.inr ⟨gE,hks,o',rfl,hm.symm⟩
 have how: ∀b,b∈e9→b<w.heap.size→ ∃i o,i∈ks∧look st.hp i=some o∧b∈(env i).fp:=by
  intro b hb hlt
  rcases hsub b hb with h|h|h
  ·exact eR b (List.mem_append_left _ h)
  ·exact eR b (List.mem_append_right _ h)
  ·omega
 have hnd: ∀m o,m∉ks→look st.hp m=some o→m≠d:=by
  rintro m o hks h1 rfl
  rw[bI,if_neg hks,h1]at hd
  cases hd
 have hst: ∀m o,m∉ks→look st.hp m=some o→ ∀b,b∈(env m).fp→w'.heap[b]? =w.heap[b]? :=by
  intro m o hks h3 b hb
  refine hg.block b ((g.obj m o h3).va b hb) fun e=> ?_
  obtain⟨i,oi,hi,h5,h6⟩:=eR b (List.mem_append_left _ (AD b e.symm))
  exact g.iq m i _ _ (fun e=>hks (e▸hi)) h3 h5 b hb h6
 have s:oQ ks [] w st.hp env w' ((d, .arr t l)::I2 st.hp ks ns d st.hp) (fun n=>if n=d then⟨v',e9⟩else env n):=by
  refine⟨fun b hb hno=>hg.block b hb fun e=> ?_,?_,?_,?_⟩
  ·obtain⟨i,o',_,h1,h2⟩:=eR b (List.mem_append_left _ (AD b e.symm))
   exact hno ⟨i,o',h1,h2⟩
  ·rintro b hb ⟨m,o',h1,h2⟩
   rcases hlk m o' h1 with⟨rfl,rfl⟩| ⟨gE,hks,we,h3,rfl⟩
   ·simp at h2
    obtain⟨i,o',_,h3,h4⟩:=how b h2 hb
    exact⟨i,o',h3,h4⟩
   ·simp[gE]at h2
    exact⟨m,we,h3,h2⟩
  ·intro m o' hks h1
   have gE:=hnd m o' hks h1
   refine⟨o'.rev st.hp ks ns d,by rw[aZ gE,zw,if_neg hks,h1];rfl,by cases o'<;>simp[Obj.like,Obj.rev],by simp[gE]⟩
  ·rintro m t' l' ⟨hks,_⟩ h1
   have gE:=hnd m _ hks h1
   exact⟨by rw[aZ gE,zw,if_neg hks,h1];rfl,by simp[gE],hst m _ hks h1⟩
 have hv: ∀n t1 l1,n∈ns→look st.hp n=some (.arr t1 l1)→RA w' ((d, .arr t l)::I2 st.hp ks ns d st.hp) (fun n=>if n=d then⟨v',e9⟩else env n) (.vw d none t1 l1) (env n).v:=by
  intro n t1 l1 hn hl
  have w6:=RO.sl (g.obj n _ hl)
  refine⟨⟨_,_,look_eq⟩,⟨_,Sl.agree (cX t1) w6 fun b hb=>(hin n _ b hn hl hb).2,(RO.own (g.obj n _ hl)).nodup,fun b hb=> ?_⟩,fun _ _ h=>by cases h⟩
  simp only[if_true]
  exact(hin n _ b hn hl hb).1
 have QH:Good ty zb ⟨st.n,st.sl.map fun e=>(e.1,e.2.rev st.hp ks ns d),(d, .arr t l)::I2 st.hp ks ns d st.hp⟩ a.tmps w' (fun n=>if n=d then⟨v',e9⟩else env n):=by
  refine⟨fun m o' hm=> ?_,fun m m' o1 o2 hne h1 h2 b hb hb'=> ?_,fun s1 x hl=> ?_,fun m o' hm b hb=> ?_,fun m hm=> ?_⟩
  ·rcases hlk m o' hm with⟨rfl,rfl⟩| ⟨gE,hks,we,h3,rfl⟩
   ·simp only[if_true];exact RO.EU XA
   ·simp only[if_neg gE]
    exact RO.rev s hv (g.obj m we h3) (hst m we hks h3)
  ·rcases hlk m o1 h1 with⟨e1,_⟩| ⟨gE,hks,q1,h3,_⟩<;>rcases hlk m' o2 h2 with⟨e2,_⟩| ⟨Ba,KE,q2,h4,_⟩
   ·exact hne (e1.trans e2.symm)
   ·simp only[if_pos e1]at hb
    simp only[if_neg Ba]at hb'
    have hlt:=(g.obj m' q2 h4).va b hb'
    obtain⟨i,oi,hi,h5,h6⟩:=how b hb hlt
    exact g.iq m' i _ _ (fun e=>KE (e▸hi)) h4 h5 b hb' h6
   ·simp only[if_pos e2]at hb'
    simp only[if_neg gE]at hb
    have hlt:=(g.obj m q1 h3).va b hb
    obtain⟨i,oi,hi,h5,h6⟩:=how b hb' hlt
    exact g.iq m i _ _ (fun e=>hks (e▸hi)) h3 h5 b hb h6
   ·simp only[if_neg gE]at hb
    simp only[if_neg Ba]at hb'
    exact g.iq m m' _ _ hne h3 h4 b hb hb'
  ·have hl:look (st.sl.map fun e=>(e.1,e.2.rev st.hp ks ns d)) s1=some x:=hl
   rw[jq (α:=SV) (f:=fun e:Nat×SV=>e.2.rev st.hp ks ns d)]at hl
   cases hq:look st.sl s1 with
   |none=>rw[hq]at hl;cases hl
   |some y=>
    rw[hq]at hl
    simp only[Option.map_some,oI]at hl
    subst hl
    exact nG.rev s hv (g.slot s1 y hq)
  ·rcases hlk m o' hm with⟨e1,_⟩| ⟨gE,hks,q1,h3,_⟩
   ·simp only[if_pos e1]at hb
    by_cases hlt:b<w.heap.size
    ·obtain⟨i,oi,hi,h5,h6⟩:=how b hb hlt
     exact g.dom i oi h5 b h6
    ·exact Or.inr (by omega)
   ·simp only[if_neg gE]at hb
    exact g.dom m q1 h3 b hb
  ·have:m≠d:=by rintro rfl;rw[Xz]at hm;cases hm
   simp only[if_neg this]
   exact g.pins m hm
 exact QH
theorem zx(g:Good ty zb st a.tmps w env): ∀{l c:List V} {k:List Nat} {us:List Value},bA (RA w st.hp env) l us→takes st l=some (c,k)→k.Nodup→
  ∃fp,bT w c us fp∧Own 0 w fp∧(∀b,b∈fp→ ∃i o,i∈k∧look st.hp i=some o∧b∈(env i).fp)∧ ∀i b,i∈k→b∈(env i).fp→b∈fp
 | [],c,k,us,hr,h,_=>by
   simp only[takes,oI,pI]at h
   obtain⟨rfl,rfl⟩:=h
   cases us with
   |nil=>exact⟨[],rfl,Own.nil _ _,by simp,by simp⟩
   |cons _ _=>exact hr.elim
 |v::r,c,k,us,hr,h,hnd=>by
  cases us with
  |nil=>exact hr.elim
  |cons u us=>
   cases v with
   |lit x=>
    simp only[takes]at h
    split at h
    ·rename_i c' k' h'
     simp only[oI,pI]at h
     obtain⟨rfl,rfl⟩:=h
     obtain⟨fp,h1,h2,h3,h4⟩:=zx g hr.2 h' hnd
     obtain⟨e1,e2⟩:=hr.1
     exact⟨fp,⟨[],fp,⟨e1,e2,rfl⟩,h1,rfl⟩,h2,h3,h4⟩
    ·cases h
   |own n=>
    simp only[takes]at h
    split at h
    ·rename_i t l c' k' hl h'
     simp only[oI,pI]at h
     obtain⟨rfl,rfl⟩:=h
     obtain⟨hn1,hn2⟩:=List.nodup_cons.1 hnd
     obtain⟨fp,h1,h2,h3,h6⟩:=zx g hr.2 h' hn2
     obtain⟨_,rfl⟩:=hr.1
     have hb:=RO.sl (g.obj n _ hl)
     have ho:=RO.own (g.obj n _ hl)
     refine⟨(env n).fp++fp,⟨_,_,hb,h1,rfl⟩,⟨List.nodup_append.2 ⟨ho.nodup,h2.nodup,?_⟩,fun b hb=> ?_,fun b hb=> ?_⟩,fun b hb=> ?_,fun i b hi hbi=> ?_⟩
     ·rintro b hb x hx rfl
      obtain⟨i,o,hi,h4,h5⟩:=h3 b hx
      exact g.iq n i _ _ (fun e=>hn1 (e▸hi)) hl h4 b hb h5
     ·rcases List.mem_append.1 hb with hb|hb
      ·exact ho.ge b hb
      ·exact h2.ge b hb
     ·rcases List.mem_append.1 hb with hb|hb
      ·exact ho.kind b hb
      ·exact h2.kind b hb
     ·rcases List.mem_append.1 hb with hb|hb
      ·exact⟨n,_,by simp,hl,hb⟩
      ·obtain⟨i,o,hi,h4,h5⟩:=h3 b hb
       exact⟨i,o,List.mem_cons_of_mem _ hi,h4,h5⟩
     ·rcases List.mem_cons.1 hi with rfl|hi
      ·exact List.mem_append_left _ hbi
      ·exact List.mem_append_right _ (h6 i b hi hbi)
    ·cases h
   |_=>simp[takes]at h
theorem Dc(g:Good ty zb st a.tmps w env){t:Tag}: ∀{ps:List (Nat×Operand)} {i:Nat} {vc:List Prop} {xs:List (T t)} {ks:List Nat},CD st t i ps=some (vc,xs,ks)→ks.Nodup→(∀q,q∈vc→q)→
  (ps.map fun p=>(p.1,a.eval p.2))=ur i (ps.map fun p=>a.eval p.2)∧xs.length=ps.length∧ ∃bn:List (List Nat),bn.length=xs.length∧
   (∀(i:Nat) (x:T t) (f:List Nat),xs[i]? =some x→bn[i]? =some f→ ∃p:Nat×Operand,ps[i]? =some p∧rd t w (a.eval p.2).cells.toList x f)∧Own 0 w bn.flatten∧(∀b,b∈bn.flatten→ ∃i o,i∈ks∧look st.hp i=some o∧b∈(env i).fp)∧
   ∀i b,i∈ks→b∈(env i).fp→b∈bn.flatten
 | [],i,vc,xs,ks,h,_,_=>by
   simp only[CD,oI,pI]at h
   obtain⟨rfl,rfl,rfl⟩:=h
   exact⟨rfl,rfl,[],rfl,by simp,Own.nil _ _,by simp,by simp⟩
 | (j,x)::r,i,vc,xs,ks,h,hnd,hv=>by
   simp only[CD]at h
   split at h
   ·rename_i s hij hx
    have hij:=Nat.eq_of_beq_eq_true hij
    subst hij
    split at h
    ·rename_i c k hc
     split at h
     ·rename_i nH y vcs ys ks1 he hb
      simp only[oI,pI]at h
      obtain⟨rfl,rfl,rfl⟩:=h
      obtain⟨hn1,hn2,TM⟩:=List.nodup_append.1 hnd
      obtain⟨q1,q2,bn,q3,q4,q5,q6,q7⟩:=Dc g hb hn2 (fun q hq=>hv q (List.mem_append_right _ hq))
      obtain⟨fp,r1,r2,r3,r4⟩:=zx g (iM g (dB g (fun e he=>by simp at he) hx) (fj hc)) hc hn1
      have hE:=pX t he (fun q hq=>hv q (List.mem_append_left _ hq)) r1
      refine⟨by simp[ur,q1],by simp[q2],fp::bn,by simp[q3],?_,⟨?_,?_,?_⟩,?_,?_⟩
      ·intro i' x' f hx' hf
       cases i' with
       |zero=>simp at hx' hf;subst hx';subst hf;exact⟨(i,x),rfl,hE⟩
       |succ n=>simp at hx' hf;obtain⟨p,h1,h2⟩:=q4 n x' f hx' hf;exact⟨p,by simpa using h1,h2⟩
      ·rw[List.flatten_cons]
       refine List.nodup_append.2 ⟨r2.nodup,q5.nodup,?_⟩
       rintro b hb z hz rfl
       obtain⟨n,o1,h1,h2,h3⟩:=r3 b hb
       obtain⟨m,o2,h4,h5,h6⟩:=q6 b hz
       exact g.iq n m _ _ (fun e=>TM n h1 m h4 e) h2 h5 b h3 h6
      ·intro b hb
       rw[List.flatten_cons]at hb
       rcases List.mem_append.1 hb with hb|hb
       ·exact r2.ge b hb
       ·exact q5.ge b hb
      ·intro b hb
       rw[List.flatten_cons]at hb
       rcases List.mem_append.1 hb with hb|hb
       ·exact r2.kind b hb
       ·exact q5.kind b hb
      ·intro b hb
       rw[List.flatten_cons]at hb
       rcases List.mem_append.1 hb with hb|hb
       ·obtain⟨n,o1,h1,h2,h3⟩:=r3 b hb;exact⟨n,o1,List.mem_append_left _ h1,h2,h3⟩
       ·obtain⟨n,o1,h1,h2,h3⟩:=q6 b hb;exact⟨n,o1,List.mem_append_right _ h1,h2,h3⟩
      ·intro n b hn hb
       rw[List.flatten_cons]
       rcases List.mem_append.1 hn with hn|hn
       ·exact List.mem_append_left _ (r4 n b hn hb)
       ·exact List.mem_append_right _ (q7 n b hn hb)
     ·cases h
    ·cases h
   ·cases h
end
def Yg(d:Nat):Operand→Bool
 | .tmp s=> !Nat.beq s d
 | .const _=>true
 |_=>false
def Yh(P:Program)(ty:Tag→Nat)(Γ:Nat→TK)(st:St)(m0:Nat)(o1 o2:Oper):Option (List Prop×St):=
 match o1.guard,o1.dst,o1.op with
 |none,some d1, .buildSlice tb len parts=>match Γ tb with
  | .sl t e=>match Nat.beq e (ty t)&&Nat.beq parts.toList.length len&&Nat.ble (len*kk t) 16777216,CD st t 0 parts.toList with
    |true,some (vc,lx,m)=>match o2.guard,o2.dst,o2.op with
     |none,some d2, .call ⟨.builtin .append,xs,ts⟩=>match xs.toList,ts.toList with
      | [s, .tmp d],[t1,t2]=>match Nat.beq d d1&&Yg d1 s&&Nat.beq t1 tb&&Nat.beq t2 tb,ff st [] s with
        |true,some vs=>match CA st t vs with
         |some (l,k)=>match oy m&&wP k m&& !pinned k&& !jg m0&&Nat.blt d1 st.n&&Nat.blt d2 st.n,look (bW (l6 k m) [] st.hp) m0 with
          |true,none=>some ([El P ty t,(l.length+lx.length)*cK t≤140737488355328∧l.length+lx.length≤maxLen]++vc,
            (St.put ⟨st.n,st.sl.map fun e=>(e.1,e.2.rev st.hp (l6 k m) m m0),(m0, .arr t (l++lx))::I2 st.hp (l6 k m) m m0 st.hp⟩ (some d1) (.one (.a .any))).put (some d2) (.one (.a (.own m0))))
          |_,_=>none
         |none=>none
        |_,_=>none
      |_,_=>none
     |_,_,_=>none
    |_,_=>none
  |_=>none
 |_,_,_=>none
theorem Lb{w:World}{base:Nat}{e:TypeId}{k g o n cap:Nat}{xs:List Value}(h:gw w base e k (.slice (some ⟨g,o,none⟩) n cap) n xs): ∀j u,xs[j]? =some u→w.cell? ((⟨g,o,none⟩:Addr).add j)=some u:=by
 intro j u hu
 rcases h.2 with⟨h1,_⟩| ⟨g',o',cap',cur,hv,_,hg,_,_,_,BV⟩
 ·cases h1
 ·simp only[Value.slice.injEq,oI,Addr.mk.injEq,and_true,true_and]at hv
  obtain⟨⟨rfl,rfl⟩,rfl⟩:=hv
  rw[Addr.add_mid]
  exact tF hg j u (by rw[BV];exact hu)
section
variable{P:Program}{zb:cm}{st:St}{a:Act}{w:World}{env:Env}{o:Oper}
theorem Vg{Γ:Nat→TK}(C: ∀t,cG P t (Γ t)){m0:Nat}{o1 o2:Oper}{vc:List Prop}{st':St}(h:Yh P ty Γ st m0 o1 o2=some (vc,st'))(hv: ∀q,q∈vc→q)(iv:Inv ty zb st a w)
  {ops:Array Oper}{tail:List Oper}{Q:Exit→Act→World→Prop}(hQ: ∀a w,Inv ty zb st' a w→wpList P ops Q tail a w):wpList P ops Q (o1::o2::tail) a w:=by
 obtain⟨env,g⟩:=iv.good
 have hB:=iv.kept.size
 unfold Yh at h
 split at h
 case h_2=>cases h
 rename_i d1 tb len parts hg1 hd1 ho1
 split at h
 case h_2=>cases h
 rename_i t e hk
 split at h
 case h_2=>cases h
 rename_i nH lx m vk hb
 split at h
 case h_2=>cases h
 rename_i d2 xs ts hg2 hd2 Pr
 split at h
 case h_2=>cases h
 rename_i s d t1 t2 hxl htl
 split at h
 case h_2=>cases h
 rename_i vs Gk hs
 split at h
 case h_2=>cases h
 rename_i l k hds
 split at h
 case h_2=>cases h
 rename_i hc3 hlk
 simp only[oI,pI,dM]at h
 rw[dM]at hlk
 obtain⟨rfl,ada⟩:=h
 simp only[Bool.and_eq_true,Bool.not_eq_true']at vk Gk hc3
 obtain⟨⟨he,hlen⟩,hbig⟩:=vk
 obtain⟨⟨⟨Xy,hoff⟩,ht1⟩,ht2⟩:=Gk
 obtain⟨⟨⟨⟨⟨hnd,hno⟩,hpk⟩,Cx⟩,hl1⟩,lO⟩:=hc3
 have he:=Nat.eq_of_beq_eq_true he
 obtain rfl:=Nat.eq_of_beq_eq_true Xy
 obtain rfl:=Nat.eq_of_beq_eq_true ht1
 obtain rfl:=Nat.eq_of_beq_eq_true ht2
 obtain rfl:xs= #[s, .tmp d]:=by cases xs;simp_all
 obtain rfl:ts= #[t2,t2]:=by cases ts;simp_all
 have qM:El P ty t:=hv _ (by simp)
 obtain⟨bf,bU⟩:(l.length+lx.length)*cK t≤140737488355328∧l.length+lx.length≤maxLen:=hv _ (by simp)
 obtain⟨q1,q2,bn,q3,q4,q5,q6,q7⟩:=Dc g hb (iT hnd) (fun q hq=>hv q (by simp[hq]))
 have hC:=C t2
 rw[hk,he]at hC
 have hlen:=Nat.eq_of_beq_eq_true hlen
 obtain⟨w1,r1,r2,r3⟩:=tL (P:=P) (w:=w) (a:=a) ho1 hC.1 qM (Nat.le_of_ble_eq_true hbig) hlen (Nat.zero_le _) q1 q2 q3 q4 q5
 have g1:Good ty zb st a.tmps w1 env:=by
  have:=Good.grow hB g (os:= []) rfl (ke.none r2)
  exact this
 have TU:zb.w.heap.size≤w1.heap.size:=Nat.le_trans hB r2.size
 have ZC:gD P ops o1 a w (fun a' w'=>a'=a.put o1.dst (.slice (some ⟨w.heap.size,0,none⟩) len len)∧w1=w') Q:=by
  refine iK hg1 ?_
  unfold Oper.wp
  rw[r1]
  exact⟨rfl,rfl⟩
 refine ZC.mono ?_
 rintro a1 w1 ⟨rfl,rfl⟩
 have uu:d<a.tmps.size:=by rw[iv.size];exact Nat.le_of_ble_eq_true hl1
 have adb:d2<a.tmps.size:=by rw[iv.size];exact Nat.le_of_ble_eq_true lO
 rw[hd1]
 have lP:(a.put (some d) (.slice (some ⟨w.heap.size,0,none⟩) len len)).eval s=a.eval s:=by
  cases s with
  |tmp s=>
   simp only[Yg,Bool.not_eq_true']at hoff
   have hne:s≠d:=by rintro rfl;simp at hoff
   show(a.tmps.setIfInBounds d _).getD s undef=a.tmps.getD s undef
   rw[Array.getD_eq_getD_getElem?,Array.getD_eq_getD_getElem?,Array.getElem?_setIfInBounds_ne (fun e=>hne e.symm)]
  |const v=>rfl
  |_=>simp[Yg]at hoff
 have hxv:(a.put (some d) (.slice (some ⟨w.heap.size,0,none⟩) len len)).eval (.tmp d)= .slice (some ⟨w.heap.size,0,none⟩) len len:=by
  show(a.tmps.setIfInBounds d _).getD d undef=_
  rw[Array.getD_eq_getD_getElem?,Array.getElem?_setIfInBounds_self_of_lt uu];rfl
 obtain⟨fp,hD,rH⟩:=yW g1 (dB g1 (fun e he=>by simp at he) hs) hds hpk
 obtain⟨news,fx,hown,hfl,Ur,eR,hfo⟩:=r3
 have Mb:fx.flatten=bn.flatten:=by simpa[Value.ownBlock]using eR.symm
 have hq5:Own 0 w1 bn.flatten:=q5.below r2
 have hlx:len=lx.length:=by rw[q2,hlen]
 have NP:Own 0 w1 (fp++fx.flatten):=by
  rw[Mb]
  have ho:=hD.own
  refine⟨List.nodup_append.2 ⟨ho.nodup,hq5.nodup,?_⟩,fun b hb=> ?_,fun b hb=> ?_⟩
  ·rintro b hb c hc rfl
   obtain⟨i,oi,hi,h1,h2⟩:=rH b hb
   obtain⟨j,oj,hj,h3,h4⟩:=q6 b hc
   have hij:i≠j:=by
    rintro rfl
    simp only[wP,List.all_eq_true,Bool.not_eq_true',List.any_eq_false]at hno
    exact hno i hi i hj (by simp)
   exact g.iq i j _ _ hij h1 h3 b h2 h4
  ·rcases List.mem_append.1 hb with hb|hb
   ·exact ho.ge b hb
   ·exact hq5.ge b hb
  ·rcases List.mem_append.1 hb with hb|hb
   ·exact ho.kind b hb
   ·exact hq5.kind b hb
 have AD: ∀b,(a.eval s).ownBlock=some b→b∈fp:=by
  intro b hb
  obtain⟨xs,bn,_,_,_,eR,_⟩:=hD
  rw[eR,hb];simp
 have hsrc:Src w1 (.slice (some ⟨w.heap.size,0,none⟩) len len) lx.length news:=by
  subst hlx
  exact Or.inr ⟨⟨w.heap.size,0,none⟩,_,rfl,Lb hown⟩
 have hR2:gD P ops o2 (a.put (some d) (.slice (some ⟨w.heap.size,0,none⟩) len len)) w1 (fun a' w'=>Inv ty zb st' a' w') Q:=by
  refine iK hg2 ?_
  refine Bs s (.tmp d) t2 Pr (cX t) (eS t) 0 (ty t) (eF t) (cK t) hC.1 qM (iJ t) (a.eval s) l fp lP hD _ hxv lx news fx hsrc hfl hown.1 Ur NP bU bf (Nat.zero_le _) ?_
  intro v' w' e9 k1 k2 k3 k4 k5 k6
  obtain⟨env',hg',CC⟩:=Ry (ty:=ty) g1 TU (ks:=k++m) (ns:=m) Cx hlk (v:=a.eval s) (fp:=fp) (fx:=bn.flatten)
   (by
    intro b hb
    rcases List.mem_append.1 hb with hb|hb
    ·obtain⟨i,oi,hi,h1⟩:=rH b hb;exact⟨i,oi,List.mem_append_left _ hi,h1⟩
    ·obtain⟨i,oi,hi,h1⟩:=q6 b hb;exact⟨i,oi,List.mem_append_right _ hi,h1⟩)
   AD k1 k2 (fun b hb=>by
    rcases k4 b hb with h|h|h
    ·exact Or.inl h
    ·exact Or.inr (Or.inl (Mb▸h))
    ·exact Or.inr (Or.inr (by omega)))
   (fun n hn=>List.mem_append_right _ hn)
   (fun n o b hn hl hb=>by
    have KG:=q7 n b hn hb
    refine⟨k6 b (by rw[Mb];exact KG),k2.block b (hq5.lt b KG) fun e=> ?_⟩
    obtain⟨i,oi,hi,h1,h2⟩:=rH b (AD b e.symm)
    have hij:i≠n:=by
     rintro rfl
     simp only[wP,List.all_eq_true,Bool.not_eq_true',List.any_eq_false]at hno
     exact hno i hi i hn (by simp)
    exact g.iq i n _ _ hij h1 hl b h2 hb)
  have aaF:Kept zb w1 w':=by
   refine⟨k2.os,k2.tape,k2.output,k2.size,fun b hb hn=>k2.block b (by omega) fun e=> ?_,k5⟩
   obtain⟨i,oi,hi,h1,h2⟩:=rH b (AD b e.symm)
   rcases g.dom i oi h1 b h2 with h|h
   ·exact hn h
   ·omega
  rw[←ada]
  refine⟨?_,?_,(iv.kept.trans (j9 r2 hB)).trans aaF,iv.Ej,env',?_⟩
  ·rw[gC,gC,uR,uR];exact iv.size
  ·rw[put_defers,put_defers];exact iv.defers
  ·have gp:=mL hg' (dst:=some d) (fun _ e=>by cases e;exact uu) (v:= .one (.a .any)) (u:= .slice (some ⟨w.heap.size,0,none⟩) len len) trivial (fun d _=>nP ⟨_,rfl⟩)
   rw[hd2]
   refine mL gp (fun _ e=>by cases e;rw[gC];exact adb) ?_ (fun d _=>nP ⟨_,rfl⟩)
   rw[Xw]
   exact⟨⟨t,_,look_eq⟩,CC.symm⟩
 exact hR2.mono fun a' w' oA=>hQ a' w' oA
end
def Dd:Nat→List Oper→Option (List Oper×Oper×Oper×List Oper)
 |0,o1::o2::r=>some ([],o1,o2,r)
 |n+1,o::r=>match Dd n r with
  |some (p,o1,o2,q)=>some (o::p,o1,o2,q)
  |none=>none
 |_,_=>none
theorem Fh: ∀{n:Nat} {l p q:List Oper} {o1 o2:Oper},Dd n l=some (p,o1,o2,q)→l=p++o1::o2::q
 |0,[],_,_,_,_,h=>by cases h
 |0,[_],_,_,_,_,h=>by cases h
 |0,o1::o2::r,p,q,a,b,h=>by
  simp only[Dd,oI,pI]at h
  obtain⟨rfl,rfl,rfl,rfl⟩:=h;rfl
 |n+1,[],_,_,_,_,h=>by cases h
 |n+1,o::r,p,q,a,b,h=>by
  simp only[Dd]at h
  split at h
  ·rename_i p' o1 o2 q' h'
   simp only[oI,pI]at h
   obtain⟨rfl,rfl,rfl,rfl⟩:=h
   rw[Fh h'];rfl
  ·cases h
def runK(P:Program)(ty:Tag→Nat)(Γ:Nat→TK)(cO:List (Nat×Nat))(cr:List (Nat×CR))(ops rest:List Oper)(nH:List Prop):Option (List Prop×St)→Option (List Prop×St)
 |some ([p,q],⟨n,sl,hp⟩)=>run P ty Γ cO cr ops rest ⟨n,sl,hp⟩ (p::q::nH)
 |some ([p,q,r],⟨n,sl,hp⟩)=>run P ty Γ cO cr ops rest ⟨n,sl,hp⟩ (p::q::r::nH)
 |some (l,⟨n,sl,hp⟩)=>run P ty Γ cO cr ops rest ⟨n,sl,hp⟩ (l++nH)
 |none=>none
def fR:Option (List Prop×St)→Option (List Prop×St)
 |some (l,st)=>match Oo st with|some st=>some (l,st)|none=>none
 |none=>none
theorem aaG{x:Option (List Prop×St)}{y:List Prop×St}(h:fR x=some y):x=some y:=by
 unfold fR at h
 split at h
 ·split at h
  ·rename_i l st BC hs
   simp only[oI]at h
   rw[←h,mP hs]
  ·cases h
 ·cases h
theorem Vh{P:Program}{Γ:Nat→TK}{cO:List (Nat×Nat)}{cr:List (Nat×CR)}{ops rest:List Oper}{nH:List Prop}{x:Option (List Prop×St)}{y:List Prop×St}(h:runK P ty Γ cO cr ops rest nH x=some y):
  ∃l st acc,x=some (l,st)∧run P ty Γ cO cr ops rest st acc=some y∧ ∀q,q∈l++nH→q∈acc:=by
 unfold runK at h
 split at h
 ·exact⟨_,_,_,rfl,h,fun q hq=>by simpa using hq⟩
 ·exact⟨_,_,_,rfl,h,fun q hq=>by simpa using hq⟩
 ·exact⟨_,_,_,rfl,h,fun q hq=>by simpa using hq⟩
 ·cases h
def aaH(P:Program)(ty:Tag→Nat)(Γ:Nat→TK)(cO:List (Nat×Nat))(cr:List (Nat×CR))(ks:List Nat)(ix m0:Nat)(ops:List Oper):St→Option (List Prop×St)
 | ⟨n,WB,gl⟩=>match Dd ix ops with
   |some (pre,o1,o2,rest)=>match run P ty Γ cO cr ops pre ⟨n,WB,gl⟩ []with
    |some (nH,Bc)=>match runK P ty Γ cO cr ops rest nH (fR (Yh P ty Γ Bc m0 o1 o2))with
     |some (vc,st')=>match Mx n st' ks,Nat.beq st'.n n with
      |some BC,true=>some (vc,BC)
      |_,_=>none
     |none=>none
    |none=>none
   |none=>none
section
variable{P:Program}{Γ:Nat→TK}{zb:cm}{Q:Post}{st:St}
theorem ME(X:Ctx P ty Γ)(cO:List (Nat×Nat))(cr:List (Nat×CR))(ks:List Nat)(ix m0:Nat){id:Nat}{ops:List Oper}{vc:List Prop}{st':St}(h:aaH P ty Γ cO cr ks ix m0 ops st=some (vc,st'))(hv:jX vc)(k:Q .normal st'):
  W P ty zb (.region id ops.toArray false) Q st:=by
 intro a w iv
 obtain⟨n,WB,gl⟩:=st
 unfold G.aaH at h
 dsimp only at h
 split at h
 case h_2=>cases h
 rename_i pre o1 o2 rest hsp
 split at h
 case h_2=>cases h
 rename_i nH Bc hrun
 split at h
 case h_2=>cases h
 rename_i Zv BC hk
 split at h
 case h_2=>cases h
 rename_i st3 hkeep hn
 simp only[oI,pI]at h
 obtain⟨rfl,rfl⟩:=h
 obtain⟨l,st4,acc,he,Rz,hacc⟩:=Vh hk
 have he:=aaG he
 have hv:=hv.out
 refine wp_region_lit ?_
 rw[show wpList P ops.toArray (Ey ty zb Q) ops a w=wpList P ops.toArray (Ey ty zb Q) (pre++o1::o2::rest) a w by rw[←Fh hsp]]
 refine GL X.kind X.one (fun a w iv=> ?_) hrun (fun q hq=>hv q (w7 Rz q (hacc q (List.mem_append_right _ hq)))) iv
 refine Vg X.kind he (fun q hq=>hv q (w7 Rz q (hacc q (List.mem_append_left _ hq)))) iv fun a w iv=> ?_
 refine KW X.kind X.one (fun a w iv=>⟨_,?_,k⟩) Rz hv iv
 unfold Mx at hkeep
 split at hkeep
 ·rename_i sl hp h1 h2
  split at hkeep
  ·rename_i hc
   simp only[oI]at hkeep
   subst hkeep
   exact iv.weaken (Nat.eq_of_beq_eq_true hn).symm (kj h1) (ko h2) hc
  ·cases hkeep
 ·cases hkeep
end
def rename(st:St)(s m:Nat):Option St:=match look st.sl s,Nat.blt s st.n with
 |some (.one (.a (.own n))),true=>match look st.hp n,pinned [n],jg m,look (bW [n] [] st.hp) m with
  |some (.arr t l),false,false,none=>Oo ((st.gone [n] m t l).put (some s) (.one (.a (.own m))))
  |_,_,_,_=>none
 |_,_=>none
theorem OG{zb:cm}{st st':St}{s m:Nat}(h:rename st s m=some st'){a:Act}{w:World}(iv:Inv ty zb st a w):Inv ty zb st' a w:=by
 obtain⟨env,g⟩:=iv.good
 have hB:=iv.kept.size
 unfold rename at h
 split at h
 case h_2=>cases h
 rename_i n hs hlt
 split at h
 case h_2=>cases h
 rename_i t l hl hpk Cx hlk
 have h:=mP h
 rw[St.gone_eq]at h
 have Wn:soft n=false:=mM hpk (by simp)
 have hb:=RO.TJ Wn (g.obj n _ hl)
 have AD: ∀b,(env n).v.ownBlock=some b→b∈(env n).fp:=by
  intro b hb'
  obtain⟨xs,bn,_,_,_,eR,_⟩:=hb
  rw[eR,hb'];simp
 obtain⟨env',hg',CC⟩:=wO (ty:=ty) g hB (ks:= [n]) hpk Cx hlk (v:=(env n).v) (v':=(env n).v) (w':=w) (fp:=(env n).fp) (fx:= []) (by
  intro b hb
  rw[List.append_nil]at hb
  exact⟨n,_,by simp,hl,hb⟩) AD hb ⟨rfl,rfl,rfl,Nat.le_refl _,fun _ _ _=>rfl⟩ (fun b hb=>Or.inl hb)
 have hlt:s<a.tmps.size:=by rw[iv.size];exact Nat.le_of_ble_eq_true hlt
 obtain⟨_,hu⟩:=g.slot s _ hs
 have gp:=hg'.put hlt (v:= .one (.a (.own m))) (u:=a.tmps.getD s undef) ⟨⟨t,l,look_eq⟩,by rw[CC];exact hu⟩ rfl
 have e:a.tmps.setIfInBounds s (a.tmps.getD s undef)=a.tmps:=by
  rw[Array.getD_eq_getD_getElem?,Array.getElem?_eq_getElem hlt]
  apply Array.ext
  ·simp
  ·intro i h1 h2
   rw[Array.getElem_setIfInBounds]
   split
   ·rename_i hi;subst hi;rfl
   ·rfl
 rw[e]at gp
 rw[h]
 exact⟨by rw[uR];exact iv.size,iv.defers,iv.kept,iv.Ej,env',gp⟩
theorem mw{P:Program}{zb:cm}{Q:Post}{st st':St}{c:Code}(s m:Nat)(h:G.rename st s m=some st')(k:W P ty zb c Q st'):W P ty zb c Q st:=fun a w iv=>k a w (OG h iv)
def Lc(st:St)(b i m:Nat)(t:Tag):Option St:=match look st.hp b,jg m,look st.hp m with
 |some (.box c),false,none=>match wv c i with
  |some (.lit (.slice none 0 0))=>Oo ⟨st.n,st.sl,(b, .box (c.set i (.own m)))::(m, .arr t [])::st.hp⟩
  |_=>none
 |_,_,_=>none
theorem bA.set'{R R':V→Value→Prop}{y:V}(hm: ∀a u,R a u→R' a u): ∀{c:List V} {cs:List Value} {i:Nat} {v:V},bA R c cs→wv c i=some v→(∀u,R v u→R' y u)→bA R' (c.set i y) cs
 | [],_,_,_,_,h,_=>by cases h
 |a::r,[],_,_,h,_,_=>h.elim
 |a::r,u::us,0,v,⟨h1,h2⟩,h,hy=>by
  simp only[wv,oI]at h
  subst h
  exact⟨hy u h1,h2.mono fun a b _ h=>hm a b h⟩
 |a::r,u::us,i+1,v,⟨h1,h2⟩,h,hy=>⟨hm a u h1,bA.set' hm h2 (by simpa[wv]using h) hy⟩
theorem OH{zb:cm}{st st':St}{b i m:Nat}{t:Tag}(h:Lc st b i m t=some st'){a:Act}{w:World}(iv:Inv ty zb st a w):Inv ty zb st' a w:=by
 obtain⟨env,g⟩:=iv.good
 have hB:=iv.kept.size
 unfold Lc at h
 split at h
 case h_2=>cases h
 rename_i c hl Cx hlk
 split at h
 case h_2=>cases h
 rename_i he
 have h:=mP h
 have hne:b≠m:=by rintro rfl;rw[hl]at hlk;cases hlk
 have hN:ke (ty:=ty) w w st.hp [(m, .arr t [])] env (fun n=>if n=m then⟨F7,[]⟩else env n):=by
  refine⟨Below.refl _ _,fun n hn=> ?_,fun n o hn=> ?_,fun n n' o o' hne h1 h2=> ?_⟩
  ·by_cases hnm:n=m
   ·subst hnm;rw[look_eq]at hn;cases hn
   ·simp[hnm]
  ·by_cases hnm:n=m
   ·subst hnm
    rw[look_eq]at hn
    simp only[oI]at hn
    subst hn
    simp only[if_true]
    exact⟨RO.EU (ig.nil _ _ _ _ _),by simp⟩
   ·rw[aZ hnm]at hn;cases hn
  ·intro x hx
   by_cases hnm:n=m
   ·subst hnm;simp at hx
   ·rw[aZ hnm]at h1;cases h1
 have g1:=Good.grow hB g (os:= [(m, .arr t [])]) (by simp[fresh,hlk,Cx]) hN
 have hl1:look ([(m,Obj.arr t [])]++st.hp) b=some (.box c):=by
  show look ((m,Obj.arr t [])::st.hp) b=_
  rw[aZ hne];exact hl
 obtain⟨b',cs,e,wK,hh,hc⟩:=g1.obj b _ hl1
 have g2:=Cz (off:=0) (us:= []) (c':=c.set i (.own m)) g1 hl1 wK hh (Nat.zero_le _) (by
  simp only[List.take_zero,List.nil_append,Nat.zero_add,List.length_nil,List.drop_zero]
  refine bA.set' (fun _ _ h=>h) hc he fun u hu=> ?_
  obtain⟨rfl,_⟩:=hu
  refine⟨⟨t,[],look_eq⟩,?_⟩
  simp only[if_true])
 rw[h]
 exact⟨iv.size,iv.defers,iv.kept,iv.Ej,_,g2⟩
theorem gU{P:Program}{zb:cm}{Q:Post}{st st':St}{c:Code}(b i m:Nat)(t:Tag)(h:G.Lc st b i m t=some st')(k:W P ty zb c Q st'):W P ty zb c Q st:=fun a w iv=>k a w (OH h iv)
def GM(st:St)(b i m:Nat):Option St:=match look st.hp b with
 |some (.box c)=>match wv c i with
  |some (.own n)=>match look st.hp n,pinned [n],jg m,look (bW [n] [] st.hp) m with
   |some (.arr t l),false,false,none=>match st.gone [n] m t l with
    | ⟨nn,sl,hp⟩=>Oo ⟨nn,sl,(b, .box ((c.map fun v=>v.bz [n] []).set i (.own m)))::hp⟩
   |_,_,_,_=>none
  |_=>none
 |_=>none
theorem bA.aaI{R R':V→Value→Prop}{f:V→V}{y:V}(hm: ∀a u,R a u→R' (f a) u): ∀{c:List V} {cs:List Value} {i:Nat} {v:V},bA R c cs→wv c i=some v→(∀u,R v u→R' y u)→bA R' ((c.map f).set i y) cs
 | [],_,_,_,_,h,_=>by cases h
 |a::r,[],_,_,h,_,_=>h.elim
 |a::r,u::us,0,v,⟨h1,h2⟩,h,hy=>by
  simp only[wv,oI]at h
  subst h
  exact⟨hy u h1,h2.map hm⟩
 |a::r,u::us,i+1,v,⟨h1,h2⟩,h,hy=>⟨hm a u h1,bA.aaI hm h2 (by simpa[wv]using h) hy⟩
theorem Ld{zb:cm}{st st':St}{b i m:Nat}(h:GM st b i m=some st'){a:Act}{w:World}(iv:Inv ty zb st a w):Inv ty zb st' a w:=by
 obtain⟨env,g⟩:=iv.good
 have hB:=iv.kept.size
 unfold GM at h
 split at h
 case h_2=>cases h
 rename_i c HK
 split at h
 case h_2=>cases h
 rename_i n he
 split at h
 case h_2=>cases h
 rename_i t l hl hpk Cx hlk
 rw[St.gone_eq]at h
 have h:=mP h
 have Wn:soft n=false:=mM hpk (by simp)
 have hb:=RO.TJ Wn (g.obj n _ hl)
 have AD: ∀b,(env n).v.ownBlock=some b→b∈(env n).fp:=by
  intro b hb'
  obtain⟨xs,bn,_,_,_,eR,_⟩:=hb
  rw[eR,hb'];simp
 obtain⟨env',hg',CC,hold,adf⟩:=yV (ty:=ty) g hB (ks:= [n]) hpk Cx hlk (v:=(env n).v) (v':=(env n).v) (w':=w) (fp:=(env n).fp) (fx:= []) (by
  intro b hb
  rw[List.append_nil]at hb
  exact⟨n,_,by simp,hl,hb⟩) AD hb ⟨rfl,rfl,rfl,Nat.le_refl _,fun _ _ _=>rfl⟩ (fun b hb=>Or.inl hb)
 have Zx:b≠n:=by rintro rfl;rw[HK]at hl;cases hl
 have hbk:look (bW [n] [] st.hp) b=some (.box (c.map fun v=>v.bz [n] [])):=by
  rw[bI,if_neg (by simpa using Zx),HK];rfl
 have Eu:b≠m:=by rintro rfl;rw[hbk]at hlk;cases hlk
 have bU:look ((m,Obj.arr t l)::bW [n] [] st.hp) b=some (.box (c.map fun v=>v.bz [n] [])):=by rw[aZ Eu];exact hbk
 obtain⟨b',cs,e,wK,hh,hc⟩:=hg'.obj b _ bU
 obtain⟨b0,cs0,e0,adg,hh0,hc0⟩:=g.obj b _ HK
 have TO:b'=b0:=by
  rw[hold b Eu,adg]at wK
  simpa using wK.symm
 subst TO
 have hcs:cs=cs0:=by
  rw[hh0]at hh
  simp at hh
  exact hh.1.symm
 subst hcs
 have s:oQ [n] [] w st.hp env w ((m,Obj.arr t l)::bW [n] [] st.hp) env':=by
  have hnm: ∀x o,x≠n→look st.hp x=some o→x≠m:=by
   rintro x o hx h1 rfl
   rw[bI,if_neg (by simpa using hx),h1]at hlk;cases hlk
  refine⟨fun _ _ _=>rfl,?_,?_,?_⟩
  ·rintro x hx ⟨y,o',h1,h2⟩
   by_cases hy:y=m
   ·subst hy
    exact⟨n,_,hl,by rw[←adf];exact h2⟩
   ·rw[hold y hy]at h2
    rw[aZ hy,bI]at h1
    split at h1
    ·cases h1
    ·cases hq:look st.hp y with
     |none=>rw[hq]at h1;cases h1
     |some o=>exact⟨y,o,hq,h2⟩
  ·intro x o hx h1
   have hx:x≠n:=by simpa using hx
   have Yi:=hnm x o hx h1
   exact⟨o.bz [n] [],by rw[aZ Yi,bI,if_neg (by simpa using hx),h1];rfl,by cases o<;>simp[Obj.like,Obj.bz],by rw[hold x Yi]⟩
  ·rintro x t' l' ⟨hx,_⟩ h1
   have hx:x≠n:=by simpa using hx
   have Yi:=hnm x _ hx h1
   exact⟨by rw[aZ Yi,bI,if_neg (by simpa using hx),h1];rfl,by rw[hold x Yi],fun _ _=>rfl⟩
 have g2:=Cz (off:=0) (us:= []) (c':=(c.map fun v=>v.bz [n] []).set i (.own m)) hg' bU wK hh (Nat.zero_le _) (by
  simp only[List.take_zero,List.nil_append,Nat.zero_add,List.length_nil,List.drop_zero]
  refine bA.aaI (fun v u h=>RA.gr s h) hc0 he fun u hu=> ?_
  obtain⟨_,hu⟩:=hu
  exact⟨⟨t,l,look_eq⟩,by rw[hu,CC]⟩)
 rw[h]
 exact⟨iv.size,iv.defers,iv.kept,iv.Ej,_,g2⟩
theorem kG{P:Program}{zb:cm}{Q:Post}{st st':St}{c:Code}(b i m:Nat)(h:G.GM st b i m=some st')(k:W P ty zb c Q st'):W P ty zb c Q st:=fun a w iv=>k a w (Ld h iv)
end
section
variable{ty:Tag→Nat}
inductive fX where
 |last(q:Nat)
 |ph(q:Nat)(c:fX)
 |br(d t:Nat)(sub next:fX)
 |nil
def fX.MG:fX→List (Nat×Nat×fX)
 | .br d t sub next=>(d,t,sub)::next.MG
 |_=> []
def fX.RE:fX→Bool
 | .last _=>true
 | .ph _ _=>true
 |_=>false
def I5(Γ:Nat→TK)(E:Tag→Nat→Prop)(S:FuncId→List S1→List S1→Prop)(cO:List (Nat×Nat))(cr:List (Nat×CR))(ops:List Oper)(q:Nat):Nat→List Oper→St→Option (List TE×List (Nat×List Prop))
 |_,[],_=>some ([],[])
 |i,o::r,⟨n,sl,hp⟩=>match q.testBit i with
  |false=>match I5 Γ E S cO cr ops q (i+1) r ⟨n,sl,hp⟩with
   |some (tr,vq)=>some (⟨0, .uQ [],[]⟩::tr,vq)
   |none=>none
  |true=>match o.dst with
   |some d=>match sl.any (fun e=>e.2.mentions d),oN Γ E S cO cr ops ⟨n,sl,hp⟩ o with
    |false,some (vc,v,os)=>match fS v,XZ os with
     |some v,some os=>match I5 Γ E S cO cr ops q (i+1) r ⟨n,(d,v)::sl,l6 os hp⟩with
      |some (tr,vq)=>some (⟨d,v,os⟩::tr,(i,vc)::vq)
      |none=>none
     |_,_=>none
    |_,_=>none
   |none=>none
def I6(d:Nat):Nat→List TE→St→St
 |_,[],s=>s
 |i,e::r,s=>match d.testBit i with
  |true=>I6 d (i+1) r (app s e)
  |false=>I6 d (i+1) r s
def Le(i:Nat)(vc:List Prop):List (Nat×List Prop)→List (Nat×List Prop)
 | []=> [(i,vc)]
 | (j,v)::r=>match Nat.blt j i with
   |true=>(i,vc)::(j,v)::r
   |false=>(j,v)::Le i vc r
def I7(d:Nat):List (Nat×List Prop)→List (Nat×List Prop)→List (Nat×List Prop)
 | [],acc=>acc
 | (i,vc)::r,acc=>match d.testBit i with
   |true=>I7 d r (Le i vc acc)
   |false=>I7 d r acc
def AW:List (Nat×List Prop)→Option (List Prop)
 | []=>some []
 | (_,[])::r=>AW r
 | (_,[p])::r=>match AW r with|some l=>some (p::l)|none=>none
 | (_,[p,q])::r=>match AW r with|some l=>some (p::q::l)|none=>none
 | (_,l)::r=>match AW r with|some l'=>some (l++l')|none=>none
theorem sK{i:Nat}{vc:List Prop}: ∀{l:List (Nat×List Prop)} {x:Nat×List Prop},x∈Le i vc l↔x=(i,vc)∨x∈l
 | [],x=>by simp[Le]
 | (j,v)::r,x=>by
   simp only[Le]
   split
   ·simp
   ·rw[List.mem_cons,List.mem_cons,sK]
    constructor
    ·rintro(h|h|h)
     ·exact Or.inr (Or.inl h)
     ·exact Or.inl h
     ·exact Or.inr (Or.inr h)
    ·rintro(h|h|h)
     ·exact Or.inr (Or.inl h)
     ·exact Or.inl h
     ·exact Or.inr (Or.inr h)
theorem o9{d:Nat}: ∀{vq acc:List (Nat×List Prop)} {x:Nat×List Prop},x∈I7 d vq acc↔(x∈vq∧d.testBit x.1=true)∨x∈acc
 | [],acc,x=>by simp[I7]
 | (i,vc)::r,acc,x=>by
   simp only[I7]
   split
   ·rename_i hb
    rw[o9,sK]
    constructor
    ·rintro(⟨h1,h2⟩|rfl|h)
     ·exact Or.inl ⟨List.mem_cons_of_mem _ h1,h2⟩
     ·exact Or.inl ⟨by simp,hb⟩
     ·exact Or.inr h
    ·rintro(⟨h1,h2⟩|h)
     ·rcases List.mem_cons.1 h1 with rfl|h1
      ·exact Or.inr (Or.inl rfl)
      ·exact Or.inl ⟨h1,h2⟩
     ·exact Or.inr (Or.inr h)
   ·rename_i hb
    rw[o9]
    constructor
    ·rintro(⟨h1,h2⟩|h)
     ·exact Or.inl ⟨List.mem_cons_of_mem _ h1,h2⟩
     ·exact Or.inr h
    ·rintro(⟨h1,h2⟩|h)
     ·rcases List.mem_cons.1 h1 with rfl|h1
      ·simp only at h2;rw[h2]at hb;cases hb
      ·exact Or.inl ⟨h1,h2⟩
     ·exact Or.inr h
theorem zB: ∀{l:List (Nat×List Prop)} {m:List Prop},AW l=some m→ ∀x,x∈l→ ∀q,q∈x.2→q∈m
 | [],_,_,x,hx=>by cases hx
 | (i,v)::r,m,h,x,hx=>by
   have key: ∃l',AW r=some l'∧m=v++l':=by
    unfold AW at h
    split at h
    ·rename_i he;cases he
    ·rename_i he;simp only[List.cons.injEq,pI]at he;obtain⟨⟨rfl,rfl⟩,rfl⟩:=he;exact⟨m,h,rfl⟩
    ·rename_i he
     simp only[List.cons.injEq,pI]at he;obtain⟨⟨rfl,rfl⟩,rfl⟩:=he
     split at h
     ·rename_i l' h1;simp only[oI]at h;exact⟨l',h1,h.symm⟩
     ·cases h
    ·rename_i he
     simp only[List.cons.injEq,pI]at he;obtain⟨⟨rfl,rfl⟩,rfl⟩:=he
     split at h
     ·rename_i l' h1;simp only[oI]at h;exact⟨l',h1,h.symm⟩
     ·cases h
    ·rename_i he
     simp only[List.cons.injEq,pI]at he;obtain⟨⟨rfl,rfl⟩,rfl⟩:=he
     split at h
     ·rename_i l' h1;simp only[oI]at h;exact⟨l',h1,h.symm⟩
     ·cases h
   obtain⟨l',h1,rfl⟩:=key
   intro q hq
   rcases List.mem_cons.1 hx with rfl|hx
   ·exact List.mem_append_left _ hq
   ·exact List.mem_append_right _ (zB h1 x hx q hq)
def jc(P:Program)(ty:Tag→Nat)(Γ:Nat→TK)(cO:List (Nat×Nat))(cr:List (Nat×CR))(ks hs:List Nat)(ops:List Oper)(n0:Nat):fX→St→List TE→List (Nat×List Prop)→List (Nat×List Prop)→Option (List (List Prop×St))
 | .last q,s,_,_,acc=>match I5 Γ (Gb P ty) (Sound ty P) cO cr ops q 0 ops s with
   |some (tr,vq)=>match Oo (I6 q 0 tr s)with
    |some ⟨n,sl1,eO⟩=>match AI sl1 ks,AJ eO (Mq sl1 eO ks hs),AW (I7 q vq acc)with
     |some sl,some hp,some vc=>match qd sl hp,Nat.beq n n0 with
      |true,true=>some [(vc,⟨n0,sl,hp⟩)]
      |_,_=>none
     |_,_,_=>none
    |none=>none
   |none=>none
 | .ph q c,s,_,_,acc=>match I5 Γ (Gb P ty) (Sound ty P) cO cr ops q 0 ops s with
   |some (tr,vq)=>jc P ty Γ cO cr ks hs ops n0 c s tr vq acc
   |none=>none
 | .br d t sub next,s,tr,vq,acc=>match Oo (I6 d 0 tr s),ops[t]? with
   |some s1,some o=>match step P ty Γ cO cr ops s1 o with
    |some (vc,s2)=>match Oo s2 with
     |some s2=>match jc P ty Γ cO cr ks hs ops n0 sub s2 [] [] (Le t vc (I7 d vq acc)),jc P ty Γ cO cr ks hs ops n0 next s tr vq acc with
      |some l1,some l2=>some (l6 l1 l2)
      |_,_=>none
     |none=>none
    |none=>none
   |_,_=>none
 | .nil,_,_,_,_=>some []
def Dg(ops:List Oper)(B q I8:Nat):Nat→Nat→Nat→List Nat
 |0,_,d=> [d]
 |m+1,i,d=>match q.testBit i with
  |false=>Dg ops B q I8 m (i+1) d
  |true=>(match((ops[i]?).map fun o=>(bZ o).all fun j=>B.testBit j||d.testBit j).getD false with
   |true=>Dg ops B q I8 m (i+1) (d|||2^i)
   |false=> [])++(match I8.testBit i with
   |true=> []
   |false=>Dg ops B q I8 m (i+1) d)
def Vj(ops:List Oper)(cl:List Nat)(A:List (Nat×Oper))(qs B q:Nat):Bool:=
 A.all fun e=>(!(q.testBit e.1)|| !(B.testBit e.1))&&
   (B.testBit e.1||q.testBit e.1|| !(qs.testBit e.1)|| !((bZ e.2).all fun j=>B.testBit j||q.testBit j))&&
   (!(q.testBit e.1)||
     ((tmpsOf e.2).all fun t=>A.all fun f=> !(q.testBit f.1)|| !(Mt f.2 t)||Nat.beq f.1 e.1|| (cl.getD e.1 0).testBit f.1|| (Nat.blt e.1 f.1&&(cl.getD f.1 0).testBit e.1))&&
     (match e.2.guard with
      |none=>true
      |some (j,_)=>(bZ e.2).any (Nat.beq j))&&
     (match e.2.dst with
      |some d=>A.all fun f=>Nat.beq f.1 e.1|| !(Mt f.2 d)
      |none=>false)&&(bZ e.2).all fun j=>B.testBit j||q.testBit j)
def GN(ops:List Oper)(cl:List Nat)(n B q:Nat)(c:fX):Bool:=
 (List.range n).all fun t=>B.testBit t||q.testBit t||
  (Dg ops B q (cl.getD t 0) n 0 0).all fun d=> !(((ops[t]?).map fun o=>(bZ o).all fun j=>B.testBit j||d.testBit j).getD false)||c.MG.any fun b=>Nat.beq b.1 d&&Nat.beq b.2.1 t
def Pt(ops:List Oper)(cl:List Nat)(A:List (Nat×Oper))(qs n:Nat):Nat→fX→Bool
 |B, .last q=>Vj ops cl A qs B q&&(List.range n).all fun i=>B.testBit i||q.testBit i
 |B, .ph q c=>Vj ops cl A qs B q&&GN ops cl n B q c&& !((List.range n).all fun i=>B.testBit i||q.testBit i)&&Pt ops cl A qs n B c
 |B, .br d t sub next=>sub.RE&&Nat.blt t n&&Pt ops cl A qs n (B|||d|||2^t) sub&&Pt ops cl A qs n B next
 |_, .nil=>true
def Vk(ops:List Oper)(qs:Nat)(p:fX):Bool:=
 ((idx 0 ops).all fun e=>(bZ e.2).all fun j=>Nat.blt j e.1)&&p.RE&&Pt ops (Gy ops) (idx 0 ops) qs ops.length 0 p
section
variable{uw D:Nat→Bool}{tr:List TE}{s:St}
theorem mj(uw:Nat→Bool)(e:TE)(tr:List TE)(s:St)(h:uw 0=false): ∀i,eG uw (e::tr) s (i+1)=eG (fun j=>uw (j+1)) tr s i
 |0=>by simp[eG,h]
 |i+1=>by
  rw[eG,mj uw e tr s h i,eG]
  simp only[List.getElem?_cons_succ]
theorem xz(d:Nat): ∀(tr:List TE) (k:Nat) (s:St),I6 d k tr s=eG (fun i=>d.testBit (k+i)) tr s tr.length
 | [],_,_=>rfl
 |e::r,k,s=>by
  have hf:(fun j=>d.testBit (k+(j+1)))=fun i=>d.testBit (k+1+i):=by funext j;congr 1;omega
  simp only[I6]
  split
  ·rename_i h
   rw[xz d r (k+1) (app s e),List.length_cons,CW _ e r s (by simpa using h),hf]
  ·rename_i h
   rw[xz d r (k+1) s,List.length_cons,mj _ e r s (by simpa using h),hf]
theorem zC{D':Nat→Bool}: ∀{n:Nat},(∀i,i<n→D i=D' i)→eG D tr s n=eG D' tr s n
 |0,_=>rfl
 |n+1,h=>by rw[eG,eG,zC (n:=n) fun i hi=>h i (by omega),h n (by omega)]
theorem Dh: ∀{n:Nat},eG (fun _=>false) tr s n=s
 |0=>rfl
 |n+1=>by rw[GA rfl,Dh]
theorem nT: ∀{i:Nat} {x:Nat×SV},x∈s.sl→x∈(eG D tr s i).sl
 |0,_,h=>h
 |i+1,x,h=>by
  rw[eG]
  split
  ·exact List.mem_cons_of_mem _ (nT h)
  ·exact nT h
def Di(Qb:Nat→Bool)(tr:List TE)(s:St)(m:Nat):Prop:= ∀i e,i<m→Qb i=true→tr[i]? =some e→ ∀n o,look e.os n=some o→look (eG Qb tr s i).hp n=none
variable{Qb:Nat→Bool}
theorem zD{m:Nat}(hf:Di Qb tr s m): ∀{j i:Nat},i≤j→j≤m→ ∀{n o},look (eG Qb tr s i).hp n=some o→look (eG Qb tr s j).hp n=some o
 |0,i,hi,_,n,o,h=>by
  have:i=0:=by omega
  subst this;exact h
 |j+1,i,hi,hm,n,o,h=>by
  by_cases hij:i=j+1
  ·subst hij;exact h
  ·have ih:=zD hf (j:=j) (i:=i) (by omega) (by omega) h
   rw[eG]
   split
   ·rename_i e' h1 h2
    show look (e'.os++(eG Qb tr s j).hp) n=_
    cases hq:look e'.os n with
    |none=>rw[bB hq];exact ih
    |some o'=>
     have:=hf j e' (by omega) h1 h2 n o' hq
     rw[this]at ih;cases ih
   ·exact ih
theorem sL{m:Nat}(hf:Di Qb tr s m)(hD: ∀i,D i=true→Qb i=true): ∀{i:Nat},i≤m→ ∀{n o},look (eG D tr s i).hp n=some o→look (eG Qb tr s i).hp n=some o
 |0,_,n,o,h=>h
 |i+1,hm,n,o,h=>by
  rw[eG]at h
  split at h
  ·rename_i e' h1 h2
   have h:look (e'.os++(eG D tr s i).hp) n=some o:=h
   rw[rZ (hD i h1) h2]
   show look (e'.os++(eG Qb tr s i).hp) n=some o
   cases hq:look e'.os n with
   |none=>rw[bB hq]at h ⊢;exact sL hf hD (by omega) h
   |some o'=>rw[cz hq]at h ⊢;exact h
  ·exact zD hf (Nat.le_succ i) hm (sL hf hD (by omega) h)
theorem tX{m:Nat}(hf:Di Qb tr s m)(hD: ∀i,D i=true→Qb i=true): ∀{i:Nat},i≤m→ ∀{n o},look s.hp n=some o→look (eG D tr s i).hp n=some o
 |0,_,n,o,h=>h
 |i+1,hm,n,o,h=>by
  have ih:=tX hf hD (i:=i) (by omega) h
  rw[eG]
  split
  ·rename_i e' h1 h2
   show look (e'.os++(eG D tr s i).hp) n=some o
   cases hq:look e'.os n with
   |none=>rw[bB hq];exact ih
   |some o'=>
    have h3:=hf i e' (by omega) (hD i h1) h2 n o' hq
    have h4:=sL hf hD (by omega) ih
    rw[h3]at h4;cases h4
  ·exact ih
theorem tY{m:Nat}(hf:Di Qb tr s m)(hD: ∀i,D i=true→Qb i=true): ∀{i:Nat},i≤m→ ∀{j:Nat} {e:TE} {n:Nat} {o:Obj},j<i→D j=true→tr[j]? =some e→look e.os n=some o→look (eG D tr s i).hp n=some o
 |i+1,hm,j,e,n,o,hj,hin,he,h=>by
  by_cases hij:j=i
  ·subst hij
   rw[rZ hin he]
   exact cz h
  ·have ih:=tY hf hD (i:=i) (by omega) (j:=j) (by omega) hin he h
   rw[eG]
   split
   ·rename_i e' h1 h2
    show look (e'.os++(eG D tr s i).hp) n=some o
    cases hq:look e'.os n with
    |none=>rw[bB hq];exact ih
    |some o'=>
     have h3:=hf i e' (by omega) (hD i h1) h2 n o' hq
     have h4:=sL hf hD (by omega) ih
     rw[h3]at h4;cases h4
   ·exact ih
end
structure TV(Γ:Nat→TK)(E:Tag→Nat→Prop)(S:FuncId→List S1→List S1→Prop)(cO:List (Nat×Nat))(cr:List (Nat×CR))(ops:List Oper)(q:Nat)(s:St)(tr:List TE)(vq:List (Nat×List Prop)):Prop where
 len:tr.length=ops.length
 one: ∀i,i<ops.length→q.testBit i=true→ ∃o e vc,ops[i]? =some o∧tr[i]? =some e∧o.dst=some e.d∧((eG (fun j=>q.testBit j) tr s i).sl.any fun x=>x.2.mentions e.d)=false∧oN Γ E S cO cr ops (eG (fun j=>q.testBit j) tr s i) o=some (vc,e.v,e.os)∧(i,vc)∈vq
theorem vD{Γ:Nat→TK}{E:Tag→Nat→Prop}{S:FuncId→List S1→List S1→Prop}{cO:List (Nat×Nat)}{cr:List (Nat×CR)}{ops:List Oper}{q:Nat}: ∀{l:List Oper} {k:Nat} {st:St} {tr:List TE} {vq:List (Nat×List Prop)},I5 Γ E S cO cr ops q k l st=some (tr,vq)→(∀i o,l[i]? =some o→ops[k+i]? =some o)→
  tr.length=l.length∧ ∀i,i<l.length→q.testBit (k+i)=true→ ∃o e vc,ops[k+i]? =some o∧tr[i]? =some e∧o.dst=some e.d∧((eG (fun j=>q.testBit (k+j)) tr st i).sl.any fun x=>x.2.mentions e.d)=false∧oN Γ E S cO cr ops (eG (fun j=>q.testBit (k+j)) tr st i) o=some (vc,e.v,e.os)∧(k+i,vc)∈vq
 | [],k,st,tr,vq,h,_=>by
   simp only[I5,oI,pI]at h
   exact⟨by rw[←h.1];rfl,fun i hi=>absurd hi (by simp)⟩
 |o::r,k,⟨n,sl,hp⟩,tr,vq,h,hk=>by
  have hk': ∀i o',r[i]? =some o'→ops[k+1+i]? =some o':=fun i o' ho=>by
   have:=hk (i+1) o' (by simpa using ho)
   rw[show k+1+i=k+(i+1)by omega];exact this
  have hf:(fun j=>q.testBit (k+(j+1)))=fun i=>q.testBit (k+1+i):=by funext j;congr 1;omega
  simp only[I5]at h
  split at h
  ·rename_i hb
   split at h
   case h_2=>cases h
   rename_i tr' vq' h2
   simp only[oI,pI]at h
   obtain⟨rfl,rfl⟩:=h
   obtain⟨q1,q2⟩:=vD h2 hk'
   refine⟨by simp[q1],fun i hi hq=> ?_⟩
   cases i with
   |zero=>rw[Nat.add_zero,hb]at hq;cases hq
   |succ i=>
    obtain⟨o',e',vc',p1,p2,p3,p4,p5,p6⟩:=q2 i (by simpa using hi) (by rw[show k+1+i=k+(i+1)by omega];exact hq)
    refine⟨o',e',vc',by rw[show k+(i+1)=k+1+i by omega];exact p1,by simpa using p2,p3,?_,?_,by rw[show k+(i+1)=k+1+i by omega];exact p6⟩
    ·rw[mj _ _ tr' _ (by simpa using hb) i,hf];exact p4
    ·rw[mj _ _ tr' _ (by simpa using hb) i,hf];exact p5
  ·rename_i hb
   split at h
   case h_2=>cases h
   rename_i d hd
   split at h
   case h_2=>cases h
   rename_i vc v os hm hq0
   split at h
   case h_2=>cases h
   rename_i v2 os2 N9 Yj
   have N9:=QV N9
   have Yj:=Gv Yj
   subst N9;subst Yj
   split at h
   case h_2=>cases h
   rename_i tr' vq' h2
   simp only[oI,pI]at h
   obtain⟨rfl,rfl⟩:=h
   rw[dM]at h2
   obtain⟨q1,q2⟩:=vD h2 hk'
   refine⟨by simp[q1],fun i hi hq=> ?_⟩
   cases i with
   |zero=>exact⟨o,⟨d,v2,os2⟩,vc,hk 0 o rfl,rfl,hd,hm,hq0,by simp⟩
   |succ i=>
    obtain⟨o',e',vc',p1,p2,p3,p4,p5,p6⟩:=q2 i (by simpa using hi) (by rw[show k+1+i=k+(i+1)by omega];exact hq)
    have hc:=CW (fun j=>q.testBit (k+j)) ⟨d,v2,os2⟩ tr' ⟨n,sl,hp⟩ (by simpa using hb) i
    refine⟨o',e',vc',by rw[show k+(i+1)=k+1+i by omega];exact p1,by simpa using p2,p3,?_,?_,by rw[show k+(i+1)=k+1+i by omega];exact List.mem_cons_of_mem _ p6⟩
    ·rw[hc,hf];exact p4
    ·rw[hc,hf];exact p5
theorem TV.of{Γ:Nat→TK}{E:Tag→Nat→Prop}{S:FuncId→List S1→List S1→Prop}{cO:List (Nat×Nat)}{cr:List (Nat×CR)}{ops:List Oper}{q:Nat}{s:St}{tr:List TE}{vq:List (Nat×List Prop)}(h:I5 Γ E S cO cr ops q 0 ops s=some (tr,vq)):TV Γ E S cO cr ops q s tr vq:=by
 obtain⟨h1,h2⟩:=vD h (fun i o ho=>by simpa using ho)
 refine⟨h1,fun i hi hq=> ?_⟩
 have:=h2 i hi (by simpa using hq)
 simpa using this
structure Yk(ops:List Oper)(qs B q:Nat):Prop where
 back: ∀i o,ops[i]? =some o→ ∀j,j∈bZ o→j<i
 iq: ∀i,i<ops.length→q.testBit i=true→B.testBit i=false
 full: ∀i o,ops[i]? =some o→B.testBit i=false→qs.testBit i=true→(∀j,j∈bZ o→B.testBit j=true∨q.testBit j=true)→q.testBit i=true
 uses: ∀i o,q.testBit i=true→ops[i]? =some o→ ∀t,t∈tmpsOf o→ ∀k o',q.testBit k=true→ops[k]? =some o'→o'.dst=some t→k=i∨((Gy ops).getD i 0).testBit k=true∨(i<k∧((Gy ops).getD k 0).testBit i=true)
 guard: ∀i o j x,q.testBit i=true→ops[i]? =some o→o.guard=some (j,x)→j∈bZ o
 dist: ∀i o k o' d,q.testBit i=true→ops[i]? =some o→ops[k]? =some o'→o.dst=some d→o'.dst=some d→k=i
 clq: ∀i o,q.testBit i=true→ops[i]? =some o→ ∀j,j∈bZ o→(B.testBit j=true∨q.testBit j=true)
theorem aaM{ops:List Oper}(h:((idx 0 ops).all fun e=>(bZ e.2).all fun j=>Nat.blt j e.1)=true): ∀i o,ops[i]? =some o→ ∀j,j∈bZ o→j<i:=by
 intro i o ho j hj
 simp only[List.all_eq_true]at h
 have:=h _ (by simpa using GC (l:=ops) (k:=0) ho) j hj
 exact Nat.le_of_ble_eq_true this
theorem GO{ops:List Oper}{qs B q:Nat}(hb: ∀i o,ops[i]? =some o→ ∀j,j∈bZ o→j<i)(h:Vj ops (Gy ops) (idx 0 ops) qs B q=true):Yk ops qs B q:=by
 simp only[Vj,List.all_eq_true,Bool.and_eq_true,Bool.or_eq_true,Bool.not_eq_true']at h
 have hA: ∀{i o},ops[i]? =some o→(i,o)∈idx 0 ops:=by
  intro i o ho
  simpa using GC (l:=ops) (k:=0) ho
 have hdi: ∀{o:Oper} {t:Nat},o.dst=some t→Mt o t=true:=by intro o t hd;simp[Mt,hd]
 refine⟨hb,fun i hi hq=> ?_,fun i o ho hB hqs he=> ?_,fun i o hq ho t ht k o' Lf ho' hd=> ?_,fun i o j x hq ho hg=> ?_,fun i o k o' d hq ho ho' hd hd'=> ?_,fun i o hq ho j hj=> ?_⟩
 ·rcases(h _ (hA (List.getElem?_eq_getElem hi))).1.1 with h1|h1
  ·simp only at h1;rw[hq]at h1;cases h1
  ·exact h1
 ·rcases(h _ (hA ho)).1.2 with((h1|h1)|h1)|h1
  ·simp only at h1;rw[hB]at h1;cases h1
  ·exact h1
  ·simp only at h1;rw[hqs]at h1;cases h1
  ·exfalso
   have:((bZ o).all fun j=>B.testBit j||q.testBit j)=true:=by
    rw[List.all_eq_true];intro j hj
    rcases he j hj with h|h
    ·rw[h];rfl
    ·rw[h];simp
   simp only at h1
   rw[this]at h1;cases h1
 ·rcases(h _ (hA ho)).2 with h1|h1
  ·simp only at h1;rw[hq]at h1;cases h1
  ·rcases h1.1.1.1 t ht _ (hA ho')with(((h2|h2)|h2)|h2)|h2
   ·simp only at h2;rw[Lf]at h2;cases h2
   ·rw[hdi hd]at h2;cases h2
   ·exact Or.inl (Nat.eq_of_beq_eq_true h2)
   ·exact Or.inr (Or.inl h2)
   ·exact Or.inr (Or.inr ⟨Nat.le_of_ble_eq_true h2.1,h2.2⟩)
 ·rcases(h _ (hA ho)).2 with h1|h1
  ·simp only at h1;rw[hq]at h1;cases h1
  ·have h2:=h1.1.1.2
   simp only[hg,List.any_eq_true]at h2
   obtain⟨y,hy,h3⟩:=h2
   rw[Nat.eq_of_beq_eq_true h3];exact hy
 ·rcases(h _ (hA ho)).2 with h1|h1
  ·simp only at h1;rw[hq]at h1;cases h1
  ·have h2:=h1.1.2
   simp only[hd,List.all_eq_true,Bool.or_eq_true,Bool.not_eq_true']at h2
   rcases h2 _ (hA ho')with h3|h3
   ·exact Nat.eq_of_beq_eq_true h3
   ·rw[hdi hd']at h3;cases h3
 ·rcases(h _ (hA ho)).2 with h1|h1
  ·simp only at h1;rw[hq]at h1;cases h1
  ·exact h1.2 j hj
end
section
variable{ty:Tag→Nat}
section
variable{P:Program}{Γ:Nat→TK}{cO:List (Nat×Nat)}{cr:List (Nat×CR)}{ops:List Oper}{s:St}{tr:List TE}{vq:List (Nat×List Prop)}{qs B q:Nat}
theorem TV.fresh{E:Tag→Nat→Prop}{S:FuncId→List S1→List S1→Prop}(T:TV Γ E S cO cr ops q s tr vq):Di (fun j=>q.testBit j) tr s ops.length:=by
 intro i e hi hq he n x hl
 obtain⟨o,e',vc,_,he',_,_,UO,_⟩:=T.one i hi hq
 rw[he]at he'
 simp only[oI]at he'
 subst he'
 obtain⟨p,_,_,_,hf⟩:=kq UO
 exact(hf n x hl).1
theorem TV.path{E:Tag→Nat→Prop}{S:FuncId→List S1→List S1→Prop}(T:TV Γ E S cO cr ops q s tr vq)(K:Yk ops qs B q): ∀(i:Nat),i<ops.length→q.testBit i=true→ ∀o p,ops[i]? =some o→ij (eG (fun j=>q.testBit j) tr s i) ops o=some p→ ∀e,e∈p→
  ∀k o',q.testBit k=true→ops[k]? =some o'→o'.dst=some e.1→ ∀D:Nat→Prop,(∀i o,D i→ops[i]? =some o→ ∀j,j∈bZ o→D j)→(∀j,j∈bZ o→D j)→D k:=by
 intro i
 induction i using Nat.strongRecOn with
 |_ i ih=>
  intro hi BH o p ho hg e he k o' Lf hok WO D hD hE
  have Em:k<ops.length:=(List.getElem?_eq_some_iff.1 hok).1
  unfold ij at hg
  split at hg
  ·simp at hg;subst hg;simp at he
  ·rename_i j x hgd
   have ZA:=K.guard i o j x BH ho hgd
   have hji:=K.back i o ho j ZA
   split at hg
   case h_2=>cases hg
   rename_i qj WQ
   split at hg
   case h_2=>cases hg
   rename_i d WE
   have base:e.1=d→D k:=by
    intro hed
    have:j=k:=K.dist k o' j qj d Lf hok WQ (by rw[WO,hed]) WE
    rw[←this];exact hE j ZA
   split at hg
   ·simp only[oI]at hg
    subst hg
    simp only[List.mem_singleton]at he
    exact base (by rw[he])
   ·rename_i p' b w6
    simp only[oI]at hg
    subst hg
    rcases List.mem_cons.1 he with h|h
    ·exact base (by rw[h])
    ·by_cases MH:q.testBit j=true
     ·obtain⟨q2,ej,vcj,Et,hej,Yl,_,UO,_⟩:=T.one j (by omega) MH
      rw[WQ]at Et
      simp only[oI]at Et
      subst Et
      rw[WE]at Yl
      simp only[oI]at Yl
      subst Yl
      have Ym:look (eG (fun j=>q.testBit j) tr s i).sl ej.d=some ej.v:=by
       refine ld hji MH hej fun j' e' h1 h2 h3 h4=> ?_
       obtain⟨q',e2,_,X1,Ew,hd2,_⟩:=T.one j' (by omega) h2
       rw[h3]at Ew
       simp only[oI]at Ew
       subst Ew
       exact K.dist j _ j' q' ej.d MH WQ X1 WE (by rw[hd2,h4])
      rw[Ym]at w6
      simp only[oI]at w6
      obtain⟨pj,hgj,gl,eO,_⟩:=kq UO
      have hpj:pj=p':=by
       by_cases hnil:pj= []
       ·exact absurd w6 (gl hnil _ _)
       ·obtain⟨x',hx'⟩:=(eO hnil).1
        rw[hx']at w6
        simp only[SV.cond.injEq]at w6
        exact w6.1
      subst hpj
      exact ih j hji (by omega) MH _ pj WQ hgj e h k o' Lf hok WO D hD (hD j _ (hE j ZA) WQ)
     ·
      exfalso
      have Ym:look (eG (fun j=>q.testBit j) tr s i).sl d=look s.sl d:=by
       refine oS fun j' e' h1 h2 h3 h4=> ?_
       obtain⟨q',e2,_,X1,Ew,hd2,_⟩:=T.one j' (by omega) h2
       rw[h3]at Ew
       simp only[oI]at Ew
       subst Ew
       have:=K.dist j' q' j qj d h2 X1 WQ (by rw[hd2,h4]) WE
       subst this
       exact MH h2
      rw[Ym]at w6
      obtain⟨q2,ek,vck,Et,hek,Yn,hnm,_,_⟩:=T.one k Em Lf
      rw[hok]at Et
      simp only[oI]at Et
      subst Et
      rw[WO]at Yn
      simp only[oI]at Yn
      rw[List.any_eq_false]at hnm
      refine hnm (d, .cond p' (.a (.lit (.bool b)))) (nT (dQ w6)) ?_
      simp only[SV.mentions,List.any_eq_true]
      exact⟨e,h,by rw[Yn];simp⟩
   ·cases hg
theorem Lg(C: ∀t,cG P t (Γ t))(T:TV Γ (Gb P ty) (Sound ty P) cO cr ops q s tr vq)(K:Yk ops qs B q)(hv: ∀x,x∈vq→q.testBit x.1=true→x.1<ops.length→ ∀p,p∈x.2→p){zb:cm}{Q:Exit→Act→World→Prop}{D:Nat→Bool}(rI: ∀i,D i=true→q.testBit i=true)(Yo: ∀i,D i=true→i<ops.length)
  (HO: ∀i o,(B.testBit i=true∨D i=true)→ops[i]? =some o→ ∀j,j∈bZ o→(B.testBit j=true∨D j=true))
  {i:Nat}(BH:q.testBit i=true)(I9:D i=false){o:Oper}(ho:ops[i]? =some o)(hE: ∀j,j∈bZ o→(B.testBit j=true∨D j=true)){a:Act}{w:World}(iv:Inv ty zb (eG D tr s ops.length) a w):
  gD P ops.toArray o a w (fun a' w'=>Inv ty zb (eG (fun j=>D j||j==i) tr s ops.length) a' w') Q:=by
 have hi:i<ops.length:=(List.getElem?_eq_some_iff.1 ho).1
 obtain⟨o',e,vc,ho',he,hd,hnm,hq,Xv⟩:=T.one i hi BH
 rw[ho]at ho'
 simp only[oI]at ho'
 subst ho'
 have hfr:=T.fresh
 have MI: ∀{k},q.testBit k=true→k<ops.length→(B.testBit k=true∨D k=true)→D k=true:=by
  intro k hk Em h
  rcases h with h|h
  ·rw[K.iq k Em hk]at h;cases h
  ·exact h
 have adh: ∀{x},((Gy ops).getD i 0).testBit x=true→(B.testBit x=true∨D x=true):=fun h=>CY (D:=fun j=>B.testBit j=true∨D j=true) K.back HO i o ho hE _ h
 have aaN: ∀{x},((Gy ops).getD i 0).testBit x=true→x<i:=fun h=>CY (D:=fun j=>j<i) K.back (fun a b hab hb j hj=>Nat.lt_trans (K.back a b hb j hj) hab) i o ho (fun j hj=>K.back i o ho j hj) _ h
 have hdist: ∀{j e'},j<ops.length→q.testBit j=true→tr[j]? =some e'→ ∃q,ops[j]? =some q∧q.dst=some e'.d:=by
  intro j e' hj WQ he'
  obtain⟨q,e2,_,X1,Ew,hd2,_⟩:=T.one j hj WQ
  rw[he']at Ew
  simp only[oI]at Ew
  subst Ew
  exact⟨q,X1,hd2⟩
 have Ja: ∀{j j':Nat} {e1 e2:TE},j<ops.length→j'<ops.length→q.testBit j=true→q.testBit j'=true→tr[j]? =some e1→tr[j']? =some e2→e2.d=e1.d→j'=j:=by
  intro j j' e1 e2 h1 h2 g1 g2 h3 h4 h5
  obtain⟨q1,p1,p2⟩:=hdist h1 g1 h3
  obtain⟨q2,p3,p4⟩:=hdist h2 g2 h4
  exact K.dist j q1 j' q2 e1.d g1 p1 p3 p2 (by rw[p4,h5])
 have agree: ∀t,(∀k o',k<ops.length→q.testBit k=true→ops[k]? =some o'→o'.dst=some t→k=i∨(k<i∧D k=true)∨(i<k∧D k=false))→look (eG (fun j=>q.testBit j) tr s i).sl t=look (eG D tr s ops.length).sl t:=by
  intro t ht
  by_cases hex: ∃k e',k<i∧D k=true∧tr[k]? =some e'∧e'.d=t
  ·obtain⟨k,e',hk,rH,he',rfl⟩:=hex
   rw[ld hk (rI k rH) he' fun j' e2 h1 h2 h3 h4=>Ja (by omega) (by omega) (rI k rH) h2 he' h3 h4,ld (by omega) rH he' fun j' e2 h1 h2 h3 h4=>Ja (by omega) h1 (rI k rH) (rI j' h2) he' h3 h4]
  ·rw[oS (fun k e' hk Lf he' hdt=>by
      obtain⟨q',h1,h2⟩:=hdist (by omega) Lf he'
      rcases ht k q' (by omega) Lf h1 (by rw[h2,hdt])with h|h|h
      ·omega
      ·exact hex ⟨k,e',hk,h.2,he',hdt⟩
      ·omega),
    oS (fun k e' hk rH he' hdt=>by
     obtain⟨q',h1,h2⟩:=hdist hk (rI k rH) he'
     rcases ht k q' hk (rI k rH) h1 (by rw[h2,hdt])with h|h|h
     ·subst h;rw[I9]at rH;cases rH
     ·exact hex ⟨k,e',h.1,h.2,he',hdt⟩
     ·rw[h.2]at rH;cases rH)]
 obtain⟨p,kf,gl,eO,Io⟩:=kq hq
 have MJ: ∀x,x∈p→look (eG (fun j=>q.testBit j) tr s i).sl x.1=look (eG D tr s ops.length).sl x.1:=by
  intro x hx
  refine agree x.1 fun k o2 Em Lf Pr hd2=>Or.inr (Or.inl ⟨?_,MI Lf Em ?_⟩)
  ·exact T.path K i hi BH o p ho kf x hx k o2 Lf Pr hd2 (fun j=>j<i) (fun a b hab hb j hj=>Nat.lt_trans (K.back a b hb j hj) hab) (fun j hj=>K.back i o ho j hj)
  ·exact T.path K i hi BH o p ho kf x hx k o2 Lf Pr hd2 (fun j=>B.testBit j=true∨D j=true) HO hE
 have rY:ij (eG D tr s ops.length) ops o=some p:=by
  rw[←kf]
  unfold ij
  split
  ·rfl
  ·rename_i j x hgd
   split
   ·rename_i q MH
    split
    ·rename_i d TP
     have hmem: ∃y,(d,y)∈p:=by
      unfold ij at kf
      rw[hgd]at kf
      dsimp only at kf
      rw[MH]at kf
      dsimp only at kf
      rw[TP]at kf
      dsimp only at kf
      split at kf
      ·simp only[oI]at kf;exact⟨x,by rw[←kf];simp⟩
      ·simp only[oI]at kf;exact⟨x,by rw[←kf];simp⟩
      ·cases kf
     obtain⟨y,hy⟩:=hmem
     rw[←MJ (d,y) hy]
    ·rfl
   ·rfl
 have Yp:fresh (eG D tr s ops.length).hp e.os=true:=by
  refine IL fun n x hl=> ?_
  cases Et:look (eG D tr s ops.length).hp n with
  |none=>exact⟨rfl,(Io n x hl).2⟩
  |some y=>
   exfalso
   have hpi:=hfr i e hi BH he n x hl
   rcases lf Et with h| ⟨j,e',hj,Lh,he',h⟩
   ·have:=tX (D:=fun j=>q.testBit j) hfr (fun _ h=>h) (i:=i) (by omega) h
    rw[hpi]at this
    cases this
   ·have hji:j≠i:=by rintro rfl;rw[I9]at Lh;cases Lh
    by_cases hlt:j<i
    ·have:=tY (D:=fun j=>q.testBit j) hfr (fun _ h=>h) (i:=i) (by omega) hlt (rI j Lh) he' h
     rw[hpi]at this
     cases this
    ·have h2:=hfr j e' hj (rI j Lh) he' n y h
     have:=tY (D:=fun j=>q.testBit j) hfr (fun _ h=>h) (i:=j) (by omega) (j:=i) (by omega) BH he hl
     rw[h2]at this
     cases this
 have aaO:((eG D tr s ops.length).sl.any fun x=>x.2.mentions e.d)=false:=by
  rw[List.any_eq_false]
  intro x hx hm
  rcases GB hx with h| ⟨j,e',hj,Lh,he',rfl⟩
  ·rw[List.any_eq_false]at hnm
   exact hnm x (nT h) hm
  ·obtain⟨qq,e2,Zv,MH,Ew,hd2,_,UO,_⟩:=T.one j hj (rI j Lh)
   rw[he']at Ew
   simp only[oI]at Ew
   subst Ew
   obtain⟨pj,hgj,hj0,Un,_⟩:=kq UO
   by_cases hnil:pj= []
   ·cases Yq:e'.v with
    |cond q y=>exact hj0 hnil _ _ Yq
    |one y=>simp[Yq,SV.mentions]at hm
    |uQ y=>simp[Yq,SV.mentions]at hm
   ·obtain⟨y,hy⟩:=(Un hnil).1
    simp only[hy,SV.mentions,List.any_eq_true]at hm
    obtain⟨z,hz,hzd⟩:=hm
    have hzd:=Nat.eq_of_beq_eq_true hzd
    have h4:=T.path K j hj (rI j Lh) qq pj MH hgj z hz i o BH ho (by rw[hd,hzd]) (fun j=>B.testBit j=true∨D j=true) HO (HO j qq (Or.inr Lh) MH)
    have:=MI BH hi h4
    rw[I9]at this;cases this
 have hdm:e.v.mentions e.d=false:=by
  by_cases hnil:p= []
  ·cases Yq:e.v with
   |cond q y=>exact absurd Yq (gl hnil _ _)
   |one y=>rfl
   |uQ y=>rfl
  ·obtain⟨⟨y,hy⟩,_,hne⟩:=eO hnil
   rw[hy]
   simp only[SV.mentions]
   rw[List.any_eq_false]
   intro z hz hb
   exact hne e.d hd z hz (Nat.eq_of_beq_eq_true hb)
 have TW: ∀j,(fun j=>D j||j==i) j=true→q.testBit j=true:=by
  intro j hj
  simp only[Bool.or_eq_true,beq_iff_eq]at hj
  rcases hj with h|rfl
  ·exact rI j h
  ·exact BH
 have behind: ∀a' w',Inv ty zb (app (eG D tr s ops.length) e) a' w'→Inv ty zb (eG (fun j=>D j||j==i) tr s ops.length) a' w':=by
  intro a' w' oA
  obtain⟨env,g⟩:=oA.good
  refine⟨by rw[oA.size,AL];show(eG D tr s ops.length).n=s.n;exact AL _,oA.defers,oA.kept,oA.Ej,env,g.congr ?_ ?_⟩
  ·intro t v hl
   show look ((e.d,e.v)::(eG D tr s ops.length).sl) t=some v
   by_cases ht:t=e.d
   ·subst ht
    rw[ld hi (by simp) he fun j' e2 h1 h2 h3 h4=>Ja hi h1 BH (TW j' h2) he h3 h4]at hl
    rw[look_eq];exact hl
   ·rw[aZ ht]
    by_cases hex: ∃k e',k<ops.length∧D k=true∧tr[k]? =some e'∧e'.d=t
    ·obtain⟨k,e',hk,rH,he',rfl⟩:=hex
     rw[ld hk (by simp[rH]) he' fun j' e2 h1 h2 h3 h4=>Ja hk h1 (rI k rH) (TW j' h2) he' h3 h4]at hl
     rw[ld hk rH he' fun j' e2 h1 h2 h3 h4=>Ja hk h1 (rI k rH) (rI j' h2) he' h3 h4]
     exact hl
    ·rw[oS fun k e' hk rH he' hdt=>by
      simp only[Bool.or_eq_true,beq_iff_eq]at rH
      rcases rH with h|rfl
      ·exact hex ⟨k,e',hk,h,he',hdt⟩
      ·rw[he]at he'
       simp only[oI]at he'
       exact ht (by rw[he',hdt])]at hl
     rw[oS fun k e' hk rH he' hdt=>hex ⟨k,e',hk,rH,he',hdt⟩]
     exact hl
  ·intro n
   show look (eG (fun j=>D j||j==i) tr s ops.length).hp n=look (e.os++(eG D tr s ops.length).hp) n
   cases hl:look e.os n with
   |some x=>
    rw[cz hl]
    exact tY hfr TW (Nat.le_refl _) hi (by simp) he hl
   |none=>
    rw[bB hl]
    cases hx:look (eG (fun j=>D j||j==i) tr s ops.length).hp n with
    |some y=>
     rcases lf hx with h| ⟨j,e',hj,Lh,he',h⟩
     ·exact(tX hfr rI (Nat.le_refl _) h).symm
     ·have hji:j≠i:=by
       rintro rfl
       rw[he]at he'
       simp only[oI]at he'
       subst he'
       rw[hl]at h;cases h
      have Lh:D j=true:=by
       simp only[Bool.or_eq_true,beq_iff_eq]at Lh
       exact Lh.resolve_right hji
      exact(tY hfr rI (Nat.le_refl _) hj Lh he' h).symm
    |none=>
     cases hy:look (eG D tr s ops.length).hp n with
     |none=>rfl
     |some y=>
      rcases lf hy with h| ⟨j,e',hj,Lh,he',h⟩
      ·rw[tX hfr TW (Nat.le_refl _) h]at hx;cases hx
      ·rw[tY hfr TW (Nat.le_refl _) hj (by simp[Lh]) he' h]at hx;cases hx
 have hput:St.put ⟨(eG D tr s ops.length).n,(eG D tr s ops.length).sl,e.os++(eG D tr s ops.length).hp⟩ o.dst e.v=app (eG D tr s ops.length) e:=by
  rw[hd]
  simp only[St.put,aaO]
  rfl
 by_cases hw:Region.wanted o (yielded ops.toArray a.tmps)=true
 ·have hh:holds a.tmps p:=by
   obtain⟨env,g⟩:=iv.good
   unfold ij at rY
   split at rY
   ·simp at rY;subst rY;intro y hy;simp at hy
   ·rename_i j x hgd
    split at rY
    ·rename_i q MH
     split at rY
     ·rename_i d TP
      have ZD:=(p8 (ops:=ops.toArray) hgd (by simpa using MH) TP a.tmps).1 hw
      split at rY
      ·simp only[oI]at rY
       subst rY
       intro y hy
       simp at hy
       subst hy
       exact ZD
      ·rename_i p' b hl
       simp only[oI]at rY
       subst rY
       intro y hy
       rcases List.mem_cons.1 hy with rfl|hy
       ·exact ZD
       ·exact(yT g hl ZD).1 y hy
      ·cases rY
     ·cases rY
    ·cases rY
  obtain⟨env,g⟩:=iv.good
  have Vl:Compat (eG (fun j=>q.testBit j) tr s i).hp (eG D tr s ops.length).hp:=by
   intro n x y h1 h2
   have h3:=zD hfr (Nat.le_of_lt hi) (Nat.le_refl _) h1
   have h4:=sL hfr rI (Nat.le_refl _) h2
   rw[h3]at h4
   simpa using h4
  have hmono:=K1 Vl g (by rw[AL,AL]) kf rY hh (fun x hx t hxt=>agree t fun k o2 hk Lf Pr hd2=>by
    have ht:t∈tmpsOf o:=by
     simp only[tmpsOf,List.mem_filterMap]
     exact⟨x,hx,by rw[hxt]⟩
    rcases K.uses i o BH ho t ht k o2 Lf Pr hd2 with h|h|h
    ·exact Or.inl h
    ·exact Or.inr (Or.inl ⟨aaN h,MI Lf hk (adh h)⟩)
    ·refine Or.inr (Or.inr ⟨h.1,?_⟩)
     cases rH:D k with
     |false=>rfl
     |true=>
      have:=CY (D:=fun j=>B.testBit j=true∨D j=true) K.back HO k o2 Pr (HO k o2 (Or.inr rH) Pr) i h.2
      have:=MI BH hi this
      rw[I9]at this;cases this) MJ Yp hq
  have:=Ij (Q:=Q) C hmono iv (fun p hp=>hv _ Xv BH hi p hp)
  rw[hput]at this
  exact this.mono behind
 ·unfold gD
  rw[if_neg hw]
  have hnil:p≠ []:=by
   rintro rfl
   unfold ij at kf
   split at kf
   ·rename_i hgd;exact hw (by simp[Region.wanted,hgd])
   ·repeat' split at kf
    all_goals simp at kf
  obtain⟨⟨y,hy⟩,hos,_⟩:=eO hnil
  have hnh: ¬holds a.tmps p:=by
   intro hh
   unfold ij at kf
   split at kf
   ·rename_i hgd;exact hw (by simp[Region.wanted,hgd])
   ·rename_i j x hgd
    split at kf
    ·rename_i q MH
     split at kf
     ·rename_i d TP
      have hdx:(d,x)∈p:=by
       split at kf
       ·simp only[oI]at kf;rw[←kf];simp
       ·simp only[oI]at kf;rw[←kf];simp
       ·cases kf
      exact hw ((p8 (ops:=ops.toArray) hgd (by simpa using MH) TP a.tmps).2 (hh _ hdx))
     ·cases kf
    ·cases kf
  apply behind
  obtain⟨env,g⟩:=iv.good
  have hlt:e.d<a.tmps.size:=by
   unfold oN at hq
   have:wD (eG (fun j=>q.testBit j) tr s i) o.dst=true:=by
    cases WO:wD (eG (fun j=>q.testBit j) tr s i) o.dst with
    |true=>rfl
    |false=>rw[WO]at hq;simp at hq
   rw[hd]at this
   rw[iv.size,AL]
   have:=Nat.le_of_ble_eq_true this
   rw[show(eG (fun j=>q.testBit j) tr s i).n=s.n from AL i]at this
   exact this
  have aaP:=g.put (d:=e.d) hlt (v:=e.v) (u:=undef) (by rw[hy];exact⟨fun hh=>absurd hh hnh,fun _=>rfl⟩) hdm
  refine⟨by rw[gC];exact iv.size,by rw[put_defers];exact iv.defers,iv.kept,iv.Ej,env,?_⟩
  rw[hd]
  have adi:(eG D tr s ops.length).put (some e.d) e.v=app (eG D tr s ops.length) e:=by
   simp only[St.put,aaO,app,hos]
   rfl
  rw[adi]at aaP
  exact aaP
end
theorem xA{ops:List Oper}{B q I8:Nat}{D:Nat→Bool}(rI: ∀i,D i=true→q.testBit i=true)(Yr: ∀i,D i=true→i<ops.length)(hb: ∀i o,ops[i]? =some o→ ∀j,j∈bZ o→j<i)
  (hc: ∀i o,D i=true→ops[i]? =some o→ ∀j,j∈bZ o→(B.testBit j=true∨D j=true))(MK: ∀i,q.testBit i=true→I8.testBit i=true→D i=true):
  ∀(m i d:Nat),i+m=ops.length→(∀j,d.testBit j=(decide (j<i)&&D j))→ ∃d',d'∈Dg ops B q I8 m i d∧ ∀j,d'.testBit j=D j
 |0,i,d,him,hd=>by
  refine⟨d,by simp[Dg],fun j=> ?_⟩
  rw[hd j]
  cases hj:D j with
  |false=>simp
  |true=>have:=Yr j hj;simp;omega
 |m+1,i,d,him,hd=>by
  have hstep:D i=false→ ∀j,d.testBit j=(decide (j<i+1)&&D j):=by
   intro I9 j
   rw[hd j]
   by_cases hji:j=i
   ·subst hji;simp[I9]
   ·have:decide (j<i)=decide (j<i+1):=by
     apply decide_eq_decide.2;omega
    rw[this]
  simp only[Dg]
  split
  ·rename_i hq
   have I9:D i=false:=by
    cases h:D i with
    |false=>rfl
    |true=>rw[rI i h]at hq;cases hq
   exact xA rI Yr hb hc MK m (i+1) d (by omega) (hstep I9)
  ·rename_i hq
   cases I9:D i with
   |true=>
    have hlt:=Yr i I9
    have ho:=List.getElem?_eq_getElem hlt
    have hcond:(((ops[i]?).map fun o=>(bZ o).all fun j=>B.testBit j||d.testBit j).getD false)=true:=by
     rw[ho]
     simp only[Option.map_some,Option.getD_some,List.all_eq_true,Bool.or_eq_true]
     intro j hj
     rcases hc i _ I9 ho j hj with h|h
     ·exact Or.inl h
     ·exact Or.inr (by rw[hd j,h];have:=hb i _ ho j hj;simp[this])
    obtain⟨d',h1,h2⟩:=xA rI Yr hb hc MK m (i+1) (d|||2^i) (by omega) (fun j=>by
     rw[Nat.testBit_or,Nat.testBit_two_pow,hd j]
     by_cases hji:i=j
     ·subst hji;simp[I9]
     ·have:decide (j<i)=decide (j<i+1):=by
       apply decide_eq_decide.2;omega
      simp[hji,this])
    refine⟨d',?_,h2⟩
    rw[hcond]
    exact List.mem_append_left _ h1
   |false=>
    obtain⟨d',h1,h2⟩:=xA rI Yr hb hc MK m (i+1) d (by omega) (hstep I9)
    refine⟨d',List.mem_append_right _ ?_,h2⟩
    split
    ·rename_i hm
     have:=MK i hq hm
     rw[I9]at this;cases this
    ·exact h1
section
variable{P:Program}{Γ:Nat→TK}{cO:List (Nat×Nat)}{cr:List (Nat×CR)}{ks hs:List Nat}{ops:List Oper}{n0 qs:Nat}
theorem nU: ∀{c:fX} {s:St} {tr:List TE} {vq acc:List (Nat×List Prop)} {lv:List (List Prop×St)},jc P ty Γ cO cr ks hs ops n0 c s tr vq acc=some lv→ ∀d t sub,(d,t,sub)∈c.MG→
  ∃o vc s2 l1,ops[t]? =some o∧step P ty Γ cO cr ops (I6 d 0 tr s) o=some (vc,s2)∧jc P ty Γ cO cr ks hs ops n0 sub s2 [] [] (Le t vc (I7 d vq acc))=some l1∧ ∀x,x∈l1→x∈lv
 | .br d0 t0 aaQ next,s,tr,vq,acc,lv,h,d,t,sub,hm=>by
   simp only[jc]at h
   split at h
   case h_2=>cases h
   rename_i s1 o hs1 ho
   have hs1:=mP hs1
   subst hs1
   split at h
   case h_2=>cases h
   rename_i vc s2 hst
   split at h
   case h_2=>cases h
   rename_i s3 hs3
   have hs3:=mP hs3
   subst hs3
   split at h
   case h_2=>cases h
   rename_i l1 l2 h1 h2
   simp only[oI]at h
   rw[dM]at h
   subst h
   simp only[fX.MG,List.mem_cons,pI]at hm
   rcases hm with⟨rfl,rfl,rfl⟩|hm
   ·exact⟨o,vc,_,l1,ho,hst,h1,fun x hx=>List.mem_append_left _ hx⟩
   ·obtain⟨o',vc',s',l',p1,p2,p3,p4⟩:=nU h2 d t sub hm
    exact⟨o',vc',s',l',p1,p2,p3,fun x hx=>List.mem_append_right _ (p4 x hx)⟩
 | .last _,_,_,_,_,_,_,_,_,_,hm=>by simp[fX.MG]at hm
 | .ph _ _,_,_,_,_,_,_,_,_,_,hm=>by simp[fX.MG]at hm
 | .nil,_,_,_,_,_,_,_,_,_,hm=>by simp[fX.MG]at hm
theorem pe: ∀{c:fX} {s:St} {tr:List TE} {vq acc:List (Nat×List Prop)} {lv:List (List Prop×St)},jc P ty Γ cO cr ks hs ops n0 c s tr vq acc=some lv→ ∀x,x∈lv→ ∀y,y∈acc→ ∀p,p∈y.2→p∈x.1
 | .last q,s,tr,vq,acc,lv,h,x,hx,y,hy,p,hp=>by
   simp only[jc]at h
   repeat' split at h
   all_goals first
    | (cases h;done)
    |skip
   rename_i hf _ _ _ _
   simp only[oI]at h
   subst h
   rw[List.mem_singleton]at hx
   subst hx
   exact zB hf y (o9.2 (Or.inr hy)) p hp
 | .ph q c,s,tr,vq,acc,lv,h,x,hx,y,hy,p,hp=>by
   simp only[jc]at h
   split at h
   ·exact pe h x hx y hy p hp
   ·cases h
 | .br d0 t0 aaQ next,s,tr,vq,acc,lv,h,x,hx,y,hy,p,hp=>by
   simp only[jc]at h
   split at h
   case h_2=>cases h
   split at h
   case h_2=>cases h
   split at h
   case h_2=>cases h
   split at h
   case h_2=>cases h
   rename_i l1 l2 h1 h2
   simp only[oI]at h
   rw[dM]at h
   subst h
   rcases List.mem_append.1 hx with hx|hx
   ·exact pe h1 x hx y (sK.2 (Or.inr (o9.2 (Or.inr hy)))) p hp
   ·exact pe h2 x hx y hy p hp
 | .nil,_,_,_,_,_,h,x,hx,_,_,_,_=>by
   simp only[jc,oI]at h
   subst h
   cases hx
theorem tZ{n:Nat}: ∀{c:fX} {B:Nat},Pt ops (Gy ops) (idx 0 ops) qs n B c=true→ ∀d t sub,(d,t,sub)∈c.MG→sub.RE=true∧t<n∧Pt ops (Gy ops) (idx 0 ops) qs n (B|||d|||2^t) sub=true∧SizeOf.sizeOf sub<SizeOf.sizeOf c
 | .br d0 t0 aaQ next,B,h,d,t,sub,hm=>by
   simp only[Pt,Bool.and_eq_true]at h
   simp only[fX.MG,List.mem_cons,pI]at hm
   rcases hm with⟨rfl,rfl,rfl⟩|hm
   ·exact⟨h.1.1.1,Nat.le_of_ble_eq_true h.1.1.2,h.1.2,by simp only[fX.br.sizeOf_spec];omega⟩
   ·obtain⟨p1,p2,p3,p4⟩:=tZ h.2 d t sub hm
    exact⟨p1,p2,p3,by simp only[fX.br.sizeOf_spec];omega⟩
 | .last _,_,_,_,_,_,hm=>by simp[fX.MG]at hm
 | .ph _ _,_,_,_,_,_,hm=>by simp[fX.MG]at hm
 | .nil,_,_,_,_,_,hm=>by simp[fX.MG]at hm
theorem Fl{B q:Nat}{c:fX}(h:GN ops (Gy ops) ops.length B q c=true)(K:Yk ops qs B q){D:Nat→Bool}(rI: ∀i,D i=true→q.testBit i=true)(Yr: ∀i,D i=true→i<ops.length)
  (HO: ∀i o,(B.testBit i=true∨D i=true)→ops[i]? =some o→ ∀j,j∈bZ o→(B.testBit j=true∨D j=true)){t:Nat}{o:Oper}(ho:ops[t]? =some o)(ht:B.testBit t=false)(hqt:q.testBit t=false)(hE: ∀j,j∈bZ o→(B.testBit j=true∨D j=true)):
  ∃d sub,(d,t,sub)∈c.MG∧ ∀i,d.testBit i=D i:=by
 have htl:t<ops.length:=(List.getElem?_eq_some_iff.1 ho).1
 simp only[GN,List.all_eq_true,List.mem_range,Bool.or_eq_true]at h
 obtain⟨d,h1,h2⟩:=xA (B:=B) (q:=q) (I8:=(Gy ops).getD t 0) rI Yr K.back (fun i o hi=>HO i o (Or.inr hi)) (fun i BH hm=>by
  have:=CY (D:=fun j=>B.testBit j=true∨D j=true) K.back HO t o ho hE i hm
  rcases this with h|h
  ·have hil:i<ops.length:=by
    have:=CY (D:=fun j=>j<t) K.back (fun a b hab hb j hj=>Nat.lt_trans (K.back a b hb j hj) hab) t o ho (fun j hj=>K.back t o ho j hj) _ hm
    omega
   rw[K.iq i hil BH]at h;cases h
  ·exact h) ops.length 0 0 (by omega) (fun j=>by simp)
 rcases h t htl with(h3|h3)|h3
 ·rw[ht]at h3;cases h3
 ·rw[hqt]at h3;cases h3
 ·have h4:=h3 d h1
  simp only[Bool.not_eq_true',List.any_eq_true,Bool.and_eq_true]at h4
  rcases h4 with h4| ⟨⟨d',t',sub⟩,h5,h6,h7⟩
  ·exfalso
   rw[ho]at h4
   simp only[Option.map_some,Option.getD_some]at h4
   have:((bZ o).all fun j=>B.testBit j||d.testBit j)=true:=by
    rw[List.all_eq_true]
    intro j hj
    rw[Bool.or_eq_true,h2 j]
    exact hE j hj
   rw[this]at h4;cases h4
  ·have h6:=Nat.eq_of_beq_eq_true h6
   have h7:=Nat.eq_of_beq_eq_true h7
   simp only at h6 h7
   subst h6;subst h7
   exact⟨d',sub,h5,h2⟩
theorem ML{B q:Nat}{c:fX}(adj:GN ops (Gy ops) ops.length B q c=true)(K:Yk ops qs B q)(Jb: ∀i o,B.testBit i=true→ops[i]? =some o→ ∀j,j∈bZ o→B.testBit j=true)
  (UO: ∀i o,q.testBit i=true→ops[i]? =some o→ ∀j,j∈bZ o→(B.testBit j=true∨q.testBit j=true))(hnot:((List.range ops.length).all fun i=>B.testBit i||q.testBit i)=false):
  ∃d t sub,(d,t,sub)∈c.MG∧(∀i,d.testBit i=(q.testBit i&&decide (i<ops.length)))∧ ∀o,ops[t]? =some o→ ∀j,j∈bZ o→(B.testBit j=true∨d.testBit j=true):=by
 have: ∃i,i<ops.length∧B.testBit i=false∧q.testBit i=false∧ ∀j,j<i→B.testBit j=true∨q.testBit j=true:=by
  rw[List.all_eq_false]at hnot
  obtain⟨i,hi,hn⟩:=hnot
  rw[List.mem_range]at hi
  simp only[Bool.or_eq_true,not_or,Bool.not_eq_true]at hn
  induction i using Nat.strongRecOn with
  |_ i ih=>
   by_cases hl: ∀j,j<i→B.testBit j=true∨q.testBit j=true
   ·exact⟨i,hi,hn.1,hn.2,hl⟩
   ·have: ∃j,j<i∧B.testBit j=false∧q.testBit j=false:=by
     apply Classical.byContradiction
     intro hno
     apply hl
     intro j hj
     cases hb:B.testBit j with
     |true=>exact Or.inl rfl
     |false=>
      cases hq:q.testBit j with
      |true=>exact Or.inr rfl
      |false=>exact absurd ⟨j,hj,hb,hq⟩ hno
    obtain⟨j,hj,h1,h2⟩:=this
    exact ih j hj (by omega) ⟨h1,h2⟩
 obtain⟨i,hi,h1,h2,h3⟩:=this
 have ho:=List.getElem?_eq_getElem hi
 obtain⟨d,sub,h4,h5⟩:=Fl (D:=fun j=>q.testBit j&&decide (j<ops.length)) adj K (fun j hj=>by simp at hj;exact hj.1) (fun j hj=>by simp at hj;exact hj.2)
  (fun a b hab hb j hj=>by
   have hal:a<ops.length:=(List.getElem?_eq_some_iff.1 hb).1
   have hjl:j<ops.length:=Nat.lt_trans (K.back a b hb j hj) hal
   rcases hab with h|h
   ·exact Or.inl (Jb a b h hb j hj)
   ·simp at h
    rcases UO a b h.1 hb j hj with h|h
    ·exact Or.inl h
    ·exact Or.inr (by simp[h,hjl])) ho h1 h2 (fun j hj=>by
   have hji:=K.back i _ ho j hj
   rcases h3 j hji with h|h
   ·exact Or.inl h
   ·exact Or.inr (by simp[h];omega))
 refine⟨d,i,sub,h4,h5,fun o ho' j hj=> ?_⟩
 have hji:=K.back i _ ho' j hj
 rcases h3 j hji with h|h
 ·exact Or.inl h
 ·exact Or.inr (by rw[h5 j,h];simp;omega)
theorem GP{B d t q:Nat}(K:Yk ops qs B q)(Jb: ∀i o,B.testBit i=true→ops[i]? =some o→ ∀j,j∈bZ o→B.testBit j=true)(hd: ∀i o,d.testBit i=true→ops[i]? =some o→ ∀j,j∈bZ o→(B.testBit j=true∨d.testBit j=true))
  (ht: ∀o,ops[t]? =some o→ ∀j,j∈bZ o→(B.testBit j=true∨d.testBit j=true)): ∀i o,(B|||d|||2^t).testBit i=true→ops[i]? =some o→ ∀j,j∈bZ o→(B|||d|||2^t).testBit j=true:=by
 intro i o hi ho j hj
 simp only[Nat.testBit_or,Nat.testBit_two_pow,Bool.or_eq_true,decide_eq_true_eq]at hi ⊢
 rcases hi with(h|h)|h
 ·exact Or.inl (Or.inl (Jb i o h ho j hj))
 ·exact Or.inl (hd i o h ho j hj)
 ·subst h;exact Or.inl (ht o ho j hj)
theorem Dj: ∀(N:Nat) (p:fX),SizeOf.sizeOf p≤N→p.RE=true→ ∀(B:Nat) (s:St) (tr:List TE) (vq acc:List (Nat×List Prop)) (lv:List (List Prop×St)),(∀i o,ops[i]? =some o→ ∀j,j∈bZ o→j<i)→(∀i o,B.testBit i=true→ops[i]? =some o→ ∀j,j∈bZ o→B.testBit j=true)→
  Pt ops (Gy ops) (idx 0 ops) qs ops.length B p=true→jc P ty Γ cO cr ks hs ops n0 p s tr vq acc=some lv→lv≠ []
 |N, .last q,_,_,B,s,tr,vq,acc,lv,hb,Jb,hok,h=>by
  simp only[jc]at h
  repeat' split at h
  all_goals first
   | (cases h;done)
   |skip
  simp only[oI]at h
  rw[←h];simp
 |0, .ph q c,hN,_,_,_,_,_,_,_,_,_,_,_=>by simp only[fX.ph.sizeOf_spec]at hN;omega
 |N+1, .ph q c,hN,_,B,s,tr,vq,acc,lv,hb,Jb,hok,h=>by
  simp only[Pt,Bool.and_eq_true,Bool.not_eq_true']at hok
  have K:=GO hb hok.1.1.1
  obtain⟨d,t,sub,hm,hd,ht⟩:=ML hok.1.1.2 K Jb K.clq hok.1.2
  simp only[jc]at h
  split at h
  case h_2=>cases h
  rename_i tr' vq' hr
  obtain⟨o,vc,s2,l1,h1,h2,h3,h4⟩:=nU h d t sub hm
  obtain⟨p1,p2,p3,p4⟩:=tZ hok.2 d t sub hm
  have hsz:SizeOf.sizeOf sub≤N:=by simp only[fX.ph.sizeOf_spec]at hN;omega
  have:=Dj N sub hsz p1 (B|||d|||2^t) s2 [] [] _ l1 hb (GP K Jb (fun i o hi ho j hj=>by
   rw[hd i]at hi
   simp only[Bool.and_eq_true,decide_eq_true_eq]at hi
   rcases K.clq i o hi.1 ho j hj with h|h
   ·exact Or.inl h
   ·exact Or.inr (by rw[hd j,h];have:=K.back i o ho j hj;simp;omega)) ht) p3 h3
  intro hnil
  cases l1 with
  |nil=>exact this rfl
  |cons x r=>have:=h4 x (by simp);rw[hnil]at this;cases this
 |_, .br _ _ _ _,_,hp,_,_,_,_,_,_,_,_,_,_=>by cases hp
 |_, .nil,_,hp,_,_,_,_,_,_,_,_,_,_=>by cases hp
variable{zb:cm}{Q:Exit→Act→World→Prop}
theorem Fm(X:Ctx P ty Γ){B q:Nat}{s:St}{tr:List TE}{vq:List (Nat×List Prop)}(T:TV Γ (Gb P ty) (Sound ty P) cO cr ops q s tr vq)(K:Yk ops qs B q)(hv: ∀x,x∈vq→q.testBit x.1=true→x.1<ops.length→ ∀p,p∈x.2→p)(Jb: ∀i o,B.testBit i=true→ops[i]? =some o→ ∀j,j∈bZ o→B.testBit j=true)
  (fin: ∀a w,(∀i,i<ops.length→B.testBit i=true∨q.testBit i=true)→Inv ty zb (eG (fun j=>q.testBit j) tr s ops.length) a w→Q .normal a w)
  (gr: ∀(fuel:Nat) (D:Nat→Bool) (listed:Array Bool) (i:Nat) (o:Oper) (a:Act) (w:World),listed.size=ops.length→(∀j,j<ops.length→listed.getD j false=(B.testBit j||D j))→(∀i,D i=true→q.testBit i=true)→(∀i,D i=true→i<ops.length)→
   (∀i o,(B.testBit i=true∨D i=true)→ops[i]? =some o→ ∀j,j∈bZ o→(B.testBit j=true∨D j=true))→ops[i]? =some o→B.testBit i=false→q.testBit i=false→(∀j,j∈bZ o→(B.testBit j=true∨D j=true))→cnt ops.length (fun j=>(listed.setIfInBounds i true).getD j false)≤fuel→
   Inv ty zb (eG D tr s ops.length) a w→gD P ops.toArray o a w (wpAny P .any ops.toArray Q fuel (listed.setIfInBounds i true)) Q):
  ∀(fuel:Nat) (D:Nat→Bool) (listed:Array Bool) (a:Act) (w:World),listed.size=ops.length→(∀j,j<ops.length→listed.getD j false=(B.testBit j||D j))→(∀i,D i=true→q.testBit i=true)→(∀i,D i=true→i<ops.length)→
   (∀i o,(B.testBit i=true∨D i=true)→ops[i]? =some o→ ∀j,j∈bZ o→(B.testBit j=true∨D j=true))→cnt ops.length (fun j=>listed.getD j false)≤fuel→Inv ty zb (eG D tr s ops.length) a w→wpAny P .any ops.toArray Q fuel listed a w:=by
 have all: ∀{D:Nat→Bool} {listed:Array Bool} {a:Act} {w:World},listed.size=ops.length→(∀j,j<ops.length→listed.getD j false=(B.testBit j||D j))→(∀i,D i=true→q.testBit i=true)→Region.ready .any ops.toArray listed= []→Inv ty zb (eG D tr s ops.length) a w→Q .normal a w:=by
  intro D listed a w hl hL rI hnil iv
  have adk: ∀i,i<ops.length→listed.getD i false=true:=by
   intro i
   induction i using Nat.strongRecOn with
   |_ i ih=>
    intro hi
    cases hd:listed.getD i false with
    |true=>rfl
    |false=>
     have:i∈Region.ready .any ops.toArray listed:=(ze hl).2 ⟨ops[i],List.getElem?_eq_getElem hi,hd,fun j hj=>by
      have:=K.back i _ (List.getElem?_eq_getElem hi) j hj
      exact ih j this (by omega)⟩
     rw[hnil]at this
     cases this
  have hBD: ∀i,i<ops.length→B.testBit i=true∨D i=true:=by
   intro i hi
   have:=adk i hi
   rw[hL i hi,Bool.or_eq_true]at this
   exact this
  refine fin a w (fun i hi=>(hBD i hi).imp id (rI i)) ?_
  rw[←zC (D:=D) fun i hi=> ?_]
  ·exact iv
  ·cases hq:q.testBit i with
   |false=>
    cases hd:D i with
    |false=>rfl
    |true=>rw[rI i hd]at hq;cases hq
   |true=>
    rcases hBD i hi with h|h
    ·rw[K.iq i hi hq]at h;cases h
    ·exact h
 intro fuel
 induction fuel with
 |zero=>
  intro D listed a w hl hL rI Yo HO hf iv
  have hz:=Q6 (by omega:cnt ops.length (fun i=>listed.getD i false)=0)
  have hnil:Region.ready .any ops.toArray listed= []:=by
   apply List.eq_nil_iff_forall_not_mem.2
   intro i hi
   obtain⟨o,ho,h1,_⟩:=(ze hl).1 hi
   rw[hz i (List.getElem?_eq_some_iff.1 ho).1]at h1
   cases h1
  exact⟨hnil,all hl hL rI hnil iv⟩
 |succ fuel ih=>
  intro D listed a w hl hL rI Yo HO hf iv
  refine⟨fun hnil=>all hl hL rI hnil iv,fun i hi=> ?_⟩
  obtain⟨o,ho,hif,hE0⟩:=(ze hl).1 hi
  have hin:=(List.getElem?_eq_some_iff.1 ho).1
  have hE: ∀j,j∈bZ o→(B.testBit j=true∨D j=true):=by
   intro j hj
   have:=hE0 j hj
   rw[hL j (by have:=K.back i o ho j hj;omega),Bool.or_eq_true]at this
   exact this
  rw[hL i hin,Bool.or_eq_false_iff]at hif
  obtain⟨ZE,I9⟩:=hif
  have QU: ∀j,(listed.setIfInBounds i true).getD j false=(listed.getD j false||j==i):=fun j=>IM (by omega)
  have adl:(fun j=>(listed.setIfInBounds i true).getD j false)=fun j=>listed.getD j false||j==i:=funext QU
  have Vm:cnt ops.length (fun j=>(listed.setIfInBounds i true).getD j false)≤fuel:=by
   rw[adl]
   have:=UP (D:=fun i=>listed.getD i false) hin (by rw[hL i hin,ZE,I9];rfl)
   omega
  unfold wpOp
  rw[List.getElem?_toArray,ho]
  dsimp only
  cases BH:q.testBit i with
  |true=>
   have hstep:=Lg (Q:=Q) X.kind T K hv rI Yo HO BH I9 ho hE iv
   refine gD.mono (fun a' w' oA=>ih (fun j=>D j||j==i) (listed.setIfInBounds i true) a' w' (by simpa using hl) (fun j hj=> ?_) (fun j hj=> ?_) (fun j hj=> ?_) (fun a b hab hb j hj=> ?_) Vm oA) hstep
   ·rw[QU,hL j hj,Bool.or_assoc]
   ·simp only[Bool.or_eq_true,beq_iff_eq]at hj
    rcases hj with h|rfl
    ·exact rI j h
    ·exact BH
   ·simp only[Bool.or_eq_true,beq_iff_eq]at hj
    rcases hj with h|rfl
    ·exact Yo j h
    ·exact hin
   ·have up: ∀{x},(B.testBit x=true∨D x=true)→(B.testBit x=true∨(D x||x==i)=true):=fun h=>h.imp id (fun h=>by simp[h])
    simp only[Bool.or_eq_true,beq_iff_eq]at hab
    rcases hab with h|h|rfl
    ·exact up (HO a b (Or.inl h) hb j hj)
    ·exact up (HO a b (Or.inr h) hb j hj)
    ·rw[ho]at hb
     simp only[oI]at hb
     subst hb
     exact up (hE j hj)
  |false=>exact gr fuel D listed i o a w hl hL rI Yo HO ho ZE BH hE Vm iv
theorem Jc(X:Ctx P ty Γ)(hb: ∀i o,ops[i]? =some o→ ∀j,j∈bZ o→j<i): ∀(N:Nat) (p:fX),SizeOf.sizeOf p≤N→p.RE=true→ ∀(B:Nat) (s:St) (tr0:List TE) (vq0 acc:List (Nat×List Prop)) (lv:List (List Prop×St)),
  (∀i o,B.testBit i=true→ops[i]? =some o→ ∀j,j∈bZ o→B.testBit j=true)→Pt ops (Gy ops) (idx 0 ops) qs ops.length B p=true→jc P ty Γ cO cr ks hs ops n0 p s tr0 vq0 acc=some lv→
  (∀x,x∈lv→(∀q,q∈x.1→q)∧ ∀a w,Inv ty zb x.2 a w→Q .normal a w)→
  ∀(fuel:Nat) (listed:Array Bool) (a:Act) (w:World),listed.size=ops.length→(∀j,j<ops.length→listed.getD j false=B.testBit j)→cnt ops.length (fun j=>listed.getD j false)≤fuel→Inv ty zb s a w→wpAny P .any ops.toArray Q fuel listed a w
 |N, .last q,hN,_,B,s,tr0,vq0,acc,lv,Jb,hok,h,hlv,fuel,listed,a,w,hl,hL,hf,iv=>by
  simp only[Pt,Bool.and_eq_true]at hok
  have K:=GO hb hok.1
  simp only[jc]at h
  split at h
  case h_2=>cases h
  rename_i tr vq hr
  split at h
  case h_2=>cases h
  rename_i n sl1 eO hs1
  have hs1:=mP hs1
  split at h
  case h_2=>cases h
  rename_i sl hp vc h1 h2 h3
  split at h
  case h_2=>cases h
  rename_i qY hn
  simp only[oI]at h
  have T:=TV.of hr
  obtain⟨hx1,Yq⟩:=hlv (vc,⟨n0,sl,hp⟩) (by rw[←h];simp)
  have hmk:eG (fun j=>q.testBit j) tr s ops.length=⟨n,sl1,eO⟩:=by
   rw[hs1,xz,T.len]
   congr 1
   funext j;rw[Nat.zero_add]
  refine Fm X T K (fun x hx hq _ p hp=>hx1 p (zB h3 x (o9.2 (Or.inl ⟨hx,hq⟩)) p hp)) Jb (fun a w _ oA=> ?_) (fun fuel D listed i o a w _ _ _ _ _ ho ZE BH _ _ _=> ?_) fuel (fun _=>false) listed a w hl (fun j hj=>by rw[hL j hj,Bool.or_false]) (by simp) (by simp) (fun i o hi ho j hj=>by
    rcases hi with h|h
    ·exact Or.inl (Jb i o h ho j hj)
    ·cases h) hf (by rw[Dh];exact iv)
  ·rw[hmk]at oA
   exact Yq a w (oA.weaken (Nat.eq_of_beq_eq_true hn).symm (kj h1) (ko h2) qY)
  ·exfalso
   have hil:=(List.getElem?_eq_some_iff.1 ho).1
   have:=List.all_eq_true.1 hok.2 i (List.mem_range.2 hil)
   rw[ZE,BH]at this;cases this
 |0, .ph q c,hN,_,_,_,_,_,_,_,_,_,_,_,_,_,_,_,_,_,_,_=>by simp only[fX.ph.sizeOf_spec]at hN;omega
 |N+1, .ph q c,hN,_,B,s,tr0,vq0,acc,lv,Jb,hok,h,hlv,fuel,listed,a,w,hl,hL,hf,iv=>by
  simp only[Pt,Bool.and_eq_true,Bool.not_eq_true']at hok
  have K:=GO hb hok.1.1.1
  obtain⟨d,t,sub,hm,hd,ht⟩:=ML hok.1.1.2 K Jb K.clq hok.1.2
  simp only[jc]at h
  split at h
  case h_2=>cases h
  rename_i tr vq hr
  have T:=TV.of hr
  have hv: ∀x,x∈vq→q.testBit x.1=true→x.1<ops.length→ ∀p,p∈x.2→p:=by
   obtain⟨o,vc,s2,l1,h1,h2,h3,h4⟩:=nU h d t sub hm
   obtain⟨p1,p2,p3,p4⟩:=tZ hok.2 d t sub hm
   have hsz:SizeOf.sizeOf sub≤N:=by simp only[fX.ph.sizeOf_spec]at hN;omega
   have hne:=Dj N sub hsz p1 (B|||d|||2^t) s2 [] [] _ l1 hb (GP K Jb (fun i o hi ho j hj=>by
    rw[hd i]at hi
    simp only[Bool.and_eq_true,decide_eq_true_eq]at hi
    rcases K.clq i o hi.1 ho j hj with h|h
    ·exact Or.inl h
    ·exact Or.inr (by rw[hd j,h];have:=K.back i o ho j hj;simp;omega)) ht) p3 h3
   cases l1 with
   |nil=>exact absurd rfl hne
   |cons x r=>
    intro y hy hq hyl p hp
    exact(hlv x (h4 x (by simp))).1 p (pe h3 x (by simp) y (sK.2 (Or.inr (o9.2 (Or.inl ⟨hy,by rw[hd y.1,hq];simp[hyl]⟩)))) p hp)
  refine Fm X T K hv Jb (fun a w hall _=> ?_) (fun fuel D listed i o a w hl hL rI Yo HO ho ZE BH hE Vm oA=> ?_) fuel (fun _=>false) listed a w hl (fun j hj=>by rw[hL j hj,Bool.or_false]) (by simp) (by simp) (fun i o hi ho j hj=>by
    rcases hi with h|h
    ·exact Or.inl (Jb i o h ho j hj)
    ·cases h) hf (by rw[Dh];exact iv)
  ·exfalso
   have:((List.range ops.length).all fun i=>B.testBit i||q.testBit i)=true:=by
    rw[List.all_eq_true]
    intro i hi
    rw[Bool.or_eq_true]
    exact hall i (List.mem_range.1 hi)
   rw[hok.1.2]at this;cases this
  ·obtain⟨d,sub,hm,hd⟩:=Fl hok.1.1.2 K rI Yo HO ho ZE BH hE
   obtain⟨o',vc,s2,l1,h1,h2,h3,h4⟩:=nU h d i sub hm
   rw[ho]at h1
   simp only[oI]at h1
   subst h1
   obtain⟨p1,p2,p3,p4⟩:=tZ hok.2 d i sub hm
   have hsz:SizeOf.sizeOf sub≤N:=by simp only[fX.ph.sizeOf_spec]at hN;omega
   have hmk:I6 d 0 tr s=eG D tr s ops.length:=by
    rw[xz,T.len]
    exact zC fun j _=>by rw[Nat.zero_add];exact hd j
   rw[hmk]at h2
   have aaS:=GP (d:=d) (t:=i) K Jb (fun i o hi ho j hj=>by
    rw[hd i]at hi
    rw[hd j]
    exact HO i o (Or.inr hi) ho j hj) (fun o2 Pr j hj=>by
    rw[ho]at Pr
    simp only[oI]at Pr
    subst Pr
    rw[hd j]
    exact hE j hj)
   have hne:=Dj N sub hsz p1 (B|||d|||2^i) s2 [] [] _ l1 hb aaS p3 h3
   have Xv: ∀p,p∈vc→p:=by
    cases l1 with
    |nil=>exact absurd rfl hne
    |cons x r=>
     intro p hp
     exact(hlv x (h4 x (by simp))).1 p (pe h3 x (by simp) (i,vc) (sK.2 (Or.inl rfl)) p hp)
   have hstep:=tR (Q:=Q) X.kind X.one h2 oA Xv
   refine gD.mono (fun a' w' iv2=>Jc X hb N sub hsz p1 (B|||d|||2^i) s2 [] [] _ l1 aaS p3 h3 (fun x hx=>hlv x (h4 x hx)) fuel (listed.setIfInBounds i true) a' w' (by simpa using hl) (fun j hj=> ?_) Vm iv2) hstep
   have hin:=(List.getElem?_eq_some_iff.1 ho).1
   rw[IM (by omega),hL j hj]
   simp only[Nat.testBit_or,Nat.testBit_two_pow,hd j]
   by_cases hji:j=i
   ·subst hji;simp
   ·have: ¬i=j:=fun e=>hji e.symm
    simp[hji,this]
 |_, .br _ _ _ _,_,hp,_,_,_,_,_,_,_,_,_,_,_,_,_,_,_,_,_,_=>by cases hp
 |_, .nil,_,hp,_,_,_,_,_,_,_,_,_,_,_,_,_,_,_,_,_,_=>by cases hp
end
def Fo(x:List Prop×St):List (List Prop×St)→Prop
 | []=>True
 |y::r=>y=x∧Fo x r
theorem Fo.out{x:List Prop×St}: ∀{l:List (List Prop×St)},Fo x l→ ∀y,y∈l→y=x
 |_::_,h,y,hy=>by
  rcases List.mem_cons.1 hy with rfl|hy
  ·exact h.1
  ·exact Fo.out h.2 y hy
section
variable{P:Program}{Γ:Nat→TK}{zb:cm}{Q:Post}{st:St}
theorem RG(X:Ctx P ty Γ)(cO:List (Nat×Nat))(cr:List (Nat×CR))(ks hs:List Nat)(qs:Nat)(pl:fX){id:Nat}{ops:List Oper}{vc:List Prop}{st':St}{rest:List (List Prop×St)}(hm:P.follows .mixedOrders=true)(hc:Vk ops qs pl=true)(h:jc P ty Γ cO cr ks hs ops st.n pl st [] [] []=some ((vc,st')::rest))(he:Fo (vc,st') rest)(hv:jX vc)(k:Q .normal st'):
  W P ty zb (.region id ops.toArray true) Q st:=by
 intro a w iv
 simp only[Vk,Bool.and_eq_true]at hc
 have hb:=aaM hc.1.1
 refine wp_region_any hm ?_
 have hz: ∀i,(Array.replicate ops.toArray.size false).getD i false=false:=by
  intro i
  rw[Array.getD_eq_getD_getElem?,Array.getElem?_replicate]
  split<;>rfl
 refine Jc (zb:=zb) (Q:=Ey ty zb Q) X hb _ pl (Nat.le_refl _) hc.1.2 0 st [] [] [] _ (fun i o hi=>by simp at hi) hc.2 h (fun x hx=> ?_) _ _ a _ (by simp) (fun j hj=>by rw[hz];simp) ?_ ?_
 ·have hx:x=(vc,st'):=by
   rcases List.mem_cons.1 hx with rfl|hx
   ·rfl
   ·exact he.out x hx
  subst hx
  exact⟨hv.out,fun a w oA=>⟨st',oA,k⟩⟩
 ·unfold cnt
  refine Nat.le_trans (List.length_filter_le _ _) ?_
  simp
 ·obtain⟨env,g⟩:=iv.good
  have hdr:Below w.heap.size w w.drew:=(Below.refl _ _).drew
  refine⟨iv.size,iv.defers,iv.kept.trans (j9 hdr iv.kept.size),iv.Ej,env,?_⟩
  have:=g.grow (os:= []) (w':=w.drew) (env':=env) iv.kept.size rfl (ke.none hdr)
  exact this
end
section
variable{P:Program}{Γ:Nat→TK}{zb:cm}{Q:Post}{st:St}
theorem RH(X:Ctx P ty Γ)(cO:List (Nat×Nat))(cr:List (Nat×CR))(ks hs:List Nat)(qs:Nat)(pl:fX)(nw:Nat){id:Nat}{ops:List Oper}{vc:List Prop}{st':St}(hm:P.follows .mixedOrders=true)(hc:Vk ops qs pl=true)(_h0:G.TT P ty Γ cO cr ks hs ops st=some (vc,st'))(h:jc P ty Γ cO cr ks hs ops st.n pl st [] [] []=some ((vc,st')::List.replicate nw (vc,st')))(hv:jX vc)(k:Q .normal st'):
  W P ty zb (.region id ops.toArray true) Q st:=by
 refine RG X cO cr ks hs qs pl hm hc h ?_ hv k
 have: ∀n,Fo (vc,st') (List.replicate n (vc,st')):=by
  intro n
  induction n with
  |zero=>trivial
  |succ n ih=>exact⟨rfl,ih⟩
 exact this nw
def hasB(B:Nat)(es:List Nat):Bool:=es.all fun j=>B.testBit j
def mkQ(B qs:Nat):List (Nat×List Nat)→Nat→Nat
 | [],q=>q
 | (i,es)::r,q=>match !B.testBit i&&qs.testBit i&&hasB (B|||q) es with
   |true=>mkQ B qs r (q|||2^i)
   |false=>mkQ B qs r q
def enD(B q clt:Nat):List (Nat×List Nat)→Nat→List Nat
 | [],d=> [d]
 | (i,es)::r,d=>match q.testBit i with
   |false=>enD B q clt r d
   |true=>(match hasB (B|||d) es with|true=>enD B q clt r (d|||2^i)|false=> [])++(match clt.testBit i with|true=> []|false=>enD B q clt r d)
def mkB(f:Nat→fX)(B q:Nat)(E:List (Nat×List Nat))(cl:List Nat):List (Nat×List Nat)→fX
 | []=> .nil
 | (t,es)::r=>match(B|||q).testBit t with
   |true=>mkB f B q E cl r
   |false=>((enD B q (cl.getD t 0) E 0).filter fun d=>hasB (B|||d) es).foldr (fun d p=> .br d t (f (B|||d|||2^t)) p) (mkB f B q E cl r)
def mkP(E:List (Nat×List Nat))(cl:List Nat)(qs full:Nat):Nat→Nat→fX
 |0,_=> .nil
 |k+1,B=>match mkQ B qs E 0 with
  |q=>match Nat.beq (B|||q) full with
   |true=> .last q
   |false=> .ph q (mkB (mkP E cl qs full k) B q E cl E)
def Li(ops:List Oper)(qs:Nat):fX:=mkP ((idx 0 ops).map fun e=>(e.1,bZ e.2)) (Gy ops) qs (2^ops.length-1) (ops.length+1) 0
theorem aF(X:Ctx P ty Γ)(cO:List (Nat×Nat))(cr:List (Nat×CR))(ks hs:List Nat)(qs:Nat)(nw:Nat){id:Nat}{ops:List Oper}{vc:List Prop}{st':St}(hm:P.follows .mixedOrders=true)(hc:Vk ops qs (Li ops qs)=true)(h0:G.TT P ty Γ cO cr ks hs ops st=some (vc,st'))(h:jc P ty Γ cO cr ks hs ops st.n (Li ops qs) st [] [] []=some ((vc,st')::List.replicate nw (vc,st')))(hv:jX vc)(k:Q .normal st'):
  W P ty zb (.region id ops.toArray true) Q st:=RH X cO cr ks hs qs (Li ops qs) nw hm hc h0 h hv k
end
end
section
variable{ty:Tag→Nat}
def Jo(st:St)(n i:Nat):Option St:=match look st.hp n with
 |some (.box c)=>match wv c i with
  |some (.own m)=>match look st.hp m with
   |some (.arr t l)=>match XZ ((n, .box (c.set i (.vw m none t l)))::st.hp.filter fun e=> !Nat.beq e.1 n)with
    |some hp=>some ⟨st.n,st.sl,hp⟩
    |none=>none
   |_=>none
  |_=>none
 |_=>none
theorem sO{α:Type}{hp:List (Nat×α)}{n m:Nat}(h:m≠n):look (hp.filter fun e=> !Nat.beq e.1 n) m=look hp m:=by
 induction hp with
 |nil=>rfl
 |cons e r ih=>
  obtain⟨j,x⟩:=e
  by_cases hj:j=n
  ·subst hj
   rw[List.filter_cons_of_neg (by simp),ih,aZ h]
  ·have:Nat.beq j n=false:=by
    cases hb:Nat.beq j n with
    |false=>rfl
    |true=>exact absurd (Nat.eq_of_beq_eq_true hb) hj
   rw[List.filter_cons_of_pos (by simp[this])]
   by_cases hm:m=j
   ·subst hm;rw[look_eq,look_eq]
   ·rw[aZ hm,aZ hm,ih]
theorem bA.set{α β:Type}{R:α→β→Prop}: ∀{as:List α} {bs:List β} {i:Nat} {x:α},bA R as bs→(∀y,bs[i]? =some y→R x y)→bA R (as.set i x) bs
 | [],[],_,_,_,_=>trivial
 |a::as,b::bs,0,x,h,hx=>⟨hx b rfl,h.2⟩
 |a::as,b::bs,i+1,x,h,hx=>⟨h.1,bA.set h.2 (fun y hy=>hx y (by simpa using hy))⟩
 | [],_::_,_,_,h,_=>h.elim
 |_::_,[],_,_,h,_=>h.elim
section
variable{P:Program}{zb:cm}{st st':St}{Q:Post}
theorem Inv.Jo{a:Act}{w:World}(n i:Nat)(h:G.Jo st n i=some st')(iv:Inv ty zb st a w):Inv ty zb st' a w:=by
 unfold G.Jo at h
 split at h
 case h_2=>cases h
 rename_i c hc
 split at h
 case h_2=>cases h
 rename_i m hm
 split at h
 case h_2=>cases h
 rename_i t l hl
 split at h
 case h_2=>cases h
 rename_i hp hf
 simp only[oI]at h
 subst h
 have hf:=Gv hf
 obtain⟨env,g⟩:=iv.good
 have hmn:m≠n:=by rintro rfl;rw[hl]at hc;cases hc
 have hlk: ∀k o,look hp k=some o→(k=n∧o= .box (c.set i (.vw m none t l)))∨(k≠n∧look st.hp k=some o):=by
  intro k o hk
  rw[hf]at hk
  by_cases hkn:k=n
  ·subst hkn;rw[look_eq]at hk;simp only[oI]at hk;exact Or.inl ⟨rfl,hk.symm⟩
  ·rw[aZ hkn,sO hkn]at hk;exact Or.inr ⟨hkn,hk⟩
 have hne: ∀k o,k≠n→look st.hp k=some o→look hp k=some o:=by
  intro k o hkn hk
  rw[hf,aZ hkn,sO hkn];exact hk
 have hnn:look hp n=some (.box (c.set i (.vw m none t l))):=by rw[hf,look_eq]
 have s:Step (fun _=>True) (fun _=>True) w st.hp env w hp env:=by
  refine⟨fun _ _ _=>rfl,?_,?_,?_⟩
  ·rintro b _ ⟨k,o,h1,h2⟩
   rcases hlk k o h1 with⟨rfl,_⟩| ⟨_,h3⟩
   ·exact⟨_,_,hc,h2⟩
   ·exact⟨k,o,h3,h2⟩
  ·intro k o _ h1
   by_cases hkn:k=n
   ·subst hkn
    rw[hc]at h1
    simp only[oI]at h1
    subst h1
    exact⟨_,hnn,trivial,rfl⟩
   ·exact⟨o,hne k o hkn h1,by cases o<;>simp[Obj.like],rfl⟩
  ·intro k t' l' _ h1
   have hkn:k≠n:=by rintro rfl;rw[hc]at h1;cases h1
   exact⟨hne k _ hkn h1,rfl,fun _ _=>rfl⟩
 refine⟨iv.size,iv.defers,iv.kept,iv.Ej,env,⟨fun k o hk=> ?_,fun k k' o o' hkk h1 h2=> ?_,fun t v hv=>nG.step s (fun v _=>v.dH) (g.slot t v hv),fun k o hk b hb=> ?_,g.pins⟩⟩
 ·rcases hlk k o hk with⟨rfl,rfl⟩| ⟨hkn,h3⟩
  ·obtain⟨b,cs,e,h1,h2,h3⟩:=g.obj _ _ hc
   refine⟨b,cs,e,h1,h2,bA.set (h3.mono fun x y _ hr=>RA.step s x.dH hr) fun y hy=> ?_⟩
   rw[wI]at hm
   obtain⟨y',hy',hr⟩:=h3.at hm
   rw[hy]at hy'
   simp only[oI]at hy'
   subst hy'
   obtain⟨_,hu⟩:=hr
   have hro:=g.obj m _ hl
   have hlm:=hne m _ hmn hl
   refine⟨⟨t,l,hlm⟩,⟨(env m).fp,?_,(RO.own hro).nodup,fun _ h=>h⟩,by simp⟩
   rw[hu];exact RO.sl hro
  ·exact(g.obj k o h3).step s o.dH (fun _ _=>rfl)
 ·have: ∀k o,look hp k=some o→ ∃x,look st.hp k=some x:=by
   intro k o hk
   rcases hlk k o hk with⟨rfl,_⟩| ⟨_,h3⟩
   ·exact⟨_,hc⟩
   ·exact⟨_,h3⟩
  obtain⟨x,hx⟩:=this k o h1
  obtain⟨y,hy⟩:=this k' o' h2
  exact g.iq k k' x y hkk hx hy
 ·rcases hlk k o hk with⟨rfl,_⟩| ⟨_,h3⟩
  ·exact g.dom _ _ hc b hb
  ·exact g.dom k o h3 b hb
theorem RS{c:Code}(n i:Nat)(h:G.Jo st n i=some st')(k:W P ty zb c Q st'):W P ty zb c Q st:=fun a w iv=>k a w (iv.Jo n i h)
end
end
section
variable{ty:Tag→Nat}
def uX(a b n:Nat):Nat:=match Nat.beq n a,Nat.beq n b with
 |true,_=>b
 |false,true=>a
 |false,false=>n
def V.sw(a b:Nat):V→V
 | .own n=> .own (uX a b n)
 | .ptr n o=> .ptr (uX a b n) o
 | .mG n i o=> .mG (uX a b n) i o
 | .vw n p t l=> .vw (uX a b n) p t l
 | .Eh n p t x o=> .Eh (uX a b n) p t x o
 | .Ei n t l=> .Ei (uX a b n) t l
 | .Bt f n=> .Bt f (uX a b n)
 | .mix n c t l=> .mix (uX a b n) c t l
 | .tG n=> .tG (uX a b n)
 |v=>v
def S1.sw(a b:Nat):S1→S1
 | .a v=> .a (v.sw a b)
 | .agg l=> .agg (l.map (V.sw a b))
def SV.sw(a b:Nat):SV→SV
 | .one x=> .one (x.sw a b)
 | .uQ l=> .uQ (l.map (S1.sw a b))
 | .cond p x=> .cond p (x.sw a b)
def pP.sw(a b:Nat):pP→pP
 | .of n=> .of (uX a b n)
 | .uq _=> .uq none
 |s=>s
def Obj.sw(a b:Nat):Obj→Obj
 | .box c=> .box (c.map (V.sw a b))
 | .arr t l=> .arr t l
 | .eZ t l s=> .eZ t l (s.sw a b)
def OS(a b:Nat)(hp:Hp):Hp:=hp.map fun e=>(uX a b e.1,e.2.sw a b)
def R9(st:St)(a b:Nat):Option St:=match jg a,jg b,soft a,soft b with
 |false,false,false,false=>Oo ⟨st.n,st.sl.map fun e=>(e.1,e.2.sw a b),OS a b st.hp⟩
 |_,_,_,_=>none
theorem Ls(a b n:Nat):uX a b n=if n=a then b else if n=b then a else n:=by
 unfold uX
 by_cases h1:n=a
 ·subst h1;rw[if_pos rfl,Nat.beq_refl]
 ·have e1:Nat.beq n a=false:=by
   cases h:Nat.beq n a with
   |false=>rfl
   |true=>exact absurd (Nat.eq_of_beq_eq_true h) h1
  rw[if_neg h1,e1]
  by_cases h2:n=b
  ·subst h2;rw[if_pos rfl,Nat.beq_refl]
  ·have e2:Nat.beq n b=false:=by
    cases h:Nat.beq n b with
    |false=>rfl
    |true=>exact absurd (Nat.eq_of_beq_eq_true h) h2
   rw[if_neg h2,e2]
theorem nZ(a b n:Nat):uX a b (uX a b n)=n:=by
 simp only[Ls]
 by_cases h1:n=a
 ·subst h1;simp only[if_true]
  by_cases h2:b=n
  ·rw[if_pos h2,h2]
  ·rw[if_neg h2]
 ·by_cases h2:n=b
  ·subst h2;simp[h1]
  ·simp[h1,h2]
theorem Vw{a b n m:Nat}(h:uX a b n=uX a b m):n=m:=by
 have:=congrArg (uX a b) h
 rwa [nZ,nZ]at this
theorem pF(a b:Nat): ∀(hp:Hp) (n:Nat),look (OS a b hp) n=(look hp (uX a b n)).map (Obj.sw a b)
 | [],n=>rfl
 | (j,x)::r,n=>by
   show look ((uX a b j,x.sw a b)::OS a b r) n=_
   by_cases h:n=uX a b j
   ·subst h
    rw[look_eq,nZ,look_eq];rfl
   ·rw[aZ h,pF a b r n,aZ]
    intro e
    exact h (by rw[←e,nZ])
section
variable{w:World}{hp:Hp}{env:Env}{a b:Nat}
theorem n7{n:Nat}{t:Tag}{l:List (T t)}(h:look hp n=some (.arr t l)):look (OS a b hp) (uX a b n)=some (.arr t l):=by
 rw[pF,nZ,h];rfl
theorem M1{n:Nat}{c:List V}(h:look hp n=some (.box c)):look (OS a b hp) (uX a b n)=some (.box (c.map (V.sw a b))):=by
 rw[pF,nZ,h];rfl
def Sa(a b:Nat)(env:Env):Env:=fun n=>env (uX a b n)
theorem kL(n:Nat):Sa a b env (uX a b n)=env n:=by unfold Sa;rw[nZ]
theorem qy{x:Nat}(h:Ow (OS a b hp) (Sa a b env) x):Ow hp env x:=by
 obtain⟨n,o,h1,h2⟩:=h
 rw[pF]at h1
 cases hq:look hp (uX a b n)with
 |none=>rw[hq]at h1;cases h1
 |some o'=>exact⟨_,_,hq,h2⟩
theorem RV.sw{n:Nat}{p:Option (Nat×Nat)}{t:Tag}{l:List (T t)}{u:Value}(h:RV w hp env n p t l u):RV w (OS a b hp) (Sa a b env) (uX a b n) p t l u:=by
 obtain⟨⟨t1,l1,h1⟩,⟨fp,h2,h3,h4⟩,h5⟩:=h
 refine⟨⟨t1,l1,n7 h1⟩,⟨fp,h2,h3,by rw[kL];exact h4⟩,fun i off gq=> ?_⟩
 obtain⟨t0,l0,b0,o,len,cap,q1,q2,q3,q4,q5,q6⟩:=h5 i off gq
 exact⟨t0,l0,b0,o,len,cap,n7 q1,q2,q3,by rw[kL];exact q4,by rw[kL];exact q5,q6⟩
theorem RA.sw{v:V}{u:Value}(h:RA w hp env v u):RA w (OS a b hp) (Sa a b env) (v.sw a b) u:=by
 cases v with
 |any=>trivial
 |lit v=>exact h
 |uo k=>exact h
 |raw v=>exact h
 |qK v t l=>obtain⟨hu,fp,h1,h2⟩:=h;exact⟨hu,fp,h1,fun x hx ho=>h2 x hx (qy ho)⟩
 |sl t l=>obtain⟨fp,h1,h2⟩:=h;exact⟨fp,h1,fun x hx ho=>h2 x hx (qy ho)⟩
 |ip t x off=>obtain⟨b',o,cs,fp,h1,h2,h3,h4,h5,h6⟩:=h;exact⟨b',o,cs,fp,h1,h2,h3,h4,fun ho=>h5 (qy ho),fun c hc ho=>h6 c hc (qy ho)⟩
 |own n=>obtain⟨⟨t,l,hl⟩,hu⟩:=h;exact⟨⟨t,l,n7 hl⟩,by rw[kL];exact hu⟩
 |ptr n off=>obtain⟨⟨c,hl⟩,b',h1,h2⟩:=h;exact⟨⟨_,M1 hl⟩,b',by rw[kL];exact h1,h2⟩
 |Bt f n=>obtain⟨⟨c,hl⟩,b',h1,h2⟩:=h;exact⟨⟨_,M1 hl⟩,b',by rw[kL];exact h1,h2⟩
 |mG n i off=>obtain⟨t,l,hl,b',o,len,cap,h1,h2⟩:=h;exact⟨t,l,n7 hl,b',o,len,cap,by rw[kL];exact h1,h2⟩
 |vw n p t l=>exact RV.sw h
 |Ei n t l=>
  obtain⟨⟨t1,l1,h1⟩,b',fp,h2,h3,h4,h5⟩:=h
  exact⟨⟨t1,l1,n7 h1⟩,b',fp,h2,fun ho=>h3 (qy ho),h4,by rw[kL];exact h5⟩
 |tG n=>
  obtain⟨⟨t,l,s,hl⟩,hu⟩:=h
  exact⟨⟨t,l,s.sw a b,by rw[pF,nZ,hl];rfl⟩,by rw[kL];exact hu⟩
 |mix n c t l=>
  obtain⟨⟨t1,l1,h1⟩,⟨fp,h2,h3⟩,h4⟩:=h
  exact⟨⟨t1,l1,n7 h1⟩,⟨fp,h2,fun x hx=>(h3 x hx).imp (fun q=>by rw[kL];exact q) (fun q ho=>q (qy ho))⟩,h4⟩
 |Eh n p t x off=>
  obtain⟨⟨t1,l1,h1⟩,b',o,cs,fp,h2,h3,h4,h5,h6,h7,h8⟩:=h
  refine⟨⟨t1,l1,n7 h1⟩,b',o,cs,fp,h2,by rw[kL];exact h3,h4,h5,h6,by rw[kL];exact h7,fun i o2 j gq=> ?_⟩
  obtain⟨l2,u0,b0,ox,len,cap,q1,q2,q3,q4,q5⟩:=h8 i o2 j gq
  exact⟨l2,u0,b0,ox,len,cap,q1.sw,q2,q3,q4,q5⟩
theorem eT.sw{x:S1}{u:Value}(h:eT w hp env x u):eT w (OS a b hp) (Sa a b env) (x.sw a b) u:=by
 cases x with
 |a v=>exact RA.sw h
 |agg l=>obtain⟨cs,h1,h2⟩:=h;exact⟨cs,h1,h2.map fun _ _ q=>RA.sw q⟩
theorem nG.sw{tmps:Array Value}{x:SV}{u:Value}(h:nG w hp env tmps x u):nG w (OS a b hp) (Sa a b env) tmps (x.sw a b) u:=by
 cases x with
 |one x=>exact eT.sw h
 |uQ l=>obtain⟨us,h1,h2⟩:=h;exact⟨us,h1,h2.map fun _ _ q=>eT.sw q⟩
 |cond p x=>exact⟨fun q=>eT.sw (h.1 q),h.2⟩
theorem BE.sw{s:pP}{t:Tag}{x:T t}{u:Value}(h:BE w hp env s t x u):BE w (OS a b hp) (Sa a b env) (s.sw a b) t x u:=by
 cases s with
 |gone=>trivial
 |mp=>trivial
 |HJ u=>trivial
 |uq p=>trivial
 |mH=>obtain⟨f,h1,h2⟩:=h;exact⟨f,h1,fun c hc ho=>h2 c hc (qy ho)⟩
 |of n=>
  obtain⟨⟨t1,l1,h1⟩,f,h2,h3⟩:=h
  exact⟨⟨t1,l1,n7 h1⟩,f,h2,fun c hc=>(h3 c hc).imp (fun q=>by rw[kL];exact q) (fun q ho=>q (qy ho))⟩
end
theorem Sb{a b n:Nat}{p:Nat→Bool}(ha:p a=false)(hb:p b=false):p (uX a b n)=p n:=by
 rw[Ls]
 split
 ·rename_i h;subst h;rw[ha,hb]
 ·split
  ·rename_i h;subst h;rw[ha,hb]
  ·rfl
theorem Vx{a b n:Nat}(ha:jg a=false)(hb:jg b=false)(h:jg n=true):uX a b n=n:=by
 rw[Ls]
 split
 ·rename_i h1;subst h1;rw[ha]at h;cases h
 ·split
  ·rename_i h1;subst h1;rw[hb]at h;cases h
  ·rfl
theorem Sc{zb:cm}{st st':St}{a b:Nat}(h:R9 st a b=some st'){c:Act}{w:World}(iv:Inv ty zb st c w):Inv ty zb st' c w:=by
 obtain⟨env,g⟩:=iv.good
 unfold R9 at h
 split at h
 case h_2=>cases h
 rename_i hpa hpb hsa hsb
 have h:=mP h
 subst h
 have hlk: ∀n o,look (OS a b st.hp) n=some o→ ∃o0,look st.hp (uX a b n)=some o0∧o=o0.sw a b:=by
  intro n o hl
  rw[pF]at hl
  cases hq:look st.hp (uX a b n)with
  |none=>rw[hq]at hl;cases hl
  |some o0=>rw[hq]at hl;simp only[Option.map_some,oI]at hl;exact⟨o0,rfl,hl.symm⟩
 refine⟨iv.size,iv.defers,iv.kept,iv.Ej,Sa a b env,⟨fun n o hl=> ?_,fun n m o o' hne h1 h2=> ?_,fun s v hs=> ?_,fun n o hl=> ?_,fun n hn=> ?_⟩⟩
 ·obtain⟨o0,h1,rfl⟩:=hlk n o hl
  have hro:=g.obj _ _ h1
  show RO ty w (OS a b st.hp) (Sa a b env) n (o0.sw a b) (env (uX a b n))
  cases o0 with
  |arr t l=>exact Mk (fun q=>by rw[Sb hsa hsb]at q;exact q) hro
  |box l=>
   obtain⟨x,cs,e,q1,q2,q3⟩:=hro
   exact⟨x,cs,e,q1,q2,q3.map fun _ _ q=>RA.sw q⟩
  |eZ t l s=>
   rcases RO.Cl hro with⟨rfl,h⟩| ⟨u,rfl,h1,h2,fp,h3,h4⟩| ⟨p,rfl,h⟩| ⟨hr,q1,us,q2,q3,q4⟩
   ·exact h
   ·exact⟨h1,h2,fp,h3,h4.imp id fun⟨c,e1,e2⟩=>⟨c,e1,fun ho=>e2 (qy ho)⟩⟩
   ·exact⟨h.1,h.2.1,fun _ _ _ e=>by cases e⟩
   ·exact RO.N4 (by cases s<;>first|exact hr.elim|trivial) ⟨q1,us,q2,q3,fun i x u hx hu=>(q4 i x u hx hu).sw⟩
 ·obtain⟨o1,q1,_⟩:=hlk n o h1
  obtain⟨o2,q2,_⟩:=hlk m o' h2
  exact g.iq _ _ _ _ (fun e=>hne (Vw e)) q1 q2
 ·replace hs:look (st.sl.map fun e=>(e.1,e.2.sw a b)) s=some v:=hs
  rw[jq (α:=SV) (f:=fun e:Nat×SV=>e.2.sw a b)]at hs
  cases hq:look st.sl s with
  |none=>rw[hq]at hs;cases hs
  |some v0=>
   rw[hq]at hs
   simp only[Option.map_some,oI]at hs
   subst hs
   exact nG.sw (g.slot s v0 hq)
 ·obtain⟨o0,h1,_⟩:=hlk n o hl
  exact g.dom _ _ h1
 ·have hq:=g.pins n hn
  unfold Sa
  rw[Vx hpa hpb hn]
  exact hq
theorem n8{P:Program}{zb:cm}{Q:Post}{st st':St}{c:Code}(a b:Nat)(h:R9 st a b=some st')(k:W P ty zb c Q st'):W P ty zb c Q st:=fun x w iv=>k x w (Sc h iv)
end
section
variable{ty:Tag→Nat}
def toBrr(st:St)(s m:Nat)(r:pP):Option St:=match look st.sl s,Nat.blt s st.n with
 |some (.one (.a (.own n))),true=>match look st.hp n,pinned [n],jg m,look (bW [n] [] st.hp) m with
  |some (.arr t []),false,false,none=>match Nat.beq (kk t) 1 with
   |true=>Oo ((⟨st.n,st.sl.map fun e=>(e.1,e.2.bz [n] []),aag st.hp n m t [] r⟩:St).put (some s) (.one (.a (.tG m))))
   |false=>none
  |_,_,_,_=>none
 |_,_=>none
theorem toBrr_ok{zb:cm}{st st':St}{s m:Nat}{r:pP}(hr:r.br)(h:toBrr st s m r=some st'){a:Act}{w:World}(iv:Inv ty zb st a w):Inv ty zb st' a w:=by
 obtain⟨env,g⟩:=iv.good
 have hB:=iv.kept.size
 unfold toBrr at h
 split at h
 case h_2=>cases h
 rename_i n hs hlt
 split at h
 case h_2=>cases h
 rename_i t hl hpk Cx hlk
 split at h
 case h_2=>cases h
 rename_i hk1
 have hk1:=Nat.eq_of_beq_eq_true hk1
 have h:=mP h
 have Wn:soft n=false:=mM hpk (by simp)
 have hb:=RO.TJ Wn (g.obj n _ hl)
 have AD: ∀b,(env n).v.ownBlock=some b→b∈(env n).fp:=by
  intro b hb'
  obtain⟨xs,bn,_,_,_,eR,_⟩:=hb
  rw[eR,hb'];simp
 have hbE:ig 1 P1 0 (ty t) w (env n).v ([]:List Value) (env n).fp:=by
  obtain⟨xs,bn,q1,q2,q3,q4,q5⟩:=hb
  obtain rfl:bn= []:=List.length_eq_zero_iff.1 q2
  exact⟨xs,[],by rw[hk1]at q1;exact q1,rfl,fun i x f hx=>by simp at hx,q4,q5⟩
 obtain⟨env',hg',CC,_,_⟩:=yU (ty:=ty) g hB (ks:= [n]) hpk Cx hlk (v:=(env n).v) (v':=(env n).v) (w':=w) (ob:= .eZ t [] r) (fp:=(env n).fp) (fx:= []) (e9:=(env n).fp) (by
  intro b hb
  rw[List.append_nil]at hb
  exact⟨n,_,by simp,hl,hb⟩) AD (fun acN hd s2=>RO.N4 hr ⟨hk1,[],hbE,rfl,fun i x u hx=>by simp at hx⟩) ⟨rfl,rfl,rfl,Nat.le_refl _,fun _ _ _=>rfl⟩ (fun b hb=>Or.inl hb)
 have hlt:s<a.tmps.size:=by rw[iv.size];exact Nat.le_of_ble_eq_true hlt
 obtain⟨_,hu⟩:=g.slot s _ hs
 have gp:=hg'.put hlt (v:= .one (.a (.tG m))) (u:=a.tmps.getD s undef) ⟨⟨t,[],_,look_eq⟩,by rw[CC];exact hu⟩ rfl
 have e:a.tmps.setIfInBounds s (a.tmps.getD s undef)=a.tmps:=by
  rw[Array.getD_eq_getD_getElem?,Array.getElem?_eq_getElem hlt]
  apply Array.ext
  ·simp
  ·intro i h1 h2
   rw[Array.getElem_setIfInBounds]
   split
   ·rename_i hi;subst hi;rfl
   ·rfl
 rw[e]at gp
 rw[h]
 exact⟨by rw[uR];exact iv.size,iv.defers,iv.kept,iv.Ej,env',gp⟩
theorem Ju{P:Program}{zb:cm}{Q:Post}{st st':St}{c:Code}(s m:Nat)(h:G.toBrr st s m .mH=some st')(k:W P ty zb c Q st'):W P ty zb c Q st:=fun a w iv=>k a w (toBrr_ok (by trivial) h iv)
end
end Go.Proofs.YtkcegdacbddipaaGreat.G
