/-
  Regions whose guards are known, and in which nil slices of a struct that was written out are taken as immutable slices.
-/
import Derived.Orders
import Derived.Test.YtaalpcnbbldlaaaGreatDoorR9
namespace Go.Proofs.YtaalpcnbbldlaaaGreatDoor.G
set_option linter.all false
open Go.RowKit L D
section
variable{ty:Tag→Nat}
structure TE where
 d:Nat
 v:SV
 os:Hp
def app(s:St)(e:TE):St:=⟨s.n,(e.d,e.v)::s.sl,e.os++s.hp⟩
def cB(o:Oper):List Nat:=o.after.toList.filterMap fun e=>if Region.binds .any e then some e.on else none
def iy(acc:List Nat)(o:Oper):List Nat:=acc++ [(cB o).foldl (fun s j=>s|||2^j|||acc.getD j 0) 0]
def HM(ops:List Oper):List Nat:=ops.foldl iy []
def tmpsOf(o:Oper):List Nat:=o.op.operands.toList.filterMap fun| .tmp t=>some t|_=>none
def N5(o:Oper)(t:Nat):Bool:=match o.dst with|some d=>Nat.beq d t|none=>false
def idx{α:Type}:Nat→List α→List (Nat×α)
 |_,[]=> []
 |i,x::r=>(i,x)::idx (i+1) r
end
section
variable{ty:Tag→Nat}
def Compat(hp hp':Hp):Prop:= ∀n o o',look hp n=some o→look hp' n=some o'→o=o'
section
variable{zb:cD}{st T:St}{a:Act}{w:World}{env:Env}
theorem J0(c:Compat st.hp T.hp){tg:Option Tag}{v x:V}{u:Value}(hr:RA w T.hp env v u)(h:mL st tg v=some x):mL T tg v=some x:=by
 cases v with
 |own n=>
  obtain⟨⟨t,l,hl⟩,_⟩:=hr;simp only[mL]at h ⊢;split at h
  ·rename_i t' l' hl';have:=c n _ _ hl' hl;simp only[Obj.arr.injEq]at this;obtain⟨rfl,ir⟩:=this;rw[hl];simp only[←eq_of_heq ir];exact h
  ·cases h
 |sl t l=>exact h
 |vw n p t l=>exact h
 |mix n c t l=>exact h
 |FB n=>
  obtain⟨⟨t,l,s,hl⟩,_⟩:=hr;simp only[mL]at h ⊢;split at h
  ·rename_i t' l' hl';have:=c n _ _ hl' hl;rw[←this]at hl;rw[hl];exact h
  ·rename_i t' l' m hl';have:=c n _ _ hl' hl;rw[←this]at hl;rw[hl];exact h
  ·cases h
 |lit v=>
  have e:mL T tg (.lit v)=mL st tg (.lit v):=by
   cases v with
   |slice a n c=>cases a<;>cases n<;>cases c<;>rfl
   |_=>rfl
  rw[e];exact h
 |_=>simp[mL]at h
theorem Gq(c:Compat st.hp T.hp): ∀{vs:List V} {tg:List (Option Tag)} {xs:List V} {us:List Value},bK (RA w T.hp env) vs us→Jn st tg vs=some xs→Jn T tg vs=some xs
 | [],_,xs,us,_,h=>h
 |v::r,tg,xs,us,hr,h=>by
  cases us with
  |nil=>exact hr.elim
  |cons u us=>
   simp only[Jn]at h ⊢;split at h
   ·rename_i x y h1 h2;rw[J0 c hr.1 h1,Gq c hr.2 h2];exact h
   ·cases h
theorem P8(c:Compat st.hp T.hp){k:TK}{v x:S1}{u:Value}(hr:fD w T.hp env v u)(h:arg1 st k v=some x):arg1 T k v=some x:=by
 cases v with
 |a v=>
  simp only[arg1]at h ⊢;split at h
  ·rename_i y hy;rw[J0 c hr hy];exact h
  ·cases h
 |agg l=>
  obtain⟨cs,_,hl⟩:=hr;simp only[arg1]at h ⊢;split at h
  ·rename_i y hy;rw[Gq c hl hy];exact h
  ·cases h
theorem yK{p:List (Nat×Bool)}{x:Operand}(hs: ∀t,x= .tmp t→look st.sl t=look T.sl t):LM st p x=LM T p x:=by
 cases x with
 |tmp t=>simp only[LM,hs t rfl]
 |_=>rfl
theorem D4{p:List (Nat×Bool)}{x:Operand}(hs: ∀t,x= .tmp t→look st.sl t=look T.sl t):gQ st p x=gQ T p x:=by
 unfold gQ;rw[yK hs]
theorem P9{b:Bool}(c:Compat st.hp T.hp){k:TK}{v x:S1}{u:Value}(hr:fD w T.hp env v u)(h:PM b st k v=some x):PM b T k v=some x:=by
 unfold PM at h ⊢;split at h
 ·exact h
 ·exact P8 c hr h
theorem AL{b:Bool}{Γ:Nat→TK}(c:Compat st.hp T.hp)(g:Good ty zb T a.tmps w env){p:List (Nat×Bool)}(hp:holds a.tmps p): ∀{xs:List Operand} {ts:List Nat} {as:List S1},(∀x,x∈xs→ ∀t,x= .tmp t→look st.sl t=look T.sl t)→args b Γ st p xs ts=some as→args b Γ T p xs ts=some as
 | [],_,as,_,h=>h
 |x::r,ts,as,hs,h=>by
  simp only[args]at h ⊢;rw[←D4 (st:=st) (T:=T) (hs x (by simp))];split at h
  ·rename_i v hv;split at h
   ·rename_i y ys h1 h2;have hr:=e9 g hp (by rw[←D4 (hs x (by simp))];exact hv);rw[P9 c hr h1,AL c g hp (fun z hz=>hs z (List.mem_cons_of_mem _ hz)) h2];exact h
   ·cases h
  ·cases h
theorem Mt(c:Compat st.hp T.hp){k:TK}{v:V}{u:Value}{n:Int}(hr:RA w T.hp env v u)(h:lenOf st k v=some n):lenOf T k v=some n:=by
 cases v with
 |own m=>
  obtain⟨⟨t,l,hl⟩,_⟩:=hr;simp only[lenOf]at h ⊢;split at h
  ·split at h
   ·rename_i t' l' hl';have:=c m _ _ hl' hl;simp only[Obj.arr.injEq]at this;obtain⟨rfl,ir⟩:=this;rw[hl];simp only[←eq_of_heq ir];exact h
   ·cases h
  ·cases h
 |sl t l=>exact h
 |vw n p t l=>exact h
 |lit v=>
  have e:lenOf T k (.lit v)=lenOf st k (.lit v):=by
   cases v with
   |slice a n c=>cases a<;>cases n<;>cases c<;>rfl
   |_=>rfl
  rw[e];exact h
 |_=>simp[lenOf]at h
theorem HN(c:Compat st.hp T.hp){v:V}{u:Value}(hr:RA w T.hp env v u){l:List UInt8}(h:bytesOf st v=some l):bytesOf T v=some l:=by
 cases v with
 |own n=>
  obtain⟨⟨t,l2,lg⟩,_⟩:=hr;simp only[bytesOf]at h ⊢;split at h
  ·rename_i l3 RT;simp only[oI]at h;subst h;have:=c n _ _ RT lg;simp only[Obj.arr.injEq]at this;obtain⟨rfl,ir⟩:=this;rw[lg];simp only[eq_of_heq ir]
  ·cases h
 |sl t l=>
  have e:bytesOf T (.sl t l)=bytesOf st (.sl t l):=by cases t<;>rfl
  rw[e];exact h
 |vw n p t l=>
  have e:bytesOf T (.vw n p t l)=bytesOf st (.vw n p t l):=by cases t<;>rfl
  rw[e];exact h
 |lit v=>
  have e:bytesOf T (.lit v)=bytesOf st (.lit v):=by
   cases v with
   |slice a n c=>cases a<;>cases n<;>cases c<;>rfl
   |_=>rfl
  rw[e];exact h
 |_=>simp[bytesOf]at h
theorem B2{p:List (Nat×Bool)}{g:Tag}: ∀{xs:List (Nat×Operand)} {i:Nat},(∀x,x∈xs→gQ st p x.2=gQ T p x.2)→oC st p g i xs=oC T p g i xs
 | [],_,_=>rfl
 | (j,x)::r,i,h=>by
   simp only[oC];rw[h (j,x) (by simp),B2 (fun y hy=>h y (List.mem_cons_of_mem _ hy))]
theorem D5{p:List (Nat×Bool)}{n:Nat}{fo:List Nat}: ∀{xs:List (Nat×Operand)} {c:List V},(∀x,x∈xs→LM st p x.2=LM T p x.2)→rC st p n fo xs c=rC T p n fo xs c
 | [],_,_=>rfl
 | (j,x)::r,c,h=>by
   simp only[rC];rw[h (j,x) (by simp)];have: ∀c',rC st p n fo r c'=rC T p n fo r c':=fun c'=>D5 (fun y hy=>h y (List.mem_cons_of_mem _ hy));simp only[this]
theorem xh{p:List (Nat×Bool)}: ∀{xs:List Operand},(∀x,x∈xs→gQ st p x=gQ T p x)→yq st p xs=yq T p xs
 | [],_=>rfl
 |x::r,h=>by
  simp only[yq,VI];rw[h x (by simp),xh (fun y hy=>h y (List.mem_cons_of_mem _ hy))]
theorem AM(c:Compat st.hp T.hp){v:V}{u:Value}(hr:RA w T.hp env v u){n:Nat}(hn:v.name=some n){o:Obj}(h:look st.hp n=some o):look T.hp n=some o:=by
 have: ∃o',look T.hp n=some o':=by
  cases v<;>simp only[V.name,oI,reduceCtorEq]at hn
  case own m=>subst hn;obtain⟨⟨t,l,hl⟩,_⟩:=hr;exact⟨_,hl⟩
  case ptr m off=>subst hn;obtain⟨⟨c,hl⟩,_⟩:=hr;exact⟨_,hl⟩
  case rQ m i off=>subst hn;obtain⟨t,l,hl,_⟩:=hr;exact⟨_,hl⟩
  case vw m p t l=>subst hn;obtain⟨⟨t,l,hl⟩,_⟩:=hr;exact⟨_,hl⟩
  case Jb m t l=>subst hn;obtain⟨⟨t,l,hl⟩,_⟩:=hr;exact⟨_,hl⟩
  case mix m c t l=>subst hn;obtain⟨⟨t,l,hl⟩,_⟩:=hr;exact⟨_,hl⟩
  case FB m=>subst hn;obtain⟨⟨t,l,s,hl⟩,_⟩:=hr;exact⟨_,hl⟩
  case F3 f m=>subst hn;obtain⟨⟨c,hl⟩,_⟩:=hr;exact⟨_,hl⟩
  case Ja m p t x off=>subst hn;obtain⟨⟨t,l,hl⟩,_⟩:=hr;exact⟨_,hl⟩
 obtain⟨o',h'⟩:=this;rw[c n _ _ h h'];exact h'
theorem AN(c:Compat st.hp T.hp): ∀{l d:List V} {n:Nat} {us:List Value},bK (RA w T.hp env) l us→w9 st.hp l=some (d,n)→w9 T.hp l=some (d,n)
 | [],_,_,_,_,h=>by simp[w9]at h
 |v::r,d,n,us,hr,h=>by
  cases us with
  |nil=>exact hr.elim
  |cons u us=>
   unfold w9 at h;split at h
   ·rename_i m r' he;simp only[List.cons.injEq]at he;obtain⟨rfl,rfl⟩:=he;split at h
    ·rename_i t l hl hpl;have:=AM c hr.1 (n:=m) rfl hl;simp only[w9,this,hpl];exact h
    ·cases h
   ·rename_i m pp t l r' he;simp only[List.cons.injEq]at he;obtain⟨rfl,rfl⟩:=he;split at h
    ·rename_i t0 l0 hl hpl;have:=AM c hr.1 (n:=m) rfl hl;simp only[w9,this,hpl];exact h
    ·cases h
   ·cases h
   ·rename_i x r' hns he;simp only[List.cons.injEq]at he;obtain⟨rfl,rfl⟩:=he;split at h
    ·rename_i c' n' h';have:=AN c hr.2 h';unfold w9;split
     ·rename_i e;simp at e
     ·rename_i e;simp at e
     ·rename_i e;simp only[List.cons.injEq,V.lit.injEq]at e;exact absurd e.1 (by rintro rfl;exact hns _ _ _ rfl)
     ·rename_i e;simp only[List.cons.injEq,V.lit.injEq]at e;obtain⟨rfl,rfl⟩:=e;rw[this];exact h
     ·rename_i e1 e2 e3;exact absurd rfl (e3 _ _)
    ·cases h
   ·cases h
theorem quiet_mono{Γ:Nat→TK}{E:Tag→Nat→Prop}{S:FuncId→List S1→List S1→Prop}(c:Compat st.hp T.hp)(g:Good ty zb T a.tmps w env){p:List (Nat×Bool)}(hp:holds a.tmps p){cr:List (Nat×CR)}{d m:Nat}{op:Op}{out:Out}
  (hs: ∀x,x∈op.operands.toList→ ∀t,x= .tmp t→look st.sl t=look T.sl t)(h:quiet Γ E S cr st p d m op=some out):quiet Γ E S cr T p d m op=some out:=by
 have ho: ∀{q x},x∈op.operands.toList→gQ st q x=gQ T q x:=fun hx=>D4 (hs _ hx);have hr: ∀{x v},x∈op.operands.toList→gQ st p x=some v→fD w T.hp env v (a.eval x):=fun hx hv=>e9 g hp (by rw[←ho hx];exact hv);have rn: ∀{x v n o},x∈op.operands.toList→gQ st p x=some (.a v)→v.name=some n→look st.hp n=some o→look T.hp n=some o:=fun hx hv hn hl=>AM c (hr hx hv) hn hl;cases op with
 |move x=>
  have hm:Ro st x=Ro T x:=by
   cases x with
   |tmp t=>simp only[Ro];rw[hs (.tmp t) (by simp[Op.operands]) t rfl]
   |_=>rfl
  simp only[quiet]at h ⊢;rw[←yK (st:=st) (hs x (by simp[Op.operands])), ←hm];exact h
 |assign x=>
  have hm:Ro st x=Ro T x:=by
   cases x with
   |tmp t=>simp only[Ro];rw[hs (.tmp t) (by simp[Op.operands]) t rfl]
   |_=>rfl
  simp only[quiet]at h ⊢;rw[←yK (st:=st) (hs x (by simp[Op.operands])), ←hm];exact h
 |nilCheck x=>simp only[quiet]at h ⊢;rw[←ho (by simp[Op.operands])];exact h
 |index t x i=>simp only[quiet]at h ⊢;rw[←ho (x:=x) (by simp[Op.operands]), ←ho (x:=i) (by simp[Op.operands])];exact h
 |makeSlice t x y=>simp only[quiet]at h ⊢;rw[←ho (x:=x) (by simp[Op.operands]), ←ho (x:=y) (by simp[Op.operands])];exact h
 |buildSlice t n xs=>
  simp only[quiet]at h ⊢;have hq: ∀g,oC st p g 0 xs.toList=oC T p g 0 xs.toList:=fun g=>B2 fun x hx=>ho (by simp only[Op.operands,List.mem_map];exact⟨x,hx,rfl⟩);simp only[←hq];split at h
  case h_2=>cases h
  rename_i gt e hk;cases hkey:(look cr (d+500000)).isSome with
  |false=>simp only[hkey]at h ⊢;exact h
  |true=>
   simp only[hkey]at h ⊢;split at h
   case h_2=>cases h
   rename_i x hlen hps;split at h
   case h_2=>cases h
   rename_i s hx;split at h
   case h_2=>cases h
   rename_i cc n1 hc;have hmem:x∈(Op.buildSlice t n xs).operands.toList:=by
    simp only[Op.operands,List.mem_map,Array.toList_map];exact⟨(0,x),by rw[hps];simp,rfl⟩
   have hrx:=hr hmem hx;have hown:w9 T.hp (cellsOf s)=some (cc,n1):=by
    cases s with
    |agg l=>obtain⟨cs,_,hl⟩:=hrx;exact AN c hl hc
    |a v=>exact AN c (us:= [a.eval x]) ⟨hrx,trivial⟩ hc
   simp only[←ho hmem,hx,hown];exact h
 |build t xs=>
  simp only[quiet]at h ⊢;have hq: ∀n fo z,rC st p n fo xs.toList z=rC T p n fo xs.toList z:=fun n fo z=>D5 fun x hx=>yK (hs _ (by simp only[Op.operands,List.mem_map];exact⟨x,hx,rfl⟩));simp only[←hq];exact h
 |pick x y z=>
  cases x with
  |tmp t=>
   simp only[quiet]at h ⊢;rw[←ho (x:= .tmp t) (by simp[Op.operands]), ←ho (x:=y) (by simp[Op.operands]), ←ho (x:=z) (by simp[Op.operands])];exact h
  |_=>simp[quiet]at h
 |box e x=>simp only[quiet]at h ⊢;rw[←ho (by simp[Op.operands])];exact h
 |alloc t=>exact h
 |load t x=>
  have hm:x∈(Op.load t x).operands.toList:=by simp[Op.operands]
  simp only[quiet]at h ⊢;rw[←ho hm];split at h
  ·rename_i n off hx;try rw[hx]
   try dsimp only
   split at h
   ·rename_i c2 lg;rw[rn hm hx rfl lg];exact h
   ·cases h
  ·rename_i hx;try rw[hx]
   exact h
  ·rename_i hx;try rw[hx]
   exact h
  ·rename_i n i off hx;try rw[hx]
   try dsimp only
   split at h
   ·rename_i c2 lg;rw[rn hm hx rfl lg];exact h
   ·cases h
  ·cases h
 |binOp op t x y t'=>
  simp only[quiet]at h ⊢;rw[←ho (x:=x) (by simp[Op.operands]), ←ho (x:=y) (by simp[Op.operands])];exact h
 |unOp op t x=>
  cases op with
  |not=>simp only[quiet]at h ⊢;rw[←ho (by simp[Op.operands])];exact h
  |neg=>simp only[quiet]at h ⊢;rw[←ho (by simp[Op.operands])];exact h
  |_=>simp[quiet]at h
 |convert s t x=>
  simp only[quiet]at h ⊢;rw[←ho (x:=x) (by simp[Op.operands])];split at h
  ·rename_i ik n k1 k2 hx hk1 hk2;try rw[hx,hk1,hk2]
   exact h
  ·rename_i v g' e hx hk1 hk2;try rw[hx,hk1,hk2]
   try dsimp only
   split at h
   ·rename_i l PW hl;rw[PW,HN c (show RA w T.hp env v _ from hr (x:=x) (by simp[Op.operands]) hx) hl];exact h
   ·cases h
  ·cases h
 |slice t x lo hi mx=>
  cases mx with
  |some mx=>
   cases lo with
   |some _=>simp[quiet]at h
   |none=>
    cases hi with
    |none=>simp[quiet]at h
    |some hi=>
     have hb: ∀(y:Operand),y∈(Op.slice t x none (some hi) (some mx)).operands.toList→Hr st p 0 (some y)=Hr T p 0 (some y):=fun y hy=>by simp only[Hr];rw[ho hy]
     have hm:x∈(Op.slice t x none (some hi) (some mx)).operands.toList:=by simp[Op.operands]
     simp only[quiet]at h ⊢;rw[←ho hm, ←hb hi (by simp[Op.operands]), ←hb mx (by simp[Op.operands])];split at h
     case h_2=>cases h
     rename_i hk;try rw[hk]
     try dsimp only
     split at h
     case h_2=>cases h
     rename_i n n1 n2 hx h1 h2;try rw[hx,h1,h2]
     try dsimp only
     split at h
     case h_2=>cases h
     rename_i t' l hl;rw[rn hm hx rfl hl];exact h
  |none=>
   have hb: ∀(b:Option Operand),(∀y,b=some y→y∈(Op.slice t x lo hi none).operands.toList)→ ∀z,Hr st p z b=Hr T p z b:=by
    intro b hm z;cases b with
    |none=>rfl
    |some y=>simp only[Hr];rw[ho (hm y rfl)]
   have hm:x∈(Op.slice t x lo hi none).operands.toList:=by simp[Op.operands]
   simp only[quiet]at h ⊢;rw[←ho hm, ←hb lo (by rintro y rfl;simp[Op.operands])];simp only[←hb hi (by rintro y rfl;simp[Op.operands])];cases hkey:(look cr (d+600000)).isSome with
   |true=>simp only[hkey]at h ⊢;exact h
   |false=>
    simp only[hkey]at h ⊢;split at h
    ·split at h
     ·rename_i hx hlo;try rw[hx,hlo]
      exact h
     ·rename_i hx hlo;try rw[hx,hlo]
      exact h
     ·rename_i hx hlo;try rw[hx,hlo]
      try dsimp only
      split at h
      ·rename_i lg;rw[rn hm hx rfl lg];exact h
      ·cases h
     ·rename_i hx hlo;try rw[hx,hlo]
      exact h
     ·cases h
    ·exact h
    ·cases h
 |makeFunc fn first captured=>
  cases fn with
  |func f=>
   simp only[quiet]at h ⊢;split at h
   ·rename_i x hf hc;try rw[hf,hc]
    try dsimp only
    have hm:x∈(Op.makeFunc (.func f) first captured).operands.toList:=by simp only[Op.operands,Array.toList_append,hf,hc];simp
    have e:=ho (q:=p) hm;rw[←e];exact h
   ·cases h
  |_=>simp[quiet]at h
 |fieldAddr t x f=>
  simp only[quiet]at h ⊢;rw[←ho (x:=x) (by simp[Op.operands])];exact h
 |indexAddr t x i=>
  have hm:x∈(Op.indexAddr t x i).operands.toList:=by simp[Op.operands]
  simp only[quiet]at h ⊢;rw[←ho hm, ←ho (x:=i) (by simp[Op.operands])];split at h
  ·split at h
   ·rename_i hx hi;try rw[hx,hi]
    exact h
   ·rename_i hx hi;try rw[hx,hi]
    try dsimp only
    split at h
    ·rename_i lg;rw[rn hm hx rfl lg];exact h
    ·cases h
   ·rename_i hx hi;try rw[hx,hi]
    exact h
   ·cases h
  ·cases h
 |extract x i=>
  cases x with
  |tmp t=>simp only[quiet]at h ⊢;rw[←hs (.tmp t) (by simp[Op.operands]) t rfl];exact h
  |_=>simp[quiet]at h
 |call cl=>
  obtain⟨callee,xs,ts⟩:=cl;have hop: ∀x,x∈xs.toList→x∈(Op.call ⟨callee,xs,ts⟩).operands.toList:=by
   intro x hx;simp only[Op.operands,Call.operands,Array.toList_append];exact List.mem_append_right _ hx
  cases callee with
  |value x=>
   cases x with
   |func f=>
    simp only[quiet]at h ⊢;split at h
    ·rename_i as c1 h1 h2;rw[AL c g hp (fun x hx=>hs x (hop x hx)) h1,h2];exact h
    ·cases h
   |tmp y=>
    simp only[quiet]at h ⊢;rw[←ho (x:= .tmp y) (by simp[Op.operands,Call.operands])];split at h
    ·rename_i v hv;try rw[hv]
     try dsimp only
     split at h
     ·rename_i f hf;try rw[hf]
      try dsimp only
      split at h
      ·rename_i as c1 h1 h2;rw[AL c g hp (fun x hx=>hs x (hop x hx)) h1,h2];exact h
      ·cases h
     ·cases h
    ·cases h
   |_=>simp[quiet]at h
  |builtin b=>
   cases b with
   |len=>
    simp only[quiet]at h ⊢;split at h
    ·rename_i x t hxl htl;have hm:x∈xs.toList:=by rw[hxl];simp
     try rw[hxl,htl]
     try dsimp only
     rw[←ho (hop x hm)];split at h
     ·rename_i v hv;try rw[hv]
      try dsimp only
      split at h
      ·rename_i n hn;rw[Mt c (show RA w T.hp env v _ from hr (hop x hm) hv) hn];exact h
      ·cases h
     ·cases h
    ·cases h
   |append=>
    simp only[quiet]at h ⊢;split at h
    case h_2=>cases h
    rename_i x y t1 t2 hkey hxl htl;try rw[hkey,hxl,htl]
    try dsimp only
    have Jc:x∈xs.toList:=by rw[hxl];simp
    have hmy:y∈xs.toList:=by rw[hxl];simp
    rw[←ho (hop x Jc), ←ho (hop y hmy)];exact h
   |max=>simp only[quiet]at h ⊢;rw[←xh (st:=st) (T:=T) (xs:=xs.toList) (fun x hx=>ho (hop x hx))];exact h
   |min=>simp only[quiet]at h ⊢;rw[←xh (st:=st) (T:=T) (xs:=xs.toList) (fun x hx=>ho (hop x hx))];exact h
   |_=>simp[quiet]at h
  |invoke _ _=>simp[quiet]at h
 |_=>simp[quiet]at h
theorem Qa{p:List (Nat×Bool)}(hs: ∀e,e∈p→look st.sl e.1=look T.sl e.1):hyps st p=hyps T p:=by
 induction p with
 |nil=>rfl
 |cons e r ih=>
  obtain⟨d,x⟩:=e;simp only[hyps];rw[hs (d,x) (by simp),ih fun e he=>hs e (by simp[he])]
theorem Mu{Γ:Nat→TK}{E:Tag→Nat→Prop}{S:FuncId→List S1→List S1→Prop}(c:Compat st.hp T.hp)(g:Good ty zb T a.tmps w env)(hn:T.n=st.n){dm:List (Nat×Nat)}{cr:List (Nat×CR)}{ops:List Oper}{o:Oper}{p:List (Nat×Bool)}(kM:iF st ops o=some p)(tB:iF T ops o=some p)(hp:holds a.tmps p)
  (hs: ∀x,x∈o.op.operands.toList→ ∀t,x= .tmp t→look st.sl t=look T.sl t)(hps: ∀e,e∈p→look st.sl e.1=look T.sl e.1){vc:List Prop}{v:SV}{os:Hp}(hf:fresh T.hp os=true)(h:oT Γ E S dm cr ops st o=some (vc,v,os)):
  oT Γ E S dm cr ops T o=some (vc,v,os):=by
 have hd:yt T o.dst=yt st o.dst:=by unfold yt;rw[hn]
 simp only[oT]at h ⊢;rw[hd,tB];rw[kM]at h;split at h
 ·rename_i m e1 e2 e3;simp only[oI]at e3;subst e3;try rw[e1,e2]
  try dsimp only
  split at h
  ·rename_i oV v1 os1 hq;rw[quiet_mono c g hp hs hq];try dsimp only
   split at h
   ·rename_i h1 h2;simp only[oI,pI]at h;obtain⟨rfl,rfl,rfl⟩:=h;simp only[hf,h2]
   ·cases h
  ·cases h
 ·rename_i m e p' e1 e2 e3;simp only[oI]at e3;subst e3;try rw[e1,e2]
  try dsimp only
  split at h
  ·rename_i h1;try rw[h1]
   try dsimp only
   split at h
   ·rename_i oV v1 hq;rw[quiet_mono c g hp hs hq];try dsimp only
    rw[←Qa hps];exact h
   ·cases h
  ·cases h
 ·cases h
end
end
section
variable{ty:Tag→Nat}
def eP(vS:Nat→Bool)(tr:List TE)(s:St):Nat→St
 |0=>s
 |i+1=>match vS i,tr[i]? with
  |true,some e=>app (eP vS tr s i) e
  |_,_=>eP vS tr s i
abbrev pre(tr:List TE)(s:St)(i:Nat):St:=eP (fun _=>true) tr s i
structure Trace(Γ:Nat→TK)(E:Tag→Nat→Prop)(S:FuncId→List S1→List S1→Prop)(dm:List (Nat×Nat))(cr:List (Nat×CR))(ops:List Oper)(m:Nat)(s:St)(tr:List TE)(vcs:List Prop):Prop where
 len:tr.length=m
 one: ∀i,i<m→ ∃o e vc,ops[i]? =some o∧tr[i]? =some e∧o.dst=some e.d∧((pre tr s i).sl.any fun x=>x.2.mentions e.d)=false∧oT Γ E S dm cr ops (pre tr s i) o=some (vc,e.v,e.os)∧ ∀q,q∈vc→q∈vcs
theorem D6(vS:Nat→Bool)(e:TE)(tr:List TE)(s:St)(h:vS 0=true): ∀i,eP vS (e::tr) s (i+1)=eP (fun j=>vS (j+1)) tr (app s e) i
 |0=>by simp[eP,h]
 |i+1=>by
  rw[eP,D6 vS e tr s h i,eP];simp only[List.getElem?_cons_succ]
section
variable{vS inE:Nat→Bool}{tr:List TE}{s:St}
theorem tC{i:Nat}{e:TE}(h:vS i=true)(he:tr[i]? =some e):eP vS tr s (i+1)=app (eP vS tr s i) e:=by rw[eP,h,he]
theorem HO{i:Nat}(h:vS i=false):eP vS tr s (i+1)=eP vS tr s i:=by rw[eP,h]
theorem B3: ∀i,(eP vS tr s i).n=s.n
 |0=>rfl
 |i+1=>by
  rw[eP];split
  ·exact B3 i
  ·exact B3 i
theorem lE: ∀{i j:Nat} {e:TE},j<i→vS j=true→tr[j]? =some e→(∀j' e',j'<i→vS j'=true→tr[j']? =some e'→e'.d=e.d→j'=j)→look (eP vS tr s i).sl e.d=some e.v
 |i+1,j,e,hj,hin,he,hd=>by
  by_cases hij:j=i
  ·subst hij;rw[tC hin he];exact look_eq
  ·have ih:=lE (i:=i) (j:=j) (by omega) hin he (fun j' e' h1 h2 h3 h4=>hd j' e' (by omega) h2 h3 h4);rw[eP];split
   ·rename_i e' h1 h2;have hne:e.d≠e'.d:=fun hh=>by
     have:=hd i e' (by omega) h1 h2 hh.symm;omega
    show look ((e'.d,e'.v)::_) e.d=_
    rw[bB hne];exact ih
   ·exact ih
theorem oY: ∀{i:Nat} {t:Nat},(∀j e,j<i→vS j=true→tr[j]? =some e→e.d≠t)→look (eP vS tr s i).sl t=look s.sl t
 |0,_,_=>rfl
 |i+1,t,h=>by
  have ih:=oY (i:=i) (t:=t) fun j e h1 h2 h3=>h j e (by omega) h2 h3;rw[eP];split
  ·rename_i e' h1 h2;have hne:t≠e'.d:=fun hh=>h i e' (by omega) h1 h2 hh.symm;show look ((e'.d,e'.v)::_) t=_
   rw[bB hne];exact ih
  ·exact ih
theorem HP: ∀{i:Nat} {x:Nat×SV},x∈(eP vS tr s i).sl→x∈s.sl∨ ∃j e,j<i∧vS j=true∧tr[j]? =some e∧x=(e.d,e.v)
 |0,_,h=>Or.inl h
 |i+1,x,h=>by
  rw[eP]at h;split at h
  ·rename_i e' h1 h2;rcases List.mem_cons.1 (show x∈(e'.d,e'.v)::(eP vS tr s i).sl from h)with rfl|h
   ·exact Or.inr ⟨i,e',by omega,h1,h2,rfl⟩
   ·rcases HP h with h| ⟨j,e,a,b⟩
    ·exact Or.inl h
    ·exact Or.inr ⟨j,e,by omega,b⟩
  ·rcases HP h with h| ⟨j,e,a,b⟩
   ·exact Or.inl h
   ·exact Or.inr ⟨j,e,by omega,b⟩
def Sn(tr:List TE)(s:St)(m:Nat):Prop:= ∀i e,i<m→tr[i]? =some e→ ∀n o,look e.os n=some o→look (pre tr s i).hp n=none
theorem lF: ∀{i:Nat} {n:Nat} {o:Obj},look (eP vS tr s i).hp n=some o→look s.hp n=some o∨ ∃j e,j<i∧vS j=true∧tr[j]? =some e∧look e.os n=some o
 |0,_,_,h=>Or.inl h
 |i+1,n,o,h=>by
  rw[eP]at h;split at h
  ·rename_i e' h1 h2;have h:look (e'.os++(eP vS tr s i).hp) n=some o:=h;cases hq:look e'.os n with
   |none=>
    rw[bJ hq]at h;rcases lF h with h| ⟨j,e,a,b⟩
    ·exact Or.inl h
    ·exact Or.inr ⟨j,e,by omega,b⟩
   |some o'=>
    rw[cJ hq]at h;exact Or.inr ⟨i,e',by omega,h1,h2,by rw[hq];exact h⟩
  ·rcases lF h with h| ⟨j,e,a,b⟩
   ·exact Or.inl h
   ·exact Or.inr ⟨j,e,by omega,b⟩
end
theorem J1{hp:Hp}: ∀{os:Hp},(∀n o,look os n=some o→look hp n=none∧kB n=false)→fresh hp os=true
 | [],_=>rfl
 | (n,x)::r,h=>by
   simp only[fresh,Bool.and_eq_true];obtain⟨h1,h2⟩:=h n x look_eq;refine⟨⟨by rw[h1],by rw[h2];rfl⟩,J1 fun k o hk=> ?_⟩;by_cases hkn:k=n
   ·subst hkn;exact h k x look_eq
   ·exact h k o (by rw[bB hkn];exact hk)
theorem Good.congr{zb:cD}{st st':St}{tmps:Array Value}{w:World}{env:Env}(g:Good ty zb st tmps w env)(hs: ∀s v,look st'.sl s=some v→look st.sl s=some v)(hh: ∀n,look st'.hp n=look st.hp n):Good ty zb st' tmps w env:=by
 have s:Step (fun _=>True) (fun _=>True) w st.hp env w st'.hp env:=by
  refine⟨fun _ _ _=>rfl,?_,?_,?_⟩
  ·rintro b _ ⟨n,o,h1,h2⟩;exact⟨n,o,by rw[←hh];exact h1,h2⟩
  ·intro n o _ h1;exact⟨o,by rw[hh];exact h1,by cases o<;>simp[Obj.like],rfl⟩
  ·intro n t l _ h1;exact⟨by rw[hh];exact h1,rfl,fun _ _=>rfl⟩
 refine⟨fun n o hl=> ?_,fun n m o o' hne h1 h2=>g.kK n m o o' hne (by rw[←hh];exact h1) (by rw[←hh];exact h2),fun t v hl=>qp.step s (fun v _=>v.eO) (g.slot t v (hs t v hl)),fun n o hl=>g.dom n o (by rw[←hh];exact hl),g.pins⟩;exact(g.obj n o (by rw[←hh];exact hl)).step s o.eO (fun _ _=>rfl)
end
section
variable{ty:Tag→Nat}
theorem HQ{α:Type}: ∀{l:List α} {k i:Nat} {x:α},l[i]? =some x→(k+i,x)∈idx k l
 |y::r,k,0,x,h=>by simp at h;simp[idx,h]
 |y::r,k,i+1,x,h=>by
  have:=HQ (l:=r) (k:=k+1) (i:=i) (by simpa using h);rw[idx];right;rw[show k+(i+1)=k+1+i by omega];exact this
structure Chk(ops:List Oper)(m:Nat):Prop where
 le:m≤ops.length
 back: ∀i o,ops[i]? =some o→ ∀j,j∈cB o→j<i
 uses: ∀i o,i<m→ops[i]? =some o→ ∀t,t∈tmpsOf o→ ∀k o',k<m→ops[k]? =some o'→o'.dst=some t→k=i∨k∈cB o∨(i<k∧((HM ops).getD k 0).testBit i=true)
 guard: ∀i o j x,i<m→ops[i]? =some o→o.guard=some (j,x)→j<i∧j<m∧j∈cB o
 dist: ∀i o k o' d,i<m→k<m→ops[i]? =some o→ops[k]? =some o'→o.dst=some d→o'.dst=some d→k=i
 tail: ∀i o,m≤i→ops[i]? =some o→ ∀j,j<i→((HM ops).getD i 0).testBit j=true
theorem N6: ∀(l:List Oper) (acc:List Nat),(∀j,j<acc.length→(l.foldl iy acc).getD j 0=acc.getD j 0)∧
  ∀i o,l[i]? =some o→(∀j,j∈cB o→j<acc.length+i)→(l.foldl iy acc).getD (acc.length+i) 0=(cB o).foldl (fun s j=>s|||2^j||| (l.foldl iy acc).getD j 0) 0
 | [],acc=>⟨fun _ _=>rfl,fun i o h=>by simp at h⟩
 |o::r,acc=>by
  obtain⟨h1,h2⟩:=N6 r (iy acc o);have hl:(iy acc o).length=acc.length+1:=by simp[iy]
  have ha: ∀j,j<acc.length→((o::r).foldl iy acc).getD j 0=acc.getD j 0:=by
   intro j hj;rw[List.foldl_cons,h1 j (by omega)];simp only[iy,List.getD_eq_getElem?_getD];rw[List.getElem?_append_left hj]
  refine⟨ha,fun i o' ho hj=> ?_⟩;cases i with
  |zero=>
   simp at ho;subst ho;rw[Nat.add_zero,List.foldl_cons,h1 _ (by omega)];have:(iy acc o).getD acc.length 0=(cB o).foldl (fun s j=>s|||2^j|||acc.getD j 0) 0:=by
    simp[iy,List.getD_eq_getElem?_getD]
   rw[this];have abG: ∀(es:List Nat) (s0:Nat),(∀j,j∈es→j<acc.length)→es.foldl (fun s j=>s|||2^j|||acc.getD j 0) s0=es.foldl (fun s j=>s|||2^j||| (r.foldl iy (iy acc o)).getD j 0) s0:=by
    intro es;induction es with
    |nil=>intros;rfl
    |cons j es ih=>
     intro s0 hh;rw[List.foldl_cons,List.foldl_cons,ih _ fun k hk=>hh k (by simp[hk])];have:=ha j (hh j (by simp));rw[List.foldl_cons]at this;rw[this]
   exact abG _ _ fun j hjj=>by simpa using hj j hjj
  |succ i=>
   have:=h2 i o' (by simpa using ho) (fun j hjj=>by rw[hl];have:=hj j hjj;omega);rw[hl,show acc.length+1+i=acc.length+(i+1)by omega]at this;rw[List.foldl_cons];exact this
theorem D7(g:Nat→Nat)(k:Nat): ∀(es:List Nat) (s0:Nat),(es.foldl (fun s j=>s|||2^j|||g j) s0).testBit k=true→s0.testBit k=true∨ ∃j,j∈es∧(k=j∨(g j).testBit k=true)
 | [],s0,h=>Or.inl h
 |j::es,s0,h=>by
  rcases D7 g k es _ h with h| ⟨i,hi,h⟩
  ·rw[Nat.testBit_or,Nat.testBit_or,Nat.testBit_two_pow]at h;simp only[Bool.or_eq_true,decide_eq_true_eq]at h;rcases h with(h|h)|h
   ·exact Or.inl h
   ·exact Or.inr ⟨j,by simp,Or.inl h.symm⟩
   ·exact Or.inr ⟨j,by simp,Or.inr h⟩
  ·exact Or.inr ⟨i,by simp[hi],h⟩
theorem D8{ops:List Oper}(hb: ∀i o,ops[i]? =some o→ ∀j,j∈cB o→j<i){D:Nat→Prop}(hD: ∀i o,D i→ops[i]? =some o→ ∀j,j∈cB o→D j): ∀(i:Nat) (o:Oper),ops[i]? =some o→(∀j,j∈cB o→D j)→ ∀k,((HM ops).getD i 0).testBit k=true→D k:=by
 intro i;induction i using Nat.strongRecOn with
 |_ i ih=>
  intro o ho he k hk;have:=(N6 ops []).2 i o ho (fun j hj=>by simpa using hb i o ho j hj);simp only[List.length_nil,Nat.zero_add]at this;have hc:(HM ops).getD i 0=(cB o).foldl (fun s j=>s|||2^j||| (HM ops).getD j 0) 0:=this;rw[hc]at hk;rcases D7 _ k _ _ hk with h| ⟨j,hj,h⟩
  ·simp at h
  ·rcases h with rfl|h
   ·exact he k hj
   ·have hji:=hb i o ho j hj;have hlen:j<ops.length:=by have:=(List.getElem?_eq_some_iff.1 ho).1;omega
    exact ih j hji ops[j] (List.getElem?_eq_getElem hlen) (hD j _ (he j hj) (List.getElem?_eq_getElem hlen)) k h
section
variable{P:Program}{Γ:Nat→TK}{dm:List (Nat×Nat)}{cr:List (Nat×CR)}{ops:List Oper}{m:Nat}{s:St}{tr:List TE}{vcs:List Prop}
theorem kO{E:Tag→Nat→Prop}{S:FuncId→List S1→List S1→Prop}{st:St}{o:Oper}{vc:List Prop}{v:SV}{os:Hp}(h:oT Γ E S dm cr ops st o=some (vc,v,os)):
  ∃p,iF st ops o=some p∧(p= []→ ∀q x,v≠ .cond q x)∧(p≠ []→(∃x,v= .cond p x)∧os= []∧ ∀d,o.dst=some d→ ∀e,e∈p→e.1≠d)∧(∀n x,look os n=some x→look st.hp n=none∧kB n=false):=by
 unfold oT at h;split at h
 ·rename_i nm _ _ hg;split at h
  ·rename_i oV v1 os1 hq;split at h
   ·rename_i hf _;simp only[oI,pI]at h;obtain⟨_,rfl,rfl⟩:=h;refine⟨[],hg,fun _ q x=> ?_,fun hh=>absurd rfl hh,fun n x hl=>⟨mM hf n x hl,Az hf n x hl⟩⟩;rintro rfl;unfold quiet Ro at hq
    repeat' split at hq
    all_goals first
     | (cases hq;done)
     | (simp only[dW,oI,Out.mk.injEq]at hq;cases hq.2.1;done)
     | (simp only[oI,Out.mk.injEq]at hq;cases hq.2.1;done)
     | (simp only[oI]at hq;unfold outs at hq;(repeat' split at hq)<;>(simp only[Out.mk.injEq]at hq;cases hq.2.1))
   ·cases h
  ·cases h
 ·rename_i nm e p _ _ hg;split at h
  ·rename_i abH;split at h
   ·rename_i oV v1 hq;simp only[oI,pI]at h;obtain⟨_,rfl,rfl⟩:=h;refine⟨e::p,hg,(fun hh=>by cases hh),fun _=>⟨⟨_,rfl⟩,rfl,fun d hd x hx hxd=> ?_⟩,fun n x hl=>by simp[look]at hl⟩;rw[List.any_eq_false]at abH;exact abH x hx (by rw[hd,hxd];simp)
   ·cases h
  ·cases h
 ·cases h
theorem Trace.fresh{E:Tag→Nat→Prop}{S:FuncId→List S1→List S1→Prop}(T:Trace Γ E S dm cr ops m s tr vcs):Sn tr s m:=by
 intro i e hi he n x hl;obtain⟨o,e',vc,_,he',_,_,hq,_⟩:=T.one i hi;rw[he]at he';simp only[oI]at he';subst he';obtain⟨p,_,_,_,hf⟩:=kO hq;exact(hf n x hl).1
theorem Trace.path{E:Tag→Nat→Prop}{S:FuncId→List S1→List S1→Prop}(T:Trace Γ E S dm cr ops m s tr vcs)(K:Chk ops m): ∀(i:Nat),i<m→ ∀o p,ops[i]? =some o→iF (pre tr s i) ops o=some p→ ∀e,e∈p→
  ∃k o',k<i∧ops[k]? =some o'∧o'.dst=some e.1∧ ∀D:Nat→Prop,(∀i o,D i→ops[i]? =some o→ ∀j,j∈cB o→D j)→(∀j,j∈cB o→D j)→D k:=by
 intro i;induction i using Nat.strongRecOn with
 |_ i ih=>
  intro hi o p ho hg e he;unfold iF at hg;split at hg
  ·simp at hg;subst hg;simp at he
  ·rename_i j x hgd;obtain⟨hji,hjm,hje⟩:=K.guard i o j x hi ho hgd;obtain⟨q,ej,vcj,hq,hej,Yd,_,We,_⟩:=T.one j hjm;rw[hq]at hg;dsimp only at hg;rw[Yd]at hg;dsimp only at hg;have yH:look (pre tr s i).sl ej.d=some ej.v:=by
    refine lE hji rfl hej fun j' e' h1 _ h3 h4=> ?_;obtain⟨q',e2,_,Zj,FE,hd2,_⟩:=T.one j' (by omega);rw[h3]at FE;simp only[oI]at FE;subst FE;exact K.dist j q j' q' ej.d hjm (by omega) hq Zj Yd (by rw[hd2,h4])
   rw[yH]at hg;obtain⟨pj,hgj,ga,eD,_⟩:=kO We;have base: ∃k o',k<i∧ops[k]? =some o'∧o'.dst=some ej.d∧ ∀D:Nat→Prop,(∀i o,D i→ops[i]? =some o→ ∀j,j∈cB o→D j)→(∀j,j∈cB o→D j)→D k:=
    ⟨j,q,hji,hq,Yd,fun D _ hE=>hE j hje⟩
   split at hg
   ·simp only[oI]at hg;subst hg;simp only[List.mem_singleton]at he;subst he;exact base
   ·rename_i p' b hv;simp only[oI]at hv;simp only[oI]at hg;subst hg;rcases List.mem_cons.1 he with rfl|he
    ·exact base
    ·have hpj:pj=p':=by
      by_cases hnil:pj= []
      ·exact absurd hv (ga hnil _ _)
      ·obtain⟨x',hx'⟩:=(eD hnil).1;rw[hx']at hv;simp only[SV.cond.injEq]at hv;exact hv.1
     subst hpj;obtain⟨k,o',h1,h2,h3,h4⟩:=ih j hji hjm q pj hq hgj e he;exact⟨k,o',by omega,h2,h3,fun D hD hE=>h4 D hD (hD j q (hE j hje) hq)⟩
   ·cases hg
end
end
section
variable{ty:Tag→Nat}
theorem AO{ops:List Oper}{listed:Array Bool}(hl:listed.size=ops.length){i:Nat}:i∈Region.ready .any ops.toArray listed↔ ∃o,ops[i]? =some o∧listed.getD i false=false∧ ∀j,j∈cB o→listed.getD j false=true:=by
 unfold Region.ready;rw[List.mem_filter,List.mem_range];simp only[List.size_toArray,List.getElem?_toArray,Bool.and_eq_true,Bool.not_eq_true'];constructor
 ·rintro⟨hi,h1,h2⟩;refine⟨ops[i],List.getElem?_eq_getElem hi,?_,?_⟩
  ·have:listed[i]? =some listed[i]:=by simp[hl,hi]
   rw[Array.getD_eq_getD_getElem?,this]at h1 ⊢;exact h1
  ·intro j hj;simp only[cB,List.mem_filterMap,Array.mem_toList_iff]at hj;obtain⟨e,he,hj⟩:=hj;split at hj
   ·rename_i hb;simp only[oI]at hj;subst hj;rw[List.getElem?_eq_getElem hi]at h2;simp only[Option.map_some,Option.getD_some]at h2;have:=Array.all_eq_true_iff_forall_mem.1 h2 e he;simpa[hb]using this
   ·cases hj
 ·rintro⟨o,ho,h1,h2⟩;have hi:=(List.getElem?_eq_some_iff.1 ho).1;refine⟨hi,?_,?_⟩
  ·have:listed[i]? =some listed[i]:=by simp[hl,hi]
   rw[Array.getD_eq_getD_getElem?,this]at h1 ⊢;exact h1
  ·rw[ho];simp only[Option.map_some,Option.getD_some];rw[Array.all_eq_true_iff_forall_mem];intro e he;cases hb:Region.binds .any e with
   |false=>simp
   |true=>
    have:=h2 e.on (by
     simp only[cB,List.mem_filterMap,Array.mem_toList_iff];exact⟨e,he,by simp[hb]⟩)
    simp[this]
theorem J2{listed:Array Bool}{i j:Nat}(hi:i<listed.size):(listed.setIfInBounds i true).getD j false=(listed.getD j false||j==i):=by
 rw[Array.getD_eq_getD_getElem?,Array.getD_eq_getD_getElem?];by_cases hij:i=j
 ·subst hij;rw[Array.getElem?_setIfInBounds_self_of_lt hi];simp
 ·rw[Array.getElem?_setIfInBounds_ne hij];simp[show¬j=i from fun h=>hij h.symm]
def cnt(n:Nat)(D:Nat→Bool):Nat:=((List.range n).filter fun i=> !D i).length
theorem filter_lt{p q:Nat→Bool}: ∀{l:List Nat},(∀x,x∈l→q x=true→p x=true)→(∃x,x∈l∧p x=true∧q x=false)→(l.filter q).length<(l.filter p).length
 |y::r,h,⟨x,hx,hp,hq⟩=>by
  have le: ∀{l:List Nat},(∀x,x∈l→q x=true→p x=true)→(l.filter q).length≤(l.filter p).length:=by
   intro l;induction l with
   |nil=>intro _;simp
   |cons z l ih=>
    intro hh;have:=ih fun x hx=>hh x (by simp[hx]);cases hz:q z with
    |true=>rw[List.filter_cons_of_pos hz,List.filter_cons_of_pos (hh z (by simp) hz)];simp;exact this
    |false=>
     rw[List.filter_cons_of_neg (by simp[hz])];cases hz2:p z with
     |true=>rw[List.filter_cons_of_pos hz2];simp;omega
     |false=>rw[List.filter_cons_of_neg (by simp[hz2])];exact this
  rcases List.mem_cons.1 hx with rfl|hx
  ·rw[List.filter_cons_of_neg (by simp[hq]),List.filter_cons_of_pos hp];have:=le (l:=r) fun x hx=>h x (by simp[hx]);simp;omega
  ·have ih:=filter_lt (l:=r) (fun x hx=>h x (by simp[hx])) ⟨x,hx,hp,hq⟩;cases hy:q y with
   |true=>rw[List.filter_cons_of_pos hy,List.filter_cons_of_pos (h y (by simp) hy)];simp;exact ih
   |false=>
    rw[List.filter_cons_of_neg (by simp[hy])];cases Zk:p y with
    |true=>rw[List.filter_cons_of_pos Zk];simp;omega
    |false=>rw[List.filter_cons_of_neg (by simp[Zk])];exact ih
theorem Wf{n i:Nat}{D:Nat→Bool}(hi:i<n)(hD:D i=false):cnt n (fun j=>D j||j==i)<cnt n D:=by
 refine filter_lt ?_ ⟨i,List.mem_range.2 hi,by simp[hD],by simp⟩;intro x _ h;simp only[Bool.not_eq_true',Bool.or_eq_false_iff]at h;simp[h.1]
theorem Sp{n:Nat}{D:Nat→Bool}(h:cnt n D=0): ∀i,i<n→D i=true:=by
 intro i hi;have:=List.eq_nil_of_length_eq_zero h;cases hd:D i with
 |true=>rfl
 |false=>
  have:i∈(List.range n).filter fun i=> !D i:=List.mem_filter.2 ⟨List.mem_range.2 hi,by simp[hd]⟩
  simp_all
section
variable{P:Program}{Γ:Nat→TK}{dm:List (Nat×Nat)}{cr:List (Nat×CR)}{ops:List Oper}{m:Nat}{s:St}{tr:List TE}{zb:cD}{Q:Exit→Act→World→Prop}
end
section
variable{P:Program}{Γ:Nat→TK}{zb:cD}{Q:Post}{st:St}
end
end
section
variable{ty:Tag→Nat}
def AT(l:List Oper):Option (List Oper×Oper):=match l.reverse with
 | []=>none
 |o::r=>some (r.reverse,o)
theorem HX{l p:List Oper}{q:Oper}(h:AT l=some (p,q)):l=p++ [q]:=by
 unfold AT at h;split at h
 ·cases h
 ·rename_i o r he;simp only[oI,pI]at h;obtain⟨rfl,rfl⟩:=h;have:=congrArg List.reverse he;rw[List.reverse_reverse,List.reverse_cons]at this;exact this
def N9(Γ:Nat→TK)(st:St)(o:Oper):Option (Nat×Prop):=match o.guard,o.dst,o.op with
 |none,some d, .binOp .eql t (.tmp s) (.const (.slice none 0 0)) _=>match Γ t,look st.sl s,Nat.blt d st.n with
  | .sl _ _,some (.one (.a (.sl _ l))),true=>some (d,l= [])
  | .sl _ _,some (.one (.a (.vw _ _ _ l))),true=>some (d,l= [])
  | .sl _ _,some (.one (.a (.own n))),true=>match look st.hp n with
    |some (.arr _ l)=>some (d,l= [])
    |_=>none
  |_,_,_=>none
 |_,_,_=>none
def Gs(n:Nat)(st':St)(ks:List Nat):Option St:=match B0 st'.sl ks,B1 st'.hp (N1 st'.sl st'.hp ks [])with
 |some sl,some hp=>match qD sl hp with
  |true=>some ⟨n,sl,hp⟩
  |false=>none
 |_,_=>none
def Oa(Ar:St)(ks:List Nat)(d:Nat)(b:Bool):Option St:=Gs Ar.n (Ar.put (some d) (.one (.a (.lit (.bool b))))) ks
def SX(P:Program)(ty:Tag→Nat)(Γ:Nat→TK)(dm:List (Nat×Nat))(cr:List (Nat×CR))(ks:List Nat)(ops:List Oper)(st:St):Option (List Prop×Prop×St×St):=
 match AT ops with
 |some (pre,o)=>match run P ty Γ dm cr ops pre st []with
  |some (vc,Ar)=>match N9 Γ Ar o with
   |some (d,p)=>match Oa Ar ks d true,Oa Ar ks d false with
    |some a,some b=>some (vc,p,a,b)
    |_,_=>none
   |none=>none
  |none=>none
 |none=>none
section
variable{P:Program}{Γ:Nat→TK}{zb:cD}{Q:Post}{st:St}
theorem C7(C: ∀t,cT P t (Γ t))(Z: ∀t,(∀z tg fo,Γ t≠ .st z tg fo)→Γ t≠ .other→(P.info? t).map (·.size)=some 1){dm:List (Nat×Nat)}{cr:List (Nat×CR)}{ops:List Oper}{AK:St}{vcs:List Prop}{Q:Exit→Act→World→Prop}{tail:List Oper}
  (hQ: ∀a w,Inv ty zb AK a w→wpList P ops.toArray Q tail a w): ∀{l:List Oper} {st:St} {acc:List Prop} {a:Act} {w:World},run P ty Γ dm cr ops l st acc=some (vcs,AK)→(∀q,q∈vcs→q)→Inv ty zb st a w→wpList P ops.toArray Q (l++tail) a w
 | [],st,acc,a,w,h,hv,iv=>by
   simp only[run,oI,pI]at h;obtain⟨_,rfl⟩:=h;exact hQ a w iv
 |o::r,st,acc,a,w,h,hv,iv=>by
  obtain⟨vc,Ar,h1,h2⟩:=AJ h;have:=vu (Q:=Q) C Z h1 iv (fun q hq=>hv q (qB h2 q (List.mem_append_left _ hq)));exact this.mono fun a' w' oJ=>C7 C Z hQ h2 hv oJ
theorem J7{w:World}{t e:Nat}(d:Nat)(hu:P.underlying t=some (.slice e)){oa:Option Addr}{n cap:Nat}:(Op.equalIn (d+1) t (.slice oa n cap) (.slice none 0 0)).run P w= .ok oa.isNone w:=by
 cases oa<;>simp[Op.equalIn,run_underlying hu]
theorem Zv{o:Oper}{a:Act}{w:World}{K:Act→World→Prop}{Q:Exit→Act→World→Prop}{t s e ge:Nat}{ty2:TypeId}(ho:o.op= .binOp .eql t (.tmp s) (.const (.slice none 0 0)) ty2)(hu:P.underlying t=some (.slice e)){oa:Option Addr}{n cap:Nat}(hs:a.tmps.getD s undef= .slice oa n cap)
  (h:K (a.put o.dst (.bool oa.isNone)) w):o.wp P a w K Q:=by
 have hx:a.eval (.tmp s)= .slice oa n cap:=hs;have hrun:(execOp a.eval o).run P w= .ok (.value (.bool oa.isNone)) w:=by
  have hy:a.eval (.const (.slice none 0 0))= .slice none 0 0:=rfl;unfold execOp;simp only[ho,hx,hy];have he:(Op.equal t (.slice oa n cap) (.slice none 0 0)).run P w= .ok oa.isNone w:=J7 9999 hu;have hb:(binOp .eql t (.slice oa n cap) (.slice none 0 0)).run P w= .ok (.bool oa.isNone) w:=by
   show(do pure (.bool (←Op.equal t (.slice oa n cap) (.slice none 0 0))):Sem Value).run P w=_
   simp only[Sem.run_bind,he,Result.andThen_ok,Sem.run_pure]
  have hg:(eqGuard .eql t (.tmp s) (.const (.slice none 0 0)) (.slice oa n cap) (.slice none 0 0)).run P w= .ok () w:=by simp[eqGuard]
  simp only[Sem.run_bind,hg,hb,Result.andThen_ok,Sem.run_pure]
 unfold Oper.wp;rw[hrun];exact h
theorem J8{Ar st':St}{ks:List Nat}{d:Nat}{b:Bool}(h:Oa Ar ks d b=some st'){a:Act}{w:World}(iv:Inv ty zb Ar a w)(hd:Nat.blt d Ar.n=true):Inv ty zb st' (a.put (some d) (.bool b)) w:=by
 have iv2:Inv ty zb (Ar.put (some d) (.one (.a (.lit (.bool b))))) (a.put (some d) (.bool b)) w:=by
  obtain⟨env,g⟩:=iv.good;have hlt: ∀d',some d=some d'→d'<a.tmps.size:=by
   intro d' e;simp only[oI]at e;subst e;rw[iv.size];exact Nat.le_of_ble_eq_true hd
  exact⟨by rw[gr,tq];exact iv.size,by rw[put_defers];exact iv.defers,iv.kept,iv.C1,env,lB (dst:=some d) g hlt (u:= .bool b) (show qp w Ar.hp env a.tmps (.one (.a (.lit (.bool b)))) (.bool b)from ⟨rfl,rfl⟩) fun d _=>lC ⟨_,rfl⟩⟩
 unfold Oa Gs at h;split at h
 ·rename_i sl hp h1 h2;split at h
  ·rename_i hc;simp only[oI]at h;subst h;exact iv2.weaken (by rw[tq]) (jk h1) (jl h2) hc
  ·cases h
 ·cases h
theorem J9(X:Ctx P ty Γ)(dm:List (Nat×Nat))(cr:List (Nat×CR))(ks:List Nat){id:Nat}{ops:List Oper}{vc:List Prop}{p:Prop}{sT sF:St}(h:SX P ty Γ dm cr ks ops st=some (vc,p,sT,sF))(hv:mP vc)(kT:p→Q .normal sT)(kF:Q .normal sF):
  W P ty zb (.region id ops.toArray false) Q st:=by
 intro a w iv;unfold SX at h;split at h
 case h_2=>cases h
 rename_i pre o hsp;split at h
 case h_2=>cases h
 rename_i oV Ar hrun;split at h
 case h_2=>cases h
 rename_i d p1 hnp;split at h
 case h_2=>cases h
 rename_i sa sb hT hF;simp only[oI,pI]at h;obtain⟨rfl,rfl,rfl,rfl⟩:=h;refine wp_region_lit ?_;rw[show wpList P ops.toArray (Cw ty zb Q) ops a w=wpList P ops.toArray (Cw ty zb Q) (pre++ [o]) a w by rw[←HX hsp]];refine C7 X.kind X.one (fun a w iv=> ?_) hrun hv.out iv;obtain⟨env,g⟩:=iv.good;unfold N9 at hnp;split at hnp
 case h_2=>cases hnp
 rename_i d0 t s ty2 hg hd hop;have fin: ∀{oa:Option Addr} {n cap:Nat} {e ge:Nat},P.underlying t=some (.slice e)→a.tmps.getD s undef= .slice oa n cap→(oa=none→p1)→d0=d→Nat.blt d0 Ar.n=true→wpList P ops.toArray (Cw ty zb Q) [o] a w:=by
  intro oa n cap e ge hu hs hn QU hlt;subst QU;have hk: ∀a' w',(fun a' w'=>a'=a.put (some d0) (.bool oa.isNone)∧w'=w) a' w'→wpList P ops.toArray (Cw ty zb Q) [] a' w':=by
   rintro a' w' ⟨rfl,rfl⟩;refine wpList_nil ?_;cases oa with
   |none=>exact⟨sa,J8 hT iv hlt,kT (hn rfl)⟩
   |some x=>exact⟨sb,J8 hF iv hlt,kF⟩
  have hR:gN P ops.toArray o a w (fun a' w'=>a'=a.put (some d0) (.bool oa.isNone)∧w'=w) (Cw ty zb Q):=gR hg (Zv (ge:=ge) hop hu hs ⟨by rw[hd],rfl⟩);exact hR.mono hk
 split at hnp
 ·rename_i g1 e1 t1 l hk hl hlt;simp only[oI,pI]at hnp;have hC:=X.kind t;rw[hk]at hC;obtain⟨fp,yH,_⟩:=g.slot s _ hl;obtain⟨oa,cap,hv0,_,_,h3⟩:=yH;refine fin (ge:=0) hC.1 hv0 (fun hn=> ?_) hnp.1 hlt;rw[←hnp.2];rcases h3 with⟨h3,_⟩| ⟨b,off,bX,rfl,_⟩
  ·exact h3
  ·cases hn
 ·rename_i g1 e1 n1 p2 t1 l hk hl hlt;simp only[oI,pI]at hnp;have hC:=X.kind t;rw[hk]at hC;obtain⟨_,⟨fp,yH,_⟩,_⟩:=g.slot s _ hl;obtain⟨oa,cap,hv0,_,_,h3⟩:=yH;refine fin (ge:=0) hC.1 hv0 (fun hn=> ?_) hnp.1 hlt;rw[←hnp.2];rcases h3 with⟨h3,_⟩| ⟨b,off,bX,rfl,_⟩
  ·exact h3
  ·cases hn
 ·rename_i g1 e1 n1 hk hl hlt;split at hnp
  ·rename_i t1 l aeg;simp only[oI,pI]at hnp;have hC:=X.kind t;rw[hk]at hC;obtain⟨_,hu⟩:=g.slot s _ hl;obtain⟨oa,cap,hv0,_,_,h3⟩:=RO.sl (g.obj n1 _ aeg);refine fin (ge:=0) hC.1 (hu.trans hv0) (fun hn=> ?_) hnp.1 hlt;rw[←hnp.2];rcases h3 with⟨h3,_⟩| ⟨b,off,bX,rfl,_⟩
   ·exact h3
   ·cases hn
  ·cases hnp
 ·cases hnp
end
end
section
variable{ty:Tag→Nat}
def V.rev(hp:Hp)(ks ns:List Nat)(m0:Nat):V→V
 | .own n=>match ns.any (Nat.beq n)with
   |true=>match look hp n with|some (.arr t l)=> .vw m0 none t l|_=> .any
   |false=>(V.own n).bL ks []
 |v=>v.bL ks []
def S1.rev(hp:Hp)(ks ns:List Nat)(m0:Nat):S1→S1
 | .a v=> .a (v.rev hp ks ns m0)
 | .agg l=> .agg (l.map (V.rev hp ks ns m0))
def SV.rev(hp:Hp)(ks ns:List Nat)(m0:Nat):SV→SV
 | .one x=> .one (x.rev hp ks ns m0)
 | .wK l=> .wK (l.map (S1.rev hp ks ns m0))
 | .cond p x=> .cond p (x.rev hp ks ns m0)
def Obj.rev(hp:Hp)(ks ns:List Nat)(m0:Nat):Obj→Obj
 | .box c=> .box (c.map (V.rev hp ks ns m0))
 | .arr t l=> .arr t l
 | .iq t l s=> .iq t l (s.bL ks [])
def Kl(ga:Hp)(ks ns:List Nat)(m0:Nat)(hp:Hp):Hp:=(hp.filter fun e=> !ks.any (Nat.beq e.1)).map fun e=>(e.1,e.2.rev ga ks ns m0)
theorem A6{ga:Hp}{ks ns:List Nat}{m0:Nat}{hp:Hp}{n:Nat}:look (Kl ga ks ns m0 hp) n=if n∈ks then none else(look hp n).map (Obj.rev ga ks ns m0):=by
 unfold Kl;rw[jT (α:=Obj) (f:=fun e:Nat×Obj=>e.2.rev ga ks ns m0)];have h:=ck (ks:=ks) (kv:= []) (hp:=hp) (n:=n);unfold cK at h;rw[jT (α:=Obj) (f:=fun e:Nat×Obj=>e.2.bL ks [])]at h;by_cases hn:n∈ks
 ·rw[if_pos hn]at h ⊢;cases hq:look (hp.filter fun e=> !ks.any (Nat.beq e.1)) n with
  |none=>rfl
  |some o=>rw[hq]at h;cases h
 ·rw[if_neg hn]at h ⊢;have:look (hp.filter fun e=> !ks.any (Nat.beq e.1)) n=look hp n:=by
   induction hp with
   |nil=>rfl
   |cons e r ih=>
    obtain⟨j,x⟩:=e;by_cases hj:j∈ks
    ·have hne:n≠j:=by rintro rfl;exact hn hj
     have hb:(ks.any (Nat.beq j))=true:=List.any_eq_true.2 ⟨j,hj,by simp⟩;rw[List.filter_cons_of_neg (by simp[hb])]at h ⊢;rw[bB hne]at h ⊢;exact ih h
    ·have hb:(ks.any (Nat.beq j))=false:=by
      rw[List.any_eq_false];intro y hy h2;exact hj (by rw[Nat.eq_of_beq_eq_true h2];exact hy)
     rw[List.filter_cons_of_pos (by simp[hb])]at h ⊢;by_cases Ze:n=j
     ·subst Ze;rw[look_eq,look_eq]
     ·rw[bB Ze]at h ⊢;rw[bB Ze]at h ⊢;exact ih h
  rw[this]
section
variable{ks ns:List Nat}{m0:Nat}{w w':World}{hp hp':Hp}{env env':Env}
theorem MB{ns:List Nat}{n:Nat}(h:ns.any (Nat.beq n)=true):n∈ns:=by
 obtain⟨y,hy,h2⟩:=List.any_eq_true.1 h;rw[Nat.eq_of_beq_eq_true h2];exact hy
theorem RA.rev(s:qw ks [] w hp env w' hp' env')(hv: ∀n t l,n∈ns→look hp n=some (.arr t l)→RA w' hp' env' (.vw m0 none t l) (env n).v){v:V}{u:Value}(h:RA w hp env v u):RA w' hp' env' (v.rev hp ks ns m0) u:=by
 cases v with
 |own n=>
  have e:V.rev hp ks ns m0 (.own n)=match ns.any (Nat.beq n)with
   |true=>(match look hp n with|some (.arr t l)=> .vw m0 none t l|_=> .any)
   |false=>(V.own n).bL ks []:=rfl
  rw[e];cases hn:ns.any (Nat.beq n)with
  |true=>
   obtain⟨⟨t,l,hl⟩,rfl⟩:=h;rw[hl];exact hv n t l (MB hn) hl
  |false=>exact RA.gS s h
 |_=>exact RA.gS s h
theorem fD.rev(s:qw ks [] w hp env w' hp' env')(hv: ∀n t l,n∈ns→look hp n=some (.arr t l)→RA w' hp' env' (.vw m0 none t l) (env n).v){x:S1}{u:Value}(h:fD w hp env x u):fD w' hp' env' (x.rev hp ks ns m0) u:=by
 cases x with
 |a v=>exact RA.rev s hv h
 |agg l=>obtain⟨cs,hu,hl⟩:=h;exact⟨cs,hu,hl.map fun a b hr=>RA.rev s hv hr⟩
theorem qp.rev(s:qw ks [] w hp env w' hp' env')(hv: ∀n t l,n∈ns→look hp n=some (.arr t l)→RA w' hp' env' (.vw m0 none t l) (env n).v){tmps:Array Value}{x:SV}{u:Value}(h:qp w hp env tmps x u):qp w' hp' env' tmps (x.rev hp ks ns m0) u:=by
 cases x with
 |one x=>exact fD.rev s hv h
 |wK l=>obtain⟨us,hu,hl⟩:=h;exact⟨us,hu,hl.map fun a b hr=>fD.rev s hv hr⟩
 |cond p x=>exact⟨fun hh=>fD.rev s hv (h.1 hh),h.2⟩
theorem RO.rev(s:qw ks [] w hp env w' hp' env')(hv: ∀n t l,n∈ns→look hp n=some (.arr t l)→RA w' hp' env' (.vw m0 none t l) (env n).v){n:Nat}{o:Obj}{co:CO}(h:RO ty w hp env n o co)(hk: ∀b,b∈co.fp→w'.heap[b]? =w.heap[b]?):RO ty w' hp' env' n (o.rev hp ks ns m0) co:=by
 cases o with
 |box c=>
  obtain⟨b,cs,e,rfl,hh,hc⟩:=h;exact⟨b,cs,e,rfl,by rw[hk b (by simp)];exact hh,hc.map fun a u hr=>RA.rev s hv hr⟩
 |arr t l=>exact RO.agree h hk
 |iq t l r=>
  rcases RO.FC h with⟨rfl,h⟩| ⟨u,rfl,h⟩| ⟨p,rfl,h⟩| ⟨hr,h1,us,hB,h2,h3⟩
  ·exact Jr.agree h hk
  ·exact Js.step s hk h
  ·exact Cr.gS s hk h
  ·exact RO.PO (qd.JD hr) ⟨h1,us,iW.agree yu hB hk,h2,fun i x u hx hu=>BE.gS s (h3 i x u hx hu)⟩
end
section
variable{P:Program}{zb:cD}{st:St}{a:Act}{w:World}{env:Env}
theorem S0(g:Good ty zb st a.tmps w env)(hB:zb.w.heap.size≤w.heap.size){ks ns:List Nat}{d:Nat}(Y0:kB d=false)(hd:look (cK ks [] st.hp) d=none){v v':Value}{w':World}{t:Tag}{l:List (T t)}{fp fx gC:List Nat}
  (jf: ∀b,b∈fp++fx→ ∃i o,i∈ks∧look st.hp i=some o∧b∈(env i).fp)(Fy: ∀b,v.ownBlock=some b→b∈fp)
  (hB':iW (kk t) (rd t) 0 (ty t) w' v' l gC)(hg:w.grownBy w' v.ownBlock)(hsub: ∀b,b∈gC→b∈fp∨b∈fx∨w.heap.size≤b)
  (hns: ∀n,n∈ns→n∈ks)(hin: ∀n o b,n∈ns→look st.hp n=some o→b∈(env n).fp→b∈gC∧w'.heap[b]? =w.heap[b]?):
  ∃env',Good ty zb ⟨st.n,st.sl.map fun e=>(e.1,e.2.rev st.hp ks ns d),(d, .arr t l)::Kl st.hp ks ns d st.hp⟩ a.tmps w' env'∧(env' d).v=v':=by
 refine⟨fun n=>if n=d then⟨v',gC⟩else env n,?_,by simp⟩;have hlk: ∀m o,look ((d,Obj.arr t l)::Kl st.hp ks ns d st.hp) m=some o→(m=d∧o= .arr t l)∨(m≠d∧m∉ks∧ ∃o',look st.hp m=some o'∧o=o'.rev st.hp ks ns d):=by
  intro m o hm;by_cases lU:m=d
  ·subst lU;rw[look_eq]at hm;simp only[oI]at hm;exact Or.inl ⟨rfl,hm.symm⟩
  ·rw[bB lU,A6]at hm;split at hm
   ·cases hm
   ·rename_i hks;cases hq:look st.hp m with
    |none=>rw[hq]at hm;cases hm
    |some o'=>rw[hq]at hm;simp only[Option.map_some,oI]at hm;exact Or.inr ⟨lU,hks,o',rfl,hm.symm⟩
 have how: ∀b,b∈gC→b<w.heap.size→ ∃i o,i∈ks∧look st.hp i=some o∧b∈(env i).fp:=by
  intro b hb hlt;rcases hsub b hb with h|h|h
  ·exact jf b (List.mem_append_left _ h)
  ·exact jf b (List.mem_append_right _ h)
  ·omega
 have hnd: ∀m o,m∉ks→look st.hp m=some o→m≠d:=by
  rintro m o hks h1 rfl;rw[ck,if_neg hks,h1]at hd;cases hd
 have hst: ∀m o,m∉ks→look st.hp m=some o→ ∀b,b∈(env m).fp→w'.heap[b]? =w.heap[b]? :=by
  intro m o hks h3 b hb;refine hg.block b ((g.obj m o h3).blk b hb) fun e=> ?_;obtain⟨i,oi,hi,h5,h6⟩:=jf b (List.mem_append_left _ (Fy b e.symm));exact g.kK m i _ _ (fun e=>hks (e▸hi)) h3 h5 b hb h6
 have s:qw ks [] w st.hp env w' ((d, .arr t l)::Kl st.hp ks ns d st.hp) (fun n=>if n=d then⟨v',gC⟩else env n):=by
  refine⟨fun b hb hno=>hg.block b hb fun e=> ?_,?_,?_,?_⟩
  ·obtain⟨i,o',_,h1,h2⟩:=jf b (List.mem_append_left _ (Fy b e.symm));exact hno ⟨i,o',h1,h2⟩
  ·rintro b hb ⟨m,o',h1,h2⟩;rcases hlk m o' h1 with⟨rfl,rfl⟩| ⟨lU,hks,Cv,h3,rfl⟩
   ·simp at h2;obtain⟨i,o',_,h3,h4⟩:=how b h2 hb;exact⟨i,o',h3,h4⟩
   ·simp[lU]at h2;exact⟨m,Cv,h3,h2⟩
  ·intro m o' hks h1;have lU:=hnd m o' hks h1;refine⟨o'.rev st.hp ks ns d,by rw[bB lU,A6,if_neg hks,h1];rfl,by cases o'<;>simp[Obj.like,Obj.rev],by simp[lU]⟩
  ·rintro m t' l' ⟨hks,_⟩ h1;have lU:=hnd m _ hks h1;exact⟨by rw[bB lU,A6,if_neg hks,h1];rfl,by simp[lU],hst m _ hks h1⟩
 have hv: ∀n t1 l1,n∈ns→look st.hp n=some (.arr t1 l1)→RA w' ((d, .arr t l)::Kl st.hp ks ns d st.hp) (fun n=>if n=d then⟨v',gC⟩else env n) (.vw d none t1 l1) (env n).v:=by
  intro n t1 l1 hn hl;have yH:=RO.sl (g.obj n _ hl);refine⟨⟨_,_,look_eq⟩,⟨_,Sl.agree (ep t1) yH fun b hb=>(hin n _ b hn hl hb).2,(RO.own (g.obj n _ hl)).nodup,fun b hb=> ?_⟩,fun _ _ h=>by cases h⟩;simp only[if_true];exact(hin n _ b hn hl hb).1
 have R8:Good ty zb ⟨st.n,st.sl.map fun e=>(e.1,e.2.rev st.hp ks ns d),(d, .arr t l)::Kl st.hp ks ns d st.hp⟩ a.tmps w' (fun n=>if n=d then⟨v',gC⟩else env n):=by
  refine⟨fun m o' hm=> ?_,fun m m' o1 o2 hne h1 h2 b hb hb'=> ?_,fun s1 x hl=> ?_,fun m o' hm b hb=> ?_,fun m hm=> ?_⟩
  ·rcases hlk m o' hm with⟨rfl,rfl⟩| ⟨lU,hks,Cv,h3,rfl⟩
   ·simp only[if_true];exact RO.F7 hB'
   ·simp only[if_neg lU];exact RO.rev s hv (g.obj m Cv h3) (hst m Cv hks h3)
  ·rcases hlk m o1 h1 with⟨e1,_⟩| ⟨lU,hks,q1,h3,_⟩<;>rcases hlk m' o2 h2 with⟨e2,_⟩| ⟨HB,RQ,q2,h4,_⟩
   ·exact hne (e1.trans e2.symm)
   ·simp only[if_pos e1]at hb;simp only[if_neg HB]at hb';have hlt:=(g.obj m' q2 h4).blk b hb';obtain⟨i,oi,hi,h5,h6⟩:=how b hb hlt;exact g.kK m' i _ _ (fun e=>RQ (e▸hi)) h4 h5 b hb' h6
   ·simp only[if_pos e2]at hb';simp only[if_neg lU]at hb;have hlt:=(g.obj m q1 h3).blk b hb;obtain⟨i,oi,hi,h5,h6⟩:=how b hb' hlt;exact g.kK m i _ _ (fun e=>hks (e▸hi)) h3 h5 b hb h6
   ·simp only[if_neg lU]at hb;simp only[if_neg HB]at hb';exact g.kK m m' _ _ hne h3 h4 b hb hb'
  ·have hl:look (st.sl.map fun e=>(e.1,e.2.rev st.hp ks ns d)) s1=some x:=hl;rw[jT (α:=SV) (f:=fun e:Nat×SV=>e.2.rev st.hp ks ns d)]at hl;cases hq:look st.sl s1 with
   |none=>rw[hq]at hl;cases hl
   |some y=>
    rw[hq]at hl;simp only[Option.map_some,oI]at hl;subst hl;exact qp.rev s hv (g.slot s1 y hq)
  ·rcases hlk m o' hm with⟨e1,_⟩| ⟨lU,hks,q1,h3,_⟩
   ·simp only[if_pos e1]at hb;by_cases hlt:b<w.heap.size
    ·obtain⟨i,oi,hi,h5,h6⟩:=how b hb hlt;exact g.dom i oi h5 b h6
    ·exact Or.inr (by omega)
   ·simp only[if_neg lU]at hb;exact g.dom m q1 h3 b hb
  ·have:m≠d:=by rintro rfl;rw[Y0]at hm;cases hm
   simp only[if_neg this];exact g.pins m hm
 exact R8
theorem A7(g:Good ty zb st a.tmps w env): ∀{l c:List V} {k:List Nat} {us:List Value},bK (RA w st.hp env) l us→takes st l=some (c,k)→k.Nodup→
  ∃fp,cq w c us fp∧Own 0 w fp∧(∀b,b∈fp→ ∃i o,i∈k∧look st.hp i=some o∧b∈(env i).fp)∧ ∀i b,i∈k→b∈(env i).fp→b∈fp
 | [],c,k,us,hr,h,_=>by
   simp only[takes,oI,pI]at h;obtain⟨rfl,rfl⟩:=h;cases us with
   |nil=>exact⟨[],rfl,Own.nil _ _,by simp,by simp⟩
   |cons _ _=>exact hr.elim
 |v::r,c,k,us,hr,h,hnd=>by
  cases us with
  |nil=>exact hr.elim
  |cons u us=>
   cases v with
   |lit x=>
    simp only[takes]at h;split at h
    ·rename_i c' k' h';simp only[oI,pI]at h;obtain⟨rfl,rfl⟩:=h;obtain⟨fp,h1,h2,h3,h4⟩:=A7 g hr.2 h' hnd;obtain⟨e1,e2⟩:=hr.1;exact⟨fp,⟨[],fp,⟨e1,e2,rfl⟩,h1,rfl⟩,h2,h3,h4⟩
    ·cases h
   |own n=>
    simp only[takes]at h;split at h
    ·rename_i t l c' k' hl h';simp only[oI,pI]at h;obtain⟨rfl,rfl⟩:=h;obtain⟨hn1,hn2⟩:=List.nodup_cons.1 hnd;obtain⟨fp,h1,h2,h3,h6⟩:=A7 g hr.2 h' hn2;obtain⟨_,rfl⟩:=hr.1;have hb:=RO.sl (g.obj n _ hl);have ho:=RO.own (g.obj n _ hl);refine⟨(env n).fp++fp,⟨_,_,hb,h1,rfl⟩,⟨List.nodup_append.2 ⟨ho.nodup,h2.nodup,?_⟩,fun b hb=> ?_,fun b hb=> ?_⟩,fun b hb=> ?_,fun i b hi hbi=> ?_⟩
     ·rintro b hb x hx rfl;obtain⟨i,o,hi,h4,h5⟩:=h3 b hx;exact g.kK n i _ _ (fun e=>hn1 (e▸hi)) hl h4 b hb h5
     ·rcases List.mem_append.1 hb with hb|hb
      ·exact ho.ge b hb
      ·exact h2.ge b hb
     ·rcases List.mem_append.1 hb with hb|hb
      ·exact ho.kind b hb
      ·exact h2.kind b hb
     ·rcases List.mem_append.1 hb with hb|hb
      ·exact⟨n,_,by simp,hl,hb⟩
      ·obtain⟨i,o,hi,h4,h5⟩:=h3 b hb;exact⟨i,o,List.mem_cons_of_mem _ hi,h4,h5⟩
     ·rcases List.mem_cons.1 hi with rfl|hi
      ·exact List.mem_append_left _ hbi
      ·exact List.mem_append_right _ (h6 i b hi hbi)
    ·cases h
   |_=>simp[takes]at h
theorem Eo(g:Good ty zb st a.tmps w env){t:Tag}: ∀{ps:List (Nat×Operand)} {i:Nat} {vc:List Prop} {xs:List (T t)} {ks:List Nat},DU st t i ps=some (vc,xs,ks)→ks.Nodup→(∀q,q∈vc→q)→
  (ps.map fun p=>(p.1,a.eval p.2))=vR i (ps.map fun p=>a.eval p.2)∧xs.length=ps.length∧ ∃bX:List (List Nat),bX.length=xs.length∧
   (∀(i:Nat) (x:T t) (f:List Nat),xs[i]? =some x→bX[i]? =some f→ ∃p:Nat×Operand,ps[i]? =some p∧rd t w (a.eval p.2).cells.toList x f)∧Own 0 w bX.flatten∧(∀b,b∈bX.flatten→ ∃i o,i∈ks∧look st.hp i=some o∧b∈(env i).fp)∧
   ∀i b,i∈ks→b∈(env i).fp→b∈bX.flatten
 | [],i,vc,xs,ks,h,_,_=>by
   simp only[DU,oI,pI]at h;obtain⟨rfl,rfl,rfl⟩:=h;exact⟨rfl,rfl,[],rfl,by simp,Own.nil _ _,by simp,by simp⟩
 | (j,x)::r,i,vc,xs,ks,h,hnd,hv=>by
   simp only[DU]at h;split at h
   ·rename_i s hij hx;have hij:=Nat.eq_of_beq_eq_true hij;subst hij;split at h
    ·rename_i c k hc;split at h
     ·rename_i oV y vcs ys ks1 he hb;simp only[oI,pI]at h;obtain⟨rfl,rfl,rfl⟩:=h;obtain⟨hn1,hn2,XV⟩:=List.nodup_append.1 hnd;obtain⟨q1,q2,bX,q3,q4,q5,q6,q7⟩:=Eo g hb hn2 (fun q hq=>hv q (List.mem_append_right _ hq));obtain⟨fp,r1,r2,r3,r4⟩:=A7 g (jh g (e9 g (fun e he=>by simp at he) hx) (fk hc)) hc hn1;have hE:=s6 t he (fun q hq=>hv q (List.mem_append_left _ hq)) r1;refine⟨by simp[vR,q1],by simp[q2],fp::bX,by simp[q3],?_,⟨?_,?_,?_⟩,?_,?_⟩
      ·intro i' x' f hx' hf;cases i' with
       |zero=>simp at hx' hf;subst hx';subst hf;exact⟨(i,x),rfl,hE⟩
       |succ n=>simp at hx' hf;obtain⟨p,h1,h2⟩:=q4 n x' f hx' hf;exact⟨p,by simpa using h1,h2⟩
      ·rw[List.flatten_cons];refine List.nodup_append.2 ⟨r2.nodup,q5.nodup,?_⟩;rintro b hb z hz rfl;obtain⟨n,o1,h1,h2,h3⟩:=r3 b hb;obtain⟨m,o2,h4,h5,h6⟩:=q6 b hz;exact g.kK n m _ _ (fun e=>XV n h1 m h4 e) h2 h5 b h3 h6
      ·intro b hb;rw[List.flatten_cons]at hb;rcases List.mem_append.1 hb with hb|hb
       ·exact r2.ge b hb
       ·exact q5.ge b hb
      ·intro b hb;rw[List.flatten_cons]at hb;rcases List.mem_append.1 hb with hb|hb
       ·exact r2.kind b hb
       ·exact q5.kind b hb
      ·intro b hb;rw[List.flatten_cons]at hb;rcases List.mem_append.1 hb with hb|hb
       ·obtain⟨n,o1,h1,h2,h3⟩:=r3 b hb;exact⟨n,o1,List.mem_append_left _ h1,h2,h3⟩
       ·obtain⟨n,o1,h1,h2,h3⟩:=q6 b hb;exact⟨n,o1,List.mem_append_right _ h1,h2,h3⟩
      ·intro n b hn hb;rw[List.flatten_cons];rcases List.mem_append.1 hn with hn|hn
       ·exact List.mem_append_left _ (r4 n b hn hb)
       ·exact List.mem_append_right _ (q7 n b hn hb)
     ·cases h
    ·cases h
   ·cases h
end
def Zz(d:Nat):Operand→Bool
 | .tmp s=> !Nat.beq s d
 | .const _=>true
 |_=>false
def ZA(P:Program)(ty:Tag→Nat)(Γ:Nat→TK)(st:St)(m0:Nat)(o1 o2:Oper):Option (List Prop×St):=
 match o1.guard,o1.dst,o1.op with
 |none,some d1, .buildSlice tb len parts=>match Γ tb with
  | .sl t e=>match Nat.beq e (ty t)&&Nat.beq parts.toList.length len&&Nat.ble (len*kk t) 16777216,DU st t 0 parts.toList with
    |true,some (vc,lx,m)=>match o2.guard,o2.dst,o2.op with
     |none,some d2, .call ⟨.builtin .append,xs,ts⟩=>match xs.toList,ts.toList with
      | [s, .tmp d],[t1,t2]=>match Nat.beq d d1&&Zz d1 s&&Nat.beq t1 tb&&Nat.beq t2 tb,gQ st [] s with
        |true,some vs=>match HC st t vs with
         |some (l,k)=>match oG m&&JE k m&& !pinned k&& !kB m0&&Nat.blt d1 st.n&&Nat.blt d2 st.n,look (cK (oF k m) [] st.hp) m0 with
          |true,none=>some ([El P ty t,(l.length+lx.length)*dN t≤140737488355328∧l.length+lx.length≤maxLen]++vc,
            (St.put ⟨st.n,st.sl.map fun e=>(e.1,e.2.rev st.hp (oF k m) m m0),(m0, .arr t (l++lx))::Kl st.hp (oF k m) m m0 st.hp⟩ (some d1) (.one (.a .any))).put (some d2) (.one (.a (.own m0))))
          |_,_=>none
         |none=>none
        |_,_=>none
      |_,_=>none
     |_,_,_=>none
    |_,_=>none
  |_=>none
 |_,_,_=>none
theorem MC{w:World}{base:Nat}{e:TypeId}{k g o n cap:Nat}{xs:List Value}(h:gD w base e k (.slice (some ⟨g,o,none⟩) n cap) n xs): ∀j u,xs[j]? =some u→w.cell? ((⟨g,o,none⟩:Addr).add j)=some u:=by
 intro j u hu;rcases h.2 with⟨h1,_⟩| ⟨g',o',cap',cur,hv,_,hg,_,_,_,BR⟩
 ·cases h1
 ·simp only[Value.slice.injEq,oI,Addr.mk.injEq,and_true,true_and]at hv;obtain⟨⟨rfl,rfl⟩,rfl⟩:=hv;rw[Addr.add_mid];exact Au hg j u (by rw[BR];exact hu)
section
variable{P:Program}{zb:cD}{st:St}{a:Act}{w:World}{env:Env}{o:Oper}
theorem WG{Γ:Nat→TK}(C: ∀t,cT P t (Γ t)){m0:Nat}{o1 o2:Oper}{vc:List Prop}{st':St}(h:ZA P ty Γ st m0 o1 o2=some (vc,st'))(hv: ∀q,q∈vc→q)(iv:Inv ty zb st a w)
  {ops:Array Oper}{tail:List Oper}{Q:Exit→Act→World→Prop}(hQ: ∀a w,Inv ty zb st' a w→wpList P ops Q tail a w):wpList P ops Q (o1::o2::tail) a w:=by
 obtain⟨env,g⟩:=iv.good;have hB:=iv.kept.size;unfold ZA at h;split at h
 case h_2=>cases h
 rename_i d1 tb len parts hg1 hd1 ho1;split at h
 case h_2=>cases h
 rename_i t e hk;split at h
 case h_2=>cases h
 rename_i oV lx m hc1 hb;split at h
 case h_2=>cases h
 rename_i d2 xs ts hg2 hd2 QV;split at h
 case h_2=>cases h
 rename_i s d t1 t2 hxl htl;split at h
 case h_2=>cases h
 rename_i vs hc2 hs;split at h
 case h_2=>cases h
 rename_i l k hds;split at h
 case h_2=>cases h
 rename_i hc3 hlk;simp only[oI,pI,eX]at h;rw[eX]at hlk;obtain⟨rfl,aei⟩:=h;simp only[Bool.and_eq_true,Bool.not_eq_true']at hc1 hc2 hc3;obtain⟨⟨he,hlen⟩,hbig⟩:=hc1;obtain⟨⟨⟨QU,hoff⟩,ht1⟩,ht2⟩:=hc2;obtain⟨⟨⟨⟨⟨hnd,hno⟩,hpk⟩,JB⟩,hl1⟩,lg⟩:=hc3;have he:=Nat.eq_of_beq_eq_true he;obtain rfl:=Nat.eq_of_beq_eq_true QU;obtain rfl:=Nat.eq_of_beq_eq_true ht1;obtain rfl:=Nat.eq_of_beq_eq_true ht2;obtain rfl:xs= #[s, .tmp d]:=by cases xs;simp_all
 obtain rfl:ts= #[t2,t2]:=by cases ts;simp_all
 have rD:El P ty t:=hv _ (by simp);obtain⟨aV,bI⟩:(l.length+lx.length)*dN t≤140737488355328∧l.length+lx.length≤maxLen:=hv _ (by simp);obtain⟨q1,q2,bX,q3,q4,q5,q6,q7⟩:=Eo g hb (jF hnd) (fun q hq=>hv q (by simp[hq]));have hC:=C t2;rw[hk,he]at hC;have hlen:=Nat.eq_of_beq_eq_true hlen;obtain⟨w1,r1,r2,r3⟩:=vl (P:=P) (w:=w) (a:=a) ho1 hC.1 rD (Nat.le_of_ble_eq_true hbig) hlen (Nat.zero_le _) q1 q2 q3 q4 q5;have g1:Good ty zb st a.tmps w1 env:=by
  have:=Good.grow hB g (os:= []) rfl (kL.none r2);exact this
 have hB1:zb.w.heap.size≤w1.heap.size:=Nat.le_trans hB r2.size;have hR1:gN P ops o1 a w (fun a' w'=>a'=a.put o1.dst (.slice (some ⟨w.heap.size,0,none⟩) len len)∧w1=w') Q:=by
  refine gR hg1 ?_;unfold Oper.wp;rw[r1];exact⟨rfl,rfl⟩
 refine hR1.mono ?_;rintro a1 w1 ⟨rfl,rfl⟩;have hdl:d<a.tmps.size:=by rw[iv.size];exact Nat.le_of_ble_eq_true hl1
 have aek:d2<a.tmps.size:=by rw[iv.size];exact Nat.le_of_ble_eq_true lg
 rw[hd1];have hsv:(a.put (some d) (.slice (some ⟨w.heap.size,0,none⟩) len len)).eval s=a.eval s:=by
  cases s with
  |tmp s=>
   simp only[Zz,Bool.not_eq_true']at hoff;have hne:s≠d:=by rintro rfl;simp at hoff
   show(a.tmps.setIfInBounds d _).getD s undef=a.tmps.getD s undef
   rw[Array.getD_eq_getD_getElem?,Array.getD_eq_getD_getElem?,Array.getElem?_setIfInBounds_ne (fun e=>hne e.symm)]
  |const v=>rfl
  |_=>simp[Zz]at hoff
 have hxv:(a.put (some d) (.slice (some ⟨w.heap.size,0,none⟩) len len)).eval (.tmp d)= .slice (some ⟨w.heap.size,0,none⟩) len len:=by
  show(a.tmps.setIfInBounds d _).getD d undef=_
  rw[Array.getD_eq_getD_getElem?,Array.getElem?_setIfInBounds_self_of_lt hdl];rfl
 obtain⟨fp,hD,wL⟩:=Gg g1 (e9 g1 (fun e he=>by simp at he) hs) hds hpk;obtain⟨news,fx,hown,hfl,Y6,jf,hfo⟩:=r3;have NO:fx.flatten=bX.flatten:=by simpa[Value.ownBlock]using jf.symm
 have hq5:Own 0 w1 bX.flatten:=q5.below r2;have hlx:len=lx.length:=by rw[q2,hlen]
 have Vz:Own 0 w1 (fp++fx.flatten):=by
  rw[NO];have ho:=hD.own;refine⟨List.nodup_append.2 ⟨ho.nodup,hq5.nodup,?_⟩,fun b hb=> ?_,fun b hb=> ?_⟩
  ·rintro b hb c hc rfl;obtain⟨i,oi,hi,h1,h2⟩:=wL b hb;obtain⟨j,oj,hj,h3,h4⟩:=q6 b hc;have hij:i≠j:=by
    rintro rfl;simp only[JE,List.all_eq_true,Bool.not_eq_true',List.any_eq_false]at hno;exact hno i hi i hj (by simp)
   exact g.kK i j _ _ hij h1 h3 b h2 h4
  ·rcases List.mem_append.1 hb with hb|hb
   ·exact ho.ge b hb
   ·exact hq5.ge b hb
  ·rcases List.mem_append.1 hb with hb|hb
   ·exact ho.kind b hb
   ·exact hq5.kind b hb
 have Fy: ∀b,(a.eval s).ownBlock=some b→b∈fp:=by
  intro b hb;obtain⟨xs,bX,_,_,_,jf,_⟩:=hD;rw[jf,hb];simp
 have hsrc:Src w1 (.slice (some ⟨w.heap.size,0,none⟩) len len) lx.length news:=by
  subst hlx;exact Or.inr ⟨⟨w.heap.size,0,none⟩,_,rfl,MC hown⟩
 have hR2:gN P ops o2 (a.put (some d) (.slice (some ⟨w.heap.size,0,none⟩) len len)) w1 (fun a' w'=>Inv ty zb st' a' w') Q:=by
  refine gR hg2 ?_;refine Hf s (.tmp d) t2 QV (ep t) (gy t) 0 (ty t) (eT t) (dN t) hC.1 rD (mK t) (a.eval s) l fp hsv hD _ hxv lx news fx hsrc hfl hown.1 Y6 Vz bI aV (Nat.zero_le _) ?_;intro v' w' gC k1 k2 k3 k4 k5 k6;obtain⟨env',hg',Mc⟩:=S0 (ty:=ty) g1 hB1 (ks:=k++m) (ns:=m) JB hlk (v:=a.eval s) (fp:=fp) (fx:=bX.flatten)
   (by
    intro b hb;rcases List.mem_append.1 hb with hb|hb
    ·obtain⟨i,oi,hi,h1⟩:=wL b hb;exact⟨i,oi,List.mem_append_left _ hi,h1⟩
    ·obtain⟨i,oi,hi,h1⟩:=q6 b hb;exact⟨i,oi,List.mem_append_right _ hi,h1⟩)
   Fy k1 k2 (fun b hb=>by
    rcases k4 b hb with h|h|h
    ·exact Or.inl h
    ·exact Or.inr (Or.inl (NO▸h))
    ·exact Or.inr (Or.inr (by omega)))
   (fun n hn=>List.mem_append_right _ hn)
   (fun n o b hn hl hb=>by
    have PZ:=q7 n b hn hb;refine⟨k6 b (by rw[NO];exact PZ),k2.block b (hq5.lt b PZ) fun e=> ?_⟩;obtain⟨i,oi,hi,h1,h2⟩:=wL b (Fy b e.symm);have hij:i≠n:=by
     rintro rfl;simp only[JE,List.all_eq_true,Bool.not_eq_true',List.any_eq_false]at hno;exact hno i hi i hn (by simp)
    exact g.kK i n _ _ hij h1 hl b h2 hb)
  have abT:Kept zb w1 w':=by
   refine⟨k2.os,k2.tape,k2.output,k2.size,fun b hb hn=>k2.block b (by omega) fun e=> ?_,k5⟩;obtain⟨i,oi,hi,h1,h2⟩:=wL b (Fy b e.symm);rcases g.dom i oi h1 b h2 with h|h
   ·exact hn h
   ·omega
  rw[←aei];refine⟨?_,?_,(iv.kept.trans (je r2 hB)).trans abT,iv.C1,env',?_⟩
  ·rw[gr,gr,tq,tq];exact iv.size
  ·rw[put_defers,put_defers];exact iv.defers
  ·have gp:=lB hg' (dst:=some d) (fun _ e=>by cases e;exact hdl) (v:= .one (.a .any)) (u:= .slice (some ⟨w.heap.size,0,none⟩) len len) trivial (fun d _=>lC ⟨_,rfl⟩);rw[hd2];refine lB gp (fun _ e=>by cases e;rw[gr];exact aek) ?_ (fun d _=>lC ⟨_,rfl⟩);rw[YY];exact⟨⟨t,_,look_eq⟩,Mc.symm⟩
 exact hR2.mono fun a' w' oJ=>hQ a' w' oJ
end
def Ep:Nat→List Oper→Option (List Oper×Oper×Oper×List Oper)
 |0,o1::o2::r=>some ([],o1,o2,r)
 |n+1,o::r=>match Ep n r with
  |some (p,o1,o2,q)=>some (o::p,o1,o2,q)
  |none=>none
 |_,_=>none
theorem Gw: ∀{n:Nat} {l p q:List Oper} {o1 o2:Oper},Ep n l=some (p,o1,o2,q)→l=p++o1::o2::q
 |0,[],_,_,_,_,h=>by cases h
 |0,[_],_,_,_,_,h=>by cases h
 |0,o1::o2::r,p,q,a,b,h=>by
  simp only[Ep,oI,pI]at h;obtain⟨rfl,rfl,rfl,rfl⟩:=h;rfl
 |n+1,[],_,_,_,_,h=>by cases h
 |n+1,o::r,p,q,a,b,h=>by
  simp only[Ep]at h;split at h
  ·rename_i p' o1 o2 q' h';simp only[oI,pI]at h;obtain⟨rfl,rfl,rfl,rfl⟩:=h;rw[Gw h'];rfl
  ·cases h
def runK(P:Program)(ty:Tag→Nat)(Γ:Nat→TK)(dm:List (Nat×Nat))(cr:List (Nat×CR))(ops rest:List Oper)(oV:List Prop):Option (List Prop×St)→Option (List Prop×St)
 |some ([p,q],⟨n,sl,hp⟩)=>run P ty Γ dm cr ops rest ⟨n,sl,hp⟩ (p::q::oV)
 |some ([p,q,r],⟨n,sl,hp⟩)=>run P ty Γ dm cr ops rest ⟨n,sl,hp⟩ (p::q::r::oV)
 |some (l,⟨n,sl,hp⟩)=>run P ty Γ dm cr ops rest ⟨n,sl,hp⟩ (l++oV)
 |none=>none
def fR:Option (List Prop×St)→Option (List Prop×St)
 |some (l,st)=>match P6 st with|some st=>some (l,st)|none=>none
 |none=>none
theorem Yl{x:Option (List Prop×St)}{y:List Prop×St}(h:fR x=some y):x=some y:=by
 unfold fR at h;split at h
 ·split at h
  ·rename_i l st AK hs;simp only[oI]at h;rw[←h,mO hs]
  ·cases h
 ·cases h
theorem WH{P:Program}{Γ:Nat→TK}{dm:List (Nat×Nat)}{cr:List (Nat×CR)}{ops rest:List Oper}{oV:List Prop}{x:Option (List Prop×St)}{y:List Prop×St}(h:runK P ty Γ dm cr ops rest oV x=some y):
  ∃l st acc,x=some (l,st)∧run P ty Γ dm cr ops rest st acc=some y∧ ∀q,q∈l++oV→q∈acc:=by
 unfold runK at h;split at h
 ·exact⟨_,_,_,rfl,h,fun q hq=>by simpa using hq⟩
 ·exact⟨_,_,_,rfl,h,fun q hq=>by simpa using hq⟩
 ·exact⟨_,_,_,rfl,h,fun q hq=>by simpa using hq⟩
 ·cases h
def abU(P:Program)(ty:Tag→Nat)(Γ:Nat→TK)(dm:List (Nat×Nat))(cr:List (Nat×CR))(ks:List Nat)(ix m0:Nat)(ops:List Oper):St→Option (List Prop×St)
 | ⟨n,Sh,ga⟩=>match Ep ix ops with
   |some (pre,o1,o2,rest)=>match run P ty Γ dm cr ops pre ⟨n,Sh,ga⟩ []with
    |some (oV,Ar)=>match runK P ty Γ dm cr ops rest oV (fR (ZA P ty Γ Ar m0 o1 o2))with
     |some (vc,st')=>match Gs n st' ks,Nat.beq st'.n n with
      |some AK,true=>some (vc,AK)
      |_,_=>none
     |none=>none
    |none=>none
   |none=>none
section
variable{P:Program}{Γ:Nat→TK}{zb:cD}{Q:Post}{st:St}
theorem Of(X:Ctx P ty Γ)(dm:List (Nat×Nat))(cr:List (Nat×CR))(ks:List Nat)(ix m0:Nat){id:Nat}{ops:List Oper}{vc:List Prop}{st':St}(h:abU P ty Γ dm cr ks ix m0 ops st=some (vc,st'))(hv:mP vc)(k:Q .normal st'):
  W P ty zb (.region id ops.toArray false) Q st:=by
 intro a w iv;obtain⟨n,Sh,ga⟩:=st;unfold G.abU at h;dsimp only at h;split at h
 case h_2=>cases h
 rename_i pre o1 o2 rest hsp;split at h
 case h_2=>cases h
 rename_i oV Ar hrun;split at h
 case h_2=>cases h
 rename_i Y9 AK hk;split at h
 case h_2=>cases h
 rename_i st3 hkeep hn;simp only[oI,pI]at h;obtain⟨rfl,rfl⟩:=h;obtain⟨l,st4,acc,he,Er,hacc⟩:=WH hk;have he:=Yl he;have hv:=hv.out;refine wp_region_lit ?_;rw[show wpList P ops.toArray (Cw ty zb Q) ops a w=wpList P ops.toArray (Cw ty zb Q) (pre++o1::o2::rest) a w by rw[←Gw hsp]];refine C7 X.kind X.one (fun a w iv=> ?_) hrun (fun q hq=>hv q (qB Er q (hacc q (List.mem_append_right _ hq)))) iv;refine WG X.kind he (fun q hq=>hv q (qB Er q (hacc q (List.mem_append_left _ hq)))) iv fun a w iv=> ?_;refine HJ X.kind X.one (fun a w iv=>⟨_,?_,k⟩) Er hv iv;unfold Gs at hkeep;split at hkeep
 ·rename_i sl hp h1 h2;split at hkeep
  ·rename_i hc;simp only[oI]at hkeep;subst hkeep;exact iv.weaken (Nat.eq_of_beq_eq_true hn).symm (jk h1) (jl h2) hc
  ·cases hkeep
 ·cases hkeep
end
def rename(st:St)(s m:Nat):Option St:=match look st.sl s,Nat.blt s st.n with
 |some (.one (.a (.own n))),true=>match look st.hp n,pinned [n],kB m,look (cK [n] [] st.hp) m with
  |some (.arr t l),false,false,none=>P6 ((st.gone [n] m t l).put (some s) (.one (.a (.own m))))
  |_,_,_,_=>none
 |_,_=>none
theorem Ql{zb:cD}{st st':St}{s m:Nat}(h:rename st s m=some st'){a:Act}{w:World}(iv:Inv ty zb st a w):Inv ty zb st' a w:=by
 obtain⟨env,g⟩:=iv.good;have hB:=iv.kept.size;unfold rename at h;split at h
 case h_2=>cases h
 rename_i n hs hlt;split at h
 case h_2=>cases h
 rename_i t l hl hpk JB hlk;have h:=mO h;rw[St.gone_eq]at h;have XW:soft n=false:=qy hpk (by simp);have hb:=RO.XT XW (g.obj n _ hl);have Fy: ∀b,(env n).v.ownBlock=some b→b∈(env n).fp:=by
  intro b hb';obtain⟨xs,bX,_,_,_,jf,_⟩:=hb;rw[jf,hb'];simp
 obtain⟨env',hg',Mc⟩:=DS (ty:=ty) g hB (ks:= [n]) hpk JB hlk (v:=(env n).v) (v':=(env n).v) (w':=w) (fp:=(env n).fp) (fx:= []) (by
  intro b hb;rw[List.append_nil]at hb;exact⟨n,_,by simp,hl,hb⟩) Fy hb ⟨rfl,rfl,rfl,Nat.le_refl _,fun _ _ _=>rfl⟩ (fun b hb=>Or.inl hb)
 have hlt:s<a.tmps.size:=by rw[iv.size];exact Nat.le_of_ble_eq_true hlt
 obtain⟨_,hu⟩:=g.slot s _ hs;have gp:=hg'.put hlt (v:= .one (.a (.own m))) (u:=a.tmps.getD s undef) ⟨⟨t,l,look_eq⟩,by rw[Mc];exact hu⟩ rfl;have e:a.tmps.setIfInBounds s (a.tmps.getD s undef)=a.tmps:=by
  rw[Array.getD_eq_getD_getElem?,Array.getElem?_eq_getElem hlt];apply Array.ext
  ·simp
  ·intro i h1 h2;rw[Array.getElem_setIfInBounds];split
   ·rename_i hi;subst hi;rfl
   ·rfl
 rw[e]at gp;rw[h];exact⟨by rw[tq];exact iv.size,iv.defers,iv.kept,iv.C1,env',gp⟩
theorem mG{P:Program}{zb:cD}{Q:Post}{st st':St}{c:Code}(s m:Nat)(h:G.rename st s m=some st')(k:W P ty zb c Q st'):W P ty zb c Q st:=fun a w iv=>k a w (Ql h iv)
def MD(st:St)(b i m:Nat)(t:Tag):Option St:=match look st.hp b,kB m,look st.hp m with
 |some (.box c),false,none=>match yp c i with
  |some (.lit (.slice none 0 0))=>P6 ⟨st.n,st.sl,(b, .box (c.set i (.own m)))::(m, .arr t [])::st.hp⟩
  |_=>none
 |_,_,_=>none
theorem bK.set'{R R':V→Value→Prop}{y:V}(hm: ∀a u,R a u→R' a u): ∀{c:List V} {cs:List Value} {i:Nat} {v:V},bK R c cs→yp c i=some v→(∀u,R v u→R' y u)→bK R' (c.set i y) cs
 | [],_,_,_,_,h,_=>by cases h
 |a::r,[],_,_,h,_,_=>h.elim
 |a::r,u::us,0,v,⟨h1,h2⟩,h,hy=>by
  simp only[yp,oI]at h;subst h;exact⟨hy u h1,h2.mono fun a b _ h=>hm a b h⟩
 |a::r,u::us,i+1,v,⟨h1,h2⟩,h,hy=>⟨hm a u h1,bK.set' hm h2 (by simpa[yp]using h) hy⟩
theorem Qm{zb:cD}{st st':St}{b i m:Nat}{t:Tag}(h:MD st b i m t=some st'){a:Act}{w:World}(iv:Inv ty zb st a w):Inv ty zb st' a w:=by
 obtain⟨env,g⟩:=iv.good;have hB:=iv.kept.size;unfold MD at h;split at h
 case h_2=>cases h
 rename_i c hl JB hlk;split at h
 case h_2=>cases h
 rename_i he;have h:=mO h;have hne:b≠m:=by rintro rfl;rw[hl]at hlk;cases hlk
 have hN:kL (ty:=ty) w w st.hp [(m, .arr t [])] env (fun n=>if n=m then⟨DE,[]⟩else env n):=by
  refine⟨Below.refl _ _,fun n hn=> ?_,fun n o hn=> ?_,fun n n' o o' hne h1 h2=> ?_⟩
  ·by_cases hnm:n=m
   ·subst hnm;rw[look_eq]at hn;cases hn
   ·simp[hnm]
  ·by_cases hnm:n=m
   ·subst hnm;rw[look_eq]at hn;simp only[oI]at hn;subst hn;simp only[if_true];exact⟨RO.F7 (iW.nil _ _ _ _ _),by simp⟩
   ·rw[bB hnm]at hn;cases hn
  ·intro x hx;by_cases hnm:n=m
   ·subst hnm;simp at hx
   ·rw[bB hnm]at h1;cases h1
 have g1:=Good.grow hB g (os:= [(m, .arr t [])]) (by simp[fresh,hlk,JB]) hN;have hl1:look ([(m,Obj.arr t [])]++st.hp) b=some (.box c):=by
  show look ((m,Obj.arr t [])::st.hp) b=_
  rw[bB hne];exact hl
 obtain⟨b',cs,e,Jd,hh,hc⟩:=g1.obj b _ hl1;have g2:=DQ (off:=0) (us:= []) (c':=c.set i (.own m)) g1 hl1 Jd hh (Nat.zero_le _) (by
  simp only[List.take_zero,List.nil_append,Nat.zero_add,List.length_nil,List.drop_zero];refine bK.set' (fun _ _ h=>h) hc he fun u hu=> ?_;obtain⟨rfl,_⟩:=hu;refine⟨⟨t,[],look_eq⟩,?_⟩;simp only[if_true])
 rw[h];exact⟨iv.size,iv.defers,iv.kept,iv.C1,_,g2⟩
theorem cm{P:Program}{zb:cD}{Q:Post}{st st':St}{c:Code}(b i m:Nat)(t:Tag)(h:G.MD st b i m t=some st')(k:W P ty zb c Q st'):W P ty zb c Q st:=fun a w iv=>k a w (Qm h iv)
def H8(st:St)(b i m:Nat):Option St:=match look st.hp b with
 |some (.box c)=>match yp c i with
  |some (.own n)=>match look st.hp n,pinned [n],kB m,look (cK [n] [] st.hp) m with
   |some (.arr t l),false,false,none=>match st.gone [n] m t l with
    | ⟨nn,sl,hp⟩=>P6 ⟨nn,sl,(b, .box ((c.map fun v=>v.bL [n] []).set i (.own m)))::hp⟩
   |_,_,_,_=>none
  |_=>none
 |_=>none
theorem bK.abV{R R':V→Value→Prop}{f:V→V}{y:V}(hm: ∀a u,R a u→R' (f a) u): ∀{c:List V} {cs:List Value} {i:Nat} {v:V},bK R c cs→yp c i=some v→(∀u,R v u→R' y u)→bK R' ((c.map f).set i y) cs
 | [],_,_,_,_,h,_=>by cases h
 |a::r,[],_,_,h,_,_=>h.elim
 |a::r,u::us,0,v,⟨h1,h2⟩,h,hy=>by
  simp only[yp,oI]at h;subst h;exact⟨hy u h1,h2.map hm⟩
 |a::r,u::us,i+1,v,⟨h1,h2⟩,h,hy=>⟨hm a u h1,bK.abV hm h2 (by simpa[yp]using h) hy⟩
theorem ME{zb:cD}{st st':St}{b i m:Nat}(h:H8 st b i m=some st'){a:Act}{w:World}(iv:Inv ty zb st a w):Inv ty zb st' a w:=by
 obtain⟨env,g⟩:=iv.good;have hB:=iv.kept.size;unfold H8 at h;split at h
 case h_2=>cases h
 rename_i c Je;split at h
 case h_2=>cases h
 rename_i n he;split at h
 case h_2=>cases h
 rename_i t l hl hpk JB hlk;rw[St.gone_eq]at h;have h:=mO h;have XW:soft n=false:=qy hpk (by simp);have hb:=RO.XT XW (g.obj n _ hl);have Fy: ∀b,(env n).v.ownBlock=some b→b∈(env n).fp:=by
  intro b hb';obtain⟨xs,bX,_,_,_,jf,_⟩:=hb;rw[jf,hb'];simp
 obtain⟨env',hg',Mc,hold,aem⟩:=Gf (ty:=ty) g hB (ks:= [n]) hpk JB hlk (v:=(env n).v) (v':=(env n).v) (w':=w) (fp:=(env n).fp) (fx:= []) (by
  intro b hb;rw[List.append_nil]at hb;exact⟨n,_,by simp,hl,hb⟩) Fy hb ⟨rfl,rfl,rfl,Nat.le_refl _,fun _ _ _=>rfl⟩ (fun b hb=>Or.inl hb)
 have hbn:b≠n:=by rintro rfl;rw[Je]at hl;cases hl
 have hbk:look (cK [n] [] st.hp) b=some (.box (c.map fun v=>v.bL [n] [])):=by
  rw[ck,if_neg (by simpa using hbn),Je];rfl
 have Gh:b≠m:=by rintro rfl;rw[hbk]at hlk;cases hlk
 have bI:look ((m,Obj.arr t l)::cK [n] [] st.hp) b=some (.box (c.map fun v=>v.bL [n] [])):=by rw[bB Gh];exact hbk
 obtain⟨b',cs,e,Jd,hh,hc⟩:=hg'.obj b _ bI;obtain⟨b0,cs0,e0,aen,hh0,hc0⟩:=g.obj b _ Je;have YW:b'=b0:=by
  rw[hold b Gh,aen]at Jd;simpa using Jd.symm
 subst YW;have hcs:cs=cs0:=by
  rw[hh0]at hh;simp at hh;exact hh.1.symm
 subst hcs;have s:qw [n] [] w st.hp env w ((m,Obj.arr t l)::cK [n] [] st.hp) env':=by
  have hnm: ∀x o,x≠n→look st.hp x=some o→x≠m:=by
   rintro x o hx h1 rfl;rw[ck,if_neg (by simpa using hx),h1]at hlk;cases hlk
  refine⟨fun _ _ _=>rfl,?_,?_,?_⟩
  ·rintro x hx ⟨y,o',h1,h2⟩;by_cases hy:y=m
   ·subst hy;exact⟨n,_,hl,by rw[←aem];exact h2⟩
   ·rw[hold y hy]at h2;rw[bB hy,ck]at h1;split at h1
    ·cases h1
    ·cases hq:look st.hp y with
     |none=>rw[hq]at h1;cases h1
     |some o=>exact⟨y,o,hq,h2⟩
  ·intro x o hx h1;have hx:x≠n:=by simpa using hx
   have ZB:=hnm x o hx h1;exact⟨o.bL [n] [],by rw[bB ZB,ck,if_neg (by simpa using hx),h1];rfl,by cases o<;>simp[Obj.like,Obj.bL],by rw[hold x ZB]⟩
  ·rintro x t' l' ⟨hx,_⟩ h1;have hx:x≠n:=by simpa using hx
   have ZB:=hnm x _ hx h1;exact⟨by rw[bB ZB,ck,if_neg (by simpa using hx),h1];rfl,by rw[hold x ZB],fun _ _=>rfl⟩
 have g2:=DQ (off:=0) (us:= []) (c':=(c.map fun v=>v.bL [n] []).set i (.own m)) hg' bI Jd hh (Nat.zero_le _) (by
  simp only[List.take_zero,List.nil_append,Nat.zero_add,List.length_nil,List.drop_zero];refine bK.abV (fun v u h=>RA.gS s h) hc0 he fun u hu=> ?_;obtain⟨_,hu⟩:=hu;exact⟨⟨t,l,look_eq⟩,by rw[hu,Mc]⟩)
 rw[h];exact⟨iv.size,iv.defers,iv.kept,iv.C1,_,g2⟩
theorem kW{P:Program}{zb:cD}{Q:Post}{st st':St}{c:Code}(b i m:Nat)(h:G.H8 st b i m=some st')(k:W P ty zb c Q st'):W P ty zb c Q st:=fun a w iv=>k a w (ME h iv)
end
section
variable{ty:Tag→Nat}
inductive gd where
 |last(q:Nat)
 |ph(q:Nat)(c:gd)
 |br(d t:Nat)(sub next:gd)
 |nil
def gd.Og:gd→List (Nat×Nat×gd)
 | .br d t sub next=>(d,t,sub)::next.Og
 |_=> []
def gd.S5:gd→Bool
 | .last _=>true
 | .ph _ _=>true
 |_=>false
def Ko(Γ:Nat→TK)(E:Tag→Nat→Prop)(S:FuncId→List S1→List S1→Prop)(dm:List (Nat×Nat))(cr:List (Nat×CR))(ops:List Oper)(q:Nat):Nat→List Oper→St→Option (List TE×List (Nat×List Prop))
 |_,[],_=>some ([],[])
 |i,o::r,⟨n,sl,hp⟩=>match q.testBit i with
  |false=>match Ko Γ E S dm cr ops q (i+1) r ⟨n,sl,hp⟩with
   |some (tr,vq)=>some (⟨0, .wK [],[]⟩::tr,vq)
   |none=>none
  |true=>match o.dst with
   |some d=>match sl.any (fun e=>e.2.mentions d),oT Γ E S dm cr ops ⟨n,sl,hp⟩ o with
    |false,some (vc,v,os)=>match fS v,Zh os with
     |some v,some os=>match Ko Γ E S dm cr ops q (i+1) r ⟨n,(d,v)::sl,oF os hp⟩with
      |some (tr,vq)=>some (⟨d,v,os⟩::tr,(i,vc)::vq)
      |none=>none
     |_,_=>none
    |_,_=>none
   |none=>none
def Kp(d:Nat):Nat→List TE→St→St
 |_,[],s=>s
 |i,e::r,s=>match d.testBit i with
  |true=>Kp d (i+1) r (app s e)
  |false=>Kp d (i+1) r s
def MF(i:Nat)(vc:List Prop):List (Nat×List Prop)→List (Nat×List Prop)
 | []=> [(i,vc)]
 | (j,v)::r=>match Nat.blt j i with
   |true=>(i,vc)::(j,v)::r
   |false=>(j,v)::MF i vc r
def Kq(d:Nat):List (Nat×List Prop)→List (Nat×List Prop)→List (Nat×List Prop)
 | [],acc=>acc
 | (i,vc)::r,acc=>match d.testBit i with
   |true=>Kq d r (MF i vc acc)
   |false=>Kq d r acc
def Cf:List (Nat×List Prop)→Option (List Prop)
 | []=>some []
 | (_,[])::r=>Cf r
 | (_,[p])::r=>match Cf r with|some l=>some (p::l)|none=>none
 | (_,[p,q])::r=>match Cf r with|some l=>some (p::q::l)|none=>none
 | (_,l)::r=>match Cf r with|some l'=>some (l++l')|none=>none
theorem tW{i:Nat}{vc:List Prop}: ∀{l:List (Nat×List Prop)} {x:Nat×List Prop},x∈MF i vc l↔x=(i,vc)∨x∈l
 | [],x=>by simp[MF]
 | (j,v)::r,x=>by
   simp only[MF];split
   ·simp
   ·rw[List.mem_cons,List.mem_cons,tW];constructor
    ·rintro(h|h|h)
     ·exact Or.inr (Or.inl h)
     ·exact Or.inl h
     ·exact Or.inr (Or.inr h)
    ·rintro(h|h|h)
     ·exact Or.inr (Or.inl h)
     ·exact Or.inl h
     ·exact Or.inr (Or.inr h)
theorem pK{d:Nat}: ∀{vq acc:List (Nat×List Prop)} {x:Nat×List Prop},x∈Kq d vq acc↔(x∈vq∧d.testBit x.1=true)∨x∈acc
 | [],acc,x=>by simp[Kq]
 | (i,vc)::r,acc,x=>by
   simp only[Kq];split
   ·rename_i hb;rw[pK,tW];constructor
    ·rintro(⟨h1,h2⟩|rfl|h)
     ·exact Or.inl ⟨List.mem_cons_of_mem _ h1,h2⟩
     ·exact Or.inl ⟨by simp,hb⟩
     ·exact Or.inr h
    ·rintro(⟨h1,h2⟩|h)
     ·rcases List.mem_cons.1 h1 with rfl|h1
      ·exact Or.inr (Or.inl rfl)
      ·exact Or.inl ⟨h1,h2⟩
     ·exact Or.inr (Or.inr h)
   ·rename_i hb;rw[pK];constructor
    ·rintro(⟨h1,h2⟩|h)
     ·exact Or.inl ⟨List.mem_cons_of_mem _ h1,h2⟩
     ·exact Or.inr h
    ·rintro(⟨h1,h2⟩|h)
     ·rcases List.mem_cons.1 h1 with rfl|h1
      ·simp only at h2;rw[h2]at hb;cases hb
      ·exact Or.inl ⟨h1,h2⟩
     ·exact Or.inr h
theorem Bb: ∀{l:List (Nat×List Prop)} {m:List Prop},Cf l=some m→ ∀x,x∈l→ ∀q,q∈x.2→q∈m
 | [],_,_,x,hx=>by cases hx
 | (i,v)::r,m,h,x,hx=>by
   have key: ∃l',Cf r=some l'∧m=v++l':=by
    unfold Cf at h;split at h
    ·rename_i he;cases he
    ·rename_i he;simp only[List.cons.injEq,pI]at he;obtain⟨⟨rfl,rfl⟩,rfl⟩:=he;exact⟨m,h,rfl⟩
    ·rename_i he;simp only[List.cons.injEq,pI]at he;obtain⟨⟨rfl,rfl⟩,rfl⟩:=he;split at h
     ·rename_i l' h1;simp only[oI]at h;exact⟨l',h1,h.symm⟩
     ·cases h
    ·rename_i he;simp only[List.cons.injEq,pI]at he;obtain⟨⟨rfl,rfl⟩,rfl⟩:=he;split at h
     ·rename_i l' h1;simp only[oI]at h;exact⟨l',h1,h.symm⟩
     ·cases h
    ·rename_i he;simp only[List.cons.injEq,pI]at he;obtain⟨⟨rfl,rfl⟩,rfl⟩:=he;split at h
     ·rename_i l' h1;simp only[oI]at h;exact⟨l',h1,h.symm⟩
     ·cases h
   obtain⟨l',h1,rfl⟩:=key;intro q hq;rcases List.mem_cons.1 hx with rfl|hx
   ·exact List.mem_append_left _ hq
   ·exact List.mem_append_right _ (Bb h1 x hx q hq)
def jH(P:Program)(ty:Tag→Nat)(Γ:Nat→TK)(dm:List (Nat×Nat))(cr:List (Nat×CR))(ks hs:List Nat)(ops:List Oper)(n0:Nat):gd→St→List TE→List (Nat×List Prop)→List (Nat×List Prop)→Option (List (List Prop×St))
 | .last q,s,_,_,acc=>match Ko Γ (PR P ty) (Sound ty P) dm cr ops q 0 ops s with
   |some (tr,vq)=>match P6 (Kp q 0 tr s)with
    |some ⟨n,ZC,eD⟩=>match B0 ZC ks,B1 eD (N1 ZC eD ks hs),Cf (Kq q vq acc)with
     |some sl,some hp,some vc=>match qD sl hp,Nat.beq n n0 with
      |true,true=>some [(vc,⟨n0,sl,hp⟩)]
      |_,_=>none
     |_,_,_=>none
    |none=>none
   |none=>none
 | .ph q c,s,_,_,acc=>match Ko Γ (PR P ty) (Sound ty P) dm cr ops q 0 ops s with
   |some (tr,vq)=>jH P ty Γ dm cr ks hs ops n0 c s tr vq acc
   |none=>none
 | .br d t sub next,s,tr,vq,acc=>match P6 (Kp d 0 tr s),ops[t]? with
   |some s1,some o=>match step P ty Γ dm cr ops s1 o with
    |some (vc,s2)=>match P6 s2 with
     |some s2=>match jH P ty Γ dm cr ks hs ops n0 sub s2 [] [] (MF t vc (Kq d vq acc)),jH P ty Γ dm cr ks hs ops n0 next s tr vq acc with
      |some l1,some l2=>some (oF l1 l2)
      |_,_=>none
     |none=>none
    |none=>none
   |_,_=>none
 | .nil,_,_,_,_=>some []
def Eu(ops:List Oper)(B q Kr:Nat):Nat→Nat→Nat→List Nat
 |0,_,d=> [d]
 |m+1,i,d=>match q.testBit i with
  |false=>Eu ops B q Kr m (i+1) d
  |true=>(match((ops[i]?).map fun o=>(cB o).all fun j=>B.testBit j||d.testBit j).getD false with
   |true=>Eu ops B q Kr m (i+1) (d|||2^i)
   |false=> [])++(match Kr.testBit i with
   |true=> []
   |false=>Eu ops B q Kr m (i+1) d)
def WJ(ops:List Oper)(cl:List Nat)(A:List (Nat×Oper))(qs B q:Nat):Bool:=
 A.all fun e=>(!(q.testBit e.1)|| !(B.testBit e.1))&&
   (B.testBit e.1||q.testBit e.1|| !(qs.testBit e.1)|| !((cB e.2).all fun j=>B.testBit j||q.testBit j))&&
   (!(q.testBit e.1)||
     ((tmpsOf e.2).all fun t=>A.all fun f=> !(q.testBit f.1)|| !(N5 f.2 t)||Nat.beq f.1 e.1|| (cl.getD e.1 0).testBit f.1|| (Nat.blt e.1 f.1&&(cl.getD f.1 0).testBit e.1))&&
     (match e.2.guard with
      |none=>true
      |some (j,_)=>(cB e.2).any (Nat.beq j))&&
     (match e.2.dst with
      |some d=>A.all fun f=>Nat.beq f.1 e.1|| !(N5 f.2 d)
      |none=>false)&&(cB e.2).all fun j=>B.testBit j||q.testBit j)
def Ic(ops:List Oper)(cl:List Nat)(n B q:Nat)(c:gd):Bool:=
 (List.range n).all fun t=>B.testBit t||q.testBit t||
  (Eu ops B q (cl.getD t 0) n 0 0).all fun d=> !(((ops[t]?).map fun o=>(cB o).all fun j=>B.testBit j||d.testBit j).getD false)||c.Og.any fun b=>Nat.beq b.1 d&&Nat.beq b.2.1 t
def QW(ops:List Oper)(cl:List Nat)(A:List (Nat×Oper))(qs n:Nat):Nat→gd→Bool
 |B, .last q=>WJ ops cl A qs B q&&(List.range n).all fun i=>B.testBit i||q.testBit i
 |B, .ph q c=>WJ ops cl A qs B q&&Ic ops cl n B q c&& !((List.range n).all fun i=>B.testBit i||q.testBit i)&&QW ops cl A qs n B c
 |B, .br d t sub next=>sub.S5&&Nat.blt t n&&QW ops cl A qs n (B|||d|||2^t) sub&&QW ops cl A qs n B next
 |_, .nil=>true
def WK(ops:List Oper)(qs:Nat)(p:gd):Bool:=
 ((idx 0 ops).all fun e=>(cB e.2).all fun j=>Nat.blt j e.1)&&p.S5&&QW ops (HM ops) (idx 0 ops) qs ops.length 0 p
section
variable{vS D:Nat→Bool}{tr:List TE}{s:St}
theorem mB(vS:Nat→Bool)(e:TE)(tr:List TE)(s:St)(h:vS 0=false): ∀i,eP vS (e::tr) s (i+1)=eP (fun j=>vS (j+1)) tr s i
 |0=>by simp[eP,h]
 |i+1=>by
  rw[eP,mB vS e tr s h i,eP];simp only[List.getElem?_cons_succ]
theorem yY(d:Nat): ∀(tr:List TE) (k:Nat) (s:St),Kp d k tr s=eP (fun i=>d.testBit (k+i)) tr s tr.length
 | [],_,_=>rfl
 |e::r,k,s=>by
  have hf:(fun j=>d.testBit (k+(j+1)))=fun i=>d.testBit (k+1+i):=by funext j;congr 1;omega
  simp only[Kp];split
  ·rename_i h;rw[yY d r (k+1) (app s e),List.length_cons,D6 _ e r s (by simpa using h),hf]
  ·rename_i h;rw[yY d r (k+1) s,List.length_cons,mB _ e r s (by simpa using h),hf]
theorem Bc{D':Nat→Bool}: ∀{n:Nat},(∀i,i<n→D i=D' i)→eP D tr s n=eP D' tr s n
 |0,_=>rfl
 |n+1,h=>by rw[eP,eP,Bc (n:=n) fun i hi=>h i (by omega),h n (by omega)]
theorem Ew: ∀{n:Nat},eP (fun _=>false) tr s n=s
 |0=>rfl
 |n+1=>by rw[HO rfl,Ew]
theorem n7: ∀{i:Nat} {x:Nat×SV},x∈s.sl→x∈(eP D tr s i).sl
 |0,_,h=>h
 |i+1,x,h=>by
  rw[eP];split
  ·exact List.mem_cons_of_mem _ (n7 h)
  ·exact n7 h
def Ex(Qb:Nat→Bool)(tr:List TE)(s:St)(m:Nat):Prop:= ∀i e,i<m→Qb i=true→tr[i]? =some e→ ∀n o,look e.os n=some o→look (eP Qb tr s i).hp n=none
variable{Qb:Nat→Bool}
theorem Bd{m:Nat}(hf:Ex Qb tr s m): ∀{j i:Nat},i≤j→j≤m→ ∀{n o},look (eP Qb tr s i).hp n=some o→look (eP Qb tr s j).hp n=some o
 |0,i,hi,_,n,o,h=>by
  have:i=0:=by omega
  subst this;exact h
 |j+1,i,hi,hm,n,o,h=>by
  by_cases hij:i=j+1
  ·subst hij;exact h
  ·have ih:=Bd hf (j:=j) (i:=i) (by omega) (by omega) h;rw[eP];split
   ·rename_i e' h1 h2;show look (e'.os++(eP Qb tr s j).hp) n=_
    cases hq:look e'.os n with
    |none=>rw[bJ hq];exact ih
    |some o'=>
     have:=hf j e' (by omega) h1 h2 n o' hq;rw[this]at ih;cases ih
   ·exact ih
theorem tX{m:Nat}(hf:Ex Qb tr s m)(hD: ∀i,D i=true→Qb i=true): ∀{i:Nat},i≤m→ ∀{n o},look (eP D tr s i).hp n=some o→look (eP Qb tr s i).hp n=some o
 |0,_,n,o,h=>h
 |i+1,hm,n,o,h=>by
  rw[eP]at h;split at h
  ·rename_i e' h1 h2;have h:look (e'.os++(eP D tr s i).hp) n=some o:=h;rw[tC (hD i h1) h2];show look (e'.os++(eP Qb tr s i).hp) n=some o
   cases hq:look e'.os n with
   |none=>rw[bJ hq]at h ⊢;exact tX hf hD (by omega) h
   |some o'=>rw[cJ hq]at h ⊢;exact h
  ·exact Bd hf (Nat.le_succ i) hm (tX hf hD (by omega) h)
theorem vE{m:Nat}(hf:Ex Qb tr s m)(hD: ∀i,D i=true→Qb i=true): ∀{i:Nat},i≤m→ ∀{n o},look s.hp n=some o→look (eP D tr s i).hp n=some o
 |0,_,n,o,h=>h
 |i+1,hm,n,o,h=>by
  have ih:=vE hf hD (i:=i) (by omega) h;rw[eP];split
  ·rename_i e' h1 h2;show look (e'.os++(eP D tr s i).hp) n=some o
   cases hq:look e'.os n with
   |none=>rw[bJ hq];exact ih
   |some o'=>
    have h3:=hf i e' (by omega) (hD i h1) h2 n o' hq;have h4:=tX hf hD (by omega) ih;rw[h3]at h4;cases h4
  ·exact ih
theorem vF{m:Nat}(hf:Ex Qb tr s m)(hD: ∀i,D i=true→Qb i=true): ∀{i:Nat},i≤m→ ∀{j:Nat} {e:TE} {n:Nat} {o:Obj},j<i→D j=true→tr[j]? =some e→look e.os n=some o→look (eP D tr s i).hp n=some o
 |i+1,hm,j,e,n,o,hj,hin,he,h=>by
  by_cases hij:j=i
  ·subst hij;rw[tC hin he];exact cJ h
  ·have ih:=vF hf hD (i:=i) (by omega) (j:=j) (by omega) hin he h;rw[eP];split
   ·rename_i e' h1 h2;show look (e'.os++(eP D tr s i).hp) n=some o
    cases hq:look e'.os n with
    |none=>rw[bJ hq];exact ih
    |some o'=>
     have h3:=hf i e' (by omega) (hD i h1) h2 n o' hq;have h4:=tX hf hD (by omega) ih;rw[h3]at h4;cases h4
   ·exact ih
end
structure Vn(Γ:Nat→TK)(E:Tag→Nat→Prop)(S:FuncId→List S1→List S1→Prop)(dm:List (Nat×Nat))(cr:List (Nat×CR))(ops:List Oper)(q:Nat)(s:St)(tr:List TE)(vq:List (Nat×List Prop)):Prop where
 len:tr.length=ops.length
 one: ∀i,i<ops.length→q.testBit i=true→ ∃o e vc,ops[i]? =some o∧tr[i]? =some e∧o.dst=some e.d∧((eP (fun j=>q.testBit j) tr s i).sl.any fun x=>x.2.mentions e.d)=false∧oT Γ E S dm cr ops (eP (fun j=>q.testBit j) tr s i) o=some (vc,e.v,e.os)∧(i,vc)∈vq
theorem xy{Γ:Nat→TK}{E:Tag→Nat→Prop}{S:FuncId→List S1→List S1→Prop}{dm:List (Nat×Nat)}{cr:List (Nat×CR)}{ops:List Oper}{q:Nat}: ∀{l:List Oper} {k:Nat} {st:St} {tr:List TE} {vq:List (Nat×List Prop)},Ko Γ E S dm cr ops q k l st=some (tr,vq)→(∀i o,l[i]? =some o→ops[k+i]? =some o)→
  tr.length=l.length∧ ∀i,i<l.length→q.testBit (k+i)=true→ ∃o e vc,ops[k+i]? =some o∧tr[i]? =some e∧o.dst=some e.d∧((eP (fun j=>q.testBit (k+j)) tr st i).sl.any fun x=>x.2.mentions e.d)=false∧oT Γ E S dm cr ops (eP (fun j=>q.testBit (k+j)) tr st i) o=some (vc,e.v,e.os)∧(k+i,vc)∈vq
 | [],k,st,tr,vq,h,_=>by
   simp only[Ko,oI,pI]at h;exact⟨by rw[←h.1];rfl,fun i hi=>absurd hi (by simp)⟩
 |o::r,k,⟨n,sl,hp⟩,tr,vq,h,hk=>by
  have hk': ∀i o',r[i]? =some o'→ops[k+1+i]? =some o':=fun i o' ho=>by
   have:=hk (i+1) o' (by simpa using ho);rw[show k+1+i=k+(i+1)by omega];exact this
  have hf:(fun j=>q.testBit (k+(j+1)))=fun i=>q.testBit (k+1+i):=by funext j;congr 1;omega
  simp only[Ko]at h;split at h
  ·rename_i hb;split at h
   case h_2=>cases h
   rename_i tr' vq' h2;simp only[oI,pI]at h;obtain⟨rfl,rfl⟩:=h;obtain⟨q1,q2⟩:=xy h2 hk';refine⟨by simp[q1],fun i hi hq=> ?_⟩;cases i with
   |zero=>rw[Nat.add_zero,hb]at hq;cases hq
   |succ i=>
    obtain⟨o',e',vc',p1,p2,p3,p4,p5,p6⟩:=q2 i (by simpa using hi) (by rw[show k+1+i=k+(i+1)by omega];exact hq);refine⟨o',e',vc',by rw[show k+(i+1)=k+1+i by omega];exact p1,by simpa using p2,p3,?_,?_,by rw[show k+(i+1)=k+1+i by omega];exact p6⟩
    ·rw[mB _ _ tr' _ (by simpa using hb) i,hf];exact p4
    ·rw[mB _ _ tr' _ (by simpa using hb) i,hf];exact p5
  ·rename_i hb;split at h
   case h_2=>cases h
   rename_i d hd;split at h
   case h_2=>cases h
   rename_i vc v os hm hq0;split at h
   case h_2=>cases h
   rename_i v2 os2 hv2 WL;have hv2:=Sb hv2;have WL:=HI WL;subst hv2;subst WL;split at h
   case h_2=>cases h
   rename_i tr' vq' h2;simp only[oI,pI]at h;obtain⟨rfl,rfl⟩:=h;rw[eX]at h2;obtain⟨q1,q2⟩:=xy h2 hk';refine⟨by simp[q1],fun i hi hq=> ?_⟩;cases i with
   |zero=>exact⟨o,⟨d,v2,os2⟩,vc,hk 0 o rfl,rfl,hd,hm,hq0,by simp⟩
   |succ i=>
    obtain⟨o',e',vc',p1,p2,p3,p4,p5,p6⟩:=q2 i (by simpa using hi) (by rw[show k+1+i=k+(i+1)by omega];exact hq);have hc:=D6 (fun j=>q.testBit (k+j)) ⟨d,v2,os2⟩ tr' ⟨n,sl,hp⟩ (by simpa using hb) i;refine⟨o',e',vc',by rw[show k+(i+1)=k+1+i by omega];exact p1,by simpa using p2,p3,?_,?_,by rw[show k+(i+1)=k+1+i by omega];exact List.mem_cons_of_mem _ p6⟩
    ·rw[hc,hf];exact p4
    ·rw[hc,hf];exact p5
theorem Vn.of{Γ:Nat→TK}{E:Tag→Nat→Prop}{S:FuncId→List S1→List S1→Prop}{dm:List (Nat×Nat)}{cr:List (Nat×CR)}{ops:List Oper}{q:Nat}{s:St}{tr:List TE}{vq:List (Nat×List Prop)}(h:Ko Γ E S dm cr ops q 0 ops s=some (tr,vq)):Vn Γ E S dm cr ops q s tr vq:=by
 obtain⟨h1,h2⟩:=xy h (fun i o ho=>by simpa using ho);refine⟨h1,fun i hi hq=> ?_⟩;have:=h2 i hi (by simpa using hq);simpa using this
structure ZD(ops:List Oper)(qs B q:Nat):Prop where
 back: ∀i o,ops[i]? =some o→ ∀j,j∈cB o→j<i
 kK: ∀i,i<ops.length→q.testBit i=true→B.testBit i=false
 full: ∀i o,ops[i]? =some o→B.testBit i=false→qs.testBit i=true→(∀j,j∈cB o→B.testBit j=true∨q.testBit j=true)→q.testBit i=true
 uses: ∀i o,q.testBit i=true→ops[i]? =some o→ ∀t,t∈tmpsOf o→ ∀k o',q.testBit k=true→ops[k]? =some o'→o'.dst=some t→k=i∨((HM ops).getD i 0).testBit k=true∨(i<k∧((HM ops).getD k 0).testBit i=true)
 guard: ∀i o j x,q.testBit i=true→ops[i]? =some o→o.guard=some (j,x)→j∈cB o
 dist: ∀i o k o' d,q.testBit i=true→ops[i]? =some o→ops[k]? =some o'→o.dst=some d→o'.dst=some d→k=i
 clq: ∀i o,q.testBit i=true→ops[i]? =some o→ ∀j,j∈cB o→(B.testBit j=true∨q.testBit j=true)
theorem abY{ops:List Oper}(h:((idx 0 ops).all fun e=>(cB e.2).all fun j=>Nat.blt j e.1)=true): ∀i o,ops[i]? =some o→ ∀j,j∈cB o→j<i:=by
 intro i o ho j hj;simp only[List.all_eq_true]at h;have:=h _ (by simpa using HQ (l:=ops) (k:=0) ho) j hj;exact Nat.le_of_ble_eq_true this
theorem Ie{ops:List Oper}{qs B q:Nat}(hb: ∀i o,ops[i]? =some o→ ∀j,j∈cB o→j<i)(h:WJ ops (HM ops) (idx 0 ops) qs B q=true):ZD ops qs B q:=by
 simp only[WJ,List.all_eq_true,Bool.and_eq_true,Bool.or_eq_true,Bool.not_eq_true']at h;have hA: ∀{i o},ops[i]? =some o→(i,o)∈idx 0 ops:=by
  intro i o ho;simpa using HQ (l:=ops) (k:=0) ho
 have hdi: ∀{o:Oper} {t:Nat},o.dst=some t→N5 o t=true:=by intro o t hd;simp[N5,hd]
 refine⟨hb,fun i hi hq=> ?_,fun i o ho hB hqs he=> ?_,fun i o hq ho t ht k o' MG ho' hd=> ?_,fun i o j x hq ho hg=> ?_,fun i o k o' d hq ho ho' hd hd'=> ?_,fun i o hq ho j hj=> ?_⟩
 ·rcases(h _ (hA (List.getElem?_eq_getElem hi))).1.1 with h1|h1
  ·simp only at h1;rw[hq]at h1;cases h1
  ·exact h1
 ·rcases(h _ (hA ho)).1.2 with((h1|h1)|h1)|h1
  ·simp only at h1;rw[hB]at h1;cases h1
  ·exact h1
  ·simp only at h1;rw[hqs]at h1;cases h1
  ·exfalso;have:((cB o).all fun j=>B.testBit j||q.testBit j)=true:=by
    rw[List.all_eq_true];intro j hj;rcases he j hj with h|h
    ·rw[h];rfl
    ·rw[h];simp
   simp only at h1;rw[this]at h1;cases h1
 ·rcases(h _ (hA ho)).2 with h1|h1
  ·simp only at h1;rw[hq]at h1;cases h1
  ·rcases h1.1.1.1 t ht _ (hA ho')with(((h2|h2)|h2)|h2)|h2
   ·simp only at h2;rw[MG]at h2;cases h2
   ·rw[hdi hd]at h2;cases h2
   ·exact Or.inl (Nat.eq_of_beq_eq_true h2)
   ·exact Or.inr (Or.inl h2)
   ·exact Or.inr (Or.inr ⟨Nat.le_of_ble_eq_true h2.1,h2.2⟩)
 ·rcases(h _ (hA ho)).2 with h1|h1
  ·simp only at h1;rw[hq]at h1;cases h1
  ·have h2:=h1.1.1.2;simp only[hg,List.any_eq_true]at h2;obtain⟨y,hy,h3⟩:=h2;rw[Nat.eq_of_beq_eq_true h3];exact hy
 ·rcases(h _ (hA ho)).2 with h1|h1
  ·simp only at h1;rw[hq]at h1;cases h1
  ·have h2:=h1.1.2;simp only[hd,List.all_eq_true,Bool.or_eq_true,Bool.not_eq_true']at h2;rcases h2 _ (hA ho')with h3|h3
   ·exact Nat.eq_of_beq_eq_true h3
   ·rw[hdi hd']at h3;cases h3
 ·rcases(h _ (hA ho)).2 with h1|h1
  ·simp only at h1;rw[hq]at h1;cases h1
  ·exact h1.2 j hj
end
section
variable{ty:Tag→Nat}
section
variable{P:Program}{Γ:Nat→TK}{dm:List (Nat×Nat)}{cr:List (Nat×CR)}{ops:List Oper}{s:St}{tr:List TE}{vq:List (Nat×List Prop)}{qs B q:Nat}
theorem Vn.fresh{E:Tag→Nat→Prop}{S:FuncId→List S1→List S1→Prop}(T:Vn Γ E S dm cr ops q s tr vq):Ex (fun j=>q.testBit j) tr s ops.length:=by
 intro i e hi hq he n x hl;obtain⟨o,e',vc,_,he',_,_,We,_⟩:=T.one i hi hq;rw[he]at he';simp only[oI]at he';subst he';obtain⟨p,_,_,_,hf⟩:=kO We;exact(hf n x hl).1
theorem Vn.path{E:Tag→Nat→Prop}{S:FuncId→List S1→List S1→Prop}(T:Vn Γ E S dm cr ops q s tr vq)(K:ZD ops qs B q): ∀(i:Nat),i<ops.length→q.testBit i=true→ ∀o p,ops[i]? =some o→iF (eP (fun j=>q.testBit j) tr s i) ops o=some p→ ∀e,e∈p→
  ∀k o',q.testBit k=true→ops[k]? =some o'→o'.dst=some e.1→ ∀D:Nat→Prop,(∀i o,D i→ops[i]? =some o→ ∀j,j∈cB o→D j)→(∀j,j∈cB o→D j)→D k:=by
 intro i;induction i using Nat.strongRecOn with
 |_ i ih=>
  intro hi C8 o p ho hg e he k o' MG hok hdk D hD hE;have yX:k<ops.length:=(List.getElem?_eq_some_iff.1 hok).1;unfold iF at hg;split at hg
  ·simp at hg;subst hg;simp at he
  ·rename_i j x hgd;have hje:=K.guard i o j x C8 ho hgd;have hji:=K.back i o ho j hje;split at hg
   case h_2=>cases hg
   rename_i qj Ym;split at hg
   case h_2=>cases hg
   rename_i d Yd;have base:e.1=d→D k:=by
    intro hed;have:j=k:=K.dist k o' j qj d MG hok Ym (by rw[hdk,hed]) Yd;rw[←this];exact hE j hje
   split at hg
   ·simp only[oI]at hg;subst hg;simp only[List.mem_singleton]at he;exact base (by rw[he])
   ·rename_i p' b yH;simp only[oI]at hg;subst hg;rcases List.mem_cons.1 he with h|h
    ·exact base (by rw[h])
    ·by_cases Oh:q.testBit j=true
     ·obtain⟨q2,ej,vcj,Md,hej,ZE,_,We,_⟩:=T.one j (by omega) Oh;rw[Ym]at Md;simp only[oI]at Md;subst Md;rw[Yd]at ZE;simp only[oI]at ZE;subst ZE;have ZF:look (eP (fun j=>q.testBit j) tr s i).sl ej.d=some ej.v:=by
       refine lE hji Oh hej fun j' e' h1 h2 h3 h4=> ?_;obtain⟨q',e2,_,Zj,FE,hd2,_⟩:=T.one j' (by omega) h2;rw[h3]at FE;simp only[oI]at FE;subst FE;exact K.dist j _ j' q' ej.d Oh Ym Zj Yd (by rw[hd2,h4])
      rw[ZF]at yH;simp only[oI]at yH;obtain⟨pj,hgj,ga,eD,_⟩:=kO We;have hpj:pj=p':=by
       by_cases hnil:pj= []
       ·exact absurd yH (ga hnil _ _)
       ·obtain⟨x',hx'⟩:=(eD hnil).1;rw[hx']at yH;simp only[SV.cond.injEq]at yH;exact yH.1
      subst hpj;exact ih j hji (by omega) Oh _ pj Ym hgj e h k o' MG hok hdk D hD (hD j _ (hE j hje) Ym)
     ·
      exfalso;have ZF:look (eP (fun j=>q.testBit j) tr s i).sl d=look s.sl d:=by
       refine oY fun j' e' h1 h2 h3 h4=> ?_;obtain⟨q',e2,_,Zj,FE,hd2,_⟩:=T.one j' (by omega) h2;rw[h3]at FE;simp only[oI]at FE;subst FE;have:=K.dist j' q' j qj d h2 Zj Ym (by rw[hd2,h4]) Yd;subst this;exact Oh h2
      rw[ZF]at yH;obtain⟨q2,ek,vck,Md,hek,ZG,hnm,_,_⟩:=T.one k yX MG;rw[hok]at Md;simp only[oI]at Md;subst Md;rw[hdk]at ZG;simp only[oI]at ZG;rw[List.any_eq_false]at hnm;refine hnm (d, .cond p' (.a (.lit (.bool b)))) (n7 (dO yH)) ?_;simp only[SV.mentions,List.any_eq_true];exact⟨e,h,by rw[ZG];simp⟩
   ·cases hg
theorem MH(C: ∀t,cT P t (Γ t))(T:Vn Γ (PR P ty) (Sound ty P) dm cr ops q s tr vq)(K:ZD ops qs B q)(hv: ∀x,x∈vq→q.testBit x.1=true→x.1<ops.length→ ∀p,p∈x.2→p){zb:cD}{Q:Exit→Act→World→Prop}{D:Nat→Bool}(sU: ∀i,D i=true→q.testBit i=true)(ZH: ∀i,D i=true→i<ops.length)
  (Jf: ∀i o,(B.testBit i=true∨D i=true)→ops[i]? =some o→ ∀j,j∈cB o→(B.testBit j=true∨D j=true))
  {i:Nat}(C8:q.testBit i=true)(Ks:D i=false){o:Oper}(ho:ops[i]? =some o)(hE: ∀j,j∈cB o→(B.testBit j=true∨D j=true)){a:Act}{w:World}(iv:Inv ty zb (eP D tr s ops.length) a w):
  gN P ops.toArray o a w (fun a' w'=>Inv ty zb (eP (fun j=>D j||j==i) tr s ops.length) a' w') Q:=by
 have hi:i<ops.length:=(List.getElem?_eq_some_iff.1 ho).1;obtain⟨o',e,vc,ho',he,hd,hnm,hq,YX⟩:=T.one i hi C8;rw[ho]at ho';simp only[oI]at ho';subst ho';have hfr:=T.fresh;have Oi: ∀{k},q.testBit k=true→k<ops.length→(B.testBit k=true∨D k=true)→D k=true:=by
  intro k hk yX h;rcases h with h|h
  ·rw[K.kK k yX hk]at h;cases h
  ·exact h
 have aep: ∀{x},((HM ops).getD i 0).testBit x=true→(B.testBit x=true∨D x=true):=fun h=>D8 (D:=fun j=>B.testBit j=true∨D j=true) K.back Jf i o ho hE _ h;have ab0: ∀{x},((HM ops).getD i 0).testBit x=true→x<i:=fun h=>D8 (D:=fun j=>j<i) K.back (fun a b hab hb j hj=>Nat.lt_trans (K.back a b hb j hj) hab) i o ho (fun j hj=>K.back i o ho j hj) _ h;have hdist: ∀{j e'},j<ops.length→q.testBit j=true→tr[j]? =some e'→ ∃q,ops[j]? =some q∧q.dst=some e'.d:=by
  intro j e' hj Ym he';obtain⟨q,e2,_,Zj,FE,hd2,_⟩:=T.one j hj Ym;rw[he']at FE;simp only[oI]at FE;subst FE;exact⟨q,Zj,hd2⟩
 have Kt: ∀{j j':Nat} {e1 e2:TE},j<ops.length→j'<ops.length→q.testBit j=true→q.testBit j'=true→tr[j]? =some e1→tr[j']? =some e2→e2.d=e1.d→j'=j:=by
  intro j j' e1 e2 h1 h2 g1 g2 h3 h4 h5;obtain⟨q1,p1,p2⟩:=hdist h1 g1 h3;obtain⟨q2,p3,p4⟩:=hdist h2 g2 h4;exact K.dist j q1 j' q2 e1.d g1 p1 p3 p2 (by rw[p4,h5])
 have agree: ∀t,(∀k o',k<ops.length→q.testBit k=true→ops[k]? =some o'→o'.dst=some t→k=i∨(k<i∧D k=true)∨(i<k∧D k=false))→look (eP (fun j=>q.testBit j) tr s i).sl t=look (eP D tr s ops.length).sl t:=by
  intro t ht;by_cases hex: ∃k e',k<i∧D k=true∧tr[k]? =some e'∧e'.d=t
  ·obtain⟨k,e',hk,wL,he',rfl⟩:=hex;rw[lE hk (sU k wL) he' fun j' e2 h1 h2 h3 h4=>Kt (by omega) (by omega) (sU k wL) h2 he' h3 h4,lE (by omega) wL he' fun j' e2 h1 h2 h3 h4=>Kt (by omega) h1 (sU k wL) (sU j' h2) he' h3 h4]
  ·rw[oY (fun k e' hk MG he' hdt=>by
      obtain⟨q',h1,h2⟩:=hdist (by omega) MG he';rcases ht k q' (by omega) MG h1 (by rw[h2,hdt])with h|h|h
      ·omega
      ·exact hex ⟨k,e',hk,h.2,he',hdt⟩
      ·omega),
    oY (fun k e' hk wL he' hdt=>by
     obtain⟨q',h1,h2⟩:=hdist hk (sU k wL) he';rcases ht k q' hk (sU k wL) h1 (by rw[h2,hdt])with h|h|h
     ·subst h;rw[Ks]at wL;cases wL
     ·exact hex ⟨k,e',h.1,h.2,he',hdt⟩
     ·rw[h.2]at wL;cases wL)]
 obtain⟨p,kM,ga,eD,JJ⟩:=kO hq;have Oj: ∀x,x∈p→look (eP (fun j=>q.testBit j) tr s i).sl x.1=look (eP D tr s ops.length).sl x.1:=by
  intro x hx;refine agree x.1 fun k o2 yX MG QV hd2=>Or.inr (Or.inl ⟨?_,Oi MG yX ?_⟩)
  ·exact T.path K i hi C8 o p ho kM x hx k o2 MG QV hd2 (fun j=>j<i) (fun a b hab hb j hj=>Nat.lt_trans (K.back a b hb j hj) hab) (fun j hj=>K.back i o ho j hj)
  ·exact T.path K i hi C8 o p ho kM x hx k o2 MG QV hd2 (fun j=>B.testBit j=true∨D j=true) Jf hE
 have tB:iF (eP D tr s ops.length) ops o=some p:=by
  rw[←kM];unfold iF;split
  ·rfl
  ·rename_i j x hgd;split
   ·rename_i q Oh;split
    ·rename_i d Vj;have hmem: ∃y,(d,y)∈p:=by
      unfold iF at kM;rw[hgd]at kM;dsimp only at kM;rw[Oh]at kM;dsimp only at kM;rw[Vj]at kM;dsimp only at kM;split at kM
      ·simp only[oI]at kM;exact⟨x,by rw[←kM];simp⟩
      ·simp only[oI]at kM;exact⟨x,by rw[←kM];simp⟩
      ·cases kM
     obtain⟨y,hy⟩:=hmem;rw[←Oj (d,y) hy]
    ·rfl
   ·rfl
 have hfresh:fresh (eP D tr s ops.length).hp e.os=true:=by
  refine J1 fun n x hl=> ?_;cases Md:look (eP D tr s ops.length).hp n with
  |none=>exact⟨rfl,(JJ n x hl).2⟩
  |some y=>
   exfalso;have hpi:=hfr i e hi C8 he n x hl;rcases lF Md with h| ⟨j,e',hj,MI,he',h⟩
   ·have:=vE (D:=fun j=>q.testBit j) hfr (fun _ h=>h) (i:=i) (by omega) h;rw[hpi]at this;cases this
   ·have hji:j≠i:=by rintro rfl;rw[Ks]at MI;cases MI
    by_cases hlt:j<i
    ·have:=vF (D:=fun j=>q.testBit j) hfr (fun _ h=>h) (i:=i) (by omega) hlt (sU j MI) he' h;rw[hpi]at this;cases this
    ·have h2:=hfr j e' hj (sU j MI) he' n y h;have:=vF (D:=fun j=>q.testBit j) hfr (fun _ h=>h) (i:=j) (by omega) (j:=i) (by omega) C8 he hl;rw[h2]at this;cases this
 have ab1:((eP D tr s ops.length).sl.any fun x=>x.2.mentions e.d)=false:=by
  rw[List.any_eq_false];intro x hx hm;rcases HP hx with h| ⟨j,e',hj,MI,he',rfl⟩
  ·rw[List.any_eq_false]at hnm;exact hnm x (n7 h) hm
  ·obtain⟨qq,e2,Y9,Oh,FE,hd2,_,We,_⟩:=T.one j hj (sU j MI);rw[he']at FE;simp only[oI]at FE;subst FE;obtain⟨pj,hgj,hj0,VY,_⟩:=kO We;by_cases hnil:pj= []
   ·cases hx2:e'.v with
    |cond q y=>exact hj0 hnil _ _ hx2
    |one y=>simp[hx2,SV.mentions]at hm
    |wK y=>simp[hx2,SV.mentions]at hm
   ·obtain⟨y,hy⟩:=(VY hnil).1;simp only[hy,SV.mentions,List.any_eq_true]at hm;obtain⟨z,hz,hzd⟩:=hm;have hzd:=Nat.eq_of_beq_eq_true hzd;have h4:=T.path K j hj (sU j MI) qq pj Oh hgj z hz i o C8 ho (by rw[hd,hzd]) (fun j=>B.testBit j=true∨D j=true) Jf (Jf j qq (Or.inr MI) Oh);have:=Oi C8 hi h4;rw[Ks]at this;cases this
 have hdm:e.v.mentions e.d=false:=by
  by_cases hnil:p= []
  ·cases hx2:e.v with
   |cond q y=>exact absurd hx2 (ga hnil _ _)
   |one y=>rfl
   |wK y=>rfl
  ·obtain⟨⟨y,hy⟩,_,hne⟩:=eD hnil;rw[hy];simp only[SV.mentions];rw[List.any_eq_false];intro z hz hb;exact hne e.d hd z hz (Nat.eq_of_beq_eq_true hb)
 have hD2: ∀j,(fun j=>D j||j==i) j=true→q.testBit j=true:=by
  intro j hj;simp only[Bool.or_eq_true,beq_iff_eq]at hj;rcases hj with h|rfl
  ·exact sU j h
  ·exact C8
 have behind: ∀a' w',Inv ty zb (app (eP D tr s ops.length) e) a' w'→Inv ty zb (eP (fun j=>D j||j==i) tr s ops.length) a' w':=by
  intro a' w' oJ;obtain⟨env,g⟩:=oJ.good;refine⟨by rw[oJ.size,B3];show(eP D tr s ops.length).n=s.n;exact B3 _,oJ.defers,oJ.kept,oJ.C1,env,g.congr ?_ ?_⟩
  ·intro t v hl;show look ((e.d,e.v)::(eP D tr s ops.length).sl) t=some v
   by_cases ht:t=e.d
   ·subst ht;rw[lE hi (by simp) he fun j' e2 h1 h2 h3 h4=>Kt hi h1 C8 (hD2 j' h2) he h3 h4]at hl;rw[look_eq];exact hl
   ·rw[bB ht];by_cases hex: ∃k e',k<ops.length∧D k=true∧tr[k]? =some e'∧e'.d=t
    ·obtain⟨k,e',hk,wL,he',rfl⟩:=hex;rw[lE hk (by simp[wL]) he' fun j' e2 h1 h2 h3 h4=>Kt hk h1 (sU k wL) (hD2 j' h2) he' h3 h4]at hl;rw[lE hk wL he' fun j' e2 h1 h2 h3 h4=>Kt hk h1 (sU k wL) (sU j' h2) he' h3 h4];exact hl
    ·rw[oY fun k e' hk wL he' hdt=>by
      simp only[Bool.or_eq_true,beq_iff_eq]at wL;rcases wL with h|rfl
      ·exact hex ⟨k,e',hk,h,he',hdt⟩
      ·rw[he]at he';simp only[oI]at he';exact ht (by rw[he',hdt])]at hl
     rw[oY fun k e' hk wL he' hdt=>hex ⟨k,e',hk,wL,he',hdt⟩];exact hl
  ·intro n;show look (eP (fun j=>D j||j==i) tr s ops.length).hp n=look (e.os++(eP D tr s ops.length).hp) n
   cases hl:look e.os n with
   |some x=>
    rw[cJ hl];exact vF hfr hD2 (Nat.le_refl _) hi (by simp) he hl
   |none=>
    rw[bJ hl];cases hx:look (eP (fun j=>D j||j==i) tr s ops.length).hp n with
    |some y=>
     rcases lF hx with h| ⟨j,e',hj,MI,he',h⟩
     ·exact(vE hfr sU (Nat.le_refl _) h).symm
     ·have hji:j≠i:=by
       rintro rfl;rw[he]at he';simp only[oI]at he';subst he';rw[hl]at h;cases h
      have MI:D j=true:=by
       simp only[Bool.or_eq_true,beq_iff_eq]at MI;exact MI.resolve_right hji
      exact(vF hfr sU (Nat.le_refl _) hj MI he' h).symm
    |none=>
     cases hy:look (eP D tr s ops.length).hp n with
     |none=>rfl
     |some y=>
      rcases lF hy with h| ⟨j,e',hj,MI,he',h⟩
      ·rw[vE hfr hD2 (Nat.le_refl _) h]at hx;cases hx
      ·rw[vF hfr hD2 (Nat.le_refl _) hj (by simp[MI]) he' h]at hx;cases hx
 have hput:St.put ⟨(eP D tr s ops.length).n,(eP D tr s ops.length).sl,e.os++(eP D tr s ops.length).hp⟩ o.dst e.v=app (eP D tr s ops.length) e:=by
  rw[hd];simp only[St.put,ab1];rfl
 by_cases hw:Region.wanted o (yielded ops.toArray a.tmps)=true
 ·have hh:holds a.tmps p:=by
   obtain⟨env,g⟩:=iv.good;unfold iF at tB;split at tB
   ·simp at tB;subst tB;intro y hy;simp at hy
   ·rename_i j x hgd;split at tB
    ·rename_i q Oh;split at tB
     ·rename_i d Vj;have hwd:=(qv (ops:=ops.toArray) hgd (by simpa using Oh) Vj a.tmps).1 hw;split at tB
      ·simp only[oI]at tB;subst tB;intro y hy;simp at hy;subst hy;exact hwd
      ·rename_i p' b hl;simp only[oI]at tB;subst tB;intro y hy;rcases List.mem_cons.1 hy with rfl|hy
       ·exact hwd
       ·exact(AE g hl hwd).1 y hy
      ·cases tB
     ·cases tB
    ·cases tB
  obtain⟨env,g⟩:=iv.good;have WM:Compat (eP (fun j=>q.testBit j) tr s i).hp (eP D tr s ops.length).hp:=by
   intro n x y h1 h2;have h3:=Bd hfr (Nat.le_of_lt hi) (Nat.le_refl _) h1;have h4:=tX hfr sU (Nat.le_refl _) h2;rw[h3]at h4;simpa using h4
  have hmono:=Mu WM g (by rw[B3,B3]) kM tB hh (fun x hx t hxt=>agree t fun k o2 hk MG QV hd2=>by
    have ht:t∈tmpsOf o:=by
     simp only[tmpsOf,List.mem_filterMap];exact⟨x,hx,by rw[hxt]⟩
    rcases K.uses i o C8 ho t ht k o2 MG QV hd2 with h|h|h
    ·exact Or.inl h
    ·exact Or.inr (Or.inl ⟨ab0 h,Oi MG hk (aep h)⟩)
    ·refine Or.inr (Or.inr ⟨h.1,?_⟩);cases wL:D k with
     |false=>rfl
     |true=>
      have:=D8 (D:=fun j=>B.testBit j=true∨D j=true) K.back Jf k o2 QV (Jf k o2 (Or.inr wL) QV) i h.2;have:=Oi C8 hi this;rw[Ks]at this;cases this) Oj hfresh hq
  have:=JC (Q:=Q) C hmono iv (fun p hp=>hv _ YX C8 hi p hp);rw[hput]at this;exact this.mono behind
 ·unfold gN;rw[if_neg hw];have hnil:p≠ []:=by
   rintro rfl;unfold iF at kM;split at kM
   ·rename_i hgd;exact hw (by simp[Region.wanted,hgd])
   ·repeat' split at kM
    all_goals simp at kM
  obtain⟨⟨y,hy⟩,hos,_⟩:=eD hnil;have hnh: ¬holds a.tmps p:=by
   intro hh;unfold iF at kM;split at kM
   ·rename_i hgd;exact hw (by simp[Region.wanted,hgd])
   ·rename_i j x hgd;split at kM
    ·rename_i q Oh;split at kM
     ·rename_i d Vj;have hdx:(d,x)∈p:=by
       split at kM
       ·simp only[oI]at kM;rw[←kM];simp
       ·simp only[oI]at kM;rw[←kM];simp
       ·cases kM
      exact hw ((qv (ops:=ops.toArray) hgd (by simpa using Oh) Vj a.tmps).2 (hh _ hdx))
     ·cases kM
    ·cases kM
  apply behind;obtain⟨env,g⟩:=iv.good;have hlt:e.d<a.tmps.size:=by
   unfold oT at hq;have:yt (eP (fun j=>q.testBit j) tr s i) o.dst=true:=by
    cases hdk:yt (eP (fun j=>q.testBit j) tr s i) o.dst with
    |true=>rfl
    |false=>rw[hdk]at hq;simp at hq
   rw[hd]at this;rw[iv.size,B3];have:=Nat.le_of_ble_eq_true this;rw[show(eP (fun j=>q.testBit j) tr s i).n=s.n from B3 i]at this;exact this
  have ab3:=g.put (d:=e.d) hlt (v:=e.v) (u:=undef) (by rw[hy];exact⟨fun hh=>absurd hh hnh,fun _=>rfl⟩) hdm;refine⟨by rw[gr];exact iv.size,by rw[put_defers];exact iv.defers,iv.kept,iv.C1,env,?_⟩;rw[hd];have aer:(eP D tr s ops.length).put (some e.d) e.v=app (eP D tr s ops.length) e:=by
   simp only[St.put,ab1,app,hos];rfl
  rw[aer]at ab3;exact ab3
end
theorem yZ{ops:List Oper}{B q Kr:Nat}{D:Nat→Bool}(sU: ∀i,D i=true→q.testBit i=true)(ZI: ∀i,D i=true→i<ops.length)(hb: ∀i o,ops[i]? =some o→ ∀j,j∈cB o→j<i)
  (hc: ∀i o,D i=true→ops[i]? =some o→ ∀j,j∈cB o→(B.testBit j=true∨D j=true))(Ok: ∀i,q.testBit i=true→Kr.testBit i=true→D i=true):
  ∀(m i d:Nat),i+m=ops.length→(∀j,d.testBit j=(decide (j<i)&&D j))→ ∃d',d'∈Eu ops B q Kr m i d∧ ∀j,d'.testBit j=D j
 |0,i,d,him,hd=>by
  refine⟨d,by simp[Eu],fun j=> ?_⟩;rw[hd j];cases hj:D j with
  |false=>simp
  |true=>have:=ZI j hj;simp;omega
 |m+1,i,d,him,hd=>by
  have hstep:D i=false→ ∀j,d.testBit j=(decide (j<i+1)&&D j):=by
   intro Ks j;rw[hd j];by_cases hji:j=i
   ·subst hji;simp[Ks]
   ·have:decide (j<i)=decide (j<i+1):=by
     apply decide_eq_decide.2;omega
    rw[this]
  simp only[Eu];split
  ·rename_i hq;have Ks:D i=false:=by
    cases h:D i with
    |false=>rfl
    |true=>rw[sU i h]at hq;cases hq
   exact yZ sU ZI hb hc Ok m (i+1) d (by omega) (hstep Ks)
  ·rename_i hq;cases Ks:D i with
   |true=>
    have hlt:=ZI i Ks;have ho:=List.getElem?_eq_getElem hlt;have hcond:(((ops[i]?).map fun o=>(cB o).all fun j=>B.testBit j||d.testBit j).getD false)=true:=by
     rw[ho];simp only[Option.map_some,Option.getD_some,List.all_eq_true,Bool.or_eq_true];intro j hj;rcases hc i _ Ks ho j hj with h|h
     ·exact Or.inl h
     ·exact Or.inr (by rw[hd j,h];have:=hb i _ ho j hj;simp[this])
    obtain⟨d',h1,h2⟩:=yZ sU ZI hb hc Ok m (i+1) (d|||2^i) (by omega) (fun j=>by
     rw[Nat.testBit_or,Nat.testBit_two_pow,hd j];by_cases hji:i=j
     ·subst hji;simp[Ks]
     ·have:decide (j<i)=decide (j<i+1):=by
       apply decide_eq_decide.2;omega
      simp[hji,this])
    refine⟨d',?_,h2⟩;rw[hcond];exact List.mem_append_left _ h1
   |false=>
    obtain⟨d',h1,h2⟩:=yZ sU ZI hb hc Ok m (i+1) d (by omega) (hstep Ks);refine⟨d',List.mem_append_right _ ?_,h2⟩;split
    ·rename_i hm;have:=Ok i hq hm;rw[Ks]at this;cases this
    ·exact h1
section
variable{P:Program}{Γ:Nat→TK}{dm:List (Nat×Nat)}{cr:List (Nat×CR)}{ks hs:List Nat}{ops:List Oper}{n0 qs:Nat}
theorem n8: ∀{c:gd} {s:St} {tr:List TE} {vq acc:List (Nat×List Prop)} {lv:List (List Prop×St)},jH P ty Γ dm cr ks hs ops n0 c s tr vq acc=some lv→ ∀d t sub,(d,t,sub)∈c.Og→
  ∃o vc s2 l1,ops[t]? =some o∧step P ty Γ dm cr ops (Kp d 0 tr s) o=some (vc,s2)∧jH P ty Γ dm cr ks hs ops n0 sub s2 [] [] (MF t vc (Kq d vq acc))=some l1∧ ∀x,x∈l1→x∈lv
 | .br d0 t0 ab4 next,s,tr,vq,acc,lv,h,d,t,sub,hm=>by
   simp only[jH]at h;split at h
   case h_2=>cases h
   rename_i s1 o hs1 ho;have hs1:=mO hs1;subst hs1;split at h
   case h_2=>cases h
   rename_i vc s2 hst;split at h
   case h_2=>cases h
   rename_i s3 hs3;have hs3:=mO hs3;subst hs3;split at h
   case h_2=>cases h
   rename_i l1 l2 h1 h2;simp only[oI]at h;rw[eX]at h;subst h;simp only[gd.Og,List.mem_cons,pI]at hm;rcases hm with⟨rfl,rfl,rfl⟩|hm
   ·exact⟨o,vc,_,l1,ho,hst,h1,fun x hx=>List.mem_append_left _ hx⟩
   ·obtain⟨o',vc',s',l',p1,p2,p3,p4⟩:=n8 h2 d t sub hm;exact⟨o',vc',s',l',p1,p2,p3,fun x hx=>List.mem_append_right _ (p4 x hx)⟩
 | .last _,_,_,_,_,_,_,_,_,_,hm=>by simp[gd.Og]at hm
 | .ph _ _,_,_,_,_,_,_,_,_,_,hm=>by simp[gd.Og]at hm
 | .nil,_,_,_,_,_,_,_,_,_,hm=>by simp[gd.Og]at hm
theorem pL: ∀{c:gd} {s:St} {tr:List TE} {vq acc:List (Nat×List Prop)} {lv:List (List Prop×St)},jH P ty Γ dm cr ks hs ops n0 c s tr vq acc=some lv→ ∀x,x∈lv→ ∀y,y∈acc→ ∀p,p∈y.2→p∈x.1
 | .last q,s,tr,vq,acc,lv,h,x,hx,y,hy,p,hp=>by
   simp only[jH]at h
   repeat' split at h
   all_goals first
    | (cases h;done)
    |skip
   rename_i hf _ _ _ _;simp only[oI]at h;subst h;rw[List.mem_singleton]at hx;subst hx;exact Bb hf y (pK.2 (Or.inr hy)) p hp
 | .ph q c,s,tr,vq,acc,lv,h,x,hx,y,hy,p,hp=>by
   simp only[jH]at h;split at h
   ·exact pL h x hx y hy p hp
   ·cases h
 | .br d0 t0 ab4 next,s,tr,vq,acc,lv,h,x,hx,y,hy,p,hp=>by
   simp only[jH]at h;split at h
   case h_2=>cases h
   split at h
   case h_2=>cases h
   split at h
   case h_2=>cases h
   split at h
   case h_2=>cases h
   rename_i l1 l2 h1 h2;simp only[oI]at h;rw[eX]at h;subst h;rcases List.mem_append.1 hx with hx|hx
   ·exact pL h1 x hx y (tW.2 (Or.inr (pK.2 (Or.inr hy)))) p hp
   ·exact pL h2 x hx y hy p hp
 | .nil,_,_,_,_,_,h,x,hx,_,_,_,_=>by
   simp only[jH,oI]at h;subst h;cases hx
theorem vG{n:Nat}: ∀{c:gd} {B:Nat},QW ops (HM ops) (idx 0 ops) qs n B c=true→ ∀d t sub,(d,t,sub)∈c.Og→sub.S5=true∧t<n∧QW ops (HM ops) (idx 0 ops) qs n (B|||d|||2^t) sub=true∧SizeOf.sizeOf sub<SizeOf.sizeOf c
 | .br d0 t0 ab4 next,B,h,d,t,sub,hm=>by
   simp only[QW,Bool.and_eq_true]at h;simp only[gd.Og,List.mem_cons,pI]at hm;rcases hm with⟨rfl,rfl,rfl⟩|hm
   ·exact⟨h.1.1.1,Nat.le_of_ble_eq_true h.1.1.2,h.1.2,by simp only[gd.br.sizeOf_spec];omega⟩
   ·obtain⟨p1,p2,p3,p4⟩:=vG h.2 d t sub hm;exact⟨p1,p2,p3,by simp only[gd.br.sizeOf_spec];omega⟩
 | .last _,_,_,_,_,_,hm=>by simp[gd.Og]at hm
 | .ph _ _,_,_,_,_,_,hm=>by simp[gd.Og]at hm
 | .nil,_,_,_,_,_,hm=>by simp[gd.Og]at hm
theorem GA{B q:Nat}{c:gd}(h:Ic ops (HM ops) ops.length B q c=true)(K:ZD ops qs B q){D:Nat→Bool}(sU: ∀i,D i=true→q.testBit i=true)(ZI: ∀i,D i=true→i<ops.length)
  (Jf: ∀i o,(B.testBit i=true∨D i=true)→ops[i]? =some o→ ∀j,j∈cB o→(B.testBit j=true∨D j=true)){t:Nat}{o:Oper}(ho:ops[t]? =some o)(ht:B.testBit t=false)(hqt:q.testBit t=false)(hE: ∀j,j∈cB o→(B.testBit j=true∨D j=true)):
  ∃d sub,(d,t,sub)∈c.Og∧ ∀i,d.testBit i=D i:=by
 have htl:t<ops.length:=(List.getElem?_eq_some_iff.1 ho).1;simp only[Ic,List.all_eq_true,List.mem_range,Bool.or_eq_true]at h;obtain⟨d,h1,h2⟩:=yZ (B:=B) (q:=q) (Kr:=(HM ops).getD t 0) sU ZI K.back (fun i o hi=>Jf i o (Or.inr hi)) (fun i C8 hm=>by
  have:=D8 (D:=fun j=>B.testBit j=true∨D j=true) K.back Jf t o ho hE i hm;rcases this with h|h
  ·have hil:i<ops.length:=by
    have:=D8 (D:=fun j=>j<t) K.back (fun a b hab hb j hj=>Nat.lt_trans (K.back a b hb j hj) hab) t o ho (fun j hj=>K.back t o ho j hj) _ hm;omega
   rw[K.kK i hil C8]at h;cases h
  ·exact h) ops.length 0 0 (by omega) (fun j=>by simp)
 rcases h t htl with(h3|h3)|h3
 ·rw[ht]at h3;cases h3
 ·rw[hqt]at h3;cases h3
 ·have h4:=h3 d h1;simp only[Bool.not_eq_true',List.any_eq_true,Bool.and_eq_true]at h4;rcases h4 with h4| ⟨⟨d',t',sub⟩,h5,h6,h7⟩
  ·exfalso;rw[ho]at h4;simp only[Option.map_some,Option.getD_some]at h4;have:((cB o).all fun j=>B.testBit j||d.testBit j)=true:=by
    rw[List.all_eq_true];intro j hj;rw[Bool.or_eq_true,h2 j];exact hE j hj
   rw[this]at h4;cases h4
  ·have h6:=Nat.eq_of_beq_eq_true h6;have h7:=Nat.eq_of_beq_eq_true h7;simp only at h6 h7;subst h6;subst h7;exact⟨d',sub,h5,h2⟩
theorem Ol{B q:Nat}{c:gd}(aes:Ic ops (HM ops) ops.length B q c=true)(K:ZD ops qs B q)(Ku: ∀i o,B.testBit i=true→ops[i]? =some o→ ∀j,j∈cB o→B.testBit j=true)
  (We: ∀i o,q.testBit i=true→ops[i]? =some o→ ∀j,j∈cB o→(B.testBit j=true∨q.testBit j=true))(hnot:((List.range ops.length).all fun i=>B.testBit i||q.testBit i)=false):
  ∃d t sub,(d,t,sub)∈c.Og∧(∀i,d.testBit i=(q.testBit i&&decide (i<ops.length)))∧ ∀o,ops[t]? =some o→ ∀j,j∈cB o→(B.testBit j=true∨d.testBit j=true):=by
 have: ∃i,i<ops.length∧B.testBit i=false∧q.testBit i=false∧ ∀j,j<i→B.testBit j=true∨q.testBit j=true:=by
  rw[List.all_eq_false]at hnot;obtain⟨i,hi,hn⟩:=hnot;rw[List.mem_range]at hi;simp only[Bool.or_eq_true,not_or,Bool.not_eq_true]at hn;induction i using Nat.strongRecOn with
  |_ i ih=>
   by_cases hl: ∀j,j<i→B.testBit j=true∨q.testBit j=true
   ·exact⟨i,hi,hn.1,hn.2,hl⟩
   ·have: ∃j,j<i∧B.testBit j=false∧q.testBit j=false:=by
     apply Classical.byContradiction;intro hno;apply hl;intro j hj;cases hb:B.testBit j with
     |true=>exact Or.inl rfl
     |false=>
      cases hq:q.testBit j with
      |true=>exact Or.inr rfl
      |false=>exact absurd ⟨j,hj,hb,hq⟩ hno
    obtain⟨j,hj,h1,h2⟩:=this;exact ih j hj (by omega) ⟨h1,h2⟩
 obtain⟨i,hi,h1,h2,h3⟩:=this;have ho:=List.getElem?_eq_getElem hi;obtain⟨d,sub,h4,h5⟩:=GA (D:=fun j=>q.testBit j&&decide (j<ops.length)) aes K (fun j hj=>by simp at hj;exact hj.1) (fun j hj=>by simp at hj;exact hj.2)
  (fun a b hab hb j hj=>by
   have hal:a<ops.length:=(List.getElem?_eq_some_iff.1 hb).1;have hjl:j<ops.length:=Nat.lt_trans (K.back a b hb j hj) hal;rcases hab with h|h
   ·exact Or.inl (Ku a b h hb j hj)
   ·simp at h;rcases We a b h.1 hb j hj with h|h
    ·exact Or.inl h
    ·exact Or.inr (by simp[h,hjl])) ho h1 h2 (fun j hj=>by
   have hji:=K.back i _ ho j hj;rcases h3 j hji with h|h
   ·exact Or.inl h
   ·exact Or.inr (by simp[h];omega))
 refine⟨d,i,sub,h4,h5,fun o ho' j hj=> ?_⟩;have hji:=K.back i _ ho' j hj;rcases h3 j hji with h|h
 ·exact Or.inl h
 ·exact Or.inr (by rw[h5 j,h];simp;omega)
theorem Ig{B d t q:Nat}(K:ZD ops qs B q)(Ku: ∀i o,B.testBit i=true→ops[i]? =some o→ ∀j,j∈cB o→B.testBit j=true)(hd: ∀i o,d.testBit i=true→ops[i]? =some o→ ∀j,j∈cB o→(B.testBit j=true∨d.testBit j=true))
  (ht: ∀o,ops[t]? =some o→ ∀j,j∈cB o→(B.testBit j=true∨d.testBit j=true)): ∀i o,(B|||d|||2^t).testBit i=true→ops[i]? =some o→ ∀j,j∈cB o→(B|||d|||2^t).testBit j=true:=by
 intro i o hi ho j hj;simp only[Nat.testBit_or,Nat.testBit_two_pow,Bool.or_eq_true,decide_eq_true_eq]at hi ⊢;rcases hi with(h|h)|h
 ·exact Or.inl (Or.inl (Ku i o h ho j hj))
 ·exact Or.inl (hd i o h ho j hj)
 ·subst h;exact Or.inl (ht o ho j hj)
theorem Ey: ∀(N:Nat) (p:gd),SizeOf.sizeOf p≤N→p.S5=true→ ∀(B:Nat) (s:St) (tr:List TE) (vq acc:List (Nat×List Prop)) (lv:List (List Prop×St)),(∀i o,ops[i]? =some o→ ∀j,j∈cB o→j<i)→(∀i o,B.testBit i=true→ops[i]? =some o→ ∀j,j∈cB o→B.testBit j=true)→
  QW ops (HM ops) (idx 0 ops) qs ops.length B p=true→jH P ty Γ dm cr ks hs ops n0 p s tr vq acc=some lv→lv≠ []
 |N, .last q,_,_,B,s,tr,vq,acc,lv,hb,Ku,hok,h=>by
  simp only[jH]at h
  repeat' split at h
  all_goals first
   | (cases h;done)
   |skip
  simp only[oI]at h;rw[←h];simp
 |0, .ph q c,hN,_,_,_,_,_,_,_,_,_,_,_=>by simp only[gd.ph.sizeOf_spec]at hN;omega
 |N+1, .ph q c,hN,_,B,s,tr,vq,acc,lv,hb,Ku,hok,h=>by
  simp only[QW,Bool.and_eq_true,Bool.not_eq_true']at hok;have K:=Ie hb hok.1.1.1;obtain⟨d,t,sub,hm,hd,ht⟩:=Ol hok.1.1.2 K Ku K.clq hok.1.2;simp only[jH]at h;split at h
  case h_2=>cases h
  rename_i tr' vq' hr;obtain⟨o,vc,s2,l1,h1,h2,h3,h4⟩:=n8 h d t sub hm;obtain⟨p1,p2,p3,p4⟩:=vG hok.2 d t sub hm;have hsz:SizeOf.sizeOf sub≤N:=by simp only[gd.ph.sizeOf_spec]at hN;omega
  have:=Ey N sub hsz p1 (B|||d|||2^t) s2 [] [] _ l1 hb (Ig K Ku (fun i o hi ho j hj=>by
   rw[hd i]at hi;simp only[Bool.and_eq_true,decide_eq_true_eq]at hi;rcases K.clq i o hi.1 ho j hj with h|h
   ·exact Or.inl h
   ·exact Or.inr (by rw[hd j,h];have:=K.back i o ho j hj;simp;omega)) ht) p3 h3
  intro hnil;cases l1 with
  |nil=>exact this rfl
  |cons x r=>have:=h4 x (by simp);rw[hnil]at this;cases this
 |_, .br _ _ _ _,_,hp,_,_,_,_,_,_,_,_,_,_=>by cases hp
 |_, .nil,_,hp,_,_,_,_,_,_,_,_,_,_=>by cases hp
variable{zb:cD}{Q:Exit→Act→World→Prop}
theorem GB(X:Ctx P ty Γ){B q:Nat}{s:St}{tr:List TE}{vq:List (Nat×List Prop)}(T:Vn Γ (PR P ty) (Sound ty P) dm cr ops q s tr vq)(K:ZD ops qs B q)(hv: ∀x,x∈vq→q.testBit x.1=true→x.1<ops.length→ ∀p,p∈x.2→p)(Ku: ∀i o,B.testBit i=true→ops[i]? =some o→ ∀j,j∈cB o→B.testBit j=true)
  (fin: ∀a w,(∀i,i<ops.length→B.testBit i=true∨q.testBit i=true)→Inv ty zb (eP (fun j=>q.testBit j) tr s ops.length) a w→Q .normal a w)
  (gS: ∀(fuel:Nat) (D:Nat→Bool) (listed:Array Bool) (i:Nat) (o:Oper) (a:Act) (w:World),listed.size=ops.length→(∀j,j<ops.length→listed.getD j false=(B.testBit j||D j))→(∀i,D i=true→q.testBit i=true)→(∀i,D i=true→i<ops.length)→
   (∀i o,(B.testBit i=true∨D i=true)→ops[i]? =some o→ ∀j,j∈cB o→(B.testBit j=true∨D j=true))→ops[i]? =some o→B.testBit i=false→q.testBit i=false→(∀j,j∈cB o→(B.testBit j=true∨D j=true))→cnt ops.length (fun j=>(listed.setIfInBounds i true).getD j false)≤fuel→
   Inv ty zb (eP D tr s ops.length) a w→gN P ops.toArray o a w (wpAny P .any ops.toArray Q fuel (listed.setIfInBounds i true)) Q):
  ∀(fuel:Nat) (D:Nat→Bool) (listed:Array Bool) (a:Act) (w:World),listed.size=ops.length→(∀j,j<ops.length→listed.getD j false=(B.testBit j||D j))→(∀i,D i=true→q.testBit i=true)→(∀i,D i=true→i<ops.length)→
   (∀i o,(B.testBit i=true∨D i=true)→ops[i]? =some o→ ∀j,j∈cB o→(B.testBit j=true∨D j=true))→cnt ops.length (fun j=>listed.getD j false)≤fuel→Inv ty zb (eP D tr s ops.length) a w→wpAny P .any ops.toArray Q fuel listed a w:=by
 have all: ∀{D:Nat→Bool} {listed:Array Bool} {a:Act} {w:World},listed.size=ops.length→(∀j,j<ops.length→listed.getD j false=(B.testBit j||D j))→(∀i,D i=true→q.testBit i=true)→Region.ready .any ops.toArray listed= []→Inv ty zb (eP D tr s ops.length) a w→Q .normal a w:=by
  intro D listed a w hl hL sU hnil iv;have aet: ∀i,i<ops.length→listed.getD i false=true:=by
   intro i;induction i using Nat.strongRecOn with
   |_ i ih=>
    intro hi;cases hd:listed.getD i false with
    |true=>rfl
    |false=>
     have:i∈Region.ready .any ops.toArray listed:=(AO hl).2 ⟨ops[i],List.getElem?_eq_getElem hi,hd,fun j hj=>by
      have:=K.back i _ (List.getElem?_eq_getElem hi) j hj;exact ih j this (by omega)⟩
     rw[hnil]at this;cases this
  have hBD: ∀i,i<ops.length→B.testBit i=true∨D i=true:=by
   intro i hi;have:=aet i hi;rw[hL i hi,Bool.or_eq_true]at this;exact this
  refine fin a w (fun i hi=>(hBD i hi).imp id (sU i)) ?_;rw[←Bc (D:=D) fun i hi=> ?_]
  ·exact iv
  ·cases hq:q.testBit i with
   |false=>
    cases hd:D i with
    |false=>rfl
    |true=>rw[sU i hd]at hq;cases hq
   |true=>
    rcases hBD i hi with h|h
    ·rw[K.kK i hi hq]at h;cases h
    ·exact h
 intro fuel;induction fuel with
 |zero=>
  intro D listed a w hl hL sU ZH Jf hf iv;have hz:=Sp (by omega:cnt ops.length (fun i=>listed.getD i false)=0);have hnil:Region.ready .any ops.toArray listed= []:=by
   apply List.eq_nil_iff_forall_not_mem.2;intro i hi;obtain⟨o,ho,h1,_⟩:=(AO hl).1 hi;rw[hz i (List.getElem?_eq_some_iff.1 ho).1]at h1;cases h1
  exact⟨hnil,all hl hL sU hnil iv⟩
 |succ fuel ih=>
  intro D listed a w hl hL sU ZH Jf hf iv;refine⟨fun hnil=>all hl hL sU hnil iv,fun i hi=> ?_⟩;obtain⟨o,ho,hif,hE0⟩:=(AO hl).1 hi;have hin:=(List.getElem?_eq_some_iff.1 ho).1;have hE: ∀j,j∈cB o→(B.testBit j=true∨D j=true):=by
   intro j hj;have:=hE0 j hj;rw[hL j (by have:=K.back i o ho j hj;omega),Bool.or_eq_true]at this;exact this
  rw[hL i hin,Bool.or_eq_false_iff]at hif;obtain⟨hBi,Ks⟩:=hif;have ab5: ∀j,(listed.setIfInBounds i true).getD j false=(listed.getD j false||j==i):=fun j=>J2 (by omega);have hfun:(fun j=>(listed.setIfInBounds i true).getD j false)=fun j=>listed.getD j false||j==i:=funext ab5
  have WN:cnt ops.length (fun j=>(listed.setIfInBounds i true).getD j false)≤fuel:=by
   rw[hfun];have:=Wf (D:=fun i=>listed.getD i false) hin (by rw[hL i hin,hBi,Ks];rfl);omega
  unfold wpOp;rw[List.getElem?_toArray,ho];dsimp only;cases C8:q.testBit i with
  |true=>
   have hstep:=MH (Q:=Q) X.kind T K hv sU ZH Jf C8 Ks ho hE iv;refine gN.mono (fun a' w' oJ=>ih (fun j=>D j||j==i) (listed.setIfInBounds i true) a' w' (by simpa using hl) (fun j hj=> ?_) (fun j hj=> ?_) (fun j hj=> ?_) (fun a b hab hb j hj=> ?_) WN oJ) hstep
   ·rw[ab5,hL j hj,Bool.or_assoc]
   ·simp only[Bool.or_eq_true,beq_iff_eq]at hj;rcases hj with h|rfl
    ·exact sU j h
    ·exact C8
   ·simp only[Bool.or_eq_true,beq_iff_eq]at hj;rcases hj with h|rfl
    ·exact ZH j h
    ·exact hin
   ·have up: ∀{x},(B.testBit x=true∨D x=true)→(B.testBit x=true∨(D x||x==i)=true):=fun h=>h.imp id (fun h=>by simp[h]);simp only[Bool.or_eq_true,beq_iff_eq]at hab;rcases hab with h|h|rfl
    ·exact up (Jf a b (Or.inl h) hb j hj)
    ·exact up (Jf a b (Or.inr h) hb j hj)
    ·rw[ho]at hb;simp only[oI]at hb;subst hb;exact up (hE j hj)
  |false=>exact gS fuel D listed i o a w hl hL sU ZH Jf ho hBi C8 hE WN iv
theorem Kv(X:Ctx P ty Γ)(hb: ∀i o,ops[i]? =some o→ ∀j,j∈cB o→j<i): ∀(N:Nat) (p:gd),SizeOf.sizeOf p≤N→p.S5=true→ ∀(B:Nat) (s:St) (tr0:List TE) (vq0 acc:List (Nat×List Prop)) (lv:List (List Prop×St)),
  (∀i o,B.testBit i=true→ops[i]? =some o→ ∀j,j∈cB o→B.testBit j=true)→QW ops (HM ops) (idx 0 ops) qs ops.length B p=true→jH P ty Γ dm cr ks hs ops n0 p s tr0 vq0 acc=some lv→
  (∀x,x∈lv→(∀q,q∈x.1→q)∧ ∀a w,Inv ty zb x.2 a w→Q .normal a w)→
  ∀(fuel:Nat) (listed:Array Bool) (a:Act) (w:World),listed.size=ops.length→(∀j,j<ops.length→listed.getD j false=B.testBit j)→cnt ops.length (fun j=>listed.getD j false)≤fuel→Inv ty zb s a w→wpAny P .any ops.toArray Q fuel listed a w
 |N, .last q,hN,_,B,s,tr0,vq0,acc,lv,Ku,hok,h,hlv,fuel,listed,a,w,hl,hL,hf,iv=>by
  simp only[QW,Bool.and_eq_true]at hok;have K:=Ie hb hok.1;simp only[jH]at h;split at h
  case h_2=>cases h
  rename_i tr vq hr;split at h
  case h_2=>cases h
  rename_i n ZC eD hs1;have hs1:=mO hs1;split at h
  case h_2=>cases h
  rename_i sl hp vc h1 h2 h3;split at h
  case h_2=>cases h
  rename_i hcl hn;simp only[oI]at h;have T:=Vn.of hr;obtain⟨hx1,hx2⟩:=hlv (vc,⟨n0,sl,hp⟩) (by rw[←h];simp);have hmk:eP (fun j=>q.testBit j) tr s ops.length=⟨n,ZC,eD⟩:=by
   rw[hs1,yY,T.len];congr 1;funext j;rw[Nat.zero_add]
  refine GB X T K (fun x hx hq _ p hp=>hx1 p (Bb h3 x (pK.2 (Or.inl ⟨hx,hq⟩)) p hp)) Ku (fun a w _ oJ=> ?_) (fun fuel D listed i o a w _ _ _ _ _ ho hBi C8 _ _ _=> ?_) fuel (fun _=>false) listed a w hl (fun j hj=>by rw[hL j hj,Bool.or_false]) (by simp) (by simp) (fun i o hi ho j hj=>by
    rcases hi with h|h
    ·exact Or.inl (Ku i o h ho j hj)
    ·cases h) hf (by rw[Ew];exact iv)
  ·rw[hmk]at oJ;exact hx2 a w (oJ.weaken (Nat.eq_of_beq_eq_true hn).symm (jk h1) (jl h2) hcl)
  ·exfalso;have hil:=(List.getElem?_eq_some_iff.1 ho).1;have:=List.all_eq_true.1 hok.2 i (List.mem_range.2 hil);rw[hBi,C8]at this;cases this
 |0, .ph q c,hN,_,_,_,_,_,_,_,_,_,_,_,_,_,_,_,_,_,_,_=>by simp only[gd.ph.sizeOf_spec]at hN;omega
 |N+1, .ph q c,hN,_,B,s,tr0,vq0,acc,lv,Ku,hok,h,hlv,fuel,listed,a,w,hl,hL,hf,iv=>by
  simp only[QW,Bool.and_eq_true,Bool.not_eq_true']at hok;have K:=Ie hb hok.1.1.1;obtain⟨d,t,sub,hm,hd,ht⟩:=Ol hok.1.1.2 K Ku K.clq hok.1.2;simp only[jH]at h;split at h
  case h_2=>cases h
  rename_i tr vq hr;have T:=Vn.of hr;have hv: ∀x,x∈vq→q.testBit x.1=true→x.1<ops.length→ ∀p,p∈x.2→p:=by
   obtain⟨o,vc,s2,l1,h1,h2,h3,h4⟩:=n8 h d t sub hm;obtain⟨p1,p2,p3,p4⟩:=vG hok.2 d t sub hm;have hsz:SizeOf.sizeOf sub≤N:=by simp only[gd.ph.sizeOf_spec]at hN;omega
   have hne:=Ey N sub hsz p1 (B|||d|||2^t) s2 [] [] _ l1 hb (Ig K Ku (fun i o hi ho j hj=>by
    rw[hd i]at hi;simp only[Bool.and_eq_true,decide_eq_true_eq]at hi;rcases K.clq i o hi.1 ho j hj with h|h
    ·exact Or.inl h
    ·exact Or.inr (by rw[hd j,h];have:=K.back i o ho j hj;simp;omega)) ht) p3 h3
   cases l1 with
   |nil=>exact absurd rfl hne
   |cons x r=>
    intro y hy hq hyl p hp;exact(hlv x (h4 x (by simp))).1 p (pL h3 x (by simp) y (tW.2 (Or.inr (pK.2 (Or.inl ⟨hy,by rw[hd y.1,hq];simp[hyl]⟩)))) p hp)
  refine GB X T K hv Ku (fun a w hall _=> ?_) (fun fuel D listed i o a w hl hL sU ZH Jf ho hBi C8 hE WN oJ=> ?_) fuel (fun _=>false) listed a w hl (fun j hj=>by rw[hL j hj,Bool.or_false]) (by simp) (by simp) (fun i o hi ho j hj=>by
    rcases hi with h|h
    ·exact Or.inl (Ku i o h ho j hj)
    ·cases h) hf (by rw[Ew];exact iv)
  ·exfalso;have:((List.range ops.length).all fun i=>B.testBit i||q.testBit i)=true:=by
    rw[List.all_eq_true];intro i hi;rw[Bool.or_eq_true];exact hall i (List.mem_range.1 hi)
   rw[hok.1.2]at this;cases this
  ·obtain⟨d,sub,hm,hd⟩:=GA hok.1.1.2 K sU ZH Jf ho hBi C8 hE;obtain⟨o',vc,s2,l1,h1,h2,h3,h4⟩:=n8 h d i sub hm;rw[ho]at h1;simp only[oI]at h1;subst h1;obtain⟨p1,p2,p3,p4⟩:=vG hok.2 d i sub hm;have hsz:SizeOf.sizeOf sub≤N:=by simp only[gd.ph.sizeOf_spec]at hN;omega
   have hmk:Kp d 0 tr s=eP D tr s ops.length:=by
    rw[yY,T.len];exact Bc fun j _=>by rw[Nat.zero_add];exact hd j
   rw[hmk]at h2;have ab6:=Ig (d:=d) (t:=i) K Ku (fun i o hi ho j hj=>by
    rw[hd i]at hi;rw[hd j];exact Jf i o (Or.inr hi) ho j hj) (fun o2 QV j hj=>by
    rw[ho]at QV;simp only[oI]at QV;subst QV;rw[hd j];exact hE j hj)
   have hne:=Ey N sub hsz p1 (B|||d|||2^i) s2 [] [] _ l1 hb ab6 p3 h3;have YX: ∀p,p∈vc→p:=by
    cases l1 with
    |nil=>exact absurd rfl hne
    |cons x r=>
     intro p hp;exact(hlv x (h4 x (by simp))).1 p (pL h3 x (by simp) (i,vc) (tW.2 (Or.inl rfl)) p hp)
   have hstep:=vu (Q:=Q) X.kind X.one h2 oJ YX;refine gN.mono (fun a' w' iv2=>Kv X hb N sub hsz p1 (B|||d|||2^i) s2 [] [] _ l1 ab6 p3 h3 (fun x hx=>hlv x (h4 x hx)) fuel (listed.setIfInBounds i true) a' w' (by simpa using hl) (fun j hj=> ?_) WN iv2) hstep;have hin:=(List.getElem?_eq_some_iff.1 ho).1;rw[J2 (by omega),hL j hj];simp only[Nat.testBit_or,Nat.testBit_two_pow,hd j];by_cases hji:j=i
   ·subst hji;simp
   ·have: ¬i=j:=fun e=>hji e.symm;simp[hji,this]
 |_, .br _ _ _ _,_,hp,_,_,_,_,_,_,_,_,_,_,_,_,_,_,_,_,_,_=>by cases hp
 |_, .nil,_,hp,_,_,_,_,_,_,_,_,_,_,_,_,_,_,_,_,_,_=>by cases hp
end
def GC(x:List Prop×St):List (List Prop×St)→Prop
 | []=>True
 |y::r=>y=x∧GC x r
theorem GC.out{x:List Prop×St}: ∀{l:List (List Prop×St)},GC x l→ ∀y,y∈l→y=x
 |_::_,h,y,hy=>by
  rcases List.mem_cons.1 hy with rfl|hy
  ·exact h.1
  ·exact GC.out h.2 y hy
section
variable{P:Program}{Γ:Nat→TK}{zb:cD}{Q:Post}{st:St}
theorem S6(X:Ctx P ty Γ)(dm:List (Nat×Nat))(cr:List (Nat×CR))(ks hs:List Nat)(qs:Nat)(pl:gd){id:Nat}{ops:List Oper}{vc:List Prop}{st':St}{rest:List (List Prop×St)}(hm:P.follows .mixedOrders=true)(hc:WK ops qs pl=true)(h:jH P ty Γ dm cr ks hs ops st.n pl st [] [] []=some ((vc,st')::rest))(he:GC (vc,st') rest)(hv:mP vc)(k:Q .normal st'):
  W P ty zb (.region id ops.toArray true) Q st:=by
 intro a w iv;simp only[WK,Bool.and_eq_true]at hc;have hb:=abY hc.1.1;refine wp_region_any hm ?_;have hz: ∀i,(Array.replicate ops.toArray.size false).getD i false=false:=by
  intro i;rw[Array.getD_eq_getD_getElem?,Array.getElem?_replicate];split<;>rfl
 refine Kv (zb:=zb) (Q:=Cw ty zb Q) X hb _ pl (Nat.le_refl _) hc.1.2 0 st [] [] [] _ (fun i o hi=>by simp at hi) hc.2 h (fun x hx=> ?_) _ _ a _ (by simp) (fun j hj=>by rw[hz];simp) ?_ ?_
 ·have hx:x=(vc,st'):=by
   rcases List.mem_cons.1 hx with rfl|hx
   ·rfl
   ·exact he.out x hx
  subst hx;exact⟨hv.out,fun a w oJ=>⟨st',oJ,k⟩⟩
 ·unfold cnt;refine Nat.le_trans (List.length_filter_le _ _) ?_;simp
 ·obtain⟨env,g⟩:=iv.good;have hdr:Below w.heap.size w w.drew:=(Below.refl _ _).drew;refine⟨iv.size,iv.defers,iv.kept.trans (je hdr iv.kept.size),iv.C1,env,?_⟩;have:=g.grow (os:= []) (w':=w.drew) (env':=env) iv.kept.size rfl (kL.none hdr);exact this
end
section
variable{P:Program}{Γ:Nat→TK}{zb:cD}{Q:Post}{st:St}
theorem S7(X:Ctx P ty Γ)(dm:List (Nat×Nat))(cr:List (Nat×CR))(ks hs:List Nat)(qs:Nat)(pl:gd)(nw:Nat){id:Nat}{ops:List Oper}{vc:List Prop}{st':St}(hm:P.follows .mixedOrders=true)(hc:WK ops qs pl=true)(_h0:G.Vl P ty Γ dm cr ks hs ops st=some (vc,st'))(h:jH P ty Γ dm cr ks hs ops st.n pl st [] [] []=some ((vc,st')::List.replicate nw (vc,st')))(hv:mP vc)(k:Q .normal st'):
  W P ty zb (.region id ops.toArray true) Q st:=by
 refine S6 X dm cr ks hs qs pl hm hc h ?_ hv k;have: ∀n,GC (vc,st') (List.replicate n (vc,st')):=by
  intro n;induction n with
  |zero=>trivial
  |succ n ih=>exact⟨rfl,ih⟩
 exact this nw
def hasB(B:Nat)(es:List Nat):Bool:=es.all fun j=>B.testBit j
def mkQ(B qs:Nat):List (Nat×List Nat)→Nat→Nat
 | [],q=>q
 | (i,es)::r,q=>match !B.testBit i&&qs.testBit i&&hasB (B|||q) es with
   |true=>mkQ B qs r (q|||2^i)
   |false=>mkQ B qs r q
def enD(B q clt:Nat):List (Nat×List Nat)→Nat→List Nat
 | [],d=> [d]
 | (i,es)::r,d=>match q.testBit i with
   |false=>enD B q clt r d
   |true=>(match hasB (B|||d) es with|true=>enD B q clt r (d|||2^i)|false=> [])++(match clt.testBit i with|true=> []|false=>enD B q clt r d)
def mkB(f:Nat→gd)(B q:Nat)(E:List (Nat×List Nat))(cl:List Nat):List (Nat×List Nat)→gd
 | []=> .nil
 | (t,es)::r=>match(B|||q).testBit t with
   |true=>mkB f B q E cl r
   |false=>((enD B q (cl.getD t 0) E 0).filter fun d=>hasB (B|||d) es).foldr (fun d p=> .br d t (f (B|||d|||2^t)) p) (mkB f B q E cl r)
def mkP(E:List (Nat×List Nat))(cl:List Nat)(qs full:Nat):Nat→Nat→gd
 |0,_=> .nil
 |k+1,B=>match mkQ B qs E 0 with
  |q=>match Nat.beq (B|||q) full with
   |true=> .last q
   |false=> .ph q (mkB (mkP E cl qs full k) B q E cl E)
def MJ(ops:List Oper)(qs:Nat):gd:=mkP ((idx 0 ops).map fun e=>(e.1,cB e.2)) (HM ops) qs (2^ops.length-1) (ops.length+1) 0
theorem aF(X:Ctx P ty Γ)(dm:List (Nat×Nat))(cr:List (Nat×CR))(ks hs:List Nat)(qs:Nat)(nw:Nat){id:Nat}{ops:List Oper}{vc:List Prop}{st':St}(hm:P.follows .mixedOrders=true)(hc:WK ops qs (MJ ops qs)=true)(h0:G.Vl P ty Γ dm cr ks hs ops st=some (vc,st'))(h:jH P ty Γ dm cr ks hs ops st.n (MJ ops qs) st [] [] []=some ((vc,st')::List.replicate nw (vc,st')))(hv:mP vc)(k:Q .normal st'):
  W P ty zb (.region id ops.toArray true) Q st:=S7 X dm cr ks hs qs (MJ ops qs) nw hm hc h0 h hv k
end
end
section
variable{ty:Tag→Nat}
def KK(st:St)(n i:Nat):Option St:=match look st.hp n with
 |some (.box c)=>match yp c i with
  |some (.own m)=>match look st.hp m with
   |some (.arr t l)=>match Zh ((n, .box (c.set i (.vw m none t l)))::st.hp.filter fun e=> !Nat.beq e.1 n)with
    |some hp=>some ⟨st.n,st.sl,hp⟩
    |none=>none
   |_=>none
  |_=>none
 |_=>none
theorem tZ{α:Type}{hp:List (Nat×α)}{n m:Nat}(h:m≠n):look (hp.filter fun e=> !Nat.beq e.1 n) m=look hp m:=by
 induction hp with
 |nil=>rfl
 |cons e r ih=>
  obtain⟨j,x⟩:=e;by_cases hj:j=n
  ·subst hj;rw[List.filter_cons_of_neg (by simp),ih,bB h]
  ·have:Nat.beq j n=false:=by
    cases hb:Nat.beq j n with
    |false=>rfl
    |true=>exact absurd (Nat.eq_of_beq_eq_true hb) hj
   rw[List.filter_cons_of_pos (by simp[this])];by_cases hm:m=j
   ·subst hm;rw[look_eq,look_eq]
   ·rw[bB hm,bB hm,ih]
theorem bK.set{α β:Type}{R:α→β→Prop}: ∀{as:List α} {bs:List β} {i:Nat} {x:α},bK R as bs→(∀y,bs[i]? =some y→R x y)→bK R (as.set i x) bs
 | [],[],_,_,_,_=>trivial
 |a::as,b::bs,0,x,h,hx=>⟨hx b rfl,h.2⟩
 |a::as,b::bs,i+1,x,h,hx=>⟨h.1,bK.set h.2 (fun y hy=>hx y (by simpa using hy))⟩
 | [],_::_,_,_,h,_=>h.elim
 |_::_,[],_,_,h,_=>h.elim
section
variable{P:Program}{zb:cD}{st st':St}{Q:Post}
theorem Inv.KK{a:Act}{w:World}(n i:Nat)(h:G.KK st n i=some st')(iv:Inv ty zb st a w):Inv ty zb st' a w:=by
 unfold G.KK at h;split at h
 case h_2=>cases h
 rename_i c hc;split at h
 case h_2=>cases h
 rename_i m hm;split at h
 case h_2=>cases h
 rename_i t l hl;split at h
 case h_2=>cases h
 rename_i hp hf;simp only[oI]at h;subst h;have hf:=HI hf;obtain⟨env,g⟩:=iv.good;have hmn:m≠n:=by rintro rfl;rw[hl]at hc;cases hc
 have hlk: ∀k o,look hp k=some o→(k=n∧o= .box (c.set i (.vw m none t l)))∨(k≠n∧look st.hp k=some o):=by
  intro k o hk;rw[hf]at hk;by_cases hkn:k=n
  ·subst hkn;rw[look_eq]at hk;simp only[oI]at hk;exact Or.inl ⟨rfl,hk.symm⟩
  ·rw[bB hkn,tZ hkn]at hk;exact Or.inr ⟨hkn,hk⟩
 have hne: ∀k o,k≠n→look st.hp k=some o→look hp k=some o:=by
  intro k o hkn hk;rw[hf,bB hkn,tZ hkn];exact hk
 have hnn:look hp n=some (.box (c.set i (.vw m none t l))):=by rw[hf,look_eq]
 have s:Step (fun _=>True) (fun _=>True) w st.hp env w hp env:=by
  refine⟨fun _ _ _=>rfl,?_,?_,?_⟩
  ·rintro b _ ⟨k,o,h1,h2⟩;rcases hlk k o h1 with⟨rfl,_⟩| ⟨_,h3⟩
   ·exact⟨_,_,hc,h2⟩
   ·exact⟨k,o,h3,h2⟩
  ·intro k o _ h1;by_cases hkn:k=n
   ·subst hkn;rw[hc]at h1;simp only[oI]at h1;subst h1;exact⟨_,hnn,trivial,rfl⟩
   ·exact⟨o,hne k o hkn h1,by cases o<;>simp[Obj.like],rfl⟩
  ·intro k t' l' _ h1;have hkn:k≠n:=by rintro rfl;rw[hc]at h1;cases h1
   exact⟨hne k _ hkn h1,rfl,fun _ _=>rfl⟩
 refine⟨iv.size,iv.defers,iv.kept,iv.C1,env,⟨fun k o hk=> ?_,fun k k' o o' hkk h1 h2=> ?_,fun t v hv=>qp.step s (fun v _=>v.eO) (g.slot t v hv),fun k o hk b hb=> ?_,g.pins⟩⟩
 ·rcases hlk k o hk with⟨rfl,rfl⟩| ⟨hkn,h3⟩
  ·obtain⟨b,cs,e,h1,h2,h3⟩:=g.obj _ _ hc;refine⟨b,cs,e,h1,h2,bK.set (h3.mono fun x y _ hr=>RA.step s x.eO hr) fun y hy=> ?_⟩;rw[C3]at hm;obtain⟨y',hy',hr⟩:=h3.at hm;rw[hy]at hy';simp only[oI]at hy';subst hy';obtain⟨_,hu⟩:=hr;have hro:=g.obj m _ hl;have hlm:=hne m _ hmn hl;refine⟨⟨t,l,hlm⟩,⟨(env m).fp,?_,(RO.own hro).nodup,fun _ h=>h⟩,by simp⟩;rw[hu];exact RO.sl hro
  ·exact(g.obj k o h3).step s o.eO (fun _ _=>rfl)
 ·have: ∀k o,look hp k=some o→ ∃x,look st.hp k=some x:=by
   intro k o hk;rcases hlk k o hk with⟨rfl,_⟩| ⟨_,h3⟩
   ·exact⟨_,hc⟩
   ·exact⟨_,h3⟩
  obtain⟨x,hx⟩:=this k o h1;obtain⟨y,hy⟩:=this k' o' h2;exact g.kK k k' x y hkk hx hy
 ·rcases hlk k o hk with⟨rfl,_⟩| ⟨_,h3⟩
  ·exact g.dom _ _ hc b hb
  ·exact g.dom k o h3 b hb
theorem Tg{c:Code}(n i:Nat)(h:G.KK st n i=some st')(k:W P ty zb c Q st'):W P ty zb c Q st:=fun a w iv=>k a w (iv.KK n i h)
end
end
section
variable{ty:Tag→Nat}
def wU(a b n:Nat):Nat:=match Nat.beq n a,Nat.beq n b with
 |true,_=>b
 |false,true=>a
 |false,false=>n
def V.sw(a b:Nat):V→V
 | .own n=> .own (wU a b n)
 | .ptr n o=> .ptr (wU a b n) o
 | .rQ n i o=> .rQ (wU a b n) i o
 | .vw n p t l=> .vw (wU a b n) p t l
 | .Ja n p t x o=> .Ja (wU a b n) p t x o
 | .Jb n t l=> .Jb (wU a b n) t l
 | .F3 f n=> .F3 f (wU a b n)
 | .mix n c t l=> .mix (wU a b n) c t l
 | .FB n=> .FB (wU a b n)
 |v=>v
def S1.sw(a b:Nat):S1→S1
 | .a v=> .a (v.sw a b)
 | .agg l=> .agg (l.map (V.sw a b))
def SV.sw(a b:Nat):SV→SV
 | .one x=> .one (x.sw a b)
 | .wK l=> .wK (l.map (S1.sw a b))
 | .cond p x=> .cond p (x.sw a b)
def qd.sw(a b:Nat):qd→qd
 | .of n=> .of (wU a b n)
 | .Ax _=> .Ax none
 |s=>s
def Obj.sw(a b:Nat):Obj→Obj
 | .box c=> .box (c.map (V.sw a b))
 | .arr t l=> .arr t l
 | .iq t l s=> .iq t l (s.sw a b)
def LR(a b:Nat)(hp:Hp):Hp:=hp.map fun e=>(wU a b e.1,e.2.sw a b)
def Tz(st:St)(a b:Nat):Option St:=match kB a,kB b,soft a,soft b with
 |false,false,false,false=>P6 ⟨st.n,st.sl.map fun e=>(e.1,e.2.sw a b),LR a b st.hp⟩
 |_,_,_,_=>none
theorem MU(a b n:Nat):wU a b n=if n=a then b else if n=b then a else n:=by
 unfold wU;by_cases h1:n=a
 ·subst h1;rw[if_pos rfl,Nat.beq_refl]
 ·have e1:Nat.beq n a=false:=by
   cases h:Nat.beq n a with
   |false=>rfl
   |true=>exact absurd (Nat.eq_of_beq_eq_true h) h1
  rw[if_neg h1,e1];by_cases h2:n=b
  ·subst h2;rw[if_pos rfl,Nat.beq_refl]
  ·have e2:Nat.beq n b=false:=by
    cases h:Nat.beq n b with
    |false=>rfl
    |true=>exact absurd (Nat.eq_of_beq_eq_true h) h2
   rw[if_neg h2,e2]
theorem og(a b n:Nat):wU a b (wU a b n)=n:=by
 simp only[MU];by_cases h1:n=a
 ·subst h1;simp only[if_true];by_cases h2:b=n
  ·rw[if_pos h2,h2]
  ·rw[if_neg h2]
 ·by_cases h2:n=b
  ·subst h2;simp[h1]
  ·simp[h1,h2]
theorem WX{a b n m:Nat}(h:wU a b n=wU a b m):n=m:=by
 have:=congrArg (wU a b) h
 rwa [og,og]at this
theorem pQ(a b:Nat): ∀(hp:Hp) (n:Nat),look (LR a b hp) n=(look hp (wU a b n)).map (Obj.sw a b)
 | [],n=>rfl
 | (j,x)::r,n=>by
   show look ((wU a b j,x.sw a b)::LR a b r) n=_
   by_cases h:n=wU a b j
   ·subst h;rw[look_eq,og,look_eq];rfl
   ·rw[bB h,pQ a b r n,bB];intro e;exact h (by rw[←e,og])
section
variable{w:World}{hp:Hp}{env:Env}{a b:Nat}
theorem oo{n:Nat}{t:Tag}{l:List (T t)}(h:look hp n=some (.arr t l)):look (LR a b hp) (wU a b n)=some (.arr t l):=by
 rw[pQ,og,h];rfl
theorem OB{n:Nat}{c:List V}(h:look hp n=some (.box c)):look (LR a b hp) (wU a b n)=some (.box (c.map (V.sw a b))):=by
 rw[pQ,og,h];rfl
def TA(a b:Nat)(env:Env):Env:=fun n=>env (wU a b n)
theorem kY(n:Nat):TA a b env (wU a b n)=env n:=by unfold TA;rw[og]
theorem qS{x:Nat}(h:Ow (LR a b hp) (TA a b env) x):Ow hp env x:=by
 obtain⟨n,o,h1,h2⟩:=h;rw[pQ]at h1;cases hq:look hp (wU a b n)with
 |none=>rw[hq]at h1;cases h1
 |some o'=>exact⟨_,_,hq,h2⟩
theorem RV.sw{n:Nat}{p:Option (Nat×Nat)}{t:Tag}{l:List (T t)}{u:Value}(h:RV w hp env n p t l u):RV w (LR a b hp) (TA a b env) (wU a b n) p t l u:=by
 obtain⟨⟨t1,l1,h1⟩,⟨fp,h2,h3,h4⟩,h5⟩:=h;refine⟨⟨t1,l1,oo h1⟩,⟨fp,h2,h3,by rw[kY];exact h4⟩,fun i off hp'=> ?_⟩;obtain⟨t0,l0,b0,o,len,cap,q1,q2,q3,q4,q5,q6⟩:=h5 i off hp';exact⟨t0,l0,b0,o,len,cap,oo q1,q2,q3,by rw[kY];exact q4,by rw[kY];exact q5,q6⟩
theorem RA.sw{v:V}{u:Value}(h:RA w hp env v u):RA w (LR a b hp) (TA a b env) (v.sw a b) u:=by
 cases v with
 |any=>trivial
 |lit v=>exact h
 |Cp k=>exact h
 |raw v=>exact h
 |vf v t l=>obtain⟨hu,fp,h1,h2⟩:=h;exact⟨hu,fp,h1,fun x hx ho=>h2 x hx (qS ho)⟩
 |sl t l=>obtain⟨fp,h1,h2⟩:=h;exact⟨fp,h1,fun x hx ho=>h2 x hx (qS ho)⟩
 |ip t x off=>obtain⟨b',o,cs,fp,h1,h2,h3,h4,h5,h6⟩:=h;exact⟨b',o,cs,fp,h1,h2,h3,h4,fun ho=>h5 (qS ho),fun c hc ho=>h6 c hc (qS ho)⟩
 |own n=>obtain⟨⟨t,l,hl⟩,hu⟩:=h;exact⟨⟨t,l,oo hl⟩,by rw[kY];exact hu⟩
 |ptr n off=>obtain⟨⟨c,hl⟩,b',h1,h2⟩:=h;exact⟨⟨_,OB hl⟩,b',by rw[kY];exact h1,h2⟩
 |F3 f n=>obtain⟨⟨c,hl⟩,b',h1,h2⟩:=h;exact⟨⟨_,OB hl⟩,b',by rw[kY];exact h1,h2⟩
 |rQ n i off=>obtain⟨t,l,hl,b',o,len,cap,h1,h2⟩:=h;exact⟨t,l,oo hl,b',o,len,cap,by rw[kY];exact h1,h2⟩
 |vw n p t l=>exact RV.sw h
 |Jb n t l=>
  obtain⟨⟨t1,l1,h1⟩,b',fp,h2,h3,h4,h5⟩:=h;exact⟨⟨t1,l1,oo h1⟩,b',fp,h2,fun ho=>h3 (qS ho),h4,by rw[kY];exact h5⟩
 |FB n=>
  obtain⟨⟨t,l,s,hl⟩,hu⟩:=h;exact⟨⟨t,l,s.sw a b,by rw[pQ,og,hl];rfl⟩,by rw[kY];exact hu⟩
 |mix n c t l=>
  obtain⟨⟨t1,l1,h1⟩,⟨fp,h2,h3⟩,h4⟩:=h;exact⟨⟨t1,l1,oo h1⟩,⟨fp,h2,fun x hx=>(h3 x hx).imp (fun q=>by rw[kY];exact q) (fun q ho=>q (qS ho))⟩,h4⟩
 |Ja n p t x off=>
  obtain⟨⟨t1,l1,h1⟩,b',o,cs,fp,h2,h3,h4,h5,h6,h7,h8⟩:=h;refine⟨⟨t1,l1,oo h1⟩,b',o,cs,fp,h2,by rw[kY];exact h3,h4,h5,h6,by rw[kY];exact h7,fun i o2 j hp'=> ?_⟩;obtain⟨l2,u0,b0,oD,len,cap,q1,q2,q3,q4,q5⟩:=h8 i o2 j hp';exact⟨l2,u0,b0,oD,len,cap,q1.sw,q2,q3,q4,q5⟩
theorem fD.sw{x:S1}{u:Value}(h:fD w hp env x u):fD w (LR a b hp) (TA a b env) (x.sw a b) u:=by
 cases x with
 |a v=>exact RA.sw h
 |agg l=>obtain⟨cs,h1,h2⟩:=h;exact⟨cs,h1,h2.map fun _ _ q=>RA.sw q⟩
theorem qp.sw{tmps:Array Value}{x:SV}{u:Value}(h:qp w hp env tmps x u):qp w (LR a b hp) (TA a b env) tmps (x.sw a b) u:=by
 cases x with
 |one x=>exact fD.sw h
 |wK l=>obtain⟨us,h1,h2⟩:=h;exact⟨us,h1,h2.map fun _ _ q=>fD.sw q⟩
 |cond p x=>exact⟨fun q=>fD.sw (h.1 q),h.2⟩
theorem BE.sw{s:qd}{t:Tag}{x:T t}{u:Value}(h:BE w hp env s t x u):BE w (LR a b hp) (TA a b env) (s.sw a b) t x u:=by
 cases s with
 |gone=>trivial
 |mp=>trivial
 |LL u=>trivial
 |Ax p=>trivial
 |mL=>obtain⟨f,h1,h2⟩:=h;exact⟨f,h1,fun c hc ho=>h2 c hc (qS ho)⟩
 |of n=>
  obtain⟨⟨t1,l1,h1⟩,f,h2,h3⟩:=h;exact⟨⟨t1,l1,oo h1⟩,f,h2,fun c hc=>(h3 c hc).imp (fun q=>by rw[kY];exact q) (fun q ho=>q (qS ho))⟩
end
theorem TB{a b n:Nat}{p:Nat→Bool}(ha:p a=false)(hb:p b=false):p (wU a b n)=p n:=by
 rw[MU];split
 ·rename_i h;subst h;rw[ha,hb]
 ·split
  ·rename_i h;subst h;rw[ha,hb]
  ·rfl
theorem WY{a b n:Nat}(ha:kB a=false)(hb:kB b=false)(h:kB n=true):wU a b n=n:=by
 rw[MU];split
 ·rename_i h1;subst h1;rw[ha]at h;cases h
 ·split
  ·rename_i h1;subst h1;rw[hb]at h;cases h
  ·rfl
theorem TC{zb:cD}{st st':St}{a b:Nat}(h:Tz st a b=some st'){c:Act}{w:World}(iv:Inv ty zb st c w):Inv ty zb st' c w:=by
 obtain⟨env,g⟩:=iv.good;unfold Tz at h;split at h
 case h_2=>cases h
 rename_i hpa hpb hsa hsb;have h:=mO h;subst h;have hlk: ∀n o,look (LR a b st.hp) n=some o→ ∃o0,look st.hp (wU a b n)=some o0∧o=o0.sw a b:=by
  intro n o hl;rw[pQ]at hl;cases hq:look st.hp (wU a b n)with
  |none=>rw[hq]at hl;cases hl
  |some o0=>rw[hq]at hl;simp only[Option.map_some,oI]at hl;exact⟨o0,rfl,hl.symm⟩
 refine⟨iv.size,iv.defers,iv.kept,iv.C1,TA a b env,⟨fun n o hl=> ?_,fun n m o o' hne h1 h2=> ?_,fun s v hs=> ?_,fun n o hl=> ?_,fun n hn=> ?_⟩⟩
 ·obtain⟨o0,h1,rfl⟩:=hlk n o hl;have hro:=g.obj _ _ h1;show RO ty w (LR a b st.hp) (TA a b env) n (o0.sw a b) (env (wU a b n))
  cases o0 with
  |arr t l=>exact NW (fun q=>by rw[TB hsa hsb]at q;exact q) hro
  |box l=>
   obtain⟨x,cs,e,q1,q2,q3⟩:=hro;exact⟨x,cs,e,q1,q2,q3.map fun _ _ q=>RA.sw q⟩
  |iq t l s=>
   rcases RO.FC hro with⟨rfl,h⟩| ⟨u,rfl,h1,h2,fp,h3,h4⟩| ⟨p,rfl,h⟩| ⟨hr,q1,us,q2,q3,q4⟩
   ·exact h
   ·exact⟨h1,h2,fp,h3,h4.imp id fun⟨c,e1,e2⟩=>⟨c,e1,fun ho=>e2 (qS ho)⟩⟩
   ·exact⟨h.1,h.2.1,fun _ _ _ e=>by cases e⟩
   ·exact RO.PO (by cases s<;>first|exact hr.elim|trivial) ⟨q1,us,q2,q3,fun i x u hx hu=>(q4 i x u hx hu).sw⟩
 ·obtain⟨o1,q1,_⟩:=hlk n o h1;obtain⟨o2,q2,_⟩:=hlk m o' h2;exact g.kK _ _ _ _ (fun e=>hne (WX e)) q1 q2
 ·replace hs:look (st.sl.map fun e=>(e.1,e.2.sw a b)) s=some v:=hs;rw[jT (α:=SV) (f:=fun e:Nat×SV=>e.2.sw a b)]at hs;cases hq:look st.sl s with
  |none=>rw[hq]at hs;cases hs
  |some v0=>
   rw[hq]at hs;simp only[Option.map_some,oI]at hs;subst hs;exact qp.sw (g.slot s v0 hq)
 ·obtain⟨o0,h1,_⟩:=hlk n o hl;exact g.dom _ _ h1
 ·have hq:=g.pins n hn;unfold TA;rw[WY hpa hpb hn];exact hq
theorem cx{P:Program}{zb:cD}{Q:Post}{st st':St}{c:Code}(a b:Nat)(h:Tz st a b=some st')(k:W P ty zb c Q st'):W P ty zb c Q st:=fun x w iv=>k x w (TC h iv)
end
section
variable{ty:Tag→Nat}
def toBrr(st:St)(s m:Nat)(r:qd):Option St:=match look st.sl s,Nat.blt s st.n with
 |some (.one (.a (.own n))),true=>match look st.hp n,pinned [n],kB m,look (cK [n] [] st.hp) m with
  |some (.arr t []),false,false,none=>match Nat.beq (kk t) 1 with
   |true=>P6 ((⟨st.n,st.sl.map fun e=>(e.1,e.2.bL [n] []),abA st.hp n m t [] r⟩:St).put (some s) (.one (.a (.FB m))))
   |false=>none
  |_,_,_,_=>none
 |_,_=>none
theorem toBrr_ok{zb:cD}{st st':St}{s m:Nat}{r:qd}(hr:r.br)(h:toBrr st s m r=some st'){a:Act}{w:World}(iv:Inv ty zb st a w):Inv ty zb st' a w:=by
 obtain⟨env,g⟩:=iv.good;have hB:=iv.kept.size;unfold toBrr at h;split at h
 case h_2=>cases h
 rename_i n hs hlt;split at h
 case h_2=>cases h
 rename_i t hl hpk JB hlk;split at h
 case h_2=>cases h
 rename_i hk1;have hk1:=Nat.eq_of_beq_eq_true hk1;have h:=mO h;have XW:soft n=false:=qy hpk (by simp);have hb:=RO.XT XW (g.obj n _ hl);have Fy: ∀b,(env n).v.ownBlock=some b→b∈(env n).fp:=by
  intro b hb';obtain⟨xs,bX,_,_,_,jf,_⟩:=hb;rw[jf,hb'];simp
 have hbE:iW 1 Rq 0 (ty t) w (env n).v ([]:List Value) (env n).fp:=by
  obtain⟨xs,bX,q1,q2,q3,q4,q5⟩:=hb;obtain rfl:bX= []:=List.length_eq_zero_iff.1 q2;exact⟨xs,[],by rw[hk1]at q1;exact q1,rfl,fun i x f hx=>by simp at hx,q4,q5⟩
 obtain⟨env',hg',Mc,_,_⟩:=AF (ty:=ty) g hB (ks:= [n]) hpk JB hlk (v:=(env n).v) (v':=(env n).v) (w':=w) (ob:= .iq t [] r) (fp:=(env n).fp) (fx:= []) (gC:=(env n).fp) (by
  intro b hb;rw[List.append_nil]at hb;exact⟨n,_,by simp,hl,hb⟩) Fy (fun aea hd s2=>RO.PO hr ⟨hk1,[],hbE,rfl,fun i x u hx=>by simp at hx⟩) ⟨rfl,rfl,rfl,Nat.le_refl _,fun _ _ _=>rfl⟩ (fun b hb=>Or.inl hb)
 have hlt:s<a.tmps.size:=by rw[iv.size];exact Nat.le_of_ble_eq_true hlt
 obtain⟨_,hu⟩:=g.slot s _ hs;have gp:=hg'.put hlt (v:= .one (.a (.FB m))) (u:=a.tmps.getD s undef) ⟨⟨t,[],_,look_eq⟩,by rw[Mc];exact hu⟩ rfl;have e:a.tmps.setIfInBounds s (a.tmps.getD s undef)=a.tmps:=by
  rw[Array.getD_eq_getD_getElem?,Array.getElem?_eq_getElem hlt];apply Array.ext
  ·simp
  ·intro i h1 h2;rw[Array.getElem_setIfInBounds];split
   ·rename_i hi;subst hi;rfl
   ·rfl
 rw[e]at gp;rw[h];exact⟨by rw[tq];exact iv.size,iv.defers,iv.kept,iv.C1,env',gp⟩
theorem KQ{P:Program}{zb:cD}{Q:Post}{st st':St}{c:Code}(s m:Nat)(h:G.toBrr st s m .mL=some st')(k:W P ty zb c Q st'):W P ty zb c Q st:=fun a w iv=>k a w (toBrr_ok (by trivial) h iv)
end
section
variable{ty:Tag→Nat}
def gk(cr:List (Nat×CR))(ops:List Oper)(st:St)(o:Oper):Option (Bool×Prop):=match o.guard with
 |some (j,x)=>match ops[j]? with
  |some q=>match q.dst with
   |some d=>match look cr (d+1100000),look st.sl d with
    |some ⟨y,_⟩,some (.one (.a (.lit (.bool b))))=>some (x==y,b=y)
    |_,_=>none
   |none=>none
  |none=>none
 |none=>none
def pk(cr:List (Nat×CR))(st:St)(o:Oper):Option (Oper×Prop):=match o.op with
 | .pick (.tmp c) x y=>match look cr (c+1100000),look st.sl c with
   |some ⟨z,_⟩,some (.one (.a (.lit (.bool b))))=>some ({o with op:= .move (match z with|true=>x|false=>y)},b=z)
   |_,_=>none
 |_=>none
def ung(o:Oper):Oper:={o with guard:=none}
def step2(P:Program)(ty:Tag→Nat)(Γ:Nat→TK)(dm:List (Nat×Nat))(cr:List (Nat×CR))(ops:List Oper)(st:St)(o:Oper):Option (List Prop×St):=
 match gk cr ops st o with
 |none=>match pk cr st o with
  |some (o',p)=>match step P ty Γ dm cr ops st o' with
   |some (vc,st')=>some (p::vc,st')
   |none=>none
  |none=>step P ty Γ dm cr ops st o
 |some (true,p)=>match step P ty Γ dm cr ops st (ung o)with
  |some (vc,st')=>some (p::vc,st')
  |none=>none
 |some (false,p)=>match yt st o.dst with
  |true=>some ([p],st.put o.dst (.one (.a .any)))
  |false=>none
section
variable{P:Program}{zb:cD}{st st':St}{a:Act}{w:World}{Q:Exit→Act→World→Prop}{o:Oper}
theorem gN.ung{ops:Array Oper}{K:Act→World→Prop}(hw:Region.wanted o (yielded ops a.tmps)=true)(h:gN P ops (ung o) a w K Q):gN P ops o a w K Q:=by
 unfold gN at h ⊢;rw[if_pos (by simp[Region.wanted,G.ung])]at h;rw[if_pos hw];exact h
theorem gN.as{ops:Array Oper}{op':Op}{K:Act→World→Prop}(he:execOp a.eval o=execOp a.eval {o with op:=op'})(hr:gN P ops {o with op:=op'} a w K Q):gN P ops o a w K Q:=by
 have hwp:o.wp P a w K Q↔Oper.wp P {o with op:=op'} a w K Q:=by
  unfold Oper.wp;rw[he];rfl
 have has:o.asks P a w↔Oper.asks P {o with op:=op'} a w:=by
  unfold Oper.asks;rw[he]
 unfold gN at hr ⊢;rw[hwp,has];exact hr
theorem gN.pk{cr:List (Nat×CR)}{ops:Array Oper}{o':Oper}{p:Prop}{K:Act→World→Prop}(iv:Inv ty zb st a w)(h:G.pk cr st o=some (o',p))(hp:p)(hr:gN P ops o' a w K Q):gN P ops o a w K Q:=by
 unfold G.pk at h;split at h
 case h_2=>cases h
 rename_i c x y ho;split at h
 case h_2=>cases h
 rename_i z rs b hl hs;simp only[oI,pI]at h;obtain⟨rfl,rfl⟩:=h;obtain⟨env,g⟩:=iv.good;have hs1:=g.slot c _ hs;have hs2:a.eval (.tmp c)= .bool b:=(show fD w st.hp env (.a (.lit (.bool b))) (a.tmps.getD c undef)from hs1).lit;subst hp;cases b with
 |true=>exact gN.as (by unfold execOp;simp only[ho,hs2];rfl) hr
 |false=>exact gN.as (by unfold execOp;simp only[ho,hs2];rfl) hr
theorem UK{Γ:Nat→TK}(C: ∀t,cT P t (Γ t))(Z: ∀t,(∀z tg fo,Γ t≠ .st z tg fo)→Γ t≠ .other→(P.info? t).map (·.size)=some 1){dm:List (Nat×Nat)}{cr:List (Nat×CR)}{ops:List Oper}{vc:List Prop}(h:step2 P ty Γ dm cr ops st o=some (vc,st'))(iv:Inv ty zb st a w)(hv: ∀q,q∈vc→q):
  gN P ops.toArray o a w (fun a' w'=>Inv ty zb st' a' w') Q:=by
 have hgk: ∀{x:Bool} {p:Prop},gk cr ops st o=some (x,p)→p→(Region.wanted o (yielded ops.toArray a.tmps)=true↔x=true):=by
  intro x p hq hp;unfold gk at hq;split at hq
  case h_2=>cases hq
  rename_i j y hg;split at hq
  case h_2=>cases hq
  rename_i q hj;split at hq
  case h_2=>cases hq
  rename_i d hd;split at hq
  case h_2=>cases hq
  rename_i z rs b hl hs;simp only[oI,pI]at hq;obtain⟨rfl,rfl⟩:=hq;rw[qv hg (by simpa using hj) hd];obtain⟨env,g⟩:=iv.good;have hs1:=g.slot d _ hs;have hs2:=(show fD w st.hp env (.a (.lit (.bool b))) (a.tmps.getD d undef)from hs1).lit;rw[Array.getD_eq_getD_getElem?]at hs2;have hs3:a.tmps[d]? =some (.bool b):=by
   cases Md:a.tmps[d]? with
   |none=>rw[Md]at hs2;simp[undef]at hs2
   |some u=>rw[Md]at hs2;simp only[Option.getD_some]at hs2;rw[hs2]
  rw[hs3];simp only[oI,Value.bool.injEq];subst hp;constructor
  ·rintro rfl;simp
  ·intro h;exact(eq_of_beq h).symm
 unfold step2 at h;split at h
 ·split at h
  ·rename_i o' p hq;split at h
   case h_2=>cases h
   rename_i oV Ar hs;simp only[oI,pI]at h;obtain⟨rfl,rfl⟩:=h;have hp:p:=hv p (by simp);exact gN.pk iv hq hp (vu C Z hs iv fun q hq=>hv q (by simp[hq]))
  ·exact vu C Z h iv hv
 ·rename_i p hq;split at h
  case h_2=>cases h
  rename_i oV Ar hs;simp only[oI,pI]at h;obtain⟨rfl,rfl⟩:=h;have hp:p:=hv p (by simp);exact gN.ung ((hgk hq hp).2 rfl) (vu C Z hs iv fun q hq=>hv q (by simp[hq]))
 ·rename_i p hq;split at h
  case h_2=>cases h
  rename_i hd;simp only[oI,pI]at h;obtain⟨rfl,rfl⟩:=h;have hp:p:=hv p (by simp);have hw: ¬Region.wanted o (yielded ops.toArray a.tmps)=true:=fun hw=>by have:=(hgk hq hp).1 hw;cases this
  unfold gN;rw[if_neg hw];obtain⟨env,g⟩:=iv.good;exact⟨by rw[gr,tq];exact iv.size,by rw[put_defers];exact iv.defers,iv.kept,iv.C1,env,lB g (Hz iv hd) trivial (fun d _=>rfl)⟩
end
section
variable{P:Program}{Γ:Nat→TK}{zb:cD}{Q:Post}{st:St}
end
end
section
variable{ty:Tag→Nat}
def fzn:List V→List V→List V
 | .lit (.slice none 0 0)::r, .sl t _::s=> .sl t []::fzn r s
 |v::r,_::s=>v::fzn r s
 |l,_=>l
theorem Na{w:World}{hp:Hp}{env:Env}: ∀{l s:List V} {us:List Value},bK (RA w hp env) l us→bK (RA w hp env) (fzn l s) us
 | [],s,us,h=>by
   unfold fzn;exact h
 |v::r,[],us,h=>by
  unfold fzn;first
   |exact h
   | (split<;>first|exact h| (rename_i h1 h2;cases h2))
 |v::r,x::s,[],h=>h.elim
 |v::r,x::s,u::us,⟨h1,h2⟩=>by
  unfold fzn;split
  ·rename_i r' t l' s' e1 e2;simp only[List.cons.injEq]at e1 e2;obtain⟨rfl,rfl⟩:=e1;obtain⟨rfl,rfl⟩:=e2;refine⟨⟨[],?_,by simp⟩,Na h2⟩;rw[h1.1];exact⟨none,0,rfl,Nat.le_refl _,Nat.zero_le _,Or.inl ⟨rfl,rfl,rfl⟩⟩
  ·rename_i v' r' x' s' _ e1 e2;simp only[List.cons.injEq]at e1 e2;obtain⟨rfl,rfl⟩:=e1;obtain⟨rfl,rfl⟩:=e2;exact⟨h1,Na h2⟩
  ·exact⟨h1,h2⟩
def UL(cr:List (Nat×CR))(d:Option Nat)(st:St):St:=match d with
 |some d=>match look cr (d+1200000),look st.sl d with
  |some ⟨_,[.agg s]⟩,some (.one (.agg c))=>⟨st.n,(d, .one (.agg (fzn c s)))::st.sl,st.hp⟩
  |_,_=>st
 |none=>st
theorem Xl{zb:cD}{cr:List (Nat×CR)}{d:Option Nat}{st:St}{a:Act}{w:World}(iv:Inv ty zb st a w):Inv ty zb (UL cr d st) a w:=by
 unfold UL;split
 ·rename_i d;split
  ·rename_i own s c hq hl;obtain⟨env,g⟩:=iv.good;refine⟨iv.size,iv.defers,iv.kept,iv.C1,env,g.obj,g.kK,fun t v hv=> ?_,g.dom,g.pins⟩;by_cases ht:t=d
   ·subst ht;rw[look_eq]at hv;simp only[oI]at hv;subst hv;obtain⟨us,h1,h2⟩:fD w st.hp env (.agg c) (a.tmps.getD t undef):=g.slot t _ hl;exact⟨us,h1,Na h2⟩
   ·rw[bB ht]at hv;exact g.slot t v hv
  ·exact iv
 ·exact iv
def Ad(P:Program)(ty:Tag→Nat)(Γ:Nat→TK)(dm:List (Nat×Nat))(cr:List (Nat×CR))(ops:List Oper):List Oper→St→List Prop→Option (List Prop×St)
 | [],st,acc=>some (acc,st)
 |o::r,st,acc=>match step2 P ty Γ dm cr ops st o with
  |some (l,s)=>match UL cr o.dst s with
   | ⟨n,sl,hp⟩=>match l with
     | []=>Ad P ty Γ dm cr ops r ⟨n,sl,hp⟩ acc
     | [p]=>Ad P ty Γ dm cr ops r ⟨n,sl,hp⟩ (p::acc)
     | [p,q]=>Ad P ty Γ dm cr ops r ⟨n,sl,hp⟩ (p::q::acc)
     | [p,q,t]=>Ad P ty Γ dm cr ops r ⟨n,sl,hp⟩ (p::q::t::acc)
     |l=>Ad P ty Γ dm cr ops r ⟨n,sl,hp⟩ (l++acc)
  |none=>none
def acR(P:Program)(ty:Tag→Nat)(Γ:Nat→TK)(dm:List (Nat×Nat))(cr:List (Nat×CR))(ks hs:List Nat)(ops:List Oper):St→Option (List Prop×St)
 | ⟨n,Sh,ga⟩=>match Ad P ty Γ dm cr ops ops ⟨n,Sh,ga⟩ []with
 |some (vc,st')=>match B0 st'.sl ks,B1 st'.hp (N1 st'.sl st'.hp ks hs)with
  |some sl,some hp=>match qD sl hp,Nat.beq st'.n n with
   |true,true=>some (vc,⟨n,sl,hp⟩)
   |_,_=>none
  |_,_=>none
 |none=>none
section
variable{P:Program}{zb:cD}{st st':St}{a:Act}{w:World}{Q:Exit→Act→World→Prop}{o:Oper}
theorem Fj{Γ:Nat→TK}{dm:List (Nat×Nat)}{cr:List (Nat×CR)}{ops:List Oper}{AK:St}{vcs:List Prop}{o:Oper}{r:List Oper}{st:St}{acc:List Prop}(h:Ad P ty Γ dm cr ops (o::r) st acc=some (vcs,AK)):
  ∃q:List Prop×St,step2 P ty Γ dm cr ops st o=some q∧Ad P ty Γ dm cr ops r (UL cr o.dst q.2) (q.1++acc)=some (vcs,AK):=by
 simp only[Ad]at h;split at h
 case h_2=>cases h
 rename_i l s h1;refine⟨(l,s),h1,?_⟩;generalize UL cr o.dst s=z at h ⊢;obtain⟨n,sl,hp⟩:=z;dsimp only at h ⊢
 repeat' split at h
 all_goals exact h
theorem Lp{Γ:Nat→TK}{dm:List (Nat×Nat)}{cr:List (Nat×CR)}{ops:List Oper}{AK:St}{vcs:List Prop}: ∀{l:List Oper} {st:St} {acc:List Prop},Ad P ty Γ dm cr ops l st acc=some (vcs,AK)→ ∀q,q∈acc→q∈vcs
 | [],st,acc,h,q,hq=>by
   simp only[Ad,oI,pI]at h;rw[←h.1];exact hq
 |o::r,st,acc,h,q,hq=>by
  obtain⟨l,h⟩:=Fj h;exact Lp h.2 q (List.mem_append_right _ hq)
theorem Pc{Γ:Nat→TK}(C: ∀t,cT P t (Γ t))(Z: ∀t,(∀z tg fo,Γ t≠ .st z tg fo)→Γ t≠ .other→(P.info? t).map (·.size)=some 1){dm:List (Nat×Nat)}{cr:List (Nat×CR)}{ops:List Oper}{AK:St}{vcs:List Prop}
  (hQ: ∀a w,Inv ty zb AK a w→Q .normal a w): ∀{l:List Oper} {st:St} {acc:List Prop} {a:Act} {w:World},Ad P ty Γ dm cr ops l st acc=some (vcs,AK)→(∀q,q∈vcs→q)→Inv ty zb st a w→wpList P ops.toArray Q l a w
 | [],st,acc,a,w,h,hv,iv=>by
   simp only[Ad,oI,pI]at h;obtain⟨_,rfl⟩:=h;exact hQ a w iv
 |o::r,st,acc,a,w,h,hv,iv=>by
  obtain⟨⟨l,s1⟩,h1,h2⟩:=Fj h;have:=UK (Q:=Q) C Z h1 iv (fun q hq=>hv q (Lp h2 q (List.mem_append_left _ hq)));exact this.mono fun a' w' oJ=>Pc C Z hQ h2 hv (Xl oJ)
end
section
variable{P:Program}{Γ:Nat→TK}{zb:cD}{Q:Post}{st:St}
theorem qZ(X:Ctx P ty Γ)(dm:List (Nat×Nat))(cr:List (Nat×CR))(ks hs:List Nat){id:Nat}{ops:List Oper}{vc:List Prop}{st':St}(h:G.acR P ty Γ dm cr ks hs ops st=some (vc,st'))(hv:mP vc)(k:Q .normal st'):W P ty zb (.region id ops.toArray false) Q st:=by
 intro a w iv;have hsp: ∃s1,Ad P ty Γ dm cr ops ops st []=some (vc,s1)∧ ∀a w,Inv ty zb s1 a w→Inv ty zb st' a w:=by
  obtain⟨n,Sh,ga⟩:=st;simp only[G.acR]at h;split at h
  ·rename_i oV s1 hr;split at h
   ·rename_i sl hp h1 h2;split at h
    ·rename_i hc hn;simp only[oI,pI]at h;obtain⟨rfl,rfl⟩:=h;exact⟨s1,hr,fun a w iv=>iv.weaken (Nat.eq_of_beq_eq_true hn).symm (jk h1) (jl h2) hc⟩
    ·cases h
   ·cases h
  ·cases h
 obtain⟨s1,h1,h2⟩:=hsp;exact wp_region_lit (Pc X.kind X.one (fun a w oJ=>⟨st',h2 a w oJ,k⟩) h1 hv.out iv)
end
end
end Go.Proofs.YtaalpcnbbldlaaaGreatDoor.G
