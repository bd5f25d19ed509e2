/-
  Regions whose guards are known.
-/
import Derived.Orders
import Derived.Test.YtcnomgcfijjkmaaGreatR8
namespace Go.Proofs.YtcnomgcfijjkmaaGreat.G
set_option linter.all false
open Go.RowKit L D
section
variable{ty:Tag→Nat}
def wV(Γ:Nat→TK)(E:Tag→Nat→Prop)(S:FuncId→List S1→List S1→Prop)(cK:List (Nat×Nat))(cr:List (Nat×CR))(ops:List Oper):List Oper→St→List Prop→Option (List Prop×St)
 | [],st,acc=>some (acc,st)
 |o::r,⟨n,sl,hp⟩,acc=>match o.dst with
  |some d=>match sl.any (fun e=>e.2.mentions d),iR Γ E S cK cr ops ⟨n,sl,hp⟩ o with
   |false,some ([],v,os)=>wV Γ E S cK cr ops r ⟨n,(d,v)::sl,je os hp⟩ acc
   |false,some ([p],v,os)=>wV Γ E S cK cr ops r ⟨n,(d,v)::sl,je os hp⟩ (p::acc)
   |false,some ([p,q],v,os)=>wV Γ E S cK cr ops r ⟨n,(d,v)::sl,je os hp⟩ (p::q::acc)
   |false,some (l,v,os)=>wV Γ E S cK cr ops r ⟨n,(d,v)::sl,je os hp⟩ (l++acc)
   |_,_=>none
  |none=>none
structure TE where
 d:Nat
 v:SV
 os:Hp
def app(s:St)(e:TE):St:=⟨s.n,(e.d,e.v)::s.sl,e.os++s.hp⟩
theorem yZ{Γ:Nat→TK}{E:Tag→Nat→Prop}{S:FuncId→List S1→List S1→Prop}{cK:List (Nat×Nat)}{cr:List (Nat×CR)}{ops:List Oper}{o:Oper}{r:List Oper}{st:St}{acc vcs:List Prop}{rA:St}(h:wV Γ E S cK cr ops (o::r) st acc=some (vcs,rA)):
  ∃vc e,o.dst=some e.d∧(st.sl.any fun x=>x.2.mentions e.d)=false∧iR Γ E S cK cr ops st o=some (vc,e.v,e.os)∧wV Γ E S cK cr ops r (app st e) (vc++acc)=some (vcs,rA):=by
 obtain⟨n,sl,hp⟩:=st
 simp only[wV]at h
 split at h
 ·rename_i d hd
  split at h
  ·rename_i v os h1 h2;exact⟨[],⟨d,v,os⟩,hd,h1,h2,by simp only[cO]at h;exact h⟩
  ·rename_i p v os h1 h2;exact⟨[p],⟨d,v,os⟩,hd,h1,h2,by simp only[cO]at h;exact h⟩
  ·rename_i p q v os h1 h2;exact⟨[p,q],⟨d,v,os⟩,hd,h1,h2,by simp only[cO]at h;exact h⟩
  ·rename_i l v os _ _ _ h1 h2;exact⟨_,⟨d,v,os⟩,hd,h1,h2,by simp only[cO]at h;exact h⟩
  ·cases h
 ·cases h
def Cz(sl:List (Nat×SV)):Bool:=sl.all fun e=>match e.2 with| .cond _ _=>false|_=>true
def S2(P:Program)(ty:Tag→Nat)(Γ:Nat→TK)(cK:List (Nat×Nat))(cr:List (Nat×CR))(ks hs:List Nat)(m:Nat)(ops:List Oper):St→Option (List Prop×St)
 | ⟨n,Pm,fk⟩=>match Cz Pm,wV Γ (A5 P ty) (Sound ty P) cK cr ops (ops.take m) ⟨n,Pm,fk⟩ []with
   |true,some (nL,s1)=>match run P ty Γ cK cr ops (ops.drop m) s1 nL with
    |some (vc,st')=>match we st'.sl ks,wg st'.hp (Hx st'.sl st'.hp ks hs)with
     |some sl,some hp=>match mW sl hp,Nat.beq st'.n n with
      |true,true=>some (vc,⟨n,sl,hp⟩)
      |_,_=>none
     |_,_=>none
    |none=>none
   |_,_=>none
def bD(o:Oper):List Nat:=o.after.toList.filterMap fun e=>if Region.binds .any e then some e.on else none
def fP(acc:List Nat)(o:Oper):List Nat:=acc++ [(bD o).foldl (fun s j=>s|||2^j|||acc.getD j 0) 0]
def Bq(ops:List Oper):List Nat:=ops.foldl fP []
def tmpsOf(o:Oper):List Nat:=o.op.operands.toList.filterMap fun| .tmp t=>some t|_=>none
def tj(o:Oper)(t:Nat):Bool:=match o.dst with|some d=>Nat.beq d t|none=>false
def idx{α:Type}:Nat→List α→List (Nat×α)
 |_,[]=> []
 |i,x::r=>(i,x)::idx (i+1) r
def LN(A:List (Nat×Oper))(cl:List Nat)(i:Nat)(o:Oper):Bool:=
 (tmpsOf o).all fun t=>A.all fun e=> !(tj e.2 t)||Nat.beq e.1 i|| (bD o).any (Nat.beq e.1)|| (Nat.blt i e.1&&(cl.getD e.1 0).testBit i)
def HA(m:Nat)(i:Nat)(o:Oper):Bool:=match o.guard with
 |none=>true
 |some (j,_)=>Nat.blt j i&&Nat.blt j m&&(bD o).any (Nat.beq j)
def LO(A:List (Nat×Oper))(i:Nat)(o:Oper):Bool:=match o.dst with
 |some d=>A.all fun e=>Nat.beq e.1 i|| !(tj e.2 d)
 |none=>false
def W0(ops:List Oper)(m:Nat):Bool:=
 let cl:=Bq ops
 let A:=idx 0 (ops.take m)
 (Nat.ble m ops.length)&&
 ((idx 0 ops).all fun e=>(bD e.2).all fun j=>Nat.blt j e.1)&&
 (A.all fun e=>LN A cl e.1 e.2&&HA m e.1 e.2&&LO A e.1 e.2)&&
 ((idx 0 ops).all fun e=>Nat.blt e.1 m|| (List.range e.1).all fun j=>(cl.getD e.1 0).testBit j)
end
section
variable{ty:Tag→Nat}
def Compat(hp gr:Hp):Prop:= ∀n o o',look hp n=some o→look gr n=some o'→o=o'
section
variable{zb:bP}{st T:St}{a:Act}{w:World}{env:Env}
theorem Eb(c:Compat st.hp T.hp){tg:Option Tag}{v x:V}{u:Value}(hr:RA w T.hp env v u)(h:kI st tg v=some x):kI T tg v=some x:=by
 cases v with
 |own n=>
  obtain⟨⟨t,l,hl⟩,_⟩:=hr
  simp only[kI]at h ⊢
  split at h
  ·rename_i t' l' hl'
   have:=c n _ _ hl' hl
   simp only[Obj.arr.injEq]at this
   obtain⟨rfl,l5⟩:=this
   rw[hl]
   simp only[←eq_of_heq l5]
   exact h
  ·cases h
 |sl t l=>exact h
 |vw n p t l=>exact h
 |mix n c t l=>exact h
 |nK n=>
  obtain⟨⟨t,l,s,hl⟩,_⟩:=hr
  simp only[kI]at h ⊢
  split at h
  ·rename_i t' l' hl'
   have:=c n _ _ hl' hl
   rw[←this]at hl
   rw[hl];exact h
  ·rename_i t' l' m hl'
   have:=c n _ _ hl' hl
   rw[←this]at hl
   rw[hl];exact h
  ·cases h
 |lit v=>
  have e:kI T tg (.lit v)=kI st tg (.lit v):=by
   cases v with
   |slice a n c=>cases a<;>cases n<;>cases c<;>rfl
   |_=>rfl
  rw[e];exact h
 |_=>simp[kI]at h
theorem Br(c:Compat st.hp T.hp): ∀{vs:List V} {tg:List (Option Tag)} {xs:List V} {us:List Value},bg (RA w T.hp env) vs us→DC st tg vs=some xs→DC T tg vs=some xs
 | [],_,xs,us,_,h=>h
 |v::r,tg,xs,us,hr,h=>by
  cases us with
  |nil=>exact hr.elim
  |cons u us=>
   simp only[DC]at h ⊢
   split at h
   ·rename_i x y h1 h2
    rw[Eb c hr.1 h1,Br c hr.2 h2]
    exact h
   ·cases h
theorem I6(c:Compat st.hp T.hp){k:TK}{v x:S1}{u:Value}(hr:eC w T.hp env v u)(h:arg1 st k v=some x):arg1 T k v=some x:=by
 cases v with
 |a v=>
  simp only[arg1]at h ⊢
  split at h
  ·rename_i y hy
   rw[Eb c hr hy]
   exact h
  ·cases h
 |agg l=>
  obtain⟨cs,_,hl⟩:=hr
  simp only[arg1]at h ⊢
  split at h
  ·rename_i y hy
   rw[Br c hl hy]
   exact h
  ·cases h
theorem tq{p:List (Nat×Bool)}{x:Operand}(hs: ∀t,x= .tmp t→look st.sl t=look T.sl t):Fq st p x=Fq T p x:=by
 cases x with
 |tmp t=>simp only[Fq,hs t rfl]
 |_=>rfl
theorem y8{p:List (Nat×Bool)}{x:Operand}(hs: ∀t,x= .tmp t→look st.sl t=look T.sl t):ew st p x=ew T p x:=by
 unfold ew
 rw[tq hs]
theorem I7{b:Bool}(c:Compat st.hp T.hp){k:TK}{v x:S1}{u:Value}(hr:eC w T.hp env v u)(h:IG b st k v=some x):IG b T k v=some x:=by
 unfold IG at h ⊢
 split at h
 ·exact h
 ·exact I6 c hr h
theorem uL{b:Bool}{Γ:Nat→TK}(c:Compat st.hp T.hp)(g:Good ty zb T a.tmps w env){p:List (Nat×Bool)}(hp:holds a.tmps p): ∀{xs:List Operand} {ts:List Nat} {as:List S1},(∀x,x∈xs→ ∀t,x= .tmp t→look st.sl t=look T.sl t)→args b Γ st p xs ts=some as→args b Γ T p xs ts=some as
 | [],_,as,_,h=>h
 |x::r,ts,as,hs,h=>by
  simp only[args]at h ⊢
  rw[←y8 (st:=st) (T:=T) (hs x (by simp))]
  split at h
  ·rename_i v hv
   split at h
   ·rename_i y ys h1 h2
    have hr:=dh g hp (by rw[←y8 (hs x (by simp))];exact hv)
    rw[I7 c hr h1,uL c g hp (fun z hz=>hs z (List.mem_cons_of_mem _ hz)) h2]
    exact h
   ·cases h
  ·cases h
theorem F5(c:Compat st.hp T.hp){k:TK}{v:V}{u:Value}{n:Int}(hr:RA w T.hp env v u)(h:lenOf st k v=some n):lenOf T k v=some n:=by
 cases v with
 |own m=>
  obtain⟨⟨t,l,hl⟩,_⟩:=hr
  simp only[lenOf]at h ⊢
  split at h
  ·split at h
   ·rename_i t' l' hl'
    have:=c m _ _ hl' hl
    simp only[Obj.arr.injEq]at this
    obtain⟨rfl,l5⟩:=this
    rw[hl]
    simp only[←eq_of_heq l5]
    exact h
   ·cases h
  ·cases h
 |sl t l=>exact h
 |vw n p t l=>exact h
 |lit v=>
  have e:lenOf T k (.lit v)=lenOf st k (.lit v):=by
   cases v with
   |slice a n c=>cases a<;>cases n<;>cases c<;>rfl
   |_=>rfl
  rw[e];exact h
 |_=>simp[lenOf]at h
theorem CA(c:Compat st.hp T.hp){v:V}{u:Value}(hr:RA w T.hp env v u){l:List UInt8}(h:bytesOf st v=some l):bytesOf T v=some l:=by
 cases v with
 |own n=>
  obtain⟨⟨t,l2,lH⟩,_⟩:=hr
  simp only[bytesOf]at h ⊢
  split at h
  ·rename_i l3 OY
   simp only[oI]at h
   subst h
   have:=c n _ _ OY lH
   simp only[Obj.arr.injEq]at this
   obtain⟨rfl,l5⟩:=this
   rw[lH]
   simp only[eq_of_heq l5]
  ·cases h
 |sl t l=>
  have e:bytesOf T (.sl t l)=bytesOf st (.sl t l):=by cases t<;>rfl
  rw[e];exact h
 |vw n p t l=>
  have e:bytesOf T (.vw n p t l)=bytesOf st (.vw n p t l):=by cases t<;>rfl
  rw[e];exact h
 |lit v=>
  have e:bytesOf T (.lit v)=bytesOf st (.lit v):=by
   cases v with
   |slice a n c=>cases a<;>cases n<;>cases c<;>rfl
   |_=>rfl
  rw[e];exact h
 |_=>simp[bytesOf]at h
theorem wh{p:List (Nat×Bool)}{g:Tag}: ∀{xs:List (Nat×Operand)} {i:Nat},(∀x,x∈xs→ew st p x.2=ew T p x.2)→lF st p g i xs=lF T p g i xs
 | [],_,_=>rfl
 | (j,x)::r,i,h=>by
   simp only[lF]
   rw[h (j,x) (by simp),wh (fun y hy=>h y (List.mem_cons_of_mem _ hy))]
theorem za{p:List (Nat×Bool)}{n:Nat}{fo:List Nat}: ∀{xs:List (Nat×Operand)} {c:List V},(∀x,x∈xs→Fq st p x.2=Fq T p x.2)→nv st p n fo xs c=nv T p n fo xs c
 | [],_,_=>rfl
 | (j,x)::r,c,h=>by
   simp only[nv]
   rw[h (j,x) (by simp)]
   have: ∀c',nv st p n fo r c'=nv T p n fo r c':=fun c'=>za (fun y hy=>h y (List.mem_cons_of_mem _ hy))
   simp only[this]
theorem rC{p:List (Nat×Bool)}: ∀{xs:List Operand},(∀x,x∈xs→ew st p x=ew T p x)→sH st p xs=sH T p xs
 | [],_=>rfl
 |x::r,h=>by
  simp only[sH,II]
  rw[h x (by simp),rC (fun y hy=>h y (List.mem_cons_of_mem _ hy))]
theorem qa(c:Compat st.hp T.hp){v:V}{u:Value}(hr:RA w T.hp env v u){n:Nat}(hn:v.name=some n){o:Obj}(h:look st.hp n=some o):look T.hp n=some o:=by
 have: ∃o',look T.hp n=some o':=by
  cases v<;>simp only[V.name,oI,reduceCtorEq]at hn
  case own m=>subst hn;obtain⟨⟨t,l,hl⟩,_⟩:=hr;exact⟨_,hl⟩
  case ptr m off=>subst hn;obtain⟨⟨c,hl⟩,_⟩:=hr;exact⟨_,hl⟩
  case iQ m i off=>subst hn;obtain⟨t,l,hl,_⟩:=hr;exact⟨_,hl⟩
  case vw m p t l=>subst hn;obtain⟨⟨t,l,hl⟩,_⟩:=hr;exact⟨_,hl⟩
  case wL m t l=>subst hn;obtain⟨⟨t,l,hl⟩,_⟩:=hr;exact⟨_,hl⟩
  case mix m c t l=>subst hn;obtain⟨⟨t,l,hl⟩,_⟩:=hr;exact⟨_,hl⟩
  case nK m=>subst hn;obtain⟨⟨t,l,s,hl⟩,_⟩:=hr;exact⟨_,hl⟩
  case vV f m=>subst hn;obtain⟨⟨c,hl⟩,_⟩:=hr;exact⟨_,hl⟩
  case wK m p t x off=>subst hn;obtain⟨⟨t,l,hl⟩,_⟩:=hr;exact⟨_,hl⟩
 obtain⟨o',h'⟩:=this
 rw[c n _ _ h h'];exact h'
theorem uM(c:Compat st.hp T.hp): ∀{l d:List V} {n:Nat} {us:List Value},bg (RA w T.hp env) l us→rq st.hp l=some (d,n)→rq T.hp l=some (d,n)
 | [],_,_,_,_,h=>by simp[rq]at h
 |v::r,d,n,us,hr,h=>by
  cases us with
  |nil=>exact hr.elim
  |cons u us=>
   unfold rq at h
   split at h
   ·rename_i m r' he
    simp only[List.cons.injEq]at he
    obtain⟨rfl,rfl⟩:=he
    split at h
    ·rename_i t l hl kP
     have:=qa c hr.1 (n:=m) rfl hl
     simp only[rq,this,kP]
     exact h
    ·cases h
   ·rename_i m pp t l r' he
    simp only[List.cons.injEq]at he
    obtain⟨rfl,rfl⟩:=he
    split at h
    ·rename_i t0 l0 hl kP
     have:=qa c hr.1 (n:=m) rfl hl
     simp only[rq,this,kP]
     exact h
    ·cases h
   ·cases h
   ·rename_i x r' J6 he
    simp only[List.cons.injEq]at he
    obtain⟨rfl,rfl⟩:=he
    split at h
    ·rename_i c' n' h'
     have:=uM c hr.2 h'
     unfold rq
     split
     ·rename_i e;simp at e
     ·rename_i e;simp at e
     ·rename_i e;simp only[List.cons.injEq,V.lit.injEq]at e;exact absurd e.1 (by rintro rfl;exact J6 _ _ _ rfl)
     ·rename_i e
      simp only[List.cons.injEq,V.lit.injEq]at e
      obtain⟨rfl,rfl⟩:=e
      rw[this];exact h
     ·rename_i e1 e2 e3;exact absurd rfl (e3 _ _)
    ·cases h
   ·cases h
theorem quiet_mono{Γ:Nat→TK}{E:Tag→Nat→Prop}{S:FuncId→List S1→List S1→Prop}(c:Compat st.hp T.hp)(g:Good ty zb T a.tmps w env){p:List (Nat×Bool)}(hp:holds a.tmps p){cr:List (Nat×CR)}{d m:Nat}{op:Op}{out:Out}
  (hs: ∀x,x∈op.operands.toList→ ∀t,x= .tmp t→look st.sl t=look T.sl t)(h:quiet Γ E S cr st p d m op=some out):quiet Γ E S cr T p d m op=some out:=by
 have ho: ∀{q x},x∈op.operands.toList→ew st q x=ew T q x:=fun hx=>y8 (hs _ hx)
 have hr: ∀{x v},x∈op.operands.toList→ew st p x=some v→eC w T.hp env v (a.eval x):=fun hx hv=>dh g hp (by rw[←ho hx];exact hv)
 have rn: ∀{x v n o},x∈op.operands.toList→ew st p x=some (.a v)→v.name=some n→look st.hp n=some o→look T.hp n=some o:=fun hx hv hn hl=>qa c (hr hx hv) hn hl
 cases op with
 |move x=>
  have hm:KD st x=KD T x:=by
   cases x with
   |tmp t=>simp only[KD];rw[hs (.tmp t) (by simp[Op.operands]) t rfl]
   |_=>rfl
  simp only[quiet]at h ⊢;rw[←tq (st:=st) (hs x (by simp[Op.operands])), ←hm];exact h
 |assign x=>
  have hm:KD st x=KD T x:=by
   cases x with
   |tmp t=>simp only[KD];rw[hs (.tmp t) (by simp[Op.operands]) t rfl]
   |_=>rfl
  simp only[quiet]at h ⊢;rw[←tq (st:=st) (hs x (by simp[Op.operands])), ←hm];exact h
 |nilCheck x=>simp only[quiet]at h ⊢;rw[←ho (by simp[Op.operands])];exact h
 |index t x i=>simp only[quiet]at h ⊢;rw[←ho (x:=x) (by simp[Op.operands]), ←ho (x:=i) (by simp[Op.operands])];exact h
 |lookup t x y b=>
  cases b with
  |true=>simp[quiet]at h
  |false=>
   simp only[quiet]at h ⊢
   split at h
   ·rename_i hk
    split at h
    ·rename_i n k hx hy
     split at h
     ·rename_i tg l0 hl
      have UA:RA w T.hp env (.nK n) (a.eval x):=hr (x:=x) (by simp[Op.operands]) hx
      have lH:=qa c UA (n:=n) rfl hl
      simp only[hk, ←ho (x:=x) (by simp[Op.operands]), ←ho (x:=y) (by simp[Op.operands]),hx,hy,lH]
      exact h
     ·cases h
    ·cases h
   ·cases h
 |makeMap t r=>
  cases r with
  |some _=>simp[quiet]at h
  |none=>exact h
 |makeSlice t x y=>simp only[quiet]at h ⊢;rw[←ho (x:=x) (by simp[Op.operands]), ←ho (x:=y) (by simp[Op.operands])];exact h
 |buildSlice t n xs=>
  simp only[quiet]at h ⊢
  have hq: ∀g,lF st p g 0 xs.toList=lF T p g 0 xs.toList:=fun g=>wh fun x hx=>ho (by simp only[Op.operands,List.mem_map];exact⟨x,hx,rfl⟩)
  simp only[←hq]
  split at h
  case h_2=>cases h
  rename_i gt e hk
  cases hkey:(look cr (d+500000)).isSome with
  |false=>simp only[hkey]at h ⊢;exact h
  |true=>
   simp only[hkey]at h ⊢
   split at h
   case h_2=>cases h
   rename_i x hlen hps
   split at h
   case h_2=>cases h
   rename_i s hx
   split at h
   case h_2=>cases h
   rename_i cc n1 hc
   have hmem:x∈(Op.buildSlice t n xs).operands.toList:=by
    simp only[Op.operands,List.mem_map,Array.toList_map]
    exact⟨(0,x),by rw[hps];simp,rfl⟩
   have UA:=hr hmem hx
   have hown:rq T.hp (cellsOf s)=some (cc,n1):=by
    cases s with
    |agg l=>obtain⟨cs,_,hl⟩:=UA;exact uM c hl hc
    |a v=>exact uM c (us:= [a.eval x]) ⟨UA,trivial⟩ hc
   simp only[←ho hmem,hx,hown]
   exact h
 |build t xs=>
  simp only[quiet]at h ⊢
  have hq: ∀n fo z,nv st p n fo xs.toList z=nv T p n fo xs.toList z:=fun n fo z=>za fun x hx=>tq (hs _ (by simp only[Op.operands,List.mem_map];exact⟨x,hx,rfl⟩))
  simp only[←hq]
  exact h
 |pick x y z=>
  cases x with
  |tmp t=>
   simp only[quiet]at h ⊢
   rw[←ho (x:= .tmp t) (by simp[Op.operands]), ←ho (x:=y) (by simp[Op.operands]), ←ho (x:=z) (by simp[Op.operands])]
   exact h
  |_=>simp[quiet]at h
 |box e x=>simp only[quiet]at h ⊢;rw[←ho (by simp[Op.operands])];exact h
 |alloc t=>exact h
 |load t x=>
  have hm:x∈(Op.load t x).operands.toList:=by simp[Op.operands]
  simp only[quiet]at h ⊢
  rw[←ho hm]
  split at h
  ·rename_i n off hx
   try rw[hx]
   try dsimp only
   split at h
   ·rename_i c2 lH
    rw[rn hm hx rfl lH]
    exact h
   ·cases h
  ·rename_i hx
   try rw[hx]
   exact h
  ·rename_i hx
   try rw[hx]
   exact h
  ·rename_i n i off hx
   try rw[hx]
   try dsimp only
   split at h
   ·rename_i c2 lH
    rw[rn hm hx rfl lH]
    exact h
   ·cases h
  ·cases h
 |binOp op t x y t'=>
  simp only[quiet]at h ⊢
  rw[←ho (x:=x) (by simp[Op.operands]), ←ho (x:=y) (by simp[Op.operands])]
  exact h
 |unOp op t x=>
  cases op with
  |not=>simp only[quiet]at h ⊢;rw[←ho (by simp[Op.operands])];exact h
  |neg=>simp only[quiet]at h ⊢;rw[←ho (by simp[Op.operands])];exact h
  |_=>simp[quiet]at h
 |convert s t x=>
  simp only[quiet]at h ⊢
  rw[←ho (x:=x) (by simp[Op.operands])]
  split at h
  ·rename_i ik n k1 k2 hx hk1 hk2
   try rw[hx,hk1,hk2]
   exact h
  ·rename_i v g' e hx hk1 hk2
   try rw[hx,hk1,hk2]
   try dsimp only
   split at h
   ·rename_i l KZ hl
    rw[KZ,CA c (show RA w T.hp env v _ from hr (x:=x) (by simp[Op.operands]) hx) hl]
    exact h
   ·cases h
  ·cases h
 |slice t x lo hi mx=>
  cases mx with
  |some mx=>
   cases lo with
   |some _=>simp[quiet]at h
   |none=>
    cases hi with
    |none=>simp[quiet]at h
    |some hi=>
     have hb: ∀(y:Operand),y∈(Op.slice t x none (some hi) (some mx)).operands.toList→B8 st p 0 (some y)=B8 T p 0 (some y):=fun y hy=>by simp only[B8];rw[ho hy]
     have hm:x∈(Op.slice t x none (some hi) (some mx)).operands.toList:=by simp[Op.operands]
     simp only[quiet]at h ⊢
     rw[←ho hm, ←hb hi (by simp[Op.operands]), ←hb mx (by simp[Op.operands])]
     split at h
     case h_2=>cases h
     rename_i hk
     try rw[hk]
     try dsimp only
     split at h
     case h_2=>cases h
     rename_i n n1 n2 hx h1 h2
     try rw[hx,h1,h2]
     try dsimp only
     split at h
     case h_2=>cases h
     rename_i t' l hl
     rw[rn hm hx rfl hl]
     exact h
  |none=>
   have hb: ∀(b:Option Operand),(∀y,b=some y→y∈(Op.slice t x lo hi none).operands.toList)→ ∀z,B8 st p z b=B8 T p z b:=by
    intro b hm z
    cases b with
    |none=>rfl
    |some y=>simp only[B8];rw[ho (hm y rfl)]
   have hm:x∈(Op.slice t x lo hi none).operands.toList:=by simp[Op.operands]
   simp only[quiet]at h ⊢
   rw[←ho hm, ←hb lo (by rintro y rfl;simp[Op.operands])]
   simp only[←hb hi (by rintro y rfl;simp[Op.operands])]
   cases hkey:(look cr (d+600000)).isSome with
   |true=>simp only[hkey]at h ⊢;exact h
   |false=>
    simp only[hkey]at h ⊢
    split at h
    ·split at h
     ·rename_i hx hlo
      try rw[hx,hlo]
      exact h
     ·rename_i hx hlo
      try rw[hx,hlo]
      exact h
     ·rename_i hx hlo
      try rw[hx,hlo]
      try dsimp only
      split at h
      ·rename_i lH
       rw[rn hm hx rfl lH]
       exact h
      ·cases h
     ·rename_i hx hlo
      try rw[hx,hlo]
      exact h
     ·cases h
    ·exact h
    ·cases h
 |makeFunc fn first captured=>
  cases fn with
  |func f=>
   simp only[quiet]at h ⊢
   split at h
   ·rename_i x hf hc
    try rw[hf,hc]
    try dsimp only
    have hm:x∈(Op.makeFunc (.func f) first captured).operands.toList:=by simp only[Op.operands,Array.toList_append,hf,hc];simp
    have e:=ho (q:=p) hm
    rw[←e]
    exact h
   ·cases h
  |_=>simp[quiet]at h
 |fieldAddr t x f=>
  simp only[quiet]at h ⊢
  rw[←ho (x:=x) (by simp[Op.operands])]
  exact h
 |indexAddr t x i=>
  have hm:x∈(Op.indexAddr t x i).operands.toList:=by simp[Op.operands]
  simp only[quiet]at h ⊢
  rw[←ho hm, ←ho (x:=i) (by simp[Op.operands])]
  split at h
  ·split at h
   ·rename_i hx hi
    try rw[hx,hi]
    exact h
   ·rename_i hx hi
    try rw[hx,hi]
    try dsimp only
    split at h
    ·rename_i lH
     rw[rn hm hx rfl lH]
     exact h
    ·cases h
   ·rename_i hx hi
    try rw[hx,hi]
    exact h
   ·cases h
  ·cases h
 |extract x i=>
  cases x with
  |tmp t=>simp only[quiet]at h ⊢;rw[←hs (.tmp t) (by simp[Op.operands]) t rfl];exact h
  |_=>simp[quiet]at h
 |call cl=>
  obtain⟨callee,xs,ts⟩:=cl
  have hop: ∀x,x∈xs.toList→x∈(Op.call ⟨callee,xs,ts⟩).operands.toList:=by
   intro x hx
   simp only[Op.operands,Call.operands,Array.toList_append]
   exact List.mem_append_right _ hx
  cases callee with
  |value x=>
   cases x with
   |func f=>
    simp only[quiet]at h ⊢
    split at h
    ·rename_i as c1 h1 h2
     rw[uL c g hp (fun x hx=>hs x (hop x hx)) h1,h2]
     exact h
    ·cases h
   |tmp y=>
    simp only[quiet]at h ⊢
    rw[←ho (x:= .tmp y) (by simp[Op.operands,Call.operands])]
    split at h
    ·rename_i v hv
     try rw[hv]
     try dsimp only
     split at h
     ·rename_i f hf
      try rw[hf]
      try dsimp only
      split at h
      ·rename_i as c1 h1 h2
       rw[uL c g hp (fun x hx=>hs x (hop x hx)) h1,h2]
       exact h
      ·cases h
     ·cases h
    ·cases h
   |_=>simp[quiet]at h
  |builtin b=>
   cases b with
   |len=>
    simp only[quiet]at h ⊢
    split at h
    ·rename_i x t hxl htl
     have hm:x∈xs.toList:=by rw[hxl];simp
     try rw[hxl,htl]
     try dsimp only
     rw[←ho (hop x hm)]
     split at h
     ·rename_i v hv
      try rw[hv]
      try dsimp only
      split at h
      ·rename_i n hn
       rw[F5 c (show RA w T.hp env v _ from hr (hop x hm) hv) hn]
       exact h
      ·cases h
     ·cases h
    ·cases h
   |append=>
    simp only[quiet]at h ⊢
    split at h
    case h_2=>cases h
    rename_i x y t1 t2 hkey hxl htl
    try rw[hkey,hxl,htl]
    try dsimp only
    have KW:x∈xs.toList:=by rw[hxl];simp
    have hmy:y∈xs.toList:=by rw[hxl];simp
    rw[←ho (hop x KW), ←ho (hop y hmy)]
    exact h
   |max=>simp only[quiet]at h ⊢;rw[←rC (st:=st) (T:=T) (xs:=xs.toList) (fun x hx=>ho (hop x hx))];exact h
   |min=>simp only[quiet]at h ⊢;rw[←rC (st:=st) (T:=T) (xs:=xs.toList) (fun x hx=>ho (hop x hx))];exact h
   |_=>simp[quiet]at h
  |invoke _ _=>simp[quiet]at h
 |_=>simp[quiet]at h
theorem I8{p:List (Nat×Bool)}(hs: ∀e,e∈p→look st.sl e.1=look T.sl e.1):hyps st p=hyps T p:=by
 induction p with
 |nil=>rfl
 |cons e r ih=>
  obtain⟨d,x⟩:=e
  simp only[hyps]
  rw[hs (d,x) (by simp),ih fun e he=>hs e (by simp[he])]
theorem zc{Γ:Nat→TK}{E:Tag→Nat→Prop}{S:FuncId→List S1→List S1→Prop}(c:Compat st.hp T.hp)(g:Good ty zb T a.tmps w env)(hn:T.n=st.n){cK:List (Nat×Nat)}{cr:List (Nat×CR)}{ops:List Oper}{o:Oper}{p:List (Nat×Bool)}(eo:dX st ops o=some p)(fW:dX T ops o=some p)(hp:holds a.tmps p)
  (hs: ∀x,x∈o.op.operands.toList→ ∀t,x= .tmp t→look st.sl t=look T.sl t)(hps: ∀e,e∈p→look st.sl e.1=look T.sl e.1){vc:List Prop}{v:SV}{os:Hp}(hf:fresh T.hp os=true)(h:iR Γ E S cK cr ops st o=some (vc,v,os)):
  iR Γ E S cK cr ops T o=some (vc,v,os):=by
 have hd:qS T o.dst=qS st o.dst:=by unfold qS;rw[hn]
 simp only[iR]at h ⊢
 rw[hd,fW]
 rw[eo]at h
 split at h
 ·rename_i m e1 e2 e3
  simp only[oI]at e3
  subst e3
  try rw[e1,e2]
  try dsimp only
  split at h
  ·rename_i nL v1 os1 hq
   rw[quiet_mono c g hp hs hq]
   try dsimp only
   split at h
   ·rename_i h1 h2
    simp only[oI,pI]at h
    obtain⟨rfl,rfl,rfl⟩:=h
    simp only[hf,h2]
   ·cases h
  ·cases h
 ·rename_i m e p' e1 e2 e3
  simp only[oI]at e3
  subst e3
  try rw[e1,e2]
  try dsimp only
  split at h
  ·rename_i h1
   try rw[h1]
   try dsimp only
   split at h
   ·rename_i nL v1 hq
    rw[quiet_mono c g hp hs hq]
    try dsimp only
    rw[←I8 hps]
    exact h
   ·cases h
  ·cases h
 ·cases h
end
end
section
variable{ty:Tag→Nat}
def cm(lK:Nat→Bool)(tr:List TE)(s:St):Nat→St
 |0=>s
 |i+1=>match lK i,tr[i]? with
  |true,some e=>app (cm lK tr s i) e
  |_,_=>cm lK tr s i
abbrev pre(tr:List TE)(s:St)(i:Nat):St:=cm (fun _=>true) tr s i
structure Trace(Γ:Nat→TK)(E:Tag→Nat→Prop)(S:FuncId→List S1→List S1→Prop)(cK:List (Nat×Nat))(cr:List (Nat×CR))(ops:List Oper)(m:Nat)(s:St)(tr:List TE)(vcs:List Prop):Prop where
 len:tr.length=m
 one: ∀i,i<m→ ∃o e vc,ops[i]? =some o∧tr[i]? =some e∧o.dst=some e.d∧((pre tr s i).sl.any fun x=>x.2.mentions e.d)=false∧iR Γ E S cK cr ops (pre tr s i) o=some (vc,e.v,e.os)∧ ∀q,q∈vc→q∈vcs
theorem Ec{Γ:Nat→TK}{E:Tag→Nat→Prop}{S:FuncId→List S1→List S1→Prop}{cK:List (Nat×Nat)}{cr:List (Nat×CR)}{ops:List Oper}: ∀{l:List Oper} {st rA:St} {acc vcs:List Prop},wV Γ E S cK cr ops l st acc=some (vcs,rA)→ ∀q,q∈acc→q∈vcs
 | [],st,rA,acc,vcs,h,q,hq=>by
   simp only[wV,oI,pI]at h
   rw[←h.1];exact hq
 |o::r,st,rA,acc,vcs,h,q,hq=>by
  obtain⟨vc,e,_,_,_,h2⟩:=yZ h
  exact Ec h2 q (List.mem_append_right _ hq)
theorem l8(lK:Nat→Bool)(e:TE)(tr:List TE)(s:St)(h:lK 0=true): ∀i,cm lK (e::tr) s (i+1)=cm (fun j=>lK (j+1)) tr (app s e) i
 |0=>by simp[cm,h]
 |i+1=>by
  rw[cm,l8 lK e tr s h i,cm]
  simp only[List.getElem?_cons_succ]
theorem Ed{Γ:Nat→TK}{E:Tag→Nat→Prop}{S:FuncId→List S1→List S1→Prop}{cK:List (Nat×Nat)}{cr:List (Nat×CR)}{ops:List Oper}: ∀{l:List Oper} {k:Nat} {st rA:St} {acc vcs:List Prop},wV Γ E S cK cr ops l st acc=some (vcs,rA)→(∀i o,l[i]? =some o→ops[k+i]? =some o)→
  ∃tr:List TE,tr.length=l.length∧rA=pre tr st l.length∧ ∀i,i<l.length→ ∃o e vc,ops[k+i]? =some o∧tr[i]? =some e∧o.dst=some e.d∧((pre tr st i).sl.any fun x=>x.2.mentions e.d)=false∧iR Γ E S cK cr ops (pre tr st i) o=some (vc,e.v,e.os)∧ ∀q,q∈vc→q∈vcs
 | [],k,st,rA,acc,vcs,h,_=>by
   simp only[wV,oI,pI]at h
   exact⟨[],rfl,h.2.symm,fun i hi=>absurd hi (by simp)⟩
 |o::r,k,st,rA,acc,vcs,h,hk=>by
  obtain⟨vc,e,h1,h2,h3,h4⟩:=yZ h
  obtain⟨tr,q1,q2,q3⟩:=Ed (k:=k+1) h4 (fun i o' ho=>by
   have:=hk (i+1) o' (by simpa using ho)
   rw[show k+1+i=k+(i+1)by omega];exact this)
  refine⟨e::tr,by simp[q1],?_,?_⟩
  ·rw[q2,List.length_cons]
   exact(l8 (fun _=>true) e tr st rfl _).symm
  ·intro i hi
   cases i with
   |zero=>exact⟨o,e,vc,hk 0 o rfl,rfl,h1,h2,h3,fun q hq=>Ec h4 q (List.mem_append_left _ hq)⟩
   |succ i=>
    obtain⟨o',e',S3,p1,p2,p3,p4,p5,p6⟩:=q3 i (by simpa using hi)
    refine⟨o',e',S3,by rw[show k+(i+1)=k+1+i by omega];exact p1,by simpa using p2,p3,?_,?_,p6⟩
    ·rw[pre,l8 (fun _=>true) e tr st rfl i];exact p4
    ·rw[pre,l8 (fun _=>true) e tr st rfl i];exact p5
section
variable{lK inE:Nat→Bool}{tr:List TE}{s:St}
theorem iV{i:Nat}{e:TE}(h:lK i=true)(he:tr[i]? =some e):cm lK tr s (i+1)=app (cm lK tr s i) e:=by rw[cm,h,he]
theorem tu{i:Nat}(h:lK i=false):cm lK tr s (i+1)=cm lK tr s i:=by rw[cm,h]
theorem kS: ∀i,(cm lK tr s i).n=s.n
 |0=>rfl
 |i+1=>by
  rw[cm]
  split
  ·exact kS i
  ·exact kS i
theorem eE: ∀{i j:Nat} {e:TE},j<i→lK j=true→tr[j]? =some e→(∀j' e',j'<i→lK j'=true→tr[j']? =some e'→e'.d=e.d→j'=j)→look (cm lK tr s i).sl e.d=some e.v
 |i+1,j,e,hj,hin,he,hd=>by
  by_cases hij:j=i
  ·subst hij
   rw[iV hin he];exact look_eq
  ·have ih:=eE (i:=i) (j:=j) (by omega) hin he (fun j' e' h1 h2 h3 h4=>hd j' e' (by omega) h2 h3 h4)
   rw[cm]
   split
   ·rename_i e' h1 h2
    have hne:e.d≠e'.d:=fun hh=>by
     have:=hd i e' (by omega) h1 h2 hh.symm
     omega
    show look ((e'.d,e'.v)::_) e.d=_
    rw[aK hne];exact ih
   ·exact ih
theorem gb: ∀{i:Nat} {t:Nat},(∀j e,j<i→lK j=true→tr[j]? =some e→e.d≠t)→look (cm lK tr s i).sl t=look s.sl t
 |0,_,_=>rfl
 |i+1,t,h=>by
  have ih:=gb (i:=i) (t:=t) fun j e h1 h2 h3=>h j e (by omega) h2 h3
  rw[cm]
  split
  ·rename_i e' h1 h2
   have hne:t≠e'.d:=fun hh=>h i e' (by omega) h1 h2 hh.symm
   show look ((e'.d,e'.v)::_) t=_
   rw[aK hne];exact ih
  ·exact ih
theorem xw: ∀{i:Nat} {x:Nat×SV},x∈(cm lK tr s i).sl→x∈s.sl∨ ∃j e,j<i∧lK j=true∧tr[j]? =some e∧x=(e.d,e.v)
 |0,_,h=>Or.inl h
 |i+1,x,h=>by
  rw[cm]at h
  split at h
  ·rename_i e' h1 h2
   rcases List.mem_cons.1 (show x∈(e'.d,e'.v)::(cm lK tr s i).sl from h)with rfl|h
   ·exact Or.inr ⟨i,e',by omega,h1,h2,rfl⟩
   ·rcases xw h with h| ⟨j,e,a,b⟩
    ·exact Or.inl h
    ·exact Or.inr ⟨j,e,by omega,b⟩
  ·rcases xw h with h| ⟨j,e,a,b⟩
   ·exact Or.inl h
   ·exact Or.inr ⟨j,e,by omega,b⟩
def oH(tr:List TE)(s:St)(m:Nat):Prop:= ∀i e,i<m→tr[i]? =some e→ ∀n o,look e.os n=some o→look (pre tr s i).hp n=none
theorem oJ{m:Nat}(hf:oH tr s m): ∀{j i:Nat},i≤j→j≤m→ ∀{n o},look (pre tr s i).hp n=some o→look (pre tr s j).hp n=some o
 |0,i,hi,_,n,o,h=>by
  have:i=0:=by omega
  subst this;exact h
 |j+1,i,hi,hm,n,o,h=>by
  by_cases hij:i=j+1
  ·subst hij;exact h
  ·have ih:=oJ hf (j:=j) (i:=i) (by omega) (by omega) h
   show look (cm (fun _=>true) tr s (j+1)).hp n=_
   rw[cm]
   split
   ·rename_i e' _ h2
    show look (e'.os++(pre tr s j).hp) n=_
    cases hq:look e'.os n with
    |none=>rw[aN hq];exact ih
    |some o'=>
     have:=hf j e' (by omega) h2 n o' hq
     rw[this]at ih;cases ih
   ·exact ih
theorem jY{m:Nat}(hf:oH tr s m): ∀{i:Nat},i≤m→ ∀{n o},look (cm lK tr s i).hp n=some o→look (pre tr s i).hp n=some o
 |0,_,n,o,h=>h
 |i+1,hm,n,o,h=>by
  rw[cm]at h
  split at h
  ·rename_i e' h1 h2
   have h:look (e'.os++(cm lK tr s i).hp) n=some o:=h
   rw[pre,iV rfl h2]
   show look (e'.os++(pre tr s i).hp) n=some o
   cases hq:look e'.os n with
   |none=>rw[aN hq]at h ⊢;exact jY hf (by omega) h
   |some o'=>rw[bt hq]at h ⊢;exact h
  ·exact oJ hf (Nat.le_succ i) hm (jY hf (by omega) h)
theorem eN: ∀{i:Nat} {n:Nat} {o:Obj},look (cm lK tr s i).hp n=some o→look s.hp n=some o∨ ∃j e,j<i∧lK j=true∧tr[j]? =some e∧look e.os n=some o
 |0,_,_,h=>Or.inl h
 |i+1,n,o,h=>by
  rw[cm]at h
  split at h
  ·rename_i e' h1 h2
   have h:look (e'.os++(cm lK tr s i).hp) n=some o:=h
   cases hq:look e'.os n with
   |none=>
    rw[aN hq]at h
    rcases eN h with h| ⟨j,e,a,b⟩
    ·exact Or.inl h
    ·exact Or.inr ⟨j,e,by omega,b⟩
   |some o'=>
    rw[bt hq]at h
    exact Or.inr ⟨i,e',by omega,h1,h2,by rw[hq];exact h⟩
  ·rcases eN h with h| ⟨j,e,a,b⟩
   ·exact Or.inl h
   ·exact Or.inr ⟨j,e,by omega,b⟩
theorem kU{m:Nat}(hf:oH tr s m): ∀{i:Nat},i≤m→ ∀{n o},look s.hp n=some o→look (cm lK tr s i).hp n=some o
 |0,_,n,o,h=>h
 |i+1,hm,n,o,h=>by
  have ih:=kU hf (i:=i) (by omega) h
  rw[cm]
  split
  ·rename_i e' h1 h2
   show look (e'.os++(cm lK tr s i).hp) n=some o
   cases hq:look e'.os n with
   |none=>rw[aN hq];exact ih
   |some o'=>
    have h1:=hf i e' (by omega) h2 n o' hq
    have h3:=jY hf (by omega) ih
    rw[h1]at h3;cases h3
  ·exact ih
theorem jL{m:Nat}(hf:oH tr s m): ∀{i:Nat},i≤m→ ∀{j:Nat} {e:TE} {n:Nat} {o:Obj},j<i→lK j=true→tr[j]? =some e→look e.os n=some o→look (cm lK tr s i).hp n=some o
 |i+1,hm,j,e,n,o,hj,hin,he,h=>by
  by_cases hij:j=i
  ·subst hij
   rw[iV hin he]
   exact bt h
  ·have ih:=jL hf (i:=i) (by omega) (j:=j) (by omega) hin he h
   rw[cm]
   split
   ·rename_i e' h1 h2
    show look (e'.os++(cm lK tr s i).hp) n=some o
    cases hq:look e'.os n with
    |none=>rw[aN hq];exact ih
    |some o'=>
     have h1:=hf i e' (by omega) h2 n o' hq
     have h3:=jY hf (by omega) ih
     rw[h1]at h3;cases h3
   ·exact ih
end
theorem ze{hp:Hp}: ∀{os:Hp},(∀n o,look os n=some o→look hp n=none∧fu n=false)→fresh hp os=true
 | [],_=>rfl
 | (n,x)::r,h=>by
   simp only[fresh,Bool.and_eq_true]
   obtain⟨h1,h2⟩:=h n x look_eq
   refine⟨⟨by rw[h1],by rw[h2];rfl⟩,ze fun k o hk=> ?_⟩
   by_cases hkn:k=n
   ·subst hkn;exact h k x look_eq
   ·exact h k o (by rw[aK hkn];exact hk)
theorem Good.congr{zb:bP}{st st':St}{tmps:Array Value}{w:World}{env:Env}(g:Good ty zb st tmps w env)(hs: ∀s v,look st'.sl s=some v→look st.sl s=some v)(hh: ∀n,look st'.hp n=look st.hp n):Good ty zb st' tmps w env:=by
 have s:Step (fun _=>True) (fun _=>True) w st.hp env w st'.hp env:=by
  refine⟨fun _ _ _=>rfl,?_,?_,?_⟩
  ·rintro b _ ⟨n,o,h1,h2⟩;exact⟨n,o,by rw[←hh];exact h1,h2⟩
  ·intro n o _ h1
   exact⟨o,by rw[hh];exact h1,by cases o<;>simp[Obj.like],rfl⟩
  ·intro n t l _ h1
   exact⟨by rw[hh];exact h1,rfl,fun _ _=>rfl⟩
 refine⟨fun n o hl=> ?_,fun n m o o' hne h1 h2=>g.fU n m o o' hne (by rw[←hh];exact h1) (by rw[←hh];exact h2),fun t v hl=>lT.step s (fun v _=>v.cz) (g.slot t v (hs t v hl)),fun n o hl=>g.dom n o (by rw[←hh];exact hl),g.pins⟩
 exact(g.obj n o (by rw[←hh];exact hl)).step s o.cz (fun _ _=>rfl)
end
section
variable{ty:Tag→Nat}
theorem tv{α:Type}: ∀{l:List α} {k i:Nat} {x:α},l[i]? =some x→(k+i,x)∈idx k l
 |y::r,k,0,x,h=>by simp at h;simp[idx,h]
 |y::r,k,i+1,x,h=>by
  have:=tv (l:=r) (k:=k+1) (i:=i) (by simpa using h)
  rw[idx];right
  rw[show k+(i+1)=k+1+i by omega];exact this
structure VE(ops:List Oper)(m:Nat):Prop where
 le:m≤ops.length
 back: ∀i o,ops[i]? =some o→ ∀j,j∈bD o→j<i
 uses: ∀i o,i<m→ops[i]? =some o→ ∀t,t∈tmpsOf o→ ∀k o',k<m→ops[k]? =some o'→o'.dst=some t→k=i∨k∈bD o∨(i<k∧((Bq ops).getD k 0).testBit i=true)
 guard: ∀i o j x,i<m→ops[i]? =some o→o.guard=some (j,x)→j<i∧j<m∧j∈bD o
 dist: ∀i o k o' d,i<m→k<m→ops[i]? =some o→ops[k]? =some o'→o.dst=some d→o'.dst=some d→k=i
 tail: ∀i o,m≤i→ops[i]? =some o→ ∀j,j<i→((Bq ops).getD i 0).testBit j=true
theorem S4{ops:List Oper}{m:Nat}(h:W0 ops m=true):VE ops m:=by
 simp only[W0,Bool.and_eq_true,List.all_eq_true,Bool.or_eq_true]at h
 obtain⟨⟨⟨h1,h2⟩,h3⟩,h4⟩:=h
 have hA: ∀{i o},i<m→ops[i]? =some o→(i,o)∈idx 0 (ops.take m):=by
  intro i o hi ho
  have:=tv (l:=ops.take m) (k:=0) (i:=i) (x:=o) (by rw[List.getElem?_take,if_pos hi];exact ho)
  simpa using this
 have hall: ∀{i o},ops[i]? =some o→(i,o)∈idx 0 ops:=by
  intro i o ho
  simpa using tv (l:=ops) (k:=0) ho
 refine⟨Nat.le_of_ble_eq_true h1,fun i o ho j hj=> ?_,fun i o hi ho t ht k o' hk ho' hd=> ?_,fun i o j x hi ho hg=> ?_,fun i o k o' d hi hk ho ho' hd hd'=> ?_,fun i o hi ho j hj=> ?_⟩
 ·have:=h2 _ (hall ho) j hj
  exact Nat.le_of_ble_eq_true this
 ·have hu:=(h3 _ (hA hi ho)).1.1
  simp only[LN,List.all_eq_true,Bool.or_eq_true,Bool.not_eq_true',List.any_eq_true,Bool.and_eq_true]at hu
  have W1:tj o' t=true:=by simp[tj,hd]
  rcases hu t ht _ (hA hk ho')with((q|q)|q)|q
  ·rw[W1]at q;cases q
  ·exact Or.inl (Nat.eq_of_beq_eq_true q)
  ·obtain⟨y,hy,q⟩:=q
   have hky:k=y:=Nat.eq_of_beq_eq_true q
   exact Or.inr (Or.inl (by rw[hky];exact hy))
  ·exact Or.inr (Or.inr ⟨Nat.le_of_ble_eq_true q.1,q.2⟩)
 ·have hgd:=(h3 _ (hA hi ho)).1.2
  simp only[HA,hg,Bool.and_eq_true,List.any_eq_true]at hgd
  obtain⟨⟨q1,q2⟩,y,hy,q3⟩:=hgd
  have:=Nat.eq_of_beq_eq_true q3
  exact⟨Nat.le_of_ble_eq_true q1,Nat.le_of_ble_eq_true q2,by rw[this];exact hy⟩
 ·have hds:=(h3 _ (hA hi ho)).2
  simp only[LO,hd,List.all_eq_true,Bool.or_eq_true,Bool.not_eq_true']at hds
  rcases hds _ (hA hk ho')with q|q
  ·exact Nat.eq_of_beq_eq_true q
  ·simp[tj,hd']at q
 ·rcases h4 _ (hall ho)with q|q
  ·have:=Nat.le_of_ble_eq_true q
   simp only at this
   omega
  ·exact q j (List.mem_range.2 hj)
theorem HB: ∀(l:List Oper) (acc:List Nat),(∀j,j<acc.length→(l.foldl fP acc).getD j 0=acc.getD j 0)∧
  ∀i o,l[i]? =some o→(∀j,j∈bD o→j<acc.length+i)→(l.foldl fP acc).getD (acc.length+i) 0=(bD o).foldl (fun s j=>s|||2^j||| (l.foldl fP acc).getD j 0) 0
 | [],acc=>⟨fun _ _=>rfl,fun i o h=>by simp at h⟩
 |o::r,acc=>by
  obtain⟨h1,h2⟩:=HB r (fP acc o)
  have hl:(fP acc o).length=acc.length+1:=by simp[fP]
  have ha: ∀j,j<acc.length→((o::r).foldl fP acc).getD j 0=acc.getD j 0:=by
   intro j hj
   rw[List.foldl_cons,h1 j (by omega)]
   simp only[fP,List.getD_eq_getElem?_getD]
   rw[List.getElem?_append_left hj]
  refine⟨ha,fun i o' ho hj=> ?_⟩
  cases i with
  |zero=>
   simp at ho
   subst ho
   rw[Nat.add_zero,List.foldl_cons,h1 _ (by omega)]
   have:(fP acc o).getD acc.length 0=(bD o).foldl (fun s j=>s|||2^j|||acc.getD j 0) 0:=by
    simp[fP,List.getD_eq_getElem?_getD]
   rw[this]
   have VF: ∀(es:List Nat) (s0:Nat),(∀j,j∈es→j<acc.length)→es.foldl (fun s j=>s|||2^j|||acc.getD j 0) s0=es.foldl (fun s j=>s|||2^j||| (r.foldl fP (fP acc o)).getD j 0) s0:=by
    intro es
    induction es with
    |nil=>intros;rfl
    |cons j es ih=>
     intro s0 hh
     rw[List.foldl_cons,List.foldl_cons,ih _ fun k hk=>hh k (by simp[hk])]
     have:=ha j (hh j (by simp))
     rw[List.foldl_cons]at this
     rw[this]
   exact VF _ _ fun j X7=>by simpa using hj j X7
  |succ i=>
   have:=h2 i o' (by simpa using ho) (fun j X7=>by rw[hl];have:=hj j X7;omega)
   rw[hl,show acc.length+1+i=acc.length+(i+1)by omega]at this
   rw[List.foldl_cons];exact this
theorem zf(g:Nat→Nat)(k:Nat): ∀(es:List Nat) (s0:Nat),(es.foldl (fun s j=>s|||2^j|||g j) s0).testBit k=true→s0.testBit k=true∨ ∃j,j∈es∧(k=j∨(g j).testBit k=true)
 | [],s0,h=>Or.inl h
 |j::es,s0,h=>by
  rcases zf g k es _ h with h| ⟨i,hi,h⟩
  ·rw[Nat.testBit_or,Nat.testBit_or,Nat.testBit_two_pow]at h
   simp only[Bool.or_eq_true,decide_eq_true_eq]at h
   rcases h with(h|h)|h
   ·exact Or.inl h
   ·exact Or.inr ⟨j,by simp,Or.inl h.symm⟩
   ·exact Or.inr ⟨j,by simp,Or.inr h⟩
  ·exact Or.inr ⟨i,by simp[hi],h⟩
theorem oK{ops:List Oper}(hb: ∀i o,ops[i]? =some o→ ∀j,j∈bD o→j<i){D:Nat→Prop}(hD: ∀i o,D i→ops[i]? =some o→ ∀j,j∈bD o→D j): ∀(i:Nat) (o:Oper),ops[i]? =some o→(∀j,j∈bD o→D j)→ ∀k,((Bq ops).getD i 0).testBit k=true→D k:=by
 intro i
 induction i using Nat.strongRecOn with
 |_ i ih=>
  intro o ho he k hk
  have:=(HB ops []).2 i o ho (fun j hj=>by simpa using hb i o ho j hj)
  simp only[List.length_nil,Nat.zero_add]at this
  have hc:(Bq ops).getD i 0=(bD o).foldl (fun s j=>s|||2^j||| (Bq ops).getD j 0) 0:=this
  rw[hc]at hk
  rcases zf _ k _ _ hk with h| ⟨j,hj,h⟩
  ·simp at h
  ·rcases h with rfl|h
   ·exact he k hj
   ·have hji:=hb i o ho j hj
    have hlen:j<ops.length:=by have:=(List.getElem?_eq_some_iff.1 ho).1;omega
    exact ih j hji ops[j] (List.getElem?_eq_getElem hlen) (hD j _ (he j hj) (List.getElem?_eq_getElem hlen)) k h
section
variable{P:Program}{Γ:Nat→TK}{cK:List (Nat×Nat)}{cr:List (Nat×CR)}{ops:List Oper}{m:Nat}{s:St}{tr:List TE}{vcs:List Prop}
theorem fC{E:Tag→Nat→Prop}{S:FuncId→List S1→List S1→Prop}{st:St}{o:Oper}{vc:List Prop}{v:SV}{os:Hp}(h:iR Γ E S cK cr ops st o=some (vc,v,os)):
  ∃p,dX st ops o=some p∧(p= []→ ∀q x,v≠ .cond q x)∧(p≠ []→(∃x,v= .cond p x)∧os= []∧ ∀d,o.dst=some d→ ∀e,e∈p→e.1≠d)∧(∀n x,look os n=some x→look st.hp n=none∧fu n=false):=by
 unfold iR at h
 split at h
 ·rename_i nm _ _ hg
  split at h
  ·rename_i nL v1 os1 hq
   split at h
   ·rename_i hf _
    simp only[oI,pI]at h
    obtain⟨_,rfl,rfl⟩:=h
    refine⟨[],hg,fun _ q x=> ?_,fun hh=>absurd rfl hh,fun n x hl=>⟨jR hf n x hl,uy hf n x hl⟩⟩
    rintro rfl
    unfold quiet KD at hq
    repeat' split at hq
    all_goals first
     | (cases hq;done)
     | (simp only[cS,oI,Out.mk.injEq]at hq;cases hq.2.1;done)
     | (simp only[oI,Out.mk.injEq]at hq;cases hq.2.1;done)
     | (simp only[oI]at hq;unfold outs at hq;(repeat' split at hq)<;>(simp only[Out.mk.injEq]at hq;cases hq.2.1))
   ·cases h
  ·cases h
 ·rename_i nm e p _ _ hg
  split at h
  ·rename_i VG
   split at h
   ·rename_i nL v1 hq
    simp only[oI,pI]at h
    obtain⟨_,rfl,rfl⟩:=h
    refine⟨e::p,hg,(fun hh=>by cases hh),fun _=>⟨⟨_,rfl⟩,rfl,fun d hd x hx hxd=> ?_⟩,fun n x hl=>by simp[look]at hl⟩
    rw[List.any_eq_false]at VG
    exact VG x hx (by rw[hd,hxd];simp)
   ·cases h
  ·cases h
 ·cases h
theorem Trace.fresh{E:Tag→Nat→Prop}{S:FuncId→List S1→List S1→Prop}(T:Trace Γ E S cK cr ops m s tr vcs):oH tr s m:=by
 intro i e hi he n x hl
 obtain⟨o,e',vc,_,he',_,_,hq,_⟩:=T.one i hi
 rw[he]at he'
 simp only[oI]at he'
 subst he'
 obtain⟨p,_,_,_,hf⟩:=fC hq
 exact(hf n x hl).1
theorem Trace.path{E:Tag→Nat→Prop}{S:FuncId→List S1→List S1→Prop}(T:Trace Γ E S cK cr ops m s tr vcs)(K:VE ops m): ∀(i:Nat),i<m→ ∀o p,ops[i]? =some o→dX (pre tr s i) ops o=some p→ ∀e,e∈p→
  ∃k o',k<i∧ops[k]? =some o'∧o'.dst=some e.1∧ ∀D:Nat→Prop,(∀i o,D i→ops[i]? =some o→ ∀j,j∈bD o→D j)→(∀j,j∈bD o→D j)→D k:=by
 intro i
 induction i using Nat.strongRecOn with
 |_ i ih=>
  intro hi o p ho hg e he
  unfold dX at hg
  split at hg
  ·simp at hg;subst hg;simp at he
  ·rename_i j x hgd
   obtain⟨hji,X8,UE⟩:=K.guard i o j x hi ho hgd
   obtain⟨q,ej,vcj,hq,X9,RD,_,LP,_⟩:=T.one j X8
   rw[hq]at hg
   dsimp only at hg
   rw[RD]at hg
   dsimp only at hg
   have Bp:look (pre tr s i).sl ej.d=some ej.v:=by
    refine eE hji rfl X9 fun j' e' h1 _ h3 h4=> ?_
    obtain⟨q',e2,_,Po,sZ,hd2,_⟩:=T.one j' (by omega)
    rw[h3]at sZ
    simp only[oI]at sZ
    subst sZ
    exact K.dist j q j' q' ej.d X8 (by omega) hq Po RD (by rw[hd2,h4])
   rw[Bp]at hg
   obtain⟨pj,S5,fk,dM,_⟩:=fC LP
   have base: ∃k o',k<i∧ops[k]? =some o'∧o'.dst=some ej.d∧ ∀D:Nat→Prop,(∀i o,D i→ops[i]? =some o→ ∀j,j∈bD o→D j)→(∀j,j∈bD o→D j)→D k:=
    ⟨j,q,hji,hq,RD,fun D _ hE=>hE j UE⟩
   split at hg
   ·simp only[oI]at hg
    subst hg
    simp only[List.mem_singleton]at he
    subst he
    exact base
   ·rename_i p' b hv
    simp only[oI]at hv
    simp only[oI]at hg
    subst hg
    rcases List.mem_cons.1 he with rfl|he
    ·exact base
    ·have VC:pj=p':=by
      by_cases hnil:pj= []
      ·exact absurd hv (fk hnil _ _)
      ·obtain⟨x',hx'⟩:=(dM hnil).1
       rw[hx']at hv
       simp only[SV.cond.injEq]at hv
       exact hv.1
     subst VC
     obtain⟨k,o',h1,h2,h3,h4⟩:=ih j hji X8 q pj hq S5 e he
     exact⟨k,o',by omega,h2,h3,fun D hD hE=>h4 D hD (hD j q (hE j UE) hq)⟩
   ·cases hg
theorem I9(C: ∀t,b7 P t (Γ t))(T:Trace Γ (A5 P ty) (Sound ty P) cK cr ops m s tr vcs)(K:VE ops m)(hv: ∀q,q∈vcs→q)(hnc:Cz s.sl=true){zb:bP}{Q:Exit→Act→World→Prop}{D:Nat→Bool}(RE: ∀i,D i=true→i<m)(xy: ∀i o,D i=true→ops[i]? =some o→ ∀j,j∈bD o→D j=true)
  {i:Nat}(hi:i<m)(Av:D i=false){o:Oper}(ho:ops[i]? =some o)(hE: ∀j,j∈bD o→D j=true){a:Act}{w:World}(iv:Inv ty zb (cm D tr s m) a w):
  kK P ops.toArray o a w (fun a' w'=>Inv ty zb (cm (fun j=>D j||j==i) tr s m) a' w') Q:=by
 obtain⟨o',e,vc,ho',he,hd,hnm,hq,OT⟩:=T.one i hi
 rw[ho]at ho'
 simp only[oI]at ho'
 subst ho'
 have hfr:=T.fresh
 have hdist: ∀{j e'},j<m→tr[j]? =some e'→ ∃q,ops[j]? =some q∧q.dst=some e'.d:=by
  intro j e' hj he'
  obtain⟨q,e2,_,Po,sZ,hd2,_⟩:=T.one j hj
  rw[he']at sZ
  simp only[oI]at sZ
  subst sZ
  exact⟨q,Po,hd2⟩
 have oL: ∀{j j':Nat} {e1 e2:TE},j<m→j'<m→tr[j]? =some e1→tr[j']? =some e2→e2.d=e1.d→j'=j:=by
  intro j j' e1 e2 h1 h2 h3 h4 h5
  obtain⟨q1,p1,p2⟩:=hdist h1 h3
  obtain⟨q2,p3,p4⟩:=hdist h2 h4
  exact K.dist j q1 j' q2 e1.d h1 h2 p1 p3 p2 (by rw[p4,h5])
 have agree: ∀t,(∀k o',k<m→ops[k]? =some o'→o'.dst=some t→k=i∨(k<i∧D k=true)∨(i<k∧D k=false))→look (pre tr s i).sl t=look (cm D tr s m).sl t:=by
  intro t ht
  by_cases hex: ∃k e',k<i∧D k=true∧tr[k]? =some e'∧e'.d=t
  ·obtain⟨k,e',hk,jf,he',rfl⟩:=hex
   rw[eE hk rfl he' fun j' e2 h1 _ h3 h4=>oL (by omega) (by omega) he' h3 h4,eE (by omega) jf he' fun j' e2 h1 _ h3 h4=>oL (by omega) h1 he' h3 h4]
  ·rw[gb (fun k e' hk _ he' hdt=>by
      obtain⟨q,h1,h2⟩:=hdist (by omega) he'
      rcases ht k q (by omega) h1 (by rw[h2,hdt])with h|h|h
      ·omega
      ·exact hex ⟨k,e',hk,h.2,he',hdt⟩
      ·omega),
    gb (fun k e' hk jf he' hdt=>by
     obtain⟨q,h1,h2⟩:=hdist hk he'
     rcases ht k q hk h1 (by rw[h2,hdt])with h|h|h
     ·subst h;rw[Av]at jf;cases jf
     ·exact hex ⟨k,e',h.1,h.2,he',hdt⟩
     ·rw[h.2]at jf;cases jf)]
 obtain⟨p,eo,fk,dM,AE⟩:=fC hq
 have VH: ∀x,x∈p→ ∃k o',k<i∧ops[k]? =some o'∧o'.dst=some x.1∧D k=true:=by
  intro x hx
  obtain⟨k,o',h1,h2,h3,h4⟩:=T.path K i hi o p ho eo x hx
  exact⟨k,o',h1,h2,h3,h4 (fun j=>D j=true) xy hE⟩
 have tB: ∀x,x∈p→look (pre tr s i).sl x.1=look (cm D tr s m).sl x.1:=by
  intro x hx
  obtain⟨k,o',h1,h2,h3,h4⟩:=VH x hx
  refine agree x.1 fun k' o2 hk' Fx hd2=> ?_
  have:k'=k:=K.dist k o' k' o2 x.1 (by omega) hk' h2 Fx h3 hd2
  subst this
  exact Or.inr (Or.inl ⟨h1,h4⟩)
 have fW:dX (cm D tr s m) ops o=some p:=by
  rw[←eo]
  unfold dX
  split
  ·rfl
  ·rename_i j x hgd
   split
   ·rename_i q zg
    split
    ·rename_i d Fv
     have hmem: ∃y,(d,y)∈p:=by
      unfold dX at eo
      rw[hgd]at eo
      dsimp only at eo
      rw[zg]at eo
      dsimp only at eo
      rw[Fv]at eo
      dsimp only at eo
      split at eo
      ·simp only[oI]at eo;exact⟨x,by rw[←eo];simp⟩
      ·simp only[oI]at eo;exact⟨x,by rw[←eo];simp⟩
      ·cases eo
     obtain⟨y,hy⟩:=hmem
     rw[←tB (d,y) hy]
    ·rfl
   ·rfl
 have F6:fresh (cm D tr s m).hp e.os=true:=by
  refine ze fun n x hl=> ?_
  cases Fw:look (cm D tr s m).hp n with
  |none=>exact⟨rfl,(AE n x hl).2⟩
  |some y=>
   exfalso
   have hpi:=hfr i e hi he n x hl
   rcases eN Fw with h| ⟨j,e',hj,uN,he',h⟩
   ·have:=kU (lK:=fun _=>true) hfr (i:=i) (by omega) h
    rw[show cm (fun _=>true) tr s i=pre tr s i from rfl,hpi]at this
    cases this
   ·have hji:j≠i:=by rintro rfl;rw[Av]at uN;cases uN
    by_cases hlt:j<i
    ·have:=jL (lK:=fun _=>true) hfr (i:=i) (by omega) hlt rfl he' h
     rw[show cm (fun _=>true) tr s i=pre tr s i from rfl,hpi]at this
     cases this
    ·have h2:=hfr j e' hj he' n y h
     have:=jL (lK:=fun _=>true) hfr (i:=j) (by omega) (j:=i) (by omega) rfl he hl
     rw[show cm (fun _=>true) tr s j=pre tr s j from rfl,h2]at this
     cases this
 have LQ:((cm D tr s m).sl.any fun x=>x.2.mentions e.d)=false:=by
  rw[List.any_eq_false]
  intro x hx hm
  rcases xw hx with h| ⟨j,e',hj,uN,he',rfl⟩
  ·simp only[Cz,List.all_eq_true]at hnc
   have:=hnc x h
   cases ny:x.2 with
   |cond q y=>simp[ny]at this
   |one y=>simp[ny,SV.mentions]at hm
   |qR y=>simp[ny,SV.mentions]at hm
  ·obtain⟨q,e2,Rn,zg,sZ,hd2,_,LP,_⟩:=T.one j hj
   rw[he']at sZ
   simp only[oI]at sZ
   subst sZ
   obtain⟨pj,S5,hj0,K8,_⟩:=fC LP
   by_cases hnil:pj= []
   ·cases ny:e'.v with
    |cond q y=>exact hj0 hnil _ _ ny
    |one y=>simp[ny,SV.mentions]at hm
    |qR y=>simp[ny,SV.mentions]at hm
   ·obtain⟨y,hy⟩:=(K8 hnil).1
    simp only[hy,SV.mentions,List.any_eq_true]at hm
    obtain⟨z,hz,hzd⟩:=hm
    have hzd:=Nat.eq_of_beq_eq_true hzd
    obtain⟨k,o2,k1,k2,k3,k4⟩:=T.path K j hj q pj zg S5 z hz
    have jf:=k4 (fun j=>D j=true) xy (xy j q uN zg)
    have:k=i:=K.dist i o k o2 e.d hi (by omega) ho k2 hd (by rw[k3,hzd])
    subst this
    rw[Av]at jf;cases jf
 have WD:e.v.mentions e.d=false:=by
  by_cases hnil:p= []
  ·cases ny:e.v with
   |cond q y=>exact absurd ny (fk hnil _ _)
   |one y=>rfl
   |qR y=>rfl
  ·obtain⟨⟨y,hy⟩,_,hne⟩:=dM hnil
   rw[hy]
   simp only[SV.mentions]
   rw[List.any_eq_false]
   intro z hz hb
   exact hne e.d hd z hz (Nat.eq_of_beq_eq_true hb)
 have behind: ∀a' w',Inv ty zb (app (cm D tr s m) e) a' w'→Inv ty zb (cm (fun j=>D j||j==i) tr s m) a' w':=by
  intro a' w' jA
  obtain⟨env,g⟩:=jA.good
  refine⟨by rw[jA.size,kS];show(cm D tr s m).n=s.n;exact kS m,jA.defers,jA.kept,jA.wN,env,g.congr ?_ ?_⟩
  ·intro t v hl
   show look ((e.d,e.v)::(cm D tr s m).sl) t=some v
   by_cases ht:t=e.d
   ·subst ht
    rw[eE hi (by simp) he fun j' e2 h1 _ h3 h4=>oL hi h1 he h3 h4]at hl
    rw[look_eq];exact hl
   ·rw[aK ht]
    by_cases hex: ∃k e',k<m∧D k=true∧tr[k]? =some e'∧e'.d=t
    ·obtain⟨k,e',hk,jf,he',rfl⟩:=hex
     rw[eE hk (by simp[jf]) he' fun j' e2 h1 _ h3 h4=>oL hk h1 he' h3 h4]at hl
     rw[eE hk jf he' fun j' e2 h1 _ h3 h4=>oL hk h1 he' h3 h4]
     exact hl
    ·rw[gb fun k e' hk jf he' hdt=>by
      simp only[Bool.or_eq_true,beq_iff_eq]at jf
      rcases jf with h|rfl
      ·exact hex ⟨k,e',hk,h,he',hdt⟩
      ·rw[he]at he'
       simp only[oI]at he'
       exact ht (by rw[he',hdt])]at hl
     rw[gb fun k e' hk jf he' hdt=>hex ⟨k,e',hk,jf,he',hdt⟩]
     exact hl
  ·intro n
   show look (cm (fun j=>D j||j==i) tr s m).hp n=look (e.os++(cm D tr s m).hp) n
   cases hl:look e.os n with
   |some x=>
    rw[bt hl]
    exact jL hfr (Nat.le_refl _) hi (by simp) he hl
   |none=>
    rw[aN hl]
    cases hx:look (cm (fun j=>D j||j==i) tr s m).hp n with
    |some y=>
     rcases eN hx with h| ⟨j,e',hj,uN,he',h⟩
     ·exact(kU hfr (Nat.le_refl _) h).symm
     ·have hji:j≠i:=by
       rintro rfl
       rw[he]at he'
       simp only[oI]at he'
       subst he'
       rw[hl]at h;cases h
      have uN:D j=true:=by
       simp only[Bool.or_eq_true,beq_iff_eq]at uN
       exact uN.resolve_right hji
      exact(jL hfr (Nat.le_refl _) hj uN he' h).symm
    |none=>
     cases hy:look (cm D tr s m).hp n with
     |none=>rfl
     |some y=>
      rcases eN hy with h| ⟨j,e',hj,uN,he',h⟩
      ·rw[kU hfr (Nat.le_refl _) h]at hx;cases hx
      ·rw[jL hfr (Nat.le_refl _) hj (by simp[uN]) he' h]at hx;cases hx
 have hput:St.put ⟨(cm D tr s m).n,(cm D tr s m).sl,e.os++(cm D tr s m).hp⟩ o.dst e.v=app (cm D tr s m) e:=by
  rw[hd]
  simp only[St.put,LQ]
  rfl
 by_cases hw:Region.wanted o (yielded ops.toArray a.tmps)=true
 ·have hh:holds a.tmps p:=by
   obtain⟨env,g⟩:=iv.good
   unfold dX at fW
   split at fW
   ·simp at fW;subst fW;intro y hy;simp at hy
   ·rename_i j x hgd
    split at fW
    ·rename_i q zg
     split at fW
     ·rename_i d Fv
      have S6:=(jS (ops:=ops.toArray) hgd (by simpa using zg) Fv a.tmps).1 hw
      split at fW
      ·simp only[oI]at fW
       subst fW
       intro y hy
       simp at hy
       subst hy
       exact S6
      ·rename_i p' b hl
       simp only[oI]at fW
       subst fW
       intro y hy
       rcases List.mem_cons.1 hy with rfl|hy
       ·exact S6
       ·exact(pV g hl S6).1 y hy
      ·cases fW
     ·cases fW
    ·cases fW
  obtain⟨env,g⟩:=iv.good
  have CB:Compat (pre tr s i).hp (cm D tr s m).hp:=by
   intro n x y h1 h2
   have h3:=oJ hfr (Nat.le_of_lt hi) (Nat.le_refl m) h1
   have h4:=jY hfr (Nat.le_refl m) h2
   rw[h3]at h4
   simpa using h4
  have hmono:=zc CB g (by rw[kS,kS]) eo fW hh (fun x hx t Ya=>agree t fun k o2 hk Fx hd2=>by
    have ht:t∈tmpsOf o:=by
     simp only[tmpsOf,List.mem_filterMap]
     exact⟨x,hx,by rw[Ya]⟩
    rcases K.uses i o hi ho t ht k o2 hk Fx hd2 with h|h|h
    ·exact Or.inl h
    ·exact Or.inr (Or.inl ⟨K.back i o ho k h,hE k h⟩)
    ·refine Or.inr (Or.inr ⟨h.1,?_⟩)
     cases jf:D k with
     |false=>rfl
     |true=>
      have:=oK (D:=fun j=>D j=true) K.back xy k o2 Fx (xy k o2 jf Fx) i h.2
      rw[Av]at this;cases this) tB F6 hq
  have:=yB (Q:=Q) C hmono iv (fun q hq=>hv q (OT q hq))
  rw[hput]at this
  exact this.mono behind
 ·unfold kK
  rw[if_neg hw]
  have hnil:p≠ []:=by
   rintro rfl
   unfold dX at eo
   split at eo
   ·rename_i hgd;exact hw (by simp[Region.wanted,hgd])
   ·repeat' split at eo
    all_goals simp at eo
  obtain⟨⟨y,hy⟩,hos,_⟩:=dM hnil
  have Yb: ¬holds a.tmps p:=by
   intro hh
   unfold dX at eo
   split at eo
   ·rename_i hgd;exact hw (by simp[Region.wanted,hgd])
   ·rename_i j x hgd
    split at eo
    ·rename_i q zg
     split at eo
     ·rename_i d Fv
      have Yc:(d,x)∈p:=by
       split at eo
       ·simp only[oI]at eo;rw[←eo];simp
       ·simp only[oI]at eo;rw[←eo];simp
       ·cases eo
      exact hw ((jS (ops:=ops.toArray) hgd (by simpa using zg) Fv a.tmps).2 (hh _ Yc))
     ·cases eo
    ·cases eo
  apply behind
  obtain⟨env,g⟩:=iv.good
  have hlt:e.d<a.tmps.size:=by
   unfold iR at hq
   have:qS (pre tr s i) o.dst=true:=by
    cases S7:qS (pre tr s i) o.dst with
    |true=>rfl
    |false=>rw[S7]at hq;simp at hq
   rw[hd]at this
   rw[iv.size,kS]
   have:=Nat.le_of_ble_eq_true this
   rw[show(pre tr s i).n=s.n from kS i]at this
   exact this
  have LR:=g.put (d:=e.d) hlt (v:=e.v) (u:=undef) (by rw[hy];exact⟨fun hh=>absurd hh Yb,fun _=>rfl⟩) WD
  refine⟨by rw[iU];exact iv.size,by rw[put_defers];exact iv.defers,iv.kept,iv.wN,env,?_⟩
  rw[hd]
  have S8:(cm D tr s m).put (some e.d) e.v=app (cm D tr s m) e:=by
   simp only[St.put,LQ,app,hos]
   rfl
  rw[S8]at LR
  exact LR
end
end
section
variable{ty:Tag→Nat}
theorem gE{ops:List Oper}{listed:Array Bool}(hl:listed.size=ops.length){i:Nat}:i∈Region.ready .any ops.toArray listed↔ ∃o,ops[i]? =some o∧listed.getD i false=false∧ ∀j,j∈bD o→listed.getD j false=true:=by
 unfold Region.ready
 rw[List.mem_filter,List.mem_range]
 simp only[List.size_toArray,List.getElem?_toArray,Bool.and_eq_true,Bool.not_eq_true']
 constructor
 ·rintro⟨hi,h1,h2⟩
  refine⟨ops[i],List.getElem?_eq_getElem hi,?_,?_⟩
  ·have:listed[i]? =some listed[i]:=by simp[hl,hi]
   rw[Array.getD_eq_getD_getElem?,this]at h1 ⊢
   exact h1
  ·intro j hj
   simp only[bD,List.mem_filterMap,Array.mem_toList_iff]at hj
   obtain⟨e,he,hj⟩:=hj
   split at hj
   ·rename_i hb
    simp only[oI]at hj
    subst hj
    rw[List.getElem?_eq_getElem hi]at h2
    simp only[Option.map_some,Option.getD_some]at h2
    have:=Array.all_eq_true_iff_forall_mem.1 h2 e he
    simpa[hb]using this
   ·cases hj
 ·rintro⟨o,ho,h1,h2⟩
  have hi:=(List.getElem?_eq_some_iff.1 ho).1
  refine⟨hi,?_,?_⟩
  ·have:listed[i]? =some listed[i]:=by simp[hl,hi]
   rw[Array.getD_eq_getD_getElem?,this]at h1 ⊢
   exact h1
  ·rw[ho]
   simp only[Option.map_some,Option.getD_some]
   rw[Array.all_eq_true_iff_forall_mem]
   intro e he
   cases hb:Region.binds .any e with
   |false=>simp
   |true=>
    have:=h2 e.on (by
     simp only[bD,List.mem_filterMap,Array.mem_toList_iff]
     exact⟨e,he,by simp[hb]⟩)
    simp[this]
theorem tC{listed:Array Bool}{i j:Nat}(hi:i<listed.size):(listed.setIfInBounds i true).getD j false=(listed.getD j false||j==i):=by
 rw[Array.getD_eq_getD_getElem?,Array.getD_eq_getD_getElem?]
 by_cases hij:i=j
 ·subst hij
  rw[Array.getElem?_setIfInBounds_self_of_lt hi];simp
 ·rw[Array.getElem?_setIfInBounds_ne hij]
  simp[show¬j=i from fun h=>hij h.symm]
def cnt(n:Nat)(D:Nat→Bool):Nat:=((List.range n).filter fun i=> !D i).length
theorem filter_lt{p q:Nat→Bool}: ∀{l:List Nat},(∀x,x∈l→q x=true→p x=true)→(∃x,x∈l∧p x=true∧q x=false)→(l.filter q).length<(l.filter p).length
 |y::r,h,⟨x,hx,hp,hq⟩=>by
  have le: ∀{l:List Nat},(∀x,x∈l→q x=true→p x=true)→(l.filter q).length≤(l.filter p).length:=by
   intro l
   induction l with
   |nil=>intro _;simp
   |cons z l ih=>
    intro hh
    have:=ih fun x hx=>hh x (by simp[hx])
    cases hz:q z with
    |true=>rw[List.filter_cons_of_pos hz,List.filter_cons_of_pos (hh z (by simp) hz)];simp;exact this
    |false=>
     rw[List.filter_cons_of_neg (by simp[hz])]
     cases hz2:p z with
     |true=>rw[List.filter_cons_of_pos hz2];simp;omega
     |false=>rw[List.filter_cons_of_neg (by simp[hz2])];exact this
  rcases List.mem_cons.1 hx with rfl|hx
  ·rw[List.filter_cons_of_neg (by simp[hq]),List.filter_cons_of_pos hp]
   have:=le (l:=r) fun x hx=>h x (by simp[hx])
   simp;omega
  ·have ih:=filter_lt (l:=r) (fun x hx=>h x (by simp[hx])) ⟨x,hx,hp,hq⟩
   cases hy:q y with
   |true=>rw[List.filter_cons_of_pos hy,List.filter_cons_of_pos (h y (by simp) hy)];simp;exact ih
   |false=>
    rw[List.filter_cons_of_neg (by simp[hy])]
    cases UF:p y with
    |true=>rw[List.filter_cons_of_pos UF];simp;omega
    |false=>rw[List.filter_cons_of_neg (by simp[UF])];exact ih
theorem HC{n i:Nat}{D:Nat→Bool}(hi:i<n)(hD:D i=false):cnt n (fun j=>D j||j==i)<cnt n D:=by
 refine filter_lt ?_ ⟨i,List.mem_range.2 hi,by simp[hD],by simp⟩
 intro x _ h
 simp only[Bool.not_eq_true',Bool.or_eq_false_iff]at h
 simp[h.1]
theorem Ee{n:Nat}{D:Nat→Bool}(h:cnt n D=0): ∀i,i<n→D i=true:=by
 intro i hi
 have:=List.eq_nil_of_length_eq_zero h
 cases hd:D i with
 |true=>rfl
 |false=>
  have:i∈(List.range n).filter fun i=> !D i:=List.mem_filter.2 ⟨List.mem_range.2 hi,by simp[hd]⟩
  simp_all
section
variable{P:Program}{Γ:Nat→TK}{cK:List (Nat×Nat)}{cr:List (Nat×CR)}{ops:List Oper}{m:Nat}{s:St}{tr:List TE}{zb:bP}{Q:Exit→Act→World→Prop}
theorem LS(X:Ctx P ty Γ)(K:VE ops m){vcs:List Prop}{rA:St}(hv: ∀q,q∈vcs→q)(hQ: ∀a w,Inv ty zb rA a w→Q .normal a w): ∀(fuel k:Nat) (st:St) (acc:List Prop) (listed:Array Bool) (a:Act) (w:World),m≤k→k≤ops.length→ops.length-k≤fuel→listed.size=ops.length→
  (∀i,listed.getD i false=true↔i<k)→run P ty Γ cK cr ops (ops.drop k) st acc=some (vcs,rA)→Inv ty zb st a w→wpAny P .any ops.toArray Q fuel listed a w:=by
 have fin: ∀{k st acc a w},ops.length≤k→run P ty Γ cK cr ops (ops.drop k) st acc=some (vcs,rA)→Inv ty zb st a w→Q .normal a w:=by
  intro k st acc a w hk hr iv
  rw[List.drop_eq_nil_of_le hk]at hr
  simp only[run,oI,pI]at hr
  exact hQ a w (hr.2▸iv)
 have rdy: ∀{k:Nat} {listed:Array Bool},k<ops.length→listed.size=ops.length→(∀i,listed.getD i false=true↔i<k)→k∈Region.ready .any ops.toArray listed:=by
  intro k listed hk hl hL
  rw[gE hl]
  refine⟨ops[k],List.getElem?_eq_getElem hk,?_,fun j hj=>(hL j).2 (K.back k _ (List.getElem?_eq_getElem hk) j hj)⟩
  cases h:listed.getD k false with
  |false=>rfl
  |true=>have:=(hL k).1 h;omega
 intro fuel
 induction fuel with
 |zero=>
  intro k st acc listed a w hmk hkn hf hl hL hr iv
  refine⟨?_,fin (by omega) hr iv⟩
  apply List.eq_nil_iff_forall_not_mem.2
  intro i hi
  obtain⟨o,ho,h1,_⟩:=(gE hl).1 hi
  have:=(List.getElem?_eq_some_iff.1 ho).1
  rw[(hL i).2 (by omega)]at h1
  cases h1
 |succ fuel ih=>
  intro k st acc listed a w hmk hkn hf hl hL hr iv
  refine⟨fun hnil=> ?_,fun i hi=> ?_⟩
  ·by_cases hk:k<ops.length
   ·have:=rdy hk hl hL
    rw[hnil]at this
    simp at this
   ·exact fin (by omega) hr iv
  ·obtain⟨o,ho,h1,h2⟩:=(gE hl).1 hi
   have hin:=(List.getElem?_eq_some_iff.1 ho).1
   have hki:k≤i:=by
    rcases Nat.lt_or_ge i k with h|h
    ·rw[(hL i).2 h]at h1;cases h1
    ·exact h
   have hik:i=k:=by
    rcases Nat.lt_or_ge k i with h|h
    ·exfalso
     have hc: ∀i o,listed.getD i false=true→ops[i]? =some o→ ∀j,j∈bD o→listed.getD j false=true:=fun i o hi ho j hj=>(hL j).2 (by have:=K.back i o ho j hj;have:=(hL i).1 hi;omega)
     have:=oK (D:=fun j=>listed.getD j false=true) K.back hc i o ho h2 k (K.tail i o (by omega) ho k h)
     have:=(hL k).1 this
     omega
    ·omega
   subst hik
   have VI:ops.drop i=o::ops.drop (i+1):=by
    rw[List.drop_eq_getElem_cons hin]
    congr 1
    have:=List.getElem?_eq_getElem hin
    rw[ho]at this
    simpa using this.symm
   rw[VI]at hr
   obtain⟨vc,Au,hs,Dq⟩:=p8 hr
   have hstep:=xq (Q:=Q) X.kind X.one hs iv (fun q hq=>hv q (td Dq q (List.mem_append_left _ hq)))
   unfold wpOp
   rw[List.getElem?_toArray,ho]
   dsimp only
   have:=hstep.mono fun a' w' jA=>ih (i+1) Au _ (listed.setIfInBounds i true) a' w' (by omega) (by omega) (by omega) (by simpa using hl)
    (fun j=>by
     rw[tC (by omega)]
     simp only[Bool.or_eq_true,beq_iff_eq,hL]
     omega) Dq jA
   exact this
theorem LU(X:Ctx P ty Γ)(K:VE ops m){nL vcs:List Prop}{rA:St}(T:Trace Γ (A5 P ty) (Sound ty P) cK cr ops m s tr vcs)(hnc:Cz s.sl=true)(hv: ∀q,q∈vcs→q)(hQ: ∀a w,Inv ty zb rA a w→Q .normal a w)
  (hr:run P ty Γ cK cr ops (ops.drop m) (pre tr s m) nL=some (vcs,rA)): ∀(fuel:Nat) (listed:Array Bool) (a:Act) (w:World),cnt ops.length (fun i=>listed.getD i false)≤fuel→listed.size=ops.length→(∀i,listed.getD i false=true→i<m)→
  (∀i o,listed.getD i false=true→ops[i]? =some o→ ∀j,j∈bD o→listed.getD j false=true)→Inv ty zb (cm (fun i=>listed.getD i false) tr s m) a w→wpAny P .any ops.toArray Q fuel listed a w:=by
 have all: ∀{listed:Array Bool} {fuel:Nat} {a:Act} {w:World},listed.size=ops.length→(∀i,listed.getD i false=true→i<m)→(∀i,i<m→listed.getD i false=true)→cnt ops.length (fun i=>listed.getD i false)≤fuel→Inv ty zb (cm (fun i=>listed.getD i false) tr s m) a w→wpAny P .any ops.toArray Q fuel listed a w:=by
  intro listed fuel a w hl h1 h2 hf iv
  have heq: ∀i,i≤m→cm (fun i=>listed.getD i false) tr s i=pre tr s i:=by
   intro i
   induction i with
   |zero=>intro _;rfl
   |succ i ih=>
    intro hi
    rw[cm,pre,cm,ih (by omega),h2 i (by omega)]
  rw[heq m (Nat.le_refl _)]at iv
  refine LS X K hv hQ fuel m _ nL listed a w (Nat.le_refl _) K.le ?_ hl (fun i=>⟨h1 i,h2 i⟩) hr iv
  refine Nat.le_trans ?_ hf
  unfold cnt
  have hsub:(List.range ops.length).filter (fun i=> !listed.getD i false)=(List.range ops.length).filter fun i=>decide (m≤i):=by
   apply List.filter_congr
   intro i _
   by_cases h:m≤i
   ·cases hh:listed.getD i false with
    |true=>have:=h1 i hh;omega
    |false=>simp[h]
   ·simp[h2 i (by omega),h]
  rw[hsub]
  have: ∀n,m≤n→((List.range n).filter fun i=>decide (m≤i)).length=n-m:=by
   intro n hn
   induction n with
   |zero=>simp
   |succ n ih=>
    rw[List.range_succ,List.filter_append]
    by_cases h:m≤n
    ·simp[ih h,h];omega
    ·have:(List.range n).filter (fun i=>decide (m≤i))= []:=by
      apply List.filter_eq_nil_iff.2
      intro i hi
      have:=List.mem_range.1 hi
      simp;omega
     simp[this,h];omega
  rw[this _ K.le]
  exact Nat.le_refl _
 intro fuel
 induction fuel with
 |zero=>
  intro listed a w hf hl h1 h2 iv
  have hz:=Ee (by omega:cnt ops.length (fun i=>listed.getD i false)=0)
  exact all hl h1 (fun i hi=>hz i (by have:=K.le;omega)) hf iv
 |succ fuel ih=>
  intro listed a w hf hl h1 h2 iv
  by_cases hall: ∀i,i<m→listed.getD i false=true
  ·exact all hl h1 hall hf iv
  ·have hex: ∃i,i<m∧listed.getD i false=false∧ ∀j,j<i→listed.getD j false=true:=by
    have: ∃i,i<m∧listed.getD i false=false:=by
     apply Classical.byContradiction
     intro hno
     apply hall
     intro i hi
     cases h:listed.getD i false with
     |true=>rfl
     |false=>exact absurd ⟨i,hi,h⟩ hno
    obtain⟨i,hi,h⟩:=this
    induction i using Nat.strongRecOn with
    |_ i ihi=>
     by_cases Ja: ∀j,j<i→listed.getD j false=true
     ·exact⟨i,hi,h,Ja⟩
     ·have: ∃j,j<i∧listed.getD j false=false:=by
       apply Classical.byContradiction
       intro hno
       apply Ja
       intro j hj
       cases hh:listed.getD j false with
       |true=>rfl
       |false=>exact absurd ⟨j,hj,hh⟩ hno
      obtain⟨j,hj,Vv⟩:=this
      exact ihi j hj (by omega) Vv
   have hml:=K.le
   refine⟨fun hnil=> ?_,fun i hi=> ?_⟩
   ·obtain⟨i,hi,hif,Ja⟩:=hex
    have hin:i<ops.length:=by omega
    have:i∈Region.ready .any ops.toArray listed:=(gE hl).2 ⟨ops[i],List.getElem?_eq_getElem hin,hif,fun j hj=>Ja j (K.back i _ (List.getElem?_eq_getElem hin) j hj)⟩
    rw[hnil]at this
    simp at this
   ·obtain⟨o,ho,hif,hE⟩:=(gE hl).1 hi
    have hin:=(List.getElem?_eq_some_iff.1 ho).1
    have W2:i<m:=by
     rcases Nat.lt_or_ge i m with h|h
     ·exact h
     ·exfalso
      obtain⟨j,hj,Vv,_⟩:=hex
      have:=oK (D:=fun j=>listed.getD j false=true) K.back h2 i o ho hE j (K.tail i o h ho j (by omega))
      rw[Vv]at this;cases this
    unfold wpOp
    rw[List.getElem?_toArray,ho]
    dsimp only
    have hstep:=I9 (Q:=Q) X.kind T K hv hnc (D:=fun i=>listed.getD i false) h1 h2 W2 hif ho hE iv
    have Cs: ∀j,(listed.setIfInBounds i true).getD j false=(listed.getD j false||j==i):=fun j=>tC (by omega)
    have Pp:(fun j=>(listed.setIfInBounds i true).getD j false)=fun j=>listed.getD j false||j==i:=funext Cs
    have:=hstep.mono fun a' w' jA=>ih (listed.setIfInBounds i true) a' w'
     (by rw[Pp];have:=HC (D:=fun i=>listed.getD i false) hin hif;omega) (by simpa using hl)
     (fun j hj=>by
      rw[Cs,Bool.or_eq_true,beq_iff_eq]at hj
      rcases hj with hj|rfl
      ·exact h1 j hj
      ·exact W2)
     (fun j o' hj ho' x hx=>by
      rw[Cs]at hj ⊢
      rw[Bool.or_eq_true,beq_iff_eq]at hj
      rw[Bool.or_eq_true]
      rcases hj with hj|rfl
      ·exact Or.inl (h2 j o' hj ho' x hx)
      ·rw[ho]at ho'
       simp only[oI]at ho'
       subst ho'
       exact Or.inl (hE x hx))
     (by rw[Pp];exact jA)
    exact this
end
section
variable{P:Program}{Γ:Nat→TK}{zb:bP}{Q:Post}{st:St}
theorem bU(X:Ctx P ty Γ)(cK:List (Nat×Nat))(cr:List (Nat×CR))(ks hs:List Nat)(m:Nat){id:Nat}{ops:List Oper}{vc:List Prop}{st':St}(hm:P.follows .mixedOrders=true)(hc:W0 ops m=true)(h:S2 P ty Γ cK cr ks hs m ops st=some (vc,st'))(hv:gw vc)(k:Q .normal st'):
  W P ty zb (.region id ops.toArray true) Q st:=by
 intro a w iv
 obtain⟨n,Pm,fk⟩:=st
 have K:=S4 hc
 simp only[S2]at h
 split at h
 ·rename_i nL s1 hnc hq
  split at h
  ·rename_i Rn s2 hr
   split at h
   ·rename_i sl hp h1 h2
    split at h
    ·rename_i um hn
     simp only[oI,pI]at h
     obtain⟨rfl,rfl⟩:=h
     obtain⟨tr,t1,t2,t3⟩:=Ed (k:=0) hq (fun i o ho=>by
      rw[List.getElem?_take]at ho
      split at ho
      ·simpa using ho
      ·cases ho)
     have hlen:(ops.take m).length=m:=by rw[List.length_take];have:=K.le;omega
     rw[hlen]at t1 t2 t3
     subst t2
     have T:Trace Γ (A5 P ty) (Sound ty P) cK cr ops m ⟨n,Pm,fk⟩ tr Rn:=⟨t1,fun i hi=>by
      obtain⟨o,e,vc,p1,p2,p3,p4,p5,p6⟩:=t3 i hi
      exact⟨o,e,vc,by simpa using p1,p2,p3,p4,p5,fun q hq=>td hr q (p6 q hq)⟩⟩
     refine wp_region_any hm ?_
     have hz: ∀i,(Array.replicate ops.toArray.size false).getD i false=false:=by
      intro i
      rw[Array.getD_eq_getD_getElem?,Array.getElem?_replicate]
      split<;>rfl
     refine LU (Q:=Cu ty zb Q) X K T hnc hv.out (fun a w jA=>⟨_,jA.weaken (Nat.eq_of_beq_eq_true hn).symm (jW h1) (jX h2) um,k⟩) hr _ _ a _ ?_ (by simp) (fun i hi=>by rw[hz]at hi;cases hi) (fun i o hi=>by rw[hz]at hi;cases hi) ?_
     ·unfold cnt
      refine Nat.le_trans (List.length_filter_le _ _) ?_
      simp
     ·have hD:(fun i=>(Array.replicate ops.toArray.size false).getD i false)=fun _=>false:=funext hz
      rw[hD]
      have hmk: ∀i,cm (fun _=>false) tr ⟨n,Pm,fk⟩ i=⟨n,Pm,fk⟩:=by
       intro i
       induction i with
       |zero=>rfl
       |succ i ih=>rw[tu rfl,ih]
      rw[hmk]
      obtain⟨env,g⟩:=iv.good
      have J7:Below w.heap.size w w.drew:=(Below.refl _ _).drew
      refine⟨iv.size,iv.defers,iv.kept.trans (iq J7 iv.kept.size),iv.wN,env,?_⟩
      have:=g.grow (os:= []) (w':=w.drew) (env':=env) iv.kept.size rfl (ir.none J7)
      exact this
    ·cases h
   ·cases h
  ·cases h
 ·cases h
theorem dy(X:Ctx P ty Γ)(cK:List (Nat×Nat))(cr:List (Nat×CR))(ks hs:List Nat)(m:Nat){y:Code}{id:Nat}{ops:List Oper}{vc:List Prop}{st':St}(hm:P.follows .mixedOrders=true)(hc:W0 ops m=true)(h:S2 P ty Γ cK cr ks hs m ops st=some (vc,st'))(hv:gw vc)(k:W P ty zb y Q st'):W P ty zb (.seq (.region id ops.toArray true) y) Q st:=af (bU X cK cr ks hs m hm hc h hv k)
end
end
section
variable{ty:Tag→Nat}
def uR(l:List Oper):Option (List Oper×Oper):=match l.reverse with
 | []=>none
 |o::r=>some (r.reverse,o)
theorem CG{l p:List Oper}{q:Oper}(h:uR l=some (p,q)):l=p++ [q]:=by
 unfold uR at h
 split at h
 ·cases h
 ·rename_i o r he
  simp only[oI,pI]at h
  obtain⟨rfl,rfl⟩:=h
  have:=congrArg List.reverse he
  rw[List.reverse_reverse,List.reverse_cons]at this
  exact this
def HE(Γ:Nat→TK)(st:St)(o:Oper):Option (Nat×Prop):=match o.guard,o.dst,o.op with
 |none,some d, .binOp .eql t (.tmp s) (.const (.slice none 0 0)) _=>match Γ t,look st.sl s,Nat.blt d st.n with
  | .sl _ _,some (.one (.a (.sl _ l))),true=>some (d,l= [])
  | .sl _ _,some (.one (.a (.vw _ _ _ l))),true=>some (d,l= [])
  | .sl _ _,some (.one (.a (.own n))),true=>match look st.hp n with
    |some (.arr _ l)=>some (d,l= [])
    |_=>none
  |_,_,_=>none
 |_,_,_=>none
def RL(n:Nat)(st':St)(ks:List Nat):Option St:=match we st'.sl ks,wg st'.hp (Hx st'.sl st'.hp ks [])with
 |some sl,some hp=>match mW sl hp with
  |true=>some ⟨n,sl,hp⟩
  |false=>none
 |_,_=>none
def HF(Au:St)(ks:List Nat)(d:Nat)(b:Bool):Option St:=RL Au.n (Au.put (some d) (.one (.a (.lit (.bool b))))) ks
def Mi(P:Program)(ty:Tag→Nat)(Γ:Nat→TK)(cK:List (Nat×Nat))(cr:List (Nat×CR))(ks:List Nat)(ops:List Oper)(st:St):Option (List Prop×Prop×St×St):=
 match uR ops with
 |some (pre,o)=>match run P ty Γ cK cr ops pre st []with
  |some (vc,Au)=>match HE Γ Au o with
   |some (d,p)=>match HF Au ks d true,HF Au ks d false with
    |some a,some b=>some (vc,p,a,b)
    |_,_=>none
   |none=>none
  |none=>none
 |none=>none
section
variable{P:Program}{Γ:Nat→TK}{zb:bP}{Q:Post}{st:St}
theorem HG(C: ∀t,b7 P t (Γ t))(Z: ∀t,(∀z tg fo,Γ t≠ .st z tg fo)→Γ t≠ .other→(P.info? t).map (·.size)=some 1){cK:List (Nat×Nat)}{cr:List (Nat×CR)}{ops:List Oper}{rA:St}{vcs:List Prop}{Q:Exit→Act→World→Prop}{tail:List Oper}
  (hQ: ∀a w,Inv ty zb rA a w→wpList P ops.toArray Q tail a w): ∀{l:List Oper} {st:St} {acc:List Prop} {a:Act} {w:World},run P ty Γ cK cr ops l st acc=some (vcs,rA)→(∀q,q∈vcs→q)→Inv ty zb st a w→wpList P ops.toArray Q (l++tail) a w
 | [],st,acc,a,w,h,hv,iv=>by
   simp only[run,oI,pI]at h
   obtain⟨_,rfl⟩:=h
   exact hQ a w iv
 |o::r,st,acc,a,w,h,hv,iv=>by
  obtain⟨vc,Au,h1,h2⟩:=p8 h
  have:=xq (Q:=Q) C Z h1 iv (fun q hq=>hv q (td h2 q (List.mem_append_left _ hq)))
  exact this.mono fun a' w' jA=>HG C Z hQ h2 hv jA
theorem Ei{w:World}{t e:Nat}(d:Nat)(hu:P.underlying t=some (.slice e)){oa:Option Addr}{n cap:Nat}:(Op.equalIn (d+1) t (.slice oa n cap) (.slice none 0 0)).run P w= .ok oa.isNone w:=by
 cases oa<;>simp[Op.equalIn,run_underlying hu]
theorem Th{o:Oper}{a:Act}{w:World}{K:Act→World→Prop}{Q:Exit→Act→World→Prop}{t s e ge:Nat}{Zi:TypeId}(ho:o.op= .binOp .eql t (.tmp s) (.const (.slice none 0 0)) Zi)(hu:P.underlying t=some (.slice e)){oa:Option Addr}{n cap:Nat}(hs:a.tmps.getD s undef= .slice oa n cap)
  (h:K (a.put o.dst (.bool oa.isNone)) w):o.wp P a w K Q:=by
 have hx:a.eval (.tmp s)= .slice oa n cap:=hs
 have hrun:(execOp a.eval o).run P w= .ok (.value (.bool oa.isNone)) w:=by
  have hy:a.eval (.const (.slice none 0 0))= .slice none 0 0:=rfl
  unfold execOp
  simp only[ho,hx,hy]
  have he:(Op.equal t (.slice oa n cap) (.slice none 0 0)).run P w= .ok oa.isNone w:=Ei 9999 hu
  have hb:(binOp .eql t (.slice oa n cap) (.slice none 0 0)).run P w= .ok (.bool oa.isNone) w:=by
   show(do pure (.bool (←Op.equal t (.slice oa n cap) (.slice none 0 0))):Sem Value).run P w=_
   simp only[Sem.run_bind,he,Result.andThen_ok,Sem.run_pure]
  have hg:(eqGuard .eql t (.tmp s) (.const (.slice none 0 0)) (.slice oa n cap) (.slice none 0 0)).run P w= .ok () w:=by simp[eqGuard]
  simp only[Sem.run_bind,hg,hb,Result.andThen_ok,Sem.run_pure]
 unfold Oper.wp
 rw[hrun]
 exact h
theorem Ej{Au st':St}{ks:List Nat}{d:Nat}{b:Bool}(h:HF Au ks d b=some st'){a:Act}{w:World}(iv:Inv ty zb Au a w)(hd:Nat.blt d Au.n=true):Inv ty zb st' (a.put (some d) (.bool b)) w:=by
 have Ye:Inv ty zb (Au.put (some d) (.one (.a (.lit (.bool b))))) (a.put (some d) (.bool b)) w:=by
  obtain⟨env,g⟩:=iv.good
  have hlt: ∀d',some d=some d'→d'<a.tmps.size:=by
   intro d' e
   simp only[oI]at e
   subst e
   rw[iv.size]
   exact Nat.le_of_ble_eq_true hd
  exact⟨by rw[iU,yA];exact iv.size,by rw[put_defers];exact iv.defers,iv.kept,iv.wN,env,sO (dst:=some d) g hlt (u:= .bool b) (show lT w Au.hp env a.tmps (.one (.a (.lit (.bool b)))) (.bool b)from ⟨rfl,rfl⟩) fun d _=>v8 ⟨_,rfl⟩⟩
 unfold HF RL at h
 split at h
 ·rename_i sl hp h1 h2
  split at h
  ·rename_i hc
   simp only[oI]at h
   subst h
   exact Ye.weaken (by rw[yA]) (jW h1) (jX h2) hc
  ·cases h
 ·cases h
theorem Mj(X:Ctx P ty Γ)(cK:List (Nat×Nat))(cr:List (Nat×CR))(ks:List Nat){id:Nat}{ops:List Oper}{vc:List Prop}{p:Prop}{sT sF:St}(h:Mi P ty Γ cK cr ks ops st=some (vc,p,sT,sF))(hv:gw vc)(kT:p→Q .normal sT)(kF:Q .normal sF):
  W P ty zb (.region id ops.toArray false) Q st:=by
 intro a w iv
 unfold Mi at h
 split at h
 case h_2=>cases h
 rename_i pre o hsp
 split at h
 case h_2=>cases h
 rename_i nL Au hrun
 split at h
 case h_2=>cases h
 rename_i d p1 hnp
 split at h
 case h_2=>cases h
 rename_i sa sb hT hF
 simp only[oI,pI]at h
 obtain⟨rfl,rfl,rfl,rfl⟩:=h
 refine wp_region_lit ?_
 rw[show wpList P ops.toArray (Cu ty zb Q) ops a w=wpList P ops.toArray (Cu ty zb Q) (pre++ [o]) a w by rw[←CG hsp]]
 refine HG X.kind X.one (fun a w iv=> ?_) hrun hv.out iv
 obtain⟨env,g⟩:=iv.good
 unfold HE at hnp
 split at hnp
 case h_2=>cases hnp
 rename_i d0 t s Zi hg hd hop
 have fin: ∀{oa:Option Addr} {n cap:Nat} {e ge:Nat},P.underlying t=some (.slice e)→a.tmps.getD s undef= .slice oa n cap→(oa=none→p1)→d0=d→Nat.blt d0 Au.n=true→wpList P ops.toArray (Cu ty zb Q) [o] a w:=by
  intro oa n cap e ge hu hs hn Xv hlt
  subst Xv
  have hk: ∀a' w',(fun a' w'=>a'=a.put (some d0) (.bool oa.isNone)∧w'=w) a' w'→wpList P ops.toArray (Cu ty zb Q) [] a' w':=by
   rintro a' w' ⟨rfl,rfl⟩
   refine wpList_nil ?_
   cases oa with
   |none=>exact⟨sa,Ej hT iv hlt,kT (hn rfl)⟩
   |some x=>exact⟨sb,Ej hF iv hlt,kF⟩
  have hR:kK P ops.toArray o a w (fun a' w'=>a'=a.put (some d0) (.bool oa.isNone)∧w'=w) (Cu ty zb Q):=jT hg (Th (ge:=ge) hop hu hs ⟨by rw[hd],rfl⟩)
  exact hR.mono hk
 split at hnp
 ·rename_i g1 e1 t1 l hk hl hlt
  simp only[oI,pI]at hnp
  have hC:=X.kind t
  rw[hk]at hC
  obtain⟨fp,Bp,_⟩:=g.slot s _ hl
  obtain⟨oa,cap,hv0,_,_,h3⟩:=Bp
  refine fin (ge:=0) hC.1 hv0 (fun hn=> ?_) hnp.1 hlt
  rw[←hnp.2]
  rcases h3 with⟨h3,_⟩| ⟨b,off,aO,rfl,_⟩
  ·exact h3
  ·cases hn
 ·rename_i g1 e1 n1 p2 t1 l hk hl hlt
  simp only[oI,pI]at hnp
  have hC:=X.kind t
  rw[hk]at hC
  obtain⟨_,⟨fp,Bp,_⟩,_⟩:=g.slot s _ hl
  obtain⟨oa,cap,hv0,_,_,h3⟩:=Bp
  refine fin (ge:=0) hC.1 hv0 (fun hn=> ?_) hnp.1 hlt
  rw[←hnp.2]
  rcases h3 with⟨h3,_⟩| ⟨b,off,aO,rfl,_⟩
  ·exact h3
  ·cases hn
 ·rename_i g1 e1 n1 hk hl hlt
  split at hnp
  ·rename_i t1 l I5
   simp only[oI,pI]at hnp
   have hC:=X.kind t
   rw[hk]at hC
   obtain⟨_,hu⟩:=g.slot s _ hl
   obtain⟨oa,cap,hv0,_,_,h3⟩:=RO.sl (g.obj n1 _ I5)
   refine fin (ge:=0) hC.1 (hu.trans hv0) (fun hn=> ?_) hnp.1 hlt
   rw[←hnp.2]
   rcases h3 with⟨h3,_⟩| ⟨b,off,aO,rfl,_⟩
   ·exact h3
   ·cases hn
  ·cases hnp
 ·cases hnp
end
end
section
variable{ty:Tag→Nat}
section
variable{ks ns:List Nat}{m0:Nat}{w w':World}{hp gr:Hp}{env env':Env}
end
section
variable{P:Program}{zb:bP}{st:St}{a:Act}{w:World}{env:Env}
end
section
variable{P:Program}{zb:bP}{st:St}{a:Act}{w:World}{env:Env}{o:Oper}
end
section
variable{P:Program}{Γ:Nat→TK}{zb:bP}{Q:Post}{st:St}
end
def rename(st:St)(s m:Nat):Option St:=match look st.sl s,Nat.blt s st.n with
 |some (.one (.a (.own n))),true=>match look st.hp n,pinned [n],fu m,look (bE [n] [] st.hp) m with
  |some (.arr t l),false,false,none=>Hv ((st.gone [n] m t l).put (some s) (.one (.a (.own m))))
  |_,_,_,_=>none
 |_,_=>none
theorem Jl{zb:bP}{st st':St}{s m:Nat}(h:rename st s m=some st'){a:Act}{w:World}(iv:Inv ty zb st a w):Inv ty zb st' a w:=by
 obtain⟨env,g⟩:=iv.good
 have hB:=iv.kept.size
 unfold rename at h
 split at h
 case h_2=>cases h
 rename_i n hs hlt
 split at h
 case h_2=>cases h
 rename_i t l hl hpk AB hlk
 have h:=jg h
 rw[St.gone_eq]at h
 have Rk:soft n=false:=jU hpk (by simp)
 have hb:=RO.N9 Rk (g.obj n _ hl)
 have Ci: ∀b,(env n).v.ownBlock=some b→b∈(env n).fp:=by
  intro b hb'
  obtain⟨xs,aO,_,_,_,eK,_⟩:=hb
  rw[eK,hb'];simp
 obtain⟨env',hg',AD⟩:=sR (ty:=ty) g hB (ks:= [n]) hpk AB hlk (v:=(env n).v) (v':=(env n).v) (w':=w) (fp:=(env n).fp) (fx:= []) (by
  intro b hb
  rw[List.append_nil]at hb
  exact⟨n,_,by simp,hl,hb⟩) Ci hb ⟨rfl,rfl,rfl,Nat.le_refl _,fun _ _ _=>rfl⟩ (fun b hb=>Or.inl hb)
 have hlt:s<a.tmps.size:=by rw[iv.size];exact Nat.le_of_ble_eq_true hlt
 obtain⟨_,hu⟩:=g.slot s _ hs
 have gp:=hg'.put hlt (v:= .one (.a (.own m))) (u:=a.tmps.getD s undef) ⟨⟨t,l,look_eq⟩,by rw[AD];exact hu⟩ rfl
 have e:a.tmps.setIfInBounds s (a.tmps.getD s undef)=a.tmps:=by
  rw[Array.getD_eq_getD_getElem?,Array.getElem?_eq_getElem hlt]
  apply Array.ext
  ·simp
  ·intro i h1 h2
   rw[Array.getElem_setIfInBounds]
   split
   ·rename_i hi;subst hi;rfl
   ·rfl
 rw[e]at gp
 rw[h]
 exact⟨by rw[yA];exact iv.size,iv.defers,iv.kept,iv.wN,env',gp⟩
theorem uX{P:Program}{zb:bP}{Q:Post}{st st':St}{c:Code}(s m:Nat)(h:G.rename st s m=some st')(k:W P ty zb c Q st'):W P ty zb c Q st:=fun a w iv=>k a w (Jl h iv)
def Gl(st:St)(b i m:Nat)(t:Tag):Option St:=match look st.hp b,fu m,look st.hp m with
 |some (.box c),false,none=>match sr c i with
  |some (.lit (.slice none 0 0))=>Hv ⟨st.n,st.sl,(b, .box (c.set i (.own m)))::(m, .arr t [])::st.hp⟩
  |_=>none
 |_,_,_=>none
theorem bg.set'{R R':V→Value→Prop}{y:V}(hm: ∀a u,R a u→R' a u): ∀{c:List V} {cs:List Value} {i:Nat} {v:V},bg R c cs→sr c i=some v→(∀u,R v u→R' y u)→bg R' (c.set i y) cs
 | [],_,_,_,_,h,_=>by cases h
 |a::r,[],_,_,h,_,_=>h.elim
 |a::r,u::us,0,v,⟨h1,h2⟩,h,hy=>by
  simp only[sr,oI]at h
  subst h
  exact⟨hy u h1,h2.mono fun a b _ h=>hm a b h⟩
 |a::r,u::us,i+1,v,⟨h1,h2⟩,h,hy=>⟨hm a u h1,bg.set' hm h2 (by simpa[sr]using h) hy⟩
theorem Jm{zb:bP}{st st':St}{b i m:Nat}{t:Tag}(h:Gl st b i m t=some st'){a:Act}{w:World}(iv:Inv ty zb st a w):Inv ty zb st' a w:=by
 obtain⟨env,g⟩:=iv.good
 have hB:=iv.kept.size
 unfold Gl at h
 split at h
 case h_2=>cases h
 rename_i c hl AB hlk
 split at h
 case h_2=>cases h
 rename_i he
 have h:=jg h
 have hne:b≠m:=by rintro rfl;rw[hl]at hlk;cases hlk
 have hN:ir (ty:=ty) w w st.hp [(m, .arr t [])] env (fun n=>if n=m then⟨B7,[]⟩else env n):=by
  refine⟨Below.refl _ _,fun n hn=> ?_,fun n o hn=> ?_,fun n n' o o' hne h1 h2=> ?_⟩
  ·by_cases hnm:n=m
   ·subst hnm;rw[look_eq]at hn;cases hn
   ·simp[hnm]
  ·by_cases hnm:n=m
   ·subst hnm
    rw[look_eq]at hn
    simp only[oI]at hn
    subst hn
    simp only[if_true]
    exact⟨RO.DH (fZ.nil _ _ _ _ _),by simp⟩
   ·rw[aK hnm]at hn;cases hn
  ·intro x hx
   by_cases hnm:n=m
   ·subst hnm;simp at hx
   ·rw[aK hnm]at h1;cases h1
 have g1:=Good.grow hB g (os:= [(m, .arr t [])]) (by simp[fresh,hlk,AB]) hN
 have hl1:look ([(m,Obj.arr t [])]++st.hp) b=some (.box c):=by
  show look ((m,Obj.arr t [])::st.hp) b=_
  rw[aK hne];exact hl
 obtain⟨b',cs,e,vX,hh,hc⟩:=g1.obj b _ hl1
 have g2:=yD (off:=0) (us:= []) (c':=c.set i (.own m)) g1 hl1 vX hh (Nat.zero_le _) (by
  simp only[List.take_zero,List.nil_append,Nat.zero_add,List.length_nil,List.drop_zero]
  refine bg.set' (fun _ _ h=>h) hc he fun u hu=> ?_
  obtain⟨rfl,_⟩:=hu
  refine⟨⟨t,[],look_eq⟩,?_⟩
  simp only[if_true])
 rw[h]
 exact⟨iv.size,iv.defers,iv.kept,iv.wN,_,g2⟩
theorem jN{P:Program}{zb:bP}{Q:Post}{st st':St}{c:Code}(b i m:Nat)(t:Tag)(h:G.Gl st b i m t=some st')(k:W P ty zb c Q st'):W P ty zb c Q st:=fun a w iv=>k a w (Jm h iv)
def CN(st:St)(b i m:Nat):Option St:=match look st.hp b with
 |some (.box c)=>match sr c i with
  |some (.own n)=>match look st.hp n,pinned [n],fu m,look (bE [n] [] st.hp) m with
   |some (.arr t l),false,false,none=>match st.gone [n] m t l with
    | ⟨nn,sl,hp⟩=>Hv ⟨nn,sl,(b, .box ((c.map fun v=>v.bf [n] []).set i (.own m)))::hp⟩
   |_,_,_,_=>none
  |_=>none
 |_=>none
theorem bg.VR{R R':V→Value→Prop}{f:V→V}{y:V}(hm: ∀a u,R a u→R' (f a) u): ∀{c:List V} {cs:List Value} {i:Nat} {v:V},bg R c cs→sr c i=some v→(∀u,R v u→R' y u)→bg R' ((c.map f).set i y) cs
 | [],_,_,_,_,h,_=>by cases h
 |a::r,[],_,_,h,_,_=>h.elim
 |a::r,u::us,0,v,⟨h1,h2⟩,h,hy=>by
  simp only[sr,oI]at h
  subst h
  exact⟨hy u h1,h2.map hm⟩
 |a::r,u::us,i+1,v,⟨h1,h2⟩,h,hy=>⟨hm a u h1,bg.VR hm h2 (by simpa[sr]using h) hy⟩
theorem Gm{zb:bP}{st st':St}{b i m:Nat}(h:CN st b i m=some st'){a:Act}{w:World}(iv:Inv ty zb st a w):Inv ty zb st' a w:=by
 obtain⟨env,g⟩:=iv.good
 have hB:=iv.kept.size
 unfold CN at h
 split at h
 case h_2=>cases h
 rename_i c wT
 split at h
 case h_2=>cases h
 rename_i n he
 split at h
 case h_2=>cases h
 rename_i t l hl hpk AB hlk
 rw[St.gone_eq]at h
 have h:=jg h
 have Rk:soft n=false:=jU hpk (by simp)
 have hb:=RO.N9 Rk (g.obj n _ hl)
 have Ci: ∀b,(env n).v.ownBlock=some b→b∈(env n).fp:=by
  intro b hb'
  obtain⟨xs,aO,_,_,_,eK,_⟩:=hb
  rw[eK,hb'];simp
 obtain⟨env',hg',AD,hold,Yf⟩:=uE (ty:=ty) g hB (ks:= [n]) hpk AB hlk (v:=(env n).v) (v':=(env n).v) (w':=w) (fp:=(env n).fp) (fx:= []) (by
  intro b hb
  rw[List.append_nil]at hb
  exact⟨n,_,by simp,hl,hb⟩) Ci hb ⟨rfl,rfl,rfl,Nat.le_refl _,fun _ _ _=>rfl⟩ (fun b hb=>Or.inl hb)
 have UB:b≠n:=by rintro rfl;rw[wT]at hl;cases hl
 have hbk:look (bE [n] [] st.hp) b=some (.box (c.map fun v=>v.bf [n] [])):=by
  rw[aY,if_neg (by simpa using UB),wT];rfl
 have AF:b≠m:=by rintro rfl;rw[hbk]at hlk;cases hlk
 have bW:look ((m,Obj.arr t l)::bE [n] [] st.hp) b=some (.box (c.map fun v=>v.bf [n] [])):=by rw[aK AF];exact hbk
 obtain⟨b',cs,e,vX,hh,hc⟩:=hg'.obj b _ bW
 obtain⟨b0,cs0,e0,Yg,hh0,hc0⟩:=g.obj b _ wT
 have Su:b'=b0:=by
  rw[hold b AF,Yg]at vX
  simpa using vX.symm
 subst Su
 have hcs:cs=cs0:=by
  rw[hh0]at hh
  simp at hh
  exact hh.1.symm
 subst hcs
 have s:qC [n] [] w st.hp env w ((m,Obj.arr t l)::bE [n] [] st.hp) env':=by
  have hnm: ∀x o,x≠n→look st.hp x=some o→x≠m:=by
   rintro x o hx h1 rfl
   rw[aY,if_neg (by simpa using hx),h1]at hlk;cases hlk
  refine⟨fun _ _ _=>rfl,?_,?_,?_⟩
  ·rintro x hx ⟨y,o',h1,h2⟩
   by_cases hy:y=m
   ·subst hy
    exact⟨n,_,hl,by rw[←Yf];exact h2⟩
   ·rw[hold y hy]at h2
    rw[aK hy,aY]at h1
    split at h1
    ·cases h1
    ·cases hq:look st.hp y with
     |none=>rw[hq]at h1;cases h1
     |some o=>exact⟨y,o,hq,h2⟩
  ·intro x o hx h1
   have hx:x≠n:=by simpa using hx
   have Gn:=hnm x o hx h1
   exact⟨o.bf [n] [],by rw[aK Gn,aY,if_neg (by simpa using hx),h1];rfl,by cases o<;>simp[Obj.like,Obj.bf],by rw[hold x Gn]⟩
  ·rintro x t' l' ⟨hx,_⟩ h1
   have hx:x≠n:=by simpa using hx
   have Gn:=hnm x _ hx h1
   exact⟨by rw[aK Gn,aY,if_neg (by simpa using hx),h1];rfl,by rw[hold x Gn],fun _ _=>rfl⟩
 have g2:=yD (off:=0) (us:= []) (c':=(c.map fun v=>v.bf [n] []).set i (.own m)) hg' bW vX hh (Nat.zero_le _) (by
  simp only[List.take_zero,List.nil_append,Nat.zero_add,List.length_nil,List.drop_zero]
  refine bg.VR (fun v u h=>RA.fA s h) hc0 he fun u hu=> ?_
  obtain⟨_,hu⟩:=hu
  exact⟨⟨t,l,look_eq⟩,by rw[hu,AD]⟩)
 rw[h]
 exact⟨iv.size,iv.defers,iv.kept,iv.wN,_,g2⟩
theorem rO{P:Program}{zb:bP}{Q:Post}{st st':St}{c:Code}(b i m:Nat)(h:G.CN st b i m=some st')(k:W P ty zb c Q st'):W P ty zb c Q st:=fun a w iv=>k a w (Gm h iv)
end
section
variable{ty:Tag→Nat}
inductive eS where
 |last(q:Nat)
 |ph(q:Nat)(c:eS)
 |br(d t:Nat)(sub next:eS)
 |nil
def eS.HK:eS→List (Nat×Nat×eS)
 | .br d t sub next=>(d,t,sub)::next.HK
 |_=> []
def eS.Mp:eS→Bool
 | .last _=>true
 | .ph _ _=>true
 |_=>false
def EB(Γ:Nat→TK)(E:Tag→Nat→Prop)(S:FuncId→List S1→List S1→Prop)(cK:List (Nat×Nat))(cr:List (Nat×CR))(ops:List Oper)(q:Nat):Nat→List Oper→St→Option (List TE×List (Nat×List Prop))
 |_,[],_=>some ([],[])
 |i,o::r,⟨n,sl,hp⟩=>match q.testBit i with
  |false=>match EB Γ E S cK cr ops q (i+1) r ⟨n,sl,hp⟩with
   |some (tr,vq)=>some (⟨0, .qR [],[]⟩::tr,vq)
   |none=>none
  |true=>match o.dst with
   |some d=>match sl.any (fun e=>e.2.mentions d),iR Γ E S cK cr ops ⟨n,sl,hp⟩ o with
    |false,some (vc,v,os)=>match fS v,SW os with
     |some v,some os=>match EB Γ E S cK cr ops q (i+1) r ⟨n,(d,v)::sl,je os hp⟩with
      |some (tr,vq)=>some (⟨d,v,os⟩::tr,(i,vc)::vq)
      |none=>none
     |_,_=>none
    |_,_=>none
   |none=>none
def EC(d:Nat):Nat→List TE→St→St
 |_,[],s=>s
 |i,e::r,s=>match d.testBit i with
  |true=>EC d (i+1) r (app s e)
  |false=>EC d (i+1) r s
def Gr(i:Nat)(vc:List Prop):List (Nat×List Prop)→List (Nat×List Prop)
 | []=> [(i,vc)]
 | (j,v)::r=>match Nat.blt j i with
   |true=>(i,vc)::(j,v)::r
   |false=>(j,v)::Gr i vc r
def ED(d:Nat):List (Nat×List Prop)→List (Nat×List Prop)→List (Nat×List Prop)
 | [],acc=>acc
 | (i,vc)::r,acc=>match d.testBit i with
   |true=>ED d r (Gr i vc acc)
   |false=>ED d r acc
def wA:List (Nat×List Prop)→Option (List Prop)
 | []=>some []
 | (_,[])::r=>wA r
 | (_,[p])::r=>match wA r with|some l=>some (p::l)|none=>none
 | (_,[p,q])::r=>match wA r with|some l=>some (p::q::l)|none=>none
 | (_,l)::r=>match wA r with|some l'=>some (l++l')|none=>none
theorem o7{i:Nat}{vc:List Prop}: ∀{l:List (Nat×List Prop)} {x:Nat×List Prop},x∈Gr i vc l↔x=(i,vc)∨x∈l
 | [],x=>by simp[Gr]
 | (j,v)::r,x=>by
   simp only[Gr]
   split
   ·simp
   ·rw[List.mem_cons,List.mem_cons,o7]
    constructor
    ·rintro(h|h|h)
     ·exact Or.inr (Or.inl h)
     ·exact Or.inl h
     ·exact Or.inr (Or.inr h)
    ·rintro(h|h|h)
     ·exact Or.inr (Or.inl h)
     ·exact Or.inl h
     ·exact Or.inr (Or.inr h)
theorem mz{d:Nat}: ∀{vq acc:List (Nat×List Prop)} {x:Nat×List Prop},x∈ED d vq acc↔(x∈vq∧d.testBit x.1=true)∨x∈acc
 | [],acc,x=>by simp[ED]
 | (i,vc)::r,acc,x=>by
   simp only[ED]
   split
   ·rename_i hb
    rw[mz,o7]
    constructor
    ·rintro(⟨h1,h2⟩|rfl|h)
     ·exact Or.inl ⟨List.mem_cons_of_mem _ h1,h2⟩
     ·exact Or.inl ⟨by simp,hb⟩
     ·exact Or.inr h
    ·rintro(⟨h1,h2⟩|h)
     ·rcases List.mem_cons.1 h1 with rfl|h1
      ·exact Or.inr (Or.inl rfl)
      ·exact Or.inl ⟨h1,h2⟩
     ·exact Or.inr (Or.inr h)
   ·rename_i hb
    rw[mz]
    constructor
    ·rintro(⟨h1,h2⟩|h)
     ·exact Or.inl ⟨List.mem_cons_of_mem _ h1,h2⟩
     ·exact Or.inr h
    ·rintro(⟨h1,h2⟩|h)
     ·rcases List.mem_cons.1 h1 with rfl|h1
      ·simp only at h2;rw[h2]at hb;cases hb
      ·exact Or.inl ⟨h1,h2⟩
     ·exact Or.inr h
theorem ve: ∀{l:List (Nat×List Prop)} {m:List Prop},wA l=some m→ ∀x,x∈l→ ∀q,q∈x.2→q∈m
 | [],_,_,x,hx=>by cases hx
 | (i,v)::r,m,h,x,hx=>by
   have key: ∃l',wA r=some l'∧m=v++l':=by
    unfold wA at h
    split at h
    ·rename_i he;cases he
    ·rename_i he;simp only[List.cons.injEq,pI]at he;obtain⟨⟨rfl,rfl⟩,rfl⟩:=he;exact⟨m,h,rfl⟩
    ·rename_i he
     simp only[List.cons.injEq,pI]at he;obtain⟨⟨rfl,rfl⟩,rfl⟩:=he
     split at h
     ·rename_i l' h1;simp only[oI]at h;exact⟨l',h1,h.symm⟩
     ·cases h
    ·rename_i he
     simp only[List.cons.injEq,pI]at he;obtain⟨⟨rfl,rfl⟩,rfl⟩:=he
     split at h
     ·rename_i l' h1;simp only[oI]at h;exact⟨l',h1,h.symm⟩
     ·cases h
    ·rename_i he
     simp only[List.cons.injEq,pI]at he;obtain⟨⟨rfl,rfl⟩,rfl⟩:=he
     split at h
     ·rename_i l' h1;simp only[oI]at h;exact⟨l',h1,h.symm⟩
     ·cases h
   obtain⟨l',h1,rfl⟩:=key
   intro q hq
   rcases List.mem_cons.1 hx with rfl|hx
   ·exact List.mem_append_left _ hq
   ·exact List.mem_append_right _ (ve h1 x hx q hq)
def gF(P:Program)(ty:Tag→Nat)(Γ:Nat→TK)(cK:List (Nat×Nat))(cr:List (Nat×CR))(ks hs:List Nat)(ops:List Oper)(n0:Nat):eS→St→List TE→List (Nat×List Prop)→List (Nat×List Prop)→Option (List (List Prop×St))
 | .last q,s,_,_,acc=>match EB Γ (A5 P ty) (Sound ty P) cK cr ops q 0 ops s with
   |some (tr,vq)=>match Hv (EC q 0 tr s)with
    |some ⟨n,W4,dM⟩=>match we W4 ks,wg dM (Hx W4 dM ks hs),wA (ED q vq acc)with
     |some sl,some hp,some vc=>match mW sl hp,Nat.beq n n0 with
      |true,true=>some [(vc,⟨n0,sl,hp⟩)]
      |_,_=>none
     |_,_,_=>none
    |none=>none
   |none=>none
 | .ph q c,s,_,_,acc=>match EB Γ (A5 P ty) (Sound ty P) cK cr ops q 0 ops s with
   |some (tr,vq)=>gF P ty Γ cK cr ks hs ops n0 c s tr vq acc
   |none=>none
 | .br d t sub next,s,tr,vq,acc=>match Hv (EC d 0 tr s),ops[t]? with
   |some s1,some o=>match step P ty Γ cK cr ops s1 o with
    |some (vc,s2)=>match Hv s2 with
     |some s2=>match gF P ty Γ cK cr ks hs ops n0 sub s2 [] [] (Gr t vc (ED d vq acc)),gF P ty Γ cK cr ks hs ops n0 next s tr vq acc with
      |some l1,some l2=>some (je l1 l2)
      |_,_=>none
     |none=>none
    |none=>none
   |_,_=>none
 | .nil,_,_,_,_=>some []
def zG(ops:List Oper)(B q EE:Nat):Nat→Nat→Nat→List Nat
 |0,_,d=> [d]
 |m+1,i,d=>match q.testBit i with
  |false=>zG ops B q EE m (i+1) d
  |true=>(match((ops[i]?).map fun o=>(bD o).all fun j=>B.testBit j||d.testBit j).getD false with
   |true=>zG ops B q EE m (i+1) (d|||2^i)
   |false=> [])++(match EE.testBit i with
   |true=> []
   |false=>zG ops B q EE m (i+1) d)
def PZ(ops:List Oper)(cl:List Nat)(A:List (Nat×Oper))(qs B q:Nat):Bool:=
 A.all fun e=>(!(q.testBit e.1)|| !(B.testBit e.1))&&
   (B.testBit e.1||q.testBit e.1|| !(qs.testBit e.1)|| !((bD e.2).all fun j=>B.testBit j||q.testBit j))&&
   (!(q.testBit e.1)||
     ((tmpsOf e.2).all fun t=>A.all fun f=> !(q.testBit f.1)|| !(tj f.2 t)||Nat.beq f.1 e.1|| (cl.getD e.1 0).testBit f.1|| (Nat.blt e.1 f.1&&(cl.getD f.1 0).testBit e.1))&&
     (match e.2.guard with
      |none=>true
      |some (j,_)=>(bD e.2).any (Nat.beq j))&&
     (match e.2.dst with
      |some d=>A.all fun f=>Nat.beq f.1 e.1|| !(tj f.2 d)
      |none=>false)&&(bD e.2).all fun j=>B.testBit j||q.testBit j)
def CS(ops:List Oper)(cl:List Nat)(n B q:Nat)(c:eS):Bool:=
 (List.range n).all fun t=>B.testBit t||q.testBit t||
  (zG ops B q (cl.getD t 0) n 0 0).all fun d=> !(((ops[t]?).map fun o=>(bD o).all fun j=>B.testBit j||d.testBit j).getD false)||c.HK.any fun b=>Nat.beq b.1 d&&Nat.beq b.2.1 t
def J8(ops:List Oper)(cl:List Nat)(A:List (Nat×Oper))(qs n:Nat):Nat→eS→Bool
 |B, .last q=>PZ ops cl A qs B q&&(List.range n).all fun i=>B.testBit i||q.testBit i
 |B, .ph q c=>PZ ops cl A qs B q&&CS ops cl n B q c&& !((List.range n).all fun i=>B.testBit i||q.testBit i)&&J8 ops cl A qs n B c
 |B, .br d t sub next=>sub.Mp&&Nat.blt t n&&J8 ops cl A qs n (B|||d|||2^t) sub&&J8 ops cl A qs n B next
 |_, .nil=>true
def P0(ops:List Oper)(qs:Nat)(p:eS):Bool:=
 ((idx 0 ops).all fun e=>(bD e.2).all fun j=>Nat.blt j e.1)&&p.Mp&&J8 ops (Bq ops) (idx 0 ops) qs ops.length 0 p
section
variable{lK D:Nat→Bool}{tr:List TE}{s:St}
theorem jE(lK:Nat→Bool)(e:TE)(tr:List TE)(s:St)(h:lK 0=false): ∀i,cm lK (e::tr) s (i+1)=cm (fun j=>lK (j+1)) tr s i
 |0=>by simp[cm,h]
 |i+1=>by
  rw[cm,jE lK e tr s h i,cm]
  simp only[List.getElem?_cons_succ]
theorem tP(d:Nat): ∀(tr:List TE) (k:Nat) (s:St),EC d k tr s=cm (fun i=>d.testBit (k+i)) tr s tr.length
 | [],_,_=>rfl
 |e::r,k,s=>by
  have hf:(fun j=>d.testBit (k+(j+1)))=fun i=>d.testBit (k+1+i):=by funext j;congr 1;omega
  simp only[EC]
  split
  ·rename_i h
   rw[tP d r (k+1) (app s e),List.length_cons,l8 _ e r s (by simpa using h),hf]
  ·rename_i h
   rw[tP d r (k+1) s,List.length_cons,jE _ e r s (by simpa using h),hf]
theorem vf{D':Nat→Bool}: ∀{n:Nat},(∀i,i<n→D i=D' i)→cm D tr s n=cm D' tr s n
 |0,_=>rfl
 |n+1,h=>by rw[cm,cm,vf (n:=n) fun i hi=>h i (by omega),h n (by omega)]
theorem zH: ∀{n:Nat},cm (fun _=>false) tr s n=s
 |0=>rfl
 |n+1=>by rw[tu rfl,zH]
theorem k9: ∀{i:Nat} {x:Nat×SV},x∈s.sl→x∈(cm D tr s i).sl
 |0,_,h=>h
 |i+1,x,h=>by
  rw[cm]
  split
  ·exact List.mem_cons_of_mem _ (k9 h)
  ·exact k9 h
def zI(Qb:Nat→Bool)(tr:List TE)(s:St)(m:Nat):Prop:= ∀i e,i<m→Qb i=true→tr[i]? =some e→ ∀n o,look e.os n=some o→look (cm Qb tr s i).hp n=none
variable{Qb:Nat→Bool}
theorem vg{m:Nat}(hf:zI Qb tr s m): ∀{j i:Nat},i≤j→j≤m→ ∀{n o},look (cm Qb tr s i).hp n=some o→look (cm Qb tr s j).hp n=some o
 |0,i,hi,_,n,o,h=>by
  have:i=0:=by omega
  subst this;exact h
 |j+1,i,hi,hm,n,o,h=>by
  by_cases hij:i=j+1
  ·subst hij;exact h
  ·have ih:=vg hf (j:=j) (i:=i) (by omega) (by omega) h
   rw[cm]
   split
   ·rename_i e' h1 h2
    show look (e'.os++(cm Qb tr s j).hp) n=_
    cases hq:look e'.os n with
    |none=>rw[aN hq];exact ih
    |some o'=>
     have:=hf j e' (by omega) h1 h2 n o' hq
     rw[this]at ih;cases ih
   ·exact ih
theorem o8{m:Nat}(hf:zI Qb tr s m)(hD: ∀i,D i=true→Qb i=true): ∀{i:Nat},i≤m→ ∀{n o},look (cm D tr s i).hp n=some o→look (cm Qb tr s i).hp n=some o
 |0,_,n,o,h=>h
 |i+1,hm,n,o,h=>by
  rw[cm]at h
  split at h
  ·rename_i e' h1 h2
   have h:look (e'.os++(cm D tr s i).hp) n=some o:=h
   rw[iV (hD i h1) h2]
   show look (e'.os++(cm Qb tr s i).hp) n=some o
   cases hq:look e'.os n with
   |none=>rw[aN hq]at h ⊢;exact o8 hf hD (by omega) h
   |some o'=>rw[bt hq]at h ⊢;exact h
  ·exact vg hf (Nat.le_succ i) hm (o8 hf hD (by omega) h)
theorem qn{m:Nat}(hf:zI Qb tr s m)(hD: ∀i,D i=true→Qb i=true): ∀{i:Nat},i≤m→ ∀{n o},look s.hp n=some o→look (cm D tr s i).hp n=some o
 |0,_,n,o,h=>h
 |i+1,hm,n,o,h=>by
  have ih:=qn hf hD (i:=i) (by omega) h
  rw[cm]
  split
  ·rename_i e' h1 h2
   show look (e'.os++(cm D tr s i).hp) n=some o
   cases hq:look e'.os n with
   |none=>rw[aN hq];exact ih
   |some o'=>
    have h3:=hf i e' (by omega) (hD i h1) h2 n o' hq
    have h4:=o8 hf hD (by omega) ih
    rw[h3]at h4;cases h4
  ·exact ih
theorem qo{m:Nat}(hf:zI Qb tr s m)(hD: ∀i,D i=true→Qb i=true): ∀{i:Nat},i≤m→ ∀{j:Nat} {e:TE} {n:Nat} {o:Obj},j<i→D j=true→tr[j]? =some e→look e.os n=some o→look (cm D tr s i).hp n=some o
 |i+1,hm,j,e,n,o,hj,hin,he,h=>by
  by_cases hij:j=i
  ·subst hij
   rw[iV hin he]
   exact bt h
  ·have ih:=qo hf hD (i:=i) (by omega) (j:=j) (by omega) hin he h
   rw[cm]
   split
   ·rename_i e' h1 h2
    show look (e'.os++(cm D tr s i).hp) n=some o
    cases hq:look e'.os n with
    |none=>rw[aN hq];exact ih
    |some o'=>
     have h3:=hf i e' (by omega) (hD i h1) h2 n o' hq
     have h4:=o8 hf hD (by omega) ih
     rw[h3]at h4;cases h4
   ·exact ih
end
structure Oh(Γ:Nat→TK)(E:Tag→Nat→Prop)(S:FuncId→List S1→List S1→Prop)(cK:List (Nat×Nat))(cr:List (Nat×CR))(ops:List Oper)(q:Nat)(s:St)(tr:List TE)(vq:List (Nat×List Prop)):Prop where
 len:tr.length=ops.length
 one: ∀i,i<ops.length→q.testBit i=true→ ∃o e vc,ops[i]? =some o∧tr[i]? =some e∧o.dst=some e.d∧((cm (fun j=>q.testBit j) tr s i).sl.any fun x=>x.2.mentions e.d)=false∧iR Γ E S cK cr ops (cm (fun j=>q.testBit j) tr s i) o=some (vc,e.v,e.os)∧(i,vc)∈vq
theorem rQ{Γ:Nat→TK}{E:Tag→Nat→Prop}{S:FuncId→List S1→List S1→Prop}{cK:List (Nat×Nat)}{cr:List (Nat×CR)}{ops:List Oper}{q:Nat}: ∀{l:List Oper} {k:Nat} {st:St} {tr:List TE} {vq:List (Nat×List Prop)},EB Γ E S cK cr ops q k l st=some (tr,vq)→(∀i o,l[i]? =some o→ops[k+i]? =some o)→
  tr.length=l.length∧ ∀i,i<l.length→q.testBit (k+i)=true→ ∃o e vc,ops[k+i]? =some o∧tr[i]? =some e∧o.dst=some e.d∧((cm (fun j=>q.testBit (k+j)) tr st i).sl.any fun x=>x.2.mentions e.d)=false∧iR Γ E S cK cr ops (cm (fun j=>q.testBit (k+j)) tr st i) o=some (vc,e.v,e.os)∧(k+i,vc)∈vq
 | [],k,st,tr,vq,h,_=>by
   simp only[EB,oI,pI]at h
   exact⟨by rw[←h.1];rfl,fun i hi=>absurd hi (by simp)⟩
 |o::r,k,⟨n,sl,hp⟩,tr,vq,h,hk=>by
  have hk': ∀i o',r[i]? =some o'→ops[k+1+i]? =some o':=fun i o' ho=>by
   have:=hk (i+1) o' (by simpa using ho)
   rw[show k+1+i=k+(i+1)by omega];exact this
  have hf:(fun j=>q.testBit (k+(j+1)))=fun i=>q.testBit (k+1+i):=by funext j;congr 1;omega
  simp only[EB]at h
  split at h
  ·rename_i hb
   split at h
   case h_2=>cases h
   rename_i VS Zl h2
   simp only[oI,pI]at h
   obtain⟨rfl,rfl⟩:=h
   obtain⟨q1,q2⟩:=rQ h2 hk'
   refine⟨by simp[q1],fun i hi hq=> ?_⟩
   cases i with
   |zero=>rw[Nat.add_zero,hb]at hq;cases hq
   |succ i=>
    obtain⟨o',e',S3,p1,p2,p3,p4,p5,p6⟩:=q2 i (by simpa using hi) (by rw[show k+1+i=k+(i+1)by omega];exact hq)
    refine⟨o',e',S3,by rw[show k+(i+1)=k+1+i by omega];exact p1,by simpa using p2,p3,?_,?_,by rw[show k+(i+1)=k+1+i by omega];exact p6⟩
    ·rw[jE _ _ VS _ (by simpa using hb) i,hf];exact p4
    ·rw[jE _ _ VS _ (by simpa using hb) i,hf];exact p5
  ·rename_i hb
   split at h
   case h_2=>cases h
   rename_i d hd
   split at h
   case h_2=>cases h
   rename_i vc v os hm hq0
   split at h
   case h_2=>cases h
   rename_i v2 Zm IP To
   have IP:=LB IP
   have To:=Ct To
   subst IP;subst To
   split at h
   case h_2=>cases h
   rename_i VS Zl h2
   simp only[oI,pI]at h
   obtain⟨rfl,rfl⟩:=h
   rw[cO]at h2
   obtain⟨q1,q2⟩:=rQ h2 hk'
   refine⟨by simp[q1],fun i hi hq=> ?_⟩
   cases i with
   |zero=>exact⟨o,⟨d,v2,Zm⟩,vc,hk 0 o rfl,rfl,hd,hm,hq0,by simp⟩
   |succ i=>
    obtain⟨o',e',S3,p1,p2,p3,p4,p5,p6⟩:=q2 i (by simpa using hi) (by rw[show k+1+i=k+(i+1)by omega];exact hq)
    have hc:=l8 (fun j=>q.testBit (k+j)) ⟨d,v2,Zm⟩ VS ⟨n,sl,hp⟩ (by simpa using hb) i
    refine⟨o',e',S3,by rw[show k+(i+1)=k+1+i by omega];exact p1,by simpa using p2,p3,?_,?_,by rw[show k+(i+1)=k+1+i by omega];exact List.mem_cons_of_mem _ p6⟩
    ·rw[hc,hf];exact p4
    ·rw[hc,hf];exact p5
theorem Oh.of{Γ:Nat→TK}{E:Tag→Nat→Prop}{S:FuncId→List S1→List S1→Prop}{cK:List (Nat×Nat)}{cr:List (Nat×CR)}{ops:List Oper}{q:Nat}{s:St}{tr:List TE}{vq:List (Nat×List Prop)}(h:EB Γ E S cK cr ops q 0 ops s=some (tr,vq)):Oh Γ E S cK cr ops q s tr vq:=by
 obtain⟨h1,h2⟩:=rQ h (fun i o ho=>by simpa using ho)
 refine⟨h1,fun i hi hq=> ?_⟩
 have:=h2 i hi (by simpa using hq)
 simpa using this
structure Tp(ops:List Oper)(qs B q:Nat):Prop where
 back: ∀i o,ops[i]? =some o→ ∀j,j∈bD o→j<i
 fU: ∀i,i<ops.length→q.testBit i=true→B.testBit i=false
 full: ∀i o,ops[i]? =some o→B.testBit i=false→qs.testBit i=true→(∀j,j∈bD o→B.testBit j=true∨q.testBit j=true)→q.testBit i=true
 uses: ∀i o,q.testBit i=true→ops[i]? =some o→ ∀t,t∈tmpsOf o→ ∀k o',q.testBit k=true→ops[k]? =some o'→o'.dst=some t→k=i∨((Bq ops).getD i 0).testBit k=true∨(i<k∧((Bq ops).getD k 0).testBit i=true)
 guard: ∀i o j x,q.testBit i=true→ops[i]? =some o→o.guard=some (j,x)→j∈bD o
 dist: ∀i o k o' d,q.testBit i=true→ops[i]? =some o→ops[k]? =some o'→o.dst=some d→o'.dst=some d→k=i
 W5: ∀i o,q.testBit i=true→ops[i]? =some o→ ∀j,j∈bD o→(B.testBit j=true∨q.testBit j=true)
theorem VT{ops:List Oper}(h:((idx 0 ops).all fun e=>(bD e.2).all fun j=>Nat.blt j e.1)=true): ∀i o,ops[i]? =some o→ ∀j,j∈bD o→j<i:=by
 intro i o ho j hj
 simp only[List.all_eq_true]at h
 have:=h _ (by simpa using tv (l:=ops) (k:=0) ho) j hj
 exact Nat.le_of_ble_eq_true this
theorem CT{ops:List Oper}{qs B q:Nat}(hb: ∀i o,ops[i]? =some o→ ∀j,j∈bD o→j<i)(h:PZ ops (Bq ops) (idx 0 ops) qs B q=true):Tp ops qs B q:=by
 simp only[PZ,List.all_eq_true,Bool.and_eq_true,Bool.or_eq_true,Bool.not_eq_true']at h
 have hA: ∀{i o},ops[i]? =some o→(i,o)∈idx 0 ops:=by
  intro i o ho
  simpa using tv (l:=ops) (k:=0) ho
 have W1: ∀{o:Oper} {t:Nat},o.dst=some t→tj o t=true:=by intro o t hd;simp[tj,hd]
 refine⟨hb,fun i hi hq=> ?_,fun i o ho hB hqs he=> ?_,fun i o hq ho t ht k o' Gs ho' hd=> ?_,fun i o j x hq ho hg=> ?_,fun i o k o' d hq ho ho' hd hd'=> ?_,fun i o hq ho j hj=> ?_⟩
 ·rcases(h _ (hA (List.getElem?_eq_getElem hi))).1.1 with h1|h1
  ·simp only at h1;rw[hq]at h1;cases h1
  ·exact h1
 ·rcases(h _ (hA ho)).1.2 with((h1|h1)|h1)|h1
  ·simp only at h1;rw[hB]at h1;cases h1
  ·exact h1
  ·simp only at h1;rw[hqs]at h1;cases h1
  ·exfalso
   have:((bD o).all fun j=>B.testBit j||q.testBit j)=true:=by
    rw[List.all_eq_true];intro j hj
    rcases he j hj with h|h
    ·rw[h];rfl
    ·rw[h];simp
   simp only at h1
   rw[this]at h1;cases h1
 ·rcases(h _ (hA ho)).2 with h1|h1
  ·simp only at h1;rw[hq]at h1;cases h1
  ·rcases h1.1.1.1 t ht _ (hA ho')with(((h2|h2)|h2)|h2)|h2
   ·simp only at h2;rw[Gs]at h2;cases h2
   ·rw[W1 hd]at h2;cases h2
   ·exact Or.inl (Nat.eq_of_beq_eq_true h2)
   ·exact Or.inr (Or.inl h2)
   ·exact Or.inr (Or.inr ⟨Nat.le_of_ble_eq_true h2.1,h2.2⟩)
 ·rcases(h _ (hA ho)).2 with h1|h1
  ·simp only at h1;rw[hq]at h1;cases h1
  ·have h2:=h1.1.1.2
   simp only[hg,List.any_eq_true]at h2
   obtain⟨y,hy,h3⟩:=h2
   rw[Nat.eq_of_beq_eq_true h3];exact hy
 ·rcases(h _ (hA ho)).2 with h1|h1
  ·simp only at h1;rw[hq]at h1;cases h1
  ·have h2:=h1.1.2
   simp only[hd,List.all_eq_true,Bool.or_eq_true,Bool.not_eq_true']at h2
   rcases h2 _ (hA ho')with h3|h3
   ·exact Nat.eq_of_beq_eq_true h3
   ·rw[W1 hd']at h3;cases h3
 ·rcases(h _ (hA ho)).2 with h1|h1
  ·simp only at h1;rw[hq]at h1;cases h1
  ·exact h1.2 j hj
end
section
variable{ty:Tag→Nat}
section
variable{P:Program}{Γ:Nat→TK}{cK:List (Nat×Nat)}{cr:List (Nat×CR)}{ops:List Oper}{s:St}{tr:List TE}{vq:List (Nat×List Prop)}{qs B q:Nat}
theorem Oh.fresh{E:Tag→Nat→Prop}{S:FuncId→List S1→List S1→Prop}(T:Oh Γ E S cK cr ops q s tr vq):zI (fun j=>q.testBit j) tr s ops.length:=by
 intro i e hi hq he n x hl
 obtain⟨o,e',vc,_,he',_,_,LP,_⟩:=T.one i hi hq
 rw[he]at he'
 simp only[oI]at he'
 subst he'
 obtain⟨p,_,_,_,hf⟩:=fC LP
 exact(hf n x hl).1
theorem Oh.path{E:Tag→Nat→Prop}{S:FuncId→List S1→List S1→Prop}(T:Oh Γ E S cK cr ops q s tr vq)(K:Tp ops qs B q): ∀(i:Nat),i<ops.length→q.testBit i=true→ ∀o p,ops[i]? =some o→dX (cm (fun j=>q.testBit j) tr s i) ops o=some p→ ∀e,e∈p→
  ∀k o',q.testBit k=true→ops[k]? =some o'→o'.dst=some e.1→ ∀D:Nat→Prop,(∀i o,D i→ops[i]? =some o→ ∀j,j∈bD o→D j)→(∀j,j∈bD o→D j)→D k:=by
 intro i
 induction i using Nat.strongRecOn with
 |_ i ih=>
  intro hi xB o p ho hg e he k o' Gs hok S7 D hD hE
  have Ax:k<ops.length:=(List.getElem?_eq_some_iff.1 hok).1
  unfold dX at hg
  split at hg
  ·simp at hg;subst hg;simp at he
  ·rename_i j x hgd
   have UE:=K.guard i o j x xB ho hgd
   have hji:=K.back i o ho j UE
   split at hg
   case h_2=>cases hg
   rename_i qj RR
   split at hg
   case h_2=>cases hg
   rename_i d RD
   have base:e.1=d→D k:=by
    intro hed
    have:j=k:=K.dist k o' j qj d Gs hok RR (by rw[S7,hed]) RD
    rw[←this];exact hE j UE
   split at hg
   ·simp only[oI]at hg
    subst hg
    simp only[List.mem_singleton]at he
    exact base (by rw[he])
   ·rename_i p' b Bp
    simp only[oI]at hg
    subst hg
    rcases List.mem_cons.1 he with h|h
    ·exact base (by rw[h])
    ·by_cases zg:q.testBit j=true
     ·obtain⟨q2,ej,vcj,Fw,X9,Tq,_,LP,_⟩:=T.one j (by omega) zg
      rw[RR]at Fw
      simp only[oI]at Fw
      subst Fw
      rw[RD]at Tq
      simp only[oI]at Tq
      subst Tq
      have Tr:look (cm (fun j=>q.testBit j) tr s i).sl ej.d=some ej.v:=by
       refine eE hji zg X9 fun j' e' h1 h2 h3 h4=> ?_
       obtain⟨q',e2,_,Po,sZ,hd2,_⟩:=T.one j' (by omega) h2
       rw[h3]at sZ
       simp only[oI]at sZ
       subst sZ
       exact K.dist j _ j' q' ej.d zg RR Po RD (by rw[hd2,h4])
      rw[Tr]at Bp
      simp only[oI]at Bp
      obtain⟨pj,S5,fk,dM,_⟩:=fC LP
      have VC:pj=p':=by
       by_cases hnil:pj= []
       ·exact absurd Bp (fk hnil _ _)
       ·obtain⟨x',hx'⟩:=(dM hnil).1
        rw[hx']at Bp
        simp only[SV.cond.injEq]at Bp
        exact Bp.1
      subst VC
      exact ih j hji (by omega) zg _ pj RR S5 e h k o' Gs hok S7 D hD (hD j _ (hE j UE) RR)
     ·
      exfalso
      have Tr:look (cm (fun j=>q.testBit j) tr s i).sl d=look s.sl d:=by
       refine gb fun j' e' h1 h2 h3 h4=> ?_
       obtain⟨q',e2,_,Po,sZ,hd2,_⟩:=T.one j' (by omega) h2
       rw[h3]at sZ
       simp only[oI]at sZ
       subst sZ
       have:=K.dist j' q' j qj d h2 Po RR (by rw[hd2,h4]) RD
       subst this
       exact zg h2
      rw[Tr]at Bp
      obtain⟨q2,ek,vck,Fw,hek,Tt,hnm,_,_⟩:=T.one k Ax Gs
      rw[hok]at Fw
      simp only[oI]at Fw
      subst Fw
      rw[S7]at Tt
      simp only[oI]at Tt
      rw[List.any_eq_false]at hnm
      refine hnm (d, .cond p' (.a (.lit (.bool b)))) (k9 (dg Bp)) ?_
      simp only[SV.mentions,List.any_eq_true]
      exact⟨e,h,by rw[Tt];simp⟩
   ·cases hg
theorem Gt(C: ∀t,b7 P t (Γ t))(T:Oh Γ (A5 P ty) (Sound ty P) cK cr ops q s tr vq)(K:Tp ops qs B q)(hv: ∀x,x∈vq→q.testBit x.1=true→x.1<ops.length→ ∀p,p∈x.2→p){zb:bP}{Q:Exit→Act→World→Prop}{D:Nat→Bool}(nX: ∀i,D i=true→q.testBit i=true)(RE: ∀i,D i=true→i<ops.length)
  (xy: ∀i o,(B.testBit i=true∨D i=true)→ops[i]? =some o→ ∀j,j∈bD o→(B.testBit j=true∨D j=true))
  {i:Nat}(xB:q.testBit i=true)(Av:D i=false){o:Oper}(ho:ops[i]? =some o)(hE: ∀j,j∈bD o→(B.testBit j=true∨D j=true)){a:Act}{w:World}(iv:Inv ty zb (cm D tr s ops.length) a w):
  kK P ops.toArray o a w (fun a' w'=>Inv ty zb (cm (fun j=>D j||j==i) tr s ops.length) a' w') Q:=by
 have hi:i<ops.length:=(List.getElem?_eq_some_iff.1 ho).1
 obtain⟨o',e,vc,ho',he,hd,hnm,hq,OT⟩:=T.one i hi xB
 rw[ho]at ho'
 simp only[oI]at ho'
 subst ho'
 have hfr:=T.fresh
 have HL: ∀{k},q.testBit k=true→k<ops.length→(B.testBit k=true∨D k=true)→D k=true:=by
  intro k hk Ax h
  rcases h with h|h
  ·rw[K.fU k Ax hk]at h;cases h
  ·exact h
 have Yh: ∀{x},((Bq ops).getD i 0).testBit x=true→(B.testBit x=true∨D x=true):=fun h=>oK (D:=fun j=>B.testBit j=true∨D j=true) K.back xy i o ho hE _ h
 have VU: ∀{x},((Bq ops).getD i 0).testBit x=true→x<i:=fun h=>oK (D:=fun j=>j<i) K.back (fun a b hab hb j hj=>Nat.lt_trans (K.back a b hb j hj) hab) i o ho (fun j hj=>K.back i o ho j hj) _ h
 have hdist: ∀{j e'},j<ops.length→q.testBit j=true→tr[j]? =some e'→ ∃q,ops[j]? =some q∧q.dst=some e'.d:=by
  intro j e' hj RR he'
  obtain⟨q,e2,_,Po,sZ,hd2,_⟩:=T.one j hj RR
  rw[he']at sZ
  simp only[oI]at sZ
  subst sZ
  exact⟨q,Po,hd2⟩
 have oL: ∀{j j':Nat} {e1 e2:TE},j<ops.length→j'<ops.length→q.testBit j=true→q.testBit j'=true→tr[j]? =some e1→tr[j']? =some e2→e2.d=e1.d→j'=j:=by
  intro j j' e1 e2 h1 h2 g1 g2 h3 h4 h5
  obtain⟨q1,p1,p2⟩:=hdist h1 g1 h3
  obtain⟨q2,p3,p4⟩:=hdist h2 g2 h4
  exact K.dist j q1 j' q2 e1.d g1 p1 p3 p2 (by rw[p4,h5])
 have agree: ∀t,(∀k o',k<ops.length→q.testBit k=true→ops[k]? =some o'→o'.dst=some t→k=i∨(k<i∧D k=true)∨(i<k∧D k=false))→look (cm (fun j=>q.testBit j) tr s i).sl t=look (cm D tr s ops.length).sl t:=by
  intro t ht
  by_cases hex: ∃k e',k<i∧D k=true∧tr[k]? =some e'∧e'.d=t
  ·obtain⟨k,e',hk,jf,he',rfl⟩:=hex
   rw[eE hk (nX k jf) he' fun j' e2 h1 h2 h3 h4=>oL (by omega) (by omega) (nX k jf) h2 he' h3 h4,eE (by omega) jf he' fun j' e2 h1 h2 h3 h4=>oL (by omega) h1 (nX k jf) (nX j' h2) he' h3 h4]
  ·rw[gb (fun k e' hk Gs he' hdt=>by
      obtain⟨q',h1,h2⟩:=hdist (by omega) Gs he'
      rcases ht k q' (by omega) Gs h1 (by rw[h2,hdt])with h|h|h
      ·omega
      ·exact hex ⟨k,e',hk,h.2,he',hdt⟩
      ·omega),
    gb (fun k e' hk jf he' hdt=>by
     obtain⟨q',h1,h2⟩:=hdist hk (nX k jf) he'
     rcases ht k q' hk (nX k jf) h1 (by rw[h2,hdt])with h|h|h
     ·subst h;rw[Av]at jf;cases jf
     ·exact hex ⟨k,e',h.1,h.2,he',hdt⟩
     ·rw[h.2]at jf;cases jf)]
 obtain⟨p,eo,fk,dM,AE⟩:=fC hq
 have tB: ∀x,x∈p→look (cm (fun j=>q.testBit j) tr s i).sl x.1=look (cm D tr s ops.length).sl x.1:=by
  intro x hx
  refine agree x.1 fun k o2 Ax Gs Fx hd2=>Or.inr (Or.inl ⟨?_,HL Gs Ax ?_⟩)
  ·exact T.path K i hi xB o p ho eo x hx k o2 Gs Fx hd2 (fun j=>j<i) (fun a b hab hb j hj=>Nat.lt_trans (K.back a b hb j hj) hab) (fun j hj=>K.back i o ho j hj)
  ·exact T.path K i hi xB o p ho eo x hx k o2 Gs Fx hd2 (fun j=>B.testBit j=true∨D j=true) xy hE
 have fW:dX (cm D tr s ops.length) ops o=some p:=by
  rw[←eo]
  unfold dX
  split
  ·rfl
  ·rename_i j x hgd
   split
   ·rename_i q zg
    split
    ·rename_i d Fv
     have hmem: ∃y,(d,y)∈p:=by
      unfold dX at eo
      rw[hgd]at eo
      dsimp only at eo
      rw[zg]at eo
      dsimp only at eo
      rw[Fv]at eo
      dsimp only at eo
      split at eo
      ·simp only[oI]at eo;exact⟨x,by rw[←eo];simp⟩
      ·simp only[oI]at eo;exact⟨x,by rw[←eo];simp⟩
      ·cases eo
     obtain⟨y,hy⟩:=hmem
     rw[←tB (d,y) hy]
    ·rfl
   ·rfl
 have F6:fresh (cm D tr s ops.length).hp e.os=true:=by
  refine ze fun n x hl=> ?_
  cases Fw:look (cm D tr s ops.length).hp n with
  |none=>exact⟨rfl,(AE n x hl).2⟩
  |some y=>
   exfalso
   have hpi:=hfr i e hi xB he n x hl
   rcases eN Fw with h| ⟨j,e',hj,uN,he',h⟩
   ·have:=qn (D:=fun j=>q.testBit j) hfr (fun _ h=>h) (i:=i) (by omega) h
    rw[hpi]at this
    cases this
   ·have hji:j≠i:=by rintro rfl;rw[Av]at uN;cases uN
    by_cases hlt:j<i
    ·have:=qo (D:=fun j=>q.testBit j) hfr (fun _ h=>h) (i:=i) (by omega) hlt (nX j uN) he' h
     rw[hpi]at this
     cases this
    ·have h2:=hfr j e' hj (nX j uN) he' n y h
     have:=qo (D:=fun j=>q.testBit j) hfr (fun _ h=>h) (i:=j) (by omega) (j:=i) (by omega) xB he hl
     rw[h2]at this
     cases this
 have LQ:((cm D tr s ops.length).sl.any fun x=>x.2.mentions e.d)=false:=by
  rw[List.any_eq_false]
  intro x hx hm
  rcases xw hx with h| ⟨j,e',hj,uN,he',rfl⟩
  ·rw[List.any_eq_false]at hnm
   exact hnm x (k9 h) hm
  ·obtain⟨qq,e2,Rn,zg,sZ,hd2,_,LP,_⟩:=T.one j hj (nX j uN)
   rw[he']at sZ
   simp only[oI]at sZ
   subst sZ
   obtain⟨pj,S5,hj0,K8,_⟩:=fC LP
   by_cases hnil:pj= []
   ·cases ny:e'.v with
    |cond q y=>exact hj0 hnil _ _ ny
    |one y=>simp[ny,SV.mentions]at hm
    |qR y=>simp[ny,SV.mentions]at hm
   ·obtain⟨y,hy⟩:=(K8 hnil).1
    simp only[hy,SV.mentions,List.any_eq_true]at hm
    obtain⟨z,hz,hzd⟩:=hm
    have hzd:=Nat.eq_of_beq_eq_true hzd
    have h4:=T.path K j hj (nX j uN) qq pj zg S5 z hz i o xB ho (by rw[hd,hzd]) (fun j=>B.testBit j=true∨D j=true) xy (xy j qq (Or.inr uN) zg)
    have:=HL xB hi h4
    rw[Av]at this;cases this
 have WD:e.v.mentions e.d=false:=by
  by_cases hnil:p= []
  ·cases ny:e.v with
   |cond q y=>exact absurd ny (fk hnil _ _)
   |one y=>rfl
   |qR y=>rfl
  ·obtain⟨⟨y,hy⟩,_,hne⟩:=dM hnil
   rw[hy]
   simp only[SV.mentions]
   rw[List.any_eq_false]
   intro z hz hb
   exact hne e.d hd z hz (Nat.eq_of_beq_eq_true hb)
 have VV: ∀j,(fun j=>D j||j==i) j=true→q.testBit j=true:=by
  intro j hj
  simp only[Bool.or_eq_true,beq_iff_eq]at hj
  rcases hj with h|rfl
  ·exact nX j h
  ·exact xB
 have behind: ∀a' w',Inv ty zb (app (cm D tr s ops.length) e) a' w'→Inv ty zb (cm (fun j=>D j||j==i) tr s ops.length) a' w':=by
  intro a' w' jA
  obtain⟨env,g⟩:=jA.good
  refine⟨by rw[jA.size,kS];show(cm D tr s ops.length).n=s.n;exact kS _,jA.defers,jA.kept,jA.wN,env,g.congr ?_ ?_⟩
  ·intro t v hl
   show look ((e.d,e.v)::(cm D tr s ops.length).sl) t=some v
   by_cases ht:t=e.d
   ·subst ht
    rw[eE hi (by simp) he fun j' e2 h1 h2 h3 h4=>oL hi h1 xB (VV j' h2) he h3 h4]at hl
    rw[look_eq];exact hl
   ·rw[aK ht]
    by_cases hex: ∃k e',k<ops.length∧D k=true∧tr[k]? =some e'∧e'.d=t
    ·obtain⟨k,e',hk,jf,he',rfl⟩:=hex
     rw[eE hk (by simp[jf]) he' fun j' e2 h1 h2 h3 h4=>oL hk h1 (nX k jf) (VV j' h2) he' h3 h4]at hl
     rw[eE hk jf he' fun j' e2 h1 h2 h3 h4=>oL hk h1 (nX k jf) (nX j' h2) he' h3 h4]
     exact hl
    ·rw[gb fun k e' hk jf he' hdt=>by
      simp only[Bool.or_eq_true,beq_iff_eq]at jf
      rcases jf with h|rfl
      ·exact hex ⟨k,e',hk,h,he',hdt⟩
      ·rw[he]at he'
       simp only[oI]at he'
       exact ht (by rw[he',hdt])]at hl
     rw[gb fun k e' hk jf he' hdt=>hex ⟨k,e',hk,jf,he',hdt⟩]
     exact hl
  ·intro n
   show look (cm (fun j=>D j||j==i) tr s ops.length).hp n=look (e.os++(cm D tr s ops.length).hp) n
   cases hl:look e.os n with
   |some x=>
    rw[bt hl]
    exact qo hfr VV (Nat.le_refl _) hi (by simp) he hl
   |none=>
    rw[aN hl]
    cases hx:look (cm (fun j=>D j||j==i) tr s ops.length).hp n with
    |some y=>
     rcases eN hx with h| ⟨j,e',hj,uN,he',h⟩
     ·exact(qn hfr nX (Nat.le_refl _) h).symm
     ·have hji:j≠i:=by
       rintro rfl
       rw[he]at he'
       simp only[oI]at he'
       subst he'
       rw[hl]at h;cases h
      have uN:D j=true:=by
       simp only[Bool.or_eq_true,beq_iff_eq]at uN
       exact uN.resolve_right hji
      exact(qo hfr nX (Nat.le_refl _) hj uN he' h).symm
    |none=>
     cases hy:look (cm D tr s ops.length).hp n with
     |none=>rfl
     |some y=>
      rcases eN hy with h| ⟨j,e',hj,uN,he',h⟩
      ·rw[qn hfr VV (Nat.le_refl _) h]at hx;cases hx
      ·rw[qo hfr VV (Nat.le_refl _) hj (by simp[uN]) he' h]at hx;cases hx
 have hput:St.put ⟨(cm D tr s ops.length).n,(cm D tr s ops.length).sl,e.os++(cm D tr s ops.length).hp⟩ o.dst e.v=app (cm D tr s ops.length) e:=by
  rw[hd]
  simp only[St.put,LQ]
  rfl
 by_cases hw:Region.wanted o (yielded ops.toArray a.tmps)=true
 ·have hh:holds a.tmps p:=by
   obtain⟨env,g⟩:=iv.good
   unfold dX at fW
   split at fW
   ·simp at fW;subst fW;intro y hy;simp at hy
   ·rename_i j x hgd
    split at fW
    ·rename_i q zg
     split at fW
     ·rename_i d Fv
      have S6:=(jS (ops:=ops.toArray) hgd (by simpa using zg) Fv a.tmps).1 hw
      split at fW
      ·simp only[oI]at fW
       subst fW
       intro y hy
       simp at hy
       subst hy
       exact S6
      ·rename_i p' b hl
       simp only[oI]at fW
       subst fW
       intro y hy
       rcases List.mem_cons.1 hy with rfl|hy
       ·exact S6
       ·exact(pV g hl S6).1 y hy
      ·cases fW
     ·cases fW
    ·cases fW
  obtain⟨env,g⟩:=iv.good
  have CB:Compat (cm (fun j=>q.testBit j) tr s i).hp (cm D tr s ops.length).hp:=by
   intro n x y h1 h2
   have h3:=vg hfr (Nat.le_of_lt hi) (Nat.le_refl _) h1
   have h4:=o8 hfr nX (Nat.le_refl _) h2
   rw[h3]at h4
   simpa using h4
  have hmono:=zc CB g (by rw[kS,kS]) eo fW hh (fun x hx t Ya=>agree t fun k o2 hk Gs Fx hd2=>by
    have ht:t∈tmpsOf o:=by
     simp only[tmpsOf,List.mem_filterMap]
     exact⟨x,hx,by rw[Ya]⟩
    rcases K.uses i o xB ho t ht k o2 Gs Fx hd2 with h|h|h
    ·exact Or.inl h
    ·exact Or.inr (Or.inl ⟨VU h,HL Gs hk (Yh h)⟩)
    ·refine Or.inr (Or.inr ⟨h.1,?_⟩)
     cases jf:D k with
     |false=>rfl
     |true=>
      have:=oK (D:=fun j=>B.testBit j=true∨D j=true) K.back xy k o2 Fx (xy k o2 (Or.inr jf) Fx) i h.2
      have:=HL xB hi this
      rw[Av]at this;cases this) tB F6 hq
  have:=yB (Q:=Q) C hmono iv (fun p hp=>hv _ OT xB hi p hp)
  rw[hput]at this
  exact this.mono behind
 ·unfold kK
  rw[if_neg hw]
  have hnil:p≠ []:=by
   rintro rfl
   unfold dX at eo
   split at eo
   ·rename_i hgd;exact hw (by simp[Region.wanted,hgd])
   ·repeat' split at eo
    all_goals simp at eo
  obtain⟨⟨y,hy⟩,hos,_⟩:=dM hnil
  have Yb: ¬holds a.tmps p:=by
   intro hh
   unfold dX at eo
   split at eo
   ·rename_i hgd;exact hw (by simp[Region.wanted,hgd])
   ·rename_i j x hgd
    split at eo
    ·rename_i q zg
     split at eo
     ·rename_i d Fv
      have Yc:(d,x)∈p:=by
       split at eo
       ·simp only[oI]at eo;rw[←eo];simp
       ·simp only[oI]at eo;rw[←eo];simp
       ·cases eo
      exact hw ((jS (ops:=ops.toArray) hgd (by simpa using zg) Fv a.tmps).2 (hh _ Yc))
     ·cases eo
    ·cases eo
  apply behind
  obtain⟨env,g⟩:=iv.good
  have hlt:e.d<a.tmps.size:=by
   unfold iR at hq
   have:qS (cm (fun j=>q.testBit j) tr s i) o.dst=true:=by
    cases S7:qS (cm (fun j=>q.testBit j) tr s i) o.dst with
    |true=>rfl
    |false=>rw[S7]at hq;simp at hq
   rw[hd]at this
   rw[iv.size,kS]
   have:=Nat.le_of_ble_eq_true this
   rw[show(cm (fun j=>q.testBit j) tr s i).n=s.n from kS i]at this
   exact this
  have LR:=g.put (d:=e.d) hlt (v:=e.v) (u:=undef) (by rw[hy];exact⟨fun hh=>absurd hh Yb,fun _=>rfl⟩) WD
  refine⟨by rw[iU];exact iv.size,by rw[put_defers];exact iv.defers,iv.kept,iv.wN,env,?_⟩
  rw[hd]
  have S8:(cm D tr s ops.length).put (some e.d) e.v=app (cm D tr s ops.length) e:=by
   simp only[St.put,LQ,app,hos]
   rfl
  rw[S8]at LR
  exact LR
end
theorem tQ{ops:List Oper}{B q EE:Nat}{D:Nat→Bool}(nX: ∀i,D i=true→q.testBit i=true)(Tu: ∀i,D i=true→i<ops.length)(hb: ∀i o,ops[i]? =some o→ ∀j,j∈bD o→j<i)
  (hc: ∀i o,D i=true→ops[i]? =some o→ ∀j,j∈bD o→(B.testBit j=true∨D j=true))(HM: ∀i,q.testBit i=true→EE.testBit i=true→D i=true):
  ∀(m i d:Nat),i+m=ops.length→(∀j,d.testBit j=(decide (j<i)&&D j))→ ∃d',d'∈zG ops B q EE m i d∧ ∀j,d'.testBit j=D j
 |0,i,d,W2,hd=>by
  refine⟨d,by simp[zG],fun j=> ?_⟩
  rw[hd j]
  cases hj:D j with
  |false=>simp
  |true=>have:=Tu j hj;simp;omega
 |m+1,i,d,W2,hd=>by
  have hstep:D i=false→ ∀j,d.testBit j=(decide (j<i+1)&&D j):=by
   intro Av j
   rw[hd j]
   by_cases hji:j=i
   ·subst hji;simp[Av]
   ·have:decide (j<i)=decide (j<i+1):=by
     apply decide_eq_decide.2;omega
    rw[this]
  simp only[zG]
  split
  ·rename_i hq
   have Av:D i=false:=by
    cases h:D i with
    |false=>rfl
    |true=>rw[nX i h]at hq;cases hq
   exact tQ nX Tu hb hc HM m (i+1) d (by omega) (hstep Av)
  ·rename_i hq
   cases Av:D i with
   |true=>
    have hlt:=Tu i Av
    have ho:=List.getElem?_eq_getElem hlt
    have hcond:(((ops[i]?).map fun o=>(bD o).all fun j=>B.testBit j||d.testBit j).getD false)=true:=by
     rw[ho]
     simp only[Option.map_some,Option.getD_some,List.all_eq_true,Bool.or_eq_true]
     intro j hj
     rcases hc i _ Av ho j hj with h|h
     ·exact Or.inl h
     ·exact Or.inr (by rw[hd j,h];have:=hb i _ ho j hj;simp[this])
    obtain⟨d',h1,h2⟩:=tQ nX Tu hb hc HM m (i+1) (d|||2^i) (by omega) (fun j=>by
     rw[Nat.testBit_or,Nat.testBit_two_pow,hd j]
     by_cases hji:i=j
     ·subst hji;simp[Av]
     ·have:decide (j<i)=decide (j<i+1):=by
       apply decide_eq_decide.2;omega
      simp[hji,this])
    refine⟨d',?_,h2⟩
    rw[hcond]
    exact List.mem_append_left _ h1
   |false=>
    obtain⟨d',h1,h2⟩:=tQ nX Tu hb hc HM m (i+1) d (by omega) (hstep Av)
    refine⟨d',List.mem_append_right _ ?_,h2⟩
    split
    ·rename_i hm
     have:=HM i hq hm
     rw[Av]at this;cases this
    ·exact h1
section
variable{P:Program}{Γ:Nat→TK}{cK:List (Nat×Nat)}{cr:List (Nat×CR)}{ks hs:List Nat}{ops:List Oper}{n0 qs:Nat}
theorem ld: ∀{c:eS} {s:St} {tr:List TE} {vq acc:List (Nat×List Prop)} {lv:List (List Prop×St)},gF P ty Γ cK cr ks hs ops n0 c s tr vq acc=some lv→ ∀d t sub,(d,t,sub)∈c.HK→
  ∃o vc s2 l1,ops[t]? =some o∧step P ty Γ cK cr ops (EC d 0 tr s) o=some (vc,s2)∧gF P ty Γ cK cr ks hs ops n0 sub s2 [] [] (Gr t vc (ED d vq acc))=some l1∧ ∀x,x∈l1→x∈lv
 | .br d0 t0 VW next,s,tr,vq,acc,lv,h,d,t,sub,hm=>by
   simp only[gF]at h
   split at h
   case h_2=>cases h
   rename_i s1 o hs1 ho
   have hs1:=jg hs1
   subst hs1
   split at h
   case h_2=>cases h
   rename_i vc s2 hst
   split at h
   case h_2=>cases h
   rename_i s3 Yi
   have Yi:=jg Yi
   subst Yi
   split at h
   case h_2=>cases h
   rename_i l1 l2 h1 h2
   simp only[oI]at h
   rw[cO]at h
   subst h
   simp only[eS.HK,List.mem_cons,pI]at hm
   rcases hm with⟨rfl,rfl,rfl⟩|hm
   ·exact⟨o,vc,_,l1,ho,hst,h1,fun x hx=>List.mem_append_left _ hx⟩
   ·obtain⟨o',S3,s',l',p1,p2,p3,p4⟩:=ld h2 d t sub hm
    exact⟨o',S3,s',l',p1,p2,p3,fun x hx=>List.mem_append_right _ (p4 x hx)⟩
 | .last _,_,_,_,_,_,_,_,_,_,hm=>by simp[eS.HK]at hm
 | .ph _ _,_,_,_,_,_,_,_,_,_,hm=>by simp[eS.HK]at hm
 | .nil,_,_,_,_,_,_,_,_,_,hm=>by simp[eS.HK]at hm
theorem mA: ∀{c:eS} {s:St} {tr:List TE} {vq acc:List (Nat×List Prop)} {lv:List (List Prop×St)},gF P ty Γ cK cr ks hs ops n0 c s tr vq acc=some lv→ ∀x,x∈lv→ ∀y,y∈acc→ ∀p,p∈y.2→p∈x.1
 | .last q,s,tr,vq,acc,lv,h,x,hx,y,hy,p,hp=>by
   simp only[gF]at h
   repeat' split at h
   all_goals first
    | (cases h;done)
    |skip
   rename_i hf _ _ _ _
   simp only[oI]at h
   subst h
   rw[List.mem_singleton]at hx
   subst hx
   exact ve hf y (mz.2 (Or.inr hy)) p hp
 | .ph q c,s,tr,vq,acc,lv,h,x,hx,y,hy,p,hp=>by
   simp only[gF]at h
   split at h
   ·exact mA h x hx y hy p hp
   ·cases h
 | .br d0 t0 VW next,s,tr,vq,acc,lv,h,x,hx,y,hy,p,hp=>by
   simp only[gF]at h
   split at h
   case h_2=>cases h
   split at h
   case h_2=>cases h
   split at h
   case h_2=>cases h
   split at h
   case h_2=>cases h
   rename_i l1 l2 h1 h2
   simp only[oI]at h
   rw[cO]at h
   subst h
   rcases List.mem_append.1 hx with hx|hx
   ·exact mA h1 x hx y (o7.2 (Or.inr (mz.2 (Or.inr hy)))) p hp
   ·exact mA h2 x hx y hy p hp
 | .nil,_,_,_,_,_,h,x,hx,_,_,_,_=>by
   simp only[gF,oI]at h
   subst h
   cases hx
theorem qp{n:Nat}: ∀{c:eS} {B:Nat},J8 ops (Bq ops) (idx 0 ops) qs n B c=true→ ∀d t sub,(d,t,sub)∈c.HK→sub.Mp=true∧t<n∧J8 ops (Bq ops) (idx 0 ops) qs n (B|||d|||2^t) sub=true∧SizeOf.sizeOf sub<SizeOf.sizeOf c
 | .br d0 t0 VW next,B,h,d,t,sub,hm=>by
   simp only[J8,Bool.and_eq_true]at h
   simp only[eS.HK,List.mem_cons,pI]at hm
   rcases hm with⟨rfl,rfl,rfl⟩|hm
   ·exact⟨h.1.1.1,Nat.le_of_ble_eq_true h.1.1.2,h.1.2,by simp only[eS.br.sizeOf_spec];omega⟩
   ·obtain⟨p1,p2,p3,p4⟩:=qp h.2 d t sub hm
    exact⟨p1,p2,p3,by simp only[eS.br.sizeOf_spec];omega⟩
 | .last _,_,_,_,_,_,hm=>by simp[eS.HK]at hm
 | .ph _ _,_,_,_,_,_,hm=>by simp[eS.HK]at hm
 | .nil,_,_,_,_,_,hm=>by simp[eS.HK]at hm
theorem BB{B q:Nat}{c:eS}(h:CS ops (Bq ops) ops.length B q c=true)(K:Tp ops qs B q){D:Nat→Bool}(nX: ∀i,D i=true→q.testBit i=true)(Tu: ∀i,D i=true→i<ops.length)
  (xy: ∀i o,(B.testBit i=true∨D i=true)→ops[i]? =some o→ ∀j,j∈bD o→(B.testBit j=true∨D j=true)){t:Nat}{o:Oper}(ho:ops[t]? =some o)(ht:B.testBit t=false)(hqt:q.testBit t=false)(hE: ∀j,j∈bD o→(B.testBit j=true∨D j=true)):
  ∃d sub,(d,t,sub)∈c.HK∧ ∀i,d.testBit i=D i:=by
 have htl:t<ops.length:=(List.getElem?_eq_some_iff.1 ho).1
 simp only[CS,List.all_eq_true,List.mem_range,Bool.or_eq_true]at h
 obtain⟨d,h1,h2⟩:=tQ (B:=B) (q:=q) (EE:=(Bq ops).getD t 0) nX Tu K.back (fun i o hi=>xy i o (Or.inr hi)) (fun i xB hm=>by
  have:=oK (D:=fun j=>B.testBit j=true∨D j=true) K.back xy t o ho hE i hm
  rcases this with h|h
  ·have hil:i<ops.length:=by
    have:=oK (D:=fun j=>j<t) K.back (fun a b hab hb j hj=>Nat.lt_trans (K.back a b hb j hj) hab) t o ho (fun j hj=>K.back t o ho j hj) _ hm
    omega
   rw[K.fU i hil xB]at h;cases h
  ·exact h) ops.length 0 0 (by omega) (fun j=>by simp)
 rcases h t htl with(h3|h3)|h3
 ·rw[ht]at h3;cases h3
 ·rw[hqt]at h3;cases h3
 ·have h4:=h3 d h1
  simp only[Bool.not_eq_true',List.any_eq_true,Bool.and_eq_true]at h4
  rcases h4 with h4| ⟨⟨d',t',sub⟩,h5,h6,h7⟩
  ·exfalso
   rw[ho]at h4
   simp only[Option.map_some,Option.getD_some]at h4
   have:((bD o).all fun j=>B.testBit j||d.testBit j)=true:=by
    rw[List.all_eq_true]
    intro j hj
    rw[Bool.or_eq_true,h2 j]
    exact hE j hj
   rw[this]at h4;cases h4
  ·have h6:=Nat.eq_of_beq_eq_true h6
   have h7:=Nat.eq_of_beq_eq_true h7
   simp only at h6 h7
   subst h6;subst h7
   exact⟨d',sub,h5,h2⟩
theorem HN{B q:Nat}{c:eS}(Yj:CS ops (Bq ops) ops.length B q c=true)(K:Tp ops qs B q)(EF: ∀i o,B.testBit i=true→ops[i]? =some o→ ∀j,j∈bD o→B.testBit j=true)
  (LP: ∀i o,q.testBit i=true→ops[i]? =some o→ ∀j,j∈bD o→(B.testBit j=true∨q.testBit j=true))(hnot:((List.range ops.length).all fun i=>B.testBit i||q.testBit i)=false):
  ∃d t sub,(d,t,sub)∈c.HK∧(∀i,d.testBit i=(q.testBit i&&decide (i<ops.length)))∧ ∀o,ops[t]? =some o→ ∀j,j∈bD o→(B.testBit j=true∨d.testBit j=true):=by
 have: ∃i,i<ops.length∧B.testBit i=false∧q.testBit i=false∧ ∀j,j<i→B.testBit j=true∨q.testBit j=true:=by
  rw[List.all_eq_false]at hnot
  obtain⟨i,hi,hn⟩:=hnot
  rw[List.mem_range]at hi
  simp only[Bool.or_eq_true,not_or,Bool.not_eq_true]at hn
  induction i using Nat.strongRecOn with
  |_ i ih=>
   by_cases hl: ∀j,j<i→B.testBit j=true∨q.testBit j=true
   ·exact⟨i,hi,hn.1,hn.2,hl⟩
   ·have: ∃j,j<i∧B.testBit j=false∧q.testBit j=false:=by
     apply Classical.byContradiction
     intro hno
     apply hl
     intro j hj
     cases hb:B.testBit j with
     |true=>exact Or.inl rfl
     |false=>
      cases hq:q.testBit j with
      |true=>exact Or.inr rfl
      |false=>exact absurd ⟨j,hj,hb,hq⟩ hno
    obtain⟨j,hj,h1,h2⟩:=this
    exact ih j hj (by omega) ⟨h1,h2⟩
 obtain⟨i,hi,h1,h2,h3⟩:=this
 have ho:=List.getElem?_eq_getElem hi
 obtain⟨d,sub,h4,h5⟩:=BB (D:=fun j=>q.testBit j&&decide (j<ops.length)) Yj K (fun j hj=>by simp at hj;exact hj.1) (fun j hj=>by simp at hj;exact hj.2)
  (fun a b hab hb j hj=>by
   have hal:a<ops.length:=(List.getElem?_eq_some_iff.1 hb).1
   have hjl:j<ops.length:=Nat.lt_trans (K.back a b hb j hj) hal
   rcases hab with h|h
   ·exact Or.inl (EF a b h hb j hj)
   ·simp at h
    rcases LP a b h.1 hb j hj with h|h
    ·exact Or.inl h
    ·exact Or.inr (by simp[h,hjl])) ho h1 h2 (fun j hj=>by
   have hji:=K.back i _ ho j hj
   rcases h3 j hji with h|h
   ·exact Or.inl h
   ·exact Or.inr (by simp[h];omega))
 refine⟨d,i,sub,h4,h5,fun o ho' j hj=> ?_⟩
 have hji:=K.back i _ ho' j hj
 rcases h3 j hji with h|h
 ·exact Or.inl h
 ·exact Or.inr (by rw[h5 j,h];simp;omega)
theorem CU{B d t q:Nat}(K:Tp ops qs B q)(EF: ∀i o,B.testBit i=true→ops[i]? =some o→ ∀j,j∈bD o→B.testBit j=true)(hd: ∀i o,d.testBit i=true→ops[i]? =some o→ ∀j,j∈bD o→(B.testBit j=true∨d.testBit j=true))
  (ht: ∀o,ops[t]? =some o→ ∀j,j∈bD o→(B.testBit j=true∨d.testBit j=true)): ∀i o,(B|||d|||2^t).testBit i=true→ops[i]? =some o→ ∀j,j∈bD o→(B|||d|||2^t).testBit j=true:=by
 intro i o hi ho j hj
 simp only[Nat.testBit_or,Nat.testBit_two_pow,Bool.or_eq_true,decide_eq_true_eq]at hi ⊢
 rcases hi with(h|h)|h
 ·exact Or.inl (Or.inl (EF i o h ho j hj))
 ·exact Or.inl (hd i o h ho j hj)
 ·subst h;exact Or.inl (ht o ho j hj)
theorem zJ: ∀(N:Nat) (p:eS),SizeOf.sizeOf p≤N→p.Mp=true→ ∀(B:Nat) (s:St) (tr:List TE) (vq acc:List (Nat×List Prop)) (lv:List (List Prop×St)),(∀i o,ops[i]? =some o→ ∀j,j∈bD o→j<i)→(∀i o,B.testBit i=true→ops[i]? =some o→ ∀j,j∈bD o→B.testBit j=true)→
  J8 ops (Bq ops) (idx 0 ops) qs ops.length B p=true→gF P ty Γ cK cr ks hs ops n0 p s tr vq acc=some lv→lv≠ []
 |N, .last q,_,_,B,s,tr,vq,acc,lv,hb,EF,hok,h=>by
  simp only[gF]at h
  repeat' split at h
  all_goals first
   | (cases h;done)
   |skip
  simp only[oI]at h
  rw[←h];simp
 |0, .ph q c,hN,_,_,_,_,_,_,_,_,_,_,_=>by simp only[eS.ph.sizeOf_spec]at hN;omega
 |N+1, .ph q c,hN,_,B,s,tr,vq,acc,lv,hb,EF,hok,h=>by
  simp only[J8,Bool.and_eq_true,Bool.not_eq_true']at hok
  have K:=CT hb hok.1.1.1
  obtain⟨d,t,sub,hm,hd,ht⟩:=HN hok.1.1.2 K EF K.W5 hok.1.2
  simp only[gF]at h
  split at h
  case h_2=>cases h
  rename_i VS Zl hr
  obtain⟨o,vc,s2,l1,h1,h2,h3,h4⟩:=ld h d t sub hm
  obtain⟨p1,p2,p3,p4⟩:=qp hok.2 d t sub hm
  have hsz:SizeOf.sizeOf sub≤N:=by simp only[eS.ph.sizeOf_spec]at hN;omega
  have:=zJ N sub hsz p1 (B|||d|||2^t) s2 [] [] _ l1 hb (CU K EF (fun i o hi ho j hj=>by
   rw[hd i]at hi
   simp only[Bool.and_eq_true,decide_eq_true_eq]at hi
   rcases K.W5 i o hi.1 ho j hj with h|h
   ·exact Or.inl h
   ·exact Or.inr (by rw[hd j,h];have:=K.back i o ho j hj;simp;omega)) ht) p3 h3
  intro hnil
  cases l1 with
  |nil=>exact this rfl
  |cons x r=>have:=h4 x (by simp);rw[hnil]at this;cases this
 |_, .br _ _ _ _,_,hp,_,_,_,_,_,_,_,_,_,_=>by cases hp
 |_, .nil,_,hp,_,_,_,_,_,_,_,_,_,_=>by cases hp
variable{zb:bP}{Q:Exit→Act→World→Prop}
theorem BC(X:Ctx P ty Γ){B q:Nat}{s:St}{tr:List TE}{vq:List (Nat×List Prop)}(T:Oh Γ (A5 P ty) (Sound ty P) cK cr ops q s tr vq)(K:Tp ops qs B q)(hv: ∀x,x∈vq→q.testBit x.1=true→x.1<ops.length→ ∀p,p∈x.2→p)(EF: ∀i o,B.testBit i=true→ops[i]? =some o→ ∀j,j∈bD o→B.testBit j=true)
  (fin: ∀a w,(∀i,i<ops.length→B.testBit i=true∨q.testBit i=true)→Inv ty zb (cm (fun j=>q.testBit j) tr s ops.length) a w→Q .normal a w)
  (fA: ∀(fuel:Nat) (D:Nat→Bool) (listed:Array Bool) (i:Nat) (o:Oper) (a:Act) (w:World),listed.size=ops.length→(∀j,j<ops.length→listed.getD j false=(B.testBit j||D j))→(∀i,D i=true→q.testBit i=true)→(∀i,D i=true→i<ops.length)→
   (∀i o,(B.testBit i=true∨D i=true)→ops[i]? =some o→ ∀j,j∈bD o→(B.testBit j=true∨D j=true))→ops[i]? =some o→B.testBit i=false→q.testBit i=false→(∀j,j∈bD o→(B.testBit j=true∨D j=true))→cnt ops.length (fun j=>(listed.setIfInBounds i true).getD j false)≤fuel→
   Inv ty zb (cm D tr s ops.length) a w→kK P ops.toArray o a w (wpAny P .any ops.toArray Q fuel (listed.setIfInBounds i true)) Q):
  ∀(fuel:Nat) (D:Nat→Bool) (listed:Array Bool) (a:Act) (w:World),listed.size=ops.length→(∀j,j<ops.length→listed.getD j false=(B.testBit j||D j))→(∀i,D i=true→q.testBit i=true)→(∀i,D i=true→i<ops.length)→
   (∀i o,(B.testBit i=true∨D i=true)→ops[i]? =some o→ ∀j,j∈bD o→(B.testBit j=true∨D j=true))→cnt ops.length (fun j=>listed.getD j false)≤fuel→Inv ty zb (cm D tr s ops.length) a w→wpAny P .any ops.toArray Q fuel listed a w:=by
 have all: ∀{D:Nat→Bool} {listed:Array Bool} {a:Act} {w:World},listed.size=ops.length→(∀j,j<ops.length→listed.getD j false=(B.testBit j||D j))→(∀i,D i=true→q.testBit i=true)→Region.ready .any ops.toArray listed= []→Inv ty zb (cm D tr s ops.length) a w→Q .normal a w:=by
  intro D listed a w hl hL nX hnil iv
  have Ja: ∀i,i<ops.length→listed.getD i false=true:=by
   intro i
   induction i using Nat.strongRecOn with
   |_ i ih=>
    intro hi
    cases hd:listed.getD i false with
    |true=>rfl
    |false=>
     have:i∈Region.ready .any ops.toArray listed:=(gE hl).2 ⟨ops[i],List.getElem?_eq_getElem hi,hd,fun j hj=>by
      have:=K.back i _ (List.getElem?_eq_getElem hi) j hj
      exact ih j this (by omega)⟩
     rw[hnil]at this
     cases this
  have Zn: ∀i,i<ops.length→B.testBit i=true∨D i=true:=by
   intro i hi
   have:=Ja i hi
   rw[hL i hi,Bool.or_eq_true]at this
   exact this
  refine fin a w (fun i hi=>(Zn i hi).imp id (nX i)) ?_
  rw[←vf (D:=D) fun i hi=> ?_]
  ·exact iv
  ·cases hq:q.testBit i with
   |false=>
    cases hd:D i with
    |false=>rfl
    |true=>rw[nX i hd]at hq;cases hq
   |true=>
    rcases Zn i hi with h|h
    ·rw[K.fU i hi hq]at h;cases h
    ·exact h
 intro fuel
 induction fuel with
 |zero=>
  intro D listed a w hl hL nX RE xy hf iv
  have hz:=Ee (by omega:cnt ops.length (fun i=>listed.getD i false)=0)
  have hnil:Region.ready .any ops.toArray listed= []:=by
   apply List.eq_nil_iff_forall_not_mem.2
   intro i hi
   obtain⟨o,ho,h1,_⟩:=(gE hl).1 hi
   rw[hz i (List.getElem?_eq_some_iff.1 ho).1]at h1
   cases h1
  exact⟨hnil,all hl hL nX hnil iv⟩
 |succ fuel ih=>
  intro D listed a w hl hL nX RE xy hf iv
  refine⟨fun hnil=>all hl hL nX hnil iv,fun i hi=> ?_⟩
  obtain⟨o,ho,hif,XW⟩:=(gE hl).1 hi
  have hin:=(List.getElem?_eq_some_iff.1 ho).1
  have hE: ∀j,j∈bD o→(B.testBit j=true∨D j=true):=by
   intro j hj
   have:=XW j hj
   rw[hL j (by have:=K.back i o ho j hj;omega),Bool.or_eq_true]at this
   exact this
  rw[hL i hin,Bool.or_eq_false_iff]at hif
  obtain⟨UH,Av⟩:=hif
  have Cs: ∀j,(listed.setIfInBounds i true).getD j false=(listed.getD j false||j==i):=fun j=>tC (by omega)
  have Pp:(fun j=>(listed.setIfInBounds i true).getD j false)=fun j=>listed.getD j false||j==i:=funext Cs
  have P1:cnt ops.length (fun j=>(listed.setIfInBounds i true).getD j false)≤fuel:=by
   rw[Pp]
   have:=HC (D:=fun i=>listed.getD i false) hin (by rw[hL i hin,UH,Av];rfl)
   omega
  unfold wpOp
  rw[List.getElem?_toArray,ho]
  dsimp only
  cases xB:q.testBit i with
  |true=>
   have hstep:=Gt (Q:=Q) X.kind T K hv nX RE xy xB Av ho hE iv
   refine kK.mono (fun a' w' jA=>ih (fun j=>D j||j==i) (listed.setIfInBounds i true) a' w' (by simpa using hl) (fun j hj=> ?_) (fun j hj=> ?_) (fun j hj=> ?_) (fun a b hab hb j hj=> ?_) P1 jA) hstep
   ·rw[Cs,hL j hj,Bool.or_assoc]
   ·simp only[Bool.or_eq_true,beq_iff_eq]at hj
    rcases hj with h|rfl
    ·exact nX j h
    ·exact xB
   ·simp only[Bool.or_eq_true,beq_iff_eq]at hj
    rcases hj with h|rfl
    ·exact RE j h
    ·exact hin
   ·have up: ∀{x},(B.testBit x=true∨D x=true)→(B.testBit x=true∨(D x||x==i)=true):=fun h=>h.imp id (fun h=>by simp[h])
    simp only[Bool.or_eq_true,beq_iff_eq]at hab
    rcases hab with h|h|rfl
    ·exact up (xy a b (Or.inl h) hb j hj)
    ·exact up (xy a b (Or.inr h) hb j hj)
    ·rw[ho]at hb
     simp only[oI]at hb
     subst hb
     exact up (hE j hj)
  |false=>exact fA fuel D listed i o a w hl hL nX RE xy ho UH xB hE P1 iv
theorem EG(X:Ctx P ty Γ)(hb: ∀i o,ops[i]? =some o→ ∀j,j∈bD o→j<i): ∀(N:Nat) (p:eS),SizeOf.sizeOf p≤N→p.Mp=true→ ∀(B:Nat) (s:St) (Yk:List TE) (Yl acc:List (Nat×List Prop)) (lv:List (List Prop×St)),
  (∀i o,B.testBit i=true→ops[i]? =some o→ ∀j,j∈bD o→B.testBit j=true)→J8 ops (Bq ops) (idx 0 ops) qs ops.length B p=true→gF P ty Γ cK cr ks hs ops n0 p s Yk Yl acc=some lv→
  (∀x,x∈lv→(∀q,q∈x.1→q)∧ ∀a w,Inv ty zb x.2 a w→Q .normal a w)→
  ∀(fuel:Nat) (listed:Array Bool) (a:Act) (w:World),listed.size=ops.length→(∀j,j<ops.length→listed.getD j false=B.testBit j)→cnt ops.length (fun j=>listed.getD j false)≤fuel→Inv ty zb s a w→wpAny P .any ops.toArray Q fuel listed a w
 |N, .last q,hN,_,B,s,Yk,Yl,acc,lv,EF,hok,h,hlv,fuel,listed,a,w,hl,hL,hf,iv=>by
  simp only[J8,Bool.and_eq_true]at hok
  have K:=CT hb hok.1
  simp only[gF]at h
  split at h
  case h_2=>cases h
  rename_i tr vq hr
  split at h
  case h_2=>cases h
  rename_i n W4 dM hs1
  have hs1:=jg hs1
  split at h
  case h_2=>cases h
  rename_i sl hp vc h1 h2 h3
  split at h
  case h_2=>cases h
  rename_i um hn
  simp only[oI]at h
  have T:=Oh.of hr
  obtain⟨hx1,ny⟩:=hlv (vc,⟨n0,sl,hp⟩) (by rw[←h];simp)
  have hmk:cm (fun j=>q.testBit j) tr s ops.length=⟨n,W4,dM⟩:=by
   rw[hs1,tP,T.len]
   congr 1
   funext j;rw[Nat.zero_add]
  refine BC X T K (fun x hx hq _ p hp=>hx1 p (ve h3 x (mz.2 (Or.inl ⟨hx,hq⟩)) p hp)) EF (fun a w _ jA=> ?_) (fun fuel D listed i o a w _ _ _ _ _ ho UH xB _ _ _=> ?_) fuel (fun _=>false) listed a w hl (fun j hj=>by rw[hL j hj,Bool.or_false]) (by simp) (by simp) (fun i o hi ho j hj=>by
    rcases hi with h|h
    ·exact Or.inl (EF i o h ho j hj)
    ·cases h) hf (by rw[zH];exact iv)
  ·rw[hmk]at jA
   exact ny a w (jA.weaken (Nat.eq_of_beq_eq_true hn).symm (jW h1) (jX h2) um)
  ·exfalso
   have hil:=(List.getElem?_eq_some_iff.1 ho).1
   have:=List.all_eq_true.1 hok.2 i (List.mem_range.2 hil)
   rw[UH,xB]at this;cases this
 |0, .ph q c,hN,_,_,_,_,_,_,_,_,_,_,_,_,_,_,_,_,_,_,_=>by simp only[eS.ph.sizeOf_spec]at hN;omega
 |N+1, .ph q c,hN,_,B,s,Yk,Yl,acc,lv,EF,hok,h,hlv,fuel,listed,a,w,hl,hL,hf,iv=>by
  simp only[J8,Bool.and_eq_true,Bool.not_eq_true']at hok
  have K:=CT hb hok.1.1.1
  obtain⟨d,t,sub,hm,hd,ht⟩:=HN hok.1.1.2 K EF K.W5 hok.1.2
  simp only[gF]at h
  split at h
  case h_2=>cases h
  rename_i tr vq hr
  have T:=Oh.of hr
  have hv: ∀x,x∈vq→q.testBit x.1=true→x.1<ops.length→ ∀p,p∈x.2→p:=by
   obtain⟨o,vc,s2,l1,h1,h2,h3,h4⟩:=ld h d t sub hm
   obtain⟨p1,p2,p3,p4⟩:=qp hok.2 d t sub hm
   have hsz:SizeOf.sizeOf sub≤N:=by simp only[eS.ph.sizeOf_spec]at hN;omega
   have hne:=zJ N sub hsz p1 (B|||d|||2^t) s2 [] [] _ l1 hb (CU K EF (fun i o hi ho j hj=>by
    rw[hd i]at hi
    simp only[Bool.and_eq_true,decide_eq_true_eq]at hi
    rcases K.W5 i o hi.1 ho j hj with h|h
    ·exact Or.inl h
    ·exact Or.inr (by rw[hd j,h];have:=K.back i o ho j hj;simp;omega)) ht) p3 h3
   cases l1 with
   |nil=>exact absurd rfl hne
   |cons x r=>
    intro y hy hq hyl p hp
    exact(hlv x (h4 x (by simp))).1 p (mA h3 x (by simp) y (o7.2 (Or.inr (mz.2 (Or.inl ⟨hy,by rw[hd y.1,hq];simp[hyl]⟩)))) p hp)
  refine BC X T K hv EF (fun a w hall _=> ?_) (fun fuel D listed i o a w hl hL nX RE xy ho UH xB hE P1 jA=> ?_) fuel (fun _=>false) listed a w hl (fun j hj=>by rw[hL j hj,Bool.or_false]) (by simp) (by simp) (fun i o hi ho j hj=>by
    rcases hi with h|h
    ·exact Or.inl (EF i o h ho j hj)
    ·cases h) hf (by rw[zH];exact iv)
  ·exfalso
   have:((List.range ops.length).all fun i=>B.testBit i||q.testBit i)=true:=by
    rw[List.all_eq_true]
    intro i hi
    rw[Bool.or_eq_true]
    exact hall i (List.mem_range.1 hi)
   rw[hok.1.2]at this;cases this
  ·obtain⟨d,sub,hm,hd⟩:=BB hok.1.1.2 K nX RE xy ho UH xB hE
   obtain⟨o',vc,s2,l1,h1,h2,h3,h4⟩:=ld h d i sub hm
   rw[ho]at h1
   simp only[oI]at h1
   subst h1
   obtain⟨p1,p2,p3,p4⟩:=qp hok.2 d i sub hm
   have hsz:SizeOf.sizeOf sub≤N:=by simp only[eS.ph.sizeOf_spec]at hN;omega
   have hmk:EC d 0 tr s=cm D tr s ops.length:=by
    rw[tP,T.len]
    exact vf fun j _=>by rw[Nat.zero_add];exact hd j
   rw[hmk]at h2
   have VX:=CU (d:=d) (t:=i) K EF (fun i o hi ho j hj=>by
    rw[hd i]at hi
    rw[hd j]
    exact xy i o (Or.inr hi) ho j hj) (fun o2 Fx j hj=>by
    rw[ho]at Fx
    simp only[oI]at Fx
    subst Fx
    rw[hd j]
    exact hE j hj)
   have hne:=zJ N sub hsz p1 (B|||d|||2^i) s2 [] [] _ l1 hb VX p3 h3
   have OT: ∀p,p∈vc→p:=by
    cases l1 with
    |nil=>exact absurd rfl hne
    |cons x r=>
     intro p hp
     exact(hlv x (h4 x (by simp))).1 p (mA h3 x (by simp) (i,vc) (o7.2 (Or.inl rfl)) p hp)
   have hstep:=xq (Q:=Q) X.kind X.one h2 jA OT
   refine kK.mono (fun a' w' Ye=>EG X hb N sub hsz p1 (B|||d|||2^i) s2 [] [] _ l1 VX p3 h3 (fun x hx=>hlv x (h4 x hx)) fuel (listed.setIfInBounds i true) a' w' (by simpa using hl) (fun j hj=> ?_) P1 Ye) hstep
   have hin:=(List.getElem?_eq_some_iff.1 ho).1
   rw[tC (by omega),hL j hj]
   simp only[Nat.testBit_or,Nat.testBit_two_pow,hd j]
   by_cases hji:j=i
   ·subst hji;simp
   ·have: ¬i=j:=fun e=>hji e.symm
    simp[hji,this]
 |_, .br _ _ _ _,_,hp,_,_,_,_,_,_,_,_,_,_,_,_,_,_,_,_,_,_=>by cases hp
 |_, .nil,_,hp,_,_,_,_,_,_,_,_,_,_,_,_,_,_,_,_,_,_=>by cases hp
end
def BD(x:List Prop×St):List (List Prop×St)→Prop
 | []=>True
 |y::r=>y=x∧BD x r
theorem BD.out{x:List Prop×St}: ∀{l:List (List Prop×St)},BD x l→ ∀y,y∈l→y=x
 |_::_,h,y,hy=>by
  rcases List.mem_cons.1 hy with rfl|hy
  ·exact h.1
  ·exact BD.out h.2 y hy
section
variable{P:Program}{Γ:Nat→TK}{zb:bP}{Q:Post}{st:St}
theorem Mq(X:Ctx P ty Γ)(cK:List (Nat×Nat))(cr:List (Nat×CR))(ks hs:List Nat)(qs:Nat)(pl:eS){id:Nat}{ops:List Oper}{vc:List Prop}{st':St}{rest:List (List Prop×St)}(hm:P.follows .mixedOrders=true)(hc:P0 ops qs pl=true)(h:gF P ty Γ cK cr ks hs ops st.n pl st [] [] []=some ((vc,st')::rest))(he:BD (vc,st') rest)(hv:gw vc)(k:Q .normal st'):
  W P ty zb (.region id ops.toArray true) Q st:=by
 intro a w iv
 simp only[P0,Bool.and_eq_true]at hc
 have hb:=VT hc.1.1
 refine wp_region_any hm ?_
 have hz: ∀i,(Array.replicate ops.toArray.size false).getD i false=false:=by
  intro i
  rw[Array.getD_eq_getD_getElem?,Array.getElem?_replicate]
  split<;>rfl
 refine EG (zb:=zb) (Q:=Cu ty zb Q) X hb _ pl (Nat.le_refl _) hc.1.2 0 st [] [] [] _ (fun i o hi=>by simp at hi) hc.2 h (fun x hx=> ?_) _ _ a _ (by simp) (fun j hj=>by rw[hz];simp) ?_ ?_
 ·have hx:x=(vc,st'):=by
   rcases List.mem_cons.1 hx with rfl|hx
   ·rfl
   ·exact he.out x hx
  subst hx
  exact⟨hv.out,fun a w jA=>⟨st',jA,k⟩⟩
 ·unfold cnt
  refine Nat.le_trans (List.length_filter_le _ _) ?_
  simp
 ·obtain⟨env,g⟩:=iv.good
  have J7:Below w.heap.size w w.drew:=(Below.refl _ _).drew
  refine⟨iv.size,iv.defers,iv.kept.trans (iq J7 iv.kept.size),iv.wN,env,?_⟩
  have:=g.grow (os:= []) (w':=w.drew) (env':=env) iv.kept.size rfl (ir.none J7)
  exact this
end
section
variable{P:Program}{Γ:Nat→TK}{zb:bP}{Q:Post}{st:St}
theorem Mr(X:Ctx P ty Γ)(cK:List (Nat×Nat))(cr:List (Nat×CR))(ks hs:List Nat)(qs:Nat)(pl:eS)(nw:Nat){id:Nat}{ops:List Oper}{vc:List Prop}{st':St}(hm:P.follows .mixedOrders=true)(hc:P0 ops qs pl=true)(_h0:G.Og P ty Γ cK cr ks hs ops st=some (vc,st'))(h:gF P ty Γ cK cr ks hs ops st.n pl st [] [] []=some ((vc,st')::List.replicate nw (vc,st')))(hv:gw vc)(k:Q .normal st'):
  W P ty zb (.region id ops.toArray true) Q st:=by
 refine Mq X cK cr ks hs qs pl hm hc h ?_ hv k
 have: ∀n,BD (vc,st') (List.replicate n (vc,st')):=by
  intro n
  induction n with
  |zero=>trivial
  |succ n ih=>exact⟨rfl,ih⟩
 exact this nw
def hasB(B:Nat)(es:List Nat):Bool:=es.all fun j=>B.testBit j
def Ym(B qs:Nat):List (Nat×List Nat)→Nat→Nat
 | [],q=>q
 | (i,es)::r,q=>match !B.testBit i&&qs.testBit i&&hasB (B|||q) es with
   |true=>Ym B qs r (q|||2^i)
   |false=>Ym B qs r q
def W6(B q W7:Nat):List (Nat×List Nat)→Nat→List Nat
 | [],d=> [d]
 | (i,es)::r,d=>match q.testBit i with
   |false=>W6 B q W7 r d
   |true=>(match hasB (B|||d) es with|true=>W6 B q W7 r (d|||2^i)|false=> [])++(match W7.testBit i with|true=> []|false=>W6 B q W7 r d)
def Yn(f:Nat→eS)(B q:Nat)(E:List (Nat×List Nat))(cl:List Nat):List (Nat×List Nat)→eS
 | []=> .nil
 | (t,es)::r=>match(B|||q).testBit t with
   |true=>Yn f B q E cl r
   |false=>((W6 B q (cl.getD t 0) E 0).filter fun d=>hasB (B|||d) es).foldr (fun d p=> .br d t (f (B|||d|||2^t)) p) (Yn f B q E cl r)
def Zo(E:List (Nat×List Nat))(cl:List Nat)(qs full:Nat):Nat→Nat→eS
 |0,_=> .nil
 |k+1,B=>match Ym B qs E 0 with
  |q=>match Nat.beq (B|||q) full with
   |true=> .last q
   |false=> .ph q (Yn (Zo E cl qs full k) B q E cl E)
def Gu(ops:List Oper)(qs:Nat):eS:=Zo ((idx 0 ops).map fun e=>(e.1,bD e.2)) (Bq ops) qs (2^ops.length-1) (ops.length+1) 0
theorem cJ(X:Ctx P ty Γ)(cK:List (Nat×Nat))(cr:List (Nat×CR))(ks hs:List Nat)(qs:Nat)(nw:Nat){id:Nat}{ops:List Oper}{vc:List Prop}{st':St}(hm:P.follows .mixedOrders=true)(hc:P0 ops qs (Gu ops qs)=true)(h0:G.Og P ty Γ cK cr ks hs ops st=some (vc,st'))(h:gF P ty Γ cK cr ks hs ops st.n (Gu ops qs) st [] [] []=some ((vc,st')::List.replicate nw (vc,st')))(hv:gw vc)(k:Q .normal st'):
  W P ty zb (.region id ops.toArray true) Q st:=Mr X cK cr ks hs qs (Gu ops qs) nw hm hc h0 h hv k
end
end
section
variable{ty:Tag→Nat}
def EV(st:St)(n i:Nat):Option St:=match look st.hp n with
 |some (.box c)=>match sr c i with
  |some (.own m)=>match look st.hp m with
   |some (.arr t l)=>match SW ((n, .box (c.set i (.vw m none t l)))::st.hp.filter fun e=> !Nat.beq e.1 n)with
    |some hp=>some ⟨st.n,st.sl,hp⟩
    |none=>none
   |_=>none
  |_=>none
 |_=>none
theorem gU{α:Type}{hp:List (Nat×α)}{n m:Nat}(h:m≠n):look (hp.filter fun e=> !Nat.beq e.1 n) m=look hp m:=by
 induction hp with
 |nil=>rfl
 |cons e r ih=>
  obtain⟨j,x⟩:=e
  by_cases hj:j=n
  ·subst hj
   rw[List.filter_cons_of_neg (by simp),ih,aK h]
  ·have:Nat.beq j n=false:=by
    cases hb:Nat.beq j n with
    |false=>rfl
    |true=>exact absurd (Nat.eq_of_beq_eq_true hb) hj
   rw[List.filter_cons_of_pos (by simp[this])]
   by_cases hm:m=j
   ·subst hm;rw[look_eq,look_eq]
   ·rw[aK hm,aK hm,ih]
theorem bg.set{α β:Type}{R:α→β→Prop}: ∀{as:List α} {bs:List β} {i:Nat} {x:α},bg R as bs→(∀y,bs[i]? =some y→R x y)→bg R (as.set i x) bs
 | [],[],_,_,_,_=>trivial
 |a::as,b::bs,0,x,h,hx=>⟨hx b rfl,h.2⟩
 |a::as,b::bs,i+1,x,h,hx=>⟨h.1,bg.set h.2 (fun y hy=>hx y (by simpa using hy))⟩
 | [],_::_,_,_,h,_=>h.elim
 |_::_,[],_,_,h,_=>h.elim
section
variable{P:Program}{zb:bP}{st st':St}{Q:Post}
theorem Inv.EV{a:Act}{w:World}(n i:Nat)(h:G.EV st n i=some st')(iv:Inv ty zb st a w):Inv ty zb st' a w:=by
 unfold G.EV at h
 split at h
 case h_2=>cases h
 rename_i c hc
 split at h
 case h_2=>cases h
 rename_i m hm
 split at h
 case h_2=>cases h
 rename_i t l hl
 split at h
 case h_2=>cases h
 rename_i hp hf
 simp only[oI]at h
 subst h
 have hf:=Ct hf
 obtain⟨env,g⟩:=iv.good
 have hmn:m≠n:=by rintro rfl;rw[hl]at hc;cases hc
 have hlk: ∀k o,look hp k=some o→(k=n∧o= .box (c.set i (.vw m none t l)))∨(k≠n∧look st.hp k=some o):=by
  intro k o hk
  rw[hf]at hk
  by_cases hkn:k=n
  ·subst hkn;rw[look_eq]at hk;simp only[oI]at hk;exact Or.inl ⟨rfl,hk.symm⟩
  ·rw[aK hkn,gU hkn]at hk;exact Or.inr ⟨hkn,hk⟩
 have hne: ∀k o,k≠n→look st.hp k=some o→look hp k=some o:=by
  intro k o hkn hk
  rw[hf,aK hkn,gU hkn];exact hk
 have hnn:look hp n=some (.box (c.set i (.vw m none t l))):=by rw[hf,look_eq]
 have s:Step (fun _=>True) (fun _=>True) w st.hp env w hp env:=by
  refine⟨fun _ _ _=>rfl,?_,?_,?_⟩
  ·rintro b _ ⟨k,o,h1,h2⟩
   rcases hlk k o h1 with⟨rfl,_⟩| ⟨_,h3⟩
   ·exact⟨_,_,hc,h2⟩
   ·exact⟨k,o,h3,h2⟩
  ·intro k o _ h1
   by_cases hkn:k=n
   ·subst hkn
    rw[hc]at h1
    simp only[oI]at h1
    subst h1
    exact⟨_,hnn,trivial,rfl⟩
   ·exact⟨o,hne k o hkn h1,by cases o<;>simp[Obj.like],rfl⟩
  ·intro k t' l' _ h1
   have hkn:k≠n:=by rintro rfl;rw[hc]at h1;cases h1
   exact⟨hne k _ hkn h1,rfl,fun _ _=>rfl⟩
 refine⟨iv.size,iv.defers,iv.kept,iv.wN,env,⟨fun k o hk=> ?_,fun k k' o o' hkk h1 h2=> ?_,fun t v hv=>lT.step s (fun v _=>v.cz) (g.slot t v hv),fun k o hk b hb=> ?_,g.pins⟩⟩
 ·rcases hlk k o hk with⟨rfl,rfl⟩| ⟨hkn,h3⟩
  ·obtain⟨b,cs,e,h1,h2,h3⟩:=g.obj _ _ hc
   refine⟨b,cs,e,h1,h2,bg.set (h3.mono fun x y _ hr=>RA.step s x.cz hr) fun y hy=> ?_⟩
   rw[pU]at hm
   obtain⟨y',hy',hr⟩:=h3.at hm
   rw[hy]at hy'
   simp only[oI]at hy'
   subst hy'
   obtain⟨_,hu⟩:=hr
   have hro:=g.obj m _ hl
   have Xl:=hne m _ hmn hl
   refine⟨⟨t,l,Xl⟩,⟨(env m).fp,?_,(RO.own hro).nodup,fun _ h=>h⟩,by simp⟩
   rw[hu];exact RO.sl hro
  ·exact(g.obj k o h3).step s o.cz (fun _ _=>rfl)
 ·have: ∀k o,look hp k=some o→ ∃x,look st.hp k=some x:=by
   intro k o hk
   rcases hlk k o hk with⟨rfl,_⟩| ⟨_,h3⟩
   ·exact⟨_,hc⟩
   ·exact⟨_,h3⟩
  obtain⟨x,hx⟩:=this k o h1
  obtain⟨y,hy⟩:=this k' o' h2
  exact g.fU k k' x y hkk hx hy
 ·rcases hlk k o hk with⟨rfl,_⟩| ⟨_,h3⟩
  ·exact g.dom _ _ hc b hb
  ·exact g.dom k o h3 b hb
theorem MC{c:Code}(n i:Nat)(h:G.EV st n i=some st')(k:W P ty zb c Q st'):W P ty zb c Q st:=fun a w iv=>k a w (iv.EV n i h)
end
end
section
variable{ty:Tag→Nat}
def qX(a b n:Nat):Nat:=match Nat.beq n a,Nat.beq n b with
 |true,_=>b
 |false,true=>a
 |false,false=>n
def V.sw(a b:Nat):V→V
 | .own n=> .own (qX a b n)
 | .ptr n o=> .ptr (qX a b n) o
 | .iQ n i o=> .iQ (qX a b n) i o
 | .vw n p t l=> .vw (qX a b n) p t l
 | .wK n p t x o=> .wK (qX a b n) p t x o
 | .wL n t l=> .wL (qX a b n) t l
 | .vV f n=> .vV f (qX a b n)
 | .mix n c t l=> .mix (qX a b n) c t l
 | .nK n=> .nK (qX a b n)
 |v=>v
def S1.sw(a b:Nat):S1→S1
 | .a v=> .a (v.sw a b)
 | .agg l=> .agg (l.map (V.sw a b))
def SV.sw(a b:Nat):SV→SV
 | .one x=> .one (x.sw a b)
 | .qR l=> .qR (l.map (S1.sw a b))
 | .cond p x=> .cond p (x.sw a b)
def mO.sw(a b:Nat):mO→mO
 | .of n=> .of (qX a b n)
 | .qB _=> .qB none
 |s=>s
def Obj.sw(a b:Nat):Obj→Obj
 | .box c=> .box (c.map (V.sw a b))
 | .arr t l=> .arr t l
 | .dY t l s=> .dY t l (s.sw a b)
def JD(a b:Nat)(hp:Hp):Hp:=hp.map fun e=>(qX a b e.1,e.2.sw a b)
def MS(st:St)(a b:Nat):Option St:=match fu a,fu b,soft a,soft b with
 |false,false,false,false=>Hv ⟨st.n,st.sl.map fun e=>(e.1,e.2.sw a b),JD a b st.hp⟩
 |_,_,_,_=>none
theorem GH(a b n:Nat):qX a b n=if n=a then b else if n=b then a else n:=by
 unfold qX
 by_cases h1:n=a
 ·subst h1;rw[if_pos rfl,Nat.beq_refl]
 ·have e1:Nat.beq n a=false:=by
   cases h:Nat.beq n a with
   |false=>rfl
   |true=>exact absurd (Nat.eq_of_beq_eq_true h) h1
  rw[if_neg h1,e1]
  by_cases h2:n=b
  ·subst h2;rw[if_pos rfl,Nat.beq_refl]
  ·have e2:Nat.beq n b=false:=by
    cases h:Nat.beq n b with
    |false=>rfl
    |true=>exact absurd (Nat.eq_of_beq_eq_true h) h2
   rw[if_neg h2,e2]
theorem lq(a b n:Nat):qX a b (qX a b n)=n:=by
 simp only[GH]
 by_cases h1:n=a
 ·subst h1;simp only[if_true]
  by_cases h2:b=n
  ·rw[if_pos h2,h2]
  ·rw[if_neg h2]
 ·by_cases h2:n=b
  ·subst h2;simp[h1]
  ·simp[h1,h2]
theorem Qp{a b n m:Nat}(h:qX a b n=qX a b m):n=m:=by
 have:=congrArg (qX a b) h
 rwa [lq,lq]at this
theorem mD(a b:Nat): ∀(hp:Hp) (n:Nat),look (JD a b hp) n=(look hp (qX a b n)).map (Obj.sw a b)
 | [],n=>rfl
 | (j,x)::r,n=>by
   show look ((qX a b j,x.sw a b)::JD a b r) n=_
   by_cases h:n=qX a b j
   ·subst h
    rw[look_eq,lq,look_eq];rfl
   ·rw[aK h,mD a b r n,aK]
    intro e
    exact h (by rw[←e,lq])
section
variable{w:World}{hp:Hp}{env:Env}{a b:Nat}
theorem lu{n:Nat}{t:Tag}{l:List (T t)}(h:look hp n=some (.arr t l)):look (JD a b hp) (qX a b n)=some (.arr t l):=by
 rw[mD,lq,h];rfl
theorem H8{n:Nat}{c:List V}(h:look hp n=some (.box c)):look (JD a b hp) (qX a b n)=some (.box (c.map (V.sw a b))):=by
 rw[mD,lq,h];rfl
def MT(a b:Nat)(env:Env):Env:=fun n=>env (qX a b n)
theorem iF(n:Nat):MT a b env (qX a b n)=env n:=by unfold MT;rw[lq]
theorem nq{x:Nat}(h:Ow (JD a b hp) (MT a b env) x):Ow hp env x:=by
 obtain⟨n,o,h1,h2⟩:=h
 rw[mD]at h1
 cases hq:look hp (qX a b n)with
 |none=>rw[hq]at h1;cases h1
 |some o'=>exact⟨_,_,hq,h2⟩
theorem RV.sw{n:Nat}{p:Option (Nat×Nat)}{t:Tag}{l:List (T t)}{u:Value}(h:RV w hp env n p t l u):RV w (JD a b hp) (MT a b env) (qX a b n) p t l u:=by
 obtain⟨⟨t1,l1,h1⟩,⟨fp,h2,h3,h4⟩,h5⟩:=h
 refine⟨⟨t1,l1,lu h1⟩,⟨fp,h2,h3,by rw[iF];exact h4⟩,fun i off gr=> ?_⟩
 obtain⟨t0,l0,b0,o,len,cap,q1,q2,q3,q4,q5,q6⟩:=h5 i off gr
 exact⟨t0,l0,b0,o,len,cap,lu q1,q2,q3,by rw[iF];exact q4,by rw[iF];exact q5,q6⟩
theorem RA.sw{v:V}{u:Value}(h:RA w hp env v u):RA w (JD a b hp) (MT a b env) (v.sw a b) u:=by
 cases v with
 |any=>trivial
 |lit v=>exact h
 |mJ k=>exact h
 |raw v=>exact h
 |gL v t l=>obtain⟨hu,fp,h1,h2⟩:=h;exact⟨hu,fp,h1,fun x hx ho=>h2 x hx (nq ho)⟩
 |sl t l=>obtain⟨fp,h1,h2⟩:=h;exact⟨fp,h1,fun x hx ho=>h2 x hx (nq ho)⟩
 |ip t x off=>obtain⟨b',o,cs,fp,h1,h2,h3,h4,h5,h6⟩:=h;exact⟨b',o,cs,fp,h1,h2,h3,h4,fun ho=>h5 (nq ho),fun c hc ho=>h6 c hc (nq ho)⟩
 |own n=>obtain⟨⟨t,l,hl⟩,hu⟩:=h;exact⟨⟨t,l,lu hl⟩,by rw[iF];exact hu⟩
 |ptr n off=>obtain⟨⟨c,hl⟩,b',h1,h2⟩:=h;exact⟨⟨_,H8 hl⟩,b',by rw[iF];exact h1,h2⟩
 |vV f n=>obtain⟨⟨c,hl⟩,b',h1,h2⟩:=h;exact⟨⟨_,H8 hl⟩,b',by rw[iF];exact h1,h2⟩
 |iQ n i off=>obtain⟨t,l,hl,b',o,len,cap,h1,h2⟩:=h;exact⟨t,l,lu hl,b',o,len,cap,by rw[iF];exact h1,h2⟩
 |vw n p t l=>exact RV.sw h
 |wL n t l=>
  obtain⟨⟨t1,l1,h1⟩,b',fp,h2,h3,h4,h5⟩:=h
  exact⟨⟨t1,l1,lu h1⟩,b',fp,h2,fun ho=>h3 (nq ho),h4,by rw[iF];exact h5⟩
 |nK n=>
  obtain⟨⟨t,l,s,hl⟩,hu⟩:=h
  exact⟨⟨t,l,s.sw a b,by rw[mD,lq,hl];rfl⟩,by rw[iF];exact hu⟩
 |mix n c t l=>
  obtain⟨⟨t1,l1,h1⟩,⟨fp,h2,h3⟩,h4⟩:=h
  exact⟨⟨t1,l1,lu h1⟩,⟨fp,h2,fun x hx=>(h3 x hx).imp (fun q=>by rw[iF];exact q) (fun q ho=>q (nq ho))⟩,h4⟩
 |wK n p t x off=>
  obtain⟨⟨t1,l1,h1⟩,b',o,cs,fp,h2,h3,h4,h5,h6,h7,h8⟩:=h
  refine⟨⟨t1,l1,lu h1⟩,b',o,cs,fp,h2,by rw[iF];exact h3,h4,h5,h6,by rw[iF];exact h7,fun i o2 j gr=> ?_⟩
  obtain⟨l2,u0,b0,lG,len,cap,q1,q2,q3,q4,q5⟩:=h8 i o2 j gr
  exact⟨l2,u0,b0,lG,len,cap,q1.sw,q2,q3,q4,q5⟩
theorem eC.sw{x:S1}{u:Value}(h:eC w hp env x u):eC w (JD a b hp) (MT a b env) (x.sw a b) u:=by
 cases x with
 |a v=>exact RA.sw h
 |agg l=>obtain⟨cs,h1,h2⟩:=h;exact⟨cs,h1,h2.map fun _ _ q=>RA.sw q⟩
theorem lT.sw{tmps:Array Value}{x:SV}{u:Value}(h:lT w hp env tmps x u):lT w (JD a b hp) (MT a b env) tmps (x.sw a b) u:=by
 cases x with
 |one x=>exact eC.sw h
 |qR l=>obtain⟨us,h1,h2⟩:=h;exact⟨us,h1,h2.map fun _ _ q=>eC.sw q⟩
 |cond p x=>exact⟨fun q=>eC.sw (h.1 q),h.2⟩
theorem BE.sw{s:mO}{t:Tag}{x:T t}{u:Value}(h:BE w hp env s t x u):BE w (JD a b hp) (MT a b env) (s.sw a b) t x u:=by
 cases s with
 |gone=>trivial
 |mp=>trivial
 |As u=>trivial
 |qB p=>trivial
 |kI=>obtain⟨f,h1,h2⟩:=h;exact⟨f,h1,fun c hc ho=>h2 c hc (nq ho)⟩
 |of n=>
  obtain⟨⟨t1,l1,h1⟩,f,h2,h3⟩:=h
  exact⟨⟨t1,l1,lu h1⟩,f,h2,fun c hc=>(h3 c hc).imp (fun q=>by rw[iF];exact q) (fun q ho=>q (nq ho))⟩
end
theorem MU{a b n:Nat}{p:Nat→Bool}(ha:p a=false)(hb:p b=false):p (qX a b n)=p n:=by
 rw[GH]
 split
 ·rename_i h;subst h;rw[ha,hb]
 ·split
  ·rename_i h;subst h;rw[ha,hb]
  ·rfl
theorem Qq{a b n:Nat}(ha:fu a=false)(hb:fu b=false)(h:fu n=true):qX a b n=n:=by
 rw[GH]
 split
 ·rename_i h1;subst h1;rw[ha]at h;cases h
 ·split
  ·rename_i h1;subst h1;rw[hb]at h;cases h
  ·rfl
theorem MV{zb:bP}{st st':St}{a b:Nat}(h:MS st a b=some st'){c:Act}{w:World}(iv:Inv ty zb st c w):Inv ty zb st' c w:=by
 obtain⟨env,g⟩:=iv.good
 unfold MS at h
 split at h
 case h_2=>cases h
 rename_i hpa hpb hsa hsb
 have h:=jg h
 subst h
 have hlk: ∀n o,look (JD a b st.hp) n=some o→ ∃o0,look st.hp (qX a b n)=some o0∧o=o0.sw a b:=by
  intro n o hl
  rw[mD]at hl
  cases hq:look st.hp (qX a b n)with
  |none=>rw[hq]at hl;cases hl
  |some o0=>rw[hq]at hl;simp only[Option.map_some,oI]at hl;exact⟨o0,rfl,hl.symm⟩
 refine⟨iv.size,iv.defers,iv.kept,iv.wN,MT a b env,⟨fun n o hl=> ?_,fun n m o o' hne h1 h2=> ?_,fun s v hs=> ?_,fun n o hl=> ?_,fun n hn=> ?_⟩⟩
 ·obtain⟨o0,h1,rfl⟩:=hlk n o hl
  have hro:=g.obj _ _ h1
  show RO ty w (JD a b st.hp) (MT a b env) n (o0.sw a b) (env (qX a b n))
  cases o0 with
  |arr t l=>exact Hq (fun q=>by rw[MU hsa hsb]at q;exact q) hro
  |box l=>
   obtain⟨x,cs,e,q1,q2,q3⟩:=hro
   exact⟨x,cs,e,q1,q2,q3.map fun _ _ q=>RA.sw q⟩
  |dY t l s=>
   rcases RO.AA hro with⟨rfl,h⟩| ⟨u,rfl,h1,h2,fp,h3,h4⟩| ⟨p,rfl,h⟩| ⟨hr,q1,us,q2,q3,q4⟩
   ·exact h
   ·exact⟨h1,h2,fp,h3,h4.imp id fun⟨c,e1,e2⟩=>⟨c,e1,fun ho=>e2 (nq ho)⟩⟩
   ·exact⟨h.1,h.2.1,fun _ _ _ e=>by cases e⟩
   ·exact RO.KH (by cases s<;>first|exact hr.elim|trivial) ⟨q1,us,q2,q3,fun i x u hx hu=>(q4 i x u hx hu).sw⟩
 ·obtain⟨o1,q1,_⟩:=hlk n o h1
  obtain⟨o2,q2,_⟩:=hlk m o' h2
  exact g.fU _ _ _ _ (fun e=>hne (Qp e)) q1 q2
 ·replace hs:look (st.sl.map fun e=>(e.1,e.2.sw a b)) s=some v:=hs
  rw[lY (α:=SV) (f:=fun e:Nat×SV=>e.2.sw a b)]at hs
  cases hq:look st.sl s with
  |none=>rw[hq]at hs;cases hs
  |some v0=>
   rw[hq]at hs
   simp only[Option.map_some,oI]at hs
   subst hs
   exact lT.sw (g.slot s v0 hq)
 ·obtain⟨o0,h1,_⟩:=hlk n o hl
  exact g.dom _ _ h1
 ·have hq:=g.pins n hn
  unfold MT
  rw[Qq hpa hpb hn]
  exact hq
theorem cL{P:Program}{zb:bP}{Q:Post}{st st':St}{c:Code}(a b:Nat)(h:MS st a b=some st')(k:W P ty zb c Q st'):W P ty zb c Q st:=fun x w iv=>k x w (MV h iv)
end
section
variable{ty:Tag→Nat}
def toBrr(st:St)(s m:Nat)(r:mO):Option St:=match look st.sl s,Nat.blt s st.n with
 |some (.one (.a (.own n))),true=>match look st.hp n,pinned [n],fu m,look (bE [n] [] st.hp) m with
  |some (.arr t []),false,false,none=>match Nat.beq (kk t) 1 with
   |true=>Hv ((⟨st.n,st.sl.map fun e=>(e.1,e.2.bf [n] []),Vp st.hp n m t [] r⟩:St).put (some s) (.one (.a (.nK m))))
   |false=>none
  |_,_,_,_=>none
 |_,_=>none
theorem toBrr_ok{zb:bP}{st st':St}{s m:Nat}{r:mO}(hr:r.br)(h:toBrr st s m r=some st'){a:Act}{w:World}(iv:Inv ty zb st a w):Inv ty zb st' a w:=by
 obtain⟨env,g⟩:=iv.good
 have hB:=iv.kept.size
 unfold toBrr at h
 split at h
 case h_2=>cases h
 rename_i n hs hlt
 split at h
 case h_2=>cases h
 rename_i t hl hpk AB hlk
 split at h
 case h_2=>cases h
 rename_i hk1
 have hk1:=Nat.eq_of_beq_eq_true hk1
 have h:=jg h
 have Rk:soft n=false:=jU hpk (by simp)
 have hb:=RO.N9 Rk (g.obj n _ hl)
 have Ci: ∀b,(env n).v.ownBlock=some b→b∈(env n).fp:=by
  intro b hb'
  obtain⟨xs,aO,_,_,_,eK,_⟩:=hb
  rw[eK,hb'];simp
 have hbE:fZ 1 KF 0 (ty t) w (env n).v ([]:List Value) (env n).fp:=by
  obtain⟨xs,aO,q1,q2,q3,q4,q5⟩:=hb
  obtain rfl:aO= []:=List.length_eq_zero_iff.1 q2
  exact⟨xs,[],by rw[hk1]at q1;exact q1,rfl,fun i x f hx=>by simp at hx,q4,q5⟩
 obtain⟨env',hg',AD,_,_⟩:=uD (ty:=ty) g hB (ks:= [n]) hpk AB hlk (v:=(env n).v) (v':=(env n).v) (w':=w) (ob:= .dY t [] r) (fp:=(env n).fp) (fx:= []) (eR:=(env n).fp) (by
  intro b hb
  rw[List.append_nil]at hb
  exact⟨n,_,by simp,hl,hb⟩) Ci (fun XS hd s2=>RO.KH hr ⟨hk1,[],hbE,rfl,fun i x u hx=>by simp at hx⟩) ⟨rfl,rfl,rfl,Nat.le_refl _,fun _ _ _=>rfl⟩ (fun b hb=>Or.inl hb)
 have hlt:s<a.tmps.size:=by rw[iv.size];exact Nat.le_of_ble_eq_true hlt
 obtain⟨_,hu⟩:=g.slot s _ hs
 have gp:=hg'.put hlt (v:= .one (.a (.nK m))) (u:=a.tmps.getD s undef) ⟨⟨t,[],_,look_eq⟩,by rw[AD];exact hu⟩ rfl
 have e:a.tmps.setIfInBounds s (a.tmps.getD s undef)=a.tmps:=by
  rw[Array.getD_eq_getD_getElem?,Array.getElem?_eq_getElem hlt]
  apply Array.ext
  ·simp
  ·intro i h1 h2
   rw[Array.getElem_setIfInBounds]
   split
   ·rename_i hi;subst hi;rfl
   ·rfl
 rw[e]at gp
 rw[h]
 exact⟨by rw[yA];exact iv.size,iv.defers,iv.kept,iv.wN,env',gp⟩
theorem MW{P:Program}{zb:bP}{Q:Post}{st st':St}{c:Code}(s m:Nat)(h:G.toBrr st s m .kI=some st')(k:W P ty zb c Q st'):W P ty zb c Q st:=fun a w iv=>k a w (toBrr_ok (by trivial) h iv)
end
section
variable{ty:Tag→Nat}
def toLsl(st:St)(s:Nat)(v:Value):Option St:=match look st.sl s with
 |some (.one (.a (.sl t l)))=>Hv ⟨st.n,(s, .one (.a (.gL v t l)))::st.sl,st.hp⟩
 |_=>none
theorem Ut{P:Program}{zb:bP}{c:Code}{Q:Post}{st:St}(s:Nat){f:Value→St}(h: ∀v,toLsl st s v=some (f v))(k: ∀v,W P ty zb c Q (f v)):W P ty zb c Q st:=by
 intro a w iv
 have h:=h (a.tmps.getD s undef)
 refine k (a.tmps.getD s undef) a w ?_
 obtain⟨env,g⟩:=iv.good
 unfold toLsl at h
 split at h
 case h_2=>cases h
 rename_i t l hs
 have h:=jg h
 rw[h]
 refine⟨iv.size,iv.defers,iv.kept,iv.wN,env,⟨g.obj,g.fU,fun s' v hv=> ?_,g.dom,g.pins⟩⟩
 by_cases hss:s'=s
 ·subst hss
  rw[look_eq]at hv
  simp only[oI]at hv
  subst hv
  exact⟨rfl,g.slot _ _ hs⟩
 ·rw[aK hss]at hv
  exact g.slot s' v hv
end
section
variable{ty:Tag→Nat}
theorem Iu{t:Tag}{w:World}{b off cap:Nat}{l:List (T t)}{aO:List (List Nat)}(hb:Fit w b (off+cap*kk t))(hc:l.length≤cap)(hm:cap≤maxLen)(hE:jQ (kk t) (rd t) w b off l aO){lo hi:Nat}(h1:lo≤hi)(h2:hi≤l.length):
  ∃fp,Sl (kk t) (rd t) w (xk (some ⟨b,off,none⟩) cap (kk t) lo hi) ((l.take hi).drop lo) fp∧((fp= []∧((aO.take hi).drop lo).flatten= [])∨fp=b::((aO.take hi).drop lo).flatten):=by
 have hlen:((l.take hi).drop lo).length=hi-lo:=by simp;omega
 by_cases Sp:cap=lo
 ·have e0:(l.take hi).drop lo= []:=by apply List.eq_nil_of_length_eq_zero;omega
  have e1:(aO.take hi).drop lo= []:=by apply List.eq_nil_of_length_eq_zero;simp;have:=hE.1;omega
  refine⟨[],⟨_,_,by rw[hlen];rfl,by rw[hlen];omega,by omega,Or.inl ⟨e0,rfl,?_⟩⟩,Or.inl ⟨rfl,by rw[e1];rfl⟩⟩
  omega
 ·refine⟨_,⟨_,_,by rw[hlen];rfl,by rw[hlen];omega,by omega,Or.inr ⟨b,off+lo*kk t,(aO.take hi).drop lo,?_,hb.mono (by rw[Nat.add_assoc, ←Nat.add_mul,Nat.add_sub_cancel' (by omega)];exact Nat.le_refl _),rfl,?_,?_⟩⟩,Or.inr rfl⟩
  ·rw[if_neg Sp];simp[Addr.add_mid]
  ·have:=hE.1;simp[this]
  ·intro i x f hx hf
   rw[List.getElem?_drop,List.getElem?_take]at hx hf
   split at hx
   ·rename_i hlt
    rw[if_pos hlt]at hf
    obtain⟨cs,k1,k2⟩:=hE.2 _ x f hx hf
    exact⟨cs,by rw[Nat.add_assoc, ←Nat.add_mul];exact k1,k2⟩
   ·cases hx
section
variable{P:Program}{zb:bP}{st st':St}{Q:Post}{w:World}{env:Env}{tmps:Array Value}
theorem J1{t:Tag}{l:List (T t)}{oa:Option Addr}{cap k:Nat}{fp:List Nat}(hs:Sl (kk t) (rd t) w (.slice oa l.length cap) l fp)(ho:Own 0 w fp)(hk:k≤l.length):
  ∃f1 f2,Own 0 w f1∧Own 0 w f2∧(∀b,b∈f1→b∈fp)∧(∀b,b∈f2→b∈fp)∧(∀b,b∈f1→b∉f2)∧
   (∃g,Sl (kk t) (rd t) w (xk oa cap (kk t) 0 k) (l.take k) g∧((g= []∧f1= [])∨ ∃b,g=b::f1∧b∈fp∧b∉f1∧b∉f2))∧
   (∃g,Sl (kk t) (rd t) w (xk oa cap (kk t) k l.length) (l.drop k) g∧((g= []∧f2= [])∨ ∃b,g=b::f2∧b∈fp∧b∉f1∧b∉f2)):=by
 obtain⟨Kf,cap',hv,hc,hm,h3⟩:=hs
 simp only[Value.slice.injEq]at hv
 obtain⟨rfl,_,rfl⟩:=hv
 rcases h3 with⟨rfl,rfl,hn⟩| ⟨b,off,aO,rfl,hb,rfl,hE⟩
 ·obtain rfl:k=0:=by simpa using hk
  have hz:Sl (kk t) (rd t) w (xk oa cap (kk t) 0 0) ([]:List (T t)) []:=⟨_,cap,rfl,Nat.zero_le _,hm,Or.inl ⟨rfl,rfl,by omega⟩⟩
  exact⟨[],[],Own.nil _ _,Own.nil _ _,by simp,by simp,by simp,⟨[],hz,Or.inl ⟨rfl,rfl⟩⟩,⟨[],hz,Or.inl ⟨rfl,rfl⟩⟩⟩
 ·obtain⟨g1,p1,p2⟩:=Iu hb hc hm hE (lo:=0) (hi:=k) (Nat.zero_le _) hk
  obtain⟨g2,q1,q2⟩:=Iu hb hc hm hE (lo:=k) (hi:=l.length) hk (Nat.le_refl _)
  have hfl:aO.flatten=((aO.take k).drop 0).flatten++((aO.take l.length).drop k).flatten:=by
   have e1:aO.take l.length=aO:=List.take_of_length_le (by rw[hE.1];exact Nat.le_refl _)
   rw[List.drop_zero,e1, ←List.flatten_append,List.take_append_drop]
  rw[List.drop_zero]at p1
  rw[List.take_of_length_le (Nat.le_refl _)]at q1
  generalize ((aO.take k).drop 0).flatten=f1 at*
  generalize ((aO.take l.length).drop k).flatten=f2 at*
  have hnd:=ho.nodup
  rw[hfl]at hnd ⊢
  rw[hfl]at ho
  obtain⟨hnb,lJ⟩:=List.nodup_cons.1 hnd
  obtain⟨hd1,hd2,hd3⟩:=List.nodup_append.1 lJ
  have bz:b∉f1:=fun h=>hnb (List.mem_append_left _ h)
  have bW:b∉f2:=fun h=>hnb (List.mem_append_right _ h)
  exact⟨f1,f2,⟨hd1,fun _ _=>Nat.zero_le _,fun x hx=>ho.kind x (List.mem_cons_of_mem _ (List.mem_append_left _ hx))⟩,⟨hd2,fun _ _=>Nat.zero_le _,fun x hx=>ho.kind x (List.mem_cons_of_mem _ (List.mem_append_right _ hx))⟩,
   fun x hx=>List.mem_cons_of_mem _ (List.mem_append_left _ hx),fun x hx=>List.mem_cons_of_mem _ (List.mem_append_right _ hx),fun x hx hx'=>hd3 x hx x hx' rfl,
   ⟨g1,p1,p2.imp id fun h=>⟨b,h,List.mem_cons_self,bz,bW⟩⟩,⟨g2,q1,q2.imp id fun h=>⟨b,h,List.mem_cons_self,bz,bW⟩⟩⟩
abbrev Ar(hp:Hp)(m k n1 n2:Nat)(oa:Option Addr)(cap:Nat)(t:Tag)(l:List (T t)):Hp:=(n1, .dY t (l.take k) (.As (xk oa cap (kk t) 0 k)))::(n2, .dY t (l.drop k) (.As (xk oa cap (kk t) k l.length)))::bE [m] [] hp
theorem J2(g:Good ty zb st tmps w env){m k n1 n2:Nat}{t:Tag}{l:List (T t)}(hl:look st.hp m=some (.arr t l)){oa:Option Addr}{cap:Nat}(hv:(env m).v= .slice oa l.length cap)(hk:k≤l.length)
  (h1:fu n1=false)(h2:fu n2=false)(h3:look (bE [m] [] st.hp) n1=none)(h4:look (bE [m] [] st.hp) n2=none)(h12:n1≠n2):
  ∃env',Good ty zb ⟨st.n,st.sl.map fun e=>(e.1,e.2.bf [m] []),Ar st.hp m k n1 n2 oa cap t l⟩ tmps w env'∧ ∀x,x≠n1→x≠n2→env' x=env x:=by
 have hro:=g.obj m _ hl
 have hs:=RO.sl hro
 rw[hv]at hs
 obtain⟨f1,f2,o1,o2,s1,s2,d12,⟨g1,r1,c1⟩,⟨g2,r2,c2⟩⟩:=J1 hs (RO.own hro) hk
 let env':Env:=fun x=>if x=n1 then⟨xk oa cap (kk t) 0 k,f1⟩else if x=n2 then⟨xk oa cap (kk t) k l.length,f2⟩else env x
 have e1:env' n1=⟨xk oa cap (kk t) 0 k,f1⟩:=by simp[env']
 have e2:env' n2=⟨xk oa cap (kk t) k l.length,f2⟩:=(if_neg (Ne.symm h12)).trans (if_pos rfl)
 have e3: ∀x,x≠n1→x≠n2→env' x=env x:=fun x hx hy=>(if_neg hx).trans (if_neg hy)
 have hlk: ∀x o,look (Ar st.hp m k n1 n2 oa cap t l) x=some o→(x=n1∧o= .dY t (l.take k) (.As (xk oa cap (kk t) 0 k)))∨(x=n2∧o= .dY t (l.drop k) (.As (xk oa cap (kk t) k l.length)))∨(x≠n1∧x≠n2∧x≠m∧ ∃o',look st.hp x=some o'∧o=o'.bf [m] []):=by
  intro x o hx
  by_cases hx1:x=n1
  ·subst hx1;rw[look_eq]at hx;simp only[oI]at hx;exact Or.inl ⟨rfl,hx.symm⟩
  ·rw[aK hx1]at hx
   by_cases ny:x=n2
   ·subst ny;rw[look_eq]at hx;simp only[oI]at hx;exact Or.inr (Or.inl ⟨rfl,hx.symm⟩)
   ·rw[aK ny,aY]at hx
    split at hx
    ·cases hx
    ·rename_i hks
     cases hq:look st.hp x with
     |none=>rw[hq]at hx;cases hx
     |some o'=>rw[hq]at hx;simp only[Option.map_some,oI]at hx;exact Or.inr (Or.inr ⟨hx1,ny,by simpa using hks,o',rfl,hx.symm⟩)
 have hnd: ∀x o,x≠m→look st.hp x=some o→x≠n1∧x≠n2:=by
  intro x o hks hx
  constructor
  ·rintro rfl;rw[aY,if_neg (by simpa using hks),hx]at h3;cases h3
  ·rintro rfl;rw[aY,if_neg (by simpa using hks),hx]at h4;cases h4
 have hin: ∀x o b,look (Ar st.hp m k n1 n2 oa cap t l) x=some o→b∈(env' x).fp→(∃o',look st.hp x=some o'∧x≠m∧env' x=env x∧b∈(env x).fp)∨b∈(env m).fp:=by
  intro x o b hx hb
  rcases hlk x o hx with⟨rfl,_⟩| ⟨rfl,_⟩| ⟨hx1,ny,Gn,o',ho,_⟩
  ·rw[e1]at hb;exact Or.inr (s1 b hb)
  ·rw[e2]at hb;exact Or.inr (s2 b hb)
  ·rw[e3 x hx1 ny]at hb;exact Or.inl ⟨o',ho,Gn,e3 x hx1 ny,hb⟩
 have s:qC [m] [] w st.hp env w (Ar st.hp m k n1 n2 oa cap t l) env':=by
  refine⟨fun _ _ _=>rfl,?_,?_,?_⟩
  ·rintro b _ ⟨x,o,hx,hb⟩
   rcases hin x o b hx hb with⟨o',q1,_,_,q2⟩|h
   ·exact⟨x,o',q1,q2⟩
   ·exact⟨m,_,hl,h⟩
  ·intro x o hx ho
   obtain⟨q1,q2⟩:=hnd x o (by simpa using hx) ho
   exact⟨o.bf [m] [],by rw[aK q1,aK q2,aY,if_neg hx,ho];rfl,by cases o<;>simp[Obj.like,Obj.bf],by rw[e3 x q1 q2]⟩
  ·rintro x t' l' ⟨hx,_⟩ ho
   obtain⟨q1,q2⟩:=hnd x _ (by simpa using hx) ho
   exact⟨by rw[aK q1,aK q2,aY,if_neg hx,ho];rfl,e3 x q1 q2,fun _ _=>rfl⟩
 have hno: ∀b,b∈(env m).fp→b∉f1→b∉f2→ ¬Ow (Ar st.hp m k n1 n2 oa cap t l) env' b:=by
  rintro b hb bz bW ⟨x,o,hx,wT⟩
  rcases hlk x o hx with⟨rfl,_⟩| ⟨rfl,_⟩| ⟨hx1,ny,Gn,o',ho,_⟩
  ·rw[e1]at wT;exact bz wT
  ·rw[e2]at wT;exact bW wT
  ·rw[e3 x hx1 ny]at wT;exact g.fU x m _ _ Gn ho hl b wT hb
 refine⟨env',g.fA s (fun x o hx=> ?_) (fun x y o o' hne hx hy b hb hb'=> ?_) (fun x o hx b hb=> ?_) (fun x hx=> ?_),e3⟩
 ·rcases hlk x o hx with⟨rfl,rfl⟩| ⟨rfl,rfl⟩| ⟨hx1,ny,Gn,o',ho,rfl⟩
  ·rw[e1]
   exact⟨rfl,o1,g1,r1,c1.imp id fun⟨b,q1,q2,q3,q4⟩=>⟨b,q1,hno b q2 q3 q4⟩⟩
  ·rw[e2]
   exact⟨rfl,o2,g2,r2,c2.imp id fun⟨b,q1,q2,q3,q4⟩=>⟨b,q1,hno b q2 q3 q4⟩⟩
  ·rw[e3 x hx1 ny]
   exact(g.obj x o' ho).fA s fun _ _=>rfl
 ·rcases hlk x o hx with⟨rfl,_⟩| ⟨rfl,_⟩| ⟨hx1,ny,Gn,p,hp,_⟩<;>rcases hlk y o' hy with⟨rfl,_⟩| ⟨rfl,_⟩| ⟨hy1,UF,ZC,q,hq,_⟩
  ·exact hne rfl
  ·rw[e1]at hb;rw[e2]at hb';exact d12 b hb hb'
  ·rw[e1]at hb;rw[e3 y hy1 UF]at hb';exact g.fU y m _ _ ZC hq hl b hb' (s1 b hb)
  ·rw[e2]at hb;rw[e1]at hb';exact d12 b hb' hb
  ·exact hne rfl
  ·rw[e2]at hb;rw[e3 y hy1 UF]at hb';exact g.fU y m _ _ ZC hq hl b hb' (s2 b hb)
  ·rw[e3 x hx1 ny]at hb;rw[e1]at hb';exact g.fU x m _ _ Gn hp hl b hb (s1 b hb')
  ·rw[e3 x hx1 ny]at hb;rw[e2]at hb';exact g.fU x m _ _ Gn hp hl b hb (s2 b hb')
  ·rw[e3 x hx1 ny]at hb;rw[e3 y hy1 UF]at hb';exact g.fU x y _ _ hne hp hq b hb hb'
 ·rcases hin x o b hx hb with⟨o',q1,_,_,q2⟩|h
  ·exact g.dom x o' q1 b q2
  ·exact g.dom m _ hl b h
 ·have q1:x≠n1:=by rintro rfl;rw[h1]at hx;cases hx
  have q2:x≠n2:=by rintro rfl;rw[h2]at hx;cases hx
  rw[e3 x q1 q2];exact g.pins x hx
theorem N6(g:Good ty zb st tmps w env){n i:Nat}{c:List V}{v:Value}(hc:look st.hp n=some (.box c))(h1:v.oneCell'=true)
  (hx: ∀b cs e,env n=⟨.pointer (some ⟨b,0,none⟩),[b]⟩→w.heap[b]? =some (.cells (Array.mk cs) e (0,0))→ ∀y,cs[i]? =some y→y=v):
  Good ty zb ⟨st.n,st.sl,(n, .box (c.set i (.raw v)))::st.hp.filter fun e=> !Nat.beq e.1 n⟩ tmps w env:=by
 have hlk: ∀k o,look ((n,Obj.box (c.set i (.raw v)))::st.hp.filter fun e=> !Nat.beq e.1 n) k=some o→(k=n∧o= .box (c.set i (.raw v)))∨(k≠n∧look st.hp k=some o):=by
  intro k o hk
  by_cases hkn:k=n
  ·subst hkn;rw[look_eq]at hk;simp only[oI]at hk;exact Or.inl ⟨rfl,hk.symm⟩
  ·rw[aK hkn,gU hkn]at hk;exact Or.inr ⟨hkn,hk⟩
 have hne: ∀k o,k≠n→look st.hp k=some o→look ((n,Obj.box (c.set i (.raw v)))::st.hp.filter fun e=> !Nat.beq e.1 n) k=some o:=by
  intro k o hkn hk
  rw[aK hkn,gU hkn];exact hk
 have s:Step (fun _=>True) (fun _=>True) w st.hp env w ((n,Obj.box (c.set i (.raw v)))::st.hp.filter fun e=> !Nat.beq e.1 n) env:=by
  refine⟨fun _ _ _=>rfl,?_,?_,?_⟩
  ·rintro b _ ⟨k,o,h1,h2⟩
   rcases hlk k o h1 with⟨rfl,_⟩| ⟨_,h3⟩
   ·exact⟨_,_,hc,h2⟩
   ·exact⟨k,o,h3,h2⟩
  ·intro k o _ h1
   by_cases hkn:k=n
   ·subst hkn
    rw[hc]at h1
    simp only[oI]at h1
    subst h1
    exact⟨_,look_eq,trivial,rfl⟩
   ·exact⟨o,hne k o hkn h1,by cases o<;>simp[Obj.like],rfl⟩
  ·intro k t' l' _ h1
   have hkn:k≠n:=by rintro rfl;rw[hc]at h1;cases h1
   exact⟨hne k _ hkn h1,rfl,fun _ _=>rfl⟩
 have hex: ∀k o,look ((n,Obj.box (c.set i (.raw v)))::st.hp.filter fun e=> !Nat.beq e.1 n) k=some o→ ∃x,look st.hp k=some x:=by
  intro k o hk
  rcases hlk k o hk with⟨rfl,_⟩| ⟨_,h3⟩
  ·exact⟨_,hc⟩
  ·exact⟨_,h3⟩
 refine⟨fun k o hk=> ?_,fun k k' o o' hkk h1 h2=> ?_,fun t v hv=>lT.step s (fun v _=>v.cz) (g.slot t v hv),fun k o hk b hb=> ?_,g.pins⟩
 ·rcases hlk k o hk with⟨rfl,rfl⟩| ⟨hkn,h3⟩
  ·obtain⟨b,cs,e,q1,q2,q3⟩:=g.obj _ _ hc
   exact⟨b,cs,e,q1,q2,bg.set (q3.mono fun x y _ hr=>RA.step s x.cz hr) fun y hy=>⟨hx b cs e q1 q2 y hy,h1⟩⟩
  ·exact(g.obj k o h3).step s o.cz (fun _ _=>rfl)
 ·obtain⟨x,hx⟩:=hex k o h1
  obtain⟨y,hy⟩:=hex k' o' h2
  exact g.fU k k' x y hkk hx hy
 ·obtain⟨x,hx⟩:=hex k o hk
  exact g.dom k x hx b hb
def GV(st:St)(n i k n1 n2:Nat)(oa:Option Addr)(cap:Nat):Option (St×Nat):=match look st.hp n with
 |some (.box c)=>match sr c i with
  |some (.own m)=>match look st.hp m with
   |some (.arr t l)=>match fu n1,fu n2,look (bE [m] [] st.hp) n1,look (bE [m] [] st.hp) n2,Nat.beq n1 n2 with
    |false,false,none,none,false=>match Hv ⟨st.n,st.sl.map fun e=>(e.1,e.2.bf [m] []),(n, .box ((c.map (V.bf [m] [])).set i (.raw (.slice oa l.length cap))))::(Ar st.hp m k n1 n2 oa cap t l).filter fun e=> !Nat.beq e.1 n⟩with
     |some s=>some (s,l.length)
     |none=>none
    |_,_,_,_,_=>none
   |_=>none
  |_=>none
 |_=>none
theorem WB{c:Code}(n i k n1 n2:Nat){S:Option Addr→Nat→St}{L:Nat}(h: ∀oa cap,G.GV st n i k n1 n2 oa cap=some (S oa cap,L))(hk:k≤L)(K: ∀oa cap,L≤cap→W P ty zb c Q (S oa cap)):W P ty zb c Q st:=by
 intro a w iv
 obtain⟨env,g⟩:=iv.good
 have h0:=h none 0
 unfold G.GV at h0
 split at h0
 case h_2=>cases h0
 rename_i c0 hc
 split at h0
 case h_2=>cases h0
 rename_i m hm
 split at h0
 case h_2=>cases h0
 rename_i t l hl
 split at h0
 case h_2=>cases h0
 rename_i p1 p2 p3 p4 p5
 have hmn:n≠m:=by rintro rfl;rw[hl]at hc;cases hc
 have h12:n1≠n2:=by rintro rfl;simp at p5
 obtain⟨oa,cap,hv,hcap,_,_⟩:=RO.sl (g.obj m _ hl)
 have h1:=h oa cap
 unfold G.GV at h1
 rw[hc]at h1
 dsimp only at h1
 rw[hm]at h1
 dsimp only at h1
 rw[hl]at h1
 dsimp only at h1
 rw[p1,p2,p3,p4,p5]at h1
 dsimp only at h1
 split at h1
 case h_2=>cases h1
 rename_i s hs
 have hs:=jg hs
 simp only[oI,pI]at h1
 obtain⟨rfl,rfl⟩:=h1
 obtain⟨env',g',he⟩:=J2 g hl hv hk p1 p2 p3 p4 h12
 have hn1:n≠n1:=by rintro rfl;rw[aY,if_neg (by simpa using hmn),hc]at p3;cases p3
 have hn2:n≠n2:=by rintro rfl;rw[aY,if_neg (by simpa using hmn),hc]at p4;cases p4
 have AS:look (Ar st.hp m k n1 n2 oa cap t l) n=some (.box (c0.map (V.bf [m] []))):=by
  rw[aK hn1,aK hn2,aY,if_neg (by simpa using hmn),hc];rfl
 have g2:=N6 g' (i:=i) (v:= .slice oa l.length cap) AS rfl (fun b cs e q1 q2 y hy=>by
  rw[he n hn1 hn2]at q1
  obtain⟨b',cs',e',r1,r2,r3⟩:=g.obj _ _ hc
  rw[q1]at r1
  simp only[CO.mk.injEq,Value.pointer.injEq,oI,Addr.mk.injEq,and_true,true_and]at r1
  obtain⟨rfl,_⟩:=r1
  rw[q2]at r2
  simp only[oI,Go.Obj.cells.injEq,Array.mk.injEq,and_true]at r2
  obtain⟨rfl,_⟩:=r2
  rw[pU]at hm
  obtain⟨y',hy',hr⟩:=r3.at hm
  rw[hy]at hy'
  simp only[oI]at hy'
  subst hy'
  rw[hr.2,hv])
 rw[←hs]at g2
 exact K oa cap hcap a w ⟨by rw[hs];exact iv.size,iv.defers,iv.kept,iv.wN,env',g2⟩
end
end
section
variable{ty:Tag→Nat}
section
variable{P:Program}{zb:bP}{st st':St}{a:Act}{w:World}{Q:Exit→Act→World→Prop}{o:Oper}
theorem kK.as{ops:Array Oper}{op':Op}{K:Act→World→Prop}(he:execOp a.eval o=execOp a.eval {o with op:=op'})(hr:kK P ops {o with op:=op'} a w K Q):kK P ops o a w K Q:=by
 have hwp:o.wp P a w K Q↔Oper.wp P {o with op:=op'} a w K Q:=by
  unfold Oper.wp
  rw[he]
  rfl
 have has:o.asks P a w↔Oper.asks P {o with op:=op'} a w:=by
  unfold Oper.asks
  rw[he]
 unfold kK at hr ⊢
 rw[hwp,has]
 exact hr
end
section
variable{P:Program}{Γ:Nat→TK}{zb:bP}{Q:Post}{st:St}
end
end
end Go.Proofs.YtcnomgcfijjkmaaGreat.G
