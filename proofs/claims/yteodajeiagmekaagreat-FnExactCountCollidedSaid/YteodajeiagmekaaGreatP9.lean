/-
  Contracts of functions that are lent memory: from the walk through their bodies.
-/
import Derived.Test.YteodajeiagmekaaGreatP8
namespace Go.Proofs.YteodajeiagmekaaGreat.G
set_option linter.all false
open Go.RowKit L D
section
variable{ty:Tag→Nat}
def lz(env:Env)(ρ:List (Nat×Nat)):Env:=fun n=>match look ρ n with|some m=>env m|none=>⟨tB,[]⟩
section
variable{P:Program}{zb:aY}{st st':St}{a:Act}{w:World}{env:Env}{Q:Exit→Act→World→Prop}{o:Oper}{ρ:List (Nat×Nat)}{cR:Hp}
structure lB(st:St)(env:Env)(ρ:List (Nat×Nat))(cR:Hp):Prop where
 at_: ∀n m,(n,m)∈ρ→look ρ n=some m
 obj: ∀n m,(n,m)∈ρ→ ∃x,look st.hp m=some x∧look cR n=some (x.toF ρ)
 back: ∀n o,look cR n=some o→ ∃m x,(n,m)∈ρ∧look st.hp m=some x∧o=x.toF ρ∧(ec m=true→ec n=true)∧(soft m=true→soft n=true)
 uniq:(ρ.map Prod.snd).Nodup
theorem lB.of{st:St}{env:Env}{cR:Hp}(h:lq st ρ ρ=some cR)(h1:(ρ.map Prod.fst).Nodup)(h2:(ρ.map Prod.snd).Nodup):lB st env ρ cR:=by
 obtain⟨q1,q2⟩:=rm h
 have hnd:(cR.map Prod.fst).Nodup:=by rw[mA h];exact h1
 refine⟨fun n m hm=>bG h1 hm,fun n m hm=> ?_,fun n o hl=> ?_,h2⟩
 ·obtain⟨x,p1,p2⟩:=q2 n m hm
  exact⟨x,p1,bG hnd p2⟩
 ·obtain⟨m,x,p1,p2,p3,p4⟩:=q1 n o (bt hl)
  exact⟨m,x,p1,p2,p3,p4⟩
theorem lB.en(L:lB st env ρ cR){n m:Nat}(h:(n,m)∈ρ):lz env ρ n=env m:=by unfold lz;rw[L.at_ n m h]
theorem lB.ow(L:lB st env ρ cR){b:Nat}(h:Ow cR (lz env ρ) b): ∃n m x,(n,m)∈ρ∧look st.hp m=some x∧b∈(env m).fp:=by
 obtain⟨n,o,h1,h2⟩:=h
 obtain⟨m,x,p1,p2,_⟩:=L.back n o h1
 rw[L.en p1]at h2
 exact⟨n,m,x,p1,p2,h2⟩
theorem xE: ∀{ρ:List (Nat×Nat)} {n n' m:Nat},(ρ.map Prod.snd).Nodup→(n,m)∈ρ→(n',m)∈ρ→n=n'
 | (a,b)::r,n,n',m,hnd,h1,h2=>by
   obtain⟨q1,q2⟩:=List.nodup_cons.1 hnd
   rcases List.mem_cons.1 h1 with e1|e1<;>rcases List.mem_cons.1 h2 with e2|e2
   ·rw[Prod.mk.injEq]at e1 e2;rw[e1.1,e2.1]
   ·rw[Prod.mk.injEq]at e1;exact absurd (List.mem_map.2 ⟨_,e2,e1.2⟩) q1
   ·rw[Prod.mk.injEq]at e2;exact absurd (List.mem_map.2 ⟨_,e1,e2.2⟩) q1
   ·exact xE q2 e1 e2
theorem toF_ok(L:lB st env ρ cR){v:V}{u:Value}(h:RA w st.hp env v u):RA w cR (lz env ρ) (v.toF ρ) u:=by
 cases v with
 |lit x=>exact h
 |sl t l=>
  obtain⟨fp,h1,h2⟩:=h
  refine⟨fp,h1,fun b hb ho=>h2 b hb ?_⟩
  obtain⟨n,m,x,_,p2,p3⟩:=L.ow ho
  exact⟨m,x,p2,p3⟩
 |own m=>
  simp only[V.toF]
  split
  ·rename_i n hn
   obtain⟨⟨t,l,hl⟩,hu⟩:=h
   obtain⟨x,p1,p2⟩:=L.obj n m (eS hn)
   rw[hl]at p1
   simp only[Option.some.injEq]at p1
   subst p1
   exact⟨⟨t,l,p2⟩,by rw[L.en (eS hn)];exact hu⟩
  ·trivial
 |ptr m off=>
  simp only[V.toF]
  split
  ·rename_i n hn
   obtain⟨⟨c,hl⟩,hu⟩:=h
   obtain⟨x,p1,p2⟩:=L.obj n m (eS hn)
   rw[hl]at p1
   simp only[Option.some.injEq]at p1
   subst p1
   exact⟨⟨_,p2⟩,by rw[L.en (eS hn)];exact hu⟩
  ·trivial
 |ou f m=>
  simp only[V.toF]
  split
  ·rename_i n hn
   obtain⟨⟨c,hl⟩,hu⟩:=h
   obtain⟨x,p1,p2⟩:=L.obj n m (eS hn)
   rw[hl]at p1
   simp only[Option.some.injEq]at p1
   subst p1
   exact⟨⟨_,p2⟩,by rw[L.en (eS hn)];exact hu⟩
  ·trivial
 |fZ v t l=>
  obtain⟨hu,fp,h1,h2⟩:=h
  refine⟨hu,fp,h1,fun b hb ho=>h2 b hb ?_⟩
  obtain⟨n,m,x,_,p2,p3⟩:=L.ow ho
  exact⟨m,x,p2,p3⟩
 |_=>trivial
theorem AP{w:World}{hp eK:Hp}{env env':Env}{n m:Nat}{t:Tag}{l:List (T t)}{co:CO}(hs:soft m=true→soft n=true)(h:RO ty w hp env m (.arr t l) co):RO ty w eK env' n (.arr t l) co:=by
 cases hm:soft m with
 |false=>exact RO.xk (RO.Ab hm h)
 |true=>exact RO.Ac (hs hm) (RO.sl h) (RO.own h)
theorem yT(g:Good ty zb st a.tmps w env)(L:lB st env ρ cR):uj ty w cR (lz env ρ):=by
 refine⟨fun n o hl=> ?_,fun n n' o o' hne h1 h2 b hb hb'=> ?_⟩
 ·obtain⟨m,x,p1,p2,rfl,_,p4⟩:=L.back n o hl
  rw[L.en p1]
  have hro:=g.obj m x p2
  cases x with
  |arr t l=>exact AP p4 hro
  |box c=>
   obtain⟨b,cs,e,h1,h2,h3⟩:=hro
   exact⟨b,cs,e,h1,h2,h3.map fun x y hr=>toF_ok L hr⟩
  |dh t l s=>
   rcases RO.tF hro with⟨rfl,h⟩| ⟨hr,h1,us,hB,h2,_⟩
   ·exact h
   ·have e:(Obj.dh t l s).toF ρ= .dh t l .gone:=by cases s<;>first|rfl|exact absurd rfl hr
    rw[e]
    exact⟨h1,us,hB,h2,fun _ _ _ _ _=>trivial⟩
 ·obtain⟨m,x,p1,p2,_⟩:=L.back n o h1
  obtain⟨m',x',p1',p2',_⟩:=L.back n' o' h2
  rw[L.en p1]at hb
  rw[L.en p1']at hb'
  refine g.eO m m' x x' (fun e=> ?_) p2 p2' b hb hb'
  subst e
  exact hne (xE L.uniq p1 p1')
theorem xF(g:Good ty zb st a.tmps w env)(L:lB st env ρ cR){tg:Option Tag}{v v':V}{u:Value}(h:RA w st.hp env v u)(hf:CN st ρ tg v=some v'):RA w cR (lz env ρ) v' u:=by
 have Gw:(∀n c t l,v≠ .mix n c t l)→(∀n,v≠ .l6 n)→(∀m,v.name=some m→inv ρ m=none)→fM st tg v=some v'→RA w cR (lz env ρ) v' u:=by
  intro Cd JR hno hi
  have Gx: ∀{m:Nat} {x:Obj},v.name=some m→look st.hp m=some x→ ∀b,b∈(env m).fp→ ¬Ow cR (lz env ρ) b:=by
   intro m x hm hl b hb ho
   obtain⟨n,m',x',p1,p2,p3⟩:=L.ow ho
   have hne:m≠m':=by
    rintro rfl
    exact uk (hno m hm) (List.mem_map.2 ⟨_,p1,rfl⟩)
   exact g.eO m m' x x' hne hl p2 b hb p3
  cases v with
  |sl t l=>
   simp only[fM,Option.some.injEq]at hi
   subst hi
   exact toF_ok L h
  |own m=>
   simp only[fM]at hi
   split at hi
   ·rename_i t l hl
    simp only[Option.some.injEq]at hi
    subst hi
    obtain⟨_,hu⟩:=h
    refine⟨(env m).fp,?_,Gx rfl hl⟩
    rw[hu];exact RO.sl (g.obj m _ hl)
   ·cases hi
  |vw m p t l=>
   simp only[fM,Option.some.injEq]at hi
   subst hi
   obtain⟨⟨tA,lA,hl⟩,⟨fp,hs,_,hsub⟩,_⟩:=h
   exact⟨fp,hs,fun b hb=>Gx rfl hl b (hsub b hb)⟩
  |lit x=>
   unfold fM at hi
   split at hi
   ·rename_i he;cases he
   ·rename_i he;cases he
   ·rename_i he;cases he
   ·rename_i he;cases he
   ·rename_i he;cases he
   ·rename_i he
    simp only[V.lit.injEq]at he
    subst he
    obtain⟨hu,_⟩:=h
    split at hi
    ·simp only[Option.some.injEq]at hi
     subst hi
     refine⟨[],?_,by simp⟩
     rw[hu]
     exact⟨none,0,rfl,Nat.le_refl _,Nat.zero_le _,Or.inl ⟨rfl,rfl,fun _=>rfl⟩⟩
    ·cases hi
   ·cases hi
   ·rename_i he
    simp only[V.lit.injEq]at he
    subst he
    simp only[Option.some.injEq]at hi
    subst hi
    exact h
   ·cases hi
  |mix n c t l=>exact absurd rfl (Cd n c t l)
  |l6 n=>exact absurd rfl (JR n)
  |_=>simp[fM]at hi
 unfold CN at hf
 split at hf
 ·rename_i m hm
  split at hf
  ·rename_i n hn
   have hF:=toF_ok L h
   split at hf
   ·rename_i m'
    simp only[V.name,Option.some.injEq]at hm
    subst hm
    simp only[Option.some.injEq]at hf
    subst hf
    simpa only[V.toF,hn]using hF
   ·rename_i m' off
    simp only[V.name,Option.some.injEq]at hm
    subst hm
    simp only[Option.some.injEq]at hf
    subst hf
    simpa only[V.toF,hn]using hF
   ·rename_i f m'
    simp only[V.name,Option.some.injEq]at hm
    subst hm
    simp only[Option.some.injEq]at hf
    subst hf
    simpa only[V.toF,hn]using hF
   ·cases hf
  ·rename_i hn
   split at hf
   ·cases hf
   ·cases hf
   ·rename_i h1 h2
    exact Gw (fun n c t l e=>h1 n c t l e) (fun n e=>h2 n e) (fun k hk=>by rw[hm]at hk;simp only[Option.some.injEq]at hk;subst hk;exact hn) hf
 ·rename_i hm
  exact Gw (fun n c t l e=>by rw[e]at hm;cases hm) (fun n e=>by rw[e]at hm;cases hm) (fun k hk=>by rw[hm]at hk;cases hk) hf
theorem uq(g:Good ty zb st a.tmps w env)(L:lB st env ρ cR): ∀{vs vs':List V} {tg:List (Option Tag)} {us:List Value},aD (RA w st.hp env) vs us→uf st ρ tg vs=some vs'→aD (RA w cR (lz env ρ)) vs' us
 | [],vs',tg,us,h,hf=>by
   simp only[uf,Option.some.injEq]at hf
   subst hf
   cases us with
   |nil=>trivial
   |cons _ _=>exact h.elim
 |v::r,vs',tg,us,h,hf=>by
  cases us with
  |nil=>exact h.elim
  |cons u us=>
   simp only[uf]at hf
   split at hf
   ·rename_i x y h1 h2
    simp only[Option.some.injEq]at hf
    subst hf
    exact⟨xF g L h.1 h1,uq g L h.2 h2⟩
   ·cases hf
theorem ur(g:Good ty zb st a.tmps w env)(L:lB st env ρ cR){Γ:Nat→TK}: ∀{xs:List Operand} {ts:List Nat} {as:List S1},ug Γ st ρ xs ts=some as→aD (cz w cR (lz env ρ)) as (xs.map a.eval)
 | [],_,as,h=>by
   simp only[ug,Option.some.injEq]at h
   subst h;trivial
 |x::r,ts,as,h=>by
  simp only[ug]at h
  split at h
  ·rename_i v hv
   split at h
   ·rename_i y ys h1 h2
    simp only[Option.some.injEq]at h
    subst h
    have hr:=j0 g (fun e he=>by simp at he) hv
    refine⟨?_,ur g L h2⟩
    cases v with
    |a v=>
     simp only[EO]at h1
     split at h1
     ·rename_i hl
      simp only[Option.some.injEq]at h1
      subst h1
      cases v with
      |fZ v t l=>exact toF_ok L (v:= .fZ v t l) hr
      |_=>cases hl
     ·split at h1
      ·rename_i z hz
       simp only[Option.some.injEq]at h1
       subst h1
       exact xF g L hr hz
      ·cases h1
    |agg l=>
     simp only[EO]at h1
     split at h1
     ·rename_i z hz
      simp only[Option.some.injEq]at h1
      subst h1
      obtain⟨cs,hu,hl⟩:=hr
      exact⟨cs,hu,uq g L hl hz⟩
     ·cases h1
   ·cases h
  ·cases h
theorem aD.append{α β:Type}{R:α→β→Prop}: ∀{as as':List α} {bs bs':List β},aD R as bs→aD R as' bs'→aD R (as++as') (bs++bs'):=aD.app
theorem wh(g:Good ty zb st a.tmps w env)(L:lB st env ρ cR){x:Operand}{xs:Array Operand}{ts:Array TypeId}(ho:o.op= .call ⟨.value x,xs,ts⟩){f:FuncId}{ex:List S1}(h:sq st ρ x=some (f,ex))(hS: ∀(args:Array Value) (w:World),(callFunc f args).run P w= .ok (.enter f args) w):
  ∃us,(execOp a.eval o).run P w= .ok (.enter f (xs.toList.map a.eval++us).toArray) w∧aD (cz w cR (lz env ρ)) ex us:=by
 have hx:xs.map a.eval=(xs.toList.map a.eval).toArray:=by rw[←List.map_toArray]
 unfold sq at h
 split at h
 ·rename_i f' m hv
  split at h
  ·rename_i n hn
   simp only[Option.some.injEq,Prod.mk.injEq]at h
   obtain⟨rfl,rfl⟩:=h
   have hr:=bX g (fun e he=>by simp at he) hv
   have hA:RA w st.hp env (.ou f' m) (a.eval x):=hr
   obtain⟨⟨c,hl⟩,b,hb,hu⟩:=hA
   refine⟨[.pointer (some ⟨b,0,none⟩)],?_,?_,trivial⟩
   ·unfold execOp
    simp[ho,resolve,invoke,Deferred.ofValue,hu,hS]
    rw[hx];simp
   ·obtain⟨y,p1,p2⟩:=L.obj n m (eS hn)
    rw[hl]at p1
    simp only[Option.some.injEq]at p1
    subst p1
    exact⟨⟨_,p2⟩,b,by rw[L.en (eS hn)];exact hb,rfl⟩
  ·cases h
 ·rename_i v _ hv
  split at h
  ·rename_i f' hf
   simp only[Option.some.injEq,Prod.mk.injEq]at h
   obtain⟨rfl,rfl⟩:=h
   have h0:=xp (bX g (fun e he=>by simp at he) hv) hf
   refine⟨[],?_,trivial⟩
   unfold execOp
   simp[ho,resolve,invoke,Deferred.ofValue,h0,hS]
   exact hx
  ·cases h
 ·cases h
theorem toA_ok{w:World}{cg yU:Hp}{eZ env':Env}{ρ:List (Nat×Nat)}{kn DQ:Option V}(hn: ∀n m,look ρ n=some m→ ∀o,look cg n=some o→(∃o',look yU m=some o'∧o.toA DQ ρ=some o')∧env' m=eZ n)(hK: ∀x,kn=some x→ ∃u t l,x= .fZ u t l∧RA w yU env' x u){v v':V}{u:Value}(hP: ∀q,q∈uh kn v→q)(h:RA w cg eZ v u)(hv:v.toA kn ρ=some v'):RA w yU env' v' u:=by
 cases v with
 |any=>simp only[V.toA,Option.some.injEq]at hv;subst hv;trivial
 |lit x=>simp only[V.toA,Option.some.injEq]at hv;subst hv;exact h
 |fZ v t l=>
  simp only[V.toA]at hv
  obtain⟨u0,t0,l0,rfl,h0⟩:=hK _ hv
  subst hv
  have e:=hP (v=u0) (by simp[uh])
  obtain⟨hu,_⟩:=h
  rw[hu,e]
  exact h0
 |own n=>
  simp only[V.toA]at hv
  split at hv
  ·rename_i m hm
   simp only[Option.some.injEq]at hv
   subst hv
   obtain⟨⟨t,l,hl⟩,hu⟩:=h
   obtain⟨⟨o',q1,q2⟩,q3⟩:=hn n m hm _ hl
   simp only[Obj.toA,Option.some.injEq]at q2
   subst q2
   exact⟨⟨t,l,q1⟩,by rw[q3];exact hu⟩
  ·cases hv
 |ptr n off=>
  simp only[V.toA]at hv
  split at hv
  ·rename_i m hm
   simp only[Option.some.injEq]at hv
   subst hv
   obtain⟨⟨c,hl⟩,hu⟩:=h
   obtain⟨⟨o',q1,q2⟩,q3⟩:=hn n m hm _ hl
   simp only[Obj.toA]at q2
   split at q2
   ·simp only[Option.some.injEq]at q2
    subst q2
    exact⟨⟨_,q1⟩,by rw[q3];exact hu⟩
   ·cases q2
  ·cases hv
 |_=>simp[V.toA]at hv
theorem toAs_ok{w:World}{cg yU:Hp}{eZ env':Env}{ρ:List (Nat×Nat)}{kn DQ:Option V}(hn: ∀n m,look ρ n=some m→ ∀o,look cg n=some o→(∃o',look yU m=some o'∧o.toA DQ ρ=some o')∧env' m=eZ n)(hK: ∀x,kn=some x→ ∃u t l,x= .fZ u t l∧RA w yU env' x u): ∀{vs vs':List V} {us:List Value},(∀v,v∈vs→ ∀q,q∈uh kn v→q)→aD (RA w cg eZ) vs us→toAs kn ρ vs=some vs'→aD (RA w yU env') vs' us
 | [],vs',us,_,h,hv=>by
   simp only[toAs,Option.some.injEq]at hv
   subst hv
   cases us with
   |nil=>trivial
   |cons _ _=>exact h.elim
 |v::r,vs',us,hP,h,hv=>by
  cases us with
  |nil=>exact h.elim
  |cons u us=>
   simp only[toAs]at hv
   split at hv
   ·rename_i x y h1 h2
    simp only[Option.some.injEq]at hv
    subst hv
    exact⟨toA_ok hn hK (hP v (by simp)) h.1 h1,toAs_ok hn hK (fun z hz=>hP z (List.mem_cons_of_mem _ hz)) h.2 h2⟩
   ·cases hv
theorem toA_none{kn:Option V}{ρ:List (Nat×Nat)}{v v':V}(hk:kn=none)(h:v.toA kn ρ=some v'): ∀q,q∈uh kn v→q:=by
 subst hk
 cases v with
 |fZ v t l=>simp[V.toA]at h
 |_=>intro q hq;simp[uh]at hq
theorem toAs_none{ρ:List (Nat×Nat)}: ∀{vs vs':List V},toAs none ρ vs=some vs'→ ∀v,v∈vs→ ∀q,q∈uh none v→q
 |x::r,vs',h,v,hv=>by
  simp only[toAs]at h
  split at h
  ·rename_i h1 h2
   rcases List.mem_cons.1 hv with rfl|hv
   ·exact toA_none rfl h1
   ·exact toAs_none h2 v hv
  ·cases h
theorem AQ{w:World}{cg yU:Hp}{eZ env':Env}{ρ:List (Nat×Nat)}{DQ:Option V}(hn: ∀n m,look ρ n=some m→ ∀o,look cg n=some o→(∃o',look yU m=some o'∧o.toA DQ ρ=some o')∧env' m=eZ n){v v':S1}{u:Value}(h:cz w cg eZ v u)(hv:v.toA ρ=some v'):cz w yU env' v' u:=by
 cases v with
 |a v=>
  simp only[S1.toA]at hv
  split at hv
  ·rename_i x hx
   simp only[Option.some.injEq]at hv
   subst hv
   exact toA_ok (kn:=none) hn (fun _ h=>by cases h) (toA_none rfl hx) h hx
  ·cases hv
 |agg l=>
  simp only[S1.toA]at hv
  split at hv
  ·rename_i x hx
   simp only[Option.some.injEq]at hv
   subst hv
   obtain⟨cs,hu,hl⟩:=h
   exact⟨cs,hu,toAs_ok (kn:=none) hn (fun _ h=>by cases h) (toAs_none hx) hl hx⟩
  ·cases hv
theorem wj{w:World}{cg yU:Hp}{eZ env':Env}{ρ:List (Nat×Nat)}{DQ:Option V}(hn: ∀n m,look ρ n=some m→ ∀o,look cg n=some o→(∃o',look yU m=some o'∧o.toA DQ ρ=some o')∧env' m=eZ n): ∀{vs vs':List S1} {us:List Value},aD (cz w cg eZ) vs us→CQ ρ vs=some vs'→aD (cz w yU env') vs' us
 | [],vs',us,h,hv=>by
   simp only[CQ,Option.some.injEq]at hv
   subst hv
   cases us with
   |nil=>trivial
   |cons _ _=>exact h.elim
 |v::r,vs',us,h,hv=>by
  cases us with
  |nil=>exact h.elim
  |cons u us=>
   simp only[CQ]at hv
   split at hv
   ·rename_i x y h1 h2
    simp only[Option.some.injEq]at hv
    subst hv
    exact⟨AQ hn h.1 h1,wj hn h.2 h2⟩
   ·cases hv
theorem xG{ρ:List (Nat×Nat)}: ∀{vs vs':List S1},CQ ρ vs=some vs'→vs'.length=vs.length
 | [],vs',h=>by simp only[CQ,Option.some.injEq]at h;subst h;rfl
 |v::r,vs',h=>by
  simp only[CQ]at h
  split at h
  ·rename_i x y h1 h2
   simp only[Option.some.injEq]at h
   subst h
   rw[List.length_cons,List.length_cons,xG h2]
  ·cases h
theorem CS{Γ:Nat→TK}{cr:List (Nat×CR)}{d:Option Nat}{vc:List Prop}{v:SV}(h:AN P ty Γ cr st d o.op=some (vc,st',v))(g:Good ty zb st a.tmps w env)(hB:zb.w.heap.size≤w.heap.size)(hA:rQ zb)(hN:qJ w)(hv: ∀q,q∈vc→q):
  (∀k,v.mentions k=false)∧o.wp P a w (fun a' w'=> ∃u env',a'=a.put o.dst u∧Kept zb w w'∧Good ty zb st' a.tmps w' env'∧st'.n=st.n∧jG w' st'.hp env' a.tmps v u) Q:=by
 generalize bU:o.op=op at h
 cases op with
 |call c=>
  obtain⟨callee,xs,ts⟩:=c
  cases callee with
  |value x=>
   simp only[AN]at h
   split at h
   case h_2=>cases h
   rename_i _ ca cb cc os _ rs _ _
   split at h
   case h_2=>cases h
   rename_i ρ0 ρ1 ns _ _ _
   split at h
   case h_2=>cases h
   rename_i cg cR f ex as _ DR HX hargs
   split at h
   case h_2=>cases h
   rename_i B HV pF qS
   split at h
   case h_2=>cases h
   rename_i Gy
   simp only[Bool.and_eq_true]at Gy
   obtain⟨⟨⟨⟨⟨⟨c1,c2⟩,c3⟩,c4⟩,c5⟩,c6⟩,c7⟩:=Gy
   simp only[Option.some.injEq,Prod.mk.injEq,bN]at h
   obtain⟨rfl,rfl,rfl⟩:=h
   have hS:su ty P f cR (as++ex) cg rs:=hv _ (List.mem_cons_self ..)
   have HY: ∀q,q∈v9 (CP st xs.toList ρ0) cg→q:=fun q hq=>hv q (List.mem_cons_of_mem _ hq)
   have AR:=dQ c1
   rw[List.map_append]at AR
   have Gz:=(List.nodup_append.1 AR).1
   have L:lB st env ρ0 cR:=lB.of DR Gz (dQ c2)
   refine⟨fun k=>by split<;>rfl,?_⟩
   have CT: ∀b,b∈lu cR (lz env ρ0)→ ∃m x,m∈ρ0.map Prod.snd∧look st.hp m=some x∧b∈(env m).fp:=by
    intro b hb
    obtain⟨e,he,FL⟩:=List.mem_flatMap.1 hb
    have HZ:(cR.map Prod.fst).Nodup:=by rw[mA DR];exact Gz
    obtain⟨m,x,p1,p2,_⟩:=L.back e.1 e.2 (bG HZ he)
    rw[L.en p1]at FL
    exact⟨m,x,List.mem_map.2 ⟨_,p1,rfl⟩,p2,FL⟩
   have H6: ∀b,b∈lu cR (lz env ρ0)→b∈zb.L∨zb.w.heap.size≤b:=by
    intro b hb
    obtain⟨m,x,_,p2,p3⟩:=CT b hb
    exact g.dom m x p2 b p3
   obtain⟨us,hrun,hex⟩:=wh (P:=P) g L bU HX hS.1
   unfold Oper.wp
   rw[hrun]
   simp only[Oper.upon]
   refine(hS.2 w (lz env ρ0) _ hN (fun b h0 hb=>hA.free (H6 b hb) h0) (yT g L) (aD.app (ur g L hargs) hex)).mono ?_
   rintro e w' ⟨eZ,u,rfl,hK,⟨JS,JT⟩,dN,tX,hres⟩
   have GA: ∀n m,(n,m)∈ρ0→look (ρ0++ρ1) n=some m:=fun n m hm=>bG (by rw[List.map_append];exact AR) (List.mem_append_left _ hm)
   have ET:=jy c3
   have GB:=jy c4
   have H7: ∀{n m n':Nat} {o1 o2:Obj},(n,m,o1)∈B→(n',m,o2)∈B→n=n':=by
    intro n m n' o1 o2 h1 h2
    have: ∀{B:List (Nat×Nat×Obj)},((nS B).map Prod.fst).Nodup→(n,m,o1)∈B→(n',m,o2)∈B→n=n':=by
     intro B
     induction B with
     |nil=>intro _ h;cases h
     |cons x r ih=>
      intro hnd h1 h2
      obtain⟨q1,q2⟩:=List.nodup_cons.1 (show((x.2.1)::(nS r).map Prod.fst).Nodup from hnd)
      have hin: ∀{k:Nat} {o:Obj},(k,m,o)∈r→m∈(nS r).map Prod.fst:=fun h=>List.mem_map.2 ⟨(m,_),List.mem_map.2 ⟨_,h,rfl⟩,rfl⟩
      rcases List.mem_cons.1 h1 with e1|e1<;>rcases List.mem_cons.1 h2 with e2|e2
      ·rw[←e1]at e2;simp only[Prod.mk.injEq]at e2;exact e2.1.symm
      ·rw[←e1]at q1;exact absurd (hin e2) q1
      ·rw[←e2]at q1;exact absurd (hin e1) q1
      ·exact ih q2 e1 e2
    exact this GB h1 h2
   have GC: ∀{n m:Nat} {o':Obj},(n,m,o')∈B→look (nS B) m=some o'∧qv B m=some n:=by
    intro n m o' hm
    have h1:look (nS B) m=some o':=bG GB (List.mem_map.2 ⟨_,hm,rfl⟩)
    obtain⟨n',h2,h3⟩:=eT h1
    rw[H7 hm h2]
    exact⟨h1,h3⟩
   let env':Env:=fun m=>match qv B m with|some n=>eZ n|none=>env m
   have uu: ∀{n m:Nat} {o':Obj},(n,m,o')∈B→env' m=eZ n:=by
    intro n m o' hm
    show(match qv B m with|some n=>eZ n|none=>env m)=eZ n
    rw[(GC hm).2]
   have xH: ∀{m:Nat},look (nS B) m=none→env' m=env m:=by
    intro m hm
    show(match qv B m with|some n=>eZ n|none=>env m)=env m
    rw[qZ hm]
   have hn: ∀n m,look (ρ0++ρ1) n=some m→ ∀o,look cg n=some o→(∃o',look (nS B) m=some o'∧o.toA (CP st xs.toList ρ0) (ρ0++ρ1)=some o')∧env' m=eZ n:=by
    intro n m hm o hl
    obtain⟨m',o',q1,q2,q3⟩:=rj pF n o (bt hl)
    rw[hm]at q2
    simp only[Option.some.injEq]at q2
    subst q2
    exact⟨⟨o',(GC q1).1,q3⟩,uu q1⟩
   have hfr:=rq c5
   have hlk: ∀m o,look (nS B++pE (ρ0.map Prod.snd) ((ρ0.filter fun e=> !ec e.1).map Prod.snd) st.hp) m=some o→(∃n o1,look (nS B) m=some o∧look cg n=some o1∧o1.toA (CP st xs.toList ρ0) (ρ0++ρ1)=some o∧env' m=eZ n∧(ec m=true→ec n=true)∧(soft n=true→soft m=true))∨(look (nS B) m=none∧m∉ρ0.map Prod.snd∧ ∃x,look st.hp m=some x∧o=x.aI ((ρ0.filter fun e=> !ec e.1).map Prod.snd) (ρ0.map Prod.snd)∧env' m=env m):=by
    intro m o hm
    cases hq:look (nS B) m with
    |some o2=>
     rw[aJ hq]at hm
     simp only[Option.some.injEq]at hm
     subst hm
     obtain⟨n,h1,_⟩:=eT hq
     obtain⟨o1,p1,p2,p3,p4,p5⟩:=dS pF n m _ h1
     exact Or.inl ⟨n,o1,rfl,bG ET p1,p3,uu h1,p4,p5⟩
    |none=>
     rw[av hq,gP]at hm
     split at hm
     ·cases hm
     ·rename_i hnk
      cases hx:look st.hp m with
      |none=>rw[hx]at hm;cases hm
      |some x=>
       rw[hx]at hm
       simp only[Option.map_some,Option.some.injEq]at hm
       exact Or.inr ⟨rfl,hnk,x,rfl,hm.symm,xH hq⟩
   have hold: ∀m x,m∉ρ0.map Prod.snd→look st.hp m=some x→look (nS B) m=none:=by
    intro m x hnk hx
    cases hq:look (nS B) m with
    |none=>rfl
    |some o2=>
     have:=hfr m o2 hq
     rw[gP,if_neg hnk,hx]at this
     cases this
   have hst: ∀m x,m∉ρ0.map Prod.snd→look st.hp m=some x→ ∀b,b∈(env m).fp→w'.heap[b]? =w.heap[b]? :=by
    intro m x hnk hx b hb
    refine hK.block b ((g.obj m x hx).l5 b hb) fun hL=> ?_
    obtain⟨m',x',p1,p2,p3⟩:=CT b hL
    exact g.eO m m' x x' (fun e=>hnk (e▸p1)) hx p2 b hb p3
   have hnew: ∀{m n:Nat} {o1:Obj},look cg n=some o1→ ∀b,b∈(eZ n).fp→b<w.heap.size→ ∃m' x',m'∈ρ0.map Prod.snd∧look st.hp m'=some x'∧b∈(env m').fp:=by
    intro m n o1 hl b hb hlt
    rcases dN n o1 hl b hb with h|h
    ·exact CT b h
    ·omega
   have s:nC ((ρ0.filter fun e=> !ec e.1).map Prod.snd) (ρ0.map Prod.snd) w st.hp env w' (nS B++pE (ρ0.map Prod.snd) ((ρ0.filter fun e=> !ec e.1).map Prod.snd) st.hp) env':=by
    refine⟨fun b hb hno=>hK.block b hb fun hL=> ?_,?_,?_,?_⟩
    ·obtain⟨m,x,_,p2,p3⟩:=CT b hL
     exact hno ⟨m,x,p2,p3⟩
    ·rintro b hb ⟨m,o',h1,h2⟩
     rcases hlk m o' h1 with⟨n,o1,_,q2,_,q4,_⟩| ⟨_,_,x,q3,_,q5⟩
     ·rw[q4]at h2
      obtain⟨m',x',_,p2,p3⟩:=hnew (m:=m) q2 b h2 hb
      exact⟨m',x',p2,p3⟩
     ·rw[q5]at h2
      exact⟨m,x,q3,h2⟩
    ·intro m o' hks h1
     by_cases hkv:m∈ρ0.map Prod.snd
     ·obtain⟨e,he,rfl⟩:=List.mem_map.1 hkv
      have IY:ec e.1=true:=by
       cases hp:ec e.1 with
       |true=>rfl
       |false=>exact absurd (List.mem_map.2 ⟨e,List.mem_filter.2 ⟨he,by simp[hp]⟩,rfl⟩) hks
      have xB:=List.all_eq_true.1 c6 e he
      rw[IY]at xB
      simp only[Bool.not_true,Bool.false_or,Bool.and_eq_true]at xB
      obtain⟨x,p1,p2⟩:=L.obj e.1 e.2 he
      rw[h1]at p1
      simp only[Option.some.injEq]at p1
      subst p1
      rw[p2]at xB
      cases H8:look cg e.1 with
      |none=>rw[H8]at xB;simp[pz]at xB
      |some o1=>
       rw[H8]at xB
       obtain⟨⟨o2,q1,q2⟩,q3⟩:=hn e.1 e.2 (GA e.1 e.2 he) o1 H8
       refine⟨o2,aJ q1,?_,by rw[q3,(tX e.1 IY).1,L.en he]⟩
       cases o' with
       |arr t l=>simp[Obj.toF,pz]at xB
       |dh t l s=>cases s<;>simp[Obj.toF,pz]at xB
       |box c=>
        cases o1 with
        |arr t l=>simp[pz]at xB
        |dh t l s=>simp[pz]at xB
        |box c1=>
         simp only[Obj.toA]at q2
         split at q2
         ·simp only[Option.some.injEq]at q2;subst q2;trivial
         ·cases q2
     ·have hno:=hold m o' hkv h1
      refine⟨o'.aI _ _,by rw[av hno,gP,if_neg hkv,h1];rfl,by cases o'<;>simp[Obj.like,Obj.aI],by rw[xH hno]⟩
    ·rintro m t' l' ⟨_,hkv⟩ h1
     have hno:=hold m _ hkv h1
     refine⟨by rw[av hno,gP,if_neg hkv,h1];rfl,xH hno,hst m _ hkv h1⟩
   have GD:=g.ew s (fun m o' hm=> ?_) (fun m m' o1 o2 hne h1 h2 b hb hb'=> ?_) (fun m o' hm b hb=> ?_) (fun m hm=> ?_)
   ·refine⟨u,env',rfl,Kept.EE hK hB H6,GD,by first|trivial|rfl,?_⟩
    have h1: ∀{hp:Hp},(∀m o,look (nS B) m=some o→look hp m=some o)→(∀n m,look (ρ0++ρ1) n=some m→ ∀o,look cg n=some o→(∃o',look hp m=some o'∧o.toA (CP st xs.toList ρ0) (ρ0++ρ1)=some o')∧env' m=eZ n):=by
     intro hp hh n m hm o hl
     obtain⟨⟨o',p1,p2⟩,p3⟩:=hn n m hm o hl
     exact⟨⟨o',hh m o' p1,p2⟩,p3⟩
    have h2:=h1 (hp:=nS B++pE (ρ0.map Prod.snd) ((ρ0.filter fun e=> !ec e.1).map Prod.snd) st.hp) (fun m o hm=>aJ hm)
    have hlen:=xG qS
    match rs,HV,qS,hres,hlen with
    | [r],[ra],qS,hres,_=>
      simp only[CQ]at qS
      split at qS
      ·rename_i x y e1 e2
       simp only[Option.some.injEq,List.cons.injEq]at e2 qS
       obtain⟨rfl,_⟩:=qS
       exact AQ h2 hres e1
      ·cases qS
    | [],[],qS,⟨us',hu,hall⟩,_=>exact⟨us',hu,wj h2 hall qS⟩
    |r1::r2::r,x1::x2::xr,qS,⟨us',hu,hall⟩,_=>exact⟨us',hu,wj h2 hall qS⟩
    | [],_::_,_,_,hl=>cases hl
    | [_],[],_,_,hl=>cases hl
    | [_],_::_::_,_,_,hl=>simp at hl
    |_::_::_,[],_,_,hl=>simp at hl
    |_::_::_,[_],_,_,hl=>simp at hl
   ·rcases hlk m o' hm with⟨n,o1,q1,q2,q3,q4,_,q6⟩| ⟨q1,q2,x,q3,rfl,q5⟩
    ·rw[q4]
     have hro:=JS n o1 q2
     cases o1 with
     |arr t l=>
      simp only[Obj.toA,Option.some.injEq]at q3
      subst q3
      exact AP q6 hro
     |dh t l s=>cases q3
     |box c=>
      simp only[Obj.toA]at q3
      split at q3
      ·rename_i c' vn
       simp only[Option.some.injEq]at q3
       subst q3
       obtain⟨b,cs,e,h1,h2,h3⟩:=hro
       refine⟨b,cs,e,h1,h2,toAs_ok (DQ:=CP st xs.toList ρ0) (cg:=cg) (eZ:=eZ) ?_ (fun y hy=> ?_) (fun y hy q hq=>HY q (uo (bt q2) q (um hy q hq))) h3 vn⟩
       ·intro n m hm o hl
        obtain⟨⟨o',p1,p2⟩,p3⟩:=hn n m hm o hl
        exact⟨⟨o',aJ p1,p2⟩,p3⟩
       ·obtain⟨u0,t0,l0,e0,h0⟩:=ES g hy
        subst e0
        exact⟨u0,t0,l0,rfl,RA.ew s h0⟩
      ·cases q3
    ·rw[q5]
     exact(g.obj m x q3).ew s (hst m x q2 q3)
   ·rcases hlk m o1 h1 with⟨n,p1,q1,q2,q3,q4,_⟩| ⟨q1,q2,x,q3,_,q5⟩<;>rcases hlk m' o2 h2 with⟨n',p1',IZ,H9,Hq,Ia,_⟩| ⟨IZ,H9,x',Hq,_,I0⟩
    ·rw[q4]at hb
     rw[Ia]at hb'
     obtain⟨k1,k2,k3⟩:=eT q1
     obtain⟨I1,Hr,I2⟩:=eT IZ
     have e1:=uu k2
     have e2:=uu Hr
     have Ib:k1≠I1:=by
      rintro rfl
      obtain⟨_,_,z1,_⟩:=dS pF _ _ _ k2
      obtain⟨_,_,z2,_⟩:=dS pF _ _ _ Hr
      rw[z1]at z2
      simp only[Option.some.injEq]at z2
      exact hne z2
     rw[q4]at e1
     rw[Ia]at e2
     rw[e1]at hb
     rw[e2]at hb'
     obtain⟨y1,z1,_⟩:=dS pF _ _ _ k2
     obtain⟨y2,z2,_⟩:=dS pF _ _ _ Hr
     exact JT k1 I1 y1 y2 Ib (bG ET z1) (bG ET z2) b hb hb'
    ·rw[q4]at hb
     rw[I0]at hb'
     have hlt:=(g.obj m' x' Hq).l5 b hb'
     obtain⟨k,y,p1,p2,p3⟩:=hnew (m:=m) q2 b hb hlt
     exact g.eO m' k x' y (fun e=>H9 (e▸p1)) Hq p2 b hb' p3
    ·rw[q5]at hb
     rw[Ia]at hb'
     have hlt:=(g.obj m x q3).l5 b hb
     obtain⟨k,y,p1,p2,p3⟩:=hnew (m:=m') H9 b hb' hlt
     exact g.eO m k x y (fun e=>q2 (e▸p1)) q3 p2 b hb p3
    ·rw[q5]at hb
     rw[I0]at hb'
     exact g.eO m m' x x' hne q3 Hq b hb hb'
   ·rcases hlk m o' hm with⟨n,p1,q1,q2,q3,q4,_⟩| ⟨q1,q2,x,q3,_,q5⟩
    ·rw[q4]at hb
     rcases dN n p1 q2 b hb with h|h
     ·exact H6 b h
     ·exact Or.inr (by omega)
    ·rw[q5]at hb
     exact g.dom m x q3 b hb
   ·cases hq:look (nS B) m with
    |none=>rw[xH hq];exact g.pins m hm
    |some o2=>
     obtain⟨n,h1,_⟩:=eT hq
     obtain⟨_,_,p2,_,p4,_⟩:=dS pF n m _ h1
     have Gf:=p4 hm
     have hin:(n,m)∈ρ0:=by
      rcases List.mem_append.1 (bt p2)with h|h
      ·exact h
      ·have:=List.all_eq_true.1 c7 _ h
       simp only[hm]at this;cases this
     rw[uu h1]
     obtain⟨k1,k2⟩:=tX n Gf
     rw[L.en hin]at k1 k2
     obtain⟨j1,j2⟩:=g.pins m hm
     exact⟨k1.trans j1,fun b hb=>j2 b (k2 b hb)⟩
  |_=>simp[AN]at h
 |_=>simp[AN]at h
end
end
section
variable{ty:Tag→Nat}
def Ic(hp:Hp)(n m:Nat)(t:Tag)(l:List (T t))(r:nx:= .fM):Hp:=(m, .dh t l r)::bh [n] [] hp
def I3:S1→Option ((t:Tag)×List (T t)×nx)
 | .a (.sl t l)=>some ⟨t,l, .fM⟩
 | .a (.qn q t l)=>some ⟨t,l, .of q⟩
 |_=>none
def AS:nx→nx→Nat→Bool
 | .fM, .fM,_=>true
 | .of q, .of q',n=>match Nat.beq q q',Nat.beq q n with|true,false=>true|_,_=>false
 |_,_,_=>false
theorem AT{r r':nx}{n:Nat}(h:AS r r' n=true):r=r'∧r.aI [n] []=r∧r≠ .mp:=by
 cases r with
 |gone=>cases r'<;>cases h
 |mp=>cases r'<;>cases h
 |fM=>cases r' with
  |fM=>exact⟨rfl,rfl,by intro e;cases e⟩
  |_=>cases h
 |of q=>cases r' with
  |of q'=>
   simp only[AS]at h
   split at h
   ·rename_i h1 h2
    refine⟨by rw[Nat.eq_of_beq_eq_true h1],?_,by intro e;cases e⟩
    simp[nx.aI,h2]
   ·cases h
  |_=>cases h
def wk(P:Program)(ty:Tag→Nat)(Γ:Nat→TK)(st:St)(m0:Nat):Op→Option (List Prop×St×SV)
 | .call ⟨.builtin .append,xs,ts⟩=>match xs.toList,ts.toList with
   | [s,x],[t1,t2]=>match Γ t1,Nat.beq t1 t2 with
     | .sl t e,true=>match Nat.beq e (ty t),Nat.beq (kk t) 1,cC st [] s,(cC st [] x).bind I3 with
       |true,true,some (.a (.l6 n)),some ⟨I4,lx,r⟩=>match look st.hp n,cB t I4 lx with
        |some (.dh t' l r'),some lx=>match cB t t' l,pinned [n],ec m0,look (bh [n] [] st.hp) m0,AS r r' n with
         |some l,false,false,none,true=>some ([El P ty t,(l.length+lx.length)*iA t≤140737488355328∧l.length+lx.length≤maxLen],
           ⟨st.n,st.sl.map fun e=>(e.1,e.2.aI [n] []),Ic st.hp n m0 t (l++lx) r⟩, .one (.a (.l6 m0)))
         |_,_,_,_,_=>none
        |_,_=>none
       |_,_,_,_=>none
     |_,_=>none
   |_,_=>none
 |_=>none
section
variable{P:Program}{zb:aY}{st st':St}{a:Act}{w:World}{env:Env}{Q:Exit→Act→World→Prop}{o:Oper}
theorem ni{α β:Type}(l:List α):(l.map fun _=>([]:List β)).flatten= []:=by
 induction l with
 |nil=>rfl
 |cons _ _ ih=>simpa using ih
theorem CU{Γ:Nat→TK}(C: ∀t,aQ P t (Γ t)){m0:Nat}{vc:List Prop}{v:SV}(h:wk P ty Γ st m0 o.op=some (vc,st',v))(g:Good ty zb st a.tmps w env)(hB:zb.w.heap.size≤w.heap.size)(hv: ∀q,q∈vc→q):
  o.wp P a w (fun a' w'=> ∃u env',a'=a.put o.dst u∧Kept zb w w'∧Good ty zb st' a.tmps w' env'∧st'.n=st.n∧jG w' st'.hp env' a.tmps v u) Q:=by
 have hop: ∀{x v},cC st [] x=some v→cz w st.hp env v (a.eval x):=fun hx=>bX g (fun e he=>by simp at he) hx
 generalize bU:o.op=op at h
 cases op with
 |call c=>
  obtain⟨callee,xs,ts⟩:=c
  cases callee with
  |builtin b=>
   cases b with
   |append=>
    simp only[wk]at h
    split at h
    case h_2=>cases h
    rename_i s x t1 t2 hxl htl
    obtain rfl:xs= #[s,x]:=by cases xs;simp_all
    obtain rfl:ts= #[t1,t2]:=by cases ts;simp_all
    split at h
    case h_2=>cases h
    rename_i t e hk vZ
    have vZ:=Nat.eq_of_beq_eq_true vZ
    subst vZ
    split at h
    case h_2=>cases h
    rename_i n I4 Cj r he hk1 hs hx
    have he:=Nat.eq_of_beq_eq_true he
    have hk1:=Nat.eq_of_beq_eq_true hk1
    split at h
    case h_2=>cases h
    rename_i t' l0 r' lx hl hcx
    split at h
    case h_2=>cases h
    rename_i l tL hpk Et hlk hbk
    obtain⟨rfl,I5,hmp⟩:=AT hbk
    obtain⟨sx,Gi,hx⟩:=Option.bind_eq_some_iff.1 hx
    simp only[Option.some.injEq,Prod.mk.injEq]at h
    obtain⟨rfl,rfl,rfl⟩:=h
    obtain⟨e1,rfl⟩:=bk hcx
    subst e1
    obtain⟨e2,rfl⟩:=bk tL
    subst e2
    have j6:El P ty t':=hv _ (by simp)
    obtain⟨aL,aU⟩:(l0.length+Cj.length)*iA t'≤140737488355328∧l0.length+Cj.length≤maxLen:=hv _ (by simp)
    obtain⟨_,hu⟩:=hop hs
    obtain⟨KG,HF,JU⟩: ∃fp,Sl (kk t') (rd t') w (a.eval x) Cj fp∧ ∀(t:Tag) (y:T t) (u:Value) (f:List Nat),(∀b,b∈f→b∈fp)→rd t w [u] y f→BE w st.hp env r t y u:=by
     have hr:=hop Gi
     unfold I3 at hx
     split at hx
     ·simp only[Option.some.injEq,Sigma.mk.injEq]at hx
      obtain⟨rfl,hx⟩:=hx
      obtain⟨rfl,rfl⟩:=Prod.mk.inj (eq_of_heq hx)
      obtain⟨fp,h1,h2⟩:=hr
      exact⟨fp,h1,fun t y u f hf hr=>⟨f,hr,fun b hb=>h2 b (hf b hb)⟩⟩
     ·simp only[Option.some.injEq,Sigma.mk.injEq]at hx
      obtain⟨rfl,hx⟩:=hx
      obtain⟨rfl,rfl⟩:=Prod.mk.inj (eq_of_heq hx)
      obtain⟨h0,b0,fp,h1,h2,_,h3⟩:=hr
      refine⟨_,h1,fun t y u f hf hr=>⟨h0,f,hr,fun b hb=> ?_⟩⟩
      rcases List.mem_cons.1 (hf b hb)with rfl|h
      ·exact Or.inr h2
      ·exact Or.inl (h3 b h)
     ·cases hx
    obtain⟨_,us,I6,vR,FL⟩:=((RO.tF (g.obj n _ hl)).resolve_left fun q=>hmp q.1).2
    obtain⟨news,fx,n1,n2,n3,n4,n5⟩:=ld (bI t') (cF t') HF
    rw[hk1]at n3 n4
    have hC:=C t1
    rw[hk]at hC
    have hone: ∀(i:Nat) (y:Value),news[i]? =some y→y.oneCell'=true∧ ∀x,Cj[i]? =some x→BE w st.hp env r t' x y:=by
     intro i y hy
     have hi:i<news.length:=(List.getElem?_eq_some_iff.1 hy).1
     have hx':Cj[i]? =some (Cj[i]'(by omega)):=List.getElem?_eq_getElem (by omega)
     have hf':fx[i]? =some (fx[i]'(by omega)):=List.getElem?_eq_getElem (by omega)
     have hr:=n4 i _ _ hx' hf'
     have JV:(news.drop (i*1)).take 1= [y]:=by
      rw[Nat.mul_one,List.drop_eq_getElem_cons hi]
      have:news[i]=y:=(List.getElem?_eq_some_iff.1 hy).2
      rw[this];rfl
     rw[JV]at hr
     refine⟨(bI t').one hr y (by simp),fun x hx=> ?_⟩
     rw[hx']at hx
     simp only[Option.some.injEq]at hx
     subst hx
     exact JU _ _ _ _ (fun b hb=>n5.subset (List.mem_flatten.2 ⟨_,List.getElem_mem _,hb⟩)) hr
    have I7:dy 1 Cu 0 (ty t') w (a.eval s) us (env n).fp:=by rw[hu];exact I6
    have zC:(P.info? (ty t')).map (fun i=>(i.zero,i.size,i.bytes))=some (some (bP t'),1,iA t'):=by rw[←hk1];exact j6
    refine wX s x t1 bU oH (by decide) 0 (ty t') (bP t') (iA t') (by rw[←he];exact hC.1) zC (by rw[←hk1];exact gH t') _ us (env n).fp rfl I7 _ rfl news news (news.map fun _=> [])
     (by rw[show news.length=Cj.length by omega];exact n1) (by simp) (by omega) (fun i y f hy hf=> ?_) (by rw[ni,List.append_nil];exact I6.own) (by rw[vR,show news.length=Cj.length by omega];exact aU) (by rw[vR,show news.length=Cj.length by omega];exact aL) (Nat.zero_le _) ?_
    ·have hi:i<news.length:=(List.getElem?_eq_some_iff.1 hy).1
     have Ie:f= []:=by
      rw[List.getElem?_map,hy]at hf
      simpa using hf.symm
     subst Ie
     refine⟨?_,rfl,(hone i y hy).1⟩
     rw[Nat.mul_one,List.drop_eq_getElem_cons hi]
     have:news[i]=y:=(List.getElem?_eq_some_iff.1 hy).2
     rw[this];rfl
    ·intro v' w' cL k1 k2 k3 k4 k5 _
     have CH: ∀b,(a.eval s).ownBlock=some b→b∈(env n).fp:=by
      intro b hb
      obtain⟨xs,az,_,_,_,dN,_⟩:=I7
      rw[dN,hb];simp
     obtain⟨env',hg',DN,_,_⟩:=qU (ty:=ty) g hB (ks:= [n]) hpk Et hlk (v:=a.eval s) (v':=v') (ob:= .dh t' (l0++Cj) r) (fp:=(env n).fp) (fx:= []) (cL:=cL)
      (by
       intro b hb
       rw[List.append_nil]at hb
       exact⟨n,_,by simp,hl,hb⟩)
      CH
      (by
       intro JW hd s2
       refine RO.Ek hmp ⟨hk1,us++news,k1,by rw[List.length_append,List.length_append,vR];omega,fun i x u hx Ce=> ?_⟩
       by_cases hi:i<l0.length
       ·rw[List.getElem?_append_left hi]at hx
        rw[List.getElem?_append_left (by omega)]at Ce
        have GF:=BE.ew s2 (r:=r) (FL i x u hx Ce);rw[I5]at GF;exact GF
       ·rw[List.getElem?_append_right (by omega)]at hx
        rw[List.getElem?_append_right (by omega),vR]at Ce
        have GF:=BE.ew s2 (r:=r) ((hone _ u Ce).2 x hx);rw[I5]at GF;exact GF)
      k2 (by intro b hb;rcases k4 b hb with h|h|h
             ·exact Or.inl h
             ·rw[ni]at h;cases h
             ·exact Or.inr (Or.inr h))
     refine⟨v',env',rfl,⟨k2.os,k2.tape,k2.output,k2.size,fun b hb hn=>k2.block b (by omega) fun e=> ?_,k5⟩,hg',rfl,⟨t',_,_,look_eq⟩,DN.symm⟩
     rcases g.dom n _ hl b (CH b e.symm)with h|h
     ·exact hn h
     ·omega
   |_=>simp[wk]at h
  |_=>simp[wk]at h
 |_=>simp[wk]at h
end
end
section
variable{ty:Tag→Nat}
def fV:V→Option V
 | .any=>some .any
 | .lit (.int k n)=>some (.lit (.int k n))
 | .lit (.bool b)=>some (.lit (.bool b))
 | .lit (.string s)=>some (.lit (.string s))
 | .lit v=>some (.lit v)
 | .sl t l=>some (.sl t l)
 | .own n=>some (.own n)
 | .ptr n o=>some (.ptr n o)
 | .fA n i o=>some (.fA n i o)
 | .ip t x o=>some (.ip t x o)
 | .vw n p t l=>some (.vw n p t l)
 | .qm n p t x o=>some (.qm n p t x o)
 | .qn n t l=>some (.qn n t l)
 | .mix n c t l=>some (.mix n c t l)
 | .l6 n=>some (.l6 n)
 | .ou f n=>some (.ou f n)
 | .jW k=>some (.jW k)
 | .fZ v t l=>some (.fZ v t l)
theorem DS(v:V):fV v=some v:=by
 unfold fV;split<;>rfl
def FN:List V→Option (List V)
 | []=>some []
 |v::r=>match fV v,FN r with
  |some x,some y=>some (x::y)
  |_,_=>none
theorem wm: ∀l:List V,FN l=some l
 | []=>rfl
 |v::r=>by simp[FN,DS,wm r]
def fS:SV→Option SV
 | .one (.a v)=>match fV v with|some v=>some (.one (.a v))|none=>none
 | .one (.agg l)=>match FN l with|some l=>some (.one (.agg l))|none=>none
 | .l9 l=>some (.l9 l)
 | .cond p (.a v)=>match fV v with|some v=>some (.cond p (.a v))|none=>none
 | .cond p (.agg l)=>match FN l with|some l=>some (.cond p (.agg l))|none=>none
theorem AU{x y:SV}(h:fS x=some y):y=x:=by
 unfold fS at h
 split at h<;>simp_all [DS,wm]
def fO:Obj→Option Obj
 | .box c=>match FN c with|some c=>some (.box c)|none=>none
 | .arr t l=>some (.arr t l)
 | .dh t l .gone=>some (.dh t l .gone)
 | .dh t l .fM=>some (.dh t l .fM)
 | .dh t l .mp=>some (.dh t l .mp)
 | .dh t l (.of n)=>some (.dh t l (.of n))
theorem DT{x y:Obj}(h:fO x=some y):y=x:=by
 unfold fO at h
 split at h<;>simp_all [wm]
def GG:List (Nat×SV)→Option (List (Nat×SV))
 | []=>some []
 | (n,x)::r=>match fS x,GG r with
   |some x,some r=>some ((n,x)::r)
   |_,_=>none
theorem AV: ∀{l m:List (Nat×SV)},GG l=some m→m=l
 | [],m,h=>by simp only[GG,Option.some.injEq]at h;exact h.symm
 | (n,x)::r,m,h=>by
   simp only[GG]at h
   split at h
   ·rename_i y r' h1 h2
    simp only[Option.some.injEq]at h
    rw[←h,AU h1,AV h2]
   ·cases h
def FO:Hp→Option Hp
 | []=>some []
 | (n,x)::r=>match fO x,FO r with
   |some x,some r=>some ((n,x)::r)
   |_,_=>none
theorem wo: ∀{l m:Hp},FO l=some m→m=l
 | [],m,h=>by simp only[FO,Option.some.injEq]at h;exact h.symm
 | (n,x)::r,m,h=>by
   simp only[FO]at h
   split at h
   ·rename_i y r' h1 h2
    simp only[Option.some.injEq]at h
    rw[←h,DT h1,wo h2]
   ·cases h
def GH:St→Option St
 | ⟨n,sl,hp⟩=>match GG sl,FO hp with
   |some sl,some hp=>some ⟨n,sl,hp⟩
   |_,_=>none
theorem wq{s s':St}(h:GH s=some s'):s'=s:=by
 obtain⟨n,sl,hp⟩:=s
 simp only[GH]at h
 split at h
 ·rename_i a b h1 h2
  simp only[Option.some.injEq]at h
  rw[←h,AV h1,wo h2]
 ·cases h
def DU:TypeDesc→Bool
 | .struct _=>false
 | .array _ _=>false
 |_=>true
def CV(P:Program)(t f k:Nat):Prop:= ∃fs fd d,P.underlying t=some (.struct fs)∧fs[f]? =some fd∧fd.offset=k∧P.underlying fd.type=some d∧DU d=true
def AW(P:Program)(Γ:Nat→TK)(st:St):Op→Option (List Prop×St×SV)
 | .field t x f=>match cC st [] x,Γ t with
   |some (.agg c), .st _ _ fo=>match fC fo f with
    |some k=>match qK c k with
     |some v=>some ([CV P t f k],st, .one (.a v))
     |none=>none
    |none=>none
   |_,_=>none
 |_=>none
theorem wu{P:Program}{t:TypeId}{d:TypeDesc}(h:P.underlying t=some d)(hd:DU d=true)(w:World):(isAgg t).run P w= .ok false w:=by
 cases d<;>first| (cases hd;done)|simp[isAgg,run_underlying h]
section
variable{P:Program}{zb:aY}{st st':St}{a:Act}{w:World}{env:Env}{Q:Exit→Act→World→Prop}{o:Oper}
theorem CW{Γ:Nat→TK}{vc:List Prop}{v:SV}(h:AW P Γ st o.op=some (vc,st',v))(g:Good ty zb st a.tmps w env)(hv: ∀q,q∈vc→q):
  o.wp P a w (fun a' w'=> ∃u env',a'=a.put o.dst u∧Kept zb w w'∧Good ty zb st' a.tmps w' env'∧st'.n=st.n∧jG w' st'.hp env' a.tmps v u) Q:=by
 generalize bU:o.op=op at h
 cases op with
 |field t x f=>
  simp only[AW]at h
  split at h
  case h_2=>cases h
  rename_i c z tg fo hx hk
  split at h
  case h_2=>cases h
  rename_i k hf
  split at h
  case h_2=>cases h
  rename_i v' hel
  simp only[Option.some.injEq,Prod.mk.injEq]at h
  obtain⟨rfl,rfl,rfl⟩:=h
  obtain⟨fs,fd,d,h1,h2,h3,h4,h5⟩:=hv _ (List.mem_singleton.2 rfl)
  obtain⟨us,hu,hA⟩:=bX g (fun e he=>by simp at he) hx
  obtain⟨u,k1,k2⟩:=hA.at (rS hel)
  have hr:(execOp a.eval o).run P w= .ok (.value u) w:=by
   unfold execOp
   simp[bU,hu,Instr.field,part,run_underlying h1,h2,h3,wu h4 h5,asAgg,k1]
  unfold Oper.wp
  rw[hr]
  exact⟨u,env,rfl,Kept.refl _ _,g,rfl,k2⟩
 |_=>simp[AW]at h
end
def AX(P:Program)(ty:Tag→Nat)(Γ:Nat→TK)(cr:List (Nat×CR))(st:St)(m:Nat)(d:Option Nat)(op:Op):Option (List Prop×St×SV):=
 match vY P ty Γ st m op with
 |some r=>some r
 |none=>match oW P ty Γ st m op with
  |some r=>some r
  |none=>match Hh P ty Γ cr st d op with
   |some r=>some r
   |none=>match Hi P ty cr st d op with
    |some r=>some r
    |none=>match AN P ty Γ cr st d op with
     |some r=>some r
     |none=>match Gq P ty Γ st op with
      |some r=>some r
      |none=>match AW P Γ st op with
       |some r=>some r
       |none=>wk P ty Γ st m op
def AY(Γ:Nat→TK)(st:St)(op:Op):Option (List Prop×St):=
 match CK Γ st op with
 |some r=>some r
 |none=>Hj Γ st op
def step(P:Program)(ty:Tag→Nat)(Γ:Nat→TK)(bD:List (Nat×Nat))(cr:List (Nat×CR))(ops:List Oper)(st:St)(o:Oper):Option (List Prop×St):=
 match Aa Γ (yC P ty) (Sound ty P) bD cr ops st o with
 |some r=>some r
 |none=>match o.guard,m6 st o.dst,F1 bD o.dst with
  |none,true,some m=>match oS Γ st o.op with
   |some st'=>match o.dst with|none=>some ([],st')|some _=>none
   |none=>match AY Γ st o.op with
    |some (vc,st')=>match o.dst,GH st' with|none,some st'=>some (vc,st')|_,_=>none
    |none=>match AX P ty Γ cr st m o.dst o.op with
     |some (vc,st',v)=>match GH st' with|some st'=>some (vc,st'.put o.dst v)|none=>none
     |none=>none
  |_,_,_=>none
def run(P:Program)(ty:Tag→Nat)(Γ:Nat→TK)(bD:List (Nat×Nat))(cr:List (Nat×CR))(ops:List Oper):List Oper→St→List Prop→Option (List Prop×St)
 | [],st,acc=>some (acc,st)
 |o::r,st,acc=>match step P ty Γ bD cr ops st o with
  |some ([],⟨n,sl,hp⟩)=>run P ty Γ bD cr ops r ⟨n,sl,hp⟩ acc
  |some ([p],⟨n,sl,hp⟩)=>run P ty Γ bD cr ops r ⟨n,sl,hp⟩ (p::acc)
  |some ([p,q],⟨n,sl,hp⟩)=>run P ty Γ bD cr ops r ⟨n,sl,hp⟩ (p::q::acc)
  |some (l,⟨n,sl,hp⟩)=>run P ty Γ bD cr ops r ⟨n,sl,hp⟩ (l++acc)
  |none=>none
def ah:List Prop→Prop
 | []=>True
 |p::r=>p∧ah r
theorem ah.out: ∀{l:List Prop},ah l→ ∀q,q∈l→q
 |p::r,h,q,hq=>by
  rcases List.mem_cons.1 hq with rfl|hq
  ·exact h.1
  ·exact ah.out h.2 q hq
section
variable{P:Program}{zb:aY}{st st':St}{a:Act}{w:World}{Q:Exit→Act→World→Prop}{o:Oper}
theorem nj{v:SV}{d:Nat}(h: ∃x,v= .one x):v.mentions d=false:=by
 obtain⟨x,rfl⟩:=h;rfl
theorem mu.mono{ops:Array Oper}{K K':Act→World→Prop}(h: ∀a w,K a w→K' a w)(hr:mu P ops o a w K Q):mu P ops o a w K' Q:=by
 unfold mu at*
 split
 ·rename_i hw;rw[if_pos hw]at hr;exact hr.imp (Oper.wp_mono h) id
 ·rename_i hw;rw[if_neg hw]at hr;exact h _ _ hr
theorem AZ{Γ:Nat→TK}(C: ∀t,aQ P t (Γ t)){cr:List (Nat×CR)}{m:Nat}{vc:List Prop}{v:SV}{env:Env}{d:Option Nat}(h:AX P ty Γ cr st m d o.op=some (vc,st',v))(g:Good ty zb st a.tmps w env)(hB:zb.w.heap.size≤w.heap.size)(hA:rQ zb)(hN:qJ w)(hv: ∀q,q∈vc→q):
  (∀k,v.mentions k=false)∧o.wp P a w (fun a' w'=> ∃u env',a'=a.put o.dst u∧Kept zb w w'∧Good ty zb st' a.tmps w' env'∧st'.n=st.n∧jG w' st'.hp env' a.tmps v u) Q:=by
 have one:(∃x,v= .one x)→ ∀k,v.mentions k=false:=fun hx k=>nj hx
 unfold AX at h
 split at h
 ·rename_i r he
  simp only[Option.some.injEq]at h
  subst h
  refine⟨one ?_,CI C he g hB hv⟩
  unfold vY at he
  repeat' split at he
  all_goals first
   | (cases he;done)
   | (simp only[Option.some.injEq,Prod.mk.injEq]at he;exact⟨_,he.2.2.symm⟩)
 ·split at h
  ·rename_i r he
   simp only[Option.some.injEq]at h
   subst h
   refine⟨one ?_,yN C he g hB hv⟩
   unfold oW at he
   repeat' split at he
   all_goals first
    | (cases he;done)
    | (simp only[Option.some.injEq,Prod.mk.injEq]at he;exact⟨_,he.2.2.symm⟩)
  ·split at h
   ·rename_i r he
    simp only[Option.some.injEq]at h
    subst h
    refine⟨one ?_,EF he g hB hA hN hv⟩
    unfold Hh at he
    repeat' split at he
    all_goals first
     | (cases he;done)
     | (simp only[Option.some.injEq,Prod.mk.injEq]at he;exact⟨_,he.2.2.symm⟩)
   ·split at h
    ·rename_i r he
     simp only[Option.some.injEq]at h
     subst h
     refine⟨one ?_,EK (Γ:=Γ) he g hB hA hN hv⟩
     unfold Hi at he
     repeat' split at he
     all_goals first
      | (cases he;done)
      | (simp only[Option.some.injEq,Prod.mk.injEq]at he;exact⟨_,he.2.2.symm⟩)
    ·split at h
     ·rename_i r he
      simp only[Option.some.injEq]at h
      subst h
      exact CS he g hB hA hN hv
     ·split at h
      ·rename_i r he
       simp only[Option.some.injEq]at h
       subst h
       refine⟨one ?_,EN C he g hB hv⟩
       unfold Gq at he
       repeat' split at he
       all_goals first
        | (cases he;done)
        | (simp only[Option.some.injEq,Prod.mk.injEq]at he;exact⟨_,he.2.2.symm⟩)
      ·split at h
       ·rename_i r he
        simp only[Option.some.injEq]at h
        subst h
        refine⟨one ?_,CW he g hv⟩
        unfold AW at he
        repeat' split at he
        all_goals first
         | (cases he;done)
         | (simp only[Option.some.injEq,Prod.mk.injEq]at he;exact⟨_,he.2.2.symm⟩)
       ·refine⟨one ?_,CU C h g hB hv⟩
        unfold wk at h
        repeat' split at h
        all_goals first
         | (cases h;done)
         | (simp only[Option.some.injEq,Prod.mk.injEq]at h;exact⟨_,h.2.2.symm⟩)
theorem A0{Γ:Nat→TK}(C: ∀t,aQ P t (Γ t))(Z: ∀t,(∀z tg fo,Γ t≠ .st z tg fo)→Γ t≠ .other→(P.info? t).map (·.size)=some 1){vc:List Prop}{env:Env}(h:AY Γ st o.op=some (vc,st'))(g:Good ty zb st a.tmps w env)(hB:zb.w.heap.size≤w.heap.size)(hv: ∀q,q∈vc→q):
  o.wp P a w (fun a' w'=> ∃env',a'=a.put o.dst undef∧Kept zb w w'∧Good ty zb st' a.tmps w' env'∧st'.n=st.n) Q:=by
 unfold AY at h
 split at h
 ·rename_i r hr
  simp only[Option.some.injEq]at h
  subst h
  exact CL C Z hr g hv
 ·exact EM C Z h g hB hv
theorem sw{Γ:Nat→TK}(C: ∀t,aQ P t (Γ t))(Z: ∀t,(∀z tg fo,Γ t≠ .st z tg fo)→Γ t≠ .other→(P.info? t).map (·.size)=some 1){bD:List (Nat×Nat)}{cr:List (Nat×CR)}{ops:List Oper}{vc:List Prop}(h:step P ty Γ bD cr ops st o=some (vc,st'))(iv:Inv ty zb st a w)(hv: ∀q,q∈vc→q):
  mu P ops.toArray o a w (fun a' w'=>Inv ty zb st' a' w') Q:=by
 simp only[step]at h
 split at h
 ·rename_i r hq
  simp only[Option.some.injEq]at h
  subst h
  exact At C hq iv hv
 ·split at h
  ·rename_i m hg hd _
   have Cf:=vS iv hd
   obtain⟨env,g⟩:=iv.good
   have Eu:=iv.kept.size
   split at h
   ·rename_i s1 hs
    split at h
    ·rename_i EU
     simp only[Option.some.injEq,Prod.mk.injEq]at h
     obtain⟨rfl,rfl⟩:=h
     refine eY hg (Oper.wp_mono ?_ (yI (Q:=Q) C Z hs g))
     rintro a' w' ⟨rfl,hb,hg',hn,qo⟩
     rw[EU]
     exact⟨by rw[eX,hn];exact iv.size,by rw[put_defers];exact iv.defers,iv.kept.trans hb,iv.vO,env,hg'⟩
    ·cases h
   ·split at h
    ·rename_i j7 s1 hs
     split at h
     ·rename_i s2 EU hfs
      have hfs:=wq hfs
      subst hfs
      simp only[Option.some.injEq,Prod.mk.injEq]at h
      obtain⟨rfl,rfl⟩:=h
      refine eY hg (Oper.wp_mono ?_ (A0 (Q:=Q) C Z hs g Eu hv))
      rintro a' w' ⟨env',rfl,hb,hg',hn⟩
      rw[EU]
      exact⟨by rw[eX,hn];exact iv.size,by rw[put_defers];exact iv.defers,iv.kept.trans hb,iv.vO,env',hg'⟩
     ·cases h
    ·split at h
     ·rename_i j7 s1 v he
      split at h
      case h_2=>cases h
      rename_i s2 hfs
      have hfs:=wq hfs
      subst hfs
      simp only[Option.some.injEq,Prod.mk.injEq]at h
      obtain⟨rfl,rfl⟩:=h
      obtain⟨rY,hwp⟩:=AZ (Q:=Q) C he g Eu iv.vO (iv.vO.now iv.kept) hv
      refine eY hg (Oper.wp_mono ?_ hwp)
      rintro a' w' ⟨u,env',rfl,hb,hg',hn,hr⟩
      refine⟨by rw[eX,tR,hn];exact iv.size,by rw[put_defers];exact iv.defers,iv.kept.trans hb,iv.vO,env',k9 hg' Cf hr fun d _=>rY d⟩
     ·cases h
  ·cases h
theorem jz{Γ:Nat→TK}{bD:List (Nat×Nat)}{cr:List (Nat×CR)}{ops:List Oper}{r:List Oper}{acc vcs:List Prop}{ke:St}(h:run P ty Γ bD cr ops (o::r) st acc=some (vcs,ke)):
  ∃vc qp,step P ty Γ bD cr ops st o=some (vc,qp)∧run P ty Γ bD cr ops r qp (vc++acc)=some (vcs,ke):=by
 simp only[run]at h
 split at h
 ·rename_i n sl hp hs;exact⟨[],⟨n,sl,hp⟩,hs,h⟩
 ·rename_i p n sl hp hs;exact⟨[p],⟨n,sl,hp⟩,hs,h⟩
 ·rename_i p q n sl hp hs;exact⟨[p,q],⟨n,sl,hp⟩,hs,h⟩
 ·rename_i l n sl hp _ _ _ hs;exact⟨_,⟨n,sl,hp⟩,hs,h⟩
 ·cases h
theorem lC{Γ:Nat→TK}{bD:List (Nat×Nat)}{cr:List (Nat×CR)}{ops:List Oper}: ∀{l:List Oper} {st ke:St} {acc vcs:List Prop},run P ty Γ bD cr ops l st acc=some (vcs,ke)→ ∀q,q∈acc→q∈vcs
 | [],st,ke,acc,vcs,h,q,hq=>by
   simp only[run,Option.some.injEq,Prod.mk.injEq]at h
   rw[←h.1];exact hq
 |o::r,st,ke,acc,vcs,h,q,hq=>by
  obtain⟨vc,qp,_,h2⟩:=jz h
  exact lC h2 q (List.mem_append_right _ hq)
theorem A1{Γ:Nat→TK}(C: ∀t,aQ P t (Γ t))(Z: ∀t,(∀z tg fo,Γ t≠ .st z tg fo)→Γ t≠ .other→(P.info? t).map (·.size)=some 1){bD:List (Nat×Nat)}{cr:List (Nat×CR)}{ops:List Oper}{ke:St}{vcs:List Prop}
  (hQ: ∀a w,Inv ty zb ke a w→Q .normal a w): ∀{l:List Oper} {st:St} {acc:List Prop} {a:Act} {w:World},run P ty Γ bD cr ops l st acc=some (vcs,ke)→(∀q,q∈vcs→q)→Inv ty zb st a w→wpList P ops.toArray Q l a w
 | [],st,acc,a,w,h,hv,iv=>by
   simp only[run,Option.some.injEq,Prod.mk.injEq]at h
   obtain⟨_,rfl⟩:=h
   exact hQ a w iv
 |o::r,st,acc,a,w,h,hv,iv=>by
  obtain⟨vc,qp,h1,h2⟩:=jz h
  have:=sw (Q:=Q) C Z h1 iv (fun q hq=>hv q (lC h2 q (List.mem_append_left _ hq)))
  exact this.mono fun a' w' jA=>A1 C Z hQ h2 hv jA
end
abbrev Post:=Exit→St→Prop
def uw(ty:Tag→Nat)(zb:aY)(Q:Post):Exit→Act→World→Prop:=fun e a w=> ∃st,Inv ty zb st a w∧Q e st
def W(P:Program)(ty:Tag→Nat)(zb:aY)(c:Code)(Q:Post)(st:St):Prop:= ∀a w,Inv ty zb st a w→c.wp P (uw ty zb Q) a w
def Post.then(next:St→Prop)(Q:Post):Post
 | .normal,st=>next st
 |e,st=>Q e st
def Post.inBlock(id:Nat)(Q:Post):Post
 | .exit i,st=>if i=id then Q .normal st else Q (.exit i) st
 |e,st=>Q e st
def pG(sl:List (Nat×SV)):List Nat→Option (List (Nat×SV))
 | []=>some []
 |s::r=>match look sl s with
  |some x=>match fS x,pG sl r with
   |some x,some l=>some ((s,x)::l)
   |_,_=>none
  |none=>none
def pH(hp:Hp):List Nat→Option Hp
 | []=>some []
 |s::r=>match look hp s with
  |some x=>match fO x,pH hp r with
   |some x,some l=>some ((s,x)::l)
   |_,_=>none
  |none=>none
def eH(hp:Hp)(v:V):Bool:=match v.name with|some n=>(match look hp n with|some _=>true|none=>false)|none=>true
def gQ(hp:Hp):S1→Bool
 | .a v=>eH hp v
 | .agg l=>l.all (eH hp)
def xI(hp:Hp):SV→Bool
 | .one x=>gQ hp x
 | .l9 l=>l.all (gQ hp)
 | .cond _ x=>gQ hp x
def lD(hp:Hp):Obj→Bool
 | .box c=>c.all (eH hp)
 | .arr _ _=>true
 | .dh _ _ s=>match s.name with|some n=>(match look hp n with|some _=>true|none=>false)|none=>true
def jB(sl:List (Nat×SV))(hp:Hp):Bool:=(sl.all fun e=>xI hp e.2)&&hp.all fun e=>lD hp e.2
def V.CX(v:V):List Nat:=match v.name with|some n=> [n]|none=> []
def SV.CX:SV→List Nat
 | .one (.a v)=>v.CX
 | .one (.agg l)=>l.flatMap V.CX
 | .l9 l=>l.flatMap fun x=>(match x with| .a v=>v.CX| .agg l=>l.flatMap V.CX)
 | .cond _ (.a v)=>v.CX
 | .cond _ (.agg l)=>l.flatMap V.CX
def wv:Nat→Hp→List Nat→List Nat→List Nat
 |0,_,_,acc=>acc
 |_,_,[],acc=>acc
 |f+1,hp,n::r,acc=>match acc.any (Nat.beq n)with
  |true=>wv f hp r acc
  |false=>wv f hp (match look hp n with|some (.box c)=>c.flatMap V.CX++r|some (.dh _ _ (.of m))=>m::r|_=>r) (acc++ [n])
def sy(sl:List (Nat×SV)):List Nat→List Nat
 | []=> []
 |s::r=>match look sl s with|some x=>x.CX++sy sl r|none=>sy sl r
def A2(sl:List (Nat×SV))(hp:Hp)(ks:List Nat):List Nat→List Nat
 | []=>wv 300 hp (sy sl ks++(hp.map Prod.fst).filter ec) []
 |hs=>hs
def cV(P:Program)(ty:Tag→Nat)(Γ:Nat→TK)(bD:List (Nat×Nat))(cr:List (Nat×CR))(ks hs:List Nat)(ops:List Oper):St→Option (List Prop×St)
 | ⟨n,CY,cR⟩=>match run P ty Γ bD cr ops ops ⟨n,CY,cR⟩ []with
 |some (vc,st')=>match pG st'.sl ks,pH st'.hp (A2 st'.sl st'.hp ks hs)with
  |some sl,some hp=>match jB sl hp,Nat.beq st'.n n with
   |true,true=>some (vc,⟨n,sl,hp⟩)
   |_,_=>none
  |_,_=>none
 |none=>none
theorem gR{sl:List (Nat×SV)}: ∀{ks:List Nat} {l:List (Nat×SV)},pG sl ks=some l→ ∀s v,look l s=some v→look sl s=some v
 | [],l,h,s,v,hl=>by
   simp only[pG,Option.some.injEq]at h
   subst h;cases hl
 |k::r,l,h,s,v,hl=>by
  simp only[pG]at h
  split at h
  ·rename_i x0 h1
   split at h
   ·rename_i x l' hf h2
    simp only[Option.some.injEq]at h
    subst h
    by_cases hs:s=k
    ·subst hs;rw[look_eq]at hl;rw[←hl,AU hf];exact h1
    ·rw[aC hs]at hl;exact gR h2 s v hl
   ·cases h
  ·cases h
theorem gS{hp:Hp}: ∀{ks:List Nat} {l:Hp},pH hp ks=some l→ ∀s v,look l s=some v→look hp s=some v
 | [],l,h,s,v,hl=>by
   simp only[pH,Option.some.injEq]at h
   subst h;cases hl
 |k::r,l,h,s,v,hl=>by
  simp only[pH]at h
  split at h
  ·rename_i x0 h1
   split at h
   ·rename_i x l' hf h2
    simp only[Option.some.injEq]at h
    subst h
    by_cases hs:s=k
    ·subst hs;rw[look_eq]at hl;rw[←hl,DT hf];exact h1
    ·rw[aC hs]at hl;exact gS h2 s v hl
   ·cases h
  ·cases h
theorem jC{hp:Hp}{v:V}(h:eH hp v=true): ∀n,v.name=some n→look hp n≠none:=by
 intro n hn hl
 simp[eH,hn,hl]at h
theorem kf{hp:Hp}{x:S1}(h:gQ hp x=true): ∀v,v∈x.vs→eH hp v=true:=by
 intro v hv
 cases x with
 |a y=>simp only[S1.vs,List.mem_singleton]at hv;subst hv;exact h
 |agg l=>exact List.all_eq_true.1 h v hv
theorem wz{hp:Hp}{x:SV}(h:xI hp x=true): ∀v,v∈x.vs→eH hp v=true:=by
 intro v hv
 cases x with
 |one x=>exact kf h v hv
 |l9 l=>
  simp only[SV.vs,List.mem_flatMap]at hv
  obtain⟨y,hy,hv⟩:=hv
  exact kf (List.all_eq_true.1 h y hy) v hv
 |cond p x=>exact kf h v hv
theorem Good.weaken{zb:aY}{st st':St}{tmps:Array Value}{w:World}{env:Env}(g:Good ty zb st tmps w env)(hs: ∀s v,look st'.sl s=some v→look st.sl s=some v)(hh: ∀n o,look st'.hp n=some o→look st.hp n=some o)
  (Ci: ∀s v,look st'.sl s=some v→ ∀x,x∈v.vs→eH st'.hp x=true)(Az: ∀m o,look st'.hp m=some o→lD st'.hp o=true):Good ty zb st' tmps w env:=by
 have s:Step (fun n=>look st'.hp n≠none) (fun n=>look st'.hp n≠none) w st.hp env w st'.hp env:=by
  refine⟨fun _ _ _=>rfl,?_,?_,?_⟩
  ·rintro b _ ⟨n,o,h1,h2⟩;exact⟨n,o,hh n o h1,h2⟩
  ·intro n o hK h1
   cases hq:look st'.hp n with
   |none=>exact absurd hq hK
   |some o'=>
    have:=hh n o' hq
    rw[h1]at this
    simp only[Option.some.injEq]at this
    subst this
    exact⟨o,rfl,by cases o<;>simp[Obj.like],rfl⟩
  ·intro n t l hK h1
   cases hq:look st'.hp n with
   |none=>exact absurd hq hK
   |some o'=>
    have:=hh n o' hq
    rw[h1]at this
    simp only[Option.some.injEq]at this
    subst this
    exact⟨rfl,rfl,fun _ _=>rfl⟩
 have GI: ∀v,eH st'.hp v=true→v.iI (fun n=>look st'.hp n≠none) (fun n=>look st'.hp n≠none):=fun v h=>⟨fun n hn=>jC h n hn,fun n hn=>jC h n (V.gd hn)⟩
 refine⟨fun n o hl=> ?_,fun n m o o' hne h1 h2=>g.eO n m o o' hne (hh n o h1) (hh m o' h2),fun t v hl=>jG.step s (fun x hx=>GI x (Ci t v hl x hx)) (g.slot t v (hs t v hl)),fun n o hl=>g.dom n o (hh n o hl),g.pins⟩
 refine(g.obj n o (hh n o hl)).step s ?_ (fun _ _=>rfl)
 have hO:=Az n o hl
 cases o with
 |box c=>exact fun v hv=>GI v (List.all_eq_true.1 hO v hv)
 |arr t l=>trivial
 |dh t l r=>
  intro m hm
  simp only[lD,hm]at hO
  intro he
  rw[he]at hO
  cases hO
theorem wA{sl:List (Nat×SV)}{hp:Hp}(h:jB sl hp=true):(∀s v,look sl s=some v→ ∀x,x∈v.vs→eH hp x=true)∧(∀m o,look hp m=some o→lD hp o=true):=by
 simp only[jB,Bool.and_eq_true,List.all_eq_true]at h
 exact⟨fun s v hl=>wz (h.1 _ (bt hl)),fun m o hl=>h.2 _ (bt hl)⟩
theorem Inv.weaken{zb:aY}{st st':St}{a:Act}{w:World}(iv:Inv ty zb st a w)(hn:st'.n=st.n)(hs: ∀s v,look st'.sl s=some v→look st.sl s=some v)(hh: ∀n o,look st'.hp n=some o→look st.hp n=some o)(hc:jB st'.sl st'.hp=true):Inv ty zb st' a w:=by
 obtain⟨env,g⟩:=iv.good
 obtain⟨c1,c2⟩:=wA hc
 exact⟨by rw[iv.size,hn],iv.defers,iv.kept,iv.vO,env,g.weaken hs hh c1 c2⟩
structure Ctx(P:Program)(ty:Tag→Nat)(Γ:Nat→TK):Prop where
 kind: ∀t,aQ P t (Γ t)
 one: ∀t,(∀z tg fo,Γ t≠ .st z tg fo)→Γ t≠ .other→(P.info? t).map (·.size)=some 1
section
variable{P:Program}{Γ:Nat→TK}{zb:aY}{Q:Post}{st:St}
theorem yV{bD:List (Nat×Nat)}{cr:List (Nat×CR)}{ks hs:List Nat}{ops:List Oper}{vc:List Prop}{st':St}(h:cV P ty Γ bD cr ks hs ops st=some (vc,st')): ∃s1,run P ty Γ bD cr ops ops st []=some (vc,s1)∧
  ∀a w,Inv ty zb s1 a w→Inv ty zb st' a w:=by
 obtain⟨n,CY,cR⟩:=st
 simp only[cV]at h
 split at h
 ·rename_i j7 s1 hr
  split at h
  ·rename_i sl hp h1 h2
   split at h
   ·rename_i hc hn
    simp only[Option.some.injEq,Prod.mk.injEq]at h
    obtain⟨rfl,rfl⟩:=h
    exact⟨s1,hr,fun a w iv=>iv.weaken (Nat.eq_of_beq_eq_true hn).symm (gR h1) (gS h2) hc⟩
   ·cases h
  ·cases h
 ·cases h
theorem W.cV(X:Ctx P ty Γ)(bD:List (Nat×Nat))(cr:List (Nat×CR))(ks hs:List Nat){id:Nat}{ops:List Oper}{vc:List Prop}{st':St}(h:cV P ty Γ bD cr ks hs ops st=some (vc,st'))(hv:ah vc)(k:Q .normal st'):W P ty zb (.region id ops.toArray false) Q st:=by
 intro a w iv
 obtain⟨s1,h1,h2⟩:=yV (zb:=zb) h
 exact wp_region_lit (A1 X.kind X.one (fun a w jA=>⟨st',h2 a w jA,k⟩) h1 hv.out iv)
theorem W.r0(X:Ctx P ty Γ)(ks:List Nat){id:Nat}{ops:List Oper}{vc:List Prop}{st':St}(h:G.cV P ty Γ [] [] ks [] ops st=some (vc,st'))(hv:ah vc)(k:Q .normal st'):W P ty zb (.region id ops.toArray false) Q st:=W.cV X [] [] ks [] h hv k
theorem W.seq{x y:Code}(h:W P ty zb x (Post.then (W P ty zb y Q) Q) st):W P ty zb (.seq x y) Q st:=by
 intro a w iv
 refine wp_seq (wp_mono (h a w iv) ?_)
 rintro e a' w' ⟨st',jA,hq⟩
 cases e with
 |normal=>exact hq a' w' jA
 |_=>exact⟨st',jA,hq⟩
theorem W.sr(X:Ctx P ty Γ)(bD:List (Nat×Nat))(cr:List (Nat×CR))(ks hs:List Nat){y:Code}{id:Nat}{ops:List Oper}{vc:List Prop}{st':St}(h:G.cV P ty Γ bD cr ks hs ops st=some (vc,st'))(hv:ah vc)(k:W P ty zb y Q st'):W P ty zb (.seq (.region id ops.toArray false) y) Q st:=W.seq (W.cV X bD cr ks hs h hv k)
theorem W.s0(X:Ctx P ty Γ)(ks:List Nat){y:Code}{id:Nat}{ops:List Oper}{vc:List Prop}{st':St}(h:G.cV P ty Γ [] [] ks [] ops st=some (vc,st'))(hv:ah vc)(k:W P ty zb y Q st'):W P ty zb (.seq (.region id ops.toArray false) y) Q st:=W.sr X [] [] ks [] h hv k
theorem W.skip(h:Q .normal st):W P ty zb .skip Q st:=fun _ _ iv=>wp_skip ⟨st,iv,h⟩
theorem W.exit{id:Nat}(h:Q (.exit id) st):W P ty zb (.exit id) Q st:=fun _ _ iv=>wp_exit ⟨st,iv,h⟩
theorem W.ret(h:Q .ret st):W P ty zb .ret Q st:=fun _ _ iv=>wp_ret ⟨st,iv,h⟩
theorem W.block{id:Nat}{c:Code}(h:W P ty zb c (Post.inBlock id Q) st):W P ty zb (.block id c) Q st:=by
 intro a w iv
 refine wp_block (wp_mono (h a w iv) ?_)
 rintro e a' w' ⟨st',jA,hq⟩
 cases e with
 |exit i=>
  simp only[Post.inBlock]at hq
  simp only[Exit.inBlock]
  split
  ·rename_i hi;rw[if_pos hi]at hq;exact⟨st',jA,hq⟩
  ·rename_i hi;rw[if_neg hi]at hq;exact⟨st',jA,hq⟩
 |_=>exact⟨st',jA,hq⟩
theorem W.cond{c:Operand}{x y:Code}{b:Bool}(hc:cC st [] c=some (.a (.lit (.bool b))))(h1:b=true→W P ty zb x Q st)(h2:b=false→W P ty zb y Q st):W P ty zb (.cond c x y) Q st:=by
 intro a w iv
 obtain⟨env,g⟩:=iv.good
 have:=(bX g (fun e he=>by simp at he) hc).lit
 exact wp_cond_split this (fun hb=>h1 hb a w iv) (fun hb=>h2 hb a w iv)
theorem W.loop{ι:Type}(p:ι→Prop)(I:ι→St)(μ:ι→Nat)(i:ι){c:Code}(hp:p i)(h0: ∀a w,Inv ty zb st a w→Inv ty zb (I i) a w)
  (round: ∀i,p i→W P ty zb c (Post.then (fun st'=> ∃j,p j∧μ j<μ i∧ ∀a w,Inv ty zb st' a w→Inv ty zb (I j) a w) Q) (I i)):W P ty zb (.loop c) Q st:=by
 intro a w iv b k cs
 have key: ∀n i a w,μ i=n→p i→Inv ty zb (I i) a w→ ∃e a' w',uw ty zb Q e a' w'∧Arrives P (lone (b.at a (.code c:: .inLoop c::k)) cs w) b k cs e a' w':=by
  intro n
  induction n using Nat.strongRecOn with
  |_ n ih=>
   intro i a w hn hpi iv
   obtain⟨e,a₁,w₁,⟨st',jA,hq⟩,ux⟩:=round i hpi a w iv b (.inLoop c::k) cs
   cases e with
   |normal=>
    obtain⟨j,GJ,hlt,hj⟩:=hq
    obtain⟨e₂,a₂,w₂,JX,GK⟩:=ih (μ j) (hn▸hlt) j a₁ w₁ rfl GJ (hj _ _ jA)
    exact⟨e₂,a₂,w₂,JX, .of_steps (Steps.trans ux (.one step_inLoop)) GK⟩
   |exit id=>exact⟨_,a₁,w₁,⟨st',jA,hq⟩, .pass (x:= .inLoop c) rfl (fun _ _=> .inl (by simp)) ux⟩
   |goto l=>exact⟨_,a₁,w₁,⟨st',jA,hq⟩, .pass (x:= .inLoop c) rfl (fun _ _=> .inl (by simp)) ux⟩
   |ret=>exact⟨_,a₁,w₁,⟨st',jA,hq⟩, .pass (x:= .inLoop c) rfl (fun _ _=> .inl (by simp)) ux⟩
   |panic ch=>exact⟨_,a₁,w₁,⟨st',jA,hq⟩, .pass (x:= .inLoop c) rfl (fun _ _=> .inl (by simp)) ux⟩
   |outgrown=>exact⟨_,a₁,w₁,⟨st',jA,hq⟩, .pass (x:= .inLoop c) rfl (fun _ _=> .inl (by simp)) ux⟩
 obtain⟨e,a',w',hq,ux⟩:=key _ i a w rfl hp (h0 a w iv)
 exact⟨e,a',w',hq, .of_steps (.one step_loop) ux⟩
def DV:List (Nat×SV)→List (Nat×SV)→Option (List (Nat×SV))
 | [],_=>some []
 | (s,x)::r,ov=>match fS (match look ov s with|some y=>y|none=>x),DV r ov with
   |some x,some l=>some ((s,x)::l)
   |_,_=>none
def DW:Hp→Hp→Option Hp
 | [],_=>some []
 | (s,x)::r,ov=>match fO (match look ov s with|some y=>y|none=>x),DW r ov with
   |some x,some l=>some ((s,x)::l)
   |_,_=>none
def over:St→List (Nat×SV)→Hp→Option St
 | ⟨n,sl,hp⟩,ov,oh=>match DV sl ov,DW hp oh with
   |some sl,some hp=>some ⟨n,sl,hp⟩
   |_,_=>none
theorem W.aV{ι:Type}(p:ι→Prop)(ov:ι→List (Nat×SV))(oh:ι→Hp)(μ:ι→Nat)(i:ι){c:Code}{I:ι→St}(KH: ∀k,over st (ov k) (oh k)=some (I k))(hp:p i)(h0:I i=st)
  (round: ∀i,p i→W P ty zb c (Post.then (fun st'=> ∃j,p j∧μ j<μ i∧st'=I j) Q) (I i)):W P ty zb (.loop c) Q st:=by
 refine W.loop p I μ i hp (fun a w iv=>by rw[h0];exact iv) fun i hi=> ?_
 intro a w iv
 refine wp_mono (round i hi a w iv) ?_
 rintro e a' w' ⟨st',jA,hq⟩
 cases e with
 |normal=>
  obtain⟨j,h1,h2,rfl⟩:=hq
  exact⟨_,jA,j,h1,h2,fun a w h=>h⟩
 |_=>exact⟨st',jA,hq⟩
end
end
section
variable{ty:Tag→Nat}
def enter:Nat→List S1→List (Nat×SV)
 |_,[]=> []
 |i,x::r=>(i, .one x)::enter (i+1) r
def yW(Γ:Nat→TK)(st:St):ResultVar→Option S1
 | .tmp t=>match look st.sl t with|some (.one x)=>some x|_=>none
 | .cell p t=>match look st.sl p with
   |some (.one (.a (.ptr n 0)))=>match look st.hp n,Γ t with
    |some (.box c), .st z _ _=>match Nat.beq c.length z.length with|true=>some (.agg c)|false=>none
    |_,_=>none
   |_=>none
def iQ(Γ:Nat→TK)(st:St):List ResultVar→Option (List S1)
 | []=>some []
 |r::rs=>match yW Γ st r,iQ Γ st rs with|some x,some xs=>some (x::xs)|_,_=>none
def A3(st:St):V→V→Option (List Prop×List Nat)
 | .lit v, .lit u=>some ([v=u],[])
 | .lit (.slice none 0 0), .sl _ l=>some ([l= []],[])
 | .own n, .sl t l=>match look st.hp n,soft n with
   |some (.arr t' l'),false=>match cB t t' l' with
    |some l2=>some ([l2=l],[n])
    |none=>none
   |_,_=>none
 | .lit (.slice none 0 0), .vw _ _ _ l=>some ([l= []],[])
 | .own n, .vw _ _ t l=>match look st.hp n with
   |some (.arr t' l')=>match cB t t' l' with
    |some l2=>some ([l2=l],[n])
    |none=>none
   |_=>none
 | .vw n _ t' l', .vw _ _ t l=>match cB t t' l' with
   |some l2=>some ([l2=l],[n])
   |none=>none
 |_,_=>none
def meet(st:St):List V→List V→Option (List Prop×List Nat)
 | [],[]=>some ([],[])
 |x::r,y::s=>match A3 st x y,meet st r s with
  |some (vc,k),some (vcs,ks)=>some (fQ vc vcs,fQ k ks)
  |_,_=>none
 |_,_=>none
def xJ(st:St):S1→S1→Option (List Prop×List Nat)
 | .a v, .a u=>meet st [v] [u]
 | .agg l, .agg m=>meet st l m
 |_,_=>none
def meets(st:St):List S1→List S1→Option (List Prop×List Nat)
 | [],[]=>some ([],[])
 |x::r,y::s=>match xJ st x y,meets st r s with
  |some (vc,k),some (vcs,ks)=>some (fQ vc vcs,fQ k ks)
  |_,_=>none
 |_,_=>none
def ends(Γ:Nat→TK)(st:St)(ir:List ResultVar)(rs:List S1):Option (List Prop):=
 match iQ Γ st ir with
 |some xs=>match meets st xs rs with
  |some (vc,k)=>match gN k with|true=>some vc|false=>none
  |none=>none
 |none=>none
def Fin(Γ:Nat→TK)(ir:List ResultVar)(rs:List S1):Post:=fun e st=>(e= .ret∨e= .normal)∧ ∃vc,ends Γ st ir rs=some vc∧ah vc
theorem Fin.ret{Γ:Nat→TK}{ir:List ResultVar}{rs:List S1}{st:St}{vc:List Prop}(h:ends Γ st ir rs=some vc)(hv:ah vc):Fin Γ ir rs .ret st:=⟨.inl rfl,vc,h,hv⟩
theorem Fin.normal{Γ:Nat→TK}{ir:List ResultVar}{rs:List S1}{st:St}{vc:List Prop}(h:ends Γ st ir rs=some vc)(hv:ah vc):Fin Γ ir rs .normal st:=⟨.inr rfl,vc,h,hv⟩
theorem dy.lift{α:Type}{k:Nat}{E:ER α}{lo e:Nat}{w:World}{v:Value}{l:List α}{fp:List Nat}(h:dy k E 0 e w v l fp)(hl: ∀b,b∈fp→lo≤b):dy k E lo e w v l fp:=by
 obtain⟨xs,az,hown,hf,he,rfl,ho⟩:=h
 refine⟨xs,az,⟨hown.1,?_⟩,hf,he,rfl,⟨ho.nodup,hl,ho.kind⟩⟩
 rcases hown.2 with h| ⟨g,cap,cur,rfl,D9,r⟩
 ·exact Or.inl h
 ·exact Or.inr ⟨g,cap,cur,rfl,hl g (by simp[Value.ownBlock]),r⟩
section
variable{P:Program}{zb:aY}{st:St}{a:Act}{w:World}{env:Env}
theorem jU{Γ:Nat→TK}(C: ∀t,aQ P t (Γ t))(g:Good ty zb st a.tmps w env){r:ResultVar}{x:S1}(h:yW Γ st r=some x):
  ∃u,cz w st.hp env x u∧(match r with| .tmp t=>a.tmps.getD t undef=u| .cell p t=> ∃ad,a.tmps.getD p undef= .pointer (some ad)∧(loadVar t ad).run P w= .ok u w):=by
 cases r with
 |tmp t=>
  simp only[yW]at h
  split at h
  ·rename_i y hl
   simp only[Option.some.injEq]at h
   subst h
   exact⟨_,g.slot t _ hl,rfl⟩
  ·cases h
 |cell p t=>
  simp only[yW]at h
  split at h
  ·rename_i n hl
   split at h
   ·rename_i c z tg fo hb hk
    split at h
    ·rename_i hlen
     have hlen:=Nat.eq_of_beq_eq_true hlen
     simp only[Option.some.injEq]at h
     subst h
     obtain⟨_,b,hv,hu⟩:=g.slot p _ hl
     obtain⟨b',cs,e,tQ,hh,hc⟩:=g.obj n _ hb
     have F5:b=b':=by rw[tQ]at hv;simpa using hv.symm
     subst F5
     have hC:=C t
     rw[hk]at hC
     obtain⟨fs,Ce,hi,_⟩:=hC
     have hi':(P.info? t).map (·.size)=some cs.length:=by
      rw[hc.len,hlen]
      cases hq:P.info? t with
      |none=>simp[hq]at hi
      |some i=>simp[hq]at hi;simp[hi.1]
     refine⟨.agg cs.toArray,⟨cs,rfl,hc⟩,?_⟩
     have nB:w.rangeAt b 0 cs:=by simpa using zU hh
     exact⟨_,hu,run_loadVar_mid w b 0 t cs _ nB Ce rfl hi'⟩
    ·cases h
   ·cases h
  ·cases h
theorem xK(g:Good ty zb st a.tmps w env){k1 k2:List Nat}{f1 f2:List Nat}(hnd:(k1++k2).Nodup)(p2:Own zb.w.heap.size w f1)(p3: ∀b,b∈f1→ ∃i o,i∈k1∧look st.hp i=some o∧b∈(env i).fp)(q2:Own zb.w.heap.size w f2)(q3: ∀b,b∈f2→ ∃i o,i∈k2∧look st.hp i=some o∧b∈(env i).fp):
  Own zb.w.heap.size w (f1++f2)∧ ∀b,b∈f1++f2→ ∃i o,i∈k1++k2∧look st.hp i=some o∧b∈(env i).fp:=by
 obtain⟨n1,n2,n3⟩:=List.nodup_append.1 hnd
 refine⟨⟨List.nodup_append.2 ⟨p2.nodup,q2.nodup,?_⟩,fun b hb=> ?_,fun b hb=> ?_⟩,fun b hb=> ?_⟩
 ·rintro b hb z hz rfl
  obtain⟨n,o1,h1,h2,h3⟩:=p3 b hb
  obtain⟨m,o2,h4,h5,h6⟩:=q3 b hz
  exact g.eO n m _ _ (fun e=>n3 n h1 m h4 e) h2 h5 b h3 h6
 ·rcases List.mem_append.1 hb with hb|hb
  ·exact p2.ge b hb
  ·exact q2.ge b hb
 ·rcases List.mem_append.1 hb with hb|hb
  ·exact p2.kind b hb
  ·exact q2.kind b hb
 ·rcases List.mem_append.1 hb with hb|hb
  ·obtain⟨n,o1,h1,h2,h3⟩:=p3 b hb;exact⟨n,o1,List.mem_append_left _ h1,h2,h3⟩
  ·obtain⟨n,o1,h1,h2,h3⟩:=q3 b hb;exact⟨n,o1,List.mem_append_right _ h1,h2,h3⟩
theorem A4(hL:zb.L= [])(g:Good ty zb st a.tmps w env){x y:V}{u:Value}{vc:List Prop}{k:List Nat}(hr:RA w st.hp env x u)(h:A3 st x y=some (vc,k))(hv: ∀q,q∈vc→q):
  ∃fp,RB ty w zb.w.heap.size y u fp∧Own zb.w.heap.size w fp∧ ∀b,b∈fp→ ∃i o,i∈k∧look st.hp i=some o∧b∈(env i).fp:=by
 unfold A3 at h
 split at h
 ·simp only[Option.some.injEq,Prod.mk.injEq]at h
  obtain⟨rfl,rfl⟩:=h
  have hl:=hv _ (List.mem_singleton.2 rfl)
  obtain⟨rfl,ho⟩:=hr
  exact⟨[],⟨hl,hl▸ho,rfl⟩,Own.nil _ _,by simp⟩
 ·simp only[Option.some.injEq,Prod.mk.injEq]at h
  obtain⟨rfl,rfl⟩:=h
  have hl:=hv _ (List.mem_singleton.2 rfl)
  subst hl
  obtain⟨rfl,ho⟩:=hr
  exact⟨[],dy.nil _ _ _ _ _,Own.nil _ _,by simp⟩
 ·rename_i n t l
  split at h
  ·rename_i t' l' hl tX
   split at h
   ·rename_i l2 hc
    simp only[Option.some.injEq,Prod.mk.injEq]at h
    obtain⟨rfl,rfl⟩:=h
    have nR:=hv _ (List.mem_singleton.2 rfl)
    subst nR
    obtain⟨e,rfl⟩:=bk hc
    subst e
    obtain⟨_,rfl⟩:=hr
    have hb:=dy.lift (RO.Ab tX (g.obj n _ hl)) (lo:=zb.w.heap.size) (fun b hb=>by
     rcases g.dom n _ hl b hb with h|h
     ·rw[hL]at h;cases h
     ·exact h)
    exact⟨(env n).fp,hb,hb.own,fun b hb=>⟨n,_,by simp,hl,hb⟩⟩
   ·cases h
  ·cases h
 ·simp only[Option.some.injEq,Prod.mk.injEq]at h
  obtain⟨rfl,rfl⟩:=h
  have hl:=hv _ (List.mem_singleton.2 rfl)
  subst hl
  obtain⟨rfl,ho⟩:=hr
  exact⟨[],⟨dy.sl (dy.nil _ _ 0 0 _),Own.nil _ _⟩,Own.nil _ _,by simp⟩
 ·rename_i n _ _ t l
  split at h
  ·rename_i t' l' hl
   split at h
   ·rename_i l2 hc
    simp only[Option.some.injEq,Prod.mk.injEq]at h
    obtain⟨rfl,rfl⟩:=h
    have nR:=hv _ (List.mem_singleton.2 rfl)
    subst nR
    obtain⟨e,rfl⟩:=bk hc
    subst e
    obtain⟨_,rfl⟩:=hr
    have hs:=RO.sl (g.obj n _ hl)
    have Hs:=RO.own (g.obj n _ hl)
    have ho:Own zb.w.heap.size w (env n).fp:=⟨Hs.nodup,fun b hb=>by
     rcases g.dom n _ hl b hb with h|h
     ·rw[hL]at h;cases h
     ·exact h,Hs.kind⟩
    exact⟨(env n).fp,⟨hs,ho⟩,ho,fun b hb=>⟨n,_,by simp,hl,hb⟩⟩
   ·cases h
  ·cases h
 ·rename_i n _ t' l' _ _ t l
  split at h
  ·rename_i l2 hc
   simp only[Option.some.injEq,Prod.mk.injEq]at h
   obtain⟨rfl,rfl⟩:=h
   have nR:=hv _ (List.mem_singleton.2 rfl)
   subst nR
   obtain⟨e,rfl⟩:=bk hc
   subst e
   obtain⟨⟨t0,l0,hl⟩,⟨fp,hs,hnd,hsub⟩,_⟩:=hr
   have Hs:=RO.own (g.obj n _ hl)
   have ho:Own zb.w.heap.size w fp:=⟨hnd,fun b hb=>by
    rcases g.dom n _ hl b (hsub b hb)with h|h
    ·rw[hL]at h;cases h
    ·exact h,fun b hb=>Hs.kind b (hsub b hb)⟩
   exact⟨fp,⟨hs,ho⟩,ho,fun b hb=>⟨n,_,by simp,hl,hsub b hb⟩⟩
  ·cases h
 ·cases h
theorem sA(hL:zb.L= [])(g:Good ty zb st a.tmps w env): ∀{xs ys:List V} {us:List Value} {vc:List Prop} {k:List Nat},aD (RA w st.hp env) xs us→meet st xs ys=some (vc,k)→k.Nodup→(∀q,q∈vc→q)→
  ∃fp,Af ty w zb.w.heap.size ys us fp∧Own zb.w.heap.size w fp∧ ∀b,b∈fp→ ∃i o,i∈k∧look st.hp i=some o∧b∈(env i).fp
 | [],ys,us,vc,k,hr,h,hnd,hv=>by
   cases ys with
   |nil=>
    simp only[meet,Option.some.injEq,Prod.mk.injEq]at h
    obtain⟨rfl,rfl⟩:=h
    cases us with
    |nil=>exact⟨[],rfl,Own.nil _ _,by simp⟩
    |cons _ _=>exact hr.elim
   |cons y ys=>simp[meet]at h
 |x::r,ys,us,vc,k,hr,h,hnd,hv=>by
  cases us with
  |nil=>exact hr.elim
  |cons u us=>
   cases ys with
   |nil=>simp[meet]at h
   |cons y s=>
    simp only[meet]at h
    split at h
    ·rename_i j7 k1 EL k2 h1 h2
     simp only[Option.some.injEq,Prod.mk.injEq,bN]at h
     obtain⟨rfl,rfl⟩:=h
     obtain⟨n1,n2,n3⟩:=List.nodup_append.1 hnd
     obtain⟨f1,p1,p2,p3⟩:=A4 hL g hr.1 h1 (fun q hq=>hv q (List.mem_append_left _ hq))
     obtain⟨f2,q1,q2,q3⟩:=sA hL g hr.2 h2 n2 (fun q hq=>hv q (List.mem_append_right _ hq))
     obtain⟨r1,r2⟩:=xK g hnd p2 p3 q2 q3
     exact⟨f1++f2,⟨_,_,p1,q1,rfl⟩,r1,r2⟩
    ·cases h
theorem A5(hL:zb.L= [])(g:Good ty zb st a.tmps w env){x y:S1}{u:Value}{vc:List Prop}{k:List Nat}(hr:cz w st.hp env x u)(h:xJ st x y=some (vc,k))(hnd:k.Nodup)(hv: ∀q,q∈vc→q):
  ∃fp,DK ty w zb.w.heap.size y u fp∧Own zb.w.heap.size w fp∧ ∀b,b∈fp→ ∃i o,i∈k∧look st.hp i=some o∧b∈(env i).fp:=by
 cases x with
 |a v=>
  cases y with
  |a v'=>exact sA hL g (xs:= [v]) (us:= [u]) ⟨hr,trivial⟩ h hnd hv
  |agg _=>simp[xJ]at h
 |agg l=>
  cases y with
  |a v'=>simp[xJ]at h
  |agg m=>
   obtain⟨cs,rfl,hl⟩:=hr
   obtain⟨fp,h1,h2,h3⟩:=sA hL g hl h hnd hv
   exact⟨fp,⟨cs,rfl,h1⟩,h2,h3⟩
theorem uy(hL:zb.L= [])(g:Good ty zb st a.tmps w env): ∀{xs ys:List S1} {us:List Value} {vc:List Prop} {k:List Nat},aD (cz w st.hp env) xs us→meets st xs ys=some (vc,k)→k.Nodup→(∀q,q∈vc→q)→
  ∃fp,Cb ty w zb.w.heap.size ys us fp∧Own zb.w.heap.size w fp∧ ∀b,b∈fp→ ∃i o,i∈k∧look st.hp i=some o∧b∈(env i).fp
 | [],ys,us,vc,k,hr,h,hnd,hv=>by
   cases ys with
   |nil=>
    simp only[meets,Option.some.injEq,Prod.mk.injEq]at h
    obtain⟨rfl,rfl⟩:=h
    cases us with
    |nil=>exact⟨[],rfl,Own.nil _ _,by simp⟩
    |cons _ _=>exact hr.elim
   |cons y ys=>simp[meets]at h
 |x::r,ys,us,vc,k,hr,h,hnd,hv=>by
  cases us with
  |nil=>exact hr.elim
  |cons u us=>
   cases ys with
   |nil=>simp[meets]at h
   |cons y s=>
    simp only[meets]at h
    split at h
    ·rename_i j7 k1 EL k2 h1 h2
     simp only[Option.some.injEq,Prod.mk.injEq,bN]at h
     obtain⟨rfl,rfl⟩:=h
     obtain⟨n1,n2,n3⟩:=List.nodup_append.1 hnd
     obtain⟨f1,p1,p2,p3⟩:=A5 hL g hr.1 h1 n1 (fun q hq=>hv q (List.mem_append_left _ hq))
     obtain⟨f2,q1,q2,q3⟩:=uy hL g hr.2 h2 n2 (fun q hq=>hv q (List.mem_append_right _ hq))
     obtain⟨r1,r2⟩:=xK g hnd p2 p3 q2 q3
     exact⟨f1++f2,⟨_,_,p1,q1,rfl⟩,r1,r2⟩
    ·cases h
theorem pI{Γ:Nat→TK}(C: ∀t,aQ P t (Γ t))(g:Good ty zb st a.tmps w env){fn:Func}{ir:List ResultVar}(hf:fn.results=ir.toArray){xs:List S1}(h:iQ Γ st ir=some xs)(hl:ir.length≤4):
  ∃us,aD (cz w st.hp env) xs us∧us.length=ir.length∧(results fn a.tmps).run P w= .ok (match us with| [u]=>u|us=> .tuple us.toArray) w:=by
 have one: ∀{r:ResultVar} {rs:List ResultVar} {xs:List S1},iQ Γ st (r::rs)=some xs→ ∃y ys,xs=y::ys∧yW Γ st r=some y∧iQ Γ st rs=some ys:=by
  intro r rs xs h
  simp only[iQ]at h
  split at h
  ·rename_i y ys h1 h2
   simp only[Option.some.injEq]at h
   exact⟨y,ys,h.symm,h1,h2⟩
  ·cases h
 have nil: ∀{xs:List S1},iQ Γ st []=some xs→xs= []:=by
  intro xs h
  simp only[iQ,Option.some.injEq]at h
  exact h.symm
 match ir,hf,h,hl with
 | [],hf,h,_=>
   rw[nil h]
   exact⟨[],trivial,rfl,by simp[results,hf]⟩
 | [r1],hf,h,_=>
   obtain⟨y1,ys,rfl,h1,h⟩:=one h
   rw[nil h]
   obtain⟨u1,k1,e1⟩:=jU C g h1
   refine⟨[u1],⟨k1,trivial⟩,rfl,?_⟩
   cases r1
   ·have e1:a.tmps.getD _ undef=u1:=e1
    rw[Array.getD_eq_getD_getElem?]at e1
    simp[results,hf,asAddr,e1]
   ·obtain⟨_,p1,e1⟩:=e1
    rw[Array.getD_eq_getD_getElem?]at p1
    simp[results,hf,asAddr,e1,p1]
 | [r1,r2],hf,h,_=>
   obtain⟨y1,ys,rfl,h1,h⟩:=one h
   obtain⟨y2,ys,rfl,h2,h⟩:=one h
   rw[nil h]
   obtain⟨u1,k1,e1⟩:=jU C g h1
   obtain⟨u2,k2,e2⟩:=jU C g h2
   refine⟨[u1,u2],⟨k1,k2,trivial⟩,rfl,?_⟩
   cases r1<;>cases r2
   ·have e1:a.tmps.getD _ undef=u1:=e1
    rw[Array.getD_eq_getD_getElem?]at e1
    have e2:a.tmps.getD _ undef=u2:=e2
    rw[Array.getD_eq_getD_getElem?]at e2
    simp[results,hf,asAddr,e1,e2]
   ·have e1:a.tmps.getD _ undef=u1:=e1
    rw[Array.getD_eq_getD_getElem?]at e1
    obtain⟨_,p2,e2⟩:=e2
    rw[Array.getD_eq_getD_getElem?]at p2
    simp[results,hf,asAddr,e1,e2,p2]
   ·obtain⟨_,p1,e1⟩:=e1
    rw[Array.getD_eq_getD_getElem?]at p1
    have e2:a.tmps.getD _ undef=u2:=e2
    rw[Array.getD_eq_getD_getElem?]at e2
    simp[results,hf,asAddr,e1,e2,p1]
   ·obtain⟨_,p1,e1⟩:=e1
    rw[Array.getD_eq_getD_getElem?]at p1
    obtain⟨_,p2,e2⟩:=e2
    rw[Array.getD_eq_getD_getElem?]at p2
    simp[results,hf,asAddr,e1,e2,p1,p2]
 | [r1,r2,r3],hf,h,_=>
   obtain⟨y1,ys,rfl,h1,h⟩:=one h
   obtain⟨y2,ys,rfl,h2,h⟩:=one h
   obtain⟨y3,ys,rfl,h3,h⟩:=one h
   rw[nil h]
   obtain⟨u1,k1,e1⟩:=jU C g h1
   obtain⟨u2,k2,e2⟩:=jU C g h2
   obtain⟨u3,k3,e3⟩:=jU C g h3
   refine⟨[u1,u2,u3],⟨k1,k2,k3,trivial⟩,rfl,?_⟩
   cases r1<;>cases r2<;>cases r3
   ·have e1:a.tmps.getD _ undef=u1:=e1
    rw[Array.getD_eq_getD_getElem?]at e1
    have e2:a.tmps.getD _ undef=u2:=e2
    rw[Array.getD_eq_getD_getElem?]at e2
    have e3:a.tmps.getD _ undef=u3:=e3
    rw[Array.getD_eq_getD_getElem?]at e3
    simp[results,hf,asAddr,e1,e2,e3]
   ·have e1:a.tmps.getD _ undef=u1:=e1
    rw[Array.getD_eq_getD_getElem?]at e1
    have e2:a.tmps.getD _ undef=u2:=e2
    rw[Array.getD_eq_getD_getElem?]at e2
    obtain⟨_,p3,e3⟩:=e3
    rw[Array.getD_eq_getD_getElem?]at p3
    simp[results,hf,asAddr,e1,e2,e3,p3]
   ·have e1:a.tmps.getD _ undef=u1:=e1
    rw[Array.getD_eq_getD_getElem?]at e1
    obtain⟨_,p2,e2⟩:=e2
    rw[Array.getD_eq_getD_getElem?]at p2
    have e3:a.tmps.getD _ undef=u3:=e3
    rw[Array.getD_eq_getD_getElem?]at e3
    simp[results,hf,asAddr,e1,e2,e3,p2]
   ·have e1:a.tmps.getD _ undef=u1:=e1
    rw[Array.getD_eq_getD_getElem?]at e1
    obtain⟨_,p2,e2⟩:=e2
    rw[Array.getD_eq_getD_getElem?]at p2
    obtain⟨_,p3,e3⟩:=e3
    rw[Array.getD_eq_getD_getElem?]at p3
    simp[results,hf,asAddr,e1,e2,e3,p2,p3]
   ·obtain⟨_,p1,e1⟩:=e1
    rw[Array.getD_eq_getD_getElem?]at p1
    have e2:a.tmps.getD _ undef=u2:=e2
    rw[Array.getD_eq_getD_getElem?]at e2
    have e3:a.tmps.getD _ undef=u3:=e3
    rw[Array.getD_eq_getD_getElem?]at e3
    simp[results,hf,asAddr,e1,e2,e3,p1]
   ·obtain⟨_,p1,e1⟩:=e1
    rw[Array.getD_eq_getD_getElem?]at p1
    have e2:a.tmps.getD _ undef=u2:=e2
    rw[Array.getD_eq_getD_getElem?]at e2
    obtain⟨_,p3,e3⟩:=e3
    rw[Array.getD_eq_getD_getElem?]at p3
    simp[results,hf,asAddr,e1,e2,e3,p1,p3]
   ·obtain⟨_,p1,e1⟩:=e1
    rw[Array.getD_eq_getD_getElem?]at p1
    obtain⟨_,p2,e2⟩:=e2
    rw[Array.getD_eq_getD_getElem?]at p2
    have e3:a.tmps.getD _ undef=u3:=e3
    rw[Array.getD_eq_getD_getElem?]at e3
    simp[results,hf,asAddr,e1,e2,e3,p1,p2]
   ·obtain⟨_,p1,e1⟩:=e1
    rw[Array.getD_eq_getD_getElem?]at p1
    obtain⟨_,p2,e2⟩:=e2
    rw[Array.getD_eq_getD_getElem?]at p2
    obtain⟨_,p3,e3⟩:=e3
    rw[Array.getD_eq_getD_getElem?]at p3
    simp[results,hf,asAddr,e1,e2,e3,p1,p2,p3]
 | [r1,r2,r3,r4],hf,h,_=>
   obtain⟨y1,ys,rfl,h1,h⟩:=one h
   obtain⟨y2,ys,rfl,h2,h⟩:=one h
   obtain⟨y3,ys,rfl,h3,h⟩:=one h
   obtain⟨y4,ys,rfl,h4,h⟩:=one h
   rw[nil h]
   obtain⟨u1,k1,e1⟩:=jU C g h1
   obtain⟨u2,k2,e2⟩:=jU C g h2
   obtain⟨u3,k3,e3⟩:=jU C g h3
   obtain⟨u4,k4,e4⟩:=jU C g h4
   refine⟨[u1,u2,u3,u4],⟨k1,k2,k3,k4,trivial⟩,rfl,?_⟩
   cases r1<;>cases r2<;>cases r3<;>cases r4
   ·have e1:a.tmps.getD _ undef=u1:=e1
    rw[Array.getD_eq_getD_getElem?]at e1
    have e2:a.tmps.getD _ undef=u2:=e2
    rw[Array.getD_eq_getD_getElem?]at e2
    have e3:a.tmps.getD _ undef=u3:=e3
    rw[Array.getD_eq_getD_getElem?]at e3
    have e4:a.tmps.getD _ undef=u4:=e4
    rw[Array.getD_eq_getD_getElem?]at e4
    simp[results,hf,asAddr,e1,e2,e3,e4]
   ·have e1:a.tmps.getD _ undef=u1:=e1
    rw[Array.getD_eq_getD_getElem?]at e1
    have e2:a.tmps.getD _ undef=u2:=e2
    rw[Array.getD_eq_getD_getElem?]at e2
    have e3:a.tmps.getD _ undef=u3:=e3
    rw[Array.getD_eq_getD_getElem?]at e3
    obtain⟨_,p4,e4⟩:=e4
    rw[Array.getD_eq_getD_getElem?]at p4
    simp[results,hf,asAddr,e1,e2,e3,e4,p4]
   ·have e1:a.tmps.getD _ undef=u1:=e1
    rw[Array.getD_eq_getD_getElem?]at e1
    have e2:a.tmps.getD _ undef=u2:=e2
    rw[Array.getD_eq_getD_getElem?]at e2
    obtain⟨_,p3,e3⟩:=e3
    rw[Array.getD_eq_getD_getElem?]at p3
    have e4:a.tmps.getD _ undef=u4:=e4
    rw[Array.getD_eq_getD_getElem?]at e4
    simp[results,hf,asAddr,e1,e2,e3,e4,p3]
   ·have e1:a.tmps.getD _ undef=u1:=e1
    rw[Array.getD_eq_getD_getElem?]at e1
    have e2:a.tmps.getD _ undef=u2:=e2
    rw[Array.getD_eq_getD_getElem?]at e2
    obtain⟨_,p3,e3⟩:=e3
    rw[Array.getD_eq_getD_getElem?]at p3
    obtain⟨_,p4,e4⟩:=e4
    rw[Array.getD_eq_getD_getElem?]at p4
    simp[results,hf,asAddr,e1,e2,e3,e4,p3,p4]
   ·have e1:a.tmps.getD _ undef=u1:=e1
    rw[Array.getD_eq_getD_getElem?]at e1
    obtain⟨_,p2,e2⟩:=e2
    rw[Array.getD_eq_getD_getElem?]at p2
    have e3:a.tmps.getD _ undef=u3:=e3
    rw[Array.getD_eq_getD_getElem?]at e3
    have e4:a.tmps.getD _ undef=u4:=e4
    rw[Array.getD_eq_getD_getElem?]at e4
    simp[results,hf,asAddr,e1,e2,e3,e4,p2]
   ·have e1:a.tmps.getD _ undef=u1:=e1
    rw[Array.getD_eq_getD_getElem?]at e1
    obtain⟨_,p2,e2⟩:=e2
    rw[Array.getD_eq_getD_getElem?]at p2
    have e3:a.tmps.getD _ undef=u3:=e3
    rw[Array.getD_eq_getD_getElem?]at e3
    obtain⟨_,p4,e4⟩:=e4
    rw[Array.getD_eq_getD_getElem?]at p4
    simp[results,hf,asAddr,e1,e2,e3,e4,p2,p4]
   ·have e1:a.tmps.getD _ undef=u1:=e1
    rw[Array.getD_eq_getD_getElem?]at e1
    obtain⟨_,p2,e2⟩:=e2
    rw[Array.getD_eq_getD_getElem?]at p2
    obtain⟨_,p3,e3⟩:=e3
    rw[Array.getD_eq_getD_getElem?]at p3
    have e4:a.tmps.getD _ undef=u4:=e4
    rw[Array.getD_eq_getD_getElem?]at e4
    simp[results,hf,asAddr,e1,e2,e3,e4,p2,p3]
   ·have e1:a.tmps.getD _ undef=u1:=e1
    rw[Array.getD_eq_getD_getElem?]at e1
    obtain⟨_,p2,e2⟩:=e2
    rw[Array.getD_eq_getD_getElem?]at p2
    obtain⟨_,p3,e3⟩:=e3
    rw[Array.getD_eq_getD_getElem?]at p3
    obtain⟨_,p4,e4⟩:=e4
    rw[Array.getD_eq_getD_getElem?]at p4
    simp[results,hf,asAddr,e1,e2,e3,e4,p2,p3,p4]
   ·obtain⟨_,p1,e1⟩:=e1
    rw[Array.getD_eq_getD_getElem?]at p1
    have e2:a.tmps.getD _ undef=u2:=e2
    rw[Array.getD_eq_getD_getElem?]at e2
    have e3:a.tmps.getD _ undef=u3:=e3
    rw[Array.getD_eq_getD_getElem?]at e3
    have e4:a.tmps.getD _ undef=u4:=e4
    rw[Array.getD_eq_getD_getElem?]at e4
    simp[results,hf,asAddr,e1,e2,e3,e4,p1]
   ·obtain⟨_,p1,e1⟩:=e1
    rw[Array.getD_eq_getD_getElem?]at p1
    have e2:a.tmps.getD _ undef=u2:=e2
    rw[Array.getD_eq_getD_getElem?]at e2
    have e3:a.tmps.getD _ undef=u3:=e3
    rw[Array.getD_eq_getD_getElem?]at e3
    obtain⟨_,p4,e4⟩:=e4
    rw[Array.getD_eq_getD_getElem?]at p4
    simp[results,hf,asAddr,e1,e2,e3,e4,p1,p4]
   ·obtain⟨_,p1,e1⟩:=e1
    rw[Array.getD_eq_getD_getElem?]at p1
    have e2:a.tmps.getD _ undef=u2:=e2
    rw[Array.getD_eq_getD_getElem?]at e2
    obtain⟨_,p3,e3⟩:=e3
    rw[Array.getD_eq_getD_getElem?]at p3
    have e4:a.tmps.getD _ undef=u4:=e4
    rw[Array.getD_eq_getD_getElem?]at e4
    simp[results,hf,asAddr,e1,e2,e3,e4,p1,p3]
   ·obtain⟨_,p1,e1⟩:=e1
    rw[Array.getD_eq_getD_getElem?]at p1
    have e2:a.tmps.getD _ undef=u2:=e2
    rw[Array.getD_eq_getD_getElem?]at e2
    obtain⟨_,p3,e3⟩:=e3
    rw[Array.getD_eq_getD_getElem?]at p3
    obtain⟨_,p4,e4⟩:=e4
    rw[Array.getD_eq_getD_getElem?]at p4
    simp[results,hf,asAddr,e1,e2,e3,e4,p1,p3,p4]
   ·obtain⟨_,p1,e1⟩:=e1
    rw[Array.getD_eq_getD_getElem?]at p1
    obtain⟨_,p2,e2⟩:=e2
    rw[Array.getD_eq_getD_getElem?]at p2
    have e3:a.tmps.getD _ undef=u3:=e3
    rw[Array.getD_eq_getD_getElem?]at e3
    have e4:a.tmps.getD _ undef=u4:=e4
    rw[Array.getD_eq_getD_getElem?]at e4
    simp[results,hf,asAddr,e1,e2,e3,e4,p1,p2]
   ·obtain⟨_,p1,e1⟩:=e1
    rw[Array.getD_eq_getD_getElem?]at p1
    obtain⟨_,p2,e2⟩:=e2
    rw[Array.getD_eq_getD_getElem?]at p2
    have e3:a.tmps.getD _ undef=u3:=e3
    rw[Array.getD_eq_getD_getElem?]at e3
    obtain⟨_,p4,e4⟩:=e4
    rw[Array.getD_eq_getD_getElem?]at p4
    simp[results,hf,asAddr,e1,e2,e3,e4,p1,p2,p4]
   ·obtain⟨_,p1,e1⟩:=e1
    rw[Array.getD_eq_getD_getElem?]at p1
    obtain⟨_,p2,e2⟩:=e2
    rw[Array.getD_eq_getD_getElem?]at p2
    obtain⟨_,p3,e3⟩:=e3
    rw[Array.getD_eq_getD_getElem?]at p3
    have e4:a.tmps.getD _ undef=u4:=e4
    rw[Array.getD_eq_getD_getElem?]at e4
    simp[results,hf,asAddr,e1,e2,e3,e4,p1,p2,p3]
   ·obtain⟨_,p1,e1⟩:=e1
    rw[Array.getD_eq_getD_getElem?]at p1
    obtain⟨_,p2,e2⟩:=e2
    rw[Array.getD_eq_getD_getElem?]at p2
    obtain⟨_,p3,e3⟩:=e3
    rw[Array.getD_eq_getD_getElem?]at p3
    obtain⟨_,p4,e4⟩:=e4
    rw[Array.getD_eq_getD_getElem?]at p4
    simp[results,hf,asAddr,e1,e2,e3,e4,p1,p2,p3,p4]
 |_::_::_::_::_::_,_,_,hl=>simp at hl
end
end
section
variable{ty:Tag→Nat}
theorem RI.ra{w:World}{env:Env}{v:V}{u:Value}{fp:List Nat}(h:RI w v u fp):RA w [] env v u:=by
 have hno: ∀b, ¬Ow [] env b:=by rintro b ⟨n,o,hl,_⟩;simp[look]at hl
 cases v with
 |lit x=>exact⟨h.1,h.2.1⟩
 |sl t l=>exact⟨fp,h,fun b _=>hno b⟩
 |_=>exact h.elim
theorem qt.Hg{w:World}{env:Env}{x:S1}{u:Value}(h:qt w x u):cz w [] env x u:=by
 cases x with
 |a v=>obtain⟨fp,h⟩:=h;exact h.ra
 |agg l=>
  obtain⟨cs,fp,rfl,h⟩:=h
  exact⟨cs,rfl,h.oI fun b _=>by rintro⟨n,o,hl,_⟩;simp[look]at hl⟩
theorem gT: ∀{as:List S1} {i s:Nat} {v:SV},look (enter i as) s=some v→ ∃x,v= .one x∧i≤s∧as[s-i]? =some x
 |x::r,i,s,v,h=>by
  by_cases hs:s=i
  ·subst hs
   rw[enter,look_eq]at h
   simp only[Option.some.injEq]at h
   exact⟨x,h.symm,Nat.le_refl _,by simp⟩
  ·rw[enter,aC hs]at h
   obtain⟨y,h1,h2,h3⟩:=gT h
   refine⟨y,h1,by omega,?_⟩
   rw[show s-i=(s-(i+1))+1 by omega,List.getElem?_cons_succ];exact h3
theorem entry{as:List S1}{us:List Value}{w:World}{n:Nat}(hA:qJ w)(ha:aD (qt w) as us)(hn:as.length≤n):
  Inv ty ⟨w,[],fun _=>⟨.tuple #[],[]⟩⟩ ⟨n,enter 0 as,[]⟩ {tmps:=us.toArray++Array.replicate (n-us.toArray.size) undef,defers:= []} w:=by
 have hl:=ha.len
 refine⟨by simp;omega,rfl,Kept.refl _ _,⟨hA,fun _ _ h=>by cases h⟩,fun _=>⟨.tuple #[],[]⟩,⟨fun n o h=>by simp[look]at h,fun n m o o' _ h=>by simp[look]at h,fun s v hv=> ?_,fun n o h=>by simp[look]at h,fun n _=>⟨rfl,fun b hb=>hb⟩⟩⟩
 obtain⟨x,rfl,_,hx⟩:=gT hv
 rw[Nat.sub_zero]at hx
 obtain⟨u,hu,hr⟩:=ha.at hx
 have hs:s<us.length:=(List.getElem?_eq_some_iff.1 hu).1
 have:(us.toArray++Array.replicate (n-us.toArray.size) undef).getD s undef=u:=by
  rw[Array.getD_eq_getD_getElem?,Array.getElem?_append_left (by simpa using hs)]
  simp[hu]
 show cz w [] _ x _
 rw[this]
 exact hr.Hg
theorem Sound.of{P:Program}{Γ:Nat→TK}(X:Ctx P ty Γ){f:FuncId}{fn:Func}{c:Code}{ir:List ResultVar}{n:Nat}{as rs:List S1}
  (pJ: ∀(args:Array Value) (w:World),(callFunc f args).run P w= .ok (.enter f args) w)(hf:P.funcs[f]? =some fn)(hb:fn.body=some c)(hr:fn.results=ir.toArray)(hl:ir.length≤4)(hn:fn.ntmps=n)(hlen:as.length≤n)
  (h: ∀zb,W P ty zb c (Fin Γ ir rs) ⟨n,enter 0 as,[]⟩):Sound ty P f as rs:=by
 refine⟨pJ,fun w us hA ha=>calls_of_wp hf hb ?_⟩
 rw[hn]
 refine wp_mono (h _ _ w (entry hA ha hlen)) ?_
 rintro e a w' ⟨st,iv,he,vc,cG,hv⟩
 have key:a.defers= []∧ ∃v,(results fn a.tmps).run P w'= .ok v w'∧F2 ty w rs (.returned v) w':=by
  obtain⟨env,g⟩:=iv.good
  unfold ends at cG
  split at cG
  ·rename_i xs hx
   split at cG
   ·rename_i j7 k hm
    split at cG
    ·rename_i hnd
     simp only[Option.some.injEq]at cG
     subst cG
     obtain⟨vs,h1,h2,h3⟩:=pI X.kind g hr hx hl
     obtain⟨fp,q1,q2,_⟩:=uy rfl g h1 hm (dQ hnd) hv.out
     have Eb:Below w.heap.size w w':=⟨iv.kept.os,iv.kept.tape,iv.kept.output,iv.kept.size,fun b hb=>iv.kept.block b hb (by simp)⟩
     refine⟨iv.defers,_,h3,_,fp,rfl,Eb,q2,?_⟩
     match rs,vs,q1 with
     | [],[],q1=>exact⟨[],rfl,q1⟩
     | [r],[u],⟨f1,f2,p1,p2,e⟩=>
       have p2:f2= []:=p2
       rw[p2,List.append_nil]at e
       rw[e];exact p1
     |r1::r2::r,u1::u2::u,q1=>exact⟨_,rfl,q1⟩
     | [],_::_,q1=>exact q1.elim
     |_::_,[],q1=>exact q1.elim
     | [r],u1::u2::u,⟨_,_,_,p,_⟩=>exact p.elim
     |r1::r2::r,[u],⟨_,_,_,p,_⟩=>exact p.elim
    ·cases cG
   ·cases cG
  ·cases cG
 rcases he with rfl|rfl<;>exact key
theorem Sound.o{P:Program}{Γ:Nat→TK}(X:Ctx P ty Γ){f:FuncId}{fn:Func}{c:Code}{ir:List ResultVar}{n:Nat}{xs rs:List S1}
  (pJ: ∀(args:Array Value) (w:World),(callFunc f args).run P w= .ok (.enter f args) w)(hf:P.funcs[f]? =some fn)(hn:fn.ntmps=n)(hb:fn.body=some c)(hr:fn.results=ir.toArray)
  (h: ∀zb,W P ty zb c (Fin Γ ir rs) ⟨n,enter 0 xs,[]⟩)(hl:ir.length≤4:=by decide)(hlen:xs.length≤n:=by simp):Sound ty P f xs rs:=Sound.of X pJ hf hb hr hl hn hlen h
def cY(m:Nat):List V→List V×Hp
 | []=>([],[])
 | .sl t l::r=>match cY (m+1) r with| (vs,os)=>(.own m::vs,(m, .arr t l)::os)
 |v::r=>match cY (m+1) r with| (vs,os)=>(v::vs,os)
def cS(m:Nat):List S1→List S1×Hp
 | []=>([],[])
 | .a v::r=>match cY m [v],cS (m+1) r with
   | ([v'],os),(as,os')=>(.a v'::as,os++os')
   |_,(as,os')=>(.a .any::as,os')
 | .agg l::r=>match cY m l,cS (m+l.length) r with
   | (l',os),(as,os')=>(.agg l'::as,os++os')
def bA(st:St)(m:Nat):List V→List V→Option (List Prop)
 | [],[]=>some []
 | .sl _ _::r, .sl t' l'::s=>match look st.hp m,bA st (m+1) r s with
   |some (.arr t l2),some vc=>match cB t' t l2 with|some l2=>some ((l2=l')::vc)|none=>none
   |_,_=>none
 | .lit v::r, .lit v'::s=>match bA st (m+1) r s with|some vc=>some ((v=v')::vc)|none=>none
 |_,_=>none
def pK(st:St)(m:Nat):List S1→List S1→Option (List Prop)
 | [],[]=>some []
 | .a v::r, .a v'::s=>match bA st m [v] [v'],pK st (m+1) r s with|some x,some y=>some (x++y)|_,_=>none
 | .agg l::r, .agg l'::s=>match bA st m l l',pK st (m+l.length) r s with|some x,some y=>some (x++y)|_,_=>none
 |_,_=>none
def A6(Γ:Nat→TK)(st:St)(rv:ResultVar)(as as':List S1)(v:Value):Option (List Prop):=
 match yW Γ st rv,pK st 1000 as as' with
 |some (.a (.lit v')),some vc=>some ((v'=v)::vc)
 |_,_=>none
def EV(Γ:Nat→TK)(rv:ResultVar)(as as':List S1)(v:Value):Post:=fun e st=>(e= .ret∨e= .normal)∧ ∃vc,A6 Γ st rv as as' v=some vc∧ah vc
theorem EV.ret{Γ:Nat→TK}{rv:ResultVar}{as as':List S1}{v:Value}{st:St}{vc:List Prop}(h:A6 Γ st rv as as' v=some vc)(hv:ah vc):EV Γ rv as as' v .ret st:=⟨.inl rfl,vc,h,hv⟩
def uz(m:Nat):List Value→List (List Nat)→List (Nat×CO)
 |u::us,f::fs=>(m,⟨u,f⟩)::uz (m+1) us fs
 |_,_=> []
theorem pL: ∀{us:List Value} {fs:List (List Nat)} {m i:Nat} {u:Value} {f:List Nat},us[i]? =some u→fs[i]? =some f→look (uz m us fs) (m+i)=some ⟨u,f⟩
 |u::us,f::fs,m,0,u',f',h1,h2=>by
  simp at h1 h2
  subst h1;subst h2
  rw[uz];exact look_eq
 |u::us,f::fs,m,i+1,u',f',h1,h2=>by
  rw[uz,aC (by omega),show m+(i+1)=(m+1)+i by omega]
  exact pL (by simpa using h1) (by simpa using h2)
 | [],_,_,_,_,_,h1,_=>by simp at h1
 |_::_,[],_,_,_,_,_,h2=>by simp at h2
theorem pM{w:World}: ∀{vs:List V} {us:List Value} {az:List (List Nat)} (m:Nat),RF w vs us az→(∀n o,look (cY m vs).2 n=some o→ ∃t l u f,o= .arr t l∧m≤n∧n<m+vs.length∧us[n-m]? =some u∧az[n-m]? =some f∧vs[n-m]? =some (.sl t l)∧Sl (kk t) (rd t) w u l f)∧
  ∀hp env,(∀n o,look (cY m vs).2 n=some o→look hp n=some o)→(∀i u f,us[i]? =some u→az[i]? =some f→env (m+i)=⟨u,f⟩)→aD (RA w hp env) (cY m vs).1 us
 | [],[],_,m,h=>⟨fun n o hl=>by simp[cY,look]at hl,fun _ _ _ _=>trivial⟩
 |v::vs,u::us,az,m,⟨f,fr,h1,h2,e⟩=>by
  subst e
  obtain⟨q1,q2⟩:=pM (m+1) h2
  have up: ∀n o,(∃t l u' f',o=Obj.arr t l∧m+1≤n∧n<m+1+vs.length∧us[n-(m+1)]? =some u'∧fr[n-(m+1)]? =some f'∧vs[n-(m+1)]? =some (.sl t l)∧Sl (kk t) (rd t) w u' l f')→
    ∃t l u' f',o=Obj.arr t l∧m≤n∧n<m+(v::vs).length∧(u::us)[n-m]? =some u'∧(f::fr)[n-m]? =some f'∧(v::vs)[n-m]? =some (.sl t l)∧Sl (kk t) (rd t) w u' l f':=by
   rintro n o ⟨t,l,u',f',k1,k2,k3,k4,k5,k6,k7⟩
   have e:n-m=(n-(m+1))+1:=by omega
   exact⟨t,l,u',f',k1,by omega,by simp;omega,by rw[e];simpa using k4,by rw[e];simpa using k5,by rw[e];simpa using k6,k7⟩
  cases v with
  |sl t l=>
   refine⟨fun n o hl=> ?_,fun hp env hh he=>⟨?_,q2 hp env (fun n o hl=>hh n o ?_) (fun i u' f' hu hf=> ?_)⟩⟩
   ·by_cases hn:n=m
    ·subst hn
     simp only[cY]at hl
     rw[look_eq]at hl
     simp only[Option.some.injEq]at hl
     exact⟨t,l,u,f,hl.symm,Nat.le_refl _,by simp,by simp,by simp,by simp,h1⟩
    ·simp only[cY]at hl
     rw[aC hn]at hl
     exact up n o (q1 n o hl)
   ·refine⟨⟨t,l,hh m _ ?_⟩,?_⟩
    ·simp only[cY];exact look_eq
    ·have:=he 0 u f (by simp) (by simp)
     rw[Nat.add_zero]at this
     rw[this]
   ·have hge:=(q1 n o hl)
    obtain⟨_,_,_,_,_,hge,_⟩:=hge
    simp only[cY]
    rw[aC (by omega)];exact hl
   ·have:=he (i+1) u' f' (by simpa using hu) (by simpa using hf)
    rwa [show m+(i+1)=m+1+i by omega]at this
  |lit x=>
   refine⟨fun n o hl=>up n o (q1 n o hl),fun hp env hh he=>⟨⟨h1.1,h1.2.1⟩,q2 hp env hh (fun i u' f' hu hf=> ?_)⟩⟩
   have:=he (i+1) u' f' (by simpa using hu) (by simpa using hf)
   rwa [show m+(i+1)=m+1+i by omega]at this
  |_=>exact h1.elim
 | [],_::_,_,_,h=>h.elim
 |_::_,[],_,_,h=>h.elim
theorem RF.len{w:World}: ∀{vs:List V} {us:List Value} {az:List (List Nat)},RF w vs us az→us.length=vs.length∧az.length=vs.length
 | [],[],_,h=>by rw[show _=_ from h];exact⟨rfl,rfl⟩
 |_::_,_::_,_,⟨_,_,_,h,e⟩=>by obtain⟨h1,h2⟩:=RF.len h;rw[e];exact⟨by simp[h1],by simp[h2]⟩
 | [],_::_,_,h=>h.elim
 |_::_,[],_,h=>h.elim
theorem mB: ∀{vs:List V} (m:Nat),(cY m vs).1.length=vs.length
 | [],_=>rfl
 |v::r,m=>by
  have:=mB (vs:=r) (m+1)
  cases v<;>simp[cY,this]
theorem pN{w:World}: ∀{as:List S1} {us:List Value} {az:List (List Nat)} (m:Nat),gh w as us az→
  (∀n o,look (cS m as).2 n=some o→ ∃t l u f,o= .arr t l∧m≤n∧(us.flatMap fun u=>u.cells.toList)[n-m]? =some u∧az[n-m]? =some f∧Sl (kk t) (rd t) w u l f)∧
  ∀hp env,(∀n o,look (cS m as).2 n=some o→look hp n=some o)→(∀i u f,(us.flatMap fun u=>u.cells.toList)[i]? =some u→az[i]? =some f→env (m+i)=⟨u,f⟩)→aD (cz w hp env) (cS m as).1 us
 | [],[],az,m,h=>⟨fun n o hl=>by simp[cS,look]at hl,fun _ _ _ _=>trivial⟩
 | .a v::as,u::us,az,m,⟨f,g,h1,h2,e⟩=>by
   subst e
   have hc:u.cells.toList= [u]:=by rw[h1.cells]
   obtain⟨p1,p2⟩:=pM m (show RF w [v] [u] [f]from ⟨f,[],h1,rfl,rfl⟩)
   obtain⟨q1,q2⟩:=pN (m+1) h2
   have ng:=mB (vs:= [v]) m
   rw[List.flatMap_cons,hc]
   simp only[cS]
   generalize cY m [v]=x at p1 p2 ng ⊢
   obtain⟨xs,os⟩:=x
   match xs,ng with
   | [v'],_=>
     have up: ∀n o,look (cS (m+1) as).2 n=some o→look os n=none:=by
      intro n o hl
      cases hq:look os n with
      |none=>rfl
      |some o'=>
       obtain⟨_,_,_,_,_,k1,_⟩:=q1 n o hl
       obtain⟨_,_,_,_,_,_,k2,_⟩:=p1 n o' hq
       simp at k2;omega
     refine⟨fun n o hl=> ?_,fun hp env hh he=>⟨?_,q2 hp env (fun n o hl=>hh n o (by
       show look (os++(cS (m+1) as).2) n=some o
       rw[av (up n o hl)];exact hl)) fun i u' f' hu hf=> ?_⟩⟩
     ·have hl:look (os++(cS (m+1) as).2) n=some o:=hl
      cases hq:look os n with
      |some o'=>
       rw[aJ hq]at hl
       simp only[Option.some.injEq]at hl
       subst hl
       obtain⟨t,l,u',f',k1,k2,k3,k4,k5,k6,k7⟩:=p1 n _ hq
       have h0:n-m=0:=by simp at k3;omega
       rw[h0]at k4 k5 ⊢
       simp at k4 k5
       subst k4;subst k5
       exact⟨t,l,u,f,k1,k2,by simp,by simp,k7⟩
      |none=>
       rw[av hq]at hl
       obtain⟨t,l,u',f',k1,k2,k3,k4,k5⟩:=q1 n o hl
       have e:n-m=(n-(m+1))+1:=by omega
       exact⟨t,l,u',f',k1,by omega,by rw[e];simpa using k3,by rw[e];simpa using k4,k5⟩
     ·have:=p2 hp env (fun n o hl=>hh n o (aJ hl)) (fun i u' f' hu hf=>by
       match i with
       |0=>exact he 0 u' f' (by simpa using hu) (by simpa using hf)
       |i+1=>simp at hu)
      exact this.1
     ·have:=he (i+1) u' f' (by simpa using hu) (by simpa using hf)
      rwa [show m+(i+1)=m+1+i by omega]at this
 | .agg l::as,u::us,az,m,⟨cs,f,g,e1,h1,h2,e⟩=>by
   subst e;subst e1
   have hc:(Value.agg cs.toArray).cells.toList=cs:=by simp[Value.cells]
   obtain⟨p1,p2⟩:=pM m h1
   obtain⟨q1,q2⟩:=pN (m+l.length) h2
   obtain⟨n1,n2⟩:=RF.len h1
   rw[List.flatMap_cons,hc]
   have up: ∀n o,look (cS (m+l.length) as).2 n=some o→look (cY m l).2 n=none:=by
    intro n o hl
    cases hq:look (cY m l).2 n with
    |none=>rfl
    |some o'=>
     obtain⟨_,_,_,_,_,k1,_⟩:=q1 n o hl
     obtain⟨_,_,_,_,_,_,k2,_⟩:=p1 n o' hq
     omega
   refine⟨fun n o hl=> ?_,fun hp env hh he=>⟨⟨cs,rfl,?_⟩,q2 hp env (fun n o hl=>hh n o (by
     show look ((cY m l).2++(cS (m+l.length) as).2) n=some o
     rw[av (up n o hl)];exact hl)) fun i u' f' hu hf=> ?_⟩⟩
   ·have hl:look ((cY m l).2++(cS (m+l.length) as).2) n=some o:=hl
    cases hq:look (cY m l).2 n with
    |some o'=>
     rw[aJ hq]at hl
     simp only[Option.some.injEq]at hl
     subst hl
     obtain⟨t,l',u',f',k1,k2,k3,k4,k5,k6,k7⟩:=p1 n _ hq
     exact⟨t,l',u',f',k1,k2,by rw[List.getElem?_append_left (by omega)];exact k4,by rw[List.getElem?_append_left (by omega)];exact k5,k7⟩
    |none=>
     rw[av hq]at hl
     obtain⟨t,l',u',f',k1,k2,k3,k4,k5⟩:=q1 n o hl
     have e:n-m-l.length=n-(m+l.length):=by omega
     exact⟨t,l',u',f',k1,by omega,by rw[List.getElem?_append_right (by omega),n1,e];exact k3,by rw[List.getElem?_append_right (by omega),n2,e];exact k4,k5⟩
   ·exact p2 hp env (fun n o hl=>hh n o (aJ hl)) (fun i u' f' hu hf=>he i u' f'
     (by rw[List.getElem?_append_left (List.getElem?_eq_some_iff.1 hu).1];exact hu)
     (by rw[List.getElem?_append_left (List.getElem?_eq_some_iff.1 hf).1];exact hf))
   ·have:=he (l.length+i) u' f' (by rw[List.getElem?_append_right (by omega),n1,show l.length+i-l.length=i by omega];exact hu)
     (by rw[List.getElem?_append_right (by omega),n2,show l.length+i-l.length=i by omega];exact hf)
    rwa [show m+(l.length+i)=m+l.length+i by omega]at this
 | [],_::_,_,_,h=>h.elim
 | .a _::_,[],_,_,h=>h.elim
 | .agg _::_,[],_,_,h=>h.elim
theorem jI.nodup: ∀{fs gs:List (List Nat)},jI fs gs→gs.flatten.Nodup→(∀f,f∈fs→f.Nodup)→fs.flatten.Nodup∧ ∀b,b∈fs.flatten→b∈gs.flatten
 | [],[],_,_,_=>⟨by simp,by simp⟩
 |f::fs,g::gs,⟨h1,h2⟩,hn,hf=>by
  rw[List.flatten_cons]at hn
  obtain⟨_,n2,n3⟩:=List.nodup_append.1 hn
  obtain⟨q1,q2⟩:=jI.nodup h2 n2 (fun f hm=>hf f (List.mem_cons_of_mem _ hm))
  refine⟨?_,fun b hb=> ?_⟩
  ·rw[List.flatten_cons]
   exact List.nodup_append.2 ⟨hf f (by simp),q1,fun b hb c hc e=>n3 b (h1 b hb) c (q2 c hc) e⟩
  ·rw[List.flatten_cons]at hb ⊢
   rcases List.mem_append.1 hb with hb|hb
   ·exact List.mem_append_left _ (h1 b hb)
   ·exact List.mem_append_right _ (q2 b hb)
 | [],_::_,h,_,_=>h.elim
 |_::_,[],h,_,_=>h.elim
theorem jI.app: ∀{a b c d:List (List Nat)},jI a b→jI c d→jI (a++c) (b++d)
 | [],[],_,_,_,h=>h
 |_::_,_::_,_,_,⟨h1,h2⟩,h=>⟨h1,jI.app h2 h⟩
 | [],_::_,_,_,h,_=>h.elim
 |_::_,[],_,_,h,_=>h.elim
section
variable{zb:aY}{st:St}{tmps:Array Value}{w0 w:World}{env:Env}
theorem nT(g:Good ty zb st tmps w env): ∀{vs vs':List V} {us:List Value} {az:List (List Nat)} {vc:List Prop} (m:Nat),ec m=true→bA st m vs vs'=some vc→(∀q,q∈vc→q)→RF w0 vs us az→
  (∀i u f,us[i]? =some u→az[i]? =some f→zb.pv (m+i)=⟨u,f⟩)→ ∃dF,RF w vs' us dF∧jI dF az∧ ∀f,f∈dF→Own 0 w f
 | [],[],[],az,vc,m,_,_,_,h,_=>⟨[],rfl,by rw[show az= []from h];trivial,by simp⟩
 | .sl t l::r, .sl t' l'::s,u::us,az,vc,m,hm,hh,hv,⟨f,fr,h1,h2,e⟩,hz=>by
   subst e
   simp only[bA]at hh
   split at hh
   ·rename_i t2 l2 vcs hl hr
    split at hh
    ·rename_i l3 hc
     simp only[Option.some.injEq]at hh
     subst hh
     obtain⟨e,rfl⟩:=bk hc
     subst e
     have e2:l2=l':=hv _ (by simp)
     subst e2
     obtain⟨dF,q1,q2,q3⟩:=nT g (m+1) (by unfold ec at hm ⊢;exact Nat.ble_eq_true_of_le (Nat.le_succ_of_le (Nat.le_of_ble_eq_true hm))) hr (fun q hq=>hv q (List.mem_cons_of_mem _ hq)) h2 (fun i u' f' hu hf=>by
      have:=hz (i+1) u' f' (by simpa using hu) (by simpa using hf)
      rwa [show m+(i+1)=m+1+i by omega]at this)
     have hp:=hz 0 u f (by simp) (by simp)
     rw[Nat.add_zero]at hp
     obtain⟨k1,k2⟩:=g.pins m hm
     rw[hp]at k1 k2
     have hro:=g.obj m _ hl
     refine⟨(env m).fp::dF,⟨_,_,?_,q1,rfl⟩,⟨k2,q2⟩,?_⟩
     ·have:=RO.sl hro
      rw[k1]at this
      exact this
     ·intro f' hf'
      rcases List.mem_cons.1 hf' with rfl|hf'
      ·exact RO.own hro
      ·exact q3 f' hf'
    ·cases hh
   ·cases hh
 | .lit x::r, .lit x'::s,u::us,az,vc,m,hm,hh,hv,⟨f,fr,h1,h2,e⟩,hz=>by
   subst e
   simp only[bA]at hh
   split at hh
   ·rename_i vcs hr
    simp only[Option.some.injEq]at hh
    subst hh
    have e2:x=x':=hv _ (by simp)
    subst e2
    obtain⟨dF,q1,q2,q3⟩:=nT g (m+1) (by unfold ec at hm ⊢;exact Nat.ble_eq_true_of_le (Nat.le_succ_of_le (Nat.le_of_ble_eq_true hm))) hr (fun q hq=>hv q (List.mem_cons_of_mem _ hq)) h2 (fun i u' f' hu hf=>by
     have:=hz (i+1) u' f' (by simpa using hu) (by simpa using hf)
     rwa [show m+(i+1)=m+1+i by omega]at this)
    refine⟨[]::dF,⟨_,_,⟨h1.1,h1.2.1,rfl⟩,q1,rfl⟩,⟨by simp,q2⟩,?_⟩
    intro f' hf'
    rcases List.mem_cons.1 hf' with rfl|hf'
    ·exact Own.nil _ _
    ·exact q3 f' hf'
   ·cases hh
 | [],_::_,_,_,_,_,_,hh,_,_,_=>by simp[bA]at hh
 | .sl _ _::_,[],_,_,_,_,_,hh,_,_,_=>by simp[bA]at hh
 | .sl _ _::_, .lit _::_,_,_,_,_,_,hh,_,_,_=>by simp[bA]at hh
 | .sl _ _::_, .any::_,_,_,_,_,_,hh,_,_,_=>by simp[bA]at hh
 | .sl _ _::_, .own _::_,_,_,_,_,_,hh,_,_,_=>by simp[bA]at hh
 | .sl _ _::_, .ptr _ _::_,_,_,_,_,_,hh,_,_,_=>by simp[bA]at hh
 | .sl _ _::_, .fA _ _ _::_,_,_,_,_,_,hh,_,_,_=>by simp[bA]at hh
 | .sl _ _::_, .ip _ _ _::_,_,_,_,_,_,hh,_,_,_=>by simp[bA]at hh
 | .sl _ _::_, .vw _ _ _ _::_,_,_,_,_,_,hh,_,_,_=>by simp[bA]at hh
 | .sl _ _::_, .qm _ _ _ _ _::_,_,_,_,_,_,hh,_,_,_=>by simp[bA]at hh
 | .sl _ _::_, .qn _ _ _::_,_,_,_,_,_,hh,_,_,_=>by simp[bA]at hh
 | .sl _ _::_, .mix _ _ _ _::_,_,_,_,_,_,hh,_,_,_=>by simp[bA]at hh
 | .sl _ _::_, .l6 _::_,_,_,_,_,_,hh,_,_,_=>by simp[bA]at hh
 | .sl _ _::_, .ou _ _::_,_,_,_,_,_,hh,_,_,_=>by simp[bA]at hh
 | .sl _ _::_, .jW _::_,_,_,_,_,_,hh,_,_,_=>by simp[bA]at hh
 | .sl _ _::_, .fZ _ _ _::_,_,_,_,_,_,hh,_,_,_=>by simp[bA]at hh
 | .lit _::_,[],_,_,_,_,_,hh,_,_,_=>by simp[bA]at hh
 | .lit _::_, .sl _ _::_,_,_,_,_,_,hh,_,_,_=>by simp[bA]at hh
 | .lit _::_, .any::_,_,_,_,_,_,hh,_,_,_=>by simp[bA]at hh
 | .lit _::_, .own _::_,_,_,_,_,_,hh,_,_,_=>by simp[bA]at hh
 | .lit _::_, .ptr _ _::_,_,_,_,_,_,hh,_,_,_=>by simp[bA]at hh
 | .lit _::_, .fA _ _ _::_,_,_,_,_,_,hh,_,_,_=>by simp[bA]at hh
 | .lit _::_, .ip _ _ _::_,_,_,_,_,_,hh,_,_,_=>by simp[bA]at hh
 | .lit _::_, .vw _ _ _ _::_,_,_,_,_,_,hh,_,_,_=>by simp[bA]at hh
 | .lit _::_, .qm _ _ _ _ _::_,_,_,_,_,_,hh,_,_,_=>by simp[bA]at hh
 | .lit _::_, .qn _ _ _::_,_,_,_,_,_,hh,_,_,_=>by simp[bA]at hh
 | .lit _::_, .mix _ _ _ _::_,_,_,_,_,_,hh,_,_,_=>by simp[bA]at hh
 | .lit _::_, .l6 _::_,_,_,_,_,_,hh,_,_,_=>by simp[bA]at hh
 | .lit _::_, .ou _ _::_,_,_,_,_,_,hh,_,_,_=>by simp[bA]at hh
 | .lit _::_, .jW _::_,_,_,_,_,_,hh,_,_,_=>by simp[bA]at hh
 | .lit _::_, .fZ _ _ _::_,_,_,_,_,_,hh,_,_,_=>by simp[bA]at hh
 | .any::_,_,_,_,_,_,_,hh,_,_,_=>by simp[bA]at hh
 | .own _::_,_,_,_,_,_,_,hh,_,_,_=>by simp[bA]at hh
 | .ptr _ _::_,_,_,_,_,_,_,hh,_,_,_=>by simp[bA]at hh
 | .fA _ _ _::_,_,_,_,_,_,_,hh,_,_,_=>by simp[bA]at hh
 | .ip _ _ _::_,_,_,_,_,_,_,hh,_,_,_=>by simp[bA]at hh
 | .vw _ _ _ _::_,_,_,_,_,_,_,hh,_,_,_=>by simp[bA]at hh
 | .qm _ _ _ _ _::_,_,_,_,_,_,_,hh,_,_,_=>by simp[bA]at hh
 | .qn _ _ _::_,_,_,_,_,_,_,hh,_,_,_=>by simp[bA]at hh
 | .mix _ _ _ _::_,_,_,_,_,_,_,hh,_,_,_=>by simp[bA]at hh
 | .l6 _::_,_,_,_,_,_,_,hh,_,_,_=>by simp[bA]at hh
 | .ou _ _::_,_,_,_,_,_,_,hh,_,_,_=>by simp[bA]at hh
 | .jW _::_,_,_,_,_,_,_,hh,_,_,_=>by simp[bA]at hh
 | .fZ _ _ _::_,_,_,_,_,_,_,hh,_,_,_=>by simp[bA]at hh
 |_::_,_,[],_,_,_,_,_,_,h,_=>h.elim
 | [],[],_::_,_,_,_,_,_,_,h,_=>h.elim
theorem RF.one{w:World}{v:V}{u:Value}{az:List (List Nat)}(h:RF w [v] [u] az): ∃f,RI w v u f∧az= [f]:=by
 obtain⟨f,g,h1,h2,h3⟩:=h
 exact⟨f,h1,by rw[h3,show g= []from h2]⟩
theorem sB(g:Good ty zb st tmps w env): ∀{as as':List S1} {us:List Value} {az:List (List Nat)} {vc:List Prop} (m:Nat),ec m=true→pK st m as as'=some vc→(∀q,q∈vc→q)→gh w0 as us az→
  (∀i u f,(us.flatMap fun u=>u.cells.toList)[i]? =some u→az[i]? =some f→zb.pv (m+i)=⟨u,f⟩)→ ∃dF,gh w as' us dF∧jI dF az∧ ∀f,f∈dF→Own 0 w f
 | [],[],[],az,vc,m,_,_,_,h,_=>⟨[],rfl,by rw[show az= []from h];trivial,by simp⟩
 | .a v::r, .a v'::s,u::us,az,vc,m,hm,hh,hv,⟨f,fr,h1,h2,e⟩,hz=>by
   subst e
   have hc:u.cells.toList= [u]:=by rw[h1.cells]
   rw[List.flatMap_cons,hc]at hz
   simp only[pK]at hh
   split at hh
   ·rename_i x y hx hy
    simp only[Option.some.injEq]at hh
    subst hh
    obtain⟨f1,p1,p2,p3⟩:=nT g m hm hx (fun q hq=>hv q (List.mem_append_left _ hq)) (show RF w0 [v] [u] [f]from ⟨f,[],h1,rfl,rfl⟩) (fun i u' f' hu hf=>by
     match i with
     |0=>exact hz 0 u' f' (by simpa using hu) (by simpa using hf)
     |i+1=>simp at hu)
    obtain⟨f2,rfl⟩: ∃f2,f1= [f2]:=by obtain⟨f2,_,h⟩:=RF.one p1;exact⟨f2,h⟩
    obtain⟨f3,p4,p5⟩:=RF.one p1
    simp only[List.cons.injEq,and_true]at p5
    subst p5
    obtain⟨dF,q1,q2,q3⟩:=sB g (m+1) (by unfold ec at hm ⊢;exact Nat.ble_eq_true_of_le (Nat.le_succ_of_le (Nat.le_of_ble_eq_true hm))) hy (fun q hq=>hv q (List.mem_append_right _ hq)) h2 (fun i u' f' hu hf=>by
     have:=hz (i+1) u' f' (by simpa using hu) (by simpa using hf)
     rwa [show m+(i+1)=m+1+i by omega]at this)
    refine⟨f2::dF,⟨_,_,p4,q1,rfl⟩,⟨p2.1,q2⟩,?_⟩
    intro f' hf'
    rcases List.mem_cons.1 hf' with rfl|hf'
    ·exact p3 _ (by simp)
    ·exact q3 f' hf'
   ·cases hh
 | .agg l::r, .agg l'::s,u::us,az,vc,m,hm,hh,hv,⟨cs,f,fr,e1,h1,h2,e⟩,hz=>by
   subst e;subst e1
   have hc:(Value.agg cs.toArray).cells.toList=cs:=by simp[Value.cells]
   obtain⟨n1,n2⟩:=RF.len h1
   rw[List.flatMap_cons,hc]at hz
   simp only[pK]at hh
   split at hh
   ·rename_i x y hx hy
    simp only[Option.some.injEq]at hh
    subst hh
    obtain⟨f1,p1,p2,p3⟩:=nT g m hm hx (fun q hq=>hv q (List.mem_append_left _ hq)) h1 (fun i u' f' hu hf=>hz i u' f'
     (by rw[List.getElem?_append_left (List.getElem?_eq_some_iff.1 hu).1];exact hu)
     (by rw[List.getElem?_append_left (List.getElem?_eq_some_iff.1 hf).1];exact hf))
    obtain⟨dF,q1,q2,q3⟩:=sB g (m+l.length) (by unfold ec at hm ⊢;exact Nat.ble_eq_true_of_le (Nat.le_trans (Nat.le_of_ble_eq_true hm) (Nat.le_add_right _ _))) hy (fun q hq=>hv q (List.mem_append_right _ hq)) h2 (fun i u' f' hu hf=>by
     have:=hz (l.length+i) u' f' (by rw[List.getElem?_append_right (by omega),n1,show l.length+i-l.length=i by omega];exact hu)
      (by rw[List.getElem?_append_right (by omega),n2,show l.length+i-l.length=i by omega];exact hf)
     rwa [show m+(l.length+i)=m+l.length+i by omega]at this)
    refine⟨f1++dF,⟨cs,f1,dF,rfl,p1,q1,rfl⟩,jI.app p2 q2,?_⟩
    intro f' hf'
    rcases List.mem_append.1 hf' with hf'|hf'
    ·exact p3 _ hf'
    ·exact q3 f' hf'
   ·cases hh
 | [],_::_,_,_,_,_,_,hh,_,_,_=>by simp[pK]at hh
 | .a _::_,[],_,_,_,_,_,hh,_,_,_=>by simp[pK]at hh
 | .agg _::_,[],_,_,_,_,_,hh,_,_,_=>by simp[pK]at hh
 | .a _::_, .agg _::_,_,_,_,_,_,hh,_,_,_=>by simp[pK]at hh
 | .agg _::_, .a _::_,_,_,_,_,_,hh,_,_,_=>by simp[pK]at hh
 | .a _::_,_,[],_,_,_,_,_,_,h,_=>h.elim
 | .agg _::_,_,[],_,_,_,_,_,_,h,_=>h.elim
 | [],[],_::_,_,_,_,_,_,_,h,_=>h.elim
end
theorem mC: ∀{as:List S1} (m:Nat),(cS m as).1.length=as.length
 | [],_=>rfl
 | .a v::r,m=>by
   have:=mC (as:=r) (m+1)
   have h2:=mB (vs:= [v]) m
   simp only[cS]
   generalize cY m [v]=x at h2 ⊢
   obtain⟨xs,os⟩:=x
   match xs,h2 with
   | [v'],_=>simp[this]
 | .agg l::r,m=>by
   have:=mC (as:=r) (m+l.length)
   simp[cS,this]
theorem EW{az:List (List Nat)}(h:az.flatten.Nodup){i j:Nat}{f f':List Nat}(hi:az[i]? =some f)(hj:az[j]? =some f')(hne:i≠j): ∀b,b∈f→b∉f':=by
 induction az generalizing i j with
 |nil=>simp at hi
 |cons g r ih=>
  rw[List.flatten_cons]at h
  obtain⟨_,n2,n3⟩:=List.nodup_append.1 h
  intro b hb hb'
  cases i with
  |zero=>
   cases j with
   |zero=>exact hne rfl
   |succ j=>
    simp at hi hj
    subst hi
    exact n3 b hb b (List.mem_flatten.2 ⟨f',List.mem_of_getElem? hj,hb'⟩) rfl
  |succ i=>
   cases j with
   |zero=>
    simp at hi hj
    subst hj
    exact n3 b hb' b (List.mem_flatten.2 ⟨f,List.mem_of_getElem? hi,hb⟩) rfl
   |succ j=>exact ih n2 (by simpa using hi) (by simpa using hj) (by omega) b hb hb'
def sC(us:List Value)(az:List (List Nat)):Nat→CO:=fun n=>match look (uz 1000 (us.flatMap fun u=>u.cells.toList) az) n with|some c=>c|none=>⟨.tuple #[],[]⟩
theorem EX{as:List S1}{us:List Value}{az:List (List Nat)}{w:World}{n:Nat}(hA:qJ w)(hL: ∀b,tv b→b∉az.flatten)(ha:gh w as us az)(ho:Own 0 w az.flatten)(hn:as.length≤n):
  Inv ty ⟨w,az.flatten,sC us az⟩ ⟨n,enter 0 (cS 1000 as).1,(cS 1000 as).2⟩ {tmps:=us.toArray++Array.replicate (n-us.toArray.size) undef,defers:= []} w:=by
 obtain⟨q1,q2⟩:=pN 1000 ha
 have Hl: ∀i u f,(us.flatMap fun u=>u.cells.toList)[i]? =some u→az[i]? =some f→sC us az (1000+i)=⟨u,f⟩:=by
  intro i u f hu hf
  unfold sC
  rw[pL hu hf]
 have hall:=q2 (cS 1000 as).2 (sC us az) (fun _ _ h=>h) Hl
 have hl:=hall.len
 rw[mC]at hl
 have yX: ∀m o,look (cS 1000 as).2 m=some o→ ∃t l f,o= .arr t l∧1000≤m∧az[m-1000]? =some f∧(sC us az m).fp=f∧Sl (kk t) (rd t) w (sC us az m).v l f:=by
  intro m o hm
  obtain⟨t,l,u,f,k1,k2,k3,k4,k5⟩:=q1 m o hm
  have h:=Hl _ _ _ k3 k4
  rw[show 1000+(m-1000)=m by omega]at h
  refine⟨t,l,f,k1,k2,k4,by rw[h],by rw[h];exact k5⟩
 refine⟨by simp;omega,rfl,Kept.refl _ _,⟨hA,hL⟩,sC us az,⟨?_,?_,?_,?_,fun n _=>⟨rfl,fun b hb=>hb⟩⟩⟩
 ·intro m o hm
  obtain⟨t,l,f,rfl,k2,k3,k4,k5⟩:=yX m o hm
  have hp:ec m=true:=by unfold ec;exact Nat.ble_eq_true_of_le k2
  show eN ty w m t l _
  unfold eN
  rw[tG hp]
  refine⟨by rw[k4];exact k5,?_⟩
  rw[k4]
  have hmem:=List.mem_of_getElem? k3
  exact⟨(List.pairwise_flatten.1 ho.nodup).1 f hmem,fun _ _=>Nat.zero_le _,fun b hb=>ho.kind b (List.mem_flatten.2 ⟨f,hmem,hb⟩)⟩
 ·intro m m' o o' hne hm hm' b hb hb'
  obtain⟨t,l,f,_,k2,k3,k4,_⟩:=yX m o hm
  obtain⟨t',l',f',_,Hr,I2,JY,_⟩:=yX m' o' hm'
  rw[k4]at hb
  rw[JY]at hb'
  exact EW ho.nodup k3 I2 (by omega) b hb hb'
 ·intro s v hv
  obtain⟨x,rfl,_,hx⟩:=gT hv
  rw[Nat.sub_zero]at hx
  obtain⟨u,hu,hr⟩:=hall.at hx
  have hs:s<us.length:=(List.getElem?_eq_some_iff.1 hu).1
  have:(us.toArray++Array.replicate (n-us.toArray.size) undef).getD s undef=u:=by
   rw[Array.getD_eq_getD_getElem?,Array.getElem?_append_left (by simpa using hs)]
   simp[hu]
  show cz w _ _ x _
  rw[this]
  exact hr
 ·intro m o hm b hb
  obtain⟨t,l,f,_,k2,k3,k4,_⟩:=yX m o hm
  rw[k4]at hb
  exact Or.inl (List.mem_flatten.2 ⟨f,List.mem_of_getElem? k3,hb⟩)
theorem mz.of{P:Program}{Γ:Nat→TK}(X:Ctx P ty Γ){f:FuncId}{fn:Func}{c:Code}{rv:ResultVar}{n:Nat}{as as':List S1}{v:Value}
  (pJ: ∀(args:Array Value) (w:World),(callFunc f args).run P w= .ok (.enter f args) w)(hf:P.funcs[f]? =some fn)(hb:fn.body=some c)(hr:fn.results= [rv].toArray)(hn:fn.ntmps=n)(hlen:as.length≤n)
  (h: ∀zb,W P ty zb c (EV Γ rv as as' v) ⟨n,enter 0 (cS 1000 as).1,(cS 1000 as).2⟩):mz P f as as' v:=by
 refine⟨pJ,fun w us az hA hL ha ho=>calls_of_wp hf hb ?_⟩
 rw[hn]
 refine wp_mono (h _ _ w (EX (ty:=ty) hA hL ha ho hlen)) ?_
 rintro e a w' ⟨st,iv,he,vc,cG,hv⟩
 have key:a.defers= []∧ ∃v',(results fn a.tmps).run P w'= .ok v' w'∧ ∃dF,(Ending.returned v'= .returned v)∧Kept ⟨w,az.flatten,fun _=>⟨v,[]⟩⟩ w w'∧gh w' as' us dF∧Own 0 w' dF.flatten∧jI dF az:=by
  obtain⟨env,g⟩:=iv.good
  unfold A6 at cG
  split at cG
  ·rename_i v1 j7 h1 h2
   simp only[Option.some.injEq]at cG
   subst cG
   have hx:iQ Γ st [rv]=some [.a (.lit v1)]:=by simp[iQ,h1]
   obtain⟨vs,k1,k2,k3⟩:=pI X.kind g hr hx (by simp)
   match vs,k1 with
   | [u],⟨k4,_⟩=>
     have hu:u=v1:=k4.1
     have rY:v1=v:=hv.out _ (by simp)
     obtain⟨dF,q1,q2,q3⟩:=sB g 1000 rfl h2 (fun q hq=>hv.out q (List.mem_cons_of_mem _ hq)) ha (fun i u f hu hf=>by
      show sC us az (1000+i)=_
      unfold sC
      rw[pL hu hf])
     obtain⟨r1,r2⟩:=jI.nodup q2 ho.nodup (fun f hf=>(q3 f hf).nodup)
     refine⟨iv.defers,_,k3,dF,by rw[hu,rY],⟨iv.kept.os,iv.kept.tape,iv.kept.output,iv.kept.size,iv.kept.block,iv.kept.shape⟩,q1,⟨r1,fun _ _=>Nat.zero_le _,fun b hb=> ?_⟩,q2⟩
     obtain⟨f,hf,hb⟩:=List.mem_flatten.1 hb
     exact(q3 f hf).kind b hb
  ·cases cG
 rcases he with rfl|rfl<;>exact key
end
section
variable{ty:Tag→Nat}
def B5:V→V→Option (List Prop)
 |_, .any=>some []
 | .lit v, .lit u=>some [v=u]
 | .fZ v t l, .fZ u t' l'=>match cB t' t l with|some l2=>some [v=u,l2=l']|none=>none
 | .own n, .own m=>match Nat.beq n m with|true=>some []|false=>none
 | .ptr n o, .ptr m q=>match Nat.beq n m&&Nat.beq o q with|true=>some []|false=>none
 |_,_=>none
def ji:List V→List V→Option (List Prop)
 | [],[]=>some []
 |x::r,y::s=>match B5 x y,ji r s with|some vc,some vcs=>some (fQ vc vcs)|_,_=>none
 |_,_=>none
def fu:Obj→Obj→Option (List Prop)
 | .arr t l, .arr t' l'=>match cB t' t l with|some l2=>some [l2=l']|none=>none
 | .box c, .box d=>ji c d
 |_,_=>none
def sY(hp:Hp):Hp→Option (List Prop)
 | []=>some []
 | (n,o)::r=>match look hp n with
   |some x=>match fu x o,sY hp r with|some vc,some vcs=>some (fQ vc vcs)|_,_=>none
   |none=>none
def sZ:S1→S1→Option (List Prop)
 | .a v, .a u=>ji [v] [u]
 | .agg l, .agg m=>ji l m
 |_,_=>none
def mU:List S1→List S1→Option (List Prop)
 | [],[]=>some []
 |x::r,y::s=>match sZ x y,mU r s with|some vc,some vcs=>some (fQ vc vcs)|_,_=>none
 |_,_=>none
def yj(Γ:Nat→TK)(st:St)(ir:List ResultVar)(cg:Hp)(rs:List S1):Option (List Prop):=
 match iQ Γ st ir with
 |some xs=>match mU xs rs,sY st.hp cg with
  |some vc,some vcs=>some (fQ vc vcs)
  |_,_=>none
 |none=>none
def B6(Γ:Nat→TK)(ir:List ResultVar)(cg:Hp)(rs:List S1):Post:=fun e st=>(e= .ret∨e= .normal)∧ ∃vc,yj Γ st ir cg rs=some vc∧ah vc
theorem B6.ret{Γ:Nat→TK}{ir:List ResultVar}{cg:Hp}{rs:List S1}{st:St}{vc:List Prop}(h:yj Γ st ir cg rs=some vc)(hv:ah vc):B6 Γ ir cg rs .ret st:=⟨.inl rfl,vc,h,hv⟩
theorem B6.normal{Γ:Nat→TK}{ir:List ResultVar}{cg:Hp}{rs:List S1}{st:St}{vc:List Prop}(h:yj Γ st ir cg rs=some vc)(hv:ah vc):B6 Γ ir cg rs .normal st:=⟨.inr rfl,vc,h,hv⟩
def Jf(cg:Hp)(rs:List S1):Bool:=(rs.all (gQ cg))&&(cg.all fun e=>lD cg e.2)&&cx cg
section
variable{P:Program}{zb:aY}{st:St}{a:Act}{w:World}{env:Env}
theorem qh{x o:Obj}{vc:List Prop}(h:fu x o=some vc):(∀t l,x= .arr t l→ ∃t' l',o= .arr t' l')∧ ∀c,x= .box c→ ∃d,o= .box d:=by
 cases x<;>cases o<;>simp[fu]at h ⊢
theorem qi{hp:Hp}: ∀{cg:Hp} {vc:List Prop},sY hp cg=some vc→(∀q,q∈vc→q)→ ∀n o,(n,o)∈cg→ ∃x v1,look hp n=some x∧fu x o=some v1∧ ∀q,q∈v1→q
 | (k,y)::r,vc,h,hv,n,o,hm=>by
   simp only[sY]at h
   split at h
   ·rename_i x hx
    split at h
    ·rename_i v1 v2 h1 h2
     simp only[Option.some.injEq,bN]at h
     subst h
     rcases List.mem_cons.1 hm with h'|h'
     ·simp only[Prod.mk.injEq]at h'
      obtain⟨rfl,rfl⟩:=h'
      exact⟨x,v1,hx,h1,fun q hq=>hv q (List.mem_append_left _ hq)⟩
     ·exact qi h2 (fun q hq=>hv q (List.mem_append_right _ hq)) n o h'
    ·cases h
   ·cases h
theorem B7{hp cg:Hp}(hT: ∀n o,look cg n=some o→ ∃x v1,look hp n=some x∧fu x o=some v1){x y:V}{u:Value}{vc:List Prop}(hr:RA w hp env x u)(h:B5 x y=some vc)(hv: ∀q,q∈vc→q)(hn:eH cg y=true):RA w cg env y u:=by
 unfold B5 at h
 split at h
 ·trivial
 ·simp only[Option.some.injEq]at h
  subst h
  have e:=hv _ (List.mem_singleton.2 rfl)
  subst e
  exact hr
 ·split at h
  ·rename_i l2 hc
   simp only[Option.some.injEq]at h
   subst h
   have e1:=hv _ (List.mem_cons_self ..)
   have e2:=hv _ (List.mem_cons_of_mem _ (List.mem_singleton.2 rfl))
   obtain⟨et,rfl⟩:=bk hc
   subst et
   subst e1;subst e2
   obtain⟨hu,fp,h1,h2⟩:=hr
   refine⟨hu,fp,h1,fun b hb ho=>h2 b hb ?_⟩
   obtain⟨n,o,q1,q2⟩:=ho
   obtain⟨x,_,p1,_⟩:=hT n o q1
   exact⟨n,x,p1,q2⟩
  ·cases h
 ·rename_i n m
  split at h
  ·rename_i hb
   have hb:=Nat.eq_of_beq_eq_true hb
   subst hb
   obtain⟨⟨t,l,hl⟩,hu⟩:=hr
   have hno:=jC hn n rfl
   cases hq:look cg n with
   |none=>exact absurd hq hno
   |some o=>
    obtain⟨x,v1,h1,h2⟩:=hT n o hq
    rw[hl]at h1
    simp only[Option.some.injEq]at h1
    subst h1
    obtain⟨t',l',rfl⟩:=(qh h2).1 t l rfl
    exact⟨⟨t',l',hq⟩,hu⟩
  ·cases h
 ·rename_i n o m q
  split at h
  ·rename_i hb
   simp only[Bool.and_eq_true]at hb
   have aL:=Nat.eq_of_beq_eq_true hb.1
   have aU:=Nat.eq_of_beq_eq_true hb.2
   subst aL;subst aU
   obtain⟨⟨c,hl⟩,hu⟩:=hr
   have hno:=jC hn n rfl
   cases hq:look cg n with
   |none=>exact absurd hq hno
   |some z=>
    obtain⟨x,v1,h1,h2⟩:=hT n z hq
    rw[hl]at h1
    simp only[Option.some.injEq]at h1
    subst h1
    obtain⟨d,rfl⟩:=(qh h2).2 c rfl
    exact⟨⟨d,hq⟩,hu⟩
  ·cases h
 ·cases h
theorem jE{hp cg:Hp}(hT: ∀n o,look cg n=some o→ ∃x v1,look hp n=some x∧fu x o=some v1): ∀{xs ys:List V} {us:List Value} {vc:List Prop},aD (RA w hp env) xs us→ji xs ys=some vc→(∀q,q∈vc→q)→(∀y,y∈ys→eH cg y=true)→aD (RA w cg env) ys us
 | [],ys,us,vc,hr,h,_,_=>by
   cases ys with
   |nil=>
    cases us with
    |nil=>trivial
    |cons _ _=>exact hr.elim
   |cons _ _=>simp[ji]at h
 |x::r,ys,us,vc,hr,h,hv,hn=>by
  cases us with
  |nil=>exact hr.elim
  |cons u us=>
   cases ys with
   |nil=>simp[ji]at h
   |cons y s=>
    simp only[ji]at h
    split at h
    ·rename_i v1 v2 h1 h2
     simp only[Option.some.injEq,bN]at h
     subst h
     exact⟨B7 hT hr.1 h1 (fun q hq=>hv q (List.mem_append_left _ hq)) (hn y (by simp)),jE hT hr.2 h2 (fun q hq=>hv q (List.mem_append_right _ hq)) (fun z hz=>hn z (List.mem_cons_of_mem _ hz))⟩
    ·cases h
theorem zu{hp cg:Hp}(hT: ∀n o,look cg n=some o→ ∃x v1,look hp n=some x∧fu x o=some v1){x y:S1}{u:Value}{vc:List Prop}(hr:cz w hp env x u)(h:sZ x y=some vc)(hv: ∀q,q∈vc→q)(hn:gQ cg y=true):cz w cg env y u:=by
 cases x with
 |a v=>
  cases y with
  |a v'=>
   have:=jE hT (xs:= [v]) (us:= [u]) ⟨hr,trivial⟩ h hv (fun z hz=>by rw[List.mem_singleton.1 hz];exact hn)
   exact this.1
  |agg _=>simp[sZ]at h
 |agg l=>
  cases y with
  |a v'=>simp[sZ]at h
  |agg m=>
   obtain⟨cs,rfl,hl⟩:=hr
   exact⟨cs,rfl,jE hT hl h hv (fun z hz=>List.all_eq_true.1 hn z hz)⟩
theorem rE{hp cg:Hp}(hT: ∀n o,look cg n=some o→ ∃x v1,look hp n=some x∧fu x o=some v1): ∀{xs ys:List S1} {us:List Value} {vc:List Prop},aD (cz w hp env) xs us→mU xs ys=some vc→(∀q,q∈vc→q)→(∀y,y∈ys→gQ cg y=true)→aD (cz w cg env) ys us
 | [],ys,us,vc,hr,h,_,_=>by
   cases ys with
   |nil=>
    cases us with
    |nil=>trivial
    |cons _ _=>exact hr.elim
   |cons _ _=>simp[mU]at h
 |x::r,ys,us,vc,hr,h,hv,hn=>by
  cases us with
  |nil=>exact hr.elim
  |cons u us=>
   cases ys with
   |nil=>simp[mU]at h
   |cons y s=>
    simp only[mU]at h
    split at h
    ·rename_i v1 v2 h1 h2
     simp only[Option.some.injEq,bN]at h
     subst h
     exact⟨zu hT hr.1 h1 (fun q hq=>hv q (List.mem_append_left _ hq)) (hn y (by simp)),rE hT hr.2 h2 (fun q hq=>hv q (List.mem_append_right _ hq)) (fun z hz=>hn z (List.mem_cons_of_mem _ hz))⟩
    ·cases h
end
theorem FA{as:List S1}{us:List Value}{w:World}{env:Env}{cR:Hp}{n:Nat}(hA:qJ w)(hL: ∀b,tv b→b∉lu cR env)(hG:uj ty w cR env)(ha:aD (cz w cR env) as us)(hn:as.length≤n):
  Inv ty ⟨w,lu cR env,env⟩ ⟨n,enter 0 as,cR⟩ {tmps:=us.toArray++Array.replicate (n-us.toArray.size) undef,defers:= []} w:=by
 have hl:=ha.len
 refine⟨by simp;omega,rfl,Kept.refl _ _,⟨hA,hL⟩,env,⟨hG.1,hG.2,fun s v hv=> ?_,fun n o h b hb=>Or.inl (List.mem_flatMap.2 ⟨_,bt h,hb⟩),fun n _=>⟨rfl,fun b hb=>hb⟩⟩⟩
 obtain⟨x,rfl,_,hx⟩:=gT hv
 rw[Nat.sub_zero]at hx
 obtain⟨u,hu,hr⟩:=ha.at hx
 have hs:s<us.length:=(List.getElem?_eq_some_iff.1 hu).1
 have:(us.toArray++Array.replicate (n-us.toArray.size) undef).getD s undef=u:=by
  rw[Array.getD_eq_getD_getElem?,Array.getElem?_append_left (by simpa using hs)]
  simp[hu]
 show cz w cR env x _
 rw[this]
 exact hr
theorem su.of{P:Program}{Γ:Nat→TK}(X:Ctx P ty Γ){f:FuncId}{fn:Func}{c:Code}{ir:List ResultVar}{n:Nat}{cR cg:Hp}{as rs:List S1}
  (pJ: ∀(args:Array Value) (w:World),(callFunc f args).run P w= .ok (.enter f args) w)(hf:P.funcs[f]? =some fn)(hb:fn.body=some c)(hr:fn.results=ir.toArray)(hl:ir.length≤4)(hn:fn.ntmps=n)(hlen:as.length≤n)(hT:Jf cg rs=true)
  (h: ∀zb,W P ty zb c (B6 Γ ir cg rs) ⟨n,enter 0 as,cR⟩):su ty P f cR as cg rs:=by
 refine⟨pJ,fun w env us hA hL hG ha=>calls_of_wp hf hb ?_⟩
 rw[hn]
 refine wp_mono (h _ _ w (FA hA hL hG ha hlen)) ?_
 simp only[Jf,Bool.and_eq_true,List.all_eq_true]at hT
 obtain⟨⟨t1,t2⟩,t3⟩:=hT
 rintro e a w' ⟨st,iv,he,vc,cG,hv⟩
 have key:a.defers= []∧ ∃v,(results fn a.tmps).run P w'= .ok v w'∧ ∃env' u,Ending.returned v= .returned u∧Kept ⟨w,lu cR env,env⟩ w w'∧uj ty w' cg env'∧
   (∀n o,look cg n=some o→ ∀b,b∈(env' n).fp→b∈lu cR env∨w.heap.size≤b)∧(∀n,ec n=true→(env' n).v=(env n).v∧ ∀b,b∈(env' n).fp→b∈(env n).fp)∧Gv w' cg env' rs u:=by
  obtain⟨env',g⟩:=iv.good
  unfold yj at cG
  split at cG
  ·rename_i xs hx
   split at cG
   ·rename_i v1 v2 hm1 hm2
    simp only[Option.some.injEq,bN]at cG
    subst cG
    have rY: ∀q,q∈v1→q:=fun q hq=>hv.out q (List.mem_append_left _ hq)
    have Aq: ∀q,q∈v2→q:=fun q hq=>hv.out q (List.mem_append_right _ hq)
    obtain⟨vs,h1,h2,h3⟩:=pI X.kind g hr hx hl
    have hmem:=qi hm2 Aq
    have hT: ∀n o,look cg n=some o→ ∃x v1,look st.hp n=some x∧fu x o=some v1:=fun n o hl=>by
     obtain⟨x,v1,p1,p2,_⟩:=hmem n o (bt hl)
     exact⟨x,v1,p1,p2⟩
    have hres:=rE hT h1 hm1 rY t1
    refine⟨iv.defers,_,h3,env',_,rfl,iv.kept,⟨fun n o hl=> ?_,fun n m o o' hne ng fP=> ?_⟩,fun n o hl b hb=> ?_,fun n hp=>g.pins n hp,?_⟩
    ·obtain⟨x,v1,p1,p2,p3⟩:=hmem n o (bt hl)
     have hro:=g.obj n x p1
     cases x with
     |arr t l=>
      cases o with
      |box d=>simp[fu]at p2
      |dh t' l' s'=>simp[fu]at p2
      |arr t' l'=>
       simp only[fu]at p2
       split at p2
       ·rename_i l2 hc
        simp only[Option.some.injEq]at p2
        subst p2
        have e2:=p3 _ (List.mem_singleton.2 rfl)
        subst e2
        obtain⟨e,rfl⟩:=bk hc
        subst e
        exact AP (fun h=>h) hro
       ·cases p2
     |dh t l s=>cases o<;>simp[fu]at p2
     |box c=>
      cases o with
      |arr t' l'=>simp[fu]at p2
      |dh t' l' s'=>simp[fu]at p2
      |box d=>
       obtain⟨b,cs,e,q1,q2,q3⟩:=hro
       exact⟨b,cs,e,q1,q2,jE hT q3 p2 p3 (fun y hy=>List.all_eq_true.1 (t2 _ (bt hl)) y hy)⟩
    ·obtain⟨x,_,p1,_⟩:=hT n o ng
     obtain⟨y,_,p2,_⟩:=hT m o' fP
     exact g.eO n m x y hne p1 p2
    ·obtain⟨x,_,p1,_⟩:=hT n o hl
     exact g.dom n x p1 b hb
    ·match rs,vs,hres with
     | [r],[u],hres=>exact hres.1
     | [],[],hres=>exact⟨[],rfl,trivial⟩
     |r1::r2::r,u1::u2::u,hres=>exact⟨_,rfl,hres⟩
     | [],_::_,hres=>exact hres.elim
     |_::_,[],hres=>exact hres.elim
     | [_],_::_::_,hres=>exact hres.2.elim
     |_::_::_,[_],hres=>exact hres.2.elim
   ·cases cG
  ·cases cG
 rcases he with rfl|rfl<;>exact key
end
end Go.Proofs.YteodajeiagmekaaGreat.G
