/-
  Contracts of functions that are lent memory: from the walk through their bodies.
-/
import Derived.Test.YtjcojocjlglglaaGreatZReadPhaseM5
namespace Go.Proofs.YtjcojocjlglglaaGreat.G
set_option linter.all false
open Go.RowKit L D
variable{ty:Tag→Nat}
def pS(env:Env)(ρ:List (Nat×Nat)):Env:=fun n=>match look ρ n with|some m=>env m|none=>⟨yM,[]⟩
section
variable{P:Program}{zb:bK}{st st':St}{a:Act}{w:World}{env:Env}{Q:Exit→Act→World→Prop}{o:Oper}{ρ:List (Nat×Nat)}{dQ:Hp}
structure pT(st:St)(env:Env)(ρ:List (Nat×Nat))(dQ:Hp):Prop where
 at_: ∀n m,(n,m)∈ρ→look ρ n=some m
 obj: ∀n m,(n,m)∈ρ→ ∃x,look st.hp m=some x∧look dQ n=some (x.toF ρ)
 back: ∀n o,look dQ n=some o→ ∃m x,(n,m)∈ρ∧look st.hp m=some x∧o=x.toF ρ∧(gd m=true→gd n=true)∧(soft m=true→soft n=true)
 uniq:(ρ.map Prod.snd).Nodup
theorem pT.of{st:St}{env:Env}{dQ:Hp}(h:pQ st ρ ρ=some dQ)(h1:(ρ.map Prod.fst).Nodup)(h2:(ρ.map Prod.snd).Nodup):pT st env ρ dQ:=by
 obtain⟨q1,q2⟩:=xW h
 have hnd:(dQ.map Prod.fst).Nodup:=by rw[rj h];exact h1
 refine⟨fun n m hm=>cN h1 hm,fun n m hm=> ?_,fun n o hl=> ?_,h2⟩
 ·obtain⟨x,p1,p2⟩:=q2 n m hm
  exact⟨x,p1,cN hnd p2⟩
 ·obtain⟨m,x,p1,p2,p3,p4⟩:=q1 n o (cZ hl)
  exact⟨m,x,p1,p2,p3,p4⟩
theorem pT.en(L:pT st env ρ dQ){n m:Nat}(h:(n,m)∈ρ):pS env ρ n=env m:=by unfold pS;rw[L.at_ n m h]
theorem pT.ow(L:pT st env ρ dQ){b:Nat}(h:Ow dQ (pS env ρ) b): ∃n m x,(n,m)∈ρ∧look st.hp m=some x∧b∈(env m).fp:=by
 obtain⟨n,o,h1,h2⟩:=h
 obtain⟨m,x,p1,p2,_⟩:=L.back n o h1
 rw[L.en p1]at h2
 exact⟨n,m,x,p1,p2,h2⟩
theorem Di: ∀{ρ:List (Nat×Nat)} {n n' m:Nat},(ρ.map Prod.snd).Nodup→(n,m)∈ρ→(n',m)∈ρ→n=n'
 | (a,b)::r,n,n',m,hnd,h1,h2=>by
   obtain⟨q1,q2⟩:=List.nodup_cons.1 hnd
   rcases List.mem_cons.1 h1 with e1|e1<;>rcases List.mem_cons.1 h2 with e2|e2
   ·rw[Prod.mk.injEq]at e1 e2;rw[e1.1,e2.1]
   ·rw[Prod.mk.injEq]at e1;exact absurd (List.mem_map.2 ⟨_,e2,e1.2⟩) q1
   ·rw[Prod.mk.injEq]at e2;exact absurd (List.mem_map.2 ⟨_,e1,e2.2⟩) q1
   ·exact Di q2 e1 e2
theorem toF_ok(L:pT st env ρ dQ){v:V}{u:Value}(h:RA w st.hp env v u):RA w dQ (pS env ρ) (v.toF ρ) u:=by
 cases v with
 |lit x=>exact h
 |sl t l=>
  obtain⟨fp,h1,h2⟩:=h
  refine⟨fp,h1,fun b hb ho=>h2 b hb ?_⟩
  obtain⟨n,m,x,_,p2,p3⟩:=L.ow ho
  exact⟨m,x,p2,p3⟩
 |own m=>
  simp only[V.toF]
  split
  ·rename_i n hn
   obtain⟨⟨t,l,hl⟩,hu⟩:=h
   obtain⟨x,p1,p2⟩:=L.obj n m (iJ hn)
   rw[hl]at p1
   simp only[Option.some.injEq]at p1
   subst p1
   exact⟨⟨t,l,p2⟩,by rw[L.en (iJ hn)];exact hu⟩
  ·trivial
 |ptr m off=>
  simp only[V.toF]
  split
  ·rename_i n hn
   obtain⟨⟨c,hl⟩,hu⟩:=h
   obtain⟨x,p1,p2⟩:=L.obj n m (iJ hn)
   rw[hl]at p1
   simp only[Option.some.injEq]at p1
   subst p1
   exact⟨⟨_,p2⟩,by rw[L.en (iJ hn)];exact hu⟩
  ·trivial
 |uD f m=>
  simp only[V.toF]
  split
  ·rename_i n hn
   obtain⟨⟨c,hl⟩,hu⟩:=h
   obtain⟨x,p1,p2⟩:=L.obj n m (iJ hn)
   rw[hl]at p1
   simp only[Option.some.injEq]at p1
   subst p1
   exact⟨⟨_,p2⟩,by rw[L.en (iJ hn)];exact hu⟩
  ·trivial
 |_=>trivial
theorem Gk{w:World}{hp fY:Hp}{env env':Env}{n m:Nat}{t:Tag}{l:List (T t)}{co:CO}(hs:soft m=true→soft n=true)(h:RO ty w hp env m (.arr t l) co):RO ty w fY env' n (.arr t l) co:=by
 cases hm:soft m with
 |false=>exact RO.xG (RO.Ek hm h)
 |true=>exact RO.FL (hs hm) (RO.sl h) (RO.own h)
theorem EB(g:Good ty zb st a.tmps w env)(L:pT st env ρ dQ):AD ty w dQ (pS env ρ):=by
 refine⟨fun n o hl=> ?_,fun n n' o o' hne h1 h2 b hb hb'=> ?_⟩
 ·obtain⟨m,x,p1,p2,rfl,_,p4⟩:=L.back n o hl
  rw[L.en p1]
  have hro:=g.obj m x p2
  cases x with
  |arr t l=>exact Gk p4 hro
  |box c=>
   obtain⟨b,cs,e,h1,h2,h3⟩:=hro
   exact⟨b,cs,e,h1,h2,h3.map fun x y hr=>toF_ok L hr⟩
  |iM t l s=>
   obtain⟨h1,us,hB,h2,_⟩:=hro
   exact⟨h1,us,hB,h2,fun _ _ _ _ _=>trivial⟩
 ·obtain⟨m,x,p1,p2,_⟩:=L.back n o h1
  obtain⟨m',x',p1',p2',_⟩:=L.back n' o' h2
  rw[L.en p1]at hb
  rw[L.en p1']at hb'
  refine g.gK m m' x x' (fun e=> ?_) p2 p2' b hb hb'
  subst e
  exact hne (Di L.uniq p1 p1')
theorem Dj(g:Good ty zb st a.tmps w env)(L:pT st env ρ dQ){tg:Option Tag}{v v':V}{u:Value}(h:RA w st.hp env v u)(hf:IQ st ρ tg v=some v'):RA w dQ (pS env ρ) v' u:=by
 have ML:(∀n c t l,v≠ .mix n c t l)→(∀n,v≠ .s8 n)→(∀m,v.name=some m→inv ρ m=none)→jT st tg v=some v'→RA w dQ (pS env ρ) v' u:=by
  intro JS Qy hno hi
  have MM: ∀{m:Nat} {x:Obj},v.name=some m→look st.hp m=some x→ ∀b,b∈(env m).fp→ ¬Ow dQ (pS env ρ) b:=by
   intro m x hm hl b hb ho
   obtain⟨n,m',x',p1,p2,p3⟩:=L.ow ho
   have hne:m≠m':=by
    rintro rfl
    exact AE (hno m hm) (List.mem_map.2 ⟨_,p1,rfl⟩)
   exact g.gK m m' x x' hne hl p2 b hb p3
  cases v with
  |sl t l=>
   simp only[jT,Option.some.injEq]at hi
   subst hi
   exact toF_ok L h
  |own m=>
   simp only[jT]at hi
   split at hi
   ·rename_i t l hl
    simp only[Option.some.injEq]at hi
    subst hi
    obtain⟨_,hu⟩:=h
    refine⟨(env m).fp,?_,MM rfl hl⟩
    rw[hu];exact RO.sl (g.obj m _ hl)
   ·cases hi
  |vw m p t l=>
   simp only[jT,Option.some.injEq]at hi
   subst hi
   obtain⟨⟨tA,lA,hl⟩,⟨fp,hs,_,hsub⟩,_⟩:=h
   exact⟨fp,hs,fun b hb=>MM rfl hl b (hsub b hb)⟩
  |lit x=>
   unfold jT at hi
   split at hi
   ·rename_i he;cases he
   ·rename_i he;cases he
   ·rename_i he;cases he
   ·rename_i he;cases he
   ·rename_i he;cases he
   ·rename_i he
    simp only[V.lit.injEq]at he
    subst he
    obtain⟨hu,_⟩:=h
    split at hi
    ·simp only[Option.some.injEq]at hi
     subst hi
     refine⟨[],?_,by simp⟩
     rw[hu]
     exact⟨none,0,rfl,Nat.le_refl _,Nat.zero_le _,Or.inl ⟨rfl,rfl,fun _=>rfl⟩⟩
    ·cases hi
   ·cases hi
   ·rename_i he
    simp only[V.lit.injEq]at he
    subst he
    simp only[Option.some.injEq]at hi
    subst hi
    exact h
   ·cases hi
  |mix n c t l=>exact absurd rfl (JS n c t l)
  |s8 n=>exact absurd rfl (Qy n)
  |_=>simp[jT]at hi
 unfold IQ at hf
 split at hf
 ·rename_i m hm
  split at hf
  ·rename_i n hn
   have hF:=toF_ok L h
   split at hf
   ·rename_i m'
    simp only[V.name,Option.some.injEq]at hm
    subst hm
    simp only[Option.some.injEq]at hf
    subst hf
    simpa only[V.toF,hn]using hF
   ·rename_i m' off
    simp only[V.name,Option.some.injEq]at hm
    subst hm
    simp only[Option.some.injEq]at hf
    subst hf
    simpa only[V.toF,hn]using hF
   ·rename_i f m'
    simp only[V.name,Option.some.injEq]at hm
    subst hm
    simp only[Option.some.injEq]at hf
    subst hf
    simpa only[V.toF,hn]using hF
   ·cases hf
  ·rename_i hn
   split at hf
   ·cases hf
   ·cases hf
   ·rename_i h1 h2
    exact ML (fun n c t l e=>h1 n c t l e) (fun n e=>h2 n e) (fun k hk=>by rw[hm]at hk;simp only[Option.some.injEq]at hk;subst hk;exact hn) hf
 ·rename_i hm
  exact ML (fun n c t l e=>by rw[e]at hm;cases hm) (fun n e=>by rw[e]at hm;cases hm) (fun k hk=>by rw[hm]at hk;cases hk) hf
theorem AF(g:Good ty zb st a.tmps w env)(L:pT st env ρ dQ): ∀{vs vs':List V} {tg:List (Option Tag)} {us:List Value},aU (RA w st.hp env) vs us→AA st ρ tg vs=some vs'→aU (RA w dQ (pS env ρ)) vs' us
 | [],vs',tg,us,h,hf=>by
   simp only[AA,Option.some.injEq]at hf
   subst hf
   cases us with
   |nil=>trivial
   |cons _ _=>exact h.elim
 |v::r,vs',tg,us,h,hf=>by
  cases us with
  |nil=>exact h.elim
  |cons u us=>
   simp only[AA]at hf
   split at hf
   ·rename_i x y h1 h2
    simp only[Option.some.injEq]at hf
    subst hf
    exact⟨Dj g L h.1 h1,AF g L h.2 h2⟩
   ·cases hf
theorem AG(g:Good ty zb st a.tmps w env)(L:pT st env ρ dQ){Γ:Nat→TK}: ∀{xs:List Operand} {ts:List Nat} {as:List S1},AB Γ st ρ xs ts=some as→aU (eg w dQ (pS env ρ)) as (xs.map a.eval)
 | [],_,as,h=>by
   simp only[AB,Option.some.injEq]at h
   subst h;trivial
 |x::r,ts,as,h=>by
  simp only[AB]at h
  split at h
  ·rename_i v hv
   split at h
   ·rename_i y ys h1 h2
    simp only[Option.some.injEq]at h
    subst h
    have hr:=cH g (fun e he=>by simp at he) hv
    refine⟨?_,AG g L h2⟩
    cases v with
    |a v=>
     simp only[K0]at h1
     split at h1
     ·rename_i z hz
      simp only[Option.some.injEq]at h1
      subst h1
      exact Dj g L hr hz
     ·cases h1
    |agg l=>
     simp only[K0]at h1
     split at h1
     ·rename_i z hz
      simp only[Option.some.injEq]at h1
      subst h1
      obtain⟨cs,hu,hl⟩:=hr
      exact⟨cs,hu,AF g L hl hz⟩
     ·cases h1
   ·cases h
  ·cases h
theorem aU.append{α β:Type}{R:α→β→Prop}: ∀{as as':List α} {bs bs':List β},aU R as bs→aU R as' bs'→aU R (as++as') (bs++bs'):=aU.app
theorem Cb(g:Good ty zb st a.tmps w env)(L:pT st env ρ dQ){x:Operand}{xs:Array Operand}{ts:Array TypeId}(ho:o.op= .call ⟨.value x,xs,ts⟩){f:FuncId}{ex:List S1}(h:ze st ρ x=some (f,ex))(hS: ∀(args:Array Value) (w:World),(callFunc f args).run P w= .ok (.enter f args) w):
  ∃us,(execOp a.eval o).run P w= .ok (.enter f (xs.toList.map a.eval++us).toArray) w∧aU (eg w dQ (pS env ρ)) ex us:=by
 have hx:xs.map a.eval=(xs.toList.map a.eval).toArray:=by rw[←List.map_toArray]
 unfold ze at h
 split at h
 ·rename_i f' m hv
  split at h
  ·rename_i n hn
   simp only[Option.some.injEq,Prod.mk.injEq]at h
   obtain⟨rfl,rfl⟩:=h
   have hr:=cH g (fun e he=>by simp at he) hv
   have hA:RA w st.hp env (.uD f' m) (a.eval x):=hr
   obtain⟨⟨c,hl⟩,b,hb,hu⟩:=hA
   refine⟨[.pointer (some ⟨b,0,none⟩)],?_,?_,trivial⟩
   ·unfold execOp
    simp[ho,resolve,invoke,Deferred.ofValue,hu,hS]
    rw[hx];simp
   ·obtain⟨y,p1,p2⟩:=L.obj n m (iJ hn)
    rw[hl]at p1
    simp only[Option.some.injEq]at p1
    subst p1
    exact⟨⟨_,p2⟩,b,by rw[L.en (iJ hn)];exact hb,rfl⟩
  ·cases h
 ·rename_i v _ hv
  split at h
  ·rename_i f' hf
   simp only[Option.some.injEq,Prod.mk.injEq]at h
   obtain⟨rfl,rfl⟩:=h
   have h0:=C4 (cH g (fun e he=>by simp at he) hv) hf
   refine⟨[],?_,trivial⟩
   unfold execOp
   simp[ho,resolve,invoke,Deferred.ofValue,h0,hS]
   exact hx
  ·cases h
 ·cases h
theorem toA_ok{w:World}{dy Gl:Hp}{iU env':Env}{ρ:List (Nat×Nat)}(hn: ∀n m,look ρ n=some m→ ∀o,look dy n=some o→(∃o',look Gl m=some o'∧o.toA ρ=some o')∧env' m=iU n){v v':V}{u:Value}(h:RA w dy iU v u)(hv:v.toA ρ=some v'):RA w Gl env' v' u:=by
 cases v with
 |any=>simp only[V.toA,Option.some.injEq]at hv;subst hv;trivial
 |lit x=>simp only[V.toA,Option.some.injEq]at hv;subst hv;exact h
 |own n=>
  simp only[V.toA]at hv
  split at hv
  ·rename_i m hm
   simp only[Option.some.injEq]at hv
   subst hv
   obtain⟨⟨t,l,hl⟩,hu⟩:=h
   obtain⟨⟨o',q1,q2⟩,q3⟩:=hn n m hm _ hl
   simp only[Obj.toA,Option.some.injEq]at q2
   subst q2
   exact⟨⟨t,l,q1⟩,by rw[q3];exact hu⟩
  ·cases hv
 |ptr n off=>
  simp only[V.toA]at hv
  split at hv
  ·rename_i m hm
   simp only[Option.some.injEq]at hv
   subst hv
   obtain⟨⟨c,hl⟩,hu⟩:=h
   obtain⟨⟨o',q1,q2⟩,q3⟩:=hn n m hm _ hl
   simp only[Obj.toA]at q2
   split at q2
   ·simp only[Option.some.injEq]at q2
    subst q2
    exact⟨⟨_,q1⟩,by rw[q3];exact hu⟩
   ·cases q2
  ·cases hv
 |_=>simp[V.toA]at hv
theorem toAs_ok{w:World}{dy Gl:Hp}{iU env':Env}{ρ:List (Nat×Nat)}(hn: ∀n m,look ρ n=some m→ ∀o,look dy n=some o→(∃o',look Gl m=some o'∧o.toA ρ=some o')∧env' m=iU n): ∀{vs vs':List V} {us:List Value},aU (RA w dy iU) vs us→toAs ρ vs=some vs'→aU (RA w Gl env') vs' us
 | [],vs',us,h,hv=>by
   simp only[toAs,Option.some.injEq]at hv
   subst hv
   cases us with
   |nil=>trivial
   |cons _ _=>exact h.elim
 |v::r,vs',us,h,hv=>by
  cases us with
  |nil=>exact h.elim
  |cons u us=>
   simp only[toAs]at hv
   split at hv
   ·rename_i x y h1 h2
    simp only[Option.some.injEq]at hv
    subst hv
    exact⟨toA_ok hn h.1 h1,toAs_ok hn h.2 h2⟩
   ·cases hv
theorem Gm{w:World}{dy Gl:Hp}{iU env':Env}{ρ:List (Nat×Nat)}(hn: ∀n m,look ρ n=some m→ ∀o,look dy n=some o→(∃o',look Gl m=some o'∧o.toA ρ=some o')∧env' m=iU n){v v':S1}{u:Value}(h:eg w dy iU v u)(hv:v.toA ρ=some v'):eg w Gl env' v' u:=by
 cases v with
 |a v=>
  simp only[S1.toA]at hv
  split at hv
  ·rename_i x hx
   simp only[Option.some.injEq]at hv
   subst hv
   exact toA_ok hn h hx
  ·cases hv
 |agg l=>
  simp only[S1.toA]at hv
  split at hv
  ·rename_i x hx
   simp only[Option.some.injEq]at hv
   subst hv
   obtain⟨cs,hu,hl⟩:=h
   exact⟨cs,hu,toAs_ok hn hl hx⟩
  ·cases hv
theorem Cc{w:World}{dy Gl:Hp}{iU env':Env}{ρ:List (Nat×Nat)}(hn: ∀n m,look ρ n=some m→ ∀o,look dy n=some o→(∃o',look Gl m=some o'∧o.toA ρ=some o')∧env' m=iU n): ∀{vs vs':List S1} {us:List Value},aU (eg w dy iU) vs us→IS ρ vs=some vs'→aU (eg w Gl env') vs' us
 | [],vs',us,h,hv=>by
   simp only[IS,Option.some.injEq]at hv
   subst hv
   cases us with
   |nil=>trivial
   |cons _ _=>exact h.elim
 |v::r,vs',us,h,hv=>by
  cases us with
  |nil=>exact h.elim
  |cons u us=>
   simp only[IS]at hv
   split at hv
   ·rename_i x y h1 h2
    simp only[Option.some.injEq]at hv
    subst hv
    exact⟨Gm hn h.1 h1,Cc hn h.2 h2⟩
   ·cases hv
theorem Dk{ρ:List (Nat×Nat)}: ∀{vs vs':List S1},IS ρ vs=some vs'→vs'.length=vs.length
 | [],vs',h=>by simp only[IS,Option.some.injEq]at h;subst h;rfl
 |v::r,vs',h=>by
  simp only[IS]at h
  split at h
  ·rename_i x y h1 h2
   simp only[Option.some.injEq]at h
   subst h
   rw[List.length_cons,List.length_cons,Dk h2]
  ·cases h
theorem IT{Γ:Nat→TK}{cr:List (Nat×CR)}{d:Option Nat}{vc:List Prop}{v:SV}(h:Gj P ty Γ cr st d o.op=some (vc,st',v))(g:Good ty zb st a.tmps w env)(hB:zb.w.heap.size≤w.heap.size)(hA:yN zb)(hN:xE w)(hv: ∀q,q∈vc→q):
  (∀k,v.mentions k=false)∧o.wp P a w (fun a' w'=> ∃u env',a'=a.put o.dst u∧Kept zb w w'∧Good ty zb st' a.tmps w' env'∧st'.n=st.n∧lS w' st'.hp env' a.tmps v u) Q:=by
 generalize dM:o.op=op at h
 cases op with
 |call c=>
  obtain⟨callee,xs,ts⟩:=c
  cases callee with
  |value x=>
   simp only[Gj]at h
   split at h
   case h_2=>cases h
   rename_i _ ca cb cc os _ rs _ _
   split at h
   case h_2=>cases h
   rename_i ρ0 ρ1 ns _ _ _
   split at h
   case h_2=>cases h
   rename_i dy dQ f ex as _ JV Oq hargs
   split at h
   case h_2=>cases h
   rename_i B Oo vp tN
   split at h
   case h_2=>cases h
   rename_i MN
   simp only[Bool.and_eq_true]at MN
   obtain⟨⟨⟨⟨⟨⟨c1,c2⟩,c3⟩,c4⟩,c5⟩,c6⟩,c7⟩:=MN
   simp only[Option.some.injEq,Prod.mk.injEq,cI]at h
   obtain⟨rfl,rfl,rfl⟩:=h
   have hS:qZ ty P f dQ (as++ex) dy rs:=hv _ (List.mem_singleton.2 rfl)
   have Gn:=fQ c1
   rw[List.map_append]at Gn
   have MP:=(List.nodup_append.1 Gn).1
   have L:pT st env ρ0 dQ:=pT.of JV MP (fQ c2)
   refine⟨fun k=>by split<;>rfl,?_⟩
   have IU: ∀b,b∈pR dQ (pS env ρ0)→ ∃m x,m∈ρ0.map Prod.snd∧look st.hp m=some x∧b∈(env m).fp:=by
    intro b hb
    obtain⟨e,he,Ic⟩:=List.mem_flatMap.1 hb
    have Ot:(dQ.map Prod.fst).Nodup:=by rw[rj JV];exact MP
    obtain⟨m,x,p1,p2,_⟩:=L.back e.1 e.2 (cN Ot he)
    rw[L.en p1]at Ic
    exact⟨m,x,List.mem_map.2 ⟨_,p1,rfl⟩,p2,Ic⟩
   have Ou: ∀b,b∈pR dQ (pS env ρ0)→b∈zb.L∨zb.w.heap.size≤b:=by
    intro b hb
    obtain⟨m,x,_,p2,p3⟩:=IU b hb
    exact g.dom m x p2 b p3
   obtain⟨us,hrun,hex⟩:=Cb (P:=P) g L dM Oq hS.1
   unfold Oper.wp
   rw[hrun]
   simp only[Oper.upon]
   refine(hS.2 w (pS env ρ0) _ hN (fun b h0 hb=>hA.free (Ou b hb) h0) (EB g L) (aU.app (AG g L hargs) hex)).mono ?_
   rintro e w' ⟨iU,u,rfl,hK,⟨Qz,QA⟩,eN,wV,hres⟩
   have MQ: ∀n m,(n,m)∈ρ0→look (ρ0++ρ1) n=some m:=fun n m hm=>cN (by rw[List.map_append];exact Gn) (List.mem_append_left _ hm)
   have K3:=nx c3
   have MR:=nx c4
   have Ov: ∀{n m n':Nat} {o1 o2:Obj},(n,m,o1)∈B→(n',m,o2)∈B→n=n':=by
    intro n m n' o1 o2 h1 h2
    have: ∀{B:List (Nat×Nat×Obj)},((tP B).map Prod.fst).Nodup→(n,m,o1)∈B→(n',m,o2)∈B→n=n':=by
     intro B
     induction B with
     |nil=>intro _ h;cases h
     |cons x r ih=>
      intro hnd h1 h2
      obtain⟨q1,q2⟩:=List.nodup_cons.1 (show((x.2.1)::(tP r).map Prod.fst).Nodup from hnd)
      have hin: ∀{k:Nat} {o:Obj},(k,m,o)∈r→m∈(tP r).map Prod.fst:=fun h=>List.mem_map.2 ⟨(m,_),List.mem_map.2 ⟨_,h,rfl⟩,rfl⟩
      rcases List.mem_cons.1 h1 with e1|e1<;>rcases List.mem_cons.1 h2 with e2|e2
      ·rw[←e1]at e2;simp only[Prod.mk.injEq]at e2;exact e2.1.symm
      ·rw[←e1]at q1;exact absurd (hin e2) q1
      ·rw[←e2]at q1;exact absurd (hin e1) q1
      ·exact ih q2 e1 e2
    exact this MR h1 h2
   have MS: ∀{n m:Nat} {o':Obj},(n,m,o')∈B→look (tP B) m=some o'∧wW B m=some n:=by
    intro n m o' hm
    have h1:look (tP B) m=some o':=cN MR (List.mem_map.2 ⟨_,hm,rfl⟩)
    obtain⟨n',h2,h3⟩:=iN h1
    rw[Ov hm h2]
    exact⟨h1,h3⟩
   let env':Env:=fun m=>match wW B m with|some n=>iU n|none=>env m
   have AH: ∀{n m:Nat} {o':Obj},(n,m,o')∈B→env' m=iU n:=by
    intro n m o' hm
    show(match wW B m with|some n=>iU n|none=>env m)=iU n
    rw[(MS hm).2]
   have Dl: ∀{m:Nat},look (tP B) m=none→env' m=env m:=by
    intro m hm
    show(match wW B m with|some n=>iU n|none=>env m)=env m
    rw[xU hm]
   have hn: ∀n m,look (ρ0++ρ1) n=some m→ ∀o,look dy n=some o→(∃o',look (tP B) m=some o'∧o.toA (ρ0++ρ1)=some o')∧env' m=iU n:=by
    intro n m hm o hl
    obtain⟨m',o',q1,q2,q3⟩:=xV vp n o (cZ hl)
    rw[hm]at q2
    simp only[Option.some.injEq]at q2
    subst q2
    exact⟨⟨o',(MS q1).1,q3⟩,AH q1⟩
   have hfr:=xX c5
   have hlk: ∀m o,look (tP B++vo (ρ0.map Prod.snd) ((ρ0.filter fun e=> !gd e.1).map Prod.snd) st.hp) m=some o→(∃n o1,look (tP B) m=some o∧look dy n=some o1∧o1.toA (ρ0++ρ1)=some o∧env' m=iU n∧(gd m=true→gd n=true)∧(soft n=true→soft m=true))∨(look (tP B) m=none∧m∉ρ0.map Prod.snd∧ ∃x,look st.hp m=some x∧o=x.bl ((ρ0.filter fun e=> !gd e.1).map Prod.snd) (ρ0.map Prod.snd)∧env' m=env m):=by
    intro m o hm
    cases hq:look (tP B) m with
    |some o2=>
     rw[aY hq]at hm
     simp only[Option.some.injEq]at hm
     subst hm
     obtain⟨n,h1,_⟩:=iN hq
     obtain⟨o1,p1,p2,p3,p4,p5⟩:=gB vp n m _ h1
     exact Or.inl ⟨n,o1,rfl,cN K3 p1,p3,AH h1,p4,p5⟩
    |none=>
     rw[aG hq,kX]at hm
     split at hm
     ·cases hm
     ·rename_i hnk
      cases hx:look st.hp m with
      |none=>rw[hx]at hm;cases hm
      |some x=>
       rw[hx]at hm
       simp only[Option.map_some,Option.some.injEq]at hm
       exact Or.inr ⟨rfl,hnk,x,rfl,hm.symm,Dl hq⟩
   have hold: ∀m x,m∉ρ0.map Prod.snd→look st.hp m=some x→look (tP B) m=none:=by
    intro m x hnk hx
    cases hq:look (tP B) m with
    |none=>rfl
    |some o2=>
     have:=hfr m o2 hq
     rw[kX,if_neg hnk,hx]at this
     cases this
   have hst: ∀m x,m∉ρ0.map Prod.snd→look st.hp m=some x→ ∀b,b∈(env m).fp→w'.heap[b]? =w.heap[b]? :=by
    intro m x hnk hx b hb
    refine hK.block b ((g.obj m x hx).oo b hb) fun hL=> ?_
    obtain⟨m',x',p1,p2,p3⟩:=IU b hL
    exact g.gK m m' x x' (fun e=>hnk (e▸p1)) hx p2 b hb p3
   have hnew: ∀{m n:Nat} {o1:Obj},look dy n=some o1→ ∀b,b∈(iU n).fp→b<w.heap.size→ ∃m' x',m'∈ρ0.map Prod.snd∧look st.hp m'=some x'∧b∈(env m').fp:=by
    intro m n o1 hl b hb hlt
    rcases eN n o1 hl b hb with h|h
    ·exact IU b h
    ·omega
   have s:mm ((ρ0.filter fun e=> !gd e.1).map Prod.snd) (ρ0.map Prod.snd) w st.hp env w' (tP B++vo (ρ0.map Prod.snd) ((ρ0.filter fun e=> !gd e.1).map Prod.snd) st.hp) env':=by
    refine⟨fun b hb hno=>hK.block b hb fun hL=> ?_,?_,?_,?_⟩
    ·obtain⟨m,x,_,p2,p3⟩:=IU b hL
     exact hno ⟨m,x,p2,p3⟩
    ·rintro b hb ⟨m,o',h1,h2⟩
     rcases hlk m o' h1 with⟨n,o1,_,q2,_,q4,_⟩| ⟨_,_,x,q3,_,q5⟩
     ·rw[q4]at h2
      obtain⟨m',x',_,p2,p3⟩:=hnew (m:=m) q2 b h2 hb
      exact⟨m',x',p2,p3⟩
     ·rw[q5]at h2
      exact⟨m,x,q3,h2⟩
    ·intro m o' hks h1
     by_cases hkv:m∈ρ0.map Prod.snd
     ·obtain⟨e,he,rfl⟩:=List.mem_map.1 hkv
      have PB:gd e.1=true:=by
       cases hp:gd e.1 with
       |true=>rfl
       |false=>exact absurd (List.mem_map.2 ⟨e,List.mem_filter.2 ⟨he,by simp[hp]⟩,rfl⟩) hks
      have De:=List.all_eq_true.1 c6 e he
      rw[PB]at De
      simp only[Bool.not_true,Bool.false_or,Bool.and_eq_true]at De
      obtain⟨x,p1,p2⟩:=L.obj e.1 e.2 he
      rw[h1]at p1
      simp only[Option.some.injEq]at p1
      subst p1
      rw[p2]at De
      cases Ox:look dy e.1 with
      |none=>rw[Ox]at De;simp[vn]at De
      |some o1=>
       rw[Ox]at De
       obtain⟨⟨o2,q1,q2⟩,q3⟩:=hn e.1 e.2 (MQ e.1 e.2 he) o1 Ox
       refine⟨o2,aY q1,?_,by rw[q3,(wV e.1 PB).1,L.en he]⟩
       cases o' with
       |arr t l=>simp[Obj.toF,vn]at De
       |iM t l s=>simp[Obj.toF,vn]at De
       |box c=>
        cases o1 with
        |arr t l=>simp[vn]at De
        |iM t l s=>simp[vn]at De
        |box c1=>
         simp only[Obj.toA]at q2
         split at q2
         ·simp only[Option.some.injEq]at q2;subst q2;trivial
         ·cases q2
     ·have hno:=hold m o' hkv h1
      refine⟨o'.bl _ _,by rw[aG hno,kX,if_neg hkv,h1];rfl,by cases o'<;>simp[Obj.like,Obj.bl],by rw[Dl hno]⟩
    ·rintro m t' l' ⟨_,hkv⟩ h1
     have hno:=hold m _ hkv h1
     refine⟨by rw[aG hno,kX,if_neg hkv,h1];rfl,Dl hno,hst m _ hkv h1⟩
   have Gp:=g.fZ s (fun m o' hm=> ?_) (fun m m' o1 o2 hne h1 h2 b hb hb'=> ?_) (fun m o' hm b hb=> ?_) (fun m hm=> ?_)
   ·refine⟨u,env',rfl,Kept.KO hK hB Ou,Gp,by first|trivial|rfl,?_⟩
    have h1: ∀{hp:Hp},(∀m o,look (tP B) m=some o→look hp m=some o)→(∀n m,look (ρ0++ρ1) n=some m→ ∀o,look dy n=some o→(∃o',look hp m=some o'∧o.toA (ρ0++ρ1)=some o')∧env' m=iU n):=by
     intro hp hh n m hm o hl
     obtain⟨⟨o',p1,p2⟩,p3⟩:=hn n m hm o hl
     exact⟨⟨o',hh m o' p1,p2⟩,p3⟩
    have h2:=h1 (hp:=tP B++vo (ρ0.map Prod.snd) ((ρ0.filter fun e=> !gd e.1).map Prod.snd) st.hp) (fun m o hm=>aY hm)
    have hlen:=Dk tN
    match rs,Oo,tN,hres,hlen with
    | [r],[ra],tN,hres,_=>
      simp only[IS]at tN
      split at tN
      ·rename_i x y e1 e2
       simp only[Option.some.injEq,List.cons.injEq]at e2 tN
       obtain⟨rfl,_⟩:=tN
       exact Gm h2 hres e1
      ·cases tN
    | [],[],tN,⟨us',hu,hall⟩,_=>exact⟨us',hu,Cc h2 hall tN⟩
    |r1::r2::r,x1::x2::xr,tN,⟨us',hu,hall⟩,_=>exact⟨us',hu,Cc h2 hall tN⟩
    | [],_::_,_,_,hl=>cases hl
    | [_],[],_,_,hl=>cases hl
    | [_],_::_::_,_,_,hl=>simp at hl
    |_::_::_,[],_,_,hl=>simp at hl
    |_::_::_,[_],_,_,hl=>simp at hl
   ·rcases hlk m o' hm with⟨n,o1,q1,q2,q3,q4,_,q6⟩| ⟨q1,q2,x,q3,rfl,q5⟩
    ·rw[q4]
     have hro:=Qz n o1 q2
     cases o1 with
     |arr t l=>
      simp only[Obj.toA,Option.some.injEq]at q3
      subst q3
      exact Gk q6 hro
     |iM t l s=>cases q3
     |box c=>
      simp only[Obj.toA]at q3
      split at q3
      ·rename_i c' BB
       simp only[Option.some.injEq]at q3
       subst q3
       obtain⟨b,cs,e,h1,h2,h3⟩:=hro
       refine⟨b,cs,e,h1,h2,toAs_ok (dy:=dy) (iU:=iU) ?_ h3 BB⟩
       intro n m hm o hl
       obtain⟨⟨o',p1,p2⟩,p3⟩:=hn n m hm o hl
       exact⟨⟨o',aY p1,p2⟩,p3⟩
      ·cases q3
    ·rw[q5]
     exact(g.obj m x q3).fZ s (hst m x q2 q3)
   ·rcases hlk m o1 h1 with⟨n,p1,q1,q2,q3,q4,_⟩| ⟨q1,q2,x,q3,_,q5⟩<;>rcases hlk m' o2 h2 with⟨n',p1',PC,Oy,NU,Oz,_⟩| ⟨PC,Oy,x',NU,_,PD⟩
    ·rw[q4]at hb
     rw[Oz]at hb'
     obtain⟨k1,k2,k3⟩:=iN q1
     obtain⟨PE,NV,PF⟩:=iN PC
     have e1:=AH k2
     have e2:=AH NV
     have OA:k1≠PE:=by
      rintro rfl
      obtain⟨_,_,z1,_⟩:=gB vp _ _ _ k2
      obtain⟨_,_,z2,_⟩:=gB vp _ _ _ NV
      rw[z1]at z2
      simp only[Option.some.injEq]at z2
      exact hne z2
     rw[q4]at e1
     rw[Oz]at e2
     rw[e1]at hb
     rw[e2]at hb'
     obtain⟨y1,z1,_⟩:=gB vp _ _ _ k2
     obtain⟨y2,z2,_⟩:=gB vp _ _ _ NV
     exact QA k1 PE y1 y2 OA (cN K3 z1) (cN K3 z2) b hb hb'
    ·rw[q4]at hb
     rw[PD]at hb'
     have hlt:=(g.obj m' x' NU).oo b hb'
     obtain⟨k,y,p1,p2,p3⟩:=hnew (m:=m) q2 b hb hlt
     exact g.gK m' k x' y (fun e=>Oy (e▸p1)) NU p2 b hb' p3
    ·rw[q5]at hb
     rw[Oz]at hb'
     have hlt:=(g.obj m x q3).oo b hb
     obtain⟨k,y,p1,p2,p3⟩:=hnew (m:=m') Oy b hb' hlt
     exact g.gK m k x y (fun e=>q2 (e▸p1)) q3 p2 b hb p3
    ·rw[q5]at hb
     rw[PD]at hb'
     exact g.gK m m' x x' hne q3 NU b hb hb'
   ·rcases hlk m o' hm with⟨n,p1,q1,q2,q3,q4,_⟩| ⟨q1,q2,x,q3,_,q5⟩
    ·rw[q4]at hb
     rcases eN n p1 q2 b hb with h|h
     ·exact Ou b h
     ·exact Or.inr (by omega)
    ·rw[q5]at hb
     exact g.dom m x q3 b hb
   ·cases hq:look (tP B) m with
    |none=>rw[Dl hq];exact g.pins m hm
    |some o2=>
     obtain⟨n,h1,_⟩:=iN hq
     obtain⟨_,_,p2,_,p4,_⟩:=gB vp n m _ h1
     have My:=p4 hm
     have hin:(n,m)∈ρ0:=by
      rcases List.mem_append.1 (cZ p2)with h|h
      ·exact h
      ·have:=List.all_eq_true.1 c7 _ h
       simp only[hm]at this;cases this
     rw[AH h1]
     obtain⟨k1,k2⟩:=wV n My
     rw[L.en hin]at k1 k2
     obtain⟨j1,j2⟩:=g.pins m hm
     exact⟨k1.trans j1,fun b hb=>j2 b (k2 b hb)⟩
  |_=>simp[Gj]at h
 |_=>simp[Gj]at h
end
end Go.Proofs.YtjcojocjlglglaaGreat.G
namespace Go.Proofs.YtjcojocjlglglaaGreat.G
set_option linter.all false
open Go.RowKit L D
variable{ty:Tag→Nat}
def MT(hp:Hp)(n m:Nat)(t:Tag)(l:List (T t)):Hp:=(m, .iM t l .jT)::bM [n] [] hp
def Cd(P:Program)(ty:Tag→Nat)(Γ:Nat→TK)(st:St)(m0:Nat):Op→Option (List Prop×St×SV)
 | .call ⟨.builtin .append,xs,ts⟩=>match xs.toList,ts.toList with
   | [s,x],[t1,t2]=>match Γ t1,Nat.beq t1 t2 with
     | .sl t e,true=>match Nat.beq e (ty t),Nat.beq (kk t) 1,ep st [] s,ep st [] x with
       |true,true,some (.a (.s8 n)),some (.a (.sl PG lx))=>match look st.hp n,gy t PG lx with
        |some (.iM t' l .jT),some lx=>match gy t t' l,pinned [n],gd m0,look (bM [n] [] st.hp) m0 with
         |some l,false,false,none=>some ([El P ty t,(l.length+lx.length)*cE t≤140737488355328∧l.length+lx.length≤maxLen],
           ⟨st.n,st.sl.map fun e=>(e.1,e.2.bl [n] []),MT st.hp n m0 t (l++lx)⟩, .one (.a (.s8 m0)))
         |_,_,_,_=>none
        |_,_=>none
       |_,_,_,_=>none
     |_,_=>none
   |_,_=>none
 |_=>none
section
variable{P:Program}{zb:bK}{st st':St}{a:Act}{w:World}{env:Env}{Q:Exit→Act→World→Prop}{o:Oper}
theorem sI{α β:Type}(l:List α):(l.map fun _=>([]:List β)).flatten= []:=by
 induction l with
 |nil=>rfl
 |cons _ _ ih=>simpa using ih
theorem IV{Γ:Nat→TK}(C: ∀t,bG P t (Γ t)){m0:Nat}{vc:List Prop}{v:SV}(h:Cd P ty Γ st m0 o.op=some (vc,st',v))(g:Good ty zb st a.tmps w env)(hB:zb.w.heap.size≤w.heap.size)(hv: ∀q,q∈vc→q):
  o.wp P a w (fun a' w'=> ∃u env',a'=a.put o.dst u∧Kept zb w w'∧Good ty zb st' a.tmps w' env'∧st'.n=st.n∧lS w' st'.hp env' a.tmps v u) Q:=by
 have hop: ∀{x v},ep st [] x=some v→eg w st.hp env v (a.eval x):=fun hx=>cH g (fun e he=>by simp at he) hx
 generalize dM:o.op=op at h
 cases op with
 |call c=>
  obtain⟨callee,xs,ts⟩:=c
  cases callee with
  |builtin b=>
   cases b with
   |append=>
    simp only[Cd]at h
    split at h
    case h_2=>cases h
    rename_i s x t1 t2 hxl htl
    obtain rfl:xs= #[s,x]:=by cases xs;simp_all
    obtain rfl:ts= #[t1,t2]:=by cases ts;simp_all
    split at h
    case h_2=>cases h
    rename_i t e hk B8
    have B8:=Nat.eq_of_beq_eq_true B8
    subst B8
    split at h
    case h_2=>cases h
    rename_i n PG IW he hk1 hs hx
    have he:=Nat.eq_of_beq_eq_true he
    have hk1:=Nat.eq_of_beq_eq_true hk1
    split at h
    case h_2=>cases h
    rename_i t' l0 lx hl hcx
    split at h
    case h_2=>cases h
    rename_i l xK hpk B2 hlk
    simp only[Option.some.injEq,Prod.mk.injEq]at h
    obtain⟨rfl,rfl,rfl⟩:=h
    obtain⟨e1,rfl⟩:=cD hcx
    subst e1
    obtain⟨e2,rfl⟩:=cD xK
    subst e2
    have nX:El P ty t':=hv _ (by simp)
    obtain⟨aH,bk⟩:(l0.length+IW.length)*cE t'≤140737488355328∧l0.length+IW.length≤maxLen:=hv _ (by simp)
    obtain⟨_,hu⟩:=hop hs
    obtain⟨Rw,QB,QC⟩:=hop hx
    obtain⟨_,us,PI,B1,Ic⟩:=g.obj n _ hl
    obtain⟨news,fx,n1,n2,n3,n4,n5⟩:=pL (cY t') (gA t') QB
    rw[hk1]at n3 n4
    have hC:=C t1
    rw[hk]at hC
    have hone: ∀(i:Nat) (y:Value),news[i]? =some y→y.oneCell'=true∧ ∀x,IW[i]? =some x→ ∃f,rd t' w [y] x f∧ ∀b,b∈f→ ¬Ow st.hp env b:=by
     intro i y hy
     have hi:i<news.length:=(List.getElem?_eq_some_iff.1 hy).1
     have hx':IW[i]? =some (IW[i]'(by omega)):=List.getElem?_eq_getElem (by omega)
     have hf':fx[i]? =some (fx[i]'(by omega)):=List.getElem?_eq_getElem (by omega)
     have hr:=n4 i _ _ hx' hf'
     have QD:(news.drop (i*1)).take 1= [y]:=by
      rw[Nat.mul_one,List.drop_eq_getElem_cons hi]
      have:news[i]=y:=(List.getElem?_eq_some_iff.1 hy).2
      rw[this];rfl
     rw[QD]at hr
     refine⟨(cY t').one hr y (by simp),fun x hx=> ?_⟩
     rw[hx']at hx
     simp only[Option.some.injEq]at hx
     subst hx
     exact⟨_,hr,fun b hb=>QC b (n5.subset (List.mem_flatten.2 ⟨_,List.getElem_mem _,hb⟩))⟩
    have PJ:fD 1 FK 0 (ty t') w (a.eval s) us (env n).fp:=by rw[hu];exact PI
    have Ks:(P.info? (ty t')).map (fun i=>(i.zero,i.size,i.bytes))=some (some (cT t'),1,cE t'):=by rw[←hk1];exact nX
    refine yC s x t1 dM pG (by decide) 0 (ty t') (cT t') (cE t') (by rw[←he];exact hC.1) Ks (by rw[←hk1];exact kP t') _ us (env n).fp rfl PJ _ rfl news news (news.map fun _=> [])
     (by rw[show news.length=IW.length by omega];exact n1) (by simp) (by omega) (fun i y f hy hf=> ?_) (by rw[sI,List.append_nil];exact PI.own) (by rw[B1,show news.length=IW.length by omega];exact bk) (by rw[B1,show news.length=IW.length by omega];exact aH) (Nat.zero_le _) ?_
    ·have hi:i<news.length:=(List.getElem?_eq_some_iff.1 hy).1
     have OB:f= []:=by
      rw[List.getElem?_map,hy]at hf
      simpa using hf.symm
     subst OB
     refine⟨?_,rfl,(hone i y hy).1⟩
     rw[Nat.mul_one,List.drop_eq_getElem_cons hi]
     have:news[i]=y:=(List.getElem?_eq_some_iff.1 hy).2
     rw[this];rfl
    ·intro v' w' dZ k1 k2 k3 k4 k5 _
     have xP: ∀b,(a.eval s).ownBlock=some b→b∈(env n).fp:=by
      intro b hb
      obtain⟨xs,aQ,_,_,_,eN,_⟩:=PJ
      rw[eN,hb];simp
     obtain⟨env',hg',Db,_,_⟩:=qX (ty:=ty) g hB (ks:= [n]) hpk B2 hlk (v:=a.eval s) (v':=v') (ob:= .iM t' (l0++IW) .jT) (fp:=(env n).fp) (fx:= []) (dZ:=dZ)
      (by
       intro b hb
       rw[List.append_nil]at hb
       exact⟨n,_,by simp,hl,hb⟩)
      xP
      (by
       intro OC hd s2
       refine⟨hk1,us++news,k1,by rw[List.length_append,List.length_append,B1];omega,fun i x u hx JW=> ?_⟩
       by_cases hi:i<l0.length
       ·rw[List.getElem?_append_left hi]at hx
        rw[List.getElem?_append_left (by omega)]at JW
        exact BE.fZ s2 (r:= .jT) (Ic i x u hx JW)
       ·rw[List.getElem?_append_right (by omega)]at hx
        rw[List.getElem?_append_right (by omega),B1]at JW
        exact BE.fZ s2 (r:= .jT) ((hone _ u JW).2 x hx))
      k2 (by intro b hb;rcases k4 b hb with h|h|h
             ·exact Or.inl h
             ·rw[sI]at h;cases h
             ·exact Or.inr (Or.inr h))
     refine⟨v',env',rfl,⟨k2.os,k2.tape,k2.output,k2.size,fun b hb hn=>k2.block b (by omega) fun e=> ?_,k5⟩,hg',rfl,⟨t',_,_,look_eq⟩,Db.symm⟩
     rcases g.dom n _ hl b (xP b e.symm)with h|h
     ·exact hn h
     ·omega
   |_=>simp[Cd]at h
  |_=>simp[Cd]at h
 |_=>simp[Cd]at h
end
end Go.Proofs.YtjcojocjlglglaaGreat.G
namespace Go.Proofs.YtjcojocjlglglaaGreat.G
set_option linter.all false
open Go.RowKit L D
variable{ty:Tag→Nat}
def fV:V→Option V
 | .any=>some .any
 | .lit (.int k n)=>some (.lit (.int k n))
 | .lit (.bool b)=>some (.lit (.bool b))
 | .lit (.string s)=>some (.lit (.string s))
 | .lit v=>some (.lit v)
 | .sl t l=>some (.sl t l)
 | .own n=>some (.own n)
 | .ptr n o=>some (.ptr n o)
 | .jm n i o=>some (.jm n i o)
 | .ip t x o=>some (.ip t x o)
 | .vw n p t l=>some (.vw n p t l)
 | .wL n p t x o=>some (.wL n p t x o)
 | .wQ n t l=>some (.wQ n t l)
 | .mix n c t l=>some (.mix n c t l)
 | .s8 n=>some (.s8 n)
 | .uD f n=>some (.uD f n)
 | .ot k=>some (.ot k)
theorem JX(v:V):fV v=some v:=by
 unfold fV;split<;>rfl
def Md:List V→Option (List V)
 | []=>some []
 |v::r=>match fV v,Md r with
  |some x,some y=>some (x::y)
  |_,_=>none
theorem Ce: ∀l:List V,Md l=some l
 | []=>rfl
 |v::r=>by simp[Md,JX,Ce r]
def fS:SV→Option SV
 | .one (.a v)=>match fV v with|some v=>some (.one (.a v))|none=>none
 | .one (.agg l)=>match Md l with|some l=>some (.one (.agg l))|none=>none
 | .nV l=>some (.nV l)
 | .cond p (.a v)=>match fV v with|some v=>some (.cond p (.a v))|none=>none
 | .cond p (.agg l)=>match Md l with|some l=>some (.cond p (.agg l))|none=>none
theorem Gq{x y:SV}(h:fS x=some y):y=x:=by
 unfold fS at h
 split at h<;>simp_all [JX,Ce]
def fO:Obj→Option Obj
 | .box c=>match Md c with|some c=>some (.box c)|none=>none
 | .arr t l=>some (.arr t l)
 | .iM t l .gone=>some (.iM t l .gone)
 | .iM t l .jT=>some (.iM t l .jT)
 | .iM t l (.of n)=>some (.iM t l (.of n))
theorem JY{x y:Obj}(h:fO x=some y):y=x:=by
 unfold fO at h
 split at h<;>simp_all [Ce]
def MU:List (Nat×SV)→Option (List (Nat×SV))
 | []=>some []
 | (n,x)::r=>match fS x,MU r with
   |some x,some r=>some ((n,x)::r)
   |_,_=>none
theorem Gr: ∀{l m:List (Nat×SV)},MU l=some m→m=l
 | [],m,h=>by simp only[MU,Option.some.injEq]at h;exact h.symm
 | (n,x)::r,m,h=>by
   simp only[MU]at h
   split at h
   ·rename_i y r' h1 h2
    simp only[Option.some.injEq]at h
    rw[←h,Gq h1,Gr h2]
   ·cases h
def Me:Hp→Option Hp
 | []=>some []
 | (n,x)::r=>match fO x,Me r with
   |some x,some r=>some ((n,x)::r)
   |_,_=>none
theorem Cf: ∀{l m:Hp},Me l=some m→m=l
 | [],m,h=>by simp only[Me,Option.some.injEq]at h;exact h.symm
 | (n,x)::r,m,h=>by
   simp only[Me]at h
   split at h
   ·rename_i y r' h1 h2
    simp only[Option.some.injEq]at h
    rw[←h,JY h1,Cf h2]
   ·cases h
def Gs:St→Option St
 | ⟨n,sl,hp⟩=>match MU sl,Me hp with
   |some sl,some hp=>some ⟨n,sl,hp⟩
   |_,_=>none
theorem kY{s s':St}(h:Gs s=some s'):s'=s:=by
 obtain⟨n,sl,hp⟩:=s
 simp only[Gs]at h
 split at h
 ·rename_i a b h1 h2
  simp only[Option.some.injEq]at h
  rw[←h,Gr h1,Cf h2]
 ·cases h
def JZ:TypeDesc→Bool
 | .struct _=>false
 | .array _ _=>false
 |_=>true
def IX(P:Program)(t f k:Nat):Prop:= ∃fs fd d,P.underlying t=some (.struct fs)∧fs[f]? =some fd∧fd.offset=k∧P.underlying fd.type=some d∧JZ d=true
def Gt(P:Program)(Γ:Nat→TK)(st:St):Op→Option (List Prop×St×SV)
 | .field t x f=>match ep st [] x,Γ t with
   |some (.agg c), .st _ _ fo=>match jo fo f with
    |some k=>match tL c k with
     |some v=>some ([IX P t f k],st, .one (.a v))
     |none=>none
    |none=>none
   |_,_=>none
 |_=>none
theorem Cg{P:Program}{t:TypeId}{d:TypeDesc}(h:P.underlying t=some d)(hd:JZ d=true)(w:World):(isAgg t).run P w= .ok false w:=by
 cases d<;>first| (cases hd;done)|simp[isAgg,run_underlying h]
section
variable{P:Program}{zb:bK}{st st':St}{a:Act}{w:World}{env:Env}{Q:Exit→Act→World→Prop}{o:Oper}
theorem IY{Γ:Nat→TK}{vc:List Prop}{v:SV}(h:Gt P Γ st o.op=some (vc,st',v))(g:Good ty zb st a.tmps w env)(hv: ∀q,q∈vc→q):
  o.wp P a w (fun a' w'=> ∃u env',a'=a.put o.dst u∧Kept zb w w'∧Good ty zb st' a.tmps w' env'∧st'.n=st.n∧lS w' st'.hp env' a.tmps v u) Q:=by
 generalize dM:o.op=op at h
 cases op with
 |field t x f=>
  simp only[Gt]at h
  split at h
  case h_2=>cases h
  rename_i c z tg fo hx hk
  split at h
  case h_2=>cases h
  rename_i k hf
  split at h
  case h_2=>cases h
  rename_i v' hel
  simp only[Option.some.injEq,Prod.mk.injEq]at h
  obtain⟨rfl,rfl,rfl⟩:=h
  obtain⟨fs,fd,d,h1,h2,h3,h4,h5⟩:=hv _ (List.mem_singleton.2 rfl)
  obtain⟨us,hu,hA⟩:=cH g (fun e he=>by simp at he) hx
  obtain⟨u,k1,k2⟩:=hA.at (yP hel)
  have hr:(execOp a.eval o).run P w= .ok (.value u) w:=by
   unfold execOp
   simp[dM,hu,Instr.field,part,run_underlying h1,h2,h3,Cg h4 h5,asAgg,k1]
  unfold Oper.wp
  rw[hr]
  exact⟨u,env,rfl,Kept.refl _ _,g,rfl,k2⟩
 |_=>simp[Gt]at h
end
def Gu(P:Program)(ty:Tag→Nat)(Γ:Nat→TK)(cr:List (Nat×CR))(st:St)(m:Nat)(d:Option Nat)(op:Op):Option (List Prop×St×SV):=
 match B7 P ty Γ st m op with
 |some r=>some r
 |none=>match va P ty Γ st m op with
  |some r=>some r
  |none=>match NP P ty Γ cr st d op with
   |some r=>some r
   |none=>match NQ P ty cr st d op with
    |some r=>some r
    |none=>match Gj P ty Γ cr st d op with
     |some r=>some r
     |none=>match MH P ty Γ st op with
      |some r=>some r
      |none=>match Gt P Γ st op with
       |some r=>some r
       |none=>Cd P ty Γ st m op
def Gv(Γ:Nat→TK)(st:St)(op:Op):Option (List Prop×St):=
 match IK Γ st op with
 |some r=>some r
 |none=>NR Γ st op
def step(P:Program)(ty:Tag→Nat)(Γ:Nat→TK)(bX:List (Nat×Nat))(cr:List (Nat×CR))(ops:List Oper)(st:St)(o:Oper):Option (List Prop×St):=
 match FJ Γ (BD P ty) (Sound ty P) bX cr ops st o with
 |some r=>some r
 |none=>match o.guard,nW st o.dst,Mo bX o.dst with
  |none,true,some m=>match yU Γ st o.op with
   |some st'=>match o.dst with|none=>some ([],st')|some _=>none
   |none=>match Gv Γ st o.op with
    |some (vc,st')=>match o.dst,Gs st' with|none,some st'=>some (vc,st')|_,_=>none
    |none=>match Gu P ty Γ cr st m o.dst o.op with
     |some (vc,st',v)=>match Gs st' with|some st'=>some (vc,st'.put o.dst v)|none=>none
     |none=>none
  |_,_,_=>none
def run(P:Program)(ty:Tag→Nat)(Γ:Nat→TK)(bX:List (Nat×Nat))(cr:List (Nat×CR))(ops:List Oper):List Oper→St→List Prop→Option (List Prop×St)
 | [],st,acc=>some (acc,st)
 |o::r,st,acc=>match step P ty Γ bX cr ops st o with
  |some ([],⟨n,sl,hp⟩)=>run P ty Γ bX cr ops r ⟨n,sl,hp⟩ acc
  |some ([p],⟨n,sl,hp⟩)=>run P ty Γ bX cr ops r ⟨n,sl,hp⟩ (p::acc)
  |some ([p,q],⟨n,sl,hp⟩)=>run P ty Γ bX cr ops r ⟨n,sl,hp⟩ (p::q::acc)
  |some (l,⟨n,sl,hp⟩)=>run P ty Γ bX cr ops r ⟨n,sl,hp⟩ (l++acc)
  |none=>none
def ak:List Prop→Prop
 | []=>True
 |p::r=>p∧ak r
theorem ak.out: ∀{l:List Prop},ak l→ ∀q,q∈l→q
 |p::r,h,q,hq=>by
  rcases List.mem_cons.1 hq with rfl|hq
  ·exact h.1
  ·exact ak.out h.2 q hq
section
variable{P:Program}{zb:bK}{st st':St}{a:Act}{w:World}{Q:Exit→Act→World→Prop}{o:Oper}
theorem jv{v:SV}{d:Nat}(h: ∃x,v= .one x):v.mentions d=false:=by
 obtain⟨x,rfl⟩:=h;rfl
theorem jY.mono{ops:Array Oper}{K K':Act→World→Prop}(h: ∀a w,K a w→K' a w)(hr:jY P ops o a w K Q):jY P ops o a w K' Q:=by
 unfold jY at*
 split
 ·rename_i hw;rw[if_pos hw]at hr;exact hr.imp (Oper.wp_mono h) id
 ·rename_i hw;rw[if_neg hw]at hr;exact h _ _ hr
theorem Gw{Γ:Nat→TK}(C: ∀t,bG P t (Γ t)){cr:List (Nat×CR)}{m:Nat}{vc:List Prop}{v:SV}{env:Env}{d:Option Nat}(h:Gu P ty Γ cr st m d o.op=some (vc,st',v))(g:Good ty zb st a.tmps w env)(hB:zb.w.heap.size≤w.heap.size)(hA:yN zb)(hN:xE w)(hv: ∀q,q∈vc→q):
  (∀k,v.mentions k=false)∧o.wp P a w (fun a' w'=> ∃u env',a'=a.put o.dst u∧Kept zb w w'∧Good ty zb st' a.tmps w' env'∧st'.n=st.n∧lS w' st'.hp env' a.tmps v u) Q:=by
 have one:(∃x,v= .one x)→ ∀k,v.mentions k=false:=fun hx k=>jv hx
 unfold Gu at h
 split at h
 ·rename_i r he
  simp only[Option.some.injEq]at h
  subst h
  refine⟨one ?_,IJ C he g hB hv⟩
  unfold B7 at he
  repeat' split at he
  all_goals first
   | (cases he;done)
   | (simp only[Option.some.injEq,Prod.mk.injEq]at he;exact⟨_,he.2.2.symm⟩)
 ·split at h
  ·rename_i r he
   simp only[Option.some.injEq]at h
   subst h
   refine⟨one ?_,Eu C he g hB hv⟩
   unfold va at he
   repeat' split at he
   all_goals first
    | (cases he;done)
    | (simp only[Option.some.injEq,Prod.mk.injEq]at he;exact⟨_,he.2.2.symm⟩)
  ·split at h
   ·rename_i r he
    simp only[Option.some.injEq]at h
    subst h
    refine⟨one ?_,KP he g hB hA hN hv⟩
    unfold NP at he
    repeat' split at he
    all_goals first
     | (cases he;done)
     | (simp only[Option.some.injEq,Prod.mk.injEq]at he;exact⟨_,he.2.2.symm⟩)
   ·split at h
    ·rename_i r he
     simp only[Option.some.injEq]at h
     subst h
     refine⟨one ?_,KW (Γ:=Γ) he g hB hA hN hv⟩
     unfold NQ at he
     repeat' split at he
     all_goals first
      | (cases he;done)
      | (simp only[Option.some.injEq,Prod.mk.injEq]at he;exact⟨_,he.2.2.symm⟩)
    ·split at h
     ·rename_i r he
      simp only[Option.some.injEq]at h
      subst h
      exact IT he g hB hA hN hv
     ·split at h
      ·rename_i r he
       simp only[Option.some.injEq]at h
       subst h
       refine⟨one ?_,KZ C he g hB hv⟩
       unfold MH at he
       repeat' split at he
       all_goals first
        | (cases he;done)
        | (simp only[Option.some.injEq,Prod.mk.injEq]at he;exact⟨_,he.2.2.symm⟩)
      ·split at h
       ·rename_i r he
        simp only[Option.some.injEq]at h
        subst h
        refine⟨one ?_,IY he g hv⟩
        unfold Gt at he
        repeat' split at he
        all_goals first
         | (cases he;done)
         | (simp only[Option.some.injEq,Prod.mk.injEq]at he;exact⟨_,he.2.2.symm⟩)
       ·refine⟨one ?_,IV C h g hB hv⟩
        unfold Cd at h
        repeat' split at h
        all_goals first
         | (cases h;done)
         | (simp only[Option.some.injEq,Prod.mk.injEq]at h;exact⟨_,h.2.2.symm⟩)
theorem Gx{Γ:Nat→TK}(C: ∀t,bG P t (Γ t))(Z: ∀t,(∀z tg fo,Γ t≠ .st z tg fo)→Γ t≠ .other→(P.info? t).map (·.size)=some 1){vc:List Prop}{env:Env}(h:Gv Γ st o.op=some (vc,st'))(g:Good ty zb st a.tmps w env)(hB:zb.w.heap.size≤w.heap.size)(hv: ∀q,q∈vc→q):
  o.wp P a w (fun a' w'=> ∃env',a'=a.put o.dst undef∧Kept zb w w'∧Good ty zb st' a.tmps w' env'∧st'.n=st.n) Q:=by
 unfold Gv at h
 split at h
 ·rename_i r hr
  simp only[Option.some.injEq]at h
  subst h
  exact IL C Z hr g hv
 ·exact KY C Z h g hB hv
theorem tQ{Γ:Nat→TK}(C: ∀t,bG P t (Γ t))(Z: ∀t,(∀z tg fo,Γ t≠ .st z tg fo)→Γ t≠ .other→(P.info? t).map (·.size)=some 1){bX:List (Nat×Nat)}{cr:List (Nat×CR)}{ops:List Oper}{vc:List Prop}(h:step P ty Γ bX cr ops st o=some (vc,st'))(iv:Inv ty zb st a w)(hv: ∀q,q∈vc→q):
  jY P ops.toArray o a w (fun a' w'=>Inv ty zb st' a' w') Q:=by
 simp only[step]at h
 split at h
 ·rename_i r hq
  simp only[Option.some.injEq]at h
  subst h
  exact F5 C hq iv hv
 ·split at h
  ·rename_i m hg hd _
   have Ao:=B3 iv hd
   obtain⟨env,g⟩:=iv.good
   have KG:=iv.kept.size
   split at h
   ·rename_i s1 hs
    split at h
    ·rename_i K4
     simp only[Option.some.injEq,Prod.mk.injEq]at h
     obtain⟨rfl,rfl⟩:=h
     refine fF hg (Oper.wp_mono ?_ (Ep (Q:=Q) C Z hs g))
     rintro a' w' ⟨rfl,hb,hg',hn,qP⟩
     rw[K4]
     exact⟨by rw[eB,hn];exact iv.size,by rw[put_defers];exact iv.defers,iv.kept.trans hb,iv.wS,env,hg'⟩
    ·cases h
   ·split at h
    ·rename_i jL s1 hs
     split at h
     ·rename_i s2 K4 hfs
      have hfs:=kY hfs
      subst hfs
      simp only[Option.some.injEq,Prod.mk.injEq]at h
      obtain⟨rfl,rfl⟩:=h
      refine fF hg (Oper.wp_mono ?_ (Gx (Q:=Q) C Z hs g KG hv))
      rintro a' w' ⟨env',rfl,hb,hg',hn⟩
      rw[K4]
      exact⟨by rw[eB,hn];exact iv.size,by rw[put_defers];exact iv.defers,iv.kept.trans hb,iv.wS,env',hg'⟩
     ·cases h
    ·split at h
     ·rename_i jL s1 v he
      split at h
      case h_2=>cases h
      rename_i s2 hfs
      have hfs:=kY hfs
      subst hfs
      simp only[Option.some.injEq,Prod.mk.injEq]at h
      obtain⟨rfl,rfl⟩:=h
      obtain⟨BG,hwp⟩:=Gw (Q:=Q) C he g KG iv.wS (iv.wS.now iv.kept) hv
      refine fF hg (Oper.wp_mono ?_ hwp)
      rintro a' w' ⟨u,env',rfl,hb,hg',hn,hr⟩
      refine⟨by rw[eB,pK,hn];exact iv.size,by rw[put_defers];exact iv.defers,iv.kept.trans hb,iv.wS,env',jX hg' Ao hr fun d _=>BG d⟩
     ·cases h
  ·cases h
theorem ny{Γ:Nat→TK}{bX:List (Nat×Nat)}{cr:List (Nat×CR)}{ops:List Oper}{r:List Oper}{acc vcs:List Prop}{mw:St}(h:run P ty Γ bX cr ops (o::r) st acc=some (vcs,mw)):
  ∃vc tq,step P ty Γ bX cr ops st o=some (vc,tq)∧run P ty Γ bX cr ops r tq (vc++acc)=some (vcs,mw):=by
 simp only[run]at h
 split at h
 ·rename_i n sl hp hs;exact⟨[],⟨n,sl,hp⟩,hs,h⟩
 ·rename_i p n sl hp hs;exact⟨[p],⟨n,sl,hp⟩,hs,h⟩
 ·rename_i p q n sl hp hs;exact⟨[p,q],⟨n,sl,hp⟩,hs,h⟩
 ·rename_i l n sl hp _ _ _ hs;exact⟨_,⟨n,sl,hp⟩,hs,h⟩
 ·cases h
theorem kZ{Γ:Nat→TK}{bX:List (Nat×Nat)}{cr:List (Nat×CR)}{ops:List Oper}: ∀{l:List Oper} {st mw:St} {acc vcs:List Prop},run P ty Γ bX cr ops l st acc=some (vcs,mw)→ ∀q,q∈acc→q∈vcs
 | [],st,mw,acc,vcs,h,q,hq=>by
   simp only[run,Option.some.injEq,Prod.mk.injEq]at h
   rw[←h.1];exact hq
 |o::r,st,mw,acc,vcs,h,q,hq=>by
  obtain⟨vc,tq,_,h2⟩:=ny h
  exact kZ h2 q (List.mem_append_right _ hq)
theorem Ch{Γ:Nat→TK}(C: ∀t,bG P t (Γ t))(Z: ∀t,(∀z tg fo,Γ t≠ .st z tg fo)→Γ t≠ .other→(P.info? t).map (·.size)=some 1){bX:List (Nat×Nat)}{cr:List (Nat×CR)}{ops:List Oper}{mw:St}{vcs:List Prop}
  (hQ: ∀a w,Inv ty zb mw a w→Q .normal a w): ∀{l:List Oper} {st:St} {acc:List Prop} {a:Act} {w:World},run P ty Γ bX cr ops l st acc=some (vcs,mw)→(∀q,q∈vcs→q)→Inv ty zb st a w→wpList P ops.toArray Q l a w
 | [],st,acc,a,w,h,hv,iv=>by
   simp only[run,Option.some.injEq,Prod.mk.injEq]at h
   obtain⟨_,rfl⟩:=h
   exact hQ a w iv
 |o::r,st,acc,a,w,h,hv,iv=>by
  obtain⟨vc,tq,h1,h2⟩:=ny h
  have:=tQ (Q:=Q) C Z h1 iv (fun q hq=>hv q (kZ h2 q (List.mem_append_left _ hq)))
  exact this.mono fun a' w' ir=>Ch C Z hQ h2 hv ir
end
abbrev Post:=Exit→St→Prop
def vr(ty:Tag→Nat)(zb:bK)(Q:Post):Exit→Act→World→Prop:=fun e a w=> ∃st,Inv ty zb st a w∧Q e st
def W(P:Program)(ty:Tag→Nat)(zb:bK)(c:Code)(Q:Post)(st:St):Prop:= ∀a w,Inv ty zb st a w→c.wp P (vr ty zb Q) a w
def Post.then(next:St→Prop)(Q:Post):Post
 | .normal,st=>next st
 |e,st=>Q e st
def Post.inBlock(id:Nat)(Q:Post):Post
 | .exit i,st=>if i=id then Q .normal st else Q (.exit i) st
 |e,st=>Q e st
def sJ(sl:List (Nat×SV)):List Nat→Option (List (Nat×SV))
 | []=>some []
 |s::r=>match look sl s with
  |some x=>match fS x,sJ sl r with
   |some x,some l=>some ((s,x)::l)
   |_,_=>none
  |none=>none
def sK(hp:Hp):List Nat→Option Hp
 | []=>some []
 |s::r=>match look hp s with
  |some x=>match fO x,sK hp r with
   |some x,some l=>some ((s,x)::l)
   |_,_=>none
  |none=>none
def iu(hp:Hp)(v:V):Bool:=match v.name with|some n=>(match look hp n with|some _=>true|none=>false)|none=>true
def k8(hp:Hp):S1→Bool
 | .a v=>iu hp v
 | .agg l=>l.all (iu hp)
def Dm(hp:Hp):SV→Bool
 | .one x=>k8 hp x
 | .nV l=>l.all (k8 hp)
 | .cond _ x=>k8 hp x
def pU(hp:Hp):Obj→Bool
 | .box c=>c.all (iu hp)
 | .arr _ _=>true
 | .iM _ _ s=>match s.name with|some n=>(match look hp n with|some _=>true|none=>false)|none=>true
def k9(sl:List (Nat×SV))(hp:Hp):Bool:=(sl.all fun e=>Dm hp e.2)&&hp.all fun e=>pU hp e.2
def V.IZ(v:V):List Nat:=match v.name with|some n=> [n]|none=> []
def SV.IZ:SV→List Nat
 | .one (.a v)=>v.IZ
 | .one (.agg l)=>l.flatMap V.IZ
 | .nV l=>l.flatMap fun x=>(match x with| .a v=>v.IZ| .agg l=>l.flatMap V.IZ)
 | .cond _ (.a v)=>v.IZ
 | .cond _ (.agg l)=>l.flatMap V.IZ
def Ci:Nat→Hp→List Nat→List Nat→List Nat
 |0,_,_,acc=>acc
 |_,_,[],acc=>acc
 |f+1,hp,n::r,acc=>match acc.any (Nat.beq n)with
  |true=>Ci f hp r acc
  |false=>Ci f hp (match look hp n with|some (.box c)=>c.flatMap V.IZ++r|some (.iM _ _ (.of m))=>m::r|_=>r) (acc++ [n])
def zg(sl:List (Nat×SV)):List Nat→List Nat
 | []=> []
 |s::r=>match look sl s with|some x=>x.IZ++zg sl r|none=>zg sl r
def Dn(sl:List (Nat×SV))(hp:Hp)(ks:List Nat):List Nat→List Nat
 | []=>Ci 300 hp (zg sl ks++(hp.map Prod.fst).filter gd) []
 |hs=>hs
def af(P:Program)(ty:Tag→Nat)(Γ:Nat→TK)(bX:List (Nat×Nat))(cr:List (Nat×CR))(ks hs:List Nat)(ops:List Oper):St→Option (List Prop×St)
 | ⟨n,Fh,dQ⟩=>match run P ty Γ bX cr ops ops ⟨n,Fh,dQ⟩ []with
 |some (vc,st')=>match sJ st'.sl ks,sK st'.hp (Dn st'.sl st'.hp ks hs)with
  |some sl,some hp=>match k9 sl hp,Nat.beq st'.n n with
   |true,true=>some (vc,⟨n,sl,hp⟩)
   |_,_=>none
  |_,_=>none
 |none=>none
theorem gC{sl:List (Nat×SV)}: ∀{ks:List Nat} {l:List (Nat×SV)},sJ sl ks=some l→ ∀s v,look l s=some v→look sl s=some v
 | [],l,h,s,v,hl=>by
   simp only[sJ,Option.some.injEq]at h
   subst h;cases hl
 |k::r,l,h,s,v,hl=>by
  simp only[sJ]at h
  split at h
  ·rename_i x0 h1
   split at h
   ·rename_i x l' hf h2
    simp only[Option.some.injEq]at h
    subst h
    by_cases hs:s=k
    ·subst hs;rw[look_eq]at hl;rw[←hl,Gq hf];exact h1
    ·rw[aR hs]at hl;exact gC h2 s v hl
   ·cases h
  ·cases h
theorem gD{hp:Hp}: ∀{ks:List Nat} {l:Hp},sK hp ks=some l→ ∀s v,look l s=some v→look hp s=some v
 | [],l,h,s,v,hl=>by
   simp only[sK,Option.some.injEq]at h
   subst h;cases hl
 |k::r,l,h,s,v,hl=>by
  simp only[sK]at h
  split at h
  ·rename_i x0 h1
   split at h
   ·rename_i x l' hf h2
    simp only[Option.some.injEq]at h
    subst h
    by_cases hs:s=k
    ·subst hs;rw[look_eq]at hl;rw[←hl,JY hf];exact h1
    ·rw[aR hs]at hl;exact gD h2 s v hl
   ·cases h
  ·cases h
theorem nA{hp:Hp}{v:V}(h:iu hp v=true): ∀n,v.name=some n→look hp n≠none:=by
 intro n hn hl
 simp[iu,hn,hl]at h
theorem oz{hp:Hp}{x:S1}(h:k8 hp x=true): ∀v,v∈x.vs→iu hp v=true:=by
 intro v hv
 cases x with
 |a y=>simp only[S1.vs,List.mem_singleton]at hv;subst hv;exact h
 |agg l=>exact List.all_eq_true.1 h v hv
theorem Cj{hp:Hp}{x:SV}(h:Dm hp x=true): ∀v,v∈x.vs→iu hp v=true:=by
 intro v hv
 cases x with
 |one x=>exact oz h v hv
 |nV l=>
  simp only[SV.vs,List.mem_flatMap]at hv
  obtain⟨y,hy,hv⟩:=hv
  exact oz (List.all_eq_true.1 h y hy) v hv
 |cond p x=>exact oz h v hv
theorem Good.weaken{zb:bK}{st st':St}{tmps:Array Value}{w:World}{env:Env}(g:Good ty zb st tmps w env)(hs: ∀s v,look st'.sl s=some v→look st.sl s=some v)(hh: ∀n o,look st'.hp n=some o→look st.hp n=some o)
  (tj: ∀s v,look st'.sl s=some v→ ∀x,x∈v.vs→iu st'.hp x=true)(Dc: ∀m o,look st'.hp m=some o→pU st'.hp o=true):Good ty zb st' tmps w env:=by
 have s:Step (fun n=>look st'.hp n≠none) (fun n=>look st'.hp n≠none) w st.hp env w st'.hp env:=by
  refine⟨fun _ _ _=>rfl,?_,?_,?_⟩
  ·rintro b _ ⟨n,o,h1,h2⟩;exact⟨n,o,hh n o h1,h2⟩
  ·intro n o hK h1
   cases hq:look st'.hp n with
   |none=>exact absurd hq hK
   |some o'=>
    have:=hh n o' hq
    rw[h1]at this
    simp only[Option.some.injEq]at this
    subst this
    exact⟨o,rfl,by cases o<;>simp[Obj.like],rfl⟩
  ·intro n t l hK h1
   cases hq:look st'.hp n with
   |none=>exact absurd hq hK
   |some o'=>
    have:=hh n o' hq
    rw[h1]at this
    simp only[Option.some.injEq]at this
    subst this
    exact⟨rfl,rfl,fun _ _=>rfl⟩
 have MV: ∀v,iu st'.hp v=true→v.l9 (fun n=>look st'.hp n≠none) (fun n=>look st'.hp n≠none):=fun v h=>⟨fun n hn=>nA h n hn,fun n hn=>nA h n (V.jW hn)⟩
 refine⟨fun n o hl=> ?_,fun n m o o' hne h1 h2=>g.gK n m o o' hne (hh n o h1) (hh m o' h2),fun t v hl=>lS.step s (fun x hx=>MV x (tj t v hl x hx)) (g.slot t v (hs t v hl)),fun n o hl=>g.dom n o (hh n o hl),g.pins⟩
 refine(g.obj n o (hh n o hl)).step s ?_ (fun _ _=>rfl)
 have hO:=Dc n o hl
 cases o with
 |box c=>exact fun v hv=>MV v (List.all_eq_true.1 hO v hv)
 |arr t l=>trivial
 |iM t l r=>
  intro m hm
  simp only[pU,hm]at hO
  intro he
  rw[he]at hO
  cases hO
theorem Ck{sl:List (Nat×SV)}{hp:Hp}(h:k9 sl hp=true):(∀s v,look sl s=some v→ ∀x,x∈v.vs→iu hp x=true)∧(∀m o,look hp m=some o→pU hp o=true):=by
 simp only[k9,Bool.and_eq_true,List.all_eq_true]at h
 exact⟨fun s v hl=>Cj (h.1 _ (cZ hl)),fun m o hl=>h.2 _ (cZ hl)⟩
theorem Inv.weaken{zb:bK}{st st':St}{a:Act}{w:World}(iv:Inv ty zb st a w)(hn:st'.n=st.n)(hs: ∀s v,look st'.sl s=some v→look st.sl s=some v)(hh: ∀n o,look st'.hp n=some o→look st.hp n=some o)(hc:k9 st'.sl st'.hp=true):Inv ty zb st' a w:=by
 obtain⟨env,g⟩:=iv.good
 obtain⟨c1,c2⟩:=Ck hc
 exact⟨by rw[iv.size,hn],iv.defers,iv.kept,iv.wS,env,g.weaken hs hh c1 c2⟩
structure Ctx(P:Program)(ty:Tag→Nat)(Γ:Nat→TK):Prop where
 kind: ∀t,bG P t (Γ t)
 one: ∀t,(∀z tg fo,Γ t≠ .st z tg fo)→Γ t≠ .other→(P.info? t).map (·.size)=some 1
section
variable{P:Program}{Γ:Nat→TK}{zb:bK}{Q:Post}{st:St}
theorem EC{bX:List (Nat×Nat)}{cr:List (Nat×CR)}{ks hs:List Nat}{ops:List Oper}{vc:List Prop}{st':St}(h:af P ty Γ bX cr ks hs ops st=some (vc,st')): ∃s1,run P ty Γ bX cr ops ops st []=some (vc,s1)∧
  ∀a w,Inv ty zb s1 a w→Inv ty zb st' a w:=by
 obtain⟨n,Fh,dQ⟩:=st
 simp only[af]at h
 split at h
 ·rename_i jL s1 hr
  split at h
  ·rename_i sl hp h1 h2
   split at h
   ·rename_i hc hn
    simp only[Option.some.injEq,Prod.mk.injEq]at h
    obtain⟨rfl,rfl⟩:=h
    exact⟨s1,hr,fun a w iv=>iv.weaken (Nat.eq_of_beq_eq_true hn).symm (gC h1) (gD h2) hc⟩
   ·cases h
  ·cases h
 ·cases h
theorem W.af(X:Ctx P ty Γ)(bX:List (Nat×Nat))(cr:List (Nat×CR))(ks hs:List Nat){id:Nat}{ops:List Oper}{vc:List Prop}{st':St}(h:af P ty Γ bX cr ks hs ops st=some (vc,st'))(hv:ak vc)(k:Q .normal st'):W P ty zb (.region id ops.toArray false) Q st:=by
 intro a w iv
 obtain⟨s1,h1,h2⟩:=EC (zb:=zb) h
 exact wp_region_lit (Ch X.kind X.one (fun a w ir=>⟨st',h2 a w ir,k⟩) h1 hv.out iv)
theorem W.seq{x y:Code}(h:W P ty zb x (Post.then (W P ty zb y Q) Q) st):W P ty zb (.seq x y) Q st:=by
 intro a w iv
 refine wp_seq (wp_mono (h a w iv) ?_)
 rintro e a' w' ⟨st',ir,hq⟩
 cases e with
 |normal=>exact hq a' w' ir
 |_=>exact⟨st',ir,hq⟩
theorem W.skip(h:Q .normal st):W P ty zb .skip Q st:=fun _ _ iv=>wp_skip ⟨st,iv,h⟩
theorem W.exit{id:Nat}(h:Q (.exit id) st):W P ty zb (.exit id) Q st:=fun _ _ iv=>wp_exit ⟨st,iv,h⟩
theorem W.ret(h:Q .ret st):W P ty zb .ret Q st:=fun _ _ iv=>wp_ret ⟨st,iv,h⟩
theorem W.block{id:Nat}{c:Code}(h:W P ty zb c (Post.inBlock id Q) st):W P ty zb (.block id c) Q st:=by
 intro a w iv
 refine wp_block (wp_mono (h a w iv) ?_)
 rintro e a' w' ⟨st',ir,hq⟩
 cases e with
 |exit i=>
  simp only[Post.inBlock]at hq
  simp only[Exit.inBlock]
  split
  ·rename_i hi;rw[if_pos hi]at hq;exact⟨st',ir,hq⟩
  ·rename_i hi;rw[if_neg hi]at hq;exact⟨st',ir,hq⟩
 |_=>exact⟨st',ir,hq⟩
theorem W.cond{c:Operand}{x y:Code}{b:Bool}(hc:ep st [] c=some (.a (.lit (.bool b))))(h1:b=true→W P ty zb x Q st)(h2:b=false→W P ty zb y Q st):W P ty zb (.cond c x y) Q st:=by
 intro a w iv
 obtain⟨env,g⟩:=iv.good
 have:=(cH g (fun e he=>by simp at he) hc).lit
 exact wp_cond_split this (fun hb=>h1 hb a w iv) (fun hb=>h2 hb a w iv)
theorem W.loop{ι:Type}(p:ι→Prop)(I:ι→St)(μ:ι→Nat)(i:ι){c:Code}(hp:p i)(h0: ∀a w,Inv ty zb st a w→Inv ty zb (I i) a w)
  (round: ∀i,p i→W P ty zb c (Post.then (fun st'=> ∃j,p j∧μ j<μ i∧ ∀a w,Inv ty zb st' a w→Inv ty zb (I j) a w) Q) (I i)):W P ty zb (.loop c) Q st:=by
 intro a w iv b k cs
 have key: ∀n i a w,μ i=n→p i→Inv ty zb (I i) a w→ ∃e a' w',vr ty zb Q e a' w'∧Arrives P (lone (b.at a (.code c:: .inLoop c::k)) cs w) b k cs e a' w':=by
  intro n
  induction n using Nat.strongRecOn with
  |_ n ih=>
   intro i a w hn hpi iv
   obtain⟨e,a₁,w₁,⟨st',ir,hq⟩,AI⟩:=round i hpi a w iv b (.inLoop c::k) cs
   cases e with
   |normal=>
    obtain⟨j,MW,hlt,hj⟩:=hq
    obtain⟨e₂,a₂,w₂,QE,MX⟩:=ih (μ j) (hn▸hlt) j a₁ w₁ rfl MW (hj _ _ ir)
    exact⟨e₂,a₂,w₂,QE, .of_steps (Steps.trans AI (.one step_inLoop)) MX⟩
   |exit id=>exact⟨_,a₁,w₁,⟨st',ir,hq⟩, .pass (x:= .inLoop c) rfl (fun _ _=> .inl (by simp)) AI⟩
   |goto l=>exact⟨_,a₁,w₁,⟨st',ir,hq⟩, .pass (x:= .inLoop c) rfl (fun _ _=> .inl (by simp)) AI⟩
   |ret=>exact⟨_,a₁,w₁,⟨st',ir,hq⟩, .pass (x:= .inLoop c) rfl (fun _ _=> .inl (by simp)) AI⟩
   |panic ch=>exact⟨_,a₁,w₁,⟨st',ir,hq⟩, .pass (x:= .inLoop c) rfl (fun _ _=> .inl (by simp)) AI⟩
   |outgrown=>exact⟨_,a₁,w₁,⟨st',ir,hq⟩, .pass (x:= .inLoop c) rfl (fun _ _=> .inl (by simp)) AI⟩
 obtain⟨e,a',w',hq,AI⟩:=key _ i a w rfl hp (h0 a w iv)
 exact⟨e,a',w',hq, .of_steps (.one step_loop) AI⟩
def J0:List (Nat×SV)→List (Nat×SV)→Option (List (Nat×SV))
 | [],_=>some []
 | (s,x)::r,ov=>match fS (match look ov s with|some y=>y|none=>x),J0 r ov with
   |some x,some l=>some ((s,x)::l)
   |_,_=>none
def J1:Hp→Hp→Option Hp
 | [],_=>some []
 | (s,x)::r,ov=>match fO (match look ov s with|some y=>y|none=>x),J1 r ov with
   |some x,some l=>some ((s,x)::l)
   |_,_=>none
def K5:St→List (Nat×SV)→Hp→Option St
 | ⟨n,sl,hp⟩,ov,oh=>match J0 sl ov,J1 hp oh with
   |some sl,some hp=>some ⟨n,sl,hp⟩
   |_,_=>none
theorem W.aP{ι:Type}(p:ι→Prop)(ov:ι→List (Nat×SV))(oh:ι→Hp)(μ:ι→Nat)(i:ι){c:Code}{I:ι→St}(Rx: ∀k,K5 st (ov k) (oh k)=some (I k))(hp:p i)(h0:I i=st)
  (round: ∀i,p i→W P ty zb c (Post.then (fun st'=> ∃j,p j∧μ j<μ i∧st'=I j) Q) (I i)):W P ty zb (.loop c) Q st:=by
 refine W.loop p I μ i hp (fun a w iv=>by rw[h0];exact iv) fun i hi=> ?_
 intro a w iv
 refine wp_mono (round i hi a w iv) ?_
 rintro e a' w' ⟨st',ir,hq⟩
 cases e with
 |normal=>
  obtain⟨j,h1,h2,rfl⟩:=hq
  exact⟨_,ir,j,h1,h2,fun a w h=>h⟩
 |_=>exact⟨st',ir,hq⟩
end
end Go.Proofs.YtjcojocjlglglaaGreat.G
namespace Go.Proofs.YtjcojocjlglglaaGreat.G
set_option linter.all false
open Go.RowKit L D
variable{ty:Tag→Nat}
def enter:Nat→List S1→List (Nat×SV)
 |_,[]=> []
 |i,x::r=>(i, .one x)::enter (i+1) r
def ED(Γ:Nat→TK)(st:St):ResultVar→Option S1
 | .tmp t=>match look st.sl t with|some (.one x)=>some x|_=>none
 | .cell p t=>match look st.sl p with
   |some (.one (.a (.ptr n 0)))=>match look st.hp n,Γ t with
    |some (.box c), .st z _ _=>match Nat.beq c.length z.length with|true=>some (.agg c)|false=>none
    |_,_=>none
   |_=>none
def mz(Γ:Nat→TK)(st:St):List ResultVar→Option (List S1)
 | []=>some []
 |r::rs=>match ED Γ st r,mz Γ st rs with|some x,some xs=>some (x::xs)|_,_=>none
def Gy(st:St):V→V→Option (List Prop×List Nat)
 | .lit v, .lit u=>some ([v=u],[])
 | .lit (.slice none 0 0), .sl _ l=>some ([l= []],[])
 | .own n, .sl t l=>match look st.hp n,soft n with
   |some (.arr t' l'),false=>match gy t t' l' with
    |some l2=>some ([l2=l],[n])
    |none=>none
   |_,_=>none
 | .lit (.slice none 0 0), .vw _ _ _ l=>some ([l= []],[])
 | .own n, .vw _ _ t l=>match look st.hp n with
   |some (.arr t' l')=>match gy t t' l' with
    |some l2=>some ([l2=l],[n])
    |none=>none
   |_=>none
 | .vw n _ t' l', .vw _ _ t l=>match gy t t' l' with
   |some l2=>some ([l2=l],[n])
   |none=>none
 |_,_=>none
def meet(st:St):List V→List V→Option (List Prop×List Nat)
 | [],[]=>some ([],[])
 |x::r,y::s=>match Gy st x y,meet st r s with
  |some (vc,k),some (vcs,ks)=>some (iT vc vcs,iT k ks)
  |_,_=>none
 |_,_=>none
def Dp(st:St):S1→S1→Option (List Prop×List Nat)
 | .a v, .a u=>meet st [v] [u]
 | .agg l, .agg m=>meet st l m
 |_,_=>none
def meets(st:St):List S1→List S1→Option (List Prop×List Nat)
 | [],[]=>some ([],[])
 |x::r,y::s=>match Dp st x y,meets st r s with
  |some (vc,k),some (vcs,ks)=>some (iT vc vcs,iT k ks)
  |_,_=>none
 |_,_=>none
def ends(Γ:Nat→TK)(st:St)(nL:List ResultVar)(rs:List S1):Option (List Prop):=
 match mz Γ st nL with
 |some xs=>match meets st xs rs with
  |some (vc,k)=>match jM k with|true=>some vc|false=>none
  |none=>none
 |none=>none
def Fin(Γ:Nat→TK)(nL:List ResultVar)(rs:List S1):Post:=fun e st=>(e= .ret∨e= .normal)∧ ∃vc,ends Γ st nL rs=some vc∧ak vc
theorem Fin.ret{Γ:Nat→TK}{nL:List ResultVar}{rs:List S1}{st:St}{vc:List Prop}(h:ends Γ st nL rs=some vc)(hv:ak vc):Fin Γ nL rs .ret st:=⟨.inl rfl,vc,h,hv⟩
theorem Fin.normal{Γ:Nat→TK}{nL:List ResultVar}{rs:List S1}{st:St}{vc:List Prop}(h:ends Γ st nL rs=some vc)(hv:ak vc):Fin Γ nL rs .normal st:=⟨.inr rfl,vc,h,hv⟩
theorem fD.lift{α:Type}{k:Nat}{E:ER α}{lo e:Nat}{w:World}{v:Value}{l:List α}{fp:List Nat}(h:fD k E 0 e w v l fp)(hl: ∀b,b∈fp→lo≤b):fD k E lo e w v l fp:=by
 obtain⟨xs,aQ,hown,hf,he,rfl,ho⟩:=h
 refine⟨xs,aQ,⟨hown.1,?_⟩,hf,he,rfl,⟨ho.nodup,hl,ho.kind⟩⟩
 rcases hown.2 with h| ⟨g,cap,cur,rfl,L9,r⟩
 ·exact Or.inl h
 ·exact Or.inr ⟨g,cap,cur,rfl,hl g (by simp[Value.ownBlock]),r⟩
section
variable{P:Program}{zb:bK}{st:St}{a:Act}{w:World}{env:Env}
theorem nZ{Γ:Nat→TK}(C: ∀t,bG P t (Γ t))(g:Good ty zb st a.tmps w env){r:ResultVar}{x:S1}(h:ED Γ st r=some x):
  ∃u,eg w st.hp env x u∧(match r with| .tmp t=>a.tmps.getD t undef=u| .cell p t=> ∃ad,a.tmps.getD p undef= .pointer (some ad)∧(loadVar t ad).run P w= .ok u w):=by
 cases r with
 |tmp t=>
  simp only[ED]at h
  split at h
  ·rename_i y hl
   simp only[Option.some.injEq]at h
   subst h
   exact⟨_,g.slot t _ hl,rfl⟩
  ·cases h
 |cell p t=>
  simp only[ED]at h
  split at h
  ·rename_i n hl
   split at h
   ·rename_i c z tg fo hb hk
    split at h
    ·rename_i hlen
     have hlen:=Nat.eq_of_beq_eq_true hlen
     simp only[Option.some.injEq]at h
     subst h
     obtain⟨_,b,hv,hu⟩:=g.slot p _ hl
     obtain⟨b',cs,e,C9,hh,hc⟩:=g.obj n _ hb
     have Mr:b=b':=by rw[C9]at hv;simpa using hv.symm
     subst Mr
     have hC:=C t
     rw[hk]at hC
     obtain⟨fs,JW,hi,_⟩:=hC
     have hi':(P.info? t).map (·.size)=some cs.length:=by
      rw[hc.len,hlen]
      cases hq:P.info? t with
      |none=>simp[hq]at hi
      |some i=>simp[hq]at hi;simp[hi.1]
     refine⟨.agg cs.toArray,⟨cs,rfl,hc⟩,?_⟩
     have td:w.rangeAt b 0 cs:=by simpa using FE hh
     exact⟨_,hu,run_loadVar_mid w b 0 t cs _ td JW rfl hi'⟩
    ·cases h
   ·cases h
  ·cases h
theorem Dq(g:Good ty zb st a.tmps w env){k1 k2:List Nat}{f1 f2:List Nat}(hnd:(k1++k2).Nodup)(p2:Own zb.w.heap.size w f1)(p3: ∀b,b∈f1→ ∃i o,i∈k1∧look st.hp i=some o∧b∈(env i).fp)(q2:Own zb.w.heap.size w f2)(q3: ∀b,b∈f2→ ∃i o,i∈k2∧look st.hp i=some o∧b∈(env i).fp):
  Own zb.w.heap.size w (f1++f2)∧ ∀b,b∈f1++f2→ ∃i o,i∈k1++k2∧look st.hp i=some o∧b∈(env i).fp:=by
 obtain⟨n1,n2,n3⟩:=List.nodup_append.1 hnd
 refine⟨⟨List.nodup_append.2 ⟨p2.nodup,q2.nodup,?_⟩,fun b hb=> ?_,fun b hb=> ?_⟩,fun b hb=> ?_⟩
 ·rintro b hb z hz rfl
  obtain⟨n,o1,h1,h2,h3⟩:=p3 b hb
  obtain⟨m,o2,h4,h5,h6⟩:=q3 b hz
  exact g.gK n m _ _ (fun e=>n3 n h1 m h4 e) h2 h5 b h3 h6
 ·rcases List.mem_append.1 hb with hb|hb
  ·exact p2.ge b hb
  ·exact q2.ge b hb
 ·rcases List.mem_append.1 hb with hb|hb
  ·exact p2.kind b hb
  ·exact q2.kind b hb
 ·rcases List.mem_append.1 hb with hb|hb
  ·obtain⟨n,o1,h1,h2,h3⟩:=p3 b hb;exact⟨n,o1,List.mem_append_left _ h1,h2,h3⟩
  ·obtain⟨n,o1,h1,h2,h3⟩:=q3 b hb;exact⟨n,o1,List.mem_append_right _ h1,h2,h3⟩
theorem Gz(hL:zb.L= [])(g:Good ty zb st a.tmps w env){x y:V}{u:Value}{vc:List Prop}{k:List Nat}(hr:RA w st.hp env x u)(h:Gy st x y=some (vc,k))(hv: ∀q,q∈vc→q):
  ∃fp,RB ty w zb.w.heap.size y u fp∧Own zb.w.heap.size w fp∧ ∀b,b∈fp→ ∃i o,i∈k∧look st.hp i=some o∧b∈(env i).fp:=by
 unfold Gy at h
 split at h
 ·simp only[Option.some.injEq,Prod.mk.injEq]at h
  obtain⟨rfl,rfl⟩:=h
  have hl:=hv _ (List.mem_singleton.2 rfl)
  obtain⟨rfl,ho⟩:=hr
  exact⟨[],⟨hl,hl▸ho,rfl⟩,Own.nil _ _,by simp⟩
 ·simp only[Option.some.injEq,Prod.mk.injEq]at h
  obtain⟨rfl,rfl⟩:=h
  have hl:=hv _ (List.mem_singleton.2 rfl)
  subst hl
  obtain⟨rfl,ho⟩:=hr
  exact⟨[],fD.nil _ _ _ _ _,Own.nil _ _,by simp⟩
 ·rename_i n t l
  split at h
  ·rename_i t' l' hl wV
   split at h
   ·rename_i l2 hc
    simp only[Option.some.injEq,Prod.mk.injEq]at h
    obtain⟨rfl,rfl⟩:=h
    have nq:=hv _ (List.mem_singleton.2 rfl)
    subst nq
    obtain⟨e,rfl⟩:=cD hc
    subst e
    obtain⟨_,rfl⟩:=hr
    have hb:=fD.lift (RO.Ek wV (g.obj n _ hl)) (lo:=zb.w.heap.size) (fun b hb=>by
     rcases g.dom n _ hl b hb with h|h
     ·rw[hL]at h;cases h
     ·exact h)
    exact⟨(env n).fp,hb,hb.own,fun b hb=>⟨n,_,by simp,hl,hb⟩⟩
   ·cases h
  ·cases h
 ·simp only[Option.some.injEq,Prod.mk.injEq]at h
  obtain⟨rfl,rfl⟩:=h
  have hl:=hv _ (List.mem_singleton.2 rfl)
  subst hl
  obtain⟨rfl,ho⟩:=hr
  exact⟨[],⟨fD.sl (fD.nil _ _ 0 0 _),Own.nil _ _⟩,Own.nil _ _,by simp⟩
 ·rename_i n _ _ t l
  split at h
  ·rename_i t' l' hl
   split at h
   ·rename_i l2 hc
    simp only[Option.some.injEq,Prod.mk.injEq]at h
    obtain⟨rfl,rfl⟩:=h
    have nq:=hv _ (List.mem_singleton.2 rfl)
    subst nq
    obtain⟨e,rfl⟩:=cD hc
    subst e
    obtain⟨_,rfl⟩:=hr
    have hs:=RO.sl (g.obj n _ hl)
    have NW:=RO.own (g.obj n _ hl)
    have ho:Own zb.w.heap.size w (env n).fp:=⟨NW.nodup,fun b hb=>by
     rcases g.dom n _ hl b hb with h|h
     ·rw[hL]at h;cases h
     ·exact h,NW.kind⟩
    exact⟨(env n).fp,⟨hs,ho⟩,ho,fun b hb=>⟨n,_,by simp,hl,hb⟩⟩
   ·cases h
  ·cases h
 ·rename_i n _ t' l' _ _ t l
  split at h
  ·rename_i l2 hc
   simp only[Option.some.injEq,Prod.mk.injEq]at h
   obtain⟨rfl,rfl⟩:=h
   have nq:=hv _ (List.mem_singleton.2 rfl)
   subst nq
   obtain⟨e,rfl⟩:=cD hc
   subst e
   obtain⟨⟨t0,l0,hl⟩,⟨fp,hs,hnd,hsub⟩,_⟩:=hr
   have NW:=RO.own (g.obj n _ hl)
   have ho:Own zb.w.heap.size w fp:=⟨hnd,fun b hb=>by
    rcases g.dom n _ hl b (hsub b hb)with h|h
    ·rw[hL]at h;cases h
    ·exact h,fun b hb=>NW.kind b (hsub b hb)⟩
   exact⟨fp,⟨hs,ho⟩,ho,fun b hb=>⟨n,_,by simp,hl,hsub b hb⟩⟩
  ·cases h
 ·cases h
theorem zh(hL:zb.L= [])(g:Good ty zb st a.tmps w env): ∀{xs ys:List V} {us:List Value} {vc:List Prop} {k:List Nat},aU (RA w st.hp env) xs us→meet st xs ys=some (vc,k)→k.Nodup→(∀q,q∈vc→q)→
  ∃fp,FP ty w zb.w.heap.size ys us fp∧Own zb.w.heap.size w fp∧ ∀b,b∈fp→ ∃i o,i∈k∧look st.hp i=some o∧b∈(env i).fp
 | [],ys,us,vc,k,hr,h,hnd,hv=>by
   cases ys with
   |nil=>
    simp only[meet,Option.some.injEq,Prod.mk.injEq]at h
    obtain⟨rfl,rfl⟩:=h
    cases us with
    |nil=>exact⟨[],rfl,Own.nil _ _,by simp⟩
    |cons _ _=>exact hr.elim
   |cons y ys=>simp[meet]at h
 |x::r,ys,us,vc,k,hr,h,hnd,hv=>by
  cases us with
  |nil=>exact hr.elim
  |cons u us=>
   cases ys with
   |nil=>simp[meet]at h
   |cons y s=>
    simp only[meet]at h
    split at h
    ·rename_i jL k1 IN k2 h1 h2
     simp only[Option.some.injEq,Prod.mk.injEq,cI]at h
     obtain⟨rfl,rfl⟩:=h
     obtain⟨n1,n2,n3⟩:=List.nodup_append.1 hnd
     obtain⟨f1,p1,p2,p3⟩:=Gz hL g hr.1 h1 (fun q hq=>hv q (List.mem_append_left _ hq))
     obtain⟨f2,q1,q2,q3⟩:=zh hL g hr.2 h2 n2 (fun q hq=>hv q (List.mem_append_right _ hq))
     obtain⟨r1,r2⟩:=Dq g hnd p2 p3 q2 q3
     exact⟨f1++f2,⟨_,_,p1,q1,rfl⟩,r1,r2⟩
    ·cases h
theorem GA(hL:zb.L= [])(g:Good ty zb st a.tmps w env){x y:S1}{u:Value}{vc:List Prop}{k:List Nat}(hr:eg w st.hp env x u)(h:Dp st x y=some (vc,k))(hnd:k.Nodup)(hv: ∀q,q∈vc→q):
  ∃fp,JR ty w zb.w.heap.size y u fp∧Own zb.w.heap.size w fp∧ ∀b,b∈fp→ ∃i o,i∈k∧look st.hp i=some o∧b∈(env i).fp:=by
 cases x with
 |a v=>
  cases y with
  |a v'=>exact zh hL g (xs:= [v]) (us:= [u]) ⟨hr,trivial⟩ h hnd hv
  |agg _=>simp[Dp]at h
 |agg l=>
  cases y with
  |a v'=>simp[Dp]at h
  |agg m=>
   obtain⟨cs,rfl,hl⟩:=hr
   obtain⟨fp,h1,h2,h3⟩:=zh hL g hl h hnd hv
   exact⟨fp,⟨cs,rfl,h1⟩,h2,h3⟩
theorem AJ(hL:zb.L= [])(g:Good ty zb st a.tmps w env): ∀{xs ys:List S1} {us:List Value} {vc:List Prop} {k:List Nat},aU (eg w st.hp env) xs us→meets st xs ys=some (vc,k)→k.Nodup→(∀q,q∈vc→q)→
  ∃fp,Ib ty w zb.w.heap.size ys us fp∧Own zb.w.heap.size w fp∧ ∀b,b∈fp→ ∃i o,i∈k∧look st.hp i=some o∧b∈(env i).fp
 | [],ys,us,vc,k,hr,h,hnd,hv=>by
   cases ys with
   |nil=>
    simp only[meets,Option.some.injEq,Prod.mk.injEq]at h
    obtain⟨rfl,rfl⟩:=h
    cases us with
    |nil=>exact⟨[],rfl,Own.nil _ _,by simp⟩
    |cons _ _=>exact hr.elim
   |cons y ys=>simp[meets]at h
 |x::r,ys,us,vc,k,hr,h,hnd,hv=>by
  cases us with
  |nil=>exact hr.elim
  |cons u us=>
   cases ys with
   |nil=>simp[meets]at h
   |cons y s=>
    simp only[meets]at h
    split at h
    ·rename_i jL k1 IN k2 h1 h2
     simp only[Option.some.injEq,Prod.mk.injEq,cI]at h
     obtain⟨rfl,rfl⟩:=h
     obtain⟨n1,n2,n3⟩:=List.nodup_append.1 hnd
     obtain⟨f1,p1,p2,p3⟩:=GA hL g hr.1 h1 n1 (fun q hq=>hv q (List.mem_append_left _ hq))
     obtain⟨f2,q1,q2,q3⟩:=AJ hL g hr.2 h2 n2 (fun q hq=>hv q (List.mem_append_right _ hq))
     obtain⟨r1,r2⟩:=Dq g hnd p2 p3 q2 q3
     exact⟨f1++f2,⟨_,_,p1,q1,rfl⟩,r1,r2⟩
    ·cases h
theorem vu{Γ:Nat→TK}(C: ∀t,bG P t (Γ t))(g:Good ty zb st a.tmps w env){fn:Func}{nL:List ResultVar}(hf:fn.results=nL.toArray){xs:List S1}(h:mz Γ st nL=some xs)(hl:nL.length≤4):
  ∃us,aU (eg w st.hp env) xs us∧us.length=nL.length∧(results fn a.tmps).run P w= .ok (match us with| [u]=>u|us=> .tuple us.toArray) w:=by
 have one: ∀{r:ResultVar} {rs:List ResultVar} {xs:List S1},mz Γ st (r::rs)=some xs→ ∃y ys,xs=y::ys∧ED Γ st r=some y∧mz Γ st rs=some ys:=by
  intro r rs xs h
  simp only[mz]at h
  split at h
  ·rename_i y ys h1 h2
   simp only[Option.some.injEq]at h
   exact⟨y,ys,h.symm,h1,h2⟩
  ·cases h
 have nil: ∀{xs:List S1},mz Γ st []=some xs→xs= []:=by
  intro xs h
  simp only[mz,Option.some.injEq]at h
  exact h.symm
 match nL,hf,h,hl with
 | [],hf,h,_=>
   rw[nil h]
   exact⟨[],trivial,rfl,by simp[results,hf]⟩
 | [r1],hf,h,_=>
   obtain⟨y1,ys,rfl,h1,h⟩:=one h
   rw[nil h]
   obtain⟨u1,k1,e1⟩:=nZ C g h1
   refine⟨[u1],⟨k1,trivial⟩,rfl,?_⟩
   cases r1
   ·have e1:a.tmps.getD _ undef=u1:=e1
    rw[Array.getD_eq_getD_getElem?]at e1
    simp[results,hf,asAddr,e1]
   ·obtain⟨_,p1,e1⟩:=e1
    rw[Array.getD_eq_getD_getElem?]at p1
    simp[results,hf,asAddr,e1,p1]
 | [r1,r2],hf,h,_=>
   obtain⟨y1,ys,rfl,h1,h⟩:=one h
   obtain⟨y2,ys,rfl,h2,h⟩:=one h
   rw[nil h]
   obtain⟨u1,k1,e1⟩:=nZ C g h1
   obtain⟨u2,k2,e2⟩:=nZ C g h2
   refine⟨[u1,u2],⟨k1,k2,trivial⟩,rfl,?_⟩
   cases r1<;>cases r2
   ·have e1:a.tmps.getD _ undef=u1:=e1
    rw[Array.getD_eq_getD_getElem?]at e1
    have e2:a.tmps.getD _ undef=u2:=e2
    rw[Array.getD_eq_getD_getElem?]at e2
    simp[results,hf,asAddr,e1,e2]
   ·have e1:a.tmps.getD _ undef=u1:=e1
    rw[Array.getD_eq_getD_getElem?]at e1
    obtain⟨_,p2,e2⟩:=e2
    rw[Array.getD_eq_getD_getElem?]at p2
    simp[results,hf,asAddr,e1,e2,p2]
   ·obtain⟨_,p1,e1⟩:=e1
    rw[Array.getD_eq_getD_getElem?]at p1
    have e2:a.tmps.getD _ undef=u2:=e2
    rw[Array.getD_eq_getD_getElem?]at e2
    simp[results,hf,asAddr,e1,e2,p1]
   ·obtain⟨_,p1,e1⟩:=e1
    rw[Array.getD_eq_getD_getElem?]at p1
    obtain⟨_,p2,e2⟩:=e2
    rw[Array.getD_eq_getD_getElem?]at p2
    simp[results,hf,asAddr,e1,e2,p1,p2]
 | [r1,r2,r3],hf,h,_=>
   obtain⟨y1,ys,rfl,h1,h⟩:=one h
   obtain⟨y2,ys,rfl,h2,h⟩:=one h
   obtain⟨y3,ys,rfl,h3,h⟩:=one h
   rw[nil h]
   obtain⟨u1,k1,e1⟩:=nZ C g h1
   obtain⟨u2,k2,e2⟩:=nZ C g h2
   obtain⟨u3,k3,e3⟩:=nZ C g h3
   refine⟨[u1,u2,u3],⟨k1,k2,k3,trivial⟩,rfl,?_⟩
   cases r1<;>cases r2<;>cases r3
   ·have e1:a.tmps.getD _ undef=u1:=e1
    rw[Array.getD_eq_getD_getElem?]at e1
    have e2:a.tmps.getD _ undef=u2:=e2
    rw[Array.getD_eq_getD_getElem?]at e2
    have e3:a.tmps.getD _ undef=u3:=e3
    rw[Array.getD_eq_getD_getElem?]at e3
    simp[results,hf,asAddr,e1,e2,e3]
   ·have e1:a.tmps.getD _ undef=u1:=e1
    rw[Array.getD_eq_getD_getElem?]at e1
    have e2:a.tmps.getD _ undef=u2:=e2
    rw[Array.getD_eq_getD_getElem?]at e2
    obtain⟨_,p3,e3⟩:=e3
    rw[Array.getD_eq_getD_getElem?]at p3
    simp[results,hf,asAddr,e1,e2,e3,p3]
   ·have e1:a.tmps.getD _ undef=u1:=e1
    rw[Array.getD_eq_getD_getElem?]at e1
    obtain⟨_,p2,e2⟩:=e2
    rw[Array.getD_eq_getD_getElem?]at p2
    have e3:a.tmps.getD _ undef=u3:=e3
    rw[Array.getD_eq_getD_getElem?]at e3
    simp[results,hf,asAddr,e1,e2,e3,p2]
   ·have e1:a.tmps.getD _ undef=u1:=e1
    rw[Array.getD_eq_getD_getElem?]at e1
    obtain⟨_,p2,e2⟩:=e2
    rw[Array.getD_eq_getD_getElem?]at p2
    obtain⟨_,p3,e3⟩:=e3
    rw[Array.getD_eq_getD_getElem?]at p3
    simp[results,hf,asAddr,e1,e2,e3,p2,p3]
   ·obtain⟨_,p1,e1⟩:=e1
    rw[Array.getD_eq_getD_getElem?]at p1
    have e2:a.tmps.getD _ undef=u2:=e2
    rw[Array.getD_eq_getD_getElem?]at e2
    have e3:a.tmps.getD _ undef=u3:=e3
    rw[Array.getD_eq_getD_getElem?]at e3
    simp[results,hf,asAddr,e1,e2,e3,p1]
   ·obtain⟨_,p1,e1⟩:=e1
    rw[Array.getD_eq_getD_getElem?]at p1
    have e2:a.tmps.getD _ undef=u2:=e2
    rw[Array.getD_eq_getD_getElem?]at e2
    obtain⟨_,p3,e3⟩:=e3
    rw[Array.getD_eq_getD_getElem?]at p3
    simp[results,hf,asAddr,e1,e2,e3,p1,p3]
   ·obtain⟨_,p1,e1⟩:=e1
    rw[Array.getD_eq_getD_getElem?]at p1
    obtain⟨_,p2,e2⟩:=e2
    rw[Array.getD_eq_getD_getElem?]at p2
    have e3:a.tmps.getD _ undef=u3:=e3
    rw[Array.getD_eq_getD_getElem?]at e3
    simp[results,hf,asAddr,e1,e2,e3,p1,p2]
   ·obtain⟨_,p1,e1⟩:=e1
    rw[Array.getD_eq_getD_getElem?]at p1
    obtain⟨_,p2,e2⟩:=e2
    rw[Array.getD_eq_getD_getElem?]at p2
    obtain⟨_,p3,e3⟩:=e3
    rw[Array.getD_eq_getD_getElem?]at p3
    simp[results,hf,asAddr,e1,e2,e3,p1,p2,p3]
 | [r1,r2,r3,r4],hf,h,_=>
   obtain⟨y1,ys,rfl,h1,h⟩:=one h
   obtain⟨y2,ys,rfl,h2,h⟩:=one h
   obtain⟨y3,ys,rfl,h3,h⟩:=one h
   obtain⟨y4,ys,rfl,h4,h⟩:=one h
   rw[nil h]
   obtain⟨u1,k1,e1⟩:=nZ C g h1
   obtain⟨u2,k2,e2⟩:=nZ C g h2
   obtain⟨u3,k3,e3⟩:=nZ C g h3
   obtain⟨u4,k4,e4⟩:=nZ C g h4
   refine⟨[u1,u2,u3,u4],⟨k1,k2,k3,k4,trivial⟩,rfl,?_⟩
   cases r1<;>cases r2<;>cases r3<;>cases r4
   ·have e1:a.tmps.getD _ undef=u1:=e1
    rw[Array.getD_eq_getD_getElem?]at e1
    have e2:a.tmps.getD _ undef=u2:=e2
    rw[Array.getD_eq_getD_getElem?]at e2
    have e3:a.tmps.getD _ undef=u3:=e3
    rw[Array.getD_eq_getD_getElem?]at e3
    have e4:a.tmps.getD _ undef=u4:=e4
    rw[Array.getD_eq_getD_getElem?]at e4
    simp[results,hf,asAddr,e1,e2,e3,e4]
   ·have e1:a.tmps.getD _ undef=u1:=e1
    rw[Array.getD_eq_getD_getElem?]at e1
    have e2:a.tmps.getD _ undef=u2:=e2
    rw[Array.getD_eq_getD_getElem?]at e2
    have e3:a.tmps.getD _ undef=u3:=e3
    rw[Array.getD_eq_getD_getElem?]at e3
    obtain⟨_,p4,e4⟩:=e4
    rw[Array.getD_eq_getD_getElem?]at p4
    simp[results,hf,asAddr,e1,e2,e3,e4,p4]
   ·have e1:a.tmps.getD _ undef=u1:=e1
    rw[Array.getD_eq_getD_getElem?]at e1
    have e2:a.tmps.getD _ undef=u2:=e2
    rw[Array.getD_eq_getD_getElem?]at e2
    obtain⟨_,p3,e3⟩:=e3
    rw[Array.getD_eq_getD_getElem?]at p3
    have e4:a.tmps.getD _ undef=u4:=e4
    rw[Array.getD_eq_getD_getElem?]at e4
    simp[results,hf,asAddr,e1,e2,e3,e4,p3]
   ·have e1:a.tmps.getD _ undef=u1:=e1
    rw[Array.getD_eq_getD_getElem?]at e1
    have e2:a.tmps.getD _ undef=u2:=e2
    rw[Array.getD_eq_getD_getElem?]at e2
    obtain⟨_,p3,e3⟩:=e3
    rw[Array.getD_eq_getD_getElem?]at p3
    obtain⟨_,p4,e4⟩:=e4
    rw[Array.getD_eq_getD_getElem?]at p4
    simp[results,hf,asAddr,e1,e2,e3,e4,p3,p4]
   ·have e1:a.tmps.getD _ undef=u1:=e1
    rw[Array.getD_eq_getD_getElem?]at e1
    obtain⟨_,p2,e2⟩:=e2
    rw[Array.getD_eq_getD_getElem?]at p2
    have e3:a.tmps.getD _ undef=u3:=e3
    rw[Array.getD_eq_getD_getElem?]at e3
    have e4:a.tmps.getD _ undef=u4:=e4
    rw[Array.getD_eq_getD_getElem?]at e4
    simp[results,hf,asAddr,e1,e2,e3,e4,p2]
   ·have e1:a.tmps.getD _ undef=u1:=e1
    rw[Array.getD_eq_getD_getElem?]at e1
    obtain⟨_,p2,e2⟩:=e2
    rw[Array.getD_eq_getD_getElem?]at p2
    have e3:a.tmps.getD _ undef=u3:=e3
    rw[Array.getD_eq_getD_getElem?]at e3
    obtain⟨_,p4,e4⟩:=e4
    rw[Array.getD_eq_getD_getElem?]at p4
    simp[results,hf,asAddr,e1,e2,e3,e4,p2,p4]
   ·have e1:a.tmps.getD _ undef=u1:=e1
    rw[Array.getD_eq_getD_getElem?]at e1
    obtain⟨_,p2,e2⟩:=e2
    rw[Array.getD_eq_getD_getElem?]at p2
    obtain⟨_,p3,e3⟩:=e3
    rw[Array.getD_eq_getD_getElem?]at p3
    have e4:a.tmps.getD _ undef=u4:=e4
    rw[Array.getD_eq_getD_getElem?]at e4
    simp[results,hf,asAddr,e1,e2,e3,e4,p2,p3]
   ·have e1:a.tmps.getD _ undef=u1:=e1
    rw[Array.getD_eq_getD_getElem?]at e1
    obtain⟨_,p2,e2⟩:=e2
    rw[Array.getD_eq_getD_getElem?]at p2
    obtain⟨_,p3,e3⟩:=e3
    rw[Array.getD_eq_getD_getElem?]at p3
    obtain⟨_,p4,e4⟩:=e4
    rw[Array.getD_eq_getD_getElem?]at p4
    simp[results,hf,asAddr,e1,e2,e3,e4,p2,p3,p4]
   ·obtain⟨_,p1,e1⟩:=e1
    rw[Array.getD_eq_getD_getElem?]at p1
    have e2:a.tmps.getD _ undef=u2:=e2
    rw[Array.getD_eq_getD_getElem?]at e2
    have e3:a.tmps.getD _ undef=u3:=e3
    rw[Array.getD_eq_getD_getElem?]at e3
    have e4:a.tmps.getD _ undef=u4:=e4
    rw[Array.getD_eq_getD_getElem?]at e4
    simp[results,hf,asAddr,e1,e2,e3,e4,p1]
   ·obtain⟨_,p1,e1⟩:=e1
    rw[Array.getD_eq_getD_getElem?]at p1
    have e2:a.tmps.getD _ undef=u2:=e2
    rw[Array.getD_eq_getD_getElem?]at e2
    have e3:a.tmps.getD _ undef=u3:=e3
    rw[Array.getD_eq_getD_getElem?]at e3
    obtain⟨_,p4,e4⟩:=e4
    rw[Array.getD_eq_getD_getElem?]at p4
    simp[results,hf,asAddr,e1,e2,e3,e4,p1,p4]
   ·obtain⟨_,p1,e1⟩:=e1
    rw[Array.getD_eq_getD_getElem?]at p1
    have e2:a.tmps.getD _ undef=u2:=e2
    rw[Array.getD_eq_getD_getElem?]at e2
    obtain⟨_,p3,e3⟩:=e3
    rw[Array.getD_eq_getD_getElem?]at p3
    have e4:a.tmps.getD _ undef=u4:=e4
    rw[Array.getD_eq_getD_getElem?]at e4
    simp[results,hf,asAddr,e1,e2,e3,e4,p1,p3]
   ·obtain⟨_,p1,e1⟩:=e1
    rw[Array.getD_eq_getD_getElem?]at p1
    have e2:a.tmps.getD _ undef=u2:=e2
    rw[Array.getD_eq_getD_getElem?]at e2
    obtain⟨_,p3,e3⟩:=e3
    rw[Array.getD_eq_getD_getElem?]at p3
    obtain⟨_,p4,e4⟩:=e4
    rw[Array.getD_eq_getD_getElem?]at p4
    simp[results,hf,asAddr,e1,e2,e3,e4,p1,p3,p4]
   ·obtain⟨_,p1,e1⟩:=e1
    rw[Array.getD_eq_getD_getElem?]at p1
    obtain⟨_,p2,e2⟩:=e2
    rw[Array.getD_eq_getD_getElem?]at p2
    have e3:a.tmps.getD _ undef=u3:=e3
    rw[Array.getD_eq_getD_getElem?]at e3
    have e4:a.tmps.getD _ undef=u4:=e4
    rw[Array.getD_eq_getD_getElem?]at e4
    simp[results,hf,asAddr,e1,e2,e3,e4,p1,p2]
   ·obtain⟨_,p1,e1⟩:=e1
    rw[Array.getD_eq_getD_getElem?]at p1
    obtain⟨_,p2,e2⟩:=e2
    rw[Array.getD_eq_getD_getElem?]at p2
    have e3:a.tmps.getD _ undef=u3:=e3
    rw[Array.getD_eq_getD_getElem?]at e3
    obtain⟨_,p4,e4⟩:=e4
    rw[Array.getD_eq_getD_getElem?]at p4
    simp[results,hf,asAddr,e1,e2,e3,e4,p1,p2,p4]
   ·obtain⟨_,p1,e1⟩:=e1
    rw[Array.getD_eq_getD_getElem?]at p1
    obtain⟨_,p2,e2⟩:=e2
    rw[Array.getD_eq_getD_getElem?]at p2
    obtain⟨_,p3,e3⟩:=e3
    rw[Array.getD_eq_getD_getElem?]at p3
    have e4:a.tmps.getD _ undef=u4:=e4
    rw[Array.getD_eq_getD_getElem?]at e4
    simp[results,hf,asAddr,e1,e2,e3,e4,p1,p2,p3]
   ·obtain⟨_,p1,e1⟩:=e1
    rw[Array.getD_eq_getD_getElem?]at p1
    obtain⟨_,p2,e2⟩:=e2
    rw[Array.getD_eq_getD_getElem?]at p2
    obtain⟨_,p3,e3⟩:=e3
    rw[Array.getD_eq_getD_getElem?]at p3
    obtain⟨_,p4,e4⟩:=e4
    rw[Array.getD_eq_getD_getElem?]at p4
    simp[results,hf,asAddr,e1,e2,e3,e4,p1,p2,p3,p4]
 |_::_::_::_::_::_,_,_,hl=>simp at hl
end
end Go.Proofs.YtjcojocjlglglaaGreat.G
namespace Go.Proofs.YtjcojocjlglglaaGreat.G
set_option linter.all false
open Go.RowKit L D
variable{ty:Tag→Nat}
theorem RI.ra{w:World}{env:Env}{v:V}{u:Value}{fp:List Nat}(h:RI w v u fp):RA w [] env v u:=by
 have hno: ∀b, ¬Ow [] env b:=by rintro b ⟨n,o,hl,_⟩;simp[look]at hl
 cases v with
 |lit x=>exact⟨h.1,h.2.1⟩
 |sl t l=>exact⟨fp,h,fun b _=>hno b⟩
 |_=>exact h.elim
theorem wT.NO{w:World}{env:Env}{x:S1}{u:Value}(h:wT w x u):eg w [] env x u:=by
 cases x with
 |a v=>obtain⟨fp,h⟩:=h;exact h.ra
 |agg l=>
  obtain⟨cs,fp,rfl,h⟩:=h
  exact⟨cs,rfl,h.uK fun b _=>by rintro⟨n,o,hl,_⟩;simp[look]at hl⟩
theorem ld: ∀{as:List S1} {i s:Nat} {v:SV},look (enter i as) s=some v→ ∃x,v= .one x∧i≤s∧as[s-i]? =some x
 |x::r,i,s,v,h=>by
  by_cases hs:s=i
  ·subst hs
   rw[enter,look_eq]at h
   simp only[Option.some.injEq]at h
   exact⟨x,h.symm,Nat.le_refl _,by simp⟩
  ·rw[enter,aR hs]at h
   obtain⟨y,h1,h2,h3⟩:=ld h
   refine⟨y,h1,by omega,?_⟩
   rw[show s-i=(s-(i+1))+1 by omega,List.getElem?_cons_succ];exact h3
theorem entry{as:List S1}{us:List Value}{w:World}{n:Nat}(hA:xE w)(ha:aU (wT w) as us)(hn:as.length≤n):
  Inv ty ⟨w,[],fun _=>⟨.tuple #[],[]⟩⟩ ⟨n,enter 0 as,[]⟩ {tmps:=us.toArray++Array.replicate (n-us.toArray.size) undef,defers:= []} w:=by
 have hl:=ha.len
 refine⟨by simp;omega,rfl,Kept.refl _ _,⟨hA,fun _ _ h=>by cases h⟩,fun _=>⟨.tuple #[],[]⟩,⟨fun n o h=>by simp[look]at h,fun n m o o' _ h=>by simp[look]at h,fun s v hv=> ?_,fun n o h=>by simp[look]at h,fun n _=>⟨rfl,fun b hb=>hb⟩⟩⟩
 obtain⟨x,rfl,_,hx⟩:=ld hv
 rw[Nat.sub_zero]at hx
 obtain⟨u,hu,hr⟩:=ha.at hx
 have hs:s<us.length:=(List.getElem?_eq_some_iff.1 hu).1
 have:(us.toArray++Array.replicate (n-us.toArray.size) undef).getD s undef=u:=by
  rw[Array.getD_eq_getD_getElem?,Array.getElem?_append_left (by simpa using hs)]
  simp[hu]
 show eg w [] _ x _
 rw[this]
 exact hr.NO
theorem Sound.of{P:Program}{Γ:Nat→TK}(X:Ctx P ty Γ){f:FuncId}{fn:Func}{c:Code}{nL:List ResultVar}{n:Nat}{as rs:List S1}
  (AK: ∀(args:Array Value) (w:World),(callFunc f args).run P w= .ok (.enter f args) w)(hf:P.funcs[f]? =some fn)(hb:fn.body=some c)(hr:fn.results=nL.toArray)(hl:nL.length≤4)(hn:fn.ntmps=n)(hlen:as.length≤n)
  (h: ∀zb,W P ty zb c (Fin Γ nL rs) ⟨n,enter 0 as,[]⟩):Sound ty P f as rs:=by
 refine⟨AK,fun w us hA ha=>calls_of_wp hf hb ?_⟩
 rw[hn]
 refine wp_mono (h _ _ w (entry hA ha hlen)) ?_
 rintro e a w' ⟨st,iv,he,vc,eC,hv⟩
 have key:a.defers= []∧ ∃v,(results fn a.tmps).run P w'= .ok v w'∧Mp ty w rs (.returned v) w':=by
  obtain⟨env,g⟩:=iv.good
  unfold ends at eC
  split at eC
  ·rename_i xs hx
   split at eC
   ·rename_i jL k hm
    split at eC
    ·rename_i hnd
     simp only[Option.some.injEq]at eC
     subst eC
     obtain⟨vs,h1,h2,h3⟩:=vu X.kind g hr hx hl
     obtain⟨fp,q1,q2,_⟩:=AJ rfl g h1 hm (fQ hnd) hv.out
     have Ku:Below w.heap.size w w':=⟨iv.kept.os,iv.kept.tape,iv.kept.output,iv.kept.size,fun b hb=>iv.kept.block b hb (by simp)⟩
     refine⟨iv.defers,_,h3,_,fp,rfl,Ku,q2,?_⟩
     match rs,vs,q1 with
     | [],[],q1=>exact⟨[],rfl,q1⟩
     | [r],[u],⟨f1,f2,p1,p2,e⟩=>
       have p2:f2= []:=p2
       rw[p2,List.append_nil]at e
       rw[e];exact p1
     |r1::r2::r,u1::u2::u,q1=>exact⟨_,rfl,q1⟩
     | [],_::_,q1=>exact q1.elim
     |_::_,[],q1=>exact q1.elim
     | [r],u1::u2::u,⟨_,_,_,p,_⟩=>exact p.elim
     |r1::r2::r,[u],⟨_,_,_,p,_⟩=>exact p.elim
    ·cases eC
   ·cases eC
  ·cases eC
 rcases he with rfl|rfl<;>exact key
def ff(m:Nat):List V→List V×Hp
 | []=>([],[])
 | .sl t l::r=>match ff (m+1) r with| (vs,os)=>(.own m::vs,(m, .arr t l)::os)
 |v::r=>match ff (m+1) r with| (vs,os)=>(v::vs,os)
def eS(m:Nat):List S1→List S1×Hp
 | []=>([],[])
 | .a v::r=>match ff m [v],eS (m+1) r with
   | ([v'],os),(as,os')=>(.a v'::as,os++os')
   |_,(as,os')=>(.a .any::as,os')
 | .agg l::r=>match ff m l,eS (m+l.length) r with
   | (l',os),(as,os')=>(.agg l'::as,os++os')
def cQ(st:St)(m:Nat):List V→List V→Option (List Prop)
 | [],[]=>some []
 | .sl _ _::r, .sl t' l'::s=>match look st.hp m,cQ st (m+1) r s with
   |some (.arr t l2),some vc=>match gy t' t l2 with|some l2=>some ((l2=l')::vc)|none=>none
   |_,_=>none
 | .lit v::r, .lit v'::s=>match cQ st (m+1) r s with|some vc=>some ((v=v')::vc)|none=>none
 |_,_=>none
def vv(st:St)(m:Nat):List S1→List S1→Option (List Prop)
 | [],[]=>some []
 | .a v::r, .a v'::s=>match cQ st m [v] [v'],vv st (m+1) r s with|some x,some y=>some (x++y)|_,_=>none
 | .agg l::r, .agg l'::s=>match cQ st m l l',vv st (m+l.length) r s with|some x,some y=>some (x++y)|_,_=>none
 |_,_=>none
def GB(Γ:Nat→TK)(st:St)(rv:ResultVar)(as as':List S1)(v:Value):Option (List Prop):=
 match ED Γ st rv,vv st 1000 as as' with
 |some (.a (.lit v')),some vc=>some ((v'=v)::vc)
 |_,_=>none
def tu(Γ:Nat→TK)(rv:ResultVar)(as as':List S1)(v:Value):Post:=fun e st=>(e= .ret∨e= .normal)∧ ∃vc,GB Γ st rv as as' v=some vc∧ak vc
theorem tu.ret{Γ:Nat→TK}{rv:ResultVar}{as as':List S1}{v:Value}{st:St}{vc:List Prop}(h:GB Γ st rv as as' v=some vc)(hv:ak vc):tu Γ rv as as' v .ret st:=⟨.inl rfl,vc,h,hv⟩
def AL(m:Nat):List Value→List (List Nat)→List (Nat×CO)
 |u::us,f::fs=>(m,⟨u,f⟩)::AL (m+1) us fs
 |_,_=> []
theorem vA: ∀{us:List Value} {fs:List (List Nat)} {m i:Nat} {u:Value} {f:List Nat},us[i]? =some u→fs[i]? =some f→look (AL m us fs) (m+i)=some ⟨u,f⟩
 |u::us,f::fs,m,0,u',f',h1,h2=>by
  simp at h1 h2
  subst h1;subst h2
  rw[AL];exact look_eq
 |u::us,f::fs,m,i+1,u',f',h1,h2=>by
  rw[AL,aR (by omega),show m+(i+1)=(m+1)+i by omega]
  exact vA (by simpa using h1) (by simpa using h2)
 | [],_,_,_,_,_,h1,_=>by simp at h1
 |_::_,[],_,_,_,_,_,h2=>by simp at h2
theorem vB{w:World}: ∀{vs:List V} {us:List Value} {aQ:List (List Nat)} (m:Nat),RF w vs us aQ→(∀n o,look (ff m vs).2 n=some o→ ∃t l u f,o= .arr t l∧m≤n∧n<m+vs.length∧us[n-m]? =some u∧aQ[n-m]? =some f∧vs[n-m]? =some (.sl t l)∧Sl (kk t) (rd t) w u l f)∧
  ∀hp env,(∀n o,look (ff m vs).2 n=some o→look hp n=some o)→(∀i u f,us[i]? =some u→aQ[i]? =some f→env (m+i)=⟨u,f⟩)→aU (RA w hp env) (ff m vs).1 us
 | [],[],_,m,h=>⟨fun n o hl=>by simp[ff,look]at hl,fun _ _ _ _=>trivial⟩
 |v::vs,u::us,aQ,m,⟨f,fr,h1,h2,e⟩=>by
  subst e
  obtain⟨q1,q2⟩:=vB (m+1) h2
  have up: ∀n o,(∃t l u' f',o=Obj.arr t l∧m+1≤n∧n<m+1+vs.length∧us[n-(m+1)]? =some u'∧fr[n-(m+1)]? =some f'∧vs[n-(m+1)]? =some (.sl t l)∧Sl (kk t) (rd t) w u' l f')→
    ∃t l u' f',o=Obj.arr t l∧m≤n∧n<m+(v::vs).length∧(u::us)[n-m]? =some u'∧(f::fr)[n-m]? =some f'∧(v::vs)[n-m]? =some (.sl t l)∧Sl (kk t) (rd t) w u' l f':=by
   rintro n o ⟨t,l,u',f',k1,k2,k3,k4,k5,k6,k7⟩
   have e:n-m=(n-(m+1))+1:=by omega
   exact⟨t,l,u',f',k1,by omega,by simp;omega,by rw[e];simpa using k4,by rw[e];simpa using k5,by rw[e];simpa using k6,k7⟩
  cases v with
  |sl t l=>
   refine⟨fun n o hl=> ?_,fun hp env hh he=>⟨?_,q2 hp env (fun n o hl=>hh n o ?_) (fun i u' f' hu hf=> ?_)⟩⟩
   ·by_cases hn:n=m
    ·subst hn
     simp only[ff]at hl
     rw[look_eq]at hl
     simp only[Option.some.injEq]at hl
     exact⟨t,l,u,f,hl.symm,Nat.le_refl _,by simp,by simp,by simp,by simp,h1⟩
    ·simp only[ff]at hl
     rw[aR hn]at hl
     exact up n o (q1 n o hl)
   ·refine⟨⟨t,l,hh m _ ?_⟩,?_⟩
    ·simp only[ff];exact look_eq
    ·have:=he 0 u f (by simp) (by simp)
     rw[Nat.add_zero]at this
     rw[this]
   ·have hge:=(q1 n o hl)
    obtain⟨_,_,_,_,_,hge,_⟩:=hge
    simp only[ff]
    rw[aR (by omega)];exact hl
   ·have:=he (i+1) u' f' (by simpa using hu) (by simpa using hf)
    rwa [show m+(i+1)=m+1+i by omega]at this
  |lit x=>
   refine⟨fun n o hl=>up n o (q1 n o hl),fun hp env hh he=>⟨⟨h1.1,h1.2.1⟩,q2 hp env hh (fun i u' f' hu hf=> ?_)⟩⟩
   have:=he (i+1) u' f' (by simpa using hu) (by simpa using hf)
   rwa [show m+(i+1)=m+1+i by omega]at this
  |_=>exact h1.elim
 | [],_::_,_,_,h=>h.elim
 |_::_,[],_,_,h=>h.elim
theorem RF.len{w:World}: ∀{vs:List V} {us:List Value} {aQ:List (List Nat)},RF w vs us aQ→us.length=vs.length∧aQ.length=vs.length
 | [],[],_,h=>by rw[show _=_ from h];exact⟨rfl,rfl⟩
 |_::_,_::_,_,⟨_,_,_,h,e⟩=>by obtain⟨h1,h2⟩:=RF.len h;rw[e];exact⟨by simp[h1],by simp[h2]⟩
 | [],_::_,_,h=>h.elim
 |_::_,[],_,h=>h.elim
theorem rm: ∀{vs:List V} (m:Nat),(ff m vs).1.length=vs.length
 | [],_=>rfl
 |v::r,m=>by
  have:=rm (vs:=r) (m+1)
  cases v<;>simp[ff,this]
theorem vC{w:World}: ∀{as:List S1} {us:List Value} {aQ:List (List Nat)} (m:Nat),j0 w as us aQ→
  (∀n o,look (eS m as).2 n=some o→ ∃t l u f,o= .arr t l∧m≤n∧(us.flatMap fun u=>u.cells.toList)[n-m]? =some u∧aQ[n-m]? =some f∧Sl (kk t) (rd t) w u l f)∧
  ∀hp env,(∀n o,look (eS m as).2 n=some o→look hp n=some o)→(∀i u f,(us.flatMap fun u=>u.cells.toList)[i]? =some u→aQ[i]? =some f→env (m+i)=⟨u,f⟩)→aU (eg w hp env) (eS m as).1 us
 | [],[],aQ,m,h=>⟨fun n o hl=>by simp[eS,look]at hl,fun _ _ _ _=>trivial⟩
 | .a v::as,u::us,aQ,m,⟨f,g,h1,h2,e⟩=>by
   subst e
   have hc:u.cells.toList= [u]:=by rw[h1.cells]
   obtain⟨p1,p2⟩:=vB m (show RF w [v] [u] [f]from ⟨f,[],h1,rfl,rfl⟩)
   obtain⟨q1,q2⟩:=vC (m+1) h2
   have lU:=rm (vs:= [v]) m
   rw[List.flatMap_cons,hc]
   simp only[eS]
   generalize ff m [v]=x at p1 p2 lU ⊢
   obtain⟨xs,os⟩:=x
   match xs,lU with
   | [v'],_=>
     have up: ∀n o,look (eS (m+1) as).2 n=some o→look os n=none:=by
      intro n o hl
      cases hq:look os n with
      |none=>rfl
      |some o'=>
       obtain⟨_,_,_,_,_,k1,_⟩:=q1 n o hl
       obtain⟨_,_,_,_,_,_,k2,_⟩:=p1 n o' hq
       simp at k2;omega
     refine⟨fun n o hl=> ?_,fun hp env hh he=>⟨?_,q2 hp env (fun n o hl=>hh n o (by
       show look (os++(eS (m+1) as).2) n=some o
       rw[aG (up n o hl)];exact hl)) fun i u' f' hu hf=> ?_⟩⟩
     ·have hl:look (os++(eS (m+1) as).2) n=some o:=hl
      cases hq:look os n with
      |some o'=>
       rw[aY hq]at hl
       simp only[Option.some.injEq]at hl
       subst hl
       obtain⟨t,l,u',f',k1,k2,k3,k4,k5,k6,k7⟩:=p1 n _ hq
       have h0:n-m=0:=by simp at k3;omega
       rw[h0]at k4 k5 ⊢
       simp at k4 k5
       subst k4;subst k5
       exact⟨t,l,u,f,k1,k2,by simp,by simp,k7⟩
      |none=>
       rw[aG hq]at hl
       obtain⟨t,l,u',f',k1,k2,k3,k4,k5⟩:=q1 n o hl
       have e:n-m=(n-(m+1))+1:=by omega
       exact⟨t,l,u',f',k1,by omega,by rw[e];simpa using k3,by rw[e];simpa using k4,k5⟩
     ·have:=p2 hp env (fun n o hl=>hh n o (aY hl)) (fun i u' f' hu hf=>by
       match i with
       |0=>exact he 0 u' f' (by simpa using hu) (by simpa using hf)
       |i+1=>simp at hu)
      exact this.1
     ·have:=he (i+1) u' f' (by simpa using hu) (by simpa using hf)
      rwa [show m+(i+1)=m+1+i by omega]at this
 | .agg l::as,u::us,aQ,m,⟨cs,f,g,e1,h1,h2,e⟩=>by
   subst e;subst e1
   have hc:(Value.agg cs.toArray).cells.toList=cs:=by simp[Value.cells]
   obtain⟨p1,p2⟩:=vB m h1
   obtain⟨q1,q2⟩:=vC (m+l.length) h2
   obtain⟨n1,n2⟩:=RF.len h1
   rw[List.flatMap_cons,hc]
   have up: ∀n o,look (eS (m+l.length) as).2 n=some o→look (ff m l).2 n=none:=by
    intro n o hl
    cases hq:look (ff m l).2 n with
    |none=>rfl
    |some o'=>
     obtain⟨_,_,_,_,_,k1,_⟩:=q1 n o hl
     obtain⟨_,_,_,_,_,_,k2,_⟩:=p1 n o' hq
     omega
   refine⟨fun n o hl=> ?_,fun hp env hh he=>⟨⟨cs,rfl,?_⟩,q2 hp env (fun n o hl=>hh n o (by
     show look ((ff m l).2++(eS (m+l.length) as).2) n=some o
     rw[aG (up n o hl)];exact hl)) fun i u' f' hu hf=> ?_⟩⟩
   ·have hl:look ((ff m l).2++(eS (m+l.length) as).2) n=some o:=hl
    cases hq:look (ff m l).2 n with
    |some o'=>
     rw[aY hq]at hl
     simp only[Option.some.injEq]at hl
     subst hl
     obtain⟨t,l',u',f',k1,k2,k3,k4,k5,k6,k7⟩:=p1 n _ hq
     exact⟨t,l',u',f',k1,k2,by rw[List.getElem?_append_left (by omega)];exact k4,by rw[List.getElem?_append_left (by omega)];exact k5,k7⟩
    |none=>
     rw[aG hq]at hl
     obtain⟨t,l',u',f',k1,k2,k3,k4,k5⟩:=q1 n o hl
     have e:n-m-l.length=n-(m+l.length):=by omega
     exact⟨t,l',u',f',k1,by omega,by rw[List.getElem?_append_right (by omega),n1,e];exact k3,by rw[List.getElem?_append_right (by omega),n2,e];exact k4,k5⟩
   ·exact p2 hp env (fun n o hl=>hh n o (aY hl)) (fun i u' f' hu hf=>he i u' f'
     (by rw[List.getElem?_append_left (List.getElem?_eq_some_iff.1 hu).1];exact hu)
     (by rw[List.getElem?_append_left (List.getElem?_eq_some_iff.1 hf).1];exact hf))
   ·have:=he (l.length+i) u' f' (by rw[List.getElem?_append_right (by omega),n1,show l.length+i-l.length=i by omega];exact hu)
     (by rw[List.getElem?_append_right (by omega),n2,show l.length+i-l.length=i by omega];exact hf)
    rwa [show m+(l.length+i)=m+l.length+i by omega]at this
 | [],_::_,_,_,h=>h.elim
 | .a _::_,[],_,_,h=>h.elim
 | .agg _::_,[],_,_,h=>h.elim
theorem nK.nodup: ∀{fs gs:List (List Nat)},nK fs gs→gs.flatten.Nodup→(∀f,f∈fs→f.Nodup)→fs.flatten.Nodup∧ ∀b,b∈fs.flatten→b∈gs.flatten
 | [],[],_,_,_=>⟨by simp,by simp⟩
 |f::fs,g::gs,⟨h1,h2⟩,hn,hf=>by
  rw[List.flatten_cons]at hn
  obtain⟨_,n2,n3⟩:=List.nodup_append.1 hn
  obtain⟨q1,q2⟩:=nK.nodup h2 n2 (fun f hm=>hf f (List.mem_cons_of_mem _ hm))
  refine⟨?_,fun b hb=> ?_⟩
  ·rw[List.flatten_cons]
   exact List.nodup_append.2 ⟨hf f (by simp),q1,fun b hb c hc e=>n3 b (h1 b hb) c (q2 c hc) e⟩
  ·rw[List.flatten_cons]at hb ⊢
   rcases List.mem_append.1 hb with hb|hb
   ·exact List.mem_append_left _ (h1 b hb)
   ·exact List.mem_append_right _ (q2 b hb)
 | [],_::_,h,_,_=>h.elim
 |_::_,[],h,_,_=>h.elim
theorem nK.app: ∀{a b c d:List (List Nat)},nK a b→nK c d→nK (a++c) (b++d)
 | [],[],_,_,_,h=>h
 |_::_,_::_,_,_,⟨h1,h2⟩,h=>⟨h1,nK.app h2 h⟩
 | [],_::_,_,_,h,_=>h.elim
 |_::_,[],_,_,h,_=>h.elim
section
variable{zb:bK}{st:St}{tmps:Array Value}{w0 w:World}{env:Env}
theorem tR(g:Good ty zb st tmps w env): ∀{vs vs':List V} {us:List Value} {aQ:List (List Nat)} {vc:List Prop} (m:Nat),gd m=true→cQ st m vs vs'=some vc→(∀q,q∈vc→q)→RF w0 vs us aQ→
  (∀i u f,us[i]? =some u→aQ[i]? =some f→zb.pv (m+i)=⟨u,f⟩)→ ∃gf,RF w vs' us gf∧nK gf aQ∧ ∀f,f∈gf→Own 0 w f
 | [],[],[],aQ,vc,m,_,_,_,h,_=>⟨[],rfl,by rw[show aQ= []from h];trivial,by simp⟩
 | .sl t l::r, .sl t' l'::s,u::us,aQ,vc,m,hm,hh,hv,⟨f,fr,h1,h2,e⟩,hz=>by
   subst e
   simp only[cQ]at hh
   split at hh
   ·rename_i t2 l2 vcs hl hr
    split at hh
    ·rename_i l3 hc
     simp only[Option.some.injEq]at hh
     subst hh
     obtain⟨e,rfl⟩:=cD hc
     subst e
     have e2:l2=l':=hv _ (by simp)
     subst e2
     obtain⟨gf,q1,q2,q3⟩:=tR g (m+1) (by unfold gd at hm ⊢;exact Nat.ble_eq_true_of_le (Nat.le_succ_of_le (Nat.le_of_ble_eq_true hm))) hr (fun q hq=>hv q (List.mem_cons_of_mem _ hq)) h2 (fun i u' f' hu hf=>by
      have:=hz (i+1) u' f' (by simpa using hu) (by simpa using hf)
      rwa [show m+(i+1)=m+1+i by omega]at this)
     have hp:=hz 0 u f (by simp) (by simp)
     rw[Nat.add_zero]at hp
     obtain⟨k1,k2⟩:=g.pins m hm
     rw[hp]at k1 k2
     have hro:=g.obj m _ hl
     refine⟨(env m).fp::gf,⟨_,_,?_,q1,rfl⟩,⟨k2,q2⟩,?_⟩
     ·have:=RO.sl hro
      rw[k1]at this
      exact this
     ·intro f' hf'
      rcases List.mem_cons.1 hf' with rfl|hf'
      ·exact RO.own hro
      ·exact q3 f' hf'
    ·cases hh
   ·cases hh
 | .lit x::r, .lit x'::s,u::us,aQ,vc,m,hm,hh,hv,⟨f,fr,h1,h2,e⟩,hz=>by
   subst e
   simp only[cQ]at hh
   split at hh
   ·rename_i vcs hr
    simp only[Option.some.injEq]at hh
    subst hh
    have e2:x=x':=hv _ (by simp)
    subst e2
    obtain⟨gf,q1,q2,q3⟩:=tR g (m+1) (by unfold gd at hm ⊢;exact Nat.ble_eq_true_of_le (Nat.le_succ_of_le (Nat.le_of_ble_eq_true hm))) hr (fun q hq=>hv q (List.mem_cons_of_mem _ hq)) h2 (fun i u' f' hu hf=>by
     have:=hz (i+1) u' f' (by simpa using hu) (by simpa using hf)
     rwa [show m+(i+1)=m+1+i by omega]at this)
    refine⟨[]::gf,⟨_,_,⟨h1.1,h1.2.1,rfl⟩,q1,rfl⟩,⟨by simp,q2⟩,?_⟩
    intro f' hf'
    rcases List.mem_cons.1 hf' with rfl|hf'
    ·exact Own.nil _ _
    ·exact q3 f' hf'
   ·cases hh
 | [],_::_,_,_,_,_,_,hh,_,_,_=>by simp[cQ]at hh
 | .sl _ _::_,[],_,_,_,_,_,hh,_,_,_=>by simp[cQ]at hh
 | .sl _ _::_, .lit _::_,_,_,_,_,_,hh,_,_,_=>by simp[cQ]at hh
 | .sl _ _::_, .any::_,_,_,_,_,_,hh,_,_,_=>by simp[cQ]at hh
 | .sl _ _::_, .own _::_,_,_,_,_,_,hh,_,_,_=>by simp[cQ]at hh
 | .sl _ _::_, .ptr _ _::_,_,_,_,_,_,hh,_,_,_=>by simp[cQ]at hh
 | .sl _ _::_, .jm _ _ _::_,_,_,_,_,_,hh,_,_,_=>by simp[cQ]at hh
 | .sl _ _::_, .ip _ _ _::_,_,_,_,_,_,hh,_,_,_=>by simp[cQ]at hh
 | .sl _ _::_, .vw _ _ _ _::_,_,_,_,_,_,hh,_,_,_=>by simp[cQ]at hh
 | .sl _ _::_, .wL _ _ _ _ _::_,_,_,_,_,_,hh,_,_,_=>by simp[cQ]at hh
 | .sl _ _::_, .wQ _ _ _::_,_,_,_,_,_,hh,_,_,_=>by simp[cQ]at hh
 | .sl _ _::_, .mix _ _ _ _::_,_,_,_,_,_,hh,_,_,_=>by simp[cQ]at hh
 | .sl _ _::_, .s8 _::_,_,_,_,_,_,hh,_,_,_=>by simp[cQ]at hh
 | .sl _ _::_, .uD _ _::_,_,_,_,_,_,hh,_,_,_=>by simp[cQ]at hh
 | .sl _ _::_, .ot _::_,_,_,_,_,_,hh,_,_,_=>by simp[cQ]at hh
 | .lit _::_,[],_,_,_,_,_,hh,_,_,_=>by simp[cQ]at hh
 | .lit _::_, .sl _ _::_,_,_,_,_,_,hh,_,_,_=>by simp[cQ]at hh
 | .lit _::_, .any::_,_,_,_,_,_,hh,_,_,_=>by simp[cQ]at hh
 | .lit _::_, .own _::_,_,_,_,_,_,hh,_,_,_=>by simp[cQ]at hh
 | .lit _::_, .ptr _ _::_,_,_,_,_,_,hh,_,_,_=>by simp[cQ]at hh
 | .lit _::_, .jm _ _ _::_,_,_,_,_,_,hh,_,_,_=>by simp[cQ]at hh
 | .lit _::_, .ip _ _ _::_,_,_,_,_,_,hh,_,_,_=>by simp[cQ]at hh
 | .lit _::_, .vw _ _ _ _::_,_,_,_,_,_,hh,_,_,_=>by simp[cQ]at hh
 | .lit _::_, .wL _ _ _ _ _::_,_,_,_,_,_,hh,_,_,_=>by simp[cQ]at hh
 | .lit _::_, .wQ _ _ _::_,_,_,_,_,_,hh,_,_,_=>by simp[cQ]at hh
 | .lit _::_, .mix _ _ _ _::_,_,_,_,_,_,hh,_,_,_=>by simp[cQ]at hh
 | .lit _::_, .s8 _::_,_,_,_,_,_,hh,_,_,_=>by simp[cQ]at hh
 | .lit _::_, .uD _ _::_,_,_,_,_,_,hh,_,_,_=>by simp[cQ]at hh
 | .lit _::_, .ot _::_,_,_,_,_,_,hh,_,_,_=>by simp[cQ]at hh
 | .any::_,_,_,_,_,_,_,hh,_,_,_=>by simp[cQ]at hh
 | .own _::_,_,_,_,_,_,_,hh,_,_,_=>by simp[cQ]at hh
 | .ptr _ _::_,_,_,_,_,_,_,hh,_,_,_=>by simp[cQ]at hh
 | .jm _ _ _::_,_,_,_,_,_,_,hh,_,_,_=>by simp[cQ]at hh
 | .ip _ _ _::_,_,_,_,_,_,_,hh,_,_,_=>by simp[cQ]at hh
 | .vw _ _ _ _::_,_,_,_,_,_,_,hh,_,_,_=>by simp[cQ]at hh
 | .wL _ _ _ _ _::_,_,_,_,_,_,_,hh,_,_,_=>by simp[cQ]at hh
 | .wQ _ _ _::_,_,_,_,_,_,_,hh,_,_,_=>by simp[cQ]at hh
 | .mix _ _ _ _::_,_,_,_,_,_,_,hh,_,_,_=>by simp[cQ]at hh
 | .s8 _::_,_,_,_,_,_,_,hh,_,_,_=>by simp[cQ]at hh
 | .uD _ _::_,_,_,_,_,_,_,hh,_,_,_=>by simp[cQ]at hh
 | .ot _::_,_,_,_,_,_,_,hh,_,_,_=>by simp[cQ]at hh
 |_::_,_,[],_,_,_,_,_,_,h,_=>h.elim
 | [],[],_::_,_,_,_,_,_,_,h,_=>h.elim
theorem RF.one{w:World}{v:V}{u:Value}{aQ:List (List Nat)}(h:RF w [v] [u] aQ): ∃f,RI w v u f∧aQ= [f]:=by
 obtain⟨f,g,h1,h2,h3⟩:=h
 exact⟨f,h1,by rw[h3,show g= []from h2]⟩
theorem zi(g:Good ty zb st tmps w env): ∀{as as':List S1} {us:List Value} {aQ:List (List Nat)} {vc:List Prop} (m:Nat),gd m=true→vv st m as as'=some vc→(∀q,q∈vc→q)→j0 w0 as us aQ→
  (∀i u f,(us.flatMap fun u=>u.cells.toList)[i]? =some u→aQ[i]? =some f→zb.pv (m+i)=⟨u,f⟩)→ ∃gf,j0 w as' us gf∧nK gf aQ∧ ∀f,f∈gf→Own 0 w f
 | [],[],[],aQ,vc,m,_,_,_,h,_=>⟨[],rfl,by rw[show aQ= []from h];trivial,by simp⟩
 | .a v::r, .a v'::s,u::us,aQ,vc,m,hm,hh,hv,⟨f,fr,h1,h2,e⟩,hz=>by
   subst e
   have hc:u.cells.toList= [u]:=by rw[h1.cells]
   rw[List.flatMap_cons,hc]at hz
   simp only[vv]at hh
   split at hh
   ·rename_i x y hx hy
    simp only[Option.some.injEq]at hh
    subst hh
    obtain⟨f1,p1,p2,p3⟩:=tR g m hm hx (fun q hq=>hv q (List.mem_append_left _ hq)) (show RF w0 [v] [u] [f]from ⟨f,[],h1,rfl,rfl⟩) (fun i u' f' hu hf=>by
     match i with
     |0=>exact hz 0 u' f' (by simpa using hu) (by simpa using hf)
     |i+1=>simp at hu)
    obtain⟨f2,rfl⟩: ∃f2,f1= [f2]:=by obtain⟨f2,_,h⟩:=RF.one p1;exact⟨f2,h⟩
    obtain⟨f3,p4,p5⟩:=RF.one p1
    simp only[List.cons.injEq,and_true]at p5
    subst p5
    obtain⟨gf,q1,q2,q3⟩:=zi g (m+1) (by unfold gd at hm ⊢;exact Nat.ble_eq_true_of_le (Nat.le_succ_of_le (Nat.le_of_ble_eq_true hm))) hy (fun q hq=>hv q (List.mem_append_right _ hq)) h2 (fun i u' f' hu hf=>by
     have:=hz (i+1) u' f' (by simpa using hu) (by simpa using hf)
     rwa [show m+(i+1)=m+1+i by omega]at this)
    refine⟨f2::gf,⟨_,_,p4,q1,rfl⟩,⟨p2.1,q2⟩,?_⟩
    intro f' hf'
    rcases List.mem_cons.1 hf' with rfl|hf'
    ·exact p3 _ (by simp)
    ·exact q3 f' hf'
   ·cases hh
 | .agg l::r, .agg l'::s,u::us,aQ,vc,m,hm,hh,hv,⟨cs,f,fr,e1,h1,h2,e⟩,hz=>by
   subst e;subst e1
   have hc:(Value.agg cs.toArray).cells.toList=cs:=by simp[Value.cells]
   obtain⟨n1,n2⟩:=RF.len h1
   rw[List.flatMap_cons,hc]at hz
   simp only[vv]at hh
   split at hh
   ·rename_i x y hx hy
    simp only[Option.some.injEq]at hh
    subst hh
    obtain⟨f1,p1,p2,p3⟩:=tR g m hm hx (fun q hq=>hv q (List.mem_append_left _ hq)) h1 (fun i u' f' hu hf=>hz i u' f'
     (by rw[List.getElem?_append_left (List.getElem?_eq_some_iff.1 hu).1];exact hu)
     (by rw[List.getElem?_append_left (List.getElem?_eq_some_iff.1 hf).1];exact hf))
    obtain⟨gf,q1,q2,q3⟩:=zi g (m+l.length) (by unfold gd at hm ⊢;exact Nat.ble_eq_true_of_le (Nat.le_trans (Nat.le_of_ble_eq_true hm) (Nat.le_add_right _ _))) hy (fun q hq=>hv q (List.mem_append_right _ hq)) h2 (fun i u' f' hu hf=>by
     have:=hz (l.length+i) u' f' (by rw[List.getElem?_append_right (by omega),n1,show l.length+i-l.length=i by omega];exact hu)
      (by rw[List.getElem?_append_right (by omega),n2,show l.length+i-l.length=i by omega];exact hf)
     rwa [show m+(l.length+i)=m+l.length+i by omega]at this)
    refine⟨f1++gf,⟨cs,f1,gf,rfl,p1,q1,rfl⟩,nK.app p2 q2,?_⟩
    intro f' hf'
    rcases List.mem_append.1 hf' with hf'|hf'
    ·exact p3 _ hf'
    ·exact q3 f' hf'
   ·cases hh
 | [],_::_,_,_,_,_,_,hh,_,_,_=>by simp[vv]at hh
 | .a _::_,[],_,_,_,_,_,hh,_,_,_=>by simp[vv]at hh
 | .agg _::_,[],_,_,_,_,_,hh,_,_,_=>by simp[vv]at hh
 | .a _::_, .agg _::_,_,_,_,_,_,hh,_,_,_=>by simp[vv]at hh
 | .agg _::_, .a _::_,_,_,_,_,_,hh,_,_,_=>by simp[vv]at hh
 | .a _::_,_,[],_,_,_,_,_,_,h,_=>h.elim
 | .agg _::_,_,[],_,_,_,_,_,_,h,_=>h.elim
 | [],[],_::_,_,_,_,_,_,_,h,_=>h.elim
end
theorem rq: ∀{as:List S1} (m:Nat),(eS m as).1.length=as.length
 | [],_=>rfl
 | .a v::r,m=>by
   have:=rq (as:=r) (m+1)
   have h2:=rm (vs:= [v]) m
   simp only[eS]
   generalize ff m [v]=x at h2 ⊢
   obtain⟨xs,os⟩:=x
   match xs,h2 with
   | [v'],_=>simp[this]
 | .agg l::r,m=>by
   have:=rq (as:=r) (m+l.length)
   simp[eS,this]
theorem K6{aQ:List (List Nat)}(h:aQ.flatten.Nodup){i j:Nat}{f f':List Nat}(hi:aQ[i]? =some f)(hj:aQ[j]? =some f')(hne:i≠j): ∀b,b∈f→b∉f':=by
 induction aQ generalizing i j with
 |nil=>simp at hi
 |cons g r ih=>
  rw[List.flatten_cons]at h
  obtain⟨_,n2,n3⟩:=List.nodup_append.1 h
  intro b hb hb'
  cases i with
  |zero=>
   cases j with
   |zero=>exact hne rfl
   |succ j=>
    simp at hi hj
    subst hi
    exact n3 b hb b (List.mem_flatten.2 ⟨f',List.mem_of_getElem? hj,hb'⟩) rfl
  |succ i=>
   cases j with
   |zero=>
    simp at hi hj
    subst hj
    exact n3 b hb' b (List.mem_flatten.2 ⟨f,List.mem_of_getElem? hi,hb⟩) rfl
   |succ j=>exact ih n2 (by simpa using hi) (by simpa using hj) (by omega) b hb hb'
def zj(us:List Value)(aQ:List (List Nat)):Nat→CO:=fun n=>match look (AL 1000 (us.flatMap fun u=>u.cells.toList) aQ) n with|some c=>c|none=>⟨.tuple #[],[]⟩
theorem K7{as:List S1}{us:List Value}{aQ:List (List Nat)}{w:World}{n:Nat}(hA:xE w)(hL: ∀b,Ab b→b∉aQ.flatten)(ha:j0 w as us aQ)(ho:Own 0 w aQ.flatten)(hn:as.length≤n):
  Inv ty ⟨w,aQ.flatten,zj us aQ⟩ ⟨n,enter 0 (eS 1000 as).1,(eS 1000 as).2⟩ {tmps:=us.toArray++Array.replicate (n-us.toArray.size) undef,defers:= []} w:=by
 obtain⟨q1,q2⟩:=vC 1000 ha
 have NS: ∀i u f,(us.flatMap fun u=>u.cells.toList)[i]? =some u→aQ[i]? =some f→zj us aQ (1000+i)=⟨u,f⟩:=by
  intro i u f hu hf
  unfold zj
  rw[vA hu hf]
 have hall:=q2 (eS 1000 as).2 (zj us aQ) (fun _ _ h=>h) NS
 have hl:=hall.len
 rw[rq]at hl
 have EE: ∀m o,look (eS 1000 as).2 m=some o→ ∃t l f,o= .arr t l∧1000≤m∧aQ[m-1000]? =some f∧(zj us aQ m).fp=f∧Sl (kk t) (rd t) w (zj us aQ m).v l f:=by
  intro m o hm
  obtain⟨t,l,u,f,k1,k2,k3,k4,k5⟩:=q1 m o hm
  have h:=NS _ _ _ k3 k4
  rw[show 1000+(m-1000)=m by omega]at h
  refine⟨t,l,f,k1,k2,k4,by rw[h],by rw[h];exact k5⟩
 refine⟨by simp;omega,rfl,Kept.refl _ _,⟨hA,hL⟩,zj us aQ,⟨?_,?_,?_,?_,fun n _=>⟨rfl,fun b hb=>hb⟩⟩⟩
 ·intro m o hm
  obtain⟨t,l,f,rfl,k2,k3,k4,k5⟩:=EE m o hm
  have hp:gd m=true:=by unfold gd;exact Nat.ble_eq_true_of_le k2
  show iG ty w m t l _
  unfold iG
  rw[Af hp]
  refine⟨by rw[k4];exact k5,?_⟩
  rw[k4]
  have hmem:=List.mem_of_getElem? k3
  exact⟨(List.pairwise_flatten.1 ho.nodup).1 f hmem,fun _ _=>Nat.zero_le _,fun b hb=>ho.kind b (List.mem_flatten.2 ⟨f,hmem,hb⟩)⟩
 ·intro m m' o o' hne hm hm' b hb hb'
  obtain⟨t,l,f,_,k2,k3,k4,_⟩:=EE m o hm
  obtain⟨t',l',f',_,NV,PF,QF,_⟩:=EE m' o' hm'
  rw[k4]at hb
  rw[QF]at hb'
  exact K6 ho.nodup k3 PF (by omega) b hb hb'
 ·intro s v hv
  obtain⟨x,rfl,_,hx⟩:=ld hv
  rw[Nat.sub_zero]at hx
  obtain⟨u,hu,hr⟩:=hall.at hx
  have hs:s<us.length:=(List.getElem?_eq_some_iff.1 hu).1
  have:(us.toArray++Array.replicate (n-us.toArray.size) undef).getD s undef=u:=by
   rw[Array.getD_eq_getD_getElem?,Array.getElem?_append_left (by simpa using hs)]
   simp[hu]
  show eg w _ _ x _
  rw[this]
  exact hr
 ·intro m o hm b hb
  obtain⟨t,l,f,_,k2,k3,k4,_⟩:=EE m o hm
  rw[k4]at hb
  exact Or.inl (List.mem_flatten.2 ⟨f,List.mem_of_getElem? k3,hb⟩)
theorem cJ.of{P:Program}{Γ:Nat→TK}(X:Ctx P ty Γ){f:FuncId}{fn:Func}{c:Code}{rv:ResultVar}{n:Nat}{as as':List S1}{v:Value}
  (AK: ∀(args:Array Value) (w:World),(callFunc f args).run P w= .ok (.enter f args) w)(hf:P.funcs[f]? =some fn)(hb:fn.body=some c)(hr:fn.results= [rv].toArray)(hn:fn.ntmps=n)(hlen:as.length≤n)
  (h: ∀zb,W P ty zb c (tu Γ rv as as' v) ⟨n,enter 0 (eS 1000 as).1,(eS 1000 as).2⟩):cJ P f as as' v:=by
 refine⟨AK,fun w us aQ hA hL ha ho=>calls_of_wp hf hb ?_⟩
 rw[hn]
 refine wp_mono (h _ _ w (K7 (ty:=ty) hA hL ha ho hlen)) ?_
 rintro e a w' ⟨st,iv,he,vc,eC,hv⟩
 have key:a.defers= []∧ ∃v',(results fn a.tmps).run P w'= .ok v' w'∧ ∃gf,(Ending.returned v'= .returned v)∧Kept ⟨w,aQ.flatten,fun _=>⟨v,[]⟩⟩ w w'∧j0 w' as' us gf∧Own 0 w' gf.flatten∧nK gf aQ:=by
  obtain⟨env,g⟩:=iv.good
  unfold GB at eC
  split at eC
  ·rename_i v1 jL h1 h2
   simp only[Option.some.injEq]at eC
   subst eC
   have hx:mz Γ st [rv]=some [.a (.lit v1)]:=by simp[mz,h1]
   obtain⟨vs,k1,k2,k3⟩:=vu X.kind g hr hx (by simp)
   match vs,k1 with
   | [u],⟨k4,_⟩=>
     have hu:u=v1:=k4.1
     have BG:v1=v:=hv.out _ (by simp)
     obtain⟨gf,q1,q2,q3⟩:=zi g 1000 rfl h2 (fun q hq=>hv.out q (List.mem_cons_of_mem _ hq)) ha (fun i u f hu hf=>by
      show zj us aQ (1000+i)=_
      unfold zj
      rw[vA hu hf])
     obtain⟨r1,r2⟩:=nK.nodup q2 ho.nodup (fun f hf=>(q3 f hf).nodup)
     refine⟨iv.defers,_,k3,gf,by rw[hu,BG],⟨iv.kept.os,iv.kept.tape,iv.kept.output,iv.kept.size,iv.kept.block,iv.kept.shape⟩,q1,⟨r1,fun _ _=>Nat.zero_le _,fun b hb=> ?_⟩,q2⟩
     obtain⟨f,hf,hb⟩:=List.mem_flatten.1 hb
     exact(q3 f hf).kind b hb
  ·cases eC
 rcases he with rfl|rfl<;>exact key
end Go.Proofs.YtjcojocjlglglaaGreat.G
namespace Go.Proofs.YtjcojocjlglglaaGreat.G
set_option linter.all false
open Go.RowKit L D
variable{ty:Tag→Nat}
def HI:V→V→Option (List Prop)
 |_, .any=>some []
 | .lit v, .lit u=>some [v=u]
 | .own n, .own m=>match Nat.beq n m with|true=>some []|false=>none
 | .ptr n o, .ptr m q=>match Nat.beq n m&&Nat.beq o q with|true=>some []|false=>none
 |_,_=>none
def mW:List V→List V→Option (List Prop)
 | [],[]=>some []
 |x::r,y::s=>match HI x y,mW r s with|some vc,some vcs=>some (iT vc vcs)|_,_=>none
 |_,_=>none
def ji:Obj→Obj→Option (List Prop)
 | .arr t l, .arr t' l'=>match gy t' t l with|some l2=>some [l2=l']|none=>none
 | .box c, .box d=>mW c d
 |_,_=>none
def zM(hp:Hp):Hp→Option (List Prop)
 | []=>some []
 | (n,o)::r=>match look hp n with
   |some x=>match ji x o,zM hp r with|some vc,some vcs=>some (iT vc vcs)|_,_=>none
   |none=>none
def zN:S1→S1→Option (List Prop)
 | .a v, .a u=>mW [v] [u]
 | .agg l, .agg m=>mW l m
 |_,_=>none
def rW:List S1→List S1→Option (List Prop)
 | [],[]=>some []
 |x::r,y::s=>match zN x y,rW r s with|some vc,some vcs=>some (iT vc vcs)|_,_=>none
 |_,_=>none
def DQ(Γ:Nat→TK)(st:St)(nL:List ResultVar)(dy:Hp)(rs:List S1):Option (List Prop):=
 match mz Γ st nL with
 |some xs=>match rW xs rs,zM st.hp dy with
  |some vc,some vcs=>some (iT vc vcs)
  |_,_=>none
 |none=>none
def E1(Γ:Nat→TK)(nL:List ResultVar)(dy:Hp)(rs:List S1):Post:=fun e st=>(e= .ret∨e= .normal)∧ ∃vc,DQ Γ st nL dy rs=some vc∧ak vc
theorem E1.ret{Γ:Nat→TK}{nL:List ResultVar}{dy:Hp}{rs:List S1}{st:St}{vc:List Prop}(h:DQ Γ st nL dy rs=some vc)(hv:ak vc):E1 Γ nL dy rs .ret st:=⟨.inl rfl,vc,h,hv⟩
theorem E1.normal{Γ:Nat→TK}{nL:List ResultVar}{dy:Hp}{rs:List S1}{st:St}{vc:List Prop}(h:DQ Γ st nL dy rs=some vc)(hv:ak vc):E1 Γ nL dy rs .normal st:=⟨.inr rfl,vc,h,hv⟩
def P0(dy:Hp)(rs:List S1):Bool:=(rs.all (k8 dy))&&(dy.all fun e=>pU dy e.2)&&ef dy
section
variable{P:Program}{zb:bK}{st:St}{a:Act}{w:World}{env:Env}
theorem wu{x o:Obj}{vc:List Prop}(h:ji x o=some vc):(∀t l,x= .arr t l→ ∃t' l',o= .arr t' l')∧ ∀c,x= .box c→ ∃d,o= .box d:=by
 cases x<;>cases o<;>simp[ji]at h ⊢
theorem wv{hp:Hp}: ∀{dy:Hp} {vc:List Prop},zM hp dy=some vc→(∀q,q∈vc→q)→ ∀n o,(n,o)∈dy→ ∃x v1,look hp n=some x∧ji x o=some v1∧ ∀q,q∈v1→q
 | (k,y)::r,vc,h,hv,n,o,hm=>by
   simp only[zM]at h
   split at h
   ·rename_i x hx
    split at h
    ·rename_i v1 v2 h1 h2
     simp only[Option.some.injEq,cI]at h
     subst h
     rcases List.mem_cons.1 hm with h'|h'
     ·simp only[Prod.mk.injEq]at h'
      obtain⟨rfl,rfl⟩:=h'
      exact⟨x,v1,hx,h1,fun q hq=>hv q (List.mem_append_left _ hq)⟩
     ·exact wv h2 (fun q hq=>hv q (List.mem_append_right _ hq)) n o h'
    ·cases h
   ·cases h
theorem HJ{hp dy:Hp}(hT: ∀n o,look dy n=some o→ ∃x v1,look hp n=some x∧ji x o=some v1){x y:V}{u:Value}{vc:List Prop}(hr:RA w hp env x u)(h:HI x y=some vc)(hv: ∀q,q∈vc→q)(hn:iu dy y=true):RA w dy env y u:=by
 unfold HI at h
 split at h
 ·trivial
 ·simp only[Option.some.injEq]at h
  subst h
  have e:=hv _ (List.mem_singleton.2 rfl)
  subst e
  exact hr
 ·rename_i n m
  split at h
  ·rename_i hb
   have hb:=Nat.eq_of_beq_eq_true hb
   subst hb
   obtain⟨⟨t,l,hl⟩,hu⟩:=hr
   have hno:=nA hn n rfl
   cases hq:look dy n with
   |none=>exact absurd hq hno
   |some o=>
    obtain⟨x,v1,h1,h2⟩:=hT n o hq
    rw[hl]at h1
    simp only[Option.some.injEq]at h1
    subst h1
    obtain⟨t',l',rfl⟩:=(wu h2).1 t l rfl
    exact⟨⟨t',l',hq⟩,hu⟩
  ·cases h
 ·rename_i n o m q
  split at h
  ·rename_i hb
   simp only[Bool.and_eq_true]at hb
   have aH:=Nat.eq_of_beq_eq_true hb.1
   have bk:=Nat.eq_of_beq_eq_true hb.2
   subst aH;subst bk
   obtain⟨⟨c,hl⟩,hu⟩:=hr
   have hno:=nA hn n rfl
   cases hq:look dy n with
   |none=>exact absurd hq hno
   |some z=>
    obtain⟨x,v1,h1,h2⟩:=hT n z hq
    rw[hl]at h1
    simp only[Option.some.injEq]at h1
    subst h1
    obtain⟨d,rfl⟩:=(wu h2).2 c rfl
    exact⟨⟨d,hq⟩,hu⟩
  ·cases h
 ·cases h
theorem nH{hp dy:Hp}(hT: ∀n o,look dy n=some o→ ∃x v1,look hp n=some x∧ji x o=some v1): ∀{xs ys:List V} {us:List Value} {vc:List Prop},aU (RA w hp env) xs us→mW xs ys=some vc→(∀q,q∈vc→q)→(∀y,y∈ys→iu dy y=true)→aU (RA w dy env) ys us
 | [],ys,us,vc,hr,h,_,_=>by
   cases ys with
   |nil=>
    cases us with
    |nil=>trivial
    |cons _ _=>exact hr.elim
   |cons _ _=>simp[mW]at h
 |x::r,ys,us,vc,hr,h,hv,hn=>by
  cases us with
  |nil=>exact hr.elim
  |cons u us=>
   cases ys with
   |nil=>simp[mW]at h
   |cons y s=>
    simp only[mW]at h
    split at h
    ·rename_i v1 v2 h1 h2
     simp only[Option.some.injEq,cI]at h
     subst h
     exact⟨HJ hT hr.1 h1 (fun q hq=>hv q (List.mem_append_left _ hq)) (hn y (by simp)),nH hT hr.2 h2 (fun q hq=>hv q (List.mem_append_right _ hq)) (fun z hz=>hn z (List.mem_cons_of_mem _ hz))⟩
    ·cases h
theorem E2{hp dy:Hp}(hT: ∀n o,look dy n=some o→ ∃x v1,look hp n=some x∧ji x o=some v1){x y:S1}{u:Value}{vc:List Prop}(hr:eg w hp env x u)(h:zN x y=some vc)(hv: ∀q,q∈vc→q)(hn:k8 dy y=true):eg w dy env y u:=by
 cases x with
 |a v=>
  cases y with
  |a v'=>
   have:=nH hT (xs:= [v]) (us:= [u]) ⟨hr,trivial⟩ h hv (fun z hz=>by rw[List.mem_singleton.1 hz];exact hn)
   exact this.1
  |agg _=>simp[zN]at h
 |agg l=>
  cases y with
  |a v'=>simp[zN]at h
  |agg m=>
   obtain⟨cs,rfl,hl⟩:=hr
   exact⟨cs,rfl,nH hT hl h hv (fun z hz=>List.all_eq_true.1 hn z hz)⟩
theorem yp{hp dy:Hp}(hT: ∀n o,look dy n=some o→ ∃x v1,look hp n=some x∧ji x o=some v1): ∀{xs ys:List S1} {us:List Value} {vc:List Prop},aU (eg w hp env) xs us→rW xs ys=some vc→(∀q,q∈vc→q)→(∀y,y∈ys→k8 dy y=true)→aU (eg w dy env) ys us
 | [],ys,us,vc,hr,h,_,_=>by
   cases ys with
   |nil=>
    cases us with
    |nil=>trivial
    |cons _ _=>exact hr.elim
   |cons _ _=>simp[rW]at h
 |x::r,ys,us,vc,hr,h,hv,hn=>by
  cases us with
  |nil=>exact hr.elim
  |cons u us=>
   cases ys with
   |nil=>simp[rW]at h
   |cons y s=>
    simp only[rW]at h
    split at h
    ·rename_i v1 v2 h1 h2
     simp only[Option.some.injEq,cI]at h
     subst h
     exact⟨E2 hT hr.1 h1 (fun q hq=>hv q (List.mem_append_left _ hq)) (hn y (by simp)),yp hT hr.2 h2 (fun q hq=>hv q (List.mem_append_right _ hq)) (fun z hz=>hn z (List.mem_cons_of_mem _ hz))⟩
    ·cases h
end
theorem LP{as:List S1}{us:List Value}{w:World}{env:Env}{dQ:Hp}{n:Nat}(hA:xE w)(hL: ∀b,Ab b→b∉pR dQ env)(hG:AD ty w dQ env)(ha:aU (eg w dQ env) as us)(hn:as.length≤n):
  Inv ty ⟨w,pR dQ env,env⟩ ⟨n,enter 0 as,dQ⟩ {tmps:=us.toArray++Array.replicate (n-us.toArray.size) undef,defers:= []} w:=by
 have hl:=ha.len
 refine⟨by simp;omega,rfl,Kept.refl _ _,⟨hA,hL⟩,env,⟨hG.1,hG.2,fun s v hv=> ?_,fun n o h b hb=>Or.inl (List.mem_flatMap.2 ⟨_,cZ h,hb⟩),fun n _=>⟨rfl,fun b hb=>hb⟩⟩⟩
 obtain⟨x,rfl,_,hx⟩:=ld hv
 rw[Nat.sub_zero]at hx
 obtain⟨u,hu,hr⟩:=ha.at hx
 have hs:s<us.length:=(List.getElem?_eq_some_iff.1 hu).1
 have:(us.toArray++Array.replicate (n-us.toArray.size) undef).getD s undef=u:=by
  rw[Array.getD_eq_getD_getElem?,Array.getElem?_append_left (by simpa using hs)]
  simp[hu]
 show eg w dQ env x _
 rw[this]
 exact hr
theorem qZ.of{P:Program}{Γ:Nat→TK}(X:Ctx P ty Γ){f:FuncId}{fn:Func}{c:Code}{nL:List ResultVar}{n:Nat}{dQ dy:Hp}{as rs:List S1}
  (AK: ∀(args:Array Value) (w:World),(callFunc f args).run P w= .ok (.enter f args) w)(hf:P.funcs[f]? =some fn)(hb:fn.body=some c)(hr:fn.results=nL.toArray)(hl:nL.length≤4)(hn:fn.ntmps=n)(hlen:as.length≤n)(hT:P0 dy rs=true)
  (h: ∀zb,W P ty zb c (E1 Γ nL dy rs) ⟨n,enter 0 as,dQ⟩):qZ ty P f dQ as dy rs:=by
 refine⟨AK,fun w env us hA hL hG ha=>calls_of_wp hf hb ?_⟩
 rw[hn]
 refine wp_mono (h _ _ w (LP hA hL hG ha hlen)) ?_
 simp only[P0,Bool.and_eq_true,List.all_eq_true]at hT
 obtain⟨⟨t1,t2⟩,t3⟩:=hT
 rintro e a w' ⟨st,iv,he,vc,eC,hv⟩
 have key:a.defers= []∧ ∃v,(results fn a.tmps).run P w'= .ok v w'∧ ∃env' u,Ending.returned v= .returned u∧Kept ⟨w,pR dQ env,env⟩ w w'∧AD ty w' dy env'∧
   (∀n o,look dy n=some o→ ∀b,b∈(env' n).fp→b∈pR dQ env∨w.heap.size≤b)∧(∀n,gd n=true→(env' n).v=(env n).v∧ ∀b,b∈(env' n).fp→b∈(env n).fp)∧MK w' dy env' rs u:=by
  obtain⟨env',g⟩:=iv.good
  unfold DQ at eC
  split at eC
  ·rename_i xs hx
   split at eC
   ·rename_i v1 v2 hm1 hm2
    simp only[Option.some.injEq,cI]at eC
    subst eC
    have BG: ∀q,q∈v1→q:=fun q hq=>hv.out q (List.mem_append_left _ hq)
    have F2: ∀q,q∈v2→q:=fun q hq=>hv.out q (List.mem_append_right _ hq)
    obtain⟨vs,h1,h2,h3⟩:=vu X.kind g hr hx hl
    have hmem:=wv hm2 F2
    have hT: ∀n o,look dy n=some o→ ∃x v1,look st.hp n=some x∧ji x o=some v1:=fun n o hl=>by
     obtain⟨x,v1,p1,p2,_⟩:=hmem n o (cZ hl)
     exact⟨x,v1,p1,p2⟩
    have hres:=yp hT h1 hm1 BG t1
    refine⟨iv.defers,_,h3,env',_,rfl,iv.kept,⟨fun n o hl=> ?_,fun n m o o' hne lU jq=> ?_⟩,fun n o hl b hb=> ?_,fun n hp=>g.pins n hp,?_⟩
    ·obtain⟨x,v1,p1,p2,p3⟩:=hmem n o (cZ hl)
     have hro:=g.obj n x p1
     cases x with
     |arr t l=>
      cases o with
      |box d=>simp[ji]at p2
      |iM t' l' s'=>simp[ji]at p2
      |arr t' l'=>
       simp only[ji]at p2
       split at p2
       ·rename_i l2 hc
        simp only[Option.some.injEq]at p2
        subst p2
        have e2:=p3 _ (List.mem_singleton.2 rfl)
        subst e2
        obtain⟨e,rfl⟩:=cD hc
        subst e
        exact Gk (fun h=>h) hro
       ·cases p2
     |iM t l s=>cases o<;>simp[ji]at p2
     |box c=>
      cases o with
      |arr t' l'=>simp[ji]at p2
      |iM t' l' s'=>simp[ji]at p2
      |box d=>
       obtain⟨b,cs,e,q1,q2,q3⟩:=hro
       exact⟨b,cs,e,q1,q2,nH hT q3 p2 p3 (fun y hy=>List.all_eq_true.1 (t2 _ (cZ hl)) y hy)⟩
    ·obtain⟨x,_,p1,_⟩:=hT n o lU
     obtain⟨y,_,p2,_⟩:=hT m o' jq
     exact g.gK n m x y hne p1 p2
    ·obtain⟨x,_,p1,_⟩:=hT n o hl
     exact g.dom n x p1 b hb
    ·match rs,vs,hres with
     | [r],[u],hres=>exact hres.1
     | [],[],hres=>exact⟨[],rfl,trivial⟩
     |r1::r2::r,u1::u2::u,hres=>exact⟨_,rfl,hres⟩
     | [],_::_,hres=>exact hres.elim
     |_::_,[],hres=>exact hres.elim
     | [_],_::_::_,hres=>exact hres.2.elim
     |_::_::_,[_],hres=>exact hres.2.elim
   ·cases eC
  ·cases eC
 rcases he with rfl|rfl<;>exact key
end Go.Proofs.YtjcojocjlglglaaGreat.G
