/-
  FnExactApplyEvent: the law returns true for every argument: the program and the reference agree on ApplyEvent, arguments are left as they were, and what is returned is memory of its own. No condition.
-/
import Derived.ChangeOld
import Derived.Test.YtmcgjpdljafkeaaGreatM30
import Derived.Test.YtmcgjpdljafkeaaGreatM31
import Derived.Test.YtmcgjpdljafkeaaGreatM47
namespace Go.Proofs.YtmcgjpdljafkeaaGreat.fnExactApplyEvent
open Go.ChangeShapes Go.WideShapes Go.ChangeAt Go.RowKit L D C
section
set_option linter.all false
theorem walk(w:World)(cs0:List Value)(x0:aN)(tW:List Nat)(e0:pN w cs0 x0 tW)(zQ:iT x0)(cs1:List Value)(x1:Ev)(Mv:List Nat)(e1:Rv w cs1 x1 Mv)(Rj:BG x1):
  Calls Tryz.prog 7 #[.agg cs0.toArray, .agg cs1.toArray] w (zX w (.bool true)):=
 G.mM (G.uE x0 zQ x1 Rj) ⟨G.nF (G.jo e0),G.nF (G.GQ e1),⟨⟩⟩
set_option maxRecDepth 100000 in
theorem lifted(os:Os)(started:os.Started)(H:Type)(enc:TypeId×Value→H):
  ReturnsInHanded {} Tryz.checked os 7 .any (Rows.fnExactApplyEventSpec.pre6 enc Tryz.prog Tryz.f7 Rows.fnExactApplyEventRow.domain false) (Rows.fnExactApplyEventSpec.post enc Tryz.prog Tryz.f7 false true false false):=by
 refine returnsInHanded_of_change (C:=Tryz.checked) K.own started (by as_aux_lemma=>kernel_rfl) Tryz.func7
  (ChangeSpec.witness6 (enc:=enc) (C:=Tryz.checked) false ⟨#[],#[.agg #[.int .i64 0, .slice none 0 0, .slice none 0 0, .int .i64 0, .slice none 0 0, .int .i64 0, .int .i64 0, .int .i64 0, .slice none 0 0, .int .i64 0], .agg #[.int .i64 0, .int .i64 0, .int .i64 0, .slice none 0 0]],[]⟩ 8 (by as_aux_lemma=>kernel_rfl) (by as_aux_lemma=>kernel_rfl) (by as_aux_lemma=>kernel_rfl) (by as_aux_lemma=>kernel_rfl)) ?_
 intro W base args ds gs before jE hW NJ _
 have hval: ∀(j:Nat) t v,Tryz.f7.params[j]? =some t→args[j]? =some v→Value.okWide Tryz.prog W .any base t v:=jE
 have NK:=hW
 obtain⟨p,q,E7,hV,rfl,hfz,hnd⟩:=hW
 have hA:DataW.TrodAll enc Tryz.prog W 0 (fun _=>true) true Tryz.f7.params.toList args.toList ds p:=E7
 rw[Tryz.params7]at hA hval
 obtain⟨v0,V0,d0,V1,p0,q0,hargs,rfl,rfl,h0,r0⟩:=trodAll_cons hA
 obtain⟨v1,vs1,d1,Ya,p1,q1,rfl,rfl,rfl,h1,r1⟩:=trodAll_cons r0
 obtain⟨rfl,rfl,rfl⟩:=trodAll_nil r1
 obtain rfl:args= #[v0,v1]:=by cases args;simp_all
 obtain⟨rfl,rfl⟩:=trodVars_none hV
 have k0:=h0
 have NL: ∀x∈p0,x.block<W.heap.size:=by obtain⟨m,hm⟩:=k0;exact DataW.trod_lt m _ _ _ hm
 obtain⟨E8,JL⟩:=h0
 obtain⟨cs0,rfl,NM⟩:=okWide_struct Tryz.underlying29 (hval 0 29 v0 rfl rfl)
 obtain⟨x0,tW,e0,zQ⟩:=kU _ _ _ JL
 have e0:pN W cs0.toList x0 tW:=e0
 have k1:=h1
 have XN: ∀x∈p1,x.block<W.heap.size:=by obtain⟨m,hm⟩:=k1;exact DataW.trod_lt m _ _ _ hm
 obtain⟨fuel1,XO⟩:=h1
 obtain⟨cs1,rfl,abm⟩:=okWide_struct Tryz.underlying47 (hval 1 47 v1 rfl rfl)
 obtain⟨x1,Mv,e1,Rj⟩:=Dn _ _ _ XO
 have e1:Rv W cs1.toList x1 Mv:=e1
 clear E7 jE
 refine(walk W cs0.toList x0 tW e0 zQ cs1.toList x1 Mv e1 Rj).mono fun e W' ⟨he,Ap⟩=> ?_
 subst he
 exact⟨_,rfl,_,_,_,[],_,[],NK,trodAll_mk1 (shut_bool Tryz.underlying4 _),(trodAll_cons_mk (Below.trod K.laid (by as_aux_lemma=>kernel_rfl) (of_decide_eq_true (by as_aux_lemma=>kernel_rfl)) k0 Ap NL) (trodAll_cons_mk (Below.trod K.laid (by as_aux_lemma=>kernel_rfl) (of_decide_eq_true (by as_aux_lemma=>kernel_rfl)) k1 Ap XN) trodAll_mk0)),rfl,Ap.frame _,fun h=>by cases h⟩
set_option maxHeartbeats 4000000 in
theorem closed:joinedFacts Tryz.prog 7 Tryz.f7 Rows.fnExactApplyEventSpec Rows.fnExactApplyEventRow=true:=by
 unfold joinedFacts
 repeat' (with_reducible refine K.KC ?_ ?_)
 ·as_aux_lemma=>kernel_rfl
 ·exact K.laid
 ·exact K.Dp
 ·as_aux_lemma=>kernel_rfl
 ·as_aux_lemma=>kernel_rfl
 ·as_aux_lemma=>kernel_rfl
 ·exact K.stops
 ·as_aux_lemma=>kernel_rfl
 ·exact K.stopKnobs
 ·as_aux_lemma=>kernel_rfl
 ·as_aux_lemma=>kernel_rfl
 ·as_aux_lemma=>kernel_rfl
 ·as_aux_lemma=>kernel_rfl
 ·as_aux_lemma=>kernel_rfl
 ·as_aux_lemma=>kernel_rfl
 ·as_aux_lemma=>kernel_rfl
 ·as_aux_lemma=>kernel_rfl
 ·as_aux_lemma=>kernel_rfl
 ·as_aux_lemma=>kernel_rfl
 ·as_aux_lemma=>kernel_rfl
 ·as_aux_lemma=>kernel_rfl
 ·as_aux_lemma=>kernel_rfl
 ·exact K.plainKeys
 ·as_aux_lemma=>kernel_rfl
 ·exact K.stopsHeard
 ·exact K.mayEnter
 ·exact K.lifted
 ·exact K.make
 ·as_aux_lemma=>kernel_rfl
 ·as_aux_lemma=>kernel_rfl
 ·as_aux_lemma=>kernel_rfl
 ·as_aux_lemma=>kernel_rfl
theorem over:Rows.fnExactApplyEventRow.holds Tryz.pinned (OpenSpec.ofChange Rows.fnExactApplyEventSpec):=
 OpenClaim.holds_of_wide 7 Tryz.f7 rfl rfl rfl rfl rfl rfl rfl ⟨rfl,rfl,rfl,rfl,rfl⟩ rfl rfl rfl rfl rfl (by as_aux_lemma=>kernel_rfl) Tryz.func7 closed
  (of_decide_eq_true (by as_aux_lemma=>kernel_rfl)) (by unfold Func.isWrapper;first| (rw[if_pos (by decide+kernel)];kernel_rfl)| (rw[if_neg (by decide+kernel)];exact⟨rfl,rfl⟩))
  (fun os started H enc _=>lifted os started H enc)
theorem proved:Rows.FnExactApplyEventSaid:=over
#print axioms proved
end
end Go.Proofs.YtmcgjpdljafkeaaGreat.fnExactApplyEvent
