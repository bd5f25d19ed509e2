/-
  FnExactCollectShares: the law returns true for every argument: the program and the reference agree on CollectShares, arguments are left as they were, and what is returned is memory of its own. No condition.
-/
import Derived.Test.YthjedjndamejmaaGreatZCollectSharesM11
import Derived.Test.YthjedjndamejmaaGreatZCollectSharesM13
import Derived.Test.YthjedjndamejmaaGreatZCollectSharesM14
import Derived.ProofKit
import Derived.ChangeOld
namespace Go.Proofs.YthjedjndamejmaaGreat.fnExactCollectShares
open Go.ChangeShapes Go.WideShapes Go.ChangeAt Go.RowKit L D C
set_option linter.all false
theorem walk (w : World) (cs0 : List Value) (x0 : Wld) (fp0 : List Nat) (e0 : EWld w cs0 x0 fp0) (wf0 : wf_Wld x0) :
    Calls Tryz.prog 3 #[.agg cs0.toArray] w (Gives w (.bool true)) :=
  G.gives_of (G.c_FnExactCollectShares x0 wf0) ⟨G.arg_agg (G.reads_Wld e0), ⟨⟩⟩

set_option maxRecDepth 100000 in
theorem lifted (os : Os) (started : os.Started) (H : Type) (enc : TypeId × Value → H) :
    ReturnsInHanded {} Tryz.checked os 3 .any (Rows.fnExactCollectSharesSpec.pre6 enc Tryz.prog Tryz.f3 Rows.fnExactCollectSharesRow.domain false) (Rows.fnExactCollectSharesSpec.post enc Tryz.prog Tryz.f3 false true false false) := by
  refine returnsInHanded_of_change (C := Tryz.checked) K.own started (by as_aux_lemma => kernel_rfl) Tryz.func3
    (ChangeSpec.witness6 (enc := enc) (C := Tryz.checked) false ⟨#[], #[.agg #[.int .i64 0, .slice none 0 0, .slice none 0 0, .int .i64 0, .slice none 0 0, .int .i64 0, .int .i64 0, .int .i64 0, .slice none 0 0, .int .i64 0]], []⟩ 8 (by as_aux_lemma => kernel_rfl) (by as_aux_lemma => kernel_rfl) (by as_aux_lemma => kernel_rfl) (by as_aux_lemma => kernel_rfl)) ?_
  intro W base args ds gs before hval0 hW hcnd _
  have hval : ∀ (j : Nat) t v, Tryz.f3.params[j]? = some t → args[j]? = some v → Value.okWide Tryz.prog W .any base t v := hval0
  have hW' := hW
  obtain ⟨p, q, hA0, hV, rfl, hfz, hnd⟩ := hW
  have hA : DataW.TrodAll enc Tryz.prog W 0 (fun _ => true) true Tryz.f3.params.toList args.toList ds p := hA0
  rw [Tryz.params3] at hA hval
  obtain ⟨v0, vs0, d0, ds0, p0, q0, hargs, rfl, rfl, h0, r0⟩ := trodAll_cons hA
  obtain ⟨rfl, rfl, rfl⟩ := trodAll_nil r0
  obtain rfl : args = #[v0] := by cases args; simp_all
  obtain ⟨rfl, rfl⟩ := trodVars_none hV
  have k0 := h0
  have lt0 : ∀ x ∈ p0, x.block < W.heap.size := by obtain ⟨m, hm⟩ := k0; exact DataW.trod_lt m _ _ _ hm
  obtain ⟨fuel0, hf0⟩ := h0
  obtain ⟨cs0, rfl, hsz0⟩ := okWide_struct Tryz.underlying29 (hval 0 29 v0 rfl rfl)
  obtain ⟨x0, fp0, e0, wf0⟩ := opens_Wld _ _ _ hf0
  have e0 : EWld W cs0.toList x0 fp0 := e0
  clear hA0 hval0
  refine (walk W cs0.toList x0 fp0 e0 wf0).mono fun e W' ⟨he, bel⟩ => ?_
  subst he
  exact ⟨_, rfl, _, _, _, [], _, [], hW', trodAll_mk1 (shut_bool Tryz.underlying4 _), (trodAll_cons_mk (Below.trod K.laid (by as_aux_lemma => kernel_rfl) (of_decide_eq_true (by as_aux_lemma => kernel_rfl)) k0 bel lt0) trodAll_mk0), rfl, bel.frame _, fun h => by cases h⟩

set_option maxHeartbeats 4000000 in
theorem closed : joinedFacts Tryz.prog 3 Tryz.f3 Rows.fnExactCollectSharesSpec Rows.fnExactCollectSharesRow = true := by
  unfold joinedFacts
  repeat' (with_reducible refine K.and2 ?_ ?_)
  · as_aux_lemma => kernel_rfl
  · exact K.laid
  · exact K.rowed
  · as_aux_lemma => kernel_rfl
  · as_aux_lemma => kernel_rfl
  · as_aux_lemma => kernel_rfl
  · exact K.stops
  · as_aux_lemma => kernel_rfl
  · exact K.stopKnobs
  · as_aux_lemma => kernel_rfl
  · as_aux_lemma => kernel_rfl
  · as_aux_lemma => kernel_rfl
  · as_aux_lemma => kernel_rfl
  · as_aux_lemma => kernel_rfl
  · as_aux_lemma => kernel_rfl
  · as_aux_lemma => kernel_rfl
  · as_aux_lemma => kernel_rfl
  · as_aux_lemma => kernel_rfl
  · as_aux_lemma => kernel_rfl
  · as_aux_lemma => kernel_rfl
  · as_aux_lemma => kernel_rfl
  · as_aux_lemma => kernel_rfl
  · exact K.plainKeys
  · as_aux_lemma => kernel_rfl
  · exact K.stopsHeard
  · exact K.mayEnter
  · exact K.lifted
  · exact K.make
  · as_aux_lemma => kernel_rfl
  · as_aux_lemma => kernel_rfl
  · as_aux_lemma => kernel_rfl
  · as_aux_lemma => kernel_rfl
theorem over : Rows.fnExactCollectSharesRow.holds Tryz.pinned (OpenSpec.ofChange Rows.fnExactCollectSharesSpec) :=
  OpenClaim.holds_of_wide 3 Tryz.f3 rfl rfl rfl rfl rfl rfl rfl ⟨rfl, rfl, rfl, rfl, rfl⟩ rfl rfl rfl rfl rfl (by as_aux_lemma => kernel_rfl) Tryz.func3 closed
    (of_decide_eq_true (by as_aux_lemma => kernel_rfl)) (by unfold Func.isWrapper; first | (rw [if_pos (by decide +kernel)]; kernel_rfl) | (rw [if_neg (by decide +kernel)]; exact ⟨rfl, rfl⟩))
    (fun os started H enc _ => lifted os started H enc)

/-- THE STATEMENT. -/
theorem proved : Rows.FnExactCollectSharesSaid := over
#print axioms proved
end Go.Proofs.YthjedjndamejmaaGreat.fnExactCollectShares
