/-
  FnExactSubmittedBodies: the law returns true for every argument: the program and the reference agree on SubmittedBodies, arguments are left as they were, and what is returned is memory of its own. No condition.
-/
import Derived.Test.YthlflnplnajjiaaVSubmittedBodies
import Derived.Test.YthlflnplnajjiaaC4
import Derived.Test.YthlflnplnajjiaaK0
import Derived.ProofKit
import Derived.ChangeOld
namespace Go.Proofs.Ythlflnplnajjiaa.fnExactSubmittedBodies
open Go.ChangeShapes Go.WideShapes Go.ChangeAt Go.RowKit L D C
set_option linter.all false
theorem walk (w : World) (u0 : Value) (x0 : (List Ev)) (fp0 : List Nat) (e0 : Sl 4 EEv w u0 x0 fp0) (wf0 : (fun l => ∀ x, x ∈ l → (wf_Ev) x) x0) (a1 : Int) (i1 : I64 a1) :
    Calls Try.prog 8 #[u0, .int .i64 a1] w (Gives w (.bool true)) :=
  G.gives_of (G.c_FnExactSubmittedBodies x0 wf0 a1 i1) ⟨⟨fp0, e0⟩, G.arg_lit rfl, ⟨⟩⟩

set_option maxRecDepth 100000 in
theorem lifted (os : Os) (started : os.Started) (H : Type) (enc : TypeId × Value → H) :
    ReturnsInHanded {} Try.checked os 8 .any (Rows.fnExactSubmittedBodiesSpec.pre6 enc Try.prog Try.f8 Rows.fnExactSubmittedBodiesRow.domain false) (Rows.fnExactSubmittedBodiesSpec.post enc Try.prog Try.f8 false true false false) := by
  refine returnsInHanded_of_change (C := Try.checked) K.own started (by as_aux_lemma => kernel_rfl) Try.func8
    (ChangeSpec.witness6 (enc := enc) (C := Try.checked) false ⟨#[], #[.slice none 0 0, .int .i64 0], []⟩ 8 (by as_aux_lemma => kernel_rfl) (by as_aux_lemma => kernel_rfl) (by as_aux_lemma => kernel_rfl) (by as_aux_lemma => kernel_rfl)) ?_
  intro W base args ds gs before hval0 hW hcnd _
  have hval : ∀ (j : Nat) t v, Try.f8.params[j]? = some t → args[j]? = some v → Value.okWide Try.prog W .any base t v := hval0
  have hW' := hW
  obtain ⟨p, q, hA0, hV, rfl, hfz, hnd⟩ := hW
  have hA : DataW.TrodAll enc Try.prog W 0 (fun _ => true) true Try.f8.params.toList args.toList ds p := hA0
  rw [Try.params8] at hA hval
  obtain ⟨v0, vs0, d0, ds0, p0, q0, hargs, rfl, rfl, h0, r0⟩ := trodAll_cons hA
  obtain ⟨v1, vs1, d1, ds1, p1, q1, rfl, rfl, rfl, h1, r1⟩ := trodAll_cons r0
  obtain ⟨rfl, rfl, rfl⟩ := trodAll_nil r1
  obtain rfl : args = #[v0, v1] := by cases args; simp_all
  obtain ⟨rfl, rfl⟩ := trodVars_none hV
  have k0 := h0
  have lt0 : ∀ x ∈ p0, x.block < W.heap.size := by obtain ⟨m, hm⟩ := k0; exact DataW.trod_lt m _ _ _ hm
  obtain ⟨fuel0, hf0⟩ := h0
  obtain ⟨a0, len0, cap0, rfl⟩ := okWide_slice Try.underlying35 (hval 0 35 v0 rfl rfl)
  obtain ⟨x0, fp0, ⟨u0, hu0, e0⟩, wf0⟩ := (opens_sl (k := 4) Try.underlying35 (by kernel_rfl) (by decide) opens_Ev) _ _ _ hf0
  simp only [Value.cells, List.cons.injEq, and_true] at hu0
  subst hu0
  obtain ⟨a1, rfl, rfl, rfl, w1⟩ := open_int Try.underlying3 (hval 1 3 v1 rfl rfl) h1
  clear hA0 hval0
  refine (walk W _ x0 fp0 e0 wf0 a1 (i64_of_wf w1)).mono fun e W' ⟨he, bel⟩ => ?_
  subst he
  exact ⟨_, rfl, _, _, _, [], _, [], hW', trodAll_mk1 (shut_bool Try.underlying4 _), (trodAll_cons_mk (Below.trod K.laid (by as_aux_lemma => kernel_rfl) (of_decide_eq_true (by as_aux_lemma => kernel_rfl)) k0 bel lt0) (trodAll_cons_mk (shut_int Try.underlying3 w1) trodAll_mk0)), rfl, bel.frame _, fun h => by cases h⟩

set_option maxHeartbeats 4000000 in
theorem closed : joinedFacts Try.prog 8 Try.f8 Rows.fnExactSubmittedBodiesSpec Rows.fnExactSubmittedBodiesRow = true := by
  unfold joinedFacts
  repeat' (with_reducible refine K.and2 ?_ ?_)
  · as_aux_lemma => kernel_rfl
  · exact K.laid
  · exact K.rowed
  · as_aux_lemma => kernel_rfl
  · as_aux_lemma => kernel_rfl
  · as_aux_lemma => kernel_rfl
  · exact K.stops
  · as_aux_lemma => kernel_rfl
  · exact K.stopKnobs
  · as_aux_lemma => kernel_rfl
  · as_aux_lemma => kernel_rfl
  · as_aux_lemma => kernel_rfl
  · as_aux_lemma => kernel_rfl
  · as_aux_lemma => kernel_rfl
  · as_aux_lemma => kernel_rfl
  · as_aux_lemma => kernel_rfl
  · as_aux_lemma => kernel_rfl
  · as_aux_lemma => kernel_rfl
  · as_aux_lemma => kernel_rfl
  · as_aux_lemma => kernel_rfl
  · as_aux_lemma => kernel_rfl
  · as_aux_lemma => kernel_rfl
  · exact K.plainKeys
  · as_aux_lemma => kernel_rfl
  · exact K.stopsHeard
  · exact K.mayEnter
  · exact K.lifted
  · exact K.make
  · as_aux_lemma => kernel_rfl
  · as_aux_lemma => kernel_rfl
  · as_aux_lemma => kernel_rfl
  · as_aux_lemma => kernel_rfl
theorem over : Rows.fnExactSubmittedBodiesRow.holds Try.pinned (OpenSpec.ofChange Rows.fnExactSubmittedBodiesSpec) :=
  OpenClaim.holds_of_wide 8 Try.f8 rfl rfl rfl rfl rfl rfl rfl ⟨rfl, rfl, rfl, rfl, rfl⟩ rfl rfl rfl rfl rfl (by as_aux_lemma => kernel_rfl) Try.func8 closed
    (of_decide_eq_true (by as_aux_lemma => kernel_rfl)) (by unfold Func.isWrapper; first | (rw [if_pos (by decide +kernel)]; kernel_rfl) | (rw [if_neg (by decide +kernel)]; exact ⟨rfl, rfl⟩))
    (fun os started H enc _ => lifted os started H enc)

/-- THE STATEMENT. -/
theorem proved : Rows.FnExactSubmittedBodiesSaid := over
#print axioms proved
end Go.Proofs.Ythlflnplnajjiaa.fnExactSubmittedBodies
