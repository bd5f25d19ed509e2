/-
  FnExactFormatCell: the law returns true for every argument: the program and the reference agree on FormatCell, and arguments are left as they were. No condition.
-/
import Derived.Test.YthlflnplnajjiaaC1
import Derived.Test.YthlflnplnajjiaaC2
import Derived.Test.YthlflnplnajjiaaC3
import Derived.Test.YthlflnplnajjiaaC4
import Derived.Test.YthlflnplnajjiaaBF2
import Derived.Test.YthlflnplnajjiaaK0
import Derived.ProofKit
import Derived.ChangeOld
import Derived.Deep.RegionHeld3
namespace Go.Proofs.Ythlflnplnajjiaa.fnExactFormatCell
open Go.ChangeShapes Go.WideShapes Go.ChangeAt Go.RowKit L D C
set_option linter.unusedVariables false
set_option maxHeartbeats 800000 in
set_option maxRecDepth 100000 in
theorem walk (w : World) (u0 : Value) (x0 : (List UInt8)) (fp0 : List Nat) (e0 : Sl 1 EU8 w u0 x0 fp0) (wf0 : (fun l => ∀ x, x ∈ l → (fun _ => True) x) x0) :
    Calls Try.prog 6 #[u0] w (Gives w (.bool true)) := by
  have HX := Lib.hid e0
  have HW := Lib.hid wf0; clear e0 wf0
  by_cases hq : 1048576 < x0.length
  · obtain ⟨oa, cap, rfl, _, _⟩ := HX.out
    go_enter Try.func6, Try.ntmps6
    go_wp2
    go_ret
    exact ⟨rfl, Below.refl _ _⟩
  have hsz : x0.length ≤ 1048576 := by omega
  have HS := Lib.hid hsz
  obtain ⟨oa, cap, hu, _⟩ := HX.out
  subst hu
  clear hq
  go_enter Try.func6, Try.ntmps6
  go_wp2_with fail
  have hB0 := Below.refl w.heap.size w
  refine (toByteS _ _ _ _ (Sl.agree good_u8 HX.out (agree_below (B := w.heap.size) hB0 (Sl.lt good_u8 HX.out))) HS.out).mono ?_
  rintro e w1 ⟨v101, f1, rfl, hb, hE⟩
  replace hE := hE.sl
  have hB1 := hB0.trans (hb.mono hB0.size)
  have E1 := Lib.hid hE; clear hE hb
  go_wp2_with fail
  refine (spec_FormatCell _ _ _ _ E1.out HS.out).mono ?_
  rintro e w2 ⟨rfl, hb⟩
  have hB2 := hB1.trans (hb.mono hB1.size)
  clear hb E1
  go_wp2_with fail
  refine (toByteS _ _ _ _ (Sl.agree good_u8 HX.out (agree_below (B := w.heap.size) hB2 (Sl.lt good_u8 HX.out))) HS.out).mono ?_
  rintro e w3 ⟨v103, f3, rfl, hb, hE⟩
  replace hE := hE.sl
  have hB3 := hB2.trans (hb.mono hB2.size)
  have E3 := Lib.hid hE; clear hE hb
  go_wp2_with fail
  refine (impl_FormatCell _ _ _ _ E3.out HS.out).mono ?_
  rintro e w4 ⟨rfl, hb⟩
  have hB4 := hB3.trans (hb.mono hB3.size)
  have E4 := Lib.hid (Sl.below good_u8 E3.out hb); clear hb E3
  go_wp2_with fail
  refine (toByteS _ _ _ _ (Sl.agree good_u8 HX.out (agree_below (B := w.heap.size) hB4 (Sl.lt good_u8 HX.out))) HS.out).mono ?_
  rintro e w5 ⟨v105, f5, rfl, hb, hE⟩
  replace hE := hE.sl
  have hB5 := hB4.trans (hb.mono hB4.size)
  have E5 := Lib.hid (Sl.below good_u8 E4.out hb)
  have E6 := Lib.hid hE; clear hE hb E4
  go_wp2_with fail
  refine (eqByteS _ _ _ _ _ _ E5.out E6.out).mono ?_
  rintro e w6 ⟨rfl, hb⟩
  have hB6 := hB5.trans (hb.mono hB5.size)
  clear hb
  go_wp2
  go_ret
  exact ⟨rfl, hB6⟩

set_option maxRecDepth 100000 in
theorem lifted (os : Os) (started : os.Started) (H : Type) (enc : TypeId × Value → H) :
    ReturnsInHanded {} Try.checked os 6 .any (Rows.fnExactFormatCellSpec.pre6 enc Try.prog Try.f6 Rows.fnExactFormatCellRow.domain false) (Rows.fnExactFormatCellSpec.post enc Try.prog Try.f6 false true false false) := by
  refine returnsInHanded_of_change (C := Try.checked) K.own started (by as_aux_lemma => kernel_rfl) Try.func6
    (ChangeSpec.witness6 (enc := enc) (C := Try.checked) false ⟨#[], #[.slice none 0 0], []⟩ 8 (by as_aux_lemma => kernel_rfl) (by as_aux_lemma => kernel_rfl) (by as_aux_lemma => kernel_rfl) (by as_aux_lemma => kernel_rfl)) ?_
  intro W base args ds gs before hval0 hW hcnd _
  have hval : ∀ (j : Nat) t v, Try.f6.params[j]? = some t → args[j]? = some v → Value.okWide Try.prog W .any base t v := hval0
  have hW' := hW
  obtain ⟨p, q, hA0, hV, rfl, hfz, hnd⟩ := hW
  have hA : DataW.TrodAll enc Try.prog W 0 (fun _ => true) true Try.f6.params.toList args.toList ds p := hA0
  rw [Try.params6] at hA hval
  obtain ⟨v0, vs0, d0, ds0, p0, q0, hargs, rfl, rfl, h0, r0⟩ := trodAll_cons hA
  obtain ⟨rfl, rfl, rfl⟩ := trodAll_nil r0
  obtain rfl : args = #[v0] := by cases args; simp_all
  obtain ⟨rfl, rfl⟩ := trodVars_none hV
  have k0 := h0
  have lt0 : ∀ x ∈ p0, x.block < W.heap.size := by obtain ⟨m, hm⟩ := k0; exact DataW.trod_lt m _ _ _ hm
  obtain ⟨fuel0, hf0⟩ := h0
  obtain ⟨a0, len0, cap0, rfl⟩ := okWide_slice Try.underlying30 (hval 0 30 v0 rfl rfl)
  obtain ⟨x0, fp0, ⟨u0, hu0, e0⟩, wf0⟩ := (opens_sl (k := 1) Try.underlying30 (by kernel_rfl) (by decide) (opens_u8 Try.underlying5)) _ _ _ hf0
  simp only [Value.cells, List.cons.injEq, and_true] at hu0
  subst hu0
  clear hA0 hval0
  refine (walk W _ x0 fp0 e0 wf0).mono fun e W' ⟨he, bel⟩ => ?_
  subst he
  exact ⟨_, rfl, _, _, _, [], _, [], hW', trodAll_mk1 (shut_bool Try.underlying4 _), (trodAll_cons_mk (Below.trod K.laid (by as_aux_lemma => kernel_rfl) (of_decide_eq_true (by as_aux_lemma => kernel_rfl)) k0 bel lt0) trodAll_mk0), rfl, bel.frame _, fun h => by cases h⟩

set_option maxHeartbeats 4000000 in
theorem closed : joinedFacts Try.prog 6 Try.f6 Rows.fnExactFormatCellSpec Rows.fnExactFormatCellRow = true := by
  unfold joinedFacts
  repeat' (with_reducible refine K.and2 ?_ ?_)
  · as_aux_lemma => kernel_rfl
  · exact K.laid
  · exact K.rowed
  · as_aux_lemma => kernel_rfl
  · as_aux_lemma => kernel_rfl
  · as_aux_lemma => kernel_rfl
  · exact K.stops
  · as_aux_lemma => kernel_rfl
  · exact K.stopKnobs
  · as_aux_lemma => kernel_rfl
  · as_aux_lemma => kernel_rfl
  · as_aux_lemma => kernel_rfl
  · as_aux_lemma => kernel_rfl
  · as_aux_lemma => kernel_rfl
  · as_aux_lemma => kernel_rfl
  · as_aux_lemma => kernel_rfl
  · as_aux_lemma => kernel_rfl
  · as_aux_lemma => kernel_rfl
  · as_aux_lemma => kernel_rfl
  · as_aux_lemma => kernel_rfl
  · as_aux_lemma => kernel_rfl
  · as_aux_lemma => kernel_rfl
  · exact K.plainKeys
  · as_aux_lemma => kernel_rfl
  · exact K.stopsHeard
  · exact K.mayEnter
  · exact K.lifted
  · exact K.make
  · as_aux_lemma => kernel_rfl
  · as_aux_lemma => kernel_rfl
  · as_aux_lemma => kernel_rfl
  · as_aux_lemma => kernel_rfl
theorem over : Rows.fnExactFormatCellRow.holds Try.pinned (OpenSpec.ofChange Rows.fnExactFormatCellSpec) :=
  OpenClaim.holds_of_wide 6 Try.f6 rfl rfl rfl rfl rfl rfl rfl ⟨rfl, rfl, rfl, rfl, rfl⟩ rfl rfl rfl rfl rfl (by as_aux_lemma => kernel_rfl) Try.func6 closed
    (of_decide_eq_true (by as_aux_lemma => kernel_rfl)) (by unfold Func.isWrapper; first | (rw [if_pos (by decide +kernel)]; kernel_rfl) | (rw [if_neg (by decide +kernel)]; exact ⟨rfl, rfl⟩))
    (fun os started H enc _ => lifted os started H enc)

/-- THE STATEMENT. -/
theorem proved : Rows.FnExactFormatCellSaid := over
#print axioms proved
end Go.Proofs.Ythlflnplnajjiaa.fnExactFormatCell
