/-
  FnExactReceivedText: the law returns true for every argument: the program and the reference agree on ReceivedText, and arguments are left as they were. No condition.
-/
import Derived.Test.YtfiaikmlnemnfaaC1
import Derived.Test.YtfiaikmlnemnfaaC2
import Derived.Test.YtfiaikmlnemnfaaC3
import Derived.Test.YtfiaikmlnemnfaaC4
import Derived.Test.YtfiaikmlnemnfaaB4
import Derived.Test.YtfiaikmlnemnfaaK0
import Derived.ProofKit
import Derived.ChangeOld
import Derived.Deep.RegionHeld3
namespace Go.Proofs.Ytfiaikmlnemnfaa.fnExactReceivedText
open Go.ChangeShapes Go.WideShapes Go.ChangeAt Go.RowKit L D C
set_option linter.unusedVariables false
set_option maxHeartbeats 800000 in
set_option maxRecDepth 100000 in
theorem walk (w : World) (cs0 : List Value) (x0 : Wld) (fp0 : List Nat) (e0 : EWld w cs0 x0 fp0) (wf0 : wf_Wld x0) (a1 : Int) (i1 : I64 a1) :
    Calls Try.prog 10 #[.agg cs0.toArray, .int .i64 a1] w (Gives w (.bool true)) := by
  obtain ⟨v_servers, v_devices, _, v_replaced, f_servers, f_devices, _, f_replaced, rfl, h_servers, h_devices, ⟨v_archive_rounds, f_archive_rounds, rfl, h_archive_rounds, rfl⟩, h_replaced, rfl⟩ := e0
  have HX : Hid (EWld w [.int .i64 x0.rows, v_servers, v_devices, .int .i64 x0.archive.rows, v_archive_rounds, .int .i64 x0.master, .int .i64 x0.seed, .int .i64 x0.round, v_replaced, .int .i64 x0.cancelled] x0 _) := Lib.hid ⟨_, _, _, _, _, _, _, _, rfl, h_servers, h_devices, ⟨_, _, rfl, h_archive_rounds, rfl⟩, h_replaced, rfl⟩
  clear h_servers h_devices h_archive_rounds h_replaced
  have HW := Lib.hid wf0; clear wf0
  by_cases hq : (1048576 : Int) - (size_Wld x0 : Nat) < 0
  · have H := Lib.hid (szN_neg hq)
    go_enter Try.func10, Try.ntmps10
    go_wp2_with fail
    refine (szWorld _ _ _ _ (good_Wld.agree HX.out (agree_below (B := w.heap.size) ((Below.refl _ _).alloc (Nat.le_refl _) _) (good_Wld.lt HX.out))) 1048576 (by omega) (by omega)).mono ?_
    rintro e w0 ⟨rfl, hb⟩
    rw [H.out]
    have hB0 : Below w.heap.size w w0 := ((Below.refl _ _).alloc (Nat.le_refl _) _).trans (hb.mono (by simp))
    clear hb
    go_wp2
    go_ret
    exact ⟨rfl, hB0⟩
  have H := Lib.hid (szN_pos hq)
  have hsz : size_Wld x0 ≤ 1048576 := by omega
  have hq' : 0 ≤ (1048576 : Int) - (size_Wld x0 : Nat) := by omega
  have HS := Lib.hid hsz
  clear hq
  go_enter Try.func10, Try.ntmps10
  go_wp2_with fail
  refine (szWorld _ _ _ _ (good_Wld.agree HX.out (agree_below (B := w.heap.size) ((Below.refl _ _).alloc (Nat.le_refl _) _) (good_Wld.lt HX.out))) 1048576 (by omega) (by omega)).mono ?_
  rintro e w0 ⟨rfl, hb⟩
  rw [H.out]
  have hB0 : Below w.heap.size w w0 := ((Below.refl _ _).alloc (Nat.le_refl _) _).trans (hb.mono (by simp))
  have k0 : w0.heap[w.heap.size]? = some (.cells #[.int .i64 x0.rows, v_servers, v_devices, .int .i64 x0.archive.rows, v_archive_rounds, .int .i64 x0.master, .int .i64 x0.seed, .int .i64 x0.round, v_replaced, .int .i64 x0.cancelled] 29 (0, 0)) := blk hb (alloc_top rfl)
  have c0 := cellB k0; have K0 := Lib.hid k0; clear k0
  clear hb
  go_wp2_with fail
  refine (toWorld _ _ _ _ (good_Wld.agree HX.out (agree_below (B := w.heap.size) hB0 (good_Wld.lt HX.out))) HS.out).mono ?_
  rintro e w1 ⟨cs101, f1, rfl, hb, hE, _⟩
  have hB1 := hB0.trans (hb.mono hB0.size)
  have k0 := blk hb K0.out
  clear c0
  have c0 := cellB k0; have K0 := Lib.hid k0; clear k0
  have E1 := Lib.hid hE; clear hE hb
  go_wp2_with fail
  refine (spec_ReceivedText _ _ _ _ E1.out _ i1 HS.out HW.out).mono ?_
  rintro e w2 ⟨rfl, hb⟩
  have hB2 := hB1.trans (hb.mono hB1.size)
  have k0 := blk hb K0.out
  clear c0
  have c0 := cellB k0; have K0 := Lib.hid k0; clear k0
  clear hb E1
  go_wp2_with fail
  refine (toWorld _ _ _ _ (good_Wld.agree HX.out (agree_below (B := w.heap.size) hB2 (good_Wld.lt HX.out))) HS.out).mono ?_
  rintro e w3 ⟨cs103, f3, rfl, hb, hE, _⟩
  have hB3 := hB2.trans (hb.mono hB2.size)
  have k0 := blk hb K0.out
  clear c0
  have c0 := cellB k0; have K0 := Lib.hid k0; clear k0
  clear hb
  obtain ⟨v3_servers, v3_devices, _, v3_replaced, f3_servers, f3_devices, _, f3_replaced, rfl, h3_servers, h3_devices, ⟨v3_archive_rounds, f3_archive_rounds, rfl, h3_archive_rounds, rfl⟩, h3_replaced, rfl⟩ := hE
  obtain ⟨oav3_servers, nv3_servers, capv3_servers, rfl⟩ := Sl.form h3_servers
  obtain ⟨oav3_devices, nv3_devices, capv3_devices, rfl⟩ := Sl.form h3_devices
  obtain ⟨oav3_archive_rounds, nv3_archive_rounds, capv3_archive_rounds, rfl⟩ := Sl.form h3_archive_rounds
  obtain ⟨oav3_replaced, nv3_replaced, capv3_replaced, rfl⟩ := Sl.form h3_replaced
  have E3 : Hid (EWld w3 [.int .i64 x0.rows, .slice oav3_servers nv3_servers capv3_servers, .slice oav3_devices nv3_devices capv3_devices, .int .i64 x0.archive.rows, .slice oav3_archive_rounds nv3_archive_rounds capv3_archive_rounds, .int .i64 x0.master, .int .i64 x0.seed, .int .i64 x0.round, .slice oav3_replaced nv3_replaced capv3_replaced, .int .i64 x0.cancelled] x0 _) := Lib.hid ⟨_, _, _, _, _, _, _, _, rfl, h3_servers, h3_devices, ⟨_, _, rfl, h3_archive_rounds, rfl⟩, h3_replaced, rfl⟩
  clear h3_servers h3_devices h3_archive_rounds h3_replaced
  go_wp2_with fail
  refine (impl_ReceivedText _ _ _ _ (good_Wld.agree E3.out (agree_below (B := w3.heap.size) ((Below.refl _ _).alloc (Nat.le_refl _) _) (good_Wld.lt E3.out))) _ i1 HS.out HW.out).mono ?_
  rintro e w4 ⟨rfl, hb⟩
  have hB4 : Below w.heap.size w w4 := (hB3.alloc hB3.size _).trans (hb.mono (by have := hB3.size; simp; omega))
  have hb4 : Below w3.heap.size w3 w4 := ((Below.refl _ _).alloc (Nat.le_refl _) _).trans (hb.mono (by simp))
  have k0 := blk hb (alloc_old K0.out)
  have k3 : w4.heap[w3.heap.size]? = some (.cells #[.int .i64 x0.rows, .slice oav3_servers nv3_servers capv3_servers, .slice oav3_devices nv3_devices capv3_devices, .int .i64 x0.archive.rows, .slice oav3_archive_rounds nv3_archive_rounds capv3_archive_rounds, .int .i64 x0.master, .int .i64 x0.seed, .int .i64 x0.round, .slice oav3_replaced nv3_replaced capv3_replaced, .int .i64 x0.cancelled] 38 (0, 0)) := blk hb (alloc_top rfl)
  clear c0
  have c0 := cellB k0; have K0 := Lib.hid k0; clear k0
  have c3 := cellB k3; have K3 := Lib.hid k3; clear k3
  have E4 := Lib.hid (good_Wld.below E3.out hb4); clear hb E3 hb4
  go_wp2_with fail
  clear c0 c3
  obtain ⟨d3, hu3, hd3, hi3⟩ := row_Wld_impl
  obtain ⟨d0, hu0, hd0, hi0⟩ := row_Wld_laws
  have HU3 := Lib.hid hu3; have HI3 := Lib.hid hi3; have HU0 := Lib.hid hu0; have HI0 := Lib.hid hi0; clear hu3 hi3 hu0 hi0
  refine wp_region_held (S := fun W => W.rangeAt w3.heap.size 0 [.int .i64 x0.rows, .slice oav3_servers nv3_servers capv3_servers, .slice oav3_devices nv3_devices capv3_devices, .int .i64 x0.archive.rows, .slice oav3_archive_rounds nv3_archive_rounds capv3_archive_rounds, .int .i64 x0.master, .int .i64 x0.seed, .int .i64 x0.round, .slice oav3_replaced nv3_replaced capv3_replaced, .int .i64 x0.cancelled] ∧ W.rangeAt w.heap.size 0 [.int .i64 x0.rows, v_servers, v_devices, .int .i64 x0.archive.rows, v_archive_rounds, .int .i64 x0.master, .int .i64 x0.seed, .int .i64 x0.round, v_replaced, .int .i64 x0.cancelled]) (by kernel_rfl) ?_
  refine wpAnyH_take (i := 0) (v := .agg #[.int .i64 x0.rows, .slice oav3_servers nv3_servers capv3_servers, .slice oav3_devices nv3_devices capv3_devices, .int .i64 x0.archive.rows, .slice oav3_archive_rounds nv3_archive_rounds capv3_archive_rounds, .int .i64 x0.master, .int .i64 x0.seed, .int .i64 x0.round, .slice oav3_replaced nv3_replaced capv3_replaced, .int .i64 x0.cancelled]) rfl (by kernel_rfl) (by kernel_rfl) (by kernel_rfl) (fun _ _ _ h => h) (yieldsIf_load_mid (by rfl) 38 _ rfl w3.heap.size 0 rfl [.int .i64 x0.rows, .slice oav3_servers nv3_servers capv3_servers, .slice oav3_devices nv3_devices capv3_devices, .int .i64 x0.archive.rows, .slice oav3_archive_rounds nv3_archive_rounds capv3_archive_rounds, .int .i64 x0.master, .int .i64 x0.seed, .int .i64 x0.round, .slice oav3_replaced nv3_replaced capv3_replaced, .int .i64 x0.cancelled] d3 (fun W h => h.1) HU3.out hd3 HI3.out) ⟨rangeB K3.out, rangeB K0.out⟩ ?_
  simp only [Act.put, List.setIfInBounds_toArray, List.set_cons_succ, List.set_cons_zero]
  refine wpAnyH_take (i := 1) (v := .agg #[.int .i64 x0.rows, v_servers, v_devices, .int .i64 x0.archive.rows, v_archive_rounds, .int .i64 x0.master, .int .i64 x0.seed, .int .i64 x0.round, v_replaced, .int .i64 x0.cancelled]) rfl (by kernel_rfl) (by kernel_rfl) (by kernel_rfl) (fun _ _ _ h => h) (yieldsIf_load_mid (by rfl) 29 _ rfl w.heap.size 0 rfl [.int .i64 x0.rows, v_servers, v_devices, .int .i64 x0.archive.rows, v_archive_rounds, .int .i64 x0.master, .int .i64 x0.seed, .int .i64 x0.round, v_replaced, .int .i64 x0.cancelled] d0 (fun W h => h.2) HU0.out hd0 HI0.out) ⟨rangeB K3.out, rangeB K0.out⟩ ?_
  simp only [Act.put, List.setIfInBounds_toArray, List.set_cons_succ, List.set_cons_zero]
  refine wpAnyH_ready (rs := [2]) (by kernel_rfl) (by simp) ?_
  refine AllReadyH.cons rfl (fun K hK => ?_) AllReadyH.nil
  go_simp
  refine (toWorld _ _ _ _ (good_Wld.agree HX.out (agree_below (B := w.heap.size) hB4.drew (good_Wld.lt HX.out))) HS.out).mono ?_
  rintro e w5 ⟨cs5, f5, rfl, hb, hE, _⟩
  have hB5 : Below w.heap.size w w5 := hB4.drew.trans (hb.mono hB4.size)
  have k3 := blk hb K3.out; have k0 := blk hb K0.out
  have E5 := Lib.hid (good_Wld.below (w := w4.drew) (good_Wld.drew E4.out) hb)
  have E6 := Lib.hid hE; have K5 := Lib.hid k3; have K6 := Lib.hid k0; clear hE hb E4 k3 k0 K3 K0
  refine hK.out _ _ ⟨rangeB K5.out, rangeB K6.out⟩ (fun _ => ?_)
  clear hK K
  refine wpAnyH_ready (rs := [3]) (by kernel_rfl) (by simp) ?_
  refine AllReadyH.cons rfl (fun K hK => ?_) AllReadyH.nil
  go_simp
  refine (eqWorld _ _ _ _ _ _ E5.out E6.out).mono ?_
  rintro e w6 ⟨rfl, hb⟩
  have hB6 := hB5.trans (hb.mono hB5.size)
  refine hK.out _ _ ⟨rangeB (blk hb K5.out), rangeB (blk hb K6.out)⟩ (fun _ => ?_)
  have K7 := Lib.hid (blk hb K5.out); have K8 := Lib.hid (blk hb K6.out)
  clear hK K hb
  refine wpAnyH_ready (rs := [4]) (by kernel_rfl) (by simp) ?_
  refine AllReadyH.cons rfl (fun K hK => ?_) AllReadyH.nil
  go_simp
  refine hK.out _ _ ⟨rangeB K7.out, rangeB K8.out⟩ (fun _ => ?_)
  clear hK K
  refine wpAnyH_done (by kernel_rfl) ?_ _
  go_wp2
  go_ret
  exact ⟨rfl, hB6⟩

set_option maxRecDepth 100000 in
theorem lifted (os : Os) (started : os.Started) (H : Type) (enc : TypeId × Value → H) :
    ReturnsInHanded {} Try.checked os 10 .any (Rows.fnExactReceivedTextSpec.pre6 enc Try.prog Try.f10 Rows.fnExactReceivedTextRow.domain false) (Rows.fnExactReceivedTextSpec.post enc Try.prog Try.f10 false true false false) := by
  refine returnsInHanded_of_change (C := Try.checked) K.own started (by as_aux_lemma => kernel_rfl) Try.func10
    (ChangeSpec.witness6 (enc := enc) (C := Try.checked) false ⟨#[], #[.agg #[.int .i64 0, .slice none 0 0, .slice none 0 0, .int .i64 0, .slice none 0 0, .int .i64 0, .int .i64 0, .int .i64 0, .slice none 0 0, .int .i64 0], .int .i64 0], []⟩ 8 (by as_aux_lemma => kernel_rfl) (by as_aux_lemma => kernel_rfl) (by as_aux_lemma => kernel_rfl) (by as_aux_lemma => kernel_rfl)) ?_
  intro W base args ds gs before hval0 hW hcnd _
  have hval : ∀ (j : Nat) t v, Try.f10.params[j]? = some t → args[j]? = some v → Value.okWide Try.prog W .any base t v := hval0
  have hW' := hW
  obtain ⟨p, q, hA0, hV, rfl, hfz, hnd⟩ := hW
  have hA : DataW.TrodAll enc Try.prog W 0 (fun _ => true) true Try.f10.params.toList args.toList ds p := hA0
  rw [Try.params10] at hA hval
  obtain ⟨v0, vs0, d0, ds0, p0, q0, hargs, rfl, rfl, h0, r0⟩ := trodAll_cons hA
  obtain ⟨v1, vs1, d1, ds1, p1, q1, rfl, rfl, rfl, h1, r1⟩ := trodAll_cons r0
  obtain ⟨rfl, rfl, rfl⟩ := trodAll_nil r1
  obtain rfl : args = #[v0, v1] := by cases args; simp_all
  obtain ⟨rfl, rfl⟩ := trodVars_none hV
  have k0 := h0
  have lt0 : ∀ x ∈ p0, x.block < W.heap.size := by obtain ⟨m, hm⟩ := k0; exact DataW.trod_lt m _ _ _ hm
  obtain ⟨fuel0, hf0⟩ := h0
  obtain ⟨cs0, rfl, hsz0⟩ := okWide_struct Try.underlying29 (hval 0 29 v0 rfl rfl)
  obtain ⟨x0, fp0, e0, wf0⟩ := opens_Wld _ _ _ hf0
  have e0 : EWld W cs0.toList x0 fp0 := e0
  obtain ⟨a1, rfl, rfl, rfl, w1⟩ := open_int Try.underlying3 (hval 1 3 v1 rfl rfl) h1
  clear hA0 hval0
  refine (walk W cs0.toList x0 fp0 e0 wf0 a1 (i64_of_wf w1)).mono fun e W' ⟨he, bel⟩ => ?_
  subst he
  exact ⟨_, rfl, _, _, _, [], _, [], hW', trodAll_mk1 (shut_bool Try.underlying4 _), (trodAll_cons_mk (Below.trod K.laid (by as_aux_lemma => kernel_rfl) (of_decide_eq_true (by as_aux_lemma => kernel_rfl)) k0 bel lt0) (trodAll_cons_mk (shut_int Try.underlying3 w1) trodAll_mk0)), rfl, bel.frame _, fun h => by cases h⟩

set_option maxHeartbeats 4000000 in
theorem closed : joinedFacts Try.prog 10 Try.f10 Rows.fnExactReceivedTextSpec Rows.fnExactReceivedTextRow = true := by
  unfold joinedFacts
  repeat' (with_reducible refine K.and2 ?_ ?_)
  · as_aux_lemma => kernel_rfl
  · exact K.laid
  · exact K.rowed
  · as_aux_lemma => kernel_rfl
  · as_aux_lemma => kernel_rfl
  · as_aux_lemma => kernel_rfl
  · exact K.stops
  · as_aux_lemma => kernel_rfl
  · exact K.stopKnobs
  · as_aux_lemma => kernel_rfl
  · as_aux_lemma => kernel_rfl
  · as_aux_lemma => kernel_rfl
  · as_aux_lemma => kernel_rfl
  · as_aux_lemma => kernel_rfl
  · as_aux_lemma => kernel_rfl
  · as_aux_lemma => kernel_rfl
  · as_aux_lemma => kernel_rfl
  · as_aux_lemma => kernel_rfl
  · as_aux_lemma => kernel_rfl
  · as_aux_lemma => kernel_rfl
  · as_aux_lemma => kernel_rfl
  · as_aux_lemma => kernel_rfl
  · exact K.plainKeys
  · as_aux_lemma => kernel_rfl
  · exact K.stopsHeard
  · exact K.mayEnter
  · exact K.lifted
  · exact K.make
  · as_aux_lemma => kernel_rfl
  · as_aux_lemma => kernel_rfl
  · as_aux_lemma => kernel_rfl
  · as_aux_lemma => kernel_rfl
theorem over : Rows.fnExactReceivedTextRow.holds Try.pinned (OpenSpec.ofChange Rows.fnExactReceivedTextSpec) :=
  OpenClaim.holds_of_wide 10 Try.f10 rfl rfl rfl rfl rfl rfl rfl ⟨rfl, rfl, rfl, rfl, rfl⟩ rfl rfl rfl rfl rfl (by as_aux_lemma => kernel_rfl) Try.func10 closed
    (of_decide_eq_true (by as_aux_lemma => kernel_rfl)) (by unfold Func.isWrapper; first | (rw [if_pos (by decide +kernel)]; kernel_rfl) | (rw [if_neg (by decide +kernel)]; exact ⟨rfl, rfl⟩))
    (fun os started H enc _ => lifted os started H enc)

/-- THE STATEMENT. -/
theorem proved : Rows.FnExactReceivedTextSaid := over
#print axioms proved
end Go.Proofs.Ytfiaikmlnemnfaa.fnExactReceivedText
