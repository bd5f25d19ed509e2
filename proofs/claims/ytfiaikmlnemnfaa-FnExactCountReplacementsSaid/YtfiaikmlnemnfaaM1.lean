/-
  Contracts: counts over a world.
-/
import Derived.Test.YtfiaikmlnemnfaaC0
namespace Go.Proofs.Ytfiaikmlnemnfaa.C
open Go.RowKit L D

theorem spec_CountReplacements (w : World) (cs : List Value) (x : Wld) (fp : List Nat) (h : EWld w cs x fp) (_hs : size_Wld x ≤ 1048576) (_hw : wf_Wld x) :
    Calls Try.prog 16 #[.agg cs.toArray] w (Gives w (.int .i64 x.replaced.length)) := by
  obtain ⟨v1, v2, cA, v3, f1, f2, f3, f4, rfl, _, _, ⟨v4, f5, rfl, _, rfl⟩, h3, rfl⟩ := h
  obtain ⟨oa, cap, rfl, h4, _⟩ := h3
  go_enter Try.func16, Try.ntmps16
  go_wp2
  go_ret
  exact ⟨rfl, (Below.refl _ _).alloc (Nat.le_refl _) _⟩
theorem impl_CountReplacements (w : World) (cs : List Value) (x : Wld) (fp : List Nat) (h : EWld w cs x fp) (_hs : size_Wld x ≤ 1048576) (_hw : wf_Wld x) :
    Calls Try.prog 18 #[.agg cs.toArray] w (Gives w (.int .i64 x.replaced.length)) := by
  obtain ⟨v1, v2, cA, v3, f1, f2, f3, f4, rfl, _, _, ⟨v4, f5, rfl, _, rfl⟩, h3, rfl⟩ := h
  obtain ⟨oa, cap, rfl, h4, _⟩ := h3
  go_enter Try.func18, Try.ntmps18
  go_wp2
  go_ret
  exact ⟨rfl, (Below.refl _ _).alloc (Nat.le_refl _) _⟩
end Go.Proofs.Ytfiaikmlnemnfaa.C
