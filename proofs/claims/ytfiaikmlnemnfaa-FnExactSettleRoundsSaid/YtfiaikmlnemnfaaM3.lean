/-
  Contracts: messages that wait.
-/
import Derived.Test.YtfiaikmlnemnfaaC0
namespace Go.Proofs.Ytfiaikmlnemnfaa.C
open Go.RowKit L D

theorem take_snoc' {α : Type} {l : List α} {k : Nat} {x : α} (h : l[k]? = some x) : l.take (k + 1) = l.take k ++ [x] := by
  rw [List.take_add_one, h]; rfl
theorem range_left {w : World} {b o : Nat} {l r : List Value} (h : w.rangeAt b o (l ++ r)) : w.rangeAt b o l := fun j v hv => h j v (by rw [List.getElem?_append_left (List.getElem?_eq_some_iff.1 hv).1]; exact hv)
theorem range_right {w : World} {b o : Nat} {l r : List Value} (h : w.rangeAt b o (l ++ r)) : w.rangeAt b (o + l.length) r := fun j v hv => by
  rw [Nat.add_assoc]
  exact h (l.length + j) v (by rw [List.getElem?_append_right (by omega), Nat.add_sub_cancel_left]; exact hv)
theorem rangeS {w : World} {b o : Nat} {arr : Array Value} {e : TypeId} {f : Nat × Nat} (h : w.heap[b]? = some (.cells arr e f)) (p cs r : List Value) (hl : arr = (p ++ (cs ++ r)).toArray) (ho : o = p.length) : w.rangeAt b o cs := by
  subst ho; subst hl
  have := rangeB h
  have h2 := range_right (l := p) (r := cs ++ r) (by simpa using this)
  rw [Nat.zero_add] at h2
  exact range_left h2
def waiting (x : Cli) : Int := wrap64 ((x.submitted.length : Int) - x.sent)
def pending (l : List Dev) : Int := l.foldl (fun n d => wrap64 (n + waiting d.live)) 0
theorem pending_snoc (l : List Dev) (d : Dev) : pending (l ++ [d]) = wrap64 (pending l + waiting d.live) := by
  unfold pending; rw [List.foldl_append]; rfl

theorem spec_WaitingMessages (w : World) (cs : List Value) (x : Cli) (fp : List Nat) (h : ECli w cs x fp) :
    Calls Try.prog 60 #[.agg cs.toArray] w (Gives w (.int .i64 (waiting x))) := by
  obtain ⟨v1, v2, f1, f2, rfl, ⟨oa, cap, rfl, _⟩, _, rfl⟩ := h
  go_enter Try.func60, Try.ntmps60
  go_wp2
  go_ret
  exact ⟨rfl, (Below.refl _ _).alloc (Nat.le_refl _) _⟩
theorem impl_WaitingMessages (w : World) (cs : List Value) (x : Cli) (fp : List Nat) (h : ECli w cs x fp) :
    Calls Try.prog 61 #[.agg cs.toArray] w (Gives w (.int .i64 (waiting x))) := by
  obtain ⟨v1, v2, f1, f2, rfl, ⟨oa, cap, rfl, _⟩, _, rfl⟩ := h
  go_enter Try.func61, Try.ntmps61
  go_wp2
  go_ret
  exact ⟨rfl, (Below.refl _ _).alloc (Nat.le_refl _) _⟩

set_option maxHeartbeats 400000 in
set_option maxRecDepth 100000 in
theorem spec_PendingMessages (w : World) (cs : List Value) (x : Wld) (fp : List Nat) (h : EWld w cs x fp) (_hs : size_Wld x ≤ 1048576) (_hw : wf_Wld x) :
    Calls Try.prog 20 #[.agg cs.toArray] w (Gives w (.int .i64 (pending x.devices))) := by
  obtain ⟨v1, v2, cA, v3, f1, f2, f3, f4, rfl, _, h2, ⟨v4, f5, rfl, _, rfl⟩, _, rfl⟩ := h
  have HX := Lib.hid h2
  obtain ⟨oa, cap, rfl, hc, hm, _⟩ := h2
  generalize hl : x.devices = l at *
  obtain ⟨n, hn⟩ : ∃ n, n = l.length := ⟨_, rfl⟩
  rw [← hn] at hc HX ⊢
  have HL := Lib.hid hn; clear hn hl
  unfold maxLen at hm
  go_enter Try.func20, Try.ntmps20
  go_wp2_with fail
  have k0 : (w.alloc (.cells #[.int .i64 x.rows, v1, .slice oa n cap, .int .i64 x.archive.rows, v4, .int .i64 x.master, .int .i64 x.seed, .int .i64 x.round, v3, .int .i64 x.cancelled] 38)).heap[w.heap.size]? = some (.cells #[.int .i64 x.rows, v1, .slice oa n cap, .int .i64 x.archive.rows, v4, .int .i64 x.master, .int .i64 x.seed, .int .i64 x.round, v3, .int .i64 x.cancelled] 38 (0, 0)) := alloc_top rfl
  have K := Lib.hid k0; clear k0
  go_loopw [3, 4] (fun t i wr => ∃ k : Nat, k ≤ n ∧ i = .int .i64 k ∧ t = .int .i64 (pending (l.take k)) ∧ Below w.heap.size w wr ∧ wr.heap[w.heap.size]? = some (.cells #[.int .i64 x.rows, v1, .slice oa n cap, .int .i64 x.archive.rows, v4, .int .i64 x.master, .int .i64 x.seed, .int .i64 x.round, v3, .int .i64 x.cancelled] 38 (0, 0))) (fun _ i _ => n - (intOf i).toNat)
  case atStart => exact ⟨0, by omega, rfl, rfl, (Below.refl _ _).alloc (Nat.le_refl _) _, K.out⟩
  case round =>
    obtain ⟨k, hk, rfl, rfl, hb, k0⟩ := hrel
    have c0 := cellB k0
    have K1 := Lib.hid k0; clear k0
    by_cases hk2 : k < n
    · obtain ⟨d, hd⟩ := getE (l := l) (k := k) (by have := HL.out; omega)
      obtain ⟨b, off, f, cs, rfl, hr, hE, _⟩ := (Sl.agree good_Dev HX.out (agree_below hb (Sl.lt good_Dev HX.out))).at hd
      obtain ⟨cl, cv, fl, fv, rfl, hcl, hcv, _⟩ := hE
      have HR : Hid (wr.rangeAt b (off + k * 16) cl) := Lib.hid (range_left hr)
      have HCL := Lib.hid hcl
      have HLen := Lib.hid (good_Cli.len hcl)
      have HP := Lib.hid (show pending (l.take (k + 1)) = wrap64 (pending (l.take k) + waiting d.live) by rw [take_snoc' hd, pending_snoc])
      clear hr hcl hcv hd
      go_wp2_with ((with_reducible refine wpList_ld (op := ⟨some 18, _, _, _, _, _⟩) row_Cli_impl HR.out HLen.out rfl rfl ?_ ?_); exact rfl)
      refine (spec_WaitingMessages _ _ _ _ HCL.out).mono ?_
      rintro e w2 ⟨rfl, hb2⟩
      have k0 := blk hb2 K1.out
      have K2 := Lib.hid k0; clear k0
      have hB := hb.trans (hb2.mono hb.size)
      clear hb2 c0
      go_wp2_with fail
      go_roundw
      case rel => exact ⟨k + 1, by omega, by go_num, by rw [HP.out], hB, K2.out⟩
      case measure => simp [intOf]; omega
    · have H := Lib.hid (show l.take k = l from List.take_of_length_le (by have := HL.out; omega))
      go_wp2
      go_ret
      exact ⟨ret_int (by rw [H.out]), hb⟩

set_option maxHeartbeats 400000 in
set_option maxRecDepth 100000 in
theorem impl_PendingMessages (w : World) (cs : List Value) (x : Wld) (fp : List Nat) (h : EWld w cs x fp) (_hs : size_Wld x ≤ 1048576) (_hw : wf_Wld x) :
    Calls Try.prog 21 #[.agg cs.toArray] w (Gives w (.int .i64 (pending x.devices))) := by
  obtain ⟨v1, v2, cA, v3, f1, f2, f3, f4, rfl, _, h2, ⟨v4, f5, rfl, _, rfl⟩, _, rfl⟩ := h
  have HX := Lib.hid h2
  obtain ⟨oa, cap, rfl, hc, hm, _⟩ := h2
  generalize hl : x.devices = l at *
  obtain ⟨n, hn⟩ : ∃ n, n = l.length := ⟨_, rfl⟩
  rw [← hn] at hc HX ⊢
  have HL := Lib.hid hn; clear hn hl
  unfold maxLen at hm
  go_enter Try.func21, Try.ntmps21
  go_wp2_with fail
  go_loopw [3, 9] (fun t i wr => ∃ k : Nat, k ≤ n ∧ i = .int .i64 k ∧ t = .int .i64 (pending (l.take k)) ∧ Below w.heap.size w wr) (fun _ i _ => n - (intOf i).toNat)
  case atStart => exact ⟨0, by omega, rfl, rfl, (Below.refl _ _).alloc (Nat.le_refl _) _⟩
  case round =>
    obtain ⟨k, hk, rfl, rfl, hb⟩ := hrel
    by_cases hk2 : k < n
    · obtain ⟨d, hd⟩ := getE (l := l) (k := k) (by have := HL.out; omega)
      obtain ⟨b, off, f, cs, rfl, hr, hE, _⟩ := (Sl.agree good_Dev HX.out (agree_below hb (Sl.lt good_Dev HX.out))).at hd
      obtain ⟨cl, cv, fl, fv, rfl, ⟨u1, u2, g1, g2, rfl, hu1, hu2, rfl⟩, ⟨u3, u4, g3, g4, rfl, hu3, hu4, rfl⟩, _⟩ := hE
      obtain ⟨o1, n1, c1, rfl⟩ := Sl.form hu1
      obtain ⟨o2, n2, c2, rfl⟩ := Sl.form hu2
      obtain ⟨o3, n3, c3, rfl⟩ := Sl.form hu3
      obtain ⟨o4, n4, c4, rfl⟩ := Sl.form hu4
      have HR : Hid (wr.rangeAt b (off + k * 16) _) := Lib.hid hr
      have HCL : Hid (ECli wr [.int .i64 d.live.id, .int .i64 d.live.friend, .int .i64 d.live.key, .int .i64 d.live.seed, .slice o1 n1 c1, .int .i64 d.live.sent, .slice o2 n2 c2, .int .i64 d.live.next] d.live (g1 ++ g2)) := Lib.hid ⟨_, _, _, _, rfl, hu1, hu2, rfl⟩
      have HP := Lib.hid (show pending (l.take (k + 1)) = wrap64 (pending (l.take k) + waiting d.live) by rw [take_snoc' hd, pending_snoc])
      clear hr hd hu1 hu2 hu3 hu4
      go_wp2_with first
        | ((with_reducible refine wpList_ld (op := ⟨some 12, _, _, _, _, _⟩) row_Dev_impl HR.out rfl rfl rfl ?_ ?_); exact rfl)
        | ((with_reducible refine wpList_ld (op := ⟨some 15, _, _, _, _, _⟩) (cs := [.int .i64 d.live.id, .int .i64 d.live.friend, .int .i64 d.live.key, .int .i64 d.live.seed, .slice o1 n1 c1, .int .i64 d.live.sent, .slice o2 n2 c2, .int .i64 d.live.next]) row_Cli_impl (rangeS (alloc_top rfl) [] _ [.int .i64 d.saved.id, .int .i64 d.saved.friend, .int .i64 d.saved.key, .int .i64 d.saved.seed, .slice o3 n3 c3, .int .i64 d.saved.sent, .slice o4 n4 c4, .int .i64 d.saved.next] rfl rfl) rfl rfl rfl ?_ ?_); exact rfl)
      refine (impl_WaitingMessages _ _ _ _ (good_Cli.below HCL.out ((Below.refl _ _).alloc (Nat.le_refl _) _))).mono ?_
      rintro e w2 ⟨rfl, hb2⟩
      have hB := (hb.alloc hb.size _).trans (hb2.mono (by have := hb.size; simp; omega))
      clear hb2 hb
      go_wp2_with fail
      go_roundw
      case rel => exact ⟨k + 1, by omega, by go_num, by rw [HP.out], hB⟩
      case measure => simp [intOf]; omega
    · have H := Lib.hid (show l.take k = l from List.take_of_length_le (by have := HL.out; omega))
      go_wp2
      go_ret
      exact ⟨ret_int (by rw [H.out]), hb⟩
end Go.Proofs.Ytfiaikmlnemnfaa.C
