/-
  Contracts by the symbolic machine: is the archive recent.
-/
import Derived.Test.YtfiaikmlnemnfaaE1
namespace Go.Proofs.Ytfiaikmlnemnfaa.G
open Go.RowKit L D
def late (l : List ARound) (first : Int) : Bool := if decide (((since first l).length : Int) > 5) then true else if decide ((l.length : Int) ≥ 8) then decide (first < (l.getD 0 (dfl .ARound)).round) else false
def recent (x : Wld) : Bool := x.devices.all fun d => !late x.archive.rounds d.saved.next
theorem all_take {α : Type} (l : List α) (p : α → Bool) (d : α) (k : Nat) (h : k < l.length) (h1 : (l.take k).all p = true) (h2 : p (l.getD k d) = true) : (l.take (k + 1)).all p = true := by
  rw [take_snoc l k d h, List.all_append, h1]; simp only [List.all_cons, h2, List.all_nil, Bool.and_self]
theorem all_not {α : Type} (l : List α) (p : α → Bool) (d : α) (k : Nat) (h : k < l.length) (h2 : p (l.getD k d) = false) : l.all p = false := by
  rw [List.all_eq_false]
  refine ⟨l.getD k d, ?_, by simp only [h2]; decide⟩
  rw [List.getD_eq_getElem?_getD, List.getElem?_eq_getElem h]; simp
set_option maxRecDepth 100000
theorem c_spec_ArchiveIsRecent (x : Wld) (hl : x.archive.rounds.length ≤ 1048576) (hd : x.devices.length ≤ 1048576) : Sound ty Try.prog 24 [.agg (dec_Wld x)] [.a (.lit (.bool (recent x)))] := by
  refine Sound.of X Try.call24 Try.func24 rfl rfl (by decide) Try.ntmps24 (by simp) ?_
  intro w0
  refine W.seq (W.reg X [(1, 1)] [] [1] [1] rfl ⟨⟩ ?_)
  refine W.seq (W.seq (W.reg X [] [] [3, 1] [1] rfl ⟨⟩ ?_))
  refine W.block ?_
  refine W.loop (fun k => k ≤ x.devices.length ∧ (x.devices.take k).all (fun d => !late x.archive.rounds d.saved.next) = true) (fun k : Nat => ⟨42, [(3, .one (.a (.lit (.int .i64 k)))), (1, .one (.a (.ptr 1 0)))], [(1, .box (dec_Wld x))]⟩) (fun k => x.devices.length - k) 0 ⟨Nat.zero_le _, rfl⟩ (Inv.of_eq rfl) ?_
  rintro k ⟨hk, hall⟩
  refine W.seq (W.seq (W.reg X [] [] [9, 3, 1] [1] rfl ⟨⟩ ?_))
  refine W.cond rfl (fun hb => W.skip ?_) (fun hb => W.exit ?_)
  · have hk2 : k < x.devices.length := by simpa using hb
    refine W.seq (W.block (W.seq (W.reg X [] [] [4, 3, 1] [1] rfl ⟨by omega, ⟨⟩⟩ ?_)))
    refine W.seq (W.reg X [] [(22, ⟨false, [.a (.sl .int (since (x.devices.getD k (dfl .Dev)).saved.next x.archive.rounds))]⟩)] [41, 3, 1] [1] rfl ⟨?_, c_spec_RoundsSince x.archive _ hl, ⟨⟩⟩ ?_)
    · intro h7 _; replace h7 := of_decide_eq_true h7; refine And.intro ?_ ?_ <;> omega
    refine W.cond (b := late x.archive.rounds (x.devices.getD k (dfl .Dev)).saved.next) rfl (fun hb2 => ?_) (fun hb2 => W.skip ?_)
    · refine W.seq (W.reg X [] [] [2] [] rfl ⟨⟩ ?_)
      refine W.ret ?_
      exact Fin.ret rfl ⟨by rw [recent, all_not _ _ (dfl .Dev) k hk2 (by rw [hb2]; rfl)], ⟨⟩⟩
    · refine W.reg X [] [] [3, 1] [1] rfl ⟨⟩ ?_
      refine ⟨k + 1, ⟨hk2, all_take _ _ (dfl .Dev) k hk2 hall (by rw [hb2]; rfl)⟩, by omega, Inv.of_eq ?_⟩
      rw [wadd _ k rfl (by omega)]
      try rfl
  · have hk2 : x.devices.take k = x.devices := List.take_of_length_le (by simpa using hb)
    refine W.seq (W.reg X [] [] [2] [] rfl ⟨⟩ ?_)
    refine W.ret ?_
    exact Fin.ret rfl ⟨by rw [recent, ← hall, hk2], ⟨⟩⟩
theorem c_impl_ArchiveIsRecent (x : Wld) (hl : x.archive.rounds.length ≤ 1048576) (hd : x.devices.length ≤ 1048576) : Sound ty Try.prog 25 [.agg (dec_Wld x)] [.a (.lit (.bool (recent x)))] := by
  refine Sound.of X Try.call25 Try.func25 rfl rfl (by decide) Try.ntmps25 (by simp) ?_
  intro w0
  refine W.seq (W.reg X [(1, 1)] [] [1] [1] rfl ⟨⟩ ?_)
  refine W.seq (W.reg X [] [] [3, 1] [1] rfl ⟨⟩ ?_)
  refine W.seq (W.seq (W.reg X [] [] [12, 11, 10, 3, 1] [1] rfl ⟨⟩ ?_))
  refine W.block ?_
  refine W.loop (fun k => k ≤ x.devices.length ∧ (x.devices.take k).all (fun d => !late x.archive.rounds d.saved.next) = true) (fun k : Nat => ⟨40, [(12, .one (.a (.lit (.int .i64 k)))), (11, .one (.a (.lit (.int .i64 x.devices.length)))), (10, .one (.a (.sl .Dev x.devices))), (3, .one (.a (.sl .ARound x.archive.rounds))), (1, .one (.a (.ptr 1 0)))], [(1, .box (dec_Wld x))]⟩) (fun k => x.devices.length - k) 0 ⟨Nat.zero_le _, rfl⟩ (Inv.of_eq rfl) ?_
  rintro k ⟨hk, hall⟩
  refine W.seq (W.reg X [] [] [13, 12, 11, 10, 3, 1] [1] rfl ⟨⟩ ?_)
  refine W.seq (W.cond rfl (fun hb => W.skip ?_) (fun hb => W.exit ?_))
  · have hk2 : k < x.devices.length := by simpa using hb
    refine W.seq (W.block (W.seq (W.reg X [(5, 5)] [] [5, 12, 11, 10, 3, 1] [5, 1] rfl ⟨by omega, ⟨⟩⟩ ?_)))
    refine W.seq (W.draw X [] [(21, ⟨false, [.a (.sl .int (since (x.devices.getD k (dfl .Dev)).saved.next x.archive.rounds))]⟩)] [38, 12, 11, 10, 3, 1] [1] 23 MO (by kernel_rfl) rfl ⟨?_, c_impl_RoundsSince x.archive _ hl, ⟨⟩⟩ ?_)
    · intro h7 _; replace h7 := of_decide_eq_true h7; refine ⟨?_, ?_⟩ <;> omega
    refine W.cond (b := late x.archive.rounds (x.devices.getD k (dfl .Dev)).saved.next) rfl (fun hb2 => ?_) (fun hb2 => W.skip ?_)
    · refine W.seq (W.reg X [] [] [2] [] rfl ⟨⟩ ?_)
      refine W.ret ?_
      exact Fin.ret rfl ⟨by rw [recent, all_not _ _ (dfl .Dev) k hk2 (by rw [hb2]; rfl)], ⟨⟩⟩
    · refine W.reg X [] [] [12, 11, 10, 3, 1] [1] rfl ⟨⟩ ?_
      refine ⟨k + 1, ⟨hk2, all_take _ _ (dfl .Dev) k hk2 hall (by rw [hb2]; rfl)⟩, by omega, Inv.of_eq ?_⟩
      rw [wadd _ k rfl (by omega)]
      try rfl
  · have hk2 : x.devices.take k = x.devices := List.take_of_length_le (by simpa using hb)
    refine W.seq (W.reg X [] [] [2] [] rfl ⟨⟩ ?_)
    refine W.ret ?_
    exact Fin.ret rfl ⟨by rw [recent, ← hall, hk2], ⟨⟩⟩
end Go.Proofs.Ytfiaikmlnemnfaa.G
