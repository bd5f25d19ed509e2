/-
  Contracts by the symbolic machine: a selection's text.
-/
import Derived.Test.YthlflnplnajjiaaE0
namespace Go.Proofs.Ythlflnplnajjiaa.G
open Go.RowKit L D
def sel (n : Int) : UInt8 := if n = 0 then 48 else if n = 1 then 49 else 63
theorem bound : ∀ n : Int, n = 0 ∨ n = 1 → 0 ≤ IntKind.u8.wrap (IntKind.i64.wrap (48 + n)) ∧ IntKind.u8.wrap (IntKind.i64.wrap (48 + n)) < 256 := by
  rintro n (rfl | rfl) <;> decide
theorem val : ∀ n : Int, n = 0 ∨ n = 1 → UInt8.ofNat (IntKind.u8.wrap (IntKind.i64.wrap (48 + n))).toNat = sel n := by
  rintro n (rfl | rfl) <;> decide
set_option maxRecDepth 100000
theorem c_spec_FormatSelection (l : List Int) (hl : l.length ≤ 1048576) : Sound ty Try.prog 13 [.a (.sl .int l)] [.a (.lit (.string (str8 (l.map sel))))] := by
  refine Sound.of X Try.call13 Try.func13 rfl rfl (by decide) Try.ntmps13 (by simp) ?_
  intro w0
  refine W.seq (W.reg X [] [] [0] [] rfl ⟨⟩ ?_)
  refine W.seq (W.reg X [] [] [3, 0] [] rfl ⟨⟩ ?_)
  refine W.seq (W.seq (W.reg X [] [] [4, 3, 0] [] rfl ⟨⟩ ?_))
  refine W.block ?_
  refine W.loop (fun k => k ≤ l.length) (fun k : Nat => ⟨26, [(4, .one (.a (.lit (.int .i64 k)))), (3, .one (.a (.lit (.string (str8 ((l.take k).map sel)))))), (0, .one (.a (.sl .int l)))], []⟩) (fun k => l.length - k) 0 (Nat.zero_le _) (Inv.of_eq rfl) ?_
  intro k hk
  refine W.seq (W.seq (W.reg X [] [] [8, 4, 3, 0] [] rfl ⟨⟩ ?_))
  refine W.cond rfl (fun hb => W.skip ?_) (fun hb => W.exit ?_)
  · have hk2 : k < l.length := by simpa using hb
    have hsn : (l.take (k + 1)).map sel = (l.take k).map sel ++ [sel (l.getD k 0)] := by rw [take_snoc l k 0 hk2, List.map_append]; rfl
    have ht : ((l.take k).map sel).length ≤ 1048576 := by rw [List.length_map, List.length_take]; omega
    have step : ∀ (c : UInt8), sel (l.getD k 0) = c → str8 ((l.take k).map sel) ++ str8 [c] = str8 ((l.take (k + 1)).map sel) := by
      rintro c rfl; rw [hsn]; exact str8_app _ _
    have small : ∀ (c : UInt8), (((str8 ((l.take k).map sel)).size + (str8 [c]).size : Nat) : Int) ≤ IntKind.i64.max := by
      intro c; rw [str8_size, str8_size, max64, List.length_singleton]; omega
    refine W.seq (W.block (W.seq (W.reg X [] [] [14, 4, 3, 0] [] rfl ⟨by omega, ⟨⟩⟩ ?_)))
    refine W.block (W.seq (W.reg X [] [] [17, 14, 4, 3, 0] [] rfl ⟨⟩ ?_))
    refine W.cond rfl (fun hb2 => ?_) (fun hb2 => ?_)
    · have h0 : l.getD k 0 = 0 := eq_of_beq (show (l.getD k 0 == (0 : Int)) = true from hb2)
      refine W.reg X [] [] [4, 3, 0] [] rfl ⟨small 48, ⟨⟩⟩ ?_
      refine W.reg X [] [] [4, 3, 0] [] rfl ⟨⟩ ?_
      refine ⟨k + 1, hk2, by omega, Inv.of_eq ?_⟩
      rw [wadd _ k rfl (by omega), ← step 48 (by rw [h0]; rfl)]
      try rfl
    · have h0 : l.getD k 0 ≠ 0 := by have h : (l.getD k 0 == (0 : Int)) = false := hb2; simpa using h
      refine W.seq (W.reg X [] [] [21, 14, 4, 3, 0] [] rfl ⟨⟩ ?_)
      refine W.cond rfl (fun hb3 => ?_) (fun hb3 => ?_)
      · have h1 : l.getD k 0 = 1 := eq_of_beq (show (l.getD k 0 == (1 : Int)) = true from hb3)
        refine W.reg X [] [] [4, 3, 0] [] rfl ⟨small 49, ⟨⟩⟩ ?_
        refine W.reg X [] [] [4, 3, 0] [] rfl ⟨⟩ ?_
        refine ⟨k + 1, hk2, by omega, Inv.of_eq ?_⟩
        rw [wadd _ k rfl (by omega), ← step 49 (by rw [h1]; rfl)]
        try rfl
      · have h1 : l.getD k 0 ≠ 1 := by have h : (l.getD k 0 == (1 : Int)) = false := hb3; simpa using h
        refine W.reg X [] [] [4, 3, 0] [] rfl ⟨small 63, ⟨⟩⟩ ?_
        refine W.reg X [] [] [4, 3, 0] [] rfl ⟨⟩ ?_
        refine ⟨k + 1, hk2, by omega, Inv.of_eq ?_⟩
        rw [wadd _ k rfl (by omega), ← step 63 (by rw [sel, if_neg h0, if_neg h1])]
        try rfl
  · have hk2 : l.take k = l := List.take_of_length_le (by simpa using hb)
    refine W.seq (W.reg X [] [] [2] [] rfl ⟨⟩ ?_)
    refine W.ret ?_
    exact Fin.ret rfl ⟨by rw [hk2], ⟨⟩⟩
theorem c_impl_FormatSelection (l : List Int) (hl : l.length ≤ 1048576) : Sound ty Try.prog 15 [.a (.sl .int l)] [.a (.lit (.string (str8 (l.map sel))))] := by
  refine Sound.of X Try.call15 Try.func15 rfl rfl (by decide) Try.ntmps15 (by simp) ?_
  intro w0
  refine W.seq (W.reg X [] [] [0] [] rfl ⟨⟩ ?_)
  refine W.seq (W.reg X [(6, 0)] [] [3, 0] [0] rfl ⟨El_u8, ⟨⟩⟩ ?_)
  refine W.seq (W.seq (W.reg X [] [] [9, 8, 7, 3] [0] rfl ⟨⟩ ?_))
  refine W.block ?_
  refine W.loop (fun k => k ≤ l.length) (fun k : Nat => ⟨29, [(9, .one (.a (.lit (.int .i64 k)))), (8, .one (.a (.lit (.int .i64 l.length)))), (7, .one (.a (.sl .int l))), (3, .one (.a (.own 0)))], [(0, .arr .u8 ((l.take k).map sel))]⟩) (fun k => l.length - k) 0 (Nat.zero_le _) (Inv.of_eq rfl) ?_
  intro k hk
  refine W.seq (W.reg X [] [] [10, 9, 8, 7, 3] [0] rfl ⟨⟩ ?_)
  refine W.seq (W.cond rfl (fun hb => W.skip ?_) (fun hb => W.exit ?_))
  · have hk2 : k < l.length := by simpa using hb
    have hsn : (l.take (k + 1)).map sel = (l.take k).map sel ++ [sel (l.getD k 0)] := by rw [take_snoc l k 0 hk2, List.map_append]; rfl
    have ht : ((l.take k).map sel).length ≤ 1048576 := by rw [List.length_map, List.length_take]; omega
    refine W.seq (W.block (W.seq (W.reg X [] [] [5, 9, 8, 7, 3] [0] rfl ⟨by omega, ⟨⟩⟩ ?_)))
    refine W.seq (W.reg X [] [] [13, 5, 9, 8, 7, 3] [0] rfl ⟨⟩ ?_)
    refine W.block (W.seq (W.seq (W.reg X [] [] [17, 13, 5, 9, 8, 7, 3] [0] rfl ⟨⟩ ?_)))
    refine W.cond rfl (fun hb2 => ?_) (fun hb2 => ?_)
    · have h0 : l.getD k 0 = 0 := eq_of_beq (show (l.getD k 0 == (0 : Int)) = true from hb2)
      refine W.skip ?_
      refine W.cond rfl (fun _ => ?_) (fun hb3 => by rw [hb2] at hb3; cases hb3)
      refine W.reg X [(24, 3), (25, 0)] [] [9, 8, 7, 3] [0] rfl ⟨El_u8, ?_, El_u8, bound _ (Or.inl h0), ⟨⟩⟩ ?_
      · simp only [byt, maxLen, List.length_singleton]; omega
      refine W.reg X [] [] [9, 8, 7, 3] [0] rfl ⟨⟩ ?_
      refine ⟨k + 1, hk2, by omega, Inv.of_eq ?_⟩
      rw [wadd _ k rfl (by omega), hsn, ← val _ (Or.inl h0)]
      try rfl
    · have h0 : l.getD k 0 ≠ 0 := by have h : (l.getD k 0 == (0 : Int)) = false := hb2; simpa using h
      refine W.reg X [] [] [17, 5, 9, 8, 7, 3] [0] rfl ⟨⟩ ?_
      refine W.cond rfl (fun hb3 => ?_) (fun hb3 => ?_)
      · have h1 : l.getD k 0 = 1 := eq_of_beq (show (l.getD k 0 == (1 : Int)) = true from hb3)
        refine W.reg X [(24, 3), (25, 0)] [] [9, 8, 7, 3] [0] rfl ⟨El_u8, ?_, El_u8, bound _ (Or.inr h1), ⟨⟩⟩ ?_
        · simp only [byt, maxLen, List.length_singleton]; omega
        refine W.reg X [] [] [9, 8, 7, 3] [0] rfl ⟨⟩ ?_
        refine ⟨k + 1, hk2, by omega, Inv.of_eq ?_⟩
        rw [wadd _ k rfl (by omega), hsn, ← val _ (Or.inr h1)]
        try rfl
      · have h1 : l.getD k 0 ≠ 1 := by have h : (l.getD k 0 == (1 : Int)) = false := hb3; simpa using h
        refine W.reg X [(15, 3), (16, 0)] [] [9, 8, 7, 3] [0] rfl ⟨El_u8, ?_, El_u8, by decide, ⟨⟩⟩ ?_
        · simp only [byt, maxLen, List.length_singleton]; omega
        refine W.reg X [] [] [9, 8, 7, 3] [0] rfl ⟨⟩ ?_
        refine ⟨k + 1, hk2, by omega, Inv.of_eq ?_⟩
        rw [wadd _ k rfl (by omega), hsn, show sel (l.getD k 0) = UInt8.ofNat (Int.toNat 63) by rw [sel, if_neg h0, if_neg h1]; rfl]
        try rfl
  · have hk2 : l.take k = l := List.take_of_length_le (by simpa using hb)
    refine W.seq (W.reg X [] [] [2] [] rfl ⟨⟩ ?_)
    refine W.ret ?_
    exact Fin.ret rfl ⟨by rw [hk2], ⟨⟩⟩
end Go.Proofs.Ythlflnplnajjiaa.G
