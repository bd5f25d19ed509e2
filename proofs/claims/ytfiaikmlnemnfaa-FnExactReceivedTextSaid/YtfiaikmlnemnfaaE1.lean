/-
  Contracts by the symbolic machine: an archive's rounds since a round; is the archive recent.
-/
import Derived.Test.YtfiaikmlnemnfaaT1
import Derived.Test.YtfiaikmlnemnfaaG18
namespace Go.Proofs.Ytfiaikmlnemnfaa.G
open Go.RowKit L D
theorem MO : Try.prog.follows .mixedOrders = true := by kernel_rfl
theorem take_snoc {α : Type} (l : List α) (k : Nat) (d : α) (h : k < l.length) : l.take (k + 1) = l.take k ++ [l.getD k d] := by
  rw [List.take_add_one, List.getD_eq_getElem?_getD, List.getElem?_eq_getElem h]; rfl
theorem wadd (a : Int) (n : Nat) (h : a = n) (h2 : n < 9223372036854775807) : IntKind.i64.wrap (a + 1) = ((n + 1 : Nat) : Int) := by
  subst h; rw [IntWalk.i64_in _ (by omega)]; omega
/-- A scalar's contract, as the laws' walks ask for it. -/
theorem gives_of {P : Program} {ty : Tag → Nat} {f : FuncId} {xs : List S1} {v : Value} (h : Sound ty P f xs [.a (.lit v)]) {w : World} {us : List Value} (ha : All2 (Arg1 w) xs us) : Calls P f us.toArray w (Gives w v) := by
  refine (h.2 w us ha).mono ?_
  rintro e w' ⟨u, fp, rfl, hb, _, f1, f2, ⟨rfl, _⟩, _⟩
  exact ⟨rfl, hb⟩
theorem arg_agg {w : World} {l : List V} {cs : List Value} {fp : List Nat} (h : RIs w l cs fp) : Arg1 w (.agg l) (.agg cs.toArray) := ⟨cs, fp, rfl, h⟩
theorem arg_lit {w : World} {v : Value} (h : v.oneCell' = true) : Arg1 w (.a (.lit v)) v := ⟨[], rfl, h, rfl⟩

def since (first : Int) (l : List ARound) : List Int := (l.filter fun r => decide (r.round ≥ first)).map ARound.round
theorem since_snoc (first : Int) (l : List ARound) (r : ARound) : since first (l ++ [r]) = since first l ++ if r.round ≥ first then [r.round] else [] := by
  unfold since; rw [List.filter_append, List.map_append]; by_cases h : r.round ≥ first <;> simp [h]
theorem since_le (first : Int) (l : List ARound) (k : Nat) : (since first (l.take k)).length ≤ k := by
  unfold since; rw [List.length_map]
  exact Nat.le_trans (List.length_filter_le _ _) (List.length_take_le _ _)
theorem since_step (first : Int) (l : List ARound) (k : Nat) (h : k < l.length) : since first (l.take (k + 1)) = since first (l.take k) ++ if (l.getD k (dfl .ARound)).round ≥ first then [(l.getD k (dfl .ARound)).round] else [] := by
  rw [take_snoc l k (dfl .ARound) h, since_snoc]
set_option maxRecDepth 100000
theorem c_spec_RoundsSince (x : Arc) (first : Int) (hl : x.rounds.length ≤ 1048576) : Sound ty Try.prog 63 [.agg (dec_Arc x), .a (.lit (.int .i64 first))] [.a (.sl .int (since first x.rounds))] := by
  refine Sound.of X Try.call63 Try.func63 rfl rfl (by decide) Try.ntmps63 (by simp) ?_
  intro w0
  refine W.seq (W.reg X [(2, 2)] [] [2, 1] [2] rfl ⟨⟩ ?_)
  refine W.seq (W.reg X [(7, 0)] [] [2, 1, 5] [2, 0] rfl ⟨El_int, ⟨⟩⟩ ?_)
  refine W.seq (W.seq (W.reg X [] [] [6, 5, 2, 1] [2, 0] rfl ⟨⟩ ?_))
  refine W.block ?_
  refine W.loop (fun k => k ≤ x.rounds.length) (fun k : Nat => ⟨33, [(6, .one (.a (.lit (.int .i64 k)))), (5, .one (.a (.own 0))), (2, .one (.a (.ptr 2 0))), (1, .one (.a (.lit (.int .i64 first))))], [(2, .box (dec_Arc x)), (0, .arr .int (since first (x.rounds.take k)))]⟩) (fun k => x.rounds.length - k) 0 (Nat.zero_le _) (Inv.of_eq rfl) ?_
  intro k hk
  refine W.seq (W.seq (W.reg X [] [] [12, 6, 5, 2, 1] [2, 0] rfl ⟨⟩ ?_))
  refine W.cond rfl (fun hb => W.skip ?_) (fun hb => W.exit ?_)
  · have hk2 : k < x.rounds.length := by simpa using hb
    have hsn := since_step first x.rounds k hk2
    have hle := since_le first x.rounds k
    refine W.seq (W.block (W.seq (W.reg X [] [] [22, 6, 5, 2, 1] [2, 0] rfl ⟨by omega, ⟨⟩⟩ ?_)))
    refine W.cond rfl (fun hb2 => W.reg X [(30, 3), (31, 0)] [] [6, 5, 2, 1] [2, 0] rfl ⟨El_int, ?_, El_int, by omega, ⟨⟩⟩ ?_) (fun hb2 => W.skip ?_)
    · simp only [byt, maxLen, List.length_singleton]; omega
    · refine W.reg X [] [] [6, 5, 2, 1] [2, 0] rfl ⟨⟩ ?_
      refine ⟨k + 1, hk2, by omega, Inv.of_eq ?_⟩
      rw [hsn, if_pos (by simpa using hb2), wadd _ k rfl (by omega)]
      try rfl
    · refine W.reg X [] [] [6, 5, 2, 1] [2, 0] rfl ⟨⟩ ?_
      refine ⟨k + 1, hk2, by omega, Inv.of_eq ?_⟩
      rw [hsn, if_neg (by simpa using hb2), List.append_nil, wadd _ k rfl (by omega)]
      try rfl
  · have hk2 : x.rounds.take k = x.rounds := List.take_of_length_le (by simpa using hb)
    refine W.seq (W.reg X [] [] [4] [0] rfl ⟨⟩ ?_)
    refine W.ret ?_
    exact Fin.ret rfl ⟨by rw [hk2], ⟨⟩⟩
theorem c_impl_RoundsSince (x : Arc) (first : Int) (hl : x.rounds.length ≤ 1048576) : Sound ty Try.prog 64 [.agg (dec_Arc x), .a (.lit (.int .i64 first))] [.a (.sl .int (since first x.rounds))] := by
  refine Sound.of X Try.call64 Try.func64 rfl rfl (by decide) Try.ntmps64 (by simp) ?_
  intro w0
  refine W.seq (W.reg X [(2, 2)] [] [2, 1] [2] rfl ⟨⟩ ?_)
  refine W.seq (W.reg X [(8, 0)] [] [2, 1, 5] [2, 0] rfl ⟨El_int, ⟨⟩⟩ ?_)
  refine W.seq (W.seq (W.reg X [] [] [12, 11, 10, 5, 1] [0] rfl ⟨⟩ ?_))
  refine W.block ?_
  refine W.loop (fun k => k ≤ x.rounds.length) (fun k : Nat => ⟨27, [(12, .one (.a (.lit (.int .i64 k)))), (11, .one (.a (.lit (.int .i64 x.rounds.length)))), (10, .one (.a (.sl .ARound x.rounds))), (5, .one (.a (.own 0))), (1, .one (.a (.lit (.int .i64 first))))], [(0, .arr .int (since first (x.rounds.take k)))]⟩) (fun k => x.rounds.length - k) 0 (Nat.zero_le _) (Inv.of_eq rfl) ?_
  intro k hk
  refine W.seq (W.reg X [] [] [13, 12, 11, 10, 5, 1] [0] rfl ⟨⟩ ?_)
  refine W.seq (W.cond rfl (fun hb => W.skip ?_) (fun hb => W.exit ?_))
  · have hk2 : k < x.rounds.length := by simpa using hb
    have hsn := since_step first x.rounds k hk2
    have hle := since_le first x.rounds k
    refine W.seq (W.block (W.seq (W.reg X [(7, 7)] [] [7, 12, 11, 10, 5, 1] [7, 0] rfl ⟨by omega, ⟨⟩⟩ ?_)))
    refine W.seq (W.reg X [] [] [19, 7, 12, 11, 10, 5, 1] [7, 0] rfl ⟨⟩ ?_)
    refine W.cond rfl (fun hb2 => W.reg X [(23, 3), (24, 0)] [] [12, 11, 10, 5, 1] [0] rfl ⟨El_int, ?_, El_int, ⟨⟩⟩ ?_) (fun hb2 => W.skip ?_)
    · simp only [byt, maxLen, List.length_singleton]; omega
    · refine W.reg X [] [] [12, 11, 10, 5, 1] [0] rfl ⟨⟩ ?_
      refine ⟨k + 1, hk2, by omega, Inv.of_eq ?_⟩
      rw [hsn, if_pos (by simpa using hb2), wadd _ k rfl (by omega)]
      try rfl
    · refine W.reg X [] [] [12, 11, 10, 5, 1] [0] rfl ⟨⟩ ?_
      refine ⟨k + 1, hk2, by omega, Inv.of_eq ?_⟩
      rw [hsn, if_neg (by simpa using hb2), List.append_nil, wadd _ k rfl (by omega)]
      try rfl
  · have hk2 : x.rounds.take k = x.rounds := List.take_of_length_le (by simpa using hb)
    refine W.seq (W.reg X [] [] [4] [0] rfl ⟨⟩ ?_)
    refine W.ret ?_
    exact Fin.ret rfl ⟨by rw [hk2], ⟨⟩⟩
end Go.Proofs.Ytfiaikmlnemnfaa.G
