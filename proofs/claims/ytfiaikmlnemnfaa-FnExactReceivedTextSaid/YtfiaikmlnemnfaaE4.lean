/-
  Contracts by the symbolic machine: what a client has received, as text.
-/
import Derived.Test.YtfiaikmlnemnfaaE3
import Derived.Test.YtfiaikmlnemnfaaJ1
namespace Go.Proofs.Ytfiaikmlnemnfaa.G
open Go.RowKit L D
theorem str8_app (a b : List UInt8) : str8 a ++ str8 b = str8 (a ++ b) := by
  apply ByteArray.ext
  simp [str8]
theorem str8_list (a : List UInt8) : (str8 a).data.toList = a := rfl
theorem str8_size (a : List UInt8) : (str8 a).size = a.length := rfl
theorem map_str8 (l : List (List UInt8)) : l.map ((fun x : ByteArray => x.data.toList) ∘ str8) = l := List.map_id l
theorem join_snoc (l : List (List UInt8)) (sep y : List UInt8) (h : l ≠ []) : Lib.join (l ++ [y]) sep = Lib.join l sep ++ sep ++ y := by
  cases l with
  | nil => exact absurd rfl h
  | cons x r =>
    rw [List.cons_append, Lib.join_cons, Lib.join_cons]
    simp [Lib.joinTail, List.append_assoc]
theorem join_le (l : List (List UInt8)) (c : UInt8) : (Lib.join l [c]).length ≤ lsz List.length l := by
  cases l with
  | nil => simp [Lib.join_nil]
  | cons x r =>
    rw [Lib.join_cons, List.length_append, Lib.joinTail_length]
    simp only [lsz, List.length_cons, List.map_cons, List.sum_cons, Lib.lens, List.length_nil]
    have : (List.map (fun x => List.length x) r).sum = (List.map List.length r).sum := rfl
    omega
theorem lsz_take (l : List (List UInt8)) (k : Nat) : lsz List.length (l.take k) ≤ lsz List.length l := by
  have h1 := take_sum_le l List.length k
  unfold lsz
  have : (l.take k).length ≤ l.length := List.length_take_le' _ _
  omega
theorem c_strings_Join (l : List (List UInt8)) (c : UInt8) (h : lsz List.length l ≤ 1048576) : Sound ty Try.prog 72 [.a (.sl .str l), .a (.lit (.string (str8 [c])))] [.a (.lit (.string (str8 (Lib.join l [c]))))] := by
  refine ⟨Try.call72, ?_⟩
  rintro w us ha
  match us, ha with
  | [u, v], ⟨h1, h2, _⟩ =>
    obtain ⟨fp, h1⟩ := h1
    obtain ⟨_, rfl, _, _⟩ := h2
    obtain ⟨oa, cap, rfl, hc, hm, h3⟩ := (show Sl 1 EStr w u l fp from h1)
    have hlen := lsz_len h
    rcases h3 with ⟨rfl, _⟩ | ⟨b, off, fps, rfl, hb, rfl, hE⟩
    · refine (Try.strings_Join_none oa cap (str8 [c]) w).mono ?_
      rintro e w' ⟨rfl, rfl⟩
      exact ⟨_, [], rfl, Below.refl _ _, Own.nil _ _, ⟨[], [], ⟨rfl, rfl, rfl⟩, rfl, rfl⟩⟩
    · have := Try.strings_Join b off cap (l.map str8) (str8 [c]) w (fun j x hx => by
          rw [List.getElem?_map] at hx
          cases hy : l[j]? with
          | none => rw [hy] at hx; cases hx
          | some y =>
            rw [hy] at hx
            simp only [Option.map_some, Option.some.injEq] at hx
            subst hx
            obtain ⟨f, hf⟩ := fps_some hE.1 hy
            obtain ⟨cs, q1, rfl, _⟩ := hE.2 j y f hy hf
            have := q1 0 _ rfl
            rw [Nat.add_zero, Nat.mul_one] at this
            exact this) hb (by rw [List.length_map]; omega) (by rw [List.length_map]; exact hc) (by
          rw [List.map_map]
          rw [map_str8]
          have := join_le l c
          rw [str8_list]
          omega)
      rw [List.length_map, List.map_map] at this
      rw [map_str8] at this
      refine this.mono ?_
      rintro e w' ⟨rfl, hb'⟩
      exact ⟨_, [], rfl, hb', Own.nil _ _, ⟨[], [], ⟨rfl, rfl, rfl⟩, rfl, rfl⟩⟩
def inbox (x : Wld) (c : Int) : List (List UInt8) := (x.devices.getD c.toNat (dfl .Dev)).live.inbox
def recv (x : Wld) (c : Int) : ByteArray := if (if !hasC x c then true else ((inbox x c).length : Int) == 0) then ⟨#[45]⟩ else str8 (Lib.join (inbox x c) [124])
theorem max64 : IntKind.i64.max = 9223372036854775807 := by decide
theorem hasC_of {x : Wld} {c : Int} (hd : x.devices.length ≤ 1048576) (h : (!hasC x c) = false) : 0 ≤ c ∧ c < x.devices.length := (hasC_iff hd).1 (by simpa using h)
theorem open_if {b : Bool} {e : Bool} (h : (if b then true else e) = false) : b = false := by
  cases b with
  | false => rfl
  | true => simp at h
set_option maxRecDepth 100000
theorem c_spec_ReceivedText (x : Wld) (c : Int) (hd : x.devices.length ≤ 1048576) (hin : (0 ≤ c ∧ c < x.devices.length) → lsz List.length (inbox x c) ≤ 1048576) : Sound ty Try.prog 32 [.agg (dec_Wld x), .a (.lit (.int .i64 c))] [.a (.lit (.string (recv x c)))] := by
  refine Sound.of X Try.call32 Try.func32 rfl rfl (by decide) Try.ntmps32 (by simp) ?_
  intro w0
  refine W.seq (W.reg X [(2, 2)] [] [2, 1] [2] rfl ⟨⟩ ?_)
  refine W.seq (W.seq (W.reg X [] [(13, ⟨false, [.a (.lit (.bool (hasC x c)))]⟩)] [25, 2, 1] [2] rfl ⟨?_, c_spec_l1In _ _ _, ⟨⟩⟩ ?_))
  · intro h; exact hasC_of hd h
  refine W.cond rfl (fun hb => ?_) (fun hb => W.skip ?_)
  · refine W.seq (W.reg X [] [] [4] [] rfl ⟨⟩ ?_)
    refine W.ret ?_
    exact Fin.ret rfl ⟨by rw [recv, if_pos (show (if !hasC x c then true else ((inbox x c).length : Int) == 0) = true from hb)], ⟨⟩⟩
  have h1 := hasC_of hd (open_if hb)
  have hl := hin h1
  have hn := lsz_len hl
  have hb0 := hb
  refine W.seq (W.reg X [] [] [5, 2, 1] [2] rfl ⟨⟩ ?_)
  refine W.seq (W.reg X [] [] [6, 5] [] rfl ⟨h1, ⟨⟩⟩ ?_)
  refine W.seq (W.seq (W.reg X [] [] [7, 6, 5] [] rfl ⟨⟩ ?_))
  refine W.block ?_
  refine W.loop (fun k => k ≤ (inbox x c).length) (fun k : Nat => ⟨51, [(7, .one (.a (.lit (.int .i64 k)))), (6, .one (.a (.sl (.sl .u8) (inbox x c)))), (5, .one (.a (.lit (.string (str8 (Lib.join ((inbox x c).take k) [124]))))))], []⟩) (fun k => (inbox x c).length - k) 0 (Nat.zero_le _) (Inv.of_eq rfl) ?_
  intro k hk
  refine W.seq (W.seq (W.reg X [] [] [36, 7, 6, 5] [] rfl ⟨⟩ ?_))
  refine W.cond rfl (fun hb => W.skip ?_) (fun hb => W.exit ?_)
  · have hk2 : k < (inbox x c).length := by simpa using hb
    have hj := Nat.le_trans (join_le ((inbox x c).take k) 124) (Nat.le_trans (lsz_take _ _) hl)
    have hj2 := Nat.le_trans (join_le ((inbox x c).take (k + 1)) 124) (Nat.le_trans (lsz_take _ _) hl)
    have hsn := take_snoc (inbox x c) k [] hk2
    refine W.seq (W.block (W.seq (W.seq (W.reg X [] [] [40, 7, 6, 5] [] rfl ⟨⟩ ?_))))
    refine W.cond rfl (fun hb2 => ?_) (fun hb2 => W.skip ?_)
    · have hk0 : 0 < k := by simpa using hb2
      have hne : (inbox x c).take k ≠ [] := by
        intro h
        have := congrArg List.length h
        rw [List.length_take, List.length_nil] at this
        omega
      have e1 : str8 (Lib.join ((inbox x c).take k) [124]) ++ ⟨#[124]⟩ = str8 (Lib.join ((inbox x c).take k) [124] ++ [124]) := str8_app _ _
      have e2 : Lib.join ((inbox x c).take (k + 1)) [124] = (Lib.join ((inbox x c).take k) [124] ++ [124]) ++ (inbox x c).getD k [] := by rw [hsn, join_snoc _ _ _ hne]
      have e3 : (Lib.join ((inbox x c).take (k + 1)) [124]).length = (Lib.join ((inbox x c).take k) [124] ++ [124]).length + ((inbox x c).getD k []).length := by rw [e2, List.length_append]
      have e4 : ((inbox x c).getD (k : Int).toNat (dfl (.sl .u8))).length = ((inbox x c).getD k []).length := rfl
      have e5 : (str8 (Lib.join ((inbox x c).take k) [124]) ++ ⟨#[124]⟩) ++ str8 ((inbox x c).getD (k : Int).toNat (dfl (.sl .u8))) = str8 (Lib.join ((inbox x c).take (k + 1)) [124]) := by
        rw [e1]; exact (str8_app _ _).trans (congrArg str8 e2.symm)
      refine W.reg X [] [] [7, 6, 5] [] rfl ⟨?_, ⟨⟩⟩ ?_
      · rw [show ((⟨#[124]⟩ : ByteArray).size) = 1 from rfl, str8_size, max64]; omega
      refine W.reg X [] [] [7, 6, 5] [] rfl ⟨?_, by omega, ⟨⟩⟩ ?_
      · rw [e1, str8_size, str8_size, max64]; omega
      refine W.reg X [] [] [7, 6, 5] [] rfl ⟨⟩ ?_
      refine ⟨k + 1, hk2, by omega, Inv.of_eq ?_⟩
      rw [wadd _ k rfl (by omega), e5]
      try rfl
    · have hk0 : k = 0 := by have : ¬ 0 < k := by simpa using hb2
                             omega
      subst hk0
      have e2 : Lib.join ((inbox x c).take (0 + 1)) [124] = Lib.join ((inbox x c).take 0) [124] ++ (inbox x c).getD 0 [] := by rw [hsn, List.take_zero, List.nil_append, Lib.join_one, Lib.join_nil, List.nil_append]
      have e3 : (Lib.join ((inbox x c).take (0 + 1)) [124]).length = (Lib.join ((inbox x c).take 0) [124]).length + ((inbox x c).getD 0 []).length := by rw [e2, List.length_append]
      have e4 : ((inbox x c).getD ((0 : Nat) : Int).toNat (dfl (.sl .u8))).length = ((inbox x c).getD 0 []).length := rfl
      have e5 : str8 (Lib.join ((inbox x c).take 0) [124]) ++ str8 ((inbox x c).getD ((0 : Nat) : Int).toNat (dfl (.sl .u8))) = str8 (Lib.join ((inbox x c).take (0 + 1)) [124]) := (str8_app _ _).trans (congrArg str8 e2.symm)
      refine W.reg X [] [] [7, 6, 5] [] rfl ⟨?_, by omega, ⟨⟩⟩ ?_
      · rw [str8_size, str8_size, max64]; omega
      refine W.reg X [] [] [7, 6, 5] [] rfl ⟨⟩ ?_
      refine ⟨0 + 1, hk2, by omega, Inv.of_eq ?_⟩
      rw [wadd _ 0 rfl (by omega), e5]
      try rfl
  · have hk2 : (inbox x c).take k = inbox x c := List.take_of_length_le (by simpa using hb)
    refine W.seq (W.reg X [] [] [4] [] rfl ⟨⟩ ?_)
    refine W.ret ?_
    exact Fin.ret rfl ⟨by rw [hk2, recv, if_neg (show ¬ (if !hasC x c then true else ((inbox x c).length : Int) == 0) = true from by rw [show (if !hasC x c then true else ((inbox x c).length : Int) == 0) = false from hb0]; decide)], ⟨⟩⟩
theorem c_impl_ReceivedText (x : Wld) (c : Int) (hd : x.devices.length ≤ 1048576) (hin : (0 ≤ c ∧ c < x.devices.length) → lsz List.length (inbox x c) ≤ 1048576) : Sound ty Try.prog 33 [.agg (dec_Wld x), .a (.lit (.int .i64 c))] [.a (.lit (.string (recv x c)))] := by
  refine Sound.of X Try.call33 Try.func33 rfl rfl (by decide) Try.ntmps33 (by simp) ?_
  intro w0
  refine W.seq (W.reg X [(2, 2)] [] [2, 1] [2] rfl ⟨⟩ ?_)
  refine W.seq (W.seq (W.reg X [] [(10, ⟨false, [.a (.lit (.bool (hasC x c)))]⟩)] [22, 2, 1] [2] rfl ⟨?_, c_impl_hasClient x c, ⟨⟩⟩ ?_))
  · intro h; exact hasC_of hd h
  refine W.cond rfl (fun hb => ?_) (fun hb => W.skip ?_)
  · refine W.seq (W.reg X [] [] [4] [] rfl ⟨⟩ ?_)
    refine W.ret ?_
    exact Fin.ret rfl ⟨by rw [recv, if_pos (show (if !hasC x c then true else ((inbox x c).length : Int) == 0) = true from hb)], ⟨⟩⟩
  have h1 := hasC_of hd (open_if hb)
  have hl := hin h1
  have hn := lsz_len hl
  have hb0 := hb
  refine W.seq (W.reg X [(23, 0)] [] [5, 2, 1] [2, 0] rfl ⟨El_str, ⟨⟩⟩ ?_)
  refine W.seq (W.seq (W.reg X [] [] [32, 31, 30, 5] [0] rfl ⟨h1, ⟨⟩⟩ ?_))
  refine W.block ?_
  refine W.loop (fun k => k ≤ (inbox x c).length) (fun k : Nat => ⟨44, [(32, .one (.a (.lit (.int .i64 k)))), (31, .one (.a (.lit (.int .i64 (inbox x c).length)))), (30, .one (.a (.sl (.sl .u8) (inbox x c)))), (5, .one (.a (.own 0)))], [(0, .arr .str ((inbox x c).take k))]⟩) (fun k => (inbox x c).length - k) 0 (Nat.zero_le _) (Inv.of_eq rfl) ?_
  intro k hk
  refine W.seq (W.reg X [] [] [33, 32, 31, 30, 5] [0] rfl ⟨⟩ ?_)
  refine W.seq (W.cond rfl (fun hb => W.skip ?_) (fun hb => W.exit ?_))
  · have hk2 : k < (inbox x c).length := by simpa using hb
    have hsn := take_snoc (inbox x c) k [] hk2
    have hy : ((inbox x c).getD k []).length ≤ 1048576 := lsz_mem (f := List.length) hl (i := k) (by rw [List.getD_eq_getElem?_getD, List.getElem?_eq_getElem hk2]; rfl)
    refine W.seq (W.block (W.seq (W.reg X [] [] [7, 32, 31, 30, 5] [0] rfl ⟨by omega, ⟨⟩⟩ ?_)))
    refine W.reg X [(39, 3), (40, 0)] [] [32, 31, 30, 5] [0] rfl ⟨El_str, ?_, El_str, ?_, ⟨⟩⟩ ?_
    · have ht : ((inbox x c).take k).length ≤ 1048576 := by rw [List.length_take]; omega
      simp only [byt, maxLen, List.length_singleton]; omega
    · exact Nat.le_trans hy (by decide)
    refine W.reg X [] [] [32, 31, 30, 5] [0] rfl ⟨⟩ ?_
    refine ⟨k + 1, hk2, by omega, Inv.of_eq ?_⟩
    rw [wadd _ k rfl (by omega), hsn]
    try rfl
  · have hk2 : (inbox x c).take k = inbox x c := List.take_of_length_le (by simpa using hb)
    refine W.seq (W.reg X [] [(43, ⟨false, [.a (.lit (.string (str8 (Lib.join ((inbox x c).take k) [124]))))]⟩)] [4] [] rfl ⟨c_strings_Join _ 124 (Nat.le_trans (lsz_take _ _) hl), ⟨⟩⟩ ?_)
    refine W.ret ?_
    exact Fin.ret rfl ⟨by rw [hk2, recv, if_neg (show ¬ (if !hasC x c then true else ((inbox x c).length : Int) == 0) = true from by rw [show (if !hasC x c then true else ((inbox x c).length : Int) == 0) = false from hb0]; decide)], ⟨⟩⟩
end Go.Proofs.Ytfiaikmlnemnfaa.G
