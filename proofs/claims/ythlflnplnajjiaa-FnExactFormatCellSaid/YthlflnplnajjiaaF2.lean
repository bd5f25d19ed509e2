/-
  Contracts by the symbolic machine: a cell's text.
-/
import Derived.Test.YthlflnplnajjiaaE0
import Derived.Test.YthlflnplnajjiaaJ1
namespace Go.Proofs.Ythlflnplnajjiaa.G
open Go.RowKit L D
def digits : ByteArray := ⟨#[48, 49, 50, 51, 52, 53, 54, 55, 56, 57, 97, 98, 99, 100, 101, 102]⟩
def lo1 (n : Int) : Int := n.fdiv (2 ^ (min (4 : Int).toNat IntKind.u8.bits))
def up1 (n : Int) : Int := IntKind.u8.wrap (lo1 n + 1)
def lo2 (n : Int) : Int := IntKind.u8.wrap (BitVec.ofInt IntKind.u8.bits n &&& BitVec.ofInt IntKind.u8.bits 15).toNat
def up2 (n : Int) : Int := IntKind.u8.wrap (lo2 n + 1)
theorem digs_fin : ∀ n : _root_.Fin 256, (0 ≤ lo1 (n : Nat) ∧ lo1 (n : Nat) ≤ up1 (n : Nat) ∧ up1 (n : Nat) ≤ (digits.size : Int)) ∧ (0 ≤ lo2 (n : Nat) ∧ lo2 (n : Nat) ≤ up2 (n : Nat) ∧ up2 (n : Nat) ≤ (digits.size : Int)) ∧
    (digits.extract (lo1 (n : Nat)).toNat (up1 (n : Nat)).toNat).data.toList = [Lib.Hx.digit ((n : Nat) / 16)] ∧ (digits.extract (lo2 (n : Nat)).toNat (up2 (n : Nat)).toNat).data.toList = [Lib.Hx.digit ((n : Nat) % 16)] := by
  decide +kernel
theorem str8_of {s : ByteArray} {l : List UInt8} (h : s.data.toList = l) : s = str8 l := by
  subst h; rfl
theorem digs (x : UInt8) : (0 ≤ lo1 x.toNat ∧ lo1 x.toNat ≤ up1 x.toNat ∧ up1 x.toNat ≤ (digits.size : Int)) ∧ (0 ≤ lo2 x.toNat ∧ lo2 x.toNat ≤ up2 x.toNat ∧ up2 x.toNat ≤ (digits.size : Int)) ∧
    digits.extract (lo1 x.toNat).toNat (up1 x.toNat).toNat = str8 [Lib.Hx.digit (x.toNat / 16)] ∧ digits.extract (lo2 x.toNat).toNat (up2 x.toNat).toNat = str8 [Lib.Hx.digit (x.toNat % 16)] := by
  obtain ⟨h1, h2, h3, h4⟩ := digs_fin ⟨x.toNat, x.toNat_lt⟩
  exact ⟨h1, h2, str8_of h3, str8_of h4⟩
theorem encode_snoc (l : List UInt8) (x : UInt8) : Lib.Hx.encode (l ++ [x]) = Lib.Hx.encode l ++ [Lib.Hx.digit (x.toNat / 16), Lib.Hx.digit (x.toNat % 16)] := by
  simp [Lib.Hx.encode, List.flatMap_append]
def cellText (l : List UInt8) : ByteArray := if ((l.length : Int) == 0) = true then ⟨#[45]⟩ else str8 (Lib.Hx.encode l)
theorem c_hex (l : List UInt8) (hl : l.length ≤ 1048576) (hne : l ≠ []) : Sound ty Try.prog 35 [.a (.sl .u8 l)] [.a (.lit (.string (str8 (Lib.Hx.encode l))))] := by
  refine ⟨Try.call35, ?_⟩
  rintro w us ha
  match us, ha with
  | [u], ⟨h1, _⟩ =>
    obtain ⟨fp, h1⟩ := h1
    obtain ⟨oa, cap, rfl, hc, hm, h3⟩ := (show Sl 1 EU8 w u l fp from h1)
    rcases h3 with ⟨rfl, _⟩ | ⟨b, off, fps, rfl, hb, rfl, hE⟩
    · exact absurd rfl hne
    · refine (Try.hex_EncodeToString_bytes b off cap l w (fun i hi => ?_) hb (by omega)).mono ?_
      · have hx : l[i]? = some l[i] := List.getElem?_eq_getElem hi
        obtain ⟨f, hf⟩ := fps_some hE.1 hx
        obtain ⟨cs, q1, rfl, _⟩ := hE.2 i _ f hx hf
        have := q1 0 _ rfl
        rw [Nat.add_zero, Nat.mul_one] at this
        exact this
      · rintro e w' ⟨rfl, hb'⟩
        exact ⟨_, [], rfl, hb', Own.nil _ _, ⟨[], [], ⟨rfl, rfl, rfl⟩, rfl, rfl⟩⟩
set_option maxRecDepth 100000
theorem c_impl_FormatCell (l : List UInt8) (hl : l.length ≤ 1048576) : Sound ty Try.prog 19 [.a (.sl .u8 l)] [.a (.lit (.string (cellText l)))] := by
  refine Sound.of X Try.call19 Try.func19 rfl rfl (by decide) Try.ntmps19 (by simp) ?_
  intro w0
  refine W.seq (W.reg X [] [] [0] [] rfl ⟨⟩ ?_)
  refine W.seq (W.seq (W.reg X [] [] [5, 0] [] rfl ⟨⟩ ?_))
  refine W.cond rfl (fun hb => ?_) (fun hb => W.skip ?_)
  · refine W.seq (W.reg X [] [] [2] [] rfl ⟨⟩ ?_)
    refine W.ret ?_
    exact Fin.ret rfl ⟨by rw [cellText, if_pos (show ((l.length : Int) == 0) = true from hb)], ⟨⟩⟩
  have hb0 : ((l.length : Int) == 0) = false := hb
  have hne : l ≠ [] := by rintro rfl; simp at hb0
  refine W.seq (W.reg X [] [(7, ⟨false, [.a (.lit (.string (str8 (Lib.Hx.encode l))))]⟩)] [2] [] rfl ⟨c_hex l hl hne, ⟨⟩⟩ ?_)
  refine W.ret ?_
  exact Fin.ret rfl ⟨by rw [cellText, if_neg (by rw [hb0]; decide)], ⟨⟩⟩
theorem c_spec_FormatCell (l : List UInt8) (hl : l.length ≤ 1048576) : Sound ty Try.prog 17 [.a (.sl .u8 l)] [.a (.lit (.string (cellText l)))] := by
  refine Sound.of X Try.call17 Try.func17 rfl rfl (by decide) Try.ntmps17 (by simp) ?_
  intro w0
  refine W.seq (W.reg X [] [] [0] [] rfl ⟨⟩ ?_)
  refine W.seq (W.reg X [] [] [3, 0] [] rfl ⟨⟩ ?_)
  refine W.seq (W.reg X [] [] [4, 3, 0] [] rfl ⟨⟩ ?_)
  refine W.seq (W.seq (W.reg X [] [] [5, 4, 3, 0] [] rfl ⟨⟩ ?_))
  refine W.block ?_
  refine W.loop (fun k => k ≤ l.length) (fun k : Nat => ⟨45, [(5, .one (.a (.lit (.int .i64 k)))), (4, .one (.a (.lit (.string (str8 (Lib.Hx.encode (l.take k))))))), (3, .one (.a (.lit (.string digits)))), (0, .one (.a (.sl .u8 l)))], []⟩) (fun k => l.length - k) 0 (Nat.zero_le _) (Inv.of_eq rfl) ?_
  intro k hk
  refine W.seq (W.seq (W.reg X [] [] [9, 5, 4, 3, 0] [] rfl ⟨⟩ ?_))
  refine W.cond rfl (fun hb => W.skip ?_) (fun hb => W.exit ?_)
  · have hk2 : k < l.length := by simpa using hb
    obtain ⟨d1, d2, d3, d4⟩ := digs (l.getD k 0)
    have hsn : Lib.Hx.encode (l.take (k + 1)) = Lib.Hx.encode (l.take k) ++ [Lib.Hx.digit ((l.getD k 0).toNat / 16), Lib.Hx.digit ((l.getD k 0).toNat % 16)] := by rw [take_snoc l k 0 hk2, encode_snoc]
    have ht : (Lib.Hx.encode (l.take k)).length ≤ 2097152 := by rw [Lib.Hx.encode_length, List.length_take]; omega
    have e1 : str8 (Lib.Hx.encode (l.take k)) ++ digits.extract (lo1 ((l.getD k 0).toNat : Int)).toNat (up1 ((l.getD k 0).toNat : Int)).toNat = str8 (Lib.Hx.encode (l.take k) ++ [Lib.Hx.digit ((l.getD k 0).toNat / 16)]) := by rw [d3]; exact str8_app _ _
    have e2 : (str8 (Lib.Hx.encode (l.take k)) ++ digits.extract (lo1 ((l.getD k 0).toNat : Int)).toNat (up1 ((l.getD k 0).toNat : Int)).toNat) ++ digits.extract (lo2 ((l.getD k 0).toNat : Int)).toNat (up2 ((l.getD k 0).toNat : Int)).toNat = str8 (Lib.Hx.encode (l.take (k + 1))) := by
      rw [e1, d4, hsn]; exact (str8_app _ _).trans (congrArg str8 (by simp))
    have s1 : (((str8 (Lib.Hx.encode (l.take k))).size + (digits.extract (lo1 ((l.getD k 0).toNat : Int)).toNat (up1 ((l.getD k 0).toNat : Int)).toNat).size : Nat) : Int) ≤ IntKind.i64.max := by
      rw [d3, str8_size, str8_size, max64, List.length_singleton]; omega
    have s2 : (((str8 (Lib.Hx.encode (l.take k)) ++ digits.extract (lo1 ((l.getD k 0).toNat : Int)).toNat (up1 ((l.getD k 0).toNat : Int)).toNat).size + (digits.extract (lo2 ((l.getD k 0).toNat : Int)).toNat (up2 ((l.getD k 0).toNat : Int)).toNat).size : Nat) : Int) ≤ IntKind.i64.max := by
      rw [e1, d4, str8_size, str8_size, max64, List.length_append, List.length_singleton, List.length_singleton]; omega
    refine W.seq (W.block (W.draw X [] [] [5, 4, 3, 0] [] 30 MO (by kernel_rfl) rfl ⟨s2, d2, by omega, by omega, s1, d1, by decide, by omega, by decide, by omega, ⟨⟩⟩ ?_))
    refine W.reg X [] [] [5, 4, 3, 0] [] rfl ⟨⟩ ?_
    refine ⟨k + 1, hk2, by omega, Inv.of_eq ?_⟩
    rw [wadd _ k rfl (by omega), ← e2]
    try rfl
  · have hk2 : l.take k = l := List.take_of_length_le (by simpa using hb)
    refine W.seq (W.seq (W.reg X [] [] [43, 4] [] rfl ⟨⟩ ?_))
    refine W.cond rfl (fun hb2 => ?_) (fun hb2 => W.skip ?_)
    · refine W.seq (W.reg X [] [] [2] [] rfl ⟨⟩ ?_)
      refine W.ret ?_
      exact Fin.ret rfl ⟨by rw [cellText, if_pos (show ((l.length : Int) == 0) = true from hb2)], ⟨⟩⟩
    · refine W.seq (W.reg X [] [] [2] [] rfl ⟨⟩ ?_)
      refine W.ret ?_
      exact Fin.ret rfl ⟨by rw [hk2, cellText, if_neg (by rw [show ((l.length : Int) == 0) = false from hb2]; decide)], ⟨⟩⟩
end Go.Proofs.Ythlflnplnajjiaa.G
