/-
  All inboxes; rooms. No program in sight.
-/
import Derived.Test.YtfiaikmlnemnfaaZAllInboxesM8
namespace Go.Proofs.Ytfiaikmlnemnfaa.G
set_option linter.all false
open Go.RowKit L D
theorem inplace_step {α : Type} (f l : List α) (k : Nat) (d y : α) (h : k < l.length) (hf : f.length = l.length) (hy : f.getD k d = y) : f.take (k + 1) ++ l.drop (k + 1) = (f.take k ++ l.drop k).set k y := (part_set f l k d y h (by omega) hy).symm
theorem append_step {α : Type} (f : List α) (k : Nat) (d y : α) (h : k < f.length) (hy : f.getD k d = y) : f.take (k + 1) = f.take k ++ [y] := by rw [take_snoc f k d h, hy]
theorem inplace_done {α : Type} (f l : List α) (k : Nat) (hf : f.length = l.length) (h : l.length ≤ k) : f.take k ++ l.drop k = f := by
  rw [List.take_of_length_le (by omega), List.drop_eq_nil_of_le h, List.append_nil]
theorem mapRange_get {β : Type} (n : Nat) (g : Nat → β) (k : Nat) (d : β) (h : k < n) : ((List.range n).map g).getD k d = g k := by
  rw [List.getD_eq_getElem?_getD, List.getElem?_map, List.getElem?_range h]; rfl
def encr (s : Int) (l : List UInt8) : List UInt8 := (List.range l.length).map fun i : Nat => b8 ((l.getD i (dfl .u8)).toNat + kh s [(i : Int)] % 256)
theorem encr_len (s : Int) (l : List UInt8) : (encr s l).length = l.length := by simp [encr]
theorem encr_get (s : Int) (l : List UInt8) (k : Nat) (h : k < l.length) : (encr s l).getD k (dfl .u8) = b8 ((l.getD k (dfl .u8)).toNat + kh s [(k : Int)] % 256) := mapRange_get _ _ k _ h
theorem encr_impl (s : Int) (l : List UInt8) (k : Nat) (h : k < l.length) : (encr s l).take (k + 1) ++ l.drop (k + 1) = ((encr s l).take k ++ l.drop k).set k (UInt8.ofNat (IntKind.u8.wrap ((((encr s l).take k ++ l.drop k).getD k (dfl .u8)).toNat + IntKind.u8.wrap ((kh s [(k : Int)]).tmod 256))).toNat) := by
  refine inplace_step _ _ k (dfl .u8) _ h (encr_len s l) ?_
  rw [encr_get s l k h, part_get _ _ _ _ (by rw [encr_len]; omega)]
  refine b8_congr ?_
  have := kh_range s [(k : Int)]
  rw [u8w_eq ((kh s [(k : Int)]).tmod 256), tmod_pos this.1]
  omega
theorem encr_spec (s : Int) (l : List UInt8) (k : Nat) (h : k < l.length) : (encr s l).take (k + 1) = (encr s l).take k ++ [UInt8.ofNat (IntKind.u8.wrap ((IntKind.i64.wrap (IntKind.i64.wrap ((l.getD k (dfl .u8)).toNat : Int) + (kh s [(k : Int)]).tmod 256)).tmod 256)).toNat] := by
  refine append_step _ k (dfl .u8) _ (by rw [encr_len]; exact h) ?_
  rw [encr_get s l k h]
  refine b8_congr ?_
  have := kh_range s [(k : Int)]
  have hx := (l.getD k (dfl .u8)).toNat_lt
  rw [tmod_pos this.1, i64w (a := ((l.getD k (dfl .u8)).toNat : Int)) (by omega), i64w (by omega), tmod_pos (by omega)]
  omega
def decr (s : Int) (l : List UInt8) : List UInt8 := (List.range l.length).map fun i : Nat => b8 ((l.getD i (dfl .u8)).toNat - kh s [(i : Int)] % 256)
theorem decr_len (s : Int) (l : List UInt8) : (decr s l).length = l.length := by simp [decr]
theorem decr_get (s : Int) (l : List UInt8) (k : Nat) (h : k < l.length) : (decr s l).getD k (dfl .u8) = b8 ((l.getD k (dfl .u8)).toNat - kh s [(k : Int)] % 256) := mapRange_get _ _ k _ h
theorem decr_impl (s : Int) (l : List UInt8) (k : Nat) (h : k < l.length) : (decr s l).take (k + 1) ++ l.drop (k + 1) = ((decr s l).take k ++ l.drop k).set k (UInt8.ofNat (IntKind.u8.wrap ((((decr s l).take k ++ l.drop k).getD k (dfl .u8)).toNat - IntKind.u8.wrap ((kh s [(k : Int)]).tmod 256))).toNat) := by
  refine inplace_step _ _ k (dfl .u8) _ h (decr_len s l) ?_
  rw [decr_get s l k h, part_get _ _ _ _ (by rw [decr_len]; omega)]
  refine b8_congr ?_
  have := kh_range s [(k : Int)]
  rw [u8w_eq ((kh s [(k : Int)]).tmod 256), tmod_pos this.1]
  omega
theorem decr_spec (s : Int) (l : List UInt8) (k : Nat) (h : k < l.length) : (decr s l).take (k + 1) = (decr s l).take k ++ [UInt8.ofNat (IntKind.u8.wrap ((IntKind.i64.wrap (IntKind.i64.wrap ((l.getD k (dfl .u8)).toNat : Int) - (kh s [(k : Int)]).tmod 256)) % 256)).toNat] := by
  refine append_step _ k (dfl .u8) _ (by rw [decr_len]; exact h) ?_
  rw [decr_get s l k h]
  refine b8_congr ?_
  have := kh_range s [(k : Int)]
  have hx := (l.getD k (dfl .u8)).toNat_lt
  rw [tmod_pos this.1, i64w (a := ((l.getD k (dfl .u8)).toNat : Int)) (by omega), i64w (by omega)]
  omega
theorem xorb_get (a b : List UInt8) (k : Nat) (h : k < max a.length b.length) : (xorb a b).getD k (dfl .u8) = a.getD k 0 ^^^ b.getD k 0 := by
  have h1 := xorb_take a b k h
  have h2 := take_snoc (xorb a b) k (dfl .u8) (by rw [xorb_length]; exact h)
  rw [h1] at h2
  have := List.append_inj_right h2 rfl
  simp only [List.cons.injEq, and_true] at this
  rw [← this]; rfl
theorem u8_zero_xor (x : UInt8) : (0 : UInt8) ^^^ x = x := by simp
theorem xor_impl (p q : List UInt8) (k : Nat) (h : k < q.length) (hl : q.length ≤ p.length) : (xorb p q).take (k + 1) ++ p.drop (k + 1) = ((xorb p q).take k ++ p.drop k).set k (UInt8.ofNat (IntKind.u8.wrap ((BitVec.ofInt IntKind.u8.bits ((((xorb p q).take k ++ p.drop k).getD k (dfl .u8)).toNat : Int) ^^^ BitVec.ofInt IntKind.u8.bits ((q.getD k (dfl .u8)).toNat : Int)).toNat : Int)).toNat) := by
  refine inplace_step _ _ k (dfl .u8) _ (by omega) (by rw [xorb_length]; omega) ?_
  rw [xorb_get p q k (by omega), part_get _ _ _ _ (by rw [xorb_length]; omega), xor8]
  rfl
theorem xor_done (p q : List UInt8) (k : Nat) (h : q.length ≤ k) (hl : q.length ≤ p.length) (hk : k ≤ q.length) : (xorb p q).take k ++ p.drop k = xorb p q := by
  have hk : k = q.length := by omega
  subst hk
  have key : ∀ p q : List UInt8, q.length ≤ p.length → (xorb p q).take q.length ++ p.drop q.length = xorb p q := by
    intro p
    induction p with
    | nil => intro q h; cases q with | nil => rfl | cons _ _ => simp at h
    | cons x p ih => intro q h; cases q with
      | nil => rw [xorb_nil_right]; rfl
      | cons y q => simp only [xorb, List.length_cons, List.take_succ_cons, List.drop_succ_cons, List.cons_append]; rw [ih q (by simpa using h)]
  exact key p q hl
theorem xor_ab (a b : List UInt8) (k : Nat) (ha : k < a.length) (hb : k < b.length) : (xorb a b).take (k + 1) = (xorb a b).take k ++ [UInt8.ofNat (IntKind.u8.wrap ((BitVec.ofInt IntKind.u8.bits ((a.getD k (dfl .u8)).toNat : Int) ^^^ BitVec.ofInt IntKind.u8.bits ((b.getD k (dfl .u8)).toNat : Int)).toNat : Int)).toNat] := by
  rw [xorb_take a b k (by omega), xor8]; rfl
theorem getD_out {α : Type} (l : List α) (k : Nat) (d : α) (h : l.length ≤ k) : l.getD k d = d := by
  rw [List.getD_eq_getElem?_getD, List.getElem?_eq_none h]; rfl
theorem xor_a (a b : List UInt8) (k : Nat) (ha : k < a.length) (hb : b.length ≤ k) : (xorb a b).take (k + 1) = (xorb a b).take k ++ [UInt8.ofNat (((a.getD k (dfl .u8)).toNat : Int)).toNat] := by
  rw [xorb_take a b k (by omega), u8_back]
  have : at0 b k = 0 := getD_out b k 0 hb
  rw [this]; simp; rfl
theorem xor_b (a b : List UInt8) (k : Nat) (ha : a.length ≤ k) (hb : k < b.length) : (xorb a b).take (k + 1) = (xorb a b).take k ++ [UInt8.ofNat (IntKind.u8.wrap ((BitVec.ofInt IntKind.u8.bits (0 : Int) ^^^ BitVec.ofInt IntKind.u8.bits ((b.getD k (dfl .u8)).toNat : Int)).toNat : Int)).toNat] := by
  rw [xorb_take a b k (by omega)]
  have : at0 a k = 0 := getD_out a k 0 ha
  rw [this]
  have := xor8 0 (b.getD k (dfl .u8))
  rw [show ((0 : UInt8).toNat : Int) = 0 from rfl] at this
  rw [this]; rfl
theorem lsz_el {l : List (List UInt8)} (h : lsz List.length l ≤ 1048576) (k : Nat) (hk : k < l.length) : (l.getD k (dfl (.sl .u8))).length ≤ 1048576 := lsz_mem h (getD_some' l k _ hk)
def mrow (key round dir rows : Int) : Int := if (1 ≤ rows ∧ rows ≤ 64) ∧ 0 ≤ round ∧ round ≤ 1000000000000 then cs (kh key [79, round, dir]) 0 % rows else -1
def crow (seed round rows : Int) : Int := if 1 ≤ rows ∧ rows ≤ 64 then cs (kh seed [157, round]) 0 % rows else -1
def ccheck (key counter : Int) (data : List UInt8) : Int := kh key ([71, counter] ++ data.map fun c => (c.toNat : Int))
theorem cc_step (l : List UInt8) (counter : Int) (k : Nat) (h : k < l.length) : [71, counter] ++ (l.take (k + 1)).map (fun c => (c.toNat : Int)) = ([71, counter] ++ (l.take k).map (fun c => (c.toNat : Int))) ++ [IntKind.i64.wrap ((l.getD k (dfl .u8)).toNat : Int)] := by
  have := (l.getD k (dfl .u8)).toNat_lt
  rw [i64w (by omega), map_snoc (fun c : UInt8 => (c.toNat : Int)) l k (dfl .u8) h, List.append_assoc]
theorem cc_range (k c : Int) (l : List UInt8) : 0 ≤ ccheck k c l ∧ ccheck k c l < 2147483647 := kh_range _ _
/-- The four bytes of a check value. -/
def four (n : Int) : List UInt8 := [b8 n, b8 (n / 256), b8 (n / 65536), b8 (n / 16777216)]
theorem four_eq (n : Int) : [UInt8.ofNat (IntKind.u8.wrap n).toNat, UInt8.ofNat (IntKind.u8.wrap (n.fdiv (2 ^ (min (Int.toNat 8) IntKind.i64.bits)))).toNat, UInt8.ofNat (IntKind.u8.wrap (n.fdiv (2 ^ (min (Int.toNat 16) IntKind.i64.bits)))).toNat, UInt8.ofNat (IntKind.u8.wrap (n.fdiv (2 ^ (min (Int.toNat 24) IntKind.i64.bits)))).toNat] = four n := by
  have e1 : (2 : Int) ^ (min (Int.toNat 8) IntKind.i64.bits) = 256 := by decide
  have e2 : (2 : Int) ^ (min (Int.toNat 16) IntKind.i64.bits) = 65536 := by decide
  have e3 : (2 : Int) ^ (min (Int.toNat 24) IntKind.i64.bits) = 16777216 := by decide
  rw [e1, e2, e3, Int.fdiv_eq_ediv_of_nonneg _ (by decide), Int.fdiv_eq_ediv_of_nonneg _ (by decide), Int.fdiv_eq_ediv_of_nonneg _ (by decide)]
  rfl
def okPlain (p : Plain) : Bool := (inr p.kind 0 3) && decide ((p.body.length : Int) ≤ 14)
def okKey (k : Int) : Bool := inr k 1 2147483646
def sealOK (key counter : Int) (p : Plain) : Bool := okKey key && (inr counter 0 1000000000000) && okPlain p
def padded (key counter : Int) (p : Plain) : List UInt8 := [b8 p.kind, b8 p.body.length] ++ p.body ++ (stream (kh key [61, counter]) 18).drop p.body.length
def ckey (key counter : Int) : Int := or1 (kh key [67, counter])
def sealC (key counter : Int) (p : Plain) : List UInt8 := if sealOK key counter p then encr (ckey key counter) (padded key counter p) ++ four (ccheck key counter (encr (ckey key counter) (padded key counter p))) else []
def dkey (key dir : Int) : Int := or1 (kh key [83, dir])
def cover (seed : Int) : List UInt8 := stream (kh seed [73]) 24
end Go.Proofs.Ytfiaikmlnemnfaa.G
namespace Go.Proofs.Ytfiaikmlnemnfaa.G
set_option linter.all false
open Go.RowKit L D
theorem ite_tt (b c : Bool) : (if b = true then true else c) = (b || c) := by cases b <;> rfl
theorem ite_ff (b c : Bool) : (if b = true then c else false) = (b && c) := by cases b <;> rfl
theorem not_dlt (a b : Int) : (!decide (a < b)) = decide (b ≤ a) := by rw [← decide_not]; congr 1; exact propext Int.not_lt
theorem not_dle (a b : Int) : (!decide (a ≤ b)) = decide (b < a) := by rw [← decide_not]; congr 1; exact propext Int.not_le
theorem bne_not (a b : Int) : (a != b) = !(a == b) := rfl
theorem deq (a b : Int) : decide (a = b) = (a == b) := rfl
theorem or_no {E R S : Bool} (h : E = true) (he : E = !R) : (R && S) = false := by
  rw [h] at he
  cases R with
  | false => rfl
  | true => exact absurd he (by decide)
theorem or_no1 {E R : Bool} (h : E = true) (he : E = !R) : R = false := by
  rw [h] at he
  cases R with
  | false => rfl
  | true => exact absurd he (by decide)
theorem or_yes {E R : Bool} (h : E = false) (he : E = !R) : R = true := by
  rw [h] at he
  cases R with
  | true => rfl
  | false => exact absurd he (by decide)
def okDB (d : DB) : Bool := decide ((d.rows.length : Int) ≤ 64) && d.rows.all fun r => decide ((r.length : Int) = 24)
def okRec (rows : Int) (l : List RShare) (i : Nat) : Bool := inr (l.getD i (dfl .RShare)).client 0 7 && !(decide ((0 : Int) < i) && decide ((l.getD i (dfl .RShare)).client ≤ (l.getD (i - 1) (dfl .RShare)).client)) && okDB (l.getD i (dfl .RShare)).share && (((l.getD i (dfl .RShare)).share.rows.length : Int) == rows)
def hdSrv (s : Srv) : Bool := inr s.id 0 3 && inr s.rows 1 64 && inr s.behavior 0 3 && inr s.round 0 100000 && decide ((s.received.length : Int) ≤ 8)
def okSrv (s : Srv) : Bool := hdSrv s && (List.range s.received.length).all (okRec s.rows s.received)
def okAr (rows : Int) (l : List ARound) (i : Nat) : Bool := inr (l.getD i (dfl .ARound)).round 0 100000 && !(decide ((0 : Int) < i) && decide ((l.getD i (dfl .ARound)).round ≤ (l.getD (i - 1) (dfl .ARound)).round)) && okDB (l.getD i (dfl .ARound)).db && (((l.getD i (dfl .ARound)).db.rows.length : Int) == rows)
def hdArc (a : Arc) : Bool := inr a.rows 1 64 && decide ((a.rounds.length : Int) ≤ 8)
def okArc (a : Arc) : Bool := hdArc a && (List.range a.rounds.length).all (okAr a.rows a.rounds)
def lastR (a : Arc) : Int := if a.rounds.length = 0 then -1 else (a.rounds.getD (a.rounds.length - 1) (dfl .ARound)).round
def long (b : List UInt8) : Bool := decide ((14 : Int) < b.length)
def okCli (c : Cli) : Bool := inr c.id 0 7 && inr c.friend 0 7 && !(c.id == c.friend) && okKey c.key && decide ((c.submitted.length : Int) ≤ 16) && decide ((c.inbox.length : Int) ≤ 16) && !c.submitted.any long && !c.inbox.any long && inr c.sent 0 c.submitted.length && inr c.next 0 100000
def sameOwn (a b : Cli) : Bool := (a.id == b.id) && (a.friend == b.friend) && (a.key == b.key) && (a.seed == b.seed) && (a.submitted == b.submitted)
def preL (a b : List (List UInt8)) : Bool := decide ((a.length : Int) ≤ b.length) && (a == b.take a.length)
def okDev (d : Dev) : Bool := okCli d.live && okCli d.saved && sameOwn d.live d.saved && decide (d.saved.sent ≤ d.live.sent) && decide (d.saved.next ≤ d.live.next) && preL d.saved.inbox d.live.inbox
def srvCnt (n : Int) : Bool := inr n 2 4
def okS (x : Wld) (i : Nat) : Bool := okSrv (x.servers.getD i (dfl .Srv)) && ((x.servers.getD i (dfl .Srv)).id == (i : Int)) && ((x.servers.getD i (dfl .Srv)).rows == x.rows) && ((x.servers.getD i (dfl .Srv)).round == x.round) && decide (((x.servers.getD i (dfl .Srv)).received.length : Int) ≤ 0)
def okD (x : Wld) (i : Nat) : Bool := okDev (x.devices.getD i (dfl .Dev)) && ((x.devices.getD i (dfl .Dev)).live.id == (i : Int)) && ((x.devices.getD i (dfl .Dev)).live.friend == ((i ^^^ 1 : Nat) : Int)) && ((x.devices.getD i (dfl .Dev)).live.key == (x.devices.getD (i ^^^ 1) (dfl .Dev)).live.key) && decide ((x.devices.getD i (dfl .Dev)).live.next ≤ x.round)
def hdW (x : Wld) : Bool := inr x.rows 1 64 && srvCnt x.servers.length && inr x.devices.length 2 8 && ((x.devices.length : Int).tmod 2 == 0) && okArc x.archive && (x.archive.rows == x.rows) && decide (lastR x.archive < x.round) && okKey x.master && inr x.round 0 100000 && decide (0 ≤ x.cancelled)
def okW (x : Wld) : Bool := hdW x && (List.range x.servers.length).all (okS x) && (List.range x.devices.length).all (okD x)
theorem range_all {p : Nat → Bool} {k : Nat} (h : (List.range k).all p = true) (hk : p k = true) : (List.range (k + 1)).all p = true := by
  rw [List.range_succ, List.all_append, h]; simp [hk]
theorem range_no {p : Nat → Bool} {k n : Nat} (h : k < n) (hk : p k = false) : (List.range n).all p = false := by
  rw [List.all_eq_false]
  exact ⟨k, List.mem_range.2 h, by rw [hk]; decide⟩
/-- The place of the first element that p takes; -1 if there is none. -/
def fidx {α : Type} (p : α → Bool) (l : List α) : Int := if l.any p then (l.findIdx p : Int) else -1
theorem fidx_hit {α : Type} {p : α → Bool} {l : List α} {k : Nat} (d : α) (h : k < l.length) (h1 : (l.take k).any p = false) (h2 : p (l.getD k d) = true) : fidx p l = k := by
  have ha : l.any p = true := any_yes l p d k h h2
  have e : l = l.take k ++ l.getD k d :: l.drop (k + 1) := by rw [← getD_drop l k d h, List.take_append_drop]
  unfold fidx
  rw [if_pos ha]
  have hf : l.findIdx p = k := by
    rw [List.findIdx_eq h]
    refine ⟨?_, fun j hj => ?_⟩
    · rw [List.getD_eq_getElem?_getD, List.getElem?_eq_getElem h] at h2; exact h2
    · rw [List.any_eq_false] at h1
      have := h1 l[j] (by rw [List.mem_take_iff_getElem]; exact ⟨j, by omega, rfl⟩)
      simpa using this
  rw [hf]
theorem fidx_miss {α : Type} {p : α → Bool} {l : List α} (h : l.any p = false) : fidx p l = -1 := by unfold fidx; rw [if_neg (by rw [h]; decide)]
theorem fidx_ge {α : Type} (p : α → Bool) (l : List α) : decide (fidx p l ≥ 0) = l.any p := by
  unfold fidx
  cases h : l.any p
  · rw [if_neg (by decide)]; rfl
  · rw [if_pos rfl]; simp
theorem any_no {α : Type} {p : α → Bool} {l : List α} {k : Nat} (d : α) (h : k < l.length) (h1 : (l.take k).any p = false) (h2 : p (l.getD k d) = false) : (l.take (k + 1)).any p = false := by
  rw [any_snoc p l k d h, h1, h2]; rfl
theorem xor1n (k : Nat) (h : k < 1048576) : IntKind.i64.wrap (BitVec.ofInt IntKind.i64.bits (k : Int) ^^^ BitVec.ofInt IntKind.i64.bits 1).toNat = ((k ^^^ 1 : Nat) : Int) := by
  have h2 : (BitVec.ofInt IntKind.i64.bits (k : Int) ^^^ BitVec.ofInt IntKind.i64.bits 1).toNat = k ^^^ 1 := by
    rw [BitVec.toNat_xor]
    have h1 : (BitVec.ofInt IntKind.i64.bits 1).toNat = 1 := by decide
    have h2 : (BitVec.ofInt IntKind.i64.bits (k : Int)).toNat = k % 2 ^ 64 := by rw [BitVec.ofInt_natCast, BitVec.toNat_ofNat]; rfl
    rw [h1, h2, Nat.mod_eq_of_lt (by omega)]
  have hx := Nat.xor_lt_two_pow (n := 20) (show k < 2 ^ 20 by omega) (show 1 < 2 ^ 20 by decide)
  rw [h2, i64w (by omega)]
theorem any_not_all {α : Type} (l : List α) (p : α → Bool) : l.all p = !(l.any fun b => !p b) := by
  induction l with
  | nil => rfl
  | cons a r ih => simp [ih]
end Go.Proofs.Ytfiaikmlnemnfaa.G
namespace Go.Proofs.Ytfiaikmlnemnfaa.G
set_option linter.all false
open Go.RowKit L D
theorem xor_lt (k n : Nat) (h : k < n) (he : n % 2 = 0) : k ^^^ 1 < n := by
  have h1 : (k ^^^ 1) / 2 = k / 2 := by
    have := Nat.xor_div_two (a := k) (b := 1)
    simpa using this
  have h2 : k ^^^ 1 < 2 * (k / 2) + 2 := by
    have := Nat.div_add_mod (k ^^^ 1) 2
    have := Nat.mod_lt (k ^^^ 1) (show 0 < 2 by decide)
    omega
  omega
theorem xorN (k : Nat) (h : k < 2 ^ 62) : IntKind.i64.wrap (BitVec.ofInt IntKind.i64.bits (k : Int) ^^^ BitVec.ofInt IntKind.i64.bits 1).toNat = ((k ^^^ 1 : Nat) : Int) := by
  have h2 : (BitVec.ofInt IntKind.i64.bits (k : Int) ^^^ BitVec.ofInt IntKind.i64.bits 1).toNat = k ^^^ 1 := by
    rw [BitVec.toNat_xor]
    have h1 : (BitVec.ofInt IntKind.i64.bits 1).toNat = 1 := by decide
    have h2 : (BitVec.ofInt IntKind.i64.bits (k : Int)).toNat = k % 2 ^ 64 := by rw [BitVec.ofInt_natCast, BitVec.toNat_ofNat]; rfl
    rw [h1, h2, Nat.mod_eq_of_lt (by omega)]
  have hx := Nat.xor_lt_two_pow (n := 62) h (show 1 < 2 ^ 62 by decide)
  rw [h2, i64w (by omega)]
theorem hdW_dev {x : Wld} (h : hdW x = true) : x.devices.length % 2 = 0 ∧ x.devices.length ≤ 8 ∧ 2 ≤ x.devices.length := by
  simp only [hdW, inr_t, Bool.and_eq_true, beq_iff_eq] at h
  have h1 := h.1.1.1.1.1.1.2
  have h2 := h.1.1.1.1.1.1.1.2
  rw [tmod_pos (by omega)] at h1
  omega
theorem okW_hd {x : Wld} (h : okW x = true) : hdW x = true := by simp only [okW, Bool.and_eq_true] at h; exact h.1.1
theorem okW_srv {x : Wld} (h : okW x = true) : x.servers.length ≤ 4 ∧ 2 ≤ x.servers.length := by
  have := okW_hd h
  simp only [hdW, srvCnt, inr_t, Bool.and_eq_true, beq_iff_eq] at this
  have h1 := this.1.1.1.1.1.1.1.1.2
  omega
def svW (x : Wld) : Bool := (List.range x.servers.length).all (okS x) && srvCnt x.servers.length
def dvW (x : Wld) : Bool := ((x.devices.length : Int).tmod 2 == 0) && inr x.devices.length 2 8 && (List.range x.devices.length).all (okD x)
def hasC (x : Wld) (c : Int) : Bool := inr c 0 (x.devices.length - 1)
def pairOK (x : Wld) (c : Int) : Bool := hasC x c && decide (((c.toNat ^^^ 1 : Nat) : Int) < x.devices.length)
def dirn (c : Cli) : Int := if c.id < c.friend then 0 else 1
def mcell (c : Cli) (at' : Int) : List UInt8 := sealC (dkey c.key (dirn c)) at' ⟨1, c.submitted.getD at'.toNat (dfl (.sl .u8))⟩
def cwOK (c : Cli) (r n : Int) : Bool := okCli c && inr r 0 100000 && inr n 1 64
def cwRow (c : Cli) (r n : Int) : Int := if cwOK c r n = true then (if c.sent < c.submitted.length then mrow c.key r (dirn c) n else crow c.seed r n) else 0
def cwCell (c : Cli) (r n : Int) : List UInt8 := if cwOK c r n = true then (if c.sent < c.submitted.length then mcell c c.sent else cover (kh c.seed [r])) else []
theorem cwOK_sent {c : Cli} {r n : Int} (h : cwOK c r n = true) : 0 ≤ c.sent ∧ c.sent ≤ c.submitted.length := by
  simp only [cwOK, okCli, inr_t, Bool.and_eq_true] at h
  exact h.1.1.1.2
theorem sealOK_body {k c : Int} {p : Plain} (h : sealOK k c p = true) : p.body.length ≤ 14 := by
  simp only [sealOK, okPlain, Bool.and_eq_true, decide_eq_true_eq] at h
  omega
def rowOK (d : DB) (i : Int) : Bool := inr i 0 (d.rows.length - 1)
def rowAt (d : DB) (i : Int) : List UInt8 := if rowOK d i = true then d.rows.getD i.toNat (dfl (.sl .u8)) else []
def rstep (x : Wld) (c f : Cli) (n : Nat) (r : ARound) : Nat :=
  if r.round < f.next ∨ c.submitted.length ≤ n then n else
  if (rowOK r.db (mrow c.key r.round (dirn c) x.rows) && (rowAt r.db (mrow c.key r.round (dirn c) x.rows) == mcell c n)) = true then n + 1 else n
def rcount (x : Wld) (c f : Cli) (l : List ARound) : Nat := l.foldl (rstep x c f) f.inbox.length
theorem rcount_stay (x : Wld) (c f : Cli) : ∀ (l : List ARound) (n : Nat), c.submitted.length ≤ n → l.foldl (rstep x c f) n = n
  | [], _, _ => rfl
  | r :: l, n, h => by
    rw [List.foldl_cons, show rstep x c f n r = n from if_pos (Or.inr h)]
    exact rcount_stay x c f l n h
theorem rcount_le (x : Wld) (c f : Cli) (l : List ARound) (k : Nat) : rcount x c f (l.take k) ≤ f.inbox.length + k := by
  have g : ∀ (l : List ARound) (n : Nat), l.foldl (rstep x c f) n ≤ n + l.length := by
    intro l
    induction l with
    | nil => intro n; exact Nat.le_refl _
    | cons r l ih =>
      intro n
      have h1 : rstep x c f n r ≤ n + 1 := by unfold rstep; split; omega; split <;> omega
      have := ih (rstep x c f n r)
      rw [List.foldl_cons, List.length_cons]; omega
  have := g (l.take k) f.inbox.length
  have := take_le_len l k
  unfold rcount; omega
theorem rcount_step (x : Wld) (c f : Cli) (l : List ARound) (k : Nat) (h : k < l.length) : rcount x c f (l.take (k + 1)) = rstep x c f (rcount x c f (l.take k)) (l.getD k (dfl .ARound)) := foldl_snoc _ _ l k _ h
theorem rcount_done (x : Wld) (c f : Cli) (l : List ARound) (k : Nat) (h : c.submitted.length ≤ rcount x c f (l.take k)) : rcount x c f l = rcount x c f (l.take k) := by
  have e : l = l.take k ++ l.drop k := (List.take_append_drop k l).symm
  conv => lhs; rw [e]
  unfold rcount at h ⊢
  rw [List.foldl_append, rcount_stay x c f _ _ h]
def sentRecv (x : Wld) (i : Int) : Bool := if pairOK x i = true then decide ((x.devices.getD i.toNat (dfl .Dev)).live.sent ≤ (rcount x (x.devices.getD i.toNat (dfl .Dev)).live (x.devices.getD (i.toNat ^^^ 1) (dfl .Dev)).live x.archive.rounds : Int)) else false
theorem pair_impl {x : Wld} {c : Int} (hd : x.devices.length ≤ 1048576) : (hasC x c && hasC x (IntKind.i64.wrap (BitVec.ofInt IntKind.i64.bits c ^^^ BitVec.ofInt IntKind.i64.bits 1).toNat)) = pairOK x c := by
  by_cases hc : hasC x c = true
  · have hc2 : 0 ≤ c ∧ c < x.devices.length := by simp only [hasC, inr_t] at hc; omega
    obtain ⟨n, rfl⟩ := Int.eq_ofNat_of_zero_le hc2.1
    rw [xorN n (by omega), pairOK, hc]
    simp only [Bool.true_and, hasC, Int.toNat_natCast]
    rw [Bool.eq_iff_iff, inr_t, decide_eq_true_eq]
    omega
  · rw [Bool.not_eq_true] at hc
    rw [pairOK, hc]; rfl
theorem pair_spec {x : Wld} {c : Int} (hd : x.devices.length ≤ 1048576) : (inr c 0 (x.devices.length - 1) && decide (IntKind.i64.wrap (BitVec.ofInt IntKind.i64.bits c ^^^ BitVec.ofInt IntKind.i64.bits 1).toNat < (x.devices.length : Int))) = pairOK x c := by
  by_cases hc : hasC x c = true
  · have hc2 : 0 ≤ c ∧ c < x.devices.length := by simp only [hasC, inr_t] at hc; omega
    obtain ⟨n, rfl⟩ := Int.eq_ofNat_of_zero_le hc2.1
    rw [xorN n (by omega)]; rfl
  · rw [Bool.not_eq_true] at hc
    rw [pairOK, hc, show inr c 0 (x.devices.length - 1) = false from hc]; rfl
theorem pair_lt {x : Wld} {i : Int} (h : pairOK x i = true) : 0 ≤ i ∧ i.toNat < x.devices.length ∧ i.toNat ^^^ 1 < x.devices.length ∧ i = (i.toNat : Int) := by
  simp only [pairOK, hasC, inr_t, Bool.and_eq_true, decide_eq_true_eq] at h
  omega
end Go.Proofs.Ytfiaikmlnemnfaa.G
namespace Go.Proofs.Ytfiaikmlnemnfaa.G
set_option linter.all false
open Go.RowKit L D
theorem lsz_ar {x : Wld} (h : size_Wld x ≤ 1048576) (k : Nat) (hk : k < x.archive.rounds.length) : lsz List.length (x.archive.rounds.getD k (dfl .ARound)).db.rows ≤ 1048576 := by
  have h2 : size_Arc x.archive ≤ 1048576 := by unfold size_Wld at h; omega
  unfold size_Arc at h2
  have h3 := lsz_mem h2 (getD_some' _ k (dfl .ARound) hk)
  unfold size_ARound size_DB at h3
  exact h3
theorem lsz_cli {x : Wld} (h : size_Wld x ≤ 1048576) {k : Nat} (hk : k < x.devices.length) : size_Dev (x.devices.getD k (dfl .Dev)) ≤ 1048576 := by
  have h2 : lsz size_Dev x.devices ≤ 1048576 := by unfold size_Wld at h; omega
  exact lsz_mem h2 (getD_some' _ k (dfl .Dev) hk)
theorem live_le {d : Dev} (h : size_Dev d ≤ 1048576) : lsz List.length d.live.submitted ≤ 1048576 ∧ lsz List.length d.live.inbox ≤ 1048576 ∧ lsz List.length d.saved.submitted ≤ 1048576 ∧ lsz List.length d.saved.inbox ≤ 1048576 := by
  unfold size_Dev size_Cli at h
  omega
theorem inbox_le {x : Wld} (h : size_Wld x ≤ 1048576) {k : Nat} (hk : k < x.devices.length) : (x.devices.getD k (dfl .Dev)).live.inbox.length ≤ 1048576 := lsz_len (live_le (lsz_cli h hk)).2.1
theorem rstep_skip {x : Wld} {c f : Cli} {n : Nat} {r : ARound} (h : r.round < f.next ∨ c.submitted.length ≤ n) : rstep x c f n r = n := if_pos h
theorem rstep_hit {x : Wld} {c f : Cli} {n : Nat} {r : ARound} (h : ¬ (r.round < f.next ∨ c.submitted.length ≤ n)) (h2 : (rowOK r.db (mrow c.key r.round (dirn c) x.rows) && (rowAt r.db (mrow c.key r.round (dirn c) x.rows) == mcell c n)) = true) : rstep x c f n r = n + 1 := by
  unfold rstep; rw [if_neg h, if_pos h2]
theorem rstep_miss {x : Wld} {c f : Cli} {n : Nat} {r : ARound} (h : ¬ (r.round < f.next ∨ c.submitted.length ≤ n)) (h2 : (rowOK r.db (mrow c.key r.round (dirn c) x.rows) && (rowAt r.db (mrow c.key r.round (dirn c) x.rows) == mcell c n)) = false) : rstep x c f n r = n := by
  unfold rstep; rw [if_neg h, if_neg (by rw [h2]; decide)]
end Go.Proofs.Ytfiaikmlnemnfaa.G
namespace Go.Proofs.Ytfiaikmlnemnfaa.G
set_option linter.all false
open Go.RowKit L D
def allIn (l : List Dev) : List (List UInt8) := l.flatMap fun d => d.live.inbox
theorem allIn_step (l : List Dev) (k : Nat) (h : k < l.length) : allIn (l.take (k + 1)) = allIn (l.take k) ++ (l.getD k (dfl .Dev)).live.inbox := flat_snoc _ l k _ h
theorem lsz_app {α : Type} (f : α → Nat) (a b : List α) : lsz f (a ++ b) = lsz f a + lsz f b := by
  unfold lsz; rw [List.length_append, List.map_append, List.sum_append]; omega
theorem allIn_lsz : ∀ l : List Dev, lsz List.length (allIn l) ≤ lsz size_Dev l
  | [] => by simp [allIn, lsz]
  | d :: l => by
    have ih := allIn_lsz l
    have e : allIn (d :: l) = d.live.inbox ++ allIn l := by simp [allIn]
    have hd : lsz List.length d.live.inbox ≤ size_Dev d := by unfold size_Dev size_Cli; omega
    rw [e, lsz_app]
    unfold lsz at *
    simp only [List.length_cons, List.map_cons, List.sum_cons]
    omega
theorem lsz_take_le {α : Type} (f : α → Nat) (l : List α) (k : Nat) : lsz f (l.take k) ≤ lsz f l := by
  have h1 := take_sum_le l f k
  have h2 : (l.take k).length ≤ l.length := by rw [List.length_take]; omega
  unfold lsz; omega
theorem allIn_size {x : Wld} (h : size_Wld x ≤ 1048576) : lsz List.length (allIn x.devices) ≤ 1048576 := by
  have h1 := allIn_lsz x.devices
  have h2 : lsz size_Dev x.devices ≤ 1048576 := by unfold size_Wld at h; omega
  omega
theorem allIn_take {x : Wld} (h : size_Wld x ≤ 1048576) (k : Nat) : (allIn (x.devices.take k)).length ≤ 1048576 := by
  have h1 := allIn_lsz (x.devices.take k)
  have h2 : lsz size_Dev x.devices ≤ 1048576 := by unfold size_Wld at h; omega
  have h3 := lsz_take_le size_Dev x.devices k
  exact lsz_len (show lsz List.length (allIn (x.devices.take k)) ≤ 1048576 by omega)
def roomy (x : Wld) : Bool := okW x && decide (3 * (x.devices.length : Int) ≤ x.rows)
end Go.Proofs.Ytfiaikmlnemnfaa.G
