/-
  What servers publish; audits of servers. No program in sight.
-/
import Derived.Test.YthjedjndamejmaaGreatZGuiltyServersM8
namespace Go.Proofs.YthjedjndamejmaaGreat.G
set_option linter.all false
open Go.RowKit L D
def sumL (rows : Int) (l : List RShare) : DB := l.foldl (fun d r => xorDB d r.share) (newDB rows)
theorem sumL_step (rows : Int) (l : List RShare) (k : Nat) (h : k < l.length) : sumL rows (l.take (k + 1)) = xorDB (sumL rows (l.take k)) (l.getD k (dfl .RShare)).share := by
  unfold sumL
  rw [take_snoc l k (dfl .RShare) h, List.foldl_append]; rfl
theorem newDB_ok (rows : Int) : okDB (newDB rows) = true := by
  rw [okDB_iff]
  refine ⟨newDB_len rows, fun r hr => ?_⟩
  unfold newDB at hr
  dsimp only at hr
  split at hr
  · rw [(List.mem_replicate.1 hr).2]; exact zer_len
  · cases hr
theorem xorDB_rows (a b : DB) : (xorDB a b).rows.length = a.rows.length := by
  cases h : xdOK a b with
  | true => rw [xorDB_pos h]; exact xdRows_len h
  | false => rw [xorDB_neg h]
theorem xorDB_ok' {a b : DB} (ha : okDB a = true) : okDB (xorDB a b) = true := by
  cases h : xdOK a b with
  | true => exact xorDB_ok ha (xdOK_b h).2.1
  | false => rw [xorDB_neg h]; exact ha
theorem sumL_ok (rows : Int) : ∀ (l : List RShare) (d : DB), okDB d = true → okDB (l.foldl (fun d r => xorDB d r.share) d) = true ∧ (l.foldl (fun d r => xorDB d r.share) d).rows.length = d.rows.length
  | [], d, h => ⟨h, rfl⟩
  | r :: l, d, h => by
    have ih := sumL_ok rows l (xorDB d r.share) (xorDB_ok' h)
    rw [xorDB_rows] at ih
    exact ih
theorem sum_ok (rows : Int) (l : List RShare) : okDB (sumL rows l) = true ∧ (sumL rows l).rows.length = (newDB rows).rows.length := sumL_ok rows l _ (newDB_ok rows)
theorem sum_lsz (rows : Int) (l : List RShare) : lsz List.length (sumL rows l).rows ≤ 1048576 := okDB_lsz (sum_ok rows l).1
theorem okSrv_b {s : Srv} (h : okSrv s = true) : (1 ≤ s.rows ∧ s.rows ≤ 64) ∧ s.received.length ≤ 8 := by
  simp only [okSrv, hdSrv, Bool.and_eq_true, inr_t, decide_eq_true_eq] at h
  omega
theorem okSrv_sh {s : Srv} (h : okSrv s = true) : ∀ r, r ∈ s.received → lsz List.length r.share.rows ≤ 1048576 := by
  intro r hr
  obtain ⟨i, hi, rfl⟩ := List.mem_iff_getElem.1 hr
  simp only [okSrv, Bool.and_eq_true, List.all_eq_true, List.mem_range] at h
  have h2 := h.2 i hi
  have e : s.received.getD i (dfl .RShare) = s.received[i] := by rw [List.getD_eq_getElem?_getD, List.getElem?_eq_getElem hi]; rfl
  simp only [okRec, e, Bool.and_eq_true] at h2
  exact okDB_lsz h2.1.2
theorem sumD_step (rows : Int) (l : List RShare) (f k : Nat) (h : k < l.length) (hf : f ≤ k) : sumL rows ((l.drop f).take (k + 1 - f)) = xorDB (sumL rows ((l.drop f).take (k - f))) (l.getD k (dfl .RShare)).share := by
  rw [show k + 1 - f = (k - f) + 1 by omega, sumL_step _ _ _ (by rw [List.length_drop]; omega)]
  congr 2
  rw [List.getD_eq_getElem?_getD, List.getElem?_drop, show f + (k - f) = k by omega]; rfl
theorem sumD_end (rows : Int) (l : List RShare) (f k : Nat) (h : l.length ≤ k) : sumL rows ((l.drop f).take (k - f)) = sumL rows (l.drop f) := by
  rw [List.take_of_length_le (by rw [List.length_drop]; omega)]
def sumS (s : Srv) : DB := if okSrv s then sumL s.rows s.received else ⟨[]⟩
/-- The first bit of the first cell, turned. -/
def alt (d : DB) : DB := ⟨d.rows.set 0 ((d.rows.getD 0 (dfl (.sl .u8))).set 0 ((d.rows.getD 0 (dfl (.sl .u8))).getD 0 (dfl .u8) ^^^ 1))⟩
def rcvd (s : Srv) : List RShare := if s.behavior = 1 then s.received.drop 1 else s.received
def pubS (s : Srv) : DB := if okSrv s then (if s.behavior = 2 then alt (sumL s.rows (rcvd s)) else sumL s.rows (rcvd s)) else ⟨[]⟩
theorem alt_eq (d : DB) : d.rows.set (Int.toNat 0) ((d.rows.getD (Int.toNat 0) (dfl (.sl .u8))).set (Int.toNat 0) (UInt8.ofNat (IntKind.u8.wrap ((BitVec.ofInt IntKind.u8.bits ((((d.rows.getD (Int.toNat 0) (dfl (.sl .u8))).getD (Int.toNat 0) (dfl .u8)).toNat : Nat) : Int) ^^^ BitVec.ofInt IntKind.u8.bits 1).toNat : Int)).toNat)) = (alt d).rows := by
  have := xor8 ((d.rows.getD (Int.toNat 0) (dfl (.sl .u8))).getD (Int.toNat 0) (dfl .u8)) 1
  rw [show (((1 : UInt8).toNat : Nat) : Int) = 1 from rfl] at this
  rw [this]; rfl
theorem mini_b (a b : Int) : mini a b ≤ a ∧ mini a b ≤ b ∧ (mini a b = a ∨ mini a b = b) := by unfold mini; split <;> omega
theorem drop_min (l : List RShare) : l.drop (mini 1 (l.length : Int)).toNat = l.drop 1 := by
  have := mini_b 1 (l.length : Int)
  cases l with
  | nil => simp
  | cons x r =>
    have h1 : mini 1 (((x :: r).length : Nat) : Int) = 1 := by rw [List.length_cons] at this ⊢; omega
    rw [h1]; rfl
theorem pub_in {s : Srv} (h : okSrv s = true) : 0 < (sumL s.rows (rcvd s)).rows.length ∧ 0 < ((sumL s.rows (rcvd s)).rows.getD 0 (dfl (.sl .u8))).length := by
  have h1 := okSrv_b h
  have h2 := sum_ok s.rows (rcvd s)
  have h3 : (newDB s.rows).rows.length = s.rows.toNat := by rw [newDB_pos (by omega)]; simp
  have h4 : 0 < (sumL s.rows (rcvd s)).rows.length := by omega
  exact ⟨h4, by rw [okDB_el h2.1 0 h4]; decide⟩
theorem rcvd_drop (s : Srv) : s.behavior = 1 → rcvd s = s.received.drop 1 := fun h => if_pos h
theorem rcvd_all (s : Srv) : ¬ s.behavior = 1 → rcvd s = s.received := fun h => if_neg h
theorem alt_ok {d : DB} (h : okDB d = true) : okDB (alt d) = true := by
  rw [okDB_iff] at h ⊢
  refine ⟨by unfold alt; dsimp only; rw [List.length_set]; exact h.1, fun r hr => ?_⟩
  unfold alt at hr
  dsimp only at hr
  rcases List.mem_or_eq_of_mem_set hr with h1 | h1
  · exact h.2 r h1
  · subst h1
    rw [List.length_set]
    cases hd : d.rows with
    | nil => rw [hd] at hr; cases hr
    | cons b l => exact h.2 b (by rw [hd]; exact List.mem_cons_self ..)
theorem pubS_ok (s : Srv) : lsz List.length (pubS s).rows ≤ 1048576 := by
  unfold pubS
  split
  · split
    · exact okDB_lsz (alt_ok (sum_ok _ _).1)
    · exact okDB_lsz (sum_ok _ _).1
  · exact by decide
theorem rcvd_sub (s : Srv) : ∀ r, r ∈ rcvd s → r ∈ s.received := by
  intro r hr
  unfold rcvd at hr
  split at hr
  · exact List.mem_of_mem_drop hr
  · exact hr
/-- What one receipt shows of a server: 0 nothing, 1 no share, 2 another share. -/
def rvOK (key : Int) (r : Rcp) : Bool := r.mac == rmac key r.server r.client r.round r.digest
def rskip (key : Int) (s : Srv) (r : Rcp) : Bool := (r.server != s.id || r.round != s.round) || !rvOK key r
def rmat (r : Rcp) (d : DB) : Bool := r.digest == sdig r.client r.round d
def rfind (key : Int) (s : Srv) (r : Rcp) : Int := if rskip key s r then 0 else if shHas s.received r.client then (if rmat r (shDB s.received r.client) then 0 else 2) else 1
def audL (key : Int) (s : Srv) (p : DB) : List Rcp → Int
  | [] => if okSrv s && (p.rows == (sumS s).rows) then 0 else 3
  | r :: l => if rfind key s r = 0 then audL key s p l else rfind key s r
theorem audL_skip (key : Int) (s : Srv) (p : DB) : ∀ (l : List Rcp) (k : Nat), (∀ j, j < k → rfind key s (l.getD j (dfl .Rcp)) = 0) → audL key s p (l.drop k) = audL key s p l
  | l, 0, _ => by rw [List.drop_zero]
  | [], k + 1, _ => by simp
  | r :: l, k + 1, h => by
    have h0 := h 0 (by omega)
    rw [List.drop_succ_cons, audL_skip key s p l k fun j hj => by simpa using h (j + 1) (by omega)]
    show audL key s p l = if rfind key s r = 0 then audL key s p l else rfind key s r
    rw [if_pos (by simpa using h0)]
theorem audL_hit {key : Int} {s : Srv} {p : DB} {l : List Rcp} {k : Nat} (h : ∀ j, j < k → rfind key s (l.getD j (dfl .Rcp)) = 0) (hk : k < l.length) (hn : rfind key s (l.getD k (dfl .Rcp)) ≠ 0) : audL key s p l = rfind key s (l.getD k (dfl .Rcp)) := by
  rw [← audL_skip key s p l k h, List.drop_eq_getElem_cons hk, show l[k] = l.getD k (dfl .Rcp) by rw [List.getD_eq_getElem?_getD, List.getElem?_eq_getElem hk]; rfl]
  exact if_neg hn
theorem audL_end {key : Int} {s : Srv} {p : DB} {l : List Rcp} {k : Nat} (h : ∀ j, j < k → rfind key s (l.getD j (dfl .Rcp)) = 0) (hk : l.length ≤ k) : audL key s p l = if okSrv s && (p.rows == (sumS s).rows) then 0 else 3 := by
  rw [← audL_skip key s p l k h, List.drop_of_length_le hk]; rfl
theorem ahead_snoc {key : Int} {s : Srv} {l : List Rcp} {k : Nat} (h : ∀ j, j < k → rfind key s (l.getD j (dfl .Rcp)) = 0) (hk : rfind key s (l.getD k (dfl .Rcp)) = 0) : ∀ j, j < k + 1 → rfind key s (l.getD j (dfl .Rcp)) = 0 := by
  intro j hj
  by_cases hjk : j = k
  · subst hjk; exact hk
  · exact h j (by omega)
def badS (m : Int) (sv : List Srv) (pb : List DB) (rc : List Rcp) (i : Nat) : Bool := decide ((pb.length : Int) ≤ (i : Int)) || !(audL (skey m (sv.getD i (dfl .Srv)).id) (sv.getD i (dfl .Srv)) (pb.getD i (dfl .DB)) rc == 0)
def audC (m : Int) (sv : List Srv) (pb : List DB) (rc : List Rcp) (i : Nat) : List Int := if badS m sv pb rc i then [(sv.getD i (dfl .Srv)).id] else []
def audR (m : Int) (sv : List Srv) (pb : List DB) (rc : List Rcp) (n : Nat) : List Int := (List.range n).flatMap (audC m sv pb rc)
theorem audR_hit {m : Int} {sv : List Srv} {pb : List DB} {rc : List Rcp} {n : Nat} (h : badS m sv pb rc n = true) : audR m sv pb rc (n + 1) = audR m sv pb rc n ++ [(sv.getD n (dfl .Srv)).id] := by
  unfold audR
  rw [List.range_succ, List.flatMap_append]; simp [audC, h]
theorem audR_miss {m : Int} {sv : List Srv} {pb : List DB} {rc : List Rcp} {n : Nat} (h : badS m sv pb rc n = false) : audR m sv pb rc (n + 1) = audR m sv pb rc n := by
  unfold audR
  rw [List.range_succ, List.flatMap_append]; simp [audC, h]
theorem audR_len (m : Int) (sv : List Srv) (pb : List DB) (rc : List Rcp) : ∀ n, (audR m sv pb rc n).length ≤ n
  | 0 => Nat.le_refl _
  | n + 1 => by
    have ih := audR_len m sv pb rc n
    cases h : badS m sv pb rc n with
    | true => rw [audR_hit h, List.length_append]; simp; omega
    | false => rw [audR_miss h]; omega
def pubs (sv : List Srv) : List DB := sv.map pubS
theorem pubs_step (sv : List Srv) (k : Nat) (h : k < sv.length) : (pubs sv).take (k + 1) = (pubs sv).take k ++ [pubS (sv.getD k (dfl .Srv))] := by
  rw [take_snoc (pubs sv) k (dfl .DB) (by unfold pubs; rw [List.length_map]; exact h)]
  congr 2
  unfold pubs
  rw [List.getD_eq_getElem?_getD, List.getD_eq_getElem?_getD, List.getElem?_map, List.getElem?_eq_getElem h]; rfl
theorem pubs_ok (sv : List Srv) : ∀ d, d ∈ pubs sv → lsz List.length d.rows ≤ 1048576 := by
  intro d hd
  obtain ⟨s, _, rfl⟩ := List.mem_map.1 hd
  exact pubS_ok s
theorem pb_small {pb : List DB} (h : ∀ d, d ∈ pb → lsz List.length d.rows ≤ 1048576) (k : Nat) : lsz List.length (pb.getD k (dfl .DB)).rows ≤ 1048576 := by
  rw [List.getD_eq_getElem?_getD]
  cases hq : pb[k]? with
  | none => exact by decide
  | some d => exact h d (List.mem_of_getElem? hq)
theorem colS_small {x : Wld} (h : okW x = true) : ∀ s, s ∈ colS x → smallS s := by
  rw [colS, if_pos h]; exact (col h _ (Nat.le_refl _)).sml
theorem colS_len {x : Wld} (h : okW x = true) : (colS x).length = x.servers.length := by
  rw [colS, if_pos h]; exact srvK_len h (Nat.le_refl _)
theorem rf_1 {key : Int} {s : Srv} {r : Rcp} (h : rskip key s r = false) (h1 : shHas s.received r.client = false) : rfind key s r = 1 := by rw [rfind, h, h1]; rfl
theorem rf_2 {key : Int} {s : Srv} {r : Rcp} (h : rskip key s r = false) (h1 : shHas s.received r.client = true) (h2 : rmat r (shDB s.received r.client) = false) : rfind key s r = 2 := by rw [rfind, h, h1, h2]; rfl
theorem rf_0 {key : Int} {s : Srv} {r : Rcp} (h : rskip key s r = false) (h1 : shHas s.received r.client = true) (h2 : rmat r (shDB s.received r.client) = true) : rfind key s r = 0 := by rw [rfind, h, h1, h2]; rfl
theorem rf_s {key : Int} {s : Srv} {r : Rcp} (h : rskip key s r = true) : rfind key s r = 0 := by rw [rfind, h]; rfl
def guilty (x : Wld) : List Int := if okW x then audR x.master (colS x) (pubs (colS x)) (colR x) (colS x).length else []
end Go.Proofs.YthjedjndamejmaaGreat.G
