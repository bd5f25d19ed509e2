/-
  What servers publish; audits of servers. No program in sight.
-/
import Derived.Test.YthjedjndamejmaaGreatZCollectSharesM8
namespace Go.Proofs.YthjedjndamejmaaGreat.G
set_option linter.all false
open Go.RowKit L D
theorem okW_dev {x : Wld} (h : okW x = true) {i : Nat} (hi : i < x.devices.length) : okD x i = true := by
  simp only [okW, Bool.and_eq_true, List.all_eq_true] at h
  exact h.2 i (List.mem_range.2 hi)
theorem okW_sv {x : Wld} (h : okW x = true) {i : Nat} (hi : i < x.servers.length) : okS x i = true := by
  simp only [okW, Bool.and_eq_true, List.all_eq_true] at h
  exact h.1.2 i (List.mem_range.2 hi)
theorem okD_live {x : Wld} {i : Nat} (h : okD x i = true) : okCli (x.devices.getD i (dfl .Dev)).live = true := by
  simp only [okD, okDev, Bool.and_eq_true] at h
  exact h.1.1.1.1.1.1.1.1.1
theorem okW_rr {x : Wld} (h : okW x = true) : (1 ≤ x.rows ∧ x.rows ≤ 64) ∧ 0 ≤ x.round ∧ x.round ≤ 100000 := by
  have h := okW_hd h
  simp only [hdW, Bool.and_eq_true, inr_t] at h
  omega
theorem liv_ok {x : Wld} {c : Int} (h : okW x = true) (hc : 0 ≤ c ∧ c < x.devices.length) : okCli (liv x c) = true := okD_live (okW_dev h (by omega))
theorem liv_cw {x : Wld} {c : Int} (h : okW x = true) (hc : 0 ≤ c ∧ c < x.devices.length) : cwOK (liv x c) x.round x.rows = true := by
  have := okW_rr h
  simp only [cwOK, liv_ok h hc, Bool.and_eq_true, inr_t]
  exact ⟨⟨trivial, this.2⟩, this.1⟩
theorem mrow_range {key r d n : Int} (h : (1 ≤ n ∧ n ≤ 64) ∧ 0 ≤ r ∧ r ≤ 1000000000000) : 0 ≤ mrow key r d n ∧ mrow key r d n < n := by
  unfold mrow
  rw [if_pos h]
  exact ⟨Int.emod_nonneg _ (by omega), Int.emod_lt_of_pos _ (by omega)⟩
theorem crow_range {s r n : Int} (h : 1 ≤ n ∧ n ≤ 64) : 0 ≤ crow s r n ∧ crow s r n < n := by
  unfold crow
  rw [if_pos h]
  exact ⟨Int.emod_nonneg _ (by omega), Int.emod_lt_of_pos _ (by omega)⟩
theorem cwRow_range {c : Cli} {r n : Int} (h : cwOK c r n = true) : 0 ≤ cwRow c r n ∧ cwRow c r n < n := by
  have hb : (0 ≤ r ∧ r ≤ 100000) ∧ 1 ≤ n ∧ n ≤ 64 := by
    simp only [cwOK, Bool.and_eq_true, inr_t] at h; exact ⟨h.1.2, h.2⟩
  rw [cwRow, if_pos h]
  split
  · exact mrow_range (by omega)
  · exact crow_range (by omega)
theorem dkey_ok (k d : Int) : okKey (dkey k d) = true := by
  have := or1_range (kh_range k [83, d])
  simp only [okKey, inr_t]; unfold dkey; omega
theorem okCli_sub {c : Cli} (h : okCli c = true) : c.submitted.length ≤ 16 ∧ c.inbox.length ≤ 16 ∧ (∀ b, b ∈ c.submitted → b.length ≤ 14) ∧ (∀ b, b ∈ c.inbox → b.length ≤ 14) ∧ 0 ≤ c.sent ∧ c.sent ≤ c.submitted.length ∧ 0 ≤ c.next ∧ c.next ≤ 100000 := by
  simp only [okCli, Bool.and_eq_true, Bool.not_eq_true', List.any_eq_false, inr_t, decide_eq_true_eq] at h
  obtain ⟨⟨⟨⟨⟨⟨_, h1⟩, h2⟩, h3⟩, h4⟩, h5⟩, h6⟩ := h
  refine ⟨by omega, by omega, fun b hb => ?_, fun b hb => ?_, h5.1, h5.2, h6.1, h6.2⟩
  · have := h3 b hb; simp only [long, decide_eq_true_eq] at this; omega
  · have := h4 b hb; simp only [long, decide_eq_true_eq] at this; omega
theorem getD_in {α : Type} {l : List α} {k : Nat} (d : α) (h : k < l.length) : l.getD k d ∈ l := by
  rw [List.getD_eq_getElem?_getD, List.getElem?_eq_getElem h]; exact List.getElem_mem h
theorem sealC_len24 {k c : Int} {p : Plain} (h : sealOK k c p = true) : (sealC k c p).length = 24 := by
  have hb := sealOK_body h
  rw [sealC, if_pos h, List.length_append, encr_len]
  simp only [padded, four, List.length_append, List.length_drop, List.length_cons, List.length_nil, stream_len]; omega
theorem mcell_len {c : Cli} (h : okCli c = true) {a : Int} (h0 : 0 ≤ a) (h1 : a < c.submitted.length) : (mcell c a).length = 24 := by
  obtain ⟨q1, _, q2, _⟩ := okCli_sub h
  apply sealC_len24
  simp only [sealOK, dkey_ok, okPlain, Bool.and_eq_true, inr_t, decide_eq_true_eq]
  have := q2 _ (getD_in (dfl (.sl .u8)) (show a.toNat < c.submitted.length by omega))
  refine ⟨⟨trivial, by omega⟩, by omega, by omega⟩
theorem cwCell_len24 {c : Cli} {r n : Int} (h : cwOK c r n = true) : (cwCell c r n).length = 24 := by
  rw [cwCell, if_pos h]
  split
  · rename_i hs
    have hc : okCli c = true := by simp only [cwOK, Bool.and_eq_true] at h; exact h.1.1
    exact mcell_len hc (cwOK_sent h).1 hs
  · rw [cover, stream_len]
theorem shares_ok {x : Wld} {c : Int} (h : okW x = true) (hc : 0 ≤ c ∧ c < x.devices.length) : mwOK x.rows (cwRow (liv x c) x.round x.rows) (cwCell (liv x c) x.round x.rows) (wseeds x c) = true := by
  have hw := liv_cw h hc
  have hr := okW_rr h
  have hs := okW_srv h
  have hrow := cwRow_range hw
  have hcell := cwCell_len24 hw
  simp only [mwOK, unOK_row, srvCnt, Bool.and_eq_true, inr_t, decide_eq_true_eq, wseeds_len]
  rw [i64w (by omega), i64w (by omega)]
  omega
theorem sharesW_len {x : Wld} {c : Int} (h : okW x = true) (hc : 0 ≤ c ∧ c < x.devices.length) : (sharesW x c).length = x.servers.length := by
  have hs := okW_srv h
  rw [sharesW, makeW, if_pos (shares_ok h hc), List.length_append, List.length_map, wseeds_len]
  simp; omega
theorem wshares_eq {x : Wld} {c : Int} (h : okW x = true) (hc : 0 ≤ c ∧ c < x.devices.length) : wshares x c = sharesW x c := by
  rw [wshares, if_pos]
  simp only [wsOK, h, hasC, Bool.true_and, inr_t]
  omega
end Go.Proofs.YthjedjndamejmaaGreat.G
namespace Go.Proofs.YthjedjndamejmaaGreat.G
set_option linter.all false
open Go.RowKit L D
theorem makeW_ok {rows i : Int} {c : List UInt8} {sd : List Int} (hr : rows ≤ 64) : ∀ d, d ∈ makeW rows i c sd → okDB d = true := by
  intro d hd
  unfold makeW at hd
  split at hd
  · rename_i hm
    have hu : unOK rows i c = true := by simp only [mwOK, Bool.and_eq_true] at hm; exact hm.1
    rcases List.mem_append.1 hd with h | h
    · obtain ⟨s, _, rfl⟩ := List.mem_map.1 h
      exact mdb_ok s rows hr
    · rw [List.mem_singleton.1 h]; exact lastW_ok hu _
  · cases hd
theorem sumle {α : Type} (f : α → Nat) (C : Nat) : ∀ (l : List α), (∀ x, x ∈ l → f x ≤ C) → (l.map f).sum ≤ C * l.length
  | [], _ => by simp
  | x :: r, h => by
    have := sumle f C r fun y hy => h y (by simp [hy])
    have := h x (by simp)
    rw [List.map_cons, List.sum_cons, List.length_cons, Nat.mul_add]
    omega
end Go.Proofs.YthjedjndamejmaaGreat.G
namespace Go.Proofs.YthjedjndamejmaaGreat.G
set_option linter.all false
open Go.RowKit L D
def smallS (s : Srv) : Prop := s.received.length ≤ 1048576 ∧ ∀ r, r ∈ s.received → lsz List.length r.share.rows ≤ 1048576
theorem srv_small {l : List Srv} (h : lsz size_Srv l ≤ 1048576) {i : Nat} {s : Srv} (hs : l[i]? = some s) : smallS s := by
  have h1 : lsz size_RShare s.received ≤ 1048576 := lsz_mem h hs
  refine ⟨lsz_len h1, fun r hr => ?_⟩
  obtain ⟨j, hj⟩ := List.mem_iff_getElem?.1 hr
  exact lsz_mem h1 hj
def srvAdd (s : Srv) (c : Int) (d : DB) : Srv := ⟨s.id, s.rows, s.round, s.received ++ [⟨c, d⟩], s.behavior⟩
def rcvOK (s : Srv) (c : Int) (d : DB) : Bool := okSrv s && okSrv (srvAdd s c d)
def rcv (s : Srv) (c : Int) (d : DB) : Srv := if rcvOK s c d then srvAdd s c d else s
def below (s : Srv) (c : Int) : Prop := ∀ r, r ∈ s.received → r.client < c
theorem rcv_below {s : Srv} {c e : Int} {d : DB} (h : below s c) (hc : c < e) : below (rcv s c d) e := by
  intro r hr
  unfold rcv at hr
  split at hr
  · rcases List.mem_append.1 hr with h1 | h1
    · have := h r h1; omega
    · rw [List.mem_singleton.1 h1]; exact hc
  · have := h r hr; omega
theorem rcv_small {s : Srv} {c : Int} {d : DB} (h : smallS s) (hd : okDB d = true) : smallS (rcv s c d) := by
  unfold rcv
  split
  · rename_i hk
    have h1 : (srvAdd s c d).received.length ≤ 8 := by
      simp only [rcvOK, okSrv, hdSrv, Bool.and_eq_true, decide_eq_true_eq] at hk; omega
    refine ⟨by omega, fun r hr => ?_⟩
    rcases List.mem_append.1 hr with h2 | h2
    · exact h.2 r h2
    · rw [List.mem_singleton.1 h2]; exact okDB_lsz hd
  · exact h
def isC (c : Int) (r : RShare) : Bool := r.client == c
def shHas (l : List RShare) (c : Int) : Bool := l.any (isC c)
def shDB (l : List RShare) (c : Int) : DB := if shHas l c then (l.getD (fidx (isC c) l).toNat (dfl .RShare)).share else ⟨[]⟩
theorem sh_hit {l : List RShare} {c : Int} {k : Nat} (h : k < l.length) (h1 : (l.take k).any (isC c) = false) (h2 : isC c (l.getD k (dfl .RShare)) = true) : shHas l c = true ∧ shDB l c = (l.getD k (dfl .RShare)).share := by
  have ha : shHas l c = true := any_yes l (isC c) (dfl .RShare) k h h2
  exact ⟨ha, by rw [shDB, if_pos ha, fidx_hit (dfl .RShare) h h1 h2]; rfl⟩
theorem sh_miss {l : List RShare} {c : Int} (h : l.any (isC c) = false) : shHas l c = false ∧ shDB l c = ⟨[]⟩ := ⟨h, by rw [shDB, shHas, h]; rfl⟩
theorem below_no {s : Srv} {c : Int} (h : below s c) : shHas s.received c = false := by
  unfold shHas
  rw [List.any_eq_false]
  intro r hr
  have := h r hr
  simp only [isC, beq_iff_eq]; omega
theorem rcv_no {s : Srv} {c : Int} {d : DB} (h : rcvOK s c d = false) : rcv s c d = s := by rw [rcv, h]; rfl
theorem rcv_yes {s : Srv} {c : Int} {d : DB} (h : rcvOK s c d = true) : rcv s c d = srvAdd s c d := by rw [rcv, h]; rfl
theorem spec_at {s : Srv} {c : Int} {k : Nat} (hb : ∀ r, r ∈ s.received → r.client < c) (hk : k ≤ s.received.length) (h : (if decide ((k : Int) < (s.received.length : Int)) = true then decide ((s.received.getD k (dfl .RShare)).client < c) else false) = false) : k = s.received.length := by
  by_cases h1 : k < s.received.length
  · rw [if_pos (by simpa using h1)] at h
    have := hb _ (getD_in (dfl .RShare) h1)
    simp only [decide_eq_false_iff_not] at h
    omega
  · omega
theorem ins_eq (l : List RShare) (y : RShare) : [] ++ List.drop (Int.toNat 0) (List.take ((l.length : Int)).toNat l) ++ [y] ++ [] = l ++ [y] := by simp
theorem rcv_f {s : Srv} {c : Int} {d : DB} (h : (if !okSrv s then true else !okSrv (srvAdd s c d)) = true) : rcvOK s c d = false := by
  unfold rcvOK
  cases h1 : okSrv s <;> cases h2 : okSrv (srvAdd s c d) <;> simp_all
theorem rcv_t {s : Srv} {c : Int} {d : DB} (h : (if !okSrv s then true else !okSrv (srvAdd s c d)) = false) : rcvOK s c d = true := by
  unfold rcvOK
  cases h1 : okSrv s <;> cases h2 : okSrv (srvAdd s c d) <;> simp_all
def dgst (d : DB) : Int := hsh ((d.rows.length : Int) :: d.rows.flatMap b2i)
theorem b2i_len (l : List UInt8) : (b2i l).length = l.length + 1 := by simp [b2i]
theorem dg_len (l : List (List UInt8)) : ∀ k, ((l.take k).flatMap b2i).length ≤ lsz List.length l := by
  have key : ∀ m : List (List UInt8), (m.flatMap b2i).length = lsz List.length m := by
    intro m
    induction m with
    | nil => rfl
    | cons x r ih => rw [List.flatMap_cons, List.length_append, ih, b2i_len]; unfold lsz; simp only [List.length_cons, List.map_cons, List.sum_cons]; omega
  intro k
  rw [key]
  have h1 := take_sum_le l List.length k
  unfold lsz
  have : (l.take k).length ≤ l.length := List.length_take_le' _ _
  omega
theorem dg_step (l : List (List UInt8)) (k : Nat) (h : k < l.length) : (l.take (k + 1)).flatMap b2i = (l.take k).flatMap b2i ++ b2i (l.getD k (dfl (.sl .u8))) := by
  rw [take_snoc l k (dfl (.sl .u8)) h, List.flatMap_append]; simp
def skey (m s : Int) : Int := or1 (kh m [173, s])
theorem skey_max {m s : Int} : (if kh m [173, s] > 1 then kh m [173, s] else 1) = skey m s := by
  have := kh_range m [173, s]
  unfold skey or1
  split <;> split <;> omega
def sdig (c r : Int) (d : DB) : Int := hsh [179, c, r, dgst d]
def rmac (key s c r g : Int) : Int := kh key [181, s, c, r, g]
def mkR (key s c r : Int) (d : DB) : Rcp := ⟨s, c, r, sdig c r d, rmac key s c r (sdig c r d)⟩
def srvStep (l : List Srv) (c : Int) (ds : List DB) : List Srv := List.zipWith (fun s d => rcv s c d) l ds
def srvK (x : Wld) : Nat → List Srv
  | 0 => x.servers
  | k + 1 => srvStep (srvK x k) (k : Int) (sharesW x (k : Int))
def rcpC (x : Wld) (c : Nat) (i : Nat) : List Rcp := [mkR (skey x.master (i : Int)) (i : Int) (c : Int) x.round ((sharesW x (c : Int)).getD i (dfl .DB))]
def rcpP (x : Wld) (c : Nat) (n : Nat) : List Rcp := (List.range n).flatMap (rcpC x c)
def rcpK (x : Wld) (n : Nat) : List Rcp := (List.range n).flatMap fun c => rcpP x c x.servers.length
theorem rcpP_step (x : Wld) (c n : Nat) : rcpP x c (n + 1) = rcpP x c n ++ [mkR (skey x.master (n : Int)) (n : Int) (c : Int) x.round ((sharesW x (c : Int)).getD n (dfl .DB))] := by
  unfold rcpP
  rw [List.range_succ, List.flatMap_append]; simp [rcpC]
theorem rcpK_step (x : Wld) (n : Nat) : rcpK x (n + 1) = rcpK x n ++ rcpP x n x.servers.length := by
  unfold rcpK
  rw [List.range_succ, List.flatMap_append]; simp
theorem rcpP_len (x : Wld) (c : Nat) : ∀ n, (rcpP x c n).length = n
  | 0 => rfl
  | n + 1 => by rw [rcpP_step, List.length_append, rcpP_len x c n]; rfl
theorem rcpK_len (x : Wld) : ∀ n, (rcpK x n).length = n * x.servers.length
  | 0 => by simp [rcpK]
  | n + 1 => by rw [rcpK_step, List.length_append, rcpK_len x n, rcpP_len, Nat.add_mul]; omega
structure Col (x : Wld) (k : Nat) : Prop where
  len : (srvK x k).length = x.servers.length
  bel : ∀ s, s ∈ srvK x k → below s (k : Int)
  sml : ∀ s, s ∈ srvK x k → smallS s
theorem okW_empty {x : Wld} (h : okW x = true) : ∀ s, s ∈ x.servers → s.received = [] := by
  intro s hs
  obtain ⟨i, hi, rfl⟩ := List.mem_iff_getElem.1 hs
  have h1 := okW_sv h hi
  have e : x.servers.getD i (dfl .Srv) = x.servers[i] := by rw [List.getD_eq_getElem?_getD, List.getElem?_eq_getElem hi]; rfl
  simp only [okS, e, Bool.and_eq_true, decide_eq_true_eq] at h1
  have h2 : x.servers[i].received.length = 0 := by omega
  exact List.length_eq_zero_iff.1 h2
theorem sharesW_ok {x : Wld} {c : Int} (h : okW x = true) : ∀ d, d ∈ sharesW x c → okDB d = true := by
  have := okW_rr h
  exact makeW_ok (by omega)
theorem step_mem {l : List Srv} {c : Int} {ds : List DB} {s : Srv} (h : s ∈ srvStep l c ds) : ∃ t d, t ∈ l ∧ d ∈ ds ∧ s = rcv t c d := by
  induction l generalizing ds with
  | nil => cases h
  | cons t l ih =>
    cases ds with
    | nil => cases h
    | cons d ds =>
      rcases List.mem_cons.1 h with h1 | h1
      · exact ⟨t, d, List.mem_cons_self .., List.mem_cons_self .., h1⟩
      · obtain ⟨t', d', q1, q2, q3⟩ := ih h1
        exact ⟨t', d', List.mem_cons_of_mem _ q1, List.mem_cons_of_mem _ q2, q3⟩
theorem col {x : Wld} (h : okW x = true) : ∀ k, k ≤ x.devices.length → Col x k
  | 0, _ => by
    have he := okW_empty h
    refine ⟨rfl, fun s hs => ?_, fun s hs => ?_⟩
    · intro r hr; rw [he s hs] at hr; cases hr
    · refine ⟨by rw [he s hs]; decide, fun r hr => ?_⟩
      rw [he s hs] at hr; cases hr
  | k + 1, hk => by
    have ih := col h k (by omega)
    have hl : (sharesW x (k : Int)).length = x.servers.length := sharesW_len h (by omega)
    refine ⟨?_, fun s hs => ?_, fun s hs => ?_⟩
    · show (List.zipWith _ _ _).length = _
      rw [List.length_zipWith, ih.len, hl]; omega
    · obtain ⟨t, d, h1, h2, rfl⟩ := step_mem hs
      exact rcv_below (ih.bel t h1) (by omega)
    · obtain ⟨t, d, h1, h2, rfl⟩ := step_mem hs
      exact rcv_small (ih.sml t h1) (sharesW_ok h d h2)
theorem srvK_len {x : Wld} (h : okW x = true) {k : Nat} (hk : k ≤ x.devices.length) : (srvK x k).length = x.servers.length := (col h k hk).len
theorem srvK_get {x : Wld} (h : okW x = true) {k i : Nat} (hk : k < x.devices.length) (hi : i < x.servers.length) : (srvK x (k + 1)).getD i (dfl .Srv) = rcv ((srvK x k).getD i (dfl .Srv)) (k : Int) ((sharesW x (k : Int)).getD i (dfl .DB)) := by
  have hl : (sharesW x (k : Int)).length = x.servers.length := sharesW_len h (by omega)
  have h2 := srvK_len h (k := k) (by omega)
  show (List.zipWith _ _ _).getD i _ = _
  rw [List.getD_eq_getElem?_getD, List.getD_eq_getElem?_getD, List.getD_eq_getElem?_getD, List.getElem?_zipWith, List.getElem?_eq_getElem (show i < (srvK x k).length by omega), List.getElem?_eq_getElem (show i < (sharesW x (k : Int)).length by omega)]
  rfl
/-- The servers while client k's shares are handed out. -/
def srvP (x : Wld) (k i : Nat) : List Srv := (srvK x (k + 1)).take i ++ (srvK x k).drop i
theorem srvP_len {x : Wld} (h : okW x = true) {k i : Nat} (hk : k < x.devices.length) (hi : i ≤ x.servers.length) : (srvP x k i).length = x.servers.length := by
  have h1 := srvK_len h (k := k) (by omega)
  have h2 := srvK_len h (k := k + 1) (by omega)
  unfold srvP
  rw [part_len _ _ _ (by omega) (by omega), h1]
theorem srvP_get {x : Wld} (h : okW x = true) {k i : Nat} (hk : k < x.devices.length) (hi : i < x.servers.length) : (srvP x k i).getD i (dfl .Srv) = (srvK x k).getD i (dfl .Srv) := by
  have h2 := srvK_len h (k := k + 1) (by omega)
  exact part_get _ _ _ _ (by omega)
theorem srvP_step {x : Wld} (h : okW x = true) {k i : Nat} (hk : k < x.devices.length) (hi : i < x.servers.length) : (srvP x k i).set i (rcv ((srvP x k i).getD i (dfl .Srv)) (k : Int) ((sharesW x (k : Int)).getD i (dfl .DB))) = srvP x k (i + 1) := by
  have h1 := srvK_len h (k := k) (by omega)
  have h2 := srvK_len h (k := k + 1) (by omega)
  rw [srvP_get h hk hi]
  exact part_set _ _ _ (dfl .Srv) _ (by omega) (by omega) (srvK_get h hk hi)
theorem srvP_all {x : Wld} (h : okW x = true) {k i : Nat} (hk : k < x.devices.length) (hi : x.servers.length ≤ i) : srvP x k i = srvK x (k + 1) := by
  have h1 := srvK_len h (k := k) (by omega)
  have h2 := srvK_len h (k := k + 1) (by omega)
  unfold srvP
  rw [List.take_of_length_le (by omega), List.drop_of_length_le (by omega), List.append_nil]
theorem srvP_bel {x : Wld} (h : okW x = true) {k i : Nat} (hk : k < x.devices.length) (hi : i < x.servers.length) : below ((srvP x k i).getD i (dfl .Srv)) (k : Int) ∧ smallS ((srvP x k i).getD i (dfl .Srv)) ∧ lsz List.length ((sharesW x (k : Int)).getD i (dfl .DB)).rows ≤ 1048576 := by
  rw [srvP_get h hk hi]
  have c := col h k (by omega)
  have hl : (sharesW x (k : Int)).length = x.servers.length := sharesW_len h (by omega)
  exact ⟨c.bel _ (getD_in _ (by rw [c.len]; exact hi)), c.sml _ (getD_in _ (by rw [c.len]; exact hi)), okDB_lsz (sharesW_ok h _ (getD_in _ (by omega)))⟩
def colS (x : Wld) : List Srv := if okW x then srvK x x.devices.length else []
def colR (x : Wld) : List Rcp := if okW x then rcpK x x.devices.length else []
end Go.Proofs.YthjedjndamejmaaGreat.G
namespace Go.Proofs.YthjedjndamejmaaGreat.G
set_option linter.all false
open Go.RowKit L D
theorem okSrv_b {s : Srv} (h : okSrv s = true) : (1 ≤ s.rows ∧ s.rows ≤ 64) ∧ s.received.length ≤ 8 := by
  simp only [okSrv, hdSrv, Bool.and_eq_true, inr_t, decide_eq_true_eq] at h
  omega
end Go.Proofs.YthjedjndamejmaaGreat.G
