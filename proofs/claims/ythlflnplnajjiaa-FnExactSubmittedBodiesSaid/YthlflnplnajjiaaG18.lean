/-
  Regions that draw their order, whole.
-/
import Derived.Test.YthlflnplnajjiaaG17
namespace Go.Proofs.Ythlflnplnajjiaa.G
set_option linter.all false
open Go.RowKit L D
variable {ty : Tag → Nat}
theorem ready_iff {ops : List Oper} {listed : Array Bool} (hl : listed.size = ops.length) {i : Nat} : i ∈ Region.ready .any ops.toArray listed ↔ ∃ o, ops[i]? = some o ∧ listed.getD i false = false ∧ ∀ j, j ∈ edges o → listed.getD j false = true := by
  unfold Region.ready
  rw [List.mem_filter, List.mem_range]
  simp only [List.size_toArray, List.getElem?_toArray, Bool.and_eq_true, Bool.not_eq_true']
  constructor
  · rintro ⟨hi, h1, h2⟩
    refine ⟨ops[i], List.getElem?_eq_getElem hi, ?_, ?_⟩
    · have : listed[i]? = some listed[i] := by simp [hl, hi]
      rw [Array.getD_eq_getD_getElem?, this] at h1 ⊢
      exact h1
    · intro j hj
      simp only [edges, List.mem_filterMap, Array.mem_toList_iff] at hj
      obtain ⟨e, he, hj⟩ := hj
      split at hj
      · rename_i hb
        simp only [Option.some.injEq] at hj
        subst hj
        rw [List.getElem?_eq_getElem hi] at h2
        simp only [Option.map_some, Option.getD_some] at h2
        have := Array.all_eq_true_iff_forall_mem.1 h2 e he
        simpa [hb] using this
      · cases hj
  · rintro ⟨o, ho, h1, h2⟩
    have hi := (List.getElem?_eq_some_iff.1 ho).1
    refine ⟨hi, ?_, ?_⟩
    · have : listed[i]? = some listed[i] := by simp [hl, hi]
      rw [Array.getD_eq_getD_getElem?, this] at h1 ⊢
      exact h1
    · rw [ho]
      simp only [Option.map_some, Option.getD_some]
      rw [Array.all_eq_true_iff_forall_mem]
      intro e he
      cases hb : Region.binds .any e with
      | false => simp
      | true =>
        have := h2 e.on (by
          simp only [edges, List.mem_filterMap, Array.mem_toList_iff]
          exact ⟨e, he, by simp [hb]⟩)
        simp [this]
theorem set_getD {listed : Array Bool} {i j : Nat} (hi : i < listed.size) : (listed.setIfInBounds i true).getD j false = (listed.getD j false || j == i) := by
  rw [Array.getD_eq_getD_getElem?, Array.getD_eq_getD_getElem?]
  by_cases hij : i = j
  · subst hij
    rw [Array.getElem?_setIfInBounds_self_of_lt hi]; simp
  · rw [Array.getElem?_setIfInBounds_ne hij]
    simp [show ¬ j = i from fun h => hij h.symm]
/-- How many are not yet listed. -/
def cnt (n : Nat) (D : Nat → Bool) : Nat := ((List.range n).filter fun i => !D i).length
theorem filter_lt {p q : Nat → Bool} : ∀ {l : List Nat}, (∀ x, x ∈ l → q x = true → p x = true) → (∃ x, x ∈ l ∧ p x = true ∧ q x = false) → (l.filter q).length < (l.filter p).length
  | y :: r, h, ⟨x, hx, hp, hq⟩ => by
    have le : ∀ {l : List Nat}, (∀ x, x ∈ l → q x = true → p x = true) → (l.filter q).length ≤ (l.filter p).length := by
      intro l
      induction l with
      | nil => intro _; simp
      | cons z l ih =>
        intro hh
        have := ih fun x hx => hh x (by simp [hx])
        cases hz : q z with
        | true => rw [List.filter_cons_of_pos hz, List.filter_cons_of_pos (hh z (by simp) hz)]; simp; exact this
        | false =>
          rw [List.filter_cons_of_neg (by simp [hz])]
          cases hz2 : p z with
          | true => rw [List.filter_cons_of_pos hz2]; simp; omega
          | false => rw [List.filter_cons_of_neg (by simp [hz2])]; exact this
    rcases List.mem_cons.1 hx with rfl | hx
    · rw [List.filter_cons_of_neg (by simp [hq]), List.filter_cons_of_pos hp]
      have := le (l := r) fun x hx => h x (by simp [hx])
      simp; omega
    · have ih := filter_lt (l := r) (fun x hx => h x (by simp [hx])) ⟨x, hx, hp, hq⟩
      cases hy : q y with
      | true => rw [List.filter_cons_of_pos hy, List.filter_cons_of_pos (h y (by simp) hy)]; simp; exact ih
      | false =>
        rw [List.filter_cons_of_neg (by simp [hy])]
        cases hy2 : p y with
        | true => rw [List.filter_cons_of_pos hy2]; simp; omega
        | false => rw [List.filter_cons_of_neg (by simp [hy2])]; exact ih
theorem cnt_set {n i : Nat} {D : Nat → Bool} (hi : i < n) (hD : D i = false) : cnt n (fun j => D j || j == i) < cnt n D := by
  refine filter_lt ?_ ⟨i, List.mem_range.2 hi, by simp [hD], by simp⟩
  intro x _ h
  simp only [Bool.not_eq_true', Bool.or_eq_false_iff] at h
  simp [h.1]
theorem cnt_zero {n : Nat} {D : Nat → Bool} (h : cnt n D = 0) : ∀ i, i < n → D i = true := by
  intro i hi
  have := List.eq_nil_of_length_eq_zero h
  cases hd : D i with
  | true => rfl
  | false =>
    have : i ∈ (List.range n).filter fun i => !D i := List.mem_filter.2 ⟨List.mem_range.2 hi, by simp [hd]⟩
    simp_all
section
variable {P : Program} {Γ : Nat → TK} {ren : List (Nat × Nat)} {cr : List (Nat × CR)} {ops : List Oper} {m : Nat} {s : St} {tr : List TE} {zb : Base} {Q : Exit → Act → World → Prop}
theorem tail_any (X : Ctx P ty Γ) (K : Chk ops m) {vcs : List Prop} {st2 : St} (hv : ∀ q, q ∈ vcs → q) (hQ : ∀ a w, Inv ty zb st2 a w → Q .normal a w) : ∀ (fuel k : Nat) (st : St) (acc : List Prop) (listed : Array Bool) (a : Act) (w : World), m ≤ k → k ≤ ops.length → ops.length - k ≤ fuel → listed.size = ops.length →
    (∀ i, listed.getD i false = true ↔ i < k) → run P ty Γ ren cr ops (ops.drop k) st acc = some (vcs, st2) → Inv ty zb st a w → wpAny P .any ops.toArray Q fuel listed a w := by
  have fin : ∀ {k st acc a w}, ops.length ≤ k → run P ty Γ ren cr ops (ops.drop k) st acc = some (vcs, st2) → Inv ty zb st a w → Q .normal a w := by
    intro k st acc a w hk hr iv
    rw [List.drop_eq_nil_of_le hk] at hr
    simp only [run, Option.some.injEq, Prod.mk.injEq] at hr
    exact hQ a w (hr.2 ▸ iv)
  have rdy : ∀ {k : Nat} {listed : Array Bool}, k < ops.length → listed.size = ops.length → (∀ i, listed.getD i false = true ↔ i < k) → k ∈ Region.ready .any ops.toArray listed := by
    intro k listed hk hl hL
    rw [ready_iff hl]
    refine ⟨ops[k], List.getElem?_eq_getElem hk, ?_, fun j hj => (hL j).2 (K.back k _ (List.getElem?_eq_getElem hk) j hj)⟩
    cases h : listed.getD k false with
    | false => rfl
    | true => have := (hL k).1 h; omega
  intro fuel
  induction fuel with
  | zero =>
    intro k st acc listed a w hmk hkn hf hl hL hr iv
    refine ⟨?_, fin (by omega) hr iv⟩
    apply List.eq_nil_iff_forall_not_mem.2
    intro i hi
    obtain ⟨o, ho, h1, _⟩ := (ready_iff hl).1 hi
    have := (List.getElem?_eq_some_iff.1 ho).1
    rw [(hL i).2 (by omega)] at h1
    cases h1
  | succ fuel ih =>
    intro k st acc listed a w hmk hkn hf hl hL hr iv
    refine ⟨fun hnil => ?_, fun i hi => ?_⟩
    · by_cases hk : k < ops.length
      · have := rdy hk hl hL
        rw [hnil] at this
        simp at this
      · exact fin (by omega) hr iv
    · obtain ⟨o, ho, h1, h2⟩ := (ready_iff hl).1 hi
      have hin := (List.getElem?_eq_some_iff.1 ho).1
      have hki : k ≤ i := by
        rcases Nat.lt_or_ge i k with h | h
        · rw [(hL i).2 h] at h1; cases h1
        · exact h
      have hik : i = k := by
        rcases Nat.lt_or_ge k i with h | h
        · exfalso
          have hc : ∀ i o, listed.getD i false = true → ops[i]? = some o → ∀ j, j ∈ edges o → listed.getD j false = true := fun i o hi ho j hj => (hL j).2 (by have := K.back i o ho j hj; have := (hL i).1 hi; omega)
          have := clo_ok (D := fun j => listed.getD j false = true) K.back hc i o ho h2 k (K.tail i o (by omega) ho k h)
          have := (hL k).1 this
          omega
        · omega
      subst hik
      have hdrop : ops.drop i = o :: ops.drop (i + 1) := by
        rw [List.drop_eq_getElem_cons hin]
        congr 1
        have := List.getElem?_eq_getElem hin
        rw [ho] at this
        simpa using this.symm
      rw [hdrop] at hr
      obtain ⟨vc, st1, hs, hr2⟩ := run_split hr
      have hstep := step_ok (Q := Q) X.kind X.one hs iv (fun q hq => hv q (run_acc hr2 q (List.mem_append_left _ hq)))
      unfold wpOp
      rw [List.getElem?_toArray, ho]
      dsimp only
      have := hstep.mono fun a' w' iv' => ih (i + 1) st1 _ (listed.setIfInBounds i true) a' w' (by omega) (by omega) (by omega) (by simpa using hl)
        (fun j => by
          rw [set_getD (by omega)]
          simp only [Bool.or_eq_true, beq_iff_eq, hL]
          omega) hr2 iv'
      exact this
theorem head_any (X : Ctx P ty Γ) (K : Chk ops m) {vc1 vcs : List Prop} {st2 : St} (T : Trace Γ (Elt P ty) (Sound ty P) ren cr ops m s tr vcs) (hnc : nocond s.sl = true) (hv : ∀ q, q ∈ vcs → q) (hQ : ∀ a w, Inv ty zb st2 a w → Q .normal a w)
    (hr : run P ty Γ ren cr ops (ops.drop m) (pre tr s m) vc1 = some (vcs, st2)) : ∀ (fuel : Nat) (listed : Array Bool) (a : Act) (w : World), cnt ops.length (fun i => listed.getD i false) ≤ fuel → listed.size = ops.length → (∀ i, listed.getD i false = true → i < m) →
    (∀ i o, listed.getD i false = true → ops[i]? = some o → ∀ j, j ∈ edges o → listed.getD j false = true) → Inv ty zb (mkD (fun i => listed.getD i false) tr s m) a w → wpAny P .any ops.toArray Q fuel listed a w := by
  have all : ∀ {listed : Array Bool} {fuel : Nat} {a : Act} {w : World}, listed.size = ops.length → (∀ i, listed.getD i false = true → i < m) → (∀ i, i < m → listed.getD i false = true) → cnt ops.length (fun i => listed.getD i false) ≤ fuel → Inv ty zb (mkD (fun i => listed.getD i false) tr s m) a w → wpAny P .any ops.toArray Q fuel listed a w := by
    intro listed fuel a w hl h1 h2 hf iv
    have heq : ∀ i, i ≤ m → mkD (fun i => listed.getD i false) tr s i = pre tr s i := by
      intro i
      induction i with
      | zero => intro _; rfl
      | succ i ih =>
        intro hi
        rw [mkD, pre, mkD, ih (by omega), h2 i (by omega)]
    rw [heq m (Nat.le_refl _)] at iv
    refine tail_any X K hv hQ fuel m _ vc1 listed a w (Nat.le_refl _) K.le ?_ hl (fun i => ⟨h1 i, h2 i⟩) hr iv
    refine Nat.le_trans ?_ hf
    unfold cnt
    have hsub : (List.range ops.length).filter (fun i => !listed.getD i false) = (List.range ops.length).filter fun i => decide (m ≤ i) := by
      apply List.filter_congr
      intro i _
      by_cases h : m ≤ i
      · cases hh : listed.getD i false with
        | true => have := h1 i hh; omega
        | false => simp [h]
      · simp [h2 i (by omega), h]
    rw [hsub]
    have : ∀ n, m ≤ n → ((List.range n).filter fun i => decide (m ≤ i)).length = n - m := by
      intro n hn
      induction n with
      | zero => simp
      | succ n ih =>
        rw [List.range_succ, List.filter_append]
        by_cases h : m ≤ n
        · simp [ih h, h]; omega
        · have : (List.range n).filter (fun i => decide (m ≤ i)) = [] := by
            apply List.filter_eq_nil_iff.2
            intro i hi
            have := List.mem_range.1 hi
            simp; omega
          simp [this, h]; omega
    rw [this _ K.le]
    exact Nat.le_refl _
  intro fuel
  induction fuel with
  | zero =>
    intro listed a w hf hl h1 h2 iv
    have hz := cnt_zero (by omega : cnt ops.length (fun i => listed.getD i false) = 0)
    exact all hl h1 (fun i hi => hz i (by have := K.le; omega)) hf iv
  | succ fuel ih =>
    intro listed a w hf hl h1 h2 iv
    by_cases hall : ∀ i, i < m → listed.getD i false = true
    · exact all hl h1 hall hf iv
    · have hex : ∃ i, i < m ∧ listed.getD i false = false ∧ ∀ j, j < i → listed.getD j false = true := by
        have : ∃ i, i < m ∧ listed.getD i false = false := by
          apply Classical.byContradiction
          intro hno
          apply hall
          intro i hi
          cases h : listed.getD i false with
          | true => rfl
          | false => exact absurd ⟨i, hi, h⟩ hno
        obtain ⟨i, hi, h⟩ := this
        induction i using Nat.strongRecOn with
        | _ i ihi =>
          by_cases hlow : ∀ j, j < i → listed.getD j false = true
          · exact ⟨i, hi, h, hlow⟩
          · have : ∃ j, j < i ∧ listed.getD j false = false := by
              apply Classical.byContradiction
              intro hno
              apply hlow
              intro j hj
              cases hh : listed.getD j false with
              | true => rfl
              | false => exact absurd ⟨j, hj, hh⟩ hno
            obtain ⟨j, hj, hjf⟩ := this
            exact ihi j hj (by omega) hjf
      have hml := K.le
      refine ⟨fun hnil => ?_, fun i hi => ?_⟩
      · obtain ⟨i, hi, hif, hlow⟩ := hex
        have hin : i < ops.length := by omega
        have : i ∈ Region.ready .any ops.toArray listed := (ready_iff hl).2 ⟨ops[i], List.getElem?_eq_getElem hin, hif, fun j hj => hlow j (K.back i _ (List.getElem?_eq_getElem hin) j hj)⟩
        rw [hnil] at this
        simp at this
      · obtain ⟨o, ho, hif, hE⟩ := (ready_iff hl).1 hi
        have hin := (List.getElem?_eq_some_iff.1 ho).1
        have him : i < m := by
          rcases Nat.lt_or_ge i m with h | h
          · exact h
          · exfalso
            obtain ⟨j, hj, hjf, _⟩ := hex
            have := clo_ok (D := fun j => listed.getD j false = true) K.back h2 i o ho hE j (K.tail i o h ho j (by omega))
            rw [hjf] at this; cases this
        unfold wpOp
        rw [List.getElem?_toArray, ho]
        dsimp only
        have hstep := draw_step (Q := Q) X.kind T K hv hnc (D := fun i => listed.getD i false) h1 h2 him hif ho hE iv
        have hset : ∀ j, (listed.setIfInBounds i true).getD j false = (listed.getD j false || j == i) := fun j => set_getD (by omega)
        have hfun : (fun j => (listed.setIfInBounds i true).getD j false) = fun j => listed.getD j false || j == i := funext hset
        have := hstep.mono fun a' w' iv' => ih (listed.setIfInBounds i true) a' w'
          (by rw [hfun]; have := cnt_set (D := fun i => listed.getD i false) hin hif; omega) (by simpa using hl)
          (fun j hj => by
            rw [hset, Bool.or_eq_true, beq_iff_eq] at hj
            rcases hj with hj | rfl
            · exact h1 j hj
            · exact him)
          (fun j o' hj ho' x hx => by
            rw [hset] at hj ⊢
            rw [Bool.or_eq_true, beq_iff_eq] at hj
            rw [Bool.or_eq_true]
            rcases hj with hj | rfl
            · exact Or.inl (h2 j o' hj ho' x hx)
            · rw [ho] at ho'
              simp only [Option.some.injEq] at ho'
              subst ho'
              exact Or.inl (hE x hx))
          (by rw [hfun]; exact iv')
        exact this
end
section
variable {P : Program} {Γ : Nat → TK} {zb : Base} {Q : Post} {st : St}
theorem W.draw (X : Ctx P ty Γ) (ren : List (Nat × Nat)) (cr : List (Nat × CR)) (ks hs : List Nat) (m : Nat) {id : Nat} {ops : List Oper} {vc : List Prop} {st' : St} (hm : P.follows .mixedOrders = true) (hc : chk ops m = true) (h : regD P ty Γ ren cr ks hs m ops st = some (vc, st')) (hv : AllP vc) (k : Q .normal st') :
    W P ty zb (.region id ops.toArray true) Q st := by
  intro a w iv
  obtain ⟨n, sl0, hp0⟩ := st
  have K := chk_ok hc
  simp only [regD] at h
  split at h
  · rename_i vc1 s1 hnc hq
    split at h
    · rename_i vc2 s2 hr
      split at h
      · rename_i sl hp h1 h2
        split at h
        · rename_i hcl hn
          simp only [Option.some.injEq, Prod.mk.injEq] at h
          obtain ⟨rfl, rfl⟩ := h
          obtain ⟨tr, t1, t2, t3⟩ := trace_of (k := 0) hq (fun i o ho => by
            rw [List.getElem?_take] at ho
            split at ho
            · simpa using ho
            · cases ho)
          have hlen : (ops.take m).length = m := by rw [List.length_take]; have := K.le; omega
          rw [hlen] at t1 t2 t3
          subst t2
          have T : Trace Γ (Elt P ty) (Sound ty P) ren cr ops m ⟨n, sl0, hp0⟩ tr vc2 := ⟨t1, fun i hi => by
            obtain ⟨o, e, vc, p1, p2, p3, p4, p5, p6⟩ := t3 i hi
            exact ⟨o, e, vc, by simpa using p1, p2, p3, p4, p5, fun q hq => run_acc hr q (p6 q hq)⟩⟩
          refine wp_region_any hm ?_
          have hz : ∀ i, (Array.replicate ops.toArray.size false).getD i false = false := by
            intro i
            rw [Array.getD_eq_getD_getElem?, Array.getElem?_replicate]
            split <;> rfl
          refine head_any (Q := Lift ty zb Q) X K T hnc hv.out (fun a w iv' => ⟨_, iv'.weaken (Nat.eq_of_beq_eq_true hn).symm (keepS_look h1) (keepH_look h2) hcl, k⟩) hr _ _ a _ ?_ (by simp) (fun i hi => by rw [hz] at hi; cases hi) (fun i o hi => by rw [hz] at hi; cases hi) ?_
          · unfold cnt
            refine Nat.le_trans (List.length_filter_le _ _) ?_
            simp
          · have hD : (fun i => (Array.replicate ops.toArray.size false).getD i false) = fun _ => false := funext hz
            rw [hD]
            have hmk : ∀ i, mkD (fun _ => false) tr ⟨n, sl0, hp0⟩ i = ⟨n, sl0, hp0⟩ := by
              intro i
              induction i with
              | zero => rfl
              | succ i ih => rw [mkD_succ_out rfl, ih]
            rw [hmk]
            obtain ⟨env, g⟩ := iv.good
            have hdr : Below w.heap.size w w.drew := (Below.refl _ _).drew
            refine ⟨iv.size, iv.defers, iv.kept.trans (kept_below hdr iv.kept.size), env, ?_⟩
            have := g.grow (os := []) (w' := w.drew) (env' := env) iv.kept.size rfl (News.none hdr)
            exact this
        · cases h
      · cases h
    · cases h
  · cases h
end
end Go.Proofs.Ythlflnplnajjiaa.G
