/-
  Regions that draw their order: the theorem.
-/
import Derived.Test.YthlflnplnajjiaaG16
namespace Go.Proofs.Ythlflnplnajjiaa.G
set_option linter.all false
open Go.RowKit L D
variable {ty : Tag → Nat}
/-! ### What the look at the edges gives -/
theorem idx_get {α : Type} : ∀ {l : List α} {k i : Nat} {x : α}, l[i]? = some x → (k + i, x) ∈ idx k l
  | y :: r, k, 0, x, h => by simp at h; simp [idx, h]
  | y :: r, k, i + 1, x, h => by
    have := idx_get (l := r) (k := k + 1) (i := i) (by simpa using h)
    rw [idx]; right
    rw [show k + (i + 1) = k + 1 + i by omega]; exact this
structure Chk (ops : List Oper) (m : Nat) : Prop where
  le : m ≤ ops.length
  back : ∀ i o, ops[i]? = some o → ∀ j, j ∈ edges o → j < i
  uses : ∀ i o, i < m → ops[i]? = some o → ∀ t, t ∈ tmpsOf o → ∀ k o', k < m → ops[k]? = some o' → o'.dst = some t → k = i ∨ k ∈ edges o ∨ (i < k ∧ ((clo ops).getD k 0).testBit i = true)
  guard : ∀ i o j x, i < m → ops[i]? = some o → o.guard = some (j, x) → j < i ∧ j < m ∧ j ∈ edges o
  dist : ∀ i o k o' d, i < m → k < m → ops[i]? = some o → ops[k]? = some o' → o.dst = some d → o'.dst = some d → k = i
  tail : ∀ i o, m ≤ i → ops[i]? = some o → ∀ j, j < i → ((clo ops).getD i 0).testBit j = true
theorem chk_ok {ops : List Oper} {m : Nat} (h : chk ops m = true) : Chk ops m := by
  simp only [chk, Bool.and_eq_true, List.all_eq_true, Bool.or_eq_true] at h
  obtain ⟨⟨⟨h1, h2⟩, h3⟩, h4⟩ := h
  have hA : ∀ {i o}, i < m → ops[i]? = some o → (i, o) ∈ idx 0 (ops.take m) := by
    intro i o hi ho
    have := idx_get (l := ops.take m) (k := 0) (i := i) (x := o) (by rw [List.getElem?_take, if_pos hi]; exact ho)
    simpa using this
  have hall : ∀ {i o}, ops[i]? = some o → (i, o) ∈ idx 0 ops := by
    intro i o ho
    simpa using idx_get (l := ops) (k := 0) ho
  refine ⟨Nat.le_of_ble_eq_true h1, fun i o ho j hj => ?_, fun i o hi ho t ht k o' hk ho' hd => ?_, fun i o j x hi ho hg => ?_, fun i o k o' d hi hk ho ho' hd hd' => ?_, fun i o hi ho j hj => ?_⟩
  · have := h2 _ (hall ho) j hj
    exact Nat.le_of_ble_eq_true this
  · have hu := (h3 _ (hA hi ho)).1.1
    simp only [usesok, List.all_eq_true, Bool.or_eq_true, Bool.not_eq_true', List.any_eq_true, Bool.and_eq_true] at hu
    have hdi : dstIs o' t = true := by simp [dstIs, hd]
    rcases hu t ht _ (hA hk ho') with ((q | q) | q) | q
    · rw [hdi] at q; cases q
    · exact Or.inl (Nat.eq_of_beq_eq_true q)
    · obtain ⟨y, hy, q⟩ := q
      have hky : k = y := Nat.eq_of_beq_eq_true q
      exact Or.inr (Or.inl (by rw [hky]; exact hy))
    · exact Or.inr (Or.inr ⟨Nat.le_of_ble_eq_true q.1, q.2⟩)
  · have hgd := (h3 _ (hA hi ho)).1.2
    simp only [guardok, hg, Bool.and_eq_true, List.any_eq_true] at hgd
    obtain ⟨⟨q1, q2⟩, y, hy, q3⟩ := hgd
    have := Nat.eq_of_beq_eq_true q3
    exact ⟨Nat.le_of_ble_eq_true q1, Nat.le_of_ble_eq_true q2, by rw [this]; exact hy⟩
  · have hds := (h3 _ (hA hi ho)).2
    simp only [dstok1, hd, List.all_eq_true, Bool.or_eq_true, Bool.not_eq_true'] at hds
    rcases hds _ (hA hk ho') with q | q
    · exact Nat.eq_of_beq_eq_true q
    · simp [dstIs, hd'] at q
  · rcases h4 _ (hall ho) with q | q
    · have := Nat.le_of_ble_eq_true q
      simp only at this
      omega
    · exact q j (List.mem_range.2 hj)
theorem clo_get : ∀ (l : List Oper) (acc : List Nat), (∀ j, j < acc.length → (l.foldl cloStep acc).getD j 0 = acc.getD j 0) ∧
    ∀ i o, l[i]? = some o → (∀ j, j ∈ edges o → j < acc.length + i) → (l.foldl cloStep acc).getD (acc.length + i) 0 = (edges o).foldl (fun s j => s ||| 2 ^ j ||| (l.foldl cloStep acc).getD j 0) 0
  | [], acc => ⟨fun _ _ => rfl, fun i o h => by simp at h⟩
  | o :: r, acc => by
    obtain ⟨h1, h2⟩ := clo_get r (cloStep acc o)
    have hl : (cloStep acc o).length = acc.length + 1 := by simp [cloStep]
    have ha : ∀ j, j < acc.length → ((o :: r).foldl cloStep acc).getD j 0 = acc.getD j 0 := by
      intro j hj
      rw [List.foldl_cons, h1 j (by omega)]
      simp only [cloStep, List.getD_eq_getElem?_getD]
      rw [List.getElem?_append_left hj]
    refine ⟨ha, fun i o' ho hj => ?_⟩
    cases i with
    | zero =>
      simp at ho
      subst ho
      rw [Nat.add_zero, List.foldl_cons, h1 _ (by omega)]
      have : (cloStep acc o).getD acc.length 0 = (edges o).foldl (fun s j => s ||| 2 ^ j ||| acc.getD j 0) 0 := by
        simp [cloStep, List.getD_eq_getElem?_getD]
      rw [this]
      have hcong : ∀ (es : List Nat) (s0 : Nat), (∀ j, j ∈ es → j < acc.length) → es.foldl (fun s j => s ||| 2 ^ j ||| acc.getD j 0) s0 = es.foldl (fun s j => s ||| 2 ^ j ||| (r.foldl cloStep (cloStep acc o)).getD j 0) s0 := by
        intro es
        induction es with
        | nil => intros; rfl
        | cons j es ih =>
          intro s0 hh
          rw [List.foldl_cons, List.foldl_cons, ih _ fun k hk => hh k (by simp [hk])]
          have := ha j (hh j (by simp))
          rw [List.foldl_cons] at this
          rw [this]
      exact hcong _ _ fun j hjj => by simpa using hj j hjj
    | succ i =>
      have := h2 i o' (by simpa using ho) (fun j hjj => by rw [hl]; have := hj j hjj; omega)
      rw [hl, show acc.length + 1 + i = acc.length + (i + 1) by omega] at this
      rw [List.foldl_cons]; exact this
theorem bits_foldl (g : Nat → Nat) (k : Nat) : ∀ (es : List Nat) (s0 : Nat), (es.foldl (fun s j => s ||| 2 ^ j ||| g j) s0).testBit k = true → s0.testBit k = true ∨ ∃ j, j ∈ es ∧ (k = j ∨ (g j).testBit k = true)
  | [], s0, h => Or.inl h
  | j :: es, s0, h => by
    rcases bits_foldl g k es _ h with h | ⟨i, hi, h⟩
    · rw [Nat.testBit_or, Nat.testBit_or, Nat.testBit_two_pow] at h
      simp only [Bool.or_eq_true, decide_eq_true_eq] at h
      rcases h with (h | h) | h
      · exact Or.inl h
      · exact Or.inr ⟨j, by simp, Or.inl h.symm⟩
      · exact Or.inr ⟨j, by simp, Or.inr h⟩
    · exact Or.inr ⟨i, by simp [hi], h⟩
theorem clo_ok {ops : List Oper} (hb : ∀ i o, ops[i]? = some o → ∀ j, j ∈ edges o → j < i) {D : Nat → Prop} (hD : ∀ i o, D i → ops[i]? = some o → ∀ j, j ∈ edges o → D j) : ∀ (i : Nat) (o : Oper), ops[i]? = some o → (∀ j, j ∈ edges o → D j) → ∀ k, ((clo ops).getD i 0).testBit k = true → D k := by
  intro i
  induction i using Nat.strongRecOn with
  | _ i ih =>
    intro o ho he k hk
    have := (clo_get ops []).2 i o ho (fun j hj => by simpa using hb i o ho j hj)
    simp only [List.length_nil, Nat.zero_add] at this
    have hc : (clo ops).getD i 0 = (edges o).foldl (fun s j => s ||| 2 ^ j ||| (clo ops).getD j 0) 0 := this
    rw [hc] at hk
    rcases bits_foldl _ k _ _ hk with h | ⟨j, hj, h⟩
    · simp at h
    · rcases h with rfl | h
      · exact he k hj
      · have hji := hb i o ho j hj
        have hlen : j < ops.length := by have := (List.getElem?_eq_some_iff.1 ho).1; omega
        exact ih j hji ops[j] (List.getElem?_eq_getElem hlen) (hD j _ (he j hj) (List.getElem?_eq_getElem hlen)) k h

section
variable {P : Program} {Γ : Nat → TK} {ren : List (Nat × Nat)} {cr : List (Nat × CR)} {ops : List Oper} {m : Nat} {s : St} {tr : List TE} {vcs : List Prop}
theorem qcore_path {E : Tag → Nat → Prop} {S : FuncId → List S1 → List S1 → Prop} {st : St} {o : Oper} {vc : List Prop} {v : SV} {os : Hp} (h : qcore Γ E S ren cr ops st o = some (vc, v, os)) :
    ∃ p, guardp st ops o = some p ∧ (p = [] → ∀ q x, v ≠ .cond q x) ∧ (p ≠ [] → (∃ x, v = .cond p x) ∧ os = [] ∧ ∀ d, o.dst = some d → ∀ e, e ∈ p → e.1 ≠ d) ∧ (∀ n x, look os n = some x → look st.hp n = none ∧ pin n = false) := by
  unfold qcore at h
  split at h
  · rename_i nm _ _ hg
    split at h
    · rename_i vc1 v1 os1 hq
      split at h
      · rename_i hf _
        simp only [Option.some.injEq, Prod.mk.injEq] at h
        obtain ⟨_, rfl, rfl⟩ := h
        refine ⟨[], hg, fun _ q x => ?_, fun hh => absurd rfl hh, fun n x hl => ⟨fresh_spec hf n x hl, fresh_pin hf n x hl⟩⟩
        rintro rfl
        unfold quiet at hq
        repeat' split at hq
        all_goals first
          | (cases hq; done)
          | (simp only [out1, Option.some.injEq, Out.mk.injEq] at hq; cases hq.2.1; done)
          | (simp only [Option.some.injEq, Out.mk.injEq] at hq; cases hq.2.1; done)
          | (simp only [Option.some.injEq] at hq; unfold outs at hq; (repeat' split at hq) <;> (simp only [Out.mk.injEq] at hq; cases hq.2.1))
      · cases h
    · cases h
  · rename_i nm e p _ _ hg
    split at h
    · rename_i hany
      split at h
      · rename_i vc1 v1 hq
        simp only [Option.some.injEq, Prod.mk.injEq] at h
        obtain ⟨_, rfl, rfl⟩ := h
        refine ⟨e :: p, hg, (fun hh => by cases hh), fun _ => ⟨⟨_, rfl⟩, rfl, fun d hd x hx hxd => ?_⟩, fun n x hl => by simp [look] at hl⟩
        rw [List.any_eq_false] at hany
        exact hany x hx (by rw [hd, hxd]; simp)
      · cases h
    · cases h
  · cases h
theorem Trace.fresh {E : Tag → Nat → Prop} {S : FuncId → List S1 → List S1 → Prop} (T : Trace Γ E S ren cr ops m s tr vcs) : FreshAll tr s m := by
  intro i e hi he n x hl
  obtain ⟨o, e', vc, _, he', _, _, hq, _⟩ := T.one i hi
  rw [he] at he'
  simp only [Option.some.injEq] at he'
  subst he'
  obtain ⟨p, _, _, _, hf⟩ := qcore_path hq
  exact (hf n x hl).1
theorem Trace.path {E : Tag → Nat → Prop} {S : FuncId → List S1 → List S1 → Prop} (T : Trace Γ E S ren cr ops m s tr vcs) (K : Chk ops m) : ∀ (i : Nat), i < m → ∀ o p, ops[i]? = some o → guardp (pre tr s i) ops o = some p → ∀ e, e ∈ p →
    ∃ k o', k < i ∧ ops[k]? = some o' ∧ o'.dst = some e.1 ∧ ∀ D : Nat → Prop, (∀ i o, D i → ops[i]? = some o → ∀ j, j ∈ edges o → D j) → (∀ j, j ∈ edges o → D j) → D k := by
  intro i
  induction i using Nat.strongRecOn with
  | _ i ih =>
    intro hi o p ho hg e he
    unfold guardp at hg
    split at hg
    · simp at hg; subst hg; simp at he
    · rename_i j x hgd
      obtain ⟨hji, hjm, hje⟩ := K.guard i o j x hi ho hgd
      obtain ⟨q, ej, vcj, hq, hej, hdj, _, hqc, _⟩ := T.one j hjm
      rw [hq] at hg
      dsimp only at hg
      rw [hdj] at hg
      dsimp only at hg
      have hsl : look (pre tr s i).sl ej.d = some ej.v := by
        refine mkD_slot hji rfl hej fun j' e' h1 _ h3 h4 => ?_
        obtain ⟨q', e2, _, hq', he2, hd2, _⟩ := T.one j' (by omega)
        rw [h3] at he2
        simp only [Option.some.injEq] at he2
        subst he2
        exact K.dist j q j' q' ej.d hjm (by omega) hq hq' hdj (by rw [hd2, h4])
      rw [hsl] at hg
      obtain ⟨pj, hgj, hp0, hp1, _⟩ := qcore_path hqc
      have base : ∃ k o', k < i ∧ ops[k]? = some o' ∧ o'.dst = some ej.d ∧ ∀ D : Nat → Prop, (∀ i o, D i → ops[i]? = some o → ∀ j, j ∈ edges o → D j) → (∀ j, j ∈ edges o → D j) → D k :=
        ⟨j, q, hji, hq, hdj, fun D _ hE => hE j hje⟩
      split at hg
      · simp only [Option.some.injEq] at hg
        subst hg
        simp only [List.mem_singleton] at he
        subst he
        exact base
      · rename_i p' b hv
        simp only [Option.some.injEq] at hv
        simp only [Option.some.injEq] at hg
        subst hg
        rcases List.mem_cons.1 he with rfl | he
        · exact base
        · have hpj : pj = p' := by
            by_cases hnil : pj = []
            · exact absurd hv (hp0 hnil _ _)
            · obtain ⟨x', hx'⟩ := (hp1 hnil).1
              rw [hx'] at hv
              simp only [SV.cond.injEq] at hv
              exact hv.1
          subst hpj
          obtain ⟨k, o', h1, h2, h3, h4⟩ := ih j hji hjm q pj hq hgj e he
          exact ⟨k, o', by omega, h2, h3, fun D hD hE => h4 D hD (hD j q (hE j hje) hq)⟩
      · cases hg
/-- One of the quiet operations runs. -/
theorem draw_step (C : ∀ t, TKok P t (Γ t)) (T : Trace Γ (Elt P ty) (Sound ty P) ren cr ops m s tr vcs) (K : Chk ops m) (hv : ∀ q, q ∈ vcs → q) (hnc : nocond s.sl = true) {zb : Base} {Q : Exit → Act → World → Prop} {D : Nat → Bool} (hDm : ∀ i, D i = true → i < m) (hDc : ∀ i o, D i = true → ops[i]? = some o → ∀ j, j ∈ edges o → D j = true)
    {i : Nat} (hi : i < m) (hDi : D i = false) {o : Oper} (ho : ops[i]? = some o) (hE : ∀ j, j ∈ edges o → D j = true) {a : Act} {w : World} (iv : Inv ty zb (mkD D tr s m) a w) :
    Runs P ops.toArray o a w (fun a' w' => Inv ty zb (mkD (fun j => D j || j == i) tr s m) a' w') Q := by
  obtain ⟨o', e, vc, ho', he, hd, hnm, hq, hvc⟩ := T.one i hi
  rw [ho] at ho'
  simp only [Option.some.injEq] at ho'
  subst ho'
  have hfr := T.fresh
  have hdist : ∀ {j e'}, j < m → tr[j]? = some e' → ∃ q, ops[j]? = some q ∧ q.dst = some e'.d := by
    intro j e' hj he'
    obtain ⟨q, e2, _, hq', he2, hd2, _⟩ := T.one j hj
    rw [he'] at he2
    simp only [Option.some.injEq] at he2
    subst he2
    exact ⟨q, hq', hd2⟩
  have huniq : ∀ {j j' : Nat} {e1 e2 : TE}, j < m → j' < m → tr[j]? = some e1 → tr[j']? = some e2 → e2.d = e1.d → j' = j := by
    intro j j' e1 e2 h1 h2 h3 h4 h5
    obtain ⟨q1, p1, p2⟩ := hdist h1 h3
    obtain ⟨q2, p3, p4⟩ := hdist h2 h4
    exact K.dist j q1 j' q2 e1.d h1 h2 p1 p3 p2 (by rw [p4, h5])
  -- where both states agree
  have agree : ∀ t, (∀ k o', k < m → ops[k]? = some o' → o'.dst = some t → k = i ∨ (k < i ∧ D k = true) ∨ (i < k ∧ D k = false)) → look (pre tr s i).sl t = look (mkD D tr s m).sl t := by
    intro t ht
    by_cases hex : ∃ k e', k < i ∧ D k = true ∧ tr[k]? = some e' ∧ e'.d = t
    · obtain ⟨k, e', hk, hDk, he', rfl⟩ := hex
      rw [mkD_slot hk rfl he' fun j' e2 h1 _ h3 h4 => huniq (by omega) (by omega) he' h3 h4, mkD_slot (by omega) hDk he' fun j' e2 h1 _ h3 h4 => huniq (by omega) h1 he' h3 h4]
    · rw [mkD_base (fun k e' hk _ he' hdt => by
          obtain ⟨q, h1, h2⟩ := hdist (by omega) he'
          rcases ht k q (by omega) h1 (by rw [h2, hdt]) with h | h | h
          · omega
          · exact hex ⟨k, e', hk, h.2, he', hdt⟩
          · omega),
        mkD_base (fun k e' hk hDk he' hdt => by
          obtain ⟨q, h1, h2⟩ := hdist hk he'
          rcases ht k q hk h1 (by rw [h2, hdt]) with h | h | h
          · subst h; rw [hDi] at hDk; cases hDk
          · exact hex ⟨k, e', h.1, h.2, he', hdt⟩
          · rw [h.2] at hDk; cases hDk)]
  obtain ⟨p, hgp, hp0, hp1, hpin⟩ := qcore_path hq
  have hpath : ∀ x, x ∈ p → ∃ k o', k < i ∧ ops[k]? = some o' ∧ o'.dst = some x.1 ∧ D k = true := by
    intro x hx
    obtain ⟨k, o', h1, h2, h3, h4⟩ := T.path K i hi o p ho hgp x hx
    exact ⟨k, o', h1, h2, h3, h4 (fun j => D j = true) hDc hE⟩
  have hpagree : ∀ x, x ∈ p → look (pre tr s i).sl x.1 = look (mkD D tr s m).sl x.1 := by
    intro x hx
    obtain ⟨k, o', h1, h2, h3, h4⟩ := hpath x hx
    refine agree x.1 fun k' o2 hk' ho2 hd2 => ?_
    have : k' = k := K.dist k o' k' o2 x.1 (by omega) hk' h2 ho2 h3 hd2
    subst this
    exact Or.inr (Or.inl ⟨h1, h4⟩)
  have hgp2 : guardp (mkD D tr s m) ops o = some p := by
    rw [← hgp]
    unfold guardp
    split
    · rfl
    · rename_i j x hgd
      split
      · rename_i q hqq
        split
        · rename_i d hdq
          have hmem : ∃ y, (d, y) ∈ p := by
            unfold guardp at hgp
            rw [hgd] at hgp
            dsimp only at hgp
            rw [hqq] at hgp
            dsimp only at hgp
            rw [hdq] at hgp
            dsimp only at hgp
            split at hgp
            · simp only [Option.some.injEq] at hgp; exact ⟨x, by rw [← hgp]; simp⟩
            · simp only [Option.some.injEq] at hgp; exact ⟨x, by rw [← hgp]; simp⟩
            · cases hgp
          obtain ⟨y, hy⟩ := hmem
          rw [← hpagree (d, y) hy]
        · rfl
      · rfl
  have hfresh : fresh (mkD D tr s m).hp e.os = true := by
    refine fresh_of fun n x hl => ?_
    cases hq2 : look (mkD D tr s m).hp n with
    | none => exact ⟨rfl, (hpin n x hl).2⟩
    | some y =>
      exfalso
      have hpi := hfr i e hi he n x hl
      rcases mkD_hp_case hq2 with h | ⟨j, e', hj, hDj, he', h⟩
      · have := mkD_hp_base (inD := fun _ => true) hfr (i := i) (by omega) h
        rw [show mkD (fun _ => true) tr s i = pre tr s i from rfl, hpi] at this
        cases this
      · have hji : j ≠ i := by rintro rfl; rw [hDi] at hDj; cases hDj
        by_cases hlt : j < i
        · have := mkD_hp_in (inD := fun _ => true) hfr (i := i) (by omega) hlt rfl he' h
          rw [show mkD (fun _ => true) tr s i = pre tr s i from rfl, hpi] at this
          cases this
        · have h2 := hfr j e' hj he' n y h
          have := mkD_hp_in (inD := fun _ => true) hfr (i := j) (by omega) (j := i) (by omega) rfl he hl
          rw [show mkD (fun _ => true) tr s j = pre tr s j from rfl, h2] at this
          cases this
  have hnom : ((mkD D tr s m).sl.any fun x => x.2.mentions e.d) = false := by
    rw [List.any_eq_false]
    intro x hx hm
    rcases mkD_mem hx with h | ⟨j, e', hj, hDj, he', rfl⟩
    · simp only [nocond, List.all_eq_true] at hnc
      have := hnc x h
      cases hx2 : x.2 with
      | cond q y => simp [hx2] at this
      | one y => simp [hx2, SV.mentions] at hm
      | tup y => simp [hx2, SV.mentions] at hm
    · obtain ⟨q, e2, vc2, hqq, he2, hd2, _, hqc, _⟩ := T.one j hj
      rw [he'] at he2
      simp only [Option.some.injEq] at he2
      subst he2
      obtain ⟨pj, hgj, hj0, hj1, _⟩ := qcore_path hqc
      by_cases hnil : pj = []
      · cases hx2 : e'.v with
        | cond q y => exact hj0 hnil _ _ hx2
        | one y => simp [hx2, SV.mentions] at hm
        | tup y => simp [hx2, SV.mentions] at hm
      · obtain ⟨y, hy⟩ := (hj1 hnil).1
        simp only [hy, SV.mentions, List.any_eq_true] at hm
        obtain ⟨z, hz, hzd⟩ := hm
        have hzd := Nat.eq_of_beq_eq_true hzd
        obtain ⟨k, o2, k1, k2, k3, k4⟩ := T.path K j hj q pj hqq hgj z hz
        have hDk := k4 (fun j => D j = true) hDc (hDc j q hDj hqq)
        have : k = i := K.dist i o k o2 e.d hi (by omega) ho k2 hd (by rw [k3, hzd])
        subst this
        rw [hDi] at hDk; cases hDk
  -- the state behind
  have hdm : e.v.mentions e.d = false := by
    by_cases hnil : p = []
    · cases hx2 : e.v with
      | cond q y => exact absurd hx2 (hp0 hnil _ _)
      | one y => rfl
      | tup y => rfl
    · obtain ⟨⟨y, hy⟩, _, hne⟩ := hp1 hnil
      rw [hy]
      simp only [SV.mentions]
      rw [List.any_eq_false]
      intro z hz hb
      exact hne e.d hd z hz (Nat.eq_of_beq_eq_true hb)
  have behind : ∀ a' w', Inv ty zb (app (mkD D tr s m) e) a' w' → Inv ty zb (mkD (fun j => D j || j == i) tr s m) a' w' := by
    intro a' w' iv'
    obtain ⟨env, g⟩ := iv'.good
    refine ⟨by rw [iv'.size, mkD_n]; show (mkD D tr s m).n = s.n; exact mkD_n m, iv'.defers, iv'.kept, env, g.congr ?_ ?_⟩
    · intro t v hl
      show look ((e.d, e.v) :: (mkD D tr s m).sl) t = some v
      by_cases ht : t = e.d
      · subst ht
        rw [mkD_slot hi (by simp) he fun j' e2 h1 _ h3 h4 => huniq hi h1 he h3 h4] at hl
        rw [look_eq]; exact hl
      · rw [look_ne ht]
        by_cases hex : ∃ k e', k < m ∧ D k = true ∧ tr[k]? = some e' ∧ e'.d = t
        · obtain ⟨k, e', hk, hDk, he', rfl⟩ := hex
          rw [mkD_slot hk (by simp [hDk]) he' fun j' e2 h1 _ h3 h4 => huniq hk h1 he' h3 h4] at hl
          rw [mkD_slot hk hDk he' fun j' e2 h1 _ h3 h4 => huniq hk h1 he' h3 h4]
          exact hl
        · rw [mkD_base fun k e' hk hDk he' hdt => by
            simp only [Bool.or_eq_true, beq_iff_eq] at hDk
            rcases hDk with h | rfl
            · exact hex ⟨k, e', hk, h, he', hdt⟩
            · rw [he] at he'
              simp only [Option.some.injEq] at he'
              exact ht (by rw [he', hdt])] at hl
          rw [mkD_base fun k e' hk hDk he' hdt => hex ⟨k, e', hk, hDk, he', hdt⟩]
          exact hl
    · intro n
      show look (mkD (fun j => D j || j == i) tr s m).hp n = look (e.os ++ (mkD D tr s m).hp) n
      cases hl : look e.os n with
      | some x =>
        rw [look_app_some hl]
        exact mkD_hp_in hfr (Nat.le_refl _) hi (by simp) he hl
      | none =>
        rw [look_app_none hl]
        cases hx : look (mkD (fun j => D j || j == i) tr s m).hp n with
        | some y =>
          rcases mkD_hp_case hx with h | ⟨j, e', hj, hDj, he', h⟩
          · exact (mkD_hp_base hfr (Nat.le_refl _) h).symm
          · have hji : j ≠ i := by
              rintro rfl
              rw [he] at he'
              simp only [Option.some.injEq] at he'
              subst he'
              rw [hl] at h; cases h
            have hDj : D j = true := by
              simp only [Bool.or_eq_true, beq_iff_eq] at hDj
              exact hDj.resolve_right hji
            exact (mkD_hp_in hfr (Nat.le_refl _) hj hDj he' h).symm
        | none =>
          cases hy : look (mkD D tr s m).hp n with
          | none => rfl
          | some y =>
            rcases mkD_hp_case hy with h | ⟨j, e', hj, hDj, he', h⟩
            · rw [mkD_hp_base hfr (Nat.le_refl _) h] at hx; cases hx
            · rw [mkD_hp_in hfr (Nat.le_refl _) hj (by simp [hDj]) he' h] at hx; cases hx
  have hput : St.put ⟨(mkD D tr s m).n, (mkD D tr s m).sl, e.os ++ (mkD D tr s m).hp⟩ o.dst e.v = app (mkD D tr s m) e := by
    rw [hd]
    simp only [St.put, hnom]
    rfl
  by_cases hw : Region.wanted o (yielded ops.toArray a.tmps) = true
  · have hh : holds a.tmps p := by
      obtain ⟨env, g⟩ := iv.good
      unfold guardp at hgp2
      split at hgp2
      · simp at hgp2; subst hgp2; intro y hy; simp at hy
      · rename_i j x hgd
        split at hgp2
        · rename_i q hqq
          split at hgp2
          · rename_i d hdq
            have hwd := (wanted_iff (ops := ops.toArray) hgd (by simpa using hqq) hdq a.tmps).1 hw
            split at hgp2
            · simp only [Option.some.injEq] at hgp2
              subst hgp2
              intro y hy
              simp at hy
              subst hy
              exact hwd
            · rename_i p' b hl
              simp only [Option.some.injEq] at hgp2
              subst hgp2
              intro y hy
              rcases List.mem_cons.1 hy with rfl | hy
              · exact hwd
              · exact (cond_bool g hl hwd).1 y hy
            · cases hgp2
          · cases hgp2
        · cases hgp2
    obtain ⟨env, g⟩ := iv.good
    have hcompat : Compat (pre tr s i).hp (mkD D tr s m).hp := by
      intro n x y h1 h2
      have h3 := pre_hp_mono hfr (Nat.le_of_lt hi) (Nat.le_refl m) h1
      have h4 := mkD_hp_pre hfr (Nat.le_refl m) h2
      rw [h3] at h4
      simpa using h4
    have hmono := qcore_mono hcompat g (by rw [mkD_n, mkD_n]) hgp hgp2 hh (fun x hx t hxt => agree t fun k o2 hk ho2 hd2 => by
        have ht : t ∈ tmpsOf o := by
          simp only [tmpsOf, List.mem_filterMap]
          exact ⟨x, hx, by rw [hxt]⟩
        rcases K.uses i o hi ho t ht k o2 hk ho2 hd2 with h | h | h
        · exact Or.inl h
        · exact Or.inr (Or.inl ⟨K.back i o ho k h, hE k h⟩)
        · refine Or.inr (Or.inr ⟨h.1, ?_⟩)
          cases hDk : D k with
          | false => rfl
          | true =>
            have := clo_ok (D := fun j => D j = true) K.back hDc k o2 ho2 (hDc k o2 hDk ho2) i h.2
            rw [hDi] at this; cases this) hpagree hfresh hq
    have := qcore_ok (Q := Q) C hmono iv (fun q hq => hv q (hvc q hq))
    rw [hput] at this
    exact this.mono behind
  · unfold Runs
    rw [if_neg hw]
    have hnil : p ≠ [] := by
      rintro rfl
      unfold guardp at hgp
      split at hgp
      · rename_i hgd; exact hw (by simp [Region.wanted, hgd])
      · repeat' split at hgp
        all_goals simp at hgp
    obtain ⟨⟨y, hy⟩, hos, _⟩ := hp1 hnil
    have hnh : ¬ holds a.tmps p := by
      intro hh
      unfold guardp at hgp
      split at hgp
      · rename_i hgd; exact hw (by simp [Region.wanted, hgd])
      · rename_i j x hgd
        split at hgp
        · rename_i q hqq
          split at hgp
          · rename_i d hdq
            have hdx : (d, x) ∈ p := by
              split at hgp
              · simp only [Option.some.injEq] at hgp; rw [← hgp]; simp
              · simp only [Option.some.injEq] at hgp; rw [← hgp]; simp
              · cases hgp
            exact hw ((wanted_iff (ops := ops.toArray) hgd (by simpa using hqq) hdq a.tmps).2 (hh _ hdx))
          · cases hgp
        · cases hgp
    apply behind
    obtain ⟨env, g⟩ := iv.good
    have hlt : e.d < a.tmps.size := by
      unfold qcore at hq
      have : dstok (pre tr s i) o.dst = true := by
        cases hdk : dstok (pre tr s i) o.dst with
        | true => rfl
        | false => rw [hdk] at hq; simp at hq
      rw [hd] at this
      rw [iv.size, mkD_n]
      have := Nat.le_of_ble_eq_true this
      rw [show (pre tr s i).n = s.n from mkD_n i] at this
      exact this
    have hgp3 := g.put (d := e.d) hlt (v := e.v) (u := undef) (by rw [hy]; exact ⟨fun hh => absurd hh hnh, fun _ => rfl⟩) hdm
    refine ⟨by rw [put_size]; exact iv.size, by rw [put_defers]; exact iv.defers, iv.kept, env, ?_⟩
    rw [hd]
    have happ : (mkD D tr s m).put (some e.d) e.v = app (mkD D tr s m) e := by
      simp only [St.put, hnom, app, hos]
      rfl
    rw [happ] at hgp3
    exact hgp3
end
end Go.Proofs.Ythlflnplnajjiaa.G
