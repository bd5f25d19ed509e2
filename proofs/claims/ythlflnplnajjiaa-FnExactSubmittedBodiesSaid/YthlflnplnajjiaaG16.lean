/-
  Regions that draw their order: the states between.
-/
import Derived.Test.YthlflnplnajjiaaG15
namespace Go.Proofs.Ythlflnplnajjiaa.G
set_option linter.all false
open Go.RowKit L D
variable {ty : Tag → Nat}
/-- The state behind those of the first i operations that have run. -/
def mkD (inD : Nat → Bool) (tr : List TE) (s : St) : Nat → St
  | 0 => s
  | i + 1 => match inD i, tr[i]? with
    | true, some e => app (mkD inD tr s i) e
    | _, _ => mkD inD tr s i
abbrev pre (tr : List TE) (s : St) (i : Nat) : St := mkD (fun _ => true) tr s i
/-- What the text's order has made of the quiet operations. -/
structure Trace (Γ : Nat → TK) (E : Tag → Nat → Prop) (S : FuncId → List S1 → List S1 → Prop) (ren : List (Nat × Nat)) (cr : List (Nat × CR)) (ops : List Oper) (m : Nat) (s : St) (tr : List TE) (vcs : List Prop) : Prop where
  len : tr.length = m
  one : ∀ i, i < m → ∃ o e vc, ops[i]? = some o ∧ tr[i]? = some e ∧ o.dst = some e.d ∧ ((pre tr s i).sl.any fun x => x.2.mentions e.d) = false ∧ qcore Γ E S ren cr ops (pre tr s i) o = some (vc, e.v, e.os) ∧ ∀ q, q ∈ vc → q ∈ vcs
theorem runQ_acc {Γ : Nat → TK} {E : Tag → Nat → Prop} {S : FuncId → List S1 → List S1 → Prop} {ren : List (Nat × Nat)} {cr : List (Nat × CR)} {ops : List Oper} : ∀ {l : List Oper} {st st2 : St} {acc vcs : List Prop}, runQ Γ E S ren cr ops l st acc = some (vcs, st2) → ∀ q, q ∈ acc → q ∈ vcs
  | [], st, st2, acc, vcs, h, q, hq => by
    simp only [runQ, Option.some.injEq, Prod.mk.injEq] at h
    rw [← h.1]; exact hq
  | o :: r, st, st2, acc, vcs, h, q, hq => by
    obtain ⟨vc, e, _, _, _, h2⟩ := runQ_split h
    exact runQ_acc h2 q (List.mem_append_right _ hq)
theorem mkD_cons (inD : Nat → Bool) (e : TE) (tr : List TE) (s : St) (h : inD 0 = true) : ∀ i, mkD inD (e :: tr) s (i + 1) = mkD (fun j => inD (j + 1)) tr (app s e) i
  | 0 => by simp [mkD, h]
  | i + 1 => by
    rw [mkD, mkD_cons inD e tr s h i, mkD]
    simp only [List.getElem?_cons_succ]
theorem trace_of {Γ : Nat → TK} {E : Tag → Nat → Prop} {S : FuncId → List S1 → List S1 → Prop} {ren : List (Nat × Nat)} {cr : List (Nat × CR)} {ops : List Oper} : ∀ {l : List Oper} {k : Nat} {st st2 : St} {acc vcs : List Prop}, runQ Γ E S ren cr ops l st acc = some (vcs, st2) → (∀ i o, l[i]? = some o → ops[k + i]? = some o) →
    ∃ tr : List TE, tr.length = l.length ∧ st2 = pre tr st l.length ∧ ∀ i, i < l.length → ∃ o e vc, ops[k + i]? = some o ∧ tr[i]? = some e ∧ o.dst = some e.d ∧ ((pre tr st i).sl.any fun x => x.2.mentions e.d) = false ∧ qcore Γ E S ren cr ops (pre tr st i) o = some (vc, e.v, e.os) ∧ ∀ q, q ∈ vc → q ∈ vcs
  | [], k, st, st2, acc, vcs, h, _ => by
    simp only [runQ, Option.some.injEq, Prod.mk.injEq] at h
    exact ⟨[], rfl, h.2.symm, fun i hi => absurd hi (by simp)⟩
  | o :: r, k, st, st2, acc, vcs, h, hk => by
    obtain ⟨vc, e, h1, h2, h3, h4⟩ := runQ_split h
    obtain ⟨tr, q1, q2, q3⟩ := trace_of (k := k + 1) h4 (fun i o' ho => by
      have := hk (i + 1) o' (by simpa using ho)
      rw [show k + 1 + i = k + (i + 1) by omega]; exact this)
    refine ⟨e :: tr, by simp [q1], ?_, ?_⟩
    · rw [q2, List.length_cons]
      exact (mkD_cons (fun _ => true) e tr st rfl _).symm
    · intro i hi
      cases i with
      | zero => exact ⟨o, e, vc, hk 0 o rfl, rfl, h1, h2, h3, fun q hq => runQ_acc h4 q (List.mem_append_left _ hq)⟩
      | succ i =>
        obtain ⟨o', e', vc', p1, p2, p3, p4, p5, p6⟩ := q3 i (by simpa using hi)
        refine ⟨o', e', vc', by rw [show k + (i + 1) = k + 1 + i by omega]; exact p1, by simpa using p2, p3, ?_, ?_, p6⟩
        · rw [pre, mkD_cons (fun _ => true) e tr st rfl i]; exact p4
        · rw [pre, mkD_cons (fun _ => true) e tr st rfl i]; exact p5

section
variable {inD inE : Nat → Bool} {tr : List TE} {s : St}
theorem mkD_succ_in {i : Nat} {e : TE} (h : inD i = true) (he : tr[i]? = some e) : mkD inD tr s (i + 1) = app (mkD inD tr s i) e := by rw [mkD, h, he]
theorem mkD_succ_out {i : Nat} (h : inD i = false) : mkD inD tr s (i + 1) = mkD inD tr s i := by rw [mkD, h]
theorem mkD_n : ∀ i, (mkD inD tr s i).n = s.n
  | 0 => rfl
  | i + 1 => by
    rw [mkD]
    split
    · exact mkD_n i
    · exact mkD_n i
theorem mkD_slot : ∀ {i j : Nat} {e : TE}, j < i → inD j = true → tr[j]? = some e → (∀ j' e', j' < i → inD j' = true → tr[j']? = some e' → e'.d = e.d → j' = j) → look (mkD inD tr s i).sl e.d = some e.v
  | i + 1, j, e, hj, hin, he, hd => by
    by_cases hij : j = i
    · subst hij
      rw [mkD_succ_in hin he]; exact look_eq
    · have ih := mkD_slot (i := i) (j := j) (by omega) hin he (fun j' e' h1 h2 h3 h4 => hd j' e' (by omega) h2 h3 h4)
      rw [mkD]
      split
      · rename_i e' h1 h2
        have hne : e.d ≠ e'.d := fun hh => by
          have := hd i e' (by omega) h1 h2 hh.symm
          omega
        show look ((e'.d, e'.v) :: _) e.d = _
        rw [look_ne hne]; exact ih
      · exact ih
theorem mkD_base : ∀ {i : Nat} {t : Nat}, (∀ j e, j < i → inD j = true → tr[j]? = some e → e.d ≠ t) → look (mkD inD tr s i).sl t = look s.sl t
  | 0, _, _ => rfl
  | i + 1, t, h => by
    have ih := mkD_base (i := i) (t := t) fun j e h1 h2 h3 => h j e (by omega) h2 h3
    rw [mkD]
    split
    · rename_i e' h1 h2
      have hne : t ≠ e'.d := fun hh => h i e' (by omega) h1 h2 hh.symm
      show look ((e'.d, e'.v) :: _) t = _
      rw [look_ne hne]; exact ih
    · exact ih
theorem mkD_mem : ∀ {i : Nat} {x : Nat × SV}, x ∈ (mkD inD tr s i).sl → x ∈ s.sl ∨ ∃ j e, j < i ∧ inD j = true ∧ tr[j]? = some e ∧ x = (e.d, e.v)
  | 0, _, h => Or.inl h
  | i + 1, x, h => by
    rw [mkD] at h
    split at h
    · rename_i e' h1 h2
      rcases List.mem_cons.1 (show x ∈ (e'.d, e'.v) :: (mkD inD tr s i).sl from h) with rfl | h
      · exact Or.inr ⟨i, e', by omega, h1, h2, rfl⟩
      · rcases mkD_mem h with h | ⟨j, e, a, b⟩
        · exact Or.inl h
        · exact Or.inr ⟨j, e, by omega, b⟩
    · rcases mkD_mem h with h | ⟨j, e, a, b⟩
      · exact Or.inl h
      · exact Or.inr ⟨j, e, by omega, b⟩
/-- Every operation's objects are new where the text's order comes to it. -/
def FreshAll (tr : List TE) (s : St) (m : Nat) : Prop := ∀ i e, i < m → tr[i]? = some e → ∀ n o, look e.os n = some o → look (pre tr s i).hp n = none
theorem pre_hp_mono {m : Nat} (hf : FreshAll tr s m) : ∀ {j i : Nat}, i ≤ j → j ≤ m → ∀ {n o}, look (pre tr s i).hp n = some o → look (pre tr s j).hp n = some o
  | 0, i, hi, _, n, o, h => by
    have : i = 0 := by omega
    subst this; exact h
  | j + 1, i, hi, hm, n, o, h => by
    by_cases hij : i = j + 1
    · subst hij; exact h
    · have ih := pre_hp_mono hf (j := j) (i := i) (by omega) (by omega) h
      show look (mkD (fun _ => true) tr s (j + 1)).hp n = _
      rw [mkD]
      split
      · rename_i e' _ h2
        show look (e'.os ++ (pre tr s j).hp) n = _
        cases hq : look e'.os n with
        | none => rw [look_app_none hq]; exact ih
        | some o' =>
          have := hf j e' (by omega) h2 n o' hq
          rw [this] at ih; cases ih
      · exact ih
theorem mkD_hp_pre {m : Nat} (hf : FreshAll tr s m) : ∀ {i : Nat}, i ≤ m → ∀ {n o}, look (mkD inD tr s i).hp n = some o → look (pre tr s i).hp n = some o
  | 0, _, n, o, h => h
  | i + 1, hm, n, o, h => by
    rw [mkD] at h
    split at h
    · rename_i e' h1 h2
      have h : look (e'.os ++ (mkD inD tr s i).hp) n = some o := h
      rw [pre, mkD_succ_in rfl h2]
      show look (e'.os ++ (pre tr s i).hp) n = some o
      cases hq : look e'.os n with
      | none => rw [look_app_none hq] at h ⊢; exact mkD_hp_pre hf (by omega) h
      | some o' => rw [look_app_some hq] at h ⊢; exact h
    · exact pre_hp_mono hf (Nat.le_succ i) hm (mkD_hp_pre hf (by omega) h)
theorem mkD_hp_case : ∀ {i : Nat} {n : Nat} {o : Obj}, look (mkD inD tr s i).hp n = some o → look s.hp n = some o ∨ ∃ j e, j < i ∧ inD j = true ∧ tr[j]? = some e ∧ look e.os n = some o
  | 0, _, _, h => Or.inl h
  | i + 1, n, o, h => by
    rw [mkD] at h
    split at h
    · rename_i e' h1 h2
      have h : look (e'.os ++ (mkD inD tr s i).hp) n = some o := h
      cases hq : look e'.os n with
      | none =>
        rw [look_app_none hq] at h
        rcases mkD_hp_case h with h | ⟨j, e, a, b⟩
        · exact Or.inl h
        · exact Or.inr ⟨j, e, by omega, b⟩
      | some o' =>
        rw [look_app_some hq] at h
        exact Or.inr ⟨i, e', by omega, h1, h2, by rw [hq]; exact h⟩
    · rcases mkD_hp_case h with h | ⟨j, e, a, b⟩
      · exact Or.inl h
      · exact Or.inr ⟨j, e, by omega, b⟩
theorem mkD_hp_base {m : Nat} (hf : FreshAll tr s m) : ∀ {i : Nat}, i ≤ m → ∀ {n o}, look s.hp n = some o → look (mkD inD tr s i).hp n = some o
  | 0, _, n, o, h => h
  | i + 1, hm, n, o, h => by
    have ih := mkD_hp_base hf (i := i) (by omega) h
    rw [mkD]
    split
    · rename_i e' h1 h2
      show look (e'.os ++ (mkD inD tr s i).hp) n = some o
      cases hq : look e'.os n with
      | none => rw [look_app_none hq]; exact ih
      | some o' =>
        have h1 := hf i e' (by omega) h2 n o' hq
        have h3 := mkD_hp_pre hf (by omega) ih
        rw [h1] at h3; cases h3
    · exact ih
theorem mkD_hp_in {m : Nat} (hf : FreshAll tr s m) : ∀ {i : Nat}, i ≤ m → ∀ {j : Nat} {e : TE} {n : Nat} {o : Obj}, j < i → inD j = true → tr[j]? = some e → look e.os n = some o → look (mkD inD tr s i).hp n = some o
  | i + 1, hm, j, e, n, o, hj, hin, he, h => by
    by_cases hij : j = i
    · subst hij
      rw [mkD_succ_in hin he]
      exact look_app_some h
    · have ih := mkD_hp_in hf (i := i) (by omega) (j := j) (by omega) hin he h
      rw [mkD]
      split
      · rename_i e' h1 h2
        show look (e'.os ++ (mkD inD tr s i).hp) n = some o
        cases hq : look e'.os n with
        | none => rw [look_app_none hq]; exact ih
        | some o' =>
          have h1 := hf i e' (by omega) h2 n o' hq
          have h3 := mkD_hp_pre hf (by omega) ih
          rw [h1] at h3; cases h3
      · exact ih
end
theorem fresh_of {hp : Hp} : ∀ {os : Hp}, (∀ n o, look os n = some o → look hp n = none ∧ pin n = false) → fresh hp os = true
  | [], _ => rfl
  | (n, x) :: r, h => by
    simp only [fresh, Bool.and_eq_true]
    obtain ⟨h1, h2⟩ := h n x look_eq
    refine ⟨⟨by rw [h1], by rw [h2]; rfl⟩, fresh_of fun k o hk => ?_⟩
    by_cases hkn : k = n
    · subst hkn; exact h k x look_eq
    · exact h k o (by rw [look_ne hkn]; exact hk)
theorem Good.congr {zb : Base} {st st' : St} {tmps : Array Value} {w : World} {env : Env} (g : Good ty zb st tmps w env) (hs : ∀ s v, look st'.sl s = some v → look st.sl s = some v) (hh : ∀ n, look st'.hp n = look st.hp n) : Good ty zb st' tmps w env := by
  have s : Step (fun _ => True) (fun _ => True) w st.hp env w st'.hp env := by
    refine ⟨fun _ _ _ => rfl, ?_, ?_, ?_⟩
    · rintro b _ ⟨n, o, h1, h2⟩; exact ⟨n, o, by rw [← hh]; exact h1, h2⟩
    · intro n o _ h1
      exact ⟨o, by rw [hh]; exact h1, by cases o <;> simp [Obj.like], rfl⟩
    · intro n t l _ h1
      exact ⟨by rw [hh]; exact h1, rfl, fun _ _ => rfl⟩
  refine ⟨fun n o hl => ?_, fun n m o o' hne h1 h2 => g.dis n m o o' hne (by rw [← hh]; exact h1) (by rw [← hh]; exact h2), fun t v hl => RSV.step s (fun v _ => v.hangs_all) (g.slot t v (hs t v hl)), fun n o hl => g.dom n o (by rw [← hh]; exact hl), g.pins⟩
  exact (g.obj n o (by rw [← hh]; exact hl)).step s (fun _ _ v _ => v.hangs_all) (fun _ _ => rfl)
end Go.Proofs.Ythlflnplnajjiaa.G
