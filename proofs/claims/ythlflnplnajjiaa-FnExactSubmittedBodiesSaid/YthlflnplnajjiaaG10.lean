/-
  Slices that are written out, element by element.
-/
import Derived.Test.YthlflnplnajjiaaG9
namespace Go.Proofs.Ythlflnplnajjiaa.G
set_option linter.all false
open Go.RowKit L D
variable {ty : Tag → Nat}
/-- Cells that go into memory of the call's own. -/
def takes (st : St) : List V → Option (List V × List Nat)
  | [] => some ([], [])
  | .lit v :: r => match takes st r with | some (c, k) => some (.lit v :: c, k) | none => none
  | .own n :: r => match look st.hp n, takes st r with
    | some (.arr t l), some (c, k) => some (.sl t l :: c, n :: k)
    | _, _ => none
  | _ => none
def bparts (st : St) (g : Tag) : Nat → List (Nat × Operand) → Option (List Prop × List (T g) × List Nat)
  | _, [] => some ([], [], [])
  | i, (j, x) :: r => match Nat.beq i j, opv st [] x with
    | true, some s => match takes st (cellsOf s) with
      | some (c, k) => match enc g c, bparts st g (i + 1) r with
        | some (vc, y), some (vcs, ys, ks) => some (vc ++ vcs, y :: ys, k ++ ks)
        | _, _ => none
      | none => none
    | _, _ => none
def nodupn : List Nat → Bool
  | [] => true
  | n :: r => !(r.any fun m => Nat.beq n m) && nodupn r
def ebuild (P : Program) (ty : Tag → Nat) (Γ : Nat → TK) (st : St) (m0 : Nat) : Op → Option (List Prop × St × SV)
  | .buildSlice t len parts => match Γ t with
    | .sl g e => match Nat.beq e (ty g), Nat.beq parts.toList.length len, Nat.ble (len * kk g) 16777216, bparts st g 0 parts.toList with
      | true, true, true, some (vc, xs, ks) => match nodupn ks && !pinned ks && !pin m0, look (hkills ks [] st.hp) m0 with
        | true, none => some (El P ty g :: vc, st.gone ks m0 g xs, .one (.a (.own m0)))
        | _, _ => none
      | _, _, _, _ => none
    | _ => none
  | _ => none
theorem nodupn_ok : ∀ {l : List Nat}, nodupn l = true → l.Nodup
  | [], _ => List.nodup_nil
  | n :: r, h => by
    simp only [nodupn, Bool.and_eq_true, Bool.not_eq_true', List.any_eq_false] at h
    exact List.nodup_cons.2 ⟨fun hm => h.1 n hm (by simp), nodupn_ok h.2⟩
section
variable {P : Program} {zb : Base} {st : St} {a : Act} {w : World} {env : Env} {Q : Exit → Act → World → Prop} {o : Oper}
theorem takes_ok (g : Good ty zb st a.tmps w env) : ∀ {l c : List V} {k : List Nat} {us : List Value}, All2 (RA w st.hp env) l us → takes st l = some (c, k) → k.Nodup →
    ∃ fp, RIs w c us fp ∧ Own 0 w fp ∧ ∀ b, b ∈ fp → ∃ i o, i ∈ k ∧ look st.hp i = some o ∧ b ∈ (env i).fp
  | [], c, k, us, hr, h, _ => by
    simp only [takes, Option.some.injEq, Prod.mk.injEq] at h
    obtain ⟨rfl, rfl⟩ := h
    cases us with
    | nil => exact ⟨[], rfl, Own.nil _ _, by simp⟩
    | cons _ _ => exact hr.elim
  | v :: r, c, k, us, hr, h, hnd => by
    cases us with
    | nil => exact hr.elim
    | cons u us =>
      cases v with
      | lit x =>
        simp only [takes] at h
        split at h
        · rename_i c' k' h'
          simp only [Option.some.injEq, Prod.mk.injEq] at h
          obtain ⟨rfl, rfl⟩ := h
          obtain ⟨fp, h1, h2, h3⟩ := takes_ok g hr.2 h' hnd
          obtain ⟨e1, e2⟩ := hr.1
          exact ⟨fp, ⟨[], fp, ⟨e1, e2, rfl⟩, h1, rfl⟩, h2, h3⟩
        · cases h
      | own n =>
        simp only [takes] at h
        split at h
        · rename_i t l c' k' hl h'
          simp only [Option.some.injEq, Prod.mk.injEq] at h
          obtain ⟨rfl, rfl⟩ := h
          obtain ⟨hn1, hn2⟩ := List.nodup_cons.1 hnd
          obtain ⟨fp, h1, h2, h3⟩ := takes_ok g hr.2 h' hn2
          obtain ⟨_, rfl⟩ := hr.1
          have hb := RO.sl (g.obj n _ hl)
          have ho := RO.own (g.obj n _ hl)
          refine ⟨(env n).fp ++ fp, ⟨_, _, hb, h1, rfl⟩, ⟨List.nodup_append.2 ⟨ho.nodup, h2.nodup, ?_⟩, fun b hb => ?_, fun b hb => ?_⟩, fun b hb => ?_⟩
          · rintro b hb x hx rfl
            obtain ⟨i, o, hi, h4, h5⟩ := h3 b hx
            exact g.dis n i _ _ (fun e => hn1 (e ▸ hi)) hl h4 b hb h5
          · rcases List.mem_append.1 hb with hb | hb
            · exact ho.ge b hb
            · exact h2.ge b hb
          · rcases List.mem_append.1 hb with hb | hb
            · exact ho.kind b hb
            · exact h2.kind b hb
          · rcases List.mem_append.1 hb with hb | hb
            · exact ⟨n, _, by simp, hl, hb⟩
            · obtain ⟨i, o, hi, h4, h5⟩ := h3 b hb
              exact ⟨i, o, List.mem_cons_of_mem _ hi, h4, h5⟩
        · cases h
      | _ => simp [takes] at h
theorem cellsOf_ok (g : Good ty zb st a.tmps w env) {s : S1} {u : Value} (hr : RS1 w st.hp env s u) (hn : noany (cellsOf s) = true) : All2 (RA w st.hp env) (cellsOf s) u.cells.toList := by
  cases s with
  | a v =>
    have := one_cells g (show RA w st.hp env v u from hr) (noany_mem hn v (by simp [cellsOf]))
    rw [this]
    exact ⟨hr, trivial⟩
  | agg l =>
    obtain ⟨cs, rfl, hl⟩ := hr
    exact hl
theorem takes_noany {st : St} : ∀ {l c : List V} {k : List Nat}, takes st l = some (c, k) → noany l = true
  | [], _, _, _ => rfl
  | v :: r, c, k, h => by
    cases v with
    | lit x =>
      simp only [takes] at h
      split at h
      · rename_i h'; exact takes_noany (l := r) h'
      · cases h
    | own n =>
      simp only [takes] at h
      split at h
      · rename_i h'; exact takes_noany (l := r) h'
      · cases h
    | _ => simp [takes] at h
theorem bparts_ok (g : Good ty zb st a.tmps w env) {t : Tag} : ∀ {ps : List (Nat × Operand)} {i : Nat} {vc : List Prop} {xs : List (T t)} {ks : List Nat}, bparts st t i ps = some (vc, xs, ks) → ks.Nodup → (∀ q, q ∈ vc → q) →
    (ps.map fun p => (p.1, a.eval p.2)) = seqv i (ps.map fun p => a.eval p.2) ∧ xs.length = ps.length ∧ ∃ fps : List (List Nat), fps.length = xs.length ∧
      (∀ (i : Nat) (x : T t) (f : List Nat), xs[i]? = some x → fps[i]? = some f → ∃ p : Nat × Operand, ps[i]? = some p ∧ rd t w (a.eval p.2).cells.toList x f) ∧ Own 0 w fps.flatten ∧ ∀ b, b ∈ fps.flatten → ∃ i o, i ∈ ks ∧ look st.hp i = some o ∧ b ∈ (env i).fp
  | [], i, vc, xs, ks, h, _, _ => by
    simp only [bparts, Option.some.injEq, Prod.mk.injEq] at h
    obtain ⟨rfl, rfl, rfl⟩ := h
    exact ⟨rfl, rfl, [], rfl, by simp, Own.nil _ _, by simp⟩
  | (j, x) :: r, i, vc, xs, ks, h, hnd, hv => by
    simp only [bparts] at h
    split at h
    · rename_i s hij hx
      have hij := Nat.eq_of_beq_eq_true hij
      subst hij
      split at h
      · rename_i c k hc
        split at h
        · rename_i vc1 y vcs ys ks1 he hb
          simp only [Option.some.injEq, Prod.mk.injEq] at h
          obtain ⟨rfl, rfl, rfl⟩ := h
          obtain ⟨hn1, hn2, hn3⟩ := List.nodup_append.1 hnd
          obtain ⟨q1, q2, fps, q3, q4, q5, q6⟩ := bparts_ok g hb hn2 (fun q hq => hv q (List.mem_append_right _ hq))
          obtain ⟨fp, r1, r2, r3⟩ := takes_ok g (cellsOf_ok g (opv_ok g (fun e he => by simp at he) hx) (takes_noany hc)) hc hn1
          have hE := enc_ok t he (fun q hq => hv q (List.mem_append_left _ hq)) r1
          refine ⟨by simp [seqv, q1], by simp [q2], fp :: fps, by simp [q3], ?_, ⟨?_, ?_, ?_⟩, ?_⟩
          · intro i' x' f hx' hf
            cases i' with
            | zero => simp at hx' hf; subst hx'; subst hf; exact ⟨(i, x), rfl, hE⟩
            | succ n => simp at hx' hf; obtain ⟨p, h1, h2⟩ := q4 n x' f hx' hf; exact ⟨p, by simpa using h1, h2⟩
          · rw [List.flatten_cons]
            refine List.nodup_append.2 ⟨r2.nodup, q5.nodup, ?_⟩
            rintro b hb z hz rfl
            obtain ⟨n, o1, h1, h2, h3⟩ := r3 b hb
            obtain ⟨m, o2, h4, h5, h6⟩ := q6 b hz
            exact g.dis n m _ _ (fun e => hn3 n h1 m h4 e) h2 h5 b h3 h6
          · intro b hb
            rw [List.flatten_cons] at hb
            rcases List.mem_append.1 hb with hb | hb
            · exact r2.ge b hb
            · exact q5.ge b hb
          · intro b hb
            rw [List.flatten_cons] at hb
            rcases List.mem_append.1 hb with hb | hb
            · exact r2.kind b hb
            · exact q5.kind b hb
          · intro b hb
            rw [List.flatten_cons] at hb
            rcases List.mem_append.1 hb with hb | hb
            · obtain ⟨n, o1, h1, h2, h3⟩ := r3 b hb; exact ⟨n, o1, List.mem_append_left _ h1, h2, h3⟩
            · obtain ⟨n, o1, h1, h2, h3⟩ := q6 b hb; exact ⟨n, o1, List.mem_append_right _ h1, h2, h3⟩
        · cases h
      · cases h
    · cases h
theorem ebuild_ok {Γ : Nat → TK} (C : ∀ t, TKok P t (Γ t)) {m0 : Nat} {vc : List Prop} {st' : St} {v : SV} (h : ebuild P ty Γ st m0 o.op = some (vc, st', v)) (g : Good ty zb st a.tmps w env) (hB : zb.w.heap.size ≤ w.heap.size) (hv : ∀ q, q ∈ vc → q) :
    o.wp P a w (fun a' w' => ∃ u env', a' = a.put o.dst u ∧ Kept zb w w' ∧ Good ty zb st' a.tmps w' env' ∧ st'.n = st.n ∧ RSV w' st'.hp env' a.tmps v u) Q := by
  generalize hoo : o.op = op at h
  cases op with
  | buildSlice t len parts =>
    simp only [ebuild] at h
    split at h
    · rename_i gt e hk
      split at h
      · rename_i vc1 xs ks he hlen hbig hb
        have he := Nat.eq_of_beq_eq_true he
        split at h
        · rename_i hnd hlk
          simp only [Bool.and_eq_true, Bool.not_eq_true'] at hnd
          obtain ⟨⟨hnd, hpk⟩, hpm⟩ := hnd
          simp only [Option.some.injEq, Prod.mk.injEq] at h
          obtain ⟨rfl, h2, rfl⟩ := h
          rw [St.gone_eq] at h2
          subst h2
          have hEl : El P ty gt := hv _ (by simp)
          obtain ⟨q1, q2, fps, q3, q4, q5, q6⟩ := bparts_ok g hb (nodupn_ok hnd) (fun q hq => hv q (by simp [hq]))
          have hC := C t
          rw [hk, he] at hC
          obtain ⟨w', r1, r2, r3⟩ := run_built (P := P) (w := w) (a := a) hoo hC.1 hEl (Nat.le_of_ble_eq_true hbig) (Nat.eq_of_beq_eq_true hlen) (Nat.zero_le _) q1 q2 q3 q4 q5
          obtain ⟨env', hg', hv'⟩ := good_app (ty := ty) g hB (ks := ks) hpk hpm hlk (v := nilv) (fp := []) (fx := fps.flatten) (by simpa using q6) (by intro b hb; cases hb) r3
            ⟨r2.os, r2.tape, r2.output, r2.size, fun b hb _ => r2.block b hb⟩ (by
              intro b hb
              rcases List.mem_cons.1 hb with h | h
              · exact Or.inr (Or.inr h)
              · exact Or.inr (Or.inl h))
          unfold Oper.wp
          rw [r1]
          exact ⟨_, env', rfl, kept_below r2 hB, hg', rfl, ⟨gt, _, look_eq⟩, hv'.symm⟩
        · cases h
      · cases h
    · cases h
  | _ => simp [ebuild] at h
end
end Go.Proofs.Ythlflnplnajjiaa.G
