/-
  Slices that are written out, element by element.
-/
import Derived.Test.YthlflnplnajjiaaG9
namespace Go.Proofs.Ythlflnplnajjiaa.G
open Go.RowKit L D
variable {ty : Tag → Nat}
/-- Cells that go into memory of the call's own. -/
def takes (st : St) : List V → Option (List V × List Nat)
  | [] => some ([], [])
  | .lit v :: r => match takes st r with | some (c, k) => some (.lit v :: c, k) | none => none
  | .own n :: r => match look st.hp n, takes st r with
    | some (.arr t l), some (c, k) => some (.sl t l :: c, n :: k)
    | _, _ => none
  | _ => none
def cellsOf : S1 → List V
  | .a v => [v]
  | .agg l => l
def bparts (st : St) (g : Tag) : Nat → List (Nat × Operand) → Option (List Prop × List (T g) × List Nat)
  | _, [] => some ([], [], [])
  | i, (j, x) :: r => match Nat.beq i j, opv st [] x with
    | true, some s => match takes st (cellsOf s) with
      | some (c, k) => match enc g c, bparts st g (i + 1) r with
        | some (vc, y), some (vcs, ys, ks) => some (vc ++ vcs, y :: ys, k ++ ks)
        | _, _ => none
      | none => none
    | _, _ => none
def nodupn : List Nat → Bool
  | [] => true
  | n :: r => !(r.any fun m => Nat.beq n m) && nodupn r
def ebuild (P : Program) (ty : Tag → Nat) (Γ : Nat → TK) (st : St) (m0 : Nat) : Op → Option (List Prop × St × SV)
  | .buildSlice t len parts => match Γ t with
    | .sl g e => match Nat.beq e (ty g), Nat.beq parts.toList.length len, Nat.ble (len * kk g) 16777216, bparts st g 0 parts.toList with
      | true, true, true, some (vc, xs, ks) => match nodupn ks, look (hkills ks st.hp) m0 with
        | true, none => some (El P ty g :: vc, st.gone ks m0 g xs, .one (.a (.own m0)))
        | _, _ => none
      | _, _, _, _ => none
    | _ => none
  | _ => none
theorem nodupn_ok : ∀ {l : List Nat}, nodupn l = true → l.Nodup
  | [], _ => List.nodup_nil
  | n :: r, h => by
    simp only [nodupn, Bool.and_eq_true, Bool.not_eq_true', List.any_eq_false] at h
    exact List.nodup_cons.2 ⟨fun hm => h.1 n hm (by simp), nodupn_ok h.2⟩
theorem foldl_splice (off : Nat) : ∀ (l : List Value) (n : Nat) (c : Array Value), (l.zipIdx n).foldl (fun cs (p : Value × Nat) => cs.setIfInBounds (off + p.2) p.1) c = splice c (off + n) l
  | [], _, _ => rfl
  | v :: r, n, c => by rw [List.zipIdx_cons, List.foldl_cons, foldl_splice off r (n + 1)]; rfl
def seqv : Nat → List Value → List (Nat × Value)
  | _, [] => []
  | i, v :: r => (i, v) :: seqv (i + 1) r
theorem fill_seq {k : Nat} : ∀ (ps : List Value) (i : Nat) (cells : List Value), (∀ v, v ∈ ps → v.cells.size = k) → cells.length = (i + ps.length) * k →
    Instr.fill (fun i => some (i * k, k)) (Array.mk cells) (seqv i ps) = some (Array.mk (cells.take (i * k) ++ ps.flatMap fun v => v.cells.toList))
  | [], i, cells, _, h => by
    rw [seqv, Instr.fill, List.take_of_length_le (by rw [h]; simp)]; simp
  | v :: r, i, cells, hk, h => by
    have hv := hk v (by simp)
    have hlen : i * k + k ≤ cells.length := by
      rw [h, List.length_cons, show i + (r.length + 1) = (i + 1) + r.length by omega, Nat.add_mul (i + 1), Nat.add_mul i 1, Nat.one_mul]; omega
    rw [seqv, Instr.fill]
    simp only [hv, ne_eq, not_true_eq_false, decide_false, Bool.false_or, List.size_toArray]
    rw [if_neg (by simp; omega)]
    have hfold : (v.cells.zipIdx.foldl (fun cs (x : Value × Nat) => cs.setIfInBounds (i * k + x.2) x.1) (Array.mk cells)) = splice (Array.mk cells) (i * k) v.cells.toList := by
      rw [← Array.foldl_toList, Array.toList_zipIdx, foldl_splice, Nat.add_zero]
    have hsz : v.cells.toList.length = k := by simpa using hv
    have := splice_list v.cells.toList cells (i * k) (by omega)
    show Instr.fill _ (v.cells.zipIdx.foldl (fun cs (x : Value × Nat) => cs.setIfInBounds (i * k + x.2) x.1) (Array.mk cells)) _ = _
    rw [hfold, this, fill_seq r (i + 1) _ (fun u hu => hk u (by simp [hu])) (by
      simp only [List.length_append, List.length_take, List.length_drop, hsz]
      rw [h, List.length_cons] at *
      have : (i + 1 + r.length) * k = (i + (r.length + 1)) * k := by congr 1; omega
      rw [this]
      omega)]
    have h1 : (i + 1) * k = i * k + k := by rw [Nat.add_mul, Nat.one_mul]
    have t : ((cells.take (i * k)) ++ (v.cells.toList ++ cells.drop (i * k + v.cells.toList.length))).take ((i + 1) * k) = cells.take (i * k) ++ v.cells.toList := by
      rw [← List.append_assoc]
      exact List.take_left' (by rw [List.length_append, List.length_take, hsz, h1]; omega)
    rw [t, List.flatMap_cons, List.append_assoc]
section
variable {P : Program} {B : Nat} {st : St} {a : Act} {w : World} {env : Env} {Q : Exit → Act → World → Prop} {o : Oper}
theorem takes_ok (g : Good ty B st a.tmps w env) : ∀ {l c : List V} {k : List Nat} {us : List Value}, All2 (RA w st.hp env) l us → takes st l = some (c, k) → k.Nodup →
    ∃ fp, RIs w c us fp ∧ Own B w fp ∧ ∀ b, b ∈ fp → ∃ i o, i ∈ k ∧ look st.hp i = some o ∧ b ∈ (env i).fp
  | [], c, k, us, hr, h, _ => by
    simp only [takes, Option.some.injEq, Prod.mk.injEq] at h
    obtain ⟨rfl, rfl⟩ := h
    cases us with
    | nil => exact ⟨[], rfl, Own.nil _ _, by simp⟩
    | cons _ _ => exact hr.elim
  | v :: r, c, k, us, hr, h, hnd => by
    cases us with
    | nil => exact hr.elim
    | cons u us =>
      cases v with
      | lit x =>
        simp only [takes] at h
        split at h
        · rename_i c' k' h'
          simp only [Option.some.injEq, Prod.mk.injEq] at h
          obtain ⟨rfl, rfl⟩ := h
          obtain ⟨fp, h1, h2, h3⟩ := takes_ok g hr.2 h' hnd
          obtain ⟨e1, e2⟩ := hr.1
          exact ⟨fp, ⟨[], fp, ⟨e1, e2, rfl⟩, h1, rfl⟩, h2, h3⟩
        · cases h
      | own n =>
        simp only [takes] at h
        split at h
        · rename_i t l c' k' hl h'
          simp only [Option.some.injEq, Prod.mk.injEq] at h
          obtain ⟨rfl, rfl⟩ := h
          obtain ⟨hn1, hn2⟩ := List.nodup_cons.1 hnd
          obtain ⟨fp, h1, h2, h3⟩ := takes_ok g hr.2 h' hn2
          obtain ⟨_, rfl⟩ := hr.1
          have hb : Bld (kk t) (rd t) B (ty t) w (env n).v l (env n).fp := g.obj n _ hl
          have ho := hb.own
          refine ⟨(env n).fp ++ fp, ⟨_, _, hb.sl, h1, rfl⟩, ⟨List.nodup_append.2 ⟨ho.nodup, h2.nodup, ?_⟩, fun b hb => ?_, fun b hb => ?_⟩, fun b hb => ?_⟩
          · rintro b hb x hx rfl
            obtain ⟨i, o, hi, h4, h5⟩ := h3 b hx
            exact g.dis n i _ _ (fun e => hn1 (e ▸ hi)) hl h4 b hb h5
          · rcases List.mem_append.1 hb with hb | hb
            · exact ho.ge b hb
            · exact h2.ge b hb
          · rcases List.mem_append.1 hb with hb | hb
            · exact ho.kind b hb
            · exact h2.kind b hb
          · rcases List.mem_append.1 hb with hb | hb
            · exact ⟨n, _, by simp, hl, hb⟩
            · obtain ⟨i, o, hi, h4, h5⟩ := h3 b hb
              exact ⟨i, o, List.mem_cons_of_mem _ hi, h4, h5⟩
        · cases h
      | _ => simp [takes] at h
theorem cellsOf_ok (g : Good ty B st a.tmps w env) {s : S1} {u : Value} (hr : RS1 w st.hp env s u) (hn : noany (cellsOf s) = true) : All2 (RA w st.hp env) (cellsOf s) u.cells.toList := by
  cases s with
  | a v =>
    have := one_cells g (show RA w st.hp env v u from hr) (noany_mem hn v (by simp [cellsOf]))
    rw [this]
    exact ⟨hr, trivial⟩
  | agg l =>
    obtain ⟨cs, rfl, hl⟩ := hr
    exact hl
theorem takes_noany {st : St} : ∀ {l c : List V} {k : List Nat}, takes st l = some (c, k) → noany l = true
  | [], _, _, _ => rfl
  | v :: r, c, k, h => by
    cases v with
    | lit x =>
      simp only [takes] at h
      split at h
      · rename_i h'; exact takes_noany (l := r) h'
      · cases h
    | own n =>
      simp only [takes] at h
      split at h
      · rename_i h'; exact takes_noany (l := r) h'
      · cases h
    | _ => simp [takes] at h
theorem bparts_ok (g : Good ty B st a.tmps w env) {t : Tag} : ∀ {ps : List (Nat × Operand)} {i : Nat} {vc : List Prop} {xs : List (T t)} {ks : List Nat}, bparts st t i ps = some (vc, xs, ks) → ks.Nodup → (∀ q, q ∈ vc → q) →
    (ps.map fun p => (p.1, a.eval p.2)) = seqv i (ps.map fun p => a.eval p.2) ∧ xs.length = ps.length ∧ ∃ fps : List (List Nat), fps.length = xs.length ∧
      (∀ (i : Nat) (x : T t) (f : List Nat), xs[i]? = some x → fps[i]? = some f → ∃ p : Nat × Operand, ps[i]? = some p ∧ rd t w (a.eval p.2).cells.toList x f) ∧ Own B w fps.flatten ∧ ∀ b, b ∈ fps.flatten → ∃ i o, i ∈ ks ∧ look st.hp i = some o ∧ b ∈ (env i).fp
  | [], i, vc, xs, ks, h, _, _ => by
    simp only [bparts, Option.some.injEq, Prod.mk.injEq] at h
    obtain ⟨rfl, rfl, rfl⟩ := h
    exact ⟨rfl, rfl, [], rfl, by simp, Own.nil _ _, by simp⟩
  | (j, x) :: r, i, vc, xs, ks, h, hnd, hv => by
    simp only [bparts] at h
    split at h
    · rename_i s hij hx
      have hij := Nat.eq_of_beq_eq_true hij
      subst hij
      split at h
      · rename_i c k hc
        split at h
        · rename_i vc1 y vcs ys ks1 he hb
          simp only [Option.some.injEq, Prod.mk.injEq] at h
          obtain ⟨rfl, rfl, rfl⟩ := h
          obtain ⟨hn1, hn2, hn3⟩ := List.nodup_append.1 hnd
          obtain ⟨q1, q2, fps, q3, q4, q5, q6⟩ := bparts_ok g hb hn2 (fun q hq => hv q (List.mem_append_right _ hq))
          obtain ⟨fp, r1, r2, r3⟩ := takes_ok g (cellsOf_ok g (opv_ok g (fun e he => by simp at he) hx) (takes_noany hc)) hc hn1
          have hE := enc_ok t he (fun q hq => hv q (List.mem_append_left _ hq)) r1
          refine ⟨by simp [seqv, q1], by simp [q2], fp :: fps, by simp [q3], ?_, ⟨?_, ?_, ?_⟩, ?_⟩
          · intro i' x' f hx' hf
            cases i' with
            | zero => simp at hx' hf; subst hx'; subst hf; exact ⟨(i, x), rfl, hE⟩
            | succ n => simp at hx' hf; obtain ⟨p, h1, h2⟩ := q4 n x' f hx' hf; exact ⟨p, by simpa using h1, h2⟩
          · rw [List.flatten_cons]
            refine List.nodup_append.2 ⟨r2.nodup, q5.nodup, ?_⟩
            rintro b hb z hz rfl
            obtain ⟨n, o1, h1, h2, h3⟩ := r3 b hb
            obtain ⟨m, o2, h4, h5, h6⟩ := q6 b hz
            exact g.dis n m _ _ (fun e => hn3 n h1 m h4 e) h2 h5 b h3 h6
          · intro b hb
            rw [List.flatten_cons] at hb
            rcases List.mem_append.1 hb with hb | hb
            · exact r2.ge b hb
            · exact q5.ge b hb
          · intro b hb
            rw [List.flatten_cons] at hb
            rcases List.mem_append.1 hb with hb | hb
            · exact r2.kind b hb
            · exact q5.kind b hb
          · intro b hb
            rw [List.flatten_cons] at hb
            rcases List.mem_append.1 hb with hb | hb
            · obtain ⟨n, o1, h1, h2, h3⟩ := r3 b hb; exact ⟨n, o1, List.mem_append_left _ h1, h2, h3⟩
            · obtain ⟨n, o1, h1, h2, h3⟩ := q6 b hb; exact ⟨n, o1, List.mem_append_right _ h1, h2, h3⟩
        · cases h
      · cases h
    · cases h
theorem flatMap_sub {k : Nat} : ∀ {ps : List (List Value)} {i : Nat} {c : List Value}, (∀ v, v ∈ ps → v.length = k) → ps[i]? = some c → (((ps.flatMap id).drop (i * k)).take k) = c
  | p :: r, 0, c, hk, h => by
    simp at h
    subst h
    have := hk p (by simp)
    rw [List.flatMap_cons, Nat.zero_mul, List.drop_zero, List.take_append]
    simp [← this]
  | p :: r, i + 1, c, hk, h => by
    have hp := hk p (by simp)
    rw [List.flatMap_cons, List.drop_append, show (id p).length = k from hp, List.drop_eq_nil_of_le (by rw [show (id p).length = k from hp, Nat.add_mul]; omega), List.nil_append, show (i + 1) * k - k = i * k by rw [Nat.add_mul]; omega]
    exact flatMap_sub (fun v hv => hk v (by simp [hv])) (by simpa using h)
theorem ebuild_ok {Γ : Nat → TK} (C : ∀ t, TKok P t (Γ t)) {m0 : Nat} {vc : List Prop} {st' : St} {v : SV} (h : ebuild P ty Γ st m0 o.op = some (vc, st', v)) (g : Good ty B st a.tmps w env) (hB : B ≤ w.heap.size) (hv : ∀ q, q ∈ vc → q) :
    o.wp P a w (fun a' w' => ∃ u env', a' = a.put o.dst u ∧ Below B w w' ∧ Good ty B st' a.tmps w' env' ∧ st'.n = st.n ∧ RSV w' st'.hp env' a.tmps v u) Q := by
  generalize hoo : o.op = op at h
  cases op with
  | buildSlice t len parts =>
    simp only [ebuild] at h
    split at h
    · rename_i gt e hk
      split at h
      · rename_i vc1 xs ks he hlen hbig hb
        have he := Nat.eq_of_beq_eq_true he
        have hlen := Nat.eq_of_beq_eq_true hlen
        have hbig := Nat.le_of_ble_eq_true hbig
        split at h
        · rename_i hnd hlk
          simp only [Option.some.injEq, Prod.mk.injEq] at h
          obtain ⟨rfl, h2, rfl⟩ := h
          rw [St.gone_eq] at h2
          subst h2
          have hEl : El P ty gt := hv _ (by simp)
          obtain ⟨q1, q2, fps, q3, q4, q5, q6⟩ := bparts_ok g hb (nodupn_ok hnd) (fun q hq => hv q (by simp [hq]))
          have hC := C t
          rw [hk] at hC
          obtain ⟨hu, _⟩ := hC
          have hkp := kk_pos gt
          -- the parts' cells
          have hcl : ∀ v, v ∈ (parts.toList.map fun p => a.eval p.2) → v.cells.size = kk gt := by
            intro v hv
            obtain ⟨i, hi⟩ := List.getElem?_of_mem hv
            have hil : i < xs.length := by have := (List.getElem?_eq_some_iff.1 hi).1; simp at this; rw [q2]; simpa using this
            have hfl : i < fps.length := by omega
            obtain ⟨p, h1, h2⟩ := q4 i xs[i] fps[i] (List.getElem?_eq_getElem hil) (List.getElem?_eq_getElem hfl)
            rw [List.getElem?_map, h1] at hi
            simp at hi
            subst hi
            simpa using (fine gt).len h2
          cases hq : P.info? (ty gt) with
          | none => simp [El, hq] at hEl
          | some inf =>
            simp [El, hq] at hEl
            obtain ⟨z1, z2, z3⟩ := hEl
            let zs : List Value := (List.range (len * kk gt)).map fun j => (if len * kk gt = 0 then #[] else (zval gt).cells)[j % (if len * kk gt = 0 then #[] else (zval gt).cells).size]!
            have hzl : zs.length = len * kk gt := by simp [zs]
            have hf := fill_seq (k := kk gt) (parts.toList.map fun p => a.eval p.2) 0 zs hcl (by rw [hzl, List.length_map, hlen, Nat.zero_add])
            rw [Nat.zero_mul, List.take_zero, List.nil_append] at hf
            have hrun : (execOp a.eval o).run P w = .ok (.value (.slice (some ⟨w.heap.size, 0, none⟩) len len)) (w.alloc (.cells (Array.mk ((parts.toList.map fun p => a.eval p.2).flatMap fun v => v.cells.toList)) e (0, 0))) := by
              unfold execOp
              have hpl : (parts.map fun (p : Nat × Operand) => (p.1, a.eval p.2)).toList = seqv 0 (parts.toList.map fun p => a.eval p.2) := by
                rw [Array.toList_map]; exact q1
              have hzs : ((Array.range (len * kk gt)).map fun j => (if len * kk gt = 0 then #[] else (zval gt).cells)[j % (if len * kk gt = 0 then #[] else (zval gt).cells).size]!) = Array.mk zs := by
                simp only [zs]
                apply Array.ext'
                simp
              have hze : (sizeOf e).run P w = .ok (kk gt) w := by rw [he]; simp [sizeOf, typeInfo, hq, z2]
              simp only [hoo, Instr.buildSlice, Sem.run_bind, run_underlying hu, Result.andThen_ok, hze]
              rw [if_neg (by omega)]
              by_cases hz0 : len * kk gt = 0
              · simp only [if_pos hz0] at hzs ⊢
                simp only [Sem.run_bind, Sem.run_pure, Result.andThen_ok]
                rw [hzs, hpl, hf]
                simp [newRow]
              · have hzv : (zeroValue e).run P w = .ok (zval gt) w := by rw [he]; simp [zeroValue, typeInfo, hq, z1]
                simp only [if_neg hz0] at hzs ⊢
                simp only [Sem.run_bind, hzv, Sem.run_pure, Result.andThen_ok]
                rw [hzs, hpl, hf]
                simp [newRow]
            unfold Oper.wp
            rw [hrun]
            simp only [Oper.upon]
            -- the new slice
            have hps : ((parts.toList.map fun p => a.eval p.2).flatMap fun v => v.cells.toList) = ((parts.toList.map fun p => (a.eval p.2).cells.toList).flatMap id) := by
              simp [List.flatMap_map]
            have hcl2 : ∀ v, v ∈ (parts.toList.map fun p => (a.eval p.2).cells.toList) → v.length = kk gt := by
              intro v hv
              obtain ⟨p, hp, rfl⟩ := List.mem_map.1 hv
              simpa using hcl _ (List.mem_map.2 ⟨p, hp, rfl⟩)
            have hflen : ∀ (ps : List (List Value)), (∀ v, v ∈ ps → v.length = kk gt) → (ps.flatMap id).length = ps.length * kk gt := by
              intro ps
              induction ps with
              | nil => intro _; simp
              | cons p r ih => intro hh; rw [List.flatMap_cons, List.length_append, ih fun v hv => hh v (by simp [hv]), show (id p).length = kk gt from hh p (by simp), List.length_cons, Nat.add_mul]; omega
            have hlen2 := hflen _ hcl2
            rw [List.length_map, hlen] at hlen2
            have hb0 : Below w.heap.size w (w.alloc (.cells (Array.mk ((parts.toList.map fun p => a.eval p.2).flatMap fun v => v.cells.toList)) e (0, 0))) := (Below.refl _ _).alloc (Nat.le_refl _) _
            have hOlt := q5.lt
            have hBld : Bld (kk gt) (rd gt) B (ty gt) (w.alloc (.cells (Array.mk ((parts.toList.map fun p => a.eval p.2).flatMap fun v => v.cells.toList)) e (0, 0))) (.slice (some ⟨w.heap.size, 0, none⟩) len len) xs (w.heap.size :: fps.flatten) := by
              refine ⟨((parts.toList.map fun p => a.eval p.2).flatMap fun v => v.cells.toList), fps, ⟨?_, Or.inr ⟨w.heap.size, len, Array.mk ((parts.toList.map fun p => a.eval p.2).flatMap fun v => v.cells.toList), ?_, hB, ?_, ?_, ?_, ?_, ?_⟩⟩, q3, ?_, rfl, ?_⟩
              · rw [hps, hlen2, q2, hlen]
              · rw [q2, hlen]
              · rw [← he]; exact alloc_top rfl
              · rw [q2, hlen]; exact Nat.le_refl _
              · unfold maxLen; have := Nat.le_mul_of_pos_right len hkp; omega
              · rw [List.size_toArray, hps, hlen2]
              · rw [List.take_of_length_le]; simp only [hps, hlen2, q2, hlen]; exact Nat.le_refl _
              · intro i x f hx hff
                obtain ⟨p, h1, h2⟩ := q4 i x f hx hff
                have hkey : (((parts.toList.map fun p => a.eval p.2).flatMap fun v => v.cells.toList).drop (i * kk gt)).take (kk gt) = (a.eval p.2).cells.toList := by
                  rw [hps]; exact flatMap_sub hcl2 (by rw [List.getElem?_map, h1]; rfl)
                rw [hkey]
                exact (fine gt).below h2 hb0
              · refine ⟨List.nodup_cons.2 ⟨fun hm => by have := hOlt _ hm; omega, q5.nodup⟩, fun b hb => ?_, fun b hb => ?_⟩
                · rcases List.mem_cons.1 hb with rfl | hb
                  · exact hB
                  · exact q5.ge b hb
                · rcases List.mem_cons.1 hb with rfl | hb
                  · exact ⟨_, _, alloc_top rfl⟩
                  · exact (q5.below hb0).kind b hb
            obtain ⟨env', hg', hv'⟩ := good_app (ty := ty) g (ks := ks) hlk (v := nilv) (fp := []) (fx := fps.flatten) (by simpa using q6) (by intro b hb; cases hb) hBld
              ⟨rfl, rfl, rfl, by simp, fun b hb _ => hb0.block b hb⟩ (by
                intro b hb
                rcases List.mem_cons.1 hb with h | h
                · exact Or.inr (Or.inr h)
                · exact Or.inr (Or.inl h))
            exact ⟨_, env', by trivial, hb0.mono hB, hg', by trivial, ⟨gt, _, look_eq⟩, hv'.symm⟩
        · cases h
      · cases h
    · cases h
  | _ => simp [ebuild] at h
end
end Go.Proofs.Ythlflnplnajjiaa.G
