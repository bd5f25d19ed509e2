/-
  Contracts of functions that are lent memory: from the walk through their bodies.
-/
import Derived.Test.YthjedjndamejmaaGreatZCollectSharesM5
namespace Go.Proofs.YthjedjndamejmaaGreat.G
set_option linter.all false
open Go.RowKit L D
variable {ty : Tag → Nat}
/-- Cells that are only read from now on. -/
def fzs (st : St) : List V → Option (List V × List Nat)
  | [] => some ([], [])
  | .lit (.slice _ _ _) :: _ => none
  | .lit v :: r => match fzs st r with | some (c, k) => some (.lit v :: c, k) | none => none
  | .sl t l :: r => match fzs st r with | some (c, k) => some (.sl t l :: c, k) | none => none
  | .own n :: r => match look st.hp n, fzs st r with
    | some (.arr t l), some (c, k) => some (.sl t l :: c, n :: k)
    | _, _ => none
  | _ => none
def fparts (st : St) (g : Tag) : Nat → List (Nat × Operand) → Option (List Prop × List (T g) × List Nat)
  | _, [] => some ([], [], [])
  | i, (j, x) :: r => match Nat.beq i j, opv st [] x with
    | true, some s => match fzs st (cellsOf s) with
      | some (c, k) => match enc g c, fparts st g (i + 1) r with
        | some (vc, y), some (vcs, ys, ks) => some (vc ++ vcs, y :: ys, k ++ ks)
        | _, _ => none
      | none => none
    | _, _ => none
def efz (P : Program) (ty : Tag → Nat) (Γ : Nat → TK) (st : St) : Op → Option (List Prop × St × SV)
  | .buildSlice t len parts => match Γ t with
    | .sl g e => match Nat.beq e (ty g), Nat.beq parts.toList.length len, Nat.ble (len * kk g) 16777216, fparts st g 0 parts.toList with
      | true, true, true, some (vc, xs, ks) => match nodupn ks && !pinned ks with
        | true => some (El P ty g :: vc, ⟨st.n, st.sl.map fun e => (e.1, e.2.kills ks []), hkills ks [] st.hp⟩, .one (.a (.sl g xs)))
        | _ => none
      | _, _, _, _ => none
    | _ => none
  | _ => none
section
variable {P : Program} {zb : Base} {st : St} {a : Act} {w : World} {env : Env} {Q : Exit → Act → World → Prop} {o : Oper}
theorem fzs_noany {st : St} : ∀ {l c : List V} {k : List Nat}, fzs st l = some (c, k) → noany l = true
  | [], _, _, _ => rfl
  | v :: r, c, k, h => by
    unfold fzs at h
    split at h
    · rename_i he; cases he
    · cases h
    · rename_i x r' _ he
      simp only [List.cons.injEq] at he
      obtain ⟨rfl, rfl⟩ := he
      split at h
      · rename_i h'; have h2 := fzs_noany h'; exact h2
      · cases h
    · rename_i t l r' he
      simp only [List.cons.injEq] at he
      obtain ⟨rfl, rfl⟩ := he
      split at h
      · rename_i h'; have h2 := fzs_noany h'; exact h2
      · cases h
    · rename_i n r' he
      simp only [List.cons.injEq] at he
      obtain ⟨rfl, rfl⟩ := he
      split at h
      · rename_i h'; have h2 := fzs_noany h'; exact h2
      · cases h
    · cases h
theorem fzs_ok (g : Good ty zb st a.tmps w env) : ∀ {l c : List V} {k : List Nat} {us : List Value}, All2 (RA w st.hp env) l us → fzs st l = some (c, k) →
    ∃ fp, RIs w c us fp ∧ ∀ b, b ∈ fp → b < w.heap.size ∧ (¬ Ow st.hp env b ∨ ∃ i o, i ∈ k ∧ look st.hp i = some o ∧ b ∈ (env i).fp)
  | [], c, k, us, hr, h => by
    simp only [fzs, Option.some.injEq, Prod.mk.injEq] at h
    obtain ⟨rfl, rfl⟩ := h
    cases us with
    | nil => exact ⟨[], rfl, by simp⟩
    | cons _ _ => exact hr.elim
  | v :: r, c, k, us, hr, h => by
    cases us with
    | nil => exact hr.elim
    | cons u us =>
      unfold fzs at h
      split at h
      · rename_i he; cases he
      · cases h
      · rename_i x r' _ he
        simp only [List.cons.injEq] at he
        obtain ⟨rfl, rfl⟩ := he
        split at h
        · rename_i c' k' h'
          simp only [Option.some.injEq, Prod.mk.injEq] at h
          obtain ⟨rfl, rfl⟩ := h
          obtain ⟨fp, h1, h3⟩ := fzs_ok g hr.2 h'
          obtain ⟨e1, e2⟩ := hr.1
          exact ⟨fp, ⟨[], fp, ⟨e1, e2, rfl⟩, h1, rfl⟩, h3⟩
        · cases h
      · rename_i t l r' he
        simp only [List.cons.injEq] at he
        obtain ⟨rfl, rfl⟩ := he
        split at h
        · rename_i c' k' h'
          simp only [Option.some.injEq, Prod.mk.injEq] at h
          obtain ⟨rfl, rfl⟩ := h
          obtain ⟨fp, h1, h3⟩ := fzs_ok g hr.2 h'
          obtain ⟨f0, k1, k2⟩ := hr.1
          refine ⟨f0 ++ fp, ⟨f0, fp, k1, h1, rfl⟩, fun b hb => ?_⟩
          rcases List.mem_append.1 hb with hb | hb
          · exact ⟨Sl.lt (fine t) k1 b hb, Or.inl (k2 b hb)⟩
          · exact h3 b hb
        · cases h
      · rename_i n r' he
        simp only [List.cons.injEq] at he
        obtain ⟨rfl, rfl⟩ := he
        split at h
        · rename_i t l c' k' hl h'
          simp only [Option.some.injEq, Prod.mk.injEq] at h
          obtain ⟨rfl, rfl⟩ := h
          obtain ⟨fp, h1, h3⟩ := fzs_ok g hr.2 h'
          obtain ⟨_, rfl⟩ := hr.1
          have hb := RO.sl (g.obj n _ hl)
          refine ⟨(env n).fp ++ fp, ⟨_, _, hb, h1, rfl⟩, fun b hb => ?_⟩
          rcases List.mem_append.1 hb with hb | hb
          · exact ⟨(g.obj n _ hl).blk b hb, Or.inr ⟨n, _, by simp, hl, hb⟩⟩
          · obtain ⟨q1, q2⟩ := h3 b hb
            refine ⟨q1, q2.imp id ?_⟩
            rintro ⟨i, o, hi, h4, h5⟩
            exact ⟨i, o, List.mem_cons_of_mem _ hi, h4, h5⟩
        · cases h
      · cases h
theorem fparts_ok (g : Good ty zb st a.tmps w env) {t : Tag} : ∀ {ps : List (Nat × Operand)} {i : Nat} {vc : List Prop} {xs : List (T t)} {ks : List Nat}, fparts st t i ps = some (vc, xs, ks) → (∀ q, q ∈ vc → q) →
    (ps.map fun p => (p.1, a.eval p.2)) = seqv i (ps.map fun p => a.eval p.2) ∧ xs.length = ps.length ∧ ∃ fps : List (List Nat), fps.length = xs.length ∧
      (∀ (i : Nat) (x : T t) (f : List Nat), xs[i]? = some x → fps[i]? = some f → ∃ p : Nat × Operand, ps[i]? = some p ∧ rd t w (a.eval p.2).cells.toList x f) ∧ ∀ b, b ∈ fps.flatten → b < w.heap.size ∧ (¬ Ow st.hp env b ∨ ∃ i o, i ∈ ks ∧ look st.hp i = some o ∧ b ∈ (env i).fp)
  | [], i, vc, xs, ks, h, _ => by
    simp only [fparts, Option.some.injEq, Prod.mk.injEq] at h
    obtain ⟨rfl, rfl, rfl⟩ := h
    exact ⟨rfl, rfl, [], rfl, by simp, by simp⟩
  | (j, x) :: r, i, vc, xs, ks, h, hv => by
    simp only [fparts] at h
    split at h
    · rename_i s hij hx
      have hij := Nat.eq_of_beq_eq_true hij
      subst hij
      split at h
      · rename_i c k hc
        split at h
        · rename_i vc1 y vcs ys ks1 he hb
          simp only [Option.some.injEq, Prod.mk.injEq] at h
          obtain ⟨rfl, rfl, rfl⟩ := h
          obtain ⟨q1, q2, fps, q3, q4, q6⟩ := fparts_ok g hb (fun q hq => hv q (List.mem_append_right _ hq))
          obtain ⟨fp, r1, r3⟩ := fzs_ok g (cellsOf_ok g (opv_ok g (fun e he => by simp at he) hx) (fzs_noany hc)) hc
          have hE := enc_ok t he (fun q hq => hv q (List.mem_append_left _ hq)) r1
          refine ⟨by simp [seqv, q1], by simp [q2], fp :: fps, by simp [q3], ?_, ?_⟩
          · intro i' x' f hx' hf
            cases i' with
            | zero => simp at hx' hf; subst hx'; subst hf; exact ⟨(i, x), rfl, hE⟩
            | succ n => simp at hx' hf; obtain ⟨p, h1, h2⟩ := q4 n x' f hx' hf; exact ⟨p, by simpa using h1, h2⟩
          · intro b hb
            rw [List.flatten_cons] at hb
            rcases List.mem_append.1 hb with hb | hb
            · obtain ⟨z1, z2⟩ := r3 b hb
              exact ⟨z1, z2.imp id fun ⟨n, o1, h1, h2, h3⟩ => ⟨n, o1, List.mem_append_left _ h1, h2, h3⟩⟩
            · obtain ⟨z1, z2⟩ := q6 b hb
              exact ⟨z1, z2.imp id fun ⟨n, o1, h1, h2, h3⟩ => ⟨n, o1, List.mem_append_right _ h1, h2, h3⟩⟩
        · cases h
      · cases h
    · cases h
theorem run_frozen {t len : Nat} {parts : Array (Nat × Operand)} (ho : o.op = .buildSlice t len parts) {g : Tag} (hu : P.underlying t = some (.slice (ty g))) (hEl : El P ty g) (hbig : len * kk g ≤ 16777216) (hlen : parts.toList.length = len)
    {xs : List (T g)} {fps : List (List Nat)} (q1 : (parts.toList.map fun p => (p.1, a.eval p.2)) = seqv 0 (parts.toList.map fun p => a.eval p.2)) (q2 : xs.length = parts.toList.length) (q3 : fps.length = xs.length)
    (q4 : ∀ (i : Nat) (x : T g) (f : List Nat), xs[i]? = some x → fps[i]? = some f → ∃ p : Nat × Operand, parts.toList[i]? = some p ∧ rd g w (a.eval p.2).cells.toList x f) :
    ∃ w', (execOp a.eval o).run P w = .ok (.value (.slice (some ⟨w.heap.size, 0, none⟩) len len)) w' ∧ Below w.heap.size w w' ∧ Sl (kk g) (rd g) w' (.slice (some ⟨w.heap.size, 0, none⟩) len len) xs (w.heap.size :: fps.flatten) := by
  have hkp := kk_pos g
  have hcl : ∀ v, v ∈ (parts.toList.map fun p => a.eval p.2) → v.cells.size = kk g := by
    intro v hv
    obtain ⟨i, hi⟩ := List.getElem?_of_mem hv
    have hil : i < xs.length := by have := (List.getElem?_eq_some_iff.1 hi).1; simp at this; rw [q2]; simpa using this
    have hfl : i < fps.length := by omega
    obtain ⟨p, h1, h2⟩ := q4 i xs[i] fps[i] (List.getElem?_eq_getElem hil) (List.getElem?_eq_getElem hfl)
    rw [List.getElem?_map, h1] at hi
    simp at hi
    subst hi
    simpa using (fine g).len h2
  cases hq : P.info? (ty g) with
  | none => simp [El, hq] at hEl
  | some inf =>
    simp [El, hq] at hEl
    obtain ⟨z1, z2, z3⟩ := hEl
    let zs : List Value := (List.range (len * kk g)).map fun j => (if len * kk g = 0 then #[] else (zval g).cells)[j % (if len * kk g = 0 then #[] else (zval g).cells).size]!
    have hzl : zs.length = len * kk g := by simp [zs]
    have hf := fill_seq (k := kk g) (parts.toList.map fun p => a.eval p.2) 0 zs hcl (by rw [hzl, List.length_map, hlen, Nat.zero_add])
    rw [Nat.zero_mul, List.take_zero, List.nil_append] at hf
    have hrun : (execOp a.eval o).run P w = .ok (.value (.slice (some ⟨w.heap.size, 0, none⟩) len len)) (w.alloc (.cells (Array.mk ((parts.toList.map fun p => a.eval p.2).flatMap fun v => v.cells.toList)) (ty g) (0, 0))) := by
      unfold execOp
      have hpl : (parts.map fun (p : Nat × Operand) => (p.1, a.eval p.2)).toList = seqv 0 (parts.toList.map fun p => a.eval p.2) := by
        rw [Array.toList_map]; exact q1
      have hzs : ((Array.range (len * kk g)).map fun j => (if len * kk g = 0 then #[] else (zval g).cells)[j % (if len * kk g = 0 then #[] else (zval g).cells).size]!) = Array.mk zs := by
        simp only [zs]
        apply Array.ext'
        simp
      have hze : (sizeOf (ty g)).run P w = .ok (kk g) w := by simp [sizeOf, typeInfo, hq, z2]
      simp only [ho, Instr.buildSlice, Sem.run_bind, run_underlying hu, Result.andThen_ok, hze]
      rw [if_neg (by omega)]
      by_cases hz0 : len * kk g = 0
      · simp only [if_pos hz0] at hzs ⊢
        simp only [Sem.run_bind, Sem.run_pure, Result.andThen_ok]
        rw [hzs, hpl, hf]
        simp [newRow]
      · have hzv : (zeroValue (ty g)).run P w = .ok (zval g) w := by simp [zeroValue, typeInfo, hq, z1]
        simp only [if_neg hz0] at hzs ⊢
        simp only [Sem.run_bind, hzv, Sem.run_pure, Result.andThen_ok]
        rw [hzs, hpl, hf]
        simp [newRow]
    have hps : ((parts.toList.map fun p => a.eval p.2).flatMap fun v => v.cells.toList) = ((parts.toList.map fun p => (a.eval p.2).cells.toList).flatMap id) := by
      simp [List.flatMap_map]
    have hcl2 : ∀ v, v ∈ (parts.toList.map fun p => (a.eval p.2).cells.toList) → v.length = kk g := by
      intro v hv
      obtain ⟨p, hp, rfl⟩ := List.mem_map.1 hv
      simpa using hcl _ (List.mem_map.2 ⟨p, hp, rfl⟩)
    have hlen2 := flatMap_len hcl2
    rw [List.length_map, hlen] at hlen2
    have hb0 : Below w.heap.size w (w.alloc (.cells (Array.mk ((parts.toList.map fun p => a.eval p.2).flatMap fun v => v.cells.toList)) (ty g) (0, 0))) := (Below.refl _ _).alloc (Nat.le_refl _) _
    have htop := alloc_top (w := w) (o := .cells (Array.mk ((parts.toList.map fun p => a.eval p.2).flatMap fun v => v.cells.toList)) (ty g) (0, 0)) (k := w.heap.size) rfl
    refine ⟨_, hrun, hb0, some ⟨w.heap.size, 0, none⟩, len, by rw [q2, hlen], by rw [q2, hlen]; exact Nat.le_refl _, ?_, Or.inr ⟨w.heap.size, 0, fps, rfl, sizeB htop, rfl, q3, ?_⟩⟩
    · unfold maxLen; have := Nat.le_mul_of_pos_right len hkp; omega
    · intro i x f hx hff
      obtain ⟨p, h1, h2⟩ := q4 i x f hx hff
      have hkey : (((parts.toList.map fun p => a.eval p.2).flatMap fun v => v.cells.toList).drop (i * kk g)).take (kk g) = (a.eval p.2).cells.toList := by
        rw [hps]; exact flatMap_sub hcl2 (by rw [List.getElem?_map, h1]; rfl)
      refine ⟨_, rangeB' htop _ _ fun j v hv => ?_, (fine g).below h2 hb0⟩
      rw [← hkey] at hv
      rw [List.getElem?_take] at hv
      split at hv
      · rw [List.getElem?_drop] at hv
        rw [Nat.zero_add, List.getElem?_toArray]
        exact hv
      · cases hv
/-- Objects are forgotten. -/
theorem good_drop (g : Good ty zb st a.tmps w env) {ks : List Nat} {w' : World} (hb : Below w.heap.size w w') : Good ty zb ⟨st.n, st.sl.map fun e => (e.1, e.2.kills ks []), hkills ks [] st.hp⟩ a.tmps w' env := by
  have hlk : ∀ m o, look (hkills ks [] st.hp) m = some o → m ∉ ks ∧ ∃ o', look st.hp m = some o' ∧ o = o'.kills ks [] := by
    intro m o hm
    rw [hkills_look] at hm
    split at hm
    · cases hm
    · rename_i hks
      cases hq : look st.hp m with
      | none => rw [hq] at hm; cases hm
      | some o' => rw [hq] at hm; simp only [Option.map_some, Option.some.injEq] at hm; exact ⟨hks, o', rfl, hm.symm⟩
  have s : Turn ks [] w st.hp env w' (hkills ks [] st.hp) env := by
    refine ⟨fun b hlt _ => hb.block b hlt, ?_, ?_, ?_⟩
    · rintro b hlt ⟨m, o', h1, h2⟩
      obtain ⟨_, o'', h3, rfl⟩ := hlk m o' h1
      exact ⟨m, o'', h3, h2⟩
    · intro m o' hks h1
      exact ⟨o'.kills ks [], by rw [hkills_look, if_neg hks, h1]; rfl, by cases o' <;> simp [Obj.like, Obj.kills], rfl⟩
    · rintro m t' l' ⟨hks, _⟩ h1
      exact ⟨by rw [hkills_look, if_neg hks, h1]; rfl, rfl, fun b hbm => hb.block b ((g.obj m _ h1).blk b hbm)⟩
  refine g.turn s (fun m o' hm => ?_) (fun m m' o1 o2 hne h1 h2 b hbm hb' => ?_) (fun m o' hm b hbm => ?_) g.pins
  · obtain ⟨hks, o'', h3, rfl⟩ := hlk m o' hm
    exact (g.obj m o'' h3).turn s fun b hbm => hb.block b ((g.obj m o'' h3).blk b hbm)
  · obtain ⟨_, q1, h3, _⟩ := hlk m o1 h1
    obtain ⟨_, q2, h4, _⟩ := hlk m' o2 h2
    exact g.dis m m' _ _ hne h3 h4 b hbm hb'
  · obtain ⟨_, q1, h3, _⟩ := hlk m o' hm
    exact g.dom m q1 h3 b hbm
theorem efz_ok {Γ : Nat → TK} (C : ∀ t, TKok P t (Γ t)) {vc : List Prop} {st' : St} {v : SV} (h : efz P ty Γ st o.op = some (vc, st', v)) (g : Good ty zb st a.tmps w env) (hB : zb.w.heap.size ≤ w.heap.size) (hv : ∀ q, q ∈ vc → q) :
    o.wp P a w (fun a' w' => ∃ u env', a' = a.put o.dst u ∧ Kept zb w w' ∧ Good ty zb st' a.tmps w' env' ∧ st'.n = st.n ∧ RSV w' st'.hp env' a.tmps v u) Q := by
  generalize hoo : o.op = op at h
  cases op with
  | buildSlice t len parts =>
    simp only [efz] at h
    split at h
    · rename_i gt e hk
      split at h
      · rename_i vc1 xs ks he hlen hbig hb
        have he := Nat.eq_of_beq_eq_true he
        split at h
        · rename_i hnd
          simp only [Option.some.injEq, Prod.mk.injEq] at h
          obtain ⟨rfl, rfl, rfl⟩ := h
          have hEl : El P ty gt := hv _ (by simp)
          obtain ⟨q1, q2, fps, q3, q4, q6⟩ := fparts_ok g hb (fun q hq => hv q (by simp [hq]))
          have hC := C t
          rw [hk, he] at hC
          obtain ⟨w', r1, r2, r3⟩ := run_frozen (P := P) (w := w) (a := a) hoo hC.1 hEl (Nat.le_of_ble_eq_true hbig) (Nat.eq_of_beq_eq_true hlen) q1 q2 q3 q4
          have hg' := good_drop g (ks := ks) r2
          unfold Oper.wp
          rw [r1]
          refine ⟨_, env, rfl, kept_below r2 hB, hg', rfl, _, r3, ?_⟩
          rintro b hbm ⟨m, o', h1, h2⟩
          rw [hkills_look] at h1
          split at h1
          · cases h1
          · rename_i hks
            cases hq : look st.hp m with
            | none => rw [hq] at h1; cases h1
            | some o'' =>
              have hlt := (g.obj m o'' hq).blk b h2
              rcases List.mem_cons.1 hbm with rfl | hbm
              · omega
              · rcases (q6 b hbm).2 with h3 | ⟨i, oi, hi, h4, h5⟩
                · exact h3 ⟨m, o'', hq, h2⟩
                · exact g.dis m i _ _ (fun e => hks (e ▸ hi)) hq h4 b h2 h5
        · cases h
      · cases h
    · cases h
  | _ => simp [efz] at h
end
end Go.Proofs.YthjedjndamejmaaGreat.G
namespace Go.Proofs.YthjedjndamejmaaGreat.G
set_option linter.all false
open Go.RowKit L D
variable {ty : Tag → Nat}
/-- Names of a call: the callee's, the caller's. -/
def inv : List (Nat × Nat) → Nat → Option Nat
  | [], _ => none
  | (n, m) :: r, k => match Nat.beq k m with | true => some n | false => inv r k
def V.toF (ρ : List (Nat × Nat)) : V → V
  | .lit v => .lit v
  | .sl t l => .sl t l
  | .own m => match inv ρ m with | some n => .own n | none => .any
  | .ptr m o => match inv ρ m with | some n => .ptr n o | none => .any
  | .fnp f m => match inv ρ m with | some n => .fnp f n | none => .any
  | _ => .any
def Obj.toF (ρ : List (Nat × Nat)) : Obj → Obj
  | .box c => .box (c.map (V.toF ρ))
  | .arr t l => .arr t l
/-- What is lent. -/
def lendH (st : St) (ρ : List (Nat × Nat)) : List (Nat × Nat) → Option Hp
  | [] => some []
  | (n, m) :: r => match look st.hp m, !pin m || pin n, !soft m || soft n, lendH st ρ r with
    | some o, true, true, some h => some ((n, o.toF ρ) :: h)
    | _, _, _, _ => none
def argF (st : St) (ρ : List (Nat × Nat)) (tg : Option Tag) (v : V) : Option V := match v.name with
  | some m => match inv ρ m with
    | some n => match v with
      | .own _ => some (.own n)
      | .ptr _ o => some (.ptr n o)
      | .fnp f _ => some (.fnp f n)
      | _ => none
    | none => imm st tg v
  | none => imm st tg v
def argFs (st : St) (ρ : List (Nat × Nat)) : List (Option Tag) → List V → Option (List V)
  | _, [] => some []
  | tg, v :: r => match argF st ρ (match tg with | t :: _ => t | [] => none) v, argFs st ρ (match tg with | _ :: ts => ts | [] => []) r with
    | some x, some y => some (x :: y)
    | _, _ => none
def argS (st : St) (ρ : List (Nat × Nat)) (k : TK) : S1 → Option S1
  | .a v => match argF st ρ (match k with | .sl t _ => some t | _ => none) v with | some x => some (.a x) | none => none
  | .agg l => match argFs st ρ (match k with | .st _ tg _ => tg | _ => []) l with | some x => some (.agg x) | none => none
def argsH (Γ : Nat → TK) (st : St) (ρ : List (Nat × Nat)) : List Operand → List Nat → Option (List S1)
  | [], _ => some []
  | x :: r, t => match opv st [] x with
    | some v => match argS st ρ (match t with | t :: _ => Γ t | [] => .other) v, argsH Γ st ρ r (match t with | _ :: ts => ts | [] => []) with
      | some y, some ys => some (y :: ys)
      | _, _ => none
    | none => none
/-- Who is called, and what he has caught. -/
def calleeH (st : St) (ρ : List (Nat × Nat)) (x : Operand) : Option (FuncId × List S1) := match opv st [] x with
  | some (.a (.fnp f m)) => match inv ρ m with | some n => some (f, [.a (.ptr n 0)]) | none => none
  | some v => match fnOf v with | some f => some (f, []) | none => none
  | none => none
def prsH : List V → Option (List (Nat × Nat))
  | [] => some []
  | .ptr n m :: r => match prsH r with | some l => some ((n, m) :: l) | none => none
  | _ => none
def nmsH : List V → Option (List Nat)
  | [] => some []
  | .own n :: r => match nmsH r with | some l => some (n :: l) | none => none
  | _ => none
def objsH : List Nat → List S1 → Option Hp
  | [], [] => some []
  | n :: ns, .a (.sl t l) :: r => match objsH ns r with | some h => some ((n, .arr t l) :: h) | none => none
  | n :: ns, .agg c :: r => match objsH ns r with | some h => some ((n, .box c) :: h) | none => none
  | _, _ => none
def V.toA (ρ : List (Nat × Nat)) : V → Option V
  | .any => some .any
  | .lit v => some (.lit v)
  | .own n => match look ρ n with | some m => some (.own m) | none => none
  | .ptr n o => match look ρ n with | some m => some (.ptr m o) | none => none
  | _ => none
def toAs (ρ : List (Nat × Nat)) : List V → Option (List V)
  | [] => some []
  | v :: r => match v.toA ρ, toAs ρ r with | some x, some y => some (x :: y) | _, _ => none
def S1.toA (ρ : List (Nat × Nat)) : S1 → Option S1
  | .a v => match v.toA ρ with | some x => some (.a x) | none => none
  | .agg l => match toAs ρ l with | some x => some (.agg x) | none => none
def rsH (ρ : List (Nat × Nat)) : List S1 → Option (List S1)
  | [] => some []
  | v :: r => match v.toA ρ, rsH ρ r with | some x, some y => some (x :: y) | _, _ => none
def Obj.toA (ρ : List (Nat × Nat)) : Obj → Option Obj
  | .box c => match toAs ρ c with | some x => some (.box x) | none => none
  | .arr t l => some (.arr t l)
/-- What comes back: the callee's name, the caller's, the object. -/
def backH (ρ : List (Nat × Nat)) : Hp → Option (List (Nat × Nat × Obj))
  | [] => some []
  | (n, o) :: r => match look ρ n, o.toA ρ, backH ρ r with
    | some m, some o', some h => match !pin m || pin n, !soft n || soft m with | true, true => some ((n, m, o') :: h) | _, _ => none
    | _, _, _ => none
def isbox : Option Obj → Bool
  | some (.box _) => true
  | _ => false
def GoodH (ty : Tag → Nat) (w : World) (hp : Hp) (env : Env) : Prop := (∀ n o, look hp n = some o → RO ty w hp env n o (env n)) ∧ ∀ n m o o', n ≠ m → look hp n = some o → look hp m = some o' → ∀ b, b ∈ (env n).fp → b ∉ (env m).fp
def lentB (hp : Hp) (env : Env) : List Nat := hp.flatMap fun e => (env e.1).fp
def ResH (w : World) (hp : Hp) (env : Env) (rs : List S1) (u : Value) : Prop := match rs with
  | [r] => RS1 w hp env r u
  | rs => ∃ us, u = .tuple us.toArray ∧ All2 (RS1 w hp env) rs us
/-- Whoever lends f the memory hp0 gets back hp1, and results that lie there; nothing else is written. -/
def SoundH (ty : Tag → Nat) (P : Program) (f : FuncId) (hp0 : Hp) (as : List S1) (hp1 : Hp) (rs : List S1) : Prop :=
  (∀ (args : Array Value) (w : World), (callFunc f args).run P w = .ok (.enter f args) w) ∧
  ∀ w env us, Amb w → (∀ b, Amb0 b → b ∉ lentB hp0 env) → GoodH ty w hp0 env → All2 (RS1 w hp0 env) as us → Calls P f us.toArray w fun e w' => ∃ env' u, e = .returned u ∧ Kept ⟨w, lentB hp0 env, env⟩ w w' ∧ GoodH ty w' hp1 env' ∧
    (∀ n o, look hp1 n = some o → ∀ b, b ∈ (env' n).fp → b ∈ lentB hp0 env ∨ w.heap.size ≤ b) ∧ (∀ n, pin n = true → (env' n).v = (env n).v ∧ ∀ b, b ∈ (env' n).fp → b ∈ (env n).fp) ∧ ResH w' hp1 env' rs u
def bhp (B : List (Nat × Nat × Obj)) : Hp := B.map fun e => (e.2.1, e.2.2)
def invB : List (Nat × Nat × Obj) → Nat → Option Nat
  | [], _ => none
  | (n, m, _) :: r, k => match Nat.beq k m with | true => some n | false => invB r k
def restH (kv ks : List Nat) (hp : Hp) : Hp := (hp.filter fun e => !kv.any (Nat.beq e.1)).map fun e => (e.1, e.2.kills ks kv)
def freshH (hp : Hp) : Hp → Bool
  | [] => true
  | (m, _) :: r => (match look hp m with | none => true | some _ => false) && freshH hp r
/-- A call that is lent memory. cr: 800000 on: the results; 700000 on: the lent names, the new ones, what comes back. -/
def ecal (P : Program) (ty : Tag → Nat) (Γ : Nat → TK) (cr : List (Nat × CR)) (st : St) (d : Option Nat) : Op → Option (List Prop × St × SV)
  | .call ⟨.value x, xs, ts⟩ => match look cr (d.getD 99999 + 700000), look cr (d.getD 99999 + 800000) with
    | some ⟨_, .agg a :: .agg b :: .agg c :: os⟩, some ⟨_, rs⟩ => match prsH a, prsH b, nmsH c with
      | some ρ0, some ρ1, some ns => match objsH ns os, lendH st ρ0 ρ0, calleeH st ρ0 x, argsH Γ st ρ0 xs.toList ts.toList with
        | some hp1, some hp0, some (f, ex), some as => match backH (ρ0 ++ ρ1) hp1, rsH (ρ0 ++ ρ1) rs with
          | some B, some rsA => match nodupn ((ρ0 ++ ρ1).map Prod.fst) && nodupn (ρ0.map Prod.snd) && nodupk hp1 && nodupk (bhp B) && freshH (restH (ρ0.map Prod.snd) ((ρ0.filter fun e => !pin e.1).map Prod.snd) st.hp) (bhp B) && ρ0.all (fun e => !pin e.1 || (isbox (look hp0 e.1) && isbox (look hp1 e.1))) && ρ1.all (fun e => !pin e.2) with
            | true => some ([SoundH ty P f hp0 (app1 as ex) hp1 rs], ⟨st.n, st.sl.map fun e => (e.1, e.2.kills ((ρ0.filter fun e => !pin e.1).map Prod.snd) (ρ0.map Prod.snd)), bhp B ++ restH (ρ0.map Prod.snd) ((ρ0.filter fun e => !pin e.1).map Prod.snd) st.hp⟩, match rsA with | [r] => .one r | l => .tup l)
            | false => none
          | _, _ => none
        | _, _, _, _ => none
      | _, _, _ => none
    | _, _ => none
  | _ => none
theorem inv_mem : ∀ {ρ : List (Nat × Nat)} {m n : Nat}, inv ρ m = some n → (n, m) ∈ ρ
  | (a, b) :: r, m, n, h => by
    simp only [inv] at h
    split at h
    · rename_i hb
      have := Nat.eq_of_beq_eq_true hb
      simp only [Option.some.injEq] at h
      subst h; subst this; simp
    · exact List.mem_cons_of_mem _ (inv_mem h)
theorem inv_none : ∀ {ρ : List (Nat × Nat)} {m : Nat}, inv ρ m = none → m ∉ ρ.map Prod.snd
  | [], _, _ => by simp
  | (a, b) :: r, m, h => by
    simp only [inv] at h
    split at h
    · cases h
    · rename_i hb
      have hne : m ≠ b := fun e => by rw [e, Nat.beq_refl] at hb; cases hb
      have := inv_none h
      simp only [List.map_cons, List.mem_cons, not_or]
      exact ⟨hne, this⟩
theorem look_of_mem {α : Type} : ∀ {l : List (Nat × α)} {n : Nat} {x : α}, (l.map Prod.fst).Nodup → (n, x) ∈ l → look l n = some x
  | (j, y) :: r, n, x, hnd, h => by
    obtain ⟨h1, h2⟩ := List.nodup_cons.1 hnd
    rcases List.mem_cons.1 h with h' | h'
    · simp only [Prod.mk.injEq] at h'
      obtain ⟨rfl, rfl⟩ := h'
      exact look_eq
    · have hne : n ≠ j := fun e => h1 (List.mem_map.2 ⟨(n, x), h', e⟩)
      rw [look_ne hne]; exact look_of_mem h2 h'
theorem nodupk_ok : ∀ {l : Hp}, nodupk l = true → (l.map Prod.fst).Nodup
  | [], _ => List.nodup_nil
  | (n, x) :: r, h => by
    simp only [nodupk, Bool.and_eq_true] at h
    refine List.nodup_cons.2 ⟨fun hm => ?_, nodupk_ok h.2⟩
    obtain ⟨e, he, rfl⟩ := List.mem_map.1 hm
    have := look_of_mem (nodupk_ok h.2) (show (e.1, e.2) ∈ r from he)
    rw [this] at h; simp at h
theorem invB_look : ∀ {B : List (Nat × Nat × Obj)} {m : Nat} {o : Obj}, look (bhp B) m = some o → ∃ n, (n, m, o) ∈ B ∧ invB B m = some n
  | (n, k, x) :: r, m, o, h => by
    have h : look ((k, x) :: bhp r) m = some o := h
    by_cases hm : m = k
    · subst hm
      rw [look_eq] at h
      simp only [Option.some.injEq] at h
      subst h
      exact ⟨n, by simp, by simp [invB]⟩
    · rw [look_ne hm] at h
      obtain ⟨n', h1, h2⟩ := invB_look h
      refine ⟨n', List.mem_cons_of_mem _ h1, ?_⟩
      simp only [invB]
      cases hb : Nat.beq m k with
      | true => exact absurd (Nat.eq_of_beq_eq_true hb) hm
      | false => exact h2
theorem invB_none : ∀ {B : List (Nat × Nat × Obj)} {m : Nat}, look (bhp B) m = none → invB B m = none
  | [], _, _ => rfl
  | (n, k, x) :: r, m, h => by
    have h : look ((k, x) :: bhp r) m = none := h
    have hm : m ≠ k := by rintro rfl; rw [look_eq] at h; cases h
    rw [look_ne hm] at h
    simp only [invB]
    cases hb : Nat.beq m k with
    | true => exact absurd (Nat.eq_of_beq_eq_true hb) hm
    | false => exact invB_none h
theorem backH_mem {ρ : List (Nat × Nat)} : ∀ {hp : Hp} {B : List (Nat × Nat × Obj)}, backH ρ hp = some B → ∀ n m o', (n, m, o') ∈ B → ∃ o, (n, o) ∈ hp ∧ look ρ n = some m ∧ o.toA ρ = some o' ∧ (pin m = true → pin n = true) ∧ (soft n = true → soft m = true)
  | [], B, h, n, m, o', hm => by
    simp only [backH, Option.some.injEq] at h
    subst h; cases hm
  | (k, x) :: r, B, h, n, m, o', hm => by
    simp only [backH] at h
    split at h
    · rename_i m1 o1 h1 e1 e2 e3
      split at h
      · rename_i hp hs
        simp only [Option.some.injEq] at h
        subst h
        rcases List.mem_cons.1 hm with h | h
        · simp only [Prod.mk.injEq] at h
          obtain ⟨rfl, rfl, rfl⟩ := h
          refine ⟨x, by simp, e1, e2, fun hn => ?_, fun hn => ?_⟩
          · rw [hn] at hp; simpa using hp
          · rw [hn] at hs; simpa using hs
        · obtain ⟨o, q1, q2⟩ := backH_mem e3 n m o' h
          exact ⟨o, List.mem_cons_of_mem _ q1, q2⟩
      · cases h
    · cases h
theorem backH_all {ρ : List (Nat × Nat)} : ∀ {hp : Hp} {B : List (Nat × Nat × Obj)}, backH ρ hp = some B → ∀ n o, (n, o) ∈ hp → ∃ m o', (n, m, o') ∈ B ∧ look ρ n = some m ∧ o.toA ρ = some o'
  | [], B, h, n, o, hm => by cases hm
  | (k, x) :: r, B, h, n, o, hm => by
    simp only [backH] at h
    split at h
    · rename_i m1 o1 h1 e1 e2 e3
      split at h
      · simp only [Option.some.injEq] at h
        subst h
        rcases List.mem_cons.1 hm with h | h
        · simp only [Prod.mk.injEq] at h
          obtain ⟨rfl, rfl⟩ := h
          exact ⟨m1, o1, by simp, e1, e2⟩
        · obtain ⟨m, o', q1, q2⟩ := backH_all e3 n o h
          exact ⟨m, o', List.mem_cons_of_mem _ q1, q2⟩
      · cases h
    · cases h
theorem lendH_mem {st : St} {ρ : List (Nat × Nat)} : ∀ {r : List (Nat × Nat)} {hp : Hp}, lendH st ρ r = some hp → (∀ n o, (n, o) ∈ hp → ∃ m x, (n, m) ∈ r ∧ look st.hp m = some x ∧ o = x.toF ρ ∧ (pin m = true → pin n = true) ∧ (soft m = true → soft n = true)) ∧ ∀ n m, (n, m) ∈ r → ∃ x, look st.hp m = some x ∧ (n, x.toF ρ) ∈ hp
  | [], hp, h => by
    simp only [lendH, Option.some.injEq] at h
    subst h
    exact ⟨(fun n o hm => nomatch hm), (fun n m hm => nomatch hm)⟩
  | (k, j) :: r, hp, h => by
    simp only [lendH] at h
    split at h
    · rename_i x h' e1 e2 e3 e4
      simp only [Option.some.injEq] at h
      subst h
      obtain ⟨q1, q2⟩ := lendH_mem e4
      refine ⟨fun n o hm => ?_, fun n m hm => ?_⟩
      · rcases List.mem_cons.1 hm with h | h
        · simp only [Prod.mk.injEq] at h
          obtain ⟨rfl, rfl⟩ := h
          exact ⟨j, x, by simp, e1, rfl, fun hs => by rw [hs] at e2; simpa using e2, fun hs => by rw [hs] at e3; simpa using e3⟩
        · obtain ⟨m, y, p1, p2⟩ := q1 n o h
          exact ⟨m, y, List.mem_cons_of_mem _ p1, p2⟩
      · rcases List.mem_cons.1 hm with h | h
        · simp only [Prod.mk.injEq] at h
          obtain ⟨rfl, rfl⟩ := h
          exact ⟨x, e1, by simp⟩
        · obtain ⟨y, p1, p2⟩ := q2 n m h
          exact ⟨y, p1, List.mem_cons_of_mem _ p2⟩
    · cases h
theorem lendH_fst {st : St} {ρ : List (Nat × Nat)} : ∀ {r : List (Nat × Nat)} {hp : Hp}, lendH st ρ r = some hp → hp.map Prod.fst = r.map Prod.fst
  | [], hp, h => by simp only [lendH, Option.some.injEq] at h; subst h; rfl
  | (k, j) :: r, hp, h => by
    simp only [lendH] at h
    split at h
    · rename_i e4
      simp only [Option.some.injEq] at h
      subst h
      rw [List.map_cons, List.map_cons, lendH_fst e4]
    · cases h
theorem restH_look {kv ks : List Nat} {hp : Hp} {n : Nat} : look (restH kv ks hp) n = if n ∈ kv then none else (look hp n).map (Obj.kills ks kv) := by
  unfold restH
  rw [look_map (α := Obj) (f := fun e : Nat × Obj => e.2.kills ks kv)]
  have : look (hp.filter fun e => !kv.any (Nat.beq e.1)) n = if n ∈ kv then none else look hp n := by
    induction hp with
    | nil => simp [look]
    | cons e r ih =>
      obtain ⟨j, x⟩ := e
      by_cases hj : j ∈ kv
      · have : (kv.any (Nat.beq j)) = true := List.any_eq_true.2 ⟨j, hj, by simp⟩
        rw [List.filter_cons_of_neg (by simp [this]), ih]
        by_cases hn : n ∈ kv
        · simp [hn]
        · have : n ≠ j := by rintro rfl; exact hn hj
          rw [if_neg hn, if_neg hn, look_ne this]
      · have : (kv.any (Nat.beq j)) = false := by
          rw [List.any_eq_false]
          intro y hy hb
          exact hj (by rw [Nat.eq_of_beq_eq_true hb]; exact hy)
        rw [List.filter_cons_of_pos (by simp [this])]
        by_cases hnj : n = j
        · subst hnj; rw [look_eq, if_neg hj, look_eq]
        · rw [look_ne hnj, look_ne hnj, ih]
  rw [this]
  split <;> simp
theorem freshH_ok {hp : Hp} : ∀ {l : Hp}, freshH hp l = true → ∀ m o, look l m = some o → look hp m = none
  | (k, x) :: r, h, m, o, hl => by
    simp only [freshH, Bool.and_eq_true] at h
    by_cases hm : m = k
    · subst hm
      cases hq : look hp m with
      | none => rfl
      | some y => rw [hq] at h; simp at h
    · rw [look_ne hm] at hl; exact freshH_ok h.2 m o hl
end Go.Proofs.YthjedjndamejmaaGreat.G
namespace Go.Proofs.YthjedjndamejmaaGreat.G
set_option linter.all false
open Go.RowKit L D
variable {ty : Tag → Nat}
/-- The callee's names, in the caller's memory. -/
def env0 (env : Env) (ρ : List (Nat × Nat)) : Env := fun n => match look ρ n with | some m => env m | none => ⟨nilv, []⟩
section
variable {P : Program} {zb : Base} {st st' : St} {a : Act} {w : World} {env : Env} {Q : Exit → Act → World → Prop} {o : Oper} {ρ : List (Nat × Nat)} {hp0 : Hp}
/-- What is lent, in both names. -/
structure Lent (st : St) (env : Env) (ρ : List (Nat × Nat)) (hp0 : Hp) : Prop where
  at_ : ∀ n m, (n, m) ∈ ρ → look ρ n = some m
  obj : ∀ n m, (n, m) ∈ ρ → ∃ x, look st.hp m = some x ∧ look hp0 n = some (x.toF ρ)
  back : ∀ n o, look hp0 n = some o → ∃ m x, (n, m) ∈ ρ ∧ look st.hp m = some x ∧ o = x.toF ρ ∧ (pin m = true → pin n = true) ∧ (soft m = true → soft n = true)
  uniq : (ρ.map Prod.snd).Nodup
theorem Lent.of {st : St} {env : Env} {hp0 : Hp} (h : lendH st ρ ρ = some hp0) (h1 : (ρ.map Prod.fst).Nodup) (h2 : (ρ.map Prod.snd).Nodup) : Lent st env ρ hp0 := by
  obtain ⟨q1, q2⟩ := lendH_mem h
  have hnd : (hp0.map Prod.fst).Nodup := by rw [lendH_fst h]; exact h1
  refine ⟨fun n m hm => look_of_mem h1 hm, fun n m hm => ?_, fun n o hl => ?_, h2⟩
  · obtain ⟨x, p1, p2⟩ := q2 n m hm
    exact ⟨x, p1, look_of_mem hnd p2⟩
  · obtain ⟨m, x, p1, p2, p3, p4⟩ := q1 n o (look_mem hl)
    exact ⟨m, x, p1, p2, p3, p4⟩
theorem Lent.en (L : Lent st env ρ hp0) {n m : Nat} (h : (n, m) ∈ ρ) : env0 env ρ n = env m := by unfold env0; rw [L.at_ n m h]
theorem Lent.ow (L : Lent st env ρ hp0) {b : Nat} (h : Ow hp0 (env0 env ρ) b) : ∃ n m x, (n, m) ∈ ρ ∧ look st.hp m = some x ∧ b ∈ (env m).fp := by
  obtain ⟨n, o, h1, h2⟩ := h
  obtain ⟨m, x, p1, p2, _⟩ := L.back n o h1
  rw [L.en p1] at h2
  exact ⟨n, m, x, p1, p2, h2⟩
theorem snd_inj : ∀ {ρ : List (Nat × Nat)} {n n' m : Nat}, (ρ.map Prod.snd).Nodup → (n, m) ∈ ρ → (n', m) ∈ ρ → n = n'
  | (a, b) :: r, n, n', m, hnd, h1, h2 => by
    obtain ⟨q1, q2⟩ := List.nodup_cons.1 hnd
    rcases List.mem_cons.1 h1 with e1 | e1 <;> rcases List.mem_cons.1 h2 with e2 | e2
    · rw [Prod.mk.injEq] at e1 e2; rw [e1.1, e2.1]
    · rw [Prod.mk.injEq] at e1; exact absurd (List.mem_map.2 ⟨_, e2, e1.2⟩) q1
    · rw [Prod.mk.injEq] at e2; exact absurd (List.mem_map.2 ⟨_, e1, e2.2⟩) q1
    · exact snd_inj q2 e1 e2
theorem toF_ok (L : Lent st env ρ hp0) {v : V} {u : Value} (h : RA w st.hp env v u) : RA w hp0 (env0 env ρ) (v.toF ρ) u := by
  cases v with
  | lit x => exact h
  | sl t l =>
    obtain ⟨fp, h1, h2⟩ := h
    refine ⟨fp, h1, fun b hb ho => h2 b hb ?_⟩
    obtain ⟨n, m, x, _, p2, p3⟩ := L.ow ho
    exact ⟨m, x, p2, p3⟩
  | own m =>
    simp only [V.toF]
    split
    · rename_i n hn
      obtain ⟨⟨t, l, hl⟩, hu⟩ := h
      obtain ⟨x, p1, p2⟩ := L.obj n m (inv_mem hn)
      rw [hl] at p1
      simp only [Option.some.injEq] at p1
      subst p1
      exact ⟨⟨t, l, p2⟩, by rw [L.en (inv_mem hn)]; exact hu⟩
    · trivial
  | ptr m off =>
    simp only [V.toF]
    split
    · rename_i n hn
      obtain ⟨⟨c, hl⟩, hu⟩ := h
      obtain ⟨x, p1, p2⟩ := L.obj n m (inv_mem hn)
      rw [hl] at p1
      simp only [Option.some.injEq] at p1
      subst p1
      exact ⟨⟨_, p2⟩, by rw [L.en (inv_mem hn)]; exact hu⟩
    · trivial
  | fnp f m =>
    simp only [V.toF]
    split
    · rename_i n hn
      obtain ⟨⟨c, hl⟩, hu⟩ := h
      obtain ⟨x, p1, p2⟩ := L.obj n m (inv_mem hn)
      rw [hl] at p1
      simp only [Option.some.injEq] at p1
      subst p1
      exact ⟨⟨_, p2⟩, by rw [L.en (inv_mem hn)]; exact hu⟩
    · trivial
  | _ => trivial
theorem roArr {w : World} {hp hp' : Hp} {env env' : Env} {n m : Nat} {t : Tag} {l : List (T t)} {co : CO} (hs : soft m = true → soft n = true) (h : RO ty w hp env m (.arr t l) co) : RO ty w hp' env' n (.arr t l) co := by
  cases hm : soft m with
  | false => exact RO.ofBld (RO.bld hm h)
  | true => exact RO.ofSoft (hs hm) (RO.sl h) (RO.own h)
theorem lent_good (g : Good ty zb st a.tmps w env) (L : Lent st env ρ hp0) : GoodH ty w hp0 (env0 env ρ) := by
  refine ⟨fun n o hl => ?_, fun n n' o o' hne h1 h2 b hb hb' => ?_⟩
  · obtain ⟨m, x, p1, p2, rfl, _, p4⟩ := L.back n o hl
    rw [L.en p1]
    have hro := g.obj m x p2
    cases x with
    | arr t l => exact roArr p4 hro
    | box c =>
      obtain ⟨b, cs, e, h1, h2, h3⟩ := hro
      exact ⟨b, cs, e, h1, h2, h3.map fun x y hr => toF_ok L hr⟩
  · obtain ⟨m, x, p1, p2, _⟩ := L.back n o h1
    obtain ⟨m', x', p1', p2', _⟩ := L.back n' o' h2
    rw [L.en p1] at hb
    rw [L.en p1'] at hb'
    refine g.dis m m' x x' (fun e => ?_) p2 p2' b hb hb'
    subst e
    exact hne (snd_inj L.uniq p1 p1')
theorem argF_ok (g : Good ty zb st a.tmps w env) (L : Lent st env ρ hp0) {tg : Option Tag} {v v' : V} {u : Value} (h : RA w st.hp env v u) (hf : argF st ρ tg v = some v') : RA w hp0 (env0 env ρ) v' u := by
  have himm : (∀ m, v.name = some m → inv ρ m = none) → imm st tg v = some v' → RA w hp0 (env0 env ρ) v' u := by
    intro hno hi
    have away : ∀ {m : Nat} {x : Obj}, v.name = some m → look st.hp m = some x → ∀ b, b ∈ (env m).fp → ¬ Ow hp0 (env0 env ρ) b := by
      intro m x hm hl b hb ho
      obtain ⟨n, m', x', p1, p2, p3⟩ := L.ow ho
      have hne : m ≠ m' := by
        rintro rfl
        exact inv_none (hno m hm) (List.mem_map.2 ⟨_, p1, rfl⟩)
      exact g.dis m m' x x' hne hl p2 b hb p3
    cases v with
    | sl t l =>
      simp only [imm, Option.some.injEq] at hi
      subst hi
      exact toF_ok L h
    | own m =>
      simp only [imm] at hi
      split at hi
      · rename_i t l hl
        simp only [Option.some.injEq] at hi
        subst hi
        obtain ⟨_, hu⟩ := h
        refine ⟨(env m).fp, ?_, away rfl hl⟩
        rw [hu]; exact RO.sl (g.obj m _ hl)
      · cases hi
    | vw m p t l =>
      simp only [imm, Option.some.injEq] at hi
      subst hi
      obtain ⟨⟨tA, lA, hl⟩, ⟨fp, hs, _, hsub⟩, _⟩ := h
      exact ⟨fp, hs, fun b hb => away rfl hl b (hsub b hb)⟩
    | lit x =>
      unfold imm at hi
      split at hi
      · rename_i he; cases he
      · rename_i he; cases he
      · rename_i he; cases he
      · rename_i he
        simp only [V.lit.injEq] at he
        subst he
        obtain ⟨hu, _⟩ := h
        split at hi
        · simp only [Option.some.injEq] at hi
          subst hi
          refine ⟨[], ?_, by simp⟩
          rw [hu]
          exact ⟨none, 0, rfl, Nat.le_refl _, Nat.zero_le _, Or.inl ⟨rfl, rfl, fun _ => rfl⟩⟩
        · cases hi
      · cases hi
      · rename_i he
        simp only [V.lit.injEq] at he
        subst he
        simp only [Option.some.injEq] at hi
        subst hi
        exact h
      · cases hi
    | _ => simp [imm] at hi
  unfold argF at hf
  split at hf
  · rename_i m hm
    split at hf
    · rename_i n hn
      have hF := toF_ok L h
      split at hf
      · rename_i m'
        simp only [V.name, Option.some.injEq] at hm
        subst hm
        simp only [Option.some.injEq] at hf
        subst hf
        simpa only [V.toF, hn] using hF
      · rename_i m' off
        simp only [V.name, Option.some.injEq] at hm
        subst hm
        simp only [Option.some.injEq] at hf
        subst hf
        simpa only [V.toF, hn] using hF
      · rename_i f m'
        simp only [V.name, Option.some.injEq] at hm
        subst hm
        simp only [Option.some.injEq] at hf
        subst hf
        simpa only [V.toF, hn] using hF
      · cases hf
    · rename_i hn
      exact himm (fun k hk => by rw [hm] at hk; simp only [Option.some.injEq] at hk; subst hk; exact hn) hf
  · rename_i hm
    exact himm (fun k hk => by rw [hm] at hk; cases hk) hf
theorem argFs_ok (g : Good ty zb st a.tmps w env) (L : Lent st env ρ hp0) : ∀ {vs vs' : List V} {tg : List (Option Tag)} {us : List Value}, All2 (RA w st.hp env) vs us → argFs st ρ tg vs = some vs' → All2 (RA w hp0 (env0 env ρ)) vs' us
  | [], vs', tg, us, h, hf => by
    simp only [argFs, Option.some.injEq] at hf
    subst hf
    cases us with
    | nil => trivial
    | cons _ _ => exact h.elim
  | v :: r, vs', tg, us, h, hf => by
    cases us with
    | nil => exact h.elim
    | cons u us =>
      simp only [argFs] at hf
      split at hf
      · rename_i x y h1 h2
        simp only [Option.some.injEq] at hf
        subst hf
        exact ⟨argF_ok g L h.1 h1, argFs_ok g L h.2 h2⟩
      · cases hf
theorem argsH_ok (g : Good ty zb st a.tmps w env) (L : Lent st env ρ hp0) {Γ : Nat → TK} : ∀ {xs : List Operand} {ts : List Nat} {as : List S1}, argsH Γ st ρ xs ts = some as → All2 (RS1 w hp0 (env0 env ρ)) as (xs.map a.eval)
  | [], _, as, h => by
    simp only [argsH, Option.some.injEq] at h
    subst h; trivial
  | x :: r, ts, as, h => by
    simp only [argsH] at h
    split at h
    · rename_i v hv
      split at h
      · rename_i y ys h1 h2
        simp only [Option.some.injEq] at h
        subst h
        have hr := opv_ok g (fun e he => by simp at he) hv
        refine ⟨?_, argsH_ok g L h2⟩
        cases v with
        | a v =>
          simp only [argS] at h1
          split at h1
          · rename_i z hz
            simp only [Option.some.injEq] at h1
            subst h1
            exact argF_ok g L hr hz
          · cases h1
        | agg l =>
          simp only [argS] at h1
          split at h1
          · rename_i z hz
            simp only [Option.some.injEq] at h1
            subst h1
            obtain ⟨cs, hu, hl⟩ := hr
            exact ⟨cs, hu, argFs_ok g L hl hz⟩
          · cases h1
      · cases h
    · cases h
theorem All2.append {α β : Type} {R : α → β → Prop} : ∀ {as as' : List α} {bs bs' : List β}, All2 R as bs → All2 R as' bs' → All2 R (as ++ as') (bs ++ bs') := All2.app
theorem calleeH_ok (g : Good ty zb st a.tmps w env) (L : Lent st env ρ hp0) {x : Operand} {xs : Array Operand} {ts : Array TypeId} (ho : o.op = .call ⟨.value x, xs, ts⟩) {f : FuncId} {ex : List S1} (h : calleeH st ρ x = some (f, ex)) (hS : ∀ (args : Array Value) (w : World), (callFunc f args).run P w = .ok (.enter f args) w) :
    ∃ us, (execOp a.eval o).run P w = .ok (.enter f (xs.toList.map a.eval ++ us).toArray) w ∧ All2 (RS1 w hp0 (env0 env ρ)) ex us := by
  have hx : xs.map a.eval = (xs.toList.map a.eval).toArray := by rw [← List.map_toArray]
  unfold calleeH at h
  split at h
  · rename_i f' m hv
    split at h
    · rename_i n hn
      simp only [Option.some.injEq, Prod.mk.injEq] at h
      obtain ⟨rfl, rfl⟩ := h
      have hr := opv_ok g (fun e he => by simp at he) hv
      have hA : RA w st.hp env (.fnp f' m) (a.eval x) := hr
      obtain ⟨⟨c, hl⟩, b, hb, hu⟩ := hA
      refine ⟨[.pointer (some ⟨b, 0, none⟩)], ?_, ?_, trivial⟩
      · unfold execOp
        simp [ho, resolve, invoke, Deferred.ofValue, hu, hS]
        rw [hx]; simp
      · obtain ⟨y, p1, p2⟩ := L.obj n m (inv_mem hn)
        rw [hl] at p1
        simp only [Option.some.injEq] at p1
        subst p1
        exact ⟨⟨_, p2⟩, b, by rw [L.en (inv_mem hn)]; exact hb, rfl⟩
    · cases h
  · rename_i v _ hv
    split at h
    · rename_i f' hf
      simp only [Option.some.injEq, Prod.mk.injEq] at h
      obtain ⟨rfl, rfl⟩ := h
      have h0 := fnOf_ok (opv_ok g (fun e he => by simp at he) hv) hf
      refine ⟨[], ?_, trivial⟩
      unfold execOp
      simp [ho, resolve, invoke, Deferred.ofValue, h0, hS]
      exact hx
    · cases h
  · cases h
/-! ### Back again -/
theorem toA_ok {w : World} {hp1 hpA : Hp} {env1 env' : Env} {ρ : List (Nat × Nat)} (hn : ∀ n m, look ρ n = some m → ∀ o, look hp1 n = some o → (∃ o', look hpA m = some o' ∧ o.toA ρ = some o') ∧ env' m = env1 n) {v v' : V} {u : Value} (h : RA w hp1 env1 v u) (hv : v.toA ρ = some v') : RA w hpA env' v' u := by
  cases v with
  | any => simp only [V.toA, Option.some.injEq] at hv; subst hv; trivial
  | lit x => simp only [V.toA, Option.some.injEq] at hv; subst hv; exact h
  | own n =>
    simp only [V.toA] at hv
    split at hv
    · rename_i m hm
      simp only [Option.some.injEq] at hv
      subst hv
      obtain ⟨⟨t, l, hl⟩, hu⟩ := h
      obtain ⟨⟨o', q1, q2⟩, q3⟩ := hn n m hm _ hl
      simp only [Obj.toA, Option.some.injEq] at q2
      subst q2
      exact ⟨⟨t, l, q1⟩, by rw [q3]; exact hu⟩
    · cases hv
  | ptr n off =>
    simp only [V.toA] at hv
    split at hv
    · rename_i m hm
      simp only [Option.some.injEq] at hv
      subst hv
      obtain ⟨⟨c, hl⟩, hu⟩ := h
      obtain ⟨⟨o', q1, q2⟩, q3⟩ := hn n m hm _ hl
      simp only [Obj.toA] at q2
      split at q2
      · simp only [Option.some.injEq] at q2
        subst q2
        exact ⟨⟨_, q1⟩, by rw [q3]; exact hu⟩
      · cases q2
    · cases hv
  | _ => simp [V.toA] at hv
theorem toAs_ok {w : World} {hp1 hpA : Hp} {env1 env' : Env} {ρ : List (Nat × Nat)} (hn : ∀ n m, look ρ n = some m → ∀ o, look hp1 n = some o → (∃ o', look hpA m = some o' ∧ o.toA ρ = some o') ∧ env' m = env1 n) : ∀ {vs vs' : List V} {us : List Value}, All2 (RA w hp1 env1) vs us → toAs ρ vs = some vs' → All2 (RA w hpA env') vs' us
  | [], vs', us, h, hv => by
    simp only [toAs, Option.some.injEq] at hv
    subst hv
    cases us with
    | nil => trivial
    | cons _ _ => exact h.elim
  | v :: r, vs', us, h, hv => by
    cases us with
    | nil => exact h.elim
    | cons u us =>
      simp only [toAs] at hv
      split at hv
      · rename_i x y h1 h2
        simp only [Option.some.injEq] at hv
        subst hv
        exact ⟨toA_ok hn h.1 h1, toAs_ok hn h.2 h2⟩
      · cases hv
theorem s1A_ok {w : World} {hp1 hpA : Hp} {env1 env' : Env} {ρ : List (Nat × Nat)} (hn : ∀ n m, look ρ n = some m → ∀ o, look hp1 n = some o → (∃ o', look hpA m = some o' ∧ o.toA ρ = some o') ∧ env' m = env1 n) {v v' : S1} {u : Value} (h : RS1 w hp1 env1 v u) (hv : v.toA ρ = some v') : RS1 w hpA env' v' u := by
  cases v with
  | a v =>
    simp only [S1.toA] at hv
    split at hv
    · rename_i x hx
      simp only [Option.some.injEq] at hv
      subst hv
      exact toA_ok hn h hx
    · cases hv
  | agg l =>
    simp only [S1.toA] at hv
    split at hv
    · rename_i x hx
      simp only [Option.some.injEq] at hv
      subst hv
      obtain ⟨cs, hu, hl⟩ := h
      exact ⟨cs, hu, toAs_ok hn hl hx⟩
    · cases hv
theorem rsH_ok {w : World} {hp1 hpA : Hp} {env1 env' : Env} {ρ : List (Nat × Nat)} (hn : ∀ n m, look ρ n = some m → ∀ o, look hp1 n = some o → (∃ o', look hpA m = some o' ∧ o.toA ρ = some o') ∧ env' m = env1 n) : ∀ {vs vs' : List S1} {us : List Value}, All2 (RS1 w hp1 env1) vs us → rsH ρ vs = some vs' → All2 (RS1 w hpA env') vs' us
  | [], vs', us, h, hv => by
    simp only [rsH, Option.some.injEq] at hv
    subst hv
    cases us with
    | nil => trivial
    | cons _ _ => exact h.elim
  | v :: r, vs', us, h, hv => by
    cases us with
    | nil => exact h.elim
    | cons u us =>
      simp only [rsH] at hv
      split at hv
      · rename_i x y h1 h2
        simp only [Option.some.injEq] at hv
        subst hv
        exact ⟨s1A_ok hn h.1 h1, rsH_ok hn h.2 h2⟩
      · cases hv
theorem rsH_len {ρ : List (Nat × Nat)} : ∀ {vs vs' : List S1}, rsH ρ vs = some vs' → vs'.length = vs.length
  | [], vs', h => by simp only [rsH, Option.some.injEq] at h; subst h; rfl
  | v :: r, vs', h => by
    simp only [rsH] at h
    split at h
    · rename_i x y h1 h2
      simp only [Option.some.injEq] at h
      subst h
      rw [List.length_cons, List.length_cons, rsH_len h2]
    · cases h
theorem ecal_ok {Γ : Nat → TK} {cr : List (Nat × CR)} {d : Option Nat} {vc : List Prop} {v : SV} (h : ecal P ty Γ cr st d o.op = some (vc, st', v)) (g : Good ty zb st a.tmps w env) (hB : zb.w.heap.size ≤ w.heap.size) (hA : AmbZ zb) (hN : Amb w) (hv : ∀ q, q ∈ vc → q) :
    (∀ k, v.mentions k = false) ∧ o.wp P a w (fun a' w' => ∃ u env', a' = a.put o.dst u ∧ Kept zb w w' ∧ Good ty zb st' a.tmps w' env' ∧ st'.n = st.n ∧ RSV w' st'.hp env' a.tmps v u) Q := by
  generalize hoo : o.op = op at h
  cases op with
  | call c =>
    obtain ⟨callee, xs, ts⟩ := c
    cases callee with
    | value x =>
      simp only [ecal] at h
      split at h
      case h_2 => cases h
      rename_i _ ca cb cc os _ rs _ _
      split at h
      case h_2 => cases h
      rename_i ρ0 ρ1 ns _ _ _
      split at h
      case h_2 => cases h
      rename_i hp1 hp0 f ex as _ hlend hcal hargs
      split at h
      case h_2 => cases h
      rename_i B rsA hback hrs
      split at h
      case h_2 => cases h
      rename_i hchk
      simp only [Bool.and_eq_true] at hchk
      obtain ⟨⟨⟨⟨⟨⟨c1, c2⟩, c3⟩, c4⟩, c5⟩, c6⟩, c7⟩ := hchk
      simp only [Option.some.injEq, Prod.mk.injEq, app1_eq] at h
      obtain ⟨rfl, rfl, rfl⟩ := h
      have hS : SoundH ty P f hp0 (as ++ ex) hp1 rs := hv _ (List.mem_singleton.2 rfl)
      have hnd01 := nodupn_ok c1
      rw [List.map_append] at hnd01
      have hnd0 := (List.nodup_append.1 hnd01).1
      have L : Lent st env ρ0 hp0 := Lent.of hlend hnd0 (nodupn_ok c2)
      refine ⟨fun k => by split <;> rfl, ?_⟩
      -- what was lent
      have hLow : ∀ b, b ∈ lentB hp0 (env0 env ρ0) → ∃ m x, m ∈ ρ0.map Prod.snd ∧ look st.hp m = some x ∧ b ∈ (env m).fp := by
        intro b hb
        obtain ⟨e, he, hbe⟩ := List.mem_flatMap.1 hb
        have hndh : (hp0.map Prod.fst).Nodup := by rw [lendH_fst hlend]; exact hnd0
        obtain ⟨m, x, p1, p2, _⟩ := L.back e.1 e.2 (look_of_mem hndh he)
        rw [L.en p1] at hbe
        exact ⟨m, x, List.mem_map.2 ⟨_, p1, rfl⟩, p2, hbe⟩
      have hLz : ∀ b, b ∈ lentB hp0 (env0 env ρ0) → b ∈ zb.L ∨ zb.w.heap.size ≤ b := by
        intro b hb
        obtain ⟨m, x, _, p2, p3⟩ := hLow b hb
        exact g.dom m x p2 b p3
      obtain ⟨us, hrun, hex⟩ := calleeH_ok (P := P) g L hoo hcal hS.1
      unfold Oper.wp
      rw [hrun]
      simp only [Oper.upon]
      refine (hS.2 w (env0 env ρ0) _ hN (fun b h0 hb => hA.free (hLz b hb) h0) (lent_good g L) (All2.app (argsH_ok g L hargs) hex)).mono ?_
      rintro e w' ⟨env1, u, rfl, hK, ⟨hG1, hG2⟩, hfp, hpin, hres⟩
      -- names behind
      have hlk01 : ∀ n m, (n, m) ∈ ρ0 → look (ρ0 ++ ρ1) n = some m := fun n m hm => look_of_mem (by rw [List.map_append]; exact hnd01) (List.mem_append_left _ hm)
      have hnd1 := nodupk_ok c3
      have hndB := nodupk_ok c4
      have hsnd : ∀ {n m n' : Nat} {o1 o2 : Obj}, (n, m, o1) ∈ B → (n', m, o2) ∈ B → n = n' := by
        intro n m n' o1 o2 h1 h2
        have : ∀ {B : List (Nat × Nat × Obj)}, ((bhp B).map Prod.fst).Nodup → (n, m, o1) ∈ B → (n', m, o2) ∈ B → n = n' := by
          intro B
          induction B with
          | nil => intro _ h; cases h
          | cons x r ih =>
            intro hnd h1 h2
            obtain ⟨q1, q2⟩ := List.nodup_cons.1 (show ((x.2.1) :: (bhp r).map Prod.fst).Nodup from hnd)
            have hin : ∀ {k : Nat} {o : Obj}, (k, m, o) ∈ r → m ∈ (bhp r).map Prod.fst := fun h => List.mem_map.2 ⟨(m, _), List.mem_map.2 ⟨_, h, rfl⟩, rfl⟩
            rcases List.mem_cons.1 h1 with e1 | e1 <;> rcases List.mem_cons.1 h2 with e2 | e2
            · rw [← e1] at e2; simp only [Prod.mk.injEq] at e2; exact e2.1.symm
            · rw [← e1] at q1; exact absurd (hin e2) q1
            · rw [← e2] at q1; exact absurd (hin e1) q1
            · exact ih q2 e1 e2
        exact this hndB h1 h2
      have hBin : ∀ {n m : Nat} {o' : Obj}, (n, m, o') ∈ B → look (bhp B) m = some o' ∧ invB B m = some n := by
        intro n m o' hm
        have h1 : look (bhp B) m = some o' := look_of_mem hndB (List.mem_map.2 ⟨_, hm, rfl⟩)
        obtain ⟨n', h2, h3⟩ := invB_look h1
        rw [hsnd hm h2]
        exact ⟨h1, h3⟩
      let env' : Env := fun m => match invB B m with | some n => env1 n | none => env m
      have henvB : ∀ {n m : Nat} {o' : Obj}, (n, m, o') ∈ B → env' m = env1 n := by
        intro n m o' hm
        show (match invB B m with | some n => env1 n | none => env m) = env1 n
        rw [(hBin hm).2]
      have henvN : ∀ {m : Nat}, look (bhp B) m = none → env' m = env m := by
        intro m hm
        show (match invB B m with | some n => env1 n | none => env m) = env m
        rw [invB_none hm]
      have hn : ∀ n m, look (ρ0 ++ ρ1) n = some m → ∀ o, look hp1 n = some o → (∃ o', look (bhp B) m = some o' ∧ o.toA (ρ0 ++ ρ1) = some o') ∧ env' m = env1 n := by
        intro n m hm o hl
        obtain ⟨m', o', q1, q2, q3⟩ := backH_all hback n o (look_mem hl)
        rw [hm] at q2
        simp only [Option.some.injEq] at q2
        subst q2
        exact ⟨⟨o', (hBin q1).1, q3⟩, henvB q1⟩
      have hfr := freshH_ok c5
      have hlk : ∀ m o, look (bhp B ++ restH (ρ0.map Prod.snd) ((ρ0.filter fun e => !pin e.1).map Prod.snd) st.hp) m = some o → (∃ n o1, look (bhp B) m = some o ∧ look hp1 n = some o1 ∧ o1.toA (ρ0 ++ ρ1) = some o ∧ env' m = env1 n ∧ (pin m = true → pin n = true) ∧ (soft n = true → soft m = true)) ∨ (look (bhp B) m = none ∧ m ∉ ρ0.map Prod.snd ∧ ∃ x, look st.hp m = some x ∧ o = x.kills ((ρ0.filter fun e => !pin e.1).map Prod.snd) (ρ0.map Prod.snd) ∧ env' m = env m) := by
        intro m o hm
        cases hq : look (bhp B) m with
        | some o2 =>
          rw [look_app_some hq] at hm
          simp only [Option.some.injEq] at hm
          subst hm
          obtain ⟨n, h1, _⟩ := invB_look hq
          obtain ⟨o1, p1, p2, p3, p4, p5⟩ := backH_mem hback n m _ h1
          exact Or.inl ⟨n, o1, rfl, look_of_mem hnd1 p1, p3, henvB h1, p4, p5⟩
        | none =>
          rw [look_app_none hq, restH_look] at hm
          split at hm
          · cases hm
          · rename_i hnk
            cases hx : look st.hp m with
            | none => rw [hx] at hm; cases hm
            | some x =>
              rw [hx] at hm
              simp only [Option.map_some, Option.some.injEq] at hm
              exact Or.inr ⟨rfl, hnk, x, rfl, hm.symm, henvN hq⟩
      have hold : ∀ m x, m ∉ ρ0.map Prod.snd → look st.hp m = some x → look (bhp B) m = none := by
        intro m x hnk hx
        cases hq : look (bhp B) m with
        | none => rfl
        | some o2 =>
          have := hfr m o2 hq
          rw [restH_look, if_neg hnk, hx] at this
          cases this
      have hst : ∀ m x, m ∉ ρ0.map Prod.snd → look st.hp m = some x → ∀ b, b ∈ (env m).fp → w'.heap[b]? = w.heap[b]? := by
        intro m x hnk hx b hb
        refine hK.block b ((g.obj m x hx).blk b hb) fun hL => ?_
        obtain ⟨m', x', p1, p2, p3⟩ := hLow b hL
        exact g.dis m m' x x' (fun e => hnk (e ▸ p1)) hx p2 b hb p3
      have hnew : ∀ {m n : Nat} {o1 : Obj}, look hp1 n = some o1 → ∀ b, b ∈ (env1 n).fp → b < w.heap.size → ∃ m' x', m' ∈ ρ0.map Prod.snd ∧ look st.hp m' = some x' ∧ b ∈ (env m').fp := by
        intro m n o1 hl b hb hlt
        rcases hfp n o1 hl b hb with h | h
        · exact hLow b h
        · omega
      have s : Turn ((ρ0.filter fun e => !pin e.1).map Prod.snd) (ρ0.map Prod.snd) w st.hp env w' (bhp B ++ restH (ρ0.map Prod.snd) ((ρ0.filter fun e => !pin e.1).map Prod.snd) st.hp) env' := by
        refine ⟨fun b hb hno => hK.block b hb fun hL => ?_, ?_, ?_, ?_⟩
        · obtain ⟨m, x, _, p2, p3⟩ := hLow b hL
          exact hno ⟨m, x, p2, p3⟩
        · rintro b hb ⟨m, o', h1, h2⟩
          rcases hlk m o' h1 with ⟨n, o1, _, q2, _, q4, _⟩ | ⟨_, _, x, q3, _, q5⟩
          · rw [q4] at h2
            obtain ⟨m', x', _, p2, p3⟩ := hnew (m := m) q2 b h2 hb
            exact ⟨m', x', p2, p3⟩
          · rw [q5] at h2
            exact ⟨m, x, q3, h2⟩
        · intro m o' hks h1
          by_cases hkv : m ∈ ρ0.map Prod.snd
          · obtain ⟨e, he, rfl⟩ := List.mem_map.1 hkv
            have hpe : pin e.1 = true := by
              cases hp : pin e.1 with
              | true => rfl
              | false => exact absurd (List.mem_map.2 ⟨e, List.mem_filter.2 ⟨he, by simp [hp]⟩, rfl⟩) hks
            have hbx := List.all_eq_true.1 c6 e he
            rw [hpe] at hbx
            simp only [Bool.not_true, Bool.false_or, Bool.and_eq_true] at hbx
            obtain ⟨x, p1, p2⟩ := L.obj e.1 e.2 he
            rw [h1] at p1
            simp only [Option.some.injEq] at p1
            subst p1
            rw [p2] at hbx
            cases hq1 : look hp1 e.1 with
            | none => rw [hq1] at hbx; simp [isbox] at hbx
            | some o1 =>
              rw [hq1] at hbx
              obtain ⟨⟨o2, q1, q2⟩, q3⟩ := hn e.1 e.2 (hlk01 e.1 e.2 he) o1 hq1
              refine ⟨o2, look_app_some q1, ?_, by rw [q3, (hpin e.1 hpe).1, L.en he]⟩
              cases o' with
              | arr t l => simp [Obj.toF, isbox] at hbx
              | box c =>
                cases o1 with
                | arr t l => simp [isbox] at hbx
                | box c1 =>
                  simp only [Obj.toA] at q2
                  split at q2
                  · simp only [Option.some.injEq] at q2; subst q2; trivial
                  · cases q2
          · have hno := hold m o' hkv h1
            refine ⟨o'.kills _ _, by rw [look_app_none hno, restH_look, if_neg hkv, h1]; rfl, by cases o' <;> simp [Obj.like, Obj.kills], by rw [henvN hno]⟩
        · rintro m t' l' ⟨_, hkv⟩ h1
          have hno := hold m _ hkv h1
          refine ⟨by rw [look_app_none hno, restH_look, if_neg hkv, h1]; rfl, henvN hno, hst m _ hkv h1⟩
      have hgood := g.turn s (fun m o' hm => ?_) (fun m m' o1 o2 hne h1 h2 b hb hb' => ?_) (fun m o' hm b hb => ?_) (fun m hm => ?_)
      · refine ⟨u, env', rfl, Kept.lent hK hB hLz, hgood, by first | trivial | rfl, ?_⟩
        have h1 : ∀ {hp : Hp}, (∀ m o, look (bhp B) m = some o → look hp m = some o) → (∀ n m, look (ρ0 ++ ρ1) n = some m → ∀ o, look hp1 n = some o → (∃ o', look hp m = some o' ∧ o.toA (ρ0 ++ ρ1) = some o') ∧ env' m = env1 n) := by
          intro hp hh n m hm o hl
          obtain ⟨⟨o', p1, p2⟩, p3⟩ := hn n m hm o hl
          exact ⟨⟨o', hh m o' p1, p2⟩, p3⟩
        have h2 := h1 (hp := bhp B ++ restH (ρ0.map Prod.snd) ((ρ0.filter fun e => !pin e.1).map Prod.snd) st.hp) (fun m o hm => look_app_some hm)
        have hlen := rsH_len hrs
        match rs, rsA, hrs, hres, hlen with
        | [r], [ra], hrs, hres, _ =>
          simp only [rsH] at hrs
          split at hrs
          · rename_i x y e1 e2
            simp only [Option.some.injEq, List.cons.injEq] at e2 hrs
            obtain ⟨rfl, _⟩ := hrs
            exact s1A_ok h2 hres e1
          · cases hrs
        | [], [], hrs, ⟨us', hu, hall⟩, _ => exact ⟨us', hu, rsH_ok h2 hall hrs⟩
        | r1 :: r2 :: r, x1 :: x2 :: xr, hrs, ⟨us', hu, hall⟩, _ => exact ⟨us', hu, rsH_ok h2 hall hrs⟩
        | [], _ :: _, _, _, hl => cases hl
        | [_], [], _, _, hl => cases hl
        | [_], _ :: _ :: _, _, _, hl => simp at hl
        | _ :: _ :: _, [], _, _, hl => simp at hl
        | _ :: _ :: _, [_], _, _, hl => simp at hl
      · rcases hlk m o' hm with ⟨n, o1, q1, q2, q3, q4, _, q6⟩ | ⟨q1, q2, x, q3, rfl, q5⟩
        · rw [q4]
          have hro := hG1 n o1 q2
          cases o1 with
          | arr t l =>
            simp only [Obj.toA, Option.some.injEq] at q3
            subst q3
            exact roArr q6 hro
          | box c =>
            simp only [Obj.toA] at q3
            split at q3
            · rename_i c' hc'
              simp only [Option.some.injEq] at q3
              subst q3
              obtain ⟨b, cs, e, h1, h2, h3⟩ := hro
              refine ⟨b, cs, e, h1, h2, toAs_ok (hp1 := hp1) (env1 := env1) ?_ h3 hc'⟩
              intro n m hm o hl
              obtain ⟨⟨o', p1, p2⟩, p3⟩ := hn n m hm o hl
              exact ⟨⟨o', look_app_some p1, p2⟩, p3⟩
            · cases q3
        · rw [q5]
          exact (g.obj m x q3).turn s (hst m x q2 q3)
      · rcases hlk m o1 h1 with ⟨n, p1, q1, q2, q3, q4, _⟩ | ⟨q1, q2, x, q3, _, q5⟩ <;> rcases hlk m' o2 h2 with ⟨n', p1', q1', q2', q3', q4', _⟩ | ⟨q1', q2', x', q3', _, q5'⟩
        · rw [q4] at hb
          rw [q4'] at hb'
          obtain ⟨k1, k2, k3⟩ := invB_look q1
          obtain ⟨k1', k2', k3'⟩ := invB_look q1'
          have e1 := henvB k2
          have e2 := henvB k2'
          have hne2 : k1 ≠ k1' := by
            rintro rfl
            obtain ⟨_, _, z1, _⟩ := backH_mem hback _ _ _ k2
            obtain ⟨_, _, z2, _⟩ := backH_mem hback _ _ _ k2'
            rw [z1] at z2
            simp only [Option.some.injEq] at z2
            exact hne z2
          rw [q4] at e1
          rw [q4'] at e2
          rw [e1] at hb
          rw [e2] at hb'
          obtain ⟨y1, z1, _⟩ := backH_mem hback _ _ _ k2
          obtain ⟨y2, z2, _⟩ := backH_mem hback _ _ _ k2'
          exact hG2 k1 k1' y1 y2 hne2 (look_of_mem hnd1 z1) (look_of_mem hnd1 z2) b hb hb'
        · rw [q4] at hb
          rw [q5'] at hb'
          have hlt := (g.obj m' x' q3').blk b hb'
          obtain ⟨k, y, p1, p2, p3⟩ := hnew (m := m) q2 b hb hlt
          exact g.dis m' k x' y (fun e => q2' (e ▸ p1)) q3' p2 b hb' p3
        · rw [q5] at hb
          rw [q4'] at hb'
          have hlt := (g.obj m x q3).blk b hb
          obtain ⟨k, y, p1, p2, p3⟩ := hnew (m := m') q2' b hb' hlt
          exact g.dis m k x y (fun e => q2 (e ▸ p1)) q3 p2 b hb p3
        · rw [q5] at hb
          rw [q5'] at hb'
          exact g.dis m m' x x' hne q3 q3' b hb hb'
      · rcases hlk m o' hm with ⟨n, p1, q1, q2, q3, q4, _⟩ | ⟨q1, q2, x, q3, _, q5⟩
        · rw [q4] at hb
          rcases hfp n p1 q2 b hb with h | h
          · exact hLz b h
          · exact Or.inr (by omega)
        · rw [q5] at hb
          exact g.dom m x q3 b hb
      · cases hq : look (bhp B) m with
        | none => rw [henvN hq]; exact g.pins m hm
        | some o2 =>
          obtain ⟨n, h1, _⟩ := invB_look hq
          obtain ⟨_, _, p2, _, p4, _⟩ := backH_mem hback n m _ h1
          have hpn := p4 hm
          have hin : (n, m) ∈ ρ0 := by
            rcases List.mem_append.1 (look_mem p2) with h | h
            · exact h
            · have := List.all_eq_true.1 c7 _ h
              simp only [hm] at this; cases this
          rw [henvB h1]
          obtain ⟨k1, k2⟩ := hpin n hpn
          rw [L.en hin] at k1 k2
          obtain ⟨j1, j2⟩ := g.pins m hm
          exact ⟨k1.trans j1, fun b hb => j2 b (k2 b hb)⟩
    | _ => simp [ecal] at h
  | _ => simp [ecal] at h
end
end Go.Proofs.YthjedjndamejmaaGreat.G
namespace Go.Proofs.YthjedjndamejmaaGreat.G
set_option linter.all false
open Go.RowKit L D
variable {ty : Tag → Nat}
/-- Written out. -/
def fV : V → Option V
  | .any => some .any
  | .lit (.int k n) => some (.lit (.int k n))
  | .lit (.bool b) => some (.lit (.bool b))
  | .lit (.string s) => some (.lit (.string s))
  | .lit v => some (.lit v)
  | .sl t l => some (.sl t l)
  | .own n => some (.own n)
  | .ptr n o => some (.ptr n o)
  | .eptr n i o => some (.eptr n i o)
  | .ip t x o => some (.ip t x o)
  | .vw n p t l => some (.vw n p t l)
  | .vip n p t x o => some (.vip n p t x o)
  | .bsl n t l => some (.bsl n t l)
  | .fnp f n => some (.fnp f n)
  | .husk k => some (.husk k)
theorem fV_eq (v : V) : fV v = some v := by
  unfold fV; split <;> rfl
def fVs : List V → Option (List V)
  | [] => some []
  | v :: r => match fV v, fVs r with
    | some x, some y => some (x :: y)
    | _, _ => none
theorem fVs_eq : ∀ l : List V, fVs l = some l
  | [] => rfl
  | v :: r => by simp [fVs, fV_eq, fVs_eq r]
def fS : SV → Option SV
  | .one (.a v) => match fV v with | some v => some (.one (.a v)) | none => none
  | .one (.agg l) => match fVs l with | some l => some (.one (.agg l)) | none => none
  | .tup l => some (.tup l)
  | .cond p (.a v) => match fV v with | some v => some (.cond p (.a v)) | none => none
  | .cond p (.agg l) => match fVs l with | some l => some (.cond p (.agg l)) | none => none
theorem fS_eq {x y : SV} (h : fS x = some y) : y = x := by
  unfold fS at h
  split at h <;> simp_all [fV_eq, fVs_eq]
def fO : Obj → Option Obj
  | .box c => match fVs c with | some c => some (.box c) | none => none
  | .arr t l => some (.arr t l)
theorem fO_eq {x y : Obj} (h : fO x = some y) : y = x := by
  unfold fO at h
  split at h <;> simp_all [fVs_eq]
def fSl : List (Nat × SV) → Option (List (Nat × SV))
  | [] => some []
  | (n, x) :: r => match fS x, fSl r with
    | some x, some r => some ((n, x) :: r)
    | _, _ => none
theorem fSl_eq : ∀ {l m : List (Nat × SV)}, fSl l = some m → m = l
  | [], m, h => by simp only [fSl, Option.some.injEq] at h; exact h.symm
  | (n, x) :: r, m, h => by
    simp only [fSl] at h
    split at h
    · rename_i y r' h1 h2
      simp only [Option.some.injEq] at h
      rw [← h, fS_eq h1, fSl_eq h2]
    · cases h
def fHp : Hp → Option Hp
  | [] => some []
  | (n, x) :: r => match fO x, fHp r with
    | some x, some r => some ((n, x) :: r)
    | _, _ => none
theorem fHp_eq : ∀ {l m : Hp}, fHp l = some m → m = l
  | [], m, h => by simp only [fHp, Option.some.injEq] at h; exact h.symm
  | (n, x) :: r, m, h => by
    simp only [fHp] at h
    split at h
    · rename_i y r' h1 h2
      simp only [Option.some.injEq] at h
      rw [← h, fO_eq h1, fHp_eq h2]
    · cases h
/-- A state written out. -/
def fSt : St → Option St
  | ⟨n, sl, hp⟩ => match fSl sl, fHp hp with
    | some sl, some hp => some ⟨n, sl, hp⟩
    | _, _ => none
theorem fSt_eq {s s' : St} (h : fSt s = some s') : s' = s := by
  obtain ⟨n, sl, hp⟩ := s
  simp only [fSt] at h
  split at h
  · rename_i a b h1 h2
    simp only [Option.some.injEq] at h
    rw [← h, fSl_eq h1, fHp_eq h2]
  · cases h
def noAgg : TypeDesc → Bool
  | .struct _ => false
  | .array _ _ => false
  | _ => true
/-- A struct's field is one cell. -/
def FldCell (P : Program) (t f k : Nat) : Prop := ∃ fs fd d, P.underlying t = some (.struct fs) ∧ fs[f]? = some fd ∧ fd.offset = k ∧ P.underlying fd.type = some d ∧ noAgg d = true
def efld (P : Program) (Γ : Nat → TK) (st : St) : Op → Option (List Prop × St × SV)
  | .field t x f => match opv st [] x, Γ t with
    | some (.agg c), .st _ _ fo => match offs fo f with
      | some k => match elt c k with
        | some v => some ([FldCell P t f k], st, .one (.a v))
        | none => none
      | none => none
    | _, _ => none
  | _ => none
theorem run_notAgg {P : Program} {t : TypeId} {d : TypeDesc} (h : P.underlying t = some d) (hd : noAgg d = true) (w : World) : (isAgg t).run P w = .ok false w := by
  cases d <;> first | (cases hd; done) | simp [isAgg, run_underlying h]
section
variable {P : Program} {zb : Base} {st st' : St} {a : Act} {w : World} {env : Env} {Q : Exit → Act → World → Prop} {o : Oper}
theorem efld_ok {Γ : Nat → TK} {vc : List Prop} {v : SV} (h : efld P Γ st o.op = some (vc, st', v)) (g : Good ty zb st a.tmps w env) (hv : ∀ q, q ∈ vc → q) :
    o.wp P a w (fun a' w' => ∃ u env', a' = a.put o.dst u ∧ Kept zb w w' ∧ Good ty zb st' a.tmps w' env' ∧ st'.n = st.n ∧ RSV w' st'.hp env' a.tmps v u) Q := by
  generalize hoo : o.op = op at h
  cases op with
  | field t x f =>
    simp only [efld] at h
    split at h
    case h_2 => cases h
    rename_i c z tg fo hx hk
    split at h
    case h_2 => cases h
    rename_i k hf
    split at h
    case h_2 => cases h
    rename_i v' hel
    simp only [Option.some.injEq, Prod.mk.injEq] at h
    obtain ⟨rfl, rfl, rfl⟩ := h
    obtain ⟨fs, fd, d, h1, h2, h3, h4, h5⟩ := hv _ (List.mem_singleton.2 rfl)
    obtain ⟨us, hu, hA⟩ := opv_ok g (fun e he => by simp at he) hx
    obtain ⟨u, k1, k2⟩ := hA.at (elt_eq hel)
    have hr : (execOp a.eval o).run P w = .ok (.value u) w := by
      unfold execOp
      simp [hoo, hu, Instr.field, part, run_underlying h1, h2, h3, run_notAgg h4 h5, asAgg, k1]
    unfold Oper.wp
    rw [hr]
    exact ⟨u, env, rfl, Kept.refl _ _, g, rfl, k2⟩
  | _ => simp [efld] at h
end
/-- An operation that turns memory, and has a value. -/
def eturn (P : Program) (ty : Tag → Nat) (Γ : Nat → TK) (cr : List (Nat × CR)) (st : St) (m : Nat) (d : Option Nat) (op : Op) : Option (List Prop × St × SV) :=
  match eapp P ty Γ st m op with
  | some r => some r
  | none => match ebuild P ty Γ st m op with
    | some r => some r
    | none => match eio P ty Γ cr st d op with
      | some r => some r
      | none => match eiv P ty cr st d op with
        | some r => some r
        | none => match ecal P ty Γ cr st d op with
          | some r => some r
          | none => match efz P ty Γ st op with
            | some r => some r
            | none => efld P Γ st op
/-- A store into an object's element, or into a slice that lies there. -/
def eput2 (Γ : Nat → TK) (st : St) (op : Op) : Option (List Prop × St) :=
  match eput Γ st op with
  | some r => some r
  | none => evs Γ st op
/-- One operation. -/
def step (P : Program) (ty : Tag → Nat) (Γ : Nat → TK) (ren : List (Nat × Nat)) (cr : List (Nat × CR)) (ops : List Oper) (st : St) (o : Oper) : Option (List Prop × St) :=
  match qstep Γ (Elt P ty) (Sound ty P) ren cr ops st o with
  | some r => some r
  | none => match o.guard, dstok st o.dst, nmOf ren o.dst with
    | none, true, some m => match estore Γ st o.op with
      | some st' => match o.dst with | none => some ([], st') | some _ => none
      | none => match eput2 Γ st o.op with
        | some (vc, st') => match o.dst, fSt st' with | none, some st' => some (vc, st') | _, _ => none
        | none => match eturn P ty Γ cr st m o.dst o.op with
          | some (vc, st', v) => match fSt st' with | some st' => some (vc, st'.put o.dst v) | none => none
          | none => none
    | _, _, _ => none
def run (P : Program) (ty : Tag → Nat) (Γ : Nat → TK) (ren : List (Nat × Nat)) (cr : List (Nat × CR)) (ops : List Oper) : List Oper → St → List Prop → Option (List Prop × St)
  | [], st, acc => some (acc, st)
  | o :: r, st, acc => match step P ty Γ ren cr ops st o with
    | some ([], ⟨n, sl, hp⟩) => run P ty Γ ren cr ops r ⟨n, sl, hp⟩ acc
    | some ([p], ⟨n, sl, hp⟩) => run P ty Γ ren cr ops r ⟨n, sl, hp⟩ (p :: acc)
    | some ([p, q], ⟨n, sl, hp⟩) => run P ty Γ ren cr ops r ⟨n, sl, hp⟩ (p :: q :: acc)
    | some (l, ⟨n, sl, hp⟩) => run P ty Γ ren cr ops r ⟨n, sl, hp⟩ (l ++ acc)
    | none => none
def AllP : List Prop → Prop
  | [] => True
  | p :: r => p ∧ AllP r
theorem AllP.out : ∀ {l : List Prop}, AllP l → ∀ q, q ∈ l → q
  | p :: r, h, q, hq => by
    rcases List.mem_cons.1 hq with rfl | hq
    · exact h.1
    · exact AllP.out h.2 q hq
section
variable {P : Program} {zb : Base} {st st' : St} {a : Act} {w : World} {Q : Exit → Act → World → Prop} {o : Oper}
theorem no_mentions {v : SV} {d : Nat} (h : ∃ x, v = .one x) : v.mentions d = false := by
  obtain ⟨x, rfl⟩ := h; rfl
theorem Runs.mono {ops : Array Oper} {K K' : Act → World → Prop} (h : ∀ a w, K a w → K' a w) (hr : Runs P ops o a w K Q) : Runs P ops o a w K' Q := by
  unfold Runs at *
  split
  · rename_i hw; rw [if_pos hw] at hr; exact hr.imp (Oper.wp_mono h) id
  · rename_i hw; rw [if_neg hw] at hr; exact h _ _ hr
theorem eturn_ok {Γ : Nat → TK} (C : ∀ t, TKok P t (Γ t)) {cr : List (Nat × CR)} {m : Nat} {vc : List Prop} {v : SV} {env : Env} {d : Option Nat} (h : eturn P ty Γ cr st m d o.op = some (vc, st', v)) (g : Good ty zb st a.tmps w env) (hB : zb.w.heap.size ≤ w.heap.size) (hA : AmbZ zb) (hN : Amb w) (hv : ∀ q, q ∈ vc → q) :
    (∀ k, v.mentions k = false) ∧ o.wp P a w (fun a' w' => ∃ u env', a' = a.put o.dst u ∧ Kept zb w w' ∧ Good ty zb st' a.tmps w' env' ∧ st'.n = st.n ∧ RSV w' st'.hp env' a.tmps v u) Q := by
  have one : (∃ x, v = .one x) → ∀ k, v.mentions k = false := fun hx k => no_mentions hx
  unfold eturn at h
  split at h
  · rename_i r he
    simp only [Option.some.injEq] at h
    subst h
    refine ⟨one ?_, eapp_ok C he g hB hv⟩
    unfold eapp at he
    repeat' split at he
    all_goals first
      | (cases he; done)
      | (simp only [Option.some.injEq, Prod.mk.injEq] at he; exact ⟨_, he.2.2.symm⟩)
  · split at h
    · rename_i r he
      simp only [Option.some.injEq] at h
      subst h
      refine ⟨one ?_, ebuild_ok C he g hB hv⟩
      unfold ebuild at he
      repeat' split at he
      all_goals first
        | (cases he; done)
        | (simp only [Option.some.injEq, Prod.mk.injEq] at he; exact ⟨_, he.2.2.symm⟩)
    · split at h
      · rename_i r he
        simp only [Option.some.injEq] at h
        subst h
        refine ⟨one ?_, eio_ok he g hB hA hN hv⟩
        unfold eio at he
        repeat' split at he
        all_goals first
          | (cases he; done)
          | (simp only [Option.some.injEq, Prod.mk.injEq] at he; exact ⟨_, he.2.2.symm⟩)
      · split at h
        · rename_i r he
          simp only [Option.some.injEq] at h
          subst h
          refine ⟨one ?_, eiv_ok (Γ := Γ) he g hB hA hN hv⟩
          unfold eiv at he
          repeat' split at he
          all_goals first
            | (cases he; done)
            | (simp only [Option.some.injEq, Prod.mk.injEq] at he; exact ⟨_, he.2.2.symm⟩)
        · split at h
          · rename_i r he
            simp only [Option.some.injEq] at h
            subst h
            exact ecal_ok he g hB hA hN hv
          · split at h
            · rename_i r he
              simp only [Option.some.injEq] at h
              subst h
              refine ⟨one ?_, efz_ok C he g hB hv⟩
              unfold efz at he
              repeat' split at he
              all_goals first
                | (cases he; done)
                | (simp only [Option.some.injEq, Prod.mk.injEq] at he; exact ⟨_, he.2.2.symm⟩)
            · refine ⟨one ?_, efld_ok h g hv⟩
              unfold efld at h
              repeat' split at h
              all_goals first
                | (cases h; done)
                | (simp only [Option.some.injEq, Prod.mk.injEq] at h; exact ⟨_, h.2.2.symm⟩)
theorem eput2_ok {Γ : Nat → TK} (C : ∀ t, TKok P t (Γ t)) (Z : ∀ t, (∀ z tg fo, Γ t ≠ .st z tg fo) → Γ t ≠ .other → (P.info? t).map (·.size) = some 1) {vc : List Prop} {env : Env} (h : eput2 Γ st o.op = some (vc, st')) (g : Good ty zb st a.tmps w env) (hB : zb.w.heap.size ≤ w.heap.size) (hv : ∀ q, q ∈ vc → q) :
    o.wp P a w (fun a' w' => ∃ env', a' = a.put o.dst undef ∧ Kept zb w w' ∧ Good ty zb st' a.tmps w' env' ∧ st'.n = st.n) Q := by
  unfold eput2 at h
  split at h
  · rename_i r hr
    simp only [Option.some.injEq] at h
    subst h
    exact eput_ok C Z hr g hv
  · exact evs_ok C Z h g hB hv
theorem step_ok {Γ : Nat → TK} (C : ∀ t, TKok P t (Γ t)) (Z : ∀ t, (∀ z tg fo, Γ t ≠ .st z tg fo) → Γ t ≠ .other → (P.info? t).map (·.size) = some 1) {ren : List (Nat × Nat)} {cr : List (Nat × CR)} {ops : List Oper} {vc : List Prop} (h : step P ty Γ ren cr ops st o = some (vc, st')) (iv : Inv ty zb st a w) (hv : ∀ q, q ∈ vc → q) :
    Runs P ops.toArray o a w (fun a' w' => Inv ty zb st' a' w') Q := by
  simp only [step] at h
  split at h
  · rename_i r hq
    simp only [Option.some.injEq] at h
    subst h
    exact qstep_ok C hq iv hv
  · split at h
    · rename_i m hg hd _
      have hdl := dst_lt iv hd
      obtain ⟨env, g⟩ := iv.good
      have hBz := iv.kept.size
      split at h
      · rename_i s1 hs
        split at h
        · rename_i hdst
          simp only [Option.some.injEq, Prod.mk.injEq] at h
          obtain ⟨rfl, rfl⟩ := h
          refine guard_none hg (Oper.wp_mono ?_ (estore_ok (Q := Q) C Z hs g))
          rintro a' w' ⟨rfl, hb, hg', hn, hsl⟩
          rw [hdst]
          exact ⟨by rw [put_size, hn]; exact iv.size, by rw [put_defers]; exact iv.defers, iv.kept.trans hb, iv.amb, env, hg'⟩
        · cases h
      · split at h
        · rename_i vc1 s1 hs
          split at h
          · rename_i s2 hdst hfs
            have hfs := fSt_eq hfs
            subst hfs
            simp only [Option.some.injEq, Prod.mk.injEq] at h
            obtain ⟨rfl, rfl⟩ := h
            refine guard_none hg (Oper.wp_mono ?_ (eput2_ok (Q := Q) C Z hs g hBz hv))
            rintro a' w' ⟨env', rfl, hb, hg', hn⟩
            rw [hdst]
            exact ⟨by rw [put_size, hn]; exact iv.size, by rw [put_defers]; exact iv.defers, iv.kept.trans hb, iv.amb, env', hg'⟩
          · cases h
        · split at h
          · rename_i vc1 s1 v he
            split at h
            case h_2 => cases h
            rename_i s2 hfs
            have hfs := fSt_eq hfs
            subst hfs
            simp only [Option.some.injEq, Prod.mk.injEq] at h
            obtain ⟨rfl, rfl⟩ := h
            obtain ⟨hv1, hwp⟩ := eturn_ok (Q := Q) C he g hBz iv.amb (iv.amb.now iv.kept) hv
            refine guard_none hg (Oper.wp_mono ?_ hwp)
            rintro a' w' ⟨u, env', rfl, hb, hg', hn, hr⟩
            refine ⟨by rw [put_size, put_n, hn]; exact iv.size, by rw [put_defers]; exact iv.defers, iv.kept.trans hb, iv.amb, env', put_good hg' hdl hr fun d _ => hv1 d⟩
          · cases h
    · cases h
theorem run_split {Γ : Nat → TK} {ren : List (Nat × Nat)} {cr : List (Nat × CR)} {ops : List Oper} {r : List Oper} {acc vcs : List Prop} {st2 : St} (h : run P ty Γ ren cr ops (o :: r) st acc = some (vcs, st2)) :
    ∃ vc st1, step P ty Γ ren cr ops st o = some (vc, st1) ∧ run P ty Γ ren cr ops r st1 (vc ++ acc) = some (vcs, st2) := by
  simp only [run] at h
  split at h
  · rename_i n sl hp hs; exact ⟨[], ⟨n, sl, hp⟩, hs, h⟩
  · rename_i p n sl hp hs; exact ⟨[p], ⟨n, sl, hp⟩, hs, h⟩
  · rename_i p q n sl hp hs; exact ⟨[p, q], ⟨n, sl, hp⟩, hs, h⟩
  · rename_i l n sl hp _ _ _ hs; exact ⟨_, ⟨n, sl, hp⟩, hs, h⟩
  · cases h
theorem run_acc {Γ : Nat → TK} {ren : List (Nat × Nat)} {cr : List (Nat × CR)} {ops : List Oper} : ∀ {l : List Oper} {st st2 : St} {acc vcs : List Prop}, run P ty Γ ren cr ops l st acc = some (vcs, st2) → ∀ q, q ∈ acc → q ∈ vcs
  | [], st, st2, acc, vcs, h, q, hq => by
    simp only [run, Option.some.injEq, Prod.mk.injEq] at h
    rw [← h.1]; exact hq
  | o :: r, st, st2, acc, vcs, h, q, hq => by
    obtain ⟨vc, st1, _, h2⟩ := run_split h
    exact run_acc h2 q (List.mem_append_right _ hq)
theorem run_ok {Γ : Nat → TK} (C : ∀ t, TKok P t (Γ t)) (Z : ∀ t, (∀ z tg fo, Γ t ≠ .st z tg fo) → Γ t ≠ .other → (P.info? t).map (·.size) = some 1) {ren : List (Nat × Nat)} {cr : List (Nat × CR)} {ops : List Oper} {st2 : St} {vcs : List Prop}
    (hQ : ∀ a w, Inv ty zb st2 a w → Q .normal a w) : ∀ {l : List Oper} {st : St} {acc : List Prop} {a : Act} {w : World}, run P ty Γ ren cr ops l st acc = some (vcs, st2) → (∀ q, q ∈ vcs → q) → Inv ty zb st a w → wpList P ops.toArray Q l a w
  | [], st, acc, a, w, h, hv, iv => by
    simp only [run, Option.some.injEq, Prod.mk.injEq] at h
    obtain ⟨_, rfl⟩ := h
    exact hQ a w iv
  | o :: r, st, acc, a, w, h, hv, iv => by
    obtain ⟨vc, st1, h1, h2⟩ := run_split h
    have := step_ok (Q := Q) C Z h1 iv (fun q hq => hv q (run_acc h2 q (List.mem_append_left _ hq)))
    exact this.mono fun a' w' iv' => run_ok C Z hQ h2 hv iv'
end

/-! ### Statements -/
/-- The exits of a statement, by states. -/
abbrev Post := Exit → St → Prop
def Lift (ty : Tag → Nat) (zb : Base) (Q : Post) : Exit → Act → World → Prop := fun e a w => ∃ st, Inv ty zb st a w ∧ Q e st
/-- From every place that the state speaks of, the statement comes to the post. -/
def W (P : Program) (ty : Tag → Nat) (zb : Base) (c : Code) (Q : Post) (st : St) : Prop := ∀ a w, Inv ty zb st a w → c.wp P (Lift ty zb Q) a w
def Post.then (next : St → Prop) (Q : Post) : Post
  | .normal, st => next st
  | e, st => Q e st
def Post.inBlock (id : Nat) (Q : Post) : Post
  | .exit i, st => if i = id then Q .normal st else Q (.exit i) st
  | e, st => Q e st
/-- Slots and objects that are kept. -/
def keepS (sl : List (Nat × SV)) : List Nat → Option (List (Nat × SV))
  | [] => some []
  | s :: r => match look sl s with
    | some x => match fS x, keepS sl r with
      | some x, some l => some ((s, x) :: l)
      | _, _ => none
    | none => none
def keepH (hp : Hp) : List Nat → Option Hp
  | [] => some []
  | s :: r => match look hp s with
    | some x => match fO x, keepH hp r with
      | some x, some l => some ((s, x) :: l)
      | _, _ => none
    | none => none
/-- Whatever is mentioned is there. -/
def nameok (hp : Hp) (v : V) : Bool := match v.name with | some n => (match look hp n with | some _ => true | none => false) | none => true
def nameok1 (hp : Hp) : S1 → Bool
  | .a v => nameok hp v
  | .agg l => l.all (nameok hp)
def nameokS (hp : Hp) : SV → Bool
  | .one x => nameok1 hp x
  | .tup l => l.all (nameok1 hp)
  | .cond _ x => nameok1 hp x
def nameokO (hp : Hp) : Obj → Bool
  | .box c => c.all (nameok hp)
  | .arr _ _ => true
def closedk (sl : List (Nat × SV)) (hp : Hp) : Bool := (sl.all fun e => nameokS hp e.2) && hp.all fun e => nameokO hp e.2
def V.nms (v : V) : List Nat := match v.name with | some n => [n] | none => []
def SV.nms : SV → List Nat
  | .one (.a v) => v.nms
  | .one (.agg l) => l.flatMap V.nms
  | .tup l => l.flatMap fun x => (match x with | .a v => v.nms | .agg l => l.flatMap V.nms)
  | .cond _ (.a v) => v.nms
  | .cond _ (.agg l) => l.flatMap V.nms
/-- What is reached from names. -/
def closeH : Nat → Hp → List Nat → List Nat → List Nat
  | 0, _, _, acc => acc
  | _, _, [], acc => acc
  | f + 1, hp, n :: r, acc => match acc.any (Nat.beq n) with
    | true => closeH f hp r acc
    | false => closeH f hp (match look hp n with | some (.box c) => c.flatMap V.nms ++ r | _ => r) (acc ++ [n])
def slotNms (sl : List (Nat × SV)) : List Nat → List Nat
  | [] => []
  | s :: r => match look sl s with | some x => x.nms ++ slotNms sl r | none => slotNms sl r
/-- The objects that are kept: those named, or, if none is, all that the kept slots reach. -/
def autoH (sl : List (Nat × SV)) (hp : Hp) (ks : List Nat) : List Nat → List Nat
  | [] => closeH 300 hp (slotNms sl ks ++ (hp.map Prod.fst).filter pin) []
  | hs => hs
/-- A region: its state behind, of the slots ks and the objects hs. -/
def reg (P : Program) (ty : Tag → Nat) (Γ : Nat → TK) (ren : List (Nat × Nat)) (cr : List (Nat × CR)) (ks hs : List Nat) (ops : List Oper) : St → Option (List Prop × St)
  | ⟨n, sl0, hp0⟩ => match run P ty Γ ren cr ops ops ⟨n, sl0, hp0⟩ [] with
  | some (vc, st') => match keepS st'.sl ks, keepH st'.hp (autoH st'.sl st'.hp ks hs) with
    | some sl, some hp => match closedk sl hp, Nat.beq st'.n n with
      | true, true => some (vc, ⟨n, sl, hp⟩)
      | _, _ => none
    | _, _ => none
  | none => none
theorem keepS_look {sl : List (Nat × SV)} : ∀ {ks : List Nat} {l : List (Nat × SV)}, keepS sl ks = some l → ∀ s v, look l s = some v → look sl s = some v
  | [], l, h, s, v, hl => by
    simp only [keepS, Option.some.injEq] at h
    subst h; cases hl
  | k :: r, l, h, s, v, hl => by
    simp only [keepS] at h
    split at h
    · rename_i x0 h1
      split at h
      · rename_i x l' hf h2
        simp only [Option.some.injEq] at h
        subst h
        by_cases hs : s = k
        · subst hs; rw [look_eq] at hl; rw [← hl, fS_eq hf]; exact h1
        · rw [look_ne hs] at hl; exact keepS_look h2 s v hl
      · cases h
    · cases h
theorem keepH_look {hp : Hp} : ∀ {ks : List Nat} {l : Hp}, keepH hp ks = some l → ∀ s v, look l s = some v → look hp s = some v
  | [], l, h, s, v, hl => by
    simp only [keepH, Option.some.injEq] at h
    subst h; cases hl
  | k :: r, l, h, s, v, hl => by
    simp only [keepH] at h
    split at h
    · rename_i x0 h1
      split at h
      · rename_i x l' hf h2
        simp only [Option.some.injEq] at h
        subst h
        by_cases hs : s = k
        · subst hs; rw [look_eq] at hl; rw [← hl, fO_eq hf]; exact h1
        · rw [look_ne hs] at hl; exact keepH_look h2 s v hl
      · cases h
    · cases h
theorem nameok_ok {hp : Hp} {v : V} (h : nameok hp v = true) : ∀ n, v.name = some n → look hp n ≠ none := by
  intro n hn hl
  simp [nameok, hn, hl] at h
theorem nameok1_ok {hp : Hp} {x : S1} (h : nameok1 hp x = true) : ∀ v, v ∈ x.vs → nameok hp v = true := by
  intro v hv
  cases x with
  | a y => simp only [S1.vs, List.mem_singleton] at hv; subst hv; exact h
  | agg l => exact List.all_eq_true.1 h v hv
theorem nameokS_ok {hp : Hp} {x : SV} (h : nameokS hp x = true) : ∀ v, v ∈ x.vs → nameok hp v = true := by
  intro v hv
  cases x with
  | one x => exact nameok1_ok h v hv
  | tup l =>
    simp only [SV.vs, List.mem_flatMap] at hv
    obtain ⟨y, hy, hv⟩ := hv
    exact nameok1_ok (List.all_eq_true.1 h y hy) v hv
  | cond p x => exact nameok1_ok h v hv
theorem Good.weaken {zb : Base} {st st' : St} {tmps : Array Value} {w : World} {env : Env} (g : Good ty zb st tmps w env) (hs : ∀ s v, look st'.sl s = some v → look st.sl s = some v) (hh : ∀ n o, look st'.hp n = some o → look st.hp n = some o)
    (hc1 : ∀ s v, look st'.sl s = some v → ∀ x, x ∈ v.vs → nameok st'.hp x = true) (hc2 : ∀ m c, look st'.hp m = some (.box c) → ∀ v, v ∈ c → nameok st'.hp v = true) : Good ty zb st' tmps w env := by
  have s : Step (fun n => look st'.hp n ≠ none) (fun n => look st'.hp n ≠ none) w st.hp env w st'.hp env := by
    refine ⟨fun _ _ _ => rfl, ?_, ?_, ?_⟩
    · rintro b _ ⟨n, o, h1, h2⟩; exact ⟨n, o, hh n o h1, h2⟩
    · intro n o hK h1
      cases hq : look st'.hp n with
      | none => exact absurd hq hK
      | some o' =>
        have := hh n o' hq
        rw [h1] at this
        simp only [Option.some.injEq] at this
        subst this
        exact ⟨o, rfl, by cases o <;> simp [Obj.like], rfl⟩
    · intro n t l hK h1
      cases hq : look st'.hp n with
      | none => exact absurd hq hK
      | some o' =>
        have := hh n o' hq
        rw [h1] at this
        simp only [Option.some.injEq] at this
        subst this
        exact ⟨rfl, rfl, fun _ _ => rfl⟩
  have hang : ∀ v, nameok st'.hp v = true → v.hangs (fun n => look st'.hp n ≠ none) (fun n => look st'.hp n ≠ none) := fun v h => ⟨fun n hn => nameok_ok h n hn, fun n hn => nameok_ok h n (V.view_name hn)⟩
  refine ⟨fun n o hl => ?_, fun n m o o' hne h1 h2 => g.dis n m o o' hne (hh n o h1) (hh m o' h2), fun t v hl => RSV.step s (fun x hx => hang x (hc1 t v hl x hx)) (g.slot t v (hs t v hl)), fun n o hl => g.dom n o (hh n o hl), g.pins⟩
  exact (g.obj n o (hh n o hl)).step s (fun c hc v hv => hang v (hc2 n c (by rw [hl, hc]) v hv)) (fun _ _ => rfl)
theorem closedk_ok {sl : List (Nat × SV)} {hp : Hp} (h : closedk sl hp = true) : (∀ s v, look sl s = some v → ∀ x, x ∈ v.vs → nameok hp x = true) ∧ (∀ m c, look hp m = some (.box c) → ∀ v, v ∈ c → nameok hp v = true) := by
  simp only [closedk, Bool.and_eq_true, List.all_eq_true] at h
  refine ⟨fun s v hl => nameokS_ok (h.1 _ (look_mem hl)), fun m c hl v hv => ?_⟩
  have := h.2 _ (look_mem hl)
  exact List.all_eq_true.1 this v hv
theorem Inv.weaken {zb : Base} {st st' : St} {a : Act} {w : World} (iv : Inv ty zb st a w) (hn : st'.n = st.n) (hs : ∀ s v, look st'.sl s = some v → look st.sl s = some v) (hh : ∀ n o, look st'.hp n = some o → look st.hp n = some o) (hc : closedk st'.sl st'.hp = true) : Inv ty zb st' a w := by
  obtain ⟨env, g⟩ := iv.good
  obtain ⟨c1, c2⟩ := closedk_ok hc
  exact ⟨by rw [iv.size, hn], iv.defers, iv.kept, iv.amb, env, g.weaken hs hh c1 c2⟩
/-- What a program's types and functions are, for the walk. -/
structure Ctx (P : Program) (ty : Tag → Nat) (Γ : Nat → TK) : Prop where
  kind : ∀ t, TKok P t (Γ t)
  one : ∀ t, (∀ z tg fo, Γ t ≠ .st z tg fo) → Γ t ≠ .other → (P.info? t).map (·.size) = some 1
section
variable {P : Program} {Γ : Nat → TK} {zb : Base} {Q : Post} {st : St}
theorem reg_split {ren : List (Nat × Nat)} {cr : List (Nat × CR)} {ks hs : List Nat} {ops : List Oper} {vc : List Prop} {st' : St} (h : reg P ty Γ ren cr ks hs ops st = some (vc, st')) : ∃ s1, run P ty Γ ren cr ops ops st [] = some (vc, s1) ∧
    ∀ a w, Inv ty zb s1 a w → Inv ty zb st' a w := by
  obtain ⟨n, sl0, hp0⟩ := st
  simp only [reg] at h
  split at h
  · rename_i vc1 s1 hr
    split at h
    · rename_i sl hp h1 h2
      split at h
      · rename_i hc hn
        simp only [Option.some.injEq, Prod.mk.injEq] at h
        obtain ⟨rfl, rfl⟩ := h
        exact ⟨s1, hr, fun a w iv => iv.weaken (Nat.eq_of_beq_eq_true hn).symm (keepS_look h1) (keepH_look h2) hc⟩
      · cases h
    · cases h
  · cases h
theorem W.reg (X : Ctx P ty Γ) (ren : List (Nat × Nat)) (cr : List (Nat × CR)) (ks hs : List Nat) {id : Nat} {ops : List Oper} {vc : List Prop} {st' : St} (h : reg P ty Γ ren cr ks hs ops st = some (vc, st')) (hv : AllP vc) (k : Q .normal st') : W P ty zb (.region id ops.toArray false) Q st := by
  intro a w iv
  obtain ⟨s1, h1, h2⟩ := reg_split (zb := zb) h
  exact wp_region_lit (run_ok X.kind X.one (fun a w iv' => ⟨st', h2 a w iv', k⟩) h1 hv.out iv)
theorem W.seq {x y : Code} (h : W P ty zb x (Post.then (W P ty zb y Q) Q) st) : W P ty zb (.seq x y) Q st := by
  intro a w iv
  refine wp_seq (wp_mono (h a w iv) ?_)
  rintro e a' w' ⟨st', iv', hq⟩
  cases e with
  | normal => exact hq a' w' iv'
  | _ => exact ⟨st', iv', hq⟩
theorem W.skip (h : Q .normal st) : W P ty zb .skip Q st := fun _ _ iv => wp_skip ⟨st, iv, h⟩
theorem W.exit {id : Nat} (h : Q (.exit id) st) : W P ty zb (.exit id) Q st := fun _ _ iv => wp_exit ⟨st, iv, h⟩
theorem W.ret (h : Q .ret st) : W P ty zb .ret Q st := fun _ _ iv => wp_ret ⟨st, iv, h⟩
theorem W.block {id : Nat} {c : Code} (h : W P ty zb c (Post.inBlock id Q) st) : W P ty zb (.block id c) Q st := by
  intro a w iv
  refine wp_block (wp_mono (h a w iv) ?_)
  rintro e a' w' ⟨st', iv', hq⟩
  cases e with
  | exit i =>
    simp only [Post.inBlock] at hq
    simp only [Exit.inBlock]
    split
    · rename_i hi; rw [if_pos hi] at hq; exact ⟨st', iv', hq⟩
    · rename_i hi; rw [if_neg hi] at hq; exact ⟨st', iv', hq⟩
  | _ => exact ⟨st', iv', hq⟩
theorem W.cond {c : Operand} {x y : Code} {b : Bool} (hc : opv st [] c = some (.a (.lit (.bool b)))) (h1 : b = true → W P ty zb x Q st) (h2 : b = false → W P ty zb y Q st) : W P ty zb (.cond c x y) Q st := by
  intro a w iv
  obtain ⟨env, g⟩ := iv.good
  have := (opv_ok g (fun e he => by simp at he) hc).lit
  exact wp_cond_split this (fun hb => h1 hb a w iv) (fun hb => h2 hb a w iv)
/-- A loop: its states by an index; a measure. -/
theorem W.loop {ι : Type} (p : ι → Prop) (I : ι → St) (μ : ι → Nat) (i : ι) {c : Code} (hp : p i) (h0 : ∀ a w, Inv ty zb st a w → Inv ty zb (I i) a w)
    (round : ∀ i, p i → W P ty zb c (Post.then (fun st' => ∃ j, p j ∧ μ j < μ i ∧ ∀ a w, Inv ty zb st' a w → Inv ty zb (I j) a w) Q) (I i)) : W P ty zb (.loop c) Q st := by
  intro a w iv b k cs
  have key : ∀ n i a w, μ i = n → p i → Inv ty zb (I i) a w → ∃ e a' w', Lift ty zb Q e a' w' ∧ Arrives P (lone (b.at a (.code c :: .inLoop c :: k)) cs w) b k cs e a' w' := by
    intro n
    induction n using Nat.strongRecOn with
    | _ n ih =>
      intro i a w hn hpi iv
      obtain ⟨e, a₁, w₁, ⟨st', iv', hq⟩, harr⟩ := round i hpi a w iv b (.inLoop c :: k) cs
      cases e with
      | normal =>
        obtain ⟨j, hpj, hlt, hj⟩ := hq
        obtain ⟨e₂, a₂, w₂, hq₂, harr₂⟩ := ih (μ j) (hn ▸ hlt) j a₁ w₁ rfl hpj (hj _ _ iv')
        exact ⟨e₂, a₂, w₂, hq₂, .of_steps (Steps.trans harr (.one step_inLoop)) harr₂⟩
      | exit id => exact ⟨_, a₁, w₁, ⟨st', iv', hq⟩, .pass (x := .inLoop c) rfl (fun _ _ => .inl (by simp)) harr⟩
      | goto l => exact ⟨_, a₁, w₁, ⟨st', iv', hq⟩, .pass (x := .inLoop c) rfl (fun _ _ => .inl (by simp)) harr⟩
      | ret => exact ⟨_, a₁, w₁, ⟨st', iv', hq⟩, .pass (x := .inLoop c) rfl (fun _ _ => .inl (by simp)) harr⟩
      | panic ch => exact ⟨_, a₁, w₁, ⟨st', iv', hq⟩, .pass (x := .inLoop c) rfl (fun _ _ => .inl (by simp)) harr⟩
      | outgrown => exact ⟨_, a₁, w₁, ⟨st', iv', hq⟩, .pass (x := .inLoop c) rfl (fun _ _ => .inl (by simp)) harr⟩
  obtain ⟨e, a', w', hq, harr⟩ := key _ i a w rfl hp (h0 a w iv)
  exact ⟨e, a', w', hq, .of_steps (.one step_loop) harr⟩
/-- A state with some slots and objects others. -/
def overS : List (Nat × SV) → List (Nat × SV) → Option (List (Nat × SV))
  | [], _ => some []
  | (s, x) :: r, ov => match fS (match look ov s with | some y => y | none => x), overS r ov with
    | some x, some l => some ((s, x) :: l)
    | _, _ => none
def overH : Hp → Hp → Option Hp
  | [], _ => some []
  | (s, x) :: r, ov => match fO (match look ov s with | some y => y | none => x), overH r ov with
    | some x, some l => some ((s, x) :: l)
    | _, _ => none
def over : St → List (Nat × SV) → Hp → Option St
  | ⟨n, sl, hp⟩, ov, oh => match overS sl ov, overH hp oh with
    | some sl, some hp => some ⟨n, sl, hp⟩
    | _, _ => none
/-- A loop: what its slots and objects hold, by an index. -/
theorem W.loopO {ι : Type} (p : ι → Prop) (ov : ι → List (Nat × SV)) (oh : ι → Hp) (μ : ι → Nat) (i : ι) {c : Code} {I : ι → St} (_hI : ∀ k, over st (ov k) (oh k) = some (I k)) (hp : p i) (h0 : I i = st)
    (round : ∀ i, p i → W P ty zb c (Post.then (fun st' => ∃ j, p j ∧ μ j < μ i ∧ st' = I j) Q) (I i)) : W P ty zb (.loop c) Q st := by
  refine W.loop p I μ i hp (fun a w iv => by rw [h0]; exact iv) fun i hi => ?_
  intro a w iv
  refine wp_mono (round i hi a w iv) ?_
  rintro e a' w' ⟨st', iv', hq⟩
  cases e with
  | normal =>
    obtain ⟨j, h1, h2, rfl⟩ := hq
    exact ⟨_, iv', j, h1, h2, fun a w h => h⟩
  | _ => exact ⟨st', iv', hq⟩
end
end Go.Proofs.YthjedjndamejmaaGreat.G
namespace Go.Proofs.YthjedjndamejmaaGreat.G
set_option linter.all false
open Go.RowKit L D
variable {ty : Tag → Nat}
def enter : Nat → List S1 → List (Nat × SV)
  | _, [] => []
  | i, x :: r => (i, .one x) :: enter (i + 1) r
/-- A result's place, read. -/
def retv (Γ : Nat → TK) (st : St) : ResultVar → Option S1
  | .tmp t => match look st.sl t with | some (.one x) => some x | _ => none
  | .cell p t => match look st.sl p with
    | some (.one (.a (.ptr n 0))) => match look st.hp n, Γ t with
      | some (.box c), .st z _ _ => match Nat.beq c.length z.length with | true => some (.agg c) | false => none
      | _, _ => none
    | _ => none
def retvs (Γ : Nat → TK) (st : St) : List ResultVar → Option (List S1)
  | [] => some []
  | r :: rs => match retv Γ st r, retvs Γ st rs with | some x, some xs => some (x :: xs) | _, _ => none
/-- A cell against what it is said to be. -/
def meet0 (st : St) : V → V → Option (List Prop × List Nat)
  | .lit v, .lit u => some ([v = u], [])
  | .lit (.slice none 0 0), .sl _ l => some ([l = []], [])
  | .own n, .sl t l => match look st.hp n, soft n with
    | some (.arr t' l'), false => match castL t t' l' with
      | some l2 => some ([l2 = l], [n])
      | none => none
    | _, _ => none
  | .lit (.slice none 0 0), .vw _ _ _ l => some ([l = []], [])
  | .own n, .vw _ _ t l => match look st.hp n with
    | some (.arr t' l') => match castL t t' l' with
      | some l2 => some ([l2 = l], [n])
      | none => none
    | _ => none
  | .vw n _ t' l', .vw _ _ t l => match castL t t' l' with
    | some l2 => some ([l2 = l], [n])
    | none => none
  | _, _ => none
def meet (st : St) : List V → List V → Option (List Prop × List Nat)
  | [], [] => some ([], [])
  | x :: r, y :: s => match meet0 st x y, meet st r s with
    | some (vc, k), some (vcs, ks) => some (app1 vc vcs, app1 k ks)
    | _, _ => none
  | _, _ => none
def meet1 (st : St) : S1 → S1 → Option (List Prop × List Nat)
  | .a v, .a u => meet st [v] [u]
  | .agg l, .agg m => meet st l m
  | _, _ => none
def meets (st : St) : List S1 → List S1 → Option (List Prop × List Nat)
  | [], [] => some ([], [])
  | x :: r, y :: s => match meet1 st x y, meets st r s with
    | some (vc, k), some (vcs, ks) => some (app1 vc vcs, app1 k ks)
    | _, _ => none
  | _, _ => none
def ends (Γ : Nat → TK) (st : St) (rvs : List ResultVar) (rs : List S1) : Option (List Prop) :=
  match retvs Γ st rvs with
  | some xs => match meets st xs rs with
    | some (vc, k) => match nodupn k with | true => some vc | false => none
    | none => none
  | none => none
/-- The results at the end. -/
def Fin (Γ : Nat → TK) (rvs : List ResultVar) (rs : List S1) : Post := fun e st => (e = .ret ∨ e = .normal) ∧ ∃ vc, ends Γ st rvs rs = some vc ∧ AllP vc
theorem Fin.ret {Γ : Nat → TK} {rvs : List ResultVar} {rs : List S1} {st : St} {vc : List Prop} (h : ends Γ st rvs rs = some vc) (hv : AllP vc) : Fin Γ rvs rs .ret st := ⟨.inl rfl, vc, h, hv⟩
theorem Fin.normal {Γ : Nat → TK} {rvs : List ResultVar} {rs : List S1} {st : St} {vc : List Prop} (h : ends Γ st rvs rs = some vc) (hv : AllP vc) : Fin Γ rvs rs .normal st := ⟨.inr rfl, vc, h, hv⟩
theorem Bld.lift {α : Type} {k : Nat} {E : ER α} {lo e : Nat} {w : World} {v : Value} {l : List α} {fp : List Nat} (h : Bld k E 0 e w v l fp) (hl : ∀ b, b ∈ fp → lo ≤ b) : Bld k E lo e w v l fp := by
  obtain ⟨xs, fps, hown, hf, he, rfl, ho⟩ := h
  refine ⟨xs, fps, ⟨hown.1, ?_⟩, hf, he, rfl, ⟨ho.nodup, hl, ho.kind⟩⟩
  rcases hown.2 with h | ⟨g, cap, cur, rfl, hbg, r⟩
  · exact Or.inl h
  · exact Or.inr ⟨g, cap, cur, rfl, hl g (by simp [Value.ownBlock]), r⟩
section
variable {P : Program} {zb : Base} {st : St} {a : Act} {w : World} {env : Env}
theorem rv_ok {Γ : Nat → TK} (C : ∀ t, TKok P t (Γ t)) (g : Good ty zb st a.tmps w env) {r : ResultVar} {x : S1} (h : retv Γ st r = some x) :
    ∃ u, RS1 w st.hp env x u ∧ (match r with | .tmp t => a.tmps.getD t undef = u | .cell p t => ∃ ad, a.tmps.getD p undef = .pointer (some ad) ∧ (loadVar t ad).run P w = .ok u w) := by
  cases r with
  | tmp t =>
    simp only [retv] at h
    split at h
    · rename_i y hl
      simp only [Option.some.injEq] at h
      subst h
      exact ⟨_, g.slot t _ hl, rfl⟩
    · cases h
  | cell p t =>
    simp only [retv] at h
    split at h
    · rename_i n hl
      split at h
      · rename_i c z tg fo hb hk
        split at h
        · rename_i hlen
          have hlen := Nat.eq_of_beq_eq_true hlen
          simp only [Option.some.injEq] at h
          subst h
          obtain ⟨_, b, hv, hu⟩ := g.slot p _ hl
          obtain ⟨b', cs, e, hco, hh, hc⟩ := g.obj n _ hb
          have hbb : b = b' := by rw [hco] at hv; simpa using hv.symm
          subst hbb
          have hC := C t
          rw [hk] at hC
          obtain ⟨fs, hu2, hi, _⟩ := hC
          have hi' : (P.info? t).map (·.size) = some cs.length := by
            rw [hc.len, hlen]
            cases hq : P.info? t with
            | none => simp [hq] at hi
            | some i => simp [hq] at hi; simp [hi.1]
          refine ⟨.agg cs.toArray, ⟨cs, rfl, hc⟩, ?_⟩
          have hra : w.rangeAt b 0 cs := by simpa using rangeB hh
          exact ⟨_, hu, run_loadVar_mid w b 0 t cs _ hra hu2 rfl hi'⟩
        · cases h
      · cases h
    · cases h
theorem own_app (g : Good ty zb st a.tmps w env) {k1 k2 : List Nat} {f1 f2 : List Nat} (hnd : (k1 ++ k2).Nodup) (p2 : Own zb.w.heap.size w f1) (p3 : ∀ b, b ∈ f1 → ∃ i o, i ∈ k1 ∧ look st.hp i = some o ∧ b ∈ (env i).fp) (q2 : Own zb.w.heap.size w f2) (q3 : ∀ b, b ∈ f2 → ∃ i o, i ∈ k2 ∧ look st.hp i = some o ∧ b ∈ (env i).fp) :
    Own zb.w.heap.size w (f1 ++ f2) ∧ ∀ b, b ∈ f1 ++ f2 → ∃ i o, i ∈ k1 ++ k2 ∧ look st.hp i = some o ∧ b ∈ (env i).fp := by
  obtain ⟨n1, n2, n3⟩ := List.nodup_append.1 hnd
  refine ⟨⟨List.nodup_append.2 ⟨p2.nodup, q2.nodup, ?_⟩, fun b hb => ?_, fun b hb => ?_⟩, fun b hb => ?_⟩
  · rintro b hb z hz rfl
    obtain ⟨n, o1, h1, h2, h3⟩ := p3 b hb
    obtain ⟨m, o2, h4, h5, h6⟩ := q3 b hz
    exact g.dis n m _ _ (fun e => n3 n h1 m h4 e) h2 h5 b h3 h6
  · rcases List.mem_append.1 hb with hb | hb
    · exact p2.ge b hb
    · exact q2.ge b hb
  · rcases List.mem_append.1 hb with hb | hb
    · exact p2.kind b hb
    · exact q2.kind b hb
  · rcases List.mem_append.1 hb with hb | hb
    · obtain ⟨n, o1, h1, h2, h3⟩ := p3 b hb; exact ⟨n, o1, List.mem_append_left _ h1, h2, h3⟩
    · obtain ⟨n, o1, h1, h2, h3⟩ := q3 b hb; exact ⟨n, o1, List.mem_append_right _ h1, h2, h3⟩
theorem meet0_ok (hL : zb.L = []) (g : Good ty zb st a.tmps w env) {x y : V} {u : Value} {vc : List Prop} {k : List Nat} (hr : RA w st.hp env x u) (h : meet0 st x y = some (vc, k)) (hv : ∀ q, q ∈ vc → q) :
    ∃ fp, RB ty w zb.w.heap.size y u fp ∧ Own zb.w.heap.size w fp ∧ ∀ b, b ∈ fp → ∃ i o, i ∈ k ∧ look st.hp i = some o ∧ b ∈ (env i).fp := by
  unfold meet0 at h
  split at h
  · simp only [Option.some.injEq, Prod.mk.injEq] at h
    obtain ⟨rfl, rfl⟩ := h
    have hl := hv _ (List.mem_singleton.2 rfl)
    obtain ⟨rfl, ho⟩ := hr
    exact ⟨[], ⟨hl, hl ▸ ho, rfl⟩, Own.nil _ _, by simp⟩
  · simp only [Option.some.injEq, Prod.mk.injEq] at h
    obtain ⟨rfl, rfl⟩ := h
    have hl := hv _ (List.mem_singleton.2 rfl)
    subst hl
    obtain ⟨rfl, ho⟩ := hr
    exact ⟨[], Bld.nil _ _ _ _ _, Own.nil _ _, by simp⟩
  · rename_i n t l
    split at h
    · rename_i t' l' hl hpin
      split at h
      · rename_i l2 hc
        simp only [Option.some.injEq, Prod.mk.injEq] at h
        obtain ⟨rfl, rfl⟩ := h
        have hll := hv _ (List.mem_singleton.2 rfl)
        subst hll
        obtain ⟨e, rfl⟩ := castL_ok hc
        subst e
        obtain ⟨_, rfl⟩ := hr
        have hb := Bld.lift (RO.bld hpin (g.obj n _ hl)) (lo := zb.w.heap.size) (fun b hb => by
          rcases g.dom n _ hl b hb with h | h
          · rw [hL] at h; cases h
          · exact h)
        exact ⟨(env n).fp, hb, hb.own, fun b hb => ⟨n, _, by simp, hl, hb⟩⟩
      · cases h
    · cases h
  · simp only [Option.some.injEq, Prod.mk.injEq] at h
    obtain ⟨rfl, rfl⟩ := h
    have hl := hv _ (List.mem_singleton.2 rfl)
    subst hl
    obtain ⟨rfl, ho⟩ := hr
    exact ⟨[], ⟨Bld.sl (Bld.nil _ _ 0 0 _), Own.nil _ _⟩, Own.nil _ _, by simp⟩
  · rename_i n _ _ t l
    split at h
    · rename_i t' l' hl
      split at h
      · rename_i l2 hc
        simp only [Option.some.injEq, Prod.mk.injEq] at h
        obtain ⟨rfl, rfl⟩ := h
        have hll := hv _ (List.mem_singleton.2 rfl)
        subst hll
        obtain ⟨e, rfl⟩ := castL_ok hc
        subst e
        obtain ⟨_, rfl⟩ := hr
        have hs := RO.sl (g.obj n _ hl)
        have ho0 := RO.own (g.obj n _ hl)
        have ho : Own zb.w.heap.size w (env n).fp := ⟨ho0.nodup, fun b hb => by
          rcases g.dom n _ hl b hb with h | h
          · rw [hL] at h; cases h
          · exact h, ho0.kind⟩
        exact ⟨(env n).fp, ⟨hs, ho⟩, ho, fun b hb => ⟨n, _, by simp, hl, hb⟩⟩
      · cases h
    · cases h
  · rename_i n _ t' l' _ _ t l
    split at h
    · rename_i l2 hc
      simp only [Option.some.injEq, Prod.mk.injEq] at h
      obtain ⟨rfl, rfl⟩ := h
      have hll := hv _ (List.mem_singleton.2 rfl)
      subst hll
      obtain ⟨e, rfl⟩ := castL_ok hc
      subst e
      obtain ⟨⟨t0, l0, hl⟩, ⟨fp, hs, hnd, hsub⟩, _⟩ := hr
      have ho0 := RO.own (g.obj n _ hl)
      have ho : Own zb.w.heap.size w fp := ⟨hnd, fun b hb => by
        rcases g.dom n _ hl b (hsub b hb) with h | h
        · rw [hL] at h; cases h
        · exact h, fun b hb => ho0.kind b (hsub b hb)⟩
      exact ⟨fp, ⟨hs, ho⟩, ho, fun b hb => ⟨n, _, by simp, hl, hsub b hb⟩⟩
    · cases h
  · cases h
theorem meet_ok (hL : zb.L = []) (g : Good ty zb st a.tmps w env) : ∀ {xs ys : List V} {us : List Value} {vc : List Prop} {k : List Nat}, All2 (RA w st.hp env) xs us → meet st xs ys = some (vc, k) → k.Nodup → (∀ q, q ∈ vc → q) →
    ∃ fp, RBs ty w zb.w.heap.size ys us fp ∧ Own zb.w.heap.size w fp ∧ ∀ b, b ∈ fp → ∃ i o, i ∈ k ∧ look st.hp i = some o ∧ b ∈ (env i).fp
  | [], ys, us, vc, k, hr, h, hnd, hv => by
    cases ys with
    | nil =>
      simp only [meet, Option.some.injEq, Prod.mk.injEq] at h
      obtain ⟨rfl, rfl⟩ := h
      cases us with
      | nil => exact ⟨[], rfl, Own.nil _ _, by simp⟩
      | cons _ _ => exact hr.elim
    | cons y ys => simp [meet] at h
  | x :: r, ys, us, vc, k, hr, h, hnd, hv => by
    cases us with
    | nil => exact hr.elim
    | cons u us =>
      cases ys with
      | nil => simp [meet] at h
      | cons y s =>
        simp only [meet] at h
        split at h
        · rename_i vc1 k1 vc2 k2 h1 h2
          simp only [Option.some.injEq, Prod.mk.injEq, app1_eq] at h
          obtain ⟨rfl, rfl⟩ := h
          obtain ⟨n1, n2, n3⟩ := List.nodup_append.1 hnd
          obtain ⟨f1, p1, p2, p3⟩ := meet0_ok hL g hr.1 h1 (fun q hq => hv q (List.mem_append_left _ hq))
          obtain ⟨f2, q1, q2, q3⟩ := meet_ok hL g hr.2 h2 n2 (fun q hq => hv q (List.mem_append_right _ hq))
          obtain ⟨r1, r2⟩ := own_app g hnd p2 p3 q2 q3
          exact ⟨f1 ++ f2, ⟨_, _, p1, q1, rfl⟩, r1, r2⟩
        · cases h
theorem meet1_ok (hL : zb.L = []) (g : Good ty zb st a.tmps w env) {x y : S1} {u : Value} {vc : List Prop} {k : List Nat} (hr : RS1 w st.hp env x u) (h : meet1 st x y = some (vc, k)) (hnd : k.Nodup) (hv : ∀ q, q ∈ vc → q) :
    ∃ fp, RB1 ty w zb.w.heap.size y u fp ∧ Own zb.w.heap.size w fp ∧ ∀ b, b ∈ fp → ∃ i o, i ∈ k ∧ look st.hp i = some o ∧ b ∈ (env i).fp := by
  cases x with
  | a v =>
    cases y with
    | a v' => exact meet_ok hL g (xs := [v]) (us := [u]) ⟨hr, trivial⟩ h hnd hv
    | agg _ => simp [meet1] at h
  | agg l =>
    cases y with
    | a v' => simp [meet1] at h
    | agg m =>
      obtain ⟨cs, rfl, hl⟩ := hr
      obtain ⟨fp, h1, h2, h3⟩ := meet_ok hL g hl h hnd hv
      exact ⟨fp, ⟨cs, rfl, h1⟩, h2, h3⟩
theorem meets_ok (hL : zb.L = []) (g : Good ty zb st a.tmps w env) : ∀ {xs ys : List S1} {us : List Value} {vc : List Prop} {k : List Nat}, All2 (RS1 w st.hp env) xs us → meets st xs ys = some (vc, k) → k.Nodup → (∀ q, q ∈ vc → q) →
    ∃ fp, RBl ty w zb.w.heap.size ys us fp ∧ Own zb.w.heap.size w fp ∧ ∀ b, b ∈ fp → ∃ i o, i ∈ k ∧ look st.hp i = some o ∧ b ∈ (env i).fp
  | [], ys, us, vc, k, hr, h, hnd, hv => by
    cases ys with
    | nil =>
      simp only [meets, Option.some.injEq, Prod.mk.injEq] at h
      obtain ⟨rfl, rfl⟩ := h
      cases us with
      | nil => exact ⟨[], rfl, Own.nil _ _, by simp⟩
      | cons _ _ => exact hr.elim
    | cons y ys => simp [meets] at h
  | x :: r, ys, us, vc, k, hr, h, hnd, hv => by
    cases us with
    | nil => exact hr.elim
    | cons u us =>
      cases ys with
      | nil => simp [meets] at h
      | cons y s =>
        simp only [meets] at h
        split at h
        · rename_i vc1 k1 vc2 k2 h1 h2
          simp only [Option.some.injEq, Prod.mk.injEq, app1_eq] at h
          obtain ⟨rfl, rfl⟩ := h
          obtain ⟨n1, n2, n3⟩ := List.nodup_append.1 hnd
          obtain ⟨f1, p1, p2, p3⟩ := meet1_ok hL g hr.1 h1 n1 (fun q hq => hv q (List.mem_append_left _ hq))
          obtain ⟨f2, q1, q2, q3⟩ := meets_ok hL g hr.2 h2 n2 (fun q hq => hv q (List.mem_append_right _ hq))
          obtain ⟨r1, r2⟩ := own_app g hnd p2 p3 q2 q3
          exact ⟨f1 ++ f2, ⟨_, _, p1, q1, rfl⟩, r1, r2⟩
        · cases h
theorem retvs_ok {Γ : Nat → TK} (C : ∀ t, TKok P t (Γ t)) (g : Good ty zb st a.tmps w env) {fn : Func} {rvs : List ResultVar} (hf : fn.results = rvs.toArray) {xs : List S1} (h : retvs Γ st rvs = some xs) (hl : rvs.length ≤ 4) :
    ∃ us, All2 (RS1 w st.hp env) xs us ∧ us.length = rvs.length ∧ (results fn a.tmps).run P w = .ok (match us with | [u] => u | us => .tuple us.toArray) w := by
  have one : ∀ {r : ResultVar} {rs : List ResultVar} {xs : List S1}, retvs Γ st (r :: rs) = some xs → ∃ y ys, xs = y :: ys ∧ retv Γ st r = some y ∧ retvs Γ st rs = some ys := by
    intro r rs xs h
    simp only [retvs] at h
    split at h
    · rename_i y ys h1 h2
      simp only [Option.some.injEq] at h
      exact ⟨y, ys, h.symm, h1, h2⟩
    · cases h
  have nil : ∀ {xs : List S1}, retvs Γ st [] = some xs → xs = [] := by
    intro xs h
    simp only [retvs, Option.some.injEq] at h
    exact h.symm
  match rvs, hf, h, hl with
  | [], hf, h, _ =>
    rw [nil h]
    exact ⟨[], trivial, rfl, by simp [results, hf]⟩
  | [r1], hf, h, _ =>
    obtain ⟨y1, ys, rfl, h1, h⟩ := one h
    rw [nil h]
    obtain ⟨u1, k1, e1⟩ := rv_ok C g h1
    refine ⟨[u1], ⟨k1, trivial⟩, rfl, ?_⟩
    cases r1
    · have e1 : a.tmps.getD _ undef = u1 := e1
      rw [Array.getD_eq_getD_getElem?] at e1
      simp [results, hf, asAddr, e1]
    · obtain ⟨_, p1, e1⟩ := e1
      rw [Array.getD_eq_getD_getElem?] at p1
      simp [results, hf, asAddr, e1, p1]
  | [r1, r2], hf, h, _ =>
    obtain ⟨y1, ys, rfl, h1, h⟩ := one h
    obtain ⟨y2, ys, rfl, h2, h⟩ := one h
    rw [nil h]
    obtain ⟨u1, k1, e1⟩ := rv_ok C g h1
    obtain ⟨u2, k2, e2⟩ := rv_ok C g h2
    refine ⟨[u1, u2], ⟨k1, k2, trivial⟩, rfl, ?_⟩
    cases r1 <;> cases r2
    · have e1 : a.tmps.getD _ undef = u1 := e1
      rw [Array.getD_eq_getD_getElem?] at e1
      have e2 : a.tmps.getD _ undef = u2 := e2
      rw [Array.getD_eq_getD_getElem?] at e2
      simp [results, hf, asAddr, e1, e2]
    · have e1 : a.tmps.getD _ undef = u1 := e1
      rw [Array.getD_eq_getD_getElem?] at e1
      obtain ⟨_, p2, e2⟩ := e2
      rw [Array.getD_eq_getD_getElem?] at p2
      simp [results, hf, asAddr, e1, e2, p2]
    · obtain ⟨_, p1, e1⟩ := e1
      rw [Array.getD_eq_getD_getElem?] at p1
      have e2 : a.tmps.getD _ undef = u2 := e2
      rw [Array.getD_eq_getD_getElem?] at e2
      simp [results, hf, asAddr, e1, e2, p1]
    · obtain ⟨_, p1, e1⟩ := e1
      rw [Array.getD_eq_getD_getElem?] at p1
      obtain ⟨_, p2, e2⟩ := e2
      rw [Array.getD_eq_getD_getElem?] at p2
      simp [results, hf, asAddr, e1, e2, p1, p2]
  | [r1, r2, r3], hf, h, _ =>
    obtain ⟨y1, ys, rfl, h1, h⟩ := one h
    obtain ⟨y2, ys, rfl, h2, h⟩ := one h
    obtain ⟨y3, ys, rfl, h3, h⟩ := one h
    rw [nil h]
    obtain ⟨u1, k1, e1⟩ := rv_ok C g h1
    obtain ⟨u2, k2, e2⟩ := rv_ok C g h2
    obtain ⟨u3, k3, e3⟩ := rv_ok C g h3
    refine ⟨[u1, u2, u3], ⟨k1, k2, k3, trivial⟩, rfl, ?_⟩
    cases r1 <;> cases r2 <;> cases r3
    · have e1 : a.tmps.getD _ undef = u1 := e1
      rw [Array.getD_eq_getD_getElem?] at e1
      have e2 : a.tmps.getD _ undef = u2 := e2
      rw [Array.getD_eq_getD_getElem?] at e2
      have e3 : a.tmps.getD _ undef = u3 := e3
      rw [Array.getD_eq_getD_getElem?] at e3
      simp [results, hf, asAddr, e1, e2, e3]
    · have e1 : a.tmps.getD _ undef = u1 := e1
      rw [Array.getD_eq_getD_getElem?] at e1
      have e2 : a.tmps.getD _ undef = u2 := e2
      rw [Array.getD_eq_getD_getElem?] at e2
      obtain ⟨_, p3, e3⟩ := e3
      rw [Array.getD_eq_getD_getElem?] at p3
      simp [results, hf, asAddr, e1, e2, e3, p3]
    · have e1 : a.tmps.getD _ undef = u1 := e1
      rw [Array.getD_eq_getD_getElem?] at e1
      obtain ⟨_, p2, e2⟩ := e2
      rw [Array.getD_eq_getD_getElem?] at p2
      have e3 : a.tmps.getD _ undef = u3 := e3
      rw [Array.getD_eq_getD_getElem?] at e3
      simp [results, hf, asAddr, e1, e2, e3, p2]
    · have e1 : a.tmps.getD _ undef = u1 := e1
      rw [Array.getD_eq_getD_getElem?] at e1
      obtain ⟨_, p2, e2⟩ := e2
      rw [Array.getD_eq_getD_getElem?] at p2
      obtain ⟨_, p3, e3⟩ := e3
      rw [Array.getD_eq_getD_getElem?] at p3
      simp [results, hf, asAddr, e1, e2, e3, p2, p3]
    · obtain ⟨_, p1, e1⟩ := e1
      rw [Array.getD_eq_getD_getElem?] at p1
      have e2 : a.tmps.getD _ undef = u2 := e2
      rw [Array.getD_eq_getD_getElem?] at e2
      have e3 : a.tmps.getD _ undef = u3 := e3
      rw [Array.getD_eq_getD_getElem?] at e3
      simp [results, hf, asAddr, e1, e2, e3, p1]
    · obtain ⟨_, p1, e1⟩ := e1
      rw [Array.getD_eq_getD_getElem?] at p1
      have e2 : a.tmps.getD _ undef = u2 := e2
      rw [Array.getD_eq_getD_getElem?] at e2
      obtain ⟨_, p3, e3⟩ := e3
      rw [Array.getD_eq_getD_getElem?] at p3
      simp [results, hf, asAddr, e1, e2, e3, p1, p3]
    · obtain ⟨_, p1, e1⟩ := e1
      rw [Array.getD_eq_getD_getElem?] at p1
      obtain ⟨_, p2, e2⟩ := e2
      rw [Array.getD_eq_getD_getElem?] at p2
      have e3 : a.tmps.getD _ undef = u3 := e3
      rw [Array.getD_eq_getD_getElem?] at e3
      simp [results, hf, asAddr, e1, e2, e3, p1, p2]
    · obtain ⟨_, p1, e1⟩ := e1
      rw [Array.getD_eq_getD_getElem?] at p1
      obtain ⟨_, p2, e2⟩ := e2
      rw [Array.getD_eq_getD_getElem?] at p2
      obtain ⟨_, p3, e3⟩ := e3
      rw [Array.getD_eq_getD_getElem?] at p3
      simp [results, hf, asAddr, e1, e2, e3, p1, p2, p3]
  | [r1, r2, r3, r4], hf, h, _ =>
    obtain ⟨y1, ys, rfl, h1, h⟩ := one h
    obtain ⟨y2, ys, rfl, h2, h⟩ := one h
    obtain ⟨y3, ys, rfl, h3, h⟩ := one h
    obtain ⟨y4, ys, rfl, h4, h⟩ := one h
    rw [nil h]
    obtain ⟨u1, k1, e1⟩ := rv_ok C g h1
    obtain ⟨u2, k2, e2⟩ := rv_ok C g h2
    obtain ⟨u3, k3, e3⟩ := rv_ok C g h3
    obtain ⟨u4, k4, e4⟩ := rv_ok C g h4
    refine ⟨[u1, u2, u3, u4], ⟨k1, k2, k3, k4, trivial⟩, rfl, ?_⟩
    cases r1 <;> cases r2 <;> cases r3 <;> cases r4
    · have e1 : a.tmps.getD _ undef = u1 := e1
      rw [Array.getD_eq_getD_getElem?] at e1
      have e2 : a.tmps.getD _ undef = u2 := e2
      rw [Array.getD_eq_getD_getElem?] at e2
      have e3 : a.tmps.getD _ undef = u3 := e3
      rw [Array.getD_eq_getD_getElem?] at e3
      have e4 : a.tmps.getD _ undef = u4 := e4
      rw [Array.getD_eq_getD_getElem?] at e4
      simp [results, hf, asAddr, e1, e2, e3, e4]
    · have e1 : a.tmps.getD _ undef = u1 := e1
      rw [Array.getD_eq_getD_getElem?] at e1
      have e2 : a.tmps.getD _ undef = u2 := e2
      rw [Array.getD_eq_getD_getElem?] at e2
      have e3 : a.tmps.getD _ undef = u3 := e3
      rw [Array.getD_eq_getD_getElem?] at e3
      obtain ⟨_, p4, e4⟩ := e4
      rw [Array.getD_eq_getD_getElem?] at p4
      simp [results, hf, asAddr, e1, e2, e3, e4, p4]
    · have e1 : a.tmps.getD _ undef = u1 := e1
      rw [Array.getD_eq_getD_getElem?] at e1
      have e2 : a.tmps.getD _ undef = u2 := e2
      rw [Array.getD_eq_getD_getElem?] at e2
      obtain ⟨_, p3, e3⟩ := e3
      rw [Array.getD_eq_getD_getElem?] at p3
      have e4 : a.tmps.getD _ undef = u4 := e4
      rw [Array.getD_eq_getD_getElem?] at e4
      simp [results, hf, asAddr, e1, e2, e3, e4, p3]
    · have e1 : a.tmps.getD _ undef = u1 := e1
      rw [Array.getD_eq_getD_getElem?] at e1
      have e2 : a.tmps.getD _ undef = u2 := e2
      rw [Array.getD_eq_getD_getElem?] at e2
      obtain ⟨_, p3, e3⟩ := e3
      rw [Array.getD_eq_getD_getElem?] at p3
      obtain ⟨_, p4, e4⟩ := e4
      rw [Array.getD_eq_getD_getElem?] at p4
      simp [results, hf, asAddr, e1, e2, e3, e4, p3, p4]
    · have e1 : a.tmps.getD _ undef = u1 := e1
      rw [Array.getD_eq_getD_getElem?] at e1
      obtain ⟨_, p2, e2⟩ := e2
      rw [Array.getD_eq_getD_getElem?] at p2
      have e3 : a.tmps.getD _ undef = u3 := e3
      rw [Array.getD_eq_getD_getElem?] at e3
      have e4 : a.tmps.getD _ undef = u4 := e4
      rw [Array.getD_eq_getD_getElem?] at e4
      simp [results, hf, asAddr, e1, e2, e3, e4, p2]
    · have e1 : a.tmps.getD _ undef = u1 := e1
      rw [Array.getD_eq_getD_getElem?] at e1
      obtain ⟨_, p2, e2⟩ := e2
      rw [Array.getD_eq_getD_getElem?] at p2
      have e3 : a.tmps.getD _ undef = u3 := e3
      rw [Array.getD_eq_getD_getElem?] at e3
      obtain ⟨_, p4, e4⟩ := e4
      rw [Array.getD_eq_getD_getElem?] at p4
      simp [results, hf, asAddr, e1, e2, e3, e4, p2, p4]
    · have e1 : a.tmps.getD _ undef = u1 := e1
      rw [Array.getD_eq_getD_getElem?] at e1
      obtain ⟨_, p2, e2⟩ := e2
      rw [Array.getD_eq_getD_getElem?] at p2
      obtain ⟨_, p3, e3⟩ := e3
      rw [Array.getD_eq_getD_getElem?] at p3
      have e4 : a.tmps.getD _ undef = u4 := e4
      rw [Array.getD_eq_getD_getElem?] at e4
      simp [results, hf, asAddr, e1, e2, e3, e4, p2, p3]
    · have e1 : a.tmps.getD _ undef = u1 := e1
      rw [Array.getD_eq_getD_getElem?] at e1
      obtain ⟨_, p2, e2⟩ := e2
      rw [Array.getD_eq_getD_getElem?] at p2
      obtain ⟨_, p3, e3⟩ := e3
      rw [Array.getD_eq_getD_getElem?] at p3
      obtain ⟨_, p4, e4⟩ := e4
      rw [Array.getD_eq_getD_getElem?] at p4
      simp [results, hf, asAddr, e1, e2, e3, e4, p2, p3, p4]
    · obtain ⟨_, p1, e1⟩ := e1
      rw [Array.getD_eq_getD_getElem?] at p1
      have e2 : a.tmps.getD _ undef = u2 := e2
      rw [Array.getD_eq_getD_getElem?] at e2
      have e3 : a.tmps.getD _ undef = u3 := e3
      rw [Array.getD_eq_getD_getElem?] at e3
      have e4 : a.tmps.getD _ undef = u4 := e4
      rw [Array.getD_eq_getD_getElem?] at e4
      simp [results, hf, asAddr, e1, e2, e3, e4, p1]
    · obtain ⟨_, p1, e1⟩ := e1
      rw [Array.getD_eq_getD_getElem?] at p1
      have e2 : a.tmps.getD _ undef = u2 := e2
      rw [Array.getD_eq_getD_getElem?] at e2
      have e3 : a.tmps.getD _ undef = u3 := e3
      rw [Array.getD_eq_getD_getElem?] at e3
      obtain ⟨_, p4, e4⟩ := e4
      rw [Array.getD_eq_getD_getElem?] at p4
      simp [results, hf, asAddr, e1, e2, e3, e4, p1, p4]
    · obtain ⟨_, p1, e1⟩ := e1
      rw [Array.getD_eq_getD_getElem?] at p1
      have e2 : a.tmps.getD _ undef = u2 := e2
      rw [Array.getD_eq_getD_getElem?] at e2
      obtain ⟨_, p3, e3⟩ := e3
      rw [Array.getD_eq_getD_getElem?] at p3
      have e4 : a.tmps.getD _ undef = u4 := e4
      rw [Array.getD_eq_getD_getElem?] at e4
      simp [results, hf, asAddr, e1, e2, e3, e4, p1, p3]
    · obtain ⟨_, p1, e1⟩ := e1
      rw [Array.getD_eq_getD_getElem?] at p1
      have e2 : a.tmps.getD _ undef = u2 := e2
      rw [Array.getD_eq_getD_getElem?] at e2
      obtain ⟨_, p3, e3⟩ := e3
      rw [Array.getD_eq_getD_getElem?] at p3
      obtain ⟨_, p4, e4⟩ := e4
      rw [Array.getD_eq_getD_getElem?] at p4
      simp [results, hf, asAddr, e1, e2, e3, e4, p1, p3, p4]
    · obtain ⟨_, p1, e1⟩ := e1
      rw [Array.getD_eq_getD_getElem?] at p1
      obtain ⟨_, p2, e2⟩ := e2
      rw [Array.getD_eq_getD_getElem?] at p2
      have e3 : a.tmps.getD _ undef = u3 := e3
      rw [Array.getD_eq_getD_getElem?] at e3
      have e4 : a.tmps.getD _ undef = u4 := e4
      rw [Array.getD_eq_getD_getElem?] at e4
      simp [results, hf, asAddr, e1, e2, e3, e4, p1, p2]
    · obtain ⟨_, p1, e1⟩ := e1
      rw [Array.getD_eq_getD_getElem?] at p1
      obtain ⟨_, p2, e2⟩ := e2
      rw [Array.getD_eq_getD_getElem?] at p2
      have e3 : a.tmps.getD _ undef = u3 := e3
      rw [Array.getD_eq_getD_getElem?] at e3
      obtain ⟨_, p4, e4⟩ := e4
      rw [Array.getD_eq_getD_getElem?] at p4
      simp [results, hf, asAddr, e1, e2, e3, e4, p1, p2, p4]
    · obtain ⟨_, p1, e1⟩ := e1
      rw [Array.getD_eq_getD_getElem?] at p1
      obtain ⟨_, p2, e2⟩ := e2
      rw [Array.getD_eq_getD_getElem?] at p2
      obtain ⟨_, p3, e3⟩ := e3
      rw [Array.getD_eq_getD_getElem?] at p3
      have e4 : a.tmps.getD _ undef = u4 := e4
      rw [Array.getD_eq_getD_getElem?] at e4
      simp [results, hf, asAddr, e1, e2, e3, e4, p1, p2, p3]
    · obtain ⟨_, p1, e1⟩ := e1
      rw [Array.getD_eq_getD_getElem?] at p1
      obtain ⟨_, p2, e2⟩ := e2
      rw [Array.getD_eq_getD_getElem?] at p2
      obtain ⟨_, p3, e3⟩ := e3
      rw [Array.getD_eq_getD_getElem?] at p3
      obtain ⟨_, p4, e4⟩ := e4
      rw [Array.getD_eq_getD_getElem?] at p4
      simp [results, hf, asAddr, e1, e2, e3, e4, p1, p2, p3, p4]
  | _ :: _ :: _ :: _ :: _ :: _, _, _, hl => simp at hl
end
end Go.Proofs.YthjedjndamejmaaGreat.G
namespace Go.Proofs.YthjedjndamejmaaGreat.G
set_option linter.all false
open Go.RowKit L D
variable {ty : Tag → Nat}
theorem RI.ra {w : World} {env : Env} {v : V} {u : Value} {fp : List Nat} (h : RI w v u fp) : RA w [] env v u := by
  have hno : ∀ b, ¬ Ow [] env b := by rintro b ⟨n, o, hl, _⟩; simp [look] at hl
  cases v with
  | lit x => exact ⟨h.1, h.2.1⟩
  | sl t l => exact ⟨fp, h, fun b _ => hno b⟩
  | _ => exact h.elim
theorem Arg1.rs1 {w : World} {env : Env} {x : S1} {u : Value} (h : Arg1 w x u) : RS1 w [] env x u := by
  cases x with
  | a v => obtain ⟨fp, h⟩ := h; exact h.ra
  | agg l =>
    obtain ⟨cs, fp, rfl, h⟩ := h
    exact ⟨cs, rfl, h.all2 fun b _ => by rintro ⟨n, o, hl, _⟩; simp [look] at hl⟩
theorem enter_look : ∀ {as : List S1} {i s : Nat} {v : SV}, look (enter i as) s = some v → ∃ x, v = .one x ∧ i ≤ s ∧ as[s - i]? = some x
  | x :: r, i, s, v, h => by
    by_cases hs : s = i
    · subst hs
      rw [enter, look_eq] at h
      simp only [Option.some.injEq] at h
      exact ⟨x, h.symm, Nat.le_refl _, by simp⟩
    · rw [enter, look_ne hs] at h
      obtain ⟨y, h1, h2, h3⟩ := enter_look h
      refine ⟨y, h1, by omega, ?_⟩
      rw [show s - i = (s - (i + 1)) + 1 by omega, List.getElem?_cons_succ]; exact h3
theorem entry {as : List S1} {us : List Value} {w : World} {n : Nat} (hA : Amb w) (ha : All2 (Arg1 w) as us) (hn : as.length ≤ n) :
    Inv ty ⟨w, [], fun _ => ⟨.tuple #[], []⟩⟩ ⟨n, enter 0 as, []⟩ { tmps := us.toArray ++ Array.replicate (n - us.toArray.size) undef, defers := [] } w := by
  have hl := ha.len
  refine ⟨by simp; omega, rfl, Kept.refl _ _, ⟨hA, fun _ _ h => by cases h⟩, fun _ => ⟨.tuple #[], []⟩, ⟨fun n o h => by simp [look] at h, fun n m o o' _ h => by simp [look] at h, fun s v hv => ?_, fun n o h => by simp [look] at h, fun n _ => ⟨rfl, fun b hb => hb⟩⟩⟩
  obtain ⟨x, rfl, _, hx⟩ := enter_look hv
  rw [Nat.sub_zero] at hx
  obtain ⟨u, hu, hr⟩ := ha.at hx
  have hs : s < us.length := (List.getElem?_eq_some_iff.1 hu).1
  have : (us.toArray ++ Array.replicate (n - us.toArray.size) undef).getD s undef = u := by
    rw [Array.getD_eq_getD_getElem?, Array.getElem?_append_left (by simpa using hs)]
    simp [hu]
  show RS1 w [] _ x _
  rw [this]
  exact hr.rs1
theorem Sound.of {P : Program} {Γ : Nat → TK} (X : Ctx P ty Γ) {f : FuncId} {fn : Func} {c : Code} {rvs : List ResultVar} {n : Nat} {as rs : List S1}
    (hcall : ∀ (args : Array Value) (w : World), (callFunc f args).run P w = .ok (.enter f args) w) (hf : P.funcs[f]? = some fn) (hb : fn.body = some c) (hr : fn.results = rvs.toArray) (hl : rvs.length ≤ 4) (hn : fn.ntmps = n) (hlen : as.length ≤ n)
    (h : ∀ zb, W P ty zb c (Fin Γ rvs rs) ⟨n, enter 0 as, []⟩) : Sound ty P f as rs := by
  refine ⟨hcall, fun w us hA ha => calls_of_wp hf hb ?_⟩
  rw [hn]
  refine wp_mono (h _ _ w (entry hA ha hlen)) ?_
  rintro e a w' ⟨st, iv, he, vc, hends, hv⟩
  have key : a.defers = [] ∧ ∃ v, (results fn a.tmps).run P w' = .ok v w' ∧ Ret ty w rs (.returned v) w' := by
    obtain ⟨env, g⟩ := iv.good
    unfold ends at hends
    split at hends
    · rename_i xs hx
      split at hends
      · rename_i vc1 k hm
        split at hends
        · rename_i hnd
          simp only [Option.some.injEq] at hends
          subst hends
          obtain ⟨vs, h1, h2, h3⟩ := retvs_ok X.kind g hr hx hl
          obtain ⟨fp, q1, q2, _⟩ := meets_ok rfl g h1 hm (nodupn_ok hnd) hv.out
          have hbel : Below w.heap.size w w' := ⟨iv.kept.os, iv.kept.tape, iv.kept.output, iv.kept.size, fun b hb => iv.kept.block b hb (by simp)⟩
          refine ⟨iv.defers, _, h3, _, fp, rfl, hbel, q2, ?_⟩
          match rs, vs, q1 with
          | [], [], q1 => exact ⟨[], rfl, q1⟩
          | [r], [u], ⟨f1, f2, p1, p2, e⟩ =>
            have p2 : f2 = [] := p2
            rw [p2, List.append_nil] at e
            rw [e]; exact p1
          | r1 :: r2 :: r, u1 :: u2 :: u, q1 => exact ⟨_, rfl, q1⟩
          | [], _ :: _, q1 => exact q1.elim
          | _ :: _, [], q1 => exact q1.elim
          | [r], u1 :: u2 :: u, ⟨_, _, _, p, _⟩ => exact p.elim
          | r1 :: r2 :: r, [u], ⟨_, _, _, p, _⟩ => exact p.elim
        · cases hends
      · cases hends
    · cases hends
  rcases he with rfl | rfl <;> exact key
/-! ### Calls that write what is lent to them -/
/-- The lent slices become objects, named from m on. -/
def lentV (m : Nat) : List V → List V × Hp
  | [] => ([], [])
  | .sl t l :: r => match lentV (m + 1) r with | (vs, os) => (.own m :: vs, (m, .arr t l) :: os)
  | v :: r => match lentV (m + 1) r with | (vs, os) => (v :: vs, os)
def lentS (m : Nat) : List S1 → List S1 × Hp
  | [] => ([], [])
  | .a v :: r => match lentV m [v], lentS (m + 1) r with
    | ([v'], os), (as, os') => (.a v' :: as, os ++ os')
    | _, (as, os') => (.a .any :: as, os')
  | .agg l :: r => match lentV m l, lentS (m + l.length) r with
    | (l', os), (as, os') => (.agg l' :: as, os ++ os')
/-- What has become of them. -/
def metV (st : St) (m : Nat) : List V → List V → Option (List Prop)
  | [], [] => some []
  | .sl _ _ :: r, .sl t' l' :: s => match look st.hp m, metV st (m + 1) r s with
    | some (.arr t l2), some vc => match castL t' t l2 with | some l2 => some ((l2 = l') :: vc) | none => none
    | _, _ => none
  | .lit v :: r, .lit v' :: s => match metV st (m + 1) r s with | some vc => some ((v = v') :: vc) | none => none
  | _, _ => none
def metS (st : St) (m : Nat) : List S1 → List S1 → Option (List Prop)
  | [], [] => some []
  | .a v :: r, .a v' :: s => match metV st m [v] [v'], metS st (m + 1) r s with | some x, some y => some (x ++ y) | _, _ => none
  | .agg l :: r, .agg l' :: s => match metV st m l l', metS st (m + l.length) r s with | some x, some y => some (x ++ y) | _, _ => none
  | _, _ => none
def endsM (Γ : Nat → TK) (st : St) (rv : ResultVar) (as as' : List S1) (v : Value) : Option (List Prop) :=
  match retv Γ st rv, metS st 1000 as as' with
  | some (.a (.lit v')), some vc => some ((v' = v) :: vc)
  | _, _ => none
def FinM (Γ : Nat → TK) (rv : ResultVar) (as as' : List S1) (v : Value) : Post := fun e st => (e = .ret ∨ e = .normal) ∧ ∃ vc, endsM Γ st rv as as' v = some vc ∧ AllP vc
theorem FinM.ret {Γ : Nat → TK} {rv : ResultVar} {as as' : List S1} {v : Value} {st : St} {vc : List Prop} (h : endsM Γ st rv as as' v = some vc) (hv : AllP vc) : FinM Γ rv as as' v .ret st := ⟨.inl rfl, vc, h, hv⟩
/-- Where the lent objects lie. -/
def seats (m : Nat) : List Value → List (List Nat) → List (Nat × CO)
  | u :: us, f :: fs => (m, ⟨u, f⟩) :: seats (m + 1) us fs
  | _, _ => []
theorem seats_at : ∀ {us : List Value} {fs : List (List Nat)} {m i : Nat} {u : Value} {f : List Nat}, us[i]? = some u → fs[i]? = some f → look (seats m us fs) (m + i) = some ⟨u, f⟩
  | u :: us, f :: fs, m, 0, u', f', h1, h2 => by
    simp at h1 h2
    subst h1; subst h2
    rw [seats]; exact look_eq
  | u :: us, f :: fs, m, i + 1, u', f', h1, h2 => by
    rw [seats, look_ne (by omega), show m + (i + 1) = (m + 1) + i by omega]
    exact seats_at (by simpa using h1) (by simpa using h2)
  | [], _, _, _, _, _, h1, _ => by simp at h1
  | _ :: _, [], _, _, _, _, _, h2 => by simp at h2
/-- A lent cell, as the callee has it. -/
theorem lentV_ok {w : World} : ∀ {vs : List V} {us : List Value} {fps : List (List Nat)} (m : Nat), RF w vs us fps → (∀ n o, look (lentV m vs).2 n = some o → ∃ t l u f, o = .arr t l ∧ m ≤ n ∧ n < m + vs.length ∧ us[n - m]? = some u ∧ fps[n - m]? = some f ∧ vs[n - m]? = some (.sl t l) ∧ Sl (kk t) (rd t) w u l f) ∧
    ∀ hp env, (∀ n o, look (lentV m vs).2 n = some o → look hp n = some o) → (∀ i u f, us[i]? = some u → fps[i]? = some f → env (m + i) = ⟨u, f⟩) → All2 (RA w hp env) (lentV m vs).1 us
  | [], [], _, m, h => ⟨fun n o hl => by simp [lentV, look] at hl, fun _ _ _ _ => trivial⟩
  | v :: vs, u :: us, fps, m, ⟨f, fr, h1, h2, e⟩ => by
    subst e
    obtain ⟨q1, q2⟩ := lentV_ok (m + 1) h2
    have up : ∀ n o, (∃ t l u' f', o = Obj.arr t l ∧ m + 1 ≤ n ∧ n < m + 1 + vs.length ∧ us[n - (m + 1)]? = some u' ∧ fr[n - (m + 1)]? = some f' ∧ vs[n - (m + 1)]? = some (.sl t l) ∧ Sl (kk t) (rd t) w u' l f') →
        ∃ t l u' f', o = Obj.arr t l ∧ m ≤ n ∧ n < m + (v :: vs).length ∧ (u :: us)[n - m]? = some u' ∧ (f :: fr)[n - m]? = some f' ∧ (v :: vs)[n - m]? = some (.sl t l) ∧ Sl (kk t) (rd t) w u' l f' := by
      rintro n o ⟨t, l, u', f', k1, k2, k3, k4, k5, k6, k7⟩
      have e : n - m = (n - (m + 1)) + 1 := by omega
      exact ⟨t, l, u', f', k1, by omega, by simp; omega, by rw [e]; simpa using k4, by rw [e]; simpa using k5, by rw [e]; simpa using k6, k7⟩
    cases v with
    | sl t l =>
      refine ⟨fun n o hl => ?_, fun hp env hh he => ⟨?_, q2 hp env (fun n o hl => hh n o ?_) (fun i u' f' hu hf => ?_)⟩⟩
      · by_cases hn : n = m
        · subst hn
          simp only [lentV] at hl
          rw [look_eq] at hl
          simp only [Option.some.injEq] at hl
          exact ⟨t, l, u, f, hl.symm, Nat.le_refl _, by simp, by simp, by simp, by simp, h1⟩
        · simp only [lentV] at hl
          rw [look_ne hn] at hl
          exact up n o (q1 n o hl)
      · refine ⟨⟨t, l, hh m _ ?_⟩, ?_⟩
        · simp only [lentV]; exact look_eq
        · have := he 0 u f (by simp) (by simp)
          rw [Nat.add_zero] at this
          rw [this]
      · have hge := (q1 n o hl)
        obtain ⟨_, _, _, _, _, hge, _⟩ := hge
        simp only [lentV]
        rw [look_ne (by omega)]; exact hl
      · have := he (i + 1) u' f' (by simpa using hu) (by simpa using hf)
        rwa [show m + (i + 1) = m + 1 + i by omega] at this
    | lit x =>
      refine ⟨fun n o hl => up n o (q1 n o hl), fun hp env hh he => ⟨⟨h1.1, h1.2.1⟩, q2 hp env hh (fun i u' f' hu hf => ?_)⟩⟩
      have := he (i + 1) u' f' (by simpa using hu) (by simpa using hf)
      rwa [show m + (i + 1) = m + 1 + i by omega] at this
    | _ => exact h1.elim
  | [], _ :: _, _, _, h => h.elim
  | _ :: _, [], _, _, h => h.elim
theorem RF.len {w : World} : ∀ {vs : List V} {us : List Value} {fps : List (List Nat)}, RF w vs us fps → us.length = vs.length ∧ fps.length = vs.length
  | [], [], _, h => by rw [show _ = _ from h]; exact ⟨rfl, rfl⟩
  | _ :: _, _ :: _, _, ⟨_, _, _, h, e⟩ => by obtain ⟨h1, h2⟩ := RF.len h; rw [e]; exact ⟨by simp [h1], by simp [h2]⟩
  | [], _ :: _, _, h => h.elim
  | _ :: _, [], _, h => h.elim
theorem lentV_len : ∀ {vs : List V} (m : Nat), (lentV m vs).1.length = vs.length
  | [], _ => rfl
  | v :: r, m => by
    have := lentV_len (vs := r) (m + 1)
    cases v <;> simp [lentV, this]
theorem lentS_ok {w : World} : ∀ {as : List S1} {us : List Value} {fps : List (List Nat)} (m : Nat), ArgsF w as us fps →
    (∀ n o, look (lentS m as).2 n = some o → ∃ t l u f, o = .arr t l ∧ m ≤ n ∧ (us.flatMap fun u => u.cells.toList)[n - m]? = some u ∧ fps[n - m]? = some f ∧ Sl (kk t) (rd t) w u l f) ∧
    ∀ hp env, (∀ n o, look (lentS m as).2 n = some o → look hp n = some o) → (∀ i u f, (us.flatMap fun u => u.cells.toList)[i]? = some u → fps[i]? = some f → env (m + i) = ⟨u, f⟩) → All2 (RS1 w hp env) (lentS m as).1 us
  | [], [], fps, m, h => ⟨fun n o hl => by simp [lentS, look] at hl, fun _ _ _ _ => trivial⟩
  | .a v :: as, u :: us, fps, m, ⟨f, g, h1, h2, e⟩ => by
    subst e
    have hc : u.cells.toList = [u] := by rw [h1.cells]
    obtain ⟨p1, p2⟩ := lentV_ok m (show RF w [v] [u] [f] from ⟨f, [], h1, rfl, rfl⟩)
    obtain ⟨q1, q2⟩ := lentS_ok (m + 1) h2
    have hl1 := lentV_len (vs := [v]) m
    rw [List.flatMap_cons, hc]
    simp only [lentS]
    generalize lentV m [v] = x at p1 p2 hl1 ⊢
    obtain ⟨xs, os⟩ := x
    match xs, hl1 with
    | [v'], _ =>
      have up : ∀ n o, look (lentS (m + 1) as).2 n = some o → look os n = none := by
        intro n o hl
        cases hq : look os n with
        | none => rfl
        | some o' =>
          obtain ⟨_, _, _, _, _, k1, _⟩ := q1 n o hl
          obtain ⟨_, _, _, _, _, _, k2, _⟩ := p1 n o' hq
          simp at k2; omega
      refine ⟨fun n o hl => ?_, fun hp env hh he => ⟨?_, q2 hp env (fun n o hl => hh n o (by
          show look (os ++ (lentS (m + 1) as).2) n = some o
          rw [look_app_none (up n o hl)]; exact hl)) fun i u' f' hu hf => ?_⟩⟩
      · have hl : look (os ++ (lentS (m + 1) as).2) n = some o := hl
        cases hq : look os n with
        | some o' =>
          rw [look_app_some hq] at hl
          simp only [Option.some.injEq] at hl
          subst hl
          obtain ⟨t, l, u', f', k1, k2, k3, k4, k5, k6, k7⟩ := p1 n _ hq
          have h0 : n - m = 0 := by simp at k3; omega
          rw [h0] at k4 k5 ⊢
          simp at k4 k5
          subst k4; subst k5
          exact ⟨t, l, u, f, k1, k2, by simp, by simp, k7⟩
        | none =>
          rw [look_app_none hq] at hl
          obtain ⟨t, l, u', f', k1, k2, k3, k4, k5⟩ := q1 n o hl
          have e : n - m = (n - (m + 1)) + 1 := by omega
          exact ⟨t, l, u', f', k1, by omega, by rw [e]; simpa using k3, by rw [e]; simpa using k4, k5⟩
      · have := p2 hp env (fun n o hl => hh n o (look_app_some hl)) (fun i u' f' hu hf => by
          match i with
          | 0 => exact he 0 u' f' (by simpa using hu) (by simpa using hf)
          | i + 1 => simp at hu)
        exact this.1
      · have := he (i + 1) u' f' (by simpa using hu) (by simpa using hf)
        rwa [show m + (i + 1) = m + 1 + i by omega] at this
  | .agg l :: as, u :: us, fps, m, ⟨cs, f, g, e1, h1, h2, e⟩ => by
    subst e; subst e1
    have hc : (Value.agg cs.toArray).cells.toList = cs := by simp [Value.cells]
    obtain ⟨p1, p2⟩ := lentV_ok m h1
    obtain ⟨q1, q2⟩ := lentS_ok (m + l.length) h2
    obtain ⟨n1, n2⟩ := RF.len h1
    rw [List.flatMap_cons, hc]
    have up : ∀ n o, look (lentS (m + l.length) as).2 n = some o → look (lentV m l).2 n = none := by
      intro n o hl
      cases hq : look (lentV m l).2 n with
      | none => rfl
      | some o' =>
        obtain ⟨_, _, _, _, _, k1, _⟩ := q1 n o hl
        obtain ⟨_, _, _, _, _, _, k2, _⟩ := p1 n o' hq
        omega
    refine ⟨fun n o hl => ?_, fun hp env hh he => ⟨⟨cs, rfl, ?_⟩, q2 hp env (fun n o hl => hh n o (by
        show look ((lentV m l).2 ++ (lentS (m + l.length) as).2) n = some o
        rw [look_app_none (up n o hl)]; exact hl)) fun i u' f' hu hf => ?_⟩⟩
    · have hl : look ((lentV m l).2 ++ (lentS (m + l.length) as).2) n = some o := hl
      cases hq : look (lentV m l).2 n with
      | some o' =>
        rw [look_app_some hq] at hl
        simp only [Option.some.injEq] at hl
        subst hl
        obtain ⟨t, l', u', f', k1, k2, k3, k4, k5, k6, k7⟩ := p1 n _ hq
        exact ⟨t, l', u', f', k1, k2, by rw [List.getElem?_append_left (by omega)]; exact k4, by rw [List.getElem?_append_left (by omega)]; exact k5, k7⟩
      | none =>
        rw [look_app_none hq] at hl
        obtain ⟨t, l', u', f', k1, k2, k3, k4, k5⟩ := q1 n o hl
        have e : n - m - l.length = n - (m + l.length) := by omega
        exact ⟨t, l', u', f', k1, by omega, by rw [List.getElem?_append_right (by omega), n1, e]; exact k3, by rw [List.getElem?_append_right (by omega), n2, e]; exact k4, k5⟩
    · exact p2 hp env (fun n o hl => hh n o (look_app_some hl)) (fun i u' f' hu hf => he i u' f'
        (by rw [List.getElem?_append_left (List.getElem?_eq_some_iff.1 hu).1]; exact hu)
        (by rw [List.getElem?_append_left (List.getElem?_eq_some_iff.1 hf).1]; exact hf))
    · have := he (l.length + i) u' f' (by rw [List.getElem?_append_right (by omega), n1, show l.length + i - l.length = i by omega]; exact hu)
        (by rw [List.getElem?_append_right (by omega), n2, show l.length + i - l.length = i by omega]; exact hf)
      rwa [show m + (l.length + i) = m + l.length + i by omega] at this
  | [], _ :: _, _, _, h => h.elim
  | .a _ :: _, [], _, _, h => h.elim
  | .agg _ :: _, [], _, _, h => h.elim
theorem SubF.nodup : ∀ {fs gs : List (List Nat)}, SubF fs gs → gs.flatten.Nodup → (∀ f, f ∈ fs → f.Nodup) → fs.flatten.Nodup ∧ ∀ b, b ∈ fs.flatten → b ∈ gs.flatten
  | [], [], _, _, _ => ⟨by simp, by simp⟩
  | f :: fs, g :: gs, ⟨h1, h2⟩, hn, hf => by
    rw [List.flatten_cons] at hn
    obtain ⟨_, n2, n3⟩ := List.nodup_append.1 hn
    obtain ⟨q1, q2⟩ := SubF.nodup h2 n2 (fun f hm => hf f (List.mem_cons_of_mem _ hm))
    refine ⟨?_, fun b hb => ?_⟩
    · rw [List.flatten_cons]
      exact List.nodup_append.2 ⟨hf f (by simp), q1, fun b hb c hc e => n3 b (h1 b hb) c (q2 c hc) e⟩
    · rw [List.flatten_cons] at hb ⊢
      rcases List.mem_append.1 hb with hb | hb
      · exact List.mem_append_left _ (h1 b hb)
      · exact List.mem_append_right _ (q2 b hb)
  | [], _ :: _, h, _, _ => h.elim
  | _ :: _, [], h, _, _ => h.elim
theorem SubF.app : ∀ {a b c d : List (List Nat)}, SubF a b → SubF c d → SubF (a ++ c) (b ++ d)
  | [], [], _, _, _, h => h
  | _ :: _, _ :: _, _, _, ⟨h1, h2⟩, h => ⟨h1, SubF.app h2 h⟩
  | [], _ :: _, _, _, h, _ => h.elim
  | _ :: _, [], _, _, h, _ => h.elim
section
variable {zb : Base} {st : St} {tmps : Array Value} {w0 w : World} {env : Env}
theorem metV_ok (g : Good ty zb st tmps w env) : ∀ {vs vs' : List V} {us : List Value} {fps : List (List Nat)} {vc : List Prop} (m : Nat), pin m = true → metV st m vs vs' = some vc → (∀ q, q ∈ vc → q) → RF w0 vs us fps →
    (∀ i u f, us[i]? = some u → fps[i]? = some f → zb.pv (m + i) = ⟨u, f⟩) → ∃ fps', RF w vs' us fps' ∧ SubF fps' fps ∧ ∀ f, f ∈ fps' → Own 0 w f
  | [], [], [], fps, vc, m, _, _, _, h, _ => ⟨[], rfl, by rw [show fps = [] from h]; trivial, by simp⟩
  | .sl t l :: r, .sl t' l' :: s, u :: us, fps, vc, m, hm, hh, hv, ⟨f, fr, h1, h2, e⟩, hz => by
    subst e
    simp only [metV] at hh
    split at hh
    · rename_i t2 l2 vcs hl hr
      split at hh
      · rename_i l3 hc
        simp only [Option.some.injEq] at hh
        subst hh
        obtain ⟨e, rfl⟩ := castL_ok hc
        subst e
        have e2 : l2 = l' := hv _ (by simp)
        subst e2
        obtain ⟨fps', q1, q2, q3⟩ := metV_ok g (m + 1) (by unfold pin at hm ⊢; exact Nat.ble_eq_true_of_le (Nat.le_succ_of_le (Nat.le_of_ble_eq_true hm))) hr (fun q hq => hv q (List.mem_cons_of_mem _ hq)) h2 (fun i u' f' hu hf => by
          have := hz (i + 1) u' f' (by simpa using hu) (by simpa using hf)
          rwa [show m + (i + 1) = m + 1 + i by omega] at this)
        have hp := hz 0 u f (by simp) (by simp)
        rw [Nat.add_zero] at hp
        obtain ⟨k1, k2⟩ := g.pins m hm
        rw [hp] at k1 k2
        have hro := g.obj m _ hl
        refine ⟨(env m).fp :: fps', ⟨_, _, ?_, q1, rfl⟩, ⟨k2, q2⟩, ?_⟩
        · have := RO.sl hro
          rw [k1] at this
          exact this
        · intro f' hf'
          rcases List.mem_cons.1 hf' with rfl | hf'
          · exact RO.own hro
          · exact q3 f' hf'
      · cases hh
    · cases hh
  | .lit x :: r, .lit x' :: s, u :: us, fps, vc, m, hm, hh, hv, ⟨f, fr, h1, h2, e⟩, hz => by
    subst e
    simp only [metV] at hh
    split at hh
    · rename_i vcs hr
      simp only [Option.some.injEq] at hh
      subst hh
      have e2 : x = x' := hv _ (by simp)
      subst e2
      obtain ⟨fps', q1, q2, q3⟩ := metV_ok g (m + 1) (by unfold pin at hm ⊢; exact Nat.ble_eq_true_of_le (Nat.le_succ_of_le (Nat.le_of_ble_eq_true hm))) hr (fun q hq => hv q (List.mem_cons_of_mem _ hq)) h2 (fun i u' f' hu hf => by
        have := hz (i + 1) u' f' (by simpa using hu) (by simpa using hf)
        rwa [show m + (i + 1) = m + 1 + i by omega] at this)
      refine ⟨[] :: fps', ⟨_, _, ⟨h1.1, h1.2.1, rfl⟩, q1, rfl⟩, ⟨by simp, q2⟩, ?_⟩
      intro f' hf'
      rcases List.mem_cons.1 hf' with rfl | hf'
      · exact Own.nil _ _
      · exact q3 f' hf'
    · cases hh
  | [], _ :: _, _, _, _, _, _, hh, _, _, _ => by simp [metV] at hh
  | .sl _ _ :: _, [], _, _, _, _, _, hh, _, _, _ => by simp [metV] at hh
  | .sl _ _ :: _, .lit _ :: _, _, _, _, _, _, hh, _, _, _ => by simp [metV] at hh
  | .sl _ _ :: _, .any :: _, _, _, _, _, _, hh, _, _, _ => by simp [metV] at hh
  | .sl _ _ :: _, .own _ :: _, _, _, _, _, _, hh, _, _, _ => by simp [metV] at hh
  | .sl _ _ :: _, .ptr _ _ :: _, _, _, _, _, _, hh, _, _, _ => by simp [metV] at hh
  | .sl _ _ :: _, .eptr _ _ _ :: _, _, _, _, _, _, hh, _, _, _ => by simp [metV] at hh
  | .sl _ _ :: _, .ip _ _ _ :: _, _, _, _, _, _, hh, _, _, _ => by simp [metV] at hh
  | .sl _ _ :: _, .vw _ _ _ _ :: _, _, _, _, _, _, hh, _, _, _ => by simp [metV] at hh
  | .sl _ _ :: _, .vip _ _ _ _ _ :: _, _, _, _, _, _, hh, _, _, _ => by simp [metV] at hh
  | .sl _ _ :: _, .bsl _ _ _ :: _, _, _, _, _, _, hh, _, _, _ => by simp [metV] at hh
  | .sl _ _ :: _, .fnp _ _ :: _, _, _, _, _, _, hh, _, _, _ => by simp [metV] at hh
  | .sl _ _ :: _, .husk _ :: _, _, _, _, _, _, hh, _, _, _ => by simp [metV] at hh
  | .lit _ :: _, [], _, _, _, _, _, hh, _, _, _ => by simp [metV] at hh
  | .lit _ :: _, .sl _ _ :: _, _, _, _, _, _, hh, _, _, _ => by simp [metV] at hh
  | .lit _ :: _, .any :: _, _, _, _, _, _, hh, _, _, _ => by simp [metV] at hh
  | .lit _ :: _, .own _ :: _, _, _, _, _, _, hh, _, _, _ => by simp [metV] at hh
  | .lit _ :: _, .ptr _ _ :: _, _, _, _, _, _, hh, _, _, _ => by simp [metV] at hh
  | .lit _ :: _, .eptr _ _ _ :: _, _, _, _, _, _, hh, _, _, _ => by simp [metV] at hh
  | .lit _ :: _, .ip _ _ _ :: _, _, _, _, _, _, hh, _, _, _ => by simp [metV] at hh
  | .lit _ :: _, .vw _ _ _ _ :: _, _, _, _, _, _, hh, _, _, _ => by simp [metV] at hh
  | .lit _ :: _, .vip _ _ _ _ _ :: _, _, _, _, _, _, hh, _, _, _ => by simp [metV] at hh
  | .lit _ :: _, .bsl _ _ _ :: _, _, _, _, _, _, hh, _, _, _ => by simp [metV] at hh
  | .lit _ :: _, .fnp _ _ :: _, _, _, _, _, _, hh, _, _, _ => by simp [metV] at hh
  | .lit _ :: _, .husk _ :: _, _, _, _, _, _, hh, _, _, _ => by simp [metV] at hh
  | .any :: _, _, _, _, _, _, _, hh, _, _, _ => by simp [metV] at hh
  | .own _ :: _, _, _, _, _, _, _, hh, _, _, _ => by simp [metV] at hh
  | .ptr _ _ :: _, _, _, _, _, _, _, hh, _, _, _ => by simp [metV] at hh
  | .eptr _ _ _ :: _, _, _, _, _, _, _, hh, _, _, _ => by simp [metV] at hh
  | .ip _ _ _ :: _, _, _, _, _, _, _, hh, _, _, _ => by simp [metV] at hh
  | .vw _ _ _ _ :: _, _, _, _, _, _, _, hh, _, _, _ => by simp [metV] at hh
  | .vip _ _ _ _ _ :: _, _, _, _, _, _, _, hh, _, _, _ => by simp [metV] at hh
  | .bsl _ _ _ :: _, _, _, _, _, _, _, hh, _, _, _ => by simp [metV] at hh
  | .fnp _ _ :: _, _, _, _, _, _, _, hh, _, _, _ => by simp [metV] at hh
  | .husk _ :: _, _, _, _, _, _, _, hh, _, _, _ => by simp [metV] at hh
  | _ :: _, _, [], _, _, _, _, _, _, h, _ => h.elim
  | [], [], _ :: _, _, _, _, _, _, _, h, _ => h.elim
theorem RF.one {w : World} {v : V} {u : Value} {fps : List (List Nat)} (h : RF w [v] [u] fps) : ∃ f, RI w v u f ∧ fps = [f] := by
  obtain ⟨f, g, h1, h2, h3⟩ := h
  exact ⟨f, h1, by rw [h3, show g = [] from h2]⟩
theorem metS_ok (g : Good ty zb st tmps w env) : ∀ {as as' : List S1} {us : List Value} {fps : List (List Nat)} {vc : List Prop} (m : Nat), pin m = true → metS st m as as' = some vc → (∀ q, q ∈ vc → q) → ArgsF w0 as us fps →
    (∀ i u f, (us.flatMap fun u => u.cells.toList)[i]? = some u → fps[i]? = some f → zb.pv (m + i) = ⟨u, f⟩) → ∃ fps', ArgsF w as' us fps' ∧ SubF fps' fps ∧ ∀ f, f ∈ fps' → Own 0 w f
  | [], [], [], fps, vc, m, _, _, _, h, _ => ⟨[], rfl, by rw [show fps = [] from h]; trivial, by simp⟩
  | .a v :: r, .a v' :: s, u :: us, fps, vc, m, hm, hh, hv, ⟨f, fr, h1, h2, e⟩, hz => by
    subst e
    have hc : u.cells.toList = [u] := by rw [h1.cells]
    rw [List.flatMap_cons, hc] at hz
    simp only [metS] at hh
    split at hh
    · rename_i x y hx hy
      simp only [Option.some.injEq] at hh
      subst hh
      obtain ⟨f1, p1, p2, p3⟩ := metV_ok g m hm hx (fun q hq => hv q (List.mem_append_left _ hq)) (show RF w0 [v] [u] [f] from ⟨f, [], h1, rfl, rfl⟩) (fun i u' f' hu hf => by
        match i with
        | 0 => exact hz 0 u' f' (by simpa using hu) (by simpa using hf)
        | i + 1 => simp at hu)
      obtain ⟨f2, rfl⟩ : ∃ f2, f1 = [f2] := by obtain ⟨f2, _, h⟩ := RF.one p1; exact ⟨f2, h⟩
      obtain ⟨f3, p4, p5⟩ := RF.one p1
      simp only [List.cons.injEq, and_true] at p5
      subst p5
      obtain ⟨fps', q1, q2, q3⟩ := metS_ok g (m + 1) (by unfold pin at hm ⊢; exact Nat.ble_eq_true_of_le (Nat.le_succ_of_le (Nat.le_of_ble_eq_true hm))) hy (fun q hq => hv q (List.mem_append_right _ hq)) h2 (fun i u' f' hu hf => by
        have := hz (i + 1) u' f' (by simpa using hu) (by simpa using hf)
        rwa [show m + (i + 1) = m + 1 + i by omega] at this)
      refine ⟨f2 :: fps', ⟨_, _, p4, q1, rfl⟩, ⟨p2.1, q2⟩, ?_⟩
      intro f' hf'
      rcases List.mem_cons.1 hf' with rfl | hf'
      · exact p3 _ (by simp)
      · exact q3 f' hf'
    · cases hh
  | .agg l :: r, .agg l' :: s, u :: us, fps, vc, m, hm, hh, hv, ⟨cs, f, fr, e1, h1, h2, e⟩, hz => by
    subst e; subst e1
    have hc : (Value.agg cs.toArray).cells.toList = cs := by simp [Value.cells]
    obtain ⟨n1, n2⟩ := RF.len h1
    rw [List.flatMap_cons, hc] at hz
    simp only [metS] at hh
    split at hh
    · rename_i x y hx hy
      simp only [Option.some.injEq] at hh
      subst hh
      obtain ⟨f1, p1, p2, p3⟩ := metV_ok g m hm hx (fun q hq => hv q (List.mem_append_left _ hq)) h1 (fun i u' f' hu hf => hz i u' f'
        (by rw [List.getElem?_append_left (List.getElem?_eq_some_iff.1 hu).1]; exact hu)
        (by rw [List.getElem?_append_left (List.getElem?_eq_some_iff.1 hf).1]; exact hf))
      obtain ⟨fps', q1, q2, q3⟩ := metS_ok g (m + l.length) (by unfold pin at hm ⊢; exact Nat.ble_eq_true_of_le (Nat.le_trans (Nat.le_of_ble_eq_true hm) (Nat.le_add_right _ _))) hy (fun q hq => hv q (List.mem_append_right _ hq)) h2 (fun i u' f' hu hf => by
        have := hz (l.length + i) u' f' (by rw [List.getElem?_append_right (by omega), n1, show l.length + i - l.length = i by omega]; exact hu)
          (by rw [List.getElem?_append_right (by omega), n2, show l.length + i - l.length = i by omega]; exact hf)
        rwa [show m + (l.length + i) = m + l.length + i by omega] at this)
      refine ⟨f1 ++ fps', ⟨cs, f1, fps', rfl, p1, q1, rfl⟩, SubF.app p2 q2, ?_⟩
      intro f' hf'
      rcases List.mem_append.1 hf' with hf' | hf'
      · exact p3 _ hf'
      · exact q3 f' hf'
    · cases hh
  | [], _ :: _, _, _, _, _, _, hh, _, _, _ => by simp [metS] at hh
  | .a _ :: _, [], _, _, _, _, _, hh, _, _, _ => by simp [metS] at hh
  | .agg _ :: _, [], _, _, _, _, _, hh, _, _, _ => by simp [metS] at hh
  | .a _ :: _, .agg _ :: _, _, _, _, _, _, hh, _, _, _ => by simp [metS] at hh
  | .agg _ :: _, .a _ :: _, _, _, _, _, _, hh, _, _, _ => by simp [metS] at hh
  | .a _ :: _, _, [], _, _, _, _, _, _, h, _ => h.elim
  | .agg _ :: _, _, [], _, _, _, _, _, _, h, _ => h.elim
  | [], [], _ :: _, _, _, _, _, _, _, h, _ => h.elim
end
theorem lentS_len : ∀ {as : List S1} (m : Nat), (lentS m as).1.length = as.length
  | [], _ => rfl
  | .a v :: r, m => by
    have := lentS_len (as := r) (m + 1)
    have h2 := lentV_len (vs := [v]) m
    simp only [lentS]
    generalize lentV m [v] = x at h2 ⊢
    obtain ⟨xs, os⟩ := x
    match xs, h2 with
    | [v'], _ => simp [this]
  | .agg l :: r, m => by
    have := lentS_len (as := r) (m + l.length)
    simp [lentS, this]
theorem fps_ne {fps : List (List Nat)} (h : fps.flatten.Nodup) {i j : Nat} {f f' : List Nat} (hi : fps[i]? = some f) (hj : fps[j]? = some f') (hne : i ≠ j) : ∀ b, b ∈ f → b ∉ f' := by
  induction fps generalizing i j with
  | nil => simp at hi
  | cons g r ih =>
    rw [List.flatten_cons] at h
    obtain ⟨_, n2, n3⟩ := List.nodup_append.1 h
    intro b hb hb'
    cases i with
    | zero =>
      cases j with
      | zero => exact hne rfl
      | succ j =>
        simp at hi hj
        subst hi
        exact n3 b hb b (List.mem_flatten.2 ⟨f', List.mem_of_getElem? hj, hb'⟩) rfl
    | succ i =>
      cases j with
      | zero =>
        simp at hi hj
        subst hj
        exact n3 b hb' b (List.mem_flatten.2 ⟨f, List.mem_of_getElem? hi, hb⟩) rfl
      | succ j => exact ih n2 (by simpa using hi) (by simpa using hj) (by omega) b hb hb'
def pvOf (us : List Value) (fps : List (List Nat)) : Nat → CO := fun n => match look (seats 1000 (us.flatMap fun u => u.cells.toList) fps) n with | some c => c | none => ⟨.tuple #[], []⟩
theorem entryM {as : List S1} {us : List Value} {fps : List (List Nat)} {w : World} {n : Nat} (hA : Amb w) (hL : ∀ b, Amb0 b → b ∉ fps.flatten) (ha : ArgsF w as us fps) (ho : Own 0 w fps.flatten) (hn : as.length ≤ n) :
    Inv ty ⟨w, fps.flatten, pvOf us fps⟩ ⟨n, enter 0 (lentS 1000 as).1, (lentS 1000 as).2⟩ { tmps := us.toArray ++ Array.replicate (n - us.toArray.size) undef, defers := [] } w := by
  obtain ⟨q1, q2⟩ := lentS_ok 1000 ha
  have hpv : ∀ i u f, (us.flatMap fun u => u.cells.toList)[i]? = some u → fps[i]? = some f → pvOf us fps (1000 + i) = ⟨u, f⟩ := by
    intro i u f hu hf
    unfold pvOf
    rw [seats_at hu hf]
  have hall := q2 (lentS 1000 as).2 (pvOf us fps) (fun _ _ h => h) hpv
  have hl := hall.len
  rw [lentS_len] at hl
  have hobj : ∀ m o, look (lentS 1000 as).2 m = some o → ∃ t l f, o = .arr t l ∧ 1000 ≤ m ∧ fps[m - 1000]? = some f ∧ (pvOf us fps m).fp = f ∧ Sl (kk t) (rd t) w (pvOf us fps m).v l f := by
    intro m o hm
    obtain ⟨t, l, u, f, k1, k2, k3, k4, k5⟩ := q1 m o hm
    have h := hpv _ _ _ k3 k4
    rw [show 1000 + (m - 1000) = m by omega] at h
    refine ⟨t, l, f, k1, k2, k4, by rw [h], by rw [h]; exact k5⟩
  refine ⟨by simp; omega, rfl, Kept.refl _ _, ⟨hA, hL⟩, pvOf us fps, ⟨?_, ?_, ?_, ?_, fun n _ => ⟨rfl, fun b hb => hb⟩⟩⟩
  · intro m o hm
    obtain ⟨t, l, f, rfl, k2, k3, k4, k5⟩ := hobj m o hm
    have hp : pin m = true := by unfold pin; exact Nat.ble_eq_true_of_le k2
    show RArr ty w m t l _
    unfold RArr
    rw [pin_soft hp]
    refine ⟨by rw [k4]; exact k5, ?_⟩
    rw [k4]
    have hmem := List.mem_of_getElem? k3
    exact ⟨(List.pairwise_flatten.1 ho.nodup).1 f hmem, fun _ _ => Nat.zero_le _, fun b hb => ho.kind b (List.mem_flatten.2 ⟨f, hmem, hb⟩)⟩
  · intro m m' o o' hne hm hm' b hb hb'
    obtain ⟨t, l, f, _, k2, k3, k4, _⟩ := hobj m o hm
    obtain ⟨t', l', f', _, k2', k3', k4', _⟩ := hobj m' o' hm'
    rw [k4] at hb
    rw [k4'] at hb'
    exact fps_ne ho.nodup k3 k3' (by omega) b hb hb'
  · intro s v hv
    obtain ⟨x, rfl, _, hx⟩ := enter_look hv
    rw [Nat.sub_zero] at hx
    obtain ⟨u, hu, hr⟩ := hall.at hx
    have hs : s < us.length := (List.getElem?_eq_some_iff.1 hu).1
    have : (us.toArray ++ Array.replicate (n - us.toArray.size) undef).getD s undef = u := by
      rw [Array.getD_eq_getD_getElem?, Array.getElem?_append_left (by simpa using hs)]
      simp [hu]
    show RS1 w _ _ x _
    rw [this]
    exact hr
  · intro m o hm b hb
    obtain ⟨t, l, f, _, k2, k3, k4, _⟩ := hobj m o hm
    rw [k4] at hb
    exact Or.inl (List.mem_flatten.2 ⟨f, List.mem_of_getElem? k3, hb⟩)
theorem SoundM.of {P : Program} {Γ : Nat → TK} (X : Ctx P ty Γ) {f : FuncId} {fn : Func} {c : Code} {rv : ResultVar} {n : Nat} {as as' : List S1} {v : Value}
    (hcall : ∀ (args : Array Value) (w : World), (callFunc f args).run P w = .ok (.enter f args) w) (hf : P.funcs[f]? = some fn) (hb : fn.body = some c) (hr : fn.results = [rv].toArray) (hn : fn.ntmps = n) (hlen : as.length ≤ n)
    (h : ∀ zb, W P ty zb c (FinM Γ rv as as' v) ⟨n, enter 0 (lentS 1000 as).1, (lentS 1000 as).2⟩) : SoundM P f as as' v := by
  refine ⟨hcall, fun w us fps hA hL ha ho => calls_of_wp hf hb ?_⟩
  rw [hn]
  refine wp_mono (h _ _ w (entryM (ty := ty) hA hL ha ho hlen)) ?_
  rintro e a w' ⟨st, iv, he, vc, hends, hv⟩
  have key : a.defers = [] ∧ ∃ v', (results fn a.tmps).run P w' = .ok v' w' ∧ ∃ fps', (Ending.returned v' = .returned v) ∧ Kept ⟨w, fps.flatten, fun _ => ⟨v, []⟩⟩ w w' ∧ ArgsF w' as' us fps' ∧ Own 0 w' fps'.flatten ∧ SubF fps' fps := by
    obtain ⟨env, g⟩ := iv.good
    unfold endsM at hends
    split at hends
    · rename_i v1 vc1 h1 h2
      simp only [Option.some.injEq] at hends
      subst hends
      have hx : retvs Γ st [rv] = some [.a (.lit v1)] := by simp [retvs, h1]
      obtain ⟨vs, k1, k2, k3⟩ := retvs_ok X.kind g hr hx (by simp)
      match vs, k1 with
      | [u], ⟨k4, _⟩ =>
        have hu : u = v1 := k4.1
        have hv1 : v1 = v := hv.out _ (by simp)
        obtain ⟨fps', q1, q2, q3⟩ := metS_ok g 1000 rfl h2 (fun q hq => hv.out q (List.mem_cons_of_mem _ hq)) ha (fun i u f hu hf => by
          show pvOf us fps (1000 + i) = _
          unfold pvOf
          rw [seats_at hu hf])
        obtain ⟨r1, r2⟩ := SubF.nodup q2 ho.nodup (fun f hf => (q3 f hf).nodup)
        refine ⟨iv.defers, _, k3, fps', by rw [hu, hv1], ⟨iv.kept.os, iv.kept.tape, iv.kept.output, iv.kept.size, iv.kept.block, iv.kept.shape⟩, q1, ⟨r1, fun _ _ => Nat.zero_le _, fun b hb => ?_⟩, q2⟩
        obtain ⟨f, hf, hb⟩ := List.mem_flatten.1 hb
        exact (q3 f hf).kind b hb
    · cases hends
  rcases he with rfl | rfl <;> exact key
end Go.Proofs.YthjedjndamejmaaGreat.G
namespace Go.Proofs.YthjedjndamejmaaGreat.G
set_option linter.all false
open Go.RowKit L D
variable {ty : Tag → Nat}
def meetC : V → V → Option (List Prop)
  | _, .any => some []
  | .lit v, .lit u => some [v = u]
  | .own n, .own m => match Nat.beq n m with | true => some [] | false => none
  | .ptr n o, .ptr m q => match Nat.beq n m && Nat.beq o q with | true => some [] | false => none
  | _, _ => none
def meetCs : List V → List V → Option (List Prop)
  | [], [] => some []
  | x :: r, y :: s => match meetC x y, meetCs r s with | some vc, some vcs => some (app1 vc vcs) | _, _ => none
  | _, _ => none
def meetO : Obj → Obj → Option (List Prop)
  | .arr t l, .arr t' l' => match castL t' t l with | some l2 => some [l2 = l'] | none => none
  | .box c, .box d => meetCs c d
  | _, _ => none
def meetHs (hp : Hp) : Hp → Option (List Prop)
  | [] => some []
  | (n, o) :: r => match look hp n with
    | some x => match meetO x o, meetHs hp r with | some vc, some vcs => some (app1 vc vcs) | _, _ => none
    | none => none
def meetR1 : S1 → S1 → Option (List Prop)
  | .a v, .a u => meetCs [v] [u]
  | .agg l, .agg m => meetCs l m
  | _, _ => none
def meetRs : List S1 → List S1 → Option (List Prop)
  | [], [] => some []
  | x :: r, y :: s => match meetR1 x y, meetRs r s with | some vc, some vcs => some (app1 vc vcs) | _, _ => none
  | _, _ => none
def endsH (Γ : Nat → TK) (st : St) (rvs : List ResultVar) (hp1 : Hp) (rs : List S1) : Option (List Prop) :=
  match retvs Γ st rvs with
  | some xs => match meetRs xs rs, meetHs st.hp hp1 with
    | some vc, some vcs => some (app1 vc vcs)
    | _, _ => none
  | none => none
/-- Results and memory at the end. -/
def FinH (Γ : Nat → TK) (rvs : List ResultVar) (hp1 : Hp) (rs : List S1) : Post := fun e st => (e = .ret ∨ e = .normal) ∧ ∃ vc, endsH Γ st rvs hp1 rs = some vc ∧ AllP vc
theorem FinH.ret {Γ : Nat → TK} {rvs : List ResultVar} {hp1 : Hp} {rs : List S1} {st : St} {vc : List Prop} (h : endsH Γ st rvs hp1 rs = some vc) (hv : AllP vc) : FinH Γ rvs hp1 rs .ret st := ⟨.inl rfl, vc, h, hv⟩
theorem FinH.normal {Γ : Nat → TK} {rvs : List ResultVar} {hp1 : Hp} {rs : List S1} {st : St} {vc : List Prop} (h : endsH Γ st rvs hp1 rs = some vc) (hv : AllP vc) : FinH Γ rvs hp1 rs .normal st := ⟨.inr rfl, vc, h, hv⟩
/-- What is mentioned is there. -/
def okT (hp1 : Hp) (rs : List S1) : Bool := (rs.all (nameok1 hp1)) && (hp1.all fun e => nameokO hp1 e.2) && nodupk hp1
section
variable {P : Program} {zb : Base} {st : St} {a : Act} {w : World} {env : Env}
theorem meetO_like {x o : Obj} {vc : List Prop} (h : meetO x o = some vc) : (∀ t l, x = .arr t l → ∃ t' l', o = .arr t' l') ∧ ∀ c, x = .box c → ∃ d, o = .box d := by
  cases x <;> cases o <;> simp [meetO] at h ⊢
theorem meetHs_mem {hp : Hp} : ∀ {hp1 : Hp} {vc : List Prop}, meetHs hp hp1 = some vc → (∀ q, q ∈ vc → q) → ∀ n o, (n, o) ∈ hp1 → ∃ x v1, look hp n = some x ∧ meetO x o = some v1 ∧ ∀ q, q ∈ v1 → q
  | (k, y) :: r, vc, h, hv, n, o, hm => by
    simp only [meetHs] at h
    split at h
    · rename_i x hx
      split at h
      · rename_i v1 v2 h1 h2
        simp only [Option.some.injEq, app1_eq] at h
        subst h
        rcases List.mem_cons.1 hm with h' | h'
        · simp only [Prod.mk.injEq] at h'
          obtain ⟨rfl, rfl⟩ := h'
          exact ⟨x, v1, hx, h1, fun q hq => hv q (List.mem_append_left _ hq)⟩
        · exact meetHs_mem h2 (fun q hq => hv q (List.mem_append_right _ hq)) n o h'
      · cases h
    · cases h
theorem meetC_ok {hp hp1 : Hp} (hT : ∀ n o, look hp1 n = some o → ∃ x v1, look hp n = some x ∧ meetO x o = some v1) {x y : V} {u : Value} {vc : List Prop} (hr : RA w hp env x u) (h : meetC x y = some vc) (hv : ∀ q, q ∈ vc → q) (hn : nameok hp1 y = true) : RA w hp1 env y u := by
  unfold meetC at h
  split at h
  · trivial
  · simp only [Option.some.injEq] at h
    subst h
    have e := hv _ (List.mem_singleton.2 rfl)
    subst e
    exact hr
  · rename_i n m
    split at h
    · rename_i hb
      have hb := Nat.eq_of_beq_eq_true hb
      subst hb
      obtain ⟨⟨t, l, hl⟩, hu⟩ := hr
      have hno := nameok_ok hn n rfl
      cases hq : look hp1 n with
      | none => exact absurd hq hno
      | some o =>
        obtain ⟨x, v1, h1, h2⟩ := hT n o hq
        rw [hl] at h1
        simp only [Option.some.injEq] at h1
        subst h1
        obtain ⟨t', l', rfl⟩ := (meetO_like h2).1 t l rfl
        exact ⟨⟨t', l', hq⟩, hu⟩
    · cases h
  · rename_i n o m q
    split at h
    · rename_i hb
      simp only [Bool.and_eq_true] at hb
      have hb1 := Nat.eq_of_beq_eq_true hb.1
      have hb2 := Nat.eq_of_beq_eq_true hb.2
      subst hb1; subst hb2
      obtain ⟨⟨c, hl⟩, hu⟩ := hr
      have hno := nameok_ok hn n rfl
      cases hq : look hp1 n with
      | none => exact absurd hq hno
      | some z =>
        obtain ⟨x, v1, h1, h2⟩ := hT n z hq
        rw [hl] at h1
        simp only [Option.some.injEq] at h1
        subst h1
        obtain ⟨d, rfl⟩ := (meetO_like h2).2 c rfl
        exact ⟨⟨d, hq⟩, hu⟩
    · cases h
  · cases h
theorem meetCs_ok {hp hp1 : Hp} (hT : ∀ n o, look hp1 n = some o → ∃ x v1, look hp n = some x ∧ meetO x o = some v1) : ∀ {xs ys : List V} {us : List Value} {vc : List Prop}, All2 (RA w hp env) xs us → meetCs xs ys = some vc → (∀ q, q ∈ vc → q) → (∀ y, y ∈ ys → nameok hp1 y = true) → All2 (RA w hp1 env) ys us
  | [], ys, us, vc, hr, h, _, _ => by
    cases ys with
    | nil =>
      cases us with
      | nil => trivial
      | cons _ _ => exact hr.elim
    | cons _ _ => simp [meetCs] at h
  | x :: r, ys, us, vc, hr, h, hv, hn => by
    cases us with
    | nil => exact hr.elim
    | cons u us =>
      cases ys with
      | nil => simp [meetCs] at h
      | cons y s =>
        simp only [meetCs] at h
        split at h
        · rename_i v1 v2 h1 h2
          simp only [Option.some.injEq, app1_eq] at h
          subst h
          exact ⟨meetC_ok hT hr.1 h1 (fun q hq => hv q (List.mem_append_left _ hq)) (hn y (by simp)), meetCs_ok hT hr.2 h2 (fun q hq => hv q (List.mem_append_right _ hq)) (fun z hz => hn z (List.mem_cons_of_mem _ hz))⟩
        · cases h
theorem meetR1_ok {hp hp1 : Hp} (hT : ∀ n o, look hp1 n = some o → ∃ x v1, look hp n = some x ∧ meetO x o = some v1) {x y : S1} {u : Value} {vc : List Prop} (hr : RS1 w hp env x u) (h : meetR1 x y = some vc) (hv : ∀ q, q ∈ vc → q) (hn : nameok1 hp1 y = true) : RS1 w hp1 env y u := by
  cases x with
  | a v =>
    cases y with
    | a v' =>
      have := meetCs_ok hT (xs := [v]) (us := [u]) ⟨hr, trivial⟩ h hv (fun z hz => by rw [List.mem_singleton.1 hz]; exact hn)
      exact this.1
    | agg _ => simp [meetR1] at h
  | agg l =>
    cases y with
    | a v' => simp [meetR1] at h
    | agg m =>
      obtain ⟨cs, rfl, hl⟩ := hr
      exact ⟨cs, rfl, meetCs_ok hT hl h hv (fun z hz => List.all_eq_true.1 hn z hz)⟩
theorem meetRs_ok {hp hp1 : Hp} (hT : ∀ n o, look hp1 n = some o → ∃ x v1, look hp n = some x ∧ meetO x o = some v1) : ∀ {xs ys : List S1} {us : List Value} {vc : List Prop}, All2 (RS1 w hp env) xs us → meetRs xs ys = some vc → (∀ q, q ∈ vc → q) → (∀ y, y ∈ ys → nameok1 hp1 y = true) → All2 (RS1 w hp1 env) ys us
  | [], ys, us, vc, hr, h, _, _ => by
    cases ys with
    | nil =>
      cases us with
      | nil => trivial
      | cons _ _ => exact hr.elim
    | cons _ _ => simp [meetRs] at h
  | x :: r, ys, us, vc, hr, h, hv, hn => by
    cases us with
    | nil => exact hr.elim
    | cons u us =>
      cases ys with
      | nil => simp [meetRs] at h
      | cons y s =>
        simp only [meetRs] at h
        split at h
        · rename_i v1 v2 h1 h2
          simp only [Option.some.injEq, app1_eq] at h
          subst h
          exact ⟨meetR1_ok hT hr.1 h1 (fun q hq => hv q (List.mem_append_left _ hq)) (hn y (by simp)), meetRs_ok hT hr.2 h2 (fun q hq => hv q (List.mem_append_right _ hq)) (fun z hz => hn z (List.mem_cons_of_mem _ hz))⟩
        · cases h
end
theorem entryH {as : List S1} {us : List Value} {w : World} {env : Env} {hp0 : Hp} {n : Nat} (hA : Amb w) (hL : ∀ b, Amb0 b → b ∉ lentB hp0 env) (hG : GoodH ty w hp0 env) (ha : All2 (RS1 w hp0 env) as us) (hn : as.length ≤ n) :
    Inv ty ⟨w, lentB hp0 env, env⟩ ⟨n, enter 0 as, hp0⟩ { tmps := us.toArray ++ Array.replicate (n - us.toArray.size) undef, defers := [] } w := by
  have hl := ha.len
  refine ⟨by simp; omega, rfl, Kept.refl _ _, ⟨hA, hL⟩, env, ⟨hG.1, hG.2, fun s v hv => ?_, fun n o h b hb => Or.inl (List.mem_flatMap.2 ⟨_, look_mem h, hb⟩), fun n _ => ⟨rfl, fun b hb => hb⟩⟩⟩
  obtain ⟨x, rfl, _, hx⟩ := enter_look hv
  rw [Nat.sub_zero] at hx
  obtain ⟨u, hu, hr⟩ := ha.at hx
  have hs : s < us.length := (List.getElem?_eq_some_iff.1 hu).1
  have : (us.toArray ++ Array.replicate (n - us.toArray.size) undef).getD s undef = u := by
    rw [Array.getD_eq_getD_getElem?, Array.getElem?_append_left (by simpa using hs)]
    simp [hu]
  show RS1 w hp0 env x _
  rw [this]
  exact hr
theorem SoundH.of {P : Program} {Γ : Nat → TK} (X : Ctx P ty Γ) {f : FuncId} {fn : Func} {c : Code} {rvs : List ResultVar} {n : Nat} {hp0 hp1 : Hp} {as rs : List S1}
    (hcall : ∀ (args : Array Value) (w : World), (callFunc f args).run P w = .ok (.enter f args) w) (hf : P.funcs[f]? = some fn) (hb : fn.body = some c) (hr : fn.results = rvs.toArray) (hl : rvs.length ≤ 4) (hn : fn.ntmps = n) (hlen : as.length ≤ n) (hT : okT hp1 rs = true)
    (h : ∀ zb, W P ty zb c (FinH Γ rvs hp1 rs) ⟨n, enter 0 as, hp0⟩) : SoundH ty P f hp0 as hp1 rs := by
  refine ⟨hcall, fun w env us hA hL hG ha => calls_of_wp hf hb ?_⟩
  rw [hn]
  refine wp_mono (h _ _ w (entryH hA hL hG ha hlen)) ?_
  simp only [okT, Bool.and_eq_true, List.all_eq_true] at hT
  obtain ⟨⟨t1, t2⟩, t3⟩ := hT
  rintro e a w' ⟨st, iv, he, vc, hends, hv⟩
  have key : a.defers = [] ∧ ∃ v, (results fn a.tmps).run P w' = .ok v w' ∧ ∃ env' u, Ending.returned v = .returned u ∧ Kept ⟨w, lentB hp0 env, env⟩ w w' ∧ GoodH ty w' hp1 env' ∧
      (∀ n o, look hp1 n = some o → ∀ b, b ∈ (env' n).fp → b ∈ lentB hp0 env ∨ w.heap.size ≤ b) ∧ (∀ n, pin n = true → (env' n).v = (env n).v ∧ ∀ b, b ∈ (env' n).fp → b ∈ (env n).fp) ∧ ResH w' hp1 env' rs u := by
    obtain ⟨env', g⟩ := iv.good
    unfold endsH at hends
    split at hends
    · rename_i xs hx
      split at hends
      · rename_i v1 v2 hm1 hm2
        simp only [Option.some.injEq, app1_eq] at hends
        subst hends
        have hv1 : ∀ q, q ∈ v1 → q := fun q hq => hv.out q (List.mem_append_left _ hq)
        have hv2 : ∀ q, q ∈ v2 → q := fun q hq => hv.out q (List.mem_append_right _ hq)
        obtain ⟨vs, h1, h2, h3⟩ := retvs_ok X.kind g hr hx hl
        have hmem := meetHs_mem hm2 hv2
        have hT : ∀ n o, look hp1 n = some o → ∃ x v1, look st.hp n = some x ∧ meetO x o = some v1 := fun n o hl => by
          obtain ⟨x, v1, p1, p2, _⟩ := hmem n o (look_mem hl)
          exact ⟨x, v1, p1, p2⟩
        have hres := meetRs_ok hT h1 hm1 hv1 t1
        refine ⟨iv.defers, _, h3, env', _, rfl, iv.kept, ⟨fun n o hl => ?_, fun n m o o' hne hl1 hl2 => ?_⟩, fun n o hl b hb => ?_, fun n hp => g.pins n hp, ?_⟩
        · obtain ⟨x, v1, p1, p2, p3⟩ := hmem n o (look_mem hl)
          have hro := g.obj n x p1
          cases x with
          | arr t l =>
            cases o with
            | box d => simp [meetO] at p2
            | arr t' l' =>
              simp only [meetO] at p2
              split at p2
              · rename_i l2 hc
                simp only [Option.some.injEq] at p2
                subst p2
                have e2 := p3 _ (List.mem_singleton.2 rfl)
                subst e2
                obtain ⟨e, rfl⟩ := castL_ok hc
                subst e
                exact roArr (fun h => h) hro
              · cases p2
          | box c =>
            cases o with
            | arr t' l' => simp [meetO] at p2
            | box d =>
              obtain ⟨b, cs, e, q1, q2, q3⟩ := hro
              exact ⟨b, cs, e, q1, q2, meetCs_ok hT q3 p2 p3 (fun y hy => List.all_eq_true.1 (t2 _ (look_mem hl)) y hy)⟩
        · obtain ⟨x, _, p1, _⟩ := hT n o hl1
          obtain ⟨y, _, p2, _⟩ := hT m o' hl2
          exact g.dis n m x y hne p1 p2
        · obtain ⟨x, _, p1, _⟩ := hT n o hl
          exact g.dom n x p1 b hb
        · match rs, vs, hres with
          | [r], [u], hres => exact hres.1
          | [], [], hres => exact ⟨[], rfl, trivial⟩
          | r1 :: r2 :: r, u1 :: u2 :: u, hres => exact ⟨_, rfl, hres⟩
          | [], _ :: _, hres => exact hres.elim
          | _ :: _, [], hres => exact hres.elim
          | [_], _ :: _ :: _, hres => exact hres.2.elim
          | _ :: _ :: _, [_], hres => exact hres.2.elim
      · cases hends
    · cases hends
  rcases he with rfl | rfl <;> exact key
end Go.Proofs.YthjedjndamejmaaGreat.G
