/-
  Calls that write slices that are lent to them.
-/
import Derived.Test.YthjedjndamejmaaGreatZCollectSharesM4
import Derived.Laws.OwnMore
import Derived.Test.YthjedjndamejmaaGreatZCollectSharesM3
namespace Go.Proofs.YthjedjndamejmaaGreat.G
set_option linter.all false
open Go.RowKit L D
variable {ty : Tag → Nat}
theorem splice_list : ∀ (vs : List Value) (cs : List Value) (o : Nat), o + vs.length ≤ cs.length → splice (Array.mk cs) o vs = Array.mk (cs.take o ++ (vs ++ cs.drop (o + vs.length)))
  | [], cs, o, h => by simp [splice, List.take_append_drop]
  | v :: r, cs, o, h => by
    simp only [List.length_cons] at h
    have e0 : cs.set o v = cs.take o ++ v :: cs.drop (o + 1) := by
      rw [List.set_eq_take_append_cons_drop, if_pos (by omega)]
    have hl : (cs.take o).length = o := by rw [List.length_take]; omega
    have t1 : (cs.take o ++ v :: cs.drop (o + 1)).take (o + 1) = cs.take o ++ [v] := by
      rw [List.take_append, hl, show o + 1 - o = 1 by omega, List.take_of_length_le (by rw [hl]; omega)]; rfl
    have t2 : (cs.take o ++ v :: cs.drop (o + 1)).drop (o + 1 + r.length) = cs.drop (o + 1 + r.length) := by
      rw [List.drop_append, hl, show o + 1 + r.length - o = r.length + 1 by omega, List.drop_succ_cons, List.drop_drop, List.drop_eq_nil_of_le (as := cs.take o) (by rw [hl]; omega), List.nil_append]
    rw [splice, List.setIfInBounds_toArray, splice_list r _ _ (by simp; omega), e0, t1, t2, List.append_assoc, List.length_cons, show o + (r.length + 1) = o + 1 + r.length by omega]
    rfl
theorem spl_all {R : V → Value → Prop} {c c' vs : List V} {cs us : List Value} {off : Nat} (h : All2 R c cs) (hv : All2 R vs us) (hs : spl c off vs = some c') : off + us.length ≤ cs.length ∧ All2 R c' (cs.take off ++ (us ++ cs.drop (off + us.length))) := by
  unfold spl at hs
  split at hs
  · rename_i hb
    have hb := Nat.le_of_ble_eq_true hb
    simp only [Option.some.injEq] at hs
    subst hs
    have h1 := h.len
    have h2 := hv.len
    refine ⟨by omega, All2.app (h.take off) (All2.app hv ?_)⟩
    rw [h2]; exact h.drop _
  · cases hs
theorem foldl_splice (off : Nat) : ∀ (l : List Value) (n : Nat) (c : Array Value), (l.zipIdx n).foldl (fun cs (p : Value × Nat) => cs.setIfInBounds (off + p.2) p.1) c = splice c (off + n) l
  | [], _, _ => rfl
  | v :: r, n, c => by rw [List.zipIdx_cons, List.foldl_cons, foldl_splice off r (n + 1)]; rfl
def seqv : Nat → List Value → List (Nat × Value)
  | _, [] => []
  | i, v :: r => (i, v) :: seqv (i + 1) r
theorem fill_seq {k : Nat} : ∀ (ps : List Value) (i : Nat) (cells : List Value), (∀ v, v ∈ ps → v.cells.size = k) → cells.length = (i + ps.length) * k →
    Instr.fill (fun i => some (i * k, k)) (Array.mk cells) (seqv i ps) = some (Array.mk (cells.take (i * k) ++ ps.flatMap fun v => v.cells.toList))
  | [], i, cells, _, h => by
    rw [seqv, Instr.fill, List.take_of_length_le (by rw [h]; simp)]; simp
  | v :: r, i, cells, hk, h => by
    have hv := hk v (by simp)
    have hlen : i * k + k ≤ cells.length := by
      rw [h, List.length_cons, show i + (r.length + 1) = (i + 1) + r.length by omega, Nat.add_mul (i + 1), Nat.add_mul i 1, Nat.one_mul]; omega
    rw [seqv, Instr.fill]
    simp only [hv, ne_eq, not_true_eq_false, decide_false, Bool.false_or, List.size_toArray]
    rw [if_neg (by simp; omega)]
    have hfold : (v.cells.zipIdx.foldl (fun cs (x : Value × Nat) => cs.setIfInBounds (i * k + x.2) x.1) (Array.mk cells)) = splice (Array.mk cells) (i * k) v.cells.toList := by
      rw [← Array.foldl_toList, Array.toList_zipIdx, foldl_splice, Nat.add_zero]
    have hsz : v.cells.toList.length = k := by simpa using hv
    have := splice_list v.cells.toList cells (i * k) (by omega)
    show Instr.fill _ (v.cells.zipIdx.foldl (fun cs (x : Value × Nat) => cs.setIfInBounds (i * k + x.2) x.1) (Array.mk cells)) _ = _
    rw [hfold, this, fill_seq r (i + 1) _ (fun u hu => hk u (by simp [hu])) (by
      simp only [List.length_append, List.length_take, List.length_drop, hsz]
      rw [h, List.length_cons] at *
      have : (i + 1 + r.length) * k = (i + (r.length + 1)) * k := by congr 1; omega
      rw [this]
      omega)]
    have h1 : (i + 1) * k = i * k + k := by rw [Nat.add_mul, Nat.one_mul]
    have t : ((cells.take (i * k)) ++ (v.cells.toList ++ cells.drop (i * k + v.cells.toList.length))).take ((i + 1) * k) = cells.take (i * k) ++ v.cells.toList := by
      rw [← List.append_assoc]
      exact List.take_left' (by rw [List.length_append, List.length_take, hsz, h1]; omega)
    rw [t, List.flatMap_cons, List.append_assoc]
theorem flatMap_sub {k : Nat} : ∀ {ps : List (List Value)} {i : Nat} {c : List Value}, (∀ v, v ∈ ps → v.length = k) → ps[i]? = some c → (((ps.flatMap id).drop (i * k)).take k) = c
  | p :: r, 0, c, hk, h => by
    simp at h
    subst h
    have := hk p (by simp)
    rw [List.flatMap_cons, Nat.zero_mul, List.drop_zero, List.take_append]
    simp [← this]
  | p :: r, i + 1, c, hk, h => by
    have hp := hk p (by simp)
    rw [List.flatMap_cons, List.drop_append, show (id p).length = k from hp, List.drop_eq_nil_of_le (by rw [show (id p).length = k from hp, Nat.add_mul]; omega), List.nil_append, show (i + 1) * k - k = i * k by rw [Nat.add_mul]; omega]
    exact flatMap_sub (fun v hv => hk v (by simp [hv])) (by simpa using h)
theorem flatMap_len {k : Nat} : ∀ {ps : List (List Value)}, (∀ v, v ∈ ps → v.length = k) → (ps.flatMap id).length = ps.length * k
  | [], _ => by simp
  | p :: r, hh => by
    rw [List.flatMap_cons, List.length_append, flatMap_len fun v hv => hh v (by simp [hv]), show (id p).length = k from hh p (by simp), List.length_cons, Nat.add_mul]; omega
section
variable {P : Program} {a : Act} {w : World} {o : Oper}
theorem run_built {t len : Nat} {parts : Array (Nat × Operand)} (ho : o.op = .buildSlice t len parts) {g : Tag} (hu : P.underlying t = some (.slice (ty g))) (hEl : El P ty g) (hbig : len * kk g ≤ 16777216) (hlen : parts.toList.length = len) {lo : Nat} (hlo : lo ≤ w.heap.size)
    {xs : List (T g)} {fps : List (List Nat)} (q1 : (parts.toList.map fun p => (p.1, a.eval p.2)) = seqv 0 (parts.toList.map fun p => a.eval p.2)) (q2 : xs.length = parts.toList.length) (q3 : fps.length = xs.length)
    (q4 : ∀ (i : Nat) (x : T g) (f : List Nat), xs[i]? = some x → fps[i]? = some f → ∃ p : Nat × Operand, parts.toList[i]? = some p ∧ rd g w (a.eval p.2).cells.toList x f) (q5 : Own lo w fps.flatten) :
    ∃ w', (execOp a.eval o).run P w = .ok (.value (.slice (some ⟨w.heap.size, 0, none⟩) len len)) w' ∧ Below w.heap.size w w' ∧ Bld (kk g) (rd g) lo (ty g) w' (.slice (some ⟨w.heap.size, 0, none⟩) len len) xs (w.heap.size :: fps.flatten) := by
  have hkp := kk_pos g
  have hcl : ∀ v, v ∈ (parts.toList.map fun p => a.eval p.2) → v.cells.size = kk g := by
    intro v hv
    obtain ⟨i, hi⟩ := List.getElem?_of_mem hv
    have hil : i < xs.length := by have := (List.getElem?_eq_some_iff.1 hi).1; simp at this; rw [q2]; simpa using this
    have hfl : i < fps.length := by omega
    obtain ⟨p, h1, h2⟩ := q4 i xs[i] fps[i] (List.getElem?_eq_getElem hil) (List.getElem?_eq_getElem hfl)
    rw [List.getElem?_map, h1] at hi
    simp at hi
    subst hi
    simpa using (fine g).len h2
  cases hq : P.info? (ty g) with
  | none => simp [El, hq] at hEl
  | some inf =>
    simp [El, hq] at hEl
    obtain ⟨z1, z2, z3⟩ := hEl
    let zs : List Value := (List.range (len * kk g)).map fun j => (if len * kk g = 0 then #[] else (zval g).cells)[j % (if len * kk g = 0 then #[] else (zval g).cells).size]!
    have hzl : zs.length = len * kk g := by simp [zs]
    have hf := fill_seq (k := kk g) (parts.toList.map fun p => a.eval p.2) 0 zs hcl (by rw [hzl, List.length_map, hlen, Nat.zero_add])
    rw [Nat.zero_mul, List.take_zero, List.nil_append] at hf
    have hrun : (execOp a.eval o).run P w = .ok (.value (.slice (some ⟨w.heap.size, 0, none⟩) len len)) (w.alloc (.cells (Array.mk ((parts.toList.map fun p => a.eval p.2).flatMap fun v => v.cells.toList)) (ty g) (0, 0))) := by
      unfold execOp
      have hpl : (parts.map fun (p : Nat × Operand) => (p.1, a.eval p.2)).toList = seqv 0 (parts.toList.map fun p => a.eval p.2) := by
        rw [Array.toList_map]; exact q1
      have hzs : ((Array.range (len * kk g)).map fun j => (if len * kk g = 0 then #[] else (zval g).cells)[j % (if len * kk g = 0 then #[] else (zval g).cells).size]!) = Array.mk zs := by
        simp only [zs]
        apply Array.ext'
        simp
      have hze : (sizeOf (ty g)).run P w = .ok (kk g) w := by simp [sizeOf, typeInfo, hq, z2]
      simp only [ho, Instr.buildSlice, Sem.run_bind, run_underlying hu, Result.andThen_ok, hze]
      rw [if_neg (by omega)]
      by_cases hz0 : len * kk g = 0
      · simp only [if_pos hz0] at hzs ⊢
        simp only [Sem.run_bind, Sem.run_pure, Result.andThen_ok]
        rw [hzs, hpl, hf]
        simp [newRow]
      · have hzv : (zeroValue (ty g)).run P w = .ok (zval g) w := by simp [zeroValue, typeInfo, hq, z1]
        simp only [if_neg hz0] at hzs ⊢
        simp only [Sem.run_bind, hzv, Sem.run_pure, Result.andThen_ok]
        rw [hzs, hpl, hf]
        simp [newRow]
    have hps : ((parts.toList.map fun p => a.eval p.2).flatMap fun v => v.cells.toList) = ((parts.toList.map fun p => (a.eval p.2).cells.toList).flatMap id) := by
      simp [List.flatMap_map]
    have hcl2 : ∀ v, v ∈ (parts.toList.map fun p => (a.eval p.2).cells.toList) → v.length = kk g := by
      intro v hv
      obtain ⟨p, hp, rfl⟩ := List.mem_map.1 hv
      simpa using hcl _ (List.mem_map.2 ⟨p, hp, rfl⟩)
    have hlen2 := flatMap_len hcl2
    rw [List.length_map, hlen] at hlen2
    have hb0 : Below w.heap.size w (w.alloc (.cells (Array.mk ((parts.toList.map fun p => a.eval p.2).flatMap fun v => v.cells.toList)) (ty g) (0, 0))) := (Below.refl _ _).alloc (Nat.le_refl _) _
    have hOlt := q5.lt
    refine ⟨_, hrun, hb0, ((parts.toList.map fun p => a.eval p.2).flatMap fun v => v.cells.toList), fps, ⟨?_, Or.inr ⟨w.heap.size, len, Array.mk ((parts.toList.map fun p => a.eval p.2).flatMap fun v => v.cells.toList), ?_, hlo, ?_, ?_, ?_, ?_, ?_⟩⟩, q3, ?_, rfl, ?_⟩
    · rw [hps, hlen2, q2, hlen]
    · rw [q2, hlen]
    · exact alloc_top rfl
    · rw [q2, hlen]; exact Nat.le_refl _
    · unfold maxLen; have := Nat.le_mul_of_pos_right len hkp; omega
    · rw [List.size_toArray, hps, hlen2]
    · rw [List.take_of_length_le]; simp only [hps, hlen2, q2, hlen]; exact Nat.le_refl _
    · intro i x f hx hff
      obtain ⟨p, h1, h2⟩ := q4 i x f hx hff
      have hkey : (((parts.toList.map fun p => a.eval p.2).flatMap fun v => v.cells.toList).drop (i * kk g)).take (kk g) = (a.eval p.2).cells.toList := by
        rw [hps]; exact flatMap_sub hcl2 (by rw [List.getElem?_map, h1]; rfl)
      rw [hkey]
      exact (fine g).below h2 hb0
    · refine ⟨List.nodup_cons.2 ⟨fun hm => by have := hOlt _ hm; omega, q5.nodup⟩, fun b hb => ?_, fun b hb => ?_⟩
      · rcases List.mem_cons.1 hb with rfl | hb
        · exact hlo
        · exact q5.ge b hb
      · rcases List.mem_cons.1 hb with rfl | hb
        · exact ⟨_, _, alloc_top rfl⟩
        · exact (q5.below hb0).kind b hb
theorem made_sub (z : Array Value) (n k i : Nat) (hk : z.size = k) (hi : i < n) (hk0 : 0 < k) : (((madeCells z (n * k)).toList.drop (i * k)).take k) = z.toList := by
  apply List.ext_getElem?
  intro j
  have h5 : i * k + k ≤ n * k := by
    have := Nat.mul_le_mul_right k (show i + 1 ≤ n by omega)
    rw [Nat.add_mul] at this; omega
  by_cases hj : j < k
  · rw [List.getElem?_take, if_pos hj, List.getElem?_drop]
    simp only [madeCells, Array.toList_map, Array.toList_range, List.getElem?_map]
    rw [List.getElem?_range (by omega), hk]
    simp only [Option.map_some]
    have hm : (i * k + j) % k = j := by rw [Nat.mul_comm, Nat.mul_add_mod]; exact Nat.mod_eq_of_lt hj
    rw [hm]
    have : j < z.size := by omega
    simp [this]
  · rw [List.getElem?_take, if_neg hj]
    rw [List.getElem?_eq_none (by simp; omega)]
theorem run_made {t : Nat} {x y : Operand} (ho : o.op = .makeSlice t x y) {g : Tag} (hu : P.underlying t = some (.slice (ty g))) (hEl : El P ty g) {k1 k2 : IntKind} {n : Int} (hx : a.eval x = .int k1 n) (hy : a.eval y = .int k2 n) (h0 : 0 ≤ n) (hb : n.toNat * byt g ≤ 140737488355328) (hm : n.toNat ≤ maxLen) :
    ∃ w' u fp, (execOp a.eval o).run P w = .ok (.value u) w' ∧ Below w.heap.size w w' ∧ Bld (kk g) (rd g) w.heap.size (ty g) w' u (List.replicate n.toNat (dfl g)) fp := by
  cases hq : P.info? (ty g) with
  | none => simp [El, hq] at hEl
  | some inf =>
    simp [El, hq] at hEl
    obtain ⟨z1, z2, z3⟩ := hEl
    obtain ⟨w', hr, hrow, hg⟩ := run_make_full (P := P) w w.heap.size t (ty g) inf (zval g) (kk g) hu hq z1 z2 k1 k2 n.toNat (by rw [z3, Nat.mul_comm]; omega) hm (Nat.le_refl _)
    rw [Int.toNat_of_nonneg h0] at hr
    refine ⟨w', .slice (some ⟨w.heap.size, 0, none⟩) n.toNat n.toNat, [w.heap.size], ?_, ⟨hg.os, hg.tape, hg.output, hg.size, fun b hb => hg.block b hb (by simp)⟩, (madeCells (zval g).cells (n.toNat * kk g)).toList, List.replicate n.toNat [], ?_, by simp, ?_, ?_, ?_⟩
    · unfold execOp
      simp only [ho, hx, hy, Sem.run_bind, hr, Result.andThen_ok, Sem.run_pure]
    · rw [List.length_replicate]; exact hrow
    · intro i v f hi hf
      rw [List.getElem?_replicate] at hi hf
      split at hi
      · rename_i hlt
        rw [if_pos hlt] at hf
        simp only [Option.some.injEq] at hi hf
        subst hi; subst hf
        rw [made_sub _ _ _ _ (zval_cells g) hlt (kk_pos g)]
        exact zero_ok g
      · cases hi
    · simp [Value.ownBlock]
    · refine ⟨by simp, by simp, fun b hb => ?_⟩
      rcases hrow.2 with ⟨h, _⟩ | ⟨g', cap, cur, h, _, hh, _⟩
      · cases h
      · simp only [Value.slice.injEq, Option.some.injEq, Addr.mk.injEq, and_true] at h
        rw [List.mem_singleton.1 hb, h.1]
        exact ⟨_, _, hh⟩
end
end Go.Proofs.YthjedjndamejmaaGreat.G
namespace Go.Proofs.YthjedjndamejmaaGreat.G
set_option linter.all false
open Go.RowKit L D
variable {ty : Tag → Nat}
section
variable {P : Program} {zb : Base} {st : St} {a : Act} {w : World} {env : Env} {Q : Exit → Act → World → Prop} {o : Oper}
theorem zeros_ok {hp : Hp} {env : Env} : ∀ {z : List Value}, (∀ v, v ∈ z → v.oneCell' = true) → All2 (RA w hp env) (z.map V.lit) z
  | [], _ => trivial
  | v :: r, h => ⟨⟨rfl, h v (by simp)⟩, zeros_ok fun u hu => h u (by simp [hu])⟩
theorem one_cells (g : Good ty zb st a.tmps w env) {v : V} {u : Value} (h : RA w st.hp env v u) (hv : v ≠ .any) : u.cells = #[u] := by
  cases v with
  | any => exact absurd rfl hv
  | lit x => obtain ⟨rfl, h1⟩ := h; cases u <;> simp_all [Value.cells, Value.oneCell']
  | sl t l => obtain ⟨fp, ⟨oa, cap, rfl, _⟩, _⟩ := h; rfl
  | own n =>
    obtain ⟨⟨t, l, hl⟩, rfl⟩ := h
    obtain ⟨oa, cap, h, _⟩ := RO.sl (g.obj n _ hl)
    rw [h]; rfl
  | ptr n off => obtain ⟨_, b, _, rfl⟩ := h; rfl
  | fnp f n => obtain ⟨_, b, _, rfl⟩ := h; rfl
  | husk k => obtain ⟨oa, cap, rfl, _⟩ := h; rfl
  | eptr n i off => obtain ⟨t, l, _, b, o, len, cap, _, rfl⟩ := h; rfl
  | ip t x off => obtain ⟨b, o, cs, fp, rfl, _⟩ := h; rfl
  | vw n p t l => obtain ⟨_, ⟨fp, ⟨oa, cap, rfl, _⟩, _⟩, _⟩ := h; rfl
  | bsl n t l => obtain ⟨_, b, fp, ⟨oa, cap, rfl, _⟩, _⟩ := h; rfl
  | vip n p t x off => obtain ⟨_, b, o, cs, fp, rfl, _⟩ := h; rfl
theorem ibop_ok {op : BinOp} {k k' : IntKind} {x y : Int} {vc : List Prop} {v : Value} (h : ibop op k k' x y = some (vc, v)) (hv : ∀ q, q ∈ vc → q) {t : TypeId} {X Y : Operand} :
    (do eqGuard op t X Y (.int k x) (.int k' y); binOp op t (.int k x) (.int k' y) : Sem Value).run P w = .ok v w ∧ v.oneCell' = true := by
  have gen : (∀ (_ : ¬ (op = .shl ∨ op = .shr)), (match decEq k k' with | isTrue _ => bop op k x y | isFalse _ => none) = some (vc, v) → (do eqGuard op t X Y (.int k x) (.int k' y); binOp op t (.int k x) (.int k' y) : Sem Value).run P w = .ok v w ∧ v.oneCell' = true) := by
    intro _ h'
    clear h
    split at h'
    · rename_i hk _
      subst hk
      exact bop_ok h' hv
    · cases h'
  cases op with
  | shl =>
    simp only [ibop, Option.some.injEq, Prod.mk.injEq] at h
    obtain ⟨rfl, rfl⟩ := h
    have hy : ¬ y < 0 := by have : 0 ≤ y := hv _ (List.mem_singleton.2 rfl); omega
    refine ⟨?_, rfl⟩
    simp [eqGuard, binOp, Op.shift, hy]
  | shr =>
    simp only [ibop, Option.some.injEq, Prod.mk.injEq] at h
    obtain ⟨rfl, rfl⟩ := h
    have hy : ¬ y < 0 := by have : 0 ≤ y := hv _ (List.mem_singleton.2 rfl); omega
    refine ⟨?_, rfl⟩
    simp [eqGuard, binOp, Op.shift, hy]
  | _ => exact gen (by simp) h
theorem sbop_ok {op : BinOp} {x y : ByteArray} {vc : List Prop} {v : Value} (h : sbop op x y = some (vc, v)) (hv : ∀ q, q ∈ vc → q) {t : TypeId} {X Y : Operand} :
    (do eqGuard op t X Y (.string x) (.string y); binOp op t (.string x) (.string y) : Sem Value).run P w = .ok v w ∧ v.oneCell' = true := by
  cases op with
  | add =>
    simp only [sbop, Option.some.injEq, Prod.mk.injEq] at h
    obtain ⟨rfl, rfl⟩ := h
    have hy : ((x.size + y.size : Nat) : Int) ≤ IntKind.i64.max := hv _ (List.mem_singleton.2 rfl)
    refine ⟨?_, rfl⟩
    have hy' : ¬ ((x.size + y.size : Nat) : Int) > IntKind.i64.max := by omega
    simp only [eqGuard, binOp, Op.stringOp, if_neg hy']
    rfl
  | eql =>
    simp only [sbop, Option.some.injEq, Prod.mk.injEq] at h
    obtain ⟨rfl, rfl⟩ := h
    exact ⟨by simp [eqGuard, binOp, Op.stringOp], rfl⟩
  | neq =>
    simp only [sbop, Option.some.injEq, Prod.mk.injEq] at h
    obtain ⟨rfl, rfl⟩ := h
    exact ⟨by simp [eqGuard, binOp, Op.stringOp], rfl⟩
  | _ => simp [sbop] at h
theorem fnOf_ok {v : S1} {u : Value} {f : FuncId} (hr : RS1 w st.hp env v u) (h : fnOf v = some f) : u = .func (.func f) #[] #[] := by
  unfold fnOf at h
  split at h
  · simp only [Option.some.injEq] at h
    subst h
    exact hr.lit
  · cases h
theorem nums_str8 (l : List UInt8) : strOfNums (l.map fun n => (n.toNat : Int)) = str8 l := by
  unfold strOfNums str8
  congr 2
  rw [List.map_map]
  conv => rhs; rw [← List.map_id l]
  apply List.map_congr_left
  intro n _
  simp
theorem run_bytes_empty (ad : Addr) (cap : Nat) : (Conv.bytesToString (.slice (some ad) 0 cap)).run P w = .ok (.string (str8 [])) w := by
  have := run_bytesToString (P := P) w ad 0 cap [] (by simp [loadCells, loadCellsFrom])
  exact this
theorem sub_flatten {a b : List (List Nat)} (h : a.Sublist b) : a.flatten.Sublist b.flatten := by
  induction h with
  | slnil => exact List.Sublist.refl _
  | cons x _ ih => rw [List.flatten_cons]; exact ih.trans (List.sublist_append_right _ _)
  | cons_cons x _ ih => rw [List.flatten_cons, List.flatten_cons]; exact List.Sublist.append (List.Sublist.refl _) ih
theorem run_slice {t : Nat} {x : Operand} {lo hi : Option Operand} (ho : o.op = .slice t x lo hi none) {g : Tag} {e : Nat} (hk : TKok P t (.sl g e)) {t' : Tag} {l : List (T t')} (hkk : kk g = kk t') {fp : List Nat} (hx : Sl (kk t') (rd t') w (a.eval x) l fp) {n1 n2 : Int}
    (h1 : (lo = none ∧ n1 = 0) ∨ ∃ y k, lo = some y ∧ a.eval y = .int k n1) (h2 : (hi = none ∧ n2 = l.length) ∨ ∃ y k, hi = some y ∧ a.eval y = .int k n2) (q0 : 0 ≤ n1) (q1 : n1 ≤ n2) (q2 : n2 ≤ (l.length : Int)) :
    ∃ u' fp', (execOp a.eval o).run P w = .ok (.value u') w ∧ Sl (kk t') (rd t') w u' ((l.take n2.toNat).drop n1.toNat) fp' ∧ fp'.Sublist fp := by
  obtain ⟨hu, hs⟩ := hk
  obtain ⟨oa, cap, hv, hc, hm, h3⟩ := hx
  cases hq : P.info? e with
  | none => simp [hq] at hs
  | some inf =>
    have hsz : inf.size = kk g := by simpa [hq] using hs
    have hcap : n2 ≤ (cap : Int) := by omega
    have hn2 : 0 ≤ n2 := by omega
    have hmx : max n2 0 = n2 := by omega
    have hlen : ((l.take n2.toNat).drop n1.toNat).length = n2.toNat - n1.toNat := by simp; omega
    have hrun : (Instr.sliceAt t (.slice oa l.length cap) (lo.map a.eval) (hi.map a.eval) none).run P w = .ok (.slice (if cap = n1.toNat then oa else oa.map (·.add (n1.toNat * kk g))) (n2.toNat - n1.toNat) (cap - n1.toNat)) w := by
      rcases h1 with ⟨rfl, rfl⟩ | ⟨y1, k1, rfl, e1⟩ <;> rcases h2 with ⟨rfl, rfl⟩ | ⟨y2, k2, rfl, e2⟩
      all_goals simp [Instr.sliceAt, Instr.slice, Instr.sliceBounds, Instr.sliceBound, asIntOf, run_underlying hu, sizeOf, typeInfo, hq, hsz, *]
    have hex : (execOp a.eval o).run P w = .ok (.value (.slice (if cap = n1.toNat then oa else oa.map (·.add (n1.toNat * kk g))) (n2.toNat - n1.toNat) (cap - n1.toNat))) w := by
      unfold execOp
      simp only [ho, hv, Option.map_none, Sem.run_bind, hrun, Result.andThen_ok, Sem.run_pure]
    rcases h3 with ⟨rfl, rfl, hn⟩ | ⟨b, off, fps, rfl, hb, rfl, hE⟩
    · have e0 : n1 = 0 := by simp at q2; omega
      have e2 : n2 = 0 := by simp at q2; omega
      subst e0; subst e2
      refine ⟨_, [], hex, ⟨_, _, rfl, by simp, by omega, Or.inl ⟨by simp, rfl, ?_⟩⟩, List.nil_sublist _⟩
      intro hoa
      split at hoa
      · rw [hn hoa]; rfl
      · cases oa with
        | none => rw [hn rfl]; rfl
        | some _ => simp at hoa
    · by_cases hcn : cap = n1.toNat
      · have e0 : (l.take n2.toNat).drop n1.toNat = [] := by
          apply List.eq_nil_of_length_eq_zero; omega
        refine ⟨_, [], hex, ⟨_, _, by rw [hlen], by rw [hlen]; omega, by omega, Or.inl ⟨e0, rfl, ?_⟩⟩, List.nil_sublist _⟩
        intro hoa; rw [if_pos hcn] at hoa; cases hoa
      · refine ⟨_, b :: ((fps.take n2.toNat).drop n1.toNat).flatten, hex, ⟨_, _, by rw [hlen], by rw [hlen]; omega, by omega, Or.inr ⟨b, off + n1.toNat * kk t', (fps.take n2.toNat).drop n1.toNat, ?_, hb, rfl, ?_, ?_⟩⟩, ?_⟩
        · rw [if_neg hcn, hkk]; simp [Addr.add_mid]
        · have := hE.1; simp [this]
        · intro i x f hx hf
          rw [List.getElem?_drop, List.getElem?_take] at hx hf
          split at hx
          · rename_i hlt
            rw [if_pos hlt] at hf
            obtain ⟨cs, k1, k2⟩ := hE.2 _ x f hx hf
            exact ⟨cs, by rw [Nat.add_assoc, ← Nat.add_mul]; exact k1, k2⟩
          · cases hx
        · exact List.Sublist.cons_cons _ (sub_flatten ((List.drop_sublist _ _).trans (List.take_sublist _ _)))
/-- A slice's empty tail. -/
theorem run_tail {t : Nat} {x : Operand} {lo : Option Operand} (ho : o.op = .slice t x lo none none) {g : Tag} {e : Nat} (hk : TKok P t (.sl g e)) {oa : Option Addr} {n cap : Nat} (hv : a.eval x = .slice oa n cap) (hc : n ≤ cap) {n1 : Int}
    (h1 : (lo = none ∧ n1 = 0) ∨ ∃ y k, lo = some y ∧ a.eval y = .int k n1) (hn : n1 = (n : Int)) :
    ∃ oa', (execOp a.eval o).run P w = .ok (.value (.slice oa' 0 (cap - n))) w ∧ (oa' = none → oa = none) := by
  obtain ⟨hu, hs⟩ := hk
  cases hq : P.info? e with
  | none => simp [hq] at hs
  | some inf =>
    have hsz : inf.size = kk g := by simpa [hq] using hs
    subst hn
    have hmx : max (n : Int) 0 = n := by omega
    refine ⟨if cap = n then oa else oa.map (·.add (n * kk g)), ?_, fun h => ?_⟩
    · have hrun : (Instr.sliceAt t (.slice oa n cap) (lo.map a.eval) none none).run P w = .ok (.slice (if cap = n then oa else oa.map (·.add (n * kk g))) 0 (cap - n)) w := by
        have h0 : (n : Int) ≤ (cap : Int) := by omega
        rcases h1 with ⟨rfl, e1⟩ | ⟨y1, k1, rfl, e1⟩
        · have : n = 0 := by omega
          subst this
          simp [Instr.sliceAt, Instr.slice, Instr.sliceBounds, Instr.sliceBound, asIntOf, run_underlying hu, sizeOf, typeInfo, hq, hsz]
        · simp [Instr.sliceAt, Instr.slice, Instr.sliceBounds, Instr.sliceBound, asIntOf, run_underlying hu, sizeOf, typeInfo, hq, hsz, *]
      unfold execOp
      simp only [ho, hv, Option.map_none, Sem.run_bind, hrun, Result.andThen_ok, Sem.run_pure]
    · split at h
      · exact h
      · simpa using h
/-! ### What is read through an object's own memory -/
theorem RIs.at {w : World} : ∀ {c : List V} {cs : List Value} {f : List Nat} {i : Nat} {v : V}, RIs w c cs f → elt c i = some v → ∃ u f', cs[i]? = some u ∧ RI w v u f' ∧ f'.Sublist f
  | x :: r, u :: us, _, 0, v, ⟨f1, f2, h1, _, rfl⟩, h => by
    simp only [elt, Option.some.injEq] at h
    subst h
    exact ⟨u, f1, rfl, h1, List.sublist_append_left _ _⟩
  | x :: r, u :: us, _, i + 1, v, ⟨f1, f2, _, h2, rfl⟩, h => by
    obtain ⟨u', f', k1, k2, k3⟩ := RIs.at h2 (show elt r i = some v from h)
    exact ⟨u', f', by simpa using k1, k2, k3.trans (List.sublist_append_right _ _)⟩
  | [], _, _, _, _, _, h => by simp [elt] at h
  | _ :: _, [], _, _, _, h, _ => h.elim
/-- An element of an object. -/
theorem own_elem (g : Good ty zb st a.tmps w env) {n : Nat} {t : Tag} {l : List (T t)} (hl : look st.hp n = some (.arr t l)) {i : Nat} (hi : i < l.length) :
    ∃ b o cap cs f, (env n).v = .slice (some ⟨b, o, none⟩) l.length cap ∧ b ∈ (env n).fp ∧ w.rangeAt b (o + i * kk t) cs ∧ rd t w cs (l.getD i (dfl t)) f ∧ f.Sublist (env n).fp := by
  obtain ⟨oa, cap, hv, _, _, h3⟩ := RO.sl (g.obj n _ hl)
  rcases h3 with ⟨rfl, _⟩ | ⟨b, o, fps, rfl, hb, hfp, he⟩
  · simp at hi
  · have hx : l[i]? = some (l.getD i (dfl t)) := by rw [List.getD_eq_getElem?_getD, List.getElem?_eq_getElem hi]; rfl
    obtain ⟨f, hf⟩ := fps_some he.1 hx
    obtain ⟨cs, hr, hE⟩ := he.2 _ _ f hx hf
    exact ⟨b, o, cap, cs, f, hv, by rw [hfp]; simp, hr, hE, by rw [hfp]; exact (List.sublist_flatten_of_mem (List.mem_of_getElem? hf)).trans (List.sublist_cons_self _ _)⟩
theorem bor_ok {hp : Hp} {n : Nat} {t0 : Tag} {l0 : List (T t0)} (hl : look hp n = some (.arr t0 l0)) {p : Option (Nat × Nat)} {v : V} {u : Value} {f : List Nat} (h : RI w v u f) (hnd : f.Nodup) (hf : ∀ b, b ∈ f → b ∈ (env n).fp)
    (hp' : ∀ i off, p = some (i, off) → ∃ b o len cap, i < l0.length ∧ elt (dec t0 (l0.getD i (dfl t0))) off = some v ∧ (env n).v = .slice (some ⟨b, o, none⟩) len cap ∧ b ∈ (env n).fp ∧ w.cell? ⟨b, o + i * kk t0 + off, none⟩ = some u) : RA w hp env (bor n p v) u := by
  cases v with
  | sl t l =>
    refine ⟨⟨t0, l0, hl⟩, ⟨f, h, hnd, hf⟩, fun i off hio => ?_⟩
    obtain ⟨b, o, len, cap, h1, h2, h3, h4, h5⟩ := hp' i off hio
    exact ⟨t0, l0, b, o, len, cap, hl, h1, h2, h3, h4, h5⟩
  | lit x => exact ⟨h.1, h.2.1⟩
  | _ => trivial
theorem bors_ok {hp : Hp} {n : Nat} {t0 : Tag} {l0 : List (T t0)} (hl : look hp n = some (.arr t0 l0)) {i : Nat} (hi : i < l0.length) {b o len cap : Nat} (hv : (env n).v = .slice (some ⟨b, o, none⟩) len cap) (hb : b ∈ (env n).fp) :
    ∀ {c : List V} {us : List Value} {f : List Nat} {k : Nat}, RIs w c us f → f.Nodup → (∀ x, x ∈ f → x ∈ (env n).fp) → (∀ j v, c[j]? = some v → elt (dec t0 (l0.getD i (dfl t0))) (k + j) = some v) → w.rangeAt b (o + i * kk t0 + k) us → All2 (RA w hp env) (bors n i k c) us
  | [], [], _, _, _, _, _, _, _ => trivial
  | v :: r, u :: us, _, k, ⟨f1, f2, h1, h2, rfl⟩, hnd, hf, hc, hr => by
    obtain ⟨hn1, hn2, _⟩ := List.nodup_append.1 hnd
    refine ⟨bor_ok hl h1 hn1 (fun x hx => hf x (List.mem_append_left _ hx)) ?_, bors_ok hl hi hv hb h2 hn2 (fun x hx => hf x (List.mem_append_right _ hx)) ?_ ?_⟩
    · rintro i' off' hio
      simp only [Option.some.injEq, Prod.mk.injEq] at hio
      obtain ⟨rfl, rfl⟩ := hio
      exact ⟨b, o, len, cap, hi, hc 0 v rfl, hv, hb, by have := hr 0 u rfl; simpa using this⟩
    · intro j v' hj
      have := hc (j + 1) v' (by simpa using hj)
      rwa [show k + (j + 1) = k + 1 + j by omega] at this
    · intro j v' hj
      have := hr (j + 1) v' (by simpa using hj)
      rwa [show o + i * kk t0 + k + (j + 1) = o + i * kk t0 + (k + 1) + j by omega] at this
  | [], _ :: _, _, _, h, _, _, _, _ => h.elim
  | _ :: _, [], _, _, h, _, _, _, _ => h.elim
theorem borN_ok {hp : Hp} {n : Nat} {t0 : Tag} {l0 : List (T t0)} (hl : look hp n = some (.arr t0 l0)) :
    ∀ {c : List V} {us : List Value} {f : List Nat}, RIs w c us f → f.Nodup → (∀ x, x ∈ f → x ∈ (env n).fp) → All2 (RA w hp env) (borN n c) us
  | [], [], _, _, _, _ => trivial
  | v :: r, u :: us, _, ⟨f1, f2, h1, h2, rfl⟩, hnd, hf =>
    ⟨bor_ok hl h1 (List.nodup_append.1 hnd).1 (fun x hx => hf x (List.mem_append_left _ hx)) (by simp), borN_ok hl h2 (List.nodup_append.1 hnd).2.1 (fun x hx => hf x (List.mem_append_right _ hx))⟩
  | [], _ :: _, _, h, _, _ => h.elim
  | _ :: _, [], _, h, _, _ => h.elim
theorem elt_get : ∀ {l : List V} {i : Nat}, elt l i = l[i]?
  | [], _ => by simp [elt]
  | _ :: _, 0 => rfl
  | _ :: r, i + 1 => by rw [elt, elt_get (l := r)]; simp
theorem RIs.sub {w : World} {c d : List V} {cs : List Value} {f : List Nat} {off k : Nat} (h : RIs w c cs f) (hs : sub c off k = some d) : ∃ f', RIs w d ((cs.drop off).take k) f' ∧ f'.Sublist f ∧ d = (c.drop off).take k ∧ ((cs.drop off).take k).length = k := by
  have drop : ∀ (n : Nat) {c : List V} {cs : List Value} {f : List Nat}, RIs w c cs f → ∃ f', RIs w (c.drop n) (cs.drop n) f' ∧ f'.Sublist f := by
    intro n
    induction n with
    | zero => intro c cs f h; exact ⟨f, by simpa using h, List.Sublist.refl _⟩
    | succ n ih =>
      intro c cs f h
      cases c with
      | nil => cases cs with
        | nil => exact ⟨f, by simpa using h, List.Sublist.refl _⟩
        | cons _ _ => exact h.elim
      | cons v r => cases cs with
        | nil => exact h.elim
        | cons u us =>
          obtain ⟨f1, f2, _, h2, rfl⟩ := h
          obtain ⟨f', k1, k2⟩ := ih h2
          exact ⟨f', by simpa using k1, k2.trans (List.sublist_append_right _ _)⟩
  have take : ∀ (n : Nat) {c : List V} {cs : List Value} {f : List Nat}, RIs w c cs f → ∃ f', RIs w (c.take n) (cs.take n) f' ∧ f'.Sublist f := by
    intro n
    induction n with
    | zero => intro c cs f h; exact ⟨[], by simp [RIs], List.nil_sublist _⟩
    | succ n ih =>
      intro c cs f h
      cases c with
      | nil => cases cs with
        | nil => exact ⟨f, by simpa using h, List.Sublist.refl _⟩
        | cons _ _ => exact h.elim
      | cons v r => cases cs with
        | nil => exact h.elim
        | cons u us =>
          obtain ⟨f1, f2, h1, h2, rfl⟩ := h
          obtain ⟨f', k1, k2⟩ := ih h2
          exact ⟨f1 ++ f', ⟨f1, f', h1, k1, rfl⟩, List.Sublist.append (List.Sublist.refl _) k2⟩
  unfold G.sub at hs
  split at hs
  · rename_i hb
    have hb := Nat.le_of_ble_eq_true hb
    simp only [Option.some.injEq] at hs
    obtain ⟨f1, h1, h2⟩ := drop off h
    obtain ⟨f2, h3, h4⟩ := take k h1
    refine ⟨f2, by rw [← hs]; exact h3, h4.trans h2, hs.symm, ?_⟩
    have := h.len
    rw [List.length_take, List.length_drop]; omega
  · cases hs
/-- A view's element. -/
theorem vw_elem {n : Nat} {p : Option (Nat × Nat)} {t : Tag} {l : List (T t)} {u : Value} {k : Int} (h : RA w st.hp env (.vw n p t l) u) (h0 : 0 ≤ k) (h1 : k < l.length) :
    ∃ b off len cap, u = .slice (some ⟨b, off, none⟩) len cap ∧ k < len ∧ RA w st.hp env (.vip n (vpos p k.toNat) t (l.getD k.toNat (dfl t)) 0) (.pointer (some ⟨b, off + k.toNat * kk t, none⟩)) := by
  have hRV : RV w st.hp env n p t l u := h
  obtain ⟨hA, ⟨fp, ⟨oa, cap, rfl, hc, hm, h3⟩, hnd, hd⟩, _⟩ := h
  have hn : k.toNat < l.length := by omega
  rcases h3 with ⟨rfl, _⟩ | ⟨b, off, fps, rfl, hb, rfl, he⟩
  · simp at hn
  · have hx : l[k.toNat]? = some (l.getD k.toNat (dfl t)) := by rw [List.getD_eq_getElem?_getD, List.getElem?_eq_getElem hn]; rfl
    obtain ⟨f, hf⟩ := fps_some he.1 hx
    obtain ⟨cs, hr, hE⟩ := he.2 _ _ f hx hf
    refine ⟨b, off, l.length, cap, rfl, h1, hA, b, off + k.toNat * kk t, cs, f, rfl, hd b (by simp), hr, hE, ((List.sublist_flatten_of_mem (List.mem_of_getElem? hf)).trans (List.sublist_cons_self _ _)).nodup hnd, fun c hc => hd c (List.mem_cons_of_mem _ (mem_fps hf hc)), fun i o2 j hp => ?_⟩
    cases p with
    | none => cases hp
    | some ab =>
      obtain ⟨a1, b1⟩ := ab
      simp only [vpos, Option.some.injEq, Prod.mk.injEq] at hp
      obtain ⟨rfl, rfl, rfl⟩ := hp
      exact ⟨l, _, b, off, l.length, cap, hRV, hn, rfl, rfl, rfl⟩
theorem wp_slice_str {t : Nat} {x : Operand} {lo hi : Option Operand} (ho : o.op = .slice t x lo hi none) (hu : P.underlying t = some .string) {s : ByteArray} (hv : a.eval x = .string s) {n1 n2 : Int}
    (h1 : (lo = none ∧ n1 = 0) ∨ ∃ y k, lo = some y ∧ a.eval y = .int k n1) (h2 : (hi = none ∧ n2 = s.size) ∨ ∃ y k, hi = some y ∧ a.eval y = .int k n2) (q0 : 0 ≤ n1) (q1 : n1 ≤ n2) (q2 : n2 ≤ (s.size : Int)) :
    o.wp P a w (Does ty st a w env o.dst (.one (.a (.lit (.string (s.extract n1.toNat n2.toNat))))) []) Q := by
  have hn2 : 0 ≤ n2 := by omega
  have hmx : max n2 0 = n2 := by omega
  have hrun : (Instr.sliceAt t (.string s) (lo.map a.eval) (hi.map a.eval) none).run P w = .ok (.string (s.extract n1.toNat n2.toNat)) w := by
    rcases h1 with ⟨rfl, rfl⟩ | ⟨y1, k1, rfl, e1⟩ <;> rcases h2 with ⟨rfl, rfl⟩ | ⟨y2, k2, rfl, e2⟩
    all_goals simp [Instr.sliceAt, Instr.slice, Instr.sliceBounds, Instr.sliceBound, asIntOf, run_underlying hu, *]
  refine wp_one (u := .string (s.extract n1.toNat n2.toNat)) ?_ ⟨rfl, rfl⟩
  unfold execOp
  simp only [ho, hv, Option.map_none, Sem.run_bind, hrun, Result.andThen_ok, Sem.run_pure]
/-- Bytes, read as a string. -/
theorem run_bytes (g : Good ty zb st a.tmps w env) {v : V} {u : Value} (hr : RS1 w st.hp env (.a v) u) {l : List UInt8} (hl : bytesOf st v = some l) {s e t : Nat} (hs : P.underlying s = some (.slice e)) (he : P.underlying e = some (.int .u8)) (ht : P.underlying t = some .string) :
    (convert s t u).run P w = .ok (.string (str8 l)) w := by
  have key : ∀ {b off len cap : Nat}, len = l.length → (∀ i x, l[i]? = some x → w.cell? ⟨b, off + i, none⟩ = some (.int .u8 x.toNat)) → (convert s t (.slice (some ⟨b, off, none⟩) len cap)).run P w = .ok (.string (str8 l)) w := by
    intro b off len cap hlen hc
    rw [run_convert_bytes_arg w s e hs he b off len cap (l.map fun n => (n.toNat : Int)) (by simp [hlen]) (fun i hi => ?_) t ht, nums_str8]
    have hi2 : i < l.length := by omega
    rw [hc i _ (List.getElem?_eq_getElem hi2), List.getD_eq_getElem?_getD, List.getElem?_map, List.getElem?_eq_getElem hi2]
    rfl
  have nil : ∀ {c : Nat}, (convert s t (.slice none 0 c)).run P w = .ok (.string (str8 [])) w := by
    intro c
    rw [run_convert_bytes_nil w s e hs he 0 c t ht]; rfl
  have sl : ∀ {fp : List Nat}, Sl 1 EU8 w u l fp → (convert s t u).run P w = .ok (.string (str8 l)) w := by
    rintro fp ⟨oa, cap, rfl, _, _, h3⟩
    rcases h3 with ⟨rfl, _, _⟩ | ⟨b, off, fps, rfl, _, _, hE⟩
    · cases oa with
      | none => exact nil
      | some ad =>
        rw [run_convert_bytes_string w s t e _ _ _ hs he ht]
        exact run_bytes_empty ad cap
    · refine key rfl fun i x hx => ?_
      obtain ⟨f, hf⟩ := fps_some hE.1 hx
      obtain ⟨cs, q1, rfl, _⟩ := hE.2 i x f hx hf
      have := q1 0 _ rfl
      simpa using this
  unfold bytesOf at hl
  split at hl
  · simp only [Option.some.injEq] at hl
    subst hl
    obtain ⟨fp, h, _⟩ := hr
    exact sl h
  · rename_i n
    split at hl
    · rename_i l' hlk
      simp only [Option.some.injEq] at hl
      subst hl
      obtain ⟨_, hu⟩ := hr
      have hb : Sl 1 EU8 w (env n).v l' (env n).fp := RO.sl (g.obj n _ hlk)
      rw [← show u = (env n).v from hu] at hb
      exact sl hb
    · cases hl
  · simp only [Option.some.injEq] at hl
    subst hl
    obtain ⟨_, ⟨fp, h, _⟩, _⟩ := hr
    exact sl h
  · simp only [Option.some.injEq] at hl
    subst hl
    have hu := (show RS1 w st.hp env (.a (.lit nilv)) u from hr).lit
    rw [hu]
    exact nil
  · cases hl
theorem bnd_ok {p : List (Nat × Bool)} (hop : ∀ {x v}, opv st p x = some v → RS1 w st.hp env v (a.eval x)) {z n : Int} {b : Option Operand} (h : bnd st p z b = some n) : (b = none ∧ n = z) ∨ ∃ x k, b = some x ∧ a.eval x = .int k n := by
  cases b with
  | none => simp only [bnd, Option.some.injEq] at h; exact Or.inl ⟨rfl, h.symm⟩
  | some x =>
    simp only [bnd] at h
    split at h
    · rename_i k i hx
      simp only [Option.some.injEq] at h
      subst h
      exact Or.inr ⟨x, k, rfl, (hop hx).lit⟩
    · cases h
/-- A new slice. -/
theorem wp_newarr {m : Nat} {t : Tag} {l : List (T t)} {w' : World} {u : Value} {fp : List Nat} (hr : (execOp a.eval o).run P w = .ok (.value u) w') (hb : Below w.heap.size w w') (hB : Bld (kk t) (rd t) w.heap.size (ty t) w' u l fp) :
    o.wp P a w (Does ty st a w env o.dst (.one (.a (.own m))) [(m, .arr t l)]) Q := by
  unfold Oper.wp
  rw [hr]
  obtain ⟨env', hN, hl⟩ := News.list (ty := ty) (hp := st.hp) (env := env) (os := [(m, .arr t l)]) (ce := [⟨u, fp⟩]) hb (by simp [nodupk, look]) ⟨⟨fun _ _ => RO.ofBld (Bld.mono hB (Nat.zero_le _)), (Bld.own hB).ge⟩, trivial⟩ (by simpa using (Bld.own hB).nodup)
  have h2 : env' m = ⟨u, fp⟩ := hl.1.2
  exact ⟨u, env', rfl, hN, ⟨t, l, look_eq⟩, by rw [h2]⟩
theorem plain_ok {w : World} {hp : Hp} {env : Env} : ∀ {l : List V} {us : List Value}, plain l = true → All2 (RA w hp env) l us → RIs w l us [] := by
  intro l
  induction l with
  | nil => intro us _ h; cases us with
    | nil => rfl
    | cons _ _ => exact h.elim
  | cons v r ih =>
    intro us hpl h
    cases us with
    | nil => exact h.elim
    | cons u us =>
      unfold plain at hpl
      split at hpl
      · rename_i heq; cases heq
      · cases hpl
      · rename_i heq
        simp only [List.cons.injEq] at heq
        obtain ⟨rfl, rfl⟩ := heq
        exact ⟨[], [], ⟨h.1.1, h.1.2, rfl⟩, ih hpl h.2, rfl⟩
      · cases hpl
theorem own1_ok (g : Good ty zb st a.tmps w env) : ∀ {l c : List V} {n : Nat} {us : List Value}, All2 (RA w st.hp env) l us → own1 st.hp l = some (c, n) → ∃ t l', look st.hp n = some (.arr t l') ∧ RIs w c us (env n).fp
  | [], _, _, _, _, h => by simp [own1] at h
  | v :: r, c, n, us, hr, h => by
    cases us with
    | nil => exact hr.elim
    | cons u us =>
      unfold own1 at h
      split at h
      · rename_i m r' he
        simp only [List.cons.injEq] at he
        obtain ⟨rfl, rfl⟩ := he
        split at h
        · rename_i t l hl hpl
          simp only [Option.some.injEq, Prod.mk.injEq] at h
          obtain ⟨rfl, rfl⟩ := h
          obtain ⟨_, rfl⟩ := hr.1
          exact ⟨t, l, hl, _, [], RO.sl (g.obj m _ hl), plain_ok hpl hr.2, by simp⟩
        · cases h
      · cases h
      · rename_i x r' _ he
        simp only [List.cons.injEq] at he
        obtain ⟨rfl, rfl⟩ := he
        split at h
        · rename_i c' n' h'
          simp only [Option.some.injEq, Prod.mk.injEq] at h
          obtain ⟨rfl, rfl⟩ := h
          obtain ⟨t, l', h1, h2⟩ := own1_ok g hr.2 h'
          exact ⟨t, l', h1, [], _, ⟨hr.1.1, hr.1.2, rfl⟩, h2, by simp⟩
        · cases h
      · cases h
theorem own1_cells (g : Good ty zb st a.tmps w env) {s : S1} {u : Value} (hr : RS1 w st.hp env s u) {c : List V} {n : Nat} (h : own1 st.hp (cellsOf s) = some (c, n)) : All2 (RA w st.hp env) (cellsOf s) u.cells.toList := by
  cases s with
  | agg l => obtain ⟨cs, rfl, hl⟩ := hr; exact hl
  | a v =>
    have hv : v ≠ .any := by rintro rfl; simp [cellsOf, own1] at h
    have := one_cells g (show RA w st.hp env v u from hr) hv
    rw [this]
    exact ⟨hr, trivial⟩
theorem qparts_ok (g : Good ty zb st a.tmps w env) {p : List (Nat × Bool)} (hp : holds a.tmps p) {t : Tag} : ∀ {ps : List (Nat × Operand)} {i : Nat} {vc : List Prop} {xs : List (T t)}, qparts st p t i ps = some (vc, xs) → (∀ q, q ∈ vc → q) →
    (ps.map fun p => (p.1, a.eval p.2)) = seqv i (ps.map fun p => a.eval p.2) ∧ xs.length = ps.length ∧ ∀ (i : Nat) (x : T t), xs[i]? = some x → ∃ p : Nat × Operand, ps[i]? = some p ∧ rd t w (a.eval p.2).cells.toList x []
  | [], i, vc, xs, h, _ => by
    simp only [qparts, Option.some.injEq, Prod.mk.injEq] at h
    obtain ⟨rfl, rfl⟩ := h
    exact ⟨rfl, rfl, by simp⟩
  | (j, x) :: r, i, vc, xs, h, hv => by
    simp only [qparts] at h
    split at h
    · rename_i s hij hx
      have hij := Nat.eq_of_beq_eq_true hij
      subst hij
      split at h
      · rename_i vc1 y vcs ys hpl he hb
        simp only [Option.some.injEq, Prod.mk.injEq] at h
        obtain ⟨rfl, rfl⟩ := h
        obtain ⟨q1, q2, q3⟩ := qparts_ok g hp hb (fun q hq => hv q (List.mem_append_right _ hq))
        have hc : ∃ us, (a.eval x).cells.toList = us ∧ RIs w (cellsOf s) us [] := by
          have hs := opv_ok g hp hx
          have key : ∀ {l : List V} {us : List Value}, plain l = true → All2 (RA w st.hp env) l us → RIs w l us [] := by
            intro l
            induction l with
            | nil => intro us _ h; cases us with
              | nil => rfl
              | cons _ _ => exact h.elim
            | cons v r ih =>
              intro us hpl h
              cases us with
              | nil => exact h.elim
              | cons u us =>
                unfold plain at hpl
                split at hpl
                · rename_i heq; cases heq
                · cases hpl
                · rename_i heq
                  simp only [List.cons.injEq] at heq
                  obtain ⟨rfl, rfl⟩ := heq
                  exact ⟨[], [], ⟨h.1.1, h.1.2, rfl⟩, ih hpl h.2, rfl⟩
                · cases hpl
          cases s with
          | agg l =>
            obtain ⟨cs, hu, hl⟩ := hs
            exact ⟨cs, by rw [hu]; rfl, key hpl hl⟩
          | a v =>
            have hne : v ≠ .any := by rintro rfl; cases hpl
            exact ⟨[a.eval x], by rw [one_cells g hs hne], key hpl ⟨hs, trivial⟩⟩
        obtain ⟨us, hus, hri⟩ := hc
        refine ⟨by simp [seqv, q1], by simp [q2], fun i' x' hx' => ?_⟩
        cases i' with
        | zero =>
          simp at hx'
          subst hx'
          exact ⟨(i, x), rfl, by rw [hus]; exact enc_ok t he (fun q hq => hv q (List.mem_append_left _ hq)) hri⟩
        | succ n =>
          obtain ⟨p, h1, h2⟩ := q3 n x' (by simpa using hx')
          exact ⟨p, by simpa using h1, h2⟩
      · cases h
    · cases h
theorem iopv_ok (g : Good ty zb st a.tmps w env) {p : List (Nat × Bool)} (hp : holds a.tmps p) {x : Operand} {k : IntKind} {i : Int} (h : iopv st p x = some (k, i)) : a.eval x = .int k i := by
  unfold iopv at h
  split at h
  · rename_i k' i' hx
    simp only [Option.some.injEq, Prod.mk.injEq] at h
    obtain ⟨rfl, rfl⟩ := h
    exact (opv_ok g hp hx).lit
  · cases h
theorem iopvs_ok (g : Good ty zb st a.tmps w env) {p : List (Nat × Bool)} (hp : holds a.tmps p) : ∀ {xs : List Operand} {ys : List (IntKind × Int)}, iopvs st p xs = some ys → xs.map a.eval = ys.map fun y => .int y.1 y.2
  | [], ys, h => by simp only [iopvs, Option.some.injEq] at h; subst h; rfl
  | x :: r, ys, h => by
    simp only [iopvs] at h
    split at h
    · rename_i y ys' h1 h2
      simp only [Option.some.injEq] at h
      subst h
      rw [List.map_cons, List.map_cons, iopvs_ok g hp h2, iopv_ok g hp h1]
    · cases h
theorem foldi_ok {F : Int → Int → Int} {f : Value → Value → Sem Value} (hf : ∀ (k : IntKind) (x y : Int), f (.int k x) (.int k y) = pure (.int k (F x y))) {k : IntKind} : ∀ {ys : List (IntKind × Int)} {x z : Int}, foldi F k x ys = some z → (List.foldlM f (.int k x) (ys.map fun y => .int y.1 y.2)).run P w = .ok (.int k z) w
  | [], x, z, h => by simp only [foldi, Option.some.injEq] at h; subst h; rfl
  | (k', y) :: r, x, z, h => by
    simp only [foldi] at h
    split at h
    · rename_i hk _
      subst hk
      rw [List.map_cons, List.foldlM_cons, hf]
      simp only [pure_bind]
      exact foldi_ok hf h
    · cases h
/-- A struct out of its parts. -/
theorem bfill_ok (g : Good ty zb st a.tmps w env) {p : List (Nat × Bool)} (hp : holds a.tmps p) {n : Nat} {fo : List Nat} {pl : Nat → Option (Nat × Nat)} (hpl : ∀ j o k, offs fo j = some o → fsz n fo j = some k → pl j = some (o, k)) :
    ∀ {ps : List (Nat × Operand)} {c c' : List V} {cs : List Value}, bfill st p n fo ps c = some c' → All2 (RA w st.hp env) c cs →
      ∃ cs', Instr.fill pl (Array.mk cs) (ps.map fun q => (q.1, a.eval q.2)) = some (Array.mk cs') ∧ All2 (RA w st.hp env) c' cs'
  | [], c, c', cs, h, hc => by
    simp only [bfill, Option.some.injEq] at h
    subst h
    exact ⟨cs, rfl, hc⟩
  | (j, x) :: r, c, c', cs, h, hc => by
    simp only [bfill] at h
    split at h
    · rename_i o' k s h1 h2 hx
      split at h
      · rename_i c1 hna hs
        simp only [Bool.and_eq_true] at hna
        have hk := Nat.eq_of_beq_eq_true hna.2
        have hrs := opv_ok g hp hx
        have hcs : ∃ us, (a.eval x).cells = Array.mk us ∧ All2 (RA w st.hp env) (cellsOf s) us := by
          cases s with
          | agg l => obtain ⟨us, hu, hl⟩ := hrs; exact ⟨us, by rw [hu]; rfl, hl⟩
          | a v =>
            have hne : v ≠ .any := by rintro rfl; simp [cellsOf, noany] at hna
            exact ⟨[a.eval x], one_cells g hrs hne, hrs, trivial⟩
        obtain ⟨us, hus, hul⟩ := hcs
        obtain ⟨q1, q2⟩ := spl_all hc hul hs
        obtain ⟨cs', h3, h4⟩ := bfill_ok g hp hpl h q2
        refine ⟨cs', ?_, h4⟩
        rw [List.map_cons, Instr.fill, hpl j o' k h1 h2]
        simp only [hus]
        have hl := hul.len
        rw [if_neg (by simp; omega)]
        have hfold : ((Array.mk us).zipIdx.foldl (fun cs (x : Value × Nat) => cs.setIfInBounds (o' + x.2) x.1) (Array.mk cs)) = splice (Array.mk cs) o' us := by
          rw [← Array.foldl_toList, Array.toList_zipIdx, foldl_splice, Nat.add_zero]
        show Instr.fill _ ((Array.mk us).zipIdx.foldl (fun cs (x : Value × Nat) => cs.setIfInBounds (o' + x.2) x.1) (Array.mk cs)) _ = _
        rw [hfold, splice_list us cs o' q1]
        exact h3
      · cases h
    · cases h
theorem equalIn_bool {w : World} {t : Nat} {d : Nat} (hu : P.underlying t = some .bool) {x y : Bool} : (Op.equalIn (d + 1) t (.bool x) (.bool y)).run P w = .ok (x == y) w := by
  simp [Op.equalIn, run_underlying hu]
theorem mvt_ok {x : Operand} {op : Op} {out : Out} (hoo : o.op = op) (hm : op = .move x ∨ op = .assign x) (g : Good ty zb st a.tmps w env) (h : mvt st x = some out) : o.wp P a w (Does ty st a w env o.dst out.v out.o) Q := by
  unfold mvt at h
  split at h
  · rename_i t
    split at h
    · rename_i l hl
      simp only [Option.some.injEq] at h
      subst h
      have hr := g.slot t _ hl
      rcases hm with rfl | rfl
      · exact wp_value (by unfold execOp; simp only [hoo, Sem.run_pure]; rfl) hr
      · exact wp_value (by unfold execOp; simp only [hoo, Sem.run_pure]; rfl) hr
    · cases h
  · cases h
theorem quiet_ok {Γ : Nat → TK} (C : ∀ t, TKok P t (Γ t)) {cr : List (Nat × CR)} {p : List (Nat × Bool)} {d m : Nat} {out : Out} (h : quiet Γ (Elt P ty) (Sound ty P) cr st p d m o.op = some out)
    (g : Good ty zb st a.tmps w env) (hp : holds a.tmps p) (hA : Amb w) (hv : ∀ q, q ∈ out.vc → q) (hf : fresh st.hp out.o = true) (hn : nodupk out.o = true) :
    o.wp P a w (Does ty st a w env o.dst out.v out.o) Q := by
  have hop : ∀ {q x v}, holds a.tmps q → opv st q x = some v → RS1 w st.hp env v (a.eval x) := fun hq hx => opv_ok g hq hx
  generalize hoo : o.op = op at h
  cases op with
  | move x =>
    simp only [quiet] at h
    split at h
    · rename_i v hx
      simp only [out1, Option.some.injEq] at h
      subst h
      exact wp_one (by unfold execOp; simp only [hoo, Sem.run_pure]) (hop hp hx)
    · exact mvt_ok hoo (Or.inl rfl) g h
  | assign x =>
    simp only [quiet] at h
    split at h
    · rename_i v hx
      simp only [out1, Option.some.injEq] at h
      subst h
      exact wp_one (by unfold execOp; simp only [hoo, Sem.run_pure]) (hop hp hx)
    · exact mvt_ok hoo (Or.inr rfl) g h
  | pick c x y =>
    cases c with
    | tmp c =>
      simp only [quiet] at h
      split at h
      · rename_i t u v h1 h2 h3
        simp only [out1, Option.some.injEq] at h
        subst h
        have hc := (hop hp h1).lit
        have hc' : a.tmps[c]? = some (.bool t) := getD_undef hc
        refine wp_one (u := .bool (if t then u else v)) ?_ ⟨rfl, rfl⟩
        unfold execOp
        cases t with
        | true =>
          have hx := (hop (q := (c, true) :: p) (by intro e he; rcases List.mem_cons.1 he with rfl | he; exact hc'; exact hp e he) h2).lit
          simp [hoo, hc, hx, asBool]
        | false =>
          have hx := (hop (q := (c, false) :: p) (by intro e he; rcases List.mem_cons.1 he with rfl | he; exact hc'; exact hp e he) h3).lit
          simp [hoo, hc, hx, asBool]
      · cases h
    | _ => simp [quiet] at h
  | box e x =>
    simp only [quiet] at h
    split at h
    · rename_i l hx
      simp only [Option.some.injEq] at h
      subst h
      obtain ⟨cs, hu, hl⟩ := hop hp hx
      exact wp_newbox (cs := cs) (e := e) (by unfold execOp; simp [hoo, Instr.box, newVar, newRow, hu, Value.cells]) g hf hl
    · cases h
    · rename_i v hne hx
      simp only [Option.some.injEq] at h
      subst h
      have hr := hop hp hx
      have hc := one_cells g (show RA w st.hp env v (a.eval x) from hr) (fun e => hne e)
      exact wp_newbox (cs := [a.eval x]) (e := e) (by unfold execOp; simp [hoo, Instr.box, newVar, newRow, hc]) g hf ⟨hr, trivial⟩
    · cases h
  | alloc t =>
    simp only [quiet] at h
    split at h
    · rename_i z tg fo hk
      simp only [Option.some.injEq] at h
      subst h
      have hC := C t
      rw [hk] at hC
      obtain ⟨fs, hu, hi, h1, _⟩ := hC
      refine wp_newbox (cs := z) (e := t) ?_ g hf (zeros_ok h1)
      unfold execOp
      cases hq : P.info? t with
      | none => simp [hq] at hi
      | some i =>
        simp [hq] at hi
        simp [hoo, Instr.alloc, zeroValue, typeInfo, hq, hi.2, newVar, newRow, Value.cells]
    · cases h
  | load t x =>
    simp only [quiet] at h
    split at h
    · rename_i n off hx
      obtain ⟨_, b, hb, hu⟩ := hop hp hx
      split at h
      · rename_i c hl
        obtain ⟨b', cs, e, hco, hh, hc⟩ := g.obj n _ hl
        have hbb : b = b' := by
          rw [hco] at hb
          simpa using hb.symm
        subst hbb
        have hra : w.rangeAt b 0 cs := by simpa using rangeB hh
        split at h
        · rename_i z tg fo hk
          split at h
          · rename_i l hs
            simp only [out1, Option.some.injEq] at h
            subst h
            have hC := C t
            rw [hk] at hC
            obtain ⟨k1, k2⟩ := sub_ok hc hs
            exact wp_load_row hoo hC hu (by have := rangeAt_sub (k := z.length) (j := off) hra; rwa [Nat.zero_add] at this) k2 k1
          · cases h
        · cases h
        · rename_i k1 k2
          split at h
          · rename_i v hs
            simp only [out1, Option.some.injEq] at h
            subst h
            obtain ⟨u, q1, q2⟩ := hc.at (elt_eq hs)
            refine wp_load_one hoo (C t) ?_ ?_ hu (by have := rangeAt_elt hra q1; rwa [Nat.zero_add] at this) q2
            · intro z tg fo hz; exact k1 z tg fo hz
            · exact k2
          · cases h
      · cases h
    · rename_i gt y off hx
      obtain ⟨b, o', cs, fp, hu, _, hra, hE, _, hd⟩ := hop hp hx
      have hc := ip_cells hE hd
      split at h
      · rename_i z tg fo hk
        split at h
        · rename_i l hs
          simp only [out1, Option.some.injEq] at h
          subst h
          have hC := C t
          rw [hk] at hC
          obtain ⟨k1, k2⟩ := sub_ok hc hs
          exact wp_load_row hoo hC hu (rangeAt_sub hra) k2 k1
        · cases h
      · cases h
      · rename_i k1 k2
        split at h
        · rename_i v hs
          simp only [out1, Option.some.injEq] at h
          subst h
          obtain ⟨u, q1, q2⟩ := hc.at (elt_eq hs)
          refine wp_load_one hoo (C t) ?_ ?_ hu (rangeAt_elt hra q1) q2
          · intro z tg fo hz; exact k1 z tg fo hz
          · exact k2
        · cases h
    · rename_i n gt y off hx
      obtain ⟨⟨tA, lA, hl⟩, b, o', cs, fp, hu, hb, hra, hE, hd⟩ := hop hp hx
      have hR := reads gt hE
      split at h
      · rename_i z tg fo hk
        split at h
        · rename_i l hs
          simp only [out1, Option.some.injEq] at h
          subst h
          have hC := C t
          rw [hk] at hC
          obtain ⟨f', r1, r2, r3, r4⟩ := RIs.sub hR hs
          exact wp_load_row hoo hC hu (rangeAt_sub hra) r4 (borN_ok hl r1 (r2.nodup hd.1) (fun x hx => hd.2.1 x (r2.subset hx)))
        · cases h
      · cases h
      · rename_i k1 k2
        split at h
        · rename_i v hs
          simp only [out1, Option.some.injEq] at h
          subst h
          obtain ⟨u, f', q1, q2, q3⟩ := RIs.at hR hs
          refine wp_load_one hoo (C t) ?_ ?_ hu (rangeAt_elt hra q1) (bor_ok hl q2 (q3.nodup hd.1) (fun x hx => hd.2.1 x (q3.subset hx)) (by simp))
          · intro z tg fo hz; exact k1 z tg fo hz
          · exact k2
        · cases h
    · rename_i n i off hx
      obtain ⟨tA, lA, hlA, b, o', len, cap, hv1, hu⟩ := hop hp hx
      split at h
      · rename_i gt l hl
        rw [hl] at hlA
        simp only [Option.some.injEq, Obj.arr.injEq] at hlA
        obtain ⟨rfl, _⟩ := hlA
        split at h
        · rename_i z tg fo hk
          split at h
          · rename_i c hs
            simp only [Option.some.injEq] at h
            subst h
            have hi : i < l.length := hv _ (List.mem_singleton.2 rfl)
            obtain ⟨b2, o2, cap2, cs, f, hv2, hb, hra, hE, hd⟩ := own_elem g hl hi
            rw [hv2] at hv1
            simp only [Value.slice.injEq, Option.some.injEq, Addr.mk.injEq, and_true] at hv1
            obtain ⟨⟨rfl, rfl⟩, rfl, rfl⟩ := hv1
            have hC := C t
            rw [hk] at hC
            obtain ⟨f', r1, r2, r3, r4⟩ := RIs.sub (reads gt hE) hs
            refine wp_load_row hoo hC hu (rangeAt_sub hra) r4 (bors_ok hl hi hv2 hb r1 ((r2.trans hd).nodup (RO.own (g.obj _ _ hl)).nodup) (fun x hx => hd.subset (r2.subset hx)) (fun j v hj => ?_) (rangeAt_sub hra))
            rw [r3, List.getElem?_take] at hj
            split at hj
            · rw [List.getElem?_drop] at hj; rw [elt_get]; exact hj
            · cases hj
          · cases h
        · cases h
        · rename_i k1 k2
          split at h
          · rename_i v hs
            simp only [Option.some.injEq] at h
            subst h
            have hi : i < l.length := hv _ (List.mem_singleton.2 rfl)
            obtain ⟨b2, o2, cap2, cs, f, hv2, hb, hra, hE, hd⟩ := own_elem g hl hi
            rw [hv2] at hv1
            simp only [Value.slice.injEq, Option.some.injEq, Addr.mk.injEq, and_true] at hv1
            obtain ⟨⟨rfl, rfl⟩, rfl, rfl⟩ := hv1
            obtain ⟨u, f', q1, q2, q3⟩ := RIs.at (reads gt hE) hs
            refine wp_load_one hoo (C t) ?_ ?_ hu (rangeAt_elt hra q1) (bor_ok hl q2 ((q3.trans hd).nodup (RO.own (g.obj _ _ hl)).nodup) (fun x hx => hd.subset (q3.subset hx)) ?_)
            · intro z tg fo hz; exact k1 z tg fo hz
            · exact k2
            · rintro i' off' hio
              simp only [Option.some.injEq, Prod.mk.injEq] at hio
              obtain ⟨rfl, rfl⟩ := hio
              exact ⟨b2, o2, _, cap2, hi, hs, hv2, hb, rangeAt_elt hra q1⟩
          · cases h
      · cases h
    · cases h
  | binOp op t x y t' =>
    simp only [quiet] at h
    split at h
    · rename_i k m k' m' h1 h2
      split at h
      · rename_i vc v hb
        simp only [Option.some.injEq] at h
        subst h
        have hx := (hop hp h1).lit
        have hy := (hop hp h2).lit
        obtain ⟨q1, q2⟩ := ibop_ok (P := P) (w := w) hb hv (t := t) (X := x) (Y := y)
        refine wp_one (u := v) ?_ ⟨rfl, q2⟩
        unfold execOp
        simp only [hoo, hx, hy]
        rw [Sem.run_bind, q1]
        rfl
      · cases h
    · rename_i m m' h1 h2
      split at h
      · rename_i vc v hb
        simp only [Option.some.injEq] at h
        subst h
        have hx := (hop hp h1).lit
        have hy := (hop hp h2).lit
        obtain ⟨q1, q2⟩ := sbop_ok (P := P) (w := w) hb hv (t := t) (X := x) (Y := y)
        refine wp_one (u := v) ?_ ⟨rfl, q2⟩
        unfold execOp
        simp only [hoo, hx, hy]
        rw [Sem.run_bind, q1]
        rfl
      · cases h
    · rename_i m m' h1 h2
      have hx := (hop hp h1).lit
      have hy := (hop hp h2).lit
      have hC := C t
      split at h
      · rename_i hk
        rw [hk] at hC
        simp only [out1, Option.some.injEq] at h
        subst h
        refine wp_one (u := .bool (m == m')) ?_ ⟨rfl, rfl⟩
        unfold execOp
        simp only [hoo, hx, hy]
        have he : (Op.equal t (.bool m) (.bool m')).run P w = .ok (m == m') w := equalIn_bool hC
        simp [eqGuard, binOp, he]
      · rename_i hk
        rw [hk] at hC
        simp only [out1, Option.some.injEq] at h
        subst h
        refine wp_one (u := .bool (m != m')) ?_ ⟨rfl, rfl⟩
        unfold execOp
        simp only [hoo, hx, hy]
        have he : (Op.equal t (.bool m) (.bool m')).run P w = .ok (m == m') w := equalIn_bool hC
        simp [eqGuard, binOp, he]
        cases m <;> cases m' <;> rfl
      · cases h
    · cases h
  | unOp op t x =>
    cases op with
    | not =>
      simp only [quiet] at h
      split at h
      · rename_i b hx
        simp only [out1, Option.some.injEq] at h
        subst h
        have hx := (hop hp hx).lit
        refine wp_one (u := .bool (!b)) ?_ ⟨rfl, rfl⟩
        unfold execOp
        simp [hoo, hx, Op.unary]
      · cases h
    | neg =>
      simp only [quiet] at h
      split at h
      · rename_i k n hx
        simp only [out1, Option.some.injEq] at h
        subst h
        have hx := (hop hp hx).lit
        refine wp_one (u := .int k (k.wrap (0 - n))) ?_ ⟨rfl, rfl⟩
        unfold execOp
        simp [hoo, hx, Op.unary, Op.intArith]
      · cases h
    | _ => simp [quiet] at h
  | convert s t x =>
    simp only [quiet] at h
    split at h
    · rename_i k n k1 k2 hx hk1 hk2
      simp only [out1, Option.some.injEq] at h
      subst h
      have hx := (hop hp hx).lit
      have c1 := C s
      have c2 := C t
      rw [hk1] at c1
      rw [hk2] at c2
      refine wp_one (u := .int k2 (k2.wrap n)) ?_ ⟨rfl, rfl⟩
      unfold execOp
      simp [hoo, hx, convert, run_underlying (show P.underlying s = _ from c1), run_underlying (show P.underlying t = _ from c2), Conv.intToInt]
    · rename_i v g' e hx hk1 hk2
      split at h
      · rename_i l hk3 hl
        simp only [out1, Option.some.injEq] at h
        subst h
        have c1 := C s
        have c2 := C t
        have c3 := C e
        rw [hk1] at c1
        rw [hk2] at c2
        rw [hk3] at c3
        have := run_bytes g (hop hp hx) hl c1.1 c3 c2
        refine wp_one (u := .string (str8 l)) ?_ ⟨rfl, rfl⟩
        unfold execOp
        simp only [hoo, Sem.run_bind, this, Result.andThen_ok, Sem.run_pure]
      · cases h
    · cases h
  | slice t x lo hi mx =>
    cases mx with
    | some _ => simp [quiet] at h
    | none =>
      simp only [quiet] at h
      split at h
      · rename_i gt e hk
        have hC := C t
        rw [hk] at hC
        split at h
        · split at h
          · rename_i n p' t' l n1 hx h1
            simp only [Option.some.injEq] at h
            subst h
            have hlo : n1 = (l.length : Int) := hv _ (List.mem_singleton.2 rfl)
            obtain ⟨hA, ⟨fp, ⟨oa, cap, hu, hc, hm, h3⟩, hnd, hd⟩, _⟩ := hop hp hx
            have hz : oa = none → cap = 0 := by
              intro ho
              rcases h3 with ⟨_, _, h4⟩ | ⟨b, off, fps, h4, _⟩
              · exact h4 ho
              · rw [ho] at h4; cases h4
            obtain ⟨oa', r1, r2⟩ := run_tail (P := P) (w := w) hoo hC hu hc (bnd_ok (hop hp) h1) hlo
            refine wp_one r1 ⟨[], ⟨oa', cap - l.length, rfl, Nat.zero_le _, by omega, Or.inl ⟨rfl, rfl, fun ho => ?_⟩⟩, by simp⟩
            rw [hz (r2 ho)]; omega
          · rename_i k n1 hx h1
            simp only [Option.some.injEq] at h
            subst h
            have hlo : n1 = (k : Int) := hv _ (List.mem_singleton.2 rfl)
            obtain ⟨oa, cap, hu, hc, hm, hz⟩ := hop hp hx
            obtain ⟨oa', r1, r2⟩ := run_tail (P := P) (w := w) hoo hC hu hc (bnd_ok (hop hp) h1) hlo
            refine wp_one r1 ⟨[], ⟨oa', cap - k, rfl, Nat.zero_le _, by omega, Or.inl ⟨rfl, rfl, fun ho => ?_⟩⟩, by simp⟩
            rw [hz (r2 ho)]; omega
          · cases h
        split at h
        · rename_i t' l n1 hx h1
          split at h
          · rename_i n2 h2
            split at h
            · rename_i hkk
              have hkk := Nat.eq_of_beq_eq_true hkk
              simp only [Option.some.injEq] at h
              subst h
              obtain ⟨q0, q1, q2⟩ := hv _ (List.mem_singleton.2 rfl)
              obtain ⟨fp, hs, hd⟩ := hop hp hx
              obtain ⟨u', fp', r1, r2, r3⟩ := run_slice hoo hC hkk hs (bnd_ok (hop hp) h1) (bnd_ok (hop hp) h2) q0 q1 q2
              exact wp_one r1 ⟨fp', r2, fun b hb => hd b (r3.subset hb)⟩
            · cases h
          · cases h
        · rename_i n p' t' l n1 hx h1
          split at h
          · rename_i n2 h2
            split at h
            · rename_i hkk
              have hkk := Nat.eq_of_beq_eq_true hkk
              simp only [Option.some.injEq] at h
              subst h
              obtain ⟨q0, q1, q2⟩ := hv _ (List.mem_singleton.2 rfl)
              obtain ⟨hA, ⟨fp, hs, hnd, hd⟩, _⟩ := hop hp hx
              obtain ⟨u', fp', r1, r2, r3⟩ := run_slice hoo hC hkk hs (bnd_ok (hop hp) h1) (bnd_ok (hop hp) h2) q0 q1 q2
              exact wp_one r1 ⟨hA, ⟨fp', r2, r3.nodup hnd, fun b hb => hd b (r3.subset hb)⟩, by simp⟩
            · cases h
          · cases h
        · rename_i n n1 hx h1
          split at h
          · rename_i t' l hl
            split at h
            · rename_i n2 h2
              split at h
              · rename_i hkk
                have hkk := Nat.eq_of_beq_eq_true hkk
                simp only [Option.some.injEq] at h
                subst h
                obtain ⟨q0, q1, q2⟩ := hv _ (List.mem_singleton.2 rfl)
                obtain ⟨hA, hu⟩ := hop hp hx
                have hs := RO.sl (g.obj n _ hl)
                rw [← show a.eval x = (env n).v from hu] at hs
                obtain ⟨u', fp', r1, r2, r3⟩ := run_slice hoo hC hkk hs (bnd_ok (hop hp) h1) (bnd_ok (hop hp) h2) q0 q1 q2
                exact wp_one r1 ⟨hA, ⟨fp', r2, r3.nodup (RO.own (g.obj n _ hl)).nodup, fun b hb => r3.subset hb⟩, by simp⟩
              · cases h
            · cases h
          · cases h
        · cases h
      · rename_i hk
        have hC := C t
        rw [hk] at hC
        split at h
        · rename_i s n1 hx h1
          split at h
          · rename_i n2 h2
            simp only [Option.some.injEq] at h
            subst h
            obtain ⟨q0, q1, q2⟩ := hv _ (List.mem_singleton.2 rfl)
            exact wp_slice_str hoo hC (hop hp hx).lit (bnd_ok (hop hp) h1) (bnd_ok (hop hp) h2) q0 q1 q2
          · cases h
        · cases h
      · cases h
  | makeFunc fn first captured =>
    cases fn with
    | func f =>
      simp only [quiet] at h
      split at h
      · rename_i x hf hc
        split at h
        · rename_i n hx
          simp only [out1, Option.some.injEq] at h
          subst h
          obtain ⟨hA, b, hb, hu⟩ := hop hp hx
          have e1 : first = #[] := by cases first; simp_all
          have e2 : captured = #[x] := by cases captured; simp_all
          refine wp_one (u := .func (.func f) #[] #[.pointer (some ⟨b, 0, none⟩)]) ?_ ⟨hA, b, hb, rfl⟩
          unfold execOp
          simp [hoo, Instr.makeFunc, e1, e2, hu]
        · cases h
      · cases h
    | _ => simp [quiet] at h
  | fieldAddr t x f =>
    simp only [quiet] at h
    split at h
    · rename_i z tg fo hk
      have hC := C t
      rw [hk] at hC
      split at h
      · rename_i k hf'
        split at h
        · rename_i n off hx
          simp only [out1, Option.some.injEq] at h
          subst h
          obtain ⟨hc, b, hb, hu⟩ := hop hp hx
          exact wp_fieldAddr hoo hC hf' hu ⟨hc, b, hb, rfl⟩
        · rename_i gt y off hx
          simp only [out1, Option.some.injEq] at h
          subst h
          obtain ⟨b, o', cs, fp, hu, k1⟩ := hop hp hx
          exact wp_fieldAddr hoo hC hf' hu ⟨b, o', cs, fp, by rw [Nat.add_assoc], k1⟩
        · rename_i n i off hx
          simp only [out1, Option.some.injEq] at h
          subst h
          obtain ⟨t', l, hl, b, o', len, cap, hb, hu⟩ := hop hp hx
          exact wp_fieldAddr hoo hC hf' hu ⟨t', l, hl, b, o', len, cap, hb, by rw [Nat.add_assoc]⟩
        · rename_i n gt y off hx
          simp only [out1, Option.some.injEq] at h
          subst h
          obtain ⟨hA, b, o', cs, fp, hu, k1, k2, k3, knd, k4, k5⟩ := hop hp hx
          refine wp_fieldAddr hoo hC hf' hu ⟨hA, b, o', cs, fp, by rw [Nat.add_assoc], k1, k2, k3, knd, k4, fun i o2 j hq => ?_⟩
          obtain ⟨l, u0, b0, off0, len, cap, j1, j2, j3, j4, j5⟩ := k5 i o2 j hq
          rw [hu] at j5
          simp only [Value.pointer.injEq, Option.some.injEq, Addr.mk.injEq, and_true] at j5
          obtain ⟨rfl, j5⟩ := j5
          exact ⟨l, u0, b, off0, len, cap, j1, j2, j3, j4, by rw [j5, Nat.add_assoc]⟩
        · cases h
      · cases h
    · cases h
  | indexAddr t x i =>
    simp only [quiet] at h
    split at h
    · rename_i gt e hk
      have hC := C t
      rw [hk] at hC
      split at h
      · rename_i t' l ik n hx hi
        split at h
        · rename_i hkk
          have hkk := Nat.eq_of_beq_eq_true hkk
          simp only [Option.some.injEq] at h
          subst h
          obtain ⟨h0, h1⟩ := hv _ (List.mem_singleton.2 rfl)
          have hx := hop hp hx
          have hi := (hop hp hi).lit
          obtain ⟨b, off, len, cap, hu, hlt, hr⟩ := sl_elem hx h0 h1
          exact wp_indexAddr hoo hC hu hi h0 hlt (by rw [hkk]; exact hr)
        · cases h
      · rename_i m ik n hx hi
        split at h
        · rename_i t' l hl
          split at h
          · rename_i hkk
            have hkk := Nat.eq_of_beq_eq_true hkk
            simp only [Option.some.injEq] at h
            subst h
            obtain ⟨h0, h1⟩ := hv _ (List.mem_singleton.2 rfl)
            obtain ⟨_, hu⟩ := hop hp hx
            have hi := (hop hp hi).lit
            obtain ⟨b, o', cap, cs, f, hs, _⟩ := own_elem g hl (i := n.toNat) (by omega)
            exact wp_indexAddr hoo hC (hu.trans hs) hi h0 h1 ⟨t', l, hl, b, o', _, cap, hs, by rw [hkk]; simp⟩
          · cases h
        · cases h
      · rename_i m p' t' l ik n hx hi
        split at h
        · rename_i hkk
          have hkk := Nat.eq_of_beq_eq_true hkk
          simp only [Option.some.injEq] at h
          subst h
          obtain ⟨h0, h1⟩ := hv _ (List.mem_singleton.2 rfl)
          have hx := hop hp hx
          have hi := (hop hp hi).lit
          obtain ⟨b, off, len, cap, hu, hlt, hr⟩ := vw_elem hx h0 h1
          exact wp_indexAddr hoo hC hu hi h0 hlt (by rw [hkk]; exact hr)
        · cases h
      · cases h
    · cases h
  | makeSlice t x y =>
    simp only [quiet] at h
    split at h
    · rename_i gt e hk
      have hC := C t
      rw [hk] at hC
      split at h
      · rename_i k1 n1 k2 n2 hx hy
        simp only [Option.some.injEq] at h
        subst h
        have hE : Elt P ty gt e := hv _ (by simp)
        have hab : n1 = n2 := hv _ (by simp)
        have h0 : 0 ≤ n1 := hv _ (by simp)
        obtain ⟨h1, h2⟩ : n1.toNat * byt gt ≤ 140737488355328 ∧ n1.toNat ≤ maxLen := hv _ (by simp)
        subst hab
        obtain ⟨rfl, hEl⟩ := hE
        obtain ⟨w', u, fp, r1, r2, r3⟩ := run_made (P := P) (w := w) (a := a) hoo hC.1 hEl (hop hp hx).lit (hop hp hy).lit h0 h1 h2
        exact wp_newarr r1 r2 r3
      · cases h
    · cases h
  | buildSlice t len parts =>
    simp only [quiet] at h
    split at h
    · rename_i gt e hk
      have hC := C t
      rw [hk] at hC
      split at h
      · split at h
        case h_2 => cases h
        rename_i x hlen hps
        split at h
        case h_2 => cases h
        rename_i s hx
        split at h
        case h_2 => cases h
        rename_i c n hc
        split at h
        case h_2 => cases h
        rename_i vc y he hbig
        simp only [Option.some.injEq] at h
        subst h
        have hE : Elt P ty gt e := hv _ (by simp)
        obtain ⟨rfl, hEl⟩ := hE
        have hs := hop hp hx
        obtain ⟨tA, lA, hl, hri⟩ := own1_ok g (own1_cells g hs hc) hc
        have hrd := enc_ok gt he (fun q hq => hv q (by simp [hq])) hri
        have hlen := Nat.eq_of_beq_eq_true hlen
        subst hlen
        have hO := RO.own (g.obj n _ hl)
        have hfl : ([(env n).fp] : List (List Nat)).flatten = (env n).fp := by simp
        obtain ⟨w', r1, r2, r3⟩ := run_built (P := P) (w := w) (a := a) hoo hC.1 hEl (by rw [Nat.one_mul]; exact Nat.le_of_ble_eq_true hbig) (by rw [hps]; rfl) (Nat.zero_le _) (xs := [y]) (fps := [(env n).fp]) (by rw [hps]; rfl) (by rw [hps]; rfl) rfl
          (fun i x' f hx' hf => by
            cases i with
            | zero => simp at hx' hf; subst hx'; subst hf; exact ⟨(0, x), by rw [hps]; rfl, hrd⟩
            | succ i => simp at hx') (by rw [hfl]; exact hO)
        rw [hfl] at r3
        unfold Oper.wp
        rw [r1]
        refine ⟨_, env, rfl, News.none r2, ⟨tA, lA, hl⟩, w.heap.size, (env n).fp, Bld.sl r3, fun ho => ?_, hO.nodup, fun _ h => h⟩
        have := (g.ow ho).2
        omega
      split at h
      · rename_i vc xs hlen hbig hb
        simp only [Option.some.injEq] at h
        subst h
        have hE : Elt P ty gt e := hv _ (by simp)
        obtain ⟨rfl, hEl⟩ := hE
        obtain ⟨q1, q2, q3⟩ := qparts_ok g hp hb (fun q hq => hv q (by simp [hq]))
        have hfl : (List.replicate xs.length ([] : List Nat)).flatten = [] := by simp
        obtain ⟨w', r1, r2, r3⟩ := run_built (P := P) (w := w) (a := a) hoo hC.1 hEl (Nat.le_of_ble_eq_true hbig) (Nat.eq_of_beq_eq_true hlen) (Nat.le_refl _) (xs := xs) (fps := List.replicate xs.length []) q1 q2 (by simp)
          (fun i x f hx hf => by
            obtain ⟨p, h1, h2⟩ := q3 i x hx
            rw [List.getElem?_replicate] at hf
            split at hf
            · simp only [Option.some.injEq] at hf; subst hf; exact ⟨p, h1, h2⟩
            · cases hf) (by rw [hfl]; exact Own.nil _ _)
        exact wp_newarr r1 r2 r3
      · cases h
    · cases h
  | build t parts =>
    simp only [quiet] at h
    split at h
    · rename_i z tg fo hk
      have hC := C t
      rw [hk] at hC
      obtain ⟨fs, hu, hi, h1, _, places, hpm, hpl⟩ := hC
      split at h
      · rename_i c hb
        simp only [out1, Option.some.injEq] at h
        subst h
        cases hq : P.info? t with
        | none => simp [hq] at hi
        | some inf =>
          simp [hq] at hi
          obtain ⟨cs', h3, h4⟩ := bfill_ok (st := st) (zb := zb) g hp (pl := fun j => places[j]?) hpl hb (zeros_ok h1)
          refine wp_one (u := .agg (Array.mk cs')) ?_ ⟨cs', rfl, h4⟩
          have hrun := run_build (P := P) w t (parts.map fun (q : Nat × Operand) => (q.1, a.eval q.2)) (Array.mk cs') (by
            unfold Program.built
            rw [hq, hu]
            simp only [hi.2, hpm]
            rw [Array.toList_map]
            simpa [Value.cells] using h3)
          unfold execOp
          simp only [hoo, Sem.run_bind, hrun, Result.andThen_ok, Sem.run_pure]
      · cases h
    · cases h
  | nilCheck x =>
    simp only [quiet] at h
    split at h
    · rename_i n off hx
      simp only [out1, Option.some.injEq] at h
      subst h
      obtain ⟨hA, b, hb, hu⟩ := hop hp hx
      refine wp_one (u := a.eval x) ?_ ⟨hA, b, hb, hu⟩
      unfold execOp
      simp [hoo, hu]
    · rename_i n i off hx
      simp only [out1, Option.some.injEq] at h
      subst h
      obtain ⟨t, l, hl, b, o', len, cap, hb, hu⟩ := hop hp hx
      refine wp_one (u := a.eval x) ?_ ⟨t, l, hl, b, o', len, cap, hb, hu⟩
      unfold execOp
      simp [hoo, hu]
    · cases h
  | extract x i =>
    cases x with
    | tmp t =>
      simp only [quiet] at h
      split at h
      · rename_i l hl
        split at h
        · rename_i x hx
          simp only [out1, Option.some.injEq] at h
          subst h
          obtain ⟨us, hu, hl2⟩ := g.slot t _ hl
          obtain ⟨u, k1, k2⟩ := hl2.at hx
          refine wp_one ?_ k2
          unfold execOp
          have hu' : a.eval (.tmp t) = .tuple us.toArray := hu
          simp [hoo, hu', Instr.extract, k1]
        · cases h
      · cases h
    | _ => simp [quiet] at h
  | call c =>
    obtain ⟨callee, xs, ts⟩ := c
    cases callee with
    | value x =>
      cases x with
      | func f =>
        simp only [quiet] at h
        split at h
        · rename_i as c h1 h2
          simp only [Option.some.injEq] at h
          obtain ⟨own, rs⟩ := c
          have hvc : out.vc = [Sound ty P f as rs] := by
            rw [← h]
            unfold outs
            dsimp only
            (repeat' split) <;> rfl
          exact wp_call hoo rfl (hv _ (by rw [hvc]; simp)) hA g (args_ok g hp h1) h hn
        · cases h
      | tmp x =>
        simp only [quiet] at h
        split at h
        · rename_i v hx
          split at h
          · rename_i f hfn
            split at h
            · rename_i as c h1 h2
              simp only [Option.some.injEq] at h
              obtain ⟨own, rs⟩ := c
              have hvc : out.vc = [Sound ty P f as rs] := by
                rw [← h]
                unfold outs
                dsimp only
                (repeat' split) <;> rfl
              exact wp_call hoo (fnOf_ok (hop hp hx) hfn) (hv _ (by rw [hvc]; simp)) hA g (args_ok g hp h1) h hn
            · cases h
          · cases h
        · cases h
      | _ => simp [quiet] at h
    | builtin b =>
      cases b with
      | max =>
        simp only [quiet] at h
        split at h
        · rename_i k x r hxs
          split at h
          · rename_i y hy
            simp only [out1, Option.some.injEq] at h
            subst h
            have he := iopvs_ok g hp hxs
            refine wp_one (u := .int k y) ?_ ⟨rfl, rfl⟩
            have hf := foldi_ok (P := P) (w := w) (f := Builtin.max2) (F := maxi) (fun k x y => rfl) hy
            unfold execOp
            simp [hoo, resolve, invoke, builtin, Builtin.max_, he, hf]
          · cases h
        · cases h
      | min =>
        simp only [quiet] at h
        split at h
        · rename_i k x r hxs
          split at h
          · rename_i y hy
            simp only [out1, Option.some.injEq] at h
            subst h
            have he := iopvs_ok g hp hxs
            refine wp_one (u := .int k y) ?_ ⟨rfl, rfl⟩
            have hf := foldi_ok (P := P) (w := w) (f := Builtin.min2) (F := mini) (fun k x y => rfl) hy
            unfold execOp
            simp [hoo, resolve, invoke, builtin, Builtin.min_, he, hf]
          · cases h
        · cases h
      | len =>
        simp only [quiet] at h
        split at h
        · rename_i x t hxl htl
          obtain rfl : xs = #[x] := by cases xs; simp_all
          obtain rfl : ts = #[t] := by cases ts; simp_all
          split at h
          · rename_i v hx
            split at h
            · rename_i n hn'
              simp only [out1, Option.some.injEq] at h
              subst h
              have hr := hop hp hx
              have hC := C t
              cases v with
              | sl t' l =>
                simp only [lenOf] at hn'
                split at hn'
                · rename_i g' e' hk
                  simp only [Option.some.injEq] at hn'
                  subst hn'
                  rw [hk] at hC
                  obtain ⟨fp, ⟨oa, cap, hu, _⟩, _⟩ := hr
                  exact wp_len rfl hoo hC.1 hu (Or.inl ⟨_, oa, cap, l.length, rfl, rfl, rfl⟩)
                · cases hn'
              | own m =>
                simp only [lenOf] at hn'
                split at hn'
                · rename_i g' e' hk
                  rw [hk] at hC
                  split at hn'
                  · rename_i t' l hl
                    simp only [Option.some.injEq] at hn'
                    subst hn'
                    obtain ⟨_, hu⟩ := hr
                    obtain ⟨oa, cap, hs, _⟩ := RO.sl (g.obj m _ hl)
                    exact wp_len rfl hoo hC.1 (hu.trans hs) (Or.inl ⟨_, oa, cap, l.length, rfl, rfl, rfl⟩)
                  · cases hn'
                · cases hn'
              | vw m p' t' l =>
                simp only [lenOf] at hn'
                split at hn'
                · rename_i g' e' hk
                  simp only [Option.some.injEq] at hn'
                  subst hn'
                  rw [hk] at hC
                  obtain ⟨_, ⟨fp, ⟨oa, cap, hu, _⟩, _⟩, _⟩ := hr
                  exact wp_len rfl hoo hC.1 hu (Or.inl ⟨_, oa, cap, l.length, rfl, rfl, rfl⟩)
                · cases hn'
              | lit v =>
                have hu := (show RS1 w st.hp env (.a (.lit v)) _ from hr).lit
                simp only [lenOf] at hn'
                split at hn'
                · rename_i heq; cases heq
                · rename_i heq; cases heq
                · rename_i heq; cases heq
                · rename_i heq
                  simp only [V.lit.injEq] at heq
                  subst heq
                  split at hn'
                  · rename_i g' e' hk
                    simp only [Option.some.injEq] at hn'
                    subst hn'
                    rw [hk] at hC
                    exact wp_len rfl hoo hC.1 hu (Or.inl ⟨_, none, 0, 0, rfl, rfl, rfl⟩)
                  · cases hn'
                · rename_i s heq
                  simp only [V.lit.injEq] at heq
                  subst heq
                  split at hn'
                  · rename_i hk
                    simp only [Option.some.injEq] at hn'
                    subst hn'
                    rw [hk] at hC
                    exact wp_len rfl hoo hC hu (Or.inr ⟨_, rfl, rfl, rfl⟩)
                  · cases hn'
                · cases hn'
              | _ => simp [lenOf] at hn'
            · cases h
          · cases h
        · cases h
      | _ => simp [quiet] at h
    | invoke _ _ => simp [quiet] at h
  | _ => simp [quiet] at h
end
end Go.Proofs.YthjedjndamejmaaGreat.G
namespace Go.Proofs.YthjedjndamejmaaGreat.G
set_option linter.all false
open Go.RowKit L D
variable {ty : Tag → Nat}
theorem look_map {α : Type} {f : Nat × α → α} : ∀ {l : List (Nat × α)} {s : Nat}, look (l.map fun e => (e.1, f e)) s = (look l s).map fun x => f (s, x)
  | [], _ => rfl
  | (j, x) :: r, s => by
    by_cases h : s = j
    · subst h; rw [List.map_cons, look_eq, look_eq]; rfl
    · rw [List.map_cons, look_ne h, look_ne h]; exact look_map
theorem holds_put {tmps : Array Value} {d : Nat} {u : Value} {p : List (Nat × Bool)} (h : (p.any fun e => Nat.beq e.1 d) = false) : holds (tmps.setIfInBounds d u) p ↔ holds tmps p := by
  have hne : ∀ e, e ∈ p → d ≠ e.1 := by
    rintro e he rfl
    rw [List.any_eq_false] at h
    exact h e he (by simp)
  constructor
  · intro hh e he
    have := hh e he
    rwa [Array.getElem?_setIfInBounds_ne (hne e he)] at this
  · intro hh e he
    rw [Array.getElem?_setIfInBounds_ne (hne e he)]
    exact hh e he
theorem RSV.put {w : World} {hp : Hp} {env : Env} {tmps : Array Value} {d : Nat} {u y : Value} {x : SV} (hm : x.mentions d = false) (h : RSV w hp env tmps x y) : RSV w hp env (tmps.setIfInBounds d u) x y := by
  cases x with
  | one x => exact h
  | tup l => exact h
  | cond p x => exact ⟨fun hh => h.1 ((holds_put hm).1 hh), fun hh => h.2 fun k => hh ((holds_put hm).2 k)⟩
theorem Good.put' {zb : Base} {st : St} {tmps : Array Value} {w : World} {env : Env} (g : Good ty zb st tmps w env) {d : Nat} (hd : d < tmps.size) {v : SV} {u : Value} (hv : RSV w st.hp env tmps v u) (hm : v.mentions d = false) (f : SV → SV) (hf : ∀ s y, look st.sl s = some y → f y = .one (.a .any) ∨ (f y = y ∧ y.mentions d = false)) :
    Good ty zb ⟨st.n, (d, v) :: st.sl.map fun e => (e.1, f e.2), st.hp⟩ (tmps.setIfInBounds d u) w env := by
  refine ⟨g.obj, g.dis, fun s x hl => ?_, g.dom, g.pins⟩
  by_cases hs : s = d
  · subst hs
    have hl : look ((s, v) :: _) s = some x := hl
    rw [look_eq] at hl
    simp only [Option.some.injEq] at hl
    subst hl
    have : (tmps.setIfInBounds s u).getD s undef = u := by
      rw [Array.getD_eq_getD_getElem?, Array.getElem?_setIfInBounds_self_of_lt hd]; rfl
    rw [this]
    exact hv.put hm
  · have hl : look ((d, v) :: _) s = some x := hl
    rw [look_ne hs, look_map (α := SV) (f := fun e : Nat × SV => f e.2)] at hl
    cases hq : look st.sl s with
    | none => rw [hq] at hl; cases hl
    | some y =>
      rw [hq] at hl
      simp only [Option.map_some, Option.some.injEq] at hl
      subst hl
      have hgd : (tmps.setIfInBounds d u).getD s undef = tmps.getD s undef := by
        rw [Array.getD_eq_getD_getElem?, Array.getD_eq_getD_getElem?, Array.getElem?_setIfInBounds_ne (Ne.symm hs)]
      rw [hgd]
      show RSV w st.hp env _ (f y) _
      rcases hf s y hq with h | ⟨h, hm'⟩
      · rw [h]; trivial
      · rw [h]; exact (g.slot s y hq).put hm'
theorem Good.put {zb : Base} {st : St} {tmps : Array Value} {w : World} {env : Env} (g : Good ty zb st tmps w env) {d : Nat} (hd : d < tmps.size) {v : SV} {u : Value} (hv : RSV w st.hp env tmps v u) (hm : v.mentions d = false) :
    Good ty zb (st.put (some d) v) (tmps.setIfInBounds d u) w env := by
  unfold St.put
  dsimp only
  split
  · rename_i hno
    have := g.put' hd hv hm id (fun s y hl => Or.inr ⟨rfl, by
      rw [List.any_eq_false] at hno
      simpa using hno _ (look_mem hl)⟩)
    simpa using this
  · refine g.put' hd hv hm (SV.drops d) fun s y hl => ?_
    unfold SV.drops
    split
    · exact Or.inl rfl
    · rename_i hm'; exact Or.inr ⟨rfl, hm'⟩
theorem put_good {zb : Base} {st : St} {a : Act} {w : World} {env : Env} (g : Good ty zb st a.tmps w env) {dst : Option Nat} (hd : ∀ d, dst = some d → d < a.tmps.size) {v : SV} {u : Value} (hv : RSV w st.hp env a.tmps v u) (hm : ∀ d, dst = some d → v.mentions d = false) :
    Good ty zb (st.put dst v) (a.put dst u).tmps w env := by
  cases dst with
  | none => exact g
  | some d => exact g.put (hd d rfl) hv (hm d rfl)
theorem put_size (a : Act) (dst : Option Nat) (u : Value) : (a.put dst u).tmps.size = a.tmps.size := by
  cases dst <;> simp [Act.put]
theorem put_n (st : St) (d : Option Nat) (v : SV) : (st.put d v).n = st.n := by
  unfold St.put
  split
  · split <;> rfl
  · rfl
theorem put_hp (st : St) (d : Option Nat) (v : SV) : (st.put d v).hp = st.hp := by
  unfold St.put
  split
  · split <;> rfl
  · rfl
theorem put_defers (a : Act) (dst : Option Nat) (u : Value) : (a.put dst u).defers = a.defers := by
  cases dst <;> rfl

/-! ### Guards -/
theorem wanted_iff {ops : Array Oper} {o : Oper} {j : Nat} {x : Bool} (hg : o.guard = some (j, x)) {q : Oper} (hj : ops[j]? = some q) {d : Nat} (hd : q.dst = some d) (tmps : Array Value) :
    Region.wanted o (yielded ops tmps) = true ↔ tmps[d]? = some (.bool x) := by
  simp only [Region.wanted, hg, yielded, hj, Option.bind_some, hd]
  constructor
  · intro h
    have h := eq_of_beq h
    split at h
    · rename_i b hb
      simp at h
      rw [hb, h]
    · cases h
  · intro h
    rw [h]; simp
theorem cond_bool {zb : Base} {st : St} {tmps : Array Value} {w : World} {env : Env} (g : Good ty zb st tmps w env) {d : Nat} {p : List (Nat × Bool)} {b x : Bool} (hl : look st.sl d = some (.cond p (.a (.lit (.bool b))))) (h : tmps[d]? = some (.bool x)) : holds tmps p ∧ b = x := by
  have hs := g.slot d _ hl
  rw [Array.getD_eq_getD_getElem?, h] at hs
  by_cases hh : holds tmps p
  · have := (hs.1 hh).lit
    simp at this
    exact ⟨hh, this.symm⟩
  · have := hs.2 hh
    simp [undef] at this
theorem one_bool {zb : Base} {st : St} {tmps : Array Value} {w : World} {env : Env} (g : Good ty zb st tmps w env) {d : Nat} {b x : Bool} (hl : look st.sl d = some (.one (.a (.lit (.bool b))))) (h : tmps[d]? = some (.bool x)) : b = x := by
  have hs := g.slot d _ hl
  rw [Array.getD_eq_getD_getElem?, h] at hs
  have := (show RS1 w st.hp env (.a (.lit (.bool b))) (.bool x) from hs).lit
  simp at this
  exact this.symm
theorem hyps_ok {zb : Base} {st : St} {tmps : Array Value} {w : World} {env : Env} (g : Good ty zb st tmps w env) : ∀ {p : List (Nat × Bool)}, holds tmps p → ∀ q, q ∈ hyps st p → q
  | [], _, q, hq => by simp [hyps] at hq
  | (d, x) :: r, h, q, hq => by
    have h0 : tmps[d]? = some (.bool x) := h (d, x) (by simp)
    have hr : holds tmps r := fun e he => h e (by simp [he])
    simp only [hyps] at hq
    split at hq
    · rename_i b hl
      rcases List.mem_cons.1 hq with rfl | hq
      · exact one_bool g hl h0
      · exact hyps_ok g hr q hq
    · rename_i p' b hl
      rcases List.mem_cons.1 hq with rfl | hq
      · exact (cond_bool g hl h0).2
      · exact hyps_ok g hr q hq
    · exact hyps_ok g hr q hq
theorem imps_ok : ∀ {hs : List Prop} {q : Prop}, imps hs q → (∀ h, h ∈ hs → h) → q
  | [], _, h, _ => h
  | h' :: r, q, h, hh => imps_ok (hs := r) (h (hh h' (by simp))) fun x hx => hh x (by simp [hx])

section
variable {P : Program} {zb : Base} {st st' : St} {a : Act} {w : World} {Q : Exit → Act → World → Prop} {o : Oper}
/-- An operation runs, or is passed over. -/
def Runs (P : Program) (ops : Array Oper) (o : Oper) (a : Act) (w : World) (K : Act → World → Prop) (Q : Exit → Act → World → Prop) : Prop :=
  if Region.wanted o (yielded ops a.tmps) then o.wp P a w K Q ∨ (o.asks P a w ∧ LetsOut Q) else K (a.put o.dst undef) w
theorem guard_none {ops : Array Oper} (hg : o.guard = none) {K : Act → World → Prop} (h : o.wp P a w K Q) : Runs P ops o a w K Q := by
  unfold Runs
  rw [if_pos (by simp [Region.wanted, hg])]
  exact .inl h
theorem dst_lt (iv : Inv ty zb st a w) (h : dstok st o.dst = true) : ∀ d, o.dst = some d → d < a.tmps.size := by
  intro d hd
  rw [hd] at h
  rw [iv.size]
  exact Nat.le_of_ble_eq_true h
/-- A quiet step of a region. -/
theorem qcore_ok {Γ : Nat → TK} (C : ∀ t, TKok P t (Γ t)) {ren : List (Nat × Nat)} {cr : List (Nat × CR)} {ops : List Oper} {vc : List Prop} {v2 : SV} {os : Hp} (h : qcore Γ (Elt P ty) (Sound ty P) ren cr ops st o = some (vc, v2, os)) (iv : Inv ty zb st a w) (hv : ∀ q, q ∈ vc → q) :
    Runs P ops.toArray o a w (fun a' w' => Inv ty zb (St.put ⟨st.n, st.sl, os ++ st.hp⟩ o.dst v2) a' w') Q := by
  obtain ⟨env, g⟩ := iv.good
  have hBz := iv.kept.size
  simp only [qcore] at h
  split at h
  · rename_i m hd _ hgp
    have hdl := dst_lt iv hd
    have hg : o.guard = none := by
      cases hg : o.guard with
      | none => rfl
      | some e =>
        obtain ⟨j, x⟩ := e
        exfalso
        simp only [guardp, hg] at hgp
        repeat' split at hgp
        all_goals simp at hgp
    split at h
    · rename_i v1 v os hq
      split at h
      · rename_i hf hn
        simp only [Option.some.injEq, Prod.mk.injEq] at h
        obtain ⟨rfl, rfl, rfl⟩ := h
        refine guard_none hg (Oper.wp_mono ?_ (quiet_ok (Q := Q) C hq g (fun e he => by simp at he) (iv.amb.now iv.kept) hv hf hn))
        rintro a' w' ⟨u, env', rfl, hN, hr⟩
        have g' := g.grow hBz hf hN
        have hnm : ∀ d, o.dst = some d → v.mentions d = false := by
          intro d _
          cases v with
          | one x => rfl
          | tup l => rfl
          | cond p x =>
            exfalso
            have : ∀ (op : Op) (d m : Nat) (out : Out) (p : List (Nat × Bool)) (x : S1), quiet Γ (Elt P ty) (Sound ty P) cr st [] d m op = some out → out.v ≠ .cond p x := by
              intro op d m out p x hh
              unfold quiet mvt at hh
              repeat' split at hh
              all_goals first
                | (cases hh; done)
                | (simp only [out1, Option.some.injEq] at hh; subst hh; intro e; cases e; done)
                | (simp only [Option.some.injEq] at hh; subst hh; unfold outs; (repeat' split) <;> (intro e; cases e))
            exact this _ _ _ _ p x hq rfl
        refine ⟨by rw [put_size, put_n]; exact iv.size, by rw [put_defers]; exact iv.defers, iv.kept.trans (kept_below hN.below hBz), iv.amb, env', put_good g' hdl hr hnm⟩
      · cases h
    · cases h
  · rename_i m e p hd _ hgp
    have hdl := dst_lt iv hd
    split at h
    · rename_i hne
      split at h
      · rename_i v1 v hq
        simp only [Option.some.injEq, Prod.mk.injEq] at h
        obtain ⟨rfl, rfl, rfl⟩ := h
        have hmn : ∀ d, o.dst = some d → (SV.cond (e :: p) v).mentions d = false := by
          intro d hdd
          show ((e :: p).any fun e => Nat.beq e.1 d) = false
          rw [List.any_eq_false] at hne ⊢
          intro x hx hb
          have := Nat.eq_of_beq_eq_true hb
          exact hne x hx (by rw [hdd, this]; simp)
        have fin : ∀ {u : Value} {w' : World}, Below w.heap.size w w' → News (ty := ty) w w' st.hp [] env env → RSV w' st.hp env a.tmps (.cond (e :: p) v) u → Inv ty zb (st.put o.dst (.cond (e :: p) v)) (a.put o.dst u) w' := by
          intro u w' hb hN hr
          have g' := g.grow (os := []) hBz rfl hN
          exact ⟨by rw [put_size, put_n]; exact iv.size, by rw [put_defers]; exact iv.defers, iv.kept.trans (kept_below hb hBz), iv.amb, env, put_good g' hdl hr hmn⟩
        -- the guard
        have key : ∃ j x q d, o.guard = some (j, x) ∧ ops[j]? = some q ∧ q.dst = some d ∧ (d, x) ∈ e :: p ∧ (a.tmps[d]? = some (.bool x) → holds a.tmps (e :: p)) := by
          unfold guardp at hgp
          split at hgp
          · simp at hgp
          · rename_i j x hg
            split at hgp
            · rename_i q hj
              split at hgp
              · rename_i d hdq
                split at hgp
                · rename_i b hl
                  simp only [Option.some.injEq] at hgp
                  refine ⟨j, x, q, d, hg, hj, hdq, by rw [← hgp]; simp, fun hh => ?_⟩
                  rw [← hgp]
                  intro y hy
                  simp at hy
                  subst hy
                  exact hh
                · rename_i p' b hl
                  simp only [Option.some.injEq] at hgp
                  refine ⟨j, x, q, d, hg, hj, hdq, by rw [← hgp]; simp, fun hh => ?_⟩
                  rw [← hgp]
                  intro y hy
                  rcases List.mem_cons.1 hy with rfl | hy
                  · exact hh
                  · exact (cond_bool g hl hh).1 y hy
                · cases hgp
              · cases hgp
            · cases hgp
        obtain ⟨j, x, q, d, hg, hj, hdq, hmem, hhold⟩ := key
        have hw := wanted_iff (ops := ops.toArray) hg (by simpa using hj) hdq a.tmps
        unfold Runs
        by_cases hb : a.tmps[d]? = some (.bool x)
        · rw [if_pos (hw.2 hb)]
          have hp := hhold hb
          left
          refine Oper.wp_mono ?_ (quiet_ok (Q := Q) C hq g hp (iv.amb.now iv.kept) (fun z hz => ?_) rfl rfl)
          · rintro a' w' ⟨u, env', rfl, hN, hr⟩
            have he : env' = env := funext fun n => hN.old n rfl
            subst he
            exact fin hN.below hN ⟨fun _ => hr, fun hh => absurd (fun y hy => hp y hy) hh⟩
          · exact imps_ok (hv _ (List.mem_map.2 ⟨z, hz, rfl⟩)) (hyps_ok g hp)
        · rw [if_neg (fun hh => hb (hw.1 hh))]
          exact fin (Below.refl _ _) (News.none (Below.refl _ _)) ⟨fun hh => absurd (hh (d, x) hmem) hb, fun _ => rfl⟩
      · cases h
    · cases h
  · cases h
theorem qstep_ok {Γ : Nat → TK} (C : ∀ t, TKok P t (Γ t)) {ren : List (Nat × Nat)} {cr : List (Nat × CR)} {ops : List Oper} {vc : List Prop} (h : qstep Γ (Elt P ty) (Sound ty P) ren cr ops st o = some (vc, st')) (iv : Inv ty zb st a w) (hv : ∀ q, q ∈ vc → q) :
    Runs P ops.toArray o a w (fun a' w' => Inv ty zb st' a' w') Q := by
  unfold qstep at h
  split at h
  · rename_i vc1 v os hq
    simp only [Option.some.injEq, Prod.mk.injEq] at h
    obtain ⟨rfl, rfl⟩ := h
    exact qcore_ok C hq iv hv
  · cases h
end
end Go.Proofs.YthjedjndamejmaaGreat.G
namespace Go.Proofs.YthjedjndamejmaaGreat.G
set_option linter.all false
open Go.RowKit L D
variable {ty : Tag → Nat}
/-- A view into memory that is no more what it was: its length alone is known. -/
def V.dead : V → V
  | .vw _ _ _ l => .husk l.length
  | _ => .any
def V.kills (ks kv : List Nat) (v : V) : V := match v.name with
  | some m => match ks.any (Nat.beq m) with
    | true => v.dead
    | false => match kv with
      | [] => v
      | kv => match v.view with
        | some _ => match kv.any (Nat.beq m) with | true => v.dead | false => v
        | none => v
  | none => v
def S1.kills (ks kv : List Nat) : S1 → S1
  | .a v => .a (v.kills ks kv)
  | .agg l => .agg (l.map (V.kills ks kv))
def SV.kills (ks kv : List Nat) : SV → SV
  | .one x => .one (x.kills ks kv)
  | .tup l => .tup (l.map (S1.kills ks kv))
  | .cond p x => .cond p (x.kills ks kv)
def Obj.kills (ks kv : List Nat) : Obj → Obj
  | .box c => .box (c.map (V.kills ks kv))
  | .arr t l => .arr t l
def hkills (ks kv : List Nat) (hp : Hp) : Hp := (hp.filter fun e => !ks.any (Nat.beq e.1)).map fun e => (e.1, e.2.kills ks kv)
def pinned (ks : List Nat) : Bool := ks.any soft
theorem V.kills_name {ks kv : List Nat} {v : V} : (v.kills ks kv).hangs (fun n => n ∉ ks) (fun n => n ∉ ks ∧ n ∉ kv) := by
  have hx : ∀ {l : List Nat} {m : Nat}, (l.any (Nat.beq m)) = false → m ∉ l := by
    intro l m h hm
    rw [List.any_eq_false] at h
    exact h m hm (by simp)
  have hdead : ∀ x : V, x.dead.hangs (fun n => n ∉ ks) (fun n => n ∉ ks ∧ n ∉ kv) := by
    intro x
    cases x <;> exact ⟨fun _ h => by simp [V.dead, V.name] at h, fun _ h => by simp [V.dead, V.view] at h⟩
  unfold V.kills
  split
  · rename_i m hm
    split
    · exact hdead v
    · rename_i hk
      have hk := hx hk
      have hn : ∀ n, v.name = some n → n ∉ ks := by
        intro n h; rw [hm] at h; simp only [Option.some.injEq] at h; subst h; exact hk
      split
      · exact ⟨hn, fun n h => ⟨hn n (V.view_name h), by simp⟩⟩
      · split
        · split
          · exact hdead v
          · rename_i hv
            have hv := hx hv
            refine ⟨hn, fun n h => ⟨hn n (V.view_name h), ?_⟩⟩
            have := V.view_name h
            rw [hm] at this; simp only [Option.some.injEq] at this; subst this; exact hv
        · rename_i hnv
          exact ⟨hn, fun n h => by rw [hnv] at h; cases h⟩
  · rename_i hm
    refine ⟨fun n h => ?_, fun n h => ?_⟩
    · rw [hm] at h; cases h
    · have := V.view_name h; rw [hm] at this; cases this
theorem RA.dead {w : World} {hp : Hp} {env : Env} {v : V} {u : Value} (h : RA w hp env v u) : RA w hp env v.dead u := by
  cases v with
  | vw n p t l =>
    obtain ⟨_, ⟨fp, ⟨oa, cap, rfl, hc, hm, h3⟩, _⟩, _⟩ := h
    refine ⟨oa, cap, rfl, hc, hm, fun ho => ?_⟩
    rcases h3 with ⟨_, _, h4⟩ | ⟨b, off, fps, h4, _⟩
    · exact h4 ho
    · rw [ho] at h4; cases h4
  | _ => trivial
theorem RA.kills {w : World} {hp : Hp} {env : Env} {ks kv : List Nat} {v : V} {u : Value} (h : RA w hp env v u) : RA w hp env (v.kills ks kv) u := by
  unfold V.kills
  repeat' split
  all_goals first
    | exact h
    | exact h.dead
    | trivial
/-- The step that a turn makes: the names of ks are gone, the memory of kv is another. -/
abbrev Turn (ks kv : List Nat) (w : World) (hp : Hp) (env : Env) (w' : World) (hp' : Hp) (env' : Env) : Prop := Step (fun n => n ∉ ks) (fun n => n ∉ ks ∧ n ∉ kv) w hp env w' hp' env'
section
variable {ks kv : List Nat} {w w' : World} {hp hp' : Hp} {env env' : Env}
theorem RA.turn (s : Turn ks kv w hp env w' hp' env') {v : V} {u : Value} (h : RA w hp env v u) : RA w' hp' env' (v.kills ks kv) u :=
  RA.step s V.kills_name h.kills
theorem All2.map {α β γ : Type} {R : α → β → Prop} {R' : γ → β → Prop} {f : α → γ} : ∀ {as : List α} {bs : List β}, (∀ a b, R a b → R' (f a) b) → All2 R as bs → All2 R' (as.map f) bs
  | [], [], _, _ => trivial
  | a :: as, b :: bs, h, ⟨h1, h2⟩ => ⟨h a b h1, All2.map h h2⟩
  | [], _ :: _, _, h => h.elim
  | _ :: _, [], _, h => h.elim
theorem RS1.turn (s : Turn ks kv w hp env w' hp' env') {x : S1} {u : Value} (h : RS1 w hp env x u) : RS1 w' hp' env' (x.kills ks kv) u := by
  cases x with
  | a v => exact RA.turn s h
  | agg l => obtain ⟨cs, hu, hl⟩ := h; exact ⟨cs, hu, hl.map fun a b hr => RA.turn s hr⟩
theorem RSV.turn (s : Turn ks kv w hp env w' hp' env') {tmps : Array Value} {x : SV} {u : Value} (h : RSV w hp env tmps x u) : RSV w' hp' env' tmps (x.kills ks kv) u := by
  cases x with
  | one x => exact RS1.turn s h
  | tup l => obtain ⟨us, hu, hl⟩ := h; exact ⟨us, hu, hl.map fun a b hr => RS1.turn s hr⟩
  | cond p x => exact ⟨fun hh => RS1.turn s (h.1 hh), h.2⟩
theorem Good.turn {zb : Base} {st : St} {tmps : Array Value} (g : Good ty zb st tmps w env) (s : Turn ks kv w st.hp env w' hp' env')
    (ho : ∀ n o, look hp' n = some o → RO ty w' hp' env' n o (env' n)) (hd : ∀ n m o o', n ≠ m → look hp' n = some o → look hp' m = some o' → ∀ b, b ∈ (env' n).fp → b ∉ (env' m).fp)
    (hm : ∀ n o, look hp' n = some o → ∀ b, b ∈ (env' n).fp → b ∈ zb.L ∨ zb.w.heap.size ≤ b) (hp : ∀ n, pin n = true → (env' n).v = (zb.pv n).v ∧ ∀ b, b ∈ (env' n).fp → b ∈ (zb.pv n).fp) :
    Good ty zb ⟨st.n, st.sl.map fun e => (e.1, e.2.kills ks kv), hp'⟩ tmps w' env' := by
  refine ⟨ho, hd, fun t v hl => ?_, hm, hp⟩
  have hl : look (st.sl.map fun e => (e.1, e.2.kills ks kv)) t = some v := hl
  rw [look_map (α := SV) (f := fun e : Nat × SV => e.2.kills ks kv)] at hl
  cases hq : look st.sl t with
  | none => rw [hq] at hl; cases hl
  | some y =>
    rw [hq] at hl
    simp only [Option.map_some, Option.some.injEq] at hl
    subst hl
    exact RSV.turn s (g.slot t y hq)
end
theorem hkills_look {ks kv : List Nat} {hp : Hp} {n : Nat} : look (hkills ks kv hp) n = if n ∈ ks then none else (look hp n).map (Obj.kills ks kv) := by
  unfold hkills
  rw [look_map (α := Obj) (f := fun e : Nat × Obj => e.2.kills ks kv)]
  have : look (hp.filter fun e => !ks.any (Nat.beq e.1)) n = if n ∈ ks then none else look hp n := by
    induction hp with
    | nil => simp [look]
    | cons e r ih =>
      obtain ⟨j, x⟩ := e
      by_cases hj : j ∈ ks
      · have : (ks.any (Nat.beq j)) = true := List.any_eq_true.2 ⟨j, hj, by simp⟩
        rw [List.filter_cons_of_neg (by simp [this]), ih]
        by_cases hn : n ∈ ks
        · simp [hn]
        · have : n ≠ j := by rintro rfl; exact hn hj
          rw [look_ne this]
      · have : (ks.any (Nat.beq j)) = false := List.any_eq_false.2 fun y hy hb => hj (by have := Nat.eq_of_beq_eq_true hb; rw [this]; exact hy)
        rw [List.filter_cons_of_pos (by simp [this])]
        by_cases hn : n = j
        · subst hn; rw [look_eq, look_eq, if_neg hj]
        · rw [look_ne hn, look_ne hn, ih]
  rw [this]
  split <;> rfl

theorem noany_mem : ∀ {l : List V}, noany l = true → ∀ v, v ∈ l → v ≠ .any
  | x :: r, h, v, hv => by
    cases x with
    | any => simp [noany] at h
    | _ =>
      rcases List.mem_cons.1 hv with rfl | hv
      · exact fun e => by cases e
      · exact noany_mem (l := r) (by simpa [noany] using h) v hv
/-- A variable is written. -/
def estore (Γ : Nat → TK) (st : St) : Op → Option St
  | .store t x y => match opv st [] x, opv st [] y with
    | some (.a (.ptr n off)), some v => match look st.hp n with
      | some (.box c) => match Γ t, v with
        | .st z _ _, .agg l => match Nat.beq l.length z.length && noany l, spl c off l with
          | true, some c' => some ⟨st.n, st.sl, (n, .box c') :: st.hp⟩
          | _, _ => none
        | .st _ _ _, .a _ => none
        | .other, _ => none
        | _, .a .any => none
        | _, .a v => match spl c off [v] with
          | some c' => some ⟨st.n, st.sl, (n, .box c') :: st.hp⟩
          | none => none
        | _, _ => none
      | _ => none
    | _, _ => none
  | _ => none
section
variable {P : Program} {zb : Base} {st st' : St} {a : Act} {w : World} {env : Env} {Q : Exit → Act → World → Prop} {o : Oper}
theorem RA.one (g : Good ty zb st a.tmps w env) {v : V} {u : Value} (h : RA w st.hp env v u) (hv : v ≠ .any) : u.oneCell' = true := by
  cases v with
  | any => exact absurd rfl hv
  | lit x => obtain ⟨rfl, h1⟩ := h; exact h1
  | sl t l => obtain ⟨fp, ⟨oa, cap, rfl, _⟩, _⟩ := h; rfl
  | own n =>
    obtain ⟨⟨t, l, hl⟩, rfl⟩ := h
    obtain ⟨oa, cap, h, _⟩ := RO.sl (g.obj n _ hl)
    rw [h]; rfl
  | ptr n off => obtain ⟨_, b, _, rfl⟩ := h; rfl
  | fnp f n => obtain ⟨_, b, _, rfl⟩ := h; rfl
  | husk k => obtain ⟨oa, cap, rfl, _⟩ := h; rfl
  | eptr n i off => obtain ⟨t, l, _, b, o, len, cap, _, rfl⟩ := h; rfl
  | ip t x off => obtain ⟨b, o, cs, fp, rfl, _⟩ := h; rfl
  | vw n p t l => obtain ⟨_, ⟨fp, ⟨oa, cap, rfl, _⟩, _⟩, _⟩ := h; rfl
  | bsl n t l => obtain ⟨_, b, fp, ⟨oa, cap, rfl, _⟩, _⟩ := h; rfl
  | vip n p t x off => obtain ⟨_, b, o, cs, fp, rfl, _⟩ := h; rfl
theorem all2_ones (g : Good ty zb st a.tmps w env) : ∀ {l : List V} {us : List Value}, All2 (RA w st.hp env) l us → (∀ v, v ∈ l → v ≠ .any) → ∀ u, u ∈ us → u.oneCell' = true
  | v :: l, u :: us, ⟨h1, h2⟩, hn, x, hx => by
    rcases List.mem_cons.1 hx with rfl | hx
    · exact RA.one g h1 (hn v (by simp))
    · exact all2_ones g h2 (fun y hy => hn y (by simp [hy])) x hx
  | [], _ :: _, h, _, _, _ => h.elim
theorem good_box (g : Good ty zb st a.tmps w env) {n : Nat} {c c' : List V} (hl : look st.hp n = some (.box c)) {b : Nat} {cs us : List Value} {e : TypeId} {off : Nat} (hco : env n = ⟨.pointer (some ⟨b, 0, none⟩), [b]⟩) (hh : w.heap[b]? = some (.cells (Array.mk cs) e (0, 0)))
    (hlen : off + us.length ≤ cs.length) (hc : All2 (RA w st.hp env) c' (cs.take off ++ (us ++ cs.drop (off + us.length)))) :
    Good ty zb ⟨st.n, st.sl, (n, .box c') :: st.hp⟩ a.tmps (w.setCells b off us) env := by
  have hk : ∀ x, x ≠ b → (w.setCells b off us).heap[x]? = w.heap[x]? := fun x hx => setCells_other b us off w x hx
  have hlk : ∀ m o, look ((n, Obj.box c') :: st.hp) m = some o → (m = n ∧ o = .box c') ∨ (m ≠ n ∧ look st.hp m = some o) := by
    intro m o hm
    by_cases hmn : m = n
    · subst hmn; rw [look_eq] at hm; simp only [Option.some.injEq] at hm; exact Or.inl ⟨rfl, hm.symm⟩
    · rw [look_ne hmn] at hm; exact Or.inr ⟨hmn, hm⟩
  have how : Ow st.hp env b := ⟨n, _, hl, by rw [hco]; simp⟩
  have s : Step (fun _ => True) (fun _ => True) w st.hp env (w.setCells b off us) ((n, .box c') :: st.hp) env := by
    refine ⟨fun x _ hx => hk x (fun e => hx (e ▸ how)), ?_, ?_, ?_⟩
    · rintro x _ ⟨m, o, h1, h2⟩
      rcases hlk m o h1 with ⟨rfl, rfl⟩ | ⟨_, h1⟩
      · exact ⟨m, _, hl, h2⟩
      · exact ⟨m, o, h1, h2⟩
    · intro m o _ h1
      by_cases hmn : m = n
      · subst hmn
        rw [hl] at h1
        simp only [Option.some.injEq] at h1
        subst h1
        exact ⟨_, look_eq, trivial, rfl⟩
      · exact ⟨o, by rw [look_ne hmn]; exact h1, by cases o <;> simp [Obj.like], rfl⟩
    · intro m t l _ h1
      have hmn : m ≠ n := by rintro rfl; rw [hl] at h1; cases h1
      refine ⟨by rw [look_ne hmn]; exact h1, rfl, fun x hx => hk x ?_⟩
      rintro rfl
      exact g.dis m n _ _ hmn h1 hl x hx (by rw [hco]; simp)
  refine ⟨fun m o hm => ?_, fun m m' o o' hne h1 h2 => ?_, fun t v hv => RSV.step s (fun v _ => v.hangs_all) (g.slot t v hv), fun m o hm b hb => ?_, g.pins⟩
  · rcases hlk m o hm with ⟨rfl, rfl⟩ | ⟨hmn, hm⟩
    · refine ⟨b, _, e, hco, ?_, hc.mono fun v u _ h => RA.step s v.hangs_all h⟩
      rw [setcs_same hh, splice_list us cs off hlen]
    · have hro := g.obj m o hm
      refine hro.step s (fun _ _ v _ => v.hangs_all) fun x hx => hk x ?_
      rintro rfl
      exact g.dis m n o _ hmn hm hl x hx (by rw [hco]; simp)
  · rcases hlk m o h1 with ⟨e1, e2⟩ | ⟨_, k1⟩ <;> rcases hlk m' o' h2 with ⟨e3, e4⟩ | ⟨_, k2⟩
    · exact absurd (e1.trans e3.symm) hne
    · exact g.dis m m' _ _ hne (e1 ▸ hl) k2
    · exact g.dis m m' _ _ hne k1 (e3 ▸ hl)
    · exact g.dis m m' _ _ hne k1 k2
  · rcases hlk m o hm with ⟨e1, _⟩ | ⟨_, k1⟩
    · subst e1; exact g.dom m _ hl b hb
    · exact g.dom m o k1 b hb
/-- Writing into a block that may be written. -/
theorem kept_set {b : Nat} (hb : b ∈ zb.L ∨ zb.w.heap.size ≤ b) {c : Array Value} {e : TypeId} (hh : w.heap[b]? = some (.cells c e (0, 0))) (off : Nat) (us : List Value) : Kept zb w (w.setCells b off us) := by
  have h0 := below_setCells (B := 0) (w := w) (Below.refl 0 w) (Nat.zero_le b) off us
  refine ⟨h0.os, h0.tape, h0.output, h0.size, fun x hx hn => setCells_other b us off w x ?_, fun x c' e' hx => ?_⟩
  · rintro rfl
    rcases hb with h | h
    · exact hn h
    · omega
  · by_cases hxb : x = b
    · subst hxb
      rw [hh] at hx
      simp only [Option.some.injEq, Go.Obj.cells.injEq, and_true] at hx
      obtain ⟨rfl, rfl⟩ := hx
      obtain ⟨c2, h1, h2⟩ := setCells_blk x e us off w c hh
      exact ⟨c2, h1, h2⟩
    · exact ⟨c', by rw [setCells_other b us off w x hxb]; exact hx, rfl⟩
theorem run_storeVar {t b off : Nat} {v : Value} {us : List Value} (hv : v.cells = us.toArray) (ht : w.there b off us.length) (hi : (P.info? t).map (·.size) = some us.length) (h1 : ∀ u, u ∈ us → u.oneCell' = true) :
    (storeVar t ⟨b, off, none⟩ v).run P w = .ok () (w.setCells b off us) := by
  have := run_storeVar_mid (P := P) w b off t us.toArray (by simpa using ht) (by simpa using hi) (all_oneCell_toArray h1)
  unfold storeVar at this ⊢
  rw [hv]
  exact this
theorem estore_ok {Γ : Nat → TK} (C : ∀ t, TKok P t (Γ t)) (Z : ∀ t, (∀ z tg fo, Γ t ≠ .st z tg fo) → Γ t ≠ .other → (P.info? t).map (·.size) = some 1) (h : estore Γ st o.op = some st') (g : Good ty zb st a.tmps w env) :
    o.wp P a w (fun a' w' => a' = a.put o.dst undef ∧ Kept zb w w' ∧ Good ty zb st' a.tmps w' env ∧ st'.n = st.n ∧ st'.sl = st.sl) Q := by
  have hop : ∀ {x v}, opv st [] x = some v → RS1 w st.hp env v (a.eval x) := fun hx => opv_ok g (fun e he => by simp at he) hx
  generalize hoo : o.op = op at h
  cases op with
  | store t x y =>
    simp only [estore] at h
    split at h
    · rename_i n off v hx hy
      have hx := hop hx
      have hy := hop hy
      split at h
      · rename_i c hl
        obtain ⟨_, b, hb, hu⟩ := hx
        obtain ⟨b', cs, e, hco, hh, hc⟩ := g.obj n _ hl
        have hM := g.dom n _ hl b' (by rw [hco]; simp)
        have hbb : b = b' := by rw [hco] at hb; simpa using hb.symm
        subst hbb
        have fin : ∀ {us : List Value} {c' : List V}, (a.eval y).cells = us.toArray → (P.info? t).map (·.size) = some us.length → (∀ u, u ∈ us → u.oneCell' = true) → off + us.length ≤ cs.length → All2 (RA w st.hp env) c' (cs.take off ++ (us ++ cs.drop (off + us.length))) → st' = ⟨st.n, st.sl, (n, .box c') :: st.hp⟩ →
            o.wp P a w (fun a' w' => a' = a.put o.dst undef ∧ Kept zb w w' ∧ Good ty zb st' a.tmps w' env ∧ st'.n = st.n ∧ st'.sl = st.sl) Q := by
          intro us c' h1 h2 h3 h4 h5 h6
          subst h6
          unfold Oper.wp execOp
          simp only [hoo, hu, Instr.storeAt, Instr.sureAddr, Sem.run_bind, Sem.run_pure, Result.andThen_ok, run_storeVar h1 (thereB hh off us.length h4) h2 h3]
          exact ⟨by trivial, kept_set hM hh off us, good_box g hl hco hh h4 h5, by trivial, by trivial⟩
        split at h
        · rename_i z tg fo l hk _
          split at h
          · rename_i c' hlen hs
            simp only [Option.some.injEq] at h
            obtain ⟨us, hus, hul⟩ := hy
            obtain ⟨k1, k2⟩ := spl_all hc hul hs
            have hC := C t
            rw [hk] at hC
            obtain ⟨fs, _, hi, _⟩ := hC
            simp only [Bool.and_eq_true] at hlen
            have hll := Nat.eq_of_beq_eq_true hlen.1
            refine fin (us := us) (by rw [hus]; rfl) ?_ ?_ k1 k2 h.symm
            · rw [hul.len, hll]
              cases hq : P.info? t with
              | none => simp [hq] at hi
              | some i => simp [hq] at hi; simp [hi.1]
            · exact all2_ones g hul (noany_mem hlen.2)
          · cases h
        · cases h
        · cases h
        · cases h
        · rename_i v k1 k2 k3 _
          split at h
          · rename_i c' hs
            simp only [Option.some.injEq] at h
            obtain ⟨q1, q2⟩ := spl_all (vs := [v]) (us := [a.eval y]) hc ⟨hy, trivial⟩ hs
            have hne : v ≠ .any := fun e => k1 e
            refine fin (us := [a.eval y]) (one_cells g hy hne) (Z t (fun z tg fo hz => k2 z tg fo hz) k3) ?_ q1 q2 h.symm
            intro u hu'
            rw [List.mem_singleton.1 hu']
            exact RA.one g hy hne
          · cases h
        · cases h
      · cases h
    · cases h
  | _ => simp [estore] at h
end
end Go.Proofs.YthjedjndamejmaaGreat.G
namespace Go.Proofs.YthjedjndamejmaaGreat.G
set_option linter.all false
open Go.RowKit L D
variable {ty : Tag → Nat}
theorem sl_news2 {α : Type} {k : Nat} {E : ER α} (G : Fine k E) (hk : 0 < k) {w : World} {u : Value} {l : List α} {fp : List Nat} (h : Sl k E w u l fp) :
    ∃ (news : List Value) (fx : List (List Nat)), Src w u l.length news ∧ fx.length = l.length ∧ news.length = l.length * k ∧ (∀ i x f, l[i]? = some x → fx[i]? = some f → E w ((news.drop (i * k)).take k) x f) ∧ fx.flatten.Sublist fp ∧ ∀ b r, fp = b :: r → fx.flatten = r := by
  obtain ⟨oa, cap, rfl, hc, hm, h3⟩ := h
  rcases h3 with ⟨rfl, rfl, hno⟩ | ⟨b, off, fps, rfl, hb, rfl, he⟩
  · refine ⟨[], [], ?_, rfl, by simp, by simp, by simp, fun b r h => by cases h⟩
    cases oa with
    | none => exact Or.inl ⟨by simp [hno rfl], rfl, rfl⟩
    | some a => exact Or.inr ⟨a, cap, rfl, by simp⟩
  · have hcell : ∀ j, j < l.length * k → ∃ v, w.cell? ⟨b, off + j, none⟩ = some v := by
      intro j hj
      have hi : j / k < l.length := Nat.div_lt_of_lt_mul (by rw [Nat.mul_comm]; omega)
      obtain ⟨f, hf⟩ := fps_some he.1 (List.getElem?_eq_getElem hi)
      obtain ⟨cs, hr, hE⟩ := he.2 _ _ f (List.getElem?_eq_getElem hi) hf
      have hl := G.len hE
      have hml := Nat.mod_lt j hk
      have := hr (j % k) cs[j % k] (List.getElem?_eq_getElem (by omega))
      refine ⟨cs[j % k]'(by omega), ?_⟩
      rw [← this]
      congr 2
      have := Nat.div_add_mod j k
      have := Nat.mul_comm k (j / k)
      omega
    refine ⟨(List.range (l.length * k)).map fun j => (w.cell? ⟨b, off + j, none⟩).getD undef, fps, Or.inr ⟨_, cap, rfl, ?_⟩, he.1, by simp, ?_, List.sublist_cons_self _ _, fun b r h => by cases h; rfl⟩
    · intro j u hu
      have hj : j < l.length * k := by have := (List.getElem?_eq_some_iff.1 hu).1; simpa using this
      obtain ⟨v, hv⟩ := hcell j hj
      simp [hj, hv] at hu
      rw [Addr.add_mid, hv, hu]
    · intro i x f hx hf
      obtain ⟨cs, hr, hE⟩ := he.2 i x f hx hf
      have hl := G.len hE
      have hi : i < l.length := (List.getElem?_eq_some_iff.1 hx).1
      have h5 : i * k + k ≤ l.length * k := by
        have := Nat.mul_le_mul_right k (show i + 1 ≤ l.length by omega)
        rw [Nat.add_mul] at this; omega
      have : (((List.range (l.length * k)).map fun j => (w.cell? ⟨b, off + j, none⟩).getD undef).drop (i * k)).take k = cs := by
        apply List.ext_getElem?
        intro j
        by_cases hj : j < k
        · rw [List.getElem?_take, if_pos hj, List.getElem?_drop]
          have h6 := hr j cs[j] (List.getElem?_eq_getElem (by omega))
          rw [List.getElem?_map, List.getElem?_range (by omega)]
          simp [← Nat.add_assoc, h6, show j < cs.length by omega]
        · rw [List.getElem?_take, if_neg hj, List.getElem?_eq_none (by omega)]
      rw [this]; exact hE
theorem sl_news {α : Type} {k : Nat} {E : ER α} (G : Fine k E) (hk : 0 < k) {w : World} {u : Value} {l : List α} {fp : List Nat} (h : Sl k E w u l fp) :
    ∃ (news : List Value) (fx : List (List Nat)), Src w u l.length news ∧ fx.length = l.length ∧ news.length = l.length * k ∧ (∀ i x f, l[i]? = some x → fx[i]? = some f → E w ((news.drop (i * k)).take k) x f) ∧ fx.flatten.Sublist fp := by
  obtain ⟨news, fx, h1, h2, h3, h4, h5, _⟩ := sl_news2 G hk h
  exact ⟨news, fx, h1, h2, h3, h4, h5⟩
theorem RO.turn {ks kv : List Nat} {w w' : World} {hp hp' : Hp} {env env' : Env} (s : Turn ks kv w hp env w' hp' env') {n : Nat} {o : Obj} {co : CO}
    (hk : ∀ b, b ∈ co.fp → w'.heap[b]? = w.heap[b]?) (h : RO ty w hp env n o co) : RO ty w' hp' env' n (o.kills ks kv) co := by
  cases o with
  | box c =>
    obtain ⟨b, cs, e, rfl, hh, hc⟩ := h
    exact ⟨b, cs, e, rfl, by rw [hk b (by simp)]; exact hh, hc.map fun a u hr => RA.turn s hr⟩
  | arr t l => exact RO.agree h hk
/-- The objects ks have gone into a new one. -/
def St.gone (st : St) (ks : List Nat) (d : Nat) (t : Tag) (l : List (T t)) : St :=
  match ks with
  | [] => ⟨st.n, st.sl, (d, .arr t l) :: st.hp⟩
  | ks => ⟨st.n, st.sl.map fun e => (e.1, e.2.kills ks []), (d, .arr t l) :: hkills ks [] st.hp⟩
theorem V.kills_nil (v : V) : v.kills [] [] = v := by
  unfold V.kills; split <;> simp
theorem S1.kills_nil (x : S1) : x.kills [] [] = x := by
  cases x with
  | a v => simp [S1.kills, V.kills_nil]
  | agg l => simp only [S1.kills, S1.agg.injEq]; rw [List.map_congr_left (g := id) fun v _ => V.kills_nil v, List.map_id]
theorem SV.kills_nil (x : SV) : x.kills [] [] = x := by
  cases x with
  | one x => simp [SV.kills, S1.kills_nil]
  | tup l => simp only [SV.kills, SV.tup.injEq]; rw [List.map_congr_left (g := id) fun v _ => S1.kills_nil v, List.map_id]
  | cond p x => simp [SV.kills, S1.kills_nil]
theorem hkills_nil (hp : Hp) : hkills [] [] hp = hp := by
  unfold hkills
  rw [List.filter_eq_self.2 (by simp), List.map_congr_left (g := id), List.map_id]
  rintro ⟨n, o⟩ _
  cases o with
  | box c => simp only [Obj.kills, id]; rw [List.map_congr_left (g := id) fun v _ => V.kills_nil v, List.map_id]
  | arr t l => rfl
theorem St.gone_eq (st : St) (ks : List Nat) (d : Nat) (t : Tag) (l : List (T t)) : st.gone ks d t l = ⟨st.n, st.sl.map fun e => (e.1, e.2.kills ks []), (d, .arr t l) :: hkills ks [] st.hp⟩ := by
  unfold St.gone
  split
  · rw [hkills_nil, List.map_congr_left (g := id), List.map_id]
    rintro ⟨n, x⟩ _
    simp [SV.kills_nil]
  · rfl
section
variable {P : Program} {zb : Base} {st st' : St} {a : Act} {w : World} {env : Env} {Q : Exit → Act → World → Prop} {o : Oper}
theorem pinned_mem {ks : List Nat} (h : pinned ks = false) {n : Nat} (hn : n ∈ ks) : soft n = false := by
  unfold pinned at h
  rw [List.any_eq_false] at h
  simpa using h n hn
/-- The state behind an append: the objects of ks have gone into a new one. -/
theorem good_app2 (g : Good ty zb st a.tmps w env) (hB : zb.w.heap.size ≤ w.heap.size) {ks : List Nat} (hpk : pinned ks = false) {d : Nat} (hdp : pin d = false) (hd : look (hkills ks [] st.hp) d = none) {v v' : Value} {w' : World} {t : Tag} {l : List (T t)} {fp fx fp' : List Nat}
    (hfp : ∀ b, b ∈ fp ++ fx → ∃ i o, i ∈ ks ∧ look st.hp i = some o ∧ b ∈ (env i).fp) (hvb : ∀ b, v.ownBlock = some b → b ∈ fp)
    (hB' : Bld (kk t) (rd t) 0 (ty t) w' v' l fp') (hg : w.grownBy w' v.ownBlock) (hsub : ∀ b, b ∈ fp' → b ∈ fp ∨ b ∈ fx ∨ b = w.heap.size) :
    ∃ env', Good ty zb ⟨st.n, st.sl.map fun e => (e.1, e.2.kills ks []), (d, .arr t l) :: hkills ks [] st.hp⟩ a.tmps w' env' ∧ (env' d).v = v' ∧ (∀ n, n ≠ d → env' n = env n) ∧ (env' d).fp = fp' := by
  refine ⟨fun n => if n = d then ⟨v', fp'⟩ else env n, ?_, by simp, fun n hn => by simp [hn], by simp⟩
  have hlk : ∀ m o, look ((d, Obj.arr t l) :: hkills ks [] st.hp) m = some o → (m = d ∧ o = .arr t l) ∨ (m ≠ d ∧ m ∉ ks ∧ ∃ o', look st.hp m = some o' ∧ o = o'.kills ks []) := by
    intro m o hm
    by_cases hmd : m = d
    · subst hmd; rw [look_eq] at hm; simp only [Option.some.injEq] at hm; exact Or.inl ⟨rfl, hm.symm⟩
    · rw [look_ne hmd, hkills_look] at hm
      split at hm
      · cases hm
      · rename_i hks
        cases hq : look st.hp m with
        | none => rw [hq] at hm; cases hm
        | some o' => rw [hq] at hm; simp only [Option.map_some, Option.some.injEq] at hm; exact Or.inr ⟨hmd, hks, o', rfl, hm.symm⟩
  have how : ∀ b, b ∈ fp' → b < w.heap.size → ∃ i o, i ∈ ks ∧ look st.hp i = some o ∧ b ∈ (env i).fp := by
    intro b hb hlt
    rcases hsub b hb with h | h | h
    · exact hfp b (List.mem_append_left _ h)
    · exact hfp b (List.mem_append_right _ h)
    · omega
  have hnd : ∀ m o, m ∉ ks → look st.hp m = some o → m ≠ d := by
    rintro m o hks h1 rfl
    rw [hkills_look, if_neg hks, h1] at hd
    cases hd
  have hst : ∀ m o, m ∉ ks → look st.hp m = some o → ∀ b, b ∈ (env m).fp → w'.heap[b]? = w.heap[b]? := by
    intro m o hks h3 b hb
    refine hg.block b ((g.obj m o h3).blk b hb) fun e => ?_
    obtain ⟨i, oi, hi, h5, h6⟩ := hfp b (List.mem_append_left _ (hvb b e.symm))
    exact g.dis m i _ _ (fun e => hks (e ▸ hi)) h3 h5 b hb h6
  have s : Turn ks [] w st.hp env w' ((d, .arr t l) :: hkills ks [] st.hp) (fun n => if n = d then ⟨v', fp'⟩ else env n) := by
    refine ⟨fun b hb hno => hg.block b hb fun e => ?_, ?_, ?_, ?_⟩
    · obtain ⟨i, o', _, h1, h2⟩ := hfp b (List.mem_append_left _ (hvb b e.symm))
      exact hno ⟨i, o', h1, h2⟩
    · rintro b hb ⟨m, o', h1, h2⟩
      rcases hlk m o' h1 with ⟨rfl, rfl⟩ | ⟨hmd, hks, o'', h3, rfl⟩
      · simp at h2
        obtain ⟨i, o', _, h3, h4⟩ := how b h2 hb
        exact ⟨i, o', h3, h4⟩
      · simp [hmd] at h2
        exact ⟨m, o'', h3, h2⟩
    · intro m o' hks h1
      have hmd := hnd m o' hks h1
      refine ⟨o'.kills ks [], by rw [look_ne hmd, hkills_look, if_neg hks, h1]; rfl, by cases o' <;> simp [Obj.like, Obj.kills], by simp [hmd]⟩
    · rintro m t' l' ⟨hks, _⟩ h1
      have hmd := hnd m _ hks h1
      exact ⟨by rw [look_ne hmd, hkills_look, if_neg hks, h1]; rfl, by simp [hmd], hst m _ hks h1⟩
  refine g.turn s (fun m o' hm => ?_) (fun m m' o1 o2 hne h1 h2 b hb hb' => ?_) (fun m o' hm b hb => ?_) (fun m hm => ?_)
  · rcases hlk m o' hm with ⟨rfl, rfl⟩ | ⟨hmd, hks, o'', h3, rfl⟩
    · simp only [if_true]; exact RO.ofBld hB'
    · simp only [if_neg hmd]
      have hro := g.obj m o'' h3
      exact hro.turn s (hst m o'' hks h3)
  · rcases hlk m o1 h1 with ⟨e1, _⟩ | ⟨hmd, hks, q1, h3, _⟩ <;> rcases hlk m' o2 h2 with ⟨e2, _⟩ | ⟨hmd', hks', q2, h4, _⟩
    · exact hne (e1.trans e2.symm)
    · simp only [if_pos e1] at hb
      simp only [if_neg hmd'] at hb'
      have hlt := (g.obj m' q2 h4).blk b hb'
      obtain ⟨i, oi, hi, h5, h6⟩ := how b hb hlt
      exact g.dis m' i _ _ (fun e => hks' (e ▸ hi)) h4 h5 b hb' h6
    · simp only [if_pos e2] at hb'
      simp only [if_neg hmd] at hb
      have hlt := (g.obj m q1 h3).blk b hb
      obtain ⟨i, oi, hi, h5, h6⟩ := how b hb' hlt
      exact g.dis m i _ _ (fun e => hks (e ▸ hi)) h3 h5 b hb h6
    · simp only [if_neg hmd] at hb
      simp only [if_neg hmd'] at hb'
      exact g.dis m m' _ _ hne h3 h4 b hb hb'
  · rcases hlk m o' hm with ⟨e1, _⟩ | ⟨hmd, hks, q1, h3, _⟩
    · simp only [if_pos e1] at hb
      by_cases hlt : b < w.heap.size
      · obtain ⟨i, oi, hi, h5, h6⟩ := how b hb hlt
        exact g.dom i oi h5 b h6
      · exact Or.inr (by omega)
    · simp only [if_neg hmd] at hb
      exact g.dom m q1 h3 b hb
  · have : m ≠ d := by rintro rfl; rw [hdp] at hm; cases hm
    simp only [if_neg this]
    exact g.pins m hm
theorem good_app (g : Good ty zb st a.tmps w env) (hB : zb.w.heap.size ≤ w.heap.size) {ks : List Nat} (hpk : pinned ks = false) {d : Nat} (hdp : pin d = false) (hd : look (hkills ks [] st.hp) d = none) {v v' : Value} {w' : World} {t : Tag} {l : List (T t)} {fp fx fp' : List Nat}
    (hfp : ∀ b, b ∈ fp ++ fx → ∃ i o, i ∈ ks ∧ look st.hp i = some o ∧ b ∈ (env i).fp) (hvb : ∀ b, v.ownBlock = some b → b ∈ fp)
    (hB' : Bld (kk t) (rd t) 0 (ty t) w' v' l fp') (hg : w.grownBy w' v.ownBlock) (hsub : ∀ b, b ∈ fp' → b ∈ fp ∨ b ∈ fx ∨ b = w.heap.size) :
    ∃ env', Good ty zb ⟨st.n, st.sl.map fun e => (e.1, e.2.kills ks []), (d, .arr t l) :: hkills ks [] st.hp⟩ a.tmps w' env' ∧ (env' d).v = v' := by
  obtain ⟨env', h1, h2, _⟩ := good_app2 g hB hpk hdp hd hfp hvb hB' hg hsub
  exact ⟨env', h1, h2⟩
end
/-- Where append puts. -/
def appDst (st : St) (t : Tag) : S1 → Option (List (T t) × List Nat)
  | .a (.own n) => match look st.hp n with
    | some (.arr t' l) => match castL t t' l with | some l => some (l, [n]) | none => none
    | _ => none
  | .a (.lit (.slice none 0 0)) => some ([], [])
  | _ => none
/-- What append puts. -/
def appSrc (st : St) (t : Tag) : S1 → Option (List (T t) × List Nat)
  | .a (.own n) => match look st.hp n with
    | some (.arr t' l) => match castL t t' l with | some l => some (l, match flat t with | true => [] | false => [n]) | none => none
    | _ => none
  | .a (.sl t' l) => match flat t, castL t t' l with
    | true, some l => some (l, [])
    | false, some l => match l with | [] => some ([], []) | _ => none
    | _, _ => none
  | .a (.vw n _ t' l) => match castL t t' l with
    | some l => some (l, match flat t with | true => [] | false => [n])
    | none => none
  | .a (.bsl n t' l) => match castL t t' l with
    | some l => some (l, [n])
    | none => none
  | .a (.lit (.slice none 0 0)) => some ([], [])
  | _ => none
/-- Two lists after one another, written out where short. -/
def app1 {α : Type} : List α → List α → List α
  | [], l => l
  | [x], l => x :: l
  | k, l => k ++ l
theorem app1_eq {α : Type} (k l : List α) : app1 k l = k ++ l := by
  unfold app1; split <;> rfl
def notin (k m : List Nat) : Bool := k.all fun x => !m.any fun y => Nat.beq x y
def eapp (P : Program) (ty : Tag → Nat) (Γ : Nat → TK) (st : St) (m0 : Nat) : Op → Option (List Prop × St × SV)
  | .call ⟨.builtin .append, xs, ts⟩ => match xs.toList, ts.toList with
    | [s, x], [t1, t2] => match Γ t1, Nat.beq t1 t2 with
      | .sl t e, true => match Nat.beq e (ty t), opv st [] s, opv st [] x with
        | true, some vs, some vx => match appDst st t vs, appSrc st t vx with
          | some (l, k), some (lx, m) => match notin k m && !pinned (app1 k m) && !pin m0, look (hkills (app1 k m) [] st.hp) m0 with
            | true, none => some ([El P ty t, (l.length + lx.length) * byt t ≤ 140737488355328 ∧ l.length + lx.length ≤ maxLen],
                st.gone (app1 k m) m0 t (l ++ lx), .one (.a (.own m0)))
            | _, _ => none
          | _, _ => none
        | _, _, _ => none
      | _, _ => none
    | _, _ => none
  | _ => none
section
variable {P : Program} {zb : Base} {st : St} {a : Act} {w : World} {env : Env} {Q : Exit → Act → World → Prop} {o : Oper}
theorem appDst_ok (g : Good ty zb st a.tmps w env) {t : Tag} {x : S1} {u : Value} {l : List (T t)} {k : List Nat} (hr : RS1 w st.hp env x u) (h : appDst st t x = some (l, k)) :
    pinned k = false → ∃ fp, Bld (kk t) (rd t) 0 (ty t) w u l fp ∧ (∀ b, b ∈ fp → ∃ i o, i ∈ k ∧ look st.hp i = some o ∧ b ∈ (env i).fp) 
    := by
  intro hpk
  unfold appDst at h
  split at h
  · rename_i n
    split at h
    · rename_i t' l' hl
      split at h
      · rename_i l2 hc
        simp only [Option.some.injEq, Prod.mk.injEq] at h
        obtain ⟨rfl, rfl⟩ := h
        obtain ⟨e, rfl⟩ := castL_ok hc
        subst e
        obtain ⟨_, rfl⟩ := hr
        exact ⟨(env n).fp, RO.bld (pinned_mem hpk (by simp)) (g.obj n _ hl), fun b hb => ⟨n, _, by simp, hl, hb⟩⟩
      · cases h
    · cases h
  · simp only [Option.some.injEq, Prod.mk.injEq] at h
    obtain ⟨rfl, rfl⟩ := h
    have hu := (show RS1 w st.hp env (.a (.lit nilv)) u from hr).lit
    subst hu
    exact ⟨[], Bld.nil _ _ _ _ _, by simp⟩
  · cases h
theorem flat_src {t : Tag} (hf : flat t = true) {u : Value} {l : List (T t)} {fp : List Nat} (hs : Sl (kk t) (rd t) w u l fp) :
    ∃ (news : List Value) (fx : List (List Nat)), Src w u l.length news ∧ fx.length = l.length ∧ news.length = l.length * kk t ∧ (∀ i x f, l[i]? = some x → fx[i]? = some f → rd t w ((news.drop (i * kk t)).take (kk t)) x f) ∧ fx.flatten = [] := by
  obtain ⟨news, fx, h1, h2, h3, h4, h5⟩ := sl_news (fine t) (kk_pos t) hs
  refine ⟨news, fx, h1, h2, h3, h4, ?_⟩
  rw [List.flatten_eq_nil_iff]
  intro f hf'
  obtain ⟨i, hi⟩ := List.getElem?_of_mem hf'
  have hil : i < l.length := by have := (List.getElem?_eq_some_iff.1 hi).1; omega
  exact flat_ok t hf (h4 i _ f (List.getElem?_eq_getElem hil) hi)
theorem appSrc_ok (g : Good ty zb st a.tmps w env) {t : Tag} {x : S1} {u : Value} {l : List (T t)} {k : List Nat} (hr : RS1 w st.hp env x u) (h : appSrc st t x = some (l, k)) :
    ∃ (news : List Value) (fx : List (List Nat)), Src w u l.length news ∧ fx.length = l.length ∧ news.length = l.length * kk t ∧ (∀ i x f, l[i]? = some x → fx[i]? = some f → rd t w ((news.drop (i * kk t)).take (kk t)) x f) ∧
      (∀ b, b ∈ fx.flatten → ∃ i o, i ∈ k ∧ look st.hp i = some o ∧ b ∈ (env i).fp) ∧ Own 0 w fx.flatten := by
  unfold appSrc at h
  split at h
  · rename_i n
    split at h
    · rename_i t' l' hl
      split at h
      · rename_i l2 hc
        simp only [Option.some.injEq, Prod.mk.injEq] at h
        obtain ⟨rfl, hk⟩ := h
        obtain ⟨e, rfl⟩ := castL_ok hc
        subst e
        obtain ⟨_, rfl⟩ := hr
        have hb := RO.sl (g.obj n _ hl)
        split at hk
        · rename_i hf
          subst hk
          obtain ⟨news, fx, h1, h2, h3, h4, h5⟩ := flat_src hf hb
          exact ⟨news, fx, h1, h2, h3, h4, by simp [h5], by rw [h5]; exact Own.nil _ _⟩
        · subst hk
          obtain ⟨news, fx, h1, h2, h3, h4, h5⟩ := sl_news (fine t') (kk_pos t') hb
          have ho := RO.own (g.obj n _ hl)
          exact ⟨news, fx, h1, h2, h3, h4, fun b hb => ⟨n, _, by simp, hl, h5.subset hb⟩, ⟨h5.nodup ho.nodup, fun b hb => ho.ge b (h5.subset hb), fun b hb => ho.kind b (h5.subset hb)⟩⟩
      · cases h
    · cases h
  · rename_i t' l'
    split at h
    · rename_i l2 hf hc
      simp only [Option.some.injEq, Prod.mk.injEq] at h
      obtain ⟨rfl, rfl⟩ := h
      obtain ⟨e, rfl⟩ := castL_ok hc
      subst e
      obtain ⟨fp, hs, _⟩ := hr
      obtain ⟨news, fx, h1, h2, h3, h4, h5⟩ := flat_src hf hs
      exact ⟨news, fx, h1, h2, h3, h4, by simp [h5], by rw [h5]; exact Own.nil _ _⟩
    · rename_i l2 hf hc
      split at h
      · simp only [Option.some.injEq, Prod.mk.injEq] at h
        obtain ⟨rfl, rfl⟩ := h
        obtain ⟨e, he⟩ := castL_ok hc
        subst e
        obtain rfl : l' = [] := he.symm
        obtain ⟨fp, hs, _⟩ := hr
        obtain ⟨news, fx, h1, h2, h3, h4, h5⟩ := sl_news (fine t') (kk_pos t') hs
        have hfx : fx = [] := List.eq_nil_of_length_eq_zero h2
        subst hfx
        exact ⟨news, [], h1, rfl, h3, by simp, by simp, Own.nil _ _⟩
      · cases h
    · cases h
  · rename_i n _ t' l'
    split at h
    · rename_i l2 hc
      simp only [Option.some.injEq, Prod.mk.injEq] at h
      obtain ⟨rfl, hk⟩ := h
      obtain ⟨e, rfl⟩ := castL_ok hc
      subst e
      obtain ⟨⟨tA, lA, hl⟩, ⟨fp, hs, hnd, hsub⟩, _⟩ := hr
      split at hk
      · rename_i hf
        subst hk
        obtain ⟨news, fx, h1, h2, h3, h4, h5⟩ := flat_src hf hs
        exact ⟨news, fx, h1, h2, h3, h4, by simp [h5], by rw [h5]; exact Own.nil _ _⟩
      · subst hk
        obtain ⟨news, fx, h1, h2, h3, h4, h5⟩ := sl_news (fine t') (kk_pos t') hs
        have ho := RO.own (g.obj n _ hl)
        exact ⟨news, fx, h1, h2, h3, h4, fun b hb => ⟨n, _, by simp, hl, hsub b (h5.subset hb)⟩, ⟨h5.nodup hnd, fun b _ => Nat.zero_le _, fun b hb => ho.kind b (hsub b (h5.subset hb))⟩⟩
    · cases h
  · rename_i n t' l'
    split at h
    · rename_i l2 hc
      simp only [Option.some.injEq, Prod.mk.injEq] at h
      obtain ⟨rfl, rfl⟩ := h
      obtain ⟨e, rfl⟩ := castL_ok hc
      subst e
      obtain ⟨⟨tA, lA, hl⟩, b, fp, hs, hb, hnd, hsub⟩ := hr
      obtain ⟨news, fx, h1, h2, h3, h4, _, h5⟩ := sl_news2 (fine t') (kk_pos t') hs
      have h5 := h5 b fp rfl
      have ho := RO.own (g.obj n _ hl)
      exact ⟨news, fx, h1, h2, h3, h4, fun c hc => ⟨n, _, by simp, hl, hsub c (by rw [← h5]; exact hc)⟩, ⟨by rw [h5]; exact hnd, fun c _ => Nat.zero_le _, fun c hc => ho.kind c (hsub c (by rw [← h5]; exact hc))⟩⟩
    · cases h
  · simp only [Option.some.injEq, Prod.mk.injEq] at h
    obtain ⟨rfl, rfl⟩ := h
    have hu := (show RS1 w st.hp env (.a (.lit nilv)) u from hr).lit
    subst hu
    exact ⟨[], [], Or.inl ⟨rfl, rfl, rfl⟩, rfl, by simp, by simp, by simp, Own.nil _ _⟩
  · cases h
theorem eapp_ok {Γ : Nat → TK} (C : ∀ t, TKok P t (Γ t)) {m0 : Nat} {vc : List Prop} {st' : St} {v : SV} (h : eapp P ty Γ st m0 o.op = some (vc, st', v)) (g : Good ty zb st a.tmps w env) (hB : zb.w.heap.size ≤ w.heap.size) (hv : ∀ q, q ∈ vc → q) :
    o.wp P a w (fun a' w' => ∃ u env', a' = a.put o.dst u ∧ Kept zb w w' ∧ Good ty zb st' a.tmps w' env' ∧ st'.n = st.n ∧ RSV w' st'.hp env' a.tmps v u) Q := by
  have hop : ∀ {x v}, opv st [] x = some v → RS1 w st.hp env v (a.eval x) := fun hx => opv_ok g (fun e he => by simp at he) hx
  generalize hoo : o.op = op at h
  cases op with
  | call c =>
    obtain ⟨callee, xs, ts⟩ := c
    cases callee with
    | builtin b =>
      cases b with
      | append =>
        simp only [eapp] at h
        split at h
        · rename_i s x t1 t2 hxl htl
          obtain rfl : xs = #[s, x] := by cases xs; simp_all
          obtain rfl : ts = #[t1, t2] := by cases ts; simp_all
          split at h
          · rename_i t e hk ht12
            have ht12 := Nat.eq_of_beq_eq_true ht12
            subst ht12
            split at h
            · rename_i vs vx he hs hx
              have he := Nat.eq_of_beq_eq_true he
              split at h
              · rename_i l k lx m hds hsr
                split at h
                · rename_i hno hlk
                  simp only [Bool.and_eq_true, Bool.not_eq_true'] at hno
                  obtain ⟨⟨hno, hpk⟩, hpm⟩ := hno
                  rw [app1_eq] at hpk
                  have hpk1 : pinned k = false := by
                    unfold pinned at hpk ⊢
                    rw [List.any_append, Bool.or_eq_false_iff] at hpk
                    exact hpk.1
                  simp only [Option.some.injEq, Prod.mk.injEq, app1_eq] at h
                  rw [app1_eq] at hlk
                  obtain ⟨rfl, h2, rfl⟩ := h
                  rw [St.gone_eq] at h2
                  subst h2
                  have hEl : El P ty t := hv _ (by simp)
                  obtain ⟨hb1, hb2⟩ : (l.length + lx.length) * byt t ≤ 140737488355328 ∧ l.length + lx.length ≤ maxLen := hv _ (by simp)
                  obtain ⟨fp, hD, hDk⟩ := appDst_ok g (hop hs) hds hpk1
                  obtain ⟨news, fx, n1, n2, n3, n4, n5, n6⟩ := appSrc_ok g (hop hx) hsr
                  have hC := C t1
                  rw [hk] at hC
                  have hOwn : Own 0 w (fp ++ fx.flatten) := by
                    have ho := hD.own
                    refine ⟨List.nodup_append.2 ⟨ho.nodup, n6.nodup, ?_⟩, fun b hb => ?_, fun b hb => ?_⟩
                    · rintro b hb c hc rfl
                      obtain ⟨i, oi, hi, h1, h2⟩ := hDk b hb
                      obtain ⟨j, oj, hj, h3, h4⟩ := n5 b hc
                      have hij : i ≠ j := by
                        rintro rfl
                        simp only [notin, List.all_eq_true, Bool.not_eq_true', List.any_eq_false] at hno
                        exact hno i hi i hj (by simp)
                      exact g.dis i j _ _ hij h1 h3 b h2 h4
                    · rcases List.mem_append.1 hb with hb | hb
                      · exact ho.ge b hb
                      · exact n6.ge b hb
                    · rcases List.mem_append.1 hb with hb | hb
                      · exact ho.kind b hb
                      · exact n6.kind b hb
                  refine wp_app' s x t1 hoo (fine t) (kk_pos t) 0 (ty t) (zval t) (byt t) (by rw [← he]; exact hC.1) hEl (zval_cells t) _ l fp rfl hD _ rfl lx news fx n1 n2 n3 n4 hOwn hb2 hb1 (Nat.zero_le _) ?_
                  intro v' w' fp' k1 k2 k3 k4 k5 _
                  obtain ⟨env', hg', hv'⟩ := good_app (ty := ty) g hB (ks := k ++ m) hpk hpm hlk (v := a.eval s) (fp := fp) (fx := fx.flatten)
                    (by
                      intro b hb
                      rcases List.mem_append.1 hb with hb | hb
                      · obtain ⟨i, oi, hi, h1⟩ := hDk b hb; exact ⟨i, oi, List.mem_append_left _ hi, h1⟩
                      · obtain ⟨i, oi, hi, h1⟩ := n5 b hb; exact ⟨i, oi, List.mem_append_right _ hi, h1⟩)
                    (by
                      intro b hb
                      obtain ⟨xs, fps, _, _, _, hfp, _⟩ := hD
                      rw [hfp, hb]; simp)
                    k1 k2 k4
                  refine ⟨v', env', rfl, ⟨k2.os, k2.tape, k2.output, k2.size, fun b hb hn => k2.block b (by omega) fun e => ?_, k5⟩, hg', rfl, ⟨t, _, look_eq⟩, hv'.symm⟩
                  have hbf : b ∈ fp := by
                    obtain ⟨xs, fps, _, _, _, hfp, _⟩ := hD
                    rw [hfp, ← e]; simp
                  obtain ⟨i, oi, hi, h1, h2⟩ := hDk b hbf
                  rcases g.dom i oi h1 b h2 with h | h
                  · exact hn h
                  · omega
                · cases h
              · cases h
            · cases h
          · cases h
        · cases h
      | _ => simp [eapp] at h
    | _ => simp [eapp] at h
  | _ => simp [eapp] at h
end
end Go.Proofs.YthjedjndamejmaaGreat.G
namespace Go.Proofs.YthjedjndamejmaaGreat.G
set_option linter.all false
open Go.RowKit L D
variable {ty : Tag → Nat}
/-- Cells that go into memory of the call's own. -/
def takes (st : St) : List V → Option (List V × List Nat)
  | [] => some ([], [])
  | .lit v :: r => match takes st r with | some (c, k) => some (.lit v :: c, k) | none => none
  | .own n :: r => match look st.hp n, takes st r with
    | some (.arr t l), some (c, k) => some (.sl t l :: c, n :: k)
    | _, _ => none
  | _ => none
def bparts (st : St) (g : Tag) : Nat → List (Nat × Operand) → Option (List Prop × List (T g) × List Nat)
  | _, [] => some ([], [], [])
  | i, (j, x) :: r => match Nat.beq i j, opv st [] x with
    | true, some s => match takes st (cellsOf s) with
      | some (c, k) => match enc g c, bparts st g (i + 1) r with
        | some (vc, y), some (vcs, ys, ks) => some (vc ++ vcs, y :: ys, k ++ ks)
        | _, _ => none
      | none => none
    | _, _ => none
/-- The same; of an object only a part may go. -/
def takesw (st : St) : List V → Option (List V × List Nat)
  | [] => some ([], [])
  | .lit v :: r => match takesw st r with | some (c, k) => some (.lit v :: c, k) | none => none
  | .own n :: r => match look st.hp n, takesw st r with
    | some (.arr t l), some (c, k) => some (.sl t l :: c, n :: k)
    | _, _ => none
  | .vw n _ t l :: r => match look st.hp n, takesw st r with
    | some (.arr _ _), some (c, k) => some (.sl t l :: c, n :: k)
    | _, _ => none
  | _ => none
def bpartsw (st : St) (g : Tag) : Nat → List (Nat × Operand) → Option (List Prop × List (T g) × List Nat)
  | _, [] => some ([], [], [])
  | i, (j, x) :: r => match Nat.beq i j, opv st [] x with
    | true, some s => match takesw st (cellsOf s) with
      | some (c, k) => match enc g c, bpartsw st g (i + 1) r with
        | some (vc, y), some (vcs, ys, ks) => some (vc ++ vcs, y :: ys, k ++ ks)
        | _, _ => none
      | none => none
    | _, _ => none
def nodupn : List Nat → Bool
  | [] => true
  | n :: r => !(r.any fun m => Nat.beq n m) && nodupn r
def ebuild (P : Program) (ty : Tag → Nat) (Γ : Nat → TK) (st : St) (m0 : Nat) : Op → Option (List Prop × St × SV)
  | .buildSlice t len parts => match Γ t with
    | .sl g e => match Nat.beq e (ty g), Nat.beq parts.toList.length len, Nat.ble (len * kk g) 16777216, bpartsw st g 0 parts.toList with
      | true, true, true, some (vc, xs, ks) => match nodupn ks && !pinned ks && !pin m0, look (hkills ks [] st.hp) m0 with
        | true, none => some (El P ty g :: vc, st.gone ks m0 g xs, .one (.a (.own m0)))
        | _, _ => none
      | _, _, _, _ => none
    | _ => none
  | _ => none
theorem nodupn_ok : ∀ {l : List Nat}, nodupn l = true → l.Nodup
  | [], _ => List.nodup_nil
  | n :: r, h => by
    simp only [nodupn, Bool.and_eq_true, Bool.not_eq_true', List.any_eq_false] at h
    exact List.nodup_cons.2 ⟨fun hm => h.1 n hm (by simp), nodupn_ok h.2⟩
section
variable {P : Program} {zb : Base} {st : St} {a : Act} {w : World} {env : Env} {Q : Exit → Act → World → Prop} {o : Oper}
theorem takes_ok (g : Good ty zb st a.tmps w env) : ∀ {l c : List V} {k : List Nat} {us : List Value}, All2 (RA w st.hp env) l us → takes st l = some (c, k) → k.Nodup →
    ∃ fp, RIs w c us fp ∧ Own 0 w fp ∧ ∀ b, b ∈ fp → ∃ i o, i ∈ k ∧ look st.hp i = some o ∧ b ∈ (env i).fp
  | [], c, k, us, hr, h, _ => by
    simp only [takes, Option.some.injEq, Prod.mk.injEq] at h
    obtain ⟨rfl, rfl⟩ := h
    cases us with
    | nil => exact ⟨[], rfl, Own.nil _ _, by simp⟩
    | cons _ _ => exact hr.elim
  | v :: r, c, k, us, hr, h, hnd => by
    cases us with
    | nil => exact hr.elim
    | cons u us =>
      cases v with
      | lit x =>
        simp only [takes] at h
        split at h
        · rename_i c' k' h'
          simp only [Option.some.injEq, Prod.mk.injEq] at h
          obtain ⟨rfl, rfl⟩ := h
          obtain ⟨fp, h1, h2, h3⟩ := takes_ok g hr.2 h' hnd
          obtain ⟨e1, e2⟩ := hr.1
          exact ⟨fp, ⟨[], fp, ⟨e1, e2, rfl⟩, h1, rfl⟩, h2, h3⟩
        · cases h
      | own n =>
        simp only [takes] at h
        split at h
        · rename_i t l c' k' hl h'
          simp only [Option.some.injEq, Prod.mk.injEq] at h
          obtain ⟨rfl, rfl⟩ := h
          obtain ⟨hn1, hn2⟩ := List.nodup_cons.1 hnd
          obtain ⟨fp, h1, h2, h3⟩ := takes_ok g hr.2 h' hn2
          obtain ⟨_, rfl⟩ := hr.1
          have hb := RO.sl (g.obj n _ hl)
          have ho := RO.own (g.obj n _ hl)
          refine ⟨(env n).fp ++ fp, ⟨_, _, hb, h1, rfl⟩, ⟨List.nodup_append.2 ⟨ho.nodup, h2.nodup, ?_⟩, fun b hb => ?_, fun b hb => ?_⟩, fun b hb => ?_⟩
          · rintro b hb x hx rfl
            obtain ⟨i, o, hi, h4, h5⟩ := h3 b hx
            exact g.dis n i _ _ (fun e => hn1 (e ▸ hi)) hl h4 b hb h5
          · rcases List.mem_append.1 hb with hb | hb
            · exact ho.ge b hb
            · exact h2.ge b hb
          · rcases List.mem_append.1 hb with hb | hb
            · exact ho.kind b hb
            · exact h2.kind b hb
          · rcases List.mem_append.1 hb with hb | hb
            · exact ⟨n, _, by simp, hl, hb⟩
            · obtain ⟨i, o, hi, h4, h5⟩ := h3 b hb
              exact ⟨i, o, List.mem_cons_of_mem _ hi, h4, h5⟩
        · cases h
      | _ => simp [takes] at h
theorem cellsOf_ok (g : Good ty zb st a.tmps w env) {s : S1} {u : Value} (hr : RS1 w st.hp env s u) (hn : noany (cellsOf s) = true) : All2 (RA w st.hp env) (cellsOf s) u.cells.toList := by
  cases s with
  | a v =>
    have := one_cells g (show RA w st.hp env v u from hr) (noany_mem hn v (by simp [cellsOf]))
    rw [this]
    exact ⟨hr, trivial⟩
  | agg l =>
    obtain ⟨cs, rfl, hl⟩ := hr
    exact hl
theorem takes_noany {st : St} : ∀ {l c : List V} {k : List Nat}, takes st l = some (c, k) → noany l = true
  | [], _, _, _ => rfl
  | v :: r, c, k, h => by
    cases v with
    | lit x =>
      simp only [takes] at h
      split at h
      · rename_i h'; exact takes_noany (l := r) h'
      · cases h
    | own n =>
      simp only [takes] at h
      split at h
      · rename_i h'; exact takes_noany (l := r) h'
      · cases h
    | _ => simp [takes] at h
theorem takesw_ok (g : Good ty zb st a.tmps w env) : ∀ {l c : List V} {k : List Nat} {us : List Value}, All2 (RA w st.hp env) l us → takesw st l = some (c, k) → k.Nodup →
    ∃ fp, RIs w c us fp ∧ Own 0 w fp ∧ ∀ b, b ∈ fp → ∃ i o, i ∈ k ∧ look st.hp i = some o ∧ b ∈ (env i).fp
  | [], c, k, us, hr, h, _ => by
    simp only [takesw, Option.some.injEq, Prod.mk.injEq] at h
    obtain ⟨rfl, rfl⟩ := h
    cases us with
    | nil => exact ⟨[], rfl, Own.nil _ _, by simp⟩
    | cons _ _ => exact hr.elim
  | v :: r, c, k, us, hr, h, hnd => by
    cases us with
    | nil => exact hr.elim
    | cons u us =>
      cases v with
      | lit x =>
        simp only [takesw] at h
        split at h
        · rename_i c' k' h'
          simp only [Option.some.injEq, Prod.mk.injEq] at h
          obtain ⟨rfl, rfl⟩ := h
          obtain ⟨fp, h1, h2, h3⟩ := takesw_ok g hr.2 h' hnd
          obtain ⟨e1, e2⟩ := hr.1
          exact ⟨fp, ⟨[], fp, ⟨e1, e2, rfl⟩, h1, rfl⟩, h2, h3⟩
        · cases h
      | own n =>
        simp only [takesw] at h
        split at h
        · rename_i t l c' k' hl h'
          simp only [Option.some.injEq, Prod.mk.injEq] at h
          obtain ⟨rfl, rfl⟩ := h
          obtain ⟨hn1, hn2⟩ := List.nodup_cons.1 hnd
          obtain ⟨fp, h1, h2, h3⟩ := takesw_ok g hr.2 h' hn2
          obtain ⟨_, rfl⟩ := hr.1
          have hb := RO.sl (g.obj n _ hl)
          have ho := RO.own (g.obj n _ hl)
          refine ⟨(env n).fp ++ fp, ⟨_, _, hb, h1, rfl⟩, ⟨List.nodup_append.2 ⟨ho.nodup, h2.nodup, ?_⟩, fun b hb => ?_, fun b hb => ?_⟩, fun b hb => ?_⟩
          · rintro b hb x hx rfl
            obtain ⟨i, o, hi, h4, h5⟩ := h3 b hx
            exact g.dis n i _ _ (fun e => hn1 (e ▸ hi)) hl h4 b hb h5
          · rcases List.mem_append.1 hb with hb | hb
            · exact ho.ge b hb
            · exact h2.ge b hb
          · rcases List.mem_append.1 hb with hb | hb
            · exact ho.kind b hb
            · exact h2.kind b hb
          · rcases List.mem_append.1 hb with hb | hb
            · exact ⟨n, _, by simp, hl, hb⟩
            · obtain ⟨i, o, hi, h4, h5⟩ := h3 b hb
              exact ⟨i, o, List.mem_cons_of_mem _ hi, h4, h5⟩
        · cases h
      | vw n p t l =>
        simp only [takesw] at h
        split at h
        · rename_i t0 l0 c' k' hl h'
          simp only [Option.some.injEq, Prod.mk.injEq] at h
          obtain ⟨rfl, rfl⟩ := h
          obtain ⟨hn1, hn2⟩ := List.nodup_cons.1 hnd
          obtain ⟨fp, h1, h2, h3⟩ := takesw_ok g hr.2 h' hn2
          obtain ⟨_, ⟨fv, hs, hnv, hsub⟩, _⟩ := hr.1
          have ho := RO.own (g.obj n _ hl)
          refine ⟨fv ++ fp, ⟨_, _, hs, h1, rfl⟩, ⟨List.nodup_append.2 ⟨hnv, h2.nodup, ?_⟩, fun b hb => ?_, fun b hb => ?_⟩, fun b hb => ?_⟩
          · rintro b hb x hx rfl
            obtain ⟨i, o, hi, h4, h5⟩ := h3 b hx
            exact g.dis n i _ _ (fun e => hn1 (e ▸ hi)) hl h4 b (hsub b hb) h5
          · rcases List.mem_append.1 hb with hb | hb
            · exact ho.ge b (hsub b hb)
            · exact h2.ge b hb
          · rcases List.mem_append.1 hb with hb | hb
            · exact ho.kind b (hsub b hb)
            · exact h2.kind b hb
          · rcases List.mem_append.1 hb with hb | hb
            · exact ⟨n, _, by simp, hl, hsub b hb⟩
            · obtain ⟨i, o, hi, h4, h5⟩ := h3 b hb
              exact ⟨i, o, List.mem_cons_of_mem _ hi, h4, h5⟩
        · cases h
      | _ => simp [takesw] at h
theorem takesw_noany {st : St} : ∀ {l c : List V} {k : List Nat}, takesw st l = some (c, k) → noany l = true
  | [], _, _, _ => rfl
  | v :: r, c, k, h => by
    cases v with
    | lit x =>
      simp only [takesw] at h
      split at h
      · rename_i h'; exact takesw_noany (l := r) h'
      · cases h
    | own n =>
      simp only [takesw] at h
      split at h
      · rename_i h'; exact takesw_noany (l := r) h'
      · cases h
    | vw n p t l =>
      simp only [takesw] at h
      split at h
      · rename_i h'; exact takesw_noany (l := r) h'
      · cases h
    | _ => simp [takesw] at h
theorem bpartsw_ok (g : Good ty zb st a.tmps w env) {t : Tag} : ∀ {ps : List (Nat × Operand)} {i : Nat} {vc : List Prop} {xs : List (T t)} {ks : List Nat}, bpartsw st t i ps = some (vc, xs, ks) → ks.Nodup → (∀ q, q ∈ vc → q) →
    (ps.map fun p => (p.1, a.eval p.2)) = seqv i (ps.map fun p => a.eval p.2) ∧ xs.length = ps.length ∧ ∃ fps : List (List Nat), fps.length = xs.length ∧
      (∀ (i : Nat) (x : T t) (f : List Nat), xs[i]? = some x → fps[i]? = some f → ∃ p : Nat × Operand, ps[i]? = some p ∧ rd t w (a.eval p.2).cells.toList x f) ∧ Own 0 w fps.flatten ∧ ∀ b, b ∈ fps.flatten → ∃ i o, i ∈ ks ∧ look st.hp i = some o ∧ b ∈ (env i).fp
  | [], i, vc, xs, ks, h, _, _ => by
    simp only [bpartsw, Option.some.injEq, Prod.mk.injEq] at h
    obtain ⟨rfl, rfl, rfl⟩ := h
    exact ⟨rfl, rfl, [], rfl, by simp, Own.nil _ _, by simp⟩
  | (j, x) :: r, i, vc, xs, ks, h, hnd, hv => by
    simp only [bpartsw] at h
    split at h
    · rename_i s hij hx
      have hij := Nat.eq_of_beq_eq_true hij
      subst hij
      split at h
      · rename_i c k hc
        split at h
        · rename_i vc1 y vcs ys ks1 he hb
          simp only [Option.some.injEq, Prod.mk.injEq] at h
          obtain ⟨rfl, rfl, rfl⟩ := h
          obtain ⟨hn1, hn2, hn3⟩ := List.nodup_append.1 hnd
          obtain ⟨q1, q2, fps, q3, q4, q5, q6⟩ := bpartsw_ok g hb hn2 (fun q hq => hv q (List.mem_append_right _ hq))
          obtain ⟨fp, r1, r2, r3⟩ := takesw_ok g (cellsOf_ok g (opv_ok g (fun e he => by simp at he) hx) (takesw_noany hc)) hc hn1
          have hE := enc_ok t he (fun q hq => hv q (List.mem_append_left _ hq)) r1
          refine ⟨by simp [seqv, q1], by simp [q2], fp :: fps, by simp [q3], ?_, ⟨?_, ?_, ?_⟩, ?_⟩
          · intro i' x' f hx' hf
            cases i' with
            | zero => simp at hx' hf; subst hx'; subst hf; exact ⟨(i, x), rfl, hE⟩
            | succ n => simp at hx' hf; obtain ⟨p, h1, h2⟩ := q4 n x' f hx' hf; exact ⟨p, by simpa using h1, h2⟩
          · rw [List.flatten_cons]
            refine List.nodup_append.2 ⟨r2.nodup, q5.nodup, ?_⟩
            rintro b hb z hz rfl
            obtain ⟨n, o1, h1, h2, h3⟩ := r3 b hb
            obtain ⟨m, o2, h4, h5, h6⟩ := q6 b hz
            exact g.dis n m _ _ (fun e => hn3 n h1 m h4 e) h2 h5 b h3 h6
          · intro b hb
            rw [List.flatten_cons] at hb
            rcases List.mem_append.1 hb with hb | hb
            · exact r2.ge b hb
            · exact q5.ge b hb
          · intro b hb
            rw [List.flatten_cons] at hb
            rcases List.mem_append.1 hb with hb | hb
            · exact r2.kind b hb
            · exact q5.kind b hb
          · intro b hb
            rw [List.flatten_cons] at hb
            rcases List.mem_append.1 hb with hb | hb
            · obtain ⟨n, o1, h1, h2, h3⟩ := r3 b hb; exact ⟨n, o1, List.mem_append_left _ h1, h2, h3⟩
            · obtain ⟨n, o1, h1, h2, h3⟩ := q6 b hb; exact ⟨n, o1, List.mem_append_right _ h1, h2, h3⟩
        · cases h
      · cases h
    · cases h
theorem ebuild_ok {Γ : Nat → TK} (C : ∀ t, TKok P t (Γ t)) {m0 : Nat} {vc : List Prop} {st' : St} {v : SV} (h : ebuild P ty Γ st m0 o.op = some (vc, st', v)) (g : Good ty zb st a.tmps w env) (hB : zb.w.heap.size ≤ w.heap.size) (hv : ∀ q, q ∈ vc → q) :
    o.wp P a w (fun a' w' => ∃ u env', a' = a.put o.dst u ∧ Kept zb w w' ∧ Good ty zb st' a.tmps w' env' ∧ st'.n = st.n ∧ RSV w' st'.hp env' a.tmps v u) Q := by
  generalize hoo : o.op = op at h
  cases op with
  | buildSlice t len parts =>
    simp only [ebuild] at h
    split at h
    · rename_i gt e hk
      split at h
      · rename_i vc1 xs ks he hlen hbig hb
        have he := Nat.eq_of_beq_eq_true he
        split at h
        · rename_i hnd hlk
          simp only [Bool.and_eq_true, Bool.not_eq_true'] at hnd
          obtain ⟨⟨hnd, hpk⟩, hpm⟩ := hnd
          simp only [Option.some.injEq, Prod.mk.injEq] at h
          obtain ⟨rfl, h2, rfl⟩ := h
          rw [St.gone_eq] at h2
          subst h2
          have hEl : El P ty gt := hv _ (by simp)
          obtain ⟨q1, q2, fps, q3, q4, q5, q6⟩ := bpartsw_ok g hb (nodupn_ok hnd) (fun q hq => hv q (by simp [hq]))
          have hC := C t
          rw [hk, he] at hC
          obtain ⟨w', r1, r2, r3⟩ := run_built (P := P) (w := w) (a := a) hoo hC.1 hEl (Nat.le_of_ble_eq_true hbig) (Nat.eq_of_beq_eq_true hlen) (Nat.zero_le _) q1 q2 q3 q4 q5
          obtain ⟨env', hg', hv'⟩ := good_app (ty := ty) g hB (ks := ks) hpk hpm hlk (v := nilv) (fp := []) (fx := fps.flatten) (by simpa using q6) (by intro b hb; cases hb) r3
            ⟨r2.os, r2.tape, r2.output, r2.size, fun b hb _ => r2.block b hb⟩ (by
              intro b hb
              rcases List.mem_cons.1 hb with h | h
              · exact Or.inr (Or.inr h)
              · exact Or.inr (Or.inl h))
          unfold Oper.wp
          rw [r1]
          exact ⟨_, env', rfl, kept_below r2 hB, hg', rfl, ⟨gt, _, look_eq⟩, hv'.symm⟩
        · cases h
      · cases h
    · cases h
  | _ => simp [ebuild] at h
end
end Go.Proofs.YthjedjndamejmaaGreat.G
namespace Go.Proofs.YthjedjndamejmaaGreat.G
set_option linter.all false
open Go.RowKit L D
variable {ty : Tag → Nat}
theorem rangeAt_app {w : World} {b o : Nat} {x y : List Value} (hx : w.rangeAt b o x) (hy : w.rangeAt b (o + x.length) y) : w.rangeAt b o (x ++ y) := by
  intro j v hv
  by_cases hj : j < x.length
  · rw [List.getElem?_append_left hj] at hv; exact hx j v hv
  · rw [List.getElem?_append_right (by omega)] at hv
    have := hy _ v hv
    rwa [show o + x.length + (j - x.length) = o + j by omega] at this
theorem rangeAt_take {w : World} {b o n : Nat} {cs : List Value} (h : w.rangeAt b o cs) : w.rangeAt b o (cs.take n) := by
  intro j v hv
  rw [List.getElem?_take] at hv
  split at hv
  · exact h j v hv
  · cases hv
theorem rangeAt_drop {w : World} {b o n : Nat} {cs : List Value} (h : w.rangeAt b o cs) : w.rangeAt b (o + n) (cs.drop n) := by
  intro j v hv
  rw [List.getElem?_drop] at hv
  have := h _ v hv
  rwa [show o + n + j = o + (n + j) by omega]
/-- A part of a range is stored anew. -/
theorem rangeAt_splice {w : World} {b o off : Nat} {cs us : List Value} (h : w.rangeAt b o cs) (hl : off + us.length ≤ cs.length) (ht : w.there b (o + off) us.length) :
    (w.setCells b (o + off) us).rangeAt b o (cs.take off ++ (us ++ cs.drop (off + us.length))) := by
  have l1 : (cs.take off).length = off := by rw [List.length_take]; omega
  refine rangeAt_app (World.rangeAt_setCells_apart (rangeAt_take h) _ _ _ (Or.inr (Or.inl (by rw [l1]; exact Nat.le_refl _)))) ?_
  rw [l1]
  refine rangeAt_app (World.rangeAt_setCells_same w b _ us ht) ?_
  rw [Nat.add_assoc]
  exact World.rangeAt_setCells_apart (rangeAt_drop h) _ _ _ (Or.inr (Or.inr (by omega)))
theorem RIs.app3 {w : World} {x y z : List V} {us vs ts : List Value} {f g h : List Nat} (a : RIs w x us f) (b : RIs w y vs g) (c : RIs w z ts h) : RIs w (x ++ (y ++ z)) (us ++ (vs ++ ts)) (f ++ (g ++ h)) := RIs.app a (RIs.app b c)
theorem RIs.split {w : World} : ∀ (n : Nat) {c : List V} {cs : List Value} {f : List Nat}, RIs w c cs f → ∃ f1 f2, f = f1 ++ f2 ∧ RIs w (c.take n) (cs.take n) f1 ∧ RIs w (c.drop n) (cs.drop n) f2
  | 0, c, cs, f, h => ⟨[], f, rfl, by simp [RIs], by simpa using h⟩
  | n + 1, [], [], f, h => ⟨[], f, rfl, by simp [RIs], by simpa using h⟩
  | n + 1, v :: r, u :: us, f, ⟨f1, f2, h1, h2, e⟩ => by
    obtain ⟨g1, g2, k1, k2, k3⟩ := RIs.split n h2
    exact ⟨f1 ++ g1, g2, by rw [e, k1, List.append_assoc], ⟨f1, g1, h1, k2, rfl⟩, by simpa using k3⟩
  | _ + 1, [], _ :: _, _, h => h.elim
  | _ + 1, _ :: _, [], _, h => h.elim
/-- A part of cells is another. -/
theorem RIs.spl {w : World} {c d vs : List V} {cs us : List Value} {f g : List Nat} {off : Nat} (h : RIs w c cs f) (hv : RIs w vs us g) (hs : G.spl c off vs = some d) :
    ∃ f1 f2 f3, f = f1 ++ (f2 ++ f3) ∧ RIs w d (cs.take off ++ (us ++ cs.drop (off + us.length))) (f1 ++ (g ++ f3)) ∧ off + us.length ≤ cs.length := by
  unfold G.spl at hs
  split at hs
  · rename_i hb
    have hb := Nat.le_of_ble_eq_true hb
    simp only [Option.some.injEq] at hs
    subst hs
    obtain ⟨f1, f', e1, k1, k2⟩ := RIs.split off h
    obtain ⟨f2, f3, e2, _, k4⟩ := RIs.split us.length k2
    have h1 := h.len
    have h2 := hv.len
    refine ⟨f1, f2, f3, by rw [e1, e2], ?_, by omega⟩
    have := RIs.app3 k1 hv k4
    rw [List.drop_drop, List.drop_drop] at this
    rw [← h2]
    exact this
  · cases hs
theorem fps_set_mem {fps : List (List Nat)} {i : Nat} {f' : List Nat} {b : Nat} (h : b ∈ (fps.set i f').flatten) : b ∈ f' ∨ ∃ j f, j ≠ i ∧ fps[j]? = some f ∧ b ∈ f := by
  obtain ⟨f, hf, hb⟩ := List.mem_flatten.1 h
  obtain ⟨j, hj⟩ := List.getElem?_of_mem hf
  by_cases hji : j = i
  · subst hji
    have hlt := (List.getElem?_eq_some_iff.1 hj).1
    rw [List.length_set] at hlt
    rw [List.getElem?_set_self hlt] at hj
    simp only [Option.some.injEq] at hj
    subst hj
    exact Or.inl hb
  · rw [List.getElem?_set_ne (Ne.symm hji)] at hj
    exact Or.inr ⟨j, f, hji, hj, hb⟩
theorem fps_set_nodup {fps : List (List Nat)} {i : Nat} {f' : List Nat} (h : fps.flatten.Nodup) (hf : f'.Nodup) (hd : ∀ j f, j ≠ i → fps[j]? = some f → ∀ b, b ∈ f → b ∉ f') : (fps.set i f').flatten.Nodup := by
  have h1 := List.pairwise_flatten.1 h
  refine List.pairwise_flatten.2 ⟨fun l hl => ?_, ?_⟩
  · obtain ⟨j, hj⟩ := List.getElem?_of_mem hl
    by_cases hji : j = i
    · subst hji
      have hlt := (List.getElem?_eq_some_iff.1 hj).1
      rw [List.length_set] at hlt
      rw [List.getElem?_set_self hlt] at hj
      simp only [Option.some.injEq] at hj
      subst hj
      exact hf
    · rw [List.getElem?_set_ne (Ne.symm hji)] at hj
      exact h1.1 _ (List.mem_of_getElem? hj)
  · have h2 := List.pairwise_iff_getElem.1 h1.2
    rw [List.pairwise_iff_getElem]
    intro p q hp hq hpq x hx y hy e
    subst e
    rw [List.length_set] at hp hq
    rw [List.getElem_set] at hx hy
    split at hx <;> split at hy
    · omega
    · rename_i e1 e2
      subst e1
      exact hd q _ (by omega) (List.getElem?_eq_getElem hq) x hy hx
    · rename_i e1 e2
      subst e2
      exact hd p _ (by omega) (List.getElem?_eq_getElem hp) x hx hy
    · exact h2 p q hp hq hpq x hx x hy rfl
/-- An element of a slice in memory is another, its cells stored anew. -/
theorem elems_put {α : Type} {k : Nat} {E : ER α} (G : Fine k E) {w w' : World} {b off : Nat} {l : List α} {fps : List (List Nat)} (h : Elems k E w b off l fps) {i : Nat} {x' : α} {f' : List Nat} {cs' : List Value}
    (hr : w'.rangeAt b (off + i * k) cs') (hE : E w' cs' x' f') (ho : ∀ j cs, j ≠ i → cs.length = k → w.rangeAt b (off + j * k) cs → w'.rangeAt b (off + j * k) cs) (ha : ∀ j f, j ≠ i → fps[j]? = some f → Agree w w' f) :
    Elems k E w' b off (l.set i x') (fps.set i f') := by
  refine ⟨by rw [List.length_set, List.length_set]; exact h.1, fun j y fy hy hfy => ?_⟩
  by_cases hj : i = j
  · subst hj
    have hi := (List.getElem?_eq_some_iff.1 hy).1
    rw [List.length_set] at hi
    have hi2 := (List.getElem?_eq_some_iff.1 hfy).1
    rw [List.length_set] at hi2
    rw [List.getElem?_set_self hi] at hy
    rw [List.getElem?_set_self hi2] at hfy
    simp only [Option.some.injEq] at hy hfy
    subst hy; subst hfy
    exact ⟨cs', hr, hE⟩
  · rw [List.getElem?_set_ne hj] at hy hfy
    obtain ⟨cy, hry, hEy⟩ := h.2 j y fy hy hfy
    exact ⟨cy, ho j cy (Ne.symm hj) (G.len hEy) hry, G.agree hEy (ha j fy (Ne.symm hj) hfy)⟩
/-- A slice that was built is built still, if its value is the same and its block has kept its shape. -/
theorem bld_of {α : Type} {k : Nat} {E : ER α} (G : Fine k E) {e : Nat} {w w' : World} {v : Value} {l l' : List α} {fp fp' : List Nat} (h : Bld k E 0 e w v l fp) (hs : Shape w w') (h' : Sl k E w' v l' fp') (ho : Own 0 w' fp') (hsub : ∀ b, b ∈ fp' → b ∈ fp) :
    ∃ fp2, Bld k E 0 e w' v l' fp2 ∧ ∀ b, b ∈ fp2 → b ∈ fp := by
  rcases h.part with ⟨rfl, rfl, rfl⟩ | ⟨g, n, fps, rfl, hn, rfl, hp⟩
  · obtain ⟨oa, cap, hv, _, _, h3⟩ := h'
    simp only [Value.slice.injEq] at hv
    obtain ⟨rfl, hl, rfl⟩ := hv
    have : l' = [] := List.eq_nil_of_length_eq_zero hl.symm
    subst this
    exact ⟨[], Bld.nil _ _ _ _ _, by simp⟩
  · obtain ⟨oa, cap, hv, hc, hm, h3⟩ := h'
    simp only [Value.slice.injEq] at hv
    obtain ⟨rfl, hl, rfl⟩ := hv
    obtain ⟨c, hc1, hc2⟩ := hp.blk
    obtain ⟨c', hs1, hs2⟩ := hs g c e hc1
    rcases h3 with ⟨rfl, rfl, _⟩ | ⟨b, off, fps', hb, hblt, rfl, hE⟩
    · rw [hl]
      refine ⟨[g], Part.bld G (l := []) (fps := []) ⟨⟨c', hs1, by rw [hs2, hc2]⟩, ⟨rfl, by simp⟩, ⟨by simp, by simp, fun b hb => ?_⟩, hm⟩ (Nat.zero_le _), by simp⟩
      simp only [List.flatten_nil, List.mem_singleton] at hb
      exact ⟨_, _, by rw [hb]; exact hs1⟩
    · simp only [Option.some.injEq, Addr.mk.injEq, and_true] at hb
      obtain ⟨rfl, rfl⟩ := hb
      rw [hl]
      exact ⟨_, Part.bld G ⟨⟨c', hs1, by rw [hs2, hc2]⟩, hE, ho, hm⟩ hc, hsub⟩
/-- May the value be stored as one of that type? -/
def fits : TK → S1 → Bool
  | .st z _ _, .agg c => Nat.beq c.length z.length
  | .st _ _ _, _ => false
  | .other, _ => false
  | _, .a _ => true
  | _, _ => false
theorem fits_agg {k : TK} {c : List V} (h : fits k (.agg c) = true) : ∃ z tg fo, k = .st z tg fo ∧ Nat.beq c.length z.length = true := by
  cases k with
  | st z tg fo => exact ⟨z, tg, fo, rfl, h⟩
  | _ => cases h
theorem fits_one {k : TK} {v : V} (h : fits k (.a v) = true) : (∀ z tg fo, k ≠ .st z tg fo) ∧ k ≠ .other := by
  cases k with
  | st z tg fo => cases h
  | other => cases h
  | _ => exact ⟨fun _ _ _ e => (by cases e), fun e => (by cases e)⟩
/-- An object is another; the objects ms have gone into it. -/
def St.turned (st : St) (ms : List Nat) (n : Nat) (t : Tag) (l : List (T t)) : St := ⟨st.n, st.sl.map fun e => (e.1, e.2.kills ms [n]), (n, .arr t l) :: hkills ms [n] st.hp⟩
def okput (n : Nat) (ms : List Nat) : Bool := nodupn (n :: ms) && !pinned ms && (match ms with | [] => true | _ => !pin n)
def eput (Γ : Nat → TK) (st : St) : Op → Option (List Prop × St)
  | .store t x y => match opv st [] x, opv st [] y with
    | some (.a (.eptr n i off)), some v => match look st.hp n with
      | some (.arr g l) => match fits (Γ t) v, takes st (cellsOf v) with
        | true, some (c, ms) => match spl (dec g (l.getD i (dfl g))) off c with
          | some d => match enc g d, okput n ms with
            | some (vc, y'), true => some ((i < l.length) :: vc, st.turned ms n g (l.set i y'))
            | _, _ => none
          | none => none
        | _, _ => none
      | _ => none
    | _, _ => none
  | _ => none
section
variable {P : Program} {zb : Base} {st st' : St} {a : Act} {w : World} {env : Env} {Q : Exit → Act → World → Prop} {o : Oper}
/-- An object has turned. -/
theorem good_turned (g : Good ty zb st a.tmps w env) {n : Nat} {t : Tag} {l l' : List (T t)} (hl : look st.hp n = some (.arr t l)) {ms : List Nat} (hok : okput n ms = true) {w' : World} {fp' fx : List Nat}
    (hfx : ∀ b, b ∈ fx → ∃ i o, i ∈ ms ∧ look st.hp i = some o ∧ b ∈ (env i).fp) (hsub : ∀ b, b ∈ fp' → b ∈ (env n).fp ∨ b ∈ fx) (hpin : pin n = true → ∀ b, b ∈ fp' → b ∈ (env n).fp)
    (hk : ∀ b, b ∉ (env n).fp → b ∉ fx → b < w.heap.size → w'.heap[b]? = w.heap[b]?) (hro' : RArr ty w' n t l' ⟨(env n).v, fp'⟩) :
    ∃ env', Good ty zb (st.turned ms n t l') a.tmps w' env' ∧ (env' n).v = (env n).v := by
  simp only [okput, Bool.and_eq_true, Bool.not_eq_true'] at hok
  obtain ⟨⟨hnd, hpk⟩, hpn⟩ := hok
  have hnd := nodupn_ok hnd
  have hnm : n ∉ ms := (List.nodup_cons.1 hnd).1
  refine ⟨fun m => if m = n then ⟨(env n).v, fp'⟩ else env m, ?_, by simp⟩
  have hlk : ∀ m o, look ((n, Obj.arr t l') :: hkills ms [n] st.hp) m = some o → (m = n ∧ o = .arr t l') ∨ (m ≠ n ∧ m ∉ ms ∧ ∃ o', look st.hp m = some o' ∧ o = o'.kills ms [n]) := by
    intro m o hm
    by_cases hmd : m = n
    · subst hmd; rw [look_eq] at hm; simp only [Option.some.injEq] at hm; exact Or.inl ⟨rfl, hm.symm⟩
    · rw [look_ne hmd, hkills_look] at hm
      split at hm
      · cases hm
      · rename_i hks
        cases hq : look st.hp m with
        | none => rw [hq] at hm; cases hm
        | some o' => rw [hq] at hm; simp only [Option.map_some, Option.some.injEq] at hm; exact Or.inr ⟨hmd, hks, o', rfl, hm.symm⟩
  have how : ∀ b, b ∈ fp' → ∃ i o, (i = n ∨ i ∈ ms) ∧ look st.hp i = some o ∧ b ∈ (env i).fp := by
    intro b hb
    rcases hsub b hb with h | h
    · exact ⟨n, _, Or.inl rfl, hl, h⟩
    · obtain ⟨i, o, h1, h2, h3⟩ := hfx b h; exact ⟨i, o, Or.inr h1, h2, h3⟩
  have hst : ∀ m o, m ≠ n → m ∉ ms → look st.hp m = some o → ∀ b, b ∈ (env m).fp → w'.heap[b]? = w.heap[b]? := by
    intro m o hmn hks h3 b hb
    refine hk b (fun h => g.dis m n _ _ hmn h3 hl b hb h) (fun h => ?_) ((g.obj m o h3).blk b hb)
    obtain ⟨i, oi, hi, h5, h6⟩ := hfx b h
    exact g.dis m i _ _ (fun e => hks (e ▸ hi)) h3 h5 b hb h6
  have s : Turn ms [n] w st.hp env w' ((n, .arr t l') :: hkills ms [n] st.hp) (fun m => if m = n then ⟨(env n).v, fp'⟩ else env m) := by
    refine ⟨fun b hb hno => hk b (fun h => hno ⟨n, _, hl, h⟩) (fun h => ?_) hb, ?_, ?_, ?_⟩
    · obtain ⟨i, oi, hi, h5, h6⟩ := hfx b h
      exact hno ⟨i, oi, h5, h6⟩
    · rintro b hb ⟨m, o', h1, h2⟩
      rcases hlk m o' h1 with ⟨rfl, rfl⟩ | ⟨hmd, hks, o'', h3, rfl⟩
      · simp at h2
        obtain ⟨i, o', _, h3, h4⟩ := how b h2
        exact ⟨i, o', h3, h4⟩
      · simp [hmd] at h2
        exact ⟨m, o'', h3, h2⟩
    · intro m o' hks h1
      by_cases hmn : m = n
      · subst hmn
        rw [hl] at h1
        simp only [Option.some.injEq] at h1
        subst h1
        exact ⟨_, look_eq, rfl, by simp⟩
      · exact ⟨o'.kills ms [n], by rw [look_ne hmn, hkills_look, if_neg hks, h1]; rfl, by cases o' <;> simp [Obj.like, Obj.kills], by simp [hmn]⟩
    · rintro m t' l2 ⟨hks, hmn⟩ h1
      have hmn : m ≠ n := by simpa using hmn
      exact ⟨by rw [look_ne hmn, hkills_look, if_neg hks, h1]; rfl, by simp [hmn], hst m _ hmn hks h1⟩
  refine g.turn s (fun m o' hm => ?_) (fun m m' o1 o2 hne h1 h2 b hb hb' => ?_) (fun m o' hm b hb => ?_) (fun m hm => ?_)
  · rcases hlk m o' hm with ⟨rfl, rfl⟩ | ⟨hmd, hks, o'', h3, rfl⟩
    · simp only [if_true]; exact hro'
    · simp only [if_neg hmd]
      exact (g.obj m o'' h3).turn s (hst m o'' hmd hks h3)
  · rcases hlk m o1 h1 with ⟨e1, _⟩ | ⟨hmd, hks, q1, h3, _⟩ <;> rcases hlk m' o2 h2 with ⟨e2, _⟩ | ⟨hmd', hks', q2, h4, _⟩
    · exact hne (e1.trans e2.symm)
    · simp only [if_pos e1] at hb
      simp only [if_neg hmd'] at hb'
      obtain ⟨i, oi, hi, h5, h6⟩ := how b hb
      refine g.dis m' i _ _ (fun e => ?_) h4 h5 b hb' h6
      rcases hi with hi | hi
      · exact hmd' (e.trans hi)
      · exact hks' (e ▸ hi)
    · simp only [if_pos e2] at hb'
      simp only [if_neg hmd] at hb
      obtain ⟨i, oi, hi, h5, h6⟩ := how b hb'
      refine g.dis m i _ _ (fun e => ?_) h3 h5 b hb h6
      rcases hi with hi | hi
      · exact hmd (e.trans hi)
      · exact hks (e ▸ hi)
    · simp only [if_neg hmd] at hb
      simp only [if_neg hmd'] at hb'
      exact g.dis m m' _ _ hne h3 h4 b hb hb'
  · rcases hlk m o' hm with ⟨e1, _⟩ | ⟨hmd, hks, q1, h3, _⟩
    · simp only [if_pos e1] at hb
      obtain ⟨i, oi, _, h5, h6⟩ := how b hb
      exact g.dom i oi h5 b h6
    · simp only [if_neg hmd] at hb
      exact g.dom m q1 h3 b hb
  · by_cases hmn : m = n
    · subst hmn
      simp only [if_true]
      exact ⟨(g.pins m hm).1, fun b hb => (g.pins m hm).2 b (hpin hm b hb)⟩
    · simp only [if_neg hmn]
      exact g.pins m hm
theorem eput_ok {Γ : Nat → TK} (C : ∀ t, TKok P t (Γ t)) (Z : ∀ t, (∀ z tg fo, Γ t ≠ .st z tg fo) → Γ t ≠ .other → (P.info? t).map (·.size) = some 1) {vc : List Prop} (h : eput Γ st o.op = some (vc, st')) (g : Good ty zb st a.tmps w env) (hv : ∀ q, q ∈ vc → q) :
    o.wp P a w (fun a' w' => ∃ env', a' = a.put o.dst undef ∧ Kept zb w w' ∧ Good ty zb st' a.tmps w' env' ∧ st'.n = st.n) Q := by
  have hop : ∀ {x v}, opv st [] x = some v → RS1 w st.hp env v (a.eval x) := fun hx => opv_ok g (fun e he => by simp at he) hx
  generalize hoo : o.op = op at h
  cases op with
  | store t x y =>
    simp only [eput] at h
    split at h
    · rename_i n i off v hx hy
      have hx := hop hx
      have hy := hop hy
      split at h
      · rename_i gt l hl
        split at h
        · rename_i c ms hfit htk
          split at h
          · rename_i d hs
            split at h
            · rename_i vc1 y' he hok
              simp only [Option.some.injEq, Prod.mk.injEq] at h
              obtain ⟨rfl, rfl⟩ := h
              have hi : i < l.length := hv _ (by simp)
              have hok' := hok
              simp only [okput, Bool.and_eq_true, Bool.not_eq_true'] at hok'
              obtain ⟨⟨hnd, hpk⟩, hpn⟩ := hok'
              have hnd := nodupn_ok hnd
              have hnm : n ∉ ms := (List.nodup_cons.1 hnd).1
              -- where the element lies
              obtain ⟨t1, l1, hl1, b2, o2, len1, cap1, hv1, hu⟩ := hx
              rw [hl] at hl1
              simp only [Option.some.injEq, Obj.arr.injEq] at hl1
              obtain ⟨rfl, _⟩ := hl1
              have hro := g.obj n _ hl
              obtain ⟨oa, cap, hsv, hc1, hc2, h3⟩ := RO.sl hro
              have hown := RO.own hro
              rcases h3 with ⟨rfl, _⟩ | ⟨b, o1, fps, hoa, hb2, hfp, hE⟩
              · simp at hi
              rw [hsv, hoa] at hv1
              simp only [Value.slice.injEq, Option.some.injEq, Addr.mk.injEq, and_true] at hv1
              obtain ⟨⟨rfl, rfl⟩, rfl, rfl⟩ := hv1
              have hxi : l[i]? = some (l.getD i (dfl gt)) := by rw [List.getD_eq_getElem?_getD, List.getElem?_eq_getElem hi]; rfl
              obtain ⟨f, hf⟩ := fps_some hE.1 hxi
              obtain ⟨cs, hra, hEi⟩ := hE.2 _ _ f hxi hf
              have hlen := (fine gt).len hEi
              rw [hfp] at hown
              have hnd2 := List.nodup_cons.1 hown.nodup
              -- what is stored
              obtain ⟨fx, hri, hox, hfx⟩ := takes_ok g (cellsOf_ok g hy (takes_noany htk)) htk (List.nodup_cons.1 hnd).2
              obtain ⟨f1, f2, f3, hff, hrd, hlo⟩ := RIs.spl (reads gt hEi) hri hs
              have hEn := enc_ok gt he (fun q hq => hv q (by simp [hq])) hrd
              have hsz : (P.info? t).map (·.size) = some (a.eval y).cells.toList.length ∧ ∀ u, u ∈ (a.eval y).cells.toList → u.oneCell' = true := by
                refine ⟨?_, all2_ones g (cellsOf_ok g hy (takes_noany htk)) (noany_mem (takes_noany htk))⟩
                cases v with
                | agg c' =>
                  have hk : ∃ z tg fo, Γ t = .st z tg fo ∧ Nat.beq c'.length z.length = true := by
                    exact fits_agg hfit
                  obtain ⟨z, tg, fo, hk, hfit⟩ := hk
                  have hC := C t
                  rw [hk] at hC
                  obtain ⟨fs, _, hi2, _⟩ := hC
                  obtain ⟨us, hus, hul⟩ := hy
                  have := Nat.eq_of_beq_eq_true hfit
                  have hl3 := hul.len
                  rw [hus]
                  cases hq : P.info? t with
                  | none => simp [hq] at hi2
                  | some inf => simp [hq] at hi2; simp [hi2.1, Value.cells, hl3, this]
                | a v' =>
                  have hk : (∀ z tg fo, Γ t ≠ .st z tg fo) ∧ Γ t ≠ .other := by
                    exact fits_one hfit
                  have hne : v' ≠ .any := by rintro rfl; simp [cellsOf, takes] at htk
                  have := one_cells g (show RA w st.hp env v' (a.eval y) from hy) hne
                  rw [this]
                  exact Z t hk.1 hk.2
              -- the block
              obtain ⟨cb, eb, hblk⟩ := hown.kind b (by simp)
              have hth : w.there b (o1 + i * kk gt + off) (a.eval y).cells.toList.length := by
                refine thereB hblk _ _ ?_
                have hcl : o1 + i * kk gt + cs.length ≤ cb.size := by
                  have hk0 := kk_pos gt
                  have := hra (cs.length - 1) _ (List.getElem?_eq_getElem (by omega))
                  rw [cellB hblk] at this
                  have := (Array.getElem?_eq_some_iff.1 this).1
                  omega
                omega
              have hkeep : ∀ x, x ≠ b → (w.setCells b (o1 + i * kk gt + off) (a.eval y).cells.toList).heap[x]? = w.heap[x]? := fun x hx => setCells_other b _ _ w x hx
              have hbx : ∀ x, x ∈ fx → x ≠ b := by
                rintro x hx rfl
                obtain ⟨m, om, hm, h5, h6⟩ := hfx x hx
                exact g.dis n m _ _ (fun e => hnm (e ▸ hm)) hl h5 x (by rw [hfp]; simp) h6
              have hbf : ∀ x, x ∈ fps.flatten → x ≠ b := fun x hx e => hnd2.1 (e ▸ hx)
              have hsubf : ∀ x, x ∈ f1 ++ (fx ++ f3) → x ∈ f ∨ x ∈ fx := by
                intro x hx
                rw [hff]
                rcases List.mem_append.1 hx with hx | hx
                · exact Or.inl (List.mem_append_left _ hx)
                · rcases List.mem_append.1 hx with hx | hx
                  · exact Or.inr hx
                  · exact Or.inl (List.mem_append_right _ (List.mem_append_right _ hx))
              have hne' : ∀ x, x ∈ f1 ++ (fx ++ f3) → x ≠ b := by
                intro x hx
                rcases hsubf x hx with h | h
                · exact hbf x (mem_fps hf h)
                · exact hbx x h
              have hagf : Agree w (w.setCells b (o1 + i * kk gt + off) (a.eval y).cells.toList) (f1 ++ (fx ++ f3)) := fun x hx => hkeep x (hne' x hx)
              have hEl' := elems_put (fine gt) (w' := w.setCells b (o1 + i * kk gt + off) (a.eval y).cells.toList) hE (i := i) (x' := y') (f' := f1 ++ (fx ++ f3))
                (rangeAt_splice hra hlo hth) ((fine gt).agree hEn hagf)
                (fun j cs' hj hcl hr => World.rangeAt_setCells_apart hr _ _ _ (Or.inr (by
                  rw [hcl]
                  rcases Nat.lt_or_ge j i with h1 | h1
                  · left
                    have := Nat.mul_le_mul_right (kk gt) (show j + 1 ≤ i by omega)
                    rw [Nat.add_mul] at this; omega
                  · right
                    have := Nat.mul_le_mul_right (kk gt) (show i + 1 ≤ j by omega)
                    rw [Nat.add_mul] at this; omega)))
                (fun j f' _ hf' x hx => hkeep x (hbf x (mem_fps hf' hx)))
              have hndf : (f1 ++ (fx ++ f3)).Nodup := by
                have h1 := (List.pairwise_flatten.1 hnd2.2).1 f (List.mem_of_getElem? hf)
                rw [hff] at h1
                obtain ⟨h2, h3, h4⟩ := List.nodup_append.1 h1
                obtain ⟨_, h6, _⟩ := List.nodup_append.1 h3
                have hap : ∀ x, x ∈ fx → x ∉ f := by
                  intro x hx hxf
                  obtain ⟨m, om, hm, h5, h7⟩ := hfx x hx
                  exact g.dis n m _ _ (fun e => hnm (e ▸ hm)) hl h5 x (by rw [hfp]; exact List.mem_cons_of_mem _ (mem_fps hf hxf)) h7
                rw [hff] at hap
                refine List.nodup_append.2 ⟨h2, List.nodup_append.2 ⟨hox.nodup, h6, ?_⟩, ?_⟩
                · rintro x hx z hz rfl
                  exact hap x hx (by simp [hz])
                · rintro x hx z hz rfl
                  rcases List.mem_append.1 hz with hz | hz
                  · exact hap x hz (by simp [hx])
                  · exact h4 x hx x (by simp [hz]) rfl
              have hmem : ∀ x, x ∈ (fps.set i (f1 ++ (fx ++ f3))).flatten → x ∈ fps.flatten ∨ x ∈ fx := by
                intro x hx
                rcases fps_set_mem hx with h | ⟨j, f', _, hj, h⟩
                · rcases hsubf x h with h | h
                  · exact Or.inl (mem_fps hf h)
                  · exact Or.inr h
                · exact Or.inl (mem_fps hj h)
              have hO' : Own 0 (w.setCells b (o1 + i * kk gt + off) (a.eval y).cells.toList) (b :: (fps.set i (f1 ++ (fx ++ f3))).flatten) := by
                refine ⟨List.nodup_cons.2 ⟨fun hm => ?_, fps_set_nodup hnd2.2 hndf fun j f' hj hf' x hx hx' => ?_⟩, fun _ _ => Nat.zero_le _, fun x hx => ?_⟩
                · rcases hmem b hm with h | h
                  · exact hnd2.1 h
                  · exact hbx b h rfl
                · rcases hsubf x hx' with h | h
                  · exact fps_apart hnd2.2 hf' hf hj x hx h
                  · obtain ⟨m, om, hm, h5, h7⟩ := hfx x h
                    exact g.dis n m _ _ (fun e => hnm (e ▸ hm)) hl h5 x (by rw [hfp]; exact List.mem_cons_of_mem _ (mem_fps hf' hx)) h7
                · rcases List.mem_cons.1 hx with rfl | hx
                  · obtain ⟨c', q1, _⟩ := setCells_blk x eb (a.eval y).cells.toList (o1 + i * kk gt + off) w cb hblk
                    exact ⟨_, _, q1⟩
                  · rcases hmem x hx with h | h
                    · rw [hkeep x (hbf x h)]; exact hown.kind x (List.mem_cons_of_mem _ h)
                    · rw [hkeep x (hbx x h)]; exact hox.kind x h
              have hSl' : Sl (kk gt) (rd gt) (w.setCells b (o1 + i * kk gt + off) (a.eval y).cells.toList) (env n).v (l.set i y') (b :: (fps.set i (f1 ++ (fx ++ f3))).flatten) := by
                refine ⟨some ⟨b, o1, none⟩, cap, by rw [hsv, hoa, List.length_set], by rw [List.length_set]; exact hc1, hc2, Or.inr ⟨b, o1, _, rfl, ?_, rfl, hEl'⟩⟩
                rw [setCells_size]; exact hb2
              have hM := g.dom n _ hl b (by rw [hfp]; simp)
              have hKept := kept_set hM hblk (o1 + i * kk gt + off) (a.eval y).cells.toList
              have hrun : (storeVar t ⟨b, o1 + i * kk gt + off, none⟩ (a.eval y)).run P w = .ok () (w.setCells b (o1 + i * kk gt + off) (a.eval y).cells.toList) := run_storeVar (by simp) hth hsz.1 hsz.2
              have hfin : ∃ fp', (∀ x, x ∈ fp' → x ∈ (env n).fp ∨ x ∈ fx) ∧ (pin n = true → ∀ x, x ∈ fp' → x ∈ (env n).fp) ∧ RArr ty (w.setCells b (o1 + i * kk gt + off) (a.eval y).cells.toList) n gt (l.set i y') ⟨(env n).v, fp'⟩ := by
                have hall : ∀ x, x ∈ b :: (fps.set i (f1 ++ (fx ++ f3))).flatten → x ∈ (env n).fp ∨ x ∈ fx := by
                  intro x hx
                  rw [hfp]
                  rcases List.mem_cons.1 hx with rfl | hx
                  · exact Or.inl (by simp)
                  · rcases hmem x hx with h | h
                    · exact Or.inl (List.mem_cons_of_mem _ h)
                    · exact Or.inr h
                cases hp : soft n with
                | true =>
                  refine ⟨_, hall, fun hpt x hx => ?_, by unfold RArr; rw [hp]; exact ⟨hSl', hO'⟩⟩
                  rcases hall x hx with h | h
                  · exact h
                  · obtain ⟨m, om, hm, _⟩ := hfx x h
                    cases ms with
                    | nil => simp at hm
                    | cons _ _ => rw [hpt] at hpn; simp at hpn
                | false =>
                  obtain ⟨c', e', hbl⟩ : ∃ xs fps0, w.ownsRow 0 (ty gt) (kk gt) (env n).v l.length xs ∧ fps0 = fps := by
                    obtain ⟨xs, fps0, h1, _⟩ := RO.bld hp hro
                    exact ⟨xs, fps, h1, rfl⟩
                  have hB := RO.bld hp hro
                  -- build it again
                  have hB2 : Bld (kk gt) (rd gt) 0 (ty gt) (w.setCells b (o1 + i * kk gt + off) (a.eval y).cells.toList) (env n).v (l.set i y') (b :: (fps.set i (f1 ++ (fx ++ f3))).flatten) := by
                    rcases hB.part with ⟨h1, rfl, _⟩ | ⟨g0, n0, fps0, h1, hn0, h2, hp0⟩
                    · simp at hi
                    · rw [hsv, hoa] at h1
                      simp only [Value.slice.injEq, Option.some.injEq, Addr.mk.injEq, and_true, true_and] at h1
                      obtain ⟨⟨rfl, rfl⟩, rfl⟩ := h1
                      obtain ⟨cc, q1, q2⟩ := hp0.blk
                      obtain ⟨cc', q3, q4⟩ := setCells_blk b (ty gt) (a.eval y).cells.toList (0 + i * kk gt + off) w cc q1
                      rw [hsv, hoa, ← List.length_set (as := l) (i := i) (a := y')]
                      exact Part.bld (fine gt) ⟨⟨cc', q3, by rw [q4, q2]⟩, hEl', hO', hc2⟩ (by rw [List.length_set]; exact hc1)
                  refine ⟨_, hall, ?_, ?_⟩
                  · intro h; rw [soft_pin hp] at h; cases h
                  · unfold RArr; rw [hp]; exact hB2
              obtain ⟨fp', k1, k2, k3⟩ := hfin
              obtain ⟨env', hg', hv'⟩ := good_turned g hl hok (w' := w.setCells b (o1 + i * kk gt + off) (a.eval y).cells.toList) hfx k1 k2 (fun x hx _ _ => hkeep x (fun e => hx (by rw [e, hfp]; simp))) k3
              unfold Oper.wp execOp
              simp only [hoo, hu, Instr.storeAt, Instr.sureAddr, Sem.run_bind, Sem.run_pure, Result.andThen_ok, hrun]
              exact ⟨env', rfl, hKept, hg', rfl⟩
            · cases h
          · cases h
        · cases h
      · cases h
    · cases h
  | _ => simp [eput] at h
end
end Go.Proofs.YthjedjndamejmaaGreat.G
namespace Go.Proofs.YthjedjndamejmaaGreat.G
set_option linter.all false
open Go.RowKit L D
variable {ty : Tag → Nat}
def RF (w : World) : List V → List Value → List (List Nat) → Prop
  | [], [], fps => fps = []
  | v :: vs, u :: us, fps => ∃ f g, RI w v u f ∧ RF w vs us g ∧ fps = f :: g
  | _, _, _ => False
/-- Arguments, with the memory of each of their cells. -/
def ArgsF (w : World) : List S1 → List Value → List (List Nat) → Prop
  | [], [], fps => fps = []
  | .a v :: as, u :: us, fps => ∃ f g, RI w v u f ∧ ArgsF w as us g ∧ fps = f :: g
  | .agg l :: as, u :: us, fps => ∃ cs f g, u = .agg cs.toArray ∧ RF w l cs f ∧ ArgsF w as us g ∧ fps = f ++ g
  | _, _, _ => False
def SubF : List (List Nat) → List (List Nat) → Prop
  | [], [] => True
  | f :: r, g :: s => (∀ b, b ∈ f → b ∈ g) ∧ SubF r s
  | _, _ => False
/-- Whoever lends f slices that read as `as` gets them back reading as `as'`; the call returns v; nothing else is written. -/
def SoundM (P : Program) (f : FuncId) (as as' : List S1) (v : Value) : Prop :=
  (∀ (args : Array Value) (w : World), (callFunc f args).run P w = .ok (.enter f args) w) ∧
  ∀ w us fps, Amb w → (∀ b, Amb0 b → b ∉ fps.flatten) → ArgsF w as us fps → Own 0 w fps.flatten → Calls P f us.toArray w fun e w' => ∃ fps', e = .returned v ∧ Kept ⟨w, fps.flatten, fun _ => ⟨v, []⟩⟩ w w' ∧ ArgsF w' as' us fps' ∧ Own 0 w' fps'.flatten ∧ SubF fps' fps
/-- Objects are others; nothing has gone into them. -/
def St.upd (st : St) (os : Hp) : St := ⟨st.n, st.sl.map fun e => (e.1, e.2.kills [] (os.map Prod.fst)), os ++ hkills [] (os.map Prod.fst) st.hp⟩
theorem look_keys {os : Hp} {n : Nat} : n ∈ os.map Prod.fst ↔ look os n ≠ none := by
  induction os with
  | nil => simp [look]
  | cons e r ih =>
    obtain ⟨j, x⟩ := e
    by_cases h : n = j
    · subst h; simp [look_eq]
    · rw [look_ne h, ← ih]; simp [h]
section
variable {P : Program} {zb : Base} {st st' : St} {a : Act} {w : World} {env : Env} {Q : Exit → Act → World → Prop} {o : Oper}
theorem good_upd (g : Good ty zb st a.tmps w env) {os : Hp} (hos : ∀ n o, look os n = some o → ∃ t l l', look st.hp n = some (.arr t l) ∧ o = .arr t l') {w' : World} {fpn : Nat → List Nat}
    (hsub : ∀ n o, look os n = some o → ∀ b, b ∈ fpn n → b ∈ (env n).fp) (hk : ∀ b, b < w.heap.size → (∀ n o, look os n = some o → b ∉ (env n).fp) → w'.heap[b]? = w.heap[b]?)
    (hro : ∀ n t l', look os n = some (.arr t l') → RArr ty w' n t l' ⟨(env n).v, fpn n⟩) :
    ∃ env', Good ty zb (st.upd os) a.tmps w' env' ∧ ∀ n, (env' n).v = (env n).v := by
  refine ⟨fun m => match look os m with | some _ => ⟨(env m).v, fpn m⟩ | none => env m, ?_, fun n => by dsimp only; split <;> rfl⟩
  have hlk : ∀ m o, look (os ++ hkills [] (os.map Prod.fst) st.hp) m = some o → (look os m = some o) ∨ (look os m = none ∧ ∃ o', look st.hp m = some o' ∧ o = o'.kills [] (os.map Prod.fst)) := by
    intro m o hm
    cases hq : look os m with
    | some x => rw [look_app_some hq] at hm; exact Or.inl hm
    | none =>
      rw [look_app_none hq, hkills_look, if_neg (by simp)] at hm
      cases hq2 : look st.hp m with
      | none => rw [hq2] at hm; cases hm
      | some o' => rw [hq2] at hm; simp only [Option.map_some, Option.some.injEq] at hm; exact Or.inr ⟨rfl, o', rfl, hm.symm⟩
  have hst : ∀ m o, look os m = none → look st.hp m = some o → ∀ b, b ∈ (env m).fp → w'.heap[b]? = w.heap[b]? := by
    intro m o hm h3 b hb
    refine hk b ((g.obj m o h3).blk b hb) fun n o' hn h => ?_
    obtain ⟨t, l, l', h4, _⟩ := hos n o' hn
    exact g.dis m n _ _ (fun e => by rw [e, hn] at hm; cases hm) h3 h4 b hb h
  have hfp : ∀ m o, look (os ++ hkills [] (os.map Prod.fst) st.hp) m = some o → ∀ b, b ∈ (match look os m with | some _ => (⟨(env m).v, fpn m⟩ : CO) | none => env m).fp → b ∈ (env m).fp ∧ ∃ o', look st.hp m = some o' := by
    intro m o hm b hb
    rcases hlk m o hm with h | ⟨h, o', h2, _⟩
    · rw [h] at hb
      obtain ⟨t, l, l', h4, _⟩ := hos m o h
      exact ⟨hsub m o h b hb, _, h4⟩
    · rw [h] at hb
      exact ⟨hb, o', h2⟩
  have s : Turn [] (os.map Prod.fst) w st.hp env w' (os ++ hkills [] (os.map Prod.fst) st.hp) (fun m => match look os m with | some _ => ⟨(env m).v, fpn m⟩ | none => env m) := by
    refine ⟨fun b hb hno => hk b hb fun n o hn h => ?_, ?_, ?_, ?_⟩
    · obtain ⟨t, l, l', h4, _⟩ := hos n o hn
      exact hno ⟨n, _, h4, h⟩
    · rintro b hb ⟨m, o', h1, h2⟩
      obtain ⟨h3, o2, h4⟩ := hfp m o' h1 b h2
      exact ⟨m, o2, h4, h3⟩
    · intro m o' _ h1
      cases hq : look os m with
      | some x =>
        obtain ⟨t, l, l', h4, rfl⟩ := hos m x hq
        rw [h4] at h1
        simp only [Option.some.injEq] at h1
        subst h1
        exact ⟨_, look_app_some hq, rfl, rfl⟩
      | none =>
        exact ⟨o'.kills [] (os.map Prod.fst), by rw [look_app_none hq, hkills_look, if_neg (by simp), h1]; rfl, by cases o' <;> simp [Obj.like, Obj.kills], rfl⟩
    · rintro m t' l2 ⟨_, hmn⟩ h1
      have hq : look os m = none := by
        cases hq : look os m with
        | none => rfl
        | some x => exact absurd (look_keys.2 (by rw [hq]; simp)) hmn
      exact ⟨by rw [look_app_none hq, hkills_look, if_neg (by simp), h1]; rfl, by simp [hq], hst m _ hq h1⟩
  refine g.turn s (fun m o' hm => ?_) (fun m m' o1 o2 hne h1 h2 b hb hb' => ?_) (fun m o' hm b hb => ?_) (fun m hm => ?_)
  · rcases hlk m o' hm with h | ⟨h, o'', h3, rfl⟩
    · obtain ⟨t, l, l', h4, rfl⟩ := hos m o' h
      simp only [h]
      exact hro m t l' h
    · simp only [h]
      exact (g.obj m o'' h3).turn s (hst m o'' h h3)
  · obtain ⟨h3, q1, h4⟩ := hfp m o1 h1 b hb
    obtain ⟨h5, q2, h6⟩ := hfp m' o2 h2 b hb'
    exact g.dis m m' _ _ hne h4 h6 b h3 h5
  · obtain ⟨h3, q1, h4⟩ := hfp m o' hm b hb
    exact g.dom m q1 h4 b h3
  · refine ⟨?_, fun b hb => ?_⟩
    · have := (g.pins m hm).1
      split <;> exact this
    · cases hq : look os m with
      | none => simp only [hq] at hb; exact (g.pins m hm).2 b hb
      | some x => simp only [hq] at hb; exact (g.pins m hm).2 b (hsub m x hq b hb)
/-- What was built, or lent, is so still behind a call that wrote it. -/
theorem rarr_after {n : Nat} {t : Tag} {l l' : List (T t)} {co : CO} {fp' : List Nat} {w' : World} {hp : Hp} (h : RO ty w hp env n (.arr t l) co) (hs : Shape w w') (h' : Sl (kk t) (rd t) w' co.v l' fp') (ho : Own 0 w' fp') (hsub : ∀ b, b ∈ fp' → b ∈ co.fp) :
    ∃ fp2, RArr ty w' n t l' ⟨co.v, fp2⟩ ∧ ∀ b, b ∈ fp2 → b ∈ co.fp := by
  unfold RArr
  cases hp : soft n with
  | true => exact ⟨fp', ⟨h', ho⟩, hsub⟩
  | false => exact bld_of (fine t) (RO.bld hp h) hs h' ho hsub
end
/-- A cell as it is lent. -/
def lend (st : St) (tg : Option Tag) : V → Option V
  | .own n => match look st.hp n with | some (.arr t l) => some (.sl t l) | _ => none
  | .lit (.slice none 0 0) => match tg with | some t => some (.sl t []) | none => none
  | .lit (.slice _ _ _) => none
  | .lit v => some (.lit v)
  | _ => none
def lends (st : St) : List (Option Tag) → List V → Option (List V)
  | _, [] => some []
  | tg, v :: r => match lend st (match tg with | t :: _ => t | [] => none) v, lends st (match tg with | _ :: ts => ts | [] => []) r with
    | some x, some y => some (x :: y)
    | _, _ => none
def lend1 (st : St) (k : TK) : S1 → Option S1
  | .a v => match lend st (match k with | .sl t _ => some t | _ => none) v with | some x => some (.a x) | none => none
  | .agg l => match lends st (match k with | .st _ tg _ => tg | _ => []) l with | some x => some (.agg x) | none => none
def lendArgs (Γ : Nat → TK) (st : St) : List Operand → List Nat → Option (List S1 × List S1)
  | [], _ => some ([], [])
  | x :: r, t => match opv st [] x with
    | some v => match lend1 st (match t with | t :: _ => Γ t | [] => .other) v, lendArgs Γ st r (match t with | _ :: ts => ts | [] => []) with
      | some y, some (vs, ys) => some (v :: vs, y :: ys)
      | _, _ => none
    | none => none
/-- What has become of lent cells. -/
def back (st : St) : List V → List V → Option Hp
  | [], [] => some []
  | .own n :: r, .sl t' l' :: s => match look st.hp n, back st r s with
    | some (.arr t _), some os => match castL t t' l' with | some l' => some ((n, .arr t l') :: os) | none => none
    | _, _ => none
  | .lit _ :: r, _ :: s => back st r s
  | _, _ => none
def eio (P : Program) (ty : Tag → Nat) (Γ : Nat → TK) (cr : List (Nat × CR)) (st : St) (d : Option Nat) : Op → Option (List Prop × St × SV)
  | .call ⟨.value (.func f), xs, ts⟩ => match lendArgs Γ st xs.toList ts.toList, look cr (d.getD 0 + 100000) with
    | some (vs, as), some ⟨_, .a (.lit v) :: as'⟩ => match back st (vs.flatMap cellsOf) (as'.flatMap cellsOf), v.oneCell' with
      | some os, true => match nodupk os with
        | true => some ([SoundM P f as as' v], st.upd os, .one (.a (.lit v)))
        | false => none
      | _, _ => none
    | _, _ => none
  | _ => none
/-- The same with a slice that lies in an object's element. -/
def litArgs (st : St) : List Operand → Option (List S1)
  | [] => some []
  | x :: r => match opv st [] x, litArgs st r with
    | some (.a (.lit (.slice _ _ _))), _ => none
    | some (.a (.lit v)), some ys => some (.a (.lit v) :: ys)
    | _, _ => none
def eiv (P : Program) (ty : Tag → Nat) (cr : List (Nat × CR)) (st : St) (d : Option Nat) : Op → Option (List Prop × St × SV)
  | .call ⟨.value (.func f), xs, _⟩ => match xs.toList with
    | x :: r => match opv st [] x, litArgs st r, look cr (d.getD 0 + 200000) with
      | some (.a (.vw n (some (i, off)) t l)), some ls, some ⟨_, .a (.lit v) :: .a (.sl t' l') :: ls'⟩ => match look st.hp n, castL t t' l', v.oneCell' with
        | some (.arr g l0), some l', true => match spl (dec g (l0.getD i (dfl g))) off [.sl t l'] with
          | some c => match enc g c with
            | some (vc, x') => some (SoundM P f (.a (.sl t l) :: ls) (.a (.sl t l') :: ls') v :: vc, st.upd [(n, .arr g (l0.set i x'))], .one (.a (.lit v)))
            | none => none
          | none => none
        | _, _, _ => none
      | _, _, _ => none
    | [] => none
  | _ => none
section
variable {P : Program} {zb : Base} {st st' : St} {a : Act} {w : World} {env : Env} {Q : Exit → Act → World → Prop} {o : Oper}
theorem RI.cells {v : V} {u : Value} {f : List Nat} (h : RI w v u f) : u.cells = #[u] := by
  cases v with
  | lit x => obtain ⟨rfl, h1, _⟩ := h; cases u <;> simp_all [Value.cells, Value.oneCell']
  | sl t l => obtain ⟨oa, cap, rfl, _⟩ := h; rfl
  | _ => exact h.elim
theorem RF.app {w : World} : ∀ {x y : List V} {us vs : List Value} {f g : List (List Nat)}, RF w x us f → RF w y vs g → RF w (x ++ y) (us ++ vs) (f ++ g)
  | [], _, [], _, _, _, h, k => by rw [show _ = _ from h]; exact k
  | _ :: _, _, _ :: _, _, _, _, ⟨f1, f2, h1, h2, e⟩, k => ⟨f1, f2 ++ _, h1, RF.app h2 k, by rw [e, List.cons_append]⟩
  | [], _, _ :: _, _, _, _, h, _ => h.elim
  | _ :: _, _, [], _, _, _, h, _ => h.elim
theorem argsF_flat {w : World} : ∀ {as : List S1} {us : List Value} {fps : List (List Nat)}, ArgsF w as us fps → RF w (as.flatMap cellsOf) (us.flatMap fun u => u.cells.toList) fps
  | [], [], _, h => h
  | .a v :: as, u :: us, _, ⟨f, g, h1, h2, e⟩ => by
    have := RF.app (x := [v]) (us := [u]) (f := [f]) ⟨f, [], h1, rfl, rfl⟩ (argsF_flat h2)
    rw [List.flatMap_cons, List.flatMap_cons, RI.cells h1, e]
    exact this
  | .agg l :: as, u :: us, _, ⟨cs, f, g, hu, h1, h2, e⟩ => by
    rw [List.flatMap_cons, List.flatMap_cons, hu, e]
    exact RF.app h1 (argsF_flat h2)
  | [], _ :: _, _, h => h.elim
  | .a _ :: _, [], _, h => h.elim
  | .agg _ :: _, [], _, h => h.elim
def fpOf (env : Env) : V → List Nat
  | .own n => (env n).fp
  | _ => []
theorem lend_ok (g : Good ty zb st a.tmps w env) {tg : Option Tag} {v x : V} {u : Value} (hr : RA w st.hp env v u) (h : lend st tg v = some x) : RI w x u (fpOf env v) := by
  cases v with
  | own n =>
    simp only [lend] at h
    split at h
    · rename_i t l hl
      simp only [Option.some.injEq] at h
      subst h
      obtain ⟨_, rfl⟩ := hr
      exact RO.sl (g.obj n _ hl)
    · cases h
  | lit v =>
    obtain ⟨rfl, h1⟩ := hr
    simp only [lend] at h
    split at h
    · rename_i heq; cases heq
    · rename_i heq
      simp only [V.lit.injEq] at heq
      subst heq
      split at h
      · simp only [Option.some.injEq] at h
        subst h
        exact ⟨none, 0, rfl, Nat.le_refl _, Nat.zero_le _, Or.inl ⟨rfl, rfl, fun _ => rfl⟩⟩
      · cases h
    · cases h
    · rename_i heq
      simp only [V.lit.injEq] at heq
      subst heq
      simp only [Option.some.injEq] at h
      subst h
      exact ⟨rfl, h1, rfl⟩
    · cases h
  | _ => simp [lend] at h
theorem lends_ok (g : Good ty zb st a.tmps w env) : ∀ {vs : List V} {tg : List (Option Tag)} {xs : List V} {us : List Value}, All2 (RA w st.hp env) vs us → lends st tg vs = some xs → RF w xs us (vs.map (fpOf env))
  | [], tg, xs, us, hr, h => by
    simp only [lends, Option.some.injEq] at h
    subst h
    cases us with
    | nil => rfl
    | cons _ _ => exact hr.elim
  | v :: r, tg, xs, us, hr, h => by
    cases us with
    | nil => exact hr.elim
    | cons u us =>
      simp only [lends] at h
      split at h
      · rename_i x y h1 h2
        simp only [Option.some.injEq] at h
        subst h
        exact ⟨_, _, lend_ok g hr.1 h1, lends_ok g hr.2 h2, rfl⟩
      · cases h
theorem lendArgs_ok {Γ : Nat → TK} (g : Good ty zb st a.tmps w env) : ∀ {xs : List Operand} {ts : List Nat} {vs as : List S1}, lendArgs Γ st xs ts = some (vs, as) →
    ArgsF w as (xs.map a.eval) ((vs.flatMap cellsOf).map (fpOf env)) ∧ All2 (RA w st.hp env) (vs.flatMap cellsOf) ((xs.map a.eval).flatMap fun u => u.cells.toList)
  | [], ts, vs, as, h => by
    simp only [lendArgs, Option.some.injEq, Prod.mk.injEq] at h
    obtain ⟨rfl, rfl⟩ := h
    exact ⟨rfl, trivial⟩
  | x :: r, ts, vs, as, h => by
    simp only [lendArgs] at h
    split at h
    · rename_i v hx
      split at h
      · rename_i y vs' ys h1 h2
        simp only [Option.some.injEq, Prod.mk.injEq] at h
        obtain ⟨rfl, rfl⟩ := h
        have hrs := opv_ok g (fun e he => by simp at he) hx
        obtain ⟨k1, k2⟩ := lendArgs_ok g h2
        cases v with
        | a v =>
          simp only [lend1] at h1
          split at h1
          · rename_i x' hl
            simp only [Option.some.injEq] at h1
            subst h1
            have hri := lend_ok g hrs hl
            refine ⟨⟨_, _, hri, k1, rfl⟩, ?_⟩
            rw [List.map_cons, List.flatMap_cons, List.flatMap_cons, RI.cells hri]
            exact ⟨hrs, k2⟩
          · cases h1
        | agg l =>
          simp only [lend1] at h1
          split at h1
          · rename_i x' hl
            simp only [Option.some.injEq] at h1
            subst h1
            obtain ⟨cs, hu, hl2⟩ := hrs
            refine ⟨⟨cs, _, _, hu, lends_ok g hl2 hl, k1, by rw [List.flatMap_cons, List.map_append]; rfl⟩, ?_⟩
            rw [List.map_cons, List.flatMap_cons, List.flatMap_cons, hu]
            exact All2.app hl2 k2
          · cases h1
      · cases h
    · cases h
theorem back_ok (g : Good ty zb st a.tmps w env) {w' : World} : ∀ {vs as : List V} {us : List Value} {fps : List (List Nat)} {os : Hp}, back st vs as = some os → All2 (RA w st.hp env) vs us → RF w' as us fps → SubF fps (vs.map (fpOf env)) → Own 0 w' fps.flatten → nodupk os = true →
    (∀ b, b ∈ (vs.map (fpOf env)).flatten → ∃ n o, look os n = some o ∧ b ∈ (env n).fp) ∧
    (∀ n o, look os n = some o → (∃ t l l' fp', look st.hp n = some (.arr t l) ∧ o = .arr t l' ∧ Sl (kk t) (rd t) w' (env n).v l' fp' ∧ Own 0 w' fp' ∧ ∀ b, b ∈ fp' → b ∈ (env n).fp) ∧ ∀ b, b ∈ (env n).fp → b ∈ (vs.map (fpOf env)).flatten) ∧
    ((vs.map (fpOf env)).flatten.Nodup)
  | [], [], us, fps, os, h, _, _, _, _, _ => by
    simp only [back, Option.some.injEq] at h
    subst h
    exact ⟨by simp, by simp [look], by simp⟩
  | .own n :: r, .sl t' l' :: s, us, fps, os, h, hr, hf, hsub, hown, hnd => by
    cases us with
    | nil => exact hr.elim
    | cons u us =>
      obtain ⟨f, fr, h1, h2, rfl⟩ := hf
      simp only [back] at h
      split at h
      · rename_i t l os' hl hb
        split at h
        · rename_i l2 hc
          simp only [Option.some.injEq] at h
          subst h
          obtain ⟨e, rfl⟩ := castL_ok hc
          subst e
          simp only [nodupk, Bool.and_eq_true] at hnd
          rw [List.flatten_cons] at hown
          obtain ⟨hn1, hn2, hn3⟩ := List.nodup_append.1 hown.nodup
          have o1 : Own 0 w' f := ⟨hn1, fun _ _ => Nat.zero_le _, fun b hb => hown.kind b (List.mem_append_left _ hb)⟩
          have o2 : Own 0 w' fr.flatten := ⟨hn2, fun _ _ => Nat.zero_le _, fun b hb => hown.kind b (List.mem_append_right _ hb)⟩
          obtain ⟨q1, q2, q3⟩ := back_ok g hb hr.2 h2 hsub.2 o2 hnd.2
          have hu : u = (env n).v := hr.1.2
          have hno : look os' n = none := by
            cases hq : look os' n with
            | none => rfl
            | some x => simp [hq] at hnd
          refine ⟨fun b hb => ?_, fun m o hm => ?_, ?_⟩
          · rw [List.map_cons, List.flatten_cons] at hb
            rcases List.mem_append.1 hb with hb | hb
            · exact ⟨n, _, look_eq, hb⟩
            · obtain ⟨m, o, h3, h4⟩ := q1 b hb
              have hmn : m ≠ n := by rintro rfl; rw [hno] at h3; cases h3
              exact ⟨m, o, by rw [look_ne hmn]; exact h3, h4⟩
          · by_cases hmn : m = n
            · subst hmn
              rw [look_eq] at hm
              simp only [Option.some.injEq] at hm
              exact ⟨⟨t', l, l', f, hl, hm.symm, by rw [← hu]; exact h1, o1, hsub.1⟩, fun b hb => by rw [List.map_cons, List.flatten_cons]; exact List.mem_append_left _ hb⟩
            · rw [look_ne hmn] at hm
              obtain ⟨h3, h4⟩ := q2 m o hm
              exact ⟨h3, fun b hb => by rw [List.map_cons, List.flatten_cons]; exact List.mem_append_right _ (h4 b hb)⟩
          · rw [List.map_cons, List.flatten_cons]
            refine List.nodup_append.2 ⟨(RO.own (g.obj n _ hl)).nodup, q3, ?_⟩
            rintro b hb c hc rfl
            obtain ⟨m, o, h3, h4⟩ := q1 b hc
            have hmn : n ≠ m := by rintro rfl; rw [hno] at h3; cases h3
            obtain ⟨⟨t2, l2, _, _, h5, _⟩, _⟩ := q2 m o h3
            exact g.dis n m _ _ hmn hl h5 b hb h4
        · cases h
      · cases h
  | .lit x :: r, y :: s, us, fps, os, h, hr, hf, hsub, hown, hnd => by
    cases us with
    | nil => exact hr.elim
    | cons u us =>
      obtain ⟨f, fr, h1, h2, rfl⟩ := hf
      simp only [back] at h
      rw [List.flatten_cons] at hown
      obtain ⟨_, hn2, _⟩ := List.nodup_append.1 hown.nodup
      obtain ⟨q1, q2, q3⟩ := back_ok g h hr.2 h2 hsub.2 ⟨hn2, fun _ _ => Nat.zero_le _, fun b hb => hown.kind b (List.mem_append_right _ hb)⟩ hnd
      exact ⟨q1, q2, q3⟩
  | .own _ :: _, .lit _ :: _, _, _, _, h, _, _, _, _, _ => by simp [back] at h
  | .own _ :: _, .any :: _, _, _, _, h, _, _, _, _, _ => by simp [back] at h
  | .own _ :: _, .own _ :: _, _, _, _, h, _, _, _, _, _ => by simp [back] at h
  | .own _ :: _, .ptr _ _ :: _, _, _, _, h, _, _, _, _, _ => by simp [back] at h
  | .own _ :: _, .eptr _ _ _ :: _, _, _, _, h, _, _, _, _, _ => by simp [back] at h
  | .own _ :: _, .ip _ _ _ :: _, _, _, _, h, _, _, _, _, _ => by simp [back] at h
  | .own _ :: _, .vw _ _ _ _ :: _, _, _, _, h, _, _, _, _, _ => by simp [back] at h
  | .own _ :: _, .vip _ _ _ _ _ :: _, _, _, _, h, _, _, _, _, _ => by simp [back] at h
  | .own _ :: _, .bsl _ _ _ :: _, _, _, _, h, _, _, _, _, _ => by simp [back] at h
  | .own _ :: _, .fnp _ _ :: _, _, _, _, h, _, _, _, _, _ => by simp [back] at h
  | .own _ :: _, .husk _ :: _, _, _, _, h, _, _, _, _, _ => by simp [back] at h
  | .own _ :: _, [], _, _, _, h, _, _, _, _, _ => by simp [back] at h
  | .lit _ :: _, [], _, _, _, h, _, _, _, _, _ => by simp [back] at h
  | [], _ :: _, _, _, _, h, _, _, _, _, _ => by simp [back] at h
  | .any :: _, _, _, _, _, h, _, _, _, _, _ => by simp [back] at h
  | .sl _ _ :: _, _, _, _, _, h, _, _, _, _, _ => by simp [back] at h
  | .ptr _ _ :: _, _, _, _, _, h, _, _, _, _, _ => by simp [back] at h
  | .eptr _ _ _ :: _, _, _, _, _, h, _, _, _, _, _ => by simp [back] at h
  | .ip _ _ _ :: _, _, _, _, _, h, _, _, _, _, _ => by simp [back] at h
  | .vw _ _ _ _ :: _, _, _, _, _, h, _, _, _, _, _ => by simp [back] at h
  | .vip _ _ _ _ _ :: _, _, _, _, _, h, _, _, _, _, _ => by simp [back] at h
  | .bsl _ _ _ :: _, _, _, _, _, h, _, _, _, _, _ => by simp [back] at h
  | .fnp _ _ :: _, _, _, _, _, h, _, _, _, _, _ => by simp [back] at h
  | .husk _ :: _, _, _, _, _, h, _, _, _, _, _ => by simp [back] at h
theorem back_own (g : Good ty zb st a.tmps w env) : ∀ {vs as : List V} {os : Hp}, back st vs as = some os → nodupk os = true →
    Own 0 w (vs.map (fpOf env)).flatten ∧ (∀ b, b ∈ (vs.map (fpOf env)).flatten → ∃ n o o', look os n = some o ∧ look st.hp n = some o' ∧ b ∈ (env n).fp)
  | [], [], os, h, _ => ⟨Own.nil _ _, by simp⟩
  | .own n :: r, .sl t' l' :: s, os, h, hnd => by
    simp only [back] at h
    split at h
    · rename_i t l os' hl hb
      split at h
      · rename_i l2 hc
        simp only [Option.some.injEq] at h
        subst h
        simp only [nodupk, Bool.and_eq_true] at hnd
        obtain ⟨q1, q2⟩ := back_own g hb hnd.2
        have hno : look os' n = none := by
          cases hq : look os' n with
          | none => rfl
          | some x => simp [hq] at hnd
        have ho := RO.own (g.obj n _ hl)
        rw [List.map_cons, List.flatten_cons]
        refine ⟨⟨List.nodup_append.2 ⟨ho.nodup, q1.nodup, ?_⟩, fun _ _ => Nat.zero_le _, fun b hb => ?_⟩, fun b hb => ?_⟩
        · rintro b hb c hc' rfl
          obtain ⟨m, o, o', h3, h5, h4⟩ := q2 b hc'
          have hmn : n ≠ m := by rintro rfl; rw [hno] at h3; cases h3
          exact g.dis n m _ _ hmn hl h5 b hb h4
        · rcases List.mem_append.1 hb with hb | hb
          · exact ho.kind b hb
          · exact q1.kind b hb
        · rcases List.mem_append.1 hb with hb | hb
          · exact ⟨n, _, _, look_eq, hl, hb⟩
          · obtain ⟨m, o, o', h3, h5, h4⟩ := q2 b hb
            have hmn : m ≠ n := by rintro rfl; rw [hno] at h3; cases h3
            exact ⟨m, o, o', by rw [look_ne hmn]; exact h3, h5, h4⟩
      · cases h
    · cases h
  | .lit x :: r, y :: s, os, h, hnd => by
    simp only [back] at h
    have q := back_own g h hnd
    exact q
  | .own _ :: _, .lit _ :: _, _, h, _ => by simp [back] at h
  | .own _ :: _, .any :: _, _, h, _ => by simp [back] at h
  | .own _ :: _, .own _ :: _, _, h, _ => by simp [back] at h
  | .own _ :: _, .ptr _ _ :: _, _, h, _ => by simp [back] at h
  | .own _ :: _, .eptr _ _ _ :: _, _, h, _ => by simp [back] at h
  | .own _ :: _, .ip _ _ _ :: _, _, h, _ => by simp [back] at h
  | .own _ :: _, .vw _ _ _ _ :: _, _, h, _ => by simp [back] at h
  | .own _ :: _, .vip _ _ _ _ _ :: _, _, h, _ => by simp [back] at h
  | .own _ :: _, .bsl _ _ _ :: _, _, h, _ => by simp [back] at h
  | .own _ :: _, .fnp _ _ :: _, _, h, _ => by simp [back] at h
  | .own _ :: _, .husk _ :: _, _, h, _ => by simp [back] at h
  | .own _ :: _, [], _, h, _ => by simp [back] at h
  | .lit _ :: _, [], _, h, _ => by simp [back] at h
  | [], _ :: _, _, h, _ => by simp [back] at h
  | .any :: _, _, _, h, _ => by simp [back] at h
  | .sl _ _ :: _, _, _, h, _ => by simp [back] at h
  | .ptr _ _ :: _, _, _, h, _ => by simp [back] at h
  | .eptr _ _ _ :: _, _, _, h, _ => by simp [back] at h
  | .ip _ _ _ :: _, _, _, h, _ => by simp [back] at h
  | .vw _ _ _ _ :: _, _, _, h, _ => by simp [back] at h
  | .vip _ _ _ _ _ :: _, _, _, h, _ => by simp [back] at h
  | .bsl _ _ _ :: _, _, _, h, _ => by simp [back] at h
  | .fnp _ _ :: _, _, _, h, _ => by simp [back] at h
  | .husk _ :: _, _, _, h, _ => by simp [back] at h
theorem Kept.lent {L : List Nat} {pv : Nat → CO} {w' : World} (h : Kept ⟨w, L, pv⟩ w w') (hB : zb.w.heap.size ≤ w.heap.size) (hL : ∀ b, b ∈ L → b ∈ zb.L ∨ zb.w.heap.size ≤ b) : Kept zb w w' :=
  ⟨h.os, h.tape, h.output, h.size, fun b hb hn => h.block b (Nat.lt_of_lt_of_le hb hB) fun hm => (hL b hm).elim hn fun h => by omega, h.shape⟩
theorem run_callf {f : FuncId} {xs : Array Operand} {ts : Array TypeId} (ho : o.op = .call ⟨.value (.func f), xs, ts⟩) (hS : ∀ (args : Array Value) (w : World), (callFunc f args).run P w = .ok (.enter f args) w) :
    (execOp a.eval o).run P w = .ok (.enter f (xs.toList.map a.eval).toArray) w := by
  have hx : xs.map a.eval = (xs.toList.map a.eval).toArray := by rw [← List.map_toArray]
  rw [← hx]
  have h0 : a.eval (.func f) = .func (.func f) #[] #[] := rfl
  unfold execOp
  simp [ho, resolve, invoke, Deferred.ofValue, h0, hS]
theorem eio_ok {Γ : Nat → TK} {cr : List (Nat × CR)} {vc : List Prop} {v : SV} {d : Option Nat} (h : eio P ty Γ cr st d o.op = some (vc, st', v)) (g : Good ty zb st a.tmps w env) (hB : zb.w.heap.size ≤ w.heap.size) (hA : AmbZ zb) (hN : Amb w) (hv : ∀ q, q ∈ vc → q) :
    o.wp P a w (fun a' w' => ∃ u env', a' = a.put o.dst u ∧ Kept zb w w' ∧ Good ty zb st' a.tmps w' env' ∧ st'.n = st.n ∧ RSV w' st'.hp env' a.tmps v u) Q := by
  generalize hoo : o.op = op at h
  unfold eio at h
  split at h
  · rename_i f xs ts
    split at h
    · rename_i vs as own v0 as' hl hcr
      split at h
      · rename_i os hb h1
        split at h
        · rename_i hnd
          simp only [Option.some.injEq, Prod.mk.injEq] at h
          obtain ⟨rfl, rfl, rfl⟩ := h
          obtain ⟨hS1, hS2⟩ : SoundM P f as as' v0 := hv _ (by simp)
          obtain ⟨q1, q2⟩ := lendArgs_ok g hl
          obtain ⟨q3, q4⟩ := back_own g hb hnd
          unfold Oper.wp
          rw [run_callf hoo hS1]
          simp only [Oper.upon]
          refine (hS2 w _ _ hN (fun b h0 hb => by obtain ⟨n, o, o', _, hl', hbe⟩ := q4 b hb; exact hA.free (g.dom n o' hl' b hbe) h0) q1 q3).mono ?_
          rintro e w' ⟨fps', rfl, hk, ha, hown, hsub⟩
          obtain ⟨r1, r2, _⟩ := back_ok g hb q2 (argsF_flat ha) hsub hown hnd
          have hfp : ∀ n, ∃ fp2, ∀ t l', look os n = some (.arr t l') → RArr ty w' n t l' ⟨(env n).v, fp2⟩ ∧ ∀ b, b ∈ fp2 → b ∈ (env n).fp := by
            intro n
            cases hq : look os n with
            | none => exact ⟨[], fun _ _ h => by cases h⟩
            | some o' =>
              obtain ⟨⟨t, l, l', fp', h3, rfl, h5, h6, h7⟩, _⟩ := r2 n o' hq
              obtain ⟨fp2, k1, k2⟩ := rarr_after (hp := st.hp) (g.obj n _ h3) hk.shape h5 h6 h7
              refine ⟨fp2, fun t2 l2 h => ?_⟩
              simp only [Option.some.injEq, Obj.arr.injEq] at h
              obtain ⟨rfl, h⟩ := h
              cases h
              exact ⟨k1, k2⟩
          obtain ⟨env', hg', hv'⟩ := good_upd g (os := os) (w' := w') (fpn := fun n => Classical.choose (hfp n))
            (fun n o' hn => by
              obtain ⟨⟨t, l, l', fp', h3, h4, _⟩, _⟩ := r2 n o' hn
              exact ⟨t, l, l', h3, h4⟩)
            (fun n o' hn b hb' => by
              obtain ⟨⟨t, l, l', fp', h3, rfl, _⟩, _⟩ := r2 n o' hn
              exact (Classical.choose_spec (hfp n) t l' hn).2 b hb')
            (fun b hlt hno => hk.block b hlt fun hm => by
              obtain ⟨n, o', h3, h4⟩ := r1 b hm
              exact hno n o' h3 h4)
            (fun n t l' hn => (Classical.choose_spec (hfp n) t l' hn).1)
          refine ⟨v0, env', rfl, hk.lent hB fun b hm => ?_, hg', rfl, rfl, h1⟩
          obtain ⟨n, o1, o2, h3, h4, h5⟩ := q4 b hm
          exact g.dom n o2 h4 b h5
        · cases h
      · cases h
    · cases h
  · cases h
theorem litArgs_ok (g : Good ty zb st a.tmps w env) : ∀ {xs : List Operand} {as : List S1}, litArgs st xs = some as → ArgsF w as (xs.map a.eval) (as.map fun _ => [])
  | [], as, h => by
    simp only [litArgs, Option.some.injEq] at h
    subst h; rfl
  | x :: r, as, h => by
    simp only [litArgs] at h
    split at h
    · cases h
    · rename_i v ys hne hx h2
      simp only [Option.some.injEq] at h
      subst h
      obtain ⟨h3, h4⟩ := opv_ok g (fun e he => by simp at he) hx
      exact ⟨[], _, ⟨h3, h4, rfl⟩, litArgs_ok g h2, rfl⟩
    · cases h
/-- A slice that lies in an object's element is written: what it takes, what is then known. -/
theorem inner_core {n i off : Nat} {t : Tag} {l l2 : List (T t)} {u0 : Value} {gt : Tag} {l0 : List (T gt)} {c : List V} {x' : T gt} {vc1 : List Prop} {pv : Nat → CO} (g : Good ty zb st a.tmps w env) (hB : zb.w.heap.size ≤ w.heap.size)
    (hRV : RV w st.hp env n (some (i, off)) t l u0) (hl : look st.hp n = some (.arr gt l0)) (hs : spl (dec gt (l0.getD i (dfl gt))) off [.sl t l2] = some c) (he : enc gt c = some (vc1, x')) (hv : ∀ q, q ∈ vc1 → q) :
    ∃ fv, RI w (.sl t l) u0 fv ∧ (∀ y, y ∈ fv → y ∈ zb.L ∨ zb.w.heap.size ≤ y) ∧ Own 0 w fv ∧ ∀ w' fv', Kept ⟨w, fv, pv⟩ w w' → RI w' (.sl t l2) u0 fv' → Own 0 w' fv' → (∀ y, y ∈ fv' → y ∈ fv) → ∃ env', Kept zb w w' ∧ Good ty zb (st.upd [(n, .arr gt (l0.set i x'))]) a.tmps w' env' := by
  obtain ⟨_, _, hprov⟩ := hRV
  obtain ⟨t1, l1, b2, o2, len1, cap1, hl1, hi, helt, hev, hbm, hcell⟩ := hprov i off rfl
  rw [hl] at hl1
  simp only [Option.some.injEq, Obj.arr.injEq] at hl1
  obtain ⟨rfl, hl1⟩ := hl1
  cases hl1
  have hro := g.obj n _ hl
  obtain ⟨oa, cap, hsv, hc1, hc2, h3⟩ := RO.sl hro
  have hown := RO.own hro
  rcases h3 with ⟨rfl, _⟩ | ⟨b, o1, fps, hoa, hb2, hfp, hE⟩
  · simp at hi
  rw [hsv, hoa] at hev
  simp only [Value.slice.injEq, Option.some.injEq, Addr.mk.injEq, and_true] at hev
  obtain ⟨⟨rfl, rfl⟩, rfl, rfl⟩ := hev
  have hxi : l0[i]? = some (l0.getD i (dfl gt)) := by rw [List.getD_eq_getElem?_getD, List.getElem?_eq_getElem hi]; rfl
  obtain ⟨fe, hf⟩ := fps_some hE.1 hxi
  obtain ⟨cs, hra, hEi⟩ := hE.2 _ _ fe hxi hf
  rw [hfp] at hown
  have hnd2 := List.nodup_cons.1 hown.nodup
  have hR := reads gt hEi
  -- the view's own cell
  obtain ⟨f1, f', hfe, k1, k2⟩ := RIs.split off hR
  have hdl : ∃ r', (dec gt (l0.getD i (dfl gt))).drop off = .sl t l :: r' := by
    rw [elt_get] at helt
    have hlt := (List.getElem?_eq_some_iff.1 helt).1
    rw [List.drop_eq_getElem_cons hlt]
    have := (List.getElem?_eq_some_iff.1 helt).2
    rw [this]
    exact ⟨_, rfl⟩
  obtain ⟨r', hdl⟩ := hdl
  rw [hdl] at k2
  have hcsd : ∃ u us, cs.drop off = u :: us := by
    cases hq : cs.drop off with
    | nil => rw [hq] at k2; exact k2.elim
    | cons u us => exact ⟨u, us, rfl⟩
  obtain ⟨u, us, hcsd⟩ := hcsd
  rw [hcsd] at k2
  obtain ⟨fv, f3, hri, hrest, hf'⟩ := k2
  have huc : cs[off]? = some u := by
    have := congrArg (fun l => l[0]?) hcsd
    simpa using this
  have hue : u0 = u := by
    have := hra off u huc
    rw [hcell] at this
    simpa using this
  rw [hue] at hcell ⊢
  have hsubv : ∀ y, y ∈ fv → y ∈ fe := fun y hy => by rw [hfe, hf']; simp [hy]
  have hfen := (List.pairwise_flatten.1 hnd2.2).1 fe (List.mem_of_getElem? hf)
  rw [hfe, hf'] at hfen
  obtain ⟨n1, n2, n3⟩ := List.nodup_append.1 hfen
  obtain ⟨n4, n5, n6⟩ := List.nodup_append.1 n2
  have hownv : Own 0 w fv := ⟨n4, fun _ _ => Nat.zero_le _, fun y hy => hown.kind y (List.mem_cons_of_mem _ (mem_fps hf (hsubv y hy)))⟩
  refine ⟨fv, hri, fun y hy => g.dom n _ hl y (by rw [hfp]; exact List.mem_cons_of_mem _ (mem_fps hf (hsubv y hy))), hownv, ?_⟩
  intro w' fv' hk hri' hownv' hsubv'
  have m1 := hownv'.nodup
  have hkeep : ∀ y, y < w.heap.size → y ∉ fv → w'.heap[y]? = w.heap[y]? := fun y hy hn => hk.block y hy hn
  have hbf : ∀ y, y ∈ fps.flatten → y ≠ b := fun y hy e => hnd2.1 (e ▸ hy)
  have hflt : ∀ y, y ∈ fps.flatten → y < w.heap.size := fun y hy => hown.lt y (List.mem_cons_of_mem _ hy)
  have hkb : w'.heap[b]? = w.heap[b]? := hkeep b hb2 fun hm => hnd2.1 (mem_fps hf (hsubv b hm))
  have hrg : ∀ {o : Nat} {cs : List Value}, w.rangeAt b o cs → w'.rangeAt b o cs := by
    intro o cs hr j v hv
    rw [World.cell?_of_block (w := w) (a := ⟨b, _, none⟩) hkb]; exact hr j v hv
  -- the element, read again
  have ag1 : Agree w w' f1 := fun y hy => hkeep y (hflt y (mem_fps hf (by rw [hfe]; simp [hy]))) fun hm => n3 y hy y (by simp [hm]) rfl
  have ag3 : Agree w w' f3 := fun y hy => hkeep y (hflt y (mem_fps hf (by rw [hfe, hf']; simp [hy]))) fun hm => n6 y hm y hy rfl
  have ris_ag : ∀ {c : List V} {us : List Value} {f : List Nat}, RIs w c us f → Agree w w' f → RIs w' c us f := by
    intro c
    induction c with
    | nil => intro us f h _; cases us with
      | nil => exact h
      | cons _ _ => exact h.elim
    | cons v r ih =>
      intro us f h ha
      cases us with
      | nil => exact h.elim
      | cons u us =>
        obtain ⟨f1, f2, h1, h2, rfl⟩ := h
        refine ⟨f1, f2, ?_, ih h2 (ha.sub fun y hy => List.mem_append_right _ hy), rfl⟩
        cases v with
        | lit x => exact h1
        | sl t l => exact Sl.agree (fine t) h1 (ha.sub fun y hy => List.mem_append_left _ hy)
        | _ => exact h1.elim
  have hc' : c = (dec gt (l0.getD i (dfl gt))).take off ++ ([.sl t l2] ++ r') := by
    unfold spl at hs
    split at hs
    · simp only [Option.some.injEq] at hs
      rw [← hs]
      congr 2
      have : (dec gt (l0.getD i (dfl gt))).drop (off + [V.sl t l2].length) = ((dec gt (l0.getD i (dfl gt))).drop off).drop 1 := by rw [List.drop_drop]; rfl
      rw [this, hdl]; rfl
    · cases hs
  have hcs' : cs = cs.take off ++ ([u] ++ us) := by
    have := (List.take_append_drop off cs).symm
    rw [hcsd] at this
    exact this
  have hrd : RIs w' c cs (f1 ++ (fv' ++ f3)) := by
    rw [hc', hcs']
    refine RIs.app3 (ris_ag k1 ag1) (y := [.sl t l2]) (vs := [u]) ?_ (ris_ag hrest ag3)
    exact ⟨fv', [], hri', rfl, by simp⟩
  have hEn := enc_ok gt he (fun q hq => hv q hq) hrd
  have hsubf : ∀ y, y ∈ f1 ++ (fv' ++ f3) → y ∈ fe := by
    intro y hy
    rw [hfe, hf']
    simp only [List.mem_append] at hy ⊢
    rcases hy with hy | hy | hy
    · exact Or.inl hy
    · exact Or.inr (Or.inl (hsubv' y hy))
    · exact Or.inr (Or.inr hy)
  have hEl' := elems_put (fine gt) (w' := w') hE (i := i) (x' := x') (f' := f1 ++ (fv' ++ f3)) (hrg hra) hEn (fun j cs' _ _ hr => hrg hr)
    (fun j f' hj hf' y hy => hkeep y (hflt y (mem_fps hf' hy)) fun hm => fps_apart hnd2.2 hf' hf hj y hy (hsubv y hm))
  have hmem : ∀ y, y ∈ (fps.set i (f1 ++ (fv' ++ f3))).flatten → y ∈ fps.flatten := by
    intro y hy
    rcases fps_set_mem hy with h | ⟨j, f', _, hj, h⟩
    · exact mem_fps hf (hsubf y h)
    · exact mem_fps hj h
  have hO' : Own 0 w' (b :: (fps.set i (f1 ++ (fv' ++ f3))).flatten) := by
    refine ⟨List.nodup_cons.2 ⟨fun hm => hnd2.1 (hmem b hm), fps_set_nodup hnd2.2 ?_ fun j f' hj hf' y hy hy' => fps_apart hnd2.2 hf' hf hj y hy (hsubf y hy')⟩, fun _ _ => Nat.zero_le _, fun y hy => ?_⟩
    · refine List.nodup_append.2 ⟨n1, List.nodup_append.2 ⟨m1, n5, fun y hy z hz e => n6 y (hsubv' y hy) z hz e⟩, fun y hy z hz e => ?_⟩
      rcases List.mem_append.1 hz with hz | hz
      · exact n3 y hy z (by simp [hsubv' z hz]) e
      · exact n3 y hy z (by simp [hz]) e
    · obtain ⟨cb, eb, hblk⟩ := hown.kind y (by
        rcases List.mem_cons.1 hy with rfl | hy
        · simp
        · exact List.mem_cons_of_mem _ (hmem y hy))
      obtain ⟨cb', h5, _⟩ := hk.shape y cb eb hblk
      exact ⟨_, _, h5⟩
  have hSl' : Sl (kk gt) (rd gt) w' (env n).v (l0.set i x') (b :: (fps.set i (f1 ++ (fv' ++ f3))).flatten) := by
    refine ⟨some ⟨b, o1, none⟩, cap, by rw [hsv, hoa, List.length_set], by rw [List.length_set]; exact hc1, hc2, Or.inr ⟨b, o1, _, rfl, Nat.lt_of_lt_of_le hb2 hk.size, rfl, hEl'⟩⟩
  obtain ⟨fp2, w1, w2⟩ := rarr_after (hp := st.hp) hro hk.shape hSl' hO' (fun y hy => by
    rw [hfp]
    rcases List.mem_cons.1 hy with rfl | hy
    · simp
    · exact List.mem_cons_of_mem _ (hmem y hy))
  have hlk : ∀ m o', look [(n, Obj.arr gt (l0.set i x'))] m = some o' → m = n ∧ o' = .arr gt (l0.set i x') := by
    intro m o' hm
    by_cases hmn : m = n
    · subst hmn; rw [look_eq] at hm; simp only [Option.some.injEq] at hm; exact ⟨rfl, hm.symm⟩
    · rw [look_ne hmn] at hm; cases hm
  obtain ⟨env', hg', hv'⟩ := good_upd g (os := [(n, .arr gt (l0.set i x'))]) (w' := w') (fpn := fun _ => fp2)
    (fun m o' hm => by obtain ⟨rfl, rfl⟩ := hlk m o' hm; exact ⟨_, _, _, hl, rfl⟩)
    (fun m o' hm y hy => by obtain ⟨rfl, _⟩ := hlk m o' hm; exact w2 y hy)
    (fun y hlt hno => hkeep y hlt fun hm => hno n _ look_eq (by rw [hfp]; exact List.mem_cons_of_mem _ (mem_fps hf (hsubv y hm))))
    (fun m t2 l3 hm => by
      obtain ⟨rfl, h5⟩ := hlk m _ hm
      simp only [Obj.arr.injEq] at h5
      obtain ⟨rfl, h5⟩ := h5
      cases h5
      exact w1)
  refine ⟨env', hk.lent hB fun y hm => ?_, hg'⟩
  exact g.dom n _ hl y (by rw [hfp]; exact List.mem_cons_of_mem _ (mem_fps hf (hsubv y hm)))
theorem eiv_ok {Γ : Nat → TK} {cr : List (Nat × CR)} {vc : List Prop} {v : SV} {d : Option Nat} (h : eiv P ty cr st d o.op = some (vc, st', v)) (g : Good ty zb st a.tmps w env) (hB : zb.w.heap.size ≤ w.heap.size) (hA : AmbZ zb) (hN : Amb w) (hv : ∀ q, q ∈ vc → q) :
    o.wp P a w (fun a' w' => ∃ u env', a' = a.put o.dst u ∧ Kept zb w w' ∧ Good ty zb st' a.tmps w' env' ∧ st'.n = st.n ∧ RSV w' st'.hp env' a.tmps v u) Q := by
  generalize hoo : o.op = op at h
  unfold eiv at h
  split at h
  · rename_i f xs ts
    split at h
    · rename_i x r hxs
      split at h
      · rename_i n i off t l ls own v0 t' l' ls' hx hls hcr
        split at h
        · rename_i gt l0 l2 hl hc hv0
          split at h
          · rename_i c hs
            split at h
            · rename_i vc1 x' he
              simp only [Option.some.injEq, Prod.mk.injEq] at h
              obtain ⟨rfl, rfl, rfl⟩ := h
              obtain ⟨hS1, hS2⟩ : SoundM P f (.a (.sl t l) :: ls) (.a (.sl t l2) :: ls') v0 := hv _ (by simp)
              obtain ⟨fv, hri, hdomv, hownv, hcore⟩ := inner_core (pv := fun _ => ⟨v0, []⟩) g hB (opv_ok g (fun e he => by simp at he) hx) hl hs he (fun q hq => hv q (by simp [hq]))
              have hflat : ((fv :: ls.map fun _ => ([] : List Nat))).flatten = fv := by
                rw [List.flatten_cons]
                have : (ls.map fun _ => ([] : List Nat)).flatten = [] := by simp
                rw [this, List.append_nil]
              unfold Oper.wp
              rw [run_callf hoo hS1]
              simp only [Oper.upon]
              rw [hxs, List.map_cons]
              have hargs : ArgsF w (.a (.sl t l) :: ls) (a.eval x :: r.map a.eval) (fv :: ls.map fun _ => []) := ⟨fv, _, hri, litArgs_ok g hls, rfl⟩
              refine (hS2 w _ (fv :: ls.map fun _ => []) hN (by rw [hflat]; exact fun b h0 hb => hA.free (hdomv b hb) h0) hargs (by rw [hflat]; exact hownv)).mono ?_
              rintro e w' ⟨fps', rfl, hk, ⟨fv', fr, hri', _, rfl⟩, hown', hsub⟩
              rw [hflat] at hk
              rw [List.flatten_cons] at hown'
              obtain ⟨m1, _, _⟩ := List.nodup_append.1 hown'.nodup
              have hownv' : Own 0 w' fv' := ⟨m1, fun _ _ => Nat.zero_le _, fun y hy => hown'.kind y (List.mem_append_left _ hy)⟩
              obtain ⟨env', hk2, hg'⟩ := hcore w' fv' hk hri' hownv' hsub.1
              exact ⟨v0, env', rfl, hk2, hg', rfl, rfl, hv0⟩
            · cases h
          · cases h
        · cases h
      · cases h
    · cases h
  · cases h
/-- A store into a slice that lies in an object's element: of data without memory. -/
def evs (Γ : Nat → TK) (st : St) : Op → Option (List Prop × St)
  | .store t x y => match opv st [] x, opv st [] y with
    | some (.a (.vip n (some (i, o2, j)) tg _ off)), some v => match look st.hp n with
      | some (.arr g l0) => match fits (Γ t) v, takes st (cellsOf v), elt (dec g (l0.getD i (dfl g))) o2 with
        | true, some (cv, []), some (.sl t' l') => match castL tg t' l' with
          | some l => match spl (dec tg (l.getD j (dfl tg))) off cv with
            | some d => match enc tg d with
              | some (vc2, y') => match spl (dec g (l0.getD i (dfl g))) o2 [.sl tg (l.set j y')] with
                | some c => match enc g c with
                  | some (vc1, x') => some (vc1 ++ vc2, st.upd [(n, .arr g (l0.set i x'))])
                  | none => none
                | none => none
              | none => none
            | none => none
          | none => none
        | _, _, _ => none
      | _ => none
    | _, _ => none
  | _ => none
theorem evs_ok {Γ : Nat → TK} (C : ∀ t, TKok P t (Γ t)) (Z : ∀ t, (∀ z tg fo, Γ t ≠ .st z tg fo) → Γ t ≠ .other → (P.info? t).map (·.size) = some 1) {vc : List Prop} (h : evs Γ st o.op = some (vc, st')) (g : Good ty zb st a.tmps w env) (hB : zb.w.heap.size ≤ w.heap.size) (hv : ∀ q, q ∈ vc → q) :
    o.wp P a w (fun a' w' => ∃ env', a' = a.put o.dst undef ∧ Kept zb w w' ∧ Good ty zb st' a.tmps w' env' ∧ st'.n = st.n) Q := by
  have hop : ∀ {x v}, opv st [] x = some v → RS1 w st.hp env v (a.eval x) := fun hx => opv_ok g (fun e he => by simp at he) hx
  generalize hoo : o.op = op at h
  cases op with
  | store t x y =>
    simp only [evs] at h
    split at h
    case h_2 => cases h
    rename_i n i o2 j tg xx off v hx hy
    have hx := hop hx
    have hy := hop hy
    split at h
    case h_2 => cases h
    rename_i gt l0 hl
    split at h
    case h_2 => cases h
    rename_i cv t' l' hfit htk helt0
    split at h
    case h_2 => cases h
    rename_i l hcast
    split at h
    case h_2 => cases h
    rename_i d hs1
    split at h
    case h_2 => cases h
    rename_i vc2 y' he1
    split at h
    case h_2 => cases h
    rename_i c hs2
    split at h
    case h_2 => cases h
    rename_i vc1 x' he2
    simp only [Option.some.injEq, Prod.mk.injEq] at h
    obtain ⟨rfl, rfl⟩ := h
    obtain ⟨_, _, _, _, _, _, _, _, _, _, _, hpos⟩ := hx
    obtain ⟨l3, u0, b0, off0, len, cap, hRV, hj, _, hu0, hu⟩ := hpos i o2 j rfl
    have hl3 : l3 = l := by
      obtain ⟨_, _, hpv⟩ := hRV
      obtain ⟨t1, l1, _, _, _, _, hl1, _, hel, _⟩ := hpv i o2 rfl
      rw [hl] at hl1
      simp only [Option.some.injEq, Obj.arr.injEq] at hl1
      obtain ⟨rfl, hl1⟩ := hl1
      cases hl1
      rw [hel] at helt0
      simp only [Option.some.injEq, V.sl.injEq] at helt0
      obtain ⟨rfl, helt0⟩ := helt0
      cases helt0
      obtain ⟨e, rfl⟩ := castL_ok hcast
      rfl
    subst hl3
    obtain ⟨fv, hri, _, hown, hcore⟩ := inner_core (pv := fun _ => ⟨u0, []⟩) g hB hRV hl hs2 he2 (fun q hq => hv q (by simp [hq]))
    obtain ⟨oa, cap1, hsv, hc1, hc2, h3⟩ := hri
    rcases h3 with ⟨rfl, _⟩ | ⟨b, o1, fps, hoa, hb2, hfp, hE⟩
    · simp at hj
    rw [hu0, hoa] at hsv
    simp only [Value.slice.injEq, Option.some.injEq, Addr.mk.injEq, and_true] at hsv
    obtain ⟨⟨rfl, rfl⟩, rfl, rfl⟩ := hsv
    have hxi : l3[j]? = some (l3.getD j (dfl tg)) := by rw [List.getD_eq_getElem?_getD, List.getElem?_eq_getElem hj]; rfl
    obtain ⟨f, hf⟩ := fps_some hE.1 hxi
    obtain ⟨cs, hra, hEi⟩ := hE.2 _ _ f hxi hf
    have hlen := (fine tg).len hEi
    rw [hfp] at hown
    have hnd2 := List.nodup_cons.1 hown.nodup
    obtain ⟨fx, hrx, hox, hfx⟩ := takes_ok g (cellsOf_ok g hy (takes_noany htk)) htk List.nodup_nil
    have hfx0 : fx = [] := by
      cases fx with
      | nil => rfl
      | cons y r => obtain ⟨m, _, hm, _⟩ := hfx y (by simp); simp at hm
    subst hfx0
    obtain ⟨f1, f2, f3, hff, hrd, hlo⟩ := RIs.spl (reads tg hEi) hrx hs1
    have hEn := enc_ok tg he1 (fun q hq => hv q (by simp [hq])) hrd
    have hsz : (P.info? t).map (·.size) = some (a.eval y).cells.toList.length ∧ ∀ u, u ∈ (a.eval y).cells.toList → u.oneCell' = true := by
      refine ⟨?_, all2_ones g (cellsOf_ok g hy (takes_noany htk)) (noany_mem (takes_noany htk))⟩
      cases v with
      | agg c' =>
        obtain ⟨z, tg', fo, hk, hfit⟩ := fits_agg hfit
        have hC := C t
        rw [hk] at hC
        obtain ⟨fs, _, hi2, _⟩ := hC
        obtain ⟨us, hus, hul⟩ := hy
        have := Nat.eq_of_beq_eq_true hfit
        have hl3 := hul.len
        rw [hus]
        cases hq : P.info? t with
        | none => simp [hq] at hi2
        | some inf => simp [hq] at hi2; simp [hi2.1, Value.cells, hl3, this]
      | a v' =>
        have hk := fits_one hfit
        have hne : v' ≠ .any := by rintro rfl; simp [cellsOf, takes] at htk
        have := one_cells g (show RA w st.hp env v' (a.eval y) from hy) hne
        rw [this]
        exact Z t hk.1 hk.2
    obtain ⟨cb, eb, hblk⟩ := hown.kind b0 (by simp)
    have hth : w.there b0 (off0 + j * kk tg + off) (a.eval y).cells.toList.length := by
      refine thereB hblk _ _ ?_
      have hcl : off0 + j * kk tg + cs.length ≤ cb.size := by
        have hk0 := kk_pos tg
        have := hra (cs.length - 1) _ (List.getElem?_eq_getElem (by omega))
        rw [cellB hblk] at this
        have := (Array.getElem?_eq_some_iff.1 this).1
        omega
      omega
    have hkeep : ∀ x, x ≠ b0 → (w.setCells b0 (off0 + j * kk tg + off) (a.eval y).cells.toList).heap[x]? = w.heap[x]? := fun x hx => setCells_other b0 _ _ w x hx
    have hbf : ∀ x, x ∈ fps.flatten → x ≠ b0 := fun x hx e => hnd2.1 (e ▸ hx)
    have hsubf : ∀ x, x ∈ f1 ++ ([] ++ f3) → x ∈ f := by
      intro x hx
      rw [hff]
      rcases List.mem_append.1 hx with hx | hx
      · exact List.mem_append_left _ hx
      · rw [List.nil_append] at hx; exact List.mem_append_right _ (List.mem_append_right _ hx)
    have hagf : Agree w (w.setCells b0 (off0 + j * kk tg + off) (a.eval y).cells.toList) (f1 ++ ([] ++ f3)) := fun x hx => hkeep x (hbf x (mem_fps hf (hsubf x hx)))
    have hEl' := elems_put (fine tg) (w' := w.setCells b0 (off0 + j * kk tg + off) (a.eval y).cells.toList) hE (i := j) (x' := y') (f' := f1 ++ ([] ++ f3))
      (rangeAt_splice hra hlo hth) ((fine tg).agree hEn hagf)
      (fun j1 cs' hj1 hcl hr => World.rangeAt_setCells_apart hr _ _ _ (Or.inr (by
        rw [hcl]
        rcases Nat.lt_or_ge j1 j with h1 | h1
        · left
          have := Nat.mul_le_mul_right (kk tg) (show j1 + 1 ≤ j by omega)
          rw [Nat.add_mul] at this; omega
        · right
          have := Nat.mul_le_mul_right (kk tg) (show j + 1 ≤ j1 by omega)
          rw [Nat.add_mul] at this; omega)))
      (fun j1 f' _ hf' x hx => hkeep x (hbf x (mem_fps hf' hx)))
    have hndf : (f1 ++ ([] ++ f3)).Nodup := by
      have h1 := (List.pairwise_flatten.1 hnd2.2).1 f (List.mem_of_getElem? hf)
      rw [hff] at h1
      obtain ⟨h2, h3, h4⟩ := List.nodup_append.1 h1
      obtain ⟨_, h6, _⟩ := List.nodup_append.1 h3
      rw [List.nil_append]
      exact List.nodup_append.2 ⟨h2, h6, fun x hx z hz => h4 x hx z (List.mem_append_right _ hz)⟩
    have hmem : ∀ x, x ∈ (fps.set j (f1 ++ ([] ++ f3))).flatten → x ∈ fps.flatten := by
      intro x hx
      rcases fps_set_mem hx with h | ⟨j1, f', _, hj1, h⟩
      · exact mem_fps hf (hsubf x h)
      · exact mem_fps hj1 h
    have hO' : Own 0 (w.setCells b0 (off0 + j * kk tg + off) (a.eval y).cells.toList) (b0 :: (fps.set j (f1 ++ ([] ++ f3))).flatten) := by
      refine ⟨List.nodup_cons.2 ⟨fun hm => hnd2.1 (hmem b0 hm), fps_set_nodup hnd2.2 hndf fun j1 f' hj1 hf' x hx hx' => fps_apart hnd2.2 hf' hf hj1 x hx (hsubf x hx')⟩, fun _ _ => Nat.zero_le _, fun x hx => ?_⟩
      rcases List.mem_cons.1 hx with rfl | hx
      · obtain ⟨c', q1, _⟩ := setCells_blk x eb (a.eval y).cells.toList (off0 + j * kk tg + off) w cb hblk
        exact ⟨_, _, q1⟩
      · rw [hkeep x (hbf x (hmem x hx))]; exact hown.kind x (List.mem_cons_of_mem _ (hmem x hx))
    have hKept : Kept ⟨w, fv, fun _ => ⟨u0, []⟩⟩ w (w.setCells b0 (off0 + j * kk tg + off) (a.eval y).cells.toList) :=
      kept_set (zb := ⟨w, fv, fun _ => ⟨u0, []⟩⟩) (Or.inl (by rw [hfp]; simp)) hblk _ _
    have hrun : (storeVar t ⟨b0, off0 + j * kk tg + off, none⟩ (a.eval y)).run P w = .ok () (w.setCells b0 (off0 + j * kk tg + off) (a.eval y).cells.toList) := run_storeVar (by simp) hth hsz.1 hsz.2
    obtain ⟨env', hk2, hg'⟩ := hcore _ (b0 :: (fps.set j (f1 ++ ([] ++ f3))).flatten) hKept
      ⟨some ⟨b0, off0, none⟩, cap, by rw [hu0, List.length_set], by rw [List.length_set]; exact hc1, hc2, Or.inr ⟨b0, off0, _, rfl, by rw [setCells_size]; exact hb2, rfl, hEl'⟩⟩ hO'
      (fun y hy => by
        rw [hfp]
        rcases List.mem_cons.1 hy with rfl | hy
        · simp
        · exact List.mem_cons_of_mem _ (hmem y hy))
    unfold Oper.wp execOp
    simp only [hoo, hu, Instr.storeAt, Instr.sureAddr, Sem.run_bind, Sem.run_pure, Result.andThen_ok, hrun]
    exact ⟨env', rfl, hk2, hg', rfl⟩
  | _ => simp [evs] at h
end
end Go.Proofs.YthjedjndamejmaaGreat.G
