/-
  All operations that turn nothing, in one theorem.
-/
import Derived.Test.YthlflnplnajjiaaG5
namespace Go.Proofs.Ythlflnplnajjiaa.G
open Go.RowKit L D
variable {ty : Tag → Nat}
section
variable {P : Program} {B : Nat} {st : St} {a : Act} {w : World} {env : Env} {Q : Exit → Act → World → Prop} {o : Oper}
theorem zeros_ok {hp : Hp} {env : Env} : ∀ {z : List Value}, (∀ v, v ∈ z → v.oneCell' = true) → All2 (RA w hp env) (z.map V.lit) z
  | [], _ => trivial
  | v :: r, h => ⟨⟨rfl, h v (by simp)⟩, zeros_ok fun u hu => h u (by simp [hu])⟩
theorem one_cells (g : Good ty B st a.tmps w env) {v : V} {u : Value} (h : RA w st.hp env v u) (hv : v ≠ .any) : u.cells = #[u] := by
  cases v with
  | any => exact absurd rfl hv
  | lit x => obtain ⟨rfl, h1⟩ := h; cases u <;> simp_all [Value.cells, Value.oneCell']
  | sl t l => obtain ⟨fp, ⟨oa, cap, rfl, _⟩, _⟩ := h; rfl
  | own n =>
    obtain ⟨⟨t, l, hl⟩, rfl⟩ := h
    rcases bld_slice (show Bld (kk t) (rd t) B (ty t) w (env n).v l (env n).fp from g.obj n _ hl) with ⟨h, _⟩ | ⟨b, cap, h⟩ <;> rw [h] <;> rfl
  | ptr n off => obtain ⟨_, b, _, rfl⟩ := h; rfl
  | eptr n i off => obtain ⟨t, l, _, b, len, cap, _, rfl⟩ := h; rfl
  | ip t x off => obtain ⟨b, o, cs, fp, rfl, _⟩ := h; rfl
theorem ibop_ok {op : BinOp} {k k' : IntKind} {x y : Int} {vc : List Prop} {v : Value} (h : ibop op k k' x y = some (vc, v)) (hv : ∀ q, q ∈ vc → q) {t : TypeId} {X Y : Operand} :
    (do eqGuard op t X Y (.int k x) (.int k' y); binOp op t (.int k x) (.int k' y) : Sem Value).run P w = .ok v w ∧ v.oneCell' = true := by
  have gen : (∀ (_ : ¬ (op = .shl ∨ op = .shr)), (match decEq k k' with | isTrue _ => bop op k x y | isFalse _ => none) = some (vc, v) → (do eqGuard op t X Y (.int k x) (.int k' y); binOp op t (.int k x) (.int k' y) : Sem Value).run P w = .ok v w ∧ v.oneCell' = true) := by
    intro _ h'
    clear h
    split at h'
    · rename_i hk _
      subst hk
      exact bop_ok h' hv
    · cases h'
  cases op with
  | shl =>
    simp only [ibop, Option.some.injEq, Prod.mk.injEq] at h
    obtain ⟨rfl, rfl⟩ := h
    have hy : ¬ y < 0 := by have : 0 ≤ y := hv _ (List.mem_singleton.2 rfl); omega
    refine ⟨?_, rfl⟩
    simp [eqGuard, binOp, Op.shift, hy]
  | shr =>
    simp only [ibop, Option.some.injEq, Prod.mk.injEq] at h
    obtain ⟨rfl, rfl⟩ := h
    have hy : ¬ y < 0 := by have : 0 ≤ y := hv _ (List.mem_singleton.2 rfl); omega
    refine ⟨?_, rfl⟩
    simp [eqGuard, binOp, Op.shift, hy]
  | _ => exact gen (by simp) h
theorem sbop_ok {op : BinOp} {x y : ByteArray} {vc : List Prop} {v : Value} (h : sbop op x y = some (vc, v)) (hv : ∀ q, q ∈ vc → q) {t : TypeId} {X Y : Operand} :
    (do eqGuard op t X Y (.string x) (.string y); binOp op t (.string x) (.string y) : Sem Value).run P w = .ok v w ∧ v.oneCell' = true := by
  cases op with
  | add =>
    simp only [sbop, Option.some.injEq, Prod.mk.injEq] at h
    obtain ⟨rfl, rfl⟩ := h
    have hy : ((x.size + y.size : Nat) : Int) ≤ IntKind.i64.max := hv _ (List.mem_singleton.2 rfl)
    refine ⟨?_, rfl⟩
    have hy' : ¬ ((x.size + y.size : Nat) : Int) > IntKind.i64.max := by omega
    simp only [eqGuard, binOp, Op.stringOp, if_neg hy']
    rfl
  | eql =>
    simp only [sbop, Option.some.injEq, Prod.mk.injEq] at h
    obtain ⟨rfl, rfl⟩ := h
    exact ⟨by simp [eqGuard, binOp, Op.stringOp], rfl⟩
  | neq =>
    simp only [sbop, Option.some.injEq, Prod.mk.injEq] at h
    obtain ⟨rfl, rfl⟩ := h
    exact ⟨by simp [eqGuard, binOp, Op.stringOp], rfl⟩
  | _ => simp [sbop] at h
theorem fnOf_ok {v : S1} {u : Value} {f : FuncId} (hr : RS1 w st.hp env v u) (h : fnOf v = some f) : u = .func (.func f) #[] #[] := by
  unfold fnOf at h
  split at h
  · simp only [Option.some.injEq] at h
    subst h
    exact hr.lit
  · cases h
theorem nums_str8 (l : List UInt8) : strOfNums (l.map fun n => (n.toNat : Int)) = str8 l := by
  unfold strOfNums str8
  congr 2
  rw [List.map_map]
  conv => rhs; rw [← List.map_id l]
  apply List.map_congr_left
  intro n _
  simp
theorem run_bytes_empty (ad : Addr) (cap : Nat) : (Conv.bytesToString (.slice (some ad) 0 cap)).run P w = .ok (.string (str8 [])) w := by
  have := run_bytesToString (P := P) w ad 0 cap [] (by simp [loadCells, loadCellsFrom])
  exact this
theorem wp_slice {t : Nat} {x : Operand} {lo hi : Option Operand} (ho : o.op = .slice t x lo hi none) {g : Tag} {e : Nat} (hk : TKok P t (.sl g e)) {t' : Tag} {l : List (T t')} (hkk : kk g = kk t') (hx : RS1 w st.hp env (.a (.sl t' l)) (a.eval x)) {n1 n2 : Int}
    (h1 : (lo = none ∧ n1 = 0) ∨ ∃ y k, lo = some y ∧ a.eval y = .int k n1) (h2 : (hi = none ∧ n2 = l.length) ∨ ∃ y k, hi = some y ∧ a.eval y = .int k n2) (q0 : 0 ≤ n1) (q1 : n1 ≤ n2) (q2 : n2 ≤ (l.length : Int)) :
    o.wp P a w (Does ty B st a w env o.dst (.one (.a (.sl t' ((l.take n2.toNat).drop n1.toNat)))) []) Q := by
  obtain ⟨hu, hs⟩ := hk
  obtain ⟨fp, ⟨oa, cap, hv, hc, hm, h3⟩, hd⟩ := hx
  cases hq : P.info? e with
  | none => simp [hq] at hs
  | some inf =>
    have hsz : inf.size = kk g := by simpa [hq] using hs
    have hcap : n2 ≤ (cap : Int) := by omega
    have hn2 : 0 ≤ n2 := by omega
    have hmx : max n2 0 = n2 := by omega
    have hlen : ((l.take n2.toNat).drop n1.toNat).length = n2.toNat - n1.toNat := by simp; omega
    have hrun : (Instr.sliceAt t (.slice oa l.length cap) (lo.map a.eval) (hi.map a.eval) none).run P w = .ok (.slice (if cap = n1.toNat then oa else oa.map (·.add (n1.toNat * kk g))) (n2.toNat - n1.toNat) (cap - n1.toNat)) w := by
      rcases h1 with ⟨rfl, rfl⟩ | ⟨y1, k1, rfl, e1⟩ <;> rcases h2 with ⟨rfl, rfl⟩ | ⟨y2, k2, rfl, e2⟩
      all_goals simp [Instr.sliceAt, Instr.slice, Instr.sliceBounds, Instr.sliceBound, asIntOf, run_underlying hu, sizeOf, typeInfo, hq, hsz, *]
    refine wp_one (u := .slice (if cap = n1.toNat then oa else oa.map (·.add (n1.toNat * kk g))) (n2.toNat - n1.toNat) (cap - n1.toNat)) ?_ ?_
    · unfold execOp
      simp only [ho, hv, Option.map_none, Sem.run_bind, hrun, Result.andThen_ok, Sem.run_pure]
    · rcases h3 with ⟨rfl, rfl, hn⟩ | ⟨b, off, fps, rfl, hb, rfl, hE⟩
      · have e0 : n1 = 0 := by simp at q2; omega
        have e2 : n2 = 0 := by simp at q2; omega
        subst e0; subst e2
        refine ⟨[], ⟨_, _, rfl, by simp, by omega, Or.inl ⟨by simp, rfl, ?_⟩⟩, fun b hb => by simp at hb⟩
        intro hoa
        split at hoa
        · rw [hn hoa]; rfl
        · cases oa with
          | none => rw [hn rfl]; rfl
          | some _ => simp at hoa
      · by_cases hcn : cap = n1.toNat
        · have e0 : (l.take n2.toNat).drop n1.toNat = [] := by
            apply List.eq_nil_of_length_eq_zero; omega
          refine ⟨[], ⟨_, _, by rw [hlen], by rw [hlen]; omega, by omega, Or.inl ⟨e0, rfl, ?_⟩⟩, fun b hb => by simp at hb⟩
          intro hoa; rw [if_pos hcn] at hoa; cases hoa
        · refine ⟨b :: ((fps.take n2.toNat).drop n1.toNat).flatten, ⟨_, _, by rw [hlen], by rw [hlen]; omega, by omega, Or.inr ⟨b, off + n1.toNat * kk t', (fps.take n2.toNat).drop n1.toNat, ?_, hb, rfl, ?_, ?_⟩⟩, ?_⟩
          · rw [if_neg hcn, hkk]; simp [Addr.add_mid]
          · have := hE.1; simp [this]
          · intro i x f hx hf
            rw [List.getElem?_drop, List.getElem?_take] at hx hf
            split at hx
            · rename_i hlt
              rw [if_pos hlt] at hf
              obtain ⟨cs, k1, k2⟩ := hE.2 _ x f hx hf
              exact ⟨cs, by rw [Nat.add_assoc, ← Nat.add_mul]; exact k1, k2⟩
            · cases hx
          · intro c hc
            refine hd c ?_
            rcases List.mem_cons.1 hc with rfl | hc
            · simp
            · refine List.mem_cons_of_mem _ ?_
              obtain ⟨f, hf, hc⟩ := List.mem_flatten.1 hc
              exact List.mem_flatten.2 ⟨f, List.mem_of_mem_take (List.mem_of_mem_drop hf), hc⟩
theorem wp_slice_str {t : Nat} {x : Operand} {lo hi : Option Operand} (ho : o.op = .slice t x lo hi none) (hu : P.underlying t = some .string) {s : ByteArray} (hv : a.eval x = .string s) {n1 n2 : Int}
    (h1 : (lo = none ∧ n1 = 0) ∨ ∃ y k, lo = some y ∧ a.eval y = .int k n1) (h2 : (hi = none ∧ n2 = s.size) ∨ ∃ y k, hi = some y ∧ a.eval y = .int k n2) (q0 : 0 ≤ n1) (q1 : n1 ≤ n2) (q2 : n2 ≤ (s.size : Int)) :
    o.wp P a w (Does ty B st a w env o.dst (.one (.a (.lit (.string (s.extract n1.toNat n2.toNat))))) []) Q := by
  have hn2 : 0 ≤ n2 := by omega
  have hmx : max n2 0 = n2 := by omega
  have hrun : (Instr.sliceAt t (.string s) (lo.map a.eval) (hi.map a.eval) none).run P w = .ok (.string (s.extract n1.toNat n2.toNat)) w := by
    rcases h1 with ⟨rfl, rfl⟩ | ⟨y1, k1, rfl, e1⟩ <;> rcases h2 with ⟨rfl, rfl⟩ | ⟨y2, k2, rfl, e2⟩
    all_goals simp [Instr.sliceAt, Instr.slice, Instr.sliceBounds, Instr.sliceBound, asIntOf, run_underlying hu, *]
  refine wp_one (u := .string (s.extract n1.toNat n2.toNat)) ?_ ⟨rfl, rfl⟩
  unfold execOp
  simp only [ho, hv, Option.map_none, Sem.run_bind, hrun, Result.andThen_ok, Sem.run_pure]
/-- Bytes, read as a string. -/
theorem run_bytes (g : Good ty B st a.tmps w env) {v : V} {u : Value} (hr : RS1 w st.hp env (.a v) u) {l : List UInt8} (hl : bytesOf st v = some l) {s e t : Nat} (hs : P.underlying s = some (.slice e)) (he : P.underlying e = some (.int .u8)) (ht : P.underlying t = some .string) :
    (convert s t u).run P w = .ok (.string (str8 l)) w := by
  have key : ∀ {b off len cap : Nat}, len = l.length → (∀ i x, l[i]? = some x → w.cell? ⟨b, off + i, none⟩ = some (.int .u8 x.toNat)) → (convert s t (.slice (some ⟨b, off, none⟩) len cap)).run P w = .ok (.string (str8 l)) w := by
    intro b off len cap hlen hc
    rw [run_convert_bytes_arg w s e hs he b off len cap (l.map fun n => (n.toNat : Int)) (by simp [hlen]) (fun i hi => ?_) t ht, nums_str8]
    have hi2 : i < l.length := by omega
    rw [hc i _ (List.getElem?_eq_getElem hi2), List.getD_eq_getElem?_getD, List.getElem?_map, List.getElem?_eq_getElem hi2]
    rfl
  have nil : ∀ {c : Nat}, (convert s t (.slice none 0 c)).run P w = .ok (.string (str8 [])) w := by
    intro c
    rw [run_convert_bytes_nil w s e hs he 0 c t ht]; rfl
  have sl : ∀ {fp : List Nat}, Sl 1 EU8 w u l fp → (convert s t u).run P w = .ok (.string (str8 l)) w := by
    rintro fp ⟨oa, cap, rfl, _, _, h3⟩
    rcases h3 with ⟨rfl, _, _⟩ | ⟨b, off, fps, rfl, _, _, hE⟩
    · cases oa with
      | none => exact nil
      | some ad =>
        rw [run_convert_bytes_string w s t e _ _ _ hs he ht]
        exact run_bytes_empty ad cap
    · refine key rfl fun i x hx => ?_
      obtain ⟨f, hf⟩ := fps_some hE.1 hx
      obtain ⟨cs, q1, rfl, _⟩ := hE.2 i x f hx hf
      have := q1 0 _ rfl
      simpa using this
  unfold bytesOf at hl
  split at hl
  · simp only [Option.some.injEq] at hl
    subst hl
    obtain ⟨fp, h, _⟩ := hr
    exact sl h
  · rename_i n
    split at hl
    · rename_i l' hlk
      simp only [Option.some.injEq] at hl
      subst hl
      obtain ⟨_, hu⟩ := hr
      have hb := Bld.sl (show Bld 1 EU8 B (ty .u8) w (env n).v l' (env n).fp from g.obj n _ hlk)
      rw [← show u = (env n).v from hu] at hb
      exact sl hb
    · cases hl
  · simp only [Option.some.injEq] at hl
    subst hl
    have hu := (show RS1 w st.hp env (.a (.lit nilv)) u from hr).lit
    rw [hu]
    exact nil
  · cases hl
theorem bnd_ok {p : List (Nat × Bool)} (hop : ∀ {x v}, opv st p x = some v → RS1 w st.hp env v (a.eval x)) {z n : Int} {b : Option Operand} (h : bnd st p z b = some n) : (b = none ∧ n = z) ∨ ∃ x k, b = some x ∧ a.eval x = .int k n := by
  cases b with
  | none => simp only [bnd, Option.some.injEq] at h; exact Or.inl ⟨rfl, h.symm⟩
  | some x =>
    simp only [bnd] at h
    split at h
    · rename_i k i hx
      simp only [Option.some.injEq] at h
      subst h
      exact Or.inr ⟨x, k, rfl, (hop hx).lit⟩
    · cases h
theorem quiet_ok {Γ : Nat → TK} (C : ∀ t, TKok P t (Γ t)) {cr : List (Nat × CR)} {p : List (Nat × Bool)} {d m : Nat} {out : Out} (h : quiet Γ (Sound ty P) cr st p d m o.op = some out)
    (g : Good ty B st a.tmps w env) (hp : holds a.tmps p) (hB : B ≤ w.heap.size) (hv : ∀ q, q ∈ out.vc → q) (hf : fresh st.hp out.o = true) (hn : nodupk out.o = true) :
    o.wp P a w (Does ty B st a w env o.dst out.v out.o) Q := by
  have hop : ∀ {q x v}, holds a.tmps q → opv st q x = some v → RS1 w st.hp env v (a.eval x) := fun hq hx => opv_ok g hq hx
  generalize hoo : o.op = op at h
  cases op with
  | move x =>
    simp only [quiet] at h
    split at h
    · rename_i v hx
      simp only [out1, Option.some.injEq] at h
      subst h
      exact wp_one (by unfold execOp; simp only [hoo, Sem.run_pure]) (hop hp hx)
    · cases h
  | assign x =>
    simp only [quiet] at h
    split at h
    · rename_i v hx
      simp only [out1, Option.some.injEq] at h
      subst h
      exact wp_one (by unfold execOp; simp only [hoo, Sem.run_pure]) (hop hp hx)
    · cases h
  | pick c x y =>
    cases c with
    | tmp c =>
      simp only [quiet] at h
      split at h
      · rename_i t u v h1 h2 h3
        simp only [out1, Option.some.injEq] at h
        subst h
        have hc := (hop hp h1).lit
        have hc' : a.tmps[c]? = some (.bool t) := getD_undef hc
        refine wp_one (u := .bool (if t then u else v)) ?_ ⟨rfl, rfl⟩
        unfold execOp
        cases t with
        | true =>
          have hx := (hop (q := (c, true) :: p) (by intro e he; rcases List.mem_cons.1 he with rfl | he; exact hc'; exact hp e he) h2).lit
          simp [hoo, hc, hx, asBool]
        | false =>
          have hx := (hop (q := (c, false) :: p) (by intro e he; rcases List.mem_cons.1 he with rfl | he; exact hc'; exact hp e he) h3).lit
          simp [hoo, hc, hx, asBool]
      · cases h
    | _ => simp [quiet] at h
  | box e x =>
    simp only [quiet] at h
    split at h
    · rename_i l hx
      simp only [Option.some.injEq] at h
      subst h
      obtain ⟨cs, hu, hl⟩ := hop hp hx
      exact wp_newbox (cs := cs) (e := e) (by unfold execOp; simp [hoo, Instr.box, newVar, newRow, hu, Value.cells]) g hB hf hl
    · cases h
    · rename_i v hne hx
      simp only [Option.some.injEq] at h
      subst h
      have hr := hop hp hx
      have hc := one_cells g (show RA w st.hp env v (a.eval x) from hr) (fun e => hne e)
      exact wp_newbox (cs := [a.eval x]) (e := e) (by unfold execOp; simp [hoo, Instr.box, newVar, newRow, hc]) g hB hf ⟨hr, trivial⟩
    · cases h
  | alloc t =>
    simp only [quiet] at h
    split at h
    · rename_i z tg fo hk
      simp only [Option.some.injEq] at h
      subst h
      have hC := C t
      rw [hk] at hC
      obtain ⟨fs, hu, hi, h1, _⟩ := hC
      refine wp_newbox (cs := z) (e := t) ?_ g hB hf (zeros_ok h1)
      unfold execOp
      cases hq : P.info? t with
      | none => simp [hq] at hi
      | some i =>
        simp [hq] at hi
        simp [hoo, Instr.alloc, zeroValue, typeInfo, hq, hi.2, newVar, newRow, Value.cells]
    · cases h
  | load t x =>
    simp only [quiet] at h
    split at h
    · rename_i n off hx
      obtain ⟨_, b, hb, hu⟩ := hop hp hx
      split at h
      · rename_i c hl
        obtain ⟨b', cs, e, hco, _, hh, hc⟩ := g.obj n _ hl
        have hbb : b = b' := by
          rw [hco] at hb
          simpa using hb.symm
        subst hbb
        have hra : w.rangeAt b 0 cs := by simpa using rangeB hh
        split at h
        · rename_i z tg fo hk
          split at h
          · rename_i l hs
            simp only [out1, Option.some.injEq] at h
            subst h
            have hC := C t
            rw [hk] at hC
            obtain ⟨k1, k2⟩ := sub_ok hc hs
            exact wp_load_row hoo hC hu (by have := rangeAt_sub (k := z.length) (j := off) hra; rwa [Nat.zero_add] at this) k2 k1
          · cases h
        · cases h
        · rename_i k1 k2
          split at h
          · rename_i v hs
            simp only [out1, Option.some.injEq] at h
            subst h
            obtain ⟨u, q1, q2⟩ := hc.at (elt_eq hs)
            refine wp_load_one hoo (C t) ?_ ?_ hu (by have := rangeAt_elt hra q1; rwa [Nat.zero_add] at this) q2
            · intro z tg fo hz; exact k1 z tg fo hz
            · exact k2
          · cases h
      · cases h
    · rename_i gt y off hx
      obtain ⟨b, o', cs, fp, hu, _, hra, hE, _, hd⟩ := hop hp hx
      have hc := ip_cells hE hd
      split at h
      · rename_i z tg fo hk
        split at h
        · rename_i l hs
          simp only [out1, Option.some.injEq] at h
          subst h
          have hC := C t
          rw [hk] at hC
          obtain ⟨k1, k2⟩ := sub_ok hc hs
          exact wp_load_row hoo hC hu (rangeAt_sub hra) k2 k1
        · cases h
      · cases h
      · rename_i k1 k2
        split at h
        · rename_i v hs
          simp only [out1, Option.some.injEq] at h
          subst h
          obtain ⟨u, q1, q2⟩ := hc.at (elt_eq hs)
          refine wp_load_one hoo (C t) ?_ ?_ hu (rangeAt_elt hra q1) q2
          · intro z tg fo hz; exact k1 z tg fo hz
          · exact k2
        · cases h
    · cases h
  | binOp op t x y t' =>
    simp only [quiet] at h
    split at h
    · rename_i k m k' m' h1 h2
      split at h
      · rename_i vc v hb
        simp only [Option.some.injEq] at h
        subst h
        have hx := (hop hp h1).lit
        have hy := (hop hp h2).lit
        obtain ⟨q1, q2⟩ := ibop_ok (P := P) (w := w) hb hv (t := t) (X := x) (Y := y)
        refine wp_one (u := v) ?_ ⟨rfl, q2⟩
        unfold execOp
        simp only [hoo, hx, hy]
        rw [Sem.run_bind, q1]
        rfl
      · cases h
    · rename_i m m' h1 h2
      split at h
      · rename_i vc v hb
        simp only [Option.some.injEq] at h
        subst h
        have hx := (hop hp h1).lit
        have hy := (hop hp h2).lit
        obtain ⟨q1, q2⟩ := sbop_ok (P := P) (w := w) hb hv (t := t) (X := x) (Y := y)
        refine wp_one (u := v) ?_ ⟨rfl, q2⟩
        unfold execOp
        simp only [hoo, hx, hy]
        rw [Sem.run_bind, q1]
        rfl
      · cases h
    · cases h
  | unOp op t x =>
    cases op with
    | not =>
      simp only [quiet] at h
      split at h
      · rename_i b hx
        simp only [out1, Option.some.injEq] at h
        subst h
        have hx := (hop hp hx).lit
        refine wp_one (u := .bool (!b)) ?_ ⟨rfl, rfl⟩
        unfold execOp
        simp [hoo, hx, Op.unary]
      · cases h
    | _ => simp [quiet] at h
  | convert s t x =>
    simp only [quiet] at h
    split at h
    · rename_i k n k1 k2 hx hk1 hk2
      simp only [out1, Option.some.injEq] at h
      subst h
      have hx := (hop hp hx).lit
      have c1 := C s
      have c2 := C t
      rw [hk1] at c1
      rw [hk2] at c2
      refine wp_one (u := .int k2 (k2.wrap n)) ?_ ⟨rfl, rfl⟩
      unfold execOp
      simp [hoo, hx, convert, run_underlying (show P.underlying s = _ from c1), run_underlying (show P.underlying t = _ from c2), Conv.intToInt]
    · rename_i v g' e hx hk1 hk2
      split at h
      · rename_i l hk3 hl
        simp only [out1, Option.some.injEq] at h
        subst h
        have c1 := C s
        have c2 := C t
        have c3 := C e
        rw [hk1] at c1
        rw [hk2] at c2
        rw [hk3] at c3
        have := run_bytes g (hop hp hx) hl c1.1 c3 c2
        refine wp_one (u := .string (str8 l)) ?_ ⟨rfl, rfl⟩
        unfold execOp
        simp only [hoo, Sem.run_bind, this, Result.andThen_ok, Sem.run_pure]
      · cases h
    · cases h
  | slice t x lo hi mx =>
    cases mx with
    | some _ => simp [quiet] at h
    | none =>
      simp only [quiet] at h
      split at h
      · rename_i gt e hk
        have hC := C t
        rw [hk] at hC
        split at h
        · rename_i t' l n1 hx h1
          split at h
          · rename_i n2 h2
            split at h
            · rename_i hkk
              have hkk := Nat.eq_of_beq_eq_true hkk
              simp only [Option.some.injEq] at h
              subst h
              obtain ⟨q0, q1, q2⟩ := hv _ (List.mem_singleton.2 rfl)
              exact wp_slice hoo hC hkk (hop hp hx) (bnd_ok (hop hp) h1) (bnd_ok (hop hp) h2) q0 q1 q2
            · cases h
          · cases h
        · cases h
      · rename_i hk
        have hC := C t
        rw [hk] at hC
        split at h
        · rename_i s n1 hx h1
          split at h
          · rename_i n2 h2
            simp only [Option.some.injEq] at h
            subst h
            obtain ⟨q0, q1, q2⟩ := hv _ (List.mem_singleton.2 rfl)
            exact wp_slice_str hoo hC (hop hp hx).lit (bnd_ok (hop hp) h1) (bnd_ok (hop hp) h2) q0 q1 q2
          · cases h
        · cases h
      · cases h
  | fieldAddr t x f =>
    simp only [quiet] at h
    split at h
    · rename_i z tg fo hk
      have hC := C t
      rw [hk] at hC
      split at h
      · rename_i k hf'
        split at h
        · rename_i n off hx
          simp only [out1, Option.some.injEq] at h
          subst h
          obtain ⟨hc, b, hb, hu⟩ := hop hp hx
          exact wp_fieldAddr hoo hC hf' hu ⟨hc, b, hb, rfl⟩
        · rename_i gt y off hx
          simp only [out1, Option.some.injEq] at h
          subst h
          obtain ⟨b, o', cs, fp, hu, k1⟩ := hop hp hx
          exact wp_fieldAddr hoo hC hf' hu ⟨b, o', cs, fp, by rw [Nat.add_assoc], k1⟩
        · rename_i n i off hx
          simp only [out1, Option.some.injEq] at h
          subst h
          obtain ⟨t', l, hl, b, len, cap, hb, hu⟩ := hop hp hx
          exact wp_fieldAddr hoo hC hf' hu ⟨t', l, hl, b, len, cap, hb, by rw [Nat.add_assoc]⟩
        · cases h
      · cases h
    · cases h
  | indexAddr t x i =>
    simp only [quiet] at h
    split at h
    · rename_i gt e hk
      have hC := C t
      rw [hk] at hC
      split at h
      · rename_i t' l ik n hx hi
        split at h
        · rename_i hkk
          have hkk := Nat.eq_of_beq_eq_true hkk
          simp only [Option.some.injEq] at h
          subst h
          obtain ⟨h0, h1⟩ := hv _ (List.mem_singleton.2 rfl)
          have hx := hop hp hx
          have hi := (hop hp hi).lit
          obtain ⟨b, off, len, cap, hu, hlt, hr⟩ := sl_elem hx h0 h1
          exact wp_indexAddr hoo hC hu hi h0 hlt (by rw [hkk]; exact hr)
        · cases h
      · rename_i m ik n hx hi
        split at h
        · rename_i t' l hl
          split at h
          · rename_i hkk
            have hkk := Nat.eq_of_beq_eq_true hkk
            simp only [Option.some.injEq] at h
            subst h
            obtain ⟨h0, h1⟩ := hv _ (List.mem_singleton.2 rfl)
            obtain ⟨_, hu⟩ := hop hp hx
            have hi := (hop hp hi).lit
            rcases bld_slice (show Bld (kk t') (rd t') B (ty t') w (env m).v l (env m).fp from g.obj m _ hl) with ⟨_, rfl⟩ | ⟨b, cap, hs⟩
            · simp at h1; omega
            · refine wp_indexAddr hoo hC (hu.trans hs) hi h0 h1 ⟨t', l, hl, b, _, cap, hs, by rw [hkk]; simp⟩
          · cases h
        · cases h
      · cases h
    · cases h
  | extract x i =>
    cases x with
    | tmp t =>
      simp only [quiet] at h
      split at h
      · rename_i l hl
        split at h
        · rename_i x hx
          simp only [out1, Option.some.injEq] at h
          subst h
          obtain ⟨us, hu, hl2⟩ := g.slot t _ hl
          obtain ⟨u, k1, k2⟩ := hl2.at hx
          refine wp_one ?_ k2
          unfold execOp
          have hu' : a.eval (.tmp t) = .tuple us.toArray := hu
          simp [hoo, hu', Instr.extract, k1]
        · cases h
      · cases h
    | _ => simp [quiet] at h
  | call c =>
    obtain ⟨callee, xs, ts⟩ := c
    cases callee with
    | value x =>
      cases x with
      | func f =>
        simp only [quiet] at h
        split at h
        · rename_i as c h1 h2
          simp only [Option.some.injEq] at h
          obtain ⟨own, rs⟩ := c
          have hvc : out.vc = [Sound ty P f as rs] := by
            rw [← h]
            unfold outs
            dsimp only
            split <;> (split <;> rfl)
          exact wp_call hoo rfl (hv _ (by rw [hvc]; simp)) g hB (args_ok g hp h1) h hn
        · cases h
      | tmp x =>
        simp only [quiet] at h
        split at h
        · rename_i v hx
          split at h
          · rename_i f hfn
            split at h
            · rename_i as c h1 h2
              simp only [Option.some.injEq] at h
              obtain ⟨own, rs⟩ := c
              have hvc : out.vc = [Sound ty P f as rs] := by
                rw [← h]
                unfold outs
                dsimp only
                split <;> (split <;> rfl)
              exact wp_call hoo (fnOf_ok (hop hp hx) hfn) (hv _ (by rw [hvc]; simp)) g hB (args_ok g hp h1) h hn
            · cases h
          · cases h
        · cases h
      | _ => simp [quiet] at h
    | builtin b =>
      cases b with
      | len =>
        simp only [quiet] at h
        split at h
        · rename_i x t hxl htl
          obtain rfl : xs = #[x] := by cases xs; simp_all
          obtain rfl : ts = #[t] := by cases ts; simp_all
          split at h
          · rename_i v hx
            split at h
            · rename_i n hn'
              simp only [out1, Option.some.injEq] at h
              subst h
              have hr := hop hp hx
              have hC := C t
              cases v with
              | sl t' l =>
                simp only [lenOf] at hn'
                split at hn'
                · rename_i g' e' hk
                  simp only [Option.some.injEq] at hn'
                  subst hn'
                  rw [hk] at hC
                  obtain ⟨fp, ⟨oa, cap, hu, _⟩, _⟩ := hr
                  exact wp_len rfl hoo hC.1 hu (Or.inl ⟨_, oa, cap, l.length, rfl, rfl, rfl⟩)
                · cases hn'
              | own m =>
                simp only [lenOf] at hn'
                split at hn'
                · rename_i g' e' hk
                  rw [hk] at hC
                  split at hn'
                  · rename_i t' l hl
                    simp only [Option.some.injEq] at hn'
                    subst hn'
                    obtain ⟨_, hu⟩ := hr
                    obtain ⟨oa, cap, hs, _⟩ := Bld.sl (show Bld (kk t') (rd t') B (ty t') w (env m).v l (env m).fp from g.obj m _ hl)
                    exact wp_len rfl hoo hC.1 (hu.trans hs) (Or.inl ⟨_, oa, cap, l.length, rfl, rfl, rfl⟩)
                  · cases hn'
                · cases hn'
              | lit v =>
                have hu := (show RS1 w st.hp env (.a (.lit v)) _ from hr).lit
                simp only [lenOf] at hn'
                split at hn'
                · rename_i heq; cases heq
                · rename_i heq; cases heq
                · rename_i heq
                  simp only [V.lit.injEq] at heq
                  subst heq
                  split at hn'
                  · rename_i g' e' hk
                    simp only [Option.some.injEq] at hn'
                    subst hn'
                    rw [hk] at hC
                    exact wp_len rfl hoo hC.1 hu (Or.inl ⟨_, none, 0, 0, rfl, rfl, rfl⟩)
                  · cases hn'
                · rename_i s heq
                  simp only [V.lit.injEq] at heq
                  subst heq
                  split at hn'
                  · rename_i hk
                    simp only [Option.some.injEq] at hn'
                    subst hn'
                    rw [hk] at hC
                    exact wp_len rfl hoo hC hu (Or.inr ⟨_, rfl, rfl, rfl⟩)
                  · cases hn'
                · cases hn'
              | _ => simp [lenOf] at hn'
            · cases h
          · cases h
        · cases h
      | _ => simp [quiet] at h
    | invoke _ _ => simp [quiet] at h
  | _ => simp [quiet] at h
end
end Go.Proofs.Ythlflnplnajjiaa.G
