/-
  All operations that turn nothing, in one theorem.
-/
import Derived.Test.YthlflnplnajjiaaGA
namespace Go.Proofs.Ythlflnplnajjiaa.G
set_option linter.all false
open Go.RowKit L D
variable {ty : Tag → Nat}
section
variable {P : Program} {zb : Base} {st : St} {a : Act} {w : World} {env : Env} {Q : Exit → Act → World → Prop} {o : Oper}
theorem zeros_ok {hp : Hp} {env : Env} : ∀ {z : List Value}, (∀ v, v ∈ z → v.oneCell' = true) → All2 (RA w hp env) (z.map V.lit) z
  | [], _ => trivial
  | v :: r, h => ⟨⟨rfl, h v (by simp)⟩, zeros_ok fun u hu => h u (by simp [hu])⟩
theorem one_cells (g : Good ty zb st a.tmps w env) {v : V} {u : Value} (h : RA w st.hp env v u) (hv : v ≠ .any) : u.cells = #[u] := by
  cases v with
  | any => exact absurd rfl hv
  | lit x => obtain ⟨rfl, h1⟩ := h; cases u <;> simp_all [Value.cells, Value.oneCell']
  | sl t l => obtain ⟨fp, ⟨oa, cap, rfl, _⟩, _⟩ := h; rfl
  | own n =>
    obtain ⟨⟨t, l, hl⟩, rfl⟩ := h
    obtain ⟨oa, cap, h, _⟩ := RO.sl (g.obj n _ hl)
    rw [h]; rfl
  | ptr n off => obtain ⟨_, b, _, rfl⟩ := h; rfl
  | eptr n i off => obtain ⟨t, l, _, b, o, len, cap, _, rfl⟩ := h; rfl
  | ip t x off => obtain ⟨b, o, cs, fp, rfl, _⟩ := h; rfl
  | vw n p t l => obtain ⟨_, ⟨fp, ⟨oa, cap, rfl, _⟩, _⟩, _⟩ := h; rfl
  | vip n t x off => obtain ⟨_, b, o, cs, fp, rfl, _⟩ := h; rfl
theorem ibop_ok {op : BinOp} {k k' : IntKind} {x y : Int} {vc : List Prop} {v : Value} (h : ibop op k k' x y = some (vc, v)) (hv : ∀ q, q ∈ vc → q) {t : TypeId} {X Y : Operand} :
    (do eqGuard op t X Y (.int k x) (.int k' y); binOp op t (.int k x) (.int k' y) : Sem Value).run P w = .ok v w ∧ v.oneCell' = true := by
  have gen : (∀ (_ : ¬ (op = .shl ∨ op = .shr)), (match decEq k k' with | isTrue _ => bop op k x y | isFalse _ => none) = some (vc, v) → (do eqGuard op t X Y (.int k x) (.int k' y); binOp op t (.int k x) (.int k' y) : Sem Value).run P w = .ok v w ∧ v.oneCell' = true) := by
    intro _ h'
    clear h
    split at h'
    · rename_i hk _
      subst hk
      exact bop_ok h' hv
    · cases h'
  cases op with
  | shl =>
    simp only [ibop, Option.some.injEq, Prod.mk.injEq] at h
    obtain ⟨rfl, rfl⟩ := h
    have hy : ¬ y < 0 := by have : 0 ≤ y := hv _ (List.mem_singleton.2 rfl); omega
    refine ⟨?_, rfl⟩
    simp [eqGuard, binOp, Op.shift, hy]
  | shr =>
    simp only [ibop, Option.some.injEq, Prod.mk.injEq] at h
    obtain ⟨rfl, rfl⟩ := h
    have hy : ¬ y < 0 := by have : 0 ≤ y := hv _ (List.mem_singleton.2 rfl); omega
    refine ⟨?_, rfl⟩
    simp [eqGuard, binOp, Op.shift, hy]
  | _ => exact gen (by simp) h
theorem sbop_ok {op : BinOp} {x y : ByteArray} {vc : List Prop} {v : Value} (h : sbop op x y = some (vc, v)) (hv : ∀ q, q ∈ vc → q) {t : TypeId} {X Y : Operand} :
    (do eqGuard op t X Y (.string x) (.string y); binOp op t (.string x) (.string y) : Sem Value).run P w = .ok v w ∧ v.oneCell' = true := by
  cases op with
  | add =>
    simp only [sbop, Option.some.injEq, Prod.mk.injEq] at h
    obtain ⟨rfl, rfl⟩ := h
    have hy : ((x.size + y.size : Nat) : Int) ≤ IntKind.i64.max := hv _ (List.mem_singleton.2 rfl)
    refine ⟨?_, rfl⟩
    have hy' : ¬ ((x.size + y.size : Nat) : Int) > IntKind.i64.max := by omega
    simp only [eqGuard, binOp, Op.stringOp, if_neg hy']
    rfl
  | eql =>
    simp only [sbop, Option.some.injEq, Prod.mk.injEq] at h
    obtain ⟨rfl, rfl⟩ := h
    exact ⟨by simp [eqGuard, binOp, Op.stringOp], rfl⟩
  | neq =>
    simp only [sbop, Option.some.injEq, Prod.mk.injEq] at h
    obtain ⟨rfl, rfl⟩ := h
    exact ⟨by simp [eqGuard, binOp, Op.stringOp], rfl⟩
  | _ => simp [sbop] at h
theorem fnOf_ok {v : S1} {u : Value} {f : FuncId} (hr : RS1 w st.hp env v u) (h : fnOf v = some f) : u = .func (.func f) #[] #[] := by
  unfold fnOf at h
  split at h
  · simp only [Option.some.injEq] at h
    subst h
    exact hr.lit
  · cases h
theorem nums_str8 (l : List UInt8) : strOfNums (l.map fun n => (n.toNat : Int)) = str8 l := by
  unfold strOfNums str8
  congr 2
  rw [List.map_map]
  conv => rhs; rw [← List.map_id l]
  apply List.map_congr_left
  intro n _
  simp
theorem run_bytes_empty (ad : Addr) (cap : Nat) : (Conv.bytesToString (.slice (some ad) 0 cap)).run P w = .ok (.string (str8 [])) w := by
  have := run_bytesToString (P := P) w ad 0 cap [] (by simp [loadCells, loadCellsFrom])
  exact this
theorem run_slice {t : Nat} {x : Operand} {lo hi : Option Operand} (ho : o.op = .slice t x lo hi none) {g : Tag} {e : Nat} (hk : TKok P t (.sl g e)) {t' : Tag} {l : List (T t')} (hkk : kk g = kk t') {fp : List Nat} (hx : Sl (kk t') (rd t') w (a.eval x) l fp) {n1 n2 : Int}
    (h1 : (lo = none ∧ n1 = 0) ∨ ∃ y k, lo = some y ∧ a.eval y = .int k n1) (h2 : (hi = none ∧ n2 = l.length) ∨ ∃ y k, hi = some y ∧ a.eval y = .int k n2) (q0 : 0 ≤ n1) (q1 : n1 ≤ n2) (q2 : n2 ≤ (l.length : Int)) :
    ∃ u' fp', (execOp a.eval o).run P w = .ok (.value u') w ∧ Sl (kk t') (rd t') w u' ((l.take n2.toNat).drop n1.toNat) fp' ∧ ∀ c, c ∈ fp' → c ∈ fp := by
  obtain ⟨hu, hs⟩ := hk
  obtain ⟨oa, cap, hv, hc, hm, h3⟩ := hx
  cases hq : P.info? e with
  | none => simp [hq] at hs
  | some inf =>
    have hsz : inf.size = kk g := by simpa [hq] using hs
    have hcap : n2 ≤ (cap : Int) := by omega
    have hn2 : 0 ≤ n2 := by omega
    have hmx : max n2 0 = n2 := by omega
    have hlen : ((l.take n2.toNat).drop n1.toNat).length = n2.toNat - n1.toNat := by simp; omega
    have hrun : (Instr.sliceAt t (.slice oa l.length cap) (lo.map a.eval) (hi.map a.eval) none).run P w = .ok (.slice (if cap = n1.toNat then oa else oa.map (·.add (n1.toNat * kk g))) (n2.toNat - n1.toNat) (cap - n1.toNat)) w := by
      rcases h1 with ⟨rfl, rfl⟩ | ⟨y1, k1, rfl, e1⟩ <;> rcases h2 with ⟨rfl, rfl⟩ | ⟨y2, k2, rfl, e2⟩
      all_goals simp [Instr.sliceAt, Instr.slice, Instr.sliceBounds, Instr.sliceBound, asIntOf, run_underlying hu, sizeOf, typeInfo, hq, hsz, *]
    have hex : (execOp a.eval o).run P w = .ok (.value (.slice (if cap = n1.toNat then oa else oa.map (·.add (n1.toNat * kk g))) (n2.toNat - n1.toNat) (cap - n1.toNat))) w := by
      unfold execOp
      simp only [ho, hv, Option.map_none, Sem.run_bind, hrun, Result.andThen_ok, Sem.run_pure]
    rcases h3 with ⟨rfl, rfl, hn⟩ | ⟨b, off, fps, rfl, hb, rfl, hE⟩
    · have e0 : n1 = 0 := by simp at q2; omega
      have e2 : n2 = 0 := by simp at q2; omega
      subst e0; subst e2
      refine ⟨_, [], hex, ⟨_, _, rfl, by simp, by omega, Or.inl ⟨by simp, rfl, ?_⟩⟩, fun b hb => by simp at hb⟩
      intro hoa
      split at hoa
      · rw [hn hoa]; rfl
      · cases oa with
        | none => rw [hn rfl]; rfl
        | some _ => simp at hoa
    · by_cases hcn : cap = n1.toNat
      · have e0 : (l.take n2.toNat).drop n1.toNat = [] := by
          apply List.eq_nil_of_length_eq_zero; omega
        refine ⟨_, [], hex, ⟨_, _, by rw [hlen], by rw [hlen]; omega, by omega, Or.inl ⟨e0, rfl, ?_⟩⟩, fun b hb => by simp at hb⟩
        intro hoa; rw [if_pos hcn] at hoa; cases hoa
      · refine ⟨_, b :: ((fps.take n2.toNat).drop n1.toNat).flatten, hex, ⟨_, _, by rw [hlen], by rw [hlen]; omega, by omega, Or.inr ⟨b, off + n1.toNat * kk t', (fps.take n2.toNat).drop n1.toNat, ?_, hb, rfl, ?_, ?_⟩⟩, ?_⟩
        · rw [if_neg hcn, hkk]; simp [Addr.add_mid]
        · have := hE.1; simp [this]
        · intro i x f hx hf
          rw [List.getElem?_drop, List.getElem?_take] at hx hf
          split at hx
          · rename_i hlt
            rw [if_pos hlt] at hf
            obtain ⟨cs, k1, k2⟩ := hE.2 _ x f hx hf
            exact ⟨cs, by rw [Nat.add_assoc, ← Nat.add_mul]; exact k1, k2⟩
          · cases hx
        · intro c hc
          rcases List.mem_cons.1 hc with rfl | hc
          · simp
          · refine List.mem_cons_of_mem _ ?_
            obtain ⟨f, hf, hc⟩ := List.mem_flatten.1 hc
            exact List.mem_flatten.2 ⟨f, List.mem_of_mem_take (List.mem_of_mem_drop hf), hc⟩
/-! ### What is read through an object's own memory -/
theorem RIs.at {w : World} : ∀ {c : List V} {cs : List Value} {f : List Nat} {i : Nat} {v : V}, RIs w c cs f → elt c i = some v → ∃ u f', cs[i]? = some u ∧ RI w v u f' ∧ ∀ b, b ∈ f' → b ∈ f
  | x :: r, u :: us, _, 0, v, ⟨f1, f2, h1, _, rfl⟩, h => by
    simp only [elt, Option.some.injEq] at h
    subst h
    exact ⟨u, f1, rfl, h1, fun b hb => List.mem_append_left _ hb⟩
  | x :: r, u :: us, _, i + 1, v, ⟨f1, f2, _, h2, rfl⟩, h => by
    obtain ⟨u', f', k1, k2, k3⟩ := RIs.at h2 (show elt r i = some v from h)
    exact ⟨u', f', by simpa using k1, k2, fun b hb => List.mem_append_right _ (k3 b hb)⟩
  | [], _, _, _, _, _, h => by simp [elt] at h
  | _ :: _, [], _, _, _, h, _ => h.elim
/-- An element of an object. -/
theorem own_elem (g : Good ty zb st a.tmps w env) {n : Nat} {t : Tag} {l : List (T t)} (hl : look st.hp n = some (.arr t l)) {i : Nat} (hi : i < l.length) :
    ∃ b o cap cs f, (env n).v = .slice (some ⟨b, o, none⟩) l.length cap ∧ b ∈ (env n).fp ∧ w.rangeAt b (o + i * kk t) cs ∧ rd t w cs (l.getD i (dfl t)) f ∧ ∀ c, c ∈ f → c ∈ (env n).fp := by
  obtain ⟨oa, cap, hv, _, _, h3⟩ := RO.sl (g.obj n _ hl)
  rcases h3 with ⟨rfl, _⟩ | ⟨b, o, fps, rfl, hb, hfp, he⟩
  · simp at hi
  · have hx : l[i]? = some (l.getD i (dfl t)) := by rw [List.getD_eq_getElem?_getD, List.getElem?_eq_getElem hi]; rfl
    obtain ⟨f, hf⟩ := fps_some he.1 hx
    obtain ⟨cs, hr, hE⟩ := he.2 _ _ f hx hf
    exact ⟨b, o, cap, cs, f, hv, by rw [hfp]; simp, hr, hE, fun c hc => by rw [hfp]; exact List.mem_cons_of_mem _ (mem_fps hf hc)⟩
theorem bor_ok {hp : Hp} {n : Nat} {t0 : Tag} {l0 : List (T t0)} (hl : look hp n = some (.arr t0 l0)) {p : Option (Nat × Nat)} {v : V} {u : Value} {f : List Nat} (h : RI w v u f) (hf : ∀ b, b ∈ f → b ∈ (env n).fp)
    (hp' : ∀ i off, p = some (i, off) → ∃ b o len cap, i < l0.length ∧ elt (dec t0 (l0.getD i (dfl t0))) off = some v ∧ (env n).v = .slice (some ⟨b, o, none⟩) len cap ∧ b ∈ (env n).fp ∧ w.cell? ⟨b, o + i * kk t0 + off, none⟩ = some u) : RA w hp env (bor n p v) u := by
  cases v with
  | sl t l =>
    refine ⟨⟨t0, l0, hl⟩, ⟨f, h, hf⟩, fun i off hio => ?_⟩
    obtain ⟨b, o, len, cap, h1, h2, h3, h4, h5⟩ := hp' i off hio
    exact ⟨t0, l0, b, o, len, cap, hl, h1, h2, h3, h4, h5⟩
  | lit x => exact ⟨h.1, h.2.1⟩
  | _ => trivial
theorem bors_ok {hp : Hp} {n : Nat} {t0 : Tag} {l0 : List (T t0)} (hl : look hp n = some (.arr t0 l0)) {i : Nat} (hi : i < l0.length) {b o len cap : Nat} (hv : (env n).v = .slice (some ⟨b, o, none⟩) len cap) (hb : b ∈ (env n).fp) :
    ∀ {c : List V} {us : List Value} {f : List Nat} {k : Nat}, RIs w c us f → (∀ x, x ∈ f → x ∈ (env n).fp) → (∀ j v, c[j]? = some v → elt (dec t0 (l0.getD i (dfl t0))) (k + j) = some v) → w.rangeAt b (o + i * kk t0 + k) us → All2 (RA w hp env) (bors n i k c) us
  | [], [], _, _, _, _, _, _ => trivial
  | v :: r, u :: us, _, k, ⟨f1, f2, h1, h2, rfl⟩, hf, hc, hr => by
    refine ⟨bor_ok hl h1 (fun x hx => hf x (List.mem_append_left _ hx)) ?_, bors_ok hl hi hv hb h2 (fun x hx => hf x (List.mem_append_right _ hx)) ?_ ?_⟩
    · rintro i' off' hio
      simp only [Option.some.injEq, Prod.mk.injEq] at hio
      obtain ⟨rfl, rfl⟩ := hio
      exact ⟨b, o, len, cap, hi, hc 0 v rfl, hv, hb, by have := hr 0 u rfl; simpa using this⟩
    · intro j v' hj
      have := hc (j + 1) v' (by simpa using hj)
      rwa [show k + (j + 1) = k + 1 + j by omega] at this
    · intro j v' hj
      have := hr (j + 1) v' (by simpa using hj)
      rwa [show o + i * kk t0 + k + (j + 1) = o + i * kk t0 + (k + 1) + j by omega] at this
  | [], _ :: _, _, _, h, _, _, _ => h.elim
  | _ :: _, [], _, _, h, _, _, _ => h.elim
theorem borN_ok {hp : Hp} {n : Nat} {t0 : Tag} {l0 : List (T t0)} (hl : look hp n = some (.arr t0 l0)) :
    ∀ {c : List V} {us : List Value} {f : List Nat}, RIs w c us f → (∀ x, x ∈ f → x ∈ (env n).fp) → All2 (RA w hp env) (borN n c) us
  | [], [], _, _, _ => trivial
  | v :: r, u :: us, _, ⟨f1, f2, h1, h2, rfl⟩, hf =>
    ⟨bor_ok hl h1 (fun x hx => hf x (List.mem_append_left _ hx)) (by simp), borN_ok hl h2 (fun x hx => hf x (List.mem_append_right _ hx))⟩
  | [], _ :: _, _, h, _ => h.elim
  | _ :: _, [], _, h, _ => h.elim
theorem elt_get : ∀ {l : List V} {i : Nat}, elt l i = l[i]?
  | [], _ => by simp [elt]
  | _ :: _, 0 => rfl
  | _ :: r, i + 1 => by rw [elt, elt_get (l := r)]; simp
theorem RIs.sub {w : World} {c d : List V} {cs : List Value} {f : List Nat} {off k : Nat} (h : RIs w c cs f) (hs : sub c off k = some d) : ∃ f', RIs w d ((cs.drop off).take k) f' ∧ (∀ b, b ∈ f' → b ∈ f) ∧ d = (c.drop off).take k ∧ ((cs.drop off).take k).length = k := by
  have drop : ∀ (n : Nat) {c : List V} {cs : List Value} {f : List Nat}, RIs w c cs f → ∃ f', RIs w (c.drop n) (cs.drop n) f' ∧ ∀ b, b ∈ f' → b ∈ f := by
    intro n
    induction n with
    | zero => intro c cs f h; exact ⟨f, by simpa using h, fun _ hb => hb⟩
    | succ n ih =>
      intro c cs f h
      cases c with
      | nil => cases cs with
        | nil => exact ⟨f, by simpa using h, fun _ hb => hb⟩
        | cons _ _ => exact h.elim
      | cons v r => cases cs with
        | nil => exact h.elim
        | cons u us =>
          obtain ⟨f1, f2, _, h2, rfl⟩ := h
          obtain ⟨f', k1, k2⟩ := ih h2
          exact ⟨f', by simpa using k1, fun b hb => List.mem_append_right _ (k2 b hb)⟩
  have take : ∀ (n : Nat) {c : List V} {cs : List Value} {f : List Nat}, RIs w c cs f → ∃ f', RIs w (c.take n) (cs.take n) f' ∧ ∀ b, b ∈ f' → b ∈ f := by
    intro n
    induction n with
    | zero => intro c cs f h; exact ⟨[], by simp [RIs], fun _ hb => by simp at hb⟩
    | succ n ih =>
      intro c cs f h
      cases c with
      | nil => cases cs with
        | nil => exact ⟨f, by simpa using h, fun _ hb => hb⟩
        | cons _ _ => exact h.elim
      | cons v r => cases cs with
        | nil => exact h.elim
        | cons u us =>
          obtain ⟨f1, f2, h1, h2, rfl⟩ := h
          obtain ⟨f', k1, k2⟩ := ih h2
          refine ⟨f1 ++ f', ⟨f1, f', h1, k1, rfl⟩, fun b hb => ?_⟩
          rcases List.mem_append.1 hb with hb | hb
          · exact List.mem_append_left _ hb
          · exact List.mem_append_right _ (k2 b hb)
  unfold G.sub at hs
  split at hs
  · rename_i hb
    have hb := Nat.le_of_ble_eq_true hb
    simp only [Option.some.injEq] at hs
    obtain ⟨f1, h1, h2⟩ := drop off h
    obtain ⟨f2, h3, h4⟩ := take k h1
    refine ⟨f2, by rw [← hs]; exact h3, fun b hb => h2 b (h4 b hb), hs.symm, ?_⟩
    have := h.len
    rw [List.length_take, List.length_drop]; omega
  · cases hs
/-- A view's element. -/
theorem vw_elem {n : Nat} {p : Option (Nat × Nat)} {t : Tag} {l : List (T t)} {u : Value} {k : Int} (h : RA w st.hp env (.vw n p t l) u) (h0 : 0 ≤ k) (h1 : k < l.length) :
    ∃ b off len cap, u = .slice (some ⟨b, off, none⟩) len cap ∧ k < len ∧ RA w st.hp env (.vip n t (l.getD k.toNat (dfl t)) 0) (.pointer (some ⟨b, off + k.toNat * kk t, none⟩)) := by
  obtain ⟨hA, ⟨fp, ⟨oa, cap, rfl, hc, hm, h3⟩, hd⟩, _⟩ := h
  have hn : k.toNat < l.length := by omega
  rcases h3 with ⟨rfl, _⟩ | ⟨b, off, fps, rfl, hb, rfl, he⟩
  · simp at hn
  · have hx : l[k.toNat]? = some (l.getD k.toNat (dfl t)) := by rw [List.getD_eq_getElem?_getD, List.getElem?_eq_getElem hn]; rfl
    obtain ⟨f, hf⟩ := fps_some he.1 hx
    obtain ⟨cs, hr, hE⟩ := he.2 _ _ f hx hf
    exact ⟨b, off, l.length, cap, rfl, h1, hA, b, off + k.toNat * kk t, cs, f, rfl, hd b (by simp), hr, hE, fun c hc => hd c (List.mem_cons_of_mem _ (mem_fps hf hc))⟩
theorem wp_slice_str {t : Nat} {x : Operand} {lo hi : Option Operand} (ho : o.op = .slice t x lo hi none) (hu : P.underlying t = some .string) {s : ByteArray} (hv : a.eval x = .string s) {n1 n2 : Int}
    (h1 : (lo = none ∧ n1 = 0) ∨ ∃ y k, lo = some y ∧ a.eval y = .int k n1) (h2 : (hi = none ∧ n2 = s.size) ∨ ∃ y k, hi = some y ∧ a.eval y = .int k n2) (q0 : 0 ≤ n1) (q1 : n1 ≤ n2) (q2 : n2 ≤ (s.size : Int)) :
    o.wp P a w (Does ty st a w env o.dst (.one (.a (.lit (.string (s.extract n1.toNat n2.toNat))))) []) Q := by
  have hn2 : 0 ≤ n2 := by omega
  have hmx : max n2 0 = n2 := by omega
  have hrun : (Instr.sliceAt t (.string s) (lo.map a.eval) (hi.map a.eval) none).run P w = .ok (.string (s.extract n1.toNat n2.toNat)) w := by
    rcases h1 with ⟨rfl, rfl⟩ | ⟨y1, k1, rfl, e1⟩ <;> rcases h2 with ⟨rfl, rfl⟩ | ⟨y2, k2, rfl, e2⟩
    all_goals simp [Instr.sliceAt, Instr.slice, Instr.sliceBounds, Instr.sliceBound, asIntOf, run_underlying hu, *]
  refine wp_one (u := .string (s.extract n1.toNat n2.toNat)) ?_ ⟨rfl, rfl⟩
  unfold execOp
  simp only [ho, hv, Option.map_none, Sem.run_bind, hrun, Result.andThen_ok, Sem.run_pure]
/-- Bytes, read as a string. -/
theorem run_bytes (g : Good ty zb st a.tmps w env) {v : V} {u : Value} (hr : RS1 w st.hp env (.a v) u) {l : List UInt8} (hl : bytesOf st v = some l) {s e t : Nat} (hs : P.underlying s = some (.slice e)) (he : P.underlying e = some (.int .u8)) (ht : P.underlying t = some .string) :
    (convert s t u).run P w = .ok (.string (str8 l)) w := by
  have key : ∀ {b off len cap : Nat}, len = l.length → (∀ i x, l[i]? = some x → w.cell? ⟨b, off + i, none⟩ = some (.int .u8 x.toNat)) → (convert s t (.slice (some ⟨b, off, none⟩) len cap)).run P w = .ok (.string (str8 l)) w := by
    intro b off len cap hlen hc
    rw [run_convert_bytes_arg w s e hs he b off len cap (l.map fun n => (n.toNat : Int)) (by simp [hlen]) (fun i hi => ?_) t ht, nums_str8]
    have hi2 : i < l.length := by omega
    rw [hc i _ (List.getElem?_eq_getElem hi2), List.getD_eq_getElem?_getD, List.getElem?_map, List.getElem?_eq_getElem hi2]
    rfl
  have nil : ∀ {c : Nat}, (convert s t (.slice none 0 c)).run P w = .ok (.string (str8 [])) w := by
    intro c
    rw [run_convert_bytes_nil w s e hs he 0 c t ht]; rfl
  have sl : ∀ {fp : List Nat}, Sl 1 EU8 w u l fp → (convert s t u).run P w = .ok (.string (str8 l)) w := by
    rintro fp ⟨oa, cap, rfl, _, _, h3⟩
    rcases h3 with ⟨rfl, _, _⟩ | ⟨b, off, fps, rfl, _, _, hE⟩
    · cases oa with
      | none => exact nil
      | some ad =>
        rw [run_convert_bytes_string w s t e _ _ _ hs he ht]
        exact run_bytes_empty ad cap
    · refine key rfl fun i x hx => ?_
      obtain ⟨f, hf⟩ := fps_some hE.1 hx
      obtain ⟨cs, q1, rfl, _⟩ := hE.2 i x f hx hf
      have := q1 0 _ rfl
      simpa using this
  unfold bytesOf at hl
  split at hl
  · simp only [Option.some.injEq] at hl
    subst hl
    obtain ⟨fp, h, _⟩ := hr
    exact sl h
  · rename_i n
    split at hl
    · rename_i l' hlk
      simp only [Option.some.injEq] at hl
      subst hl
      obtain ⟨_, hu⟩ := hr
      have hb : Sl 1 EU8 w (env n).v l' (env n).fp := RO.sl (g.obj n _ hlk)
      rw [← show u = (env n).v from hu] at hb
      exact sl hb
    · cases hl
  · simp only [Option.some.injEq] at hl
    subst hl
    obtain ⟨_, ⟨fp, h, _⟩, _⟩ := hr
    exact sl h
  · simp only [Option.some.injEq] at hl
    subst hl
    have hu := (show RS1 w st.hp env (.a (.lit nilv)) u from hr).lit
    rw [hu]
    exact nil
  · cases hl
theorem bnd_ok {p : List (Nat × Bool)} (hop : ∀ {x v}, opv st p x = some v → RS1 w st.hp env v (a.eval x)) {z n : Int} {b : Option Operand} (h : bnd st p z b = some n) : (b = none ∧ n = z) ∨ ∃ x k, b = some x ∧ a.eval x = .int k n := by
  cases b with
  | none => simp only [bnd, Option.some.injEq] at h; exact Or.inl ⟨rfl, h.symm⟩
  | some x =>
    simp only [bnd] at h
    split at h
    · rename_i k i hx
      simp only [Option.some.injEq] at h
      subst h
      exact Or.inr ⟨x, k, rfl, (hop hx).lit⟩
    · cases h
/-- A new slice. -/
theorem wp_newarr {m : Nat} {t : Tag} {l : List (T t)} {w' : World} {u : Value} {fp : List Nat} (hr : (execOp a.eval o).run P w = .ok (.value u) w') (hb : Below w.heap.size w w') (hB : Bld (kk t) (rd t) w.heap.size (ty t) w' u l fp) :
    o.wp P a w (Does ty st a w env o.dst (.one (.a (.own m))) [(m, .arr t l)]) Q := by
  unfold Oper.wp
  rw [hr]
  obtain ⟨env', hN, hl⟩ := News.list (ty := ty) (hp := st.hp) (env := env) (os := [(m, .arr t l)]) (ce := [⟨u, fp⟩]) hb (by simp [nodupk, look]) ⟨⟨fun _ _ => RO.ofBld (Bld.mono hB (Nat.zero_le _)), (Bld.own hB).ge⟩, trivial⟩ (by simpa using (Bld.own hB).nodup)
  have h2 : env' m = ⟨u, fp⟩ := hl.1.2
  exact ⟨u, env', rfl, hN, ⟨t, l, look_eq⟩, by rw [h2]⟩
theorem qparts_ok (g : Good ty zb st a.tmps w env) {p : List (Nat × Bool)} (hp : holds a.tmps p) {t : Tag} : ∀ {ps : List (Nat × Operand)} {i : Nat} {vc : List Prop} {xs : List (T t)}, qparts st p t i ps = some (vc, xs) → (∀ q, q ∈ vc → q) →
    (ps.map fun p => (p.1, a.eval p.2)) = seqv i (ps.map fun p => a.eval p.2) ∧ xs.length = ps.length ∧ ∀ (i : Nat) (x : T t), xs[i]? = some x → ∃ p : Nat × Operand, ps[i]? = some p ∧ rd t w (a.eval p.2).cells.toList x []
  | [], i, vc, xs, h, _ => by
    simp only [qparts, Option.some.injEq, Prod.mk.injEq] at h
    obtain ⟨rfl, rfl⟩ := h
    exact ⟨rfl, rfl, by simp⟩
  | (j, x) :: r, i, vc, xs, h, hv => by
    simp only [qparts] at h
    split at h
    · rename_i s hij hx
      have hij := Nat.eq_of_beq_eq_true hij
      subst hij
      split at h
      · rename_i vc1 y vcs ys hpl he hb
        simp only [Option.some.injEq, Prod.mk.injEq] at h
        obtain ⟨rfl, rfl⟩ := h
        obtain ⟨q1, q2, q3⟩ := qparts_ok g hp hb (fun q hq => hv q (List.mem_append_right _ hq))
        have hc : ∃ us, (a.eval x).cells.toList = us ∧ RIs w (cellsOf s) us [] := by
          have hs := opv_ok g hp hx
          have key : ∀ {l : List V} {us : List Value}, plain l = true → All2 (RA w st.hp env) l us → RIs w l us [] := by
            intro l
            induction l with
            | nil => intro us _ h; cases us with
              | nil => rfl
              | cons _ _ => exact h.elim
            | cons v r ih =>
              intro us hpl h
              cases us with
              | nil => exact h.elim
              | cons u us =>
                unfold plain at hpl
                split at hpl
                · rename_i heq; cases heq
                · cases hpl
                · rename_i heq
                  simp only [List.cons.injEq] at heq
                  obtain ⟨rfl, rfl⟩ := heq
                  exact ⟨[], [], ⟨h.1.1, h.1.2, rfl⟩, ih hpl h.2, rfl⟩
                · cases hpl
          cases s with
          | agg l =>
            obtain ⟨cs, hu, hl⟩ := hs
            exact ⟨cs, by rw [hu]; rfl, key hpl hl⟩
          | a v =>
            have hne : v ≠ .any := by rintro rfl; cases hpl
            exact ⟨[a.eval x], by rw [one_cells g hs hne], key hpl ⟨hs, trivial⟩⟩
        obtain ⟨us, hus, hri⟩ := hc
        refine ⟨by simp [seqv, q1], by simp [q2], fun i' x' hx' => ?_⟩
        cases i' with
        | zero =>
          simp at hx'
          subst hx'
          exact ⟨(i, x), rfl, by rw [hus]; exact enc_ok t he (fun q hq => hv q (List.mem_append_left _ hq)) hri⟩
        | succ n =>
          obtain ⟨p, h1, h2⟩ := q3 n x' (by simpa using hx')
          exact ⟨p, by simpa using h1, h2⟩
      · cases h
    · cases h
theorem iopv_ok (g : Good ty zb st a.tmps w env) {p : List (Nat × Bool)} (hp : holds a.tmps p) {x : Operand} {k : IntKind} {i : Int} (h : iopv st p x = some (k, i)) : a.eval x = .int k i := by
  unfold iopv at h
  split at h
  · rename_i k' i' hx
    simp only [Option.some.injEq, Prod.mk.injEq] at h
    obtain ⟨rfl, rfl⟩ := h
    exact (opv_ok g hp hx).lit
  · cases h
theorem iopvs_ok (g : Good ty zb st a.tmps w env) {p : List (Nat × Bool)} (hp : holds a.tmps p) : ∀ {xs : List Operand} {ys : List (IntKind × Int)}, iopvs st p xs = some ys → xs.map a.eval = ys.map fun y => .int y.1 y.2
  | [], ys, h => by simp only [iopvs, Option.some.injEq] at h; subst h; rfl
  | x :: r, ys, h => by
    simp only [iopvs] at h
    split at h
    · rename_i y ys' h1 h2
      simp only [Option.some.injEq] at h
      subst h
      rw [List.map_cons, List.map_cons, iopvs_ok g hp h2, iopv_ok g hp h1]
    · cases h
theorem foldi_ok {F : Int → Int → Int} {f : Value → Value → Sem Value} (hf : ∀ (k : IntKind) (x y : Int), f (.int k x) (.int k y) = pure (.int k (F x y))) {k : IntKind} : ∀ {ys : List (IntKind × Int)} {x z : Int}, foldi F k x ys = some z → (List.foldlM f (.int k x) (ys.map fun y => .int y.1 y.2)).run P w = .ok (.int k z) w
  | [], x, z, h => by simp only [foldi, Option.some.injEq] at h; subst h; rfl
  | (k', y) :: r, x, z, h => by
    simp only [foldi] at h
    split at h
    · rename_i hk _
      subst hk
      rw [List.map_cons, List.foldlM_cons, hf]
      simp only [pure_bind]
      exact foldi_ok hf h
    · cases h
/-- A struct out of its parts. -/
theorem bfill_ok (g : Good ty zb st a.tmps w env) {p : List (Nat × Bool)} (hp : holds a.tmps p) {n : Nat} {fo : List Nat} {pl : Nat → Option (Nat × Nat)} (hpl : ∀ j o k, offs fo j = some o → fsz n fo j = some k → pl j = some (o, k)) :
    ∀ {ps : List (Nat × Operand)} {c c' : List V} {cs : List Value}, bfill st p n fo ps c = some c' → All2 (RA w st.hp env) c cs →
      ∃ cs', Instr.fill pl (Array.mk cs) (ps.map fun q => (q.1, a.eval q.2)) = some (Array.mk cs') ∧ All2 (RA w st.hp env) c' cs'
  | [], c, c', cs, h, hc => by
    simp only [bfill, Option.some.injEq] at h
    subst h
    exact ⟨cs, rfl, hc⟩
  | (j, x) :: r, c, c', cs, h, hc => by
    simp only [bfill] at h
    split at h
    · rename_i o' k s h1 h2 hx
      split at h
      · rename_i c1 hna hs
        simp only [Bool.and_eq_true] at hna
        have hk := Nat.eq_of_beq_eq_true hna.2
        have hrs := opv_ok g hp hx
        have hcs : ∃ us, (a.eval x).cells = Array.mk us ∧ All2 (RA w st.hp env) (cellsOf s) us := by
          cases s with
          | agg l => obtain ⟨us, hu, hl⟩ := hrs; exact ⟨us, by rw [hu]; rfl, hl⟩
          | a v =>
            have hne : v ≠ .any := by rintro rfl; simp [cellsOf, noany] at hna
            exact ⟨[a.eval x], one_cells g hrs hne, hrs, trivial⟩
        obtain ⟨us, hus, hul⟩ := hcs
        obtain ⟨q1, q2⟩ := spl_all hc hul hs
        obtain ⟨cs', h3, h4⟩ := bfill_ok g hp hpl h q2
        refine ⟨cs', ?_, h4⟩
        rw [List.map_cons, Instr.fill, hpl j o' k h1 h2]
        simp only [hus]
        have hl := hul.len
        rw [if_neg (by simp; omega)]
        have hfold : ((Array.mk us).zipIdx.foldl (fun cs (x : Value × Nat) => cs.setIfInBounds (o' + x.2) x.1) (Array.mk cs)) = splice (Array.mk cs) o' us := by
          rw [← Array.foldl_toList, Array.toList_zipIdx, foldl_splice, Nat.add_zero]
        show Instr.fill _ ((Array.mk us).zipIdx.foldl (fun cs (x : Value × Nat) => cs.setIfInBounds (o' + x.2) x.1) (Array.mk cs)) _ = _
        rw [hfold, splice_list us cs o' q1]
        exact h3
      · cases h
    · cases h
theorem quiet_ok {Γ : Nat → TK} (C : ∀ t, TKok P t (Γ t)) {cr : List (Nat × CR)} {p : List (Nat × Bool)} {d m : Nat} {out : Out} (h : quiet Γ (Elt P ty) (Sound ty P) cr st p d m o.op = some out)
    (g : Good ty zb st a.tmps w env) (hp : holds a.tmps p) (hv : ∀ q, q ∈ out.vc → q) (hf : fresh st.hp out.o = true) (hn : nodupk out.o = true) :
    o.wp P a w (Does ty st a w env o.dst out.v out.o) Q := by
  have hop : ∀ {q x v}, holds a.tmps q → opv st q x = some v → RS1 w st.hp env v (a.eval x) := fun hq hx => opv_ok g hq hx
  generalize hoo : o.op = op at h
  cases op with
  | move x =>
    simp only [quiet] at h
    split at h
    · rename_i v hx
      simp only [out1, Option.some.injEq] at h
      subst h
      exact wp_one (by unfold execOp; simp only [hoo, Sem.run_pure]) (hop hp hx)
    · cases h
  | assign x =>
    simp only [quiet] at h
    split at h
    · rename_i v hx
      simp only [out1, Option.some.injEq] at h
      subst h
      exact wp_one (by unfold execOp; simp only [hoo, Sem.run_pure]) (hop hp hx)
    · cases h
  | pick c x y =>
    cases c with
    | tmp c =>
      simp only [quiet] at h
      split at h
      · rename_i t u v h1 h2 h3
        simp only [out1, Option.some.injEq] at h
        subst h
        have hc := (hop hp h1).lit
        have hc' : a.tmps[c]? = some (.bool t) := getD_undef hc
        refine wp_one (u := .bool (if t then u else v)) ?_ ⟨rfl, rfl⟩
        unfold execOp
        cases t with
        | true =>
          have hx := (hop (q := (c, true) :: p) (by intro e he; rcases List.mem_cons.1 he with rfl | he; exact hc'; exact hp e he) h2).lit
          simp [hoo, hc, hx, asBool]
        | false =>
          have hx := (hop (q := (c, false) :: p) (by intro e he; rcases List.mem_cons.1 he with rfl | he; exact hc'; exact hp e he) h3).lit
          simp [hoo, hc, hx, asBool]
      · cases h
    | _ => simp [quiet] at h
  | box e x =>
    simp only [quiet] at h
    split at h
    · rename_i l hx
      simp only [Option.some.injEq] at h
      subst h
      obtain ⟨cs, hu, hl⟩ := hop hp hx
      exact wp_newbox (cs := cs) (e := e) (by unfold execOp; simp [hoo, Instr.box, newVar, newRow, hu, Value.cells]) g hf hl
    · cases h
    · rename_i v hne hx
      simp only [Option.some.injEq] at h
      subst h
      have hr := hop hp hx
      have hc := one_cells g (show RA w st.hp env v (a.eval x) from hr) (fun e => hne e)
      exact wp_newbox (cs := [a.eval x]) (e := e) (by unfold execOp; simp [hoo, Instr.box, newVar, newRow, hc]) g hf ⟨hr, trivial⟩
    · cases h
  | alloc t =>
    simp only [quiet] at h
    split at h
    · rename_i z tg fo hk
      simp only [Option.some.injEq] at h
      subst h
      have hC := C t
      rw [hk] at hC
      obtain ⟨fs, hu, hi, h1, _⟩ := hC
      refine wp_newbox (cs := z) (e := t) ?_ g hf (zeros_ok h1)
      unfold execOp
      cases hq : P.info? t with
      | none => simp [hq] at hi
      | some i =>
        simp [hq] at hi
        simp [hoo, Instr.alloc, zeroValue, typeInfo, hq, hi.2, newVar, newRow, Value.cells]
    · cases h
  | load t x =>
    simp only [quiet] at h
    split at h
    · rename_i n off hx
      obtain ⟨_, b, hb, hu⟩ := hop hp hx
      split at h
      · rename_i c hl
        obtain ⟨b', cs, e, hco, hh, hc⟩ := g.obj n _ hl
        have hbb : b = b' := by
          rw [hco] at hb
          simpa using hb.symm
        subst hbb
        have hra : w.rangeAt b 0 cs := by simpa using rangeB hh
        split at h
        · rename_i z tg fo hk
          split at h
          · rename_i l hs
            simp only [out1, Option.some.injEq] at h
            subst h
            have hC := C t
            rw [hk] at hC
            obtain ⟨k1, k2⟩ := sub_ok hc hs
            exact wp_load_row hoo hC hu (by have := rangeAt_sub (k := z.length) (j := off) hra; rwa [Nat.zero_add] at this) k2 k1
          · cases h
        · cases h
        · rename_i k1 k2
          split at h
          · rename_i v hs
            simp only [out1, Option.some.injEq] at h
            subst h
            obtain ⟨u, q1, q2⟩ := hc.at (elt_eq hs)
            refine wp_load_one hoo (C t) ?_ ?_ hu (by have := rangeAt_elt hra q1; rwa [Nat.zero_add] at this) q2
            · intro z tg fo hz; exact k1 z tg fo hz
            · exact k2
          · cases h
      · cases h
    · rename_i gt y off hx
      obtain ⟨b, o', cs, fp, hu, _, hra, hE, _, hd⟩ := hop hp hx
      have hc := ip_cells hE hd
      split at h
      · rename_i z tg fo hk
        split at h
        · rename_i l hs
          simp only [out1, Option.some.injEq] at h
          subst h
          have hC := C t
          rw [hk] at hC
          obtain ⟨k1, k2⟩ := sub_ok hc hs
          exact wp_load_row hoo hC hu (rangeAt_sub hra) k2 k1
        · cases h
      · cases h
      · rename_i k1 k2
        split at h
        · rename_i v hs
          simp only [out1, Option.some.injEq] at h
          subst h
          obtain ⟨u, q1, q2⟩ := hc.at (elt_eq hs)
          refine wp_load_one hoo (C t) ?_ ?_ hu (rangeAt_elt hra q1) q2
          · intro z tg fo hz; exact k1 z tg fo hz
          · exact k2
        · cases h
    · rename_i n gt y off hx
      obtain ⟨⟨tA, lA, hl⟩, b, o', cs, fp, hu, hb, hra, hE, hd⟩ := hop hp hx
      have hR := reads gt hE
      split at h
      · rename_i z tg fo hk
        split at h
        · rename_i l hs
          simp only [out1, Option.some.injEq] at h
          subst h
          have hC := C t
          rw [hk] at hC
          obtain ⟨f', r1, r2, r3, r4⟩ := RIs.sub hR hs
          exact wp_load_row hoo hC hu (rangeAt_sub hra) r4 (borN_ok hl r1 (fun x hx => hd x (r2 x hx)))
        · cases h
      · cases h
      · rename_i k1 k2
        split at h
        · rename_i v hs
          simp only [out1, Option.some.injEq] at h
          subst h
          obtain ⟨u, f', q1, q2, q3⟩ := RIs.at hR hs
          refine wp_load_one hoo (C t) ?_ ?_ hu (rangeAt_elt hra q1) (bor_ok hl q2 (fun x hx => hd x (q3 x hx)) (by simp))
          · intro z tg fo hz; exact k1 z tg fo hz
          · exact k2
        · cases h
    · rename_i n i off hx
      obtain ⟨tA, lA, hlA, b, o', len, cap, hv1, hu⟩ := hop hp hx
      split at h
      · rename_i gt l hl
        rw [hl] at hlA
        simp only [Option.some.injEq, Obj.arr.injEq] at hlA
        obtain ⟨rfl, _⟩ := hlA
        split at h
        · rename_i z tg fo hk
          split at h
          · rename_i c hs
            simp only [Option.some.injEq] at h
            subst h
            have hi : i < l.length := hv _ (List.mem_singleton.2 rfl)
            obtain ⟨b2, o2, cap2, cs, f, hv2, hb, hra, hE, hd⟩ := own_elem g hl hi
            rw [hv2] at hv1
            simp only [Value.slice.injEq, Option.some.injEq, Addr.mk.injEq, and_true] at hv1
            obtain ⟨⟨rfl, rfl⟩, rfl, rfl⟩ := hv1
            have hC := C t
            rw [hk] at hC
            obtain ⟨f', r1, r2, r3, r4⟩ := RIs.sub (reads gt hE) hs
            refine wp_load_row hoo hC hu (rangeAt_sub hra) r4 (bors_ok hl hi hv2 hb r1 (fun x hx => hd x (r2 x hx)) (fun j v hj => ?_) (rangeAt_sub hra))
            rw [r3, List.getElem?_take] at hj
            split at hj
            · rw [List.getElem?_drop] at hj; rw [elt_get]; exact hj
            · cases hj
          · cases h
        · cases h
        · rename_i k1 k2
          split at h
          · rename_i v hs
            simp only [Option.some.injEq] at h
            subst h
            have hi : i < l.length := hv _ (List.mem_singleton.2 rfl)
            obtain ⟨b2, o2, cap2, cs, f, hv2, hb, hra, hE, hd⟩ := own_elem g hl hi
            rw [hv2] at hv1
            simp only [Value.slice.injEq, Option.some.injEq, Addr.mk.injEq, and_true] at hv1
            obtain ⟨⟨rfl, rfl⟩, rfl, rfl⟩ := hv1
            obtain ⟨u, f', q1, q2, q3⟩ := RIs.at (reads gt hE) hs
            refine wp_load_one hoo (C t) ?_ ?_ hu (rangeAt_elt hra q1) (bor_ok hl q2 (fun x hx => hd x (q3 x hx)) ?_)
            · intro z tg fo hz; exact k1 z tg fo hz
            · exact k2
            · rintro i' off' hio
              simp only [Option.some.injEq, Prod.mk.injEq] at hio
              obtain ⟨rfl, rfl⟩ := hio
              exact ⟨b2, o2, _, cap2, hi, hs, hv2, hb, rangeAt_elt hra q1⟩
          · cases h
      · cases h
    · cases h
  | binOp op t x y t' =>
    simp only [quiet] at h
    split at h
    · rename_i k m k' m' h1 h2
      split at h
      · rename_i vc v hb
        simp only [Option.some.injEq] at h
        subst h
        have hx := (hop hp h1).lit
        have hy := (hop hp h2).lit
        obtain ⟨q1, q2⟩ := ibop_ok (P := P) (w := w) hb hv (t := t) (X := x) (Y := y)
        refine wp_one (u := v) ?_ ⟨rfl, q2⟩
        unfold execOp
        simp only [hoo, hx, hy]
        rw [Sem.run_bind, q1]
        rfl
      · cases h
    · rename_i m m' h1 h2
      split at h
      · rename_i vc v hb
        simp only [Option.some.injEq] at h
        subst h
        have hx := (hop hp h1).lit
        have hy := (hop hp h2).lit
        obtain ⟨q1, q2⟩ := sbop_ok (P := P) (w := w) hb hv (t := t) (X := x) (Y := y)
        refine wp_one (u := v) ?_ ⟨rfl, q2⟩
        unfold execOp
        simp only [hoo, hx, hy]
        rw [Sem.run_bind, q1]
        rfl
      · cases h
    · cases h
  | unOp op t x =>
    cases op with
    | not =>
      simp only [quiet] at h
      split at h
      · rename_i b hx
        simp only [out1, Option.some.injEq] at h
        subst h
        have hx := (hop hp hx).lit
        refine wp_one (u := .bool (!b)) ?_ ⟨rfl, rfl⟩
        unfold execOp
        simp [hoo, hx, Op.unary]
      · cases h
    | _ => simp [quiet] at h
  | convert s t x =>
    simp only [quiet] at h
    split at h
    · rename_i k n k1 k2 hx hk1 hk2
      simp only [out1, Option.some.injEq] at h
      subst h
      have hx := (hop hp hx).lit
      have c1 := C s
      have c2 := C t
      rw [hk1] at c1
      rw [hk2] at c2
      refine wp_one (u := .int k2 (k2.wrap n)) ?_ ⟨rfl, rfl⟩
      unfold execOp
      simp [hoo, hx, convert, run_underlying (show P.underlying s = _ from c1), run_underlying (show P.underlying t = _ from c2), Conv.intToInt]
    · rename_i v g' e hx hk1 hk2
      split at h
      · rename_i l hk3 hl
        simp only [out1, Option.some.injEq] at h
        subst h
        have c1 := C s
        have c2 := C t
        have c3 := C e
        rw [hk1] at c1
        rw [hk2] at c2
        rw [hk3] at c3
        have := run_bytes g (hop hp hx) hl c1.1 c3 c2
        refine wp_one (u := .string (str8 l)) ?_ ⟨rfl, rfl⟩
        unfold execOp
        simp only [hoo, Sem.run_bind, this, Result.andThen_ok, Sem.run_pure]
      · cases h
    · cases h
  | slice t x lo hi mx =>
    cases mx with
    | some _ => simp [quiet] at h
    | none =>
      simp only [quiet] at h
      split at h
      · rename_i gt e hk
        have hC := C t
        rw [hk] at hC
        split at h
        · rename_i t' l n1 hx h1
          split at h
          · rename_i n2 h2
            split at h
            · rename_i hkk
              have hkk := Nat.eq_of_beq_eq_true hkk
              simp only [Option.some.injEq] at h
              subst h
              obtain ⟨q0, q1, q2⟩ := hv _ (List.mem_singleton.2 rfl)
              obtain ⟨fp, hs, hd⟩ := hop hp hx
              obtain ⟨u', fp', r1, r2, r3⟩ := run_slice hoo hC hkk hs (bnd_ok (hop hp) h1) (bnd_ok (hop hp) h2) q0 q1 q2
              exact wp_one r1 ⟨fp', r2, fun b hb => hd b (r3 b hb)⟩
            · cases h
          · cases h
        · rename_i n p' t' l n1 hx h1
          split at h
          · rename_i n2 h2
            split at h
            · rename_i hkk
              have hkk := Nat.eq_of_beq_eq_true hkk
              simp only [Option.some.injEq] at h
              subst h
              obtain ⟨q0, q1, q2⟩ := hv _ (List.mem_singleton.2 rfl)
              obtain ⟨hA, ⟨fp, hs, hd⟩, _⟩ := hop hp hx
              obtain ⟨u', fp', r1, r2, r3⟩ := run_slice hoo hC hkk hs (bnd_ok (hop hp) h1) (bnd_ok (hop hp) h2) q0 q1 q2
              exact wp_one r1 ⟨hA, ⟨fp', r2, fun b hb => hd b (r3 b hb)⟩, by simp⟩
            · cases h
          · cases h
        · rename_i n n1 hx h1
          split at h
          · rename_i t' l hl
            split at h
            · rename_i n2 h2
              split at h
              · rename_i hkk
                have hkk := Nat.eq_of_beq_eq_true hkk
                simp only [Option.some.injEq] at h
                subst h
                obtain ⟨q0, q1, q2⟩ := hv _ (List.mem_singleton.2 rfl)
                obtain ⟨hA, hu⟩ := hop hp hx
                have hs := RO.sl (g.obj n _ hl)
                rw [← show a.eval x = (env n).v from hu] at hs
                obtain ⟨u', fp', r1, r2, r3⟩ := run_slice hoo hC hkk hs (bnd_ok (hop hp) h1) (bnd_ok (hop hp) h2) q0 q1 q2
                exact wp_one r1 ⟨hA, ⟨fp', r2, r3⟩, by simp⟩
              · cases h
            · cases h
          · cases h
        · cases h
      · rename_i hk
        have hC := C t
        rw [hk] at hC
        split at h
        · rename_i s n1 hx h1
          split at h
          · rename_i n2 h2
            simp only [Option.some.injEq] at h
            subst h
            obtain ⟨q0, q1, q2⟩ := hv _ (List.mem_singleton.2 rfl)
            exact wp_slice_str hoo hC (hop hp hx).lit (bnd_ok (hop hp) h1) (bnd_ok (hop hp) h2) q0 q1 q2
          · cases h
        · cases h
      · cases h
  | fieldAddr t x f =>
    simp only [quiet] at h
    split at h
    · rename_i z tg fo hk
      have hC := C t
      rw [hk] at hC
      split at h
      · rename_i k hf'
        split at h
        · rename_i n off hx
          simp only [out1, Option.some.injEq] at h
          subst h
          obtain ⟨hc, b, hb, hu⟩ := hop hp hx
          exact wp_fieldAddr hoo hC hf' hu ⟨hc, b, hb, rfl⟩
        · rename_i gt y off hx
          simp only [out1, Option.some.injEq] at h
          subst h
          obtain ⟨b, o', cs, fp, hu, k1⟩ := hop hp hx
          exact wp_fieldAddr hoo hC hf' hu ⟨b, o', cs, fp, by rw [Nat.add_assoc], k1⟩
        · rename_i n i off hx
          simp only [out1, Option.some.injEq] at h
          subst h
          obtain ⟨t', l, hl, b, o', len, cap, hb, hu⟩ := hop hp hx
          exact wp_fieldAddr hoo hC hf' hu ⟨t', l, hl, b, o', len, cap, hb, by rw [Nat.add_assoc]⟩
        · rename_i n gt y off hx
          simp only [out1, Option.some.injEq] at h
          subst h
          obtain ⟨hA, b, o', cs, fp, hu, k1⟩ := hop hp hx
          exact wp_fieldAddr hoo hC hf' hu ⟨hA, b, o', cs, fp, by rw [Nat.add_assoc], k1⟩
        · cases h
      · cases h
    · cases h
  | indexAddr t x i =>
    simp only [quiet] at h
    split at h
    · rename_i gt e hk
      have hC := C t
      rw [hk] at hC
      split at h
      · rename_i t' l ik n hx hi
        split at h
        · rename_i hkk
          have hkk := Nat.eq_of_beq_eq_true hkk
          simp only [Option.some.injEq] at h
          subst h
          obtain ⟨h0, h1⟩ := hv _ (List.mem_singleton.2 rfl)
          have hx := hop hp hx
          have hi := (hop hp hi).lit
          obtain ⟨b, off, len, cap, hu, hlt, hr⟩ := sl_elem hx h0 h1
          exact wp_indexAddr hoo hC hu hi h0 hlt (by rw [hkk]; exact hr)
        · cases h
      · rename_i m ik n hx hi
        split at h
        · rename_i t' l hl
          split at h
          · rename_i hkk
            have hkk := Nat.eq_of_beq_eq_true hkk
            simp only [Option.some.injEq] at h
            subst h
            obtain ⟨h0, h1⟩ := hv _ (List.mem_singleton.2 rfl)
            obtain ⟨_, hu⟩ := hop hp hx
            have hi := (hop hp hi).lit
            obtain ⟨b, o', cap, cs, f, hs, _⟩ := own_elem g hl (i := n.toNat) (by omega)
            exact wp_indexAddr hoo hC (hu.trans hs) hi h0 h1 ⟨t', l, hl, b, o', _, cap, hs, by rw [hkk]; simp⟩
          · cases h
        · cases h
      · rename_i m p' t' l ik n hx hi
        split at h
        · rename_i hkk
          have hkk := Nat.eq_of_beq_eq_true hkk
          simp only [Option.some.injEq] at h
          subst h
          obtain ⟨h0, h1⟩ := hv _ (List.mem_singleton.2 rfl)
          have hx := hop hp hx
          have hi := (hop hp hi).lit
          obtain ⟨b, off, len, cap, hu, hlt, hr⟩ := vw_elem hx h0 h1
          exact wp_indexAddr hoo hC hu hi h0 hlt (by rw [hkk]; exact hr)
        · cases h
      · cases h
    · cases h
  | makeSlice t x y =>
    simp only [quiet] at h
    split at h
    · rename_i gt e hk
      have hC := C t
      rw [hk] at hC
      split at h
      · rename_i k1 n1 k2 n2 hx hy
        simp only [Option.some.injEq] at h
        subst h
        have hE : Elt P ty gt e := hv _ (by simp)
        have hab : n1 = n2 := hv _ (by simp)
        have h0 : 0 ≤ n1 := hv _ (by simp)
        obtain ⟨h1, h2⟩ : n1.toNat * byt gt ≤ 140737488355328 ∧ n1.toNat ≤ maxLen := hv _ (by simp)
        subst hab
        obtain ⟨rfl, hEl⟩ := hE
        obtain ⟨w', u, fp, r1, r2, r3⟩ := run_made (P := P) (w := w) (a := a) hoo hC.1 hEl (hop hp hx).lit (hop hp hy).lit h0 h1 h2
        exact wp_newarr r1 r2 r3
      · cases h
    · cases h
  | buildSlice t len parts =>
    simp only [quiet] at h
    split at h
    · rename_i gt e hk
      have hC := C t
      rw [hk] at hC
      split at h
      · rename_i vc xs hlen hbig hb
        simp only [Option.some.injEq] at h
        subst h
        have hE : Elt P ty gt e := hv _ (by simp)
        obtain ⟨rfl, hEl⟩ := hE
        obtain ⟨q1, q2, q3⟩ := qparts_ok g hp hb (fun q hq => hv q (by simp [hq]))
        have hfl : (List.replicate xs.length ([] : List Nat)).flatten = [] := by simp
        obtain ⟨w', r1, r2, r3⟩ := run_built (P := P) (w := w) (a := a) hoo hC.1 hEl (Nat.le_of_ble_eq_true hbig) (Nat.eq_of_beq_eq_true hlen) (Nat.le_refl _) (xs := xs) (fps := List.replicate xs.length []) q1 q2 (by simp)
          (fun i x f hx hf => by
            obtain ⟨p, h1, h2⟩ := q3 i x hx
            rw [List.getElem?_replicate] at hf
            split at hf
            · simp only [Option.some.injEq] at hf; subst hf; exact ⟨p, h1, h2⟩
            · cases hf) (by rw [hfl]; exact Own.nil _ _)
        exact wp_newarr r1 r2 r3
      · cases h
    · cases h
  | build t parts =>
    simp only [quiet] at h
    split at h
    · rename_i z tg fo hk
      have hC := C t
      rw [hk] at hC
      obtain ⟨fs, hu, hi, h1, _, places, hpm, hpl⟩ := hC
      split at h
      · rename_i c hb
        simp only [out1, Option.some.injEq] at h
        subst h
        cases hq : P.info? t with
        | none => simp [hq] at hi
        | some inf =>
          simp [hq] at hi
          obtain ⟨cs', h3, h4⟩ := bfill_ok (st := st) (zb := zb) g hp (pl := fun j => places[j]?) hpl hb (zeros_ok h1)
          refine wp_one (u := .agg (Array.mk cs')) ?_ ⟨cs', rfl, h4⟩
          have hrun := run_build (P := P) w t (parts.map fun (q : Nat × Operand) => (q.1, a.eval q.2)) (Array.mk cs') (by
            unfold Program.built
            rw [hq, hu]
            simp only [hi.2, hpm]
            rw [Array.toList_map]
            simpa [Value.cells] using h3)
          unfold execOp
          simp only [hoo, Sem.run_bind, hrun, Result.andThen_ok, Sem.run_pure]
      · cases h
    · cases h
  | nilCheck x =>
    simp only [quiet] at h
    split at h
    · rename_i n off hx
      simp only [out1, Option.some.injEq] at h
      subst h
      obtain ⟨hA, b, hb, hu⟩ := hop hp hx
      refine wp_one (u := a.eval x) ?_ ⟨hA, b, hb, hu⟩
      unfold execOp
      simp [hoo, hu]
    · rename_i n i off hx
      simp only [out1, Option.some.injEq] at h
      subst h
      obtain ⟨t, l, hl, b, o', len, cap, hb, hu⟩ := hop hp hx
      refine wp_one (u := a.eval x) ?_ ⟨t, l, hl, b, o', len, cap, hb, hu⟩
      unfold execOp
      simp [hoo, hu]
    · cases h
  | extract x i =>
    cases x with
    | tmp t =>
      simp only [quiet] at h
      split at h
      · rename_i l hl
        split at h
        · rename_i x hx
          simp only [out1, Option.some.injEq] at h
          subst h
          obtain ⟨us, hu, hl2⟩ := g.slot t _ hl
          obtain ⟨u, k1, k2⟩ := hl2.at hx
          refine wp_one ?_ k2
          unfold execOp
          have hu' : a.eval (.tmp t) = .tuple us.toArray := hu
          simp [hoo, hu', Instr.extract, k1]
        · cases h
      · cases h
    | _ => simp [quiet] at h
  | call c =>
    obtain ⟨callee, xs, ts⟩ := c
    cases callee with
    | value x =>
      cases x with
      | func f =>
        simp only [quiet] at h
        split at h
        · rename_i as c h1 h2
          simp only [Option.some.injEq] at h
          obtain ⟨own, rs⟩ := c
          have hvc : out.vc = [Sound ty P f as rs] := by
            rw [← h]
            unfold outs
            dsimp only
            split <;> (split <;> rfl)
          exact wp_call hoo rfl (hv _ (by rw [hvc]; simp)) g (args_ok g hp h1) h hn
        · cases h
      | tmp x =>
        simp only [quiet] at h
        split at h
        · rename_i v hx
          split at h
          · rename_i f hfn
            split at h
            · rename_i as c h1 h2
              simp only [Option.some.injEq] at h
              obtain ⟨own, rs⟩ := c
              have hvc : out.vc = [Sound ty P f as rs] := by
                rw [← h]
                unfold outs
                dsimp only
                split <;> (split <;> rfl)
              exact wp_call hoo (fnOf_ok (hop hp hx) hfn) (hv _ (by rw [hvc]; simp)) g (args_ok g hp h1) h hn
            · cases h
          · cases h
        · cases h
      | _ => simp [quiet] at h
    | builtin b =>
      cases b with
      | max =>
        simp only [quiet] at h
        split at h
        · rename_i k x r hxs
          split at h
          · rename_i y hy
            simp only [out1, Option.some.injEq] at h
            subst h
            have he := iopvs_ok g hp hxs
            refine wp_one (u := .int k y) ?_ ⟨rfl, rfl⟩
            have hf := foldi_ok (P := P) (w := w) (f := Builtin.max2) (F := maxi) (fun k x y => rfl) hy
            unfold execOp
            simp [hoo, resolve, invoke, builtin, Builtin.max_, he, hf]
          · cases h
        · cases h
      | min =>
        simp only [quiet] at h
        split at h
        · rename_i k x r hxs
          split at h
          · rename_i y hy
            simp only [out1, Option.some.injEq] at h
            subst h
            have he := iopvs_ok g hp hxs
            refine wp_one (u := .int k y) ?_ ⟨rfl, rfl⟩
            have hf := foldi_ok (P := P) (w := w) (f := Builtin.min2) (F := mini) (fun k x y => rfl) hy
            unfold execOp
            simp [hoo, resolve, invoke, builtin, Builtin.min_, he, hf]
          · cases h
        · cases h
      | len =>
        simp only [quiet] at h
        split at h
        · rename_i x t hxl htl
          obtain rfl : xs = #[x] := by cases xs; simp_all
          obtain rfl : ts = #[t] := by cases ts; simp_all
          split at h
          · rename_i v hx
            split at h
            · rename_i n hn'
              simp only [out1, Option.some.injEq] at h
              subst h
              have hr := hop hp hx
              have hC := C t
              cases v with
              | sl t' l =>
                simp only [lenOf] at hn'
                split at hn'
                · rename_i g' e' hk
                  simp only [Option.some.injEq] at hn'
                  subst hn'
                  rw [hk] at hC
                  obtain ⟨fp, ⟨oa, cap, hu, _⟩, _⟩ := hr
                  exact wp_len rfl hoo hC.1 hu (Or.inl ⟨_, oa, cap, l.length, rfl, rfl, rfl⟩)
                · cases hn'
              | own m =>
                simp only [lenOf] at hn'
                split at hn'
                · rename_i g' e' hk
                  rw [hk] at hC
                  split at hn'
                  · rename_i t' l hl
                    simp only [Option.some.injEq] at hn'
                    subst hn'
                    obtain ⟨_, hu⟩ := hr
                    obtain ⟨oa, cap, hs, _⟩ := RO.sl (g.obj m _ hl)
                    exact wp_len rfl hoo hC.1 (hu.trans hs) (Or.inl ⟨_, oa, cap, l.length, rfl, rfl, rfl⟩)
                  · cases hn'
                · cases hn'
              | vw m p' t' l =>
                simp only [lenOf] at hn'
                split at hn'
                · rename_i g' e' hk
                  simp only [Option.some.injEq] at hn'
                  subst hn'
                  rw [hk] at hC
                  obtain ⟨_, ⟨fp, ⟨oa, cap, hu, _⟩, _⟩, _⟩ := hr
                  exact wp_len rfl hoo hC.1 hu (Or.inl ⟨_, oa, cap, l.length, rfl, rfl, rfl⟩)
                · cases hn'
              | lit v =>
                have hu := (show RS1 w st.hp env (.a (.lit v)) _ from hr).lit
                simp only [lenOf] at hn'
                split at hn'
                · rename_i heq; cases heq
                · rename_i heq; cases heq
                · rename_i heq; cases heq
                · rename_i heq
                  simp only [V.lit.injEq] at heq
                  subst heq
                  split at hn'
                  · rename_i g' e' hk
                    simp only [Option.some.injEq] at hn'
                    subst hn'
                    rw [hk] at hC
                    exact wp_len rfl hoo hC.1 hu (Or.inl ⟨_, none, 0, 0, rfl, rfl, rfl⟩)
                  · cases hn'
                · rename_i s heq
                  simp only [V.lit.injEq] at heq
                  subst heq
                  split at hn'
                  · rename_i hk
                    simp only [Option.some.injEq] at hn'
                    subst hn'
                    rw [hk] at hC
                    exact wp_len rfl hoo hC hu (Or.inr ⟨_, rfl, rfl, rfl⟩)
                  · cases hn'
                · cases hn'
              | _ => simp [lenOf] at hn'
            · cases h
          · cases h
        · cases h
      | _ => simp [quiet] at h
    | invoke _ _ => simp [quiet] at h
  | _ => simp [quiet] at h
end
end Go.Proofs.Ythlflnplnajjiaa.G
