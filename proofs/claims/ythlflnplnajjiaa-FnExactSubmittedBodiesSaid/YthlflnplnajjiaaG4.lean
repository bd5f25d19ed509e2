/-
  Operations that turn nothing, each by itself.
-/
import Derived.Test.YthlflnplnajjiaaG3
namespace Go.Proofs.Ythlflnplnajjiaa.G
set_option linter.all false
open Go.RowKit L D
variable {ty : Tag → Nat}
/-- What a quiet operation comes to. -/
def Does (ty : Tag → Nat) (st : St) (a : Act) (w : World) (env : Env) (dst : Option Tmp) (v : SV) (os : Hp) : Act → World → Prop := fun a' w' =>
  ∃ u env', a' = a.put dst u ∧ News (ty := ty) w w' st.hp os env env' ∧ RSV w' (os ++ st.hp) env' a.tmps v u
section
variable {P : Program} {zb : Base} {st : St} {a : Act} {w : World} {env : Env} {Q : Exit → Act → World → Prop} {o : Oper}
theorem wp_value {v : SV} {u : Value} (hr : (execOp a.eval o).run P w = .ok (.value u) w) (hv : RSV w st.hp env a.tmps v u) : o.wp P a w (Does ty st a w env o.dst v []) Q := by
  unfold Oper.wp
  rw [hr]
  exact ⟨u, env, rfl, News.none (Below.refl _ _), hv⟩
theorem wp_one {x : S1} {u : Value} (hr : (execOp a.eval o).run P w = .ok (.value u) w) (hv : RS1 w st.hp env x u) : o.wp P a w (Does ty st a w env o.dst (.one x) []) Q := wp_value hr hv
theorem wp_newbox {n : Nat} {cs : List Value} {c : List V} {e : TypeId} (hr : (execOp a.eval o).run P w = .ok (.value (.pointer (some ⟨w.heap.size, 0, none⟩))) (w.alloc (.cells (Array.mk cs) e (0, 0))))
    (g : Good ty zb st a.tmps w env) (hf : fresh st.hp [(n, .box c)] = true) (hc : All2 (RA w st.hp env) c cs) :
    o.wp P a w (Does ty st a w env o.dst (.one (.a (.ptr n 0))) [(n, .box c)]) Q := by
  unfold Oper.wp
  rw [hr]
  have hlk : look st.hp n = none := fresh_spec hf n (.box c) (by simp [look])
  have hn : News (ty := ty) w (w.alloc (.cells (Array.mk cs) e (0, 0))) st.hp [(n, .box c)] env (fun m => if m = n then ⟨.pointer (some ⟨w.heap.size, 0, none⟩), [w.heap.size]⟩ else env m) := by
    have hbl : Below w.heap.size w (w.alloc (.cells (Array.mk cs) e (0, 0))) := (Below.refl _ _).alloc (Nat.le_refl _) _
    have hne : ∀ m, look [(n, Obj.box c)] m = none → m ≠ n := by
      rintro m hm rfl
      simp [look] at hm
    have s : Step (fun _ => True) (fun _ => True) w st.hp env (w.alloc (.cells (Array.mk cs) e (0, 0))) ([(n, .box c)] ++ st.hp) (fun m => if m = n then ⟨.pointer (some ⟨w.heap.size, 0, none⟩), [w.heap.size]⟩ else env m) := by
      refine ⟨fun b hb _ => hbl.block b hb, ?_, ?_, ?_⟩
      · rintro b hb ⟨m, o', h1, h2⟩
        by_cases hm : m = n
        · simp [hm] at h2; omega
        · simp [hm] at h2
          refine ⟨m, o', ?_, h2⟩
          rw [look_app_none] at h1
          · exact h1
          · simp only [look]
            split
            · rename_i hb2; exact absurd (Nat.eq_of_beq_eq_true hb2) hm
            · rfl
      · intro m o' _ h1
        have hm : m ≠ n := by rintro rfl; rw [hlk] at h1; cases h1
        refine ⟨o', ?_, by cases o' <;> simp [Obj.like], by simp [hm]⟩
        rw [look_app_none]
        · exact h1
        · simp only [look]
          split
          · rename_i hb2; exact absurd (Nat.eq_of_beq_eq_true hb2) hm
          · rfl
      · intro m t l _ h1
        have hm : m ≠ n := by rintro rfl; rw [hlk] at h1; cases h1
        refine ⟨?_, by simp [hm], fun b hb => hbl.block b ((g.obj m _ h1).blk b hb)⟩
        rw [look_app_none]
        · exact h1
        · simp only [look]
          split
          · rename_i hb2; exact absurd (Nat.eq_of_beq_eq_true hb2) hm
          · rfl
    refine ⟨hbl, fun m hm => by simp [hne m hm], ?_, ?_⟩
    · intro m o' hl
      have hm : m = n := by
        simp only [look] at hl
        split at hl
        · rename_i hb2; exact Nat.eq_of_beq_eq_true hb2
        · cases hl
      subst hm
      simp only [look, Nat.beq_refl, Option.some.injEq] at hl
      subst hl
      refine ⟨⟨w.heap.size, cs, e, by simp, alloc_top rfl, hc.mono fun v u _ h => RA.step s v.hangs_all h⟩, ?_⟩
      intro b hb
      simp at hb
      omega
    · intro m m' o1 o2 hne' h1 h2
      have e1 : m = n := by
        simp only [look] at h1
        split at h1
        · rename_i hb2; exact Nat.eq_of_beq_eq_true hb2
        · cases h1
      have e2 : m' = n := by
        simp only [look] at h2
        split at h2
        · rename_i hb2; exact Nat.eq_of_beq_eq_true hb2
        · cases h2
      exact absurd (e1.trans e2.symm) hne'
  exact ⟨_, _, rfl, hn, ⟨c, by simp [look]⟩, w.heap.size, by simp, rfl⟩

theorem notrow {t : Nat} {k : TK} (h : TKok P t k) (h1 : ∀ z tg fo, k ≠ .st z tg fo) (h2 : k ≠ .other) : ∃ d, P.underlying t = some d ∧ d.isRow = false := by
  cases k with
  | int k => exact ⟨_, h, rfl⟩
  | bool => exact ⟨_, h, rfl⟩
  | str => exact ⟨_, h, rfl⟩
  | sl g e => exact ⟨_, h.1, rfl⟩
  | st z tg fo => exact absurd rfl (h1 z tg fo)
  | other => exact absurd rfl h2
theorem run_loadVar_one {t : Nat} {d : TypeDesc} {ad : Addr} {u : Value} (hu : P.underlying t = some d) (hd : d.isRow = false) (hc : w.cell? ad = some u) : (loadVar t ad).run P w = .ok u w := by
  have hagg : (isAgg t).run P w = .ok false w := by
    unfold isAgg
    rw [Sem.run_bind, run_underlying hu w]
    cases d <;> simp_all
  simp [loadVar, hagg, hc]
theorem wp_load_one {t : Nat} {k : TK} {x : Operand} (ho : o.op = .load t x) (hk : TKok P t k) (h1 : ∀ z tg fo, k ≠ .st z tg fo) (h2 : k ≠ .other) {ad : Addr} (hx : a.eval x = .pointer (some ad)) {u : Value} (hc : w.cell? ad = some u) {v : V} (hv : RA w st.hp env v u) :
    o.wp P a w (Does ty st a w env o.dst (.one (.a v)) []) Q := by
  obtain ⟨d, hu, hd⟩ := notrow hk h1 h2
  refine wp_one ?_ hv
  unfold execOp
  simp only [ho, hx, Instr.loadAt, Instr.sureAddr, Sem.run_bind, Sem.run_pure, Result.andThen_ok, run_loadVar_one hu hd hc]
theorem wp_load_row {t : Nat} {x : Operand} {z : List Value} {tg : List (Option Tag)} {fo : List Nat} (ho : o.op = .load t x) (hk : TKok P t (.st z tg fo)) {b off : Nat} (hx : a.eval x = .pointer (some ⟨b, off, none⟩)) {cs : List Value} (hc : w.rangeAt b off cs)
    (hl : cs.length = z.length) {l : List V} (hv : All2 (RA w st.hp env) l cs) : o.wp P a w (Does ty st a w env o.dst (.one (.agg l)) []) Q := by
  obtain ⟨fs, hu, hi, _⟩ := hk
  refine wp_one (u := .agg cs.toArray) ?_ ⟨cs, rfl, hv⟩
  unfold execOp
  have hi' : (P.info? t).map (·.size) = some cs.length := by
    rw [hl]
    cases hq : P.info? t with
    | none => simp [hq] at hi
    | some i => simp [hq] at hi; simp [hi.1]
  simp only [ho, hx, Instr.loadAt, Instr.sureAddr, Sem.run_bind, Sem.run_pure, Result.andThen_ok, run_loadVar_mid w b off t cs _ hc hu rfl hi']
theorem rangeAt_sub {b off k j : Nat} {cs : List Value} (h : w.rangeAt b off cs) : w.rangeAt b (off + j) ((cs.drop j).take k) := by
  intro i v hv
  rw [List.getElem?_take] at hv
  split at hv
  · rw [List.getElem?_drop] at hv
    rw [Nat.add_assoc]; exact h _ _ hv
  · cases hv
theorem rangeAt_elt {b off j : Nat} {cs : List Value} {u : Value} (h : w.rangeAt b off cs) (hu : cs[j]? = some u) : w.cell? ⟨b, off + j, none⟩ = some u := h j u hu

theorem bop_ok {op : BinOp} {k : IntKind} {x y : Int} {vc : List Prop} {v : Value} (h : bop op k x y = some (vc, v)) (hv : ∀ q, q ∈ vc → q) {t : TypeId} {X Y : Operand} :
    (do eqGuard op t X Y (.int k x) (.int k y); binOp op t (.int k x) (.int k y) : Sem Value).run P w = .ok v w ∧ v.oneCell' = true := by
  cases op <;> simp only [bop, Option.some.injEq, Prod.mk.injEq, reduceCtorEq] at h <;> obtain ⟨rfl, rfl⟩ := h <;>
    first
    | (refine ⟨?_, rfl⟩; simp [eqGuard, binOp, Op.intArith, Op.intCmp]; done)
    | (refine ⟨?_, rfl⟩; simp only [eqGuard, binOp, ne_eq, not_true_eq_false, ite_false, Op.intBits]; rfl)
    | (have hy : y ≠ 0 := hv _ (by simp)
       refine ⟨?_, rfl⟩; simp [eqGuard, binOp, Op.intDiv, hy])
theorem run_fieldAt {t : Nat} {z : List Value} {tg : List (Option Tag)} {fo : List Nat} (hk : TKok P t (.st z tg fo)) {f k : Nat} (hf : offs fo f = some k) (b off : Nat) :
    (Instr.fieldAt t (.pointer (some ⟨b, off, none⟩)) f).run P w = .ok (.pointer (some ⟨b, off + k, none⟩)) w := by
  obtain ⟨fs, hu, _, _, hfo, _⟩ := hk
  obtain ⟨fd, h1, h2, i, h3, h4⟩ := hfo f k hf
  simp [Instr.fieldAt, run_underlying hu, h1, Instr.sureAddr, fieldPlace, sizeOf, typeInfo, h3, h4, h2, Addr.add_mid]
theorem wp_fieldAddr {t : Nat} {x : Operand} {z : List Value} {tg : List (Option Tag)} {fo : List Nat} {f k : Nat} (ho : o.op = .fieldAddr t x f) (hk : TKok P t (.st z tg fo)) (hf : offs fo f = some k) {b off : Nat} (hx : a.eval x = .pointer (some ⟨b, off, none⟩)) {v : V}
    (hv : RA w st.hp env v (.pointer (some ⟨b, off + k, none⟩))) : o.wp P a w (Does ty st a w env o.dst (.one (.a v)) []) Q := by
  refine wp_one ?_ hv
  unfold execOp
  simp only [ho, hx, Sem.run_bind, run_fieldAt hk hf b off, Result.andThen_ok, Sem.run_pure]
theorem run_indexAt {t : Nat} {g : Tag} {e : Nat} (hk : TKok P t (.sl g e)) {b off len cap : Nat} {ik : IntKind} {i : Int} (h0 : 0 ≤ i) (h1 : i < len) :
    (Instr.indexAt t (.slice (some ⟨b, off, none⟩) len cap) (.int ik i)).run P w = .ok (.pointer (some ⟨b, off + i.toNat * kk g, none⟩)) w := by
  obtain ⟨hu, hs⟩ := hk
  cases hq : P.info? e with
  | none => simp [hq] at hs
  | some inf =>
    have hsz : inf.size = kk g := by simpa [hq] using hs
    simp [Instr.indexAt, asIntOf, run_underlying hu, h0, h1, sizeOf, typeInfo, hq, hsz, Addr.add_mid]
theorem wp_indexAddr {t : Nat} {x i : Operand} {g : Tag} {e : Nat} (ho : o.op = .indexAddr t x i) (hk : TKok P t (.sl g e)) {b off len cap : Nat} {ik : IntKind} {n : Int} (hx : a.eval x = .slice (some ⟨b, off, none⟩) len cap) (hi : a.eval i = .int ik n) (h0 : 0 ≤ n) (h1 : n < len) {v : V}
    (hv : RA w st.hp env v (.pointer (some ⟨b, off + n.toNat * kk g, none⟩))) : o.wp P a w (Does ty st a w env o.dst (.one (.a v)) []) Q := by
  refine wp_one ?_ hv
  unfold execOp
  simp only [ho, hx, hi, Sem.run_bind, run_indexAt hk h0 h1, Result.andThen_ok, Sem.run_pure]
/-- An immutable slice's element. -/
theorem sl_elem {t : Tag} {l : List (T t)} {u : Value} {n : Int} (h : RA w st.hp env (.sl t l) u) (h0 : 0 ≤ n) (h1 : n < l.length) :
    ∃ b off len cap, u = .slice (some ⟨b, off, none⟩) len cap ∧ n < len ∧ RA w st.hp env (.ip t (l.getD n.toNat (dfl t)) 0) (.pointer (some ⟨b, off + n.toNat * kk t, none⟩)) := by
  obtain ⟨fp, ⟨oa, cap, rfl, hc, hm, h3⟩, hd⟩ := h
  have hn : n.toNat < l.length := by omega
  rcases h3 with ⟨rfl, _⟩ | ⟨b, off, fps, rfl, hb, rfl, he⟩
  · simp at hn
  · have hx : l[n.toNat]? = some (l.getD n.toNat (dfl t)) := by rw [List.getD_eq_getElem?_getD, List.getElem?_eq_getElem hn]; rfl
    obtain ⟨f, hf⟩ := fps_some he.1 hx
    obtain ⟨cs, hr, hE⟩ := he.2 _ _ f hx hf
    exact ⟨b, off, l.length, cap, rfl, h1, b, off + n.toNat * kk t, cs, f, rfl, hb, hr, hE, hd b (by simp), fun c hc => hd c (List.mem_cons_of_mem _ (mem_fps hf hc))⟩
theorem bld_slice {α : Type} {k : Nat} {E : ER α} {lo e : Nat} {u : Value} {l : List α} {fp : List Nat} (h : Bld k E lo e w u l fp) : (u = nilv ∧ l = []) ∨ ∃ b cap, u = .slice (some ⟨b, 0, none⟩) l.length cap := by
  obtain ⟨xs, fps, hown, _⟩ := h
  rcases hown.2 with ⟨rfl, h0⟩ | ⟨g, cap, cur, rfl, _⟩
  · exact Or.inl ⟨rfl, List.eq_nil_of_length_eq_zero h0⟩
  · exact Or.inr ⟨g, cap, rfl⟩
theorem wp_len {t : Nat} {x : Operand} {ts : Array TypeId} (ht : ts = #[t]) (ho : o.op = .call ⟨.builtin .len, #[x], ts⟩) {d : TypeDesc} (hu : P.underlying t = some d) {u : Value} (hx : a.eval x = u) {n : Int}
    (hn : (∃ e oa c m, d = .slice e ∧ u = .slice oa m c ∧ n = (m : Int)) ∨ (∃ s : ByteArray, d = .string ∧ u = .string s ∧ n = (s.size : Int))) :
    o.wp P a w (Does ty st a w env o.dst (.one (.a (.lit (.int .i64 n)))) []) Q := by
  refine wp_one (u := .int .i64 n) ?_ ⟨rfl, rfl⟩
  subst ht
  unfold execOp
  rcases hn with ⟨e, oa, c, m, rfl, rfl, rfl⟩ | ⟨s, rfl, rfl, rfl⟩
  · simp [ho, resolve, invoke, builtin, Builtin.len_, hx, run_underlying hu, goInt]
  · simp [ho, resolve, invoke, builtin, Builtin.len_, hx, run_underlying hu, goInt]
end
end Go.Proofs.Ythlflnplnajjiaa.G
