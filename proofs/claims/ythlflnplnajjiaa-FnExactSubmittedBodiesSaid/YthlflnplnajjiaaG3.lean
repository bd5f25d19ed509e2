/-
  Operations that turn nothing: what the symbolic machine says of them is so in the model.
-/
import Derived.Test.YthlflnplnajjiaaG2
import Derived.ChangeKeysEq
import Derived.Laws.Tables
namespace Go.Proofs.Ythlflnplnajjiaa.G
set_option linter.all false
open Go.RowKit L D
/-- What a kind says of a type. -/
def TKok (P : Program) (t : Nat) : TK → Prop
  | .int k => P.underlying t = some (.int k)
  | .bool => P.underlying t = some .bool
  | .str => P.underlying t = some .string
  | .sl g e => P.underlying t = some (.slice e) ∧ (P.info? e).map (·.size) = some (kk g)
  | .st z _ fo => ∃ fs, P.underlying t = some (.struct fs) ∧ (P.info? t).map (fun i => (i.size, i.zero)) = some (z.length, some (.agg z.toArray)) ∧ (∀ v, v ∈ z → v.oneCell' = true) ∧
      (∀ f k, offs fo f = some k → ∃ fd, fs[f]? = some fd ∧ fd.offset = k ∧ ∃ i, P.info? fd.type = some i ∧ i.size ≠ 0) ∧
      ∃ places, fs.toList.mapM (fun f => (P.info? f.type).map fun i => (f.offset, i.size)) = some places ∧ ∀ j o k, offs fo j = some o → fsz z.length fo j = some k → places[j]? = some (o, k)
  | .other => True
/-- A struct's fields lie so: their places, their sizes. -/
def nextOff (n : Nat) : List Nat → Nat
  | [] => n
  | k :: _ => k
def fieldsok (P : Program) (n : Nat) : List Field → List Nat → Bool
  | [], [] => true
  | fd :: r, k :: s => Nat.beq fd.offset k && (match P.info? fd.type with | some i => !(Nat.beq i.size 0) && Nat.beq i.size (nextOff n s - k) | none => false) && fieldsok P n r s
  | _, _ => false
theorem fieldsok_ok {P : Program} {n : Nat} : ∀ {fs : List Field} {fo : List Nat}, fieldsok P n fs fo = true → (∀ f k, offs fo f = some k → ∃ fd, fs[f]? = some fd ∧ fd.offset = k ∧ ∃ i, P.info? fd.type = some i ∧ i.size ≠ 0) ∧
    ∃ places, fs.mapM (fun f => (P.info? f.type).map fun i => (f.offset, i.size)) = some places ∧ ∀ j o k, offs fo j = some o → fsz n fo j = some k → places[j]? = some (o, k)
  | [], [], _ => ⟨fun f k h => by simp [offs] at h, [], rfl, fun j o k h => by simp [offs] at h⟩
  | fd :: r, k' :: s, hh => by
    simp only [fieldsok, Bool.and_eq_true] at hh
    obtain ⟨⟨h1, h2⟩, h3⟩ := hh
    obtain ⟨q1, places, q2, q3⟩ := fieldsok_ok h3
    cases hq : P.info? fd.type with
    | none => simp [hq] at h2
    | some i =>
      simp only [hq, Bool.and_eq_true] at h2
      have h4 := Nat.eq_of_beq_eq_true h2.2
      have h5 := Nat.eq_of_beq_eq_true h1
      refine ⟨fun f k h => ?_, (fd.offset, i.size) :: places, ?_, fun j o k hj hk => ?_⟩
      · cases f with
        | zero =>
          simp only [offs, Option.some.injEq] at h
          subst h
          refine ⟨fd, rfl, h5, i, hq, fun e => ?_⟩
          have := h2.1
          simp [e] at this
        | succ f =>
          obtain ⟨x, k1, k2⟩ := q1 f k (by simpa [offs] using h)
          exact ⟨x, by simpa using k1, k2⟩
      · simp [List.mapM_cons, hq, q2]
      · cases j with
        | zero =>
          simp only [offs, Option.some.injEq] at hj
          subst hj
          have hk' : fsz n (k' :: s) 0 = some (nextOff n s - k') := by
            cases s with
            | nil => simp [fsz, offs, nextOff]
            | cons b s => simp [fsz, offs, nextOff]
          rw [hk'] at hk
          simp only [Option.some.injEq] at hk
          simp [h5, h4, hk]
        | succ j =>
          have := q3 j o k (by simpa [offs] using hj) (by simpa [fsz, offs] using hk)
          simpa using this
variable (ty : Tag → Nat)
/-- What the program says of an element's type. -/
def El (P : Program) (ty : Tag → Nat) (t : Tag) : Prop := (P.info? (ty t)).map (fun i => (i.zero, i.size, i.bytes)) = some (some (zval t), kk t, byt t)
def Elt (P : Program) (ty : Tag → Nat) (t : Tag) (e : Nat) : Prop := e = ty t ∧ El P ty t
/-- A result's cell over memory of the call's own. -/
def RB (w : World) (lo : Nat) : V → Value → List Nat → Prop
  | .lit v, u, fp => u = v ∧ v.oneCell' = true ∧ fp = []
  | .sl t l, u, fp => Bld (kk t) (rd t) lo (ty t) w u l fp
  | _, _, _ => False
def RBs (w : World) (lo : Nat) : List V → List Value → List Nat → Prop
  | [], [], fp => fp = []
  | V :: Vs, u :: us, fp => ∃ f g, RB ty w lo V u f ∧ RBs w lo Vs us g ∧ fp = f ++ g
  | _, _, _ => False
def RB1 (w : World) (lo : Nat) : S1 → Value → List Nat → Prop
  | .a v, u, fp => RBs ty w lo [v] [u] fp
  | .agg l, u, fp => ∃ cs, u = .agg cs.toArray ∧ RBs ty w lo l cs fp
def RBl (w : World) (lo : Nat) : List S1 → List Value → List Nat → Prop
  | [], [], fp => fp = []
  | V :: Vs, u :: us, fp => ∃ f g, RB1 ty w lo V u f ∧ RBl w lo Vs us g ∧ fp = f ++ g
  | _, _, _ => False
def Results (w : World) (lo : Nat) (rs : List S1) (u : Value) (fp : List Nat) : Prop :=
  match rs with
  | [r] => RB1 ty w lo r u fp
  | rs => ∃ us, u = .tuple us.toArray ∧ RBl ty w lo rs us fp
/-- A call gave those results, in memory of its own; what was there is as it was. -/
def Ret (w : World) (rs : List S1) (e : Ending) (w' : World) : Prop :=
  ∃ u fp, e = .returned u ∧ Below w.heap.size w w' ∧ Own w.heap.size w' fp ∧ Results ty w' w.heap.size rs u fp
/-- Arguments as they are handed over. -/
def Arg1 (w : World) : S1 → Value → Prop
  | .a v, u => ∃ fp, RI w v u fp
  | .agg l, u => ∃ cs fp, u = .agg cs.toArray ∧ RIs w l cs fp
/-- Whoever calls f with arguments that read so gets results that read so. -/
def Sound (P : Program) (f : FuncId) (as rs : List S1) : Prop :=
  (∀ (args : Array Value) (w : World), (callFunc f args).run P w = .ok (.enter f args) w) ∧
  ∀ w us, All2 (Arg1 w) as us → Calls P f us.toArray w (Ret ty w rs)

variable {ty}
theorem getD_undef {tmps : Array Value} {s : Nat} {b : Bool} (h : tmps.getD s undef = .bool b) : tmps[s]? = some (.bool b) := by
  rw [Array.getD_eq_getD_getElem?] at h
  cases hq : tmps[s]? with
  | none => rw [hq] at h; simp [undef] at h
  | some v => rw [hq] at h; simp at h; rw [h]
theorem holds_sub {tmps : Array Value} {q p : List (Nat × Bool)} (h : subp q p = true) (hp : holds tmps p) : holds tmps q := by
  intro e he
  simp only [subp, List.all_eq_true, List.any_eq_true, Bool.and_eq_true] at h
  obtain ⟨f, hf, h1, h2⟩ := h e he
  have h1 := Nat.eq_of_beq_eq_true h1
  have h2 := eq_of_beq h2
  have := hp f hf
  rw [h1, h2]; exact this
theorem opv_ok {zb : Base} {st : St} {a : Act} {w : World} {env : Env} (g : Good ty zb st a.tmps w env) {p : List (Nat × Bool)} (hp : holds a.tmps p) {x : Operand} {v : S1} (h : opv st p x = some v) : RS1 w st.hp env v (a.eval x) := by
  cases x with
  | tmp t =>
    simp only [opv] at h
    split at h
    · rename_i y hy
      simp only [Option.some.injEq] at h
      subst h
      exact g.slot t _ hy
    · rename_i q y hy
      split at h
      · rename_i hs
        simp only [Option.some.injEq] at h
        subst h
        exact (g.slot t _ hy).1 (holds_sub hs hp)
      · cases h
    · cases h
  | const u =>
    simp only [opv] at h
    split at h
    · rename_i hs
      simp only [Option.some.injEq] at h
      subst h
      exact ⟨rfl, hs⟩
    · cases h
  | func f =>
    simp only [opv, Option.some.injEq] at h
    subst h
    exact ⟨rfl, rfl⟩
  | global q => cases h
theorem RA.lit {w : World} {hp : Hp} {env : Env} {v u : Value} (h : RA w hp env (.lit v) u) : u = v := h.1
theorem RS1.lit {w : World} {hp : Hp} {env : Env} {v u : Value} (h : RS1 w hp env (.a (.lit v)) u) : u = v := h.1

/-- What is immutable, handed over. -/
theorem imm_ok {zb : Base} {st : St} {tmps : Array Value} {w : World} {env : Env} (g : Good ty zb st tmps w env) {tg : Option Tag} {v x : V} {u : Value} (hr : RA w st.hp env v u) (h : imm st tg v = some x) : ∃ fp, RI w x u fp := by
  cases v with
  | sl t l => simp only [imm, Option.some.injEq] at h; subst h; obtain ⟨fp, h1, _⟩ := hr; exact ⟨fp, h1⟩
  | vw n p t l => simp only [imm, Option.some.injEq] at h; subst h; obtain ⟨_, ⟨fp, h1, _⟩, _⟩ := hr; exact ⟨fp, h1⟩
  | own n =>
    simp only [imm] at h
    split at h
    · rename_i t l hl
      simp only [Option.some.injEq] at h
      subst h
      obtain ⟨_, hu⟩ := hr
      subst hu
      have := g.obj n _ hl
      exact ⟨_, RO.sl this⟩
    · cases h
  | lit v =>
    obtain ⟨rfl, h1⟩ := hr
    simp only [imm] at h
    split at h
    · rename_i heq; cases heq
    · rename_i heq; cases heq
    · rename_i heq; cases heq
    · rename_i heq
      simp only [V.lit.injEq] at heq
      subst heq
      split at h
      · simp only [Option.some.injEq] at h
        subst h
        exact ⟨[], none, 0, rfl, Nat.le_refl _, Nat.zero_le _, Or.inl ⟨rfl, rfl, fun _ => rfl⟩⟩
      · cases h
    · cases h
    · rename_i heq
      simp only [V.lit.injEq] at heq
      subst heq
      simp only [Option.some.injEq] at h
      subst h
      exact ⟨[], rfl, h1, rfl⟩
    · cases h
  | _ => simp [imm] at h
theorem imms_ok {zb : Base} {st : St} {tmps : Array Value} {w : World} {env : Env} (g : Good ty zb st tmps w env) : ∀ {vs : List V} {tg : List (Option Tag)} {xs : List V} {us : List Value}, All2 (RA w st.hp env) vs us → imms st tg vs = some xs → ∃ fp, RIs w xs us fp
  | [], _, xs, us, hr, h => by
    simp only [imms, Option.some.injEq] at h
    subst h
    cases us with
    | nil => exact ⟨[], rfl⟩
    | cons _ _ => exact hr.elim
  | v :: r, tg, xs, us, hr, h => by
    simp only [imms] at h
    split at h
    · rename_i x y h1 h2
      simp only [Option.some.injEq] at h
      subst h
      cases us with
      | nil => exact hr.elim
      | cons u us =>
        obtain ⟨f, hf⟩ := imm_ok g hr.1 h1
        obtain ⟨q, hq⟩ := imms_ok g hr.2 h2
        exact ⟨f ++ q, f, q, hf, hq, rfl⟩
    · cases h
theorem arg1_ok {zb : Base} {st : St} {tmps : Array Value} {w : World} {env : Env} (g : Good ty zb st tmps w env) {k : TK} {v x : S1} {u : Value} (hr : RS1 w st.hp env v u) (h : arg1 st k v = some x) : Arg1 w x u := by
  cases v with
  | a v =>
    simp only [arg1] at h
    split at h
    · rename_i y hy
      simp only [Option.some.injEq] at h
      subst h
      exact imm_ok g hr hy
    · cases h
  | agg l =>
    simp only [arg1] at h
    split at h
    · rename_i y hy
      simp only [Option.some.injEq] at h
      subst h
      obtain ⟨cs, rfl, hl⟩ := hr
      obtain ⟨fp, hfp⟩ := imms_ok g hl hy
      exact ⟨cs, fp, rfl, hfp⟩
    · cases h
theorem args_ok {Γ : Nat → TK} {zb : Base} {st : St} {a : Act} {w : World} {env : Env} (g : Good ty zb st a.tmps w env) {p : List (Nat × Bool)} (hp : holds a.tmps p) : ∀ {xs : List Operand} {ts : List Nat} {as : List S1}, args Γ st p xs ts = some as → All2 (Arg1 w) as (xs.map a.eval)
  | [], _, as, h => by
    simp only [args, Option.some.injEq] at h
    subst h; trivial
  | x :: r, ts, as, h => by
    simp only [args] at h
    split at h
    · rename_i v hv
      split at h
      · rename_i y ys h1 h2
        simp only [Option.some.injEq] at h
        subst h
        exact ⟨arg1_ok g (opv_ok g hp hv) h1, args_ok g hp h2⟩
      · cases h
    · cases h

theorem sub_ok {R : V → Value → Prop} {c l : List V} {off k : Nat} {cs : List Value} (h : All2 R c cs) (hs : sub c off k = some l) : All2 R l ((cs.drop off).take k) ∧ ((cs.drop off).take k).length = k := by
  simp only [sub] at hs
  split at hs
  · rename_i hb
    have hb := Nat.le_of_ble_eq_true hb
    simp only [Option.some.injEq] at hs
    subst hs
    refine ⟨(h.drop off).take k, ?_⟩
    have := h.len
    rw [List.length_take, List.length_drop]; omega
  · cases hs
theorem elt_eq : ∀ {c : List V} {i : Nat} {v : V}, elt c i = some v → c[i]? = some v
  | _ :: _, 0, _, h => by simpa [elt] using h
  | _ :: r, i + 1, v, h => by rw [List.getElem?_cons_succ]; exact elt_eq (by simpa [elt] using h)
theorem RIs.all2 {w : World} {hp : Hp} {env : Env} : ∀ {Vs : List V} {us : List Value} {fp : List Nat}, RIs w Vs us fp → (∀ b, b ∈ fp → ¬ Ow hp env b) → All2 (RA w hp env) Vs us
  | [], [], _, _, _ => trivial
  | v :: Vs, u :: us, _, ⟨f, q, h1, h2, rfl⟩, h => by
    refine ⟨?_, RIs.all2 h2 fun b hb => h b (List.mem_append_right _ hb)⟩
    cases v with
    | lit x => exact ⟨h1.1, h1.2.1⟩
    | sl t l => exact ⟨f, h1, fun b hb => h b (List.mem_append_left _ hb)⟩
    | _ => exact h1.elim
  | [], _ :: _, _, h, _ => h.elim
  | _ :: _, [], _, h, _ => h.elim
/-- The cells of an immutable element. -/
theorem ip_cells {w : World} {hp : Hp} {env : Env} {t : Tag} {x : T t} {cs : List Value} {fp : List Nat} (hE : rd t w cs x fp) (h : ∀ c, c ∈ fp → ¬ Ow hp env c) : All2 (RA w hp env) (dec t x) cs := RIs.all2 (reads t hE) h
end Go.Proofs.Ythlflnplnajjiaa.G
