/-
  What the symbolic machine's states say of the model's worlds, and what keeps it.
-/
import Derived.Test.YthlflnplnajjiaaG1
namespace Go.Proofs.Ythlflnplnajjiaa.G
set_option linter.all false
open Go.RowKit L D
/-- An object's own value, and its blocks. -/
structure CO where
  v : Value
  fp : List Nat
abbrev Env := Nat → CO
abbrev Hp := List (Nat × Obj)
/-- A block is owned by an object. -/
def Ow (hp : Hp) (env : Env) (b : Nat) : Prop := ∃ n o, look hp n = some o ∧ b ∈ (env n).fp
def RA (w : World) (hp : Hp) (env : Env) : V → Value → Prop
  | .any, _ => True
  | .lit v, u => u = v ∧ v.oneCell' = true
  | .sl t l, u => ∃ fp, Sl (kk t) (rd t) w u l fp ∧ ∀ b, b ∈ fp → ¬ Ow hp env b
  | .own n, u => (∃ t l, look hp n = some (.arr t l)) ∧ u = (env n).v
  | .ptr n off, u => (∃ c, look hp n = some (.box c)) ∧ ∃ b, (env n).v = .pointer (some ⟨b, 0, none⟩) ∧ u = .pointer (some ⟨b, off, none⟩)
  | .eptr n i off, u => ∃ t l, look hp n = some (.arr t l) ∧ ∃ b o len cap, (env n).v = .slice (some ⟨b, o, none⟩) len cap ∧ u = .pointer (some ⟨b, o + i * kk t + off, none⟩)
  | .vw n p t l, u => (∃ t l, look hp n = some (.arr t l)) ∧ (∃ fp, Sl (kk t) (rd t) w u l fp ∧ ∀ b, b ∈ fp → b ∈ (env n).fp) ∧
      ∀ i off, p = some (i, off) → ∃ t0 l0 b o len cap, look hp n = some (.arr t0 l0) ∧ i < l0.length ∧ elt (dec t0 (l0.getD i (dfl t0))) off = some (.sl t l) ∧ (env n).v = .slice (some ⟨b, o, none⟩) len cap ∧ b ∈ (env n).fp ∧ w.cell? ⟨b, o + i * kk t0 + off, none⟩ = some u
  | .vip n t x off, u => (∃ t l, look hp n = some (.arr t l)) ∧ ∃ b o cs fp, u = .pointer (some ⟨b, o + off, none⟩) ∧ b ∈ (env n).fp ∧ w.rangeAt b o cs ∧ rd t w cs x fp ∧ ∀ c, c ∈ fp → c ∈ (env n).fp
  | .ip t x off, u => ∃ b o cs fp, u = .pointer (some ⟨b, o + off, none⟩) ∧ b < w.heap.size ∧ w.rangeAt b o cs ∧ rd t w cs x fp ∧ ¬ Ow hp env b ∧ ∀ c, c ∈ fp → ¬ Ow hp env c
def All2 {α β : Type} (R : α → β → Prop) : List α → List β → Prop
  | [], [] => True
  | a :: as, b :: bs => R a b ∧ All2 R as bs
  | _, _ => False
theorem All2.mono {α β : Type} {R R' : α → β → Prop} : ∀ {as : List α} {bs : List β}, (∀ a b, a ∈ as → R a b → R' a b) → All2 R as bs → All2 R' as bs
  | [], [], _, _ => trivial
  | a :: as, b :: bs, h, ⟨h1, h2⟩ => ⟨h a b (by simp) h1, All2.mono (fun a b ha => h a b (List.mem_cons_of_mem _ ha)) h2⟩
  | [], _ :: _, _, h => h.elim
  | _ :: _, [], _, h => h.elim
theorem All2.len {α β : Type} {R : α → β → Prop} : ∀ {as : List α} {bs : List β}, All2 R as bs → bs.length = as.length
  | [], [], _ => rfl
  | _ :: _, _ :: _, ⟨_, h⟩ => by simp [All2.len h]
  | [], _ :: _, h => h.elim
  | _ :: _, [], h => h.elim
theorem All2.app {α β : Type} {R : α → β → Prop} : ∀ {as as' : List α} {bs bs' : List β}, All2 R as bs → All2 R as' bs' → All2 R (as ++ as') (bs ++ bs')
  | [], _, [], _, _, h => h
  | _ :: _, _, _ :: _, _, ⟨h1, h2⟩, h => ⟨h1, All2.app h2 h⟩
  | [], _, _ :: _, _, h, _ => h.elim
  | _ :: _, _, [], _, h, _ => h.elim
theorem All2.drop {α β : Type} {R : α → β → Prop} : ∀ {as : List α} {bs : List β} (n : Nat), All2 R as bs → All2 R (as.drop n) (bs.drop n)
  | _, _, 0, h => h
  | [], [], _ + 1, _ => trivial
  | _ :: _, _ :: _, n + 1, ⟨_, h⟩ => All2.drop n h
  | [], _ :: _, _, h => h.elim
  | _ :: _, [], _, h => h.elim
theorem All2.take {α β : Type} {R : α → β → Prop} : ∀ {as : List α} {bs : List β} (n : Nat), All2 R as bs → All2 R (as.take n) (bs.take n)
  | _, _, 0, _ => by simp [All2]
  | [], [], _ + 1, _ => trivial
  | _ :: _, _ :: _, n + 1, ⟨h1, h⟩ => ⟨h1, All2.take n h⟩
  | [], _ :: _, _, h => h.elim
  | _ :: _, [], _, h => h.elim
theorem All2.at {α β : Type} {R : α → β → Prop} : ∀ {as : List α} {bs : List β} {i : Nat} {x : α}, All2 R as bs → as[i]? = some x → ∃ y, bs[i]? = some y ∧ R x y
  | a :: as, b :: bs, 0, x, ⟨h1, _⟩, hx => ⟨b, rfl, by simp at hx; rw [← hx]; exact h1⟩
  | a :: as, b :: bs, i + 1, x, ⟨_, h⟩, hx => by
    obtain ⟨y, hy, hr⟩ := All2.at (i := i) h (by simpa using hx)
    exact ⟨y, by simpa using hy, hr⟩
  | [], _, _, _, _, hx => by simp at hx
  | _ :: _, [], _, _, h, _ => h.elim
def RS1 (w : World) (hp : Hp) (env : Env) : S1 → Value → Prop
  | .a v, u => RA w hp env v u
  | .agg l, u => ∃ cs, u = .agg cs.toArray ∧ All2 (RA w hp env) l cs
/-- The slots of a path hold the path's bools. -/
def holds (tmps : Array Value) (p : List (Nat × Bool)) : Prop := ∀ e, e ∈ p → tmps[e.1]? = some (.bool e.2)
def RSV (w : World) (hp : Hp) (env : Env) (tmps : Array Value) : SV → Value → Prop
  | .one x, u => RS1 w hp env x u
  | .tup l, u => ∃ us, u = .tuple us.toArray ∧ All2 (RS1 w hp env) l us
  | .cond p x, u => (holds tmps p → RS1 w hp env x u) ∧ (¬ holds tmps p → u = undef)
variable (ty : Tag → Nat)
/-- Where a call began: its world, the blocks that were lent to it, the lent objects. -/
structure Base where
  w : World
  L : List Nat
  pv : Nat → CO
def RArr (w : World) (n : Nat) (t : Tag) (l : List (T t)) (co : CO) : Prop :=
  match pin n with
  | true => Sl (kk t) (rd t) w co.v l co.fp ∧ Own 0 w co.fp
  | false => Bld (kk t) (rd t) 0 (ty t) w co.v l co.fp
def RO (w : World) (hp : Hp) (env : Env) (n : Nat) : Obj → CO → Prop
  | .box c, co => ∃ b cs e, co = ⟨.pointer (some ⟨b, 0, none⟩), [b]⟩ ∧ w.heap[b]? = some (.cells (Array.mk cs) e (0, 0)) ∧ All2 (RA w hp env) c cs
  | .arr t l, co => RArr ty w n t l co
structure Good (zb : Base) (st : St) (tmps : Array Value) (w : World) (env : Env) : Prop where
  obj : ∀ n o, look st.hp n = some o → RO ty w st.hp env n o (env n)
  dis : ∀ n m o o', n ≠ m → look st.hp n = some o → look st.hp m = some o' → ∀ b, b ∈ (env n).fp → b ∉ (env m).fp
  slot : ∀ s v, look st.sl s = some v → RSV w st.hp env tmps v (tmps.getD s undef)
  dom : ∀ n o, look st.hp n = some o → ∀ b, b ∈ (env n).fp → b ∈ zb.L ∨ zb.w.heap.size ≤ b
  pins : ∀ n, pin n = true → (env n).v = (zb.pv n).v ∧ ∀ b, b ∈ (env n).fp → b ∈ (zb.pv n).fp
/-- Nothing is written but what was lent, and what is new; a block keeps its shape. -/
structure Kept (zb : Base) (w w' : World) : Prop where
  os : w'.os = w.os
  tape : w'.tape = w.tape
  output : w'.output = w.output
  size : w.heap.size ≤ w'.heap.size
  block : ∀ b, b < zb.w.heap.size → b ∉ zb.L → w'.heap[b]? = w.heap[b]?
  shape : ∀ (b : Nat) (c : Array Value) (e : TypeId), w.heap[b]? = some (Go.Obj.cells c e (0, 0)) → ∃ c' : Array Value, w'.heap[b]? = some (Go.Obj.cells c' e (0, 0)) ∧ c'.size = c.size
theorem Kept.refl (zb : Base) (w : World) : Kept zb w w := ⟨rfl, rfl, rfl, Nat.le_refl _, fun _ _ _ => rfl, fun _ c _ h => ⟨c, h, rfl⟩⟩
theorem Kept.trans {zb : Base} {a b c : World} (h : Kept zb a b) (k : Kept zb b c) : Kept zb a c :=
  ⟨k.os.trans h.os, k.tape.trans h.tape, k.output.trans h.output, Nat.le_trans h.size k.size, fun i hi hn => (k.block i hi hn).trans (h.block i hi hn), fun i x e hx => by
    obtain ⟨c1, h1, h2⟩ := h.shape i x e hx
    obtain ⟨c2, h3, h4⟩ := k.shape i c1 e h1
    exact ⟨c2, h3, h4.trans h2⟩⟩
theorem kept_below {zb : Base} {w w' : World} (h : Below w.heap.size w w') (hz : zb.w.heap.size ≤ w.heap.size) : Kept zb w w' :=
  ⟨h.os, h.tape, h.output, h.size, fun b hb _ => h.block b (Nat.lt_of_lt_of_le hb hz), fun b c e hc => ⟨c, by rw [h.block b (sizeB hc)]; exact hc, rfl⟩⟩
structure Inv (zb : Base) (st : St) (a : Act) (w : World) : Prop where
  size : a.tmps.size = st.n
  defers : a.defers = []
  kept : Kept zb zb.w w
  good : ∃ env, Good ty zb st a.tmps w env

variable {ty}
theorem RO.own {w : World} {hp : Hp} {env : Env} {n : Nat} {t : Tag} {l : List (T t)} {co : CO} (h : RO ty w hp env n (.arr t l) co) : Own 0 w co.fp := by
  replace h : RArr ty w n t l co := h
  unfold RArr at h
  split at h
  · exact h.2
  · exact Bld.own h
theorem RO.sl {w : World} {hp : Hp} {env : Env} {n : Nat} {t : Tag} {l : List (T t)} {co : CO} (h : RO ty w hp env n (.arr t l) co) : Sl (kk t) (rd t) w co.v l co.fp := by
  replace h : RArr ty w n t l co := h
  unfold RArr at h
  split at h
  · exact h.1
  · exact Bld.sl h
theorem RO.bld {w : World} {hp : Hp} {env : Env} {n : Nat} {t : Tag} {l : List (T t)} {co : CO} (hn : pin n = false) (h : RO ty w hp env n (.arr t l) co) : Bld (kk t) (rd t) 0 (ty t) w co.v l co.fp := by
  replace h : RArr ty w n t l co := h
  unfold RArr at h
  rw [hn] at h
  exact h
theorem RO.ofBld {w : World} {hp : Hp} {env : Env} {n : Nat} {t : Tag} {l : List (T t)} {co : CO} (h : Bld (kk t) (rd t) 0 (ty t) w co.v l co.fp) : RO ty w hp env n (.arr t l) co := by
  show RArr ty w n t l co
  unfold RArr
  split
  · exact ⟨Bld.sl h, Bld.own h⟩
  · exact h
theorem RO.agree {w w' : World} {hp hp' : Hp} {env env' : Env} {n : Nat} {t : Tag} {l : List (T t)} {co : CO} (h : RO ty w hp env n (.arr t l) co) (hk : ∀ b, b ∈ co.fp → w'.heap[b]? = w.heap[b]?) : RO ty w' hp' env' n (.arr t l) co := by
  replace h : RArr ty w n t l co := h
  show RArr ty w' n t l co
  unfold RArr at h ⊢
  split at h
  · exact ⟨Sl.agree (fine t) h.1 hk, h.2.agree hk⟩
  · exact Bld.agree (fine t) h hk
theorem RO.blk {w : World} {hp : Hp} {env : Env} {n : Nat} {o : Obj} {co : CO} (h : RO ty w hp env n o co) : ∀ b, b ∈ co.fp → b < w.heap.size := by
  cases o with
  | box c =>
    obtain ⟨b, cs, e, rfl, hh, _⟩ := h
    intro x hx
    simp at hx
    subst hx
    exact sizeB hh
  | arr t l => exact fun b hb => (RO.own h).lt b hb
theorem Good.ow {zb : Base} {st : St} {tmps : Array Value} {w : World} {env : Env} (h : Good ty zb st tmps w env) {b : Nat} (hb : Ow st.hp env b) : (b ∈ zb.L ∨ zb.w.heap.size ≤ b) ∧ b < w.heap.size := by
  obtain ⟨n, o, h1, h2⟩ := hb
  exact ⟨h.dom n o h1 b h2, (h.obj n o h1).blk b h2⟩

/-- A name that a value mentions. -/
def V.name : V → Option Nat
  | .own n | .ptr n _ | .eptr n _ _ | .vw n _ _ _ | .vip n _ _ _ => some n
  | _ => none
/-- The object into whose memory a value looks. -/
def V.view : V → Option Nat
  | .vw n _ _ _ | .vip n _ _ _ => some n
  | _ => none
/-- What a value hangs on is of K; into what it looks is of V. -/
def V.hangs (K KV : Nat → Prop) (v : V) : Prop := (∀ n, v.name = some n → K n) ∧ ∀ n, v.view = some n → KV n
theorem V.view_name {v : V} {n : Nat} (h : v.view = some n) : v.name = some n := by
  cases v <;> simp_all [V.view, V.name]
theorem V.hangs_all (v : V) : v.hangs (fun _ => True) (fun _ => True) := ⟨fun _ _ => trivial, fun _ _ => trivial⟩
/-- The same kind of object. -/
def Obj.like : Obj → Obj → Prop
  | .box _, .box _ => True
  | .arr t _, .arr t' _ => t = t'
  | _, _ => False
/-- From one state of memory and objects to a later one: what is not owned is as it was; nothing old has become owned; the names of K stay what they are; the objects of KV are as they were. -/
structure Step (K KV : Nat → Prop) (w : World) (hp : Hp) (env : Env) (w' : World) (hp' : Hp) (env' : Env) : Prop where
  keep : ∀ b, b < w.heap.size → ¬ Ow hp env b → w'.heap[b]? = w.heap[b]?
  own : ∀ b, b < w.heap.size → Ow hp' env' b → Ow hp env b
  name : ∀ n o, K n → look hp n = some o → ∃ o', look hp' n = some o' ∧ o.like o' ∧ (env' n).v = (env n).v
  view : ∀ n t l, KV n → look hp n = some (.arr t l) → look hp' n = some (.arr t l) ∧ env' n = env n ∧ ∀ b, b ∈ (env n).fp → w'.heap[b]? = w.heap[b]?
section
variable {K KV : Nat → Prop} {w w' : World} {hp hp' : Hp} {env env' : Env}
theorem RA.step (s : Step K KV w hp env w' hp' env') {v : V} {u : Value} (hv : v.hangs K KV) (h : RA w hp env v u) : RA w' hp' env' v u := by
  obtain ⟨hv, hw⟩ := hv
  cases v with
  | any => trivial
  | lit v => exact h
  | sl t l =>
    obtain ⟨fp, h1, h2⟩ := h
    have hlt := Sl.lt (fine t) h1
    exact ⟨fp, Sl.agree (fine t) h1 (fun b hb => s.keep b (hlt b hb) (h2 b hb)), fun b hb hw => h2 b hb (s.own b (hlt b hb) hw)⟩
  | own n =>
    obtain ⟨⟨t, l, hl⟩, hu⟩ := h
    obtain ⟨o', h1, h2, h3⟩ := s.name n _ (hv n rfl) hl
    cases o' with
    | box c => exact h2.elim
    | arr t' l' => exact ⟨⟨t', l', h1⟩, by rw [hu, h3]⟩
  | ptr n off =>
    obtain ⟨⟨c, hl⟩, b, hb, hu⟩ := h
    obtain ⟨o', h1, h2, h3⟩ := s.name n _ (hv n rfl) hl
    cases o' with
    | box c' => exact ⟨⟨c', h1⟩, b, by rw [h3, hb], hu⟩
    | arr t' l' => exact h2.elim
  | eptr n i off =>
    obtain ⟨t, l, hl, b, o, len, cap, hb, hu⟩ := h
    obtain ⟨o', h1, h2, h3⟩ := s.name n _ (hv n rfl) hl
    cases o' with
    | box c' => exact h2.elim
    | arr t' l' =>
      have : t = t' := h2
      subst this
      exact ⟨t, l', h1, b, o, len, cap, by rw [h3, hb], hu⟩
  | ip t x off =>
    obtain ⟨b, o, cs, fp, hu, hb, hr, hE, h1, h2⟩ := h
    have hlt := (fine t).lt hE
    have hkb := s.keep b hb h1
    refine ⟨b, o, cs, fp, hu, ?_, fun j v hv => ?_, (fine t).agree hE (fun c hc => s.keep c (hlt c hc) (h2 c hc)), fun hw => h1 (s.own b hb hw), fun c hc hw => h2 c hc (s.own c (hlt c hc) hw)⟩
    · have h3 : w.heap[b]? = some w.heap[b] := by simp [hb]
      rw [h3] at hkb
      exact (Array.getElem?_eq_some_iff.1 hkb).1
    · rw [World.cell?_of_block (w := w) (a := ⟨b, _, none⟩) hkb]; exact hr j v hv
  | vw n p t l =>
    obtain ⟨⟨tA, lA, hl⟩, ⟨fp, h1, h2⟩, h3⟩ := h
    obtain ⟨q1, q2, q3⟩ := s.view n _ _ (hw n rfl) hl
    refine ⟨⟨tA, lA, q1⟩, ⟨fp, Sl.agree (fine t) h1 (fun b hb => q3 b (h2 b hb)), fun b hb => by rw [q2]; exact h2 b hb⟩, fun i off hp => ?_⟩
    obtain ⟨t0, l0, b, o, len, cap, k1, k2, k3, k4, k5, k6⟩ := h3 i off hp
    rw [hl] at k1
    refine ⟨t0, l0, b, o, len, cap, by rw [q1]; exact k1, k2, k3, by rw [q2]; exact k4, by rw [q2]; exact k5, ?_⟩
    rw [World.cell?_of_block (w := w) (a := ⟨b, _, none⟩) (q3 b k5)]; exact k6
  | vip n t x off =>
    obtain ⟨⟨tA, lA, hl⟩, b, o, cs, fp, hu, hb, hr, hE, h2⟩ := h
    obtain ⟨q1, q2, q3⟩ := s.view n _ _ (hw n rfl) hl
    refine ⟨⟨tA, lA, q1⟩, b, o, cs, fp, hu, by rw [q2]; exact hb, fun j v hv => ?_, (fine t).agree hE (fun c hc => q3 c (h2 c hc)), fun c hc => by rw [q2]; exact h2 c hc⟩
    rw [World.cell?_of_block (w := w) (a := ⟨b, _, none⟩) (q3 b hb)]; exact hr j v hv
end
def S1.vs : S1 → List V
  | .a v => [v]
  | .agg l => l
def SV.vs : SV → List V
  | .one x => x.vs
  | .tup l => l.flatMap S1.vs
  | .cond _ x => x.vs
section
variable {K KV : Nat → Prop} {w w' : World} {hp hp' : Hp} {env env' : Env}
theorem RS1.step (s : Step K KV w hp env w' hp' env') {x : S1} {u : Value} (hv : ∀ v, v ∈ x.vs → v.hangs K KV) (h : RS1 w hp env x u) : RS1 w' hp' env' x u := by
  cases x with
  | a v => exact RA.step s (hv v (by simp [S1.vs])) h
  | agg l =>
    obtain ⟨cs, hu, hl⟩ := h
    exact ⟨cs, hu, hl.mono fun a b ha hr => RA.step s (hv a ha) hr⟩
theorem RSV.step (s : Step K KV w hp env w' hp' env') {tmps : Array Value} {x : SV} {u : Value} (hv : ∀ v, v ∈ x.vs → v.hangs K KV) (h : RSV w hp env tmps x u) : RSV w' hp' env' tmps x u := by
  cases x with
  | one x => exact RS1.step s hv h
  | tup l =>
    obtain ⟨us, hu, hl⟩ := h
    exact ⟨us, hu, hl.mono fun a b ha hr => RS1.step s (fun v hn => hv v (by simp only [SV.vs, List.mem_flatMap]; exact ⟨a, ha, hn⟩)) hr⟩
  | cond p x => exact ⟨fun hh => RS1.step s hv (h.1 hh), h.2⟩
theorem RO.step (s : Step K KV w hp env w' hp' env') {n : Nat} {o : Obj} {co : CO} (hv : ∀ c, o = .box c → ∀ v, v ∈ c → v.hangs K KV)
    (hk : ∀ b, b ∈ co.fp → w'.heap[b]? = w.heap[b]?) (h : RO ty w hp env n o co) : RO ty w' hp' env' n o co := by
  cases o with
  | box c =>
    obtain ⟨b, cs, e, rfl, hh, hc⟩ := h
    exact ⟨b, cs, e, rfl, by rw [hk b (by simp)]; exact hh, hc.mono fun a u ha hr => RA.step s (hv c rfl a ha) hr⟩
  | arr t l => exact RO.agree h hk
end

theorem look_app_none {α : Type} : ∀ {os : List (Nat × α)} {l : List (Nat × α)} {n : Nat}, look os n = none → look (os ++ l) n = look l n
  | [], _, _, _ => rfl
  | (j, x) :: r, l, n, h => by
    simp only [look, List.cons_append] at h ⊢
    split at h
    · cases h
    · exact look_app_none h
theorem look_app_some {α : Type} : ∀ {os : List (Nat × α)} {l : List (Nat × α)} {n : Nat} {x : α}, look os n = some x → look (os ++ l) n = some x
  | (j, y) :: r, l, n, x, h => by
    simp only [look, List.cons_append] at h ⊢
    split at h
    · exact h
    · exact look_app_some h
theorem look_mem {α : Type} : ∀ {os : List (Nat × α)} {n : Nat} {x : α}, look os n = some x → (n, x) ∈ os
  | (j, y) :: r, n, x, h => by
    simp only [look] at h
    split at h
    · rename_i hb
      have : n = j := Nat.eq_of_beq_eq_true hb
      simp at h
      simp [h, this]
    · exact List.mem_cons_of_mem _ (look_mem h)
theorem fresh_spec {hp : Hp} : ∀ {os : Hp}, fresh hp os = true → ∀ n o, look os n = some o → look hp n = none
  | (j, y) :: r, h, n, o, hl => by
    simp only [fresh, Bool.and_eq_true] at h
    simp only [look] at hl
    split at hl
    · rename_i hb
      have : n = j := Nat.eq_of_beq_eq_true hb
      subst this
      cases hq : look hp n with
      | none => rfl
      | some z => simp [hq] at h
    · exact fresh_spec h.2 n o hl

theorem fresh_pin {hp : Hp} : ∀ {os : Hp}, fresh hp os = true → ∀ n o, look os n = some o → pin n = false
  | (j, y) :: r, h, n, o, hl => by
    simp only [fresh, Bool.and_eq_true] at h
    simp only [look] at hl
    split at hl
    · rename_i hb
      have : n = j := Nat.eq_of_beq_eq_true hb
      subst this
      simpa using h.1.2
    · exact fresh_pin h.2 n o hl
/-- New objects in a grown world. -/
structure News (w w' : World) (hp : Hp) (os : Hp) (env env' : Env) : Prop where
  below : Below w.heap.size w w'
  old : ∀ n, look os n = none → env' n = env n
  obj : ∀ n o, look os n = some o → RO ty w' (os ++ hp) env' n o (env' n) ∧ ∀ b, b ∈ (env' n).fp → w.heap.size ≤ b
  dis : ∀ n m o o', n ≠ m → look os n = some o → look os m = some o' → ∀ b, b ∈ (env' n).fp → b ∉ (env' m).fp
theorem News.none {w w' : World} {hp : Hp} {env : Env} (h : Below w.heap.size w w') : News (ty := ty) w w' hp [] env env :=
  ⟨h, fun _ _ => rfl, fun _ _ h => by simp [look] at h, fun _ _ _ _ _ h => by simp [look] at h⟩
/-- The step from a state to one with new objects. -/
theorem News.step {zb : Base} {st : St} {tmps : Array Value} {w w' : World} {os : Hp} {env env' : Env} (g : Good ty zb st tmps w env) (hf : fresh st.hp os = true) (h : News (ty := ty) w w' st.hp os env env') :
    Step (fun _ => True) (fun _ => True) w st.hp env w' (os ++ st.hp) env' where
  keep := fun b hb _ => h.below.block b hb
  own := by
    rintro b hb ⟨n, o, h1, h2⟩
    cases hn : look os n with
    | none =>
      rw [look_app_none hn] at h1
      rw [h.old n hn] at h2
      exact ⟨n, o, h1, h2⟩
    | some o' =>
      have := (h.obj n o' hn).2 b h2
      omega
  name := by
    intro n o _ h1
    have hn : look os n = .none := by
      cases hn : look os n with
      | none => rfl
      | some o' => rw [fresh_spec hf n o' hn] at h1; cases h1
    refine ⟨o, by rw [look_app_none hn]; exact h1, ?_, by rw [h.old n hn]⟩
    cases o <;> simp [Obj.like]
  view := by
    intro n t l _ h1
    have hn : look os n = .none := by
      cases hn : look os n with
      | none => rfl
      | some o' => rw [fresh_spec hf n o' hn] at h1; cases h1
    exact ⟨by rw [look_app_none hn]; exact h1, h.old n hn, fun b hb => h.below.block b ((g.obj n _ h1).blk b hb)⟩
theorem Good.grow {zb : Base} {st : St} {tmps : Array Value} {w w' : World} {os : Hp} {env env' : Env} (hB : zb.w.heap.size ≤ w.heap.size) (g : Good ty zb st tmps w env) (hf : fresh st.hp os = true) (h : News (ty := ty) w w' st.hp os env env') :
    Good ty zb ⟨st.n, st.sl, os ++ st.hp⟩ tmps w' env' := by
  have s := h.step g hf
  refine ⟨fun n o hl => ?_, fun n m o o' hne h1 h2 b hb hb' => ?_, fun t v hl => RSV.step s (fun v _ => v.hangs_all) (g.slot t v hl), fun n o hl b hb => ?_, fun n hn => ?_⟩
  · cases hn : look os n with
    | some o' =>
      rw [look_app_some hn] at hl
      simp only [Option.some.injEq] at hl
      subst hl
      exact (h.obj n _ hn).1
    | none =>
      rw [look_app_none hn] at hl
      rw [h.old n hn]
      have hro := g.obj n o hl
      exact hro.step s (fun _ _ v _ => v.hangs_all) (fun b hb => h.below.block b (hro.blk b hb))
  · cases hn : look os n with
    | some x =>
      cases hm : look os m with
      | some y => exact h.dis n m x y hne hn hm b hb hb'
      | none =>
        rw [look_app_none hm] at h2
        rw [h.old m hm] at hb'
        have h3 := (h.obj n x hn).2 b hb
        have h4 := (g.obj m o' h2).blk b hb'
        omega
    | none =>
      rw [look_app_none hn] at h1
      rw [h.old n hn] at hb
      cases hm : look os m with
      | some y =>
        have h3 := (h.obj m y hm).2 b hb'
        have h4 := (g.obj n o h1).blk b hb
        omega
      | none =>
        rw [look_app_none hm] at h2
        rw [h.old m hm] at hb'
        exact g.dis n m o o' hne h1 h2 b hb hb'
  · cases hn : look os n with
    | some x => exact Or.inr (Nat.le_trans hB ((h.obj n x hn).2 b hb))
    | none =>
      rw [look_app_none hn] at hl
      rw [h.old n hn] at hb
      exact g.dom n o hl b hb
  · cases hq : look os n with
    | none => rw [h.old n hq]; exact g.pins n hn
    | some x => have := fresh_pin hf n x hq; rw [hn] at this; cases this
end Go.Proofs.Ythlflnplnajjiaa.G
