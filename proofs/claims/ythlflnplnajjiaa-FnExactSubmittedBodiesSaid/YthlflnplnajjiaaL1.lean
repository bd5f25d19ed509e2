/-
  Readings of Go data with their footprint (the blocks that they pass), and what keeps them. Plain lemmas over the model's worlds; no program in sight.
-/
import Derived.WalkKit
import Derived.WalkSpells
import Derived.WalkLawsBesides
import Derived.Deep.MidRow
import Derived.Deep.Slices
import Derived.Lib.Hide
namespace Go.Proofs.Ythlflnplnajjiaa.L
set_option linter.all false
open Go.RowKit

/-- How cells of a world read as a datum; the last argument: the blocks that the reading passes. -/
abbrev ER (α : Type) := World → List Value → α → List Nat → Prop

/-- Nothing that a reading passes has turned. -/
def Agree (w w' : World) (fp : List Nat) : Prop := ∀ b, b ∈ fp → w'.heap[b]? = w.heap[b]?

theorem Agree.cell {w w' : World} {fp : List Nat} (h : Agree w w' fp) {b : Nat} (hb : b ∈ fp) (o : Nat) : w'.cell? ⟨b, o, none⟩ = w.cell? ⟨b, o, none⟩ :=
  World.cell?_of_block (w := w) (a := ⟨b, o, none⟩) (h b hb)
theorem Agree.range {w w' : World} {fp : List Nat} (h : Agree w w' fp) {b : Nat} (hb : b ∈ fp) {o : Nat} {cs : List Value} (hr : w.rangeAt b o cs) : w'.rangeAt b o cs :=
  fun j v hv => by rw [h.cell hb]; exact hr j v hv
theorem Agree.sub {w w' : World} {fp fp' : List Nat} (h : Agree w w' fp) (hs : ∀ b, b ∈ fp' → b ∈ fp) : Agree w w' fp' := fun b hb => h b (hs b hb)
theorem Agree.trans {a b c : World} {fp : List Nat} (h : Agree a b fp) (k : Agree b c fp) : Agree a c fp := fun x hx => (k x hx).trans (h x hx)
theorem Agree.refl (w : World) (fp : List Nat) : Agree w w fp := fun _ _ => rfl
theorem agree_below {B : Nat} {w w' : World} {fp : List Nat} (hb : Below B w w') (hf : ∀ b, b ∈ fp → b < B) : Agree w w' fp := fun b h => hb.block b (hf b h)
theorem agree_grown {w w' : World} {row : Option Nat} {fp : List Nat} (hg : w.grownBy w' row) (hf : ∀ b, b ∈ fp → b < w.heap.size) (hr : ∀ b, b ∈ fp → some b ≠ row) : Agree w w' fp :=
  fun b h => hg.block b (hf b h) (hr b h)

/-- A reading that hangs on its blocks alone; k cells, each of them one cell. -/
structure Fine {α : Type} (k : Nat) (E : ER α) : Prop where
  agree : ∀ {w w' : World} {cs x fp}, E w cs x fp → Agree w w' fp → E w' cs x fp
  lt : ∀ {w : World} {cs x fp}, E w cs x fp → ∀ b, b ∈ fp → b < w.heap.size
  len : ∀ {w : World} {cs x fp}, E w cs x fp → cs.length = k
  one : ∀ {w : World} {cs x fp}, E w cs x fp → ∀ u, u ∈ cs → u.oneCell' = true

/-- The elements of a slice, from a block's offset on: k cells each. -/
def Elems {α : Type} (k : Nat) (E : ER α) (w : World) (b off : Nat) (l : List α) (fps : List (List Nat)) : Prop :=
  fps.length = l.length ∧ ∀ i x f, l[i]? = some x → fps[i]? = some f → ∃ cs, w.rangeAt b (off + i * k) cs ∧ E w cs x f

/-- A slice value reads as a list. -/
def Sl {α : Type} (k : Nat) (E : ER α) (w : World) (v : Value) (l : List α) (fp : List Nat) : Prop :=
  ∃ oa cap, v = .slice oa l.length cap ∧ l.length ≤ cap ∧ cap ≤ maxLen ∧
    ((l = [] ∧ fp = [] ∧ (oa = none → cap = 0)) ∨ ∃ b off fps, oa = some ⟨b, off, none⟩ ∧ b < w.heap.size ∧ fp = b :: fps.flatten ∧ Elems k E w b off l fps)

def ESl {α : Type} (k : Nat) (E : ER α) : ER (List α) := fun w cs l fp => ∃ v, cs = [v] ∧ Sl k E w v l fp
def EInt : ER Int := fun _ cs n fp => cs = [.int .i64 n] ∧ fp = []
def EU8 : ER UInt8 := fun _ cs n fp => cs = [.int .u8 n.toNat] ∧ fp = []
def EStr : ER (List UInt8) := fun _ cs s fp => cs = [.string ⟨s.toArray⟩] ∧ s.length ≤ maxLen ∧ fp = []

theorem good_int : Fine 1 EInt := ⟨fun h _ => h, by rintro w cs x fp ⟨rfl, rfl⟩ b hb; simp at hb, by rintro w cs x fp ⟨rfl, rfl⟩; rfl, by rintro w cs x fp ⟨rfl, rfl⟩ u hu; simp at hu; subst hu; rfl⟩
theorem good_u8 : Fine 1 EU8 := ⟨fun h _ => h, by rintro w cs x fp ⟨rfl, rfl⟩ b hb; simp at hb, by rintro w cs x fp ⟨rfl, rfl⟩; rfl, by rintro w cs x fp ⟨rfl, rfl⟩ u hu; simp at hu; subst hu; rfl⟩
theorem good_str : Fine 1 EStr := ⟨fun h _ => h, by rintro w cs x fp ⟨rfl, _, rfl⟩ b hb; simp at hb, by rintro w cs x fp ⟨rfl, _, rfl⟩; rfl, by rintro w cs x fp ⟨rfl, _, rfl⟩ u hu; simp at hu; subst hu; rfl⟩

theorem mem_fps {l : List (List Nat)} {i : Nat} {f : List Nat} (h : l[i]? = some f) {b : Nat} (hb : b ∈ f) : b ∈ l.flatten :=
  List.mem_flatten.2 ⟨f, List.mem_of_getElem? h, hb⟩
theorem fps_some {α : Type} {l : List α} {fps : List (List Nat)} (h : fps.length = l.length) {i : Nat} {x : α} (hx : l[i]? = some x) : ∃ f, fps[i]? = some f := by
  have : i < l.length := (List.getElem?_eq_some_iff.1 hx).1
  exact ⟨fps[i], List.getElem?_eq_getElem (by omega)⟩

section
variable {α : Type} {k : Nat} {E : ER α} (G : Fine k E)
include G
theorem Elems.agree {w w' : World} {b off : Nat} {l : List α} {fps : List (List Nat)} (h : Elems k E w b off l fps) (hb : w'.heap[b]? = w.heap[b]?) (ha : Agree w w' fps.flatten) : Elems k E w' b off l fps := by
  refine ⟨h.1, fun i x f hx hf => ?_⟩
  obtain ⟨cs, hr, he⟩ := h.2 i x f hx hf
  refine ⟨cs, fun j v hv => ?_, G.agree he (ha.sub fun _ hm => mem_fps hf hm)⟩
  rw [World.cell?_of_block (w := w) (a := ⟨b, _, none⟩) hb]; exact hr j v hv
theorem Sl.agree {w w' : World} {v : Value} {l : List α} {fp : List Nat} (h : Sl k E w v l fp) (ha : Agree w w' fp) : Sl k E w' v l fp := by
  obtain ⟨oa, cap, rfl, h1, h2, h3⟩ := h
  refine ⟨oa, cap, rfl, h1, h2, ?_⟩
  rcases h3 with h3 | ⟨b, off, fps, rfl, hb, rfl, he⟩
  · exact Or.inl h3
  · have hbk := ha b (by simp)
    refine Or.inr ⟨b, off, fps, rfl, ?_, rfl, Elems.agree G he hbk (ha.sub (fun _ hm => List.mem_cons_of_mem _ hm))⟩
    have : w.heap[b]? = some w.heap[b] := by simp [hb]
    rw [this] at hbk
    exact (Array.getElem?_eq_some_iff.1 hbk).1
theorem Sl.lt {w : World} {v : Value} {l : List α} {fp : List Nat} (h : Sl k E w v l fp) : ∀ b, b ∈ fp → b < w.heap.size := by
  obtain ⟨oa, cap, rfl, h1, h2, h3⟩ := h
  rcases h3 with ⟨_, rfl, _⟩ | ⟨b, off, fps, rfl, hb, rfl, he⟩
  · simp
  · intro c hc
    rcases List.mem_cons.1 hc with rfl | hc
    · exact hb
    · obtain ⟨f, hf, hcf⟩ := List.mem_flatten.1 hc
      obtain ⟨i, hi⟩ := List.getElem?_of_mem hf
      have hil : i < l.length := by have := (List.getElem?_eq_some_iff.1 hi).1; have := he.1; omega
      obtain ⟨cs, _, hE⟩ := he.2 i l[i] f (List.getElem?_eq_getElem hil) hi
      exact G.lt hE c hcf
theorem good_sl : Fine 1 (ESl k E) :=
  ⟨by rintro w w' cs x fp ⟨v, rfl, h⟩ ha; exact ⟨v, rfl, Sl.agree G h ha⟩, by rintro w cs x fp ⟨v, rfl, h⟩; exact Sl.lt G h,
   by rintro w cs x fp ⟨v, rfl, h⟩; rfl, by rintro w cs x fp ⟨v, rfl, oa, cap, rfl, h⟩ u hu; simp at hu; subst hu; rfl⟩

/-- Behind a call that turned nothing old. -/
theorem Sl.below {w w' : World} {v : Value} {l : List α} {fp : List Nat} (h : Sl k E w v l fp) (hb : Below w.heap.size w w') : Sl k E w' v l fp := Sl.agree G h (agree_below hb (Sl.lt G h))
end

/-- A slice's element, as the walk asks for it. -/
theorem Sl.at {α : Type} {k : Nat} {E : ER α} {w : World} {oa : Option Addr} {n cap : Nat} {l : List α} {fp : List Nat} (h : Sl k E w (.slice oa n cap) l fp) {i : Nat} {x : α} (hx : l[i]? = some x) :
    ∃ b off f cs, oa = some ⟨b, off, none⟩ ∧ w.rangeAt b (off + i * k) cs ∧ E w cs x f ∧ (∀ y, y ∈ f → y ∈ fp) := by
  obtain ⟨oa', cap', hv, h1, h2, h3⟩ := h
  simp only [Value.slice.injEq] at hv
  obtain ⟨rfl, _, rfl⟩ := hv
  rcases h3 with ⟨rfl, _⟩ | ⟨b, off, fps, rfl, hb, rfl, he⟩
  · simp at hx
  · obtain ⟨f, hf⟩ := fps_some he.1 hx
    obtain ⟨cs, hr, hE⟩ := he.2 i x f hx hf
    exact ⟨b, off, f, cs, rfl, hr, hE, fun y hy => List.mem_cons_of_mem _ (mem_fps hf hy)⟩

/-- What a call made: its blocks lie above lo, are there, differ, and may be written. -/
structure Own (lo : Nat) (w : World) (fp : List Nat) : Prop where
  nodup : fp.Nodup
  ge : ∀ b, b ∈ fp → lo ≤ b
  kind : ∀ b, b ∈ fp → ∃ c e, w.heap[b]? = some (.cells c e (0, 0))
theorem Own.agree {lo : Nat} {w w' : World} {fp : List Nat} (h : Own lo w fp) (ha : Agree w w' fp) : Own lo w' fp := ⟨h.nodup, h.ge, fun b hb => by rw [ha b hb]; exact h.kind b hb⟩
theorem Own.lt {lo : Nat} {w : World} {fp : List Nat} (h : Own lo w fp) : ∀ b, b ∈ fp → b < w.heap.size := fun b hb => by
  obtain ⟨c, e, hk⟩ := h.kind b hb
  exact (Array.getElem?_eq_some_iff.1 hk).1
theorem Own.nil (lo : Nat) (w : World) : Own lo w [] := ⟨List.nodup_nil, by simp, by simp⟩
theorem Own.mono {lo lo' : Nat} {w : World} {fp : List Nat} (h : Own lo w fp) (hl : lo' ≤ lo) : Own lo' w fp := ⟨h.nodup, fun b hb => Nat.le_trans hl (h.ge b hb), h.kind⟩
theorem Own.below {lo : Nat} {w w' : World} {fp : List Nat} (h : Own lo w fp) (hb : Below w.heap.size w w') : Own lo w' fp := h.agree (agree_below hb h.lt)

/-- A slice value as the append's law asks for it. -/
theorem Sl.src {α : Type} {k : Nat} {E : ER α} {w : World} {v : Value} {l : List α} {fp : List Nat} (h : Sl k E w v l fp) :
    (v = .slice none 0 0 ∧ l = []) ∨ ∃ a cap, v = .slice (some a) l.length cap := by
  obtain ⟨oa, cap, rfl, h1, h2, h3⟩ := h
  rcases h3 with ⟨rfl, _, h4⟩ | ⟨b, off, fps, rfl, _⟩
  · cases oa with
    | none => exact Or.inl ⟨by rw [h4 rfl]; rfl, rfl⟩
    | some a => exact Or.inr ⟨a, cap, rfl⟩
  · exact Or.inr ⟨_, cap, rfl⟩

/-- A fresh slice out of an owned row. -/
theorem elems_of_row {α : Type} {k : Nat} {E : ER α} {w : World} {b : Nat} {l : List α} {xs : List Value} {fps : List (List Nat)} (hf : fps.length = l.length)
    (hx : ∀ j u, xs[j]? = some u → w.cell? ⟨b, j, none⟩ = some u) (h : ∀ i x f, l[i]? = some x → fps[i]? = some f → E w ((xs.drop (i * k)).take k) x f) : Elems k E w b 0 l fps := by
  refine ⟨hf, fun i x f hi hfi => ⟨_, fun j v hv => ?_, h i x f hi hfi⟩⟩
  rw [Nat.zero_add]
  refine hx _ _ ?_
  have := List.getElem?_eq_some_iff.1 hv
  rw [List.getElem?_take, ] at hv
  split at hv
  · rw [List.getElem?_drop] at hv; exact hv
  · simp at hv
end Go.Proofs.Ythlflnplnajjiaa.L
