/-
  Slices that the call has made, written again: an element replaced; an element's own memory written by a call.
-/
import Derived.Test.YthlflnplnajjiaaL5
namespace Go.Proofs.Ythlflnplnajjiaa.L
set_option linter.all false
open Go.RowKit
/-- Only the blocks of fp, and new ones, are written. -/
structure Confined (fp : List Nat) (w w' : World) : Prop where
  os : w'.os = w.os
  tape : w'.tape = w.tape
  output : w'.output = w.output
  size : w.heap.size ≤ w'.heap.size
  block : ∀ b, b < w.heap.size → b ∉ fp → w'.heap[b]? = w.heap[b]?
theorem Confined.refl (fp : List Nat) (w : World) : Confined fp w w := ⟨rfl, rfl, rfl, Nat.le_refl _, fun _ _ _ => rfl⟩
theorem Confined.mono {fp fq : List Nat} {w w' : World} (h : Confined fp w w') (hs : ∀ b, b ∈ fp → b ∈ fq) : Confined fq w w' := ⟨h.os, h.tape, h.output, h.size, fun b hb hn => h.block b hb fun hm => hn (hs b hm)⟩
theorem Confined.trans {fp : List Nat} {a b c : World} (h : Confined fp a b) (k : Confined fp b c) : Confined fp a c :=
  ⟨k.os.trans h.os, k.tape.trans h.tape, k.output.trans h.output, Nat.le_trans h.size k.size, fun i hi hn => (k.block i (Nat.lt_of_lt_of_le hi h.size) hn).trans (h.block i hi hn)⟩
theorem Confined.below {fp : List Nat} {w w' : World} {B : Nat} (h : Confined fp w w') (hB : B ≤ w.heap.size) (hg : ∀ b, b ∈ fp → B ≤ b) : Below B w w' :=
  ⟨h.os, h.tape, h.output, h.size, fun b hb => h.block b (Nat.lt_of_lt_of_le hb hB) fun hm => Nat.not_le_of_lt hb (hg b hm)⟩
theorem Below.confined {fp : List Nat} {w w' : World} (h : Below w.heap.size w w') : Confined fp w w' := ⟨h.os, h.tape, h.output, h.size, fun b hb _ => h.block b hb⟩
theorem Confined.agree {fp fq : List Nat} {w w' : World} (h : Confined fp w w') (hl : ∀ b, b ∈ fq → b < w.heap.size) (hd : ∀ b, b ∈ fq → b ∉ fp) : Agree w w' fq := fun b hb => h.block b (hl b hb) (hd b hb)
section
variable {α : Type} {k : Nat} {E : ER α} {lo e g n : Nat} {w w' : World} {l : List α} {fps : List (List Nat)}
/-- Two elements' memory is apart. -/
theorem fps_apart {fps : List (List Nat)} (h : fps.flatten.Nodup) {i j : Nat} {f f' : List Nat} (hi : fps[i]? = some f) (hj : fps[j]? = some f') (hne : i ≠ j) : ∀ b, b ∈ f → b ∉ f' := by
  intro b hb hb'
  have hp := (List.pairwise_flatten.1 h).2
  rw [List.pairwise_iff_getElem] at hp
  obtain ⟨hi1, rfl⟩ := List.getElem?_eq_some_iff.1 hi
  obtain ⟨hj1, rfl⟩ := List.getElem?_eq_some_iff.1 hj
  rcases Nat.lt_or_ge i j with h1 | h1
  · exact hp i j hi1 hj1 h1 b hb b hb' rfl
  · exact hp j i hj1 hi1 (by omega) b hb' b hb rfl
/-- A call has written an element's own memory. -/
theorem Part.inner (G : Fine k E) (h : Part k E lo e w g n l fps) {i : Nat} {f : List Nat} {cs : List Value} {x' : α} (hi : i < l.length) (hf : fps[i]? = some f) (ho : Confined f w w')
    (hr : w.rangeAt g (0 + i * k) cs) (hE : E w' cs x' f) (hO : Own lo w' f) : Part k E lo e w' g n (l.set i x') fps := by
  have hnd := h.own.nodup
  rw [List.nodup_cons] at hnd
  have hgf : g ∉ f := fun hm => hnd.1 (mem_fps hf hm)
  have hglt := h.own.lt g (by simp)
  have hg : w'.heap[g]? = w.heap[g]? := ho.block g hglt hgf
  obtain ⟨c, hc, hs⟩ := h.blk
  have hrg : ∀ {o : Nat} {cs : List Value}, w.rangeAt g o cs → w'.rangeAt g o cs := by
    intro o cs hr j v hv
    have := hr j v hv
    simp only [World.cell?] at this ⊢
    rw [hg]; exact this
  refine ⟨⟨c, by rw [hg]; exact hc, hs⟩, ⟨by rw [List.length_set]; exact h.el.1, fun j y fy hy hfy => ?_⟩, ⟨h.own.nodup, h.own.ge, ?_⟩, h.cap⟩
  · by_cases hj : i = j
    · subst hj
      rw [List.getElem?_set_self hi] at hy
      simp only [Option.some.injEq] at hy
      subst hy
      rw [hf] at hfy
      simp only [Option.some.injEq] at hfy
      subst hfy
      exact ⟨cs, hrg hr, hE⟩
    · rw [List.getElem?_set_ne hj] at hy
      obtain ⟨cy, hry, hEy⟩ := h.el.2 j y fy hy hfy
      exact ⟨cy, hrg hry, G.agree hEy (ho.agree (fun b hb => h.own.lt b (List.mem_cons_of_mem _ (mem_fps hfy hb))) (fun b hb => fps_apart hnd.2 hfy hf (Ne.symm hj) b hb))⟩
  · intro b hb
    by_cases hbf : b ∈ f
    · exact hO.kind b hbf
    · rw [ho.block b (h.own.lt b hb) hbf]; exact h.own.kind b hb
/-- An element's cells are stored anew; what it holds beside them lies where it lay. -/
theorem Part.set (G : Fine k E) (h : Part k E lo e w g n l fps) {i : Nat} {f : List Nat} {cs : List Value} {x' : α} (hi : i < l.length) (hin : i < n) (hf : fps[i]? = some f) (hE : E w cs x' f) :
    Part k E lo e (w.setCells g (i * k) cs) g n (l.set i x') fps := by
  have hlen := G.len hE
  have hnd := h.own.nodup
  rw [List.nodup_cons] at hnd
  obtain ⟨c, hc, hs⟩ := h.blk
  obtain ⟨c', hc', hs'⟩ := setCells_blk g e cs (i * k) w c hc
  have hth : w.there g (i * k) cs.length := by rw [hlen]; exact h.there _ hin
  have hself : ∀ b, b ∈ fps.flatten → b ≠ g := fun b hb e => hnd.1 (e ▸ hb)
  have hag : Agree w (w.setCells g (i * k) cs) fps.flatten := fun b hb => setCells_other g cs _ w b (hself b hb)
  refine ⟨⟨c', hc', by rw [hs', hs]⟩, ⟨by rw [List.length_set]; exact h.el.1, fun j y fy hy hfy => ?_⟩, ⟨h.own.nodup, h.own.ge, fun b hb => ?_⟩, h.cap⟩
  · by_cases hj : i = j
    · subst hj
      rw [List.getElem?_set_self hi] at hy
      simp only [Option.some.injEq] at hy
      subst hy
      rw [hf] at hfy
      simp only [Option.some.injEq] at hfy
      subst hfy
      refine ⟨cs, ?_, G.agree hE (hag.sub fun b hb => mem_fps hf hb)⟩
      rw [Nat.zero_add]
      exact World.rangeAt_setCells_same w g _ cs hth
    · rw [List.getElem?_set_ne hj] at hy
      obtain ⟨cy, hr, hEy⟩ := h.el.2 j y fy hy hfy
      refine ⟨cy, World.rangeAt_setCells_apart hr _ _ _ (Or.inr ?_), G.agree hEy (hag.sub fun b hb => mem_fps hfy hb)⟩
      rw [G.len hEy, hlen]
      rcases Nat.lt_or_ge j i with h1 | h1
      · left
        have := Nat.mul_le_mul_right k (show j + 1 ≤ i by omega)
        rw [Nat.add_mul] at this; omega
      · right
        have := Nat.mul_le_mul_right k (show i + 1 ≤ j by omega)
        rw [Nat.add_mul] at this; omega
  · rcases List.mem_cons.1 hb with rfl | hb
    · exact ⟨_, _, hc'⟩
    · rw [hag b hb]; exact h.own.kind b (List.mem_cons_of_mem _ hb)
theorem Part.confined_set (_h : Part k E lo e w g n l fps) (o : Nat) (cs : List Value) : Confined (g :: fps.flatten) w (w.setCells g o cs) := by
  have hb := below_setCells (B := 0) (w := w) (Below.refl 0 w) (Nat.zero_le g) o cs
  exact ⟨hb.os, hb.tape, hb.output, hb.size, fun b _ hn => setCells_other g cs o w b fun e => hn (by simp [e])⟩
theorem Part.bld (G : Fine k E) (h : Part k E lo e w g n l fps) (hn : l.length ≤ n) : Bld k E lo e w (.slice (some ⟨g, 0, none⟩) l.length n) l (g :: fps.flatten) := by
  obtain ⟨c, hc, hs⟩ := h.blk
  have hk : l.length * k ≤ n * k := Nat.mul_le_mul_right k hn
  refine ⟨c.toList.take (l.length * k), fps, ⟨by rw [List.length_take, show c.toList.length = n * k from hs]; exact Nat.min_eq_left hk, Or.inr ⟨g, n, c, rfl, h.own.ge g (by simp), hc, hn, h.cap, hs, rfl⟩⟩, h.el.1, fun i x f hx hf => ?_, rfl, h.own⟩
  obtain ⟨cs, hr, hE⟩ := h.el.2 i x f hx hf
  have hlen := G.len hE
  have hi : i < l.length := (List.getElem?_eq_some_iff.1 hx).1
  have h5 : i * k + k ≤ l.length * k := by
    have := Nat.mul_le_mul_right k (show i + 1 ≤ l.length by omega)
    rw [Nat.add_mul] at this; omega
  have : ((c.toList.take (l.length * k)).drop (i * k)).take k = cs := by
    apply List.ext_getElem?
    intro j
    by_cases hj : j < k
    · rw [List.getElem?_take, if_pos hj, List.getElem?_drop, List.getElem?_take, if_pos (by omega)]
      have h6 := hr j _ (List.getElem?_eq_getElem (by omega))
      rw [Nat.zero_add] at h6
      simp [World.cell?, hc] at h6
      rw [List.getElem?_eq_getElem (show j < cs.length by omega)]
      simp [h6]
    · rw [List.getElem?_take, if_neg hj, List.getElem?_eq_none (by omega)]
  rw [this]; exact hE
theorem Bld.part {v : Value} {fp : List Nat} (h : Bld k E lo e w v l fp) : (v = .slice none 0 0 ∧ l = [] ∧ fp = []) ∨ ∃ g n fps, v = .slice (some ⟨g, 0, none⟩) l.length n ∧ l.length ≤ n ∧ fp = g :: fps.flatten ∧ Part k E lo e w g n l fps := by
  obtain ⟨xs, fps, ⟨hxl, ho⟩, hl, hel, hfp, hown⟩ := h
  rcases ho with ⟨rfl, h0⟩ | ⟨g, cap, cur, rfl, hg, hc, hn, hcm, hcs, htk⟩
  · have hl0 : l = [] := List.eq_nil_of_length_eq_zero h0
    have : fps = [] := List.eq_nil_of_length_eq_zero (by omega)
    exact Or.inl ⟨rfl, hl0, by rw [hfp, this]; rfl⟩
  · refine Or.inr ⟨g, cap, fps, rfl, hn, hfp, ⟨⟨cur, hc, hcs⟩, ⟨hl, fun i x f hx hf => ⟨_, ?_, hel i x f hx hf⟩⟩, by rw [hfp] at hown; exact hown, hcm⟩⟩
    intro j u hu
    have hi : i < l.length := (List.getElem?_eq_some_iff.1 hx).1
    rw [List.getElem?_take] at hu
    split at hu
    · rename_i hj
      rw [List.getElem?_drop, ← htk, List.getElem?_take] at hu
      split at hu
      · simp only [World.cell?, hc]
        rw [Array.getElem?_toList] at hu
        rw [Nat.zero_add]
        simpa using hu
      · cases hu
    · cases hu
/-- A slice in memory that may be written: its elements, and its blocks. -/
structure Held {α : Type} (k : Nat) (E : ER α) (lo : Nat) (w : World) (b off : Nat) (l : List α) (fps : List (List Nat)) : Prop where
  el : Elems k E w b off l fps
  own : Own lo w (b :: fps.flatten)
theorem Held.lt {b off : Nat} (h : Held k E lo w b off l fps) : b < w.heap.size := h.own.lt b (by simp)
theorem Held.inner (G : Fine k E) {b off : Nat} (h : Held k E lo w b off l fps) {i : Nat} {f : List Nat} {cs : List Value} {x' : α} (hi : i < l.length) (hf : fps[i]? = some f) (ho : Confined f w w')
    (hr : w.rangeAt b (off + i * k) cs) (hE : E w' cs x' f) (hO : Own lo w' f) : Held k E lo w' b off (l.set i x') fps := by
  have hnd := h.own.nodup
  rw [List.nodup_cons] at hnd
  have hgf : b ∉ f := fun hm => hnd.1 (mem_fps hf hm)
  have hg : w'.heap[b]? = w.heap[b]? := ho.block b h.lt hgf
  have hrg : ∀ {o : Nat} {cs : List Value}, w.rangeAt b o cs → w'.rangeAt b o cs := by
    intro o cs hr j v hv
    have := hr j v hv
    simp only [World.cell?] at this ⊢
    rw [hg]; exact this
  refine ⟨⟨by rw [List.length_set]; exact h.el.1, fun j y fy hy hfy => ?_⟩, ⟨h.own.nodup, h.own.ge, ?_⟩⟩
  · by_cases hj : i = j
    · subst hj
      rw [List.getElem?_set_self hi] at hy
      simp only [Option.some.injEq] at hy
      subst hy
      rw [hf] at hfy
      simp only [Option.some.injEq] at hfy
      subst hfy
      exact ⟨cs, hrg hr, hE⟩
    · rw [List.getElem?_set_ne hj] at hy
      obtain ⟨cy, hry, hEy⟩ := h.el.2 j y fy hy hfy
      exact ⟨cy, hrg hry, G.agree hEy (ho.agree (fun b hb => h.own.lt b (List.mem_cons_of_mem _ (mem_fps hfy hb))) (fun b hb => fps_apart hnd.2 hfy hf (Ne.symm hj) b hb))⟩
  · intro c hc
    by_cases hbf : c ∈ f
    · exact hO.kind c hbf
    · rw [ho.block c (h.own.lt c hc) hbf]; exact h.own.kind c hc
/-- Some cells of an element are stored anew: cs, from the place o within it. -/
theorem Held.set (G : Fine k E) {b off : Nat} (h : Held k E lo w b off l fps) {i o : Nat} {f : List Nat} {vs cs : List Value} {x' : α} (hi : i < l.length) (ho : o + vs.length ≤ k) (hf : fps[i]? = some f)
    (hr : (w.setCells b (off + i * k + o) vs).rangeAt b (off + i * k) cs) (hE : E w cs x' f) :
    Held k E lo (w.setCells b (off + i * k + o) vs) b off (l.set i x') fps := by
  have hlen := G.len hE
  have hnd := h.own.nodup
  rw [List.nodup_cons] at hnd
  have hself : ∀ c, c ∈ fps.flatten → c ≠ b := fun c hc e => hnd.1 (e ▸ hc)
  have hag : Agree w (w.setCells b (off + i * k + o) vs) fps.flatten := fun c hc => setCells_other b vs _ w c (hself c hc)
  refine ⟨⟨by rw [List.length_set]; exact h.el.1, fun j y fy hy hfy => ?_⟩, ⟨h.own.nodup, h.own.ge, fun c hc => ?_⟩⟩
  · by_cases hj : i = j
    · subst hj
      rw [List.getElem?_set_self hi] at hy
      simp only [Option.some.injEq] at hy
      subst hy
      rw [hf] at hfy
      simp only [Option.some.injEq] at hfy
      subst hfy
      exact ⟨cs, hr, G.agree hE (hag.sub fun b hb => mem_fps hf hb)⟩
    · rw [List.getElem?_set_ne hj] at hy
      obtain ⟨cy, hr, hEy⟩ := h.el.2 j y fy hy hfy
      refine ⟨cy, World.rangeAt_setCells_apart hr _ _ _ (Or.inr ?_), G.agree hEy (hag.sub fun b hb => mem_fps hfy hb)⟩
      rw [G.len hEy]
      rcases Nat.lt_or_ge j i with h1 | h1
      · left
        have := Nat.mul_le_mul_right k (show j + 1 ≤ i by omega)
        rw [Nat.add_mul] at this; omega
      · right
        have := Nat.mul_le_mul_right k (show i + 1 ≤ j by omega)
        rw [Nat.add_mul] at this; omega
  · rcases List.mem_cons.1 hc with rfl | hc
    · obtain ⟨c0, e0, hk⟩ := h.own.kind c (by simp)
      obtain ⟨c', hc', _⟩ := setCells_blk c e0 vs (off + i * k + o) w c0 hk
      exact ⟨_, _, hc'⟩
    · rw [hag c hc]; exact h.own.kind c (List.mem_cons_of_mem _ hc)
end
end Go.Proofs.Ythlflnplnajjiaa.L
