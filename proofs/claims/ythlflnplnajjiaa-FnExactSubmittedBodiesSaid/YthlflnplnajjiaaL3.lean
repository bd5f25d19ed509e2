/-
  Slices that a call builds by make and stores. Laws on the model's worlds; no program in sight.
-/
import Derived.Test.YthlflnplnajjiaaL2
namespace Go.Proofs.Ythlflnplnajjiaa.L
set_option linter.all false
open Go.RowKit

theorem below_setCells {B : Nat} {a w : World} (h : Below B a w) {g : Nat} (hg : B ≤ g) (o : Nat) (vs : List Value) : Below B a (w.setCells g o vs) :=
  h.trans ⟨(setCells_streams g vs o w).1, (setCells_streams g vs o w).2.1, (setCells_streams g vs o w).2.2, by rw [setCells_size]; exact Nat.le_refl _, fun k hk => setCells_other g vs o w k (by omega)⟩

/-- The first elements of a slice that the call has made: block g, n places, l filled in. -/
structure Part {α : Type} (k : Nat) (E : ER α) (lo e : Nat) (w : World) (g n : Nat) (l : List α) (fps : List (List Nat)) : Prop where
  blk : ∃ c, w.heap[g]? = some (.cells c e (0, 0)) ∧ c.size = n * k
  el : Elems k E w g 0 l fps
  own : Own lo w (g :: fps.flatten)
  cap : n ≤ maxLen

theorem Part.start {α : Type} {k : Nat} {E : ER α} {lo e : Nat} {w : World} {g n : Nat} {xs : List Value} (h : w.ownsRow lo e k (.slice (some ⟨g, 0, none⟩) n n) n xs) : Part k E lo e w g n ([] : List α) [] := by
  have hb := (h.lt g rfl).1
  rcases h.2 with ⟨h1, _⟩ | ⟨g', cap, cur, hv, hbg, hg, hnc, hcm, hcs, htake⟩
  · simp at h1
  · simp only [Value.slice.injEq, Option.some.injEq, Addr.mk.injEq, and_true, true_and] at hv
    obtain ⟨rfl, rfl⟩ := hv
    exact ⟨⟨cur, hg, hcs⟩, ⟨rfl, fun i x f h => by simp at h⟩, ⟨by simp, by simpa using hb, fun b hb => by rw [List.mem_singleton.1 hb]; exact ⟨_, _, hg⟩⟩, hcm⟩

theorem Part.there {α : Type} {k : Nat} {E : ER α} {lo e : Nat} {w : World} {g n : Nat} {l : List α} {fps : List (List Nat)} (h : Part k E lo e w g n l fps) (i : Nat) (hi : i < n) : w.there g (i * k) k := by
  obtain ⟨c, hc, hs⟩ := h.blk
  intro j hj
  have h5 : i * k + k ≤ n * k := by
    have := Nat.mul_le_mul_right k (show i + 1 ≤ n by omega)
    rw [Nat.add_mul] at this; omega
  refine ⟨?_, ?_⟩
  · simp [World.cell?, hc]; omega
  · simp [World.frozen?, hc]

theorem Part.agree {α : Type} {k : Nat} {E : ER α} (G : Fine k E) {lo e : Nat} {w w' : World} {g n : Nat} {l : List α} {fps : List (List Nat)} (h : Part k E lo e w g n l fps) (ha : Agree w w' (g :: fps.flatten)) : Part k E lo e w' g n l fps := by
  have hg := ha g (by simp)
  obtain ⟨c, hc, hs⟩ := h.blk
  exact ⟨⟨c, by rw [hg]; exact hc, hs⟩, h.el.agree G hg (ha.sub fun b hb => List.mem_cons_of_mem _ hb), h.own.agree ha, h.cap⟩

theorem Part.below {α : Type} {k : Nat} {E : ER α} (G : Fine k E) {lo e : Nat} {w w' : World} {g n : Nat} {l : List α} {fps : List (List Nat)} (h : Part k E lo e w g n l fps) (hb : Below w.heap.size w w') : Part k E lo e w' g n l fps :=
  h.agree G (agree_below hb h.own.lt)

theorem getElem?_append_one {α : Type} {l : List α} {x y : α} {i : Nat} (h : (l ++ [x])[i]? = some y) : (l[i]? = some y ∧ i < l.length) ∨ (i = l.length ∧ y = x) := by
  by_cases hi : i < l.length
  · rw [List.getElem?_append_left hi] at h; exact Or.inl ⟨h, hi⟩
  · rw [List.getElem?_append_right (by omega)] at h
    have h2 : i - l.length = 0 := by have := (List.getElem?_eq_some_iff.1 h).1; simp at this; omega
    rw [h2] at h
    exact Or.inr ⟨by omega, by simpa using h.symm⟩

/-- One element more: its cells are stored into their place. -/
theorem Part.push {α : Type} {k : Nat} {E : ER α} (G : Fine k E) {lo e : Nat} {w : World} {g n : Nat} {l : List α} {fps : List (List Nat)} (h : Part k E lo e w g n l fps) (hn : l.length < n)
    {cs : List Value} {x : α} {f : List Nat} (hE : E w cs x f) (ho : Own lo w f) (hd : ∀ b, b ∈ f → b ∉ g :: fps.flatten) :
    Part k E lo e (w.setCells g (l.length * k) cs) g n (l ++ [x]) (fps ++ [f]) := by
  have hlen := G.len hE
  obtain ⟨c, hc, hs⟩ := h.blk
  obtain ⟨c', hc', hs'⟩ := setCells_blk g e cs (l.length * k) w c hc
  have hth : w.there g (l.length * k) cs.length := by rw [hlen]; exact h.there _ hn
  have hself : ∀ b, b ∈ fps.flatten → b ≠ g := fun b hb e => by
    have := h.own.nodup
    rw [List.nodup_cons] at this
    exact this.1 (e ▸ hb)
  have hag : Agree w (w.setCells g (l.length * k) cs) fps.flatten := fun b hb => setCells_other g cs _ w b (hself b hb)
  have hagf : Agree w (w.setCells g (l.length * k) cs) f := fun b hb => setCells_other g cs _ w b (fun e => hd b hb (by simp [e]))
  refine ⟨⟨c', hc', by rw [hs', hs]⟩, ⟨by simp [h.el.1], fun i y fy hy hfy => ?_⟩, ⟨?_, ?_, ?_⟩, h.cap⟩
  · rcases getElem?_append_one hy with ⟨hy, hi⟩ | ⟨rfl, rfl⟩
    · rw [List.getElem?_append_left (by have := h.el.1; omega)] at hfy
      obtain ⟨cy, hr, hEy⟩ := h.el.2 i y fy hy hfy
      refine ⟨cy, World.rangeAt_setCells_apart hr _ _ _ (Or.inr (Or.inl ?_)), G.agree hEy (hag.sub fun b hb => mem_fps hfy hb)⟩
      rw [G.len hEy]
      have := Nat.mul_le_mul_right k (show i + 1 ≤ l.length by omega)
      rw [Nat.add_mul] at this; omega
    · rw [List.getElem?_append_right (by have := h.el.1; omega)] at hfy
      have : l.length - fps.length = 0 := by have := h.el.1; omega
      rw [this] at hfy
      simp at hfy
      subst hfy
      refine ⟨cs, ?_, G.agree hE hagf⟩
      rw [Nat.zero_add]
      exact World.rangeAt_setCells_same w g _ cs hth
  · have h1 := h.own.nodup
    have h2 := ho.nodup
    rw [List.flatten_append, ← List.cons_append]
    simp only [List.flatten_cons, List.flatten_nil, List.append_nil]
    exact List.nodup_append.2 ⟨h1, h2, fun a ha b hb e => hd b hb (e ▸ ha)⟩
  · intro b hb
    rw [List.flatten_append, ← List.cons_append] at hb
    simp only [List.flatten_cons, List.flatten_nil, List.append_nil] at hb
    rcases List.mem_append.1 hb with hb | hb
    · exact h.own.ge b hb
    · exact ho.ge b hb
  · intro b hb
    rw [List.flatten_append, ← List.cons_append] at hb
    simp only [List.flatten_cons, List.flatten_nil, List.append_nil] at hb
    rcases List.mem_append.1 hb with hb | hb
    · rcases List.mem_cons.1 hb with rfl | hb
      · exact ⟨_, _, hc'⟩
      · rw [hag b hb]; exact h.own.kind b (List.mem_cons_of_mem _ hb)
    · rw [hagf b hb]; exact ho.kind b hb

theorem Part.done {α : Type} {k : Nat} {E : ER α} (G : Fine k E) {lo e : Nat} {w : World} {g n : Nat} {l : List α} {fps : List (List Nat)} (h : Part k E lo e w g n l fps) (hn : l.length = n) :
    Bld k E lo e w (.slice (some ⟨g, 0, none⟩) n n) l (g :: fps.flatten) := by
  obtain ⟨c, hc, hs⟩ := h.blk
  refine ⟨c.toList, fps, ⟨by simp [hs, hn], Or.inr ⟨g, n, c, by rw [hn], h.own.ge g (by simp), hc, by omega, h.cap, hs, ?_⟩⟩, h.el.1, fun i x f hx hf => ?_, rfl, h.own⟩
  · exact List.take_of_length_le (by rw [Array.length_toList, hs, hn]; exact Nat.le_refl _)
  · obtain ⟨cs, hr, hE⟩ := h.el.2 i x f hx hf
    have hlen := G.len hE
    have hi : i < l.length := (List.getElem?_eq_some_iff.1 hx).1
    have h5 : i * k + k ≤ c.size := by
      rw [hs]
      have := Nat.mul_le_mul_right k (show i + 1 ≤ n by omega)
      rw [Nat.add_mul] at this; omega
    have : (c.toList.drop (i * k)).take k = cs := by
      apply List.ext_getElem?
      intro j
      by_cases hj : j < k
      · rw [List.getElem?_take, if_pos hj, List.getElem?_drop]
        have h6 := hr j _ (List.getElem?_eq_getElem (by omega))
        rw [Nat.zero_add] at h6
        simp [World.cell?, hc] at h6
        rw [List.getElem?_eq_getElem (show j < cs.length by omega)]
        simp [h6]
      · rw [List.getElem?_take, if_neg hj, List.getElem?_eq_none (by omega)]
    rw [this]; exact hE
end Go.Proofs.Ythlflnplnajjiaa.L
