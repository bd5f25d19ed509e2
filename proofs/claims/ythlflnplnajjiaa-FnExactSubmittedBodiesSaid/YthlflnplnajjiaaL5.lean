/-
  What came in, read: from the form's own reading of an argument to the readings of this library. No program in sight.
-/
import Derived.Test.YthlflnplnajjiaaL4
import Derived.ProofKit
import Derived.OpenShut
namespace Go.Proofs.Ythlflnplnajjiaa.L
set_option linter.all false
open Go.RowKit Go.ChangeShapes Go.WideShapes Go.ChangeAt D

theorem i64_of_wf {n : Int} (h : (Lit.int .i64 n).wf = true) : I64 n := by
  have := bounds_i64 h
  unfold I64; omega

section
variable {H : Type} (enc : TypeId × Value → H) (P : Program) (w : World) (spare : Nat → Bool) (held : Bool)
/-- Whatever is read as a value of type t reads as a datum of this library, and the datum meets W. -/
def Opens {α : Type} (t : TypeId) (E : ER α) (W : α → Prop) : Prop :=
  ∀ fuel cs y, DataW.trod enc P w 0 spare held fuel t cs = some y → ∃ x fp, E w cs x fp ∧ W x

variable {enc P w spare held}
theorem opens_int {t : TypeId} (ht : P.underlying t = some (.int .i64)) : Opens enc P w spare held t EInt I64 := by
  intro fuel cs y h
  obtain ⟨n, rfl, _, hw⟩ := DataW.trod_int ht h
  exact ⟨n, [], ⟨rfl, rfl⟩, i64_of_wf hw⟩
theorem opens_u8 {t : TypeId} (ht : P.underlying t = some (.int .u8)) : Opens enc P w spare held t EU8 (fun _ => True) := by
  intro fuel cs y h
  obtain ⟨n, rfl, _, hw⟩ := DataW.trod_int ht h
  have hb := bounds_u8 hw
  refine ⟨UInt8.ofNat n.toNat, [], ⟨?_, rfl⟩, trivial⟩
  have : ((UInt8.ofNat n.toNat).toNat : Int) = n := by
    rw [UInt8.toNat_ofNat']; omega
  rw [this]

theorem opens_sl {α : Type} [Inhabited α] {k : Nat} {E : ER α} {W : α → Prop} {t e : TypeId} (ht : P.underlying t = some (.slice e)) (hk : P.cellsOf e = k) (hpos : 0 < k) (ho : Opens enc P w spare held e E W) :
    Opens enc P w spare held t (ESl k E) (fun l => ∀ x, x ∈ l → W x) := by
  intro fuel cs y h
  rcases Go.Deep.open_slice ht h with ⟨rfl, _⟩ | ⟨a, len, cap, m, n, D, Pl, rfl, _, hl, hm, hmm, _, hx⟩
  · exact ⟨[], [], ⟨_, rfl, none, 0, rfl, Nat.le_refl _, Nat.zero_le _, Or.inl ⟨rfl, rfl, fun _ => rfl⟩⟩, by simp⟩
  rw [hk] at hx
  have hlm : len ≤ m := by rw [hmm]; split <;> omega
  by_cases h0 : len = 0
  · subst h0
    exact ⟨[], [], ⟨_, rfl, some a, cap, rfl, hl, hm, Or.inl ⟨rfl, rfl, by simp⟩⟩, by simp⟩
  -- the head's address bears no spot
  have hsp : a.spot = none := by
    obtain ⟨cs', hc, _⟩ := hx 0 (by omega)
    obtain ⟨_, h1, h2⟩ := World.cells?_some hc
    have h3 := h2 0 (by omega)
    have ha : ((a.add (0 * k)).add 0) = a := by simp [Addr.add]
    rw [ha] at h3
    have hlen : 0 < cs'.length := by omega
    rw [List.getElem?_eq_getElem hlen] at h3
    simp only [World.cell?] at h3
    split at h3
    · split at h3
      · cases h3
      · rename_i hs; simpa using hs
    · cases h3
  obtain ⟨b, off, rfl⟩ : ∃ b off, a = ⟨b, off, none⟩ := ⟨a.block, a.off, by cases a; simp_all⟩
  have hel : ∀ i, i < len → ∃ q : α × List Nat, (∃ cs', w.rangeAt b (off + i * k) cs' ∧ E w cs' q.1 q.2) ∧ W q.1 := by
    intro i hi
    obtain ⟨cs', hc, htr⟩ := hx i (by omega)
    obtain ⟨x, fp, hE, hW⟩ := ho _ _ _ htr
    obtain ⟨_, h1, h2⟩ := World.cells?_some hc
    refine ⟨(x, fp), ⟨cs', fun j v hv => ?_, hE⟩, hW⟩
    have hj := (List.getElem?_eq_some_iff.1 hv).1
    have := h2 j (by omega)
    rw [Addr.add_mid, Addr.add_mid, hv] at this
    exact this
  obtain ⟨f, hf⟩ := Go.Deep.choose_lt hel
  refine ⟨(List.range len).map fun i => (f i).1, b :: ((List.range len).map fun i => (f i).2).flatten, ⟨_, rfl, some ⟨b, off, none⟩, cap, by simp, by simpa using hl, hm, Or.inr ⟨b, off, (List.range len).map fun i => (f i).2, rfl, ?_, rfl, by simp, ?_⟩⟩, ?_⟩
  · obtain ⟨cs', hc, _⟩ := hx 0 (by omega)
    have := World.cells?_block hc (by omega)
    rw [Addr.add_mid] at this
    exact this
  · intro i x fp hx hfp
    have hi : i < len := by have := (List.getElem?_eq_some_iff.1 hx).1; simpa using this
    simp [hi] at hx hfp
    subst hx; subst hfp
    exact (hf i hi).1
  · intro x hx
    simp only [List.mem_map, List.mem_range] at hx
    obtain ⟨i, hi, rfl⟩ := hx
    exact (hf i hi).2
end
end Go.Proofs.Ythlflnplnajjiaa.L
