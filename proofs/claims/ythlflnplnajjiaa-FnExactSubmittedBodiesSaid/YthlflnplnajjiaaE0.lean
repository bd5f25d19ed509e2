/-
  Small laws that contracts by the symbolic machine use.
-/
import Derived.Test.YthlflnplnajjiaaT1
import Derived.Test.YthlflnplnajjiaaG18
namespace Go.Proofs.Ythlflnplnajjiaa.G
set_option linter.all false
open Go.RowKit L D
theorem MO : Try.prog.follows .mixedOrders = true := by kernel_rfl
theorem take_snoc {α : Type} (l : List α) (k : Nat) (d : α) (h : k < l.length) : l.take (k + 1) = l.take k ++ [l.getD k d] := by
  rw [List.take_add_one, List.getD_eq_getElem?_getD, List.getElem?_eq_getElem h]; rfl
theorem wadd (a : Int) (n : Nat) (h : a = n) (h2 : n < 9223372036854775807) : IntKind.i64.wrap (a + 1) = ((n + 1 : Nat) : Int) := by
  subst h; rw [IntWalk.i64_in _ (by omega)]; omega
/-- A scalar's contract, as the laws' walks ask for it. -/
theorem gives_of {P : Program} {ty : Tag → Nat} {f : FuncId} {xs : List S1} {v : Value} (h : Sound ty P f xs [.a (.lit v)]) {w : World} {us : List Value} (ha : All2 (Arg1 w) xs us) : Calls P f us.toArray w (Gives w v) := by
  refine (h.2 w us ha).mono ?_
  rintro e w' ⟨u, fp, rfl, hb, _, f1, f2, ⟨rfl, _⟩, _⟩
  exact ⟨rfl, hb⟩
theorem arg_agg {w : World} {l : List V} {cs : List Value} {fp : List Nat} (h : RIs w l cs fp) : Arg1 w (.agg l) (.agg cs.toArray) := ⟨cs, fp, rfl, h⟩
theorem arg_lit {w : World} {v : Value} (h : v.oneCell' = true) : Arg1 w (.a (.lit v)) v := ⟨[], rfl, h, rfl⟩
/-- A slice has no more elements than a slice can have. -/
theorem W.bound {P : Program} {ty : Tag → Nat} {w0 : Base} {c : Code} {Q : Post} {st : St} (d : Nat) {t : Tag} {l : List (T t)} (h : look st.sl d = some (.one (.a (.sl t l)))) (k : l.length ≤ 9223372036854775807 → W P ty w0 c Q st) : W P ty w0 c Q st := by
  intro a w iv
  obtain ⟨env, g⟩ := iv.good
  obtain ⟨fp, ⟨oa, cap, _, h1, h2, _⟩, _⟩ := g.slot d _ h
  have e : maxLen = 9223372036854775807 := by decide
  exact k (by omega) a w iv
theorem take_eq_step {α : Type} [DecidableEq α] (a b : List α) (d : α) (k : Nat) (ha : k < a.length) (hb : k < b.length) (h : a.take k = b.take k) (he : a.getD k d = b.getD k d) : a.take (k + 1) = b.take (k + 1) := by
  rw [take_snoc a k d ha, take_snoc b k d hb, h, he]
theorem ne_of_getD {α : Type} [BEq α] [LawfulBEq α] (a b : List α) (d : α) (k : Nat) (he : a.getD k d ≠ b.getD k d) : (a == b) = false := by
  rw [beq_eq_false_iff_ne]; rintro rfl; exact he rfl
theorem eq_of_take {α : Type} [BEq α] [LawfulBEq α] (a b : List α) (k : Nat) (hk : k = a.length) (hl : a.length = b.length) (h : a.take k = b.take k) : (a == b) = true := by
  rw [List.take_of_length_le (by omega), List.take_of_length_le (by omega)] at h
  rw [h]; simp
theorem ne_of_len {α : Type} [BEq α] [LawfulBEq α] (a b : List α) (hl : (a.length : Int) ≠ b.length) : (a == b) = false := by
  rw [beq_eq_false_iff_ne]; rintro rfl; exact hl rfl
theorem of_bne {x y : Int} (h : (x != y) = true) : x ≠ y := by simpa using h
theorem of_bne_false {x y : Int} (h : (x != y) = false) : x = y := by simpa using h
theorem u8_inj {x y : UInt8} (h : (x.toNat : Int) = y.toNat) : x = y := by
  have : x.toNat = y.toNat := by omega
  exact UInt8.toNat_inj.1 this
theorem str8_app (a b : List UInt8) : str8 a ++ str8 b = str8 (a ++ b) := by
  apply ByteArray.ext
  simp [str8]
theorem str8_list (a : List UInt8) : (str8 a).data.toList = a := rfl
theorem str8_size (a : List UInt8) : (str8 a).size = a.length := rfl
theorem map_str8 (l : List (List UInt8)) : l.map ((fun x : ByteArray => x.data.toList) ∘ str8) = l := List.map_id l
theorem max64 : IntKind.i64.max = 9223372036854775807 := by decide
end Go.Proofs.Ythlflnplnajjiaa.G
