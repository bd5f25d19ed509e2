/-
  Small laws for the laws' own functions: sizes, copies, marks.
-/
import Derived.Test.YthlflnplnajjiaaE0
namespace Go.Proofs.Ythlflnplnajjiaa.G
set_option linter.all false
open Go.RowKit L D
def szr (left : Int) (n : Nat) : Int := if (n : Int) ≤ left then left - n else -1
theorem szr_pos {l : Int} {n : Nat} (h : 0 ≤ szr l n) : szr l n = l - n ∧ (n : Int) ≤ l := by
  unfold szr at *
  split at h
  · rename_i h1; exact ⟨by rw [if_pos h1], h1⟩
  · omega
theorem szr_neg {l : Int} {n : Nat} (h0 : 0 ≤ l) (h : szr l n < 0) : l < n := by
  unfold szr at h
  split at h <;> omega
theorem szr_ge {l : Int} {n : Nat} (h : (n : Int) ≤ l) : szr l n = l - n := by unfold szr; rw [if_pos h]
theorem szr_lt {l : Int} {n : Nat} (h : l < (n : Int)) : szr l n = -1 := by unfold szr; rw [if_neg (by omega)]
theorem sum_step {α : Type} (f : α → Nat) (l : List α) (d : α) (k : Nat) (h : k < l.length) : ((l.take (k + 1)).map f).sum = ((l.take k).map f).sum + f (l.getD k d) :=
  take_sum l f k _ (by rw [List.getD_eq_getElem?_getD, List.getElem?_eq_getElem h]; rfl)
theorem set_step {α : Type} (l : List α) (d : α) (k : Nat) (h : k < l.length) : (l.take k ++ List.replicate (l.length - k) d).set k (l.getD k d) = l.take (k + 1) ++ List.replicate (l.length - (k + 1)) d := by
  have hk : (l.take k).length = k := by rw [List.length_take]; omega
  rw [List.set_append_right _ _ (by omega), hk, Nat.sub_self, show l.length - k = (l.length - (k + 1)) + 1 by omega, List.replicate_succ, List.set_cons_zero, take_snoc l k d h, List.append_assoc]
  rfl
theorem set_len {α : Type} (l : List α) (d : α) (k : Nat) (h : k ≤ l.length) : (l.take k ++ List.replicate (l.length - k) d).length = l.length := by
  simp; omega
theorem u8_back (x : UInt8) : UInt8.ofNat (Int.toNat ((x.toNat : Nat) : Int)) = x := by simp
theorem u8w (n : Int) : 0 ≤ IntKind.u8.wrap n ∧ IntKind.u8.wrap n < 256 := by
  unfold IntKind.wrap
  simp only [IntKind.signed, IntKind.bits]
  simp
  omega
theorem u8n (x : UInt8) : 0 ≤ ((x.toNat : Nat) : Int) ∧ ((x.toNat : Nat) : Int) < 256 := by
  have := x.toNat_lt
  omega
theorem u8_rt (n : Int) : (((UInt8.ofNat (IntKind.u8.wrap n).toNat).toNat : Nat) : Int) = IntKind.u8.wrap n := by
  have h := u8w n
  generalize IntKind.u8.wrap n = m at h
  simp
  omega
/-- Marks laid into a list's elements, from k on. -/
def mkl {α : Type} (mk : Int → α → α) (mn : α → Nat) : Int → List α → List α
  | _, [] => []
  | k, x :: r => mk k x :: mkl mk mn (k + mn x) r
def mnl {α : Type} (mn : α → Nat) (l : List α) : Nat := (l.map mn).sum
section
variable {α : Type} {mk : Int → α → α} {mn : α → Nat}
theorem mkl_len : ∀ {l : List α} {k : Int}, (mkl mk mn k l).length = l.length
  | [], _ => rfl
  | _ :: r, k => by rw [mkl, List.length_cons, List.length_cons, mkl_len]
theorem mnl_cons (x : α) (r : List α) : mnl mn (x :: r) = mn x + mnl mn r := by simp [mnl]
theorem mnl_step (l : List α) (d : α) (j : Nat) (h : j < l.length) : mnl mn (l.take (j + 1)) = mnl mn (l.take j) + mn (l.getD j d) := sum_step mn l d j h
theorem mnl_le (l : List α) (j : Nat) : mnl mn (l.take j) ≤ mnl mn l := take_sum_le l mn j
theorem mkl_app : ∀ {l m : List α} {k : Int}, mkl mk mn k (l ++ m) = mkl mk mn k l ++ mkl mk mn (k + mnl mn l) m
  | [], m, k => by simp [mkl, mnl]
  | x :: r, m, k => by
    rw [List.cons_append, mkl, mkl, mkl_app, List.cons_append, mnl_cons]
    congr 3
    omega
theorem mkl_getD {l : List α} {k : Int} {d : α} {j : Nat} (h : j < l.length) : (mkl mk mn k l).getD j d = mk (k + mnl mn (l.take j)) (l.getD j d) := by
  have e : l = l.take j ++ l.getD j d :: l.drop (j + 1) := by
    have : l.drop j = l.getD j d :: l.drop (j + 1) := by
      rw [List.drop_eq_getElem_cons h, List.getD_eq_getElem?_getD, List.getElem?_eq_getElem h]; rfl
    rw [← this, List.take_append_drop]
  have hj : (l.take j).length = j := by rw [List.length_take]; omega
  generalize l.getD j d = x at e ⊢
  rw [show mkl mk mn k l = mkl mk mn k (l.take j ++ x :: l.drop (j + 1)) by rw [← e], mkl_app, mkl]
  rw [List.getD_eq_getElem?_getD, List.getElem?_append_right (by rw [mkl_len, hj]; exact Nat.le_refl _), mkl_len, hj, Nat.sub_self]
  rfl
theorem mk_cur (l : List α) (k : Int) (d : α) (j : Nat) (h : j < l.length) : (mkl mk mn k (l.take j) ++ l.drop j).getD j d = l.getD j d := by
  have hj : (mkl mk mn k (l.take j)).length = j := by rw [mkl_len, List.length_take]; omega
  rw [List.getD_eq_getElem?_getD, List.getElem?_append_right (by omega), hj, Nat.sub_self, List.getElem?_drop, List.getD_eq_getElem?_getD, Nat.add_zero]
theorem mk_len (l : List α) (k : Int) (j : Nat) (h : j ≤ l.length) : (mkl mk mn k (l.take j) ++ l.drop j).length = l.length := by
  rw [List.length_append, mkl_len, List.length_take, List.length_drop]; omega
theorem mk_step (l : List α) (k : Int) (d : α) (j : Nat) (h : j < l.length) : (mkl mk mn k (l.take j) ++ l.drop j).set j (mk (k + mnl mn (l.take j)) (l.getD j d)) = mkl mk mn k (l.take (j + 1)) ++ l.drop (j + 1) := by
  have hj : (mkl mk mn k (l.take j)).length = j := by rw [mkl_len, List.length_take]; omega
  rw [List.set_append_right _ _ (by omega), hj, Nat.sub_self, List.drop_eq_getElem_cons h, List.set_cons_zero, take_snoc l j d h, mkl_app, mkl, mkl, List.append_assoc]
  rfl
theorem getD_set (L : List α) (d y : α) (j : Nat) (h : j < L.length) : (L.set j y).getD j d = y := by
  rw [List.getD_eq_getElem?_getD, List.getElem?_set_self h]; rfl
end
theorem W.boundO {P : Program} {ty : Tag → Nat} {zb : Base} {c : Code} {Q : Post} {st : St} (n : Nat) {t : Tag} {l : List (T t)} (h : look st.hp n = some (.arr t l)) (k : l.length ≤ 9223372036854775807 → W P ty zb c Q st) : W P ty zb c Q st := by
  intro a w iv
  obtain ⟨env, g⟩ := iv.good
  obtain ⟨oa, cap, _, h1, h2, _⟩ := RO.sl (g.obj n _ h)
  have e : maxLen = 9223372036854775807 := by decide
  exact k (by omega) a w iv
theorem W.conv {P : Program} {ty : Tag → Nat} {zb : Base} {c : Code} {Q : Post} {st : St} (st' : St) (h : st = st') (k : W P ty zb c Q st') : W P ty zb c Q st := h ▸ k
theorem notb {b : Bool} (h : (!b) = true) : b = false := by cases b <;> simp_all
end Go.Proofs.Ythlflnplnajjiaa.G
