/-
  Sizes, and marks, of the data.
-/
import Derived.Test.YthlflnplnajjiaaE7
namespace Go.Proofs.Ythlflnplnajjiaa.G
set_option linter.all false
open Go.RowKit L D
set_option maxRecDepth 100000
def mku8 (k : Int) (_ : UInt8) : UInt8 := UInt8.ofNat (IntKind.u8.wrap k).toNat
theorem getD_some {α : Type} (l : List α) (d : α) (k : Nat) (h : k < l.length) : l[k]? = some (l.getD k d) := by
  rw [List.getD_eq_getElem?_getD, List.getElem?_eq_getElem h]; rfl
def size_Ev (x : Ev) : Nat := List.length x.body
def mne_Ev (x : Ev) : Nat := 1 + 1 + 1 + (mnl (fun _ => 1)) x.body
def mke_Ev (k : Int) (x : Ev) : Ev := ⟨k, k + 1, k + 1 + 1, (mkl mku8 (fun _ => 1)) (k + 1 + 1 + 1) x.body⟩
def mnv_Ev (x : Ev) : Nat := (mnl (fun _ => 1)) x.body
def mkv_Ev (k : Int) (x : Ev) : Ev := ⟨x.kind, x.node, x.value, (mkl mku8 (fun _ => 1)) (k) x.body⟩
theorem mnl_one {α : Type} (l : List α) : mnl (fun _ => 1) l = l.length := by
  induction l with
  | nil => rfl
  | cons x r ih => rw [mnl_cons, ih, List.length_cons]; omega
theorem mnl_lsz {α : Type} {mn sz : α → Nat} {C : Nat} (h : ∀ e, mn e ≤ C * (1 + sz e)) (l : List α) : mnl mn l ≤ C * lsz sz l := by
  unfold lsz mnl
  induction l with
  | nil => simp
  | cons x r ih =>
    simp only [List.map_cons, List.sum_cons, List.length_cons]
    have := h x
    have e : C * (r.length + 1 + (sz x + (r.map sz).sum)) = C * (1 + sz x) + C * (r.length + (r.map sz).sum) := by rw [← Nat.mul_add]; congr 1; omega
    omega
theorem mnl_len {α : Type} (l : List α) : mnl (fun _ => 1) l ≤ 32 * List.length l := by rw [mnl_one]; omega
theorem mnl_len1 {α : Type} (l : List α) : mnl (fun _ => 1) l ≤ 32 * (1 + List.length l) := by rw [mnl_one]; omega
theorem mne_le_Ev (x : Ev) : mne_Ev x ≤ 32 * (1 + size_Ev x) := by
  have h0 : (mnl (fun _ => 1)) x.body ≤ 32 * List.length x.body := mnl_len x.body
  simp only [mne_Ev, size_Ev]
  omega
theorem mnv_le_Ev (x : Ev) : mnv_Ev x ≤ 32 * size_Ev x := by
  have h0 : (mnl (fun _ => 1)) x.body ≤ 32 * List.length x.body := mnl_len x.body
  simp only [mnv_Ev, size_Ev]
  omega
end Go.Proofs.Ythlflnplnajjiaa.G
