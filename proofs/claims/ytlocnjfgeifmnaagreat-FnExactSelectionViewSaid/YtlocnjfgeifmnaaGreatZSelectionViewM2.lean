/-
  Small laws for the walk: blocks known whole, stores into them, results in memory, loads in regions that draw. No program in sight.
-/
import Derived.Test.YtlocnjfgeifmnaaGreatZSelectionViewM1
import Derived.Test.YtlocnjfgeifmnaaGreatZSelectionViewM0
import Derived.StillTailTactics
import Derived.Deep.QuietTactic
import Derived.BigQuiet
namespace Go.Proofs.YtlocnjfgeifmnaaGreat.L
set_option linter.all false
open Go.RowKit

theorem alloc_top {w : World} {o : Obj} {k : Nat} (hk : k = w.heap.size) : (w.alloc o).heap[k]? = some o := by
  subst hk
  show (w.heap.push o)[w.heap.size]? = _
  simp
theorem alloc_old {w : World} {o x : Obj} {k : Nat} (h : w.heap[k]? = some x) : (w.alloc o).heap[k]? = some x := by
  have hk : k < w.heap.size := (Array.getElem?_eq_some_iff.1 h).1
  show (w.heap.push o)[k]? = _
  rw [Array.getElem?_push, if_neg (by omega), h]
theorem blk {W w1 : World} (hb : Below W.heap.size W w1) {b : Nat} {o : Obj} (h : W.heap[b]? = some o) : w1.heap[b]? = some o := by
  rw [hb.block b (Array.getElem?_eq_some_iff.1 h).1, h]
theorem cellB {w : World} {b : Nat} {arr : Array Value} {e : TypeId} {f : Nat × Nat} (h : w.heap[b]? = some (.cells arr e f)) (o : Nat) : w.cell? ⟨b, o, none⟩ = arr[o]? := by simp [World.cell?, h]
theorem frzB {w : World} {b : Nat} {arr : Array Value} {e : TypeId} (h : w.heap[b]? = some (.cells arr e (0, 0))) (o : Nat) : w.frozen? ⟨b, o, none⟩ = false := by simp [World.frozen?, h]
theorem sizeB {w : World} {b : Nat} {o : Obj} (h : w.heap[b]? = some o) : b < w.heap.size := (Array.getElem?_eq_some_iff.1 h).1
theorem rangeB {w : World} {b : Nat} {arr : Array Value} {e : TypeId} {f : Nat × Nat} (h : w.heap[b]? = some (.cells arr e f)) : w.rangeAt b 0 arr.toList := fun j v hv => by
  rw [Nat.zero_add, cellB h]; simpa using hv
theorem rangeB' {w : World} {b : Nat} {arr : Array Value} {e : TypeId} {f : Nat × Nat} (h : w.heap[b]? = some (.cells arr e f)) (o : Nat) (cs : List Value) (hc : ∀ j v, cs[j]? = some v → arr[o + j]? = some v) : w.rangeAt b o cs := fun j v hv => by
  rw [cellB h]; exact hc j v hv
theorem thereB {w : World} {b : Nat} {arr : Array Value} {e : TypeId} (h : w.heap[b]? = some (.cells arr e (0, 0))) (o n : Nat) (hn : o + n ≤ arr.size) : w.there b o n := fun j hj => by
  rw [cellB h, frzB h]; simp; omega
theorem setc_same {w : World} {g o : Nat} {c : Array Value} {e : TypeId} {v : Value} (h : w.heap[g]? = some (.cells c e (0, 0))) : (w.setCell ⟨g, o, none⟩ v).heap[g]? = some (.cells (c.setIfInBounds o v) e (0, 0)) := heap_setCell_same w g o c e v h
theorem setc_other {w : World} {g o b : Nat} {x : Obj} {v : Value} (h : w.heap[b]? = some x) (hne : b ≠ g) : (w.setCell ⟨g, o, none⟩ v).heap[b]? = some x := by
  rw [heap_setCell_other w ⟨g, o, none⟩ b v hne, h]
def splice (c : Array Value) : Nat → List Value → Array Value
  | _, [] => c
  | o, v :: r => splice (c.setIfInBounds o v) (o + 1) r
theorem setcs_same {g : Nat} {e : TypeId} : ∀ {vs : List Value} {o : Nat} {w : World} {c : Array Value}, w.heap[g]? = some (.cells c e (0, 0)) → (w.setCells g o vs).heap[g]? = some (.cells (splice c o vs) e (0, 0))
  | [], _, _, _, h => h
  | _ :: _, _, _, _, h => by rw [World.setCells, splice]; exact setcs_same (setc_same h)
theorem setcs_other {w : World} {g o b : Nat} {x : Obj} {vs : List Value} (h : w.heap[b]? = some x) (hne : b ≠ g) : (w.setCells g o vs).heap[b]? = some x := by
  rw [setCells_other g vs o w b hne, h]
theorem agree_setc {w : World} {g o : Nat} {v : Value} {fp : List Nat} (h : ∀ b, b ∈ fp → b ≠ g) : Agree w (w.setCell ⟨g, o, none⟩ v) fp := fun b hb => heap_setCell_other w ⟨g, o, none⟩ b v (h b hb)
theorem agree_setcs {w : World} {g o : Nat} {vs : List Value} {fp : List Nat} (h : ∀ b, b ∈ fp → b ≠ g) : Agree w (w.setCells g o vs) fp := fun b hb => setCells_other g vs o w b (h b hb)
theorem Own.ne {lo g : Nat} {w : World} {fp : List Nat} (h : Own lo w fp) (hg : g < lo) : ∀ b, b ∈ fp → b ≠ g := fun b hb e => by have := h.ge b hb; omega
theorem Own.app {lo m : Nat} {w : World} {a b : List Nat} (ha : Own lo w a) (hlt : ∀ x, x ∈ a → x < m) (hb : Own m w b) (hlm : lo ≤ m) : Own lo w (a ++ b) := by
  refine ⟨List.nodup_append.2 ⟨ha.nodup, hb.nodup, fun x hx y hy e => ?_⟩, fun x hx => ?_, fun x hx => ?_⟩
  · have h1 := hlt x hx; have h2 := hb.ge y hy; omega
  · rcases List.mem_append.1 hx with hx | hx
    · exact ha.ge x hx
    · exact Nat.le_trans hlm (hb.ge x hx)
  · rcases List.mem_append.1 hx with hx | hx
    · exact ha.kind x hx
    · exact hb.kind x hx
theorem Fine.drew {α : Type} {k : Nat} {E : ER α} (G : Fine k E) {w : World} {cs : List Value} {x : α} {fp : List Nat} (h : E w cs x fp) : E w.drew cs x fp := G.agree h (fun _ _ => rfl)
theorem Fine.below {α : Type} {k : Nat} {E : ER α} (G : Fine k E) {w w' : World} {cs : List Value} {x : α} {fp : List Nat} (h : E w cs x fp) (hb : Below w.heap.size w w') : E w' cs x fp := G.agree h (agree_below hb (G.lt h))
theorem Sl.drew {α : Type} {k : Nat} {E : ER α} (G : Fine k E) {w : World} {v : Value} {l : List α} {fp : List Nat} (h : Sl k E w v l fp) : Sl k E w.drew v l fp := Sl.agree G h (fun _ _ => rfl)
theorem Sl.form {α : Type} {k : Nat} {E : ER α} {w : World} {v : Value} {l : List α} {fp : List Nat} (h : Sl k E w v l fp) : ∃ oa n cap, v = .slice oa n cap := by
  obtain ⟨oa, cap, rfl, _⟩ := h; exact ⟨_, _, _, rfl⟩
theorem getE {α : Type} {l : List α} {k : Nat} (h : k < l.length) : ∃ x, l[k]? = some x := ⟨_, List.getElem?_eq_getElem h⟩
theorem ret_int {k : IntKind} {a b : Int} (h : b = a) : Ending.returned (.int k a) = .returned (.int k b) := by rw [h]
theorem ret_bool {a b : Bool} (h : b = a) : Ending.returned (.bool a) = .returned (.bool b) := by rw [h]

/-- A loaded struct in a region that draws. -/
theorem still_load_mid {P : Program} {op : Oper} {a : Act} {w : World} {K : Act → Prop} (ty : TypeId) (x : Operand) (ho : op.op = .load ty x)
    (b o : Nat) (hx : a.eval x = .pointer (some ⟨b, o, none⟩)) (cs : List Value) (d : TypeDesc) (hc : w.rangeAt b o cs)
    (hu : P.underlying ty = some d) (hd : d.isRow = true) (hi : (P.info? ty).map (·.size) = some cs.length)
    (h : K (a.put op.dst (.agg cs.toArray))) : op.still P a w K := by
  unfold Oper.still execOp
  simp only [ho, hx, Instr.loadAt, Instr.sureAddr, Sem.run_bind, Sem.run_pure, Result.andThen_ok, run_loadVar_mid w b o ty cs d hc hu hd hi, Oper.stillUpon_value]
  exact h

/-- A struct's type: how many cells. -/
def IsRowT (P : Program) (ty k : Nat) : Prop := ∃ d, P.underlying ty = some d ∧ d.isRow = true ∧ (P.info? ty).map (·.size) = some k
theorem wpList_ld {P : Program} {ops : Array Oper} {rest : List Oper} {op : Oper} {a : Act} {w : World} {Q : Exit → Act → World → Prop} {ty k b o : Nat} {x : Operand} {cs : List Value}
    (hT : IsRowT P ty k) (hc : w.rangeAt b o cs) (hk : cs.length = k) (hgd : op.guard = none) (ho : op.op = .load ty x) (hx : a.eval x = .pointer (some ⟨b, o, none⟩))
    (h : wpList P ops Q rest (a.put op.dst (.agg cs.toArray)) w) : wpList P ops Q (op :: rest) a w := by
  obtain ⟨d, hu, hd, hi⟩ := hT
  exact wpList_load_mid hgd ty x ho b o hx cs d hc hu hd (by rw [hk]; exact hi) h
theorem still_ld {P : Program} {op : Oper} {a : Act} {w : World} {K : Act → Prop} {ty k b o : Nat} {x : Operand} {cs : List Value}
    (hT : IsRowT P ty k) (hc : w.rangeAt b o cs) (hk : cs.length = k) (ho : op.op = .load ty x) (hx : a.eval x = .pointer (some ⟨b, o, none⟩))
    (h : K (a.put op.dst (.agg cs.toArray))) : op.still P a w K := by
  obtain ⟨d, hu, hd, hi⟩ := hT
  exact still_load_mid ty x ho b o hx cs d hc hu hd (by rw [hk]; exact hi) h
theorem wpList_st {P : Program} {ops : Array Oper} {rest : List Oper} {op : Oper} {a : Act} {w : World} {Q : Exit → Act → World → Prop} {ty k b o : Nat} {x y : Operand} {cs : List Value}
    (hT : IsRowT P ty k) (ht : w.there b o k) (hk : cs.length = k) (h1 : ∀ u, u ∈ cs → u.oneCell' = true) (hgd : op.guard = none) (ho : op.op = .store ty x y) (hx : a.eval x = .pointer (some ⟨b, o, none⟩)) (hy : a.eval y = .agg cs.toArray)
    (h : wpList P ops Q rest (a.put op.dst undef) (w.setCells b o cs)) : wpList P ops Q (op :: rest) a w := by
  obtain ⟨d, hu, hd, hi⟩ := hT
  exact wpList_store_mid hgd ty x y ho b o cs.toArray hx hy (by rw [List.size_toArray, hk]; exact ht) (by rw [List.size_toArray, hk]; exact hi) (all_oneCell_toArray h1) h

/-- A struct result that lies in memory. -/
theorem results_cell {fn : Func} {p : Tmp} {ty : TypeId} {P : Program} {w : World} {tmps : Array Value} (h : fn.results = #[.cell p ty]) (g : Nat) (hp : tmps.getD p undef = .pointer (some ⟨g, 0, none⟩))
    (cs : List Value) {k : Nat} (hc : w.rangeAt g 0 cs) (hT : IsRowT P ty k) (hk : cs.length = k) :
    (results fn tmps).run P w = .ok (.agg cs.toArray) w := by
  obtain ⟨d, hu, hd, hi⟩ := hT
  rw [← hk] at hi
  simp only [results, h]
  simp only [Array.getD_eq_getD_getElem?] at hp
  simp [Sem.run_bind, hp, asAddr, run_loadVar_mid w g 0 ty cs d hc hu hd hi]
theorem results_cell_tmp' {fn : Func} {p u : Tmp} {ty : TypeId} {P : Program} {w : World} {tmps : Array Value} (h : fn.results = #[.cell p ty, .tmp u]) (g : Nat) (hp : tmps.getD p undef = .pointer (some ⟨g, 0, none⟩))
    (cs : List Value) {k : Nat} (hc : w.rangeAt g 0 cs) (hT : IsRowT P ty k) (hk : cs.length = k) :
    (results fn tmps).run P w = .ok (.tuple #[.agg cs.toArray, tmps.getD u undef]) w := by
  obtain ⟨d, hu, hd, hi⟩ := hT
  rw [← hk] at hi
  rw [results_cell_tmp h, hp]
  simp [asAddr, run_loadVar_mid w g 0 ty cs d hc hu hd hi]

/-! ### What a call gives back -/
/-- A fresh slice. -/
def Fresh {α : Type} (k : Nat) (E : ER α) (e : Nat) (w : World) (l : List α) (en : Ending) (w' : World) : Prop :=
  ∃ v fp, en = .returned v ∧ Below w.heap.size w w' ∧ Bld k E w.heap.size e w' v l fp
/-- A struct's value over fresh memory. -/
def FreshC {α : Type} (E : ER α) (w : World) (x : α) (en : Ending) (w' : World) : Prop :=
  ∃ cs fp, en = .returned (.agg cs.toArray) ∧ Below w.heap.size w w' ∧ E w' cs x fp ∧ Own w.heap.size w' fp
/-- A plain value; what was there is as it was. -/
def Gives (w : World) (v : Value) (en : Ending) (w' : World) : Prop := en = .returned v ∧ Below w.heap.size w w'

/-! ### Sizes -/
/-- What is left of a budget. -/
def szN (left : Int) (n : Nat) : Int := if left - n < 0 then -1 else left - n
theorem szN_neg {left : Int} {n : Nat} (h : left - n < 0) : szN left n = -1 := by simp [szN, h]
theorem szN_pos {left : Int} {n : Nat} (h : ¬ left - n < 0) : szN left n = left - n := by simp [szN, h]
def lsz {α : Type} (f : α → Nat) (l : List α) : Nat := l.length + (l.map f).sum
theorem take_sum {α : Type} (l : List α) (f : α → Nat) (k : Nat) (x : α) (h : l[k]? = some x) : ((l.take (k + 1)).map f).sum = ((l.take k).map f).sum + f x := by
  rw [List.take_add_one, h]; simp
theorem take_sum_le {α : Type} (l : List α) (f : α → Nat) (k : Nat) : ((l.take k).map f).sum ≤ (l.map f).sum := by
  have := congrArg (fun q => (q.map f).sum) (List.take_append_drop k l)
  simp only [List.map_append, List.sum_append] at this
  omega
theorem lsz_len {α : Type} {f : α → Nat} {l : List α} {b : Nat} (h : lsz f l ≤ b) : l.length ≤ b := by unfold lsz at h; omega
theorem lsz_mem {α : Type} {f : α → Nat} {l : List α} {b : Nat} (h : lsz f l ≤ b) {i : Nat} {x : α} (hx : l[i]? = some x) : f x ≤ b := by
  have h1 := take_sum l f i x hx
  have h2 := take_sum_le l f (i + 1)
  unfold lsz at h; omega
end Go.Proofs.YtlocnjfgeifmnaaGreat.L
