/-
  The arguments of the laws, opened.
-/
import Derived.Test.YthlflnplnajjiaaC0
import Derived.Test.YthlflnplnajjiaaL5
namespace Go.Proofs.Ythlflnplnajjiaa.C
set_option linter.all false
open Go.RowKit L D

set_option maxRecDepth 100000 in
theorem opens_Ev {H : Type} {enc : TypeId × Value → H} {w : World} {spare : Nat → Bool} {held : Bool} : Opens enc Try.prog w spare held 54 EEv wf_Ev := by
  intro fuel cs y h
  obtain ⟨xs, n, _, _, hl, hlen, hf⟩ := DataW.trod_struct Try.underlying54 h
  have hl2 : cs.length = 4 := hl.trans (by kernel_rfl)
  obtain ⟨c0, c1, c2, c3, rfl⟩ : ∃ c0 c1 c2 c3, cs = [c0, c1, c2, c3] := by
    match cs, hl2 with
    | [c0, c1, c2, c3], _ => exact ⟨_, _, _, _, rfl⟩
  obtain ⟨y0, hy0⟩ : ∃ y, xs[0]? = some y := ⟨_, List.getElem?_eq_getElem (by rw [hlen]; decide)⟩
  have q0 : DataW.trod enc Try.prog w 0 spare held n 3 (List.take (Try.prog.cellsOf 3) (List.drop 0 [c0, c1, c2, c3])) = xs[0]? := hf 0 _ rfl
  rw [hy0, show Try.prog.cellsOf 3 = 1 from by kernel_rfl] at q0
  have q0 : DataW.trod enc Try.prog w 0 spare held n 3 [c0] = some y0 := q0
  obtain ⟨x0, f0, e0, w0⟩ := (opens_int Try.underlying3) _ _ _ q0
  have e0 : EInt w [c0] x0 f0 := e0
  obtain ⟨z0, _⟩ := e0
  simp only [List.cons.injEq, and_true] at z0
  obtain ⟨y1, hy1⟩ : ∃ y, xs[1]? = some y := ⟨_, List.getElem?_eq_getElem (by rw [hlen]; decide)⟩
  have q1 : DataW.trod enc Try.prog w 0 spare held n 3 (List.take (Try.prog.cellsOf 3) (List.drop 1 [c0, c1, c2, c3])) = xs[1]? := hf 1 _ rfl
  rw [hy1, show Try.prog.cellsOf 3 = 1 from by kernel_rfl] at q1
  have q1 : DataW.trod enc Try.prog w 0 spare held n 3 [c1] = some y1 := q1
  obtain ⟨x1, f1, e1, w1⟩ := (opens_int Try.underlying3) _ _ _ q1
  have e1 : EInt w [c1] x1 f1 := e1
  obtain ⟨z1, _⟩ := e1
  simp only [List.cons.injEq, and_true] at z1
  obtain ⟨y2, hy2⟩ : ∃ y, xs[2]? = some y := ⟨_, List.getElem?_eq_getElem (by rw [hlen]; decide)⟩
  have q2 : DataW.trod enc Try.prog w 0 spare held n 3 (List.take (Try.prog.cellsOf 3) (List.drop 2 [c0, c1, c2, c3])) = xs[2]? := hf 2 _ rfl
  rw [hy2, show Try.prog.cellsOf 3 = 1 from by kernel_rfl] at q2
  have q2 : DataW.trod enc Try.prog w 0 spare held n 3 [c2] = some y2 := q2
  obtain ⟨x2, f2, e2, w2⟩ := (opens_int Try.underlying3) _ _ _ q2
  have e2 : EInt w [c2] x2 f2 := e2
  obtain ⟨z2, _⟩ := e2
  simp only [List.cons.injEq, and_true] at z2
  obtain ⟨y3, hy3⟩ : ∃ y, xs[3]? = some y := ⟨_, List.getElem?_eq_getElem (by rw [hlen]; decide)⟩
  have q3 : DataW.trod enc Try.prog w 0 spare held n 30 (List.take (Try.prog.cellsOf 30) (List.drop 3 [c0, c1, c2, c3])) = xs[3]? := hf 3 _ rfl
  rw [hy3, show Try.prog.cellsOf 30 = 1 from by kernel_rfl] at q3
  have q3 : DataW.trod enc Try.prog w 0 spare held n 30 [c3] = some y3 := q3
  obtain ⟨x3, f3, e3, w3⟩ := (opens_sl (k := 1) Try.underlying30 (by kernel_rfl) (by decide) (opens_u8 Try.underlying5)) _ _ _ q3
  have e3 : (ESl 1 EU8) w [c3] x3 f3 := e3
  obtain ⟨v3, z3, e3⟩ := e3
  simp only [List.cons.injEq, and_true] at z3
  subst z0
  subst z1
  subst z2
  subst z3
  exact ⟨⟨x0, x1, x2, x3⟩, _, ⟨_, _, rfl, e3, rfl⟩, ⟨w0, w1, w2, w3⟩⟩

end Go.Proofs.Ythlflnplnajjiaa.C
