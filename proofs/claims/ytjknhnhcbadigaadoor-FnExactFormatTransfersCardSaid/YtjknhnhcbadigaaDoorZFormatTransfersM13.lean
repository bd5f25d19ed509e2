/-
  The arguments of the laws, opened.
-/
import Derived.Test.YtjknhnhcbadigaaDoorZFormatTransfersM12
import Derived.Test.YtjknhnhcbadigaaDoorZFormatTransfersM3
namespace Go.Proofs.YtjknhnhcbadigaaDoor.C
set_option linter.all false
open Go.RowKit L D

set_option maxRecDepth 100000 in
theorem opens_Trf {H : Type} {enc : TypeId × Value → H} {w : World} {spare : Nat → Bool} {held : Bool} : Opens enc Tryd.prog w spare held 81 ETrf wf_Trf := by
  intro fuel cs y h
  obtain ⟨xs, n, _, _, hl, hlen, hf⟩ := DataW.trod_struct Tryd.underlying81 h
  have hl2 : cs.length = 3 := hl.trans (by kernel_rfl)
  obtain ⟨c0, c1, c2, rfl⟩ : ∃ c0 c1 c2, cs = [c0, c1, c2] := by
    match cs, hl2 with
    | [c0, c1, c2], _ => exact ⟨_, _, _, rfl⟩
  obtain ⟨y0, hy0⟩ : ∃ y, xs[0]? = some y := ⟨_, List.getElem?_eq_getElem (by rw [hlen]; decide)⟩
  have q0 : DataW.trod enc Tryd.prog w 0 spare held n 3 (List.take (Tryd.prog.cellsOf 3) (List.drop 0 [c0, c1, c2])) = xs[0]? := hf 0 _ rfl
  rw [hy0, show Tryd.prog.cellsOf 3 = 1 from by kernel_rfl] at q0
  have q0 : DataW.trod enc Tryd.prog w 0 spare held n 3 [c0] = some y0 := q0
  obtain ⟨x0, f0, e0, w0⟩ := (opens_int Tryd.underlying3) _ _ _ q0
  have e0 : EInt w [c0] x0 f0 := e0
  obtain ⟨z0, _⟩ := e0
  simp only [List.cons.injEq, and_true] at z0
  obtain ⟨y1, hy1⟩ : ∃ y, xs[1]? = some y := ⟨_, List.getElem?_eq_getElem (by rw [hlen]; decide)⟩
  have q1 : DataW.trod enc Tryd.prog w 0 spare held n 3 (List.take (Tryd.prog.cellsOf 3) (List.drop 1 [c0, c1, c2])) = xs[1]? := hf 1 _ rfl
  rw [hy1, show Tryd.prog.cellsOf 3 = 1 from by kernel_rfl] at q1
  have q1 : DataW.trod enc Tryd.prog w 0 spare held n 3 [c1] = some y1 := q1
  obtain ⟨x1, f1, e1, w1⟩ := (opens_int Tryd.underlying3) _ _ _ q1
  have e1 : EInt w [c1] x1 f1 := e1
  obtain ⟨z1, _⟩ := e1
  simp only [List.cons.injEq, and_true] at z1
  obtain ⟨y2, hy2⟩ : ∃ y, xs[2]? = some y := ⟨_, List.getElem?_eq_getElem (by rw [hlen]; decide)⟩
  have q2 : DataW.trod enc Tryd.prog w 0 spare held n 3 (List.take (Tryd.prog.cellsOf 3) (List.drop 2 [c0, c1, c2])) = xs[2]? := hf 2 _ rfl
  rw [hy2, show Tryd.prog.cellsOf 3 = 1 from by kernel_rfl] at q2
  have q2 : DataW.trod enc Tryd.prog w 0 spare held n 3 [c2] = some y2 := q2
  obtain ⟨x2, f2, e2, w2⟩ := (opens_int Tryd.underlying3) _ _ _ q2
  have e2 : EInt w [c2] x2 f2 := e2
  obtain ⟨z2, _⟩ := e2
  simp only [List.cons.injEq, and_true] at z2
  subst z0
  subst z1
  subst z2
  exact ⟨⟨x0, x1, x2⟩, _, ⟨rfl, rfl⟩, ⟨w0, w1, w2⟩⟩

end Go.Proofs.YtjknhnhcbadigaaDoor.C
