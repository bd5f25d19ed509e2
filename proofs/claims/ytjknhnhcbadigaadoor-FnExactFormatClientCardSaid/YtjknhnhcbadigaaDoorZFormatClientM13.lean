/-
  The arguments of the laws, opened.
-/
import Derived.Test.YtjknhnhcbadigaaDoorZFormatClientM12
import Derived.Test.YtjknhnhcbadigaaDoorZFormatClientM3
namespace Go.Proofs.YtjknhnhcbadigaaDoor.C
set_option linter.all false
open Go.RowKit L D

set_option maxRecDepth 100000 in
theorem opens_Cli {H : Type} {enc : TypeId × Value → H} {w : World} {spare : Nat → Bool} {held : Bool} : Opens enc Tryd.prog w spare held 24 ECli wf_Cli := by
  intro fuel cs y h
  obtain ⟨xs, n, _, _, hl, hlen, hf⟩ := DataW.trod_struct Tryd.underlying24 h
  have hl2 : cs.length = 8 := hl.trans (by kernel_rfl)
  obtain ⟨c0, c1, c2, c3, c4, c5, c6, c7, rfl⟩ : ∃ c0 c1 c2 c3 c4 c5 c6 c7, cs = [c0, c1, c2, c3, c4, c5, c6, c7] := by
    match cs, hl2 with
    | [c0, c1, c2, c3, c4, c5, c6, c7], _ => exact ⟨_, _, _, _, _, _, _, _, rfl⟩
  obtain ⟨y0, hy0⟩ : ∃ y, xs[0]? = some y := ⟨_, List.getElem?_eq_getElem (by rw [hlen]; decide)⟩
  have q0 : DataW.trod enc Tryd.prog w 0 spare held n 3 (List.take (Tryd.prog.cellsOf 3) (List.drop 0 [c0, c1, c2, c3, c4, c5, c6, c7])) = xs[0]? := hf 0 _ rfl
  rw [hy0, show Tryd.prog.cellsOf 3 = 1 from by kernel_rfl] at q0
  have q0 : DataW.trod enc Tryd.prog w 0 spare held n 3 [c0] = some y0 := q0
  obtain ⟨x0, f0, e0, w0⟩ := (opens_int Tryd.underlying3) _ _ _ q0
  have e0 : EInt w [c0] x0 f0 := e0
  obtain ⟨z0, _⟩ := e0
  simp only [List.cons.injEq, and_true] at z0
  obtain ⟨y1, hy1⟩ : ∃ y, xs[1]? = some y := ⟨_, List.getElem?_eq_getElem (by rw [hlen]; decide)⟩
  have q1 : DataW.trod enc Tryd.prog w 0 spare held n 3 (List.take (Tryd.prog.cellsOf 3) (List.drop 1 [c0, c1, c2, c3, c4, c5, c6, c7])) = xs[1]? := hf 1 _ rfl
  rw [hy1, show Tryd.prog.cellsOf 3 = 1 from by kernel_rfl] at q1
  have q1 : DataW.trod enc Tryd.prog w 0 spare held n 3 [c1] = some y1 := q1
  obtain ⟨x1, f1, e1, w1⟩ := (opens_int Tryd.underlying3) _ _ _ q1
  have e1 : EInt w [c1] x1 f1 := e1
  obtain ⟨z1, _⟩ := e1
  simp only [List.cons.injEq, and_true] at z1
  obtain ⟨y2, hy2⟩ : ∃ y, xs[2]? = some y := ⟨_, List.getElem?_eq_getElem (by rw [hlen]; decide)⟩
  have q2 : DataW.trod enc Tryd.prog w 0 spare held n 3 (List.take (Tryd.prog.cellsOf 3) (List.drop 2 [c0, c1, c2, c3, c4, c5, c6, c7])) = xs[2]? := hf 2 _ rfl
  rw [hy2, show Tryd.prog.cellsOf 3 = 1 from by kernel_rfl] at q2
  have q2 : DataW.trod enc Tryd.prog w 0 spare held n 3 [c2] = some y2 := q2
  obtain ⟨x2, f2, e2, w2⟩ := (opens_int Tryd.underlying3) _ _ _ q2
  have e2 : EInt w [c2] x2 f2 := e2
  obtain ⟨z2, _⟩ := e2
  simp only [List.cons.injEq, and_true] at z2
  obtain ⟨y3, hy3⟩ : ∃ y, xs[3]? = some y := ⟨_, List.getElem?_eq_getElem (by rw [hlen]; decide)⟩
  have q3 : DataW.trod enc Tryd.prog w 0 spare held n 3 (List.take (Tryd.prog.cellsOf 3) (List.drop 3 [c0, c1, c2, c3, c4, c5, c6, c7])) = xs[3]? := hf 3 _ rfl
  rw [hy3, show Tryd.prog.cellsOf 3 = 1 from by kernel_rfl] at q3
  have q3 : DataW.trod enc Tryd.prog w 0 spare held n 3 [c3] = some y3 := q3
  obtain ⟨x3, f3, e3, w3⟩ := (opens_int Tryd.underlying3) _ _ _ q3
  have e3 : EInt w [c3] x3 f3 := e3
  obtain ⟨z3, _⟩ := e3
  simp only [List.cons.injEq, and_true] at z3
  obtain ⟨y4, hy4⟩ : ∃ y, xs[4]? = some y := ⟨_, List.getElem?_eq_getElem (by rw [hlen]; decide)⟩
  have q4 : DataW.trod enc Tryd.prog w 0 spare held n 22 (List.take (Tryd.prog.cellsOf 22) (List.drop 4 [c0, c1, c2, c3, c4, c5, c6, c7])) = xs[4]? := hf 4 _ rfl
  rw [hy4, show Tryd.prog.cellsOf 22 = 1 from by kernel_rfl] at q4
  have q4 : DataW.trod enc Tryd.prog w 0 spare held n 22 [c4] = some y4 := q4
  obtain ⟨x4, f4, e4, w4⟩ := (opens_sl (k := 1) Tryd.underlying22 (by kernel_rfl) (by decide) (opens_sl (k := 1) Tryd.underlying109 (by kernel_rfl) (by decide) (opens_u8 Tryd.underlying5))) _ _ _ q4
  have e4 : (ESl 1 (ESl 1 EU8)) w [c4] x4 f4 := e4
  obtain ⟨v4, z4, e4⟩ := e4
  simp only [List.cons.injEq, and_true] at z4
  obtain ⟨y5, hy5⟩ : ∃ y, xs[5]? = some y := ⟨_, List.getElem?_eq_getElem (by rw [hlen]; decide)⟩
  have q5 : DataW.trod enc Tryd.prog w 0 spare held n 3 (List.take (Tryd.prog.cellsOf 3) (List.drop 5 [c0, c1, c2, c3, c4, c5, c6, c7])) = xs[5]? := hf 5 _ rfl
  rw [hy5, show Tryd.prog.cellsOf 3 = 1 from by kernel_rfl] at q5
  have q5 : DataW.trod enc Tryd.prog w 0 spare held n 3 [c5] = some y5 := q5
  obtain ⟨x5, f5, e5, w5⟩ := (opens_int Tryd.underlying3) _ _ _ q5
  have e5 : EInt w [c5] x5 f5 := e5
  obtain ⟨z5, _⟩ := e5
  simp only [List.cons.injEq, and_true] at z5
  obtain ⟨y6, hy6⟩ : ∃ y, xs[6]? = some y := ⟨_, List.getElem?_eq_getElem (by rw [hlen]; decide)⟩
  have q6 : DataW.trod enc Tryd.prog w 0 spare held n 22 (List.take (Tryd.prog.cellsOf 22) (List.drop 6 [c0, c1, c2, c3, c4, c5, c6, c7])) = xs[6]? := hf 6 _ rfl
  rw [hy6, show Tryd.prog.cellsOf 22 = 1 from by kernel_rfl] at q6
  have q6 : DataW.trod enc Tryd.prog w 0 spare held n 22 [c6] = some y6 := q6
  obtain ⟨x6, f6, e6, w6⟩ := (opens_sl (k := 1) Tryd.underlying22 (by kernel_rfl) (by decide) (opens_sl (k := 1) Tryd.underlying109 (by kernel_rfl) (by decide) (opens_u8 Tryd.underlying5))) _ _ _ q6
  have e6 : (ESl 1 (ESl 1 EU8)) w [c6] x6 f6 := e6
  obtain ⟨v6, z6, e6⟩ := e6
  simp only [List.cons.injEq, and_true] at z6
  obtain ⟨y7, hy7⟩ : ∃ y, xs[7]? = some y := ⟨_, List.getElem?_eq_getElem (by rw [hlen]; decide)⟩
  have q7 : DataW.trod enc Tryd.prog w 0 spare held n 3 (List.take (Tryd.prog.cellsOf 3) (List.drop 7 [c0, c1, c2, c3, c4, c5, c6, c7])) = xs[7]? := hf 7 _ rfl
  rw [hy7, show Tryd.prog.cellsOf 3 = 1 from by kernel_rfl] at q7
  have q7 : DataW.trod enc Tryd.prog w 0 spare held n 3 [c7] = some y7 := q7
  obtain ⟨x7, f7, e7, w7⟩ := (opens_int Tryd.underlying3) _ _ _ q7
  have e7 : EInt w [c7] x7 f7 := e7
  obtain ⟨z7, _⟩ := e7
  simp only [List.cons.injEq, and_true] at z7
  subst z0
  subst z1
  subst z2
  subst z3
  subst z4
  subst z5
  subst z6
  subst z7
  exact ⟨⟨x0, x1, x2, x3, x4, x5, x6, x7⟩, _, ⟨_, _, _, _, rfl, e4, e6, rfl⟩, ⟨w0, w1, w2, w3, w4, w5, w6, w7⟩⟩


end Go.Proofs.YtjknhnhcbadigaaDoor.C
