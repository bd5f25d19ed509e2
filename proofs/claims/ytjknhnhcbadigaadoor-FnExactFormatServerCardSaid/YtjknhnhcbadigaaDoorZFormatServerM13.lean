/-
  The arguments of the laws, opened.
-/
import Derived.Test.YtjknhnhcbadigaaDoorZFormatServerM12
import Derived.Test.YtjknhnhcbadigaaDoorZFormatServerM3
namespace Go.Proofs.YtjknhnhcbadigaaDoor.C
set_option linter.all false
open Go.RowKit L D

set_option maxRecDepth 100000 in
theorem opens_DB {H : Type} {enc : TypeId × Value → H} {w : World} {spare : Nat → Bool} {held : Bool} : Opens enc Tryd.prog w spare held 113 EDB wf_DB := by
  intro fuel cs y h
  obtain ⟨xs, n, _, _, hl, hlen, hf⟩ := DataW.trod_struct Tryd.underlying113 h
  have hl2 : cs.length = 1 := hl.trans (by kernel_rfl)
  obtain ⟨c0, rfl⟩ : ∃ c0, cs = [c0] := by
    match cs, hl2 with
    | [c0], _ => exact ⟨_, rfl⟩
  obtain ⟨y0, hy0⟩ : ∃ y, xs[0]? = some y := ⟨_, List.getElem?_eq_getElem (by rw [hlen]; decide)⟩
  have q0 : DataW.trod enc Tryd.prog w 0 spare held n 22 (List.take (Tryd.prog.cellsOf 22) (List.drop 0 [c0])) = xs[0]? := hf 0 _ rfl
  rw [hy0, show Tryd.prog.cellsOf 22 = 1 from by kernel_rfl] at q0
  have q0 : DataW.trod enc Tryd.prog w 0 spare held n 22 [c0] = some y0 := q0
  obtain ⟨x0, f0, e0, w0⟩ := (opens_sl (k := 1) Tryd.underlying22 (by kernel_rfl) (by decide) (opens_sl (k := 1) Tryd.underlying109 (by kernel_rfl) (by decide) (opens_u8 Tryd.underlying5))) _ _ _ q0
  have e0 : (ESl 1 (ESl 1 EU8)) w [c0] x0 f0 := e0
  obtain ⟨v0, z0, e0⟩ := e0
  simp only [List.cons.injEq, and_true] at z0
  subst z0
  exact ⟨⟨x0⟩, _, ⟨_, _, rfl, e0, rfl⟩, w0⟩


set_option maxRecDepth 100000 in
theorem opens_RShare {H : Type} {enc : TypeId × Value → H} {w : World} {spare : Nat → Bool} {held : Bool} : Opens enc Tryd.prog w spare held 115 ERShare wf_RShare := by
  intro fuel cs y h
  obtain ⟨xs, n, _, _, hl, hlen, hf⟩ := DataW.trod_struct Tryd.underlying115 h
  have hl2 : cs.length = 2 := hl.trans (by kernel_rfl)
  obtain ⟨c0, c1, rfl⟩ : ∃ c0 c1, cs = [c0, c1] := by
    match cs, hl2 with
    | [c0, c1], _ => exact ⟨_, _, rfl⟩
  obtain ⟨y0, hy0⟩ : ∃ y, xs[0]? = some y := ⟨_, List.getElem?_eq_getElem (by rw [hlen]; decide)⟩
  have q0 : DataW.trod enc Tryd.prog w 0 spare held n 3 (List.take (Tryd.prog.cellsOf 3) (List.drop 0 [c0, c1])) = xs[0]? := hf 0 _ rfl
  rw [hy0, show Tryd.prog.cellsOf 3 = 1 from by kernel_rfl] at q0
  have q0 : DataW.trod enc Tryd.prog w 0 spare held n 3 [c0] = some y0 := q0
  obtain ⟨x0, f0, e0, w0⟩ := (opens_int Tryd.underlying3) _ _ _ q0
  have e0 : EInt w [c0] x0 f0 := e0
  obtain ⟨z0, _⟩ := e0
  simp only [List.cons.injEq, and_true] at z0
  obtain ⟨y1, hy1⟩ : ∃ y, xs[1]? = some y := ⟨_, List.getElem?_eq_getElem (by rw [hlen]; decide)⟩
  have q1 : DataW.trod enc Tryd.prog w 0 spare held n 113 (List.take (Tryd.prog.cellsOf 113) (List.drop 1 [c0, c1])) = xs[1]? := hf 1 _ rfl
  rw [hy1, show Tryd.prog.cellsOf 113 = 1 from by kernel_rfl] at q1
  have q1 : DataW.trod enc Tryd.prog w 0 spare held n 113 [c1] = some y1 := q1
  obtain ⟨x1, f1, e1, w1⟩ := opens_DB _ _ _ q1
  have e1 : EDB w [c1] x1 f1 := e1
  subst z0
  exact ⟨⟨x0, x1⟩, _, ⟨_, _, rfl, e1, rfl⟩, ⟨w0, w1⟩⟩


set_option maxRecDepth 100000 in
theorem opens_Srv {H : Type} {enc : TypeId × Value → H} {w : World} {spare : Nat → Bool} {held : Bool} : Opens enc Tryd.prog w spare held 40 ESrv wf_Srv := by
  intro fuel cs y h
  obtain ⟨xs, n, _, _, hl, hlen, hf⟩ := DataW.trod_struct Tryd.underlying40 h
  have hl2 : cs.length = 5 := hl.trans (by kernel_rfl)
  obtain ⟨c0, c1, c2, c3, c4, rfl⟩ : ∃ c0 c1 c2 c3 c4, cs = [c0, c1, c2, c3, c4] := by
    match cs, hl2 with
    | [c0, c1, c2, c3, c4], _ => exact ⟨_, _, _, _, _, rfl⟩
  obtain ⟨y0, hy0⟩ : ∃ y, xs[0]? = some y := ⟨_, List.getElem?_eq_getElem (by rw [hlen]; decide)⟩
  have q0 : DataW.trod enc Tryd.prog w 0 spare held n 3 (List.take (Tryd.prog.cellsOf 3) (List.drop 0 [c0, c1, c2, c3, c4])) = xs[0]? := hf 0 _ rfl
  rw [hy0, show Tryd.prog.cellsOf 3 = 1 from by kernel_rfl] at q0
  have q0 : DataW.trod enc Tryd.prog w 0 spare held n 3 [c0] = some y0 := q0
  obtain ⟨x0, f0, e0, w0⟩ := (opens_int Tryd.underlying3) _ _ _ q0
  have e0 : EInt w [c0] x0 f0 := e0
  obtain ⟨z0, _⟩ := e0
  simp only [List.cons.injEq, and_true] at z0
  obtain ⟨y1, hy1⟩ : ∃ y, xs[1]? = some y := ⟨_, List.getElem?_eq_getElem (by rw [hlen]; decide)⟩
  have q1 : DataW.trod enc Tryd.prog w 0 spare held n 3 (List.take (Tryd.prog.cellsOf 3) (List.drop 1 [c0, c1, c2, c3, c4])) = xs[1]? := hf 1 _ rfl
  rw [hy1, show Tryd.prog.cellsOf 3 = 1 from by kernel_rfl] at q1
  have q1 : DataW.trod enc Tryd.prog w 0 spare held n 3 [c1] = some y1 := q1
  obtain ⟨x1, f1, e1, w1⟩ := (opens_int Tryd.underlying3) _ _ _ q1
  have e1 : EInt w [c1] x1 f1 := e1
  obtain ⟨z1, _⟩ := e1
  simp only [List.cons.injEq, and_true] at z1
  obtain ⟨y2, hy2⟩ : ∃ y, xs[2]? = some y := ⟨_, List.getElem?_eq_getElem (by rw [hlen]; decide)⟩
  have q2 : DataW.trod enc Tryd.prog w 0 spare held n 3 (List.take (Tryd.prog.cellsOf 3) (List.drop 2 [c0, c1, c2, c3, c4])) = xs[2]? := hf 2 _ rfl
  rw [hy2, show Tryd.prog.cellsOf 3 = 1 from by kernel_rfl] at q2
  have q2 : DataW.trod enc Tryd.prog w 0 spare held n 3 [c2] = some y2 := q2
  obtain ⟨x2, f2, e2, w2⟩ := (opens_int Tryd.underlying3) _ _ _ q2
  have e2 : EInt w [c2] x2 f2 := e2
  obtain ⟨z2, _⟩ := e2
  simp only [List.cons.injEq, and_true] at z2
  obtain ⟨y3, hy3⟩ : ∃ y, xs[3]? = some y := ⟨_, List.getElem?_eq_getElem (by rw [hlen]; decide)⟩
  have q3 : DataW.trod enc Tryd.prog w 0 spare held n 38 (List.take (Tryd.prog.cellsOf 38) (List.drop 3 [c0, c1, c2, c3, c4])) = xs[3]? := hf 3 _ rfl
  rw [hy3, show Tryd.prog.cellsOf 38 = 1 from by kernel_rfl] at q3
  have q3 : DataW.trod enc Tryd.prog w 0 spare held n 38 [c3] = some y3 := q3
  obtain ⟨x3, f3, e3, w3⟩ := (opens_sl (k := 2) Tryd.underlying38 (by kernel_rfl) (by decide) opens_RShare) _ _ _ q3
  have e3 : (ESl 2 ERShare) w [c3] x3 f3 := e3
  obtain ⟨v3, z3, e3⟩ := e3
  simp only [List.cons.injEq, and_true] at z3
  obtain ⟨y4, hy4⟩ : ∃ y, xs[4]? = some y := ⟨_, List.getElem?_eq_getElem (by rw [hlen]; decide)⟩
  have q4 : DataW.trod enc Tryd.prog w 0 spare held n 3 (List.take (Tryd.prog.cellsOf 3) (List.drop 4 [c0, c1, c2, c3, c4])) = xs[4]? := hf 4 _ rfl
  rw [hy4, show Tryd.prog.cellsOf 3 = 1 from by kernel_rfl] at q4
  have q4 : DataW.trod enc Tryd.prog w 0 spare held n 3 [c4] = some y4 := q4
  obtain ⟨x4, f4, e4, w4⟩ := (opens_int Tryd.underlying3) _ _ _ q4
  have e4 : EInt w [c4] x4 f4 := e4
  obtain ⟨z4, _⟩ := e4
  simp only [List.cons.injEq, and_true] at z4
  subst z0
  subst z1
  subst z2
  subst z3
  subst z4
  exact ⟨⟨x0, x1, x2, x3, x4⟩, _, ⟨_, _, rfl, e3, rfl⟩, ⟨w0, w1, w2, w3, w4⟩⟩


end Go.Proofs.YtjknhnhcbadigaaDoor.C
