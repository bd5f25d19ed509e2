/-
  The arguments of the laws, opened.
-/
import Derived.Test.YtjknhnhcbadigaaDoorZFormatArchiveM12
import Derived.Test.YtjknhnhcbadigaaDoorZFormatArchiveM3
namespace Go.Proofs.YtjknhnhcbadigaaDoor.C
set_option linter.all false
open Go.RowKit L D

set_option maxRecDepth 100000 in
theorem opens_DB {H : Type} {enc : TypeId × Value → H} {w : World} {spare : Nat → Bool} {held : Bool} : Opens enc Tryd.prog w spare held 113 EDB wf_DB := by
  intro fuel cs y h
  obtain ⟨xs, n, _, _, hl, hlen, hf⟩ := DataW.trod_struct Tryd.underlying113 h
  have hl2 : cs.length = 1 := hl.trans (by kernel_rfl)
  obtain ⟨c0, rfl⟩ : ∃ c0, cs = [c0] := by
    match cs, hl2 with
    | [c0], _ => exact ⟨_, rfl⟩
  obtain ⟨y0, hy0⟩ : ∃ y, xs[0]? = some y := ⟨_, List.getElem?_eq_getElem (by rw [hlen]; decide)⟩
  have q0 : DataW.trod enc Tryd.prog w 0 spare held n 22 (List.take (Tryd.prog.cellsOf 22) (List.drop 0 [c0])) = xs[0]? := hf 0 _ rfl
  rw [hy0, show Tryd.prog.cellsOf 22 = 1 from by kernel_rfl] at q0
  have q0 : DataW.trod enc Tryd.prog w 0 spare held n 22 [c0] = some y0 := q0
  obtain ⟨x0, f0, e0, w0⟩ := (opens_sl (k := 1) Tryd.underlying22 (by kernel_rfl) (by decide) (opens_sl (k := 1) Tryd.underlying109 (by kernel_rfl) (by decide) (opens_u8 Tryd.underlying5))) _ _ _ q0
  have e0 : (ESl 1 (ESl 1 EU8)) w [c0] x0 f0 := e0
  obtain ⟨v0, z0, e0⟩ := e0
  simp only [List.cons.injEq, and_true] at z0
  subst z0
  exact ⟨⟨x0⟩, _, ⟨_, _, rfl, e0, rfl⟩, w0⟩


set_option maxRecDepth 100000 in
theorem opens_ARound {H : Type} {enc : TypeId × Value → H} {w : World} {spare : Nat → Bool} {held : Bool} : Opens enc Tryd.prog w spare held 122 EARound wf_ARound := by
  intro fuel cs y h
  obtain ⟨xs, n, _, _, hl, hlen, hf⟩ := DataW.trod_struct Tryd.underlying122 h
  have hl2 : cs.length = 2 := hl.trans (by kernel_rfl)
  obtain ⟨c0, c1, rfl⟩ : ∃ c0 c1, cs = [c0, c1] := by
    match cs, hl2 with
    | [c0, c1], _ => exact ⟨_, _, rfl⟩
  obtain ⟨y0, hy0⟩ : ∃ y, xs[0]? = some y := ⟨_, List.getElem?_eq_getElem (by rw [hlen]; decide)⟩
  have q0 : DataW.trod enc Tryd.prog w 0 spare held n 3 (List.take (Tryd.prog.cellsOf 3) (List.drop 0 [c0, c1])) = xs[0]? := hf 0 _ rfl
  rw [hy0, show Tryd.prog.cellsOf 3 = 1 from by kernel_rfl] at q0
  have q0 : DataW.trod enc Tryd.prog w 0 spare held n 3 [c0] = some y0 := q0
  obtain ⟨x0, f0, e0, w0⟩ := (opens_int Tryd.underlying3) _ _ _ q0
  have e0 : EInt w [c0] x0 f0 := e0
  obtain ⟨z0, _⟩ := e0
  simp only [List.cons.injEq, and_true] at z0
  obtain ⟨y1, hy1⟩ : ∃ y, xs[1]? = some y := ⟨_, List.getElem?_eq_getElem (by rw [hlen]; decide)⟩
  have q1 : DataW.trod enc Tryd.prog w 0 spare held n 113 (List.take (Tryd.prog.cellsOf 113) (List.drop 1 [c0, c1])) = xs[1]? := hf 1 _ rfl
  rw [hy1, show Tryd.prog.cellsOf 113 = 1 from by kernel_rfl] at q1
  have q1 : DataW.trod enc Tryd.prog w 0 spare held n 113 [c1] = some y1 := q1
  obtain ⟨x1, f1, e1, w1⟩ := opens_DB _ _ _ q1
  have e1 : EDB w [c1] x1 f1 := e1
  subst z0
  exact ⟨⟨x0, x1⟩, _, ⟨_, _, rfl, e1, rfl⟩, ⟨w0, w1⟩⟩


set_option maxRecDepth 100000 in
theorem opens_Arc {H : Type} {enc : TypeId × Value → H} {w : World} {spare : Nat → Bool} {held : Bool} : Opens enc Tryd.prog w spare held 51 EArc wf_Arc := by
  intro fuel cs y h
  obtain ⟨xs, n, _, _, hl, hlen, hf⟩ := DataW.trod_struct Tryd.underlying51 h
  have hl2 : cs.length = 2 := hl.trans (by kernel_rfl)
  obtain ⟨c0, c1, rfl⟩ : ∃ c0 c1, cs = [c0, c1] := by
    match cs, hl2 with
    | [c0, c1], _ => exact ⟨_, _, rfl⟩
  obtain ⟨y0, hy0⟩ : ∃ y, xs[0]? = some y := ⟨_, List.getElem?_eq_getElem (by rw [hlen]; decide)⟩
  have q0 : DataW.trod enc Tryd.prog w 0 spare held n 3 (List.take (Tryd.prog.cellsOf 3) (List.drop 0 [c0, c1])) = xs[0]? := hf 0 _ rfl
  rw [hy0, show Tryd.prog.cellsOf 3 = 1 from by kernel_rfl] at q0
  have q0 : DataW.trod enc Tryd.prog w 0 spare held n 3 [c0] = some y0 := q0
  obtain ⟨x0, f0, e0, w0⟩ := (opens_int Tryd.underlying3) _ _ _ q0
  have e0 : EInt w [c0] x0 f0 := e0
  obtain ⟨z0, _⟩ := e0
  simp only [List.cons.injEq, and_true] at z0
  obtain ⟨y1, hy1⟩ : ∃ y, xs[1]? = some y := ⟨_, List.getElem?_eq_getElem (by rw [hlen]; decide)⟩
  have q1 : DataW.trod enc Tryd.prog w 0 spare held n 49 (List.take (Tryd.prog.cellsOf 49) (List.drop 1 [c0, c1])) = xs[1]? := hf 1 _ rfl
  rw [hy1, show Tryd.prog.cellsOf 49 = 1 from by kernel_rfl] at q1
  have q1 : DataW.trod enc Tryd.prog w 0 spare held n 49 [c1] = some y1 := q1
  obtain ⟨x1, f1, e1, w1⟩ := (opens_sl (k := 2) Tryd.underlying49 (by kernel_rfl) (by decide) opens_ARound) _ _ _ q1
  have e1 : (ESl 2 EARound) w [c1] x1 f1 := e1
  obtain ⟨v1, z1, e1⟩ := e1
  simp only [List.cons.injEq, and_true] at z1
  subst z0
  subst z1
  exact ⟨⟨x0, x1⟩, _, ⟨_, _, rfl, e1, rfl⟩, ⟨w0, w1⟩⟩


end Go.Proofs.YtjknhnhcbadigaaDoor.C
