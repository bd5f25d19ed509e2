/-
  The arguments of the laws, opened.
-/
import Derived.Test.YthjedjndamejmaaGreatZGuiltyServersM13
import Derived.Test.YthjedjndamejmaaGreatZGuiltyServersM3
namespace Go.Proofs.YthjedjndamejmaaGreat.C
set_option linter.all false
open Go.RowKit L D

set_option maxRecDepth 100000 in
theorem opens_DB {H : Type} {enc : TypeId × Value → H} {w : World} {spare : Nat → Bool} {held : Bool} : Opens enc Tryz.prog w spare held 138 EDB wf_DB := by
  intro fuel cs y h
  obtain ⟨xs, n, _, _, hl, hlen, hf⟩ := DataW.trod_struct Tryz.underlying138 h
  have hl2 : cs.length = 1 := hl.trans (by kernel_rfl)
  obtain ⟨c0, rfl⟩ : ∃ c0, cs = [c0] := by
    match cs, hl2 with
    | [c0], _ => exact ⟨_, rfl⟩
  obtain ⟨y0, hy0⟩ : ∃ y, xs[0]? = some y := ⟨_, List.getElem?_eq_getElem (by rw [hlen]; decide)⟩
  have q0 : DataW.trod enc Tryz.prog w 0 spare held n 64 (List.take (Tryz.prog.cellsOf 64) (List.drop 0 [c0])) = xs[0]? := hf 0 _ rfl
  rw [hy0, show Tryz.prog.cellsOf 64 = 1 from by kernel_rfl] at q0
  have q0 : DataW.trod enc Tryz.prog w 0 spare held n 64 [c0] = some y0 := q0
  obtain ⟨x0, f0, e0, w0⟩ := (opens_sl (k := 1) Tryz.underlying64 (by kernel_rfl) (by decide) (opens_sl (k := 1) Tryz.underlying105 (by kernel_rfl) (by decide) (opens_u8 Tryz.underlying5))) _ _ _ q0
  have e0 : (ESl 1 (ESl 1 EU8)) w [c0] x0 f0 := e0
  obtain ⟨v0, z0, e0⟩ := e0
  simp only [List.cons.injEq, and_true] at z0
  subst z0
  exact ⟨⟨x0⟩, _, ⟨_, _, rfl, e0, rfl⟩, w0⟩


set_option maxRecDepth 100000 in
theorem opens_RShare {H : Type} {enc : TypeId × Value → H} {w : World} {spare : Nat → Bool} {held : Bool} : Opens enc Tryz.prog w spare held 178 ERShare wf_RShare := by
  intro fuel cs y h
  obtain ⟨xs, n, _, _, hl, hlen, hf⟩ := DataW.trod_struct Tryz.underlying178 h
  have hl2 : cs.length = 2 := hl.trans (by kernel_rfl)
  obtain ⟨c0, c1, rfl⟩ : ∃ c0 c1, cs = [c0, c1] := by
    match cs, hl2 with
    | [c0, c1], _ => exact ⟨_, _, rfl⟩
  obtain ⟨y0, hy0⟩ : ∃ y, xs[0]? = some y := ⟨_, List.getElem?_eq_getElem (by rw [hlen]; decide)⟩
  have q0 : DataW.trod enc Tryz.prog w 0 spare held n 3 (List.take (Tryz.prog.cellsOf 3) (List.drop 0 [c0, c1])) = xs[0]? := hf 0 _ rfl
  rw [hy0, show Tryz.prog.cellsOf 3 = 1 from by kernel_rfl] at q0
  have q0 : DataW.trod enc Tryz.prog w 0 spare held n 3 [c0] = some y0 := q0
  obtain ⟨x0, f0, e0, w0⟩ := (opens_int Tryz.underlying3) _ _ _ q0
  have e0 : EInt w [c0] x0 f0 := e0
  obtain ⟨z0, _⟩ := e0
  simp only [List.cons.injEq, and_true] at z0
  obtain ⟨y1, hy1⟩ : ∃ y, xs[1]? = some y := ⟨_, List.getElem?_eq_getElem (by rw [hlen]; decide)⟩
  have q1 : DataW.trod enc Tryz.prog w 0 spare held n 138 (List.take (Tryz.prog.cellsOf 138) (List.drop 1 [c0, c1])) = xs[1]? := hf 1 _ rfl
  rw [hy1, show Tryz.prog.cellsOf 138 = 1 from by kernel_rfl] at q1
  have q1 : DataW.trod enc Tryz.prog w 0 spare held n 138 [c1] = some y1 := q1
  obtain ⟨x1, f1, e1, w1⟩ := opens_DB _ _ _ q1
  have e1 : EDB w [c1] x1 f1 := e1
  subst z0
  exact ⟨⟨x0, x1⟩, _, ⟨_, _, rfl, e1, rfl⟩, ⟨w0, w1⟩⟩


set_option maxRecDepth 100000 in
theorem opens_Srv {H : Type} {enc : TypeId × Value → H} {w : World} {spare : Nat → Bool} {held : Bool} : Opens enc Tryz.prog w spare held 88 ESrv wf_Srv := by
  intro fuel cs y h
  obtain ⟨xs, n, _, _, hl, hlen, hf⟩ := DataW.trod_struct Tryz.underlying88 h
  have hl2 : cs.length = 5 := hl.trans (by kernel_rfl)
  obtain ⟨c0, c1, c2, c3, c4, rfl⟩ : ∃ c0 c1 c2 c3 c4, cs = [c0, c1, c2, c3, c4] := by
    match cs, hl2 with
    | [c0, c1, c2, c3, c4], _ => exact ⟨_, _, _, _, _, rfl⟩
  obtain ⟨y0, hy0⟩ : ∃ y, xs[0]? = some y := ⟨_, List.getElem?_eq_getElem (by rw [hlen]; decide)⟩
  have q0 : DataW.trod enc Tryz.prog w 0 spare held n 3 (List.take (Tryz.prog.cellsOf 3) (List.drop 0 [c0, c1, c2, c3, c4])) = xs[0]? := hf 0 _ rfl
  rw [hy0, show Tryz.prog.cellsOf 3 = 1 from by kernel_rfl] at q0
  have q0 : DataW.trod enc Tryz.prog w 0 spare held n 3 [c0] = some y0 := q0
  obtain ⟨x0, f0, e0, w0⟩ := (opens_int Tryz.underlying3) _ _ _ q0
  have e0 : EInt w [c0] x0 f0 := e0
  obtain ⟨z0, _⟩ := e0
  simp only [List.cons.injEq, and_true] at z0
  obtain ⟨y1, hy1⟩ : ∃ y, xs[1]? = some y := ⟨_, List.getElem?_eq_getElem (by rw [hlen]; decide)⟩
  have q1 : DataW.trod enc Tryz.prog w 0 spare held n 3 (List.take (Tryz.prog.cellsOf 3) (List.drop 1 [c0, c1, c2, c3, c4])) = xs[1]? := hf 1 _ rfl
  rw [hy1, show Tryz.prog.cellsOf 3 = 1 from by kernel_rfl] at q1
  have q1 : DataW.trod enc Tryz.prog w 0 spare held n 3 [c1] = some y1 := q1
  obtain ⟨x1, f1, e1, w1⟩ := (opens_int Tryz.underlying3) _ _ _ q1
  have e1 : EInt w [c1] x1 f1 := e1
  obtain ⟨z1, _⟩ := e1
  simp only [List.cons.injEq, and_true] at z1
  obtain ⟨y2, hy2⟩ : ∃ y, xs[2]? = some y := ⟨_, List.getElem?_eq_getElem (by rw [hlen]; decide)⟩
  have q2 : DataW.trod enc Tryz.prog w 0 spare held n 3 (List.take (Tryz.prog.cellsOf 3) (List.drop 2 [c0, c1, c2, c3, c4])) = xs[2]? := hf 2 _ rfl
  rw [hy2, show Tryz.prog.cellsOf 3 = 1 from by kernel_rfl] at q2
  have q2 : DataW.trod enc Tryz.prog w 0 spare held n 3 [c2] = some y2 := q2
  obtain ⟨x2, f2, e2, w2⟩ := (opens_int Tryz.underlying3) _ _ _ q2
  have e2 : EInt w [c2] x2 f2 := e2
  obtain ⟨z2, _⟩ := e2
  simp only [List.cons.injEq, and_true] at z2
  obtain ⟨y3, hy3⟩ : ∃ y, xs[3]? = some y := ⟨_, List.getElem?_eq_getElem (by rw [hlen]; decide)⟩
  have q3 : DataW.trod enc Tryz.prog w 0 spare held n 86 (List.take (Tryz.prog.cellsOf 86) (List.drop 3 [c0, c1, c2, c3, c4])) = xs[3]? := hf 3 _ rfl
  rw [hy3, show Tryz.prog.cellsOf 86 = 1 from by kernel_rfl] at q3
  have q3 : DataW.trod enc Tryz.prog w 0 spare held n 86 [c3] = some y3 := q3
  obtain ⟨x3, f3, e3, w3⟩ := (opens_sl (k := 2) Tryz.underlying86 (by kernel_rfl) (by decide) opens_RShare) _ _ _ q3
  have e3 : (ESl 2 ERShare) w [c3] x3 f3 := e3
  obtain ⟨v3, z3, e3⟩ := e3
  simp only [List.cons.injEq, and_true] at z3
  obtain ⟨y4, hy4⟩ : ∃ y, xs[4]? = some y := ⟨_, List.getElem?_eq_getElem (by rw [hlen]; decide)⟩
  have q4 : DataW.trod enc Tryz.prog w 0 spare held n 3 (List.take (Tryz.prog.cellsOf 3) (List.drop 4 [c0, c1, c2, c3, c4])) = xs[4]? := hf 4 _ rfl
  rw [hy4, show Tryz.prog.cellsOf 3 = 1 from by kernel_rfl] at q4
  have q4 : DataW.trod enc Tryz.prog w 0 spare held n 3 [c4] = some y4 := q4
  obtain ⟨x4, f4, e4, w4⟩ := (opens_int Tryz.underlying3) _ _ _ q4
  have e4 : EInt w [c4] x4 f4 := e4
  obtain ⟨z4, _⟩ := e4
  simp only [List.cons.injEq, and_true] at z4
  subst z0
  subst z1
  subst z2
  subst z3
  subst z4
  exact ⟨⟨x0, x1, x2, x3, x4⟩, _, ⟨_, _, rfl, e3, rfl⟩, ⟨w0, w1, w2, w3, w4⟩⟩


set_option maxRecDepth 100000 in
theorem opens_ARound {H : Type} {enc : TypeId × Value → H} {w : World} {spare : Nat → Bool} {held : Bool} : Opens enc Tryz.prog w spare held 140 EARound wf_ARound := by
  intro fuel cs y h
  obtain ⟨xs, n, _, _, hl, hlen, hf⟩ := DataW.trod_struct Tryz.underlying140 h
  have hl2 : cs.length = 2 := hl.trans (by kernel_rfl)
  obtain ⟨c0, c1, rfl⟩ : ∃ c0 c1, cs = [c0, c1] := by
    match cs, hl2 with
    | [c0, c1], _ => exact ⟨_, _, rfl⟩
  obtain ⟨y0, hy0⟩ : ∃ y, xs[0]? = some y := ⟨_, List.getElem?_eq_getElem (by rw [hlen]; decide)⟩
  have q0 : DataW.trod enc Tryz.prog w 0 spare held n 3 (List.take (Tryz.prog.cellsOf 3) (List.drop 0 [c0, c1])) = xs[0]? := hf 0 _ rfl
  rw [hy0, show Tryz.prog.cellsOf 3 = 1 from by kernel_rfl] at q0
  have q0 : DataW.trod enc Tryz.prog w 0 spare held n 3 [c0] = some y0 := q0
  obtain ⟨x0, f0, e0, w0⟩ := (opens_int Tryz.underlying3) _ _ _ q0
  have e0 : EInt w [c0] x0 f0 := e0
  obtain ⟨z0, _⟩ := e0
  simp only [List.cons.injEq, and_true] at z0
  obtain ⟨y1, hy1⟩ : ∃ y, xs[1]? = some y := ⟨_, List.getElem?_eq_getElem (by rw [hlen]; decide)⟩
  have q1 : DataW.trod enc Tryz.prog w 0 spare held n 138 (List.take (Tryz.prog.cellsOf 138) (List.drop 1 [c0, c1])) = xs[1]? := hf 1 _ rfl
  rw [hy1, show Tryz.prog.cellsOf 138 = 1 from by kernel_rfl] at q1
  have q1 : DataW.trod enc Tryz.prog w 0 spare held n 138 [c1] = some y1 := q1
  obtain ⟨x1, f1, e1, w1⟩ := opens_DB _ _ _ q1
  have e1 : EDB w [c1] x1 f1 := e1
  subst z0
  exact ⟨⟨x0, x1⟩, _, ⟨_, _, rfl, e1, rfl⟩, ⟨w0, w1⟩⟩


set_option maxRecDepth 100000 in
theorem opens_Arc {H : Type} {enc : TypeId × Value → H} {w : World} {spare : Nat → Bool} {held : Bool} : Opens enc Tryz.prog w spare held 26 EArc wf_Arc := by
  intro fuel cs y h
  obtain ⟨xs, n, _, _, hl, hlen, hf⟩ := DataW.trod_struct Tryz.underlying26 h
  have hl2 : cs.length = 2 := hl.trans (by kernel_rfl)
  obtain ⟨c0, c1, rfl⟩ : ∃ c0 c1, cs = [c0, c1] := by
    match cs, hl2 with
    | [c0, c1], _ => exact ⟨_, _, rfl⟩
  obtain ⟨y0, hy0⟩ : ∃ y, xs[0]? = some y := ⟨_, List.getElem?_eq_getElem (by rw [hlen]; decide)⟩
  have q0 : DataW.trod enc Tryz.prog w 0 spare held n 3 (List.take (Tryz.prog.cellsOf 3) (List.drop 0 [c0, c1])) = xs[0]? := hf 0 _ rfl
  rw [hy0, show Tryz.prog.cellsOf 3 = 1 from by kernel_rfl] at q0
  have q0 : DataW.trod enc Tryz.prog w 0 spare held n 3 [c0] = some y0 := q0
  obtain ⟨x0, f0, e0, w0⟩ := (opens_int Tryz.underlying3) _ _ _ q0
  have e0 : EInt w [c0] x0 f0 := e0
  obtain ⟨z0, _⟩ := e0
  simp only [List.cons.injEq, and_true] at z0
  obtain ⟨y1, hy1⟩ : ∃ y, xs[1]? = some y := ⟨_, List.getElem?_eq_getElem (by rw [hlen]; decide)⟩
  have q1 : DataW.trod enc Tryz.prog w 0 spare held n 24 (List.take (Tryz.prog.cellsOf 24) (List.drop 1 [c0, c1])) = xs[1]? := hf 1 _ rfl
  rw [hy1, show Tryz.prog.cellsOf 24 = 1 from by kernel_rfl] at q1
  have q1 : DataW.trod enc Tryz.prog w 0 spare held n 24 [c1] = some y1 := q1
  obtain ⟨x1, f1, e1, w1⟩ := (opens_sl (k := 2) Tryz.underlying24 (by kernel_rfl) (by decide) opens_ARound) _ _ _ q1
  have e1 : (ESl 2 EARound) w [c1] x1 f1 := e1
  obtain ⟨v1, z1, e1⟩ := e1
  simp only [List.cons.injEq, and_true] at z1
  subst z0
  subst z1
  exact ⟨⟨x0, x1⟩, _, ⟨_, _, rfl, e1, rfl⟩, ⟨w0, w1⟩⟩


set_option maxRecDepth 100000 in
theorem opens_Cli {H : Type} {enc : TypeId × Value → H} {w : World} {spare : Nat → Bool} {held : Bool} : Opens enc Tryz.prog w spare held 91 ECli wf_Cli := by
  intro fuel cs y h
  obtain ⟨xs, n, _, _, hl, hlen, hf⟩ := DataW.trod_struct Tryz.underlying91 h
  have hl2 : cs.length = 8 := hl.trans (by kernel_rfl)
  obtain ⟨c0, c1, c2, c3, c4, c5, c6, c7, rfl⟩ : ∃ c0 c1 c2 c3 c4 c5 c6 c7, cs = [c0, c1, c2, c3, c4, c5, c6, c7] := by
    match cs, hl2 with
    | [c0, c1, c2, c3, c4, c5, c6, c7], _ => exact ⟨_, _, _, _, _, _, _, _, rfl⟩
  obtain ⟨y0, hy0⟩ : ∃ y, xs[0]? = some y := ⟨_, List.getElem?_eq_getElem (by rw [hlen]; decide)⟩
  have q0 : DataW.trod enc Tryz.prog w 0 spare held n 3 (List.take (Tryz.prog.cellsOf 3) (List.drop 0 [c0, c1, c2, c3, c4, c5, c6, c7])) = xs[0]? := hf 0 _ rfl
  rw [hy0, show Tryz.prog.cellsOf 3 = 1 from by kernel_rfl] at q0
  have q0 : DataW.trod enc Tryz.prog w 0 spare held n 3 [c0] = some y0 := q0
  obtain ⟨x0, f0, e0, w0⟩ := (opens_int Tryz.underlying3) _ _ _ q0
  have e0 : EInt w [c0] x0 f0 := e0
  obtain ⟨z0, _⟩ := e0
  simp only [List.cons.injEq, and_true] at z0
  obtain ⟨y1, hy1⟩ : ∃ y, xs[1]? = some y := ⟨_, List.getElem?_eq_getElem (by rw [hlen]; decide)⟩
  have q1 : DataW.trod enc Tryz.prog w 0 spare held n 3 (List.take (Tryz.prog.cellsOf 3) (List.drop 1 [c0, c1, c2, c3, c4, c5, c6, c7])) = xs[1]? := hf 1 _ rfl
  rw [hy1, show Tryz.prog.cellsOf 3 = 1 from by kernel_rfl] at q1
  have q1 : DataW.trod enc Tryz.prog w 0 spare held n 3 [c1] = some y1 := q1
  obtain ⟨x1, f1, e1, w1⟩ := (opens_int Tryz.underlying3) _ _ _ q1
  have e1 : EInt w [c1] x1 f1 := e1
  obtain ⟨z1, _⟩ := e1
  simp only [List.cons.injEq, and_true] at z1
  obtain ⟨y2, hy2⟩ : ∃ y, xs[2]? = some y := ⟨_, List.getElem?_eq_getElem (by rw [hlen]; decide)⟩
  have q2 : DataW.trod enc Tryz.prog w 0 spare held n 3 (List.take (Tryz.prog.cellsOf 3) (List.drop 2 [c0, c1, c2, c3, c4, c5, c6, c7])) = xs[2]? := hf 2 _ rfl
  rw [hy2, show Tryz.prog.cellsOf 3 = 1 from by kernel_rfl] at q2
  have q2 : DataW.trod enc Tryz.prog w 0 spare held n 3 [c2] = some y2 := q2
  obtain ⟨x2, f2, e2, w2⟩ := (opens_int Tryz.underlying3) _ _ _ q2
  have e2 : EInt w [c2] x2 f2 := e2
  obtain ⟨z2, _⟩ := e2
  simp only [List.cons.injEq, and_true] at z2
  obtain ⟨y3, hy3⟩ : ∃ y, xs[3]? = some y := ⟨_, List.getElem?_eq_getElem (by rw [hlen]; decide)⟩
  have q3 : DataW.trod enc Tryz.prog w 0 spare held n 3 (List.take (Tryz.prog.cellsOf 3) (List.drop 3 [c0, c1, c2, c3, c4, c5, c6, c7])) = xs[3]? := hf 3 _ rfl
  rw [hy3, show Tryz.prog.cellsOf 3 = 1 from by kernel_rfl] at q3
  have q3 : DataW.trod enc Tryz.prog w 0 spare held n 3 [c3] = some y3 := q3
  obtain ⟨x3, f3, e3, w3⟩ := (opens_int Tryz.underlying3) _ _ _ q3
  have e3 : EInt w [c3] x3 f3 := e3
  obtain ⟨z3, _⟩ := e3
  simp only [List.cons.injEq, and_true] at z3
  obtain ⟨y4, hy4⟩ : ∃ y, xs[4]? = some y := ⟨_, List.getElem?_eq_getElem (by rw [hlen]; decide)⟩
  have q4 : DataW.trod enc Tryz.prog w 0 spare held n 64 (List.take (Tryz.prog.cellsOf 64) (List.drop 4 [c0, c1, c2, c3, c4, c5, c6, c7])) = xs[4]? := hf 4 _ rfl
  rw [hy4, show Tryz.prog.cellsOf 64 = 1 from by kernel_rfl] at q4
  have q4 : DataW.trod enc Tryz.prog w 0 spare held n 64 [c4] = some y4 := q4
  obtain ⟨x4, f4, e4, w4⟩ := (opens_sl (k := 1) Tryz.underlying64 (by kernel_rfl) (by decide) (opens_sl (k := 1) Tryz.underlying105 (by kernel_rfl) (by decide) (opens_u8 Tryz.underlying5))) _ _ _ q4
  have e4 : (ESl 1 (ESl 1 EU8)) w [c4] x4 f4 := e4
  obtain ⟨v4, z4, e4⟩ := e4
  simp only [List.cons.injEq, and_true] at z4
  obtain ⟨y5, hy5⟩ : ∃ y, xs[5]? = some y := ⟨_, List.getElem?_eq_getElem (by rw [hlen]; decide)⟩
  have q5 : DataW.trod enc Tryz.prog w 0 spare held n 3 (List.take (Tryz.prog.cellsOf 3) (List.drop 5 [c0, c1, c2, c3, c4, c5, c6, c7])) = xs[5]? := hf 5 _ rfl
  rw [hy5, show Tryz.prog.cellsOf 3 = 1 from by kernel_rfl] at q5
  have q5 : DataW.trod enc Tryz.prog w 0 spare held n 3 [c5] = some y5 := q5
  obtain ⟨x5, f5, e5, w5⟩ := (opens_int Tryz.underlying3) _ _ _ q5
  have e5 : EInt w [c5] x5 f5 := e5
  obtain ⟨z5, _⟩ := e5
  simp only [List.cons.injEq, and_true] at z5
  obtain ⟨y6, hy6⟩ : ∃ y, xs[6]? = some y := ⟨_, List.getElem?_eq_getElem (by rw [hlen]; decide)⟩
  have q6 : DataW.trod enc Tryz.prog w 0 spare held n 64 (List.take (Tryz.prog.cellsOf 64) (List.drop 6 [c0, c1, c2, c3, c4, c5, c6, c7])) = xs[6]? := hf 6 _ rfl
  rw [hy6, show Tryz.prog.cellsOf 64 = 1 from by kernel_rfl] at q6
  have q6 : DataW.trod enc Tryz.prog w 0 spare held n 64 [c6] = some y6 := q6
  obtain ⟨x6, f6, e6, w6⟩ := (opens_sl (k := 1) Tryz.underlying64 (by kernel_rfl) (by decide) (opens_sl (k := 1) Tryz.underlying105 (by kernel_rfl) (by decide) (opens_u8 Tryz.underlying5))) _ _ _ q6
  have e6 : (ESl 1 (ESl 1 EU8)) w [c6] x6 f6 := e6
  obtain ⟨v6, z6, e6⟩ := e6
  simp only [List.cons.injEq, and_true] at z6
  obtain ⟨y7, hy7⟩ : ∃ y, xs[7]? = some y := ⟨_, List.getElem?_eq_getElem (by rw [hlen]; decide)⟩
  have q7 : DataW.trod enc Tryz.prog w 0 spare held n 3 (List.take (Tryz.prog.cellsOf 3) (List.drop 7 [c0, c1, c2, c3, c4, c5, c6, c7])) = xs[7]? := hf 7 _ rfl
  rw [hy7, show Tryz.prog.cellsOf 3 = 1 from by kernel_rfl] at q7
  have q7 : DataW.trod enc Tryz.prog w 0 spare held n 3 [c7] = some y7 := q7
  obtain ⟨x7, f7, e7, w7⟩ := (opens_int Tryz.underlying3) _ _ _ q7
  have e7 : EInt w [c7] x7 f7 := e7
  obtain ⟨z7, _⟩ := e7
  simp only [List.cons.injEq, and_true] at z7
  subst z0
  subst z1
  subst z2
  subst z3
  subst z4
  subst z5
  subst z6
  subst z7
  exact ⟨⟨x0, x1, x2, x3, x4, x5, x6, x7⟩, _, ⟨_, _, _, _, rfl, e4, e6, rfl⟩, ⟨w0, w1, w2, w3, w4, w5, w6, w7⟩⟩


set_option maxRecDepth 100000 in
theorem opens_Dev {H : Type} {enc : TypeId × Value → H} {w : World} {spare : Nat → Bool} {held : Bool} : Opens enc Tryz.prog w spare held 93 EDev wf_Dev := by
  intro fuel cs y h
  obtain ⟨xs, n, _, _, hl, hlen, hf⟩ := DataW.trod_struct Tryz.underlying93 h
  have hl2 : cs.length = 16 := hl.trans (by kernel_rfl)
  obtain ⟨c0, c1, c2, c3, c4, c5, c6, c7, c8, c9, c10, c11, c12, c13, c14, c15, rfl⟩ : ∃ c0 c1 c2 c3 c4 c5 c6 c7 c8 c9 c10 c11 c12 c13 c14 c15, cs = [c0, c1, c2, c3, c4, c5, c6, c7, c8, c9, c10, c11, c12, c13, c14, c15] := by
    match cs, hl2 with
    | [c0, c1, c2, c3, c4, c5, c6, c7, c8, c9, c10, c11, c12, c13, c14, c15], _ => exact ⟨_, _, _, _, _, _, _, _, _, _, _, _, _, _, _, _, rfl⟩
  obtain ⟨y0, hy0⟩ : ∃ y, xs[0]? = some y := ⟨_, List.getElem?_eq_getElem (by rw [hlen]; decide)⟩
  have q0 : DataW.trod enc Tryz.prog w 0 spare held n 91 (List.take (Tryz.prog.cellsOf 91) (List.drop 0 [c0, c1, c2, c3, c4, c5, c6, c7, c8, c9, c10, c11, c12, c13, c14, c15])) = xs[0]? := hf 0 _ rfl
  rw [hy0, show Tryz.prog.cellsOf 91 = 8 from by kernel_rfl] at q0
  have q0 : DataW.trod enc Tryz.prog w 0 spare held n 91 [c0, c1, c2, c3, c4, c5, c6, c7] = some y0 := q0
  obtain ⟨x0, f0, e0, w0⟩ := opens_Cli _ _ _ q0
  have e0 : ECli w [c0, c1, c2, c3, c4, c5, c6, c7] x0 f0 := e0
  obtain ⟨y1, hy1⟩ : ∃ y, xs[1]? = some y := ⟨_, List.getElem?_eq_getElem (by rw [hlen]; decide)⟩
  have q1 : DataW.trod enc Tryz.prog w 0 spare held n 91 (List.take (Tryz.prog.cellsOf 91) (List.drop 8 [c0, c1, c2, c3, c4, c5, c6, c7, c8, c9, c10, c11, c12, c13, c14, c15])) = xs[1]? := hf 1 _ rfl
  rw [hy1, show Tryz.prog.cellsOf 91 = 8 from by kernel_rfl] at q1
  have q1 : DataW.trod enc Tryz.prog w 0 spare held n 91 [c8, c9, c10, c11, c12, c13, c14, c15] = some y1 := q1
  obtain ⟨x1, f1, e1, w1⟩ := opens_Cli _ _ _ q1
  have e1 : ECli w [c8, c9, c10, c11, c12, c13, c14, c15] x1 f1 := e1
  exact ⟨⟨x0, x1⟩, _, ⟨_, _, _, _, rfl, e0, e1, rfl⟩, ⟨w0, w1⟩⟩


set_option maxRecDepth 100000 in
theorem opens_Wld {H : Type} {enc : TypeId × Value → H} {w : World} {spare : Nat → Bool} {held : Bool} : Opens enc Tryz.prog w spare held 29 EWld wf_Wld := by
  intro fuel cs y h
  obtain ⟨xs, n, _, _, hl, hlen, hf⟩ := DataW.trod_struct Tryz.underlying29 h
  have hl2 : cs.length = 10 := hl.trans (by kernel_rfl)
  obtain ⟨c0, c1, c2, c3, c4, c5, c6, c7, c8, c9, rfl⟩ : ∃ c0 c1 c2 c3 c4 c5 c6 c7 c8 c9, cs = [c0, c1, c2, c3, c4, c5, c6, c7, c8, c9] := by
    match cs, hl2 with
    | [c0, c1, c2, c3, c4, c5, c6, c7, c8, c9], _ => exact ⟨_, _, _, _, _, _, _, _, _, _, rfl⟩
  obtain ⟨y0, hy0⟩ : ∃ y, xs[0]? = some y := ⟨_, List.getElem?_eq_getElem (by rw [hlen]; decide)⟩
  have q0 : DataW.trod enc Tryz.prog w 0 spare held n 3 (List.take (Tryz.prog.cellsOf 3) (List.drop 0 [c0, c1, c2, c3, c4, c5, c6, c7, c8, c9])) = xs[0]? := hf 0 _ rfl
  rw [hy0, show Tryz.prog.cellsOf 3 = 1 from by kernel_rfl] at q0
  have q0 : DataW.trod enc Tryz.prog w 0 spare held n 3 [c0] = some y0 := q0
  obtain ⟨x0, f0, e0, w0⟩ := (opens_int Tryz.underlying3) _ _ _ q0
  have e0 : EInt w [c0] x0 f0 := e0
  obtain ⟨z0, _⟩ := e0
  simp only [List.cons.injEq, and_true] at z0
  obtain ⟨y1, hy1⟩ : ∃ y, xs[1]? = some y := ⟨_, List.getElem?_eq_getElem (by rw [hlen]; decide)⟩
  have q1 : DataW.trod enc Tryz.prog w 0 spare held n 22 (List.take (Tryz.prog.cellsOf 22) (List.drop 1 [c0, c1, c2, c3, c4, c5, c6, c7, c8, c9])) = xs[1]? := hf 1 _ rfl
  rw [hy1, show Tryz.prog.cellsOf 22 = 1 from by kernel_rfl] at q1
  have q1 : DataW.trod enc Tryz.prog w 0 spare held n 22 [c1] = some y1 := q1
  obtain ⟨x1, f1, e1, w1⟩ := (opens_sl (k := 5) Tryz.underlying22 (by kernel_rfl) (by decide) opens_Srv) _ _ _ q1
  have e1 : (ESl 5 ESrv) w [c1] x1 f1 := e1
  obtain ⟨v1, z1, e1⟩ := e1
  simp only [List.cons.injEq, and_true] at z1
  obtain ⟨y2, hy2⟩ : ∃ y, xs[2]? = some y := ⟨_, List.getElem?_eq_getElem (by rw [hlen]; decide)⟩
  have q2 : DataW.trod enc Tryz.prog w 0 spare held n 23 (List.take (Tryz.prog.cellsOf 23) (List.drop 2 [c0, c1, c2, c3, c4, c5, c6, c7, c8, c9])) = xs[2]? := hf 2 _ rfl
  rw [hy2, show Tryz.prog.cellsOf 23 = 1 from by kernel_rfl] at q2
  have q2 : DataW.trod enc Tryz.prog w 0 spare held n 23 [c2] = some y2 := q2
  obtain ⟨x2, f2, e2, w2⟩ := (opens_sl (k := 16) Tryz.underlying23 (by kernel_rfl) (by decide) opens_Dev) _ _ _ q2
  have e2 : (ESl 16 EDev) w [c2] x2 f2 := e2
  obtain ⟨v2, z2, e2⟩ := e2
  simp only [List.cons.injEq, and_true] at z2
  obtain ⟨y3, hy3⟩ : ∃ y, xs[3]? = some y := ⟨_, List.getElem?_eq_getElem (by rw [hlen]; decide)⟩
  have q3 : DataW.trod enc Tryz.prog w 0 spare held n 26 (List.take (Tryz.prog.cellsOf 26) (List.drop 3 [c0, c1, c2, c3, c4, c5, c6, c7, c8, c9])) = xs[3]? := hf 3 _ rfl
  rw [hy3, show Tryz.prog.cellsOf 26 = 2 from by kernel_rfl] at q3
  have q3 : DataW.trod enc Tryz.prog w 0 spare held n 26 [c3, c4] = some y3 := q3
  obtain ⟨x3, f3, e3, w3⟩ := opens_Arc _ _ _ q3
  have e3 : EArc w [c3, c4] x3 f3 := e3
  obtain ⟨y4, hy4⟩ : ∃ y, xs[4]? = some y := ⟨_, List.getElem?_eq_getElem (by rw [hlen]; decide)⟩
  have q4 : DataW.trod enc Tryz.prog w 0 spare held n 3 (List.take (Tryz.prog.cellsOf 3) (List.drop 5 [c0, c1, c2, c3, c4, c5, c6, c7, c8, c9])) = xs[4]? := hf 4 _ rfl
  rw [hy4, show Tryz.prog.cellsOf 3 = 1 from by kernel_rfl] at q4
  have q4 : DataW.trod enc Tryz.prog w 0 spare held n 3 [c5] = some y4 := q4
  obtain ⟨x4, f4, e4, w4⟩ := (opens_int Tryz.underlying3) _ _ _ q4
  have e4 : EInt w [c5] x4 f4 := e4
  obtain ⟨z4, _⟩ := e4
  simp only [List.cons.injEq, and_true] at z4
  obtain ⟨y5, hy5⟩ : ∃ y, xs[5]? = some y := ⟨_, List.getElem?_eq_getElem (by rw [hlen]; decide)⟩
  have q5 : DataW.trod enc Tryz.prog w 0 spare held n 3 (List.take (Tryz.prog.cellsOf 3) (List.drop 6 [c0, c1, c2, c3, c4, c5, c6, c7, c8, c9])) = xs[5]? := hf 5 _ rfl
  rw [hy5, show Tryz.prog.cellsOf 3 = 1 from by kernel_rfl] at q5
  have q5 : DataW.trod enc Tryz.prog w 0 spare held n 3 [c6] = some y5 := q5
  obtain ⟨x5, f5, e5, w5⟩ := (opens_int Tryz.underlying3) _ _ _ q5
  have e5 : EInt w [c6] x5 f5 := e5
  obtain ⟨z5, _⟩ := e5
  simp only [List.cons.injEq, and_true] at z5
  obtain ⟨y6, hy6⟩ : ∃ y, xs[6]? = some y := ⟨_, List.getElem?_eq_getElem (by rw [hlen]; decide)⟩
  have q6 : DataW.trod enc Tryz.prog w 0 spare held n 3 (List.take (Tryz.prog.cellsOf 3) (List.drop 7 [c0, c1, c2, c3, c4, c5, c6, c7, c8, c9])) = xs[6]? := hf 6 _ rfl
  rw [hy6, show Tryz.prog.cellsOf 3 = 1 from by kernel_rfl] at q6
  have q6 : DataW.trod enc Tryz.prog w 0 spare held n 3 [c7] = some y6 := q6
  obtain ⟨x6, f6, e6, w6⟩ := (opens_int Tryz.underlying3) _ _ _ q6
  have e6 : EInt w [c7] x6 f6 := e6
  obtain ⟨z6, _⟩ := e6
  simp only [List.cons.injEq, and_true] at z6
  obtain ⟨y7, hy7⟩ : ∃ y, xs[7]? = some y := ⟨_, List.getElem?_eq_getElem (by rw [hlen]; decide)⟩
  have q7 : DataW.trod enc Tryz.prog w 0 spare held n 27 (List.take (Tryz.prog.cellsOf 27) (List.drop 8 [c0, c1, c2, c3, c4, c5, c6, c7, c8, c9])) = xs[7]? := hf 7 _ rfl
  rw [hy7, show Tryz.prog.cellsOf 27 = 1 from by kernel_rfl] at q7
  have q7 : DataW.trod enc Tryz.prog w 0 spare held n 27 [c8] = some y7 := q7
  obtain ⟨x7, f7, e7, w7⟩ := (opens_sl (k := 1) Tryz.underlying27 (by kernel_rfl) (by decide) (opens_int Tryz.underlying3)) _ _ _ q7
  have e7 : (ESl 1 EInt) w [c8] x7 f7 := e7
  obtain ⟨v7, z7, e7⟩ := e7
  simp only [List.cons.injEq, and_true] at z7
  obtain ⟨y8, hy8⟩ : ∃ y, xs[8]? = some y := ⟨_, List.getElem?_eq_getElem (by rw [hlen]; decide)⟩
  have q8 : DataW.trod enc Tryz.prog w 0 spare held n 3 (List.take (Tryz.prog.cellsOf 3) (List.drop 9 [c0, c1, c2, c3, c4, c5, c6, c7, c8, c9])) = xs[8]? := hf 8 _ rfl
  rw [hy8, show Tryz.prog.cellsOf 3 = 1 from by kernel_rfl] at q8
  have q8 : DataW.trod enc Tryz.prog w 0 spare held n 3 [c9] = some y8 := q8
  obtain ⟨x8, f8, e8, w8⟩ := (opens_int Tryz.underlying3) _ _ _ q8
  have e8 : EInt w [c9] x8 f8 := e8
  obtain ⟨z8, _⟩ := e8
  simp only [List.cons.injEq, and_true] at z8
  subst z0
  subst z1
  subst z2
  subst z4
  subst z5
  subst z6
  subst z7
  subst z8
  exact ⟨⟨x0, x1, x2, x3, x4, x5, x6, x7, x8⟩, _, ⟨_, _, _, _, _, _, _, _, rfl, e1, e2, e3, e7, rfl⟩, ⟨w0, w1, w2, w3, w4, w5, w6, w7, w8⟩⟩

end Go.Proofs.YthjedjndamejmaaGreat.C
