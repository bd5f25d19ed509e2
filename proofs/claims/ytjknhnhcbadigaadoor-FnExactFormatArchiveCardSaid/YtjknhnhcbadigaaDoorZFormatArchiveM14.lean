/-
  Closed facts on the program as a whole, each by the kernel, once for all rows.
-/
import Derived.Test.YtjknhnhcbadigaaDoorRows
import Derived.ProofKit
namespace Go.Proofs.YtjknhnhcbadigaaDoor.K
set_option linter.all false
open Go Go.ChangeAt
theorem laid : laidOutB Tryd.prog = true := by kernel_rfl
theorem rowed : mapsRowed Tryd.prog = true := by kernel_rfl
theorem stops : (Tryd.prog.stops == []) = true := by kernel_rfl
theorem stopKnobs : (Tryd.prog.stopKnobs == []) = true := by kernel_rfl
theorem plainKeys : (true == Tryd.prog.plainKeys) = true := by kernel_rfl
theorem stopsHeard : Tryd.prog.stopsHeard = true := by kernel_rfl
theorem mayEnter : Tryd.prog.mayEnter = true := by kernel_rfl
theorem lifted : (false == Tryd.prog.liftsFinal) = true := by kernel_rfl
theorem make : (Tryd.prog.make == some .cut) = true := by kernel_rfl
theorem own : ownKnob Tryd.prog.godebug = none := by kernel_rfl
theorem and2 {a b : Bool} (h : a = true) (k : b = true) : (a && b) = true := by rw [h, k]; rfl
end Go.Proofs.YtjknhnhcbadigaaDoor.K
