/-
  Closed facts on the program as a whole, each by the kernel, once for all rows.
-/
import Derived.ProofKit
import Derived.Test.YtaalpcnbbldlaaaGreatDoorRows
namespace Go.Proofs.YtaalpcnbbldlaaaGreatDoor.K
set_option linter.all false
open Go Go.ChangeAt
section
theorem laid:laidOutB Tryz.prog=true:=by kernel_rfl
theorem ade:mapsRowed Tryz.prog=true:=by kernel_rfl
theorem stops:(Tryz.prog.stops== [])=true:=by kernel_rfl
theorem stopKnobs:(Tryz.prog.stopKnobs== [])=true:=by kernel_rfl
theorem plainKeys:(true==Tryz.prog.plainKeys)=true:=by kernel_rfl
theorem stopsHeard:Tryz.prog.stopsHeard=true:=by kernel_rfl
theorem mayEnter:Tryz.prog.mayEnter=true:=by kernel_rfl
theorem lifted:(false==Tryz.prog.liftsFinal)=true:=by kernel_rfl
theorem make:(Tryz.prog.make==some .cut)=true:=by kernel_rfl
theorem own:ownKnob Tryz.prog.godebug=none:=by kernel_rfl
theorem ae3{a b:Bool}(h:a=true)(k:b=true):(a&&b)=true:=by rw[h,k];rfl
end
end Go.Proofs.YtaalpcnbbldlaaaGreatDoor.K
