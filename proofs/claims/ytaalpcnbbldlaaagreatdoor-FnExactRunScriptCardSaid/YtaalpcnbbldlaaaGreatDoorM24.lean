/-
  Closed facts on the program as a whole, each by the kernel, once for all rows.
-/
import Derived.ProofKit
import Derived.Test.YtaalpcnbbldlaaaGreatDoorRows
open Go.Proofs.Tryz renaming prog→aN
namespace Go.Proofs.YtaalpcnbbldlaaaGreatDoor.K
set_option linter.all false
open Go Go.ChangeAt
section
theorem laid:laidOutB aN=true:=by kernel_rfl
theorem apN:mapsRowed aN=true:=by kernel_rfl
theorem stops:(aN.stops== [])=true:=by kernel_rfl
theorem stopKnobs:(aN.stopKnobs== [])=true:=by kernel_rfl
theorem plainKeys:(true==aN.plainKeys)=true:=by kernel_rfl
theorem stopsHeard:aN.stopsHeard=true:=by kernel_rfl
theorem mayEnter:aN.mayEnter=true:=by kernel_rfl
theorem lifted:(false==aN.liftsFinal)=true:=by kernel_rfl
theorem make:(aN.make==some .cut)=true:=by kernel_rfl
theorem own:ownKnob aN.godebug=none:=by kernel_rfl
theorem arE{a b:Bool}(h:a=true)(k:b=true):(a&&b)=true:=by rw[h,k];rfl
end
end Go.Proofs.YtaalpcnbbldlaaaGreatDoor.K
