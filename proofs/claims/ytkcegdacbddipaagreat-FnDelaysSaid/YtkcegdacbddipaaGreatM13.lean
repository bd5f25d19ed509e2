/-
  Closed facts on the program as a whole, each by the kernel, once for all rows.
-/
import Derived.ProofKit
import Derived.Test.YtkcegdacbddipaaGreatRows
open Go.Proofs.Tryz renaming prog→bu
namespace Go.Proofs.YtkcegdacbddipaaGreat.K
set_option linter.all false
open Go Go.ChangeAt
section
theorem laid:laidOutB bu=true:=by kernel_rfl
theorem ah0:mapsRowed bu=true:=by kernel_rfl
theorem stops:(bu.stops== [])=true:=by kernel_rfl
theorem stopKnobs:(bu.stopKnobs== [])=true:=by kernel_rfl
theorem plainKeys:(true==bu.plainKeys)=true:=by kernel_rfl
theorem stopsHeard:bu.stopsHeard=true:=by kernel_rfl
theorem mayEnter:bu.mayEnter=true:=by kernel_rfl
theorem lifted:(false==bu.liftsFinal)=true:=by kernel_rfl
theorem make:(bu.make==some .cut)=true:=by kernel_rfl
theorem own:ownKnob bu.godebug=none:=by kernel_rfl
theorem akj{a b:Bool}(h:a=true)(k:b=true):(a&&b)=true:=by rw[h,k];rfl
end
end Go.Proofs.YtkcegdacbddipaaGreat.K
