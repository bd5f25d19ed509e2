/-
  Closed facts on the program as a whole, each by the kernel, once for all rows.
-/
import Derived.ProofKit
import Derived.Test.YtkcegdacbddipaaGreatRows
open Go.Proofs.Tryz renaming prog→bC
namespace Go.Proofs.YtkcegdacbddipaaGreat.K
set_option linter.all false
open Go Go.ChangeAt
section
theorem laid:laidOutB bC=true:=by kernel_rfl
theorem akG:mapsRowed bC=true:=by kernel_rfl
theorem stops:(bC.stops== [])=true:=by kernel_rfl
theorem stopKnobs:(bC.stopKnobs== [])=true:=by kernel_rfl
theorem plainKeys:(true==bC.plainKeys)=true:=by kernel_rfl
theorem stopsHeard:bC.stopsHeard=true:=by kernel_rfl
theorem mayEnter:bC.mayEnter=true:=by kernel_rfl
theorem lifted:(false==bC.liftsFinal)=true:=by kernel_rfl
theorem make:(bC.make==some .cut)=true:=by kernel_rfl
theorem own:ownKnob bC.godebug=none:=by kernel_rfl
theorem am2{a b:Bool}(h:a=true)(k:b=true):(a&&b)=true:=by rw[h,k];rfl
end
end Go.Proofs.YtkcegdacbddipaaGreat.K
