/- Steps. -/
import Derived.ProofKit
import Derived.Test.YtaalpcnbbldlaaaGreatDoorRows
open Go.Proofs.Tryz renaming prog→aP
namespace Go.Proofs.YtaalpcnbbldlaaaGreatDoor.K
set_option linter.all false
open Go Go.ChangeAt
theorem laid:laidOutB aP=true:=by kernel_rfl
theorem aFn:mapsRowed aP=true:=by kernel_rfl
theorem stops:(aP.stops== [])=true:=by kernel_rfl
theorem stopKnobs:(aP.stopKnobs== [])=true:=by kernel_rfl
theorem plainKeys:(true==aP.plainKeys)=true:=by kernel_rfl
theorem stopsHeard:aP.stopsHeard=true:=by kernel_rfl
theorem mayEnter:aP.mayEnter=true:=by kernel_rfl
theorem lifted:(false==aP.liftsFinal)=true:=by kernel_rfl
theorem make:(aP.make==some .cut)=true:=by kernel_rfl
theorem own:ownKnob aP.godebug=none:=by kernel_rfl
theorem aHL{a b:Bool}(h:a=true)(k:b=true):(a&&b)=true:=by rw[h,k];rfl
end Go.Proofs.YtaalpcnbbldlaaaGreatDoor.K
