/- Steps. -/
import Derived.Test.YtaalpcnbbldlaaaGreatDoorR10
namespace Go.Proofs.YtaalpcnbbldlaaaGreatDoor.G
set_option maxHeartbeats 0
open Go.RowKit L D
theorem zs0:AC 0 17:=by repeat' first|exact trivial|refine And.intro (by decide +kernel) ?_
end Go.Proofs.YtaalpcnbbldlaaaGreatDoor.G
