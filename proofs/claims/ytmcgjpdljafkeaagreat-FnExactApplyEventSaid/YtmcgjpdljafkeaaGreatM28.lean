/-
  Sizes, and closed facts on types.
-/
import Derived.Test.YtmcgjpdljafkeaaGreatM2
import Derived.Test.YtmcgjpdljafkeaaGreatM27
namespace Go.Proofs.YtmcgjpdljafkeaaGreat.C
set_option linter.all false
open Go.RowKit L D
section
def ck(x:Ev):Nat:=List.length x.body
end
end Go.Proofs.YtmcgjpdljafkeaaGreat.C
