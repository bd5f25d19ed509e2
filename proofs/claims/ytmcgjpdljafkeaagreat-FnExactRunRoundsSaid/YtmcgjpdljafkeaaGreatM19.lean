/-
  Rounds in a row, until all is quiet. No program in sight.
-/
import Derived.Test.YtmcgjpdljafkeaaGreatM9
namespace Go.Proofs.YtmcgjpdljafkeaaGreat.G
set_option linter.all false
open Go.RowKit L D
section
theorem sJ{x:aN}(h:wB x):x.aa.length≤1048576:=cg h.2.1
end
section
def mx(a b:Int):Int:=if b>a then b else a
end
end Go.Proofs.YtmcgjpdljafkeaaGreat.G
