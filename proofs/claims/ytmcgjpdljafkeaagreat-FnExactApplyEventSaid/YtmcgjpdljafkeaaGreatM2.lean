/-
  The data of the program: structures, and how cells read as them.
-/
import Derived.Test.YtmcgjpdljafkeaaGreatM0
namespace Go.Proofs.YtmcgjpdljafkeaaGreat.D
set_option linter.all false
open Go.RowKit L
section
def BG(x:Ev):Prop:=(we) x.kind∧(we) x.node∧(we) x.value∧(fun l=> ∀x,x∈l→(fun _=>True) x) x.body
end
end Go.Proofs.YtmcgjpdljafkeaaGreat.D
