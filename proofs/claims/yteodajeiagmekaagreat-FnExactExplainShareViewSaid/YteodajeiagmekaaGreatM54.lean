/-
  A slice of the call's own, without elements, becomes one whose elements' memory is others'.
-/
import Derived.Test.YteodajeiagmekaaGreatM5
import Derived.Test.YteodajeiagmekaaGreatM10
namespace Go.Proofs.YteodajeiagmekaaGreat.G
set_option linter.all false
open Go.RowKit L D
section
variable{ty:Tag→Nat}
theorem W.toBrrOf{P:Program}{zb:bY}{Q:Post}{st st':St}{c:Code}(s m q:Nat)(h:G.toBrr st s m (.of q)=some st')(k:W P ty zb c Q st'):W P ty zb c Q st:=fun a w iv=>k a w (toBrr_ok h iv)
end
end Go.Proofs.YteodajeiagmekaaGreat.G
