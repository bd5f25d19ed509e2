/-
  Sizes, and closed facts on types.
-/
import Derived.Test.YtjknhnhcbadigaaDoorZFormatTransfersM2
import Derived.Test.YtjknhnhcbadigaaDoorRows
namespace Go.Proofs.YtjknhnhcbadigaaDoor.C
set_option linter.all false
open Go.RowKit L D
def size_Trf (x : Trf) : Nat := 0
end Go.Proofs.YtjknhnhcbadigaaDoor.C
