/-
  Sizes, and closed facts on types.
-/
import Derived.Test.YtjknhnhcbadigaaDoorZFormatClientM2
import Derived.Test.YtjknhnhcbadigaaDoorRows
namespace Go.Proofs.YtjknhnhcbadigaaDoor.C
set_option linter.all false
open Go.RowKit L D
def size_Cli (x : Cli) : Nat := (lsz List.length) x.submitted + (lsz List.length) x.inbox
end Go.Proofs.YtjknhnhcbadigaaDoor.C
