/-
  Sizes, and closed facts on types.
-/
import Derived.Test.YteodajeiagmekaaGreatM2
import Derived.Test.YteodajeiagmekaaGreatM66
namespace Go.Proofs.YteodajeiagmekaaGreat.C
set_option linter.all false
open Go.RowKit L D
section
def dB(x:aJ):Nat:=(bX bp) x.ah+(bX aP) x.af+cB x.ak+List.length x.replaced
end
end Go.Proofs.YteodajeiagmekaaGreat.C
