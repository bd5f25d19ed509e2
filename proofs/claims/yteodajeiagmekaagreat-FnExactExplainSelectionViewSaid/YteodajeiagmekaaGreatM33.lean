/-
  Selections, their exclusive or, queries, seeds of reads. No program in sight.
-/
import Derived.Test.YteodajeiagmekaaGreatM31
import Derived.Test.YteodajeiagmekaaGreatM32
namespace Go.Proofs.YteodajeiagmekaaGreat.G
set_option linter.all false
open Go.RowKit L D
section
def eE(x:aJ)(sv r row s:Int):List Int:=if mT x sv row then(query x r row s).getD sv.toNat (au (.sl .int))else []
end
end Go.Proofs.YteodajeiagmekaaGreat.G
