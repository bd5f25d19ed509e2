/-
  Sizes, and closed facts on types.
-/
import Derived.Test.YteodajeiagmekaaGreatRows
import Derived.Test.YteodajeiagmekaaGreatP2
namespace Go.Proofs.YteodajeiagmekaaGreat.C
set_option linter.all false
open Go.RowKit L D
section
def ct(x:DB):Nat:=(cj List.length) x.rows
def aE(x:au):Nat:=ct x.share
def aM(x:b9):Nat:=(cj aE) x.received
def aF(x:an):Nat:=ct x.db
def bZ(x:fD):Nat:=(cj aF) x.rounds
def bu(x:dL):Nat:=(cj List.length) x.aj+(cj List.length) x.inbox
def aO(x:bH):Nat:=bu x.live+bu x.saved
def bq(x:cX):Nat:=(cj aM) x.aG+(cj aO) x.af+bZ x.aW+List.length x.replaced
end
end Go.Proofs.YteodajeiagmekaaGreat.C
