/-
  Sizes, and closed facts on types.
-/
import Derived.Test.YteodajeiagmekaaGreatRows
import Derived.Test.YteodajeiagmekaaGreatM3
namespace Go.Proofs.YteodajeiagmekaaGreat.C
set_option linter.all false
open Go.RowKit L D
section
def eF(x:DB):Nat:=(bX List.length) x.rows
def bI(x:aA):Nat:=eF x.share
def bp(x:aO):Nat:=(bX bI) x.received
def aZ(x:ay):Nat:=eF x.db
def cB(x:gW):Nat:=(bX aZ) x.rounds
def bD(x:ep):Nat:=(bX List.length) x.av+(bX List.length) x.inbox
def aP(x:aL):Nat:=bD x.live+bD x.saved
end
end Go.Proofs.YteodajeiagmekaaGreat.C
