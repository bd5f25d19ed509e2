/-
  Sizes, and closed facts on types.
-/
import Derived.Test.YtmcgjpdljafkeaaGreatRows
import Derived.Test.YtmcgjpdljafkeaaGreatM3
namespace Go.Proofs.YtmcgjpdljafkeaaGreat.C
set_option linter.all false
open Go.RowKit L D
section
def fT(x:DB):Nat:=(bL List.length) x.rows
def bF(x:aB):Nat:=fT x.share
def bl(x:aU):Nat:=(bL bF) x.received
def aY(x:aA):Nat:=fT x.db
def b7(x:iS):Nat:=(bL aY) x.rounds
def bh(x:dV):Nat:=(bL List.length) x.aq+(bL List.length) x.inbox
def aJ(x:aL):Nat:=bh x.live+bh x.saved
def bB(x:aN):Nat:=(bL bl) x.aj+(bL aJ) x.aa+b7 x.ak+List.length x.replaced
end
end Go.Proofs.YtmcgjpdljafkeaaGreat.C
