/-
  Sizes, and closed facts on types.
-/
import Derived.Test.YtjcojocjlglglaaGreatZReadPhaseM2
import Derived.Test.YtjcojocjlglglaaGreatRows
namespace Go.Proofs.YtjcojocjlglglaaGreat.C
set_option linter.all false
open Go.RowKit L D
def dR(x:DB):Nat:=(bY List.length) x.rows
def aW(x:aE):Nat:=dR x.share
def aZ(x:bO):Nat:=(bY aW) x.received
def aV(x:az):Nat:=dR x.db
def bU(x:gJ):Nat:=(bY aV) x.rounds
def bh(x:dL):Nat:=(bY List.length) x.aj+(bY List.length) x.inbox
def aN(x:aO):Nat:=bh x.live+bh x.saved
def bL(x:b7):Nat:=(bY aZ) x.aq+(bY aN) x.ah+bU x.aA+List.length x.replaced
end Go.Proofs.YtjcojocjlglglaaGreat.C
