/-
  The data of the program: structures, and how cells read as them.
-/
import Derived.Test.YteodajeiagmekaaGreatM0
namespace Go.Proofs.YteodajeiagmekaaGreat.D
set_option linter.all false
open Go.RowKit L
section
def sD(n:Int):Prop:= -9223372036854775808≤n∧n≤9223372036854775807
def QY(x:DB):Prop:=(fun l=> ∀x,x∈l→(fun l=> ∀x,x∈l→(fun _=>True) x) x) x.rows
def FT(x:aA):Prop:=(sD) x.client∧(QY) x.share
def QZ(x:aO):Prop:=(sD) x.id∧(sD) x.rows∧(sD) x.round∧(fun l=> ∀x,x∈l→(FT) x) x.received∧(sD) x.behavior
def FU(x:ay):Prop:=(sD) x.round∧(QY) x.db
def Q0(x:gW):Prop:=(sD) x.rows∧(fun l=> ∀x,x∈l→(FU) x) x.rounds
def LG(x:ep):Prop:=(sD) x.id∧(sD) x.eu∧(sD) x.key∧(sD) x.seed∧(fun l=> ∀x,x∈l→(fun l=> ∀x,x∈l→(fun _=>True) x) x) x.av∧(sD) x.sent∧(fun l=> ∀x,x∈l→(fun l=> ∀x,x∈l→(fun _=>True) x) x) x.inbox∧(sD) x.next
def Q1(x:aL):Prop:=(LG) x.live∧(LG) x.saved
def Dl(x:aJ):Prop:=(sD) x.rows∧(fun l=> ∀x,x∈l→(QZ) x) x.ah∧(fun l=> ∀x,x∈l→(Q1) x) x.af∧(Q0) x.ak∧(sD) x.az∧(sD) x.seed∧(sD) x.round∧(fun l=> ∀x,x∈l→(sD) x) x.replaced∧(sD) x.cancelled
end
end Go.Proofs.YteodajeiagmekaaGreat.D
