/-
  Rounds in a row, until all is quiet. No program in sight.
-/
import Derived.Test.YtmcgjpdljafkeaaGreatM17
import Derived.Test.YtmcgjpdljafkeaaGreatM33
namespace Go.Proofs.YtmcgjpdljafkeaaGreat.G
set_option linter.all false
open Go.RowKit L D
section
def kV(x:aN):Int:=k9 400 (IntKind.i64.wrap (20+IntKind.i64.wrap (8*Fo (Fo 0 (qu x.aa x.aa.length)) (Bu x.aa x.aa.length))))
theorem Tc(a b:Int):mx 0 (mx a b)=Fo (Fo 0 a) b:=by
 unfold mx Fo
 (repeat' split)<;>omega
end
end Go.Proofs.YtmcgjpdljafkeaaGreat.G
