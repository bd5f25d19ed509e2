/-
  What came in, read: from the form's own reading of an argument to the readings of this library. No program in sight.
-/
import Derived.Test.YteodajeiagmekaaGreatM2
import Derived.Test.YteodajeiagmekaaGreatM4
namespace Go.Proofs.YteodajeiagmekaaGreat.L
set_option linter.all false
open Go.RowKit Go.ChangeShapes Go.WideShapes Go.ChangeAt D
section
theorem iN{n:Int}(h:(Lit.int .i64 n).wf=true):sD n:=by
 have:=bounds_i64 h
 unfold sD;omega
section
variable{H:Type}(enc:TypeId×Value→H)(P:Program)(w:World)(spare:Nat→Bool)(held:Bool)
variable{enc P w spare held}
theorem cV{t:TypeId}(ht:P.underlying t=some (.int .i64)):sE enc P w spare held t mL sD:=by
 intro fuel cs y h
 obtain⟨n,rfl,_,hw⟩:=DataW.trod_int ht h
 exact⟨n,[],⟨rfl,rfl⟩,iN hw⟩
end
end
end Go.Proofs.YteodajeiagmekaaGreat.L
