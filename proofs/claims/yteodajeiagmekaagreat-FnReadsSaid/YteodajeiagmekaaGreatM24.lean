/-
  Plain laws: ciphers, cells, rows of mailboxes, selections. No program in sight.
-/
import Derived.Test.YteodajeiagmekaaGreatM15
import Derived.Test.YteodajeiagmekaaGreatM16
namespace Go.Proofs.YteodajeiagmekaaGreat.G
set_option linter.all false
open Go.RowKit L D
section
theorem PS(s:Int)(l:List UInt8)(k:Nat)(h:k<l.length):(decr s l).take (k+1)++l.drop (k+1)=((decr s l).take k++l.drop k).set k (UInt8.ofNat (IntKind.u8.wrap ((((decr s l).take k++l.drop k).getD k (au .u8)).toNat-IntKind.u8.wrap ((kh s [(k:Int)]).tmod 256))).toNat):=by
 refine rX _ _ k (au .u8) _ h (nV s l) ?_
 rw[JM s l k h,kq _ _ _ _ (by rw[nV];omega)]
 refine yU ?_
 have:=dy s [(k:Int)]
 rw[HL ((kh s [(k:Int)]).tmod 256),dj this.1]
 omega
end
end Go.Proofs.YteodajeiagmekaaGreat.G
