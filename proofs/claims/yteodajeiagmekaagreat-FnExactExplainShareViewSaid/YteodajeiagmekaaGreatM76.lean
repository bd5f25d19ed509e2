/-
  How much what explains a view holds. No program in sight.
-/
import Derived.Test.YteodajeiagmekaaGreatM38
import Derived.Test.YteodajeiagmekaaGreatM73
import Derived.Test.YteodajeiagmekaaGreatM75
namespace Go.Proofs.YteodajeiagmekaaGreat.G
set_option linter.all false
open Go.RowKit L D
section
theorem aaD{rows i:Int}{c:List UInt8}(h:fT rows i c=true):qE (cw rows) i c=Ah rows i c:=by
 simp only[fT,Bool.and_eq_true]at h
 rw[Ah,if_pos h.1]
end
section
theorem UQ(x:aJ)(sv cl row:Int)(c:List UInt8):aD cx (uZ x sv cl row c)≤1099511627776-16:=by
 have h:=jD (C:=32) (sz:=eF) PV (uZ x sv cl row c)
 have hb:(uZ x sv cl row c).length≤4∧ ∀d,d∈uZ x sv cl row c→eF d≤1048576:=by
  unfold uZ
  split
  ·rename_i hk
   obtain⟨h1,h2⟩:=UP hk
   have q:=(MX.of (Xt hk).1).xn
   exact⟨by omega,fun d hd=>cZ (h2 d hd).1⟩
  ·exact⟨Nat.zero_le _,fun d hd=>by cases hd⟩
 have h3:=Ka eF 1048576 _ hb.2
 have h4:=hb.1
 unfold bX at h
 omega
end
end Go.Proofs.YteodajeiagmekaaGreat.G
