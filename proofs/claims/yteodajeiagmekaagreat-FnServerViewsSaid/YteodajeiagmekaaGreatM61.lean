/-
  What the laws on phases, reads, rounds and events ask. No program in sight.
-/
import Derived.Test.YteodajeiagmekaaGreatM15
import Derived.Test.YteodajeiagmekaaGreatM60
namespace Go.Proofs.YteodajeiagmekaaGreat.G
set_option linter.all false
open Go.RowKit L D
section
theorem acE{a b:List UInt8}{k:Nat}(h1:k<a.length)(h2:k<b.length)(h3: ¬(((a.getD k (au .u8)).toNat:Nat):Int)=(b.getD k (au .u8)).toNat):(a==b)=false:=by
 rw[beq_eq_false_iff_ne]
 intro h
 rw[h]at h3
 exact h3 rfl
end
end Go.Proofs.YteodajeiagmekaaGreat.G
