/-
  What the laws on phases, reads, rounds and events ask. No program in sight.
-/
import Derived.Test.YteodajeiagmekaaGreatM16
import Derived.Test.YteodajeiagmekaaGreatM58
namespace Go.Proofs.YteodajeiagmekaaGreat.G
set_option linter.all false
open Go.RowKit L D
section
def bO(l:List UInt8)(i:Int):Int:=if i<(l.length:Int)then IntKind.i64.wrap ((l.getD i.toNat (au .u8)).toNat:Int)else(IntKind.i64.wrap (IntKind.i64.wrap (i*31)+IntKind.i64.wrap ((l.length:Int)*7))).tmod 256
theorem BT(l:List UInt8){i:Int}(hl:l.length≤1048576)(hi:0≤i∧i≤1000):0≤bO l i∧bO l i≤255:=by
 unfold bO
 split
 ·have:=(l.getD i.toNat (au .u8)).toNat_lt
  rw[bl (by omega)];omega
 ·rw[bl (a:=i*31) (by omega),bl (a:=(l.length:Int)*7) (by omega),bl (by omega),dj (by omega)]
  omega
theorem uY{a n:Int}(h:0≤a)(hn:0<n):0≤a.tmod n∧a.tmod n<n:=by
 rw[dj h]
 exact⟨Int.emod_nonneg _ (by omega),Int.emod_lt_of_pos _ hn⟩
end
end Go.Proofs.YteodajeiagmekaaGreat.G
