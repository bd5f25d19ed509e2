/-
  Selections, their exclusive or, queries, seeds of reads. No program in sight.
-/
import Derived.Test.YteodajeiagmekaaGreatM14
namespace Go.Proofs.YteodajeiagmekaaGreat.G
set_option linter.all false
open Go.RowKit L D
section
theorem Mj(v:List Int)(rows:Int):bN v rows=((inr rows 0 64&&decide ((v.length:Int)=rows))&& !(v.any fun x=> !inr x 0 1)):=by
 have e:(v.all fun x=>inr x 0 1)= !(v.any fun x=> !inr x 0 1):=by rw[List.not_any_eq_all_not];simp
 rw[bN,e]
 by_cases h:(v.length:Int)=rows
 ·subst h;simp[inr]
 ·simp[h]
theorem JQ{a b:List Int}(h:kG a b=true)(k:Nat)(hk:k<b.length):(List.zipWith xb a b).take (k+1)++a.drop (k+1)=((List.zipWith xb a b).take k++a.drop k).set k (IntKind.i64.wrap (BitVec.ofInt IntKind.i64.bits (((List.zipWith xb a b).take k++a.drop k).getD k (au .int))^^^BitVec.ofInt IntKind.i64.bits (b.getD k (au .int))).toNat):=by
 have hl:=nF h
 have hz:=za h
 rw[ud _ _ k (au .int) _ (by omega) (by omega)]
 rw[kq _ _ _ _ (by omega),N2 h k (by omega)]
end
end Go.Proofs.YteodajeiagmekaaGreat.G
