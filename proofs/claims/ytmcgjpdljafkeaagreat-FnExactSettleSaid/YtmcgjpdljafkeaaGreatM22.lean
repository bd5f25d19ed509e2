/-
  Rounds in a row, until all is quiet. No program in sight.
-/
import Derived.Test.YtmcgjpdljafkeaaGreatM19
namespace Go.Proofs.YtmcgjpdljafkeaaGreat.G
set_option linter.all false
open Go.RowKit L D
section
def bN(x:aN):Nat→aN
 |0=>x
 |k+1=>cP (bN x k)
end
section
theorem Gs{x:aN}{n:Nat}(h:wC x n): ∀k,wC (bN x k) (n+8*k)
 |0=>h
 |k+1=>dO (Dk (Gs h k)) (by omega)
end
section
theorem VD{x:aN}{n k:Nat}(h:wC x n)(hn:n+8*k≤4194000):wR (bN x k):=Au (Gs h k) hn
end
section
theorem Gz{x:aN}(h:wC x 4100000){k:Nat}(hk:k≤401):wR (bN x k)∧(bN x k).aa.length≤1048576:=by
 have h1:=VD h (k:=k) (by omega)
 exact⟨h1,sJ h1.1⟩
end
end Go.Proofs.YtmcgjpdljafkeaaGreat.G
