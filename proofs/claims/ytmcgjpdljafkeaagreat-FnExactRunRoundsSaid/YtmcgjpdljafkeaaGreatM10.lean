/-
  Small laws that contracts by the symbolic machine use.
-/
import Derived.Test.YtmcgjpdljafkeaaGreatM9
namespace Go.Proofs.YtmcgjpdljafkeaaGreat.G
set_option linter.all false
open Go.RowKit L D
section
theorem Ll{w:World}{v:Value}(h:v.oneCell'=true):BO w (.a (.lit v)) v:=⟨[],rfl,h,rfl⟩
end
end Go.Proofs.YtmcgjpdljafkeaaGreat.G
