/-
  What servers publish, and who is guilty.
-/
import Derived.Test.YteodajeiagmekaaGreatM43
import Derived.Test.YteodajeiagmekaaGreatM49
namespace Go.Proofs.YteodajeiagmekaaGreat.G
set_option linter.all false
open Go.RowKit L D
section
set_option maxRecDepth 100000
theorem gV(a b:DB):Sound ty Tryz.prog 183 [.agg (aF a), .agg (aF b)] [.a (.lit (.bool (a.rows==b.rows)))]:=by
 refine Sound.o X Tryz.call183 Tryz.func183 Tryz.ntmps183 rfl rfl ?_
 intro zb
 refine W.s0 X [2,3] rfl ⟨⟩ ?_
 refine W.sr X [] [(9,⟨false,[.a (.lit (.bool (a.rows==b.rows)))]⟩)] [4] [] rfl (by(repeat' with_reducible first|exact aj.nil|refine aj.mk ?_ ?_|apply And.intro)<;>first|exact(gZ a.rows b.rows)) ?_
 refine W.ret ?_
 exact Fin.ret rfl ⟨rfl,⟨⟩⟩
end
end Go.Proofs.YteodajeiagmekaaGreat.G
