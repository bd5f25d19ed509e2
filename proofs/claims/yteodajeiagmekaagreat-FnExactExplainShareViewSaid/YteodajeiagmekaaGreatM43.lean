/-
  Databases.
-/
import Derived.Test.YteodajeiagmekaaGreatM20
import Derived.Test.YteodajeiagmekaaGreatM42
namespace Go.Proofs.YteodajeiagmekaaGreat.G
set_option linter.all false
open Go.RowKit L D
section
set_option maxRecDepth 100000
theorem cK(d:DB)(hs0:bX List.length d.rows≤1048576):Sound ty Tryz.prog 227 [.agg (aF d)] [.agg (aF d)]:=by
 refine Sound.o X Tryz.call227 Tryz.func227 Tryz.ntmps227 rfl rfl ?_
 intro zb
 refine W.s0 X [1,2] rfl ⟨⟩ ?_
 refine W.sr X [] [(5,⟨true,[.a (.sl (.sl .u8) d.rows)]⟩)] [2] [] rfl (by(repeat' with_reducible first|exact aj.nil|refine aj.mk ?_ ?_|apply And.intro)<;>first|exact(lC d.rows (by first|assumption|omega| (simp;done)| (simp;omega)))) ?_
 refine W.ret ?_
 exact Fin.ret rfl ⟨rfl,⟨⟩⟩
end
end Go.Proofs.YteodajeiagmekaaGreat.G
