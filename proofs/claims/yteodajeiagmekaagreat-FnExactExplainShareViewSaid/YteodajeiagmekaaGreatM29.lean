/-
  Valid worlds; cells that clients write.
-/
import Derived.Test.YteodajeiagmekaaGreatM19
namespace Go.Proofs.YteodajeiagmekaaGreat.G
set_option linter.all false
open Go.RowKit L D
section
set_option maxRecDepth 100000
theorem lE(x:aJ)(c:Int):Sound ty Tryz.prog 98 [.agg (aG x), .a (.lit (.int .i64 c))] [.a (.lit (.bool (qy x c)))]:=by
 refine Sound.o X Tryz.call98 Tryz.func98 Tryz.ntmps98 rfl rfl ?_
 intro zb
 refine W.b7 0 2 rfl rfl (fun j0=> ?_)
 refine W.s0 X [1,2] rfl ⟨⟩ ?_
 refine W.sr X [] [(10,⟨false,[.a (.lit (.bool _))]⟩)] [4] [] rfl (by(repeat' with_reducible first|exact aj.nil|refine aj.mk ?_ ?_|apply And.intro)<;>first|exact(aC _ _ _)) ?_
 refine W.ret ?_
 exact Fin.ret rfl ⟨by rw[bl (by omega)];rfl,⟨⟩⟩
end
end Go.Proofs.YteodajeiagmekaaGreat.G
