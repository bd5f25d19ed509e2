/-
  FnPhases, FnReads: the laws, walked by the symbolic machine: they return true. No condition.
-/
import Derived.Test.YteodajeiagmekaaGreatM49
import Derived.Test.YteodajeiagmekaaGreatM60
namespace Go.Proofs.YteodajeiagmekaaGreat.G
set_option linter.all false
open Go.RowKit L D
section
set_option maxRecDepth 100000
theorem xP(l:List UInt8)(i:Int)(hi:0≤i∧i≤1000):Sound ty Tryz.prog 28 [.a (.sl .u8 l), .a (.lit (.int .i64 i))] [.a (.lit (.int .i64 (bO l i)))]:=by
 refine Sound.o X Tryz.call28 Tryz.func28 Tryz.ntmps28 rfl rfl ?_
 intro zb
 refine W.s0 X [0,1] rfl ⟨⟩ ?_
 refine W.seq ?_
 refine W.s0 X [0,1,8] rfl ⟨⟩ ?_
 refine W.cond rfl (fun hb0=> ?_) (fun hb0=> ?_)
 ·try simp only[nb,an,aq,aa]at hb0
  refine W.s0 X [4] rfl (by and_intros<;>first|exact⟨⟩| (intros;omega)) ?_
  refine W.ret ?_
  exact Fin.ret rfl ⟨by rw[bO,if_pos (by omega)],⟨⟩⟩
 ·try simp only[nb,an,aq,aa]at hb0
  refine W.skip ?_
  refine W.s0 X [4] rfl (by and_intros<;>first|exact⟨⟩| (intros;omega)) ?_
  refine W.ret ?_
  exact Fin.ret rfl ⟨by rw[bO,if_neg (by omega)],⟨⟩⟩
end
end Go.Proofs.YteodajeiagmekaaGreat.G
