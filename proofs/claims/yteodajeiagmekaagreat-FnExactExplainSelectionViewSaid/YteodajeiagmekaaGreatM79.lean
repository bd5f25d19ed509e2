/-
  What one server sees, explained.
-/
import Derived.Test.YteodajeiagmekaaGreatM54
import Derived.Test.YteodajeiagmekaaGreatM73
import Derived.Test.YteodajeiagmekaaGreatM78
namespace Go.Proofs.YteodajeiagmekaaGreat.G
set_option linter.all false
open Go.RowKit L D
section
set_option maxRecDepth 100000
theorem va(s:Int):Sound ty Tryz.prog 197 [.a (.lit (.int .i64 s))] [.a (.lit (.int .i64 (dV s)))]:=by
 refine Sound.o X Tryz.call197 Tryz.func197 Tryz.ntmps197 rfl rfl ?_
 intro zb
 refine W.s0 X [0] rfl ⟨⟩ ?_
 refine W.seq ?_
 refine W.s0 X [4] rfl ⟨⟩ ?_
 refine W.cond rfl (fun hb0=> ?_) (fun hb0=> ?_)
 ·try simp only[nb,an,aq,aa]at hb0
  refine W.s0 X [2] rfl ⟨⟩ ?_
  refine W.ret ?_
  exact Fin.ret rfl ⟨by rw[dV,if_pos (by omega)],⟨⟩⟩
 ·try simp only[nb,an,aq,aa]at hb0
  refine W.skip ?_
  refine W.s0 X [2] rfl ⟨⟩ ?_
  refine W.ret ?_
  exact Fin.ret rfl ⟨by rw[dV,if_neg (by omega)],⟨⟩⟩
end
end Go.Proofs.YteodajeiagmekaaGreat.G
