/-
  Valid worlds; cells that clients write.
-/
import Derived.Test.YtmcgjpdljafkeaaGreatM16
import Derived.Test.YtmcgjpdljafkeaaGreatM17
namespace Go.Proofs.YtmcgjpdljafkeaaGreat.G
set_option linter.all false
open Go.RowKit L D
section
set_option maxRecDepth 100000
theorem CJ(x:aN)(c:Int)(hd:x.aa.length≤1048576):Sound ty Tryz.prog 234 [.agg (ay x), .a (.lit (.int .i64 c))] [.a (.lit (.bool (vA x c)))]:=by
 refine Sound.o X Tryz.call234 Tryz.func234 Tryz.ntmps234 rfl rfl ?_
 intro zb
 refine W.s0 X [1,2] rfl ⟨⟩ ?_
 refine W.sr X [] [(7,⟨false,[.a (.lit (.bool (jh x c)))]⟩),(12,⟨false,[.a (.lit (.bool (jh x (IntKind.i64.wrap (BitVec.ofInt IntKind.i64.bits c^^^BitVec.ofInt IntKind.i64.bits 1).toNat))))]⟩)] [4] [] rfl (by(repeat' with_reducible first|exact ah.nil|refine ah.mk ?_ ?_|apply And.intro);(iterate 2 all_goals try first|exact(eF x c)|exact fun _=>(eF x (IntKind.i64.wrap (BitVec.ofInt IntKind.i64.bits c^^^BitVec.ofInt IntKind.i64.bits 1).toNat)))) ?_
 refine W.ret ?_
 exact Fin.ret rfl ⟨by rw[P1,Nh hd],⟨⟩⟩
end
end Go.Proofs.YtmcgjpdljafkeaaGreat.G
