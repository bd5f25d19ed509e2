/-
  Copies, exclusive or, ciphers, cells, rows of mailboxes.
-/
import Derived.Test.YteodajeiagmekaaGreatM14
import Derived.Test.YteodajeiagmekaaGreatM17
namespace Go.Proofs.YteodajeiagmekaaGreat.G
set_option linter.all false
open Go.RowKit L D
section
set_option maxRecDepth 100000
theorem gH(l:List Int)(hl:l.length≤4194304):Sound ty Tryz.prog 242 [.a (.sl .int l)] [.a (.sl .int l)]:=by
 refine Sound.o X Tryz.call242 Tryz.func242 Tryz.ntmps242 rfl rfl ?_
 intro zb
 refine W.s0 X [0] rfl ⟨⟩ ?_
 refine W.seq ?_
 refine W.seq ?_
 refine W.isNil X [] [] [0,4] rfl (by and_intros<;>exact⟨⟩) (fun hn1=> ?_) ?_
 ·skip
  refine W.cond rfl (fun _=> ?_) (fun hb=>absurd hb (by decide))
  refine W.s0 X [2] rfl ⟨⟩ ?_
  refine W.ret ?_
  exact Fin.ret rfl ⟨hn1,⟨⟩⟩
 ·skip
  refine W.cond rfl (fun hb=>absurd hb (by decide)) (fun _=> ?_)
  refine W.skip ?_
  refine W.sr X [(7,5)] [] [2] [] rfl (by and_intros<;>first|exact⟨⟩|exact rfl| (simp only[cT,maxLen,lens];omega)) ?_
  refine W.ret ?_
  exact Fin.ret rfl ⟨rfl,⟨⟩⟩
end
end Go.Proofs.YteodajeiagmekaaGreat.G
