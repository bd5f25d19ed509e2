/-
  What one server sees of a read.
-/
import Derived.Test.YteodajeiagmekaaGreatM21
import Derived.Test.YteodajeiagmekaaGreatM29
import Derived.Test.YteodajeiagmekaaGreatM33
import Derived.Test.YteodajeiagmekaaGreatM34
import Derived.Test.YteodajeiagmekaaGreatM37
namespace Go.Proofs.YteodajeiagmekaaGreat.G
set_option linter.all false
open Go.RowKit L D
section
set_option maxRecDepth 100000
theorem uu(x:aJ)(sv r row s:Int)(oK:x.ah.length≤1048576):Sound ty Tryz.prog 60 [.agg (aG x), .a (.lit (.int .i64 sv)), .a (.lit (.int .i64 r)), .a (.lit (.int .i64 row)), .a (.lit (.int .i64 s))] [.a (.vw 0 none .int (eE x sv r row s))]:=by
 refine Sound.o X Tryz.call60 Tryz.func60 Tryz.ntmps60 rfl rfl ?_
 intro zb
 refine W.b7 0 1 rfl rfl (fun nj=> ?_)
 refine W.s0 X [1,2,3,4,5] rfl ⟨⟩ ?_
 refine W.seq ?_
 refine W.sr X [] [(12,⟨false,[.a (.lit (.bool (okW x)))]⟩),(20,⟨false,[.a (.lit (.bool (inr sv 0 (IntKind.i64.wrap ((x.ah.length:Int)-1)))))]⟩),(28,⟨false,[.a (.lit (.bool (inr row 0 (IntKind.i64.wrap (x.rows-1)))))]⟩)] [1,2,3,4,5,30] [] rfl (by(repeat' with_reducible first|exact aj.nil|refine aj.mk ?_ ?_|apply And.intro);(iterate 3 all_goals try first|exact(bw x)|exact fun _=>(aC sv 0 (IntKind.i64.wrap ((x.ah.length:Int)-1)))|exact fun _=>(aC row 0 (IntKind.i64.wrap (x.rows-1))))) ?_
 refine W.cond rfl (fun hb0=> ?_) (fun hb0=> ?_)
 ·have hk:mT x sv row=false:=bK hb0 (by simp only[mT,aH]<;>first|rfl|ac_rfl)
  refine W.s0 X [10] rfl ⟨⟩ ?_
  refine W.ret ?_
  exact Fin.ret rfl ⟨by rw[eE,if_neg (by rw[hk];decide)],⟨⟩⟩
 ·have hk:mT x sv row=true:=bG hb0 (by simp only[mT,aH]<;>first|rfl|ac_rfl)
  have hq:=AN r s hk
  have Lu:(query x r row s).length=x.ah.length:=hq
  have rN:=CM hk
  have hrl:=dL x.ah.length r row s
  refine W.skip ?_
  refine W.sd X [] [(38,⟨true,[.a (.sl .int (cG x.ah.length r row s))]⟩),(39,⟨true,[.a (.sl (.sl .int) (eM x.rows row (cG x.ah.length r row s)))]⟩)] [10] [] 13 MO (by kernel_rfl) rfl (by(repeat' with_reducible first|exact aj.nil|refine aj.mk ?_ ?_|apply And.intro);(iterate 2 all_goals try first|exact(lI x r row s (by first|assumption|omega| (simp;done)| (simp;omega)))|exact(lH x.rows row (cG x.ah.length r row s) (by first|assumption|omega| (simp;done)| (simp;omega))));all_goals first| (intros;omega)) ?_
  refine W.ret ?_
  exact Fin.ret rfl ⟨by rw[eE,if_pos hk];rfl,⟨⟩⟩
end
end Go.Proofs.YteodajeiagmekaaGreat.G
