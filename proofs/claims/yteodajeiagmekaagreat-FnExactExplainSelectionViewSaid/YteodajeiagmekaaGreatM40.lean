/-
  What one server sees of a read.
-/
import Derived.Test.YteodajeiagmekaaGreatM12
import Derived.Test.YteodajeiagmekaaGreatM33
import Derived.Test.YteodajeiagmekaaGreatM37
namespace Go.Proofs.YteodajeiagmekaaGreat.G
set_option linter.all false
open Go.RowKit L D
section
set_option maxRecDepth 100000
theorem sI(x:aJ)(r row s:Int)(oK:x.ah.length≤1048576):Sound ty Tryz.prog 196 [.agg (aG x), .a (.lit (.int .i64 r)), .a (.lit (.int .i64 row)), .a (.lit (.int .i64 s))] [.a (.sl (.sl .int) (query x r row s))]:=by
 refine Sound.o X Tryz.call196 Tryz.func196 Tryz.ntmps196 rfl rfl ?_
 intro zb
 have hw:IntKind.i64.wrap ((x.ah.length:Int)-1)=(x.ah.length:Int)-1:=bl (by omega)
 refine W.s0 X [1,2,3,4] rfl ⟨⟩ ?_
 refine W.s0 X [1,2,3,4,9] rfl (by and_intros<;>first|exact⟨⟩|exact rfl) ?_
 refine W.seq ?_
 refine W.s0 X [1,2,3,4,9,10] rfl ⟨⟩ ?_
 refine W.block ?_
 refine W.aE (fun k=>k≤(x.ah.length-1)) (fun k:Nat=> [(10, .one (.a (.lit (.int .i64 k))))]) (fun k=> [(11, .arr .int ((cG x.ah.length r row s).take k))]) (fun k=>(x.ah.length-1)-k) 0 (fun k=>rfl) (Nat.zero_le _) rfl ?_
 intro k hk
 have hle:=aY (cG x.ah.length r row s) k
 have hrl:=dL x.ah.length r row s
 refine W.seq ?_
 refine W.s0 X [1,2,3,4,9,10,17] rfl ⟨⟩ ?_
 refine W.cond rfl (fun hb0=> ?_) (fun hb0=> ?_)
 ·try simp only[nb,an,aq,aa]at hb0
  rw[hw]at hb0
  have hs:=uq x.ah.length r row s k (by omega)
  refine W.skip ?_
  refine W.seq ?_
  refine W.block ?_
  refine W.cD X [(28,11)] [(26,⟨false,[.a (.lit (.int .i64 (kh s [229,r,row,(k:Int)])))]⟩)] [1,2,3,4,9,10] [] rfl (by(repeat' with_reducible first|exact aj.nil|refine aj.mk ?_ ?_|apply And.intro)<;>first|exact(aW s [229,r,row,(k:Int)] (by first|assumption|omega| (simp;done)| (simp;omega)))|exact rfl|exact⟨rfl,bA _ (by decide)⟩| (simp only[cT,maxLen,lens];omega)) ?_
  refine W.r0 X [1,2,3,4,9,10] rfl ⟨⟩ ?_
  refine⟨k+1,by omega,by omega,?_⟩
  rw[aR _ k rfl (by omega),hs]
  try rfl
 ·try simp only[nb,an,aq,aa]at hb0
  rw[hw]at hb0
  refine W.exit ?_
  refine W.seq ?_
  rw[List.take_of_length_le (show(cG x.ah.length r row s).length≤k by omega)]
  refine W.cD X [] [(33,⟨true,[.a (.sl (.sl .int) (eM x.rows row (cG x.ah.length r row s)))]⟩)] [8] [] rfl (by(repeat' with_reducible first|exact aj.nil|refine aj.mk ?_ ?_|apply And.intro)<;>first|exact(qC x.rows row (cG x.ah.length r row s) (by first|assumption|omega| (simp;done)| (simp;omega)))) ?_
  refine W.ret ?_
  exact Fin.ret rfl ⟨rfl,⟨⟩⟩
theorem uw(x:aJ)(sv r row s:Int)(oK:x.ah.length≤1048576):Sound ty Tryz.prog 195 [.agg (aG x), .a (.lit (.int .i64 sv)), .a (.lit (.int .i64 r)), .a (.lit (.int .i64 row)), .a (.lit (.int .i64 s))] [.a (.vw 0 none .int (eE x sv r row s))]:=by
 refine Sound.o X Tryz.call195 Tryz.func195 Tryz.ntmps195 rfl rfl ?_
 intro zb
 refine W.b7 0 1 rfl rfl (fun nj=> ?_)
 refine W.s0 X [1,2,3,4,5] rfl ⟨⟩ ?_
 refine W.seq ?_
 refine W.sr X [] [(12,⟨false,[.a (.lit (.bool (okW x)))]⟩),(20,⟨false,[.a (.lit (.bool (inr sv 0 (IntKind.i64.wrap ((x.ah.length:Int)-1)))))]⟩),(28,⟨false,[.a (.lit (.bool (inr row 0 (IntKind.i64.wrap (x.rows-1)))))]⟩)] [1,2,3,4,5,30] [] rfl (by(repeat' with_reducible first|exact aj.nil|refine aj.mk ?_ ?_|apply And.intro);(iterate 3 all_goals try first|exact(cz x)|exact fun _=>(aK sv 0 (IntKind.i64.wrap ((x.ah.length:Int)-1)))|exact fun _=>(aK row 0 (IntKind.i64.wrap (x.rows-1))))) ?_
 refine W.cond rfl (fun hb0=> ?_) (fun hb0=> ?_)
 ·have hk:mT x sv row=false:=bK hb0 (by simp only[mT,aH]<;>first|rfl|ac_rfl)
  refine W.s0 X [10] rfl (by and_intros<;>first|exact⟨⟩|exact rfl) ?_
  refine W.ret ?_
  exact Fin.ret rfl ⟨by rw[eE,if_neg (by rw[hk];decide)],⟨⟩⟩
 ·have hk:mT x sv row=true:=bG hb0 (by simp only[mT,aH]<;>first|rfl|ac_rfl)
  have hq:=AN r s hk
  have Lu:(query x r row s).length=x.ah.length:=hq
  have rN:=CM hk
  have hrl:=dL x.ah.length r row s
  refine W.skip ?_
  refine W.sr X [] [(36,⟨true,[.a (.sl (.sl .int) (query x r row s))]⟩)] [10] [] rfl (by(repeat' with_reducible first|exact aj.nil|refine aj.mk ?_ ?_|apply And.intro)<;>first|exact(sI x r row s (by first|assumption|omega| (simp;done)| (simp;omega)))| (intros;omega)) ?_
  refine W.ret ?_
  exact Fin.ret rfl ⟨by rw[eE,if_pos hk],⟨⟩⟩
end
end Go.Proofs.YteodajeiagmekaaGreat.G
