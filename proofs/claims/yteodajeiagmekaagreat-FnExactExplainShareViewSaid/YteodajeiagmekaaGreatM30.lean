/-
  Valid worlds; cells that clients write.
-/
import Derived.Test.YteodajeiagmekaaGreatM26
import Derived.Test.YteodajeiagmekaaGreatM29
namespace Go.Proofs.YteodajeiagmekaaGreat.G
set_option linter.all false
open Go.RowKit L D
section
set_option maxRecDepth 100000
theorem xg(c:ep)(r n:Int):Sound ty Tryz.prog 99 [.agg (bn c), .a (.lit (.int .i64 r)), .a (.lit (.int .i64 n))] [.a (.lit (.int .i64 (kE c r n))), .a (.sl .u8 (fE c r n)), .a (.lit (.bool (nu c r n)))]:=by
 refine Sound.o X Tryz.call99 Tryz.func99 Tryz.ntmps99 rfl rfl ?_
 intro zb
 refine W.b7 0 4 rfl rfl (fun kZ=> ?_)
 refine W.s0 X [1,2,3] rfl ⟨⟩ ?_
 refine W.seq ?_
 refine W.sr X [] [(10,⟨false,[.a (.lit (.bool (dh c)))]⟩),(14,⟨false,[.a (.lit (.bool (inr r 0 100000)))]⟩),(19,⟨false,[.a (.lit (.bool (inr n 1 64)))]⟩)] [1,2,3,21] [] rfl (by(repeat' with_reducible first|exact aj.nil|refine aj.mk ?_ ?_|apply And.intro);(iterate 3 all_goals try first|exact(fJ c)|exact fun _=>(aC r 0 100000)|exact fun _=>(aC n 1 64))) ?_
 refine W.cond rfl (fun hb0=> ?_) (fun hb0=> ?_)
 ·have hk:nu c r n=false:=bK hb0 (by simp only[nu,aH]<;>first|rfl|ac_rfl)
  refine W.s0 X [6,7,8] rfl ⟨⟩ ?_
  refine W.ret ?_
  exact Fin.ret rfl ⟨by rw[kE,if_neg (by rw[hk];decide)],by rw[fE,if_neg (by rw[hk];decide)],by rw[hk],⟨⟩⟩
 ·have hk:nu c r n=true:=bG hb0 (by simp only[nu,aH]<;>first|rfl|ac_rfl)
  have hs:=AL hk
  refine W.skip ?_
  refine W.seq ?_
  refine W.s0 X [1,2,3,27] rfl ⟨⟩ ?_
  refine W.cond rfl (fun aB=> ?_) (fun aB=> ?_)
  ·try simp only[nb,an,aq,aa]at aB
   refine W.sd X [] [(32,⟨false,[.a (.lit (.int .i64 (bS c)))]⟩),(34,⟨false,[.a (.lit (.int .i64 (dN c.key r (bS c) n)))]⟩),(38,⟨true,[.a (.sl .u8 (qz c c.sent))]⟩)] [6,7,8] [] 14 MO (by kernel_rfl) rfl (by(repeat' with_reducible first|exact aj.nil|refine aj.mk ?_ ?_|apply And.intro);(iterate 3 all_goals try first|exact(gm c)|exact(fH c.key r (bS c) n)|exact(nY c c.sent (by first|assumption|omega| (simp;done)| (simp;omega)) (by first|assumption|omega| (simp;done)| (simp;omega))))) ?_
   refine W.ret ?_
   exact Fin.ret rfl ⟨by rw[kE,if_pos hk,if_pos aB],by rw[fE,if_pos hk,if_pos aB],by rw[hk],⟨⟩⟩
  ·try simp only[nb,an,aq,aa]at aB
   refine W.skip ?_
   refine W.sd X [] [(43,⟨false,[.a (.lit (.int .i64 (B9 c.seed r n)))]⟩),(48,⟨false,[.a (.lit (.int .i64 (kh c.seed [r])))]⟩),(49,⟨true,[.a (.sl .u8 (cover (kh c.seed [r])))]⟩)] [6,7,8] [] 14 MO (by kernel_rfl) rfl (by(repeat' with_reducible first|exact aj.nil|refine aj.mk ?_ ?_|apply And.intro);(iterate 3 all_goals try first|exact(Cb c.seed r n)|exact(bC c.seed [r] (by first|assumption|omega| (simp;done)| (simp;omega)))|exact(AJ (kh c.seed [r])));all_goals first|exact⟨rfl,bA _ (by decide)⟩) ?_
   refine W.ret ?_
   exact Fin.ret rfl ⟨by rw[kE,if_pos hk,if_neg (by omega)],by rw[fE,if_pos hk,if_neg (by omega)],by rw[hk],⟨⟩⟩
end
end Go.Proofs.YteodajeiagmekaaGreat.G
