/-
  Copies, exclusive or, ciphers, cells, rows of mailboxes.
-/
import Derived.Test.YteodajeiagmekaaGreatM20
namespace Go.Proofs.YteodajeiagmekaaGreat.G
set_option linter.all false
open Go.RowKit L D
section
set_option maxRecDepth 100000
theorem Cb(s r n:Int):Sound ty Tryz.prog 232 [.a (.lit (.int .i64 s)), .a (.lit (.int .i64 r)), .a (.lit (.int .i64 n))] [.a (.lit (.int .i64 (B9 s r n)))]:=by
 refine Sound.o X Tryz.call232 Tryz.func232 Tryz.ntmps232 rfl rfl ?_
 intro zb
 refine W.s0 X [0,1,2] rfl ⟨⟩ ?_
 refine W.seq ?_
 refine W.sr X [] [(8,⟨false,[.a (.lit (.bool _))]⟩)] [0,1,2,9] [] rfl (by(repeat' with_reducible first|exact aj.nil|refine aj.mk ?_ ?_|apply And.intro)<;>first|exact(aC _ _ _)) ?_
 refine W.cond rfl (fun hb0=> ?_) (fun hb0=> ?_)
 ·try simp only[nb,an,aq,aa]at hb0
  refine W.s0 X [6] rfl ⟨⟩ ?_
  refine W.ret ?_
  exact Fin.ret rfl ⟨by rw[B9,if_neg (by omega)],⟨⟩⟩
 ·try simp only[nb,an,aq,aa]at hb0
  have hcs:=uf (kh s [157,r]) 0
  refine W.skip ?_
  refine W.sr X [] [(13,⟨false,[.a (.lit (.int .i64 _))]⟩),(14,⟨false,[.a (.lit (.int .i64 _))]⟩)] [6] [] rfl (by(repeat' with_reducible first|exact aj.nil|refine aj.mk ?_ ?_|apply And.intro);(iterate 2 all_goals try first|exact(bC _ _ (by first|assumption|omega| (simp;done)| (simp;omega)))|exact(lq _ _));all_goals first| (intros;omega)|exact⟨rfl,bA _ (by decide)⟩) ?_
  refine W.ret ?_
  exact Fin.ret rfl ⟨by rw[B9,if_pos (by omega),dj hcs.1],⟨⟩⟩
theorem AJ(s:Int):Sound ty Tryz.prog 233 [.a (.lit (.int .i64 s))] [.a (.sl .u8 (cover s))]:=by
 refine Sound.o X Tryz.call233 Tryz.func233 Tryz.ntmps233 rfl rfl ?_
 intro zb
 refine W.s0 X [0] rfl ⟨⟩ ?_
 refine W.sr X [] [(5,⟨false,[.a (.lit (.int .i64 _))]⟩),(6,⟨true,[.a (.sl .u8 _)]⟩)] [2] [] rfl (by(repeat' with_reducible first|exact aj.nil|refine aj.mk ?_ ?_|apply And.intro);(iterate 2 all_goals try first|exact(bC _ _ (by first|assumption|omega| (simp;done)| (simp;omega)))|exact(jM _ _ (by first|assumption|omega| (simp;done)| (simp;omega)) (by first|assumption|omega| (simp;done)| (simp;omega))));all_goals first|exact⟨rfl,bA _ (by decide)⟩) ?_
 refine W.ret ?_
 exact Fin.ret rfl ⟨rfl,⟨⟩⟩
end
end Go.Proofs.YteodajeiagmekaaGreat.G
