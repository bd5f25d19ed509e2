/-
  Copies, exclusive or, ciphers, cells, rows of mailboxes.
-/
import Derived.Test.YteodajeiagmekaaGreatM22
import Derived.Test.YteodajeiagmekaaGreatM24
import Derived.Test.YteodajeiagmekaaGreatM25
namespace Go.Proofs.YteodajeiagmekaaGreat.G
set_option linter.all false
open Go.RowKit L D
section
set_option maxRecDepth 100000
theorem Ek(s:Int)(l:List UInt8)(hl:l.length≤1048576):Sound ty Tryz.prog 397 [.a (.lit (.int .i64 s)), .a (.sl .u8 l)] [.a (.sl .u8 (decr s l))]:=by
 refine Sound.o X Tryz.call397 Tryz.func397 Tryz.ntmps397 rfl rfl ?_
 intro zb
 refine W.s0 X [0,1] rfl ⟨⟩ ?_
 refine W.sr X [] [(8,⟨true,[.a (.sl .u8 _)]⟩)] [0,5] [] rfl (by(repeat' with_reducible first|exact aj.nil|refine aj.mk ?_ ?_|apply And.intro)<;>first|exact(cu _ (by first|assumption|omega| (simp;done)| (simp;omega)))) ?_
 refine W.seq ?_
 refine W.s0 X [0,5,10,11] rfl ⟨⟩ ?_
 refine W.block ?_
 refine W.aE (fun k=>k≤l.length) (fun k:Nat=> [(11, .one (.a (.lit (.int .i64 k))))]) (fun k=> [(8, .arr .u8 ((decr s l).take k++l.drop k))]) (fun k=>l.length-k) 0 (fun k=>rfl) (Nat.zero_le _) rfl ?_
 intro k hk
 have hle:=kr (decr s l) l k (nV s l) hk
 refine W.s0 X [0,5,10,11,12] rfl ⟨⟩ ?_
 refine W.seq ?_
 refine W.cond rfl (fun hb0=> ?_) (fun hb0=> ?_)
 ·try simp only[nb,an,aq,aa]at hb0
  have hs:=PS s l k hb0
  refine W.skip ?_
  refine W.seq ?_
  refine W.block ?_
  refine W.s0 X [0,5,6,10,11] rfl ⟨⟩ ?_
  refine W.draw X [] [(21,⟨false,[.a (.lit (.int .i64 _))]⟩)] [0,5,10,11] [] 12 MO (by kernel_rfl) rfl (by(repeat' with_reducible first|exact aj.nil|refine aj.mk ?_ ?_|apply And.intro)<;>first|exact(bC _ _ (by first|assumption|omega| (simp;done)| (simp;omega)))| (intros;omega)|exact⟨rfl,bA _ (by decide)⟩|exact(pR _).1|exact(pR _).2) ?_
  refine W.r0 X [0,5,10,11] rfl ⟨⟩ ?_
  refine⟨k+1,by omega,by omega,?_⟩
  rw[aR _ k rfl (by omega),hs]
  try rfl
 ·try simp only[nb,an,aq,aa]at hb0
  refine W.exit ?_
  refine W.s0 X [4] rfl ⟨⟩ ?_
  refine W.ret ?_
  exact Fin.ret rfl ⟨by rw[nr _ _ _ (nV s l) hb0],⟨⟩⟩
end
end Go.Proofs.YteodajeiagmekaaGreat.G
