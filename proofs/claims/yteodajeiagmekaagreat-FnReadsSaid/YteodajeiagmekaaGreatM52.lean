/-
  Audits of a world.
-/
import Derived.Test.YteodajeiagmekaaGreatM27
import Derived.Test.YteodajeiagmekaaGreatM28
import Derived.Test.YteodajeiagmekaaGreatM32
import Derived.Test.YteodajeiagmekaaGreatM49
namespace Go.Proofs.YteodajeiagmekaaGreat.G
set_option linter.all false
open Go.RowKit L D
section
set_option maxRecDepth 100000
theorem xA(a:gW)(f:Int)(hal:a.rounds.length≤1048576):Sound ty Tryz.prog 133 [.agg (ck a), .a (.lit (.int .i64 f))] [.a (.sl .int (fk a.rounds f))]:=by
 refine Sound.o X Tryz.call133 Tryz.func133 Tryz.ntmps133 rfl rfl ?_
 intro zb
 refine W.s0 X [1,2] rfl ⟨⟩ ?_
 refine W.s0 X [1,2,5] rfl (by and_intros<;>first|exact⟨⟩|exact rfl) ?_
 refine W.seq ?_
 refine W.s0 X [1,5,10,11,12] rfl ⟨⟩ ?_
 refine W.block ?_
 refine W.aE (fun k=>k≤a.rounds.length) (fun k:Nat=> [(12, .one (.a (.lit (.int .i64 k))))]) (fun k=> [(8, .arr .int (fk (a.rounds.take k) f))]) (fun k=>a.rounds.length-k) 0 (fun k=>rfl) (Nat.zero_le _) rfl ?_
 intro k hk
 have hle:=BM a.rounds f k
 refine W.s0 X [1,5,10,11,12,13] rfl ⟨⟩ ?_
 refine W.seq ?_
 refine W.cond rfl (fun hb0=> ?_) (fun hb0=> ?_)
 ·try simp only[nb,an,aq,aa]at hb0
  refine W.skip ?_
  refine W.seq ?_
  refine W.block ?_
  refine W.s0 X [1,5,7,10,11,12] rfl (by and_intros<;>first|exact⟨⟩| (intros;omega)) ?_
  refine W.s0 X [1,5,7,10,11,12,19] rfl ⟨⟩ ?_
  refine W.cond rfl (fun aB=> ?_) (fun aB=> ?_)
  ·try simp only[nb,an,aq,aa]at aB
   have hs:=EG a.rounds f k hb0 (by omega)
   refine W.cD X [(24,8)] [] [1,5,10,11,12] [] rfl (by and_intros<;>first|exact⟨⟩|exact rfl| (simp only[cT,maxLen,lens];omega)) ?_
   refine W.r0 X [1,5,10,11,12] rfl ⟨⟩ ?_
   refine⟨k+1,by omega,by omega,?_⟩
   rw[aR _ k rfl (by omega),hs]
   try rfl
  ·try simp only[nb,an,aq,aa]at aB
   have hs:=BL a.rounds f k hb0 (by omega)
   refine W.skip ?_
   refine W.r0 X [1,5,10,11,12] rfl ⟨⟩ ?_
   refine⟨k+1,by omega,by omega,?_⟩
   rw[aR _ k rfl (by omega),hs]
   try rfl
 ·try simp only[nb,an,aq,aa]at hb0
  refine W.exit ?_
  refine W.s0 X [4] rfl ⟨⟩ ?_
  refine W.ret ?_
  exact Fin.ret rfl ⟨by rw[List.take_of_length_le hb0],⟨⟩⟩
end
end Go.Proofs.YteodajeiagmekaaGreat.G
