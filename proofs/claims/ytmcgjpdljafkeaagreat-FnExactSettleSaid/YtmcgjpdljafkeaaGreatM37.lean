/-
  Messages that wait; rounds in a row; until all is quiet.
-/
import Derived.Test.YtmcgjpdljafkeaaGreatM20
import Derived.Test.YtmcgjpdljafkeaaGreatM21
import Derived.Test.YtmcgjpdljafkeaaGreatM33
namespace Go.Proofs.YtmcgjpdljafkeaaGreat.G
set_option linter.all false
open Go.RowKit L D
section
set_option maxRecDepth 100000
theorem kW(x:aN)(c:Int)(hC:wC x 4100000):Sound ty Tryz.prog 18 [.agg (ay x), .a (.lit (.int .i64 c))] [.agg (ay (bN x (l7 c)))]:=by
 refine Sound.o X Tryz.call18 Tryz.func18 Tryz.ntmps18 rfl rfl ?_
 intro zb
 have h0:wB x:=AN hC (by decide)
 refine W.s0 X [1,2,4] rfl ⟨⟩ ?_
 refine W.sr X [] [(7,⟨true,[.agg (ay x)]⟩)] [1,4,5] [] rfl (by(repeat' with_reducible first|exact ah.nil|refine ah.mk ?_ ?_|apply And.intro)<;>first|exact(cD x h0)) ?_
 refine W.seq ?_
 refine W.sr X [] [(9,⟨false,[.a (.lit (.bool (inr c 0 400)))]⟩)] [1,4,5,9] [] rfl (by(repeat' with_reducible first|exact ah.nil|refine ah.mk ?_ ?_|apply And.intro)<;>first|exact(aE c 0 400)) ?_
 refine W.cond rfl (fun hb0=> ?_) (fun hb0=> ?_)
 ·try simp only[nb,an,au,af]at hb0
  have hin:=KD hb0
  have Zq:=GA c
  refine W.s0 X [4,5,10,11] rfl ⟨⟩ ?_
  refine W.block ?_
  refine W.aI (fun k=>k≤l7 c) (fun k:Nat=> [(11, .one (.a (.lit (.int .i64 k))))]) (fun k=> [(8, .arr .aU (bN x k).aj),(9, .arr .aL (bN x k).aa),(11, .arr .aA (bN x k).ak.rounds),(15, .arr .int (bN x k).replaced),(5, .box [.lit (.int .i64 (bN x k).rows), .own 8, .own 9, .lit (.int .i64 (bN x k).ak.rows), .own 11, .lit (.int .i64 (bN x k).az), .lit (.int .i64 (bN x k).seed), .lit (.int .i64 (bN x k).round), .own 15, .lit (.int .i64 (bN x k).cancelled)])]) (fun k=>l7 c-k) 0 (fun k=>rfl) (Nat.zero_le _) rfl ?_
  intro k hk
  have hrb:=Gz hC (k:=k) (by omega)
  refine W.s0 X [4,5,10,11,12] rfl ⟨⟩ ?_
  refine W.seq ?_
  refine W.cond rfl (fun aD=> ?_) (fun aD=> ?_)
  ·try simp only[nb,an,au,af]at aD
   refine W.skip ?_
   refine W.seq ?_
   refine W.block ?_
   refine W.fH X [(14,150)] [(14,⟨true,[.agg (ay (cP (bN x k)))]⟩)] [4,5,10,11] [] rfl (by(repeat' with_reducible first|exact ah.nil|refine ah.mk ?_ ?_|apply And.intro)<;>first|exact(fZ (bN x k) hrb.1)) ?_
   refine W.swap 151 8 rfl ?_
   refine W.swap 152 9 rfl ?_
   refine W.swap 154 11 rfl ?_
   refine W.swap 158 15 rfl ?_
   refine W.r0 X [4,5,10,11] rfl ⟨⟩ ?_
   refine⟨k+1,by omega,by omega,?_⟩
   rw[aV _ k rfl (by omega)]
   try rfl
  ·try simp only[nb,an,au,af]at aD
   have hkk:l7 c=k:=by omega
   refine W.exit ?_
   refine W.s0 X [4] rfl (by and_intros<;>exact⟨⟩) ?_
   refine W.ret ?_
   exact Fin.ret rfl (by and_intros<;>first|exact⟨⟩| (rw[hkk];done))
 ·try simp only[nb,an,au,af]at hb0
  have hkk:=Mn hb0
  refine W.skip ?_
  refine W.s0 X [4] rfl (by and_intros<;>exact⟨⟩) ?_
  refine W.ret ?_
  exact Fin.ret rfl (by and_intros<;>first|exact⟨⟩| (rw[hkk];rfl;done))
theorem pI(x:aN)(c:Int)(hC:wC x 4100000):Sound ty Tryz.prog 17 [.agg (ay x), .a (.lit (.int .i64 c))] [.agg (ay (bN x (l7 c)))]:=by
 refine Sound.o X Tryz.call17 Tryz.func17 Tryz.ntmps17 rfl rfl ?_
 intro zb
 have h0:wB x:=AN hC (by decide)
 refine W.s0 X [1,2,4] rfl ⟨⟩ ?_
 refine W.sr X [] [(8,⟨true,[.agg (ay x)]⟩)] [1,4,5] [] rfl (by(repeat' with_reducible first|exact ah.nil|refine ah.mk ?_ ?_|apply And.intro)<;>first|exact(bT x h0)) ?_
 refine W.seq ?_
 refine W.s0 X [1,4,5,6] rfl ⟨⟩ ?_
 refine W.block ?_
 refine W.aI (fun k=>k≤l7 c) (fun k:Nat=> [(6, .one (.a (.lit (.int .i64 k))))]) (fun k=> [(9, .arr .aU (bN x k).aj),(10, .arr .aL (bN x k).aa),(12, .arr .aA (bN x k).ak.rounds),(16, .arr .int (bN x k).replaced),(5, .box [.lit (.int .i64 (bN x k).rows), .own 9, .own 10, .lit (.int .i64 (bN x k).ak.rows), .own 12, .lit (.int .i64 (bN x k).az), .lit (.int .i64 (bN x k).seed), .lit (.int .i64 (bN x k).round), .own 16, .lit (.int .i64 (bN x k).cancelled)])]) (fun k=>l7 c-k) 0 (fun k=>rfl) (Nat.zero_le _) rfl ?_
 intro k hk
 have Zq:=GA c
 have hrb:=Gz hC (k:=k) (by omega)
 refine W.seq ?_
 refine W.s0 X [1,4,5,6,15] rfl ⟨⟩ ?_
 refine W.cond rfl (fun hb0=> ?_) (fun hb0=> ?_)
 ·have hgo:=XE hb0
  refine W.skip ?_
  refine W.seq ?_
  refine W.block ?_
  refine W.fH X [(19,150)] [(19,⟨true,[.agg (ay (cP (bN x k)))]⟩)] [1,4,5,6] [] rfl (by(repeat' with_reducible first|exact ah.nil|refine ah.mk ?_ ?_|apply And.intro)<;>first|exact(iQ (bN x k) hrb.1)) ?_
  refine W.swap 151 9 rfl ?_
  refine W.swap 152 10 rfl ?_
  refine W.swap 154 12 rfl ?_
  refine W.swap 158 16 rfl ?_
  refine W.r0 X [1,4,5,6] rfl ⟨⟩ ?_
  refine⟨k+1,by omega,by omega,?_⟩
  rw[aV _ k rfl (by omega)]
  try rfl
 ·have hkk:=(VL hk hb0).symm
  refine W.exit ?_
  refine W.s0 X [4] rfl (by and_intros<;>exact⟨⟩) ?_
  refine W.ret ?_
  exact Fin.ret rfl (by and_intros<;>first|exact⟨⟩| (rw[hkk];done))
end
end Go.Proofs.YtmcgjpdljafkeaaGreat.G
