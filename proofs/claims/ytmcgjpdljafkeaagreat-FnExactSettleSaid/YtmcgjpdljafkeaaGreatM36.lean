/-
  Messages that wait; rounds in a row; until all is quiet.
-/
import Derived.Test.YtmcgjpdljafkeaaGreatM18
import Derived.Test.YtmcgjpdljafkeaaGreatM21
import Derived.Test.YtmcgjpdljafkeaaGreatM22
namespace Go.Proofs.YtmcgjpdljafkeaaGreat.G
set_option linter.all false
open Go.RowKit L D
section
set_option maxRecDepth 100000
theorem Dr(a b:Int):Sound ty Tryz.prog 73 [.a (.lit (.int .i64 a)), .a (.lit (.int .i64 b))] [.a (.lit (.int .i64 (k9 a b)))]:=by
 refine Sound.o X Tryz.call73 Tryz.func73 Tryz.ntmps73 rfl rfl ?_
 intro zb
 refine W.s0 X [0,1] rfl ⟨⟩ ?_
 refine W.seq ?_
 refine W.s0 X [0,1,7] rfl ⟨⟩ ?_
 refine W.cond rfl (fun hb0=> ?_) (fun hb0=> ?_)
 ·try simp only[nb,an,au,af]at hb0
  refine W.s0 X [4] rfl ⟨⟩ ?_
  refine W.ret ?_
  exact Fin.ret rfl ⟨by rw[k9,if_pos (by omega)],⟨⟩⟩
 ·try simp only[nb,an,au,af]at hb0
  refine W.skip ?_
  refine W.s0 X [4] rfl ⟨⟩ ?_
  refine W.ret ?_
  exact Fin.ret rfl ⟨by rw[k9,if_neg (by omega)],⟨⟩⟩
theorem qv(c:dV):Sound ty Tryz.prog 233 [.agg (aX c)] [.a (.lit (.int .i64 (waiting c)))]:=by
 refine Sound.o X Tryz.call233 Tryz.func233 Tryz.ntmps233 rfl rfl ?_
 intro zb
 refine W.s0 X [1] rfl ⟨⟩ ?_
 refine W.s0 X [2] rfl ⟨⟩ ?_
 refine W.ret ?_
 exact Fin.ret rfl ⟨rfl,⟨⟩⟩
theorem j6(x:aN):Sound ty Tryz.prog 151 [.agg (ay x)] [.a (.lit (.int .i64 (qu x.aa x.aa.length)))]:=by
 refine Sound.o X Tryz.call151 Tryz.func151 Tryz.ntmps151 rfl rfl ?_
 intro zb
 refine W.bS 0 2 rfl rfl (fun iI=> ?_)
 refine W.s0 X [1] rfl ⟨⟩ ?_
 refine W.s0 X [1,3] rfl ⟨⟩ ?_
 refine W.seq ?_
 refine W.s0 X [3,7,8,9] rfl ⟨⟩ ?_
 refine W.block ?_
 refine W.aI (fun k=>k≤x.aa.length) (fun k:Nat=> [(3, .one (.a (.lit (.int .i64 (qu x.aa k))))),(9, .one (.a (.lit (.int .i64 k))))]) (fun k=> []) (fun k=>x.aa.length-k) 0 (fun k=>rfl) (Nat.zero_le _) rfl ?_
 intro k hk
 refine W.s0 X [3,7,8,9,10] rfl ⟨⟩ ?_
 refine W.seq ?_
 refine W.cond rfl (fun hb0=> ?_) (fun hb0=> ?_)
 ·try simp only[nb,an,au,af]at hb0
  refine W.skip ?_
  refine W.seq ?_
  refine W.block ?_
  refine W.s0 X [3,5,7,8,9] rfl (by and_intros<;>first|exact⟨⟩| (intros;omega)) ?_
  refine W.fH X [] [(16,⟨false,[.a (.lit (.int .i64 (waiting ((x.aa.getD k (av .aL)).live))))]⟩)] [3,7,8,9] [] rfl (by(repeat' with_reducible first|exact ah.nil|refine ah.mk ?_ ?_|apply And.intro)<;>first|exact(qv ((x.aa.getD k (av .aL)).live))) ?_
  refine W.r0 X [3,7,8,9] rfl ⟨⟩ ?_
  refine⟨k+1,by omega,by omega,?_⟩
  rw[aV _ k rfl (by omega)]
  try rfl
 ·try simp only[nb,an,au,af]at hb0
  refine W.exit ?_
  refine W.s0 X [2] rfl ⟨⟩ ?_
  refine W.ret ?_
  exact Fin.ret rfl ⟨by rw[show k=x.aa.length by omega],⟨⟩⟩
theorem ku(x:aN)(hd:x.aa.length≤1048576):Sound ty Tryz.prog 152 [.agg (ay x)] [.a (.lit (.int .i64 (Bu x.aa x.aa.length)))]:=by
 refine Sound.o X Tryz.call152 Tryz.func152 Tryz.ntmps152 rfl rfl ?_
 intro zb
 refine W.bS 0 2 rfl rfl (fun iI=> ?_)
 refine W.s0 X [1] rfl ⟨⟩ ?_
 refine W.s0 X [1,3] rfl ⟨⟩ ?_
 refine W.seq ?_
 refine W.s0 X [1,3,7,8,9] rfl ⟨⟩ ?_
 refine W.block ?_
 refine W.aI (fun k=>k≤x.aa.length) (fun k:Nat=> [(3, .one (.a (.lit (.int .i64 (Bu x.aa k))))),(9, .one (.a (.lit (.int .i64 k))))]) (fun k=> []) (fun k=>x.aa.length-k) 0 (fun k=>rfl) (Nat.zero_le _) rfl ?_
 intro k hk
 refine W.s0 X [1,3,7,8,9,10] rfl ⟨⟩ ?_
 refine W.seq ?_
 refine W.cond rfl (fun hb0=> ?_) (fun hb0=> ?_)
 ·try simp only[nb,an,au,af]at hb0
  refine W.skip ?_
  refine W.seq ?_
  refine W.block ?_
  refine W.s0 X [1,3,4,5,7,8,9] rfl (by and_intros<;>first|exact⟨⟩| (intros;omega)) ?_
  refine W.sr X [] [(16,⟨false,[.a (.lit (.bool (vA x (k:Int))))]⟩)] [1,3,4,5,7,8,9,16] [] rfl (by(repeat' with_reducible first|exact ah.nil|refine ah.mk ?_ ?_|apply And.intro)<;>first|exact(CJ x (k:Int) (by first|assumption|omega| (simp;done)| (simp;omega)))) ?_
  refine W.cond rfl (fun aD=> ?_) (fun aD=> ?_)
  ·rw[Dq hb0,decide_eq_true_eq]at aD
   have hx:(IntKind.i64.wrap (BitVec.ofInt IntKind.i64.bits (k:Int)^^^BitVec.ofInt IntKind.i64.bits 1).toNat)=((k^^^1:Nat):Int):=Ng k (by omega)
   have hx0:0≤(IntKind.i64.wrap (BitVec.ofInt IntKind.i64.bits (k:Int)^^^BitVec.ofInt IntKind.i64.bits 1).toNat)∧(IntKind.i64.wrap (BitVec.ofInt IntKind.i64.bits (k:Int)^^^BitVec.ofInt IntKind.i64.bits 1).toNat)<(x.aa.length:Int):=by rw[hx];omega
   refine W.draw X [] [] [1,3,7,8,9] [] 17 MO (by kernel_rfl) rfl (by and_intros<;>first|exact⟨⟩| (intros;omega)) ?_
   refine W.r0 X [1,3,7,8,9] rfl ⟨⟩ ?_
   refine⟨k+1,by omega,by omega,?_⟩
   rw[aV _ k rfl (by omega),Mm aD,hx,Q8]
   try rfl
  ·rw[Dq hb0,decide_eq_false_iff_not]at aD
   refine W.skip ?_
   refine W.r0 X [1,3,7,8,9] rfl ⟨⟩ ?_
   refine⟨k+1,by omega,by omega,?_⟩
   rw[aV _ k rfl (by omega),I4 aD]
   try rfl
 ·try simp only[nb,an,au,af]at hb0
  refine W.exit ?_
  refine W.s0 X [2] rfl ⟨⟩ ?_
  refine W.ret ?_
  exact Fin.ret rfl ⟨by rw[show k=x.aa.length by omega],⟨⟩⟩
theorem qw(c:dV):Sound ty Tryz.prog 232 [.agg (aX c)] [.a (.lit (.int .i64 (waiting c)))]:=by
 refine Sound.o X Tryz.call232 Tryz.func232 Tryz.ntmps232 rfl rfl ?_
 intro zb
 refine W.s0 X [1] rfl ⟨⟩ ?_
 refine W.s0 X [2] rfl ⟨⟩ ?_
 refine W.ret ?_
 exact Fin.ret rfl ⟨rfl,⟨⟩⟩
theorem j7(x:aN):Sound ty Tryz.prog 149 [.agg (ay x)] [.a (.lit (.int .i64 (qu x.aa x.aa.length)))]:=by
 refine Sound.o X Tryz.call149 Tryz.func149 Tryz.ntmps149 rfl rfl ?_
 intro zb
 refine W.bS 0 2 rfl rfl (fun iI=> ?_)
 refine W.s0 X [1] rfl ⟨⟩ ?_
 refine W.s0 X [1,3] rfl ⟨⟩ ?_
 refine W.seq ?_
 refine W.s0 X [1,3,4] rfl ⟨⟩ ?_
 refine W.block ?_
 refine W.aI (fun k=>k≤x.aa.length) (fun k:Nat=> [(3, .one (.a (.lit (.int .i64 (qu x.aa k))))),(4, .one (.a (.lit (.int .i64 k))))]) (fun k=> []) (fun k=>x.aa.length-k) 0 (fun k=>rfl) (Nat.zero_le _) rfl ?_
 intro k hk
 refine W.seq ?_
 refine W.s0 X [1,3,4,9] rfl ⟨⟩ ?_
 refine W.cond rfl (fun hb0=> ?_) (fun hb0=> ?_)
 ·try simp only[nb,an,au,af]at hb0
  refine W.skip ?_
  refine W.seq ?_
  refine W.block ?_
  refine W.fH X [] [(19,⟨false,[.a (.lit (.int .i64 (waiting ((x.aa.getD k (av .aL)).live))))]⟩)] [1,3,4] [] rfl (by(repeat' with_reducible first|exact ah.nil|refine ah.mk ?_ ?_|apply And.intro)<;>first|exact(qw ((x.aa.getD k (av .aL)).live))| (intros;omega)) ?_
  refine W.r0 X [1,3,4] rfl ⟨⟩ ?_
  refine⟨k+1,by omega,by omega,?_⟩
  rw[aV _ k rfl (by omega)]
  try rfl
 ·try simp only[nb,an,au,af]at hb0
  refine W.exit ?_
  refine W.s0 X [2] rfl ⟨⟩ ?_
  refine W.ret ?_
  exact Fin.ret rfl ⟨by rw[show k=x.aa.length by omega],⟨⟩⟩
theorem kA(x:aN)(hd:x.aa.length≤1048576):Sound ty Tryz.prog 150 [.agg (ay x)] [.a (.lit (.int .i64 (Bu x.aa x.aa.length)))]:=by
 refine Sound.o X Tryz.call150 Tryz.func150 Tryz.ntmps150 rfl rfl ?_
 intro zb
 refine W.bS 0 2 rfl rfl (fun iI=> ?_)
 refine W.s0 X [1] rfl ⟨⟩ ?_
 refine W.s0 X [1,3] rfl ⟨⟩ ?_
 refine W.seq ?_
 refine W.s0 X [1,3,4] rfl ⟨⟩ ?_
 refine W.block ?_
 refine W.aI (fun k=>k≤x.aa.length) (fun k:Nat=> [(3, .one (.a (.lit (.int .i64 (Bu x.aa k))))),(4, .one (.a (.lit (.int .i64 k))))]) (fun k=> []) (fun k=>x.aa.length-k) 0 (fun k=>rfl) (Nat.zero_le _) rfl ?_
 intro k hk
 refine W.seq ?_
 refine W.s0 X [1,3,4,9] rfl ⟨⟩ ?_
 refine W.cond rfl (fun hb0=> ?_) (fun hb0=> ?_)
 ·try simp only[nb,an,au,af]at hb0
  refine W.skip ?_
  refine W.seq ?_
  refine W.block ?_
  refine W.s0 X [1,3,4,17] rfl ⟨⟩ ?_
  refine W.cond rfl (fun aD=> ?_) (fun aD=> ?_)
  ·try simp only[nb,an,au,af]at aD
   have hx:(IntKind.i64.wrap (BitVec.ofInt IntKind.i64.bits (k:Int)^^^BitVec.ofInt IntKind.i64.bits 1).toNat)=((k^^^1:Nat):Int):=Ng k (by omega)
   have hx1:(k^^^1)<x.aa.length:=by rw[hx]at aD;omega
   have hx0:0≤(IntKind.i64.wrap (BitVec.ofInt IntKind.i64.bits (k:Int)^^^BitVec.ofInt IntKind.i64.bits 1).toNat)∧(IntKind.i64.wrap (BitVec.ofInt IntKind.i64.bits (k:Int)^^^BitVec.ofInt IntKind.i64.bits 1).toNat)<(x.aa.length:Int):=by rw[hx];omega
   refine W.draw X [] [] [1,3,4] [] 21 MO (by kernel_rfl) rfl (by and_intros<;>first|exact⟨⟩| (intros;omega)) ?_
   refine W.r0 X [1,3,4] rfl ⟨⟩ ?_
   refine⟨k+1,by omega,by omega,?_⟩
   rw[aV _ k rfl (by omega),Mm hx1,hx]
   try rfl
  ·try simp only[nb,an,au,af]at aD
   have hx:(IntKind.i64.wrap (BitVec.ofInt IntKind.i64.bits (k:Int)^^^BitVec.ofInt IntKind.i64.bits 1).toNat)=((k^^^1:Nat):Int):=Ng k (by omega)
   have hx1: ¬(k^^^1)<x.aa.length:=by rw[hx]at aD;omega
   refine W.skip ?_
   refine W.r0 X [1,3,4] rfl ⟨⟩ ?_
   refine⟨k+1,by omega,by omega,?_⟩
   rw[aV _ k rfl (by omega),I4 hx1]
   try rfl
 ·try simp only[nb,an,au,af]at hb0
  refine W.exit ?_
  refine W.s0 X [2] rfl ⟨⟩ ?_
  refine W.ret ?_
  exact Fin.ret rfl ⟨by rw[show k=x.aa.length by omega],⟨⟩⟩
end
end Go.Proofs.YtmcgjpdljafkeaaGreat.G
