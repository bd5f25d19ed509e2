/-
  Contracts of the laws' own functions by the symbolic machine: eq.. of every type.
-/
import Derived.Test.YtmcgjpdljafkeaaGreatM12
namespace Go.Proofs.YtmcgjpdljafkeaaGreat.G
set_option linter.all false
open Go.RowKit L D
section
set_option maxRecDepth 100000
def dx(x:Ev):Nat:=1+1+1+(aC (fun _=>1)) x.body
theorem Eu(x:Ev):dx x≤32*(1+ck x):=by
 have h0:(aC (fun _=>1)) x.body≤32*List.length x.body:=mq x.body
 simp only[dx,ck]
 omega
end
section
set_option maxRecDepth 100000
theorem Cx(l:(List Ev))(left:Int)(h0:0≤left)(h1:left≤1048576):Sound ty Tryz.prog 29 [.a (.sl .Ev l), .a (.lit (.int .i64 left))] [.a (.lit (.int .i64 (szr left ((bL ck) l))))]:=by
 refine Sound.o X Tryz.call29 Tryz.func29 Tryz.ntmps29 rfl rfl ?_
 intro zb
 refine W.bound 0 rfl fun hl=> ?_
 refine W.s0 X [0,1] rfl ⟨⟩ ?_
 refine W.s0 X [0,1] rfl ⟨⟩ ?_
 rw[IntWalk.i64_in (left-(l.length:Nat)) (by omega)]
 refine W.seq ?_
 refine W.s0 X [0,1,11] rfl ⟨⟩ ?_
 refine W.cond rfl (fun hb0=> ?_) (fun hb0=> ?_)
 ·try simp only[nb]at hb0
  refine W.s0 X [4] rfl ⟨⟩ ?_
  refine W.ret ?_
  exact Fin.ret rfl ⟨by rw[dw (by unfold bL;omega)],⟨⟩⟩
 ·try simp only[nb]at hb0
  refine W.skip ?_
  refine W.seq ?_
  refine W.s0 X [0,1,5] rfl ⟨⟩ ?_
  refine W.block ?_
  refine W.aI (fun k=>k≤l.length∧(l.length:Int)+(((l.take k).map ck).sum:Nat)≤left) (fun k:Nat=> [(1, .one (.a (.lit (.int .i64 (left-(l.length:Nat)-(((l.take k).map ck).sum:Nat)))))),(5, .one (.a (.lit (.int .i64 k))))]) (fun k=> []) (fun k=>l.length-k) 0 (fun k=>rfl) ⟨Nat.zero_le _,by simp;omega⟩ (by simp) ?_
  rintro k ⟨hk,hs⟩
  refine W.seq ?_
  refine W.s0 X [0,1,5,15] rfl ⟨⟩ ?_
  refine W.cond rfl (fun aD=> ?_) (fun aD=> ?_)
  ·try simp only[nb]at aD
   have PL:=lz ck l (av .Ev) k aD
   have hle:=dn l ck (k+1)
   refine W.skip ?_
   refine W.seq ?_
   refine W.block ?_
   refine W.sr X [] [(23,⟨false,[.a (.lit (.int .i64 (szr (left-(l.length:Nat)-(((l.take k).map ck).sum:Nat)) (ck (l.getD k (av .Ev))))))]⟩)] [0,1,5] [] rfl ⟨Ex (l.getD k (av .Ev)) _ (by omega) (by omega),by omega,⟨⟩⟩ ?_
   refine W.s0 X [0,1,5,25] rfl ⟨⟩ ?_
   refine W.cond rfl (fun aR=> ?_) (fun aR=> ?_)
   ·try simp only[nb]at aR
    have hn:=dM (by omega) aR
    refine W.s0 X [4] rfl ⟨⟩ ?_
    refine W.ret ?_
    exact Fin.ret rfl ⟨by rw[dw (by unfold bL;omega)],⟨⟩⟩
   ·try simp only[nb]at aR
    obtain⟨e2,e3⟩:=cB aR
    rw[e2]
    refine W.skip ?_
    refine W.r0 X [0,1,5] rfl ⟨⟩ ?_
    refine⟨k+1,⟨by omega,by omega⟩,by omega,?_⟩
    rw[aV _ k rfl (by omega),show left-(l.length:Nat)-(((l.take k).map ck).sum:Nat)-(ck (l.getD k (av .Ev)):Nat)=left-(l.length:Nat)-(((l.take (k+1)).map ck).sum:Nat)by omega]
  ·try simp only[nb]at aD
   refine W.exit ?_
   refine W.s0 X [4] rfl ⟨⟩ ?_
   refine W.ret ?_
   have hf:l.take k=l:=List.take_of_length_le (by omega)
   rw[hf]at hs
   exact Fin.ret rfl ⟨by rw[hf,gE (by unfold bL;omega)];congr 1;unfold bL;omega,⟨⟩⟩
end
section
set_option maxRecDepth 100000
theorem jd(l:(List Ev))(hx:((bL ck) l)≤1048576):Sound ty Tryz.prog 31 [.a (.sl .Ev l)] [.a (.sl .Ev l)]:=by
 refine Sound.o X Tryz.call31 Tryz.func31 Tryz.ntmps31 rfl rfl ?_
 intro zb
 have hl:l.length≤1048576:=cg hx
 refine W.s0 X [0] rfl ⟨⟩ ?_
 refine W.s0 X [0,3] rfl (by and_intros<;>first|exact⟨⟩| (intros;omega)|exact rfl| (simp only[cN,maxLen,lens];omega)) ?_
 refine W.seq ?_
 refine W.s0 X [0,3,4] rfl ⟨⟩ ?_
 refine W.block ?_
 refine W.aI (fun k=>k≤l.length) (fun k:Nat=> [(4, .one (.a (.lit (.int .i64 k))))]) (fun k=> [(7, .arr .Ev (l.take k++List.replicate (l.length-k) (av .Ev)))]) (fun k=>l.length-k) 0 (fun k=>rfl) (Nat.zero_le _) rfl ?_
 intro k hk
 refine W.seq ?_
 refine W.s0 X [0,3,4,11] rfl ⟨⟩ ?_
 refine W.cond rfl (fun hb0=> ?_) (fun hb0=> ?_)
 ·try simp only[nb]at hb0
  have rM:=nG l (av .Ev) k (by omega)
  refine W.skip ?_
  refine W.seq ?_
  refine W.block ?_
  refine W.fH X [(20,300)] [(20,⟨true,[.agg (fP (l.getD k (av .Ev)))]⟩)] [0,3,4] [] rfl (by(repeat' with_reducible first|exact ah.nil|refine ah.mk ?_ ?_|apply And.intro)<;>first|exact oJ (l.getD k (av .Ev)) (eL hx (getD_some l _ k hb0))| (intros;omega)) ?_
  have e1:=lB l (av .Ev) k hb0
  refine W.r0 X [0,3,4] rfl ⟨⟩ ?_
  refine⟨k+1,by omega,by omega,?_⟩
  rw[aV _ k rfl (by omega), ←e1]
  try rfl
 ·try simp only[nb]at hb0
  refine W.exit ?_
  refine W.s0 X [2] rfl ⟨⟩ ?_
  refine W.ret ?_
  exact Fin.ret rfl ⟨by rw[List.take_of_length_le (by omega),show l.length-k=0 by omega,List.replicate_zero,List.append_nil],⟨⟩⟩
end
section
set_option maxRecDepth 100000
theorem CA(l:(List Ev)):Sound ty Tryz.prog 33 [.a (.sl .Ev l), .a (.sl .Ev l)] [.a (.lit (.bool true))]:=by
 refine Sound.o X Tryz.call33 Tryz.func33 Tryz.ntmps33 rfl rfl ?_
 intro zb
 refine W.bound 0 rfl fun hl=> ?_
 refine W.s0 X [0,1] rfl ⟨⟩ ?_
 refine W.seq ?_
 refine W.s0 X [0,1,10] rfl ⟨⟩ ?_
 refine W.cond rfl (fun hb0=> ?_) (fun hb0=> ?_)
 ·exact absurd hb0 (by simp)
 ·clear hb0
  refine W.skip ?_
  refine W.seq ?_
  refine W.s0 X [0,1,5] rfl ⟨⟩ ?_
  refine W.block ?_
  refine W.aI (fun k=>k≤l.length) (fun k:Nat=> [(5, .one (.a (.lit (.int .i64 k))))]) (fun k=> []) (fun k=>l.length-k) 0 (fun k=>rfl) (Nat.zero_le _) rfl ?_
  intro k hk
  refine W.seq ?_
  refine W.s0 X [0,1,5,14] rfl ⟨⟩ ?_
  refine W.cond rfl (fun aD=> ?_) (fun aD=> ?_)
  ·try simp only[nb]at aD
   refine W.skip ?_
   refine W.seq ?_
   refine W.block ?_
   refine W.sd X [] [(25,⟨false,[.a (.lit (.bool true))]⟩)] [0,1,5,26] [] 10 MO (by kernel_rfl) rfl ⟨EA (l.getD k (av .Ev)),by omega,by omega,⟨⟩⟩ ?_
   refine W.cond rfl (fun aR=> ?_) (fun aR=> ?_)
   ·exact absurd aR (by simp)
   ·clear aR
    refine W.skip ?_
    refine W.r0 X [0,1,5] rfl ⟨⟩ ?_
    refine⟨k+1,by omega,by omega,?_⟩
    rw[aV _ k rfl (by omega)]
    try rfl
  ·try simp only[nb]at aD
   refine W.exit ?_
   refine W.s0 X [4] rfl ⟨⟩ ?_
   refine W.ret ?_
   exact Fin.ret rfl ⟨rfl,⟨⟩⟩
end
end Go.Proofs.YtmcgjpdljafkeaaGreat.G
