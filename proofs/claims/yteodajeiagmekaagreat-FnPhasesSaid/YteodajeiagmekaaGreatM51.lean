/-
  FnPhases, FnReads: the laws, walked by the symbolic machine: they return true. No condition.
-/
import Derived.Test.YteodajeiagmekaaGreatM44
import Derived.Test.YteodajeiagmekaaGreatM47
import Derived.Test.YteodajeiagmekaaGreatM50
namespace Go.Proofs.YteodajeiagmekaaGreat.G
set_option linter.all false
open Go.RowKit L D
section
set_option maxRecDepth 100000
theorem sZ(d:DB)(hs0:bX List.length d.rows≤1048576):Sound ty Tryz.prog 329 [.agg (aF d)] [.a (.lit (.int .i64 (H8 d)))]:=by
 refine Sound.o X Tryz.call329 Tryz.func329 Tryz.ntmps329 rfl rfl ?_
 intro zb
 have kZ:d.rows.length≤1048576:=cI hs0
 refine W.s0 X [1] rfl ⟨⟩ ?_
 refine W.s0 X [1,3] rfl (by and_intros<;>first|exact⟨⟩|exact rfl) ?_
 refine W.seq ?_
 refine W.s0 X [3,11,12,13] rfl ⟨⟩ ?_
 refine W.block ?_
 refine W.aE (fun k=>k≤d.rows.length) (fun k:Nat=> [(13, .one (.a (.lit (.int .i64 k))))]) (fun k=> [(9, .arr .int ((d.rows.length:Int)::(d.rows.take k).flatMap AF))]) (fun k=>d.rows.length-k) 0 (fun k=>rfl) (Nat.zero_le _) rfl ?_
 intro k hk
 have Fw:=S6 d.rows k
 refine W.s0 X [3,11,12,13,14] rfl ⟨⟩ ?_
 refine W.seq ?_
 refine W.cond rfl (fun hb0=> ?_) (fun hb0=> ?_)
 ·try simp only[nb,an,aq,aa]at hb0
  have hs:=N9 d.rows k hb0
  have hel:(d.rows.getD k (au (.sl .u8))).length≤1048576:=gF (f:=List.length) hs0 (getD_some d.rows _ k hb0)
  have B1:=sn (d.rows.getD k (au (.sl .u8)))
  refine W.skip ?_
  refine W.seq ?_
  refine W.block ?_
  refine W.s0 X [3,5,11,12,13] rfl (by and_intros<;>first|exact⟨⟩| (intros;omega)) ?_
  refine W.cD X [(20,9)] [(19,⟨true,[.a (.sl .int (AF (d.rows.getD k (au (.sl .u8)))))]⟩)] [3,11,12,13] [] rfl (by(repeat' with_reducible first|exact aj.nil|refine aj.mk ?_ ?_|apply And.intro)<;>first|exact(nU (d.rows.getD k (au (.sl .u8))) (by first|assumption|omega| (simp;done)| (simp;omega)))|exact rfl| (simp only[cT,maxLen,lens];omega)) ?_
  refine W.r0 X [3,11,12,13] rfl ⟨⟩ ?_
  refine⟨k+1,by omega,by omega,?_⟩
  rw[aR _ k rfl (by omega),hs]
  try rfl
 ·try simp only[nb,an,aq,aa]at hb0
  refine W.exit ?_
  refine W.sr X [] [(23,⟨false,[.a (.lit (.int .i64 (hsh ((d.rows.length:Int)::(d.rows.take k).flatMap AF))))]⟩)] [2] [] rfl (by(repeat' with_reducible first|exact aj.nil|refine aj.mk ?_ ?_|apply And.intro)<;>first|exact(ug ((d.rows.length:Int)::(d.rows.take k).flatMap AF) (by simp only[List.length_cons];omega))) ?_
  refine W.ret ?_
  exact Fin.ret rfl ⟨by rw[List.take_of_length_le hb0];rfl,⟨⟩⟩
theorem xu(c r:Int)(d:DB)(hs0:bX List.length d.rows≤1048576):Sound ty Tryz.prog 228 [.a (.lit (.int .i64 c)), .a (.lit (.int .i64 r)), .agg (aF d)] [.a (.lit (.int .i64 (sX c r d)))]:=by
 refine Sound.o X Tryz.call228 Tryz.func228 Tryz.ntmps228 rfl rfl ?_
 intro zb
 refine W.s0 X [0,1,5] rfl ⟨⟩ ?_
 refine W.sr X [] [(10,⟨false,[.a (.lit (.int .i64 (H8 d)))]⟩),(12,⟨false,[.a (.lit (.int .i64 (hsh [179,c,r,H8 d])))]⟩)] [6] [] rfl (by(repeat' with_reducible first|exact aj.nil|refine aj.mk ?_ ?_|apply And.intro);(iterate 2 all_goals try first|exact(sZ d (by first|assumption|omega| (simp;done)| (simp;omega)))|exact(ug [179,c,r,H8 d] (by first|assumption|omega| (simp;done)| (simp;omega))));all_goals first|exact⟨rfl,bA _ (by decide)⟩) ?_
 refine W.ret ?_
 exact Fin.ret rfl ⟨rfl,⟨⟩⟩
theorem zn(key:Int)(r:dP):Sound ty Tryz.prog 229 [.a (.lit (.int .i64 key)), .agg (j8 r)] [.a (.lit (.int .i64 (Mw key r.server r.client r.round r.j7)))]:=by
 refine Sound.o X Tryz.call229 Tryz.func229 Tryz.ntmps229 rfl rfl ?_
 intro zb
 refine W.s0 X [0,3] rfl ⟨⟩ ?_
 refine W.sr X [] [(15,⟨false,[.a (.lit (.int .i64 (kh key [181,r.server,r.client,r.round,r.j7])))]⟩)] [4] [] rfl (by(repeat' with_reducible first|exact aj.nil|refine aj.mk ?_ ?_|apply And.intro)<;>first|exact(bC key [181,r.server,r.client,r.round,r.j7] (by first|assumption|omega| (simp;done)| (simp;omega)))|exact⟨rfl,bA _ (by decide)⟩) ?_
 refine W.ret ?_
 exact Fin.ret rfl ⟨rfl,⟨⟩⟩
theorem xw(key s c r:Int)(d:DB)(hs0:bX List.length d.rows≤1048576):Sound ty Tryz.prog 96 [.a (.lit (.int .i64 key)), .a (.lit (.int .i64 s)), .a (.lit (.int .i64 c)), .a (.lit (.int .i64 r)), .agg (aF d)] [.agg (j8 (ZN key s c r d))]:=by
 refine Sound.o X Tryz.call96 Tryz.func96 Tryz.ntmps96 rfl rfl ?_
 intro zb
 refine W.s0 X [0,1,2,3,9,10] rfl ⟨⟩ ?_
 refine W.sr X [] [(18,⟨false,[.a (.lit (.int .i64 (sX c r d)))]⟩)] [0,10,11] [] rfl (by(repeat' with_reducible first|exact aj.nil|refine aj.mk ?_ ?_|apply And.intro)<;>first|exact(xu c r d (by first|assumption|omega| (simp;done)| (simp;omega)))) ?_
 refine W.sr X [] [(22,⟨false,[.a (.lit (.int .i64 (Mw key (⟨s,c,r,sX c r d,0⟩:dP).server (⟨s,c,r,sX c r d,0⟩:dP).client (⟨s,c,r,sX c r d,0⟩:dP).round (⟨s,c,r,sX c r d,0⟩:dP).j7)))]⟩)] [10,11] [] rfl (by(repeat' with_reducible first|exact aj.nil|refine aj.mk ?_ ?_|apply And.intro)<;>first|exact(zn key (⟨s,c,r,sX c r d,0⟩:dP))) ?_
 refine W.s0 X [10] rfl (by and_intros<;>exact⟨⟩) ?_
 refine W.ret ?_
 exact Fin.ret rfl ⟨rfl,rfl,rfl,rfl,rfl,⟨⟩⟩
end
section
set_option maxRecDepth 100000
theorem EV(s:aO)(c:Int)(hz:s.received.length≤1048576∧ ∀r,r∈s.received→bX List.length r.share.rows≤1048576):Sound ty Tryz.prog 223 [.agg (bq s), .a (.lit (.int .i64 c))] [.agg (aF (pV s.received c)), .a (.lit (.bool (jv s.received c)))]:=by
 refine Sound.o X Tryz.call223 Tryz.func223 Tryz.ntmps223 rfl rfl ?_
 intro zb
 refine W.b7 0 3 rfl rfl (fun Rw=> ?_)
 refine W.s0 X [1,2,4] rfl ⟨⟩ ?_
 refine W.seq ?_
 refine W.s0 X [1,4,9,10,11] rfl ⟨⟩ ?_
 refine W.block ?_
 refine W.aE (fun k=>k≤s.received.length∧(s.received.take k).any (QE c)=false) (fun k:Nat=> [(11, .one (.a (.lit (.int .i64 k))))]) (fun k=> []) (fun k=>s.received.length-k) 0 (fun k=>rfl) ⟨Nat.zero_le _,rfl⟩ rfl ?_
 rintro k ⟨hk,hall⟩
 refine W.s0 X [1,4,9,10,11,12] rfl ⟨⟩ ?_
 refine W.seq ?_
 refine W.cond rfl (fun hb0=> ?_) (fun hb0=> ?_)
 ·try simp only[nb,an,aq,aa]at hb0
  refine W.skip ?_
  refine W.seq ?_
  refine W.block ?_
  refine W.s0 X [1,4,7,9,10,11] rfl (by and_intros<;>first|exact⟨⟩| (intros;omega)) ?_
  refine W.s0 X [1,4,7,9,10,11,18] rfl ⟨⟩ ?_
  refine W.cond rfl (fun aB=> ?_) (fun aB=> ?_)
  ·have hh:=Mx hb0 hall aB
   refine W.sr X [] [(21,⟨true,[.agg (aF ((s.received.getD k (au .aA)).share))]⟩)] [4,5] [] rfl (by(repeat' with_reducible first|exact aj.nil|refine aj.mk ?_ ?_|apply And.intro)<;>first|exact(cK ((s.received.getD k (au .aA)).share) (hz.2 _ (getD_in _ hb0)))) ?_
   refine W.ret ?_
   exact Fin.ret rfl ⟨by rw[hh.2],by rw[hh.1],⟨⟩⟩
  ·skip
   refine W.skip ?_
   refine W.r0 X [1,4,9,10,11] rfl ⟨⟩ ?_
   refine⟨k+1,⟨by omega,uk (au .aA) hb0 hall aB⟩,by omega,?_⟩
   rw[aR _ k rfl (by omega)]
   try rfl
 ·try simp only[nb,an,aq,aa]at hb0
  refine W.exit ?_
  refine W.s0 X [4,5] rfl (by and_intros<;>exact⟨⟩) ?_
  refine W.ret ?_
  exact Fin.ret rfl ⟨by rw[(CP (by rw[←hall,List.take_of_length_le hb0])).2],by rw[(CP (by rw[←hall,List.take_of_length_le hb0])).1],⟨⟩⟩
theorem td(r:aA)(c:Int):dG ty Tryz.prog 225 [(1000, .box [.lit (.int .i64 c)])] [.agg (dI r), .a (.ptr 1000 0)] [(1000, .box [.lit (.int .i64 c)])] [.a (.lit (.bool (decide (r.client>c))))]:=by
 refine dG.of X Tryz.call225 Tryz.func225 rfl rfl (by decide) Tryz.ntmps225 (by simp) rfl ?_
 intro zb
 refine W.s0 X [1,2] rfl ⟨⟩ ?_
 refine W.s0 X [3] rfl (by and_intros<;>exact⟨⟩) ?_
 refine W.ret ?_
 exact og.ret rfl ⟨rfl,rfl,⟨⟩⟩
theorem eB(l:List aA)(c:Int)(hl: ∀r,r∈l→r.client<c):dG ty Tryz.prog 224 [(1000, .box [.lit (.int .i64 c)])] [.a (.sl .aA l), .a (.Aj 225 1000)] [(1000, .box [.lit (.int .i64 c)])] [.a (.lit (.int .i64 (-1)))]:=by
 refine dG.of X Tryz.call224 Tryz.func224 rfl rfl (by decide) Tryz.ntmps224 (by simp) rfl ?_
 intro zb
 refine W.bound 0 rfl (fun kZ=> ?_)
 refine W.s0 X [0,1] rfl ⟨⟩ ?_
 refine W.seq ?_
 refine W.s0 X [0,1,7,8] rfl ⟨⟩ ?_
 refine W.block ?_
 refine W.aE (fun k=>k≤l.length) (fun k:Nat=> [(8, .one (.a (.lit (.int .i64 k))))]) (fun k=> []) (fun k=>l.length-k) 0 (fun k=>rfl) (Nat.zero_le _) rfl ?_
 intro k hk
 refine W.s0 X [0,1,7,8,9] rfl ⟨⟩ ?_
 refine W.seq ?_
 refine W.cond rfl (fun hb0=> ?_) (fun hb0=> ?_)
 ·try simp only[nb,an,aq,aa]at hb0
  have hlt:=hl _ (getD_in (au .aA) hb0)
  refine W.skip ?_
  refine W.seq ?_
  refine W.block ?_
  refine W.s0 X [0,1,5,7,8] rfl ⟨⟩ ?_
  refine W.sr X [] [(800016,⟨true,[.a (.lit (.bool (decide ((l.getD k (au .aA)).client>c))))]⟩),(700016,⟨true,[.agg [.ptr 1000 1000], .agg [], .agg [.own 1000], .agg [.lit (.int .i64 c)]]⟩)] [0,1,5,7,8,16] [] rfl (by(repeat' with_reducible first|exact aj.nil|refine aj.mk ?_ ?_|apply And.intro)<;>first|exact(td (l.getD k (au .aA)) c)| (intros;omega)) ?_
  refine W.cond rfl (fun aB=> ?_) (fun aB=> ?_)
  ·try simp only[nb,an,aq,aa]at aB
   omega
  ·try simp only[nb,an,aq,aa]at aB
   refine W.skip ?_
   refine W.r0 X [0,1,7,8] rfl ⟨⟩ ?_
   refine⟨k+1,by omega,by omega,?_⟩
   rw[aR _ k rfl (by omega)]
   try rfl
 ·try simp only[nb,an,aq,aa]at hb0
  refine W.exit ?_
  refine W.s0 X [4] rfl ⟨⟩ ?_
  refine W.ret ?_
  exact og.ret rfl ⟨rfl,rfl,⟨⟩⟩
theorem eO(l:List aA)(y:aA)(hl:l.length≤1048576):dG ty Tryz.prog 226 [(5, .arr .aA l),(6, .arr .aA [y])] [.a (.own 5), .a (.lit (.int .i64 (l.length:Int))), .a (.own 6)] [(5, .arr .aA (l++ [y]))] [.a (.own 5)]:=by
 refine dG.of X Tryz.call226 Tryz.func226 rfl rfl (by decide) Tryz.ntmps226 (by simp) rfl ?_
 intro zb
 refine W.s0 X [0,1,2] rfl ⟨⟩ ?_
 refine W.s0 X [0,1,2] rfl (by and_intros<;>first|exact⟨⟩| (intros;omega)) ?_
 refine W.s0 X [0,1,2,7] rfl ⟨⟩ ?_
 refine W.seq ?_
 refine W.s0 X [0,1,2,7,16] rfl ⟨⟩ ?_
 refine W.cond rfl (fun hb0=> ?_) (fun hb0=> ?_)
 ·try simp only[nb,an,aq,aa]at hb0
  simp at hb0
 ·try simp only[nb,an,aq,aa]at hb0
  refine W.skip ?_
  refine W.s0 X [0,1,2,7,8] rfl ⟨⟩ ?_
  refine W.seq ?_
  refine W.s0 X [0,1,2,7,8,22] rfl ⟨⟩ ?_
  refine W.cond rfl (fun aB=> ?_) (fun aB=> ?_)
  ·try simp only[nb,an,aq,aa]at aB
   refine W.sr X [(25,5)] [] [6] [] rfl (by and_intros<;>first|exact⟨⟩|exact rfl| (simp only[cT,maxLen,lens];omega)) ?_
   refine W.ret ?_
   exact og.ret rfl ⟨rfl,⟨⟩⟩
  ·try simp only[nb,an,aq,aa]at aB
   simp at aB
def Qg:dH:=(.ph 512 (.br 512 10 (.last 0) (.nil)))
theorem v9(s:aO)(c:Int)(d:DB)(hz:s.received.length≤1048576∧ ∀r,r∈s.received→bX List.length r.share.rows≤1048576)(hb: ∀r,r∈s.received→r.client<c)(hd:bX List.length d.rows≤1048576):Sound ty Tryz.prog 95 [.agg (bq s), .a (.lit (.int .i64 c)), .agg (aF d)] [.agg (bq (Kb s c d)), .a (.lit (.bool (ju s c d)))]:=by
 refine Sound.o X Tryz.call95 Tryz.func95 Tryz.ntmps95 rfl rfl ?_
 intro zb
 have hsn:=S8 (s:=s) hb
 have kZ:=hz.1
 refine W.sr X [(4,904)] [] [3,4,5,6] [] rfl ⟨⟩ ?_
 refine W.sr X [] [(13,⟨true,[.agg (bq s)]⟩)] [3,4,5,6,8] [] rfl (by(repeat' with_reducible first|exact aj.nil|refine aj.mk ?_ ?_|apply And.intro)<;>first|exact(hJ s hz)) ?_
 refine W.seq ?_
 refine W.sr X [] [(17,⟨true,[.agg (aF (pV s.received c)), .a (.lit (.bool (jv s.received c)))]⟩)] [3,4,5,6,8,10] [] rfl (by(repeat' with_reducible first|exact aj.nil|refine aj.mk ?_ ?_|apply And.intro)<;>first|exact(EV s c hz)) ?_
 refine W.sr X [] [(23,⟨false,[.a (.lit (.bool (cj s)))]⟩)] [3,4,5,6,8,25] [] rfl (by(repeat' with_reducible first|exact aj.nil|refine aj.mk ?_ ?_|apply And.intro)<;>first|exact fun _=>(ez s)) ?_
 refine W.cond rfl (fun hb0=> ?_) (fun hb0=> ?_)
 ·have hk:cj s=false:=by rw[hsn]at hb0;simpa using hb0
  have hr:ju s c d=false:=by rw[ju,hk];rfl
  refine W.s0 X [6,7] rfl (by and_intros<;>exact⟨⟩) ?_
  refine W.ret ?_
  exact Fin.ret rfl (by and_intros<;>first|exact⟨⟩| (rw[Mz hr];done)| (rw[hr];done))
 ·have hk:cj s=true:=by rw[hsn]at hb0;simpa using hb0
  refine W.skip ?_
  refine W.sr X [] [(800030,⟨true,[.a (.lit (.int .i64 (-1)))]⟩),(700030,⟨true,[.agg [.ptr 1000 904], .agg [], .agg [.own 1000], .agg [.lit (.int .i64 c)]]⟩)] [3,4,5,6,8,11] [] rfl (by(repeat' with_reducible first|exact aj.nil|refine aj.mk ?_ ?_|apply And.intro)<;>first|exact(eB s.received c hb)) ?_
  refine W.seq ?_
  refine W.s0 X [3,4,5,6,8,11,32] rfl ⟨⟩ ?_
  refine W.cond rfl (fun aB=> ?_) (fun aB=> ?_)
  ·try simp only[nb,an,aq,aa]at aB
   refine W.r0 X [3,4,5,6,8,11] rfl ⟨⟩ ?_
   refine W.seq ?_
   refine W.fZ X [] [(41,⟨true,[.agg (aF d)]⟩),(800044,⟨true,[.a (.own 5)]⟩),(700044,⟨true,[.agg [.ptr 5 16, .ptr 6 43], .agg [], .agg [.own 5], .a (.sl .aA (s.received++ [(⟨c,d⟩:aA)]))]⟩)] [3,6,8] [] 639 (.ph 127 (.br 127 7 (.ph 0 (.br 0 8 Qg (.nil))) (.br 123 7 (.ph 4 (.br 4 8 Qg (.nil))) (.br 125 7 (.ph 2 (.br 2 8 Qg (.nil))) (.br 121 7 (.ph 6 (.br 6 8 Qg (.nil))) (.br 124 7 (.ph 3 (.br 3 8 Qg (.nil))) (.br 120 7 (.ph 7 (.br 7 8 Qg (.nil))) (.nil)))))))) 5 MO (by kernel_rfl) rfl (by kernel_rfl) (by(repeat' with_reducible first|exact aj.nil|refine aj.mk ?_ ?_|apply And.intro);(iterate 2 all_goals try first|exact(cK d hd)|exact(eO s.received (⟨c,d⟩:aA) (by first|assumption|omega| (simp;done)| (simp;omega))));all_goals first|exact rfl) ?_
   refine W.seq ?_
   refine W.sr X [] [(47,⟨false,[.a (.lit (.bool (cj (kO s c d))))]⟩)] [3,6,8,48] [] rfl (by(repeat' with_reducible first|exact aj.nil|refine aj.mk ?_ ?_|apply And.intro)<;>first|exact(ez (kO s c d))) ?_
   refine W.cond rfl (fun aM=> ?_) (fun aM=> ?_)
   ·have hr:ju s c d=false:=by rw[ju,hk];simpa using aM
    refine W.sr X [] [(50,⟨true,[.agg (bq s)]⟩)] [6,7] [] rfl (by(repeat' with_reducible first|exact aj.nil|refine aj.mk ?_ ?_|apply And.intro)<;>first|exact(hJ s hz)) ?_
    refine W.ret ?_
    exact Fin.ret rfl (by and_intros<;>first|exact⟨⟩| (rw[Mz hr];done)| (rw[hr];done))
   ·have hr:ju s c d=true:=by rw[ju,hk];simpa using aM
    refine W.skip ?_
    refine W.s0 X [6,7] rfl (by and_intros<;>exact⟨⟩) ?_
    refine W.ret ?_
    exact Fin.ret rfl (by and_intros<;>first|exact⟨⟩| (rw[H7 hr];rfl;done)| (rw[hr];done))
  ·try simp only[nb,an,aq,aa]at aB
   omega
end
section
set_option maxRecDepth 100000
theorem uR(x:aJ)(h0:wB x):Sound ty Tryz.prog 15 [.agg (aG x)] [.a (.sl .aO (aN x)), .a (.sl .dP (dO x))]:=by
 refine Sound.o X Tryz.call15 Tryz.func15 Tryz.ntmps15 rfl rfl ?_
 intro zb
 refine W.b7 0 1 rfl rfl (fun nj=> ?_)
 refine W.b7 0 2 rfl rfl (fun j0=> ?_)
 have oK:=Gu h0
 refine W.s0 X [1] rfl ⟨⟩ ?_
 refine W.seq ?_
 refine W.sr X [] [(10,⟨false,[.a (.lit (.bool (okW x)))]⟩)] [1,11] [] rfl (by(repeat' with_reducible first|exact aj.nil|refine aj.mk ?_ ?_|apply And.intro)<;>first|exact(bw x)) ?_
 refine W.cond rfl (fun hb0=> ?_) (fun hb0=> ?_)
 ·have gS:okW x=false:=by simpa using hb0
  refine W.s0 X [2,3] rfl ⟨⟩ ?_
  refine W.ret ?_
  exact Fin.ret rfl ⟨by rw[aN,if_neg (by rw[gS];decide)],by rw[dO,if_neg (by rw[gS];decide)],⟨⟩⟩
 ·have gS:okW x=true:=by simpa using hb0
  have aey:=cN gS
  have hdv:=(oS (kD gS)).2.1
  have hc0:=(col gS 0 (Nat.zero_le _)).sml
  refine W.skip ?_
  refine W.sr X [] [(14,⟨true,[.a (.sl .aO x.ah)]⟩)] [1,4] [] rfl (by(repeat' with_reducible first|exact aj.nil|refine aj.mk ?_ ?_|apply And.intro)<;>first|exact(oq x.ah (by omega) hc0)) ?_
  refine W.s0 X [1,4,5] rfl (by and_intros<;>first|exact⟨⟩|exact rfl) ?_
  refine W.seq ?_
  refine W.s0 X [1,4,5,18,19] rfl ⟨⟩ ?_
  refine W.block ?_
  refine W.aE (fun k=>k≤x.af.length) (fun k:Nat=> [(19, .one (.a (.lit (.int .i64 k))))]) (fun k=> [(14, .arr .aO (vW x k)),(15, .arr .dP (Cg x k))]) (fun k=>x.af.length-k) 0 (fun k=>rfl) (Nat.zero_le _) rfl ?_
  intro k hk
  refine W.s0 X [1,4,5,18,19,20] rfl ⟨⟩ ?_
  refine W.seq ?_
  refine W.cond rfl (fun aB=> ?_) (fun aB=> ?_)
  ·try simp only[nb,an,aq,aa]at aB
   have MJ:k<x.af.length:=by omega
   have hwl:(cO x (k:Int)).length=x.ah.length:=by rw[iG gS (by omega)];exact eV gS (by omega)
   have hw:cO x (k:Int)=bk x (k:Int):=iG gS (by omega)
   refine W.skip ?_
   refine W.seq ?_
   refine W.block ?_
   refine W.s0 X [1,4,5,6,18,19] rfl ⟨⟩ ?_
   refine W.sr X [] [(24,⟨true,[.a (.sl .DB (cO x (k:Int)))]⟩)] [1,4,5,6,18,19,24,25,26] [] rfl (by(repeat' with_reducible first|exact aj.nil|refine aj.mk ?_ ?_|apply And.intro)<;>first|exact(gL x (k:Int) (by first|assumption|omega| (simp;done)| (simp;omega)))) ?_
   refine W.block ?_
   refine W.aE (fun k1=>k1≤x.ah.length) (fun k1:Nat=> [(26, .one (.a (.lit (.int .i64 k1))))]) (fun k1=> [(14, .arr .aO (qO x k k1)),(15, .arr .dP (Cg x k++EC x k k1))]) (fun k1=>x.ah.length-k1) 0 (fun k1=>rfl) (Nat.zero_le _) (by simp[qO,EC]) ?_
   intro k1 hk1
   have oD:=Kf gS MJ hk1
   refine W.s0 X [1,4,5,6,18,19,24,25,26,27] rfl ⟨⟩ ?_
   refine W.seq ?_
   refine W.cond rfl (fun aM=> ?_) (fun aM=> ?_)
   ·try simp only[nb,an,aq,aa]at aM
    have FG:=Ki gS MJ (by omega:k1<x.ah.length)
    have hs1:=Gv gS MJ (by omega:k1<x.ah.length)
    have Da:=AX x k k1
    have hrl:=uA x k
    have hrp:=zm x k k1
    have Lo:k*x.ah.length≤8*4:=Nat.mul_le_mul (by omega) (by omega)
    refine W.skip ?_
    refine W.seq ?_
    refine W.block ?_
    refine W.s0 X [1,4,5,6,7,8,18,19,24,25,26] rfl (by and_intros<;>first|exact⟨⟩| (intros;omega)) ?_
    refine W.seq ?_
    refine W.fZ X [] [(40,⟨true,[.agg (bq (Kb ((qO x k k1).getD k1 (au .aO)) (k:Int) ((cO x (k:Int)).getD k1 (au .DB)))), .a (.lit (.bool (ju ((qO x k k1).getD k1 (au .aO)) (k:Int) ((cO x (k:Int)).getD k1 (au .DB)))))]⟩)] [1,4,5,6,7,8,18,19,24,25,26] [] 8191 (.ph 8191 (.br 8191 13 (.last 0) (.br 6143 13 (.last 2048) (.nil)))) 1 MO (by kernel_rfl) rfl (by kernel_rfl) (by(repeat' with_reducible first|exact aj.nil|refine aj.mk ?_ ?_|apply And.intro)<;>first|exact(v9 ((qO x k k1).getD k1 (au .aO)) (k:Int) ((cO x (k:Int)).getD k1 (au .DB)) FG.2.1 FG.1 (by rw[hw];exact FG.2.2))| (intros;omega)) ?_
    refine W.draw X [(56,15)] [(48,⟨false,[.a (.lit (.int .i64 (fU x.az (k1:Int))))]⟩),(54,⟨false,[.agg (j8 (ZN (fU x.az (k1:Int)) (k1:Int) (k:Int) x.round ((cO x (k:Int)).getD k1 (au .DB))))]⟩)] [1,4,5,6,18,19,24,25,26] [] 12 MO (by kernel_rfl) rfl (by(repeat' with_reducible first|exact aj.nil|refine aj.mk ?_ ?_|apply And.intro);(iterate 2 all_goals try first|exact(lM x.az (k1:Int))|exact(xw (fU x.az (k1:Int)) (k1:Int) (k:Int) x.round ((cO x (k:Int)).getD k1 (au .DB)) (by rw[hw];exact FG.2.2)));all_goals first|exact rfl|exact⟨rfl,bA _ (by decide)⟩| (simp only[cT,maxLen,lens];omega)) ?_
    refine W.r0 X [1,4,5,6,18,19,24,25,26] rfl ⟨⟩ ?_
    refine⟨k1+1,by omega,by omega,?_⟩
    rw[aR _ k1 rfl (by omega),hw, ←hs1,Da, ←List.append_assoc]
    try rfl
   ·try simp only[nb,an,aq,aa]at aM
    rw[Kh gS MJ (by omega),show k1=x.ah.length by omega, ←AY]
    refine W.exit ?_
    refine W.r0 X [1,4,5,18,19] rfl ⟨⟩ ?_
    refine⟨k+1,by omega,by omega,?_⟩
    rw[aR _ k rfl (by omega)]
    try rfl
  ·try simp only[nb,an,aq,aa]at aB
   refine W.exit ?_
   refine W.s0 X [2,3] rfl ⟨⟩ ?_
   refine W.ret ?_
   exact Fin.ret rfl ⟨by rw[aN,if_pos gS,show x.af.length=k by omega],by rw[dO,if_pos gS,show x.af.length=k by omega],⟨⟩⟩
end
section
set_option maxRecDepth 100000
theorem zK(rows:Int)(l:List aA)(hz: ∀r,r∈l→bX List.length r.share.rows≤1048576):Sound ty Tryz.prog 239 [.a (.lit (.int .i64 rows)), .a (.sl .aA l)] [.agg (aF (gN rows l))]:=by
 refine Sound.o X Tryz.call239 Tryz.func239 Tryz.ntmps239 rfl rfl ?_
 intro zb
 refine W.bound 1 rfl (fun kZ=> ?_)
 refine W.s0 X [0,1,4] rfl ⟨⟩ ?_
 refine W.sr X [] [(9,⟨true,[.agg (aF (cw rows))]⟩)] [1,4,5] [] rfl (by(repeat' with_reducible first|exact aj.nil|refine aj.mk ?_ ?_|apply And.intro)<;>first|exact(n7 rows)) ?_
 refine W.seq ?_
 refine W.s0 X [4,5,10,11,12] rfl ⟨⟩ ?_
 refine W.block ?_
 refine W.aE (fun k=>k≤l.length) (fun k:Nat=> [(12, .one (.a (.lit (.int .i64 k))))]) (fun k=> [(9, .arr (.sl .u8) (gN rows (l.take k)).rows)]) (fun k=>l.length-k) 0 (fun k=>rfl) (Nat.zero_le _) rfl ?_
 intro k hk
 refine W.s0 X [4,5,10,11,12,13] rfl ⟨⟩ ?_
 refine W.seq ?_
 refine W.cond rfl (fun hb0=> ?_) (fun hb0=> ?_)
 ·try simp only[nb,an,aq,aa]at hb0
  have hs:=GB rows l k hb0
  refine W.skip ?_
  refine W.seq ?_
  refine W.block ?_
  refine W.s0 X [4,5,7,10,11,12] rfl (by and_intros<;>first|exact⟨⟩| (intros;omega)) ?_
  refine W.cD X [] [(20,⟨true,[.agg (aF (dD (gN rows (l.take k)) ((l.getD k (au .aA)).share))), .a (.lit (.bool (gq (gN rows (l.take k)) ((l.getD k (au .aA)).share))))]⟩)] [4,5,10,11,12] [] rfl (by(repeat' with_reducible first|exact aj.nil|refine aj.mk ?_ ?_|apply And.intro)<;>first|exact(jg (gN rows (l.take k)) ((l.getD k (au .aA)).share) (On _ _) (hz _ (getD_in _ hb0)))) ?_
  refine W.kH 5 0 9 rfl ?_
  refine W.r0 X [4,5,10,11,12] rfl ⟨⟩ ?_
  refine⟨k+1,by omega,by omega,?_⟩
  rw[aR _ k rfl (by omega),hs]
  try rfl
 ·try simp only[nb,an,aq,aa]at hb0
  refine W.exit ?_
  refine W.s0 X [4] rfl (by and_intros<;>exact⟨⟩) ?_
  refine W.ret ?_
  exact Fin.ret rfl ⟨by rw[List.take_of_length_le hb0],⟨⟩⟩
theorem wg(s:aO):Sound ty Tryz.prog 107 [.agg (bq s)] [.agg (aF (so s))]:=by
 refine Sound.o X Tryz.call107 Tryz.func107 Tryz.ntmps107 rfl rfl ?_
 intro zb
 refine W.s0 X [1,2] rfl ⟨⟩ ?_
 refine W.seq ?_
 refine W.sr X [] [(6,⟨false,[.a (.lit (.bool (cj s)))]⟩)] [1,2,7] [] rfl (by(repeat' with_reducible first|exact aj.nil|refine aj.mk ?_ ?_|apply And.intro)<;>first|exact(ez s)) ?_
 refine W.cond rfl (fun hb0=> ?_) (fun hb0=> ?_)
 ·have hk:cj s=false:=by simpa using hb0
  refine W.s0 X [2] rfl (by and_intros<;>exact⟨⟩) ?_
  refine W.ret ?_
  exact Fin.ret rfl ⟨by rw[so,hk];rfl,⟨⟩⟩
 ·have hk:cj s=true:=by simpa using hb0
  have hsz:=EJ hk
  have hin:=Tw hk
  refine W.skip ?_
  refine W.s0 X [1,2,3] rfl ⟨⟩ ?_
  refine W.seq ?_
  refine W.s0 X [1,2,3,13] rfl ⟨⟩ ?_
  refine W.cond rfl (fun aB=> ?_) (fun aB=> ?_)
  ·try simp only[nb,an,aq,aa]at aB
   have hr:=GC s (by omega)
   have kZ:=(Oo hk).2
   have hmi:=Ty 1 (s.received.length:Int)
   refine W.r0 X [1,2,3] rfl (by and_intros<;>first|exact⟨⟩| (intros;omega)) ?_
   rw[show List.take ((s.received.length:Int)).toNat s.received=s.received by simp,Tz, ←hr]
   refine W.sr X [] [(22,⟨true,[.agg (aF (gN s.rows (rcvd s)))]⟩)] [1,2,4] [] rfl (by(repeat' with_reducible first|exact aj.nil|refine aj.mk ?_ ?_|apply And.intro)<;>first|exact(zK s.rows (rcvd s) (fun r Na=>hsz r (TA s r Na)))) ?_
   refine W.seq ?_
   refine W.s0 X [2,4,25] rfl ⟨⟩ ?_
   refine W.cond rfl (fun aM=> ?_) (fun aM=> ?_)
   ·try simp only[nb,an,aq,aa]at aM
    omega
   ·try simp only[nb,an,aq,aa]at aM
    refine W.skip ?_
    refine W.s0 X [2] rfl (by and_intros<;>exact⟨⟩) ?_
    refine W.ret ?_
    exact Fin.ret rfl ⟨by rw[so,if_pos hk,if_neg (by omega)],⟨⟩⟩
  ·try simp only[nb,an,aq,aa]at aB
   have hr:=Ks s (by omega)
   rw[hr]at hin
   have aez:0<((gN s.rows s.received).rows.getD (Int.toNat 0) (au (.sl .u8))).length:=hin.2
   refine W.skip ?_
   refine W.sr X [] [(22,⟨true,[.agg (aF (gN s.rows s.received))]⟩)] [1,2,4] [] rfl (by(repeat' with_reducible first|exact aj.nil|refine aj.mk ?_ ?_|apply And.intro)<;>first|exact(zK s.rows s.received hsz)) ?_
   refine W.seq ?_
   refine W.s0 X [2,4,25] rfl ⟨⟩ ?_
   refine W.cond rfl (fun aM=> ?_) (fun aM=> ?_)
   ·try simp only[nb,an,aq,aa]at aM
    have agW:s.behavior=2:=by omega
    refine W.r0 X [2,4] rfl (by and_intros<;>first|exact⟨⟩| (intros;omega)|exact(pR _).1|exact(pR _).2) ?_
    refine W.s0 X [2] rfl (by and_intros<;>exact⟨⟩) ?_
    refine W.ret ?_
    exact Fin.ret rfl ⟨by rw[so,if_pos hk,if_pos (by omega),hr];exact alt_eq _,⟨⟩⟩
   ·try simp only[nb,an,aq,aa]at aM
    refine W.skip ?_
    refine W.s0 X [2] rfl (by and_intros<;>exact⟨⟩) ?_
    refine W.ret ?_
    exact Fin.ret rfl ⟨by rw[so,if_pos hk,if_neg (by omega),hr],⟨⟩⟩
theorem zL(sv:List aO)(hl:sv.length≤1048576):Sound ty Tryz.prog 21 [.a (.sl .aO sv)] [.a (.sl .DB (bH sv))]:=by
 refine Sound.o X Tryz.call21 Tryz.func21 Tryz.ntmps21 rfl rfl ?_
 intro zb
 refine W.s0 X [0] rfl ⟨⟩ ?_
 refine W.s0 X [0,3] rfl (by and_intros<;>first|exact⟨⟩|exact rfl) ?_
 refine W.seq ?_
 refine W.s0 X [3,7,8,9] rfl ⟨⟩ ?_
 refine W.block ?_
 refine W.aE (fun k=>k≤sv.length) (fun k:Nat=> [(9, .one (.a (.lit (.int .i64 k))))]) (fun k=> [(6, .arr .DB ((bH sv).take k))]) (fun k=>sv.length-k) 0 (fun k=>rfl) (Nat.zero_le _) rfl ?_
 intro k hk
 have hle:=aY (bH sv) k
 refine W.s0 X [3,7,8,9,10] rfl ⟨⟩ ?_
 refine W.seq ?_
 refine W.cond rfl (fun hb0=> ?_) (fun hb0=> ?_)
 ·try simp only[nb,an,aq,aa]at hb0
  have hs:=GD sv k hb0
  refine W.skip ?_
  refine W.seq ?_
  refine W.block ?_
  refine W.s0 X [3,5,7,8,9] rfl (by and_intros<;>first|exact⟨⟩| (intros;omega)) ?_
  refine W.cD X [(17,6)] [(15,⟨true,[.agg (aF (so (sv.getD k (au .aO))))]⟩)] [3,7,8,9] [] rfl (by(repeat' with_reducible first|exact aj.nil|refine aj.mk ?_ ?_|apply And.intro)<;>first|exact(wg (sv.getD k (au .aO)))|exact rfl| (simp only[cT,maxLen,lens];omega)) ?_
  refine W.r0 X [3,7,8,9] rfl ⟨⟩ ?_
  refine⟨k+1,by omega,by omega,?_⟩
  rw[aR _ k rfl (by omega),hs]
  try rfl
 ·try simp only[nb,an,aq,aa]at hb0
  refine W.exit ?_
  refine W.s0 X [2] rfl ⟨⟩ ?_
  refine W.ret ?_
  exact Fin.ret rfl ⟨by rw[List.take_of_length_le (by unfold bH;rw[List.length_map];exact hb0)],⟨⟩⟩
end
section
set_option maxRecDepth 100000
theorem pJ(s:aO)(hz:s.received.length≤1048576∧ ∀r,r∈s.received→bX List.length r.share.rows≤1048576):Sound ty Tryz.prog 111 [.agg (bq s)] [.agg (bq (iI s))]:=by
 refine Sound.o X Tryz.call111 Tryz.func111 Tryz.ntmps111 rfl rfl ?_
 intro zb
 refine W.s0 X [1,2] rfl ⟨⟩ ?_
 refine W.sr X [] [(5,⟨true,[.agg (bq s)]⟩)] [1,2,3] [] rfl (by(repeat' with_reducible first|exact aj.nil|refine aj.mk ?_ ?_|apply And.intro)<;>first|exact(hJ s hz)) ?_
 refine W.seq ?_
 refine W.sr X [] [(7,⟨false,[.a (.lit (.bool (cj s)))]⟩)] [2,3,12] [] rfl (by(repeat' with_reducible first|exact aj.nil|refine aj.mk ?_ ?_|apply And.intro)<;>first|exact(ez s)) ?_
 refine W.cond rfl (fun hb0=> ?_) (fun hb0=> ?_)
 ·have hk:A7 s=true:=kN hb0 (by simp only[A7,aH]<;>first|rfl|ac_rfl)
  have hn:iI s=⟨s.id,s.rows,IntKind.i64.wrap (s.round+1),[],s.behavior⟩:=by rw[iI,if_pos hk]
  refine W.s0 X [2,3] rfl ⟨⟩ ?_
  refine W.r0 X [2,3] rfl ⟨⟩ ?_
  refine W.s0 X [2] rfl (by and_intros<;>exact⟨⟩) ?_
  refine W.ret ?_
  exact Fin.ret rfl (by and_intros<;>first|exact⟨⟩| (rw[hn];done))
 ·have hk:A7 s=false:=n8 hb0 (by simp only[A7,aH]<;>first|rfl|ac_rfl)
  have hn:iI s=s:=by rw[iI,hk];rfl
  refine W.skip ?_
  refine W.s0 X [2] rfl (by and_intros<;>exact⟨⟩) ?_
  refine W.ret ?_
  exact Fin.ret rfl (by and_intros<;>first|exact⟨⟩| (rw[hn];done))
end
section
set_option maxRecDepth 100000
theorem Cn(a:gW)(r:Int)(d:DB)(h0:cB a≤1048576)(Z7:bX List.length d.rows≤1048576):Sound ty Tryz.prog 109 [.agg (ck a), .a (.lit (.int .i64 r)), .agg (aF d)] [.agg [.lit (.int .i64 a.rows), .vw 0 none .ay (EM a r d)], .a (.lit (.bool (qV a r d)))]:=by
 refine Sound.o X Tryz.call109 Tryz.func109 Tryz.ntmps109 rfl rfl ?_
 intro zb
 refine W.s0 X [1,3,5,6] rfl ⟨⟩ ?_
 refine W.sr X [] [(10,⟨true,[.agg (ck a)]⟩)] [1,3,5,6,8] [] rfl (by(repeat' with_reducible first|exact aj.nil|refine aj.mk ?_ ?_|apply And.intro)<;>first|exact(oz a h0)) ?_
 refine W.seq ?_
 refine W.sr X [] [(12,⟨false,[.a (.lit (.bool (e9 a)))]⟩),(16,⟨false,[.a (.lit (.bool (inr r 0 100000)))]⟩),(22,⟨false,[.a (.lit (.int .i64 (bR a)))]⟩),(27,⟨false,[.a (.lit (.bool (bV d)))]⟩)] [1,5,6,8,37] [] rfl (by(repeat' with_reducible first|exact aj.nil|refine aj.mk ?_ ?_|apply And.intro);(iterate 4 all_goals try first|exact(k8 a)|exact fun _=>(aC r 0 100000)|exact fun _=>(lD a)|exact fun _=>(cW d))) ?_
 refine W.cond rfl (fun hb0=> ?_) (fun hb0=> ?_)
 ·have hk:qV a r d=false:=bK hb0 (by simp only[qV,aH]<;>first|rfl|ac_rfl)
  have hn:=TW hk
  refine W.s0 X [6,7] rfl (by and_intros<;>exact⟨⟩) ?_
  refine W.ret ?_
  exact Fin.ret rfl ⟨rfl,by rw[hn],by rw[hk],⟨⟩⟩
 ·have hk:qV a r d=true:=bG hb0 (by simp only[qV,aH]<;>first|rfl|ac_rfl)
  have hn:=OD hk
  have hkb:=TX hk
  have hal:(uN a r d).length=a.rounds.length+1:=by unfold uN;rw[List.length_append];rfl
  refine W.skip ?_
  refine W.sd X [] [(43,⟨true,[.agg (aF d)]⟩),(500045,⟨true,[]⟩)] [6,8] [] 7 MO (by kernel_rfl) rfl (by(repeat' with_reducible first|exact aj.nil|refine aj.mk ?_ ?_|apply And.intro)<;>first|exact(cK d Z7)|exact rfl|exact⟨rfl,bA _ (by decide)⟩| (simp only[cT,maxLen,lens];omega)) ?_
  rw[show a.rounds++ [(⟨r,d⟩:ay)]=(uN a r d)from rfl]
  refine W.seq ?_
  refine W.s0 X [6,8,51] rfl ⟨⟩ ?_
  refine W.cond rfl (fun aB=> ?_) (fun aB=> ?_)
  ·try simp only[nb,an,aq,aa]at aB
   have h8:(8:Int)<((uN a r d).length:Int):=aB
   rw[if_pos h8]at hn
   refine W.r0 X [6,8] rfl (by and_intros<;>first|exact⟨⟩| (intros;omega)) ?_
   refine W.s0 X [6,7] rfl (by and_intros<;>exact⟨⟩) ?_
   refine W.ret ?_
   exact Fin.ret rfl ⟨rfl,by rw[hn];simp,by rw[hk],⟨⟩⟩
  ·try simp only[nb,an,aq,aa]at aB
   have h8: ¬(8:Int)<((uN a r d).length:Int):=by omega
   rw[if_neg h8]at hn
   refine W.skip ?_
   refine W.s0 X [6,7] rfl (by and_intros<;>exact⟨⟩) ?_
   refine W.ret ?_
   exact Fin.ret rfl ⟨rfl,by rw[hn],by rw[hk],⟨⟩⟩
theorem pL(x:aJ)(g:List Int)(d:DB)(h0:wB x)(hgl:g.length≤64)(Z7:bX List.length d.rows≤1048576):Sound ty Tryz.prog 23 [.agg (aG x), .a (.sl .int g), .agg (aF d)] [.agg [.lit (.int .i64 (aQ x g d).rows), .sl .aO (aQ x g d).ah, .sl .aL (aQ x g d).af, .lit (.int .i64 (aQ x g d).ak.rows), .vw 0 none .ay (aQ x g d).ak.rounds, .lit (.int .i64 (aQ x g d).az), .lit (.int .i64 (aQ x g d).seed), .lit (.int .i64 (aQ x g d).round), .sl .int (aQ x g d).replaced, .lit (.int .i64 (aQ x g d).cancelled)]]:=by
 refine Sound.o X Tryz.call23 Tryz.func23 Tryz.ntmps23 rfl rfl ?_
 intro zb
 have hls:bX bp x.ah≤1048576∧bX aP x.af≤1048576∧cB x.ak≤1048576∧x.replaced.length≤4194304:=h0
 have hcp:=OB x g
 refine W.s0 X [1,3,5,6] rfl ⟨⟩ ?_
 refine W.sr X [(7,907)] [(13,⟨true,[.agg (aG x)]⟩)] [1,3,5,6,7] [] rfl (by(repeat' with_reducible first|exact aj.nil|refine aj.mk ?_ ?_|apply And.intro)<;>first|exact(lQ x h0)) ?_
 refine W.seq ?_
 refine W.sr X [] [(15,⟨false,[.a (.lit (.bool (okW x)))]⟩)] [1,3,5,6,7,21] [] rfl (by(repeat' with_reducible first|exact aj.nil|refine aj.mk ?_ ?_|apply And.intro)<;>first|exact(bw x)) ?_
 refine W.cond rfl (fun hb0=> ?_) (fun hb0=> ?_)
 ·have hk:oy x=false:=bK hb0 (by simp only[oy,aH]<;>first|rfl|ac_rfl)
  have hc:=GG (g:=g) (d:=d) hk
  refine W.s0 X [6] rfl (by and_intros<;>exact⟨⟩) ?_
  refine W.ret ?_
  exact Fin.ret rfl (by and_intros<;>first|exact⟨⟩| (rw[hc];done))
 ·have hk:oy x=true:=bG hb0 (by simp only[oy,aH]<;>first|rfl|ac_rfl)
  obtain⟨hok,hr9⟩:=TV hk
  have oK:=cN hok
  have Qa:=(lK hok).1
  have hcU:=X8 g hok
  refine W.skip ?_
  refine W.seq ?_
  refine W.s0 X [1,3,5,6,7,25] rfl ⟨⟩ ?_
  refine W.cond rfl (fun aB=> ?_) (fun aB=> ?_)
  ·try simp only[nb,an,aq,aa]at aB
   have WQ:g.length=0:=by omega
   have hc:=KI (d:=d) hk WQ
   have hgn:g= []:=List.length_eq_zero_iff.1 WQ
   refine W.cD X [] [(32,⟨true,[.agg [.lit (.int .i64 x.ak.rows), .vw 0 none .ay (EM x.ak x.round d)], .a (.lit (.bool (qV x.ak x.round d)))]⟩)] [1,6,7] [] rfl (by(repeat' with_reducible first|exact aj.nil|refine aj.mk ?_ ?_|apply And.intro)<;>first|exact(Cn x.ak x.round d hls.2.2.1 Z7)) ?_
   refine W.seq ?_
   refine W.s0 X [6,7,40,41,42] rfl ⟨⟩ ?_
   refine W.block ?_
   refine W.aE (fun k=>k≤g.length) (fun k:Nat=> [(42, .one (.a (.lit (.int .i64 k))))]) (fun k=> [(14, .arr .aO (gM x g k).1),(21, .arr .int (gM x g k).2)]) (fun k=>g.length-k) 0 (fun k=>rfl) (Nat.zero_le _) rfl ?_
   rintro k gS
   have nG:=zM (x:=x) gS
   have hU:=KH hok gS
   refine W.s0 X [6,7,40,41,42,43] rfl ⟨⟩ ?_
   refine W.seq ?_
   refine W.cond rfl (fun aM=> ?_) (fun aM=> ?_)
   ·try simp only[nb,an,aq,aa]at aM
    omega
   ·try simp only[nb,an,aq,aa]at aM
    rw[vM aM]
    refine W.exit ?_
    refine W.seq ?_
    refine W.s0 X [6,7,50,51,52] rfl ⟨⟩ ?_
    refine W.block ?_
    refine W.aE (fun k1=>k1≤x.ah.length) (fun k1:Nat=> [(52, .one (.a (.lit (.int .i64 k1))))]) (fun k1=> [(14, .arr .aO (Cl (sq x g).1 k1))]) (fun k1=>x.ah.length-k1) 0 (fun k1=>rfl) (Nat.zero_le _) (by rw[OC];rfl) ?_
    intro k1 hk1
    have B1:(Cl (sq x g).1 k1).length=x.ah.length:=by rw[C0 (by omega)];exact hcp.1
    refine W.s0 X [6,7,50,51,52,53] rfl ⟨⟩ ?_
    refine W.seq ?_
    refine W.cond rfl (fun gB=> ?_) (fun gB=> ?_)
    ·try simp only[nb,an,aq,aa]at gB
     have hgt:=CZ (l:=(sq x g).1) (k:=k1) (by omega)
     have WR:=qX hcU (k:=k1) (by omega)
     have FG:=zN (l:=(sq x g).1) (k:=k1) (by omega)
     refine W.skip ?_
     refine W.seq ?_
     refine W.block ?_
     refine W.s0 X [6,7,10,11,50,51,52] rfl (by and_intros<;>first|exact⟨⟩| (intros;omega)) ?_
     refine W.draw X [] [(61,⟨true,[.agg (bq (iI ((Cl (sq x g).1 k1).getD k1 (au .aO))))]⟩)] [6,7,50,51,52] [] 6 MO (by kernel_rfl) rfl (by(repeat' with_reducible first|exact aj.nil|refine aj.mk ?_ ?_|apply And.intro)<;>first|exact(pJ ((Cl (sq x g).1 k1).getD k1 (au .aO)) (by rw[hgt];exact WR.2))| (intros;omega)) ?_
     refine W.r0 X [6,7,50,51,52] rfl ⟨⟩ ?_
     refine⟨k1+1,by omega,by omega,?_⟩
     rw[aR _ k1 rfl (by omega), ←FG]
     try rfl
    ·try simp only[nb,an,aq,aa]at gB
     rw[C1 (by omega)]
     refine W.exit ?_
     refine W.s0 X [6,7] rfl ⟨⟩ ?_
     refine W.s0 X [6] rfl (by and_intros<;>exact⟨⟩) ?_
     refine W.ret ?_
     exact Fin.ret rfl (by and_intros<;>first|exact⟨⟩| (rw[hc];done))
  ·try simp only[nb,an,aq,aa]at aB
   have WQ: ¬g.length=0:=by omega
   have hc:=KJ (d:=d) hk WQ
   refine W.r0 X [1,6,7] rfl ⟨⟩ ?_
   refine W.seq ?_
   refine W.s0 X [6,7,40,41,42] rfl ⟨⟩ ?_
   refine W.block ?_
   refine W.aE (fun k=>k≤g.length) (fun k:Nat=> [(42, .one (.a (.lit (.int .i64 k))))]) (fun k=> [(14, .arr .aO (gM x g k).1),(21, .arr .int (gM x g k).2)]) (fun k=>g.length-k) 0 (fun k=>rfl) (Nat.zero_le _) rfl ?_
   rintro k gS
   have nG:=zM (x:=x) gS
   have hU:=KH hok gS
   refine W.s0 X [6,7,40,41,42,43] rfl ⟨⟩ ?_
   refine W.seq ?_
   refine W.cond rfl (fun aM=> ?_) (fun aM=> ?_)
   ·try simp only[nb,an,aq,aa]at aM
    have hst:=KG (x:=x) aM
    refine W.skip ?_
    refine W.seq ?_
    refine W.block ?_
    refine W.s0 X [6,7,9,40,41,42] rfl (by and_intros<;>first|exact⟨⟩| (intros;omega)) ?_
    refine W.cD X [] [(800047,⟨true,[]⟩),(700047,⟨true,[.agg [.ptr 1000 907, .ptr 11 14, .ptr 12 15, .ptr 13 17, .ptr 14 21], .agg [], .agg [.own 1000, .own 11, .own 12, .own 13, .own 14], .agg [.lit (.int .i64 (⟨x.rows,(gM x g k).1,x.af,x.ak,x.az,x.seed,x.round,(gM x g k).2,IntKind.i64.wrap (x.cancelled+1)⟩:aJ).rows), .own 11, .own 12, .lit (.int .i64 (⟨x.rows,(gM x g k).1,x.af,x.ak,x.az,x.seed,x.round,(gM x g k).2,IntKind.i64.wrap (x.cancelled+1)⟩:aJ).ak.rows), .own 13, .lit (.int .i64 (⟨x.rows,(gM x g k).1,x.af,x.ak,x.az,x.seed,x.round,(gM x g k).2,IntKind.i64.wrap (x.cancelled+1)⟩:aJ).az), .lit (.int .i64 (⟨x.rows,(gM x g k).1,x.af,x.ak,x.az,x.seed,x.round,(gM x g k).2,IntKind.i64.wrap (x.cancelled+1)⟩:aJ).seed), .lit (.int .i64 (⟨x.rows,(gM x g k).1,x.af,x.ak,x.az,x.seed,x.round,(gM x g k).2,IntKind.i64.wrap (x.cancelled+1)⟩:aJ).round), .own 14, .lit (.int .i64 (⟨x.rows,(gM x g k).1,x.af,x.ak,x.az,x.seed,x.round,(gM x g k).2,IntKind.i64.wrap (x.cancelled+1)⟩:aJ).cancelled)], .a (.sl .aO ((s9 (⟨x.rows,(gM x g k).1,x.af,x.ak,x.az,x.seed,x.round,(gM x g k).2,IntKind.i64.wrap (x.cancelled+1)⟩:aJ).rows x.round ((⟨x.rows,(gM x g k).1,x.af,x.ak,x.az,x.seed,x.round,(gM x g k).2,IntKind.i64.wrap (x.cancelled+1)⟩:aJ).ah,(⟨x.rows,(gM x g k).1,x.af,x.ak,x.az,x.seed,x.round,(gM x g k).2,IntKind.i64.wrap (x.cancelled+1)⟩:aJ).replaced) (g.getD k (au .int))).1)), .a (.sl .aL ((⟨x.rows,(gM x g k).1,x.af,x.ak,x.az,x.seed,x.round,(gM x g k).2,IntKind.i64.wrap (x.cancelled+1)⟩:aJ).af)), .a (.sl .ay ((⟨x.rows,(gM x g k).1,x.af,x.ak,x.az,x.seed,x.round,(gM x g k).2,IntKind.i64.wrap (x.cancelled+1)⟩:aJ).ak.rounds)), .a (.sl .int ((s9 (⟨x.rows,(gM x g k).1,x.af,x.ak,x.az,x.seed,x.round,(gM x g k).2,IntKind.i64.wrap (x.cancelled+1)⟩:aJ).rows x.round ((⟨x.rows,(gM x g k).1,x.af,x.ak,x.az,x.seed,x.round,(gM x g k).2,IntKind.i64.wrap (x.cancelled+1)⟩:aJ).ah,(⟨x.rows,(gM x g k).1,x.af,x.ak,x.az,x.seed,x.round,(gM x g k).2,IntKind.i64.wrap (x.cancelled+1)⟩:aJ).replaced) (g.getD k (au .int))).2))]⟩)] [6,7,40,41,42] [] rfl (by(repeat' with_reducible first|exact aj.nil|refine aj.mk ?_ ?_|apply And.intro)<;>first|exact(mE (⟨x.rows,(gM x g k).1,x.af,x.ak,x.az,x.seed,x.round,(gM x g k).2,IntKind.i64.wrap (x.cancelled+1)⟩:aJ) x.round (g.getD k (au .int)) (by show(gM x g k).1.length≤4;omega) Qa hU (by show(gM x g k).2.length≤_;omega))) ?_
    refine W.r0 X [6,7,40,41,42] rfl ⟨⟩ ?_
    refine⟨k+1,by omega,by omega,?_⟩
    rw[aR _ k rfl (by omega), ←hst]
    try rfl
   ·try simp only[nb,an,aq,aa]at aM
    rw[vM aM]
    refine W.exit ?_
    refine W.seq ?_
    refine W.s0 X [6,7,50,51,52] rfl ⟨⟩ ?_
    refine W.block ?_
    refine W.aE (fun k1=>k1≤x.ah.length) (fun k1:Nat=> [(52, .one (.a (.lit (.int .i64 k1))))]) (fun k1=> [(14, .arr .aO (Cl (sq x g).1 k1))]) (fun k1=>x.ah.length-k1) 0 (fun k1=>rfl) (Nat.zero_le _) (by rw[OC];rfl) ?_
    intro k1 hk1
    have B1:(Cl (sq x g).1 k1).length=x.ah.length:=by rw[C0 (by omega)];exact hcp.1
    refine W.s0 X [6,7,50,51,52,53] rfl ⟨⟩ ?_
    refine W.seq ?_
    refine W.cond rfl (fun gB=> ?_) (fun gB=> ?_)
    ·try simp only[nb,an,aq,aa]at gB
     have hgt:=CZ (l:=(sq x g).1) (k:=k1) (by omega)
     have WR:=qX hcU (k:=k1) (by omega)
     have FG:=zN (l:=(sq x g).1) (k:=k1) (by omega)
     refine W.skip ?_
     refine W.seq ?_
     refine W.block ?_
     refine W.s0 X [6,7,10,11,50,51,52] rfl (by and_intros<;>first|exact⟨⟩| (intros;omega)) ?_
     refine W.draw X [] [(61,⟨true,[.agg (bq (iI ((Cl (sq x g).1 k1).getD k1 (au .aO))))]⟩)] [6,7,50,51,52] [] 6 MO (by kernel_rfl) rfl (by(repeat' with_reducible first|exact aj.nil|refine aj.mk ?_ ?_|apply And.intro)<;>first|exact(pJ ((Cl (sq x g).1 k1).getD k1 (au .aO)) (by rw[hgt];exact WR.2))| (intros;omega)) ?_
     refine W.r0 X [6,7,50,51,52] rfl ⟨⟩ ?_
     refine⟨k1+1,by omega,by omega,?_⟩
     rw[aR _ k1 rfl (by omega), ←FG]
     try rfl
    ·try simp only[nb,an,aq,aa]at gB
     rw[C1 (by omega)]
     refine W.exit ?_
     refine W.s0 X [6,7] rfl ⟨⟩ ?_
     refine W.s0 X [6] rfl (by and_intros<;>exact⟨⟩) ?_
     refine W.ret ?_
     exact Fin.ret rfl (by and_intros<;>first|exact⟨⟩| (rw[hc];done))
end
section
set_option maxRecDepth 100000
theorem MU(x0:List UInt8)(UC:(fun l=> ∀x,x∈l→(fun _=>True) x) x0):Sound ty Tryz.prog 3 [.a (.sl .u8 x0)] [.a (.lit (.bool true))]:=by
 refine Sound.o X Tryz.call3 Tryz.func3 Tryz.ntmps3 rfl rfl ?_
 intro zb
 refine W.s0 X [0] rfl ⟨⟩ ?_
 refine W.seq ?_
 refine W.sr X [] [(18,⟨false,[.a (.lit (.bool (decide ((1048576:Int)<(x0.length:Int)))))]⟩)] [0,18] [] rfl (by(repeat' with_reducible first|exact aj.nil|refine aj.mk ?_ ?_|apply And.intro)<;>first|exact(O0 x0)) ?_
 refine W.cond rfl (fun hb0=> ?_) (fun hb0=> ?_)
 ·try simp only[nb,an,aq,aa]at hb0
  refine W.s0 X [2] rfl ⟨⟩ ?_
  refine W.ret ?_
  exact Fin.ret rfl ⟨rfl,⟨⟩⟩
 ·try simp only[nb,an,aq,aa]at hb0
  have hl:x0.length≤1048576:=by omega
  have hd:=OQ hl
  have hok:=hd.ok
  have Ly:=hd.B (by decide)
  have w:=yd.of hok
  have w1:=w.rows
  have w2:=w.KL
  have w3:=w.Qh
  have w4:=w.round
  have w5:=w.oA
  have w6:=hd.round
  have w7:=hd.oA
  obtain⟨Ar,hrl⟩:=aas hok
  have hrb:=acF hok
  refine W.skip ?_
  refine W.sr X [(20,20)] [(20,⟨true,[.agg (aG (aT x0))]⟩)] [3] [] rfl (by(repeat' with_reducible first|exact aj.nil|refine aj.mk ?_ ?_|apply And.intro)<;>first|exact(iW x0 hl)) ?_
  refine W.sr X [(23,150)] [(23,⟨true,[.a (.sl .aO (aN (aT x0))), .a (.sl .dP (dO (aT x0)))]⟩)] [3,4,5] [] rfl (by(repeat' with_reducible first|exact aj.nil|refine aj.mk ?_ ?_|apply And.intro)<;>first|exact(uR (aT x0) Ly)) ?_
  refine W.seq ?_
  refine W.s0 X [3,4,5,43] rfl ⟨⟩ ?_
  refine W.cond rfl (fun aB=> ?_) (fun aB=> ?_)
  ·try simp only[nb,an,aq,aa]at aB
   rcases aB with h|h<;>omega
  ·try simp only[nb,an,aq,aa]at aB
   skip
   refine W.skip ?_
   refine W.seq ?_
   refine W.s0 X [3,4,5,6] rfl ⟨⟩ ?_
   refine W.block ?_
   refine W.aE (fun k=>k≤(aT x0).af.length) (fun k:Nat=> [(6, .one (.a (.lit (.int .i64 k))))]) (fun k=> []) (fun k=>(aT x0).af.length-k) 0 (fun k=>rfl) (Nat.zero_le _) rfl ?_
   intro k hk
   refine W.seq ?_
   refine W.s0 X [3,4,5,6,48] rfl ⟨⟩ ?_
   refine W.cond rfl (fun aM=> ?_) (fun aM=> ?_)
   ·try simp only[nb,an,aq,aa]at aM
    have hwl:=acG hok aM
    refine W.skip ?_
    refine W.seq ?_
    refine W.block ?_
    refine W.sr X [] [(53,⟨false,[.a (.sl .DB (cO (aT x0) (k:Int)))]⟩)] [3,4,5,6,7] [] rfl (by(repeat' with_reducible first|exact aj.nil|refine aj.mk ?_ ?_|apply And.intro)<;>first|exact(gL (aT x0) (k:Int) (by omega))) ?_
    refine W.seq ?_
    refine W.s0 X [3,4,5,6,7,58] rfl ⟨⟩ ?_
    refine W.cond rfl (fun gB=> ?_) (fun gB=> ?_)
    ·try simp only[nb,an,aq,aa]at gB
     omega
    ·try simp only[nb,an,aq,aa]at gB
     refine W.skip ?_
     refine W.s0 X [3,4,5,6,7,8] rfl ⟨⟩ ?_
     refine W.block ?_
     refine W.aE (fun k1=>k1≤(aN (aT x0)).length) (fun k1:Nat=> [(8, .one (.a (.lit (.int .i64 k1))))]) (fun k1=> []) (fun k1=>(aN (aT x0)).length-k1) 0 (fun k1=>rfl) (Nat.zero_le _) rfl ?_
     intro k1 hk1
     refine W.seq ?_
     refine W.s0 X [3,4,5,6,7,8,62] rfl ⟨⟩ ?_
     refine W.cond rfl (fun rz=> ?_) (fun rz=> ?_)
     ·try simp only[nb,an,aq,aa]at rz
      have hh:=Xk hok (i:=k1) (a:=k) (by omega) aM
      have WR:=EL hok _ (getD_in (au .aO) rz)
      refine W.skip ?_
      refine W.seq ?_
      refine W.block ?_
      refine W.sr X [] [(71,⟨false,[.agg (aF (pV ((aN (aT x0)).getD k1 (au .aO)).received (k:Int))), .a (.lit (.bool (jv ((aN (aT x0)).getD k1 (au .aO)).received (k:Int))))]⟩)] [3,4,5,6,7,8,9,10] [] rfl (by(repeat' with_reducible first|exact aj.nil|refine aj.mk ?_ ?_|apply And.intro)<;>first|exact(uP ((aN (aT x0)).getD k1 (au .aO)) (k:Int) WR)| (intros;omega)) ?_
      refine W.sd X [] [(82,⟨false,[.a (.lit (.bool ((pV ((aN (aT x0)).getD k1 (au .aO)).received (k:Int)).rows==((cO (aT x0) (k:Int)).getD k1 (au .DB)).rows)))]⟩)] [3,4,5,6,7,8,84] [] 11 MO (by kernel_rfl) rfl (by(repeat' with_reducible first|exact aj.nil|refine aj.mk ?_ ?_|apply And.intro)<;>first|exact fun _=>(gU (pV ((aN (aT x0)).getD k1 (au .aO)).received (k:Int)) ((cO (aT x0) (k:Int)).getD k1 (au .DB)))| ((intro h1;first| (intro h2;first| (intro h3;refine And.intro ?_ ?_)|refine And.intro ?_ ?_)|refine And.intro ?_ ?_)<;>first|omega| ((try simp only[nb,an,aq]at*);(try simp(disch:=omega) only[bl]);omega))) ?_
      refine W.cond rfl (fun E7=> ?_) (fun E7=> ?_)
      ·try simp only[nb,an,aq,aa]at E7
       exfalso
       simp[-List.getD_eq_getElem?_getD,hh.1,hh.2]at E7
      ·skip
       refine W.skip ?_
       refine W.r0 X [3,4,5,6,7,8] rfl ⟨⟩ ?_
       refine⟨k1+1,by omega,by omega,?_⟩
       rw[aR _ k1 rfl (by omega)]
       try rfl
     ·try simp only[nb,an,aq,aa]at rz
      refine W.exit ?_
      refine W.r0 X [3,4,5,6] rfl ⟨⟩ ?_
      refine⟨k+1,by omega,by omega,?_⟩
      rw[aR _ k rfl (by omega)]
      try rfl
   ·try simp only[nb,an,aq,aa]at aM
    refine W.exit ?_
    refine W.seq ?_
    refine W.s0 X [3,4,5,11] rfl ⟨⟩ ?_
    refine W.block ?_
    refine W.aE (fun k2=>k2≤(dO (aT x0)).length) (fun k2:Nat=> [(11, .one (.a (.lit (.int .i64 k2))))]) (fun k2=> []) (fun k2=>(dO (aT x0)).length-k2) 0 (fun k2=>rfl) (Nat.zero_le _) rfl ?_
    intro k2 hk2
    refine W.seq ?_
    refine W.s0 X [3,4,5,11,88] rfl ⟨⟩ ?_
    refine W.cond rfl (fun C5=> ?_) (fun C5=> ?_)
    ·try simp only[nb,an,aq,aa]at C5
     have hrc:=acH (x:=(aT x0)) C5
     refine W.skip ?_
     refine W.seq ?_
     refine W.block ?_
     refine W.sd X [] [(98,⟨false,[.a (.lit (.int .i64 (fU ((aT x0).az) (((dO (aT x0)).getD k2 (au .dP)).server))))]⟩),(103,⟨false,[.a (.lit (.bool (Kp (fU (aT x0).az ((dO (aT x0)).getD k2 (au .dP)).server) ((dO (aT x0)).getD k2 (au .dP)))))]⟩)] [3,4,5,11,114] [] 24 MO (by kernel_rfl) rfl (by(repeat' with_reducible first|exact aj.nil|refine aj.mk ?_ ?_|apply And.intro);(iterate 2 all_goals try first|exact(gu ((aT x0).az) (((dO (aT x0)).getD k2 (au .dP)).server))|exact(mC (fU (aT x0).az ((dO (aT x0)).getD k2 (au .dP)).server) ((dO (aT x0)).getD k2 (au .dP))));all_goals first| (intros;omega)| ((intro h1;first| (intro h2;first| (intro h3;refine And.intro ?_ ?_)|refine And.intro ?_ ?_)|refine And.intro ?_ ?_)<;>first|omega| ((try simp only[nb,an,aq]at*);(try simp(disch:=omega) only[bl]);omega))| (refine fun _=> ?_;dsimp only[hyps,G8];omega)) ?_
     refine W.cond rfl (fun IC=> ?_) (fun IC=> ?_)
     ·try simp only[nb,an,aq,aa]at IC
      exfalso
      simp[-List.getD_eq_getElem?_getD,hrc.1,hrc.2]at IC
     ·skip
      refine W.skip ?_
      refine W.r0 X [3,4,5,11] rfl ⟨⟩ ?_
      refine⟨k2+1,by omega,by omega,?_⟩
      rw[aR _ k2 rfl (by omega)]
      try rfl
    ·try simp only[nb,an,aq,aa]at C5
     refine W.exit ?_
     refine W.sr X [] [(116,⟨false,[.a (.sl .DB (bH (aN (aT x0))))]⟩)] [3,12] [] rfl (by(repeat' with_reducible first|exact aj.nil|refine aj.mk ?_ ?_|apply And.intro)<;>first|exact(zL (aN (aT x0)) (by omega))) ?_
     refine W.sr X [] [(119,⟨false,[.agg (aF (jw (bH (aN (aT x0))))), .a (.lit (.bool (zy (bH (aN (aT x0))))))]⟩)] [3,13,14] [] rfl (by(repeat' with_reducible first|exact aj.nil|refine aj.mk ?_ ?_|apply And.intro)<;>first|exact(mD (bH (aN (aT x0))) (by rw[show(bH (aN (aT x0))).length=(aN (aT x0)).length from List.length_map ..];omega) (kR _))) ?_
     refine W.sr X [(125,40)] [(125,⟨true,[.agg [.lit (.int .i64 (aQ (aT x0) [] (jw (bH (aN (aT x0))))).rows), .sl .aO (aQ (aT x0) [] (jw (bH (aN (aT x0))))).ah, .sl .aL (aQ (aT x0) [] (jw (bH (aN (aT x0))))).af, .lit (.int .i64 (aQ (aT x0) [] (jw (bH (aN (aT x0))))).ak.rows), .vw 0 none .ay (aQ (aT x0) [] (jw (bH (aN (aT x0))))).ak.rounds, .lit (.int .i64 (aQ (aT x0) [] (jw (bH (aN (aT x0))))).az), .lit (.int .i64 (aQ (aT x0) [] (jw (bH (aN (aT x0))))).seed), .lit (.int .i64 (aQ (aT x0) [] (jw (bH (aN (aT x0))))).round), .sl .int (aQ (aT x0) [] (jw (bH (aN (aT x0))))).replaced, .lit (.int .i64 (aQ (aT x0) [] (jw (bH (aN (aT x0))))).cancelled)]]⟩)] [3,13,14,15] [] rfl (by(repeat' with_reducible first|exact aj.nil|refine aj.mk ?_ ?_|apply And.intro)<;>first|exact(pL (aT x0) [] (jw (bH (aN (aT x0)))) Ly (by decide) (cZ (BO _ (kR _))))|exact⟨rfl,bA _ (by decide)⟩) ?_
     refine W.sr X [(129,60)] [(129,⟨true,[.agg [.lit (.int .i64 (aQ (aT x0) [0] (jw (bH (aN (aT x0))))).rows), .sl .aO (aQ (aT x0) [0] (jw (bH (aN (aT x0))))).ah, .sl .aL (aQ (aT x0) [0] (jw (bH (aN (aT x0))))).af, .lit (.int .i64 (aQ (aT x0) [0] (jw (bH (aN (aT x0))))).ak.rows), .vw 0 none .ay (aQ (aT x0) [0] (jw (bH (aN (aT x0))))).ak.rounds, .lit (.int .i64 (aQ (aT x0) [0] (jw (bH (aN (aT x0))))).az), .lit (.int .i64 (aQ (aT x0) [0] (jw (bH (aN (aT x0))))).seed), .lit (.int .i64 (aQ (aT x0) [0] (jw (bH (aN (aT x0))))).round), .sl .int (aQ (aT x0) [0] (jw (bH (aN (aT x0))))).replaced, .lit (.int .i64 (aQ (aT x0) [0] (jw (bH (aN (aT x0))))).cancelled)]]⟩)] [3,14,15,16] [] rfl (by(repeat' with_reducible first|exact aj.nil|refine aj.mk ?_ ?_|apply And.intro)<;>first|exact(pL (aT x0) [0] (jw (bH (aN (aT x0)))) Ly (by decide) (cZ (BO _ (kR _))))|exact⟨rfl,bA _ (by decide)⟩) ?_
     refine W.seq ?_
     have hj:=E2 hok
     obtain⟨p1,p2,p3,p4⟩:=W5 hok (by omega) (by omega) (BO _ (kR (aN (aT x0)))) hj.2
     obtain⟨q1,q2,q3,q4,q5⟩:=W6 (d:=(jw (bH (aN (aT x0))))) hok (by omega) (by omega)
     have z1:IntKind.i64.wrap ((aT x0).round+1)=(aT x0).round+1:=bl (by omega)
     have z2:IntKind.i64.wrap ((aT x0).cancelled+1)=(aT x0).cancelled+1:=bl (by omega)
     have z3:IntKind.i64.wrap (((aT x0).replaced.length:Int)+1)=((aT x0).replaced.length:Int)+1:=bl (by have:=hd.KO;omega)
     refine W.draw X [] [(141,⟨false,[.a (.lit (.bool (okW (aQ (aT x0) [] (jw (bH (aN (aT x0))))))))]⟩),(146,⟨false,[.a (.lit (.int .i64 (bR ((aQ (aT x0) [] (jw (bH (aN (aT x0))))).ak))))]⟩),(160,⟨false,[.a (.lit (.bool (okW (aQ (aT x0) [0] (jw (bH (aN (aT x0))))))))]⟩)] [2] [] 59 MO (by kernel_rfl) rfl (by(repeat' with_reducible first|exact aj.nil|refine aj.mk ?_ ?_|apply And.intro);(iterate 3 all_goals try first|exact fun _=>(bw (aQ (aT x0) [] (jw (bH (aN (aT x0))))))|exact fun _=>(gj ((aQ (aT x0) [] (jw (bH (aN (aT x0))))).ak))|exact fun _=>(bw (aQ (aT x0) [0] (jw (bH (aN (aT x0)))))));all_goals first| ((intro h1;first| (intro h2;first| (intro h3;refine And.intro ?_ ?_)|refine And.intro ?_ ?_)|refine And.intro ?_ ?_)<;>first|omega| ((try simp only[nb,an,aq]at*);(try simp(disch:=omega) only[bl]);omega))| (refine fun _=> ?_;dsimp only[hyps,G8];omega)) ?_
     refine W.ret ?_
     exact Fin.ret rfl ⟨by simp[-List.getD_eq_getElem?_getD,hj.1,p1,p2,p3,p4,q1,q2,q3,q4,z1,z2,z3],⟨⟩⟩
end
end Go.Proofs.YteodajeiagmekaaGreat.G
