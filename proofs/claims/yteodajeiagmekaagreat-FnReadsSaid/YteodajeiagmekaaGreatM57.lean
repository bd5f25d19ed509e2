/-
  Equality: whatever is compared with itself.
-/
import Derived.Test.YteodajeiagmekaaGreatM55
import Derived.Test.YteodajeiagmekaaGreatM56
namespace Go.Proofs.YteodajeiagmekaaGreat.G
set_option linter.all false
open Go.RowKit L D
section
set_option maxRecDepth 100000
theorem wj(key:Int)(a:bQ)(h1:a.selection.length≤262144)(h2:a.data.length≤262144):Sound ty Tryz.prog 250 [.a (.lit (.int .i64 key)), .agg (dJ a)] [.a (.lit (.bool (Qe key a)))]:=by
 refine Sound.o X Tryz.call250 Tryz.func250 Tryz.ntmps250 rfl rfl ?_
 intro zb
 refine W.s0 X [0,3] rfl ⟨⟩ ?_
 refine W.sd X [] [(9,⟨false,[.a (.lit (.int .i64 (A0 key a.server a.round a.selection a.data)))]⟩)] [4] [] 7 MO (by kernel_rfl) rfl (by(repeat' with_reducible first|exact aj.nil|refine aj.mk ?_ ?_|apply And.intro)<;>first|exact(qS key a h1 h2)) ?_
 refine W.ret ?_
 exact Fin.ret rfl ⟨rfl,⟨⟩⟩
theorem uT(key:Int)(d:DB)(a:bQ)(h1:a.selection.length≤262144)(h2:a.data.length≤262144):Sound ty Tryz.prog 123 [.a (.lit (.int .i64 key)), .agg (aF d), .agg (dJ a)] [.a (.lit (.bool (X6 key d a)))]:=by
 refine Sound.o X Tryz.call123 Tryz.func123 Tryz.ntmps123 rfl rfl ?_
 intro zb
 refine W.s0 X [0,4,5] rfl ⟨⟩ ?_
 refine W.sd X [] [(9,⟨false,[.a (.lit (.bool (Qe key a)))]⟩),(16,⟨false,[.a (.sl .u8 (dM d a.selection))]⟩),(17,⟨false,[.a (.lit (.bool (a.data==(dM d a.selection))))]⟩)] [6] [] 14 MO (by kernel_rfl) rfl (by(repeat' with_reducible first|exact aj.nil|refine aj.mk ?_ ?_|apply And.intro);(iterate 3 all_goals try first|exact(wj key a h1 h2)|exact fun _=>(ou d a.selection)|exact fun _=>(kC a.data (dM d a.selection)))) ?_
 refine W.ret ?_
 exact Fin.ret rfl ⟨(congrArg Value.bool (by simp only[X6,aH]<;>first|rfl|ac_rfl)),⟨⟩⟩
end
section
set_option maxRecDepth 100000
theorem xI(x:aJ)(h0:wB x):Sound ty Tryz.prog 26 [.agg (aG x)] [.agg (aG (testW x))]:=by
 refine Sound.o X Tryz.call26 Tryz.func26 Tryz.ntmps26 rfl rfl ?_
 intro zb
 have hls:bX bp x.ah≤1048576∧bX aP x.af≤1048576∧cB x.ak≤1048576∧x.replaced.length≤4194304:=h0
 have FG:=TZ h0
 refine W.s0 X [1,2] rfl ⟨⟩ ?_
 refine W.sr X [(3,903)] [(13,⟨true,[.agg (aG x)]⟩)] [1,2,3] [] rfl (by(repeat' with_reducible first|exact aj.nil|refine aj.mk ?_ ?_|apply And.intro)<;>first|exact(lQ x h0)) ?_
 refine W.sr X [] [(16,⟨false,[.a (.lit (.int .i64 (bR x.ak)))]⟩)] [1,2,3,4] [] rfl (by(repeat' with_reducible first|exact aj.nil|refine aj.mk ?_ ?_|apply And.intro)<;>first|exact(lD x.ak)) ?_
 refine W.sr X [(21,80)] [(21,⟨true,[.agg (aF (dn x.ak.rounds (bR x.ak))), .a (.lit (.bool (gw x.ak.rounds (bR x.ak))))]⟩)] [1,2,3,4,5,6] [] rfl (by(repeat' with_reducible first|exact aj.nil|refine aj.mk ?_ ?_|apply And.intro)<;>first|exact(jX x.ak (bR x.ak) FG)) ?_
 refine W.seq ?_
 refine W.sr X [] [(25,⟨false,[.a (.lit (.bool (okW x)))]⟩)] [1,2,3,4,5,30] [] rfl (by(repeat' with_reducible first|exact aj.nil|refine aj.mk ?_ ?_|apply And.intro)<;>first|exact(bw x)) ?_
 refine W.cond rfl (fun hb0=> ?_) (fun hb0=> ?_)
 ·have hk:uO x=false:=bK hb0 (by simp only[uO,aH]<;>first|rfl|ac_rfl)
  have hc:=EX hk
  refine W.s0 X [2] rfl (by and_intros<;>exact⟨⟩) ?_
  refine W.ret ?_
  exact Fin.ret rfl (by and_intros<;>first|exact⟨⟩| (rw[hc];done))
 ·have hk:uO x=true:=bG hb0 (by simp only[uO,aH]<;>first|rfl|ac_rfl)
  have hc:=Be hk
  have hkk:=hk
  rw[uO,Bool.and_eq_true]at hkk
  obtain⟨hok,hah⟩:=hkk
  have oK:=cN hok
  have Qa:=(lK hok).1
  refine W.skip ?_
  refine W.seq ?_
  refine W.s0 X [1,2,3,4,5,33,34,35] rfl ⟨⟩ ?_
  refine W.block ?_
  refine W.aE (fun k=>k≤x.ah.length) (fun k:Nat=> [(35, .one (.a (.lit (.int .i64 k))))]) (fun k=> [(14, .arr .aO (fW x k).1),(21, .arr .int (fW x k).2)]) (fun k=>x.ah.length-k) 0 (fun k=>rfl) (Nat.zero_le _) rfl ?_
  rintro k gS
  have htb:=KK hok k gS
  refine W.s0 X [1,2,3,4,5,33,34,35,36] rfl ⟨⟩ ?_
  refine W.seq ?_
  refine W.cond rfl (fun aB=> ?_) (fun aB=> ?_)
  ·try simp only[nb,an,aq,aa]at aB
   have hrl:=iz (kh x.seed [227,x.round,(k:Int)]) x.rows
   have hab:=X5 (x.ah.getD k (au .aO)) (fU x.az (k:Int)) (bR x.ak) (dn x.ak.rounds (bR x.ak)) (v:=(bg (kh x.seed [227,x.round,(k:Int)]) x.rows)) (by omega)
   have X9:=TY hok hah (kh x.seed [227,x.round,(k:Int)])
   refine W.skip ?_
   refine W.seq ?_
   refine W.block ?_
   refine W.s0 X [1,2,3,4,5,7,8,33,34,35] rfl (by and_intros<;>first|exact⟨⟩| (intros;omega)) ?_
   refine W.sr X [] [(43,⟨false,[.a (.lit (.int .i64 (fU x.az (k:Int))))]⟩)] [1,2,3,4,5,7,8,9,33,34,35] [] rfl (by(repeat' with_reducible first|exact aj.nil|refine aj.mk ?_ ?_|apply And.intro)<;>first|exact(lM x.az (k:Int))) ?_
   refine W.seq ?_
   refine W.fZ X [] [(55,⟨false,[.a (.lit (.int .i64 (kh x.seed [227,x.round,(k:Int)])))]⟩),(58,⟨true,[.a (.sl .int (bg (kh x.seed [227,x.round,(k:Int)]) x.rows))]⟩),(59,⟨true,[.agg (dJ (Fo (x.ah.getD k (au .aO)) (fU x.az (k:Int)) (bR x.ak) (dn x.ak.rounds (bR x.ak)) (bg (kh x.seed [227,x.round,(k:Int)]) x.rows))), .a (.lit (.bool (iV (dn x.ak.rounds (bR x.ak)) (bg (kh x.seed [227,x.round,(k:Int)]) x.rows))))]⟩)] [1,2,3,4,5,7,9,10,33,34,35] [] 1572863 (.ph 524287 (.br 524287 19 (.last 1048576) (.br 393215 19 (.last 1179648) (.nil)))) 1 MO (by kernel_rfl) rfl (by kernel_rfl) (by(repeat' with_reducible first|exact aj.nil|refine aj.mk ?_ ?_|apply And.intro);(iterate 3 all_goals try first|exact(bC x.seed [227,x.round,(k:Int)] (by first|assumption|omega| (simp;done)| (simp;omega)))|exact(kJ (kh x.seed [227,x.round,(k:Int)]) x.rows)|exact(sP (x.ah.getD k (au .aO)) (fU x.az (k:Int)) (bR x.ak) (dn x.ak.rounds (bR x.ak)) (bg (kh x.seed [227,x.round,(k:Int)]) x.rows) (by omega)));all_goals first|exact⟨rfl,bA _ (by decide)⟩) ?_
   refine W.sr X [] [(65,⟨false,[.a (.lit (.bool (X6 (fU x.az (k:Int)) (dn x.ak.rounds (bR x.ak)) (Z0 x k))))]⟩)] [1,2,3,4,5,7,33,34,35,65] [] rfl (by(repeat' with_reducible first|exact aj.nil|refine aj.mk ?_ ?_|apply And.intro)<;>first|exact(uT (fU x.az (k:Int)) (dn x.ak.rounds (bR x.ak)) (Z0 x k) hab.1 hab.2)) ?_
   refine W.cond rfl (fun aM=> ?_) (fun aM=> ?_)
   ·have hst:=Io (x:=x) (n:=k) aM
    refine W.cD X [] [(800067,⟨true,[]⟩),(700067,⟨true,[.agg [.ptr 1000 903, .ptr 11 14, .ptr 12 15, .ptr 13 17, .ptr 14 21], .agg [], .agg [.own 1000, .own 11, .own 12, .own 13, .own 14], .agg [.lit (.int .i64 (⟨x.rows,(fW x k).1,x.af,x.ak,x.az,x.seed,x.round,(fW x k).2,x.cancelled⟩:aJ).rows), .own 11, .own 12, .lit (.int .i64 (⟨x.rows,(fW x k).1,x.af,x.ak,x.az,x.seed,x.round,(fW x k).2,x.cancelled⟩:aJ).ak.rows), .own 13, .lit (.int .i64 (⟨x.rows,(fW x k).1,x.af,x.ak,x.az,x.seed,x.round,(fW x k).2,x.cancelled⟩:aJ).az), .lit (.int .i64 (⟨x.rows,(fW x k).1,x.af,x.ak,x.az,x.seed,x.round,(fW x k).2,x.cancelled⟩:aJ).seed), .lit (.int .i64 (⟨x.rows,(fW x k).1,x.af,x.ak,x.az,x.seed,x.round,(fW x k).2,x.cancelled⟩:aJ).round), .own 14, .lit (.int .i64 (⟨x.rows,(fW x k).1,x.af,x.ak,x.az,x.seed,x.round,(fW x k).2,x.cancelled⟩:aJ).cancelled)], .a (.sl .aO ((s9 (⟨x.rows,(fW x k).1,x.af,x.ak,x.az,x.seed,x.round,(fW x k).2,x.cancelled⟩:aJ).rows x.round ((⟨x.rows,(fW x k).1,x.af,x.ak,x.az,x.seed,x.round,(fW x k).2,x.cancelled⟩:aJ).ah,(⟨x.rows,(fW x k).1,x.af,x.ak,x.az,x.seed,x.round,(fW x k).2,x.cancelled⟩:aJ).replaced) (k:Int)).1)), .a (.sl .aL ((⟨x.rows,(fW x k).1,x.af,x.ak,x.az,x.seed,x.round,(fW x k).2,x.cancelled⟩:aJ).af)), .a (.sl .ay ((⟨x.rows,(fW x k).1,x.af,x.ak,x.az,x.seed,x.round,(fW x k).2,x.cancelled⟩:aJ).ak.rounds)), .a (.sl .int ((s9 (⟨x.rows,(fW x k).1,x.af,x.ak,x.az,x.seed,x.round,(fW x k).2,x.cancelled⟩:aJ).rows x.round ((⟨x.rows,(fW x k).1,x.af,x.ak,x.az,x.seed,x.round,(fW x k).2,x.cancelled⟩:aJ).ah,(⟨x.rows,(fW x k).1,x.af,x.ak,x.az,x.seed,x.round,(fW x k).2,x.cancelled⟩:aJ).replaced) (k:Int)).2))]⟩)] [1,2,3,4,5,33,34,35] [] rfl (by(repeat' with_reducible first|exact aj.nil|refine aj.mk ?_ ?_|apply And.intro)<;>first|exact(mE (⟨x.rows,(fW x k).1,x.af,x.ak,x.az,x.seed,x.round,(fW x k).2,x.cancelled⟩:aJ) x.round (k:Int) (by show(fW x k).1.length≤4;omega) Qa htb.1 (by show(fW x k).2.length≤_;omega))) ?_
    refine W.r0 X [1,2,3,4,5,33,34,35] rfl ⟨⟩ ?_
    refine⟨k+1,by omega,by omega,?_⟩
    rw[aR _ k rfl (by omega), ←hst]
    try rfl
   ·have hst:=ET (x:=x) (n:=k) aM
    refine W.skip ?_
    refine W.r0 X [1,2,3,4,5,33,34,35] rfl ⟨⟩ ?_
    refine⟨k+1,by omega,by omega,?_⟩
    rw[aR _ k rfl (by omega),hst]
    try rfl
  ·try simp only[nb,an,aq,aa]at aB
   refine W.exit ?_
   refine W.s0 X [2] rfl (by and_intros<;>exact⟨⟩) ?_
   refine W.ret ?_
   exact Fin.ret rfl (by and_intros<;>first|exact⟨⟩| (rw[hc];done)| (rw[hc,show k=x.ah.length by omega];done))
end
section
set_option maxRecDepth 100000
theorem sA(l:List Int):Sound ty Tryz.prog 129 [.a (.sl .int l), .a (.sl .int l)] [.a (.lit (.bool true))]:=by
 refine Sound.o X Tryz.call129 Tryz.func129 Tryz.ntmps129 rfl rfl ?_
 intro zb
 refine W.bound 0 rfl (fun hla=> ?_)
 refine W.s0 X [0,1] rfl ⟨⟩ ?_
 refine W.seq ?_
 refine W.s0 X [0,1,10] rfl ⟨⟩ ?_
 refine W.cond rfl (fun hb0=> ?_) (fun hb0=> ?_)
 ·try simp only[nb,an,aq,aa]at hb0
  first| (exfalso;simp at hb0;done)|omega
 ·try simp only[nb,an,aq,aa]at hb0
  skip
  refine W.skip ?_
  refine W.seq ?_
  refine W.s0 X [0,1,12,13] rfl ⟨⟩ ?_
  refine W.block ?_
  refine W.aE (fun k=>k≤l.length) (fun k:Nat=> [(13, .one (.a (.lit (.int .i64 k))))]) (fun k=> []) (fun k=>l.length-k) 0 (fun k=>rfl) (Nat.zero_le _) rfl ?_
  intro k hk
  refine W.s0 X [0,1,12,13,14] rfl ⟨⟩ ?_
  refine W.seq ?_
  refine W.cond rfl (fun aB=> ?_) (fun aB=> ?_)
  ·try simp only[nb,an,aq,aa]at aB
   refine W.skip ?_
   refine W.seq ?_
   refine W.block ?_
   refine W.s0 X [0,1,5,12,13] rfl ⟨⟩ ?_
   refine W.sd X [] [] [0,1,12,13,24] [] 9 MO (by kernel_rfl) rfl (by and_intros<;>first|exact⟨⟩| (intros;omega)) ?_
   refine W.cond rfl (fun aM=> ?_) (fun aM=> ?_)
   ·try simp only[nb,an,aq,aa]at aM
    all_goals simp at aM
   ·try simp only[nb,an,aq,aa]at aM
    skip
    refine W.skip ?_
    refine W.r0 X [0,1,12,13] rfl ⟨⟩ ?_
    refine⟨k+1,by omega,by omega,?_⟩
    rw[aR _ k rfl (by omega)]
    try rfl
  ·try simp only[nb,an,aq,aa]at aB
   refine W.exit ?_
   refine W.s0 X [4] rfl ⟨⟩ ?_
   refine W.ret ?_
   exact Fin.ret rfl ⟨rfl,⟨⟩⟩
theorem tu(a:aA):Sound ty Tryz.prog 253 [.agg (dI a), .agg (dI a)] [.a (.lit (.bool true))]:=by
 refine Sound.o X Tryz.call253 Tryz.func253 Tryz.ntmps253 rfl rfl ?_
 intro zb
 refine W.s0 X [2,3] rfl ⟨⟩ ?_
 refine W.sr X [] [(15,⟨false,[.a (.lit (.bool (a.share.rows==a.share.rows)))]⟩)] [4] [] rfl (by(repeat' with_reducible first|exact aj.nil|refine aj.mk ?_ ?_|apply And.intro)<;>first|exact fun _=>(gV a.share a.share)) ?_
 refine W.ret ?_
 exact Fin.ret rfl ⟨by simp,⟨⟩⟩
theorem sB(a:ay):Sound ty Tryz.prog 256 [.agg (dW a), .agg (dW a)] [.a (.lit (.bool true))]:=by
 refine Sound.o X Tryz.call256 Tryz.func256 Tryz.ntmps256 rfl rfl ?_
 intro zb
 refine W.s0 X [2,3] rfl ⟨⟩ ?_
 refine W.sr X [] [(15,⟨false,[.a (.lit (.bool (a.db.rows==a.db.rows)))]⟩)] [4] [] rfl (by(repeat' with_reducible first|exact aj.nil|refine aj.mk ?_ ?_|apply And.intro)<;>first|exact fun _=>(gV a.db a.db)) ?_
 refine W.ret ?_
 exact Fin.ret rfl ⟨by simp,⟨⟩⟩
theorem b9(l:List aA)(f:FuncId)(hf: ∀p,Sound ty Tryz.prog f [.agg (dI p), .agg (dI p)] [.a (.lit (.bool true))]):Sound ty Tryz.prog 252 [.a (.sl .aA l), .a (.sl .aA l), .a (.lit (.func (.func f) #[] #[]))] [.a (.lit (.bool true))]:=by
 refine Sound.o X Tryz.call252 Tryz.func252 Tryz.ntmps252 rfl rfl ?_
 intro zb
 refine W.bound 0 rfl (fun hla=> ?_)
 refine W.s0 X [0,1,2] rfl ⟨⟩ ?_
 refine W.seq ?_
 refine W.s0 X [0,1,2,14] rfl ⟨⟩ ?_
 refine W.cond rfl (fun hb0=> ?_) (fun hb0=> ?_)
 ·try simp only[nb,an,aq,aa]at hb0
  first| (exfalso;simp at hb0;done)|omega
 ·try simp only[nb,an,aq,aa]at hb0
  skip
  refine W.skip ?_
  refine W.seq ?_
  refine W.s0 X [1,2,15,16,17] rfl ⟨⟩ ?_
  refine W.block ?_
  refine W.aE (fun k=>k≤l.length) (fun k:Nat=> [(17, .one (.a (.lit (.int .i64 k))))]) (fun k=> []) (fun k=>l.length-k) 0 (fun k=>rfl) (Nat.zero_le _) rfl ?_
  intro k hk
  refine W.s0 X [1,2,15,16,17,18] rfl ⟨⟩ ?_
  refine W.seq ?_
  refine W.cond rfl (fun aB=> ?_) (fun aB=> ?_)
  ·try simp only[nb,an,aq,aa]at aB
   refine W.skip ?_
   refine W.seq ?_
   refine W.block ?_
   refine W.s0 X [1,2,7,8,15,16,17] rfl (by and_intros<;>first|exact⟨⟩| (intros;omega)) ?_
   refine W.s0 X [1,2,8,9,15,16,17] rfl (by and_intros<;>first|exact⟨⟩| (intros;omega)) ?_
   refine W.sr X [] [(29,⟨false,[.a (.lit (.bool true))]⟩)] [1,2,15,16,17,30] [] rfl (by(repeat' with_reducible first|exact aj.nil|refine aj.mk ?_ ?_|apply And.intro)<;>first|exact(hf _)) ?_
   refine W.cond rfl (fun aM=> ?_) (fun aM=> ?_)
   ·try simp only[nb,an,aq,aa]at aM
    all_goals simp at aM
   ·try simp only[nb,an,aq,aa]at aM
    skip
    refine W.skip ?_
    refine W.r0 X [1,2,15,16,17] rfl ⟨⟩ ?_
    refine⟨k+1,by omega,by omega,?_⟩
    rw[aR _ k rfl (by omega)]
    try rfl
  ·try simp only[nb,an,aq,aa]at aB
   refine W.exit ?_
   refine W.s0 X [6] rfl ⟨⟩ ?_
   refine W.ret ?_
   exact Fin.ret rfl ⟨rfl,⟨⟩⟩
theorem cg(l:List ay)(f:FuncId)(hf: ∀p,Sound ty Tryz.prog f [.agg (dW p), .agg (dW p)] [.a (.lit (.bool true))]):Sound ty Tryz.prog 255 [.a (.sl .ay l), .a (.sl .ay l), .a (.lit (.func (.func f) #[] #[]))] [.a (.lit (.bool true))]:=by
 refine Sound.o X Tryz.call255 Tryz.func255 Tryz.ntmps255 rfl rfl ?_
 intro zb
 refine W.bound 0 rfl (fun hla=> ?_)
 refine W.s0 X [0,1,2] rfl ⟨⟩ ?_
 refine W.seq ?_
 refine W.s0 X [0,1,2,14] rfl ⟨⟩ ?_
 refine W.cond rfl (fun hb0=> ?_) (fun hb0=> ?_)
 ·try simp only[nb,an,aq,aa]at hb0
  first| (exfalso;simp at hb0;done)|omega
 ·try simp only[nb,an,aq,aa]at hb0
  skip
  refine W.skip ?_
  refine W.seq ?_
  refine W.s0 X [1,2,15,16,17] rfl ⟨⟩ ?_
  refine W.block ?_
  refine W.aE (fun k=>k≤l.length) (fun k:Nat=> [(17, .one (.a (.lit (.int .i64 k))))]) (fun k=> []) (fun k=>l.length-k) 0 (fun k=>rfl) (Nat.zero_le _) rfl ?_
  intro k hk
  refine W.s0 X [1,2,15,16,17,18] rfl ⟨⟩ ?_
  refine W.seq ?_
  refine W.cond rfl (fun aB=> ?_) (fun aB=> ?_)
  ·try simp only[nb,an,aq,aa]at aB
   refine W.skip ?_
   refine W.seq ?_
   refine W.block ?_
   refine W.s0 X [1,2,7,8,15,16,17] rfl (by and_intros<;>first|exact⟨⟩| (intros;omega)) ?_
   refine W.s0 X [1,2,8,9,15,16,17] rfl (by and_intros<;>first|exact⟨⟩| (intros;omega)) ?_
   refine W.sr X [] [(29,⟨false,[.a (.lit (.bool true))]⟩)] [1,2,15,16,17,30] [] rfl (by(repeat' with_reducible first|exact aj.nil|refine aj.mk ?_ ?_|apply And.intro)<;>first|exact(hf _)) ?_
   refine W.cond rfl (fun aM=> ?_) (fun aM=> ?_)
   ·try simp only[nb,an,aq,aa]at aM
    all_goals simp at aM
   ·try simp only[nb,an,aq,aa]at aM
    skip
    refine W.skip ?_
    refine W.r0 X [1,2,15,16,17] rfl ⟨⟩ ?_
    refine⟨k+1,by omega,by omega,?_⟩
    rw[aR _ k rfl (by omega)]
    try rfl
  ·try simp only[nb,an,aq,aa]at aB
   refine W.exit ?_
   refine W.s0 X [6] rfl ⟨⟩ ?_
   refine W.ret ?_
   exact Fin.ret rfl ⟨rfl,⟨⟩⟩
theorem dr(l:List aO)(f:FuncId)(hf: ∀p,Sound ty Tryz.prog f [.agg (bq p), .agg (bq p)] [.a (.lit (.bool true))]):Sound ty Tryz.prog 124 [.a (.sl .aO l), .a (.sl .aO l), .a (.lit (.func (.func f) #[] #[]))] [.a (.lit (.bool true))]:=by
 refine Sound.o X Tryz.call124 Tryz.func124 Tryz.ntmps124 rfl rfl ?_
 intro zb
 refine W.bound 0 rfl (fun hla=> ?_)
 refine W.s0 X [0,1,2] rfl ⟨⟩ ?_
 refine W.seq ?_
 refine W.s0 X [0,1,2,14] rfl ⟨⟩ ?_
 refine W.cond rfl (fun hb0=> ?_) (fun hb0=> ?_)
 ·try simp only[nb,an,aq,aa]at hb0
  first| (exfalso;simp at hb0;done)|omega
 ·try simp only[nb,an,aq,aa]at hb0
  skip
  refine W.skip ?_
  refine W.seq ?_
  refine W.s0 X [1,2,15,16,17] rfl ⟨⟩ ?_
  refine W.block ?_
  refine W.aE (fun k=>k≤l.length) (fun k:Nat=> [(17, .one (.a (.lit (.int .i64 k))))]) (fun k=> []) (fun k=>l.length-k) 0 (fun k=>rfl) (Nat.zero_le _) rfl ?_
  intro k hk
  refine W.s0 X [1,2,15,16,17,18] rfl ⟨⟩ ?_
  refine W.seq ?_
  refine W.cond rfl (fun aB=> ?_) (fun aB=> ?_)
  ·try simp only[nb,an,aq,aa]at aB
   refine W.skip ?_
   refine W.seq ?_
   refine W.block ?_
   refine W.s0 X [1,2,7,8,15,16,17] rfl (by and_intros<;>first|exact⟨⟩| (intros;omega)) ?_
   refine W.s0 X [1,2,8,9,15,16,17] rfl (by and_intros<;>first|exact⟨⟩| (intros;omega)) ?_
   refine W.sr X [] [(29,⟨false,[.a (.lit (.bool true))]⟩)] [1,2,15,16,17,30] [] rfl (by(repeat' with_reducible first|exact aj.nil|refine aj.mk ?_ ?_|apply And.intro)<;>first|exact(hf _)) ?_
   refine W.cond rfl (fun aM=> ?_) (fun aM=> ?_)
   ·try simp only[nb,an,aq,aa]at aM
    all_goals simp at aM
   ·try simp only[nb,an,aq,aa]at aM
    skip
    refine W.skip ?_
    refine W.r0 X [1,2,15,16,17] rfl ⟨⟩ ?_
    refine⟨k+1,by omega,by omega,?_⟩
    rw[aR _ k rfl (by omega)]
    try rfl
  ·try simp only[nb,an,aq,aa]at aB
   refine W.exit ?_
   refine W.s0 X [6] rfl ⟨⟩ ?_
   refine W.ret ?_
   exact Fin.ret rfl ⟨rfl,⟨⟩⟩
theorem dw(l:List aL)(f:FuncId)(hf: ∀p,Sound ty Tryz.prog f [.agg (bz p), .agg (bz p)] [.a (.lit (.bool true))]):Sound ty Tryz.prog 126 [.a (.sl .aL l), .a (.sl .aL l), .a (.lit (.func (.func f) #[] #[]))] [.a (.lit (.bool true))]:=by
 refine Sound.o X Tryz.call126 Tryz.func126 Tryz.ntmps126 rfl rfl ?_
 intro zb
 refine W.bound 0 rfl (fun hla=> ?_)
 refine W.s0 X [0,1,2] rfl ⟨⟩ ?_
 refine W.seq ?_
 refine W.s0 X [0,1,2,14] rfl ⟨⟩ ?_
 refine W.cond rfl (fun hb0=> ?_) (fun hb0=> ?_)
 ·try simp only[nb,an,aq,aa]at hb0
  first| (exfalso;simp at hb0;done)|omega
 ·try simp only[nb,an,aq,aa]at hb0
  skip
  refine W.skip ?_
  refine W.seq ?_
  refine W.s0 X [1,2,15,16,17] rfl ⟨⟩ ?_
  refine W.block ?_
  refine W.aE (fun k=>k≤l.length) (fun k:Nat=> [(17, .one (.a (.lit (.int .i64 k))))]) (fun k=> []) (fun k=>l.length-k) 0 (fun k=>rfl) (Nat.zero_le _) rfl ?_
  intro k hk
  refine W.s0 X [1,2,15,16,17,18] rfl ⟨⟩ ?_
  refine W.seq ?_
  refine W.cond rfl (fun aB=> ?_) (fun aB=> ?_)
  ·try simp only[nb,an,aq,aa]at aB
   refine W.skip ?_
   refine W.seq ?_
   refine W.block ?_
   refine W.s0 X [1,2,7,8,15,16,17] rfl (by and_intros<;>first|exact⟨⟩| (intros;omega)) ?_
   refine W.s0 X [1,2,8,9,15,16,17] rfl (by and_intros<;>first|exact⟨⟩| (intros;omega)) ?_
   refine W.sr X [] [(29,⟨false,[.a (.lit (.bool true))]⟩)] [1,2,15,16,17,30] [] rfl (by(repeat' with_reducible first|exact aj.nil|refine aj.mk ?_ ?_|apply And.intro)<;>first|exact(hf _)) ?_
   refine W.cond rfl (fun aM=> ?_) (fun aM=> ?_)
   ·try simp only[nb,an,aq,aa]at aM
    all_goals simp at aM
   ·try simp only[nb,an,aq,aa]at aM
    skip
    refine W.skip ?_
    refine W.r0 X [1,2,15,16,17] rfl ⟨⟩ ?_
    refine⟨k+1,by omega,by omega,?_⟩
    rw[aR _ k rfl (by omega)]
    try rfl
  ·try simp only[nb,an,aq,aa]at aB
   refine W.exit ?_
   refine W.s0 X [6] rfl ⟨⟩ ?_
   refine W.ret ?_
   exact Fin.ret rfl ⟨rfl,⟨⟩⟩
theorem wk(a:aO):Sound ty Tryz.prog 125 [.agg (bq a), .agg (bq a)] [.a (.lit (.bool true))]:=by
 refine Sound.o X Tryz.call125 Tryz.func125 Tryz.ntmps125 rfl rfl ?_
 intro zb
 refine W.s0 X [2,3] rfl ⟨⟩ ?_
 refine W.sr X [] [(36,⟨false,[.a (.lit (.bool true))]⟩)] [4] [] rfl (by(repeat' with_reducible first|exact aj.nil|refine aj.mk ?_ ?_|apply And.intro)<;>first|exact fun _=>(b9 a.received _ tu)) ?_
 refine W.ret ?_
 exact Fin.ret rfl ⟨by simp,⟨⟩⟩
theorem uX(a:gW):Sound ty Tryz.prog 128 [.agg (ck a), .agg (ck a)] [.a (.lit (.bool true))]:=by
 refine Sound.o X Tryz.call128 Tryz.func128 Tryz.ntmps128 rfl rfl ?_
 intro zb
 refine W.s0 X [2,3] rfl ⟨⟩ ?_
 refine W.sr X [] [(15,⟨false,[.a (.lit (.bool true))]⟩)] [4] [] rfl (by(repeat' with_reducible first|exact aj.nil|refine aj.mk ?_ ?_|apply And.intro)<;>first|exact fun _=>(cg a.rounds _ sB)) ?_
 refine W.ret ?_
 exact Fin.ret rfl ⟨by simp,⟨⟩⟩
theorem m7(a:ep):Sound ty Tryz.prog 254 [.agg (bn a), .agg (bn a)] [.a (.lit (.bool true))]:=by
 refine Sound.o X Tryz.call254 Tryz.func254 Tryz.ntmps254 rfl rfl ?_
 intro zb
 refine W.s0 X [2,3] rfl ⟨⟩ ?_
 refine W.sr X [] [(7,⟨false,[.a (.lit (.bool (iR a a)))]⟩),(20,⟨false,[.a (.lit (.bool (a.inbox==a.inbox)))]⟩)] [4] [] rfl (by(repeat' with_reducible first|exact aj.nil|refine aj.mk ?_ ?_|apply And.intro);(iterate 2 all_goals try first|exact(qx a a)|exact fun _=>(gZ a.inbox a.inbox))) ?_
 refine W.ret ?_
 exact Fin.ret rfl ⟨by simp[iR],⟨⟩⟩
theorem wm(a:aL):Sound ty Tryz.prog 127 [.agg (bz a), .agg (bz a)] [.a (.lit (.bool true))]:=by
 refine Sound.o X Tryz.call127 Tryz.func127 Tryz.ntmps127 rfl rfl ?_
 intro zb
 refine W.s0 X [2,3] rfl ⟨⟩ ?_
 refine W.sr X [] [(9,⟨false,[.a (.lit (.bool true))]⟩),(15,⟨false,[.a (.lit (.bool true))]⟩)] [4] [] rfl (by(repeat' with_reducible first|exact aj.nil|refine aj.mk ?_ ?_|apply And.intro);(iterate 2 all_goals try first|exact(m7 a.live)|exact fun _=>(m7 a.saved))) ?_
 refine W.ret ?_
 exact Fin.ret rfl ⟨by simp,⟨⟩⟩
theorem xO(x:aJ)(h0:wB x):Sound ty Tryz.prog 27 [.agg (aG x), .agg (aG x)] [.a (.lit (.bool true))]:=by
 refine Sound.o X Tryz.call27 Tryz.func27 Tryz.ntmps27 rfl rfl ?_
 intro zb
 refine W.s0 X [2,3] rfl ⟨⟩ ?_
 refine W.sr X [] [(15,⟨false,[.a (.lit (.bool true))]⟩),(22,⟨false,[.a (.lit (.bool true))]⟩),(29,⟨false,[.a (.lit (.bool true))]⟩),(57,⟨false,[.a (.lit (.bool true))]⟩)] [4] [] rfl (by(repeat' with_reducible first|exact aj.nil|refine aj.mk ?_ ?_|apply And.intro);(iterate 4 all_goals try first|exact fun _=>(dr x.ah _ wk)|exact fun _=>(dw x.af _ wm)|exact fun _=>(uX x.ak)|exact fun _=>(sA x.replaced))) ?_
 refine W.ret ?_
 exact Fin.ret rfl ⟨by simp,⟨⟩⟩
end
end Go.Proofs.YteodajeiagmekaaGreat.G
