/-
  FnPhases, FnReads: the laws, walked by the symbolic machine: they return true. No condition.
-/
import Derived.Test.YteodajeiagmekaaGreatM21
import Derived.Test.YteodajeiagmekaaGreatM36
import Derived.Test.YteodajeiagmekaaGreatM42
import Derived.Test.YteodajeiagmekaaGreatM48
namespace Go.Proofs.YteodajeiagmekaaGreat.G
set_option linter.all false
open Go.RowKit L D
section
set_option maxRecDepth 100000
theorem gu(m s:Int):Sound ty Tryz.prog 20 [.a (.lit (.int .i64 m)), .a (.lit (.int .i64 s))] [.a (.lit (.int .i64 (fU m s)))]:=by
 refine Sound.o X Tryz.call20 Tryz.func20 Tryz.ntmps20 rfl rfl ?_
 intro zb
 refine W.s0 X [0,1] rfl ⟨⟩ ?_
 refine W.sr X [] [(8,⟨false,[.a (.lit (.int .i64 (kh m [173,s])))]⟩),(9,⟨false,[.a (.lit (.int .i64 (if(kh m [173,s])>1 then(kh m [173,s])else 1)))]⟩)] [4] [] rfl (by(repeat' with_reducible first|exact aj.nil|refine aj.mk ?_ ?_|apply And.intro);(iterate 2 all_goals try first|exact(aW m [173,s] (by first|assumption|omega| (simp;done)| (simp;omega)))|exact(nS 1 (kh m [173,s])));all_goals first|exact⟨rfl,bA _ (by decide)⟩) ?_
 refine W.ret ?_
 exact Fin.ret rfl ⟨by rw[S7],⟨⟩⟩
theorem sY(d:DB)(hs0:bX List.length d.rows≤1048576):Sound ty Tryz.prog 430 [.agg (aF d)] [.a (.lit (.int .i64 (H8 d)))]:=by
 refine Sound.o X Tryz.call430 Tryz.func430 Tryz.ntmps430 rfl rfl ?_
 intro zb
 have kZ:d.rows.length≤1048576:=cI hs0
 refine W.s0 X [1] rfl ⟨⟩ ?_
 refine W.s0 X [1,3] rfl (by and_intros<;>first|exact⟨⟩|exact rfl) ?_
 refine W.seq ?_
 refine W.s0 X [1,3,4] rfl ⟨⟩ ?_
 refine W.block ?_
 refine W.aE (fun k=>k≤d.rows.length) (fun k:Nat=> [(4, .one (.a (.lit (.int .i64 k))))]) (fun k=> [(8, .arr .int ((d.rows.length:Int)::(d.rows.take k).flatMap AF))]) (fun k=>d.rows.length-k) 0 (fun k=>rfl) (Nat.zero_le _) rfl ?_
 intro k hk
 have Fw:=S6 d.rows k
 refine W.seq ?_
 refine W.s0 X [1,3,4,13] rfl ⟨⟩ ?_
 refine W.cond rfl (fun hb0=> ?_) (fun hb0=> ?_)
 ·try simp only[nb,an,aq,aa]at hb0
  have hs:=N9 d.rows k hb0
  have hel:(d.rows.getD k (au (.sl .u8))).length≤1048576:=gF (f:=List.length) hs0 (getD_some d.rows _ k hb0)
  have B1:=sn (d.rows.getD k (au (.sl .u8)))
  refine W.skip ?_
  refine W.seq ?_
  refine W.block ?_
  refine W.cD X [(23,8)] [(22,⟨true,[.a (.sl .int (AF (d.rows.getD k (au (.sl .u8)))))]⟩)] [1,3,4] [] rfl (by(repeat' with_reducible first|exact aj.nil|refine aj.mk ?_ ?_|apply And.intro)<;>first|exact(nT (d.rows.getD k (au (.sl .u8))) (by first|assumption|omega| (simp;done)| (simp;omega)))| (intros;omega)|exact rfl| (simp only[cT,maxLen,lens];omega)) ?_
  refine W.r0 X [1,3,4] rfl ⟨⟩ ?_
  refine⟨k+1,by omega,by omega,?_⟩
  rw[aR _ k rfl (by omega),hs]
  try rfl
 ·try simp only[nb,an,aq,aa]at hb0
  refine W.exit ?_
  refine W.sr X [] [(25,⟨false,[.a (.lit (.int .i64 (hsh ((d.rows.length:Int)::(d.rows.take k).flatMap AF))))]⟩)] [2] [] rfl (by(repeat' with_reducible first|exact aj.nil|refine aj.mk ?_ ?_|apply And.intro)<;>first|exact(uh ((d.rows.length:Int)::(d.rows.take k).flatMap AF) (by simp only[List.length_cons];omega))) ?_
  refine W.ret ?_
  exact Fin.ret rfl ⟨by rw[List.take_of_length_le hb0];rfl,⟨⟩⟩
theorem oo(c r:Int)(d:DB)(hs0:bX List.length d.rows≤1048576):Sound ty Tryz.prog 415 [.a (.lit (.int .i64 c)), .a (.lit (.int .i64 r)), .agg (aF d)] [.a (.lit (.int .i64 (sX c r d)))]:=by
 refine Sound.o X Tryz.call415 Tryz.func415 Tryz.ntmps415 rfl rfl ?_
 intro zb
 refine W.s0 X [0,1,5] rfl ⟨⟩ ?_
 refine W.sr X [] [(10,⟨false,[.a (.lit (.int .i64 (H8 d)))]⟩),(12,⟨false,[.a (.lit (.int .i64 (hsh [179,c,r,H8 d])))]⟩)] [6] [] rfl (by(repeat' with_reducible first|exact aj.nil|refine aj.mk ?_ ?_|apply And.intro);(iterate 2 all_goals try first|exact(sY d (by first|assumption|omega| (simp;done)| (simp;omega)))|exact(uh [179,c,r,H8 d] (by first|assumption|omega| (simp;done)| (simp;omega))));all_goals first|exact⟨rfl,bA _ (by decide)⟩) ?_
 refine W.ret ?_
 exact Fin.ret rfl ⟨rfl,⟨⟩⟩
theorem pg(key:Int)(r:dP):Sound ty Tryz.prog 104 [.a (.lit (.int .i64 key)), .agg (j8 r)] [.a (.lit (.int .i64 (Mw key r.server r.client r.round r.j7)))]:=by
 refine Sound.o X Tryz.call104 Tryz.func104 Tryz.ntmps104 rfl rfl ?_
 intro zb
 refine W.s0 X [0,3] rfl ⟨⟩ ?_
 refine W.sr X [] [(15,⟨false,[.a (.lit (.int .i64 (kh key [181,r.server,r.client,r.round,r.j7])))]⟩)] [4] [] rfl (by(repeat' with_reducible first|exact aj.nil|refine aj.mk ?_ ?_|apply And.intro)<;>first|exact(aW key [181,r.server,r.client,r.round,r.j7] (by first|assumption|omega| (simp;done)| (simp;omega)))|exact⟨rfl,bA _ (by decide)⟩) ?_
 refine W.ret ?_
 exact Fin.ret rfl ⟨rfl,⟨⟩⟩
theorem xq(key s c r:Int)(d:DB)(hs0:bX List.length d.rows≤1048576):Sound ty Tryz.prog 383 [.a (.lit (.int .i64 key)), .a (.lit (.int .i64 s)), .a (.lit (.int .i64 c)), .a (.lit (.int .i64 r)), .agg (aF d)] [.agg (j8 (ZN key s c r d))]:=by
 refine Sound.o X Tryz.call383 Tryz.func383 Tryz.ntmps383 rfl rfl ?_
 intro zb
 refine W.s0 X [0,1,2,3,9,10] rfl ⟨⟩ ?_
 refine W.sr X [] [(18,⟨false,[.a (.lit (.int .i64 (sX c r d)))]⟩)] [0,10,11] [] rfl (by(repeat' with_reducible first|exact aj.nil|refine aj.mk ?_ ?_|apply And.intro)<;>first|exact(oo c r d (by first|assumption|omega| (simp;done)| (simp;omega)))) ?_
 refine W.sr X [] [(22,⟨false,[.a (.lit (.int .i64 (Mw key (⟨s,c,r,sX c r d,0⟩:dP).server (⟨s,c,r,sX c r d,0⟩:dP).client (⟨s,c,r,sX c r d,0⟩:dP).round (⟨s,c,r,sX c r d,0⟩:dP).j7)))]⟩)] [10,11] [] rfl (by(repeat' with_reducible first|exact aj.nil|refine aj.mk ?_ ?_|apply And.intro)<;>first|exact(pg key (⟨s,c,r,sX c r d,0⟩:dP))) ?_
 refine W.s0 X [10] rfl (by and_intros<;>exact⟨⟩) ?_
 refine W.ret ?_
 exact Fin.ret rfl ⟨rfl,rfl,rfl,rfl,rfl,⟨⟩⟩
theorem kQ(s:aO)(hz:s.received.length≤1048576∧ ∀r,r∈s.received→bX List.length r.share.rows≤1048576):Sound ty Tryz.prog 263 [.agg (bq s)] [.agg (bq s)]:=by
 refine Sound.o X Tryz.call263 Tryz.func263 Tryz.ntmps263 rfl rfl ?_
 intro zb
 refine W.s0 X [1,2] rfl ⟨⟩ ?_
 refine W.s0 X [1,2,3] rfl (by and_intros<;>exact⟨⟩) ?_
 refine W.s0 X [1,2,3] rfl (by and_intros<;>first|exact⟨⟩|exact rfl) ?_
 refine W.seq ?_
 refine W.s0 X [1,2,3,4] rfl ⟨⟩ ?_
 refine W.block ?_
 refine W.aE (fun k=>k≤s.received.length) (fun k:Nat=> [(4, .one (.a (.lit (.int .i64 k))))]) (fun k=> [(6, .arr .aA (s.received.take k))]) (fun k=>s.received.length-k) 0 (fun k=>rfl) (Nat.zero_le _) rfl ?_
 intro k hk
 have hle:=aY s.received k
 refine W.seq ?_
 refine W.s0 X [1,2,3,4,12] rfl ⟨⟩ ?_
 refine W.cond rfl (fun hb0=> ?_) (fun hb0=> ?_)
 ·try simp only[nb,an,aq,aa]at hb0
  have hs:=aV s.received k (au .aA) hb0
  refine W.skip ?_
  refine W.seq ?_
  refine W.block ?_
  refine W.draw X [(32,6)] [(29,⟨true,[.agg (aF ((s.received.getD k (au .aA)).share))]⟩),(500031,⟨true,[]⟩)] [1,2,3,4] [] 17 MO (by kernel_rfl) rfl (by(repeat' with_reducible first|exact aj.nil|refine aj.mk ?_ ?_|apply And.intro)<;>first|exact(eo ((s.received.getD k (au .aA)).share) (hz.2 _ (getD_in _ hb0)))| (intros;omega)|exact rfl|exact⟨rfl,bA _ (by decide)⟩| (simp only[cT,maxLen,lens];omega)) ?_
  refine W.r0 X [1,2,3,4] rfl ⟨⟩ ?_
  refine⟨k+1,by omega,by omega,?_⟩
  rw[aR _ k rfl (by omega),hs]
  try rfl
 ·try simp only[nb,an,aq,aa]at hb0
  refine W.exit ?_
  refine W.s0 X [2] rfl (by and_intros<;>exact⟨⟩) ?_
  refine W.ret ?_
  exact Fin.ret rfl ⟨rfl,rfl,rfl,by rw[List.take_of_length_le hb0],rfl,⟨⟩⟩
end
section
set_option maxRecDepth 100000
theorem ff(c:ep)(h0:bX List.length c.av≤1048576∧bX List.length c.inbox≤1048576):Sound ty Tryz.prog 344 [.agg (bn c)] [.agg (bn c)]:=by
 refine Sound.o X Tryz.call344 Tryz.func344 Tryz.ntmps344 rfl rfl ?_
 intro zb
 refine W.s0 X [1,2] rfl ⟨⟩ ?_
 refine W.s0 X [1,2,3] rfl (by and_intros<;>exact⟨⟩) ?_
 refine W.sr X [] [(7,⟨true,[.a (.sl (.sl .u8) c.av)]⟩)] [1,2,3] [] rfl (by(repeat' with_reducible first|exact aj.nil|refine aj.mk ?_ ?_|apply And.intro)<;>first|exact(pS c.av h0.1)) ?_
 refine W.sr X [] [(11,⟨true,[.a (.sl (.sl .u8) c.inbox)]⟩)] [2,3] [] rfl (by(repeat' with_reducible first|exact aj.nil|refine aj.mk ?_ ?_|apply And.intro)<;>first|exact(pS c.inbox h0.2)) ?_
 refine W.s0 X [2] rfl (by and_intros<;>exact⟨⟩) ?_
 refine W.ret ?_
 exact Fin.ret rfl ⟨rfl,rfl,rfl,rfl,rfl,rfl,rfl,rfl,⟨⟩⟩
theorem iH(d:aL)(h0:aP d≤1048576):Sound ty Tryz.prog 264 [.agg (bz d)] [.agg (bz d)]:=by
 refine Sound.o X Tryz.call264 Tryz.func264 Tryz.ntmps264 rfl rfl ?_
 intro zb
 have wV:bD d.live≤1048576∧bD d.saved≤1048576:=by unfold aP at h0;omega
 unfold bD at wV
 refine W.s0 X [1,2] rfl ⟨⟩ ?_
 refine W.sd X [] [(5,⟨true,[.agg (bn d.live)]⟩),(8,⟨true,[.agg (bn d.saved)]⟩)] [2] [] 7 MO (by kernel_rfl) rfl (by(repeat' with_reducible first|exact aj.nil|refine aj.mk ?_ ?_|apply And.intro);(iterate 2 all_goals try first|exact(ff d.live ⟨by omega,by omega⟩)|exact(ff d.saved ⟨by omega,by omega⟩))) ?_
 refine W.ret ?_
 exact Fin.ret rfl ⟨rfl,rfl,rfl,rfl,rfl,rfl,rfl,rfl,rfl,rfl,rfl,rfl,rfl,rfl,rfl,rfl,⟨⟩⟩
theorem uD(a:gW)(h0:cB a≤1048576):Sound ty Tryz.prog 265 [.agg (ck a)] [.agg (ck a)]:=by
 refine Sound.o X Tryz.call265 Tryz.func265 Tryz.ntmps265 rfl rfl ?_
 intro zb
 have hls:bX aZ a.rounds≤1048576:=h0
 have kZ:=cI hls
 refine W.s0 X [1,2] rfl ⟨⟩ ?_
 refine W.s0 X [1,2,3] rfl ⟨⟩ ?_
 refine W.lG 3 1 60 .ay rfl ?_
 refine W.seq ?_
 refine W.s0 X [1,2,3,4] rfl ⟨⟩ ?_
 refine W.block ?_
 refine W.aE (fun k=>k≤a.rounds.length) (fun k:Nat=> [(4, .one (.a (.lit (.int .i64 k))))]) (fun k=> [(60, .arr .ay (a.rounds.take k))]) (fun k=>a.rounds.length-k) 0 (fun k=>rfl) (Nat.zero_le _) rfl ?_
 intro k hk
 have hle:=aY a.rounds k
 refine W.seq ?_
 refine W.s0 X [1,2,3,4,12] rfl ⟨⟩ ?_
 refine W.cond rfl (fun hb0=> ?_) (fun hb0=> ?_)
 ·try simp only[nb,an,aq,aa]at hb0
  have hs:=aV a.rounds k (au .ay) hb0
  refine W.skip ?_
  refine W.seq ?_
  refine W.block ?_
  refine W.draw X [(32,60)] [(29,⟨true,[.agg (aF ((a.rounds.getD k (au .ay)).db))]⟩),(500031,⟨true,[]⟩)] [1,2,3,4] [] 17 MO (by kernel_rfl) rfl (by(repeat' with_reducible first|exact aj.nil|refine aj.mk ?_ ?_|apply And.intro)<;>first|exact(eo ((a.rounds.getD k (au .ay)).db) (gF hls (getD_some a.rounds _ k hb0)))| (intros;omega)|exact rfl|exact⟨rfl,bA _ (by decide)⟩| (simp only[cT,maxLen,lens];omega)) ?_
  refine W.r0 X [1,2,3,4] rfl ⟨⟩ ?_
  refine⟨k+1,by omega,by omega,?_⟩
  rw[aR _ k rfl (by omega),hs]
  try rfl
 ·try simp only[nb,an,aq,aa]at hb0
  refine W.exit ?_
  refine W.s0 X [2] rfl (by and_intros<;>exact⟨⟩) ?_
  refine W.ret ?_
  exact Fin.ret rfl ⟨rfl,by rw[List.take_of_length_le hb0],⟨⟩⟩
def ZP:dH:=(.ph 1024 (.br 1024 11 (.last 0) (.nil)))
theorem fj(x:aJ)(h0:wB x):Sound ty Tryz.prog 136 [.agg (aG x)] [.agg (aG x)]:=by
 refine Sound.o X Tryz.call136 Tryz.func136 Tryz.ntmps136 rfl rfl ?_
 intro zb
 have hls:bX bp x.ah≤1048576∧bX aP x.af≤1048576∧cB x.ak≤1048576∧x.replaced.length≤4194304:=h0
 have nj:=cI hls.1
 have j0:=cI hls.2.1
 refine W.s0 X [1,2] rfl ⟨⟩ ?_
 refine W.s0 X [1,2,3] rfl (by and_intros<;>exact⟨⟩) ?_
 refine W.s0 X [1,2,3] rfl (by and_intros<;>first|exact⟨⟩|exact rfl) ?_
 refine W.seq ?_
 refine W.s0 X [1,2,3,4] rfl ⟨⟩ ?_
 refine W.block ?_
 refine W.aE (fun k=>k≤x.ah.length) (fun k:Nat=> [(4, .one (.a (.lit (.int .i64 k))))]) (fun k=> [(7, .arr .aO (x.ah.take k))]) (fun k=>x.ah.length-k) 0 (fun k=>rfl) (Nat.zero_le _) rfl ?_
 intro k hk
 have hle:=aY x.ah k
 refine W.seq ?_
 refine W.s0 X [1,2,3,4,13] rfl ⟨⟩ ?_
 refine W.cond rfl (fun hb0=> ?_) (fun hb0=> ?_)
 ·try simp only[nb,an,aq,aa]at hb0
  have hs:=aV x.ah k (au .aO) hb0
  have hss:=Gt hls.1 (getD_some x.ah (au .aO) k hb0)
  refine W.skip ?_
  refine W.seq ?_
  refine W.block ?_
  refine W.draw X [(25,7)] [(23,⟨true,[.agg (bq (x.ah.getD k (au .aO)))]⟩),(500024,⟨true,[]⟩)] [1,2,3,4] [] 9 MO (by kernel_rfl) rfl (by(repeat' with_reducible first|exact aj.nil|refine aj.mk ?_ ?_|apply And.intro)<;>first|exact(kQ (x.ah.getD k (au .aO)) hss)| (intros;omega)|exact rfl|exact⟨rfl,bA _ (by decide)⟩| (simp only[cT,maxLen,lens];omega)) ?_
  refine W.r0 X [1,2,3,4] rfl ⟨⟩ ?_
  refine⟨k+1,by omega,by omega,?_⟩
  rw[aR _ k rfl (by omega),hs]
  try rfl
 ·try simp only[nb,an,aq,aa]at hb0
  refine W.exit ?_
  refine W.s0 X [1,2,3] rfl (by and_intros<;>first|exact⟨⟩|exact rfl) ?_
  refine W.seq ?_
  refine W.s0 X [1,2,3,5] rfl ⟨⟩ ?_
  refine W.block ?_
  refine W.aE (fun k1=>k1≤x.af.length) (fun k1:Nat=> [(5, .one (.a (.lit (.int .i64 k1))))]) (fun k1=> [(27, .arr .aL (x.af.take k1))]) (fun k1=>x.af.length-k1) 0 (fun k1=>rfl) (Nat.zero_le _) rfl ?_
  intro k1 hk1
  have SM:=aY x.af k1
  refine W.seq ?_
  refine W.s0 X [1,2,3,5,33] rfl ⟨⟩ ?_
  refine W.cond rfl (fun aB=> ?_) (fun aB=> ?_)
  ·try simp only[nb,an,aq,aa]at aB
   have hs1:=aV x.af k1 (au .aL) aB
   refine W.skip ?_
   refine W.seq ?_
   refine W.block ?_
   refine W.fZ X [(45,27)] [(43,⟨true,[.agg (bz (x.af.getD k1 (au .aL)))]⟩)] [1,2,3,5] [] 1279 (.ph 255 (.br 255 8 (.ph 0 (.br 0 9 ZP (.nil))) (.br 253 8 (.ph 2 (.br 2 9 ZP (.nil))) (.br 252 8 (.ph 3 (.br 3 9 ZP (.nil))) (.nil))))) 2 MO (by kernel_rfl) rfl (by kernel_rfl) (by(repeat' with_reducible first|exact aj.nil|refine aj.mk ?_ ?_|apply And.intro)<;>first|exact(iH (x.af.getD k1 (au .aL)) (gF hls.2.1 (getD_some x.af _ k1 aB)))| (intros;omega)|exact rfl| (simp only[cT,maxLen,lens];omega)) ?_
   refine W.r0 X [1,2,3,5] rfl ⟨⟩ ?_
   refine⟨k1+1,by omega,by omega,?_⟩
   rw[aR _ k1 rfl (by omega),hs1]
   try rfl
  ·try simp only[nb,an,aq,aa]at aB
   refine W.exit ?_
   refine W.sr X [] [(49,⟨true,[.agg (ck x.ak)]⟩)] [1,2,3] [] rfl (by(repeat' with_reducible first|exact aj.nil|refine aj.mk ?_ ?_|apply And.intro)<;>first|exact(uD x.ak hls.2.2.1)) ?_
   refine W.sr X [(54,51)] [] [2,3] [] rfl (by and_intros<;>first|exact⟨⟩|exact rfl| (simp only[cT,maxLen,lens];omega)) ?_
   refine W.s0 X [2] rfl (by and_intros<;>exact⟨⟩) ?_
   refine W.ret ?_
   exact Fin.ret rfl ⟨rfl,by rw[List.take_of_length_le hb0],by rw[List.take_of_length_le aB],rfl,rfl,rfl,rfl,rfl,rfl,rfl,⟨⟩⟩
end
section
set_option maxRecDepth 100000
theorem xz(a:gW)(f:Int)(hal:a.rounds.length≤1048576):Sound ty Tryz.prog 277 [.agg (ck a), .a (.lit (.int .i64 f))] [.a (.sl .int (fk a.rounds f))]:=by
 refine Sound.o X Tryz.call277 Tryz.func277 Tryz.ntmps277 rfl rfl ?_
 intro zb
 refine W.s0 X [1,2] rfl ⟨⟩ ?_
 refine W.s0 X [1,2,5] rfl (by and_intros<;>first|exact⟨⟩|exact rfl) ?_
 refine W.seq ?_
 refine W.s0 X [1,2,5,6] rfl ⟨⟩ ?_
 refine W.block ?_
 refine W.aE (fun k=>k≤a.rounds.length) (fun k:Nat=> [(6, .one (.a (.lit (.int .i64 k))))]) (fun k=> [(7, .arr .int (fk (a.rounds.take k) f))]) (fun k=>a.rounds.length-k) 0 (fun k=>rfl) (Nat.zero_le _) rfl ?_
 intro k hk
 have hle:=BM a.rounds f k
 refine W.seq ?_
 refine W.s0 X [1,2,5,6,12] rfl ⟨⟩ ?_
 refine W.cond rfl (fun hb0=> ?_) (fun hb0=> ?_)
 ·try simp only[nb,an,aq,aa]at hb0
  refine W.skip ?_
  refine W.seq ?_
  refine W.block ?_
  refine W.s0 X [1,2,5,6,22] rfl (by and_intros<;>first|exact⟨⟩| (intros;omega)) ?_
  refine W.cond rfl (fun aB=> ?_) (fun aB=> ?_)
  ·try simp only[nb,an,aq,aa]at aB
   have hs:=EG a.rounds f k hb0 (by omega)
   refine W.cD X [(31,7)] [] [1,2,5,6] [] rfl (by and_intros<;>first|exact⟨⟩| (intros;omega)|exact rfl| (simp only[cT,maxLen,lens];omega)) ?_
   refine W.r0 X [1,2,5,6] rfl ⟨⟩ ?_
   refine⟨k+1,by omega,by omega,?_⟩
   rw[aR _ k rfl (by omega),hs]
   try rfl
  ·try simp only[nb,an,aq,aa]at aB
   have hs:=BL a.rounds f k hb0 (by omega)
   refine W.skip ?_
   refine W.r0 X [1,2,5,6] rfl ⟨⟩ ?_
   refine⟨k+1,by omega,by omega,?_⟩
   rw[aR _ k rfl (by omega),hs]
   try rfl
 ·try simp only[nb,an,aq,aa]at hb0
  refine W.exit ?_
  refine W.s0 X [4] rfl ⟨⟩ ?_
  refine W.ret ?_
  exact Fin.ret rfl ⟨by rw[List.take_of_length_le hb0],⟨⟩⟩
end
section
set_option maxRecDepth 100000
theorem sM(key c:Int)(cell:List UInt8):Sound ty Tryz.prog 432 [.a (.lit (.int .i64 key)), .a (.lit (.int .i64 c)), .a (.sl .u8 cell)] [.agg (eW (Lw key c cell)), .a (.lit (.bool (mu key c cell)))]:=by
 refine Sound.o X Tryz.call432 Tryz.func432 Tryz.ntmps432 rfl rfl ?_
 intro zb
 refine W.bound 2 rfl (fun kZ=> ?_)
 refine W.s0 X [0,1,2,6] rfl ⟨⟩ ?_
 refine W.seq ?_
 refine W.sr X [] [(11,⟨false,[.a (.lit (.bool (fA key)))]⟩),(15,⟨false,[.a (.lit (.bool (inr c 0 1000000000000)))]⟩)] [0,1,2,6,22] [] rfl (by(repeat' with_reducible first|exact aj.nil|refine aj.mk ?_ ?_|apply And.intro);(iterate 2 all_goals try first|exact(gY key)|exact fun _=>(aK c 0 1000000000000))) ?_
 refine W.cond rfl (fun hb0=> ?_) (fun hb0=> ?_)
 ·have hH:X4 key c cell=false:=bK hb0 (by simp only[X4,aH]<;>first|rfl|ac_rfl)
  have hk:=ZX hH
  refine W.s0 X [6,7] rfl (by and_intros<;>exact⟨⟩) ?_
  refine W.ret ?_
  exact Fin.ret rfl ⟨by rw[mU hk],by rw[mU hk],by rw[hk],⟨⟩⟩
 ·have hH:X4 key c cell=true:=bG hb0 (by simp only[X4,aH]<;>first|rfl|ac_rfl)
  obtain⟨hk1,hk2,Ar⟩:=ab9 hH
  have ace:=Wy hk1 hk2 Ar
  refine W.skip ?_
  refine W.sd X [] [] [0,1,2,6,8] [] 23 MO (by kernel_rfl) rfl (by and_intros<;>first|exact⟨⟩| (intros;omega)) ?_
  rw[Wx]
  refine W.seq ?_
  refine W.sr X [] [(51,⟨false,[.a (.lit (.int .i64 (jd key c ((cell.take (20:Int).toNat).drop (0:Int).toNat))))]⟩)] [0,1,2,6,52] [] rfl (by(repeat' with_reducible first|exact aj.nil|refine aj.mk ?_ ?_|apply And.intro)<;>first|exact(qp key c ((cell.take (20:Int).toNat).drop (0:Int).toNat) (by rw[List.length_drop,List.length_take];omega))| (intros;omega)) ?_
  refine W.cond rfl (fun aB=> ?_) (fun aB=> ?_)
  ·try simp only[nb,an,aq,aa]at aB
   have hA:Lv key c cell=false:=by rw[ace,decide_eq_false_iff_not];intro h;exact aB (by rw[h];simp)
   have hk:=MD hA
   refine W.s0 X [6,7] rfl (by and_intros<;>exact⟨⟩) ?_
   refine W.ret ?_
   exact Fin.ret rfl ⟨by rw[mU hk],by rw[mU hk],by rw[hk],⟨⟩⟩
  ·try simp only[nb,an,aq,aa]at aB
   have hA:Lv key c cell=true:=by rw[ace,decide_eq_true_eq,aB];simp
   obtain⟨hol,_⟩:=Ib hA
   refine W.skip ?_
   refine W.sd X [] [(56,⟨false,[.a (.lit (.int .i64 (lB key c)))]⟩),(59,⟨true,[.a (.sl .u8 (decr (lB key c) ((cell.take (20:Int).toNat).drop (0:Int).toNat)))]⟩)] [6,9] [] 7 MO (by kernel_rfl) rfl (by(repeat' with_reducible first|exact aj.nil|refine aj.mk ?_ ?_|apply And.intro);(iterate 2 all_goals try first|exact(qu key c)|exact(Ej (lB key c) ((cell.take (20:Int).toNat).drop (0:Int).toNat) (by rw[List.length_drop,List.length_take];omega)));all_goals first| (intros;omega)) ?_
   rw[Ti]
   refine W.seq ?_
   refine W.s0 X [6,9,71] rfl (by and_intros<;>first|exact⟨⟩| (intros;omega)| ((intro h1;first| (intro h2;first| (intro h3;refine And.intro ?_ ?_)|refine And.intro ?_ ?_)|refine And.intro ?_ ?_)<;>first|omega| ((try simp only[nb,an,aq]at*);(try simp(disch:=omega) only[bl]);omega))| (refine fun _=> ?_;dsimp only[hyps,G8];omega)) ?_
   refine W.cond rfl (fun aM=> ?_) (fun aM=> ?_)
   ·try simp only[nb,an,aq,aa]at aM
    rw[P8,P8]at aM
    have hk:mu key c cell=false:=by
     rcases aM with h|h
     ·exact ZS h
     ·exact X3 (by have h:(14:Int)<(Fp key c cell:Int):=h;omega)
    refine W.s0 X [6,7] rfl (by and_intros<;>exact⟨⟩) ?_
    refine W.ret ?_
    exact Fin.ret rfl ⟨by rw[mU hk],by rw[mU hk],by rw[hk],⟨⟩⟩
   ·try simp only[nb,an,aq,aa]at aM
    rw[P8,P8]at aM
    have WC:Fp key c cell≤14:=by have h:(Fp key c cell:Int)≤14:=aM.2;omega
    have hu1:((Fm key c cell).getD (Int.toNat 1) (au .u8)).toNat≤14:=WC
    have B1:=Ic hA WC
    have hk:mu key c cell=true:=ab8 hA WC aM.1
    have QA:=MC key c cell
    refine W.skip ?_
    refine W.seq ?_
    refine W.fZ X [(85,77)] [] [6,7] [] 45055 (.ph 4095 (.br 4095 12 (.ph 8192 (.br 8192 14 (.last 32768) (.nil))) (.br 4087 12 (.ph 8200 (.br 8200 14 (.last 32768) (.nil))) (.br 4083 12 (.ph 8204 (.br 8204 14 (.last 32768) (.nil))) (.br 4081 12 (.ph 8206 (.br 8206 14 (.last 32768) (.nil))) (.br 4080 12 (.ph 8207 (.br 8207 14 (.last 32768) (.nil))) (.nil))))))) 4 MO (by kernel_rfl) rfl (by kernel_rfl) (by and_intros<;>first|exact⟨⟩| (intros;omega)|exact rfl| ((try simp only[nb,an,aq]at*);(simp(disch:=omega) only[bl]);omega)| (simp only[cT,maxLen,lens];omega)) ?_
    refine W.ret ?_
    exact Fin.ret rfl ⟨by rw[CT hk];exact congrArg (Value.int IntKind.i64) (P8 _),by rw[CT hk];exact QA,by rw[hk],⟨⟩⟩
theorem gx(a:gW)(r:Int)(hz:a.rounds.length≤1048576∧ ∀y,y∈a.rounds→bX List.length y.db.rows≤1048576):Sound ty Tryz.prog 29 [.agg (ck a), .a (.lit (.int .i64 r))] [.agg (aF (dn a.rounds r)), .a (.lit (.bool (gw a.rounds r)))]:=by
 refine Sound.o X Tryz.call29 Tryz.func29 Tryz.ntmps29 rfl rfl ?_
 intro zb
 refine W.b7 0 1 rfl rfl (fun Rw=> ?_)
 refine W.s0 X [1,2,4] rfl ⟨⟩ ?_
 refine W.seq ?_
 refine W.s0 X [1,2,4,6] rfl ⟨⟩ ?_
 refine W.block ?_
 refine W.aE (fun k=>k≤a.rounds.length∧(a.rounds.take k).any (MA r)=false) (fun k:Nat=> [(6, .one (.a (.lit (.int .i64 k))))]) (fun k=> []) (fun k=>a.rounds.length-k) 0 (fun k=>rfl) ⟨Nat.zero_le _,rfl⟩ rfl ?_
 rintro k ⟨hk,hall⟩
 refine W.seq ?_
 refine W.s0 X [1,2,4,6,11] rfl ⟨⟩ ?_
 refine W.cond rfl (fun hb0=> ?_) (fun hb0=> ?_)
 ·try simp only[nb,an,aq,aa]at hb0
  refine W.skip ?_
  refine W.seq ?_
  refine W.block ?_
  refine W.s0 X [1,2,4,6,21] rfl (by and_intros<;>first|exact⟨⟩| (intros;omega)) ?_
  refine W.cond rfl (fun aB=> ?_) (fun aB=> ?_)
  ·have hh:=Te hb0 hall aB
   refine W.sr X [] [(28,⟨true,[.agg (aF ((a.rounds.getD k (au .ay)).db))]⟩)] [4,5] [] rfl (by(repeat' with_reducible first|exact aj.nil|refine aj.mk ?_ ?_|apply And.intro)<;>first|exact(eo ((a.rounds.getD k (au .ay)).db) (hz.2 _ (getD_in _ hb0)))| (intros;omega)) ?_
   refine W.ret ?_
   exact Fin.ret rfl ⟨by rw[hh.2],by rw[hh.1],⟨⟩⟩
  ·skip
   refine W.skip ?_
   refine W.r0 X [1,2,4,6] rfl ⟨⟩ ?_
   refine⟨k+1,⟨by omega,uk (au .ay) hb0 hall aB⟩,by omega,?_⟩
   rw[aR _ k rfl (by omega)]
   try rfl
 ·try simp only[nb,an,aq,aa]at hb0
  refine W.exit ?_
  refine W.s0 X [4,5] rfl (by and_intros<;>exact⟨⟩) ?_
  refine W.ret ?_
  exact Fin.ret rfl ⟨by rw[(CQ (by rw[←hall,List.take_of_length_le hb0])).2],by rw[(CQ (by rw[←hall,List.take_of_length_le hb0])).1],⟨⟩⟩
theorem A3(rows:List (List UInt8))(v:List Int)(hr: ∀r,r∈rows→r.length≤1048576):Sound ty Tryz.prog 434 [.a (.sl (.sl .u8) rows), .a (.sl .int v)] [.a (.sl .u8 (xB rows v))]:=by
 refine Sound.o X Tryz.call434 Tryz.func434 Tryz.ntmps434 rfl rfl ?_
 intro zb
 refine W.bound 0 rfl (fun hl0=> ?_)
 refine W.bound 1 rfl (fun nj=> ?_)
 refine W.s0 X [0,1] rfl ⟨⟩ ?_
 refine W.s0 X [0,1,5] rfl (by and_intros<;>first|exact⟨⟩|exact rfl) ?_
 refine W.seq ?_
 refine W.s0 X [0,1,5,6] rfl ⟨⟩ ?_
 refine W.block ?_
 refine W.aE (fun k=>k≤rows.length) (fun k:Nat=> [(6, .one (.a (.lit (.int .i64 k))))]) (fun k=> [(7, .arr .u8 (qP rows v k))]) (fun k=>rows.length-k) 0 (fun k=>rfl) (Nat.zero_le _) rfl ?_
 intro k hk
 have hle:=uG v hr k hk
 refine W.seq ?_
 refine W.s0 X [0,1,5,6,17] rfl ⟨⟩ ?_
 refine W.cond rfl (fun hb0=> ?_) (fun hb0=> ?_)
 ·try simp only[nb,an,aq,aa]at hb0
  have hel:=hr _ (getD_in (au (.sl .u8)) hb0.1)
  refine W.skip ?_
  refine W.seq ?_
  refine W.block ?_
  refine W.s0 X [0,1,5,6,24] rfl (by and_intros<;>first|exact⟨⟩| (intros;omega)) ?_
  refine W.cond rfl (fun aB=> ?_) (fun aB=> ?_)
  ·try simp only[nb,an,aq,aa]at aB
   have hs:=uF (rows:=rows) hb0.2 aB
   refine W.cD X [] [(30,⟨true,[.a (.sl .u8 (cJ (qP rows v k) (rows.getD k (au (.sl .u8)))))]⟩)] [0,1,5,6] [] rfl (by(repeat' with_reducible first|exact aj.nil|refine aj.mk ?_ ?_|apply And.intro)<;>first|exact(jB (qP rows v k) (rows.getD k (au (.sl .u8))) (by first|assumption|omega| (simp;done)| (simp;omega)) (by first|assumption|omega| (simp;done)| (simp;omega)))| (intros;omega)) ?_
   refine W.rename 5 7 rfl ?_
   refine W.r0 X [0,1,5,6] rfl ⟨⟩ ?_
   refine⟨k+1,by omega,by omega,?_⟩
   rw[aR _ k rfl (by omega),hs]
   try rfl
  ·try simp only[nb,an,aq,aa]at aB
   have hs:=nH (rows:=rows) (v:=v) (k:=k) (fun h=>aB h.2)
   refine W.skip ?_
   refine W.r0 X [0,1,5,6] rfl ⟨⟩ ?_
   refine⟨k+1,by omega,by omega,?_⟩
   rw[aR _ k rfl (by omega),hs]
   try rfl
 ·try simp only[nb,an,aq,aa]at hb0
  refine W.exit ?_
  refine W.s0 X [4] rfl ⟨⟩ ?_
  refine W.ret ?_
  exact Fin.ret rfl ⟨by rw[Kk hk (by omega)],⟨⟩⟩
theorem ot(d:DB)(v:List Int):Sound ty Tryz.prog 423 [.agg (aF d), .a (.sl .int v)] [.a (.sl .u8 (dM d v))]:=by
 refine Sound.o X Tryz.call423 Tryz.func423 Tryz.ntmps423 rfl rfl ?_
 intro zb
 refine W.s0 X [1,2] rfl ⟨⟩ ?_
 refine W.seq ?_
 refine W.sr X [] [(6,⟨false,[.a (.lit (.bool (bV d)))]⟩),(13,⟨false,[.a (.lit (.bool (bN v (d.rows.length:Int))))]⟩)] [1,2,15] [] rfl (by(repeat' with_reducible first|exact aj.nil|refine aj.mk ?_ ?_|apply And.intro);(iterate 2 all_goals try first|exact(cF d)|exact fun _=>(ec v (d.rows.length:Int)))) ?_
 refine W.cond rfl (fun hb0=> ?_) (fun hb0=> ?_)
 ·have hk:(bV d&&bN v d.rows.length)=false:=bK hb0 (by simp only[aH]<;>first|rfl|ac_rfl)
  refine W.s0 X [4] rfl (by and_intros<;>first|exact⟨⟩|exact rfl) ?_
  refine W.ret ?_
  exact Fin.ret rfl ⟨by rw[dM,hk];rfl,⟨⟩⟩
 ·have hk:(bV d&&bN v d.rows.length)=true:=bG hb0 (by simp only[aH]<;>first|rfl|ac_rfl)
  have hkk:=hk
  rw[Bool.and_eq_true]at hkk
  have Qa: ∀r,r∈d.rows→r.length≤1048576:=fun r hr=>by rw[(iF.1 hkk.1).2 r hr];decide
  have hxl:(xB d.rows v).length≤1048576:=uG v Qa d.rows.length (Nat.le_refl _)
  refine W.skip ?_
  refine W.sd X [] [(21,⟨true,[.a (.sl .u8 (xB d.rows v))]⟩),(22,⟨true,[.a (.sl .u8 (cJ Mo (xB d.rows v)))]⟩)] [4] [] 7 MO (by kernel_rfl) rfl ⟨jB Mo (xB d.rows v) (by rw[oX];decide) hxl,A3 d.rows v Qa,⟨rfl,bA _ (by decide)⟩,rfl,by omega,⟨by decide,by decide⟩,⟨⟩⟩ ?_
  refine W.ret ?_
  exact Fin.ret rfl ⟨by rw[dM,if_pos hk],⟨⟩⟩
theorem lO(key:Int)(a:bQ)(h1:a.selection.length≤262144)(h2:a.data.length≤262144):Sound ty Tryz.prog 421 [.a (.lit (.int .i64 key)), .agg (dJ a)] [.a (.lit (.int .i64 (A0 key a.server a.round a.selection a.data)))]:=by
 refine Sound.o X Tryz.call421 Tryz.func421 Tryz.ntmps421 rfl rfl ?_
 intro zb
 have B1:=sn a.data
 refine W.s0 X [0,3] rfl ⟨⟩ ?_
 refine W.sr X [(16,13)] [] [0,3,5] [] rfl (by and_intros<;>first|exact⟨⟩|exact rfl| (simp only[cT,maxLen,lens];omega)) ?_
 refine W.sr X [(22,13)] [(21,⟨true,[.a (.sl .int (AF a.data))]⟩),(23,⟨false,[.a (.lit (.int .i64 (kh key ([191,a.server,a.round,(a.selection.length:Int)]++a.selection++AF a.data))))]⟩)] [4] [] rfl (by(repeat' with_reducible first|exact aj.nil|refine aj.mk ?_ ?_|apply And.intro);(iterate 2 all_goals try first|exact(nT a.data (by omega))|exact(aW key ([191,a.server,a.round,(a.selection.length:Int)]++a.selection++AF a.data) (by simp[sn];omega)));all_goals first|exact rfl| (simp only[cT,maxLen,lens];omega)) ?_
 refine W.ret ?_
 exact Fin.ret rfl ⟨rfl,⟨⟩⟩
theorem zv(key sv r:Int)(d:DB)(v:List Int)(hv:v.length≤262144):Sound ty Tryz.prog 420 [.a (.lit (.int .i64 key)), .a (.lit (.int .i64 sv)), .a (.lit (.int .i64 r)), .agg (aF d), .a (.sl .int v)] [.agg (dJ (ga key sv r d v)), .a (.lit (.bool (iV d v)))]:=by
 refine Sound.o X Tryz.call420 Tryz.func420 Tryz.ntmps420 rfl rfl ?_
 intro zb
 have hal:=uH d v
 refine W.s0 X [0,1,2,4,8,10] rfl ⟨⟩ ?_
 refine W.sr X [] [(16,⟨true,[.a (.sl .u8 (dM d v))]⟩)] [0,1,2,4,10,12] [] rfl (by(repeat' with_reducible first|exact aj.nil|refine aj.mk ?_ ?_|apply And.intro)<;>first|exact(ot d v)) ?_
 refine W.seq ?_
 refine W.s0 X [0,1,2,4,10,12,19] rfl ⟨⟩ ?_
 refine W.cond rfl (fun hb0=> ?_) (fun hb0=> ?_)
 ·try simp only[nb,an,aq,aa]at hb0
  have hk:=Oh (d:=d) (v:=v) (by omega)
  have hg:=Tk (key:=key) (sv:=sv) (r:=r) hk
  refine W.s0 X [10,11] rfl (by and_intros<;>exact⟨⟩) ?_
  refine W.ret ?_
  exact Fin.ret rfl (by and_intros<;>first|exact⟨⟩| (rw[hg];rfl;done)| (rw[hk];done))
 ·try simp only[nb,an,aq,aa]at hb0
  have hk:=zu (d:=d) (v:=v) (by omega)
  have hg:=CU (key:=key) (sv:=sv) (r:=r) hk
  have h24:=vL hk
  refine W.skip ?_
  refine W.sr X [(25,23)] [] [0,10,13] [] rfl (by and_intros<;>first|exact⟨⟩|exact rfl| (simp only[cT,maxLen,lens];omega)) ?_
  refine W.sr X [] [(30,⟨false,[.a (.lit (.int .i64 (A0 key (⟨sv,r,v,dM d v,0⟩:bQ).server (⟨sv,r,v,dM d v,0⟩:bQ).round (⟨sv,r,v,dM d v,0⟩:bQ).selection (⟨sv,r,v,dM d v,0⟩:bQ).data)))]⟩)] [10,13] [] rfl (by(repeat' with_reducible first|exact aj.nil|refine aj.mk ?_ ?_|apply And.intro)<;>first|exact(lO key (⟨sv,r,v,dM d v,0⟩:bQ) (by show v.length≤_;omega) (by show(dM d v).length≤_;omega))) ?_
  refine W.s0 X [10,11] rfl (by and_intros<;>exact⟨⟩) ?_
  refine W.ret ?_
  exact Fin.ret rfl (by and_intros<;>first|exact⟨⟩| (rw[hg];rfl;done)| (rw[hk];done))
theorem sN(s:aO)(key r:Int)(d:DB)(v:List Int)(hv:v.length≤262144):Sound ty Tryz.prog 388 [.agg (bq s), .a (.lit (.int .i64 key)), .a (.lit (.int .i64 r)), .agg (aF d), .a (.sl .int v)] [.agg (dJ (Fo s key r d v)), .a (.lit (.bool (iV d v)))]:=by
 refine Sound.o X Tryz.call388 Tryz.func388 Tryz.ntmps388 rfl rfl ?_
 intro zb
 refine W.s0 X [1,2,4,5,8,10] rfl ⟨⟩ ?_
 refine W.sr X [] [(21,⟨true,[.agg (dJ (ga key s.id r d v)), .a (.lit (.bool (iV d v)))]⟩)] [1,5,10,12,13] [] rfl (by(repeat' with_reducible first|exact aj.nil|refine aj.mk ?_ ?_|apply And.intro)<;>first|exact(zv key s.id r d v (by first|assumption|omega| (simp;done)| (simp;omega)))) ?_
 refine W.seq ?_
 refine W.s0 X [1,10,12,13,29] rfl ⟨⟩ ?_
 refine W.cond rfl (fun hb0=> ?_) (fun hb0=> ?_)
 ·have hq:(iV d v&&(s.behavior==3))=true:=kN hb0 (by simp only[aH]<;>first|rfl|ac_rfl)
  obtain⟨hk,ha⟩:=Oi (key:=key) (r:=r) hq
  have hg:=CU (key:=key) (sv:=s.id) (r:=r) hk
  have Fw:(ga key s.id r d v).data.length=24:=by rw[hg];exact vL hk
  refine W.sd X [] [] [1,10,12,13] [] 8 MO (by kernel_rfl) rfl (by and_intros<;>first|exact⟨⟩| (intros;omega)|exact(pR _).1|exact(pR _).2) ?_
  rw[Tj]
  refine W.cD X [] [(40,⟨false,[.a (.lit (.int .i64 (A0 key (⟨(ga key s.id r d v).server,(ga key s.id r d v).round,(ga key s.id r d v).selection,Ai (ga key s.id r d v).data,(ga key s.id r d v).Cv⟩:bQ).server (⟨(ga key s.id r d v).server,(ga key s.id r d v).round,(ga key s.id r d v).selection,Ai (ga key s.id r d v).data,(ga key s.id r d v).Cv⟩:bQ).round (⟨(ga key s.id r d v).server,(ga key s.id r d v).round,(ga key s.id r d v).selection,Ai (ga key s.id r d v).data,(ga key s.id r d v).Cv⟩:bQ).selection (⟨(ga key s.id r d v).server,(ga key s.id r d v).round,(ga key s.id r d v).selection,Ai (ga key s.id r d v).data,(ga key s.id r d v).Cv⟩:bQ).data)))]⟩)] [10,12,13] [] rfl (by(repeat' with_reducible first|exact aj.nil|refine aj.mk ?_ ?_|apply And.intro)<;>first|exact(lO key (⟨(ga key s.id r d v).server,(ga key s.id r d v).round,(ga key s.id r d v).selection,Ai (ga key s.id r d v).data,(ga key s.id r d v).Cv⟩:bQ) (by show(ga key s.id r d v).selection.length≤_;rw[hg];exact hv) (by show(Ai (ga key s.id r d v).data).length≤_;rw[Ie,Fw];decide))) ?_
  refine W.s0 X [10,11] rfl (by and_intros<;>exact⟨⟩) ?_
  refine W.ret ?_
  exact Fin.ret rfl (by and_intros<;>first|exact⟨⟩| (rw[ha];simp only[hg];rfl;done)| (rw[hk];done))
 ·have hq:(iV d v&&(s.behavior==3))=false:=n8 hb0 (by simp only[aH]<;>first|rfl|ac_rfl)
  have ha:=Tl (key:=key) (r:=r) hq
  refine W.skip ?_
  refine W.s0 X [10,11] rfl (by and_intros<;>exact⟨⟩) ?_
  refine W.ret ?_
  exact Fin.ret rfl (by and_intros<;>first|exact⟨⟩|rfl| (rw[ha];done))
theorem FC(l:List (List UInt8))(hr: ∀a,a∈l→a.length≤1048576):Sound ty Tryz.prog 435 [.a (.sl (.sl .u8) l)] [.a (.sl .u8 (uE l))]:=by
 refine Sound.o X Tryz.call435 Tryz.func435 Tryz.ntmps435 rfl rfl ?_
 intro zb
 refine W.bound 0 rfl (fun kZ=> ?_)
 refine W.s0 X [0] rfl ⟨⟩ ?_
 refine W.s0 X [0,3] rfl (by and_intros<;>first|exact⟨⟩|exact rfl) ?_
 refine W.seq ?_
 refine W.s0 X [0,3,4] rfl ⟨⟩ ?_
 refine W.block ?_
 refine W.aE (fun k=>k≤l.length) (fun k:Nat=> [(4, .one (.a (.lit (.int .i64 k))))]) (fun k=> [(5, .arr .u8 (uE (l.take k)))]) (fun k=>l.length-k) 0 (fun k=>rfl) (Nat.zero_le _) rfl ?_
 intro k hk
 have hle:=Kl hr k
 refine W.seq ?_
 refine W.s0 X [0,3,4,9] rfl ⟨⟩ ?_
 refine W.cond rfl (fun hb0=> ?_) (fun hb0=> ?_)
 ·try simp only[nb,an,aq,aa]at hb0
  have hel:=hr _ (getD_in (au (.sl .u8)) hb0)
  have hs:=A2 l k hb0
  refine W.skip ?_
  refine W.seq ?_
  refine W.block ?_
  refine W.cD X [] [(17,⟨true,[.a (.sl .u8 (cJ (uE (l.take k)) (l.getD k (au (.sl .u8)))))]⟩)] [0,3,4] [] rfl (by(repeat' with_reducible first|exact aj.nil|refine aj.mk ?_ ?_|apply And.intro)<;>first|exact(jB (uE (l.take k)) (l.getD k (au (.sl .u8))) (by first|assumption|omega| (simp;done)| (simp;omega)) (by first|assumption|omega| (simp;done)| (simp;omega)))| (intros;omega)) ?_
  refine W.rename 3 5 rfl ?_
  refine W.r0 X [0,3,4] rfl ⟨⟩ ?_
  refine⟨k+1,by omega,by omega,?_⟩
  rw[aR _ k rfl (by omega),hs]
  try rfl
 ·try simp only[nb,an,aq,aa]at hb0
  refine W.exit ?_
  refine W.s0 X [2] rfl ⟨⟩ ?_
  refine W.ret ?_
  exact Fin.ret rfl ⟨by rw[List.take_of_length_le hb0],⟨⟩⟩
theorem s6(l:List (List UInt8)):Sound ty Tryz.prog 431 [.a (.sl (.sl .u8) l)] [.a (.sl .u8 (Ob l)), .a (.lit (.bool (fL l)))]:=by
 refine Sound.o X Tryz.call431 Tryz.func431 Tryz.ntmps431 rfl rfl ?_
 intro zb
 refine W.bound 0 rfl (fun kZ=> ?_)
 refine W.s0 X [0] rfl ⟨⟩ ?_
 refine W.seq ?_
 refine W.s0 X [0,4] rfl ⟨⟩ ?_
 refine W.block ?_
 refine W.aE (fun k=>k≤l.length∧(l.take k).all (fun a=>decide ((a.length:Int)=24))=true) (fun k:Nat=> [(4, .one (.a (.lit (.int .i64 k))))]) (fun k=> []) (fun k=>l.length-k) 0 (fun k=>rfl) ⟨Nat.zero_le _,rfl⟩ rfl ?_
 rintro k ⟨gS,hall⟩
 refine W.seq ?_
 refine W.s0 X [0,4,8] rfl ⟨⟩ ?_
 refine W.cond rfl (fun hb0=> ?_) (fun hb0=> ?_)
 ·try simp only[nb,an,aq,aa]at hb0
  refine W.skip ?_
  refine W.seq ?_
  refine W.block ?_
  refine W.s0 X [0,4,16] rfl (by and_intros<;>first|exact⟨⟩| (intros;omega)) ?_
  refine W.cond rfl (fun aB=> ?_) (fun aB=> ?_)
  ·try simp only[nb,an,aq,aa]at aB
   have hk:=Wz hb0 (fun h=>aB (by rw[h];rfl))
   refine W.s0 X [2,3] rfl (by and_intros<;>first|exact⟨⟩|exact rfl) ?_
   refine W.ret ?_
   exact Fin.ret rfl ⟨by rw[CV hk],by rw[hk],⟨⟩⟩
  ·try simp only[nb,an,aq,aa]at aB
   refine W.skip ?_
   refine W.r0 X [0,4] rfl ⟨⟩ ?_
   refine⟨k+1,⟨by omega,by rw[qi _ _ _ (au (.sl .u8)) hb0,hall,Bool.true_and];exact decide_eq_true aB⟩,by omega,?_⟩
   rw[aR _ k rfl (by omega)]
   try rfl
 ·try simp only[nb,an,aq,aa]at hb0
  rw[List.take_of_length_le hb0]at hall
  refine W.exit ?_
  refine W.seq ?_
  refine W.sr X [] [(20,⟨false,[.a (.lit (.bool (cq (l.length:Int))))]⟩)] [0,21] [] rfl (by(repeat' with_reducible first|exact aj.nil|refine aj.mk ?_ ?_|apply And.intro)<;>first|exact(gk (l.length:Int))) ?_
  refine W.cond rfl (fun aM=> ?_) (fun aM=> ?_)
  ·have hk:fL l=false:=by rw[fL,hall];simpa using aM
   refine W.s0 X [2,3] rfl (by and_intros<;>first|exact⟨⟩|exact rfl) ?_
   refine W.ret ?_
   exact Fin.ret rfl ⟨by rw[CV hk],by rw[hk],⟨⟩⟩
  ·have hk:fL l=true:=by rw[fL,hall];simpa using aM
   have hel:=Kn hk
   refine W.skip ?_
   refine W.sr X [] [(24,⟨true,[.a (.sl .u8 (uE l))]⟩)] [2,3] [] rfl (by(repeat' with_reducible first|exact aj.nil|refine aj.mk ?_ ?_|apply And.intro)<;>first|exact(FC l hel)) ?_
   refine W.ret ?_
   exact Fin.ret rfl ⟨by rw[Ig hk],by rw[hk],⟨⟩⟩
theorem uJ(l:List bQ)(hl:l.length≤1048576):Sound ty Tryz.prog 417 [.a (.sl .bQ l)] [.a (.sl .u8 (Ob (l.map bQ.data))), .a (.lit (.bool (fL (l.map bQ.data))))]:=by
 refine Sound.o X Tryz.call417 Tryz.func417 Tryz.ntmps417 rfl rfl ?_
 intro zb
 refine W.s0 X [0] rfl ⟨⟩ ?_
 refine W.s0 X [0,4] rfl (by and_intros<;>first|exact⟨⟩|exact rfl) ?_
 refine W.toBrr 4 60 rfl ?_
 refine W.seq ?_
 refine W.s0 X [0,4,5] rfl ⟨⟩ ?_
 refine W.block ?_
 refine W.aE (fun k=>k≤l.length) (fun k:Nat=> [(5, .one (.a (.lit (.int .i64 k))))]) (fun k=> [(60, .lZ (.sl .u8) ((l.take k).map bQ.data) .oB)]) (fun k=>l.length-k) 0 (fun k=>rfl) (Nat.zero_le _) rfl ?_
 intro k hk
 have hle:=aY l k
 refine W.seq ?_
 refine W.s0 X [0,4,5,10] rfl ⟨⟩ ?_
 refine W.cond rfl (fun hb0=> ?_) (fun hb0=> ?_)
 ·try simp only[nb,an,aq,aa]at hb0
  have hs:=l9 bQ.data l k (au .bQ) hb0
  have hml:((l.take k).map bQ.data).length=(l.take k).length:=List.length_map ..
  refine W.skip ?_
  refine W.seq ?_
  refine W.block ?_
  refine W.cD X [(20,60)] [] [0,4,5] [] rfl (by and_intros<;>first|exact⟨⟩| (intros;omega)|exact rfl| (simp only[cT,maxLen,lens];omega)) ?_
  refine W.r0 X [0,4,5] rfl ⟨⟩ ?_
  refine⟨k+1,by omega,by omega,?_⟩
  rw[aR _ k rfl (by omega),hs]
  try rfl
 ·try simp only[nb,an,aq,aa]at hb0
  rw[List.take_of_length_le hb0]
  refine W.exit ?_
  refine W.sr X [] [(22,⟨true,[.a (.sl .u8 (Ob (l.map bQ.data))), .a (.lit (.bool (fL (l.map bQ.data))))]⟩)] [2,3] [] rfl (by(repeat' with_reducible first|exact aj.nil|refine aj.mk ?_ ?_|apply And.intro)<;>first|exact(s6 (l.map bQ.data))) ?_
  refine W.ret ?_
  exact Fin.ret rfl ⟨rfl,rfl,⟨⟩⟩
theorem uK(x:aJ)(r row s:Int)(hk:okW x=true):Sound ty Tryz.prog 386 [.agg (aG x), .a (.lit (.int .i64 r)), .a (.lit (.int .i64 row)), .a (.lit (.int .i64 s))] [.a (.sl .u8 (xC x r row s)), .a (.lit (.bool (pz x r row s)))]:=by
 refine Sound.o X Tryz.call386 Tryz.func386 Tryz.ntmps386 rfl rfl ?_
 intro zb
 have har:=Ii hk
 have hql:=Oj r row s hk
 have hs4:=cN hk
 have hrl:=dL x.ah.length r row s
 have hw:IntKind.i64.wrap ((x.ah.length:Int)-1)=(x.ah.length:Int)-1:=bl (by omega)
 refine W.s0 X [1,2,3,4] rfl ⟨⟩ ?_
 refine W.sr X [] [(23,⟨true,[.agg (aF (dn x.ak.rounds r)), .a (.lit (.bool (gw x.ak.rounds r)))]⟩)] [1,2,3,4,10,11] [] rfl (by(repeat' with_reducible first|exact aj.nil|refine aj.mk ?_ ?_|apply And.intro)<;>first|exact(gx x.ak r ⟨by omega,har.2⟩)) ?_
 refine W.seq ?_
 refine W.s0 X [1,2,3,4,10,27] rfl ⟨⟩ ?_
 refine W.cond rfl (fun hb0=> ?_) (fun hb0=> ?_)
 ·have hh:gw x.ak.rounds r=false:=by simpa using hb0
  refine W.s0 X [8,9] rfl (by and_intros<;>first|exact⟨⟩|exact rfl) ?_
  refine W.ret ?_
  exact Fin.ret rfl ⟨by rw[(Ih hh).1],by rw[(Ih hh).2],⟨⟩⟩
 ·have hh:gw x.ak.rounds r=true:=by simpa using hb0
  have ZY:=Ok (row:=row) (s:=s) hh
  refine W.skip ?_
  refine W.s0 X [1,2,3,4,10,12] rfl (by and_intros<;>first|exact⟨⟩|exact rfl) ?_
  refine W.seq ?_
  refine W.s0 X [1,2,3,4,10,12,13] rfl ⟨⟩ ?_
  refine W.block ?_
  refine W.aE (fun k=>k≤(x.ah.length-1)) (fun k:Nat=> [(13, .one (.a (.lit (.int .i64 k))))]) (fun k=> [(29, .arr .int ((cG x.ah.length r row s).take k))]) (fun k=>(x.ah.length-1)-k) 0 (fun k=>rfl) (Nat.zero_le _) rfl ?_
  intro k hk
  have hle:=aY (cG x.ah.length r row s) k
  refine W.seq ?_
  refine W.s0 X [1,2,3,4,10,12,13,35] rfl ⟨⟩ ?_
  refine W.cond rfl (fun aB=> ?_) (fun aB=> ?_)
  ·try simp only[nb,an,aq,aa]at aB
   rw[hw]at aB
   have hs:=uq x.ah.length r row s k (by omega)
   refine W.skip ?_
   refine W.seq ?_
   refine W.block ?_
   refine W.cD X [(46,29)] [(44,⟨false,[.a (.lit (.int .i64 (kh s [229,r,row,(k:Int)])))]⟩)] [1,2,3,4,10,12,13] [] rfl (by(repeat' with_reducible first|exact aj.nil|refine aj.mk ?_ ?_|apply And.intro)<;>first|exact(aW s [229,r,row,(k:Int)] (by first|assumption|omega| (simp;done)| (simp;omega)))|exact rfl|exact⟨rfl,bA _ (by decide)⟩| (simp only[cT,maxLen,lens];omega)) ?_
   refine W.r0 X [1,2,3,4,10,12,13] rfl ⟨⟩ ?_
   refine⟨k+1,by omega,by omega,?_⟩
   rw[aR _ k rfl (by omega),hs]
   try rfl
  ·try simp only[nb,an,aq,aa]at aB
   rw[hw]at aB
   refine W.exit ?_
   refine W.seq ?_
   rw[List.take_of_length_le (show(cG x.ah.length r row s).length≤k by omega)]
   refine W.cD X [] [(51,⟨true,[.a (.sl (.sl .int) (eM x.rows row (cG x.ah.length r row s)))]⟩)] [1,4,10,14] [] rfl (by(repeat' with_reducible first|exact aj.nil|refine aj.mk ?_ ?_|apply And.intro)<;>first|exact(qC x.rows row (cG x.ah.length r row s) (by omega))) ?_
   refine W.s0 X [1,4,10,14,15] rfl (by and_intros<;>first|exact⟨⟩|exact rfl) ?_
   refine W.seq ?_
   refine W.s0 X [1,4,10,14,15,16] rfl ⟨⟩ ?_
   refine W.block ?_
   refine W.aE (fun k1=>k1≤(query' x r row s).length) (fun k1:Nat=> [(16, .one (.a (.lit (.int .i64 k1))))]) (fun k1=> [(52, .arr .bQ (mZ x r (dn x.ak.rounds r) (query' x r row s) k1))]) (fun k1=>(query' x r row s).length-k1) 0 (fun k1=>rfl) (Nat.zero_le _) rfl ?_
   intro k1 hk1
   have hal:=Gz x r (dn x.ak.rounds r) (query' x r row s) k1
   have hqy:(eM x.rows row (cG x.ah.length r row s)).length=(query' x r row s).length:=rfl
   refine W.seq ?_
   refine W.s0 X [1,4,10,14,15,16,56] rfl ⟨⟩ ?_
   refine W.cond rfl (fun aM=> ?_) (fun aM=> ?_)
   ·try simp only[nb,an,aq,aa]at aM
    have hqe:=To x r row s k1
    have hs1:=EI x r (dn x.ak.rounds r) (query' x r row s) k1
    refine W.skip ?_
    refine W.seq ?_
    refine W.block ?_
    refine W.seq ?_
    refine W.fZ X [] [(68,⟨false,[.a (.lit (.int .i64 (fU x.az (k1:Int))))]⟩),(75,⟨true,[.agg (dJ (Fo (x.ah.getD k1 (au .aO)) (fU x.az (k1:Int)) r (dn x.ak.rounds r) ((query' x r row s).getD k1 (au (.sl .int))))), .a (.lit (.bool (iV (dn x.ak.rounds r) ((query' x r row s).getD k1 (au (.sl .int))))))]⟩)] [1,4,10,14,15,16,17] [] 3145727 (.ph 1048575 (.br 1048575 20 (.last 2097152) (.br 786431 20 (.last 2359296) (.nil)))) 1 MO (by kernel_rfl) rfl (by kernel_rfl) (by(repeat' with_reducible first|exact aj.nil|refine aj.mk ?_ ?_|apply And.intro);(iterate 2 all_goals try first|exact(gu x.az (k1:Int))|exact(sN (x.ah.getD k1 (au .aO)) (fU x.az (k1:Int)) r (dn x.ak.rounds r) ((query' x r row s).getD k1 (au (.sl .int))) (by omega)));all_goals first| (intros;omega)) ?_
    refine W.cD X [(81,52)] [] [1,4,10,14,15,16] [] rfl (by and_intros<;>first|exact⟨⟩|exact rfl| (simp only[cT,maxLen,lens];omega)) ?_
    refine W.r0 X [1,4,10,14,15,16] rfl ⟨⟩ ?_
    refine⟨k1+1,by omega,by omega,?_⟩
    rw[aR _ k1 rfl (by omega),hs1]
    try rfl
   ·try simp only[nb,an,aq,aa]at aM
    refine W.exit ?_
    refine W.sr X [] [(83,⟨true,[.a (.sl .u8 (Ob ((mZ x r (dn x.ak.rounds r) (query' x r row s) k1).map bQ.data))), .a (.lit (.bool (fL ((mZ x r (dn x.ak.rounds r) (query' x r row s) k1).map bQ.data))))]⟩)] [8,9] [] rfl (by(repeat' with_reducible first|exact aj.nil|refine aj.mk ?_ ?_|apply And.intro)<;>first|exact(uJ (mZ x r (dn x.ak.rounds r) (query' x r row s) k1) (by omega))) ?_
    refine W.ret ?_
    exact Fin.ret rfl ⟨by rw[ZY.1,show k1=(query' x r row s).length by omega];rfl,by rw[ZY.2,show k1=(query' x r row s).length by omega];rfl,⟨⟩⟩
end
section
set_option maxRecDepth 100000
theorem lP(c:ep)(h0:bX List.length c.av≤1048576∧bX List.length c.inbox≤1048576):Sound ty Tryz.prog 294 [.agg (bn c)] [.agg (bz (⟨c,c⟩:aL))]:=by
 refine Sound.o X Tryz.call294 Tryz.func294 Tryz.ntmps294 rfl rfl ?_
 intro zb
 refine W.s0 X [1,2] rfl ⟨⟩ ?_
 refine W.sd X [(6,40)] [(4,⟨true,[.agg (bn c)]⟩),(6,⟨true,[.agg (bn c)]⟩)] [2] [] 5 MO (by kernel_rfl) rfl (by(repeat' with_reducible first|exact aj.nil|refine aj.mk ?_ ?_|apply And.intro);(iterate 2 all_goals try first|exact(ff c h0))) ?_
 refine W.ret ?_
 exact Fin.ret rfl ⟨rfl,rfl,rfl,rfl,rfl,rfl,rfl,rfl,rfl,rfl,rfl,rfl,rfl,rfl,rfl,rfl,⟨⟩⟩
theorem zC(d:aL)(h0:aP d≤1048576):Sound ty Tryz.prog 178 [.agg (bz d)] [.agg (bz (Lx d))]:=by
 refine Sound.o X Tryz.call178 Tryz.func178 Tryz.ntmps178 rfl rfl ?_
 intro zb
 have wV:bD d.live≤1048576∧bD d.saved≤1048576:=by unfold aP at h0;omega
 unfold bD at wV
 refine W.s0 X [1,2] rfl ⟨⟩ ?_
 refine W.seq ?_
 refine W.sr X [] [(4,⟨false,[.a (.lit (.bool (cL d)))]⟩)] [1,2,5] [] rfl (by(repeat' with_reducible first|exact aj.nil|refine aj.mk ?_ ?_|apply And.intro)<;>first|exact(dA d)) ?_
 refine W.cond rfl (fun hb0=> ?_) (fun hb0=> ?_)
 ·have hk:cL d=false:=by simpa using hb0
  have hd:Lx d=d:=by rw[Lx,hk];rfl
  refine W.sr X [] [(7,⟨true,[.agg (bz d)]⟩)] [2] [] rfl (by(repeat' with_reducible first|exact aj.nil|refine aj.mk ?_ ?_|apply And.intro)<;>first|exact(iH d h0)) ?_
  refine W.ret ?_
  exact Fin.ret rfl (by and_intros<;>first|exact⟨⟩| (rw[hd];done))
 ·have hk:cL d=true:=by simpa using hb0
  have hd:Lx d=⟨d.live,d.live⟩:=by rw[Lx,if_pos hk]
  refine W.skip ?_
  refine W.sr X [] [(10,⟨true,[.agg (bz (⟨d.live,d.live⟩:aL))]⟩)] [2] [] rfl (by(repeat' with_reducible first|exact aj.nil|refine aj.mk ?_ ?_|apply And.intro)<;>first|exact(lP d.live ⟨by omega,by omega⟩)) ?_
  refine W.ret ?_
  exact Fin.ret rfl (by and_intros<;>first|exact⟨⟩| (rw[hd];done))
theorem A9(d:aL):Sound ty Tryz.prog 419 [.agg (bz d)] [.a (.lit (.bool (wM d)))]:=by
 refine Sound.o X Tryz.call419 Tryz.func419 Tryz.ntmps419 rfl rfl ?_
 intro zb
 refine W.s0 X [1] rfl ⟨⟩ ?_
 refine W.sr X [] [(4,⟨false,[.a (.lit (.bool (cL d)))]⟩)] [2] [] rfl (by(repeat' with_reducible first|exact aj.nil|refine aj.mk ?_ ?_|apply And.intro)<;>first|exact(dA d)) ?_
 refine W.ret ?_
 exact Fin.ret rfl ⟨(congrArg Value.bool (by simp only[wM,aH]<;>first|rfl|ac_rfl)),⟨⟩⟩
theorem zD(c:ep)(r n:Int):Sound ty Tryz.prog 385 [.agg (bn c), .a (.lit (.int .i64 r)), .a (.lit (.int .i64 n))] [.a (.lit (.int .i64 (dN c.key r (bS c) n))), .a (.lit (.int .i64 (dN c.key r (1-bS c) n)))]:=by
 refine Sound.o X Tryz.call385 Tryz.func385 Tryz.ntmps385 rfl rfl ?_
 intro zb
 have hdw:=TT c
 refine W.s0 X [1,2,3] rfl ⟨⟩ ?_
 refine W.sr X [] [(10,⟨false,[.a (.lit (.int .i64 (bS c)))]⟩)] [1,2,3,8] [] rfl (by(repeat' with_reducible first|exact aj.nil|refine aj.mk ?_ ?_|apply And.intro)<;>first|exact(eL c)) ?_
 refine W.sd X [] [(16,⟨false,[.a (.lit (.int .i64 (dN c.key r (bS c) n)))]⟩),(23,⟨false,[.a (.lit (.int .i64 (dN c.key r (IntKind.i64.wrap (1-bS c)) n)))]⟩)] [6,7] [] 15 MO (by kernel_rfl) rfl (by(repeat' with_reducible first|exact aj.nil|refine aj.mk ?_ ?_|apply And.intro);(iterate 2 all_goals try first|exact(ku c.key r (bS c) n)|exact(ku c.key r (IntKind.i64.wrap (1-bS c)) n))) ?_
 refine W.ret ?_
 exact Fin.ret rfl ⟨rfl,by rw[hdw],⟨⟩⟩
theorem zE(c:ep)(r:Int)(own other:List UInt8)(h0:bX List.length c.av≤1048576∧bX List.length c.inbox≤1048576):Sound ty Tryz.prog 418 [.agg (bn c), .a (.lit (.int .i64 r)), .a (.sl .u8 own), .a (.sl .u8 other)] [.agg (bn (eN c r own other)), .a (.lit (.bool (oF c r)))]:=by
 refine Sound.o X Tryz.call418 Tryz.func418 Tryz.ntmps418 rfl rfl ?_
 intro zb
 refine W.s0 X [1,2,3,4,8] rfl ⟨⟩ ?_
 refine W.sr X [] [(14,⟨true,[.agg (bn c)]⟩)] [1,2,3,4,8,10] [] rfl (by(repeat' with_reducible first|exact aj.nil|refine aj.mk ?_ ?_|apply And.intro)<;>first|exact(ff c h0)) ?_
 refine W.seq ?_
 refine W.sr X [] [(16,⟨false,[.a (.lit (.bool (dh c)))]⟩),(22,⟨false,[.a (.lit (.bool (inr r c.next 99999)))]⟩)] [1,2,3,4,8,10,24] [] rfl (by(repeat' with_reducible first|exact aj.nil|refine aj.mk ?_ ?_|apply And.intro);(iterate 2 all_goals try first|exact(dz c)|exact fun _=>(aK r c.next 99999))) ?_
 refine W.cond rfl (fun hb0=> ?_) (fun hb0=> ?_)
 ·have hk:oF c r=false:=bK hb0 (by simp only[oF,aH]<;>first|rfl|ac_rfl)
  have hc:=KB (own:=own) (other:=other) hk
  refine W.s0 X [8,9] rfl (by and_intros<;>exact⟨⟩) ?_
  refine W.ret ?_
  exact Fin.ret rfl (by and_intros<;>first|exact⟨⟩| (rw[hc];done)| (rw[hk];done))
 ·have hk:oF c r=true:=bG hb0 (by simp only[oF,aH]<;>first|rfl|ac_rfl)
  obtain⟨hok,hn1,hn2,Vq⟩:=TO hk
  obtain⟨hu1,XM,_,_,hs0,hs9,_,_⟩:=qL hok
  have hc:eN c r own other=⟨c.id,c.eu,c.key,c.seed,c.av,if sK c own then c.sent+1 else c.sent,if jW c other then c.inbox++ [(Lw (EH c) (c.inbox.length:Int) other).body]else c.inbox,r+1⟩:=by rw[eN,if_pos hk]
  refine W.skip ?_
  refine W.seq ?_
  refine W.sr X [] [(35,⟨false,[.a (.sl .u8 (qz c c.sent))]⟩),(36,⟨false,[.a (.lit (.bool (own==(qz c c.sent))))]⟩)] [1,3,4,8,10,37] [] rfl ⟨fun _=>kA own (qz c c.sent),fun h=>uo c hs0 (of_decide_eq_true h),⟨⟩⟩ ?_
  refine W.cond rfl (fun aB=> ?_) (fun aB=> ?_)
  ·have hh:sK c own=true:=kN aB (by simp only[sK,aH]<;>first|rfl|ac_rfl)
   refine W.r0 X [1,3,4,8,10] rfl ⟨⟩ ?_
   rw[bl (a:=c.sent+1) (by omega)]
   refine W.seq ?_
   refine W.fZ X [] [(46,⟨false,[.a (.lit (.int .i64 (bS c)))]⟩),(48,⟨false,[.a (.lit (.int .i64 (jN c.key (IntKind.i64.wrap (1-bS c)))))]⟩),(53,⟨true,[.agg (eW (Lw (jN c.key (IntKind.i64.wrap (1-bS c))) (c.inbox.length:Int) other)), .a (.lit (.bool (mu (jN c.key (IntKind.i64.wrap (1-bS c))) (c.inbox.length:Int) other)))]⟩)] [1,4,8,10,11,12] [] 98303 (.ph 32767 (.br 32767 15 (.last 65536) (.br 24575 15 (.last 73728) (.nil)))) 1 MO (by kernel_rfl) rfl (by kernel_rfl) (by(repeat' with_reducible first|exact aj.nil|refine aj.mk ?_ ?_|apply And.intro);(iterate 3 all_goals try first|exact(eL c)|exact(je c.key (IntKind.i64.wrap (1-bS c)))|exact(sM (jN c.key (IntKind.i64.wrap (1-bS c))) (c.inbox.length:Int) other))) ?_
   rw[zB]
   refine W.seq ?_
   refine W.s0 X [1,8,10,11,67] rfl ⟨⟩ ?_
   refine W.cond rfl (fun aM=> ?_) (fun aM=> ?_)
   ·have hg:jW c other=true:=kN aM (by simp only[jW,aH]<;>first|rfl|ac_rfl)
    refine W.r0 X [1,8,10] rfl (by and_intros<;>first|exact⟨⟩|exact rfl| (simp only[cT,maxLen,lens];omega)) ?_
    refine W.s0 X [8,10] rfl ⟨⟩ ?_
    rw[bl (a:=r+1) (by omega)]
    refine W.s0 X [8,9] rfl (by and_intros<;>exact⟨⟩) ?_
    refine W.ret ?_
    exact Fin.ret rfl (by and_intros<;>first|exact⟨⟩| (rw[hc];done)| (rw[hc];simp only[hh,if_true];done)| (rw[hc];simp only[hg,if_true];done)| (rw[hk];done))
   ·have hg:jW c other=false:=n8 aM (by simp only[jW,aH]<;>first|rfl|ac_rfl)
    refine W.skip ?_
    refine W.s0 X [8,10] rfl ⟨⟩ ?_
    rw[bl (a:=r+1) (by omega)]
    refine W.s0 X [8,9] rfl (by and_intros<;>exact⟨⟩) ?_
    refine W.ret ?_
    exact Fin.ret rfl (by and_intros<;>first|exact⟨⟩| (rw[hc];done)| (rw[hc];simp only[hh,if_true];done)| (rw[hc];simp[hg];done)| (rw[hk];done))
  ·have hh:sK c own=false:=n8 aB (by simp only[sK,aH]<;>first|rfl|ac_rfl)
   refine W.skip ?_
   refine W.seq ?_
   refine W.fZ X [] [(46,⟨false,[.a (.lit (.int .i64 (bS c)))]⟩),(48,⟨false,[.a (.lit (.int .i64 (jN c.key (IntKind.i64.wrap (1-bS c)))))]⟩),(53,⟨true,[.agg (eW (Lw (jN c.key (IntKind.i64.wrap (1-bS c))) (c.inbox.length:Int) other)), .a (.lit (.bool (mu (jN c.key (IntKind.i64.wrap (1-bS c))) (c.inbox.length:Int) other)))]⟩)] [1,4,8,10,11,12] [] 98303 (.ph 32767 (.br 32767 15 (.last 65536) (.br 24575 15 (.last 73728) (.nil)))) 1 MO (by kernel_rfl) rfl (by kernel_rfl) (by(repeat' with_reducible first|exact aj.nil|refine aj.mk ?_ ?_|apply And.intro);(iterate 3 all_goals try first|exact(eL c)|exact(je c.key (IntKind.i64.wrap (1-bS c)))|exact(sM (jN c.key (IntKind.i64.wrap (1-bS c))) (c.inbox.length:Int) other))) ?_
   rw[zB]
   refine W.seq ?_
   refine W.s0 X [1,8,10,11,67] rfl ⟨⟩ ?_
   refine W.cond rfl (fun aM=> ?_) (fun aM=> ?_)
   ·have hg:jW c other=true:=kN aM (by simp only[jW,aH]<;>first|rfl|ac_rfl)
    refine W.r0 X [1,8,10] rfl (by and_intros<;>first|exact⟨⟩|exact rfl| (simp only[cT,maxLen,lens];omega)) ?_
    refine W.s0 X [8,10] rfl ⟨⟩ ?_
    rw[bl (a:=r+1) (by omega)]
    refine W.s0 X [8,9] rfl (by and_intros<;>exact⟨⟩) ?_
    refine W.ret ?_
    exact Fin.ret rfl (by and_intros<;>first|exact⟨⟩| (rw[hc];done)| (rw[hc];simp[hh];done)| (rw[hc];simp only[hg,if_true];done)| (rw[hk];done))
   ·have hg:jW c other=false:=n8 aM (by simp only[jW,aH]<;>first|rfl|ac_rfl)
    refine W.skip ?_
    refine W.s0 X [8,10] rfl ⟨⟩ ?_
    rw[bl (a:=r+1) (by omega)]
    refine W.s0 X [8,9] rfl (by and_intros<;>exact⟨⟩) ?_
    refine W.ret ?_
    exact Fin.ret rfl (by and_intros<;>first|exact⟨⟩| (rw[hc];done)| (rw[hc];simp[hh];done)| (rw[hc];simp[hg];done)| (rw[hk];done))
theorem vX(d:aL)(r:Int)(own other:List UInt8)(h0:aP d≤1048576):Sound ty Tryz.prog 387 [.agg (bz d), .a (.lit (.int .i64 r)), .a (.sl .u8 own), .a (.sl .u8 other)] [.agg (bz (rdev d r own other)), .a (.lit (.bool (qQ d r)))]:=by
 refine Sound.o X Tryz.call387 Tryz.func387 Tryz.ntmps387 rfl rfl ?_
 intro zb
 have wV:bD d.live≤1048576∧bD d.saved≤1048576:=by unfold aP at h0;omega
 unfold bD at wV
 refine W.s0 X [1,2,3,4,8] rfl ⟨⟩ ?_
 refine W.sr X [] [(19,⟨true,[.agg (bn (eN d.live r own other)), .a (.lit (.bool (oF d.live r)))]⟩)] [4,8,10,11] [] rfl (by(repeat' with_reducible first|exact aj.nil|refine aj.mk ?_ ?_|apply And.intro)<;>first|exact(zE d.live r own other ⟨by omega,by omega⟩)) ?_
 refine W.seq ?_
 refine W.sr X [] [(23,⟨false,[.a (.lit (.bool (cL d)))]⟩)] [4,8,10,28] [] rfl (by(repeat' with_reducible first|exact aj.nil|refine aj.mk ?_ ?_|apply And.intro)<;>first|exact(dA d)) ?_
 refine W.cond rfl (fun hb0=> ?_) (fun hb0=> ?_)
 ·have hk:qQ d r=false:=bK hb0 (by simp only[qQ,aH]<;>first|rfl|ac_rfl)
  have hd:=Ov (own:=own) (other:=other) hk
  refine W.sr X [] [(30,⟨true,[.agg (bz d)]⟩)] [8,9] [] rfl (by(repeat' with_reducible first|exact aj.nil|refine aj.mk ?_ ?_|apply And.intro)<;>first|exact(iH d h0)) ?_
  refine W.ret ?_
  exact Fin.ret rfl (by and_intros<;>first|exact⟨⟩| (rw[hd];done)| (rw[hk];done))
 ·have hk:qQ d r=true:=bG hb0 (by simp only[qQ,aH]<;>first|rfl|ac_rfl)
  have hz:=KC (own:=own) (other:=other) hk
  refine W.skip ?_
  refine W.sd X [] [(34,⟨true,[.agg (bn d.saved)]⟩)] [8,12] [] 6 MO (by kernel_rfl) rfl (by(repeat' with_reducible first|exact aj.nil|refine aj.mk ?_ ?_|apply And.intro)<;>first|exact(ff d.saved ⟨by omega,by omega⟩)) ?_
  refine W.seq ?_
  refine W.sr X [] [(37,⟨false,[.a (.lit (.bool (wM (mw d r own other))))]⟩)] [8,12,37] [] rfl (by(repeat' with_reducible first|exact aj.nil|refine aj.mk ?_ ?_|apply And.intro)<;>first|exact(A9 (mw d r own other))) ?_
  refine W.cond rfl (fun aB=> ?_) (fun aB=> ?_)
  ·have hd:=Ox hk aB
   refine W.sr X [] [(39,⟨true,[.agg (bz (Lx (mw d r own other)))]⟩)] [8,9] [] rfl (by(repeat' with_reducible first|exact aj.nil|refine aj.mk ?_ ?_|apply And.intro)<;>first|exact(zC (mw d r own other) hz)) ?_
   refine W.ret ?_
   exact Fin.ret rfl (by and_intros<;>first|exact⟨⟩| (rw[hd];done)| (rw[hk];done))
  ·have hd:=Oy hk aB
   refine W.skip ?_
   refine W.s0 X [8,9] rfl (by and_intros<;>exact⟨⟩) ?_
   refine W.ret ?_
   exact Fin.ret rfl (by and_intros<;>first|exact⟨⟩| (rw[hd];rfl;done)| (rw[hk];done))
theorem Ba(x:aJ)(h0:wB x):Sound ty Tryz.prog 322 [.agg (aG x)] [.agg (aG (wN x))]:=by
 refine Sound.o X Tryz.call322 Tryz.func322 Tryz.ntmps322 rfl rfl ?_
 intro zb
 have hls:bX bp x.ah≤1048576∧bX aP x.af≤1048576∧cB x.ak≤1048576∧x.replaced.length≤4194304:=h0
 have j0:=cI hls.2.1
 refine W.s0 X [1,2] rfl ⟨⟩ ?_
 refine W.sr X [] [(17,⟨true,[.agg (aG x)]⟩)] [1,2,3] [] rfl (by(repeat' with_reducible first|exact aj.nil|refine aj.mk ?_ ?_|apply And.intro)<;>first|exact(fj x h0)) ?_
 refine W.seq ?_
 refine W.sr X [] [(19,⟨false,[.a (.lit (.bool (okW x)))]⟩)] [1,2,3,20] [] rfl (by(repeat' with_reducible first|exact aj.nil|refine aj.mk ?_ ?_|apply And.intro)<;>first|exact(cz x)) ?_
 refine W.cond rfl (fun hb0=> ?_) (fun hb0=> ?_)
 ·have gS:okW x=false:=by simpa using hb0
  have hw:=TS gS
  refine W.s0 X [2] rfl (by and_intros<;>exact⟨⟩) ?_
  refine W.ret ?_
  exact Fin.ret rfl (by and_intros<;>first|exact⟨⟩| (rw[hw];done))
 ·have gS:okW x=true:=by simpa using hb0
  have hw:=Oz gS
  have har:=Ii gS
  have hd8:=(oS (kD gS)).2.1
  refine W.skip ?_
  refine W.seq ?_
  refine W.s0 X [1,2,3,4] rfl ⟨⟩ ?_
  refine W.block ?_
  refine W.aE (fun k=>k≤x.af.length) (fun k:Nat=> [(4, .one (.a (.lit (.int .i64 k))))]) (fun k=> [(19, .arr .aL (P7 x k))]) (fun k=>x.af.length-k) 0 (fun k=>rfl) (Nat.zero_le _) rfl ?_
  intro k hk
  have nG:=Of x k hk
  refine W.seq ?_
  refine W.s0 X [1,2,3,4,26] rfl ⟨⟩ ?_
  refine W.cond rfl (fun aB=> ?_) (fun aB=> ?_)
  ·try simp only[nb,an,aq,aa]at aB
   rw[nG]at aB
   have hrg:=Oe x k aB
   have h00:=Tf x k aB
   have B4:=xy x.ak.rounds (x.af.getD k (au .aL)).live.next
   have aex:(gP x (x.af.getD k (au .aL))).length≤x.ak.rounds.length:=B4
   have hrq:(fk x.ak.rounds (x.af.getD k (au .aL)).live.next).length=(gP x (x.af.getD k (au .aL))).length:=rfl
   refine W.skip ?_
   refine W.seq ?_
   refine W.block ?_
   refine W.sd X [] [(38,⟨true,[.a (.sl .int (fk x.ak.rounds (((P7 x k).getD k (au .aL)).live.next)))]⟩)] [1,2,3,4,5] [] 11 MO (by kernel_rfl) rfl (by(repeat' with_reducible first|exact aj.nil|refine aj.mk ?_ ?_|apply And.intro)<;>first|exact(xz x.ak (((P7 x k).getD k (au .aL)).live.next) (by omega))| (intros;omega)) ?_
   rw[hrg]
   refine W.s0 X [1,2,3,4,5,6] rfl ⟨⟩ ?_
   refine W.block ?_
   refine W.aE (fun k1=>k1≤(gP x (x.af.getD k (au .aL))).length) (fun k1:Nat=> [(6, .one (.a (.lit (.int .i64 k1))))]) (fun k1=> [(19, .arr .aL (jh x k k1))]) (fun k1=>(gP x (x.af.getD k (au .aL))).length-k1) 0 (fun k1=>rfl) (Nat.zero_le _) (by rw[h00];rfl) ?_
   intro k1 hk1
   have oD:=Oc x k k1 aB
   refine W.seq ?_
   refine W.s0 X [1,2,3,4,5,6,42] rfl ⟨⟩ ?_
   refine W.cond rfl (fun aM=> ?_) (fun aM=> ?_)
   ·try simp only[nb,an,aq,aa]at aM
    have hs:=TR x k k1 aB aM
    have hsz:=TP gS aB k1
    refine W.skip ?_
    refine W.seq ?_
    refine W.block ?_
    refine W.s0 X [1,2,3,4,5,6,7] rfl (by and_intros<;>first|exact⟨⟩| (intros;omega)) ?_
    refine W.sd X [] [(59,⟨false,[.a (.lit (.int .i64 (dN (((jh x k k1).getD k (au .aL)).live).key ((gP x (x.af.getD k (au .aL))).getD k1 (au .int)) (bS (((jh x k k1).getD k (au .aL)).live)) x.rows))), .a (.lit (.int .i64 (dN (((jh x k k1).getD k (au .aL)).live).key ((gP x (x.af.getD k (au .aL))).getD k1 (au .int)) (1-bS (((jh x k k1).getD k (au .aL)).live)) x.rows)))]⟩)] [1,2,3,4,5,6,7,8,9] [] 13 MO (by kernel_rfl) rfl (by(repeat' with_reducible first|exact aj.nil|refine aj.mk ?_ ?_|apply And.intro)<;>first|exact(zD (((jh x k k1).getD k (au .aL)).live) ((gP x (x.af.getD k (au .aL))).getD k1 (au .int)) x.rows)| (intros;omega)) ?_
    refine W.sd X [] [(71,⟨true,[.a (.sl .u8 (xC x ((gP x (x.af.getD k (au .aL))).getD k1 (au .int)) (dN ((jh x k k1).getD k (au .aL)).live.key ((gP x (x.af.getD k (au .aL))).getD k1 (au .int)) (bS ((jh x k k1).getD k (au .aL)).live) x.rows) (((jh x k k1).getD k (au .aL)).live.seed))), .a (.lit (.bool (pz x ((gP x (x.af.getD k (au .aL))).getD k1 (au .int)) (dN ((jh x k k1).getD k (au .aL)).live.key ((gP x (x.af.getD k (au .aL))).getD k1 (au .int)) (bS ((jh x k k1).getD k (au .aL)).live) x.rows) (((jh x k k1).getD k (au .aL)).live.seed))))]⟩)] [1,2,3,4,5,6,7,9,10] [] 14 MO (by kernel_rfl) rfl (by(repeat' with_reducible first|exact aj.nil|refine aj.mk ?_ ?_|apply And.intro)<;>first|exact(uK x ((gP x (x.af.getD k (au .aL))).getD k1 (au .int)) (dN ((jh x k k1).getD k (au .aL)).live.key ((gP x (x.af.getD k (au .aL))).getD k1 (au .int)) (bS ((jh x k k1).getD k (au .aL)).live) x.rows) (((jh x k k1).getD k (au .aL)).live.seed) gS)| (intros;omega)) ?_
    refine W.sd X [] [(83,⟨true,[.a (.sl .u8 (xC x ((gP x (x.af.getD k (au .aL))).getD k1 (au .int)) (dN ((jh x k k1).getD k (au .aL)).live.key ((gP x (x.af.getD k (au .aL))).getD k1 (au .int)) (1-bS ((jh x k k1).getD k (au .aL)).live) x.rows) (((jh x k k1).getD k (au .aL)).live.seed))), .a (.lit (.bool (pz x ((gP x (x.af.getD k (au .aL))).getD k1 (au .int)) (dN ((jh x k k1).getD k (au .aL)).live.key ((gP x (x.af.getD k (au .aL))).getD k1 (au .int)) (1-bS ((jh x k k1).getD k (au .aL)).live) x.rows) (((jh x k k1).getD k (au .aL)).live.seed))))]⟩)] [1,2,3,4,5,6,10,12] [] 14 MO (by kernel_rfl) rfl (by(repeat' with_reducible first|exact aj.nil|refine aj.mk ?_ ?_|apply And.intro)<;>first|exact(uK x ((gP x (x.af.getD k (au .aL))).getD k1 (au .int)) (dN ((jh x k k1).getD k (au .aL)).live.key ((gP x (x.af.getD k (au .aL))).getD k1 (au .int)) (1-bS ((jh x k k1).getD k (au .aL)).live) x.rows) (((jh x k k1).getD k (au .aL)).live.seed) gS)| (intros;omega)) ?_
    refine W.seq ?_
    refine W.fZ X [] [(98,⟨true,[.agg (bz (rdev ((jh x k k1).getD k (au .aL)) ((gP x (x.af.getD k (au .aL))).getD k1 (au .int)) (xC x ((gP x (x.af.getD k (au .aL))).getD k1 (au .int)) (dN ((jh x k k1).getD k (au .aL)).live.key ((gP x (x.af.getD k (au .aL))).getD k1 (au .int)) (bS ((jh x k k1).getD k (au .aL)).live) x.rows) ((jh x k k1).getD k (au .aL)).live.seed) (xC x ((gP x (x.af.getD k (au .aL))).getD k1 (au .int)) (dN ((jh x k k1).getD k (au .aL)).live.key ((gP x (x.af.getD k (au .aL))).getD k1 (au .int)) (1-bS ((jh x k k1).getD k (au .aL)).live) x.rows) ((jh x k k1).getD k (au .aL)).live.seed))), .a (.lit (.bool (qQ ((jh x k k1).getD k (au .aL)) ((gP x (x.af.getD k (au .aL))).getD k1 (au .int)))))]⟩)] [1,2,3,4,5,6,14] [] 196607 (.ph 65535 (.br 65535 16 (.last 131072) (.br 49151 16 (.last 147456) (.nil)))) 1 MO (by kernel_rfl) rfl (by kernel_rfl) (by(repeat' with_reducible first|exact aj.nil|refine aj.mk ?_ ?_|apply And.intro)<;>first|exact(vX ((jh x k k1).getD k (au .aL)) ((gP x (x.af.getD k (au .aL))).getD k1 (au .int)) (xC x ((gP x (x.af.getD k (au .aL))).getD k1 (au .int)) (dN ((jh x k k1).getD k (au .aL)).live.key ((gP x (x.af.getD k (au .aL))).getD k1 (au .int)) (bS ((jh x k k1).getD k (au .aL)).live) x.rows) ((jh x k k1).getD k (au .aL)).live.seed) (xC x ((gP x (x.af.getD k (au .aL))).getD k1 (au .int)) (dN ((jh x k k1).getD k (au .aL)).live.key ((gP x (x.af.getD k (au .aL))).getD k1 (au .int)) (1-bS ((jh x k k1).getD k (au .aL)).live) x.rows) ((jh x k k1).getD k (au .aL)).live.seed) hsz)| (intros;omega)) ?_
    refine W.r0 X [1,2,3,4,5,6] rfl (by and_intros<;>first|exact⟨⟩| (intros;omega)) ?_
    refine W.r0 X [1,2,3,4,5,6] rfl ⟨⟩ ?_
    refine⟨k1+1,by omega,by omega,?_⟩
    rw[aR _ k1 rfl (by omega), ←hs]
    try rfl
   ·try simp only[nb,an,aq,aa]at aM
    rw[Od x k k1 aB aM]
    refine W.exit ?_
    refine W.r0 X [1,2,3,4] rfl ⟨⟩ ?_
    refine⟨k+1,by omega,by omega,?_⟩
    rw[aR _ k rfl (by omega)]
    try rfl
  ·try simp only[nb,an,aq,aa]at aB
   rw[nG]at aB
   refine W.exit ?_
   refine W.s0 X [2] rfl (by and_intros<;>exact⟨⟩) ?_
   refine W.ret ?_
   exact Fin.ret rfl (by and_intros<;>first|exact⟨⟩| (rw[hw];done)| (rw[hw,Og x k (by omega) (by omega)];done))
end
section
set_option maxRecDepth 100000
theorem uP(s:aO)(c:Int)(hz:s.received.length≤1048576∧ ∀r,r∈s.received→bX List.length r.share.rows≤1048576):Sound ty Tryz.prog 17 [.agg (bq s), .a (.lit (.int .i64 c))] [.agg (aF (pV s.received c)), .a (.lit (.bool (jv s.received c)))]:=by
 refine Sound.o X Tryz.call17 Tryz.func17 Tryz.ntmps17 rfl rfl ?_
 intro zb
 refine W.b7 0 3 rfl rfl (fun Rw=> ?_)
 refine W.s0 X [1,2,4] rfl ⟨⟩ ?_
 refine W.seq ?_
 refine W.s0 X [1,2,4,6] rfl ⟨⟩ ?_
 refine W.block ?_
 refine W.aE (fun k=>k≤s.received.length∧(s.received.take k).any (QE c)=false) (fun k:Nat=> [(6, .one (.a (.lit (.int .i64 k))))]) (fun k=> []) (fun k=>s.received.length-k) 0 (fun k=>rfl) ⟨Nat.zero_le _,rfl⟩ rfl ?_
 rintro k ⟨hk,hall⟩
 refine W.seq ?_
 refine W.s0 X [1,2,4,6,11] rfl ⟨⟩ ?_
 refine W.cond rfl (fun hb0=> ?_) (fun hb0=> ?_)
 ·try simp only[nb,an,aq,aa]at hb0
  refine W.skip ?_
  refine W.seq ?_
  refine W.block ?_
  refine W.s0 X [1,2,4,6,21] rfl (by and_intros<;>first|exact⟨⟩| (intros;omega)) ?_
  refine W.cond rfl (fun aB=> ?_) (fun aB=> ?_)
  ·have hh:=Mx hb0 hall aB
   refine W.sr X [] [(28,⟨true,[.agg (aF ((s.received.getD k (au .aA)).share))]⟩)] [4,5] [] rfl (by(repeat' with_reducible first|exact aj.nil|refine aj.mk ?_ ?_|apply And.intro)<;>first|exact(eo ((s.received.getD k (au .aA)).share) (hz.2 _ (getD_in _ hb0)))| (intros;omega)) ?_
   refine W.ret ?_
   exact Fin.ret rfl ⟨by rw[hh.2],by rw[hh.1],⟨⟩⟩
  ·skip
   refine W.skip ?_
   refine W.r0 X [1,2,4,6] rfl ⟨⟩ ?_
   refine⟨k+1,⟨by omega,uk (au .aA) hb0 hall aB⟩,by omega,?_⟩
   rw[aR _ k rfl (by omega)]
   try rfl
 ·try simp only[nb,an,aq,aa]at hb0
  refine W.exit ?_
  refine W.s0 X [4,5] rfl (by and_intros<;>exact⟨⟩) ?_
  refine W.ret ?_
  exact Fin.ret rfl ⟨by rw[(CP (by rw[←hall,List.take_of_length_le hb0])).2],by rw[(CP (by rw[←hall,List.take_of_length_le hb0])).1],⟨⟩⟩
def mV:dH:=(.ph 131072 (.br 131072 18 (.last 0) (.nil)))
def nx:dH:=(.ph 32768 (.br 32768 11 (.ph 0 (.br 0 16 mV (.nil))) (.br 0 11 (.ph 32768 (.br 32768 16 mV (.nil))) (.nil))))
def vZ:dH:=(.ph 40960 (.br 40960 11 (.ph 0 (.br 0 16 mV (.nil))) (.br 8192 11 (.ph 32768 (.br 32768 16 mV (.nil))) (.br 0 11 (.ph 40960 (.br 40960 16 mV (.nil))) (.nil)))))
def KD:dH:=(.ph 57344 (.br 57344 11 (.ph 0 (.br 0 16 mV (.nil))) (.br 24576 11 (.ph 32768 (.br 32768 16 mV (.nil))) (.br 8192 11 (.ph 49152 (.br 49152 16 mV (.nil))) (.br 16384 11 (.ph 40960 (.br 40960 16 mV (.nil))) (.br 0 11 (.ph 57344 (.br 57344 16 mV (.nil))) (.nil)))))))
def Ck:dH:=(.ph 49152 (.br 49152 11 (.ph 0 (.br 0 16 mV (.nil))) (.br 16384 11 (.ph 32768 (.br 32768 16 mV (.nil))) (.br 0 11 (.ph 49152 (.br 49152 16 mV (.nil))) (.nil)))))
def KE:dH:=(.ph 45056 (.br 45056 11 (.ph 0 (.br 0 16 mV (.nil))) (.br 12288 11 (.ph 32768 (.br 32768 16 mV (.nil))) (.br 4096 11 (.ph 40960 (.br 40960 16 mV (.nil))) (.br 0 11 (.ph 45056 (.br 45056 16 mV (.nil))) (.nil))))))
def kX:dH:=(.ph 0 (.br 0 11 (.ph 0 (.br 0 16 mV (.nil))) (.nil)))
def WO:dH:=(.ph 61440 (.br 61440 11 (.ph 0 (.br 0 16 mV (.nil))) (.br 28672 11 (.ph 32768 (.br 32768 16 mV (.nil))) (.br 12288 11 (.ph 49152 (.br 49152 16 mV (.nil))) (.br 20480 11 (.ph 40960 (.br 40960 16 mV (.nil))) (.br 4096 11 (.ph 57344 (.br 57344 16 mV (.nil))) (.br 16384 11 (.ph 45056 (.br 45056 16 mV (.nil))) (.br 0 11 (.ph 61440 (.br 61440 16 mV (.nil))) (.nil)))))))))
theorem v8(s:aO)(c:Int)(d:DB)(hz:s.received.length≤1048576∧ ∀r,r∈s.received→bX List.length r.share.rows≤1048576)(hb: ∀r,r∈s.received→r.client<c)(hd:bX List.length d.rows≤1048576):Sound ty Tryz.prog 382 [.agg (bq s), .a (.lit (.int .i64 c)), .agg (aF d)] [.agg (bq (Kb s c d)), .a (.lit (.bool (ju s c d)))]:=by
 refine Sound.o X Tryz.call382 Tryz.func382 Tryz.ntmps382 rfl rfl ?_
 intro zb
 have kZ:=hz.1
 refine W.s0 X [1,3,5,6] rfl ⟨⟩ ?_
 refine W.sr X [] [(11,⟨true,[.agg (bq s)]⟩)] [1,3,5,6,8] [] rfl (by(repeat' with_reducible first|exact aj.nil|refine aj.mk ?_ ?_|apply And.intro)<;>first|exact(kQ s hz)) ?_
 refine W.s0 X [1,3,5,6,8,9] rfl ⟨⟩ ?_
 refine W.seq ?_
 refine W.block ?_
 refine W.aE (fun k=>k≤s.received.length) (fun k:Nat=> [(9, .one (.a (.lit (.int .i64 k))))]) (fun k=> []) (fun k=>s.received.length-k) 0 (fun k=>rfl) (Nat.zero_le _) rfl ?_
 intro k hk
 refine W.seq ?_
 refine W.s0 X [1,3,5,6,8,9,26] rfl (by refine⟨fun hzz=> ?_,fun hzz=> ?_,⟨⟩⟩<;>(have QC:decide ((k:Int)<(s.received.length:Int))=true:=hzz;rw[decide_eq_true_eq]at QC;dsimp only[hyps,G8];omega)) ?_
 refine W.cond rfl (fun hb0=> ?_) (fun hb0=> ?_)
 ·have nG:k<s.received.length:=by simp only[nb]at hb0;omega
  have hlt:=hb _ (getD_in (au .aA) nG)
  refine W.skip ?_
  refine W.block ?_
  refine W.r0 X [1,3,5,6,8,9] rfl ⟨⟩ ?_
  refine⟨k+1,by omega,by omega,?_⟩
  rw[aR _ k rfl (by omega)]
  try rfl
 ·have nG:k=s.received.length:=Wv hb hk hb0
  subst nG
  refine W.EF 8 3 rfl ?_
  refine W.exit ?_
  refine W.seq ?_
  refine W.fZ X [(34,29),(40,29),(45,29)] [(37,⟨true,[.agg (aF d)]⟩),(600044,⟨true,[]⟩)] [3,6,8] [] 193503 (.ph 61663 (.br 61663 5 (.ph 768 (.br 768 10 kX (.nil))) (.br 28895 5 (.ph 33536 (.br 33536 10 kX (.br 768 10 nx (.nil)))) (.br 12511 5 (.ph 49920 (.br 49920 10 kX (.br 17152 10 nx (.br 768 10 Ck (.nil))))) (.br 20703 5 (.ph 41728 (.br 41728 10 kX (.br 8960 10 nx (.br 768 10 vZ (.nil))))) (.br 4319 5 (.ph 58112 (.br 58112 10 kX (.br 25344 10 nx (.br 8960 10 Ck (.br 17152 10 vZ (.br 768 10 KD (.nil))))))) (.br 16607 5 (.ph 45824 (.br 45824 10 kX (.br 13056 10 nx (.br 4864 10 vZ (.br 768 10 KE (.nil)))))) (.br 223 5 (.ph 62208 (.br 62208 10 kX (.br 29440 10 nx (.br 13056 10 Ck (.br 21248 10 vZ (.br 4864 10 KD (.br 17152 10 KE (.br 768 10 WO (.nil))))))))) (.br 61535 5 (.ph 896 (.br 896 10 kX (.nil))) (.br 28767 5 (.ph 33664 (.br 33664 10 kX (.br 896 10 nx (.nil)))) (.br 12383 5 (.ph 50048 (.br 50048 10 kX (.br 17280 10 nx (.br 896 10 Ck (.nil))))) (.br 20575 5 (.ph 41856 (.br 41856 10 kX (.br 9088 10 nx (.br 896 10 vZ (.nil))))) (.br 4191 5 (.ph 58240 (.br 58240 10 kX (.br 25472 10 nx (.br 9088 10 Ck (.br 17280 10 vZ (.br 896 10 KD (.nil))))))) (.br 16479 5 (.ph 45952 (.br 45952 10 kX (.br 13184 10 nx (.br 4992 10 vZ (.br 896 10 KE (.nil)))))) (.br 95 5 (.ph 62336 (.br 62336 10 kX (.br 29568 10 nx (.br 13184 10 Ck (.br 21376 10 vZ (.br 4992 10 KD (.br 17280 10 KE (.br 896 10 WO (.nil))))))))) (.br 61599 5 (.ph 832 (.br 832 10 kX (.nil))) (.br 28831 5 (.ph 33600 (.br 33600 10 kX (.br 832 10 nx (.nil)))) (.br 12447 5 (.ph 49984 (.br 49984 10 kX (.br 17216 10 nx (.br 832 10 Ck (.nil))))) (.br 20639 5 (.ph 41792 (.br 41792 10 kX (.br 9024 10 nx (.br 832 10 vZ (.nil))))) (.br 4255 5 (.ph 58176 (.br 58176 10 kX (.br 25408 10 nx (.br 9024 10 Ck (.br 17216 10 vZ (.br 832 10 KD (.nil))))))) (.br 16543 5 (.ph 45888 (.br 45888 10 kX (.br 13120 10 nx (.br 4928 10 vZ (.br 832 10 KE (.nil)))))) (.br 159 5 (.ph 62272 (.br 62272 10 kX (.br 29504 10 nx (.br 13120 10 Ck (.br 21312 10 vZ (.br 4928 10 KD (.br 17216 10 KE (.br 832 10 WO (.nil))))))))) (.br 61471 5 (.ph 960 (.br 960 10 kX (.nil))) (.br 28703 5 (.ph 33728 (.br 33728 10 kX (.br 960 10 nx (.nil)))) (.br 12319 5 (.ph 50112 (.br 50112 10 kX (.br 17344 10 nx (.br 960 10 Ck (.nil))))) (.br 20511 5 (.ph 41920 (.br 41920 10 kX (.br 9152 10 nx (.br 960 10 vZ (.nil))))) (.br 4127 5 (.ph 58304 (.br 58304 10 kX (.br 25536 10 nx (.br 9152 10 Ck (.br 17344 10 vZ (.br 960 10 KD (.nil))))))) (.br 16415 5 (.ph 46016 (.br 46016 10 kX (.br 13248 10 nx (.br 5056 10 vZ (.br 960 10 KE (.nil)))))) (.br 31 5 (.ph 62400 (.br 62400 10 kX (.br 29632 10 nx (.br 13248 10 Ck (.br 21440 10 vZ (.br 5056 10 KD (.br 17344 10 KE (.br 960 10 WO (.nil))))))))) (.nil)))))))))))))))))))))))))))))) 259 MO (by kernel_rfl) rfl (by kernel_rfl) (by(repeat' with_reducible first|exact aj.nil|refine aj.mk ?_ ?_|apply And.intro)<;>first|exact(eo d hd)| (intros;omega)|exact rfl|exact⟨rfl,bA _ (by decide)⟩| (simp only[cT,maxLen,lens];omega)) ?_
  rw[ins_eq]
  refine W.seq ?_
  refine W.sr X [] [(48,⟨false,[.a (.lit (.bool (cj s)))]⟩),(52,⟨false,[.a (.lit (.bool (cj (kO s c d))))]⟩)] [3,6,8,54] [] rfl (by(repeat' with_reducible first|exact aj.nil|refine aj.mk ?_ ?_|apply And.intro);(iterate 2 all_goals try first|exact(cQ s)|exact fun _=>(cQ (kO s c d)))) ?_
  refine W.cond rfl (fun aB=> ?_) (fun aB=> ?_)
  ·have hr:ju s c d=false:=ab6 aB
   refine W.sr X [] [(56,⟨true,[.agg (bq s)]⟩)] [6,7] [] rfl (by(repeat' with_reducible first|exact aj.nil|refine aj.mk ?_ ?_|apply And.intro)<;>first|exact(kQ s hz)) ?_
   refine W.ret ?_
   exact Fin.ret rfl (by and_intros<;>first|exact⟨⟩| (rw[Mz hr];done)| (rw[hr];done))
  ·have hr:ju s c d=true:=ab7 aB
   refine W.skip ?_
   refine W.s0 X [6,7] rfl (by and_intros<;>exact⟨⟩) ?_
   refine W.ret ?_
   exact Fin.ret rfl (by and_intros<;>first|exact⟨⟩| (rw[H7 hr];rfl;done)| (rw[hr];done))
end
section
set_option maxRecDepth 100000
theorem uQ(x:aJ)(h0:wB x):Sound ty Tryz.prog 320 [.agg (aG x)] [.a (.sl .aO (aN x)), .a (.sl .dP (dO x))]:=by
 refine Sound.o X Tryz.call320 Tryz.func320 Tryz.ntmps320 rfl rfl ?_
 intro zb
 refine W.b7 0 1 rfl rfl (fun nj=> ?_)
 refine W.b7 0 2 rfl rfl (fun j0=> ?_)
 have oK:=Gu h0
 refine W.s0 X [1] rfl ⟨⟩ ?_
 refine W.s0 X [1,4] rfl (by and_intros<;>first|exact⟨⟩|exact rfl) ?_
 refine W.seq ?_
 refine W.sr X [] [(13,⟨false,[.a (.lit (.bool (okW x)))]⟩)] [1,4,14] [] rfl (by(repeat' with_reducible first|exact aj.nil|refine aj.mk ?_ ?_|apply And.intro)<;>first|exact(cz x)) ?_
 refine W.cond rfl (fun hb0=> ?_) (fun hb0=> ?_)
 ·have gS:okW x=false:=by simpa using hb0
  refine W.s0 X [2,3] rfl (by and_intros<;>first|exact⟨⟩|exact rfl) ?_
  refine W.ret ?_
  exact Fin.ret rfl ⟨by rw[aN,if_neg (by rw[gS];decide)],by rw[dO,if_neg (by rw[gS];decide)],⟨⟩⟩
 ·have gS:okW x=true:=by simpa using hb0
  have aey:=cN gS
  have hdv:=(oS (kD gS)).2.1
  have hc0:=(col gS 0 (Nat.zero_le _)).sml
  refine W.skip ?_
  refine W.sr X [] [(18,⟨true,[.agg (aG x)]⟩)] [1,4,5] [] rfl ⟨⟨_,_,_,Tryz.underlying31,rfl,rfl,Tryz.underlying24,rfl⟩,fj x h0,⟨⟩⟩ ?_
  refine W.seq ?_
  refine W.s0 X [1,4,5,6] rfl ⟨⟩ ?_
  refine W.block ?_
  refine W.aE (fun k=>k≤x.af.length) (fun k:Nat=> [(6, .one (.a (.lit (.int .i64 k))))]) (fun k=> [(19, .arr .aO (vW x k)),(11, .arr .dP (Cg x k))]) (fun k=>x.af.length-k) 0 (fun k=>rfl) (Nat.zero_le _) rfl ?_
  intro k hk
  refine W.seq ?_
  refine W.s0 X [1,4,5,6,24] rfl ⟨⟩ ?_
  refine W.cond rfl (fun aB=> ?_) (fun aB=> ?_)
  ·try simp only[nb,an,aq,aa]at aB
   have MJ:k<x.af.length:=by omega
   have hwl:(bk x (k:Int)).length=x.ah.length:=eV gS (by omega)
   refine W.skip ?_
   refine W.seq ?_
   refine W.block ?_
   refine W.sr X [] [(29,⟨true,[.a (.sl .DB (bk x (k:Int)))]⟩)] [1,4,5,6,7] [] rfl (by(repeat' with_reducible first|exact aj.nil|refine aj.mk ?_ ?_|apply And.intro)<;>first|exact(qM x (k:Int) (by first|assumption|omega| (simp;done)| (simp;omega)) (by first|assumption|omega| (simp;done)| (simp;omega)))) ?_
   refine W.s0 X [1,4,5,6,7,8] rfl ⟨⟩ ?_
   refine W.block ?_
   refine W.aE (fun k1=>k1≤x.ah.length) (fun k1:Nat=> [(8, .one (.a (.lit (.int .i64 k1))))]) (fun k1=> [(19, .arr .aO (qO x k k1)),(11, .arr .dP (Cg x k++EC x k k1))]) (fun k1=>x.ah.length-k1) 0 (fun k1=>rfl) (Nat.zero_le _) (by simp[qO,EC]) ?_
   intro k1 hk1
   have oD:=Kf gS MJ hk1
   refine W.seq ?_
   refine W.s0 X [1,4,5,6,7,8,33] rfl ⟨⟩ ?_
   refine W.cond rfl (fun aM=> ?_) (fun aM=> ?_)
   ·try simp only[nb,an,aq,aa]at aM
    rw[oD]at aM
    have FG:=Ki gS MJ (by omega:k1<x.ah.length)
    have hs1:=Gv gS MJ (by omega:k1<x.ah.length)
    have Da:=AX x k k1
    have hrl:=uA x k
    have hrp:=zm x k k1
    have Lo:k*x.ah.length≤8*4:=Nat.mul_le_mul (by omega) (by omega)
    refine W.skip ?_
    refine W.seq ?_
    refine W.block ?_
    refine W.seq ?_
    refine W.fZ X [] [(46,⟨true,[.agg (bq (Kb ((qO x k k1).getD k1 (au .aO)) (k:Int) ((bk x (k:Int)).getD k1 (au .DB)))), .a (.lit (.bool (ju ((qO x k k1).getD k1 (au .aO)) (k:Int) ((bk x (k:Int)).getD k1 (au .DB)))))]⟩)] [1,4,5,6,7,8,9] [] 49151 (.ph 16383 (.br 16383 14 (.last 32768) (.br 12287 14 (.last 36864) (.nil)))) 1 MO (by kernel_rfl) rfl (by kernel_rfl) (by(repeat' with_reducible first|exact aj.nil|refine aj.mk ?_ ?_|apply And.intro)<;>first|exact(v8 ((qO x k k1).getD k1 (au .aO)) (k:Int) ((bk x (k:Int)).getD k1 (au .DB)) FG.2.1 FG.1 FG.2.2)| (intros;omega)) ?_
    refine W.s0 X [1,4,5,6,7,8] rfl (by and_intros<;>first|exact⟨⟩| (intros;omega)) ?_
    refine W.draw X [(68,11)] [(57,⟨false,[.a (.lit (.int .i64 (fU x.az (k1:Int))))]⟩),(66,⟨false,[.agg (j8 (ZN (fU x.az (k1:Int)) (k1:Int) (k:Int) x.round ((bk x (k:Int)).getD k1 (au .DB))))]⟩)] [1,4,5,6,7,8] [] 15 MO (by kernel_rfl) rfl (by(repeat' with_reducible first|exact aj.nil|refine aj.mk ?_ ?_|apply And.intro);(iterate 2 all_goals try first|exact(gu x.az (k1:Int))|exact(xq (fU x.az (k1:Int)) (k1:Int) (k:Int) x.round ((bk x (k:Int)).getD k1 (au .DB)) FG.2.2));all_goals first| (intros;omega)|exact rfl|exact⟨rfl,bA _ (by decide)⟩| (simp only[cT,maxLen,lens];omega)) ?_
    refine W.r0 X [1,4,5,6,7,8] rfl ⟨⟩ ?_
    refine⟨k1+1,by omega,by omega,?_⟩
    rw[aR _ k1 rfl (by omega), ←hs1,Da, ←List.append_assoc]
    try rfl
   ·try simp only[nb,an,aq,aa]at aM
    rw[oD]at aM
    rw[Kh gS MJ (by omega),show k1=x.ah.length by omega, ←AY]
    refine W.exit ?_
    refine W.r0 X [1,4,5,6] rfl ⟨⟩ ?_
    refine⟨k+1,by omega,by omega,?_⟩
    rw[aR _ k rfl (by omega)]
    try rfl
  ·try simp only[nb,an,aq,aa]at aB
   refine W.exit ?_
   refine W.s0 X [2,3] rfl ⟨⟩ ?_
   refine W.ret ?_
   exact Fin.ret rfl ⟨by rw[aN,if_pos gS,show x.af.length=k by omega],by rw[dO,if_pos gS,show x.af.length=k by omega],⟨⟩⟩
end
section
set_option maxRecDepth 100000
theorem lW(s:aO)(f:Nat)(hf:f≤8)(hz: ∀r,r∈s.received→bX List.length r.share.rows≤1048576):Sound ty Tryz.prog 416 [.agg (bq s), .a (.lit (.int .i64 ((f:Nat):Int)))] [.agg (aF (gN s.rows (s.received.drop f)))]:=by
 refine Sound.o X Tryz.call416 Tryz.func416 Tryz.ntmps416 rfl rfl ?_
 intro zb
 refine W.b7 0 3 rfl rfl (fun kZ=> ?_)
 refine W.s0 X [1,2,4] rfl ⟨⟩ ?_
 refine W.sr X [] [(11,⟨true,[.agg (aF (cw s.rows))]⟩)] [1,2,4,5] [] rfl (by(repeat' with_reducible first|exact aj.nil|refine aj.mk ?_ ?_|apply And.intro)<;>first|exact(jP s.rows)) ?_
 refine W.seq ?_
 refine W.s0 X [2,4,5,6] rfl ⟨⟩ ?_
 refine W.block ?_
 refine W.aE (fun k=>f≤k∧(k≤s.received.length∨k=f)) (fun k:Nat=> [(6, .one (.a (.lit (.int .i64 k))))]) (fun k=> [(11, .arr (.sl .u8) (gN s.rows ((s.received.drop f).take (k-f))).rows)]) (fun k=>s.received.length-k) f (fun k=>rfl) ⟨Nat.le_refl _,Or.inr rfl⟩ (by simp[gN]) ?_
 rintro k ⟨hk,hk2⟩
 refine W.seq ?_
 refine W.s0 X [2,4,5,6,17] rfl ⟨⟩ ?_
 refine W.cond rfl (fun hb0=> ?_) (fun hb0=> ?_)
 ·try simp only[nb,an,aq,aa]at hb0
  have hs:=Qd s.rows s.received f k hb0 hk
  refine W.skip ?_
  refine W.seq ?_
  refine W.block ?_
  refine W.seq ?_
  refine W.fZ X [] [(28,⟨true,[.agg (aF (dD (gN s.rows ((s.received.drop f).take (k-f))) ((s.received.getD k (au .aA)).share))), .a (.lit (.bool (gq (gN s.rows ((s.received.drop f).take (k-f))) ((s.received.getD k (au .aA)).share))))]⟩)] [2,4,5,6,7] [] 12287 (.ph 4095 (.br 4095 12 (.last 8192) (.br 3071 12 (.last 9216) (.nil)))) 1 MO (by kernel_rfl) rfl (by kernel_rfl) (by(repeat' with_reducible first|exact aj.nil|refine aj.mk ?_ ?_|apply And.intro)<;>first|exact(gb (gN s.rows ((s.received.drop f).take (k-f))) ((s.received.getD k (au .aA)).share) (On _ _) (hz _ (getD_in _ hb0)))| (intros;omega)) ?_
  refine W.r0 X [2,4,5,6] rfl (by and_intros<;>exact⟨⟩) ?_
  refine W.kH 5 0 11 rfl ?_
  refine W.r0 X [2,4,5,6] rfl ⟨⟩ ?_
  refine⟨k+1,by omega,by omega,?_⟩
  rw[aR _ k rfl (by omega),hs]
  try rfl
 ·try simp only[nb,an,aq,aa]at hb0
  refine W.exit ?_
  refine W.s0 X [4] rfl (by and_intros<;>exact⟨⟩) ?_
  refine W.ret ?_
  exact Fin.ret rfl ⟨by rw[Tv _ _ _ _ hb0],⟨⟩⟩
theorem xF(s:aO):Sound ty Tryz.prog 425 [.agg (bq s)] [.agg (aF (FE s))]:=by
 refine Sound.o X Tryz.call425 Tryz.func425 Tryz.ntmps425 rfl rfl ?_
 intro zb
 refine W.s0 X [1,2] rfl ⟨⟩ ?_
 refine W.seq ?_
 refine W.sr X [] [(4,⟨false,[.a (.lit (.bool (cj s)))]⟩)] [1,2,5] [] rfl (by(repeat' with_reducible first|exact aj.nil|refine aj.mk ?_ ?_|apply And.intro)<;>first|exact(cQ s)) ?_
 refine W.cond rfl (fun hb0=> ?_) (fun hb0=> ?_)
 ·have hk:cj s=false:=by simpa using hb0
  refine W.s0 X [2] rfl (by and_intros<;>exact⟨⟩) ?_
  refine W.ret ?_
  exact Fin.ret rfl ⟨by rw[FE,hk];rfl,⟨⟩⟩
 ·have hk:cj s=true:=by simpa using hb0
  have hsz:=EJ hk
  refine W.skip ?_
  refine W.sr X [] [(8,⟨true,[.agg (aF (gN s.rows (s.received.drop 0)))]⟩)] [2] [] rfl (by(repeat' with_reducible first|exact aj.nil|refine aj.mk ?_ ?_|apply And.intro)<;>first|exact(lW s 0 (by decide) hsz)) ?_
  refine W.ret ?_
  exact Fin.ret rfl ⟨by rw[FE,if_pos hk];rfl,⟨⟩⟩
theorem we(s:aO):Sound ty Tryz.prog 384 [.agg (bq s)] [.agg (aF (so s))]:=by
 refine Sound.o X Tryz.call384 Tryz.func384 Tryz.ntmps384 rfl rfl ?_
 intro zb
 refine W.s0 X [1,2] rfl ⟨⟩ ?_
 refine W.seq ?_
 refine W.sr X [] [(5,⟨false,[.a (.lit (.bool (cj s)))]⟩)] [1,2,6] [] rfl (by(repeat' with_reducible first|exact aj.nil|refine aj.mk ?_ ?_|apply And.intro)<;>first|exact(cQ s)) ?_
 refine W.cond rfl (fun hb0=> ?_) (fun hb0=> ?_)
 ·have hk:cj s=false:=by simpa using hb0
  refine W.s0 X [2] rfl (by and_intros<;>exact⟨⟩) ?_
  refine W.ret ?_
  exact Fin.ret rfl ⟨by rw[so,hk];rfl,⟨⟩⟩
 ·have hk:cj s=true:=by simpa using hb0
  have hsz:=EJ hk
  have hin:=Tw hk
  refine W.skip ?_
  refine W.seq ?_
  refine W.s0 X [1,2,9] rfl ⟨⟩ ?_
  refine W.block ?_
  refine W.s0 X [1,2,9,10] rfl ⟨⟩ ?_
  refine W.cond rfl (fun aB=> ?_) (fun aB=> ?_)
  ·try simp only[nb,an,aq,aa]at aB
   have hr:=GC s (by omega)
   refine W.sr X [] [(13,⟨true,[.agg (aF (gN s.rows (s.received.drop 1)))]⟩)] [2] [] rfl (by(repeat' with_reducible first|exact aj.nil|refine aj.mk ?_ ?_|apply And.intro)<;>first|exact(lW s 1 (by decide) hsz)) ?_
   refine W.ret ?_
   exact Fin.ret rfl ⟨by rw[so,if_pos hk,if_neg (by omega),hr],⟨⟩⟩
  ·try simp only[nb,an,aq,aa]at aB
   have hr:=Ks s (by omega)
   rw[hr]at hin
   have aez:0<((gN s.rows s.received).rows.getD (Int.toNat 0) (au (.sl .u8))).length:=hin.2
   have agS:0<((gN s.rows (List.drop 0 s.received)).rows.getD (Int.toNat 0) (au (.sl .u8))).length:=hin.2
   have agT:0<(gN s.rows (List.drop 0 s.received)).rows.length:=hin.1
   refine W.s0 X [1,2,14] rfl ⟨⟩ ?_
   refine W.cond rfl (fun aM=> ?_) (fun aM=> ?_)
   ·try simp only[nb,an,aq,aa]at aM
    refine W.sr X [] [(17,⟨true,[.agg (aF (gN s.rows (s.received.drop 0)))]⟩)] [2,3] [] rfl (by(repeat' with_reducible first|exact aj.nil|refine aj.mk ?_ ?_|apply And.intro)<;>first|exact(lW s 0 (by decide) hsz)) ?_
    refine W.sd X [] [] [2,3] [] 12 MO (by kernel_rfl) rfl (by and_intros<;>first|exact⟨⟩| (intros;omega)|exact(pR _).1|exact(pR _).2) ?_
    refine W.s0 X [2] rfl (by and_intros<;>exact⟨⟩) ?_
    refine W.ret ?_
    exact Fin.ret rfl ⟨by rw[so,if_pos hk,if_pos (by omega),hr];exact alt_eq _,⟨⟩⟩
   ·try simp only[nb,an,aq,aa]at aM
    refine W.skip ?_
    refine W.sr X [] [(32,⟨true,[.agg (aF (gN s.rows (s.received.drop 0)))]⟩)] [2] [] rfl (by(repeat' with_reducible first|exact aj.nil|refine aj.mk ?_ ?_|apply And.intro)<;>first|exact(lW s 0 (by decide) hsz)) ?_
    refine W.ret ?_
    exact Fin.ret rfl ⟨by rw[so,if_pos hk,if_neg (by omega),hr];rfl,⟨⟩⟩
theorem gU(a b:DB):Sound ty Tryz.prog 18 [.agg (aF a), .agg (aF b)] [.a (.lit (.bool (a.rows==b.rows)))]:=by
 refine Sound.o X Tryz.call18 Tryz.func18 Tryz.ntmps18 rfl rfl ?_
 intro zb
 refine W.s0 X [2,3] rfl ⟨⟩ ?_
 refine W.sr X [] [(9,⟨false,[.a (.lit (.bool (a.rows==b.rows)))]⟩)] [4] [] rfl (by(repeat' with_reducible first|exact aj.nil|refine aj.mk ?_ ?_|apply And.intro)<;>first|exact(kB a.rows b.rows)) ?_
 refine W.ret ?_
 exact Fin.ret rfl ⟨rfl,⟨⟩⟩
theorem mC(key:Int)(r:dP):Sound ty Tryz.prog 19 [.a (.lit (.int .i64 key)), .agg (j8 r)] [.a (.lit (.bool (Kp key r)))]:=by
 refine Sound.o X Tryz.call19 Tryz.func19 Tryz.ntmps19 rfl rfl ?_
 intro zb
 refine W.s0 X [0,3] rfl ⟨⟩ ?_
 refine W.sd X [] [(9,⟨false,[.a (.lit (.int .i64 (Mw key r.server r.client r.round r.j7)))]⟩)] [4] [] 7 MO (by kernel_rfl) rfl (by(repeat' with_reducible first|exact aj.nil|refine aj.mk ?_ ?_|apply And.intro)<;>first|exact(pg key r)) ?_
 refine W.ret ?_
 exact Fin.ret rfl ⟨(congrArg Value.bool (by simp only[Kp,aH]<;>first|rfl|ac_rfl)),⟨⟩⟩
theorem th(r:dP)(d:DB)(hd:bX List.length d.rows≤1048576):Sound ty Tryz.prog 424 [.agg (j8 r), .agg (aF d)] [.a (.lit (.bool (Qc r d)))]:=by
 refine Sound.o X Tryz.call424 Tryz.func424 Tryz.ntmps424 rfl rfl ?_
 intro zb
 refine W.s0 X [2,3] rfl ⟨⟩ ?_
 refine W.sd X [] [(12,⟨false,[.a (.lit (.int .i64 (sX r.client r.round d)))]⟩)] [4] [] 10 MO (by kernel_rfl) rfl (by(repeat' with_reducible first|exact aj.nil|refine aj.mk ?_ ?_|apply And.intro)<;>first|exact(oo r.client r.round d hd)) ?_
 refine W.ret ?_
 exact Fin.ret rfl ⟨(congrArg Value.bool (by simp only[Qc,aH]<;>first|rfl|ac_rfl)),⟨⟩⟩
theorem xG(key:Int)(s:aO)(p:DB)(l:List dP)(hz:s.received.length≤1048576∧ ∀r,r∈s.received→bX List.length r.share.rows≤1048576)(hp:bX List.length p.rows≤1048576):Sound ty Tryz.prog 393 [.a (.lit (.int .i64 key)), .agg (bq s), .agg (aF p), .a (.sl .dP l)] [.a (.lit (.int .i64 (FF key s p l)))]:=by
 refine Sound.o X Tryz.call393 Tryz.func393 Tryz.ntmps393 rfl rfl ?_
 intro zb
 refine W.bound 3 rfl (fun kZ=> ?_)
 refine W.s0 X [0,3,5,6] rfl ⟨⟩ ?_
 refine W.seq ?_
 refine W.s0 X [0,3,5,6,9] rfl ⟨⟩ ?_
 refine W.block ?_
 refine W.aE (fun k=>k≤l.length∧ ∀j,j<k→jx key s (l.getD j (au .dP))=0) (fun k:Nat=> [(9, .one (.a (.lit (.int .i64 k))))]) (fun k=> []) (fun k=>l.length-k) 0 (fun k=>rfl) ⟨Nat.zero_le _,fun j hj=>absurd hj (Nat.not_lt_zero _)⟩ rfl ?_
 rintro k ⟨hk,hall⟩
 refine W.seq ?_
 refine W.s0 X [0,3,5,6,9,16] rfl ⟨⟩ ?_
 refine W.cond rfl (fun hb0=> ?_) (fun hb0=> ?_)
 ·try simp only[nb,an,aq,aa]at hb0
  refine W.skip ?_
  refine W.seq ?_
  refine W.block ?_
  refine W.s0 X [0,3,5,6,9,10] rfl (by and_intros<;>first|exact⟨⟩| (intros;omega)) ?_
  refine W.seq ?_
  refine W.sr X [] [(38,⟨false,[.a (.lit (.bool (Kp key (l.getD k (au .dP)))))]⟩)] [0,3,5,6,9,10,40] [] rfl (by(repeat' with_reducible first|exact aj.nil|refine aj.mk ?_ ?_|apply And.intro)<;>first|exact fun _=>(mC key (l.getD k (au .dP)))) ?_
  refine W.cond rfl (fun aB=> ?_) (fun aB=> ?_)
  ·have U4:zx key s (l.getD k (au .dP))=true:=kN aB (by simp only[zx,aH]<;>first|rfl|ac_rfl)
   refine W.exit ?_
   refine W.r0 X [0,3,5,6,9] rfl ⟨⟩ ?_
   refine⟨k+1,⟨by omega,EK hall (aet U4)⟩,by omega,?_⟩
   rw[aR _ k rfl (by omega)]
   try rfl
  ·have U4:zx key s (l.getD k (au .dP))=false:=n8 aB (by simp only[zx,aH]<;>first|rfl|ac_rfl)
   refine W.skip ?_
   refine W.sr X [] [(45,⟨true,[.agg (aF (pV s.received ((l.getD k (au .dP)).client))), .a (.lit (.bool (jv s.received ((l.getD k (au .dP)).client))))]⟩)] [0,3,5,6,9,10,11,12] [] rfl (by(repeat' with_reducible first|exact aj.nil|refine aj.mk ?_ ?_|apply And.intro)<;>first|exact(uP s ((l.getD k (au .dP)).client) hz)) ?_
   refine W.seq ?_
   refine W.s0 X [0,3,5,6,9,10,11,49] rfl ⟨⟩ ?_
   refine W.cond rfl (fun aM=> ?_) (fun aM=> ?_)
   ·have hsh:jv s.received (l.getD k (au .dP)).client=false:=by simpa using aM
    have hf:=aep U4 hsh
    refine W.s0 X [8] rfl ⟨⟩ ?_
    refine W.ret ?_
    exact Fin.ret rfl ⟨by rw[Kt hall hb0 (by rw[hf];decide),hf],⟨⟩⟩
   ·have hsh:jv s.received (l.getD k (au .dP)).client=true:=by simpa using aM
    have hsd:=My (c:=(l.getD k (au .dP)).client) hz.2
    refine W.skip ?_
    refine W.sr X [] [(52,⟨false,[.a (.lit (.bool (Qc (l.getD k (au .dP)) (pV s.received (l.getD k (au .dP)).client))))]⟩)] [0,3,5,6,9,53] [] rfl (by(repeat' with_reducible first|exact aj.nil|refine aj.mk ?_ ?_|apply And.intro)<;>first|exact(th (l.getD k (au .dP)) (pV s.received (l.getD k (au .dP)).client) hsd)) ?_
    refine W.cond rfl (fun gB=> ?_) (fun gB=> ?_)
    ·have hf:=aer U4 hsh (by simpa using gB)
     refine W.s0 X [8] rfl ⟨⟩ ?_
     refine W.ret ?_
     exact Fin.ret rfl ⟨by rw[Kt hall hb0 (by rw[hf];decide),hf],⟨⟩⟩
    ·have hf:=aes U4 hsh (by simpa using gB)
     refine W.skip ?_
     refine W.r0 X [0,3,5,6,9] rfl ⟨⟩ ?_
     refine⟨k+1,⟨by omega,EK hall hf⟩,by omega,?_⟩
     rw[aR _ k rfl (by omega)]
     try rfl
 ·try simp only[nb,an,aq,aa]at hb0
  refine W.exit ?_
  refine W.seq ?_
  refine W.sd X [] [(55,⟨false,[.a (.lit (.bool (cj s)))]⟩),(60,⟨false,[.agg (aF (FE s))]⟩),(61,⟨false,[.a (.lit (.bool (p.rows==(FE s).rows)))]⟩)] [63] [] 10 MO (by kernel_rfl) rfl (by(repeat' with_reducible first|exact aj.nil|refine aj.mk ?_ ?_|apply And.intro);(iterate 3 all_goals try first|exact(cQ s)|exact fun _=>(xF s)|exact fun _=>(gU p (FE s)))) ?_
  refine W.cond rfl (fun rz=> ?_) (fun rz=> ?_)
  ·have hq:(cj s&&(p.rows==(FE s).rows))=false:=bK rz (by simp only[aH]<;>first|rfl|ac_rfl)
   refine W.s0 X [8] rfl ⟨⟩ ?_
   refine W.ret ?_
   exact Fin.ret rfl ⟨by rw[Ku hall hb0,hq];rfl,⟨⟩⟩
  ·have hq:(cj s&&(p.rows==(FE s).rows))=true:=bG rz (by simp only[aH]<;>first|rfl|ac_rfl)
   refine W.skip ?_
   refine W.s0 X [8] rfl ⟨⟩ ?_
   refine W.ret ?_
   exact Fin.ret rfl ⟨by rw[Ku hall hb0,hq];rfl,⟨⟩⟩
theorem zI(m:Int)(sv:List aO)(pb:List DB)(rc:List dP)(hl:sv.length≤1048576)(hs: ∀s,s∈sv→pU s)(hp: ∀d,d∈pb→bX List.length d.rows≤1048576):Sound ty Tryz.prog 325 [.a (.lit (.int .i64 m)), .a (.sl .aO sv), .a (.sl .DB pb), .a (.sl .dP rc)] [.a (.sl .int (gT m sv pb rc sv.length))]:=by
 refine Sound.o X Tryz.call325 Tryz.func325 Tryz.ntmps325 rfl rfl ?_
 intro zb
 refine W.bound 2 rfl (fun kZ=> ?_)
 refine W.s0 X [0,1,2,3] rfl ⟨⟩ ?_
 refine W.s0 X [0,1,2,3,9] rfl (by and_intros<;>first|exact⟨⟩|exact rfl) ?_
 refine W.seq ?_
 refine W.s0 X [0,1,2,3,9,10] rfl ⟨⟩ ?_
 refine W.block ?_
 refine W.aE (fun k=>k≤sv.length) (fun k:Nat=> [(10, .one (.a (.lit (.int .i64 k))))]) (fun k=> [(11, .arr .int (gT m sv pb rc k))]) (fun k=>sv.length-k) 0 (fun k=>rfl) (Nat.zero_le _) rfl ?_
 intro k hk
 have hle:=uM m sv pb rc k
 refine W.seq ?_
 refine W.s0 X [0,1,2,3,9,10,15] rfl ⟨⟩ ?_
 refine W.cond rfl (fun hb0=> ?_) (fun hb0=> ?_)
 ·try simp only[nb,an,aq,aa]at hb0
  refine W.skip ?_
  refine W.seq ?_
  refine W.block ?_
  refine W.sd X [] [(29,⟨false,[.a (.lit (.int .i64 (fU m ((sv.getD k (au .aO)).id))))]⟩),(39,⟨false,[.a (.lit (.int .i64 (FF (fU m (sv.getD k (au .aO)).id) (sv.getD k (au .aO)) (pb.getD k (au .DB)) rc)))]⟩)] [0,1,2,3,9,10,41] [] 24 MO (by kernel_rfl) rfl (by(repeat' with_reducible first|exact aj.nil|refine aj.mk ?_ ?_|apply And.intro);(iterate 3 all_goals try first|exact fun _=>(gu m ((sv.getD k (au .aO)).id))|exact fun _=>(xG (fU m (sv.getD k (au .aO)).id) (sv.getD k (au .aO)) (pb.getD k (au .DB)) rc (hs _ (getD_in _ hb0)) (Tx hp k))|exact(by refine fun hzz=> ?_;have QC:decide ((k:Int)≥(pb.length:Int))=false:=hzz;rw[decide_eq_false_iff_not]at QC;dsimp only[hyps,G8];omega))) ?_
  refine W.cond rfl (fun aB=> ?_) (fun aB=> ?_)
  ·have hbd:Kq m sv pb rc k=true:=kN aB (by simp only[Kq,aH]<;>first|rfl|ac_rfl)
   have Da:=Kr hbd
   refine W.cD X [(49,11)] [] [0,1,2,3,9,10] [] rfl (by and_intros<;>first|exact⟨⟩| (intros;omega)|exact rfl| (simp only[cT,maxLen,lens];omega)) ?_
   refine W.r0 X [0,1,2,3,9,10] rfl ⟨⟩ ?_
   refine⟨k+1,by omega,by omega,?_⟩
   rw[aR _ k rfl (by omega),Da]
   try rfl
  ·have hbd:Kq m sv pb rc k=false:=n8 aB (by simp only[Kq,aH]<;>first|rfl|ac_rfl)
   have Da:=GA hbd
   refine W.skip ?_
   refine W.r0 X [0,1,2,3,9,10] rfl ⟨⟩ ?_
   refine⟨k+1,by omega,by omega,?_⟩
   rw[aR _ k rfl (by omega),Da]
   try rfl
 ·try simp only[nb,an,aq,aa]at hb0
  refine W.exit ?_
  refine W.s0 X [8] rfl ⟨⟩ ?_
  refine W.ret ?_
  exact Fin.ret rfl ⟨by rw[show k=sv.length by omega],⟨⟩⟩
theorem zJ(sv:List aO)(hl:sv.length≤1048576):Sound ty Tryz.prog 321 [.a (.sl .aO sv)] [.a (.sl .DB (bH sv))]:=by
 refine Sound.o X Tryz.call321 Tryz.func321 Tryz.ntmps321 rfl rfl ?_
 intro zb
 refine W.s0 X [0] rfl ⟨⟩ ?_
 refine W.s0 X [0,3] rfl (by and_intros<;>first|exact⟨⟩|exact rfl) ?_
 refine W.seq ?_
 refine W.s0 X [0,3,4] rfl ⟨⟩ ?_
 refine W.block ?_
 refine W.aE (fun k=>k≤sv.length) (fun k:Nat=> [(4, .one (.a (.lit (.int .i64 k))))]) (fun k=> [(5, .arr .DB ((bH sv).take k))]) (fun k=>sv.length-k) 0 (fun k=>rfl) (Nat.zero_le _) rfl ?_
 intro k hk
 have hle:=aY (bH sv) k
 refine W.seq ?_
 refine W.s0 X [0,3,4,9] rfl ⟨⟩ ?_
 refine W.cond rfl (fun hb0=> ?_) (fun hb0=> ?_)
 ·try simp only[nb,an,aq,aa]at hb0
  have hs:=GD sv k hb0
  refine W.skip ?_
  refine W.seq ?_
  refine W.block ?_
  refine W.cD X [(19,5)] [(17,⟨true,[.agg (aF (so (sv.getD k (au .aO))))]⟩)] [0,3,4] [] rfl (by(repeat' with_reducible first|exact aj.nil|refine aj.mk ?_ ?_|apply And.intro)<;>first|exact(we (sv.getD k (au .aO)))| (intros;omega)|exact rfl| (simp only[cT,maxLen,lens];omega)) ?_
  refine W.r0 X [0,3,4] rfl ⟨⟩ ?_
  refine⟨k+1,by omega,by omega,?_⟩
  rw[aR _ k rfl (by omega),hs]
  try rfl
 ·try simp only[nb,an,aq,aa]at hb0
  refine W.exit ?_
  refine W.s0 X [2] rfl ⟨⟩ ?_
  refine W.ret ?_
  exact Fin.ret rfl ⟨by rw[List.take_of_length_le (by unfold bH;rw[List.length_map];exact hb0)],⟨⟩⟩
end
section
set_option maxRecDepth 100000
theorem wh(key:Int)(a:bQ)(h1:a.selection.length≤262144)(h2:a.data.length≤262144):Sound ty Tryz.prog 422 [.a (.lit (.int .i64 key)), .agg (dJ a)] [.a (.lit (.bool (Qe key a)))]:=by
 refine Sound.o X Tryz.call422 Tryz.func422 Tryz.ntmps422 rfl rfl ?_
 intro zb
 refine W.s0 X [0,3] rfl ⟨⟩ ?_
 refine W.sd X [] [(9,⟨false,[.a (.lit (.int .i64 (A0 key a.server a.round a.selection a.data)))]⟩)] [4] [] 7 MO (by kernel_rfl) rfl (by(repeat' with_reducible first|exact aj.nil|refine aj.mk ?_ ?_|apply And.intro)<;>first|exact(lO key a h1 h2)) ?_
 refine W.ret ?_
 exact Fin.ret rfl ⟨rfl,⟨⟩⟩
theorem uS(key:Int)(d:DB)(a:bQ)(h1:a.selection.length≤262144)(h2:a.data.length≤262144):Sound ty Tryz.prog 389 [.a (.lit (.int .i64 key)), .agg (aF d), .agg (dJ a)] [.a (.lit (.bool (X6 key d a)))]:=by
 refine Sound.o X Tryz.call389 Tryz.func389 Tryz.ntmps389 rfl rfl ?_
 intro zb
 refine W.s0 X [0,4,5] rfl ⟨⟩ ?_
 refine W.sd X [] [(9,⟨false,[.a (.lit (.bool (Qe key a)))]⟩),(16,⟨false,[.a (.sl .u8 (dM d a.selection))]⟩),(17,⟨false,[.a (.lit (.bool (a.data==(dM d a.selection))))]⟩)] [6] [] 14 MO (by kernel_rfl) rfl (by(repeat' with_reducible first|exact aj.nil|refine aj.mk ?_ ?_|apply And.intro);(iterate 3 all_goals try first|exact(wh key a h1 h2)|exact fun _=>(ot d a.selection)|exact fun _=>(kA a.data (dM d a.selection)))) ?_
 refine W.ret ?_
 exact Fin.ret rfl ⟨(congrArg Value.bool (by simp only[X6,aH]<;>first|rfl|ac_rfl)),⟨⟩⟩
theorem pH(l:List DB)(kZ:l.length≤1048576)(ha:BN l):Sound ty Tryz.prog 71 [.a (.sl .DB l)] [.agg (aF (jw l)), .a (.lit (.bool (zy l)))]:=by
 refine Sound.o X Tryz.call71 Tryz.func71 Tryz.ntmps71 rfl rfl ?_
 intro zb
 refine W.s0 X [0,2] rfl ⟨⟩ ?_
 refine W.seq ?_
 refine W.sr X [] [(10,⟨false,[.a (.lit (.bool (cq (l.length:Int))))]⟩),(16,⟨false,[.a (.lit (.bool (bV (l.getD (Int.toNat 0) (au .DB)))))]⟩)] [0,2,18] [] rfl ⟨fun _=>cF _,fun h=>aeB h,gk _,⟨⟩⟩ ?_
 refine W.cond rfl (fun hb0=> ?_) (fun hb0=> ?_)
 ·have hk:cq l.length=false:=aeA ha hb0
  have hj:=MG (WI hk)
  refine W.s0 X [2,3] rfl (by and_intros<;>exact⟨⟩) ?_
  refine W.ret ?_
  exact Fin.ret rfl ⟨by rw[hj.1],by rw[hj.2],⟨⟩⟩
 ·have hk:cq l.length=true:=acp hb0
  have hcb:=Ky hk
  have hrp:=WJ hk
  have h0z:=cZ (qU ha 0)
  have Fw:(l.drop 1).length=l.length-1:=List.length_drop ..
  refine W.skip ?_
  refine W.sr X [] [(23,⟨true,[.agg (aF (l.getD (Int.toNat 0) (au .DB)))]⟩)] [0,2,4] [] rfl (by(repeat' with_reducible first|exact aj.nil|refine aj.mk ?_ ?_|apply And.intro)<;>first|exact(eo (l.getD (Int.toNat 0) (au .DB)) h0z)| (intros;omega)) ?_
  refine W.seq ?_
  refine W.s0 X [0,2,4,5] rfl ⟨⟩ ?_
  refine W.block ?_
  refine W.aE (fun k=>(1≤k∧k≤l.length)∧MF l=Kv (Ft l (k-1)) ((l.drop 1).drop (k-1))) (fun k:Nat=> [(5, .one (.a (.lit (.int .i64 k))))]) (fun k=> [(23, .arr (.sl .u8) (Ft l (k-1)).rows)]) (fun k=>l.length-k) 1 (fun k=>rfl) ⟨by omega,hrp⟩ rfl ?_
  rintro k ⟨gS,J0⟩
  refine W.seq ?_
  refine W.s0 X [0,2,4,5,27] rfl ⟨⟩ ?_
  refine W.cond rfl (fun aB=> ?_) (fun aB=> ?_)
  ·try simp only[nb,an,aq,aa]at aB
   have hz1:=cZ (Z2 ha (k-1))
   have QC:=cZ (qU ha k)
   have hge:(l.drop 1).getD (k-1) (au .DB)=(l.getD k (au .DB)):=by rw[KF,show k-1+1=k by omega]
   have MJ:k-1<(l.drop 1).length:=by omega
   refine W.skip ?_
   refine W.seq ?_
   refine W.block ?_
   refine W.seq ?_
   refine W.fZ X [] [(36,⟨true,[.agg (aF (dD (Ft l (k-1)) (l.getD k (au .DB)))), .a (.lit (.bool (gq (Ft l (k-1)) (l.getD k (au .DB)))))]⟩)] [0,2,4,5,6,7] [] 3071 (.ph 1023 (.br 1023 10 (.last 2048) (.br 767 10 (.last 2304) (.nil)))) 1 MO (by kernel_rfl) rfl (by kernel_rfl) (by(repeat' with_reducible first|exact aj.nil|refine aj.mk ?_ ?_|apply And.intro)<;>first|exact(gb (Ft l (k-1)) (l.getD k (au .DB)) hz1 QC)| (intros;omega)) ?_
   refine W.seq ?_
   refine W.s0 X [0,2,4,5,6,40] rfl ⟨⟩ ?_
   refine W.cond rfl (fun aM=> ?_) (fun aM=> ?_)
   ·have hx:gq (Ft l (k-1)) (l.getD k (au .DB))=false:=by simpa using aM
    have hj:=MG (J0.trans (Z1 l (k-1) MJ (by rw[hge];exact hx)))
    refine W.s0 X [2,3] rfl (by and_intros<;>exact⟨⟩) ?_
    refine W.ret ?_
    exact Fin.ret rfl ⟨by rw[hj.1],by rw[hj.2],⟨⟩⟩
   ·have hx:gq (Ft l (k-1)) (l.getD k (au .DB))=true:=by simpa using aM
    have hs:=EN l (k-1) MJ
    rw[hge]at hs
    refine W.skip ?_
    refine W.r0 X [0,2,4,5] rfl (by and_intros<;>exact⟨⟩) ?_
    refine W.kH 4 0 23 rfl ?_
    refine W.r0 X [0,2,4,5] rfl ⟨⟩ ?_
    refine⟨k+1,⟨by omega,by rw[J0,TC l (k-1) MJ (by rw[hge];exact hx),show k+1-1=k-1+1 by omega]⟩,by omega,?_⟩
    rw[aR _ k rfl (by omega),show k+1-1=k-1+1 by omega,hs]
    try rfl
  ·try simp only[nb,an,aq,aa]at aB
   have hj:=Ij (J0.trans (WH l (k-1) (by omega)))
   refine W.exit ?_
   refine W.s0 X [2,3] rfl (by and_intros<;>exact⟨⟩) ?_
   refine W.ret ?_
   exact Fin.ret rfl ⟨by rw[hj.1],by rw[hj.2],⟨⟩⟩
theorem mD(l:List DB)(kZ:l.length≤1048576)(ha:BN l):Sound ty Tryz.prog 22 [.a (.sl .DB l)] [.agg (aF (jw l)), .a (.lit (.bool (zy l)))]:=by
 refine Sound.o X Tryz.call22 Tryz.func22 Tryz.ntmps22 rfl rfl ?_
 intro zb
 refine W.s0 X [0,2] rfl ⟨⟩ ?_
 refine W.sr X [] [(5,⟨true,[.agg (aF (jw l)), .a (.lit (.bool (zy l)))]⟩)] [2,3] [] rfl (by(repeat' with_reducible first|exact aj.nil|refine aj.mk ?_ ?_|apply And.intro)<;>first|exact(pH l kZ ha)) ?_
 refine W.ret ?_
 exact Fin.ret rfl ⟨rfl,rfl,⟨⟩⟩
theorem qY(id rows b:Int):Sound ty Tryz.prog 380 [.a (.lit (.int .i64 id)), .a (.lit (.int .i64 rows)), .a (.lit (.int .i64 b))] [.agg (bq (newS id rows b))]:=by
 refine Sound.o X Tryz.call380 Tryz.func380 Tryz.ntmps380 rfl rfl ?_
 intro zb
 refine W.s0 X [0,1,2,6] rfl ⟨⟩ ?_
 refine W.seq ?_
 refine W.sr X [] [(8,⟨false,[.a (.lit (.bool (inr id 0 3)))]⟩),(12,⟨false,[.a (.lit (.bool (inr rows 1 64)))]⟩),(17,⟨false,[.a (.lit (.bool (inr b 0 3)))]⟩)] [0,1,2,6,19] [] rfl (by(repeat' with_reducible first|exact aj.nil|refine aj.mk ?_ ?_|apply And.intro);(iterate 3 all_goals try first|exact(aK id 0 3)|exact fun _=>(aK rows 1 64)|exact fun _=>(aK b 0 3))) ?_
 refine W.cond rfl (fun hb0=> ?_) (fun hb0=> ?_)
 ·have hk:EO id rows b=false:=bK hb0 (by simp only[EO,aH]<;>first|rfl|ac_rfl)
  have hn:newS id rows b=⟨0,0,0,[],0⟩:=by rw[newS,hk];rfl
  refine W.s0 X [6] rfl (by and_intros<;>exact⟨⟩) ?_
  refine W.ret ?_
  exact Fin.ret rfl (by and_intros<;>first|exact⟨⟩| (rw[hn];done))
 ·have hk:EO id rows b=true:=bG hb0 (by simp only[EO,aH]<;>first|rfl|ac_rfl)
  have hn:newS id rows b=⟨id,rows,0,[],b⟩:=by rw[newS,if_pos hk]
  refine W.skip ?_
  refine W.s0 X [6] rfl (by and_intros<;>exact⟨⟩) ?_
  refine W.ret ?_
  exact Fin.ret rfl (by and_intros<;>first|exact⟨⟩| (rw[hn];done))
theorem pI(s:aO)(hz:s.received.length≤1048576∧ ∀r,r∈s.received→bX List.length r.share.rows≤1048576):Sound ty Tryz.prog 392 [.agg (bq s)] [.agg (bq (iI s))]:=by
 refine Sound.o X Tryz.call392 Tryz.func392 Tryz.ntmps392 rfl rfl ?_
 intro zb
 refine W.s0 X [1,2] rfl ⟨⟩ ?_
 refine W.seq ?_
 refine W.sr X [] [(4,⟨false,[.a (.lit (.bool (cj s)))]⟩)] [1,2,10] [] rfl (by(repeat' with_reducible first|exact aj.nil|refine aj.mk ?_ ?_|apply And.intro)<;>first|exact(cQ s)) ?_
 refine W.cond rfl (fun hb0=> ?_) (fun hb0=> ?_)
 ·have hk:A7 s=false:=bK hb0 (by simp only[A7,aH]<;>first|rfl|ac_rfl)
  have hn:iI s=s:=by rw[iI,hk];rfl
  refine W.sr X [] [(12,⟨true,[.agg (bq s)]⟩)] [2] [] rfl (by(repeat' with_reducible first|exact aj.nil|refine aj.mk ?_ ?_|apply And.intro)<;>first|exact(kQ s hz)) ?_
  refine W.ret ?_
  exact Fin.ret rfl (by and_intros<;>first|exact⟨⟩| (rw[hn];done))
 ·have hk:A7 s=true:=bG hb0 (by simp only[A7,aH]<;>first|rfl|ac_rfl)
  have hn:iI s=⟨s.id,s.rows,IntKind.i64.wrap (s.round+1),[],s.behavior⟩:=by rw[iI,if_pos hk]
  refine W.skip ?_
  refine W.s0 X [2] rfl (by and_intros<;>exact⟨⟩) ?_
  refine W.ret ?_
  exact Fin.ret rfl (by and_intros<;>first|exact⟨⟩| (rw[hn];done))
end
section
set_option maxRecDepth 100000
theorem Cm(a:gW)(r:Int)(d:DB)(h0:cB a≤1048576)(Z7:bX List.length d.rows≤1048576):Sound ty Tryz.prog 391 [.agg (ck a), .a (.lit (.int .i64 r)), .agg (aF d)] [.agg [.lit (.int .i64 a.rows), .vw 0 none .ay (EM a r d)], .a (.lit (.bool (qV a r d)))]:=by
 refine Sound.o X Tryz.call391 Tryz.func391 Tryz.ntmps391 rfl rfl ?_
 intro zb
 refine W.s0 X [1,3,5,6] rfl ⟨⟩ ?_
 refine W.sr X [] [(10,⟨true,[.agg (ck a)]⟩)] [1,3,5,6,8] [] rfl (by(repeat' with_reducible first|exact aj.nil|refine aj.mk ?_ ?_|apply And.intro)<;>first|exact(uD a h0)) ?_
 refine W.seq ?_
 refine W.sr X [] [(12,⟨false,[.a (.lit (.bool (e9 a)))]⟩),(16,⟨false,[.a (.lit (.bool (inr r 0 100000)))]⟩),(22,⟨false,[.a (.lit (.int .i64 (bR a)))]⟩),(27,⟨false,[.a (.lit (.bool (bV d)))]⟩)] [1,5,6,8,37] [] rfl (by(repeat' with_reducible first|exact aj.nil|refine aj.mk ?_ ?_|apply And.intro);(iterate 4 all_goals try first|exact(k9 a)|exact fun _=>(aK r 0 100000)|exact fun _=>(gj a)|exact fun _=>(cF d))) ?_
 refine W.cond rfl (fun hb0=> ?_) (fun hb0=> ?_)
 ·have hk:qV a r d=false:=bK hb0 (by simp only[qV,aH]<;>first|rfl|ac_rfl)
  have hn:=TW hk
  refine W.s0 X [6,7] rfl (by and_intros<;>exact⟨⟩) ?_
  refine W.ret ?_
  exact Fin.ret rfl ⟨rfl,by rw[hn],by rw[hk],⟨⟩⟩
 ·have hk:qV a r d=true:=bG hb0 (by simp only[qV,aH]<;>first|rfl|ac_rfl)
  have hn:=OD hk
  have hkb:=TX hk
  have hal:(uN a r d).length=a.rounds.length+1:=by unfold uN;rw[List.length_append];rfl
  refine W.skip ?_
  refine W.sd X [] [(43,⟨true,[.agg (aF d)]⟩),(500045,⟨true,[]⟩)] [6,8] [] 7 MO (by kernel_rfl) rfl (by(repeat' with_reducible first|exact aj.nil|refine aj.mk ?_ ?_|apply And.intro)<;>first|exact(eo d Z7)|exact rfl|exact⟨rfl,bA _ (by decide)⟩| (simp only[cT,maxLen,lens];omega)) ?_
  rw[show a.rounds++ [(⟨r,d⟩:ay)]=(uN a r d)from rfl]
  refine W.seq ?_
  refine W.s0 X [6,8,51] rfl ⟨⟩ ?_
  refine W.cond rfl (fun aB=> ?_) (fun aB=> ?_)
  ·try simp only[nb,an,aq,aa]at aB
   have h8:(8:Int)<((uN a r d).length:Int):=aB
   rw[if_pos h8]at hn
   refine W.r0 X [6,8] rfl (by and_intros<;>first|exact⟨⟩| (intros;omega)) ?_
   refine W.s0 X [6,7] rfl (by and_intros<;>exact⟨⟩) ?_
   refine W.ret ?_
   exact Fin.ret rfl ⟨rfl,by rw[hn];simp,by rw[hk],⟨⟩⟩
  ·try simp only[nb,an,aq,aa]at aB
   have h8: ¬(8:Int)<((uN a r d).length:Int):=by omega
   rw[if_neg h8]at hn
   refine W.skip ?_
   refine W.s0 X [6,7] rfl (by and_intros<;>exact⟨⟩) ?_
   refine W.ret ?_
   exact Fin.ret rfl ⟨rfl,by rw[hn],by rw[hk],⟨⟩⟩
theorem pK(x:aJ)(rd id:Int)(hl:x.ah.length≤4)(hw:1≤x.rows∧x.rows≤64)(hU:ES rd x.ah)(hr:x.replaced.length≤4194400)(hxr:x.round=rd):dG ty Tryz.prog 390 [(1000, .box [.lit (.int .i64 x.rows), .own 11, .own 12, .lit (.int .i64 x.ak.rows), .own 13, .lit (.int .i64 x.az), .lit (.int .i64 x.seed), .lit (.int .i64 x.round), .own 14, .lit (.int .i64 x.cancelled)]),(11, .arr .aO x.ah),(12, .arr .aL x.af),(13, .arr .ay x.ak.rounds),(14, .arr .int x.replaced)] [.a (.ptr 1000 0), .a (.lit (.int .i64 id))] [(1000, .box [.lit (.int .i64 x.rows), .own 11, .own 12, .lit (.int .i64 x.ak.rows), .own 13, .lit (.int .i64 x.az), .lit (.int .i64 x.seed), .lit (.int .i64 x.round), .own 14, .lit (.int .i64 x.cancelled)]),(11, .arr .aO (s9 x.rows rd (x.ah,x.replaced) id).1),(12, .arr .aL x.af),(13, .arr .ay x.ak.rounds),(14, .arr .int (s9 x.rows rd (x.ah,x.replaced) id).2)] []:=by
 refine dG.of X Tryz.call390 Tryz.func390 rfl rfl (by decide) Tryz.ntmps390 (by simp) rfl ?_
 intro zb
 refine W.seq ?_
 refine W.sr X [] [(12,⟨false,[.a (.lit (.bool (inr id 0 (IntKind.i64.wrap ((x.ah.length:Int)-1)))))]⟩)] [0,1,13] [] rfl (by(repeat' with_reducible first|exact aj.nil|refine aj.mk ?_ ?_|apply And.intro)<;>first|exact(aK id 0 (IntKind.i64.wrap ((x.ah.length:Int)-1)))) ?_
 refine W.cond rfl (fun hb0=> ?_) (fun hb0=> ?_)
 ·have hk:s8 x.ah id=false:=by unfold s8;simpa using hb0
  have hp:(s9 x.rows rd (x.ah,x.replaced) id)=_:=OA (rows:=x.rows) (rd:=rd) (p:=(x.ah,x.replaced)) hk
  refine W.ret ?_
  exact og.ret rfl ⟨rfl,rfl,rfl,rfl,rfl,rfl,by rw[hp],rfl,rfl,by rw[hp],⟨⟩⟩
 ·have hk:s8 x.ah id=true:=by unfold s8;simpa using hb0
  have hb:=TU hl hk
  have hp:(s9 x.rows rd (x.ah,x.replaced) id)=_:=It (rows:=x.rows) (rd:=rd) (p:=(x.ah,x.replaced)) hk
  have VP:=EW (id:=id) (by omega) hw
  have hrd:=(qX hU (k:=id.toNat) (by omega)).1
  refine W.skip ?_
  refine W.sr X [] [(19,⟨true,[.agg (bq (newS id x.rows 0))]⟩)] [0,1,4] [] rfl (by(repeat' with_reducible first|exact aj.nil|refine aj.mk ?_ ?_|apply And.intro)<;>first|exact(qY id x.rows 0)) ?_
  rw[VP]
  refine W.s0 X [0,1,4] rfl (by and_intros<;>exact⟨⟩) ?_
  rw[hxr]
  refine W.sd X [] [] [0,1] [] 7 MO (by kernel_rfl) rfl (by and_intros<;>first|exact⟨⟩| (intros;omega)) ?_
  refine W.cD X [(39,14)] [] [] [] rfl (by and_intros<;>first|exact⟨⟩|exact rfl| (simp only[cT,maxLen,lens];omega)) ?_
  exact og.normal rfl ⟨rfl,rfl,rfl,rfl,rfl,rfl,by rw[hp],rfl,rfl,by rw[hp],⟨⟩⟩
theorem zP(x:aJ)(g:List Int)(d:DB)(h0:wB x)(hgl:g.length≤64)(Z7:bX List.length d.rows≤1048576):Sound ty Tryz.prog 324 [.agg (aG x), .a (.sl .int g), .agg (aF d)] [.agg [.lit (.int .i64 (aQ x g d).rows), .sl .aO (aQ x g d).ah, .sl .aL (aQ x g d).af, .lit (.int .i64 (aQ x g d).ak.rows), .vw 0 none .ay (aQ x g d).ak.rounds, .lit (.int .i64 (aQ x g d).az), .lit (.int .i64 (aQ x g d).seed), .lit (.int .i64 (aQ x g d).round), .sl .int (aQ x g d).replaced, .lit (.int .i64 (aQ x g d).cancelled)]]:=by
 refine Sound.o X Tryz.call324 Tryz.func324 Tryz.ntmps324 rfl rfl ?_
 intro zb
 have hls:bX bp x.ah≤1048576∧bX aP x.af≤1048576∧cB x.ak≤1048576∧x.replaced.length≤4194304:=h0
 have hcp:=OB x g
 refine W.s0 X [1,3,5,6] rfl ⟨⟩ ?_
 refine W.sr X [(7,907)] [(13,⟨true,[.agg (aG x)]⟩)] [1,3,5,6,7] [] rfl (by(repeat' with_reducible first|exact aj.nil|refine aj.mk ?_ ?_|apply And.intro)<;>first|exact(fj x h0)) ?_
 refine W.seq ?_
 refine W.sr X [] [(15,⟨false,[.a (.lit (.bool (okW x)))]⟩)] [1,3,5,6,7,21] [] rfl (by(repeat' with_reducible first|exact aj.nil|refine aj.mk ?_ ?_|apply And.intro)<;>first|exact(cz x)) ?_
 refine W.cond rfl (fun hb0=> ?_) (fun hb0=> ?_)
 ·have hk:oy x=false:=bK hb0 (by simp only[oy,aH]<;>first|rfl|ac_rfl)
  have hc:=GG (g:=g) (d:=d) hk
  refine W.s0 X [6] rfl (by and_intros<;>exact⟨⟩) ?_
  refine W.ret ?_
  exact Fin.ret rfl (by and_intros<;>first|exact⟨⟩| (rw[hc];done))
 ·have hk:oy x=true:=bG hb0 (by simp only[oy,aH]<;>first|rfl|ac_rfl)
  obtain⟨hok,hr9⟩:=TV hk
  have oK:=cN hok
  have Qa:=(lK hok).1
  have hcU:=X8 g hok
  refine W.skip ?_
  refine W.seq ?_
  refine W.s0 X [1,3,5,6,7,25] rfl ⟨⟩ ?_
  refine W.cond rfl (fun aB=> ?_) (fun aB=> ?_)
  ·try simp only[nb,an,aq,aa]at aB
   have WQ:g.length=0:=by omega
   have hc:=KI (d:=d) hk WQ
   have hgn:g= []:=List.length_eq_zero_iff.1 WQ
   refine W.sr X [] [(32,⟨true,[.agg [.lit (.int .i64 x.ak.rows), .vw 0 none .ay (EM x.ak x.round d)], .a (.lit (.bool (qV x.ak x.round d)))]⟩)] [1,3,6,7,8] [] rfl (by(repeat' with_reducible first|exact aj.nil|refine aj.mk ?_ ?_|apply And.intro)<;>first|exact(Cm x.ak x.round d hls.2.2.1 Z7)) ?_
   refine W.r0 X [1,3,6,7] rfl (by and_intros<;>exact⟨⟩) ?_
   refine W.seq ?_
   refine W.s0 X [1,3,6,7,10] rfl ⟨⟩ ?_
   refine W.block ?_
   refine W.aE (fun k=>k≤g.length) (fun k:Nat=> [(10, .one (.a (.lit (.int .i64 k))))]) (fun k=> [(14, .arr .aO (gM x g k).1),(21, .arr .int (gM x g k).2)]) (fun k=>g.length-k) 0 (fun k=>rfl) (Nat.zero_le _) rfl ?_
   rintro k gS
   have nG:=zM (x:=x) gS
   have hU:=KH hok gS
   refine W.seq ?_
   refine W.s0 X [1,3,6,7,10,44] rfl ⟨⟩ ?_
   refine W.cond rfl (fun aM=> ?_) (fun aM=> ?_)
   ·try simp only[nb,an,aq,aa]at aM
    omega
   ·try simp only[nb,an,aq,aa]at aM
    rw[vM aM]
    refine W.exit ?_
    refine W.seq ?_
    refine W.s0 X [3,6,7,11] rfl ⟨⟩ ?_
    refine W.block ?_
    refine W.aE (fun k1=>k1≤x.ah.length) (fun k1:Nat=> [(11, .one (.a (.lit (.int .i64 k1))))]) (fun k1=> [(14, .arr .aO (Cl (sq x g).1 k1))]) (fun k1=>x.ah.length-k1) 0 (fun k1=>rfl) (Nat.zero_le _) (by rw[OC];rfl) ?_
    intro k1 hk1
    have B1:(Cl (sq x g).1 k1).length=x.ah.length:=by rw[C0 (by omega)];exact hcp.1
    refine W.seq ?_
    refine W.s0 X [3,6,7,11,56] rfl ⟨⟩ ?_
    refine W.cond rfl (fun gB=> ?_) (fun gB=> ?_)
    ·try simp only[nb,an,aq,aa]at gB
     rw[B1]at gB
     have hgt:=CZ (l:=(sq x g).1) (k:=k1) (by omega)
     have WR:=qX hcU (k:=k1) (by omega)
     have FG:=zN (l:=(sq x g).1) (k:=k1) (by omega)
     refine W.skip ?_
     refine W.seq ?_
     refine W.block ?_
     refine W.draw X [] [(67,⟨true,[.agg (bq (iI ((Cl (sq x g).1 k1).getD k1 (au .aO))))]⟩)] [3,6,7,11] [] 10 MO (by kernel_rfl) rfl (by(repeat' with_reducible first|exact aj.nil|refine aj.mk ?_ ?_|apply And.intro)<;>first|exact(pI ((Cl (sq x g).1 k1).getD k1 (au .aO)) (by rw[hgt];exact WR.2))| (intros;omega)) ?_
     refine W.r0 X [3,6,7,11] rfl ⟨⟩ ?_
     refine⟨k1+1,by omega,by omega,?_⟩
     rw[aR _ k1 rfl (by omega), ←FG]
     try rfl
    ·try simp only[nb,an,aq,aa]at gB
     rw[B1]at gB
     rw[C1 (by omega)]
     refine W.exit ?_
     refine W.s0 X [6,7] rfl ⟨⟩ ?_
     refine W.s0 X [6] rfl (by and_intros<;>exact⟨⟩) ?_
     refine W.ret ?_
     exact Fin.ret rfl (by and_intros<;>first|exact⟨⟩| (rw[hc];done))
  ·try simp only[nb,an,aq,aa]at aB
   have WQ: ¬g.length=0:=by omega
   have hc:=KJ (d:=d) hk WQ
   refine W.r0 X [1,3,6,7] rfl ⟨⟩ ?_
   refine W.seq ?_
   refine W.s0 X [1,3,6,7,10] rfl ⟨⟩ ?_
   refine W.block ?_
   refine W.aE (fun k=>k≤g.length) (fun k:Nat=> [(10, .one (.a (.lit (.int .i64 k))))]) (fun k=> [(14, .arr .aO (gM x g k).1),(21, .arr .int (gM x g k).2)]) (fun k=>g.length-k) 0 (fun k=>rfl) (Nat.zero_le _) rfl ?_
   rintro k gS
   have nG:=zM (x:=x) gS
   have hU:=KH hok gS
   refine W.seq ?_
   refine W.s0 X [1,3,6,7,10,44] rfl ⟨⟩ ?_
   refine W.cond rfl (fun aM=> ?_) (fun aM=> ?_)
   ·try simp only[nb,an,aq,aa]at aM
    have hst:=KG (x:=x) aM
    refine W.skip ?_
    refine W.seq ?_
    refine W.block ?_
    refine W.cD X [] [(800051,⟨true,[]⟩),(700051,⟨true,[.agg [.ptr 1000 907, .ptr 11 14, .ptr 12 15, .ptr 13 17, .ptr 14 21], .agg [], .agg [.own 1000, .own 11, .own 12, .own 13, .own 14], .agg [.lit (.int .i64 (⟨x.rows,(gM x g k).1,x.af,x.ak,x.az,x.seed,x.round,(gM x g k).2,IntKind.i64.wrap (x.cancelled+1)⟩:aJ).rows), .own 11, .own 12, .lit (.int .i64 (⟨x.rows,(gM x g k).1,x.af,x.ak,x.az,x.seed,x.round,(gM x g k).2,IntKind.i64.wrap (x.cancelled+1)⟩:aJ).ak.rows), .own 13, .lit (.int .i64 (⟨x.rows,(gM x g k).1,x.af,x.ak,x.az,x.seed,x.round,(gM x g k).2,IntKind.i64.wrap (x.cancelled+1)⟩:aJ).az), .lit (.int .i64 (⟨x.rows,(gM x g k).1,x.af,x.ak,x.az,x.seed,x.round,(gM x g k).2,IntKind.i64.wrap (x.cancelled+1)⟩:aJ).seed), .lit (.int .i64 (⟨x.rows,(gM x g k).1,x.af,x.ak,x.az,x.seed,x.round,(gM x g k).2,IntKind.i64.wrap (x.cancelled+1)⟩:aJ).round), .own 14, .lit (.int .i64 (⟨x.rows,(gM x g k).1,x.af,x.ak,x.az,x.seed,x.round,(gM x g k).2,IntKind.i64.wrap (x.cancelled+1)⟩:aJ).cancelled)], .a (.sl .aO ((s9 (⟨x.rows,(gM x g k).1,x.af,x.ak,x.az,x.seed,x.round,(gM x g k).2,IntKind.i64.wrap (x.cancelled+1)⟩:aJ).rows x.round ((⟨x.rows,(gM x g k).1,x.af,x.ak,x.az,x.seed,x.round,(gM x g k).2,IntKind.i64.wrap (x.cancelled+1)⟩:aJ).ah,(⟨x.rows,(gM x g k).1,x.af,x.ak,x.az,x.seed,x.round,(gM x g k).2,IntKind.i64.wrap (x.cancelled+1)⟩:aJ).replaced) (g.getD k (au .int))).1)), .a (.sl .aL ((⟨x.rows,(gM x g k).1,x.af,x.ak,x.az,x.seed,x.round,(gM x g k).2,IntKind.i64.wrap (x.cancelled+1)⟩:aJ).af)), .a (.sl .ay ((⟨x.rows,(gM x g k).1,x.af,x.ak,x.az,x.seed,x.round,(gM x g k).2,IntKind.i64.wrap (x.cancelled+1)⟩:aJ).ak.rounds)), .a (.sl .int ((s9 (⟨x.rows,(gM x g k).1,x.af,x.ak,x.az,x.seed,x.round,(gM x g k).2,IntKind.i64.wrap (x.cancelled+1)⟩:aJ).rows x.round ((⟨x.rows,(gM x g k).1,x.af,x.ak,x.az,x.seed,x.round,(gM x g k).2,IntKind.i64.wrap (x.cancelled+1)⟩:aJ).ah,(⟨x.rows,(gM x g k).1,x.af,x.ak,x.az,x.seed,x.round,(gM x g k).2,IntKind.i64.wrap (x.cancelled+1)⟩:aJ).replaced) (g.getD k (au .int))).2))]⟩)] [1,3,6,7,10] [] rfl (by(repeat' with_reducible first|exact aj.nil|refine aj.mk ?_ ?_|apply And.intro)<;>first|exact(pK (⟨x.rows,(gM x g k).1,x.af,x.ak,x.az,x.seed,x.round,(gM x g k).2,IntKind.i64.wrap (x.cancelled+1)⟩:aJ) x.round (g.getD k (au .int)) (by show(gM x g k).1.length≤4;omega) Qa hU (by show(gM x g k).2.length≤_;omega) rfl)| (intros;omega)) ?_
    refine W.r0 X [1,3,6,7,10] rfl ⟨⟩ ?_
    refine⟨k+1,by omega,by omega,?_⟩
    rw[aR _ k rfl (by omega), ←hst]
    try rfl
   ·try simp only[nb,an,aq,aa]at aM
    rw[vM aM]
    refine W.exit ?_
    refine W.seq ?_
    refine W.s0 X [3,6,7,11] rfl ⟨⟩ ?_
    refine W.block ?_
    refine W.aE (fun k1=>k1≤x.ah.length) (fun k1:Nat=> [(11, .one (.a (.lit (.int .i64 k1))))]) (fun k1=> [(14, .arr .aO (Cl (sq x g).1 k1))]) (fun k1=>x.ah.length-k1) 0 (fun k1=>rfl) (Nat.zero_le _) (by rw[OC];rfl) ?_
    intro k1 hk1
    have B1:(Cl (sq x g).1 k1).length=x.ah.length:=by rw[C0 (by omega)];exact hcp.1
    refine W.seq ?_
    refine W.s0 X [3,6,7,11,56] rfl ⟨⟩ ?_
    refine W.cond rfl (fun gB=> ?_) (fun gB=> ?_)
    ·try simp only[nb,an,aq,aa]at gB
     rw[B1]at gB
     have hgt:=CZ (l:=(sq x g).1) (k:=k1) (by omega)
     have WR:=qX hcU (k:=k1) (by omega)
     have FG:=zN (l:=(sq x g).1) (k:=k1) (by omega)
     refine W.skip ?_
     refine W.seq ?_
     refine W.block ?_
     refine W.draw X [] [(67,⟨true,[.agg (bq (iI ((Cl (sq x g).1 k1).getD k1 (au .aO))))]⟩)] [3,6,7,11] [] 10 MO (by kernel_rfl) rfl (by(repeat' with_reducible first|exact aj.nil|refine aj.mk ?_ ?_|apply And.intro)<;>first|exact(pI ((Cl (sq x g).1 k1).getD k1 (au .aO)) (by rw[hgt];exact WR.2))| (intros;omega)) ?_
     refine W.r0 X [3,6,7,11] rfl ⟨⟩ ?_
     refine⟨k1+1,by omega,by omega,?_⟩
     rw[aR _ k1 rfl (by omega), ←FG]
     try rfl
    ·try simp only[nb,an,aq,aa]at gB
     rw[B1]at gB
     rw[C1 (by omega)]
     refine W.exit ?_
     refine W.s0 X [6,7] rfl ⟨⟩ ?_
     refine W.s0 X [6] rfl (by and_intros<;>exact⟨⟩) ?_
     refine W.ret ?_
     exact Fin.ret rfl (by and_intros<;>first|exact⟨⟩| (rw[hc];done))
theorem xH(x:aJ)(h0:wB x):Sound ty Tryz.prog 323 [.agg (aG x)] [.agg (aG (testW x))]:=by
 refine Sound.o X Tryz.call323 Tryz.func323 Tryz.ntmps323 rfl rfl ?_
 intro zb
 have hls:bX bp x.ah≤1048576∧bX aP x.af≤1048576∧cB x.ak≤1048576∧x.replaced.length≤4194304:=h0
 have FG:=TZ h0
 refine W.s0 X [1,2] rfl ⟨⟩ ?_
 refine W.sr X [(3,903)] [(12,⟨true,[.agg (aG x)]⟩)] [1,2,3] [] rfl (by(repeat' with_reducible first|exact aj.nil|refine aj.mk ?_ ?_|apply And.intro)<;>first|exact(fj x h0)) ?_
 refine W.sr X [] [(15,⟨false,[.a (.lit (.int .i64 (bR x.ak)))]⟩)] [1,2,3,4] [] rfl (by(repeat' with_reducible first|exact aj.nil|refine aj.mk ?_ ?_|apply And.intro)<;>first|exact(gj x.ak)) ?_
 refine W.sr X [(20,80)] [(20,⟨true,[.agg (aF (dn x.ak.rounds (bR x.ak))), .a (.lit (.bool (gw x.ak.rounds (bR x.ak))))]⟩)] [1,2,3,4,5,6] [] rfl (by(repeat' with_reducible first|exact aj.nil|refine aj.mk ?_ ?_|apply And.intro)<;>first|exact(gx x.ak (bR x.ak) FG)) ?_
 refine W.seq ?_
 refine W.sr X [] [(24,⟨false,[.a (.lit (.bool (okW x)))]⟩)] [1,2,3,4,5,29] [] rfl (by(repeat' with_reducible first|exact aj.nil|refine aj.mk ?_ ?_|apply And.intro)<;>first|exact(cz x)) ?_
 refine W.cond rfl (fun hb0=> ?_) (fun hb0=> ?_)
 ·have hk:uO x=false:=bK hb0 (by simp only[uO,aH]<;>first|rfl|ac_rfl)
  have hc:=EX hk
  refine W.s0 X [2] rfl (by and_intros<;>exact⟨⟩) ?_
  refine W.ret ?_
  exact Fin.ret rfl (by and_intros<;>first|exact⟨⟩| (rw[hc];done))
 ·have hk:uO x=true:=bG hb0 (by simp only[uO,aH]<;>first|rfl|ac_rfl)
  have hc:=Be hk
  have hkk:=hk
  rw[uO,Bool.and_eq_true]at hkk
  obtain⟨hok,hah⟩:=hkk
  have oK:=cN hok
  have Qa:=(lK hok).1
  refine W.skip ?_
  refine W.seq ?_
  refine W.s0 X [1,2,3,4,5,7] rfl ⟨⟩ ?_
  refine W.block ?_
  refine W.aE (fun k=>k≤x.ah.length) (fun k:Nat=> [(7, .one (.a (.lit (.int .i64 k))))]) (fun k=> [(13, .arr .aO (fW x k).1),(20, .arr .int (fW x k).2)]) (fun k=>x.ah.length-k) 0 (fun k=>rfl) (Nat.zero_le _) rfl ?_
  rintro k gS
  have htb:=KK hok k gS
  refine W.seq ?_
  refine W.s0 X [1,2,3,4,5,7,35] rfl ⟨⟩ ?_
  refine W.cond rfl (fun aB=> ?_) (fun aB=> ?_)
  ·try simp only[nb,an,aq,aa]at aB
   have hrl:=iz (kh x.seed [227,x.round,(k:Int)]) x.rows
   have hab:=X5 (x.ah.getD k (au .aO)) (fU x.az (k:Int)) (bR x.ak) (dn x.ak.rounds (bR x.ak)) (v:=(bg (kh x.seed [227,x.round,(k:Int)]) x.rows)) (by omega)
   have X9:=TY hok hah (kh x.seed [227,x.round,(k:Int)])
   refine W.skip ?_
   refine W.seq ?_
   refine W.block ?_
   refine W.sr X [] [(41,⟨false,[.a (.lit (.int .i64 (fU x.az (k:Int))))]⟩)] [1,2,3,4,5,7,8] [] rfl (by(repeat' with_reducible first|exact aj.nil|refine aj.mk ?_ ?_|apply And.intro)<;>first|exact(gu x.az (k:Int))) ?_
   refine W.seq ?_
   refine W.fZ X [] [(57,⟨false,[.a (.lit (.int .i64 (kh x.seed [227,x.round,(k:Int)])))]⟩),(60,⟨true,[.a (.sl .int (bg (kh x.seed [227,x.round,(k:Int)]) x.rows))]⟩),(61,⟨true,[.agg (dJ (Fo (x.ah.getD k (au .aO)) (fU x.az (k:Int)) (bR x.ak) (dn x.ak.rounds (bR x.ak)) (bg (kh x.seed [227,x.round,(k:Int)]) x.rows))), .a (.lit (.bool (iV (dn x.ak.rounds (bR x.ak)) (bg (kh x.seed [227,x.round,(k:Int)]) x.rows))))]⟩)] [1,2,3,4,5,7,8,9,10] [] 25165823 (.ph 8388607 (.br 8388607 23 (.last 16777216) (.br 6291455 23 (.last 18874368) (.nil)))) 1 MO (by kernel_rfl) rfl (by kernel_rfl) (by(repeat' with_reducible first|exact aj.nil|refine aj.mk ?_ ?_|apply And.intro);(iterate 3 all_goals try first|exact(aW x.seed [227,x.round,(k:Int)] (by first|assumption|omega| (simp;done)| (simp;omega)))|exact(kI (kh x.seed [227,x.round,(k:Int)]) x.rows)|exact(sN (x.ah.getD k (au .aO)) (fU x.az (k:Int)) (bR x.ak) (dn x.ak.rounds (bR x.ak)) (bg (kh x.seed [227,x.round,(k:Int)]) x.rows) (by omega)));all_goals first| (intros;omega)|exact⟨rfl,bA _ (by decide)⟩) ?_
   refine W.sr X [] [(69,⟨false,[.a (.lit (.bool (X6 (fU x.az (k:Int)) (dn x.ak.rounds (bR x.ak)) (Z0 x k))))]⟩)] [1,2,3,4,5,7,70] [] rfl (by(repeat' with_reducible first|exact aj.nil|refine aj.mk ?_ ?_|apply And.intro)<;>first|exact fun _=>(uS (fU x.az (k:Int)) (dn x.ak.rounds (bR x.ak)) (Z0 x k) hab.1 hab.2)) ?_
   refine W.cond rfl (fun aM=> ?_) (fun aM=> ?_)
   ·have VL:TB x k=true:=by rw[X9]at aM;exact aM
    have hst:=Io (x:=x) (n:=k) VL
    refine W.cD X [] [(800072,⟨true,[]⟩),(700072,⟨true,[.agg [.ptr 1000 903, .ptr 11 13, .ptr 12 14, .ptr 13 16, .ptr 14 20], .agg [], .agg [.own 1000, .own 11, .own 12, .own 13, .own 14], .agg [.lit (.int .i64 (⟨x.rows,(fW x k).1,x.af,x.ak,x.az,x.seed,x.round,(fW x k).2,x.cancelled⟩:aJ).rows), .own 11, .own 12, .lit (.int .i64 (⟨x.rows,(fW x k).1,x.af,x.ak,x.az,x.seed,x.round,(fW x k).2,x.cancelled⟩:aJ).ak.rows), .own 13, .lit (.int .i64 (⟨x.rows,(fW x k).1,x.af,x.ak,x.az,x.seed,x.round,(fW x k).2,x.cancelled⟩:aJ).az), .lit (.int .i64 (⟨x.rows,(fW x k).1,x.af,x.ak,x.az,x.seed,x.round,(fW x k).2,x.cancelled⟩:aJ).seed), .lit (.int .i64 (⟨x.rows,(fW x k).1,x.af,x.ak,x.az,x.seed,x.round,(fW x k).2,x.cancelled⟩:aJ).round), .own 14, .lit (.int .i64 (⟨x.rows,(fW x k).1,x.af,x.ak,x.az,x.seed,x.round,(fW x k).2,x.cancelled⟩:aJ).cancelled)], .a (.sl .aO ((s9 (⟨x.rows,(fW x k).1,x.af,x.ak,x.az,x.seed,x.round,(fW x k).2,x.cancelled⟩:aJ).rows x.round ((⟨x.rows,(fW x k).1,x.af,x.ak,x.az,x.seed,x.round,(fW x k).2,x.cancelled⟩:aJ).ah,(⟨x.rows,(fW x k).1,x.af,x.ak,x.az,x.seed,x.round,(fW x k).2,x.cancelled⟩:aJ).replaced) (k:Int)).1)), .a (.sl .aL ((⟨x.rows,(fW x k).1,x.af,x.ak,x.az,x.seed,x.round,(fW x k).2,x.cancelled⟩:aJ).af)), .a (.sl .ay ((⟨x.rows,(fW x k).1,x.af,x.ak,x.az,x.seed,x.round,(fW x k).2,x.cancelled⟩:aJ).ak.rounds)), .a (.sl .int ((s9 (⟨x.rows,(fW x k).1,x.af,x.ak,x.az,x.seed,x.round,(fW x k).2,x.cancelled⟩:aJ).rows x.round ((⟨x.rows,(fW x k).1,x.af,x.ak,x.az,x.seed,x.round,(fW x k).2,x.cancelled⟩:aJ).ah,(⟨x.rows,(fW x k).1,x.af,x.ak,x.az,x.seed,x.round,(fW x k).2,x.cancelled⟩:aJ).replaced) (k:Int)).2))]⟩)] [1,2,3,4,5,7] [] rfl (by(repeat' with_reducible first|exact aj.nil|refine aj.mk ?_ ?_|apply And.intro)<;>first|exact(pK (⟨x.rows,(fW x k).1,x.af,x.ak,x.az,x.seed,x.round,(fW x k).2,x.cancelled⟩:aJ) x.round (k:Int) (by show(fW x k).1.length≤4;omega) Qa htb.1 (by show(fW x k).2.length≤_;omega) rfl)) ?_
    refine W.r0 X [1,2,3,4,5,7] rfl ⟨⟩ ?_
    refine⟨k+1,by omega,by omega,?_⟩
    rw[aR _ k rfl (by omega), ←hst]
    try rfl
   ·have VL:TB x k=false:=by rw[X9]at aM;exact aM
    have hst:=ET (x:=x) (n:=k) VL
    refine W.skip ?_
    refine W.r0 X [1,2,3,4,5,7] rfl ⟨⟩ ?_
    refine⟨k+1,by omega,by omega,?_⟩
    rw[aR _ k rfl (by omega),hst]
    try rfl
  ·try simp only[nb,an,aq,aa]at aB
   refine W.exit ?_
   refine W.s0 X [2] rfl (by and_intros<;>exact⟨⟩) ?_
   refine W.ret ?_
   exact Fin.ret rfl (by and_intros<;>first|exact⟨⟩| (rw[hc];done)| (rw[hc,show k=x.ah.length by omega];done))
end
section
set_option maxRecDepth 100000
theorem Co(x:aJ)(hR:wR x)(hok:okW x=true):Sound ty Tryz.prog 221 [.agg (aG x)] [.agg (aG (wN (testW (aQ x (gT x.az (aN x) (bH (aN x)) (dO x) (aN x).length) (jw (bH (aN x)))))))]:=by
 refine Sound.o X Tryz.call221 Tryz.func221 Tryz.ntmps221 rfl rfl ?_
 intro zb
 obtain⟨h0,hrp⟩:=hR
 have oK:=Gu h0
 have Ar:=mA hok
 have hcs:=EL hok
 have hs4:=cN hok
 have hpd:=kR (aN x)
 have hjz:=cZ (BO _ hpd)
 have hgl:=uM x.az (aN x) (bH (aN x)) (dO x) (aN x).length
 have oD:(bH (aN x)).length=(aN x).length:=List.length_map ..
 obtain⟨hB1,hB2⟩:=WS h0 hok hrp
 refine W.s0 X [1,2] rfl ⟨⟩ ?_
 refine W.sr X [] [(10,⟨true,[.a (.sl .aO (aN x)), .a (.sl .dP (dO x))]⟩)] [1,2,3,4] [] rfl (by(repeat' with_reducible first|exact aj.nil|refine aj.mk ?_ ?_|apply And.intro)<;>first|exact(uQ x h0)) ?_
 refine W.sr X [] [(14,⟨true,[.a (.sl .DB (bH (aN x)))]⟩)] [1,2,3,4,5] [] rfl (by(repeat' with_reducible first|exact aj.nil|refine aj.mk ?_ ?_|apply And.intro)<;>first|exact(zJ (aN x) (by omega))) ?_
 refine W.sr X [] [(17,⟨true,[.agg (aF (jw (bH (aN x)))), .a (.lit (.bool (zy (bH (aN x)))))]⟩)] [1,2,3,4,5,6] [] rfl (by(repeat' with_reducible first|exact aj.nil|refine aj.mk ?_ ?_|apply And.intro)<;>first|exact(mD (bH (aN x)) (by omega) hpd)) ?_
 refine W.sd X [(28,60),(29,100),(30,150)] [(26,⟨true,[.a (.sl .int (gT x.az (aN x) (bH (aN x)) (dO x) (aN x).length))]⟩),(28,⟨true,[.agg [.lit (.int .i64 (aQ x (gT x.az (aN x) (bH (aN x)) (dO x) (aN x).length) (jw (bH (aN x)))).rows), .sl .aO (aQ x (gT x.az (aN x) (bH (aN x)) (dO x) (aN x).length) (jw (bH (aN x)))).ah, .sl .aL (aQ x (gT x.az (aN x) (bH (aN x)) (dO x) (aN x).length) (jw (bH (aN x)))).af, .lit (.int .i64 (aQ x (gT x.az (aN x) (bH (aN x)) (dO x) (aN x).length) (jw (bH (aN x)))).ak.rows), .vw 0 none .ay (aQ x (gT x.az (aN x) (bH (aN x)) (dO x) (aN x).length) (jw (bH (aN x)))).ak.rounds, .lit (.int .i64 (aQ x (gT x.az (aN x) (bH (aN x)) (dO x) (aN x).length) (jw (bH (aN x)))).az), .lit (.int .i64 (aQ x (gT x.az (aN x) (bH (aN x)) (dO x) (aN x).length) (jw (bH (aN x)))).seed), .lit (.int .i64 (aQ x (gT x.az (aN x) (bH (aN x)) (dO x) (aN x).length) (jw (bH (aN x)))).round), .sl .int (aQ x (gT x.az (aN x) (bH (aN x)) (dO x) (aN x).length) (jw (bH (aN x)))).replaced, .lit (.int .i64 (aQ x (gT x.az (aN x) (bH (aN x)) (dO x) (aN x).length) (jw (bH (aN x)))).cancelled)]]⟩),(29,⟨true,[.agg (aG (testW (aQ x (gT x.az (aN x) (bH (aN x)) (dO x) (aN x).length) (jw (bH (aN x))))))]⟩),(30,⟨true,[.agg (aG (wN (testW (aQ x (gT x.az (aN x) (bH (aN x)) (dO x) (aN x).length) (jw (bH (aN x)))))))]⟩)] [2] [] 11 MO (by kernel_rfl) rfl (by(repeat' with_reducible first|exact aj.nil|refine aj.mk ?_ ?_|apply And.intro);(iterate 4 all_goals try first|exact(zI x.az (aN x) (bH (aN x)) (dO x) (by omega) hcs (WE _))|exact(zP x (gT x.az (aN x) (bH (aN x)) (dO x) (aN x).length) (jw (bH (aN x))) h0 (by omega) hjz)|exact(xH (aQ x (gT x.az (aN x) (bH (aN x)) (dO x) (aN x).length) (jw (bH (aN x)))) hB1)|exact(Ba (testW (aQ x (gT x.az (aN x) (bH (aN x)) (dO x) (aN x).length) (jw (bH (aN x))))) hB2))) ?_
 refine W.ret ?_
 exact Fin.ret rfl ⟨rfl,rfl,rfl,rfl,rfl,rfl,rfl,rfl,rfl,rfl,⟨⟩⟩
end
section
set_option maxRecDepth 100000
theorem m6(c:ep)(b:List UInt8)(h0:bX List.length c.av≤1048576∧bX List.length c.inbox≤1048576)(hb:b.length≤1048576):Sound ty Tryz.prog 267 [.agg (bn c), .a (.sl .u8 b)] [.agg (bn (mB c b)), .a (.lit (.bool (A8 c b)))]:=by
 refine Sound.o X Tryz.call267 Tryz.func267 Tryz.ntmps267 rfl rfl ?_
 intro zb
 have rN:=cI h0.1
 refine W.s0 X [1,2,4] rfl ⟨⟩ ?_
 refine W.sr X [] [(8,⟨true,[.agg (bn c)]⟩)] [1,2,4,6] [] rfl (by(repeat' with_reducible first|exact aj.nil|refine aj.mk ?_ ?_|apply And.intro)<;>first|exact(ff c h0)) ?_
 refine W.seq ?_
 refine W.fZ X [(13,11),(13,40)] [(500014,⟨true,[]⟩)] [2,4,6] [] 175 (.ph 15 (.br 15 4 (.ph 32 (.br 32 6 (.ph 128 (.br 128 8 (.last 0) (.nil))) (.nil))) (.br 13 4 (.ph 34 (.br 34 6 (.ph 128 (.br 128 8 (.last 0) (.nil))) (.nil))) (.br 12 4 (.ph 35 (.br 35 6 (.ph 128 (.br 128 8 (.last 0) (.nil))) (.nil))) (.nil))))) 2 MO (by kernel_rfl) rfl (by kernel_rfl) (by and_intros<;>first|exact⟨⟩|exact rfl| (simp only[cT,maxLen,lens];omega)) ?_
 refine W.seq ?_
 refine W.sr X [] [(18,⟨false,[.a (.lit (.bool (dh c)))]⟩),(22,⟨false,[.a (.lit (.bool (dh (TN c b))))]⟩)] [2,4,6,24] [] rfl (by(repeat' with_reducible first|exact aj.nil|refine aj.mk ?_ ?_|apply And.intro);(iterate 2 all_goals try first|exact(dz c)|exact fun _=>(dz (TN c b)))) ?_
 refine W.cond rfl (fun hb0=> ?_) (fun hb0=> ?_)
 ·have hk:A8 c b=false:=bK hb0 (by simp only[A8,aH]<;>first|rfl|ac_rfl)
  have hq:=WT hk
  refine W.sr X [] [(26,⟨true,[.agg (bn c)]⟩)] [4,5] [] rfl (by(repeat' with_reducible first|exact aj.nil|refine aj.mk ?_ ?_|apply And.intro)<;>first|exact(ff c h0)) ?_
  refine W.ret ?_
  exact Fin.ret rfl (by and_intros<;>first|exact⟨⟩| (rw[hq];done)| (rw[hk];done))
 ·have hk:A8 c b=true:=bG hb0 (by simp only[A8,aH]<;>first|rfl|ac_rfl)
  have hq:=EY hk
  refine W.skip ?_
  refine W.s0 X [4,5] rfl (by and_intros<;>exact⟨⟩) ?_
  refine W.ret ?_
  exact Fin.ret rfl (by and_intros<;>first|exact⟨⟩| (rw[hq];rfl;done)| (rw[hk];done))
theorem tj(d:aL)(b:List UInt8)(h0:aP d≤1048576)(hb:b.length≤1048576):Sound ty Tryz.prog 143 [.agg (bz d), .a (.sl .u8 b)] [.agg (bz (Cj d b)), .a (.lit (.bool (Ci d b)))]:=by
 refine Sound.o X Tryz.call143 Tryz.func143 Tryz.ntmps143 rfl rfl ?_
 intro zb
 have wV:bD d.live≤1048576∧bD d.saved≤1048576:=by unfold aP at h0;omega
 unfold bD at wV
 refine W.s0 X [1,2,4] rfl ⟨⟩ ?_
 refine W.sr X [] [(14,⟨true,[.agg (bn (mB d.live b)), .a (.lit (.bool (A8 d.live b)))]⟩)] [1,2,4,6,7] [] rfl (by(repeat' with_reducible first|exact aj.nil|refine aj.mk ?_ ?_|apply And.intro)<;>first|exact(m6 d.live b ⟨by omega,by omega⟩ hb)) ?_
 refine W.sr X [] [(21,⟨true,[.agg (bn (mB d.saved b)), .a (.lit (.bool (A8 d.saved b)))]⟩)] [2,4,6,7,8,9] [] rfl (by(repeat' with_reducible first|exact aj.nil|refine aj.mk ?_ ?_|apply And.intro)<;>first|exact(m6 d.saved b ⟨by omega,by omega⟩ hb)) ?_
 refine W.seq ?_
 refine W.sr X [] [(25,⟨false,[.a (.lit (.bool (cL d)))]⟩)] [2,4,6,8,34] [] rfl (by(repeat' with_reducible first|exact aj.nil|refine aj.mk ?_ ?_|apply And.intro)<;>first|exact(dA d)) ?_
 refine W.cond rfl (fun hb0=> ?_) (fun hb0=> ?_)
 ·have hk:Ci d b=false:=bK hb0 (by simp only[Ci,aH]<;>first|rfl|ac_rfl)
  have hq:=WU hk
  refine W.sr X [] [(36,⟨true,[.agg (bz d)]⟩)] [4,5] [] rfl (by(repeat' with_reducible first|exact aj.nil|refine aj.mk ?_ ?_|apply And.intro)<;>first|exact(iH d h0)) ?_
  refine W.ret ?_
  exact Fin.ret rfl (by and_intros<;>first|exact⟨⟩| (rw[hq];done)| (rw[hk];done))
 ·have hk:Ci d b=true:=bG hb0 (by simp only[Ci,aH]<;>first|rfl|ac_rfl)
  have hq:=T0 hk
  refine W.skip ?_
  refine W.s0 X [4,5] rfl (by and_intros<;>exact⟨⟩) ?_
  refine W.ret ?_
  exact Fin.ret rfl (by and_intros<;>first|exact⟨⟩| (rw[hq];done)| (rw[hk];done))
theorem xJ(d:aL)(h0:aP d≤1048576):Sound ty Tryz.prog 293 [.agg (bz d)] [.agg (bz (WM d))]:=by
 refine Sound.o X Tryz.call293 Tryz.func293 Tryz.ntmps293 rfl rfl ?_
 intro zb
 have wV:bD d.live≤1048576∧bD d.saved≤1048576:=by unfold aP at h0;omega
 unfold bD at wV
 refine W.s0 X [1,2] rfl ⟨⟩ ?_
 refine W.seq ?_
 refine W.sr X [] [(4,⟨false,[.a (.lit (.bool (cL d)))]⟩)] [1,2,5] [] rfl (by(repeat' with_reducible first|exact aj.nil|refine aj.mk ?_ ?_|apply And.intro)<;>first|exact(dA d)) ?_
 refine W.cond rfl (fun hb0=> ?_) (fun hb0=> ?_)
 ·have hk:cL d=false:=by simpa using hb0
  have hd:WM d=d:=by rw[WM,hk];rfl
  refine W.sr X [] [(7,⟨true,[.agg (bz d)]⟩)] [2] [] rfl (by(repeat' with_reducible first|exact aj.nil|refine aj.mk ?_ ?_|apply And.intro)<;>first|exact(iH d h0)) ?_
  refine W.ret ?_
  exact Fin.ret rfl (by and_intros<;>first|exact⟨⟩| (rw[hd];done))
 ·have hk:cL d=true:=by simpa using hb0
  have hd:WM d=⟨d.saved,d.saved⟩:=by rw[WM,if_pos hk]
  refine W.skip ?_
  refine W.sr X [] [(10,⟨true,[.agg (bz (⟨d.saved,d.saved⟩:aL))]⟩)] [2] [] rfl (by(repeat' with_reducible first|exact aj.nil|refine aj.mk ?_ ?_|apply And.intro)<;>first|exact(lP d.saved ⟨by omega,by omega⟩)) ?_
  refine W.ret ?_
  exact Fin.ret rfl (by and_intros<;>first|exact⟨⟩| (rw[hd];done))
theorem iK(x:aJ)(c:Int)(b:List UInt8)(h0:wB x)(hb:b.length≤1048576):Sound ty Tryz.prog 37 [.agg (aG x), .a (.lit (.int .i64 c)), .a (.sl .u8 b)] [.agg (aG (CY x c b)), .a (.lit (.bool (KA x c b)))]:=by
 refine Sound.o X Tryz.call37 Tryz.func37 Tryz.ntmps37 rfl rfl ?_
 intro zb
 refine W.b7 0 1 rfl rfl (fun nj=> ?_)
 refine W.b7 0 2 rfl rfl (fun j0=> ?_)
 have hdv:=S5 h0
 have oK:=Gu h0
 have hw:IntKind.i64.wrap ((x.af.length:Int)-1)=(x.af.length:Int)-1:=bl (by omega)
 refine W.s0 X [1,2,3,6] rfl ⟨⟩ ?_
 refine W.sr X [] [(12,⟨true,[.agg (aG x)]⟩)] [1,2,3,6,8] [] rfl (by(repeat' with_reducible first|exact aj.nil|refine aj.mk ?_ ?_|apply And.intro)<;>first|exact(fj x h0)) ?_
 refine W.seq ?_
 refine W.sr X [] [(14,⟨false,[.a (.lit (.bool (okW x)))]⟩),(22,⟨false,[.a (.lit (.bool (inr c 0 (IntKind.i64.wrap ((x.af.length:Int)-1)))))]⟩)] [1,2,3,6,8,24] [] rfl (by(repeat' with_reducible first|exact aj.nil|refine aj.mk ?_ ?_|apply And.intro);(iterate 2 all_goals try first|exact(cz x)|exact fun _=>(aK c 0 (IntKind.i64.wrap ((x.af.length:Int)-1))))) ?_
 refine W.cond rfl (fun hb0=> ?_) (fun hb0=> ?_)
 ·have hk:iJ x c=false:=bK hb0 (by simp only[iJ,qy,hw,aH]<;>first|rfl|ac_rfl)
  have hq:=Z8 (b:=b) hk
  refine W.s0 X [6,7] rfl (by and_intros<;>exact⟨⟩) ?_
  refine W.ret ?_
  exact Fin.ret rfl (by and_intros<;>first|exact⟨⟩| (rw[hq.1];done)| (rw[hq.2];done))
 ·have hk:iJ x c=true:=bG hb0 (by simp only[iJ,qy,hw,aH]<;>first|rfl|ac_rfl)
  obtain⟨hok,hc0,wV⟩:=CX hk
  have hdz:=T1 hk
  have hq:=WV (b:=b) hk
  refine W.skip ?_
  refine W.sr X [] [(33,⟨true,[.agg (bz (Cj (x.af.getD c.toNat (au .aL)) b)), .a (.lit (.bool (Ci (x.af.getD c.toNat (au .aL)) b)))]⟩)] [1,6,8,9,10] [] rfl (by(repeat' with_reducible first|exact aj.nil|refine aj.mk ?_ ?_|apply And.intro)<;>first|exact(tj (x.af.getD c.toNat (au .aL)) b hdz hb)| (intros;omega)) ?_
  refine W.s0 X [6,8,10] rfl (by and_intros<;>first|exact⟨⟩| (intros;omega)) ?_
  refine W.s0 X [6,7] rfl (by and_intros<;>exact⟨⟩) ?_
  refine W.ret ?_
  exact Fin.ret rfl (by and_intros<;>first|exact⟨⟩| (rw[hq.1];rfl;done)| (rw[hq.2];rfl;done))
theorem xK(x:aJ)(c:Int)(h0:wB x):Sound ty Tryz.prog 176 [.agg (aG x), .a (.lit (.int .i64 c))] [.agg (aG (TJ x c)), .a (.lit (.bool (iJ x c)))]:=by
 refine Sound.o X Tryz.call176 Tryz.func176 Tryz.ntmps176 rfl rfl ?_
 intro zb
 refine W.b7 0 1 rfl rfl (fun nj=> ?_)
 refine W.b7 0 2 rfl rfl (fun j0=> ?_)
 have hdv:=S5 h0
 have oK:=Gu h0
 have hw:IntKind.i64.wrap ((x.af.length:Int)-1)=(x.af.length:Int)-1:=bl (by omega)
 refine W.s0 X [1,2,4] rfl ⟨⟩ ?_
 refine W.sr X [] [(8,⟨true,[.agg (aG x)]⟩)] [1,2,4,6] [] rfl (by(repeat' with_reducible first|exact aj.nil|refine aj.mk ?_ ?_|apply And.intro)<;>first|exact(fj x h0)) ?_
 refine W.seq ?_
 refine W.sr X [] [(10,⟨false,[.a (.lit (.bool (okW x)))]⟩),(18,⟨false,[.a (.lit (.bool (inr c 0 (IntKind.i64.wrap ((x.af.length:Int)-1)))))]⟩)] [1,2,4,6,20] [] rfl (by(repeat' with_reducible first|exact aj.nil|refine aj.mk ?_ ?_|apply And.intro);(iterate 2 all_goals try first|exact(cz x)|exact fun _=>(aK c 0 (IntKind.i64.wrap ((x.af.length:Int)-1))))) ?_
 refine W.cond rfl (fun hb0=> ?_) (fun hb0=> ?_)
 ·have hk:iJ x c=false:=bK hb0 (by simp only[iJ,qy,hw,aH]<;>first|rfl|ac_rfl)
  have hq:=Z9 hk
  refine W.s0 X [4,5] rfl (by and_intros<;>exact⟨⟩) ?_
  refine W.ret ?_
  exact Fin.ret rfl (by and_intros<;>first|exact⟨⟩| (rw[hq];done)| (rw[hk];done))
 ·have hk:iJ x c=true:=bG hb0 (by simp only[iJ,qy,hw,aH]<;>first|rfl|ac_rfl)
  obtain⟨hok,hc0,wV⟩:=CX hk
  have hdz:=T1 hk
  have hq:=WW hk
  refine W.skip ?_
  refine W.sd X [] [(30,⟨true,[.agg (bz (WM (x.af.getD c.toNat (au .aL))))]⟩)] [4,6] [] 10 MO (by kernel_rfl) rfl (by(repeat' with_reducible first|exact aj.nil|refine aj.mk ?_ ?_|apply And.intro)<;>first|exact(xJ (x.af.getD c.toNat (au .aL)) hdz)| (intros;omega)) ?_
  refine W.s0 X [4,5] rfl (by and_intros<;>exact⟨⟩) ?_
  refine W.ret ?_
  exact Fin.ret rfl (by and_intros<;>first|exact⟨⟩| (rw[hq];rfl;done)| (rw[hk];done))
theorem uU(x:aJ)(i b:Int)(h0:wB x):Sound ty Tryz.prog 177 [.agg (aG x), .a (.lit (.int .i64 i)), .a (.lit (.int .i64 b))] [.agg (aG (TL x i b)), .a (.lit (.bool (EU x i b)))]:=by
 refine Sound.o X Tryz.call177 Tryz.func177 Tryz.ntmps177 rfl rfl ?_
 intro zb
 refine W.b7 0 1 rfl rfl (fun nj=> ?_)
 refine W.b7 0 2 rfl rfl (fun j0=> ?_)
 have hdv:=S5 h0
 have oK:=Gu h0
 refine W.s0 X [1,2,3,6] rfl ⟨⟩ ?_
 refine W.sr X [] [(10,⟨true,[.agg (aG x)]⟩)] [1,2,3,6,8] [] rfl (by(repeat' with_reducible first|exact aj.nil|refine aj.mk ?_ ?_|apply And.intro)<;>first|exact(fj x h0)) ?_
 refine W.seq ?_
 refine W.sr X [] [(12,⟨false,[.a (.lit (.bool (okW x)))]⟩),(20,⟨false,[.a (.lit (.bool (inr i 0 (IntKind.i64.wrap ((x.ah.length:Int)-1)))))]⟩),(25,⟨false,[.a (.lit (.bool (inr b 0 3)))]⟩)] [1,2,6,8,27] [] rfl (by(repeat' with_reducible first|exact aj.nil|refine aj.mk ?_ ?_|apply And.intro);(iterate 3 all_goals try first|exact(cz x)|exact fun _=>(aK i 0 (IntKind.i64.wrap ((x.ah.length:Int)-1)))|exact fun _=>(aK b 0 3))) ?_
 refine W.cond rfl (fun hb0=> ?_) (fun hb0=> ?_)
 ·have hk:EU x i b=false:=bK hb0 (by simp only[EU,aH]<;>first|rfl|ac_rfl)
  have hq:=aaa hk
  refine W.s0 X [6,7] rfl (by and_intros<;>exact⟨⟩) ?_
  refine W.ret ?_
  exact Fin.ret rfl (by and_intros<;>first|exact⟨⟩| (rw[hq];done)| (rw[hk];done))
 ·have hk:EU x i b=true:=bG hb0 (by simp only[EU,aH]<;>first|rfl|ac_rfl)
  have hcb:=TM hk
  have hq:=WX hk
  refine W.skip ?_
  refine W.s0 X [6,8] rfl (by and_intros<;>first|exact⟨⟩| (intros;omega)) ?_
  refine W.s0 X [6,7] rfl (by and_intros<;>exact⟨⟩) ?_
  refine W.ret ?_
  exact Fin.ret rfl (by and_intros<;>first|exact⟨⟩| (rw[hq];rfl;done)| (rw[hk];done))
end
section
set_option maxRecDepth 100000
theorem jz(v:Value)(c:jy)(b:List UInt8)(hcb:c.b=b)(hb:b.length≤1048576):dG ty Tryz.prog 289 [(1000, .box [.fY v .u8 b, .lit (.int .i64 (c.i:Int)), .lit (.int .i64 c.h)])] [.a (.ptr 1000 0)] [(1000, .box [.fY v .u8 b, .lit (.int .i64 (c.n.i:Int)), .lit (.int .i64 c.n.h)])] [.a (.lit (.int .i64 c.x))]:=by
 refine dG.of X2 Tryz.call289 Tryz.func289 rfl rfl (by decide) Tryz.ntmps289 (by simp) rfl ?_
 intro zb
 subst hcb
 refine W.seq ?_
 refine W.cD X2 [] [] [0] [] rfl ⟨⟩ ?_
 refine W.seq ?_
 refine W.cD X2 [] [] [0] [] rfl (by and_intros<;>exact⟨⟩) ?_
 refine W.seq ?_
 refine W.draw X2 [] [] [0,3] [] 13 MO (by kernel_rfl) rfl (by and_intros<;>first|exact⟨⟩| (intros;omega)) ?_
 refine W.seq ?_
 refine W.seq ?_
 refine W.draw X2 [] [] [0,3,34] [] 10 MO (by kernel_rfl) rfl (by and_intros<;>exact⟨⟩) ?_
 refine W.cond rfl (fun hb0=> ?_) (fun hb0=> ?_)
 ·try simp only[nb,an,aq,aa]at hb0
  have hx:c.x=Qm (IntKind.i64.wrap (c.x0+IntKind.i64.wrap ((c.b.getD c.i (au .u8)).toNat:Int))):=by rw[jy.x,if_pos (by omega)]
  have hn:c.n.i=c.i+1:=by show(if c.i<c.b.length then c.i+1 else c.i)=_;rw[if_pos (by omega)]
  have hw:IntKind.i64.wrap ((c.i:Int)+1)=((c.i+1:Nat):Int):=by rw[bl (by omega)];omega
  refine W.seq ?_
  refine W.draw X2 [] [] [0,3] [] 15 MO (by kernel_rfl) rfl (by and_intros<;>first|exact⟨⟩| (intros;omega)) ?_
  refine W.cD X2 [] [] [3] [] rfl (by and_intros<;>exact⟨⟩) ?_
  refine W.seq ?_
  refine W.cD X2 [] [] [2] [] rfl ⟨⟩ ?_
  refine W.ret ?_
  exact og.ret rfl ⟨by rw[hx];rfl,rfl,rfl,by rw[hn,hw],rfl,⟨⟩⟩
 ·try simp only[nb,an,aq,aa]at hb0
  have hx:c.x=c.x0:=by rw[jy.x,if_neg (by omega)]
  have hn:c.n.i=c.i:=by show(if c.i<c.b.length then c.i+1 else c.i)=_;rw[if_neg (by omega)]
  refine W.skip ?_
  refine W.seq ?_
  refine W.cD X2 [] [] [2] [] rfl ⟨⟩ ?_
  refine W.ret ?_
  exact og.ret rfl ⟨by rw[hx];rfl,rfl,rfl,by rw[hn],rfl,⟨⟩⟩
theorem ct(v:Value)(c:jy)(n:Int)(b:List UInt8)(hcb:c.b=b)(hb:b.length≤1048576):dG ty Tryz.prog 170 [(1000, .box [.fY v .u8 b, .lit (.int .i64 (c.i:Int)), .lit (.int .i64 c.h)])] [.a (.ptr 1000 0), .a (.lit (.int .i64 n))] [(1000, .box [.fY v .u8 b, .lit (.int .i64 ((aI c n).i:Int)), .lit (.int .i64 (aI c n).h)])] [.a (.lit (.int .i64 (bZ c n)))]:=by
 refine dG.of X2 Tryz.call170 Tryz.func170 rfl rfl (by decide) Tryz.ntmps170 (by simp) rfl ?_
 intro zb
 refine W.seq ?_
 refine W.cD X2 [] [] [0,1] [] rfl ⟨⟩ ?_
 refine W.seq ?_
 refine W.seq ?_
 refine W.cD X2 [] [] [0,1,9] [] rfl ⟨⟩ ?_
 refine W.cond rfl (fun hb0=> ?_) (fun hb0=> ?_)
 ·try simp only[nb,an,aq,aa]at hb0
  have hx:bZ c n=0:=by rw[bZ,if_pos hb0]
  have hn:aI c n=c:=by rw[aI,if_pos hb0]
  refine W.seq ?_
  refine W.cD X2 [] [] [4] [] rfl ⟨⟩ ?_
  refine W.ret ?_
  exact og.ret rfl ⟨by rw[hx],rfl,rfl,by rw[hn],by rw[hn],⟨⟩⟩
 ·try simp only[nb,an,aq,aa]at hb0
  have h0: ¬n≤0:=by omega
  refine W.skip ?_
  refine W.seq ?_
  refine W.seq ?_
  refine W.cD X2 [] [] [0,1,11] [] rfl ⟨⟩ ?_
  refine W.cond rfl (fun aB=> ?_) (fun aB=> ?_)
  ·try simp only[nb,an,aq,aa]at aB
   have hx:bZ c n=c.x.tmod n:=by rw[bZ,if_neg h0,if_pos aB]
   have hn:aI c n=c.n:=by rw[aI,if_neg h0,if_pos aB]
   refine W.seq ?_
   refine W.cD X2 [] [(800013,⟨true,[.a (.lit (.int .i64 c.x))]⟩),(700013,⟨true,[.agg [.ptr 1000 1000], .agg [], .agg [.own 1000], .agg [.fY v .u8 b, .lit (.int .i64 (c.n.i:Int)), .lit (.int .i64 c.n.h)]]⟩)] [4] [] rfl (by(repeat' with_reducible first|exact aj.nil|refine aj.mk ?_ ?_|apply And.intro)<;>first|exact(jz v c b hcb hb)| (intros;omega)|exact rfl) ?_
   refine W.ret ?_
   exact og.ret rfl ⟨by rw[hx],rfl,rfl,by rw[hn],by rw[hn],⟨⟩⟩
  ·try simp only[nb,an,aq,aa]at aB
   have h1: ¬n≤256:=by omega
   have hx:bZ c n=(IntKind.i64.wrap (IntKind.i64.wrap (IntKind.i64.wrap (c.x*65536)+IntKind.i64.wrap (c.n.x*256))+c.n.n.x)).tmod n:=by rw[bZ,if_neg h0,if_neg h1]
   have hn:aI c n=c.n.n.n:=by rw[aI,if_neg h0,if_neg h1]
   refine W.skip ?_
   refine W.seq ?_
   refine W.cD X2 [] [(800017,⟨true,[.a (.lit (.int .i64 c.x))]⟩),(700017,⟨true,[.agg [.ptr 1000 1000], .agg [], .agg [.own 1000], .agg [.fY v .u8 b, .lit (.int .i64 (c.n.i:Int)), .lit (.int .i64 c.n.h)]]⟩)] [0,1,5] [] rfl (by(repeat' with_reducible first|exact aj.nil|refine aj.mk ?_ ?_|apply And.intro)<;>first|exact(jz v c b hcb hb)|exact rfl) ?_
   refine W.seq ?_
   refine W.cD X2 [] [(800019,⟨true,[.a (.lit (.int .i64 c.n.x))]⟩),(700019,⟨true,[.agg [.ptr 1000 1000], .agg [], .agg [.own 1000], .agg [.fY v .u8 b, .lit (.int .i64 (c.n.n.i:Int)), .lit (.int .i64 c.n.n.h)]]⟩)] [0,1,5,6] [] rfl (by(repeat' with_reducible first|exact aj.nil|refine aj.mk ?_ ?_|apply And.intro)<;>first|exact(jz v c.n b hcb hb)|exact rfl) ?_
   refine W.seq ?_
   refine W.cD X2 [] [(800021,⟨true,[.a (.lit (.int .i64 c.n.n.x))]⟩),(700021,⟨true,[.agg [.ptr 1000 1000], .agg [], .agg [.own 1000], .agg [.fY v .u8 b, .lit (.int .i64 (c.n.n.n.i:Int)), .lit (.int .i64 c.n.n.n.h)]]⟩)] [1,5,6,7] [] rfl (by(repeat' with_reducible first|exact aj.nil|refine aj.mk ?_ ?_|apply And.intro)<;>first|exact(jz v c.n.n b hcb hb)|exact rfl) ?_
   refine W.seq ?_
   refine W.cD X2 [] [] [4] [] rfl (by and_intros<;>first|exact⟨⟩| (intros;omega)) ?_
   refine W.ret ?_
   exact og.ret rfl ⟨by rw[hx],rfl,rfl,by rw[hn],by rw[hn],⟨⟩⟩
theorem IA(v:Value)(c:jy)(l:List Int)(b:List UInt8)(hcb:c.b=b)(hb:b.length≤1048576)(hl:0<l.length∧l.length≤1048576):dG ty Tryz.prog 171 [(1000, .box [.fY v .u8 b, .lit (.int .i64 (c.i:Int)), .lit (.int .i64 c.h)])] [.a (.ptr 1000 0), .a (.sl .int l)] [(1000, .box [.fY v .u8 b, .lit (.int .i64 ((aI c (l.length:Int)).i:Int)), .lit (.int .i64 (aI c (l.length:Int)).h)])] [.a (.lit (.int .i64 (l.getD (bZ c (l.length:Int)).toNat (au .int))))]:=by
 refine dG.of X2 Tryz.call171 Tryz.func171 rfl rfl (by decide) Tryz.ntmps171 (by simp) rfl ?_
 intro zb
 have B1:=lT c (n:=(l.length:Int)) (by omega)
 refine W.seq ?_
 refine W.cD X2 [] [] [0,1] [] rfl ⟨⟩ ?_
 refine W.seq ?_
 refine W.cD X2 [] [(800009,⟨true,[.a (.lit (.int .i64 (bZ c (l.length:Int))))]⟩),(700009,⟨true,[.agg [.ptr 1000 1000], .agg [], .agg [.own 1000], .agg [.fY v .u8 b, .lit (.int .i64 ((aI c (l.length:Int)).i:Int)), .lit (.int .i64 (aI c (l.length:Int)).h)]]⟩)] [4] [] rfl (by(repeat' with_reducible first|exact aj.nil|refine aj.mk ?_ ?_|apply And.intro)<;>first|exact(ct v c (l.length:Int) b hcb hb)| (intros;omega)|exact rfl) ?_
 refine W.ret ?_
 exact og.ret rfl ⟨rfl,rfl,rfl,rfl,rfl,⟨⟩⟩
theorem uW(v:Value)(c:jy)(n:Int)(b:List UInt8)(hcb:c.b=b)(hb:b.length≤1048576)(hn:n≤1000):dG ty Tryz.prog 220 [(1000, .box [.fY v .u8 b, .lit (.int .i64 (c.i:Int)), .lit (.int .i64 c.h)])] [.a (.ptr 1000 0), .a (.lit (.int .i64 n))] [(1000, .box [.fY v .u8 b, .lit (.int .i64 ((IP c n.toNat).i:Int)), .lit (.int .i64 (IP c n.toNat).h)]),(11, .arr .u8 (OK c n.toNat))] [.a (.own 11)]:=by
 refine dG.of X2 Tryz.call220 Tryz.func220 rfl rfl (by decide) Tryz.ntmps220 (by simp) rfl ?_
 intro zb
 refine W.seq ?_
 refine W.cD X2 [] [] [0,1] [] rfl ⟨⟩ ?_
 refine W.seq ?_
 refine W.cD X2 [(7,11)] [] [0,1,5] [] rfl (by and_intros<;>first|exact⟨⟩|exact rfl) ?_
 refine W.seq ?_
 refine W.seq ?_
 refine W.cD X2 [] [] [0,1,5,6] [] rfl ⟨⟩ ?_
 refine W.block ?_
 refine W.aE (fun k=>k≤n.toNat) (fun k:Nat=> [(6, .one (.a (.lit (.int .i64 k))))]) (fun k=> [(1000, .box [.fY v .u8 b, .lit (.int .i64 ((IP c k).i:Int)), .lit (.int .i64 (IP c k).h)]),(11, .arr .u8 (OK c k))]) (fun k=>n.toNat-k) 0 (fun k=>rfl) (Nat.zero_le _) rfl ?_
 intro k hk
 have hle:=C3 c k
 have hbk:(IP c k).b=b:=by rw[Uj];exact hcb
 refine W.seq ?_
 refine W.seq ?_
 refine W.cD X2 [] [] [0,1,5,6,10] [] rfl ⟨⟩ ?_
 refine W.cond rfl (fun hb0=> ?_) (fun hb0=> ?_)
 ·try simp only[nb,an,aq,aa]at hb0
  refine W.skip ?_
  refine W.seq ?_
  refine W.block ?_
  refine W.cD X2 [(18,11)] [(800015,⟨true,[.a (.lit (.int .i64 (IP c k).x))]⟩),(700015,⟨true,[.agg [.ptr 1000 1000], .agg [], .agg [.own 1000], .agg [.fY v .u8 b, .lit (.int .i64 ((IP c k).n.i:Int)), .lit (.int .i64 (IP c k).n.h)]]⟩)] [0,1,5,6] [] rfl (by(repeat' with_reducible first|exact aj.nil|refine aj.mk ?_ ?_|apply And.intro)<;>first|exact(jz v (IP c k) b hbk hb)|exact rfl|exact⟨rfl,bA _ (by decide)⟩|exact(pR _).1|exact(pR _).2| (simp only[cT,maxLen,lens];omega)) ?_
  refine W.cD X2 [] [] [0,1,5,6] [] rfl ⟨⟩ ?_
  refine⟨k+1,by omega,by omega,?_⟩
  rw[aR _ k rfl (by omega)]
  try rfl
 ·try simp only[nb,an,aq,aa]at hb0
  have hk2:n.toNat=k:=by omega
  refine W.exit ?_
  refine W.seq ?_
  refine W.cD X2 [] [] [4] [] rfl ⟨⟩ ?_
  refine W.ret ?_
  exact og.ret rfl ⟨rfl,rfl,by rw[hk2],by rw[hk2],by rw[hk2],⟨⟩⟩
theorem FH(l:List UInt8)(m:Int):Sound ty Tryz.prog 93 [.a (.sl .u8 l), .a (.lit (.int .i64 m))] [.a (.lit (.int .i64 (mW l m)))]:=by
 refine Sound.of X2 Tryz.call93 Tryz.func93 rfl rfl (by decide) Tryz.ntmps93 (by simp) ?_
 intro zb
 refine W.seq ?_
 refine W.cD X2 [] [] [0,1] [] rfl ⟨⟩ ?_
 refine W.seq ?_
 refine W.cD X2 [] [] [1,5] [] rfl (by and_intros<;>first|exact⟨⟩| (intros;omega)) ?_
 refine W.seq ?_
 refine W.seq ?_
 refine W.cD X2 [] [] [1,5,12] [] rfl ⟨⟩ ?_
 refine W.cond rfl (fun hb0=> ?_) (fun hb0=> ?_)
 ·try simp only[nb,an,aq,aa]at hb0
  refine W.seq ?_
  refine W.cD X2 [] [] [4] [] rfl ⟨⟩ ?_
  refine W.ret ?_
  exact Fin.ret rfl ⟨by rw[mW,if_pos (by omega)],⟨⟩⟩
 ·try simp only[nb,an,aq,aa]at hb0
  refine W.skip ?_
  refine W.seq ?_
  refine W.cD X2 [] [] [4] [] rfl ⟨⟩ ?_
  refine W.ret ?_
  exact Fin.ret rfl ⟨by rw[mW,if_neg (by omega)],⟨⟩⟩
theorem IB(v:Value)(l:List UInt8):dG ty Tryz.prog 91 [] [.a (.fY v .u8 l)] [(907, .box [.fY v .u8 l, .lit (.int .i64 ((qZ l).i:Int)), .lit (.int .i64 (qZ l).h)])] [.a (.ptr 907 0)]:=by
 refine dG.of X2 Tryz.call91 Tryz.func91 rfl rfl (by decide) Tryz.ntmps91 (by simp) rfl ?_
 intro zb
 refine W.seq ?_
 refine W.cD X2 [] [] [0] [] rfl ⟨⟩ ?_
 refine W.seq ?_
 refine W.cD X2 [] [] [0,3] [] rfl ⟨⟩ ?_
 refine W.seq ?_
 refine W.seq ?_
 refine W.cD X2 [] [] [0,3,4] [] rfl ⟨⟩ ?_
 refine W.block ?_
 refine W.aE (fun k=>k≤E3 l) (fun k:Nat=> [(3, .one (.a (.lit (.int .i64 (W7 l k))))),(4, .one (.a (.lit (.int .i64 k))))]) (fun k=> []) (fun k=>(E3 l)-k) 0 (fun k=>rfl) (Nat.zero_le _) rfl ?_
 intro k hk
 have hck:E3 l≤4000:=by unfold E3;omega
 refine W.seq ?_
 refine W.seq ?_
 refine W.cD X2 [] [] [0,3,4,15] [] rfl ⟨⟩ ?_
 refine W.cond rfl (fun hb0=> ?_) (fun hb0=> ?_)
 ·have hgo:=aah hb0
  have hs:=Qo (l:=l) (k:=k) (by unfold E3 at hgo;omega)
  refine W.skip ?_
  refine W.seq ?_
  refine W.block ?_
  refine W.cD X2 [] [] [0,3,4] [] rfl (by and_intros<;>first|exact⟨⟩| (intros;omega)| (intros;simp only[nb]at*;omega)) ?_
  refine W.cD X2 [] [] [0,3,4] [] rfl ⟨⟩ ?_
  refine⟨k+1,by omega,by omega,?_⟩
  rw[aR _ k rfl (by omega),hs]
  try rfl
 ·have hke:=W8 hk hb0
  refine W.exit ?_
  refine W.seq ?_
  refine W.cD X2 [(31,907)] [] [2] [] rfl ⟨⟩ ?_
  refine W.ret ?_
  exact og.ret rfl ⟨rfl,rfl,rfl,by rw[hke];rfl,⟨⟩⟩
theorem zR(r:Int)(h:1≤r∧r≤64):Sound ty Tryz.prog 379 [.a (.lit (.int .i64 r))] [.agg (ck (⟨r,[]⟩:gW))]:=by
 refine Sound.of X2 Tryz.call379 Tryz.func379 rfl rfl (by decide) Tryz.ntmps379 (by simp) ?_
 intro zb
 refine W.seq ?_
 refine W.cD X2 [] [] [0,2] [] rfl ⟨⟩ ?_
 refine W.seq ?_
 refine W.seq ?_
 refine W.cD X2 [] [(4,⟨false,[.a (.lit (.bool (inr r 1 64)))]⟩)] [0,2,5] [] rfl (by(repeat' with_reducible first|exact aj.nil|refine aj.mk ?_ ?_|apply And.intro)<;>first|exact(aK r 1 64)) ?_
 refine W.cond rfl (fun hb0=> ?_) (fun hb0=> ?_)
 ·try simp only[nb,an,aq,aa]at hb0
  omega
 ·try simp only[nb,an,aq,aa]at hb0
  refine W.skip ?_
  refine W.seq ?_
  refine W.cD X2 [] [] [2] [] rfl (by and_intros<;>exact⟨⟩) ?_
  refine W.ret ?_
  exact Fin.ret rfl ⟨rfl,rfl,⟨⟩⟩
theorem Bk(i f k s:Int)(h1:0≤i∧i≤7)(h2:0≤f∧f≤7)(h3:i≠f)(h4:1≤k∧k≤2147483646):Sound ty Tryz.prog 381 [.a (.lit (.int .i64 i)), .a (.lit (.int .i64 f)), .a (.lit (.int .i64 k)), .a (.lit (.int .i64 s))] [.agg (bn (⟨i,f,k,s,[],0,[],0⟩:ep))]:=by
 refine Sound.of X2 Tryz.call381 Tryz.func381 rfl rfl (by decide) Tryz.ntmps381 (by simp) ?_
 intro zb
 refine W.seq ?_
 refine W.cD X2 [] [] [0,1,2,3,8] [] rfl ⟨⟩ ?_
 refine W.seq ?_
 refine W.seq ?_
 refine W.cD X2 [] [(12,⟨false,[.a (.lit (.bool (inr i 0 7&&inr f 0 7&& !(i==f)&&fA k)))]⟩)] [0,1,2,3,8,13] [] rfl (by(repeat' with_reducible first|exact aj.nil|refine aj.mk ?_ ?_|apply And.intro)<;>first|exact(yW i f k)) ?_
 refine W.cond rfl (fun hb0=> ?_) (fun hb0=> ?_)
 ·try simp only[nb,an,aq,aa]at hb0
  have hq:fA k=true:=by unfold fA;rw[an];exact h4
  rw[hq]at hb0
  simp at hb0
  omega
 ·skip
  refine W.skip ?_
  refine W.seq ?_
  refine W.cD X2 [] [] [8] [] rfl (by and_intros<;>exact⟨⟩) ?_
  refine W.ret ?_
  exact Fin.ret rfl ⟨rfl,rfl,rfl,rfl,rfl,rfl,rfl,rfl,⟨⟩⟩
def Uw:dH:=(.ph 16384 (.br 16384 15 (.last 0) (.nil)))
theorem Cr(rows s p seed:Int)(hr:1≤rows∧rows≤64)(hs:2≤s∧s≤4)(hp:1≤p∧p≤4):Sound ty Tryz.prog 319 [.a (.lit (.int .i64 rows)), .a (.lit (.int .i64 s)), .a (.lit (.int .i64 p)), .a (.lit (.int .i64 seed))] [.agg (aG (Uk rows s.toNat p.toNat seed))]:=by
 refine Sound.of X2 Tryz.call319 Tryz.func319 rfl rfl (by decide) Tryz.ntmps319 (by simp) ?_
 intro zb
 refine W.seq ?_
 refine W.cD X2 [] [] [0,1,2,3,8] [] rfl ⟨⟩ ?_
 refine W.seq ?_
 refine W.seq ?_
 refine W.cD X2 [] [(14,⟨false,[.a (.lit (.bool (inr rows 1 64)))]⟩),(18,⟨false,[.a (.lit (.bool (cq s)))]⟩),(23,⟨false,[.a (.lit (.bool (inr p 1 4)))]⟩)] [0,1,2,3,8,25] [] rfl (by(repeat' with_reducible first|exact aj.nil|refine aj.mk ?_ ?_|apply And.intro);(iterate 3 all_goals try first|exact(aK rows 1 64)|exact fun _=>(gk s)|exact fun _=>(aK p 1 4))) ?_
 refine W.cond rfl (fun hb0=> ?_) (fun hb0=> ?_)
 ·try simp only[nb,an,aq,aa]at hb0
  simp[cq,inr]at hb0
  omega
 ·skip
  refine W.skip ?_
  refine W.seq ?_
  refine W.cD X2 [(29,63)] [(29,⟨true,[.agg (ck (⟨rows,[]⟩:gW))]⟩),(32,⟨false,[.a (.lit (.int .i64 (kh seed [197])))]⟩),(33,⟨false,[.a (.lit (.int .i64 (if(kh seed [197])>1 then(kh seed [197])else 1)))]⟩)] [0,1,2,3,8,9] [] rfl (by(repeat' with_reducible first|exact aj.nil|refine aj.mk ?_ ?_|apply And.intro);(iterate 3 all_goals try first|exact(zR rows (by first|assumption|omega| (simp;done)| (simp;omega)))|exact(aW seed [197] (by first|assumption|omega| (simp;done)| (simp;omega)))|exact(nS 1 (kh seed [197])));all_goals first|exact⟨rfl,bA _ (by decide)⟩) ?_
  rw[CL (dy _ _).1]
  refine W.lG 9 1 61 .aO rfl ?_
  refine W.lG 9 2 62 .aL rfl ?_
  refine W.seq ?_
  refine W.seq ?_
  refine W.cD X2 [] [] [0,1,2,3,8,9,10] [] rfl ⟨⟩ ?_
  refine W.block ?_
  refine W.aE (fun k=>k≤s.toNat) (fun k:Nat=> [(10, .one (.a (.lit (.int .i64 k))))]) (fun k=> [(61, .arr .aO (Cp rows k))]) (fun k=>s.toNat-k) 0 (fun k=>rfl) (Nat.zero_le _) rfl ?_
  intro k hk
  have hle:=Iy rows k
  refine W.seq ?_
  refine W.seq ?_
  refine W.cD X2 [] [] [0,1,2,3,8,9,10,38] [] rfl ⟨⟩ ?_
  refine W.cond rfl (fun aB=> ?_) (fun aB=> ?_)
  ·try simp only[nb,an,aq,aa]at aB
   have VP:=EW (id:=(k:Int)) (rows:=rows) (by omega) hr
   refine W.skip ?_
   refine W.seq ?_
   refine W.block ?_
   refine W.draw X2 [(47,61)] [(45,⟨true,[.agg (bq (newS (k:Int) rows 0))]⟩),(500046,⟨true,[]⟩)] [0,1,2,3,8,9,10] [] 6 MO (by kernel_rfl) rfl (by(repeat' with_reducible first|exact aj.nil|refine aj.mk ?_ ?_|apply And.intro)<;>first|exact(qY (k:Int) rows 0)|exact rfl|exact⟨rfl,bA _ (by decide)⟩| (simp only[cT,maxLen,lens];omega)) ?_
   rw[VP]
   refine W.cD X2 [] [] [0,1,2,3,8,9,10] [] rfl ⟨⟩ ?_
   refine⟨k+1,by omega,by omega,?_⟩
   rw[aR _ k rfl (by omega),Ul]
   try rfl
  ·try simp only[nb,an,aq,aa]at aB
   have hks:s.toNat=k:=by omega
   refine W.exit ?_
   refine W.seq ?_
   refine W.seq ?_
   refine W.cD X2 [] [] [2,3,8,9,11] [] rfl ⟨⟩ ?_
   refine W.block ?_
   refine W.aE (fun k1=>k1≤(2*p.toNat)) (fun k1:Nat=> [(11, .one (.a (.lit (.int .i64 k1))))]) (fun k1=> [(62, .arr .aL (tq seed k1))]) (fun k1=>(2*p.toNat)-k1) 0 (fun k1=>rfl) (Nat.zero_le _) rfl ?_
   intro k1 hk1
   have SM:=Iz seed k1
   have hp2:IntKind.i64.wrap (2*p)=2*p:=bl (by omega)
   refine W.seq ?_
   refine W.seq ?_
   refine W.cD X2 [] [] [2,3,8,9,11,52] [] rfl ⟨⟩ ?_
   refine W.cond rfl (fun aM=> ?_) (fun aM=> ?_)
   ·try simp only[nb,an,aq,aa]at aM
    rw[hp2]at aM
    have hkr:=vE (dy seed [199,(k1:Int).tdiv 2])
    have hx:(IntKind.i64.wrap (BitVec.ofInt IntKind.i64.bits (k1:Int)^^^BitVec.ofInt IntKind.i64.bits 1).toNat)=((k1^^^1:Nat):Int):=Zx k1 (by omega)
    have hxl:=xd k1 8 (by omega) (by decide)
    have hxn:=OL k1
    have ZB:=CL (dy seed [199,(k1:Int).tdiv 2]).1
    have hw2:IntKind.i64.wrap ((k1:Int).tdiv 2)=(k1:Int).tdiv 2:=by rw[ue (by omega)];exact bl (by omega)
    refine W.skip ?_
    refine W.seq ?_
    refine W.block ?_
    refine W.seq ?_
    refine W.cD X2 [] [(59,⟨false,[.a (.lit (.int .i64 (kh seed [199,IntKind.i64.wrap ((k1:Int).tdiv 2)])))]⟩),(60,⟨false,[.a (.lit (.int .i64 (if(kh seed [199,IntKind.i64.wrap ((k1:Int).tdiv 2)])>1 then(kh seed [199,IntKind.i64.wrap ((k1:Int).tdiv 2)])else 1)))]⟩)] [2,3,8,9,11,12] [] rfl (by(repeat' with_reducible first|exact aj.nil|refine aj.mk ?_ ?_|apply And.intro);(iterate 2 all_goals try first|exact(aW seed [199,IntKind.i64.wrap ((k1:Int).tdiv 2)] (by first|assumption|omega| (simp;done)| (simp;omega)))|exact(nS 1 (kh seed [199,IntKind.i64.wrap ((k1:Int).tdiv 2)])));all_goals first| (intros;omega)|exact⟨rfl,bA _ (by decide)⟩) ?_
    rw[hw2,ZB]
    refine W.fZ X2 [(74,62)] [(70,⟨false,[.a (.lit (.int .i64 (kh seed [211,(k1:Int)])))]⟩),(71,⟨false,[.agg (bn (⟨(k1:Int),(IntKind.i64.wrap (BitVec.ofInt IntKind.i64.bits (k1:Int)^^^BitVec.ofInt IntKind.i64.bits 1).toNat),(CK (kh seed [199,(k1:Int).tdiv 2])),(kh seed [211,(k1:Int)]),[],0,[],0⟩:ep))]⟩),(72,⟨true,[.agg (bz (⟨(⟨(k1:Int),(IntKind.i64.wrap (BitVec.ofInt IntKind.i64.bits (k1:Int)^^^BitVec.ofInt IntKind.i64.bits 1).toNat),(CK (kh seed [199,(k1:Int).tdiv 2])),(kh seed [211,(k1:Int)]),[],0,[],0⟩:ep),(⟨(k1:Int),(IntKind.i64.wrap (BitVec.ofInt IntKind.i64.bits (k1:Int)^^^BitVec.ofInt IntKind.i64.bits 1).toNat),(CK (kh seed [199,(k1:Int).tdiv 2])),(kh seed [211,(k1:Int)]),[],0,[],0⟩:ep)⟩:aL))]⟩)] [2,3,8,9,11] [] 20479 (.ph 4095 (.br 4095 12 (.ph 0 (.br 0 13 Uw (.nil))) (.br 4093 12 (.ph 2 (.br 2 13 Uw (.nil))) (.br 4092 12 (.ph 3 (.br 3 13 Uw (.nil))) (.nil))))) 2 MO (by kernel_rfl) rfl (by kernel_rfl) (by(repeat' with_reducible first|exact aj.nil|refine aj.mk ?_ ?_|apply And.intro);(iterate 3 all_goals try first|exact(aW seed [211,(k1:Int)] (by first|assumption|omega| (simp;done)| (simp;omega)))|exact(Bk (k1:Int) (IntKind.i64.wrap (BitVec.ofInt IntKind.i64.bits (k1:Int)^^^BitVec.ofInt IntKind.i64.bits 1).toNat) (CK (kh seed [199,(k1:Int).tdiv 2])) (kh seed [211,(k1:Int)]) (by omega) (by rw[hx];omega) (by rw[hx];omega) (by omega))|exact(lP (⟨(k1:Int),(IntKind.i64.wrap (BitVec.ofInt IntKind.i64.bits (k1:Int)^^^BitVec.ofInt IntKind.i64.bits 1).toNat),(CK (kh seed [199,(k1:Int).tdiv 2])),(kh seed [211,(k1:Int)]),[],0,[],0⟩:ep) ⟨Nat.zero_le _,Nat.zero_le _⟩));all_goals first|exact rfl|exact⟨rfl,bA _ (by decide)⟩| (simp only[cT,maxLen,lens];omega)) ?_
    rw[hx]
    refine W.cD X2 [] [] [2,3,8,9,11] [] rfl ⟨⟩ ?_
    refine⟨k1+1,by omega,by omega,?_⟩
    rw[aR _ k1 rfl (by omega),Um]
    try rfl
   ·try simp only[nb,an,aq,aa]at aM
    rw[hp2]at aM
    have MJ:2*p.toNat=k1:=by omega
    refine W.exit ?_
    refine W.seq ?_
    refine W.cD X2 [] [] [8] [] rfl (by and_intros<;>exact⟨⟩) ?_
    refine W.ret ?_
    exact Fin.ret rfl ⟨rfl,by rw[hks];rfl,by rw[←MJ];rfl,rfl,rfl,rfl,rfl,rfl,rfl,rfl,⟨⟩⟩
def OR:dH:=(.ph 15360 (.br 15360 14 (.last 0) (.br 7168 14 (.last 8192) (.nil))))
def Yf:dH:=(.ph 15361 (.br 15361 14 (.last 0) (.br 7169 14 (.last 8192) (.nil))))
def BR:dH:=(.ph 0 (.br 0 9 OR (.nil)))
def OS:dH:=(.ph 1 (.br 1 9 OR (.br 0 9 Yf (.nil))))
def OT:dH:=(.ph 64 (.br 64 9 OR (.nil)))
def Yg:dH:=(.ph 65 (.br 65 9 OR (.br 64 9 Yf (.nil))))
theorem FI(v:Value)(c:jy)(b:List UInt8)(hcb:c.b=b)(hb:b.length≤1048576):dG ty Tryz.prog 219 [(1000, .box [.fY v .u8 b, .lit (.int .i64 (c.i:Int)), .lit (.int .i64 c.h)])] [.a (.ptr 1000 0)] [(1000, .box [.fY v .u8 b, .lit (.int .i64 ((sQ c).1.i:Int)), .lit (.int .i64 (sQ c).1.h)]),(61, .arr .aO (sQ c).2.ah),(62, .arr .aL (sQ c).2.af),(64, .arr .ay (sQ c).2.ak.rounds),(68, .arr .int (sQ c).2.replaced)] [.agg [.lit (.int .i64 (sQ c).2.rows), .own 61, .own 62, .lit (.int .i64 (sQ c).2.ak.rows), .own 64, .lit (.int .i64 (sQ c).2.az), .lit (.int .i64 (sQ c).2.seed), .lit (.int .i64 (sQ c).2.round), .own 68, .lit (.int .i64 (sQ c).2.cancelled)]]:=by
 refine dG.of X2 Tryz.call219 Tryz.func219 rfl rfl (by decide) Tryz.ntmps219 (by simp) rfl ?_
 intro zb
 have q1:=lT (aI c 2) (n:=2) (by decide)
 have q2:=lT (aI (aI c 2) 2) (n:=2) (by decide)
 have q0:=OP (c:=c)
 have aB:(aI c 2).b=b:=by rw[ef];exact hcb
 have aM:(aI (aI c 2) 2).b=b:=by rw[ef];exact aB
 have gB:(aI (aI (aI c 2) 2) 2).b=b:=by rw[ef];exact aM
 have rz:(ON c).b=b:=by rw[Yb];exact hcb
 have hnw:Uk (MQ.getD (bZ c (MQ.length:Int)).toNat (au .int)) (IntKind.i64.wrap (2+bZ (aI c 2) 2)).toNat (IntKind.i64.wrap (1+bZ (aI (aI c 2) 2) 2)).toNat (bZ (aI (aI (aI c 2) 2) 2) 999)=nw0 c:=by rw[bl (a:=2+bZ (aI c 2) 2) (by omega),bl (a:=1+bZ (aI (aI c 2) 2) 2) (by omega)];rfl
 refine W.seq ?_
 refine W.cD X2 [] [] [0,2] [] rfl ⟨⟩ ?_
 refine W.seq ?_
 refine W.cD X2 [(16,60)] [(800007,⟨true,[.a (.lit (.int .i64 (MQ.getD (bZ c (MQ.length:Int)).toNat (au .int))))]⟩),(700007,⟨true,[.agg [.ptr 1000 1000], .agg [], .agg [.own 1000], .agg [.fY v .u8 b, .lit (.int .i64 ((aI c (MQ.length:Int)).i:Int)), .lit (.int .i64 (aI c (MQ.length:Int)).h)]]⟩),(800009,⟨true,[.a (.lit (.int .i64 (bZ (aI c 2) 2)))]⟩),(700009,⟨true,[.agg [.ptr 1000 1000], .agg [], .agg [.own 1000], .agg [.fY v .u8 b, .lit (.int .i64 ((aI (aI c 2) 2).i:Int)), .lit (.int .i64 (aI (aI c 2) 2).h)]]⟩),(800012,⟨true,[.a (.lit (.int .i64 (bZ (aI (aI c 2) 2) 2)))]⟩),(700012,⟨true,[.agg [.ptr 1000 1000], .agg [], .agg [.own 1000], .agg [.fY v .u8 b, .lit (.int .i64 ((aI (aI (aI c 2) 2) 2).i:Int)), .lit (.int .i64 (aI (aI (aI c 2) 2) 2).h)]]⟩),(800015,⟨true,[.a (.lit (.int .i64 (bZ (aI (aI (aI c 2) 2) 2) 999)))]⟩),(700015,⟨true,[.agg [.ptr 1000 1000], .agg [], .agg [.own 1000], .agg [.fY v .u8 b, .lit (.int .i64 ((aI (aI (aI (aI c 2) 2) 2) 999).i:Int)), .lit (.int .i64 (aI (aI (aI (aI c 2) 2) 2) 999).h)]]⟩),(16,⟨true,[.agg (aG (Uk (MQ.getD (bZ c (MQ.length:Int)).toNat (au .int)) (IntKind.i64.wrap (2+bZ (aI c 2) 2)).toNat (IntKind.i64.wrap (1+bZ (aI (aI c 2) 2) 2)).toNat (bZ (aI (aI (aI c 2) 2) 2) 999)))]⟩)] [0,2,3] [] rfl (by(repeat' with_reducible first|exact aj.nil|refine aj.mk ?_ ?_|apply And.intro);(iterate 5 all_goals try first|exact(IA v c MQ b hcb hb (by decide))|exact(ct v (aI c 2) 2 b aB hb)|exact(ct v (aI (aI c 2) 2) 2 b aM hb)|exact(ct v (aI (aI (aI c 2) 2) 2) 999 b gB hb)|exact(Cr (MQ.getD (bZ c (MQ.length:Int)).toNat (au .int)) (IntKind.i64.wrap (2+bZ (aI c 2) 2)) (IntKind.i64.wrap (1+bZ (aI (aI c 2) 2) 2)) (bZ (aI (aI (aI c 2) 2) 2) 999) (by have:bZ c (MQ.length:Int)=bZ c 2:=rfl;rw[this];omega) (by rw[bl (by omega)];omega) (by rw[bl (by omega)];omega)));all_goals first|exact rfl|exact⟨rfl,bA _ (by decide)⟩) ?_
 rw[hnw]
 refine W.seq ?_
 refine W.seq ?_
 refine W.cD X2 [] [(800018,⟨true,[.a (.lit (.int .i64 (bZ (ON c) 5)))]⟩),(700018,⟨true,[.agg [.ptr 1000 1000], .agg [], .agg [.own 1000], .agg [.fY v .u8 b, .lit (.int .i64 ((aI (ON c) 5).i:Int)), .lit (.int .i64 (aI (ON c) 5).h)]]⟩)] [0,2,3,4] [] rfl (by(repeat' with_reducible first|exact aj.nil|refine aj.mk ?_ ?_|apply And.intro)<;>first|exact(ct v (ON c) 5 b rz hb)|exact rfl) ?_
 rw[show bZ (ON c) 5=((n32 c:Nat):Int)-((0:Nat):Int)from by have:=Ui (ON c) 5;unfold n32;omega]
 refine W.block ?_
 refine W.aE (fun k=>k≤(n32 c)) (fun k:Nat=> [(4, .one (.a (.lit (.int .i64 (((n32 c:Nat):Int)-(k:Int))))))]) (fun k=> [(1000, .box [.fY v .u8 b, .lit (.int .i64 ((bP gO (hY c) k).1.i:Int)), .lit (.int .i64 (bP gO (hY c) k).1.h)]),(3, .box [.lit (.int .i64 (bP gO (hY c) k).2.rows), .own 61, .own 62, .lit (.int .i64 (bP gO (hY c) k).2.ak.rows), .own 64, .lit (.int .i64 (bP gO (hY c) k).2.az), .lit (.int .i64 (bP gO (hY c) k).2.seed), .lit (.int .i64 (bP gO (hY c) k).2.round), .own 68, .lit (.int .i64 (bP gO (hY c) k).2.cancelled)]),(61, .arr .aO (bP gO (hY c) k).2.ah),(62, .arr .aL (bP gO (hY c) k).2.af),(64, .arr .ay (bP gO (hY c) k).2.ak.rounds),(68, .arr .int (bP gO (hY c) k).2.replaced)]) (fun k=>(n32 c)-k) 0 (fun k=>rfl) (Nat.zero_le _) rfl ?_
 intro k hk
 have hn5:n32 c<5:=by have:=lT (ON c) (n:=5) (by decide);unfold n32;omega
 have hd:sy (bP gO (hY c) k).2 0:=by(have: ∀j,sy (bP gO (hY c) j).2 0:=fun j=>by(induction j with|zero=>exact(Yd c).1|succ j ih=>exact Ut ih));exact this k
 have Ly:=hd.B (by decide)
 have U6:(bP gO (hY c) k).1.b=b:=by rw[OO Ur];show(aI (ON c) 5).b=_;rw[ef];exact rz
 skip
 refine W.seq ?_
 refine W.seq ?_
 refine W.cD X2 [] [] [0,2,3,4,20] [] rfl ⟨⟩ ?_
 refine W.cond rfl (fun hb0=> ?_) (fun hb0=> ?_)
 ·try simp only[nb,an,aq,aa]at hb0
  have hsb:IntKind.i64.wrap (((n32 c:Nat):Int)-(k:Int)-1)=((n32 c:Nat):Int)-((k+1:Nat):Int):=by rw[bl (by omega)];omega
  refine W.skip ?_
  refine W.seq ?_
  refine W.block ?_
  refine W.fZ X2 [(34,150)] [(800029,⟨true,[.a (.lit (.int .i64 (bZ ((bP gO (hY c) k).1) ((bP gO (hY c) k).2.af.length:Int))))]⟩),(700029,⟨true,[.agg [.ptr 1000 1000], .agg [], .agg [.own 1000], .agg [.fY v .u8 b, .lit (.int .i64 ((aI ((bP gO (hY c) k).1) ((bP gO (hY c) k).2.af.length:Int)).i:Int)), .lit (.int .i64 (aI ((bP gO (hY c) k).1) ((bP gO (hY c) k).2.af.length:Int)).h)]]⟩),(800032,⟨true,[.a (.lit (.int .i64 (bZ (aI (bP gO (hY c) k).1 ((bP gO (hY c) k).2.af.length:Int)) 4)))]⟩),(700032,⟨true,[.agg [.ptr 1000 1000], .agg [], .agg [.own 1000], .agg [.fY v .u8 b, .lit (.int .i64 ((aI (aI (bP gO (hY c) k).1 ((bP gO (hY c) k).2.af.length:Int)) 4).i:Int)), .lit (.int .i64 (aI (aI (bP gO (hY c) k).1 ((bP gO (hY c) k).2.af.length:Int)) 4).h)]]⟩),(800033,⟨true,[.a (.own 11)]⟩),(700033,⟨true,[.agg [.ptr 1000 1000], .agg [.ptr 11 170], .agg [.own 1000, .own 11], .agg [.fY v .u8 b, .lit (.int .i64 ((IP (aI (aI (bP gO (hY c) k).1 ((bP gO (hY c) k).2.af.length:Int)) 4) (bZ (aI (bP gO (hY c) k).1 ((bP gO (hY c) k).2.af.length:Int)) 4).toNat).i:Int)), .lit (.int .i64 (IP (aI (aI (bP gO (hY c) k).1 ((bP gO (hY c) k).2.af.length:Int)) 4) (bZ (aI (bP gO (hY c) k).1 ((bP gO (hY c) k).2.af.length:Int)) 4).toNat).h)], .a (.sl .u8 (OK (aI (aI (bP gO (hY c) k).1 ((bP gO (hY c) k).2.af.length:Int)) 4) (bZ (aI (bP gO (hY c) k).1 ((bP gO (hY c) k).2.af.length:Int)) 4).toNat))]⟩),(34,⟨true,[.agg (aG (CY ((bP gO (hY c) k).2) (bZ (bP gO (hY c) k).1 ((bP gO (hY c) k).2.af.length:Int)) (OK (aI (aI (bP gO (hY c) k).1 ((bP gO (hY c) k).2.af.length:Int)) 4) (bZ (aI (bP gO (hY c) k).1 ((bP gO (hY c) k).2.af.length:Int)) 4).toNat))), .a (.lit (.bool (KA ((bP gO (hY c) k).2) (bZ (bP gO (hY c) k).1 ((bP gO (hY c) k).2.af.length:Int)) (OK (aI (aI (bP gO (hY c) k).1 ((bP gO (hY c) k).2.af.length:Int)) 4) (bZ (aI (bP gO (hY c) k).1 ((bP gO (hY c) k).2.af.length:Int)) 4).toNat))))]⟩)] [0,2,3,4] [] 15583 (.ph 223 (.br 223 5 (.ph 0 (.br 0 8 BR (.nil))) (.br 95 5 (.ph 128 (.br 128 8 BR (.nil))) (.br 159 5 (.ph 64 (.br 64 8 BR (.br 0 8 OT (.nil)))) (.br 31 5 (.ph 192 (.br 192 8 BR (.br 128 8 OT (.nil)))) (.br 222 5 (.ph 1 (.br 1 8 BR (.br 0 8 OS (.nil)))) (.br 94 5 (.ph 129 (.br 129 8 BR (.br 128 8 OS (.nil)))) (.br 158 5 (.ph 65 (.br 65 8 BR (.br 1 8 OT (.br 64 8 OS (.br 0 8 Yg (.nil)))))) (.br 30 5 (.ph 193 (.br 193 8 BR (.br 129 8 OT (.br 192 8 OS (.br 128 8 Yg (.nil)))))) (.nil)))))))))) 47 MO (by kernel_rfl) rfl (by kernel_rfl) (by(repeat' with_reducible first|exact aj.nil|refine aj.mk ?_ ?_|apply And.intro);(iterate 4 all_goals try first|exact(ct v ((bP gO (hY c) k).1) ((bP gO (hY c) k).2.af.length:Int) b U6 hb)|exact(ct v (aI (bP gO (hY c) k).1 ((bP gO (hY c) k).2.af.length:Int)) 4 b (by rw[ef];exact U6) hb)|exact(uW v (aI (aI (bP gO (hY c) k).1 ((bP gO (hY c) k).2.af.length:Int)) 4) (bZ (aI (bP gO (hY c) k).1 ((bP gO (hY c) k).2.af.length:Int)) 4) b (by rw[ef,ef];exact U6) hb (by have:=lT (aI (bP gO (hY c) k).1 ((bP gO (hY c) k).2.af.length:Int)) (n:=4) (by decide);omega))|exact(iK ((bP gO (hY c) k).2) (bZ (bP gO (hY c) k).1 ((bP gO (hY c) k).2.af.length:Int)) (OK (aI (aI (bP gO (hY c) k).1 ((bP gO (hY c) k).2.af.length:Int)) 4) (bZ (aI (bP gO (hY c) k).1 ((bP gO (hY c) k).2.af.length:Int)) 4).toNat) Ly (by rw[C3];have:=lT (aI (bP gO (hY c) k).1 ((bP gO (hY c) k).2.af.length:Int)) (n:=4) (by decide);omega)));all_goals first|exact rfl) ?_
  refine W.swap 151 61 rfl ?_
  refine W.swap 152 62 rfl ?_
  refine W.swap 154 64 rfl ?_
  refine W.swap 158 68 rfl ?_
  refine W.cD X2 [] [] [0,2,3,4] [] rfl ⟨⟩ ?_
  refine⟨k+1,by omega,by omega,?_⟩
  rw[hsb]
  try rfl
 ·try simp only[nb,an,aq,aa]at hb0
  have hkn:k=n32 c:=by omega
  refine W.exit ?_
  refine W.seq ?_
  refine W.cD X2 [] [] [2] [] rfl (by and_intros<;>exact⟨⟩) ?_
  refine W.ret ?_
  exact og.ret rfl ⟨by rw[hkn];rfl,by rw[hkn];rfl,by rw[hkn];rfl,by rw[hkn];rfl,by rw[hkn];rfl,by rw[hkn];rfl,rfl,rfl,by rw[hkn];rfl,by rw[hkn];rfl,by rw[hkn];rfl,by rw[hkn];rfl,by rw[hkn];rfl,by rw[hkn];rfl,⟨⟩⟩
def OU:dH:=(.ph 15360 (.br 15360 14 (.last 0) (.br 7168 14 (.last 8192) (.nil))))
def Yh:dH:=(.ph 15361 (.br 15361 14 (.last 0) (.br 7169 14 (.last 8192) (.nil))))
def BS:dH:=(.ph 0 (.br 0 9 OU (.nil)))
def OV:dH:=(.ph 1 (.br 1 9 OU (.br 0 9 Yh (.nil))))
def OW:dH:=(.ph 64 (.br 64 9 OU (.nil)))
def Yi:dH:=(.ph 65 (.br 65 9 OU (.br 64 9 Yh (.nil))))
def OX:dH:=(.ph 3840 (.br 3840 12 (.last 0) (.br 1792 12 (.last 2048) (.nil))))
def Yj:dH:=(.ph 3841 (.br 3841 12 (.last 0) (.br 1793 12 (.last 2048) (.nil))))
set_option maxHeartbeats 1000000 in
theorem E4(v:Value)(c:jy)(s:Int)(b:List UInt8)(hcb:c.b=b)(hb:b.length≤1048576)(hs0:1≤s∧s≤1000):dG ty Tryz.prog 92 [(1000, .box [.fY v .u8 b, .lit (.int .i64 (c.i:Int)), .lit (.int .i64 c.h)])] [.a (.ptr 1000 0), .a (.lit (.int .i64 s))] [(1000, .box [.fY v .u8 b, .lit (.int .i64 ((Cq c s).1.i:Int)), .lit (.int .i64 (Cq c s).1.h)]),(61, .arr .aO (Cq c s).2.ah),(62, .arr .aL (Cq c s).2.af),(64, .arr .ay (Cq c s).2.ak.rounds),(68, .arr .int (Cq c s).2.replaced)] [.agg [.lit (.int .i64 (Cq c s).2.rows), .own 61, .own 62, .lit (.int .i64 (Cq c s).2.ak.rows), .own 64, .lit (.int .i64 (Cq c s).2.az), .lit (.int .i64 (Cq c s).2.seed), .lit (.int .i64 (Cq c s).2.round), .own 68, .lit (.int .i64 (Cq c s).2.cancelled)]]:=by
 refine dG.of X2 Tryz.call92 Tryz.func92 rfl rfl (by decide) Tryz.ntmps92 (by simp) rfl ?_
 intro zb
 refine W.seq ?_
 refine W.cD X2 [] [] [0,1,4] [] rfl ⟨⟩ ?_
 refine W.seq ?_
 refine W.cD X2 [] [(800008,⟨true,[.agg [.lit (.int .i64 (sQ c).2.rows), .own 61, .own 62, .lit (.int .i64 (sQ c).2.ak.rows), .own 64, .lit (.int .i64 (sQ c).2.az), .lit (.int .i64 (sQ c).2.seed), .lit (.int .i64 (sQ c).2.round), .own 68, .lit (.int .i64 (sQ c).2.cancelled)]]⟩),(700008,⟨true,[.agg [.ptr 1000 1000], .agg [.ptr 61 61, .ptr 62 62, .ptr 64 64, .ptr 68 68], .agg [.own 1000, .own 61, .own 62, .own 64, .own 68], .agg [.fY v .u8 b, .lit (.int .i64 ((sQ c).1.i:Int)), .lit (.int .i64 (sQ c).1.h)], .a (.sl .aO ((sQ c).2.ah)), .a (.sl .aL ((sQ c).2.af)), .a (.sl .ay ((sQ c).2.ak.rounds)), .a (.sl .int ((sQ c).2.replaced))]⟩)] [0,1,4,5] [] rfl (by(repeat' with_reducible first|exact aj.nil|refine aj.mk ?_ ?_|apply And.intro)<;>first|exact(FI v c b hcb hb)|exact rfl) ?_
 refine W.seq ?_
 refine W.seq ?_
 refine W.cD X2 [] [(800011,⟨true,[.a (.lit (.int .i64 (bZ ((sQ c).1) s)))]⟩),(700011,⟨true,[.agg [.ptr 1000 1000], .agg [], .agg [.own 1000], .agg [.fY v .u8 b, .lit (.int .i64 ((aI ((sQ c).1) s).i:Int)), .lit (.int .i64 (aI ((sQ c).1) s).h)]]⟩)] [0,4,5,6] [] rfl (by(repeat' with_reducible first|exact aj.nil|refine aj.mk ?_ ?_|apply And.intro)<;>first|exact(ct v ((sQ c).1) s b (by rw[Yc];exact hcb) hb)|exact rfl) ?_
 rw[show bZ (sQ c).1 s=((Up c s:Nat):Int)-((0:Nat):Int)from by have:=Ui (sQ c).1 s;unfold Up;omega]
 refine W.block ?_
 refine W.aE (fun k=>k≤(Up c s)) (fun k:Nat=> [(6, .one (.a (.lit (.int .i64 (((Up c s:Nat):Int)-(k:Int))))))]) (fun k=> [(1000, .box [.fY v .u8 b, .lit (.int .i64 ((bP cR (cY c s) k).1.i:Int)), .lit (.int .i64 (bP cR (cY c s) k).1.h)]),(5, .box [.lit (.int .i64 (bP cR (cY c s) k).2.rows), .own 61, .own 62, .lit (.int .i64 (bP cR (cY c s) k).2.ak.rows), .own 64, .lit (.int .i64 (bP cR (cY c s) k).2.az), .lit (.int .i64 (bP cR (cY c s) k).2.seed), .lit (.int .i64 (bP cR (cY c s) k).2.round), .own 68, .lit (.int .i64 (bP cR (cY c s) k).2.cancelled)]),(61, .arr .aO (bP cR (cY c s) k).2.ah),(62, .arr .aL (bP cR (cY c s) k).2.af),(64, .arr .ay (bP cR (cY c s) k).2.ak.rounds),(68, .arr .int (bP cR (cY c s) k).2.replaced)]) (fun k=>(Up c s)-k) 0 (fun k=>rfl) (Nat.zero_le _) rfl ?_
 intro k hk
 have VP:=Ye c (s:=s) (by omega)
 have hd:=Uu c s k (by omega)
 have Ly:=hd.B (by omega)
 have hwr:=hd.R (by omega)
 have hbp:(bP cR (cY c s) k).1.b=b:=by rw[OO acA];show(aI (sQ c).1 s).b=_;rw[ef,Yc];exact hcb
 have U6:(aI (bP cR (cY c s) k).1 8).b=b:=by rw[ef];exact hbp
 refine W.seq ?_
 refine W.seq ?_
 refine W.cD X2 [] [] [0,4,5,6,13] [] rfl ⟨⟩ ?_
 refine W.cond rfl (fun hb0=> ?_) (fun hb0=> ?_)
 ·try simp only[nb,an,aq,aa]at hb0
  have hsb:IntKind.i64.wrap (((Up c s:Nat):Int)-(k:Int)-1)=((Up c s:Nat):Int)-((k+1:Nat):Int):=by rw[bl (by omega)];omega
  have hs:bP cR (cY c s) (k+1)=Uo (bZ (bP cR (cY c s) k).1 8) ((aI (bP cR (cY c s) k).1 8),(bP cR (cY c s) k).2):=rfl
  unfold Uo at hs
  refine W.skip ?_
  refine W.seq ?_
  refine W.block ?_
  refine W.seq ?_
  refine W.cD X2 [] [(800017,⟨true,[.a (.lit (.int .i64 (bZ ((bP cR (cY c s) k).1) 8)))]⟩),(700017,⟨true,[.agg [.ptr 1000 1000], .agg [], .agg [.own 1000], .agg [.fY v .u8 b, .lit (.int .i64 ((aI ((bP cR (cY c s) k).1) 8).i:Int)), .lit (.int .i64 (aI ((bP cR (cY c s) k).1) 8).h)]]⟩)] [0,4,5,6,17] [] rfl (by(repeat' with_reducible first|exact aj.nil|refine aj.mk ?_ ?_|apply And.intro)<;>first|exact(ct v ((bP cR (cY c s) k).1) 8 b hbp hb)|exact rfl) ?_
  refine W.block ?_
  refine W.seq ?_
  refine W.cD X2 [] [] [0,4,5,6,17,20] [] rfl ⟨⟩ ?_
  refine W.cond rfl (fun aB=> ?_) (fun aB=> ?_)
  ·try simp only[nb,an,aq,aa]at aB
   rw[if_pos aB]at hs
   refine W.fZ X2 [(33,150)] [(800028,⟨true,[.a (.lit (.int .i64 (bZ (aI (bP cR (cY c s) k).1 8) ((bP cR (cY c s) k).2.af.length:Int))))]⟩),(700028,⟨true,[.agg [.ptr 1000 1000], .agg [], .agg [.own 1000], .agg [.fY v .u8 b, .lit (.int .i64 ((aI (aI (bP cR (cY c s) k).1 8) ((bP cR (cY c s) k).2.af.length:Int)).i:Int)), .lit (.int .i64 (aI (aI (bP cR (cY c s) k).1 8) ((bP cR (cY c s) k).2.af.length:Int)).h)]]⟩),(800031,⟨true,[.a (.lit (.int .i64 (bZ (aI (aI (bP cR (cY c s) k).1 8) ((bP cR (cY c s) k).2.af.length:Int)) 4)))]⟩),(700031,⟨true,[.agg [.ptr 1000 1000], .agg [], .agg [.own 1000], .agg [.fY v .u8 b, .lit (.int .i64 ((aI (aI (aI (bP cR (cY c s) k).1 8) ((bP cR (cY c s) k).2.af.length:Int)) 4).i:Int)), .lit (.int .i64 (aI (aI (aI (bP cR (cY c s) k).1 8) ((bP cR (cY c s) k).2.af.length:Int)) 4).h)]]⟩),(800032,⟨true,[.a (.own 11)]⟩),(700032,⟨true,[.agg [.ptr 1000 1000], .agg [.ptr 11 170], .agg [.own 1000, .own 11], .agg [.fY v .u8 b, .lit (.int .i64 ((IP (aI (aI (aI (bP cR (cY c s) k).1 8) ((bP cR (cY c s) k).2.af.length:Int)) 4) (bZ (aI (aI (bP cR (cY c s) k).1 8) ((bP cR (cY c s) k).2.af.length:Int)) 4).toNat).i:Int)), .lit (.int .i64 (IP (aI (aI (aI (bP cR (cY c s) k).1 8) ((bP cR (cY c s) k).2.af.length:Int)) 4) (bZ (aI (aI (bP cR (cY c s) k).1 8) ((bP cR (cY c s) k).2.af.length:Int)) 4).toNat).h)], .a (.sl .u8 (OK (aI (aI (aI (bP cR (cY c s) k).1 8) ((bP cR (cY c s) k).2.af.length:Int)) 4) (bZ (aI (aI (bP cR (cY c s) k).1 8) ((bP cR (cY c s) k).2.af.length:Int)) 4).toNat))]⟩),(33,⟨true,[.agg (aG (CY ((bP cR (cY c s) k).2) (bZ (aI (bP cR (cY c s) k).1 8) ((bP cR (cY c s) k).2.af.length:Int)) (OK (aI (aI (aI (bP cR (cY c s) k).1 8) ((bP cR (cY c s) k).2.af.length:Int)) 4) (bZ (aI (aI (bP cR (cY c s) k).1 8) ((bP cR (cY c s) k).2.af.length:Int)) 4).toNat))), .a (.lit (.bool (KA ((bP cR (cY c s) k).2) (bZ (aI (bP cR (cY c s) k).1 8) ((bP cR (cY c s) k).2.af.length:Int)) (OK (aI (aI (aI (bP cR (cY c s) k).1 8) ((bP cR (cY c s) k).2.af.length:Int)) 4) (bZ (aI (aI (bP cR (cY c s) k).1 8) ((bP cR (cY c s) k).2.af.length:Int)) 4).toNat))))]⟩)] [0,4,5,6] [] 15583 (.ph 223 (.br 223 5 (.ph 0 (.br 0 8 BS (.nil))) (.br 95 5 (.ph 128 (.br 128 8 BS (.nil))) (.br 159 5 (.ph 64 (.br 64 8 BS (.br 0 8 OW (.nil)))) (.br 31 5 (.ph 192 (.br 192 8 BS (.br 128 8 OW (.nil)))) (.br 222 5 (.ph 1 (.br 1 8 BS (.br 0 8 OV (.nil)))) (.br 94 5 (.ph 129 (.br 129 8 BS (.br 128 8 OV (.nil)))) (.br 158 5 (.ph 65 (.br 65 8 BS (.br 1 8 OW (.br 64 8 OV (.br 0 8 Yi (.nil)))))) (.br 30 5 (.ph 193 (.br 193 8 BS (.br 129 8 OW (.br 192 8 OV (.br 128 8 Yi (.nil)))))) (.nil)))))))))) 47 MO (by kernel_rfl) rfl (by kernel_rfl) (by(repeat' with_reducible first|exact aj.nil|refine aj.mk ?_ ?_|apply And.intro);(iterate 4 all_goals try first|exact(ct v (aI (bP cR (cY c s) k).1 8) ((bP cR (cY c s) k).2.af.length:Int) b U6 hb)|exact(ct v (aI (aI (bP cR (cY c s) k).1 8) ((bP cR (cY c s) k).2.af.length:Int)) 4 b (by rw[ef];exact U6) hb)|exact(uW v (aI (aI (aI (bP cR (cY c s) k).1 8) ((bP cR (cY c s) k).2.af.length:Int)) 4) (bZ (aI (aI (bP cR (cY c s) k).1 8) ((bP cR (cY c s) k).2.af.length:Int)) 4) b (by rw[ef,ef];exact U6) hb (by have:=lT (aI (aI (bP cR (cY c s) k).1 8) ((bP cR (cY c s) k).2.af.length:Int)) (n:=4) (by decide);omega))|exact(iK ((bP cR (cY c s) k).2) (bZ (aI (bP cR (cY c s) k).1 8) ((bP cR (cY c s) k).2.af.length:Int)) (OK (aI (aI (aI (bP cR (cY c s) k).1 8) ((bP cR (cY c s) k).2.af.length:Int)) 4) (bZ (aI (aI (bP cR (cY c s) k).1 8) ((bP cR (cY c s) k).2.af.length:Int)) 4).toNat) Ly (by rw[C3];have:=lT (aI (aI (bP cR (cY c s) k).1 8) ((bP cR (cY c s) k).2.af.length:Int)) (n:=4) (by decide);omega)));all_goals first|exact rfl) ?_
   refine W.swap 151 61 rfl ?_
   refine W.swap 152 62 rfl ?_
   refine W.swap 154 64 rfl ?_
   refine W.swap 158 68 rfl ?_
   refine W.cD X2 [] [] [0,4,5,6] [] rfl ⟨⟩ ?_
   refine⟨k+1,by omega,by omega,?_⟩
   rw[hs,hsb]
   try rfl
  ·try simp only[nb,an,aq,aa]at aB
   rw[if_neg aB]at hs
   refine W.seq ?_
   refine W.cD X2 [] [] [0,4,5,6,17,36] [] rfl ⟨⟩ ?_
   refine W.cond rfl (fun aM=> ?_) (fun aM=> ?_)
   ·try simp only[nb,an,aq,aa]at aM
    rw[if_pos aM]at hs
    refine W.fZ X2 [(45,150)] [(800044,⟨true,[.a (.lit (.int .i64 (bZ (aI (bP cR (cY c s) k).1 8) ((bP cR (cY c s) k).2.af.length:Int))))]⟩),(700044,⟨true,[.agg [.ptr 1000 1000], .agg [], .agg [.own 1000], .agg [.fY v .u8 b, .lit (.int .i64 ((aI (aI (bP cR (cY c s) k).1 8) ((bP cR (cY c s) k).2.af.length:Int)).i:Int)), .lit (.int .i64 (aI (aI (bP cR (cY c s) k).1 8) ((bP cR (cY c s) k).2.af.length:Int)).h)]]⟩),(45,⟨true,[.agg (aG (TJ ((bP cR (cY c s) k).2) (bZ (aI (bP cR (cY c s) k).1 8) ((bP cR (cY c s) k).2.af.length:Int)))), .a (.lit (.bool (iJ ((bP cR (cY c s) k).2) (bZ (aI (bP cR (cY c s) k).1 8) ((bP cR (cY c s) k).2.af.length:Int)))))]⟩)] [0,4,5,6] [] 991 (.ph 31 (.br 31 5 (.ph 960 (.br 960 10 (.last 0) (.br 448 10 (.last 512) (.nil)))) (.br 30 5 (.ph 961 (.br 961 10 (.last 0) (.br 449 10 (.last 512) (.nil)))) (.nil)))) 3 MO (by kernel_rfl) rfl (by kernel_rfl) (by(repeat' with_reducible first|exact aj.nil|refine aj.mk ?_ ?_|apply And.intro);(iterate 2 all_goals try first|exact(ct v (aI (bP cR (cY c s) k).1 8) ((bP cR (cY c s) k).2.af.length:Int) b U6 hb)|exact(xK ((bP cR (cY c s) k).2) (bZ (aI (bP cR (cY c s) k).1 8) ((bP cR (cY c s) k).2.af.length:Int)) Ly));all_goals first|exact rfl) ?_
    refine W.swap 151 61 rfl ?_
    refine W.swap 152 62 rfl ?_
    refine W.swap 154 64 rfl ?_
    refine W.swap 158 68 rfl ?_
    refine W.cD X2 [] [] [0,4,5,6] [] rfl ⟨⟩ ?_
    refine⟨k+1,by omega,by omega,?_⟩
    rw[hs,hsb]
    try rfl
   ·try simp only[nb,an,aq,aa]at aM
    rw[if_neg aM]at hs
    refine W.seq ?_
    refine W.cD X2 [] [] [0,4,5,6,48] [] rfl ⟨⟩ ?_
    refine W.cond rfl (fun gB=> ?_) (fun gB=> ?_)
    ·try simp only[nb,an,aq,aa]at gB
     rw[if_pos gB]at hs
     refine W.fZ X2 [(59,150)] [(800056,⟨true,[.a (.lit (.int .i64 (bZ (aI (bP cR (cY c s) k).1 8) ((bP cR (cY c s) k).2.ah.length:Int))))]⟩),(700056,⟨true,[.agg [.ptr 1000 1000], .agg [], .agg [.own 1000], .agg [.fY v .u8 b, .lit (.int .i64 ((aI (aI (bP cR (cY c s) k).1 8) ((bP cR (cY c s) k).2.ah.length:Int)).i:Int)), .lit (.int .i64 (aI (aI (bP cR (cY c s) k).1 8) ((bP cR (cY c s) k).2.ah.length:Int)).h)]]⟩),(800058,⟨true,[.a (.lit (.int .i64 (bZ (aI (aI (bP cR (cY c s) k).1 8) ((bP cR (cY c s) k).2.ah.length:Int)) 4)))]⟩),(700058,⟨true,[.agg [.ptr 1000 1000], .agg [], .agg [.own 1000], .agg [.fY v .u8 b, .lit (.int .i64 ((aI (aI (aI (bP cR (cY c s) k).1 8) ((bP cR (cY c s) k).2.ah.length:Int)) 4).i:Int)), .lit (.int .i64 (aI (aI (aI (bP cR (cY c s) k).1 8) ((bP cR (cY c s) k).2.ah.length:Int)) 4).h)]]⟩),(59,⟨true,[.agg (aG (TL ((bP cR (cY c s) k).2) (bZ (aI (bP cR (cY c s) k).1 8) ((bP cR (cY c s) k).2.ah.length:Int)) (bZ (aI (aI (bP cR (cY c s) k).1 8) ((bP cR (cY c s) k).2.ah.length:Int)) 4))), .a (.lit (.bool (EU ((bP cR (cY c s) k).2) (bZ (aI (bP cR (cY c s) k).1 8) ((bP cR (cY c s) k).2.ah.length:Int)) (bZ (aI (aI (bP cR (cY c s) k).1 8) ((bP cR (cY c s) k).2.ah.length:Int)) 4))))]⟩)] [0,4,5,6] [] 3935 (.ph 95 (.br 95 5 (.ph 0 (.br 0 7 OX (.nil))) (.br 31 5 (.ph 64 (.br 64 7 OX (.nil))) (.br 94 5 (.ph 1 (.br 1 7 OX (.br 0 7 Yj (.nil)))) (.br 30 5 (.ph 65 (.br 65 7 OX (.br 64 7 Yj (.nil)))) (.nil)))))) 11 MO (by kernel_rfl) rfl (by kernel_rfl) (by(repeat' with_reducible first|exact aj.nil|refine aj.mk ?_ ?_|apply And.intro);(iterate 3 all_goals try first|exact(ct v (aI (bP cR (cY c s) k).1 8) ((bP cR (cY c s) k).2.ah.length:Int) b U6 hb)|exact(ct v (aI (aI (bP cR (cY c s) k).1 8) ((bP cR (cY c s) k).2.ah.length:Int)) 4 b (by rw[ef];exact U6) hb)|exact(uU ((bP cR (cY c s) k).2) (bZ (aI (bP cR (cY c s) k).1 8) ((bP cR (cY c s) k).2.ah.length:Int)) (bZ (aI (aI (bP cR (cY c s) k).1 8) ((bP cR (cY c s) k).2.ah.length:Int)) 4) Ly));all_goals first|exact rfl) ?_
     refine W.swap 151 61 rfl ?_
     refine W.swap 152 62 rfl ?_
     refine W.swap 154 64 rfl ?_
     refine W.swap 158 68 rfl ?_
     refine W.cD X2 [] [] [0,4,5,6] [] rfl ⟨⟩ ?_
     refine⟨k+1,by omega,by omega,?_⟩
     rw[hs,hsb]
     try rfl
    ·try simp only[nb,an,aq,aa]at gB
     rw[if_neg gB]at hs
     have Ar:oy (bP cR (cY c s) k).2=true:=by(have:=hd.round;simp only[oy,hd.ok,Bool.true_and,Bool.not_eq_true',decide_eq_false_iff_not];omega)
     replace hs:=hs.trans (congrArg (Prod.mk (aI (bP cR (cY c s) k).1 8)) (MK Ar))
     refine W.cD X2 [(19,150)] [(19,⟨true,[.agg (aG (wN (testW (aQ ((bP cR (cY c s) k).2) (gT ((bP cR (cY c s) k).2).az (aN ((bP cR (cY c s) k).2)) (bH (aN ((bP cR (cY c s) k).2))) (dO ((bP cR (cY c s) k).2)) (aN ((bP cR (cY c s) k).2)).length) (jw (bH (aN ((bP cR (cY c s) k).2))))))))]⟩)] [0,4,5,6] [] rfl (by(repeat' with_reducible first|exact aj.nil|refine aj.mk ?_ ?_|apply And.intro)<;>first|exact(Co ((bP cR (cY c s) k).2) hwr hd.ok)) ?_
     refine W.swap 151 61 rfl ?_
     refine W.swap 152 62 rfl ?_
     refine W.swap 154 64 rfl ?_
     refine W.swap 158 68 rfl ?_
     refine W.cD X2 [] [] [0,4,5,6] [] rfl ⟨⟩ ?_
     refine⟨k+1,by omega,by omega,?_⟩
     rw[hs,hsb]
     try rfl
 ·try simp only[nb,an,aq,aa]at hb0
  have hkn:k=Up c s:=by omega
  refine W.exit ?_
  refine W.seq ?_
  refine W.cD X2 [] [] [4] [] rfl (by and_intros<;>exact⟨⟩) ?_
  refine W.ret ?_
  exact og.ret rfl ⟨by rw[hkn];rfl,by rw[hkn];rfl,by rw[hkn];rfl,by rw[hkn];rfl,by rw[hkn];rfl,by rw[hkn];rfl,rfl,rfl,by rw[hkn];rfl,by rw[hkn];rfl,by rw[hkn];rfl,by rw[hkn];rfl,by rw[hkn];rfl,by rw[hkn];rfl,⟨⟩⟩
theorem iW(l:List UInt8)(hl:l.length≤1048576):Sound ty Tryz.prog 14 [.a (.sl .u8 l)] [.agg (aG (aT l))]:=by
 refine Sound.of X2 Tryz.call14 Tryz.func14 rfl rfl (by decide) Tryz.ntmps14 (by simp) ?_
 intro zb
 refine W.fY 0 (fun v=>rfl) (fun v=> ?_)
 have hz:=Uq l hl (m:=12) (by decide)
 have hsz:IntKind.i64.wrap (3+mW l 12)=3+mW l 12:=bl (by omega)
 refine W.seq ?_
 refine W.cD X2 [] [] [0,2] [] rfl ⟨⟩ ?_
 refine W.seq ?_
 refine W.cD X2 [] [(800005,⟨true,[.a (.ptr 907 0)]⟩),(700005,⟨true,[.agg [], .agg [.ptr 907 907], .agg [.own 907], .agg [.fY v .u8 l, .lit (.int .i64 ((qZ l).i:Int)), .lit (.int .i64 (qZ l).h)]]⟩)] [0,2,3] [] rfl (by(repeat' with_reducible first|exact aj.nil|refine aj.mk ?_ ?_|apply And.intro)<;>first|exact(IB v l)|exact rfl) ?_
 refine W.seq ?_
 refine W.cD X2 [] [(8,⟨false,[.a (.lit (.int .i64 (mW l 12)))]⟩),(800010,⟨true,[.agg [.lit (.int .i64 (Cq (qZ l) (IntKind.i64.wrap (3+mW l 12))).2.rows), .own 61, .own 62, .lit (.int .i64 (Cq (qZ l) (IntKind.i64.wrap (3+mW l 12))).2.ak.rows), .own 64, .lit (.int .i64 (Cq (qZ l) (IntKind.i64.wrap (3+mW l 12))).2.az), .lit (.int .i64 (Cq (qZ l) (IntKind.i64.wrap (3+mW l 12))).2.seed), .lit (.int .i64 (Cq (qZ l) (IntKind.i64.wrap (3+mW l 12))).2.round), .own 68, .lit (.int .i64 (Cq (qZ l) (IntKind.i64.wrap (3+mW l 12))).2.cancelled)]]⟩),(700010,⟨true,[.agg [.ptr 1000 907], .agg [.ptr 61 61, .ptr 62 62, .ptr 64 64, .ptr 68 68], .agg [.own 1000, .own 61, .own 62, .own 64, .own 68], .agg [.fY v .u8 l, .lit (.int .i64 ((Cq (qZ l) (IntKind.i64.wrap (3+mW l 12))).1.i:Int)), .lit (.int .i64 (Cq (qZ l) (IntKind.i64.wrap (3+mW l 12))).1.h)], .a (.sl .aO ((Cq (qZ l) (IntKind.i64.wrap (3+mW l 12))).2.ah)), .a (.sl .aL ((Cq (qZ l) (IntKind.i64.wrap (3+mW l 12))).2.af)), .a (.sl .ay ((Cq (qZ l) (IntKind.i64.wrap (3+mW l 12))).2.ak.rounds)), .a (.sl .int ((Cq (qZ l) (IntKind.i64.wrap (3+mW l 12))).2.replaced))]⟩)] [2] [] rfl (by(repeat' with_reducible first|exact aj.nil|refine aj.mk ?_ ?_|apply And.intro);(iterate 2 all_goals try first|exact(FH l 12)|exact(E4 v (qZ l) (IntKind.i64.wrap (3+mW l 12)) l rfl hl (by rw[hsz];omega)));all_goals first|exact rfl) ?_
 refine W.ret ?_
 exact Fin.ret rfl (by and_intros<;>first|exact⟨⟩| (rw[hsz];rfl;done))
end
section
set_option maxRecDepth 100000
theorem O0(l:List UInt8):Sound ty Tryz.prog 13 [.a (.sl .u8 l)] [.a (.lit (.bool (decide ((1048576:Int)<(l.length:Int)))))]:=by
 refine Sound.o X Tryz.call13 Tryz.func13 Tryz.ntmps13 rfl rfl ?_
 intro zb
 refine W.s0 X [0] rfl ⟨⟩ ?_
 refine W.s0 X [2] rfl ⟨⟩ ?_
 refine W.ret ?_
 exact Fin.ret rfl ⟨rfl,⟨⟩⟩
end
end Go.Proofs.YteodajeiagmekaaGreat.G
