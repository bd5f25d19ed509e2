/-
  The archive grows; servers are replaced; rounds are closed; servers are tested.
-/
import Derived.Test.YteodajeiagmekaaGreatM22
import Derived.Test.YteodajeiagmekaaGreatM25
import Derived.Test.YteodajeiagmekaaGreatM43
import Derived.Test.YteodajeiagmekaaGreatM49
namespace Go.Proofs.YteodajeiagmekaaGreat.G
set_option linter.all false
open Go.RowKit L D
section
set_option maxRecDepth 100000
theorem lM(m s:Int):Sound ty Tryz.prog 97 [.a (.lit (.int .i64 m)), .a (.lit (.int .i64 s))] [.a (.lit (.int .i64 (fU m s)))]:=by
 refine Sound.o X Tryz.call97 Tryz.func97 Tryz.ntmps97 rfl rfl ?_
 intro zb
 refine W.s0 X [0,1] rfl ⟨⟩ ?_
 refine W.sr X [] [(8,⟨false,[.a (.lit (.int .i64 (kh m [173,s])))]⟩),(9,⟨false,[.a (.lit (.int .i64 (CK (kh m [173,s]))))]⟩)] [4] [] rfl (by(repeat' with_reducible first|exact aj.nil|refine aj.mk ?_ ?_|apply And.intro);(iterate 2 all_goals try first|exact(bC m [173,s] (by first|assumption|omega| (simp;done)| (simp;omega)))|exact(rW (kh m [173,s])));all_goals first|exact⟨rfl,bA _ (by decide)⟩) ?_
 refine W.ret ?_
 exact Fin.ret rfl ⟨rfl,⟨⟩⟩
theorem hJ(s:aO)(hz:s.received.length≤1048576∧ ∀r,r∈s.received→bX List.length r.share.rows≤1048576):Sound ty Tryz.prog 222 [.agg (bq s)] [.agg (bq s)]:=by
 refine Sound.o X Tryz.call222 Tryz.func222 Tryz.ntmps222 rfl rfl ?_
 intro zb
 refine W.s0 X [1,2] rfl ⟨⟩ ?_
 refine W.s0 X [1,2,3] rfl (by and_intros<;>first|exact⟨⟩|exact rfl) ?_
 refine W.seq ?_
 refine W.s0 X [1,2,3,8,9,10] rfl ⟨⟩ ?_
 refine W.block ?_
 refine W.aE (fun k=>k≤s.received.length) (fun k:Nat=> [(10, .one (.a (.lit (.int .i64 k))))]) (fun k=> [(6, .arr .aA (s.received.take k))]) (fun k=>s.received.length-k) 0 (fun k=>rfl) (Nat.zero_le _) rfl ?_
 intro k hk
 have hle:=aY s.received k
 refine W.s0 X [1,2,3,8,9,10,11] rfl ⟨⟩ ?_
 refine W.seq ?_
 refine W.cond rfl (fun hb0=> ?_) (fun hb0=> ?_)
 ·try simp only[nb,an,aq,aa]at hb0
  have hs:=aV s.received k (au .aA) hb0
  refine W.skip ?_
  refine W.seq ?_
  refine W.block ?_
  refine W.s0 X [1,2,3,5,8,9,10] rfl (by and_intros<;>first|exact⟨⟩| (intros;omega)) ?_
  refine W.draw X [(22,6)] [(19,⟨true,[.agg (aF ((s.received.getD k (au .aA)).share))]⟩),(500021,⟨true,[]⟩)] [1,2,3,8,9,10] [] 8 MO (by kernel_rfl) rfl (by(repeat' with_reducible first|exact aj.nil|refine aj.mk ?_ ?_|apply And.intro)<;>first|exact(cK ((s.received.getD k (au .aA)).share) (hz.2 _ (getD_in _ hb0)))|exact rfl|exact⟨rfl,bA _ (by decide)⟩| (simp only[cT,maxLen,lens];omega)) ?_
  refine W.r0 X [1,2,3,8,9,10] rfl ⟨⟩ ?_
  refine⟨k+1,by omega,by omega,?_⟩
  rw[aR _ k rfl (by omega),hs]
  try rfl
 ·try simp only[nb,an,aq,aa]at hb0
  refine W.exit ?_
  refine W.s0 X [1,2] rfl ⟨⟩ ?_
  refine W.s0 X [2] rfl (by and_intros<;>exact⟨⟩) ?_
  refine W.ret ?_
  exact Fin.ret rfl ⟨rfl,rfl,rfl,by rw[List.take_of_length_le hb0],rfl,⟨⟩⟩
theorem oq(l:List aO)(hl:l.length≤1048576)(hz: ∀s,s∈l→pU s):Sound ty Tryz.prog 94 [.a (.sl .aO l)] [.a (.sl .aO l)]:=by
 refine Sound.o X Tryz.call94 Tryz.func94 Tryz.ntmps94 rfl rfl ?_
 intro zb
 refine W.s0 X [0] rfl ⟨⟩ ?_
 refine W.s0 X [0,3] rfl (by and_intros<;>first|exact⟨⟩|exact rfl) ?_
 refine W.seq ?_
 refine W.s0 X [3,7,8,9] rfl ⟨⟩ ?_
 refine W.block ?_
 refine W.aE (fun k=>k≤l.length) (fun k:Nat=> [(9, .one (.a (.lit (.int .i64 k))))]) (fun k=> [(6, .arr .aO (l.take k))]) (fun k=>l.length-k) 0 (fun k=>rfl) (Nat.zero_le _) rfl ?_
 intro k hk
 have hle:=aY l k
 refine W.s0 X [3,7,8,9,10] rfl ⟨⟩ ?_
 refine W.seq ?_
 refine W.cond rfl (fun hb0=> ?_) (fun hb0=> ?_)
 ·try simp only[nb,an,aq,aa]at hb0
  have hs:=aV l k (au .aO) hb0
  refine W.skip ?_
  refine W.seq ?_
  refine W.block ?_
  refine W.s0 X [3,5,7,8,9] rfl (by and_intros<;>first|exact⟨⟩| (intros;omega)) ?_
  refine W.cD X [(17,6)] [(15,⟨true,[.agg (bq (l.getD k (au .aO)))]⟩)] [3,7,8,9] [] rfl (by(repeat' with_reducible first|exact aj.nil|refine aj.mk ?_ ?_|apply And.intro)<;>first|exact(hJ (l.getD k (au .aO)) (hz _ (getD_in _ hb0)))|exact rfl| (simp only[cT,maxLen,lens];omega)) ?_
  refine W.r0 X [3,7,8,9] rfl ⟨⟩ ?_
  refine⟨k+1,by omega,by omega,?_⟩
  rw[aR _ k rfl (by omega),hs]
  try rfl
 ·try simp only[nb,an,aq,aa]at hb0
  refine W.exit ?_
  refine W.s0 X [2] rfl ⟨⟩ ?_
  refine W.ret ?_
  exact Fin.ret rfl ⟨by rw[List.take_of_length_le hb0],⟨⟩⟩
end
section
set_option maxRecDepth 100000
theorem fM(c:ep)(h0:bX List.length c.av≤1048576∧bX List.length c.inbox≤1048576):Sound ty Tryz.prog 261 [.agg (bn c)] [.agg (bn c)]:=by
 refine Sound.o X Tryz.call261 Tryz.func261 Tryz.ntmps261 rfl rfl ?_
 intro zb
 refine W.s0 X [1,2] rfl ⟨⟩ ?_
 refine W.sr X [] [(5,⟨true,[.a (.sl (.sl .u8) c.av)]⟩)] [1,2] [] rfl (by(repeat' with_reducible first|exact aj.nil|refine aj.mk ?_ ?_|apply And.intro)<;>first|exact(lC c.av h0.1)) ?_
 refine W.sr X [] [(9,⟨true,[.a (.sl (.sl .u8) c.inbox)]⟩)] [1,2] [] rfl (by(repeat' with_reducible first|exact aj.nil|refine aj.mk ?_ ?_|apply And.intro)<;>first|exact(lC c.inbox h0.2)) ?_
 refine W.s0 X [2] rfl (by and_intros<;>exact⟨⟩) ?_
 refine W.ret ?_
 exact Fin.ret rfl ⟨rfl,rfl,rfl,rfl,rfl,rfl,rfl,rfl,⟨⟩⟩
theorem kU(d:aL)(h0:aP d≤1048576):Sound ty Tryz.prog 240 [.agg (bz d)] [.agg (bz d)]:=by
 refine Sound.o X Tryz.call240 Tryz.func240 Tryz.ntmps240 rfl rfl ?_
 intro zb
 have wV:bD d.live≤1048576∧bD d.saved≤1048576:=by unfold aP at h0;omega
 unfold bD at wV
 refine W.s0 X [1,2] rfl ⟨⟩ ?_
 refine W.sd X [] [(5,⟨true,[.agg (bn d.live)]⟩),(8,⟨true,[.agg (bn d.saved)]⟩)] [2] [] 7 MO (by kernel_rfl) rfl (by(repeat' with_reducible first|exact aj.nil|refine aj.mk ?_ ?_|apply And.intro);(iterate 2 all_goals try first|exact(fM d.live ⟨by omega,by omega⟩)|exact(fM d.saved ⟨by omega,by omega⟩))) ?_
 refine W.ret ?_
 exact Fin.ret rfl ⟨rfl,rfl,rfl,rfl,rfl,rfl,rfl,rfl,rfl,rfl,rfl,rfl,rfl,rfl,rfl,rfl,⟨⟩⟩
theorem oz(a:gW)(h0:cB a≤1048576):Sound ty Tryz.prog 241 [.agg (ck a)] [.agg (ck a)]:=by
 refine Sound.o X Tryz.call241 Tryz.func241 Tryz.ntmps241 rfl rfl ?_
 intro zb
 have hls:bX aZ a.rounds≤1048576:=h0
 have kZ:=cI hls
 refine W.s0 X [1,2] rfl ⟨⟩ ?_
 refine W.s0 X [1,2,3] rfl ⟨⟩ ?_
 refine W.lG 3 1 60 .ay rfl ?_
 refine W.seq ?_
 refine W.s0 X [2,3,10,11,12] rfl ⟨⟩ ?_
 refine W.block ?_
 refine W.aE (fun k=>k≤a.rounds.length) (fun k:Nat=> [(12, .one (.a (.lit (.int .i64 k))))]) (fun k=> [(60, .arr .ay (a.rounds.take k))]) (fun k=>a.rounds.length-k) 0 (fun k=>rfl) (Nat.zero_le _) rfl ?_
 intro k hk
 have hle:=aY a.rounds k
 refine W.s0 X [2,3,10,11,12,13] rfl ⟨⟩ ?_
 refine W.seq ?_
 refine W.cond rfl (fun hb0=> ?_) (fun hb0=> ?_)
 ·try simp only[nb,an,aq,aa]at hb0
  have hs:=aV a.rounds k (au .ay) hb0
  refine W.skip ?_
  refine W.seq ?_
  refine W.block ?_
  refine W.s0 X [2,3,5,10,11,12] rfl (by and_intros<;>first|exact⟨⟩| (intros;omega)) ?_
  refine W.draw X [(25,60)] [(22,⟨true,[.agg (aF ((a.rounds.getD k (au .ay)).db))]⟩),(500024,⟨true,[]⟩)] [2,3,10,11,12] [] 9 MO (by kernel_rfl) rfl (by(repeat' with_reducible first|exact aj.nil|refine aj.mk ?_ ?_|apply And.intro)<;>first|exact(cK ((a.rounds.getD k (au .ay)).db) (gF hls (getD_some a.rounds _ k hb0)))|exact rfl|exact⟨rfl,bA _ (by decide)⟩| (simp only[cT,maxLen,lens];omega)) ?_
  refine W.r0 X [2,3,10,11,12] rfl ⟨⟩ ?_
  refine⟨k+1,by omega,by omega,?_⟩
  rw[aR _ k rfl (by omega),hs]
  try rfl
 ·try simp only[nb,an,aq,aa]at hb0
  refine W.exit ?_
  refine W.s0 X [2] rfl (by and_intros<;>exact⟨⟩) ?_
  refine W.ret ?_
  exact Fin.ret rfl ⟨rfl,by rw[List.take_of_length_le hb0],⟨⟩⟩
theorem lQ(x:aJ)(h0:wB x):Sound ty Tryz.prog 108 [.agg (aG x)] [.agg (aG x)]:=by
 refine Sound.o X Tryz.call108 Tryz.func108 Tryz.ntmps108 rfl rfl ?_
 intro zb
 have hls:bX bp x.ah≤1048576∧bX aP x.af≤1048576∧cB x.ak≤1048576∧x.replaced.length≤4194304:=h0
 have nj:=cI hls.1
 have j0:=cI hls.2.1
 refine W.s0 X [1,2] rfl ⟨⟩ ?_
 refine W.s0 X [1,2,3] rfl (by and_intros<;>first|exact⟨⟩|exact rfl) ?_
 refine W.seq ?_
 refine W.s0 X [1,2,3,8,9,10] rfl ⟨⟩ ?_
 refine W.block ?_
 refine W.aE (fun k=>k≤x.af.length) (fun k:Nat=> [(10, .one (.a (.lit (.int .i64 k))))]) (fun k=> [(6, .arr .aL (x.af.take k))]) (fun k=>x.af.length-k) 0 (fun k=>rfl) (Nat.zero_le _) rfl ?_
 intro k hk
 have hle:=aY x.af k
 refine W.s0 X [1,2,3,8,9,10,11] rfl ⟨⟩ ?_
 refine W.seq ?_
 refine W.cond rfl (fun hb0=> ?_) (fun hb0=> ?_)
 ·try simp only[nb,an,aq,aa]at hb0
  have hs:=aV x.af k (au .aL) hb0
  refine W.skip ?_
  refine W.seq ?_
  refine W.block ?_
  refine W.s0 X [1,2,3,5,8,9,10] rfl (by and_intros<;>first|exact⟨⟩| (intros;omega)) ?_
  refine W.cD X [(18,6)] [(16,⟨true,[.agg (bz (x.af.getD k (au .aL)))]⟩)] [1,2,3,8,9,10] [] rfl (by(repeat' with_reducible first|exact aj.nil|refine aj.mk ?_ ?_|apply And.intro)<;>first|exact(kU (x.af.getD k (au .aL)) (gF hls.2.1 (getD_some x.af _ k hb0)))|exact rfl| (simp only[cT,maxLen,lens];omega)) ?_
  refine W.r0 X [1,2,3,8,9,10] rfl ⟨⟩ ?_
  refine⟨k+1,by omega,by omega,?_⟩
  rw[aR _ k rfl (by omega),hs]
  try rfl
 ·try simp only[nb,an,aq,aa]at hb0
  refine W.exit ?_
  refine W.sr X [] [(22,⟨true,[.a (.sl .aO x.ah)]⟩)] [1,2,3] [] rfl (by(repeat' with_reducible first|exact aj.nil|refine aj.mk ?_ ?_|apply And.intro)<;>first|exact(oq x.ah nj (fun s hs=>by obtain⟨i,hi⟩:=List.mem_iff_getElem?.1 hs;exact Gt hls.1 hi))) ?_
  refine W.s0 X [1,2] rfl ⟨⟩ ?_
  refine W.sr X [] [(28,⟨true,[.agg (ck x.ak)]⟩)] [1,2] [] rfl (by(repeat' with_reducible first|exact aj.nil|refine aj.mk ?_ ?_|apply And.intro)<;>first|exact(oz x.ak hls.2.2.1)) ?_
  refine W.sr X [] [(32,⟨true,[.a (.sl .int x.replaced)]⟩)] [1,2] [] rfl (by(repeat' with_reducible first|exact aj.nil|refine aj.mk ?_ ?_|apply And.intro)<;>first|exact(gH x.replaced hls.2.2.2)) ?_
  refine W.s0 X [2] rfl (by and_intros<;>exact⟨⟩) ?_
  refine W.ret ?_
  exact Fin.ret rfl (by and_intros<;>first|exact⟨⟩|rfl| (rw[List.take_of_length_le hb0];done))
end
section
set_option maxRecDepth 100000
theorem Bf(id rows b:Int):Sound ty Tryz.prog 244 [.a (.lit (.int .i64 id)), .a (.lit (.int .i64 rows)), .a (.lit (.int .i64 b))] [.agg (bq (newS id rows b))]:=by
 refine Sound.o X Tryz.call244 Tryz.func244 Tryz.ntmps244 rfl rfl ?_
 intro zb
 refine W.s0 X [0,1,2,6] rfl ⟨⟩ ?_
 refine W.seq ?_
 refine W.sr X [] [(8,⟨false,[.a (.lit (.bool (inr id 0 3)))]⟩),(12,⟨false,[.a (.lit (.bool (inr rows 1 64)))]⟩),(17,⟨false,[.a (.lit (.bool (inr b 0 3)))]⟩)] [0,1,2,6,19] [] rfl (by(repeat' with_reducible first|exact aj.nil|refine aj.mk ?_ ?_|apply And.intro);(iterate 3 all_goals try first|exact(aC id 0 3)|exact fun _=>(aC rows 1 64)|exact fun _=>(aC b 0 3))) ?_
 refine W.cond rfl (fun hb0=> ?_) (fun hb0=> ?_)
 ·have hk:EO id rows b=false:=bK hb0 (by simp only[EO,aH]<;>first|rfl|ac_rfl)
  have hn:newS id rows b=⟨0,0,0,[],0⟩:=by rw[newS,hk];rfl
  refine W.s0 X [6] rfl (by and_intros<;>exact⟨⟩) ?_
  refine W.ret ?_
  exact Fin.ret rfl (by and_intros<;>first|exact⟨⟩| (rw[hn];done))
 ·have hk:EO id rows b=true:=bG hb0 (by simp only[EO,aH]<;>first|rfl|ac_rfl)
  have hn:newS id rows b=⟨id,rows,0,[],b⟩:=by rw[newS,if_pos hk]
  refine W.skip ?_
  refine W.s0 X [6] rfl (by and_intros<;>exact⟨⟩) ?_
  refine W.ret ?_
  exact Fin.ret rfl (by and_intros<;>first|exact⟨⟩| (rw[hn];done))
end
section
set_option maxRecDepth 100000
theorem mE(x:aJ)(rd id:Int)(hl:x.ah.length≤4)(hw:1≤x.rows∧x.rows≤64)(hU:ES rd x.ah)(hr:x.replaced.length≤4194400):dG ty Tryz.prog 110 [(1000, .box [.lit (.int .i64 x.rows), .own 11, .own 12, .lit (.int .i64 x.ak.rows), .own 13, .lit (.int .i64 x.az), .lit (.int .i64 x.seed), .lit (.int .i64 x.round), .own 14, .lit (.int .i64 x.cancelled)]),(11, .arr .aO x.ah),(12, .arr .aL x.af),(13, .arr .ay x.ak.rounds),(14, .arr .int x.replaced)] [.a (.ptr 1000 0), .a (.lit (.int .i64 id))] [(1000, .box [.lit (.int .i64 x.rows), .own 11, .own 12, .lit (.int .i64 x.ak.rows), .own 13, .lit (.int .i64 x.az), .lit (.int .i64 x.seed), .lit (.int .i64 x.round), .own 14, .lit (.int .i64 x.cancelled)]),(11, .arr .aO (s9 x.rows rd (x.ah,x.replaced) id).1),(12, .arr .aL x.af),(13, .arr .ay x.ak.rounds),(14, .arr .int (s9 x.rows rd (x.ah,x.replaced) id).2)] []:=by
 refine dG.of X Tryz.call110 Tryz.func110 rfl rfl (by decide) Tryz.ntmps110 (by simp) rfl ?_
 intro zb
 refine W.sr X [] [(12,⟨false,[.a (.lit (.bool (inr id 0 (IntKind.i64.wrap ((x.ah.length:Int)-1)))))]⟩)] [0,1,12] [] rfl (by(repeat' with_reducible first|exact aj.nil|refine aj.mk ?_ ?_|apply And.intro)<;>first|exact(aC id 0 (IntKind.i64.wrap ((x.ah.length:Int)-1)))) ?_
 refine W.cond rfl (fun hb0=> ?_) (fun hb0=> ?_)
 ·have hk:s8 x.ah id=true:=by unfold s8;simpa using hb0
  have hb:=TU hl hk
  have hp:(s9 x.rows rd (x.ah,x.replaced) id)=_:=It (rows:=x.rows) (rd:=rd) (p:=(x.ah,x.replaced)) hk
  have VP:=EW (id:=id) (by omega) hw
  have hrd:=(qX hU (k:=id.toNat) (by omega)).1
  refine W.sr X [] [(18,⟨true,[.agg (bq (newS id x.rows 0))]⟩)] [0,1,4] [] rfl (by(repeat' with_reducible first|exact aj.nil|refine aj.mk ?_ ?_|apply And.intro)<;>first|exact(Bf id x.rows 0)) ?_
  rw[VP]
  refine W.s0 X [0,1,4] rfl (by and_intros<;>first|exact⟨⟩| (intros;omega)) ?_
  rw[hrd]
  refine W.sd X [] [] [0,1] [] 7 MO (by kernel_rfl) rfl (by and_intros<;>first|exact⟨⟩| (intros;omega)) ?_
  refine W.cD X [(42,14)] [] [] [] rfl (by and_intros<;>first|exact⟨⟩|exact rfl| (simp only[cT,maxLen,lens];omega)) ?_
  exact og.normal rfl ⟨rfl,rfl,rfl,rfl,rfl,rfl,by rw[hp],rfl,rfl,by rw[hp],⟨⟩⟩
 ·have hk:s8 x.ah id=false:=by unfold s8;simpa using hb0
  have hp:(s9 x.rows rd (x.ah,x.replaced) id)=_:=OA (rows:=x.rows) (rd:=rd) (p:=(x.ah,x.replaced)) hk
  refine W.skip ?_
  exact og.normal rfl ⟨rfl,rfl,rfl,rfl,rfl,rfl,by rw[hp],rfl,rfl,by rw[hp],⟨⟩⟩
end
end Go.Proofs.YteodajeiagmekaaGreat.G
