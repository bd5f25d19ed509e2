/-
  FnServerViews: the law, walked by the symbolic machine: it returns true. No condition.
-/
import Derived.Test.YteodajeiagmekaaGreatM46
import Derived.Test.YteodajeiagmekaaGreatM64
import Derived.Test.YteodajeiagmekaaGreatM81
import Derived.Test.YteodajeiagmekaaGreatM91
namespace Go.Proofs.YteodajeiagmekaaGreat.G
set_option linter.all false
open Go.RowKit L D
section
set_option maxRecDepth 100000
theorem cS(a b:List DB)(f:FuncId)(hf: ∀p q,Sound ty Tryz.prog f [.agg (aF p), .agg (aF q)] [.a (.lit (.bool (p.rows==q.rows)))]):Sound ty Tryz.prog 182 [.a (.sl .DB a), .a (.sl .DB b), .a (.lit (.func (.func f) #[] #[]))] [.a (.lit (.bool (qN a b)))]:=by
 refine Sound.o X Tryz.call182 Tryz.func182 Tryz.ntmps182 rfl rfl ?_
 intro zb
 refine W.bound 0 rfl (fun hla=> ?_)
 refine W.s0 X [0,1,2] rfl ⟨⟩ ?_
 refine W.seq ?_
 refine W.s0 X [0,1,2,14] rfl ⟨⟩ ?_
 refine W.cond rfl (fun hb0=> ?_) (fun hb0=> ?_)
 ·try simp only[nb,an,aq,aa]at hb0
  refine W.s0 X [6] rfl ⟨⟩ ?_
  refine W.ret ?_
  exact Fin.ret rfl ⟨by rw[P0 (by omega)],⟨⟩⟩
 ·try simp only[nb,an,aq,aa]at hb0
  have hlen:a.length=b.length:=by omega
  refine W.skip ?_
  refine W.seq ?_
  refine W.s0 X [1,2,15,16,17] rfl ⟨⟩ ?_
  refine W.block ?_
  refine W.aE (fun k=>k≤a.length∧(a.take k).map DB.rows=(b.take k).map DB.rows) (fun k:Nat=> [(17, .one (.a (.lit (.int .i64 k))))]) (fun k=> []) (fun k=>a.length-k) 0 (fun k=>rfl) ⟨Nat.zero_le _,rfl⟩ rfl ?_
  rintro k ⟨hk,hall⟩
  refine W.s0 X [1,2,15,16,17,18] rfl ⟨⟩ ?_
  refine W.seq ?_
  refine W.cond rfl (fun aB=> ?_) (fun aB=> ?_)
  ·try simp only[nb,an,aq,aa]at aB
   refine W.skip ?_
   refine W.seq ?_
   refine W.block ?_
   refine W.s0 X [1,2,7,8,15,16,17] rfl (by and_intros<;>first|exact⟨⟩| (intros;omega)) ?_
   refine W.s0 X [1,2,8,9,15,16,17] rfl (by and_intros<;>first|exact⟨⟩| (intros;omega)) ?_
   refine W.sr X [] [(29,⟨false,[.a (.lit (.bool ((a.getD k (au .DB)).rows==(b.getD k (au .DB)).rows)))]⟩)] [1,2,15,16,17,30] [] rfl (by(repeat' with_reducible first|exact aj.nil|refine aj.mk ?_ ?_|apply And.intro)<;>first|exact(hf _ _)) ?_
   refine W.cond rfl (fun aM=> ?_) (fun aM=> ?_)
   ·have hne:((a.getD k (au .DB)).rows==(b.getD k (au .DB)).rows)=false:=by simpa using aM
    refine W.s0 X [6] rfl ⟨⟩ ?_
    refine W.ret ?_
    exact Fin.ret rfl ⟨by rw[S4 aB (by omega) hne],⟨⟩⟩
   ·have hee:((a.getD k (au .DB)).rows==(b.getD k (au .DB)).rows)=true:=by simpa using aM
    refine W.skip ?_
    refine W.r0 X [1,2,15,16,17] rfl ⟨⟩ ?_
    refine⟨k+1,⟨by omega,Mv aB (by omega) hall hee⟩,by omega,?_⟩
    rw[aR _ k rfl (by omega)]
    try rfl
  ·try simp only[nb,an,aq,aa]at aB
   refine W.exit ?_
   refine W.s0 X [6] rfl ⟨⟩ ?_
   refine W.ret ?_
   exact Fin.ret rfl ⟨by rw[P1 (by omega) (by omega) hall],⟨⟩⟩
theorem tB(a b:aJ)(l:List Int)(hsa:a.ah.length≤1048576)(hsb:b.ah.length≤1048576):Sound ty Tryz.prog 67 [.agg (aG a), .agg (aG b), .a (.sl .int l)] [.a (.lit (.bool (ssv a b l)))]:=by
 refine Sound.o X Tryz.call67 Tryz.func67 Tryz.ntmps67 rfl rfl ?_
 intro zb
 refine W.bound 2 rfl (fun kZ=> ?_)
 refine W.s0 X [2,3,4] rfl ⟨⟩ ?_
 refine W.seq ?_
 refine W.s0 X [3,4,9,10,11] rfl ⟨⟩ ?_
 refine W.block ?_
 refine W.aE (fun k=>k≤l.length∧(l.take k).all (fun s=>qN (bf a s) (bf b s))=true) (fun k:Nat=> [(11, .one (.a (.lit (.int .i64 k))))]) (fun k=> []) (fun k=>l.length-k) 0 (fun k=>rfl) ⟨Nat.zero_le _,rfl⟩ rfl ?_
 rintro k ⟨hk,hall⟩
 refine W.s0 X [3,4,9,10,11,12] rfl ⟨⟩ ?_
 refine W.seq ?_
 refine W.cond rfl (fun hb0=> ?_) (fun hb0=> ?_)
 ·try simp only[nb,an,aq,aa]at hb0
  refine W.skip ?_
  refine W.seq ?_
  refine W.block ?_
  refine W.s0 X [3,4,8,9,10,11] rfl (by and_intros<;>first|exact⟨⟩| (intros;omega)) ?_
  refine W.sd X [] [(17,⟨true,[.a (.sl .DB (bf a (l.getD k (au .int))))]⟩),(20,⟨true,[.a (.sl .DB (bf b (l.getD k (au .int))))]⟩),(21,⟨false,[.a (.lit (.bool (qN (bf a (l.getD k (au .int))) (bf b (l.getD k (au .int))))))]⟩)] [3,4,9,10,11,22] [] 8 MO (by kernel_rfl) rfl (by(repeat' with_reducible first|exact aj.nil|refine aj.mk ?_ ?_|apply And.intro);(iterate 3 all_goals try first|exact(iU a (l.getD k (au .int)) (by first|assumption|omega| (simp;done)| (simp;omega)))|exact(iU b (l.getD k (au .int)) (by first|assumption|omega| (simp;done)| (simp;omega)))|exact(cS _ _ _ gV))) ?_
  refine W.cond rfl (fun aB=> ?_) (fun aB=> ?_)
  ·have hne:(fun s=>qN (bf a s) (bf b s)) (l.getD k (au .int))=false:=by simpa using aB
   refine W.s0 X [6] rfl ⟨⟩ ?_
   refine W.ret ?_
   exact Fin.ret rfl ⟨by rw[ssv,Ef _ _ (au .int) k hb0 hne],⟨⟩⟩
  ·have hee:(fun s=>qN (bf a s) (bf b s)) (l.getD k (au .int))=true:=by simpa using aB
   refine W.skip ?_
   refine W.r0 X [3,4,9,10,11] rfl ⟨⟩ ?_
   refine⟨k+1,⟨by omega,by rw[qi _ _ _ (au .int) hb0,hall,Bool.true_and];exact hee⟩,by omega,?_⟩
   rw[aR _ k rfl (by omega)]
   try rfl
 ·try simp only[nb,an,aq,aa]at hb0
  refine W.exit ?_
  refine W.s0 X [6] rfl ⟨⟩ ?_
  refine W.ret ?_
  exact Fin.ret rfl ⟨by rw[List.take_of_length_le hb0]at hall;rw[ssv,hall],⟨⟩⟩
theorem Bo(l:List (List UInt8))(hl:l.length≤1048576)(hs0:(l.map List.length).sum≤1099511627776):Sound ty Tryz.prog 190 [.a (.sl (.sl .u8) l)] [.a (.sl .u8 l.flatten)]:=by
 refine Sound.o X Tryz.call190 Tryz.func190 Tryz.ntmps190 rfl rfl ?_
 intro zb
 refine W.s0 X [0] rfl ⟨⟩ ?_
 refine W.sr X [] [(4,⟨true,[.a (.sl .u8 l.flatten)]⟩)] [2] [] rfl (by(repeat' with_reducible first|exact aj.nil|refine aj.mk ?_ ?_|apply And.intro)<;>first|exact(oE l (by first|assumption|omega| (simp;done)| (simp;omega)) (by first|assumption|omega| (simp;done)| (simp;omega)))) ?_
 refine W.ret ?_
 exact Fin.ret rfl ⟨rfl,⟨⟩⟩
theorem tC(x:aJ)(sv:Int)(oK:x.ah.length≤1048576):Sound ty Tryz.prog 73 [.agg (aG x), .a (.lit (.int .i64 sv))] [.a (.lit (.int .i64 ((cvb x sv:Nat):Int)))]:=by
 refine Sound.o X Tryz.call73 Tryz.func73 Tryz.ntmps73 rfl rfl ?_
 intro zb
 refine W.s0 X [1,2] rfl ⟨⟩ ?_
 refine W.s0 X [1,2,5] rfl ⟨⟩ ?_
 refine W.seq ?_
 refine W.sr X [] [(10,⟨true,[.a (.sl .DB (bf x sv))]⟩)] [5,10,11,12] [] rfl (by(repeat' with_reducible first|exact aj.nil|refine aj.mk ?_ ?_|apply And.intro)<;>first|exact(iU x sv (by first|assumption|omega| (simp;done)| (simp;omega)))) ?_
 refine W.block ?_
 refine W.aE (fun k=>k≤(bf x sv).length) (fun k:Nat=> [(5, .one (.a (.lit (.int .i64 (((((bf x sv).take k).map Cf).sum:Nat):Int))))),(12, .one (.a (.lit (.int .i64 k))))]) (fun k=> []) (fun k=>(bf x sv).length-k) 0 (fun k=>rfl) (Nat.zero_le _) rfl ?_
 intro k hk
 have hle:=N7 x sv k
 have hvl:=wL x sv
 refine W.s0 X [5,10,11,12,13] rfl ⟨⟩ ?_
 refine W.seq ?_
 refine W.cond rfl (fun hb0=> ?_) (fun hb0=> ?_)
 ·try simp only[nb,an,aq,aa]at hb0
  have hel:=H6 hb0
  have hrl:=zc hel
  have B4:(((bf x sv).getD k (au .DB)).rows.map List.length).sum≤1536:=HZ hel
  have hs:=S3 Cf (bf x sv) k (au .DB) hb0
  have hfl:=PZ ((bf x sv).getD k (au .DB))
  have JH:=N7 x sv (k+1)
  refine W.skip ?_
  refine W.seq ?_
  refine W.block ?_
  refine W.s0 X [5,7,10,11,12] rfl (by and_intros<;>first|exact⟨⟩| (intros;omega)) ?_
  refine W.cD X [] [(19,⟨true,[.a (.sl .u8 (((bf x sv).getD k (au .DB)).rows).flatten)]⟩)] [5,10,11,12] [] rfl (by(repeat' with_reducible first|exact aj.nil|refine aj.mk ?_ ?_|apply And.intro)<;>first|exact(Bo (((bf x sv).getD k (au .DB)).rows) (by first|assumption|omega| (simp;done)| (simp;omega)) (by first|assumption|omega| (simp;done)| (simp;omega)))) ?_
  refine W.r0 X [5,10,11,12] rfl ⟨⟩ ?_
  refine⟨k+1,by omega,by omega,?_⟩
  rw[aR _ k rfl (by omega),hfl,ZM _ _ (by omega), ←hs]
  try rfl
 ·try simp only[nb,an,aq,aa]at hb0
  refine W.exit ?_
  refine W.s0 X [4] rfl ⟨⟩ ?_
  refine W.ret ?_
  exact Fin.ret rfl ⟨by rw[List.take_of_length_le hb0];rfl,⟨⟩⟩
theorem xR(b:List UInt8):Sound ty Tryz.prog 189 [.a (.sl .u8 b)] [.a (.lit (.bool (!(b.any fun c=>(c.toNat:Int) !=0))))]:=by
 refine Sound.o X Tryz.call189 Tryz.func189 Tryz.ntmps189 rfl rfl ?_
 intro zb
 refine W.bound 0 rfl (fun kZ=> ?_)
 refine W.s0 X [0] rfl ⟨⟩ ?_
 refine W.seq ?_
 refine W.s0 X [0,3] rfl ⟨⟩ ?_
 refine W.block ?_
 refine W.aE (fun k=>k≤b.length∧(b.take k).any (fun c=>(c.toNat:Int) !=0)=false) (fun k:Nat=> [(3, .one (.a (.lit (.int .i64 k))))]) (fun k=> []) (fun k=>b.length-k) 0 (fun k=>rfl) ⟨Nat.zero_le _,rfl⟩ rfl ?_
 rintro k ⟨hk,hall⟩
 refine W.seq ?_
 refine W.s0 X [0,3,7] rfl ⟨⟩ ?_
 refine W.cond rfl (fun hb0=> ?_) (fun hb0=> ?_)
 ·try simp only[nb,an,aq,aa]at hb0
  refine W.skip ?_
  refine W.seq ?_
  refine W.block ?_
  refine W.s0 X [0,3,14] rfl (by and_intros<;>first|exact⟨⟩| (intros;omega)) ?_
  refine W.cond rfl (fun aB=> ?_) (fun aB=> ?_)
  ·skip
   refine W.s0 X [2] rfl ⟨⟩ ?_
   refine W.ret ?_
   exact Fin.ret rfl ⟨by rw[yR b _ (au .u8) k hb0 aB];rfl,⟨⟩⟩
  ·skip
   refine W.skip ?_
   refine W.r0 X [0,3] rfl ⟨⟩ ?_
   refine⟨k+1,⟨by omega,uk (au .u8) hb0 hall aB⟩,by omega,?_⟩
   rw[aR _ k rfl (by omega)]
   try rfl
 ·try simp only[nb,an,aq,aa]at hb0
  refine W.exit ?_
  refine W.s0 X [2] rfl ⟨⟩ ?_
  refine W.ret ?_
  exact Fin.ret rfl ⟨by rw[List.take_of_length_le hb0]at hall;rw[hall];rfl,⟨⟩⟩
theorem ru(d:DB):Sound ty Tryz.prog 72 [.agg (aF d)] [.a (.lit (.int .i64 ((Fe d.rows:Nat):Int)))]:=by
 refine Sound.o X Tryz.call72 Tryz.func72 Tryz.ntmps72 rfl rfl ?_
 intro zb
 refine W.b7 0 0 rfl rfl (fun kZ=> ?_)
 refine W.s0 X [1] rfl ⟨⟩ ?_
 refine W.s0 X [1,3] rfl ⟨⟩ ?_
 refine W.seq ?_
 refine W.s0 X [1,3,4] rfl ⟨⟩ ?_
 refine W.block ?_
 refine W.aE (fun k=>k≤d.rows.length) (fun k:Nat=> [(3, .one (.a (.lit (.int .i64 ((Fe (d.rows.take k):Nat):Int))))),(4, .one (.a (.lit (.int .i64 k))))]) (fun k=> []) (fun k=>d.rows.length-k) 0 (fun k=>rfl) (Nat.zero_le _) rfl ?_
 intro k hk
 have Ar:=Xy (d.rows.take k)
 have htl:(d.rows.take k).length≤k:=List.length_take_le _ _
 refine W.seq ?_
 refine W.s0 X [1,3,4,9] rfl ⟨⟩ ?_
 refine W.cond rfl (fun hb0=> ?_) (fun hb0=> ?_)
 ·try simp only[nb,an,aq,aa]at hb0
  have hs:=Qx d.rows k hb0
  refine W.skip ?_
  refine W.seq ?_
  refine W.block ?_
  refine W.sr X [] [(17,⟨false,[.a (.lit (.bool (!((d.rows.getD k (au (.sl .u8))).any fun c=>(c.toNat:Int) !=0))))]⟩)] [1,3,4,18] [] rfl (by(repeat' with_reducible first|exact aj.nil|refine aj.mk ?_ ?_|apply And.intro)<;>first|exact(xR (d.rows.getD k (au (.sl .u8))))| (intros;omega)) ?_
  refine W.cond rfl (fun aB=> ?_) (fun aB=> ?_)
  ·rw[if_pos (by simpa using aB)]at hs
   refine W.r0 X [1,3,4] rfl ⟨⟩ ?_
   refine W.r0 X [1,3,4] rfl ⟨⟩ ?_
   refine⟨k+1,by omega,by omega,?_⟩
   rw[aR _ k rfl (by omega),aR _ (Fe (d.rows.take k)) rfl (by omega),hs]
   try rfl
  ·rw[if_neg (by simpa using aB),Nat.add_zero]at hs
   refine W.skip ?_
   refine W.r0 X [1,3,4] rfl ⟨⟩ ?_
   refine⟨k+1,by omega,by omega,?_⟩
   rw[aR _ k rfl (by omega),hs]
   try rfl
 ·try simp only[nb,an,aq,aa]at hb0
  refine W.exit ?_
  refine W.s0 X [2] rfl ⟨⟩ ?_
  refine W.ret ?_
  exact Fin.ret rfl ⟨by rw[List.take_of_length_le hb0],⟨⟩⟩
theorem Ct(x0:List UInt8)(UC:(fun l=> ∀x,x∈l→(fun _=>True) x) x0):Sound ty Tryz.prog 9 [.a (.sl .u8 x0)] [.a (.lit (.bool true))]:=by
 refine Sound.o X Tryz.call9 Tryz.func9 Tryz.ntmps9 rfl rfl ?_
 intro zb
 refine W.s0 X [0] rfl ⟨⟩ ?_
 refine W.seq ?_
 refine W.sr X [] [(18,⟨false,[.a (.lit (.bool (decide ((1048576:Int)<(x0.length:Int)))))]⟩)] [0,18] [] rfl (by(repeat' with_reducible first|exact aj.nil|refine aj.mk ?_ ?_|apply And.intro)<;>first|exact(O0 x0)) ?_
 refine W.cond rfl (fun hb0=> ?_) (fun hb0=> ?_)
 ·try simp only[nb,an,aq,aa]at hb0
  refine W.s0 X [2] rfl ⟨⟩ ?_
  refine W.ret ?_
  exact Fin.ret rfl ⟨rfl,⟨⟩⟩
 ·try simp only[nb,an,aq,aa]at hb0
  have hl:x0.length≤1048576:=by omega
  have hd:=OQ hl
  have hok:=hd.ok
  have Ly:=hd.B (by decide)
  have w:=yd.of hok
  have w1:=w.rows
  have w2:=w.KL
  have w3:=w.Qh
  have w4:=w.round
  have w5:=w.oA
  have w6:=hd.round
  have w7:=hd.oA
  have hwn:IntKind.i64.wrap (((aT x0).ah.length:Int)-1)=((aT x0).ah.length:Int)-1:=bl (by omega)
  have a0:=BT x0 (i:=0) hl (by decide)
  have b0:=uY (n:=((aT x0).af.length:Int)) a0.1 (by omega)
  have a2:=BT x0 (i:=2) hl (by decide)
  have b2:=uY (n:=((aT x0).ah.length:Int)) a2.1 (by omega)
  have a3:=BT x0 (i:=3) hl (by decide)
  have b3:=uY (n:=(aT x0).rows) a3.1 (by omega)
  have hss:=aaG (c:=((bO x0 0).tmod ((aT x0).af.length:Int))) (b:= [b8 (bO x0 1)]) hok
  have hxs:(CY (aT x0) ((bO x0 0).tmod ((aT x0).af.length:Int)) [b8 (bO x0 1)]).ah.length≤1048576:=by rw[(Yt _ _ _).2.2.1];omega
  have hcv:(cover (bO x0 4)).length=24:=eI _ _
  have hxo:kY (aT x0) ((bO x0 2).tmod ((aT x0).ah.length:Int)) ((bO x0 0).tmod ((aT x0).af.length:Int)) ((bO x0 3).tmod (aT x0).rows) (cover (bO x0 4))=true:=acS hok b2 b0 b3 hcv
  obtain⟨g1,g2,g3,g4,g5⟩:=Xx hxo
  have hun:=(Xt hxo).2
  obtain⟨u1,u2⟩:=UW hun
  have u3:((Fe (Ah (aT x0).rows ((bO x0 3).tmod (aT x0).rows) (cover (bO x0 4))).rows:Nat):Int)≤1:=by omega
  have u4:((Ah (aT x0).rows ((bO x0 3).tmod (aT x0).rows) (cover (bO x0 4))).rows.getD ((bO x0 3).tmod (aT x0).rows).toNat (au (.sl .u8))).length≤1048576:=by rw[u1,hcv];decide
  have u5:=zQ hun
  have v1:=K6 hok b2
  have v2:=Xz hok b2 b0
  have v3:=M1 hok b2
  refine W.skip ?_
  refine W.sr X [(20,20)] [(20,⟨true,[.agg (aG (aT x0))]⟩)] [0,3] [] rfl (by(repeat' with_reducible first|exact aj.nil|refine aj.mk ?_ ?_|apply And.intro)<;>first|exact(iW x0 hl)) ?_
  refine W.sd X [] [(22,⟨false,[.a (.lit (.int .i64 (bO x0 0)))]⟩)] [0,3,4] [] 7 MO (by kernel_rfl) rfl (by(repeat' with_reducible first|exact aj.nil|refine aj.mk ?_ ?_|apply And.intro)<;>first|exact(xP x0 0 (by decide))| (intros;omega)) ?_
  refine W.seq ?_
  refine W.fZ X [] [(31,⟨false,[.a (.lit (.int .i64 (bO x0 1)))]⟩),(34,⟨false,[.agg (aG (CY (aT x0) ((bO x0 0).tmod ((aT x0).af.length:Int)) [b8 (bO x0 1)])), .a (.lit (.bool (KA (aT x0) ((bO x0 0).tmod ((aT x0).af.length:Int)) [b8 (bO x0 1)])))]⟩)] [0,3,4,5] [] 6143 (.ph 2047 (.br 2047 11 (.last 4096) (.br 1535 11 (.last 4608) (.nil)))) 1 MO (by kernel_rfl) rfl (by kernel_rfl) (by(repeat' with_reducible first|exact aj.nil|refine aj.mk ?_ ?_|apply And.intro);(iterate 2 all_goals try first|exact(xP x0 1 (by decide))|exact(iK (aT x0) ((bO x0 0).tmod ((aT x0).af.length:Int)) [b8 (bO x0 1)] Ly (by show 1≤1048576;omega)));all_goals first|exact⟨rfl,bA _ (by decide)⟩|exact(pR _).1|exact(pR _).2) ?_
  refine W.s0 X [0,3,4,5,7] rfl (by and_intros<;>first|exact⟨⟩|exact rfl) ?_
  refine W.seq ?_
  refine W.s0 X [0,3,4,5,7,8] rfl ⟨⟩ ?_
  refine W.block ?_
  refine W.aE (fun k=>k≤((aT x0).ah.length-1)) (fun k:Nat=> [(8, .one (.a (.lit (.int .i64 k))))]) (fun k=> [(37, .arr .int (K7 k))]) (fun k=>((aT x0).ah.length-1)-k) 0 (fun k=>rfl) (Nat.zero_le _) rfl ?_
  intro k hk
  have rN:=UX k
  refine W.seq ?_
  refine W.s0 X [0,3,4,5,7,8,43] rfl ⟨⟩ ?_
  refine W.cond rfl (fun aB=> ?_) (fun aB=> ?_)
  ·try simp only[nb,an,aq,aa]at aB
   rw[hwn]at aB
   have hs:=Qy k
   refine W.skip ?_
   refine W.seq ?_
   refine W.block ?_
   refine W.cD X [(49,37)] [] [0,3,4,5,7,8] [] rfl (by and_intros<;>first|exact⟨⟩|exact rfl| (simp only[cT,maxLen,lens];omega)) ?_
   refine W.r0 X [0,3,4,5,7,8] rfl ⟨⟩ ?_
   refine⟨k+1,by omega,by omega,?_⟩
   rw[aR _ k rfl (by omega),hs]
   try rfl
  ·try simp only[nb,an,aq,aa]at aB
   rw[hwn]at aB
   have hke:k=(aT x0).ah.length-1:=by omega
   refine W.exit ?_
   refine W.seq ?_
   refine W.seq ?_
   rw[hke]
   refine W.cD X [] [(53,⟨false,[.a (.lit (.bool (ssv (aT x0) (CY (aT x0) ((bO x0 0).tmod ((aT x0).af.length:Int)) [b8 (bO x0 1)]) (K7 ((aT x0).ah.length-1)))))]⟩)] [0,3,4,54] [] rfl (by(repeat' with_reducible first|exact aj.nil|refine aj.mk ?_ ?_|apply And.intro)<;>first|exact(tB (aT x0) (CY (aT x0) ((bO x0 0).tmod ((aT x0).af.length:Int)) [b8 (bO x0 1)]) (K7 ((aT x0).ah.length-1)) (by omega) hxs)) ?_
   refine W.cond rfl (fun aM=> ?_) (fun aM=> ?_)
   ·try simp only[nb,an,aq,aa]at aM
    exfalso
    rw[hss]at aM
    simp at aM
   ·try simp only[nb,an,aq,aa]at aM
    skip
    refine W.skip ?_
    refine W.sd X [] [(56,⟨false,[.a (.lit (.int .i64 (bO x0 2)))]⟩)] [0,3,4,9] [] 7 MO (by kernel_rfl) rfl (by(repeat' with_reducible first|exact aj.nil|refine aj.mk ?_ ?_|apply And.intro)<;>first|exact(xP x0 2 (by decide))| (intros;omega)) ?_
    refine W.sd X [] [(62,⟨false,[.a (.lit (.int .i64 (bO x0 3)))]⟩)] [0,3,4,9,10] [] 6 MO (by kernel_rfl) rfl (by(repeat' with_reducible first|exact aj.nil|refine aj.mk ?_ ?_|apply And.intro)<;>first|exact(xP x0 3 (by decide))| (intros;omega)) ?_
    refine W.sr X [] [(67,⟨false,[.a (.lit (.int .i64 (bO x0 4)))]⟩),(68,⟨false,[.a (.sl .u8 (cover (bO x0 4)))]⟩)] [3,4,9,10,11] [] rfl (by(repeat' with_reducible first|exact aj.nil|refine aj.mk ?_ ?_|apply And.intro);(iterate 2 all_goals try first|exact(xP x0 4 (by decide))|exact(qt (bO x0 4)))) ?_
    refine W.sr X [] [(75,⟨false,[.a (.sl .DB (uZ (aT x0) ((bO x0 2).tmod ((aT x0).ah.length:Int)) ((bO x0 0).tmod ((aT x0).af.length:Int)) ((bO x0 3).tmod (aT x0).rows) (cover (bO x0 4)))), .a (.lit (.bool (kY (aT x0) ((bO x0 2).tmod ((aT x0).ah.length:Int)) ((bO x0 0).tmod ((aT x0).af.length:Int)) ((bO x0 3).tmod (aT x0).rows) (cover (bO x0 4)))))]⟩)] [3,4,9,10,11,12,13] [] rfl (by(repeat' with_reducible first|exact aj.nil|refine aj.mk ?_ ?_|apply And.intro)<;>first|exact(gy (aT x0) ((bO x0 2).tmod ((aT x0).ah.length:Int)) ((bO x0 0).tmod ((aT x0).af.length:Int)) ((bO x0 3).tmod (aT x0).rows) (cover (bO x0 4)) (by omega) (by omega))) ?_
    refine W.sr X [] [(80,⟨false,[.a (.sl .DB (bf (aT x0) ((bO x0 2).tmod ((aT x0).ah.length:Int))))]⟩)] [3,4,9,10,11,12,13,14] [] rfl (by(repeat' with_reducible first|exact aj.nil|refine aj.mk ?_ ?_|apply And.intro)<;>first|exact(iU (aT x0) ((bO x0 2).tmod ((aT x0).ah.length:Int)) (by first|assumption|omega| (simp;done)| (simp;omega)))) ?_
    refine W.sr X [] [(83,⟨false,[.agg (aF (jw (uZ (aT x0) ((bO x0 2).tmod ((aT x0).ah.length:Int)) ((bO x0 0).tmod ((aT x0).af.length:Int)) ((bO x0 3).tmod (aT x0).rows) (cover (bO x0 4))))), .a (.lit (.bool (zy (uZ (aT x0) ((bO x0 2).tmod ((aT x0).ah.length:Int)) ((bO x0 0).tmod ((aT x0).af.length:Int)) ((bO x0 3).tmod (aT x0).rows) (cover (bO x0 4))))))]⟩)] [3,4,9,10,11,12,13,14,15,16] [] rfl (by(repeat' with_reducible first|exact aj.nil|refine aj.mk ?_ ?_|apply And.intro)<;>first|exact(pH (uZ (aT x0) ((bO x0 2).tmod ((aT x0).ah.length:Int)) ((bO x0 0).tmod ((aT x0).af.length:Int)) ((bO x0 3).tmod (aT x0).rows) (cover (bO x0 4))) (by omega) g5)) ?_
    rw[g3]
    refine W.seq ?_
    refine W.s0 X [3,4,9,10,11,12,14,15,107] rfl ⟨⟩ ?_
    refine W.cond rfl (fun gB=> ?_) (fun gB=> ?_)
    ·try simp only[nb,an,aq,aa]at gB
     exfalso
     simp[-List.getD_eq_getElem?_getD,hxo,g1,g2,v1]at gB
    ·try simp only[nb,an,aq,aa]at gB
     skip
     refine W.skip ?_
     refine W.sd X [] [(116,⟨false,[.a (.lit (.bool (((uZ (aT x0) ((bO x0 2).tmod ((aT x0).ah.length:Int)) ((bO x0 0).tmod ((aT x0).af.length:Int)) ((bO x0 3).tmod (aT x0).rows) (cover (bO x0 4))).getD ((bO x0 2).tmod ((aT x0).ah.length:Int)).toNat (au .DB)).rows==((bf (aT x0) ((bO x0 2).tmod ((aT x0).ah.length:Int))).getD ((bO x0 0).tmod ((aT x0).af.length:Int)).toNat (au .DB)).rows)))]⟩),(124,⟨false,[.a (.lit (.bool (((Ah (aT x0).rows ((bO x0 3).tmod (aT x0).rows) (cover (bO x0 4))).rows.getD ((bO x0 3).tmod (aT x0).rows).toNat (au (.sl .u8)))==(cover (bO x0 4)))))]⟩),(128,⟨false,[.a (.lit (.int .i64 ((Fe (Ah (aT x0).rows ((bO x0 3).tmod (aT x0).rows) (cover (bO x0 4))).rows:Nat):Int)))]⟩),(134,⟨false,[.a (.lit (.int .i64 ((cvb (aT x0) ((bO x0 2).tmod ((aT x0).ah.length:Int)):Nat):Int)))]⟩)] [2] [] 37 MO (by kernel_rfl) rfl (by(repeat' with_reducible first|exact aj.nil|refine aj.mk ?_ ?_|apply And.intro);(iterate 4 all_goals try first|exact(gU ((uZ (aT x0) ((bO x0 2).tmod ((aT x0).ah.length:Int)) ((bO x0 0).tmod ((aT x0).af.length:Int)) ((bO x0 3).tmod (aT x0).rows) (cover (bO x0 4))).getD ((bO x0 2).tmod ((aT x0).ah.length:Int)).toNat (au .DB)) ((bf (aT x0) ((bO x0 2).tmod ((aT x0).ah.length:Int))).getD ((bO x0 0).tmod ((aT x0).af.length:Int)).toNat (au .DB)))|exact fun _=>(BU ((Ah (aT x0).rows ((bO x0 3).tmod (aT x0).rows) (cover (bO x0 4))).rows.getD ((bO x0 3).tmod (aT x0).rows).toNat (au (.sl .u8))) (cover (bO x0 4)) u4)|exact fun _=>(ru (Ah (aT x0).rows ((bO x0 3).tmod (aT x0).rows) (cover (bO x0 4))))|exact fun _=>(tC (aT x0) ((bO x0 2).tmod ((aT x0).ah.length:Int)) (by first|assumption|omega| (simp;done)| (simp;omega))));all_goals first| (intros;omega)| ((intro h1;first| (intro h2;first| (intro h3;refine And.intro ?_ ?_)|refine And.intro ?_ ?_)|refine And.intro ?_ ?_)<;>first|omega| ((try simp only[nb,an,aq]at*);(try simp(disch:=omega) only[bl]);omega))) ?_
     refine W.ret ?_
     exact Fin.ret rfl ⟨by simp[-List.getD_eq_getElem?_getD,g4,v2,v3,u1,u3],⟨⟩⟩
end
end Go.Proofs.YteodajeiagmekaaGreat.G
