/-
  FnPhases, FnReads: the laws, walked by the symbolic machine: they return true. No condition.
-/
import Derived.Test.YteodajeiagmekaaGreatM57
import Derived.Test.YteodajeiagmekaaGreatM62
import Derived.Test.YteodajeiagmekaaGreatM64
namespace Go.Proofs.YteodajeiagmekaaGreat.G
set_option linter.all false
open Go.RowKit L D
section
set_option maxRecDepth 100000
theorem Qr(x0:List UInt8)(UC:(fun l=> ∀x,x∈l→(fun _=>True) x) x0):Sound ty Tryz.prog 4 [.a (.sl .u8 x0)] [.a (.lit (.bool true))]:=by
 refine Sound.o X Tryz.call4 Tryz.func4 Tryz.ntmps4 rfl rfl ?_
 intro zb
 refine W.s0 X [0] rfl ⟨⟩ ?_
 refine W.seq ?_
 refine W.sr X [] [(15,⟨false,[.a (.lit (.bool (decide ((1048576:Int)<(x0.length:Int)))))]⟩)] [0,15] [] rfl (by(repeat' with_reducible first|exact aj.nil|refine aj.mk ?_ ?_|apply And.intro)<;>first|exact(O0 x0)) ?_
 refine W.cond rfl (fun hb0=> ?_) (fun hb0=> ?_)
 ·try simp only[nb,an,aq,aa]at hb0
  refine W.s0 X [2] rfl ⟨⟩ ?_
  refine W.ret ?_
  exact Fin.ret rfl ⟨rfl,⟨⟩⟩
 ·try simp only[nb,an,aq,aa]at hb0
  have hl:x0.length≤1048576:=by omega
  have hd:=OQ hl
  have hok:=hd.ok
  have Ly:=hd.B (by decide)
  have w:=yd.of hok
  have w1:=w.rows
  have w2:=w.KL
  have w3:=w.Qh
  have w4:=w.round
  have w5:=w.oA
  have w6:=hd.round
  have w7:=hd.oA
  have hot:=uV hok
  have hts:=(cN hot).1
  have hdt:sy (testW (aT x0)) 16:=hd.test
  have hwt:=hdt.B (by decide)
  obtain⟨f1,f2,f3,f4,f5,f6⟩:=vO (aT x0)
  refine W.skip ?_
  refine W.sr X [(17,20)] [(17,⟨true,[.agg (aG (aT x0))]⟩)] [0,3] [] rfl (by(repeat' with_reducible first|exact aj.nil|refine aj.mk ?_ ?_|apply And.intro)<;>first|exact(iW x0 hl)) ?_
  refine W.sr X [(19,40)] [(19,⟨true,[.agg (aG (testW (aT x0)))]⟩)] [0,3,4] [] rfl (by(repeat' with_reducible first|exact aj.nil|refine aj.mk ?_ ?_|apply And.intro)<;>first|exact(xI (aT x0) Ly)) ?_
  refine W.seq ?_
  refine W.sr X [] [(21,⟨false,[.a (.lit (.bool (okW (testW (aT x0)))))]⟩)] [0,3,4,22] [] rfl (by(repeat' with_reducible first|exact aj.nil|refine aj.mk ?_ ?_|apply And.intro)<;>first|exact(bw (testW (aT x0)))) ?_
  refine W.cond rfl (fun aB=> ?_) (fun aB=> ?_)
  ·try simp only[nb,an,aq,aa]at aB
   rw[hot]at aB
   simp at aB
  ·try simp only[nb,an,aq,aa]at aB
   skip
   refine W.skip ?_
   refine W.seq ?_
   refine W.s0 X [0,3,4,27] rfl ⟨⟩ ?_
   refine W.cond rfl (fun aM=> ?_) (fun aM=> ?_)
   ·try simp only[nb,an,aq,aa]at aM
    have ht0:(testW (aT x0))=(aT x0):=aar hok (by first|omega|simpa using aM)
    refine W.seq ?_
    rw[ht0]
    refine W.cD X [] [(30,⟨false,[.a (.lit (.bool true))]⟩)] [2] [] rfl (by(repeat' with_reducible first|exact aj.nil|refine aj.mk ?_ ?_|apply And.intro)<;>first|exact(xO (aT x0) Ly)) ?_
    refine W.ret ?_
    exact Fin.ret rfl ⟨rfl,⟨⟩⟩
   ·try simp only[nb,an,aq,aa]at aM
    have ha:0<(aT x0).ak.rounds.length:=by omega
    refine W.skip ?_
    refine W.seq ?_
    refine W.s0 X [0,3,4,5] rfl ⟨⟩ ?_
    refine W.block ?_
    refine W.aE (fun k=>k≤(testW (aT x0)).ah.length) (fun k:Nat=> [(5, .one (.a (.lit (.int .i64 k))))]) (fun k=> []) (fun k=>(testW (aT x0)).ah.length-k) 0 (fun k=>rfl) (Nat.zero_le _) rfl ?_
    intro k hk
    refine W.seq ?_
    refine W.s0 X [0,3,4,5,35] rfl ⟨⟩ ?_
    refine W.cond rfl (fun gB=> ?_) (fun gB=> ?_)
    ·try simp only[nb,an,aq,aa]at gB
     have QA:=KR hok ha k gB
     refine W.skip ?_
     refine W.seq ?_
     refine W.block ?_
     refine W.s0 X [0,3,4,5,44] rfl (by and_intros<;>first|exact⟨⟩| (intros;omega)) ?_
     refine W.cond rfl (fun rz=> ?_) (fun rz=> ?_)
     ·try simp only[nb,an,aq,aa]at rz
      exact(QA rz).elim
     ·try simp only[nb,an,aq,aa]at rz
      skip
      refine W.skip ?_
      refine W.r0 X [0,3,4,5] rfl ⟨⟩ ?_
      refine⟨k+1,by omega,by omega,?_⟩
      rw[aR _ k rfl (by omega)]
      try rfl
    ·try simp only[nb,an,aq,aa]at gB
     refine W.exit ?_
     refine W.seq ?_
     have a0:=BT x0 (i:=0) hl (by decide)
     have a1:=BT x0 (i:=1) hl (by decide)
     have b0:=uY (n:=((aT x0).ak.rounds.length:Int)) a0.1 (by omega)
     have b1:=uY (n:=(aT x0).rows) a1.1 (by omega)
     refine W.draw X [] [(49,⟨false,[.a (.lit (.int .i64 (bO x0 0)))]⟩)] [0,3,4,6] [] 14 MO (by kernel_rfl) rfl (by(repeat' with_reducible first|exact aj.nil|refine aj.mk ?_ ?_|apply And.intro)<;>first|exact(xP x0 0 (by decide))| (intros;omega)) ?_
     refine W.sd X [] [(59,⟨false,[.a (.lit (.int .i64 (bO x0 1)))]⟩)] [0,3,4,6,7] [] 6 MO (by kernel_rfl) rfl (by(repeat' with_reducible first|exact aj.nil|refine aj.mk ?_ ?_|apply And.intro)<;>first|exact(xP x0 1 (by decide))| (intros;omega)) ?_
     refine W.sr X [] [(67,⟨false,[.agg (aF (dn ((aT x0).ak).rounds (((aT x0).ak.rounds.getD ((bO x0 0).tmod ((aT x0).ak.rounds.length:Int)).toNat (au .ay)).round))), .a (.lit (.bool (gw ((aT x0).ak).rounds (((aT x0).ak.rounds.getD ((bO x0 0).tmod ((aT x0).ak.rounds.length:Int)).toNat (au .ay)).round))))]⟩)] [0,3,4,6,7,8] [] rfl (by(repeat' with_reducible first|exact aj.nil|refine aj.mk ?_ ?_|apply And.intro)<;>first|exact(gx ((aT x0).ak) (((aT x0).ak.rounds.getD ((bO x0 0).tmod ((aT x0).ak.rounds.length:Int)).toNat (au .ay)).round) (TZ Ly))) ?_
     refine W.seq ?_
     obtain⟨r1,r2⟩:=Xh (s:=(bO x0 2)) hok (i:=((bO x0 0).tmod ((aT x0).ak.rounds.length:Int)).toNat) (by omega) b1
     have r3:=aap hok (i:=((bO x0 0).tmod ((aT x0).ak.rounds.length:Int)).toNat) (by omega)
     refine W.draw X [] [(75,⟨false,[.a (.lit (.int .i64 (bO x0 2)))]⟩),(76,⟨false,[.a (.sl .u8 (xC (testW (aT x0)) (((aT x0).ak.rounds.getD ((bO x0 0).tmod ((aT x0).ak.rounds.length:Int)).toNat (au .ay)).round) ((bO x0 1).tmod (aT x0).rows) (bO x0 2))), .a (.lit (.bool (pz (testW (aT x0)) (((aT x0).ak.rounds.getD ((bO x0 0).tmod ((aT x0).ak.rounds.length:Int)).toNat (au .ay)).round) ((bO x0 1).tmod (aT x0).rows) (bO x0 2))))]⟩)] [3,4,7,8,10,11] [] 11 MO (by kernel_rfl) rfl (by(repeat' with_reducible first|exact aj.nil|refine aj.mk ?_ ?_|apply And.intro);(iterate 2 all_goals try first|exact(xP x0 2 (by decide))|exact(jQ (testW (aT x0)) (((aT x0).ak.rounds.getD ((bO x0 0).tmod ((aT x0).ak.rounds.length:Int)).toNat (au .ay)).round) ((bO x0 1).tmod (aT x0).rows) (bO x0 2) hot))) ?_
     refine W.sr X [(80,60)] [(80,⟨true,[.agg (aG (wN (testW (aT x0))))]⟩)] [3,7,8,10,11,12] [] rfl (by(repeat' with_reducible first|exact aj.nil|refine aj.mk ?_ ?_|apply And.intro)<;>first|exact(Bd (testW (aT x0)) hwt)) ?_
     refine W.seq ?_
     refine W.s0 X [3,7,8,10,11,12,13] rfl ⟨⟩ ?_
     refine W.block ?_
     refine W.aE (fun k1=>k1≤(wN (testW (aT x0))).af.length) (fun k1:Nat=> [(13, .one (.a (.lit (.int .i64 k1))))]) (fun k1=> []) (fun k1=>(wN (testW (aT x0))).af.length-k1) 0 (fun k1=>rfl) (Nat.zero_le _) rfl ?_
     intro k1 hk1
     have Fw:=aaq hok
     refine W.seq ?_
     refine W.s0 X [3,7,8,10,11,12,13,85] rfl ⟨⟩ ?_
     refine W.cond rfl (fun E7=> ?_) (fun E7=> ?_)
     ·try simp only[nb,an,aq,aa]at E7
      have hnx:=Xi hok (i:=k1) (by omega)
      refine W.skip ?_
      refine W.seq ?_
      refine W.block ?_
      refine W.sd X [] [(97,⟨false,[.a (.lit (.int .i64 (bR ((aT x0).ak))))]⟩)] [3,7,8,10,11,12,13,98] [] 11 MO (by kernel_rfl) rfl (by(repeat' with_reducible first|exact aj.nil|refine aj.mk ?_ ?_|apply And.intro)<;>first|exact(gj ((aT x0).ak))| (intros;omega)) ?_
      refine W.cond rfl (fun C5=> ?_) (fun C5=> ?_)
      ·try simp only[nb,an,aq,aa]at C5
       omega
      ·try simp only[nb,an,aq,aa]at C5
       skip
       refine W.skip ?_
       refine W.r0 X [3,7,8,10,11,12,13] rfl ⟨⟩ ?_
       refine⟨k1+1,by omega,by omega,?_⟩
       rw[aR _ k1 rfl (by omega)]
       try rfl
     ·try simp only[nb,an,aq,aa]at E7
      refine W.exit ?_
      refine W.seq ?_
      have hrd:=T8 hot
      have r4:(xC (testW (aT x0)) ((aT x0).ak.rounds.getD ((bO x0 0).tmod ((aT x0).ak.rounds.length:Int)).toNat (au .ay)).round ((bO x0 1).tmod (aT x0).rows) (bO x0 2)).length≤1048576:=by rw[r2];exact Xj hok (i:=((bO x0 0).tmod ((aT x0).ak.rounds.length:Int)).toNat) (by omega) (by omega)
      refine W.cD X [] [(107,⟨false,[.a (.lit (.bool ((xC (testW (aT x0)) ((aT x0).ak.rounds.getD ((bO x0 0).tmod ((aT x0).ak.rounds.length:Int)).toNat (au .ay)).round ((bO x0 1).tmod (aT x0).rows) (bO x0 2))==((dn (aT x0).ak.rounds ((aT x0).ak.rounds.getD ((bO x0 0).tmod ((aT x0).ak.rounds.length:Int)).toNat (au .ay)).round).rows.getD ((bO x0 1).tmod (aT x0).rows).toNat (au (.sl .u8))))))]⟩),(111,⟨false,[.a (.lit (.bool (okW (wN (testW (aT x0))))))]⟩)] [2] [] rfl (by(repeat' with_reducible first|exact aj.nil|refine aj.mk ?_ ?_|apply And.intro);(iterate 2 all_goals try first|exact fun _=>(BU (xC (testW (aT x0)) ((aT x0).ak.rounds.getD ((bO x0 0).tmod ((aT x0).ak.rounds.length:Int)).toNat (au .ay)).round ((bO x0 1).tmod (aT x0).rows) (bO x0 2)) ((dn (aT x0).ak.rounds ((aT x0).ak.rounds.getD ((bO x0 0).tmod ((aT x0).ak.rounds.length:Int)).toNat (au .ay)).round).rows.getD ((bO x0 1).tmod (aT x0).rows).toNat (au (.sl .u8))) r4)|exact fun _=>(bw (wN (testW (aT x0)))));all_goals first| ((intro h1;first| (intro h2;first| (intro h3;refine And.intro ?_ ?_)|refine And.intro ?_ ?_)|refine And.intro ?_ ?_)<;>first|omega| ((try simp only[nb,an,aq]at*);(try simp(disch:=omega) only[bl]);omega))) ?_
      refine W.ret ?_
      exact Fin.ret rfl ⟨by simp[-List.getD_eq_getElem?_getD,r1,r2,hrd],⟨⟩⟩
end
end Go.Proofs.YteodajeiagmekaaGreat.G
