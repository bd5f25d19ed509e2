/- Steps. -/
import Derived.Test.YtaalpcnbbldlaaaGreatDoorR11
import Derived.Test.YtaalpcnbbldlaaaGreatDoorR13
open And renaming intro→cL
open BitVec renaming ofInt→aF
open Bool renaming and_eq_true→an
open Go.IntKind renaming i64→af
open Go.Proofs.Tryz renaming prog→aP
open Go.Value renaming bool→eF
open Int renaming toNat→cX
open List renaming append_assoc→bU,drop→Af,length→aN,length_append→aQ,length_cons→bp,length_drop→cV,length_eq_zero_iff→iE,length_map→bt,take_of_length_le→aD
open Nat renaming le_refl→aS,mul_le_mul→uL,not_lt_zero→jE,zero_le→aY
namespace Go.Proofs.YtaalpcnbbldlaaaGreatDoor.G
set_option linter.all false
open Go.RowKit L D Tryz
section
set_option maxRecDepth 100000
theorem pY(m s:Int):So 145 [aI m,aI s] [aI (oo m s)]:=by
 refine aZ call145 func145 ntmps145 ?_;intro zb;refine O [0,1] J (bq [(8,⟨false,[aI (kh m [173,s])]⟩),(9,⟨false,[aI (GS (kh m [173,s]))]⟩)] [4] J (axC (dL m [173,s] fj) (wK (kh m [173,s]))) ?_);exact au (aj J ⟨J,⟨⟩⟩)
theorem Cp(d:DB)(hs0:gb aN d.rows≤1048576):So 372 [.agg (bT d)] [aI (VK d)]:=by
 refine aZ call372 func372 ntmps372 ?_;intro zb;have pK:d.rows.length≤1048576:=fT hs0;refine O [1] J (aL [1,3] J qb (aR [3,11,12,13] J ?_));refine cm d.rows.length (fun k:Nat=> [(13, .one ((aI k)))]) (fun k=> [(9, .arr .int ((d.rows.length:Int)::(d.rows.take k).flatMap RM))]) (fun k=>rfl) rfl ?_;intro k hk;have hdl:=amj d.rows k;refine O [3,11,12,13,14] J ?_;refine eg J ?_ ?_<;>intro hb0
 ·have hs:=aeZ d.rows k hb0;have hel:(d.rows.getD k (aO (.sl .u8))).length≤1048576:=pO (f:=aN) hs0 (getD_some d.rows _ k hb0);have Ng:=Bn (d.rows.getD k (aO (.sl .u8)));refine av (aA (aK (aL [3,5,11,12,13] J je (dX [(20,9)] [(19,⟨true,[.a (.sl .int (RM (d.rows.getD k (aO (.sl .u8)))))]⟩)] [3,11,12,13] [] J (aBb (xF (d.rows.getD k (aO (.sl .u8))) fj)) (bI [3,11,12,13] J ?_)))));exact gZ
 ·refine bf (aA ?_);have t1:=(Dv ((d.rows.length:Int)::(d.rows.take k).flatMap RM) (by simp only[bp];omega));exact bY [(23,⟨false,cA t1⟩)] [2] J qM (au (aj J ⟨by rw[aD hb0];rfl,⟨⟩⟩))
theorem xS(c r:Int)(d:DB)(hs0:gb aN d.rows≤1048576):So 321 [aI c,aI r, .agg (bT d)] [aI (Qj c r d)]:=by
 refine aZ call321 func321 ntmps321 ?_;intro zb;refine O [0,1,5] J (bq [(10,⟨false,[aI (VK d)]⟩),(12,⟨false,[aI (hsh [179,c,r,VK d])]⟩)] [6] J (axC (Cp d fj) (Dv [179,c,r,VK d] fj)) ?_);exact au (aj J ⟨J,⟨⟩⟩)
theorem yP(key:Int)(r:kj):So 322 [aI key, .agg (sD r)] [aI (aih key r.server r.client r.round r.xl)]:=by
 refine aZ call322 func322 ntmps322 ?_;intro zb;refine O [0,3] J (aA ?_);have t1:=(dL key [181,r.server,r.client,r.round,r.xl] fj);refine bY [(15,⟨false,cA t1⟩)] [4] J aCd ?_;exact au (aj J ⟨J,⟨⟩⟩)
theorem G4(key s c r:Int)(d:DB)(hs0:gb aN d.rows≤1048576):So 260 [aI key,aI s,aI c,aI r, .agg (bT d)] [.agg (sD (mkR key s c r d))]:=by
 refine aZ call260 func260 ntmps260 ?_;intro zb;refine O [0,1,2,3,9,10] J (bq [(18,⟨false,[aI (Qj c r d)]⟩)] [0,10,11] J (eY (xS c r d fj)) (aA ?_));have t1:=(yP key (⟨s,c,r,Qj c r d,0⟩:kj));exact bY [(22,⟨false,cA t1⟩)] [10,11] J qM (aL [10] J gA (au (aj J ⟨J,J,J,J,J,⟨⟩⟩)))
theorem oF(s:cH)(hz:s.received.length≤1048576∧ ∀r,r∈s.received→gb aN r.share.rows≤1048576):So 257 [.agg (ep s)] [.agg (ep s)]:=by
 refine aZ call257 func257 ntmps257 ?_;intro zb;refine O [1,2] J (aL [1,2,3] J qb (aR [1,2,3,8,9,10] J ?_));refine cm s.received.length (fun k:Nat=> [(10, .one ((aI k)))]) (fun k=> [(6, .arr .bL (s.received.take k))]) (fun k=>rfl) rfl ?_;intro k hk;have hle:=cU s.received k;refine O [1,2,3,8,9,10,11] J ?_;refine eg J ?_ ?_<;>intro hb0
 ·have hs:=cD s.received k (aO .bL) hb0;refine av (aA (aK (aL [1,2,3,5,8,9,10] J je (cu X [(22,6)] [(19,⟨true,[.agg (bT ((s.received.getD k (aO .bL)).share))]⟩),(500021,⟨true,[]⟩)] [1,2,3,8,9,10] [] 255 0 MO gq J gq (by(repeat' with_reducible first|exact c8|refine dP ?_ ?_|apply cL)<;>first|exact(gd ((s.received.getD k (aO .bL)).share) (hz.2 _ (getD_in _ hb0)))|exact rfl|exact⟨rfl,fA _ cO⟩| (simp only[vI,maxLen,lens];omega)) ?_))));exact bI [1,2,3,8,9,10] J gZ
 ·exact bf (O [1,2] J (aL [2] J gA (au (aj J ⟨J,J,J,by rw[aD hb0],J,⟨⟩⟩))))
theorem xT(l:List cH)(hl:l.length≤1048576)(hz: ∀s,s∈l→xQ s):So 187 [.a (.sl .cH l)] [.a (.sl .cH l)]:=by
 refine aZ call187 func187 ntmps187 ?_;intro zb;refine O [0] J (aL [0,3] J qb (aR [3,7,8,9] J ?_));refine cm l.length (fun k:Nat=> [(9, .one ((aI k)))]) (fun k=> [(6, .arr .cH (l.take k))]) (fun k=>rfl) rfl ?_;intro k hk;have hle:=cU l k;refine O [3,7,8,9,10] J ?_;refine eg J ?_ ?_<;>intro hb0
 ·have hs:=cD l k (aO .cH) hb0;refine av (aA (aK (aL [3,5,7,8,9] J je (dX [(17,6)] [(15,⟨true,[.agg (ep (l.getD k (aO .cH)))]⟩)] [3,7,8,9] [] J (by(with_reducible and_intros)<;>first|exact⟨⟩|exact(oF (l.getD k (aO .cH)) (hz _ (getD_in _ hb0)))|exact rfl| (simp only[vI,maxLen,lens];omega)) (bI [3,7,8,9] J ?_)))));exact gZ
 ·exact bf (O [2] J (au (aj J ⟨by rw[aD hb0],⟨⟩⟩)))
theorem pZ(m s:Int):So 177 [aI m,aI s] [aI (oo m s)]:=by
 refine aZ call177 func177 ntmps177 ?_;intro zb;refine O [0,1] J (aA ?_);have t1:=(tT 1 (kh m [173,s]));refine bY [(8,⟨false,[aI (kh m [173,s])]⟩),(9,⟨false,cA t1⟩)] [4] J (have u1:=(dz m [173,s] fj);(by(repeat' with_reducible first|exact c8|refine dP ?_ ?_|apply cL);(iterate 2 all_goals try first|exact u1|exact t1);all_goals first|exact⟨rfl,fA _ cO⟩)) ?_;exact au (aj J ⟨by rw[amk],⟨⟩⟩)
theorem Cq(d:DB)(hs0:gb aN d.rows≤1048576):So 407 [.agg (bT d)] [aI (VK d)]:=by
 refine aZ call407 func407 ntmps407 ?_;intro zb;have pK:d.rows.length≤1048576:=fT hs0;refine O [1] J (aL [1,3] J qb (aR [1,3,4] J ?_));refine cm d.rows.length (fun k:Nat=> [(4, .one ((aI k)))]) (fun k=> [(8, .arr .int ((d.rows.length:Int)::(d.rows.take k).flatMap RM))]) (fun k=>rfl) rfl ?_;intro k hk;have hdl:=amj d.rows k;refine aR [1,3,4,13] J ?_;refine bD J ?_ ?_<;>intro hb0
 ·have hs:=aeZ d.rows k hb0;have hel:(d.rows.getD k (aO (.sl .u8))).length≤1048576:=pO (f:=aN) hs0 (getD_some d.rows _ k hb0);have Ng:=Bn (d.rows.getD k (aO (.sl .u8)));refine av (aA (aK (dX [(23,8)] [(22,⟨true,[.a (.sl .int (RM (d.rows.getD k (aO (.sl .u8)))))]⟩)] [1,3,4] [] J (aA5 (xG (d.rows.getD k (aO (.sl .u8))) fj)) (bI [1,3,4] J ?_))));exact gZ
 ·refine bf (aA ?_);have t1:=(Dw ((d.rows.length:Int)::(d.rows.take k).flatMap RM) (by simp only[bp];omega));exact bY [(25,⟨false,cA t1⟩)] [2] J qM (au (aj J ⟨by rw[aD hb0];rfl,⟨⟩⟩))
theorem xU(c r:Int)(d:DB)(hs0:gb aN d.rows≤1048576):So 385 [aI c,aI r, .agg (bT d)] [aI (Qj c r d)]:=by
 refine aZ call385 func385 ntmps385 ?_;intro zb;refine O [0,1,5] J (bq [(10,⟨false,[aI (VK d)]⟩),(12,⟨false,[aI (hsh [179,c,r,VK d])]⟩)] [6] J (axC (Cq d fj) (Dw [179,c,r,VK d] fj)) ?_);exact au (aj J ⟨J,⟨⟩⟩)
theorem yQ(key:Int)(r:kj):So 386 [aI key, .agg (sD r)] [aI (aih key r.server r.client r.round r.xl)]:=by
 refine aZ call386 func386 ntmps386 ?_;intro zb;refine O [0,3] J (aA ?_);have t1:=(dz key [181,r.server,r.client,r.round,r.xl] fj);refine bY [(15,⟨false,cA t1⟩)] [4] J aCd ?_;exact au (aj J ⟨J,⟨⟩⟩)
theorem G5(key s c r:Int)(d:DB)(hs0:gb aN d.rows≤1048576):So 355 [aI key,aI s,aI c,aI r, .agg (bT d)] [.agg (sD (mkR key s c r d))]:=by
 refine aZ call355 func355 ntmps355 ?_;intro zb;refine O [0,1,2,3,9,10] J (bq [(18,⟨false,[aI (Qj c r d)]⟩)] [0,10,11] J (eY (xU c r d fj)) (aA ?_));have t1:=(yQ key (⟨s,c,r,Qj c r d,0⟩:kj));exact bY [(22,⟨false,cA t1⟩)] [10,11] J qM (aL [10] J gA (au (aj J ⟨J,J,J,J,J,⟨⟩⟩)))
theorem s7(s:cH)(hz:s.received.length≤1048576∧ ∀r,r∈s.received→gb aN r.share.rows≤1048576):So 235 [.agg (ep s)] [.agg (ep s)]:=by
 refine aZ call235 func235 ntmps235 ?_;intro zb;refine O [1,2] J (aL [1,2,3] J gA (aL [1,2,3] J qb (aR [1,2,3,4] J ?_)));refine cm s.received.length (fun k:Nat=> [(4, .one ((aI k)))]) (fun k=> [(6, .arr .bL (s.received.take k))]) (fun k=>rfl) rfl ?_;intro k hk;have hle:=cU s.received k;refine aR [1,2,3,4,12] J ?_;refine bD J ?_ ?_<;>intro hb0
 ·have hs:=cD s.received k (aO .bL) hb0;refine av (aA (aK (cu X [(32,6)] [(29,⟨true,[.agg (bT ((s.received.getD k (aO .bL)).share))]⟩),(500031,⟨true,[]⟩)] [1,2,3,4] [] 131071 0 MO gq J gq (by(repeat' with_reducible first|exact c8|refine dP ?_ ?_|apply cL)<;>first|exact(j8 ((s.received.getD k (aO .bL)).share) (hz.2 _ (getD_in _ hb0)))| (intros;omega)|exact rfl|exact⟨rfl,fA _ cO⟩| (simp only[vI,maxLen,lens];omega)) ?_)));exact bI [1,2,3,4] J gZ
 ·exact bf (aL [2] J gA (au (aj J ⟨J,J,J,by rw[aD hb0],J,⟨⟩⟩)))
end
section
set_option maxRecDepth 100000
theorem lN(c:kf)(h0:gb aN c.aT≤1048576∧gb aN c.inbox≤1048576):So 165 [.agg (dw c)] [.agg (dw c)]:=by
 refine aZ call165 func165 ntmps165 ?_;intro zb;exact O [1,2] J (aL [1,2,3] J gA (bq [(7,⟨true,[.a (.sl (.sl .u8) c.aT)]⟩)] [1,2,3] J (eY (zw c.aT h0.1)) (bq [(11,⟨true,[.a (.sl (.sl .u8) c.inbox)]⟩)] [2,3] J (eY (zw c.inbox h0.2)) (aL [2] J gA (au (aj J ⟨J,J,J,J,J,J,J,J,⟨⟩⟩))))))
theorem oZ(d:bR)(h0:cE d≤1048576):So 236 [.agg (dU d)] [.agg (dU d)]:=by
 refine aZ call236 func236 ntmps236 ?_;intro zb;have hc1:eO d.live≤1048576∧eO d.saved≤1048576:=by unfold cE at h0;omega
 unfold eO at hc1;exact O [1,2] J (aA (cT X [(5,⟨true,[.agg (dw d.live)]⟩),(8,⟨true,[.agg (dw d.saved)]⟩)] [2] 127 rfl (qqu (lN d.live ⟨aJ,aJ⟩) (lN d.saved ⟨aJ,aJ⟩)) (au (aj J ⟨J,J,J,J,J,J,J,J,J,J,J,J,J,J,J,J,⟨⟩⟩))))
theorem DQ(a:tE)(h0:iS a≤1048576):So 237 [.agg (gX a)] [.agg (gX a)]:=by
 refine aZ call237 func237 ntmps237 ?_;intro zb;have hls:gb jo a.rounds≤1048576:=h0;have pK:=fT hls;refine O [1,2] J (O [1,2,3] J (fD 3 1 60 .bn rfl (aR [1,2,3,4] J ?_)));refine cm a.rounds.length (fun k:Nat=> [(4, .one ((aI k)))]) (fun k=> [(60, .arr .bn (a.rounds.take k))]) (fun k=>rfl) rfl ?_;intro k hk;have hle:=cU a.rounds k;refine aR [1,2,3,4,12] J ?_;refine bD J ?_ ?_<;>intro hb0
 ·have hs:=cD a.rounds k (aO .bn) hb0;refine av (aA (aK (cu X [(32,60)] [(29,⟨true,[.agg (bT ((a.rounds.getD k (aO .bn)).db))]⟩),(500031,⟨true,[]⟩)] [1,2,3,4] [] 131071 0 MO gq J gq (by(repeat' with_reducible first|exact c8|refine dP ?_ ?_|apply cL)<;>first|exact(j8 ((a.rounds.getD k (aO .bn)).db) (pO hls (getD_some a.rounds _ k hb0)))| (intros;omega)|exact rfl|exact⟨rfl,fA _ cO⟩| (simp only[vI,maxLen,lens];omega)) ?_)));exact bI [1,2,3,4] J gZ
 ·exact bf (aL [2] J gA (au (aj J ⟨J,by rw[aD hb0],⟨⟩⟩)))
theorem gL(x:dF)(h0:wB x):So 149 [.agg (bC x)] [.agg (bC x)]:=by
 refine aZ call149 func149 ntmps149 ?_;intro zb;have hls:gb jm x.aC≤1048576∧gb cE x.ah≤1048576∧iS x.aH≤1048576∧x.replaced.length≤4194304:=h0;have hl1:=fT hls.1;have uI:=fT hls.2.1;refine O [1,2] J (aL [1,2,3] J gA (aL [1,2,3] J qb (aR [1,2,3,4] J ?_)));refine cm x.aC.length (fun k:Nat=> [(4, .one ((aI k)))]) (fun k=> [(7, .arr .cH (x.aC.take k))]) (fun k=>rfl) rfl ?_;intro k hk;have hle:=cU x.aC k;refine aR [1,2,3,4,13] J ?_;refine bD J ?_ ?_<;>intro hb0
 ·have hs:=cD x.aC k (aO .cH) hb0;have hss:=TF hls.1 (getD_some x.aC (aO .cH) k hb0);refine av (aA (aK (cu X [(25,7)] [(23,⟨true,[.agg (ep (x.aC.getD k (aO .cH)))]⟩),(500024,⟨true,[]⟩)] [1,2,3,4] [] 511 0 MO gq J gq (aB3 (s7 (x.aC.getD k (aO .cH)) hss)) ?_)));exact bI [1,2,3,4] J gZ
 ·refine bf (aL [1,2,3] J qb (aR [1,2,3,5] J ?_));refine cm x.ah.length (fun k1:Nat=> [(5, .one ((aI k1)))]) (fun k1=> [(27, .arr .bR (x.ah.take k1))]) (fun k1=>rfl) rfl ?_;intro k1 hk1;have K0:=cU x.ah k1;refine aR [1,2,3,5,33] J ?_;refine bD J ?_ ?_<;>intro cQ
  ·have hs1:=cD x.ah k1 (aO .bR) cQ;refine av (aA (aK (cu X [(45,27)] [(43,⟨true,[.agg (dU (x.ah.getD k1 (aO .bR)))]⟩)] [1,2,3,5] [] 1279 2 MO gq J gq (by(with_reducible and_intros)<;>first|exact⟨⟩|exact(oZ (x.ah.getD k1 (aO .bR)) (pO hls.2.1 (getD_some x.ah _ k1 cQ)))| (intros;omega)|exact rfl| (simp only[vI,maxLen,lens];omega)) (bI [1,2,3,5] J ?_))));exact XH
  ·exact bf (bq [(49,⟨true,[.agg (gX x.aH)]⟩)] [1,2,3] J (eY (DQ x.aH hls.2.2.1)) (mK X [(54,51)] [] [2,3] [] J Ga (aL [2] J gA (au (aj J ⟨J,by rw[aD hb0],by rw[aD cQ],J,J,J,J,J,J,J,⟨⟩⟩)))))
end
section
variable(key:Int)(l:List (List UInt8))
set_option maxRecDepth 100000
theorem B8(key c:Int)(cell:List UInt8):So 374 [aI key,aI c, .a (.sl .u8 cell)] [.agg (pP (opP key c cell)),aX (vV key c cell)]:=by
 refine aZ call374 func374 ntmps374 ?_;intro zb;refine fC 2 rfl (fun pK=>(O [0,1,2,6] J (aA (aA ?_))));have t1:=(yK key c ((cell.take (20:Int).toNat).drop (0:Int).toNat) aq2);have t2:=(qD ((cell.take (cell.length:Int).toNat).drop (20:Int).toNat) (four (ql key c ((cell.take (20:Int).toNat).drop (0:Int).toNat))));refine cT X [(11,⟨false,[aX (jZ key)]⟩),(15,⟨false,[aX (inr c 0 1000000000000)]⟩),(30,⟨false,cA t1⟩),(31,⟨false,cA t2⟩)] [0,1,2,6,33] 16777215 rfl (have u1:=(mo key);have u2:=(bu c 0 1000000000000);(by(with_reducible and_intros);(iterate 4 all_goals try first|exact⟨⟩|exact u1|exact fun _=>u2|exact fun _=>t1|exact fun _=>t2);all_goals first| ((intro h1;first| (intro h2;first| (intro h3;refine cL ?_ ?_)|refine cL ?_ ?_)|refine cL ?_ ?_)<;>first|omega| ((try simp only[SQ]at*);(try simp(disch:=omega) only[cY]);omega)))) ?_;refine aM J ?_ ?_<;>intro hb0
 ·have hA:SR key c cell=false:=dy hb0 aBq;have hk:=acH hA;exact aL [6,7] J gA (au (aj J ⟨by rw[vW hk],by rw[vW hk],by rw[hk],⟨⟩⟩))
 ·have hA:SR key c cell=true:=dr hb0 aBq;obtain⟨hol,hcl⟩:=VO hA;refine av (aA ?_);have t1:=(PN (sr key c) ((cell.take (20:Int).toNat).drop (0:Int).toNat) aq2);refine cT X [(37,⟨false,[aI (sr key c)]⟩),(40,⟨true,cA t1⟩)] [6,8] 127 rfl (aqt (Dx key c)) ?_;rw[amy];refine aA (aL [6,8,45] J je ?_);refine bD J ?_ ?_<;>intro cQ
  ·rw[u8i]at cQ;have h14:14<N9 key c cell:=by have h:(14:Int)<(N9 key c cell:Int):=cQ;omega
   have hk:=avP h14;exact aL [6,7] J gA (au (aj J ⟨by rw[vW hk],by rw[vW hk],by rw[hk],⟨⟩⟩))
  ·rw[u8i]at cQ;have h14:N9 key c cell≤14:=by have h:(N9 key c cell:Int)≤14:=cQ;omega
   have hu1:((RN key c cell).getD (cX 1) (aO .u8)).toNat≤14:=h14;have Ng:=VQ hA h14;have hpk:=aDT hA h14;have hbe:=acG key c cell;refine av (aA ?_);have t1:=(iO (((RN key c cell).take (af.wrap (2+af.wrap (((RN key c cell).getD (cX 1) (aO .u8)).toNat:Int))).toNat).drop (cX 2)) (by rw[hbe,Ng];omega));refine cT X [(58,⟨true,cA t1⟩)] [6,9] 16383 rfl (by(with_reducible and_intros)<;>first|exact⟨⟩|exact t1| (intros;omega)| ((try simp only[SQ]at*);(simp(disch:=omega) only[cY]);omega)) ?_;rw[acG,u8i];refine bZ [(61,⟨false,[aX (pV (⟨opk key c cell,opb key c cell⟩:Plain))]⟩)] [6,9,62] J (eY (wz (⟨opk key c cell,opb key c cell⟩:Plain))) ?_;refine aM J ?_ ?_<;>intro fu
   ·have hk:vV key c cell=false:=by rw[←hpk];simpa using fu
    exact aL [6,7] J gA (au (aj J ⟨by rw[vW hk],by rw[vW hk],by rw[hk],⟨⟩⟩))
   ·have hk:vV key c cell=true:=by rw[←hpk];simpa using fu
    exact av (aL [6,7] J gA (au (aj J ⟨by rw[I4 hk];rfl,by rw[I4 hk],by rw[hk],⟨⟩⟩)))
theorem B9(key c:Int)(cell:List UInt8):So 408 [aI key,aI c, .a (.sl .u8 cell)] [.agg (pP (opP key c cell)),aX (vV key c cell)]:=by
 refine aZ call408 func408 ntmps408 ?_;intro zb;refine fC 2 rfl (fun pK=>(O [0,1,2,6] J (bZ [(11,⟨false,[aX (jZ key)]⟩),(15,⟨false,[aX (inr c 0 1000000000000)]⟩)] [0,1,2,6,22] J (Km (oz key) (bJ c 0 1000000000000)) ?_)));refine aM J ?_ ?_<;>intro hb0
 ·have hH:opH key c cell=false:=dy hb0 aBJ;have hk:=ayW hH;exact aL [6,7] J gA (au (aj J ⟨by rw[vW hk],by rw[vW hk],by rw[hk],⟨⟩⟩))
 ·have hH:opH key c cell=true:=dr hb0 aBJ;obtain⟨hk1,hk2,hcl⟩:=aDV hH;have aDW:=ae6 hk1 hk2 hcl;refine av (aA (cT X [] [0,1,2,6,8] 8388607 rfl je ?_));rw[asS];refine aA (aA ?_);have t1:=(zV key c ((cell.take (20:Int).toNat).drop (0:Int).toNat) aq2);refine bY [(51,⟨false,cA t1⟩)] [0,1,2,6,52] J CW ?_;refine bD J ?_ ?_<;>intro cQ
  ·have hA:SR key c cell=false:=by rw[aDW,decide_eq_false_iff_not];intro h;exact cQ (by rw[h];simp)
   have hk:=acH hA;exact aL [6,7] J gA (au (aj J ⟨by rw[vW hk],by rw[vW hk],by rw[hk],⟨⟩⟩))
  ·have hA:SR key c cell=true:=by rw[aDW,decide_eq_true_eq,cQ];simp
   obtain⟨hol,_⟩:=VO hA;refine av (aA ?_);have t1:=(PR (sr key c) ((cell.take (20:Int).toNat).drop (0:Int).toNat) aq2);refine cT X [(56,⟨false,[aI (sr key c)]⟩),(59,⟨true,cA t1⟩)] [6,9] 127 rfl (aqt (zX key c)) ?_;rw[amy];refine aA (aL [6,9,71] J (by and_intros<;>first|exact⟨⟩| (intros;omega)| ((intro h1;first| (intro h2;first| (intro h3;refine cL ?_ ?_)|refine cL ?_ ?_)|refine cL ?_ ?_)<;>first|omega| ((try simp only[SQ]at*);(try simp(disch:=omega) only[cY]);omega))| (refine fun _=> ?_;dsimp only[hyps,abu];omega)) ?_);refine bD J ?_ ?_<;>intro fu
   ·rw[u8i,u8i]at fu;have hk:vV key c cell=false:=by
     rcases fu with h|h
     ·exact ayS h
     ·exact avP (by have h:(14:Int)<(N9 key c cell:Int):=h;omega)
    exact aL [6,7] J gA (au (aj J ⟨by rw[vW hk],by rw[vW hk],by rw[hk],⟨⟩⟩))
   ·rw[u8i,u8i]at fu;have h14:N9 key c cell≤14:=by have h:(N9 key c cell:Int)≤14:=fu.2;omega
    have hu1:((RN key c cell).getD (cX 1) (aO .u8)).toNat≤14:=h14;have Ng:=VQ hA h14;have hk:vV key c cell=true:=aDU hA h14 fu.1;have hbe:=acG key c cell;exact av (aA (cu X [(85,77)] [] [6,7] [] 45055 4 MO gq J gq (by and_intros<;>first|exact⟨⟩| (intros;omega)|exact rfl| ((try simp only[SQ]at*);(simp(disch:=omega) only[cY]);omega)| (simp only[vI,maxLen,lens];omega)) (au (aj J ⟨by rw[I4 hk];exact congrArg (Value.int af) (u8i _),by rw[I4 hk];exact hbe,by rw[hk],⟨⟩⟩))))
theorem mW(a:tE)(r:Int)(hz:a.rounds.length≤1048576∧ ∀y,y∈a.rounds→gb aN y.db.rows≤1048576):So 141 [.agg (gX a),aI r] [.agg (bT (l5 a.rounds r)),aX (nk a.rounds r)]:=by
 refine aZ call141 func141 ntmps141 ?_;intro zb;refine cj 0 1 rfl rfl (fun hl3=>(O [1,2,4] J (aR [1,4,9,10,11] J ?_)));refine aK (ef (fun k=>k≤a.rounds.length∧(a.rounds.take k).any (Xh r)=false) (fun k:Nat=> [(11, .one ((aI k)))]) (fun k=> []) (fun k=>a.rounds.length-k) 0 (fun k=>rfl) ⟨aY _,rfl⟩ rfl ?_);rintro k ⟨hk,hall⟩;refine O [1,4,9,10,11,12] J ?_;refine eg J ?_ ?_<;>intro hb0
 ·refine av (aA (aK (aL [1,4,7,9,10,11] J je (O [1,4,7,9,10,11,18] J ?_))));refine aM J ?_ ?_<;>intro cQ
  ·have hh:=amt hb0 hall cQ;exact bq [(21,⟨true,[.agg (bT ((a.rounds.getD k (aO .bn)).db))]⟩)] [4,5] J (by(with_reducible and_intros)<;>first|exact⟨⟩|exact(gd ((a.rounds.getD k (aO .bn)).db) (hz.2 _ (getD_in _ hb0)))) (au (aj J ⟨by rw[hh.2],by rw[hh.1],⟨⟩⟩))
  ·refine av (bI [1,4,9,10,11] J ?_);refine⟨k+1,⟨aJ,Bf (aO .bn) hb0 hall cQ⟩,aJ,?_⟩;rw[gT _ k rfl aJ];try rfl
 ·exact bf (aL [4,5] J gA (au (aj J ⟨by rw[(N7 OI).2],by rw[(N7 OI).1],⟨⟩⟩)))
theorem Lu(rows:List (List UInt8))(v:List Int)(hr: ∀r,r∈rows→r.length≤1048576):So 349 [.a (.sl (.sl .u8) rows), .a (.sl .int v)] [.a (.sl .u8 (G7 rows v))]:=by
 refine aZ call349 func349 ntmps349 ?_;intro zb;refine fC 0 rfl (fun hl0=> ?_);refine fC 1 rfl (fun hl1=>(O [0,1] J (aL [0,1,5] J qb (aR [1,5,9,10,11] J ?_))));refine cm rows.length (fun k:Nat=> [(11, .one ((aI k)))]) (fun k=> [(8, .arr .u8 (Ag rows v k))]) (fun k=>rfl) rfl ?_;intro k hk;have hle:=DU v hr k hk;refine O [1,5,9,10,11,12] J ?_;refine eg J ?_ ?_<;>intro hb0
 ·have hel:=hr _ (getD_in (aO (.sl .u8)) hb0);refine av (aA (aK (aL [1,5,6,7,9,10,11] J je (aL [1,5,7,9,10,11,26] J aAZ ?_))));refine bD J ?_ ?_<;>intro cQ
  ·have hs:=DT (rows:=rows) cQ.1 cQ.2;refine bY [(29,⟨true,[.a (.sl .u8 (iA (Ag rows v k) (rows.getD k (aO (.sl .u8)))))]⟩)] [1,5,9,10,11] J (eY (qQ (Ag rows v k) (rows.getD k (aO (.sl .u8))) fj fj)) (w7 5 8 rfl (bI [1,5,9,10,11] J ?_));exact gZ
  ·have hs:=xh (rows:=rows) (v:=v) (k:=k) aJ;exact av (bI [1,5,9,10,11] J gZ)
 ·exact bf (O [4] J (au (aj J ⟨by rw[Zg hk (Or.inl hb0)],⟨⟩⟩)))
theorem xY(d:DB)(v:List Int):So 290 [.agg (bT d), .a (.sl .int v)] [.a (.sl .u8 (kP d v))]:=by
 refine aZ call290 func290 ntmps290 ?_;intro zb;refine O [1,2] J (bZ [(6,⟨false,[aX (fZ d)]⟩),(13,⟨false,[aX (gW v (d.rows.length:Int))]⟩)] [1,2,15] J (Km (iG d) (rD v (d.rows.length:Int))) ?_);refine aM J ?_ ?_<;>intro hb0
 ·have hk:(fZ d&&gW v d.rows.length)=false:=dy hb0 HS;exact O [4] J (au (aj J ⟨by rw[kP,hk];rfl,⟨⟩⟩))
 ·have hk:(fZ d&&gW v d.rows.length)=true:=dr hb0 HS;have hkk:=hk;rw[an]at hkk;have hrr: ∀r,r∈d.rows→r.length≤1048576:=fun r hr=>by rw[(qF.1 hkk.1).2 r hr];decide
  have hxl:(G7 d.rows v).length≤1048576:=DU v hrr d.rows.length (aS _);exact av (aA (cT X [(20,⟨true,[.a (.sl .u8 (G7 d.rows v))]⟩),(21,⟨true,[.a (.sl .u8 (iA VD (G7 d.rows v)))]⟩)] [4] 127 rfl ⟨qQ VD (G7 d.rows v) (by rw[sV];decide) hxl,Lu d.rows v hrr,⟨rfl,fA _ cO⟩,rfl,aJ,⟨by decide,by decide⟩,⟨⟩⟩ (au (aj J ⟨by rw[kP,if_pos hk],⟨⟩⟩))))
theorem Aj(a:gw)(h1:a.selection.length≤262144)(h2:a.data.length≤262144):So 291 [aI key, .agg (lD a)] [aI (Qs key a.server a.round a.selection a.data)]:=by
 refine aZ call291 func291 ntmps291 ?_;intro zb;refine O [0,3] J (aA ?_);have t1:=(rP [[191,a.server,a.round,(a.selection.length:Int)],a.selection,RM a.data] fI (by simp[Bn];omega));have t2:=(dL key ([[191,a.server,a.round,(a.selection.length:Int)],a.selection,RM a.data].flatten) (by simp[Bn];omega));refine cu X [] [(18,⟨true,[.a (.sl .int (RM a.data))]⟩),(20,⟨true,cA t1⟩),(21,⟨false,cA t2⟩)] [4] [] 245759 1 MO gq J gq (have u1:=(xF a.data aJ);(by(repeat' with_reducible first|exact c8|refine dP ?_ ?_|apply cL);(iterate 3 all_goals try first|exact u1|exact t1|exact t2);all_goals first|exact rfl|exact⟨rfl,fA _ cO⟩)) ?_;exact au (aj J ⟨by simp[Qs],⟨⟩⟩)
theorem rW(a:tE)(r:Int)(hz:a.rounds.length≤1048576∧ ∀y,y∈a.rounds→gb aN y.db.rows≤1048576):So 174 [.agg (gX a),aI r] [.agg (bT (l5 a.rounds r)),aX (nk a.rounds r)]:=by
 refine aZ call174 func174 ntmps174 ?_;intro zb;refine cj 0 1 rfl rfl (fun hl3=>(O [1,2,4] J (aR [1,2,4,6] J ?_)));refine aK (ef (fun k=>k≤a.rounds.length∧(a.rounds.take k).any (Xh r)=false) (fun k:Nat=> [(6, .one ((aI k)))]) (fun k=> []) (fun k=>a.rounds.length-k) 0 (fun k=>rfl) ⟨aY _,rfl⟩ rfl ?_);rintro k ⟨hk,hall⟩;refine aR [1,2,4,6,11] J ?_;refine bD J ?_ ?_<;>intro hb0
 ·refine av (aA (aK (aL [1,2,4,6,21] J je ?_)));refine aM J ?_ ?_<;>intro cQ
  ·have hh:=amt hb0 hall cQ;exact bq [(28,⟨true,[.agg (bT ((a.rounds.getD k (aO .bn)).db))]⟩)] [4,5] J (by(with_reducible and_intros)<;>first|exact⟨⟩|exact(j8 ((a.rounds.getD k (aO .bn)).db) (hz.2 _ (getD_in _ hb0)))| (intros;omega)) (au (aj J ⟨by rw[hh.2],by rw[hh.1],⟨⟩⟩))
  ·refine av (bI [1,2,4,6] J ?_);refine⟨k+1,⟨aJ,Bf (aO .bn) hb0 hall cQ⟩,aJ,?_⟩;rw[gT _ k rfl aJ];try rfl
 ·exact bf (aL [4,5] J gA (au (aj J ⟨by rw[(N7 OI).2],by rw[(N7 OI).1],⟨⟩⟩)))
theorem Lv(rows:List (List UInt8))(v:List Int)(hr: ∀r,r∈rows→r.length≤1048576):So 366 [.a (.sl (.sl .u8) rows), .a (.sl .int v)] [.a (.sl .u8 (G7 rows v))]:=by
 refine aZ call366 func366 ntmps366 ?_;intro zb;refine fC 0 rfl (fun hl0=> ?_);refine fC 1 rfl (fun hl1=>(O [0,1] J (aL [0,1,5] J qb (aR [0,1,5,6] J ?_))));refine cm rows.length (fun k:Nat=> [(6, .one ((aI k)))]) (fun k=> [(7, .arr .u8 (Ag rows v k))]) (fun k=>rfl) rfl ?_;intro k hk;have hle:=DU v hr k hk;refine aR [0,1,5,6,17] J ?_;refine bD J ?_ ?_<;>intro hb0
 ·have hel:=hr _ (getD_in (aO (.sl .u8)) hb0.1);refine av (aA (aK (aL [0,1,5,6,24] J je ?_)));refine bD J ?_ ?_<;>intro cQ
  ·have hs:=DT (rows:=rows) hb0.2 cQ;refine bY [(30,⟨true,[.a (.sl .u8 (iA (Ag rows v k) (rows.getD k (aO (.sl .u8)))))]⟩)] [0,1,5,6] J (OH (qR (Ag rows v k) (rows.getD k (aO (.sl .u8))) fj fj)) (w7 5 7 rfl (bI [0,1,5,6] J ?_));exact gZ
  ·have hs:=xh (rows:=rows) (v:=v) (k:=k) (fun h=>cQ h.2);exact av (bI [0,1,5,6] J gZ)
 ·exact bf (O [4] J (au (aj J ⟨by rw[Zg hk aJ],⟨⟩⟩)))
theorem xZ(d:DB)(v:List Int):So 311 [.agg (bT d), .a (.sl .int v)] [.a (.sl .u8 (kP d v))]:=by
 refine aZ call311 func311 ntmps311 ?_;intro zb;refine O [1,2] J (bZ [(6,⟨false,[aX (fZ d)]⟩),(13,⟨false,[aX (gW v (d.rows.length:Int))]⟩)] [1,2,15] J (Km (gF d) (rE v (d.rows.length:Int))) ?_);refine aM J ?_ ?_<;>intro hb0
 ·have hk:(fZ d&&gW v d.rows.length)=false:=dy hb0 HS;exact aL [4] J qb (au (aj J ⟨by rw[kP,hk];rfl,⟨⟩⟩))
 ·have hk:(fZ d&&gW v d.rows.length)=true:=dr hb0 HS;have hkk:=hk;rw[an]at hkk;have hrr: ∀r,r∈d.rows→r.length≤1048576:=fun r hr=>by rw[(qF.1 hkk.1).2 r hr];decide
  have hxl:(G7 d.rows v).length≤1048576:=DU v hrr d.rows.length (aS _);exact av (aA (cT X [(21,⟨true,[.a (.sl .u8 (G7 d.rows v))]⟩),(22,⟨true,[.a (.sl .u8 (iA VD (G7 d.rows v)))]⟩)] [4] 127 rfl ⟨qR VD (G7 d.rows v) (by rw[sV];decide) hxl,Lv d.rows v hrr,⟨rfl,fA _ cO⟩,rfl,aJ,⟨by decide,by decide⟩,⟨⟩⟩ (au (aj J ⟨by rw[kP,if_pos hk],⟨⟩⟩))))
theorem uw(a:gw)(h1:a.selection.length≤262144)(h2:a.data.length≤262144):So 253 [aI key, .agg (lD a)] [aI (Qs key a.server a.round a.selection a.data)]:=by
 refine aZ call253 func253 ntmps253 ?_;intro zb;have Ng:=Bn a.data;refine O [0,3] J (mK X [(16,13)] [] [0,3,5] [] J Ga (aA ?_));have t1:=(dz key ([191,a.server,a.round,(a.selection.length:Int)]++a.selection++RM a.data) (by simp[Bn];omega));exact dX [(22,13)] [(21,⟨true,[.a (.sl .int (RM a.data))]⟩),(23,⟨false,cA t1⟩)] [4] [] J (have u1:=(xG a.data aJ);(by(with_reducible and_intros);(iterate 2 all_goals try first|exact⟨⟩|exact u1|exact t1);all_goals first|exact rfl| (simp only[vI,maxLen,lens];omega))) (au (aj J ⟨J,⟨⟩⟩))
theorem Gn(a:gw)(h1:a.selection.length≤262144)(h2:a.data.length≤262144):jr ty aP 228 [(5, .arr .int a.selection),(6, .arr .u8 a.data)] [aI key, .agg [eE a.server,eE a.round, .own 5, .own 6,eE a.mac]] [(5, .arr .int a.selection),(6, .arr .u8 a.data)] [.agg [eE a.server,eE a.round, .own 5, .own 6,eE (Qs key a.server a.round a.selection a.data)]]:=by
 refine ff X call228 func228 rfl rfl cO ntmps228 fI rfl ?_;intro zb;exact O [0,3,4] J (bq [(7,⟨false,[aI (Qs key a.server a.round a.selection a.data)]⟩)] [3,4] J (eY (Aj key a h1 h2)) (aL [4] J gA (au (bB J ⟨J,J,J,J,J,⟨⟩⟩))))
theorem I7(key sv r:Int)(d:DB)(v:List Int)(hv:v.length≤262144):So 227 [aI key,aI sv,aI r, .agg (bT d), .a (.sl .int v)] [.agg (lD (yA key sv r d v)),aX (su d v)]:=by
 refine aZ call227 func227 ntmps227 ?_;intro zb;have hal:=DV d v;refine O [0,1,2,4,8,10] J (bq [(15,⟨true,[.a (.sl .u8 (kP d v))]⟩)] [0,1,2,4,10,12] J (eY (xY d v)) (aR [0,1,2,4,10,12,18] J ?_));refine bD J ?_ ?_<;>intro hb0
 ·have hk:=ae7 (d:=d) (v:=v) aJ;have hg:=amC (key:=key) (sv:=sv) (r:=r) hk;exact aL [10,11] J gA (au (aj J aqv))
 ·have hk:=I5 (d:=d) (v:=v) aJ;have hg:=Oa (key:=key) (sv:=sv) (r:=r) hk;have h24:=Fl hk;refine av (aA ?_);have t1:=(Gn key (⟨sv,r,v,kP d v,0⟩:gw) (by show v.length≤_;omega) (by show(kP d v).length≤_;omega));exact bY [(24,⟨true,[.a (.sl .int v)]⟩),(800027,⟨true,iW t1⟩),(700027,⟨true, .agg [.ptr 5 24, .ptr 6 15]:: .agg []::iX t1⟩)] [10,11] J (Uv (nD v aJ)) (au (aj J aqv))
theorem Ca(s:cH)(key r:Int)(d:DB)(v:List Int)(hv:v.length≤262144):So 144 [.agg (ep s),aI key,aI r, .agg (bT d), .a (.sl .int v)] [.agg (lD (Xi s key r d v)),aX (su d v)]:=by
 refine aZ call144 func144 ntmps144 ?_;intro zb;refine O [1,2,4,5,8,10] J (bq [(21,⟨true,[.agg (lD (yA key s.id r d v)),aX (su d v)]⟩)] [1,5,10,12,13] J (eY (I7 key s.id r d v fj)) (aR [1,10,12,13,29] J ?_));refine aM J ?_ ?_<;>intro hb0
 ·have hq:(su d v&&(s.behavior==3))=true:=pX hb0 HS;obtain⟨hk,ha⟩:=ae8 (key:=key) (r:=r) hq;have hg:=Oa (key:=key) (sv:=s.id) (r:=r) hk;have hdl:(yA key s.id r d v).data.length=24:=by rw[hg];exact Fl hk
  refine aL [1,10,12,13] J ag0 ?_;rw[amB];have t1:=(Gn key (⟨(yA key s.id r d v).server,(yA key s.id r d v).round,(yA key s.id r d v).selection,UA (yA key s.id r d v).data,(yA key s.id r d v).mac⟩:gw) aBu aBm);exact bY [(800038,⟨true,iW t1⟩),(700038,⟨true, .agg [.ptr 5 23, .ptr 6 24]:: .agg []::iX t1⟩)] [10,12,13] J qM (aL [10,11] J gA (au (aj J aBd)))
 ·have hq:(su d v&&(s.behavior==3))=false:=ur hb0 HS;have ha:=amD (key:=key) (r:=r) hq;exact av (aL [10,11] J gA (au (aj J aBz)))
theorem I8(key sv r:Int)(d:DB)(v:List Int)(hv:v.length≤262144):So 252 [aI key,aI sv,aI r, .agg (bT d), .a (.sl .int v)] [.agg (lD (yA key sv r d v)),aX (su d v)]:=by
 refine aZ call252 func252 ntmps252 ?_;intro zb;have hal:=DV d v;refine O [0,1,2,4,8,10] J (bq [(16,⟨true,[.a (.sl .u8 (kP d v))]⟩)] [0,1,2,4,10,12] J (eY (xZ d v)) (aR [0,1,2,4,10,12,19] J ?_));refine bD J ?_ ?_<;>intro hb0
 ·have hk:=ae7 (d:=d) (v:=v) aJ;have hg:=amC (key:=key) (sv:=sv) (r:=r) hk;exact aL [10,11] J gA (au (aj J aqv))
 ·have hk:=I5 (d:=d) (v:=v) aJ;have hg:=Oa (key:=key) (sv:=sv) (r:=r) hk;have h24:=Fl hk;exact av (mK X [(25,23)] [] [0,10,13] [] J Ga (bq [(30,⟨false,[aI (Qs key (⟨sv,r,v,kP d v,0⟩:gw).server (⟨sv,r,v,kP d v,0⟩:gw).round (⟨sv,r,v,kP d v,0⟩:gw).selection (⟨sv,r,v,kP d v,0⟩:gw).data)]⟩)] [10,13] J (by(with_reducible and_intros)<;>first|exact⟨⟩|exact(uw key (⟨sv,r,v,kP d v,0⟩:gw) (by show v.length≤_;omega) (by show(kP d v).length≤_;omega))) (aL [10,11] J gA (au (aj J aqv)))))
theorem Cb(s:cH)(key r:Int)(d:DB)(v:List Int)(hv:v.length≤262144):So 176 [.agg (ep s),aI key,aI r, .agg (bT d), .a (.sl .int v)] [.agg (lD (Xi s key r d v)),aX (su d v)]:=by
 refine aZ call176 func176 ntmps176 ?_;intro zb;refine O [1,2,4,5,8,10] J (bq [(21,⟨true,[.agg (lD (yA key s.id r d v)),aX (su d v)]⟩)] [1,5,10,12,13] J (eY (I8 key s.id r d v fj)) (aR [1,10,12,13,29] J ?_));refine aM J ?_ ?_<;>intro hb0
 ·have hq:(su d v&&(s.behavior==3))=true:=pX hb0 HS;obtain⟨hk,ha⟩:=ae8 (key:=key) (r:=r) hq;have hg:=Oa (key:=key) (sv:=s.id) (r:=r) hk;have hdl:(yA key s.id r d v).data.length=24:=by rw[hg];exact Fl hk
  refine aA (cT X [] [1,10,12,13] 255 rfl ag0 ?_);rw[amB];exact bY [(40,⟨false,[aI (Qs key (⟨(yA key s.id r d v).server,(yA key s.id r d v).round,(yA key s.id r d v).selection,UA (yA key s.id r d v).data,(yA key s.id r d v).mac⟩:gw).server (⟨(yA key s.id r d v).server,(yA key s.id r d v).round,(yA key s.id r d v).selection,UA (yA key s.id r d v).data,(yA key s.id r d v).mac⟩:gw).round (⟨(yA key s.id r d v).server,(yA key s.id r d v).round,(yA key s.id r d v).selection,UA (yA key s.id r d v).data,(yA key s.id r d v).mac⟩:gw).selection (⟨(yA key s.id r d v).server,(yA key s.id r d v).round,(yA key s.id r d v).selection,UA (yA key s.id r d v).data,(yA key s.id r d v).mac⟩:gw).data)]⟩)] [10,12,13] J (by(with_reducible and_intros)<;>first|exact⟨⟩|exact(uw key (⟨(yA key s.id r d v).server,(yA key s.id r d v).round,(yA key s.id r d v).selection,UA (yA key s.id r d v).data,(yA key s.id r d v).mac⟩:gw) aBu aBm)) (aL [10,11] J gA (au (aj J aBd)))
 ·have hq:(su d v&&(s.behavior==3))=false:=ur hb0 HS;have ha:=amD (key:=key) (r:=r) hq;exact av (aL [10,11] J gA (au (aj J aBz)))
theorem Ak(b:List UInt8):So 292 [.a (.sl .u8 b)] [aX (!decide ((b.length:Int)=24))]:=by
 refine aZ call292 func292 ntmps292 ?_;intro zb;exact O [0] J (O [2] J (au (aj J ⟨(congrArg eF HS),⟨⟩⟩)))
theorem Sb(hr: ∀a,a∈l→a.length≤1048576):So 293 [.a (.sl (.sl .u8) l)] [.a (.sl .u8 (DW l))]:=by
 refine aZ call293 func293 ntmps293 ?_;intro zb;refine fC 0 rfl (fun pK=>(O [0] J (aL [0,3] J qb (aR [3,7,8,9] J ?_))));refine cm l.length (fun k:Nat=> [(9, .one ((aI k)))]) (fun k=> [(6, .arr .u8 (DW (l.take k)))]) (fun k=>rfl) rfl ?_;intro k hk;have hle:=Qt hr k;refine O [3,7,8,9,10] J ?_;refine eg J ?_ ?_<;>intro hb0
 ·have hel:=hr _ (getD_in (aO (.sl .u8)) hb0);have hs:=Lr l k hb0;refine av (aA (aK (aL [3,5,7,8,9] J je (bY [(15,⟨true,[.a (.sl .u8 (iA (DW (l.take k)) (l.getD k (aO (.sl .u8)))))]⟩)] [3,7,8,9] J (eY (qQ (DW (l.take k)) (l.getD k (aO (.sl .u8))) fj fj)) (w7 3 6 rfl (bI [3,7,8,9] J ?_))))));exact gZ
 ·exact bf (O [2] J (au (aj J ⟨by rw[aD hb0],⟨⟩⟩)))
theorem Sc(hr: ∀a,a∈l→a.length≤1048576):So 313 [.a (.sl (.sl .u8) l)] [.a (.sl .u8 (DW l))]:=by
 refine aZ call313 func313 ntmps313 ?_;intro zb;refine fC 0 rfl (fun pK=>(O [0] J (aL [0,3] J qb (aR [0,3,4] J ?_))));refine cm l.length (fun k:Nat=> [(4, .one ((aI k)))]) (fun k=> [(5, .arr .u8 (DW (l.take k)))]) (fun k=>rfl) rfl ?_;intro k hk;have hle:=Qt hr k;refine aR [0,3,4,9] J ?_;refine bD J ?_ ?_<;>intro hb0
 ·have hel:=hr _ (getD_in (aO (.sl .u8)) hb0);have hs:=Lr l k hb0;refine av (aA (aK (bY [(17,⟨true,[.a (.sl .u8 (iA (DW (l.take k)) (l.getD k (aO (.sl .u8)))))]⟩)] [0,3,4] J (OH (qR (DW (l.take k)) (l.getD k (aO (.sl .u8))) fj fj)) (w7 3 5 rfl (bI [0,3,4] J ?_)))));exact gZ
 ·exact bf (O [2] J (au (aj J ⟨by rw[aD hb0],⟨⟩⟩)))
theorem Ct:So 229 [.a (.sl (.sl .u8) l)] [.a (.sl .u8 (cmb l)),aX (nq l)]:=by
 refine aZ call229 func229 ntmps229 ?_;intro zb;refine fC 0 rfl (fun pK=>(O [0] J (bZ [(6,⟨false,[aX (dR (l.length:Int))]⟩),(10,⟨false,[aX (l.any fun b=> !decide ((b.length:Int)=24))]⟩)] [0,11] J (by(with_reducible and_intros);(iterate 2 all_goals try first|exact⟨⟩|exact(gy (l.length:Int))|exact fun _=>(jP _ _ _ Ak))) ?_)));refine aM J ?_ ?_<;>intro hb0
 ·have hk:nq l=false:=by rw[nq,DA];exact dy hb0 HS
  exact O [2,3] J (au (aj J ⟨by rw[I6 hk],by rw[hk],⟨⟩⟩))
 ·have hk:nq l=true:=by rw[nq,DA];exact dr hb0 HS
  have hel:=Qw hk;exact av (bq [(13,⟨true,[.a (.sl .u8 (DW l))]⟩)] [2,3] J (eY (Sb l hel)) (au (aj J ⟨by rw[Ob hk],by rw[hk],⟨⟩⟩)))
theorem Cu:So 254 [.a (.sl (.sl .u8) l)] [.a (.sl .u8 (cmb l)),aX (nq l)]:=by
 refine aZ call254 func254 ntmps254 ?_;intro zb;refine fC 0 rfl (fun pK=>(O [0] J (aR [0,4] J ?_)));refine aK (ef (fun k=>k≤l.length∧(l.take k).all (fun a=>decide ((a.length:Int)=24))=true) (fun k:Nat=> [(4, .one ((aI k)))]) (fun k=> []) (fun k=>l.length-k) 0 (fun k=>rfl) ⟨aY _,rfl⟩ rfl ?_);rintro k ⟨hk0,hall⟩;refine aR [0,4,8] J ?_;refine bD J ?_ ?_<;>intro hb0
 ·refine av (aA (aK (aL [0,4,16] J je ?_)));refine bD J ?_ ?_<;>intro cQ
  ·have hk:=asT hb0 (fun h=>cQ (by rw[h];rfl));exact aL [2,3] J qb (au (aj J ⟨by rw[I6 hk],by rw[hk],⟨⟩⟩))
  ·refine av (bI [0,4] J ?_);refine⟨k+1,⟨aJ,by rw[Dt _ _ _ (aO (.sl .u8)) hb0,hall,Bool.true_and];exact decide_eq_true cQ⟩,aJ,?_⟩;rw[gT _ k rfl aJ];try rfl
 ·rw[aD hb0]at hall;refine bf (bZ [(20,⟨false,[aX (dR (l.length:Int))]⟩)] [0,21] J (eY (kC (l.length:Int))) ?_);refine aM J ?_ ?_<;>intro fu
  ·have hk:nq l=false:=by rw[nq,hall];simpa using fu
   exact aL [2,3] J qb (au (aj J ⟨by rw[I6 hk],by rw[hk],⟨⟩⟩))
  ·have hk:nq l=true:=by rw[nq,hall];simpa using fu
   have hel:=Qw hk;exact av (bq [(24,⟨true,[.a (.sl .u8 (DW l))]⟩)] [2,3] J (eY (Sc l hel)) (au (aj J ⟨by rw[Ob hk],by rw[hk],⟨⟩⟩)))
theorem DY(l:List gw)(hl:l.length≤1048576):So 146 [.a (.sl .gw l)] [.a (.sl .u8 (cmb (l.map gw.data))),aX (nq (l.map gw.data))]:=by
 refine aZ call146 func146 ntmps146 ?_;intro zb;refine O [0] J (aL [0,4] J qb (Zi 4 60 rfl (aR [4,8,9,10] J ?_)));refine cm l.length (fun k:Nat=> [(10, .one ((aI k)))]) (fun k=> [(60, .pQ (.sl .u8) ((l.take k).map gw.data) .xp)]) (fun k=>rfl) rfl ?_;intro k hk;have hle:=cU l k;refine O [4,8,9,10,11] J ?_;refine eg J ?_ ?_<;>intro hb0
 ·have hs:=vk gw.data l k (aO .gw) hb0;have hml:((l.take k).map gw.data).length=(l.take k).length:=bt ..;refine av (aA (aK (aL [4,6,8,9,10] J je (dX [(18,60)] [] [4,8,9,10] [] J Ga (bI [4,8,9,10] J ?_)))));exact gZ
 ·rw[aD hb0];refine bf (aA ?_);have t1:=(Ct (l.map gw.data));exact bY [(21,⟨true,cA t1⟩)] [2,3] J qM (au (aj J ⟨J,J,⟨⟩⟩))
theorem DZ(l:List gw)(hl:l.length≤1048576):So 178 [.a (.sl .gw l)] [.a (.sl .u8 (cmb (l.map gw.data))),aX (nq (l.map gw.data))]:=by
 refine aZ call178 func178 ntmps178 ?_;intro zb;refine O [0] J (aL [0,4] J qb (Zi 4 60 rfl (aR [0,4,5] J ?_)));refine cm l.length (fun k:Nat=> [(5, .one ((aI k)))]) (fun k=> [(60, .pQ (.sl .u8) ((l.take k).map gw.data) .xp)]) (fun k=>rfl) rfl ?_;intro k hk;have hle:=cU l k;refine aR [0,4,5,10] J ?_;refine bD J ?_ ?_<;>intro hb0
 ·have hs:=vk gw.data l k (aO .gw) hb0;have hml:((l.take k).map gw.data).length=(l.take k).length:=bt ..;refine av (aA (aK (dX [(20,60)] [] [0,4,5] [] J qqm (bI [0,4,5] J ?_))));exact gZ
 ·rw[aD hb0];refine bf (aA ?_);have t1:=(Cu (l.map gw.data));exact bY [(22,⟨true,cA t1⟩)] [2,3] J qM (au (aj J ⟨J,J,⟨⟩⟩))
theorem rH(x:dF)(r row s:Int)(hk:okW x=true):So 74 [.agg (bC x),aI r,aI row,aI s] [.a (.sl .u8 (FJ x r row s)),aX (Ah x r row s)]:=by
 refine aZ call74 func74 ntmps74 ?_;intro zb;have har:=VS hk;have hql:=ae9 r row s hk;have hs4:=iY hk;have hrl:=uo x.aC.length r row s;refine O [1,2,3,4] J (aA ?_);have t1:=(mW x.aH r ⟨aJ,har.2⟩);refine bY [(21,⟨true,cA t1⟩)] [1,2,3,4,10,11] J qM (bZ [(25,⟨false,[aX (okW x)]⟩)] [1,2,3,4,10,30] J (eY (dY x)) ?_);refine aM J ?_ ?_<;>intro hb0
 ·have hh:nk x.aH.rounds r=false:=by rw[hk]at hb0;simpa using hb0
  exact O [8,9] J (au (aj J ⟨by rw[(Qx hh).1],by rw[(Qx hh).2],⟨⟩⟩))
 ·have hh:nk x.aH.rounds r=true:=by rw[hk]at hb0;simpa using hb0
  have hpy:=VR (row:=row) (s:=s) hh;refine av (aL [1,2,3,4,10,12] J qb (aA (aA ?_)));have t1:=(Lc x.rows row (mI x.aC.length r row s) aJ);refine cT X [(39,⟨true,[.a (.sl .int (mI x.aC.length r row s))]⟩),(40,⟨true,cA t1⟩)] [1,4,10,12,40,41,42] 2047 rfl (Uv (Le x r row s aJ)) ?_;refine cm ((query' x r row s).length) (fun k:Nat=> [(42, .one ((aI k)))]) (fun k=> [(31, .arr .gw (B6 x r (l5 x.aH.rounds r) (query' x r row s) k))]) (fun k=>rfl) rfl ?_;intro k hk;have hal:=TM x r (l5 x.aH.rounds r) (query' x r row s) k;have hqy:(qd x.rows row (mI x.aC.length r row s)).length=(query' x r row s).length:=rfl;refine O [1,4,10,12,40,41,42,43] J ?_;refine eg J ?_ ?_<;>intro cQ
  ·have hqe:=amG x r row s k;have hs:=Qu x r (l5 x.aH.rounds r) (query' x r row s) k;refine av (aA (aK (aL [1,4,10,12,13,14,40,41,42] J je (aA ?_))));have t1:=(Ca (x.aC.getD k (aO .cH)) (oo x.bW (k:Int)) r (l5 x.aH.rounds r) ((query' x r row s).getD k (aO (.sl .int))) aJ);refine cu X [] [(56,⟨false,[aI (oo x.bW (k:Int))]⟩),(60,⟨true,cA t1⟩)] [1,4,10,12,15,16,40,41,42] [] 393215 1 MO gq J gq (aqt (pY x.bW (k:Int))) (aR [1,4,10,12,15,40,41,42,64] J ?_);refine aM J ?_ ?_<;>intro fu
   ·have hno:=amw cQ aby;exact O [8,9] J (au (aj J ⟨by rw[hpy.1,I6 hno],by rw[hpy.2,hno],⟨⟩⟩))
   ·refine av (dX [(68,31)] [] [1,4,10,12,40,41,42] [] J Ga (bI [1,4,10,12,40,41,42] J ?_));exact gZ
  ·refine bf (aA ?_);have t1:=(DY (B6 x r (l5 x.aH.rounds r) (query' x r row s) k) aJ);exact bY [(71,⟨true,cA t1⟩)] [8,9] J qM (au (aj J ⟨by rw[hpy.1,show k=(query' x r row s).length by omega];rfl,by rw[hpy.2,show k=(query' x r row s).length by omega];rfl,⟨⟩⟩))
theorem ya(x:dF)(r row s:Int)(hk:okW x=true):So 104 [.agg (bC x),aI r,aI row,aI s] [.a (.sl .u8 (FJ x r row s)),aX (Ah x r row s)]:=by
 refine aZ call104 func104 ntmps104 ?_;intro zb;have har:=VS hk;have hql:=ae9 r row s hk;have hs4:=iY hk;have hrl:=uo x.aC.length r row s;have hw:af.wrap ((x.aC.length:Int)-1)=(x.aC.length:Int)-1:=cY aJ;refine O [1,2,3,4] J (aA ?_);have t1:=(rW x.aH r ⟨aJ,har.2⟩);refine bY [(23,⟨true,cA t1⟩)] [1,2,3,4,10,11] J qM (aR [1,2,3,4,10,27] J ?_);refine aM J ?_ ?_<;>intro hb0
 ·have hh:nk x.aH.rounds r=false:=by simpa using hb0
  exact aL [8,9] J qb (au (aj J ⟨by rw[(Qx hh).1],by rw[(Qx hh).2],⟨⟩⟩))
 ·have hh:nk x.aH.rounds r=true:=by simpa using hb0
  have hpy:=VR (row:=row) (s:=s) hh;refine av (aL [1,2,3,4,10,12] J qb (aR [1,2,3,4,10,12,13] J ?_));refine cm (x.aC.length-1) (fun k:Nat=> [(13, .one ((aI k)))]) (fun k=> [(29, .arr .int ((mI x.aC.length r row s).take k))]) (fun k=>rfl) rfl ?_;intro k hk;have hle:=cU (mI x.aC.length r row s) k;refine aR [1,2,3,4,10,12,13,35] J ?_;refine bD J ?_ ?_<;>intro cQ
  ·rw[hw]at cQ;have hs:=MG x.aC.length r row s k aJ;refine av (aA (aK (dX [(46,29)] [(44,⟨false,[aI (kh s [229,r,row,(k:Int)])]⟩)] [1,2,3,4,10,12,13] [] J (GD (dz s [229,r,row,(k:Int)] fj)) ?_)));exact bI [1,2,3,4,10,12,13] J gZ
  ·rw[hw]at cQ;refine bf (aA ?_);rw[aD (show(mI x.aC.length r row s).length≤k by omega)];have t1:=(Ld x.rows row (mI x.aC.length r row s) aJ);refine bY [(51,⟨true,cA t1⟩)] [1,4,10,14] J qM (aL [1,4,10,14,15] J qb (aR [1,4,10,14,15,16] J ?_));refine cm ((query' x r row s).length) (fun k1:Nat=> [(16, .one ((aI k1)))]) (fun k1=> [(52, .arr .gw (B6 x r (l5 x.aH.rounds r) (query' x r row s) k1))]) (fun k1=>rfl) rfl ?_;intro k1 hk1;have hal:=TM x r (l5 x.aH.rounds r) (query' x r row s) k1;have hqy:(qd x.rows row (mI x.aC.length r row s)).length=(query' x r row s).length:=rfl;refine aR [1,4,10,14,15,16,56] J ?_;refine bD J ?_ ?_<;>intro fu
   ·have hqe:=amG x r row s k1;have hs1:=Qu x r (l5 x.aH.rounds r) (query' x r row s) k1;refine av (aA (aK (aA ?_)));have t1:=(Cb (x.aC.getD k1 (aO .cH)) (oo x.bW (k1:Int)) r (l5 x.aH.rounds r) ((query' x r row s).getD k1 (aO (.sl .int))) aJ);refine cu X [] [(68,⟨false,[aI (oo x.bW (k1:Int))]⟩),(75,⟨true,cA t1⟩)] [1,4,10,14,15,16,17] [] 3145727 1 MO gq J gq (aqt (pZ x.bW (k1:Int))) (dX [(81,52)] [] [1,4,10,14,15,16] [] J Ga (bI [1,4,10,14,15,16] J ?_));exact XH
   ·refine bf (aA ?_);have t1:=(DZ (B6 x r (l5 x.aH.rounds r) (query' x r row s) k1) aJ);exact bY [(83,⟨true,cA t1⟩)] [8,9] J qM (au (aj J ⟨by rw[hpy.1,show k1=(query' x r row s).length by omega];rfl,by rw[hpy.2,show k1=(query' x r row s).length by omega];rfl,⟨⟩⟩))
end
section
variable(c:kf)(d:bR)(x:dF)
set_option maxRecDepth 100000
theorem jD(h0:gb aN c.aT≤1048576∧gb aN c.inbox≤1048576):So 219 [.agg (dw c)] [.agg (dw c)]:=by
 refine aZ call219 func219 ntmps219 ?_;intro zb;exact O [1,2] J (bq [(5,⟨true,[.a (.sl (.sl .u8) c.aT)]⟩)] [1,2] J (eY (ug c.aT h0.1)) (bq [(9,⟨true,[.a (.sl (.sl .u8) c.inbox)]⟩)] [1,2] J (eY (ug c.inbox h0.2)) (aL [2] J gA (au (aj J ⟨J,J,J,J,J,J,J,J,⟨⟩⟩)))))
theorem mw(h0:cE d≤1048576):So 186 [.agg (dU d)] [.agg (dU d)]:=by
 refine aZ call186 func186 ntmps186 ?_;intro zb;have hc1:eO d.live≤1048576∧eO d.saved≤1048576:=by unfold cE at h0;omega
 unfold eO at hc1;exact O [1,2] J (aA (cT X [(5,⟨true,[.agg (dw d.live)]⟩),(8,⟨true,[.agg (dw d.saved)]⟩)] [2] 127 rfl (qqu (jD d.live ⟨aJ,aJ⟩) (jD d.saved ⟨aJ,aJ⟩)) (au (aj J ⟨J,J,J,J,J,J,J,J,J,J,J,J,J,J,J,J,⟨⟩⟩))))
theorem yf(a:tE)(h0:iS a≤1048576):So 188 [.agg (gX a)] [.agg (gX a)]:=by
 refine aZ call188 func188 ntmps188 ?_;intro zb;have hls:gb jo a.rounds≤1048576:=h0;have pK:=fT hls;refine O [1,2] J (O [1,2,3] J (fD 3 1 60 .bn rfl (aR [2,3,10,11,12] J ?_)));refine cm a.rounds.length (fun k:Nat=> [(12, .one ((aI k)))]) (fun k=> [(60, .arr .bn (a.rounds.take k))]) (fun k=>rfl) rfl ?_;intro k hk;have hle:=cU a.rounds k;refine O [2,3,10,11,12,13] J ?_;refine eg J ?_ ?_<;>intro hb0
 ·have hs:=cD a.rounds k (aO .bn) hb0;refine av (aA (aK (aL [2,3,5,10,11,12] J je (cu X [(25,60)] [(22,⟨true,[.agg (bT ((a.rounds.getD k (aO .bn)).db))]⟩),(500024,⟨true,[]⟩)] [2,3,10,11,12] [] 511 0 MO gq J gq (by(repeat' with_reducible first|exact c8|refine dP ?_ ?_|apply cL)<;>first|exact(gd ((a.rounds.getD k (aO .bn)).db) (pO hls (getD_some a.rounds _ k hb0)))|exact rfl|exact⟨rfl,fA _ cO⟩| (simp only[vI,maxLen,lens];omega)) ?_))));exact bI [2,3,10,11,12] J gZ
 ·exact bf (aL [2] J gA (au (aj J ⟨J,by rw[aD hb0],⟨⟩⟩)))
theorem iI(h0:wB x):So 112 [.agg (bC x)] [.agg (bC x)]:=by
 refine aZ call112 func112 ntmps112 ?_;intro zb;have hls:gb jm x.aC≤1048576∧gb cE x.ah≤1048576∧iS x.aH≤1048576∧x.replaced.length≤4194304:=h0;have hl1:=fT hls.1;have uI:=fT hls.2.1;refine O [1,2] J (aL [1,2,3] J qb (aR [1,2,3,8,9,10] J ?_));refine cm x.ah.length (fun k:Nat=> [(10, .one ((aI k)))]) (fun k=> [(6, .arr .bR (x.ah.take k))]) (fun k=>rfl) rfl ?_;intro k hk;have hle:=cU x.ah k;refine O [1,2,3,8,9,10,11] J ?_;refine eg J ?_ ?_<;>intro hb0
 ·have hs:=cD x.ah k (aO .bR) hb0;refine av (aA (aK (aL [1,2,3,5,8,9,10] J je (dX [(18,6)] [(16,⟨true,[.agg (dU (x.ah.getD k (aO .bR)))]⟩)] [1,2,3,8,9,10] [] J (by(with_reducible and_intros)<;>first|exact⟨⟩|exact(mw (x.ah.getD k (aO .bR)) (pO hls.2.1 (getD_some x.ah _ k hb0)))|exact rfl| (simp only[vI,maxLen,lens];omega)) (bI [1,2,3,8,9,10] J ?_)))));exact gZ
 ·exact bf (bq [(22,⟨true,[.a (.sl .cH x.aC)]⟩)] [1,2,3] J (eY (xT x.aC hl1 (fun s hs=>by obtain⟨i,hi⟩:=List.mem_iff_getElem?.1 hs;exact TF hls.1 hi))) (O [1,2] J (bq [(28,⟨true,[.agg (gX x.aH)]⟩)] [1,2] J (eY (yf x.aH hls.2.2.1)) (bq [(32,⟨true,[.a (.sl .int x.replaced)]⟩)] [1,2] J (eY (nD x.replaced hls.2.2.2)) (aL [2] J gA (au (aj J (by and_intros<;>first|exact⟨⟩|rfl| (rw[aD hb0];done)))))))))
theorem uz(h0:gb aN c.aT≤1048576∧gb aN c.inbox≤1048576):So 134 [.agg (dw c)] [.agg (dU (⟨c,c⟩:bR))]:=by
 refine aZ call134 func134 ntmps134 ?_;intro zb;exact O [1,2] J (aA (cu X [(6,40)] [(4,⟨true,[.agg (dw c)]⟩),(6,⟨true,[.agg (dw c)]⟩)] [2] [] 31 0 MO gq J gq (aBw (jD c h0)) (au (aj J ⟨J,J,J,J,J,J,J,J,J,J,J,J,J,J,J,J,⟨⟩⟩))))
theorem yV(h0:cE d≤1048576):So 128 [.agg (dU d)] [.agg (dU (Sd d))]:=by
 refine aZ call128 func128 ntmps128 ?_;intro zb;have hc1:eO d.live≤1048576∧eO d.saved≤1048576:=by unfold cE at h0;omega
 unfold eO at hc1;refine O [1,2] J (bZ [(4,⟨false,[aX (gx d)]⟩)] [1,2,5] J (eY (jk d)) ?_);refine aM J ?_ ?_<;>intro hb0
 ·have hk:gx d=false:=by simpa using hb0
  have hd:Sd d=d:=by rw[Sd,hk];rfl
  exact bq [(7,⟨true,[.agg (dU d)]⟩)] [2] J (eY (mw d h0)) (au (aj J Xt))
 ·have hk:gx d=true:=by simpa using hb0
  have hd:Sd d=⟨d.live,d.live⟩:=by rw[Sd,if_pos hk]
  exact av (bq [(10,⟨true,[.agg (dU (⟨d.live,d.live⟩:bR))]⟩)] [2] J (eY (uz d.live ⟨aJ,aJ⟩)) (au (aj J Xt)))
theorem LA:So 326 [.agg (dU d)] [aX (HX d)]:=by
 refine aZ call326 func326 ntmps326 ?_;intro zb;exact O [1] J (bq [(4,⟨false,[aX (gx d)]⟩)] [2] J (eY (jk d)) (au (aj J ⟨(congrArg eF aBP),⟨⟩⟩)))
theorem Jh(r n:Int):So 263 [.agg (dw c),aI r,aI n] [aI (jK c.key r (fK c) n),aI (jK c.key r (1-fK c) n)]:=by
 refine aZ call263 func263 ntmps263 ?_;intro zb;have hdw:=am5 c;exact O [1,2,3] J (aA (cT X [(12,⟨false,[aI (fK c)]⟩),(14,⟨false,[aI (jK c.key r (fK c) n)]⟩),(19,⟨false,[aI (fK c)]⟩),(22,⟨false,[aI (jK c.key r (af.wrap (1-fK c)) n)]⟩)] [6,7] 131071 rfl (have u1:=(lB c);have u2:=(oy c.key r (fK c) n);have u3:=(oy c.key r (af.wrap (1-fK c)) n);(by(with_reducible and_intros);(iterate 4 all_goals try first|exact⟨⟩|exact u1|exact u2|exact u3))) (au (aj J ⟨J,by rw[hdw],⟨⟩⟩))))
theorem Ji(r:Int)(own other:List UInt8)(h0:gb aN c.aT≤1048576∧gb aN c.inbox≤1048576):So 325 [.agg (dw c),aI r, .a (.sl .u8 own), .a (.sl .u8 other)] [.agg (dw (lO c r own other)),aX (Gz c r)]:=by
 refine aZ call325 func325 ntmps325 ?_;intro zb;refine O [1,2,3,4,8] J (bq [(14,⟨true,[.agg (dw c)]⟩)] [1,2,3,4,8,10] J (eY (jD c h0)) (bZ [(16,⟨false,[aX (iJ c)]⟩),(22,⟨false,[aX (inr r c.next 99999)]⟩)] [1,2,3,4,8,10,24] J (Km (ji c) (bu r c.next 99999)) ?_));refine aM J ?_ ?_<;>intro hb0
 ·have hk:Gz c r=false:=dy hb0 aqP;have hc:=Zt (own:=own) (other:=other) hk;exact aL [8,9] J gA (au (aj J aBs))
 ·have hk:Gz c r=true:=dr hb0 aqP;obtain⟨hok,hn1,hn2,hn3⟩:=am0 hk;obtain⟨hu1,hu2,_,_,hs0,hs9,_,_⟩:=rU hok;have hc:lO c r own other=⟨c.id,c.gJ,c.key,c.seed,c.aT,if HU c own then c.sent+1 else c.sent,if tM c other then c.inbox++ [(opP (DX c) (c.inbox.length:Int) other).body]else c.inbox,r+1⟩:=by rw[lO,if_pos hk]
  refine av (bZ [(37,⟨false,[.a (.sl .u8 (rQ c c.sent))]⟩),(38,⟨false,[aX (own==(rQ c c.sent))]⟩)] [1,3,4,8,10,39] J ⟨fun _=>oD own (rQ c c.sent),fun h=>rC c c.sent hs0 (of_decide_eq_true h),⟨⟩⟩ ?_);refine aM J ?_ ?_<;>intro cQ
  ·have hh:HU c own=true:=pX cQ aqQ;refine bI [1,3,4,8,10] J ?_;rw[cY (a:=c.sent+1) aJ];refine aA ?_;have t1:=(B8 (rB c.key (af.wrap (1-fK c))) (c.inbox.length:Int) other);refine cu X [] [(48,⟨false,[aI (fK c)]⟩),(50,⟨false,[aI (rB c.key (af.wrap (1-fK c)))]⟩),(55,⟨true,cA t1⟩)] [1,4,8,10,11,12] [] 98303 1 MO gq J gq (aqu (lB c) (qm c.key (af.wrap (1-fK c)))) ?_;rw[Jg];refine aR [1,8,10,11,69] J ?_;refine aM J ?_ ?_<;>intro fu
   ·have hg:tM c other=true:=pX fu Xv;refine iB X [1,8,10] J Ga (O [8,10] J ?_);rw[cY (a:=r+1) aJ];exact aL [8,9] J gA (au (aj J aA0))
   ·have hg:tM c other=false:=ur fu Xv;refine av (O [8,10] J ?_);rw[cY (a:=r+1) aJ];exact aL [8,9] J gA (au (aj J aA1))
  ·have hh:HU c own=false:=ur cQ aqQ;refine av (aA ?_);have t1:=(B8 (rB c.key (af.wrap (1-fK c))) (c.inbox.length:Int) other);refine cu X [] [(48,⟨false,[aI (fK c)]⟩),(50,⟨false,[aI (rB c.key (af.wrap (1-fK c)))]⟩),(55,⟨true,cA t1⟩)] [1,4,8,10,11,12] [] 98303 1 MO gq J gq (aqu (lB c) (qm c.key (af.wrap (1-fK c)))) ?_;rw[Jg];refine aR [1,8,10,11,69] J ?_;refine aM J ?_ ?_<;>intro fu
   ·have hg:tM c other=true:=pX fu Xv;refine iB X [1,8,10] J Ga (O [8,10] J ?_);rw[cY (a:=r+1) aJ];exact aL [8,9] J gA (au (aj J aA2))
   ·have hg:tM c other=false:=ur fu Xv;refine av (O [8,10] J ?_);rw[cY (a:=r+1) aJ];exact aL [8,9] J gA (au (aj J aA4))
theorem FM(r:Int)(own other:List UInt8)(h0:cE d≤1048576):So 264 [.agg (dU d),aI r, .a (.sl .u8 own), .a (.sl .u8 other)] [.agg (dU (rdev d r own other)),aX (Kr d r)]:=by
 refine aZ call264 func264 ntmps264 ?_;intro zb;have hc1:eO d.live≤1048576∧eO d.saved≤1048576:=by unfold cE at h0;omega
 unfold eO at hc1;refine O [1,2,3,4,8] J (aA ?_);have t1:=(Ji d.live r own other ⟨aJ,aJ⟩);refine bY [(19,⟨true,cA t1⟩)] [4,8,10,11] J qM (bZ [(26,⟨false,[aX (gx d)]⟩)] [4,8,10,28] J (qqz (jk d)) ?_);refine aM J ?_ ?_<;>intro hb0
 ·have hk:Kr d r=false:=dy hb0 aqR;have hd:=afk (own:=own) (other:=other) hk;exact bq [(30,⟨true,[.agg (dU d)]⟩)] [8,9] J (eY (mw d h0)) (au (aj J aqw))
 ·have hk:Kr d r=true:=dr hb0 aqR;have hz:=Zu (own:=own) (other:=other) hk;refine av (aA (cT X [(34,⟨true,[.agg (dw d.saved)]⟩)] [8,12] 63 rfl (eY (jD d.saved ⟨aJ,aJ⟩)) (bZ [(37,⟨false,[aX (HX (vp d r own other))]⟩)] [8,12,37] J (eY (LA (vp d r own other))) ?_)));refine aM J ?_ ?_<;>intro cQ
  ·have hd:=afl hk cQ;exact bY [(39,⟨true,[.agg (dU (Sd (vp d r own other)))]⟩)] [8,12] J (eY (yV (vp d r own other) hz)) (aL [8,9] J gA (au (aj J aqw)))
  ·have hd:=afm hk cQ;exact av (aL [8,9] J gA (au (aj J aBn)))
theorem LB(h0:wB x):So 193 [.agg (bC x)] [.agg (bC (MR x))]:=by
 refine aZ call193 func193 ntmps193 ?_;intro zb;have hls:gb jm x.aC≤1048576∧gb cE x.ah≤1048576∧iS x.aH≤1048576∧x.replaced.length≤4194304:=h0;have uI:=fT hls.2.1;refine O [1,2] J (bq [(15,⟨true,[.agg (bC x)]⟩)] [1,2,3] J (eY (iI x h0)) (bZ [(17,⟨false,[aX (okW x)]⟩)] [1,2,3,18] J (eY (dY x)) ?_));refine aM J ?_ ?_<;>intro hb0
 ·have hk0:okW x=false:=by simpa using hb0
  have hw:=am4 hk0;exact aL [2] J gA (au (aj J aBH))
 ·have hk0:okW x=true:=by simpa using hb0
  have hw:=Bv hk0;have har:=VS hk0;have hd8:=(Bi (uk hk0)).2.1;refine av (aR [1,2,3,21,22,23] J ?_);refine cm x.ah.length (fun k:Nat=> [(23, .one ((aI k)))]) (fun k=> [(17, .arr .bR (rdK x k))]) (fun k=>rfl) rfl ?_;intro k hk;have IL:=ae5 x k hk;refine O [1,2,3,21,22,23,24] J ?_;refine eg J ?_ ?_<;>intro cQ
  ·have hrg:=ae4 x k cQ;have h00:=amx x k cQ;have hrs:=G6 x.aH.rounds (x.ah.getD k (aO .bR)).live.next;have aG0:(Br x (x.ah.getD k (aO .bR))).length≤x.aH.rounds.length:=hrs;have hrq:(nH x.aH.rounds (x.ah.getD k (aO .bR)).live.next).length=(Br x (x.ah.getD k (aO .bR))).length:=rfl;refine av (aA (aK (aL [1,2,3,4,5,21,22,23] J je (aA ?_))));have t1:=(xW x.aH ((x.ah.getD k (aO .bR)).live.next) aJ);refine bY [(33,⟨true,cA t1⟩)] [1,2,3,4,5,21,22,23,33,34,35] J qM ?_;refine cm ((Br x (x.ah.getD k (aO .bR))).length) (fun k1:Nat=> [(35, .one ((aI k1)))]) (fun k1=> [(17, .arr .bR (AI x k k1))]) (fun k1=>rfl) (by rw[h00];rfl) ?_;intro k1 hk1;have hpl:=ae2 x k k1 cQ;refine O [1,2,3,4,5,21,22,23,33,34,35,36] J ?_;refine eg J ?_ ?_<;>intro fu
   ·have hs:=Zh x k k1 cQ fu;have hsz:=am1 hk0 cQ k1;refine av (aA (aK (aL [1,2,3,4,5,7,21,22,23,33,34,35] J je (aA ?_))));have t1:=(Jh ((x.ah.getD k (aO .bR)).live) ((Br x (x.ah.getD k (aO .bR))).getD k1 (aO .int)) x.rows);refine bY [(45,⟨false,cA t1⟩)] [1,2,3,4,5,7,8,9,21,22,23,33,34,35] J qM (aA ?_);have t1:=(rH x ((Br x (x.ah.getD k (aO .bR))).getD k1 (aO .int)) (jK (x.ah.getD k (aO .bR)).live.key ((Br x (x.ah.getD k (aO .bR))).getD k1 (aO .int)) (fK (x.ah.getD k (aO .bR)).live) x.rows) ((x.ah.getD k (aO .bR)).live.seed) hk0);refine bY [(55,⟨true,cA t1⟩)] [1,2,3,4,5,7,9,10,21,22,23,33,34,35] J qM (aA ?_);have t1:=(rH x ((Br x (x.ah.getD k (aO .bR))).getD k1 (aO .int)) (jK (x.ah.getD k (aO .bR)).live.key ((Br x (x.ah.getD k (aO .bR))).getD k1 (aO .int)) (1-fK (x.ah.getD k (aO .bR)).live) x.rows) ((x.ah.getD k (aO .bR)).live.seed) hk0);refine bY [(65,⟨true,cA t1⟩)] [1,2,3,4,5,7,10,12,21,22,23,33,34,35] J qM ?_;have t1:=(FM ((AI x k k1).getD k (aO .bR)) ((Br x (x.ah.getD k (aO .bR))).getD k1 (aO .int)) (FJ x ((Br x (x.ah.getD k (aO .bR))).getD k1 (aO .int)) (jK (x.ah.getD k (aO .bR)).live.key ((Br x (x.ah.getD k (aO .bR))).getD k1 (aO .int)) (fK (x.ah.getD k (aO .bR)).live) x.rows) (x.ah.getD k (aO .bR)).live.seed) (FJ x ((Br x (x.ah.getD k (aO .bR))).getD k1 (aO .int)) (jK (x.ah.getD k (aO .bR)).live.key ((Br x (x.ah.getD k (aO .bR))).getD k1 (aO .int)) (1-fK (x.ah.getD k (aO .bR)).live) x.rows) (x.ah.getD k (aO .bR)).live.seed) hsz);refine cu X [] [(80,⟨true,cA t1⟩)] [1,2,3,4,5,21,22,23,33,34,35] [] 65535 1 MO gq J gq CW (bI [1,2,3,4,5,21,22,23,33,34,35] J ?_);exact aCk
   ·rw[ae3 x k k1 cQ fu];exact bf (bI [1,2,3,21,22,23] J Fz)
  ·exact bf (aL [2] J gA (au (aj J aCj)))
theorem uA(h0:gb aN c.aT≤1048576∧gb aN c.inbox≤1048576):So 96 [.agg (dw c)] [.agg (dU (⟨c,c⟩:bR))]:=by
 refine aZ call96 func96 ntmps96 ?_;intro zb;exact O [1,2] J (aA (cu X [(6,40)] [(4,⟨true,[.agg (dw c)]⟩),(6,⟨true,[.agg (dw c)]⟩)] [2] [] 31 0 MO gq J gq (aBw (lN c h0)) (au (aj J ⟨J,J,J,J,J,J,J,J,J,J,J,J,J,J,J,J,⟨⟩⟩))))
theorem yW(h0:cE d≤1048576):So 173 [.agg (dU d)] [.agg (dU (Sd d))]:=by
 refine aZ call173 func173 ntmps173 ?_;intro zb;have hc1:eO d.live≤1048576∧eO d.saved≤1048576:=by unfold cE at h0;omega
 unfold eO at hc1;refine O [1,2] J (bZ [(4,⟨false,[aX (gx d)]⟩)] [1,2,5] J (eY (jl d)) ?_);refine aM J ?_ ?_<;>intro hb0
 ·have hk:gx d=false:=by simpa using hb0
  have hd:Sd d=d:=by rw[Sd,hk];rfl
  exact bq [(7,⟨true,[.agg (dU d)]⟩)] [2] J (eY (oZ d h0)) (au (aj J Xt))
 ·have hk:gx d=true:=by simpa using hb0
  have hd:Sd d=⟨d.live,d.live⟩:=by rw[Sd,if_pos hk]
  exact av (bq [(10,⟨true,[.agg (dU (⟨d.live,d.live⟩:bR))]⟩)] [2] J (eY (uA d.live ⟨aJ,aJ⟩)) (au (aj J Xt)))
theorem LC:So 390 [.agg (dU d)] [aX (HX d)]:=by
 refine aZ call390 func390 ntmps390 ?_;intro zb;exact O [1] J (bq [(4,⟨false,[aX (gx d)]⟩)] [2] J (eY (jl d)) (au (aj J ⟨(congrArg eF aBP),⟨⟩⟩)))
theorem Jj(r n:Int):So 358 [.agg (dw c),aI r,aI n] [aI (jK c.key r (fK c) n),aI (jK c.key r (1-fK c) n)]:=by
 refine aZ call358 func358 ntmps358 ?_;intro zb;have hdw:=am5 c;exact O [1,2,3] J (bq [(10,⟨false,[aI (fK c)]⟩)] [1,2,3,8] J (eY (jJ c)) (aA (cT X [(16,⟨false,[aI (jK c.key r (fK c) n)]⟩),(23,⟨false,[aI (jK c.key r (af.wrap (1-fK c)) n)]⟩)] [6,7] 32767 rfl (qqu (oA c.key r (fK c) n) (oA c.key r (af.wrap (1-fK c)) n)) (au (aj J ⟨J,by rw[hdw],⟨⟩⟩)))))
theorem Jk(r:Int)(own other:List UInt8)(h0:gb aN c.aT≤1048576∧gb aN c.inbox≤1048576):So 389 [.agg (dw c),aI r, .a (.sl .u8 own), .a (.sl .u8 other)] [.agg (dw (lO c r own other)),aX (Gz c r)]:=by
 refine aZ call389 func389 ntmps389 ?_;intro zb;refine O [1,2,3,4,8] J (bq [(14,⟨true,[.agg (dw c)]⟩)] [1,2,3,4,8,10] J (eY (lN c h0)) (bZ [(16,⟨false,[aX (iJ c)]⟩),(22,⟨false,[aX (inr r c.next 99999)]⟩)] [1,2,3,4,8,10,24] J (Km (jj c) (bJ r c.next 99999)) ?_));refine aM J ?_ ?_<;>intro hb0
 ·have hk:Gz c r=false:=dy hb0 aqP;have hc:=Zt (own:=own) (other:=other) hk;exact aL [8,9] J gA (au (aj J aBs))
 ·have hk:Gz c r=true:=dr hb0 aqP;obtain⟨hok,hn1,hn2,hn3⟩:=am0 hk;obtain⟨hu1,hu2,_,_,hs0,hs9,_,_⟩:=rU hok;have hc:lO c r own other=⟨c.id,c.gJ,c.key,c.seed,c.aT,if HU c own then c.sent+1 else c.sent,if tM c other then c.inbox++ [(opP (DX c) (c.inbox.length:Int) other).body]else c.inbox,r+1⟩:=by rw[lO,if_pos hk]
  refine av (bZ [(35,⟨false,[.a (.sl .u8 (rQ c c.sent))]⟩),(36,⟨false,[aX (own==(rQ c c.sent))]⟩)] [1,3,4,8,10,37] J ⟨fun _=>oB own (rQ c c.sent),fun h=>xK c hs0 (of_decide_eq_true h),⟨⟩⟩ ?_);refine aM J ?_ ?_<;>intro cQ
  ·have hh:HU c own=true:=pX cQ aqQ;refine bI [1,3,4,8,10] J ?_;rw[cY (a:=c.sent+1) aJ];refine aA ?_;have t1:=(B9 (rB c.key (af.wrap (1-fK c))) (c.inbox.length:Int) other);refine cu X [] [(46,⟨false,[aI (fK c)]⟩),(48,⟨false,[aI (rB c.key (af.wrap (1-fK c)))]⟩),(53,⟨true,cA t1⟩)] [1,4,8,10,11,12] [] 98303 1 MO gq J gq (aqu (jJ c) (qn c.key (af.wrap (1-fK c)))) ?_;rw[Jg];refine aR [1,8,10,11,67] J ?_;refine aM J ?_ ?_<;>intro fu
   ·have hg:tM c other=true:=pX fu Xv;refine iB X [1,8,10] J Ga (O [8,10] J ?_);rw[cY (a:=r+1) aJ];exact aL [8,9] J gA (au (aj J aA0))
   ·have hg:tM c other=false:=ur fu Xv;refine av (O [8,10] J ?_);rw[cY (a:=r+1) aJ];exact aL [8,9] J gA (au (aj J aA1))
  ·have hh:HU c own=false:=ur cQ aqQ;refine av (aA ?_);have t1:=(B9 (rB c.key (af.wrap (1-fK c))) (c.inbox.length:Int) other);refine cu X [] [(46,⟨false,[aI (fK c)]⟩),(48,⟨false,[aI (rB c.key (af.wrap (1-fK c)))]⟩),(53,⟨true,cA t1⟩)] [1,4,8,10,11,12] [] 98303 1 MO gq J gq (aqu (jJ c) (qn c.key (af.wrap (1-fK c)))) ?_;rw[Jg];refine aR [1,8,10,11,67] J ?_;refine aM J ?_ ?_<;>intro fu
   ·have hg:tM c other=true:=pX fu Xv;refine iB X [1,8,10] J Ga (O [8,10] J ?_);rw[cY (a:=r+1) aJ];exact aL [8,9] J gA (au (aj J aA2))
   ·have hg:tM c other=false:=ur fu Xv;refine av (O [8,10] J ?_);rw[cY (a:=r+1) aJ];exact aL [8,9] J gA (au (aj J aA4))
theorem FN(r:Int)(own other:List UInt8)(h0:cE d≤1048576):So 359 [.agg (dU d),aI r, .a (.sl .u8 own), .a (.sl .u8 other)] [.agg (dU (rdev d r own other)),aX (Kr d r)]:=by
 refine aZ call359 func359 ntmps359 ?_;intro zb;have hc1:eO d.live≤1048576∧eO d.saved≤1048576:=by unfold cE at h0;omega
 unfold eO at hc1;refine O [1,2,3,4,8] J (aA ?_);have t1:=(Jk d.live r own other ⟨aJ,aJ⟩);refine bY [(19,⟨true,cA t1⟩)] [4,8,10,11] J qM (bZ [(23,⟨false,[aX (gx d)]⟩)] [4,8,10,28] J (eY (jl d)) ?_);refine aM J ?_ ?_<;>intro hb0
 ·have hk:Kr d r=false:=dy hb0 aqR;have hd:=afk (own:=own) (other:=other) hk;exact bq [(30,⟨true,[.agg (dU d)]⟩)] [8,9] J (eY (oZ d h0)) (au (aj J aqw))
 ·have hk:Kr d r=true:=dr hb0 aqR;have hz:=Zu (own:=own) (other:=other) hk;refine av (aA (cT X [(34,⟨true,[.agg (dw d.saved)]⟩)] [8,12] 63 rfl (eY (lN d.saved ⟨aJ,aJ⟩)) (bZ [(37,⟨false,[aX (HX (vp d r own other))]⟩)] [8,12,37] J (eY (LC (vp d r own other))) ?_)));refine aM J ?_ ?_<;>intro cQ
  ·have hd:=afl hk cQ;exact bq [(39,⟨true,[.agg (dU (Sd (vp d r own other)))]⟩)] [8,9] J (eY (yW (vp d r own other) hz)) (au (aj J aqw))
  ·have hd:=afm hk cQ;exact av (aL [8,9] J gA (au (aj J aBn)))
theorem LD(h0:wB x):So 299 [.agg (bC x)] [.agg (bC (MR x))]:=by
 refine aZ call299 func299 ntmps299 ?_;intro zb;have hls:gb jm x.aC≤1048576∧gb cE x.ah≤1048576∧iS x.aH≤1048576∧x.replaced.length≤4194304:=h0;have uI:=fT hls.2.1;refine O [1,2] J (bq [(17,⟨true,[.agg (bC x)]⟩)] [1,2,3] J (eY (gL x h0)) (bZ [(19,⟨false,[aX (okW x)]⟩)] [1,2,3,20] J (eY (eG x)) ?_));refine aM J ?_ ?_<;>intro hb0
 ·have hk0:okW x=false:=by simpa using hb0
  have hw:=am4 hk0;exact aL [2] J gA (au (aj J aBH))
 ·have hk0:okW x=true:=by simpa using hb0
  have hw:=Bv hk0;have har:=VS hk0;have hd8:=(Bi (uk hk0)).2.1;refine av (aR [1,2,3,4] J ?_);refine cm x.ah.length (fun k:Nat=> [(4, .one ((aI k)))]) (fun k=> [(19, .arr .bR (rdK x k))]) (fun k=>rfl) rfl ?_;intro k hk;have IL:=ae5 x k hk;refine aR [1,2,3,4,26] J ?_;refine bD J ?_ ?_<;>intro cQ
  ·rw[IL]at cQ;have hrg:=ae4 x k cQ;have h00:=amx x k cQ;have hrs:=G6 x.aH.rounds (x.ah.getD k (aO .bR)).live.next;have aG0:(Br x (x.ah.getD k (aO .bR))).length≤x.aH.rounds.length:=hrs;have hrq:(nH x.aH.rounds (x.ah.getD k (aO .bR)).live.next).length=(Br x (x.ah.getD k (aO .bR))).length:=rfl;refine av (aA (aK (aA ?_)));have t1:=(xX x.aH (((rdK x k).getD k (aO .bR)).live.next) aJ);refine cT X [(38,⟨true,cA t1⟩)] [1,2,3,4,5] 2047 rfl CW ?_;rw[hrg];refine O [1,2,3,4,5,6] J ?_;refine cm ((Br x (x.ah.getD k (aO .bR))).length) (fun k1:Nat=> [(6, .one ((aI k1)))]) (fun k1=> [(19, .arr .bR (AI x k k1))]) (fun k1=>rfl) (by rw[h00];rfl) ?_;intro k1 hk1;have hpl:=ae2 x k k1 cQ;refine aR [1,2,3,4,5,6,42] J ?_;refine bD J ?_ ?_<;>intro fu
   ·have hs:=am3 x k k1 cQ fu;have hsz:=am1 hk0 cQ k1;refine av (aA (aK (aL [1,2,3,4,5,6,7] J je (aA ?_))));have t1:=(Jj (((AI x k k1).getD k (aO .bR)).live) ((Br x (x.ah.getD k (aO .bR))).getD k1 (aO .int)) x.rows);refine cT X [(59,⟨false,cA t1⟩)] [1,2,3,4,5,6,7,8,9] 8191 rfl CW (aA ?_);have t1:=(ya x ((Br x (x.ah.getD k (aO .bR))).getD k1 (aO .int)) (jK ((AI x k k1).getD k (aO .bR)).live.key ((Br x (x.ah.getD k (aO .bR))).getD k1 (aO .int)) (fK ((AI x k k1).getD k (aO .bR)).live) x.rows) (((AI x k k1).getD k (aO .bR)).live.seed) hk0);refine cT X [(71,⟨true,cA t1⟩)] [1,2,3,4,5,6,7,9,10] 16383 rfl CW (aA ?_);have t1:=(ya x ((Br x (x.ah.getD k (aO .bR))).getD k1 (aO .int)) (jK ((AI x k k1).getD k (aO .bR)).live.key ((Br x (x.ah.getD k (aO .bR))).getD k1 (aO .int)) (1-fK ((AI x k k1).getD k (aO .bR)).live) x.rows) (((AI x k k1).getD k (aO .bR)).live.seed) hk0);refine cT X [(83,⟨true,cA t1⟩)] [1,2,3,4,5,6,10,12] 16383 rfl CW (aA ?_);have t1:=(FN ((AI x k k1).getD k (aO .bR)) ((Br x (x.ah.getD k (aO .bR))).getD k1 (aO .int)) (FJ x ((Br x (x.ah.getD k (aO .bR))).getD k1 (aO .int)) (jK ((AI x k k1).getD k (aO .bR)).live.key ((Br x (x.ah.getD k (aO .bR))).getD k1 (aO .int)) (fK ((AI x k k1).getD k (aO .bR)).live) x.rows) ((AI x k k1).getD k (aO .bR)).live.seed) (FJ x ((Br x (x.ah.getD k (aO .bR))).getD k1 (aO .int)) (jK ((AI x k k1).getD k (aO .bR)).live.key ((Br x (x.ah.getD k (aO .bR))).getD k1 (aO .int)) (1-fK ((AI x k k1).getD k (aO .bR)).live) x.rows) ((AI x k k1).getD k (aO .bR)).live.seed) hsz);refine cu X [] [(98,⟨true,cA t1⟩)] [1,2,3,4,5,6,14] [] 196607 1 MO gq J gq CW (iB X [1,2,3,4,5,6] J je (bI [1,2,3,4,5,6] J ?_));exact aCk
   ·rw[ae3 x k k1 cQ fu];exact bf (bI [1,2,3,4] J Fz)
  ·rw[IL]at cQ;exact bf (aL [2] J gA (au (aj J aCj)))
end
section
variable(s:cH)
set_option maxRecDepth 100000
theorem D6(c:Int)(hz:s.received.length≤1048576∧ ∀r,r∈s.received→gb aN r.share.rows≤1048576):So 317 [.agg (ep s),aI c] [.agg (bT (G2 s.received c)),aX (tQ s.received c)]:=by
 refine aZ call317 func317 ntmps317 ?_;intro zb;refine cj 0 3 rfl rfl (fun hl3=>(O [1,2,4] J (aR [1,4,9,10,11] J ?_)));refine aK (ef (fun k=>k≤s.received.length∧(s.received.take k).any (isC c)=false) (fun k:Nat=> [(11, .one ((aI k)))]) (fun k=> []) (fun k=>s.received.length-k) 0 (fun k=>rfl) ⟨aY _,rfl⟩ rfl ?_);rintro k ⟨hk,hall⟩;refine O [1,4,9,10,11,12] J ?_;refine eg J ?_ ?_<;>intro hb0
 ·refine av (aA (aK (aL [1,4,7,9,10,11] J je (O [1,4,7,9,10,11,18] J ?_))));refine aM J ?_ ?_<;>intro cQ
  ·have hh:=acE hb0 hall cQ;exact bq [(21,⟨true,[.agg (bT ((s.received.getD k (aO .bL)).share))]⟩)] [4,5] J (by(with_reducible and_intros)<;>first|exact⟨⟩|exact(gd ((s.received.getD k (aO .bL)).share) (hz.2 _ (getD_in _ hb0)))) (au (aj J ⟨by rw[hh.2],by rw[hh.1],⟨⟩⟩))
  ·refine av (bI [1,4,9,10,11] J ?_);refine⟨k+1,⟨aJ,Bf (aO .bL) hb0 hall cQ⟩,aJ,?_⟩;rw[gT _ k rfl aJ];try rfl
 ·exact bf (aL [4,5] J gA (au (aj J ⟨by rw[(N6 OI).2],by rw[(N6 OI).1],⟨⟩⟩)))
theorem QG(c:Int)(hz:s.received.length≤1048576∧ ∀r,r∈s.received→gb aN r.share.rows≤1048576):So 393 [.agg (ep s),aI c] [.agg (bT (G2 s.received c)),aX (tQ s.received c)]:=by
 refine aZ call393 func393 ntmps393 ?_;intro zb;refine cj 0 3 rfl rfl (fun hl3=>(O [1,2,4] J (aR [1,2,4,6] J ?_)));refine aK (ef (fun k=>k≤s.received.length∧(s.received.take k).any (isC c)=false) (fun k:Nat=> [(6, .one ((aI k)))]) (fun k=> []) (fun k=>s.received.length-k) 0 (fun k=>rfl) ⟨aY _,rfl⟩ rfl ?_);rintro k ⟨hk,hall⟩;refine aR [1,2,4,6,11] J ?_;refine bD J ?_ ?_<;>intro hb0
 ·refine av (aA (aK (aL [1,2,4,6,21] J je ?_)));refine aM J ?_ ?_<;>intro cQ
  ·have hh:=acE hb0 hall cQ;exact bq [(28,⟨true,[.agg (bT ((s.received.getD k (aO .bL)).share))]⟩)] [4,5] J (by(with_reducible and_intros)<;>first|exact⟨⟩|exact(j8 ((s.received.getD k (aO .bL)).share) (hz.2 _ (getD_in _ hb0)))| (intros;omega)) (au (aj J ⟨by rw[hh.2],by rw[hh.1],⟨⟩⟩))
  ·refine av (bI [1,2,4,6] J ?_);refine⟨k+1,⟨aJ,Bf (aO .bL) hb0 hall cQ⟩,aJ,?_⟩;rw[gT _ k rfl aJ];try rfl
 ·exact bf (aL [4,5] J gA (au (aj J ⟨by rw[(N6 OI).2],by rw[(N6 OI).1],⟨⟩⟩)))
theorem Cw(r:bL)(c:Int):jr ty aP 319 [(1000, .box [eE c])] [.agg (AM r), .a (.ptr 1000 0)] [(1000, .box [eE c])] [aX (decide (r.client>c))]:=by
 refine ff X call319 func319 rfl rfl cO ntmps319 fI rfl ?_;intro zb;exact O [1,2] J (aL [3] J gA (au (bB J ⟨J,J,⟨⟩⟩)))
theorem kD(l:List bL)(c:Int)(hl: ∀r,r∈l→r.client<c):jr ty aP 318 [(1000, .box [eE c])] [.a (.sl .bL l), .a (.S3 319 1000)] [(1000, .box [eE c])] [aI (-1)]:=by
 refine ff X call318 func318 rfl rfl cO ntmps318 fI rfl ?_;intro zb;refine fC 0 rfl (fun pK=>(O [0,1] J (aR [0,1,7,8] J ?_)));refine cm l.length (fun k:Nat=> [(8, .one ((aI k)))]) (fun k=> []) (fun k=>rfl) rfl ?_;intro k hk;refine O [0,1,7,8,9] J ?_;refine eg J ?_ ?_<;>intro hb0
 ·have hlt:=hl _ (getD_in (aO .bL) hb0);refine av (aA (aK (O [0,1,5,7,8] J (aA ?_))));have t1:=(Cw (l.getD k (aO .bL)) c);refine bY [(800016,⟨true,iW t1⟩),(700016,⟨true, .agg [.ptr 1000 1000]:: .agg []::iX t1⟩)] [0,1,5,7,8,16] J CW ?_;refine bD J ?_ ?_<;>intro cQ
  ·omega
  ·exact av (bI [0,1,7,8] J Fz)
 ·exact bf (O [4] J (au (bB J ⟨J,J,⟨⟩⟩)))
theorem kR(l:List bL)(y:bL)(hl:l.length≤1048576):jr ty aP 320 [(5, .arr .bL l),(6, .arr .bL [y])] [.a (.own 5),aI (l.length:Int), .a (.own 6)] [(5, .arr .bL (l++ [y]))] [.a (.own 5)]:=by
 refine ff X call320 func320 rfl rfl cO ntmps320 fI rfl ?_;intro zb;refine O [0,1,2] J (aL [0,1,2] J je (O [0,1,2,7] J (aR [0,1,2,7,16] J ?_)));refine bD J ?_ ?_<;>intro hb0
 ·simp at hb0
 ·refine av (O [0,1,2,7,8] J (aR [0,1,2,7,8,22] J ?_));refine bD J ?_ ?_<;>intro cQ
  ·exact mK X [(25,5)] [] [6] [] J Ga (au (bB J ⟨J,⟨⟩⟩))
  ·simp at cQ
theorem FO(c:Int)(d:DB)(hz:s.received.length≤1048576∧ ∀r,r∈s.received→gb aN r.share.rows≤1048576)(hb: ∀r,r∈s.received→r.client<c)(hd:gb aN d.rows≤1048576):So 259 [.agg (ep s),aI c, .agg (bT d)] [.agg (ep (rcv s c d)),aX (sY s c d)]:=by
 refine aZ call259 func259 ntmps259 ?_;intro zb;have hsn:=ami (s:=s) hb;have pK:=hz.1;refine mK X [(4,904)] [] [3,4,5,6] [] J ⟨⟩ (bq [(13,⟨true,[.agg (ep s)]⟩)] [3,4,5,6,8] J (eY (oF s hz)) (aA (aA ?_)));have t1:=(D6 s c hz);refine bY [(17,⟨true,cA t1⟩)] [3,4,5,6,8,10] J qM (bq [(23,⟨false,[aX (fk s)]⟩)] [3,4,5,6,8,25] J (qqz (ig s)) ?_);refine aM J ?_ ?_<;>intro hb0
 ·have hk:fk s=false:=by rw[hsn]at hb0;simpa using hb0
  have hr:sY s c d=false:=by rw[sY,hk];rfl
  exact aL [6,7] J gA (au (aj J axo))
 ·have hk:fk s=true:=by rw[hsn]at hb0;simpa using hb0
  refine av (aA ?_);have t1:=(kD s.received c hb);refine bY [(800030,⟨true,iW t1⟩),(700030,⟨true, .agg [.ptr 1000 904]:: .agg []::iX t1⟩)] [3,4,5,6,8,11] J qM (aR [3,4,5,6,8,11,32] J ?_);refine bD J ?_ ?_<;>intro cQ
  ·refine bI [3,4,5,6,8,11] J (aA ?_);have t1:=(kR s.received (⟨c,d⟩:bL) fj);refine cu X [] [(41,⟨true,[.agg (bT d)]⟩),(800044,⟨true,iW t1⟩),(700044,⟨true, .agg [.ptr 5 16, .ptr 6 43]:: .agg []::iX t1⟩)] [3,6,8] [] 639 5 MO gq J gq (aBf (gd d hd)) (bZ [(47,⟨false,[aX (fk (sX s c d))]⟩)] [3,6,8,48] J (eY (ig (sX s c d))) ?_);refine aM J ?_ ?_<;>intro fu
   ·have hr:sY s c d=false:=by rw[sY,hk];simpa using fu
    exact bq [(50,⟨true,[.agg (ep s)]⟩)] [6,7] J (eY (oF s hz)) (au (aj J axo))
   ·have hr:sY s c d=true:=by rw[sY,hk];simpa using fu
    exact av (aL [6,7] J gA (au (aj J aBk)))
  ·omega
theorem FP(c:Int)(d:DB)(hz:s.received.length≤1048576∧ ∀r,r∈s.received→gb aN r.share.rows≤1048576)(hb: ∀r,r∈s.received→r.client<c)(hd:gb aN d.rows≤1048576):So 354 [.agg (ep s),aI c, .agg (bT d)] [.agg (ep (rcv s c d)),aX (sY s c d)]:=by
 refine aZ call354 func354 ntmps354 ?_;intro zb;have pK:=hz.1;refine O [1,3,5,6] J (bq [(11,⟨true,[.agg (ep s)]⟩)] [1,3,5,6,8] J (eY (s7 s hz)) (O [1,3,5,6,8,9] J ?_));refine aA (cm s.received.length (fun k:Nat=> [(9, .one ((aI k)))]) (fun k=> []) (fun k=>rfl) rfl ?_);intro k hk;refine aA (aL [1,3,5,6,8,9,26] J (by refine⟨fun hzz=> ?_,fun hzz=> ?_,⟨⟩⟩<;>(have hz2:decide ((k:Int)<(s.received.length:Int))=true:=hzz;rw[decide_eq_true_eq]at hz2;dsimp only[hyps,abu];omega)) ?_);refine aM J ?_ ?_<;>intro hb0
 ·have IL:k<s.received.length:=by simp only[nb]at hb0;omega
  have hlt:=hb _ (getD_in (aO .bL) IL);exact av (aK (bI [1,3,5,6,8,9] J Fz))
 ·have IL:k=s.received.length:=asP hb hk hb0;subst IL;refine amo 8 3 rfl (bf (aA (cu X [(34,29),(40,29),(45,29)] [(37,⟨true,[.agg (bT d)]⟩),(600044,⟨true,[]⟩)] [3,6,8] [] 193503 259 MO gq J gq (aB3 (j8 d hd)) ?_)));rw[ins_eq];refine bZ [(48,⟨false,[aX (fk s)]⟩),(52,⟨false,[aX (fk (sX s c d))]⟩)] [3,6,8,54] J (Km (ij s) (ij (sX s c d))) ?_;refine aM J ?_ ?_<;>intro cQ
  ·have hr:sY s c d=false:=aDO cQ;exact bq [(56,⟨true,[.agg (ep s)]⟩)] [6,7] J (eY (s7 s hz)) (au (aj J axo))
  ·have hr:sY s c d=true:=aDP cQ;exact av (aL [6,7] J gA (au (aj J aBk)))
end
section
set_option maxRecDepth 100000
theorem D7(x:dF)(h0:wB x):So 190 [.agg (bC x)] [.a (.sl .cH (cF x)), .a (.sl .kj (mV x))]:=by
 refine aZ call190 func190 ntmps190 ?_;intro zb;refine cj 0 1 rfl rfl (fun hl1=> ?_);refine cj 0 2 rfl rfl (fun uI=> ?_);have hsv:=B5 h0;refine O [1] J (bZ [(10,⟨false,[aX (okW x)]⟩)] [1,11] J (eY (dY x)) ?_);refine aM J ?_ ?_<;>intro hb0
 ·have hk0:okW x=false:=by simpa using hb0
  exact O [2,3] J (au (aj J ⟨by rw[cF,if_neg aq7],by rw[mV,if_neg aq7],⟨⟩⟩))
 ·have hk0:okW x=true:=by simpa using hb0
  have aG1:=iY hk0;have hdv:=(Bi (uk hk0)).2.1;have hc0:=(col hk0 0 (aY _)).sml;refine av (bq [(14,⟨true,[.a (.sl .cH x.aC)]⟩)] [1,4] J (eY (xT x.aC aJ hc0)) (aL [1,4,5] J qb (aR [1,4,5,18,19] J ?_)));refine cm x.ah.length (fun k:Nat=> [(19, .one ((aI k)))]) (fun k=> [(14, .arr .cH (FH x k)),(15, .arr .kj (Ql x k))]) (fun k=>rfl) rfl ?_;intro k hk;refine O [1,4,5,18,19,20] J ?_;refine eg J ?_ ?_<;>intro cQ
  ·have Zv:k<x.ah.length:=by omega
   have hwl:(sW x (k:Int)).length=x.aC.length:=by rw[Qh hk0 aJ];exact oY hk0 aJ
   have hw:sW x (k:Int)=gU x (k:Int):=Qh hk0 aJ;refine av (aA (aK (O [1,4,5,6,18,19] J (bq [(24,⟨true,[.a (.sl .DB (sW x (k:Int)))]⟩)] [1,4,5,6,18,19,24,25,26] J (eY (G1 x (k:Int) fj)) ?_))));refine cm x.aC.length (fun k1:Nat=> [(26, .one ((aI k1)))]) (fun k1=> [(14, .arr .cH (FI x k k1)),(15, .arr .kj (Ql x k++Qk x k k1))]) (fun k1=>rfl) (by simp[FI,Qk]) ?_;intro k1 hk1;have hpl:=Y9 hk0 Zv hk1;refine O [1,4,5,6,18,19,24,25,26,27] J ?_;refine eg J ?_ ?_<;>intro fu
   ·have RU:=Zc hk0 Zv (by omega:k1<x.aC.length);have hs1:=TG hk0 Zv (by omega:k1<x.aC.length);have hs2:=Ln x k k1;have hrl:=Qm x k;have hrp:=IY x k k1;have Xd:k*x.aC.length≤8*4:=uL aJ aJ;refine av (aA (aK (aL [1,4,5,6,7,8,18,19,24,25,26] J je (aA ?_))));have t1:=(FO ((FI x k k1).getD k1 (aO .cH)) (k:Int) ((sW x (k:Int)).getD k1 (aO .DB)) RU.2.1 RU.1 (by rw[hw];exact RU.2.2));refine cu X [] [(40,⟨true,cA t1⟩)] [1,4,5,6,7,8,18,19,24,25,26] [] 8191 1 MO gq J gq CW ?_;have t1:=(G4 (oo x.bW (k1:Int)) (k1:Int) (k:Int) x.round ((sW x (k:Int)).getD k1 (aO .DB)) (by rw[hw];exact RU.2.2));refine cu X [(56,15)] [(48,⟨false,[aI (oo x.bW (k1:Int))]⟩),(54,⟨false,cA t1⟩)] [1,4,5,6,18,19,24,25,26] [] 4095 0 MO gq J gq (have u1:=(pY x.bW (k1:Int));(by(repeat' with_reducible first|exact c8|refine dP ?_ ?_|apply cL);(iterate 2 all_goals try first|exact u1|exact t1);all_goals first|exact rfl|exact⟨rfl,fA _ cO⟩| (simp only[vI,maxLen,lens];omega))) ?_;exact bI [1,4,5,6,18,19,24,25,26] J (by refine⟨k1+1,aJ,aJ,?_⟩;rw[gT _ k1 rfl aJ,hw, ←hs1,hs2, ←bU];try rfl)
   ·rw[Zb hk0 Zv aJ,show k1=x.aC.length by omega, ←Lo];exact bf (bI [1,4,5,18,19] J Fz)
  ·exact bf (O [2,3] J (au (aj J ⟨by rw[cF,if_pos hk0,show x.ah.length=k by omega],by rw[mV,if_pos hk0,show x.ah.length=k by omega],⟨⟩⟩)))
theorem D8(x:dF)(h0:wB x):So 296 [.agg (bC x)] [.a (.sl .cH (cF x)), .a (.sl .kj (mV x))]:=by
 refine aZ call296 func296 ntmps296 ?_;intro zb;refine cj 0 1 rfl rfl (fun hl1=> ?_);refine cj 0 2 rfl rfl (fun uI=> ?_);have hsv:=B5 h0;refine O [1] J (aL [1,4] J qb (bZ [(13,⟨false,[aX (okW x)]⟩)] [1,4,14] J (eY (eG x)) ?_));refine aM J ?_ ?_<;>intro hb0
 ·have hk0:okW x=false:=by simpa using hb0
  exact aL [2,3] J qb (au (aj J ⟨by rw[cF,if_neg aq7],by rw[mV,if_neg aq7],⟨⟩⟩))
 ·have hk0:okW x=true:=by simpa using hb0
  have aG1:=iY hk0;have hdv:=(Bi (uk hk0)).2.1;have hc0:=(col hk0 0 (aY _)).sml;refine av (bq [(18,⟨true,[.agg (bC x)]⟩)] [1,4,5] J ⟨⟨_,_,_,Tryz.underlying39,rfl,rfl,Tryz.underlying32,rfl⟩,gL x h0,⟨⟩⟩ (aR [1,4,5,6] J ?_));refine cm x.ah.length (fun k:Nat=> [(6, .one ((aI k)))]) (fun k=> [(19, .arr .cH (FH x k)),(11, .arr .kj (Ql x k))]) (fun k=>rfl) rfl ?_;intro k hk;refine aR [1,4,5,6,24] J ?_;refine bD J ?_ ?_<;>intro cQ
  ·have Zv:k<x.ah.length:=by omega
   have hwl:(gU x (k:Int)).length=x.aC.length:=oY hk0 aJ;refine av (aA (aK (bq [(29,⟨true,[.a (.sl .DB (gU x (k:Int)))]⟩)] [1,4,5,6,7] J (eY (Lm x (k:Int) fj fj)) (O [1,4,5,6,7,8] J ?_))));refine cm x.aC.length (fun k1:Nat=> [(8, .one ((aI k1)))]) (fun k1=> [(19, .arr .cH (FI x k k1)),(11, .arr .kj (Ql x k++Qk x k k1))]) (fun k1=>rfl) (by simp[FI,Qk]) ?_;intro k1 hk1;have hpl:=Y9 hk0 Zv hk1;refine aR [1,4,5,6,7,8,33] J ?_;refine bD J ?_ ?_<;>intro fu
   ·rw[hpl]at fu;have RU:=Zc hk0 Zv (by omega:k1<x.aC.length);have hs1:=TG hk0 Zv (by omega:k1<x.aC.length);have hs2:=Ln x k k1;have hrl:=Qm x k;have hrp:=IY x k k1;have Xd:k*x.aC.length≤8*4:=uL aJ aJ;refine av (aA (aK (aA ?_)));have t1:=(FP ((FI x k k1).getD k1 (aO .cH)) (k:Int) ((gU x (k:Int)).getD k1 (aO .DB)) RU.2.1 RU.1 RU.2.2);refine cu X [] [(46,⟨true,cA t1⟩)] [1,4,5,6,7,8,9] [] 49151 1 MO gq J gq CW (aL [1,4,5,6,7,8] J je ?_);have t1:=(G5 (oo x.bW (k1:Int)) (k1:Int) (k:Int) x.round ((gU x (k:Int)).getD k1 (aO .DB)) RU.2.2);refine cu X [(68,11)] [(57,⟨false,[aI (oo x.bW (k1:Int))]⟩),(66,⟨false,cA t1⟩)] [1,4,5,6,7,8] [] 32767 0 MO gq J gq (have u1:=(pZ x.bW (k1:Int));(by(repeat' with_reducible first|exact c8|refine dP ?_ ?_|apply cL);(iterate 2 all_goals try first|exact u1|exact t1);all_goals first| (intros;omega)|exact rfl|exact⟨rfl,fA _ cO⟩| (simp only[vI,maxLen,lens];omega))) ?_;exact bI [1,4,5,6,7,8] J (by refine⟨k1+1,aJ,aJ,?_⟩;rw[gT _ k1 rfl aJ, ←hs1,hs2, ←bU];try rfl)
   ·rw[hpl]at fu;rw[Zb hk0 Zv aJ,show k1=x.aC.length by omega, ←Lo];exact bf (bI [1,4,5,6] J Fz)
  ·exact bf (O [2,3] J (au (aj J ⟨by rw[cF,if_pos hk0,show x.ah.length=k by omega],by rw[mV,if_pos hk0,show x.ah.length=k by omega],⟨⟩⟩)))
end
section
variable(s:cH)(key:Int)
set_option maxRecDepth 100000
theorem Bw(rows:Int)(l:List bL)(hz: ∀r,r∈l→gb aN r.share.rows≤1048576):So 323 [aI rows, .a (.sl .bL l)] [.agg (bT (l6 rows l))]:=by
 refine aZ call323 func323 ntmps323 ?_;intro zb;refine fC 1 rfl (fun pK=>(O [0,1,4] J (bq [(9,⟨true,[.agg (bT (ir rows))]⟩)] [1,4,5] J (eY (xN rows)) (aR [4,5,10,11,12] J ?_))));refine cm l.length (fun k:Nat=> [(12, .one ((aI k)))]) (fun k=> [(9, .arr (.sl .u8) (l6 rows (l.take k)).rows)]) (fun k=>rfl) rfl ?_;intro k hk;refine O [4,5,10,11,12,13] J ?_;refine eg J ?_ ?_<;>intro hb0
 ·have hs:=TN rows l k hb0;refine av (aA (aK (aL [4,5,7,10,11,12] J je (bY [(20,⟨true,[.agg (bT (lM (l6 rows (l.take k)) ((l.getD k (aO .bL)).share))),aX (pL (l6 rows (l.take k)) ((l.getD k (aO .bL)).share))]⟩)] [4,5,10,11,12] J (by(with_reducible and_intros)<;>first|exact⟨⟩|exact(qo (l6 rows (l.take k)) ((l.getD k (aO .bL)).share) (afc _ _) (hz _ (getD_in _ hb0)))) (uq 5 0 9 rfl (bI [4,5,10,11,12] J ?_))))));exact gZ
 ·exact bf (aL [4] J gA (au (aj J ⟨by rw[aD hb0],⟨⟩⟩)))
theorem uN(f:Nat)(hf:f≤8)(hz: ∀r,r∈s.received→gb aN r.share.rows≤1048576):So 387 [.agg (ep s),aI ((f:Nat):Int)] [.agg (bT (l6 s.rows (s.received.drop f)))]:=by
 refine aZ call387 func387 ntmps387 ?_;intro zb;refine cj 0 3 rfl rfl (fun pK=>(O [1,2,4] J (bq [(11,⟨true,[.agg (bT (ir s.rows))]⟩)] [1,2,4,5] J (eY (xO s.rows)) (aR [2,4,5,6] J ?_))));refine aK (ef (fun k=>f≤k∧(k≤s.received.length∨k=f)) (fun k:Nat=> [(6, .one ((aI k)))]) (fun k=> [(11, .arr (.sl .u8) (l6 s.rows ((s.received.drop f).take (k-f))).rows)]) (fun k=>s.received.length-k) f (fun k=>rfl) ⟨aS _,Or.inr rfl⟩ (by simp[l6]) ?_);rintro k ⟨hk,hk2⟩;refine aR [2,4,5,6,17] J ?_;refine bD J ?_ ?_<;>intro hb0
 ·have hs:=aip s.rows s.received f k hb0 hk;refine av (aA (aK (aA (cu X [] [(28,⟨true,[.agg (bT (lM (l6 s.rows ((s.received.drop f).take (k-f))) ((s.received.getD k (aO .bL)).share))),aX (pL (l6 s.rows ((s.received.drop f).take (k-f))) ((s.received.getD k (aO .bL)).share))]⟩)] [2,4,5,6,7] [] 12287 1 MO gq J gq (by(with_reducible and_intros)<;>first|exact⟨⟩|exact(qp (l6 s.rows ((s.received.drop f).take (k-f))) ((s.received.getD k (aO .bL)).share) (afc _ _) (hz _ (getD_in _ hb0)))| (intros;omega)) (iB X [2,4,5,6] J gA (uq 5 0 11 rfl (bI [2,4,5,6] J ?_)))))));exact gZ
 ·exact bf (aL [4] J gA (au (aj J ⟨by rw[amL _ _ _ _ hb0],⟨⟩⟩)))
theorem Hf:So 331 [.agg (ep s)] [.agg (bT (yc s))]:=by
 refine aZ call331 func331 ntmps331 ?_;intro zb;refine O [1,2] J (bZ [(4,⟨false,[aX (fk s)]⟩)] [1,2,5] J (eY (ig s)) ?_);refine aM J ?_ ?_<;>intro hb0
 ·have hk:fk s=false:=by simpa using hb0
  exact aL [2] J gA (au (aj J ⟨by rw[yc,hk];rfl,⟨⟩⟩))
 ·have hk:fk s=true:=by simpa using hb0
  have hsz:=I9 hk;exact av (bq [(11,⟨true,[.agg (bT (l6 s.rows s.received))]⟩)] [2] J (eY (Bw s.rows s.received hsz)) (au (aj J ⟨by rw[yc,if_pos hk],⟨⟩⟩)))
theorem Hg:So 396 [.agg (ep s)] [.agg (bT (yc s))]:=by
 refine aZ call396 func396 ntmps396 ?_;intro zb;refine O [1,2] J (bZ [(4,⟨false,[aX (fk s)]⟩)] [1,2,5] J (eY (ij s)) ?_);refine aM J ?_ ?_<;>intro hb0
 ·have hk:fk s=false:=by simpa using hb0
  exact aL [2] J gA (au (aj J ⟨by rw[yc,hk];rfl,⟨⟩⟩))
 ·have hk:fk s=true:=by simpa using hb0
  have hsz:=I9 hk;exact av (bq [(8,⟨true,[.agg (bT (l6 s.rows (s.received.drop 0)))]⟩)] [2] J (eY (uN s 0 cO hsz)) (au (aj J ⟨by rw[yc,if_pos hk];rfl,⟨⟩⟩)))
theorem FQ:So 261 [.agg (ep s)] [.agg (bT (tJ s))]:=by
 refine aZ call261 func261 ntmps261 ?_;intro zb;refine O [1,2] J (bZ [(6,⟨false,[aX (fk s)]⟩)] [1,2,7] J (eY (ig s)) ?_);refine aM J ?_ ?_<;>intro hb0
 ·have hk:fk s=false:=by simpa using hb0
  exact aL [2] J gA (au (aj J ⟨by rw[tJ,hk];rfl,⟨⟩⟩))
 ·have hk:fk s=true:=by simpa using hb0
  have hsz:=I9 hk;have hin:=amO hk;refine av (O [1,2,3] J (aR [1,2,3,13] J ?_));refine bD J ?_ ?_<;>intro cQ
  ·have hr:=TO s aJ;have pK:=(afd hk).2;have hmi:=amM 1 (s.received.length:Int);refine iB X [1,2,3] J je ?_;rw[show List.take ((s.received.length:Int)).toNat s.received=s.received by simp,amN, ←hr];refine bq [(22,⟨true,[.agg (bT (l6 s.rows (rcvd s)))]⟩)] [1,2,4] J (eY (Bw s.rows (rcvd s) (fun r hr2=>hsz r (amQ s r hr2)))) (aR [2,4,25] J ?_);refine bD J ?_ ?_<;>intro fu
   ·omega
   ·exact av (aL [2] J gA (au (aj J ⟨by rw[tJ,if_pos hk,if_neg aJ],⟨⟩⟩)))
  ·have hr:=Zk s aJ;rw[hr]at hin;have Zw:0<((l6 s.rows s.received).rows.getD (cX 0) (aO (.sl .u8))).length:=hin.2;refine av (bq [(22,⟨true,[.agg (bT (l6 s.rows s.received))]⟩)] [1,2,4] J (eY (Bw s.rows s.received hsz)) (aR [2,4,25] J ?_));refine bD J ?_ ?_<;>intro fu
   ·have aJK:s.behavior=2:=by omega
    exact iB X [2,4] J ag0 (aL [2] J gA (au (aj J ⟨by rw[tJ,if_pos hk,if_pos aJ,hr];exact alt_eq _,⟨⟩⟩)))
   ·exact av (aL [2] J gA (au (aj J ⟨by rw[tJ,if_pos hk,if_neg aJ,hr],⟨⟩⟩)))
theorem FR:So 356 [.agg (ep s)] [.agg (bT (tJ s))]:=by
 refine aZ call356 func356 ntmps356 ?_;intro zb;refine O [1,2] J (bZ [(5,⟨false,[aX (fk s)]⟩)] [1,2,6] J (eY (ij s)) ?_);refine aM J ?_ ?_<;>intro hb0
 ·have hk:fk s=false:=by simpa using hb0
  exact aL [2] J gA (au (aj J ⟨by rw[tJ,hk];rfl,⟨⟩⟩))
 ·have hk:fk s=true:=by simpa using hb0
  have hsz:=I9 hk;have hin:=amO hk;refine av (aR [1,2,9] J (aK (O [1,2,9,10] J ?_)));refine bD J ?_ ?_<;>intro cQ
  ·have hr:=TO s aJ;exact bq [(13,⟨true,[.agg (bT (l6 s.rows (s.received.drop 1)))]⟩)] [2] J (eY (uN s 1 cO hsz)) (au (aj J ⟨by rw[tJ,if_pos hk,if_neg aJ,hr],⟨⟩⟩))
  ·have hr:=Zk s aJ;rw[hr]at hin;have Zw:0<((l6 s.rows s.received).rows.getD (cX 0) (aO (.sl .u8))).length:=hin.2;have aJL:0<((l6 s.rows (Af 0 s.received)).rows.getD (cX 0) (aO (.sl .u8))).length:=hin.2;have aJM:0<(l6 s.rows (Af 0 s.received)).rows.length:=hin.1;refine O [1,2,14] J ?_;refine bD J ?_ ?_<;>intro fu
   ·exact bq [(17,⟨true,[.agg (bT (l6 s.rows (s.received.drop 0)))]⟩)] [2,3] J (eY (uN s 0 cO hsz)) (aA (cT X [] [2,3] 4095 rfl ag0 (aL [2] J gA (au (aj J ⟨by rw[tJ,if_pos hk,if_pos aJ,hr];exact alt_eq _,⟨⟩⟩)))))
   ·exact av (bq [(32,⟨true,[.agg (bT (l6 s.rows (s.received.drop 0)))]⟩)] [2] J (eY (uN s 0 cO hsz)) (au (aj J ⟨by rw[tJ,if_pos hk,if_neg aJ,hr];rfl,⟨⟩⟩)))
theorem Cx(a b:DB):So 330 [.agg (bT a), .agg (bT b)] [aX (a.rows==b.rows)]:=by
 refine aZ call330 func330 ntmps330 ?_;intro zb;exact O [2,3] J (bq [(9,⟨false,[aX (a.rows==b.rows)]⟩)] [4] J (eY (sP a.rows b.rows)) (au (aj J ⟨J,⟨⟩⟩)))
theorem Cy(a b:DB):So 395 [.agg (bT a), .agg (bT b)] [aX (a.rows==b.rows)]:=by
 refine aZ call395 func395 ntmps395 ?_;intro zb;exact O [2,3] J (bq [(9,⟨false,[aX (a.rows==b.rows)]⟩)] [4] J (eY (oC a.rows b.rows)) (au (aj J ⟨J,⟨⟩⟩)))
theorem D9(r:kj):So 328 [aI key, .agg (sD r)] [aX (ag9 key r)]:=by
 refine aZ call328 func328 ntmps328 ?_;intro zb;exact O [0,3] J (aA (cT X [(9,⟨false,[aI (aih key r.server r.client r.round r.xl)]⟩)] [4] 127 rfl (eY (yP key r)) (au (aj J ⟨(congrArg eF aBQ),⟨⟩⟩))))
theorem Cz(r:kj)(d:DB)(hd:gb aN d.rows≤1048576):So 329 [.agg (sD r), .agg (bT d)] [aX (XG r d)]:=by
 refine aZ call329 func329 ntmps329 ?_;intro zb;exact O [2,3] J (aA (cT X [(12,⟨false,[aI (Qj r.client r.round d)]⟩)] [4] 1023 rfl (eY (xS r.client r.round d hd)) (au (aj J ⟨(congrArg eF aBR),⟨⟩⟩))))
theorem Hh(s:cH)(p:DB)(l:List kj)(hz:s.received.length≤1048576∧ ∀r,r∈s.received→gb aN r.share.rows≤1048576)(hp:gb aN p.rows≤1048576):So 269 [aI key, .agg (ep s), .agg (bT p), .a (.sl .kj l)] [aI (Nx key s p l)]:=by
 refine aZ call269 func269 ntmps269 ?_;intro zb;refine fC 3 rfl (fun pK=>(O [0,3,5,6] J (aR [0,5,6,13,14,15] J ?_)));refine aK (ef (fun k=>k≤l.length∧ ∀j,j<k→pg key s (l.getD j (aO .kj))=0) (fun k:Nat=> [(15, .one ((aI k)))]) (fun k=> []) (fun k=>l.length-k) 0 (fun k=>rfl) ⟨aY _,fun j hj=>absurd hj (jE _)⟩ rfl ?_);rintro k ⟨hk,hall⟩;refine O [0,5,6,13,14,15,16] J ?_;refine eg J ?_ ?_<;>intro hb0
 ·refine av (aA (aK (aL [0,5,6,10,13,14,15] J je (bZ [(34,⟨false,[aX (ag9 key (l.getD k (aO .kj)))]⟩)] [0,5,6,10,13,14,15,36] J (qqz (D9 key (l.getD k (aO .kj)))) ?_))));refine aM J ?_ ?_<;>intro cQ
  ·have RD:BT key s (l.getD k (aO .kj))=true:=pX cQ aqS;refine bf (bI [0,5,6,13,14,15] J ?_);refine⟨k+1,⟨aJ,Bu hall (ayY RD)⟩,aJ,?_⟩;rw[gT _ k rfl aJ];try rfl
  ·have RD:BT key s (l.getD k (aO .kj))=false:=ur cQ aqS;refine av (aA ?_);have t1:=(D6 s ((l.getD k (aO .kj)).client) hz);refine bY [(41,⟨true,cA t1⟩)] [0,5,6,10,11,12,13,14,15] J qM (aR [0,5,6,10,11,13,14,15,45] J ?_);refine aM J ?_ ?_<;>intro fu
   ·have hsh:tQ s.received (l.getD k (aO .kj)).client=false:=by simpa using fu
    have hf:=aDX RD hsh;exact O [8] J (au (aj J ⟨by rw[Ja hall hb0 aq9,hf],⟨⟩⟩))
   ·have hsh:tQ s.received (l.getD k (aO .kj)).client=true:=by simpa using fu
    have hsd:=Qi (c:=(l.getD k (aO .kj)).client) hz.2;refine av (aA ?_);have t1:=(Cz (l.getD k (aO .kj)) (G2 s.received (l.getD k (aO .kj)).client) hsd);refine bY [(48,⟨false,cA t1⟩)] [0,5,6,13,14,15,49] J qM ?_;refine aM J ?_ ?_<;>intro n9
    ·have hf:=aDY RD hsh aj1;exact O [8] J (au (aj J ⟨by rw[Ja hall hb0 aq9,hf],⟨⟩⟩))
    ·have hf:=ayX RD hsh aj1;refine av (bI [0,5,6,13,14,15] J ?_);refine⟨k+1,⟨aJ,Bu hall hf⟩,aJ,?_⟩;rw[gT _ k rfl aJ];try rfl
 ·refine bf (aA (aA (cT X [(52,⟨false,[aX (fk s)]⟩),(57,⟨false,[.agg (bT (yc s))]⟩),(58,⟨false,[aX (p.rows==(yc s).rows)]⟩)] [60] 1023 rfl (Ut (ig s) (Hf s) (Cx p (yc s))) ?_)));refine aM J ?_ ?_<;>intro xI
  ·have hq:(fk s&&(p.rows==(yc s).rows))=false:=dy xI HS;exact O [8] J (au (aj J ⟨by rw[D0 hall hb0,hq];rfl,⟨⟩⟩))
  ·have hq:(fk s&&(p.rows==(yc s).rows))=true:=dr xI HS;exact av (O [8] J (au (aj J ⟨by rw[D0 hall hb0,hq];rfl,⟨⟩⟩)))
theorem Jl(m:Int)(sv:List cH)(pb:List DB)(rc:List kj)(hl:sv.length≤1048576)(hs: ∀s,s∈sv→xQ s)(hp: ∀d,d∈pb→gb aN d.rows≤1048576):So 196 [aI m, .a (.sl .cH sv), .a (.sl .DB pb), .a (.sl .kj rc)] [.a (.sl .int (p7 m sv pb rc sv.length))]:=by
 refine aZ call196 func196 ntmps196 ?_;intro zb;refine fC 2 rfl (fun pK=>(O [0,1,2,3] J (aL [0,1,2,3,9] J qb (aR [0,2,3,9,13,14,15] J ?_))));refine cm sv.length (fun k:Nat=> [(15, .one ((aI k)))]) (fun k=> [(12, .arr .int (p7 m sv pb rc k))]) (fun k=>rfl) rfl ?_;intro k hk;have hle:=yd m sv pb rc k;refine O [0,2,3,9,13,14,15,16] J ?_;refine eg J ?_ ?_<;>intro hb0
 ·refine av (aA (aK (aL [0,2,3,9,10,11,13,14,15] J je (aA (cT X [(28,⟨false,[aI (oo m ((sv.getD k (aO .cH)).id))]⟩),(35,⟨false,[aI (Nx (oo m (sv.getD k (aO .cH)).id) (sv.getD k (aO .cH)) (pb.getD k (aO .DB)) rc)]⟩)] [0,2,3,9,11,13,14,15,37] 262143 rfl (by(with_reducible and_intros);(iterate 3 all_goals try first|exact⟨⟩|exact fun _=>(pY m ((sv.getD k (aO .cH)).id))|exact fun _=>(Hh (oo m (sv.getD k (aO .cH)).id) (sv.getD k (aO .cH)) (pb.getD k (aO .DB)) rc (hs _ (getD_in _ hb0)) (Zl hp k))|exact aA3)) ?_)))));refine aM J ?_ ?_<;>intro cQ
  ·have hbd:M9 m sv pb rc k=true:=pX cQ aqT;have hs2:=Qy hbd;refine dX [(42,12)] [] [0,2,3,9,13,14,15] [] J Ga (bI [0,2,3,9,13,14,15] J ?_);exact arf
  ·have hbd:M9 m sv pb rc k=false:=ur cQ aqT;have hs2:=Ly hbd;exact av (bI [0,2,3,9,13,14,15] J arf)
 ·exact bf (O [8] J (au (aj J ⟨by rw[show k=sv.length by omega],⟨⟩⟩)))
theorem Jm(sv:List cH)(hl:sv.length≤1048576):So 191 [.a (.sl .cH sv)] [.a (.sl .DB (eW sv))]:=by
 refine aZ call191 func191 ntmps191 ?_;intro zb;refine O [0] J (aL [0,3] J qb (aR [3,7,8,9] J ?_));refine cm sv.length (fun k:Nat=> [(9, .one ((aI k)))]) (fun k=> [(6, .arr .DB ((eW sv).take k))]) (fun k=>rfl) rfl ?_;intro k hk;have hle:=cU (eW sv) k;refine O [3,7,8,9,10] J ?_;refine eg J ?_ ?_<;>intro hb0
 ·have hs:=TP sv k hb0;refine av (aA (aK (aL [3,5,7,8,9] J je (dX [(17,6)] [(15,⟨true,[.agg (bT (tJ (sv.getD k (aO .cH))))]⟩)] [3,7,8,9] [] J (aBb (FQ (sv.getD k (aO .cH)))) (bI [3,7,8,9] J ?_)))));exact gZ
 ·exact bf (O [2] J (au (aj J ⟨by rw[aD (by unfold eW;rw[bt];exact hb0)],⟨⟩⟩)))
theorem Ea(r:kj):So 392 [aI key, .agg (sD r)] [aX (ag9 key r)]:=by
 refine aZ call392 func392 ntmps392 ?_;intro zb;exact O [0,3] J (aA (cT X [(9,⟨false,[aI (aih key r.server r.client r.round r.xl)]⟩)] [4] 127 rfl (eY (yQ key r)) (au (aj J ⟨(congrArg eF aBQ),⟨⟩⟩))))
theorem CA(r:kj)(d:DB)(hd:gb aN d.rows≤1048576):So 394 [.agg (sD r), .agg (bT d)] [aX (XG r d)]:=by
 refine aZ call394 func394 ntmps394 ?_;intro zb;exact O [2,3] J (aA (cT X [(12,⟨false,[aI (Qj r.client r.round d)]⟩)] [4] 1023 rfl (eY (xU r.client r.round d hd)) (au (aj J ⟨(congrArg eF aBR),⟨⟩⟩))))
theorem Hi(s:cH)(p:DB)(l:List kj)(hz:s.received.length≤1048576∧ ∀r,r∈s.received→gb aN r.share.rows≤1048576)(hp:gb aN p.rows≤1048576):So 364 [aI key, .agg (ep s), .agg (bT p), .a (.sl .kj l)] [aI (Nx key s p l)]:=by
 refine aZ call364 func364 ntmps364 ?_;intro zb;refine fC 3 rfl (fun pK=>(O [0,3,5,6] J (aR [0,3,5,6,9] J ?_)));refine aK (ef (fun k=>k≤l.length∧ ∀j,j<k→pg key s (l.getD j (aO .kj))=0) (fun k:Nat=> [(9, .one ((aI k)))]) (fun k=> []) (fun k=>l.length-k) 0 (fun k=>rfl) ⟨aY _,fun j hj=>absurd hj (jE _)⟩ rfl ?_);rintro k ⟨hk,hall⟩;refine aR [0,3,5,6,9,16] J ?_;refine bD J ?_ ?_<;>intro hb0
 ·refine av (aA (aK (aL [0,3,5,6,9,10] J je (bZ [(38,⟨false,[aX (ag9 key (l.getD k (aO .kj)))]⟩)] [0,3,5,6,9,10,40] J (qqz (Ea key (l.getD k (aO .kj)))) ?_))));refine aM J ?_ ?_<;>intro cQ
  ·have RD:BT key s (l.getD k (aO .kj))=true:=pX cQ aqS;refine bf (bI [0,3,5,6,9] J ?_);refine⟨k+1,⟨aJ,Bu hall (ayY RD)⟩,aJ,?_⟩;rw[gT _ k rfl aJ];try rfl
  ·have RD:BT key s (l.getD k (aO .kj))=false:=ur cQ aqS;refine av (aA ?_);have t1:=(QG s ((l.getD k (aO .kj)).client) hz);refine bY [(45,⟨true,cA t1⟩)] [0,3,5,6,9,10,11,12] J qM (aR [0,3,5,6,9,10,11,49] J ?_);refine aM J ?_ ?_<;>intro fu
   ·have hsh:tQ s.received (l.getD k (aO .kj)).client=false:=by simpa using fu
    have hf:=aDX RD hsh;exact O [8] J (au (aj J ⟨by rw[Ja hall hb0 aq9,hf],⟨⟩⟩))
   ·have hsh:tQ s.received (l.getD k (aO .kj)).client=true:=by simpa using fu
    have hsd:=Qi (c:=(l.getD k (aO .kj)).client) hz.2;refine av (aA ?_);have t1:=(CA (l.getD k (aO .kj)) (G2 s.received (l.getD k (aO .kj)).client) hsd);refine bY [(52,⟨false,cA t1⟩)] [0,3,5,6,9,53] J qM ?_;refine aM J ?_ ?_<;>intro n9
    ·have hf:=aDY RD hsh aj1;exact O [8] J (au (aj J ⟨by rw[Ja hall hb0 aq9,hf],⟨⟩⟩))
    ·have hf:=ayX RD hsh aj1;refine av (bI [0,3,5,6,9] J ?_);refine⟨k+1,⟨aJ,Bu hall hf⟩,aJ,?_⟩;rw[gT _ k rfl aJ];try rfl
 ·refine bf (aA (aA (cT X [(55,⟨false,[aX (fk s)]⟩),(60,⟨false,[.agg (bT (yc s))]⟩),(61,⟨false,[aX (p.rows==(yc s).rows)]⟩)] [63] 1023 rfl (Ut (ij s) (Hg s) (Cy p (yc s))) ?_)));refine aM J ?_ ?_<;>intro xI
  ·have hq:(fk s&&(p.rows==(yc s).rows))=false:=dy xI HS;exact O [8] J (au (aj J ⟨by rw[D0 hall hb0,hq];rfl,⟨⟩⟩))
  ·have hq:(fk s&&(p.rows==(yc s).rows))=true:=dr xI HS;exact av (O [8] J (au (aj J ⟨by rw[D0 hall hb0,hq];rfl,⟨⟩⟩)))
theorem Jn(m:Int)(sv:List cH)(pb:List DB)(rc:List kj)(hl:sv.length≤1048576)(hs: ∀s,s∈sv→xQ s)(hp: ∀d,d∈pb→gb aN d.rows≤1048576):So 302 [aI m, .a (.sl .cH sv), .a (.sl .DB pb), .a (.sl .kj rc)] [.a (.sl .int (p7 m sv pb rc sv.length))]:=by
 refine aZ call302 func302 ntmps302 ?_;intro zb;refine fC 2 rfl (fun pK=>(O [0,1,2,3] J (aL [0,1,2,3,9] J qb (aR [0,1,2,3,9,10] J ?_))));refine cm sv.length (fun k:Nat=> [(10, .one ((aI k)))]) (fun k=> [(11, .arr .int (p7 m sv pb rc k))]) (fun k=>rfl) rfl ?_;intro k hk;have hle:=yd m sv pb rc k;refine aR [0,1,2,3,9,10,15] J ?_;refine bD J ?_ ?_<;>intro hb0
 ·refine av (aA (aK (aA (cT X [(29,⟨false,[aI (oo m ((sv.getD k (aO .cH)).id))]⟩),(39,⟨false,[aI (Nx (oo m (sv.getD k (aO .cH)).id) (sv.getD k (aO .cH)) (pb.getD k (aO .DB)) rc)]⟩)] [0,1,2,3,9,10,41] 16777215 rfl (by(with_reducible and_intros);(iterate 3 all_goals try first|exact⟨⟩|exact fun _=>(pZ m ((sv.getD k (aO .cH)).id))|exact fun _=>(Hi (oo m (sv.getD k (aO .cH)).id) (sv.getD k (aO .cH)) (pb.getD k (aO .DB)) rc (hs _ (getD_in _ hb0)) (Zl hp k))|exact aA3)) ?_))));refine aM J ?_ ?_<;>intro cQ
  ·have hbd:M9 m sv pb rc k=true:=pX cQ aqT;have hs2:=Qy hbd;refine dX [(49,11)] [] [0,1,2,3,9,10] [] J qqm (bI [0,1,2,3,9,10] J ?_);exact arf
  ·have hbd:M9 m sv pb rc k=false:=ur cQ aqT;have hs2:=Ly hbd;exact av (bI [0,1,2,3,9,10] J arf)
 ·exact bf (O [8] J (au (aj J ⟨by rw[show k=sv.length by omega],⟨⟩⟩)))
theorem Jo(sv:List cH)(hl:sv.length≤1048576):So 297 [.a (.sl .cH sv)] [.a (.sl .DB (eW sv))]:=by
 refine aZ call297 func297 ntmps297 ?_;intro zb;refine O [0] J (aL [0,3] J qb (aR [0,3,4] J ?_));refine cm sv.length (fun k:Nat=> [(4, .one ((aI k)))]) (fun k=> [(5, .arr .DB ((eW sv).take k))]) (fun k=>rfl) rfl ?_;intro k hk;have hle:=cU (eW sv) k;refine aR [0,3,4,9] J ?_;refine bD J ?_ ?_<;>intro hb0
 ·have hs:=TP sv k hb0;refine av (aA (aK (dX [(19,5)] [(17,⟨true,[.agg (bT (tJ (sv.getD k (aO .cH))))]⟩)] [0,3,4] [] J (aA5 (FR (sv.getD k (aO .cH)))) (bI [0,3,4] J ?_))));exact gZ
 ·exact bf (O [2] J (au (aj J ⟨by rw[aD (by unfold eW;rw[bt];exact hb0)],⟨⟩⟩)))
end
section
variable(key:Int)(l:List DB)
set_option maxRecDepth 100000
theorem FT(a:gw)(h1:a.selection.length≤262144)(h2:a.data.length≤262144):So 327 [aI key, .agg (lD a)] [aX (aiq key a)]:=by
 refine aZ call327 func327 ntmps327 ?_;intro zb;exact O [0,3] J (aA (cT X [(9,⟨false,[aI (Qs key a.server a.round a.selection a.data)]⟩)] [4] 127 rfl (eY (Aj key a h1 h2)) (au (aj J ⟨J,⟨⟩⟩))))
theorem Ec(d:DB)(a:gw)(h1:a.selection.length≤262144)(h2:a.data.length≤262144):So 265 [aI key, .agg (bT d), .agg (lD a)] [aX (fls key d a)]:=by
 refine aZ call265 func265 ntmps265 ?_;intro zb;exact O [0,4,5] J (aA (cT X [(9,⟨false,[aX (aiq key a)]⟩),(16,⟨false,[.a (.sl .u8 (kP d a.selection))]⟩),(17,⟨false,[aX (a.data==(kP d a.selection))]⟩)] [6] 16383 rfl (Ut (FT key a h1 h2) (xY d a.selection) (oD a.data (kP d a.selection))) (au (aj J ⟨(congrArg eF aBK),⟨⟩⟩))))
theorem Js(pK:l.length≤1048576)(ha:D2 l):So 262 [.a (.sl .DB l)] [.agg (bT (jw l)),aX (Ny l)]:=by
 refine aZ call262 func262 ntmps262 ?_;intro zb;refine O [0,2] J (bZ [(11,⟨false,[aX (dR (l.length:Int))]⟩)] [0,2,12] J (eY (gy (l.length:Int))) ?_);refine aM J ?_ ?_<;>intro hb0
 ·have hk:dR l.length=false:=by simpa using hb0
  have hj:=QA (afg hk);exact aL [2,3] J gA (au (aj J ⟨by rw[hj.1],by rw[hj.2],⟨⟩⟩))
 ·have hk:dR l.length=true:=by simpa using hb0
  have hcb:=QB hk;have hrp:=afh hk;have h0z:=jB (ux ha 0);have hdl:(l.drop 1).length=l.length-1:=cV ..;refine av (bq [(17,⟨true,[.agg (bT (l.getD (cX 0) (aO .DB)))]⟩)] [0,2,4] J (OH (gd (l.getD (cX 0) (aO .DB)) h0z)) (aA (aL [2,4,19,20,21] J je ?_)));rw[aD7];refine aK (ef (fun k=>k≤(l.drop 1).length∧jwR l=Xj (Nz l k) ((l.drop 1).drop k)) (fun k:Nat=> [(21, .one ((aI k)))]) (fun k=> [(17, .arr (.sl .u8) (Nz l k).rows)]) (fun k=>(l.drop 1).length-k) 0 (fun k=>rfl) ⟨aY _,hrp⟩ rfl ?_);rintro k ⟨hk0,R9⟩;refine O [2,4,19,20,21,22] J ?_;refine eg J ?_ ?_<;>intro cQ
  ·have hz1:=jB (amS ha k);have hz2:=jB (ux (acK ha) k);refine av (aA (aK (aL [2,4,6,19,20,21] J je (aA ?_))));have t1:=(qo (Nz l k) ((l.drop 1).getD k (aO .DB)) hz1 hz2);refine bY [(28,⟨true,cA t1⟩)] [2,4,7,8,19,20,21] J qM (aR [2,4,7,19,20,21,32] J ?_);refine aM J ?_ ?_<;>intro fu
   ·have hx:pL (Nz l k) ((l.drop 1).getD k (aO .DB))=false:=by simpa using fu
    have hj:=QA (R9.trans (amR l k cQ hx));exact aL [2,3] J gA (au (aj J ⟨by rw[hj.1],by rw[hj.2],⟨⟩⟩))
   ·have hx:pL (Nz l k) ((l.drop 1).getD k (aO .DB))=true:=by simpa using fu
    have hs:=Jb l k cQ;refine av (iB X [2,4,19,20,21] J gA (uq 4 0 17 rfl (bI [2,4,19,20,21] J ?_)));refine⟨k+1,⟨aJ,R9.trans (Zn l k cQ hx)⟩,aJ,?_⟩;rw[gT _ k rfl aJ,hs];try rfl
  ·have hj:=VT (R9.trans (aff l k cQ));exact bf (aL [2,3] J gA (au (aj J ⟨by rw[hj.1],by rw[hj.2],⟨⟩⟩)))
theorem Ed(pK:l.length≤1048576)(ha:D2 l):So 192 [.a (.sl .DB l)] [.agg (bT (jw l)),aX (Ny l)]:=by
 refine aZ call192 func192 ntmps192 ?_;intro zb;exact O [0,2] J (bq [(5,⟨true,[.agg (bT (jw l)),aX (Ny l)]⟩)] [2,3] J (eY (Js l pK ha)) (au (aj J ⟨J,J,⟨⟩⟩)))
theorem Am(id rows b:Int):So 133 [aI id,aI rows,aI b] [.agg (ep (newS id rows b))]:=by
 refine aZ call133 func133 ntmps133 ?_;intro zb;refine O [0,1,2,6] J (bZ [(8,⟨false,[aX (inr id 0 3)]⟩),(12,⟨false,[aX (inr rows 1 64)]⟩),(17,⟨false,[aX (inr b 0 3)]⟩)] [0,1,2,6,19] J (Ut (bu id 0 3) (bu rows 1 64) (bu b 0 3)) ?_);refine aM J ?_ ?_<;>intro hb0
 ·have hk:Xz id rows b=false:=dy hb0 aqU;have hn:newS id rows b=⟨0,0,0,[],0⟩:=by rw[newS,hk];rfl
  exact aL [6] J gA (au (aj J Xu))
 ·have hk:Xz id rows b=true:=dr hb0 aqU;have hn:newS id rows b=⟨id,rows,0,[],b⟩:=by rw[newS,if_pos hk]
  exact av (aL [6] J gA (au (aj J Xu)))
theorem yX(s:cH)(hz:s.received.length≤1048576∧ ∀r,r∈s.received→gb aN r.share.rows≤1048576):So 268 [.agg (ep s)] [.agg (ep (rI s))]:=by
 refine aZ call268 func268 ntmps268 ?_;intro zb;refine O [1,2] J (bq [(5,⟨true,[.agg (ep s)]⟩)] [1,2,3] J (eY (oF s hz)) (bZ [(7,⟨false,[aX (fk s)]⟩)] [2,3,12] J (eY (ig s)) ?_));refine aM J ?_ ?_<;>intro hb0
 ·have hk:XA s=true:=pX hb0 aqV;have hn:rI s=⟨s.id,s.rows,af.wrap (s.round+1),[],s.behavior⟩:=by rw[rI,if_pos hk]
  exact O [2,3] J (bI [2,3] J (aL [2] J gA (au (aj J Xu))))
 ·have hk:XA s=false:=ur hb0 aqV;have hn:rI s=s:=by rw[rI,hk];rfl
  exact av (aL [2] J gA (au (aj J Xu)))
theorem FU(a:gw)(h1:a.selection.length≤262144)(h2:a.data.length≤262144):So 391 [aI key, .agg (lD a)] [aX (aiq key a)]:=by
 refine aZ call391 func391 ntmps391 ?_;intro zb;exact O [0,3] J (aA (cT X [(9,⟨false,[aI (Qs key a.server a.round a.selection a.data)]⟩)] [4] 127 rfl (eY (uw key a h1 h2)) (au (aj J ⟨J,⟨⟩⟩))))
theorem Ee(d:DB)(a:gw)(h1:a.selection.length≤262144)(h2:a.data.length≤262144):So 360 [aI key, .agg (bT d), .agg (lD a)] [aX (fls key d a)]:=by
 refine aZ call360 func360 ntmps360 ?_;intro zb;exact O [0,4,5] J (aA (cT X [(9,⟨false,[aX (aiq key a)]⟩),(16,⟨false,[.a (.sl .u8 (kP d a.selection))]⟩),(17,⟨false,[aX (a.data==(kP d a.selection))]⟩)] [6] 16383 rfl (Ut (FU key a h1 h2) (xZ d a.selection) (oB a.data (kP d a.selection))) (au (aj J ⟨(congrArg eF aBK),⟨⟩⟩))))
theorem Jt(pK:l.length≤1048576)(ha:D2 l):So 357 [.a (.sl .DB l)] [.agg (bT (jw l)),aX (Ny l)]:=by
 refine aZ call357 func357 ntmps357 ?_;intro zb;refine O [0,2] J (bZ [(10,⟨false,[aX (dR (l.length:Int))]⟩),(16,⟨false,[aX (fZ (l.getD (cX 0) (aO .DB)))]⟩)] [0,2,18] J ⟨fun _=>gF _,fun h=>aG4 h,kC _,⟨⟩⟩ ?_);refine aM J ?_ ?_<;>intro hb0
 ·have hk:dR l.length=false:=aG3 ha hb0;have hj:=QA (afg hk);exact aL [2,3] J gA (au (aj J ⟨by rw[hj.1],by rw[hj.2],⟨⟩⟩))
 ·have hk:dR l.length=true:=aD8 hb0;have hcb:=QB hk;have hrp:=afh hk;have h0z:=jB (ux ha 0);have hdl:(l.drop 1).length=l.length-1:=cV ..;refine av (bq [(23,⟨true,[.agg (bT (l.getD (cX 0) (aO .DB)))]⟩)] [0,2,4] J (OH (j8 (l.getD (cX 0) (aO .DB)) h0z)) (aR [0,2,4,5] J ?_));refine aK (ef (fun k=>(1≤k∧k≤l.length)∧jwR l=Xj (Nz l (k-1)) ((l.drop 1).drop (k-1))) (fun k:Nat=> [(5, .one ((aI k)))]) (fun k=> [(23, .arr (.sl .u8) (Nz l (k-1)).rows)]) (fun k=>l.length-k) 1 (fun k=>rfl) ⟨aJ,hrp⟩ rfl ?_);rintro k ⟨hk0,R9⟩;refine aR [0,2,4,5,27] J ?_;refine bD J ?_ ?_<;>intro cQ
  ·have hz1:=jB (amS ha (k-1));have hz2:=jB (ux ha k);have hge:(l.drop 1).getD (k-1) (aO .DB)=(l.getD k (aO .DB)):=by rw[Zx,show k-1+1=k by omega]
   have Zv:k-1<(l.drop 1).length:=by omega
   refine av (aA (aK (aA ?_)));have t1:=(qp (Nz l (k-1)) (l.getD k (aO .DB)) hz1 hz2);refine cu X [] [(36,⟨true,cA t1⟩)] [0,2,4,5,6,7] [] 3071 1 MO gq J gq CW (aR [0,2,4,5,6,40] J ?_);refine aM J ?_ ?_<;>intro fu
   ·have hx:pL (Nz l (k-1)) (l.getD k (aO .DB))=false:=by simpa using fu
    have hj:=QA (R9.trans (amR l (k-1) Zv (by rw[hge];exact hx)));exact aL [2,3] J gA (au (aj J ⟨by rw[hj.1],by rw[hj.2],⟨⟩⟩))
   ·have hx:pL (Nz l (k-1)) (l.getD k (aO .DB))=true:=by simpa using fu
    have hs:=Jb l (k-1) Zv;rw[hge]at hs;refine av (iB X [0,2,4,5] J gA (uq 4 0 23 rfl (bI [0,2,4,5] J ?_)));refine⟨k+1,⟨aJ,by rw[R9,Zn l (k-1) Zv (by rw[hge];exact hx),show k+1-1=k-1+1 by omega]⟩,aJ,?_⟩;rw[gT _ k rfl aJ,show k+1-1=k-1+1 by omega,hs];try rfl
  ·have hj:=VT (R9.trans (aff l (k-1) aJ));exact bf (aL [2,3] J gA (au (aj J ⟨by rw[hj.1],by rw[hj.2],⟨⟩⟩)))
theorem Ef(pK:l.length≤1048576)(ha:D2 l):So 298 [.a (.sl .DB l)] [.agg (bT (jw l)),aX (Ny l)]:=by
 refine aZ call298 func298 ntmps298 ?_;intro zb;exact O [0,2] J (bq [(5,⟨true,[.agg (bT (jw l)),aX (Ny l)]⟩)] [2,3] J (eY (Jt l pK ha)) (au (aj J ⟨J,J,⟨⟩⟩)))
theorem An(id rows b:Int):So 95 [aI id,aI rows,aI b] [.agg (ep (newS id rows b))]:=by
 refine aZ call95 func95 ntmps95 ?_;intro zb;refine O [0,1,2,6] J (bZ [(8,⟨false,[aX (inr id 0 3)]⟩),(12,⟨false,[aX (inr rows 1 64)]⟩),(17,⟨false,[aX (inr b 0 3)]⟩)] [0,1,2,6,19] J (Ut (bJ id 0 3) (bJ rows 1 64) (bJ b 0 3)) ?_);refine aM J ?_ ?_<;>intro hb0
 ·have hk:Xz id rows b=false:=dy hb0 aqU;have hn:newS id rows b=⟨0,0,0,[],0⟩:=by rw[newS,hk];rfl
  exact aL [6] J gA (au (aj J Xu))
 ·have hk:Xz id rows b=true:=dr hb0 aqU;have hn:newS id rows b=⟨id,rows,0,[],b⟩:=by rw[newS,if_pos hk]
  exact av (aL [6] J gA (au (aj J Xu)))
theorem yY(s:cH)(hz:s.received.length≤1048576∧ ∀r,r∈s.received→gb aN r.share.rows≤1048576):So 363 [.agg (ep s)] [.agg (ep (rI s))]:=by
 refine aZ call363 func363 ntmps363 ?_;intro zb;refine O [1,2] J (bZ [(4,⟨false,[aX (fk s)]⟩)] [1,2,10] J (eY (ij s)) ?_);refine aM J ?_ ?_<;>intro hb0
 ·have hk:XA s=false:=dy hb0 aqV;have hn:rI s=s:=by rw[rI,hk];rfl
  exact bq [(12,⟨true,[.agg (ep s)]⟩)] [2] J (eY (s7 s hz)) (au (aj J Xu))
 ·have hk:XA s=true:=dr hb0 aqV;have hn:rI s=⟨s.id,s.rows,af.wrap (s.round+1),[],s.behavior⟩:=by rw[rI,if_pos hk]
  exact av (aL [2] J gA (au (aj J Xu)))
end
section
variable(x:dF)
set_option maxRecDepth 100000
theorem NC(a:tE)(r:Int)(d:DB)(h0:iS a≤1048576)(hd0:gb aN d.rows≤1048576):So 267 [.agg (gX a),aI r, .agg (bT d)] [.agg [eE a.rows, .vw 0 none .bn (Oc a r d)],aX (GB a r d)]:=by
 refine aZ call267 func267 ntmps267 ?_;intro zb;refine O [1,3,5,6] J (bq [(10,⟨true,[.agg (gX a)]⟩)] [1,3,5,6,8] J (eY (yf a h0)) (bZ [(12,⟨false,[aX (lU a)]⟩),(16,⟨false,[aX (inr r 0 100000)]⟩),(22,⟨false,[aI (gS a)]⟩),(27,⟨false,[aX (fZ d)]⟩)] [1,5,6,8,37] J (ajZ (tO a) (bu r 0 100000) (uh a) (iG d)) ?_));refine aM J ?_ ?_<;>intro hb0
 ·have hk:GB a r d=false:=dy hb0 aqW;have hn:=am7 hk;exact aL [6,7] J gA (au (aj J ⟨J,by rw[hn],by rw[hk],⟨⟩⟩))
 ·have hk:GB a r d=true:=dr hb0 aqW;have hn:=afp hk;have hkb:=am8 hk;have hal:(Cv a r d).length=a.rounds.length+1:=by unfold Cv;rw[aQ];rfl
  refine av (aA (cT X [(43,⟨true,[.agg (bT d)]⟩),(500045,⟨true,[]⟩)] [6,8] 127 rfl (GD (gd d hd0)) ?_));rw[show a.rounds++ [(⟨r,d⟩:bn)]=(Cv a r d)from rfl];refine aR [6,8,51] J ?_;refine bD J ?_ ?_<;>intro cQ
  ·have h8:(8:Int)<((Cv a r d).length:Int):=cQ;rw[if_pos h8]at hn;exact iB X [6,8] J je (aL [6,7] J gA (au (aj J ⟨J,by rw[hn];simp,by rw[hk],⟨⟩⟩)))
  ·have h8: ¬(8:Int)<((Cv a r d).length:Int):=by omega
   rw[if_neg h8]at hn;exact av (aL [6,7] J gA (au (aj J ⟨J,by rw[hn],by rw[hk],⟨⟩⟩)))
theorem ND(a:tE)(r:Int)(d:DB)(h0:iS a≤1048576)(hd0:gb aN d.rows≤1048576):So 362 [.agg (gX a),aI r, .agg (bT d)] [.agg [eE a.rows, .vw 0 none .bn (Oc a r d)],aX (GB a r d)]:=by
 refine aZ call362 func362 ntmps362 ?_;intro zb;refine O [1,3,5,6] J (bq [(10,⟨true,[.agg (gX a)]⟩)] [1,3,5,6,8] J (eY (DQ a h0)) (bZ [(12,⟨false,[aX (lU a)]⟩),(16,⟨false,[aX (inr r 0 100000)]⟩),(22,⟨false,[aI (gS a)]⟩),(27,⟨false,[aX (fZ d)]⟩)] [1,5,6,8,37] J (ajZ (tP a) (bJ r 0 100000) (uj a) (gF d)) ?_));refine aM J ?_ ?_<;>intro hb0
 ·have hk:GB a r d=false:=dy hb0 aqW;have hn:=am7 hk;exact aL [6,7] J gA (au (aj J ⟨J,by rw[hn],by rw[hk],⟨⟩⟩))
 ·have hk:GB a r d=true:=dr hb0 aqW;have hn:=afp hk;have hkb:=am8 hk;have hal:(Cv a r d).length=a.rounds.length+1:=by unfold Cv;rw[aQ];rfl
  refine av (aA (cT X [(43,⟨true,[.agg (bT d)]⟩),(500045,⟨true,[]⟩)] [6,8] 127 rfl (GD (j8 d hd0)) ?_));rw[show a.rounds++ [(⟨r,d⟩:bn)]=(Cv a r d)from rfl];refine aR [6,8,51] J ?_;refine bD J ?_ ?_<;>intro cQ
  ·have h8:(8:Int)<((Cv a r d).length:Int):=cQ;rw[if_pos h8]at hn;exact iB X [6,8] J je (aL [6,7] J gA (au (aj J ⟨J,by rw[hn];simp,by rw[hk],⟨⟩⟩)))
  ·have h8: ¬(8:Int)<((Cv a r d).length:Int):=by omega
   rw[if_neg h8]at hn;exact av (aL [6,7] J gA (au (aj J ⟨J,by rw[hn],by rw[hk],⟨⟩⟩)))
theorem vu(rd id:Int)(hl:x.aC.length≤4)(hw:1≤x.rows∧x.rows≤64)(hU:QD rd x.aC)(hr:x.replaced.length≤4194400):jr ty aP 266 [(1000, .box [eE x.rows, .own 11, .own 12,eE x.aH.rows, .own 13,eE x.bW,eE x.seed,eE x.round, .own 14,eE x.cancelled]),(11, .arr .cH x.aC),(12, .arr .bR x.ah),(13, .arr .bn x.aH.rounds),(14, .arr .int x.replaced)] [.a (.ptr 1000 0),aI id] [(1000, .box [eE x.rows, .own 11, .own 12,eE x.aH.rows, .own 13,eE x.bW,eE x.seed,eE x.round, .own 14,eE x.cancelled]),(11, .arr .cH (Jc x.rows rd (x.aC,x.replaced) id).1),(12, .arr .bR x.ah),(13, .arr .bn x.aH.rounds),(14, .arr .int (Jc x.rows rd (x.aC,x.replaced) id).2)] []:=by
 refine ff X call266 func266 rfl rfl cO ntmps266 fI rfl ?_;intro zb;refine aA ?_;have t1:=(bu id 0 (af.wrap ((x.aC.length:Int)-1)));refine bY [(12,⟨false,cA t1⟩)] [0,1,12] J qM ?_;refine aM J ?_ ?_<;>intro hb0
 ·have hk:D3 x.aC id=true:=by unfold D3;simpa using hb0
  have hb:=am6 hl hk;have hp:(Jc x.rows rd (x.aC,x.replaced) id)=_:=V2 (rows:=x.rows) (rd:=rd) (p:=(x.aC,x.replaced)) hk;have hns:=Jp (id:=id) aJ hw;have hrd:=(Al hU (k:=id.toNat) aJ).1;refine bq [(18,⟨true,[.agg (ep (newS id x.rows 0))]⟩)] [0,1,4] J (eY (Am id x.rows 0)) ?_;rw[hns];refine aL [0,1,4] J je ?_;rw[hrd];exact aA (cT X [] [0,1] 127 rfl je (dX [(42,14)] [] [] [] J Ga (Bo J aqx)))
 ·have hk:D3 x.aC id=false:=by unfold D3;simpa using hb0
  have hp:(Jc x.rows rd (x.aC,x.replaced) id)=_:=afn (rows:=x.rows) (rd:=rd) (p:=(x.aC,x.replaced)) hk;exact av (Bo J aqx)
theorem yZ(rd id:Int)(hl:x.aC.length≤4)(hw:1≤x.rows∧x.rows≤64)(hU:QD rd x.aC)(hr:x.replaced.length≤4194400)(hxr:x.round=rd):jr ty aP 361 [(1000, .box [eE x.rows, .own 11, .own 12,eE x.aH.rows, .own 13,eE x.bW,eE x.seed,eE x.round, .own 14,eE x.cancelled]),(11, .arr .cH x.aC),(12, .arr .bR x.ah),(13, .arr .bn x.aH.rounds),(14, .arr .int x.replaced)] [.a (.ptr 1000 0),aI id] [(1000, .box [eE x.rows, .own 11, .own 12,eE x.aH.rows, .own 13,eE x.bW,eE x.seed,eE x.round, .own 14,eE x.cancelled]),(11, .arr .cH (Jc x.rows rd (x.aC,x.replaced) id).1),(12, .arr .bR x.ah),(13, .arr .bn x.aH.rounds),(14, .arr .int (Jc x.rows rd (x.aC,x.replaced) id).2)] []:=by
 refine ff X call361 func361 rfl rfl cO ntmps361 fI rfl ?_;intro zb;refine aA (aA ?_);have t1:=(bJ id 0 (af.wrap ((x.aC.length:Int)-1)));refine bY [(12,⟨false,cA t1⟩)] [0,1,13] J qM ?_;refine aM J ?_ ?_<;>intro hb0
 ·have hk:D3 x.aC id=false:=by unfold D3;simpa using hb0
  have hp:(Jc x.rows rd (x.aC,x.replaced) id)=_:=afn (rows:=x.rows) (rd:=rd) (p:=(x.aC,x.replaced)) hk;exact au (bB J aqx)
 ·have hk:D3 x.aC id=true:=by unfold D3;simpa using hb0
  have hb:=am6 hl hk;have hp:(Jc x.rows rd (x.aC,x.replaced) id)=_:=V2 (rows:=x.rows) (rd:=rd) (p:=(x.aC,x.replaced)) hk;have hns:=Jp (id:=id) aJ hw;have hrd:=(Al hU (k:=id.toNat) aJ).1;refine av (bq [(19,⟨true,[.agg (ep (newS id x.rows 0))]⟩)] [0,1,4] J (eY (An id x.rows 0)) ?_);rw[hns];refine aL [0,1,4] J gA ?_;rw[hxr];exact aA (cT X [] [0,1] 127 rfl je (dX [(39,14)] [] [] [] J Ga (Bo J aqx)))
theorem Ju(g:List Int)(d:DB)(h0:wB x)(hgl:g.length≤64)(hd0:gb aN d.rows≤1048576):So 195 [.agg (bC x), .a (.sl .int g), .agg (bT d)] [.agg [eE (eX x g d).rows, .sl .cH (eX x g d).aC, .sl .bR (eX x g d).ah,eE (eX x g d).aH.rows, .vw 0 none .bn (eX x g d).aH.rounds,eE (eX x g d).bW,eE (eX x g d).seed,eE (eX x g d).round, .sl .int (eX x g d).replaced,eE (eX x g d).cancelled]]:=by
 refine aZ call195 func195 ntmps195 ?_;intro zb;have hls:gb jm x.aC≤1048576∧gb cE x.ah≤1048576∧iS x.aH≤1048576∧x.replaced.length≤4194304:=h0;have hcp:=afo x g;refine O [1,3,5,6] J (mK X [(7,907)] [(13,⟨true,[.agg (bC x)]⟩)] [1,3,5,6,7] [] J (eY (iI x h0)) (bZ [(15,⟨false,[aX (okW x)]⟩)] [1,3,5,6,7,21] J (eY (dY x)) ?_));refine aM J ?_ ?_<;>intro hb0
 ·have hk:tD x=false:=dy hb0 Xw;have hc:=TV (g:=g) (d:=d) hk;exact aL [6] J gA (au (aj J M7))
 ·have hk:tD x=true:=dr hb0 Xw;obtain⟨hok,hr9⟩:=V3 hk;have hsv:=iY hok;have hrr:=(vU hok).1;have hcU:=avS g hok;refine av (aR [1,3,5,6,7,25] J ?_);refine bD J ?_ ?_<;>intro cQ
  ·have hg0:g.length=0:=by omega
   have hc:=QI (d:=d) hk hg0;have hgn:g= []:=iE.1 hg0;have t1:=(NC x.aH x.round d hls.2.2.1 hd0);refine bY [(32,⟨true,cA t1⟩)] [1,6,7] J qM (aR [6,7,40,41,42] J ?_);refine cm g.length (fun k:Nat=> [(42, .one ((aI k)))]) (fun k=> [(14, .arr .cH (QH x g k).1),(21, .arr .int (QH x g k).2)]) (fun k=>rfl) rfl ?_;rintro k hk0;have IL:=Jq (x:=x) hk0;have hU:=Zz hok hk0;refine O [6,7,40,41,42,43] J ?_;refine eg J ?_ ?_<;>intro fu
   ·omega
   ·rw[Fo fu];refine bf (aR [6,7,50,51,52] J ?_);refine cm x.aC.length (fun k1:Nat=> [(52, .one ((aI k1)))]) (fun k1=> [(14, .arr .cH (NB (Cc x g).1 k1))]) (fun k1=>rfl) aq8 ?_;intro k1 hk1;have Ng:(NB (Cc x g).1 k1).length=x.aC.length:=by rw[Oe aJ];exact hcp.1
    refine O [6,7,50,51,52,53] J ?_;refine eg J ?_ ?_<;>intro n9
    ·have hgt:=Od (l:=(Cc x g).1) (k:=k1) aJ;have hsm:=Al hcU (k:=k1) aJ;have RU:=Jr (l:=(Cc x g).1) (k:=k1) aJ;refine av (aA (aK (aL [6,7,10,11,50,51,52] J je (cT X [(61,⟨true,[.agg (ep (rI ((NB (Cc x g).1 k1).getD k1 (aO .cH))))]⟩)] [6,7,50,51,52] 63 rfl (OH (yX ((NB (Cc x g).1 k1).getD k1 (aO .cH)) aq4)) (bI [6,7,50,51,52] J ?_)))));exact arb
    ·rw[Of aJ];exact bf (O [6,7] J (aL [6] J gA (au (aj J M7))))
  ·have hg0: ¬g.length=0:=by omega
   have hc:=QJ (d:=d) hk hg0;refine bI [1,6,7] J (aR [6,7,40,41,42] J ?_);refine cm g.length (fun k:Nat=> [(42, .one ((aI k)))]) (fun k=> [(14, .arr .cH (QH x g k).1),(21, .arr .int (QH x g k).2)]) (fun k=>rfl) rfl ?_;rintro k hk0;have IL:=Jq (x:=x) hk0;have hU:=Zz hok hk0;refine O [6,7,40,41,42,43] J ?_;refine eg J ?_ ?_<;>intro fu
   ·have hst:=Zy (x:=x) fu;refine av (aA (aK (aL [6,7,9,40,41,42] J je ?_)));have t1:=(vu (⟨x.rows,(QH x g k).1,x.ah,x.aH,x.bW,x.seed,x.round,(QH x g k).2,af.wrap (x.cancelled+1)⟩:dF) x.round (g.getD k (aO .int)) (by show(QH x g k).1.length≤4;omega) hrr hU (by show(QH x g k).2.length≤_;omega));refine bY [(800047,⟨true,iW t1⟩),(700047,⟨true, .agg [.ptr 1000 907, .ptr 11 14, .ptr 12 15, .ptr 13 17, .ptr 14 21]:: .agg []::iX t1⟩)] [6,7,40,41,42] J qM (bI [6,7,40,41,42] J ?_);exact are
   ·rw[Fo fu];refine bf (aR [6,7,50,51,52] J ?_);refine cm x.aC.length (fun k1:Nat=> [(52, .one ((aI k1)))]) (fun k1=> [(14, .arr .cH (NB (Cc x g).1 k1))]) (fun k1=>rfl) aq8 ?_;intro k1 hk1;have Ng:(NB (Cc x g).1 k1).length=x.aC.length:=by rw[Oe aJ];exact hcp.1
    refine O [6,7,50,51,52,53] J ?_;refine eg J ?_ ?_<;>intro n9
    ·have hgt:=Od (l:=(Cc x g).1) (k:=k1) aJ;have hsm:=Al hcU (k:=k1) aJ;have RU:=Jr (l:=(Cc x g).1) (k:=k1) aJ;refine av (aA (aK (aL [6,7,10,11,50,51,52] J je (cT X [(61,⟨true,[.agg (ep (rI ((NB (Cc x g).1 k1).getD k1 (aO .cH))))]⟩)] [6,7,50,51,52] 63 rfl (OH (yX ((NB (Cc x g).1 k1).getD k1 (aO .cH)) aq4)) (bI [6,7,50,51,52] J ?_)))));exact arb
    ·rw[Of aJ];exact bf (O [6,7] J (aL [6] J gA (au (aj J M7))))
theorem Hl(h0:wB x):So 194 [.agg (bC x)] [.agg (bC (testW x))]:=by
 refine aZ call194 func194 ntmps194 ?_;intro zb;have hls:gb jm x.aC≤1048576∧gb cE x.ah≤1048576∧iS x.aH≤1048576∧x.replaced.length≤4194304:=h0;have RU:=avT h0;refine O [1,2] J (mK X [(3,903)] [(13,⟨true,[.agg (bC x)]⟩)] [1,2,3] [] J (eY (iI x h0)) (bq [(16,⟨false,[aI (gS x.aH)]⟩)] [1,2,3,4] J (eY (uh x.aH)) (aA ?_)));have t1:=(mW x.aH (gS x.aH) RU);refine dX [(21,80)] [(21,⟨true,cA t1⟩)] [1,2,3,4,5,6] [] J qM (bZ [(25,⟨false,[aX (okW x)]⟩)] [1,2,3,4,5,30] J (eY (dY x)) ?_);refine aM J ?_ ?_<;>intro hb0
 ·have hk:HV x=false:=dy hb0 aqX;have hc:=QK hk;exact aL [2] J gA (au (aj J M7))
 ·have hk:HV x=true:=dr hb0 aqX;have hc:=Fp hk;have hkk:=hk;rw[HV,an]at hkk;obtain⟨hok,hah⟩:=hkk;have hsv:=iY hok;have hrr:=(vU hok).1;refine av (aR [1,2,3,4,5,33,34,35] J ?_);refine cm x.aC.length (fun k:Nat=> [(35, .one ((aI k)))]) (fun k=> [(14, .arr .cH (HP x k).1),(21, .arr .int (HP x k).2)]) (fun k=>rfl) rfl ?_;rintro k hk0;have htb:=afq hok k hk0;refine O [1,2,3,4,5,33,34,35,36] J ?_;refine eg J ?_ ?_<;>intro cQ
  ·have hrl:=oV (kh x.seed [227,x.round,(k:Int)]) x.rows;have hab:=avQ (x.aC.getD k (aO .cH)) (oo x.bW (k:Int)) (gS x.aH) (l5 x.aH.rounds (gS x.aH)) (v:=(dI (kh x.seed [227,x.round,(k:Int)]) x.rows)) aJ;have hsg:=am9 hok hah (kh x.seed [227,x.round,(k:Int)]);refine av (aA (aK (aL [1,2,3,4,5,7,8,33,34,35] J je (bq [(43,⟨false,[aI (oo x.bW (k:Int))]⟩)] [1,2,3,4,5,7,8,9,33,34,35] J (eY (pY x.bW (k:Int))) (aA ?_)))));have t1:=(Ca (x.aC.getD k (aO .cH)) (oo x.bW (k:Int)) (gS x.aH) (l5 x.aH.rounds (gS x.aH)) (dI (kh x.seed [227,x.round,(k:Int)]) x.rows) aJ);refine cu X [] [(55,⟨false,[aI (kh x.seed [227,x.round,(k:Int)])]⟩),(58,⟨true,[.a (.sl .int (dI (kh x.seed [227,x.round,(k:Int)]) x.rows))]⟩),(59,⟨true,cA t1⟩)] [1,2,3,4,5,7,9,10,33,34,35] [] 1572863 1 MO gq J gq (aB7 (dL x.seed [227,x.round,(k:Int)] fj) (sS (kh x.seed [227,x.round,(k:Int)]) x.rows)) ?_;refine aA ?_;have t1:=(Ec (oo x.bW (k:Int)) (l5 x.aH.rounds (gS x.aH)) (tsA x k) hab.1 hab.2);refine bY [(65,⟨false,cA t1⟩)] [1,2,3,4,5,7,33,34,35,65] J qM ?_;refine aM J ?_ ?_<;>intro fu
   ·have hst:=VX (x:=x) (n:=k) fu;have t1:=(vu (⟨x.rows,(HP x k).1,x.ah,x.aH,x.bW,x.seed,x.round,(HP x k).2,x.cancelled⟩:dF) x.round (k:Int) (by show(HP x k).1.length≤4;omega) hrr htb.1 (by show(HP x k).2.length≤_;omega));refine bY [(800067,⟨true,iW t1⟩),(700067,⟨true, .agg [.ptr 1000 903, .ptr 11 14, .ptr 12 15, .ptr 13 17, .ptr 14 21]:: .agg []::iX t1⟩)] [1,2,3,4,5,33,34,35] J qM (bI [1,2,3,4,5,33,34,35] J ?_);exact are
   ·have hst:=QE (x:=x) (n:=k) fu;exact av (bI [1,2,3,4,5,33,34,35] J axD)
  ·exact bf (aL [2] J gA (au (aj J aBa)))
theorem Jv(g:List Int)(d:DB)(h0:wB x)(hgl:g.length≤64)(hd0:gb aN d.rows≤1048576):So 301 [.agg (bC x), .a (.sl .int g), .agg (bT d)] [.agg [eE (eX x g d).rows, .sl .cH (eX x g d).aC, .sl .bR (eX x g d).ah,eE (eX x g d).aH.rows, .vw 0 none .bn (eX x g d).aH.rounds,eE (eX x g d).bW,eE (eX x g d).seed,eE (eX x g d).round, .sl .int (eX x g d).replaced,eE (eX x g d).cancelled]]:=by
 refine aZ call301 func301 ntmps301 ?_;intro zb;have hls:gb jm x.aC≤1048576∧gb cE x.ah≤1048576∧iS x.aH≤1048576∧x.replaced.length≤4194304:=h0;have hcp:=afo x g;refine O [1,3,5,6] J (mK X [(7,907)] [(13,⟨true,[.agg (bC x)]⟩)] [1,3,5,6,7] [] J (eY (gL x h0)) (bZ [(15,⟨false,[aX (okW x)]⟩)] [1,3,5,6,7,21] J (eY (eG x)) ?_));refine aM J ?_ ?_<;>intro hb0
 ·have hk:tD x=false:=dy hb0 Xw;have hc:=TV (g:=g) (d:=d) hk;exact aL [6] J gA (au (aj J M7))
 ·have hk:tD x=true:=dr hb0 Xw;obtain⟨hok,hr9⟩:=V3 hk;have hsv:=iY hok;have hrr:=(vU hok).1;have hcU:=avS g hok;refine av (aR [1,3,5,6,7,25] J ?_);refine bD J ?_ ?_<;>intro cQ
  ·have hg0:g.length=0:=by omega
   have hc:=QI (d:=d) hk hg0;have hgn:g= []:=iE.1 hg0;refine aA ?_;have t1:=(ND x.aH x.round d hls.2.2.1 hd0);refine bY [(32,⟨true,cA t1⟩)] [1,3,6,7,8] J qM (iB X [1,3,6,7] J gA (aR [1,3,6,7,10] J ?_));refine cm g.length (fun k:Nat=> [(10, .one ((aI k)))]) (fun k=> [(14, .arr .cH (QH x g k).1),(21, .arr .int (QH x g k).2)]) (fun k=>rfl) rfl ?_;rintro k hk0;have IL:=Jq (x:=x) hk0;have hU:=Zz hok hk0;refine aR [1,3,6,7,10,44] J ?_;refine bD J ?_ ?_<;>intro fu
   ·omega
   ·rw[Fo fu];refine bf (aR [3,6,7,11] J ?_);refine cm x.aC.length (fun k1:Nat=> [(11, .one ((aI k1)))]) (fun k1=> [(14, .arr .cH (NB (Cc x g).1 k1))]) (fun k1=>rfl) aq8 ?_;intro k1 hk1;have Ng:(NB (Cc x g).1 k1).length=x.aC.length:=by rw[Oe aJ];exact hcp.1
    refine aR [3,6,7,11,56] J ?_;refine bD J ?_ ?_<;>intro n9
    ·rw[Ng]at n9;have hgt:=Od (l:=(Cc x g).1) (k:=k1) aJ;have hsm:=Al hcU (k:=k1) aJ;have RU:=Jr (l:=(Cc x g).1) (k:=k1) aJ;refine av (aA (aK (cT X [(67,⟨true,[.agg (ep (rI ((NB (Cc x g).1 k1).getD k1 (aO .cH))))]⟩)] [3,6,7,11] 1023 rfl (OH (yY ((NB (Cc x g).1 k1).getD k1 (aO .cH)) aq4)) (bI [3,6,7,11] J ?_))));exact arb
    ·rw[Ng]at n9;rw[Of aJ];exact bf (O [6,7] J (aL [6] J gA (au (aj J M7))))
  ·have hg0: ¬g.length=0:=by omega
   have hc:=QJ (d:=d) hk hg0;refine bI [1,3,6,7] J (aR [1,3,6,7,10] J ?_);refine cm g.length (fun k:Nat=> [(10, .one ((aI k)))]) (fun k=> [(14, .arr .cH (QH x g k).1),(21, .arr .int (QH x g k).2)]) (fun k=>rfl) rfl ?_;rintro k hk0;have IL:=Jq (x:=x) hk0;have hU:=Zz hok hk0;refine aR [1,3,6,7,10,44] J ?_;refine bD J ?_ ?_<;>intro fu
   ·have hst:=Zy (x:=x) fu;refine av (aA (aK ?_));have t1:=(yZ (⟨x.rows,(QH x g k).1,x.ah,x.aH,x.bW,x.seed,x.round,(QH x g k).2,af.wrap (x.cancelled+1)⟩:dF) x.round (g.getD k (aO .int)) (by show(QH x g k).1.length≤4;omega) hrr hU (by show(QH x g k).2.length≤_;omega) rfl);refine bY [(800051,⟨true,iW t1⟩),(700051,⟨true, .agg [.ptr 1000 907, .ptr 11 14, .ptr 12 15, .ptr 13 17, .ptr 14 21]:: .agg []::iX t1⟩)] [1,3,6,7,10] J CW (bI [1,3,6,7,10] J ?_);exact are
   ·rw[Fo fu];refine bf (aR [3,6,7,11] J ?_);refine cm x.aC.length (fun k1:Nat=> [(11, .one ((aI k1)))]) (fun k1=> [(14, .arr .cH (NB (Cc x g).1 k1))]) (fun k1=>rfl) aq8 ?_;intro k1 hk1;have Ng:(NB (Cc x g).1 k1).length=x.aC.length:=by rw[Oe aJ];exact hcp.1
    refine aR [3,6,7,11,56] J ?_;refine bD J ?_ ?_<;>intro n9
    ·rw[Ng]at n9;have hgt:=Od (l:=(Cc x g).1) (k:=k1) aJ;have hsm:=Al hcU (k:=k1) aJ;have RU:=Jr (l:=(Cc x g).1) (k:=k1) aJ;refine av (aA (aK (cT X [(67,⟨true,[.agg (ep (rI ((NB (Cc x g).1 k1).getD k1 (aO .cH))))]⟩)] [3,6,7,11] 1023 rfl (OH (yY ((NB (Cc x g).1 k1).getD k1 (aO .cH)) aq4)) (bI [3,6,7,11] J ?_))));exact arb
    ·rw[Ng]at n9;rw[Of aJ];exact bf (O [6,7] J (aL [6] J gA (au (aj J M7))))
theorem Ho(h0:wB x):So 300 [.agg (bC x)] [.agg (bC (testW x))]:=by
 refine aZ call300 func300 ntmps300 ?_;intro zb;have hls:gb jm x.aC≤1048576∧gb cE x.ah≤1048576∧iS x.aH≤1048576∧x.replaced.length≤4194304:=h0;have RU:=avT h0;refine O [1,2] J (mK X [(3,903)] [(12,⟨true,[.agg (bC x)]⟩)] [1,2,3] [] J (eY (gL x h0)) (bq [(15,⟨false,[aI (gS x.aH)]⟩)] [1,2,3,4] J (eY (uj x.aH)) (aA ?_)));have t1:=(rW x.aH (gS x.aH) RU);refine dX [(20,80)] [(20,⟨true,cA t1⟩)] [1,2,3,4,5,6] [] J qM (bZ [(24,⟨false,[aX (okW x)]⟩)] [1,2,3,4,5,29] J (eY (eG x)) ?_);refine aM J ?_ ?_<;>intro hb0
 ·have hk:HV x=false:=dy hb0 aqX;have hc:=QK hk;exact aL [2] J gA (au (aj J M7))
 ·have hk:HV x=true:=dr hb0 aqX;have hc:=Fp hk;have hkk:=hk;rw[HV,an]at hkk;obtain⟨hok,hah⟩:=hkk;have hsv:=iY hok;have hrr:=(vU hok).1;refine av (aR [1,2,3,4,5,7] J ?_);refine cm x.aC.length (fun k:Nat=> [(7, .one ((aI k)))]) (fun k=> [(13, .arr .cH (HP x k).1),(20, .arr .int (HP x k).2)]) (fun k=>rfl) rfl ?_;rintro k hk0;have htb:=afq hok k hk0;refine aR [1,2,3,4,5,7,35] J ?_;refine bD J ?_ ?_<;>intro cQ
  ·have hrl:=oV (kh x.seed [227,x.round,(k:Int)]) x.rows;have hab:=avQ (x.aC.getD k (aO .cH)) (oo x.bW (k:Int)) (gS x.aH) (l5 x.aH.rounds (gS x.aH)) (v:=(dI (kh x.seed [227,x.round,(k:Int)]) x.rows)) aJ;have hsg:=am9 hok hah (kh x.seed [227,x.round,(k:Int)]);refine av (aA (aK (bq [(41,⟨false,[aI (oo x.bW (k:Int))]⟩)] [1,2,3,4,5,7,8] J (eY (pZ x.bW (k:Int))) (aA ?_))));have t1:=(Cb (x.aC.getD k (aO .cH)) (oo x.bW (k:Int)) (gS x.aH) (l5 x.aH.rounds (gS x.aH)) (dI (kh x.seed [227,x.round,(k:Int)]) x.rows) aJ);refine cu X [] [(57,⟨false,[aI (kh x.seed [227,x.round,(k:Int)])]⟩),(60,⟨true,[.a (.sl .int (dI (kh x.seed [227,x.round,(k:Int)]) x.rows))]⟩),(61,⟨true,cA t1⟩)] [1,2,3,4,5,7,8,9,10] [] 25165823 1 MO gq J gq (have u1:=(dz x.seed [227,x.round,(k:Int)] fj);have u2:=(sU (kh x.seed [227,x.round,(k:Int)]) x.rows);(by(repeat' with_reducible first|exact c8|refine dP ?_ ?_|apply cL);(iterate 3 all_goals try first|exact u1|exact u2|exact t1);all_goals first| (intros;omega)|exact⟨rfl,fA _ cO⟩)) ?_;refine aA ?_;have t1:=(Ee (oo x.bW (k:Int)) (l5 x.aH.rounds (gS x.aH)) (tsA x k) hab.1 hab.2);refine bY [(69,⟨false,cA t1⟩)] [1,2,3,4,5,7,70] J (by(with_reducible and_intros)<;>first|exact⟨⟩|exact fun _=>t1) ?_;refine aM J ?_ ?_<;>intro fu
   ·have hbt:tsB x k=true:=by rw[hsg]at fu;exact fu
    have hst:=VX (x:=x) (n:=k) hbt;have t1:=(yZ (⟨x.rows,(HP x k).1,x.ah,x.aH,x.bW,x.seed,x.round,(HP x k).2,x.cancelled⟩:dF) x.round (k:Int) (by show(HP x k).1.length≤4;omega) hrr htb.1 (by show(HP x k).2.length≤_;omega) rfl);refine bY [(800072,⟨true,iW t1⟩),(700072,⟨true, .agg [.ptr 1000 903, .ptr 11 13, .ptr 12 14, .ptr 13 16, .ptr 14 20]:: .agg []::iX t1⟩)] [1,2,3,4,5,7] J qM (bI [1,2,3,4,5,7] J ?_);exact are
   ·have hbt:tsB x k=false:=by rw[hsg]at fu;exact fu
    have hst:=QE (x:=x) (n:=k) hbt;exact av (bI [1,2,3,4,5,7] J axD)
  ·exact bf (aL [2] J gA (au (aj J aBa)))
end
section
variable(x:dF)
set_option maxRecDepth 100000
theorem Cd(hR:wR x):So 113 [.agg (bC x)] [.agg (bC (gG x))]:=by
 refine aZ call113 func113 ntmps113 ?_;intro zb;obtain⟨h0,hrp⟩:=hR;have hsv:=B5 h0;refine O [1,2] J (bZ [(9,⟨false,[aX (okW x)]⟩)] [1,2,15] J (eY (dY x)) ?_);refine aM J ?_ ?_<;>intro hb0
 ·have hk:tD x=false:=dy hb0 Xw;have hc:=TW hk;exact bq [(17,⟨true,[.agg (bC x)]⟩)] [2] J (eY (iI x h0)) (au (aj J M7))
 ·have hk:tD x=true:=dr hb0 Xw;have hc:=Hj hk;obtain⟨hok,hr9⟩:=V3 hk;have hcl:=mu hok;have hcs:=Qz hok;have hs4:=iY hok;have hpd:=yU (cF x);have hjz:=jB (TQ _ hpd);have hgl:=yd x.bW (cF x) (eW (cF x)) (mV x) (cF x).length;have hpl:(eW (cF x)).length=(cF x).length:=bt ..;obtain⟨hB1,hB2⟩:=afr h0 hok hrp;refine av (bq [(20,⟨true,[.a (.sl .cH (cF x)), .a (.sl .kj (mV x))]⟩)] [1,2,3,4] J (eY (D7 x h0)) (bq [(24,⟨true,[.a (.sl .DB (eW (cF x)))]⟩)] [1,2,3,4,5] J (eY (Jm (cF x) aJ)) (aA ?_)));have t1:=(Ed (eW (cF x)) aJ hpd);refine bY [(27,⟨true,cA t1⟩)] [1,2,3,4,5,6] J qM (aA ?_);have t1:=(Ju x (p7 x.bW (cF x) (eW (cF x)) (mV x) (cF x).length) (jw (eW (cF x))) h0 aJ hjz);have t2:=(Hl (eX x (p7 x.bW (cF x) (eW (cF x)) (mV x) (cF x).length) (jw (eW (cF x)))) hB1);have t3:=(LB (testW (eX x (p7 x.bW (cF x) (eW (cF x)) (mV x) (cF x).length) (jw (eW (cF x))))) hB2);exact cu X [(38,60),(39,100),(40,150)] [(36,⟨true,[.a (.sl .int (p7 x.bW (cF x) (eW (cF x)) (mV x) (cF x).length))]⟩),(38,⟨true,cA t1⟩),(39,⟨true,cA t2⟩),(40,⟨true,cA t3⟩)] [2] [] 2047 0 MO gq J gq (by(with_reducible and_intros);(iterate 4 all_goals try first|exact⟨⟩|exact(Jl x.bW (cF x) (eW (cF x)) (mV x) aJ hcs (afe _))|exact t1|exact t2|exact t3)) (au (aj J M7))
theorem NF(hR:wR x)(hok:okW x=true):So 238 [.agg (bC x)] [.agg (bC (MR (testW (eX x (p7 x.bW (cF x) (eW (cF x)) (mV x) (cF x).length) (jw (eW (cF x)))))))]:=by
 refine aZ call238 func238 ntmps238 ?_;intro zb;obtain⟨h0,hrp⟩:=hR;have hsv:=B5 h0;have hcl:=mu hok;have hcs:=Qz hok;have hs4:=iY hok;have hpd:=yU (cF x);have hjz:=jB (TQ _ hpd);have hgl:=yd x.bW (cF x) (eW (cF x)) (mV x) (cF x).length;have hpl:(eW (cF x)).length=(cF x).length:=bt ..;obtain⟨hB1,hB2⟩:=afr h0 hok hrp;refine O [1,2] J (bq [(10,⟨true,[.a (.sl .cH (cF x)), .a (.sl .kj (mV x))]⟩)] [1,2,3,4] J (eY (D8 x h0)) (bq [(14,⟨true,[.a (.sl .DB (eW (cF x)))]⟩)] [1,2,3,4,5] J (eY (Jo (cF x) aJ)) (aA ?_)));have t1:=(Ef (eW (cF x)) aJ hpd);refine bY [(17,⟨true,cA t1⟩)] [1,2,3,4,5,6] J qM (aA ?_);have t1:=(Jv x (p7 x.bW (cF x) (eW (cF x)) (mV x) (cF x).length) (jw (eW (cF x))) h0 aJ hjz);have t2:=(Ho (eX x (p7 x.bW (cF x) (eW (cF x)) (mV x) (cF x).length) (jw (eW (cF x)))) hB1);have t3:=(LD (testW (eX x (p7 x.bW (cF x) (eW (cF x)) (mV x) (cF x).length) (jw (eW (cF x))))) hB2);exact cu X [(28,60),(29,100),(30,150)] [(26,⟨true,[.a (.sl .int (p7 x.bW (cF x) (eW (cF x)) (mV x) (cF x).length))]⟩),(28,⟨true,cA t1⟩),(29,⟨true,cA t2⟩),(30,⟨true,cA t3⟩)] [2] [] 2047 0 MO gq J gq (by(with_reducible and_intros);(iterate 4 all_goals try first|exact⟨⟩|exact(Jn x.bW (cF x) (eW (cF x)) (mV x) aJ hcs (afe _))|exact t1|exact t2|exact t3)) (au (aj J ⟨J,J,J,J,J,J,J,J,J,J,⟨⟩⟩))
theorem Ce(hR:wR x):So 150 [.agg (bC x)] [.agg (bC (gG x))]:=by
 refine aZ call150 func150 ntmps150 ?_;intro zb;have h0:=hR.1;refine O [1,2] J (bZ [(4,⟨false,[aX (okW x)]⟩)] [1,2,10] J (eY (eG x)) ?_);refine aM J ?_ ?_<;>intro hb0
 ·have hk:tD x=false:=dy hb0 Xw;have hc:=TW hk;exact bq [(12,⟨true,[.agg (bC x)]⟩)] [2] J (eY (gL x h0)) (au (aj J M7))
 ·have hk:tD x=true:=dr hb0 Xw;have hc:=Hj hk;obtain⟨hok,hr9⟩:=V3 hk;refine av (aA ?_);have t1:=(NF x hR hok);exact bY [(14,⟨true,cA t1⟩)] [2] J qM (au (aj J M7))
end
section
variable(x:dF)
set_option maxRecDepth 100000
theorem QN(a b:Int):So 81 [aI a,aI b] [aI (lW a b)]:=by
 refine aZ call81 func81 ntmps81 ?_;intro zb;refine O [0,1] J (aR [0,1,7] J ?_);refine bD J ?_ ?_<;>intro hb0
 ·exact O [4] J (au (aj J ⟨by rw[lW,if_pos aJ],⟨⟩⟩))
 ·exact av (O [4] J (au (aj J ⟨by rw[lW,if_neg aJ],⟨⟩⟩)))
theorem Bx(c:kf):So 184 [.agg (dw c)] [aI (waiting c)]:=by
 refine aZ call184 func184 ntmps184 ?_;intro zb;exact O [1] J (O [2] J (au (aj J ⟨J,⟨⟩⟩)))
theorem nJ:So 110 [.agg (bC x)] [aI (qt x.ah x.ah.length)]:=by
 refine aZ call110 func110 ntmps110 ?_;intro zb;refine cj 0 2 rfl rfl (fun uI=>(O [1] J (O [1,3] J (aR [3,7,8,9] J ?_))));refine cm x.ah.length (fun k:Nat=> [(3, .one ((aI (qt x.ah k)))),(9, .one ((aI k)))]) (fun k=> []) (fun k=>rfl) rfl ?_;intro k hk;refine O [3,7,8,9,10] J ?_;refine eg J ?_ ?_<;>intro hb0
 ·refine av (aA (aK (aL [3,5,7,8,9] J je (bY [(16,⟨false,[aI (waiting ((x.ah.getD k (aO .bR)).live))]⟩)] [3,7,8,9] J (eY (Bx ((x.ah.getD k (aO .bR)).live))) (bI [3,7,8,9] J ?_)))));exact Fz
 ·exact bf (O [2] J (au (aj J ⟨by rw[show k=x.ah.length by omega],⟨⟩⟩)))
theorem oq(hd:x.ah.length≤1048576):So 111 [.agg (bC x)] [aI (CC x.ah x.ah.length)]:=by
 refine aZ call111 func111 ntmps111 ?_;intro zb;refine cj 0 2 rfl rfl (fun uI=>(O [1] J (O [1,3] J (aR [1,3,7,8,9] J ?_))));refine cm x.ah.length (fun k:Nat=> [(3, .one ((aI (CC x.ah k)))),(9, .one ((aI k)))]) (fun k=> []) (fun k=>rfl) rfl ?_;intro k hk;refine O [1,3,7,8,9,10] J ?_;refine eg J ?_ ?_<;>intro hb0
 ·refine av (aA (aK (aL [1,3,4,5,7,8,9] J je (bq [(16,⟨false,[aX (jW x (k:Int))]⟩)] [1,3,4,5,7,8,9,16] J (eY (xJ x (k:Int) fj)) ?_))));refine aM J ?_ ?_<;>intro cQ
  ·rw[QM hb0,decide_eq_true_eq]at cQ;have hx:(af.wrap (aF af.bits (k:Int)^^^aF af.bits 1).toNat)=((k^^^1:Nat):Int):=Nt k aJ;have hx0:0≤(af.wrap (aF af.bits (k:Int)^^^aF af.bits 1).toNat)∧(af.wrap (aF af.bits (k:Int)^^^aF af.bits 1).toNat)<(x.ah.length:Int):=by rw[hx];omega
   refine cT X [] [1,3,7,8,9] 131071 rfl je (bI [1,3,7,8,9] J ?_);exact(by refine⟨k+1,aJ,aJ,?_⟩;rw[gT _ k rfl aJ,V6 cQ,hx,anb];try rfl)
  ·rw[QM hb0,decide_eq_false_iff_not]at cQ;exact av (bI [1,3,7,8,9] J (by refine⟨k+1,aJ,aJ,?_⟩;rw[gT _ k rfl aJ,QL cQ];try rfl))
 ·exact bf (O [2] J (au (aj J ⟨by rw[show k=x.ah.length by omega],⟨⟩⟩)))
theorem QO(hd:x.ah.length≤1048576):So 67 [.agg (bC x)] [aX (vK x)]:=by
 refine aZ call67 func67 ntmps67 ?_;intro zb;exact O [1] J (bq [(4,⟨false,[aI (qt x.ah x.ah.length)]⟩),(8,⟨false,[aI (CC x.ah x.ah.length)]⟩)] [2] J (Km (nJ x) (oq x hd)) (au (aj J ⟨(congrArg eF aBS),⟨⟩⟩)))
theorem FV(hd:x.ah.length≤1048576):So 60 [.agg (bC x)] [aI (yy x)]:=by
 refine aZ call60 func60 ntmps60 ?_;intro zb;exact O [1] J (aA (cT X [(4,⟨false,[aI (qt x.ah x.ah.length)]⟩),(6,⟨false,[aI (CC x.ah x.ah.length)]⟩)] [2] 511 rfl (qqu (nJ x) (oq x hd)) (au (aj J ⟨J,⟨⟩⟩))))
theorem Ap(c:Int)(hC:wC x 4100000):So 59 [.agg (bC x),aI c] [.agg (bC (jC x (Ao c)))]:=by
 refine aZ call59 func59 ntmps59 ?_;intro zb;have h0:wB x:=amW hC cO;refine O [1,2,4] J (bq [(7,⟨true,[.agg (bC x)]⟩)] [1,4,5] J (eY (iI x h0)) (bZ [(9,⟨false,[aX (inr c 0 400)]⟩)] [1,4,5,9] J (eY (bu c 0 400)) ?_));refine bD J ?_ ?_<;>intro hb0
 ·have hin:=acO hb0;have hrn:=anc c;refine O [4,5,10,11] J ?_;refine cm (Ao c) (fun k:Nat=> [(11, .one ((aI k)))]) (fun k=> [(8, .arr .cH (jC x k).aC),(9, .arr .bR (jC x k).ah),(11, .arr .bn (jC x k).aH.rounds),(15, .arr .int (jC x k).replaced),(5, .box [eE (jC x k).rows, .own 8, .own 9,eE (jC x k).aH.rows, .own 11,eE (jC x k).bW,eE (jC x k).seed,eE (jC x k).round, .own 15,eE (jC x k).cancelled])]) (fun k=>rfl) rfl ?_;intro k hk;have hrb:=ane hC (k:=k) aJ;refine O [4,5,10,11,12] J ?_;refine eg J ?_ ?_<;>intro cQ
  ·refine av (aA (aK (dX [(14,150)] [(14,⟨true,[.agg (bC (gG (jC x k)))]⟩)] [4,5,10,11] [] J (eY (Cd (jC x k) hrb.1)) (fM 151 8 rfl (fM 152 9 rfl (fM 154 11 rfl (fM 158 15 rfl (bI [4,5,10,11] J ?_))))))));exact Fz
  ·have hkk:Ao c=k:=by omega
   exact bf (aL [4] J gA (au (aj J aBG)))
 ·have hkk:=afs hb0;exact av (aL [4] J gA (au (aj J (by and_intros<;>first|exact⟨⟩| (rw[hkk];rfl;done)))))
theorem By(c:kf):So 151 [.agg (dw c)] [aI (waiting c)]:=by
 refine aZ call151 func151 ntmps151 ?_;intro zb;exact O [1] J (O [2] J (au (aj J ⟨J,⟨⟩⟩)))
theorem k7:So 83 [.agg (bC x)] [aI (qt x.ah x.ah.length)]:=by
 refine aZ call83 func83 ntmps83 ?_;intro zb;refine cj 0 2 rfl rfl (fun uI=>(O [1] J (O [1,3] J (aR [1,3,4] J ?_))));refine cm x.ah.length (fun k:Nat=> [(3, .one ((aI (qt x.ah k)))),(4, .one ((aI k)))]) (fun k=> []) (fun k=>rfl) rfl ?_;intro k hk;refine aR [1,3,4,9] J ?_;refine bD J ?_ ?_<;>intro hb0
 ·refine av (aA (aK (bY [(19,⟨false,[aI (waiting ((x.ah.getD k (aO .bR)).live))]⟩)] [1,3,4] J (OH (By ((x.ah.getD k (aO .bR)).live))) (bI [1,3,4] J ?_))));exact Fz
 ·exact bf (O [2] J (au (aj J ⟨by rw[show k=x.ah.length by omega],⟨⟩⟩)))
theorem lS(hd:x.ah.length≤1048576):So 84 [.agg (bC x)] [aI (CC x.ah x.ah.length)]:=by
 refine aZ call84 func84 ntmps84 ?_;intro zb;refine cj 0 2 rfl rfl (fun uI=>(O [1] J (O [1,3] J (aR [1,3,4] J ?_))));refine cm x.ah.length (fun k:Nat=> [(3, .one ((aI (CC x.ah k)))),(4, .one ((aI k)))]) (fun k=> []) (fun k=>rfl) rfl ?_;intro k hk;refine aR [1,3,4,9] J ?_;refine bD J ?_ ?_<;>intro hb0
 ·refine av (aA (aK (O [1,3,4,17] J ?_)));refine bD J ?_ ?_<;>intro cQ
  ·have hx:(af.wrap (aF af.bits (k:Int)^^^aF af.bits 1).toNat)=((k^^^1:Nat):Int):=Nt k aJ;have hx1:(k^^^1)<x.ah.length:=by rw[hx]at cQ;omega
   have hx0:0≤(af.wrap (aF af.bits (k:Int)^^^aF af.bits 1).toNat)∧(af.wrap (aF af.bits (k:Int)^^^aF af.bits 1).toNat)<(x.ah.length:Int):=by rw[hx];omega
   refine cT X [] [1,3,4] 2097151 rfl je (bI [1,3,4] J ?_);exact(by refine⟨k+1,aJ,aJ,?_⟩;rw[gT _ k rfl aJ,V6 hx1,hx];try rfl)
  ·have hx:(af.wrap (aF af.bits (k:Int)^^^aF af.bits 1).toNat)=((k^^^1:Nat):Int):=Nt k aJ;have hx1: ¬(k^^^1)<x.ah.length:=by rw[hx]at cQ;omega
   exact av (bI [1,3,4] J (by refine⟨k+1,aJ,aJ,?_⟩;rw[gT _ k rfl aJ,QL hx1];try rfl))
 ·exact bf (O [2] J (au (aj J ⟨by rw[show k=x.ah.length by omega],⟨⟩⟩)))
theorem QS(hd:x.ah.length≤1048576):So 44 [.agg (bC x)] [aX (vK x)]:=by
 refine aZ call44 func44 ntmps44 ?_;intro zb;exact O [1] J (bq [(4,⟨false,[aI (qt x.ah x.ah.length)]⟩),(8,⟨false,[aI (CC x.ah x.ah.length)]⟩)] [2] J (Km (k7 x) (lS x hd)) (au (aj J ⟨(congrArg eF aBS),⟨⟩⟩)))
theorem FW(hd:x.ah.length≤1048576):So 37 [.agg (bC x)] [aI (yy x)]:=by
 refine aZ call37 func37 ntmps37 ?_;intro zb;refine O [1] J (aA ?_);have t1:=(tT (qt x.ah x.ah.length) (CC x.ah x.ah.length));have t2:=(tT 0 (mx (qt x.ah x.ah.length) (CC x.ah x.ah.length)));have t3:=(QN 400 (af.wrap (20+af.wrap (8*mx 0 (mx (qt x.ah x.ah.length) (CC x.ah x.ah.length))))));exact cT X [(4,⟨false,[aI (qt x.ah x.ah.length)]⟩),(6,⟨false,[aI (CC x.ah x.ah.length)]⟩),(7,⟨false,cA t1⟩),(8,⟨false,cA t2⟩),(11,⟨false,cA t3⟩)] [2] 1023 rfl (have u1:=(k7 x);have u2:=(lS x hd);(by(with_reducible and_intros);(iterate 5 all_goals try first|exact⟨⟩|exact u1|exact u2|exact t1|exact t2|exact t3))) (au (aj J ⟨by rw[yy,as5],⟨⟩⟩))
theorem LF(c:Int)(hC:wC x 4100000):So 80 [.agg (bC x),aI c] [.agg (bC (jC x (Ao c)))]:=by
 refine aZ call80 func80 ntmps80 ?_;intro zb;have h0:wB x:=amW hC cO;refine O [1,2,4] J (bq [(8,⟨true,[.agg (bC x)]⟩)] [1,4,5] J (eY (gL x h0)) (aR [1,4,5,6] J ?_));refine cm (Ao c) (fun k:Nat=> [(6, .one ((aI k)))]) (fun k=> [(9, .arr .cH (jC x k).aC),(10, .arr .bR (jC x k).ah),(12, .arr .bn (jC x k).aH.rounds),(16, .arr .int (jC x k).replaced),(5, .box [eE (jC x k).rows, .own 9, .own 10,eE (jC x k).aH.rows, .own 12,eE (jC x k).bW,eE (jC x k).seed,eE (jC x k).round, .own 16,eE (jC x k).cancelled])]) (fun k=>rfl) rfl ?_;intro k hk;have hrn:=anc c;have hrb:=ane hC (k:=k) aJ;refine aR [1,4,5,6,15] J ?_;refine aM J ?_ ?_<;>intro hb0
 ·have hgo:=aEc hb0;refine av (aA (aK (dX [(19,150)] [(19,⟨true,[.agg (bC (gG (jC x k)))]⟩)] [1,4,5,6] [] J (eY (Ce (jC x k) hrb.1)) (fM 151 9 rfl (fM 152 10 rfl (fM 154 12 rfl (fM 158 16 rfl (bI [1,4,5,6] J ?_))))))));exact Fz
 ·have hkk:=(ay7 hk hb0).symm;exact bf (aL [4] J gA (au (aj J aBG)))
end
section
variable(d:bR)(x:dF)
set_option maxRecDepth 100000
theorem wE(c:kf)(b:List UInt8)(h0:gb aN c.aT≤1048576∧gb aN c.inbox≤1048576)(hb:b.length≤1048576):So 282 [.agg (dw c), .a (.sl .u8 b)] [.agg (dw (qG c b)),aX (CZ c b)]:=by
 refine aZ call282 func282 ntmps282 ?_;intro zb;have Gj:=fT h0.1;refine O [1,2,4] J (bq [(8,⟨true,[.agg (dw c)]⟩)] [1,2,4,6] J (eY (jD c h0)) (aA (cu X [(12,40),(14,60)] [(12,⟨true,[.a (.sl .u8 b)]⟩),(500013,⟨true,[]⟩)] [2,4,6] [] 31 0 MO gq J gq (GD (iO b fj)) ?_)));refine bZ [(17,⟨false,[aX (iJ c)]⟩),(21,⟨false,[aX (iJ (acM c b))]⟩)] [2,4,6,23] J (Km (ji c) (ji (acM c b))) ?_;refine aM J ?_ ?_<;>intro hb0
 ·have hk:CZ c b=false:=dy hb0 aqY;have hq:=aft hk;exact bq [(25,⟨true,[.agg (dw c)]⟩)] [4,5] J (eY (jD c h0)) (au (aj J qqx))
 ·have hk:CZ c b=true:=dr hb0 aqY;have hq:=Jw hk;exact av (aL [4,5] J gA (au (aj J ag2)))
theorem CD(b:List UInt8)(h0:cE d≤1048576)(hb:b.length≤1048576):So 215 [.agg (dU d), .a (.sl .u8 b)] [.agg (dU (Jf d b)),aX (HW d b)]:=by
 refine aZ call215 func215 ntmps215 ?_;intro zb;have hc1:eO d.live≤1048576∧eO d.saved≤1048576:=by unfold cE at h0;omega
 unfold eO at hc1;refine O [1,2,4] J (bq [(14,⟨true,[.agg (dw (qG d.live b)),aX (CZ d.live b)]⟩)] [1,2,4,6,7] J (eY (wE d.live b ⟨aJ,aJ⟩ hb)) (bq [(21,⟨true,[.agg (dw (qG d.saved b)),aX (CZ d.saved b)]⟩)] [2,4,6,7,8,9] J (eY (wE d.saved b ⟨aJ,aJ⟩ hb)) (bZ [(25,⟨false,[aX (gx d)]⟩)] [2,4,6,8,34] J (eY (jk d)) ?_)));refine aM J ?_ ?_<;>intro hb0
 ·have hk:HW d b=false:=dy hb0 aqZ;have hq:=V7 hk;exact bq [(36,⟨true,[.agg (dU d)]⟩)] [4,5] J (eY (mw d h0)) (au (aj J qqx))
 ·have hk:HW d b=true:=dr hb0 aqZ;have hq:=ZB hk;exact av (aL [4,5] J gA (au (aj J qqx)))
theorem Hq(h0:cE d≤1048576):So 216 [.agg (dU d)] [.agg (dU (Zr d))]:=by
 refine aZ call216 func216 ntmps216 ?_;intro zb;have hc1:eO d.live≤1048576∧eO d.saved≤1048576:=by unfold cE at h0;omega
 unfold eO at hc1;refine O [1,2] J (bZ [(4,⟨false,[aX (gx d)]⟩)] [1,2,5] J (eY (jk d)) ?_);refine aM J ?_ ?_<;>intro hb0
 ·have hk:gx d=false:=by simpa using hb0
  have hd:Zr d=d:=by rw[Zr,hk];rfl
  exact bq [(7,⟨true,[.agg (dU d)]⟩)] [2] J (eY (mw d h0)) (au (aj J Xt))
 ·have hk:gx d=true:=by simpa using hb0
  have hd:Zr d=⟨d.saved,d.saved⟩:=by rw[Zr,if_pos hk]
  exact av (bq [(10,⟨true,[.agg (dU (⟨d.saved,d.saved⟩:bR))]⟩)] [2] J (eY (uz d.saved ⟨aJ,aJ⟩)) (au (aj J Xt)))
theorem Eg(c:Int)(b:List UInt8)(h0:wB x)(hb:b.length≤1048576):So 125 [.agg (bC x),aI c, .a (.sl .u8 b)] [.agg (bC (TU x c b)),aX (Zs x c b)]:=by
 refine aZ call125 func125 ntmps125 ?_;intro zb;refine cj 0 1 rfl rfl (fun hl1=> ?_);refine cj 0 2 rfl rfl (fun uI=> ?_);have hdv:=IX h0;have hsv:=B5 h0;have hw:af.wrap ((x.ah.length:Int)-1)=(x.ah.length:Int)-1:=cY aJ;refine O [1,2,3,6] J (bq [(12,⟨true,[.agg (bC x)]⟩)] [1,2,3,6,8] J (eY (iI x h0)) (bZ [(14,⟨false,[aX (okW x)]⟩),(19,⟨false,[aX (n8 x c)]⟩)] [1,2,3,6,8,21] J (Km (dY x) (iH x c)) ?_));refine aM J ?_ ?_<;>intro hb0
 ·have hk:gY x c=false:=dy hb0 aq0;have hq:=ang (b:=b) hk;exact aL [6,7] J gA (au (aj J aBp))
 ·have hk:gY x c=true:=dr hb0 aq0;obtain⟨hok,hc0,hc1⟩:=p8 hk;have hdz:=LG hk;have hq:=V8 (b:=b) hk;refine av (aA ?_);have t1:=(CD (x.ah.getD c.toNat (aO .bR)) b hdz hb);refine bY [(30,⟨true,cA t1⟩)] [1,6,8,9,10] J CW (aR [1,6,8,9,10,33] J ?_);refine aM J ?_ ?_<;>intro cQ
  ·exact iB X [6,8,10] J je (aL [6,7] J gA (au (aj J aBg)))
  ·have hs:=anh hk cQ;exact av (aL [6,7] J gA (au (aj J (by and_intros<;>first|exact⟨⟩| (rw[hs];done)| (rw[hq.2];rfl;done)))))
theorem Hr(c:Int)(h0:wB x):So 126 [.agg (bC x),aI c] [.agg (bC (Se x c)),aX (gY x c)]:=by
 refine aZ call126 func126 ntmps126 ?_;intro zb;refine cj 0 1 rfl rfl (fun hl1=> ?_);refine cj 0 2 rfl rfl (fun uI=> ?_);have hdv:=IX h0;have hsv:=B5 h0;have hw:af.wrap ((x.ah.length:Int)-1)=(x.ah.length:Int)-1:=cY aJ;refine O [1,2,4] J (bq [(8,⟨true,[.agg (bC x)]⟩)] [1,2,4,6] J (eY (iI x h0)) (bZ [(10,⟨false,[aX (okW x)]⟩),(15,⟨false,[aX (n8 x c)]⟩)] [1,2,4,6,17] J (Km (dY x) (iH x c)) ?_));refine aM J ?_ ?_<;>intro hb0
 ·have hk:gY x c=false:=dy hb0 aq0;have hq:=ani hk;exact aL [4,5] J gA (au (aj J qqx))
 ·have hk:gY x c=true:=dr hb0 aq0;obtain⟨hok,hc0,hc1⟩:=p8 hk;have hdz:=LG hk;have hq:=afu hk;exact av (aA (cT X [(27,⟨true,[.agg (dU (Zr (x.ah.getD c.toNat (aO .bR))))]⟩)] [4,6] 1023 rfl (OH (Hq (x.ah.getD c.toNat (aO .bR)) hdz)) (aL [4,5] J gA (au (aj J ag2)))))
theorem Eh(i b:Int)(h0:wB x):So 127 [.agg (bC x),aI i,aI b] [.agg (bC (V1 x i b)),aX (Cl x i b)]:=by
 refine aZ call127 func127 ntmps127 ?_;intro zb;refine cj 0 1 rfl rfl (fun hl1=> ?_);refine cj 0 2 rfl rfl (fun uI=> ?_);have hdv:=IX h0;have hsv:=B5 h0;refine O [1,2,3,6] J (bq [(10,⟨true,[.agg (bC x)]⟩)] [1,2,3,6,8] J (eY (iI x h0)) (aA (aA ?_)));have t1:=(bu i 0 (af.wrap ((x.aC.length:Int)-1)));refine bY [(12,⟨false,[aX (okW x)]⟩),(20,⟨false,cA t1⟩),(25,⟨false,[aX (inr b 0 3)]⟩)] [1,2,6,8,27] J (aA7 (dY x) (bu b 0 3)) ?_;refine aM J ?_ ?_<;>intro hb0
 ·have hk:Cl x i b=false:=dy hb0 aq1;have hq:=ank hk;exact aL [6,7] J gA (au (aj J qqx))
 ·have hk:Cl x i b=true:=dr hb0 aq1;have hcb:=acN hk;have hq:=afw hk;exact av (aL [6,8] J je (aL [6,7] J gA (au (aj J ag2))))
theorem Jy(e:Ev)(hR:wR x)(hb:e.body.length≤1048576):So 70 [.agg (bC x), .agg (sC e)] [.agg (bC (FL x e)),aX (vr x e)]:=by
 refine aZ call70 func70 ntmps70 ?_;intro zb;have h0:=hR.1;refine cj 0 1 rfl rfl (fun hl1=> ?_);refine cj 0 2 rfl rfl (fun uI=> ?_);have hdv:=IX h0;have hsv:=B5 h0;have hw:af.wrap ((x.ah.length:Int)-1)=(x.ah.length:Int)-1:=cY aJ;refine O [2,3,4] J (bq [(8,⟨true,[.agg (bC x)]⟩)] [2,3,4,6] J (eY (iI x h0)) (bZ [(10,⟨false,[aX (okW x)]⟩)] [2,3,4,6,11] J (eY (dY x)) ?_));refine aM J ?_ ?_<;>intro hb0
 ·have hok:okW x=false:=by simpa using hb0
  have hv:=avW (e:=e) hok;exact aL [4,5] J gA (au (aj J qqr))
 ·have hok:okW x=true:=by simpa using hb0
  refine av (aR [2,3,4,6,14] J (aK (O [2,3,4,6,14,15] J ?_)));refine bD J ?_ ?_<;>intro cQ
  ·have hv:=aEd hok cQ;exact aA (cu X [] [(18,⟨true,[.agg (bC (gG x))]⟩)] [4,5] [] 95 3 MO gq J gq (eY (Cd x hR)) (au (aj J qqr)))
  ·refine O [2,3,4,6,14,22] J ?_;refine bD J ?_ ?_<;>intro fu
   ·have hv:=aEe hok fu;refine aA ?_;have t1:=(Eg x e.node e.body h0 hb);exact bY [(29,⟨true,cA t1⟩)] [4,5] J qM (au (aj J qqr))
   ·refine O [2,3,4,6,14,32] J ?_;refine bD J ?_ ?_<;>intro n9
    ·have hv:=aEf hok n9;exact bq [(37,⟨true,[.agg (bC (Se x e.node)),aX (gY x e.node)]⟩)] [4,5] J (eY (Hr x e.node h0)) (au (aj J qqr))
    ·refine O [2,3,4,6,14,40] J ?_;refine bD J ?_ ?_<;>intro xI
     ·have hv:=aEg hok xI;refine aA ?_;have t1:=(Eh x e.node e.value h0);exact bY [(47,⟨true,cA t1⟩)] [4,5] J qM (au (aj J qqr))
     ·refine O [2,3,4,6,50] J ?_;refine bD J ?_ ?_<;>intro MT
      ·have hv:=aEh hok MT;refine bq [(55,⟨false,[aX (n8 x e.node)]⟩)] [2,3,4,6,55] J (eY (iH x e.node)) ?_;refine aM J ?_ ?_<;>intro Oh
       ·have hh:n8 x e.node=true:=Oh;have hk:gY x e.node=true:=by rw[Jx hok];exact hh
        obtain⟨_,hc0,hc1⟩:=p8 hk;have hdz:=LG hk;have hq:=afv hk;exact aA (cT X [(66,⟨true,[.agg (dU (Sd (x.ah.getD e.node.toNat (aO .bR))))]⟩)] [4,6] 4095 rfl (OH (yV (x.ah.getD e.node.toNat (aO .bR)) hdz)) (aL [4,5] J gA (au (aj J aBe))))
       ·have hh:n8 x e.node=false:=Oh;have hk:gY x e.node=false:=by rw[Jx hok];exact hh
        have hq:=anj hk;exact av (aL [4,5] J gA (au (aj J aBh)))
      ·have hv:=aEi hok cQ fu n9 xI MT;exact av (aL [4,5] J gA (au (aj J qqr)))
theorem wF(c:kf)(b:List UInt8)(h0:gb aN c.aT≤1048576∧gb aN c.inbox≤1048576)(hb:b.length≤1048576):So 309 [.agg (dw c), .a (.sl .u8 b)] [.agg (dw (qG c b)),aX (CZ c b)]:=by
 refine aZ call309 func309 ntmps309 ?_;intro zb;have Gj:=fT h0.1;refine O [1,2,4] J (bq [(8,⟨true,[.agg (dw c)]⟩)] [1,2,4,6] J (eY (lN c h0)) (aA (cu X [(13,11),(13,40)] [(500014,⟨true,[]⟩)] [2,4,6] [] 175 2 MO gq J gq Ga (bZ [(18,⟨false,[aX (iJ c)]⟩),(22,⟨false,[aX (iJ (acM c b))]⟩)] [2,4,6,24] J (Km (jj c) (jj (acM c b))) ?_))));refine aM J ?_ ?_<;>intro hb0
 ·have hk:CZ c b=false:=dy hb0 aqY;have hq:=aft hk;exact bq [(26,⟨true,[.agg (dw c)]⟩)] [4,5] J (eY (lN c h0)) (au (aj J qqx))
 ·have hk:CZ c b=true:=dr hb0 aqY;have hq:=Jw hk;exact av (aL [4,5] J gA (au (aj J ag2)))
theorem CE(b:List UInt8)(h0:cE d≤1048576)(hb:b.length≤1048576):So 246 [.agg (dU d), .a (.sl .u8 b)] [.agg (dU (Jf d b)),aX (HW d b)]:=by
 refine aZ call246 func246 ntmps246 ?_;intro zb;have hc1:eO d.live≤1048576∧eO d.saved≤1048576:=by unfold cE at h0;omega
 unfold eO at hc1;refine O [1,2,4] J (bq [(14,⟨true,[.agg (dw (qG d.live b)),aX (CZ d.live b)]⟩)] [1,2,4,6,7] J (eY (wF d.live b ⟨aJ,aJ⟩ hb)) (bq [(21,⟨true,[.agg (dw (qG d.saved b)),aX (CZ d.saved b)]⟩)] [2,4,6,7,8,9] J (eY (wF d.saved b ⟨aJ,aJ⟩ hb)) (bZ [(25,⟨false,[aX (gx d)]⟩)] [2,4,6,8,34] J (eY (jl d)) ?_)));refine aM J ?_ ?_<;>intro hb0
 ·have hk:HW d b=false:=dy hb0 aqZ;have hq:=V7 hk;exact bq [(36,⟨true,[.agg (dU d)]⟩)] [4,5] J (eY (oZ d h0)) (au (aj J qqx))
 ·have hk:HW d b=true:=dr hb0 aqZ;have hq:=ZB hk;exact av (aL [4,5] J gA (au (aj J qqx)))
theorem Hs(h0:cE d≤1048576):So 247 [.agg (dU d)] [.agg (dU (Zr d))]:=by
 refine aZ call247 func247 ntmps247 ?_;intro zb;have hc1:eO d.live≤1048576∧eO d.saved≤1048576:=by unfold cE at h0;omega
 unfold eO at hc1;refine O [1,2] J (bZ [(4,⟨false,[aX (gx d)]⟩)] [1,2,5] J (eY (jl d)) ?_);refine aM J ?_ ?_<;>intro hb0
 ·have hk:gx d=false:=by simpa using hb0
  have hd:Zr d=d:=by rw[Zr,hk];rfl
  exact bq [(7,⟨true,[.agg (dU d)]⟩)] [2] J (eY (oZ d h0)) (au (aj J Xt))
 ·have hk:gx d=true:=by simpa using hb0
  have hd:Zr d=⟨d.saved,d.saved⟩:=by rw[Zr,if_pos hk]
  exact av (bq [(10,⟨true,[.agg (dU (⟨d.saved,d.saved⟩:bR))]⟩)] [2] J (eY (uA d.saved ⟨aJ,aJ⟩)) (au (aj J Xt)))
theorem Ei(c:Int)(b:List UInt8)(h0:wB x)(hb:b.length≤1048576):So 170 [.agg (bC x),aI c, .a (.sl .u8 b)] [.agg (bC (TU x c b)),aX (Zs x c b)]:=by
 refine aZ call170 func170 ntmps170 ?_;intro zb;refine cj 0 1 rfl rfl (fun hl1=> ?_);refine cj 0 2 rfl rfl (fun uI=> ?_);have hdv:=IX h0;have hsv:=B5 h0;have hw:af.wrap ((x.ah.length:Int)-1)=(x.ah.length:Int)-1:=cY aJ;refine O [1,2,3,6] J (bq [(12,⟨true,[.agg (bC x)]⟩)] [1,2,3,6,8] J (eY (gL x h0)) (aA (aA ?_)));have t1:=(bJ c 0 (af.wrap ((x.ah.length:Int)-1)));refine bY [(14,⟨false,[aX (okW x)]⟩),(22,⟨false,cA t1⟩)] [1,2,3,6,8,24] J (axn (eG x)) ?_;refine aM J ?_ ?_<;>intro hb0
 ·have hk:gY x c=false:=dy hb0 aqz;have hq:=ang (b:=b) hk;exact aL [6,7] J gA (au (aj J aBp))
 ·have hk:gY x c=true:=dr hb0 aqz;obtain⟨hok,hc0,hc1⟩:=p8 hk;have hdz:=LG hk;have hq:=V8 (b:=b) hk;refine av (aA ?_);have t1:=(CE (x.ah.getD c.toNat (aO .bR)) b hdz hb);exact bY [(33,⟨true,cA t1⟩)] [1,6,8,9,10] J CW (aL [6,8,10] J je (aL [6,7] J gA (au (aj J aBg))))
theorem Ht(c:Int)(h0:wB x):So 171 [.agg (bC x),aI c] [.agg (bC (Se x c)),aX (gY x c)]:=by
 refine aZ call171 func171 ntmps171 ?_;intro zb;refine cj 0 1 rfl rfl (fun hl1=> ?_);refine cj 0 2 rfl rfl (fun uI=> ?_);have hdv:=IX h0;have hsv:=B5 h0;have hw:af.wrap ((x.ah.length:Int)-1)=(x.ah.length:Int)-1:=cY aJ;refine O [1,2,4] J (bq [(8,⟨true,[.agg (bC x)]⟩)] [1,2,4,6] J (eY (gL x h0)) (aA (aA ?_)));have t1:=(bJ c 0 (af.wrap ((x.ah.length:Int)-1)));refine bY [(10,⟨false,[aX (okW x)]⟩),(18,⟨false,cA t1⟩)] [1,2,4,6,20] J (axn (eG x)) ?_;refine aM J ?_ ?_<;>intro hb0
 ·have hk:gY x c=false:=dy hb0 aqz;have hq:=ani hk;exact aL [4,5] J gA (au (aj J qqx))
 ·have hk:gY x c=true:=dr hb0 aqz;obtain⟨hok,hc0,hc1⟩:=p8 hk;have hdz:=LG hk;have hq:=afu hk;exact av (aA (cT X [(30,⟨true,[.agg (dU (Zr (x.ah.getD c.toNat (aO .bR))))]⟩)] [4,6] 1023 rfl (OH (Hs (x.ah.getD c.toNat (aO .bR)) hdz)) (aL [4,5] J gA (au (aj J ag2)))))
theorem Ej(i b:Int)(h0:wB x):So 172 [.agg (bC x),aI i,aI b] [.agg (bC (V1 x i b)),aX (Cl x i b)]:=by
 refine aZ call172 func172 ntmps172 ?_;intro zb;refine cj 0 1 rfl rfl (fun hl1=> ?_);refine cj 0 2 rfl rfl (fun uI=> ?_);have hdv:=IX h0;have hsv:=B5 h0;refine O [1,2,3,6] J (bq [(10,⟨true,[.agg (bC x)]⟩)] [1,2,3,6,8] J (eY (gL x h0)) (aA (aA ?_)));have t1:=(bJ i 0 (af.wrap ((x.aC.length:Int)-1)));refine bY [(12,⟨false,[aX (okW x)]⟩),(20,⟨false,cA t1⟩),(25,⟨false,[aX (inr b 0 3)]⟩)] [1,2,6,8,27] J (aA7 (eG x) (bJ b 0 3)) ?_;refine aM J ?_ ?_<;>intro hb0
 ·have hk:Cl x i b=false:=dy hb0 aq1;have hq:=ank hk;exact aL [6,7] J gA (au (aj J qqx))
 ·have hk:Cl x i b=true:=dr hb0 aq1;have hcb:=acN hk;have hq:=afw hk;exact av (aL [6,8] J je (aL [6,7] J gA (au (aj J ag2))))
theorem Jz(e:Ev)(hR:wR x)(hb:e.body.length≤1048576):So 103 [.agg (bC x), .agg (sC e)] [.agg (bC (FL x e)),aX (vr x e)]:=by
 refine aZ call103 func103 ntmps103 ?_;intro zb;have h0:=hR.1;refine cj 0 1 rfl rfl (fun hl1=> ?_);refine cj 0 2 rfl rfl (fun uI=> ?_);have hdv:=IX h0;have hsv:=B5 h0;have hw:af.wrap ((x.ah.length:Int)-1)=(x.ah.length:Int)-1:=cY aJ;refine O [2,3,4] J (bZ [(8,⟨false,[aX (okW x)]⟩)] [2,3,4,9] J (eY (eG x)) ?_);refine aM J ?_ ?_<;>intro hb0
 ·have hok:okW x=false:=by simpa using hb0
  have hv:=avW (e:=e) hok;exact bq [(11,⟨true,[.agg (bC x)]⟩)] [4,5] J (eY (gL x h0)) (au (aj J qqr))
 ·have hok:okW x=true:=by simpa using hb0
  refine av (aR [2,3,4,13] J (aK (O [2,3,4,13,14] J ?_)));refine bD J ?_ ?_<;>intro cQ
  ·have hv:=aEd hok cQ;exact aA (cu X [] [(17,⟨true,[.agg (bC (gG x))]⟩)] [4,5] [] 95 3 MO gq J gq (eY (Ce x hR)) (au (aj J qqr)))
  ·refine O [2,3,4,13,21] J ?_;refine bD J ?_ ?_<;>intro fu
   ·have hv:=aEe hok fu;refine aA ?_;have t1:=(Ei x e.node e.body h0 hb);exact bY [(28,⟨true,cA t1⟩)] [4,5] J qM (au (aj J qqr))
   ·refine O [2,3,4,13,31] J ?_;refine bD J ?_ ?_<;>intro n9
    ·have hv:=aEf hok n9;exact bq [(36,⟨true,[.agg (bC (Se x e.node)),aX (gY x e.node)]⟩)] [4,5] J (eY (Ht x e.node h0)) (au (aj J qqr))
    ·refine O [2,3,4,13,39] J ?_;refine bD J ?_ ?_<;>intro xI
     ·have hv:=aEg hok xI;refine aA ?_;have t1:=(Ej x e.node e.value h0);exact bY [(46,⟨true,cA t1⟩)] [4,5] J qM (au (aj J qqr))
     ·refine O [2,3,4,49] J ?_;refine bD J ?_ ?_<;>intro MT
      ·have hv:=aEh hok MT;refine bq [(52,⟨true,[.agg (bC x)]⟩)] [2,3,4,6] J (eY (gL x h0)) (aA (aA ?_));have t1:=(bJ e.node 0 (af.wrap ((x.ah.length:Int)-1)));refine bY [(59,⟨false,cA t1⟩)] [2,3,4,6,60] J qM ?_;refine aM J ?_ ?_<;>intro Oh
       ·have hh:n8 x e.node=false:=by rw[hw]at Oh;unfold n8;simpa using Oh
        have hk:gY x e.node=false:=by rw[Jx hok];exact hh
        have hq:=anj hk;exact aL [4,5] J gA (au (aj J aBh))
       ·have hh:n8 x e.node=true:=by rw[hw]at Oh;unfold n8;simpa using Oh
        have hk:gY x e.node=true:=by rw[Jx hok];exact hh
        obtain⟨_,hc0,hc1⟩:=p8 hk;have hdz:=LG hk;have hq:=afv hk;exact av (aA (cT X [(72,⟨true,[.agg (dU (Sd (x.ah.getD e.node.toNat (aO .bR))))]⟩)] [4,6] 4095 rfl (OH (yW (x.ah.getD e.node.toNat (aO .bR)) hdz)) (aL [4,5] J gA (au (aj J aBe)))))
      ·have hv:=aEi hok cQ fu n9 xI MT;exact av (bq [(76,⟨true,[.agg (bC x)]⟩)] [4,5] J (eY (gL x h0)) (au (aj J qqr)))
end
variable(v:Value)
set_option maxRecDepth 100000
theorem uO(c:xj)(b:List UInt8)(hcb:c.b=b)(hb:b.length≤1048576):jr ty aP 34 [(1000, .box [.uS v .u8 b,eE (c.i:Int),eE c.h])] [.a (.ptr 1000 0)] [(1000, .box [.uS v .u8 b,eE (c.n.i:Int),eE c.n.h])] [aI c.x]:=by
 refine ff X2 call34 func34 rfl rfl cO ntmps34 fI rfl ?_;intro zb;subst hcb;refine eH [0] J (iZ X2 [0] J gA (aA (cT X2 [] [0,3] 8191 rfl je (aA (aA (cT X2 [] [0,3,34] 1023 rfl gA ?_))))));refine bD J ?_ ?_<;>intro hb0
 ·have hx:c.x=aiv (af.wrap (c.x0+af.wrap ((c.b.getD c.i (aO .u8)).toNat:Int))):=by rw[xj.x,if_pos aJ]
  have hn:c.n.i=c.i+1:=by show(if c.i<c.b.length then c.i+1 else c.i)=_;rw[if_pos aJ]
  have hw:af.wrap ((c.i:Int)+1)=((c.i+1:Nat):Int):=by rw[cY aJ];omega
  exact aA (cT X2 [] [0,3] 32767 rfl je (iB X2 [3] J gA (eH [2] J (au (bB J ⟨by rw[hx];rfl,J,J,by rw[hn,hw],J,⟨⟩⟩)))))
 ·have hx:c.x=c.x0:=by rw[xj.x,if_neg aJ]
  have hn:c.n.i=c.i:=by show(if c.i<c.b.length then c.i+1 else c.i)=_;rw[if_neg aJ]
  exact av (eH [2] J (au (bB J ⟨by rw[hx];rfl,J,J,by rw[hn],J,⟨⟩⟩)))
theorem gM(c:xj)(n:Int)(b:List UInt8)(hcb:c.b=b)(hb:b.length≤1048576):jr ty aP 16 [(1000, .box [.uS v .u8 b,eE (c.i:Int),eE c.h])] [.a (.ptr 1000 0),aI n] [(1000, .box [.uS v .u8 b,eE ((dn c n).i:Int),eE (dn c n).h])] [aI (gV c n)]:=by
 refine ff X2 call16 func16 rfl rfl cO ntmps16 fI rfl ?_;intro zb;refine eH [0,1] J (mU X2 [0,1,9] J ?_);refine bD J ?_ ?_<;>intro hb0
 ·have hx:gV c n=0:=by rw[gV,if_pos hb0]
  have hn:dn c n=c:=by rw[dn,if_pos hb0]
  exact eH [4] J (au (bB J ⟨by rw[hx],J,J,by rw[hn],by rw[hn],⟨⟩⟩))
 ·have h0: ¬n≤0:=by omega
  refine av (mU X2 [0,1,11] J ?_);refine bD J ?_ ?_<;>intro cQ
  ·have hx:gV c n=c.x.tmod n:=by rw[gV,if_neg h0,if_pos cQ]
   have hn:dn c n=c.n:=by rw[dn,if_neg h0,if_pos cQ]
   refine aA ?_;have t1:=(uO v c b hcb hb);exact Dj X2 [(800013,⟨true,iW t1⟩),(700013,⟨true, .agg [.ptr 1000 1000]:: .agg []::iX t1⟩)] [4] J axq (au (bB J ⟨by rw[hx],J,J,by rw[hn],by rw[hn],⟨⟩⟩))
  ·have h1: ¬n≤256:=by omega
   have hx:gV c n=(af.wrap (af.wrap (af.wrap (c.x*65536)+af.wrap (c.n.x*256))+c.n.n.x)).tmod n:=by rw[gV,if_neg h0,if_neg h1]
   have hn:dn c n=c.n.n.n:=by rw[dn,if_neg h0,if_neg h1]
   refine av (aA ?_);have t1:=(uO v c b hcb hb);refine Dj X2 [(800017,⟨true,iW t1⟩),(700017,⟨true, .agg [.ptr 1000 1000]:: .agg []::iX t1⟩)] [0,1,5] J qqy (aA ?_);have t1:=(uO v c.n b hcb hb);refine Dj X2 [(800019,⟨true,iW t1⟩),(700019,⟨true, .agg [.ptr 1000 1000]:: .agg []::iX t1⟩)] [0,1,5,6] J qqy (aA ?_);have t1:=(uO v c.n.n b hcb hb);exact Dj X2 [(800021,⟨true,iW t1⟩),(700021,⟨true, .agg [.ptr 1000 1000]:: .agg []::iX t1⟩)] [1,5,6,7] J qqy (iZ X2 [4] J je (au (bB J ⟨by rw[hx],J,J,by rw[hn],by rw[hn],⟨⟩⟩)))
theorem Wf(c:xj)(l:List Int)(b:List UInt8)(hcb:c.b=b)(hb:b.length≤1048576)(hl:0<l.length∧l.length≤1048576):jr ty aP 19 [(1000, .box [.uS v .u8 b,eE (c.i:Int),eE c.h])] [.a (.ptr 1000 0), .a (.sl .int l)] [(1000, .box [.uS v .u8 b,eE ((dn c (l.length:Int)).i:Int),eE (dn c (l.length:Int)).h])] [aI (l.getD (gV c (l.length:Int)).toNat (aO .int))]:=by
 refine ff X2 call19 func19 rfl rfl cO ntmps19 fI rfl ?_;intro zb;have Ng:=nK c (n:=(l.length:Int)) aJ;refine eH [0,1] J (aA ?_);have t1:=(gM v c (l.length:Int) b hcb hb);exact Dj X2 [(800009,⟨true,iW t1⟩),(700009,⟨true, .agg [.ptr 1000 1000]:: .agg []::iX t1⟩)] [4] J axq (au (bB J ⟨J,J,J,J,J,⟨⟩⟩))
theorem Sh(l:List UInt8)(m:Int):So 20 [.a (.sl .u8 l),aI m] [aI (Sg l m)]:=by
 refine eU X2 call20 func20 rfl rfl cO ntmps20 fI ?_;intro zb;refine eH [0,1] J (iZ X2 [1,5] J je (mU X2 [1,5,12] J ?_));refine bD J ?_ ?_<;>intro hb0
 ·exact eH [4] J (au (aj J ⟨by rw[Sg,if_pos aJ],⟨⟩⟩))
 ·exact av (eH [4] J (au (aj J ⟨by rw[Sg,if_neg aJ],⟨⟩⟩)))
theorem JB(l:List UInt8):jr ty aP 14 [] [.a (.uS v .u8 l)] [(907, .box [.uS v .u8 l,eE ((jQ l).i:Int),eE (jQ l).h])] [.a (.ptr 907 0)]:=by
 refine ff X2 call14 func14 rfl rfl cO ntmps14 fI rfl ?_;intro zb;refine eH [0] J (eH [0,3] J (mU X2 [0,3,4] J ?_));refine aK (ef (fun k=>k≤QV l) (fun k:Nat=> [(3, .one ((aI (atd l k)))),(4, .one ((aI k)))]) (fun k=> []) (fun k=>(QV l)-k) 0 (fun k=>rfl) (aY _) rfl ?_);intro k hk;have hck:QV l≤4000:=by unfold QV;omega
 refine mU X2 [0,3,4,15] J ?_;refine aM J ?_ ?_<;>intro hb0
 ·have hgo:=ay9 hb0;have hs:=aiw (l:=l) (k:=k) (by unfold QV at hgo;omega);refine av (aA (aK (iB X2 [0,3,4] J (by and_intros<;>first|exact⟨⟩| (intros;omega)| (intros;simp only[nb]at*;omega)) (mM X2 [0,3,4] J ?_))));exact gZ
 ·have hke:=ate hk hb0;exact bf (mK X2 [(31,907)] [] [2] [] J ⟨⟩ (au (bB J ⟨J,J,J,by rw[hke];rfl,⟨⟩⟩)))
theorem JC(r:Int)(h:1≤r∧r≤64):So 93 [aI r] [.agg (gX (⟨r,[]⟩:tE))]:=by
 refine eU X2 call93 func93 rfl rfl cO ntmps93 fI ?_;intro zb;refine eH [0,2] J (wu X2 [(4,⟨false,[aX (inr r 1 64)]⟩)] [0,2,5] J (eY (bJ r 1 64)) ?_);refine bD J ?_ ?_<;>intro hb0
 ·omega
 ·exact av (iZ X2 [2] J gA (au (aj J ⟨J,J,⟨⟩⟩)))
theorem LK(i f k s:Int)(h1:0≤i∧i≤7)(h2:0≤f∧f≤7)(h3:i≠f)(h4:1≤k∧k≤2147483646):So 97 [aI i,aI f,aI k,aI s] [.agg (dw (⟨i,f,k,s,[],0,[],0⟩:kf))]:=by
 refine eU X2 call97 func97 rfl rfl cO ntmps97 fI ?_;intro zb;refine eH [0,1,2,3,8] J (wu X2 [(12,⟨false,[aX (inr i 0 7&&inr f 0 7&& !(i==f)&&jZ k)]⟩)] [0,1,2,3,8,13] J (eY (IF i f k)) ?_);refine aM J ?_ ?_<;>intro hb0
 ·try simp only[SQ]at hb0
  have hq:jZ k=true:=by unfold jZ;rw[dK];exact h4
  rw[hq]at hb0;simp at hb0;omega
 ·exact av (iZ X2 [8] J gA (au (aj J ⟨J,J,J,J,J,J,J,J,⟨⟩⟩)))
theorem NH(rows s p seed:Int)(hr:1≤rows∧rows≤64)(hs:2≤s∧s≤4)(hp:1≤p∧p≤4):So 45 [aI rows,aI s,aI p,aI seed] [.agg (bC (Wb rows s.toNat p.toNat seed))]:=by
 refine eU X2 call45 func45 rfl rfl cO ntmps45 fI ?_;intro zb;refine eH [0,1,2,3,8] J (wu X2 [(14,⟨false,[aX (inr rows 1 64)]⟩),(18,⟨false,[aX (dR s)]⟩),(23,⟨false,[aX (inr p 1 4)]⟩)] [0,1,2,3,8,25] J (Ut (bJ rows 1 64) (kC s) (bJ p 1 4)) ?_);refine aM J ?_ ?_<;>intro hb0
 ·try simp only[SQ]at hb0
  simp[dR,inr]at hb0;omega
 ·refine av (aA ?_);have t1:=(tT 1 (kh seed [197]));refine GM X2 [(29,63)] [(29,⟨true,[.agg (gX (⟨rows,[]⟩:tE))]⟩),(32,⟨false,[aI (kh seed [197])]⟩),(33,⟨false,cA t1⟩)] [0,1,2,3,8,9] [] J (aB7 (JC rows fj) (dz seed [197] fj)) ?_;rw[N2 (iQ _ _).1];refine fD 9 1 61 .cH rfl (fD 9 2 62 .bR rfl (mU X2 [0,1,2,3,8,9,10] J ?_));refine cm s.toNat (fun k:Nat=> [(10, .one ((aI k)))]) (fun k=> [(61, .arr .cH (NG rows k))]) (fun k=>rfl) rfl ?_;intro k hk;have hle:=Wc rows k;refine mU X2 [0,1,2,3,8,9,10,38] J ?_;refine bD J ?_ ?_<;>intro cQ
  ·have hns:=Jp (id:=(k:Int)) (rows:=rows) aJ hr;refine av (aA (aK (cu X2 [(47,61)] [(45,⟨true,[.agg (ep (newS (k:Int) rows 0))]⟩),(500046,⟨true,[]⟩)] [0,1,2,3,8,9,10] [] 63 0 MO gq J gq (GD (An (k:Int) rows 0)) ?_)));rw[hns];exact mM X2 [0,1,2,3,8,9,10] J aCp
  ·have hks:s.toNat=k:=by omega
   refine bf (mU X2 [2,3,8,9,11] J ?_);refine cm (2*p.toNat) (fun k1:Nat=> [(11, .one ((aI k1)))]) (fun k1=> [(62, .arr .bR (CG seed k1))]) (fun k1=>rfl) rfl ?_;intro k1 hk1;have K0:=Ol seed k1;have hp2:af.wrap (2*p)=2*p:=cY aJ;refine mU X2 [2,3,8,9,11,52] J ?_;refine bD J ?_ ?_<;>intro fu
   ·rw[hp2]at fu;have hkr:=zR (iQ seed [199,(k1:Int).tdiv 2]);have hx:(af.wrap (aF af.bits (k1:Int)^^^aF af.bits 1).toNat)=((k1^^^1:Nat):Int):=Nt k1 aJ;have hxl:=Bh k1 8 aJ cO;have hxn:=Wd k1;have hxm:=N2 (iQ seed [199,(k1:Int).tdiv 2]).1;have sA:af.wrap ((k1:Int).tdiv 2)=(k1:Int).tdiv 2:=by rw[vh aJ];exact cY aJ
    refine av (aA (aK (aA ?_)));have t1:=(dz seed [199,af.wrap ((k1:Int).tdiv 2)] fj);have t2:=(tT 1 (kh seed [199,af.wrap ((k1:Int).tdiv 2)]));refine Dj X2 [(59,⟨false,cA t1⟩),(60,⟨false,cA t2⟩)] [2,3,8,9,11,12] J (by(repeat' with_reducible first|exact c8|refine dP ?_ ?_|apply cL);(iterate 2 all_goals try first|exact t1|exact t2);all_goals first| (intros;omega)|exact⟨rfl,fA _ cO⟩) ?_;rw[sA,hxm];have t1:=(LK (k1:Int) (af.wrap (aF af.bits (k1:Int)^^^aF af.bits 1).toNat) (GS (kh seed [199,(k1:Int).tdiv 2])) (kh seed [211,(k1:Int)]) aJ ara ara aJ);refine cu X2 [(74,62)] [(70,⟨false,[aI (kh seed [211,(k1:Int)])]⟩),(71,⟨false,cA t1⟩),(72,⟨true,[.agg (dU (⟨(⟨(k1:Int),(af.wrap (aF af.bits (k1:Int)^^^aF af.bits 1).toNat),(GS (kh seed [199,(k1:Int).tdiv 2])),(kh seed [211,(k1:Int)]),[],0,[],0⟩:kf),(⟨(k1:Int),(af.wrap (aF af.bits (k1:Int)^^^aF af.bits 1).toNat),(GS (kh seed [199,(k1:Int).tdiv 2])),(kh seed [211,(k1:Int)]),[],0,[],0⟩:kf)⟩:bR))]⟩)] [2,3,8,9,11] [] 20479 2 MO gq J gq (by(repeat' with_reducible first|exact c8|refine dP ?_ ?_|apply cL);(iterate 3 all_goals try first|exact(dz seed [211,(k1:Int)] fj)|exact t1|exact(uA (⟨(k1:Int),(af.wrap (aF af.bits (k1:Int)^^^aF af.bits 1).toNat),(GS (kh seed [199,(k1:Int).tdiv 2])),(kh seed [211,(k1:Int)]),[],0,[],0⟩:kf) ⟨aY _,aY _⟩));all_goals first|exact rfl|exact⟨rfl,fA _ cO⟩| (simp only[vI,maxLen,lens];omega)) ?_;rw[hx];exact mM X2 [2,3,8,9,11] J aCn
   ·rw[hp2]at fu;have Zv:2*p.toNat=k1:=by omega
    exact bf (iZ X2 [8] J gA (au (aj J ⟨J,by rw[hks];rfl,by rw[←Zv];rfl,J,J,J,J,J,J,J,⟨⟩⟩)))
end Go.Proofs.YtaalpcnbbldlaaaGreatDoor.G
