/-
  Transfers of a round.
-/
import Derived.Test.YtaalpcnbbldlaaaGreatDoorM12
open And renaming intro→bh
open BitVec renaming ofInt→aH
open Bool renaming and_eq_true→az
open Go.IntKind renaming i64→af
open Go.Value renaming bool→dO
open Int renaming toNat→cQ
open List renaming append_assoc→bO,append_nil→dA,drop→Sy,length→aL,length_append→bf,length_drop→b9,length_eq_zero_iff→gb,length_map→bt,take_of_length_le→aD
open Nat renaming not_lt_zero→pS,zero_le→aE
namespace Go.Proofs.YtaalpcnbbldlaaaGreatDoor.G
set_option linter.all false
open Go.RowKit L D Tryz
section
set_option maxRecDepth 100000
theorem yg(rows:Int)(l:List bJ)(hz: ∀r,r∈l→eN aL r.share.rows≤1048576):So 323 [aI rows, .a (.sl .bJ l)] [.agg (bQ (kU rows l))]:=by
 refine aF X call323 func323 ntmps323 rfl rfl ?_
 intro zb
 refine eu 1 rfl (fun mK=>(av X [0,1,4] rfl (aM X [] [(9,⟨true,[.agg (bQ (gG rows))]⟩)] [1,4,5] [] rfl (by(with_reducible and_intros)<;>first|exact⟨⟩|exact(tV rows)) (aa (av X [4,5,10,11,12] rfl ?_)))))
 refine aB (aP (fun k=>k≤l.length) (fun k:Nat=> [(12, .one ((aI k)))]) (fun k=> [(9, .arr (.sl .u8) (kU rows (l.take k)).rows)]) (fun k=>l.length-k) 0 (fun k=>rfl) (aE _) rfl ?_)
 intro k hk
 refine av X [4,5,10,11,12,13] rfl ?_
 refine aa (an rfl ?_ ?_)<;>intro hb0
 ·try simp only[bG]at hb0
  have hs:=NT rows l k hb0
  refine au (aa (aB (aO X [4,5,7,10,11,12] rfl (by and_intros<;>first|exact⟨⟩| (intros;omega)) (bn X [] [(20,⟨true,[.agg (bQ (lf (kU rows (l.take k)) ((l.getD k (aR .bJ)).share))),aU (mO (kU rows (l.take k)) ((l.getD k (aR .bJ)).share))]⟩)] [4,5,10,11,12] [] rfl (by(with_reducible and_intros)<;>first|exact⟨⟩|exact(ng (kU rows (l.take k)) ((l.getD k (aR .bJ)).share) (XM _ _) (hz _ (getD_in _ hb0)))) (qE 5 0 9 rfl (bU X [4,5,10,11,12] rfl ?_))))))
  refine⟨k+1,by omega,by omega,?_⟩
  rw[bZ _ k rfl (by omega),hs]
  try rfl
 ·try simp only[bG]at hb0
  exact aW (aO X [4] rfl (by trivial) (aq (aj rfl ⟨by rw[aD hb0],⟨⟩⟩)))
theorem qU(s:cu)(f:Nat)(hf:f≤8)(hz: ∀r,r∈s.received→eN aL r.share.rows≤1048576):So 387 [.agg (dF s),aI ((f:Nat):Int)] [.agg (bQ (kU s.rows (s.received.drop f)))]:=by
 refine aF X call387 func387 ntmps387 rfl rfl ?_
 intro zb
 refine b7 0 3 rfl rfl (fun mK=>(av X [1,2,4] rfl (aM X [] [(11,⟨true,[.agg (bQ (gG s.rows))]⟩)] [1,2,4,5] [] rfl (by(with_reducible and_intros)<;>first|exact⟨⟩|exact(tW s.rows)) (aa (av X [2,4,5,6] rfl ?_)))))
 refine aB (aP (fun k=>f≤k∧(k≤s.received.length∨k=f)) (fun k:Nat=> [(6, .one ((aI k)))]) (fun k=> [(11, .arr (.sl .u8) (kU s.rows ((s.received.drop f).take (k-f))).rows)]) (fun k=>s.received.length-k) f (fun k=>rfl) ⟨Nat.le_refl _,Or.inr rfl⟩ (by simp[kU]) ?_)
 rintro k ⟨hk,hk2⟩
 refine aa (av X [2,4,5,6,17] rfl ?_)
 refine an rfl ?_ ?_<;>intro hb0
 ·try simp only[bG]at hb0
  have hs:=aaa s.rows s.received f k hb0 hk
  refine au (aa (aB (aa (aQ X [] [(28,⟨true,[.agg (bQ (lf (kU s.rows ((s.received.drop f).take (k-f))) ((s.received.getD k (aR .bJ)).share))),aU (mO (kU s.rows ((s.received.drop f).take (k-f))) ((s.received.getD k (aR .bJ)).share))]⟩)] [2,4,5,6,7] [] 12287 1 MO (by kernel_rfl) rfl (by kernel_rfl) (by(with_reducible and_intros)<;>first|exact⟨⟩|exact(nh (kU s.rows ((s.received.drop f).take (k-f))) ((s.received.getD k (aR .bJ)).share) (XM _ _) (hz _ (getD_in _ hb0)))| (intros;omega)) (gA X [2,4,5,6] rfl (by trivial) (qE 5 0 11 rfl (bU X [2,4,5,6] rfl ?_)))))))
  refine⟨k+1,by omega,by omega,?_⟩
  rw[bZ _ k rfl (by omega),hs]
  try rfl
 ·try simp only[bG]at hb0
  exact aW (aO X [4] rfl (by trivial) (aq (aj rfl ⟨by rw[adQ _ _ _ _ hb0],⟨⟩⟩)))
theorem DA(s:cu):So 331 [.agg (dF s)] [.agg (bQ (zm s))]:=by
 refine aF X call331 func331 ntmps331 rfl rfl ?_
 intro zb
 refine av X [1,2] rfl (aa (aM X [] [(4,⟨false,[aU (ec s)]⟩)] [1,2,5] [] rfl (by(with_reducible and_intros)<;>first|exact⟨⟩|exact(fQ s)) ?_))
 refine an rfl ?_ ?_<;>intro hb0
 ·have hk:ec s=false:=by simpa using hb0
  exact aO X [2] rfl (by trivial) (aq (aj rfl ⟨by rw[zm,hk];rfl,⟨⟩⟩))
 ·have hk:ec s=true:=by simpa using hb0
  have hsz:=E4 hk
  exact au (aM X [] [(11,⟨true,[.agg (bQ (kU s.rows s.received))]⟩)] [2] [] rfl (by(with_reducible and_intros)<;>first|exact⟨⟩|exact(yg s.rows s.received hsz)) (aq (aj rfl ⟨by rw[zm,if_pos hk],⟨⟩⟩)))
theorem DC(s:cu):So 396 [.agg (dF s)] [.agg (bQ (zm s))]:=by
 refine aF X call396 func396 ntmps396 rfl rfl ?_
 intro zb
 refine av X [1,2] rfl (aa (aM X [] [(4,⟨false,[aU (ec s)]⟩)] [1,2,5] [] rfl (by(with_reducible and_intros)<;>first|exact⟨⟩|exact(fT s)) ?_))
 refine an rfl ?_ ?_<;>intro hb0
 ·have hk:ec s=false:=by simpa using hb0
  exact aO X [2] rfl (by trivial) (aq (aj rfl ⟨by rw[zm,hk];rfl,⟨⟩⟩))
 ·have hk:ec s=true:=by simpa using hb0
  have hsz:=E4 hk
  exact au (aM X [] [(8,⟨true,[.agg (bQ (kU s.rows (s.received.drop 0)))]⟩)] [2] [] rfl (by(with_reducible and_intros)<;>first|exact⟨⟩|exact(qU s 0 (by decide) hsz)) (aq (aj rfl ⟨by rw[zm,if_pos hk];rfl,⟨⟩⟩)))
theorem Cp(s:cu):So 261 [.agg (dF s)] [.agg (bQ (yd s))]:=by
 refine aF X call261 func261 ntmps261 rfl rfl ?_
 intro zb
 refine av X [1,2] rfl (aa (aM X [] [(6,⟨false,[aU (ec s)]⟩)] [1,2,7] [] rfl (by(with_reducible and_intros)<;>first|exact⟨⟩|exact(fQ s)) ?_))
 refine an rfl ?_ ?_<;>intro hb0
 ·have hk:ec s=false:=by simpa using hb0
  exact aO X [2] rfl (by trivial) (aq (aj rfl ⟨by rw[yd,hk];rfl,⟨⟩⟩))
 ·have hk:ec s=true:=by simpa using hb0
  have hsz:=E4 hk
  have hin:=adU hk
  refine au (av X [1,2,3] rfl (aa (av X [1,2,3,13] rfl ?_)))
  refine an rfl ?_ ?_<;>intro bM
  ·try simp only[bG]at bM
   have hr:=NU s (by omega)
   have mK:=(XN hk).2
   have hmi:=adS 1 (s.received.length:Int)
   refine gA X [1,2,3] rfl (by and_intros<;>first|exact⟨⟩| (intros;omega)) ?_
   rw[show List.take ((s.received.length:Int)).toNat s.received=s.received by simp,adT, ←hr]
   refine aM X [] [(22,⟨true,[.agg (bQ (kU s.rows (rcvd s)))]⟩)] [1,2,4] [] rfl (by(with_reducible and_intros)<;>first|exact⟨⟩|exact(yg s.rows (rcvd s) (fun r hr2=>hsz r (adX s r hr2)))) (aa (av X [2,4,25] rfl ?_))
   refine an rfl ?_ ?_<;>intro cS
   ·try simp only[bG]at cS
    omega
   ·try simp only[bG]at cS
    exact au (aO X [2] rfl (by trivial) (aq (aj rfl ⟨by rw[yd,if_pos hk,if_neg (by omega)],⟨⟩⟩)))
  ·try simp only[bG]at bM
   have hr:=SM s (by omega)
   rw[hr]at hin
   have S3:0<((kU s.rows s.received).rows.getD (cQ 0) (aR (.sl .u8))).length:=hin.2
   refine au (aM X [] [(22,⟨true,[.agg (bQ (kU s.rows s.received))]⟩)] [1,2,4] [] rfl (by(with_reducible and_intros)<;>first|exact⟨⟩|exact(yg s.rows s.received hsz)) (aa (av X [2,4,25] rfl ?_)))
   refine an rfl ?_ ?_<;>intro cS
   ·try simp only[bG]at cS
    have atM:s.behavior=2:=by omega
    exact gA X [2,4] rfl (by and_intros<;>first|exact⟨⟩| (intros;omega)|exact(we _).1|exact(we _).2) (aO X [2] rfl (by trivial) (aq (aj rfl ⟨by rw[yd,if_pos hk,if_pos (by omega),hr];exact alt_eq _,⟨⟩⟩)))
   ·try simp only[bG]at cS
    exact au (aO X [2] rfl (by trivial) (aq (aj rfl ⟨by rw[yd,if_pos hk,if_neg (by omega),hr],⟨⟩⟩)))
theorem Cq(s:cu):So 356 [.agg (dF s)] [.agg (bQ (yd s))]:=by
 refine aF X call356 func356 ntmps356 rfl rfl ?_
 intro zb
 refine av X [1,2] rfl (aa (aM X [] [(5,⟨false,[aU (ec s)]⟩)] [1,2,6] [] rfl (by(with_reducible and_intros)<;>first|exact⟨⟩|exact(fT s)) ?_))
 refine an rfl ?_ ?_<;>intro hb0
 ·have hk:ec s=false:=by simpa using hb0
  exact aO X [2] rfl (by trivial) (aq (aj rfl ⟨by rw[yd,hk];rfl,⟨⟩⟩))
 ·have hk:ec s=true:=by simpa using hb0
  have hsz:=E4 hk
  have hin:=adU hk
  refine au (aa (av X [1,2,9] rfl (aB (av X [1,2,9,10] rfl ?_))))
  refine an rfl ?_ ?_<;>intro bM
  ·try simp only[bG]at bM
   have hr:=NU s (by omega)
   exact aM X [] [(13,⟨true,[.agg (bQ (kU s.rows (s.received.drop 1)))]⟩)] [2] [] rfl (by(with_reducible and_intros)<;>first|exact⟨⟩|exact(qU s 1 (by decide) hsz)) (aq (aj rfl ⟨by rw[yd,if_pos hk,if_neg (by omega),hr],⟨⟩⟩))
  ·try simp only[bG]at bM
   have hr:=SM s (by omega)
   rw[hr]at hin
   have S3:0<((kU s.rows s.received).rows.getD (cQ 0) (aR (.sl .u8))).length:=hin.2
   have atN:0<((kU s.rows (Sy 0 s.received)).rows.getD (cQ 0) (aR (.sl .u8))).length:=hin.2
   have atO:0<(kU s.rows (Sy 0 s.received)).rows.length:=hin.1
   refine av X [1,2,14] rfl ?_
   refine an rfl ?_ ?_<;>intro cS
   ·try simp only[bG]at cS
    exact aM X [] [(17,⟨true,[.agg (bQ (kU s.rows (s.received.drop 0)))]⟩)] [2,3] [] rfl (by(with_reducible and_intros)<;>first|exact⟨⟩|exact(qU s 0 (by decide) hsz)) (aa (aQ X [] [] [2,3] [] 4095 0 MO (by kernel_rfl) rfl (by kernel_rfl) (by and_intros<;>first|exact⟨⟩| (intros;omega)|exact(we _).1|exact(we _).2) (aO X [2] rfl (by trivial) (aq (aj rfl ⟨by rw[yd,if_pos hk,if_pos (by omega),hr];exact alt_eq _,⟨⟩⟩)))))
   ·try simp only[bG]at cS
    exact au (aM X [] [(32,⟨true,[.agg (bQ (kU s.rows (s.received.drop 0)))]⟩)] [2] [] rfl (by(with_reducible and_intros)<;>first|exact⟨⟩|exact(qU s 0 (by decide) hsz)) (aq (aj rfl ⟨by rw[yd,if_pos hk,if_neg (by omega),hr];rfl,⟨⟩⟩)))
theorem zq(a b:DB):So 330 [.agg (bQ a), .agg (bQ b)] [aU (a.rows==b.rows)]:=by
 refine aF X call330 func330 ntmps330 rfl rfl ?_
 intro zb
 exact av X [2,3] rfl (aM X [] [(9,⟨false,[aU (a.rows==b.rows)]⟩)] [4] [] rfl (by(with_reducible and_intros)<;>first|exact⟨⟩|exact(pF a.rows b.rows)) (aq (aj rfl ⟨rfl,⟨⟩⟩)))
theorem zu(a b:DB):So 395 [.agg (bQ a), .agg (bQ b)] [aU (a.rows==b.rows)]:=by
 refine aF X call395 func395 ntmps395 rfl rfl ?_
 intro zb
 exact av X [2,3] rfl (aM X [] [(9,⟨false,[aU (a.rows==b.rows)]⟩)] [4] [] rfl (by(with_reducible and_intros)<;>first|exact⟨⟩|exact(lS a.rows b.rows)) (aq (aj rfl ⟨rfl,⟨⟩⟩)))
theorem A5(key:Int)(r:iA):So 328 [aI key, .agg (oU r)] [aU (VC key r)]:=by
 refine aF X call328 func328 ntmps328 rfl rfl ?_
 intro zb
 exact av X [0,3] rfl (aa (aQ X [] [(9,⟨false,[aI (Z3 key r.server r.client r.round r.s8)]⟩)] [4] [] 127 0 MO (by kernel_rfl) rfl (by kernel_rfl) (by(with_reducible and_intros)<;>first|exact⟨⟩|exact(uX key r)) (aq (aj rfl ⟨(congrArg dO (by simp only[VC,bC]<;>first|rfl|ac_rfl)),⟨⟩⟩))))
theorem zv(r:iA)(d:DB)(hd:eN aL d.rows≤1048576):So 329 [.agg (oU r), .agg (bQ d)] [aU (VD r d)]:=by
 refine aF X call329 func329 ntmps329 rfl rfl ?_
 intro zb
 exact av X [2,3] rfl (aa (aQ X [] [(12,⟨false,[aI (Lf r.client r.round d)]⟩)] [4] [] 1023 0 MO (by kernel_rfl) rfl (by kernel_rfl) (by(with_reducible and_intros)<;>first|exact⟨⟩|exact(uc r.client r.round d hd)) (aq (aj rfl ⟨(congrArg dO (by simp only[VD,bC]<;>first|rfl|ac_rfl)),⟨⟩⟩))))
theorem DD(key:Int)(s:cu)(p:DB)(l:List iA)(hz:s.received.length≤1048576∧ ∀r,r∈s.received→eN aL r.share.rows≤1048576)(hp:eN aL p.rows≤1048576):So 269 [aI key, .agg (dF s), .agg (bQ p), .a (.sl .iA l)] [aI (I5 key s p l)]:=by
 refine aF X call269 func269 ntmps269 rfl rfl ?_
 intro zb
 refine eu 3 rfl (fun mK=>(av X [0,3,5,6] rfl (aa (av X [0,5,6,13,14,15] rfl ?_))))
 refine aB (aP (fun k=>k≤l.length∧ ∀j,j<k→mV key s (l.getD j (aR .iA))=0) (fun k:Nat=> [(15, .one ((aI k)))]) (fun k=> []) (fun k=>l.length-k) 0 (fun k=>rfl) ⟨aE _,fun j hj=>absurd hj (pS _)⟩ rfl ?_)
 rintro k ⟨hk,hall⟩
 refine av X [0,5,6,13,14,15,16] rfl ?_
 refine aa (an rfl ?_ ?_)<;>intro hb0
 ·try simp only[bG]at hb0
  refine au (aa (aB (aO X [0,5,6,10,13,14,15] rfl (by and_intros<;>first|exact⟨⟩| (intros;omega)) (aa (aM X [] [(34,⟨false,[aU (VC key (l.getD k (aR .iA)))]⟩)] [0,5,6,10,13,14,15,36] [] rfl (by(with_reducible and_intros)<;>first|exact⟨⟩|exact fun _=>(A5 key (l.getD k (aR .iA)))) ?_)))))
  refine an rfl ?_ ?_<;>intro bM
  ·have Fi:wO key s (l.getD k (aR .iA))=true:=mQ bM (by simp only[wO,bC]<;>first|rfl|ac_rfl)
   refine aW (bU X [0,5,6,13,14,15] rfl ?_)
   refine⟨k+1,⟨by omega,yf hall (aoY Fi)⟩,by omega,?_⟩
   rw[bZ _ k rfl (by omega)]
   try rfl
  ·have Fi:wO key s (l.getD k (aR .iA))=false:=qG bM (by simp only[wO,bC]<;>first|rfl|ac_rfl)
   refine au (aa ?_)
   have t1:=(A2 s ((l.getD k (aR .iA)).client) hz)
   refine bn X [] [(41,⟨true,cx t1⟩)] [0,5,6,10,11,12,13,14,15] [] rfl (by(with_reducible and_intros)<;>first|exact⟨⟩|exact t1) (aa (av X [0,5,6,10,11,13,14,15,45] rfl ?_))
   refine an rfl ?_ ?_<;>intro cS
   ·have hsh:rH s.received (l.getD k (aR .iA)).client=false:=by simpa using cS
    have hf:=aoV Fi hsh
    exact av X [8] rfl (aq (aj rfl ⟨by rw[E5 hall hb0 (by rw[hf];decide),hf],⟨⟩⟩))
   ·have hsh:rH s.received (l.getD k (aR .iA)).client=true:=by simpa using cS
    have hsd:=Le (c:=(l.getD k (aR .iA)).client) hz.2
    refine au (aa ?_)
    have t1:=(zv (l.getD k (aR .iA)) (G2 s.received (l.getD k (aR .iA)).client) hsd)
    refine bn X [] [(48,⟨false,cx t1⟩)] [0,5,6,13,14,15,49] [] rfl (by(with_reducible and_intros)<;>first|exact⟨⟩|exact t1) ?_
    refine an rfl ?_ ?_<;>intro iZ
    ·have hf:=aoW Fi hsh (by simpa using iZ)
     exact av X [8] rfl (aq (aj rfl ⟨by rw[E5 hall hb0 (by rw[hf];decide),hf],⟨⟩⟩))
    ·have hf:=aoX Fi hsh (by simpa using iZ)
     refine au (bU X [0,5,6,13,14,15] rfl ?_)
     refine⟨k+1,⟨by omega,yf hall hf⟩,by omega,?_⟩
     rw[bZ _ k rfl (by omega)]
     try rfl
 ·try simp only[bG]at hb0
  refine aW (aa (aa (aQ X [] [(52,⟨false,[aU (ec s)]⟩),(57,⟨false,[.agg (bQ (zm s))]⟩),(58,⟨false,[aU (p.rows==(zm s).rows)]⟩)] [60] [] 1023 0 MO (by kernel_rfl) rfl (by kernel_rfl) (by(with_reducible and_intros);(iterate 3 all_goals try first|exact⟨⟩|exact(fQ s)|exact fun _=>(DA s)|exact fun _=>(zq p (zm s)))) ?_)))
  refine an rfl ?_ ?_<;>intro qD
  ·have hq:(ec s&&(p.rows==(zm s).rows))=false:=cR qD (by simp only[bC]<;>first|rfl|ac_rfl)
   exact av X [8] rfl (aq (aj rfl ⟨by rw[E6 hall hb0,hq];rfl,⟨⟩⟩))
  ·have hq:(ec s&&(p.rows==(zm s).rows))=true:=cL qD (by simp only[bC]<;>first|rfl|ac_rfl)
   exact au (av X [8] rfl (aq (aj rfl ⟨by rw[E6 hall hb0,hq];rfl,⟨⟩⟩)))
theorem Fj(m:Int)(sv:List cu)(pb:List DB)(rc:List iA)(hl:sv.length≤1048576)(hs: ∀s,s∈sv→tY s)(hp: ∀d,d∈pb→eN aL d.rows≤1048576):So 196 [aI m, .a (.sl .cu sv), .a (.sl .DB pb), .a (.sl .iA rc)] [.a (.sl .int (oB m sv pb rc sv.length))]:=by
 refine aF X call196 func196 ntmps196 rfl rfl ?_
 intro zb
 refine eu 2 rfl (fun mK=>(av X [0,1,2,3] rfl (aO X [0,1,2,3,9] rfl (by and_intros<;>first|exact⟨⟩|exact rfl) (aa (av X [0,2,3,9,13,14,15] rfl ?_)))))
 refine aB (aP (fun k=>k≤sv.length) (fun k:Nat=> [(15, .one ((aI k)))]) (fun k=> [(12, .arr .int (oB m sv pb rc k))]) (fun k=>sv.length-k) 0 (fun k=>rfl) (aE _) rfl ?_)
 intro k hk
 have hle:=ur m sv pb rc k
 refine av X [0,2,3,9,13,14,15,16] rfl ?_
 refine aa (an rfl ?_ ?_)<;>intro hb0
 ·try simp only[bG]at hb0
  refine au (aa (aB (aO X [0,2,3,9,10,11,13,14,15] rfl (by and_intros<;>first|exact⟨⟩| (intros;omega)) (aa (aQ X [] [(28,⟨false,[aI (nF m ((sv.getD k (aR .cu)).id))]⟩),(35,⟨false,[aI (I5 (nF m (sv.getD k (aR .cu)).id) (sv.getD k (aR .cu)) (pb.getD k (aR .DB)) rc)]⟩)] [0,2,3,9,11,13,14,15,37] [] 262143 0 MO (by kernel_rfl) rfl (by kernel_rfl) (by(with_reducible and_intros);(iterate 3 all_goals try first|exact⟨⟩|exact fun _=>(mR m ((sv.getD k (aR .cu)).id))|exact fun _=>(DD (nF m (sv.getD k (aR .cu)).id) (sv.getD k (aR .cu)) (pb.getD k (aR .DB)) rc (hs _ (getD_in _ hb0)) (SN hp k))|exact(by refine fun hzz=> ?_;have hz2:decide ((k:Int)≥(pb.length:Int))=false:=hzz;rw[decide_eq_false_iff_not]at hz2;dsimp only[hyps,QZ];omega))) ?_)))))
  refine an rfl ?_ ?_<;>intro bM
  ·have hbd:I6 m sv pb rc k=true:=mQ bM (by simp only[I6,bC]<;>first|rfl|ac_rfl)
   have hs2:=Ly hbd
   refine bn X [(42,12)] [] [0,2,3,9,13,14,15] [] rfl (by and_intros<;>first|exact⟨⟩|exact rfl| (simp only[gR,maxLen,lens];omega)) (bU X [0,2,3,9,13,14,15] rfl ?_)
   refine⟨k+1,by omega,by omega,?_⟩
   rw[bZ _ k rfl (by omega),hs2]
   try rfl
  ·have hbd:I6 m sv pb rc k=false:=qG bM (by simp only[I6,bC]<;>first|rfl|ac_rfl)
   have hs2:=Hg hbd
   refine au (bU X [0,2,3,9,13,14,15] rfl ?_)
   refine⟨k+1,by omega,by omega,?_⟩
   rw[bZ _ k rfl (by omega),hs2]
   try rfl
 ·try simp only[bG]at hb0
  exact aW (av X [8] rfl (aq (aj rfl ⟨by rw[show k=sv.length by omega],⟨⟩⟩)))
theorem Fk(sv:List cu)(hl:sv.length≤1048576):So 191 [.a (.sl .cu sv)] [.a (.sl .DB (fX sv))]:=by
 refine aF X call191 func191 ntmps191 rfl rfl ?_
 intro zb
 refine av X [0] rfl (aO X [0,3] rfl (by and_intros<;>first|exact⟨⟩|exact rfl) (aa (av X [3,7,8,9] rfl ?_)))
 refine aB (aP (fun k=>k≤sv.length) (fun k:Nat=> [(9, .one ((aI k)))]) (fun k=> [(6, .arr .DB ((fX sv).take k))]) (fun k=>sv.length-k) 0 (fun k=>rfl) (aE _) rfl ?_)
 intro k hk
 have hle:=cG (fX sv) k
 refine av X [3,7,8,9,10] rfl ?_
 refine aa (an rfl ?_ ?_)<;>intro hb0
 ·try simp only[bG]at hb0
  have hs:=NV sv k hb0
  refine au (aa (aB (aO X [3,5,7,8,9] rfl (by and_intros<;>first|exact⟨⟩| (intros;omega)) (bn X [(17,6)] [(15,⟨true,[.agg (bQ (yd (sv.getD k (aR .cu))))]⟩)] [3,7,8,9] [] rfl (by(with_reducible and_intros)<;>first|exact⟨⟩|exact(Cp (sv.getD k (aR .cu)))|exact rfl| (simp only[gR,maxLen,lens];omega)) (bU X [3,7,8,9] rfl ?_)))))
  refine⟨k+1,by omega,by omega,?_⟩
  rw[bZ _ k rfl (by omega),hs]
  try rfl
 ·try simp only[bG]at hb0
  exact aW (av X [2] rfl (aq (aj rfl ⟨by rw[aD (by unfold fX;rw[bt];exact hb0)],⟨⟩⟩)))
theorem A6(key:Int)(r:iA):So 392 [aI key, .agg (oU r)] [aU (VC key r)]:=by
 refine aF X call392 func392 ntmps392 rfl rfl ?_
 intro zb
 exact av X [0,3] rfl (aa (aQ X [] [(9,⟨false,[aI (Z3 key r.server r.client r.round r.s8)]⟩)] [4] [] 127 0 MO (by kernel_rfl) rfl (by kernel_rfl) (by(with_reducible and_intros)<;>first|exact⟨⟩|exact(uY key r)) (aq (aj rfl ⟨(congrArg dO (by simp only[VC,bC]<;>first|rfl|ac_rfl)),⟨⟩⟩))))
theorem zw(r:iA)(d:DB)(hd:eN aL d.rows≤1048576):So 394 [.agg (oU r), .agg (bQ d)] [aU (VD r d)]:=by
 refine aF X call394 func394 ntmps394 rfl rfl ?_
 intro zb
 exact av X [2,3] rfl (aa (aQ X [] [(12,⟨false,[aI (Lf r.client r.round d)]⟩)] [4] [] 1023 0 MO (by kernel_rfl) rfl (by kernel_rfl) (by(with_reducible and_intros)<;>first|exact⟨⟩|exact(ue r.client r.round d hd)) (aq (aj rfl ⟨(congrArg dO (by simp only[VD,bC]<;>first|rfl|ac_rfl)),⟨⟩⟩))))
theorem DE(key:Int)(s:cu)(p:DB)(l:List iA)(hz:s.received.length≤1048576∧ ∀r,r∈s.received→eN aL r.share.rows≤1048576)(hp:eN aL p.rows≤1048576):So 364 [aI key, .agg (dF s), .agg (bQ p), .a (.sl .iA l)] [aI (I5 key s p l)]:=by
 refine aF X call364 func364 ntmps364 rfl rfl ?_
 intro zb
 refine eu 3 rfl (fun mK=>(av X [0,3,5,6] rfl (aa (av X [0,3,5,6,9] rfl ?_))))
 refine aB (aP (fun k=>k≤l.length∧ ∀j,j<k→mV key s (l.getD j (aR .iA))=0) (fun k:Nat=> [(9, .one ((aI k)))]) (fun k=> []) (fun k=>l.length-k) 0 (fun k=>rfl) ⟨aE _,fun j hj=>absurd hj (pS _)⟩ rfl ?_)
 rintro k ⟨hk,hall⟩
 refine aa (av X [0,3,5,6,9,16] rfl ?_)
 refine an rfl ?_ ?_<;>intro hb0
 ·try simp only[bG]at hb0
  refine au (aa (aB (aO X [0,3,5,6,9,10] rfl (by and_intros<;>first|exact⟨⟩| (intros;omega)) (aa (aM X [] [(38,⟨false,[aU (VC key (l.getD k (aR .iA)))]⟩)] [0,3,5,6,9,10,40] [] rfl (by(with_reducible and_intros)<;>first|exact⟨⟩|exact fun _=>(A6 key (l.getD k (aR .iA)))) ?_)))))
  refine an rfl ?_ ?_<;>intro bM
  ·have Fi:wO key s (l.getD k (aR .iA))=true:=mQ bM (by simp only[wO,bC]<;>first|rfl|ac_rfl)
   refine aW (bU X [0,3,5,6,9] rfl ?_)
   refine⟨k+1,⟨by omega,yf hall (aoY Fi)⟩,by omega,?_⟩
   rw[bZ _ k rfl (by omega)]
   try rfl
  ·have Fi:wO key s (l.getD k (aR .iA))=false:=qG bM (by simp only[wO,bC]<;>first|rfl|ac_rfl)
   refine au (aa ?_)
   have t1:=(LJ s ((l.getD k (aR .iA)).client) hz)
   refine bn X [] [(45,⟨true,cx t1⟩)] [0,3,5,6,9,10,11,12] [] rfl (by(with_reducible and_intros)<;>first|exact⟨⟩|exact t1) (aa (av X [0,3,5,6,9,10,11,49] rfl ?_))
   refine an rfl ?_ ?_<;>intro cS
   ·have hsh:rH s.received (l.getD k (aR .iA)).client=false:=by simpa using cS
    have hf:=aoV Fi hsh
    exact av X [8] rfl (aq (aj rfl ⟨by rw[E5 hall hb0 (by rw[hf];decide),hf],⟨⟩⟩))
   ·have hsh:rH s.received (l.getD k (aR .iA)).client=true:=by simpa using cS
    have hsd:=Le (c:=(l.getD k (aR .iA)).client) hz.2
    refine au (aa ?_)
    have t1:=(zw (l.getD k (aR .iA)) (G2 s.received (l.getD k (aR .iA)).client) hsd)
    refine bn X [] [(52,⟨false,cx t1⟩)] [0,3,5,6,9,53] [] rfl (by(with_reducible and_intros)<;>first|exact⟨⟩|exact t1) ?_
    refine an rfl ?_ ?_<;>intro iZ
    ·have hf:=aoW Fi hsh (by simpa using iZ)
     exact av X [8] rfl (aq (aj rfl ⟨by rw[E5 hall hb0 (by rw[hf];decide),hf],⟨⟩⟩))
    ·have hf:=aoX Fi hsh (by simpa using iZ)
     refine au (bU X [0,3,5,6,9] rfl ?_)
     refine⟨k+1,⟨by omega,yf hall hf⟩,by omega,?_⟩
     rw[bZ _ k rfl (by omega)]
     try rfl
 ·try simp only[bG]at hb0
  refine aW (aa (aa (aQ X [] [(55,⟨false,[aU (ec s)]⟩),(60,⟨false,[.agg (bQ (zm s))]⟩),(61,⟨false,[aU (p.rows==(zm s).rows)]⟩)] [63] [] 1023 0 MO (by kernel_rfl) rfl (by kernel_rfl) (by(with_reducible and_intros);(iterate 3 all_goals try first|exact⟨⟩|exact(fT s)|exact fun _=>(DC s)|exact fun _=>(zu p (zm s)))) ?_)))
  refine an rfl ?_ ?_<;>intro qD
  ·have hq:(ec s&&(p.rows==(zm s).rows))=false:=cR qD (by simp only[bC]<;>first|rfl|ac_rfl)
   exact av X [8] rfl (aq (aj rfl ⟨by rw[E6 hall hb0,hq];rfl,⟨⟩⟩))
  ·have hq:(ec s&&(p.rows==(zm s).rows))=true:=cL qD (by simp only[bC]<;>first|rfl|ac_rfl)
   exact au (av X [8] rfl (aq (aj rfl ⟨by rw[E6 hall hb0,hq];rfl,⟨⟩⟩)))
theorem Fl(m:Int)(sv:List cu)(pb:List DB)(rc:List iA)(hl:sv.length≤1048576)(hs: ∀s,s∈sv→tY s)(hp: ∀d,d∈pb→eN aL d.rows≤1048576):So 302 [aI m, .a (.sl .cu sv), .a (.sl .DB pb), .a (.sl .iA rc)] [.a (.sl .int (oB m sv pb rc sv.length))]:=by
 refine aF X call302 func302 ntmps302 rfl rfl ?_
 intro zb
 refine eu 2 rfl (fun mK=>(av X [0,1,2,3] rfl (aO X [0,1,2,3,9] rfl (by and_intros<;>first|exact⟨⟩|exact rfl) (aa (av X [0,1,2,3,9,10] rfl ?_)))))
 refine aB (aP (fun k=>k≤sv.length) (fun k:Nat=> [(10, .one ((aI k)))]) (fun k=> [(11, .arr .int (oB m sv pb rc k))]) (fun k=>sv.length-k) 0 (fun k=>rfl) (aE _) rfl ?_)
 intro k hk
 have hle:=ur m sv pb rc k
 refine aa (av X [0,1,2,3,9,10,15] rfl ?_)
 refine an rfl ?_ ?_<;>intro hb0
 ·try simp only[bG]at hb0
  refine au (aa (aB (aa (aQ X [] [(29,⟨false,[aI (nF m ((sv.getD k (aR .cu)).id))]⟩),(39,⟨false,[aI (I5 (nF m (sv.getD k (aR .cu)).id) (sv.getD k (aR .cu)) (pb.getD k (aR .DB)) rc)]⟩)] [0,1,2,3,9,10,41] [] 16777215 0 MO (by kernel_rfl) rfl (by kernel_rfl) (by(with_reducible and_intros);(iterate 3 all_goals try first|exact⟨⟩|exact fun _=>(mS m ((sv.getD k (aR .cu)).id))|exact fun _=>(DE (nF m (sv.getD k (aR .cu)).id) (sv.getD k (aR .cu)) (pb.getD k (aR .DB)) rc (hs _ (getD_in _ hb0)) (SN hp k))|exact(by refine fun hzz=> ?_;have hz2:decide ((k:Int)≥(pb.length:Int))=false:=hzz;rw[decide_eq_false_iff_not]at hz2;dsimp only[hyps,QZ];omega))) ?_))))
  refine an rfl ?_ ?_<;>intro bM
  ·have hbd:I6 m sv pb rc k=true:=mQ bM (by simp only[I6,bC]<;>first|rfl|ac_rfl)
   have hs2:=Ly hbd
   refine bn X [(49,11)] [] [0,1,2,3,9,10] [] rfl (by and_intros<;>first|exact⟨⟩| (intros;omega)|exact rfl| (simp only[gR,maxLen,lens];omega)) (bU X [0,1,2,3,9,10] rfl ?_)
   refine⟨k+1,by omega,by omega,?_⟩
   rw[bZ _ k rfl (by omega),hs2]
   try rfl
  ·have hbd:I6 m sv pb rc k=false:=qG bM (by simp only[I6,bC]<;>first|rfl|ac_rfl)
   have hs2:=Hg hbd
   refine au (bU X [0,1,2,3,9,10] rfl ?_)
   refine⟨k+1,by omega,by omega,?_⟩
   rw[bZ _ k rfl (by omega),hs2]
   try rfl
 ·try simp only[bG]at hb0
  exact aW (av X [8] rfl (aq (aj rfl ⟨by rw[show k=sv.length by omega],⟨⟩⟩)))
theorem Fm(sv:List cu)(hl:sv.length≤1048576):So 297 [.a (.sl .cu sv)] [.a (.sl .DB (fX sv))]:=by
 refine aF X call297 func297 ntmps297 rfl rfl ?_
 intro zb
 refine av X [0] rfl (aO X [0,3] rfl (by and_intros<;>first|exact⟨⟩|exact rfl) (aa (av X [0,3,4] rfl ?_)))
 refine aB (aP (fun k=>k≤sv.length) (fun k:Nat=> [(4, .one ((aI k)))]) (fun k=> [(5, .arr .DB ((fX sv).take k))]) (fun k=>sv.length-k) 0 (fun k=>rfl) (aE _) rfl ?_)
 intro k hk
 have hle:=cG (fX sv) k
 refine aa (av X [0,3,4,9] rfl ?_)
 refine an rfl ?_ ?_<;>intro hb0
 ·try simp only[bG]at hb0
  have hs:=NV sv k hb0
  refine au (aa (aB (bn X [(19,5)] [(17,⟨true,[.agg (bQ (yd (sv.getD k (aR .cu))))]⟩)] [0,3,4] [] rfl (by(with_reducible and_intros)<;>first|exact⟨⟩|exact(Cq (sv.getD k (aR .cu)))| (intros;omega)|exact rfl| (simp only[gR,maxLen,lens];omega)) (bU X [0,3,4] rfl ?_))))
  refine⟨k+1,by omega,by omega,?_⟩
  rw[bZ _ k rfl (by omega),hs]
  try rfl
 ·try simp only[bG]at hb0
  exact aW (av X [2] rfl (aq (aj rfl ⟨by rw[aD (by unfold fX;rw[bt];exact hb0)],⟨⟩⟩)))
end
section
set_option maxRecDepth 100000
theorem Cr(key:Int)(a:e9)(h1:a.selection.length≤262144)(h2:a.data.length≤262144):So 327 [aI key, .agg (ju a)] [aU (ad2 key a)]:=by
 refine aF X call327 func327 ntmps327 rfl rfl ?_
 intro zb
 exact av X [0,3] rfl (aa (aQ X [] [(9,⟨false,[aI (Ln key a.server a.round a.selection a.data)]⟩)] [4] [] 127 0 MO (by kernel_rfl) rfl (by kernel_rfl) (by(with_reducible and_intros)<;>first|exact⟨⟩|exact(wM key a h1 h2)) (aq (aj rfl ⟨rfl,⟨⟩⟩))))
theorem A7(key:Int)(d:DB)(a:e9)(h1:a.selection.length≤262144)(h2:a.data.length≤262144):So 265 [aI key, .agg (bQ d), .agg (ju a)] [aU (fls key d a)]:=by
 refine aF X call265 func265 ntmps265 rfl rfl ?_
 intro zb
 exact av X [0,4,5] rfl (aa (aQ X [] [(9,⟨false,[aU (ad2 key a)]⟩),(16,⟨false,[.a (.sl .u8 (kB d a.selection))]⟩),(17,⟨false,[aU (a.data==(kB d a.selection))]⟩)] [6] [] 16383 0 MO (by kernel_rfl) rfl (by kernel_rfl) (by(with_reducible and_intros);(iterate 3 all_goals try first|exact⟨⟩|exact(Cr key a h1 h2)|exact fun _=>(um d a.selection)|exact fun _=>(lT a.data (kB d a.selection)))) (aq (aj rfl ⟨(congrArg dO (by simp only[fls,bC]<;>first|rfl|ac_rfl)),⟨⟩⟩))))
theorem Ft(l:List DB)(mK:l.length≤1048576)(ha:AX l):So 262 [.a (.sl .DB l)] [.agg (bQ (jw l)),aU (I7 l)]:=by
 refine aF X call262 func262 ntmps262 rfl rfl ?_
 intro zb
 refine av X [0,2] rfl (aa (aM X [] [(11,⟨false,[aU (dG (l.length:Int))]⟩)] [0,2,12] [] rfl (by(with_reducible and_intros)<;>first|exact⟨⟩|exact(ff (l.length:Int))) ?_))
 refine an rfl ?_ ?_<;>intro hb0
 ·have hk:dG l.length=false:=by simpa using hb0
  have hj:=LB (XR hk)
  exact aO X [2,3] rfl (by trivial) (aq (aj rfl ⟨by rw[hj.1],by rw[hj.2],⟨⟩⟩))
 ·have hk:dG l.length=true:=by simpa using hb0
  have hcb:=LC hk
  have hrp:=XS hk
  have h0z:=gX (qJ ha 0)
  have hdl:(l.drop 1).length=l.length-1:=b9 ..
  refine au (aM X [] [(17,⟨true,[.agg (bQ (l.getD (cQ 0) (aR .DB)))]⟩)] [0,2,4] [] rfl (by(with_reducible and_intros)<;>first|exact⟨⟩|exact(eP (l.getD (cQ 0) (aR .DB)) h0z)| (intros;omega)) (aa (aO X [2,4,19,20,21] rfl (by and_intros<;>first|exact⟨⟩| (intros;omega)) ?_)))
  rw[ao6]
  refine aB (aP (fun k=>k≤(l.drop 1).length∧XP l=Ui (I8 l k) ((l.drop 1).drop k)) (fun k:Nat=> [(21, .one ((aI k)))]) (fun k=> [(17, .arr (.sl .u8) (I8 l k).rows)]) (fun k=>(l.drop 1).length-k) 0 (fun k=>rfl) ⟨aE _,hrp⟩ rfl ?_)
  rintro k ⟨hk0,My⟩
  refine av X [2,4,19,20,21,22] rfl ?_
  refine aa (an rfl ?_ ?_)<;>intro bM
  ·try simp only[bG]at bM
   have hz1:=gX (adZ ha k)
   have hz2:=gX (qJ (VE ha) k)
   refine au (aa (aB (aO X [2,4,6,19,20,21] rfl (by and_intros<;>first|exact⟨⟩| (intros;omega)) (aa ?_))))
   have t1:=(ng (I8 l k) ((l.drop 1).getD k (aR .DB)) hz1 hz2)
   refine bn X [] [(28,⟨true,cx t1⟩)] [2,4,7,8,19,20,21] [] rfl (by(with_reducible and_intros)<;>first|exact⟨⟩|exact t1) (aa (av X [2,4,7,19,20,21,32] rfl ?_))
   refine an rfl ?_ ?_<;>intro cS
   ·have hx:mO (I8 l k) ((l.drop 1).getD k (aR .DB))=false:=by simpa using cS
    have hj:=LB (My.trans (adY l k bM hx))
    exact aO X [2,3] rfl (by trivial) (aq (aj rfl ⟨by rw[hj.1],by rw[hj.2],⟨⟩⟩))
   ·have hx:mO (I8 l k) ((l.drop 1).getD k (aR .DB))=true:=by simpa using cS
    have hs:=E7 l k bM
    refine au (gA X [2,4,19,20,21] rfl (by trivial) (qE 4 0 17 rfl (bU X [2,4,19,20,21] rfl ?_)))
    refine⟨k+1,⟨by omega,My.trans (SP l k bM hx)⟩,by omega,?_⟩
    rw[bZ _ k rfl (by omega),hs]
    try rfl
  ·try simp only[bG]at bM
   have hj:=PI (My.trans (XQ l k bM))
   exact aW (aO X [2,3] rfl (by trivial) (aq (aj rfl ⟨by rw[hj.1],by rw[hj.2],⟨⟩⟩)))
theorem A8(l:List DB)(mK:l.length≤1048576)(ha:AX l):So 192 [.a (.sl .DB l)] [.agg (bQ (jw l)),aU (I7 l)]:=by
 refine aF X call192 func192 ntmps192 rfl rfl ?_
 intro zb
 exact av X [0,2] rfl (aM X [] [(5,⟨true,[.agg (bQ (jw l)),aU (I7 l)]⟩)] [2,3] [] rfl (by(with_reducible and_intros)<;>first|exact⟨⟩|exact(Ft l mK ha)) (aq (aj rfl ⟨rfl,rfl,⟨⟩⟩)))
theorem wS(id rows b:Int):So 133 [aI id,aI rows,aI b] [.agg (dF (newS id rows b))]:=by
 refine aF X call133 func133 ntmps133 rfl rfl ?_
 intro zb
 refine av X [0,1,2,6] rfl (aa (aM X [] [(8,⟨false,[aU (inr id 0 3)]⟩),(12,⟨false,[aU (inr rows 1 64)]⟩),(17,⟨false,[aU (inr b 0 3)]⟩)] [0,1,2,6,19] [] rfl (by(with_reducible and_intros);(iterate 3 all_goals try first|exact⟨⟩|exact(bl id 0 3)|exact fun _=>(bl rows 1 64)|exact fun _=>(bl b 0 3))) ?_))
 refine an rfl ?_ ?_<;>intro hb0
 ·have hk:LD id rows b=false:=cR hb0 (by simp only[LD,bC]<;>first|rfl|ac_rfl)
  have hn:newS id rows b=⟨0,0,0,[],0⟩:=by rw[newS,hk];rfl
  exact aO X [6] rfl (by trivial) (aq (aj rfl (by and_intros<;>first|exact⟨⟩| (rw[hn];done))))
 ·have hk:LD id rows b=true:=cL hb0 (by simp only[LD,bC]<;>first|rfl|ac_rfl)
  have hn:newS id rows b=⟨id,rows,0,[],b⟩:=by rw[newS,if_pos hk]
  exact au (aO X [6] rfl (by trivial) (aq (aj rfl (by and_intros<;>first|exact⟨⟩| (rw[hn];done)))))
theorem vh(s:cu)(hz:s.received.length≤1048576∧ ∀r,r∈s.received→eN aL r.share.rows≤1048576):So 268 [.agg (dF s)] [.agg (dF (oC s))]:=by
 refine aF X call268 func268 ntmps268 rfl rfl ?_
 intro zb
 refine av X [1,2] rfl (aM X [] [(5,⟨true,[.agg (dF s)]⟩)] [1,2,3] [] rfl (by(with_reducible and_intros)<;>first|exact⟨⟩|exact(lU s hz)) (aa (aM X [] [(7,⟨false,[aU (ec s)]⟩)] [2,3,12] [] rfl (by(with_reducible and_intros)<;>first|exact⟨⟩|exact(fQ s)) ?_)))
 refine an rfl ?_ ?_<;>intro hb0
 ·have hk:LF s=true:=mQ hb0 (by simp only[LF,bC]<;>first|rfl|ac_rfl)
  have hn:oC s=⟨s.id,s.rows,af.wrap (s.round+1),[],s.behavior⟩:=by rw[oC,if_pos hk]
  exact av X [2,3] rfl (bU X [2,3] rfl (aO X [2] rfl (by trivial) (aq (aj rfl (by and_intros<;>first|exact⟨⟩| (rw[hn];done))))))
 ·have hk:LF s=false:=qG hb0 (by simp only[LF,bC]<;>first|rfl|ac_rfl)
  have hn:oC s=s:=by rw[oC,hk];rfl
  exact au (aO X [2] rfl (by trivial) (aq (aj rfl (by and_intros<;>first|exact⟨⟩| (rw[hn];done)))))
theorem Cs(key:Int)(a:e9)(h1:a.selection.length≤262144)(h2:a.data.length≤262144):So 391 [aI key, .agg (ju a)] [aU (ad2 key a)]:=by
 refine aF X call391 func391 ntmps391 rfl rfl ?_
 intro zb
 exact av X [0,3] rfl (aa (aQ X [] [(9,⟨false,[aI (Ln key a.server a.round a.selection a.data)]⟩)] [4] [] 127 0 MO (by kernel_rfl) rfl (by kernel_rfl) (by(with_reducible and_intros)<;>first|exact⟨⟩|exact(qI key a h1 h2)) (aq (aj rfl ⟨rfl,⟨⟩⟩))))
theorem A9(key:Int)(d:DB)(a:e9)(h1:a.selection.length≤262144)(h2:a.data.length≤262144):So 360 [aI key, .agg (bQ d), .agg (ju a)] [aU (fls key d a)]:=by
 refine aF X call360 func360 ntmps360 rfl rfl ?_
 intro zb
 exact av X [0,4,5] rfl (aa (aQ X [] [(9,⟨false,[aU (ad2 key a)]⟩),(16,⟨false,[.a (.sl .u8 (kB d a.selection))]⟩),(17,⟨false,[aU (a.data==(kB d a.selection))]⟩)] [6] [] 16383 0 MO (by kernel_rfl) rfl (by kernel_rfl) (by(with_reducible and_intros);(iterate 3 all_goals try first|exact⟨⟩|exact(Cs key a h1 h2)|exact fun _=>(uo d a.selection)|exact fun _=>(lR a.data (kB d a.selection)))) (aq (aj rfl ⟨(congrArg dO (by simp only[fls,bC]<;>first|rfl|ac_rfl)),⟨⟩⟩))))
theorem Fu(l:List DB)(mK:l.length≤1048576)(ha:AX l):So 357 [.a (.sl .DB l)] [.agg (bQ (jw l)),aU (I7 l)]:=by
 refine aF X call357 func357 ntmps357 rfl rfl ?_
 intro zb
 refine av X [0,2] rfl (aa (aM X [] [(10,⟨false,[aU (dG (l.length:Int))]⟩),(16,⟨false,[aU (eZ (l.getD (cQ 0) (aR .DB)))]⟩)] [0,2,18] [] rfl ⟨fun _=>fk _,fun h=>arj h,iQ _,⟨⟩⟩ ?_))
 refine an rfl ?_ ?_<;>intro hb0
 ·have hk:dG l.length=false:=ari ha hb0
  have hj:=LB (XR hk)
  exact aO X [2,3] rfl (by trivial) (aq (aj rfl ⟨by rw[hj.1],by rw[hj.2],⟨⟩⟩))
 ·have hk:dG l.length=true:=ao7 hb0
  have hcb:=LC hk
  have hrp:=XS hk
  have h0z:=gX (qJ ha 0)
  have hdl:(l.drop 1).length=l.length-1:=b9 ..
  refine au (aM X [] [(23,⟨true,[.agg (bQ (l.getD (cQ 0) (aR .DB)))]⟩)] [0,2,4] [] rfl (by(with_reducible and_intros)<;>first|exact⟨⟩|exact(iH (l.getD (cQ 0) (aR .DB)) h0z)| (intros;omega)) (aa (av X [0,2,4,5] rfl ?_)))
  refine aB (aP (fun k=>(1≤k∧k≤l.length)∧XP l=Ui (I8 l (k-1)) ((l.drop 1).drop (k-1))) (fun k:Nat=> [(5, .one ((aI k)))]) (fun k=> [(23, .arr (.sl .u8) (I8 l (k-1)).rows)]) (fun k=>l.length-k) 1 (fun k=>rfl) ⟨by omega,hrp⟩ rfl ?_)
  rintro k ⟨hk0,My⟩
  refine aa (av X [0,2,4,5,27] rfl ?_)
  refine an rfl ?_ ?_<;>intro bM
  ·try simp only[bG]at bM
   have hz1:=gX (adZ ha (k-1))
   have hz2:=gX (qJ ha k)
   have hge:(l.drop 1).getD (k-1) (aR .DB)=(l.getD k (aR .DB)):=by rw[S4,show k-1+1=k by omega]
   have S2:k-1<(l.drop 1).length:=by omega
   refine au (aa (aB (aa ?_)))
   have t1:=(nh (I8 l (k-1)) (l.getD k (aR .DB)) hz1 hz2)
   refine aQ X [] [(36,⟨true,cx t1⟩)] [0,2,4,5,6,7] [] 3071 1 MO (by kernel_rfl) rfl (by kernel_rfl) (by(with_reducible and_intros)<;>first|exact⟨⟩|exact t1| (intros;omega)) (aa (av X [0,2,4,5,6,40] rfl ?_))
   refine an rfl ?_ ?_<;>intro cS
   ·have hx:mO (I8 l (k-1)) (l.getD k (aR .DB))=false:=by simpa using cS
    have hj:=LB (My.trans (adY l (k-1) S2 (by rw[hge];exact hx)))
    exact aO X [2,3] rfl (by trivial) (aq (aj rfl ⟨by rw[hj.1],by rw[hj.2],⟨⟩⟩))
   ·have hx:mO (I8 l (k-1)) (l.getD k (aR .DB))=true:=by simpa using cS
    have hs:=E7 l (k-1) S2
    rw[hge]at hs
    refine au (gA X [0,2,4,5] rfl (by trivial) (qE 4 0 23 rfl (bU X [0,2,4,5] rfl ?_)))
    refine⟨k+1,⟨by omega,by rw[My,SP l (k-1) S2 (by rw[hge];exact hx),show k+1-1=k-1+1 by omega]⟩,by omega,?_⟩
    rw[bZ _ k rfl (by omega),show k+1-1=k-1+1 by omega,hs]
    try rfl
  ·try simp only[bG]at bM
   have hj:=PI (My.trans (XQ l (k-1) (by omega)))
   exact aW (aO X [2,3] rfl (by trivial) (aq (aj rfl ⟨by rw[hj.1],by rw[hj.2],⟨⟩⟩)))
theorem Ba(l:List DB)(mK:l.length≤1048576)(ha:AX l):So 298 [.a (.sl .DB l)] [.agg (bQ (jw l)),aU (I7 l)]:=by
 refine aF X call298 func298 ntmps298 rfl rfl ?_
 intro zb
 exact av X [0,2] rfl (aM X [] [(5,⟨true,[.agg (bQ (jw l)),aU (I7 l)]⟩)] [2,3] [] rfl (by(with_reducible and_intros)<;>first|exact⟨⟩|exact(Fu l mK ha)) (aq (aj rfl ⟨rfl,rfl,⟨⟩⟩)))
theorem wU(id rows b:Int):So 95 [aI id,aI rows,aI b] [.agg (dF (newS id rows b))]:=by
 refine aF X call95 func95 ntmps95 rfl rfl ?_
 intro zb
 refine av X [0,1,2,6] rfl (aa (aM X [] [(8,⟨false,[aU (inr id 0 3)]⟩),(12,⟨false,[aU (inr rows 1 64)]⟩),(17,⟨false,[aU (inr b 0 3)]⟩)] [0,1,2,6,19] [] rfl (by(with_reducible and_intros);(iterate 3 all_goals try first|exact⟨⟩|exact(bD id 0 3)|exact fun _=>(bD rows 1 64)|exact fun _=>(bD b 0 3))) ?_))
 refine an rfl ?_ ?_<;>intro hb0
 ·have hk:LD id rows b=false:=cR hb0 (by simp only[LD,bC]<;>first|rfl|ac_rfl)
  have hn:newS id rows b=⟨0,0,0,[],0⟩:=by rw[newS,hk];rfl
  exact aO X [6] rfl (by trivial) (aq (aj rfl (by and_intros<;>first|exact⟨⟩| (rw[hn];done))))
 ·have hk:LD id rows b=true:=cL hb0 (by simp only[LD,bC]<;>first|rfl|ac_rfl)
  have hn:newS id rows b=⟨id,rows,0,[],b⟩:=by rw[newS,if_pos hk]
  exact au (aO X [6] rfl (by trivial) (aq (aj rfl (by and_intros<;>first|exact⟨⟩| (rw[hn];done)))))
theorem vi(s:cu)(hz:s.received.length≤1048576∧ ∀r,r∈s.received→eN aL r.share.rows≤1048576):So 363 [.agg (dF s)] [.agg (dF (oC s))]:=by
 refine aF X call363 func363 ntmps363 rfl rfl ?_
 intro zb
 refine av X [1,2] rfl (aa (aM X [] [(4,⟨false,[aU (ec s)]⟩)] [1,2,10] [] rfl (by(with_reducible and_intros)<;>first|exact⟨⟩|exact(fT s)) ?_))
 refine an rfl ?_ ?_<;>intro hb0
 ·have hk:LF s=false:=cR hb0 (by simp only[LF,bC]<;>first|rfl|ac_rfl)
  have hn:oC s=s:=by rw[oC,hk];rfl
  exact aM X [] [(12,⟨true,[.agg (dF s)]⟩)] [2] [] rfl (by(with_reducible and_intros)<;>first|exact⟨⟩|exact(pP s hz)) (aq (aj rfl (by and_intros<;>first|exact⟨⟩| (rw[hn];done))))
 ·have hk:LF s=true:=cL hb0 (by simp only[LF,bC]<;>first|rfl|ac_rfl)
  have hn:oC s=⟨s.id,s.rows,af.wrap (s.round+1),[],s.behavior⟩:=by rw[oC,if_pos hk]
  exact au (aO X [2] rfl (by trivial) (aq (aj rfl (by and_intros<;>first|exact⟨⟩| (rw[hn];done)))))
end
section
set_option maxRecDepth 100000
theorem Jd(a:mD)(r:Int)(d:DB)(h0:gC a≤1048576)(hd0:eN aL d.rows≤1048576):So 267 [.agg (fK a),aI r, .agg (bQ d)] [.agg [eO a.rows, .vw 0 none .aX (NX a r d)],aU (zn a r d)]:=by
 refine aF X call267 func267 ntmps267 rfl rfl ?_
 intro zb
 refine av X [1,3,5,6] rfl (aM X [] [(10,⟨true,[.agg (fK a)]⟩)] [1,3,5,6,8] [] rfl (by(with_reducible and_intros)<;>first|exact⟨⟩|exact(uu a h0)) (aa (aM X [] [(12,⟨false,[aU (jz a)]⟩),(16,⟨false,[aU (inr r 0 100000)]⟩),(22,⟨false,[aI (gx a)]⟩),(27,⟨false,[aU (eZ d)]⟩)] [1,5,6,8,37] [] rfl (by(with_reducible and_intros);(iterate 4 all_goals try first|exact⟨⟩|exact(qc a)|exact fun _=>(bl r 0 100000)|exact fun _=>(qB a)|exact fun _=>(gh d))) ?_)))
 refine an rfl ?_ ?_<;>intro hb0
 ·have hk:zn a r d=false:=cR hb0 (by simp only[zn,bC]<;>first|rfl|ac_rfl)
  have hn:=aee hk
  exact aO X [6,7] rfl (by trivial) (aq (aj rfl ⟨rfl,by rw[hn],by rw[hk],⟨⟩⟩))
 ·have hk:zn a r d=true:=cL hb0 (by simp only[zn,bC]<;>first|rfl|ac_rfl)
  have hn:=X6 hk
  have hkb:=aef hk
  have hal:(AY a r d).length=a.rounds.length+1:=by unfold AY;rw[bf];rfl
  refine au (aa (aQ X [] [(43,⟨true,[.agg (bQ d)]⟩),(500045,⟨true,[]⟩)] [6,8] [] 127 0 MO (by kernel_rfl) rfl (by kernel_rfl) (by(repeat' with_reducible first|exact bH|refine bS ?_ ?_|apply bh)<;>first|exact(eP d hd0)|exact rfl|exact⟨rfl,cE _ (by decide)⟩| (simp only[gR,maxLen,lens];omega)) ?_))
  rw[show a.rounds++ [(⟨r,d⟩:aX)]=(AY a r d)from rfl]
  refine aa (av X [6,8,51] rfl ?_)
  refine an rfl ?_ ?_<;>intro bM
  ·try simp only[bG]at bM
   have h8:(8:Int)<((AY a r d).length:Int):=bM
   rw[if_pos h8]at hn
   exact gA X [6,8] rfl (by and_intros<;>first|exact⟨⟩| (intros;omega)) (aO X [6,7] rfl (by trivial) (aq (aj rfl ⟨rfl,by rw[hn];simp,by rw[hk],⟨⟩⟩)))
  ·try simp only[bG]at bM
   have h8: ¬(8:Int)<((AY a r d).length:Int):=by omega
   rw[if_neg h8]at hn
   exact au (aO X [6,7] rfl (by trivial) (aq (aj rfl ⟨rfl,by rw[hn],by rw[hk],⟨⟩⟩)))
theorem Je(a:mD)(r:Int)(d:DB)(h0:gC a≤1048576)(hd0:eN aL d.rows≤1048576):So 362 [.agg (fK a),aI r, .agg (bQ d)] [.agg [eO a.rows, .vw 0 none .aX (NX a r d)],aU (zn a r d)]:=by
 refine aF X call362 func362 ntmps362 rfl rfl ?_
 intro zb
 refine av X [1,3,5,6] rfl (aM X [] [(10,⟨true,[.agg (fK a)]⟩)] [1,3,5,6,8] [] rfl (by(with_reducible and_intros)<;>first|exact⟨⟩|exact(AN a h0)) (aa (aM X [] [(12,⟨false,[aU (jz a)]⟩),(16,⟨false,[aU (inr r 0 100000)]⟩),(22,⟨false,[aI (gx a)]⟩),(27,⟨false,[aU (eZ d)]⟩)] [1,5,6,8,37] [] rfl (by(with_reducible and_intros);(iterate 4 all_goals try first|exact⟨⟩|exact(qd a)|exact fun _=>(bD r 0 100000)|exact fun _=>(qC a)|exact fun _=>(fk d))) ?_)))
 refine an rfl ?_ ?_<;>intro hb0
 ·have hk:zn a r d=false:=cR hb0 (by simp only[zn,bC]<;>first|rfl|ac_rfl)
  have hn:=aee hk
  exact aO X [6,7] rfl (by trivial) (aq (aj rfl ⟨rfl,by rw[hn],by rw[hk],⟨⟩⟩))
 ·have hk:zn a r d=true:=cL hb0 (by simp only[zn,bC]<;>first|rfl|ac_rfl)
  have hn:=X6 hk
  have hkb:=aef hk
  have hal:(AY a r d).length=a.rounds.length+1:=by unfold AY;rw[bf];rfl
  refine au (aa (aQ X [] [(43,⟨true,[.agg (bQ d)]⟩),(500045,⟨true,[]⟩)] [6,8] [] 127 0 MO (by kernel_rfl) rfl (by kernel_rfl) (by(repeat' with_reducible first|exact bH|refine bS ?_ ?_|apply bh)<;>first|exact(iH d hd0)|exact rfl|exact⟨rfl,cE _ (by decide)⟩| (simp only[gR,maxLen,lens];omega)) ?_))
  rw[show a.rounds++ [(⟨r,d⟩:aX)]=(AY a r d)from rfl]
  refine aa (av X [6,8,51] rfl ?_)
  refine an rfl ?_ ?_<;>intro bM
  ·try simp only[bG]at bM
   have h8:(8:Int)<((AY a r d).length:Int):=bM
   rw[if_pos h8]at hn
   exact gA X [6,8] rfl (by and_intros<;>first|exact⟨⟩| (intros;omega)) (aO X [6,7] rfl (by trivial) (aq (aj rfl ⟨rfl,by rw[hn];simp,by rw[hk],⟨⟩⟩)))
  ·try simp only[bG]at bM
   have h8: ¬(8:Int)<((AY a r d).length:Int):=by omega
   rw[if_neg h8]at hn
   exact au (aO X [6,7] rfl (by trivial) (aq (aj rfl ⟨rfl,by rw[hn],by rw[hk],⟨⟩⟩)))
theorem rL(x:bN)(rd id:Int)(hl:x.aG.length≤4)(hw:1≤x.rows∧x.rows≤64)(hU:LH rd x.aG)(hr:x.replaced.length≤4194400):jG ty Tryz.prog 266 [(1000, .box [eO x.rows, .own 11, .own 12,eO x.aK.rows, .own 13,eO x.ck,eO x.seed,eO x.round, .own 14,eO x.cancelled]),(11, .arr .cu x.aG),(12, .arr .bR x.ah),(13, .arr .aX x.aK.rounds),(14, .arr .int x.replaced)] [.a (.ptr 1000 0),aI id] [(1000, .box [eO x.rows, .own 11, .own 12,eO x.aK.rows, .own 13,eO x.ck,eO x.seed,eO x.round, .own 14,eO x.cancelled]),(11, .arr .cu (E8 x.rows rd (x.aG,x.replaced) id).1),(12, .arr .bR x.ah),(13, .arr .aX x.aK.rounds),(14, .arr .int (E8 x.rows rd (x.aG,x.replaced) id).2)] []:=by
 refine fW X call266 func266 rfl rfl (by decide) ntmps266 (by simp) rfl ?_
 intro zb
 refine aa ?_
 have t1:=(bl id 0 (af.wrap ((x.aG.length:Int)-1)))
 refine bn X [] [(12,⟨false,cx t1⟩)] [0,1,12] [] rfl (by(with_reducible and_intros)<;>first|exact⟨⟩|exact t1) ?_
 refine an rfl ?_ ?_<;>intro hb0
 ·have hk:Dv x.aG id=true:=by unfold Dv;simpa using hb0
  have hb:=aed hl hk
  have hp:(E8 x.rows rd (x.aG,x.replaced) id)=_:=X0 (rows:=x.rows) (rd:=rd) (p:=(x.aG,x.replaced)) hk
  have hns:=Fo (id:=id) (by omega) hw
  have hrd:=(wQ hU (k:=id.toNat) (by omega)).1
  refine aM X [] [(18,⟨true,[.agg (dF (newS id x.rows 0))]⟩)] [0,1,4] [] rfl (by(with_reducible and_intros)<;>first|exact⟨⟩|exact(wS id x.rows 0)) ?_
  rw[hns]
  refine aO X [0,1,4] rfl (by and_intros<;>first|exact⟨⟩| (intros;omega)) ?_
  rw[hrd]
  exact aa (aQ X [] [] [0,1] [] 127 0 MO (by kernel_rfl) rfl (by kernel_rfl) (by and_intros<;>first|exact⟨⟩| (intros;omega)) (bn X [(42,14)] [] [] [] rfl (by and_intros<;>first|exact⟨⟩|exact rfl| (simp only[gR,maxLen,lens];omega)) (xX rfl (by and_intros<;>first|exact⟨⟩|rfl| (rw[hp];done)))))
 ·have hk:Dv x.aG id=false:=by unfold Dv;simpa using hb0
  have hp:(E8 x.rows rd (x.aG,x.replaced) id)=_:=X1 (rows:=x.rows) (rd:=rd) (p:=(x.aG,x.replaced)) hk
  exact au (xX rfl (by and_intros<;>first|exact⟨⟩|rfl| (rw[hp];done)))
theorem vk(x:bN)(rd id:Int)(hl:x.aG.length≤4)(hw:1≤x.rows∧x.rows≤64)(hU:LH rd x.aG)(hr:x.replaced.length≤4194400)(hxr:x.round=rd):jG ty Tryz.prog 361 [(1000, .box [eO x.rows, .own 11, .own 12,eO x.aK.rows, .own 13,eO x.ck,eO x.seed,eO x.round, .own 14,eO x.cancelled]),(11, .arr .cu x.aG),(12, .arr .bR x.ah),(13, .arr .aX x.aK.rounds),(14, .arr .int x.replaced)] [.a (.ptr 1000 0),aI id] [(1000, .box [eO x.rows, .own 11, .own 12,eO x.aK.rows, .own 13,eO x.ck,eO x.seed,eO x.round, .own 14,eO x.cancelled]),(11, .arr .cu (E8 x.rows rd (x.aG,x.replaced) id).1),(12, .arr .bR x.ah),(13, .arr .aX x.aK.rounds),(14, .arr .int (E8 x.rows rd (x.aG,x.replaced) id).2)] []:=by
 refine fW X call361 func361 rfl rfl (by decide) ntmps361 (by simp) rfl ?_
 intro zb
 refine aa (aa ?_)
 have t1:=(bD id 0 (af.wrap ((x.aG.length:Int)-1)))
 refine bn X [] [(12,⟨false,cx t1⟩)] [0,1,13] [] rfl (by(with_reducible and_intros)<;>first|exact⟨⟩|exact t1) ?_
 refine an rfl ?_ ?_<;>intro hb0
 ·have hk:Dv x.aG id=false:=by unfold Dv;simpa using hb0
  have hp:(E8 x.rows rd (x.aG,x.replaced) id)=_:=X1 (rows:=x.rows) (rd:=rd) (p:=(x.aG,x.replaced)) hk
  exact aq (bI rfl (by and_intros<;>first|exact⟨⟩|rfl| (rw[hp];done)))
 ·have hk:Dv x.aG id=true:=by unfold Dv;simpa using hb0
  have hb:=aed hl hk
  have hp:(E8 x.rows rd (x.aG,x.replaced) id)=_:=X0 (rows:=x.rows) (rd:=rd) (p:=(x.aG,x.replaced)) hk
  have hns:=Fo (id:=id) (by omega) hw
  have hrd:=(wQ hU (k:=id.toNat) (by omega)).1
  refine au (aM X [] [(19,⟨true,[.agg (dF (newS id x.rows 0))]⟩)] [0,1,4] [] rfl (by(with_reducible and_intros)<;>first|exact⟨⟩|exact(wU id x.rows 0)) ?_)
  rw[hns]
  refine aO X [0,1,4] rfl (by trivial) ?_
  rw[hxr]
  exact aa (aQ X [] [] [0,1] [] 127 0 MO (by kernel_rfl) rfl (by kernel_rfl) (by and_intros<;>first|exact⟨⟩| (intros;omega)) (bn X [(39,14)] [] [] [] rfl (by and_intros<;>first|exact⟨⟩|exact rfl| (simp only[gR,maxLen,lens];omega)) (xX rfl (by and_intros<;>first|exact⟨⟩|rfl| (rw[hp];done)))))
theorem Fv(x:bN)(g:List Int)(d:DB)(h0:wB x)(hgl:g.length≤64)(hd0:eN aL d.rows≤1048576):So 195 [.agg (bw x), .a (.sl .int g), .agg (bQ d)] [.agg [eO (eD x g d).rows, .sl .cu (eD x g d).aG, .sl .bR (eD x g d).ah,eO (eD x g d).aK.rows, .vw 0 none .aX (eD x g d).aK.rounds,eO (eD x g d).ck,eO (eD x g d).seed,eO (eD x g d).round, .sl .int (eD x g d).replaced,eO (eD x g d).cancelled]]:=by
 refine aF X call195 func195 ntmps195 rfl rfl ?_
 intro zb
 have hls:eN gP x.aG≤1048576∧eN cz x.ah≤1048576∧gC x.aK≤1048576∧x.replaced.length≤4194304:=h0
 have hcp:=X3 x g
 refine av X [1,3,5,6] rfl (aM X [(7,907)] [(13,⟨true,[.agg (bw x)]⟩)] [1,3,5,6,7] [] rfl (by(with_reducible and_intros)<;>first|exact⟨⟩|exact(gl x h0)) (aa (aM X [] [(15,⟨false,[aU (okW x)]⟩)] [1,3,5,6,7,21] [] rfl (by(with_reducible and_intros)<;>first|exact⟨⟩|exact(dy x)) ?_)))
 refine an rfl ?_ ?_<;>intro hb0
 ·have hk:mw x=false:=cR hb0 (by simp only[mw,bC]<;>first|rfl|ac_rfl)
  have hc:=N1 (g:=g) (d:=d) hk
  exact aO X [6] rfl (by trivial) (aq (aj rfl (by and_intros<;>first|exact⟨⟩| (rw[hc];done))))
 ·have hk:mw x=true:=cL hb0 (by simp only[mw,bC]<;>first|rfl|ac_rfl)
  obtain⟨hok,hr9⟩:=PS hk
  have hsv:=ij hok
  have Z8:=(tX hok).1
  have hcU:=ajU g hok
  refine au (aa (av X [1,3,5,6,7,25] rfl ?_))
  refine an rfl ?_ ?_<;>intro bM
  ·try simp only[bG]at bM
   have hg0:g.length=0:=by omega
   have hc:=S7 (d:=d) hk hg0
   have hgn:g= []:=gb.1 hg0
   have t1:=(Jd x.aK x.round d hls.2.2.1 hd0)
   refine bn X [] [(32,⟨true,cx t1⟩)] [1,6,7] [] rfl (by(with_reducible and_intros)<;>first|exact⟨⟩|exact t1) (aa (av X [6,7,40,41,42] rfl ?_))
   refine aB (aP (fun k=>k≤g.length) (fun k:Nat=> [(42, .one ((aI k)))]) (fun k=> [(14, .arr .cu (LK x g k).1),(21, .arr .int (LK x g k).2)]) (fun k=>g.length-k) 0 (fun k=>rfl) (aE _) rfl ?_)
   rintro k hk0
   have EF:=Fp (x:=x) hk0
   have hU:=S6 hok hk0
   refine av X [6,7,40,41,42,43] rfl ?_
   refine aa (an rfl ?_ ?_)<;>intro cS
   ·try simp only[bG]at cS
    omega
   ·try simp only[bG]at cS
    rw[B2 cS]
    refine aW (aa (av X [6,7,50,51,52] rfl ?_))
    refine aB (aP (fun k1=>k1≤x.aG.length) (fun k1:Nat=> [(52, .one ((aI k1)))]) (fun k1=> [(14, .arr .cu (Jc (yT x g).1 k1))]) (fun k1=>x.aG.length-k1) 0 (fun k1=>rfl) (aE _) (by rw[X5];rfl) ?_)
    intro k1 hk1
    have Kc:(Jc (yT x g).1 k1).length=x.aG.length:=by rw[JJ (by omega)];exact hcp.1
    refine av X [6,7,50,51,52,53] rfl ?_
    refine aa (an rfl ?_ ?_)<;>intro iZ
    ·try simp only[bG]at iZ
     have hgt:=JI (l:=(yT x g).1) (k:=k1) (by omega)
     have hsm:=wQ hcU (k:=k1) (by omega)
     have ME:=Fq (l:=(yT x g).1) (k:=k1) (by omega)
     refine au (aa (aB (aO X [6,7,10,11,50,51,52] rfl (by and_intros<;>first|exact⟨⟩| (intros;omega)) (aQ X [] [(61,⟨true,[.agg (dF (oC ((Jc (yT x g).1 k1).getD k1 (aR .cu))))]⟩)] [6,7,50,51,52] [] 63 0 MO (by kernel_rfl) rfl (by kernel_rfl) (by(with_reducible and_intros)<;>first|exact⟨⟩|exact(vh ((Jc (yT x g).1 k1).getD k1 (aR .cu)) (by rw[hgt];exact hsm.2))| (intros;omega)) (bU X [6,7,50,51,52] rfl ?_)))))
     refine⟨k1+1,by omega,by omega,?_⟩
     rw[bZ _ k1 rfl (by omega), ←ME]
     try rfl
    ·try simp only[bG]at iZ
     rw[JK (by omega)]
     exact aW (av X [6,7] rfl (aO X [6] rfl (by trivial) (aq (aj rfl (by and_intros<;>first|exact⟨⟩| (rw[hc];done))))))
  ·try simp only[bG]at bM
   have hg0: ¬g.length=0:=by omega
   have hc:=S8 (d:=d) hk hg0
   refine bU X [1,6,7] rfl (aa (av X [6,7,40,41,42] rfl ?_))
   refine aB (aP (fun k=>k≤g.length) (fun k:Nat=> [(42, .one ((aI k)))]) (fun k=> [(14, .arr .cu (LK x g k).1),(21, .arr .int (LK x g k).2)]) (fun k=>g.length-k) 0 (fun k=>rfl) (aE _) rfl ?_)
   rintro k hk0
   have EF:=Fp (x:=x) hk0
   have hU:=S6 hok hk0
   refine av X [6,7,40,41,42,43] rfl ?_
   refine aa (an rfl ?_ ?_)<;>intro cS
   ·try simp only[bG]at cS
    have hst:=S5 (x:=x) cS
    refine au (aa (aB (aO X [6,7,9,40,41,42] rfl (by and_intros<;>first|exact⟨⟩| (intros;omega)) ?_)))
    have t1:=(rL (⟨x.rows,(LK x g k).1,x.ah,x.aK,x.ck,x.seed,x.round,(LK x g k).2,af.wrap (x.cancelled+1)⟩:bN) x.round (g.getD k (aR .int)) (by show(LK x g k).1.length≤4;omega) Z8 hU (by show(LK x g k).2.length≤_;omega))
    refine bn X [] [(800047,⟨true,nX t1⟩),(700047,⟨true, .agg [.ptr 1000 907, .ptr 11 14, .ptr 12 15, .ptr 13 17, .ptr 14 21]:: .agg []::nY t1⟩)] [6,7,40,41,42] [] rfl (by(with_reducible and_intros)<;>first|exact⟨⟩|exact t1) (bU X [6,7,40,41,42] rfl ?_)
    refine⟨k+1,by omega,by omega,?_⟩
    rw[bZ _ k rfl (by omega), ←hst]
    try rfl
   ·try simp only[bG]at cS
    rw[B2 cS]
    refine aW (aa (av X [6,7,50,51,52] rfl ?_))
    refine aB (aP (fun k1=>k1≤x.aG.length) (fun k1:Nat=> [(52, .one ((aI k1)))]) (fun k1=> [(14, .arr .cu (Jc (yT x g).1 k1))]) (fun k1=>x.aG.length-k1) 0 (fun k1=>rfl) (aE _) (by rw[X5];rfl) ?_)
    intro k1 hk1
    have Kc:(Jc (yT x g).1 k1).length=x.aG.length:=by rw[JJ (by omega)];exact hcp.1
    refine av X [6,7,50,51,52,53] rfl ?_
    refine aa (an rfl ?_ ?_)<;>intro iZ
    ·try simp only[bG]at iZ
     have hgt:=JI (l:=(yT x g).1) (k:=k1) (by omega)
     have hsm:=wQ hcU (k:=k1) (by omega)
     have ME:=Fq (l:=(yT x g).1) (k:=k1) (by omega)
     refine au (aa (aB (aO X [6,7,10,11,50,51,52] rfl (by and_intros<;>first|exact⟨⟩| (intros;omega)) (aQ X [] [(61,⟨true,[.agg (dF (oC ((Jc (yT x g).1 k1).getD k1 (aR .cu))))]⟩)] [6,7,50,51,52] [] 63 0 MO (by kernel_rfl) rfl (by kernel_rfl) (by(with_reducible and_intros)<;>first|exact⟨⟩|exact(vh ((Jc (yT x g).1 k1).getD k1 (aR .cu)) (by rw[hgt];exact hsm.2))| (intros;omega)) (bU X [6,7,50,51,52] rfl ?_)))))
     refine⟨k1+1,by omega,by omega,?_⟩
     rw[bZ _ k1 rfl (by omega), ←ME]
     try rfl
    ·try simp only[bG]at iZ
     rw[JK (by omega)]
     exact aW (av X [6,7] rfl (aO X [6] rfl (by trivial) (aq (aj rfl (by and_intros<;>first|exact⟨⟩| (rw[hc];done))))))
theorem DF(x:bN)(h0:wB x):So 194 [.agg (bw x)] [.agg (bw (testW x))]:=by
 refine aF X call194 func194 ntmps194 rfl rfl ?_
 intro zb
 have hls:eN gP x.aG≤1048576∧eN cz x.ah≤1048576∧gC x.aK≤1048576∧x.replaced.length≤4194304:=h0
 have ME:=ajX h0
 refine av X [1,2] rfl (aM X [(3,903)] [(13,⟨true,[.agg (bw x)]⟩)] [1,2,3] [] rfl (by(with_reducible and_intros)<;>first|exact⟨⟩|exact(gl x h0)) (aM X [] [(16,⟨false,[aI (gx x.aK)]⟩)] [1,2,3,4] [] rfl (by(with_reducible and_intros)<;>first|exact⟨⟩|exact(qB x.aK)) (aa ?_)))
 have t1:=(kj x.aK (gx x.aK) ME)
 refine bn X [(21,80)] [(21,⟨true,cx t1⟩)] [1,2,3,4,5,6] [] rfl (by(with_reducible and_intros)<;>first|exact⟨⟩|exact t1) (aa (aM X [] [(25,⟨false,[aU (okW x)]⟩)] [1,2,3,4,5,30] [] rfl (by(with_reducible and_intros)<;>first|exact⟨⟩|exact(dy x)) ?_))
 refine an rfl ?_ ?_<;>intro hb0
 ·have hk:E9 x=false:=cR hb0 (by simp only[E9,bC]<;>first|rfl|ac_rfl)
  have hc:=Ta hk
  exact aO X [2] rfl (by trivial) (aq (aj rfl (by and_intros<;>first|exact⟨⟩| (rw[hc];done))))
 ·have hk:E9 x=true:=cL hb0 (by simp only[E9,bC]<;>first|rfl|ac_rfl)
  have hc:=N2 hk
  have hkk:=hk
  rw[E9,az]at hkk
  obtain⟨hok,hah⟩:=hkk
  have hsv:=ij hok
  have Z8:=(tX hok).1
  refine au (aa (av X [1,2,3,4,5,33,34,35] rfl ?_))
  refine aB (aP (fun k=>k≤x.aG.length) (fun k:Nat=> [(35, .one ((aI k)))]) (fun k=> [(14, .arr .cu (Ja x k).1),(21, .arr .int (Ja x k).2)]) (fun k=>x.aG.length-k) 0 (fun k=>rfl) (aE _) rfl ?_)
  rintro k hk0
  have htb:=ajW hok k hk0
  refine av X [1,2,3,4,5,33,34,35,36] rfl ?_
  refine aa (an rfl ?_ ?_)<;>intro bM
  ·try simp only[bG]at bM
   have hrl:=mj (kh x.seed [227,x.round,(k:Int)]) x.rows
   have hab:=ajR (x.aG.getD k (aR .cu)) (nF x.ck (k:Int)) (gx x.aK) (lY x.aK.rounds (gx x.aK)) (v:=(dX (kh x.seed [227,x.round,(k:Int)]) x.rows)) (by omega)
   have hsg:=ajV hok hah (kh x.seed [227,x.round,(k:Int)])
   refine au (aa (aB (aO X [1,2,3,4,5,7,8,33,34,35] rfl (by and_intros<;>first|exact⟨⟩| (intros;omega)) (aM X [] [(43,⟨false,[aI (nF x.ck (k:Int))]⟩)] [1,2,3,4,5,7,8,9,33,34,35] [] rfl (by(with_reducible and_intros)<;>first|exact⟨⟩|exact(mR x.ck (k:Int))) (aa ?_)))))
   have t1:=(yR (x.aG.getD k (aR .cu)) (nF x.ck (k:Int)) (gx x.aK) (lY x.aK.rounds (gx x.aK)) (dX (kh x.seed [227,x.round,(k:Int)]) x.rows) (by omega))
   refine aQ X [] [(55,⟨false,[aI (kh x.seed [227,x.round,(k:Int)])]⟩),(58,⟨true,[.a (.sl .int (dX (kh x.seed [227,x.round,(k:Int)]) x.rows))]⟩),(59,⟨true,cx t1⟩)] [1,2,3,4,5,7,9,10,33,34,35] [] 1572863 1 MO (by kernel_rfl) rfl (by kernel_rfl) (by(repeat' with_reducible first|exact bH|refine bS ?_ ?_|apply bh);(iterate 3 all_goals try first|exact(cI x.seed [227,x.round,(k:Int)] (by first|assumption|omega| (simp;done)| (simp;omega)))|exact(pJ (kh x.seed [227,x.round,(k:Int)]) x.rows)|exact t1);all_goals first|exact⟨rfl,cE _ (by decide)⟩) ?_
   refine aa ?_
   have t1:=(A7 (nF x.ck (k:Int)) (lY x.aK.rounds (gx x.aK)) (tsA x k) hab.1 hab.2)
   refine bn X [] [(65,⟨false,cx t1⟩)] [1,2,3,4,5,7,33,34,35,65] [] rfl (by(with_reducible and_intros)<;>first|exact⟨⟩|exact t1) ?_
   refine an rfl ?_ ?_<;>intro cS
   ·have hst:=XU (x:=x) (n:=k) cS
    have t1:=(rL (⟨x.rows,(Ja x k).1,x.ah,x.aK,x.ck,x.seed,x.round,(Ja x k).2,x.cancelled⟩:bN) x.round (k:Int) (by show(Ja x k).1.length≤4;omega) Z8 htb.1 (by show(Ja x k).2.length≤_;omega))
    refine bn X [] [(800067,⟨true,nX t1⟩),(700067,⟨true, .agg [.ptr 1000 903, .ptr 11 14, .ptr 12 15, .ptr 13 17, .ptr 14 21]:: .agg []::nY t1⟩)] [1,2,3,4,5,33,34,35] [] rfl (by(with_reducible and_intros)<;>first|exact⟨⟩|exact t1) (bU X [1,2,3,4,5,33,34,35] rfl ?_)
    refine⟨k+1,by omega,by omega,?_⟩
    rw[bZ _ k rfl (by omega), ←hst]
    try rfl
   ·have hst:=SR (x:=x) (n:=k) cS
    refine au (bU X [1,2,3,4,5,33,34,35] rfl ?_)
    refine⟨k+1,by omega,by omega,?_⟩
    rw[bZ _ k rfl (by omega),hst]
    try rfl
  ·try simp only[bG]at bM
   exact aW (aO X [2] rfl (by trivial) (aq (aj rfl (by and_intros<;>first|exact⟨⟩| (rw[hc];done)| (rw[hc,show k=x.aG.length by omega];done)))))
theorem Fw(x:bN)(g:List Int)(d:DB)(h0:wB x)(hgl:g.length≤64)(hd0:eN aL d.rows≤1048576):So 301 [.agg (bw x), .a (.sl .int g), .agg (bQ d)] [.agg [eO (eD x g d).rows, .sl .cu (eD x g d).aG, .sl .bR (eD x g d).ah,eO (eD x g d).aK.rows, .vw 0 none .aX (eD x g d).aK.rounds,eO (eD x g d).ck,eO (eD x g d).seed,eO (eD x g d).round, .sl .int (eD x g d).replaced,eO (eD x g d).cancelled]]:=by
 refine aF X call301 func301 ntmps301 rfl rfl ?_
 intro zb
 have hls:eN gP x.aG≤1048576∧eN cz x.ah≤1048576∧gC x.aK≤1048576∧x.replaced.length≤4194304:=h0
 have hcp:=X3 x g
 refine av X [1,3,5,6] rfl (aM X [(7,907)] [(13,⟨true,[.agg (bw x)]⟩)] [1,3,5,6,7] [] rfl (by(with_reducible and_intros)<;>first|exact⟨⟩|exact(fC x h0)) (aa (aM X [] [(15,⟨false,[aU (okW x)]⟩)] [1,3,5,6,7,21] [] rfl (by(with_reducible and_intros)<;>first|exact⟨⟩|exact(dL x)) ?_)))
 refine an rfl ?_ ?_<;>intro hb0
 ·have hk:mw x=false:=cR hb0 (by simp only[mw,bC]<;>first|rfl|ac_rfl)
  have hc:=N1 (g:=g) (d:=d) hk
  exact aO X [6] rfl (by trivial) (aq (aj rfl (by and_intros<;>first|exact⟨⟩| (rw[hc];done))))
 ·have hk:mw x=true:=cL hb0 (by simp only[mw,bC]<;>first|rfl|ac_rfl)
  obtain⟨hok,hr9⟩:=PS hk
  have hsv:=ij hok
  have Z8:=(tX hok).1
  have hcU:=ajU g hok
  refine au (aa (av X [1,3,5,6,7,25] rfl ?_))
  refine an rfl ?_ ?_<;>intro bM
  ·try simp only[bG]at bM
   have hg0:g.length=0:=by omega
   have hc:=S7 (d:=d) hk hg0
   have hgn:g= []:=gb.1 hg0
   refine aa ?_
   have t1:=(Je x.aK x.round d hls.2.2.1 hd0)
   refine bn X [] [(32,⟨true,cx t1⟩)] [1,3,6,7,8] [] rfl (by(with_reducible and_intros)<;>first|exact⟨⟩|exact t1) (gA X [1,3,6,7] rfl (by trivial) (aa (av X [1,3,6,7,10] rfl ?_)))
   refine aB (aP (fun k=>k≤g.length) (fun k:Nat=> [(10, .one ((aI k)))]) (fun k=> [(14, .arr .cu (LK x g k).1),(21, .arr .int (LK x g k).2)]) (fun k=>g.length-k) 0 (fun k=>rfl) (aE _) rfl ?_)
   rintro k hk0
   have EF:=Fp (x:=x) hk0
   have hU:=S6 hok hk0
   refine aa (av X [1,3,6,7,10,44] rfl ?_)
   refine an rfl ?_ ?_<;>intro cS
   ·try simp only[bG]at cS
    omega
   ·try simp only[bG]at cS
    rw[B2 cS]
    refine aW (aa (av X [3,6,7,11] rfl ?_))
    refine aB (aP (fun k1=>k1≤x.aG.length) (fun k1:Nat=> [(11, .one ((aI k1)))]) (fun k1=> [(14, .arr .cu (Jc (yT x g).1 k1))]) (fun k1=>x.aG.length-k1) 0 (fun k1=>rfl) (aE _) (by rw[X5];rfl) ?_)
    intro k1 hk1
    have Kc:(Jc (yT x g).1 k1).length=x.aG.length:=by rw[JJ (by omega)];exact hcp.1
    refine aa (av X [3,6,7,11,56] rfl ?_)
    refine an rfl ?_ ?_<;>intro iZ
    ·try simp only[bG]at iZ
     rw[Kc]at iZ
     have hgt:=JI (l:=(yT x g).1) (k:=k1) (by omega)
     have hsm:=wQ hcU (k:=k1) (by omega)
     have ME:=Fq (l:=(yT x g).1) (k:=k1) (by omega)
     refine au (aa (aB (aQ X [] [(67,⟨true,[.agg (dF (oC ((Jc (yT x g).1 k1).getD k1 (aR .cu))))]⟩)] [3,6,7,11] [] 1023 0 MO (by kernel_rfl) rfl (by kernel_rfl) (by(with_reducible and_intros)<;>first|exact⟨⟩|exact(vi ((Jc (yT x g).1 k1).getD k1 (aR .cu)) (by rw[hgt];exact hsm.2))| (intros;omega)) (bU X [3,6,7,11] rfl ?_))))
     refine⟨k1+1,by omega,by omega,?_⟩
     rw[bZ _ k1 rfl (by omega), ←ME]
     try rfl
    ·try simp only[bG]at iZ
     rw[Kc]at iZ
     rw[JK (by omega)]
     exact aW (av X [6,7] rfl (aO X [6] rfl (by trivial) (aq (aj rfl (by and_intros<;>first|exact⟨⟩| (rw[hc];done))))))
  ·try simp only[bG]at bM
   have hg0: ¬g.length=0:=by omega
   have hc:=S8 (d:=d) hk hg0
   refine bU X [1,3,6,7] rfl (aa (av X [1,3,6,7,10] rfl ?_))
   refine aB (aP (fun k=>k≤g.length) (fun k:Nat=> [(10, .one ((aI k)))]) (fun k=> [(14, .arr .cu (LK x g k).1),(21, .arr .int (LK x g k).2)]) (fun k=>g.length-k) 0 (fun k=>rfl) (aE _) rfl ?_)
   rintro k hk0
   have EF:=Fp (x:=x) hk0
   have hU:=S6 hok hk0
   refine aa (av X [1,3,6,7,10,44] rfl ?_)
   refine an rfl ?_ ?_<;>intro cS
   ·try simp only[bG]at cS
    have hst:=S5 (x:=x) cS
    refine au (aa (aB ?_))
    have t1:=(vk (⟨x.rows,(LK x g k).1,x.ah,x.aK,x.ck,x.seed,x.round,(LK x g k).2,af.wrap (x.cancelled+1)⟩:bN) x.round (g.getD k (aR .int)) (by show(LK x g k).1.length≤4;omega) Z8 hU (by show(LK x g k).2.length≤_;omega) rfl)
    refine bn X [] [(800051,⟨true,nX t1⟩),(700051,⟨true, .agg [.ptr 1000 907, .ptr 11 14, .ptr 12 15, .ptr 13 17, .ptr 14 21]:: .agg []::nY t1⟩)] [1,3,6,7,10] [] rfl (by(with_reducible and_intros)<;>first|exact⟨⟩|exact t1| (intros;omega)) (bU X [1,3,6,7,10] rfl ?_)
    refine⟨k+1,by omega,by omega,?_⟩
    rw[bZ _ k rfl (by omega), ←hst]
    try rfl
   ·try simp only[bG]at cS
    rw[B2 cS]
    refine aW (aa (av X [3,6,7,11] rfl ?_))
    refine aB (aP (fun k1=>k1≤x.aG.length) (fun k1:Nat=> [(11, .one ((aI k1)))]) (fun k1=> [(14, .arr .cu (Jc (yT x g).1 k1))]) (fun k1=>x.aG.length-k1) 0 (fun k1=>rfl) (aE _) (by rw[X5];rfl) ?_)
    intro k1 hk1
    have Kc:(Jc (yT x g).1 k1).length=x.aG.length:=by rw[JJ (by omega)];exact hcp.1
    refine aa (av X [3,6,7,11,56] rfl ?_)
    refine an rfl ?_ ?_<;>intro iZ
    ·try simp only[bG]at iZ
     rw[Kc]at iZ
     have hgt:=JI (l:=(yT x g).1) (k:=k1) (by omega)
     have hsm:=wQ hcU (k:=k1) (by omega)
     have ME:=Fq (l:=(yT x g).1) (k:=k1) (by omega)
     refine au (aa (aB (aQ X [] [(67,⟨true,[.agg (dF (oC ((Jc (yT x g).1 k1).getD k1 (aR .cu))))]⟩)] [3,6,7,11] [] 1023 0 MO (by kernel_rfl) rfl (by kernel_rfl) (by(with_reducible and_intros)<;>first|exact⟨⟩|exact(vi ((Jc (yT x g).1 k1).getD k1 (aR .cu)) (by rw[hgt];exact hsm.2))| (intros;omega)) (bU X [3,6,7,11] rfl ?_))))
     refine⟨k1+1,by omega,by omega,?_⟩
     rw[bZ _ k1 rfl (by omega), ←ME]
     try rfl
    ·try simp only[bG]at iZ
     rw[Kc]at iZ
     rw[JK (by omega)]
     exact aW (av X [6,7] rfl (aO X [6] rfl (by trivial) (aq (aj rfl (by and_intros<;>first|exact⟨⟩| (rw[hc];done))))))
theorem DG(x:bN)(h0:wB x):So 300 [.agg (bw x)] [.agg (bw (testW x))]:=by
 refine aF X call300 func300 ntmps300 rfl rfl ?_
 intro zb
 have hls:eN gP x.aG≤1048576∧eN cz x.ah≤1048576∧gC x.aK≤1048576∧x.replaced.length≤4194304:=h0
 have ME:=ajX h0
 refine av X [1,2] rfl (aM X [(3,903)] [(12,⟨true,[.agg (bw x)]⟩)] [1,2,3] [] rfl (by(with_reducible and_intros)<;>first|exact⟨⟩|exact(fC x h0)) (aM X [] [(15,⟨false,[aI (gx x.aK)]⟩)] [1,2,3,4] [] rfl (by(with_reducible and_intros)<;>first|exact⟨⟩|exact(qC x.aK)) (aa ?_)))
 have t1:=(oO x.aK (gx x.aK) ME)
 refine bn X [(20,80)] [(20,⟨true,cx t1⟩)] [1,2,3,4,5,6] [] rfl (by(with_reducible and_intros)<;>first|exact⟨⟩|exact t1) (aa (aM X [] [(24,⟨false,[aU (okW x)]⟩)] [1,2,3,4,5,29] [] rfl (by(with_reducible and_intros)<;>first|exact⟨⟩|exact(dL x)) ?_))
 refine an rfl ?_ ?_<;>intro hb0
 ·have hk:E9 x=false:=cR hb0 (by simp only[E9,bC]<;>first|rfl|ac_rfl)
  have hc:=Ta hk
  exact aO X [2] rfl (by trivial) (aq (aj rfl (by and_intros<;>first|exact⟨⟩| (rw[hc];done))))
 ·have hk:E9 x=true:=cL hb0 (by simp only[E9,bC]<;>first|rfl|ac_rfl)
  have hc:=N2 hk
  have hkk:=hk
  rw[E9,az]at hkk
  obtain⟨hok,hah⟩:=hkk
  have hsv:=ij hok
  have Z8:=(tX hok).1
  refine au (aa (av X [1,2,3,4,5,7] rfl ?_))
  refine aB (aP (fun k=>k≤x.aG.length) (fun k:Nat=> [(7, .one ((aI k)))]) (fun k=> [(13, .arr .cu (Ja x k).1),(20, .arr .int (Ja x k).2)]) (fun k=>x.aG.length-k) 0 (fun k=>rfl) (aE _) rfl ?_)
  rintro k hk0
  have htb:=ajW hok k hk0
  refine aa (av X [1,2,3,4,5,7,35] rfl ?_)
  refine an rfl ?_ ?_<;>intro bM
  ·try simp only[bG]at bM
   have hrl:=mj (kh x.seed [227,x.round,(k:Int)]) x.rows
   have hab:=ajR (x.aG.getD k (aR .cu)) (nF x.ck (k:Int)) (gx x.aK) (lY x.aK.rounds (gx x.aK)) (v:=(dX (kh x.seed [227,x.round,(k:Int)]) x.rows)) (by omega)
   have hsg:=ajV hok hah (kh x.seed [227,x.round,(k:Int)])
   refine au (aa (aB (aM X [] [(41,⟨false,[aI (nF x.ck (k:Int))]⟩)] [1,2,3,4,5,7,8] [] rfl (by(with_reducible and_intros)<;>first|exact⟨⟩|exact(mS x.ck (k:Int))) (aa ?_))))
   have t1:=(yS (x.aG.getD k (aR .cu)) (nF x.ck (k:Int)) (gx x.aK) (lY x.aK.rounds (gx x.aK)) (dX (kh x.seed [227,x.round,(k:Int)]) x.rows) (by omega))
   refine aQ X [] [(57,⟨false,[aI (kh x.seed [227,x.round,(k:Int)])]⟩),(60,⟨true,[.a (.sl .int (dX (kh x.seed [227,x.round,(k:Int)]) x.rows))]⟩),(61,⟨true,cx t1⟩)] [1,2,3,4,5,7,8,9,10] [] 25165823 1 MO (by kernel_rfl) rfl (by kernel_rfl) (by(repeat' with_reducible first|exact bH|refine bS ?_ ?_|apply bh);(iterate 3 all_goals try first|exact(cJ x.seed [227,x.round,(k:Int)] (by first|assumption|omega| (simp;done)| (simp;omega)))|exact(pK (kh x.seed [227,x.round,(k:Int)]) x.rows)|exact t1);all_goals first| (intros;omega)|exact⟨rfl,cE _ (by decide)⟩) ?_
   refine aa ?_
   have t1:=(A9 (nF x.ck (k:Int)) (lY x.aK.rounds (gx x.aK)) (tsA x k) hab.1 hab.2)
   refine bn X [] [(69,⟨false,cx t1⟩)] [1,2,3,4,5,7,70] [] rfl (by(with_reducible and_intros)<;>first|exact⟨⟩|exact fun _=>t1) ?_
   refine an rfl ?_ ?_<;>intro cS
   ·have hbt:tsB x k=true:=by rw[hsg]at cS;exact cS
    have hst:=XU (x:=x) (n:=k) hbt
    have t1:=(vk (⟨x.rows,(Ja x k).1,x.ah,x.aK,x.ck,x.seed,x.round,(Ja x k).2,x.cancelled⟩:bN) x.round (k:Int) (by show(Ja x k).1.length≤4;omega) Z8 htb.1 (by show(Ja x k).2.length≤_;omega) rfl)
    refine bn X [] [(800072,⟨true,nX t1⟩),(700072,⟨true, .agg [.ptr 1000 903, .ptr 11 13, .ptr 12 14, .ptr 13 16, .ptr 14 20]:: .agg []::nY t1⟩)] [1,2,3,4,5,7] [] rfl (by(with_reducible and_intros)<;>first|exact⟨⟩|exact t1) (bU X [1,2,3,4,5,7] rfl ?_)
    refine⟨k+1,by omega,by omega,?_⟩
    rw[bZ _ k rfl (by omega), ←hst]
    try rfl
   ·have hbt:tsB x k=false:=by rw[hsg]at cS;exact cS
    have hst:=SR (x:=x) (n:=k) hbt
    refine au (bU X [1,2,3,4,5,7] rfl ?_)
    refine⟨k+1,by omega,by omega,?_⟩
    rw[bZ _ k rfl (by omega),hst]
    try rfl
  ·try simp only[bG]at bM
   exact aW (aO X [2] rfl (by trivial) (aq (aj rfl (by and_intros<;>first|exact⟨⟩| (rw[hc];done)| (rw[hc,show k=x.aG.length by omega];done)))))
end
section
set_option maxRecDepth 100000
theorem yV(x:bN)(hR:wR x):So 113 [.agg (bw x)] [.agg (bw (gr x))]:=by
 refine aF X call113 func113 ntmps113 rfl rfl ?_
 intro zb
 obtain⟨h0,hrp⟩:=hR
 have hsv:=yM h0
 refine av X [1,2] rfl (aa (aM X [] [(9,⟨false,[aU (okW x)]⟩)] [1,2,15] [] rfl (by(with_reducible and_intros)<;>first|exact⟨⟩|exact(dy x)) ?_))
 refine an rfl ?_ ?_<;>intro hb0
 ·have hk:mw x=false:=cR hb0 (by simp only[mw,bC]<;>first|rfl|ac_rfl)
  have hc:=N3 hk
  exact aM X [] [(17,⟨true,[.agg (bw x)]⟩)] [2] [] rfl (by(with_reducible and_intros)<;>first|exact⟨⟩|exact(gl x h0)) (aq (aj rfl (by and_intros<;>first|exact⟨⟩| (rw[hc];done))))
 ·have hk:mw x=true:=cL hb0 (by simp only[mw,bC]<;>first|rfl|ac_rfl)
  have hc:=LL hk
  obtain⟨hok,hr9⟩:=PS hk
  have hcl:=rJ hok
  have hcs:=LA hok
  have hs4:=ij hok
  have hpd:=ve (dw x)
  have hjz:=gX (NW _ hpd)
  have hgl:=ur x.ck (dw x) (fX (dw x)) (ni x) (dw x).length
  have hpl:(fX (dw x)).length=(dw x).length:=bt ..
  obtain⟨hB1,hB2⟩:=X7 h0 hok hrp
  refine au (aM X [] [(20,⟨true,[.a (.sl .cu (dw x)), .a (.sl .iA (ni x))]⟩)] [1,2,3,4] [] rfl (by(with_reducible and_intros)<;>first|exact⟨⟩|exact(A3 x h0)) (aM X [] [(24,⟨true,[.a (.sl .DB (fX (dw x)))]⟩)] [1,2,3,4,5] [] rfl (by(with_reducible and_intros)<;>first|exact⟨⟩|exact(Fk (dw x) (by omega))) (aa ?_)))
  have t1:=(A8 (fX (dw x)) (by omega) hpd)
  refine bn X [] [(27,⟨true,cx t1⟩)] [1,2,3,4,5,6] [] rfl (by(with_reducible and_intros)<;>first|exact⟨⟩|exact t1) (aa ?_)
  have t1:=(Fv x (oB x.ck (dw x) (fX (dw x)) (ni x) (dw x).length) (jw (fX (dw x))) h0 (by omega) hjz)
  have t2:=(DF (eD x (oB x.ck (dw x) (fX (dw x)) (ni x) (dw x).length) (jw (fX (dw x)))) hB1)
  have t3:=(Hi (testW (eD x (oB x.ck (dw x) (fX (dw x)) (ni x) (dw x).length) (jw (fX (dw x))))) hB2)
  exact aQ X [(38,60),(39,100),(40,150)] [(36,⟨true,[.a (.sl .int (oB x.ck (dw x) (fX (dw x)) (ni x) (dw x).length))]⟩),(38,⟨true,cx t1⟩),(39,⟨true,cx t2⟩),(40,⟨true,cx t3⟩)] [2] [] 2047 0 MO (by kernel_rfl) rfl (by kernel_rfl) (by(with_reducible and_intros);(iterate 4 all_goals try first|exact⟨⟩|exact(Fj x.ck (dw x) (fX (dw x)) (ni x) (by omega) hcs (XO _))|exact t1|exact t2|exact t3)) (aq (aj rfl (by and_intros<;>first|exact⟨⟩| (rw[hc];done))))
theorem Jf(x:bN)(hR:wR x)(hok:okW x=true):So 238 [.agg (bw x)] [.agg (bw (Ls (testW (eD x (oB x.ck (dw x) (fX (dw x)) (ni x) (dw x).length) (jw (fX (dw x)))))))]:=by
 refine aF X call238 func238 ntmps238 rfl rfl ?_
 intro zb
 obtain⟨h0,hrp⟩:=hR
 have hsv:=yM h0
 have hcl:=rJ hok
 have hcs:=LA hok
 have hs4:=ij hok
 have hpd:=ve (dw x)
 have hjz:=gX (NW _ hpd)
 have hgl:=ur x.ck (dw x) (fX (dw x)) (ni x) (dw x).length
 have hpl:(fX (dw x)).length=(dw x).length:=bt ..
 obtain⟨hB1,hB2⟩:=X7 h0 hok hrp
 refine av X [1,2] rfl (aM X [] [(10,⟨true,[.a (.sl .cu (dw x)), .a (.sl .iA (ni x))]⟩)] [1,2,3,4] [] rfl (by(with_reducible and_intros)<;>first|exact⟨⟩|exact(A4 x h0)) (aM X [] [(14,⟨true,[.a (.sl .DB (fX (dw x)))]⟩)] [1,2,3,4,5] [] rfl (by(with_reducible and_intros)<;>first|exact⟨⟩|exact(Fm (dw x) (by omega))) (aa ?_)))
 have t1:=(Ba (fX (dw x)) (by omega) hpd)
 refine bn X [] [(17,⟨true,cx t1⟩)] [1,2,3,4,5,6] [] rfl (by(with_reducible and_intros)<;>first|exact⟨⟩|exact t1) (aa ?_)
 have t1:=(Fw x (oB x.ck (dw x) (fX (dw x)) (ni x) (dw x).length) (jw (fX (dw x))) h0 (by omega) hjz)
 have t2:=(DG (eD x (oB x.ck (dw x) (fX (dw x)) (ni x) (dw x).length) (jw (fX (dw x)))) hB1)
 have t3:=(Hl (testW (eD x (oB x.ck (dw x) (fX (dw x)) (ni x) (dw x).length) (jw (fX (dw x))))) hB2)
 exact aQ X [(28,60),(29,100),(30,150)] [(26,⟨true,[.a (.sl .int (oB x.ck (dw x) (fX (dw x)) (ni x) (dw x).length))]⟩),(28,⟨true,cx t1⟩),(29,⟨true,cx t2⟩),(30,⟨true,cx t3⟩)] [2] [] 2047 0 MO (by kernel_rfl) rfl (by kernel_rfl) (by(with_reducible and_intros);(iterate 4 all_goals try first|exact⟨⟩|exact(Fl x.ck (dw x) (fX (dw x)) (ni x) (by omega) hcs (XO _))|exact t1|exact t2|exact t3)) (aq (aj rfl ⟨rfl,rfl,rfl,rfl,rfl,rfl,rfl,rfl,rfl,rfl,⟨⟩⟩))
theorem yW(x:bN)(hR:wR x):So 150 [.agg (bw x)] [.agg (bw (gr x))]:=by
 refine aF X call150 func150 ntmps150 rfl rfl ?_
 intro zb
 have h0:=hR.1
 refine av X [1,2] rfl (aa (aM X [] [(4,⟨false,[aU (okW x)]⟩)] [1,2,10] [] rfl (by(with_reducible and_intros)<;>first|exact⟨⟩|exact(dL x)) ?_))
 refine an rfl ?_ ?_<;>intro hb0
 ·have hk:mw x=false:=cR hb0 (by simp only[mw,bC]<;>first|rfl|ac_rfl)
  have hc:=N3 hk
  exact aM X [] [(12,⟨true,[.agg (bw x)]⟩)] [2] [] rfl (by(with_reducible and_intros)<;>first|exact⟨⟩|exact(fC x h0)) (aq (aj rfl (by and_intros<;>first|exact⟨⟩| (rw[hc];done))))
 ·have hk:mw x=true:=cL hb0 (by simp only[mw,bC]<;>first|rfl|ac_rfl)
  have hc:=LL hk
  obtain⟨hok,hr9⟩:=PS hk
  refine au (aa ?_)
  have t1:=(Jf x hR hok)
  exact bn X [] [(14,⟨true,cx t1⟩)] [2] [] rfl (by(with_reducible and_intros)<;>first|exact⟨⟩|exact t1) (aq (aj rfl (by and_intros<;>first|exact⟨⟩| (rw[hc];done))))
end
section
set_option maxRecDepth 100000
theorem LN(a b:Int):So 81 [aI a,aI b] [aI (kr a b)]:=by
 refine aF X call81 func81 ntmps81 rfl rfl ?_
 intro zb
 refine av X [0,1] rfl (aa (av X [0,1,7] rfl ?_))
 refine an rfl ?_ ?_<;>intro hb0
 ·try simp only[bG]at hb0
  exact av X [4] rfl (aq (aj rfl ⟨by rw[kr,if_pos (by omega)],⟨⟩⟩))
 ·try simp only[bG]at hb0
  exact au (av X [4] rfl (aq (aj rfl ⟨by rw[kr,if_neg (by omega)],⟨⟩⟩)))
theorem yj(c:gI):So 184 [.agg (cM c)] [aI (waiting c)]:=by
 refine aF X call184 func184 ntmps184 rfl rfl ?_
 intro zb
 exact av X [1] rfl (av X [2] rfl (aq (aj rfl ⟨rfl,⟨⟩⟩)))
theorem kV(x:bN):So 110 [.agg (bw x)] [aI (rM x.ah x.ah.length)]:=by
 refine aF X call110 func110 ntmps110 rfl rfl ?_
 intro zb
 refine b7 0 2 rfl rfl (fun qS=>(av X [1] rfl (av X [1,3] rfl (aa (av X [3,7,8,9] rfl ?_)))))
 refine aB (aP (fun k=>k≤x.ah.length) (fun k:Nat=> [(3, .one ((aI (rM x.ah k)))),(9, .one ((aI k)))]) (fun k=> []) (fun k=>x.ah.length-k) 0 (fun k=>rfl) (aE _) rfl ?_)
 intro k hk
 refine av X [3,7,8,9,10] rfl ?_
 refine aa (an rfl ?_ ?_)<;>intro hb0
 ·try simp only[bG]at hb0
  refine au (aa (aB (aO X [3,5,7,8,9] rfl (by and_intros<;>first|exact⟨⟩| (intros;omega)) (bn X [] [(16,⟨false,[aI (waiting ((x.ah.getD k (aR .bR)).live))]⟩)] [3,7,8,9] [] rfl (by(with_reducible and_intros)<;>first|exact⟨⟩|exact(yj ((x.ah.getD k (aR .bR)).live))) (bU X [3,7,8,9] rfl ?_)))))
  refine⟨k+1,by omega,by omega,?_⟩
  rw[bZ _ k rfl (by omega)]
  try rfl
 ·try simp only[bG]at hb0
  exact aW (av X [2] rfl (aq (aj rfl ⟨by rw[show k=x.ah.length by omega],⟨⟩⟩)))
theorem lF(x:bN)(hd:x.ah.length≤1048576):So 111 [.agg (bw x)] [aI (CU x.ah x.ah.length)]:=by
 refine aF X call111 func111 ntmps111 rfl rfl ?_
 intro zb
 refine b7 0 2 rfl rfl (fun qS=>(av X [1] rfl (av X [1,3] rfl (aa (av X [1,3,7,8,9] rfl ?_)))))
 refine aB (aP (fun k=>k≤x.ah.length) (fun k:Nat=> [(3, .one ((aI (CU x.ah k)))),(9, .one ((aI k)))]) (fun k=> []) (fun k=>x.ah.length-k) 0 (fun k=>rfl) (aE _) rfl ?_)
 intro k hk
 refine av X [1,3,7,8,9,10] rfl ?_
 refine aa (an rfl ?_ ?_)<;>intro hb0
 ·try simp only[bG]at hb0
  refine au (aa (aB (aO X [1,3,4,5,7,8,9] rfl (by and_intros<;>first|exact⟨⟩| (intros;omega)) (aM X [] [(16,⟨false,[aU (iy x (k:Int))]⟩)] [1,3,4,5,7,8,9,16] [] rfl (by(with_reducible and_intros)<;>first|exact⟨⟩|exact(tQ x (k:Int) (by first|assumption|omega| (simp;done)| (simp;omega)))) ?_))))
  refine an rfl ?_ ?_<;>intro bM
  ·rw[LM hb0,decide_eq_true_eq]at bM
   have hx:(af.wrap (aH af.bits (k:Int)^^^aH af.bits 1).toNat)=((k^^^1:Nat):Int):=I1 k (by omega)
   have hx0:0≤(af.wrap (aH af.bits (k:Int)^^^aH af.bits 1).toNat)∧(af.wrap (aH af.bits (k:Int)^^^aH af.bits 1).toNat)<(x.ah.length:Int):=by rw[hx];omega
   refine aQ X [] [] [1,3,7,8,9] [] 131071 0 MO (by kernel_rfl) rfl (by kernel_rfl) (by and_intros<;>first|exact⟨⟩| (intros;omega)) (bU X [1,3,7,8,9] rfl ?_)
   refine⟨k+1,by omega,by omega,?_⟩
   rw[bZ _ k rfl (by omega),X8 bM,hx,aei]
   try rfl
  ·rw[LM hb0,decide_eq_false_iff_not]at bM
   refine au (bU X [1,3,7,8,9] rfl ?_)
   refine⟨k+1,by omega,by omega,?_⟩
   rw[bZ _ k rfl (by omega),Tb bM]
   try rfl
 ·try simp only[bG]at hb0
  exact aW (av X [2] rfl (aq (aj rfl ⟨by rw[show k=x.ah.length by omega],⟨⟩⟩)))
theorem LP(x:bN)(hd:x.ah.length≤1048576):So 67 [.agg (bw x)] [aU (qN x)]:=by
 refine aF X call67 func67 ntmps67 rfl rfl ?_
 intro zb
 exact av X [1] rfl (aM X [] [(4,⟨false,[aI (rM x.ah x.ah.length)]⟩),(8,⟨false,[aI (CU x.ah x.ah.length)]⟩)] [2] [] rfl (by(with_reducible and_intros);(iterate 2 all_goals try first|exact⟨⟩|exact(kV x)|exact fun _=>(lF x hd))) (aq (aj rfl ⟨(congrArg dO (by simp only[qN,bC]<;>first|rfl|ac_rfl)),⟨⟩⟩)))
theorem Ct(x:bN)(hd:x.ah.length≤1048576):So 60 [.agg (bw x)] [aI (zx x)]:=by
 refine aF X call60 func60 ntmps60 rfl rfl ?_
 intro zb
 exact av X [1] rfl (aa (aQ X [] [(4,⟨false,[aI (rM x.ah x.ah.length)]⟩),(6,⟨false,[aI (CU x.ah x.ah.length)]⟩)] [2] [] 511 0 MO (by kernel_rfl) rfl (by kernel_rfl) (by(with_reducible and_intros);(iterate 2 all_goals try first|exact⟨⟩|exact(kV x)|exact(lF x hd))) (aq (aj rfl ⟨rfl,⟨⟩⟩))))
theorem wV(x:bN)(c:Int)(hC:wC x 4100000):So 59 [.agg (bw x),aI c] [.agg (bw (iK x (yh c)))]:=by
 refine aF X call59 func59 ntmps59 rfl rfl ?_
 intro zb
 have h0:wB x:=ad3 hC (by decide)
 refine av X [1,2,4] rfl (aM X [] [(7,⟨true,[.agg (bw x)]⟩)] [1,4,5] [] rfl (by(with_reducible and_intros)<;>first|exact⟨⟩|exact(gl x h0)) (aa (aM X [] [(9,⟨false,[aU (inr c 0 400)]⟩)] [1,4,5,9] [] rfl (by(with_reducible and_intros)<;>first|exact⟨⟩|exact(bl c 0 400)) ?_)))
 refine an rfl ?_ ?_<;>intro hb0
 ·try simp only[bG]at hb0
  have hin:=VL hb0
  have hrn:=aej c
  refine av X [4,5,10,11] rfl ?_
  refine aB (aP (fun k=>k≤yh c) (fun k:Nat=> [(11, .one ((aI k)))]) (fun k=> [(8, .arr .cu (iK x k).aG),(9, .arr .bR (iK x k).ah),(11, .arr .aX (iK x k).aK.rounds),(15, .arr .int (iK x k).replaced),(5, .box [eO (iK x k).rows, .own 8, .own 9,eO (iK x k).aK.rows, .own 11,eO (iK x k).ck,eO (iK x k).seed,eO (iK x k).round, .own 15,eO (iK x k).cancelled])]) (fun k=>yh c-k) 0 (fun k=>rfl) (aE _) rfl ?_)
  intro k hk
  have hrb:=aek hC (k:=k) (by omega)
  refine av X [4,5,10,11,12] rfl ?_
  refine aa (an rfl ?_ ?_)<;>intro bM
  ·try simp only[bG]at bM
   refine au (aa (aB (bn X [(14,150)] [(14,⟨true,[.agg (bw (gr (iK x k)))]⟩)] [4,5,10,11] [] rfl (by(with_reducible and_intros)<;>first|exact⟨⟩|exact(yV (iK x k) hrb.1)) (eC 151 8 rfl (eC 152 9 rfl (eC 154 11 rfl (eC 158 15 rfl (bU X [4,5,10,11] rfl ?_))))))))
   refine⟨k+1,by omega,by omega,?_⟩
   rw[bZ _ k rfl (by omega)]
   try rfl
  ·try simp only[bG]at bM
   have hkk:yh c=k:=by omega
   exact aW (aO X [4] rfl (by trivial) (aq (aj rfl (by and_intros<;>first|exact⟨⟩| (rw[hkk];done)))))
 ·try simp only[bG]at hb0
  have hkk:=X9 hb0
  exact au (aO X [4] rfl (by trivial) (aq (aj rfl (by and_intros<;>first|exact⟨⟩| (rw[hkk];rfl;done)))))
theorem yl(c:gI):So 151 [.agg (cM c)] [aI (waiting c)]:=by
 refine aF X call151 func151 ntmps151 rfl rfl ?_
 intro zb
 exact av X [1] rfl (av X [2] rfl (aq (aj rfl ⟨rfl,⟨⟩⟩)))
theorem ji(x:bN):So 83 [.agg (bw x)] [aI (rM x.ah x.ah.length)]:=by
 refine aF X call83 func83 ntmps83 rfl rfl ?_
 intro zb
 refine b7 0 2 rfl rfl (fun qS=>(av X [1] rfl (av X [1,3] rfl (aa (av X [1,3,4] rfl ?_)))))
 refine aB (aP (fun k=>k≤x.ah.length) (fun k:Nat=> [(3, .one ((aI (rM x.ah k)))),(4, .one ((aI k)))]) (fun k=> []) (fun k=>x.ah.length-k) 0 (fun k=>rfl) (aE _) rfl ?_)
 intro k hk
 refine aa (av X [1,3,4,9] rfl ?_)
 refine an rfl ?_ ?_<;>intro hb0
 ·try simp only[bG]at hb0
  refine au (aa (aB (bn X [] [(19,⟨false,[aI (waiting ((x.ah.getD k (aR .bR)).live))]⟩)] [1,3,4] [] rfl (by(with_reducible and_intros)<;>first|exact⟨⟩|exact(yl ((x.ah.getD k (aR .bR)).live))| (intros;omega)) (bU X [1,3,4] rfl ?_))))
  refine⟨k+1,by omega,by omega,?_⟩
  rw[bZ _ k rfl (by omega)]
  try rfl
 ·try simp only[bG]at hb0
  exact aW (av X [2] rfl (aq (aj rfl ⟨by rw[show k=x.ah.length by omega],⟨⟩⟩)))
theorem jD(x:bN)(hd:x.ah.length≤1048576):So 84 [.agg (bw x)] [aI (CU x.ah x.ah.length)]:=by
 refine aF X call84 func84 ntmps84 rfl rfl ?_
 intro zb
 refine b7 0 2 rfl rfl (fun qS=>(av X [1] rfl (av X [1,3] rfl (aa (av X [1,3,4] rfl ?_)))))
 refine aB (aP (fun k=>k≤x.ah.length) (fun k:Nat=> [(3, .one ((aI (CU x.ah k)))),(4, .one ((aI k)))]) (fun k=> []) (fun k=>x.ah.length-k) 0 (fun k=>rfl) (aE _) rfl ?_)
 intro k hk
 refine aa (av X [1,3,4,9] rfl ?_)
 refine an rfl ?_ ?_<;>intro hb0
 ·try simp only[bG]at hb0
  refine au (aa (aB (av X [1,3,4,17] rfl ?_)))
  refine an rfl ?_ ?_<;>intro bM
  ·try simp only[bG]at bM
   have hx:(af.wrap (aH af.bits (k:Int)^^^aH af.bits 1).toNat)=((k^^^1:Nat):Int):=I1 k (by omega)
   have hx1:(k^^^1)<x.ah.length:=by rw[hx]at bM;omega
   have hx0:0≤(af.wrap (aH af.bits (k:Int)^^^aH af.bits 1).toNat)∧(af.wrap (aH af.bits (k:Int)^^^aH af.bits 1).toNat)<(x.ah.length:Int):=by rw[hx];omega
   refine aQ X [] [] [1,3,4] [] 2097151 0 MO (by kernel_rfl) rfl (by kernel_rfl) (by and_intros<;>first|exact⟨⟩| (intros;omega)) (bU X [1,3,4] rfl ?_)
   refine⟨k+1,by omega,by omega,?_⟩
   rw[bZ _ k rfl (by omega),X8 hx1,hx]
   try rfl
  ·try simp only[bG]at bM
   have hx:(af.wrap (aH af.bits (k:Int)^^^aH af.bits 1).toNat)=((k^^^1:Nat):Int):=I1 k (by omega)
   have hx1: ¬(k^^^1)<x.ah.length:=by rw[hx]at bM;omega
   refine au (bU X [1,3,4] rfl ?_)
   refine⟨k+1,by omega,by omega,?_⟩
   rw[bZ _ k rfl (by omega),Tb hx1]
   try rfl
 ·try simp only[bG]at hb0
  exact aW (av X [2] rfl (aq (aj rfl ⟨by rw[show k=x.ah.length by omega],⟨⟩⟩)))
theorem LQ(x:bN)(hd:x.ah.length≤1048576):So 44 [.agg (bw x)] [aU (qN x)]:=by
 refine aF X call44 func44 ntmps44 rfl rfl ?_
 intro zb
 exact av X [1] rfl (aM X [] [(4,⟨false,[aI (rM x.ah x.ah.length)]⟩),(8,⟨false,[aI (CU x.ah x.ah.length)]⟩)] [2] [] rfl (by(with_reducible and_intros);(iterate 2 all_goals try first|exact⟨⟩|exact(ji x)|exact fun _=>(jD x hd))) (aq (aj rfl ⟨(congrArg dO (by simp only[qN,bC]<;>first|rfl|ac_rfl)),⟨⟩⟩)))
theorem Cu(x:bN)(hd:x.ah.length≤1048576):So 37 [.agg (bw x)] [aI (zx x)]:=by
 refine aF X call37 func37 ntmps37 rfl rfl ?_
 intro zb
 refine av X [1] rfl (aa ?_)
 have t1:=(oc (rM x.ah x.ah.length) (CU x.ah x.ah.length))
 have t2:=(oc 0 (mx (rM x.ah x.ah.length) (CU x.ah x.ah.length)))
 have t3:=(LN 400 (af.wrap (20+af.wrap (8*mx 0 (mx (rM x.ah x.ah.length) (CU x.ah x.ah.length))))))
 exact aQ X [] [(4,⟨false,[aI (rM x.ah x.ah.length)]⟩),(6,⟨false,[aI (CU x.ah x.ah.length)]⟩),(7,⟨false,cx t1⟩),(8,⟨false,cx t2⟩),(11,⟨false,cx t3⟩)] [2] [] 1023 0 MO (by kernel_rfl) rfl (by kernel_rfl) (by(with_reducible and_intros);(iterate 5 all_goals try first|exact⟨⟩|exact(ji x)|exact(jD x hd)|exact t1|exact t2|exact t3)) (aq (aj rfl ⟨by rw[zx,ahX],⟨⟩⟩))
theorem Ho(x:bN)(c:Int)(hC:wC x 4100000):So 80 [.agg (bw x),aI c] [.agg (bw (iK x (yh c)))]:=by
 refine aF X call80 func80 ntmps80 rfl rfl ?_
 intro zb
 have h0:wB x:=ad3 hC (by decide)
 refine av X [1,2,4] rfl (aM X [] [(8,⟨true,[.agg (bw x)]⟩)] [1,4,5] [] rfl (by(with_reducible and_intros)<;>first|exact⟨⟩|exact(fC x h0)) (aa (av X [1,4,5,6] rfl ?_)))
 refine aB (aP (fun k=>k≤yh c) (fun k:Nat=> [(6, .one ((aI k)))]) (fun k=> [(9, .arr .cu (iK x k).aG),(10, .arr .bR (iK x k).ah),(12, .arr .aX (iK x k).aK.rounds),(16, .arr .int (iK x k).replaced),(5, .box [eO (iK x k).rows, .own 9, .own 10,eO (iK x k).aK.rows, .own 12,eO (iK x k).ck,eO (iK x k).seed,eO (iK x k).round, .own 16,eO (iK x k).cancelled])]) (fun k=>yh c-k) 0 (fun k=>rfl) (aE _) rfl ?_)
 intro k hk
 have hrn:=aej c
 have hrb:=aek hC (k:=k) (by omega)
 refine aa (av X [1,4,5,6,15] rfl ?_)
 refine an rfl ?_ ?_<;>intro hb0
 ·have hgo:=apb hb0
  refine au (aa (aB (bn X [(19,150)] [(19,⟨true,[.agg (bw (gr (iK x k)))]⟩)] [1,4,5,6] [] rfl (by(with_reducible and_intros)<;>first|exact⟨⟩|exact(yW (iK x k) hrb.1)) (eC 151 9 rfl (eC 152 10 rfl (eC 154 12 rfl (eC 158 16 rfl (bU X [1,4,5,6] rfl ?_))))))))
  refine⟨k+1,by omega,by omega,?_⟩
  rw[bZ _ k rfl (by omega)]
  try rfl
 ·have hkk:=(ams hk hb0).symm
  exact aW (aO X [4] rfl (by trivial) (aq (aj rfl (by and_intros<;>first|exact⟨⟩| (rw[hkk];done)))))
end
section
set_option maxRecDepth 100000
theorem sL(c:gI)(b:List UInt8)(h0:eN aL c.bp≤1048576∧eN aL c.inbox≤1048576)(hb:b.length≤1048576):So 282 [.agg (cM c), .a (.sl .u8 b)] [.agg (cM (pR c b)),aU (wP c b)]:=by
 refine aF X call282 func282 ntmps282 rfl rfl ?_
 intro zb
 have En:=eF h0.1
 refine av X [1,2,4] rfl (aM X [] [(8,⟨true,[.agg (cM c)]⟩)] [1,2,4,6] [] rfl (by(with_reducible and_intros)<;>first|exact⟨⟩|exact(gY c h0)) (aa (aQ X [(12,40),(14,60)] [(12,⟨true,[.a (.sl .u8 b)]⟩),(500013,⟨true,[]⟩)] [2,4,6] [] 31 0 MO (by kernel_rfl) rfl (by kernel_rfl) (by(repeat' with_reducible first|exact bH|refine bS ?_ ?_|apply bh)<;>first|exact(dW b (by first|assumption|omega| (simp;done)| (simp;omega)))|exact rfl|exact⟨rfl,cE _ (by decide)⟩| (simp only[gR,maxLen,lens];omega)) ?_)))
 refine aa (aM X [] [(17,⟨false,[aU (ga c)]⟩),(21,⟨false,[aU (ga (VH c b))]⟩)] [2,4,6,23] [] rfl (by(with_reducible and_intros);(iterate 2 all_goals try first|exact⟨⟩|exact(gL c)|exact fun _=>(gL (VH c b)))) ?_)
 refine an rfl ?_ ?_<;>intro hb0
 ·have hk:wP c b=false:=cR hb0 (by simp only[wP,bC]<;>first|rfl|ac_rfl)
  have hq:=Ya hk
  exact aM X [] [(25,⟨true,[.agg (cM c)]⟩)] [4,5] [] rfl (by(with_reducible and_intros)<;>first|exact⟨⟩|exact(gY c h0)) (aq (aj rfl (by and_intros<;>first|exact⟨⟩| (rw[hq];done)| (rw[hk];done))))
 ·have hk:wP c b=true:=cL hb0 (by simp only[wP,bC]<;>first|rfl|ac_rfl)
  have hq:=Fx hk
  exact au (aO X [4,5] rfl (by trivial) (aq (aj rfl (by and_intros<;>first|exact⟨⟩| (rw[hq];rfl;done)| (rw[hk];done)))))
theorem zy(d:bR)(b:List UInt8)(h0:cz d≤1048576)(hb:b.length≤1048576):So 215 [.agg (dj d), .a (.sl .u8 b)] [.agg (dj (Jb d b)),aU (AZ d b)]:=by
 refine aF X call215 func215 ntmps215 rfl rfl ?_
 intro zb
 have hc1:dQ d.live≤1048576∧dQ d.saved≤1048576:=by unfold cz at h0;omega
 unfold dQ at hc1
 refine av X [1,2,4] rfl (aM X [] [(14,⟨true,[.agg (cM (pR d.live b)),aU (wP d.live b)]⟩)] [1,2,4,6,7] [] rfl (by(with_reducible and_intros)<;>first|exact⟨⟩|exact(sL d.live b ⟨by omega,by omega⟩ hb)) (aM X [] [(21,⟨true,[.agg (cM (pR d.saved b)),aU (wP d.saved b)]⟩)] [2,4,6,7,8,9] [] rfl (by(with_reducible and_intros)<;>first|exact⟨⟩|exact(sL d.saved b ⟨by omega,by omega⟩ hb)) (aa (aM X [] [(25,⟨false,[aU (fu d)]⟩)] [2,4,6,8,34] [] rfl (by(with_reducible and_intros)<;>first|exact⟨⟩|exact(gN d)) ?_))))
 refine an rfl ?_ ?_<;>intro hb0
 ·have hk:AZ d b=false:=cR hb0 (by simp only[AZ,bC]<;>first|rfl|ac_rfl)
  have hq:=PV hk
  exact aM X [] [(36,⟨true,[.agg (dj d)]⟩)] [4,5] [] rfl (by(with_reducible and_intros)<;>first|exact⟨⟩|exact(jS d h0)) (aq (aj rfl (by and_intros<;>first|exact⟨⟩| (rw[hq];done)| (rw[hk];done))))
 ·have hk:AZ d b=true:=cL hb0 (by simp only[AZ,bC]<;>first|rfl|ac_rfl)
  have hq:=Tc hk
  exact au (aO X [4,5] rfl (by trivial) (aq (aj rfl (by and_intros<;>first|exact⟨⟩| (rw[hq];done)| (rw[hk];done)))))
theorem DH(d:bR)(h0:cz d≤1048576):So 216 [.agg (dj d)] [.agg (dj (VI d))]:=by
 refine aF X call216 func216 ntmps216 rfl rfl ?_
 intro zb
 have hc1:dQ d.live≤1048576∧dQ d.saved≤1048576:=by unfold cz at h0;omega
 unfold dQ at hc1
 refine av X [1,2] rfl (aa (aM X [] [(4,⟨false,[aU (fu d)]⟩)] [1,2,5] [] rfl (by(with_reducible and_intros)<;>first|exact⟨⟩|exact(gN d)) ?_))
 refine an rfl ?_ ?_<;>intro hb0
 ·have hk:fu d=false:=by simpa using hb0
  have hd:VI d=d:=by rw[VI,hk];rfl
  exact aM X [] [(7,⟨true,[.agg (dj d)]⟩)] [2] [] rfl (by(with_reducible and_intros)<;>first|exact⟨⟩|exact(jS d h0)) (aq (aj rfl (by and_intros<;>first|exact⟨⟩| (rw[hd];done))))
 ·have hk:fu d=true:=by simpa using hb0
  have hd:VI d=⟨d.saved,d.saved⟩:=by rw[VI,if_pos hk]
  exact au (aM X [] [(10,⟨true,[.agg (dj (⟨d.saved,d.saved⟩:bR))]⟩)] [2] [] rfl (by(with_reducible and_intros)<;>first|exact⟨⟩|exact(qL d.saved ⟨by omega,by omega⟩)) (aq (aj rfl (by and_intros<;>first|exact⟨⟩| (rw[hd];done)))))
theorem Bb(x:bN)(c:Int)(b:List UInt8)(h0:wB x)(hb:b.length≤1048576):So 125 [.agg (bw x),aI c, .a (.sl .u8 b)] [.agg (bw (QI x c b)),aU (SX x c b)]:=by
 refine aF X call125 func125 ntmps125 rfl rfl ?_
 intro zb
 refine b7 0 1 rfl rfl (fun hl1=> ?_)
 refine b7 0 2 rfl rfl (fun qS=> ?_)
 have hdv:=EO h0
 have hsv:=yM h0
 have hw:af.wrap ((x.ah.length:Int)-1)=(x.ah.length:Int)-1:=dm (by omega)
 refine av X [1,2,3,6] rfl (aM X [] [(12,⟨true,[.agg (bw x)]⟩)] [1,2,3,6,8] [] rfl (by(with_reducible and_intros)<;>first|exact⟨⟩|exact(gl x h0)) (aa (aM X [] [(14,⟨false,[aU (okW x)]⟩),(19,⟨false,[aU (kA x c)]⟩)] [1,2,3,6,8,21] [] rfl (by(with_reducible and_intros);(iterate 2 all_goals try first|exact⟨⟩|exact(dy x)|exact fun _=>(gj x c))) ?_)))
 refine an rfl ?_ ?_<;>intro hb0
 ·have hk:fA x c=false:=cR hb0 (by simp only[fA,bC]<;>first|rfl|ac_rfl)
  have hq:=aem (b:=b) hk
  exact aO X [6,7] rfl (by trivial) (aq (aj rfl (by and_intros<;>first|exact⟨⟩| (rw[hq.1];done)| (rw[hq.2];done))))
 ·have hk:fA x c=true:=cL hb0 (by simp only[fA,bC]<;>first|rfl|ac_rfl)
  obtain⟨hok,hc0,hc1⟩:=sU hk
  have hdz:=Hq hk
  have hq:=PW (b:=b) hk
  refine au (aa ?_)
  have t1:=(zy (x.ah.getD c.toNat (aR .bR)) b hdz hb)
  refine bn X [] [(30,⟨true,cx t1⟩)] [1,6,8,9,10] [] rfl (by(with_reducible and_intros)<;>first|exact⟨⟩|exact t1| (intros;omega)) (aa (av X [1,6,8,9,10,33] rfl ?_))
  refine an rfl ?_ ?_<;>intro bM
  ·exact gA X [6,8,10] rfl (by and_intros<;>first|exact⟨⟩| (intros;omega)) (aO X [6,7] rfl (by trivial) (aq (aj rfl (by and_intros<;>first|exact⟨⟩| (rw[hq.1];rfl;done)| (rw[hq.2];rfl;done)))))
  ·have hs:=aen hk bM
   exact au (aO X [6,7] rfl (by trivial) (aq (aj rfl (by and_intros<;>first|exact⟨⟩| (rw[hs];done)| (rw[hq.2];rfl;done)))))
theorem DI(x:bN)(c:Int)(h0:wB x):So 126 [.agg (bw x),aI c] [.agg (bw (PR x c)),aU (fA x c)]:=by
 refine aF X call126 func126 ntmps126 rfl rfl ?_
 intro zb
 refine b7 0 1 rfl rfl (fun hl1=> ?_)
 refine b7 0 2 rfl rfl (fun qS=> ?_)
 have hdv:=EO h0
 have hsv:=yM h0
 have hw:af.wrap ((x.ah.length:Int)-1)=(x.ah.length:Int)-1:=dm (by omega)
 refine av X [1,2,4] rfl (aM X [] [(8,⟨true,[.agg (bw x)]⟩)] [1,2,4,6] [] rfl (by(with_reducible and_intros)<;>first|exact⟨⟩|exact(gl x h0)) (aa (aM X [] [(10,⟨false,[aU (okW x)]⟩),(15,⟨false,[aU (kA x c)]⟩)] [1,2,4,6,17] [] rfl (by(with_reducible and_intros);(iterate 2 all_goals try first|exact⟨⟩|exact(dy x)|exact fun _=>(gj x c))) ?_)))
 refine an rfl ?_ ?_<;>intro hb0
 ·have hk:fA x c=false:=cR hb0 (by simp only[fA,bC]<;>first|rfl|ac_rfl)
  have hq:=aeo hk
  exact aO X [4,5] rfl (by trivial) (aq (aj rfl (by and_intros<;>first|exact⟨⟩| (rw[hq];done)| (rw[hk];done))))
 ·have hk:fA x c=true:=cL hb0 (by simp only[fA,bC]<;>first|rfl|ac_rfl)
  obtain⟨hok,hc0,hc1⟩:=sU hk
  have hdz:=Hq hk
  have hq:=Yb hk
  exact au (aa (aQ X [] [(27,⟨true,[.agg (dj (VI (x.ah.getD c.toNat (aR .bR))))]⟩)] [4,6] [] 1023 0 MO (by kernel_rfl) rfl (by kernel_rfl) (by(with_reducible and_intros)<;>first|exact⟨⟩|exact(DH (x.ah.getD c.toNat (aR .bR)) hdz)| (intros;omega)) (aO X [4,5] rfl (by trivial) (aq (aj rfl (by and_intros<;>first|exact⟨⟩| (rw[hq];rfl;done)| (rw[hk];done)))))))
theorem Bc(x:bN)(i b:Int)(h0:wB x):So 127 [.agg (bw x),aI i,aI b] [.agg (bw (SY x i b)),aU (vN x i b)]:=by
 refine aF X call127 func127 ntmps127 rfl rfl ?_
 intro zb
 refine b7 0 1 rfl rfl (fun hl1=> ?_)
 refine b7 0 2 rfl rfl (fun qS=> ?_)
 have hdv:=EO h0
 have hsv:=yM h0
 refine av X [1,2,3,6] rfl (aM X [] [(10,⟨true,[.agg (bw x)]⟩)] [1,2,3,6,8] [] rfl (by(with_reducible and_intros)<;>first|exact⟨⟩|exact(gl x h0)) (aa (aa ?_)))
 have t1:=(bl i 0 (af.wrap ((x.aG.length:Int)-1)))
 refine bn X [] [(12,⟨false,[aU (okW x)]⟩),(20,⟨false,cx t1⟩),(25,⟨false,[aU (inr b 0 3)]⟩)] [1,2,6,8,27] [] rfl (by(with_reducible and_intros);(iterate 3 all_goals try first|exact⟨⟩|exact(dy x)|exact fun _=>t1|exact fun _=>(bl b 0 3))) ?_
 refine an rfl ?_ ?_<;>intro hb0
 ·have hk:vN x i b=false:=cR hb0 (by simp only[vN,bC]<;>first|rfl|ac_rfl)
  have hq:=aer hk
  exact aO X [6,7] rfl (by trivial) (aq (aj rfl (by and_intros<;>first|exact⟨⟩| (rw[hq];done)| (rw[hk];done))))
 ·have hk:vN x i b=true:=cL hb0 (by simp only[vN,bC]<;>first|rfl|ac_rfl)
  have hcb:=VJ hk
  have hq:=Yd hk
  exact au (aO X [6,8] rfl (by and_intros<;>first|exact⟨⟩| (intros;omega)) (aO X [6,7] rfl (by trivial) (aq (aj rfl (by and_intros<;>first|exact⟨⟩| (rw[hq];rfl;done)| (rw[hk];done))))))
theorem Fz(x:bN)(e:Ev)(hR:wR x)(hb:e.body.length≤1048576):So 70 [.agg (bw x), .agg (oT e)] [.agg (bw (DU x e)),aU (rK x e)]:=by
 refine aF X call70 func70 ntmps70 rfl rfl ?_
 intro zb
 have h0:=hR.1
 refine b7 0 1 rfl rfl (fun hl1=> ?_)
 refine b7 0 2 rfl rfl (fun qS=> ?_)
 have hdv:=EO h0
 have hsv:=yM h0
 have hw:af.wrap ((x.ah.length:Int)-1)=(x.ah.length:Int)-1:=dm (by omega)
 refine av X [2,3,4] rfl (aM X [] [(8,⟨true,[.agg (bw x)]⟩)] [2,3,4,6] [] rfl (by(with_reducible and_intros)<;>first|exact⟨⟩|exact(gl x h0)) (aa (aM X [] [(10,⟨false,[aU (okW x)]⟩)] [2,3,4,6,11] [] rfl (by(with_reducible and_intros)<;>first|exact⟨⟩|exact(dy x)) ?_)))
 refine an rfl ?_ ?_<;>intro hb0
 ·have hok:okW x=false:=by simpa using hb0
  have hv:=ajZ (e:=e) hok
  exact aO X [4,5] rfl (by trivial) (aq (aj rfl (by and_intros<;>first|exact⟨⟩| (rw[hv.1];done)| (rw[hv.2];done))))
 ·have hok:okW x=true:=by simpa using hb0
  refine au (aa (av X [2,3,4,6,14] rfl (aB (av X [2,3,4,6,14,15] rfl ?_))))
  refine an rfl ?_ ?_<;>intro bM
  ·try simp only[bG]at bM
   have hv:=apc hok bM
   exact aa (aQ X [] [(18,⟨true,[.agg (bw (gr x))]⟩)] [4,5] [] 95 3 MO (by kernel_rfl) rfl (by kernel_rfl) (by(with_reducible and_intros)<;>first|exact⟨⟩|exact(yV x hR)) (aq (aj rfl (by and_intros<;>first|exact⟨⟩| (rw[hv.1];done)| (rw[hv.2];done)))))
  ·try simp only[bG]at bM
   refine av X [2,3,4,6,14,22] rfl ?_
   refine an rfl ?_ ?_<;>intro cS
   ·try simp only[bG]at cS
    have hv:=apd hok cS
    refine aa ?_
    have t1:=(Bb x e.node e.body h0 hb)
    exact bn X [] [(29,⟨true,cx t1⟩)] [4,5] [] rfl (by(with_reducible and_intros)<;>first|exact⟨⟩|exact t1) (aq (aj rfl (by and_intros<;>first|exact⟨⟩| (rw[hv.1];done)| (rw[hv.2];done))))
   ·try simp only[bG]at cS
    refine av X [2,3,4,6,14,32] rfl ?_
    refine an rfl ?_ ?_<;>intro iZ
    ·try simp only[bG]at iZ
     have hv:=ape hok iZ
     exact aM X [] [(37,⟨true,[.agg (bw (PR x e.node)),aU (fA x e.node)]⟩)] [4,5] [] rfl (by(with_reducible and_intros)<;>first|exact⟨⟩|exact(DI x e.node h0)) (aq (aj rfl (by and_intros<;>first|exact⟨⟩| (rw[hv.1];done)| (rw[hv.2];done))))
    ·try simp only[bG]at iZ
     refine av X [2,3,4,6,14,40] rfl ?_
     refine an rfl ?_ ?_<;>intro qD
     ·try simp only[bG]at qD
      have hv:=apf hok qD
      refine aa ?_
      have t1:=(Bc x e.node e.value h0)
      exact bn X [] [(47,⟨true,cx t1⟩)] [4,5] [] rfl (by(with_reducible and_intros)<;>first|exact⟨⟩|exact t1) (aq (aj rfl (by and_intros<;>first|exact⟨⟩| (rw[hv.1];done)| (rw[hv.2];done))))
     ·try simp only[bG]at qD
      refine av X [2,3,4,6,50] rfl ?_
      refine an rfl ?_ ?_<;>intro CV
      ·try simp only[bG]at CV
       have hv:=apg hok CV
       refine aM X [] [(55,⟨false,[aU (kA x e.node)]⟩)] [2,3,4,6,55] [] rfl (by(with_reducible and_intros)<;>first|exact⟨⟩|exact(gj x e.node)) ?_
       refine an rfl ?_ ?_<;>intro LR
       ·have hh:kA x e.node=true:=LR
        have hk:fA x e.node=true:=by rw[Fy hok];exact hh
        obtain⟨_,hc0,hc1⟩:=sU hk
        have hdz:=Hq hk
        have hq:=Yc hk
        exact aa (aQ X [] [(66,⟨true,[.agg (dj (PO (x.ah.getD e.node.toNat (aR .bR))))]⟩)] [4,6] [] 4095 0 MO (by kernel_rfl) rfl (by kernel_rfl) (by(with_reducible and_intros)<;>first|exact⟨⟩|exact(vf (x.ah.getD e.node.toNat (aR .bR)) hdz)| (intros;omega)) (aO X [4,5] rfl (by trivial) (aq (aj rfl (by and_intros<;>first|exact⟨⟩| (rw[hv.1,hq];rfl;done)| (rw[hv.2,hk];done))))))
       ·have hh:kA x e.node=false:=LR
        have hk:fA x e.node=false:=by rw[Fy hok];exact hh
        have hq:=aep hk
        exact au (aO X [4,5] rfl (by trivial) (aq (aj rfl (by and_intros<;>first|exact⟨⟩| (rw[hv.1,hq];done)| (rw[hv.2,hk];done)))))
      ·try simp only[bG]at CV
       have hv:=aph hok bM cS iZ qD CV
       exact au (aO X [4,5] rfl (by trivial) (aq (aj rfl (by and_intros<;>first|exact⟨⟩| (rw[hv.1];done)| (rw[hv.2];done)))))
theorem sM(c:gI)(b:List UInt8)(h0:eN aL c.bp≤1048576∧eN aL c.inbox≤1048576)(hb:b.length≤1048576):So 309 [.agg (cM c), .a (.sl .u8 b)] [.agg (cM (pR c b)),aU (wP c b)]:=by
 refine aF X call309 func309 ntmps309 rfl rfl ?_
 intro zb
 have En:=eF h0.1
 refine av X [1,2,4] rfl (aM X [] [(8,⟨true,[.agg (cM c)]⟩)] [1,2,4,6] [] rfl (by(with_reducible and_intros)<;>first|exact⟨⟩|exact(jA c h0)) (aa (aQ X [(13,11),(13,40)] [(500014,⟨true,[]⟩)] [2,4,6] [] 175 2 MO (by kernel_rfl) rfl (by kernel_rfl) (by and_intros<;>first|exact⟨⟩|exact rfl| (simp only[gR,maxLen,lens];omega)) (aa (aM X [] [(18,⟨false,[aU (ga c)]⟩),(22,⟨false,[aU (ga (VH c b))]⟩)] [2,4,6,24] [] rfl (by(with_reducible and_intros);(iterate 2 all_goals try first|exact⟨⟩|exact(gM c)|exact fun _=>(gM (VH c b)))) ?_)))))
 refine an rfl ?_ ?_<;>intro hb0
 ·have hk:wP c b=false:=cR hb0 (by simp only[wP,bC]<;>first|rfl|ac_rfl)
  have hq:=Ya hk
  exact aM X [] [(26,⟨true,[.agg (cM c)]⟩)] [4,5] [] rfl (by(with_reducible and_intros)<;>first|exact⟨⟩|exact(jA c h0)) (aq (aj rfl (by and_intros<;>first|exact⟨⟩| (rw[hq];done)| (rw[hk];done))))
 ·have hk:wP c b=true:=cL hb0 (by simp only[wP,bC]<;>first|rfl|ac_rfl)
  have hq:=Fx hk
  exact au (aO X [4,5] rfl (by trivial) (aq (aj rfl (by and_intros<;>first|exact⟨⟩| (rw[hq];rfl;done)| (rw[hk];done)))))
theorem zz(d:bR)(b:List UInt8)(h0:cz d≤1048576)(hb:b.length≤1048576):So 246 [.agg (dj d), .a (.sl .u8 b)] [.agg (dj (Jb d b)),aU (AZ d b)]:=by
 refine aF X call246 func246 ntmps246 rfl rfl ?_
 intro zb
 have hc1:dQ d.live≤1048576∧dQ d.saved≤1048576:=by unfold cz at h0;omega
 unfold dQ at hc1
 refine av X [1,2,4] rfl (aM X [] [(14,⟨true,[.agg (cM (pR d.live b)),aU (wP d.live b)]⟩)] [1,2,4,6,7] [] rfl (by(with_reducible and_intros)<;>first|exact⟨⟩|exact(sM d.live b ⟨by omega,by omega⟩ hb)) (aM X [] [(21,⟨true,[.agg (cM (pR d.saved b)),aU (wP d.saved b)]⟩)] [2,4,6,7,8,9] [] rfl (by(with_reducible and_intros)<;>first|exact⟨⟩|exact(sM d.saved b ⟨by omega,by omega⟩ hb)) (aa (aM X [] [(25,⟨false,[aU (fu d)]⟩)] [2,4,6,8,34] [] rfl (by(with_reducible and_intros)<;>first|exact⟨⟩|exact(gO d)) ?_))))
 refine an rfl ?_ ?_<;>intro hb0
 ·have hk:AZ d b=false:=cR hb0 (by simp only[AZ,bC]<;>first|rfl|ac_rfl)
  have hq:=PV hk
  exact aM X [] [(36,⟨true,[.agg (dj d)]⟩)] [4,5] [] rfl (by(with_reducible and_intros)<;>first|exact⟨⟩|exact(mq d h0)) (aq (aj rfl (by and_intros<;>first|exact⟨⟩| (rw[hq];done)| (rw[hk];done))))
 ·have hk:AZ d b=true:=cL hb0 (by simp only[AZ,bC]<;>first|rfl|ac_rfl)
  have hq:=Tc hk
  exact au (aO X [4,5] rfl (by trivial) (aq (aj rfl (by and_intros<;>first|exact⟨⟩| (rw[hq];done)| (rw[hk];done)))))
theorem DJ(d:bR)(h0:cz d≤1048576):So 247 [.agg (dj d)] [.agg (dj (VI d))]:=by
 refine aF X call247 func247 ntmps247 rfl rfl ?_
 intro zb
 have hc1:dQ d.live≤1048576∧dQ d.saved≤1048576:=by unfold cz at h0;omega
 unfold dQ at hc1
 refine av X [1,2] rfl (aa (aM X [] [(4,⟨false,[aU (fu d)]⟩)] [1,2,5] [] rfl (by(with_reducible and_intros)<;>first|exact⟨⟩|exact(gO d)) ?_))
 refine an rfl ?_ ?_<;>intro hb0
 ·have hk:fu d=false:=by simpa using hb0
  have hd:VI d=d:=by rw[VI,hk];rfl
  exact aM X [] [(7,⟨true,[.agg (dj d)]⟩)] [2] [] rfl (by(with_reducible and_intros)<;>first|exact⟨⟩|exact(mq d h0)) (aq (aj rfl (by and_intros<;>first|exact⟨⟩| (rw[hd];done))))
 ·have hk:fu d=true:=by simpa using hb0
  have hd:VI d=⟨d.saved,d.saved⟩:=by rw[VI,if_pos hk]
  exact au (aM X [] [(10,⟨true,[.agg (dj (⟨d.saved,d.saved⟩:bR))]⟩)] [2] [] rfl (by(with_reducible and_intros)<;>first|exact⟨⟩|exact(qM d.saved ⟨by omega,by omega⟩)) (aq (aj rfl (by and_intros<;>first|exact⟨⟩| (rw[hd];done)))))
theorem Bd(x:bN)(c:Int)(b:List UInt8)(h0:wB x)(hb:b.length≤1048576):So 170 [.agg (bw x),aI c, .a (.sl .u8 b)] [.agg (bw (QI x c b)),aU (SX x c b)]:=by
 refine aF X call170 func170 ntmps170 rfl rfl ?_
 intro zb
 refine b7 0 1 rfl rfl (fun hl1=> ?_)
 refine b7 0 2 rfl rfl (fun qS=> ?_)
 have hdv:=EO h0
 have hsv:=yM h0
 have hw:af.wrap ((x.ah.length:Int)-1)=(x.ah.length:Int)-1:=dm (by omega)
 refine av X [1,2,3,6] rfl (aM X [] [(12,⟨true,[.agg (bw x)]⟩)] [1,2,3,6,8] [] rfl (by(with_reducible and_intros)<;>first|exact⟨⟩|exact(fC x h0)) (aa (aa ?_)))
 have t1:=(bD c 0 (af.wrap ((x.ah.length:Int)-1)))
 refine bn X [] [(14,⟨false,[aU (okW x)]⟩),(22,⟨false,cx t1⟩)] [1,2,3,6,8,24] [] rfl (by(with_reducible and_intros);(iterate 2 all_goals try first|exact⟨⟩|exact(dL x)|exact fun _=>t1)) ?_
 refine an rfl ?_ ?_<;>intro hb0
 ·have hk:fA x c=false:=cR hb0 (by simp only[fA,kA,hw,bC]<;>first|rfl|ac_rfl)
  have hq:=aem (b:=b) hk
  exact aO X [6,7] rfl (by trivial) (aq (aj rfl (by and_intros<;>first|exact⟨⟩| (rw[hq.1];done)| (rw[hq.2];done))))
 ·have hk:fA x c=true:=cL hb0 (by simp only[fA,kA,hw,bC]<;>first|rfl|ac_rfl)
  obtain⟨hok,hc0,hc1⟩:=sU hk
  have hdz:=Hq hk
  have hq:=PW (b:=b) hk
  refine au (aa ?_)
  have t1:=(zz (x.ah.getD c.toNat (aR .bR)) b hdz hb)
  exact bn X [] [(33,⟨true,cx t1⟩)] [1,6,8,9,10] [] rfl (by(with_reducible and_intros)<;>first|exact⟨⟩|exact t1| (intros;omega)) (aO X [6,8,10] rfl (by and_intros<;>first|exact⟨⟩| (intros;omega)) (aO X [6,7] rfl (by trivial) (aq (aj rfl (by and_intros<;>first|exact⟨⟩| (rw[hq.1];rfl;done)| (rw[hq.2];rfl;done))))))
theorem DK(x:bN)(c:Int)(h0:wB x):So 171 [.agg (bw x),aI c] [.agg (bw (PR x c)),aU (fA x c)]:=by
 refine aF X call171 func171 ntmps171 rfl rfl ?_
 intro zb
 refine b7 0 1 rfl rfl (fun hl1=> ?_)
 refine b7 0 2 rfl rfl (fun qS=> ?_)
 have hdv:=EO h0
 have hsv:=yM h0
 have hw:af.wrap ((x.ah.length:Int)-1)=(x.ah.length:Int)-1:=dm (by omega)
 refine av X [1,2,4] rfl (aM X [] [(8,⟨true,[.agg (bw x)]⟩)] [1,2,4,6] [] rfl (by(with_reducible and_intros)<;>first|exact⟨⟩|exact(fC x h0)) (aa (aa ?_)))
 have t1:=(bD c 0 (af.wrap ((x.ah.length:Int)-1)))
 refine bn X [] [(10,⟨false,[aU (okW x)]⟩),(18,⟨false,cx t1⟩)] [1,2,4,6,20] [] rfl (by(with_reducible and_intros);(iterate 2 all_goals try first|exact⟨⟩|exact(dL x)|exact fun _=>t1)) ?_
 refine an rfl ?_ ?_<;>intro hb0
 ·have hk:fA x c=false:=cR hb0 (by simp only[fA,kA,hw,bC]<;>first|rfl|ac_rfl)
  have hq:=aeo hk
  exact aO X [4,5] rfl (by trivial) (aq (aj rfl (by and_intros<;>first|exact⟨⟩| (rw[hq];done)| (rw[hk];done))))
 ·have hk:fA x c=true:=cL hb0 (by simp only[fA,kA,hw,bC]<;>first|rfl|ac_rfl)
  obtain⟨hok,hc0,hc1⟩:=sU hk
  have hdz:=Hq hk
  have hq:=Yb hk
  exact au (aa (aQ X [] [(30,⟨true,[.agg (dj (VI (x.ah.getD c.toNat (aR .bR))))]⟩)] [4,6] [] 1023 0 MO (by kernel_rfl) rfl (by kernel_rfl) (by(with_reducible and_intros)<;>first|exact⟨⟩|exact(DJ (x.ah.getD c.toNat (aR .bR)) hdz)| (intros;omega)) (aO X [4,5] rfl (by trivial) (aq (aj rfl (by and_intros<;>first|exact⟨⟩| (rw[hq];rfl;done)| (rw[hk];done)))))))
theorem Be(x:bN)(i b:Int)(h0:wB x):So 172 [.agg (bw x),aI i,aI b] [.agg (bw (SY x i b)),aU (vN x i b)]:=by
 refine aF X call172 func172 ntmps172 rfl rfl ?_
 intro zb
 refine b7 0 1 rfl rfl (fun hl1=> ?_)
 refine b7 0 2 rfl rfl (fun qS=> ?_)
 have hdv:=EO h0
 have hsv:=yM h0
 refine av X [1,2,3,6] rfl (aM X [] [(10,⟨true,[.agg (bw x)]⟩)] [1,2,3,6,8] [] rfl (by(with_reducible and_intros)<;>first|exact⟨⟩|exact(fC x h0)) (aa (aa ?_)))
 have t1:=(bD i 0 (af.wrap ((x.aG.length:Int)-1)))
 refine bn X [] [(12,⟨false,[aU (okW x)]⟩),(20,⟨false,cx t1⟩),(25,⟨false,[aU (inr b 0 3)]⟩)] [1,2,6,8,27] [] rfl (by(with_reducible and_intros);(iterate 3 all_goals try first|exact⟨⟩|exact(dL x)|exact fun _=>t1|exact fun _=>(bD b 0 3))) ?_
 refine an rfl ?_ ?_<;>intro hb0
 ·have hk:vN x i b=false:=cR hb0 (by simp only[vN,bC]<;>first|rfl|ac_rfl)
  have hq:=aer hk
  exact aO X [6,7] rfl (by trivial) (aq (aj rfl (by and_intros<;>first|exact⟨⟩| (rw[hq];done)| (rw[hk];done))))
 ·have hk:vN x i b=true:=cL hb0 (by simp only[vN,bC]<;>first|rfl|ac_rfl)
  have hcb:=VJ hk
  have hq:=Yd hk
  exact au (aO X [6,8] rfl (by and_intros<;>first|exact⟨⟩| (intros;omega)) (aO X [6,7] rfl (by trivial) (aq (aj rfl (by and_intros<;>first|exact⟨⟩| (rw[hq];rfl;done)| (rw[hk];done))))))
theorem FA(x:bN)(e:Ev)(hR:wR x)(hb:e.body.length≤1048576):So 103 [.agg (bw x), .agg (oT e)] [.agg (bw (DU x e)),aU (rK x e)]:=by
 refine aF X call103 func103 ntmps103 rfl rfl ?_
 intro zb
 have h0:=hR.1
 refine b7 0 1 rfl rfl (fun hl1=> ?_)
 refine b7 0 2 rfl rfl (fun qS=> ?_)
 have hdv:=EO h0
 have hsv:=yM h0
 have hw:af.wrap ((x.ah.length:Int)-1)=(x.ah.length:Int)-1:=dm (by omega)
 refine av X [2,3,4] rfl (aa (aM X [] [(8,⟨false,[aU (okW x)]⟩)] [2,3,4,9] [] rfl (by(with_reducible and_intros)<;>first|exact⟨⟩|exact(dL x)) ?_))
 refine an rfl ?_ ?_<;>intro hb0
 ·have hok:okW x=false:=by simpa using hb0
  have hv:=ajZ (e:=e) hok
  exact aM X [] [(11,⟨true,[.agg (bw x)]⟩)] [4,5] [] rfl (by(with_reducible and_intros)<;>first|exact⟨⟩|exact(fC x h0)) (aq (aj rfl (by and_intros<;>first|exact⟨⟩| (rw[hv.1];done)| (rw[hv.2];done))))
 ·have hok:okW x=true:=by simpa using hb0
  refine au (aa (av X [2,3,4,13] rfl (aB (av X [2,3,4,13,14] rfl ?_))))
  refine an rfl ?_ ?_<;>intro bM
  ·try simp only[bG]at bM
   have hv:=apc hok bM
   exact aa (aQ X [] [(17,⟨true,[.agg (bw (gr x))]⟩)] [4,5] [] 95 3 MO (by kernel_rfl) rfl (by kernel_rfl) (by(with_reducible and_intros)<;>first|exact⟨⟩|exact(yW x hR)) (aq (aj rfl (by and_intros<;>first|exact⟨⟩| (rw[hv.1];done)| (rw[hv.2];done)))))
  ·try simp only[bG]at bM
   refine av X [2,3,4,13,21] rfl ?_
   refine an rfl ?_ ?_<;>intro cS
   ·try simp only[bG]at cS
    have hv:=apd hok cS
    refine aa ?_
    have t1:=(Bd x e.node e.body h0 hb)
    exact bn X [] [(28,⟨true,cx t1⟩)] [4,5] [] rfl (by(with_reducible and_intros)<;>first|exact⟨⟩|exact t1) (aq (aj rfl (by and_intros<;>first|exact⟨⟩| (rw[hv.1];done)| (rw[hv.2];done))))
   ·try simp only[bG]at cS
    refine av X [2,3,4,13,31] rfl ?_
    refine an rfl ?_ ?_<;>intro iZ
    ·try simp only[bG]at iZ
     have hv:=ape hok iZ
     exact aM X [] [(36,⟨true,[.agg (bw (PR x e.node)),aU (fA x e.node)]⟩)] [4,5] [] rfl (by(with_reducible and_intros)<;>first|exact⟨⟩|exact(DK x e.node h0)) (aq (aj rfl (by and_intros<;>first|exact⟨⟩| (rw[hv.1];done)| (rw[hv.2];done))))
    ·try simp only[bG]at iZ
     refine av X [2,3,4,13,39] rfl ?_
     refine an rfl ?_ ?_<;>intro qD
     ·try simp only[bG]at qD
      have hv:=apf hok qD
      refine aa ?_
      have t1:=(Be x e.node e.value h0)
      exact bn X [] [(46,⟨true,cx t1⟩)] [4,5] [] rfl (by(with_reducible and_intros)<;>first|exact⟨⟩|exact t1) (aq (aj rfl (by and_intros<;>first|exact⟨⟩| (rw[hv.1];done)| (rw[hv.2];done))))
     ·try simp only[bG]at qD
      refine av X [2,3,4,49] rfl ?_
      refine an rfl ?_ ?_<;>intro CV
      ·try simp only[bG]at CV
       have hv:=apg hok CV
       refine aM X [] [(52,⟨true,[.agg (bw x)]⟩)] [2,3,4,6] [] rfl (by(with_reducible and_intros)<;>first|exact⟨⟩|exact(fC x h0)) (aa (aa ?_))
       have t1:=(bD e.node 0 (af.wrap ((x.ah.length:Int)-1)))
       refine bn X [] [(59,⟨false,cx t1⟩)] [2,3,4,6,60] [] rfl (by(with_reducible and_intros)<;>first|exact⟨⟩|exact t1) ?_
       refine an rfl ?_ ?_<;>intro LR
       ·have hh:kA x e.node=false:=by rw[hw]at LR;unfold kA;simpa using LR
        have hk:fA x e.node=false:=by rw[Fy hok];exact hh
        have hq:=aep hk
        exact aO X [4,5] rfl (by trivial) (aq (aj rfl (by and_intros<;>first|exact⟨⟩| (rw[hv.1,hq];done)| (rw[hv.2,hk];done))))
       ·have hh:kA x e.node=true:=by rw[hw]at LR;unfold kA;simpa using LR
        have hk:fA x e.node=true:=by rw[Fy hok];exact hh
        obtain⟨_,hc0,hc1⟩:=sU hk
        have hdz:=Hq hk
        have hq:=Yc hk
        exact au (aa (aQ X [] [(72,⟨true,[.agg (dj (PO (x.ah.getD e.node.toNat (aR .bR))))]⟩)] [4,6] [] 4095 0 MO (by kernel_rfl) rfl (by kernel_rfl) (by(with_reducible and_intros)<;>first|exact⟨⟩|exact(vg (x.ah.getD e.node.toNat (aR .bR)) hdz)| (intros;omega)) (aO X [4,5] rfl (by trivial) (aq (aj rfl (by and_intros<;>first|exact⟨⟩| (rw[hv.1,hq];rfl;done)| (rw[hv.2,hk];done)))))))
      ·try simp only[bG]at CV
       have hv:=aph hok bM cS iZ qD CV
       exact au (aM X [] [(76,⟨true,[.agg (bw x)]⟩)] [4,5] [] rfl (by(with_reducible and_intros)<;>first|exact⟨⟩|exact(fC x h0)) (aq (aj rfl (by and_intros<;>first|exact⟨⟩| (rw[hv.1];done)| (rw[hv.2];done)))))
end
section
set_option maxRecDepth 100000
theorem FB(r:Int)(h:1≤r∧r≤64):So 93 [aI r] [.agg (fK (⟨r,[]⟩:mD))]:=by
 refine eA X2 call93 func93 rfl rfl (by decide) ntmps93 (by simp) ?_
 intro zb
 refine av X2 [0,2] rfl (aa (aM X2 [] [(4,⟨false,[aU (inr r 1 64)]⟩)] [0,2,5] [] rfl (by(with_reducible and_intros)<;>first|exact⟨⟩|exact(bD r 1 64)) ?_))
 refine an rfl ?_ ?_<;>intro hb0
 ·try simp only[bG]at hb0
  omega
 ·try simp only[bG]at hb0
  exact au (aO X2 [2] rfl (by trivial) (aq (aj rfl ⟨rfl,rfl,⟨⟩⟩)))
theorem Hw(i f k s:Int)(h1:0≤i∧i≤7)(h2:0≤f∧f≤7)(h3:i≠f)(h4:1≤k∧k≤2147483646):So 97 [aI i,aI f,aI k,aI s] [.agg (cM (⟨i,f,k,s,[],0,[],0⟩:gI))]:=by
 refine eA X2 call97 func97 rfl rfl (by decide) ntmps97 (by simp) ?_
 intro zb
 refine av X2 [0,1,2,3,8] rfl (aa (aM X2 [] [(12,⟨false,[aU (inr i 0 7&&inr f 0 7&& !(i==f)&&jl k)]⟩)] [0,1,2,3,8,13] [] rfl (by(with_reducible and_intros)<;>first|exact⟨⟩|exact(Ey i f k)) ?_))
 refine an rfl ?_ ?_<;>intro hb0
 ·try simp only[bG]at hb0
  have hq:jl k=true:=by unfold jl;rw[dS];exact h4
  rw[hq]at hb0
  simp at hb0
  omega
 ·exact au (aO X2 [8] rfl (by trivial) (aq (aj rfl ⟨rfl,rfl,rfl,rfl,rfl,rfl,rfl,rfl,⟨⟩⟩)))
theorem Jh(rows s p seed:Int)(hr:1≤rows∧rows≤64)(hs:2≤s∧s≤4)(hp:1≤p∧p≤4):So 45 [aI rows,aI s,aI p,aI seed] [.agg (bw (aeK rows s.toNat p.toNat seed))]:=by
 refine eA X2 call45 func45 rfl rfl (by decide) ntmps45 (by simp) ?_
 intro zb
 refine av X2 [0,1,2,3,8] rfl (aa (aM X2 [] [(14,⟨false,[aU (inr rows 1 64)]⟩),(18,⟨false,[aU (dG s)]⟩),(23,⟨false,[aU (inr p 1 4)]⟩)] [0,1,2,3,8,25] [] rfl (by(with_reducible and_intros);(iterate 3 all_goals try first|exact⟨⟩|exact(bD rows 1 64)|exact fun _=>(iQ s)|exact fun _=>(bD p 1 4))) ?_))
 refine an rfl ?_ ?_<;>intro hb0
 ·try simp only[bG]at hb0
  simp[dG,inr]at hb0
  omega
 ·refine au (aa ?_)
  have t1:=(oc 1 (kh seed [197]))
  refine bn X2 [(29,63)] [(29,⟨true,[.agg (fK (⟨rows,[]⟩:mD))]⟩),(32,⟨false,[aI (kh seed [197])]⟩),(33,⟨false,cx t1⟩)] [0,1,2,3,8,9] [] rfl (by(repeat' with_reducible first|exact bH|refine bS ?_ ?_|apply bh);(iterate 3 all_goals try first|exact(FB rows (by first|assumption|omega| (simp;done)| (simp;omega)))|exact(cJ seed [197] (by first|assumption|omega| (simp;done)| (simp;omega)))|exact t1);all_goals first|exact⟨rfl,cE _ (by decide)⟩) ?_
  rw[Jy (gB _ _).1]
  refine eo 9 1 61 .cu rfl (eo 9 2 62 .bR rfl (aa (av X2 [0,1,2,3,8,9,10] rfl ?_)))
  refine aB (aP (fun k=>k≤s.toNat) (fun k:Nat=> [(10, .one ((aI k)))]) (fun k=> [(61, .arr .cu (Jg rows k))]) (fun k=>s.toNat-k) 0 (fun k=>rfl) (aE _) rfl ?_)
  intro k hk
  have hle:=P0 rows k
  refine aa (av X2 [0,1,2,3,8,9,10,38] rfl ?_)
  refine an rfl ?_ ?_<;>intro bM
  ·try simp only[bG]at bM
   have hns:=Fo (id:=(k:Int)) (rows:=rows) (by omega) hr
   refine au (aa (aB (aQ X2 [(47,61)] [(45,⟨true,[.agg (dF (newS (k:Int) rows 0))]⟩),(500046,⟨true,[]⟩)] [0,1,2,3,8,9,10] [] 63 0 MO (by kernel_rfl) rfl (by kernel_rfl) (by(repeat' with_reducible first|exact bH|refine bS ?_ ?_|apply bh)<;>first|exact(wU (k:Int) rows 0)|exact rfl|exact⟨rfl,cE _ (by decide)⟩| (simp only[gR,maxLen,lens];omega)) ?_)))
   rw[hns]
   refine bU X2 [0,1,2,3,8,9,10] rfl ?_
   refine⟨k+1,by omega,by omega,?_⟩
   rw[bZ _ k rfl (by omega),Ti]
   try rfl
  ·try simp only[bG]at bM
   have hks:s.toNat=k:=by omega
   refine aW (aa (av X2 [2,3,8,9,11] rfl ?_))
   refine aB (aP (fun k1=>k1≤(2*p.toNat)) (fun k1:Nat=> [(11, .one ((aI k1)))]) (fun k1=> [(62, .arr .bR (zA seed k1))]) (fun k1=>(2*p.toNat)-k1) 0 (fun k1=>rfl) (aE _) rfl ?_)
   intro k1 hk1
   have IX:=P1 seed k1
   have hp2:af.wrap (2*p)=2*p:=dm (by omega)
   refine aa (av X2 [2,3,8,9,11,52] rfl ?_)
   refine an rfl ?_ ?_<;>intro cS
   ·try simp only[bG]at cS
    rw[hp2]at cS
    have hkr:=wg (gB seed [199,(k1:Int).tdiv 2])
    have hx:(af.wrap (aH af.bits (k1:Int)^^^aH af.bits 1).toNat)=((k1^^^1:Nat):Int):=I1 k1 (by omega)
    have hxl:=Ax k1 8 (by omega) (by decide)
    have hxn:=P2 k1
    have hxm:=Jy (gB seed [199,(k1:Int).tdiv 2]).1
    have oR:af.wrap ((k1:Int).tdiv 2)=(k1:Int).tdiv 2:=by rw[tH (by omega)];exact dm (by omega)
    refine au (aa (aB (aa ?_)))
    have t1:=(cJ seed [199,af.wrap ((k1:Int).tdiv 2)] (by first|assumption|omega| (simp;done)| (simp;omega)))
    have t2:=(oc 1 (kh seed [199,af.wrap ((k1:Int).tdiv 2)]))
    refine bn X2 [] [(59,⟨false,cx t1⟩),(60,⟨false,cx t2⟩)] [2,3,8,9,11,12] [] rfl (by(repeat' with_reducible first|exact bH|refine bS ?_ ?_|apply bh);(iterate 2 all_goals try first|exact t1|exact t2);all_goals first| (intros;omega)|exact⟨rfl,cE _ (by decide)⟩) ?_
    rw[oR,hxm]
    have t1:=(Hw (k1:Int) (af.wrap (aH af.bits (k1:Int)^^^aH af.bits 1).toNat) (F6 (kh seed [199,(k1:Int).tdiv 2])) (kh seed [211,(k1:Int)]) (by omega) (by rw[hx];omega) (by rw[hx];omega) (by omega))
    refine aQ X2 [(74,62)] [(70,⟨false,[aI (kh seed [211,(k1:Int)])]⟩),(71,⟨false,cx t1⟩),(72,⟨true,[.agg (dj (⟨(⟨(k1:Int),(af.wrap (aH af.bits (k1:Int)^^^aH af.bits 1).toNat),(F6 (kh seed [199,(k1:Int).tdiv 2])),(kh seed [211,(k1:Int)]),[],0,[],0⟩:gI),(⟨(k1:Int),(af.wrap (aH af.bits (k1:Int)^^^aH af.bits 1).toNat),(F6 (kh seed [199,(k1:Int).tdiv 2])),(kh seed [211,(k1:Int)]),[],0,[],0⟩:gI)⟩:bR))]⟩)] [2,3,8,9,11] [] 20479 2 MO (by kernel_rfl) rfl (by kernel_rfl) (by(repeat' with_reducible first|exact bH|refine bS ?_ ?_|apply bh);(iterate 3 all_goals try first|exact(cJ seed [211,(k1:Int)] (by first|assumption|omega| (simp;done)| (simp;omega)))|exact t1|exact(qM (⟨(k1:Int),(af.wrap (aH af.bits (k1:Int)^^^aH af.bits 1).toNat),(F6 (kh seed [199,(k1:Int).tdiv 2])),(kh seed [211,(k1:Int)]),[],0,[],0⟩:gI) ⟨aE _,aE _⟩));all_goals first|exact rfl|exact⟨rfl,cE _ (by decide)⟩| (simp only[gR,maxLen,lens];omega)) ?_
    rw[hx]
    refine bU X2 [2,3,8,9,11] rfl ?_
    refine⟨k1+1,by omega,by omega,?_⟩
    rw[bZ _ k1 rfl (by omega),Tj]
    try rfl
   ·try simp only[bG]at cS
    rw[hp2]at cS
    have S2:2*p.toNat=k1:=by omega
    exact aW (aO X2 [8] rfl (by trivial) (aq (aj rfl ⟨rfl,by rw[hks];rfl,by rw[←S2];rfl,rfl,rfl,rfl,rfl,rfl,rfl,rfl,⟨⟩⟩)))
end
section
set_option maxRecDepth 100000
theorem kC(l:List (List jE))(hl:l.length≤1048576)(hs0:(l.map aL).sum≤1048576):So 116 [.a (.sl (.sl .jE) l)] [.a (.sl .jE l.flatten)]:=by
 refine aF X call116 func116 ntmps116 rfl rfl ?_
 intro zb
 refine av X [0] rfl (av X [0,3] rfl (aa (av X [0,3,9,10,11] rfl ?_)))
 refine aB (aP (fun k=>k≤l.length) (fun k:Nat=> [(3, .one ((aI ((l.take k).map aL).sum))),(11, .one ((aI k)))]) (fun k=> []) (fun k=>l.length-k) 0 (fun k=>rfl) (aE _) rfl ?_)
 intro k hk
 have hle:=kE l aL k
 refine av X [0,3,9,10,11,12] rfl ?_
 refine aa (an rfl ?_ ?_)<;>intro hb0
 ·try simp only[bG]at hb0
  have hs:=Ih l (aR (.sl .jE)) k hb0
  have Pd:=kE l aL (k+1)
  rw[hs]at Pd
  refine au (aa (aB (aO X [0,3,5,9,10,11] rfl (by and_intros<;>first|exact⟨⟩| (intros;omega)) (aO X [0,3,9,10,11] rfl (by trivial) (av X [0,3,9,10,11,20] rfl ?_)))))
  refine an rfl ?_ ?_<;>intro bM
  ·try simp only[bG]at bM
   rw[dm (by omega)]at bM
   omega
  ·try simp only[bG]at bM
   refine au (bU X [0,3,9,10,11] rfl ?_)
   refine⟨k+1,by omega,by omega,?_⟩
   rw[bZ _ k rfl (by omega),hs]
   rw[dm (by simp only[Int.toNat_natCast];omega)]
   try rfl
 ·try simp only[bG]at hb0
  rw[aD hb0]
  refine aW (aM X [] [(24,⟨true,[.a (.sl .jE [])]⟩),(300024,⟨true,[]⟩)] [0,6] [] rfl (by(with_reducible and_intros)<;>first|exact⟨⟩|exact(lq _ (by omega))) (aa (av X [6,25,26,27] rfl ?_)))
  refine aB (aP (fun k1=>k1≤l.length) (fun k1:Nat=> [(27, .one ((aI k1)))]) (fun k1=> [(24, .arr .jE (l.take k1).flatten)]) (fun k1=>l.length-k1) 0 (fun k1=>rfl) (aE _) rfl ?_)
  intro k1 hk1
  have IX:=uR l k1
  refine av X [6,25,26,27,28] rfl ?_
  refine aa (an rfl ?_ ?_)<;>intro cS
  ·try simp only[bG]at cS
   have hs1:=Ex l (aR (.sl .jE)) k1 cS
   have Pd:=uR l (k1+1)
   rw[hs1,bf]at Pd
   refine au (aa (aB (aO X [6,8,25,26,27] rfl (by and_intros<;>first|exact⟨⟩| (intros;omega)) (bn X [(33,24)] [] [6,25,26,27] [] rfl (by and_intros<;>first|exact⟨⟩|exact rfl| (simp only[gR,maxLen,lens];omega)) (bU X [6,25,26,27] rfl ?_)))))
   refine⟨k1+1,by omega,by omega,?_⟩
   rw[bZ _ k1 rfl (by omega),hs1]
   try rfl
  ·try simp only[bG]at cS
   exact aW (av X [2] rfl (aq (aj rfl ⟨by rw[aD cS],⟨⟩⟩)))
theorem sI(c s r:Int):So 200 [aI c,aI s,aI r] [aU (nJ c s r)]:=by
 refine aF X call200 func200 ntmps200 rfl rfl ?_
 intro zb
 exact av X [0,1,2] rfl (aM X [] [(8,⟨false,[aU (inr c 0 8)]⟩),(11,⟨false,[aU (dG s)]⟩),(15,⟨false,[aU (inr r 1 64)]⟩)] [6] [] rfl (by(with_reducible and_intros);(iterate 3 all_goals try first|exact⟨⟩|exact(bl c 0 8)|exact fun _=>(ff s)|exact fun _=>(bl r 1 64))) (aq (aj rfl ⟨(congrArg dO (by simp only[nJ,bC]<;>first|rfl|ac_rfl)),⟨⟩⟩)))
theorem w6(r:Int):So 201 [aI r] [aI (nk r)]:=by
 refine aF X call201 func201 ntmps201 rfl rfl ?_
 intro zb
 refine av X [0] rfl (aa (aM X [] [(4,⟨false,[aU (inr r 1 64)]⟩)] [0,5] [] rfl (by(with_reducible and_intros)<;>first|exact⟨⟩|exact(bl r 1 64)) ?_))
 refine an rfl ?_ ?_<;>intro hb0
 ·try simp only[bG]at hb0
  exact av X [2] rfl (aq (aj rfl ⟨by rw[nk,if_neg (by omega)],⟨⟩⟩))
 ·try simp only[bG]at hb0
  exact au (av X [2] rfl (aq (aj rfl ⟨by rw[nk,if_pos (by omega),dm (by omega)],⟨⟩⟩)))
theorem Bu(r:Int):So 202 [aI r] [aI (nR r)]:=by
 refine aF X call202 func202 ntmps202 rfl rfl ?_
 intro zb
 refine av X [0] rfl (aa (aM X [] [(4,⟨false,[aU (inr r 1 64)]⟩)] [0,5] [] rfl (by(with_reducible and_intros)<;>first|exact⟨⟩|exact(bl r 1 64)) ?_))
 refine an rfl ?_ ?_<;>intro hb0
 ·try simp only[bG]at hb0
  exact av X [2] rfl (aq (aj rfl ⟨by rw[nR,if_neg (by omega)],⟨⟩⟩))
 ·try simp only[bG]at hb0
  exact au (aO X [2] rfl (by and_intros<;>first|exact⟨⟩| (intros;omega)) (aq (aj rfl ⟨by rw[aiB (by omega)],⟨⟩⟩)))
theorem zE(c s r:Int):So 117 [aI c,aI s,aI r] [.a (.sl .jE (wT c s r))]:=by
 refine aF X call117 func117 ntmps117 rfl rfl ?_
 intro zb
 refine av X [0,1,2] rfl (aa (aM X [] [(13,⟨false,[aU (nJ c s r)]⟩)] [0,1,2,14] [] rfl (by(with_reducible and_intros)<;>first|exact⟨⟩|exact(sI c s r)) ?_))
 refine an rfl ?_ ?_<;>intro hb0
 ·have hk0:nJ c s r=false:=by simpa using hb0
  exact av X [6] rfl (aq (aj rfl ⟨by rw[wT,hk0];rfl,⟨⟩⟩))
 ·have hk0:nJ c s r=true:=by simpa using hb0
  have hok:=yy hk0
  refine au (aO X [0,1,2,7] rfl (by and_intros<;>first|exact⟨⟩|exact rfl) (aa (av X [1,2,7,16,17] rfl ?_)))
  refine aB (aP (fun k=>k≤c.toNat) (fun k:Nat=> [(17, .one ((aI k)))]) (fun k=> [(15, .arr .jE (fm (fun a=>fm (MR r a) s.toNat) k))]) (fun k=>c.toNat-k) 0 (fun k=>rfl) (aE _) rfl ?_)
  intro k hk
  have hle:=V3 (r:=r) (s:=s) (k:=k) (by omega) (by omega)
  refine av X [1,2,7,16,17,18] rfl ?_
  refine aa (an rfl ?_ ?_)<;>intro bM
  ·try simp only[bG]at bM
   refine au (aa (aB (av X [1,2,7,8,16,17] rfl (av X [1,2,7,8,16,17,20,21] rfl ?_))))
   refine aB (aP (fun k1=>k1≤s.toNat) (fun k1:Nat=> [(21, .one ((aI k1)))]) (fun k1=> [(15, .arr .jE (fm (fun a=>fm (MR r a) s.toNat) k++fm (MR r k) k1))]) (fun k1=>s.toNat-k1) 0 (fun k1=>rfl) (aE _) (by simp[vu]) ?_)
   intro k1 hk1
   have IX:=V2 (r:=r) (s:=s) (by omega) k hk1
   refine av X [1,2,7,8,16,17,20,21,22] rfl ?_
   refine aa (an rfl ?_ ?_)<;>intro cS
   ·try simp only[bG]at cS
    have hw:af.wrap (100+(k1:Int))=100+(k1:Int):=dm (by omega)
    have hs1:fm (MR r k) (k1+1)=fm (MR r k) k1++ [⟨(k:Int),100+(k1:Int),nk r⟩]:=jT _ _
    refine au (aa (aB (av X [1,2,7,8,9,16,17,20,21] rfl (bn X [(32,15)] [(29,⟨false,[aI (nk r)]⟩)] [1,2,7,8,16,17,20,21] [] rfl (by(repeat' with_reducible first|exact bH|refine bS ?_ ?_|apply bh)<;>first|exact(w6 r)|exact rfl|exact⟨rfl,cE _ (by decide)⟩| (simp only[gR,maxLen,lens];omega)) ?_))))
    refine bU X [1,2,7,8,16,17,20,21] rfl ?_
    refine⟨k1+1,by omega,by omega,?_⟩
    rw[bZ _ k1 rfl (by omega),hw,bO, ←hs1]
    try rfl
   ·try simp only[bG]at cS
    have hs:fm (fun a=>fm (MR r a) s.toNat) (k+1)=fm (fun a=>fm (MR r a) s.toNat) k++fm (MR r k) s.toNat:=jT _ _
    rw[show k1=s.toNat by omega, ←hs]
    refine aW (bU X [1,2,7,16,17] rfl ?_)
    refine⟨k+1,by omega,by omega,?_⟩
    rw[bZ _ k rfl (by omega)]
    try rfl
  ·try simp only[bG]at bM
   exact aW (av X [6] rfl (aq (aj rfl ⟨by rw[wT,if_pos hk0,show c.toNat=k by omega],⟨⟩⟩)))
theorem w7(s r:Int):So 118 [aI s,aI r] [.a (.sl .jE (pT s r))]:=by
 refine aF X call118 func118 ntmps118 rfl rfl ?_
 intro zb
 refine av X [0,1] rfl (aa (aM X [] [(10,⟨false,[aU (nJ 0 s r)]⟩)] [0,1,11] [] rfl (by(with_reducible and_intros)<;>first|exact⟨⟩|exact(sI 0 s r)) ?_))
 refine an rfl ?_ ?_<;>intro hb0
 ·have hk0:nJ 0 s r=false:=by simpa using hb0
  exact av X [4] rfl (aq (aj rfl ⟨by rw[pT,hk0];rfl,⟨⟩⟩))
 ·have hk0:nJ 0 s r=true:=by simpa using hb0
  have hok:=yy hk0
  refine au (aO X [0,1,5] rfl (by and_intros<;>first|exact⟨⟩|exact rfl) (aa (av X [0,1,5,13,14] rfl ?_)))
  refine aB (aP (fun k=>k≤s.toNat) (fun k:Nat=> [(14, .one ((aI k)))]) (fun k=> [(12, .arr .jE (fm (fun a=>fm (FQ r a) s.toNat) k))]) (fun k=>s.toNat-k) 0 (fun k=>rfl) (aE _) rfl ?_)
  intro k hk
  have hle:=V5 (r:=r) (s:=s) (k:=k) (by omega) hk
  refine av X [0,1,5,13,14,15] rfl ?_
  refine aa (an rfl ?_ ?_)<;>intro bM
  ·try simp only[bG]at bM
   refine au (aa (aB (av X [0,1,5,6,13,14] rfl (av X [0,1,5,6,13,14,17,18] rfl ?_))))
   refine aB (aP (fun k1=>k1≤s.toNat) (fun k1:Nat=> [(18, .one ((aI k1)))]) (fun k1=> [(12, .arr .jE (fm (fun a=>fm (FQ r a) s.toNat) k++fm (FQ r k) k1))]) (fun k1=>s.toNat-k1) 0 (fun k1=>rfl) (aE _) (by simp[vu]) ?_)
   intro k1 hk1
   have IX:=V4 (r:=r) (s:=s) (by omega) k hk1
   refine av X [0,1,5,6,13,14,17,18,19] rfl ?_
   refine aa (an rfl ?_ ?_)<;>intro cS
   ·try simp only[bG]at cS
    refine au (aa (aB (av X [0,1,5,6,7,13,14,17,18] rfl (av X [0,1,5,6,7,13,14,17,18,23] rfl ?_))))
    refine an rfl ?_ ?_<;>intro iZ
    ·try simp only[bG]at iZ
     have hw:af.wrap (100+(k1:Int))=100+(k1:Int):=dm (by omega)
     have hwk:af.wrap (100+(k:Int))=100+(k:Int):=dm (by omega)
     have hs1:fm (FQ r k) (k1+1)=fm (FQ r k) k1++ [⟨100+(k:Int),100+(k1:Int),nk r⟩]:=by rw[jT,FQ,if_neg (by omega)]
     refine bn X [(33,12)] [(30,⟨false,[aI (nk r)]⟩)] [0,1,5,6,13,14,17,18] [] rfl (by(repeat' with_reducible first|exact bH|refine bS ?_ ?_|apply bh)<;>first|exact(w6 r)|exact rfl|exact⟨rfl,cE _ (by decide)⟩| (simp only[gR,maxLen,lens];omega)) ?_
     refine bU X [0,1,5,6,13,14,17,18] rfl ?_
     refine⟨k1+1,by omega,by omega,?_⟩
     rw[bZ _ k1 rfl (by omega),hw,hwk,bO, ←hs1]
     try rfl
    ·try simp only[bG]at iZ
     have hs1:fm (FQ r k) (k1+1)=fm (FQ r k) k1:=by rw[jT,FQ,if_pos (by omega),dA]
     refine au (bU X [0,1,5,6,13,14,17,18] rfl ?_)
     refine⟨k1+1,by omega,by omega,?_⟩
     rw[bZ _ k1 rfl (by omega),hs1]
     try rfl
   ·try simp only[bG]at cS
    have hs:fm (fun a=>fm (FQ r a) s.toNat) (k+1)=fm (fun a=>fm (FQ r a) s.toNat) k++fm (FQ r k) s.toNat:=jT _ _
    rw[show k1=s.toNat by omega, ←hs]
    refine aW (bU X [0,1,5,13,14] rfl ?_)
    refine⟨k+1,by omega,by omega,?_⟩
    rw[bZ _ k rfl (by omega)]
    try rfl
  ·try simp only[bG]at bM
   exact aW (av X [4] rfl (aq (aj rfl ⟨by rw[pT,if_pos hk0,show s.toNat=k by omega],⟨⟩⟩)))
theorem Bv(c s r n:Int):So 119 [aI c,aI s,aI r,aI n] [.a (.sl .jE (rT c s r n))]:=by
 refine aF X call119 func119 ntmps119 rfl rfl ?_
 intro zb
 refine av X [0,1,2,3] rfl (aa (aM X [] [(15,⟨false,[aU (nJ c s r)]⟩),(19,⟨false,[aU (inr n 0 8)]⟩)] [0,1,2,3,21] [] rfl (by(with_reducible and_intros);(iterate 2 all_goals try first|exact⟨⟩|exact(sI c s r)|exact fun _=>(bl n 0 8))) ?_))
 refine an rfl ?_ ?_<;>intro hb0
 ·have hk0:YB c s r n=false:=cR hb0 (by simp only[YB,bC]<;>first|rfl|ac_rfl)
  exact av X [8] rfl (aq (aj rfl ⟨by rw[rT,hk0];rfl,⟨⟩⟩))
 ·have hk0:YB c s r n=true:=cL hb0 (by simp only[YB,bC]<;>first|rfl|ac_rfl)
  have hok:=yy (akF hk0)
  have hn8:=akG hk0
  have oR:af.wrap (2*n)=2*n:=dm (by omega)
  refine au (aO X [0,1,2,3,9] rfl (by and_intros<;>first|exact⟨⟩|exact rfl) (aa (av X [1,2,3,9,23,24] rfl ?_)))
  refine aB (aP (fun k=>k≤c.toNat) (fun k:Nat=> [(24, .one ((aI k)))]) (fun k=> [(22, .arr .jE (fm (fun a=>fm (mC s r a) (2*n).toNat) k))]) (fun k=>c.toNat-k) 0 (fun k=>rfl) (aE _) rfl ?_)
  intro k hk
  have hle:=V8 (r:=r) (s:=s) (n:=n) (k:=k) (by omega) (by omega) (by omega)
  refine av X [1,2,3,9,23,24,25] rfl ?_
  refine aa (an rfl ?_ ?_)<;>intro bM
  ·try simp only[bG]at bM
   refine au (aa (aB (av X [1,2,3,9,10,23,24] rfl (av X [1,2,3,9,10,23,24,28,29] rfl ?_))))
   refine aB (aP (fun k1=>k1≤(2*n).toNat) (fun k1:Nat=> [(29, .one ((aI k1)))]) (fun k1=> [(22, .arr .jE (fm (fun a=>fm (mC s r a) (2*n).toNat) k++fm (mC s r k) k1))]) (fun k1=>(2*n).toNat-k1) 0 (fun k1=>rfl) (aE _) (by simp[vu]) ?_)
   intro k1 hk1
   have IX:=V7 (r:=r) (s:=s) (by omega) k (k:=k1) (by omega)
   refine av X [1,2,3,9,10,23,24,28,29,30] rfl ?_
   refine aa (an rfl ?_ ?_)<;>intro cS
   ·try simp only[bG]at cS
    rw[oR]at cS
    refine au (aa (aB (av X [1,2,3,9,10,23,24,28,29,31,32] rfl ?_)))
    refine aB (aP (fun k2=>k2≤s.toNat) (fun k2:Nat=> [(32, .one ((aI k2)))]) (fun k2=> [(22, .arr .jE (fm (fun a=>fm (mC s r a) (2*n).toNat) k++fm (mC s r k) k1++fm (rEl r k) k2))]) (fun k2=>s.toNat-k2) 0 (fun k2=>rfl) (aE _) (by simp[vu]) ?_)
    intro k2 hk2
    have Pd:=V6 (r:=r) (s:=s) (by omega) k (k:=k2) hk2
    refine av X [1,2,3,9,10,23,24,28,29,31,32,33] rfl ?_
    refine aa (an rfl ?_ ?_)<;>intro iZ
    ·try simp only[bG]at iZ
     have hw:af.wrap (100+(k2:Int))=100+(k2:Int):=dm (by omega)
     have hs2:fm (rEl r k) (k2+1)=fm (rEl r k) k2++ [⟨(k:Int),100+(k2:Int),nR r⟩,⟨100+(k2:Int),(k:Int),24⟩]:=jT _ _
     refine au (aa (aB (av X [1,2,3,9,10,11,23,24,28,29,31,32] rfl (bn X [(47,22)] [(40,⟨false,[aI (nR r)]⟩)] [1,2,3,9,10,23,24,28,29,31,32] [] rfl (by(repeat' with_reducible first|exact bH|refine bS ?_ ?_|apply bh)<;>first|exact(Bu r)|exact rfl|exact⟨rfl,cE _ (by decide)⟩| (simp only[gR,maxLen,lens];omega)) ?_))))
     refine bU X [1,2,3,9,10,23,24,28,29,31,32] rfl ?_
     refine⟨k2+1,by omega,by omega,?_⟩
     rw[bZ _ k2 rfl (by omega),hw,bO, ←hs2]
     try rfl
    ·try simp only[bG]at iZ
     have hs1:fm (mC s r k) (k1+1)=fm (mC s r k) k1++fm (rEl r k) s.toNat:=jT _ _
     rw[show k2=s.toNat by omega,bO, ←hs1]
     refine aW (bU X [1,2,3,9,10,23,24,28,29] rfl ?_)
     refine⟨k1+1,by omega,by omega,?_⟩
     rw[bZ _ k1 rfl (by omega)]
     try rfl
   ·try simp only[bG]at cS
    rw[oR]at cS
    have hs:fm (fun a=>fm (mC s r a) (2*n).toNat) (k+1)=fm (fun a=>fm (mC s r a) (2*n).toNat) k++fm (mC s r k) (2*n).toNat:=jT _ _
    rw[show k1=(2*n).toNat by omega, ←hs]
    refine aW (bU X [1,2,3,9,23,24] rfl ?_)
    refine⟨k+1,by omega,by omega,?_⟩
    rw[bZ _ k rfl (by omega)]
    try rfl
  ·try simp only[bG]at bM
   exact aW (av X [8] rfl (aq (aj rfl ⟨by rw[rT,if_pos hk0,show c.toNat=k by omega],⟨⟩⟩)))
theorem zF(x:bN):So 64 [.agg (bw x)] [.a (.sl .jE (HK x))]:=by
 refine aF X call64 func64 ntmps64 rfl rfl ?_
 intro zb
 have hwl:=ae1 (x.ah.length:Int) (x.aG.length:Int) x.rows
 have hpl:=ae2 (x.aG.length:Int) x.rows
 have hrl:=ae3 (x.ah.length:Int) (x.aG.length:Int) x.rows 1
 refine av X [1] rfl (aa (aQ X [] [] [1,3,4] [] 255 0 MO (by kernel_rfl) rfl (by kernel_rfl) ⟨⟩ (aa ?_)))
 have t1:=(zE (x.ah.length:Int) (x.aG.length:Int) x.rows)
 have t2:=(Bv (x.ah.length:Int) (x.aG.length:Int) x.rows 1)
 have t3:=(kC [wT (x.ah.length:Int) (x.aG.length:Int) x.rows,pT (x.aG.length:Int) x.rows,rT (x.ah.length:Int) (x.aG.length:Int) x.rows 1] (by simp) (by simp;omega))
 exact aQ X [] [(15,⟨true,cx t1⟩),(19,⟨true,[.a (.sl .jE (pT (x.aG.length:Int) x.rows))]⟩),(24,⟨true,cx t2⟩),(26,⟨true,cx t3⟩)] [2] [] 16383 0 MO (by kernel_rfl) rfl (by kernel_rfl) (by(with_reducible and_intros);(iterate 4 all_goals try first|exact⟨⟩|exact t1|exact(w7 (x.aG.length:Int) x.rows)|exact t2|exact t3);all_goals first|exact rfl) (aq (aj rfl ⟨by simp[HK],⟨⟩⟩))
theorem yz(c s r:Int):So 153 [aI c,aI s,aI r] [aU (nJ c s r)]:=by
 refine aF X call153 func153 ntmps153 rfl rfl ?_
 intro zb
 exact av X [0,1,2] rfl (aM X [] [(8,⟨false,[aU (inr c 0 8)]⟩),(11,⟨false,[aU (dG s)]⟩),(15,⟨false,[aU (inr r 1 64)]⟩)] [6] [] rfl (by(with_reducible and_intros);(iterate 3 all_goals try first|exact⟨⟩|exact(bD c 0 8)|exact fun _=>(iQ s)|exact fun _=>(bD r 1 64))) (aq (aj rfl ⟨(congrArg dO (by simp only[nJ,bC]<;>first|rfl|ac_rfl)),⟨⟩⟩)))
theorem w8(r:Int):So 154 [aI r] [aI (nk r)]:=by
 refine aF X call154 func154 ntmps154 rfl rfl ?_
 intro zb
 refine av X [0] rfl (aa (aM X [] [(4,⟨false,[aU (inr r 1 64)]⟩)] [0,5] [] rfl (by(with_reducible and_intros)<;>first|exact⟨⟩|exact(bD r 1 64)) ?_))
 refine an rfl ?_ ?_<;>intro hb0
 ·try simp only[bG]at hb0
  exact av X [2] rfl (aq (aj rfl ⟨by rw[nk,if_neg (by omega)],⟨⟩⟩))
 ·try simp only[bG]at hb0
  exact au (av X [2] rfl (aq (aj rfl ⟨by rw[nk,if_pos (by omega),dm (by omega)],⟨⟩⟩)))
theorem Mc(a:Int)(ha:0≤a∧a≤1000000):So 239 [aI a,aI 8] [aI (YD a)]:=by
 refine aF X call239 func239 ntmps239 rfl rfl ?_
 intro zb
 refine av X [0,1] rfl (aa (aM X [] [(6,⟨false,[aU (inr a 0 1000000000000)]⟩),(10,⟨false,[aU (inr 8 1 1000000000000)]⟩)] [0,1,12] [] rfl (by(with_reducible and_intros);(iterate 2 all_goals try first|exact⟨⟩|exact(bD a 0 1000000000000)|exact fun _=>(bD 8 1 1000000000000))) ?_))
 refine an rfl ?_ ?_<;>intro hb0
 ·try simp only[nb]at hb0
  have hz:inr a 0 1000000000000=true:=by rw[dS];omega
  rw[hz]at hb0
  exact absurd hb0 (by decide)
 ·exact au (aO X [4] rfl (by and_intros<;>first|exact⟨⟩| (intros;omega)) (aq (aj rfl ⟨by rw[YD,dm (a:=a+8) (by omega),dm (a:=a+8-1) (by omega),tH (by omega),dm (by omega)];congr 3;omega,⟨⟩⟩)))
theorem Bw(r:Int):So 155 [aI r] [aI (nR r)]:=by
 refine aF X call155 func155 ntmps155 rfl rfl ?_
 intro zb
 refine av X [0] rfl (aa (aM X [] [(4,⟨false,[aU (inr r 1 64)]⟩)] [0,5] [] rfl (by(with_reducible and_intros)<;>first|exact⟨⟩|exact(bD r 1 64)) ?_))
 refine an rfl ?_ ?_<;>intro hb0
 ·try simp only[bG]at hb0
  exact av X [2] rfl (aq (aj rfl ⟨by rw[nR,if_neg (by omega)],⟨⟩⟩))
 ·try simp only[bG]at hb0
  exact au (aM X [] [(7,⟨false,[aI (YD r)]⟩)] [2] [] rfl (by(with_reducible and_intros)<;>first|exact⟨⟩|exact(Mc r (by first|assumption|omega| (simp;done)| (simp;omega)))) (aq (aj rfl ⟨by rw[nR,if_pos (by omega),dm (by unfold YD;omega)];rfl,⟨⟩⟩)))
theorem zG(c s r:Int):So 86 [aI c,aI s,aI r] [.a (.sl .jE (wT c s r))]:=by
 refine aF X call86 func86 ntmps86 rfl rfl ?_
 intro zb
 refine av X [0,1,2] rfl (aO X [0,1,2,7] rfl (by and_intros<;>first|exact⟨⟩|exact rfl) (aa (av X [0,1,2,7,8] rfl ?_)))
 refine aB (aP (fun k=>k≤c.toNat∧(k=0∨nJ c s r=true)) (fun k:Nat=> [(8, .one ((aI k)))]) (fun k=> [(10, .arr .jE (fm (fun a=>fm (MR r a) s.toNat) k))]) (fun k=>c.toNat-k) 0 (fun k=>rfl) ⟨aE _,Or.inl rfl⟩ rfl ?_)
 rintro k ⟨hk,hks⟩
 refine aa (aM X [] [(18,⟨false,[aU (nJ c s r)]⟩)] [0,1,2,7,8,19] [] rfl (by(with_reducible and_intros)<;>first|exact⟨⟩|exact fun _=>(yz c s r)) ?_)
 refine an rfl ?_ ?_<;>intro hb0
 ·have hq:(decide ((k:Int)<c)&&nJ c s r)=true:=TM hb0 (by simp only[bC]<;>first|rfl|ac_rfl)
  simp only[az,decide_eq_true_eq]at hq
  have hk0:=hq.2
  have hok:=yy hk0
  have hle:=V3 (r:=r) (s:=s) (k:=k) (by omega) (by omega)
  refine au (aa (aB (av X [0,1,2,7,8,9] rfl ?_)))
  refine aB (aP (fun k1=>k1≤s.toNat) (fun k1:Nat=> [(9, .one ((aI k1)))]) (fun k1=> [(10, .arr .jE (fm (fun a=>fm (MR r a) s.toNat) k++fm (MR r k) k1))]) (fun k1=>s.toNat-k1) 0 (fun k1=>rfl) (aE _) (by simp[vu]) ?_)
  intro k1 hk1
  have IX:=V2 (r:=r) (s:=s) (by omega) k hk1
  refine aa (av X [0,1,2,7,8,9,24] rfl ?_)
  refine an rfl ?_ ?_<;>intro bM
  ·try simp only[bG]at bM
   have hw:af.wrap (100+(k1:Int))=100+(k1:Int):=dm (by omega)
   have hs1:fm (MR r k) (k1+1)=fm (MR r k) k1++ [⟨(k:Int),100+(k1:Int),nk r⟩]:=jT _ _
   refine au (aa (aB (bn X [(35,10)] [(32,⟨false,[aI (nk r)]⟩)] [0,1,2,7,8,9] [] rfl (by(repeat' with_reducible first|exact bH|refine bS ?_ ?_|apply bh)<;>first|exact(w8 r)|exact rfl|exact⟨rfl,cE _ (by decide)⟩| (simp only[gR,maxLen,lens];omega)) ?_)))
   refine bU X [0,1,2,7,8,9] rfl ?_
   refine⟨k1+1,by omega,by omega,?_⟩
   rw[bZ _ k1 rfl (by omega),hw,bO, ←hs1]
   try rfl
  ·try simp only[bG]at bM
   have hs:fm (fun a=>fm (MR r a) s.toNat) (k+1)=fm (fun a=>fm (MR r a) s.toNat) k++fm (MR r k) s.toNat:=jT _ _
   rw[show k1=s.toNat by omega, ←hs]
   refine aW (bU X [0,1,2,7,8] rfl ?_)
   refine⟨k+1,⟨by omega,Or.inr hk0⟩,by omega,?_⟩
   rw[bZ _ k rfl (by omega)]
   try rfl
 ·have hq:(decide ((k:Int)<c)&&nJ c s r)=false:=YC hb0 (by simp only[bC]<;>first|rfl|ac_rfl)
  exact aW (av X [6] rfl (aq (aj rfl ⟨aiz hk hks hq,⟨⟩⟩)))
theorem w9(s r:Int):So 87 [aI s,aI r] [.a (.sl .jE (pT s r))]:=by
 refine aF X call87 func87 ntmps87 rfl rfl ?_
 intro zb
 refine av X [0,1] rfl (aO X [0,1,5] rfl (by and_intros<;>first|exact⟨⟩|exact rfl) (aa (av X [0,1,5,6] rfl ?_)))
 refine aB (aP (fun k=>k≤s.toNat∧(k=0∨nJ 0 s r=true)) (fun k:Nat=> [(6, .one ((aI k)))]) (fun k=> [(8, .arr .jE (fm (fun a=>fm (FQ r a) s.toNat) k))]) (fun k=>s.toNat-k) 0 (fun k=>rfl) ⟨aE _,Or.inl rfl⟩ rfl ?_)
 rintro k ⟨hk,hks⟩
 refine aa (aM X [] [(15,⟨false,[aU (nJ 0 s r)]⟩)] [0,1,5,6,16] [] rfl (by(with_reducible and_intros)<;>first|exact⟨⟩|exact fun _=>(yz 0 s r)) ?_)
 refine an rfl ?_ ?_<;>intro hb0
 ·have hq:(decide ((k:Int)<s)&&nJ 0 s r)=true:=TM hb0 (by simp only[bC]<;>first|rfl|ac_rfl)
  simp only[az,decide_eq_true_eq]at hq
  have hk0:=hq.2
  have hok:=yy hk0
  have hle:=V5 (r:=r) (s:=s) (k:=k) (by omega) hk
  refine au (aa (aB (av X [0,1,5,6,7] rfl ?_)))
  refine aB (aP (fun k1=>k1≤s.toNat) (fun k1:Nat=> [(7, .one ((aI k1)))]) (fun k1=> [(8, .arr .jE (fm (fun a=>fm (FQ r a) s.toNat) k++fm (FQ r k) k1))]) (fun k1=>s.toNat-k1) 0 (fun k1=>rfl) (aE _) (by simp[vu]) ?_)
  intro k1 hk1
  have IX:=V4 (r:=r) (s:=s) (by omega) k hk1
  refine aa (av X [0,1,5,6,7,21] rfl ?_)
  refine an rfl ?_ ?_<;>intro bM
  ·try simp only[bG]at bM
   refine au (aa (aB (av X [0,1,5,6,7,26] rfl ?_)))
   refine an rfl ?_ ?_<;>intro cS
   ·try simp only[bG]at cS
    have hw:af.wrap (100+(k1:Int))=100+(k1:Int):=dm (by omega)
    have hwk:af.wrap (100+(k:Int))=100+(k:Int):=dm (by omega)
    have hs1:fm (FQ r k) (k1+1)=fm (FQ r k) k1++ [⟨100+(k:Int),100+(k1:Int),nk r⟩]:=by rw[jT,FQ,if_neg (by omega)]
    refine bn X [(36,8)] [(33,⟨false,[aI (nk r)]⟩)] [0,1,5,6,7] [] rfl (by(repeat' with_reducible first|exact bH|refine bS ?_ ?_|apply bh)<;>first|exact(w8 r)|exact rfl|exact⟨rfl,cE _ (by decide)⟩| (simp only[gR,maxLen,lens];omega)) ?_
    refine bU X [0,1,5,6,7] rfl ?_
    refine⟨k1+1,by omega,by omega,?_⟩
    rw[bZ _ k1 rfl (by omega),hw,hwk,bO, ←hs1]
    try rfl
   ·try simp only[bG]at cS
    have hs1:fm (FQ r k) (k1+1)=fm (FQ r k) k1:=by rw[jT,FQ,if_pos (by omega),dA]
    refine au (bU X [0,1,5,6,7] rfl ?_)
    refine⟨k1+1,by omega,by omega,?_⟩
    rw[bZ _ k1 rfl (by omega),hs1]
    try rfl
  ·try simp only[bG]at bM
   have hs:fm (fun a=>fm (FQ r a) s.toNat) (k+1)=fm (fun a=>fm (FQ r a) s.toNat) k++fm (FQ r k) s.toNat:=jT _ _
   rw[show k1=s.toNat by omega, ←hs]
   refine aW (bU X [0,1,5,6] rfl ?_)
   refine⟨k+1,⟨by omega,Or.inr hk0⟩,by omega,?_⟩
   rw[bZ _ k rfl (by omega)]
   try rfl
 ·have hq:(decide ((k:Int)<s)&&nJ 0 s r)=false:=YC hb0 (by simp only[bC]<;>first|rfl|ac_rfl)
  exact aW (av X [4] rfl (aq (aj rfl ⟨aiA hk hks hq,⟨⟩⟩)))
theorem Bx(c s r n:Int):So 88 [aI c,aI s,aI r,aI n] [.a (.sl .jE (rT c s r n))]:=by
 refine aF X call88 func88 ntmps88 rfl rfl ?_
 intro zb
 refine av X [0,1,2,3] rfl (aO X [0,1,2,3,9] rfl (by and_intros<;>first|exact⟨⟩|exact rfl) (aa (aM X [] [(17,⟨false,[aU (nJ c s r)]⟩),(21,⟨false,[aU (inr n 0 8)]⟩)] [0,1,2,3,9,23] [] rfl (by(with_reducible and_intros);(iterate 2 all_goals try first|exact⟨⟩|exact(yz c s r)|exact fun _=>(bD n 0 8))) ?_)))
 refine an rfl ?_ ?_<;>intro hb0
 ·have hk0:YB c s r n=false:=cR hb0 (by simp only[YB,bC]<;>first|rfl|ac_rfl)
  exact av X [8] rfl (aq (aj rfl ⟨by rw[rT,hk0];rfl,⟨⟩⟩))
 ·have hk0:YB c s r n=true:=cL hb0 (by simp only[YB,bC]<;>first|rfl|ac_rfl)
  have hok:=yy (akF hk0)
  have hn8:=akG hk0
  have oR:af.wrap (2*n)=2*n:=dm (by omega)
  refine au (aa (av X [0,1,2,3,9,10] rfl ?_))
  refine aB (aP (fun k=>k≤c.toNat) (fun k:Nat=> [(10, .one ((aI k)))]) (fun k=> [(13, .arr .jE (fm (fun a=>fm (mC s r a) (2*n).toNat) k))]) (fun k=>c.toNat-k) 0 (fun k=>rfl) (aE _) rfl ?_)
  intro k hk
  have hle:=V8 (r:=r) (s:=s) (n:=n) (k:=k) (by omega) (by omega) (by omega)
  refine aa (av X [0,1,2,3,9,10,27] rfl ?_)
  refine an rfl ?_ ?_<;>intro bM
  ·try simp only[bG]at bM
   refine au (aa (aB (av X [0,1,2,3,9,10,11] rfl ?_)))
   refine aB (aP (fun k1=>k1≤(2*n).toNat) (fun k1:Nat=> [(11, .one ((aI k1)))]) (fun k1=> [(13, .arr .jE (fm (fun a=>fm (mC s r a) (2*n).toNat) k++fm (mC s r k) k1))]) (fun k1=>(2*n).toNat-k1) 0 (fun k1=>rfl) (aE _) (by simp[vu]) ?_)
   intro k1 hk1
   have IX:=V7 (r:=r) (s:=s) (by omega) k (k:=k1) (by omega)
   refine aa (av X [0,1,2,3,9,10,11,33] rfl ?_)
   refine an rfl ?_ ?_<;>intro cS
   ·try simp only[bG]at cS
    rw[oR]at cS
    refine au (aa (aB (av X [0,1,2,3,9,10,11,12] rfl ?_)))
    refine aB (aP (fun k2=>k2≤s.toNat) (fun k2:Nat=> [(12, .one ((aI k2)))]) (fun k2=> [(13, .arr .jE (fm (fun a=>fm (mC s r a) (2*n).toNat) k++fm (mC s r k) k1++fm (rEl r k) k2))]) (fun k2=>s.toNat-k2) 0 (fun k2=>rfl) (aE _) (by simp[vu]) ?_)
    intro k2 hk2
    have Pd:=V6 (r:=r) (s:=s) (by omega) k (k:=k2) hk2
    refine aa (av X [0,1,2,3,9,10,11,12,38] rfl ?_)
    refine an rfl ?_ ?_<;>intro iZ
    ·try simp only[bG]at iZ
     have hw:af.wrap (100+(k2:Int))=100+(k2:Int):=dm (by omega)
     have hs2:fm (rEl r k) (k2+1)=fm (rEl r k) k2++ [⟨(k:Int),100+(k2:Int),nR r⟩,⟨100+(k2:Int),(k:Int),24⟩]:=jT _ _
     refine au (aa (aB (bn X [(53,13)] [(46,⟨false,[aI (nR r)]⟩)] [0,1,2,3,9,10,11,12] [] rfl (by(repeat' with_reducible first|exact bH|refine bS ?_ ?_|apply bh)<;>first|exact(Bw r)|exact rfl|exact⟨rfl,cE _ (by decide)⟩| (simp only[gR,maxLen,lens];omega)) ?_)))
     refine bU X [0,1,2,3,9,10,11,12] rfl ?_
     refine⟨k2+1,by omega,by omega,?_⟩
     rw[bZ _ k2 rfl (by omega),hw,bO, ←hs2]
     try rfl
    ·try simp only[bG]at iZ
     have hs1:fm (mC s r k) (k1+1)=fm (mC s r k) k1++fm (rEl r k) s.toNat:=jT _ _
     rw[show k2=s.toNat by omega,bO, ←hs1]
     refine aW (bU X [0,1,2,3,9,10,11] rfl ?_)
     refine⟨k1+1,by omega,by omega,?_⟩
     rw[bZ _ k1 rfl (by omega)]
     try rfl
   ·try simp only[bG]at cS
    rw[oR]at cS
    have hs:fm (fun a=>fm (mC s r a) (2*n).toNat) (k+1)=fm (fun a=>fm (mC s r a) (2*n).toNat) k++fm (mC s r k) (2*n).toNat:=jT _ _
    rw[show k1=(2*n).toNat by omega, ←hs]
    refine aW (bU X [0,1,2,3,9,10] rfl ?_)
    refine⟨k+1,by omega,by omega,?_⟩
    rw[bZ _ k rfl (by omega)]
    try rfl
  ·try simp only[bG]at bM
   exact aW (av X [8] rfl (aq (aj rfl ⟨by rw[rT,if_pos hk0,show c.toNat=k by omega],⟨⟩⟩)))
theorem zH(x:bN):So 41 [.agg (bw x)] [.a (.sl .jE (HK x))]:=by
 refine aF X call41 func41 ntmps41 rfl rfl ?_
 intro zb
 have hwl:=ae1 (x.ah.length:Int) (x.aG.length:Int) x.rows
 have hpl:=ae2 (x.aG.length:Int) x.rows
 have hrl:=ae3 (x.ah.length:Int) (x.aG.length:Int) x.rows 1
 refine av X [1] rfl (av X [1,3] rfl (av X [1,3,4] rfl (aa ?_)))
 have t1:=(zG (x.ah.length:Int) (x.aG.length:Int) x.rows)
 have t2:=(Bx (x.ah.length:Int) (x.aG.length:Int) x.rows 1)
 exact aQ X [(20,15),(26,15)] [(15,⟨true,cx t1⟩),(19,⟨true,[.a (.sl .jE (pT (x.aG.length:Int) x.rows))]⟩),(25,⟨true,cx t2⟩)] [2] [] 97791 11 MO (by kernel_rfl) rfl (by kernel_rfl) (by(with_reducible and_intros);(iterate 3 all_goals try first|exact⟨⟩|exact t1|exact(w9 (x.aG.length:Int) x.rows)|exact t2);all_goals first|exact rfl| (simp only[gR,maxLen,lens];omega)) (aq (aj rfl ⟨rfl,⟨⟩⟩))
end
end Go.Proofs.YtaalpcnbbldlaaaGreatDoor.G
