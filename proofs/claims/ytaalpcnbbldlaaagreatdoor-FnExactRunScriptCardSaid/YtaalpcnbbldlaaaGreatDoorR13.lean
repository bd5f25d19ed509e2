/-
  Transfers of a round.
-/
import Derived.Test.YtaalpcnbbldlaaaGreatDoorR12
namespace Go.Proofs.YtaalpcnbbldlaaaGreatDoor.G
set_option linter.all false
open Go.RowKit L D Tryz
section
set_option maxRecDepth 100000
theorem qV(rows:Int)(l:List aT)(hz: ∀r,r∈l→cE List.length r.share.rows≤1048576):So 323 [aA rows, .a (.sl .aT l)] [.agg (aY (gj rows l))]:=by
 refine av X call323 func323 ntmps323 rfl rfl ?_;intro zb;refine ct 1 rfl (fun ir=>(aq X [0,1,4] rfl (aC X [] [(9,⟨true,[.agg (aY (dD rows))]⟩)] [1,4,5] [] rfl (by(with_reducible and_intros)<;>first|exact⟨⟩|exact(nj rows)) (aa (aq X [4,5,10,11,12] rfl ?_)))));refine au (aE (fun k=>k≤l.length) (fun k:Nat=> [(12, .one ((aA k)))]) (fun k=> [(9, .arr (.sl .u8) (gj rows (l.take k)).rows)]) (fun k=>l.length-k) 0 (fun k=>rfl) (Nat.zero_le _) rfl ?_);intro k hk;refine aq X [4,5,10,11,12,13] rfl ?_;refine aa (aj rfl ?_ ?_)<;>intro hb0
 ·try simp only[aQ]at hb0
  have hs:=GM rows l k hb0;refine an (aa (au (aD X [4,5,7,10,11,12] rfl (by and_intros<;>first|exact⟨⟩| (intros;omega)) (aL X [] [(20,⟨true,[.agg (aY (gu (gj rows (l.take k)) ((l.getD k (aG .aT)).share))),aH (iz (gj rows (l.take k)) ((l.getD k (aG .aT)).share))]⟩)] [4,5,10,11,12] [] rfl (by(with_reducible and_intros)<;>first|exact⟨⟩|exact(iI (gj rows (l.take k)) ((l.getD k (aG .aT)).share) (OD _ _) (hz _ (getD_in _ hb0)))) (kW 5 0 9 rfl (bg X [4,5,10,11,12] rfl ?_))))));refine⟨k+1,by omega,by omega,?_⟩;rw[bh _ k rfl (by omega),hs];try rfl
 ·try simp only[aQ]at hb0
  exact aI (aD X [4] rfl (by trivial) (ak (ah rfl ⟨by rw[List.take_of_length_le hb0],⟨⟩⟩)))
theorem lp(s:bp)(f:Nat)(hf:f≤8)(hz: ∀r,r∈s.received→cE List.length r.share.rows≤1048576):So 387 [.agg (bS s),aA ((f:Nat):Int)] [.agg (aY (gj s.rows (s.received.drop f)))]:=by
 refine av X call387 func387 ntmps387 rfl rfl ?_;intro zb;refine bl 0 3 rfl rfl (fun ir=>(aq X [1,2,4] rfl (aC X [] [(11,⟨true,[.agg (aY (dD s.rows))]⟩)] [1,2,4,5] [] rfl (by(with_reducible and_intros)<;>first|exact⟨⟩|exact(nk s.rows)) (aa (aq X [2,4,5,6] rfl ?_)))));refine au (aE (fun k=>f≤k∧(k≤s.received.length∨k=f)) (fun k:Nat=> [(6, .one ((aA k)))]) (fun k=> [(11, .arr (.sl .u8) (gj s.rows ((s.received.drop f).take (k-f))).rows)]) (fun k=>s.received.length-k) f (fun k=>rfl) ⟨Nat.le_refl _,Or.inr rfl⟩ (by simp[gj]) ?_);rintro k ⟨hk,hk2⟩;refine aa (aq X [2,4,5,6,17] rfl ?_);refine aj rfl ?_ ?_<;>intro hb0
 ·try simp only[aQ]at hb0
  have hs:=Qz s.rows s.received f k hb0 hk;refine an (aa (au (aa (aF X [] [(28,⟨true,[.agg (aY (gu (gj s.rows ((s.received.drop f).take (k-f))) ((s.received.getD k (aG .aT)).share))),aH (iz (gj s.rows ((s.received.drop f).take (k-f))) ((s.received.getD k (aG .aT)).share))]⟩)] [2,4,5,6,7] [] 12287 1 MO (by kernel_rfl) rfl (by kernel_rfl) (by(with_reducible and_intros)<;>first|exact⟨⟩|exact(iJ (gj s.rows ((s.received.drop f).take (k-f))) ((s.received.getD k (aG .aT)).share) (OD _ _) (hz _ (getD_in _ hb0)))| (intros;omega)) (dy X [2,4,5,6] rfl (by trivial) (kW 5 0 11 rfl (bg X [2,4,5,6] rfl ?_)))))));refine⟨k+1,by omega,by omega,?_⟩;rw[bh _ k rfl (by omega),hs];try rfl
 ·try simp only[aQ]at hb0
  exact aI (aD X [4] rfl (by trivial) (ak (ah rfl ⟨by rw[TF _ _ _ _ hb0],⟨⟩⟩)))
theorem xL(s:bp):So 331 [.agg (bS s)] [.agg (aY (so s))]:=by
 refine av X call331 func331 ntmps331 rfl rfl ?_;intro zb;refine aq X [1,2] rfl (aa (aC X [] [(4,⟨false,[aH (cj s)]⟩)] [1,2,5] [] rfl (by(with_reducible and_intros)<;>first|exact⟨⟩|exact(cW s)) ?_));refine aj rfl ?_ ?_<;>intro hb0
 ·have hk:cj s=false:=by simpa using hb0
  exact aD X [2] rfl (by trivial) (ak (ah rfl ⟨by rw[so,hk];rfl,⟨⟩⟩))
 ·have hk:cj s=true:=by simpa using hb0
  have hsz:=zx hk;exact an (aC X [] [(11,⟨true,[.agg (aY (gj s.rows s.received))]⟩)] [2] [] rfl (by(with_reducible and_intros)<;>first|exact⟨⟩|exact(qV s.rows s.received hsz)) (ak (ah rfl ⟨by rw[so,if_pos hk],⟨⟩⟩)))
theorem xM(s:bp):So 396 [.agg (bS s)] [.agg (aY (so s))]:=by
 refine av X call396 func396 ntmps396 rfl rfl ?_;intro zb;refine aq X [1,2] rfl (aa (aC X [] [(4,⟨false,[aH (cj s)]⟩)] [1,2,5] [] rfl (by(with_reducible and_intros)<;>first|exact⟨⟩|exact(cX s)) ?_));refine aj rfl ?_ ?_<;>intro hb0
 ·have hk:cj s=false:=by simpa using hb0
  exact aD X [2] rfl (by trivial) (ak (ah rfl ⟨by rw[so,hk];rfl,⟨⟩⟩))
 ·have hk:cj s=true:=by simpa using hb0
  have hsz:=zx hk;exact an (aC X [] [(8,⟨true,[.agg (aY (gj s.rows (s.received.drop 0)))]⟩)] [2] [] rfl (by(with_reducible and_intros)<;>first|exact⟨⟩|exact(lp s 0 (by decide) hsz)) (ak (ah rfl ⟨by rw[so,if_pos hk];rfl,⟨⟩⟩)))
theorem wg(s:bp):So 261 [.agg (bS s)] [.agg (aY (qT s))]:=by
 refine av X call261 func261 ntmps261 rfl rfl ?_;intro zb;refine aq X [1,2] rfl (aa (aC X [] [(6,⟨false,[aH (cj s)]⟩)] [1,2,7] [] rfl (by(with_reducible and_intros)<;>first|exact⟨⟩|exact(cW s)) ?_));refine aj rfl ?_ ?_<;>intro hb0
 ·have hk:cj s=false:=by simpa using hb0
  exact aD X [2] rfl (by trivial) (ak (ah rfl ⟨by rw[qT,hk];rfl,⟨⟩⟩))
 ·have hk:cj s=true:=by simpa using hb0
  have hsz:=zx hk;have hin:=TI hk;refine an (aq X [1,2,3] rfl (aa (aq X [1,2,3,13] rfl ?_)));refine aj rfl ?_ ?_<;>intro aV
  ·try simp only[aQ]at aV
   have hr:=GN s (by omega);have ir:=(OE hk).2;have hmi:=TG 1 (s.received.length:Int);refine dy X [1,2,3] rfl (by and_intros<;>first|exact⟨⟩| (intros;omega)) ?_;rw[show List.take ((s.received.length:Int)).toNat s.received=s.received by simp,TH, ←hr];refine aC X [] [(22,⟨true,[.agg (aY (gj s.rows (rcvd s)))]⟩)] [1,2,4] [] rfl (by(with_reducible and_intros)<;>first|exact⟨⟩|exact(qV s.rows (rcvd s) (fun r hr2=>hsz r (TL s r hr2)))) (aa (aq X [2,4,25] rfl ?_));refine aj rfl ?_ ?_<;>intro bI
   ·try simp only[aQ]at bI
    omega
   ·try simp only[aQ]at bI
    exact an (aD X [2] rfl (by trivial) (ak (ah rfl ⟨by rw[qT,if_pos hk,if_neg (by omega)],⟨⟩⟩)))
  ·try simp only[aQ]at aV
   have hr:=KR s (by omega);rw[hr]at hin;have K6:0<((gj s.rows s.received).rows.getD (Int.toNat 0) (aG (.sl .u8))).length:=hin.2;refine an (aC X [] [(22,⟨true,[.agg (aY (gj s.rows s.received))]⟩)] [1,2,4] [] rfl (by(with_reducible and_intros)<;>first|exact⟨⟩|exact(qV s.rows s.received hsz)) (aa (aq X [2,4,25] rfl ?_)));refine aj rfl ?_ ?_<;>intro bI
   ·try simp only[aQ]at bI
    have aha:s.behavior=2:=by omega
    exact dy X [2,4] rfl (by and_intros<;>first|exact⟨⟩| (intros;omega)|exact(oZ _).1|exact(oZ _).2) (aD X [2] rfl (by trivial) (ak (ah rfl ⟨by rw[qT,if_pos hk,if_pos (by omega),hr];exact alt_eq _,⟨⟩⟩)))
   ·try simp only[aQ]at bI
    exact an (aD X [2] rfl (by trivial) (ak (ah rfl ⟨by rw[qT,if_pos hk,if_neg (by omega),hr],⟨⟩⟩)))
theorem wh(s:bp):So 356 [.agg (bS s)] [.agg (aY (qT s))]:=by
 refine av X call356 func356 ntmps356 rfl rfl ?_;intro zb;refine aq X [1,2] rfl (aa (aC X [] [(5,⟨false,[aH (cj s)]⟩)] [1,2,6] [] rfl (by(with_reducible and_intros)<;>first|exact⟨⟩|exact(cX s)) ?_));refine aj rfl ?_ ?_<;>intro hb0
 ·have hk:cj s=false:=by simpa using hb0
  exact aD X [2] rfl (by trivial) (ak (ah rfl ⟨by rw[qT,hk];rfl,⟨⟩⟩))
 ·have hk:cj s=true:=by simpa using hb0
  have hsz:=zx hk;have hin:=TI hk;refine an (aa (aq X [1,2,9] rfl (au (aq X [1,2,9,10] rfl ?_))));refine aj rfl ?_ ?_<;>intro aV
  ·try simp only[aQ]at aV
   have hr:=GN s (by omega);exact aC X [] [(13,⟨true,[.agg (aY (gj s.rows (s.received.drop 1)))]⟩)] [2] [] rfl (by(with_reducible and_intros)<;>first|exact⟨⟩|exact(lp s 1 (by decide) hsz)) (ak (ah rfl ⟨by rw[qT,if_pos hk,if_neg (by omega),hr],⟨⟩⟩))
  ·try simp only[aQ]at aV
   have hr:=KR s (by omega);rw[hr]at hin;have K6:0<((gj s.rows s.received).rows.getD (Int.toNat 0) (aG (.sl .u8))).length:=hin.2;have ahb:0<((gj s.rows (List.drop 0 s.received)).rows.getD (Int.toNat 0) (aG (.sl .u8))).length:=hin.2;have ahc:0<(gj s.rows (List.drop 0 s.received)).rows.length:=hin.1;refine aq X [1,2,14] rfl ?_;refine aj rfl ?_ ?_<;>intro bI
   ·try simp only[aQ]at bI
    exact aC X [] [(17,⟨true,[.agg (aY (gj s.rows (s.received.drop 0)))]⟩)] [2,3] [] rfl (by(with_reducible and_intros)<;>first|exact⟨⟩|exact(lp s 0 (by decide) hsz)) (aa (aF X [] [] [2,3] [] 4095 0 MO (by kernel_rfl) rfl (by kernel_rfl) (by and_intros<;>first|exact⟨⟩| (intros;omega)|exact(oZ _).1|exact(oZ _).2) (aD X [2] rfl (by trivial) (ak (ah rfl ⟨by rw[qT,if_pos hk,if_pos (by omega),hr];exact alt_eq _,⟨⟩⟩)))))
   ·try simp only[aQ]at bI
    exact an (aC X [] [(32,⟨true,[.agg (aY (gj s.rows (s.received.drop 0)))]⟩)] [2] [] rfl (by(with_reducible and_intros)<;>first|exact⟨⟩|exact(lp s 0 (by decide) hsz)) (ak (ah rfl ⟨by rw[qT,if_pos hk,if_neg (by omega),hr];rfl,⟨⟩⟩)))
theorem sA(a b:DB):So 330 [.agg (aY a), .agg (aY b)] [aH (a.rows==b.rows)]:=by
 refine av X call330 func330 ntmps330 rfl rfl ?_;intro zb;exact aq X [2,3] rfl (aC X [] [(9,⟨false,[aH (a.rows==b.rows)]⟩)] [4] [] rfl (by(with_reducible and_intros)<;>first|exact⟨⟩|exact(jZ a.rows b.rows)) (ak (ah rfl ⟨rfl,⟨⟩⟩)))
theorem sB(a b:DB):So 395 [.agg (aY a), .agg (aY b)] [aH (a.rows==b.rows)]:=by
 refine av X call395 func395 ntmps395 rfl rfl ?_;intro zb;exact aq X [2,3] rfl (aC X [] [(9,⟨false,[aH (a.rows==b.rows)]⟩)] [4] [] rfl (by(with_reducible and_intros)<;>first|exact⟨⟩|exact(gI a.rows b.rows)) (ak (ah rfl ⟨rfl,⟨⟩⟩)))
theorem uy(key:Int)(r:dY):So 328 [aA key, .agg (jR r)] [aH (MV key r)]:=by
 refine av X call328 func328 ntmps328 rfl rfl ?_;intro zb;exact aq X [0,3] rfl (aa (aF X [] [(9,⟨false,[aA (Qs key r.server r.client r.round r.mJ)]⟩)] [4] [] 127 0 MO (by kernel_rfl) rfl (by kernel_rfl) (by(with_reducible and_intros)<;>first|exact⟨⟩|exact(n9 key r)) (ak (ah rfl ⟨(congrArg Value.bool (by simp only[MV,aO]<;>first|rfl|ac_rfl)),⟨⟩⟩))))
theorem sC(r:dY)(d:DB)(hd:cE List.length d.rows≤1048576):So 329 [.agg (jR r), .agg (aY d)] [aH (MW r d)]:=by
 refine av X call329 func329 ntmps329 rfl rfl ?_;intro zb;exact aq X [2,3] rfl (aa (aF X [] [(12,⟨false,[aA (EF r.client r.round d)]⟩)] [4] [] 1023 0 MO (by kernel_rfl) rfl (by kernel_rfl) (by(with_reducible and_intros)<;>first|exact⟨⟩|exact(nv r.client r.round d hd)) (ak (ah rfl ⟨(congrArg Value.bool (by simp only[MW,aO]<;>first|rfl|ac_rfl)),⟨⟩⟩))))
theorem xN(key:Int)(s:bp)(p:DB)(l:List dY)(hz:s.received.length≤1048576∧ ∀r,r∈s.received→cE List.length r.share.rows≤1048576)(hp:cE List.length p.rows≤1048576):So 269 [aA key, .agg (bS s), .agg (aY p), .a (.sl .dY l)] [aA (CE key s p l)]:=by
 refine av X call269 func269 ntmps269 rfl rfl ?_;intro zb;refine ct 3 rfl (fun ir=>(aq X [0,3,5,6] rfl (aa (aq X [0,5,6,13,14,15] rfl ?_))));refine au (aE (fun k=>k≤l.length∧ ∀j,j<k→iE key s (l.getD j (aG .dY))=0) (fun k:Nat=> [(15, .one ((aA k)))]) (fun k=> []) (fun k=>l.length-k) 0 (fun k=>rfl) ⟨Nat.zero_le _,fun j hj=>absurd hj (Nat.not_lt_zero _)⟩ rfl ?_);rintro k ⟨hk,hall⟩;refine aq X [0,5,6,13,14,15,16] rfl ?_;refine aa (aj rfl ?_ ?_)<;>intro hb0
 ·try simp only[aQ]at hb0
  refine an (aa (au (aD X [0,5,6,10,13,14,15] rfl (by and_intros<;>first|exact⟨⟩| (intros;omega)) (aa (aC X [] [(34,⟨false,[aH (MV key (l.getD k (aG .dY)))]⟩)] [0,5,6,10,13,14,15,36] [] rfl (by(with_reducible and_intros)<;>first|exact⟨⟩|exact fun _=>(uy key (l.getD k (aG .dY)))) ?_)))));refine aj rfl ?_ ?_<;>intro aV
  ·have zK:pU key s (l.getD k (aG .dY))=true:=iA aV (by simp only[pU,aO]<;>first|rfl|ac_rfl);refine aI (bg X [0,5,6,13,14,15] rfl ?_);refine⟨k+1,⟨by omega,qU hall (acp zK)⟩,by omega,?_⟩;rw[bh _ k rfl (by omega)];try rfl
  ·have zK:pU key s (l.getD k (aG .dY))=false:=kX aV (by simp only[pU,aO]<;>first|rfl|ac_rfl);refine an (aa ?_);have t1:=(uu s ((l.getD k (aG .dY)).client) hz);refine aL X [] [(41,⟨true,bq t1⟩)] [0,5,6,10,11,12,13,14,15] [] rfl (by(with_reducible and_intros)<;>first|exact⟨⟩|exact t1) (aa (aq X [0,5,6,10,11,13,14,15,45] rfl ?_));refine aj rfl ?_ ?_<;>intro bI
   ·have hsh:lM s.received (l.getD k (aG .dY)).client=false:=by simpa using bI
    have hf:=acm zK hsh;exact aq X [8] rfl (ak (ah rfl ⟨by rw[zy hall hb0 (by rw[hf];decide),hf],⟨⟩⟩))
   ·have hsh:lM s.received (l.getD k (aG .dY)).client=true:=by simpa using bI
    have hsd:=EE (c:=(l.getD k (aG .dY)).client) hz.2;refine an (aa ?_);have t1:=(sC (l.getD k (aG .dY)) (Bi s.received (l.getD k (aG .dY)).client) hsd);refine aL X [] [(48,⟨false,bq t1⟩)] [0,5,6,13,14,15,49] [] rfl (by(with_reducible and_intros)<;>first|exact⟨⟩|exact t1) ?_;refine aj rfl ?_ ?_<;>intro eE
    ·have hf:=acn zK hsh (by simpa using eE);exact aq X [8] rfl (ak (ah rfl ⟨by rw[zy hall hb0 (by rw[hf];decide),hf],⟨⟩⟩))
    ·have hf:=aco zK hsh (by simpa using eE);refine an (bg X [0,5,6,13,14,15] rfl ?_);refine⟨k+1,⟨by omega,qU hall hf⟩,by omega,?_⟩;rw[bh _ k rfl (by omega)];try rfl
 ·try simp only[aQ]at hb0
  refine aI (aa (aa (aF X [] [(52,⟨false,[aH (cj s)]⟩),(57,⟨false,[.agg (aY (so s))]⟩),(58,⟨false,[aH (p.rows==(so s).rows)]⟩)] [60] [] 1023 0 MO (by kernel_rfl) rfl (by kernel_rfl) (by(with_reducible and_intros);(iterate 3 all_goals try first|exact⟨⟩|exact(cW s)|exact fun _=>(xL s)|exact fun _=>(sA p (so s)))) ?_)));refine aj rfl ?_ ?_<;>intro kV
  ·have hq:(cj s&&(p.rows==(so s).rows))=false:=bH kV (by simp only[aO]<;>first|rfl|ac_rfl);exact aq X [8] rfl (ak (ah rfl ⟨by rw[zz hall hb0,hq];rfl,⟨⟩⟩))
  ·have hq:(cj s&&(p.rows==(so s).rows))=true:=bF kV (by simp only[aO]<;>first|rfl|ac_rfl);exact an (aq X [8] rfl (ak (ah rfl ⟨by rw[zz hall hb0,hq];rfl,⟨⟩⟩)))
theorem zL(m:Int)(sv:List bp)(pb:List DB)(rc:List dY)(hl:sv.length≤1048576)(hs: ∀s,s∈sv→nr s)(hp: ∀d,d∈pb→cE List.length d.rows≤1048576):So 196 [aA m, .a (.sl .bp sv), .a (.sl .DB pb), .a (.sl .dY rc)] [.a (.sl .int (jA m sv pb rc sv.length))]:=by
 refine av X call196 func196 ntmps196 rfl rfl ?_;intro zb;refine ct 2 rfl (fun ir=>(aq X [0,1,2,3] rfl (aD X [0,1,2,3,9] rfl (by and_intros<;>first|exact⟨⟩|exact rfl) (aa (aq X [0,2,3,9,13,14,15] rfl ?_)))));refine au (aE (fun k=>k≤sv.length) (fun k:Nat=> [(15, .one ((aA k)))]) (fun k=> [(12, .arr .int (jA m sv pb rc k))]) (fun k=>sv.length-k) 0 (fun k=>rfl) (Nat.zero_le _) rfl ?_);intro k hk;have hle:=nI m sv pb rc k;refine aq X [0,2,3,9,13,14,15,16] rfl ?_;refine aa (aj rfl ?_ ?_)<;>intro hb0
 ·try simp only[aQ]at hb0
  refine an (aa (au (aD X [0,2,3,9,10,11,13,14,15] rfl (by and_intros<;>first|exact⟨⟩| (intros;omega)) (aa (aF X [] [(28,⟨false,[aA (iT m ((sv.getD k (aG .bp)).id))]⟩),(35,⟨false,[aA (CE (iT m (sv.getD k (aG .bp)).id) (sv.getD k (aG .bp)) (pb.getD k (aG .DB)) rc)]⟩)] [0,2,3,9,11,13,14,15,37] [] 262143 0 MO (by kernel_rfl) rfl (by kernel_rfl) (by(with_reducible and_intros);(iterate 3 all_goals try first|exact⟨⟩|exact fun _=>(iB m ((sv.getD k (aG .bp)).id))|exact fun _=>(xN (iT m (sv.getD k (aG .bp)).id) (sv.getD k (aG .bp)) (pb.getD k (aG .DB)) rc (hs _ (getD_in _ hb0)) (KS hp k))|exact(by refine fun hzz=> ?_;have hz2:decide ((k:Int)≥(pb.length:Int))=false:=hzz;rw[decide_eq_false_iff_not]at hz2;dsimp only[hyps,Jp];omega))) ?_)))));refine aj rfl ?_ ?_<;>intro aV
  ·have hbd:CF m sv pb rc k=true:=iA aV (by simp only[CF,aO]<;>first|rfl|ac_rfl);have hs2:=EW hbd;refine aL X [(42,12)] [] [0,2,3,9,13,14,15] [] rfl (by and_intros<;>first|exact⟨⟩|exact rfl| (simp only[dN,maxLen,lens];omega)) (bg X [0,2,3,9,13,14,15] rfl ?_);refine⟨k+1,by omega,by omega,?_⟩;rw[bh _ k rfl (by omega),hs2];try rfl
  ·have hbd:CF m sv pb rc k=false:=kX aV (by simp only[CF,aO]<;>first|rfl|ac_rfl);have hs2:=Bs hbd;refine an (bg X [0,2,3,9,13,14,15] rfl ?_);refine⟨k+1,by omega,by omega,?_⟩;rw[bh _ k rfl (by omega),hs2];try rfl
 ·try simp only[aQ]at hb0
  exact aI (aq X [8] rfl (ak (ah rfl ⟨by rw[show k=sv.length by omega],⟨⟩⟩)))
theorem zM(sv:List bp)(hl:sv.length≤1048576):So 191 [.a (.sl .bp sv)] [.a (.sl .DB (cZ sv))]:=by
 refine av X call191 func191 ntmps191 rfl rfl ?_;intro zb;refine aq X [0] rfl (aD X [0,3] rfl (by and_intros<;>first|exact⟨⟩|exact rfl) (aa (aq X [3,7,8,9] rfl ?_)));refine au (aE (fun k=>k≤sv.length) (fun k:Nat=> [(9, .one ((aA k)))]) (fun k=> [(6, .arr .DB ((cZ sv).take k))]) (fun k=>sv.length-k) 0 (fun k=>rfl) (Nat.zero_le _) rfl ?_);intro k hk;have hle:=bC (cZ sv) k;refine aq X [3,7,8,9,10] rfl ?_;refine aa (aj rfl ?_ ?_)<;>intro hb0
 ·try simp only[aQ]at hb0
  have hs:=GO sv k hb0;refine an (aa (au (aD X [3,5,7,8,9] rfl (by and_intros<;>first|exact⟨⟩| (intros;omega)) (aL X [(17,6)] [(15,⟨true,[.agg (aY (qT (sv.getD k (aG .bp))))]⟩)] [3,7,8,9] [] rfl (by(with_reducible and_intros)<;>first|exact⟨⟩|exact(wg (sv.getD k (aG .bp)))|exact rfl| (simp only[dN,maxLen,lens];omega)) (bg X [3,7,8,9] rfl ?_)))));refine⟨k+1,by omega,by omega,?_⟩;rw[bh _ k rfl (by omega),hs];try rfl
 ·try simp only[aQ]at hb0
  exact aI (aq X [2] rfl (ak (ah rfl ⟨by rw[List.take_of_length_le (by unfold cZ;rw[List.length_map];exact hb0)],⟨⟩⟩)))
theorem uz(key:Int)(r:dY):So 392 [aA key, .agg (jR r)] [aH (MV key r)]:=by
 refine av X call392 func392 ntmps392 rfl rfl ?_;intro zb;exact aq X [0,3] rfl (aa (aF X [] [(9,⟨false,[aA (Qs key r.server r.client r.round r.mJ)]⟩)] [4] [] 127 0 MO (by kernel_rfl) rfl (by kernel_rfl) (by(with_reducible and_intros)<;>first|exact⟨⟩|exact(oc key r)) (ak (ah rfl ⟨(congrArg Value.bool (by simp only[MV,aO]<;>first|rfl|ac_rfl)),⟨⟩⟩))))
theorem sD(r:dY)(d:DB)(hd:cE List.length d.rows≤1048576):So 394 [.agg (jR r), .agg (aY d)] [aH (MW r d)]:=by
 refine av X call394 func394 ntmps394 rfl rfl ?_;intro zb;exact aq X [2,3] rfl (aa (aF X [] [(12,⟨false,[aA (EF r.client r.round d)]⟩)] [4] [] 1023 0 MO (by kernel_rfl) rfl (by kernel_rfl) (by(with_reducible and_intros)<;>first|exact⟨⟩|exact(ny r.client r.round d hd)) (ak (ah rfl ⟨(congrArg Value.bool (by simp only[MW,aO]<;>first|rfl|ac_rfl)),⟨⟩⟩))))
theorem xO(key:Int)(s:bp)(p:DB)(l:List dY)(hz:s.received.length≤1048576∧ ∀r,r∈s.received→cE List.length r.share.rows≤1048576)(hp:cE List.length p.rows≤1048576):So 364 [aA key, .agg (bS s), .agg (aY p), .a (.sl .dY l)] [aA (CE key s p l)]:=by
 refine av X call364 func364 ntmps364 rfl rfl ?_;intro zb;refine ct 3 rfl (fun ir=>(aq X [0,3,5,6] rfl (aa (aq X [0,3,5,6,9] rfl ?_))));refine au (aE (fun k=>k≤l.length∧ ∀j,j<k→iE key s (l.getD j (aG .dY))=0) (fun k:Nat=> [(9, .one ((aA k)))]) (fun k=> []) (fun k=>l.length-k) 0 (fun k=>rfl) ⟨Nat.zero_le _,fun j hj=>absurd hj (Nat.not_lt_zero _)⟩ rfl ?_);rintro k ⟨hk,hall⟩;refine aa (aq X [0,3,5,6,9,16] rfl ?_);refine aj rfl ?_ ?_<;>intro hb0
 ·try simp only[aQ]at hb0
  refine an (aa (au (aD X [0,3,5,6,9,10] rfl (by and_intros<;>first|exact⟨⟩| (intros;omega)) (aa (aC X [] [(38,⟨false,[aH (MV key (l.getD k (aG .dY)))]⟩)] [0,3,5,6,9,10,40] [] rfl (by(with_reducible and_intros)<;>first|exact⟨⟩|exact fun _=>(uz key (l.getD k (aG .dY)))) ?_)))));refine aj rfl ?_ ?_<;>intro aV
  ·have zK:pU key s (l.getD k (aG .dY))=true:=iA aV (by simp only[pU,aO]<;>first|rfl|ac_rfl);refine aI (bg X [0,3,5,6,9] rfl ?_);refine⟨k+1,⟨by omega,qU hall (acp zK)⟩,by omega,?_⟩;rw[bh _ k rfl (by omega)];try rfl
  ·have zK:pU key s (l.getD k (aG .dY))=false:=kX aV (by simp only[pU,aO]<;>first|rfl|ac_rfl);refine an (aa ?_);have t1:=(E5 s ((l.getD k (aG .dY)).client) hz);refine aL X [] [(45,⟨true,bq t1⟩)] [0,3,5,6,9,10,11,12] [] rfl (by(with_reducible and_intros)<;>first|exact⟨⟩|exact t1) (aa (aq X [0,3,5,6,9,10,11,49] rfl ?_));refine aj rfl ?_ ?_<;>intro bI
   ·have hsh:lM s.received (l.getD k (aG .dY)).client=false:=by simpa using bI
    have hf:=acm zK hsh;exact aq X [8] rfl (ak (ah rfl ⟨by rw[zy hall hb0 (by rw[hf];decide),hf],⟨⟩⟩))
   ·have hsh:lM s.received (l.getD k (aG .dY)).client=true:=by simpa using bI
    have hsd:=EE (c:=(l.getD k (aG .dY)).client) hz.2;refine an (aa ?_);have t1:=(sD (l.getD k (aG .dY)) (Bi s.received (l.getD k (aG .dY)).client) hsd);refine aL X [] [(52,⟨false,bq t1⟩)] [0,3,5,6,9,53] [] rfl (by(with_reducible and_intros)<;>first|exact⟨⟩|exact t1) ?_;refine aj rfl ?_ ?_<;>intro eE
    ·have hf:=acn zK hsh (by simpa using eE);exact aq X [8] rfl (ak (ah rfl ⟨by rw[zy hall hb0 (by rw[hf];decide),hf],⟨⟩⟩))
    ·have hf:=aco zK hsh (by simpa using eE);refine an (bg X [0,3,5,6,9] rfl ?_);refine⟨k+1,⟨by omega,qU hall hf⟩,by omega,?_⟩;rw[bh _ k rfl (by omega)];try rfl
 ·try simp only[aQ]at hb0
  refine aI (aa (aa (aF X [] [(55,⟨false,[aH (cj s)]⟩),(60,⟨false,[.agg (aY (so s))]⟩),(61,⟨false,[aH (p.rows==(so s).rows)]⟩)] [63] [] 1023 0 MO (by kernel_rfl) rfl (by kernel_rfl) (by(with_reducible and_intros);(iterate 3 all_goals try first|exact⟨⟩|exact(cX s)|exact fun _=>(xM s)|exact fun _=>(sB p (so s)))) ?_)));refine aj rfl ?_ ?_<;>intro kV
  ·have hq:(cj s&&(p.rows==(so s).rows))=false:=bH kV (by simp only[aO]<;>first|rfl|ac_rfl);exact aq X [8] rfl (ak (ah rfl ⟨by rw[zz hall hb0,hq];rfl,⟨⟩⟩))
  ·have hq:(cj s&&(p.rows==(so s).rows))=true:=bF kV (by simp only[aO]<;>first|rfl|ac_rfl);exact an (aq X [8] rfl (ak (ah rfl ⟨by rw[zz hall hb0,hq];rfl,⟨⟩⟩)))
theorem zN(m:Int)(sv:List bp)(pb:List DB)(rc:List dY)(hl:sv.length≤1048576)(hs: ∀s,s∈sv→nr s)(hp: ∀d,d∈pb→cE List.length d.rows≤1048576):So 302 [aA m, .a (.sl .bp sv), .a (.sl .DB pb), .a (.sl .dY rc)] [.a (.sl .int (jA m sv pb rc sv.length))]:=by
 refine av X call302 func302 ntmps302 rfl rfl ?_;intro zb;refine ct 2 rfl (fun ir=>(aq X [0,1,2,3] rfl (aD X [0,1,2,3,9] rfl (by and_intros<;>first|exact⟨⟩|exact rfl) (aa (aq X [0,1,2,3,9,10] rfl ?_)))));refine au (aE (fun k=>k≤sv.length) (fun k:Nat=> [(10, .one ((aA k)))]) (fun k=> [(11, .arr .int (jA m sv pb rc k))]) (fun k=>sv.length-k) 0 (fun k=>rfl) (Nat.zero_le _) rfl ?_);intro k hk;have hle:=nI m sv pb rc k;refine aa (aq X [0,1,2,3,9,10,15] rfl ?_);refine aj rfl ?_ ?_<;>intro hb0
 ·try simp only[aQ]at hb0
  refine an (aa (au (aa (aF X [] [(29,⟨false,[aA (iT m ((sv.getD k (aG .bp)).id))]⟩),(39,⟨false,[aA (CE (iT m (sv.getD k (aG .bp)).id) (sv.getD k (aG .bp)) (pb.getD k (aG .DB)) rc)]⟩)] [0,1,2,3,9,10,41] [] 16777215 0 MO (by kernel_rfl) rfl (by kernel_rfl) (by(with_reducible and_intros);(iterate 3 all_goals try first|exact⟨⟩|exact fun _=>(iC m ((sv.getD k (aG .bp)).id))|exact fun _=>(xO (iT m (sv.getD k (aG .bp)).id) (sv.getD k (aG .bp)) (pb.getD k (aG .DB)) rc (hs _ (getD_in _ hb0)) (KS hp k))|exact(by refine fun hzz=> ?_;have hz2:decide ((k:Int)≥(pb.length:Int))=false:=hzz;rw[decide_eq_false_iff_not]at hz2;dsimp only[hyps,Jp];omega))) ?_))));refine aj rfl ?_ ?_<;>intro aV
  ·have hbd:CF m sv pb rc k=true:=iA aV (by simp only[CF,aO]<;>first|rfl|ac_rfl);have hs2:=EW hbd;refine aL X [(49,11)] [] [0,1,2,3,9,10] [] rfl (by and_intros<;>first|exact⟨⟩| (intros;omega)|exact rfl| (simp only[dN,maxLen,lens];omega)) (bg X [0,1,2,3,9,10] rfl ?_);refine⟨k+1,by omega,by omega,?_⟩;rw[bh _ k rfl (by omega),hs2];try rfl
  ·have hbd:CF m sv pb rc k=false:=kX aV (by simp only[CF,aO]<;>first|rfl|ac_rfl);have hs2:=Bs hbd;refine an (bg X [0,1,2,3,9,10] rfl ?_);refine⟨k+1,by omega,by omega,?_⟩;rw[bh _ k rfl (by omega),hs2];try rfl
 ·try simp only[aQ]at hb0
  exact aI (aq X [8] rfl (ak (ah rfl ⟨by rw[show k=sv.length by omega],⟨⟩⟩)))
theorem zO(sv:List bp)(hl:sv.length≤1048576):So 297 [.a (.sl .bp sv)] [.a (.sl .DB (cZ sv))]:=by
 refine av X call297 func297 ntmps297 rfl rfl ?_;intro zb;refine aq X [0] rfl (aD X [0,3] rfl (by and_intros<;>first|exact⟨⟩|exact rfl) (aa (aq X [0,3,4] rfl ?_)));refine au (aE (fun k=>k≤sv.length) (fun k:Nat=> [(4, .one ((aA k)))]) (fun k=> [(5, .arr .DB ((cZ sv).take k))]) (fun k=>sv.length-k) 0 (fun k=>rfl) (Nat.zero_le _) rfl ?_);intro k hk;have hle:=bC (cZ sv) k;refine aa (aq X [0,3,4,9] rfl ?_);refine aj rfl ?_ ?_<;>intro hb0
 ·try simp only[aQ]at hb0
  have hs:=GO sv k hb0;refine an (aa (au (aL X [(19,5)] [(17,⟨true,[.agg (aY (qT (sv.getD k (aG .bp))))]⟩)] [0,3,4] [] rfl (by(with_reducible and_intros)<;>first|exact⟨⟩|exact(wh (sv.getD k (aG .bp)))| (intros;omega)|exact rfl| (simp only[dN,maxLen,lens];omega)) (bg X [0,3,4] rfl ?_))));refine⟨k+1,by omega,by omega,?_⟩;rw[bh _ k rfl (by omega),hs];try rfl
 ·try simp only[aQ]at hb0
  exact aI (aq X [2] rfl (ak (ah rfl ⟨by rw[List.take_of_length_le (by unfold cZ;rw[List.length_map];exact hb0)],⟨⟩⟩)))
end
section
set_option maxRecDepth 100000
theorem wj(key:Int)(a:cM)(h1:a.selection.length≤262144)(h2:a.data.length≤262144):So 327 [aA key, .agg (eS a)] [aH (TQ key a)]:=by
 refine av X call327 func327 ntmps327 rfl rfl ?_;intro zb;exact aq X [0,3] rfl (aa (aF X [] [(9,⟨false,[aA (EM key a.server a.round a.selection a.data)]⟩)] [4] [] 127 0 MO (by kernel_rfl) rfl (by kernel_rfl) (by(with_reducible and_intros)<;>first|exact⟨⟩|exact(pR key a h1 h2)) (ak (ah rfl ⟨rfl,⟨⟩⟩))))
theorem uA(key:Int)(d:DB)(a:cM)(h1:a.selection.length≤262144)(h2:a.data.length≤262144):So 265 [aA key, .agg (aY d), .agg (eS a)] [aH (fls key d a)]:=by
 refine av X call265 func265 ntmps265 rfl rfl ?_;intro zb;exact aq X [0,4,5] rfl (aa (aF X [] [(9,⟨false,[aH (TQ key a)]⟩),(16,⟨false,[.a (.sl .u8 (fU d a.selection))]⟩),(17,⟨false,[aH (a.data==(fU d a.selection))]⟩)] [6] [] 16383 0 MO (by kernel_rfl) rfl (by kernel_rfl) (by(with_reducible and_intros);(iterate 3 all_goals try first|exact⟨⟩|exact(wj key a h1 h2)|exact fun _=>(nF d a.selection)|exact fun _=>(gJ a.data (fU d a.selection)))) (ak (ah rfl ⟨(congrArg Value.bool (by simp only[fls,aO]<;>first|rfl|ac_rfl)),⟨⟩⟩))))
theorem zS(l:List DB)(ir:l.length≤1048576)(ha:uo l):So 262 [.a (.sl .DB l)] [.agg (aY (jw l)),aH (CG l)]:=by
 refine av X call262 func262 ntmps262 rfl rfl ?_;intro zb;refine aq X [0,2] rfl (aa (aC X [] [(11,⟨false,[aH (bT (l.length:Int))]⟩)] [0,2,12] [] rfl (by(with_reducible and_intros)<;>first|exact⟨⟩|exact(cN (l.length:Int))) ?_));refine aj rfl ?_ ?_<;>intro hb0
 ·have hk:bT l.length=false:=by simpa using hb0
  have hj:=EY (OI hk);exact aD X [2,3] rfl (by trivial) (ak (ah rfl ⟨by rw[hj.1],by rw[hj.2],⟨⟩⟩))
 ·have hk:bT l.length=true:=by simpa using hb0
  have hcb:=EZ hk;have W5:=OJ hk;have h0z:=dQ (k7 ha 0);have hdl:(l.drop 1).length=l.length-1:=List.length_drop ..;refine an (aC X [] [(17,⟨true,[.agg (aY (l.getD (Int.toNat 0) (aG .DB)))]⟩)] [0,2,4] [] rfl (by(with_reducible and_intros)<;>first|exact⟨⟩|exact(cG (l.getD (Int.toNat 0) (aG .DB)) h0z)| (intros;omega)) (aa (aD X [2,4,19,20,21] rfl (by and_intros<;>first|exact⟨⟩| (intros;omega)) ?_)));rw[acz];refine au (aE (fun k=>k≤(l.drop 1).length∧OG l=LS (CH l k) ((l.drop 1).drop k)) (fun k:Nat=> [(21, .one ((aA k)))]) (fun k=> [(17, .arr (.sl .u8) (CH l k).rows)]) (fun k=>(l.drop 1).length-k) 0 (fun k=>rfl) ⟨Nat.zero_le _,W5⟩ rfl ?_);rintro k ⟨hk0,FH⟩;refine aq X [2,4,19,20,21,22] rfl ?_;refine aa (aj rfl ?_ ?_)<;>intro aV
  ·try simp only[aQ]at aV
   have hz1:=dQ (TN ha k);have hz2:=dQ (k7 (MX ha) k);refine an (aa (au (aD X [2,4,6,19,20,21] rfl (by and_intros<;>first|exact⟨⟩| (intros;omega)) (aa ?_))));have t1:=(iI (CH l k) ((l.drop 1).getD k (aG .DB)) hz1 hz2);refine aL X [] [(28,⟨true,bq t1⟩)] [2,4,7,8,19,20,21] [] rfl (by(with_reducible and_intros)<;>first|exact⟨⟩|exact t1) (aa (aq X [2,4,7,19,20,21,32] rfl ?_));refine aj rfl ?_ ?_<;>intro bI
   ·have hx:iz (CH l k) ((l.drop 1).getD k (aG .DB))=false:=by simpa using bI
    have hj:=EY (FH.trans (TM l k aV hx));exact aD X [2,3] rfl (by trivial) (ak (ah rfl ⟨by rw[hj.1],by rw[hj.2],⟨⟩⟩))
   ·have hx:iz (CH l k) ((l.drop 1).getD k (aG .DB))=true:=by simpa using bI
    have hs:=zA l k aV;refine an (dy X [2,4,19,20,21] rfl (by trivial) (kW 4 0 17 rfl (bg X [2,4,19,20,21] rfl ?_)));refine⟨k+1,⟨by omega,FH.trans (KU l k aV hx)⟩,by omega,?_⟩;rw[bh _ k rfl (by omega),hs];try rfl
  ·try simp only[aQ]at aV
   have hj:=Iw (FH.trans (OH l k aV));exact aI (aD X [2,3] rfl (by trivial) (ak (ah rfl ⟨by rw[hj.1],by rw[hj.2],⟨⟩⟩)))
theorem uB(l:List DB)(ir:l.length≤1048576)(ha:uo l):So 192 [.a (.sl .DB l)] [.agg (aY (jw l)),aH (CG l)]:=by
 refine av X call192 func192 ntmps192 rfl rfl ?_;intro zb;exact aq X [0,2] rfl (aC X [] [(5,⟨true,[.agg (aY (jw l)),aH (CG l)]⟩)] [2,3] [] rfl (by(with_reducible and_intros)<;>first|exact⟨⟩|exact(zS l ir ha)) (ak (ah rfl ⟨rfl,rfl,⟨⟩⟩)))
theorem pX(id rows b:Int):So 133 [aA id,aA rows,aA b] [.agg (bS (newS id rows b))]:=by
 refine av X call133 func133 ntmps133 rfl rfl ?_;intro zb;refine aq X [0,1,2,6] rfl (aa (aC X [] [(8,⟨false,[aH (inr id 0 3)]⟩),(12,⟨false,[aH (inr rows 1 64)]⟩),(17,⟨false,[aH (inr b 0 3)]⟩)] [0,1,2,6,19] [] rfl (by(with_reducible and_intros);(iterate 3 all_goals try first|exact⟨⟩|exact(aK id 0 3)|exact fun _=>(aK rows 1 64)|exact fun _=>(aK b 0 3))) ?_));refine aj rfl ?_ ?_<;>intro hb0
 ·have hk:E0 id rows b=false:=bH hb0 (by simp only[E0,aO]<;>first|rfl|ac_rfl);have hn:newS id rows b=⟨0,0,0,[],0⟩:=by rw[newS,hk];rfl
  exact aD X [6] rfl (by trivial) (ak (ah rfl (by and_intros<;>first|exact⟨⟩| (rw[hn];done))))
 ·have hk:E0 id rows b=true:=bF hb0 (by simp only[E0,aO]<;>first|rfl|ac_rfl);have hn:newS id rows b=⟨id,rows,0,[],b⟩:=by rw[newS,if_pos hk]
  exact an (aD X [6] rfl (by trivial) (ak (ah rfl (by and_intros<;>first|exact⟨⟩| (rw[hn];done)))))
theorem ox(s:bp)(hz:s.received.length≤1048576∧ ∀r,r∈s.received→cE List.length r.share.rows≤1048576):So 268 [.agg (bS s)] [.agg (bS (jB s))]:=by
 refine av X call268 func268 ntmps268 rfl rfl ?_;intro zb;refine aq X [1,2] rfl (aC X [] [(5,⟨true,[.agg (bS s)]⟩)] [1,2,3] [] rfl (by(with_reducible and_intros)<;>first|exact⟨⟩|exact(gK s hz)) (aa (aC X [] [(7,⟨false,[aH (cj s)]⟩)] [2,3,12] [] rfl (by(with_reducible and_intros)<;>first|exact⟨⟩|exact(cW s)) ?_)));refine aj rfl ?_ ?_<;>intro hb0
 ·have hk:E1 s=true:=iA hb0 (by simp only[E1,aO]<;>first|rfl|ac_rfl);have hn:jB s=⟨s.id,s.rows,IntKind.i64.wrap (s.round+1),[],s.behavior⟩:=by rw[jB,if_pos hk]
  exact aq X [2,3] rfl (bg X [2,3] rfl (aD X [2] rfl (by trivial) (ak (ah rfl (by and_intros<;>first|exact⟨⟩| (rw[hn];done))))))
 ·have hk:E1 s=false:=kX hb0 (by simp only[E1,aO]<;>first|rfl|ac_rfl);have hn:jB s=s:=by rw[jB,hk];rfl
  exact an (aD X [2] rfl (by trivial) (ak (ah rfl (by and_intros<;>first|exact⟨⟩| (rw[hn];done)))))
theorem wk(key:Int)(a:cM)(h1:a.selection.length≤262144)(h2:a.data.length≤262144):So 391 [aA key, .agg (eS a)] [aH (TQ key a)]:=by
 refine av X call391 func391 ntmps391 rfl rfl ?_;intro zb;exact aq X [0,3] rfl (aa (aF X [] [(9,⟨false,[aA (EM key a.server a.round a.selection a.data)]⟩)] [4] [] 127 0 MO (by kernel_rfl) rfl (by kernel_rfl) (by(with_reducible and_intros)<;>first|exact⟨⟩|exact(kZ key a h1 h2)) (ak (ah rfl ⟨rfl,⟨⟩⟩))))
theorem uC(key:Int)(d:DB)(a:cM)(h1:a.selection.length≤262144)(h2:a.data.length≤262144):So 360 [aA key, .agg (aY d), .agg (eS a)] [aH (fls key d a)]:=by
 refine av X call360 func360 ntmps360 rfl rfl ?_;intro zb;exact aq X [0,4,5] rfl (aa (aF X [] [(9,⟨false,[aH (TQ key a)]⟩),(16,⟨false,[.a (.sl .u8 (fU d a.selection))]⟩),(17,⟨false,[aH (a.data==(fU d a.selection))]⟩)] [6] [] 16383 0 MO (by kernel_rfl) rfl (by kernel_rfl) (by(with_reducible and_intros);(iterate 3 all_goals try first|exact⟨⟩|exact(wk key a h1 h2)|exact fun _=>(nG d a.selection)|exact fun _=>(gH a.data (fU d a.selection)))) (ak (ah rfl ⟨(congrArg Value.bool (by simp only[fls,aO]<;>first|rfl|ac_rfl)),⟨⟩⟩))))
theorem zT(l:List DB)(ir:l.length≤1048576)(ha:uo l):So 357 [.a (.sl .DB l)] [.agg (aY (jw l)),aH (CG l)]:=by
 refine av X call357 func357 ntmps357 rfl rfl ?_;intro zb;refine aq X [0,2] rfl (aa (aC X [] [(10,⟨false,[aH (bT (l.length:Int))]⟩),(16,⟨false,[aH (cL (l.getD (Int.toNat 0) (aG .DB)))]⟩)] [0,2,18] [] rfl ⟨fun _=>cO _,fun h=>aeK h,ez _,⟨⟩⟩ ?_));refine aj rfl ?_ ?_<;>intro hb0
 ·have hk:bT l.length=false:=aeJ ha hb0;have hj:=EY (OI hk);exact aD X [2,3] rfl (by trivial) (ak (ah rfl ⟨by rw[hj.1],by rw[hj.2],⟨⟩⟩))
 ·have hk:bT l.length=true:=acA hb0;have hcb:=EZ hk;have W5:=OJ hk;have h0z:=dQ (k7 ha 0);have hdl:(l.drop 1).length=l.length-1:=List.length_drop ..;refine an (aC X [] [(23,⟨true,[.agg (aY (l.getD (Int.toNat 0) (aG .DB)))]⟩)] [0,2,4] [] rfl (by(with_reducible and_intros)<;>first|exact⟨⟩|exact(eg (l.getD (Int.toNat 0) (aG .DB)) h0z)| (intros;omega)) (aa (aq X [0,2,4,5] rfl ?_)));refine au (aE (fun k=>(1≤k∧k≤l.length)∧OG l=LS (CH l (k-1)) ((l.drop 1).drop (k-1))) (fun k:Nat=> [(5, .one ((aA k)))]) (fun k=> [(23, .arr (.sl .u8) (CH l (k-1)).rows)]) (fun k=>l.length-k) 1 (fun k=>rfl) ⟨by omega,W5⟩ rfl ?_);rintro k ⟨hk0,FH⟩;refine aa (aq X [0,2,4,5,27] rfl ?_);refine aj rfl ?_ ?_<;>intro aV
  ·try simp only[aQ]at aV
   have hz1:=dQ (TN ha (k-1));have hz2:=dQ (k7 ha k);have hge:(l.drop 1).getD (k-1) (aG .DB)=(l.getD k (aG .DB)):=by rw[K7,show k-1+1=k by omega]
   have K5:k-1<(l.drop 1).length:=by omega
   refine an (aa (au (aa ?_)));have t1:=(iJ (CH l (k-1)) (l.getD k (aG .DB)) hz1 hz2);refine aF X [] [(36,⟨true,bq t1⟩)] [0,2,4,5,6,7] [] 3071 1 MO (by kernel_rfl) rfl (by kernel_rfl) (by(with_reducible and_intros)<;>first|exact⟨⟩|exact t1| (intros;omega)) (aa (aq X [0,2,4,5,6,40] rfl ?_));refine aj rfl ?_ ?_<;>intro bI
   ·have hx:iz (CH l (k-1)) (l.getD k (aG .DB))=false:=by simpa using bI
    have hj:=EY (FH.trans (TM l (k-1) K5 (by rw[hge];exact hx)));exact aD X [2,3] rfl (by trivial) (ak (ah rfl ⟨by rw[hj.1],by rw[hj.2],⟨⟩⟩))
   ·have hx:iz (CH l (k-1)) (l.getD k (aG .DB))=true:=by simpa using bI
    have hs:=zA l (k-1) K5;rw[hge]at hs;refine an (dy X [0,2,4,5] rfl (by trivial) (kW 4 0 23 rfl (bg X [0,2,4,5] rfl ?_)));refine⟨k+1,⟨by omega,by rw[FH,KU l (k-1) K5 (by rw[hge];exact hx),show k+1-1=k-1+1 by omega]⟩,by omega,?_⟩;rw[bh _ k rfl (by omega),show k+1-1=k-1+1 by omega,hs];try rfl
  ·try simp only[aQ]at aV
   have hj:=Iw (FH.trans (OH l (k-1) (by omega)));exact aI (aD X [2,3] rfl (by trivial) (ak (ah rfl ⟨by rw[hj.1],by rw[hj.2],⟨⟩⟩)))
theorem uD(l:List DB)(ir:l.length≤1048576)(ha:uo l):So 298 [.a (.sl .DB l)] [.agg (aY (jw l)),aH (CG l)]:=by
 refine av X call298 func298 ntmps298 rfl rfl ?_;intro zb;exact aq X [0,2] rfl (aC X [] [(5,⟨true,[.agg (aY (jw l)),aH (CG l)]⟩)] [2,3] [] rfl (by(with_reducible and_intros)<;>first|exact⟨⟩|exact(zT l ir ha)) (ak (ah rfl ⟨rfl,rfl,⟨⟩⟩)))
theorem pY(id rows b:Int):So 95 [aA id,aA rows,aA b] [.agg (bS (newS id rows b))]:=by
 refine av X call95 func95 ntmps95 rfl rfl ?_;intro zb;refine aq X [0,1,2,6] rfl (aa (aC X [] [(8,⟨false,[aH (inr id 0 3)]⟩),(12,⟨false,[aH (inr rows 1 64)]⟩),(17,⟨false,[aH (inr b 0 3)]⟩)] [0,1,2,6,19] [] rfl (by(with_reducible and_intros);(iterate 3 all_goals try first|exact⟨⟩|exact(aP id 0 3)|exact fun _=>(aP rows 1 64)|exact fun _=>(aP b 0 3))) ?_));refine aj rfl ?_ ?_<;>intro hb0
 ·have hk:E0 id rows b=false:=bH hb0 (by simp only[E0,aO]<;>first|rfl|ac_rfl);have hn:newS id rows b=⟨0,0,0,[],0⟩:=by rw[newS,hk];rfl
  exact aD X [6] rfl (by trivial) (ak (ah rfl (by and_intros<;>first|exact⟨⟩| (rw[hn];done))))
 ·have hk:E0 id rows b=true:=bF hb0 (by simp only[E0,aO]<;>first|rfl|ac_rfl);have hn:newS id rows b=⟨id,rows,0,[],b⟩:=by rw[newS,if_pos hk]
  exact an (aD X [6] rfl (by trivial) (ak (ah rfl (by and_intros<;>first|exact⟨⟩| (rw[hn];done)))))
theorem oy(s:bp)(hz:s.received.length≤1048576∧ ∀r,r∈s.received→cE List.length r.share.rows≤1048576):So 363 [.agg (bS s)] [.agg (bS (jB s))]:=by
 refine av X call363 func363 ntmps363 rfl rfl ?_;intro zb;refine aq X [1,2] rfl (aa (aC X [] [(4,⟨false,[aH (cj s)]⟩)] [1,2,10] [] rfl (by(with_reducible and_intros)<;>first|exact⟨⟩|exact(cX s)) ?_));refine aj rfl ?_ ?_<;>intro hb0
 ·have hk:E1 s=false:=bH hb0 (by simp only[E1,aO]<;>first|rfl|ac_rfl);have hn:jB s=s:=by rw[jB,hk];rfl
  exact aC X [] [(12,⟨true,[.agg (bS s)]⟩)] [2] [] rfl (by(with_reducible and_intros)<;>first|exact⟨⟩|exact(kj s hz)) (ak (ah rfl (by and_intros<;>first|exact⟨⟩| (rw[hn];done))))
 ·have hk:E1 s=true:=bF hb0 (by simp only[E1,aO]<;>first|rfl|ac_rfl);have hn:jB s=⟨s.id,s.rows,IntKind.i64.wrap (s.round+1),[],s.behavior⟩:=by rw[jB,if_pos hk]
  exact an (aD X [2] rfl (by trivial) (ak (ah rfl (by and_intros<;>first|exact⟨⟩| (rw[hn];done)))))
end
section
set_option maxRecDepth 100000
theorem CM(a:gZ)(r:Int)(d:DB)(h0:dA a≤1048576)(Z3:cE List.length d.rows≤1048576):So 267 [.agg (cV a),aA r, .agg (aY d)] [.agg [cF a.rows, .vw 0 none .aJ (GQ a r d)],aH (sr a r d)]:=by
 refine av X call267 func267 ntmps267 rfl rfl ?_;intro zb;refine aq X [1,3,5,6] rfl (aC X [] [(10,⟨true,[.agg (cV a)]⟩)] [1,3,5,6,8] [] rfl (by(with_reducible and_intros)<;>first|exact⟨⟩|exact(nJ a h0)) (aa (aC X [] [(12,⟨false,[aH (eV a)]⟩),(16,⟨false,[aH (inr r 0 100000)]⟩),(22,⟨false,[aA (dr a)]⟩),(27,⟨false,[aH (cL d)]⟩)] [1,5,6,8,37] [] rfl (by(with_reducible and_intros);(iterate 4 all_goals try first|exact⟨⟩|exact(kC a)|exact fun _=>(aK r 0 100000)|exact fun _=>(kS a)|exact fun _=>(dc d))) ?_)));refine aj rfl ?_ ?_<;>intro hb0
 ·have hk:sr a r d=false:=bH hb0 (by simp only[sr,aO]<;>first|rfl|ac_rfl);have hn:=T4 hk;exact aD X [6,7] rfl (by trivial) (ak (ah rfl ⟨rfl,by rw[hn],by rw[hk],⟨⟩⟩))
 ·have hk:sr a r d=true:=bF hb0 (by simp only[sr,aO]<;>first|rfl|ac_rfl);have hn:=OV hk;have hkb:=T6 hk;have hal:(uq a r d).length=a.rounds.length+1:=by unfold uq;rw[List.length_append];rfl
  refine an (aa (aF X [] [(43,⟨true,[.agg (aY d)]⟩),(500045,⟨true,[]⟩)] [6,8] [] 127 0 MO (by kernel_rfl) rfl (by kernel_rfl) (by(repeat' with_reducible first|exact aR|refine bf ?_ ?_|apply And.intro)<;>first|exact(cG d Z3)|exact rfl|exact⟨rfl,bA _ (by decide)⟩| (simp only[dN,maxLen,lens];omega)) ?_));rw[show a.rounds++ [(⟨r,d⟩:aJ)]=(uq a r d)from rfl];refine aa (aq X [6,8,51] rfl ?_);refine aj rfl ?_ ?_<;>intro aV
  ·try simp only[aQ]at aV
   have h8:(8:Int)<((uq a r d).length:Int):=aV;rw[if_pos h8]at hn;exact dy X [6,8] rfl (by and_intros<;>first|exact⟨⟩| (intros;omega)) (aD X [6,7] rfl (by trivial) (ak (ah rfl ⟨rfl,by rw[hn];simp,by rw[hk],⟨⟩⟩)))
  ·try simp only[aQ]at aV
   have h8: ¬(8:Int)<((uq a r d).length:Int):=by omega
   rw[if_neg h8]at hn;exact an (aD X [6,7] rfl (by trivial) (ak (ah rfl ⟨rfl,by rw[hn],by rw[hk],⟨⟩⟩)))
theorem CN(a:gZ)(r:Int)(d:DB)(h0:dA a≤1048576)(Z3:cE List.length d.rows≤1048576):So 362 [.agg (cV a),aA r, .agg (aY d)] [.agg [cF a.rows, .vw 0 none .aJ (GQ a r d)],aH (sr a r d)]:=by
 refine av X call362 func362 ntmps362 rfl rfl ?_;intro zb;refine aq X [1,3,5,6] rfl (aC X [] [(10,⟨true,[.agg (cV a)]⟩)] [1,3,5,6,8] [] rfl (by(with_reducible and_intros)<;>first|exact⟨⟩|exact(uc a h0)) (aa (aC X [] [(12,⟨false,[aH (eV a)]⟩),(16,⟨false,[aH (inr r 0 100000)]⟩),(22,⟨false,[aA (dr a)]⟩),(27,⟨false,[aH (cL d)]⟩)] [1,5,6,8,37] [] rfl (by(with_reducible and_intros);(iterate 4 all_goals try first|exact⟨⟩|exact(kD a)|exact fun _=>(aP r 0 100000)|exact fun _=>(kU a)|exact fun _=>(cO d))) ?_)));refine aj rfl ?_ ?_<;>intro hb0
 ·have hk:sr a r d=false:=bH hb0 (by simp only[sr,aO]<;>first|rfl|ac_rfl);have hn:=T4 hk;exact aD X [6,7] rfl (by trivial) (ak (ah rfl ⟨rfl,by rw[hn],by rw[hk],⟨⟩⟩))
 ·have hk:sr a r d=true:=bF hb0 (by simp only[sr,aO]<;>first|rfl|ac_rfl);have hn:=OV hk;have hkb:=T6 hk;have hal:(uq a r d).length=a.rounds.length+1:=by unfold uq;rw[List.length_append];rfl
  refine an (aa (aF X [] [(43,⟨true,[.agg (aY d)]⟩),(500045,⟨true,[]⟩)] [6,8] [] 127 0 MO (by kernel_rfl) rfl (by kernel_rfl) (by(repeat' with_reducible first|exact aR|refine bf ?_ ?_|apply And.intro)<;>first|exact(eg d Z3)|exact rfl|exact⟨rfl,bA _ (by decide)⟩| (simp only[dN,maxLen,lens];omega)) ?_));rw[show a.rounds++ [(⟨r,d⟩:aJ)]=(uq a r d)from rfl];refine aa (aq X [6,8,51] rfl ?_);refine aj rfl ?_ ?_<;>intro aV
  ·try simp only[aQ]at aV
   have h8:(8:Int)<((uq a r d).length:Int):=aV;rw[if_pos h8]at hn;exact dy X [6,8] rfl (by and_intros<;>first|exact⟨⟩| (intros;omega)) (aD X [6,7] rfl (by trivial) (ak (ah rfl ⟨rfl,by rw[hn];simp,by rw[hk],⟨⟩⟩)))
  ·try simp only[aQ]at aV
   have h8: ¬(8:Int)<((uq a r d).length:Int):=by omega
   rw[if_neg h8]at hn;exact an (aD X [6,7] rfl (by trivial) (ak (ah rfl ⟨rfl,by rw[hn],by rw[hk],⟨⟩⟩)))
theorem lQ(x:aW)(rd id:Int)(hl:x.az.length≤4)(hw:1≤x.rows∧x.rows≤64)(hU:E3 rd x.az)(hr:x.replaced.length≤4194400):ff ty Tryz.prog 266 [(1000, .box [cF x.rows, .own 11, .own 12,cF x.aB.rows, .own 13,cF x.bn,cF x.seed,cF x.round, .own 14,cF x.cancelled]),(11, .arr .bp x.az),(12, .arr .aZ x.af),(13, .arr .aJ x.aB.rounds),(14, .arr .int x.replaced)] [.a (.ptr 1000 0),aA id] [(1000, .box [cF x.rows, .own 11, .own 12,cF x.aB.rows, .own 13,cF x.bn,cF x.seed,cF x.round, .own 14,cF x.cancelled]),(11, .arr .bp (zB x.rows rd (x.az,x.replaced) id).1),(12, .arr .aZ x.af),(13, .arr .aJ x.aB.rounds),(14, .arr .int (zB x.rows rd (x.az,x.replaced) id).2)] []:=by
 refine cY X call266 func266 rfl rfl (by decide) ntmps266 (by simp) rfl ?_;intro zb;refine aa ?_;have t1:=(aK id 0 (IntKind.i64.wrap ((x.az.length:Int)-1)));refine aL X [] [(12,⟨false,bq t1⟩)] [0,1,12] [] rfl (by(with_reducible and_intros)<;>first|exact⟨⟩|exact t1) ?_;refine aj rfl ?_ ?_<;>intro hb0
 ·have hk:xG x.az id=true:=by unfold xG;simpa using hb0
  have hb:=T3 hl hk;have hp:(zB x.rows rd (x.az,x.replaced) id)=_:=OR (rows:=x.rows) (rd:=rd) (p:=(x.az,x.replaced)) hk;have hns:=zP (id:=id) (by omega) hw;have hrd:=(pW hU (k:=id.toNat) (by omega)).1;refine aC X [] [(18,⟨true,[.agg (bS (newS id x.rows 0))]⟩)] [0,1,4] [] rfl (by(with_reducible and_intros)<;>first|exact⟨⟩|exact(pX id x.rows 0)) ?_;rw[hns];refine aD X [0,1,4] rfl (by and_intros<;>first|exact⟨⟩| (intros;omega)) ?_;rw[hrd];exact aa (aF X [] [] [0,1] [] 127 0 MO (by kernel_rfl) rfl (by kernel_rfl) (by and_intros<;>first|exact⟨⟩| (intros;omega)) (aL X [(42,14)] [] [] [] rfl (by and_intros<;>first|exact⟨⟩|exact rfl| (simp only[dN,maxLen,lens];omega)) (qO rfl (by and_intros<;>first|exact⟨⟩|rfl| (rw[hp];done)))))
 ·have hk:xG x.az id=false:=by unfold xG;simpa using hb0
  have hp:(zB x.rows rd (x.az,x.replaced) id)=_:=OS (rows:=x.rows) (rd:=rd) (p:=(x.az,x.replaced)) hk;exact an (qO rfl (by and_intros<;>first|exact⟨⟩|rfl| (rw[hp];done)))
theorem oz(x:aW)(rd id:Int)(hl:x.az.length≤4)(hw:1≤x.rows∧x.rows≤64)(hU:E3 rd x.az)(hr:x.replaced.length≤4194400)(hxr:x.round=rd):ff ty Tryz.prog 361 [(1000, .box [cF x.rows, .own 11, .own 12,cF x.aB.rows, .own 13,cF x.bn,cF x.seed,cF x.round, .own 14,cF x.cancelled]),(11, .arr .bp x.az),(12, .arr .aZ x.af),(13, .arr .aJ x.aB.rounds),(14, .arr .int x.replaced)] [.a (.ptr 1000 0),aA id] [(1000, .box [cF x.rows, .own 11, .own 12,cF x.aB.rows, .own 13,cF x.bn,cF x.seed,cF x.round, .own 14,cF x.cancelled]),(11, .arr .bp (zB x.rows rd (x.az,x.replaced) id).1),(12, .arr .aZ x.af),(13, .arr .aJ x.aB.rounds),(14, .arr .int (zB x.rows rd (x.az,x.replaced) id).2)] []:=by
 refine cY X call361 func361 rfl rfl (by decide) ntmps361 (by simp) rfl ?_;intro zb;refine aa (aa ?_);have t1:=(aP id 0 (IntKind.i64.wrap ((x.az.length:Int)-1)));refine aL X [] [(12,⟨false,bq t1⟩)] [0,1,13] [] rfl (by(with_reducible and_intros)<;>first|exact⟨⟩|exact t1) ?_;refine aj rfl ?_ ?_<;>intro hb0
 ·have hk:xG x.az id=false:=by unfold xG;simpa using hb0
  have hp:(zB x.rows rd (x.az,x.replaced) id)=_:=OS (rows:=x.rows) (rd:=rd) (p:=(x.az,x.replaced)) hk;exact ak (aS rfl (by and_intros<;>first|exact⟨⟩|rfl| (rw[hp];done)))
 ·have hk:xG x.az id=true:=by unfold xG;simpa using hb0
  have hb:=T3 hl hk;have hp:(zB x.rows rd (x.az,x.replaced) id)=_:=OR (rows:=x.rows) (rd:=rd) (p:=(x.az,x.replaced)) hk;have hns:=zP (id:=id) (by omega) hw;have hrd:=(pW hU (k:=id.toNat) (by omega)).1;refine an (aC X [] [(19,⟨true,[.agg (bS (newS id x.rows 0))]⟩)] [0,1,4] [] rfl (by(with_reducible and_intros)<;>first|exact⟨⟩|exact(pY id x.rows 0)) ?_);rw[hns];refine aD X [0,1,4] rfl (by trivial) ?_;rw[hxr];exact aa (aF X [] [] [0,1] [] 127 0 MO (by kernel_rfl) rfl (by kernel_rfl) (by and_intros<;>first|exact⟨⟩| (intros;omega)) (aL X [(39,14)] [] [] [] rfl (by and_intros<;>first|exact⟨⟩|exact rfl| (simp only[dN,maxLen,lens];omega)) (qO rfl (by and_intros<;>first|exact⟨⟩|rfl| (rw[hp];done)))))
theorem zU(x:aW)(g:List Int)(d:DB)(h0:wB x)(hgl:g.length≤64)(Z3:cE List.length d.rows≤1048576):So 195 [.agg (aN x), .a (.sl .int g), .agg (aY d)] [.agg [cF (cz x g d).rows, .sl .bp (cz x g d).az, .sl .aZ (cz x g d).af,cF (cz x g d).aB.rows, .vw 0 none .aJ (cz x g d).aB.rounds,cF (cz x g d).bn,cF (cz x g d).seed,cF (cz x g d).round, .sl .int (cz x g d).replaced,cF (cz x g d).cancelled]]:=by
 refine av X call195 func195 ntmps195 rfl rfl ?_;intro zb;have hls:cE dL x.az≤1048576∧cE bt x.af≤1048576∧dA x.aB≤1048576∧x.replaced.length≤4194304:=h0;have hcp:=OT x g;refine aq X [1,3,5,6] rfl (aC X [(7,907)] [(13,⟨true,[.agg (aN x)]⟩)] [1,3,5,6,7] [] rfl (by(with_reducible and_intros)<;>first|exact⟨⟩|exact(dj x h0)) (aa (aC X [] [(15,⟨false,[aH (okW x)]⟩)] [1,3,5,6,7,21] [] rfl (by(with_reducible and_intros)<;>first|exact⟨⟩|exact(bQ x)) ?_)));refine aj rfl ?_ ?_<;>intro hb0
 ·have hk:gX x=false:=bH hb0 (by simp only[gX,aO]<;>first|rfl|ac_rfl);have hc:=GV (g:=g) (d:=d) hk;exact aD X [6] rfl (by trivial) (ak (ah rfl (by and_intros<;>first|exact⟨⟩| (rw[hc];done))))
 ·have hk:gX x=true:=bF hb0 (by simp only[gX,aO]<;>first|rfl|ac_rfl);obtain⟨hok,hr9⟩:=IE hk;have hsv:=dV hok;have Qx:=(nq hok).1;have hcU:=Yx g hok;refine an (aa (aq X [1,3,5,6,7,25] rfl ?_));refine aj rfl ?_ ?_<;>intro aV
  ·try simp only[aQ]at aV
   have hg0:g.length=0:=by omega
   have hc:=La (d:=d) hk hg0;have hgn:g= []:=List.length_eq_zero_iff.1 hg0;have t1:=(CM x.aB x.round d hls.2.2.1 Z3);refine aL X [] [(32,⟨true,bq t1⟩)] [1,6,7] [] rfl (by(with_reducible and_intros)<;>first|exact⟨⟩|exact t1) (aa (aq X [6,7,40,41,42] rfl ?_));refine au (aE (fun k=>k≤g.length) (fun k:Nat=> [(42, .one ((aA k)))]) (fun k=> [(14, .arr .bp (E6 x g k).1),(21, .arr .int (E6 x g k).2)]) (fun k=>g.length-k) 0 (fun k=>rfl) (Nat.zero_le _) rfl ?_);rintro k hk0;have yX:=zQ (x:=x) hk0;have hU:=K9 hok hk0;refine aq X [6,7,40,41,42,43] rfl ?_;refine aa (aj rfl ?_ ?_)<;>intro bI
   ·try simp only[aQ]at bI
    omega
   ·try simp only[aQ]at bI
    rw[vK bI];refine aI (aa (aq X [6,7,50,51,52] rfl ?_));refine au (aE (fun k1=>k1≤x.az.length) (fun k1:Nat=> [(52, .one ((aA k1)))]) (fun k1=> [(14, .arr .bp (CL (rM x g).1 k1))]) (fun k1=>x.az.length-k1) 0 (fun k1=>rfl) (Nat.zero_le _) (by rw[OU];rfl) ?_);intro k1 hk1;have DF:(CL (rM x g).1 k1).length=x.az.length:=by rw[Dg (by omega)];exact hcp.1
    refine aq X [6,7,50,51,52,53] rfl ?_;refine aa (aj rfl ?_ ?_)<;>intro eE
    ·try simp only[aQ]at eE
     have hgt:=Df (l:=(rM x g).1) (k:=k1) (by omega);have Z4:=pW hcU (k:=k1) (by omega);have FN:=zR (l:=(rM x g).1) (k:=k1) (by omega);refine an (aa (au (aD X [6,7,10,11,50,51,52] rfl (by and_intros<;>first|exact⟨⟩| (intros;omega)) (aF X [] [(61,⟨true,[.agg (bS (jB ((CL (rM x g).1 k1).getD k1 (aG .bp))))]⟩)] [6,7,50,51,52] [] 63 0 MO (by kernel_rfl) rfl (by kernel_rfl) (by(with_reducible and_intros)<;>first|exact⟨⟩|exact(ox ((CL (rM x g).1 k1).getD k1 (aG .bp)) (by rw[hgt];exact Z4.2))| (intros;omega)) (bg X [6,7,50,51,52] rfl ?_)))));refine⟨k1+1,by omega,by omega,?_⟩;rw[bh _ k1 rfl (by omega), ←FN];try rfl
    ·try simp only[aQ]at eE
     rw[Dh (by omega)];exact aI (aq X [6,7] rfl (aD X [6] rfl (by trivial) (ak (ah rfl (by and_intros<;>first|exact⟨⟩| (rw[hc];done))))))
  ·try simp only[aQ]at aV
   have hg0: ¬g.length=0:=by omega
   have hc:=Lb (d:=d) hk hg0;refine bg X [1,6,7] rfl (aa (aq X [6,7,40,41,42] rfl ?_));refine au (aE (fun k=>k≤g.length) (fun k:Nat=> [(42, .one ((aA k)))]) (fun k=> [(14, .arr .bp (E6 x g k).1),(21, .arr .int (E6 x g k).2)]) (fun k=>g.length-k) 0 (fun k=>rfl) (Nat.zero_le _) rfl ?_);rintro k hk0;have yX:=zQ (x:=x) hk0;have hU:=K9 hok hk0;refine aq X [6,7,40,41,42,43] rfl ?_;refine aa (aj rfl ?_ ?_)<;>intro bI
   ·try simp only[aQ]at bI
    have hst:=K8 (x:=x) bI;refine an (aa (au (aD X [6,7,9,40,41,42] rfl (by and_intros<;>first|exact⟨⟩| (intros;omega)) ?_)));have t1:=(lQ (⟨x.rows,(E6 x g k).1,x.af,x.aB,x.bn,x.seed,x.round,(E6 x g k).2,IntKind.i64.wrap (x.cancelled+1)⟩:aW) x.round (g.getD k (aG .int)) (by show(E6 x g k).1.length≤4;omega) Qx hU (by show(E6 x g k).2.length≤_;omega));refine aL X [] [(800047,⟨true,ji t1⟩),(700047,⟨true, .agg [.ptr 1000 907, .ptr 11 14, .ptr 12 15, .ptr 13 17, .ptr 14 21]:: .agg []::jj t1⟩)] [6,7,40,41,42] [] rfl (by(with_reducible and_intros)<;>first|exact⟨⟩|exact t1) (bg X [6,7,40,41,42] rfl ?_);refine⟨k+1,by omega,by omega,?_⟩;rw[bh _ k rfl (by omega), ←hst];try rfl
   ·try simp only[aQ]at bI
    rw[vK bI];refine aI (aa (aq X [6,7,50,51,52] rfl ?_));refine au (aE (fun k1=>k1≤x.az.length) (fun k1:Nat=> [(52, .one ((aA k1)))]) (fun k1=> [(14, .arr .bp (CL (rM x g).1 k1))]) (fun k1=>x.az.length-k1) 0 (fun k1=>rfl) (Nat.zero_le _) (by rw[OU];rfl) ?_);intro k1 hk1;have DF:(CL (rM x g).1 k1).length=x.az.length:=by rw[Dg (by omega)];exact hcp.1
    refine aq X [6,7,50,51,52,53] rfl ?_;refine aa (aj rfl ?_ ?_)<;>intro eE
    ·try simp only[aQ]at eE
     have hgt:=Df (l:=(rM x g).1) (k:=k1) (by omega);have Z4:=pW hcU (k:=k1) (by omega);have FN:=zR (l:=(rM x g).1) (k:=k1) (by omega);refine an (aa (au (aD X [6,7,10,11,50,51,52] rfl (by and_intros<;>first|exact⟨⟩| (intros;omega)) (aF X [] [(61,⟨true,[.agg (bS (jB ((CL (rM x g).1 k1).getD k1 (aG .bp))))]⟩)] [6,7,50,51,52] [] 63 0 MO (by kernel_rfl) rfl (by kernel_rfl) (by(with_reducible and_intros)<;>first|exact⟨⟩|exact(ox ((CL (rM x g).1 k1).getD k1 (aG .bp)) (by rw[hgt];exact Z4.2))| (intros;omega)) (bg X [6,7,50,51,52] rfl ?_)))));refine⟨k1+1,by omega,by omega,?_⟩;rw[bh _ k1 rfl (by omega), ←FN];try rfl
    ·try simp only[aQ]at eE
     rw[Dh (by omega)];exact aI (aq X [6,7] rfl (aD X [6] rfl (by trivial) (ak (ah rfl (by and_intros<;>first|exact⟨⟩| (rw[hc];done))))))
theorem xP(x:aW)(h0:wB x):So 194 [.agg (aN x)] [.agg (aN (testW x))]:=by
 refine av X call194 func194 ntmps194 rfl rfl ?_;intro zb;have hls:cE dL x.az≤1048576∧cE bt x.af≤1048576∧dA x.aB≤1048576∧x.replaced.length≤4194304:=h0;have FN:=YA h0;refine aq X [1,2] rfl (aC X [(3,903)] [(13,⟨true,[.agg (aN x)]⟩)] [1,2,3] [] rfl (by(with_reducible and_intros)<;>first|exact⟨⟩|exact(dj x h0)) (aC X [] [(16,⟨false,[aA (dr x.aB)]⟩)] [1,2,3,4] [] rfl (by(with_reducible and_intros)<;>first|exact⟨⟩|exact(kS x.aB)) (aa ?_)));have t1:=(fL x.aB (dr x.aB) FN);refine aL X [(21,80)] [(21,⟨true,bq t1⟩)] [1,2,3,4,5,6] [] rfl (by(with_reducible and_intros)<;>first|exact⟨⟩|exact t1) (aa (aC X [] [(25,⟨false,[aH (okW x)]⟩)] [1,2,3,4,5,30] [] rfl (by(with_reducible and_intros)<;>first|exact⟨⟩|exact(bQ x)) ?_));refine aj rfl ?_ ?_<;>intro hb0
 ·have hk:zC x=false:=bH hb0 (by simp only[zC,aO]<;>first|rfl|ac_rfl);have hc:=Ld hk;exact aD X [2] rfl (by trivial) (ak (ah rfl (by and_intros<;>first|exact⟨⟩| (rw[hc];done))))
 ·have hk:zC x=true:=bF hb0 (by simp only[zC,aO]<;>first|rfl|ac_rfl);have hc:=GW hk;have hkk:=hk;rw[zC,Bool.and_eq_true]at hkk;obtain⟨hok,hah⟩:=hkk;have hsv:=dV hok;have Qx:=(nq hok).1;refine an (aa (aq X [1,2,3,4,5,33,34,35] rfl ?_));refine au (aE (fun k=>k≤x.az.length) (fun k:Nat=> [(35, .one ((aA k)))]) (fun k=> [(14, .arr .bp (CJ x k).1),(21, .arr .int (CJ x k).2)]) (fun k=>x.az.length-k) 0 (fun k=>rfl) (Nat.zero_le _) rfl ?_);rintro k hk0;have htb:=Yz hok k hk0;refine aq X [1,2,3,4,5,33,34,35,36] rfl ?_;refine aa (aj rfl ?_ ?_)<;>intro aV
  ·try simp only[aQ]at aV
   have hrl:=gU (kh x.seed [227,x.round,(k:Int)]) x.rows;have hab:=Yu (x.az.getD k (aG .bp)) (iT x.bn (k:Int)) (dr x.aB) (gO x.aB.rounds (dr x.aB)) (v:=(cg (kh x.seed [227,x.round,(k:Int)]) x.rows)) (by omega);have hsg:=Yy hok hah (kh x.seed [227,x.round,(k:Int)]);refine an (aa (au (aD X [1,2,3,4,5,7,8,33,34,35] rfl (by and_intros<;>first|exact⟨⟩| (intros;omega)) (aC X [] [(43,⟨false,[aA (iT x.bn (k:Int))]⟩)] [1,2,3,4,5,7,8,9,33,34,35] [] rfl (by(with_reducible and_intros)<;>first|exact⟨⟩|exact(iB x.bn (k:Int))) (aa ?_)))));have t1:=(rK (x.az.getD k (aG .bp)) (iT x.bn (k:Int)) (dr x.aB) (gO x.aB.rounds (dr x.aB)) (cg (kh x.seed [227,x.round,(k:Int)]) x.rows) (by omega));refine aF X [] [(55,⟨false,[aA (kh x.seed [227,x.round,(k:Int)])]⟩),(58,⟨true,[.a (.sl .int (cg (kh x.seed [227,x.round,(k:Int)]) x.rows))]⟩),(59,⟨true,bq t1⟩)] [1,2,3,4,5,7,9,10,33,34,35] [] 1572863 1 MO (by kernel_rfl) rfl (by kernel_rfl) (by(repeat' with_reducible first|exact aR|refine bf ?_ ?_|apply And.intro);(iterate 3 all_goals try first|exact(bD x.seed [227,x.round,(k:Int)] (by first|assumption|omega| (simp;done)| (simp;omega)))|exact(j7 (kh x.seed [227,x.round,(k:Int)]) x.rows)|exact t1);all_goals first|exact⟨rfl,bA _ (by decide)⟩) ?_;refine aa ?_;have t1:=(uA (iT x.bn (k:Int)) (gO x.aB.rounds (dr x.aB)) (tsA x k) hab.1 hab.2);refine aL X [] [(65,⟨false,bq t1⟩)] [1,2,3,4,5,7,33,34,35,65] [] rfl (by(with_reducible and_intros)<;>first|exact⟨⟩|exact t1) ?_;refine aj rfl ?_ ?_<;>intro bI
   ·have hst:=OL (x:=x) (n:=k) bI;have t1:=(lQ (⟨x.rows,(CJ x k).1,x.af,x.aB,x.bn,x.seed,x.round,(CJ x k).2,x.cancelled⟩:aW) x.round (k:Int) (by show(CJ x k).1.length≤4;omega) Qx htb.1 (by show(CJ x k).2.length≤_;omega));refine aL X [] [(800067,⟨true,ji t1⟩),(700067,⟨true, .agg [.ptr 1000 903, .ptr 11 14, .ptr 12 15, .ptr 13 17, .ptr 14 21]:: .agg []::jj t1⟩)] [1,2,3,4,5,33,34,35] [] rfl (by(with_reducible and_intros)<;>first|exact⟨⟩|exact t1) (bg X [1,2,3,4,5,33,34,35] rfl ?_);refine⟨k+1,by omega,by omega,?_⟩;rw[bh _ k rfl (by omega), ←hst];try rfl
   ·have hst:=KX (x:=x) (n:=k) bI;refine an (bg X [1,2,3,4,5,33,34,35] rfl ?_);refine⟨k+1,by omega,by omega,?_⟩;rw[bh _ k rfl (by omega),hst];try rfl
  ·try simp only[aQ]at aV
   exact aI (aD X [2] rfl (by trivial) (ak (ah rfl (by and_intros<;>first|exact⟨⟩| (rw[hc];done)| (rw[hc,show k=x.az.length by omega];done)))))
theorem zV(x:aW)(g:List Int)(d:DB)(h0:wB x)(hgl:g.length≤64)(Z3:cE List.length d.rows≤1048576):So 301 [.agg (aN x), .a (.sl .int g), .agg (aY d)] [.agg [cF (cz x g d).rows, .sl .bp (cz x g d).az, .sl .aZ (cz x g d).af,cF (cz x g d).aB.rows, .vw 0 none .aJ (cz x g d).aB.rounds,cF (cz x g d).bn,cF (cz x g d).seed,cF (cz x g d).round, .sl .int (cz x g d).replaced,cF (cz x g d).cancelled]]:=by
 refine av X call301 func301 ntmps301 rfl rfl ?_;intro zb;have hls:cE dL x.az≤1048576∧cE bt x.af≤1048576∧dA x.aB≤1048576∧x.replaced.length≤4194304:=h0;have hcp:=OT x g;refine aq X [1,3,5,6] rfl (aC X [(7,907)] [(13,⟨true,[.agg (aN x)]⟩)] [1,3,5,6,7] [] rfl (by(with_reducible and_intros)<;>first|exact⟨⟩|exact(cR x h0)) (aa (aC X [] [(15,⟨false,[aH (okW x)]⟩)] [1,3,5,6,7,21] [] rfl (by(with_reducible and_intros)<;>first|exact⟨⟩|exact(bV x)) ?_)));refine aj rfl ?_ ?_<;>intro hb0
 ·have hk:gX x=false:=bH hb0 (by simp only[gX,aO]<;>first|rfl|ac_rfl);have hc:=GV (g:=g) (d:=d) hk;exact aD X [6] rfl (by trivial) (ak (ah rfl (by and_intros<;>first|exact⟨⟩| (rw[hc];done))))
 ·have hk:gX x=true:=bF hb0 (by simp only[gX,aO]<;>first|rfl|ac_rfl);obtain⟨hok,hr9⟩:=IE hk;have hsv:=dV hok;have Qx:=(nq hok).1;have hcU:=Yx g hok;refine an (aa (aq X [1,3,5,6,7,25] rfl ?_));refine aj rfl ?_ ?_<;>intro aV
  ·try simp only[aQ]at aV
   have hg0:g.length=0:=by omega
   have hc:=La (d:=d) hk hg0;have hgn:g= []:=List.length_eq_zero_iff.1 hg0;refine aa ?_;have t1:=(CN x.aB x.round d hls.2.2.1 Z3);refine aL X [] [(32,⟨true,bq t1⟩)] [1,3,6,7,8] [] rfl (by(with_reducible and_intros)<;>first|exact⟨⟩|exact t1) (dy X [1,3,6,7] rfl (by trivial) (aa (aq X [1,3,6,7,10] rfl ?_)));refine au (aE (fun k=>k≤g.length) (fun k:Nat=> [(10, .one ((aA k)))]) (fun k=> [(14, .arr .bp (E6 x g k).1),(21, .arr .int (E6 x g k).2)]) (fun k=>g.length-k) 0 (fun k=>rfl) (Nat.zero_le _) rfl ?_);rintro k hk0;have yX:=zQ (x:=x) hk0;have hU:=K9 hok hk0;refine aa (aq X [1,3,6,7,10,44] rfl ?_);refine aj rfl ?_ ?_<;>intro bI
   ·try simp only[aQ]at bI
    omega
   ·try simp only[aQ]at bI
    rw[vK bI];refine aI (aa (aq X [3,6,7,11] rfl ?_));refine au (aE (fun k1=>k1≤x.az.length) (fun k1:Nat=> [(11, .one ((aA k1)))]) (fun k1=> [(14, .arr .bp (CL (rM x g).1 k1))]) (fun k1=>x.az.length-k1) 0 (fun k1=>rfl) (Nat.zero_le _) (by rw[OU];rfl) ?_);intro k1 hk1;have DF:(CL (rM x g).1 k1).length=x.az.length:=by rw[Dg (by omega)];exact hcp.1
    refine aa (aq X [3,6,7,11,56] rfl ?_);refine aj rfl ?_ ?_<;>intro eE
    ·try simp only[aQ]at eE
     rw[DF]at eE;have hgt:=Df (l:=(rM x g).1) (k:=k1) (by omega);have Z4:=pW hcU (k:=k1) (by omega);have FN:=zR (l:=(rM x g).1) (k:=k1) (by omega);refine an (aa (au (aF X [] [(67,⟨true,[.agg (bS (jB ((CL (rM x g).1 k1).getD k1 (aG .bp))))]⟩)] [3,6,7,11] [] 1023 0 MO (by kernel_rfl) rfl (by kernel_rfl) (by(with_reducible and_intros)<;>first|exact⟨⟩|exact(oy ((CL (rM x g).1 k1).getD k1 (aG .bp)) (by rw[hgt];exact Z4.2))| (intros;omega)) (bg X [3,6,7,11] rfl ?_))));refine⟨k1+1,by omega,by omega,?_⟩;rw[bh _ k1 rfl (by omega), ←FN];try rfl
    ·try simp only[aQ]at eE
     rw[DF]at eE;rw[Dh (by omega)];exact aI (aq X [6,7] rfl (aD X [6] rfl (by trivial) (ak (ah rfl (by and_intros<;>first|exact⟨⟩| (rw[hc];done))))))
  ·try simp only[aQ]at aV
   have hg0: ¬g.length=0:=by omega
   have hc:=Lb (d:=d) hk hg0;refine bg X [1,3,6,7] rfl (aa (aq X [1,3,6,7,10] rfl ?_));refine au (aE (fun k=>k≤g.length) (fun k:Nat=> [(10, .one ((aA k)))]) (fun k=> [(14, .arr .bp (E6 x g k).1),(21, .arr .int (E6 x g k).2)]) (fun k=>g.length-k) 0 (fun k=>rfl) (Nat.zero_le _) rfl ?_);rintro k hk0;have yX:=zQ (x:=x) hk0;have hU:=K9 hok hk0;refine aa (aq X [1,3,6,7,10,44] rfl ?_);refine aj rfl ?_ ?_<;>intro bI
   ·try simp only[aQ]at bI
    have hst:=K8 (x:=x) bI;refine an (aa (au ?_));have t1:=(oz (⟨x.rows,(E6 x g k).1,x.af,x.aB,x.bn,x.seed,x.round,(E6 x g k).2,IntKind.i64.wrap (x.cancelled+1)⟩:aW) x.round (g.getD k (aG .int)) (by show(E6 x g k).1.length≤4;omega) Qx hU (by show(E6 x g k).2.length≤_;omega) rfl);refine aL X [] [(800051,⟨true,ji t1⟩),(700051,⟨true, .agg [.ptr 1000 907, .ptr 11 14, .ptr 12 15, .ptr 13 17, .ptr 14 21]:: .agg []::jj t1⟩)] [1,3,6,7,10] [] rfl (by(with_reducible and_intros)<;>first|exact⟨⟩|exact t1| (intros;omega)) (bg X [1,3,6,7,10] rfl ?_);refine⟨k+1,by omega,by omega,?_⟩;rw[bh _ k rfl (by omega), ←hst];try rfl
   ·try simp only[aQ]at bI
    rw[vK bI];refine aI (aa (aq X [3,6,7,11] rfl ?_));refine au (aE (fun k1=>k1≤x.az.length) (fun k1:Nat=> [(11, .one ((aA k1)))]) (fun k1=> [(14, .arr .bp (CL (rM x g).1 k1))]) (fun k1=>x.az.length-k1) 0 (fun k1=>rfl) (Nat.zero_le _) (by rw[OU];rfl) ?_);intro k1 hk1;have DF:(CL (rM x g).1 k1).length=x.az.length:=by rw[Dg (by omega)];exact hcp.1
    refine aa (aq X [3,6,7,11,56] rfl ?_);refine aj rfl ?_ ?_<;>intro eE
    ·try simp only[aQ]at eE
     rw[DF]at eE;have hgt:=Df (l:=(rM x g).1) (k:=k1) (by omega);have Z4:=pW hcU (k:=k1) (by omega);have FN:=zR (l:=(rM x g).1) (k:=k1) (by omega);refine an (aa (au (aF X [] [(67,⟨true,[.agg (bS (jB ((CL (rM x g).1 k1).getD k1 (aG .bp))))]⟩)] [3,6,7,11] [] 1023 0 MO (by kernel_rfl) rfl (by kernel_rfl) (by(with_reducible and_intros)<;>first|exact⟨⟩|exact(oy ((CL (rM x g).1 k1).getD k1 (aG .bp)) (by rw[hgt];exact Z4.2))| (intros;omega)) (bg X [3,6,7,11] rfl ?_))));refine⟨k1+1,by omega,by omega,?_⟩;rw[bh _ k1 rfl (by omega), ←FN];try rfl
    ·try simp only[aQ]at eE
     rw[DF]at eE;rw[Dh (by omega)];exact aI (aq X [6,7] rfl (aD X [6] rfl (by trivial) (ak (ah rfl (by and_intros<;>first|exact⟨⟩| (rw[hc];done))))))
theorem xQ(x:aW)(h0:wB x):So 300 [.agg (aN x)] [.agg (aN (testW x))]:=by
 refine av X call300 func300 ntmps300 rfl rfl ?_;intro zb;have hls:cE dL x.az≤1048576∧cE bt x.af≤1048576∧dA x.aB≤1048576∧x.replaced.length≤4194304:=h0;have FN:=YA h0;refine aq X [1,2] rfl (aC X [(3,903)] [(12,⟨true,[.agg (aN x)]⟩)] [1,2,3] [] rfl (by(with_reducible and_intros)<;>first|exact⟨⟩|exact(cR x h0)) (aC X [] [(15,⟨false,[aA (dr x.aB)]⟩)] [1,2,3,4] [] rfl (by(with_reducible and_intros)<;>first|exact⟨⟩|exact(kU x.aB)) (aa ?_)));have t1:=(jL x.aB (dr x.aB) FN);refine aL X [(20,80)] [(20,⟨true,bq t1⟩)] [1,2,3,4,5,6] [] rfl (by(with_reducible and_intros)<;>first|exact⟨⟩|exact t1) (aa (aC X [] [(24,⟨false,[aH (okW x)]⟩)] [1,2,3,4,5,29] [] rfl (by(with_reducible and_intros)<;>first|exact⟨⟩|exact(bV x)) ?_));refine aj rfl ?_ ?_<;>intro hb0
 ·have hk:zC x=false:=bH hb0 (by simp only[zC,aO]<;>first|rfl|ac_rfl);have hc:=Ld hk;exact aD X [2] rfl (by trivial) (ak (ah rfl (by and_intros<;>first|exact⟨⟩| (rw[hc];done))))
 ·have hk:zC x=true:=bF hb0 (by simp only[zC,aO]<;>first|rfl|ac_rfl);have hc:=GW hk;have hkk:=hk;rw[zC,Bool.and_eq_true]at hkk;obtain⟨hok,hah⟩:=hkk;have hsv:=dV hok;have Qx:=(nq hok).1;refine an (aa (aq X [1,2,3,4,5,7] rfl ?_));refine au (aE (fun k=>k≤x.az.length) (fun k:Nat=> [(7, .one ((aA k)))]) (fun k=> [(13, .arr .bp (CJ x k).1),(20, .arr .int (CJ x k).2)]) (fun k=>x.az.length-k) 0 (fun k=>rfl) (Nat.zero_le _) rfl ?_);rintro k hk0;have htb:=Yz hok k hk0;refine aa (aq X [1,2,3,4,5,7,35] rfl ?_);refine aj rfl ?_ ?_<;>intro aV
  ·try simp only[aQ]at aV
   have hrl:=gU (kh x.seed [227,x.round,(k:Int)]) x.rows;have hab:=Yu (x.az.getD k (aG .bp)) (iT x.bn (k:Int)) (dr x.aB) (gO x.aB.rounds (dr x.aB)) (v:=(cg (kh x.seed [227,x.round,(k:Int)]) x.rows)) (by omega);have hsg:=Yy hok hah (kh x.seed [227,x.round,(k:Int)]);refine an (aa (au (aC X [] [(41,⟨false,[aA (iT x.bn (k:Int))]⟩)] [1,2,3,4,5,7,8] [] rfl (by(with_reducible and_intros)<;>first|exact⟨⟩|exact(iC x.bn (k:Int))) (aa ?_))));have t1:=(rL (x.az.getD k (aG .bp)) (iT x.bn (k:Int)) (dr x.aB) (gO x.aB.rounds (dr x.aB)) (cg (kh x.seed [227,x.round,(k:Int)]) x.rows) (by omega));refine aF X [] [(57,⟨false,[aA (kh x.seed [227,x.round,(k:Int)])]⟩),(60,⟨true,[.a (.sl .int (cg (kh x.seed [227,x.round,(k:Int)]) x.rows))]⟩),(61,⟨true,bq t1⟩)] [1,2,3,4,5,7,8,9,10] [] 25165823 1 MO (by kernel_rfl) rfl (by kernel_rfl) (by(repeat' with_reducible first|exact aR|refine bf ?_ ?_|apply And.intro);(iterate 3 all_goals try first|exact(bE x.seed [227,x.round,(k:Int)] (by first|assumption|omega| (simp;done)| (simp;omega)))|exact(j8 (kh x.seed [227,x.round,(k:Int)]) x.rows)|exact t1);all_goals first| (intros;omega)|exact⟨rfl,bA _ (by decide)⟩) ?_;refine aa ?_;have t1:=(uC (iT x.bn (k:Int)) (gO x.aB.rounds (dr x.aB)) (tsA x k) hab.1 hab.2);refine aL X [] [(69,⟨false,bq t1⟩)] [1,2,3,4,5,7,70] [] rfl (by(with_reducible and_intros)<;>first|exact⟨⟩|exact fun _=>t1) ?_;refine aj rfl ?_ ?_<;>intro bI
   ·have Wa:Yw x k=true:=by rw[hsg]at bI;exact bI
    have hst:=OL (x:=x) (n:=k) Wa;have t1:=(oz (⟨x.rows,(CJ x k).1,x.af,x.aB,x.bn,x.seed,x.round,(CJ x k).2,x.cancelled⟩:aW) x.round (k:Int) (by show(CJ x k).1.length≤4;omega) Qx htb.1 (by show(CJ x k).2.length≤_;omega) rfl);refine aL X [] [(800072,⟨true,ji t1⟩),(700072,⟨true, .agg [.ptr 1000 903, .ptr 11 13, .ptr 12 14, .ptr 13 16, .ptr 14 20]:: .agg []::jj t1⟩)] [1,2,3,4,5,7] [] rfl (by(with_reducible and_intros)<;>first|exact⟨⟩|exact t1) (bg X [1,2,3,4,5,7] rfl ?_);refine⟨k+1,by omega,by omega,?_⟩;rw[bh _ k rfl (by omega), ←hst];try rfl
   ·have Wa:Yw x k=false:=by rw[hsg]at bI;exact bI
    have hst:=KX (x:=x) (n:=k) Wa;refine an (bg X [1,2,3,4,5,7] rfl ?_);refine⟨k+1,by omega,by omega,?_⟩;rw[bh _ k rfl (by omega),hst];try rfl
  ·try simp only[aQ]at aV
   exact aI (aD X [2] rfl (by trivial) (ak (ah rfl (by and_intros<;>first|exact⟨⟩| (rw[hc];done)| (rw[hc,show k=x.az.length by omega];done)))))
end
section
set_option maxRecDepth 100000
theorem rN(x:aW)(hR:wR x):So 113 [.agg (aN x)] [.agg (aN (dn x))]:=by
 refine av X call113 func113 ntmps113 rfl rfl ?_;intro zb;obtain⟨h0,W5⟩:=hR;have hsv:=rF h0;refine aq X [1,2] rfl (aa (aC X [] [(9,⟨false,[aH (okW x)]⟩)] [1,2,15] [] rfl (by(with_reducible and_intros)<;>first|exact⟨⟩|exact(bQ x)) ?_));refine aj rfl ?_ ?_<;>intro hb0
 ·have hk:gX x=false:=bH hb0 (by simp only[gX,aO]<;>first|rfl|ac_rfl);have hc:=GX hk;exact aC X [] [(17,⟨true,[.agg (aN x)]⟩)] [2] [] rfl (by(with_reducible and_intros)<;>first|exact⟨⟩|exact(dj x h0)) (ak (ah rfl (by and_intros<;>first|exact⟨⟩| (rw[hc];done))))
 ·have hk:gX x=true:=bF hb0 (by simp only[gX,aO]<;>first|rfl|ac_rfl);have hc:=E7 hk;obtain⟨hok,hr9⟩:=IE hk;have hcl:=lO hok;have hcs:=EX hok;have hs4:=dV hok;have hpd:=oq (bP x);have hjz:=dQ (GP _ hpd);have hgl:=nI x.bn (bP x) (cZ (bP x)) (iK x) (bP x).length;have hpl:(cZ (bP x)).length=(bP x).length:=List.length_map ..;obtain⟨hB1,hB2⟩:=OW h0 hok W5;refine an (aC X [] [(20,⟨true,[.a (.sl .bp (bP x)), .a (.sl .dY (iK x))]⟩)] [1,2,3,4] [] rfl (by(with_reducible and_intros)<;>first|exact⟨⟩|exact(uw x h0)) (aC X [] [(24,⟨true,[.a (.sl .DB (cZ (bP x)))]⟩)] [1,2,3,4,5] [] rfl (by(with_reducible and_intros)<;>first|exact⟨⟩|exact(zM (bP x) (by omega))) (aa ?_)));have t1:=(uB (cZ (bP x)) (by omega) hpd);refine aL X [] [(27,⟨true,bq t1⟩)] [1,2,3,4,5,6] [] rfl (by(with_reducible and_intros)<;>first|exact⟨⟩|exact t1) (aa ?_);have t1:=(zU x (jA x.bn (bP x) (cZ (bP x)) (iK x) (bP x).length) (jw (cZ (bP x))) h0 (by omega) hjz);have t2:=(xP (cz x (jA x.bn (bP x) (cZ (bP x)) (iK x) (bP x).length) (jw (cZ (bP x)))) hB1);have t3:=(Bu (testW (cz x (jA x.bn (bP x) (cZ (bP x)) (iK x) (bP x).length) (jw (cZ (bP x))))) hB2);exact aF X [(38,60),(39,100),(40,150)] [(36,⟨true,[.a (.sl .int (jA x.bn (bP x) (cZ (bP x)) (iK x) (bP x).length))]⟩),(38,⟨true,bq t1⟩),(39,⟨true,bq t2⟩),(40,⟨true,bq t3⟩)] [2] [] 2047 0 MO (by kernel_rfl) rfl (by kernel_rfl) (by(with_reducible and_intros);(iterate 4 all_goals try first|exact⟨⟩|exact(zL x.bn (bP x) (cZ (bP x)) (iK x) (by omega) hcs (OF _))|exact t1|exact t2|exact t3)) (ak (ah rfl (by and_intros<;>first|exact⟨⟩| (rw[hc];done))))
theorem CP(x:aW)(hR:wR x)(hok:okW x=true):So 238 [.agg (aN x)] [.agg (aN (ES (testW (cz x (jA x.bn (bP x) (cZ (bP x)) (iK x) (bP x).length) (jw (cZ (bP x)))))))]:=by
 refine av X call238 func238 ntmps238 rfl rfl ?_;intro zb;obtain⟨h0,W5⟩:=hR;have hsv:=rF h0;have hcl:=lO hok;have hcs:=EX hok;have hs4:=dV hok;have hpd:=oq (bP x);have hjz:=dQ (GP _ hpd);have hgl:=nI x.bn (bP x) (cZ (bP x)) (iK x) (bP x).length;have hpl:(cZ (bP x)).length=(bP x).length:=List.length_map ..;obtain⟨hB1,hB2⟩:=OW h0 hok W5;refine aq X [1,2] rfl (aC X [] [(10,⟨true,[.a (.sl .bp (bP x)), .a (.sl .dY (iK x))]⟩)] [1,2,3,4] [] rfl (by(with_reducible and_intros)<;>first|exact⟨⟩|exact(ux x h0)) (aC X [] [(14,⟨true,[.a (.sl .DB (cZ (bP x)))]⟩)] [1,2,3,4,5] [] rfl (by(with_reducible and_intros)<;>first|exact⟨⟩|exact(zO (bP x) (by omega))) (aa ?_)));have t1:=(uD (cZ (bP x)) (by omega) hpd);refine aL X [] [(17,⟨true,bq t1⟩)] [1,2,3,4,5,6] [] rfl (by(with_reducible and_intros)<;>first|exact⟨⟩|exact t1) (aa ?_);have t1:=(zV x (jA x.bn (bP x) (cZ (bP x)) (iK x) (bP x).length) (jw (cZ (bP x))) h0 (by omega) hjz);have t2:=(xQ (cz x (jA x.bn (bP x) (cZ (bP x)) (iK x) (bP x).length) (jw (cZ (bP x)))) hB1);have t3:=(Bw (testW (cz x (jA x.bn (bP x) (cZ (bP x)) (iK x) (bP x).length) (jw (cZ (bP x))))) hB2);exact aF X [(28,60),(29,100),(30,150)] [(26,⟨true,[.a (.sl .int (jA x.bn (bP x) (cZ (bP x)) (iK x) (bP x).length))]⟩),(28,⟨true,bq t1⟩),(29,⟨true,bq t2⟩),(30,⟨true,bq t3⟩)] [2] [] 2047 0 MO (by kernel_rfl) rfl (by kernel_rfl) (by(with_reducible and_intros);(iterate 4 all_goals try first|exact⟨⟩|exact(zN x.bn (bP x) (cZ (bP x)) (iK x) (by omega) hcs (OF _))|exact t1|exact t2|exact t3)) (ak (ah rfl ⟨rfl,rfl,rfl,rfl,rfl,rfl,rfl,rfl,rfl,rfl,⟨⟩⟩))
theorem rO(x:aW)(hR:wR x):So 150 [.agg (aN x)] [.agg (aN (dn x))]:=by
 refine av X call150 func150 ntmps150 rfl rfl ?_;intro zb;have h0:=hR.1;refine aq X [1,2] rfl (aa (aC X [] [(4,⟨false,[aH (okW x)]⟩)] [1,2,10] [] rfl (by(with_reducible and_intros)<;>first|exact⟨⟩|exact(bV x)) ?_));refine aj rfl ?_ ?_<;>intro hb0
 ·have hk:gX x=false:=bH hb0 (by simp only[gX,aO]<;>first|rfl|ac_rfl);have hc:=GX hk;exact aC X [] [(12,⟨true,[.agg (aN x)]⟩)] [2] [] rfl (by(with_reducible and_intros)<;>first|exact⟨⟩|exact(cR x h0)) (ak (ah rfl (by and_intros<;>first|exact⟨⟩| (rw[hc];done))))
 ·have hk:gX x=true:=bF hb0 (by simp only[gX,aO]<;>first|rfl|ac_rfl);have hc:=E7 hk;obtain⟨hok,hr9⟩:=IE hk;refine an (aa ?_);have t1:=(CP x hR hok);exact aL X [] [(14,⟨true,bq t1⟩)] [2] [] rfl (by(with_reducible and_intros)<;>first|exact⟨⟩|exact t1) (ak (ah rfl (by and_intros<;>first|exact⟨⟩| (rw[hc];done))))
end
section
set_option maxRecDepth 100000
theorem E9(a b:Int):So 81 [aA a,aA b] [aA (fP a b)]:=by
 refine av X call81 func81 ntmps81 rfl rfl ?_;intro zb;refine aq X [0,1] rfl (aa (aq X [0,1,7] rfl ?_));refine aj rfl ?_ ?_<;>intro hb0
 ·try simp only[aQ]at hb0
  exact aq X [4] rfl (ak (ah rfl ⟨by rw[fP,if_pos (by omega)],⟨⟩⟩))
 ·try simp only[aQ]at hb0
  exact an (aq X [4] rfl (ak (ah rfl ⟨by rw[fP,if_neg (by omega)],⟨⟩⟩)))
theorem qX(c:dF):So 184 [.agg (bG c)] [aA (waiting c)]:=by
 refine av X call184 func184 ntmps184 rfl rfl ?_;intro zb;exact aq X [1] rfl (aq X [2] rfl (ak (ah rfl ⟨rfl,⟨⟩⟩)))
theorem gl(x:aW):So 110 [.agg (aN x)] [aA (lR x.af x.af.length)]:=by
 refine av X call110 func110 ntmps110 rfl rfl ?_;intro zb;refine bl 0 2 rfl rfl (fun lg=>(aq X [1] rfl (aq X [1,3] rfl (aa (aq X [3,7,8,9] rfl ?_)))));refine au (aE (fun k=>k≤x.af.length) (fun k:Nat=> [(3, .one ((aA (lR x.af k)))),(9, .one ((aA k)))]) (fun k=> []) (fun k=>x.af.length-k) 0 (fun k=>rfl) (Nat.zero_le _) rfl ?_);intro k hk;refine aq X [3,7,8,9,10] rfl ?_;refine aa (aj rfl ?_ ?_)<;>intro hb0
 ·try simp only[aQ]at hb0
  refine an (aa (au (aD X [3,5,7,8,9] rfl (by and_intros<;>first|exact⟨⟩| (intros;omega)) (aL X [] [(16,⟨false,[aA (waiting ((x.af.getD k (aG .aZ)).live))]⟩)] [3,7,8,9] [] rfl (by(with_reducible and_intros)<;>first|exact⟨⟩|exact(qX ((x.af.getD k (aG .aZ)).live))) (bg X [3,7,8,9] rfl ?_)))));refine⟨k+1,by omega,by omega,?_⟩;rw[bh _ k rfl (by omega)];try rfl
 ·try simp only[aQ]at hb0
  exact aI (aq X [2] rfl (ak (ah rfl ⟨by rw[show k=x.af.length by omega],⟨⟩⟩)))
theorem gB(x:aW)(hd:x.af.length≤1048576):So 111 [.agg (aN x)] [aA (wW x.af x.af.length)]:=by
 refine av X call111 func111 ntmps111 rfl rfl ?_;intro zb;refine bl 0 2 rfl rfl (fun lg=>(aq X [1] rfl (aq X [1,3] rfl (aa (aq X [1,3,7,8,9] rfl ?_)))));refine au (aE (fun k=>k≤x.af.length) (fun k:Nat=> [(3, .one ((aA (wW x.af k)))),(9, .one ((aA k)))]) (fun k=> []) (fun k=>x.af.length-k) 0 (fun k=>rfl) (Nat.zero_le _) rfl ?_);intro k hk;refine aq X [1,3,7,8,9,10] rfl ?_;refine aa (aj rfl ?_ ?_)<;>intro hb0
 ·try simp only[aQ]at hb0
  refine an (aa (au (aD X [1,3,4,5,7,8,9] rfl (by and_intros<;>first|exact⟨⟩| (intros;omega)) (aC X [] [(16,⟨false,[aH (dX x (k:Int))]⟩)] [1,3,4,5,7,8,9,16] [] rfl (by(with_reducible and_intros)<;>first|exact⟨⟩|exact(ng x (k:Int) (by first|assumption|omega| (simp;done)| (simp;omega)))) ?_))));refine aj rfl ?_ ?_<;>intro aV
  ·rw[E8 hb0,decide_eq_true_eq]at aV;have hx:(IntKind.i64.wrap (BitVec.ofInt IntKind.i64.bits (k:Int)^^^BitVec.ofInt IntKind.i64.bits 1).toNat)=((k^^^1:Nat):Int):=CB k (by omega);have hx0:0≤(IntKind.i64.wrap (BitVec.ofInt IntKind.i64.bits (k:Int)^^^BitVec.ofInt IntKind.i64.bits 1).toNat)∧(IntKind.i64.wrap (BitVec.ofInt IntKind.i64.bits (k:Int)^^^BitVec.ofInt IntKind.i64.bits 1).toNat)<(x.af.length:Int):=by rw[hx];omega
   refine aF X [] [] [1,3,7,8,9] [] 131071 0 MO (by kernel_rfl) rfl (by kernel_rfl) (by and_intros<;>first|exact⟨⟩| (intros;omega)) (bg X [1,3,7,8,9] rfl ?_);refine⟨k+1,by omega,by omega,?_⟩;rw[bh _ k rfl (by omega),OX aV,hx,T9];try rfl
  ·rw[E8 hb0,decide_eq_false_iff_not]at aV;refine an (bg X [1,3,7,8,9] rfl ?_);refine⟨k+1,by omega,by omega,?_⟩;rw[bh _ k rfl (by omega),Le aV];try rfl
 ·try simp only[aQ]at hb0
  exact aI (aq X [2] rfl (ak (ah rfl ⟨by rw[show k=x.af.length by omega],⟨⟩⟩)))
theorem Fa(x:aW)(hd:x.af.length≤1048576):So 67 [.agg (aN x)] [aH (lf x)]:=by
 refine av X call67 func67 ntmps67 rfl rfl ?_;intro zb;exact aq X [1] rfl (aC X [] [(4,⟨false,[aA (lR x.af x.af.length)]⟩),(8,⟨false,[aA (wW x.af x.af.length)]⟩)] [2] [] rfl (by(with_reducible and_intros);(iterate 2 all_goals try first|exact⟨⟩|exact(gl x)|exact fun _=>(gB x hd))) (ak (ah rfl ⟨(congrArg Value.bool (by simp only[lf,aO]<;>first|rfl|ac_rfl)),⟨⟩⟩)))
theorem wm(x:aW)(hd:x.af.length≤1048576):So 60 [.agg (aN x)] [aA (sE x)]:=by
 refine av X call60 func60 ntmps60 rfl rfl ?_;intro zb;exact aq X [1] rfl (aa (aF X [] [(4,⟨false,[aA (lR x.af x.af.length)]⟩),(6,⟨false,[aA (wW x.af x.af.length)]⟩)] [2] [] 511 0 MO (by kernel_rfl) rfl (by kernel_rfl) (by(with_reducible and_intros);(iterate 2 all_goals try first|exact⟨⟩|exact(gl x)|exact(gB x hd))) (ak (ah rfl ⟨rfl,⟨⟩⟩))))
theorem pZ(x:aW)(c:Int)(hC:wC x 4100000):So 59 [.agg (aN x),aA c] [.agg (aN (eo x (qW c)))]:=by
 refine av X call59 func59 ntmps59 rfl rfl ?_;intro zb;have h0:wB x:=TR hC (by decide);refine aq X [1,2,4] rfl (aC X [] [(7,⟨true,[.agg (aN x)]⟩)] [1,4,5] [] rfl (by(with_reducible and_intros)<;>first|exact⟨⟩|exact(dj x h0)) (aa (aC X [] [(9,⟨false,[aH (inr c 0 400)]⟩)] [1,4,5,9] [] rfl (by(with_reducible and_intros)<;>first|exact⟨⟩|exact(aK c 0 400)) ?_)));refine aj rfl ?_ ?_<;>intro hb0
 ·try simp only[aQ]at hb0
  have hin:=M4 hb0;have hrn:=Ua c;refine aq X [4,5,10,11] rfl ?_;refine au (aE (fun k=>k≤qW c) (fun k:Nat=> [(11, .one ((aA k)))]) (fun k=> [(8, .arr .bp (eo x k).az),(9, .arr .aZ (eo x k).af),(11, .arr .aJ (eo x k).aB.rounds),(15, .arr .int (eo x k).replaced),(5, .box [cF (eo x k).rows, .own 8, .own 9,cF (eo x k).aB.rows, .own 11,cF (eo x k).bn,cF (eo x k).seed,cF (eo x k).round, .own 15,cF (eo x k).cancelled])]) (fun k=>qW c-k) 0 (fun k=>rfl) (Nat.zero_le _) rfl ?_);intro k hk;have hrb:=Ub hC (k:=k) (by omega);refine aq X [4,5,10,11,12] rfl ?_;refine aa (aj rfl ?_ ?_)<;>intro aV
  ·try simp only[aQ]at aV
   refine an (aa (au (aL X [(14,150)] [(14,⟨true,[.agg (aN (dn (eo x k)))]⟩)] [4,5,10,11] [] rfl (by(with_reducible and_intros)<;>first|exact⟨⟩|exact(rN (eo x k) hrb.1)) (cx 151 8 rfl (cx 152 9 rfl (cx 154 11 rfl (cx 158 15 rfl (bg X [4,5,10,11] rfl ?_))))))));refine⟨k+1,by omega,by omega,?_⟩;rw[bh _ k rfl (by omega)];try rfl
  ·try simp only[aQ]at aV
   have hkk:qW c=k:=by omega
   exact aI (aD X [4] rfl (by trivial) (ak (ah rfl (by and_intros<;>first|exact⟨⟩| (rw[hkk];done)))))
 ·try simp only[aQ]at hb0
  have hkk:=OY hb0;exact an (aD X [4] rfl (by trivial) (ak (ah rfl (by and_intros<;>first|exact⟨⟩| (rw[hkk];rfl;done)))))
theorem qY(c:dF):So 151 [.agg (bG c)] [aA (waiting c)]:=by
 refine av X call151 func151 ntmps151 rfl rfl ?_;intro zb;exact aq X [1] rfl (aq X [2] rfl (ak (ah rfl ⟨rfl,⟨⟩⟩)))
theorem eK(x:aW):So 83 [.agg (aN x)] [aA (lR x.af x.af.length)]:=by
 refine av X call83 func83 ntmps83 rfl rfl ?_;intro zb;refine bl 0 2 rfl rfl (fun lg=>(aq X [1] rfl (aq X [1,3] rfl (aa (aq X [1,3,4] rfl ?_)))));refine au (aE (fun k=>k≤x.af.length) (fun k:Nat=> [(3, .one ((aA (lR x.af k)))),(4, .one ((aA k)))]) (fun k=> []) (fun k=>x.af.length-k) 0 (fun k=>rfl) (Nat.zero_le _) rfl ?_);intro k hk;refine aa (aq X [1,3,4,9] rfl ?_);refine aj rfl ?_ ?_<;>intro hb0
 ·try simp only[aQ]at hb0
  refine an (aa (au (aL X [] [(19,⟨false,[aA (waiting ((x.af.getD k (aG .aZ)).live))]⟩)] [1,3,4] [] rfl (by(with_reducible and_intros)<;>first|exact⟨⟩|exact(qY ((x.af.getD k (aG .aZ)).live))| (intros;omega)) (bg X [1,3,4] rfl ?_))));refine⟨k+1,by omega,by omega,?_⟩;rw[bh _ k rfl (by omega)];try rfl
 ·try simp only[aQ]at hb0
  exact aI (aq X [2] rfl (ak (ah rfl ⟨by rw[show k=x.af.length by omega],⟨⟩⟩)))
theorem eY(x:aW)(hd:x.af.length≤1048576):So 84 [.agg (aN x)] [aA (wW x.af x.af.length)]:=by
 refine av X call84 func84 ntmps84 rfl rfl ?_;intro zb;refine bl 0 2 rfl rfl (fun lg=>(aq X [1] rfl (aq X [1,3] rfl (aa (aq X [1,3,4] rfl ?_)))));refine au (aE (fun k=>k≤x.af.length) (fun k:Nat=> [(3, .one ((aA (wW x.af k)))),(4, .one ((aA k)))]) (fun k=> []) (fun k=>x.af.length-k) 0 (fun k=>rfl) (Nat.zero_le _) rfl ?_);intro k hk;refine aa (aq X [1,3,4,9] rfl ?_);refine aj rfl ?_ ?_<;>intro hb0
 ·try simp only[aQ]at hb0
  refine an (aa (au (aq X [1,3,4,17] rfl ?_)));refine aj rfl ?_ ?_<;>intro aV
  ·try simp only[aQ]at aV
   have hx:(IntKind.i64.wrap (BitVec.ofInt IntKind.i64.bits (k:Int)^^^BitVec.ofInt IntKind.i64.bits 1).toNat)=((k^^^1:Nat):Int):=CB k (by omega);have hx1:(k^^^1)<x.af.length:=by rw[hx]at aV;omega
   have hx0:0≤(IntKind.i64.wrap (BitVec.ofInt IntKind.i64.bits (k:Int)^^^BitVec.ofInt IntKind.i64.bits 1).toNat)∧(IntKind.i64.wrap (BitVec.ofInt IntKind.i64.bits (k:Int)^^^BitVec.ofInt IntKind.i64.bits 1).toNat)<(x.af.length:Int):=by rw[hx];omega
   refine aF X [] [] [1,3,4] [] 2097151 0 MO (by kernel_rfl) rfl (by kernel_rfl) (by and_intros<;>first|exact⟨⟩| (intros;omega)) (bg X [1,3,4] rfl ?_);refine⟨k+1,by omega,by omega,?_⟩;rw[bh _ k rfl (by omega),OX hx1,hx];try rfl
  ·try simp only[aQ]at aV
   have hx:(IntKind.i64.wrap (BitVec.ofInt IntKind.i64.bits (k:Int)^^^BitVec.ofInt IntKind.i64.bits 1).toNat)=((k^^^1:Nat):Int):=CB k (by omega);have hx1: ¬(k^^^1)<x.af.length:=by rw[hx]at aV;omega
   refine an (bg X [1,3,4] rfl ?_);refine⟨k+1,by omega,by omega,?_⟩;rw[bh _ k rfl (by omega),Le hx1];try rfl
 ·try simp only[aQ]at hb0
  exact aI (aq X [2] rfl (ak (ah rfl ⟨by rw[show k=x.af.length by omega],⟨⟩⟩)))
theorem Fb(x:aW)(hd:x.af.length≤1048576):So 44 [.agg (aN x)] [aH (lf x)]:=by
 refine av X call44 func44 ntmps44 rfl rfl ?_;intro zb;exact aq X [1] rfl (aC X [] [(4,⟨false,[aA (lR x.af x.af.length)]⟩),(8,⟨false,[aA (wW x.af x.af.length)]⟩)] [2] [] rfl (by(with_reducible and_intros);(iterate 2 all_goals try first|exact⟨⟩|exact(eK x)|exact fun _=>(eY x hd))) (ak (ah rfl ⟨(congrArg Value.bool (by simp only[lf,aO]<;>first|rfl|ac_rfl)),⟨⟩⟩)))
theorem wo(x:aW)(hd:x.af.length≤1048576):So 37 [.agg (aN x)] [aA (sE x)]:=by
 refine av X call37 func37 ntmps37 rfl rfl ?_;intro zb;refine aq X [1] rfl (aa ?_);have t1:=(jm (lR x.af x.af.length) (wW x.af x.af.length));have t2:=(jm 0 (mx (lR x.af x.af.length) (wW x.af x.af.length)));have t3:=(E9 400 (IntKind.i64.wrap (20+IntKind.i64.wrap (8*mx 0 (mx (lR x.af x.af.length) (wW x.af x.af.length))))));exact aF X [] [(4,⟨false,[aA (lR x.af x.af.length)]⟩),(6,⟨false,[aA (wW x.af x.af.length)]⟩),(7,⟨false,bq t1⟩),(8,⟨false,bq t2⟩),(11,⟨false,bq t3⟩)] [2] [] 1023 0 MO (by kernel_rfl) rfl (by kernel_rfl) (by(with_reducible and_intros);(iterate 5 all_goals try first|exact⟨⟩|exact(eK x)|exact(eY x hd)|exact t1|exact t2|exact t3)) (ak (ah rfl ⟨by rw[sE,W6],⟨⟩⟩))
theorem Bx(x:aW)(c:Int)(hC:wC x 4100000):So 80 [.agg (aN x),aA c] [.agg (aN (eo x (qW c)))]:=by
 refine av X call80 func80 ntmps80 rfl rfl ?_;intro zb;have h0:wB x:=TR hC (by decide);refine aq X [1,2,4] rfl (aC X [] [(8,⟨true,[.agg (aN x)]⟩)] [1,4,5] [] rfl (by(with_reducible and_intros)<;>first|exact⟨⟩|exact(cR x h0)) (aa (aq X [1,4,5,6] rfl ?_)));refine au (aE (fun k=>k≤qW c) (fun k:Nat=> [(6, .one ((aA k)))]) (fun k=> [(9, .arr .bp (eo x k).az),(10, .arr .aZ (eo x k).af),(12, .arr .aJ (eo x k).aB.rounds),(16, .arr .int (eo x k).replaced),(5, .box [cF (eo x k).rows, .own 9, .own 10,cF (eo x k).aB.rows, .own 12,cF (eo x k).bn,cF (eo x k).seed,cF (eo x k).round, .own 16,cF (eo x k).cancelled])]) (fun k=>qW c-k) 0 (fun k=>rfl) (Nat.zero_le _) rfl ?_);intro k hk;have hrn:=Ua c;have hrb:=Ub hC (k:=k) (by omega);refine aa (aq X [1,4,5,6,15] rfl ?_);refine aj rfl ?_ ?_<;>intro hb0
 ·have hgo:=acE hb0;refine an (aa (au (aL X [(19,150)] [(19,⟨true,[.agg (aN (dn (eo x k)))]⟩)] [1,4,5,6] [] rfl (by(with_reducible and_intros)<;>first|exact⟨⟩|exact(rO (eo x k) hrb.1)) (cx 151 9 rfl (cx 152 10 rfl (cx 154 12 rfl (cx 158 16 rfl (bg X [1,4,5,6] rfl ?_))))))));refine⟨k+1,by omega,by omega,?_⟩;rw[bh _ k rfl (by omega)];try rfl
 ·have hkk:=(Z6 hk hb0).symm;exact aI (aD X [4] rfl (by trivial) (ak (ah rfl (by and_intros<;>first|exact⟨⟩| (rw[hkk];done)))))
end
section
set_option maxRecDepth 100000
theorem mm(c:dF)(b:List UInt8)(h0:cE List.length c.aM≤1048576∧cE List.length c.inbox≤1048576)(hb:b.length≤1048576):So 282 [.agg (bG c), .a (.sl .u8 b)] [.agg (bG (kq c b)),aH (pV c b)]:=by
 refine av X call282 func282 ntmps282 rfl rfl ?_;intro zb;have yH:=cA h0.1;refine aq X [1,2,4] rfl (aC X [] [(8,⟨true,[.agg (bG c)]⟩)] [1,2,4,6] [] rfl (by(with_reducible and_intros)<;>first|exact⟨⟩|exact(dR c h0)) (aa (aF X [(12,40),(14,60)] [(12,⟨true,[.a (.sl .u8 b)]⟩),(500013,⟨true,[]⟩)] [2,4,6] [] 31 0 MO (by kernel_rfl) rfl (by kernel_rfl) (by(repeat' with_reducible first|exact aR|refine bf ?_ ?_|apply And.intro)<;>first|exact(b9 b (by first|assumption|omega| (simp;done)| (simp;omega)))|exact rfl|exact⟨rfl,bA _ (by decide)⟩| (simp only[dN,maxLen,lens];omega)) ?_)));refine aa (aC X [] [(17,⟨false,[aH (c8 c)]⟩),(21,⟨false,[aH (c8 (MZ c b))]⟩)] [2,4,6,23] [] rfl (by(with_reducible and_intros);(iterate 2 all_goals try first|exact⟨⟩|exact(dH c)|exact fun _=>(dH (MZ c b)))) ?_);refine aj rfl ?_ ?_<;>intro hb0
 ·have hk:pV c b=false:=bH hb0 (by simp only[pV,aO]<;>first|rfl|ac_rfl);have hq:=OZ hk;exact aC X [] [(25,⟨true,[.agg (bG c)]⟩)] [4,5] [] rfl (by(with_reducible and_intros)<;>first|exact⟨⟩|exact(dR c h0)) (ak (ah rfl (by and_intros<;>first|exact⟨⟩| (rw[hq];done)| (rw[hk];done))))
 ·have hk:pV c b=true:=bF hb0 (by simp only[pV,aO]<;>first|rfl|ac_rfl);have hq:=zX hk;exact an (aD X [4,5] rfl (by trivial) (ak (ah rfl (by and_intros<;>first|exact⟨⟩| (rw[hq];rfl;done)| (rw[hk];done)))))
theorem sG(d:aZ)(b:List UInt8)(h0:bt d≤1048576)(hb:b.length≤1048576):So 215 [.agg (bN d), .a (.sl .u8 b)] [.agg (bN (CK d b)),aH (ur d b)]:=by
 refine av X call215 func215 ntmps215 rfl rfl ?_;intro zb;have hc1:bY d.live≤1048576∧bY d.saved≤1048576:=by unfold bt at h0;omega
 unfold bY at hc1;refine aq X [1,2,4] rfl (aC X [] [(14,⟨true,[.agg (bG (kq d.live b)),aH (pV d.live b)]⟩)] [1,2,4,6,7] [] rfl (by(with_reducible and_intros)<;>first|exact⟨⟩|exact(mm d.live b ⟨by omega,by omega⟩ hb)) (aC X [] [(21,⟨true,[.agg (bG (kq d.saved b)),aH (pV d.saved b)]⟩)] [2,4,6,7,8,9] [] rfl (by(with_reducible and_intros)<;>first|exact⟨⟩|exact(mm d.saved b ⟨by omega,by omega⟩ hb)) (aa (aC X [] [(25,⟨false,[aH (cP d)]⟩)] [2,4,6,8,34] [] rfl (by(with_reducible and_intros)<;>first|exact⟨⟩|exact(dJ d)) ?_))));refine aj rfl ?_ ?_<;>intro hb0
 ·have hk:ur d b=false:=bH hb0 (by simp only[ur,aO]<;>first|rfl|ac_rfl);have hq:=II hk;exact aC X [] [(36,⟨true,[.agg (bN d)]⟩)] [4,5] [] rfl (by(with_reducible and_intros)<;>first|exact⟨⟩|exact(fB d h0)) (ak (ah rfl (by and_intros<;>first|exact⟨⟩| (rw[hq];done)| (rw[hk];done))))
 ·have hk:ur d b=true:=bF hb0 (by simp only[ur,aO]<;>first|rfl|ac_rfl);have hq:=Lf hk;exact an (aD X [4,5] rfl (by trivial) (ak (ah rfl (by and_intros<;>first|exact⟨⟩| (rw[hq];done)| (rw[hk];done)))))
theorem xR(d:aZ)(h0:bt d≤1048576):So 216 [.agg (bN d)] [.agg (bN (M0 d))]:=by
 refine av X call216 func216 ntmps216 rfl rfl ?_;intro zb;have hc1:bY d.live≤1048576∧bY d.saved≤1048576:=by unfold bt at h0;omega
 unfold bY at hc1;refine aq X [1,2] rfl (aa (aC X [] [(4,⟨false,[aH (cP d)]⟩)] [1,2,5] [] rfl (by(with_reducible and_intros)<;>first|exact⟨⟩|exact(dJ d)) ?_));refine aj rfl ?_ ?_<;>intro hb0
 ·have hk:cP d=false:=by simpa using hb0
  have hd:M0 d=d:=by rw[M0,hk];rfl
  exact aC X [] [(7,⟨true,[.agg (bN d)]⟩)] [2] [] rfl (by(with_reducible and_intros)<;>first|exact⟨⟩|exact(fB d h0)) (ak (ah rfl (by and_intros<;>first|exact⟨⟩| (rw[hd];done))))
 ·have hk:cP d=true:=by simpa using hb0
  have hd:M0 d=⟨d.saved,d.saved⟩:=by rw[M0,if_pos hk]
  exact an (aC X [] [(10,⟨true,[.agg (bN (⟨d.saved,d.saved⟩:aZ))]⟩)] [2] [] rfl (by(with_reducible and_intros)<;>first|exact⟨⟩|exact(k9 d.saved ⟨by omega,by omega⟩)) (ak (ah rfl (by and_intros<;>first|exact⟨⟩| (rw[hd];done)))))
theorem uE(x:aW)(c:Int)(b:List UInt8)(h0:wB x)(hb:b.length≤1048576):So 125 [.agg (aN x),aA c, .a (.sl .u8 b)] [.agg (aN (Jg x c b)),aH (K1 x c b)]:=by
 refine av X call125 func125 ntmps125 rfl rfl ?_;intro zb;refine bl 0 1 rfl rfl (fun hl1=> ?_);refine bl 0 2 rfl rfl (fun lg=> ?_);have W4:=zg h0;have hsv:=rF h0;have hw:IntKind.i64.wrap ((x.af.length:Int)-1)=(x.af.length:Int)-1:=bO (by omega);refine aq X [1,2,3,6] rfl (aC X [] [(12,⟨true,[.agg (aN x)]⟩)] [1,2,3,6,8] [] rfl (by(with_reducible and_intros)<;>first|exact⟨⟩|exact(dj x h0)) (aa (aC X [] [(14,⟨false,[aH (okW x)]⟩),(19,⟨false,[aH (fT x c)]⟩)] [1,2,3,6,8,21] [] rfl (by(with_reducible and_intros);(iterate 2 all_goals try first|exact⟨⟩|exact(bQ x)|exact fun _=>(dh x c))) ?_)));refine aj rfl ?_ ?_<;>intro hb0
 ·have hk:cQ x c=false:=bH hb0 (by simp only[cQ,aO]<;>first|rfl|ac_rfl);have hq:=Ud (b:=b) hk;exact aD X [6,7] rfl (by trivial) (ak (ah rfl (by and_intros<;>first|exact⟨⟩| (rw[hq.1];done)| (rw[hq.2];done))))
 ·have hk:cQ x c=true:=bF hb0 (by simp only[cQ,aO]<;>first|rfl|ac_rfl);obtain⟨hok,hc0,hc1⟩:=mC hk;have Ui:=By hk;have hq:=IJ (b:=b) hk;refine an (aa ?_);have t1:=(sG (x.af.getD c.toNat (aG .aZ)) b Ui hb);refine aL X [] [(30,⟨true,bq t1⟩)] [1,6,8,9,10] [] rfl (by(with_reducible and_intros)<;>first|exact⟨⟩|exact t1| (intros;omega)) (aa (aq X [1,6,8,9,10,33] rfl ?_));refine aj rfl ?_ ?_<;>intro aV
  ·exact dy X [6,8,10] rfl (by and_intros<;>first|exact⟨⟩| (intros;omega)) (aD X [6,7] rfl (by trivial) (ak (ah rfl (by and_intros<;>first|exact⟨⟩| (rw[hq.1];rfl;done)| (rw[hq.2];rfl;done)))))
  ·have hs:=Ue hk aV;exact an (aD X [6,7] rfl (by trivial) (ak (ah rfl (by and_intros<;>first|exact⟨⟩| (rw[hs];done)| (rw[hq.2];rfl;done)))))
theorem xS(x:aW)(c:Int)(h0:wB x):So 126 [.agg (aN x),aA c] [.agg (aN (ID x c)),aH (cQ x c)]:=by
 refine av X call126 func126 ntmps126 rfl rfl ?_;intro zb;refine bl 0 1 rfl rfl (fun hl1=> ?_);refine bl 0 2 rfl rfl (fun lg=> ?_);have W4:=zg h0;have hsv:=rF h0;have hw:IntKind.i64.wrap ((x.af.length:Int)-1)=(x.af.length:Int)-1:=bO (by omega);refine aq X [1,2,4] rfl (aC X [] [(8,⟨true,[.agg (aN x)]⟩)] [1,2,4,6] [] rfl (by(with_reducible and_intros)<;>first|exact⟨⟩|exact(dj x h0)) (aa (aC X [] [(10,⟨false,[aH (okW x)]⟩),(15,⟨false,[aH (fT x c)]⟩)] [1,2,4,6,17] [] rfl (by(with_reducible and_intros);(iterate 2 all_goals try first|exact⟨⟩|exact(bQ x)|exact fun _=>(dh x c))) ?_)));refine aj rfl ?_ ?_<;>intro hb0
 ·have hk:cQ x c=false:=bH hb0 (by simp only[cQ,aO]<;>first|rfl|ac_rfl);have hq:=Uf hk;exact aD X [4,5] rfl (by trivial) (ak (ah rfl (by and_intros<;>first|exact⟨⟩| (rw[hq];done)| (rw[hk];done))))
 ·have hk:cQ x c=true:=bF hb0 (by simp only[cQ,aO]<;>first|rfl|ac_rfl);obtain⟨hok,hc0,hc1⟩:=mC hk;have Ui:=By hk;have hq:=O0 hk;exact an (aa (aF X [] [(27,⟨true,[.agg (bN (M0 (x.af.getD c.toNat (aG .aZ))))]⟩)] [4,6] [] 1023 0 MO (by kernel_rfl) rfl (by kernel_rfl) (by(with_reducible and_intros)<;>first|exact⟨⟩|exact(xR (x.af.getD c.toNat (aG .aZ)) Ui)| (intros;omega)) (aD X [4,5] rfl (by trivial) (ak (ah rfl (by and_intros<;>first|exact⟨⟩| (rw[hq];rfl;done)| (rw[hk];done)))))))
theorem uF(x:aW)(i b:Int)(h0:wB x):So 127 [.agg (aN x),aA i,aA b] [.agg (aN (K2 x i b)),aH (oP x i b)]:=by
 refine av X call127 func127 ntmps127 rfl rfl ?_;intro zb;refine bl 0 1 rfl rfl (fun hl1=> ?_);refine bl 0 2 rfl rfl (fun lg=> ?_);have W4:=zg h0;have hsv:=rF h0;refine aq X [1,2,3,6] rfl (aC X [] [(10,⟨true,[.agg (aN x)]⟩)] [1,2,3,6,8] [] rfl (by(with_reducible and_intros)<;>first|exact⟨⟩|exact(dj x h0)) (aa (aa ?_)));have t1:=(aK i 0 (IntKind.i64.wrap ((x.az.length:Int)-1)));refine aL X [] [(12,⟨false,[aH (okW x)]⟩),(20,⟨false,bq t1⟩),(25,⟨false,[aH (inr b 0 3)]⟩)] [1,2,6,8,27] [] rfl (by(with_reducible and_intros);(iterate 3 all_goals try first|exact⟨⟩|exact(bQ x)|exact fun _=>t1|exact fun _=>(aK b 0 3))) ?_;refine aj rfl ?_ ?_<;>intro hb0
 ·have hk:oP x i b=false:=bH hb0 (by simp only[oP,aO]<;>first|rfl|ac_rfl);have hq:=Uh hk;exact aD X [6,7] rfl (by trivial) (ak (ah rfl (by and_intros<;>first|exact⟨⟩| (rw[hq];done)| (rw[hk];done))))
 ·have hk:oP x i b=true:=bF hb0 (by simp only[oP,aO]<;>first|rfl|ac_rfl);have hcb:=M1 hk;have hq:=O2 hk;exact an (aD X [6,8] rfl (by and_intros<;>first|exact⟨⟩| (intros;omega)) (aD X [6,7] rfl (by trivial) (ak (ah rfl (by and_intros<;>first|exact⟨⟩| (rw[hq];rfl;done)| (rw[hk];done))))))
theorem zZ(x:aW)(e:Ev)(hR:wR x)(hb:e.body.length≤1048576):So 70 [.agg (aN x), .agg (jQ e)] [.agg (aN (yd x e)),aH (lP x e)]:=by
 refine av X call70 func70 ntmps70 rfl rfl ?_;intro zb;have h0:=hR.1;refine bl 0 1 rfl rfl (fun hl1=> ?_);refine bl 0 2 rfl rfl (fun lg=> ?_);have W4:=zg h0;have hsv:=rF h0;have hw:IntKind.i64.wrap ((x.af.length:Int)-1)=(x.af.length:Int)-1:=bO (by omega);refine aq X [2,3,4] rfl (aC X [] [(8,⟨true,[.agg (aN x)]⟩)] [2,3,4,6] [] rfl (by(with_reducible and_intros)<;>first|exact⟨⟩|exact(dj x h0)) (aa (aC X [] [(10,⟨false,[aH (okW x)]⟩)] [2,3,4,6,11] [] rfl (by(with_reducible and_intros)<;>first|exact⟨⟩|exact(bQ x)) ?_)));refine aj rfl ?_ ?_<;>intro hb0
 ·have hok:okW x=false:=by simpa using hb0
  have hv:=YB (e:=e) hok;exact aD X [4,5] rfl (by trivial) (ak (ah rfl (by and_intros<;>first|exact⟨⟩| (rw[hv.1];done)| (rw[hv.2];done))))
 ·have hok:okW x=true:=by simpa using hb0
  refine an (aa (aq X [2,3,4,6,14] rfl (au (aq X [2,3,4,6,14,15] rfl ?_))));refine aj rfl ?_ ?_<;>intro aV
  ·try simp only[aQ]at aV
   have hv:=acF hok aV;exact aa (aF X [] [(18,⟨true,[.agg (aN (dn x))]⟩)] [4,5] [] 95 3 MO (by kernel_rfl) rfl (by kernel_rfl) (by(with_reducible and_intros)<;>first|exact⟨⟩|exact(rN x hR)) (ak (ah rfl (by and_intros<;>first|exact⟨⟩| (rw[hv.1];done)| (rw[hv.2];done)))))
  ·try simp only[aQ]at aV
   refine aq X [2,3,4,6,14,22] rfl ?_;refine aj rfl ?_ ?_<;>intro bI
   ·try simp only[aQ]at bI
    have hv:=acG hok bI;refine aa ?_;have t1:=(uE x e.node e.body h0 hb);exact aL X [] [(29,⟨true,bq t1⟩)] [4,5] [] rfl (by(with_reducible and_intros)<;>first|exact⟨⟩|exact t1) (ak (ah rfl (by and_intros<;>first|exact⟨⟩| (rw[hv.1];done)| (rw[hv.2];done))))
   ·try simp only[aQ]at bI
    refine aq X [2,3,4,6,14,32] rfl ?_;refine aj rfl ?_ ?_<;>intro eE
    ·try simp only[aQ]at eE
     have hv:=acH hok eE;exact aC X [] [(37,⟨true,[.agg (aN (ID x e.node)),aH (cQ x e.node)]⟩)] [4,5] [] rfl (by(with_reducible and_intros)<;>first|exact⟨⟩|exact(xS x e.node h0)) (ak (ah rfl (by and_intros<;>first|exact⟨⟩| (rw[hv.1];done)| (rw[hv.2];done))))
    ·try simp only[aQ]at eE
     refine aq X [2,3,4,6,14,40] rfl ?_;refine aj rfl ?_ ?_<;>intro kV
     ·try simp only[aQ]at kV
      have hv:=acI hok kV;refine aa ?_;have t1:=(uF x e.node e.value h0);exact aL X [] [(47,⟨true,bq t1⟩)] [4,5] [] rfl (by(with_reducible and_intros)<;>first|exact⟨⟩|exact t1) (ak (ah rfl (by and_intros<;>first|exact⟨⟩| (rw[hv.1];done)| (rw[hv.2];done))))
     ·try simp only[aQ]at kV
      refine aq X [2,3,4,6,50] rfl ?_;refine aj rfl ?_ ?_<;>intro wX
      ·try simp only[aQ]at wX
       have hv:=acJ hok wX;refine aC X [] [(55,⟨false,[aH (fT x e.node)]⟩)] [2,3,4,6,55] [] rfl (by(with_reducible and_intros)<;>first|exact⟨⟩|exact(dh x e.node)) ?_;refine aj rfl ?_ ?_<;>intro Fc
       ·have hh:fT x e.node=true:=Fc;have hk:cQ x e.node=true:=by rw[zY hok];exact hh
        obtain⟨_,hc0,hc1⟩:=mC hk;have Ui:=By hk;have hq:=O1 hk;exact aa (aF X [] [(66,⟨true,[.agg (bN (IC (x.af.getD e.node.toNat (aG .aZ))))]⟩)] [4,6] [] 4095 0 MO (by kernel_rfl) rfl (by kernel_rfl) (by(with_reducible and_intros)<;>first|exact⟨⟩|exact(ot (x.af.getD e.node.toNat (aG .aZ)) Ui)| (intros;omega)) (aD X [4,5] rfl (by trivial) (ak (ah rfl (by and_intros<;>first|exact⟨⟩| (rw[hv.1,hq];rfl;done)| (rw[hv.2,hk];done))))))
       ·have hh:fT x e.node=false:=Fc;have hk:cQ x e.node=false:=by rw[zY hok];exact hh
        have hq:=Ug hk;exact an (aD X [4,5] rfl (by trivial) (ak (ah rfl (by and_intros<;>first|exact⟨⟩| (rw[hv.1,hq];done)| (rw[hv.2,hk];done)))))
      ·try simp only[aQ]at wX
       have hv:=acK hok aV bI eE kV wX;exact an (aD X [4,5] rfl (by trivial) (ak (ah rfl (by and_intros<;>first|exact⟨⟩| (rw[hv.1];done)| (rw[hv.2];done)))))
theorem mo(c:dF)(b:List UInt8)(h0:cE List.length c.aM≤1048576∧cE List.length c.inbox≤1048576)(hb:b.length≤1048576):So 309 [.agg (bG c), .a (.sl .u8 b)] [.agg (bG (kq c b)),aH (pV c b)]:=by
 refine av X call309 func309 ntmps309 rfl rfl ?_;intro zb;have yH:=cA h0.1;refine aq X [1,2,4] rfl (aC X [] [(8,⟨true,[.agg (bG c)]⟩)] [1,2,4,6] [] rfl (by(with_reducible and_intros)<;>first|exact⟨⟩|exact(eW c h0)) (aa (aF X [(13,11),(13,40)] [(500014,⟨true,[]⟩)] [2,4,6] [] 175 2 MO (by kernel_rfl) rfl (by kernel_rfl) (by and_intros<;>first|exact⟨⟩|exact rfl| (simp only[dN,maxLen,lens];omega)) (aa (aC X [] [(18,⟨false,[aH (c8 c)]⟩),(22,⟨false,[aH (c8 (MZ c b))]⟩)] [2,4,6,24] [] rfl (by(with_reducible and_intros);(iterate 2 all_goals try first|exact⟨⟩|exact(dI c)|exact fun _=>(dI (MZ c b)))) ?_)))));refine aj rfl ?_ ?_<;>intro hb0
 ·have hk:pV c b=false:=bH hb0 (by simp only[pV,aO]<;>first|rfl|ac_rfl);have hq:=OZ hk;exact aC X [] [(26,⟨true,[.agg (bG c)]⟩)] [4,5] [] rfl (by(with_reducible and_intros)<;>first|exact⟨⟩|exact(eW c h0)) (ak (ah rfl (by and_intros<;>first|exact⟨⟩| (rw[hq];done)| (rw[hk];done))))
 ·have hk:pV c b=true:=bF hb0 (by simp only[pV,aO]<;>first|rfl|ac_rfl);have hq:=zX hk;exact an (aD X [4,5] rfl (by trivial) (ak (ah rfl (by and_intros<;>first|exact⟨⟩| (rw[hq];rfl;done)| (rw[hk];done)))))
theorem sH(d:aZ)(b:List UInt8)(h0:bt d≤1048576)(hb:b.length≤1048576):So 246 [.agg (bN d), .a (.sl .u8 b)] [.agg (bN (CK d b)),aH (ur d b)]:=by
 refine av X call246 func246 ntmps246 rfl rfl ?_;intro zb;have hc1:bY d.live≤1048576∧bY d.saved≤1048576:=by unfold bt at h0;omega
 unfold bY at hc1;refine aq X [1,2,4] rfl (aC X [] [(14,⟨true,[.agg (bG (kq d.live b)),aH (pV d.live b)]⟩)] [1,2,4,6,7] [] rfl (by(with_reducible and_intros)<;>first|exact⟨⟩|exact(mo d.live b ⟨by omega,by omega⟩ hb)) (aC X [] [(21,⟨true,[.agg (bG (kq d.saved b)),aH (pV d.saved b)]⟩)] [2,4,6,7,8,9] [] rfl (by(with_reducible and_intros)<;>first|exact⟨⟩|exact(mo d.saved b ⟨by omega,by omega⟩ hb)) (aa (aC X [] [(25,⟨false,[aH (cP d)]⟩)] [2,4,6,8,34] [] rfl (by(with_reducible and_intros)<;>first|exact⟨⟩|exact(dK d)) ?_))));refine aj rfl ?_ ?_<;>intro hb0
 ·have hk:ur d b=false:=bH hb0 (by simp only[ur,aO]<;>first|rfl|ac_rfl);have hq:=II hk;exact aC X [] [(36,⟨true,[.agg (bN d)]⟩)] [4,5] [] rfl (by(with_reducible and_intros)<;>first|exact⟨⟩|exact(gW d h0)) (ak (ah rfl (by and_intros<;>first|exact⟨⟩| (rw[hq];done)| (rw[hk];done))))
 ·have hk:ur d b=true:=bF hb0 (by simp only[ur,aO]<;>first|rfl|ac_rfl);have hq:=Lf hk;exact an (aD X [4,5] rfl (by trivial) (ak (ah rfl (by and_intros<;>first|exact⟨⟩| (rw[hq];done)| (rw[hk];done)))))
theorem xT(d:aZ)(h0:bt d≤1048576):So 247 [.agg (bN d)] [.agg (bN (M0 d))]:=by
 refine av X call247 func247 ntmps247 rfl rfl ?_;intro zb;have hc1:bY d.live≤1048576∧bY d.saved≤1048576:=by unfold bt at h0;omega
 unfold bY at hc1;refine aq X [1,2] rfl (aa (aC X [] [(4,⟨false,[aH (cP d)]⟩)] [1,2,5] [] rfl (by(with_reducible and_intros)<;>first|exact⟨⟩|exact(dK d)) ?_));refine aj rfl ?_ ?_<;>intro hb0
 ·have hk:cP d=false:=by simpa using hb0
  have hd:M0 d=d:=by rw[M0,hk];rfl
  exact aC X [] [(7,⟨true,[.agg (bN d)]⟩)] [2] [] rfl (by(with_reducible and_intros)<;>first|exact⟨⟩|exact(gW d h0)) (ak (ah rfl (by and_intros<;>first|exact⟨⟩| (rw[hd];done))))
 ·have hk:cP d=true:=by simpa using hb0
  have hd:M0 d=⟨d.saved,d.saved⟩:=by rw[M0,if_pos hk]
  exact an (aC X [] [(10,⟨true,[.agg (bN (⟨d.saved,d.saved⟩:aZ))]⟩)] [2] [] rfl (by(with_reducible and_intros)<;>first|exact⟨⟩|exact(ld d.saved ⟨by omega,by omega⟩)) (ak (ah rfl (by and_intros<;>first|exact⟨⟩| (rw[hd];done)))))
theorem uG(x:aW)(c:Int)(b:List UInt8)(h0:wB x)(hb:b.length≤1048576):So 170 [.agg (aN x),aA c, .a (.sl .u8 b)] [.agg (aN (Jg x c b)),aH (K1 x c b)]:=by
 refine av X call170 func170 ntmps170 rfl rfl ?_;intro zb;refine bl 0 1 rfl rfl (fun hl1=> ?_);refine bl 0 2 rfl rfl (fun lg=> ?_);have W4:=zg h0;have hsv:=rF h0;have hw:IntKind.i64.wrap ((x.af.length:Int)-1)=(x.af.length:Int)-1:=bO (by omega);refine aq X [1,2,3,6] rfl (aC X [] [(12,⟨true,[.agg (aN x)]⟩)] [1,2,3,6,8] [] rfl (by(with_reducible and_intros)<;>first|exact⟨⟩|exact(cR x h0)) (aa (aa ?_)));have t1:=(aP c 0 (IntKind.i64.wrap ((x.af.length:Int)-1)));refine aL X [] [(14,⟨false,[aH (okW x)]⟩),(22,⟨false,bq t1⟩)] [1,2,3,6,8,24] [] rfl (by(with_reducible and_intros);(iterate 2 all_goals try first|exact⟨⟩|exact(bV x)|exact fun _=>t1)) ?_;refine aj rfl ?_ ?_<;>intro hb0
 ·have hk:cQ x c=false:=bH hb0 (by simp only[cQ,fT,hw,aO]<;>first|rfl|ac_rfl);have hq:=Ud (b:=b) hk;exact aD X [6,7] rfl (by trivial) (ak (ah rfl (by and_intros<;>first|exact⟨⟩| (rw[hq.1];done)| (rw[hq.2];done))))
 ·have hk:cQ x c=true:=bF hb0 (by simp only[cQ,fT,hw,aO]<;>first|rfl|ac_rfl);obtain⟨hok,hc0,hc1⟩:=mC hk;have Ui:=By hk;have hq:=IJ (b:=b) hk;refine an (aa ?_);have t1:=(sH (x.af.getD c.toNat (aG .aZ)) b Ui hb);exact aL X [] [(33,⟨true,bq t1⟩)] [1,6,8,9,10] [] rfl (by(with_reducible and_intros)<;>first|exact⟨⟩|exact t1| (intros;omega)) (aD X [6,8,10] rfl (by and_intros<;>first|exact⟨⟩| (intros;omega)) (aD X [6,7] rfl (by trivial) (ak (ah rfl (by and_intros<;>first|exact⟨⟩| (rw[hq.1];rfl;done)| (rw[hq.2];rfl;done))))))
theorem xU(x:aW)(c:Int)(h0:wB x):So 171 [.agg (aN x),aA c] [.agg (aN (ID x c)),aH (cQ x c)]:=by
 refine av X call171 func171 ntmps171 rfl rfl ?_;intro zb;refine bl 0 1 rfl rfl (fun hl1=> ?_);refine bl 0 2 rfl rfl (fun lg=> ?_);have W4:=zg h0;have hsv:=rF h0;have hw:IntKind.i64.wrap ((x.af.length:Int)-1)=(x.af.length:Int)-1:=bO (by omega);refine aq X [1,2,4] rfl (aC X [] [(8,⟨true,[.agg (aN x)]⟩)] [1,2,4,6] [] rfl (by(with_reducible and_intros)<;>first|exact⟨⟩|exact(cR x h0)) (aa (aa ?_)));have t1:=(aP c 0 (IntKind.i64.wrap ((x.af.length:Int)-1)));refine aL X [] [(10,⟨false,[aH (okW x)]⟩),(18,⟨false,bq t1⟩)] [1,2,4,6,20] [] rfl (by(with_reducible and_intros);(iterate 2 all_goals try first|exact⟨⟩|exact(bV x)|exact fun _=>t1)) ?_;refine aj rfl ?_ ?_<;>intro hb0
 ·have hk:cQ x c=false:=bH hb0 (by simp only[cQ,fT,hw,aO]<;>first|rfl|ac_rfl);have hq:=Uf hk;exact aD X [4,5] rfl (by trivial) (ak (ah rfl (by and_intros<;>first|exact⟨⟩| (rw[hq];done)| (rw[hk];done))))
 ·have hk:cQ x c=true:=bF hb0 (by simp only[cQ,fT,hw,aO]<;>first|rfl|ac_rfl);obtain⟨hok,hc0,hc1⟩:=mC hk;have Ui:=By hk;have hq:=O0 hk;exact an (aa (aF X [] [(30,⟨true,[.agg (bN (M0 (x.af.getD c.toNat (aG .aZ))))]⟩)] [4,6] [] 1023 0 MO (by kernel_rfl) rfl (by kernel_rfl) (by(with_reducible and_intros)<;>first|exact⟨⟩|exact(xT (x.af.getD c.toNat (aG .aZ)) Ui)| (intros;omega)) (aD X [4,5] rfl (by trivial) (ak (ah rfl (by and_intros<;>first|exact⟨⟩| (rw[hq];rfl;done)| (rw[hk];done)))))))
theorem uH(x:aW)(i b:Int)(h0:wB x):So 172 [.agg (aN x),aA i,aA b] [.agg (aN (K2 x i b)),aH (oP x i b)]:=by
 refine av X call172 func172 ntmps172 rfl rfl ?_;intro zb;refine bl 0 1 rfl rfl (fun hl1=> ?_);refine bl 0 2 rfl rfl (fun lg=> ?_);have W4:=zg h0;have hsv:=rF h0;refine aq X [1,2,3,6] rfl (aC X [] [(10,⟨true,[.agg (aN x)]⟩)] [1,2,3,6,8] [] rfl (by(with_reducible and_intros)<;>first|exact⟨⟩|exact(cR x h0)) (aa (aa ?_)));have t1:=(aP i 0 (IntKind.i64.wrap ((x.az.length:Int)-1)));refine aL X [] [(12,⟨false,[aH (okW x)]⟩),(20,⟨false,bq t1⟩),(25,⟨false,[aH (inr b 0 3)]⟩)] [1,2,6,8,27] [] rfl (by(with_reducible and_intros);(iterate 3 all_goals try first|exact⟨⟩|exact(bV x)|exact fun _=>t1|exact fun _=>(aP b 0 3))) ?_;refine aj rfl ?_ ?_<;>intro hb0
 ·have hk:oP x i b=false:=bH hb0 (by simp only[oP,aO]<;>first|rfl|ac_rfl);have hq:=Uh hk;exact aD X [6,7] rfl (by trivial) (ak (ah rfl (by and_intros<;>first|exact⟨⟩| (rw[hq];done)| (rw[hk];done))))
 ·have hk:oP x i b=true:=bF hb0 (by simp only[oP,aO]<;>first|rfl|ac_rfl);have hcb:=M1 hk;have hq:=O2 hk;exact an (aD X [6,8] rfl (by and_intros<;>first|exact⟨⟩| (intros;omega)) (aD X [6,7] rfl (by trivial) (ak (ah rfl (by and_intros<;>first|exact⟨⟩| (rw[hq];rfl;done)| (rw[hk];done))))))
theorem Aa(x:aW)(e:Ev)(hR:wR x)(hb:e.body.length≤1048576):So 103 [.agg (aN x), .agg (jQ e)] [.agg (aN (yd x e)),aH (lP x e)]:=by
 refine av X call103 func103 ntmps103 rfl rfl ?_;intro zb;have h0:=hR.1;refine bl 0 1 rfl rfl (fun hl1=> ?_);refine bl 0 2 rfl rfl (fun lg=> ?_);have W4:=zg h0;have hsv:=rF h0;have hw:IntKind.i64.wrap ((x.af.length:Int)-1)=(x.af.length:Int)-1:=bO (by omega);refine aq X [2,3,4] rfl (aa (aC X [] [(8,⟨false,[aH (okW x)]⟩)] [2,3,4,9] [] rfl (by(with_reducible and_intros)<;>first|exact⟨⟩|exact(bV x)) ?_));refine aj rfl ?_ ?_<;>intro hb0
 ·have hok:okW x=false:=by simpa using hb0
  have hv:=YB (e:=e) hok;exact aC X [] [(11,⟨true,[.agg (aN x)]⟩)] [4,5] [] rfl (by(with_reducible and_intros)<;>first|exact⟨⟩|exact(cR x h0)) (ak (ah rfl (by and_intros<;>first|exact⟨⟩| (rw[hv.1];done)| (rw[hv.2];done))))
 ·have hok:okW x=true:=by simpa using hb0
  refine an (aa (aq X [2,3,4,13] rfl (au (aq X [2,3,4,13,14] rfl ?_))));refine aj rfl ?_ ?_<;>intro aV
  ·try simp only[aQ]at aV
   have hv:=acF hok aV;exact aa (aF X [] [(17,⟨true,[.agg (aN (dn x))]⟩)] [4,5] [] 95 3 MO (by kernel_rfl) rfl (by kernel_rfl) (by(with_reducible and_intros)<;>first|exact⟨⟩|exact(rO x hR)) (ak (ah rfl (by and_intros<;>first|exact⟨⟩| (rw[hv.1];done)| (rw[hv.2];done)))))
  ·try simp only[aQ]at aV
   refine aq X [2,3,4,13,21] rfl ?_;refine aj rfl ?_ ?_<;>intro bI
   ·try simp only[aQ]at bI
    have hv:=acG hok bI;refine aa ?_;have t1:=(uG x e.node e.body h0 hb);exact aL X [] [(28,⟨true,bq t1⟩)] [4,5] [] rfl (by(with_reducible and_intros)<;>first|exact⟨⟩|exact t1) (ak (ah rfl (by and_intros<;>first|exact⟨⟩| (rw[hv.1];done)| (rw[hv.2];done))))
   ·try simp only[aQ]at bI
    refine aq X [2,3,4,13,31] rfl ?_;refine aj rfl ?_ ?_<;>intro eE
    ·try simp only[aQ]at eE
     have hv:=acH hok eE;exact aC X [] [(36,⟨true,[.agg (aN (ID x e.node)),aH (cQ x e.node)]⟩)] [4,5] [] rfl (by(with_reducible and_intros)<;>first|exact⟨⟩|exact(xU x e.node h0)) (ak (ah rfl (by and_intros<;>first|exact⟨⟩| (rw[hv.1];done)| (rw[hv.2];done))))
    ·try simp only[aQ]at eE
     refine aq X [2,3,4,13,39] rfl ?_;refine aj rfl ?_ ?_<;>intro kV
     ·try simp only[aQ]at kV
      have hv:=acI hok kV;refine aa ?_;have t1:=(uH x e.node e.value h0);exact aL X [] [(46,⟨true,bq t1⟩)] [4,5] [] rfl (by(with_reducible and_intros)<;>first|exact⟨⟩|exact t1) (ak (ah rfl (by and_intros<;>first|exact⟨⟩| (rw[hv.1];done)| (rw[hv.2];done))))
     ·try simp only[aQ]at kV
      refine aq X [2,3,4,49] rfl ?_;refine aj rfl ?_ ?_<;>intro wX
      ·try simp only[aQ]at wX
       have hv:=acJ hok wX;refine aC X [] [(52,⟨true,[.agg (aN x)]⟩)] [2,3,4,6] [] rfl (by(with_reducible and_intros)<;>first|exact⟨⟩|exact(cR x h0)) (aa (aa ?_));have t1:=(aP e.node 0 (IntKind.i64.wrap ((x.af.length:Int)-1)));refine aL X [] [(59,⟨false,bq t1⟩)] [2,3,4,6,60] [] rfl (by(with_reducible and_intros)<;>first|exact⟨⟩|exact t1) ?_;refine aj rfl ?_ ?_<;>intro Fc
       ·have hh:fT x e.node=false:=by rw[hw]at Fc;unfold fT;simpa using Fc
        have hk:cQ x e.node=false:=by rw[zY hok];exact hh
        have hq:=Ug hk;exact aD X [4,5] rfl (by trivial) (ak (ah rfl (by and_intros<;>first|exact⟨⟩| (rw[hv.1,hq];done)| (rw[hv.2,hk];done))))
       ·have hh:fT x e.node=true:=by rw[hw]at Fc;unfold fT;simpa using Fc
        have hk:cQ x e.node=true:=by rw[zY hok];exact hh
        obtain⟨_,hc0,hc1⟩:=mC hk;have Ui:=By hk;have hq:=O1 hk;exact an (aa (aF X [] [(72,⟨true,[.agg (bN (IC (x.af.getD e.node.toNat (aG .aZ))))]⟩)] [4,6] [] 4095 0 MO (by kernel_rfl) rfl (by kernel_rfl) (by(with_reducible and_intros)<;>first|exact⟨⟩|exact(ou (x.af.getD e.node.toNat (aG .aZ)) Ui)| (intros;omega)) (aD X [4,5] rfl (by trivial) (ak (ah rfl (by and_intros<;>first|exact⟨⟩| (rw[hv.1,hq];rfl;done)| (rw[hv.2,hk];done)))))))
      ·try simp only[aQ]at wX
       have hv:=acK hok aV bI eE kV wX;exact an (aC X [] [(76,⟨true,[.agg (aN x)]⟩)] [4,5] [] rfl (by(with_reducible and_intros)<;>first|exact⟨⟩|exact(cR x h0)) (ak (ah rfl (by and_intros<;>first|exact⟨⟩| (rw[hv.1];done)| (rw[hv.2];done)))))
end
section
set_option maxRecDepth 100000
theorem Ab(r:Int)(h:1≤r∧r≤64):So 93 [aA r] [.agg (cV (⟨r,[]⟩:gZ))]:=by
 refine cw X2 call93 func93 rfl rfl (by decide) ntmps93 (by simp) ?_;intro zb;refine aq X2 [0,2] rfl (aa (aC X2 [] [(4,⟨false,[aH (inr r 1 64)]⟩)] [0,2,5] [] rfl (by(with_reducible and_intros)<;>first|exact⟨⟩|exact(aP r 1 64)) ?_));refine aj rfl ?_ ?_<;>intro hb0
 ·try simp only[aQ]at hb0
  omega
 ·try simp only[aQ]at hb0
  exact an (aD X2 [2] rfl (by trivial) (ak (ah rfl ⟨rfl,rfl,⟨⟩⟩)))
theorem BF(i f k s:Int)(h1:0≤i∧i≤7)(h2:0≤f∧f≤7)(h3:i≠f)(h4:1≤k∧k≤2147483646):So 97 [aA i,aA f,aA k,aA s] [.agg (bG (⟨i,f,k,s,[],0,[],0⟩:dF))]:=by
 refine cw X2 call97 func97 rfl rfl (by decide) ntmps97 (by simp) ?_;intro zb;refine aq X2 [0,1,2,3,8] rfl (aa (aC X2 [] [(12,⟨false,[aH (inr i 0 7&&inr f 0 7&& !(i==f)&&eM k)]⟩)] [0,1,2,3,8,13] [] rfl (by(with_reducible and_intros)<;>first|exact⟨⟩|exact(yQ i f k)) ?_));refine aj rfl ?_ ?_<;>intro hb0
 ·try simp only[aQ]at hb0
  have hq:eM k=true:=by unfold eM;rw[b7];exact h4
  rw[hq]at hb0;simp at hb0;omega
 ·exact an (aD X2 [8] rfl (by trivial) (ak (ah rfl ⟨rfl,rfl,rfl,rfl,rfl,rfl,rfl,rfl,⟨⟩⟩)))
theorem CS(rows s p seed:Int)(hr:1≤rows∧rows≤64)(hs:2≤s∧s≤4)(hp:1≤p∧p≤4):So 45 [aA rows,aA s,aA p,aA seed] [.agg (aN (UB rows s.toNat p.toNat seed))]:=by
 refine cw X2 call45 func45 rfl rfl (by decide) ntmps45 (by simp) ?_;intro zb;refine aq X2 [0,1,2,3,8] rfl (aa (aC X2 [] [(14,⟨false,[aH (inr rows 1 64)]⟩),(18,⟨false,[aH (bT s)]⟩),(23,⟨false,[aH (inr p 1 4)]⟩)] [0,1,2,3,8,25] [] rfl (by(with_reducible and_intros);(iterate 3 all_goals try first|exact⟨⟩|exact(aP rows 1 64)|exact fun _=>(ez s)|exact fun _=>(aP p 1 4))) ?_));refine aj rfl ?_ ?_<;>intro hb0
 ·try simp only[aQ]at hb0
  simp[bT,inr]at hb0;omega
 ·refine an (aa ?_);have t1:=(jm 1 (kh seed [197]));refine aL X2 [(29,63)] [(29,⟨true,[.agg (cV (⟨rows,[]⟩:gZ))]⟩),(32,⟨false,[aA (kh seed [197])]⟩),(33,⟨false,bq t1⟩)] [0,1,2,3,8,9] [] rfl (by(repeat' with_reducible first|exact aR|refine bf ?_ ?_|apply And.intro);(iterate 3 all_goals try first|exact(Ab rows (by first|assumption|omega| (simp;done)| (simp;omega)))|exact(bE seed [197] (by first|assumption|omega| (simp;done)| (simp;omega)))|exact t1);all_goals first|exact⟨rfl,bA _ (by decide)⟩) ?_;rw[C6 (dz _ _).1];refine cm 9 1 61 .bp rfl (cm 9 2 62 .aZ rfl (aa (aq X2 [0,1,2,3,8,9,10] rfl ?_)));refine au (aE (fun k=>k≤s.toNat) (fun k:Nat=> [(10, .one ((aA k)))]) (fun k=> [(61, .arr .bp (CQ rows k))]) (fun k=>s.toNat-k) 0 (fun k=>rfl) (Nat.zero_le _) rfl ?_);intro k hk;have hle:=IN rows k;refine aa (aq X2 [0,1,2,3,8,9,10,38] rfl ?_);refine aj rfl ?_ ?_<;>intro aV
  ·try simp only[aQ]at aV
   have hns:=zP (id:=(k:Int)) (rows:=rows) (by omega) hr;refine an (aa (au (aF X2 [(47,61)] [(45,⟨true,[.agg (bS (newS (k:Int) rows 0))]⟩),(500046,⟨true,[]⟩)] [0,1,2,3,8,9,10] [] 63 0 MO (by kernel_rfl) rfl (by kernel_rfl) (by(repeat' with_reducible first|exact aR|refine bf ?_ ?_|apply And.intro)<;>first|exact(pY (k:Int) rows 0)|exact rfl|exact⟨rfl,bA _ (by decide)⟩| (simp only[dN,maxLen,lens];omega)) ?_)));rw[hns];refine bg X2 [0,1,2,3,8,9,10] rfl ?_;refine⟨k+1,by omega,by omega,?_⟩;rw[bh _ k rfl (by omega),Lj];try rfl
  ·try simp only[aQ]at aV
   have hks:s.toNat=k:=by omega
   refine aI (aa (aq X2 [2,3,8,9,11] rfl ?_));refine au (aE (fun k1=>k1≤(2*p.toNat)) (fun k1:Nat=> [(11, .one ((aA k1)))]) (fun k1=> [(62, .arr .aZ (sI seed k1))]) (fun k1=>(2*p.toNat)-k1) 0 (fun k1=>rfl) (Nat.zero_le _) rfl ?_);intro k1 hk1;have Cx:=IP seed k1;have Vt:IntKind.i64.wrap (2*p)=2*p:=bO (by omega);refine aa (aq X2 [2,3,8,9,11,52] rfl ?_);refine aj rfl ?_ ?_<;>intro bI
   ·try simp only[aQ]at bI
    rw[Vt]at bI;have hkr:=o7 (dz seed [199,(k1:Int).tdiv 2]);have hx:(IntKind.i64.wrap (BitVec.ofInt IntKind.i64.bits (k1:Int)^^^BitVec.ofInt IntKind.i64.bits 1).toNat)=((k1^^^1:Nat):Int):=CB k1 (by omega);have hxl:=tO k1 8 (by omega) (by decide);have hxn:=IQ k1;have ZB:=C6 (dz seed [199,(k1:Int).tdiv 2]).1;have jO:IntKind.i64.wrap ((k1:Int).tdiv 2)=(k1:Int).tdiv 2:=by rw[mR (by omega)];exact bO (by omega)
    refine an (aa (au (aa ?_)));have t1:=(bE seed [199,IntKind.i64.wrap ((k1:Int).tdiv 2)] (by first|assumption|omega| (simp;done)| (simp;omega)));have t2:=(jm 1 (kh seed [199,IntKind.i64.wrap ((k1:Int).tdiv 2)]));refine aL X2 [] [(59,⟨false,bq t1⟩),(60,⟨false,bq t2⟩)] [2,3,8,9,11,12] [] rfl (by(repeat' with_reducible first|exact aR|refine bf ?_ ?_|apply And.intro);(iterate 2 all_goals try first|exact t1|exact t2);all_goals first| (intros;omega)|exact⟨rfl,bA _ (by decide)⟩) ?_;rw[jO,ZB];have t1:=(BF (k1:Int) (IntKind.i64.wrap (BitVec.ofInt IntKind.i64.bits (k1:Int)^^^BitVec.ofInt IntKind.i64.bits 1).toNat) (As (kh seed [199,(k1:Int).tdiv 2])) (kh seed [211,(k1:Int)]) (by omega) (by rw[hx];omega) (by rw[hx];omega) (by omega));refine aF X2 [(74,62)] [(70,⟨false,[aA (kh seed [211,(k1:Int)])]⟩),(71,⟨false,bq t1⟩),(72,⟨true,[.agg (bN (⟨(⟨(k1:Int),(IntKind.i64.wrap (BitVec.ofInt IntKind.i64.bits (k1:Int)^^^BitVec.ofInt IntKind.i64.bits 1).toNat),(As (kh seed [199,(k1:Int).tdiv 2])),(kh seed [211,(k1:Int)]),[],0,[],0⟩:dF),(⟨(k1:Int),(IntKind.i64.wrap (BitVec.ofInt IntKind.i64.bits (k1:Int)^^^BitVec.ofInt IntKind.i64.bits 1).toNat),(As (kh seed [199,(k1:Int).tdiv 2])),(kh seed [211,(k1:Int)]),[],0,[],0⟩:dF)⟩:aZ))]⟩)] [2,3,8,9,11] [] 20479 2 MO (by kernel_rfl) rfl (by kernel_rfl) (by(repeat' with_reducible first|exact aR|refine bf ?_ ?_|apply And.intro);(iterate 3 all_goals try first|exact(bE seed [211,(k1:Int)] (by first|assumption|omega| (simp;done)| (simp;omega)))|exact t1|exact(ld (⟨(k1:Int),(IntKind.i64.wrap (BitVec.ofInt IntKind.i64.bits (k1:Int)^^^BitVec.ofInt IntKind.i64.bits 1).toNat),(As (kh seed [199,(k1:Int).tdiv 2])),(kh seed [211,(k1:Int)]),[],0,[],0⟩:dF) ⟨Nat.zero_le _,Nat.zero_le _⟩));all_goals first|exact rfl|exact⟨rfl,bA _ (by decide)⟩| (simp only[dN,maxLen,lens];omega)) ?_;rw[hx];refine bg X2 [2,3,8,9,11] rfl ?_;refine⟨k1+1,by omega,by omega,?_⟩;rw[bh _ k1 rfl (by omega),Ll];try rfl
   ·try simp only[aQ]at bI
    rw[Vt]at bI;have K5:2*p.toNat=k1:=by omega
    exact aI (aD X2 [8] rfl (by trivial) (ak (ah rfl ⟨rfl,by rw[hks];rfl,by rw[←K5];rfl,rfl,rfl,rfl,rfl,rfl,rfl,rfl,⟨⟩⟩)))
end
section
set_option maxRecDepth 100000
theorem fW(l:List (List eZ))(hl:l.length≤1048576)(hs0:(l.map List.length).sum≤1048576):So 116 [.a (.sl (.sl .eZ) l)] [.a (.sl .eZ l.flatten)]:=by
 refine av X call116 func116 ntmps116 rfl rfl ?_;intro zb;refine aq X [0] rfl (aq X [0,3] rfl (aa (aq X [0,3,9,10,11] rfl ?_)));refine au (aE (fun k=>k≤l.length) (fun k:Nat=> [(3, .one ((aA ((l.take k).map List.length).sum))),(11, .one ((aA k)))]) (fun k=> []) (fun k=>l.length-k) 0 (fun k=>rfl) (Nat.zero_le _) rfl ?_);intro k hk;have hle:=fX l List.length k;refine aq X [0,3,9,10,11,12] rfl ?_;refine aa (aj rfl ?_ ?_)<;>intro hb0
 ·try simp only[aQ]at hb0
  have hs:=B5 l (aG (.sl .eZ)) k hb0;have HY:=fX l List.length (k+1);rw[hs]at HY;refine an (aa (au (aD X [0,3,5,9,10,11] rfl (by and_intros<;>first|exact⟨⟩| (intros;omega)) (aD X [0,3,9,10,11] rfl (by trivial) (aq X [0,3,9,10,11,20] rfl ?_)))));refine aj rfl ?_ ?_<;>intro aV
  ·try simp only[aQ]at aV
   rw[bO (by omega)]at aV;omega
  ·try simp only[aQ]at aV
   refine an (bg X [0,3,9,10,11] rfl ?_);refine⟨k+1,by omega,by omega,?_⟩;rw[bh _ k rfl (by omega),hs];rw[bO (by simp only[Int.toNat_natCast];omega)];try rfl
 ·try simp only[aQ]at hb0
  rw[List.take_of_length_le hb0];refine aI (aC X [] [(24,⟨true,[.a (.sl .eZ [])]⟩),(300024,⟨true,[]⟩)] [0,6] [] rfl (by(with_reducible and_intros)<;>first|exact⟨⟩|exact(gw _ (by omega))) (aa (aq X [6,25,26,27] rfl ?_)));refine au (aE (fun k1=>k1≤l.length) (fun k1:Nat=> [(27, .one ((aA k1)))]) (fun k1=> [(24, .arr .eZ (l.take k1).flatten)]) (fun k1=>l.length-k1) 0 (fun k1=>rfl) (Nat.zero_le _) rfl ?_);intro k1 hk1;have Cx:=nW l k1;refine aq X [6,25,26,27,28] rfl ?_;refine aa (aj rfl ?_ ?_)<;>intro bI
  ·try simp only[aQ]at bI
   have hs1:=yP l (aG (.sl .eZ)) k1 bI;have HY:=nW l (k1+1);rw[hs1,List.length_append]at HY;refine an (aa (au (aD X [6,8,25,26,27] rfl (by and_intros<;>first|exact⟨⟩| (intros;omega)) (aL X [(33,24)] [] [6,25,26,27] [] rfl (by and_intros<;>first|exact⟨⟩|exact rfl| (simp only[dN,maxLen,lens];omega)) (bg X [6,25,26,27] rfl ?_)))));refine⟨k1+1,by omega,by omega,?_⟩;rw[bh _ k1 rfl (by omega),hs1];try rfl
  ·try simp only[aQ]at bI
   exact aI (aq X [2] rfl (ak (ah rfl ⟨by rw[List.take_of_length_le bI],⟨⟩⟩)))
theorem mg(c s r:Int):So 200 [aA c,aA s,aA r] [aH (iV c s r)]:=by
 refine av X call200 func200 ntmps200 rfl rfl ?_;intro zb;exact aq X [0,1,2] rfl (aC X [] [(8,⟨false,[aH (inr c 0 8)]⟩),(11,⟨false,[aH (bT s)]⟩),(15,⟨false,[aH (inr r 1 64)]⟩)] [6] [] rfl (by(with_reducible and_intros);(iterate 3 all_goals try first|exact⟨⟩|exact(aK c 0 8)|exact fun _=>(cN s)|exact fun _=>(aK r 1 64))) (ak (ah rfl ⟨(congrArg Value.bool (by simp only[iV,aO]<;>first|rfl|ac_rfl)),⟨⟩⟩)))
theorem p9(r:Int):So 201 [aA r] [aA (iL r)]:=by
 refine av X call201 func201 ntmps201 rfl rfl ?_;intro zb;refine aq X [0] rfl (aa (aC X [] [(4,⟨false,[aH (inr r 1 64)]⟩)] [0,5] [] rfl (by(with_reducible and_intros)<;>first|exact⟨⟩|exact(aK r 1 64)) ?_));refine aj rfl ?_ ?_<;>intro hb0
 ·try simp only[aQ]at hb0
  exact aq X [2] rfl (ak (ah rfl ⟨by rw[iL,if_neg (by omega)],⟨⟩⟩))
 ·try simp only[aQ]at hb0
  exact an (aq X [2] rfl (ak (ah rfl ⟨by rw[iL,if_pos (by omega),bO (by omega)],⟨⟩⟩)))
theorem uU(r:Int):So 202 [aA r] [aA (jc r)]:=by
 refine av X call202 func202 ntmps202 rfl rfl ?_;intro zb;refine aq X [0] rfl (aa (aC X [] [(4,⟨false,[aH (inr r 1 64)]⟩)] [0,5] [] rfl (by(with_reducible and_intros)<;>first|exact⟨⟩|exact(aK r 1 64)) ?_));refine aj rfl ?_ ?_<;>intro hb0
 ·try simp only[aQ]at hb0
  exact aq X [2] rfl (ak (ah rfl ⟨by rw[jc,if_neg (by omega)],⟨⟩⟩))
 ·try simp only[aQ]at hb0
  exact an (aD X [2] rfl (by and_intros<;>first|exact⟨⟩| (intros;omega)) (ak (ah rfl ⟨by rw[Xq (by omega)],⟨⟩⟩)))
theorem sM(c s r:Int):So 117 [aA c,aA s,aA r] [.a (.sl .eZ (wT c s r))]:=by
 refine av X call117 func117 ntmps117 rfl rfl ?_;intro zb;refine aq X [0,1,2] rfl (aa (aC X [] [(13,⟨false,[aH (iV c s r)]⟩)] [0,1,2,14] [] rfl (by(with_reducible and_intros)<;>first|exact⟨⟩|exact(mg c s r)) ?_));refine aj rfl ?_ ?_<;>intro hb0
 ·have hk0:iV c s r=false:=by simpa using hb0
  exact aq X [6] rfl (ak (ah rfl ⟨by rw[wT,hk0];rfl,⟨⟩⟩))
 ·have hk0:iV c s r=true:=by simpa using hb0
  have hok:=rq hk0;refine an (aD X [0,1,2,7] rfl (by and_intros<;>first|exact⟨⟩|exact rfl) (aa (aq X [1,2,7,16,17] rfl ?_)));refine au (aE (fun k=>k≤c.toNat) (fun k:Nat=> [(17, .one ((aA k)))]) (fun k=> [(15, .arr .eZ (fm (fun a=>fm (FP r a) s.toNat) k))]) (fun k=>c.toNat-k) 0 (fun k=>rfl) (Nat.zero_le _) rfl ?_);intro k hk;have hle:=Nh (r:=r) (s:=s) (k:=k) (by omega) (by omega);refine aq X [1,2,7,16,17,18] rfl ?_;refine aa (aj rfl ?_ ?_)<;>intro aV
  ·try simp only[aQ]at aV
   refine an (aa (au (aq X [1,2,7,8,16,17] rfl (aq X [1,2,7,8,16,17,20,21] rfl ?_))));refine au (aE (fun k1=>k1≤s.toNat) (fun k1:Nat=> [(21, .one ((aA k1)))]) (fun k1=> [(15, .arr .eZ (fm (fun a=>fm (FP r a) s.toNat) k++fm (FP r k) k1))]) (fun k1=>s.toNat-k1) 0 (fun k1=>rfl) (Nat.zero_le _) (by simp[oB]) ?_);intro k1 hk1;have Cx:=Ng (r:=r) (s:=s) (by omega) k hk1;refine aq X [1,2,7,8,16,17,20,21,22] rfl ?_;refine aa (aj rfl ?_ ?_)<;>intro bI
   ·try simp only[aQ]at bI
    have hw:IntKind.i64.wrap (100+(k1:Int))=100+(k1:Int):=bO (by omega);have hs1:fm (FP r k) (k1+1)=fm (FP r k) k1++ [⟨(k:Int),100+(k1:Int),iL r⟩]:=fC _ _;refine an (aa (au (aq X [1,2,7,8,9,16,17,20,21] rfl (aL X [(32,15)] [(29,⟨false,[aA (iL r)]⟩)] [1,2,7,8,16,17,20,21] [] rfl (by(repeat' with_reducible first|exact aR|refine bf ?_ ?_|apply And.intro)<;>first|exact(p9 r)|exact rfl|exact⟨rfl,bA _ (by decide)⟩| (simp only[dN,maxLen,lens];omega)) ?_))));refine bg X [1,2,7,8,16,17,20,21] rfl ?_;refine⟨k1+1,by omega,by omega,?_⟩;rw[bh _ k1 rfl (by omega),hw,List.append_assoc, ←hs1];try rfl
   ·try simp only[aQ]at bI
    have hs:fm (fun a=>fm (FP r a) s.toNat) (k+1)=fm (fun a=>fm (FP r a) s.toNat) k++fm (FP r k) s.toNat:=fC _ _;rw[show k1=s.toNat by omega, ←hs];refine aI (bg X [1,2,7,16,17] rfl ?_);refine⟨k+1,by omega,by omega,?_⟩;rw[bh _ k rfl (by omega)];try rfl
  ·try simp only[aQ]at aV
   exact aI (aq X [6] rfl (ak (ah rfl ⟨by rw[wT,if_pos hk0,show c.toNat=k by omega],⟨⟩⟩)))
theorem qa(s r:Int):So 118 [aA s,aA r] [.a (.sl .eZ (pT s r))]:=by
 refine av X call118 func118 ntmps118 rfl rfl ?_;intro zb;refine aq X [0,1] rfl (aa (aC X [] [(10,⟨false,[aH (iV 0 s r)]⟩)] [0,1,11] [] rfl (by(with_reducible and_intros)<;>first|exact⟨⟩|exact(mg 0 s r)) ?_));refine aj rfl ?_ ?_<;>intro hb0
 ·have hk0:iV 0 s r=false:=by simpa using hb0
  exact aq X [4] rfl (ak (ah rfl ⟨by rw[pT,hk0];rfl,⟨⟩⟩))
 ·have hk0:iV 0 s r=true:=by simpa using hb0
  have hok:=rq hk0;refine an (aD X [0,1,5] rfl (by and_intros<;>first|exact⟨⟩|exact rfl) (aa (aq X [0,1,5,13,14] rfl ?_)));refine au (aE (fun k=>k≤s.toNat) (fun k:Nat=> [(14, .one ((aA k)))]) (fun k=> [(12, .arr .eZ (fm (fun a=>fm (Af r a) s.toNat) k))]) (fun k=>s.toNat-k) 0 (fun k=>rfl) (Nat.zero_le _) rfl ?_);intro k hk;have hle:=Nj (r:=r) (s:=s) (k:=k) (by omega) hk;refine aq X [0,1,5,13,14,15] rfl ?_;refine aa (aj rfl ?_ ?_)<;>intro aV
  ·try simp only[aQ]at aV
   refine an (aa (au (aq X [0,1,5,6,13,14] rfl (aq X [0,1,5,6,13,14,17,18] rfl ?_))));refine au (aE (fun k1=>k1≤s.toNat) (fun k1:Nat=> [(18, .one ((aA k1)))]) (fun k1=> [(12, .arr .eZ (fm (fun a=>fm (Af r a) s.toNat) k++fm (Af r k) k1))]) (fun k1=>s.toNat-k1) 0 (fun k1=>rfl) (Nat.zero_le _) (by simp[oB]) ?_);intro k1 hk1;have Cx:=Ni (r:=r) (s:=s) (by omega) k hk1;refine aq X [0,1,5,6,13,14,17,18,19] rfl ?_;refine aa (aj rfl ?_ ?_)<;>intro bI
   ·try simp only[aQ]at bI
    refine an (aa (au (aq X [0,1,5,6,7,13,14,17,18] rfl (aq X [0,1,5,6,7,13,14,17,18,23] rfl ?_))));refine aj rfl ?_ ?_<;>intro eE
    ·try simp only[aQ]at eE
     have hw:IntKind.i64.wrap (100+(k1:Int))=100+(k1:Int):=bO (by omega);have hwk:IntKind.i64.wrap (100+(k:Int))=100+(k:Int):=bO (by omega);have hs1:fm (Af r k) (k1+1)=fm (Af r k) k1++ [⟨100+(k:Int),100+(k1:Int),iL r⟩]:=by rw[fC,Af,if_neg (by omega)]
     refine aL X [(33,12)] [(30,⟨false,[aA (iL r)]⟩)] [0,1,5,6,13,14,17,18] [] rfl (by(repeat' with_reducible first|exact aR|refine bf ?_ ?_|apply And.intro)<;>first|exact(p9 r)|exact rfl|exact⟨rfl,bA _ (by decide)⟩| (simp only[dN,maxLen,lens];omega)) ?_;refine bg X [0,1,5,6,13,14,17,18] rfl ?_;refine⟨k1+1,by omega,by omega,?_⟩;rw[bh _ k1 rfl (by omega),hw,hwk,List.append_assoc, ←hs1];try rfl
    ·try simp only[aQ]at eE
     have hs1:fm (Af r k) (k1+1)=fm (Af r k) k1:=by rw[fC,Af,if_pos (by omega),List.append_nil]
     refine an (bg X [0,1,5,6,13,14,17,18] rfl ?_);refine⟨k1+1,by omega,by omega,?_⟩;rw[bh _ k1 rfl (by omega),hs1];try rfl
   ·try simp only[aQ]at bI
    have hs:fm (fun a=>fm (Af r a) s.toNat) (k+1)=fm (fun a=>fm (Af r a) s.toNat) k++fm (Af r k) s.toNat:=fC _ _;rw[show k1=s.toNat by omega, ←hs];refine aI (bg X [0,1,5,13,14] rfl ?_);refine⟨k+1,by omega,by omega,?_⟩;rw[bh _ k rfl (by omega)];try rfl
  ·try simp only[aQ]at aV
   exact aI (aq X [4] rfl (ak (ah rfl ⟨by rw[pT,if_pos hk0,show s.toNat=k by omega],⟨⟩⟩)))
theorem uV(c s r n:Int):So 119 [aA c,aA s,aA r,aA n] [.a (.sl .eZ (rT c s r n))]:=by
 refine av X call119 func119 ntmps119 rfl rfl ?_;intro zb;refine aq X [0,1,2,3] rfl (aa (aC X [] [(15,⟨false,[aH (iV c s r)]⟩),(19,⟨false,[aH (inr n 0 8)]⟩)] [0,1,2,3,21] [] rfl (by(with_reducible and_intros);(iterate 2 all_goals try first|exact⟨⟩|exact(mg c s r)|exact fun _=>(aK n 0 8))) ?_));refine aj rfl ?_ ?_<;>intro hb0
 ·have hk0:Pd c s r n=false:=bH hb0 (by simp only[Pd,aO]<;>first|rfl|ac_rfl);exact aq X [8] rfl (ak (ah rfl ⟨by rw[rT,hk0];rfl,⟨⟩⟩))
 ·have hk0:Pd c s r n=true:=bF hb0 (by simp only[Pd,aO]<;>first|rfl|ac_rfl);have hok:=rq (YD hk0);have hn8:=YE hk0;have jO:IntKind.i64.wrap (2*n)=2*n:=bO (by omega);refine an (aD X [0,1,2,3,9] rfl (by and_intros<;>first|exact⟨⟩|exact rfl) (aa (aq X [1,2,3,9,23,24] rfl ?_)));refine au (aE (fun k=>k≤c.toNat) (fun k:Nat=> [(24, .one ((aA k)))]) (fun k=> [(22, .arr .eZ (fm (fun a=>fm (gY s r a) (2*n).toNat) k))]) (fun k=>c.toNat-k) 0 (fun k=>rfl) (Nat.zero_le _) rfl ?_);intro k hk;have hle:=Nn (r:=r) (s:=s) (n:=n) (k:=k) (by omega) (by omega) (by omega);refine aq X [1,2,3,9,23,24,25] rfl ?_;refine aa (aj rfl ?_ ?_)<;>intro aV
  ·try simp only[aQ]at aV
   refine an (aa (au (aq X [1,2,3,9,10,23,24] rfl (aq X [1,2,3,9,10,23,24,28,29] rfl ?_))));refine au (aE (fun k1=>k1≤(2*n).toNat) (fun k1:Nat=> [(29, .one ((aA k1)))]) (fun k1=> [(22, .arr .eZ (fm (fun a=>fm (gY s r a) (2*n).toNat) k++fm (gY s r k) k1))]) (fun k1=>(2*n).toNat-k1) 0 (fun k1=>rfl) (Nat.zero_le _) (by simp[oB]) ?_);intro k1 hk1;have Cx:=Nl (r:=r) (s:=s) (by omega) k (k:=k1) (by omega);refine aq X [1,2,3,9,10,23,24,28,29,30] rfl ?_;refine aa (aj rfl ?_ ?_)<;>intro bI
   ·try simp only[aQ]at bI
    rw[jO]at bI;refine an (aa (au (aq X [1,2,3,9,10,23,24,28,29,31,32] rfl ?_)));refine au (aE (fun k2=>k2≤s.toNat) (fun k2:Nat=> [(32, .one ((aA k2)))]) (fun k2=> [(22, .arr .eZ (fm (fun a=>fm (gY s r a) (2*n).toNat) k++fm (gY s r k) k1++fm (UP r k) k2))]) (fun k2=>s.toNat-k2) 0 (fun k2=>rfl) (Nat.zero_le _) (by simp[oB]) ?_);intro k2 hk2;have HY:=Nk (r:=r) (s:=s) (by omega) k (k:=k2) hk2;refine aq X [1,2,3,9,10,23,24,28,29,31,32,33] rfl ?_;refine aa (aj rfl ?_ ?_)<;>intro eE
    ·try simp only[aQ]at eE
     have hw:IntKind.i64.wrap (100+(k2:Int))=100+(k2:Int):=bO (by omega);have hs2:fm (UP r k) (k2+1)=fm (UP r k) k2++ [⟨(k:Int),100+(k2:Int),jc r⟩,⟨100+(k2:Int),(k:Int),24⟩]:=fC _ _;refine an (aa (au (aq X [1,2,3,9,10,11,23,24,28,29,31,32] rfl (aL X [(47,22)] [(40,⟨false,[aA (jc r)]⟩)] [1,2,3,9,10,23,24,28,29,31,32] [] rfl (by(repeat' with_reducible first|exact aR|refine bf ?_ ?_|apply And.intro)<;>first|exact(uU r)|exact rfl|exact⟨rfl,bA _ (by decide)⟩| (simp only[dN,maxLen,lens];omega)) ?_))));refine bg X [1,2,3,9,10,23,24,28,29,31,32] rfl ?_;refine⟨k2+1,by omega,by omega,?_⟩;rw[bh _ k2 rfl (by omega),hw,List.append_assoc, ←hs2];try rfl
    ·try simp only[aQ]at eE
     have hs1:fm (gY s r k) (k1+1)=fm (gY s r k) k1++fm (UP r k) s.toNat:=fC _ _;rw[show k2=s.toNat by omega,List.append_assoc, ←hs1];refine aI (bg X [1,2,3,9,10,23,24,28,29] rfl ?_);refine⟨k1+1,by omega,by omega,?_⟩;rw[bh _ k1 rfl (by omega)];try rfl
   ·try simp only[aQ]at bI
    rw[jO]at bI;have hs:fm (fun a=>fm (gY s r a) (2*n).toNat) (k+1)=fm (fun a=>fm (gY s r a) (2*n).toNat) k++fm (gY s r k) (2*n).toNat:=fC _ _;rw[show k1=(2*n).toNat by omega, ←hs];refine aI (bg X [1,2,3,9,23,24] rfl ?_);refine⟨k+1,by omega,by omega,?_⟩;rw[bh _ k rfl (by omega)];try rfl
  ·try simp only[aQ]at aV
   exact aI (aq X [8] rfl (ak (ah rfl ⟨by rw[rT,if_pos hk0,show c.toNat=k by omega],⟨⟩⟩)))
theorem sN(x:aW):So 64 [.agg (aN x)] [.a (.sl .eZ (BJ x))]:=by
 refine av X call64 func64 ntmps64 rfl rfl ?_;intro zb;have Yo:=UQ (x.af.length:Int) (x.az.length:Int) x.rows;have hpl:=UR (x.az.length:Int) x.rows;have hrl:=US (x.af.length:Int) (x.az.length:Int) x.rows 1;refine aq X [1] rfl (aa (aF X [] [] [1,3,4] [] 255 0 MO (by kernel_rfl) rfl (by kernel_rfl) ⟨⟩ (aa ?_)));have t1:=(sM (x.af.length:Int) (x.az.length:Int) x.rows);have t2:=(uV (x.af.length:Int) (x.az.length:Int) x.rows 1);have t3:=(fW [wT (x.af.length:Int) (x.az.length:Int) x.rows,pT (x.az.length:Int) x.rows,rT (x.af.length:Int) (x.az.length:Int) x.rows 1] (by simp) (by simp;omega));exact aF X [] [(15,⟨true,bq t1⟩),(19,⟨true,[.a (.sl .eZ (pT (x.az.length:Int) x.rows))]⟩),(24,⟨true,bq t2⟩),(26,⟨true,bq t3⟩)] [2] [] 16383 0 MO (by kernel_rfl) rfl (by kernel_rfl) (by(with_reducible and_intros);(iterate 4 all_goals try first|exact⟨⟩|exact t1|exact(qa (x.az.length:Int) x.rows)|exact t2|exact t3);all_goals first|exact rfl) (ak (ah rfl ⟨by simp[BJ],⟨⟩⟩))
theorem ru(c s r:Int):So 153 [aA c,aA s,aA r] [aH (iV c s r)]:=by
 refine av X call153 func153 ntmps153 rfl rfl ?_;intro zb;exact aq X [0,1,2] rfl (aC X [] [(8,⟨false,[aH (inr c 0 8)]⟩),(11,⟨false,[aH (bT s)]⟩),(15,⟨false,[aH (inr r 1 64)]⟩)] [6] [] rfl (by(with_reducible and_intros);(iterate 3 all_goals try first|exact⟨⟩|exact(aP c 0 8)|exact fun _=>(ez s)|exact fun _=>(aP r 1 64))) (ak (ah rfl ⟨(congrArg Value.bool (by simp only[iV,aO]<;>first|rfl|ac_rfl)),⟨⟩⟩)))
theorem qb(r:Int):So 154 [aA r] [aA (iL r)]:=by
 refine av X call154 func154 ntmps154 rfl rfl ?_;intro zb;refine aq X [0] rfl (aa (aC X [] [(4,⟨false,[aH (inr r 1 64)]⟩)] [0,5] [] rfl (by(with_reducible and_intros)<;>first|exact⟨⟩|exact(aP r 1 64)) ?_));refine aj rfl ?_ ?_<;>intro hb0
 ·try simp only[aQ]at hb0
  exact aq X [2] rfl (ak (ah rfl ⟨by rw[iL,if_neg (by omega)],⟨⟩⟩))
 ·try simp only[aQ]at hb0
  exact an (aq X [2] rfl (ak (ah rfl ⟨by rw[iL,if_pos (by omega),bO (by omega)],⟨⟩⟩)))
theorem Fw(a:Int)(ha:0≤a∧a≤1000000):So 239 [aA a,aA 8] [aA (Pf a)]:=by
 refine av X call239 func239 ntmps239 rfl rfl ?_;intro zb;refine aq X [0,1] rfl (aa (aC X [] [(6,⟨false,[aH (inr a 0 1000000000000)]⟩),(10,⟨false,[aH (inr 8 1 1000000000000)]⟩)] [0,1,12] [] rfl (by(with_reducible and_intros);(iterate 2 all_goals try first|exact⟨⟩|exact(aP a 0 1000000000000)|exact fun _=>(aP 8 1 1000000000000))) ?_));refine aj rfl ?_ ?_<;>intro hb0
 ·try simp only[nb]at hb0
  have hz:inr a 0 1000000000000=true:=by rw[b7];omega
  rw[hz]at hb0;exact absurd hb0 (by decide)
 ·exact an (aD X [4] rfl (by and_intros<;>first|exact⟨⟩| (intros;omega)) (ak (ah rfl ⟨by rw[Pf,bO (a:=a+8) (by omega),bO (a:=a+8-1) (by omega),mR (by omega),bO (by omega)];congr 3;omega,⟨⟩⟩)))
theorem uW(r:Int):So 155 [aA r] [aA (jc r)]:=by
 refine av X call155 func155 ntmps155 rfl rfl ?_;intro zb;refine aq X [0] rfl (aa (aC X [] [(4,⟨false,[aH (inr r 1 64)]⟩)] [0,5] [] rfl (by(with_reducible and_intros)<;>first|exact⟨⟩|exact(aP r 1 64)) ?_));refine aj rfl ?_ ?_<;>intro hb0
 ·try simp only[aQ]at hb0
  exact aq X [2] rfl (ak (ah rfl ⟨by rw[jc,if_neg (by omega)],⟨⟩⟩))
 ·try simp only[aQ]at hb0
  exact an (aC X [] [(7,⟨false,[aA (Pf r)]⟩)] [2] [] rfl (by(with_reducible and_intros)<;>first|exact⟨⟩|exact(Fw r (by first|assumption|omega| (simp;done)| (simp;omega)))) (ak (ah rfl ⟨by rw[jc,if_pos (by omega),bO (by unfold Pf;omega)];rfl,⟨⟩⟩)))
theorem sO(c s r:Int):So 86 [aA c,aA s,aA r] [.a (.sl .eZ (wT c s r))]:=by
 refine av X call86 func86 ntmps86 rfl rfl ?_;intro zb;refine aq X [0,1,2] rfl (aD X [0,1,2,7] rfl (by and_intros<;>first|exact⟨⟩|exact rfl) (aa (aq X [0,1,2,7,8] rfl ?_)));refine au (aE (fun k=>k≤c.toNat∧(k=0∨iV c s r=true)) (fun k:Nat=> [(8, .one ((aA k)))]) (fun k=> [(10, .arr .eZ (fm (fun a=>fm (FP r a) s.toNat) k))]) (fun k=>c.toNat-k) 0 (fun k=>rfl) ⟨Nat.zero_le _,Or.inl rfl⟩ rfl ?_);rintro k ⟨hk,hks⟩;refine aa (aC X [] [(18,⟨false,[aH (iV c s r)]⟩)] [0,1,2,7,8,19] [] rfl (by(with_reducible and_intros)<;>first|exact⟨⟩|exact fun _=>(ru c s r)) ?_);refine aj rfl ?_ ?_<;>intro hb0
 ·have hq:(decide ((k:Int)<c)&&iV c s r)=true:=Lu hb0 (by simp only[aO]<;>first|rfl|ac_rfl);simp only[Bool.and_eq_true,decide_eq_true_eq]at hq;have hk0:=hq.2;have hok:=rq hk0;have hle:=Nh (r:=r) (s:=s) (k:=k) (by omega) (by omega);refine an (aa (au (aq X [0,1,2,7,8,9] rfl ?_)));refine au (aE (fun k1=>k1≤s.toNat) (fun k1:Nat=> [(9, .one ((aA k1)))]) (fun k1=> [(10, .arr .eZ (fm (fun a=>fm (FP r a) s.toNat) k++fm (FP r k) k1))]) (fun k1=>s.toNat-k1) 0 (fun k1=>rfl) (Nat.zero_le _) (by simp[oB]) ?_);intro k1 hk1;have Cx:=Ng (r:=r) (s:=s) (by omega) k hk1;refine aa (aq X [0,1,2,7,8,9,24] rfl ?_);refine aj rfl ?_ ?_<;>intro aV
  ·try simp only[aQ]at aV
   have hw:IntKind.i64.wrap (100+(k1:Int))=100+(k1:Int):=bO (by omega);have hs1:fm (FP r k) (k1+1)=fm (FP r k) k1++ [⟨(k:Int),100+(k1:Int),iL r⟩]:=fC _ _;refine an (aa (au (aL X [(35,10)] [(32,⟨false,[aA (iL r)]⟩)] [0,1,2,7,8,9] [] rfl (by(repeat' with_reducible first|exact aR|refine bf ?_ ?_|apply And.intro)<;>first|exact(qb r)|exact rfl|exact⟨rfl,bA _ (by decide)⟩| (simp only[dN,maxLen,lens];omega)) ?_)));refine bg X [0,1,2,7,8,9] rfl ?_;refine⟨k1+1,by omega,by omega,?_⟩;rw[bh _ k1 rfl (by omega),hw,List.append_assoc, ←hs1];try rfl
  ·try simp only[aQ]at aV
   have hs:fm (fun a=>fm (FP r a) s.toNat) (k+1)=fm (fun a=>fm (FP r a) s.toNat) k++fm (FP r k) s.toNat:=fC _ _;rw[show k1=s.toNat by omega, ←hs];refine aI (bg X [0,1,2,7,8] rfl ?_);refine⟨k+1,⟨by omega,Or.inr hk0⟩,by omega,?_⟩;rw[bh _ k rfl (by omega)];try rfl
 ·have hq:(decide ((k:Int)<c)&&iV c s r)=false:=Pe hb0 (by simp only[aO]<;>first|rfl|ac_rfl);exact aI (aq X [6] rfl (ak (ah rfl ⟨Xo hk hks hq,⟨⟩⟩)))
theorem qc(s r:Int):So 87 [aA s,aA r] [.a (.sl .eZ (pT s r))]:=by
 refine av X call87 func87 ntmps87 rfl rfl ?_;intro zb;refine aq X [0,1] rfl (aD X [0,1,5] rfl (by and_intros<;>first|exact⟨⟩|exact rfl) (aa (aq X [0,1,5,6] rfl ?_)));refine au (aE (fun k=>k≤s.toNat∧(k=0∨iV 0 s r=true)) (fun k:Nat=> [(6, .one ((aA k)))]) (fun k=> [(8, .arr .eZ (fm (fun a=>fm (Af r a) s.toNat) k))]) (fun k=>s.toNat-k) 0 (fun k=>rfl) ⟨Nat.zero_le _,Or.inl rfl⟩ rfl ?_);rintro k ⟨hk,hks⟩;refine aa (aC X [] [(15,⟨false,[aH (iV 0 s r)]⟩)] [0,1,5,6,16] [] rfl (by(with_reducible and_intros)<;>first|exact⟨⟩|exact fun _=>(ru 0 s r)) ?_);refine aj rfl ?_ ?_<;>intro hb0
 ·have hq:(decide ((k:Int)<s)&&iV 0 s r)=true:=Lu hb0 (by simp only[aO]<;>first|rfl|ac_rfl);simp only[Bool.and_eq_true,decide_eq_true_eq]at hq;have hk0:=hq.2;have hok:=rq hk0;have hle:=Nj (r:=r) (s:=s) (k:=k) (by omega) hk;refine an (aa (au (aq X [0,1,5,6,7] rfl ?_)));refine au (aE (fun k1=>k1≤s.toNat) (fun k1:Nat=> [(7, .one ((aA k1)))]) (fun k1=> [(8, .arr .eZ (fm (fun a=>fm (Af r a) s.toNat) k++fm (Af r k) k1))]) (fun k1=>s.toNat-k1) 0 (fun k1=>rfl) (Nat.zero_le _) (by simp[oB]) ?_);intro k1 hk1;have Cx:=Ni (r:=r) (s:=s) (by omega) k hk1;refine aa (aq X [0,1,5,6,7,21] rfl ?_);refine aj rfl ?_ ?_<;>intro aV
  ·try simp only[aQ]at aV
   refine an (aa (au (aq X [0,1,5,6,7,26] rfl ?_)));refine aj rfl ?_ ?_<;>intro bI
   ·try simp only[aQ]at bI
    have hw:IntKind.i64.wrap (100+(k1:Int))=100+(k1:Int):=bO (by omega);have hwk:IntKind.i64.wrap (100+(k:Int))=100+(k:Int):=bO (by omega);have hs1:fm (Af r k) (k1+1)=fm (Af r k) k1++ [⟨100+(k:Int),100+(k1:Int),iL r⟩]:=by rw[fC,Af,if_neg (by omega)]
    refine aL X [(36,8)] [(33,⟨false,[aA (iL r)]⟩)] [0,1,5,6,7] [] rfl (by(repeat' with_reducible first|exact aR|refine bf ?_ ?_|apply And.intro)<;>first|exact(qb r)|exact rfl|exact⟨rfl,bA _ (by decide)⟩| (simp only[dN,maxLen,lens];omega)) ?_;refine bg X [0,1,5,6,7] rfl ?_;refine⟨k1+1,by omega,by omega,?_⟩;rw[bh _ k1 rfl (by omega),hw,hwk,List.append_assoc, ←hs1];try rfl
   ·try simp only[aQ]at bI
    have hs1:fm (Af r k) (k1+1)=fm (Af r k) k1:=by rw[fC,Af,if_pos (by omega),List.append_nil]
    refine an (bg X [0,1,5,6,7] rfl ?_);refine⟨k1+1,by omega,by omega,?_⟩;rw[bh _ k1 rfl (by omega),hs1];try rfl
  ·try simp only[aQ]at aV
   have hs:fm (fun a=>fm (Af r a) s.toNat) (k+1)=fm (fun a=>fm (Af r a) s.toNat) k++fm (Af r k) s.toNat:=fC _ _;rw[show k1=s.toNat by omega, ←hs];refine aI (bg X [0,1,5,6] rfl ?_);refine⟨k+1,⟨by omega,Or.inr hk0⟩,by omega,?_⟩;rw[bh _ k rfl (by omega)];try rfl
 ·have hq:(decide ((k:Int)<s)&&iV 0 s r)=false:=Pe hb0 (by simp only[aO]<;>first|rfl|ac_rfl);exact aI (aq X [4] rfl (ak (ah rfl ⟨Xp hk hks hq,⟨⟩⟩)))
theorem uX(c s r n:Int):So 88 [aA c,aA s,aA r,aA n] [.a (.sl .eZ (rT c s r n))]:=by
 refine av X call88 func88 ntmps88 rfl rfl ?_;intro zb;refine aq X [0,1,2,3] rfl (aD X [0,1,2,3,9] rfl (by and_intros<;>first|exact⟨⟩|exact rfl) (aa (aC X [] [(17,⟨false,[aH (iV c s r)]⟩),(21,⟨false,[aH (inr n 0 8)]⟩)] [0,1,2,3,9,23] [] rfl (by(with_reducible and_intros);(iterate 2 all_goals try first|exact⟨⟩|exact(ru c s r)|exact fun _=>(aP n 0 8))) ?_)));refine aj rfl ?_ ?_<;>intro hb0
 ·have hk0:Pd c s r n=false:=bH hb0 (by simp only[Pd,aO]<;>first|rfl|ac_rfl);exact aq X [8] rfl (ak (ah rfl ⟨by rw[rT,hk0];rfl,⟨⟩⟩))
 ·have hk0:Pd c s r n=true:=bF hb0 (by simp only[Pd,aO]<;>first|rfl|ac_rfl);have hok:=rq (YD hk0);have hn8:=YE hk0;have jO:IntKind.i64.wrap (2*n)=2*n:=bO (by omega);refine an (aa (aq X [0,1,2,3,9,10] rfl ?_));refine au (aE (fun k=>k≤c.toNat) (fun k:Nat=> [(10, .one ((aA k)))]) (fun k=> [(13, .arr .eZ (fm (fun a=>fm (gY s r a) (2*n).toNat) k))]) (fun k=>c.toNat-k) 0 (fun k=>rfl) (Nat.zero_le _) rfl ?_);intro k hk;have hle:=Nn (r:=r) (s:=s) (n:=n) (k:=k) (by omega) (by omega) (by omega);refine aa (aq X [0,1,2,3,9,10,27] rfl ?_);refine aj rfl ?_ ?_<;>intro aV
  ·try simp only[aQ]at aV
   refine an (aa (au (aq X [0,1,2,3,9,10,11] rfl ?_)));refine au (aE (fun k1=>k1≤(2*n).toNat) (fun k1:Nat=> [(11, .one ((aA k1)))]) (fun k1=> [(13, .arr .eZ (fm (fun a=>fm (gY s r a) (2*n).toNat) k++fm (gY s r k) k1))]) (fun k1=>(2*n).toNat-k1) 0 (fun k1=>rfl) (Nat.zero_le _) (by simp[oB]) ?_);intro k1 hk1;have Cx:=Nl (r:=r) (s:=s) (by omega) k (k:=k1) (by omega);refine aa (aq X [0,1,2,3,9,10,11,33] rfl ?_);refine aj rfl ?_ ?_<;>intro bI
   ·try simp only[aQ]at bI
    rw[jO]at bI;refine an (aa (au (aq X [0,1,2,3,9,10,11,12] rfl ?_)));refine au (aE (fun k2=>k2≤s.toNat) (fun k2:Nat=> [(12, .one ((aA k2)))]) (fun k2=> [(13, .arr .eZ (fm (fun a=>fm (gY s r a) (2*n).toNat) k++fm (gY s r k) k1++fm (UP r k) k2))]) (fun k2=>s.toNat-k2) 0 (fun k2=>rfl) (Nat.zero_le _) (by simp[oB]) ?_);intro k2 hk2;have HY:=Nk (r:=r) (s:=s) (by omega) k (k:=k2) hk2;refine aa (aq X [0,1,2,3,9,10,11,12,38] rfl ?_);refine aj rfl ?_ ?_<;>intro eE
    ·try simp only[aQ]at eE
     have hw:IntKind.i64.wrap (100+(k2:Int))=100+(k2:Int):=bO (by omega);have hs2:fm (UP r k) (k2+1)=fm (UP r k) k2++ [⟨(k:Int),100+(k2:Int),jc r⟩,⟨100+(k2:Int),(k:Int),24⟩]:=fC _ _;refine an (aa (au (aL X [(53,13)] [(46,⟨false,[aA (jc r)]⟩)] [0,1,2,3,9,10,11,12] [] rfl (by(repeat' with_reducible first|exact aR|refine bf ?_ ?_|apply And.intro)<;>first|exact(uW r)|exact rfl|exact⟨rfl,bA _ (by decide)⟩| (simp only[dN,maxLen,lens];omega)) ?_)));refine bg X [0,1,2,3,9,10,11,12] rfl ?_;refine⟨k2+1,by omega,by omega,?_⟩;rw[bh _ k2 rfl (by omega),hw,List.append_assoc, ←hs2];try rfl
    ·try simp only[aQ]at eE
     have hs1:fm (gY s r k) (k1+1)=fm (gY s r k) k1++fm (UP r k) s.toNat:=fC _ _;rw[show k2=s.toNat by omega,List.append_assoc, ←hs1];refine aI (bg X [0,1,2,3,9,10,11] rfl ?_);refine⟨k1+1,by omega,by omega,?_⟩;rw[bh _ k1 rfl (by omega)];try rfl
   ·try simp only[aQ]at bI
    rw[jO]at bI;have hs:fm (fun a=>fm (gY s r a) (2*n).toNat) (k+1)=fm (fun a=>fm (gY s r a) (2*n).toNat) k++fm (gY s r k) (2*n).toNat:=fC _ _;rw[show k1=(2*n).toNat by omega, ←hs];refine aI (bg X [0,1,2,3,9,10] rfl ?_);refine⟨k+1,by omega,by omega,?_⟩;rw[bh _ k rfl (by omega)];try rfl
  ·try simp only[aQ]at aV
   exact aI (aq X [8] rfl (ak (ah rfl ⟨by rw[rT,if_pos hk0,show c.toNat=k by omega],⟨⟩⟩)))
theorem sP(x:aW):So 41 [.agg (aN x)] [.a (.sl .eZ (BJ x))]:=by
 refine av X call41 func41 ntmps41 rfl rfl ?_;intro zb;have Yo:=UQ (x.af.length:Int) (x.az.length:Int) x.rows;have hpl:=UR (x.az.length:Int) x.rows;have hrl:=US (x.af.length:Int) (x.az.length:Int) x.rows 1;refine aq X [1] rfl (aq X [1,3] rfl (aq X [1,3,4] rfl (aa ?_)));have t1:=(sO (x.af.length:Int) (x.az.length:Int) x.rows);have t2:=(uX (x.af.length:Int) (x.az.length:Int) x.rows 1);exact aF X [(20,15),(26,15)] [(15,⟨true,bq t1⟩),(19,⟨true,[.a (.sl .eZ (pT (x.az.length:Int) x.rows))]⟩),(25,⟨true,bq t2⟩)] [2] [] 97791 11 MO (by kernel_rfl) rfl (by kernel_rfl) (by(with_reducible and_intros);(iterate 3 all_goals try first|exact⟨⟩|exact t1|exact(qc (x.az.length:Int) x.rows)|exact t2);all_goals first|exact rfl| (simp only[dN,maxLen,lens];omega)) (ak (ah rfl ⟨rfl,⟨⟩⟩))
end
end Go.Proofs.YtaalpcnbbldlaaaGreatDoor.G
