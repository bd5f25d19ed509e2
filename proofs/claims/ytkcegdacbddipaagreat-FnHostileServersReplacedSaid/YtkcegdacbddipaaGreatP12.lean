/-
  New worlds; bytes of the input.
-/
import Derived.Test.YtkcegdacbddipaaGreatP11
open And renaming intro→aO
open BitVec renaming ofInt→aV
open Go.IntKind renaming i64→aq
open Int renaming toNat→cL
open List renaming length→aQ,length_append→aY,length_drop→bW,length_eq_zero_iff→fJ,length_map→bg
open Nat renaming zero_le→aD
namespace Go.Proofs.YtkcegdacbddipaaGreat.G
set_option linter.all false
open Go.RowKit L D Tryz
section
set_option maxRecDepth 100000
theorem Al(key:Int)(a:eU)(h1:a.selection.length≤262144)(h2:a.data.length≤262144):So 172 [aM key, .agg (jh a)] [bl (VS key a)]:=by
 refine aC X call172 func172 ntmps172 rfl rfl ?_
 intro zb
 exact aF X [0,3] rfl (ah (aX X [] [(9,⟨false,[aM (IQ key a.server a.round a.selection a.data)]⟩)] [4] [] 127 0 MO (by kernel_rfl) rfl (by kernel_rfl) (by(with_reducible and_intros)<;>first|exact⟨⟩|exact(vl key a h1 h2)) (az (aj rfl ⟨rfl,⟨⟩⟩))))
theorem yY(key:Int)(d:DB)(a:eU)(h1:a.selection.length≤262144)(h2:a.data.length≤262144):So 112 [aM key, .agg (bL d), .agg (jh a)] [bl (fls key d a)]:=by
 refine aC X call112 func112 ntmps112 rfl rfl ?_
 intro zb
 exact aF X [0,4,5] rfl (ah (aX X [] [(9,⟨false,[bl (VS key a)]⟩),(16,⟨false,[.a (.sl .u8 (iz d a.selection))]⟩),(17,⟨false,[bl (a.data==(iz d a.selection))]⟩)] [6] [] 16383 0 MO (by kernel_rfl) rfl (by kernel_rfl) (by(with_reducible and_intros);(iterate 3 all_goals try first|exact⟨⟩|exact(Al key a h1 h2)|exact fun _=>(s7 d a.selection)|exact fun _=>(oc a.data (iz d a.selection)))) (az (aj rfl ⟨(congrArg Value.bool (by simp only[fls,bG]<;>first|rfl|ac_rfl)),⟨⟩⟩))))
theorem C6(l:List DB)(oO:l.length≤1048576)(ha:yQ l):So 104 [.a (.sl .DB l)] [.agg (bL (jw l)),bl (F6 l)]:=by
 refine aC X call104 func104 ntmps104 rfl rfl ?_
 intro zb
 refine aF X [0,2] rfl (ah (aS X [] [(11,⟨false,[bl (eA (l.length:Int))]⟩)] [0,2,12] [] rfl (by(with_reducible and_intros)<;>first|exact⟨⟩|exact(ia (l.length:Int))) ?_))
 refine aA rfl ?_ ?_<;>intro hb0
 ·have hk:eA l.length=false:=by simpa using hb0
  have hj:=IZ (TI hk)
  exact aT X [2,3] rfl (by trivial) (az (aj rfl ⟨by rw[hj.1],by rw[hj.2],⟨⟩⟩))
 ·have hk:eA l.length=true:=by simpa using hb0
  have hcb:=I0 hk
  have VU:=TJ hk
  have h0z:=gz (pW ha 0)
  have Fa:(l.drop 1).length=l.length-1:=bW ..
  refine aE (aS X [] [(17,⟨true,[.agg (bL (l.getD (cL 0) (aP .DB)))]⟩)] [0,2,4] [] rfl (by(with_reducible and_intros)<;>first|exact⟨⟩|exact(eL (l.getD (cL 0) (aP .DB)) h0z)| (intros;omega)) (ah (aT X [2,4,19,20,21] rfl (by and_intros<;>first|exact⟨⟩| (intros;omega)) ?_)))
  rw[aka]
  refine aG (aW (fun k=>k≤(l.drop 1).length∧Rx l=Ni (F7 l k) ((l.drop 1).drop k)) (fun k:Nat=> [(21, .one ((aM k)))]) (fun k=> [(17, .arr (.sl .u8) (F7 l k).rows)]) (fun k=>(l.drop 1).length-k) 0 (fun k=>rfl) ⟨aD _,VU⟩ rfl ?_)
  rintro k ⟨hk0,JW⟩
  refine aF X [2,4,19,20,21,22] rfl ?_
  refine ah (aA rfl ?_ ?_)<;>intro cx
  ·try simp only[bO]at cx
   have hz1:=gz (ZC ha k)
   have hz2:=gz (pW (Ry ha) k)
   refine aE (ah (aG (aT X [2,4,6,19,20,21] rfl (by and_intros<;>first|exact⟨⟩| (intros;omega)) (ah ?_))))
   have t1:=(mA (F7 l k) ((l.drop 1).getD k (aP .DB)) hz1 hz2)
   refine bH X [] [(28,⟨true,dH t1⟩)] [2,4,7,8,19,20,21] [] rfl (by(with_reducible and_intros)<;>first|exact⟨⟩|exact t1) (ah (aF X [2,4,7,19,20,21,32] rfl ?_))
   refine aA rfl ?_ ?_<;>intro dY
   ·have hx:k7 (F7 l k) ((l.drop 1).getD k (aP .DB))=false:=by simpa using dY
    have hj:=IZ (JW.trans (ZB l k cx hx))
    exact aT X [2,3] rfl (by trivial) (az (aj rfl ⟨by rw[hj.1],by rw[hj.2],⟨⟩⟩))
   ·have hx:k7 (F7 l k) ((l.drop 1).getD k (aP .DB))=true:=by simpa using dY
    have hs:=CL l k cx
    refine aE (ny X [2,4,19,20,21] rfl (by trivial) (pP 4 0 17 rfl (cW X [2,4,19,20,21] rfl ?_)))
    refine⟨k+1,⟨by omega,JW.trans (Pf l k cx hx)⟩,by omega,?_⟩
    rw[dh _ k rfl (by omega),hs]
    try rfl
  ·try simp only[bO]at cx
   have hj:=MC (JW.trans (TH l k cx))
   exact bp (aT X [2,3] rfl (by trivial) (az (aj rfl ⟨by rw[hj.1],by rw[hj.2],⟨⟩⟩)))
theorem yZ(l:List DB)(oO:l.length≤1048576)(ha:yQ l):So 59 [.a (.sl .DB l)] [.agg (bL (jw l)),bl (F6 l)]:=by
 refine aC X call59 func59 ntmps59 rfl rfl ?_
 intro zb
 exact aF X [0,2] rfl (aS X [] [(5,⟨true,[.agg (bL (jw l)),bl (F6 l)]⟩)] [2,3] [] rfl (by(with_reducible and_intros)<;>first|exact⟨⟩|exact(C6 l oO ha)) (az (aj rfl ⟨rfl,rfl,⟨⟩⟩)))
theorem EM(id rows b:Int):So 175 [aM id,aM rows,aM b] [.agg (dB (newS id rows b))]:=by
 refine aC X call175 func175 ntmps175 rfl rfl ?_
 intro zb
 refine aF X [0,1,2,6] rfl (ah (aS X [] [(8,⟨false,[bl (inr id 0 3)]⟩),(12,⟨false,[bl (inr rows 1 64)]⟩),(17,⟨false,[bl (inr b 0 3)]⟩)] [0,1,2,6,19] [] rfl (by(with_reducible and_intros);(iterate 3 all_goals try first|exact⟨⟩|exact(bB id 0 3)|exact fun _=>(bB rows 1 64)|exact fun _=>(bB b 0 3))) ?_))
 refine aA rfl ?_ ?_<;>intro hb0
 ·have hk:I1 id rows b=false:=dG hb0 (by simp only[I1,bG]<;>first|rfl|ac_rfl)
  have hn:newS id rows b=⟨0,0,0,[],0⟩:=by rw[newS,hk];rfl
  exact aT X [6] rfl (by trivial) (az (aj rfl (by and_intros<;>first|exact⟨⟩| (rw[hn];done))))
 ·have hk:I1 id rows b=true:=dF hb0 (by simp only[I1,bG]<;>first|rfl|ac_rfl)
  have hn:newS id rows b=⟨id,rows,0,[],b⟩:=by rw[newS,if_pos hk]
  exact aE (aT X [6] rfl (by trivial) (az (aj rfl (by and_intros<;>first|exact⟨⟩| (rw[hn];done)))))
theorem ug(s:bZ)(hz:s.received.length≤1048576∧ ∀r,r∈s.received→fU aQ r.share.rows≤1048576):So 115 [.agg (dB s)] [.agg (dB (kj s))]:=by
 refine aC X call115 func115 ntmps115 rfl rfl ?_
 intro zb
 refine aF X [1,2] rfl (aS X [] [(5,⟨true,[.agg (dB s)]⟩)] [1,2,3] [] rfl (by(with_reducible and_intros)<;>first|exact⟨⟩|exact(lq s hz)) (ah (aS X [] [(7,⟨false,[bl (dN s)]⟩)] [2,3,12] [] rfl (by(with_reducible and_intros)<;>first|exact⟨⟩|exact(fH s)) ?_)))
 refine aA rfl ?_ ?_<;>intro hb0
 ·have hk:I2 s=true:=l8 hb0 (by simp only[I2,bG]<;>first|rfl|ac_rfl)
  have hn:kj s=⟨s.id,s.rows,aq.wrap (s.round+1),[],s.behavior⟩:=by rw[kj,if_pos hk]
  exact aF X [2,3] rfl (cW X [2,3] rfl (aT X [2] rfl (by trivial) (az (aj rfl (by and_intros<;>first|exact⟨⟩| (rw[hn];done))))))
 ·have hk:I2 s=false:=pQ hb0 (by simp only[I2,bG]<;>first|rfl|ac_rfl)
  have hn:kj s=s:=by rw[kj,hk];rfl
  exact aE (aT X [2] rfl (by trivial) (az (aj rfl (by and_intros<;>first|exact⟨⟩| (rw[hn];done)))))
theorem Am(key:Int)(a:eU)(h1:a.selection.length≤262144)(h2:a.data.length≤262144):So 205 [aM key, .agg (jh a)] [bl (VS key a)]:=by
 refine aC X call205 func205 ntmps205 rfl rfl ?_
 intro zb
 exact aF X [0,3] rfl (ah (aX X [] [(9,⟨false,[aM (IQ key a.server a.round a.selection a.data)]⟩)] [4] [] 127 0 MO (by kernel_rfl) rfl (by kernel_rfl) (by(with_reducible and_intros)<;>first|exact⟨⟩|exact(pV key a h1 h2)) (az (aj rfl ⟨rfl,⟨⟩⟩))))
theorem y8(key:Int)(d:DB)(a:eU)(h1:a.selection.length≤262144)(h2:a.data.length≤262144):So 141 [aM key, .agg (bL d), .agg (jh a)] [bl (fls key d a)]:=by
 refine aC X call141 func141 ntmps141 rfl rfl ?_
 intro zb
 exact aF X [0,4,5] rfl (ah (aX X [] [(9,⟨false,[bl (VS key a)]⟩),(16,⟨false,[.a (.sl .u8 (iz d a.selection))]⟩),(17,⟨false,[bl (a.data==(iz d a.selection))]⟩)] [6] [] 16383 0 MO (by kernel_rfl) rfl (by kernel_rfl) (by(with_reducible and_intros);(iterate 3 all_goals try first|exact⟨⟩|exact(Am key a h1 h2)|exact fun _=>(s8 d a.selection)|exact fun _=>(n8 a.data (iz d a.selection)))) (az (aj rfl ⟨(congrArg Value.bool (by simp only[fls,bG]<;>first|rfl|ac_rfl)),⟨⟩⟩))))
theorem C7(l:List DB)(oO:l.length≤1048576)(ha:yQ l):So 133 [.a (.sl .DB l)] [.agg (bL (jw l)),bl (F6 l)]:=by
 refine aC X call133 func133 ntmps133 rfl rfl ?_
 intro zb
 refine aF X [0,2] rfl (ah (aS X [] [(10,⟨false,[bl (eA (l.length:Int))]⟩),(16,⟨false,[bl (eC (l.getD (cL 0) (aP .DB)))]⟩)] [0,2,18] [] rfl ⟨fun _=>eX _,fun h=>amF h,ke _,⟨⟩⟩ ?_))
 refine aA rfl ?_ ?_<;>intro hb0
 ·have hk:eA l.length=false:=amE ha hb0
  have hj:=IZ (TI hk)
  exact aT X [2,3] rfl (by trivial) (az (aj rfl ⟨by rw[hj.1],by rw[hj.2],⟨⟩⟩))
 ·have hk:eA l.length=true:=akb hb0
  have hcb:=I0 hk
  have VU:=TJ hk
  have h0z:=gz (pW ha 0)
  have Fa:(l.drop 1).length=l.length-1:=bW ..
  refine aE (aS X [] [(23,⟨true,[.agg (bL (l.getD (cL 0) (aP .DB)))]⟩)] [0,2,4] [] rfl (by(with_reducible and_intros)<;>first|exact⟨⟩|exact(gW (l.getD (cL 0) (aP .DB)) h0z)| (intros;omega)) (ah (aF X [0,2,4,5] rfl ?_)))
  refine aG (aW (fun k=>(1≤k∧k≤l.length)∧Rx l=Ni (F7 l (k-1)) ((l.drop 1).drop (k-1))) (fun k:Nat=> [(5, .one ((aM k)))]) (fun k=> [(23, .arr (.sl .u8) (F7 l (k-1)).rows)]) (fun k=>l.length-k) 1 (fun k=>rfl) ⟨by omega,VU⟩ rfl ?_)
  rintro k ⟨hk0,JW⟩
  refine ah (aF X [0,2,4,5,27] rfl ?_)
  refine aA rfl ?_ ?_<;>intro cx
  ·try simp only[bO]at cx
   have hz1:=gz (ZC ha (k-1))
   have hz2:=gz (pW ha k)
   have hge:(l.drop 1).getD (k-1) (aP .DB)=(l.getD k (aP .DB)):=by rw[Pp,show k-1+1=k by omega]
   have RD:k-1<(l.drop 1).length:=by omega
   refine aE (ah (aG (ah ?_)))
   have t1:=(mC (F7 l (k-1)) (l.getD k (aP .DB)) hz1 hz2)
   refine aX X [] [(36,⟨true,dH t1⟩)] [0,2,4,5,6,7] [] 3071 1 MO (by kernel_rfl) rfl (by kernel_rfl) (by(with_reducible and_intros)<;>first|exact⟨⟩|exact t1| (intros;omega)) (ah (aF X [0,2,4,5,6,40] rfl ?_))
   refine aA rfl ?_ ?_<;>intro dY
   ·have hx:k7 (F7 l (k-1)) (l.getD k (aP .DB))=false:=by simpa using dY
    have hj:=IZ (JW.trans (ZB l (k-1) RD (by rw[hge];exact hx)))
    exact aT X [2,3] rfl (by trivial) (az (aj rfl ⟨by rw[hj.1],by rw[hj.2],⟨⟩⟩))
   ·have hx:k7 (F7 l (k-1)) (l.getD k (aP .DB))=true:=by simpa using dY
    have hs:=CL l (k-1) RD
    rw[hge]at hs
    refine aE (ny X [0,2,4,5] rfl (by trivial) (pP 4 0 23 rfl (cW X [0,2,4,5] rfl ?_)))
    refine⟨k+1,⟨by omega,by rw[JW,Pf l (k-1) RD (by rw[hge];exact hx),show k+1-1=k-1+1 by omega]⟩,by omega,?_⟩
    rw[dh _ k rfl (by omega),show k+1-1=k-1+1 by omega,hs]
    try rfl
  ·try simp only[bO]at cx
   have hj:=MC (JW.trans (TH l (k-1) (by omega)))
   exact bp (aT X [2,3] rfl (by trivial) (az (aj rfl ⟨by rw[hj.1],by rw[hj.2],⟨⟩⟩)))
theorem za(l:List DB)(oO:l.length≤1048576)(ha:yQ l):So 80 [.a (.sl .DB l)] [.agg (bL (jw l)),bl (F6 l)]:=by
 refine aC X call80 func80 ntmps80 rfl rfl ?_
 intro zb
 exact aF X [0,2] rfl (aS X [] [(5,⟨true,[.agg (bL (jw l)),bl (F6 l)]⟩)] [2,3] [] rfl (by(with_reducible and_intros)<;>first|exact⟨⟩|exact(C7 l oO ha)) (az (aj rfl ⟨rfl,rfl,⟨⟩⟩)))
theorem vu(id rows b:Int):So 26 [aM id,aM rows,aM b] [.agg (dB (newS id rows b))]:=by
 refine aC X call26 func26 ntmps26 rfl rfl ?_
 intro zb
 refine aF X [0,1,2,6] rfl (ah (aS X [] [(8,⟨false,[bl (inr id 0 3)]⟩),(12,⟨false,[bl (inr rows 1 64)]⟩),(17,⟨false,[bl (inr b 0 3)]⟩)] [0,1,2,6,19] [] rfl (by(with_reducible and_intros);(iterate 3 all_goals try first|exact⟨⟩|exact(bY id 0 3)|exact fun _=>(bY rows 1 64)|exact fun _=>(bY b 0 3))) ?_))
 refine aA rfl ?_ ?_<;>intro hb0
 ·have hk:I1 id rows b=false:=dG hb0 (by simp only[I1,bG]<;>first|rfl|ac_rfl)
  have hn:newS id rows b=⟨0,0,0,[],0⟩:=by rw[newS,hk];rfl
  exact aT X [6] rfl (by trivial) (az (aj rfl (by and_intros<;>first|exact⟨⟩| (rw[hn];done))))
 ·have hk:I1 id rows b=true:=dF hb0 (by simp only[I1,bG]<;>first|rfl|ac_rfl)
  have hn:newS id rows b=⟨id,rows,0,[],b⟩:=by rw[newS,if_pos hk]
  exact aE (aT X [6] rfl (by trivial) (az (aj rfl (by and_intros<;>first|exact⟨⟩| (rw[hn];done)))))
theorem uh(s:bZ)(hz:s.received.length≤1048576∧ ∀r,r∈s.received→fU aQ r.share.rows≤1048576):So 144 [.agg (dB s)] [.agg (dB (kj s))]:=by
 refine aC X call144 func144 ntmps144 rfl rfl ?_
 intro zb
 refine aF X [1,2] rfl (ah (aS X [] [(4,⟨false,[bl (dN s)]⟩)] [1,2,10] [] rfl (by(with_reducible and_intros)<;>first|exact⟨⟩|exact(fI s)) ?_))
 refine aA rfl ?_ ?_<;>intro hb0
 ·have hk:I2 s=false:=dG hb0 (by simp only[I2,bG]<;>first|rfl|ac_rfl)
  have hn:kj s=s:=by rw[kj,hk];rfl
  exact aS X [] [(12,⟨true,[.agg (dB s)]⟩)] [2] [] rfl (by(with_reducible and_intros)<;>first|exact⟨⟩|exact(oD s hz)) (az (aj rfl (by and_intros<;>first|exact⟨⟩| (rw[hn];done))))
 ·have hk:I2 s=true:=dF hb0 (by simp only[I2,bG]<;>first|rfl|ac_rfl)
  have hn:kj s=⟨s.id,s.rows,aq.wrap (s.round+1),[],s.behavior⟩:=by rw[kj,if_pos hk]
  exact aE (aT X [2] rfl (by trivial) (az (aj rfl (by and_intros<;>first|exact⟨⟩| (rw[hn];done)))))
end
section
set_option maxRecDepth 100000
theorem Ga(a:mE)(r:Int)(d:DB)(h0:iL a≤1048576)(hd0:fU aQ d.rows≤1048576):So 114 [.agg (gu a),aM r, .agg (bL d)] [.agg [gT a.rows, .vw 0 none .bz (ED a r d)],bl (vo a r d)]:=by
 refine aC X call114 func114 ntmps114 rfl rfl ?_
 intro zb
 refine aF X [1,3,5,6] rfl (aS X [] [(10,⟨true,[.agg (gu a)]⟩)] [1,3,5,6,8] [] rfl (by(with_reducible and_intros)<;>first|exact⟨⟩|exact(tj a h0)) (ah (aS X [] [(12,⟨false,[bl (iU a)]⟩),(16,⟨false,[bl (inr r 0 100000)]⟩),(22,⟨false,[aM (dK a)]⟩),(27,⟨false,[bl (eC d)]⟩)] [1,5,6,8,37] [] rfl (by(with_reducible and_intros);(iterate 4 all_goals try first|exact⟨⟩|exact(oT a)|exact fun _=>(bB r 0 100000)|exact fun _=>(pK a)|exact fun _=>(fN d))) ?_)))
 refine aA rfl ?_ ?_<;>intro hb0
 ·have hk:vo a r d=false:=dG hb0 (by simp only[vo,bG]<;>first|rfl|ac_rfl)
  have hn:=ZR hk
  exact aT X [6,7] rfl (by trivial) (az (aj rfl ⟨rfl,by rw[hn],by rw[hk],⟨⟩⟩))
 ·have hk:vo a r d=true:=dF hb0 (by simp only[vo,bG]<;>first|rfl|ac_rfl)
  have hn:=MN hk
  have hkb:=ZS hk
  have hal:(xE a r d).length=a.rounds.length+1:=by unfold xE;rw[aY];rfl
  refine aE (ah (aX X [] [(43,⟨true,[.agg (bL d)]⟩),(500045,⟨true,[]⟩)] [6,8] [] 127 0 MO (by kernel_rfl) rfl (by kernel_rfl) (by(repeat' with_reducible first|exact bF|refine bJ ?_ ?_|apply aO)<;>first|exact(eL d hd0)|exact rfl|exact⟨rfl,bM _ (by decide)⟩| (simp only[gb,maxLen,lens];omega)) ?_))
  rw[show a.rounds++ [(⟨r,d⟩:bz)]=(xE a r d)from rfl]
  refine ah (aF X [6,8,51] rfl ?_)
  refine aA rfl ?_ ?_<;>intro cx
  ·try simp only[bO]at cx
   have h8:(8:Int)<((xE a r d).length:Int):=cx
   rw[if_pos h8]at hn
   exact ny X [6,8] rfl (by and_intros<;>first|exact⟨⟩| (intros;omega)) (aT X [6,7] rfl (by trivial) (az (aj rfl ⟨rfl,by rw[hn];simp,by rw[hk],⟨⟩⟩)))
  ·try simp only[bO]at cx
   have h8: ¬(8:Int)<((xE a r d).length:Int):=by omega
   rw[if_neg h8]at hn
   exact aE (aT X [6,7] rfl (by trivial) (az (aj rfl ⟨rfl,by rw[hn],by rw[hk],⟨⟩⟩)))
theorem Gb(a:mE)(r:Int)(d:DB)(h0:iL a≤1048576)(hd0:fU aQ d.rows≤1048576):So 143 [.agg (gu a),aM r, .agg (bL d)] [.agg [gT a.rows, .vw 0 none .bz (ED a r d)],bl (vo a r d)]:=by
 refine aC X call143 func143 ntmps143 rfl rfl ?_
 intro zb
 refine aF X [1,3,5,6] rfl (aS X [] [(10,⟨true,[.agg (gu a)]⟩)] [1,3,5,6,8] [] rfl (by(with_reducible and_intros)<;>first|exact⟨⟩|exact(yH a h0)) (ah (aS X [] [(12,⟨false,[bl (iU a)]⟩),(16,⟨false,[bl (inr r 0 100000)]⟩),(22,⟨false,[aM (dK a)]⟩),(27,⟨false,[bl (eC d)]⟩)] [1,5,6,8,37] [] rfl (by(with_reducible and_intros);(iterate 4 all_goals try first|exact⟨⟩|exact(oU a)|exact fun _=>(bY r 0 100000)|exact fun _=>(pL a)|exact fun _=>(eX d))) ?_)))
 refine aA rfl ?_ ?_<;>intro hb0
 ·have hk:vo a r d=false:=dG hb0 (by simp only[vo,bG]<;>first|rfl|ac_rfl)
  have hn:=ZR hk
  exact aT X [6,7] rfl (by trivial) (az (aj rfl ⟨rfl,by rw[hn],by rw[hk],⟨⟩⟩))
 ·have hk:vo a r d=true:=dF hb0 (by simp only[vo,bG]<;>first|rfl|ac_rfl)
  have hn:=MN hk
  have hkb:=ZS hk
  have hal:(xE a r d).length=a.rounds.length+1:=by unfold xE;rw[aY];rfl
  refine aE (ah (aX X [] [(43,⟨true,[.agg (bL d)]⟩),(500045,⟨true,[]⟩)] [6,8] [] 127 0 MO (by kernel_rfl) rfl (by kernel_rfl) (by(repeat' with_reducible first|exact bF|refine bJ ?_ ?_|apply aO)<;>first|exact(gW d hd0)|exact rfl|exact⟨rfl,bM _ (by decide)⟩| (simp only[gb,maxLen,lens];omega)) ?_))
  rw[show a.rounds++ [(⟨r,d⟩:bz)]=(xE a r d)from rfl]
  refine ah (aF X [6,8,51] rfl ?_)
  refine aA rfl ?_ ?_<;>intro cx
  ·try simp only[bO]at cx
   have h8:(8:Int)<((xE a r d).length:Int):=cx
   rw[if_pos h8]at hn
   exact ny X [6,8] rfl (by and_intros<;>first|exact⟨⟩| (intros;omega)) (aT X [6,7] rfl (by trivial) (az (aj rfl ⟨rfl,by rw[hn];simp,by rw[hk],⟨⟩⟩)))
  ·try simp only[bO]at cx
   have h8: ¬(8:Int)<((xE a r d).length:Int):=by omega
   rw[if_neg h8]at hn
   exact aE (aT X [6,7] rfl (by trivial) (az (aj rfl ⟨rfl,by rw[hn],by rw[hk],⟨⟩⟩)))
theorem qE(x:ck)(rd id:Int)(hl:x.av.length≤4)(hw:1≤x.rows∧x.rows≤64)(hU:I5 rd x.av)(hr:x.replaced.length≤4194400):sE ty Tryz.prog 113 [(1000, .box [gT x.rows, .own 11, .own 12,gT x.aJ.rows, .own 13,gT x.bS,gT x.seed,gT x.round, .own 14,gT x.cancelled]),(11, .arr .bZ x.av),(12, .arr .cz x.af),(13, .arr .bz x.aJ.rounds),(14, .arr .int x.replaced)] [.a (.ptr 1000 0),aM id] [(1000, .box [gT x.rows, .own 11, .own 12,gT x.aJ.rows, .own 13,gT x.bS,gT x.seed,gT x.round, .own 14,gT x.cancelled]),(11, .arr .bZ (CM x.rows rd (x.av,x.replaced) id).1),(12, .arr .cz x.af),(13, .arr .bz x.aJ.rounds),(14, .arr .int (CM x.rows rd (x.av,x.replaced) id).2)] []:=by
 refine pR X call113 func113 rfl rfl (by decide) ntmps113 (by simp) rfl ?_
 intro zb
 refine ah ?_
 have t1:=(bB id 0 (aq.wrap ((x.av.length:Int)-1)))
 refine bH X [] [(12,⟨false,dH t1⟩)] [0,1,12] [] rfl (by(with_reducible and_intros)<;>first|exact⟨⟩|exact t1) ?_
 refine aA rfl ?_ ?_<;>intro hb0
 ·have hk:Ae x.av id=true:=by unfold Ae;simpa using hb0
  have hb:=ZQ hl hk
  have hp:(CM x.rows rd (x.av,x.replaced) id)=_:=TR (rows:=x.rows) (rd:=rd) (p:=(x.av,x.replaced)) hk
  have Qa:=I9 (id:=id) (by omega) hw
  have hrd:=(vr hU (k:=id.toNat) (by omega)).1
  refine aS X [] [(18,⟨true,[.agg (dB (newS id x.rows 0))]⟩)] [0,1,4] [] rfl (by(with_reducible and_intros)<;>first|exact⟨⟩|exact(EM id x.rows 0)) ?_
  rw[Qa]
  refine aT X [0,1,4] rfl (by and_intros<;>first|exact⟨⟩| (intros;omega)) ?_
  rw[hrd]
  exact ah (aX X [] [] [0,1] [] 127 0 MO (by kernel_rfl) rfl (by kernel_rfl) (by and_intros<;>first|exact⟨⟩| (intros;omega)) (bH X [(42,14)] [] [] [] rfl (by and_intros<;>first|exact⟨⟩|exact rfl| (simp only[gb,maxLen,lens];omega)) (wk rfl (by and_intros<;>first|exact⟨⟩|rfl| (rw[hp];done)))))
 ·have hk:Ae x.av id=false:=by unfold Ae;simpa using hb0
  have hp:(CM x.rows rd (x.av,x.replaced) id)=_:=TS (rows:=x.rows) (rd:=rd) (p:=(x.av,x.replaced)) hk
  exact aE (wk rfl (by and_intros<;>first|exact⟨⟩|rfl| (rw[hp];done)))
theorem uj(x:ck)(rd id:Int)(hl:x.av.length≤4)(hw:1≤x.rows∧x.rows≤64)(hU:I5 rd x.av)(hr:x.replaced.length≤4194400)(hxr:x.round=rd):sE ty Tryz.prog 142 [(1000, .box [gT x.rows, .own 11, .own 12,gT x.aJ.rows, .own 13,gT x.bS,gT x.seed,gT x.round, .own 14,gT x.cancelled]),(11, .arr .bZ x.av),(12, .arr .cz x.af),(13, .arr .bz x.aJ.rounds),(14, .arr .int x.replaced)] [.a (.ptr 1000 0),aM id] [(1000, .box [gT x.rows, .own 11, .own 12,gT x.aJ.rows, .own 13,gT x.bS,gT x.seed,gT x.round, .own 14,gT x.cancelled]),(11, .arr .bZ (CM x.rows rd (x.av,x.replaced) id).1),(12, .arr .cz x.af),(13, .arr .bz x.aJ.rounds),(14, .arr .int (CM x.rows rd (x.av,x.replaced) id).2)] []:=by
 refine pR X call142 func142 rfl rfl (by decide) ntmps142 (by simp) rfl ?_
 intro zb
 refine ah (ah ?_)
 have t1:=(bY id 0 (aq.wrap ((x.av.length:Int)-1)))
 refine bH X [] [(12,⟨false,dH t1⟩)] [0,1,13] [] rfl (by(with_reducible and_intros)<;>first|exact⟨⟩|exact t1) ?_
 refine aA rfl ?_ ?_<;>intro hb0
 ·have hk:Ae x.av id=false:=by unfold Ae;simpa using hb0
  have hp:(CM x.rows rd (x.av,x.replaced) id)=_:=TS (rows:=x.rows) (rd:=rd) (p:=(x.av,x.replaced)) hk
  exact az (vh rfl (by and_intros<;>first|exact⟨⟩|rfl| (rw[hp];done)))
 ·have hk:Ae x.av id=true:=by unfold Ae;simpa using hb0
  have hb:=ZQ hl hk
  have hp:(CM x.rows rd (x.av,x.replaced) id)=_:=TR (rows:=x.rows) (rd:=rd) (p:=(x.av,x.replaced)) hk
  have Qa:=I9 (id:=id) (by omega) hw
  have hrd:=(vr hU (k:=id.toNat) (by omega)).1
  refine aE (aS X [] [(19,⟨true,[.agg (dB (newS id x.rows 0))]⟩)] [0,1,4] [] rfl (by(with_reducible and_intros)<;>first|exact⟨⟩|exact(vu id x.rows 0)) ?_)
  rw[Qa]
  refine aT X [0,1,4] rfl (by trivial) ?_
  rw[hxr]
  exact ah (aX X [] [] [0,1] [] 127 0 MO (by kernel_rfl) rfl (by kernel_rfl) (by and_intros<;>first|exact⟨⟩| (intros;omega)) (bH X [(39,14)] [] [] [] rfl (by and_intros<;>first|exact⟨⟩|exact rfl| (simp only[gb,maxLen,lens];omega)) (wk rfl (by and_intros<;>first|exact⟨⟩|rfl| (rw[hp];done)))))
theorem C8(x:ck)(g:List Int)(d:DB)(h0:wB x)(hgl:g.length≤64)(hd0:fU aQ d.rows≤1048576):So 62 [.agg (b7 x), .a (.sl .int g), .agg (bL d)] [.agg [gT (dJ x g d).rows, .sl .bZ (dJ x g d).av, .sl .cz (dJ x g d).af,gT (dJ x g d).aJ.rows, .vw 0 none .bz (dJ x g d).aJ.rounds,gT (dJ x g d).bS,gT (dJ x g d).seed,gT (dJ x g d).round, .sl .int (dJ x g d).replaced,gT (dJ x g d).cancelled]]:=by
 refine aC X call62 func62 ntmps62 rfl rfl ?_
 intro zb
 have hls:fU gy x.av≤1048576∧fU cX x.af≤1048576∧iL x.aJ≤1048576∧x.replaced.length≤4194304:=h0
 have hcp:=TT x g
 refine aF X [1,3,5,6] rfl (aS X [(7,907)] [(13,⟨true,[.agg (b7 x)]⟩)] [1,3,5,6,7] [] rfl (by(with_reducible and_intros)<;>first|exact⟨⟩|exact(je x h0)) (ah (aS X [] [(15,⟨false,[bl (okW x)]⟩)] [1,3,5,6,7,21] [] rfl (by(with_reducible and_intros)<;>first|exact⟨⟩|exact(fj x)) ?_)))
 refine aA rfl ?_ ?_<;>intro hb0
 ·have hk:nL x=false:=dG hb0 (by simp only[nL,bG]<;>first|rfl|ac_rfl)
  have hc:=K0 (g:=g) (d:=d) hk
  exact aT X [6] rfl (by trivial) (az (aj rfl (by and_intros<;>first|exact⟨⟩| (rw[hc];done))))
 ·have hk:nL x=true:=dF hb0 (by simp only[nL,bG]<;>first|rfl|ac_rfl)
  obtain⟨hok,hr9⟩:=MM hk
  have qT:=gw hok
  have VP:=(qN hok).1
  have hcU:=afd g hok
  refine aE (ah (aF X [1,3,5,6,7,25] rfl ?_))
  refine aA rfl ?_ ?_<;>intro cx
  ·try simp only[bO]at cx
   have hg0:g.length=0:=by omega
   have hc:=C5 (d:=d) hk hg0
   have hgn:g= []:=fJ.1 hg0
   have t1:=(Ga x.aJ x.round d hls.2.2.1 hd0)
   refine bH X [] [(32,⟨true,dH t1⟩)] [1,6,7] [] rfl (by(with_reducible and_intros)<;>first|exact⟨⟩|exact t1) (ah (aF X [6,7,40,41,42] rfl ?_))
   refine aG (aW (fun k=>k≤g.length) (fun k:Nat=> [(42, .one ((aM k)))]) (fun k=> [(14, .arr .bZ (Ja x g k).1),(21, .arr .int (Ja x g k).2)]) (fun k=>g.length-k) 0 (fun k=>rfl) (aD _) rfl ?_)
   rintro k hk0
   have JU:=C3 (x:=x) hk0
   have hU:=Pr hok hk0
   refine aF X [6,7,40,41,42,43] rfl ?_
   refine ah (aA rfl ?_ ?_)<;>intro dY
   ·try simp only[bO]at dY
    omega
   ·try simp only[bO]at dY
    rw[zQ dY]
    refine bp (ah (aF X [6,7,50,51,52] rfl ?_))
    refine aG (aW (fun k1=>k1≤x.av.length) (fun k1:Nat=> [(52, .one ((aM k1)))]) (fun k1=> [(14, .arr .bZ (F9 (wv x g).1 k1))]) (fun k1=>x.av.length-k1) 0 (fun k1=>rfl) (aD _) (by rw[TU];rfl) ?_)
    intro k1 hk1
    have Hg:(F9 (wv x g).1 k1).length=x.av.length:=by rw[GG (by omega)];exact hcp.1
    refine aF X [6,7,50,51,52,53] rfl ?_
    refine ah (aA rfl ?_ ?_)<;>intro Ft
    ·try simp only[bO]at Ft
     have hgt:=GF (l:=(wv x g).1) (k:=k1) (by omega)
     have hsm:=vr hcU (k:=k1) (by omega)
     have J2:=C4 (l:=(wv x g).1) (k:=k1) (by omega)
     refine aE (ah (aG (aT X [6,7,10,11,50,51,52] rfl (by and_intros<;>first|exact⟨⟩| (intros;omega)) (aX X [] [(61,⟨true,[.agg (dB (kj ((F9 (wv x g).1 k1).getD k1 (aP .bZ))))]⟩)] [6,7,50,51,52] [] 63 0 MO (by kernel_rfl) rfl (by kernel_rfl) (by(with_reducible and_intros)<;>first|exact⟨⟩|exact(ug ((F9 (wv x g).1 k1).getD k1 (aP .bZ)) (by rw[hgt];exact hsm.2))| (intros;omega)) (cW X [6,7,50,51,52] rfl ?_)))))
     refine⟨k1+1,by omega,by omega,?_⟩
     rw[dh _ k1 rfl (by omega), ←J2]
     try rfl
    ·try simp only[bO]at Ft
     rw[GH (by omega)]
     exact bp (aF X [6,7] rfl (aT X [6] rfl (by trivial) (az (aj rfl (by and_intros<;>first|exact⟨⟩| (rw[hc];done))))))
  ·try simp only[bO]at cx
   have hg0: ¬g.length=0:=by omega
   have hc:=Jb (d:=d) hk hg0
   refine cW X [1,6,7] rfl (ah (aF X [6,7,40,41,42] rfl ?_))
   refine aG (aW (fun k=>k≤g.length) (fun k:Nat=> [(42, .one ((aM k)))]) (fun k=> [(14, .arr .bZ (Ja x g k).1),(21, .arr .int (Ja x g k).2)]) (fun k=>g.length-k) 0 (fun k=>rfl) (aD _) rfl ?_)
   rintro k hk0
   have JU:=C3 (x:=x) hk0
   have hU:=Pr hok hk0
   refine aF X [6,7,40,41,42,43] rfl ?_
   refine ah (aA rfl ?_ ?_)<;>intro dY
   ·try simp only[bO]at dY
    have hst:=Pq (x:=x) dY
    refine aE (ah (aG (aT X [6,7,9,40,41,42] rfl (by and_intros<;>first|exact⟨⟩| (intros;omega)) ?_)))
    have t1:=(qE (⟨x.rows,(Ja x g k).1,x.af,x.aJ,x.bS,x.seed,x.round,(Ja x g k).2,aq.wrap (x.cancelled+1)⟩:ck) x.round (g.getD k (aP .int)) (by show(Ja x g k).1.length≤4;omega) VP hU (by show(Ja x g k).2.length≤_;omega))
    refine bH X [] [(800047,⟨true,LU t1⟩),(700047,⟨true, .agg [.ptr 1000 907, .ptr 11 14, .ptr 12 15, .ptr 13 17, .ptr 14 21]:: .agg []::LV t1⟩)] [6,7,40,41,42] [] rfl (by(with_reducible and_intros)<;>first|exact⟨⟩|exact t1) (cW X [6,7,40,41,42] rfl ?_)
    refine⟨k+1,by omega,by omega,?_⟩
    rw[dh _ k rfl (by omega), ←hst]
    try rfl
   ·try simp only[bO]at dY
    rw[zQ dY]
    refine bp (ah (aF X [6,7,50,51,52] rfl ?_))
    refine aG (aW (fun k1=>k1≤x.av.length) (fun k1:Nat=> [(52, .one ((aM k1)))]) (fun k1=> [(14, .arr .bZ (F9 (wv x g).1 k1))]) (fun k1=>x.av.length-k1) 0 (fun k1=>rfl) (aD _) (by rw[TU];rfl) ?_)
    intro k1 hk1
    have Hg:(F9 (wv x g).1 k1).length=x.av.length:=by rw[GG (by omega)];exact hcp.1
    refine aF X [6,7,50,51,52,53] rfl ?_
    refine ah (aA rfl ?_ ?_)<;>intro Ft
    ·try simp only[bO]at Ft
     have hgt:=GF (l:=(wv x g).1) (k:=k1) (by omega)
     have hsm:=vr hcU (k:=k1) (by omega)
     have J2:=C4 (l:=(wv x g).1) (k:=k1) (by omega)
     refine aE (ah (aG (aT X [6,7,10,11,50,51,52] rfl (by and_intros<;>first|exact⟨⟩| (intros;omega)) (aX X [] [(61,⟨true,[.agg (dB (kj ((F9 (wv x g).1 k1).getD k1 (aP .bZ))))]⟩)] [6,7,50,51,52] [] 63 0 MO (by kernel_rfl) rfl (by kernel_rfl) (by(with_reducible and_intros)<;>first|exact⟨⟩|exact(ug ((F9 (wv x g).1 k1).getD k1 (aP .bZ)) (by rw[hgt];exact hsm.2))| (intros;omega)) (cW X [6,7,50,51,52] rfl ?_)))))
     refine⟨k1+1,by omega,by omega,?_⟩
     rw[dh _ k1 rfl (by omega), ←J2]
     try rfl
    ·try simp only[bO]at Ft
     rw[GH (by omega)]
     exact bp (aF X [6,7] rfl (aT X [6] rfl (by trivial) (az (aj rfl (by and_intros<;>first|exact⟨⟩| (rw[hc];done))))))
theorem Br(x:ck)(h0:wB x):So 61 [.agg (b7 x)] [.agg (b7 (testW x))]:=by
 refine aC X call61 func61 ntmps61 rfl rfl ?_
 intro zb
 have hls:fU gy x.av≤1048576∧fU cX x.af≤1048576∧iL x.aJ≤1048576∧x.replaced.length≤4194304:=h0
 have J2:=aff h0
 refine aF X [1,2] rfl (aS X [(3,903)] [(13,⟨true,[.agg (b7 x)]⟩)] [1,2,3] [] rfl (by(with_reducible and_intros)<;>first|exact⟨⟩|exact(je x h0)) (aS X [] [(16,⟨false,[aM (dK x.aJ)]⟩)] [1,2,3,4] [] rfl (by(with_reducible and_intros)<;>first|exact⟨⟩|exact(pK x.aJ)) (ah ?_)))
 have t1:=(nG x.aJ (dK x.aJ) J2)
 refine bH X [(21,80)] [(21,⟨true,dH t1⟩)] [1,2,3,4,5,6] [] rfl (by(with_reducible and_intros)<;>first|exact⟨⟩|exact t1) (ah (aS X [] [(25,⟨false,[bl (okW x)]⟩)] [1,2,3,4,5,30] [] rfl (by(with_reducible and_intros)<;>first|exact⟨⟩|exact(fj x)) ?_))
 refine aA rfl ?_ ?_<;>intro hb0
 ·have hk:xl x=false:=dG hb0 (by simp only[xl,bG]<;>first|rfl|ac_rfl)
  have hc:=Jc hk
  exact aT X [2] rfl (by trivial) (az (aj rfl (by and_intros<;>first|exact⟨⟩| (rw[hc];done))))
 ·have hk:xl x=true:=dF hb0 (by simp only[xl,bG]<;>first|rfl|ac_rfl)
  have hc:=zR hk
  have hkk:=hk
  rw[xl,Bool.and_eq_true]at hkk
  obtain⟨hok,hah⟩:=hkk
  have qT:=gw hok
  have VP:=(qN hok).1
  refine aE (ah (aF X [1,2,3,4,5,33,34,35] rfl ?_))
  refine aG (aW (fun k=>k≤x.av.length) (fun k:Nat=> [(35, .one ((aM k)))]) (fun k=> [(14, .arr .bZ (Du x k).1),(21, .arr .int (Du x k).2)]) (fun k=>x.av.length-k) 0 (fun k=>rfl) (aD _) rfl ?_)
  rintro k hk0
  have htb:=afe hok k hk0
  refine aF X [1,2,3,4,5,33,34,35,36] rfl ?_
  refine ah (aA rfl ?_ ?_)<;>intro cx
  ·try simp only[bO]at cx
   have hrl:=lP (kh x.seed [227,x.round,(k:Int)]) x.rows
   have hab:=afb (x.av.getD k (aP .bZ)) (kG x.bS (k:Int)) (dK x.aJ) (jW x.aJ.rounds (dK x.aJ)) (v:=(cO (kh x.seed [227,x.round,(k:Int)]) x.rows)) (by omega)
   have hsg:=TV hok hah (kh x.seed [227,x.round,(k:Int)])
   refine aE (ah (aG (aT X [1,2,3,4,5,7,8,33,34,35] rfl (by and_intros<;>first|exact⟨⟩| (intros;omega)) (aS X [] [(43,⟨false,[aM (kG x.bS (k:Int))]⟩)] [1,2,3,4,5,7,8,9,33,34,35] [] rfl (by(with_reducible and_intros)<;>first|exact⟨⟩|exact(l9 x.bS (k:Int))) (ah ?_)))))
   have t1:=(wY (x.av.getD k (aP .bZ)) (kG x.bS (k:Int)) (dK x.aJ) (jW x.aJ.rounds (dK x.aJ)) (cO (kh x.seed [227,x.round,(k:Int)]) x.rows) (by omega))
   refine aX X [] [(55,⟨false,[aM (kh x.seed [227,x.round,(k:Int)])]⟩),(58,⟨true,[.a (.sl .int (cO (kh x.seed [227,x.round,(k:Int)]) x.rows))]⟩),(59,⟨true,dH t1⟩)] [1,2,3,4,5,7,9,10,33,34,35] [] 1572863 1 MO (by kernel_rfl) rfl (by kernel_rfl) (by(repeat' with_reducible first|exact bF|refine bJ ?_ ?_|apply aO);(iterate 3 all_goals try first|exact(cZ x.seed [227,x.round,(k:Int)] (by first|assumption|omega| (simp;done)| (simp;omega)))|exact(oq (kh x.seed [227,x.round,(k:Int)]) x.rows)|exact t1);all_goals first|exact⟨rfl,bM _ (by decide)⟩) ?_
   refine ah ?_
   have t1:=(yY (kG x.bS (k:Int)) (jW x.aJ.rounds (dK x.aJ)) (tsA x k) hab.1 hab.2)
   refine bH X [] [(65,⟨false,dH t1⟩)] [1,2,3,4,5,7,33,34,35,65] [] rfl (by(with_reducible and_intros)<;>first|exact⟨⟩|exact t1) ?_
   refine aA rfl ?_ ?_<;>intro dY
   ·have hst:=TM (x:=x) (n:=k) dY
    have t1:=(qE (⟨x.rows,(Du x k).1,x.af,x.aJ,x.bS,x.seed,x.round,(Du x k).2,x.cancelled⟩:ck) x.round (k:Int) (by show(Du x k).1.length≤4;omega) VP htb.1 (by show(Du x k).2.length≤_;omega))
    refine bH X [] [(800067,⟨true,LU t1⟩),(700067,⟨true, .agg [.ptr 1000 903, .ptr 11 14, .ptr 12 15, .ptr 13 17, .ptr 14 21]:: .agg []::LV t1⟩)] [1,2,3,4,5,33,34,35] [] rfl (by(with_reducible and_intros)<;>first|exact⟨⟩|exact t1) (cW X [1,2,3,4,5,33,34,35] rfl ?_)
    refine⟨k+1,by omega,by omega,?_⟩
    rw[dh _ k rfl (by omega), ←hst]
    try rfl
   ·have hst:=Pg (x:=x) (n:=k) dY
    refine aE (cW X [1,2,3,4,5,33,34,35] rfl ?_)
    refine⟨k+1,by omega,by omega,?_⟩
    rw[dh _ k rfl (by omega),hst]
    try rfl
  ·try simp only[bO]at cx
   exact bp (aT X [2] rfl (by trivial) (az (aj rfl (by and_intros<;>first|exact⟨⟩| (rw[hc];done)| (rw[hc,show k=x.av.length by omega];done)))))
theorem C9(x:ck)(g:List Int)(d:DB)(h0:wB x)(hgl:g.length≤64)(hd0:fU aQ d.rows≤1048576):So 83 [.agg (b7 x), .a (.sl .int g), .agg (bL d)] [.agg [gT (dJ x g d).rows, .sl .bZ (dJ x g d).av, .sl .cz (dJ x g d).af,gT (dJ x g d).aJ.rows, .vw 0 none .bz (dJ x g d).aJ.rounds,gT (dJ x g d).bS,gT (dJ x g d).seed,gT (dJ x g d).round, .sl .int (dJ x g d).replaced,gT (dJ x g d).cancelled]]:=by
 refine aC X call83 func83 ntmps83 rfl rfl ?_
 intro zb
 have hls:fU gy x.av≤1048576∧fU cX x.af≤1048576∧iL x.aJ≤1048576∧x.replaced.length≤4194304:=h0
 have hcp:=TT x g
 refine aF X [1,3,5,6] rfl (aS X [(7,907)] [(13,⟨true,[.agg (b7 x)]⟩)] [1,3,5,6,7] [] rfl (by(with_reducible and_intros)<;>first|exact⟨⟩|exact(kg x h0)) (ah (aS X [] [(15,⟨false,[bl (okW x)]⟩)] [1,3,5,6,7,21] [] rfl (by(with_reducible and_intros)<;>first|exact⟨⟩|exact(gC x)) ?_)))
 refine aA rfl ?_ ?_<;>intro hb0
 ·have hk:nL x=false:=dG hb0 (by simp only[nL,bG]<;>first|rfl|ac_rfl)
  have hc:=K0 (g:=g) (d:=d) hk
  exact aT X [6] rfl (by trivial) (az (aj rfl (by and_intros<;>first|exact⟨⟩| (rw[hc];done))))
 ·have hk:nL x=true:=dF hb0 (by simp only[nL,bG]<;>first|rfl|ac_rfl)
  obtain⟨hok,hr9⟩:=MM hk
  have qT:=gw hok
  have VP:=(qN hok).1
  have hcU:=afd g hok
  refine aE (ah (aF X [1,3,5,6,7,25] rfl ?_))
  refine aA rfl ?_ ?_<;>intro cx
  ·try simp only[bO]at cx
   have hg0:g.length=0:=by omega
   have hc:=C5 (d:=d) hk hg0
   have hgn:g= []:=fJ.1 hg0
   refine ah ?_
   have t1:=(Gb x.aJ x.round d hls.2.2.1 hd0)
   refine bH X [] [(32,⟨true,dH t1⟩)] [1,3,6,7,8] [] rfl (by(with_reducible and_intros)<;>first|exact⟨⟩|exact t1) (ny X [1,3,6,7] rfl (by trivial) (ah (aF X [1,3,6,7,10] rfl ?_)))
   refine aG (aW (fun k=>k≤g.length) (fun k:Nat=> [(10, .one ((aM k)))]) (fun k=> [(14, .arr .bZ (Ja x g k).1),(21, .arr .int (Ja x g k).2)]) (fun k=>g.length-k) 0 (fun k=>rfl) (aD _) rfl ?_)
   rintro k hk0
   have JU:=C3 (x:=x) hk0
   have hU:=Pr hok hk0
   refine ah (aF X [1,3,6,7,10,44] rfl ?_)
   refine aA rfl ?_ ?_<;>intro dY
   ·try simp only[bO]at dY
    omega
   ·try simp only[bO]at dY
    rw[zQ dY]
    refine bp (ah (aF X [3,6,7,11] rfl ?_))
    refine aG (aW (fun k1=>k1≤x.av.length) (fun k1:Nat=> [(11, .one ((aM k1)))]) (fun k1=> [(14, .arr .bZ (F9 (wv x g).1 k1))]) (fun k1=>x.av.length-k1) 0 (fun k1=>rfl) (aD _) (by rw[TU];rfl) ?_)
    intro k1 hk1
    have Hg:(F9 (wv x g).1 k1).length=x.av.length:=by rw[GG (by omega)];exact hcp.1
    refine ah (aF X [3,6,7,11,56] rfl ?_)
    refine aA rfl ?_ ?_<;>intro Ft
    ·try simp only[bO]at Ft
     rw[Hg]at Ft
     have hgt:=GF (l:=(wv x g).1) (k:=k1) (by omega)
     have hsm:=vr hcU (k:=k1) (by omega)
     have J2:=C4 (l:=(wv x g).1) (k:=k1) (by omega)
     refine aE (ah (aG (aX X [] [(67,⟨true,[.agg (dB (kj ((F9 (wv x g).1 k1).getD k1 (aP .bZ))))]⟩)] [3,6,7,11] [] 1023 0 MO (by kernel_rfl) rfl (by kernel_rfl) (by(with_reducible and_intros)<;>first|exact⟨⟩|exact(uh ((F9 (wv x g).1 k1).getD k1 (aP .bZ)) (by rw[hgt];exact hsm.2))| (intros;omega)) (cW X [3,6,7,11] rfl ?_))))
     refine⟨k1+1,by omega,by omega,?_⟩
     rw[dh _ k1 rfl (by omega), ←J2]
     try rfl
    ·try simp only[bO]at Ft
     rw[Hg]at Ft
     rw[GH (by omega)]
     exact bp (aF X [6,7] rfl (aT X [6] rfl (by trivial) (az (aj rfl (by and_intros<;>first|exact⟨⟩| (rw[hc];done))))))
  ·try simp only[bO]at cx
   have hg0: ¬g.length=0:=by omega
   have hc:=Jb (d:=d) hk hg0
   refine cW X [1,3,6,7] rfl (ah (aF X [1,3,6,7,10] rfl ?_))
   refine aG (aW (fun k=>k≤g.length) (fun k:Nat=> [(10, .one ((aM k)))]) (fun k=> [(14, .arr .bZ (Ja x g k).1),(21, .arr .int (Ja x g k).2)]) (fun k=>g.length-k) 0 (fun k=>rfl) (aD _) rfl ?_)
   rintro k hk0
   have JU:=C3 (x:=x) hk0
   have hU:=Pr hok hk0
   refine ah (aF X [1,3,6,7,10,44] rfl ?_)
   refine aA rfl ?_ ?_<;>intro dY
   ·try simp only[bO]at dY
    have hst:=Pq (x:=x) dY
    refine aE (ah (aG ?_))
    have t1:=(uj (⟨x.rows,(Ja x g k).1,x.af,x.aJ,x.bS,x.seed,x.round,(Ja x g k).2,aq.wrap (x.cancelled+1)⟩:ck) x.round (g.getD k (aP .int)) (by show(Ja x g k).1.length≤4;omega) VP hU (by show(Ja x g k).2.length≤_;omega) rfl)
    refine bH X [] [(800051,⟨true,LU t1⟩),(700051,⟨true, .agg [.ptr 1000 907, .ptr 11 14, .ptr 12 15, .ptr 13 17, .ptr 14 21]:: .agg []::LV t1⟩)] [1,3,6,7,10] [] rfl (by(with_reducible and_intros)<;>first|exact⟨⟩|exact t1| (intros;omega)) (cW X [1,3,6,7,10] rfl ?_)
    refine⟨k+1,by omega,by omega,?_⟩
    rw[dh _ k rfl (by omega), ←hst]
    try rfl
   ·try simp only[bO]at dY
    rw[zQ dY]
    refine bp (ah (aF X [3,6,7,11] rfl ?_))
    refine aG (aW (fun k1=>k1≤x.av.length) (fun k1:Nat=> [(11, .one ((aM k1)))]) (fun k1=> [(14, .arr .bZ (F9 (wv x g).1 k1))]) (fun k1=>x.av.length-k1) 0 (fun k1=>rfl) (aD _) (by rw[TU];rfl) ?_)
    intro k1 hk1
    have Hg:(F9 (wv x g).1 k1).length=x.av.length:=by rw[GG (by omega)];exact hcp.1
    refine ah (aF X [3,6,7,11,56] rfl ?_)
    refine aA rfl ?_ ?_<;>intro Ft
    ·try simp only[bO]at Ft
     rw[Hg]at Ft
     have hgt:=GF (l:=(wv x g).1) (k:=k1) (by omega)
     have hsm:=vr hcU (k:=k1) (by omega)
     have J2:=C4 (l:=(wv x g).1) (k:=k1) (by omega)
     refine aE (ah (aG (aX X [] [(67,⟨true,[.agg (dB (kj ((F9 (wv x g).1 k1).getD k1 (aP .bZ))))]⟩)] [3,6,7,11] [] 1023 0 MO (by kernel_rfl) rfl (by kernel_rfl) (by(with_reducible and_intros)<;>first|exact⟨⟩|exact(uh ((F9 (wv x g).1 k1).getD k1 (aP .bZ)) (by rw[hgt];exact hsm.2))| (intros;omega)) (cW X [3,6,7,11] rfl ?_))))
     refine⟨k1+1,by omega,by omega,?_⟩
     rw[dh _ k1 rfl (by omega), ←J2]
     try rfl
    ·try simp only[bO]at Ft
     rw[Hg]at Ft
     rw[GH (by omega)]
     exact bp (aF X [6,7] rfl (aT X [6] rfl (by trivial) (az (aj rfl (by and_intros<;>first|exact⟨⟩| (rw[hc];done))))))
theorem Bs(x:ck)(h0:wB x):So 82 [.agg (b7 x)] [.agg (b7 (testW x))]:=by
 refine aC X call82 func82 ntmps82 rfl rfl ?_
 intro zb
 have hls:fU gy x.av≤1048576∧fU cX x.af≤1048576∧iL x.aJ≤1048576∧x.replaced.length≤4194304:=h0
 have J2:=aff h0
 refine aF X [1,2] rfl (aS X [(3,903)] [(12,⟨true,[.agg (b7 x)]⟩)] [1,2,3] [] rfl (by(with_reducible and_intros)<;>first|exact⟨⟩|exact(kg x h0)) (aS X [] [(15,⟨false,[aM (dK x.aJ)]⟩)] [1,2,3,4] [] rfl (by(with_reducible and_intros)<;>first|exact⟨⟩|exact(pL x.aJ)) (ah ?_)))
 have t1:=(nH x.aJ (dK x.aJ) J2)
 refine bH X [(20,80)] [(20,⟨true,dH t1⟩)] [1,2,3,4,5,6] [] rfl (by(with_reducible and_intros)<;>first|exact⟨⟩|exact t1) (ah (aS X [] [(24,⟨false,[bl (okW x)]⟩)] [1,2,3,4,5,29] [] rfl (by(with_reducible and_intros)<;>first|exact⟨⟩|exact(gC x)) ?_))
 refine aA rfl ?_ ?_<;>intro hb0
 ·have hk:xl x=false:=dG hb0 (by simp only[xl,bG]<;>first|rfl|ac_rfl)
  have hc:=Jc hk
  exact aT X [2] rfl (by trivial) (az (aj rfl (by and_intros<;>first|exact⟨⟩| (rw[hc];done))))
 ·have hk:xl x=true:=dF hb0 (by simp only[xl,bG]<;>first|rfl|ac_rfl)
  have hc:=zR hk
  have hkk:=hk
  rw[xl,Bool.and_eq_true]at hkk
  obtain⟨hok,hah⟩:=hkk
  have qT:=gw hok
  have VP:=(qN hok).1
  refine aE (ah (aF X [1,2,3,4,5,7] rfl ?_))
  refine aG (aW (fun k=>k≤x.av.length) (fun k:Nat=> [(7, .one ((aM k)))]) (fun k=> [(13, .arr .bZ (Du x k).1),(20, .arr .int (Du x k).2)]) (fun k=>x.av.length-k) 0 (fun k=>rfl) (aD _) rfl ?_)
  rintro k hk0
  have htb:=afe hok k hk0
  refine ah (aF X [1,2,3,4,5,7,35] rfl ?_)
  refine aA rfl ?_ ?_<;>intro cx
  ·try simp only[bO]at cx
   have hrl:=lP (kh x.seed [227,x.round,(k:Int)]) x.rows
   have hab:=afb (x.av.getD k (aP .bZ)) (kG x.bS (k:Int)) (dK x.aJ) (jW x.aJ.rounds (dK x.aJ)) (v:=(cO (kh x.seed [227,x.round,(k:Int)]) x.rows)) (by omega)
   have hsg:=TV hok hah (kh x.seed [227,x.round,(k:Int)])
   refine aE (ah (aG (aS X [] [(41,⟨false,[aM (kG x.bS (k:Int))]⟩)] [1,2,3,4,5,7,8] [] rfl (by(with_reducible and_intros)<;>first|exact⟨⟩|exact(mg x.bS (k:Int))) (ah ?_))))
   have t1:=(wZ (x.av.getD k (aP .bZ)) (kG x.bS (k:Int)) (dK x.aJ) (jW x.aJ.rounds (dK x.aJ)) (cO (kh x.seed [227,x.round,(k:Int)]) x.rows) (by omega))
   refine aX X [] [(57,⟨false,[aM (kh x.seed [227,x.round,(k:Int)])]⟩),(60,⟨true,[.a (.sl .int (cO (kh x.seed [227,x.round,(k:Int)]) x.rows))]⟩),(61,⟨true,dH t1⟩)] [1,2,3,4,5,7,8,9,10] [] 25165823 1 MO (by kernel_rfl) rfl (by kernel_rfl) (by(repeat' with_reducible first|exact bF|refine bJ ?_ ?_|apply aO);(iterate 3 all_goals try first|exact(cF x.seed [227,x.round,(k:Int)] (by first|assumption|omega| (simp;done)| (simp;omega)))|exact(ot (kh x.seed [227,x.round,(k:Int)]) x.rows)|exact t1);all_goals first| (intros;omega)|exact⟨rfl,bM _ (by decide)⟩) ?_
   refine ah ?_
   have t1:=(y8 (kG x.bS (k:Int)) (jW x.aJ.rounds (dK x.aJ)) (tsA x k) hab.1 hab.2)
   refine bH X [] [(69,⟨false,dH t1⟩)] [1,2,3,4,5,7,70] [] rfl (by(with_reducible and_intros)<;>first|exact⟨⟩|exact fun _=>t1) ?_
   refine aA rfl ?_ ?_<;>intro dY
   ·have hbt:WI x k=true:=by rw[hsg]at dY;exact dY
    have hst:=TM (x:=x) (n:=k) hbt
    have t1:=(uj (⟨x.rows,(Du x k).1,x.af,x.aJ,x.bS,x.seed,x.round,(Du x k).2,x.cancelled⟩:ck) x.round (k:Int) (by show(Du x k).1.length≤4;omega) VP htb.1 (by show(Du x k).2.length≤_;omega) rfl)
    refine bH X [] [(800072,⟨true,LU t1⟩),(700072,⟨true, .agg [.ptr 1000 903, .ptr 11 13, .ptr 12 14, .ptr 13 16, .ptr 14 20]:: .agg []::LV t1⟩)] [1,2,3,4,5,7] [] rfl (by(with_reducible and_intros)<;>first|exact⟨⟩|exact t1) (cW X [1,2,3,4,5,7] rfl ?_)
    refine⟨k+1,by omega,by omega,?_⟩
    rw[dh _ k rfl (by omega), ←hst]
    try rfl
   ·have hbt:WI x k=false:=by rw[hsg]at dY;exact dY
    have hst:=Pg (x:=x) (n:=k) hbt
    refine aE (cW X [1,2,3,4,5,7] rfl ?_)
    refine⟨k+1,by omega,by omega,?_⟩
    rw[dh _ k rfl (by omega),hst]
    try rfl
  ·try simp only[bO]at cx
   exact bp (aT X [2] rfl (by trivial) (az (aj rfl (by and_intros<;>first|exact⟨⟩| (rw[hc];done)| (rw[hc,show k=x.av.length by omega];done)))))
end
section
set_option maxRecDepth 100000
theorem Gc(x:ck)(hR:wR x):So 32 [.agg (b7 x)] [.agg (b7 (dc x))]:=by
 refine aC X call32 func32 ntmps32 rfl rfl ?_
 intro zb
 obtain⟨h0,VU⟩:=hR
 have qT:=FB h0
 refine aF X [1,2] rfl (ah (aS X [] [(9,⟨false,[bl (okW x)]⟩)] [1,2,15] [] rfl (by(with_reducible and_intros)<;>first|exact⟨⟩|exact(fj x)) ?_))
 refine aA rfl ?_ ?_<;>intro hb0
 ·have hk:nL x=false:=dG hb0 (by simp only[nL,bG]<;>first|rfl|ac_rfl)
  have hc:=K1 hk
  exact aS X [] [(17,⟨true,[.agg (b7 x)]⟩)] [2] [] rfl (by(with_reducible and_intros)<;>first|exact⟨⟩|exact(je x h0)) (az (aj rfl (by and_intros<;>first|exact⟨⟩| (rw[hc];done))))
 ·have hk:nL x=true:=dF hb0 (by simp only[nL,bG]<;>first|rfl|ac_rfl)
  have hc:=tq hk
  obtain⟨hok,hr9⟩:=MM hk
  have xA:=ir hok
  have hcs:=IY hok
  have hs4:=gw hok
  have hpd:=uf (cg x)
  have hjz:=gz (KY _ hpd)
  have hgl:=th x.bS (cg x) (dA (cg x)) (jA x) (cg x).length
  have sr:(dA (cg x)).length=(cg x).length:=bg ..
  obtain⟨hB1,hB2⟩:=TW h0 hok VU
  refine aE (aS X [] [(20,⟨true,[.a (.sl .bZ (cg x)), .a (.sl .gK (jA x))]⟩)] [1,2,3,4] [] rfl (by(with_reducible and_intros)<;>first|exact⟨⟩|exact(yT x h0)) (aS X [] [(24,⟨true,[.a (.sl .DB (dA (cg x)))]⟩)] [1,2,3,4,5] [] rfl (by(with_reducible and_intros)<;>first|exact⟨⟩|exact(C0 (cg x) (by omega))) (ah ?_)))
  have t1:=(yZ (dA (cg x)) (by omega) hpd)
  refine bH X [] [(27,⟨true,dH t1⟩)] [1,2,3,4,5,6] [] rfl (by(with_reducible and_intros)<;>first|exact⟨⟩|exact t1) (ah ?_)
  have t1:=(C8 x (mh x.bS (cg x) (dA (cg x)) (jA x) (cg x).length) (jw (dA (cg x))) h0 (by omega) hjz)
  have t2:=(Br (dJ x (mh x.bS (cg x) (dA (cg x)) (jA x) (cg x).length) (jw (dA (cg x)))) hB1)
  have t3:=(EJ (testW (dJ x (mh x.bS (cg x) (dA (cg x)) (jA x) (cg x).length) (jw (dA (cg x))))) hB2)
  exact aX X [(38,60),(39,100),(40,150)] [(36,⟨true,[.a (.sl .int (mh x.bS (cg x) (dA (cg x)) (jA x) (cg x).length))]⟩),(38,⟨true,dH t1⟩),(39,⟨true,dH t2⟩),(40,⟨true,dH t3⟩)] [2] [] 2047 0 MO (by kernel_rfl) rfl (by kernel_rfl) (by(with_reducible and_intros);(iterate 4 all_goals try first|exact⟨⟩|exact(CZ x.bS (cg x) (dA (cg x)) (jA x) (by omega) hcs (TG _))|exact t1|exact t2|exact t3)) (az (aj rfl (by and_intros<;>first|exact⟨⟩| (rw[hc];done))))
theorem Gd(x:ck)(hR:wR x)(hok:okW x=true):So 38 [.agg (b7 x)] [.agg (b7 (Dt (testW (dJ x (mh x.bS (cg x) (dA (cg x)) (jA x) (cg x).length) (jw (dA (cg x)))))))]:=by
 refine aC X call38 func38 ntmps38 rfl rfl ?_
 intro zb
 obtain⟨h0,VU⟩:=hR
 have qT:=FB h0
 have xA:=ir hok
 have hcs:=IY hok
 have hs4:=gw hok
 have hpd:=uf (cg x)
 have hjz:=gz (KY _ hpd)
 have hgl:=th x.bS (cg x) (dA (cg x)) (jA x) (cg x).length
 have sr:(dA (cg x)).length=(cg x).length:=bg ..
 obtain⟨hB1,hB2⟩:=TW h0 hok VU
 refine aF X [1,2] rfl (aS X [] [(10,⟨true,[.a (.sl .bZ (cg x)), .a (.sl .gK (jA x))]⟩)] [1,2,3,4] [] rfl (by(with_reducible and_intros)<;>first|exact⟨⟩|exact(yU x h0)) (aS X [] [(14,⟨true,[.a (.sl .DB (dA (cg x)))]⟩)] [1,2,3,4,5] [] rfl (by(with_reducible and_intros)<;>first|exact⟨⟩|exact(C2 (cg x) (by omega))) (ah ?_)))
 have t1:=(za (dA (cg x)) (by omega) hpd)
 refine bH X [] [(17,⟨true,dH t1⟩)] [1,2,3,4,5,6] [] rfl (by(with_reducible and_intros)<;>first|exact⟨⟩|exact t1) (ah ?_)
 have t1:=(C9 x (mh x.bS (cg x) (dA (cg x)) (jA x) (cg x).length) (jw (dA (cg x))) h0 (by omega) hjz)
 have t2:=(Bs (dJ x (mh x.bS (cg x) (dA (cg x)) (jA x) (cg x).length) (jw (dA (cg x)))) hB1)
 have t3:=(EL (testW (dJ x (mh x.bS (cg x) (dA (cg x)) (jA x) (cg x).length) (jw (dA (cg x))))) hB2)
 exact aX X [(28,60),(29,100),(30,150)] [(26,⟨true,[.a (.sl .int (mh x.bS (cg x) (dA (cg x)) (jA x) (cg x).length))]⟩),(28,⟨true,dH t1⟩),(29,⟨true,dH t2⟩),(30,⟨true,dH t3⟩)] [2] [] 2047 0 MO (by kernel_rfl) rfl (by kernel_rfl) (by(with_reducible and_intros);(iterate 4 all_goals try first|exact⟨⟩|exact(C1 x.bS (cg x) (dA (cg x)) (jA x) (by omega) hcs (TG _))|exact t1|exact t2|exact t3)) (az (aj rfl ⟨rfl,rfl,rfl,rfl,rfl,rfl,rfl,rfl,rfl,rfl,⟨⟩⟩))
theorem qP(x:ck)(hR:wR x):So 13 [.agg (b7 x)] [.agg (b7 (dc x))]:=by
 refine aC X call13 func13 ntmps13 rfl rfl ?_
 intro zb
 have h0:=hR.1
 refine aF X [1,2] rfl (ah (aS X [] [(4,⟨false,[bl (okW x)]⟩)] [1,2,10] [] rfl (by(with_reducible and_intros)<;>first|exact⟨⟩|exact(gC x)) ?_))
 refine aA rfl ?_ ?_<;>intro hb0
 ·have hk:nL x=false:=dG hb0 (by simp only[nL,bG]<;>first|rfl|ac_rfl)
  have hc:=K1 hk
  exact aS X [] [(12,⟨true,[.agg (b7 x)]⟩)] [2] [] rfl (by(with_reducible and_intros)<;>first|exact⟨⟩|exact(kg x h0)) (az (aj rfl (by and_intros<;>first|exact⟨⟩| (rw[hc];done))))
 ·have hk:nL x=true:=dF hb0 (by simp only[nL,bG]<;>first|rfl|ac_rfl)
  have hc:=tq hk
  obtain⟨hok,hr9⟩:=MM hk
  refine aE (ah ?_)
  have t1:=(Gd x hR hok)
  exact bH X [] [(14,⟨true,dH t1⟩)] [2] [] rfl (by(with_reducible and_intros)<;>first|exact⟨⟩|exact t1) (az (aj rfl (by and_intros<;>first|exact⟨⟩| (rw[hc];done))))
end
section
set_option maxRecDepth 100000
theorem wD(c:gQ):So 37 [.agg (dw c)] [aM (waiting c)]:=by
 refine aC X call37 func37 ntmps37 rfl rfl ?_
 intro zb
 exact aF X [1] rfl (aF X [2] rfl (az (aj rfl ⟨rfl,⟨⟩⟩)))
theorem oL(x:ck):So 33 [.agg (b7 x)] [aM (Bt x.af x.af.length)]:=by
 refine aC X call33 func33 ntmps33 rfl rfl ?_
 intro zb
 refine dn 0 2 rfl rfl (fun ru=>(aF X [1] rfl (aF X [1,3] rfl (ah (aF X [3,7,8,9] rfl ?_)))))
 refine aG (aW (fun k=>k≤x.af.length) (fun k:Nat=> [(3, .one ((aM (Bt x.af k)))),(9, .one ((aM k)))]) (fun k=> []) (fun k=>x.af.length-k) 0 (fun k=>rfl) (aD _) rfl ?_)
 intro k hk
 refine aF X [3,7,8,9,10] rfl ?_
 refine ah (aA rfl ?_ ?_)<;>intro hb0
 ·try simp only[bO]at hb0
  refine aE (ah (aG (aT X [3,5,7,8,9] rfl (by and_intros<;>first|exact⟨⟩| (intros;omega)) (bH X [] [(16,⟨false,[aM (waiting ((x.af.getD k (aP .cz)).live))]⟩)] [3,7,8,9] [] rfl (by(with_reducible and_intros)<;>first|exact⟨⟩|exact(wD ((x.af.getD k (aP .cz)).live))) (cW X [3,7,8,9] rfl ?_)))))
  refine⟨k+1,by omega,by omega,?_⟩
  rw[dh _ k rfl (by omega)]
  try rfl
 ·try simp only[bO]at hb0
  exact bp (aF X [2] rfl (az (aj rfl ⟨by rw[show k=x.af.length by omega],⟨⟩⟩)))
theorem oW(x:ck)(hd:x.af.length≤1048576):So 34 [.agg (b7 x)] [aM (Nk x.af x.af.length)]:=by
 refine aC X call34 func34 ntmps34 rfl rfl ?_
 intro zb
 refine dn 0 2 rfl rfl (fun ru=>(aF X [1] rfl (aF X [1,3] rfl (ah (aF X [1,3,7,8,9] rfl ?_)))))
 refine aG (aW (fun k=>k≤x.af.length) (fun k:Nat=> [(3, .one ((aM (Nk x.af k)))),(9, .one ((aM k)))]) (fun k=> []) (fun k=>x.af.length-k) 0 (fun k=>rfl) (aD _) rfl ?_)
 intro k hk
 refine aF X [1,3,7,8,9,10] rfl ?_
 refine ah (aA rfl ?_ ?_)<;>intro hb0
 ·try simp only[bO]at hb0
  refine aE (ah (aG (aT X [1,3,4,5,7,8,9] rfl (by and_intros<;>first|exact⟨⟩| (intros;omega)) (aS X [] [(16,⟨false,[bl (A5 x (k:Int))]⟩)] [1,3,4,5,7,8,9,16] [] rfl (by(with_reducible and_intros)<;>first|exact⟨⟩|exact(Ik x (k:Int) (by first|assumption|omega| (simp;done)| (simp;omega)))) ?_))))
  refine aA rfl ?_ ?_<;>intro cx
  ·rw[Jd hb0,decide_eq_true_eq]at cx
   have hx:(aq.wrap (aV aq.bits (k:Int)^^^aV aq.bits 1).toNat)=((k^^^1:Nat):Int):=YT k (by omega)
   have hx0:0≤(aq.wrap (aV aq.bits (k:Int)^^^aV aq.bits 1).toNat)∧(aq.wrap (aV aq.bits (k:Int)^^^aV aq.bits 1).toNat)<(x.af.length:Int):=by rw[hx];omega
   refine aX X [] [] [1,3,7,8,9] [] 131071 0 MO (by kernel_rfl) rfl (by kernel_rfl) (by and_intros<;>first|exact⟨⟩| (intros;omega)) (cW X [1,3,7,8,9] rfl ?_)
   refine⟨k+1,by omega,by omega,?_⟩
   rw[dh _ k rfl (by omega),MP cx,hx,ZT]
   try rfl
  ·rw[Jd hb0,decide_eq_false_iff_not]at cx
   refine aE (cW X [1,3,7,8,9] rfl ?_)
   refine⟨k+1,by omega,by omega,?_⟩
   rw[dh _ k rfl (by omega),Pu cx]
   try rfl
 ·try simp only[bO]at hb0
  exact bp (aF X [2] rfl (az (aj rfl ⟨by rw[show k=x.af.length by omega],⟨⟩⟩)))
theorem tu(x:ck)(hd:x.af.length≤1048576):So 10 [.agg (b7 x)] [bl (zc x)]:=by
 refine aC X call10 func10 ntmps10 rfl rfl ?_
 intro zb
 exact aF X [1] rfl (aS X [] [(4,⟨false,[aM (Bt x.af x.af.length)]⟩),(8,⟨false,[aM (Nk x.af x.af.length)]⟩)] [2] [] rfl (by(with_reducible and_intros);(iterate 2 all_goals try first|exact⟨⟩|exact(oL x)|exact fun _=>(oW x hd))) (az (aj rfl ⟨(congrArg Value.bool (by simp only[zc,bG]<;>first|rfl|ac_rfl)),⟨⟩⟩)))
theorem An(x:ck)(hd:x.af.length≤1048576):So 41 [.agg (b7 x)] [aM (wA x)]:=by
 refine aC X call41 func41 ntmps41 rfl rfl ?_
 intro zb
 exact aF X [1] rfl (ah (aX X [] [(4,⟨false,[aM (Bt x.af x.af.length)]⟩),(6,⟨false,[aM (Nk x.af x.af.length)]⟩)] [2] [] 511 0 MO (by kernel_rfl) rfl (by kernel_rfl) (by(with_reducible and_intros);(iterate 2 all_goals try first|exact⟨⟩|exact(oL x)|exact(oW x hd))) (az (aj rfl ⟨rfl,⟨⟩⟩))))
theorem mj(x:ck)(c:Int)(hC:wC x 4100000):So 15 [.agg (b7 x),aM c] [.agg (b7 (jX x (Ge c)))]:=by
 refine aC X call15 func15 ntmps15 rfl rfl ?_
 intro zb
 have h0:wB x:=Pj hC (by decide)
 refine aF X [1,2,4] rfl (aS X [] [(7,⟨true,[.agg (b7 x)]⟩)] [1,4,5] [] rfl (by(with_reducible and_intros)<;>first|exact⟨⟩|exact(je x h0)) (ah (aS X [] [(9,⟨false,[bl (inr c 0 400)]⟩)] [1,4,5,9] [] rfl (by(with_reducible and_intros)<;>first|exact⟨⟩|exact(bB c 0 400)) ?_)))
 refine aA rfl ?_ ?_<;>intro hb0
 ·try simp only[bO]at hb0
  have hin:=ahC hb0
  have hrn:=ZU c
  refine aF X [4,5,10,11] rfl ?_
  refine aG (aW (fun k=>k≤Ge c) (fun k:Nat=> [(11, .one ((aM k)))]) (fun k=> [(8, .arr .bZ (jX x k).av),(9, .arr .cz (jX x k).af),(11, .arr .bz (jX x k).aJ.rounds),(15, .arr .int (jX x k).replaced),(5, .box [gT (jX x k).rows, .own 8, .own 9,gT (jX x k).aJ.rows, .own 11,gT (jX x k).bS,gT (jX x k).seed,gT (jX x k).round, .own 15,gT (jX x k).cancelled])]) (fun k=>Ge c-k) 0 (fun k=>rfl) (aD _) rfl ?_)
  intro k hk
  have hrb:=ahD hC (k:=k) (by omega)
  refine aF X [4,5,10,11,12] rfl ?_
  refine ah (aA rfl ?_ ?_)<;>intro cx
  ·try simp only[bO]at cx
   refine aE (ah (aG (bH X [(14,150)] [(14,⟨true,[.agg (b7 (dc (jX x k)))]⟩)] [4,5,10,11] [] rfl (by(with_reducible and_intros)<;>first|exact⟨⟩|exact(Gc (jX x k) hrb.1)) (GD 151 8 rfl (GD 152 9 rfl (GD 154 11 rfl (GD 158 15 rfl (cW X [4,5,10,11] rfl ?_))))))))
   refine⟨k+1,by omega,by omega,?_⟩
   rw[dh _ k rfl (by omega)]
   try rfl
  ·try simp only[bO]at cx
   have hkk:Ge c=k:=by omega
   exact bp (aT X [4] rfl (by trivial) (az (aj rfl (by and_intros<;>first|exact⟨⟩| (rw[hkk];done)))))
 ·try simp only[bO]at hb0
  have hkk:=adq hb0
  exact aE (aT X [4] rfl (by trivial) (az (aj rfl (by and_intros<;>first|exact⟨⟩| (rw[hkk];rfl;done)))))
theorem uE(x:ck)(hC:wC x 4100000):So 19 [.agg (b7 x)] [.agg (b7 (jX x (Ge (wA x))))]:=by
 refine aC X call19 func19 ntmps19 rfl rfl ?_
 intro zb
 have h0:wB x:=Pj hC (by decide)
 have hd:=OW h0
 exact aF X [1,2] rfl (ah (aX X [] [(5,⟨false,[aM (wA x)]⟩),(6,⟨true,[.agg (b7 (jX x (Ge (wA x))))]⟩)] [2] [] 15 0 MO (by kernel_rfl) rfl (by kernel_rfl) (by(with_reducible and_intros);(iterate 2 all_goals try first|exact⟨⟩|exact(An x hd)|exact(mj x (wA x) hC))) (az (aj rfl ⟨rfl,rfl,rfl,rfl,rfl,rfl,rfl,rfl,rfl,rfl,⟨⟩⟩))))
end
section
set_option maxRecDepth 100000
theorem ze(x:ck)(i b:Int)(h0:wB x):So 14 [.agg (b7 x),aM i,aM b] [.agg (b7 (Bz x i b)),bl (CQ x i b)]:=by
 refine aC X call14 func14 ntmps14 rfl rfl ?_
 intro zb
 refine dn 0 1 rfl rfl (fun hl1=> ?_)
 refine dn 0 2 rfl rfl (fun ru=> ?_)
 have VT:=OW h0
 have qT:=FB h0
 refine aF X [1,2,3,6] rfl (aS X [] [(10,⟨true,[.agg (b7 x)]⟩)] [1,2,3,6,8] [] rfl (by(with_reducible and_intros)<;>first|exact⟨⟩|exact(je x h0)) (ah (ah ?_)))
 have t1:=(bB i 0 (aq.wrap ((x.av.length:Int)-1)))
 refine bH X [] [(12,⟨false,[bl (okW x)]⟩),(20,⟨false,dH t1⟩),(25,⟨false,[bl (inr b 0 3)]⟩)] [1,2,6,8,27] [] rfl (by(with_reducible and_intros);(iterate 3 all_goals try first|exact⟨⟩|exact(fj x)|exact fun _=>t1|exact fun _=>(bB b 0 3))) ?_
 refine aA rfl ?_ ?_<;>intro hb0
 ·have hk:CQ x i b=false:=dG hb0 (by simp only[CQ,bG]<;>first|rfl|ac_rfl)
  have hq:=ahG hk
  exact aT X [6,7] rfl (by trivial) (az (aj rfl (by and_intros<;>first|exact⟨⟩| (rw[hq];done)| (rw[hk];done))))
 ·have hk:CQ x i b=true:=dF hb0 (by simp only[CQ,bG]<;>first|rfl|ac_rfl)
  have hcb:=ZI hk
  have hq:=adu hk
  exact aE (aT X [6,8] rfl (by and_intros<;>first|exact⟨⟩| (intros;omega)) (aT X [6,7] rfl (by trivial) (az (aj rfl (by and_intros<;>first|exact⟨⟩| (rw[hq];rfl;done)| (rw[hk];done))))))
theorem qZ(c:gQ)(b:List UInt8)(h0:fU aQ c.bu≤1048576∧fU aQ c.inbox≤1048576)(hb:b.length≤1048576):So 55 [.agg (dw c), .a (.sl .u8 b)] [.agg (dw (oJ c b)),bl (yR c b)]:=by
 refine aC X call55 func55 ntmps55 rfl rfl ?_
 intro zb
 have Cd:=gr h0.1
 refine aF X [1,2,4] rfl (aS X [] [(8,⟨true,[.agg (dw c)]⟩)] [1,2,4,6] [] rfl (by(with_reducible and_intros)<;>first|exact⟨⟩|exact(jm c h0)) (ah (aX X [(13,11),(13,40)] [(500014,⟨true,[]⟩)] [2,4,6] [] 175 2 MO (by kernel_rfl) rfl (by kernel_rfl) (by and_intros<;>first|exact⟨⟩|exact rfl| (simp only[gb,maxLen,lens];omega)) (ah (aS X [] [(18,⟨false,[bl (fP c)]⟩),(22,⟨false,[bl (fP (EE c b))]⟩)] [2,4,6,24] [] rfl (by(with_reducible and_intros);(iterate 2 all_goals try first|exact⟨⟩|exact(gq c)|exact fun _=>(gq (EE c b)))) ?_)))))
 refine aA rfl ?_ ?_<;>intro hb0
 ·have hk:yR c b=false:=dG hb0 (by simp only[yR,bG]<;>first|rfl|ac_rfl)
  have hq:=adr hk
  exact aS X [] [(26,⟨true,[.agg (dw c)]⟩)] [4,5] [] rfl (by(with_reducible and_intros)<;>first|exact⟨⟩|exact(jm c h0)) (az (aj rfl (by and_intros<;>first|exact⟨⟩| (rw[hq];done)| (rw[hk];done))))
 ·have hk:yR c b=true:=dF hb0 (by simp only[yR,bG]<;>first|rfl|ac_rfl)
  have hq:=Je hk
  exact aE (aT X [4,5] rfl (by trivial) (az (aj rfl (by and_intros<;>first|exact⟨⟩| (rw[hq];rfl;done)| (rw[hk];done)))))
theorem xy(d:cz)(b:List UInt8)(h0:cX d≤1048576)(hb:b.length≤1048576):So 31 [.agg (ew d), .a (.sl .u8 b)] [.agg (ew (EG d b)),bl (EF d b)]:=by
 refine aC X call31 func31 ntmps31 rfl rfl ?_
 intro zb
 have AQ:eO d.live≤1048576∧eO d.saved≤1048576:=by unfold cX at h0;omega
 unfold eO at AQ
 refine aF X [1,2,4] rfl (aS X [] [(14,⟨true,[.agg (dw (oJ d.live b)),bl (yR d.live b)]⟩)] [1,2,4,6,7] [] rfl (by(with_reducible and_intros)<;>first|exact⟨⟩|exact(qZ d.live b ⟨by omega,by omega⟩ hb)) (aS X [] [(21,⟨true,[.agg (dw (oJ d.saved b)),bl (yR d.saved b)]⟩)] [2,4,6,7,8,9] [] rfl (by(with_reducible and_intros)<;>first|exact⟨⟩|exact(qZ d.saved b ⟨by omega,by omega⟩ hb)) (ah (aS X [] [(25,⟨false,[bl (fX d)]⟩)] [2,4,6,8,34] [] rfl (by(with_reducible and_intros)<;>first|exact⟨⟩|exact(ig d)) ?_))))
 refine aA rfl ?_ ?_<;>intro hb0
 ·have hk:EF d b=false:=dG hb0 (by simp only[EF,bG]<;>first|rfl|ac_rfl)
  have hq:=ads hk
  exact aS X [] [(36,⟨true,[.agg (ew d)]⟩)] [4,5] [] rfl (by(with_reducible and_intros)<;>first|exact⟨⟩|exact(oF d h0)) (az (aj rfl (by and_intros<;>first|exact⟨⟩| (rw[hq];done)| (rw[hk];done))))
 ·have hk:EF d b=true:=dF hb0 (by simp only[EF,bG]<;>first|rfl|ac_rfl)
  have hq:=ZV hk
  exact aE (aT X [4,5] rfl (by trivial) (az (aj rfl (by and_intros<;>first|exact⟨⟩| (rw[hq];done)| (rw[hk];done)))))
theorem zf(x:ck)(c:Int)(b:List UInt8)(h0:wB x)(hb:b.length≤1048576):So 8 [.agg (b7 x),aM c, .a (.sl .u8 b)] [.agg (b7 (w6 x c b)),bl (MK x c b)]:=by
 refine aC X call8 func8 ntmps8 rfl rfl ?_
 intro zb
 refine dn 0 1 rfl rfl (fun hl1=> ?_)
 refine dn 0 2 rfl rfl (fun ru=> ?_)
 have VT:=OW h0
 have qT:=FB h0
 have hw:aq.wrap ((x.af.length:Int)-1)=(x.af.length:Int)-1:=cV (by omega)
 refine aF X [1,2,3,6] rfl (aS X [] [(12,⟨true,[.agg (b7 x)]⟩)] [1,2,3,6,8] [] rfl (by(with_reducible and_intros)<;>first|exact⟨⟩|exact(kg x h0)) (ah (ah ?_)))
 have t1:=(bY c 0 (aq.wrap ((x.af.length:Int)-1)))
 refine bH X [] [(14,⟨false,[bl (okW x)]⟩),(22,⟨false,dH t1⟩)] [1,2,3,6,8,24] [] rfl (by(with_reducible and_intros);(iterate 2 all_goals try first|exact⟨⟩|exact(gC x)|exact fun _=>t1)) ?_
 refine aA rfl ?_ ?_<;>intro hb0
 ·have hk:qY x c=false:=dG hb0 (by simp only[qY,rF,hw,bG]<;>first|rfl|ac_rfl)
  have hq:=ahF (b:=b) hk
  exact aT X [6,7] rfl (by trivial) (az (aj rfl (by and_intros<;>first|exact⟨⟩| (rw[hq.1];done)| (rw[hq.2];done))))
 ·have hk:qY x c=true:=dF hb0 (by simp only[qY,rF,hw,bG]<;>first|rfl|ac_rfl)
  obtain⟨hok,hc0,AQ⟩:=ML hk
  have hdz:=ahE hk
  have hq:=adt (b:=b) hk
  refine aE (ah ?_)
  have t1:=(xy (x.af.getD c.toNat (aP .cz)) b hdz hb)
  exact bH X [] [(33,⟨true,dH t1⟩)] [1,6,8,9,10] [] rfl (by(with_reducible and_intros)<;>first|exact⟨⟩|exact t1| (intros;omega)) (aT X [6,8,10] rfl (by and_intros<;>first|exact⟨⟩| (intros;omega)) (aT X [6,7] rfl (by trivial) (az (aj rfl (by and_intros<;>first|exact⟨⟩| (rw[hq.1];rfl;done)| (rw[hq.2];rfl;done))))))
end
section
set_option maxRecDepth 100000
theorem Df(r:Int)(h:1≤r∧r≤64):So 23 [aM r] [.agg (gu (⟨r,[]⟩:mE))]:=by
 refine aC X call23 func23 ntmps23 rfl rfl ?_
 intro zb
 refine aF X [0,2] rfl (ah (aS X [] [(4,⟨false,[bl (inr r 1 64)]⟩)] [0,2,5] [] rfl (by(with_reducible and_intros)<;>first|exact⟨⟩|exact(bY r 1 64)) ?_))
 refine aA rfl ?_ ?_<;>intro hb0
 ·try simp only[bO]at hb0
  omega
 ·try simp only[bO]at hb0
  exact aE (aT X [2] rfl (by trivial) (az (aj rfl ⟨rfl,rfl,⟨⟩⟩)))
theorem EV(i f k s:Int)(h1:0≤i∧i≤7)(h2:0≤f∧f≤7)(h3:i≠f)(h4:1≤k∧k≤2147483646):So 28 [aM i,aM f,aM k,aM s] [.agg (dw (⟨i,f,k,s,[],0,[],0⟩:gQ))]:=by
 refine aC X call28 func28 ntmps28 rfl rfl ?_
 intro zb
 refine aF X [0,1,2,3,8] rfl (ah (aS X [] [(12,⟨false,[bl (inr i 0 7&&inr f 0 7&& !(i==f)&&iT k)]⟩)] [0,1,2,3,8,13] [] rfl (by(with_reducible and_intros)<;>first|exact⟨⟩|exact(Cm i f k)) ?_))
 refine aA rfl ?_ ?_<;>intro hb0
 ·try simp only[bO]at hb0
  have hq:iT k=true:=by unfold iT;rw[dD];exact h4
  rw[hq]at hb0
  simp at hb0
  omega
 ·exact aE (aT X [8] rfl (by trivial) (az (aj rfl ⟨rfl,rfl,rfl,rfl,rfl,rfl,rfl,rfl,⟨⟩⟩)))
theorem qQ(rows s p seed:Int)(hr:1≤rows∧rows≤64)(hs:2≤s∧s≤4)(hp:1≤p∧p≤4):So 6 [aM rows,aM s,aM p,aM seed] [.agg (b7 (jC rows s.toNat p.toNat seed))]:=by
 refine aC X call6 func6 ntmps6 rfl rfl ?_
 intro zb
 refine aF X [0,1,2,3,8] rfl (ah (aS X [] [(14,⟨false,[bl (inr rows 1 64)]⟩),(18,⟨false,[bl (eA s)]⟩),(23,⟨false,[bl (inr p 1 4)]⟩)] [0,1,2,3,8,25] [] rfl (by(with_reducible and_intros);(iterate 3 all_goals try first|exact⟨⟩|exact(bY rows 1 64)|exact fun _=>(ke s)|exact fun _=>(bY p 1 4))) ?_))
 refine aA rfl ?_ ?_<;>intro hb0
 ·try simp only[bO]at hb0
  simp[eA,inr]at hb0
  omega
 ·refine aE (ah ?_)
  have t1:=(sJ 1 (kh seed [197]))
  refine bH X [(29,63)] [(29,⟨true,[.agg (gu (⟨rows,[]⟩:mE))]⟩),(32,⟨false,[aM (kh seed [197])]⟩),(33,⟨false,dH t1⟩)] [0,1,2,3,8,9] [] rfl (by(repeat' with_reducible first|exact bF|refine bJ ?_ ?_|apply aO);(iterate 3 all_goals try first|exact(Df rows (by first|assumption|omega| (simp;done)| (simp;omega)))|exact(cF seed [197] (by first|assumption|omega| (simp;done)| (simp;omega)))|exact t1);all_goals first|exact⟨rfl,bM _ (by decide)⟩) ?_
  rw[Gt (gm _ _).1]
  refine l6 9 1 61 .bZ rfl (l6 9 2 62 .cz rfl (ah (aF X [0,1,2,3,8,9,10] rfl ?_)))
  refine aG (aW (fun k=>k≤s.toNat) (fun k:Nat=> [(10, .one ((aM k)))]) (fun k=> [(61, .arr .bZ (Dc rows k))]) (fun k=>s.toNat-k) 0 (fun k=>rfl) (aD _) rfl ?_)
  intro k hk
  have hle:=GI rows k
  refine ah (aF X [0,1,2,3,8,9,10,38] rfl ?_)
  refine aA rfl ?_ ?_<;>intro cx
  ·try simp only[bO]at cx
   have Qa:=I9 (id:=(k:Int)) (rows:=rows) (by omega) hr
   refine aE (ah (aG (aX X [(47,61)] [(45,⟨true,[.agg (dB (newS (k:Int) rows 0))]⟩),(500046,⟨true,[]⟩)] [0,1,2,3,8,9,10] [] 63 0 MO (by kernel_rfl) rfl (by kernel_rfl) (by(repeat' with_reducible first|exact bF|refine bJ ?_ ?_|apply aO)<;>first|exact(vu (k:Int) rows 0)|exact rfl|exact⟨rfl,bM _ (by decide)⟩| (simp only[gb,maxLen,lens];omega)) ?_)))
   rw[Qa]
   refine cW X [0,1,2,3,8,9,10] rfl ?_
   refine⟨k+1,by omega,by omega,?_⟩
   rw[dh _ k rfl (by omega),Z8]
   try rfl
  ·try simp only[bO]at cx
   have hks:s.toNat=k:=by omega
   refine bp (ah (aF X [2,3,8,9,11] rfl ?_))
   refine aG (aW (fun k1=>k1≤(2*p.toNat)) (fun k1:Nat=> [(11, .one ((aM k1)))]) (fun k1=> [(62, .arr .cz (zg seed k1))]) (fun k1=>(2*p.toNat)-k1) 0 (fun k1=>rfl) (aD _) rfl ?_)
   intro k1 hk1
   have acW:=MV seed k1
   have hp2:aq.wrap (2*p)=2*p:=cV (by omega)
   refine ah (aF X [2,3,8,9,11,52] rfl ?_)
   refine aA rfl ?_ ?_<;>intro dY
   ·try simp only[bO]at dY
    rw[hp2]at dY
    have hkr:=zG (gm seed [199,(k1:Int).tdiv 2])
    have hx:(aq.wrap (aV aq.bits (k1:Int)^^^aV aq.bits 1).toNat)=((k1^^^1:Nat):Int):=YT k1 (by omega)
    have hxl:=yt k1 8 (by omega) (by decide)
    have hxn:=T0 k1
    have hxm:=Gt (gm seed [199,(k1:Int).tdiv 2]).1
    have hw2:aq.wrap ((k1:Int).tdiv 2)=(k1:Int).tdiv 2:=by rw[Ci (by omega)];exact cV (by omega)
    refine aE (ah (aG (ah ?_)))
    have t1:=(cF seed [199,aq.wrap ((k1:Int).tdiv 2)] (by first|assumption|omega| (simp;done)| (simp;omega)))
    have t2:=(sJ 1 (kh seed [199,aq.wrap ((k1:Int).tdiv 2)]))
    refine bH X [] [(59,⟨false,dH t1⟩),(60,⟨false,dH t2⟩)] [2,3,8,9,11,12] [] rfl (by(repeat' with_reducible first|exact bF|refine bJ ?_ ?_|apply aO);(iterate 2 all_goals try first|exact t1|exact t2);all_goals first| (intros;omega)|exact⟨rfl,bM _ (by decide)⟩) ?_
    rw[hw2,hxm]
    have t1:=(EV (k1:Int) (aq.wrap (aV aq.bits (k1:Int)^^^aV aq.bits 1).toNat) (Fl (kh seed [199,(k1:Int).tdiv 2])) (kh seed [211,(k1:Int)]) (by omega) (by rw[hx];omega) (by rw[hx];omega) (by omega))
    refine aX X [(74,62)] [(70,⟨false,[aM (kh seed [211,(k1:Int)])]⟩),(71,⟨false,dH t1⟩),(72,⟨true,[.agg (ew (⟨(⟨(k1:Int),(aq.wrap (aV aq.bits (k1:Int)^^^aV aq.bits 1).toNat),(Fl (kh seed [199,(k1:Int).tdiv 2])),(kh seed [211,(k1:Int)]),[],0,[],0⟩:gQ),(⟨(k1:Int),(aq.wrap (aV aq.bits (k1:Int)^^^aV aq.bits 1).toNat),(Fl (kh seed [199,(k1:Int).tdiv 2])),(kh seed [211,(k1:Int)]),[],0,[],0⟩:gQ)⟩:cz))]⟩)] [2,3,8,9,11] [] 20479 2 MO (by kernel_rfl) rfl (by kernel_rfl) (by(repeat' with_reducible first|exact bF|refine bJ ?_ ?_|apply aO);(iterate 3 all_goals try first|exact(cF seed [211,(k1:Int)] (by first|assumption|omega| (simp;done)| (simp;omega)))|exact t1|exact(vp (⟨(k1:Int),(aq.wrap (aV aq.bits (k1:Int)^^^aV aq.bits 1).toNat),(Fl (kh seed [199,(k1:Int).tdiv 2])),(kh seed [211,(k1:Int)]),[],0,[],0⟩:gQ) ⟨aD _,aD _⟩));all_goals first|exact rfl|exact⟨rfl,bM _ (by decide)⟩| (simp only[gb,maxLen,lens];omega)) ?_
    rw[hx]
    refine cW X [2,3,8,9,11] rfl ?_
    refine⟨k1+1,by omega,by omega,?_⟩
    rw[dh _ k1 rfl (by omega),Z9]
    try rfl
   ·try simp only[bO]at dY
    rw[hp2]at dY
    have RD:2*p.toNat=k1:=by omega
    exact bp (aT X [8] rfl (by trivial) (az (aj rfl ⟨rfl,by rw[hks];rfl,by rw[←RD];rfl,rfl,rfl,rfl,rfl,rfl,rfl,rfl,⟨⟩⟩)))
theorem aah(l:List UInt8):So 5 [.a (.sl .u8 l)] [bl (decide ((1048576:Int)<(l.length:Int)))]:=by
 refine aC X call5 func5 ntmps5 rfl rfl ?_
 intro zb
 exact aF X [0] rfl (aF X [2] rfl (az (aj rfl ⟨rfl,⟨⟩⟩)))
theorem xz(l:List UInt8)(i:Int)(hi:0≤i∧i≤1000):So 7 [.a (.sl .u8 l),aM i] [aM (BA l i)]:=by
 refine aC X call7 func7 ntmps7 rfl rfl ?_
 intro zb
 refine aF X [0,1] rfl (ah (aF X [0,1,8] rfl ?_))
 refine aA rfl ?_ ?_<;>intro hb0
 ·try simp only[bO]at hb0
  exact aT X [4] rfl (by and_intros<;>first|exact⟨⟩| (intros;omega)) (az (aj rfl ⟨by rw[BA,if_pos (by omega)],⟨⟩⟩))
 ·try simp only[bO]at hb0
  exact aE (aT X [4] rfl (by and_intros<;>first|exact⟨⟩| (intros;omega)) (az (aj rfl ⟨by rw[BA,if_neg (by omega)],⟨⟩⟩)))
end
end Go.Proofs.YtkcegdacbddipaaGreat.G
