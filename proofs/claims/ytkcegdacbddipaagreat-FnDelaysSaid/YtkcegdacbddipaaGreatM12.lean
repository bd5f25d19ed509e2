/-
  FnDelays: the law, walked by the symbolic machine: it returns true. No condition.
-/
import Derived.Test.YtkcegdacbddipaaGreatM11
open And renaming intro→aT
open BitVec renaming ofInt→aU
open Go.IntKind renaming i64→an
open Int renaming le_refl→fT,toNat→cP,toNat_natCast→jF
open List renaming length→aR,length_append→aX,length_drop→bM,length_eq_zero_iff→fC,length_map→bw
open Nat renaming zero_le→aA
namespace Go.Proofs.YtkcegdacbddipaaGreat.G
set_option linter.all false
open Go.RowKit L D Tryz
section
set_option maxRecDepth 100000
theorem zA(key:Int)(a:eN)(h1:a.selection.length≤262144)(h2:a.data.length≤262144):So 172 [aL key, .agg (iM a)] [bl (Ya key a)]:=by
 refine aD X call172 func172 ntmps172 rfl rfl ?_
 intro zb
 exact aF X [0,3] rfl (af (aZ X [] [(9,⟨false,[aL (HO key a.server a.round a.selection a.data)]⟩)] [4] [] 127 0 MO (by kernel_rfl) rfl (by kernel_rfl) (by(with_reducible and_intros)<;>first|exact⟨⟩|exact(uC key a h1 h2)) (ay (ah rfl ⟨rfl,⟨⟩⟩))))
theorem yp(key:Int)(d:DB)(a:eN)(h1:a.selection.length≤262144)(h2:a.data.length≤262144):So 112 [aL key, .agg (bJ d), .agg (iM a)] [bl (fls key d a)]:=by
 refine aD X call112 func112 ntmps112 rfl rfl ?_
 intro zb
 exact aF X [0,4,5] rfl (af (aZ X [] [(9,⟨false,[bl (Ya key a)]⟩),(16,⟨false,[.a (.sl .u8 (hJ d a.selection))]⟩),(17,⟨false,[bl (a.data==(hJ d a.selection))]⟩)] [6] [] 16383 0 MO (by kernel_rfl) rfl (by kernel_rfl) (by(with_reducible and_intros);(iterate 3 all_goals try first|exact⟨⟩|exact(zA key a h1 h2)|exact fun _=>(su d a.selection)|exact fun _=>(nJ a.data (hJ d a.selection)))) (ay (ah rfl ⟨(congrArg Value.bool (by simp only[fls,bD]<;>first|rfl|ac_rfl)),⟨⟩⟩))))
theorem Cp(l:List DB)(oc:l.length≤1048576)(ha:yc l):So 104 [.a (.sl .DB l)] [.agg (bJ (jw l)),bl (IW l)]:=by
 refine aD X call104 func104 ntmps104 rfl rfl ?_
 intro zb
 refine aF X [0,2] rfl (af (aQ X [] [(11,⟨false,[bl (eA (l.length:Int))]⟩)] [0,2,12] [] rfl (by(with_reducible and_intros)<;>first|exact⟨⟩|exact(gP (l.length:Int))) ?_))
 refine az rfl ?_ ?_<;>intro hb0
 ·have hk:eA l.length=false:=by simpa using hb0
  have hj:=HU (Sm hk)
  exact aS X [2,3] rfl (by trivial) (ay (ah rfl ⟨by rw[hj.1],by rw[hj.2],⟨⟩⟩))
 ·have hk:eA l.length=true:=by simpa using hb0
  have hcb:=HV hk
  have Yn:=Sn hk
  have h0z:=gk (oX ha 0)
  have zi:(l.drop 1).length=l.length-1:=bM ..
  refine aE (aQ X [] [(17,⟨true,[.agg (bJ (l.getD (cP 0) (aO .DB)))]⟩)] [0,2,4] [] rfl (by(with_reducible and_intros)<;>first|exact⟨⟩|exact(eH (l.getD (cP 0) (aO .DB)) h0z)| (intros;omega)) (af (aS X [2,4,19,20,21] rfl (by and_intros<;>first|exact⟨⟩| (intros;omega)) ?_)))
  rw[ahB]
  refine aG (aV (fun k=>k≤(l.drop 1).length∧Uu l=OV (E3 l k) ((l.drop 1).drop k)) (fun k:Nat=> [(21, .one ((aL k)))]) (fun k=> [(17, .arr (.sl .u8) (E3 l k).rows)]) (fun k=>(l.drop 1).length-k) 0 (fun k=>rfl) ⟨aA _,Yn⟩ rfl ?_)
  rintro k ⟨hk0,IQ⟩
  refine aF X [2,4,19,20,21,22] rfl ?_
  refine af (az rfl ?_ ?_)<;>intro ck
  ·try simp only[bW]at ck
   have hz1:=gk (X7 ha k)
   have hz2:=gk (oX (Qo ha) k)
   refine aE (af (aG (aS X [2,4,6,19,20,21] rfl (by and_intros<;>first|exact⟨⟩| (intros;omega)) (af ?_))))
   have t1:=(lU (E3 l k) ((l.drop 1).getD k (aO .DB)) hz1 hz2)
   refine bE X [] [(28,⟨true,dw t1⟩)] [2,4,7,8,19,20,21] [] rfl (by(with_reducible and_intros)<;>first|exact⟨⟩|exact t1) (af (aF X [2,4,7,19,20,21,32] rfl ?_))
   refine az rfl ?_ ?_<;>intro dS
   ·have hx:kV (E3 l k) ((l.drop 1).getD k (aO .DB))=false:=by simpa using dS
    have hj:=HU (IQ.trans (X6 l k ck hx))
    exact aS X [2,3] rfl (by trivial) (ay (ah rfl ⟨by rw[hj.1],by rw[hj.2],⟨⟩⟩))
   ·have hx:kV (E3 l k) ((l.drop 1).getD k (aO .DB))=true:=by simpa using dS
    have hs:=B8 l k ck
    refine aE (mU X [2,4,19,20,21] rfl (by trivial) (oS 4 0 17 rfl (cN X [2,4,19,20,21] rfl ?_)))
    refine⟨k+1,⟨by omega,IQ.trans (N4 l k ck hx)⟩,by omega,?_⟩
    rw[cX _ k rfl (by omega),hs]
    try rfl
  ·try simp only[bW]at ck
   have hj:=LA (IQ.trans (Sk l k ck))
   exact bn (aS X [2,3] rfl (by trivial) (ay (ah rfl ⟨by rw[hj.1],by rw[hj.2],⟨⟩⟩)))
theorem yq(l:List DB)(oc:l.length≤1048576)(ha:yc l):So 59 [.a (.sl .DB l)] [.agg (bJ (jw l)),bl (IW l)]:=by
 refine aD X call59 func59 ntmps59 rfl rfl ?_
 intro zb
 exact aF X [0,2] rfl (aQ X [] [(5,⟨true,[.agg (bJ (jw l)),bl (IW l)]⟩)] [2,3] [] rfl (by(with_reducible and_intros)<;>first|exact⟨⟩|exact(Cp l oc ha)) (ay (ah rfl ⟨rfl,rfl,⟨⟩⟩)))
theorem DP(id rows b:Int):So 175 [aL id,aL rows,aL b] [.agg (dr (newS id rows b))]:=by
 refine aD X call175 func175 ntmps175 rfl rfl ?_
 intro zb
 refine aF X [0,1,2,6] rfl (af (aQ X [] [(8,⟨false,[bl (inr id 0 3)]⟩),(12,⟨false,[bl (inr rows 1 64)]⟩),(17,⟨false,[bl (inr b 0 3)]⟩)] [0,1,2,6,19] [] rfl (by(with_reducible and_intros);(iterate 3 all_goals try first|exact⟨⟩|exact(bB id 0 3)|exact fun _=>(bB rows 1 64)|exact fun _=>(bB b 0 3))) ?_))
 refine az rfl ?_ ?_<;>intro hb0
 ·have hk:HW id rows b=false:=dB hb0 (by simp only[HW,bD]<;>first|rfl|ac_rfl)
  have hn:newS id rows b=⟨0,0,0,[],0⟩:=by rw[newS,hk];rfl
  exact aS X [6] rfl (by trivial) (ay (ah rfl (by and_intros<;>first|exact⟨⟩| (rw[hn];done))))
 ·have hk:HW id rows b=true:=dy hb0 (by simp only[HW,bD]<;>first|rfl|ac_rfl)
  have hn:newS id rows b=⟨id,rows,0,[],b⟩:=by rw[newS,if_pos hk]
  exact aE (aS X [6] rfl (by trivial) (ay (ah rfl (by and_intros<;>first|exact⟨⟩| (rw[hn];done)))))
theorem tu(s:cg)(hz:s.received.length≤1048576∧ ∀r,r∈s.received→ga aR r.share.rows≤1048576):So 115 [.agg (dr s)] [.agg (dr (ld s))]:=by
 refine aD X call115 func115 ntmps115 rfl rfl ?_
 intro zb
 refine aF X [1,2] rfl (aQ X [] [(5,⟨true,[.agg (dr s)]⟩)] [1,2,3] [] rfl (by(with_reducible and_intros)<;>first|exact⟨⟩|exact(kC s hz)) (af (aQ X [] [(7,⟨false,[bl (dL s)]⟩)] [2,3,12] [] rfl (by(with_reducible and_intros)<;>first|exact⟨⟩|exact(fm s)) ?_)))
 refine az rfl ?_ ?_<;>intro hb0
 ·have hk:HX s=true:=lG hb0 (by simp only[HX,bD]<;>first|rfl|ac_rfl)
  have hn:ld s=⟨s.id,s.rows,an.wrap (s.round+1),[],s.behavior⟩:=by rw[ld,if_pos hk]
  exact aF X [2,3] rfl (cN X [2,3] rfl (aS X [2] rfl (by trivial) (ay (ah rfl (by and_intros<;>first|exact⟨⟩| (rw[hn];done))))))
 ·have hk:HX s=false:=oT hb0 (by simp only[HX,bD]<;>first|rfl|ac_rfl)
  have hn:ld s=s:=by rw[ld,hk];rfl
  exact aE (aS X [2] rfl (by trivial) (ay (ah rfl (by and_intros<;>first|exact⟨⟩| (rw[hn];done)))))
theorem zB(key:Int)(a:eN)(h1:a.selection.length≤262144)(h2:a.data.length≤262144):So 205 [aL key, .agg (iM a)] [bl (Ya key a)]:=by
 refine aD X call205 func205 ntmps205 rfl rfl ?_
 intro zb
 exact aF X [0,3] rfl (af (aZ X [] [(9,⟨false,[aL (HO key a.server a.round a.selection a.data)]⟩)] [4] [] 127 0 MO (by kernel_rfl) rfl (by kernel_rfl) (by(with_reducible and_intros)<;>first|exact⟨⟩|exact(oW key a h1 h2)) (ay (ah rfl ⟨rfl,⟨⟩⟩))))
theorem yt(key:Int)(d:DB)(a:eN)(h1:a.selection.length≤262144)(h2:a.data.length≤262144):So 141 [aL key, .agg (bJ d), .agg (iM a)] [bl (fls key d a)]:=by
 refine aD X call141 func141 ntmps141 rfl rfl ?_
 intro zb
 exact aF X [0,4,5] rfl (af (aZ X [] [(9,⟨false,[bl (Ya key a)]⟩),(16,⟨false,[.a (.sl .u8 (hJ d a.selection))]⟩),(17,⟨false,[bl (a.data==(hJ d a.selection))]⟩)] [6] [] 16383 0 MO (by kernel_rfl) rfl (by kernel_rfl) (by(with_reducible and_intros);(iterate 3 all_goals try first|exact⟨⟩|exact(zB key a h1 h2)|exact fun _=>(sy d a.selection)|exact fun _=>(nH a.data (hJ d a.selection)))) (ay (ah rfl ⟨(congrArg Value.bool (by simp only[fls,bD]<;>first|rfl|ac_rfl)),⟨⟩⟩))))
theorem Cq(l:List DB)(oc:l.length≤1048576)(ha:yc l):So 133 [.a (.sl .DB l)] [.agg (bJ (jw l)),bl (IW l)]:=by
 refine aD X call133 func133 ntmps133 rfl rfl ?_
 intro zb
 refine aF X [0,2] rfl (af (aQ X [] [(10,⟨false,[bl (eA (l.length:Int))]⟩),(16,⟨false,[bl (eB (l.getD (cP 0) (aO .DB)))]⟩)] [0,2,18] [] rfl ⟨fun _=>eR _,fun h=>ajY h,jG _,⟨⟩⟩ ?_))
 refine az rfl ?_ ?_<;>intro hb0
 ·have hk:eA l.length=false:=ajX ha hb0
  have hj:=HU (Sm hk)
  exact aS X [2,3] rfl (by trivial) (ay (ah rfl ⟨by rw[hj.1],by rw[hj.2],⟨⟩⟩))
 ·have hk:eA l.length=true:=ahC hb0
  have hcb:=HV hk
  have Yn:=Sn hk
  have h0z:=gk (oX ha 0)
  have zi:(l.drop 1).length=l.length-1:=bM ..
  refine aE (aQ X [] [(23,⟨true,[.agg (bJ (l.getD (cP 0) (aO .DB)))]⟩)] [0,2,4] [] rfl (by(with_reducible and_intros)<;>first|exact⟨⟩|exact(gJ (l.getD (cP 0) (aO .DB)) h0z)| (intros;omega)) (af (aF X [0,2,4,5] rfl ?_)))
  refine aG (aV (fun k=>(1≤k∧k≤l.length)∧Uu l=OV (E3 l (k-1)) ((l.drop 1).drop (k-1))) (fun k:Nat=> [(5, .one ((aL k)))]) (fun k=> [(23, .arr (.sl .u8) (E3 l (k-1)).rows)]) (fun k=>l.length-k) 1 (fun k=>rfl) ⟨by omega,Yn⟩ rfl ?_)
  rintro k ⟨hk0,IQ⟩
  refine af (aF X [0,2,4,5,27] rfl ?_)
  refine az rfl ?_ ?_<;>intro ck
  ·try simp only[bW]at ck
   have hz1:=gk (X7 ha (k-1))
   have hz2:=gk (oX ha k)
   have hge:(l.drop 1).getD (k-1) (aO .DB)=(l.getD k (aO .DB)):=by rw[N9,show k-1+1=k by omega]
   have Qt:k-1<(l.drop 1).length:=by omega
   refine aE (af (aG (af ?_)))
   have t1:=(lV (E3 l (k-1)) (l.getD k (aO .DB)) hz1 hz2)
   refine aZ X [] [(36,⟨true,dw t1⟩)] [0,2,4,5,6,7] [] 3071 1 MO (by kernel_rfl) rfl (by kernel_rfl) (by(with_reducible and_intros)<;>first|exact⟨⟩|exact t1| (intros;omega)) (af (aF X [0,2,4,5,6,40] rfl ?_))
   refine az rfl ?_ ?_<;>intro dS
   ·have hx:kV (E3 l (k-1)) (l.getD k (aO .DB))=false:=by simpa using dS
    have hj:=HU (IQ.trans (X6 l (k-1) Qt (by rw[hge];exact hx)))
    exact aS X [2,3] rfl (by trivial) (ay (ah rfl ⟨by rw[hj.1],by rw[hj.2],⟨⟩⟩))
   ·have hx:kV (E3 l (k-1)) (l.getD k (aO .DB))=true:=by simpa using dS
    have hs:=B8 l (k-1) Qt
    rw[hge]at hs
    refine aE (mU X [0,2,4,5] rfl (by trivial) (oS 4 0 23 rfl (cN X [0,2,4,5] rfl ?_)))
    refine⟨k+1,⟨by omega,by rw[IQ,N4 l (k-1) Qt (by rw[hge];exact hx),show k+1-1=k-1+1 by omega]⟩,by omega,?_⟩
    rw[cX _ k rfl (by omega),show k+1-1=k-1+1 by omega,hs]
    try rfl
  ·try simp only[bW]at ck
   have hj:=LA (IQ.trans (Sk l (k-1) (by omega)))
   exact bn (aS X [2,3] rfl (by trivial) (ay (ah rfl ⟨by rw[hj.1],by rw[hj.2],⟨⟩⟩)))
theorem yu(l:List DB)(oc:l.length≤1048576)(ha:yc l):So 80 [.a (.sl .DB l)] [.agg (bJ (jw l)),bl (IW l)]:=by
 refine aD X call80 func80 ntmps80 rfl rfl ?_
 intro zb
 exact aF X [0,2] rfl (aQ X [] [(5,⟨true,[.agg (bJ (jw l)),bl (IW l)]⟩)] [2,3] [] rfl (by(with_reducible and_intros)<;>first|exact⟨⟩|exact(Cq l oc ha)) (ay (ah rfl ⟨rfl,rfl,⟨⟩⟩)))
theorem uJ(id rows b:Int):So 26 [aL id,aL rows,aL b] [.agg (dr (newS id rows b))]:=by
 refine aD X call26 func26 ntmps26 rfl rfl ?_
 intro zb
 refine aF X [0,1,2,6] rfl (af (aQ X [] [(8,⟨false,[bl (inr id 0 3)]⟩),(12,⟨false,[bl (inr rows 1 64)]⟩),(17,⟨false,[bl (inr b 0 3)]⟩)] [0,1,2,6,19] [] rfl (by(with_reducible and_intros);(iterate 3 all_goals try first|exact⟨⟩|exact(bU id 0 3)|exact fun _=>(bU rows 1 64)|exact fun _=>(bU b 0 3))) ?_))
 refine az rfl ?_ ?_<;>intro hb0
 ·have hk:HW id rows b=false:=dB hb0 (by simp only[HW,bD]<;>first|rfl|ac_rfl)
  have hn:newS id rows b=⟨0,0,0,[],0⟩:=by rw[newS,hk];rfl
  exact aS X [6] rfl (by trivial) (ay (ah rfl (by and_intros<;>first|exact⟨⟩| (rw[hn];done))))
 ·have hk:HW id rows b=true:=dy hb0 (by simp only[HW,bD]<;>first|rfl|ac_rfl)
  have hn:newS id rows b=⟨id,rows,0,[],b⟩:=by rw[newS,if_pos hk]
  exact aE (aS X [6] rfl (by trivial) (ay (ah rfl (by and_intros<;>first|exact⟨⟩| (rw[hn];done)))))
theorem tv(s:cg)(hz:s.received.length≤1048576∧ ∀r,r∈s.received→ga aR r.share.rows≤1048576):So 144 [.agg (dr s)] [.agg (dr (ld s))]:=by
 refine aD X call144 func144 ntmps144 rfl rfl ?_
 intro zb
 refine aF X [1,2] rfl (af (aQ X [] [(4,⟨false,[bl (dL s)]⟩)] [1,2,10] [] rfl (by(with_reducible and_intros)<;>first|exact⟨⟩|exact(fu s)) ?_))
 refine az rfl ?_ ?_<;>intro hb0
 ·have hk:HX s=false:=dB hb0 (by simp only[HX,bD]<;>first|rfl|ac_rfl)
  have hn:ld s=s:=by rw[ld,hk];rfl
  exact aQ X [] [(12,⟨true,[.agg (dr s)]⟩)] [2] [] rfl (by(with_reducible and_intros)<;>first|exact⟨⟩|exact(nW s hz)) (ay (ah rfl (by and_intros<;>first|exact⟨⟩| (rw[hn];done))))
 ·have hk:HX s=true:=dy hb0 (by simp only[HX,bD]<;>first|rfl|ac_rfl)
  have hn:ld s=⟨s.id,s.rows,an.wrap (s.round+1),[],s.behavior⟩:=by rw[ld,if_pos hk]
  exact aE (aS X [2] rfl (by trivial) (ay (ah rfl (by and_intros<;>first|exact⟨⟩| (rw[hn];done)))))
end
section
set_option maxRecDepth 100000
theorem E5(a:mj)(r:Int)(d:DB)(h0:jr a≤1048576)(hd0:ga aR d.rows≤1048576):So 114 [.agg (fY a),aL r, .agg (bJ d)] [.agg [fZ a.rows, .vw 0 none .bt (EB a r d)],bl (uF a r d)]:=by
 refine aD X call114 func114 ntmps114 rfl rfl ?_
 intro zb
 refine aF X [1,3,5,6] rfl (aQ X [] [(10,⟨true,[.agg (fY a)]⟩)] [1,3,5,6,8] [] rfl (by(with_reducible and_intros)<;>first|exact⟨⟩|exact(sD a h0)) (af (aQ X [] [(12,⟨false,[bl (iD a)]⟩),(16,⟨false,[bl (inr r 0 100000)]⟩),(22,⟨false,[aL (eC a)]⟩),(27,⟨false,[bl (eB d)]⟩)] [1,5,6,8,37] [] rfl (by(with_reducible and_intros);(iterate 4 all_goals try first|exact⟨⟩|exact(oy a)|exact fun _=>(bB r 0 100000)|exact fun _=>(oN a)|exact fun _=>(fF d))) ?_)))
 refine az rfl ?_ ?_<;>intro hb0
 ·have hk:uF a r d=false:=dB hb0 (by simp only[uF,bD]<;>first|rfl|ac_rfl)
  have hn:=Yq hk
  exact aS X [6,7] rfl (by trivial) (ay (ah rfl ⟨rfl,by rw[hn],by rw[hk],⟨⟩⟩))
 ·have hk:uF a r d=true:=dy hb0 (by simp only[uF,bD]<;>first|rfl|ac_rfl)
  have hn:=LM hk
  have hkb:=Yr hk
  have hal:(wN a r d).length=a.rounds.length+1:=by unfold wN;rw[aX];rfl
  refine aE (af (aZ X [] [(43,⟨true,[.agg (bJ d)]⟩),(500045,⟨true,[]⟩)] [6,8] [] 127 0 MO (by kernel_rfl) rfl (by kernel_rfl) (by(repeat' with_reducible first|exact bF|refine bS ?_ ?_|apply aT)<;>first|exact(eH d hd0)|exact rfl|exact⟨rfl,cB _ (by decide)⟩| (simp only[gl,maxLen,lens];omega)) ?_))
  rw[show a.rounds++ [(⟨r,d⟩:bt)]=(wN a r d)from rfl]
  refine af (aF X [6,8,51] rfl ?_)
  refine az rfl ?_ ?_<;>intro ck
  ·try simp only[bW]at ck
   have h8:(8:Int)<((wN a r d).length:Int):=ck
   rw[if_pos h8]at hn
   exact mU X [6,8] rfl (by and_intros<;>first|exact⟨⟩| (intros;omega)) (aS X [6,7] rfl (by trivial) (ay (ah rfl ⟨rfl,by rw[hn];simp,by rw[hk],⟨⟩⟩)))
  ·try simp only[bW]at ck
   have h8: ¬(8:Int)<((wN a r d).length:Int):=by omega
   rw[if_neg h8]at hn
   exact aE (aS X [6,7] rfl (by trivial) (ay (ah rfl ⟨rfl,by rw[hn],by rw[hk],⟨⟩⟩)))
theorem E6(a:mj)(r:Int)(d:DB)(h0:jr a≤1048576)(hd0:ga aR d.rows≤1048576):So 143 [.agg (fY a),aL r, .agg (bJ d)] [.agg [fZ a.rows, .vw 0 none .bt (EB a r d)],bl (uF a r d)]:=by
 refine aD X call143 func143 ntmps143 rfl rfl ?_
 intro zb
 refine aF X [1,3,5,6] rfl (aQ X [] [(10,⟨true,[.agg (fY a)]⟩)] [1,3,5,6,8] [] rfl (by(with_reducible and_intros)<;>first|exact⟨⟩|exact(xQ a h0)) (af (aQ X [] [(12,⟨false,[bl (iD a)]⟩),(16,⟨false,[bl (inr r 0 100000)]⟩),(22,⟨false,[aL (eC a)]⟩),(27,⟨false,[bl (eB d)]⟩)] [1,5,6,8,37] [] rfl (by(with_reducible and_intros);(iterate 4 all_goals try first|exact⟨⟩|exact(oz a)|exact fun _=>(bU r 0 100000)|exact fun _=>(oO a)|exact fun _=>(eR d))) ?_)))
 refine az rfl ?_ ?_<;>intro hb0
 ·have hk:uF a r d=false:=dB hb0 (by simp only[uF,bD]<;>first|rfl|ac_rfl)
  have hn:=Yq hk
  exact aS X [6,7] rfl (by trivial) (ay (ah rfl ⟨rfl,by rw[hn],by rw[hk],⟨⟩⟩))
 ·have hk:uF a r d=true:=dy hb0 (by simp only[uF,bD]<;>first|rfl|ac_rfl)
  have hn:=LM hk
  have hkb:=Yr hk
  have hal:(wN a r d).length=a.rounds.length+1:=by unfold wN;rw[aX];rfl
  refine aE (af (aZ X [] [(43,⟨true,[.agg (bJ d)]⟩),(500045,⟨true,[]⟩)] [6,8] [] 127 0 MO (by kernel_rfl) rfl (by kernel_rfl) (by(repeat' with_reducible first|exact bF|refine bS ?_ ?_|apply aT)<;>first|exact(gJ d hd0)|exact rfl|exact⟨rfl,cB _ (by decide)⟩| (simp only[gl,maxLen,lens];omega)) ?_))
  rw[show a.rounds++ [(⟨r,d⟩:bt)]=(wN a r d)from rfl]
  refine af (aF X [6,8,51] rfl ?_)
  refine az rfl ?_ ?_<;>intro ck
  ·try simp only[bW]at ck
   have h8:(8:Int)<((wN a r d).length:Int):=ck
   rw[if_pos h8]at hn
   exact mU X [6,8] rfl (by and_intros<;>first|exact⟨⟩| (intros;omega)) (aS X [6,7] rfl (by trivial) (ay (ah rfl ⟨rfl,by rw[hn];simp,by rw[hk],⟨⟩⟩)))
  ·try simp only[bW]at ck
   have h8: ¬(8:Int)<((wN a r d).length:Int):=by omega
   rw[if_neg h8]at hn
   exact aE (aS X [6,7] rfl (by trivial) (ay (ah rfl ⟨rfl,by rw[hn],by rw[hk],⟨⟩⟩)))
theorem qa(x:cm)(rd id:Int)(hl:x.aC.length≤4)(hw:1≤x.rows∧x.rows≤64)(hU:HZ rd x.aC)(hr:x.replaced.length≤4194400):rG ty Tryz.prog 113 [(1000, .box [fZ x.rows, .own 11, .own 12,fZ x.aN.rows, .own 13,fZ x.bZ,fZ x.seed,fZ x.round, .own 14,fZ x.cancelled]),(11, .arr .cg x.aC),(12, .arr .cD x.aq),(13, .arr .bt x.aN.rounds),(14, .arr .int x.replaced)] [.a (.ptr 1000 0),aL id] [(1000, .box [fZ x.rows, .own 11, .own 12,fZ x.aN.rows, .own 13,fZ x.bZ,fZ x.seed,fZ x.round, .own 14,fZ x.cancelled]),(11, .arr .cg (DF x.rows rd (x.aC,x.replaced) id).1),(12, .arr .cD x.aq),(13, .arr .bt x.aN.rounds),(14, .arr .int (DF x.rows rd (x.aC,x.replaced) id).2)] []:=by
 refine oU X call113 func113 rfl rfl (by decide) ntmps113 (by simp) rfl ?_
 intro zb
 refine af ?_
 have t1:=(bB id 0 (an.wrap ((x.aC.length:Int)-1)))
 refine bE X [] [(12,⟨false,dw t1⟩)] [0,1,12] [] rfl (by(with_reducible and_intros)<;>first|exact⟨⟩|exact t1) ?_
 refine az rfl ?_ ?_<;>intro hb0
 ·have hk:B9 x.aC id=true:=by unfold B9;simpa using hb0
  have hb:=Yp hl hk
  have hp:(DF x.rows rd (x.aC,x.replaced) id)=_:=Sy (rows:=x.rows) (rd:=rd) (p:=(x.aC,x.replaced)) hk
  have hns:=H8 (id:=id) (by omega) hw
  have hrd:=(uI hU (k:=id.toNat) (by omega)).1
  refine aQ X [] [(18,⟨true,[.agg (dr (newS id x.rows 0))]⟩)] [0,1,4] [] rfl (by(with_reducible and_intros)<;>first|exact⟨⟩|exact(DP id x.rows 0)) ?_
  rw[hns]
  refine aS X [0,1,4] rfl (by and_intros<;>first|exact⟨⟩| (intros;omega)) ?_
  rw[hrd]
  exact af (aZ X [] [] [0,1] [] 127 0 MO (by kernel_rfl) rfl (by kernel_rfl) (by and_intros<;>first|exact⟨⟩| (intros;omega)) (bE X [(42,14)] [] [] [] rfl (by and_intros<;>first|exact⟨⟩|exact rfl| (simp only[gl,maxLen,lens];omega)) (vF rfl (by and_intros<;>first|exact⟨⟩|rfl| (rw[hp];done)))))
 ·have hk:B9 x.aC id=false:=by unfold B9;simpa using hb0
  have hp:(DF x.rows rd (x.aC,x.replaced) id)=_:=Sz (rows:=x.rows) (rd:=rd) (p:=(x.aC,x.replaced)) hk
  exact aE (vF rfl (by and_intros<;>first|exact⟨⟩|rfl| (rw[hp];done)))
theorem tB(x:cm)(rd id:Int)(hl:x.aC.length≤4)(hw:1≤x.rows∧x.rows≤64)(hU:HZ rd x.aC)(hr:x.replaced.length≤4194400)(hxr:x.round=rd):rG ty Tryz.prog 142 [(1000, .box [fZ x.rows, .own 11, .own 12,fZ x.aN.rows, .own 13,fZ x.bZ,fZ x.seed,fZ x.round, .own 14,fZ x.cancelled]),(11, .arr .cg x.aC),(12, .arr .cD x.aq),(13, .arr .bt x.aN.rounds),(14, .arr .int x.replaced)] [.a (.ptr 1000 0),aL id] [(1000, .box [fZ x.rows, .own 11, .own 12,fZ x.aN.rows, .own 13,fZ x.bZ,fZ x.seed,fZ x.round, .own 14,fZ x.cancelled]),(11, .arr .cg (DF x.rows rd (x.aC,x.replaced) id).1),(12, .arr .cD x.aq),(13, .arr .bt x.aN.rounds),(14, .arr .int (DF x.rows rd (x.aC,x.replaced) id).2)] []:=by
 refine oU X call142 func142 rfl rfl (by decide) ntmps142 (by simp) rfl ?_
 intro zb
 refine af (af ?_)
 have t1:=(bU id 0 (an.wrap ((x.aC.length:Int)-1)))
 refine bE X [] [(12,⟨false,dw t1⟩)] [0,1,13] [] rfl (by(with_reducible and_intros)<;>first|exact⟨⟩|exact t1) ?_
 refine az rfl ?_ ?_<;>intro hb0
 ·have hk:B9 x.aC id=false:=by unfold B9;simpa using hb0
  have hp:(DF x.rows rd (x.aC,x.replaced) id)=_:=Sz (rows:=x.rows) (rd:=rd) (p:=(x.aC,x.replaced)) hk
  exact ay (uz rfl (by and_intros<;>first|exact⟨⟩|rfl| (rw[hp];done)))
 ·have hk:B9 x.aC id=true:=by unfold B9;simpa using hb0
  have hb:=Yp hl hk
  have hp:(DF x.rows rd (x.aC,x.replaced) id)=_:=Sy (rows:=x.rows) (rd:=rd) (p:=(x.aC,x.replaced)) hk
  have hns:=H8 (id:=id) (by omega) hw
  have hrd:=(uI hU (k:=id.toNat) (by omega)).1
  refine aE (aQ X [] [(19,⟨true,[.agg (dr (newS id x.rows 0))]⟩)] [0,1,4] [] rfl (by(with_reducible and_intros)<;>first|exact⟨⟩|exact(uJ id x.rows 0)) ?_)
  rw[hns]
  refine aS X [0,1,4] rfl (by trivial) ?_
  rw[hxr]
  exact af (aZ X [] [] [0,1] [] 127 0 MO (by kernel_rfl) rfl (by kernel_rfl) (by and_intros<;>first|exact⟨⟩| (intros;omega)) (bE X [(39,14)] [] [] [] rfl (by and_intros<;>first|exact⟨⟩|exact rfl| (simp only[gl,maxLen,lens];omega)) (vF rfl (by and_intros<;>first|exact⟨⟩|rfl| (rw[hp];done)))))
theorem Cr(x:cm)(g:List Int)(d:DB)(h0:wB x)(hgl:g.length≤64)(hd0:ga aR d.rows≤1048576):So 62 [.agg (cq x), .a (.sl .int g), .agg (bJ d)] [.agg [fZ (dR x g d).rows, .sl .cg (dR x g d).aC, .sl .cD (dR x g d).aq,fZ (dR x g d).aN.rows, .vw 0 none .bt (dR x g d).aN.rounds,fZ (dR x g d).bZ,fZ (dR x g d).seed,fZ (dR x g d).round, .sl .int (dR x g d).replaced,fZ (dR x g d).cancelled]]:=by
 refine aD X call62 func62 ntmps62 rfl rfl ?_
 intro zb
 have hls:ga iP x.aC≤1048576∧ga dH x.aq≤1048576∧jr x.aN≤1048576∧x.replaced.length≤4194304:=h0
 have hcp:=SA x g
 refine aF X [1,3,5,6] rfl (aQ X [(7,907)] [(13,⟨true,[.agg (cq x)]⟩)] [1,3,5,6,7] [] rfl (by(with_reducible and_intros)<;>first|exact⟨⟩|exact(lJ x h0)) (af (aQ X [] [(15,⟨false,[bl (okW x)]⟩)] [1,3,5,6,7,21] [] rfl (by(with_reducible and_intros)<;>first|exact⟨⟩|exact(eX x)) ?_)))
 refine az rfl ?_ ?_<;>intro hb0
 ·have hk:nY x=false:=dB hb0 (by simp only[nY,bD]<;>first|rfl|ac_rfl)
  have hc:=JY (g:=g) (d:=d) hk
  exact aS X [6] rfl (by trivial) (ay (ah rfl (by and_intros<;>first|exact⟨⟩| (rw[hc];done))))
 ·have hk:nY x=true:=dy hb0 (by simp only[nY,bD]<;>first|rfl|ac_rfl)
  obtain⟨hok,hr9⟩:=LL hk
  have tI:=gy hok
  have Ur:=(rZ hok).1
  have hcU:=ac4 g hok
  refine aE (af (aF X [1,3,5,6,7,25] rfl ?_))
  refine az rfl ?_ ?_<;>intro ck
  ·try simp only[bW]at ck
   have hg0:g.length=0:=by omega
   have hc:=Ia (d:=d) hk hg0
   have hgn:g= []:=fC.1 hg0
   have t1:=(E5 x.aN x.round d hls.2.2.1 hd0)
   refine bE X [] [(32,⟨true,dw t1⟩)] [1,6,7] [] rfl (by(with_reducible and_intros)<;>first|exact⟨⟩|exact t1) (af (aF X [6,7,40,41,42] rfl ?_))
   refine aG (aV (fun k=>k≤g.length) (fun k:Nat=> [(42, .one ((aL k)))]) (fun k=> [(14, .arr .cg (H9 x g k).1),(21, .arr .int (H9 x g k).2)]) (fun k=>g.length-k) 0 (fun k=>rfl) (aA _) rfl ?_)
   rintro k hk0
   have Ix:=Cn (x:=x) hk0
   have hU:=Ob hok hk0
   refine aF X [6,7,40,41,42,43] rfl ?_
   refine af (az rfl ?_ ?_)<;>intro dS
   ·try simp only[bW]at dS
    omega
   ·try simp only[bW]at dS
    rw[yY dS]
    refine bn (af (aF X [6,7,50,51,52] rfl ?_))
    refine aG (aV (fun k1=>k1≤x.aC.length) (fun k1:Nat=> [(52, .one ((aL k1)))]) (fun k1=> [(14, .arr .cg (E4 (we x g).1 k1))]) (fun k1=>x.aC.length-k1) 0 (fun k1=>rfl) (aA _) (by rw[SB];rfl) ?_)
    intro k1 hk1
    have Gi:(E4 (we x g).1 k1).length=x.aC.length:=by rw[FJ (by omega)];exact hcp.1
    refine aF X [6,7,50,51,52,53] rfl ?_
    refine af (az rfl ?_ ?_)<;>intro BJ
    ·try simp only[bW]at BJ
     have hgt:=FI (l:=(we x g).1) (k:=k1) (by omega)
     have hsm:=uI hcU (k:=k1) (by omega)
     have IY:=Co (l:=(we x g).1) (k:=k1) (by omega)
     refine aE (af (aG (aS X [6,7,10,11,50,51,52] rfl (by and_intros<;>first|exact⟨⟩| (intros;omega)) (aZ X [] [(61,⟨true,[.agg (dr (ld ((E4 (we x g).1 k1).getD k1 (aO .cg))))]⟩)] [6,7,50,51,52] [] 63 0 MO (by kernel_rfl) rfl (by kernel_rfl) (by(with_reducible and_intros)<;>first|exact⟨⟩|exact(tu ((E4 (we x g).1 k1).getD k1 (aO .cg)) (by rw[hgt];exact hsm.2))| (intros;omega)) (cN X [6,7,50,51,52] rfl ?_)))))
     refine⟨k1+1,by omega,by omega,?_⟩
     rw[cX _ k1 rfl (by omega), ←IY]
     try rfl
    ·try simp only[bW]at BJ
     rw[FK (by omega)]
     exact bn (aF X [6,7] rfl (aS X [6] rfl (by trivial) (ay (ah rfl (by and_intros<;>first|exact⟨⟩| (rw[hc];done))))))
  ·try simp only[bW]at ck
   have hg0: ¬g.length=0:=by omega
   have hc:=Oc (d:=d) hk hg0
   refine cN X [1,6,7] rfl (af (aF X [6,7,40,41,42] rfl ?_))
   refine aG (aV (fun k=>k≤g.length) (fun k:Nat=> [(42, .one ((aL k)))]) (fun k=> [(14, .arr .cg (H9 x g k).1),(21, .arr .int (H9 x g k).2)]) (fun k=>g.length-k) 0 (fun k=>rfl) (aA _) rfl ?_)
   rintro k hk0
   have Ix:=Cn (x:=x) hk0
   have hU:=Ob hok hk0
   refine aF X [6,7,40,41,42,43] rfl ?_
   refine af (az rfl ?_ ?_)<;>intro dS
   ·try simp only[bW]at dS
    have hst:=Oa (x:=x) dS
    refine aE (af (aG (aS X [6,7,9,40,41,42] rfl (by and_intros<;>first|exact⟨⟩| (intros;omega)) ?_)))
    have t1:=(qa (⟨x.rows,(H9 x g k).1,x.aq,x.aN,x.bZ,x.seed,x.round,(H9 x g k).2,an.wrap (x.cancelled+1)⟩:cm) x.round (g.getD k (aO .int)) (by show(H9 x g k).1.length≤4;omega) Ur hU (by show(H9 x g k).2.length≤_;omega))
    refine bE X [] [(800047,⟨true,KN t1⟩),(700047,⟨true, .agg [.ptr 1000 907, .ptr 11 14, .ptr 12 15, .ptr 13 17, .ptr 14 21]:: .agg []::KO t1⟩)] [6,7,40,41,42] [] rfl (by(with_reducible and_intros)<;>first|exact⟨⟩|exact t1) (cN X [6,7,40,41,42] rfl ?_)
    refine⟨k+1,by omega,by omega,?_⟩
    rw[cX _ k rfl (by omega), ←hst]
    try rfl
   ·try simp only[bW]at dS
    rw[yY dS]
    refine bn (af (aF X [6,7,50,51,52] rfl ?_))
    refine aG (aV (fun k1=>k1≤x.aC.length) (fun k1:Nat=> [(52, .one ((aL k1)))]) (fun k1=> [(14, .arr .cg (E4 (we x g).1 k1))]) (fun k1=>x.aC.length-k1) 0 (fun k1=>rfl) (aA _) (by rw[SB];rfl) ?_)
    intro k1 hk1
    have Gi:(E4 (we x g).1 k1).length=x.aC.length:=by rw[FJ (by omega)];exact hcp.1
    refine aF X [6,7,50,51,52,53] rfl ?_
    refine af (az rfl ?_ ?_)<;>intro BJ
    ·try simp only[bW]at BJ
     have hgt:=FI (l:=(we x g).1) (k:=k1) (by omega)
     have hsm:=uI hcU (k:=k1) (by omega)
     have IY:=Co (l:=(we x g).1) (k:=k1) (by omega)
     refine aE (af (aG (aS X [6,7,10,11,50,51,52] rfl (by and_intros<;>first|exact⟨⟩| (intros;omega)) (aZ X [] [(61,⟨true,[.agg (dr (ld ((E4 (we x g).1 k1).getD k1 (aO .cg))))]⟩)] [6,7,50,51,52] [] 63 0 MO (by kernel_rfl) rfl (by kernel_rfl) (by(with_reducible and_intros)<;>first|exact⟨⟩|exact(tu ((E4 (we x g).1 k1).getD k1 (aO .cg)) (by rw[hgt];exact hsm.2))| (intros;omega)) (cN X [6,7,50,51,52] rfl ?_)))))
     refine⟨k1+1,by omega,by omega,?_⟩
     rw[cX _ k1 rfl (by omega), ←IY]
     try rfl
    ·try simp only[bW]at BJ
     rw[FK (by omega)]
     exact bn (aF X [6,7] rfl (aS X [6] rfl (by trivial) (ay (ah rfl (by and_intros<;>first|exact⟨⟩| (rw[hc];done))))))
theorem AO(x:cm)(h0:wB x):So 61 [.agg (cq x)] [.agg (cq (testW x))]:=by
 refine aD X call61 func61 ntmps61 rfl rfl ?_
 intro zb
 have hls:ga iP x.aC≤1048576∧ga dH x.aq≤1048576∧jr x.aN≤1048576∧x.replaced.length≤4194304:=h0
 have IY:=ac6 h0
 refine aF X [1,2] rfl (aQ X [(3,903)] [(13,⟨true,[.agg (cq x)]⟩)] [1,2,3] [] rfl (by(with_reducible and_intros)<;>first|exact⟨⟩|exact(lJ x h0)) (aQ X [] [(16,⟨false,[aL (eC x.aN)]⟩)] [1,2,3,4] [] rfl (by(with_reducible and_intros)<;>first|exact⟨⟩|exact(oN x.aN)) (af ?_)))
 have t1:=(m7 x.aN (eC x.aN) IY)
 refine bE X [(21,80)] [(21,⟨true,dw t1⟩)] [1,2,3,4,5,6] [] rfl (by(with_reducible and_intros)<;>first|exact⟨⟩|exact t1) (af (aQ X [] [(25,⟨false,[bl (okW x)]⟩)] [1,2,3,4,5,30] [] rfl (by(with_reducible and_intros)<;>first|exact⟨⟩|exact(eX x)) ?_))
 refine az rfl ?_ ?_<;>intro hb0
 ·have hk:zq x=false:=dB hb0 (by simp only[zq,bD]<;>first|rfl|ac_rfl)
  have hc:=Ib hk
  exact aS X [2] rfl (by trivial) (ay (ah rfl (by and_intros<;>first|exact⟨⟩| (rw[hc];done))))
 ·have hk:zq x=true:=dy hb0 (by simp only[zq,bD]<;>first|rfl|ac_rfl)
  have hc:=DO hk
  have hkk:=hk
  rw[zq,Bool.and_eq_true]at hkk
  obtain⟨hok,hah⟩:=hkk
  have tI:=gy hok
  have Ur:=(rZ hok).1
  refine aE (af (aF X [1,2,3,4,5,33,34,35] rfl ?_))
  refine aG (aV (fun k=>k≤x.aC.length) (fun k:Nat=> [(35, .one ((aL k)))]) (fun k=> [(14, .arr .cg (EC x k).1),(21, .arr .int (EC x k).2)]) (fun k=>x.aC.length-k) 0 (fun k=>rfl) (aA _) rfl ?_)
  rintro k hk0
  have htb:=ac5 hok k hk0
  refine aF X [1,2,3,4,5,33,34,35,36] rfl ?_
  refine af (az rfl ?_ ?_)<;>intro ck
  ·try simp only[bW]at ck
   have hrl:=kU (kh x.seed [227,x.round,(k:Int)]) x.rows
   have hab:=ac1 (x.aC.getD k (aO .cg)) (j6 x.bZ (k:Int)) (eC x.aN) (jJ x.aN.rounds (eC x.aN)) (v:=(cR (kh x.seed [227,x.round,(k:Int)]) x.rows)) (by omega)
   have hsg:=Ys hok hah (kh x.seed [227,x.round,(k:Int)])
   refine aE (af (aG (aS X [1,2,3,4,5,7,8,33,34,35] rfl (by and_intros<;>first|exact⟨⟩| (intros;omega)) (aQ X [] [(43,⟨false,[aL (j6 x.bZ (k:Int))]⟩)] [1,2,3,4,5,7,8,9,33,34,35] [] rfl (by(with_reducible and_intros)<;>first|exact⟨⟩|exact(lH x.bZ (k:Int))) (af ?_)))))
   have t1:=(v7 (x.aC.getD k (aO .cg)) (j6 x.bZ (k:Int)) (eC x.aN) (jJ x.aN.rounds (eC x.aN)) (cR (kh x.seed [227,x.round,(k:Int)]) x.rows) (by omega))
   refine aZ X [] [(55,⟨false,[aL (kh x.seed [227,x.round,(k:Int)])]⟩),(58,⟨true,[.a (.sl .int (cR (kh x.seed [227,x.round,(k:Int)]) x.rows))]⟩),(59,⟨true,dw t1⟩)] [1,2,3,4,5,7,9,10,33,34,35] [] 1572863 1 MO (by kernel_rfl) rfl (by kernel_rfl) (by(repeat' with_reducible first|exact bF|refine bS ?_ ?_|apply aT);(iterate 3 all_goals try first|exact(cV x.seed [227,x.round,(k:Int)] (by first|assumption|omega| (simp;done)| (simp;omega)))|exact(nN (kh x.seed [227,x.round,(k:Int)]) x.rows)|exact t1);all_goals first|exact⟨rfl,cB _ (by decide)⟩) ?_
   refine af ?_
   have t1:=(yp (j6 x.bZ (k:Int)) (jJ x.aN.rounds (eC x.aN)) (tsA x k) hab.1 hab.2)
   refine bE X [] [(65,⟨false,dw t1⟩)] [1,2,3,4,5,7,33,34,35,65] [] rfl (by(with_reducible and_intros)<;>first|exact⟨⟩|exact t1) ?_
   refine az rfl ?_ ?_<;>intro dS
   ·have hst:=Sr (x:=x) (n:=k) dS
    have t1:=(qa (⟨x.rows,(EC x k).1,x.aq,x.aN,x.bZ,x.seed,x.round,(EC x k).2,x.cancelled⟩:cm) x.round (k:Int) (by show(EC x k).1.length≤4;omega) Ur htb.1 (by show(EC x k).2.length≤_;omega))
    refine bE X [] [(800067,⟨true,KN t1⟩),(700067,⟨true, .agg [.ptr 1000 903, .ptr 11 14, .ptr 12 15, .ptr 13 17, .ptr 14 21]:: .agg []::KO t1⟩)] [1,2,3,4,5,33,34,35] [] rfl (by(with_reducible and_intros)<;>first|exact⟨⟩|exact t1) (cN X [1,2,3,4,5,33,34,35] rfl ?_)
    refine⟨k+1,by omega,by omega,?_⟩
    rw[cX _ k rfl (by omega), ←hst]
    try rfl
   ·have hst:=N5 (x:=x) (n:=k) dS
    refine aE (cN X [1,2,3,4,5,33,34,35] rfl ?_)
    refine⟨k+1,by omega,by omega,?_⟩
    rw[cX _ k rfl (by omega),hst]
    try rfl
  ·try simp only[bW]at ck
   exact bn (aS X [2] rfl (by trivial) (ay (ah rfl (by and_intros<;>first|exact⟨⟩| (rw[hc];done)| (rw[hc,show k=x.aC.length by omega];done)))))
theorem Cs(x:cm)(g:List Int)(d:DB)(h0:wB x)(hgl:g.length≤64)(hd0:ga aR d.rows≤1048576):So 83 [.agg (cq x), .a (.sl .int g), .agg (bJ d)] [.agg [fZ (dR x g d).rows, .sl .cg (dR x g d).aC, .sl .cD (dR x g d).aq,fZ (dR x g d).aN.rows, .vw 0 none .bt (dR x g d).aN.rounds,fZ (dR x g d).bZ,fZ (dR x g d).seed,fZ (dR x g d).round, .sl .int (dR x g d).replaced,fZ (dR x g d).cancelled]]:=by
 refine aD X call83 func83 ntmps83 rfl rfl ?_
 intro zb
 have hls:ga iP x.aC≤1048576∧ga dH x.aq≤1048576∧jr x.aN≤1048576∧x.replaced.length≤4194304:=h0
 have hcp:=SA x g
 refine aF X [1,3,5,6] rfl (aQ X [(7,907)] [(13,⟨true,[.agg (cq x)]⟩)] [1,3,5,6,7] [] rfl (by(with_reducible and_intros)<;>first|exact⟨⟩|exact(iR x h0)) (af (aQ X [] [(15,⟨false,[bl (okW x)]⟩)] [1,3,5,6,7,21] [] rfl (by(with_reducible and_intros)<;>first|exact⟨⟩|exact(gq x)) ?_)))
 refine az rfl ?_ ?_<;>intro hb0
 ·have hk:nY x=false:=dB hb0 (by simp only[nY,bD]<;>first|rfl|ac_rfl)
  have hc:=JY (g:=g) (d:=d) hk
  exact aS X [6] rfl (by trivial) (ay (ah rfl (by and_intros<;>first|exact⟨⟩| (rw[hc];done))))
 ·have hk:nY x=true:=dy hb0 (by simp only[nY,bD]<;>first|rfl|ac_rfl)
  obtain⟨hok,hr9⟩:=LL hk
  have tI:=gy hok
  have Ur:=(rZ hok).1
  have hcU:=ac4 g hok
  refine aE (af (aF X [1,3,5,6,7,25] rfl ?_))
  refine az rfl ?_ ?_<;>intro ck
  ·try simp only[bW]at ck
   have hg0:g.length=0:=by omega
   have hc:=Ia (d:=d) hk hg0
   have hgn:g= []:=fC.1 hg0
   refine af ?_
   have t1:=(E6 x.aN x.round d hls.2.2.1 hd0)
   refine bE X [] [(32,⟨true,dw t1⟩)] [1,3,6,7,8] [] rfl (by(with_reducible and_intros)<;>first|exact⟨⟩|exact t1) (mU X [1,3,6,7] rfl (by trivial) (af (aF X [1,3,6,7,10] rfl ?_)))
   refine aG (aV (fun k=>k≤g.length) (fun k:Nat=> [(10, .one ((aL k)))]) (fun k=> [(14, .arr .cg (H9 x g k).1),(21, .arr .int (H9 x g k).2)]) (fun k=>g.length-k) 0 (fun k=>rfl) (aA _) rfl ?_)
   rintro k hk0
   have Ix:=Cn (x:=x) hk0
   have hU:=Ob hok hk0
   refine af (aF X [1,3,6,7,10,44] rfl ?_)
   refine az rfl ?_ ?_<;>intro dS
   ·try simp only[bW]at dS
    omega
   ·try simp only[bW]at dS
    rw[yY dS]
    refine bn (af (aF X [3,6,7,11] rfl ?_))
    refine aG (aV (fun k1=>k1≤x.aC.length) (fun k1:Nat=> [(11, .one ((aL k1)))]) (fun k1=> [(14, .arr .cg (E4 (we x g).1 k1))]) (fun k1=>x.aC.length-k1) 0 (fun k1=>rfl) (aA _) (by rw[SB];rfl) ?_)
    intro k1 hk1
    have Gi:(E4 (we x g).1 k1).length=x.aC.length:=by rw[FJ (by omega)];exact hcp.1
    refine af (aF X [3,6,7,11,56] rfl ?_)
    refine az rfl ?_ ?_<;>intro BJ
    ·try simp only[bW]at BJ
     rw[Gi]at BJ
     have hgt:=FI (l:=(we x g).1) (k:=k1) (by omega)
     have hsm:=uI hcU (k:=k1) (by omega)
     have IY:=Co (l:=(we x g).1) (k:=k1) (by omega)
     refine aE (af (aG (aZ X [] [(67,⟨true,[.agg (dr (ld ((E4 (we x g).1 k1).getD k1 (aO .cg))))]⟩)] [3,6,7,11] [] 1023 0 MO (by kernel_rfl) rfl (by kernel_rfl) (by(with_reducible and_intros)<;>first|exact⟨⟩|exact(tv ((E4 (we x g).1 k1).getD k1 (aO .cg)) (by rw[hgt];exact hsm.2))| (intros;omega)) (cN X [3,6,7,11] rfl ?_))))
     refine⟨k1+1,by omega,by omega,?_⟩
     rw[cX _ k1 rfl (by omega), ←IY]
     try rfl
    ·try simp only[bW]at BJ
     rw[Gi]at BJ
     rw[FK (by omega)]
     exact bn (aF X [6,7] rfl (aS X [6] rfl (by trivial) (ay (ah rfl (by and_intros<;>first|exact⟨⟩| (rw[hc];done))))))
  ·try simp only[bW]at ck
   have hg0: ¬g.length=0:=by omega
   have hc:=Oc (d:=d) hk hg0
   refine cN X [1,3,6,7] rfl (af (aF X [1,3,6,7,10] rfl ?_))
   refine aG (aV (fun k=>k≤g.length) (fun k:Nat=> [(10, .one ((aL k)))]) (fun k=> [(14, .arr .cg (H9 x g k).1),(21, .arr .int (H9 x g k).2)]) (fun k=>g.length-k) 0 (fun k=>rfl) (aA _) rfl ?_)
   rintro k hk0
   have Ix:=Cn (x:=x) hk0
   have hU:=Ob hok hk0
   refine af (aF X [1,3,6,7,10,44] rfl ?_)
   refine az rfl ?_ ?_<;>intro dS
   ·try simp only[bW]at dS
    have hst:=Oa (x:=x) dS
    refine aE (af (aG ?_))
    have t1:=(tB (⟨x.rows,(H9 x g k).1,x.aq,x.aN,x.bZ,x.seed,x.round,(H9 x g k).2,an.wrap (x.cancelled+1)⟩:cm) x.round (g.getD k (aO .int)) (by show(H9 x g k).1.length≤4;omega) Ur hU (by show(H9 x g k).2.length≤_;omega) rfl)
    refine bE X [] [(800051,⟨true,KN t1⟩),(700051,⟨true, .agg [.ptr 1000 907, .ptr 11 14, .ptr 12 15, .ptr 13 17, .ptr 14 21]:: .agg []::KO t1⟩)] [1,3,6,7,10] [] rfl (by(with_reducible and_intros)<;>first|exact⟨⟩|exact t1| (intros;omega)) (cN X [1,3,6,7,10] rfl ?_)
    refine⟨k+1,by omega,by omega,?_⟩
    rw[cX _ k rfl (by omega), ←hst]
    try rfl
   ·try simp only[bW]at dS
    rw[yY dS]
    refine bn (af (aF X [3,6,7,11] rfl ?_))
    refine aG (aV (fun k1=>k1≤x.aC.length) (fun k1:Nat=> [(11, .one ((aL k1)))]) (fun k1=> [(14, .arr .cg (E4 (we x g).1 k1))]) (fun k1=>x.aC.length-k1) 0 (fun k1=>rfl) (aA _) (by rw[SB];rfl) ?_)
    intro k1 hk1
    have Gi:(E4 (we x g).1 k1).length=x.aC.length:=by rw[FJ (by omega)];exact hcp.1
    refine af (aF X [3,6,7,11,56] rfl ?_)
    refine az rfl ?_ ?_<;>intro BJ
    ·try simp only[bW]at BJ
     rw[Gi]at BJ
     have hgt:=FI (l:=(we x g).1) (k:=k1) (by omega)
     have hsm:=uI hcU (k:=k1) (by omega)
     have IY:=Co (l:=(we x g).1) (k:=k1) (by omega)
     refine aE (af (aG (aZ X [] [(67,⟨true,[.agg (dr (ld ((E4 (we x g).1 k1).getD k1 (aO .cg))))]⟩)] [3,6,7,11] [] 1023 0 MO (by kernel_rfl) rfl (by kernel_rfl) (by(with_reducible and_intros)<;>first|exact⟨⟩|exact(tv ((E4 (we x g).1 k1).getD k1 (aO .cg)) (by rw[hgt];exact hsm.2))| (intros;omega)) (cN X [3,6,7,11] rfl ?_))))
     refine⟨k1+1,by omega,by omega,?_⟩
     rw[cX _ k1 rfl (by omega), ←IY]
     try rfl
    ·try simp only[bW]at BJ
     rw[Gi]at BJ
     rw[FK (by omega)]
     exact bn (aF X [6,7] rfl (aS X [6] rfl (by trivial) (ay (ah rfl (by and_intros<;>first|exact⟨⟩| (rw[hc];done))))))
theorem AP(x:cm)(h0:wB x):So 82 [.agg (cq x)] [.agg (cq (testW x))]:=by
 refine aD X call82 func82 ntmps82 rfl rfl ?_
 intro zb
 have hls:ga iP x.aC≤1048576∧ga dH x.aq≤1048576∧jr x.aN≤1048576∧x.replaced.length≤4194304:=h0
 have IY:=ac6 h0
 refine aF X [1,2] rfl (aQ X [(3,903)] [(12,⟨true,[.agg (cq x)]⟩)] [1,2,3] [] rfl (by(with_reducible and_intros)<;>first|exact⟨⟩|exact(iR x h0)) (aQ X [] [(15,⟨false,[aL (eC x.aN)]⟩)] [1,2,3,4] [] rfl (by(with_reducible and_intros)<;>first|exact⟨⟩|exact(oO x.aN)) (af ?_)))
 have t1:=(m8 x.aN (eC x.aN) IY)
 refine bE X [(20,80)] [(20,⟨true,dw t1⟩)] [1,2,3,4,5,6] [] rfl (by(with_reducible and_intros)<;>first|exact⟨⟩|exact t1) (af (aQ X [] [(24,⟨false,[bl (okW x)]⟩)] [1,2,3,4,5,29] [] rfl (by(with_reducible and_intros)<;>first|exact⟨⟩|exact(gq x)) ?_))
 refine az rfl ?_ ?_<;>intro hb0
 ·have hk:zq x=false:=dB hb0 (by simp only[zq,bD]<;>first|rfl|ac_rfl)
  have hc:=Ib hk
  exact aS X [2] rfl (by trivial) (ay (ah rfl (by and_intros<;>first|exact⟨⟩| (rw[hc];done))))
 ·have hk:zq x=true:=dy hb0 (by simp only[zq,bD]<;>first|rfl|ac_rfl)
  have hc:=DO hk
  have hkk:=hk
  rw[zq,Bool.and_eq_true]at hkk
  obtain⟨hok,hah⟩:=hkk
  have tI:=gy hok
  have Ur:=(rZ hok).1
  refine aE (af (aF X [1,2,3,4,5,7] rfl ?_))
  refine aG (aV (fun k=>k≤x.aC.length) (fun k:Nat=> [(7, .one ((aL k)))]) (fun k=> [(13, .arr .cg (EC x k).1),(20, .arr .int (EC x k).2)]) (fun k=>x.aC.length-k) 0 (fun k=>rfl) (aA _) rfl ?_)
  rintro k hk0
  have htb:=ac5 hok k hk0
  refine af (aF X [1,2,3,4,5,7,35] rfl ?_)
  refine az rfl ?_ ?_<;>intro ck
  ·try simp only[bW]at ck
   have hrl:=kU (kh x.seed [227,x.round,(k:Int)]) x.rows
   have hab:=ac1 (x.aC.getD k (aO .cg)) (j6 x.bZ (k:Int)) (eC x.aN) (jJ x.aN.rounds (eC x.aN)) (v:=(cR (kh x.seed [227,x.round,(k:Int)]) x.rows)) (by omega)
   have hsg:=Ys hok hah (kh x.seed [227,x.round,(k:Int)])
   refine aE (af (aG (aQ X [] [(41,⟨false,[aL (j6 x.bZ (k:Int))]⟩)] [1,2,3,4,5,7,8] [] rfl (by(with_reducible and_intros)<;>first|exact⟨⟩|exact(lI x.bZ (k:Int))) (af ?_))))
   have t1:=(v8 (x.aC.getD k (aO .cg)) (j6 x.bZ (k:Int)) (eC x.aN) (jJ x.aN.rounds (eC x.aN)) (cR (kh x.seed [227,x.round,(k:Int)]) x.rows) (by omega))
   refine aZ X [] [(57,⟨false,[aL (kh x.seed [227,x.round,(k:Int)])]⟩),(60,⟨true,[.a (.sl .int (cR (kh x.seed [227,x.round,(k:Int)]) x.rows))]⟩),(61,⟨true,dw t1⟩)] [1,2,3,4,5,7,8,9,10] [] 25165823 1 MO (by kernel_rfl) rfl (by kernel_rfl) (by(repeat' with_reducible first|exact bF|refine bS ?_ ?_|apply aT);(iterate 3 all_goals try first|exact(cC x.seed [227,x.round,(k:Int)] (by first|assumption|omega| (simp;done)| (simp;omega)))|exact(nO (kh x.seed [227,x.round,(k:Int)]) x.rows)|exact t1);all_goals first| (intros;omega)|exact⟨rfl,cB _ (by decide)⟩) ?_
   refine af ?_
   have t1:=(yt (j6 x.bZ (k:Int)) (jJ x.aN.rounds (eC x.aN)) (tsA x k) hab.1 hab.2)
   refine bE X [] [(69,⟨false,dw t1⟩)] [1,2,3,4,5,7,70] [] rfl (by(with_reducible and_intros)<;>first|exact⟨⟩|exact fun _=>t1) ?_
   refine az rfl ?_ ?_<;>intro dS
   ·have hbt:ZI x k=true:=by rw[hsg]at dS;exact dS
    have hst:=Sr (x:=x) (n:=k) hbt
    have t1:=(tB (⟨x.rows,(EC x k).1,x.aq,x.aN,x.bZ,x.seed,x.round,(EC x k).2,x.cancelled⟩:cm) x.round (k:Int) (by show(EC x k).1.length≤4;omega) Ur htb.1 (by show(EC x k).2.length≤_;omega) rfl)
    refine bE X [] [(800072,⟨true,KN t1⟩),(700072,⟨true, .agg [.ptr 1000 903, .ptr 11 13, .ptr 12 14, .ptr 13 16, .ptr 14 20]:: .agg []::KO t1⟩)] [1,2,3,4,5,7] [] rfl (by(with_reducible and_intros)<;>first|exact⟨⟩|exact t1) (cN X [1,2,3,4,5,7] rfl ?_)
    refine⟨k+1,by omega,by omega,?_⟩
    rw[cX _ k rfl (by omega), ←hst]
    try rfl
   ·have hbt:ZI x k=false:=by rw[hsg]at dS;exact dS
    have hst:=N5 (x:=x) (n:=k) hbt
    refine aE (cN X [1,2,3,4,5,7] rfl ?_)
    refine⟨k+1,by omega,by omega,?_⟩
    rw[cX _ k rfl (by omega),hst]
    try rfl
  ·try simp only[bW]at ck
   exact bn (aS X [2] rfl (by trivial) (ay (ah rfl (by and_intros<;>first|exact⟨⟩| (rw[hc];done)| (rw[hc,show k=x.aC.length by omega];done)))))
end
section
set_option maxRecDepth 100000
theorem E7(x:cm)(hR:wR x):So 32 [.agg (cq x)] [.agg (cq (jU x))]:=by
 refine aD X call32 func32 ntmps32 rfl rfl ?_
 intro zb
 obtain⟨h0,Yn⟩:=hR
 have tI:=NK h0
 refine aF X [1,2] rfl (af (aQ X [] [(9,⟨false,[bl (okW x)]⟩)] [1,2,15] [] rfl (by(with_reducible and_intros)<;>first|exact⟨⟩|exact(eX x)) ?_))
 refine az rfl ?_ ?_<;>intro hb0
 ·have hk:nY x=false:=dB hb0 (by simp only[nY,bD]<;>first|rfl|ac_rfl)
  have hc:=JZ hk
  exact aQ X [] [(17,⟨true,[.agg (cq x)]⟩)] [2] [] rfl (by(with_reducible and_intros)<;>first|exact⟨⟩|exact(lJ x h0)) (ay (ah rfl (by and_intros<;>first|exact⟨⟩| (rw[hc];done))))
 ·have hk:nY x=true:=dy hb0 (by simp only[nY,bD]<;>first|rfl|ac_rfl)
  have hc:=AN hk
  obtain⟨hok,hr9⟩:=LL hk
  have zZ:=j8 hok
  have hcs:=HT hok
  have hs4:=gy hok
  have hpd:=FG (cS x)
  have hjz:=gk (Sp _ hpd)
  have hgl:=sC x.bZ (cS x) (eD (cS x)) (ko x) (cS x).length
  have rz:(eD (cS x)).length=(cS x).length:=bw ..
  obtain⟨ZE,hB2⟩:=SC h0 hok Yn
  refine aE (aQ X [] [(20,⟨true,[.a (.sl .cg (cS x)), .a (.sl .gB (ko x))]⟩)] [1,2,3,4] [] rfl (by(with_reducible and_intros)<;>first|exact⟨⟩|exact(yg x h0)) (aQ X [] [(24,⟨true,[.a (.sl .DB (eD (cS x)))]⟩)] [1,2,3,4,5] [] rfl (by(with_reducible and_intros)<;>first|exact⟨⟩|exact(Ck (cS x) (by omega))) (af ?_)))
  have t1:=(yq (eD (cS x)) (by omega) hpd)
  refine bE X [] [(27,⟨true,dw t1⟩)] [1,2,3,4,5,6] [] rfl (by(with_reducible and_intros)<;>first|exact⟨⟩|exact t1) (af ?_)
  have t1:=(Cr x (ot x.bZ (cS x) (eD (cS x)) (ko x) (cS x).length) (jw (eD (cS x))) h0 (by omega) hjz)
  have t2:=(AO (dR x (ot x.bZ (cS x) (eD (cS x)) (ko x) (cS x).length) (jw (eD (cS x)))) ZE)
  have t3:=(DL (testW (dR x (ot x.bZ (cS x) (eD (cS x)) (ko x) (cS x).length) (jw (eD (cS x))))) hB2)
  exact aZ X [(38,60),(39,100),(40,150)] [(36,⟨true,[.a (.sl .int (ot x.bZ (cS x) (eD (cS x)) (ko x) (cS x).length))]⟩),(38,⟨true,dw t1⟩),(39,⟨true,dw t2⟩),(40,⟨true,dw t3⟩)] [2] [] 2047 0 MO (by kernel_rfl) rfl (by kernel_rfl) (by(with_reducible and_intros);(iterate 4 all_goals try first|exact⟨⟩|exact(Cj x.bZ (cS x) (eD (cS x)) (ko x) (by omega) hcs (Sj _))|exact t1|exact t2|exact t3)) (ay (ah rfl (by and_intros<;>first|exact⟨⟩| (rw[hc];done))))
theorem E8(x:cm)(hR:wR x)(hok:okW x=true):So 38 [.agg (cq x)] [.agg (cq (NX (testW (dR x (ot x.bZ (cS x) (eD (cS x)) (ko x) (cS x).length) (jw (eD (cS x)))))))]:=by
 refine aD X call38 func38 ntmps38 rfl rfl ?_
 intro zb
 obtain⟨h0,Yn⟩:=hR
 have tI:=NK h0
 have zZ:=j8 hok
 have hcs:=HT hok
 have hs4:=gy hok
 have hpd:=FG (cS x)
 have hjz:=gk (Sp _ hpd)
 have hgl:=sC x.bZ (cS x) (eD (cS x)) (ko x) (cS x).length
 have rz:(eD (cS x)).length=(cS x).length:=bw ..
 obtain⟨ZE,hB2⟩:=SC h0 hok Yn
 refine aF X [1,2] rfl (aQ X [] [(10,⟨true,[.a (.sl .cg (cS x)), .a (.sl .gB (ko x))]⟩)] [1,2,3,4] [] rfl (by(with_reducible and_intros)<;>first|exact⟨⟩|exact(yh x h0)) (aQ X [] [(14,⟨true,[.a (.sl .DB (eD (cS x)))]⟩)] [1,2,3,4,5] [] rfl (by(with_reducible and_intros)<;>first|exact⟨⟩|exact(Cm (cS x) (by omega))) (af ?_)))
 have t1:=(yu (eD (cS x)) (by omega) hpd)
 refine bE X [] [(17,⟨true,dw t1⟩)] [1,2,3,4,5,6] [] rfl (by(with_reducible and_intros)<;>first|exact⟨⟩|exact t1) (af ?_)
 have t1:=(Cs x (ot x.bZ (cS x) (eD (cS x)) (ko x) (cS x).length) (jw (eD (cS x))) h0 (by omega) hjz)
 have t2:=(AP (dR x (ot x.bZ (cS x) (eD (cS x)) (ko x) (cS x).length) (jw (eD (cS x)))) ZE)
 have t3:=(DN (testW (dR x (ot x.bZ (cS x) (eD (cS x)) (ko x) (cS x).length) (jw (eD (cS x))))) hB2)
 exact aZ X [(28,60),(29,100),(30,150)] [(26,⟨true,[.a (.sl .int (ot x.bZ (cS x) (eD (cS x)) (ko x) (cS x).length))]⟩),(28,⟨true,dw t1⟩),(29,⟨true,dw t2⟩),(30,⟨true,dw t3⟩)] [2] [] 2047 0 MO (by kernel_rfl) rfl (by kernel_rfl) (by(with_reducible and_intros);(iterate 4 all_goals try first|exact⟨⟩|exact(Cl x.bZ (cS x) (eD (cS x)) (ko x) (by omega) hcs (Sj _))|exact t1|exact t2|exact t3)) (ay (ah rfl ⟨rfl,rfl,rfl,rfl,rfl,rfl,rfl,rfl,rfl,rfl,⟨⟩⟩))
theorem E9(x:cm)(hR:wR x):So 13 [.agg (cq x)] [.agg (cq (jU x))]:=by
 refine aD X call13 func13 ntmps13 rfl rfl ?_
 intro zb
 have h0:=hR.1
 refine aF X [1,2] rfl (af (aQ X [] [(4,⟨false,[bl (okW x)]⟩)] [1,2,10] [] rfl (by(with_reducible and_intros)<;>first|exact⟨⟩|exact(gq x)) ?_))
 refine az rfl ?_ ?_<;>intro hb0
 ·have hk:nY x=false:=dB hb0 (by simp only[nY,bD]<;>first|rfl|ac_rfl)
  have hc:=JZ hk
  exact aQ X [] [(12,⟨true,[.agg (cq x)]⟩)] [2] [] rfl (by(with_reducible and_intros)<;>first|exact⟨⟩|exact(iR x h0)) (ay (ah rfl (by and_intros<;>first|exact⟨⟩| (rw[hc];done))))
 ·have hk:nY x=true:=dy hb0 (by simp only[nY,bD]<;>first|rfl|ac_rfl)
  have hc:=AN hk
  obtain⟨hok,hr9⟩:=LL hk
  refine aE (af ?_)
  have t1:=(E8 x hR hok)
  exact bE X [] [(14,⟨true,dw t1⟩)] [2] [] rfl (by(with_reducible and_intros)<;>first|exact⟨⟩|exact t1) (ay (ah rfl (by and_intros<;>first|exact⟨⟩| (rw[hc];done))))
end
section
set_option maxRecDepth 100000
theorem n8(c:gS):So 37 [.agg (c9 c)] [aL (waiting c)]:=by
 refine aD X call37 func37 ntmps37 rfl rfl ?_
 intro zb
 exact aF X [1] rfl (aF X [2] rfl (ay (ah rfl ⟨rfl,⟨⟩⟩)))
theorem vK(x:cm):So 33 [.agg (cq x)] [aL (IZ x.aq x.aq.length)]:=by
 refine aD X call33 func33 ntmps33 rfl rfl ?_
 intro zb
 refine dn 0 2 rfl rfl (fun qN=>(aF X [1] rfl (aF X [1,3] rfl (af (aF X [3,7,8,9] rfl ?_)))))
 refine aG (aV (fun k=>k≤x.aq.length) (fun k:Nat=> [(3, .one ((aL (IZ x.aq k)))),(9, .one ((aL k)))]) (fun k=> []) (fun k=>x.aq.length-k) 0 (fun k=>rfl) (aA _) rfl ?_)
 intro k hk
 refine aF X [3,7,8,9,10] rfl ?_
 refine af (az rfl ?_ ?_)<;>intro hb0
 ·try simp only[bW]at hb0
  refine aE (af (aG (aS X [3,5,7,8,9] rfl (by and_intros<;>first|exact⟨⟩| (intros;omega)) (bE X [] [(16,⟨false,[aL (waiting ((x.aq.getD k (aO .cD)).live))]⟩)] [3,7,8,9] [] rfl (by(with_reducible and_intros)<;>first|exact⟨⟩|exact(n8 ((x.aq.getD k (aO .cD)).live))) (cN X [3,7,8,9] rfl ?_)))))
  refine⟨k+1,by omega,by omega,?_⟩
  rw[cX _ k rfl (by omega)]
  try rfl
 ·try simp only[bW]at hb0
  exact bn (aF X [2] rfl (ay (ah rfl ⟨by rw[show k=x.aq.length by omega],⟨⟩⟩)))
theorem wI(x:cm)(hd:x.aq.length≤1048576):So 34 [.agg (cq x)] [aL (Vd x.aq x.aq.length)]:=by
 refine aD X call34 func34 ntmps34 rfl rfl ?_
 intro zb
 refine dn 0 2 rfl rfl (fun qN=>(aF X [1] rfl (aF X [1,3] rfl (af (aF X [1,3,7,8,9] rfl ?_)))))
 refine aG (aV (fun k=>k≤x.aq.length) (fun k:Nat=> [(3, .one ((aL (Vd x.aq k)))),(9, .one ((aL k)))]) (fun k=> []) (fun k=>x.aq.length-k) 0 (fun k=>rfl) (aA _) rfl ?_)
 intro k hk
 refine aF X [1,3,7,8,9,10] rfl ?_
 refine af (az rfl ?_ ?_)<;>intro hb0
 ·try simp only[bW]at hb0
  refine aE (af (aG (aS X [1,3,4,5,7,8,9] rfl (by and_intros<;>first|exact⟨⟩| (intros;omega)) (aQ X [] [(16,⟨false,[bl (Ap x (k:Int))]⟩)] [1,3,4,5,7,8,9,16] [] rfl (by(with_reducible and_intros)<;>first|exact⟨⟩|exact(Hh x (k:Int) (by first|assumption|omega| (simp;done)| (simp;omega)))) ?_))))
  refine az rfl ?_ ?_<;>intro ck
  ·rw[Ic hb0,decide_eq_true_eq]at ck
   have hx:(an.wrap (aU an.bits (k:Int)^^^aU an.bits 1).toNat)=((k^^^1:Nat):Int):=Xk k (by omega)
   have hx0:0≤(an.wrap (aU an.bits (k:Int)^^^aU an.bits 1).toNat)∧(an.wrap (aU an.bits (k:Int)^^^aU an.bits 1).toNat)<(x.aq.length:Int):=by rw[hx];omega
   refine aZ X [] [] [1,3,7,8,9] [] 131071 0 MO (by kernel_rfl) rfl (by kernel_rfl) (by and_intros<;>first|exact⟨⟩| (intros;omega)) (cN X [1,3,7,8,9] rfl ?_)
   refine⟨k+1,by omega,by omega,?_⟩
   rw[cX _ k rfl (by omega),SD ck,hx,Yt]
   try rfl
  ·rw[Ic hb0,decide_eq_false_iff_not]at ck
   refine aE (cN X [1,3,7,8,9] rfl ?_)
   refine⟨k+1,by omega,by omega,?_⟩
   rw[cX _ k rfl (by omega),Oe ck]
   try rfl
 ·try simp only[bW]at hb0
  exact bn (aF X [2] rfl (ay (ah rfl ⟨by rw[show k=x.aq.length by omega],⟨⟩⟩)))
theorem lf(x:cm)(hd:x.aq.length≤1048576):So 10 [.agg (cq x)] [bl (jy x)]:=by
 refine aD X call10 func10 ntmps10 rfl rfl ?_
 intro zb
 exact aF X [1] rfl (aQ X [] [(4,⟨false,[aL (IZ x.aq x.aq.length)]⟩),(8,⟨false,[aL (Vd x.aq x.aq.length)]⟩)] [2] [] rfl (by(with_reducible and_intros);(iterate 2 all_goals try first|exact⟨⟩|exact(vK x)|exact fun _=>(wI x hd))) (ay (ah rfl ⟨(congrArg Value.bool (by simp only[jy,bD]<;>first|rfl|ac_rfl)),⟨⟩⟩)))
theorem lK(x:cm)(l:Int)(hC:wC x 4100000):So 9 [.agg (cq x),aL l] [aL (delay x l)]:=by
 refine aD X call9 func9 ntmps9 rfl rfl ?_
 intro zb
 have hlm:=abv l
 have hlt:((zC l:Nat):Int)=CF l 400∨(CF l 400<0∧zC l=0):=by unfold zC;omega
 refine aF X [1,2] rfl (aF X [1,2,5] rfl ?_)
 refine aG (aV (fun k=>k≤zC l∧delay x l=Yu x k (zC l-k)) (fun k:Nat=> [(5, .one ((aL k)))]) (fun k=> [(2, .box [fZ (gT x k).rows, .sl .cg (gT x k).aC, .sl .cD (gT x k).aq,fZ (gT x k).aN.rows, .sl .bt (gT x k).aN.rounds,fZ (gT x k).bZ,fZ (gT x k).seed,fZ (gT x k).round, .sl .int (gT x k).replaced,fZ (gT x k).cancelled])]) (fun k=>zC l-k) 0 (fun k=>rfl) ⟨aA _,rfl⟩ rfl ?_)
 rintro k ⟨hk,zi⟩
 have hrb:=LO hC (k:=k) (by omega)
 refine af (aG (af (aQ X [] [(9,⟨false,[bl (jy (gT x k))]⟩)] [1,2,5,9] [] rfl (by(with_reducible and_intros)<;>first|exact⟨⟩|exact(lf (gT x k) hrb.2)) ?_)))
 refine az rfl ?_ ?_<;>intro hb0
 ·have hq:jy (gT x k)=true:=hb0
  exact aF X [4] rfl (ay (ah rfl ⟨by rw[zi,SE hq],⟨⟩⟩))
 ·have hq:jy (gT x k)=false:=hb0
  refine aE (af (aF X [1,2,5,14] rfl ?_))
  refine az rfl ?_ ?_<;>intro ck
  ·try simp only[bW]at ck
   have hke:zC l-k=0:=by omega
   rw[hke,SF hq]at zi
   exact aF X [4] rfl (ay (ah rfl ⟨by rw[zi],⟨⟩⟩))
  ·try simp only[bW]at ck
   have Ix:k<zC l:=by omega
   rw[Yv hq (by omega),show zC l-k-1=zC l-(k+1)by omega]at zi
   refine aE (bE X [] [(16,⟨false,[.agg (cq (jU (gT x k)))]⟩)] [1,2,5] [] rfl (by(with_reducible and_intros)<;>first|exact⟨⟩|exact(E7 (gT x k) hrb.1)) (cN X [1,2,5] rfl ?_))
   refine⟨k+1,⟨by omega,zi⟩,by omega,?_⟩
   rw[cX _ k rfl (by omega)]
   try rfl
theorem lM(x:cm)(c:Int)(hC:wC x 4100000):So 11 [.agg (cq x),aL c] [.agg (cq (gT x (J0 c)))]:=by
 refine aD X call11 func11 ntmps11 rfl rfl ?_
 intro zb
 have h0:wB x:=Yb hC (by decide)
 refine aF X [1,2,4] rfl (aQ X [] [(8,⟨true,[.agg (cq x)]⟩)] [1,4,5] [] rfl (by(with_reducible and_intros)<;>first|exact⟨⟩|exact(iR x h0)) (af (aF X [1,4,5,6] rfl ?_)))
 refine aG (aV (fun k=>k≤J0 c) (fun k:Nat=> [(6, .one ((aL k)))]) (fun k=> [(9, .arr .cg (gT x k).aC),(10, .arr .cD (gT x k).aq),(12, .arr .bt (gT x k).aN.rounds),(16, .arr .int (gT x k).replaced),(5, .box [fZ (gT x k).rows, .own 9, .own 10,fZ (gT x k).aN.rows, .own 12,fZ (gT x k).bZ,fZ (gT x k).seed,fZ (gT x k).round, .own 16,fZ (gT x k).cancelled])]) (fun k=>J0 c-k) 0 (fun k=>rfl) (aA _) rfl ?_)
 intro k hk
 have hrn:=afc c
 have hrb:=LO hC (k:=k) (by omega)
 refine af (aF X [1,4,5,6,15] rfl ?_)
 refine az rfl ?_ ?_<;>intro hb0
 ·have hgo:=ahH hb0
  refine aE (af (aG (bE X [(19,150)] [(19,⟨true,[.agg (cq (jU (gT x k)))]⟩)] [1,4,5,6] [] rfl (by(with_reducible and_intros)<;>first|exact⟨⟩|exact(E9 (gT x k) hrb.1)) (FF 151 9 rfl (FF 152 10 rfl (FF 154 12 rfl (FF 158 16 rfl (cN X [1,4,5,6] rfl ?_))))))))
  refine⟨k+1,by omega,by omega,?_⟩
  rw[cX _ k rfl (by omega)]
  try rfl
 ·have hkk:=(afd hk hb0).symm
  exact bn (aS X [4] rfl (by trivial) (ay (ah rfl (by and_intros<;>first|exact⟨⟩| (rw[hkk];done)))))
end
section
set_option maxRecDepth 100000
theorem qz(c:gS)(b:List UInt8)(h0:ga aR c.bz≤1048576∧ga aR c.inbox≤1048576)(hb:b.length≤1048576):So 55 [.agg (c9 c), .a (.sl .u8 b)] [.agg (c9 (nZ c b)),bl (yd c b)]:=by
 refine aD X call55 func55 ntmps55 rfl rfl ?_
 intro zb
 have By:=gd h0.1
 refine aF X [1,2,4] rfl (aQ X [] [(8,⟨true,[.agg (c9 c)]⟩)] [1,2,4,6] [] rfl (by(with_reducible and_intros)<;>first|exact⟨⟩|exact(iQ c h0)) (af (aZ X [(13,11),(13,40)] [(500014,⟨true,[]⟩)] [2,4,6] [] 175 2 MO (by kernel_rfl) rfl (by kernel_rfl) (by and_intros<;>first|exact⟨⟩|exact rfl| (simp only[gl,maxLen,lens];omega)) (af (aQ X [] [(18,⟨false,[bl (fG c)]⟩),(22,⟨false,[bl (fG (DG c b))]⟩)] [2,4,6,24] [] rfl (by(with_reducible and_intros);(iterate 2 all_goals try first|exact⟨⟩|exact(fX c)|exact fun _=>(fX (DG c b)))) ?_)))))
 refine az rfl ?_ ?_<;>intro hb0
 ·have hk:yd c b=false:=dB hb0 (by simp only[yd,bD]<;>first|rfl|ac_rfl)
  have hq:=abw hk
  exact aQ X [] [(26,⟨true,[.agg (c9 c)]⟩)] [4,5] [] rfl (by(with_reducible and_intros)<;>first|exact⟨⟩|exact(iQ c h0)) (ay (ah rfl (by and_intros<;>first|exact⟨⟩| (rw[hq];done)| (rw[hk];done))))
 ·have hk:yd c b=true:=dy hb0 (by simp only[yd,bD]<;>first|rfl|ac_rfl)
  have hq:=Ie hk
  exact aE (aS X [4,5] rfl (by trivial) (ay (ah rfl (by and_intros<;>first|exact⟨⟩| (rw[hq];rfl;done)| (rw[hk];done)))))
theorem wJ(d:cD)(b:List UInt8)(h0:dH d≤1048576)(hb:b.length≤1048576):So 31 [.agg (dZ d), .a (.sl .u8 b)] [.agg (dZ (DI d b)),bl (DH d b)]:=by
 refine aD X call31 func31 ntmps31 rfl rfl ?_
 intro zb
 have Ad:eT d.live≤1048576∧eT d.saved≤1048576:=by unfold dH at h0;omega
 unfold eT at Ad
 refine aF X [1,2,4] rfl (aQ X [] [(14,⟨true,[.agg (c9 (nZ d.live b)),bl (yd d.live b)]⟩)] [1,2,4,6,7] [] rfl (by(with_reducible and_intros)<;>first|exact⟨⟩|exact(qz d.live b ⟨by omega,by omega⟩ hb)) (aQ X [] [(21,⟨true,[.agg (c9 (nZ d.saved b)),bl (yd d.saved b)]⟩)] [2,4,6,7,8,9] [] rfl (by(with_reducible and_intros)<;>first|exact⟨⟩|exact(qz d.saved b ⟨by omega,by omega⟩ hb)) (af (aQ X [] [(25,⟨false,[bl (fJ d)]⟩)] [2,4,6,8,34] [] rfl (by(with_reducible and_intros)<;>first|exact⟨⟩|exact(gQ d)) ?_))))
 refine az rfl ?_ ?_<;>intro hb0
 ·have hk:DH d b=false:=dB hb0 (by simp only[DH,bD]<;>first|rfl|ac_rfl)
  have hq:=abx hk
  exact aQ X [] [(36,⟨true,[.agg (dZ d)]⟩)] [4,5] [] rfl (by(with_reducible and_intros)<;>first|exact⟨⟩|exact(nX d h0)) (ay (ah rfl (by and_intros<;>first|exact⟨⟩| (rw[hq];done)| (rw[hk];done))))
 ·have hk:DH d b=true:=dy hb0 (by simp only[DH,bD]<;>first|rfl|ac_rfl)
  have hq:=Yw hk
  exact aE (aS X [4,5] rfl (by trivial) (ay (ah rfl (by and_intros<;>first|exact⟨⟩| (rw[hq];done)| (rw[hk];done)))))
theorem yw(x:cm)(c:Int)(b:List UInt8)(h0:wB x)(hb:b.length≤1048576):So 8 [.agg (cq x),aL c, .a (.sl .u8 b)] [.agg (cq (LJ x c b)),bl (Qs x c b)]:=by
 refine aD X call8 func8 ntmps8 rfl rfl ?_
 intro zb
 refine dn 0 1 rfl rfl (fun hl1=> ?_)
 refine dn 0 2 rfl rfl (fun qN=> ?_)
 have hdv:=acW h0
 have tI:=NK h0
 have hw:an.wrap ((x.aq.length:Int)-1)=(x.aq.length:Int)-1:=dA (by omega)
 refine aF X [1,2,3,6] rfl (aQ X [] [(12,⟨true,[.agg (cq x)]⟩)] [1,2,3,6,8] [] rfl (by(with_reducible and_intros)<;>first|exact⟨⟩|exact(iR x h0)) (af (af ?_)))
 have t1:=(bU c 0 (an.wrap ((x.aq.length:Int)-1)))
 refine bE X [] [(14,⟨false,[bl (okW x)]⟩),(22,⟨false,dw t1⟩)] [1,2,3,6,8,24] [] rfl (by(with_reducible and_intros);(iterate 2 all_goals try first|exact⟨⟩|exact(gq x)|exact fun _=>t1)) ?_
 refine az rfl ?_ ?_<;>intro hb0
 ·have hk:qy x c=false:=dB hb0 (by simp only[qy,vv,hw,bD]<;>first|rfl|ac_rfl)
  have hq:=aff (b:=b) hk
  exact aS X [6,7] rfl (by trivial) (ay (ah rfl (by and_intros<;>first|exact⟨⟩| (rw[hq.1];done)| (rw[hq.2];done))))
 ·have hk:qy x c=true:=dy hb0 (by simp only[qy,vv,hw,bD]<;>first|rfl|ac_rfl)
  obtain⟨hok,hc0,Ad⟩:=LK hk
  have hdz:=afe hk
  have hq:=aby (b:=b) hk
  refine aE (af ?_)
  have t1:=(wJ (x.aq.getD c.toNat (aO .cD)) b hdz hb)
  exact bE X [] [(33,⟨true,dw t1⟩)] [1,6,8,9,10] [] rfl (by(with_reducible and_intros)<;>first|exact⟨⟩|exact t1| (intros;omega)) (aS X [6,8,10] rfl (by and_intros<;>first|exact⟨⟩| (intros;omega)) (aS X [6,7] rfl (by trivial) (ay (ah rfl (by and_intros<;>first|exact⟨⟩| (rw[hq.1];rfl;done)| (rw[hq.2];rfl;done))))))
end
section
set_option maxRecDepth 100000
theorem Cv(r:Int)(h:1≤r∧r≤64):So 23 [aL r] [.agg (fY (⟨r,[]⟩:mj))]:=by
 refine aD X call23 func23 ntmps23 rfl rfl ?_
 intro zb
 refine aF X [0,2] rfl (af (aQ X [] [(4,⟨false,[bl (inr r 1 64)]⟩)] [0,2,5] [] rfl (by(with_reducible and_intros)<;>first|exact⟨⟩|exact(bU r 1 64)) ?_))
 refine az rfl ?_ ?_<;>intro hb0
 ·try simp only[bW]at hb0
  omega
 ·try simp only[bW]at hb0
  exact aE (aS X [2] rfl (by trivial) (ay (ah rfl ⟨rfl,rfl,⟨⟩⟩)))
theorem DU(i f k s:Int)(h1:0≤i∧i≤7)(h2:0≤f∧f≤7)(h3:i≠f)(h4:1≤k∧k≤2147483646):So 28 [aL i,aL f,aL k,aL s] [.agg (c9 (⟨i,f,k,s,[],0,[],0⟩:gS))]:=by
 refine aD X call28 func28 ntmps28 rfl rfl ?_
 intro zb
 refine aF X [0,1,2,3,8] rfl (af (aQ X [] [(12,⟨false,[bl (inr i 0 7&&inr f 0 7&& !(i==f)&&iC k)]⟩)] [0,1,2,3,8,13] [] rfl (by(with_reducible and_intros)<;>first|exact⟨⟩|exact(BI i f k)) ?_))
 refine az rfl ?_ ?_<;>intro hb0
 ·try simp only[bW]at hb0
  have hq:iC k=true:=by unfold iC;rw[dD];exact h4
  rw[hq]at hb0
  simp at hb0
  omega
 ·exact aE (aS X [8] rfl (by trivial) (ay (ah rfl ⟨rfl,rfl,rfl,rfl,rfl,rfl,rfl,rfl,⟨⟩⟩)))
theorem Fb(rows s p seed:Int)(hr:1≤rows∧rows≤64)(hs:2≤s∧s≤4)(hp:1≤p∧p≤4):So 6 [aL rows,aL s,aL p,aL seed] [.agg (cq (ou rows s.toNat p.toNat seed))]:=by
 refine aD X call6 func6 ntmps6 rfl rfl ?_
 intro zb
 refine aF X [0,1,2,3,8] rfl (af (aQ X [] [(14,⟨false,[bl (inr rows 1 64)]⟩),(18,⟨false,[bl (eA s)]⟩),(23,⟨false,[bl (inr p 1 4)]⟩)] [0,1,2,3,8,25] [] rfl (by(with_reducible and_intros);(iterate 3 all_goals try first|exact⟨⟩|exact(bU rows 1 64)|exact fun _=>(jG s)|exact fun _=>(bU p 1 4))) ?_))
 refine az rfl ?_ ?_<;>intro hb0
 ·try simp only[bW]at hb0
  simp[eA,inr]at hb0
  omega
 ·refine aE (af ?_)
  have t1:=(rM 1 (kh seed [197]))
  refine bE X [(29,63)] [(29,⟨true,[.agg (fY (⟨rows,[]⟩:mj))]⟩),(32,⟨false,[aL (kh seed [197])]⟩),(33,⟨false,dw t1⟩)] [0,1,2,3,8,9] [] rfl (by(repeat' with_reducible first|exact bF|refine bS ?_ ?_|apply aT);(iterate 3 all_goals try first|exact(Cv rows (by first|assumption|omega| (simp;done)| (simp;omega)))|exact(cC seed [197] (by first|assumption|omega| (simp;done)| (simp;omega)))|exact t1);all_goals first|exact⟨rfl,cB _ (by decide)⟩) ?_
  rw[Fv (fW _ _).1]
  refine lE 9 1 61 .cg rfl (lE 9 2 62 .cD rfl (af (aF X [0,1,2,3,8,9,10] rfl ?_)))
  refine aG (aV (fun k=>k≤s.toNat) (fun k:Nat=> [(10, .one ((aL k)))]) (fun k=> [(61, .arr .cg (Ct rows k))]) (fun k=>s.toNat-k) 0 (fun k=>rfl) (aA _) rfl ?_)
  intro k hk
  have hle:=FN rows k
  refine af (aF X [0,1,2,3,8,9,10,38] rfl ?_)
  refine az rfl ?_ ?_<;>intro ck
  ·try simp only[bW]at ck
   have hns:=H8 (id:=(k:Int)) (rows:=rows) (by omega) hr
   refine aE (af (aG (aZ X [(47,61)] [(45,⟨true,[.agg (dr (newS (k:Int) rows 0))]⟩),(500046,⟨true,[]⟩)] [0,1,2,3,8,9,10] [] 63 0 MO (by kernel_rfl) rfl (by kernel_rfl) (by(repeat' with_reducible first|exact bF|refine bS ?_ ?_|apply aT)<;>first|exact(uJ (k:Int) rows 0)|exact rfl|exact⟨rfl,cB _ (by decide)⟩| (simp only[gl,maxLen,lens];omega)) ?_)))
   rw[hns]
   refine cN X [0,1,2,3,8,9,10] rfl ?_
   refine⟨k+1,by omega,by omega,?_⟩
   rw[cX _ k rfl (by omega),YI]
   try rfl
  ·try simp only[bW]at ck
   have hks:s.toNat=k:=by omega
   refine bn (af (aF X [2,3,8,9,11] rfl ?_))
   refine aG (aV (fun k1=>k1≤(2*p.toNat)) (fun k1:Nat=> [(11, .one ((aL k1)))]) (fun k1=> [(62, .arr .cD (yx seed k1))]) (fun k1=>(2*p.toNat)-k1) 0 (fun k1=>rfl) (aA _) rfl ?_)
   intro k1 hk1
   have aa2:=FO seed k1
   have hp2:an.wrap (2*p)=2*p:=dA (by omega)
   refine af (aF X [2,3,8,9,11,52] rfl ?_)
   refine az rfl ?_ ?_<;>intro dS
   ·try simp only[bW]at dS
    rw[hp2]at dS
    have hkr:=yR (fW seed [199,(k1:Int).tdiv 2])
    have hx:(an.wrap (aU an.bits (k1:Int)^^^aU an.bits 1).toNat)=((k1^^^1:Nat):Int):=Xk k1 (by omega)
    have hxl:=Ao k1 8 (by omega) (by decide)
    have hxn:=SK k1
    have hxm:=Fv (fW seed [199,(k1:Int).tdiv 2]).1
    have hw2:an.wrap ((k1:Int).tdiv 2)=(k1:Int).tdiv 2:=by rw[BD (by omega)];exact dA (by omega)
    refine aE (af (aG (af ?_)))
    have t1:=(cC seed [199,an.wrap ((k1:Int).tdiv 2)] (by first|assumption|omega| (simp;done)| (simp;omega)))
    have t2:=(rM 1 (kh seed [199,an.wrap ((k1:Int).tdiv 2)]))
    refine bE X [] [(59,⟨false,dw t1⟩),(60,⟨false,dw t2⟩)] [2,3,8,9,11,12] [] rfl (by(repeat' with_reducible first|exact bF|refine bS ?_ ?_|apply aT);(iterate 2 all_goals try first|exact t1|exact t2);all_goals first| (intros;omega)|exact⟨rfl,cB _ (by decide)⟩) ?_
    rw[hw2,hxm]
    have t1:=(DU (k1:Int) (an.wrap (aU an.bits (k1:Int)^^^aU an.bits 1).toNat) (Ej (kh seed [199,(k1:Int).tdiv 2])) (kh seed [211,(k1:Int)]) (by omega) (by rw[hx];omega) (by rw[hx];omega) (by omega))
    refine aZ X [(74,62)] [(70,⟨false,[aL (kh seed [211,(k1:Int)])]⟩),(71,⟨false,dw t1⟩),(72,⟨true,[.agg (dZ (⟨(⟨(k1:Int),(an.wrap (aU an.bits (k1:Int)^^^aU an.bits 1).toNat),(Ej (kh seed [199,(k1:Int).tdiv 2])),(kh seed [211,(k1:Int)]),[],0,[],0⟩:gS),(⟨(k1:Int),(an.wrap (aU an.bits (k1:Int)^^^aU an.bits 1).toNat),(Ej (kh seed [199,(k1:Int).tdiv 2])),(kh seed [211,(k1:Int)]),[],0,[],0⟩:gS)⟩:cD))]⟩)] [2,3,8,9,11] [] 20479 2 MO (by kernel_rfl) rfl (by kernel_rfl) (by(repeat' with_reducible first|exact bF|refine bS ?_ ?_|apply aT);(iterate 3 all_goals try first|exact(cC seed [211,(k1:Int)] (by first|assumption|omega| (simp;done)| (simp;omega)))|exact t1|exact(uH (⟨(k1:Int),(an.wrap (aU an.bits (k1:Int)^^^aU an.bits 1).toNat),(Ej (kh seed [199,(k1:Int).tdiv 2])),(kh seed [211,(k1:Int)]),[],0,[],0⟩:gS) ⟨aA _,aA _⟩));all_goals first|exact rfl|exact⟨rfl,cB _ (by decide)⟩| (simp only[gl,maxLen,lens];omega)) ?_
    rw[hx]
    refine cN X [2,3,8,9,11] rfl ?_
    refine⟨k1+1,by omega,by omega,?_⟩
    rw[cX _ k1 rfl (by omega),YJ]
    try rfl
   ·try simp only[bW]at dS
    rw[hp2]at dS
    have Qt:2*p.toNat=k1:=by omega
    exact bn (aS X [8] rfl (by trivial) (ay (ah rfl ⟨rfl,by rw[hks];rfl,by rw[←Qt];rfl,rfl,rfl,rfl,rfl,rfl,rfl,rfl,⟨⟩⟩)))
theorem YQ(l:List UInt8):So 5 [.a (.sl .u8 l)] [bl (decide ((1048576:Int)<(l.length:Int)))]:=by
 refine aD X call5 func5 ntmps5 rfl rfl ?_
 intro zb
 exact aF X [0] rfl (aF X [2] rfl (ay (ah rfl ⟨rfl,⟨⟩⟩)))
theorem AT(l:List UInt8)(i:Int)(hi:0≤i∧i≤1000):So 7 [.a (.sl .u8 l),aL i] [aL (EG l i)]:=by
 refine aD X call7 func7 ntmps7 rfl rfl ?_
 intro zb
 refine aF X [0,1] rfl (af (aF X [0,1,8] rfl ?_))
 refine az rfl ?_ ?_<;>intro hb0
 ·try simp only[bW]at hb0
  exact aS X [4] rfl (by and_intros<;>first|exact⟨⟩| (intros;omega)) (ay (ah rfl ⟨by rw[EG,if_pos (by omega)],⟨⟩⟩))
 ·try simp only[bW]at hb0
  exact aE (aS X [4] rfl (by and_intros<;>first|exact⟨⟩| (intros;omega)) (ay (ah rfl ⟨by rw[EG,if_neg (by omega)],⟨⟩⟩)))
end
section
set_option maxRecDepth 100000
theorem lp(x:cm):So 12 [.agg (cq x)] [aL (coll x)]:=by
 refine Jz X3 call12 func12 rfl rfl (by decide) ntmps12 (by simp) ?_
 intro zb
 refine dn 0 2 rfl rfl (fun qN=> ?_)
 have hrl:=DY x
 refine aF X3 [1] rfl (af (aQ X3 [] [(14,⟨false,[bl (okW x)]⟩)] [1,15] [] rfl (by(with_reducible and_intros)<;>first|exact⟨⟩|exact(eX x)) ?_))
 refine az rfl ?_ ?_<;>intro hb0
 ·have hok:okW x=false:=by simpa using hb0
  exact aF X3 [2] rfl (ay (ah rfl ⟨by rw[coll,hok];rfl,⟨⟩⟩))
 ·have hok:okW x=true:=by simpa using hb0
  have hn8:=(sY (nL hok)).2.1
  refine aE (aF X3 [1,3] rfl (aS X3 [1,3,4] rfl (by and_intros<;>first|exact⟨⟩|exact rfl) (af (aF X3 [1,3,4,19,20,21] rfl ?_))))
  refine aG (aV (fun k=>k≤x.aq.length) (fun k:Nat=> [(21, .one ((aL k)))]) (fun k=> [(16, .jc .int (UC ((qc x).take k)) .mp),(17, .arr .int ((qc x).take k))]) (fun k=>x.aq.length-k) 0 (fun k=>rfl) (aA _) rfl ?_)
  intro k hk
  have hle:=ct (qc x) k
  refine aF X3 [1,3,4,19,20,21,22] rfl ?_
  refine af (az rfl ?_ ?_)<;>intro ck
  ·try simp only[bW]at ck
   have hs:=QA (x:=x) (k:=k) (by omega)
   have zI:=J7 (qc x) k (by omega)
   rw[y8 (by omega)]at zI
   refine aE (af (aG (aS X3 [1,3,4,6,19,20,21] rfl (by and_intros<;>first|exact⟨⟩| (intros;omega)) (af ?_))))
   have t1:=(rU ((x.aq.getD k (aO .cD)).live) x.round x.rows)
   refine bE X3 [] [(32,⟨true,dw t1⟩)] [1,3,4,7,19,20,21] [] rfl (by(with_reducible and_intros)<;>first|exact⟨⟩|exact t1) (aQ X3 [(39,17)] [] [1,3,4,7,19,20,21] [] rfl (by and_intros<;>first|exact⟨⟩|exact rfl| (simp only[gl,maxLen,lens];omega)) (cN X3 [1,3,4,19,20,21] rfl (cN X3 [1,3,4,19,20,21] rfl ?_)))
   refine⟨k+1,by omega,by omega,?_⟩
   rw[cX _ k rfl (by omega),zI,hs]
   try rfl
  ·try simp only[bW]at ck
   have hta:(qc x).take k=(qc x):=List.take_of_length_le (by omega)
   refine bn (af ?_)
   rw[hta]
   refine cN X3 [1,3,4,10] rfl (af (aF X3 [3,4,10,46,47,48] rfl ?_))
   refine aG (aV (fun k1=>k1≤x.aq.length) (fun k1:Nat=> [(10, .one ((aL ((DZ x k1:Nat):Int)))),(48, .one ((aL k1)))]) (fun k1=> []) (fun k1=>x.aq.length-k1) 0 (fun k1=>rfl) (aA _) rfl ?_)
   intro k1 hk1
   have zZ:=abP x k1
   refine aF X3 [3,4,10,46,47,48,49] rfl ?_
   refine af (az rfl ?_ ?_)<;>intro dS
   ·try simp only[bW]at dS
    have hh:=afo (l:=(qc x)) (i:=k1) (by omega) (by omega)
    refine aE (af (aG (aS X3 [3,4,10,11,12,46,47,48] rfl (by and_intros<;>first|exact⟨⟩| (intros;omega)) (aQ X3 [] [(55,⟨false,[aL (waiting ((x.aq.getD k1 (aO .cD)).live))]⟩)] [3,4,10,46,47,48,65] [] rfl (by(with_reducible and_intros)<;>first|exact⟨⟩|exact(n8 ((x.aq.getD k1 (aO .cD)).live))| ((intro h1;first| (intro h2;first| (intro h3;refine aT ?_ ?_)|refine aT ?_ ?_)|refine aT ?_ ?_)<;>first|omega| ((try simp only[bW]at*);(try simp(disch:=omega) only[dA]);omega))| (refine fun _=> ?_;dsimp only[hyps,rq];omega)) ?_))))
    refine az rfl ?_ ?_<;>intro BJ
    ·have hc:AU x k1=true:=by unfold AU;rw[←hh];simpa using BJ
     have hs:=Ot hc
     refine cN X3 [3,4,10,46,47,48] rfl (cN X3 [3,4,10,46,47,48] rfl ?_)
     refine⟨k1+1,by omega,by omega,?_⟩
     rw[cX _ k1 rfl (by omega),cX _ (DZ x k1) rfl (by omega),hs]
     try rfl
    ·have hc:AU x k1=false:=by unfold AU;rw[←hh];simpa using BJ
     have hs:=D0 hc
     refine aE (cN X3 [3,4,10,46,47,48] rfl ?_)
     refine⟨k1+1,by omega,by omega,?_⟩
     rw[cX _ k1 rfl (by omega),hs]
     try rfl
   ·try simp only[bW]at dS
    exact bn (aF X3 [2] rfl (ay (ah rfl ⟨by rw[coll,if_pos hok,show x.aq.length=k1 by omega],⟨⟩⟩)))
end
section
set_option maxRecDepth 100000
theorem afG{c n dd:Int}(h:(c=0∧n=1)∨c=1)(hd:dd= -1):(if(if decide (c≤1)=true then(if(c==1)=true then true else n==1)else false)=true then dd== -1 else false)=true:=by
 rcases h with⟨rfl,rfl⟩|rfl<;>subst hd<;>rfl
set_option maxHeartbeats 1000000 in
theorem QJ(x0:List UInt8)(amY:(fun l=> ∀x,x∈l→(fun _=>True) x) x0):So 3 [.a (.sl .u8 x0)] [bl true]:=by
 refine aD X call3 func3 ntmps3 rfl rfl ?_
 intro zb
 refine aF X [0] rfl (af (aQ X [] [(8,⟨false,[bl (decide ((1048576:Int)<(x0.length:Int)))]⟩)] [0,8] [] rfl (by(repeat' with_reducible first|exact bF|refine bS ?_ ?_|apply aT)<;>first|exact(YQ x0)|exact fun _=>(YQ x0)|exact fun _ _=>(YQ x0)| (intros;omega)|exact rfl|exact cB _ (by decide)|exact⟨rfl,cB _ (by decide)⟩| ((intro h1;first| (intro h2;first| (intro h3;refine aT ?_ ?_)|refine aT ?_ ?_)|refine aT ?_ ?_)<;>first|omega| ((try simp only[bW]at*);(try simp(disch:=omega) only[dA]);omega))| ((try simp only[bW]at*);(simp(disch:=omega) only[dA]);omega)| (refine fun _=> ?_;dsimp only[hyps,rq];omega)| (refine fun _ _=> ?_;dsimp only[hyps,rq];omega)|exact(qo _).1|exact(qo _).2|exact(PV _).1|exact(PV _).2| (simp only[gl,maxLen,lens];omega)| (intros;simp only[nb]at*;omega)) ?_))
 refine az rfl ?_ ?_<;>intro hb0
 ·try simp only[bW]at hb0
  exact aF X [2] rfl (ay (ah rfl ⟨rfl,⟨⟩⟩))
 ·try simp only[bW]at hb0
  have hl:x0.length≤1048576:=by omega
  have a0:=Oq x0 (i:=0) hl (by decide)
  have a1:=Oq x0 (i:=1) hl (by decide)
  have a2:=Oq x0 (i:=2) hl (by decide)
  have a3:=Oq x0 (i:=3) hl (by decide)
  have a4:=Oq x0 (i:=4) hl (by decide)
  have b0:=LS (n:=48) a0.1 (by decide)
  have b1:=LS (n:=3) a1.1 (by decide)
  have b2:=LS (n:=2) a2.1 (by decide)
  obtain⟨R,hR⟩: ∃R:Nat,(an.wrap (16+(EG x0 0).tmod 48))=(R:Int):=⟨(16+(EG x0 0).tmod 48).toNat,by rw[dA (by omega)];omega⟩
  obtain⟨s,hs⟩: ∃s:Nat,(an.wrap (2+(EG x0 1).tmod 3))=(s:Int):=⟨(2+(EG x0 1).tmod 3).toNat,by rw[dA (by omega)];omega⟩
  obtain⟨p,hp⟩: ∃p:Nat,(an.wrap (1+(EG x0 2).tmod 2))=(p:Int):=⟨(1+(EG x0 2).tmod 2).toNat,by rw[dA (by omega)];omega⟩
  obtain⟨q,hq⟩: ∃q:Nat,(EG x0 3)=(q:Int):=⟨(EG x0 3).toNat,by omega⟩
  have hR2:16≤R∧R<64:=by(rw[dA (by omega)]at hR;omega)
  have zI:2≤s∧s≤4:=by(rw[dA (by omega)]at hs;omega)
  have hp2:1≤p∧p≤2:=by(rw[dA (by omega)]at hp;omega)
  have OO:q<256:=by omega
  have zi:(ou (R:Int) s p (q:Int)).aq.length=2*p:=FO (q:Int) (2*p)
  have b4:=LS (n:=((ou (R:Int) s p (q:Int)).aq.length:Int)) a4.1 (by omega)
  obtain⟨d,hd⟩: ∃d:Nat,((EG x0 4).tmod ((ou (R:Int) s p (q:Int)).aq.length:Int))=(d:Int):=⟨((EG x0 4).tmod ((ou (R:Int) s p (q:Int)).aq.length:Int)).toNat,by omega⟩
  have hd2:d<2*p:=by omega
  have hw:okW (ou (R:Int) s p (q:Int))=true:=SL (by omega) zI (by omega)
  have hwD:Ok (ou (R:Int) s p (q:Int)) 0:=⟨hw,fT 0,fT 0,Nat.le_refl 0⟩
  have hwb:=hwD.B (by decide)
  obtain⟨f1,f2,_,_,_,_,f7⟩:=Zi (rows:=(R:Int)) (seed:=(q:Int)) (s:=s) (p:=p) (d:=d) (m:= [7]) (by omega) zI (by omega) hd2 (by decide)
  obtain⟨K,k1,k2,k3,k4,k5,k6⟩:=afF f2 (by omega) hd2 (by decide) (Zk (Zl OO) hR2 hp2 hd2)
  have hr1:J0 ((K+1:Nat):Int)=K+1:=by(have:=LN (c:=((K+1:Nat):Int)) (by omega);omega)
  have Kc:J0 (an.wrap (((K+1:Nat):Int)-1))=K:=by(rw[dA (by omega)];have:=LN (c:=((K+1:Nat):Int)-1) (by omega);omega)
  refine aE (af ?_)
  have t1:=(Fb (an.wrap (16+(EG x0 0).tmod 48)) (an.wrap (2+(EG x0 1).tmod 3)) (an.wrap (1+(EG x0 2).tmod 2)) (EG x0 3) (by omega) (by omega) (by omega))
  refine bE X [] [(10,⟨false,[aL (EG x0 0)]⟩),(14,⟨false,[aL (EG x0 1)]⟩),(18,⟨false,[aL (EG x0 2)]⟩),(22,⟨false,[aL (EG x0 3)]⟩),(23,⟨false,dw t1⟩)] [0,3] [] rfl (by(repeat' with_reducible first|exact bF|refine bS ?_ ?_|apply aT);(iterate 5 all_goals try first|exact(AT x0 0 (by decide))|exact fun _=>(AT x0 0 (by decide))|exact fun _ _=>(AT x0 0 (by decide))|exact(AT x0 1 (by decide))|exact fun _=>(AT x0 1 (by decide))|exact fun _ _=>(AT x0 1 (by decide))|exact(AT x0 2 (by decide))|exact fun _=>(AT x0 2 (by decide))|exact fun _ _=>(AT x0 2 (by decide))|exact(AT x0 3 (by decide))|exact fun _=>(AT x0 3 (by decide))|exact fun _ _=>(AT x0 3 (by decide))|exact t1|exact fun _=>t1|exact fun _ _=>t1);all_goals first| (intros;omega)|exact rfl|exact cB _ (by decide)|exact⟨rfl,cB _ (by decide)⟩| ((intro h1;first| (intro h2;first| (intro h3;refine aT ?_ ?_)|refine aT ?_ ?_)|refine aT ?_ ?_)<;>first|omega| ((try simp only[bW]at*);(try simp(disch:=omega) only[dA]);omega))| ((try simp only[bW]at*);(simp(disch:=omega) only[dA]);omega)| (refine fun _=> ?_;dsimp only[hyps,rq];omega)| (refine fun _ _=> ?_;dsimp only[hyps,rq];omega)|exact(qo _).1|exact(qo _).2|exact(PV _).1|exact(PV _).2| (simp only[gl,maxLen,lens];omega)| (intros;simp only[nb]at*;omega)) ?_
  rw[hR,hs,hp,hq,jF,jF]
  refine af ?_
  have t1:=(yw (ou (R:Int) s p (q:Int)) ((EG x0 4).tmod ((ou (R:Int) s p (q:Int)).aq.length:Int)) [7] hwb (by decide))
  refine aZ X [] [(27,⟨false,[aL (EG x0 4)]⟩),(33,⟨false,dw t1⟩)] [3,4] [] 12287 1 MO (by kernel_rfl) rfl (by kernel_rfl) (by(repeat' with_reducible first|exact bF|refine bS ?_ ?_|apply aT);(iterate 3 all_goals try first|exact(AT x0 4 (by decide))|exact fun _=>(AT x0 4 (by decide))|exact fun _ _=>(AT x0 4 (by decide))|exact t1|exact fun _=>t1|exact fun _ _=>t1|exact(by(show qI [OL Tryz.prog ty .u8 7,0≤(7:Int)∧(7:Int)<256]);exact⟨⟨rfl,cB _ (by decide)⟩,by decide,⟨⟩⟩)|exact fun _=>(by(show qI [OL Tryz.prog ty .u8 7,0≤(7:Int)∧(7:Int)<256]);exact⟨⟨rfl,cB _ (by decide)⟩,by decide,⟨⟩⟩)|exact fun _ _=>(by(show qI [OL Tryz.prog ty .u8 7,0≤(7:Int)∧(7:Int)<256]);exact⟨⟨rfl,cB _ (by decide)⟩,by decide,⟨⟩⟩));all_goals first| (intros;omega)|exact rfl|exact cB _ (by decide)|exact⟨rfl,cB _ (by decide)⟩| ((intro h1;first| (intro h2;first| (intro h3;refine aT ?_ ?_)|refine aT ?_ ?_)|refine aT ?_ ?_)<;>first|omega| ((try simp only[bW]at*);(try simp(disch:=omega) only[dA]);omega))| ((try simp only[bW]at*);(simp(disch:=omega) only[dA]);omega)| (refine fun _=> ?_;dsimp only[hyps,rq];omega)| (refine fun _ _=> ?_;dsimp only[hyps,rq];omega)|exact(qo _).1|exact(qo _).2|exact(PV _).1|exact(PV _).2| (simp only[gl,maxLen,lens];omega)| (intros;simp only[nb]at*;omega)) ?_
  rw[hd,f1]
  generalize LJ (ou (R:Int) s p (q:Int)) (d:Int) [7]=x at f2 f7 k2 k3 k4 k5 k6 ⊢
  have hC:wC x 4100000:=yX f7.C (by decide)
  have ZE:=(LO hC (k:=K+1) (by omega)).2
  have hB2:=(LO hC (k:=K) (by omega)).2
  rw[←hr1]at ZE k3
  rw[←Kc]at hB2 k4
  refine aQ X [] [(37,⟨false,[aL (delay x 60)]⟩)] [3,4,5] [] rfl (by(repeat' with_reducible first|exact bF|refine bS ?_ ?_|apply aT)<;>first|exact(lK x 60 hC)|exact fun _=>(lK x 60 hC)|exact fun _ _=>(lK x 60 hC)| (intros;omega)|exact rfl|exact cB _ (by decide)|exact⟨rfl,cB _ (by decide)⟩| ((intro h1;first| (intro h2;first| (intro h3;refine aT ?_ ?_)|refine aT ?_ ?_)|refine aT ?_ ?_)<;>first|omega| ((try simp only[bW]at*);(try simp(disch:=omega) only[dA]);omega))| ((try simp only[bW]at*);(simp(disch:=omega) only[dA]);omega)| (refine fun _=> ?_;dsimp only[hyps,rq];omega)| (refine fun _ _=> ?_;dsimp only[hyps,rq];omega)|exact(qo _).1|exact(qo _).2|exact(PV _).1|exact(PV _).2| (simp only[gl,maxLen,lens];omega)| (intros;simp only[nb]at*;omega)) ?_
  rw[k2]
  refine af (af ?_)
  have t1:=(lM x (an.wrap (((K+1:Nat):Int)-1)) hC)
  have t2:=(lf (gT x (J0 (an.wrap (((K+1:Nat):Int)-1)))) hB2)
  refine bE X [] [(47,⟨false,[.agg (cq (gT x (J0 ((K+1:Nat):Int))))]⟩),(48,⟨false,[bl (jy (gT x (J0 ((K+1:Nat):Int))))]⟩),(55,⟨false,dw t1⟩),(56,⟨false,dw t2⟩)] [3,5,57] [] rfl (by(repeat' with_reducible first|exact bF|refine bS ?_ ?_|apply aT);(iterate 4 all_goals try first|exact(lM x ((K+1:Nat):Int) hC)|exact fun _=>(lM x ((K+1:Nat):Int) hC)|exact fun _ _=>(lM x ((K+1:Nat):Int) hC)|exact(lf (gT x (J0 ((K+1:Nat):Int))) ZE)|exact fun _=>(lf (gT x (J0 ((K+1:Nat):Int))) ZE)|exact fun _ _=>(lf (gT x (J0 ((K+1:Nat):Int))) ZE)|exact t1|exact fun _=>t1|exact fun _ _=>t1|exact t2|exact fun _=>t2|exact fun _ _=>t2);all_goals first| (intros;omega)|exact rfl|exact cB _ (by decide)|exact⟨rfl,cB _ (by decide)⟩| ((intro h1;first| (intro h2;first| (intro h3;refine aT ?_ ?_)|refine aT ?_ ?_)|refine aT ?_ ?_)<;>first|omega| ((try simp only[bW]at*);(try simp(disch:=omega) only[dA]);omega))| ((try simp only[bW]at*);(simp(disch:=omega) only[dA]);omega)| (refine fun _=> ?_;dsimp only[hyps,rq];omega)| (refine fun _ _=> ?_;dsimp only[hyps,rq];omega)|exact(qo _).1|exact(qo _).2|exact(PV _).1|exact(PV _).2| (simp only[gl,maxLen,lens];omega)| (intros;simp only[nb]at*;omega)) ?_
  refine az rfl ?_ ?_<;>intro ck
  ·exact absurd ck (by rw[k3,k4,decide_eq_false (by omega)];decide)
  ·refine aE (aQ X [] [(59,⟨false,[aL (coll x)]⟩)] [3,5,6] [] rfl (by(repeat' with_reducible first|exact bF|refine bS ?_ ?_|apply aT)<;>first|exact(lp x)|exact fun _=>(lp x)|exact fun _ _=>(lp x)| (intros;omega)|exact rfl|exact cB _ (by decide)|exact⟨rfl,cB _ (by decide)⟩| ((intro h1;first| (intro h2;first| (intro h3;refine aT ?_ ?_)|refine aT ?_ ?_)|refine aT ?_ ?_)<;>first|omega| ((try simp only[bW]at*);(try simp(disch:=omega) only[dA]);omega))| ((try simp only[bW]at*);(simp(disch:=omega) only[dA]);omega)| (refine fun _=> ?_;dsimp only[hyps,rq];omega)| (refine fun _ _=> ?_;dsimp only[hyps,rq];omega)|exact(qo _).1|exact(qo _).2|exact(PV _).1|exact(PV _).2| (simp only[gl,maxLen,lens];omega)| (intros;simp only[nb]at*;omega)) ?_)
   refine aQ X [] [(72,⟨false,[aL (delay x 0)]⟩)] [2] [] rfl (by(repeat' with_reducible first|exact bF|refine bS ?_ ?_|apply aT)<;>first|exact(lK x 0 hC)|exact fun _=>(lK x 0 hC)|exact fun _ _=>(lK x 0 hC)| (intros;omega)|exact rfl|exact cB _ (by decide)|exact⟨rfl,cB _ (by decide)⟩| ((intro h1;first| (intro h2;first| (intro h3;refine aT ?_ ?_)|refine aT ?_ ?_)|refine aT ?_ ?_)<;>first|omega| ((try simp only[bW]at*);(try simp(disch:=omega) only[dA]);omega))| ((try simp only[bW]at*);(simp(disch:=omega) only[dA]);omega)| (refine fun _=> ?_;dsimp only[hyps,rq];omega)| (refine fun _ _=> ?_;dsimp only[hyps,rq];omega)|exact(qo _).1|exact(qo _).2|exact(PV _).1|exact(PV _).2| (simp only[gl,maxLen,lens];omega)| (intros;simp only[nb]at*;omega)) ?_
   exact ay (ah rfl ⟨congrArg Value.bool (afG (k6.imp (fun h=>⟨h.1,by omega⟩) id) k5),⟨⟩⟩)
end
end Go.Proofs.YtkcegdacbddipaaGreat.G
