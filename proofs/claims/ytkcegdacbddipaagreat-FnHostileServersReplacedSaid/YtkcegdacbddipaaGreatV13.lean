/-
  New worlds; bytes of the input.
-/
import Derived.Test.YtkcegdacbddipaaGreatV12
namespace Go.Proofs.YtkcegdacbddipaaGreat.G
set_option linter.all false
open Go.RowKit L D Tryz
section
set_option maxRecDepth 100000
theorem uJ(key:Int)(a:cA)(h1:a.selection.length≤262144)(h2:a.data.length≤262144):So 172 [aA key, .agg (eK a)] [aG (OW key a)]:=by
 refine aq X call172 func172 ntmps172 rfl rfl ?_
 intro zb
 exact av X [0,3] rfl (af (aF X [] [(9,⟨false,[aA (DC key a.server a.round a.selection a.data)]⟩)] [4] [] 127 0 MO (by kernel_rfl) rfl (by kernel_rfl) (by(with_reducible and_intros)<;>first|exact⟨⟩|exact(pG key a h1 h2)) (ak (ah rfl ⟨rfl,⟨⟩⟩))))
theorem tj(key:Int)(d:DB)(a:cA)(h1:a.selection.length≤262144)(h2:a.data.length≤262144):So 112 [aA key, .agg (aS d), .agg (eK a)] [aG (YF key d a)]:=by
 refine aq X call112 func112 ntmps112 rfl rfl ?_
 intro zb
 exact av X [0,4,5] rfl (af (aF X [] [(9,⟨false,[aG (OW key a)]⟩),(16,⟨false,[.a (.sl .u8 (eg d a.selection))]⟩),(17,⟨false,[aG (a.data==(eg d a.selection))]⟩)] [6] [] 16383 0 MO (by kernel_rfl) rfl (by kernel_rfl) (by(with_reducible and_intros);(iterate 3 all_goals try first|exact⟨⟩|exact(uJ key a h1 h2)|exact fun _=>(nj d a.selection)|exact fun _=>(jA a.data (eg d a.selection)))) (ak (ah rfl ⟨(congrArg Value.bool (by simp only[YF,aO]<;>first|rfl|ac_rfl)),⟨⟩⟩))))
theorem yq(l:List DB)(jV:l.length≤1048576)(ha:sY l):So 104 [.a (.sl .DB l)] [.agg (aS (jw l)),aG (Bi l)]:=by
 refine aq X call104 func104 ntmps104 rfl rfl ?_
 intro zb
 refine av X [0,2] rfl (af (aC X [] [(11,⟨false,[aG (b7 (l.length:Int))]⟩)] [0,2,12] [] rfl (by(with_reducible and_intros)<;>first|exact⟨⟩|exact(dR (l.length:Int))) ?_))
 refine an rfl ?_ ?_<;>intro hb0
 ·have hk:b7 l.length=false:=by simpa using hb0
  have hj:=DI (M8 hk)
  exact aD X [2,3] rfl (by trivial) (ak (ah rfl ⟨by rw[hj.1],by rw[hj.2],⟨⟩⟩))
 ·have hk:b7 l.length=true:=by simpa using hb0
  have hcb:=DJ hk
  have OY:=M9 hk
  have h0z:=dw (kO ha 0)
  have uu:(l.drop 1).length=l.length-1:=List.length_drop ..
  refine au (aC X [] [(17,⟨true,[.agg (aS (l.getD (Int.toNat 0) (aB .DB)))]⟩)] [0,2,4] [] rfl (by(with_reducible and_intros)<;>first|exact⟨⟩|exact(ct (l.getD (Int.toNat 0) (aB .DB)) h0z)| (intros;omega)) (af (aD X [2,4,19,20,21] rfl (by and_intros<;>first|exact⟨⟩| (intros;omega)) ?_)))
  rw[aa8]
  refine ay (aE (fun k=>k≤(l.drop 1).length∧Lv l=HP (Bj l k) ((l.drop 1).drop k)) (fun k:Nat=> [(21, .one ((aA k)))]) (fun k=> [(17, .arr (.sl .u8) (Bj l k).rows)]) (fun k=>(l.drop 1).length-k) 0 (fun k=>rfl) ⟨Nat.zero_le _,OY⟩ rfl ?_)
  rintro k ⟨hk0,Ez⟩
  refine av X [2,4,19,20,21,22] rfl ?_
  refine af (an rfl ?_ ?_)<;>intro bf
  ·try simp only[aR]at bf
   have hz1:=dw (Sj ha k)
   have hz2:=dw (kO (Lw ha) k)
   refine au (af (ay (aD X [2,4,6,19,20,21] rfl (by and_intros<;>first|exact⟨⟩| (intros;omega)) (af ?_))))
   have t1:=(iy (Bj l k) ((l.drop 1).getD k (aB .DB)) hz1 hz2)
   refine aN X [] [(28,⟨true,bM t1⟩)] [2,4,7,8,19,20,21] [] rfl (by(with_reducible and_intros)<;>first|exact⟨⟩|exact t1) (af (av X [2,4,7,19,20,21,32] rfl ?_))
   refine an rfl ?_ ?_<;>intro bU
   ·have hx:gu (Bj l k) ((l.drop 1).getD k (aB .DB))=false:=by simpa using bU
    have hj:=DI (Ez.trans (Si l k bf hx))
    exact aD X [2,3] rfl (by trivial) (ak (ah rfl ⟨by rw[hj.1],by rw[hj.2],⟨⟩⟩))
   ·have hx:gu (Bj l k) ((l.drop 1).getD k (aB .DB))=true:=by simpa using bU
    have hs:=xR l k bf
    refine au (iV X [2,4,19,20,21] rfl (by trivial) (kG 4 0 17 rfl (bu X [2,4,19,20,21] rfl ?_)))
    refine⟨k+1,⟨by omega,Ez.trans (Jy l k bf hx)⟩,by omega,?_⟩
    rw[bC _ k rfl (by omega),hs]
    try rfl
  ·try simp only[aR]at bf
   have hj:=G7 (Ez.trans (M7 l k bf))
   exact aH (aD X [2,3] rfl (by trivial) (ak (ah rfl ⟨by rw[hj.1],by rw[hj.2],⟨⟩⟩)))
theorem tq(l:List DB)(jV:l.length≤1048576)(ha:sY l):So 59 [.a (.sl .DB l)] [.agg (aS (jw l)),aG (Bi l)]:=by
 refine aq X call59 func59 ntmps59 rfl rfl ?_
 intro zb
 exact av X [0,2] rfl (aC X [] [(5,⟨true,[.agg (aS (jw l)),aG (Bi l)]⟩)] [2,3] [] rfl (by(with_reducible and_intros)<;>first|exact⟨⟩|exact(yq l jV ha)) (ak (ah rfl ⟨rfl,rfl,⟨⟩⟩)))
theorem Ad(id rows b:Int):So 175 [aA id,aA rows,aA b] [.agg (bL (newS id rows b))]:=by
 refine aq X call175 func175 ntmps175 rfl rfl ?_
 intro zb
 refine av X [0,1,2,6] rfl (af (aC X [] [(8,⟨false,[aG (inr id 0 3)]⟩),(12,⟨false,[aG (inr rows 1 64)]⟩),(17,⟨false,[aG (inr b 0 3)]⟩)] [0,1,2,6,19] [] rfl (by(with_reducible and_intros);(iterate 3 all_goals try first|exact⟨⟩|exact(aL id 0 3)|exact fun _=>(aL rows 1 64)|exact fun _=>(aL b 0 3))) ?_))
 refine an rfl ?_ ?_<;>intro hb0
 ·have hk:DK id rows b=false:=bP hb0 (by simp only[DK,aO]<;>first|rfl|ac_rfl)
  have hn:newS id rows b=⟨0,0,0,[],0⟩:=by rw[newS,hk];rfl
  exact aD X [6] rfl (by trivial) (ak (ah rfl (by and_intros<;>first|exact⟨⟩| (rw[hn];done))))
 ·have hk:DK id rows b=true:=bO hb0 (by simp only[DK,aO]<;>first|rfl|ac_rfl)
  have hn:newS id rows b=⟨id,rows,0,[],b⟩:=by rw[newS,if_pos hk]
  exact au (aD X [6] rfl (by trivial) (ak (ah rfl (by and_intros<;>first|exact⟨⟩| (rw[hn];done)))))
theorem oc(s:aX)(hz:s.received.length≤1048576∧ ∀r,r∈s.received→cQ List.length r.share.rows≤1048576):So 115 [.agg (bL s)] [.agg (bL (fN s))]:=by
 refine aq X call115 func115 ntmps115 rfl rfl ?_
 intro zb
 refine av X [1,2] rfl (aC X [] [(5,⟨true,[.agg (bL s)]⟩)] [1,2,3] [] rfl (by(with_reducible and_intros)<;>first|exact⟨⟩|exact(gz s hz)) (af (aC X [] [(7,⟨false,[aG (bS s)]⟩)] [2,3,12] [] rfl (by(with_reducible and_intros)<;>first|exact⟨⟩|exact(cI s)) ?_)))
 refine an rfl ?_ ?_<;>intro hb0
 ·have hk:DL s=true:=gV hb0 (by simp only[DL,aO]<;>first|rfl|ac_rfl)
  have hn:fN s=⟨s.id,s.rows,IntKind.i64.wrap (s.round+1),[],s.behavior⟩:=by rw[fN,if_pos hk]
  exact av X [2,3] rfl (bu X [2,3] rfl (aD X [2] rfl (by trivial) (ak (ah rfl (by and_intros<;>first|exact⟨⟩| (rw[hn];done))))))
 ·have hk:DL s=false:=kH hb0 (by simp only[DL,aO]<;>first|rfl|ac_rfl)
  have hn:fN s=s:=by rw[fN,hk];rfl
  exact au (aD X [2] rfl (by trivial) (ak (ah rfl (by and_intros<;>first|exact⟨⟩| (rw[hn];done)))))
theorem uK(key:Int)(a:cA)(h1:a.selection.length≤262144)(h2:a.data.length≤262144):So 205 [aA key, .agg (eK a)] [aG (OW key a)]:=by
 refine aq X call205 func205 ntmps205 rfl rfl ?_
 intro zb
 exact av X [0,3] rfl (af (aF X [] [(9,⟨false,[aA (DC key a.server a.round a.selection a.data)]⟩)] [4] [] 127 0 MO (by kernel_rfl) rfl (by kernel_rfl) (by(with_reducible and_intros)<;>first|exact⟨⟩|exact(kM key a h1 h2)) (ak (ah rfl ⟨rfl,⟨⟩⟩))))
theorem tu(key:Int)(d:DB)(a:cA)(h1:a.selection.length≤262144)(h2:a.data.length≤262144):So 141 [aA key, .agg (aS d), .agg (eK a)] [aG (YF key d a)]:=by
 refine aq X call141 func141 ntmps141 rfl rfl ?_
 intro zb
 exact av X [0,4,5] rfl (af (aF X [] [(9,⟨false,[aG (OW key a)]⟩),(16,⟨false,[.a (.sl .u8 (eg d a.selection))]⟩),(17,⟨false,[aG (a.data==(eg d a.selection))]⟩)] [6] [] 16383 0 MO (by kernel_rfl) rfl (by kernel_rfl) (by(with_reducible and_intros);(iterate 3 all_goals try first|exact⟨⟩|exact(uK key a h1 h2)|exact fun _=>(nk d a.selection)|exact fun _=>(jy a.data (eg d a.selection)))) (ak (ah rfl ⟨(congrArg Value.bool (by simp only[YF,aO]<;>first|rfl|ac_rfl)),⟨⟩⟩))))
theorem yt(l:List DB)(jV:l.length≤1048576)(ha:sY l):So 133 [.a (.sl .DB l)] [.agg (aS (jw l)),aG (Bi l)]:=by
 refine aq X call133 func133 ntmps133 rfl rfl ?_
 intro zb
 refine av X [0,2] rfl (af (aC X [] [(10,⟨false,[aG (b7 (l.length:Int))]⟩),(16,⟨false,[aG (cg (l.getD (Int.toNat 0) (aB .DB)))]⟩)] [0,2,18] [] rfl ⟨fun _=>cC _,fun h=>adE h,fL _,⟨⟩⟩ ?_))
 refine an rfl ?_ ?_<;>intro hb0
 ·have hk:b7 l.length=false:=adB ha hb0
  have hj:=DI (M8 hk)
  exact aD X [2,3] rfl (by trivial) (ak (ah rfl ⟨by rw[hj.1],by rw[hj.2],⟨⟩⟩))
 ·have hk:b7 l.length=true:=aa9 hb0
  have hcb:=DJ hk
  have OY:=M9 hk
  have h0z:=dw (kO ha 0)
  have uu:(l.drop 1).length=l.length-1:=List.length_drop ..
  refine au (aC X [] [(23,⟨true,[.agg (aS (l.getD (Int.toNat 0) (aB .DB)))]⟩)] [0,2,4] [] rfl (by(with_reducible and_intros)<;>first|exact⟨⟩|exact(dN (l.getD (Int.toNat 0) (aB .DB)) h0z)| (intros;omega)) (af (av X [0,2,4,5] rfl ?_)))
  refine ay (aE (fun k=>(1≤k∧k≤l.length)∧Lv l=HP (Bj l (k-1)) ((l.drop 1).drop (k-1))) (fun k:Nat=> [(5, .one ((aA k)))]) (fun k=> [(23, .arr (.sl .u8) (Bj l (k-1)).rows)]) (fun k=>l.length-k) 1 (fun k=>rfl) ⟨by omega,OY⟩ rfl ?_)
  rintro k ⟨hk0,Ez⟩
  refine af (av X [0,2,4,5,27] rfl ?_)
  refine an rfl ?_ ?_<;>intro bf
  ·try simp only[aR]at bf
   have hz1:=dw (Sj ha (k-1))
   have hz2:=dw (kO ha k)
   have hge:(l.drop 1).getD (k-1) (aB .DB)=(l.getD k (aB .DB)):=by rw[JF,show k-1+1=k by omega]
   have Ly:k-1<(l.drop 1).length:=by omega
   refine au (af (ay (af ?_)))
   have t1:=(iz (Bj l (k-1)) (l.getD k (aB .DB)) hz1 hz2)
   refine aF X [] [(36,⟨true,bM t1⟩)] [0,2,4,5,6,7] [] 3071 1 MO (by kernel_rfl) rfl (by kernel_rfl) (by(with_reducible and_intros)<;>first|exact⟨⟩|exact t1| (intros;omega)) (af (av X [0,2,4,5,6,40] rfl ?_))
   refine an rfl ?_ ?_<;>intro bU
   ·have hx:gu (Bj l (k-1)) (l.getD k (aB .DB))=false:=by simpa using bU
    have hj:=DI (Ez.trans (Si l (k-1) Ly (by rw[hge];exact hx)))
    exact aD X [2,3] rfl (by trivial) (ak (ah rfl ⟨by rw[hj.1],by rw[hj.2],⟨⟩⟩))
   ·have hx:gu (Bj l (k-1)) (l.getD k (aB .DB))=true:=by simpa using bU
    have hs:=xR l (k-1) Ly
    rw[hge]at hs
    refine au (iV X [0,2,4,5] rfl (by trivial) (kG 4 0 23 rfl (bu X [0,2,4,5] rfl ?_)))
    refine⟨k+1,⟨by omega,by rw[Ez,Jy l (k-1) Ly (by rw[hge];exact hx),show k+1-1=k-1+1 by omega]⟩,by omega,?_⟩
    rw[bC _ k rfl (by omega),show k+1-1=k-1+1 by omega,hs]
    try rfl
  ·try simp only[aR]at bf
   have hj:=G7 (Ez.trans (M7 l (k-1) (by omega)))
   exact aH (aD X [2,3] rfl (by trivial) (ak (ah rfl ⟨by rw[hj.1],by rw[hj.2],⟨⟩⟩)))
theorem tv(l:List DB)(jV:l.length≤1048576)(ha:sY l):So 80 [.a (.sl .DB l)] [.agg (aS (jw l)),aG (Bi l)]:=by
 refine aq X call80 func80 ntmps80 rfl rfl ?_
 intro zb
 exact av X [0,2] rfl (aC X [] [(5,⟨true,[.agg (aS (jw l)),aG (Bi l)]⟩)] [2,3] [] rfl (by(with_reducible and_intros)<;>first|exact⟨⟩|exact(yt l jV ha)) (ak (ah rfl ⟨rfl,rfl,⟨⟩⟩)))
theorem pN(id rows b:Int):So 26 [aA id,aA rows,aA b] [.agg (bL (newS id rows b))]:=by
 refine aq X call26 func26 ntmps26 rfl rfl ?_
 intro zb
 refine av X [0,1,2,6] rfl (af (aC X [] [(8,⟨false,[aG (inr id 0 3)]⟩),(12,⟨false,[aG (inr rows 1 64)]⟩),(17,⟨false,[aG (inr b 0 3)]⟩)] [0,1,2,6,19] [] rfl (by(with_reducible and_intros);(iterate 3 all_goals try first|exact⟨⟩|exact(aW id 0 3)|exact fun _=>(aW rows 1 64)|exact fun _=>(aW b 0 3))) ?_))
 refine an rfl ?_ ?_<;>intro hb0
 ·have hk:DK id rows b=false:=bP hb0 (by simp only[DK,aO]<;>first|rfl|ac_rfl)
  have hn:newS id rows b=⟨0,0,0,[],0⟩:=by rw[newS,hk];rfl
  exact aD X [6] rfl (by trivial) (ak (ah rfl (by and_intros<;>first|exact⟨⟩| (rw[hn];done))))
 ·have hk:DK id rows b=true:=bO hb0 (by simp only[DK,aO]<;>first|rfl|ac_rfl)
  have hn:newS id rows b=⟨id,rows,0,[],b⟩:=by rw[newS,if_pos hk]
  exact au (aD X [6] rfl (by trivial) (ak (ah rfl (by and_intros<;>first|exact⟨⟩| (rw[hn];done)))))
theorem og(s:aX)(hz:s.received.length≤1048576∧ ∀r,r∈s.received→cQ List.length r.share.rows≤1048576):So 144 [.agg (bL s)] [.agg (bL (fN s))]:=by
 refine aq X call144 func144 ntmps144 rfl rfl ?_
 intro zb
 refine av X [1,2] rfl (af (aC X [] [(4,⟨false,[aG (bS s)]⟩)] [1,2,10] [] rfl (by(with_reducible and_intros)<;>first|exact⟨⟩|exact(cJ s)) ?_))
 refine an rfl ?_ ?_<;>intro hb0
 ·have hk:DL s=false:=bP hb0 (by simp only[DL,aO]<;>first|rfl|ac_rfl)
  have hn:fN s=s:=by rw[fN,hk];rfl
  exact aC X [] [(12,⟨true,[.agg (bL s)]⟩)] [2] [] rfl (by(with_reducible and_intros)<;>first|exact⟨⟩|exact(jN s hz)) (ak (ah rfl (by and_intros<;>first|exact⟨⟩| (rw[hn];done))))
 ·have hk:DL s=true:=bO hb0 (by simp only[DL,aO]<;>first|rfl|ac_rfl)
  have hn:fN s=⟨s.id,s.rows,IntKind.i64.wrap (s.round+1),[],s.behavior⟩:=by rw[fN,if_pos hk]
  exact au (aD X [2] rfl (by trivial) (ak (ah rfl (by and_intros<;>first|exact⟨⟩| (rw[hn];done)))))
end
section
set_option maxRecDepth 100000
theorem Bm(a:iC)(r:Int)(d:DB)(h0:ey a≤1048576)(YL:cQ List.length d.rows≤1048576):So 114 [.agg (dh a),aA r, .agg (aS d)] [.agg [cS a.rows, .vw 0 none .aJ (zU a r d)],aG (pK a r d)]:=by
 refine aq X call114 func114 ntmps114 rfl rfl ?_
 intro zb
 refine av X [1,3,5,6] rfl (aC X [] [(10,⟨true,[.agg (dh a)]⟩)] [1,3,5,6,8] [] rfl (by(with_reducible and_intros)<;>first|exact⟨⟩|exact(nv a h0)) (af (aC X [] [(12,⟨false,[aG (eD a)]⟩),(16,⟨false,[aG (inr r 0 100000)]⟩),(22,⟨false,[aA (bR a)]⟩),(27,⟨false,[aG (cg d)]⟩)] [1,5,6,8,37] [] rfl (by(with_reducible and_intros);(iterate 4 all_goals try first|exact⟨⟩|exact(j0 a)|exact fun _=>(aL r 0 100000)|exact fun _=>(kB a)|exact fun _=>(cM d))) ?_)))
 refine an rfl ?_ ?_<;>intro hb0
 ·have hk:pK a r d=false:=bP hb0 (by simp only[pK,aO]<;>first|rfl|ac_rfl)
  have hn:=SB hk
  exact aD X [6,7] rfl (by trivial) (ak (ah rfl ⟨rfl,by rw[hn],by rw[hk],⟨⟩⟩))
 ·have hk:pK a r d=true:=bO hb0 (by simp only[pK,aO]<;>first|rfl|ac_rfl)
  have hn:=Hr hk
  have hkb:=SC hk
  have hal:(rJ a r d).length=a.rounds.length+1:=by unfold rJ;rw[List.length_append];rfl
  refine au (af (aF X [] [(43,⟨true,[.agg (aS d)]⟩),(500045,⟨true,[]⟩)] [6,8] [] 127 0 MO (by kernel_rfl) rfl (by kernel_rfl) (by(repeat' with_reducible first|exact aK|refine aQ ?_ ?_|apply And.intro)<;>first|exact(ct d YL)|exact rfl|exact⟨rfl,aP _ (by decide)⟩| (simp only[cK,maxLen,lens];omega)) ?_))
  rw[show a.rounds++ [(⟨r,d⟩:aJ)]=(rJ a r d)from rfl]
  refine af (av X [6,8,51] rfl ?_)
  refine an rfl ?_ ?_<;>intro bf
  ·try simp only[aR]at bf
   have h8:(8:Int)<((rJ a r d).length:Int):=bf
   rw[if_pos h8]at hn
   exact iV X [6,8] rfl (by and_intros<;>first|exact⟨⟩| (intros;omega)) (aD X [6,7] rfl (by trivial) (ak (ah rfl ⟨rfl,by rw[hn];simp,by rw[hk],⟨⟩⟩)))
  ·try simp only[aR]at bf
   have h8: ¬(8:Int)<((rJ a r d).length:Int):=by omega
   rw[if_neg h8]at hn
   exact au (aD X [6,7] rfl (by trivial) (ak (ah rfl ⟨rfl,by rw[hn],by rw[hk],⟨⟩⟩)))
theorem Bn(a:iC)(r:Int)(d:DB)(h0:ey a≤1048576)(YL:cQ List.length d.rows≤1048576):So 143 [.agg (dh a),aA r, .agg (aS d)] [.agg [cS a.rows, .vw 0 none .aJ (zU a r d)],aG (pK a r d)]:=by
 refine aq X call143 func143 ntmps143 rfl rfl ?_
 intro zb
 refine av X [1,3,5,6] rfl (aC X [] [(10,⟨true,[.agg (dh a)]⟩)] [1,3,5,6,8] [] rfl (by(with_reducible and_intros)<;>first|exact⟨⟩|exact(sP a h0)) (af (aC X [] [(12,⟨false,[aG (eD a)]⟩),(16,⟨false,[aG (inr r 0 100000)]⟩),(22,⟨false,[aA (bR a)]⟩),(27,⟨false,[aG (cg d)]⟩)] [1,5,6,8,37] [] rfl (by(with_reducible and_intros);(iterate 4 all_goals try first|exact⟨⟩|exact(j6 a)|exact fun _=>(aW r 0 100000)|exact fun _=>(kC a)|exact fun _=>(cC d))) ?_)))
 refine an rfl ?_ ?_<;>intro hb0
 ·have hk:pK a r d=false:=bP hb0 (by simp only[pK,aO]<;>first|rfl|ac_rfl)
  have hn:=SB hk
  exact aD X [6,7] rfl (by trivial) (ak (ah rfl ⟨rfl,by rw[hn],by rw[hk],⟨⟩⟩))
 ·have hk:pK a r d=true:=bO hb0 (by simp only[pK,aO]<;>first|rfl|ac_rfl)
  have hn:=Hr hk
  have hkb:=SC hk
  have hal:(rJ a r d).length=a.rounds.length+1:=by unfold rJ;rw[List.length_append];rfl
  refine au (af (aF X [] [(43,⟨true,[.agg (aS d)]⟩),(500045,⟨true,[]⟩)] [6,8] [] 127 0 MO (by kernel_rfl) rfl (by kernel_rfl) (by(repeat' with_reducible first|exact aK|refine aQ ?_ ?_|apply And.intro)<;>first|exact(dN d YL)|exact rfl|exact⟨rfl,aP _ (by decide)⟩| (simp only[cK,maxLen,lens];omega)) ?_))
  rw[show a.rounds++ [(⟨r,d⟩:aJ)]=(rJ a r d)from rfl]
  refine af (av X [6,8,51] rfl ?_)
  refine an rfl ?_ ?_<;>intro bf
  ·try simp only[aR]at bf
   have h8:(8:Int)<((rJ a r d).length:Int):=bf
   rw[if_pos h8]at hn
   exact iV X [6,8] rfl (by and_intros<;>first|exact⟨⟩| (intros;omega)) (aD X [6,7] rfl (by trivial) (ak (ah rfl ⟨rfl,by rw[hn];simp,by rw[hk],⟨⟩⟩)))
  ·try simp only[aR]at bf
   have h8: ¬(8:Int)<((rJ a r d).length:Int):=by omega
   rw[if_neg h8]at hn
   exact au (aD X [6,7] rfl (by trivial) (ak (ah rfl ⟨rfl,by rw[hn],by rw[hk],⟨⟩⟩)))
theorem lD(x:aV)(rd id:Int)(hl:x.aj.length≤4)(hw:1≤x.rows∧x.rows≤64)(hU:DO rd x.aj)(hr:x.replaced.length≤4194400):mN ty Tryz.prog 113 [(1000, .box [cS x.rows, .own 11, .own 12,cS x.az.rows, .own 13,cS x.aT,cS x.seed,cS x.round, .own 14,cS x.cancelled]),(11, .arr .aX x.aj),(12, .arr .bg x.aa),(13, .arr .aJ x.az.rounds),(14, .arr .int x.replaced)] [.a (.ptr 1000 0),aA id] [(1000, .box [cS x.rows, .own 11, .own 12,cS x.az.rows, .own 13,cS x.aT,cS x.seed,cS x.round, .own 14,cS x.cancelled]),(11, .arr .aX (xS x.rows rd (x.aj,x.replaced) id).1),(12, .arr .bg x.aa),(13, .arr .aJ x.az.rounds),(14, .arr .int (xS x.rows rd (x.aj,x.replaced) id).2)] []:=by
 refine kI X call113 func113 rfl rfl (by decide) ntmps113 (by simp) rfl ?_
 intro zb
 refine af ?_
 have t1:=(aL id 0 (IntKind.i64.wrap ((x.aj.length:Int)-1)))
 refine aN X [] [(12,⟨false,bM t1⟩)] [0,1,12] [] rfl (by(with_reducible and_intros)<;>first|exact⟨⟩|exact t1) ?_
 refine an rfl ?_ ?_<;>intro hb0
 ·have hk:uC x.aj id=true:=by unfold uC;simpa using hb0
  have hb:=SA hl hk
  have hp:(xS x.rows rd (x.aj,x.replaced) id)=_:=Nh (rows:=x.rows) (rd:=rd) (p:=(x.aj,x.replaced)) hk
  have Kp:=DS (id:=id) (by omega) hw
  have hrd:=(pM hU (k:=id.toNat) (by omega)).1
  refine aC X [] [(18,⟨true,[.agg (bL (newS id x.rows 0))]⟩)] [0,1,4] [] rfl (by(with_reducible and_intros)<;>first|exact⟨⟩|exact(Ad id x.rows 0)) ?_
  rw[Kp]
  refine aD X [0,1,4] rfl (by and_intros<;>first|exact⟨⟩| (intros;omega)) ?_
  rw[hrd]
  exact af (aF X [] [] [0,1] [] 127 0 MO (by kernel_rfl) rfl (by kernel_rfl) (by and_intros<;>first|exact⟨⟩| (intros;omega)) (aN X [(42,14)] [] [] [] rfl (by and_intros<;>first|exact⟨⟩|exact rfl| (simp only[cK,maxLen,lens];omega)) (qw rfl (by and_intros<;>first|exact⟨⟩|rfl| (rw[hp];done)))))
 ·have hk:uC x.aj id=false:=by unfold uC;simpa using hb0
  have hp:(xS x.rows rd (x.aj,x.replaced) id)=_:=Ni (rows:=x.rows) (rd:=rd) (p:=(x.aj,x.replaced)) hk
  exact au (qw rfl (by and_intros<;>first|exact⟨⟩|rfl| (rw[hp];done)))
theorem oo(x:aV)(rd id:Int)(hl:x.aj.length≤4)(hw:1≤x.rows∧x.rows≤64)(hU:DO rd x.aj)(hr:x.replaced.length≤4194400)(hxr:x.round=rd):mN ty Tryz.prog 142 [(1000, .box [cS x.rows, .own 11, .own 12,cS x.az.rows, .own 13,cS x.aT,cS x.seed,cS x.round, .own 14,cS x.cancelled]),(11, .arr .aX x.aj),(12, .arr .bg x.aa),(13, .arr .aJ x.az.rounds),(14, .arr .int x.replaced)] [.a (.ptr 1000 0),aA id] [(1000, .box [cS x.rows, .own 11, .own 12,cS x.az.rows, .own 13,cS x.aT,cS x.seed,cS x.round, .own 14,cS x.cancelled]),(11, .arr .aX (xS x.rows rd (x.aj,x.replaced) id).1),(12, .arr .bg x.aa),(13, .arr .aJ x.az.rounds),(14, .arr .int (xS x.rows rd (x.aj,x.replaced) id).2)] []:=by
 refine kI X call142 func142 rfl rfl (by decide) ntmps142 (by simp) rfl ?_
 intro zb
 refine af (af ?_)
 have t1:=(aW id 0 (IntKind.i64.wrap ((x.aj.length:Int)-1)))
 refine aN X [] [(12,⟨false,bM t1⟩)] [0,1,13] [] rfl (by(with_reducible and_intros)<;>first|exact⟨⟩|exact t1) ?_
 refine an rfl ?_ ?_<;>intro hb0
 ·have hk:uC x.aj id=false:=by unfold uC;simpa using hb0
  have hp:(xS x.rows rd (x.aj,x.replaced) id)=_:=Ni (rows:=x.rows) (rd:=rd) (p:=(x.aj,x.replaced)) hk
  exact ak (pz rfl (by and_intros<;>first|exact⟨⟩|rfl| (rw[hp];done)))
 ·have hk:uC x.aj id=true:=by unfold uC;simpa using hb0
  have hb:=SA hl hk
  have hp:(xS x.rows rd (x.aj,x.replaced) id)=_:=Nh (rows:=x.rows) (rd:=rd) (p:=(x.aj,x.replaced)) hk
  have Kp:=DS (id:=id) (by omega) hw
  have hrd:=(pM hU (k:=id.toNat) (by omega)).1
  refine au (aC X [] [(19,⟨true,[.agg (bL (newS id x.rows 0))]⟩)] [0,1,4] [] rfl (by(with_reducible and_intros)<;>first|exact⟨⟩|exact(pN id x.rows 0)) ?_)
  rw[Kp]
  refine aD X [0,1,4] rfl (by trivial) ?_
  rw[hxr]
  exact af (aF X [] [] [0,1] [] 127 0 MO (by kernel_rfl) rfl (by kernel_rfl) (by and_intros<;>first|exact⟨⟩| (intros;omega)) (aN X [(39,14)] [] [] [] rfl (by and_intros<;>first|exact⟨⟩|exact rfl| (simp only[cK,maxLen,lens];omega)) (qw rfl (by and_intros<;>first|exact⟨⟩|rfl| (rw[hp];done)))))
theorem yu(x:aV)(g:List Int)(d:DB)(h0:wB x)(hgl:g.length≤64)(YL:cQ List.length d.rows≤1048576):So 62 [.agg (aU x), .a (.sl .int g), .agg (aS d)] [.agg [cS (bQ x g d).rows, .sl .aX (bQ x g d).aj, .sl .bg (bQ x g d).aa,cS (bQ x g d).az.rows, .vw 0 none .aJ (bQ x g d).az.rounds,cS (bQ x g d).aT,cS (bQ x g d).seed,cS (bQ x g d).round, .sl .int (bQ x g d).replaced,cS (bQ x g d).cancelled]]:=by
 refine aq X call62 func62 ntmps62 rfl rfl ?_
 intro zb
 have hls:cQ dr x.aj≤1048576∧cQ bD x.aa≤1048576∧ey x.az≤1048576∧x.replaced.length≤4194304:=h0
 have hcp:=Nj x g
 refine av X [1,3,5,6] rfl (aC X [(7,907)] [(13,⟨true,[.agg (aU x)]⟩)] [1,3,5,6,7] [] rfl (by(with_reducible and_intros)<;>first|exact⟨⟩|exact(eI x h0)) (af (aC X [] [(15,⟨false,[aG (okW x)]⟩)] [1,3,5,6,7,21] [] rfl (by(with_reducible and_intros)<;>first|exact⟨⟩|exact(cq x)) ?_)))
 refine an rfl ?_ ?_<;>intro hb0
 ·have hk:jj x=false:=bP hb0 (by simp only[jj,aO]<;>first|rfl|ac_rfl)
  have hc:=FC (g:=g) (d:=d) hk
  exact aD X [6] rfl (by trivial) (ak (ah rfl (by and_intros<;>first|exact⟨⟩| (rw[hc];done))))
 ·have hk:jj x=true:=bO hb0 (by simp only[jj,aO]<;>first|rfl|ac_rfl)
  obtain⟨hok,hr9⟩:=Hq hk
  have lP:=dj hok
  have OT:=(lM hok).1
  have hcU:=WZ g hok
  refine au (af (av X [1,3,5,6,7,25] rfl ?_))
  refine an rfl ?_ ?_<;>intro bf
  ·try simp only[aR]at bf
   have VD:g.length=0:=by omega
   have hc:=yp (d:=d) hk VD
   have hgn:g= []:=List.length_eq_zero_iff.1 VD
   have t1:=(Bm x.az x.round d hls.2.2.1 YL)
   refine aN X [] [(32,⟨true,bM t1⟩)] [1,6,7] [] rfl (by(with_reducible and_intros)<;>first|exact⟨⟩|exact t1) (af (av X [6,7,40,41,42] rfl ?_))
   refine ay (aE (fun k=>k≤g.length) (fun k:Nat=> [(42, .one ((aA k)))]) (fun k=> [(14, .arr .aX (DT x g k).1),(21, .arr .int (DT x g k).2)]) (fun k=>g.length-k) 0 (fun k=>rfl) (Nat.zero_le _) rfl ?_)
   rintro k hk0
   have Em:=yl (x:=x) hk0
   have hU:=JH hok hk0
   refine av X [6,7,40,41,42,43] rfl ?_
   refine af (an rfl ?_ ?_)<;>intro bU
   ·try simp only[aR]at bU
    omega
   ·try simp only[aR]at bU
    rw[uh bU]
    refine aH (af (av X [6,7,50,51,52] rfl ?_))
    refine ay (aE (fun k1=>k1≤x.aj.length) (fun k1:Nat=> [(52, .one ((aA k1)))]) (fun k1=> [(14, .arr .aX (Bl (qB x g).1 k1))]) (fun k1=>x.aj.length-k1) 0 (fun k1=>rfl) (Nat.zero_le _) (by rw[Nk];rfl) ?_)
    intro k1 hk1
    have Cm:(Bl (qB x g).1 k1).length=x.aj.length:=by rw[BP (by omega)];exact hcp.1
    refine av X [6,7,50,51,52,53] rfl ?_
    refine af (an rfl ?_ ?_)<;>intro xl
    ·try simp only[aR]at xl
     have hgt:=BO (l:=(qB x g).1) (k:=k1) (by omega)
     have YM:=pM hcU (k:=k1) (by omega)
     have EF:=ym (l:=(qB x g).1) (k:=k1) (by omega)
     refine au (af (ay (aD X [6,7,10,11,50,51,52] rfl (by and_intros<;>first|exact⟨⟩| (intros;omega)) (aF X [] [(61,⟨true,[.agg (bL (fN ((Bl (qB x g).1 k1).getD k1 (aB .aX))))]⟩)] [6,7,50,51,52] [] 63 0 MO (by kernel_rfl) rfl (by kernel_rfl) (by(with_reducible and_intros)<;>first|exact⟨⟩|exact(oc ((Bl (qB x g).1 k1).getD k1 (aB .aX)) (by rw[hgt];exact YM.2))| (intros;omega)) (bu X [6,7,50,51,52] rfl ?_)))))
     refine⟨k1+1,by omega,by omega,?_⟩
     rw[bC _ k1 rfl (by omega), ←EF]
     try rfl
    ·try simp only[aR]at xl
     rw[BQ (by omega)]
     exact aH (av X [6,7] rfl (aD X [6] rfl (by trivial) (ak (ah rfl (by and_intros<;>first|exact⟨⟩| (rw[hc];done))))))
  ·try simp only[aR]at bf
   have VD: ¬g.length=0:=by omega
   have hc:=DU (d:=d) hk VD
   refine bu X [1,6,7] rfl (af (av X [6,7,40,41,42] rfl ?_))
   refine ay (aE (fun k=>k≤g.length) (fun k:Nat=> [(42, .one ((aA k)))]) (fun k=> [(14, .arr .aX (DT x g k).1),(21, .arr .int (DT x g k).2)]) (fun k=>g.length-k) 0 (fun k=>rfl) (Nat.zero_le _) rfl ?_)
   rintro k hk0
   have Em:=yl (x:=x) hk0
   have hU:=JH hok hk0
   refine av X [6,7,40,41,42,43] rfl ?_
   refine af (an rfl ?_ ?_)<;>intro bU
   ·try simp only[aR]at bU
    have hst:=JG (x:=x) bU
    refine au (af (ay (aD X [6,7,9,40,41,42] rfl (by and_intros<;>first|exact⟨⟩| (intros;omega)) ?_)))
    have t1:=(lD (⟨x.rows,(DT x g k).1,x.aa,x.az,x.aT,x.seed,x.round,(DT x g k).2,IntKind.i64.wrap (x.cancelled+1)⟩:aV) x.round (g.getD k (aB .int)) (by show(DT x g k).1.length≤4;omega) OT hU (by show(DT x g k).2.length≤_;omega))
    refine aN X [] [(800047,⟨true,Gs t1⟩),(700047,⟨true, .agg [.ptr 1000 907, .ptr 11 14, .ptr 12 15, .ptr 13 17, .ptr 14 21]:: .agg []::Gt t1⟩)] [6,7,40,41,42] [] rfl (by(with_reducible and_intros)<;>first|exact⟨⟩|exact t1) (bu X [6,7,40,41,42] rfl ?_)
    refine⟨k+1,by omega,by omega,?_⟩
    rw[bC _ k rfl (by omega), ←hst]
    try rfl
   ·try simp only[aR]at bU
    rw[uh bU]
    refine aH (af (av X [6,7,50,51,52] rfl ?_))
    refine ay (aE (fun k1=>k1≤x.aj.length) (fun k1:Nat=> [(52, .one ((aA k1)))]) (fun k1=> [(14, .arr .aX (Bl (qB x g).1 k1))]) (fun k1=>x.aj.length-k1) 0 (fun k1=>rfl) (Nat.zero_le _) (by rw[Nk];rfl) ?_)
    intro k1 hk1
    have Cm:(Bl (qB x g).1 k1).length=x.aj.length:=by rw[BP (by omega)];exact hcp.1
    refine av X [6,7,50,51,52,53] rfl ?_
    refine af (an rfl ?_ ?_)<;>intro xl
    ·try simp only[aR]at xl
     have hgt:=BO (l:=(qB x g).1) (k:=k1) (by omega)
     have YM:=pM hcU (k:=k1) (by omega)
     have EF:=ym (l:=(qB x g).1) (k:=k1) (by omega)
     refine au (af (ay (aD X [6,7,10,11,50,51,52] rfl (by and_intros<;>first|exact⟨⟩| (intros;omega)) (aF X [] [(61,⟨true,[.agg (bL (fN ((Bl (qB x g).1 k1).getD k1 (aB .aX))))]⟩)] [6,7,50,51,52] [] 63 0 MO (by kernel_rfl) rfl (by kernel_rfl) (by(with_reducible and_intros)<;>first|exact⟨⟩|exact(oc ((Bl (qB x g).1 k1).getD k1 (aB .aX)) (by rw[hgt];exact YM.2))| (intros;omega)) (bu X [6,7,50,51,52] rfl ?_)))))
     refine⟨k1+1,by omega,by omega,?_⟩
     rw[bC _ k1 rfl (by omega), ←EF]
     try rfl
    ·try simp only[aR]at xl
     rw[BQ (by omega)]
     exact aH (av X [6,7] rfl (aD X [6] rfl (by trivial) (ak (ah rfl (by and_intros<;>first|exact⟨⟩| (rw[hc];done))))))
theorem vV(x:aV)(h0:wB x):So 61 [.agg (aU x)] [.agg (aU (testW x))]:=by
 refine aq X call61 func61 ntmps61 rfl rfl ?_
 intro zb
 have hls:cQ dr x.aj≤1048576∧cQ bD x.aa≤1048576∧ey x.az≤1048576∧x.replaced.length≤4194304:=h0
 have EF:=W1 h0
 refine av X [1,2] rfl (aC X [(3,903)] [(13,⟨true,[.agg (aU x)]⟩)] [1,2,3] [] rfl (by(with_reducible and_intros)<;>first|exact⟨⟩|exact(eI x h0)) (aC X [] [(16,⟨false,[aA (bR x.az)]⟩)] [1,2,3,4] [] rfl (by(with_reducible and_intros)<;>first|exact⟨⟩|exact(kB x.az)) (af ?_)))
 have t1:=(je x.az (bR x.az) EF)
 refine aN X [(21,80)] [(21,⟨true,bM t1⟩)] [1,2,3,4,5,6] [] rfl (by(with_reducible and_intros)<;>first|exact⟨⟩|exact t1) (af (aC X [] [(25,⟨false,[aG (okW x)]⟩)] [1,2,3,4,5,30] [] rfl (by(with_reducible and_intros)<;>first|exact⟨⟩|exact(cq x)) ?_))
 refine an rfl ?_ ?_<;>intro hb0
 ·have hk:ry x=false:=bP hb0 (by simp only[ry,aO]<;>first|rfl|ac_rfl)
  have hc:=DV hk
  exact aD X [2] rfl (by trivial) (ak (ah rfl (by and_intros<;>first|exact⟨⟩| (rw[hc];done))))
 ·have hk:ry x=true:=bO hb0 (by simp only[ry,aO]<;>first|rfl|ac_rfl)
  have hc:=uj hk
  have hkk:=hk
  rw[ry,Bool.and_eq_true]at hkk
  obtain⟨hok,hah⟩:=hkk
  have lP:=dj hok
  have OT:=(lM hok).1
  refine au (af (av X [1,2,3,4,5,33,34,35] rfl ?_))
  refine ay (aE (fun k=>k≤x.aj.length) (fun k:Nat=> [(35, .one ((aA k)))]) (fun k=> [(14, .arr .aX (yJ x k).1),(21, .arr .int (yJ x k).2)]) (fun k=>x.aj.length-k) 0 (fun k=>rfl) (Nat.zero_le _) rfl ?_)
  rintro k hk0
  have htb:=W0 hok k hk0
  refine av X [1,2,3,4,5,33,34,35,36] rfl ?_
  refine af (an rfl ?_ ?_)<;>intro bf
  ·try simp only[aR]at bf
   have hrl:=gJ (kh x.seed [227,x.round,(k:Int)]) x.rows
   have hab:=WX (x.aj.getD k (aB .aX)) (fY x.aT (k:Int)) (bR x.az) (fG x.az.rounds (bR x.az)) (v:=(bw (kh x.seed [227,x.round,(k:Int)]) x.rows)) (by omega)
   have T0:=Nl hok hah (kh x.seed [227,x.round,(k:Int)])
   refine au (af (ay (aD X [1,2,3,4,5,7,8,33,34,35] rfl (by and_intros<;>first|exact⟨⟩| (intros;omega)) (aC X [] [(43,⟨false,[aA (fY x.aT (k:Int))]⟩)] [1,2,3,4,5,7,8,9,33,34,35] [] rfl (by(with_reducible and_intros)<;>first|exact⟨⟩|exact(gW x.aT (k:Int))) (af ?_)))))
   have t1:=(qV (x.aj.getD k (aB .aX)) (fY x.aT (k:Int)) (bR x.az) (fG x.az.rounds (bR x.az)) (bw (kh x.seed [227,x.round,(k:Int)]) x.rows) (by omega))
   refine aF X [] [(55,⟨false,[aA (kh x.seed [227,x.round,(k:Int)])]⟩),(58,⟨true,[.a (.sl .int (bw (kh x.seed [227,x.round,(k:Int)]) x.rows))]⟩),(59,⟨true,bM t1⟩)] [1,2,3,4,5,7,9,10,33,34,35] [] 1572863 1 MO (by kernel_rfl) rfl (by kernel_rfl) (by(repeat' with_reducible first|exact aK|refine aQ ?_ ?_|apply And.intro);(iterate 3 all_goals try first|exact(bG x.seed [227,x.round,(k:Int)] (by first|assumption|omega| (simp;done)| (simp;omega)))|exact(jE (kh x.seed [227,x.round,(k:Int)]) x.rows)|exact t1);all_goals first|exact⟨rfl,aP _ (by decide)⟩) ?_
   refine af ?_
   have t1:=(tj (fY x.aT (k:Int)) (fG x.az.rounds (bR x.az)) (YG x k) hab.1 hab.2)
   refine aN X [] [(65,⟨false,bM t1⟩)] [1,2,3,4,5,7,33,34,35,65] [] rfl (by(with_reducible and_intros)<;>first|exact⟨⟩|exact t1) ?_
   refine an rfl ?_ ?_<;>intro bU
   ·have hst:=Nb (x:=x) (n:=k) bU
    have t1:=(lD (⟨x.rows,(yJ x k).1,x.aa,x.az,x.aT,x.seed,x.round,(yJ x k).2,x.cancelled⟩:aV) x.round (k:Int) (by show(yJ x k).1.length≤4;omega) OT htb.1 (by show(yJ x k).2.length≤_;omega))
    refine aN X [] [(800067,⟨true,Gs t1⟩),(700067,⟨true, .agg [.ptr 1000 903, .ptr 11 14, .ptr 12 15, .ptr 13 17, .ptr 14 21]:: .agg []::Gt t1⟩)] [1,2,3,4,5,33,34,35] [] rfl (by(with_reducible and_intros)<;>first|exact⟨⟩|exact t1) (bu X [1,2,3,4,5,33,34,35] rfl ?_)
    refine⟨k+1,by omega,by omega,?_⟩
    rw[bC _ k rfl (by omega), ←hst]
    try rfl
   ·have hst:=Jz (x:=x) (n:=k) bU
    refine au (bu X [1,2,3,4,5,33,34,35] rfl ?_)
    refine⟨k+1,by omega,by omega,?_⟩
    rw[bC _ k rfl (by omega),hst]
    try rfl
  ·try simp only[aR]at bf
   exact aH (aD X [2] rfl (by trivial) (ak (ah rfl (by and_intros<;>first|exact⟨⟩| (rw[hc];done)| (rw[hc,show k=x.aj.length by omega];done)))))
theorem yw(x:aV)(g:List Int)(d:DB)(h0:wB x)(hgl:g.length≤64)(YL:cQ List.length d.rows≤1048576):So 83 [.agg (aU x), .a (.sl .int g), .agg (aS d)] [.agg [cS (bQ x g d).rows, .sl .aX (bQ x g d).aj, .sl .bg (bQ x g d).aa,cS (bQ x g d).az.rows, .vw 0 none .aJ (bQ x g d).az.rounds,cS (bQ x g d).aT,cS (bQ x g d).seed,cS (bQ x g d).round, .sl .int (bQ x g d).replaced,cS (bQ x g d).cancelled]]:=by
 refine aq X call83 func83 ntmps83 rfl rfl ?_
 intro zb
 have hls:cQ dr x.aj≤1048576∧cQ bD x.aa≤1048576∧ey x.az≤1048576∧x.replaced.length≤4194304:=h0
 have hcp:=Nj x g
 refine av X [1,3,5,6] rfl (aC X [(7,907)] [(13,⟨true,[.agg (aU x)]⟩)] [1,3,5,6,7] [] rfl (by(with_reducible and_intros)<;>first|exact⟨⟩|exact(eN x h0)) (af (aC X [] [(15,⟨false,[aG (okW x)]⟩)] [1,3,5,6,7,21] [] rfl (by(with_reducible and_intros)<;>first|exact⟨⟩|exact(dx x)) ?_)))
 refine an rfl ?_ ?_<;>intro hb0
 ·have hk:jj x=false:=bP hb0 (by simp only[jj,aO]<;>first|rfl|ac_rfl)
  have hc:=FC (g:=g) (d:=d) hk
  exact aD X [6] rfl (by trivial) (ak (ah rfl (by and_intros<;>first|exact⟨⟩| (rw[hc];done))))
 ·have hk:jj x=true:=bO hb0 (by simp only[jj,aO]<;>first|rfl|ac_rfl)
  obtain⟨hok,hr9⟩:=Hq hk
  have lP:=dj hok
  have OT:=(lM hok).1
  have hcU:=WZ g hok
  refine au (af (av X [1,3,5,6,7,25] rfl ?_))
  refine an rfl ?_ ?_<;>intro bf
  ·try simp only[aR]at bf
   have VD:g.length=0:=by omega
   have hc:=yp (d:=d) hk VD
   have hgn:g= []:=List.length_eq_zero_iff.1 VD
   refine af ?_
   have t1:=(Bn x.az x.round d hls.2.2.1 YL)
   refine aN X [] [(32,⟨true,bM t1⟩)] [1,3,6,7,8] [] rfl (by(with_reducible and_intros)<;>first|exact⟨⟩|exact t1) (iV X [1,3,6,7] rfl (by trivial) (af (av X [1,3,6,7,10] rfl ?_)))
   refine ay (aE (fun k=>k≤g.length) (fun k:Nat=> [(10, .one ((aA k)))]) (fun k=> [(14, .arr .aX (DT x g k).1),(21, .arr .int (DT x g k).2)]) (fun k=>g.length-k) 0 (fun k=>rfl) (Nat.zero_le _) rfl ?_)
   rintro k hk0
   have Em:=yl (x:=x) hk0
   have hU:=JH hok hk0
   refine af (av X [1,3,6,7,10,44] rfl ?_)
   refine an rfl ?_ ?_<;>intro bU
   ·try simp only[aR]at bU
    omega
   ·try simp only[aR]at bU
    rw[uh bU]
    refine aH (af (av X [3,6,7,11] rfl ?_))
    refine ay (aE (fun k1=>k1≤x.aj.length) (fun k1:Nat=> [(11, .one ((aA k1)))]) (fun k1=> [(14, .arr .aX (Bl (qB x g).1 k1))]) (fun k1=>x.aj.length-k1) 0 (fun k1=>rfl) (Nat.zero_le _) (by rw[Nk];rfl) ?_)
    intro k1 hk1
    have Cm:(Bl (qB x g).1 k1).length=x.aj.length:=by rw[BP (by omega)];exact hcp.1
    refine af (av X [3,6,7,11,56] rfl ?_)
    refine an rfl ?_ ?_<;>intro xl
    ·try simp only[aR]at xl
     rw[Cm]at xl
     have hgt:=BO (l:=(qB x g).1) (k:=k1) (by omega)
     have YM:=pM hcU (k:=k1) (by omega)
     have EF:=ym (l:=(qB x g).1) (k:=k1) (by omega)
     refine au (af (ay (aF X [] [(67,⟨true,[.agg (bL (fN ((Bl (qB x g).1 k1).getD k1 (aB .aX))))]⟩)] [3,6,7,11] [] 1023 0 MO (by kernel_rfl) rfl (by kernel_rfl) (by(with_reducible and_intros)<;>first|exact⟨⟩|exact(og ((Bl (qB x g).1 k1).getD k1 (aB .aX)) (by rw[hgt];exact YM.2))| (intros;omega)) (bu X [3,6,7,11] rfl ?_))))
     refine⟨k1+1,by omega,by omega,?_⟩
     rw[bC _ k1 rfl (by omega), ←EF]
     try rfl
    ·try simp only[aR]at xl
     rw[Cm]at xl
     rw[BQ (by omega)]
     exact aH (av X [6,7] rfl (aD X [6] rfl (by trivial) (ak (ah rfl (by and_intros<;>first|exact⟨⟩| (rw[hc];done))))))
  ·try simp only[aR]at bf
   have VD: ¬g.length=0:=by omega
   have hc:=DU (d:=d) hk VD
   refine bu X [1,3,6,7] rfl (af (av X [1,3,6,7,10] rfl ?_))
   refine ay (aE (fun k=>k≤g.length) (fun k:Nat=> [(10, .one ((aA k)))]) (fun k=> [(14, .arr .aX (DT x g k).1),(21, .arr .int (DT x g k).2)]) (fun k=>g.length-k) 0 (fun k=>rfl) (Nat.zero_le _) rfl ?_)
   rintro k hk0
   have Em:=yl (x:=x) hk0
   have hU:=JH hok hk0
   refine af (av X [1,3,6,7,10,44] rfl ?_)
   refine an rfl ?_ ?_<;>intro bU
   ·try simp only[aR]at bU
    have hst:=JG (x:=x) bU
    refine au (af (ay ?_))
    have t1:=(oo (⟨x.rows,(DT x g k).1,x.aa,x.az,x.aT,x.seed,x.round,(DT x g k).2,IntKind.i64.wrap (x.cancelled+1)⟩:aV) x.round (g.getD k (aB .int)) (by show(DT x g k).1.length≤4;omega) OT hU (by show(DT x g k).2.length≤_;omega) rfl)
    refine aN X [] [(800051,⟨true,Gs t1⟩),(700051,⟨true, .agg [.ptr 1000 907, .ptr 11 14, .ptr 12 15, .ptr 13 17, .ptr 14 21]:: .agg []::Gt t1⟩)] [1,3,6,7,10] [] rfl (by(with_reducible and_intros)<;>first|exact⟨⟩|exact t1| (intros;omega)) (bu X [1,3,6,7,10] rfl ?_)
    refine⟨k+1,by omega,by omega,?_⟩
    rw[bC _ k rfl (by omega), ←hst]
    try rfl
   ·try simp only[aR]at bU
    rw[uh bU]
    refine aH (af (av X [3,6,7,11] rfl ?_))
    refine ay (aE (fun k1=>k1≤x.aj.length) (fun k1:Nat=> [(11, .one ((aA k1)))]) (fun k1=> [(14, .arr .aX (Bl (qB x g).1 k1))]) (fun k1=>x.aj.length-k1) 0 (fun k1=>rfl) (Nat.zero_le _) (by rw[Nk];rfl) ?_)
    intro k1 hk1
    have Cm:(Bl (qB x g).1 k1).length=x.aj.length:=by rw[BP (by omega)];exact hcp.1
    refine af (av X [3,6,7,11,56] rfl ?_)
    refine an rfl ?_ ?_<;>intro xl
    ·try simp only[aR]at xl
     rw[Cm]at xl
     have hgt:=BO (l:=(qB x g).1) (k:=k1) (by omega)
     have YM:=pM hcU (k:=k1) (by omega)
     have EF:=ym (l:=(qB x g).1) (k:=k1) (by omega)
     refine au (af (ay (aF X [] [(67,⟨true,[.agg (bL (fN ((Bl (qB x g).1 k1).getD k1 (aB .aX))))]⟩)] [3,6,7,11] [] 1023 0 MO (by kernel_rfl) rfl (by kernel_rfl) (by(with_reducible and_intros)<;>first|exact⟨⟩|exact(og ((Bl (qB x g).1 k1).getD k1 (aB .aX)) (by rw[hgt];exact YM.2))| (intros;omega)) (bu X [3,6,7,11] rfl ?_))))
     refine⟨k1+1,by omega,by omega,?_⟩
     rw[bC _ k1 rfl (by omega), ←EF]
     try rfl
    ·try simp only[aR]at xl
     rw[Cm]at xl
     rw[BQ (by omega)]
     exact aH (av X [6,7] rfl (aD X [6] rfl (by trivial) (ak (ah rfl (by and_intros<;>first|exact⟨⟩| (rw[hc];done))))))
theorem vW(x:aV)(h0:wB x):So 82 [.agg (aU x)] [.agg (aU (testW x))]:=by
 refine aq X call82 func82 ntmps82 rfl rfl ?_
 intro zb
 have hls:cQ dr x.aj≤1048576∧cQ bD x.aa≤1048576∧ey x.az≤1048576∧x.replaced.length≤4194304:=h0
 have EF:=W1 h0
 refine av X [1,2] rfl (aC X [(3,903)] [(12,⟨true,[.agg (aU x)]⟩)] [1,2,3] [] rfl (by(with_reducible and_intros)<;>first|exact⟨⟩|exact(eN x h0)) (aC X [] [(15,⟨false,[aA (bR x.az)]⟩)] [1,2,3,4] [] rfl (by(with_reducible and_intros)<;>first|exact⟨⟩|exact(kC x.az)) (af ?_)))
 have t1:=(jf x.az (bR x.az) EF)
 refine aN X [(20,80)] [(20,⟨true,bM t1⟩)] [1,2,3,4,5,6] [] rfl (by(with_reducible and_intros)<;>first|exact⟨⟩|exact t1) (af (aC X [] [(24,⟨false,[aG (okW x)]⟩)] [1,2,3,4,5,29] [] rfl (by(with_reducible and_intros)<;>first|exact⟨⟩|exact(dx x)) ?_))
 refine an rfl ?_ ?_<;>intro hb0
 ·have hk:ry x=false:=bP hb0 (by simp only[ry,aO]<;>first|rfl|ac_rfl)
  have hc:=DV hk
  exact aD X [2] rfl (by trivial) (ak (ah rfl (by and_intros<;>first|exact⟨⟩| (rw[hc];done))))
 ·have hk:ry x=true:=bO hb0 (by simp only[ry,aO]<;>first|rfl|ac_rfl)
  have hc:=uj hk
  have hkk:=hk
  rw[ry,Bool.and_eq_true]at hkk
  obtain⟨hok,hah⟩:=hkk
  have lP:=dj hok
  have OT:=(lM hok).1
  refine au (af (av X [1,2,3,4,5,7] rfl ?_))
  refine ay (aE (fun k=>k≤x.aj.length) (fun k:Nat=> [(7, .one ((aA k)))]) (fun k=> [(13, .arr .aX (yJ x k).1),(20, .arr .int (yJ x k).2)]) (fun k=>x.aj.length-k) 0 (fun k=>rfl) (Nat.zero_le _) rfl ?_)
  rintro k hk0
  have htb:=W0 hok k hk0
  refine af (av X [1,2,3,4,5,7,35] rfl ?_)
  refine an rfl ?_ ?_<;>intro bf
  ·try simp only[aR]at bf
   have hrl:=gJ (kh x.seed [227,x.round,(k:Int)]) x.rows
   have hab:=WX (x.aj.getD k (aB .aX)) (fY x.aT (k:Int)) (bR x.az) (fG x.az.rounds (bR x.az)) (v:=(bw (kh x.seed [227,x.round,(k:Int)]) x.rows)) (by omega)
   have T0:=Nl hok hah (kh x.seed [227,x.round,(k:Int)])
   refine au (af (ay (aC X [] [(41,⟨false,[aA (fY x.aT (k:Int))]⟩)] [1,2,3,4,5,7,8] [] rfl (by(with_reducible and_intros)<;>first|exact⟨⟩|exact(gX x.aT (k:Int))) (af ?_))))
   have t1:=(qW (x.aj.getD k (aB .aX)) (fY x.aT (k:Int)) (bR x.az) (fG x.az.rounds (bR x.az)) (bw (kh x.seed [227,x.round,(k:Int)]) x.rows) (by omega))
   refine aF X [] [(57,⟨false,[aA (kh x.seed [227,x.round,(k:Int)])]⟩),(60,⟨true,[.a (.sl .int (bw (kh x.seed [227,x.round,(k:Int)]) x.rows))]⟩),(61,⟨true,bM t1⟩)] [1,2,3,4,5,7,8,9,10] [] 25165823 1 MO (by kernel_rfl) rfl (by kernel_rfl) (by(repeat' with_reducible first|exact aK|refine aQ ?_ ?_|apply And.intro);(iterate 3 all_goals try first|exact(bp x.seed [227,x.round,(k:Int)] (by first|assumption|omega| (simp;done)| (simp;omega)))|exact(jF (kh x.seed [227,x.round,(k:Int)]) x.rows)|exact t1);all_goals first| (intros;omega)|exact⟨rfl,aP _ (by decide)⟩) ?_
   refine af ?_
   have t1:=(tu (fY x.aT (k:Int)) (fG x.az.rounds (bR x.az)) (YG x k) hab.1 hab.2)
   refine aN X [] [(69,⟨false,bM t1⟩)] [1,2,3,4,5,7,70] [] rfl (by(with_reducible and_intros)<;>first|exact⟨⟩|exact fun _=>t1) ?_
   refine an rfl ?_ ?_<;>intro bU
   ·have UA:Px x k=true:=by rw[T0]at bU;exact bU
    have hst:=Nb (x:=x) (n:=k) UA
    have t1:=(oo (⟨x.rows,(yJ x k).1,x.aa,x.az,x.aT,x.seed,x.round,(yJ x k).2,x.cancelled⟩:aV) x.round (k:Int) (by show(yJ x k).1.length≤4;omega) OT htb.1 (by show(yJ x k).2.length≤_;omega) rfl)
    refine aN X [] [(800072,⟨true,Gs t1⟩),(700072,⟨true, .agg [.ptr 1000 903, .ptr 11 13, .ptr 12 14, .ptr 13 16, .ptr 14 20]:: .agg []::Gt t1⟩)] [1,2,3,4,5,7] [] rfl (by(with_reducible and_intros)<;>first|exact⟨⟩|exact t1) (bu X [1,2,3,4,5,7] rfl ?_)
    refine⟨k+1,by omega,by omega,?_⟩
    rw[bC _ k rfl (by omega), ←hst]
    try rfl
   ·have UA:Px x k=false:=by rw[T0]at bU;exact bU
    have hst:=Jz (x:=x) (n:=k) UA
    refine au (bu X [1,2,3,4,5,7] rfl ?_)
    refine⟨k+1,by omega,by omega,?_⟩
    rw[bC _ k rfl (by omega),hst]
    try rfl
  ·try simp only[aR]at bf
   exact aH (aD X [2] rfl (by trivial) (ak (ah rfl (by and_intros<;>first|exact⟨⟩| (rw[hc];done)| (rw[hc,show k=x.aj.length by omega];done)))))
end
section
set_option maxRecDepth 100000
theorem qX(x:aV)(hR:wR x):So 32 [.agg (aU x)] [.agg (aU (bE x))]:=by
 refine aq X call32 func32 ntmps32 rfl rfl ?_
 intro zb
 obtain⟨h0,OY⟩:=hR
 have lP:=AX h0
 refine av X [1,2] rfl (af (aC X [] [(9,⟨false,[aG (okW x)]⟩)] [1,2,15] [] rfl (by(with_reducible and_intros)<;>first|exact⟨⟩|exact(cq x)) ?_))
 refine an rfl ?_ ?_<;>intro hb0
 ·have hk:jj x=false:=bP hb0 (by simp only[jj,aO]<;>first|rfl|ac_rfl)
  have hc:=FD hk
  exact aC X [] [(17,⟨true,[.agg (aU x)]⟩)] [2] [] rfl (by(with_reducible and_intros)<;>first|exact⟨⟩|exact(eI x h0)) (ak (ah rfl (by and_intros<;>first|exact⟨⟩| (rw[hc];done))))
 ·have hk:jj x=true:=bO hb0 (by simp only[jj,aO]<;>first|rfl|ac_rfl)
  have hc:=ny hk
  obtain⟨hok,hr9⟩:=Hq hk
  have qY:=dX hok
  have hcs:=DH hok
  have hs4:=dj hok
  have hpd:=n9 (aY x)
  have hjz:=dw (FA _ hpd)
  have hgl:=nu x.aT (aY x) (bK (aY x)) (eX x) (aY x).length
  have mK:(bK (aY x)).length=(aY x).length:=List.length_map ..
  obtain⟨TU,Pq⟩:=Nn h0 hok OY
  refine au (aC X [] [(20,⟨true,[.a (.sl .aX (aY x)), .a (.sl .dG (eX x))]⟩)] [1,2,3,4] [] rfl (by(with_reducible and_intros)<;>first|exact⟨⟩|exact(s7 x h0)) (aC X [] [(24,⟨true,[.a (.sl .DB (bK (aY x)))]⟩)] [1,2,3,4,5] [] rfl (by(with_reducible and_intros)<;>first|exact⟨⟩|exact(yg (aY x) (by omega))) (af ?_)))
  have t1:=(tq (bK (aY x)) (by omega) hpd)
  refine aN X [] [(27,⟨true,bM t1⟩)] [1,2,3,4,5,6] [] rfl (by(with_reducible and_intros)<;>first|exact⟨⟩|exact t1) (af ?_)
  have t1:=(yu x (gY x.aT (aY x) (bK (aY x)) (eX x) (aY x).length) (jw (bK (aY x))) h0 (by omega) hjz)
  have t2:=(vV (bQ x (gY x.aT (aY x) (bK (aY x)) (eX x) (aY x).length) (jw (bK (aY x)))) TU)
  have t3:=(Aa (testW (bQ x (gY x.aT (aY x) (bK (aY x)) (eX x) (aY x).length) (jw (bK (aY x))))) Pq)
  exact aF X [(38,60),(39,100),(40,150)] [(36,⟨true,[.a (.sl .int (gY x.aT (aY x) (bK (aY x)) (eX x) (aY x).length))]⟩),(38,⟨true,bM t1⟩),(39,⟨true,bM t2⟩),(40,⟨true,bM t3⟩)] [2] [] 2047 0 MO (by kernel_rfl) rfl (by kernel_rfl) (by(with_reducible and_intros);(iterate 4 all_goals try first|exact⟨⟩|exact(yf x.aT (aY x) (bK (aY x)) (eX x) (by omega) hcs (M6 _))|exact t1|exact t2|exact t3)) (ak (ah rfl (by and_intros<;>first|exact⟨⟩| (rw[hc];done))))
theorem Bo(x:aV)(hR:wR x)(hok:okW x=true):So 38 [.agg (aU x)] [.agg (aU (yI (testW (bQ x (gY x.aT (aY x) (bK (aY x)) (eX x) (aY x).length) (jw (bK (aY x)))))))]:=by
 refine aq X call38 func38 ntmps38 rfl rfl ?_
 intro zb
 obtain⟨h0,OY⟩:=hR
 have lP:=AX h0
 have qY:=dX hok
 have hcs:=DH hok
 have hs4:=dj hok
 have hpd:=n9 (aY x)
 have hjz:=dw (FA _ hpd)
 have hgl:=nu x.aT (aY x) (bK (aY x)) (eX x) (aY x).length
 have mK:(bK (aY x)).length=(aY x).length:=List.length_map ..
 obtain⟨TU,Pq⟩:=Nn h0 hok OY
 refine av X [1,2] rfl (aC X [] [(10,⟨true,[.a (.sl .aX (aY x)), .a (.sl .dG (eX x))]⟩)] [1,2,3,4] [] rfl (by(with_reducible and_intros)<;>first|exact⟨⟩|exact(s8 x h0)) (aC X [] [(14,⟨true,[.a (.sl .DB (bK (aY x)))]⟩)] [1,2,3,4,5] [] rfl (by(with_reducible and_intros)<;>first|exact⟨⟩|exact(yj (aY x) (by omega))) (af ?_)))
 have t1:=(tv (bK (aY x)) (by omega) hpd)
 refine aN X [] [(17,⟨true,bM t1⟩)] [1,2,3,4,5,6] [] rfl (by(with_reducible and_intros)<;>first|exact⟨⟩|exact t1) (af ?_)
 have t1:=(yw x (gY x.aT (aY x) (bK (aY x)) (eX x) (aY x).length) (jw (bK (aY x))) h0 (by omega) hjz)
 have t2:=(vW (bQ x (gY x.aT (aY x) (bK (aY x)) (eX x) (aY x).length) (jw (bK (aY x)))) TU)
 have t3:=(Ac (testW (bQ x (gY x.aT (aY x) (bK (aY x)) (eX x) (aY x).length) (jw (bK (aY x))))) Pq)
 exact aF X [(28,60),(29,100),(30,150)] [(26,⟨true,[.a (.sl .int (gY x.aT (aY x) (bK (aY x)) (eX x) (aY x).length))]⟩),(28,⟨true,bM t1⟩),(29,⟨true,bM t2⟩),(30,⟨true,bM t3⟩)] [2] [] 2047 0 MO (by kernel_rfl) rfl (by kernel_rfl) (by(with_reducible and_intros);(iterate 4 all_goals try first|exact⟨⟩|exact(yh x.aT (aY x) (bK (aY x)) (eX x) (by omega) hcs (M6 _))|exact t1|exact t2|exact t3)) (ak (ah rfl ⟨rfl,rfl,rfl,rfl,rfl,rfl,rfl,rfl,rfl,rfl,⟨⟩⟩))
theorem iH(x:aV)(hR:wR x):So 13 [.agg (aU x)] [.agg (aU (bE x))]:=by
 refine aq X call13 func13 ntmps13 rfl rfl ?_
 intro zb
 have h0:=hR.1
 refine av X [1,2] rfl (af (aC X [] [(4,⟨false,[aG (okW x)]⟩)] [1,2,10] [] rfl (by(with_reducible and_intros)<;>first|exact⟨⟩|exact(dx x)) ?_))
 refine an rfl ?_ ?_<;>intro hb0
 ·have hk:jj x=false:=bP hb0 (by simp only[jj,aO]<;>first|rfl|ac_rfl)
  have hc:=FD hk
  exact aC X [] [(12,⟨true,[.agg (aU x)]⟩)] [2] [] rfl (by(with_reducible and_intros)<;>first|exact⟨⟩|exact(eN x h0)) (ak (ah rfl (by and_intros<;>first|exact⟨⟩| (rw[hc];done))))
 ·have hk:jj x=true:=bO hb0 (by simp only[jj,aO]<;>first|rfl|ac_rfl)
  have hc:=ny hk
  obtain⟨hok,hr9⟩:=Hq hk
  refine au (af ?_)
  have t1:=(Bo x hR hok)
  exact aN X [] [(14,⟨true,bM t1⟩)] [2] [] rfl (by(with_reducible and_intros)<;>first|exact⟨⟩|exact t1) (ak (ah rfl (by and_intros<;>first|exact⟨⟩| (rw[hc];done))))
end
section
set_option maxRecDepth 100000
theorem jS(c:dK):So 37 [.agg (bJ c)] [aA (waiting c)]:=by
 refine aq X call37 func37 ntmps37 rfl rfl ?_
 intro zb
 exact av X [1] rfl (av X [2] rfl (ak (ah rfl ⟨rfl,⟨⟩⟩)))
theorem jT(x:aV):So 33 [.agg (aU x)] [aA (tB x.aa x.aa.length)]:=by
 refine aq X call33 func33 ntmps33 rfl rfl ?_
 intro zb
 refine bH 0 2 rfl rfl (fun lO=>(av X [1] rfl (av X [1,3] rfl (af (av X [3,7,8,9] rfl ?_)))))
 refine ay (aE (fun k=>k≤x.aa.length) (fun k:Nat=> [(3, .one ((aA (tB x.aa k)))),(9, .one ((aA k)))]) (fun k=> []) (fun k=>x.aa.length-k) 0 (fun k=>rfl) (Nat.zero_le _) rfl ?_)
 intro k hk
 refine av X [3,7,8,9,10] rfl ?_
 refine af (an rfl ?_ ?_)<;>intro hb0
 ·try simp only[aR]at hb0
  refine au (af (ay (aD X [3,5,7,8,9] rfl (by and_intros<;>first|exact⟨⟩| (intros;omega)) (aN X [] [(16,⟨false,[aA (waiting ((x.aa.getD k (aB .bg)).live))]⟩)] [3,7,8,9] [] rfl (by(with_reducible and_intros)<;>first|exact⟨⟩|exact(jS ((x.aa.getD k (aB .bg)).live))) (bu X [3,7,8,9] rfl ?_)))))
  refine⟨k+1,by omega,by omega,?_⟩
  rw[bC _ k rfl (by omega)]
  try rfl
 ·try simp only[aR]at hb0
  exact aH (av X [2] rfl (ak (ah rfl ⟨by rw[show k=x.aa.length by omega],⟨⟩⟩)))
theorem j8(x:aV)(hd:x.aa.length≤1048576):So 34 [.agg (aU x)] [aA (HQ x.aa x.aa.length)]:=by
 refine aq X call34 func34 ntmps34 rfl rfl ?_
 intro zb
 refine bH 0 2 rfl rfl (fun lO=>(av X [1] rfl (av X [1,3] rfl (af (av X [1,3,7,8,9] rfl ?_)))))
 refine ay (aE (fun k=>k≤x.aa.length) (fun k:Nat=> [(3, .one ((aA (HQ x.aa k)))),(9, .one ((aA k)))]) (fun k=> []) (fun k=>x.aa.length-k) 0 (fun k=>rfl) (Nat.zero_le _) rfl ?_)
 intro k hk
 refine av X [1,3,7,8,9,10] rfl ?_
 refine af (an rfl ?_ ?_)<;>intro hb0
 ·try simp only[aR]at hb0
  refine au (af (ay (aD X [1,3,4,5,7,8,9] rfl (by and_intros<;>first|exact⟨⟩| (intros;omega)) (aC X [] [(16,⟨false,[aG (vB x (k:Int))]⟩)] [1,3,4,5,7,8,9,16] [] rfl (by(with_reducible and_intros)<;>first|exact⟨⟩|exact(C8 x (k:Int) (by first|assumption|omega| (simp;done)| (simp;omega)))) ?_))))
  refine an rfl ?_ ?_<;>intro bf
  ·rw[DW hb0,decide_eq_true_eq]at bf
   have hx:(IntKind.i64.wrap (BitVec.ofInt IntKind.i64.bits (k:Int)^^^BitVec.ofInt IntKind.i64.bits 1).toNat)=((k^^^1:Nat):Int):=Rw k (by omega)
   have hx0:0≤(IntKind.i64.wrap (BitVec.ofInt IntKind.i64.bits (k:Int)^^^BitVec.ofInt IntKind.i64.bits 1).toNat)∧(IntKind.i64.wrap (BitVec.ofInt IntKind.i64.bits (k:Int)^^^BitVec.ofInt IntKind.i64.bits 1).toNat)<(x.aa.length:Int):=by rw[hx];omega
   refine aF X [] [] [1,3,7,8,9] [] 131071 0 MO (by kernel_rfl) rfl (by kernel_rfl) (by and_intros<;>first|exact⟨⟩| (intros;omega)) (bu X [1,3,7,8,9] rfl ?_)
   refine⟨k+1,by omega,by omega,?_⟩
   rw[bC _ k rfl (by omega),Hs bf,hx,SD]
   try rfl
  ·rw[DW hb0,decide_eq_false_iff_not]at bf
   refine au (bu X [1,3,7,8,9] rfl ?_)
   refine⟨k+1,by omega,by omega,?_⟩
   rw[bC _ k rfl (by omega),JJ bf]
   try rfl
 ·try simp only[aR]at hb0
  exact aH (av X [2] rfl (ak (ah rfl ⟨by rw[show k=x.aa.length by omega],⟨⟩⟩)))
theorem dZ(x:aV)(hd:x.aa.length≤1048576):So 10 [.agg (aU x)] [aG (ep x)]:=by
 refine aq X call10 func10 ntmps10 rfl rfl ?_
 intro zb
 exact av X [1] rfl (aC X [] [(4,⟨false,[aA (tB x.aa x.aa.length)]⟩),(8,⟨false,[aA (HQ x.aa x.aa.length)]⟩)] [2] [] rfl (by(with_reducible and_intros);(iterate 2 all_goals try first|exact⟨⟩|exact(jT x)|exact fun _=>(j8 x hd))) (ak (ah rfl ⟨(congrArg Value.bool (by simp only[ep,aO]<;>first|rfl|ac_rfl)),⟨⟩⟩)))
end
section
set_option maxRecDepth 100000
theorem lV(c:dK)(b:List UInt8)(h0:cQ List.length c.aI≤1048576∧cQ List.length c.inbox≤1048576)(hb:b.length≤1048576):So 55 [.agg (bJ c), .a (.sl .u8 b)] [.agg (bJ (jQ c b)),aG (sZ c b)]:=by
 refine aq X call55 func55 ntmps55 rfl rfl ?_
 intro zb
 have w6:=dc h0.1
 refine av X [1,2,4] rfl (aC X [] [(8,⟨true,[.agg (bJ c)]⟩)] [1,2,4,6] [] rfl (by(with_reducible and_intros)<;>first|exact⟨⟩|exact(eM c h0)) (af (aF X [(13,11),(13,40)] [(500014,⟨true,[]⟩)] [2,4,6] [] 175 2 MO (by kernel_rfl) rfl (by kernel_rfl) (by and_intros<;>first|exact⟨⟩|exact rfl| (simp only[cK,maxLen,lens];omega)) (af (aC X [] [(18,⟨false,[aG (cN c)]⟩),(22,⟨false,[aG (cN (zV c b))]⟩)] [2,4,6,24] [] rfl (by(with_reducible and_intros);(iterate 2 all_goals try first|exact⟨⟩|exact(c9 c)|exact fun _=>(c9 (zV c b)))) ?_)))))
 refine an rfl ?_ ?_<;>intro hb0
 ·have hk:sZ c b=false:=bP hb0 (by simp only[sZ,aO]<;>first|rfl|ac_rfl)
  have hq:=VF hk
  exact aC X [] [(26,⟨true,[.agg (bJ c)]⟩)] [4,5] [] rfl (by(with_reducible and_intros)<;>first|exact⟨⟩|exact(eM c h0)) (ak (ah rfl (by and_intros<;>first|exact⟨⟩| (rw[hq];done)| (rw[hk];done))))
 ·have hk:sZ c b=true:=bO hb0 (by simp only[sZ,aO]<;>first|rfl|ac_rfl)
  have hq:=DZ hk
  exact au (aD X [4,5] rfl (by trivial) (ak (ah rfl (by and_intros<;>first|exact⟨⟩| (rw[hq];rfl;done)| (rw[hk];done)))))
theorem rE(d:bg)(b:List UInt8)(h0:bD d≤1048576)(hb:b.length≤1048576):So 31 [.agg (bY d), .a (.sl .u8 b)] [.agg (bY (zX d b)),aG (zW d b)]:=by
 refine aq X call31 func31 ntmps31 rfl rfl ?_
 intro zb
 have vk:cu d.live≤1048576∧cu d.saved≤1048576:=by unfold bD at h0;omega
 unfold cu at vk
 refine av X [1,2,4] rfl (aC X [] [(14,⟨true,[.agg (bJ (jQ d.live b)),aG (sZ d.live b)]⟩)] [1,2,4,6,7] [] rfl (by(with_reducible and_intros)<;>first|exact⟨⟩|exact(lV d.live b ⟨by omega,by omega⟩ hb)) (aC X [] [(21,⟨true,[.agg (bJ (jQ d.saved b)),aG (sZ d.saved b)]⟩)] [2,4,6,7,8,9] [] rfl (by(with_reducible and_intros)<;>first|exact⟨⟩|exact(lV d.saved b ⟨by omega,by omega⟩ hb)) (af (aC X [] [(25,⟨false,[aG (cR d)]⟩)] [2,4,6,8,34] [] rfl (by(with_reducible and_intros)<;>first|exact⟨⟩|exact(dS d)) ?_))))
 refine an rfl ?_ ?_<;>intro hb0
 ·have hk:zW d b=false:=bP hb0 (by simp only[zW,aO]<;>first|rfl|ac_rfl)
  have hq:=VG hk
  exact aC X [] [(36,⟨true,[.agg (bY d)]⟩)] [4,5] [] rfl (by(with_reducible and_intros)<;>first|exact⟨⟩|exact(jO d h0)) (ak (ah rfl (by and_intros<;>first|exact⟨⟩| (rw[hq];done)| (rw[hk];done))))
 ·have hk:zW d b=true:=bO hb0 (by simp only[zW,aO]<;>first|rfl|ac_rfl)
  have hq:=SG hk
  exact au (aD X [4,5] rfl (by trivial) (ak (ah rfl (by and_intros<;>first|exact⟨⟩| (rw[hq];done)| (rw[hk];done)))))
theorem lE(x:aV)(c:Int)(b:List UInt8)(h0:wB x)(hb:b.length≤1048576):So 8 [.agg (aU x),aA c, .a (.sl .u8 b)] [.agg (aU (qC x c b)),aG (Hl x c b)]:=by
 refine aq X call8 func8 ntmps8 rfl rfl ?_
 intro zb
 refine bH 0 1 rfl rfl (fun hl1=> ?_)
 refine bH 0 2 rfl rfl (fun lO=> ?_)
 have OX:=Jh h0
 have lP:=AX h0
 have hw:IntKind.i64.wrap ((x.aa.length:Int)-1)=(x.aa.length:Int)-1:=bh (by omega)
 refine av X [1,2,3,6] rfl (aC X [] [(12,⟨true,[.agg (aU x)]⟩)] [1,2,3,6,8] [] rfl (by(with_reducible and_intros)<;>first|exact⟨⟩|exact(eN x h0)) (af (af ?_)))
 have t1:=(aW c 0 (IntKind.i64.wrap ((x.aa.length:Int)-1)))
 refine aN X [] [(14,⟨false,[aG (okW x)]⟩),(22,⟨false,bM t1⟩)] [1,2,3,6,8,24] [] rfl (by(with_reducible and_intros);(iterate 2 all_goals try first|exact⟨⟩|exact(dx x)|exact fun _=>t1)) ?_
 refine an rfl ?_ ?_<;>intro hb0
 ·have hk:lU x c=false:=bP hb0 (by simp only[lU,mh,hw,aO]<;>first|rfl|ac_rfl)
  have hq:=YQ (b:=b) hk
  exact aD X [6,7] rfl (by trivial) (ak (ah rfl (by and_intros<;>first|exact⟨⟩| (rw[hq.1];done)| (rw[hq.2];done))))
 ·have hk:lU x c=true:=bO hb0 (by simp only[lU,mh,hw,aO]<;>first|rfl|ac_rfl)
  obtain⟨hok,hc0,vk⟩:=Ho hk
  have W3:=YP hk
  have hq:=VH (b:=b) hk
  refine au (af ?_)
  have t1:=(rE (x.aa.getD c.toNat (aB .bg)) b W3 hb)
  exact aN X [] [(33,⟨true,bM t1⟩)] [1,6,8,9,10] [] rfl (by(with_reducible and_intros)<;>first|exact⟨⟩|exact t1| (intros;omega)) (aD X [6,8,10] rfl (by and_intros<;>first|exact⟨⟩| (intros;omega)) (aD X [6,7] rfl (by trivial) (ak (ah rfl (by and_intros<;>first|exact⟨⟩| (rw[hq.1];rfl;done)| (rw[hq.2];rfl;done))))))
end
section
set_option maxRecDepth 100000
theorem yC(r:Int)(h:1≤r∧r≤64):So 23 [aA r] [.agg (dh (⟨r,[]⟩:iC))]:=by
 refine aq X call23 func23 ntmps23 rfl rfl ?_
 intro zb
 refine av X [0,2] rfl (af (aC X [] [(4,⟨false,[aG (inr r 1 64)]⟩)] [0,2,5] [] rfl (by(with_reducible and_intros)<;>first|exact⟨⟩|exact(aW r 1 64)) ?_))
 refine an rfl ?_ ?_<;>intro hb0
 ·try simp only[aR]at hb0
  omega
 ·try simp only[aR]at hb0
  exact au (aD X [2] rfl (by trivial) (ak (ah rfl ⟨rfl,rfl,⟨⟩⟩)))
theorem Ak(i f k s:Int)(h1:0≤i∧i≤7)(h2:0≤f∧f≤7)(h3:i≠f)(h4:1≤k∧k≤2147483646):So 28 [aA i,aA f,aA k,aA s] [.agg (bJ (⟨i,f,k,s,[],0,[],0⟩:dK))]:=by
 refine aq X call28 func28 ntmps28 rfl rfl ?_
 intro zb
 refine av X [0,1,2,3,8] rfl (af (aC X [] [(12,⟨false,[aG (inr i 0 7&&inr f 0 7&& !(i==f)&&eC k)]⟩)] [0,1,2,3,8,13] [] rfl (by(with_reducible and_intros)<;>first|exact⟨⟩|exact(xk i f k)) ?_))
 refine an rfl ?_ ?_<;>intro hb0
 ·try simp only[aR]at hb0
  have hq:eC k=true:=by unfold eC;rw[bN];exact h4
  rw[hq]at hb0
  simp at hb0
  omega
 ·exact au (aD X [8] rfl (by trivial) (ak (ah rfl ⟨rfl,rfl,rfl,rfl,rfl,rfl,rfl,rfl,⟨⟩⟩)))
theorem iI(rows s p seed:Int)(hr:1≤rows∧rows≤64)(hs:2≤s∧s≤4)(hp:1≤p∧p≤4):So 6 [aA rows,aA s,aA p,aA seed] [.agg (aU (dO rows s.toNat p.toNat seed))]:=by
 refine aq X call6 func6 ntmps6 rfl rfl ?_
 intro zb
 refine av X [0,1,2,3,8] rfl (af (aC X [] [(14,⟨false,[aG (inr rows 1 64)]⟩),(18,⟨false,[aG (b7 s)]⟩),(23,⟨false,[aG (inr p 1 4)]⟩)] [0,1,2,3,8,25] [] rfl (by(with_reducible and_intros);(iterate 3 all_goals try first|exact⟨⟩|exact(aW rows 1 64)|exact fun _=>(fL s)|exact fun _=>(aW p 1 4))) ?_))
 refine an rfl ?_ ?_<;>intro hb0
 ·try simp only[aR]at hb0
  simp[b7,inr]at hb0
  omega
 ·refine au (af ?_)
  have t1:=(mQ 1 (kh seed [197]))
  refine aN X [(29,63)] [(29,⟨true,[.agg (dh (⟨rows,[]⟩:iC))]⟩),(32,⟨false,[aA (kh seed [197])]⟩),(33,⟨false,bM t1⟩)] [0,1,2,3,8,9] [] rfl (by(repeat' with_reducible first|exact aK|refine aQ ?_ ?_|apply And.intro);(iterate 3 all_goals try first|exact(yC rows (by first|assumption|omega| (simp;done)| (simp;omega)))|exact(bp seed [197] (by first|assumption|omega| (simp;done)| (simp;omega)))|exact t1);all_goals first|exact⟨rfl,aP _ (by decide)⟩) ?_
  rw[BD (c8 _ _).1]
  refine gU 9 1 61 .aX rfl (gU 9 2 62 .bg rfl (af (av X [0,1,2,3,8,9,10] rfl ?_)))
  refine ay (aE (fun k=>k≤s.toNat) (fun k:Nat=> [(10, .one ((aA k)))]) (fun k=> [(61, .arr .aX (yA rows k))]) (fun k=>s.toNat-k) 0 (fun k=>rfl) (Nat.zero_le _) rfl ?_)
  intro k hk
  have hle:=BR rows k
  refine af (av X [0,1,2,3,8,9,10,38] rfl ?_)
  refine an rfl ?_ ?_<;>intro bf
  ·try simp only[aR]at bf
   have Kp:=DS (id:=(k:Int)) (rows:=rows) (by omega) hr
   refine au (af (ay (aF X [(47,61)] [(45,⟨true,[.agg (bL (newS (k:Int) rows 0))]⟩),(500046,⟨true,[]⟩)] [0,1,2,3,8,9,10] [] 63 0 MO (by kernel_rfl) rfl (by kernel_rfl) (by(repeat' with_reducible first|exact aK|refine aQ ?_ ?_|apply And.intro)<;>first|exact(pN (k:Int) rows 0)|exact rfl|exact⟨rfl,aP _ (by decide)⟩| (simp only[cK,maxLen,lens];omega)) ?_)))
   rw[Kp]
   refine bu X [0,1,2,3,8,9,10] rfl ?_
   refine⟨k+1,by omega,by omega,?_⟩
   rw[bC _ k rfl (by omega),SU]
   try rfl
  ·try simp only[aR]at bf
   have hks:s.toNat=k:=by omega
   refine aH (af (av X [2,3,8,9,11] rfl ?_))
   refine ay (aE (fun k1=>k1≤(2*p.toNat)) (fun k1:Nat=> [(11, .one ((aA k1)))]) (fun k1=> [(62, .arr .bg (tD seed k1))]) (fun k1=>(2*p.toNat)-k1) 0 (fun k1=>rfl) (Nat.zero_le _) rfl ?_)
   intro k1 hk1
   have Vd:=BS seed k1
   have W5:IntKind.i64.wrap (2*p)=2*p:=bh (by omega)
   refine af (av X [2,3,8,9,11,52] rfl ?_)
   refine an rfl ?_ ?_<;>intro bU
   ·try simp only[aR]at bU
    rw[W5]at bU
    have hkr:=tV (c8 seed [199,(k1:Int).tdiv 2])
    have hx:(IntKind.i64.wrap (BitVec.ofInt IntKind.i64.bits (k1:Int)^^^BitVec.ofInt IntKind.i64.bits 1).toNat)=((k1^^^1:Nat):Int):=Rw k1 (by omega)
    have hxl:=sB k1 8 (by omega) (by decide)
    have hxn:=Nu k1
    have Yi:=BD (c8 seed [199,(k1:Int).tdiv 2]).1
    have hw2:IntKind.i64.wrap ((k1:Int).tdiv 2)=(k1:Int).tdiv 2:=by rw[xg (by omega)];exact bh (by omega)
    refine au (af (ay (af ?_)))
    have t1:=(bp seed [199,IntKind.i64.wrap ((k1:Int).tdiv 2)] (by first|assumption|omega| (simp;done)| (simp;omega)))
    have t2:=(mQ 1 (kh seed [199,IntKind.i64.wrap ((k1:Int).tdiv 2)]))
    refine aN X [] [(59,⟨false,bM t1⟩),(60,⟨false,bM t2⟩)] [2,3,8,9,11,12] [] rfl (by(repeat' with_reducible first|exact aK|refine aQ ?_ ?_|apply And.intro);(iterate 2 all_goals try first|exact t1|exact t2);all_goals first| (intros;omega)|exact⟨rfl,aP _ (by decide)⟩) ?_
    rw[hw2,Yi]
    have t1:=(Ak (k1:Int) (IntKind.i64.wrap (BitVec.ofInt IntKind.i64.bits (k1:Int)^^^BitVec.ofInt IntKind.i64.bits 1).toNat) (AM (kh seed [199,(k1:Int).tdiv 2])) (kh seed [211,(k1:Int)]) (by omega) (by rw[hx];omega) (by rw[hx];omega) (by omega))
    refine aF X [(74,62)] [(70,⟨false,[aA (kh seed [211,(k1:Int)])]⟩),(71,⟨false,bM t1⟩),(72,⟨true,[.agg (bY (⟨(⟨(k1:Int),(IntKind.i64.wrap (BitVec.ofInt IntKind.i64.bits (k1:Int)^^^BitVec.ofInt IntKind.i64.bits 1).toNat),(AM (kh seed [199,(k1:Int).tdiv 2])),(kh seed [211,(k1:Int)]),[],0,[],0⟩:dK),(⟨(k1:Int),(IntKind.i64.wrap (BitVec.ofInt IntKind.i64.bits (k1:Int)^^^BitVec.ofInt IntKind.i64.bits 1).toNat),(AM (kh seed [199,(k1:Int).tdiv 2])),(kh seed [211,(k1:Int)]),[],0,[],0⟩:dK)⟩:bg))]⟩)] [2,3,8,9,11] [] 20479 2 MO (by kernel_rfl) rfl (by kernel_rfl) (by(repeat' with_reducible first|exact aK|refine aQ ?_ ?_|apply And.intro);(iterate 3 all_goals try first|exact(bp seed [211,(k1:Int)] (by first|assumption|omega| (simp;done)| (simp;omega)))|exact t1|exact(pL (⟨(k1:Int),(IntKind.i64.wrap (BitVec.ofInt IntKind.i64.bits (k1:Int)^^^BitVec.ofInt IntKind.i64.bits 1).toNat),(AM (kh seed [199,(k1:Int).tdiv 2])),(kh seed [211,(k1:Int)]),[],0,[],0⟩:dK) ⟨Nat.zero_le _,Nat.zero_le _⟩));all_goals first|exact rfl|exact⟨rfl,aP _ (by decide)⟩| (simp only[cK,maxLen,lens];omega)) ?_
    rw[hx]
    refine bu X [2,3,8,9,11] rfl ?_
    refine⟨k1+1,by omega,by omega,?_⟩
    rw[bC _ k1 rfl (by omega),SW]
    try rfl
   ·try simp only[aR]at bU
    rw[W5]at bU
    have Ly:2*p.toNat=k1:=by omega
    exact aH (aD X [8] rfl (by trivial) (ak (ah rfl ⟨rfl,by rw[hks];rfl,by rw[←Ly];rfl,rfl,rfl,rfl,rfl,rfl,rfl,rfl,⟨⟩⟩)))
theorem FL(l:List UInt8):So 5 [.a (.sl .u8 l)] [aG (decide ((1048576:Int)<(l.length:Int)))]:=by
 refine aq X call5 func5 ntmps5 rfl rfl ?_
 intro zb
 exact av X [0] rfl (av X [2] rfl (ak (ah rfl ⟨rfl,⟨⟩⟩)))
theorem iA(l:List UInt8)(i:Int)(hi:0≤i∧i≤1000):So 7 [.a (.sl .u8 l),aA i] [aA (lW l i)]:=by
 refine aq X call7 func7 ntmps7 rfl rfl ?_
 intro zb
 refine av X [0,1] rfl (af (av X [0,1,8] rfl ?_))
 refine an rfl ?_ ?_<;>intro hb0
 ·try simp only[aR]at hb0
  exact aD X [4] rfl (by and_intros<;>first|exact⟨⟩| (intros;omega)) (ak (ah rfl ⟨by rw[lW,if_pos (by omega)],⟨⟩⟩))
 ·try simp only[aR]at hb0
  exact au (aD X [4] rfl (by and_intros<;>first|exact⟨⟩| (intros;omega)) (ak (ah rfl ⟨by rw[lW,if_neg (by omega)],⟨⟩⟩)))
end
end Go.Proofs.YtkcegdacbddipaaGreat.G
