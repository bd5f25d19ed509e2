/-
  FnRounds: the law, walked by the symbolic machine: it returns true. No condition.
-/
import Derived.Test.YtcnomgcfijjkmaaGreatM11
namespace Go.Proofs.YtcnomgcfijjkmaaGreat.G
set_option linter.all false
open Go.RowKit L D Tryz
section
set_option maxRecDepth 100000
theorem wE(key:Int)(a:cY)(h1:a.selection.length≤262144)(h2:a.data.length≤262144):So 201 [az key, .agg (fA a)] [aH (TG key a)]:=by
 refine ay X call201 func201 ntmps201 rfl rfl ?_
 intro zb
 exact aq X [0,3] rfl (cQ X [] [(9,⟨false,[az (E2 key a.server a.round a.selection a.data)]⟩)] [4] [] 7 MO (by kernel_rfl) rfl (by(with_reducible and_intros)<;>first|exact⟨⟩|exact(qO key a h1 h2)) (aj (af rfl ⟨rfl,⟨⟩⟩)))
theorem vh(key:Int)(d:DB)(a:cY)(h1:a.selection.length≤262144)(h2:a.data.length≤262144):So 124 [az key, .agg (aZ d), .agg (fA a)] [aH (fls key d a)]:=by
 refine ay X call124 func124 ntmps124 rfl rfl ?_
 intro zb
 exact aq X [0,4,5] rfl (cQ X [] [(9,⟨false,[aH (TG key a)]⟩),(16,⟨false,[.a (.sl .u8 (gu d a.selection))]⟩),(17,⟨false,[aH (a.data==(gu d a.selection))]⟩)] [6] [] 14 MO (by kernel_rfl) rfl (by(with_reducible and_intros);(iterate 3 all_goals try first|exact⟨⟩|exact(wE key a h1 h2)|exact fun _=>(oD d a.selection)|exact fun _=>(kQ a.data (gu d a.selection)))) (aj (af rfl ⟨(congrArg Value.bool (by simp only[fls,aU]<;>first|rfl|ac_rfl)),⟨⟩⟩)))
theorem zY(l:List DB)(j0:l.length≤1048576)(ha:uX l):So 115 [.a (.sl .DB l)] [.agg (aZ (jw l)),aH (Co l)]:=by
 refine ay X call115 func115 ntmps115 rfl rfl ?_
 intro zb
 refine aq X [0,2] rfl (aa (aD X [] [(11,⟨false,[aH (cM (l.length:Int))]⟩)] [0,2,12] [] rfl (by(with_reducible and_intros)<;>first|exact⟨⟩|exact(dV (l.length:Int))) ?_))
 refine ah rfl ?_ ?_<;>intro hb0
 ·have hk:cM l.length=false:=by simpa using hb0
  have hj:=E7 (Oy hk)
  exact aC X [2,3] rfl (by trivial) (aj (af rfl ⟨by rw[hj.1],by rw[hj.2],⟨⟩⟩))
 ·have hk:cM l.length=true:=by simpa using hb0
  have hcb:=E8 hk
  have Xc:=Oz hk
  have h0z:=eu (lY ha 0)
  have BO:(l.drop 1).length=l.length-1:=List.length_drop ..
  refine an (aD X [] [(17,⟨true,[.agg (aZ (l.getD (Int.toNat 0) (aI .DB)))]⟩)] [0,2,4] [] rfl (by(with_reducible and_intros)<;>first|exact⟨⟩|exact(cV (l.getD (Int.toNat 0) (aI .DB)) h0z)| (intros;omega)) (aa (aC X [2,4,19,20,21] rfl (by and_intros<;>first|exact⟨⟩| (intros;omega)) ?_)))
  rw[ac9]
  refine au (aG (fun k=>k≤(l.drop 1).length∧Ov l=Lz (Cp l k) ((l.drop 1).drop k)) (fun k:Nat=> [(21, .one ((az k)))]) (fun k=> [(17, .arr (.sl .u8) (Cp l k).rows)]) (fun k=>(l.drop 1).length-k) 0 (fun k=>rfl) ⟨Nat.zero_le _,Xc⟩ rfl ?_)
  rintro k ⟨fP,Cl⟩
  refine aq X [2,4,19,20,21,22] rfl ?_
  refine aa (ah rfl ?_ ?_)<;>intro aW
  ·try simp only[aP]at aW
   have hz1:=eu (TC ha k)
   have NT:=eu (lY (MJ ha) k)
   refine an (aa (au (aC X [2,4,6,19,20,21] rfl (by and_intros<;>first|exact⟨⟩| (intros;omega)) (aa ?_))))
   have t1:=(jr (Cp l k) ((l.drop 1).getD k (aI .DB)) hz1 NT)
   refine aE X [] [(28,⟨true,bJ t1⟩)] [2,4,7,8,19,20,21] [] rfl (by(with_reducible and_intros)<;>first|exact⟨⟩|exact t1) (aa (aq X [2,4,7,19,20,21,32] rfl ?_))
   refine ah rfl ?_ ?_<;>intro bz
   ·have hx:iZ (Cp l k) ((l.drop 1).getD k (aI .DB))=false:=by simpa using bz
    have hj:=E7 (Cl.trans (TB l k aW hx))
    exact aC X [2,3] rfl (by trivial) (aj (af rfl ⟨by rw[hj.1],by rw[hj.2],⟨⟩⟩))
   ·have hx:iZ (Cp l k) ((l.drop 1).getD k (aI .DB))=true:=by simpa using bz
    have hs:=zK l k aW
    refine an (eO X [2,4,19,20,21] rfl (by trivial) (lU 4 0 17 rfl (bt X [2,4,19,20,21] rfl ?_)))
    refine⟨k+1,⟨by omega,Cl.trans (KR l k aW hx)⟩,by omega,?_⟩
    rw[bH _ k rfl (by omega),hs]
    try rfl
  ·try simp only[aP]at aW
   have hj:=Ix (Cl.trans (Ox l k aW))
   exact aK (aC X [2,3] rfl (by trivial) (aj (af rfl ⟨by rw[hj.1],by rw[hj.2],⟨⟩⟩)))
theorem vi(l:List DB)(j0:l.length≤1048576)(ha:uX l):So 43 [.a (.sl .DB l)] [.agg (aZ (jw l)),aH (Co l)]:=by
 refine ay X call43 func43 ntmps43 rfl rfl ?_
 intro zb
 exact aq X [0,2] rfl (aD X [] [(5,⟨true,[.agg (aZ (jw l)),aH (Co l)]⟩)] [2,3] [] rfl (by(with_reducible and_intros)<;>first|exact⟨⟩|exact(zY l j0 ha)) (aj (af rfl ⟨rfl,rfl,⟨⟩⟩)))
theorem Bu(id rows b:Int):So 203 [az id,az rows,az b] [.agg (bR (newS id rows b))]:=by
 refine ay X call203 func203 ntmps203 rfl rfl ?_
 intro zb
 refine aq X [0,1,2,6] rfl (aa (aD X [] [(8,⟨false,[aH (inr id 0 3)]⟩),(12,⟨false,[aH (inr rows 1 64)]⟩),(17,⟨false,[aH (inr b 0 3)]⟩)] [0,1,2,6,19] [] rfl (by(with_reducible and_intros);(iterate 3 all_goals try first|exact⟨⟩|exact(aM id 0 3)|exact fun _=>(aM rows 1 64)|exact fun _=>(aM b 0 3))) ?_))
 refine ah rfl ?_ ?_<;>intro hb0
 ·have hk:Cq id rows b=false:=b9 hb0 (by simp only[Cq,aU]<;>first|rfl|ac_rfl)
  have hn:newS id rows b=⟨0,0,0,[],0⟩:=by rw[newS,hk];rfl
  exact aC X [6] rfl (by trivial) (aj (af rfl (by and_intros<;>first|exact⟨⟩| (rw[hn];done))))
 ·have hk:Cq id rows b=true:=bX hb0 (by simp only[Cq,aU]<;>first|rfl|ac_rfl)
  have hn:newS id rows b=⟨id,rows,0,[],b⟩:=by rw[newS,if_pos hk]
  exact an (aC X [6] rfl (by trivial) (aj (af rfl (by and_intros<;>first|exact⟨⟩| (rw[hn];done)))))
theorem pU(s:bw)(hz:s.received.length≤1048576∧ ∀r,r∈s.received→dL List.length r.share.rows≤1048576):So 127 [.agg (bR s)] [.agg (bR (jD s))]:=by
 refine ay X call127 func127 ntmps127 rfl rfl ?_
 intro zb
 refine aq X [1,2] rfl (aD X [] [(5,⟨true,[.agg (bR s)]⟩)] [1,2,3] [] rfl (by(with_reducible and_intros)<;>first|exact⟨⟩|exact(ig s hz)) (aa (aD X [] [(7,⟨false,[aH (cm s)]⟩)] [2,3,12] [] rfl (by(with_reducible and_intros)<;>first|exact⟨⟩|exact(dn s)) ?_)))
 refine ah rfl ?_ ?_<;>intro hb0
 ·have hk:E9 s=true:=jc hb0 (by simp only[E9,aU]<;>first|rfl|ac_rfl)
  have hn:jD s=⟨s.id,s.rows,IntKind.i64.wrap (s.round+1),[],s.behavior⟩:=by rw[jD,if_pos hk]
  exact aq X [2,3] rfl (bt X [2,3] rfl (aC X [2] rfl (by trivial) (aj (af rfl (by and_intros<;>first|exact⟨⟩| (rw[hn];done))))))
 ·have hk:E9 s=false:=lV hb0 (by simp only[E9,aU]<;>first|rfl|ac_rfl)
  have hn:jD s=s:=by rw[jD,hk];rfl
  exact an (aC X [2] rfl (by trivial) (aj (af rfl (by and_intros<;>first|exact⟨⟩| (rw[hn];done)))))
theorem wF(key:Int)(a:cY)(h1:a.selection.length≤262144)(h2:a.data.length≤262144):So 313 [az key, .agg (fA a)] [aH (TG key a)]:=by
 refine ay X call313 func313 ntmps313 rfl rfl ?_
 intro zb
 exact aq X [0,3] rfl (cQ X [] [(9,⟨false,[az (E2 key a.server a.round a.selection a.data)]⟩)] [4] [] 7 MO (by kernel_rfl) rfl (by(with_reducible and_intros)<;>first|exact⟨⟩|exact(lX key a h1 h2)) (aj (af rfl ⟨rfl,⟨⟩⟩)))
theorem vk(key:Int)(d:DB)(a:cY)(h1:a.selection.length≤262144)(h2:a.data.length≤262144):So 277 [az key, .agg (aZ d), .agg (fA a)] [aH (fls key d a)]:=by
 refine ay X call277 func277 ntmps277 rfl rfl ?_
 intro zb
 exact aq X [0,4,5] rfl (cQ X [] [(9,⟨false,[aH (TG key a)]⟩),(16,⟨false,[.a (.sl .u8 (gu d a.selection))]⟩),(17,⟨false,[aH (a.data==(gu d a.selection))]⟩)] [6] [] 14 MO (by kernel_rfl) rfl (by(with_reducible and_intros);(iterate 3 all_goals try first|exact⟨⟩|exact(wF key a h1 h2)|exact fun _=>(oE d a.selection)|exact fun _=>(kO a.data (gu d a.selection)))) (aj (af rfl ⟨(congrArg Value.bool (by simp only[fls,aU]<;>first|rfl|ac_rfl)),⟨⟩⟩)))
theorem zZ(l:List DB)(j0:l.length≤1048576)(ha:uX l):So 270 [.a (.sl .DB l)] [.agg (aZ (jw l)),aH (Co l)]:=by
 refine ay X call270 func270 ntmps270 rfl rfl ?_
 intro zb
 refine aq X [0,2] rfl (aa (aD X [] [(10,⟨false,[aH (cM (l.length:Int))]⟩),(16,⟨false,[aH (cT (l.getD (Int.toNat 0) (aI .DB)))]⟩)] [0,2,18] [] rfl ⟨fun _=>cN _,fun h=>afy h,gf _,⟨⟩⟩ ?_))
 refine ah rfl ?_ ?_<;>intro hb0
 ·have hk:cM l.length=false:=afx ha hb0
  have hj:=E7 (Oy hk)
  exact aC X [2,3] rfl (by trivial) (aj (af rfl ⟨by rw[hj.1],by rw[hj.2],⟨⟩⟩))
 ·have hk:cM l.length=true:=ada hb0
  have hcb:=E8 hk
  have Xc:=Oz hk
  have h0z:=eu (lY ha 0)
  have BO:(l.drop 1).length=l.length-1:=List.length_drop ..
  refine an (aD X [] [(23,⟨true,[.agg (aZ (l.getD (Int.toNat 0) (aI .DB)))]⟩)] [0,2,4] [] rfl (by(with_reducible and_intros)<;>first|exact⟨⟩|exact(dK (l.getD (Int.toNat 0) (aI .DB)) h0z)| (intros;omega)) (aa (aq X [0,2,4,5] rfl ?_)))
  refine au (aG (fun k=>(1≤k∧k≤l.length)∧Ov l=Lz (Cp l (k-1)) ((l.drop 1).drop (k-1))) (fun k:Nat=> [(5, .one ((az k)))]) (fun k=> [(23, .arr (.sl .u8) (Cp l (k-1)).rows)]) (fun k=>l.length-k) 1 (fun k=>rfl) ⟨by omega,Xc⟩ rfl ?_)
  rintro k ⟨fP,Cl⟩
  refine aa (aq X [0,2,4,5,27] rfl ?_)
  refine ah rfl ?_ ?_<;>intro aW
  ·try simp only[aP]at aW
   have hz1:=eu (TC ha (k-1))
   have NT:=eu (lY ha k)
   have hge:(l.drop 1).getD (k-1) (aI .DB)=(l.getD k (aI .DB)):=by rw[K1,show k-1+1=k by omega]
   have MQ:k-1<(l.drop 1).length:=by omega
   refine an (aa (au (aa ?_)))
   have t1:=(jt (Cp l (k-1)) (l.getD k (aI .DB)) hz1 NT)
   refine bu X [] [(36,⟨true,bJ t1⟩)] [0,2,4,5,6,7] [] 3071 1 MO (by kernel_rfl) rfl (by kernel_rfl) (by(with_reducible and_intros)<;>first|exact⟨⟩|exact t1| (intros;omega)) (aa (aq X [0,2,4,5,6,40] rfl ?_))
   refine ah rfl ?_ ?_<;>intro bz
   ·have hx:iZ (Cp l (k-1)) (l.getD k (aI .DB))=false:=by simpa using bz
    have hj:=E7 (Cl.trans (TB l (k-1) MQ (by rw[hge];exact hx)))
    exact aC X [2,3] rfl (by trivial) (aj (af rfl ⟨by rw[hj.1],by rw[hj.2],⟨⟩⟩))
   ·have hx:iZ (Cp l (k-1)) (l.getD k (aI .DB))=true:=by simpa using bz
    have hs:=zK l (k-1) MQ
    rw[hge]at hs
    refine an (eO X [0,2,4,5] rfl (by trivial) (lU 4 0 23 rfl (bt X [0,2,4,5] rfl ?_)))
    refine⟨k+1,⟨by omega,by rw[Cl,KR l (k-1) MQ (by rw[hge];exact hx),show k+1-1=k-1+1 by omega]⟩,by omega,?_⟩
    rw[bH _ k rfl (by omega),show k+1-1=k-1+1 by omega,hs]
    try rfl
  ·try simp only[aP]at aW
   have hj:=Ix (Cl.trans (Ox l (k-1) (by omega)))
   exact aK (aC X [2,3] rfl (by trivial) (aj (af rfl ⟨by rw[hj.1],by rw[hj.2],⟨⟩⟩)))
theorem vl(l:List DB)(j0:l.length≤1048576)(ha:uX l):So 216 [.a (.sl .DB l)] [.agg (aZ (jw l)),aH (Co l)]:=by
 refine ay X call216 func216 ntmps216 rfl rfl ?_
 intro zb
 exact aq X [0,2] rfl (aD X [] [(5,⟨true,[.agg (aZ (jw l)),aH (Co l)]⟩)] [2,3] [] rfl (by(with_reducible and_intros)<;>first|exact⟨⟩|exact(zZ l j0 ha)) (aj (af rfl ⟨rfl,rfl,⟨⟩⟩)))
theorem l5(id rows b:Int):So 283 [az id,az rows,az b] [.agg (bR (newS id rows b))]:=by
 refine ay X call283 func283 ntmps283 rfl rfl ?_
 intro zb
 refine aq X [0,1,2,6] rfl (aa (aD X [] [(8,⟨false,[aH (inr id 0 3)]⟩),(12,⟨false,[aH (inr rows 1 64)]⟩),(17,⟨false,[aH (inr b 0 3)]⟩)] [0,1,2,6,19] [] rfl (by(with_reducible and_intros);(iterate 3 all_goals try first|exact⟨⟩|exact(bf id 0 3)|exact fun _=>(bf rows 1 64)|exact fun _=>(bf b 0 3))) ?_))
 refine ah rfl ?_ ?_<;>intro hb0
 ·have hk:Cq id rows b=false:=b9 hb0 (by simp only[Cq,aU]<;>first|rfl|ac_rfl)
  have hn:newS id rows b=⟨0,0,0,[],0⟩:=by rw[newS,hk];rfl
  exact aC X [6] rfl (by trivial) (aj (af rfl (by and_intros<;>first|exact⟨⟩| (rw[hn];done))))
 ·have hk:Cq id rows b=true:=bX hb0 (by simp only[Cq,aU]<;>first|rfl|ac_rfl)
  have hn:newS id rows b=⟨id,rows,0,[],b⟩:=by rw[newS,if_pos hk]
  exact an (aC X [6] rfl (by trivial) (aj (af rfl (by and_intros<;>first|exact⟨⟩| (rw[hn];done)))))
theorem pV(s:bw)(hz:s.received.length≤1048576∧ ∀r,r∈s.received→dL List.length r.share.rows≤1048576):So 280 [.agg (bR s)] [.agg (bR (jD s))]:=by
 refine ay X call280 func280 ntmps280 rfl rfl ?_
 intro zb
 refine aq X [1,2] rfl (aa (aD X [] [(4,⟨false,[aH (cm s)]⟩)] [1,2,10] [] rfl (by(with_reducible and_intros)<;>first|exact⟨⟩|exact(cO s)) ?_))
 refine ah rfl ?_ ?_<;>intro hb0
 ·have hk:E9 s=false:=b9 hb0 (by simp only[E9,aU]<;>first|rfl|ac_rfl)
  have hn:jD s=s:=by rw[jD,hk];rfl
  exact aD X [] [(12,⟨true,[.agg (bR s)]⟩)] [2] [] rfl (by(with_reducible and_intros)<;>first|exact⟨⟩|exact(gl s hz)) (aj (af rfl (by and_intros<;>first|exact⟨⟩| (rw[hn];done))))
 ·have hk:E9 s=true:=bX hb0 (by simp only[E9,aU]<;>first|rfl|ac_rfl)
  have hn:jD s=⟨s.id,s.rows,IntKind.i64.wrap (s.round+1),[],s.behavior⟩:=by rw[jD,if_pos hk]
  exact an (aC X [2] rfl (by trivial) (aj (af rfl (by and_intros<;>first|exact⟨⟩| (rw[hn];done)))))
end
section
set_option maxRecDepth 100000
theorem Ct(a:iP)(r:Int)(d:DB)(h0:eJ a≤1048576)(Xd:dL List.length d.rows≤1048576):So 126 [.agg (dc a),az r, .agg (aZ d)] [.agg [aO a.rows, .vw 0 none .aN (C6 a r d)],aH (oJ a r d)]:=by
 refine ay X call126 func126 ntmps126 rfl rfl ?_
 intro zb
 refine aq X [1,3,5,6] rfl (aD X [] [(10,⟨true,[.agg (dc a)]⟩)] [1,3,5,6,8] [] rfl (by(with_reducible and_intros)<;>first|exact⟨⟩|exact(oK a h0)) (aa (aD X [] [(12,⟨false,[aH (eW a)]⟩),(16,⟨false,[aH (inr r 0 100000)]⟩),(22,⟨false,[az (dh a)]⟩),(27,⟨false,[aH (cT d)]⟩)] [1,5,6,8,37] [] rfl (by(with_reducible and_intros);(iterate 4 all_goals try first|exact⟨⟩|exact(lE a)|exact fun _=>(aM r 0 100000)|exact fun _=>(lT a)|exact fun _=>(dx d))) ?_)))
 refine ah rfl ?_ ?_<;>intro hb0
 ·have hk:oJ a r d=false:=b9 hb0 (by simp only[oJ,aU]<;>first|rfl|ac_rfl)
  have hn:=MR hk
  exact aC X [6,7] rfl (by trivial) (aj (af rfl ⟨rfl,by rw[hn],by rw[hk],⟨⟩⟩))
 ·have hk:oJ a r d=true:=bX hb0 (by simp only[oJ,aU]<;>first|rfl|ac_rfl)
  have hn:=II hk
  have hkb:=IJ hk
  have hal:(qh a r d).length=a.rounds.length+1:=by unfold qh;rw[List.length_append];rfl
  refine an (cQ X [] [(43,⟨true,[.agg (aZ d)]⟩),(500045,⟨true,[]⟩)] [6,8] [] 7 MO (by kernel_rfl) rfl (by(repeat' with_reducible first|exact aL|refine aS ?_ ?_|apply And.intro)<;>first|exact(cV d Xd)|exact rfl|exact⟨rfl,bn _ (by decide)⟩| (simp only[dO,maxLen,lens];omega)) ?_)
  rw[show a.rounds++ [(⟨r,d⟩:aN)]=(qh a r d)from rfl]
  refine aa (aq X [6,8,51] rfl ?_)
  refine ah rfl ?_ ?_<;>intro aW
  ·try simp only[aP]at aW
   have h8:(8:Int)<((qh a r d).length:Int):=aW
   rw[if_pos h8]at hn
   exact eO X [6,8] rfl (by and_intros<;>first|exact⟨⟩| (intros;omega)) (aC X [6,7] rfl (by trivial) (aj (af rfl ⟨rfl,by rw[hn];simp,by rw[hk],⟨⟩⟩)))
  ·try simp only[aP]at aW
   have h8: ¬(8:Int)<((qh a r d).length:Int):=by omega
   rw[if_neg h8]at hn
   exact an (aC X [6,7] rfl (by trivial) (aj (af rfl ⟨rfl,by rw[hn],by rw[hk],⟨⟩⟩)))
theorem Cu(a:iP)(r:Int)(d:DB)(h0:eJ a≤1048576)(Xd:dL List.length d.rows≤1048576):So 279 [.agg (dc a),az r, .agg (aZ d)] [.agg [aO a.rows, .vw 0 none .aN (C6 a r d)],aH (oJ a r d)]:=by
 refine ay X call279 func279 ntmps279 rfl rfl ?_
 intro zb
 refine aq X [1,3,5,6] rfl (aD X [] [(10,⟨true,[.agg (dc a)]⟩)] [1,3,5,6,8] [] rfl (by(with_reducible and_intros)<;>first|exact⟨⟩|exact(oB a h0)) (aa (aD X [] [(12,⟨false,[aH (eW a)]⟩),(16,⟨false,[aH (inr r 0 100000)]⟩),(22,⟨false,[az (dh a)]⟩),(27,⟨false,[aH (cT d)]⟩)] [1,5,6,8,37] [] rfl (by(with_reducible and_intros);(iterate 4 all_goals try first|exact⟨⟩|exact(gU a)|exact fun _=>(bf r 0 100000)|exact fun _=>(gd a)|exact fun _=>(cN d))) ?_)))
 refine ah rfl ?_ ?_<;>intro hb0
 ·have hk:oJ a r d=false:=b9 hb0 (by simp only[oJ,aU]<;>first|rfl|ac_rfl)
  have hn:=MR hk
  exact aC X [6,7] rfl (by trivial) (aj (af rfl ⟨rfl,by rw[hn],by rw[hk],⟨⟩⟩))
 ·have hk:oJ a r d=true:=bX hb0 (by simp only[oJ,aU]<;>first|rfl|ac_rfl)
  have hn:=II hk
  have hkb:=IJ hk
  have hal:(qh a r d).length=a.rounds.length+1:=by unfold qh;rw[List.length_append];rfl
  refine an (cQ X [] [(43,⟨true,[.agg (aZ d)]⟩),(500045,⟨true,[]⟩)] [6,8] [] 7 MO (by kernel_rfl) rfl (by(repeat' with_reducible first|exact aL|refine aS ?_ ?_|apply And.intro)<;>first|exact(dK d Xd)|exact rfl|exact⟨rfl,bn _ (by decide)⟩| (simp only[dO,maxLen,lens];omega)) ?_)
  rw[show a.rounds++ [(⟨r,d⟩:aN)]=(qh a r d)from rfl]
  refine aa (aq X [6,8,51] rfl ?_)
  refine ah rfl ?_ ?_<;>intro aW
  ·try simp only[aP]at aW
   have h8:(8:Int)<((qh a r d).length:Int):=aW
   rw[if_pos h8]at hn
   exact eO X [6,8] rfl (by and_intros<;>first|exact⟨⟩| (intros;omega)) (aC X [6,7] rfl (by trivial) (aj (af rfl ⟨rfl,by rw[hn];simp,by rw[hk],⟨⟩⟩)))
  ·try simp only[aP]at aW
   have h8: ¬(8:Int)<((qh a r d).length:Int):=by omega
   rw[if_neg h8]at hn
   exact an (aC X [6,7] rfl (by trivial) (aj (af rfl ⟨rfl,by rw[hn],by rw[hk],⟨⟩⟩)))
theorem mF(x:bp)(rd id:Int)(hl:x.av.length≤4)(hw:1≤x.rows∧x.rows≤64)(hU:Fb rd x.av)(hr:x.replaced.length≤4194400):dA ty Tryz.prog 125 [(1000, .box [aO x.rows, .own 11, .own 12,aO x.aB.rows, .own 13,aO x.aX,aO x.seed,aO x.round, .own 14,aO x.cancelled]),(11, .arr .bw x.av),(12, .arr .bC x.ak),(13, .arr .aN x.aB.rounds),(14, .arr .int x.replaced)] [.a (.ptr 1000 0),az id] [(1000, .box [aO x.rows, .own 11, .own 12,aO x.aB.rows, .own 13,aO x.aX,aO x.seed,aO x.round, .own 14,aO x.cancelled]),(11, .arr .bw (Bo x.rows rd (x.av,x.replaced) id).1),(12, .arr .bC x.ak),(13, .arr .aN x.aB.rounds),(14, .arr .int (Bo x.rows rd (x.av,x.replaced) id).2)] []:=by
 refine cq X call125 func125 rfl rfl (by decide) ntmps125 (by simp) rfl ?_
 intro zb
 refine aa ?_
 have t1:=(aM id 0 (IntKind.i64.wrap ((x.av.length:Int)-1)))
 refine aE X [] [(12,⟨false,bJ t1⟩)] [0,1,12] [] rfl (by(with_reducible and_intros)<;>first|exact⟨⟩|exact t1) ?_
 refine ah rfl ?_ ?_<;>intro hb0
 ·have hk:zL x.av id=true:=by unfold zL;simpa using hb0
  have hb:=TW hl hk
  have hp:(Bo x.rows rd (x.av,x.replaced) id)=_:=OI (rows:=x.rows) (rd:=rd) (p:=(x.av,x.replaced)) hk
  have Sh:=Fg (id:=id) (by omega) hw
  have hrd:=(qX hU (k:=id.toNat) (by omega)).1
  refine aD X [] [(18,⟨true,[.agg (bR (newS id x.rows 0))]⟩)] [0,1,4] [] rfl (by(with_reducible and_intros)<;>first|exact⟨⟩|exact(Bu id x.rows 0)) ?_
  rw[Sh]
  refine aC X [0,1,4] rfl (by and_intros<;>first|exact⟨⟩| (intros;omega)) ?_
  rw[hrd]
  exact cQ X [] [] [0,1] [] 7 MO (by kernel_rfl) rfl (by and_intros<;>first|exact⟨⟩| (intros;omega)) (aE X [(42,14)] [] [] [] rfl (by and_intros<;>first|exact⟨⟩|exact rfl| (simp only[dO,maxLen,lens];omega)) (sq rfl (by and_intros<;>first|exact⟨⟩|rfl| (rw[hp];done))))
 ·have hk:zL x.av id=false:=by unfold zL;simpa using hb0
  have hp:(Bo x.rows rd (x.av,x.replaced) id)=_:=OJ (rows:=x.rows) (rd:=rd) (p:=(x.av,x.replaced)) hk
  exact an (sq rfl (by and_intros<;>first|exact⟨⟩|rfl| (rw[hp];done)))
theorem pW(x:bp)(rd id:Int)(hl:x.av.length≤4)(hw:1≤x.rows∧x.rows≤64)(hU:Fb rd x.av)(hr:x.replaced.length≤4194400)(hxr:x.round=rd):dA ty Tryz.prog 278 [(1000, .box [aO x.rows, .own 11, .own 12,aO x.aB.rows, .own 13,aO x.aX,aO x.seed,aO x.round, .own 14,aO x.cancelled]),(11, .arr .bw x.av),(12, .arr .bC x.ak),(13, .arr .aN x.aB.rounds),(14, .arr .int x.replaced)] [.a (.ptr 1000 0),az id] [(1000, .box [aO x.rows, .own 11, .own 12,aO x.aB.rows, .own 13,aO x.aX,aO x.seed,aO x.round, .own 14,aO x.cancelled]),(11, .arr .bw (Bo x.rows rd (x.av,x.replaced) id).1),(12, .arr .bC x.ak),(13, .arr .aN x.aB.rounds),(14, .arr .int (Bo x.rows rd (x.av,x.replaced) id).2)] []:=by
 refine cq X call278 func278 rfl rfl (by decide) ntmps278 (by simp) rfl ?_
 intro zb
 refine aa (aa ?_)
 have t1:=(bf id 0 (IntKind.i64.wrap ((x.av.length:Int)-1)))
 refine aE X [] [(12,⟨false,bJ t1⟩)] [0,1,13] [] rfl (by(with_reducible and_intros)<;>first|exact⟨⟩|exact t1) ?_
 refine ah rfl ?_ ?_<;>intro hb0
 ·have hk:zL x.av id=false:=by unfold zL;simpa using hb0
  have hp:(Bo x.rows rd (x.av,x.replaced) id)=_:=OJ (rows:=x.rows) (rd:=rd) (p:=(x.av,x.replaced)) hk
  exact aj (aY rfl (by and_intros<;>first|exact⟨⟩|rfl| (rw[hp];done)))
 ·have hk:zL x.av id=true:=by unfold zL;simpa using hb0
  have hb:=TW hl hk
  have hp:(Bo x.rows rd (x.av,x.replaced) id)=_:=OI (rows:=x.rows) (rd:=rd) (p:=(x.av,x.replaced)) hk
  have Sh:=Fg (id:=id) (by omega) hw
  have hrd:=(qX hU (k:=id.toNat) (by omega)).1
  refine an (aD X [] [(19,⟨true,[.agg (bR (newS id x.rows 0))]⟩)] [0,1,4] [] rfl (by(with_reducible and_intros)<;>first|exact⟨⟩|exact(l5 id x.rows 0)) ?_)
  rw[Sh]
  refine aC X [0,1,4] rfl (by trivial) ?_
  rw[hxr]
  exact cQ X [] [] [0,1] [] 7 MO (by kernel_rfl) rfl (by and_intros<;>first|exact⟨⟩| (intros;omega)) (aE X [(39,14)] [] [] [] rfl (by and_intros<;>first|exact⟨⟩|exact rfl| (simp only[dO,maxLen,lens];omega)) (sq rfl (by and_intros<;>first|exact⟨⟩|rfl| (rw[hp];done))))
theorem Aa(x:bp)(g:List Int)(d:DB)(h0:wB x)(hgl:g.length≤64)(Xd:dL List.length d.rows≤1048576):So 46 [.agg (aT x), .a (.sl .int g), .agg (aZ d)] [.agg [aO (cP x g d).rows, .sl .bw (cP x g d).av, .sl .bC (cP x g d).ak,aO (cP x g d).aB.rows, .vw 0 none .aN (cP x g d).aB.rounds,aO (cP x g d).aX,aO (cP x g d).seed,aO (cP x g d).round, .sl .int (cP x g d).replaced,aO (cP x g d).cancelled]]:=by
 refine ay X call46 func46 ntmps46 rfl rfl ?_
 intro zb
 have hls:dL dJ x.av≤1048576∧dL bO x.ak≤1048576∧eJ x.aB≤1048576∧x.replaced.length≤4194304:=h0
 have hcp:=IF x g
 refine aq X [1,3,5,6] rfl (aD X [(7,907)] [(13,⟨true,[.agg (aT x)]⟩)] [1,3,5,6,7] [] rfl (by(with_reducible and_intros)<;>first|exact⟨⟩|exact(dg x h0)) (aa (aD X [] [(15,⟨false,[aH (okW x)]⟩)] [1,3,5,6,7,21] [] rfl (by(with_reducible and_intros)<;>first|exact⟨⟩|exact(b7 x)) ?_)))
 refine ah rfl ?_ ?_<;>intro hb0
 ·have hk:gI x=false:=b9 hb0 (by simp only[gI,aU]<;>first|rfl|ac_rfl)
  have hc:=G3 (g:=g) (d:=d) hk
  exact aC X [6] rfl (by trivial) (aj (af rfl (by and_intros<;>first|exact⟨⟩| (rw[hc];done))))
 ·have hk:gI x=true:=bX hb0 (by simp only[gI,aU]<;>first|rfl|ac_rfl)
  obtain⟨hok,hr9⟩:=IG hk
  have o7:=ef hok
  have MG:=(ot hok).1
  have hcU:=Yn g hok
  refine an (aa (aq X [1,3,5,6,7,25] rfl ?_))
  refine ah rfl ?_ ?_<;>intro aW
  ·try simp only[aP]at aW
   have Xe:g.length=0:=by omega
   have hc:=K4 (d:=d) hk Xe
   have hgn:g= []:=List.length_eq_zero_iff.1 Xe
   have t1:=(Ct x.aB x.round d hls.2.2.1 Xd)
   refine aE X [] [(32,⟨true,bJ t1⟩)] [1,6,7] [] rfl (by(with_reducible and_intros)<;>first|exact⟨⟩|exact t1) (aa (aq X [6,7,40,41,42] rfl ?_))
   refine au (aG (fun k=>k≤g.length) (fun k:Nat=> [(42, .one ((az k)))]) (fun k=> [(14, .arr .bw (Fh x g k).1),(21, .arr .int (Fh x g k).2)]) (fun k=>g.length-k) 0 (fun k=>rfl) (Nat.zero_le _) rfl ?_)
   rintro k fP
   have xF:=zW (x:=x) fP
   have hU:=K3 hok fP
   refine aq X [6,7,40,41,42,43] rfl ?_
   refine aa (ah rfl ?_ ?_)<;>intro bz
   ·try simp only[aP]at bz
    omega
   ·try simp only[aP]at bz
    rw[vZ bz]
    refine aK (aa (aq X [6,7,50,51,52] rfl ?_))
    refine au (aG (fun k1=>k1≤x.av.length) (fun k1:Nat=> [(52, .one ((az k1)))]) (fun k1=> [(14, .arr .bw (Cs (sB x g).1 k1))]) (fun k1=>x.av.length-k1) 0 (fun k1=>rfl) (Nat.zero_le _) (by rw[OK];rfl) ?_)
    intro k1 hk1
    have CL:(Cs (sB x g).1 k1).length=x.av.length:=by rw[C8 (by omega)];exact hcp.1
    refine aq X [6,7,50,51,52,53] rfl ?_
    refine aa (ah rfl ?_ ?_)<;>intro dD
    ·try simp only[aP]at dD
     have hgt:=C7 (l:=(sB x g).1) (k:=k1) (by omega)
     have QE:=qX hcU (k:=k1) (by omega)
     have FY:=zX (l:=(sB x g).1) (k:=k1) (by omega)
     refine an (aa (au (aC X [6,7,10,11,50,51,52] rfl (by and_intros<;>first|exact⟨⟩| (intros;omega)) (bZ X [] [(61,⟨true,[.agg (bR (jD ((Cs (sB x g).1 k1).getD k1 (aI .bw))))]⟩)] [6,7,50,51,52] [] 6 MO (by kernel_rfl) rfl (by(with_reducible and_intros)<;>first|exact⟨⟩|exact(pU ((Cs (sB x g).1 k1).getD k1 (aI .bw)) (by rw[hgt];exact QE.2))| (intros;omega)) (bt X [6,7,50,51,52] rfl ?_)))))
     refine⟨k1+1,by omega,by omega,?_⟩
     rw[bH _ k1 rfl (by omega), ←FY]
     try rfl
    ·try simp only[aP]at dD
     rw[C9 (by omega)]
     exact aK (aq X [6,7] rfl (aC X [6] rfl (by trivial) (aj (af rfl (by and_intros<;>first|exact⟨⟩| (rw[hc];done))))))
  ·try simp only[aP]at aW
   have Xe: ¬g.length=0:=by omega
   have hc:=K5 (d:=d) hk Xe
   refine bt X [1,6,7] rfl (aa (aq X [6,7,40,41,42] rfl ?_))
   refine au (aG (fun k=>k≤g.length) (fun k:Nat=> [(42, .one ((az k)))]) (fun k=> [(14, .arr .bw (Fh x g k).1),(21, .arr .int (Fh x g k).2)]) (fun k=>g.length-k) 0 (fun k=>rfl) (Nat.zero_le _) rfl ?_)
   rintro k fP
   have xF:=zW (x:=x) fP
   have hU:=K3 hok fP
   refine aq X [6,7,40,41,42,43] rfl ?_
   refine aa (ah rfl ?_ ?_)<;>intro bz
   ·try simp only[aP]at bz
    have hst:=K2 (x:=x) bz
    refine an (aa (au (aC X [6,7,9,40,41,42] rfl (by and_intros<;>first|exact⟨⟩| (intros;omega)) ?_)))
    have t1:=(mF (⟨x.rows,(Fh x g k).1,x.ak,x.aB,x.aX,x.seed,x.round,(Fh x g k).2,IntKind.i64.wrap (x.cancelled+1)⟩:bp) x.round (g.getD k (aI .int)) (by show(Fh x g k).1.length≤4;omega) MG hU (by show(Fh x g k).2.length≤_;omega))
    refine aE X [] [(800047,⟨true,bF t1⟩),(700047,⟨true, .agg [.ptr 1000 907, .ptr 11 14, .ptr 12 15, .ptr 13 17, .ptr 14 21]:: .agg []::bG t1⟩)] [6,7,40,41,42] [] rfl (by(with_reducible and_intros)<;>first|exact⟨⟩|exact t1) (bt X [6,7,40,41,42] rfl ?_)
    refine⟨k+1,by omega,by omega,?_⟩
    rw[bH _ k rfl (by omega), ←hst]
    try rfl
   ·try simp only[aP]at bz
    rw[vZ bz]
    refine aK (aa (aq X [6,7,50,51,52] rfl ?_))
    refine au (aG (fun k1=>k1≤x.av.length) (fun k1:Nat=> [(52, .one ((az k1)))]) (fun k1=> [(14, .arr .bw (Cs (sB x g).1 k1))]) (fun k1=>x.av.length-k1) 0 (fun k1=>rfl) (Nat.zero_le _) (by rw[OK];rfl) ?_)
    intro k1 hk1
    have CL:(Cs (sB x g).1 k1).length=x.av.length:=by rw[C8 (by omega)];exact hcp.1
    refine aq X [6,7,50,51,52,53] rfl ?_
    refine aa (ah rfl ?_ ?_)<;>intro dD
    ·try simp only[aP]at dD
     have hgt:=C7 (l:=(sB x g).1) (k:=k1) (by omega)
     have QE:=qX hcU (k:=k1) (by omega)
     have FY:=zX (l:=(sB x g).1) (k:=k1) (by omega)
     refine an (aa (au (aC X [6,7,10,11,50,51,52] rfl (by and_intros<;>first|exact⟨⟩| (intros;omega)) (bZ X [] [(61,⟨true,[.agg (bR (jD ((Cs (sB x g).1 k1).getD k1 (aI .bw))))]⟩)] [6,7,50,51,52] [] 6 MO (by kernel_rfl) rfl (by(with_reducible and_intros)<;>first|exact⟨⟩|exact(pU ((Cs (sB x g).1 k1).getD k1 (aI .bw)) (by rw[hgt];exact QE.2))| (intros;omega)) (bt X [6,7,50,51,52] rfl ?_)))))
     refine⟨k1+1,by omega,by omega,?_⟩
     rw[bH _ k1 rfl (by omega), ←FY]
     try rfl
    ·try simp only[aP]at dD
     rw[C9 (by omega)]
     exact aK (aq X [6,7] rfl (aC X [6] rfl (by trivial) (aj (af rfl (by and_intros<;>first|exact⟨⟩| (rw[hc];done))))))
theorem ya(x:bp)(h0:wB x):So 45 [.agg (aT x)] [.agg (aT (testW x))]:=by
 refine ay X call45 func45 ntmps45 rfl rfl ?_
 intro zb
 have hls:dL dJ x.av≤1048576∧dL bO x.ak≤1048576∧eJ x.aB≤1048576∧x.replaced.length≤4194304:=h0
 have FY:=Yp h0
 refine aq X [1,2] rfl (aD X [(3,903)] [(13,⟨true,[.agg (aT x)]⟩)] [1,2,3] [] rfl (by(with_reducible and_intros)<;>first|exact⟨⟩|exact(dg x h0)) (aD X [] [(16,⟨false,[az (dh x.aB)]⟩)] [1,2,3,4] [] rfl (by(with_reducible and_intros)<;>first|exact⟨⟩|exact(lT x.aB)) (aa ?_)))
 have t1:=(ko x.aB (dh x.aB) FY)
 refine aE X [(21,80)] [(21,⟨true,bJ t1⟩)] [1,2,3,4,5,6] [] rfl (by(with_reducible and_intros)<;>first|exact⟨⟩|exact t1) (aa (aD X [] [(25,⟨false,[aH (okW x)]⟩)] [1,2,3,4,5,30] [] rfl (by(with_reducible and_intros)<;>first|exact⟨⟩|exact(b7 x)) ?_))
 refine ah rfl ?_ ?_<;>intro hb0
 ·have hk:xS x=false:=b9 hb0 (by simp only[xS,aU]<;>first|rfl|ac_rfl)
  have hc:=K7 hk
  exact aC X [2] rfl (by trivial) (aj (af rfl (by and_intros<;>first|exact⟨⟩| (rw[hc];done))))
 ·have hk:xS x=true:=bX hb0 (by simp only[xS,aU]<;>first|rfl|ac_rfl)
  have hc:=G4 hk
  have hkk:=hk
  rw[xS,Bool.and_eq_true]at hkk
  obtain⟨hok,hah⟩:=hkk
  have o7:=ef hok
  have MG:=(ot hok).1
  refine an (aa (aq X [1,2,3,4,5,33,34,35] rfl ?_))
  refine au (aG (fun k=>k≤x.av.length) (fun k:Nat=> [(35, .one ((az k)))]) (fun k=> [(14, .arr .bw (Cr x k).1),(21, .arr .int (Cr x k).2)]) (fun k=>x.av.length-k) 0 (fun k=>rfl) (Nat.zero_le _) rfl ?_)
  rintro k fP
  have htb:=TY hok k fP
  refine aq X [1,2,3,4,5,33,34,35,36] rfl ?_
  refine aa (ah rfl ?_ ?_)<;>intro aW
  ·try simp only[aP]at aW
   have hrl:=iH (kh x.seed [227,x.round,(k:Int)]) x.rows
   have hab:=Yj (x.av.getD k (aI .bw)) (jC x.aX (k:Int)) (dh x.aB) (iK x.aB.rounds (dh x.aB)) (v:=(cA (kh x.seed [227,x.round,(k:Int)]) x.rows)) (by omega)
   have hsg:=Yo hok hah (kh x.seed [227,x.round,(k:Int)])
   refine an (aa (au (aC X [1,2,3,4,5,7,8,33,34,35] rfl (by and_intros<;>first|exact⟨⟩| (intros;omega)) (aD X [] [(43,⟨false,[az (jC x.aX (k:Int))]⟩)] [1,2,3,4,5,7,8,9,33,34,35] [] rfl (by(with_reducible and_intros)<;>first|exact⟨⟩|exact(jd x.aX (k:Int))) (aa ?_)))))
   have t1:=(sX (x.av.getD k (aI .bw)) (jC x.aX (k:Int)) (dh x.aB) (iK x.aB.rounds (dh x.aB)) (cA (kh x.seed [227,x.round,(k:Int)]) x.rows) (by omega))
   refine bu X [] [(55,⟨false,[az (kh x.seed [227,x.round,(k:Int)])]⟩),(58,⟨true,[.a (.sl .int (cA (kh x.seed [227,x.round,(k:Int)]) x.rows))]⟩),(59,⟨true,bJ t1⟩)] [1,2,3,4,5,7,9,10,33,34,35] [] 1572863 1 MO (by kernel_rfl) rfl (by kernel_rfl) (by(repeat' with_reducible first|exact aL|refine aS ?_ ?_|apply And.intro);(iterate 3 all_goals try first|exact(bU x.seed [227,x.round,(k:Int)] (by first|assumption|omega| (simp;done)| (simp;omega)))|exact(kV (kh x.seed [227,x.round,(k:Int)]) x.rows)|exact t1);all_goals first|exact⟨rfl,bn _ (by decide)⟩) ?_
   refine aa ?_
   have t1:=(vh (jC x.aX (k:Int)) (iK x.aB.rounds (dh x.aB)) (tsA x k) hab.1 hab.2)
   refine aE X [] [(65,⟨false,bJ t1⟩)] [1,2,3,4,5,7,33,34,35,65] [] rfl (by(with_reducible and_intros)<;>first|exact⟨⟩|exact t1) ?_
   refine ah rfl ?_ ?_<;>intro bz
   ·have hst:=OB (x:=x) (n:=k) bz
    have t1:=(mF (⟨x.rows,(Cr x k).1,x.ak,x.aB,x.aX,x.seed,x.round,(Cr x k).2,x.cancelled⟩:bp) x.round (k:Int) (by show(Cr x k).1.length≤4;omega) MG htb.1 (by show(Cr x k).2.length≤_;omega))
    refine aE X [] [(800067,⟨true,bF t1⟩),(700067,⟨true, .agg [.ptr 1000 903, .ptr 11 14, .ptr 12 15, .ptr 13 17, .ptr 14 21]:: .agg []::bG t1⟩)] [1,2,3,4,5,33,34,35] [] rfl (by(with_reducible and_intros)<;>first|exact⟨⟩|exact t1) (bt X [1,2,3,4,5,33,34,35] rfl ?_)
    refine⟨k+1,by omega,by omega,?_⟩
    rw[bH _ k rfl (by omega), ←hst]
    try rfl
   ·have hst:=KT (x:=x) (n:=k) bz
    refine an (bt X [1,2,3,4,5,33,34,35] rfl ?_)
    refine⟨k+1,by omega,by omega,?_⟩
    rw[bH _ k rfl (by omega),hst]
    try rfl
  ·try simp only[aP]at aW
   exact aK (aC X [2] rfl (by trivial) (aj (af rfl (by and_intros<;>first|exact⟨⟩| (rw[hc];done)| (rw[hc,show k=x.av.length by omega];done)))))
theorem Ab(x:bp)(g:List Int)(d:DB)(h0:wB x)(hgl:g.length≤64)(Xd:dL List.length d.rows≤1048576):So 219 [.agg (aT x), .a (.sl .int g), .agg (aZ d)] [.agg [aO (cP x g d).rows, .sl .bw (cP x g d).av, .sl .bC (cP x g d).ak,aO (cP x g d).aB.rows, .vw 0 none .aN (cP x g d).aB.rounds,aO (cP x g d).aX,aO (cP x g d).seed,aO (cP x g d).round, .sl .int (cP x g d).replaced,aO (cP x g d).cancelled]]:=by
 refine ay X call219 func219 ntmps219 rfl rfl ?_
 intro zb
 have hls:dL dJ x.av≤1048576∧dL bO x.ak≤1048576∧eJ x.aB≤1048576∧x.replaced.length≤4194304:=h0
 have hcp:=IF x g
 refine aq X [1,3,5,6] rfl (aD X [(7,907)] [(13,⟨true,[.agg (aT x)]⟩)] [1,3,5,6,7] [] rfl (by(with_reducible and_intros)<;>first|exact⟨⟩|exact(dr x h0)) (aa (aD X [] [(15,⟨false,[aH (okW x)]⟩)] [1,3,5,6,7,21] [] rfl (by(with_reducible and_intros)<;>first|exact⟨⟩|exact(cB x)) ?_)))
 refine ah rfl ?_ ?_<;>intro hb0
 ·have hk:gI x=false:=b9 hb0 (by simp only[gI,aU]<;>first|rfl|ac_rfl)
  have hc:=G3 (g:=g) (d:=d) hk
  exact aC X [6] rfl (by trivial) (aj (af rfl (by and_intros<;>first|exact⟨⟩| (rw[hc];done))))
 ·have hk:gI x=true:=bX hb0 (by simp only[gI,aU]<;>first|rfl|ac_rfl)
  obtain⟨hok,hr9⟩:=IG hk
  have o7:=ef hok
  have MG:=(ot hok).1
  have hcU:=Yn g hok
  refine an (aa (aq X [1,3,5,6,7,25] rfl ?_))
  refine ah rfl ?_ ?_<;>intro aW
  ·try simp only[aP]at aW
   have Xe:g.length=0:=by omega
   have hc:=K4 (d:=d) hk Xe
   have hgn:g= []:=List.length_eq_zero_iff.1 Xe
   refine aa ?_
   have t1:=(Cu x.aB x.round d hls.2.2.1 Xd)
   refine aE X [] [(32,⟨true,bJ t1⟩)] [1,3,6,7,8] [] rfl (by(with_reducible and_intros)<;>first|exact⟨⟩|exact t1) (eO X [1,3,6,7] rfl (by trivial) (aa (aq X [1,3,6,7,10] rfl ?_)))
   refine au (aG (fun k=>k≤g.length) (fun k:Nat=> [(10, .one ((az k)))]) (fun k=> [(14, .arr .bw (Fh x g k).1),(21, .arr .int (Fh x g k).2)]) (fun k=>g.length-k) 0 (fun k=>rfl) (Nat.zero_le _) rfl ?_)
   rintro k fP
   have xF:=zW (x:=x) fP
   have hU:=K3 hok fP
   refine aa (aq X [1,3,6,7,10,44] rfl ?_)
   refine ah rfl ?_ ?_<;>intro bz
   ·try simp only[aP]at bz
    omega
   ·try simp only[aP]at bz
    rw[vZ bz]
    refine aK (aa (aq X [3,6,7,11] rfl ?_))
    refine au (aG (fun k1=>k1≤x.av.length) (fun k1:Nat=> [(11, .one ((az k1)))]) (fun k1=> [(14, .arr .bw (Cs (sB x g).1 k1))]) (fun k1=>x.av.length-k1) 0 (fun k1=>rfl) (Nat.zero_le _) (by rw[OK];rfl) ?_)
    intro k1 hk1
    have CL:(Cs (sB x g).1 k1).length=x.av.length:=by rw[C8 (by omega)];exact hcp.1
    refine aa (aq X [3,6,7,11,56] rfl ?_)
    refine ah rfl ?_ ?_<;>intro dD
    ·try simp only[aP]at dD
     rw[CL]at dD
     have hgt:=C7 (l:=(sB x g).1) (k:=k1) (by omega)
     have QE:=qX hcU (k:=k1) (by omega)
     have FY:=zX (l:=(sB x g).1) (k:=k1) (by omega)
     refine an (aa (au (bZ X [] [(67,⟨true,[.agg (bR (jD ((Cs (sB x g).1 k1).getD k1 (aI .bw))))]⟩)] [3,6,7,11] [] 10 MO (by kernel_rfl) rfl (by(with_reducible and_intros)<;>first|exact⟨⟩|exact(pV ((Cs (sB x g).1 k1).getD k1 (aI .bw)) (by rw[hgt];exact QE.2))| (intros;omega)) (bt X [3,6,7,11] rfl ?_))))
     refine⟨k1+1,by omega,by omega,?_⟩
     rw[bH _ k1 rfl (by omega), ←FY]
     try rfl
    ·try simp only[aP]at dD
     rw[CL]at dD
     rw[C9 (by omega)]
     exact aK (aq X [6,7] rfl (aC X [6] rfl (by trivial) (aj (af rfl (by and_intros<;>first|exact⟨⟩| (rw[hc];done))))))
  ·try simp only[aP]at aW
   have Xe: ¬g.length=0:=by omega
   have hc:=K5 (d:=d) hk Xe
   refine bt X [1,3,6,7] rfl (aa (aq X [1,3,6,7,10] rfl ?_))
   refine au (aG (fun k=>k≤g.length) (fun k:Nat=> [(10, .one ((az k)))]) (fun k=> [(14, .arr .bw (Fh x g k).1),(21, .arr .int (Fh x g k).2)]) (fun k=>g.length-k) 0 (fun k=>rfl) (Nat.zero_le _) rfl ?_)
   rintro k fP
   have xF:=zW (x:=x) fP
   have hU:=K3 hok fP
   refine aa (aq X [1,3,6,7,10,44] rfl ?_)
   refine ah rfl ?_ ?_<;>intro bz
   ·try simp only[aP]at bz
    have hst:=K2 (x:=x) bz
    refine an (aa (au ?_))
    have t1:=(pW (⟨x.rows,(Fh x g k).1,x.ak,x.aB,x.aX,x.seed,x.round,(Fh x g k).2,IntKind.i64.wrap (x.cancelled+1)⟩:bp) x.round (g.getD k (aI .int)) (by show(Fh x g k).1.length≤4;omega) MG hU (by show(Fh x g k).2.length≤_;omega) rfl)
    refine aE X [] [(800051,⟨true,bF t1⟩),(700051,⟨true, .agg [.ptr 1000 907, .ptr 11 14, .ptr 12 15, .ptr 13 17, .ptr 14 21]:: .agg []::bG t1⟩)] [1,3,6,7,10] [] rfl (by(with_reducible and_intros)<;>first|exact⟨⟩|exact t1| (intros;omega)) (bt X [1,3,6,7,10] rfl ?_)
    refine⟨k+1,by omega,by omega,?_⟩
    rw[bH _ k rfl (by omega), ←hst]
    try rfl
   ·try simp only[aP]at bz
    rw[vZ bz]
    refine aK (aa (aq X [3,6,7,11] rfl ?_))
    refine au (aG (fun k1=>k1≤x.av.length) (fun k1:Nat=> [(11, .one ((az k1)))]) (fun k1=> [(14, .arr .bw (Cs (sB x g).1 k1))]) (fun k1=>x.av.length-k1) 0 (fun k1=>rfl) (Nat.zero_le _) (by rw[OK];rfl) ?_)
    intro k1 hk1
    have CL:(Cs (sB x g).1 k1).length=x.av.length:=by rw[C8 (by omega)];exact hcp.1
    refine aa (aq X [3,6,7,11,56] rfl ?_)
    refine ah rfl ?_ ?_<;>intro dD
    ·try simp only[aP]at dD
     rw[CL]at dD
     have hgt:=C7 (l:=(sB x g).1) (k:=k1) (by omega)
     have QE:=qX hcU (k:=k1) (by omega)
     have FY:=zX (l:=(sB x g).1) (k:=k1) (by omega)
     refine an (aa (au (bZ X [] [(67,⟨true,[.agg (bR (jD ((Cs (sB x g).1 k1).getD k1 (aI .bw))))]⟩)] [3,6,7,11] [] 10 MO (by kernel_rfl) rfl (by(with_reducible and_intros)<;>first|exact⟨⟩|exact(pV ((Cs (sB x g).1 k1).getD k1 (aI .bw)) (by rw[hgt];exact QE.2))| (intros;omega)) (bt X [3,6,7,11] rfl ?_))))
     refine⟨k1+1,by omega,by omega,?_⟩
     rw[bH _ k1 rfl (by omega), ←FY]
     try rfl
    ·try simp only[aP]at dD
     rw[CL]at dD
     rw[C9 (by omega)]
     exact aK (aq X [6,7] rfl (aC X [6] rfl (by trivial) (aj (af rfl (by and_intros<;>first|exact⟨⟩| (rw[hc];done))))))
theorem yc(x:bp)(h0:wB x):So 218 [.agg (aT x)] [.agg (aT (testW x))]:=by
 refine ay X call218 func218 ntmps218 rfl rfl ?_
 intro zb
 have hls:dL dJ x.av≤1048576∧dL bO x.ak≤1048576∧eJ x.aB≤1048576∧x.replaced.length≤4194304:=h0
 have FY:=Yp h0
 refine aq X [1,2] rfl (aD X [(3,903)] [(12,⟨true,[.agg (aT x)]⟩)] [1,2,3] [] rfl (by(with_reducible and_intros)<;>first|exact⟨⟩|exact(dr x h0)) (aD X [] [(15,⟨false,[az (dh x.aB)]⟩)] [1,2,3,4] [] rfl (by(with_reducible and_intros)<;>first|exact⟨⟩|exact(gd x.aB)) (aa ?_)))
 have t1:=(kq x.aB (dh x.aB) FY)
 refine aE X [(20,80)] [(20,⟨true,bJ t1⟩)] [1,2,3,4,5,6] [] rfl (by(with_reducible and_intros)<;>first|exact⟨⟩|exact t1) (aa (aD X [] [(24,⟨false,[aH (okW x)]⟩)] [1,2,3,4,5,29] [] rfl (by(with_reducible and_intros)<;>first|exact⟨⟩|exact(cB x)) ?_))
 refine ah rfl ?_ ?_<;>intro hb0
 ·have hk:xS x=false:=b9 hb0 (by simp only[xS,aU]<;>first|rfl|ac_rfl)
  have hc:=K7 hk
  exact aC X [2] rfl (by trivial) (aj (af rfl (by and_intros<;>first|exact⟨⟩| (rw[hc];done))))
 ·have hk:xS x=true:=bX hb0 (by simp only[xS,aU]<;>first|rfl|ac_rfl)
  have hc:=G4 hk
  have hkk:=hk
  rw[xS,Bool.and_eq_true]at hkk
  obtain⟨hok,hah⟩:=hkk
  have o7:=ef hok
  have MG:=(ot hok).1
  refine an (aa (aq X [1,2,3,4,5,7] rfl ?_))
  refine au (aG (fun k=>k≤x.av.length) (fun k:Nat=> [(7, .one ((az k)))]) (fun k=> [(13, .arr .bw (Cr x k).1),(20, .arr .int (Cr x k).2)]) (fun k=>x.av.length-k) 0 (fun k=>rfl) (Nat.zero_le _) rfl ?_)
  rintro k fP
  have htb:=TY hok k fP
  refine aa (aq X [1,2,3,4,5,7,35] rfl ?_)
  refine ah rfl ?_ ?_<;>intro aW
  ·try simp only[aP]at aW
   have hrl:=iH (kh x.seed [227,x.round,(k:Int)]) x.rows
   have hab:=Yj (x.av.getD k (aI .bw)) (jC x.aX (k:Int)) (dh x.aB) (iK x.aB.rounds (dh x.aB)) (v:=(cA (kh x.seed [227,x.round,(k:Int)]) x.rows)) (by omega)
   have hsg:=Yo hok hah (kh x.seed [227,x.round,(k:Int)])
   refine an (aa (au (aD X [] [(41,⟨false,[az (jC x.aX (k:Int))]⟩)] [1,2,3,4,5,7,8] [] rfl (by(with_reducible and_intros)<;>first|exact⟨⟩|exact(je x.aX (k:Int))) (aa ?_))))
   have t1:=(sY (x.av.getD k (aI .bw)) (jC x.aX (k:Int)) (dh x.aB) (iK x.aB.rounds (dh x.aB)) (cA (kh x.seed [227,x.round,(k:Int)]) x.rows) (by omega))
   refine bu X [] [(57,⟨false,[az (kh x.seed [227,x.round,(k:Int)])]⟩),(60,⟨true,[.a (.sl .int (cA (kh x.seed [227,x.round,(k:Int)]) x.rows))]⟩),(61,⟨true,bJ t1⟩)] [1,2,3,4,5,7,8,9,10] [] 25165823 1 MO (by kernel_rfl) rfl (by kernel_rfl) (by(repeat' with_reducible first|exact aL|refine aS ?_ ?_|apply And.intro);(iterate 3 all_goals try first|exact(bE x.seed [227,x.round,(k:Int)] (by first|assumption|omega| (simp;done)| (simp;omega)))|exact(kW (kh x.seed [227,x.round,(k:Int)]) x.rows)|exact t1);all_goals first| (intros;omega)|exact⟨rfl,bn _ (by decide)⟩) ?_
   refine aa ?_
   have t1:=(vk (jC x.aX (k:Int)) (iK x.aB.rounds (dh x.aB)) (tsA x k) hab.1 hab.2)
   refine aE X [] [(69,⟨false,bJ t1⟩)] [1,2,3,4,5,7,70] [] rfl (by(with_reducible and_intros)<;>first|exact⟨⟩|exact fun _=>t1) ?_
   refine ah rfl ?_ ?_<;>intro bz
   ·have Wc:Yl x k=true:=by rw[hsg]at bz;exact bz
    have hst:=OB (x:=x) (n:=k) Wc
    have t1:=(pW (⟨x.rows,(Cr x k).1,x.ak,x.aB,x.aX,x.seed,x.round,(Cr x k).2,x.cancelled⟩:bp) x.round (k:Int) (by show(Cr x k).1.length≤4;omega) MG htb.1 (by show(Cr x k).2.length≤_;omega) rfl)
    refine aE X [] [(800072,⟨true,bF t1⟩),(700072,⟨true, .agg [.ptr 1000 903, .ptr 11 13, .ptr 12 14, .ptr 13 16, .ptr 14 20]:: .agg []::bG t1⟩)] [1,2,3,4,5,7] [] rfl (by(with_reducible and_intros)<;>first|exact⟨⟩|exact t1) (bt X [1,2,3,4,5,7] rfl ?_)
    refine⟨k+1,by omega,by omega,?_⟩
    rw[bH _ k rfl (by omega), ←hst]
    try rfl
   ·have Wc:Yl x k=false:=by rw[hsg]at bz;exact bz
    have hst:=KT (x:=x) (n:=k) Wc
    refine an (bt X [1,2,3,4,5,7] rfl ?_)
    refine⟨k+1,by omega,by omega,?_⟩
    rw[bH _ k rfl (by omega),hst]
    try rfl
  ·try simp only[aP]at aW
   exact aK (aC X [2] rfl (by trivial) (aj (af rfl (by and_intros<;>first|exact⟨⟩| (rw[hc];done)| (rw[hc,show k=x.av.length by omega];done)))))
end
section
set_option maxRecDepth 100000
theorem mR(x:bp)(hR:wR x):So 8 [.agg (aT x)] [.agg (aT (cR x))]:=by
 refine ay X call8 func8 ntmps8 rfl rfl ?_
 intro zb
 obtain⟨h0,Xc⟩:=hR
 have o7:=qJ h0
 refine aq X [1,2] rfl (aa (aD X [] [(9,⟨false,[aH (okW x)]⟩)] [1,2,15] [] rfl (by(with_reducible and_intros)<;>first|exact⟨⟩|exact(b7 x)) ?_))
 refine ah rfl ?_ ?_<;>intro hb0
 ·have hk:gI x=false:=b9 hb0 (by simp only[gI,aU]<;>first|rfl|ac_rfl)
  have hc:=v5 hk
  exact aD X [] [(17,⟨true,[.agg (aT x)]⟩)] [2] [] rfl (by(with_reducible and_intros)<;>first|exact⟨⟩|exact(dg x h0)) (aj (af rfl (by and_intros<;>first|exact⟨⟩| (rw[hc];done))))
 ·have hk:gI x=true:=bX hb0 (by simp only[gI,aU]<;>first|rfl|ac_rfl)
  have hc:=xZ hk
  obtain⟨hok,hr9⟩:=IG hk
  have yx:=lf hok
  have hcs:=xR hok
  have hs4:=ef hok
  have hpd:=pO (bM x)
  have hjz:=eu (G1 _ hpd)
  have hgl:=oG x.aX (bM x) (cZ (bM x)) (gG x) (bM x).length
  have nL:(cZ (bM x)).length=(bM x).length:=List.length_map ..
  obtain⟨hB1,hB2⟩:=OL h0 hok Xc
  refine an (aD X [] [(20,⟨true,[.a (.sl .bw (bM x)), .a (.sl .eD (gG x))]⟩)] [1,2,3,4] [] rfl (by(with_reducible and_intros)<;>first|exact⟨⟩|exact(mD x h0)) (aD X [] [(24,⟨true,[.a (.sl .DB (cZ (bM x)))]⟩)] [1,2,3,4,5] [] rfl (by(with_reducible and_intros)<;>first|exact⟨⟩|exact(pS (bM x) (by omega))) (aa ?_)))
  have t1:=(vi (cZ (bM x)) (by omega) hpd)
  refine aE X [] [(27,⟨true,bJ t1⟩)] [1,2,3,4,5,6] [] rfl (by(with_reducible and_intros)<;>first|exact⟨⟩|exact t1) (aa ?_)
  have t1:=(Aa x (jf x.aX (bM x) (cZ (bM x)) (gG x) (bM x).length) (jw (cZ (bM x))) h0 (by omega) hjz)
  have t2:=(ya (cP x (jf x.aX (bM x) (cZ (bM x)) (gG x) (bM x).length) (jw (cZ (bM x)))) hB1)
  have t3:=(Br (testW (cP x (jf x.aX (bM x) (cZ (bM x)) (gG x) (bM x).length) (jw (cZ (bM x))))) hB2)
  exact bZ X [(38,60),(39,100),(40,150)] [(36,⟨true,[.a (.sl .int (jf x.aX (bM x) (cZ (bM x)) (gG x) (bM x).length))]⟩),(38,⟨true,bJ t1⟩),(39,⟨true,bJ t2⟩),(40,⟨true,bJ t3⟩)] [2] [] 11 MO (by kernel_rfl) rfl (by(with_reducible and_intros);(iterate 4 all_goals try first|exact⟨⟩|exact(pR x.aX (bM x) (cZ (bM x)) (gG x) (by omega) hcs (Iw _))|exact t1|exact t2|exact t3)) (aj (af rfl (by and_intros<;>first|exact⟨⟩| (rw[hc];done))))
theorem sZ(x:bp)(hR:wR x)(hok:okW x=true):So 154 [.agg (aT x)] [.agg (aT (FJ (testW (cP x (jf x.aX (bM x) (cZ (bM x)) (gG x) (bM x).length) (jw (cZ (bM x)))))))]:=by
 refine ay X call154 func154 ntmps154 rfl rfl ?_
 intro zb
 obtain⟨h0,Xc⟩:=hR
 have o7:=qJ h0
 have yx:=lf hok
 have hcs:=xR hok
 have hs4:=ef hok
 have hpd:=pO (bM x)
 have hjz:=eu (G1 _ hpd)
 have hgl:=oG x.aX (bM x) (cZ (bM x)) (gG x) (bM x).length
 have nL:(cZ (bM x)).length=(bM x).length:=List.length_map ..
 obtain⟨hB1,hB2⟩:=OL h0 hok Xc
 refine aq X [1,2] rfl (aD X [] [(10,⟨true,[.a (.sl .bw (bM x)), .a (.sl .eD (gG x))]⟩)] [1,2,3,4] [] rfl (by(with_reducible and_intros)<;>first|exact⟨⟩|exact(ve x h0)) (aD X [] [(14,⟨true,[.a (.sl .DB (cZ (bM x)))]⟩)] [1,2,3,4,5] [] rfl (by(with_reducible and_intros)<;>first|exact⟨⟩|exact(zV (bM x) (by omega))) (aa ?_)))
 have t1:=(vl (cZ (bM x)) (by omega) hpd)
 refine aE X [] [(17,⟨true,bJ t1⟩)] [1,2,3,4,5,6] [] rfl (by(with_reducible and_intros)<;>first|exact⟨⟩|exact t1) (aa ?_)
 have t1:=(Ab x (jf x.aX (bM x) (cZ (bM x)) (gG x) (bM x).length) (jw (cZ (bM x))) h0 (by omega) hjz)
 have t2:=(yc (cP x (jf x.aX (bM x) (cZ (bM x)) (gG x) (bM x).length) (jw (cZ (bM x)))) hB1)
 have t3:=(Bt (testW (cP x (jf x.aX (bM x) (cZ (bM x)) (gG x) (bM x).length) (jw (cZ (bM x))))) hB2)
 exact bZ X [(28,60),(29,100),(30,150)] [(26,⟨true,[.a (.sl .int (jf x.aX (bM x) (cZ (bM x)) (gG x) (bM x).length))]⟩),(28,⟨true,bJ t1⟩),(29,⟨true,bJ t2⟩),(30,⟨true,bJ t3⟩)] [2] [] 11 MO (by kernel_rfl) rfl (by(with_reducible and_intros);(iterate 4 all_goals try first|exact⟨⟩|exact(zU x.aX (bM x) (cZ (bM x)) (gG x) (by omega) hcs (Iw _))|exact t1|exact t2|exact t3)) (aj (af rfl ⟨rfl,rfl,rfl,rfl,rfl,rfl,rfl,rfl,rfl,rfl,⟨⟩⟩))
end
section
set_option maxRecDepth 100000
theorem fU(c:eg)(b:List UInt8)(h0:dL List.length c.aJ≤1048576∧dL List.length c.inbox≤1048576)(hb:b.length≤1048576):So 159 [.agg (bP c), .a (.sl .u8 b)] [.agg (bP (ir c b)),aH (qi c b)]:=by
 refine ay X call159 func159 ntmps159 rfl rfl ?_
 intro zb
 have Aq:=ec h0.1
 refine aq X [1,2,4] rfl (aD X [] [(8,⟨true,[.agg (bP c)]⟩)] [1,2,4,6] [] rfl (by(with_reducible and_intros)<;>first|exact⟨⟩|exact(fC c h0)) (aa (bu X [(13,11),(13,40)] [(500014,⟨true,[]⟩)] [2,4,6] [] 175 2 MO (by kernel_rfl) rfl (by kernel_rfl) (by and_intros<;>first|exact⟨⟩|exact rfl| (simp only[dO,maxLen,lens];omega)) (aa (aD X [] [(18,⟨false,[aH (dy c)]⟩),(22,⟨false,[aH (dy (MN c b))]⟩)] [2,4,6,24] [] rfl (by(with_reducible and_intros);(iterate 2 all_goals try first|exact⟨⟩|exact(dX c)|exact fun _=>(dX (MN c b)))) ?_)))))
 refine ah rfl ?_ ?_<;>intro hb0
 ·have hk:qi c b=false:=b9 hb0 (by simp only[qi,aU]<;>first|rfl|ac_rfl)
  have hq:=OM hk
  exact aD X [] [(26,⟨true,[.agg (bP c)]⟩)] [4,5] [] rfl (by(with_reducible and_intros)<;>first|exact⟨⟩|exact(fC c h0)) (aj (af rfl (by and_intros<;>first|exact⟨⟩| (rw[hq];done)| (rw[hk];done))))
 ·have hk:qi c b=true:=bX hb0 (by simp only[qi,aU]<;>first|rfl|ac_rfl)
  have hq:=Ac hk
  exact an (aC X [4,5] rfl (by trivial) (aj (af rfl (by and_intros<;>first|exact⟨⟩| (rw[hq];rfl;done)| (rw[hk];done)))))
theorem fF(d:bC)(b:List UInt8)(h0:bO d≤1048576)(hb:b.length≤1048576):So 92 [.agg (bK d), .a (.sl .u8 b)] [.agg (bK (qU d b)),aH (uZ d b)]:=by
 refine ay X call92 func92 ntmps92 rfl rfl ?_
 intro zb
 have rC:cj d.live≤1048576∧cj d.saved≤1048576:=by unfold bO at h0;omega
 unfold cj at rC
 refine aq X [1,2,4] rfl (aD X [] [(14,⟨true,[.agg (bP (ir d.live b)),aH (qi d.live b)]⟩)] [1,2,4,6,7] [] rfl (by(with_reducible and_intros)<;>first|exact⟨⟩|exact(fU d.live b ⟨by omega,by omega⟩ hb)) (aD X [] [(21,⟨true,[.agg (bP (ir d.saved b)),aH (qi d.saved b)]⟩)] [2,4,6,7,8,9] [] rfl (by(with_reducible and_intros)<;>first|exact⟨⟩|exact(fU d.saved b ⟨by omega,by omega⟩ hb)) (aa (aD X [] [(25,⟨false,[aH (c9 d)]⟩)] [2,4,6,8,34] [] rfl (by(with_reducible and_intros)<;>first|exact⟨⟩|exact(dZ d)) ?_))))
 refine ah rfl ?_ ?_<;>intro hb0
 ·have hk:uZ d b=false:=b9 hb0 (by simp only[uZ,aU]<;>first|rfl|ac_rfl)
  have hq:=IL hk
  exact aD X [] [(36,⟨true,[.agg (bK d)]⟩)] [4,5] [] rfl (by(with_reducible and_intros)<;>first|exact⟨⟩|exact(iJ d h0)) (aj (af rfl (by and_intros<;>first|exact⟨⟩| (rw[hq];done)| (rw[hk];done))))
 ·have hk:uZ d b=true:=bX hb0 (by simp only[uZ,aU]<;>first|rfl|ac_rfl)
  have hq:=La hk
  exact an (aC X [4,5] rfl (by trivial) (aj (af rfl (by and_intros<;>first|exact⟨⟩| (rw[hq];done)| (rw[hk];done)))))
theorem gJ(d:bC)(h0:bO d≤1048576):So 155 [.agg (bK d)] [.agg (bK (B6 d))]:=by
 refine ay X call155 func155 ntmps155 rfl rfl ?_
 intro zb
 have rC:cj d.live≤1048576∧cj d.saved≤1048576:=by unfold bO at h0;omega
 unfold cj at rC
 refine aq X [1,2] rfl (aa (aD X [] [(4,⟨false,[aH (c9 d)]⟩)] [1,2,5] [] rfl (by(with_reducible and_intros)<;>first|exact⟨⟩|exact(dZ d)) ?_))
 refine ah rfl ?_ ?_<;>intro hb0
 ·have hk:c9 d=false:=by simpa using hb0
  have hd:B6 d=d:=by rw[B6,hk];rfl
  exact aD X [] [(7,⟨true,[.agg (bK d)]⟩)] [2] [] rfl (by(with_reducible and_intros)<;>first|exact⟨⟩|exact(iJ d h0)) (aj (af rfl (by and_intros<;>first|exact⟨⟩| (rw[hd];done))))
 ·have hk:c9 d=true:=by simpa using hb0
  have hd:B6 d=⟨d.saved,d.saved⟩:=by rw[B6,if_pos hk]
  exact an (aD X [] [(10,⟨true,[.agg (bK (⟨d.saved,d.saved⟩:bC))]⟩)] [2] [] rfl (by(with_reducible and_intros)<;>first|exact⟨⟩|exact(jg d.saved ⟨by omega,by omega⟩)) (aj (af rfl (by and_intros<;>first|exact⟨⟩| (rw[hd];done)))))
theorem iN(x:bp)(c:Int)(b:List UInt8)(h0:wB x)(hb:b.length≤1048576):So 32 [.agg (aT x),az c, .a (.sl .u8 b)] [.agg (aT (KX x c b)),aH (KW x c b)]:=by
 refine ay X call32 func32 ntmps32 rfl rfl ?_
 intro zb
 refine bB 0 1 rfl rfl (fun nv=> ?_)
 refine bB 0 2 rfl rfl (fun mo=> ?_)
 have Vt:=wY h0
 have o7:=qJ h0
 have hw:IntKind.i64.wrap ((x.ak.length:Int)-1)=(x.ak.length:Int)-1:=bV (by omega)
 refine aq X [1,2,3,6] rfl (aD X [] [(12,⟨true,[.agg (aT x)]⟩)] [1,2,3,6,8] [] rfl (by(with_reducible and_intros)<;>first|exact⟨⟩|exact(dr x h0)) (aa (aa ?_)))
 have t1:=(bf c 0 (IntKind.i64.wrap ((x.ak.length:Int)-1)))
 refine aE X [] [(14,⟨false,[aH (okW x)]⟩),(22,⟨false,bJ t1⟩)] [1,2,3,6,8,24] [] rfl (by(with_reducible and_intros);(iterate 2 all_goals try first|exact⟨⟩|exact(cB x)|exact fun _=>t1)) ?_
 refine ah rfl ?_ ?_<;>intro hb0
 ·have hk:dm x c=false:=b9 hb0 (by simp only[dm,ku,hw,aU]<;>first|rfl|ac_rfl)
  have hq:=MT (b:=b) hk
  exact aC X [6,7] rfl (by trivial) (aj (af rfl (by and_intros<;>first|exact⟨⟩| (rw[hq.1];done)| (rw[hq.2];done))))
 ·have hk:dm x c=true:=bX hb0 (by simp only[dm,ku,hw,aU]<;>first|rfl|ac_rfl)
  obtain⟨hok,hc0,rC⟩:=jL hk
  have Cw:=Bv hk
  have hq:=Da (b:=b) hk
  refine an (aa ?_)
  have t1:=(fF (x.ak.getD c.toNat (aI .bC)) b Cw hb)
  exact aE X [] [(33,⟨true,bJ t1⟩)] [1,6,8,9,10] [] rfl (by(with_reducible and_intros)<;>first|exact⟨⟩|exact t1| (intros;omega)) (aC X [6,8,10] rfl (by and_intros<;>first|exact⟨⟩| (intros;omega)) (aC X [6,7] rfl (by trivial) (aj (af rfl (by and_intros<;>first|exact⟨⟩| (rw[hq.1];rfl;done)| (rw[hq.2];rfl;done))))))
theorem oL(x:bp)(c:Int)(h0:wB x):So 83 [.agg (aT x),az c] [.agg (aT (Ja x c)),aH (dm x c)]:=by
 refine ay X call83 func83 ntmps83 rfl rfl ?_
 intro zb
 refine bB 0 1 rfl rfl (fun nv=> ?_)
 refine bB 0 2 rfl rfl (fun mo=> ?_)
 have Vt:=wY h0
 have o7:=qJ h0
 have hw:IntKind.i64.wrap ((x.ak.length:Int)-1)=(x.ak.length:Int)-1:=bV (by omega)
 refine aq X [1,2,4] rfl (aD X [] [(8,⟨true,[.agg (aT x)]⟩)] [1,2,4,6] [] rfl (by(with_reducible and_intros)<;>first|exact⟨⟩|exact(dr x h0)) (aa (aa ?_)))
 have t1:=(bf c 0 (IntKind.i64.wrap ((x.ak.length:Int)-1)))
 refine aE X [] [(10,⟨false,[aH (okW x)]⟩),(18,⟨false,bJ t1⟩)] [1,2,4,6,20] [] rfl (by(with_reducible and_intros);(iterate 2 all_goals try first|exact⟨⟩|exact(cB x)|exact fun _=>t1)) ?_
 refine ah rfl ?_ ?_<;>intro hb0
 ·have hk:dm x c=false:=b9 hb0 (by simp only[dm,ku,hw,aU]<;>first|rfl|ac_rfl)
  have hq:=MU hk
  exact aC X [4,5] rfl (by trivial) (aj (af rfl (by and_intros<;>first|exact⟨⟩| (rw[hq];done)| (rw[hk];done))))
 ·have hk:dm x c=true:=bX hb0 (by simp only[dm,ku,hw,aU]<;>first|rfl|ac_rfl)
  obtain⟨hok,hc0,rC⟩:=jL hk
  have Cw:=Bv hk
  have hq:=ON hk
  exact an (cQ X [] [(30,⟨true,[.agg (bK (B6 (x.ak.getD c.toNat (aI .bC))))]⟩)] [4,6] [] 10 MO (by kernel_rfl) rfl (by(with_reducible and_intros)<;>first|exact⟨⟩|exact(gJ (x.ak.getD c.toNat (aI .bC)) Cw)| (intros;omega)) (aC X [4,5] rfl (by trivial) (aj (af rfl (by and_intros<;>first|exact⟨⟩| (rw[hq];rfl;done)| (rw[hk];done))))))
theorem mG(x:bp)(i b:Int)(h0:wB x):So 84 [.agg (aT x),az i,az b] [.agg (aT (LA x i b)),aH (qV x i b)]:=by
 refine ay X call84 func84 ntmps84 rfl rfl ?_
 intro zb
 refine bB 0 1 rfl rfl (fun nv=> ?_)
 refine bB 0 2 rfl rfl (fun mo=> ?_)
 have Vt:=wY h0
 have o7:=qJ h0
 refine aq X [1,2,3,6] rfl (aD X [] [(10,⟨true,[.agg (aT x)]⟩)] [1,2,3,6,8] [] rfl (by(with_reducible and_intros)<;>first|exact⟨⟩|exact(dr x h0)) (aa (aa ?_)))
 have t1:=(bf i 0 (IntKind.i64.wrap ((x.av.length:Int)-1)))
 refine aE X [] [(12,⟨false,[aH (okW x)]⟩),(20,⟨false,bJ t1⟩),(25,⟨false,[aH (inr b 0 3)]⟩)] [1,2,6,8,27] [] rfl (by(with_reducible and_intros);(iterate 3 all_goals try first|exact⟨⟩|exact(cB x)|exact fun _=>t1|exact fun _=>(bf b 0 3))) ?_
 refine ah rfl ?_ ?_<;>intro hb0
 ·have hk:qV x i b=false:=b9 hb0 (by simp only[qV,aU]<;>first|rfl|ac_rfl)
  have hq:=MV hk
  exact aC X [6,7] rfl (by trivial) (aj (af rfl (by and_intros<;>first|exact⟨⟩| (rw[hq];done)| (rw[hk];done))))
 ·have hk:qV x i b=true:=bX hb0 (by simp only[qV,aU]<;>first|rfl|ac_rfl)
  have hcb:=IE hk
  have hq:=OO hk
  exact an (aC X [6,8] rfl (by and_intros<;>first|exact⟨⟩| (intros;omega)) (aC X [6,7] rfl (by trivial) (aj (af rfl (by and_intros<;>first|exact⟨⟩| (rw[hq];rfl;done)| (rw[hk];done))))))
end
section
set_option maxRecDepth 100000
theorem jE(v:Value)(c:cu)(b:List UInt8)(hcb:c.b=b)(hb:b.length≤1048576):dA ty Tryz.prog 147 [(1000, .box [.eX v .u8 b,aO (c.i:Int),aO c.h])] [.a (.ptr 1000 0)] [(1000, .box [.eX v .u8 b,aO (c.n.i:Int),aO c.n.h])] [az c.x]:=by
 refine cq X2 call147 func147 rfl rfl (by decide) ntmps147 (by simp) rfl ?_
 intro zb
 subst hcb
 refine aq X2 [0] rfl (aC X2 [0] rfl (by trivial) (cQ X2 [] [] [0,3] [] 13 MO (by kernel_rfl) rfl (by and_intros<;>first|exact⟨⟩| (intros;omega)) (aa (cQ X2 [] [] [0,3,34] [] 10 MO (by kernel_rfl) rfl (by trivial) ?_))))
 refine ah rfl ?_ ?_<;>intro hb0
 ·try simp only[aP]at hb0
  have hx:c.x=Qj (IntKind.i64.wrap (c.x0+IntKind.i64.wrap ((c.b.getD c.i (aI .u8)).toNat:Int))):=by rw[cu.x,if_pos (by omega)]
  have hn:c.n.i=c.i+1:=by show(if c.i<c.b.length then c.i+1 else c.i)=_;rw[if_pos (by omega)]
  have hw:IntKind.i64.wrap ((c.i:Int)+1)=((c.i+1:Nat):Int):=by rw[bV (by omega)];omega
  exact cQ X2 [] [] [0,3] [] 15 MO (by kernel_rfl) rfl (by and_intros<;>first|exact⟨⟩| (intros;omega)) (eO X2 [3] rfl (by trivial) (aq X2 [2] rfl (aj (aY rfl ⟨by rw[hx];rfl,rfl,rfl,by rw[hn,hw],rfl,⟨⟩⟩))))
 ·try simp only[aP]at hb0
  have hx:c.x=c.x0:=by rw[cu.x,if_neg (by omega)]
  have hn:c.n.i=c.i:=by show(if c.i<c.b.length then c.i+1 else c.i)=_;rw[if_neg (by omega)]
  exact an (aq X2 [2] rfl (aj (aY rfl ⟨by rw[hx];rfl,rfl,rfl,by rw[hn],rfl,⟨⟩⟩)))
theorem aF(v:Value)(c:cu)(n:Int)(b:List UInt8)(hcb:c.b=b)(hb:b.length≤1048576):dA ty Tryz.prog 74 [(1000, .box [.eX v .u8 b,aO (c.i:Int),aO c.h])] [.a (.ptr 1000 0),az n] [(1000, .box [.eX v .u8 b,aO ((aA c n).i:Int),aO (aA c n).h])] [az (aV c n)]:=by
 refine cq X2 call74 func74 rfl rfl (by decide) ntmps74 (by simp) rfl ?_
 intro zb
 refine aq X2 [0,1] rfl (aa (aq X2 [0,1,9] rfl ?_))
 refine ah rfl ?_ ?_<;>intro hb0
 ·try simp only[aP]at hb0
  have hx:aV c n=0:=by rw[aV,if_pos hb0]
  have hn:aA c n=c:=by rw[aA,if_pos hb0]
  exact aq X2 [4] rfl (aj (aY rfl ⟨by rw[hx],rfl,rfl,by rw[hn],by rw[hn],⟨⟩⟩))
 ·try simp only[aP]at hb0
  have h0: ¬n≤0:=by omega
  refine an (aa (aq X2 [0,1,11] rfl ?_))
  refine ah rfl ?_ ?_<;>intro aW
  ·try simp only[aP]at aW
   have hx:aV c n=c.x.tmod n:=by rw[aV,if_neg h0,if_pos aW]
   have hn:aA c n=c.n:=by rw[aA,if_neg h0,if_pos aW]
   refine aa ?_
   have t1:=(jE v c b hcb hb)
   exact aE X2 [] [(800013,⟨true,bF t1⟩),(700013,⟨true, .agg [.ptr 1000 1000]:: .agg []::bG t1⟩)] [4] [] rfl (by(with_reducible and_intros)<;>first|exact⟨⟩|exact t1| (intros;omega)|exact rfl) (aj (aY rfl ⟨by rw[hx],rfl,rfl,by rw[hn],by rw[hn],⟨⟩⟩))
  ·try simp only[aP]at aW
   have h1: ¬n≤256:=by omega
   have hx:aV c n=(IntKind.i64.wrap (IntKind.i64.wrap (IntKind.i64.wrap (c.x*65536)+IntKind.i64.wrap (c.n.x*256))+c.n.n.x)).tmod n:=by rw[aV,if_neg h0,if_neg h1]
   have hn:aA c n=c.n.n.n:=by rw[aA,if_neg h0,if_neg h1]
   refine an (aa ?_)
   have t1:=(jE v c b hcb hb)
   refine aE X2 [] [(800017,⟨true,bF t1⟩),(700017,⟨true, .agg [.ptr 1000 1000]:: .agg []::bG t1⟩)] [0,1,5] [] rfl (by(with_reducible and_intros)<;>first|exact⟨⟩|exact t1|exact rfl) (aa ?_)
   have t1:=(jE v c.n b hcb hb)
   refine aE X2 [] [(800019,⟨true,bF t1⟩),(700019,⟨true, .agg [.ptr 1000 1000]:: .agg []::bG t1⟩)] [0,1,5,6] [] rfl (by(with_reducible and_intros)<;>first|exact⟨⟩|exact t1|exact rfl) (aa ?_)
   have t1:=(jE v c.n.n b hcb hb)
   exact aE X2 [] [(800021,⟨true,bF t1⟩),(700021,⟨true, .agg [.ptr 1000 1000]:: .agg []::bG t1⟩)] [1,5,6,7] [] rfl (by(with_reducible and_intros)<;>first|exact⟨⟩|exact t1|exact rfl) (aC X2 [4] rfl (by and_intros<;>first|exact⟨⟩| (intros;omega)) (aj (aY rfl ⟨by rw[hx],rfl,rfl,by rw[hn],by rw[hn],⟨⟩⟩)))
theorem cw(v:Value)(c:cu)(l:List Int)(b:List UInt8)(hcb:c.b=b)(hb:b.length≤1048576)(hl:0<l.length∧l.length≤1048576):dA ty Tryz.prog 75 [(1000, .box [.eX v .u8 b,aO (c.i:Int),aO c.h])] [.a (.ptr 1000 0), .a (.sl .int l)] [(1000, .box [.eX v .u8 b,aO ((aA c (l.length:Int)).i:Int),aO (aA c (l.length:Int)).h])] [az (l.getD (aV c (l.length:Int)).toNat (aI .int))]:=by
 refine cq X2 call75 func75 rfl rfl (by decide) ntmps75 (by simp) rfl ?_
 intro zb
 have CL:=cS c (n:=(l.length:Int)) (by omega)
 refine aq X2 [0,1] rfl (aa ?_)
 have t1:=(aF v c (l.length:Int) b hcb hb)
 exact aE X2 [] [(800009,⟨true,bF t1⟩),(700009,⟨true, .agg [.ptr 1000 1000]:: .agg []::bG t1⟩)] [4] [] rfl (by(with_reducible and_intros)<;>first|exact⟨⟩|exact t1| (intros;omega)|exact rfl) (aj (aY rfl ⟨rfl,rfl,rfl,rfl,rfl,⟨⟩⟩))
theorem cz(v:Value)(c:cu)(n:Int)(b:List UInt8)(hcb:c.b=b)(hb:b.length≤1048576)(hn:n≤1000):dA ty Tryz.prog 146 [(1000, .box [.eX v .u8 b,aO (c.i:Int),aO c.h])] [.a (.ptr 1000 0),az n] [(1000, .box [.eX v .u8 b,aO ((Ag c n.toNat).i:Int),aO (Ag c n.toNat).h]),(11, .arr .u8 (tG c n.toNat))] [.a (.own 11)]:=by
 refine cq X2 call146 func146 rfl rfl (by decide) ntmps146 (by simp) rfl ?_
 intro zb
 refine aq X2 [0,1] rfl (aD X2 [(7,11)] [] [0,1,5] [] rfl (by and_intros<;>first|exact⟨⟩|exact rfl) (aa (aq X2 [0,1,5,6] rfl ?_)))
 refine au (aG (fun k=>k≤n.toNat) (fun k:Nat=> [(6, .one ((az k)))]) (fun k=> [(1000, .box [.eX v .u8 b,aO ((Ag c k).i:Int),aO (Ag c k).h]),(11, .arr .u8 (tG c k))]) (fun k=>n.toNat-k) 0 (fun k=>rfl) (Nat.zero_le _) rfl ?_)
 intro k hk
 have hle:=iq c k
 have hbk:(Ag c k).b=b:=by rw[qZ];exact hcb
 refine aa (aq X2 [0,1,5,6,10] rfl ?_)
 refine ah rfl ?_ ?_<;>intro hb0
 ·try simp only[aP]at hb0
  refine an (aa (au ?_))
  have t1:=(jE v (Ag c k) b hbk hb)
  refine aE X2 [(18,11)] [(800015,⟨true,bF t1⟩),(700015,⟨true, .agg [.ptr 1000 1000]:: .agg []::bG t1⟩)] [0,1,5,6] [] rfl (by(repeat' with_reducible first|exact aL|refine aS ?_ ?_|apply And.intro)<;>first|exact t1|exact rfl|exact⟨rfl,bn _ (by decide)⟩|exact(rV _).1|exact(rV _).2| (simp only[dO,maxLen,lens];omega)) ?_
  refine bt X2 [0,1,5,6] rfl ?_
  refine⟨k+1,by omega,by omega,?_⟩
  rw[bH _ k rfl (by omega)]
  try rfl
 ·try simp only[aP]at hb0
  have hk2:n.toNat=k:=by omega
  exact aK (aq X2 [4] rfl (aj (aY rfl ⟨rfl,rfl,by rw[hk2],by rw[hk2],by rw[hk2],⟨⟩⟩)))
theorem Ah(v:Value)(l:List UInt8):dA ty Tryz.prog 38 [] [.a (.eX v .u8 l)] [(907, .box [.eX v .u8 l,aO ((Fq l).i:Int),aO (Fq l).h])] [.a (.ptr 907 0)]:=by
 refine cq X2 call38 func38 rfl rfl (by decide) ntmps38 (by simp) rfl ?_
 intro zb
 refine aq X2 [0] rfl (aq X2 [0,3] rfl (aa (aq X2 [0,3,4] rfl ?_)))
 refine au (aG (fun k=>k≤Fp l) (fun k:Nat=> [(3, .one ((az (Xq l k)))),(4, .one ((az k)))]) (fun k=> []) (fun k=>(Fp l)-k) 0 (fun k=>rfl) (Nat.zero_le _) rfl ?_)
 intro k hk
 have hck:Fp l≤4000:=by unfold Fp;omega
 refine aa (aq X2 [0,3,4,15] rfl ?_)
 refine ah rfl ?_ ?_<;>intro hb0
 ·have hgo:=aaz hb0
  have hs:=Qk (l:=l) (k:=k) (by unfold Fp at hgo;omega)
  refine an (aa (au (eO X2 [0,3,4] rfl (by and_intros<;>first|exact⟨⟩| (intros;omega)| (intros;simp only[nb]at*;omega)) (bt X2 [0,3,4] rfl ?_))))
  refine⟨k+1,by omega,by omega,?_⟩
  rw[bH _ k rfl (by omega),hs]
  try rfl
 ·have hke:=Xr hk hb0
  exact aK (aD X2 [(31,907)] [] [2] [] rfl ⟨⟩ (aj (aY rfl ⟨rfl,rfl,rfl,by rw[hke];rfl,⟨⟩⟩)))
theorem pX(r:Int)(h:1≤r∧r≤64):So 282 [az r] [.agg (dc (⟨r,[]⟩:iP))]:=by
 refine j7 X2 call282 func282 rfl rfl (by decide) ntmps282 (by simp) ?_
 intro zb
 refine aq X2 [0,2] rfl (aa (aD X2 [] [(4,⟨false,[aH (inr r 1 64)]⟩)] [0,2,5] [] rfl (by(with_reducible and_intros)<;>first|exact⟨⟩|exact(bf r 1 64)) ?_))
 refine ah rfl ?_ ?_<;>intro hb0
 ·try simp only[aP]at hb0
  omega
 ·try simp only[aP]at hb0
  exact an (aC X2 [2] rfl (by trivial) (aj (af rfl ⟨rfl,rfl,⟨⟩⟩)))
theorem l6(i f k s:Int)(h1:0≤i∧i≤7)(h2:0≤f∧f≤7)(h3:i≠f)(h4:1≤k∧k≤2147483646):So 284 [az i,az f,az k,az s] [.agg (bP (⟨i,f,k,s,[],0,[],0⟩:eg))]:=by
 refine j7 X2 call284 func284 rfl rfl (by decide) ntmps284 (by simp) ?_
 intro zb
 refine aq X2 [0,1,2,3,8] rfl (aa (aD X2 [] [(12,⟨false,[aH (inr i 0 7&&inr f 0 7&& !(i==f)&&fK k)]⟩)] [0,1,2,3,8,13] [] rfl (by(with_reducible and_intros)<;>first|exact⟨⟩|exact(zj i f k)) ?_))
 refine ah rfl ?_ ?_<;>intro hb0
 ·try simp only[aP]at hb0
  have hq:fK k=true:=by unfold fK;rw[cL];exact h4
  rw[hq]at hb0
  simp at hb0
  omega
 ·exact an (aC X2 [8] rfl (by trivial) (aj (af rfl ⟨rfl,rfl,rfl,rfl,rfl,rfl,rfl,rfl,⟨⟩⟩)))
theorem Cy(rows s p seed:Int)(hr:1≤rows∧rows≤64)(hs:2≤s∧s≤4)(hp:1≤p∧p≤4):So 221 [az rows,az s,az p,az seed] [.agg (aT (Xs rows s.toNat p.toNat seed))]:=by
 refine j7 X2 call221 func221 rfl rfl (by decide) ntmps221 (by simp) ?_
 intro zb
 refine aq X2 [0,1,2,3,8] rfl (aa (aD X2 [] [(14,⟨false,[aH (inr rows 1 64)]⟩),(18,⟨false,[aH (cM s)]⟩),(23,⟨false,[aH (inr p 1 4)]⟩)] [0,1,2,3,8,25] [] rfl (by(with_reducible and_intros);(iterate 3 all_goals try first|exact⟨⟩|exact(bf rows 1 64)|exact fun _=>(gf s)|exact fun _=>(bf p 1 4))) ?_))
 refine ah rfl ?_ ?_<;>intro hb0
 ·try simp only[aP]at hb0
  simp[cM,inr]at hb0
  omega
 ·refine an (aa ?_)
  have t1:=(nS 1 (kh seed [197]))
  refine aE X2 [(29,63)] [(29,⟨true,[.agg (dc (⟨rows,[]⟩:iP))]⟩),(32,⟨false,[az (kh seed [197])]⟩),(33,⟨false,bJ t1⟩)] [0,1,2,3,8,9] [] rfl (by(repeat' with_reducible first|exact aL|refine aS ?_ ?_|apply And.intro);(iterate 3 all_goals try first|exact(pX rows (by first|assumption|omega| (simp;done)| (simp;omega)))|exact(bE seed [197] (by first|assumption|omega| (simp;done)| (simp;omega)))|exact t1);all_goals first|exact⟨rfl,bn _ (by decide)⟩) ?_
  rw[CW (dS _ _).1]
  refine eM 9 1 61 .bw rfl (eM 9 2 62 .bC rfl (aa (aq X2 [0,1,2,3,8,9,10] rfl ?_)))
  refine au (aG (fun k=>k≤s.toNat) (fun k:Nat=> [(10, .one ((az k)))]) (fun k=> [(61, .arr .bw (Cx rows k))]) (fun k=>s.toNat-k) 0 (fun k=>rfl) (Nat.zero_le _) rfl ?_)
  intro k hk
  have hle:=IQ rows k
  refine aa (aq X2 [0,1,2,3,8,9,10,38] rfl ?_)
  refine ah rfl ?_ ?_<;>intro aW
  ·try simp only[aP]at aW
   have Sh:=Fg (id:=(k:Int)) (rows:=rows) (by omega) hr
   refine an (aa (au (bZ X2 [(47,61)] [(45,⟨true,[.agg (bR (newS (k:Int) rows 0))]⟩),(500046,⟨true,[]⟩)] [0,1,2,3,8,9,10] [] 6 MO (by kernel_rfl) rfl (by(repeat' with_reducible first|exact aL|refine aS ?_ ?_|apply And.intro)<;>first|exact(l5 (k:Int) rows 0)|exact rfl|exact⟨rfl,bn _ (by decide)⟩| (simp only[dO,maxLen,lens];omega)) ?_)))
   rw[Sh]
   refine bt X2 [0,1,2,3,8,9,10] rfl ?_
   refine⟨k+1,by omega,by omega,?_⟩
   rw[bH _ k rfl (by omega),Ul]
   try rfl
  ·try simp only[aP]at aW
   have hks:s.toNat=k:=by omega
   refine aK (aa (aq X2 [2,3,8,9,11] rfl ?_))
   refine au (aG (fun k1=>k1≤(2*p.toNat)) (fun k1:Nat=> [(11, .one ((az k1)))]) (fun k1=> [(62, .arr .bC (tH seed k1))]) (fun k1=>(2*p.toNat)-k1) 0 (fun k1=>rfl) (Nat.zero_le _) rfl ?_)
   intro k1 hk1
   have J8:=IS seed k1
   have hp2:IntKind.i64.wrap (2*p)=2*p:=bV (by omega)
   refine aa (aq X2 [2,3,8,9,11,52] rfl ?_)
   refine ah rfl ?_ ?_<;>intro bz
   ·try simp only[aP]at bz
    rw[hp2]at bz
    have hkr:=vQ (dS seed [199,(k1:Int).tdiv 2])
    have hx:(IntKind.i64.wrap (BitVec.ofInt IntKind.i64.bits (k1:Int)^^^BitVec.ofInt IntKind.i64.bits 1).toNat)=((k1^^^1:Nat):Int):=SQ k1 (by omega)
    have hxl:=xA k1 8 (by omega) (by decide)
    have hxn:=OT k1
    have Mr:=CW (dS seed [199,(k1:Int).tdiv 2]).1
    have hw2:IntKind.i64.wrap ((k1:Int).tdiv 2)=(k1:Int).tdiv 2:=by rw[uA (by omega)];exact bV (by omega)
    refine an (aa (au (aa ?_)))
    have t1:=(bE seed [199,IntKind.i64.wrap ((k1:Int).tdiv 2)] (by first|assumption|omega| (simp;done)| (simp;omega)))
    have t2:=(nS 1 (kh seed [199,IntKind.i64.wrap ((k1:Int).tdiv 2)]))
    refine aE X2 [] [(59,⟨false,bJ t1⟩),(60,⟨false,bJ t2⟩)] [2,3,8,9,11,12] [] rfl (by(repeat' with_reducible first|exact aL|refine aS ?_ ?_|apply And.intro);(iterate 2 all_goals try first|exact t1|exact t2);all_goals first| (intros;omega)|exact⟨rfl,bn _ (by decide)⟩) ?_
    rw[hw2,Mr]
    have t1:=(l6 (k1:Int) (IntKind.i64.wrap (BitVec.ofInt IntKind.i64.bits (k1:Int)^^^BitVec.ofInt IntKind.i64.bits 1).toNat) (Eu (kh seed [199,(k1:Int).tdiv 2])) (kh seed [211,(k1:Int)]) (by omega) (by rw[hx];omega) (by rw[hx];omega) (by omega))
    refine bu X2 [(74,62)] [(70,⟨false,[az (kh seed [211,(k1:Int)])]⟩),(71,⟨false,bJ t1⟩),(72,⟨true,[.agg (bK (⟨(⟨(k1:Int),(IntKind.i64.wrap (BitVec.ofInt IntKind.i64.bits (k1:Int)^^^BitVec.ofInt IntKind.i64.bits 1).toNat),(Eu (kh seed [199,(k1:Int).tdiv 2])),(kh seed [211,(k1:Int)]),[],0,[],0⟩:eg),(⟨(k1:Int),(IntKind.i64.wrap (BitVec.ofInt IntKind.i64.bits (k1:Int)^^^BitVec.ofInt IntKind.i64.bits 1).toNat),(Eu (kh seed [199,(k1:Int).tdiv 2])),(kh seed [211,(k1:Int)]),[],0,[],0⟩:eg)⟩:bC))]⟩)] [2,3,8,9,11] [] 20479 2 MO (by kernel_rfl) rfl (by kernel_rfl) (by(repeat' with_reducible first|exact aL|refine aS ?_ ?_|apply And.intro);(iterate 3 all_goals try first|exact(bE seed [211,(k1:Int)] (by first|assumption|omega| (simp;done)| (simp;omega)))|exact t1|exact(jg (⟨(k1:Int),(IntKind.i64.wrap (BitVec.ofInt IntKind.i64.bits (k1:Int)^^^BitVec.ofInt IntKind.i64.bits 1).toNat),(Eu (kh seed [199,(k1:Int).tdiv 2])),(kh seed [211,(k1:Int)]),[],0,[],0⟩:eg) ⟨Nat.zero_le _,Nat.zero_le _⟩));all_goals first|exact rfl|exact⟨rfl,bn _ (by decide)⟩| (simp only[dO,maxLen,lens];omega)) ?_
    rw[hx]
    refine bt X2 [2,3,8,9,11] rfl ?_
    refine⟨k1+1,by omega,by omega,?_⟩
    rw[bH _ k1 rfl (by omega),Um]
    try rfl
   ·try simp only[aP]at bz
    rw[hp2]at bz
    have MQ:2*p.toNat=k1:=by omega
    exact aK (aC X2 [8] rfl (by trivial) (aj (af rfl ⟨rfl,by rw[hks];rfl,by rw[←MQ];rfl,rfl,rfl,rfl,rfl,rfl,rfl,rfl,⟨⟩⟩)))
theorem FZ(v:Value)(c:cu)(b:List UInt8)(hcb:c.b=b)(hb:b.length≤1048576):dA ty Tryz.prog 157 [(1000, .box [.eX v .u8 b,aO (c.i:Int),aO c.h])] [.a (.ptr 1000 0)] [(1000, .box [.eX v .u8 b,aO ((Db c).1.i:Int),aO (Db c).1.h]),(61, .arr .bw (Db c).2.av),(62, .arr .bC (Db c).2.ak),(64, .arr .aN (Db c).2.aB.rounds),(68, .arr .int (Db c).2.replaced)] [.agg [aO (Db c).2.rows, .own 61, .own 62,aO (Db c).2.aB.rows, .own 64,aO (Db c).2.aX,aO (Db c).2.seed,aO (Db c).2.round, .own 68,aO (Db c).2.cancelled]]:=by
 refine cq X2 call157 func157 rfl rfl (by decide) ntmps157 (by simp) rfl ?_
 intro zb
 have q1:=cS (aA c 2) (n:=2) (by decide)
 have q2:=cS (aA (aA c 2) 2) (n:=2) (by decide)
 have q0:=OW (c:=c)
 have aW:(aA c 2).b=b:=by rw[aQ];exact hcb
 have bz:(aA (aA c 2) 2).b=b:=by rw[aQ];exact aW
 have dD:(aA (aA (aA c 2) 2) 2).b=b:=by rw[aQ];exact bz
 have kS:(Uu c).b=b:=by rw[Yu];exact hcb
 have hnw:Xs (Xw.getD (aV c (Xw.length:Int)).toNat (aI .int)) (IntKind.i64.wrap (2+aV (aA c 2) 2)).toNat (IntKind.i64.wrap (1+aV (aA (aA c 2) 2) 2)).toNat (aV (aA (aA (aA c 2) 2) 2) 999)=nw0 c:=by rw[bV (a:=2+aV (aA c 2) 2) (by omega),bV (a:=1+aV (aA (aA c 2) 2) 2) (by omega)];rfl
 refine aq X2 [0,2] rfl (aa ?_)
 have t1:=(cw v c Xw b hcb hb (by decide))
 have t2:=(aF v (aA c 2) 2 b aW hb)
 have t3:=(aF v (aA (aA c 2) 2) 2 b bz hb)
 have t4:=(aF v (aA (aA (aA c 2) 2) 2) 999 b dD hb)
 have t5:=(Cy (Xw.getD (aV c (Xw.length:Int)).toNat (aI .int)) (IntKind.i64.wrap (2+aV (aA c 2) 2)) (IntKind.i64.wrap (1+aV (aA (aA c 2) 2) 2)) (aV (aA (aA (aA c 2) 2) 2) 999) (by have:aV c (Xw.length:Int)=aV c 2:=rfl;rw[this];omega) (by rw[bV (by omega)];omega) (by rw[bV (by omega)];omega))
 refine aE X2 [(16,60)] [(800007,⟨true,bF t1⟩),(700007,⟨true, .agg [.ptr 1000 1000]:: .agg []::bG t1⟩),(800009,⟨true,bF t2⟩),(700009,⟨true, .agg [.ptr 1000 1000]:: .agg []::bG t2⟩),(800012,⟨true,bF t3⟩),(700012,⟨true, .agg [.ptr 1000 1000]:: .agg []::bG t3⟩),(800015,⟨true,bF t4⟩),(700015,⟨true, .agg [.ptr 1000 1000]:: .agg []::bG t4⟩),(16,⟨true,bJ t5⟩)] [0,2,3] [] rfl (by(repeat' with_reducible first|exact aL|refine aS ?_ ?_|apply And.intro);(iterate 5 all_goals try first|exact t1|exact t2|exact t3|exact t4|exact t5);all_goals first|exact rfl|exact⟨rfl,bn _ (by decide)⟩) ?_
 rw[hnw]
 refine aa (aa ?_)
 have t1:=(aF v (Uu c) 5 b kS hb)
 refine aE X2 [] [(800018,⟨true,bF t1⟩),(700018,⟨true, .agg [.ptr 1000 1000]:: .agg []::bG t1⟩)] [0,2,3,4] [] rfl (by(with_reducible and_intros)<;>first|exact⟨⟩|exact t1|exact rfl) ?_
 rw[show aV (Uu c) 5=((n32 c:Nat):Int)-((0:Nat):Int)from by have:=BC (Uu c) 5;unfold n32;omega]
 refine au (aG (fun k=>k≤(n32 c)) (fun k:Nat=> [(4, .one ((az (((n32 c:Nat):Int)-(k:Int)))))]) (fun k=> [(1000, .box [.eX v .u8 b,aO ((fD sG (tR c) k).1.i:Int),aO (fD sG (tR c) k).1.h]),(3, .box [aO (fD sG (tR c) k).2.rows, .own 61, .own 62,aO (fD sG (tR c) k).2.aB.rows, .own 64,aO (fD sG (tR c) k).2.aX,aO (fD sG (tR c) k).2.seed,aO (fD sG (tR c) k).2.round, .own 68,aO (fD sG (tR c) k).2.cancelled]),(61, .arr .bw (fD sG (tR c) k).2.av),(62, .arr .bC (fD sG (tR c) k).2.ak),(64, .arr .aN (fD sG (tR c) k).2.aB.rounds),(68, .arr .int (fD sG (tR c) k).2.replaced)]) (fun k=>(n32 c)-k) 0 (fun k=>rfl) (Nat.zero_le _) rfl ?_)
 intro k hk
 have hn5:n32 c<5:=by have:=cS (Uu c) (n:=5) (by decide);unfold n32;omega
 have hd:tI (fD sG (tR c) k).2 0:=by(have: ∀j,tI (fD sG (tR c) j).2 0:=fun j=>by(induction j with|zero=>exact(Yw c).1|succ j ih=>exact Uy ih));exact this k
 have IU:=hd.B (by decide)
 have Vu:(fD sG (tR c) k).1.b=b:=by rw[Li Uw];show(aA (Uu c) 5).b=_;rw[aQ];exact kS
 skip
 refine aa (aq X2 [0,2,3,4,20] rfl ?_)
 refine ah rfl ?_ ?_<;>intro hb0
 ·try simp only[aP]at hb0
  have hsb:IntKind.i64.wrap (((n32 c:Nat):Int)-(k:Int)-1)=((n32 c:Nat):Int)-((k+1:Nat):Int):=by rw[bV (by omega)];omega
  refine an (aa (au ?_))
  have t1:=(aF v ((fD sG (tR c) k).1) ((fD sG (tR c) k).2.ak.length:Int) b Vu hb)
  have t2:=(aF v (aA (fD sG (tR c) k).1 ((fD sG (tR c) k).2.ak.length:Int)) 4 b (by rw[aQ];exact Vu) hb)
  have t3:=(cz v (aA (aA (fD sG (tR c) k).1 ((fD sG (tR c) k).2.ak.length:Int)) 4) (aV (aA (fD sG (tR c) k).1 ((fD sG (tR c) k).2.ak.length:Int)) 4) b (by rw[aQ,aQ];exact Vu) hb (by have:=cS (aA (fD sG (tR c) k).1 ((fD sG (tR c) k).2.ak.length:Int)) (n:=4) (by decide);omega))
  have t4:=(iN ((fD sG (tR c) k).2) (aV (fD sG (tR c) k).1 ((fD sG (tR c) k).2.ak.length:Int)) (tG (aA (aA (fD sG (tR c) k).1 ((fD sG (tR c) k).2.ak.length:Int)) 4) (aV (aA (fD sG (tR c) k).1 ((fD sG (tR c) k).2.ak.length:Int)) 4).toNat) IU (by rw[iq];have:=cS (aA (fD sG (tR c) k).1 ((fD sG (tR c) k).2.ak.length:Int)) (n:=4) (by decide);omega))
  refine bu X2 [(34,150)] [(800029,⟨true,bF t1⟩),(700029,⟨true, .agg [.ptr 1000 1000]:: .agg []::bG t1⟩),(800032,⟨true,bF t2⟩),(700032,⟨true, .agg [.ptr 1000 1000]:: .agg []::bG t2⟩),(800033,⟨true,bF t3⟩),(700033,⟨true, .agg [.ptr 1000 1000]:: .agg [.ptr 11 170]::bG t3⟩),(34,⟨true,bJ t4⟩)] [0,2,3,4] [] 15583 47 MO (by kernel_rfl) rfl (by kernel_rfl) (by(with_reducible and_intros);(iterate 4 all_goals try first|exact⟨⟩|exact t1|exact t2|exact t3|exact t4);all_goals first|exact rfl) (bl 151 61 rfl (bl 152 62 rfl (bl 154 64 rfl (bl 158 68 rfl (bt X2 [0,2,3,4] rfl ?_)))))
  refine⟨k+1,by omega,by omega,?_⟩
  rw[hsb]
  try rfl
 ·try simp only[aP]at hb0
  have hkn:k=n32 c:=by omega
  exact aK (aC X2 [2] rfl (by trivial) (aj (aY rfl (by and_intros<;>first|exact⟨⟩|rfl| (rw[hkn];rfl;done)))))
set_option maxHeartbeats 1000000 in
theorem Ft(v:Value)(c:cu)(s:Int)(b:List UInt8)(hcb:c.b=b)(hb:b.length≤1048576)(hs0:1≤s∧s≤1000):dA ty Tryz.prog 86 [(1000, .box [.eX v .u8 b,aO (c.i:Int),aO c.h])] [.a (.ptr 1000 0),az s] [(1000, .box [.eX v .u8 b,aO ((He c s).1.i:Int),aO (He c s).1.h]),(61, .arr .bw (He c s).2.av),(62, .arr .bC (He c s).2.ak),(64, .arr .aN (He c s).2.aB.rounds),(68, .arr .int (He c s).2.replaced)] [.agg [aO (He c s).2.rows, .own 61, .own 62,aO (He c s).2.aB.rows, .own 64,aO (He c s).2.aX,aO (He c s).2.seed,aO (He c s).2.round, .own 68,aO (He c s).2.cancelled]]:=by
 refine cq X2 call86 func86 rfl rfl (by decide) ntmps86 (by simp) rfl ?_
 intro zb
 refine aq X2 [0,1,4] rfl (aa ?_)
 have t1:=(FZ v c b hcb hb)
 refine aE X2 [] [(800008,⟨true,bF t1⟩),(700008,⟨true, .agg [.ptr 1000 1000]:: .agg [.ptr 61 61, .ptr 62 62, .ptr 64 64, .ptr 68 68]::bG t1⟩)] [0,1,4,5] [] rfl (by(with_reducible and_intros)<;>first|exact⟨⟩|exact t1|exact rfl) (aa (aa ?_))
 have t1:=(aF v ((Db c).1) s b (by rw[Ux];exact hcb) hb)
 refine aE X2 [] [(800011,⟨true,bF t1⟩),(700011,⟨true, .agg [.ptr 1000 1000]:: .agg []::bG t1⟩)] [0,4,5,6] [] rfl (by(with_reducible and_intros)<;>first|exact⟨⟩|exact t1|exact rfl) ?_
 rw[show aV (Db c).1 s=((Uv c s:Nat):Int)-((0:Nat):Int)from by have:=BC (Db c).1 s;unfold Uv;omega]
 refine au (aG (fun k=>k≤(Uv c s)) (fun k:Nat=> [(6, .one ((az (((Uv c s:Nat):Int)-(k:Int)))))]) (fun k=> [(1000, .box [.eX v .u8 b,aO ((fD kA (lC c s) k).1.i:Int),aO (fD kA (lC c s) k).1.h]),(5, .box [aO (fD kA (lC c s) k).2.rows, .own 61, .own 62,aO (fD kA (lC c s) k).2.aB.rows, .own 64,aO (fD kA (lC c s) k).2.aX,aO (fD kA (lC c s) k).2.seed,aO (fD kA (lC c s) k).2.round, .own 68,aO (fD kA (lC c s) k).2.cancelled]),(61, .arr .bw (fD kA (lC c s) k).2.av),(62, .arr .bC (fD kA (lC c s) k).2.ak),(64, .arr .aN (fD kA (lC c s) k).2.aB.rounds),(68, .arr .int (fD kA (lC c s) k).2.replaced)]) (fun k=>(Uv c s)-k) 0 (fun k=>rfl) (Nat.zero_le _) rfl ?_)
 intro k hk
 have Sh:=Yx c (s:=s) (by omega)
 have hd:=Uz c s k (by omega)
 have IU:=hd.B (by omega)
 have Yy:=hd.R (by omega)
 have hbp:(fD kA (lC c s) k).1.b=b:=by rw[Li Yt];show(aA (Db c).1 s).b=_;rw[aQ,Ux];exact hcb
 have Vu:(aA (fD kA (lC c s) k).1 8).b=b:=by rw[aQ];exact hbp
 refine aa (aq X2 [0,4,5,6,13] rfl ?_)
 refine ah rfl ?_ ?_<;>intro hb0
 ·try simp only[aP]at hb0
  have hsb:IntKind.i64.wrap (((Uv c s:Nat):Int)-(k:Int)-1)=((Uv c s:Nat):Int)-((k+1:Nat):Int):=by rw[bV (by omega)];omega
  have hs:fD kA (lC c s) (k+1)=Ut (aV (fD kA (lC c s) k).1 8) ((aA (fD kA (lC c s) k).1 8),(fD kA (lC c s) k).2):=rfl
  unfold Ut at hs
  refine an (aa (au (aa ?_)))
  have t1:=(aF v ((fD kA (lC c s) k).1) 8 b hbp hb)
  refine aE X2 [] [(800017,⟨true,bF t1⟩),(700017,⟨true, .agg [.ptr 1000 1000]:: .agg []::bG t1⟩)] [0,4,5,6,17] [] rfl (by(with_reducible and_intros)<;>first|exact⟨⟩|exact t1|exact rfl) (au (aq X2 [0,4,5,6,17,20] rfl ?_))
  refine ah rfl ?_ ?_<;>intro aW
  ·try simp only[aP]at aW
   rw[if_pos aW]at hs
   have t1:=(aF v (aA (fD kA (lC c s) k).1 8) ((fD kA (lC c s) k).2.ak.length:Int) b Vu hb)
   have t2:=(aF v (aA (aA (fD kA (lC c s) k).1 8) ((fD kA (lC c s) k).2.ak.length:Int)) 4 b (by rw[aQ];exact Vu) hb)
   have t3:=(cz v (aA (aA (aA (fD kA (lC c s) k).1 8) ((fD kA (lC c s) k).2.ak.length:Int)) 4) (aV (aA (aA (fD kA (lC c s) k).1 8) ((fD kA (lC c s) k).2.ak.length:Int)) 4) b (by rw[aQ,aQ];exact Vu) hb (by have:=cS (aA (aA (fD kA (lC c s) k).1 8) ((fD kA (lC c s) k).2.ak.length:Int)) (n:=4) (by decide);omega))
   have t4:=(iN ((fD kA (lC c s) k).2) (aV (aA (fD kA (lC c s) k).1 8) ((fD kA (lC c s) k).2.ak.length:Int)) (tG (aA (aA (aA (fD kA (lC c s) k).1 8) ((fD kA (lC c s) k).2.ak.length:Int)) 4) (aV (aA (aA (fD kA (lC c s) k).1 8) ((fD kA (lC c s) k).2.ak.length:Int)) 4).toNat) IU (by rw[iq];have:=cS (aA (aA (fD kA (lC c s) k).1 8) ((fD kA (lC c s) k).2.ak.length:Int)) (n:=4) (by decide);omega))
   refine bu X2 [(33,150)] [(800028,⟨true,bF t1⟩),(700028,⟨true, .agg [.ptr 1000 1000]:: .agg []::bG t1⟩),(800031,⟨true,bF t2⟩),(700031,⟨true, .agg [.ptr 1000 1000]:: .agg []::bG t2⟩),(800032,⟨true,bF t3⟩),(700032,⟨true, .agg [.ptr 1000 1000]:: .agg [.ptr 11 170]::bG t3⟩),(33,⟨true,bJ t4⟩)] [0,4,5,6] [] 15583 47 MO (by kernel_rfl) rfl (by kernel_rfl) (by(with_reducible and_intros);(iterate 4 all_goals try first|exact⟨⟩|exact t1|exact t2|exact t3|exact t4);all_goals first|exact rfl) (bl 151 61 rfl (bl 152 62 rfl (bl 154 64 rfl (bl 158 68 rfl (bt X2 [0,4,5,6] rfl ?_)))))
   refine⟨k+1,by omega,by omega,?_⟩
   rw[hs,hsb]
   try rfl
  ·try simp only[aP]at aW
   rw[if_neg aW]at hs
   refine aq X2 [0,4,5,6,17,36] rfl ?_
   refine ah rfl ?_ ?_<;>intro bz
   ·try simp only[aP]at bz
    rw[if_pos bz]at hs
    have t1:=(aF v (aA (fD kA (lC c s) k).1 8) ((fD kA (lC c s) k).2.ak.length:Int) b Vu hb)
    have t2:=(oL ((fD kA (lC c s) k).2) (aV (aA (fD kA (lC c s) k).1 8) ((fD kA (lC c s) k).2.ak.length:Int)) IU)
    refine bu X2 [(45,150)] [(800044,⟨true,bF t1⟩),(700044,⟨true, .agg [.ptr 1000 1000]:: .agg []::bG t1⟩),(45,⟨true,bJ t2⟩)] [0,4,5,6] [] 991 3 MO (by kernel_rfl) rfl (by kernel_rfl) (by(with_reducible and_intros);(iterate 2 all_goals try first|exact⟨⟩|exact t1|exact t2);all_goals first|exact rfl) (bl 151 61 rfl (bl 152 62 rfl (bl 154 64 rfl (bl 158 68 rfl (bt X2 [0,4,5,6] rfl ?_)))))
    refine⟨k+1,by omega,by omega,?_⟩
    rw[hs,hsb]
    try rfl
   ·try simp only[aP]at bz
    rw[if_neg bz]at hs
    refine aq X2 [0,4,5,6,48] rfl ?_
    refine ah rfl ?_ ?_<;>intro dD
    ·try simp only[aP]at dD
     rw[if_pos dD]at hs
     have t1:=(aF v (aA (fD kA (lC c s) k).1 8) ((fD kA (lC c s) k).2.av.length:Int) b Vu hb)
     have t2:=(aF v (aA (aA (fD kA (lC c s) k).1 8) ((fD kA (lC c s) k).2.av.length:Int)) 4 b (by rw[aQ];exact Vu) hb)
     have t3:=(mG ((fD kA (lC c s) k).2) (aV (aA (fD kA (lC c s) k).1 8) ((fD kA (lC c s) k).2.av.length:Int)) (aV (aA (aA (fD kA (lC c s) k).1 8) ((fD kA (lC c s) k).2.av.length:Int)) 4) IU)
     refine bu X2 [(59,150)] [(800056,⟨true,bF t1⟩),(700056,⟨true, .agg [.ptr 1000 1000]:: .agg []::bG t1⟩),(800058,⟨true,bF t2⟩),(700058,⟨true, .agg [.ptr 1000 1000]:: .agg []::bG t2⟩),(59,⟨true,bJ t3⟩)] [0,4,5,6] [] 3935 11 MO (by kernel_rfl) rfl (by kernel_rfl) (by(with_reducible and_intros);(iterate 3 all_goals try first|exact⟨⟩|exact t1|exact t2|exact t3);all_goals first|exact rfl) (bl 151 61 rfl (bl 152 62 rfl (bl 154 64 rfl (bl 158 68 rfl (bt X2 [0,4,5,6] rfl ?_)))))
     refine⟨k+1,by omega,by omega,?_⟩
     rw[hs,hsb]
     try rfl
    ·try simp only[aP]at dD
     rw[if_neg dD]at hs
     have yx:gI (fD kA (lC c s) k).2=true:=by(have:=hd.round;simp only[gI,hd.ok,Bool.true_and,Bool.not_eq_true',decide_eq_false_iff_not];omega)
     replace hs:=hs.trans (congrArg (Prod.mk (aA (fD kA (lC c s) k).1 8)) (xZ yx))
     have t1:=(sZ ((fD kA (lC c s) k).2) Yy hd.ok)
     refine aE X2 [(19,150)] [(19,⟨true,bJ t1⟩)] [0,4,5,6] [] rfl (by(with_reducible and_intros)<;>first|exact⟨⟩|exact t1) (bl 151 61 rfl (bl 152 62 rfl (bl 154 64 rfl (bl 158 68 rfl (bt X2 [0,4,5,6] rfl ?_)))))
     refine⟨k+1,by omega,by omega,?_⟩
     rw[hs,hsb]
     try rfl
 ·try simp only[aP]at hb0
  have hkn:k=Uv c s:=by omega
  exact aK (aC X2 [4] rfl (by trivial) (aj (aY rfl (by and_intros<;>first|exact⟨⟩|rfl| (rw[hkn];rfl;done)))))
end
section
set_option maxRecDepth 100000
theorem Ak(a:iP)(r:Int)(d:DB)(h0:eJ a≤1048576)(Xd:dL List.length d.rows≤1048576):So 279 [.agg (dc a),az r, .agg (aZ d)] [.agg (dc (⟨a.rows,C6 a r d⟩:iP)),aH (oJ a r d)]:=by
 refine j7 X2 call279 func279 rfl rfl (by decide) ntmps279 (by simp) ?_
 intro zb
 refine aq X2 [1,3,5,6] rfl (aD X2 [] [(10,⟨true,[.agg (dc a)]⟩)] [1,3,5,6,8] [] rfl (by(with_reducible and_intros)<;>first|exact⟨⟩|exact(oB a h0)) (aa (aD X2 [] [(12,⟨false,[aH (eW a)]⟩),(16,⟨false,[aH (inr r 0 100000)]⟩),(22,⟨false,[az (dh a)]⟩),(27,⟨false,[aH (cT d)]⟩)] [1,5,6,8,37] [] rfl (by(with_reducible and_intros);(iterate 4 all_goals try first|exact⟨⟩|exact(gU a)|exact fun _=>(bf r 0 100000)|exact fun _=>(gd a)|exact fun _=>(cN d))) ?_)))
 refine ah rfl ?_ ?_<;>intro hb0
 ·have hk:oJ a r d=false:=b9 hb0 (by simp only[oJ,aU]<;>first|rfl|ac_rfl)
  have hn:=MR hk
  exact aC X2 [6,7] rfl (by trivial) (aj (af rfl ⟨rfl,by rw[hn],by rw[hk],⟨⟩⟩))
 ·have hk:oJ a r d=true:=bX hb0 (by simp only[oJ,aU]<;>first|rfl|ac_rfl)
  have hn:=II hk
  have hkb:=IJ hk
  have hal:(qh a r d).length=a.rounds.length+1:=by unfold qh;rw[List.length_append];rfl
  refine an (cQ X2 [] [(43,⟨true,[.agg (aZ d)]⟩),(500045,⟨true,[]⟩)] [6,8] [] 7 MO (by kernel_rfl) rfl (by(repeat' with_reducible first|exact aL|refine aS ?_ ?_|apply And.intro)<;>first|exact(dK d Xd)|exact rfl|exact⟨rfl,bn _ (by decide)⟩| (simp only[dO,maxLen,lens];omega)) ?_)
  rw[show a.rounds++ [(⟨r,d⟩:aN)]=(qh a r d)from rfl]
  refine aa (aq X2 [6,8,51] rfl ?_)
  refine ah rfl ?_ ?_<;>intro aW
  ·try simp only[aP]at aW
   have h8:(8:Int)<((qh a r d).length:Int):=aW
   rw[if_pos h8]at hn
   exact aE X2 [] [(600054,⟨true,[]⟩)] [6,8] [] rfl (by and_intros<;>first|exact⟨⟩| (intros;omega)) (aC X2 [6,7] rfl (by trivial) (aj (af rfl ⟨rfl,by rw[hn];simp,by rw[hk],⟨⟩⟩)))
  ·try simp only[aP]at aW
   have h8: ¬(8:Int)<((qh a r d).length:Int):=by omega
   rw[if_neg h8]at hn
   exact an (aC X2 [6,7] rfl (by trivial) (aj (af rfl ⟨rfl,by rw[hn],by rw[hk],⟨⟩⟩)))
theorem tL(s:bw)(c:Int)(d:DB)(hz:s.received.length≤1048576∧ ∀r,r∈s.received→dL List.length r.share.rows≤1048576)(hd:dL List.length d.rows≤1048576):So 266 [.agg (bR s),az c, .agg (aZ d)] [.agg (bR (Vx s c d)),aH (xd s c d)]:=by
 refine j7 X2 call266 func266 rfl rfl (by decide) ntmps266 (by simp) ?_
 intro zb
 have j0:=hz.1
 have hlo:=OZ s.received c
 have hta:(s.received.take (low s.received c)).length≤1048576:=by rw[List.length_take];omega
 have hdr:(s.received.drop (low s.received c)).length≤1048576:=by rw[List.length_drop];omega
 refine aq X2 [1,3,5,6] rfl (aD X2 [] [(11,⟨true,[.agg (bR s)]⟩)] [1,3,5,6,8] [] rfl (by(with_reducible and_intros)<;>first|exact⟨⟩|exact(gl s hz)) (aq X2 [1,3,5,6,8,9] rfl ?_))
 refine aa (au (aG (fun k=>k≤(low s.received c)) (fun k:Nat=> [(9, .one ((az k)))]) (fun k=> []) (fun k=>(low s.received c)-k) 0 (fun k=>rfl) (Nat.zero_le _) rfl ?_))
 intro k hk
 refine aa (aC X2 [1,3,5,6,8,9,26] rfl (by refine⟨fun Xb=> ?_,fun Xb=> ?_,⟨⟩⟩<;>(have NT:decide ((k:Int)<(s.received.length:Int))=true:=Xb;rw[decide_eq_true_eq]at NT;dsimp only[hyps,Hy];omega)) ?_)
 refine ah rfl ?_ ?_<;>intro hb0
 ·have xF:k<low s.received c:=aaN hk hb0
  refine an (au (bt X2 [1,3,5,6,8,9] rfl ?_))
  refine⟨k+1,by omega,by omega,?_⟩
  rw[bH _ k rfl (by omega)]
  try rfl
 ·have xF:k=low s.received c:=aaO hk hb0
  subst xF
  refine U8 8 3 (low s.received c) 41 42 (fun oa cap=>rfl) hlo (fun oa cap hcap=>(aK (aa (bu X2 [(34,29),(40,29),(45,29)] [(37,⟨true,[.agg (aZ d)]⟩)] [3,6,8] [] 193503 259 MO (by kernel_rfl) rfl (by kernel_rfl) (by simp only[List.cons_append,List.nil_append];(repeat' with_reducible first|exact aL|refine aS ?_ ?_|apply And.intro)<;>skip;(iterate 1 (all_goals try (first|exact(dK d hd))));all_goals (first| (intros;omega)|exact rfl|exact⟨rfl,bn _ (by decide)⟩| (simp only[dO,maxLen,lens];omega))) ?_))))
  refine aa (aD X2 [] [(48,⟨false,[aH (cm s)]⟩),(52,⟨false,[aH (cm (CA s c d))]⟩)] [3,6,8,54] [] rfl (by(with_reducible and_intros);(iterate 2 all_goals try first|exact⟨⟩|exact(cO s)|exact fun _=>(cO (CA s c d)))) ?_)
  refine ah rfl ?_ ?_<;>intro aW
  ·have hr:xd s c d=false:=ads aW
   exact aD X2 [] [(56,⟨true,[.agg (bR s)]⟩)] [6,7] [] rfl (by(with_reducible and_intros)<;>first|exact⟨⟩|exact(gl s hz)) (aj (af rfl (by and_intros<;>first|exact⟨⟩| (rw[aaP hr];done)| (rw[hr];done))))
  ·have hr:xd s c d=true:=adt aW
   exact an (aC X2 [6,7] rfl (by trivial) (aj (af rfl (by and_intros<;>first|exact⟨⟩| (rw[XC hr];rfl;done)| (rw[hr];done)))))
theorem ql(v:Value)(c:cu)(n:Int)(b:List UInt8)(hcb:c.b=b)(hb:b.length≤1048576):dA ty Tryz.prog 239 [(1000, .box [.eX v .u8 b,aO (c.i:Int),aO c.h])] [.a (.ptr 1000 0),az n] [(1000, .box [.eX v .u8 b,aO ((aA c n).i:Int),aO (aA c n).h])] [aH (aV c n==0)]:=by
 refine cq X2 call239 func239 rfl rfl (by decide) ntmps239 (by simp) rfl ?_
 intro zb
 refine aq X2 [0,1] rfl (aa ?_)
 have t1:=(aF v c n b hcb hb)
 exact aE X2 [] [(800007,⟨true,bF t1⟩),(700007,⟨true, .agg [.ptr 1000 1000]:: .agg []::bG t1⟩)] [4] [] rfl (by(with_reducible and_intros)<;>first|exact⟨⟩|exact t1|exact rfl) (aj (aY rfl ⟨rfl,rfl,rfl,rfl,rfl,⟨⟩⟩))
theorem xe(v:Value)(c:cu)(b:List UInt8)(hcb:c.b=b)(hb:b.length≤1048576):dA ty Tryz.prog 174 [(1000, .box [.eX v .u8 b,aO (c.i:Int),aO c.h])] [.a (.ptr 1000 0)] [(1000, .box [.eX v .u8 b,aO ((F0 c).i:Int),aO (F0 c).h])] [az (M1 c)]:=by
 refine cq X2 call174 func174 rfl rfl (by decide) ntmps174 (by simp) rfl ?_
 intro zb
 have hb0:=cS (aA c 10) (n:=99999) (by decide)
 have hw:IntKind.i64.wrap (1+aV (aA c 10) 99999)=1+aV (aA c 10) 99999:=bV (by omega)
 clear hb0
 refine aq X2 [0] rfl (aa (aa ?_))
 have t1:=(ql v c 10 b hcb hb)
 refine aE X2 [] [(800004,⟨true,bF t1⟩),(700004,⟨true, .agg [.ptr 1000 1000]:: .agg []::bG t1⟩)] [0,4] [] rfl (by(with_reducible and_intros)<;>first|exact⟨⟩|exact t1|exact rfl) ?_
 refine ah rfl ?_ ?_<;>intro hb0
 ·try simp only[aP]at hb0
  have hX:M1 c=k13.getD (aV (aA c 10) 4).toNat (aI .int):=if_pos (by simpa using hb0)
  have hN:F0 c=aA (aA c 10) 4:=if_pos (by simpa using hb0)
  refine aa ?_
  have t1:=(cw v (aA c 10) k13 b (by rw[aQ];exact hcb) hb (by decide))
  refine aE X2 [] [(800007,⟨true,bF t1⟩),(700007,⟨true, .agg [.ptr 1000 1000]:: .agg []::bG t1⟩)] [2] [] rfl (by(repeat' with_reducible first|exact aL|refine aS ?_ ?_|apply And.intro)<;>first|exact t1|exact rfl|exact⟨rfl,bn _ (by decide)⟩) ?_
  exact aj (aY rfl ⟨by rw[hX];rfl,rfl,rfl,by rw[hN];rfl,by rw[hN];rfl,⟨⟩⟩)
 ·try simp only[aP]at hb0
  have hX:M1 c=1+aV (aA c 10) 99999:=if_neg (by simpa using hb0)
  have hN:F0 c=aA (aA c 10) 99999:=if_neg (by simpa using hb0)
  refine an (aa ?_)
  have t1:=(aF v (aA c 10) 99999 b (by rw[aQ];exact hcb) hb)
  exact aE X2 [] [(800009,⟨true,bF t1⟩),(700009,⟨true, .agg [.ptr 1000 1000]:: .agg []::bG t1⟩)] [2] [] rfl (by(with_reducible and_intros)<;>first|exact⟨⟩|exact t1|exact rfl) (aj (aY rfl ⟨by rw[hX,hw],rfl,rfl,by rw[hN],by rw[hN],⟨⟩⟩))
theorem lp(v:Value)(c:cu)(rows:Int)(b:List UInt8)(hcb:c.b=b)(hb:b.length≤1048576)(hr:rows≤64):dA ty Tryz.prog 289 [(1000, .box [.eX v .u8 b,aO (c.i:Int),aO c.h])] [.a (.ptr 1000 0),az rows] [(1000, .box [.eX v .u8 b,aO ((Lj c rows.toNat).i:Int),aO (Lj c rows.toNat).h]),(21, .arr (.sl .u8) (FM c rows.toNat))] [.agg [.own 21]]:=by
 refine cq X2 call289 func289 rfl rfl (by decide) ntmps289 (by simp) rfl ?_
 intro zb
 refine aq X2 [0,1,4] rfl (aq X2 [0,1,4,5] rfl (eM 5 0 21 (.sl .u8) rfl (aa (aq X2 [0,1,4,5,6] rfl ?_))))
 refine au (aG (fun k=>k≤rows.toNat) (fun k:Nat=> [(6, .one ((az k)))]) (fun k=> [(1000, .box [.eX v .u8 b,aO ((Lj c k).i:Int),aO (Lj c k).h]),(21, .arr (.sl .u8) (FM c k))]) (fun k=>rows.toNat-k) 0 (fun k=>rfl) (Nat.zero_le _) rfl ?_)
 intro k hk
 have hle:=v8 c k
 have hbk:(Lj c k).b=b:=by rw[Hf];exact hcb
 refine aa (aq X2 [0,1,4,5,6,10] rfl ?_)
 refine ah rfl ?_ ?_<;>intro hb0
 ·try simp only[aP]at hb0
  refine an (aa (au ?_))
  have t1:=(cz v (Lj c k) 24 b hbk hb (by decide))
  refine bu X2 [(18,21)] [(800016,⟨true,bF t1⟩),(700016,⟨true, .agg [.ptr 1000 1000]:: .agg [.ptr 11 170]::bG t1⟩),(500017,⟨true,[]⟩)] [0,1,4,5,6] [] 87 2 MO (by kernel_rfl) rfl (by kernel_rfl) (by(repeat' with_reducible first|exact aL|refine aS ?_ ?_|apply And.intro)<;>first|exact t1|exact rfl|exact⟨rfl,bn _ (by decide)⟩| (simp only[dO,maxLen,lens];omega)) ?_
  refine bt X2 [0,1,4,5,6] rfl ?_
  refine⟨k+1,by omega,by omega,?_⟩
  rw[bH _ k rfl (by omega)]
  try rfl
 ·try simp only[aP]at hb0
  have hk2:rows.toNat=k:=by omega
  exact aK (aC X2 [4] rfl (by trivial) (aj (aY rfl ⟨rfl,rfl,by rw[hk2],by rw[hk2],by rw[hk2],⟨⟩⟩)))
theorem Al(v:Value)(c:cu)(b:List UInt8)(hcb:c.b=b)(hb:b.length≤1048576):dA ty Tryz.prog 238 [(1000, .box [.eX v .u8 b,aO (c.i:Int),aO c.h])] [.a (.ptr 1000 0)] [(1000, .box [.eX v .u8 b,aO ((Vv c).i:Int),aO (Vv c).h]),(21, .arr (.sl .u8) (UD c).rows)] [.agg [.own 21]]:=by
 refine cq X2 call238 func238 rfl rfl (by decide) ntmps238 (by simp) rfl ?_
 intro zb
 have hn:=Yz c
 have hq:=cS (aA (Fu c) 10) (n:=3) (by decide)
 have hw:IntKind.i64.wrap (23+aV (aA (Fu c) 10) 3)=23+aV (aA (Fu c) 10) 3:=bV (by omega)
 have h7:=cS c (n:=7) (by decide)
 have BO:(FM (aA c 7) (aV c 7).toNat).length≤64:=by rw[v8];omega
 refine aq X2 [0,2] rfl (aa ?_)
 have t1:=(aF v c 7 b hcb hb)
 have t2:=(lp v (aA c 7) (aV c 7) b (by rw[aQ];exact hcb) hb (by omega))
 refine aE X2 [] [(800006,⟨true,bF t1⟩),(700006,⟨true, .agg [.ptr 1000 1000]:: .agg []::bG t1⟩),(800007,⟨true,bF t2⟩),(700007,⟨true, .agg [.ptr 1000 1000]:: .agg [.ptr 21 21]::bG t2⟩)] [0,2,3] [] rfl (by(with_reducible and_intros);(iterate 2 all_goals try first|exact⟨⟩|exact t1|exact t2);all_goals first|exact rfl) (aa (aa ?_))
 have t1:=(aF v (Fu c) 10 b (by rw[Ll];exact hcb) hb)
 refine aE X2 [] [(800009,⟨true,bF t1⟩),(700009,⟨true, .agg [.ptr 1000 1000]:: .agg []::bG t1⟩)] [0,2,3,9] [] rfl (by(with_reducible and_intros)<;>first|exact⟨⟩|exact t1|exact rfl) (au (aq X2 [0,2,3,9,10] rfl ?_))
 refine ah rfl ?_ ?_<;>intro hb0
 ·try simp only[aP]at hb0
  have hX:UD c=⟨FM (aA c 7) (d8n c)++ [tG (aA (aA (Fu c) 10) 3) (23+aV (aA (Fu c) 10) 3).toNat]⟩:=if_pos hb0
  have hN:Vv c=Ag (aA (aA (Fu c) 10) 3) (23+aV (aA (Fu c) 10) 3).toNat:=if_pos hb0
  have t1:=(aF v (aA (Fu c) 10) 3 b (by rw[aQ,Ll];exact hcb) hb)
  have t2:=(cz v (aA (aA (Fu c) 10) 3) (IntKind.i64.wrap (23+aV (aA (Fu c) 10) 3)) b (by rw[aQ,aQ,Ll];exact hcb) hb (by omega))
  refine bu X2 [(20,21)] [(800016,⟨true,bF t1⟩),(700016,⟨true, .agg [.ptr 1000 1000]:: .agg []::bG t1⟩),(800018,⟨true,bF t2⟩),(700018,⟨true, .agg [.ptr 1000 1000]:: .agg [.ptr 11 170]::bG t2⟩),(500019,⟨true,[]⟩)] [2,3] [] 687 11 MO (by kernel_rfl) rfl (by kernel_rfl) (by(repeat' with_reducible first|exact aL|refine aS ?_ ?_|apply And.intro);(iterate 2 all_goals try first|exact t1|exact t2);all_goals first|exact rfl|exact⟨rfl,bn _ (by decide)⟩| (simp only[dO,maxLen,lens];omega)) ?_
  rw[hw]
  exact aC X2 [2] rfl (by trivial) (aj (aY rfl ⟨rfl,rfl,by rw[hN],by rw[hN],by rw[hX];rfl,⟨⟩⟩))
 ·try simp only[aP]at hb0
  have hN:Vv c=aA (Fu c) 10:=if_neg hb0
  refine aq X2 [2,3,22] rfl ?_
  refine ah rfl ?_ ?_<;>intro aW
  ·try simp only[aP]at aW
   have hX:UD c=dz 64:=(if_neg hb0).trans (if_pos aW)
   exact aD X2 [(24,41)] [(24,⟨true,[.agg (aZ (dz 64))]⟩)] [2] [] rfl (by(with_reducible and_intros)<;>first|exact⟨⟩|exact(jY 64)) (bl 41 21 rfl (aj (aY rfl ⟨rfl,rfl,by rw[hN],by rw[hN],by rw[hX],⟨⟩⟩)))
  ·try simp only[aP]at aW
   have hX:UD c=⟨FM (aA c 7) (d8n c)⟩:=(if_neg hb0).trans (if_neg aW)
   exact an (aC X2 [2] rfl (by trivial) (aj (aY rfl ⟨rfl,rfl,by rw[hN],by rw[hN],by rw[hX];rfl,⟨⟩⟩)))
theorem Am(v:Value)(c:cu)(b:List UInt8)(hcb:c.b=b)(hb:b.length≤1048576):dA ty Tryz.prog 237 [(1000, .box [.eX v .u8 b,aO (c.i:Int),aO c.h])] [.a (.ptr 1000 0)] [(1000, .box [.eX v .u8 b,aO ((qm c).c.i:Int),aO (qm c).c.h]),(61, .arr .aN (qm c).a.rounds)] [.agg [aO (qm c).a.rows, .own 61]]:=by
 refine cq X2 call237 func237 rfl rfl (by decide) ntmps237 (by simp) rfl ?_
 intro zb
 have dD:=cS c (n:=3) (by decide)
 have hw:IntKind.i64.wrap (1+aV c 3)=1+aV c 3:=bV (by omega)
 have fP:0≤k28.getD (aV (aA c 3) 4).toNat (aI .int)∧k28.getD (aV (aA c 3) 4).toNat (aI .int)≤10:=Aj (P:=fun x:Int=>0≤x∧x≤10) (by decide) (by decide) _
 have YG:k28.getD (aV (aA c 3) (k28.length:Int)).toNat (aI .int)=((Cz c:Nat):Int)-((0:Nat):Int):=by show k28.getD (aV (aA c 3) 4).toNat (aI .int)=_;unfold Cz;omega
 refine aq X2 [0,2] rfl (aa ?_)
 have t1:=(aF v c 3 b hcb hb)
 refine aE X2 [(11,60)] [(800009,⟨true,bF t1⟩),(700009,⟨true, .agg [.ptr 1000 1000]:: .agg []::bG t1⟩),(11,⟨true,[.agg (dc (⟨(IntKind.i64.wrap (1+aV c 3)),[]⟩:iP))]⟩)] [0,2,3] [] rfl (by(with_reducible and_intros);(iterate 2 all_goals try first|exact⟨⟩|exact t1|exact(pX (IntKind.i64.wrap (1+aV c 3)) (by omega)));all_goals first|exact rfl) ?_
 rw[hw]
 refine aq X2 [0,2,3,4] rfl (aa (aa ?_))
 have t1:=(cw v (aA c 3) k28 b (by rw[aQ];exact hcb) hb (by decide))
 refine aE X2 [] [(800014,⟨true,bF t1⟩),(700014,⟨true, .agg [.ptr 1000 1000]:: .agg []::bG t1⟩)] [0,2,3,4,5] [] rfl (by(repeat' with_reducible first|exact aL|refine aS ?_ ?_|apply And.intro)<;>first|exact t1|exact rfl|exact⟨rfl,bn _ (by decide)⟩) ?_
 rw[YG]
 refine au (aG (fun k=>k≤(Cz c)) (fun k:Nat=> [(4, .one ((az (B7 (nk c) k).r))),(5, .one ((az (((Cz c:Nat):Int)-(k:Int)))))]) (fun k=> [(1000, .box [.eX v .u8 b,aO ((B7 (nk c) k).c.i:Int),aO (B7 (nk c) k).c.h]),(3, .box [aO (B7 (nk c) k).a.rows, .own 61]),(61, .arr .aN (B7 (nk c) k).a.rounds)]) (fun k=>(Cz c)-k) 0 (fun k=>rfl) (Nat.zero_le _) rfl ?_)
 intro k hk
 have ah5:Cz c≤10:=by unfold Cz;omega
 obtain⟨QE,Cl⟩:=M3 (nk c) (by show 1+aV c 3≤64;omega) ⟨Nat.zero_le _,fun y hy=>by cases hy⟩ k
 have hr1:(B7 (nk c) k).a.rows=1+aV c 3:=Cl
 have hbk:(B7 (nk c) k).c.b=b:=by rw[UG];show(aA (aA c 3) 4).b=b;rw[aQ,aQ];exact hcb
 have hsz:eJ (B7 (nk c) k).a≤1048576:=Nat.le_trans (qR ez 1664 8 _ (fun y hy=>rm (Ai (QE.2 y hy))) QE.1) (by decide)
 have Cw:dL List.length (FM (B7 (nk c) k).c (B7 (nk c) k).a.rows.toNat)≤1048576:=Nat.le_trans (rm (Nd (B7 (nk c) k).c (k:=(B7 (nk c) k).a.rows.toNat) (by omega))) (by decide)
 refine aa (aq X2 [0,2,3,4,5,16] rfl ?_)
 refine ah rfl ?_ ?_<;>intro hb0
 ·try simp only[aP]at hb0
  have hsb:IntKind.i64.wrap (((Cz c:Nat):Int)-(k:Int)-1)=((Cz c:Nat):Int)-((k+1:Nat):Int):=by rw[bV (by omega)];omega
  refine an (aa (au (aa ?_)))
  have t1:=(lp v ((B7 (nk c) k).c) ((B7 (nk c) k).a.rows) b hbk hb (by omega))
  have t2:=(Ak ((B7 (nk c) k).a) ((B7 (nk c) k).r) (⟨FM (B7 (nk c) k).c (B7 (nk c) k).a.rows.toNat⟩:DB) hsz Cw)
  refine bu X2 [(26,150)] [(800025,⟨true,bF t1⟩),(700025,⟨true, .agg [.ptr 1000 1000]:: .agg [.ptr 21 121]::bG t1⟩),(26,⟨true,bJ t2⟩)] [0,2,3,4,5,6] [] 6111 15 MO (by kernel_rfl) rfl (by kernel_rfl) (by(with_reducible and_intros);(iterate 2 all_goals try first|exact⟨⟩|exact t1|exact t2);all_goals first|exact rfl) (aC X2 [0,2,3,4,5] rfl (by trivial) (bl 151 61 rfl ?_))
  have t1:=(aF v (Lj (B7 (nk c) k).c (B7 (nk c) k).a.rows.toNat) 2 b (by rw[Hf];exact hbk) hb)
  refine aE X2 [] [(800033,⟨true,bF t1⟩),(700033,⟨true, .agg [.ptr 1000 1000]:: .agg []::bG t1⟩)] [0,2,3,4,5] [] rfl (by(with_reducible and_intros)<;>first|exact⟨⟩|exact t1|exact rfl) (bt X2 [0,2,3,4,5] rfl ?_)
  refine⟨k+1,by omega,by omega,?_⟩
  rw[hsb]
  try rfl
 ·try simp only[aP]at hb0
  have hkn:k=Cz c:=by omega
  exact aK (aC X2 [2] rfl (by trivial) (aj (aY rfl (by and_intros<;>first|exact⟨⟩| (rw[hkn];rfl;done)| (first|rfl| (rw[hkn];rfl);done)))))
theorem F2(v:Value)(c:cu)(b:List UInt8)(hcb:c.b=b)(hb:b.length≤1048576):dA ty Tryz.prog 173 [(1000, .box [.eX v .u8 b,aO (c.i:Int),aO c.h])] [.a (.ptr 1000 0)] [(1000, .box [.eX v .u8 b,aO ((IW c).i:Int),aO (IW c).h]),(61, .arr .aN (Fw c).rounds)] [.agg [aO (Fw c).rows, .own 61]]:=by
 refine cq X2 call173 func173 rfl rfl (by decide) ntmps173 (by simp) rfl ?_
 intro zb
 obtain⟨QE,_⟩:=UH c
 have Aq:=QE.1
 refine aq X2 [0,2] rfl (aa ?_)
 have t1:=(Am v c b hcb hb)
 refine aE X2 [] [(800005,⟨true,bF t1⟩),(700005,⟨true, .agg [.ptr 1000 1000]:: .agg [.ptr 61 61]::bG t1⟩)] [0,2,3] [] rfl (by(with_reducible and_intros)<;>first|exact⟨⟩|exact t1|exact rfl) (aa (aa ?_))
 have t1:=(aF v ((qm c).c) 10 b (by rw[Fv];exact hcb) hb)
 refine aE X2 [] [(800007,⟨true,bF t1⟩),(700007,⟨true, .agg [.ptr 1000 1000]:: .agg []::bG t1⟩)] [0,2,3,7] [] rfl (by(with_reducible and_intros)<;>first|exact⟨⟩|exact t1|exact rfl) (au (aq X2 [0,2,3,7,8] rfl ?_))
 refine ah rfl ?_ ?_<;>intro hb0
 ·try simp only[aP]at hb0
  have hX:Fw c=⟨([0,IntKind.i64.wrap ((qm c).a.rows+1),65]:List Int).getD (aV (aA (qm c).c 10) 3).toNat (aI .int),(qm c).a.rounds⟩:=if_pos hb0
  have hN:IW c=aA (aA (qm c).c 10) 3:=if_pos hb0
  have t1:=(cw v (aA (qm c).c 10) [0,IntKind.i64.wrap ((qm c).a.rows+1),65] b (by rw[aQ,Fv];exact hcb) hb (by simp))
  refine aE X2 [] [(800015,⟨true,bF t1⟩),(700015,⟨true, .agg [.ptr 1000 1000]:: .agg []::bG t1⟩)] [2,3] [] rfl (by(repeat' with_reducible first|exact aL|refine aS ?_ ?_|apply And.intro)<;>first|exact t1|exact rfl|exact⟨rfl,bn _ (by decide)⟩) ?_
  exact aC X2 [2] rfl (by trivial) (aj (aY rfl (by and_intros<;>first|exact⟨⟩| (rw[hX];rfl;done)| (first|rfl| (rw[hN];done)| (rw[hN];rfl)| (rw[hX];done)| (rw[hX];rfl);done))))
 ·try simp only[aP]at hb0
  refine aq X2 [0,2,3,17] rfl ?_
  refine ah rfl ?_ ?_<;>intro aW
  ·try simp only[aP]at aW
   have hX:Fw c=⟨(qm c).a.rows,(qm c).a.rounds++ [⟨([-1,0,100000,100001]:List Int).getD (aV (aA (qm c).c 10) 4).toNat (aI .int),UD (aA (aA (qm c).c 10) 4)⟩]⟩:=(if_neg hb0).trans (if_pos aW)
   have hN:IW c=Vv (aA (aA (qm c).c 10) 4):=(if_neg hb0).trans (if_pos aW)
   have t1:=(cw v (aA (qm c).c 10) [-1,0,100000,100001] b (by rw[aQ,Fv];exact hcb) hb (by decide))
   have t2:=(Al v (aA (aA (qm c).c 10) 4) b (by rw[aQ,aQ,Fv];exact hcb) hb)
   refine bu X2 [(28,61)] [(800023,⟨true,bF t1⟩),(700023,⟨true, .agg [.ptr 1000 1000]:: .agg []::bG t1⟩),(800025,⟨true,bF t2⟩),(700025,⟨true, .agg [.ptr 1000 1000]:: .agg [.ptr 21 121]::bG t2⟩),(500027,⟨true,[]⟩)] [2,3] [] 1455 11 MO (by kernel_rfl) rfl (by kernel_rfl) (by(repeat' with_reducible first|exact aL|refine aS ?_ ?_|apply And.intro);(iterate 2 all_goals try first|exact t1|exact t2);all_goals first|exact rfl|exact⟨rfl,bn _ (by decide)⟩| (simp only[dO,maxLen,lens];omega)) ?_
   exact aC X2 [2] rfl (by trivial) (aj (aY rfl (by and_intros<;>first|exact⟨⟩| (rw[hX];done)| (first|rfl| (rw[hN];done)| (rw[hN];rfl)| (rw[hX];done)| (rw[hX];rfl);done))))
  ·try simp only[aP]at aW
   have hX:Fw c=(qm c).a:=(if_neg hb0).trans (if_neg aW)
   have hN:IW c=aA (qm c).c 10:=(if_neg hb0).trans (if_neg aW)
   exact an (aC X2 [2] rfl (by trivial) (aj (aY rfl (by and_intros<;>first|exact⟨⟩| (rw[hX];done)| (first|rfl| (rw[hN];done)| (rw[hN];rfl)| (rw[hX];done)| (rw[hX];rfl);done)))))
end
section
set_option maxRecDepth 100000
set_option maxHeartbeats 2000000 in
theorem BG(v:Value)(c:cu)(b:List UInt8)(hcb:c.b=b)(hb:b.length≤1048576):dA ty Tryz.prog 240 [(1000, .box [.eX v .u8 b,aO (c.i:Int),aO c.h])] [.a (.ptr 1000 0)] [(1000, .box [.eX v .u8 b,aO ((dN c).c.i:Int),aO (dN c).c.h]),(23, .arr .aR (dN c).s.received)] [.agg [aO (dN c).s.id,aO (dN c).s.rows,aO (dN c).s.round, .own 23,aO (dN c).s.behavior]]:=by
 refine cq X2 call240 func240 rfl rfl (by decide) ntmps240 (by simp) rfl ?_
 intro zb
 have q0:=cS c (n:=3) (by decide)
 have q1:=cS (aA c 3) (n:=4) (by decide)
 have hw:IntKind.i64.wrap (1+aV (aA c 3) 4)=1+aV (aA c 3) 4:=bV (by omega)
 have hkb:0≤(QH.getD (aV (aA (aA c 3) 4) (QH.length:Int)).toNat (aI .int))∧(QH.getD (aV (aA (aA c 3) 4) (QH.length:Int)).toNat (aI .int))≤3:=Aj (P:=fun x:Int=>0≤x∧x≤3) (by decide) (by decide) _
 have Sh:newS (aV c 3) (1+aV (aA c 3) 4) (QH.getD (aV (aA (aA c 3) 4) (QH.length:Int)).toNat (aI .int))=⟨aV c 3,1+aV (aA c 3) 4,0,[],(QH.getD (aV (aA (aA c 3) 4) (QH.length:Int)).toNat (aI .int))⟩:=by rw[newS,if_pos (by simp only[Cq,Bool.and_eq_true,cL];omega)]
 have YG:aV (aA (CB c) 9) 5=((CC c:Nat):Int)-((0:Nat):Int):=by have:=BC (aA (CB c) 9) 5;unfold CC;omega
 have hn4:=UZ c
 have hab:(CB c).b=b:=by unfold CB;rw[aQ,aQ,aQ];exact hcb
 refine aq X2 [0,2] rfl (aa ?_)
 have t1:=(aF v c 3 b hcb hb)
 have t2:=(aF v (aA c 3) 4 b (by rw[aQ];exact hcb) hb)
 have t3:=(cw v (aA (aA c 3) 4) QH b (by rw[aQ,aQ];exact hcb) hb (by decide))
 have t4:=(l5 (aV c 3) (IntKind.i64.wrap (1+aV (aA c 3) 4)) (QH.getD (aV (aA (aA c 3) 4) (QH.length:Int)).toNat (aI .int)))
 refine aE X2 [(15,20)] [(800008,⟨true,bF t1⟩),(700008,⟨true, .agg [.ptr 1000 1000]:: .agg []::bG t1⟩),(800010,⟨true,bF t2⟩),(700010,⟨true, .agg [.ptr 1000 1000]:: .agg []::bG t2⟩),(800014,⟨true,bF t3⟩),(700014,⟨true, .agg [.ptr 1000 1000]:: .agg []::bG t3⟩),(15,⟨true,bJ t4⟩)] [0,2,3] [] rfl (by(repeat' with_reducible first|exact aL|refine aS ?_ ?_|apply And.intro);(iterate 4 all_goals try first|exact t1|exact t2|exact t3|exact t4);all_goals first|exact rfl|exact⟨rfl,bn _ (by decide)⟩) ?_
 rw[hw]
 rw[Sh]
 refine aa ?_
 have t1:=(aF v (CB c) 9 b hab hb)
 refine aE X2 [] [(800017,⟨true,bF t1⟩),(700017,⟨true, .agg [.ptr 1000 1000]:: .agg []::bG t1⟩)] [0,2,3] [] rfl (by(with_reducible and_intros)<;>first|exact⟨⟩|exact t1|exact rfl) (aa (aa ?_))
 have t1:=(aF v (aA (CB c) 9) 5 b (by rw[aQ];exact hab) hb)
 refine aE X2 [] [(800020,⟨true,bF t1⟩),(700020,⟨true, .agg [.ptr 1000 1000]:: .agg []::bG t1⟩)] [0,2,3,4] [] rfl (by(with_reducible and_intros)<;>first|exact⟨⟩|exact t1|exact rfl) ?_
 rw[YG]
 refine au (aG (fun k=>k≤(CC c)) (fun k:Nat=> [(4, .one ((az (((CC c:Nat):Int)-(k:Int)))))]) (fun k=> [(1000, .box [.eX v .u8 b,aO ((kB (l7 c) k).c.i:Int),aO (kB (l7 c) k).c.h]),(3, .box [aO (kB (l7 c) k).s.id,aO (kB (l7 c) k).s.rows,aO (kB (l7 c) k).s.round, .own 23,aO (kB (l7 c) k).s.behavior]),(23, .arr .aR (kB (l7 c) k).s.received)]) (fun k=>(CC c)-k) 0 (fun k=>rfl) (Nat.zero_le _) rfl ?_)
 intro k hk
 have hpb:(kB (l7 c) k).c.b=b:=by rw[Nc,U0];exact hcb
 obtain⟨hsN,hr1,hr4⟩:=U2 c k
 have hz:=aaR hsN (by omega)
 have Cw:dL List.length (FM (aA (kB (l7 c) k).c 6) (kB (l7 c) k).s.rows.toNat)≤1048576:=Nat.le_trans (rm (Nd (aA (kB (l7 c) k).c 6) (k:=(kB (l7 c) k).s.rows.toNat) (by omega))) (by decide)
 refine aa (aq X2 [0,2,3,4,22] rfl ?_)
 refine ah rfl ?_ ?_<;>intro hb0
 ·try simp only[aP]at hb0
  have hsb:IntKind.i64.wrap (((CC c:Nat):Int)-(k:Int)-1)=((CC c:Nat):Int)-((k+1:Nat):Int):=by rw[bV (by omega)];omega
  refine an (aa (au (aa ?_)))
  have t1:=(aF v ((kB (l7 c) k).c) 6 b hpb hb)
  have t2:=(lp v (aA (kB (l7 c) k).c 6) ((kB (l7 c) k).s.rows) b (by rw[aQ];exact hpb) hb (by omega))
  have t3:=(tL ((kB (l7 c) k).s) (aV (kB (l7 c) k).c 6) (⟨FM (aA (kB (l7 c) k).c 6) (kB (l7 c) k).s.rows.toNat⟩:DB) hz Cw)
  refine bu X2 [(33,140)] [(800028,⟨true,bF t1⟩),(700028,⟨true, .agg [.ptr 1000 1000]:: .agg []::bG t1⟩),(800032,⟨true,bF t2⟩),(700032,⟨true, .agg [.ptr 1000 1000]:: .agg [.ptr 21 121]::bG t2⟩),(33,⟨true,bJ t3⟩)] [0,2,3,4,5] [] 12219 107 MO (by kernel_rfl) rfl (by kernel_rfl) (by(with_reducible and_intros);(iterate 3 all_goals try first|exact⟨⟩|exact t1|exact t2|exact t3);all_goals first|exact rfl) (eO X2 [0,2,3,4] rfl (by trivial) (bl 143 23 rfl (bt X2 [0,2,3,4] rfl ?_)))
  refine⟨k+1,by omega,by omega,?_⟩
  rw[hsb]
  try rfl
 ·try simp only[aP]at hb0
  have hkn:k=CC c:=by omega
  exact aK (aC X2 [2] rfl (by trivial) (aj (aY rfl (by and_intros<;>first|exact⟨⟩| (first| (simp only[dN,hkn];done)|with_reducible rfl;done)))))
set_option maxHeartbeats 2000000 in
theorem F3(v:Value)(c:cu)(b:List UInt8)(hcb:c.b=b)(hb:b.length≤1048576):dA ty Tryz.prog 175 [(1000, .box [.eX v .u8 b,aO (c.i:Int),aO c.h])] [.a (.ptr 1000 0)] [(1000, .box [.eX v .u8 b,aO ((tK c).i:Int),aO (tK c).h]),(23, .arr .aR (oV c).received)] [.agg [aO (oV c).id,aO (oV c).rows,aO (oV c).round, .own 23,aO (oV c).behavior]]:=by
 refine cq X2 call175 func175 rfl rfl (by decide) ntmps175 (by simp) rfl ?_
 intro zb
 obtain⟨hrl,_⟩:=U3 c
 refine aq X2 [0,2] rfl (aa ?_)
 have t1:=(BG v c b hcb hb)
 refine aE X2 [] [(800005,⟨true,bF t1⟩),(700005,⟨true, .agg [.ptr 1000 1000]:: .agg [.ptr 23 23]::bG t1⟩)] [0,2,3] [] rfl (by(with_reducible and_intros)<;>first|exact⟨⟩|exact t1|exact rfl) (aa (aa ?_))
 have t1:=(aF v ((dN c).c) 12 b (by rw[U1];exact hcb) hb)
 refine aE X2 [] [(800007,⟨true,bF t1⟩),(700007,⟨true, .agg [.ptr 1000 1000]:: .agg []::bG t1⟩)] [0,2,3,7] [] rfl (by(with_reducible and_intros)<;>first|exact⟨⟩|exact t1|exact rfl) (au (aq X2 [0,2,3,7,8] rfl ?_))
 refine ah rfl ?_ ?_<;>intro hb0
 ·try simp only[aP]at hb0
  have hX:oV c=⟨([-1,3,4]:List Int).getD (aV (gP c) 3).toNat (aI .int),(dN c).s.rows,(dN c).s.round,(dN c).s.received,(dN c).s.behavior⟩:=(by unfold oV;simp only[if_pos (show eR c=0 from hb0)])
  have hN:tK c=aA (gP c) 3:=(by unfold tK;simp only[if_pos (show eR c=0 from hb0)])
  have t1:=(cw v (gP c) [-1,3,4] b (by rw[sK];exact hcb) hb (by simp))
  refine aE X2 [] [(800012,⟨true,bF t1⟩),(700012,⟨true, .agg [.ptr 1000 1000]:: .agg []::bG t1⟩)] [2,3] [] rfl (by(repeat' with_reducible first|exact aL|refine aS ?_ ?_|apply And.intro)<;>first|exact t1|exact rfl|exact⟨rfl,bn _ (by decide)⟩) ?_
  rw[show(([-1,3,4]:List Int).length:Int)=3 from rfl]
  exact aC X2 [2] rfl (by trivial) (aj (aY rfl (by and_intros<;>first|exact⟨⟩| (first| (simp only[hX,hN,gP];done)|with_reducible rfl;done))))
 ·try simp only[aP]at hb0
  refine aq X2 [0,2,3,7,14] rfl ?_
  refine ah rfl ?_ ?_<;>intro aW
  ·try simp only[aP]at aW
   have hX:oV c=⟨(dN c).s.id,([0,IntKind.i64.wrap ((dN c).s.rows+1),65]:List Int).getD (aV (gP c) 3).toNat (aI .int),(dN c).s.round,(dN c).s.received,(dN c).s.behavior⟩:=(by unfold oV;simp only[if_neg (show¬eR c=0 from hb0),if_pos (show eR c=1 from aW)])
   have hN:tK c=aA (gP c) 3:=(by unfold tK;simp only[if_neg (show¬eR c=0 from hb0),if_pos (show eR c=1 from aW)])
   have t1:=(cw v (gP c) [0,IntKind.i64.wrap ((dN c).s.rows+1),65] b (by rw[sK];exact hcb) hb (by simp))
   refine aE X2 [] [(800021,⟨true,bF t1⟩),(700021,⟨true, .agg [.ptr 1000 1000]:: .agg []::bG t1⟩)] [2,3] [] rfl (by(repeat' with_reducible first|exact aL|refine aS ?_ ?_|apply And.intro)<;>first|exact t1|exact rfl|exact⟨rfl,bn _ (by decide)⟩) ?_
   rw[show(([0,IntKind.i64.wrap ((dN c).s.rows+1),65]:List Int).length:Int)=3 from rfl]
   exact aC X2 [2] rfl (by trivial) (aj (aY rfl (by and_intros<;>first|exact⟨⟩| (first| (simp only[hX,hN,gP];done)|with_reducible rfl;done))))
  ·try simp only[aP]at aW
   refine aq X2 [0,2,3,7,23] rfl ?_
   refine ah rfl ?_ ?_<;>intro bz
   ·try simp only[aP]at bz
    have hX:oV c=⟨(dN c).s.id,(dN c).s.rows,([-1,100000,100001]:List Int).getD (aV (gP c) 3).toNat (aI .int),(dN c).s.received,(dN c).s.behavior⟩:=(by unfold oV;simp only[if_neg (show¬eR c=0 from hb0),if_neg (show¬eR c=1 from aW),if_pos (show eR c=2 from bz)])
    have hN:tK c=aA (gP c) 3:=(by unfold tK;simp only[if_neg (show¬eR c=0 from hb0),if_neg (show¬eR c=1 from aW),if_pos (show eR c=2 from bz)])
    have t1:=(cw v (gP c) [-1,100000,100001] b (by rw[sK];exact hcb) hb (by simp))
    refine aE X2 [] [(800027,⟨true,bF t1⟩),(700027,⟨true, .agg [.ptr 1000 1000]:: .agg []::bG t1⟩)] [2,3] [] rfl (by(repeat' with_reducible first|exact aL|refine aS ?_ ?_|apply And.intro)<;>first|exact t1|exact rfl|exact⟨rfl,bn _ (by decide)⟩) ?_
    rw[show(([-1,100000,100001]:List Int).length:Int)=3 from rfl]
    exact aC X2 [2] rfl (by trivial) (aj (aY rfl (by and_intros<;>first|exact⟨⟩| (first| (simp only[hX,hN,gP];done)|with_reducible rfl;done))))
   ·try simp only[aP]at bz
    refine aq X2 [0,2,3,7,29] rfl ?_
    refine ah rfl ?_ ?_<;>intro dD
    ·try simp only[aP]at dD
     have hX:oV c=⟨(dN c).s.id,(dN c).s.rows,(dN c).s.round,(dN c).s.received,([-1,4]:List Int).getD (aV (gP c) 2).toNat (aI .int)⟩:=(by unfold oV;simp only[if_neg (show¬eR c=0 from hb0),if_neg (show¬eR c=1 from aW),if_neg (show¬eR c=2 from bz),if_pos (show eR c=3 from dD)])
     have hN:tK c=aA (gP c) 2:=(by unfold tK;simp only[if_neg (show¬eR c=0 from hb0),if_neg (show¬eR c=1 from aW),if_neg (show¬eR c=2 from bz),if_pos (show eR c=3 from dD)])
     have t1:=(cw v (gP c) [-1,4] b (by rw[sK];exact hcb) hb (by simp))
     refine aE X2 [] [(800033,⟨true,bF t1⟩),(700033,⟨true, .agg [.ptr 1000 1000]:: .agg []::bG t1⟩)] [2,3] [] rfl (by(repeat' with_reducible first|exact aL|refine aS ?_ ?_|apply And.intro)<;>first|exact t1|exact rfl|exact⟨rfl,bn _ (by decide)⟩) ?_
     rw[show(([-1,4]:List Int).length:Int)=2 from rfl]
     exact aC X2 [2] rfl (by trivial) (aj (aY rfl (by and_intros<;>first|exact⟨⟩| (first| (simp only[hX,hN,gP];done)|with_reducible rfl;done))))
    ·try simp only[aP]at dD
     refine aq X2 [0,2,3,35] rfl ?_
     refine ah rfl ?_ ?_<;>intro kS
     ·try simp only[aP]at kS
      have hX:oV c=⟨(dN c).s.id,(dN c).s.rows,(dN c).s.round,(dN c).s.received++ [⟨([-1,0,7,8]:List Int).getD (aV (gP c) 4).toNat (aI .int),UD (aA (gP c) 4)⟩],(dN c).s.behavior⟩:=(by unfold oV;simp only[if_neg (show¬eR c=0 from hb0),if_neg (show¬eR c=1 from aW),if_neg (show¬eR c=2 from bz),if_neg (show¬eR c=3 from dD),if_pos (show eR c=4 from kS)])
      have hN:tK c=Vv (aA (gP c) 4):=(by unfold tK;simp only[if_neg (show¬eR c=0 from hb0),if_neg (show¬eR c=1 from aW),if_neg (show¬eR c=2 from bz),if_neg (show¬eR c=3 from dD),if_pos (show eR c=4 from kS)])
      have t1:=(cw v (gP c) [-1,0,7,8] b (by rw[sK];exact hcb) hb (by simp))
      have t2:=(Al v (aA (gP c) 4) b (by rw[aQ,sK];exact hcb) hb)
      refine bu X2 [(46,23)] [(800041,⟨true,bF t1⟩),(700041,⟨true, .agg [.ptr 1000 1000]:: .agg []::bG t1⟩),(800043,⟨true,bF t2⟩),(700043,⟨true, .agg [.ptr 1000 1000]:: .agg [.ptr 21 121]::bG t2⟩),(500045,⟨true,[]⟩)] [2,3] [] 1455 11 MO (by kernel_rfl) rfl (by kernel_rfl) (by(repeat' with_reducible first|exact aL|refine aS ?_ ?_|apply And.intro);(iterate 2 all_goals try first|exact t1|exact t2);all_goals first|exact rfl|exact⟨rfl,bn _ (by decide)⟩| (simp only[dO,maxLen,lens];omega)) ?_
      rw[show(([-1,0,7,8]:List Int).length:Int)=4 from rfl]
      exact aC X2 [2] rfl (by trivial) (aj (aY rfl (by and_intros<;>first|exact⟨⟩| (first| (simp only[hX,hN,gP];done)|with_reducible rfl;done))))
     ·try simp only[aP]at kS
      have hX:oV c=(dN c).s:=(by unfold oV;simp only[if_neg (show¬eR c=0 from hb0),if_neg (show¬eR c=1 from aW),if_neg (show¬eR c=2 from bz),if_neg (show¬eR c=3 from dD),if_neg (show¬eR c=4 from kS)])
      have hN:tK c=gP c:=(by unfold tK;simp only[if_neg (show¬eR c=0 from hb0),if_neg (show¬eR c=1 from aW),if_neg (show¬eR c=2 from bz),if_neg (show¬eR c=3 from dD),if_neg (show¬eR c=4 from kS)])
      exact an (aC X2 [2] rfl (by trivial) (aj (aY rfl (by and_intros<;>first|exact⟨⟩| (first| (simp only[hX,hN,gP];done)|with_reducible rfl;done)))))
end
section
set_option maxRecDepth 100000
set_option maxHeartbeats 1000000 in
theorem rq(v:Value)(c:cu)(b:List UInt8)(hcb:c.b=b)(hb:b.length≤1048576):dA ty Tryz.prog 291 [(1000, .box [.eX v .u8 b,aO (c.i:Int),aO c.h])] [.a (.ptr 1000 0)] [(1000, .box [.eX v .u8 b,aO ((yl c).i:Int),aO (yl c).h]),(24, .arr (.sl .u8) (ck c).aJ),(26, .arr (.sl .u8) (ck c).inbox)] [.agg [aO (ck c).id,aO (ck c).ct,aO (ck c).key,aO (ck c).seed, .own 24,aO (ck c).sent, .own 26,aO (ck c).next]]:=by
 refine cq X2 call291 func291 rfl rfl (by decide) ntmps291 (by simp) rfl ?_
 intro zb
 have q0:=cS c (n:=4) (by decide)
 have q1:=cS (aA c 4) (n:=3) (by decide)
 have q2:=cS (aA (aA c 4) 3) (n:=99) (by decide)
 have p0:=cS (aA (n4 c 4 3) 2) (n:=3) (by decide)
 have p1:=cS (aA (aA (n4 c 4 3) 2) 3) (n:=4) (by decide)
 have p2:=cS (aA (aA (aA (n4 c 4 3) 2) 3) 4) (n:=99) (by decide)
 have w0:(IntKind.i64.wrap (4+aV (aA c 4) 3))=4+aV (aA c 4) 3:=bV (by omega)
 have w1:(IntKind.i64.wrap (1+aV (aA (aA c 4) 3) 99))=1+aV (aA (aA c 4) 3) 99:=bV (by omega)
 have w2:(IntKind.i64.wrap (4+aV (aA (n4 c 4 3) 2) 3))=4+aV (aA (n4 c 4 3) 2) 3:=bV (by omega)
 have w3:(IntKind.i64.wrap (1+aV (aA (aA (aA (n4 c 4 3) 2) 3) 4) 99))=1+aV (aA (aA (aA (n4 c 4 3) 2) 3) 4) 99:=bV (by omega)
 have hv:(yj c).b=b:=by unfold yj;rw[aQ,IX];exact hcb
 have fP:0≤Vw.getD (aV (yj c) 4).toNat (aI .int)∧Vw.getD (aV (yj c) 4).toNat (aI .int)≤16:=Aj (P:=fun x:Int=>0≤x∧x≤16) (by decide) (by decide) _
 have YG:Vw.getD (aV (yj c) (Vw.length:Int)).toNat (aI .int)=((tJ c:Nat):Int)-((0:Nat):Int):=by show Vw.getD (aV (yj c) 4).toNat (aI .int)=_;unfold tJ;omega
 have ah8:=UL c
 have hm2:=UM c
 have hqb:(gw c).c.b=b:=by unfold gw;rw[UK];show(aA (yj c) 4).b=b;rw[aQ];exact hv
 have IU:(gm c).b=b:=by unfold gm;rw[aQ];exact hqb
 have hmN:aV (gm c) 3=((sH c:Nat):Int)-((0:Nat):Int):=by have:=BC (gm c) 3;unfold sH;omega
 have ah9:=(Dc c).1.1
 refine aq X2 [0,2] rfl (aa ?_)
 have t1:=(aF v c 4 b hcb hb)
 have t2:=(aF v (aA c 4) 3 b (by rw[aQ];exact hcb) hb)
 have t3:=(aF v (aA (aA c 4) 3) 99 b (by rw[aQ,aQ];exact hcb) hb)
 have t4:=(aF v (aA (aA (aA c 4) 3) 99) 999 b (by rw[aQ,aQ,aQ];exact hcb) hb)
 have t5:=(l6 (aV c 4) (IntKind.i64.wrap (4+aV (aA c 4) 3)) (IntKind.i64.wrap (1+aV (aA (aA c 4) 3) 99)) (aV (aA (aA (aA c 4) 3) 99) 999) (by omega) (by omega) (by omega) (by omega))
 refine aE X2 [(16,20)] [(800007,⟨true,bF t1⟩),(700007,⟨true, .agg [.ptr 1000 1000]:: .agg []::bG t1⟩),(800009,⟨true,bF t2⟩),(700009,⟨true, .agg [.ptr 1000 1000]:: .agg []::bG t2⟩),(800012,⟨true,bF t3⟩),(700012,⟨true, .agg [.ptr 1000 1000]:: .agg []::bG t3⟩),(800015,⟨true,bF t4⟩),(700015,⟨true, .agg [.ptr 1000 1000]:: .agg []::bG t4⟩),(16,⟨true,bJ t5⟩)] [0,2,3] [] rfl (by(with_reducible and_intros);(iterate 5 all_goals try first|exact⟨⟩|exact t1|exact t2|exact t3|exact t4|exact t5);all_goals first|exact rfl) ?_
 rw[w0,w1]
 refine aa (aa ?_)
 have t1:=(ql v (n4 c 4 3) 2 b (by rw[UJ];exact hcb) hb)
 refine aE X2 [] [(800018,⟨true,bF t1⟩),(700018,⟨true, .agg [.ptr 1000 1000]:: .agg []::bG t1⟩)] [0,2,3,18] [] rfl (by(with_reducible and_intros)<;>first|exact⟨⟩|exact t1|exact rfl) ?_
 refine ah rfl ?_ ?_<;>intro hb0
 ·try simp only[aP]at hb0
  have hs:oN c=⟨n4 (aA (n4 c 4 3) 2) 3 4,adq (aA (n4 c 4 3) 2)⟩:=if_pos (by simpa using hb0)
  have hzb:(aA (n4 c 4 3) 2).b=b:=by rw[aQ,UJ];exact hcb
  generalize (aA (n4 c 4 3) 2)=z at hs hzb p0 p1 p2 w2 w3 ⊢
  have t1:=(aF v z 3 b hzb hb)
  have t2:=(aF v (aA z 3) 4 b (by rw[aQ];exact hzb) hb)
  have t3:=(aF v (aA (aA z 3) 4) 99 b (by rw[aQ,aQ];exact hzb) hb)
  have t4:=(aF v (aA (aA (aA z 3) 4) 99) 999 b (by rw[aQ,aQ,aQ];exact hzb) hb)
  have t5:=(l6 (IntKind.i64.wrap (4+aV z 3)) (aV (aA z 3) 4) (IntKind.i64.wrap (1+aV (aA (aA z 3) 4) 99)) (aV (aA (aA (aA z 3) 4) 99) 999) (by omega) (by omega) (by omega) (by omega))
  refine aE X2 [(29,40)] [(800020,⟨true,bF t1⟩),(700020,⟨true, .agg [.ptr 1000 1000]:: .agg []::bG t1⟩),(800023,⟨true,bF t2⟩),(700023,⟨true, .agg [.ptr 1000 1000]:: .agg []::bG t2⟩),(800025,⟨true,bF t3⟩),(700025,⟨true, .agg [.ptr 1000 1000]:: .agg []::bG t3⟩),(800028,⟨true,bF t4⟩),(700028,⟨true, .agg [.ptr 1000 1000]:: .agg []::bG t4⟩),(29,⟨true,bJ t5⟩)] [0,2,3] [] rfl (by(with_reducible and_intros);(iterate 5 all_goals try first|exact⟨⟩|exact t1|exact t2|exact t3|exact t4|exact t5);all_goals first|exact rfl) (bl 44 24 rfl (bl 46 26 rfl ?_))
  rw[w2,w3]
  rw[show(aA (aA (aA (aA z 3) 4) 99) 999)=(oN c).c from by rw[hs];rfl]
  rw[show 4+aV z 3=(oN c).x.id from by rw[hs];rfl]
  rw[show aV (aA z 3) 4=(oN c).x.ct from by rw[hs];rfl]
  rw[show 1+aV (aA (aA z 3) 4) 99=(oN c).x.key from by rw[hs];rfl]
  rw[show aV (aA (aA (aA z 3) 4) 99) 999=(oN c).x.seed from by rw[hs];rfl]
  refine aa ?_
  have t1:=(aF v ((oN c).c) 9 b (by rw[IX];exact hcb) hb)
  refine aE X2 [] [(800031,⟨true,bF t1⟩),(700031,⟨true, .agg [.ptr 1000 1000]:: .agg []::bG t1⟩)] [0,2,3] [] rfl (by(with_reducible and_intros)<;>first|exact⟨⟩|exact t1|exact rfl) (aa (aa ?_))
  have t1:=(cw v (yj c) Vw b hv hb (by decide))
  refine aE X2 [] [(800035,⟨true,bF t1⟩),(700035,⟨true, .agg [.ptr 1000 1000]:: .agg []::bG t1⟩)] [0,2,3,4] [] rfl (by(repeat' with_reducible first|exact aL|refine aS ?_ ?_|apply And.intro)<;>first|exact t1|exact rfl|exact⟨rfl,bn _ (by decide)⟩) ?_
  rw[YG]
  refine au (aG (fun k=>k≤(tJ c)) (fun k:Nat=> [(4, .one ((az (((tJ c:Nat):Int)-(k:Int)))))]) (fun k=> [(1000, .box [.eX v .u8 b,aO ((qK (fE c) k).c.i:Int),aO (qK (fE c) k).c.h]),(3, .box [aO (qK (fE c) k).x.id,aO (qK (fE c) k).x.ct,aO (qK (fE c) k).x.key,aO (qK (fE c) k).x.seed, .own 24,aO (qK (fE c) k).x.sent, .own 26,aO (qK (fE c) k).x.next]),(24, .arr (.sl .u8) (qK (fE c) k).x.aJ),(26, .arr (.sl .u8) (qK (fE c) k).x.inbox)]) (fun k=>(tJ c)-k) 0 (fun k=>rfl) (Nat.zero_le _) rfl ?_)
  intro k hk
  have hkb:(qK (fE c) k).c.b=b:=by rw[UK];show(aA (yj c) 4).b=b;rw[aQ];exact hv
  have hq5:=cS (qK (fE c) k).c (n:=5) (by decide)
  have hqs:=UN c (k:=k) (by omega)
  have hqz:=qT hqs
  unfold cj at hqz
  have aa0:(tG (aA (qK (fE c) k).c 5) (aV (qK (fE c) k).c 5).toNat).length≤1048576:=by rw[iq];omega
  refine aa (aq X2 [0,2,3,4,37] rfl ?_)
  refine ah rfl ?_ ?_<;>intro aW
  ·try simp only[aP]at aW
   have hsb:IntKind.i64.wrap (((tJ c:Nat):Int)-(k:Int)-1)=((tJ c:Nat):Int)-((k+1:Nat):Int):=by rw[bV (by omega)];omega
   refine an (aa (au ?_))
   have t1:=(aF v ((qK (fE c) k).c) 5 b hkb hb)
   have t2:=(cz v (aA (qK (fE c) k).c 5) (aV (qK (fE c) k).c 5) b (by rw[aQ];exact hkb) hb (by omega))
   have t3:=(fU ((qK (fE c) k).x) (tG (aA (qK (fE c) k).c 5) (aV (qK (fE c) k).c 5).toNat) ⟨by omega,by omega⟩ aa0)
   refine bu X2 [(46,150)] [(800044,⟨true,bF t1⟩),(700044,⟨true, .agg [.ptr 1000 1000]:: .agg []::bG t1⟩),(800045,⟨true,bF t2⟩),(700045,⟨true, .agg [.ptr 1000 1000]:: .agg [.ptr 11 170]::bG t2⟩),(46,⟨true,bJ t3⟩)] [0,2,3,4] [] 487 11 MO (by kernel_rfl) rfl (by kernel_rfl) (by(with_reducible and_intros);(iterate 3 all_goals try first|exact⟨⟩|exact t1|exact t2|exact t3);all_goals first|exact rfl) (bl 154 24 rfl (bl 156 26 rfl (bt X2 [0,2,3,4] rfl ?_)))
   refine⟨k+1,by omega,by omega,?_⟩
   rw[hsb]
   try rfl
  ·try simp only[aP]at aW
   have hkn:k=tJ c:=by omega
   rw[show qK (fE c) k=gw c from by rw[hkn];rfl]
   refine aK (aa ?_)
   have t1:=(aF v ((gw c).c) (IntKind.i64.wrap (((gw c).x.aJ.length:Int)+1)) b hqb hb)
   refine aE X2 [] [(800054,⟨true,bF t1⟩),(700054,⟨true, .agg [.ptr 1000 1000]:: .agg []::bG t1⟩)] [0,2,3] [] rfl (by(with_reducible and_intros)<;>first|exact⟨⟩|exact t1|exact rfl) (aa (aa ?_))
   have t1:=(aF v (gm c) 3 b IU hb)
   refine aE X2 [] [(800057,⟨true,bF t1⟩),(700057,⟨true, .agg [.ptr 1000 1000]:: .agg []::bG t1⟩)] [0,2,3,5] [] rfl (by(with_reducible and_intros)<;>first|exact⟨⟩|exact t1|exact rfl) ?_
   rw[hmN]
   rw[show(gw c).x.inbox=(gw c).x.inbox++(s6 (aA (gm c) 3) 0).1 from (List.append_nil _).symm]
   refine au (aG (fun k1=>k1≤(sH c)) (fun k1:Nat=> [(5, .one ((az (((sH c:Nat):Int)-(k1:Int)))))]) (fun k1=> [(1000, .box [.eX v .u8 b,aO ((s6 (aA (gm c) 3) k1).2.i:Int),aO (s6 (aA (gm c) 3) k1).2.h]),(26, .arr (.sl .u8) ((gw c).x.inbox++(s6 (aA (gm c) 3) k1).1))]) (fun k1=>(sH c)-k1) 0 (fun k1=>rfl) (Nat.zero_le _) rfl ?_)
   intro k1 hk1
   have hib:(s6 (aA (gm c) 3) k1).2.b=b:=by rw[OX,aQ];exact IU
   have hi4:=cS (s6 (aA (gm c) 3) k1).2 (n:=4) (by decide)
   have hil:=(IY (aA (gm c) 3) k1).1
   have hi0:(gw c).x.inbox= []:=(Dc c).2
   have afP:(gw c).x.inbox.length=0:=by rw[hi0];rfl
   have hiz:((gw c).x.inbox++(s6 (aA (gm c) 3) k1).1).length≤2:=by rw[hi0];simp;omega
   refine aa (aq X2 [0,2,3,5,59] rfl ?_)
   refine ah rfl ?_ ?_<;>intro bz
   ·try simp only[aP]at bz
    have aa1:IntKind.i64.wrap (((sH c:Nat):Int)-(k1:Int)-1)=((sH c:Nat):Int)-((k1+1:Nat):Int):=by rw[bV (by omega)];omega
    have hap:(gw c).x.inbox++(s6 (aA (gm c) 3) (k1+1)).1=((gw c).x.inbox++(s6 (aA (gm c) 3) k1).1)++ [tG (aA (s6 (aA (gm c) 3) k1).2 4) (aV (s6 (aA (gm c) 3) k1).2 4).toNat]:=(List.append_assoc _ _ _).symm
    refine an (aa (au ?_))
    have t1:=(aF v ((s6 (aA (gm c) 3) k1).2) 4 b hib hb)
    have t2:=(cz v (aA (s6 (aA (gm c) 3) k1).2 4) (aV (s6 (aA (gm c) 3) k1).2 4) b (by rw[aQ];exact hib) hb (by omega))
    refine bu X2 [(69,26)] [(800066,⟨true,bF t1⟩),(700066,⟨true, .agg [.ptr 1000 1000]:: .agg []::bG t1⟩),(800067,⟨true,bF t2⟩),(700067,⟨true, .agg [.ptr 1000 1000]:: .agg [.ptr 11 170]::bG t2⟩),(500068,⟨true,[]⟩)] [0,2,3,5] [] 335 11 MO (by kernel_rfl) rfl (by kernel_rfl) (by(repeat' with_reducible first|exact aL|refine aS ?_ ?_|apply And.intro);(iterate 2 all_goals try first|exact t1|exact t2);all_goals first|exact rfl|exact⟨rfl,bn _ (by decide)⟩| (simp only[dO,maxLen,lens];omega)) ?_
    refine bt X2 [0,2,3,5] rfl ?_
    refine⟨k1+1,by omega,by omega,?_⟩
    rw[hap,aa1]
    try rfl
   ·try simp only[aP]at bz
    have aa2:k1=sH c:=by omega
    exact aK (aC X2 [2] rfl (by trivial) (aj (aY rfl (by and_intros<;>first|exact⟨⟩| (first| (simp only[ck,yl,aa2];done)|rfl;done)))))
 ·try simp only[aP]at hb0
  have hs:oN c=⟨(aA (n4 c 4 3) 2),adp c⟩:=if_neg (by simpa using hb0)
  rw[show(aA (n4 c 4 3) 2)=(oN c).c from by rw[hs]]
  rw[show aV c 4=(oN c).x.id from by rw[hs];rfl]
  rw[show 4+aV (aA c 4) 3=(oN c).x.ct from by rw[hs];rfl]
  rw[show 1+aV (aA (aA c 4) 3) 99=(oN c).x.key from by rw[hs];rfl]
  rw[show aV (aA (aA (aA c 4) 3) 99) 999=(oN c).x.seed from by rw[hs];rfl]
  refine an (aa ?_)
  have t1:=(aF v ((oN c).c) 9 b (by rw[IX];exact hcb) hb)
  refine aE X2 [] [(800031,⟨true,bF t1⟩),(700031,⟨true, .agg [.ptr 1000 1000]:: .agg []::bG t1⟩)] [0,2,3] [] rfl (by(with_reducible and_intros)<;>first|exact⟨⟩|exact t1|exact rfl) (aa (aa ?_))
  have t1:=(cw v (yj c) Vw b hv hb (by decide))
  refine aE X2 [] [(800035,⟨true,bF t1⟩),(700035,⟨true, .agg [.ptr 1000 1000]:: .agg []::bG t1⟩)] [0,2,3,4] [] rfl (by(repeat' with_reducible first|exact aL|refine aS ?_ ?_|apply And.intro)<;>first|exact t1|exact rfl|exact⟨rfl,bn _ (by decide)⟩) ?_
  rw[YG]
  refine au (aG (fun k=>k≤(tJ c)) (fun k:Nat=> [(4, .one ((az (((tJ c:Nat):Int)-(k:Int)))))]) (fun k=> [(1000, .box [.eX v .u8 b,aO ((qK (fE c) k).c.i:Int),aO (qK (fE c) k).c.h]),(3, .box [aO (qK (fE c) k).x.id,aO (qK (fE c) k).x.ct,aO (qK (fE c) k).x.key,aO (qK (fE c) k).x.seed, .own 24,aO (qK (fE c) k).x.sent, .own 26,aO (qK (fE c) k).x.next]),(24, .arr (.sl .u8) (qK (fE c) k).x.aJ),(26, .arr (.sl .u8) (qK (fE c) k).x.inbox)]) (fun k=>(tJ c)-k) 0 (fun k=>rfl) (Nat.zero_le _) rfl ?_)
  intro k hk
  have hkb:(qK (fE c) k).c.b=b:=by rw[UK];show(aA (yj c) 4).b=b;rw[aQ];exact hv
  have hq5:=cS (qK (fE c) k).c (n:=5) (by decide)
  have hqs:=UN c (k:=k) (by omega)
  have hqz:=qT hqs
  unfold cj at hqz
  have aa0:(tG (aA (qK (fE c) k).c 5) (aV (qK (fE c) k).c 5).toNat).length≤1048576:=by rw[iq];omega
  refine aa (aq X2 [0,2,3,4,37] rfl ?_)
  refine ah rfl ?_ ?_<;>intro aW
  ·try simp only[aP]at aW
   have hsb:IntKind.i64.wrap (((tJ c:Nat):Int)-(k:Int)-1)=((tJ c:Nat):Int)-((k+1:Nat):Int):=by rw[bV (by omega)];omega
   refine an (aa (au ?_))
   have t1:=(aF v ((qK (fE c) k).c) 5 b hkb hb)
   have t2:=(cz v (aA (qK (fE c) k).c 5) (aV (qK (fE c) k).c 5) b (by rw[aQ];exact hkb) hb (by omega))
   have t3:=(fU ((qK (fE c) k).x) (tG (aA (qK (fE c) k).c 5) (aV (qK (fE c) k).c 5).toNat) ⟨by omega,by omega⟩ aa0)
   refine bu X2 [(46,150)] [(800044,⟨true,bF t1⟩),(700044,⟨true, .agg [.ptr 1000 1000]:: .agg []::bG t1⟩),(800045,⟨true,bF t2⟩),(700045,⟨true, .agg [.ptr 1000 1000]:: .agg [.ptr 11 170]::bG t2⟩),(46,⟨true,bJ t3⟩)] [0,2,3,4] [] 487 11 MO (by kernel_rfl) rfl (by kernel_rfl) (by(with_reducible and_intros);(iterate 3 all_goals try first|exact⟨⟩|exact t1|exact t2|exact t3);all_goals first|exact rfl) (bl 154 24 rfl (bl 156 26 rfl (bt X2 [0,2,3,4] rfl ?_)))
   refine⟨k+1,by omega,by omega,?_⟩
   rw[hsb]
   try rfl
  ·try simp only[aP]at aW
   have hkn:k=tJ c:=by omega
   rw[show qK (fE c) k=gw c from by rw[hkn];rfl]
   refine aK (aa ?_)
   have t1:=(aF v ((gw c).c) (IntKind.i64.wrap (((gw c).x.aJ.length:Int)+1)) b hqb hb)
   refine aE X2 [] [(800054,⟨true,bF t1⟩),(700054,⟨true, .agg [.ptr 1000 1000]:: .agg []::bG t1⟩)] [0,2,3] [] rfl (by(with_reducible and_intros)<;>first|exact⟨⟩|exact t1|exact rfl) (aa (aa ?_))
   have t1:=(aF v (gm c) 3 b IU hb)
   refine aE X2 [] [(800057,⟨true,bF t1⟩),(700057,⟨true, .agg [.ptr 1000 1000]:: .agg []::bG t1⟩)] [0,2,3,5] [] rfl (by(with_reducible and_intros)<;>first|exact⟨⟩|exact t1|exact rfl) ?_
   rw[hmN]
   rw[show(gw c).x.inbox=(gw c).x.inbox++(s6 (aA (gm c) 3) 0).1 from (List.append_nil _).symm]
   refine au (aG (fun k1=>k1≤(sH c)) (fun k1:Nat=> [(5, .one ((az (((sH c:Nat):Int)-(k1:Int)))))]) (fun k1=> [(1000, .box [.eX v .u8 b,aO ((s6 (aA (gm c) 3) k1).2.i:Int),aO (s6 (aA (gm c) 3) k1).2.h]),(26, .arr (.sl .u8) ((gw c).x.inbox++(s6 (aA (gm c) 3) k1).1))]) (fun k1=>(sH c)-k1) 0 (fun k1=>rfl) (Nat.zero_le _) rfl ?_)
   intro k1 hk1
   have hib:(s6 (aA (gm c) 3) k1).2.b=b:=by rw[OX,aQ];exact IU
   have hi4:=cS (s6 (aA (gm c) 3) k1).2 (n:=4) (by decide)
   have hil:=(IY (aA (gm c) 3) k1).1
   have hi0:(gw c).x.inbox= []:=(Dc c).2
   have afP:(gw c).x.inbox.length=0:=by rw[hi0];rfl
   have hiz:((gw c).x.inbox++(s6 (aA (gm c) 3) k1).1).length≤2:=by rw[hi0];simp;omega
   refine aa (aq X2 [0,2,3,5,59] rfl ?_)
   refine ah rfl ?_ ?_<;>intro bz
   ·try simp only[aP]at bz
    have aa1:IntKind.i64.wrap (((sH c:Nat):Int)-(k1:Int)-1)=((sH c:Nat):Int)-((k1+1:Nat):Int):=by rw[bV (by omega)];omega
    have hap:(gw c).x.inbox++(s6 (aA (gm c) 3) (k1+1)).1=((gw c).x.inbox++(s6 (aA (gm c) 3) k1).1)++ [tG (aA (s6 (aA (gm c) 3) k1).2 4) (aV (s6 (aA (gm c) 3) k1).2 4).toNat]:=(List.append_assoc _ _ _).symm
    refine an (aa (au ?_))
    have t1:=(aF v ((s6 (aA (gm c) 3) k1).2) 4 b hib hb)
    have t2:=(cz v (aA (s6 (aA (gm c) 3) k1).2 4) (aV (s6 (aA (gm c) 3) k1).2 4) b (by rw[aQ];exact hib) hb (by omega))
    refine bu X2 [(69,26)] [(800066,⟨true,bF t1⟩),(700066,⟨true, .agg [.ptr 1000 1000]:: .agg []::bG t1⟩),(800067,⟨true,bF t2⟩),(700067,⟨true, .agg [.ptr 1000 1000]:: .agg [.ptr 11 170]::bG t2⟩),(500068,⟨true,[]⟩)] [0,2,3,5] [] 335 11 MO (by kernel_rfl) rfl (by kernel_rfl) (by(repeat' with_reducible first|exact aL|refine aS ?_ ?_|apply And.intro);(iterate 2 all_goals try first|exact t1|exact t2);all_goals first|exact rfl|exact⟨rfl,bn _ (by decide)⟩| (simp only[dO,maxLen,lens];omega)) ?_
    refine bt X2 [0,2,3,5] rfl ?_
    refine⟨k1+1,by omega,by omega,?_⟩
    rw[hap,aa1]
    try rfl
   ·try simp only[aP]at bz
    have aa2:k1=sH c:=by omega
    exact aK (aC X2 [2] rfl (by trivial) (aj (aY rfl (by and_intros<;>first|exact⟨⟩| (first| (simp only[ck,yl,aa2];done)|rfl;done)))))
end
section
set_option maxRecDepth 100000
set_option maxHeartbeats 1000000 in
theorem F4(v:Value)(c:cu)(b:List UInt8)(hcb:c.b=b)(hb:b.length≤1048576):dA ty Tryz.prog 242 [(1000, .box [.eX v .u8 b,aO (c.i:Int),aO c.h])] [.a (.ptr 1000 0)] [(1000, .box [.eX v .u8 b,aO ((rj c).i:Int),aO (rj c).h]),(24, .arr (.sl .u8) (mJ c).aJ),(26, .arr (.sl .u8) (mJ c).inbox)] [.agg [aO (mJ c).id,aO (mJ c).ct,aO (mJ c).key,aO (mJ c).seed, .own 24,aO (mJ c).sent, .own 26,aO (mJ c).next]]:=by
 refine cq X2 call242 func242 rfl rfl (by decide) ntmps242 (by simp) rfl ?_
 intro zb
 obtain⟨⟨rC,JB,_,_⟩,_⟩:=ym c
 have I7:=cS (fj c) (n:=2) (by decide)
 have aib:IntKind.i64.wrap (14+aV (fj c) 2)=14+aV (fj c) 2:=bV (by omega)
 have aic:IntKind.i64.wrap (16+aV (fj c) 2)=16+aV (fj c) 2:=bV (by omega)
 refine aq X2 [0,2] rfl (aa ?_)
 have t1:=(rq v c b hcb hb)
 refine aE X2 [] [(800005,⟨true,bF t1⟩),(700005,⟨true, .agg [.ptr 1000 1000]:: .agg [.ptr 24 24, .ptr 26 26]::bG t1⟩)] [0,2,3] [] rfl (by(with_reducible and_intros)<;>first|exact⟨⟩|exact t1|exact rfl) (aa (aa ?_))
 have t1:=(aF v (yl c) 14 b (by rw[IZ];exact hcb) hb)
 refine aE X2 [] [(800007,⟨true,bF t1⟩),(700007,⟨true, .agg [.ptr 1000 1000]:: .agg []::bG t1⟩)] [0,2,3,7] [] rfl (by(with_reducible and_intros)<;>first|exact⟨⟩|exact t1|exact rfl) (au (aq X2 [0,2,3,7,8] rfl ?_))
 refine ah rfl ?_ ?_<;>intro hb0
 ·try simp only[aP]at hb0
  have hX:mJ c=⟨([-1,7,8,(ck c).ct]:List Int).getD (aV (fj c) 4).toNat (aI .int),(ck c).ct,(ck c).key,(ck c).seed,(ck c).aJ,(ck c).sent,(ck c).inbox,(ck c).next⟩:=(by unfold mJ;simp only[if_pos (show dF c=0 from hb0)])
  have hN:rj c=aA (fj c) 4:=(by unfold rj;simp only[if_pos (show dF c=0 from hb0)])
  have t1:=(cw v (fj c) [-1,7,8,(ck c).ct] b (by rw[sI];exact hcb) hb (by simp))
  refine aE X2 [] [(800014,⟨true,bF t1⟩),(700014,⟨true, .agg [.ptr 1000 1000]:: .agg []::bG t1⟩)] [2,3] [] rfl (by(repeat' with_reducible first|exact aL|refine aS ?_ ?_|apply And.intro)<;>first|exact t1|exact rfl|exact⟨rfl,bn _ (by decide)⟩) ?_
  rw[show(([-1,7,8,(ck c).ct]:List Int).length:Int)=4 from rfl]
  exact aC X2 [2] rfl (by trivial) (aj (aY rfl (by and_intros<;>first|exact⟨⟩| (first| (simp only[hX,hN,fj];done)|with_reducible rfl;done))))
 ·try simp only[aP]at hb0
  refine aq X2 [0,2,3,7,16] rfl ?_
  refine ah rfl ?_ ?_<;>intro aW
  ·try simp only[aP]at aW
   have hX:mJ c=⟨(ck c).id,(ck c).ct,M1 (fj c),(ck c).seed,(ck c).aJ,(ck c).sent,(ck c).inbox,(ck c).next⟩:=(by unfold mJ;simp only[if_neg (show¬dF c=0 from hb0),if_pos (show dF c=1 from aW)])
   have hN:rj c=F0 (fj c):=(by unfold rj;simp only[if_neg (show¬dF c=0 from hb0),if_pos (show dF c=1 from aW)])
   have t1:=(xe v (fj c) b (by rw[sI];exact hcb) hb)
   exact aE X2 [] [(800019,⟨true,bF t1⟩),(700019,⟨true, .agg [.ptr 1000 1000]:: .agg []::bG t1⟩)] [2,3] [] rfl (by(with_reducible and_intros)<;>first|exact⟨⟩|exact t1|exact rfl) (aC X2 [2] rfl (by trivial) (aj (aY rfl (by and_intros<;>first|exact⟨⟩| (first| (simp only[hX,hN,fj];done)|with_reducible rfl;done)))))
  ·try simp only[aP]at aW
   refine aq X2 [0,2,3,7,21] rfl ?_
   refine ah rfl ?_ ?_<;>intro bz
   ·try simp only[aP]at bz
    have hX:mJ c=⟨(ck c).id,(ck c).ct,(ck c).key,(ck c).seed,(ck c).aJ,([-1,((ck c).aJ.length:Int),IntKind.i64.wrap (((ck c).aJ.length:Int)+1)]:List Int).getD (aV (fj c) 3).toNat (aI .int),(ck c).inbox,(ck c).next⟩:=(by unfold mJ;simp only[if_neg (show¬dF c=0 from hb0),if_neg (show¬dF c=1 from aW),if_pos (show dF c=2 from bz)])
    have hN:rj c=aA (fj c) 3:=(by unfold rj;simp only[if_neg (show¬dF c=0 from hb0),if_neg (show¬dF c=1 from aW),if_pos (show dF c=2 from bz)])
    have t1:=(cw v (fj c) [-1,((ck c).aJ.length:Int),IntKind.i64.wrap (((ck c).aJ.length:Int)+1)] b (by rw[sI];exact hcb) hb (by simp))
    refine aE X2 [] [(800032,⟨true,bF t1⟩),(700032,⟨true, .agg [.ptr 1000 1000]:: .agg []::bG t1⟩)] [2,3] [] rfl (by(repeat' with_reducible first|exact aL|refine aS ?_ ?_|apply And.intro)<;>first|exact t1|exact rfl|exact⟨rfl,bn _ (by decide)⟩) ?_
    rw[show(([-1,((ck c).aJ.length:Int),IntKind.i64.wrap (((ck c).aJ.length:Int)+1)]:List Int).length:Int)=3 from rfl]
    exact aC X2 [2] rfl (by trivial) (aj (aY rfl (by and_intros<;>first|exact⟨⟩| (first| (simp only[hX,hN,fj];done)|with_reducible rfl;done))))
   ·try simp only[aP]at bz
    refine aq X2 [0,2,3,7,34] rfl ?_
    refine ah rfl ?_ ?_<;>intro dD
    ·try simp only[aP]at dD
     have hX:mJ c=⟨(ck c).id,(ck c).ct,(ck c).key,(ck c).seed,(ck c).aJ,(ck c).sent,(ck c).inbox,([-1,99999,100000,100001]:List Int).getD (aV (fj c) 4).toNat (aI .int)⟩:=(by unfold mJ;simp only[if_neg (show¬dF c=0 from hb0),if_neg (show¬dF c=1 from aW),if_neg (show¬dF c=2 from bz),if_pos (show dF c=3 from dD)])
     have hN:rj c=aA (fj c) 4:=(by unfold rj;simp only[if_neg (show¬dF c=0 from hb0),if_neg (show¬dF c=1 from aW),if_neg (show¬dF c=2 from bz),if_pos (show dF c=3 from dD)])
     have t1:=(cw v (fj c) [-1,99999,100000,100001] b (by rw[sI];exact hcb) hb (by simp))
     refine aE X2 [] [(800038,⟨true,bF t1⟩),(700038,⟨true, .agg [.ptr 1000 1000]:: .agg []::bG t1⟩)] [2,3] [] rfl (by(repeat' with_reducible first|exact aL|refine aS ?_ ?_|apply And.intro)<;>first|exact t1|exact rfl|exact⟨rfl,bn _ (by decide)⟩) ?_
     rw[show(([-1,99999,100000,100001]:List Int).length:Int)=4 from rfl]
     exact aC X2 [2] rfl (by trivial) (aj (aY rfl (by and_intros<;>first|exact⟨⟩| (first| (simp only[hX,hN,fj];done)|with_reducible rfl;done))))
    ·try simp only[aP]at dD
     refine aq X2 [0,2,3,7,40] rfl ?_
     refine ah rfl ?_ ?_<;>intro kS
     ·try simp only[aP]at kS
      have hX:mJ c=⟨(ck c).id,(ck c).ct,(ck c).key,(ck c).seed,(ck c).aJ,(ck c).sent,(ck c).inbox++ [List.replicate (IntKind.i64.wrap (14+aV (fj c) 2)).toNat (aI .u8)],(ck c).next⟩:=(by unfold mJ;simp only[if_neg (show¬dF c=0 from hb0),if_neg (show¬dF c=1 from aW),if_neg (show¬dF c=2 from bz),if_neg (show¬dF c=3 from dD),if_pos (show dF c=4 from kS)])
      have hN:rj c=aA (fj c) 2:=(by unfold rj;simp only[if_neg (show¬dF c=0 from hb0),if_neg (show¬dF c=1 from aW),if_neg (show¬dF c=2 from bz),if_neg (show¬dF c=3 from dD),if_pos (show dF c=4 from kS)])
      have t1:=(aF v (fj c) 2 b (by rw[sI];exact hcb) hb)
      refine bu X2 [(49,26)] [(800045,⟨true,bF t1⟩),(700045,⟨true, .agg [.ptr 1000 1000]:: .agg []::bG t1⟩),(500048,⟨true,[]⟩)] [2,3] [] 375 2 MO (by kernel_rfl) rfl (by kernel_rfl) (by simp only[List.cons_append,List.nil_append];(repeat' with_reducible first|exact aL|refine aS ?_ ?_|apply And.intro)<;>skip;(iterate 3 (all_goals try (first|exact t1|exact(by simp only[dO,maxLen,lens];omega))));all_goals (first| (intros;omega)|exact rfl|exact⟨rfl,bn _ (by decide)⟩)) ?_
      exact aC X2 [2] rfl (by trivial) (aj (aY rfl (by and_intros<;>first|exact⟨⟩| (first| (simp only[hX,hN,fj];done)|with_reducible rfl;done))))
     ·try simp only[aP]at kS
      refine aq X2 [0,2,3,51] rfl ?_
      refine ah rfl ?_ ?_<;>intro Ae
      ·try simp only[aP]at Ae
       have hX:mJ c=⟨(ck c).id,(ck c).ct,(ck c).key,(ck c).seed,(ck c).aJ,(ck c).sent,List.replicate (IntKind.i64.wrap (16+aV (fj c) 2)).toNat (aI (.sl .u8)),(ck c).next⟩:=(by unfold mJ;simp only[if_neg (show¬dF c=0 from hb0),if_neg (show¬dF c=1 from aW),if_neg (show¬dF c=2 from bz),if_neg (show¬dF c=3 from dD),if_neg (show¬dF c=4 from kS),if_pos (show dF c=5 from Ae)])
       have hN:rj c=aA (fj c) 2:=(by unfold rj;simp only[if_neg (show¬dF c=0 from hb0),if_neg (show¬dF c=1 from aW),if_neg (show¬dF c=2 from bz),if_neg (show¬dF c=3 from dD),if_neg (show¬dF c=4 from kS),if_pos (show dF c=5 from Ae)])
       have t1:=(aF v (fj c) 2 b (by rw[sI];exact hcb) hb)
       refine aE X2 [] [(800054,⟨true,bF t1⟩),(700054,⟨true, .agg [.ptr 1000 1000]:: .agg []::bG t1⟩)] [2,3] [] rfl (by simp only[List.cons_append,List.nil_append];(repeat' with_reducible first|exact aL|refine aS ?_ ?_|apply And.intro)<;>skip;(iterate 3 (all_goals try (first|exact t1|exact(by simp only[dO,maxLen,lens];omega))));all_goals (first| (intros;omega)|exact⟨rfl,bn _ (by decide)⟩)) ?_
       exact bl 56 26 rfl (aC X2 [2] rfl (by trivial) (aj (aY rfl (by and_intros<;>first|exact⟨⟩| (first| (simp only[hX,hN,fj];done)|with_reducible rfl;done)))))
      ·try simp only[aP]at Ae
       have hX:mJ c=(ck c):=(by unfold mJ;simp only[if_neg (show¬dF c=0 from hb0),if_neg (show¬dF c=1 from aW),if_neg (show¬dF c=2 from bz),if_neg (show¬dF c=3 from dD),if_neg (show¬dF c=4 from kS),if_neg (show¬dF c=5 from Ae)])
       have hN:rj c=fj c:=(by unfold rj;simp only[if_neg (show¬dF c=0 from hb0),if_neg (show¬dF c=1 from aW),if_neg (show¬dF c=2 from bz),if_neg (show¬dF c=3 from dD),if_neg (show¬dF c=4 from kS),if_neg (show¬dF c=5 from Ae)])
       exact an (aC X2 [2] rfl (by trivial) (aj (aY rfl (by and_intros<;>first|exact⟨⟩| (first| (simp only[hX,hN,fj];done)|with_reducible rfl;done)))))
end
section
set_option maxRecDepth 100000
set_option maxHeartbeats 4000000 in
theorem BH(v:Value)(c:cu)(b:List UInt8)(hcb:c.b=b)(hb:b.length≤1048576):dA ty Tryz.prog 241 [(1000, .box [.eX v .u8 b,aO (c.i:Int),aO c.h])] [.a (.ptr 1000 0)] [(1000, .box [.eX v .u8 b,aO ((fk c).c.i:Int),aO (fk c).c.h]),(24, .arr (.sl .u8) (fk c).d.live.aJ),(26, .arr (.sl .u8) (fk c).d.live.inbox),(32, .arr (.sl .u8) (fk c).d.saved.aJ),(34, .arr (.sl .u8) (fk c).d.saved.inbox)] [.agg [aO (fk c).d.live.id,aO (fk c).d.live.ct,aO (fk c).d.live.key,aO (fk c).d.live.seed, .own 24,aO (fk c).d.live.sent, .own 26,aO (fk c).d.live.next,aO (fk c).d.saved.id,aO (fk c).d.saved.ct,aO (fk c).d.saved.key,aO (fk c).d.saved.seed, .own 32,aO (fk c).d.saved.sent, .own 34,aO (fk c).d.saved.next]]:=by
 refine cq X2 call241 func241 rfl rfl (by decide) ntmps241 (by simp) rfl ?_
 intro zb
 have hzb:=qT (ym c).1
 unfold cj at hzb
 have YG:aV (yl c) 5=((Fy c:Nat):Int)-((0:Nat):Int):=by have:=BC (yl c) 5;unfold Fy;omega
 have hn5:Fy c<5:=by have:=cS (yl c) (n:=5) (by decide);unfold Fy;omega
 refine aq X2 [0,2] rfl (aa ?_)
 have t1:=(rq v c b hcb hb)
 refine aE X2 [(15,20)] [(800014,⟨true,bF t1⟩),(700014,⟨true, .agg [.ptr 1000 1000]:: .agg [.ptr 24 124, .ptr 26 126]::bG t1⟩),(15,⟨true,[.agg (bK (⟨(ck c),(ck c)⟩:bC))]⟩)] [0,2,3] [] rfl (by(with_reducible and_intros);(iterate 2 all_goals try first|exact⟨⟩|exact t1|exact(jg (ck c) ⟨by omega,by omega⟩));all_goals first|exact rfl) (aa (aa ?_))
 have t1:=(aF v (yl c) 5 b (by rw[IZ];exact hcb) hb)
 refine aE X2 [] [(800017,⟨true,bF t1⟩),(700017,⟨true, .agg [.ptr 1000 1000]:: .agg []::bG t1⟩)] [0,2,3,4] [] rfl (by(with_reducible and_intros)<;>first|exact⟨⟩|exact t1|exact rfl) ?_
 rw[YG]
 refine au (aG (fun k=>k≤(Fy c)) (fun k:Nat=> [(4, .one ((az (((Fy c:Nat):Int)-(k:Int)))))]) (fun k=> [(1000, .box [.eX v .u8 b,aO ((bh (bk c) k).c.i:Int),aO (bh (bk c) k).c.h]),(3, .box [aO (bh (bk c) k).d.live.id,aO (bh (bk c) k).d.live.ct,aO (bh (bk c) k).d.live.key,aO (bh (bk c) k).d.live.seed, .own 24,aO (bh (bk c) k).d.live.sent, .own 26,aO (bh (bk c) k).d.live.next,aO (bh (bk c) k).d.saved.id,aO (bh (bk c) k).d.saved.ct,aO (bh (bk c) k).d.saved.key,aO (bh (bk c) k).d.saved.seed, .own 32,aO (bh (bk c) k).d.saved.sent, .own 34,aO (bh (bk c) k).d.saved.next]),(24, .arr (.sl .u8) (bh (bk c) k).d.live.aJ),(26, .arr (.sl .u8) (bh (bk c) k).d.live.inbox),(32, .arr (.sl .u8) (bh (bk c) k).d.saved.aJ),(34, .arr (.sl .u8) (bh (bk c) k).d.saved.inbox)]) (fun k=>(Fy c)-k) 0 (fun k=>rfl) (Nat.zero_le _) rfl ?_)
 intro k hk
 have hkb:(bh (bk c) k).c.b=b:=by rw[M9];rw[UQ];exact hcb
 have hdS:=Na (UP c) k
 have hds:=gR hdS.1
 have Cw:bO (bh (bk c) k).d≤1048576:=by omega
 obtain⟨nv,mo,_,_⟩:=hdS.1.1
 have hq3:=cS (oO (bh (bk c) k)) (n:=3) (by decide)
 refine aa (aq X2 [0,2,3,4,19] rfl ?_)
 refine ah rfl ?_ ?_<;>intro hb0
 ·try simp only[aP]at hb0
  have hsb:IntKind.i64.wrap (((Fy c:Nat):Int)-(k:Int)-1)=((Fy c:Nat):Int)-((k+1:Nat):Int):=by rw[bV (by omega)];omega
  refine an (aa (au (aq X2 [0,2,3,4,5] rfl (aa ?_))))
  have t1:=(cz v ((bh (bk c) k).c) 24 b hkb hb (by decide))
  refine aE X2 [] [(800025,⟨true,bF t1⟩),(700025,⟨true, .agg [.ptr 1000 1000]:: .agg [.ptr 11 60]::bG t1⟩)] [0,2,3,4,5,6] [] rfl (by(with_reducible and_intros)<;>first|exact⟨⟩|exact t1|exact rfl) (aa (aa ?_))
  by_cases hA:(bh (bk c) k).d.live.sent<((bh (bk c) k).d.live.aJ.length:Int)
  ·have t1:=(ql v (F1 (bh (bk c) k)) 2 b (by unfold F1;rw[qZ];exact hkb) hb)
   refine O5 X2 [] [(800034,⟨true,bF t1⟩),(700034,⟨true, .agg [.ptr 1000 1000]:: .agg []::bG t1⟩),(1100032,⟨true,[]⟩)] [0,2,3,4,5,6,35] [] rfl (by(with_reducible and_intros);(iterate 2 all_goals try first|exact⟨⟩|exact t1|exact(decide_eq_true hA));all_goals first|exact rfl) ?_
   refine ah rfl ?_ ?_<;>intro aW
   ·try simp only[aP]at aW
    have hob:oO (bh (bk c) k)=aA (F1 (bh (bk c) k)) 2:=by unfold oO;rw[if_pos (show I0 (bh (bk c) k)from hA)]
    have e9:yp (bh (bk c) k)=n8 (bh (bk c) k).d.live (bh (bk c) k).d.live.sent:=by unfold yp;rw[if_pos (show I0 (bh (bk c) k)from hA)];rw[if_pos (by simpa using aW)]
    have t1:=(og ((bh (bk c) k).d.live) hdS.2.1 hA)
    refine aE X2 [] [(37,⟨false,bJ t1⟩)] [0,2,3,4,5,6] [] rfl (by(with_reducible and_intros)<;>first|exact⟨⟩|exact t1) ?_
    rw[←e9]
    rw[←hob]
    refine aa ?_
    have t1:=(ey ((bh (bk c) k).d.live.key) (IntKind.i64.wrap (1-cU (bh (bk c) k).d.live)))
    have t2:=(aF v (oO (bh (bk c) k)) 3 b (by rw[yq];exact hkb) hb)
    have t3:=(cz v (aA (oO (bh (bk c) k)) 3) (aV (oO (bh (bk c) k)) 3) b (by rw[aQ,yq];exact hkb) hb (by omega))
    have t4:=(jJ (nY (bh (bk c) k).d.live.key (IntKind.i64.wrap (1-cU (bh (bk c) k).d.live))) ((bh (bk c) k).d.live.inbox.length:Int) (⟨1,XB (bh (bk c) k)⟩:Plain))
    refine bu X2 [] [(42,⟨false,[az (cU ((bh (bk c) k).d.live))]⟩),(44,⟨false,bJ t1⟩),(800050,⟨true,bF t2⟩),(700050,⟨true, .agg [.ptr 1000 1000]:: .agg []::bG t2⟩),(800051,⟨true,bF t3⟩),(700051,⟨true, .agg [.ptr 1000 1000]:: .agg [.ptr 11 61]::bG t3⟩),(53,⟨false,bJ t4⟩)] [0,2,3,4,5,6,7] [] 1042431 19 MO (by kernel_rfl) rfl (by kernel_rfl) (by(with_reducible and_intros);(iterate 5 all_goals try first|exact⟨⟩|exact(dj ((bh (bk c) k).d.live))|exact t1|exact t2|exact t3|exact t4);all_goals first|exact rfl) (aa ?_)
    have t1:=(aF v (M7 (bh (bk c) k)) 6 b (by rw[I1];exact hkb) hb)
    refine aE X2 [] [(800057,⟨true,bF t1⟩),(700057,⟨true, .agg [.ptr 1000 1000]:: .agg []::bG t1⟩)] [0,2,3,4,5,6,7,57] [] rfl (by(with_reducible and_intros)<;>first|exact⟨⟩|exact t1|exact rfl) (au (aq X2 [0,2,3,4,5,6,7,57,71] rfl ?_))
    refine ah rfl ?_ ?_<;>intro bz
    ·try simp only[aP]at bz
     have hE:bh (bk c) (k+1)=⟨(ji (bh (bk c) k)),B6 (bh (bk c) k).d⟩:=(show bh (bk c) (k+1)=nq (bh (bk c) k)from rfl).trans (by unfold nq;rw[if_pos (show vo (bh (bk c) k)=0 from bz)])
     refine aE X2 [(74,120)] [(74,⟨true,[.agg (bK (B6 ((bh (bk c) k).d)))]⟩)] [0,2,3,4] [] rfl (by(with_reducible and_intros)<;>first|exact⟨⟩|exact(gJ ((bh (bk c) k).d) Cw)) (bl 124 24 rfl (bl 126 26 rfl (bl 132 32 rfl (bl 134 34 rfl (bt X2 [0,2,3,4] rfl ?_)))))
     refine⟨k+1,by omega,by omega,?_⟩
     rw[hE,hsb]
     try rfl
    ·try simp only[aP]at bz
     refine aq X2 [0,2,3,4,5,6,7,75] rfl ?_
     refine ah rfl ?_ ?_<;>intro dD
     ·try simp only[aP]at dD
      have hE:bh (bk c) (k+1)=⟨Ag (ji (bh (bk c) k)) 2,qU (bh (bk c) k).d (tG (ji (bh (bk c) k)) 2)⟩:=(show bh (bk c) (k+1)=nq (bh (bk c) k)from rfl).trans (by unfold nq;rw[if_neg (show¬vo (bh (bk c) k)=0 from bz),if_pos (show vo (bh (bk c) k)=1 from dD)])
      refine aa ?_
      have t1:=(cz v (ji (bh (bk c) k)) 2 b (by rw[sJ];exact hkb) hb (by decide))
      have t2:=(fF ((bh (bk c) k).d) (tG (ji (bh (bk c) k)) 2) Cw (by rw[iq];decide))
      refine bu X2 [(81,120)] [(800080,⟨true,bF t1⟩),(700080,⟨true, .agg [.ptr 1000 1000]:: .agg [.ptr 11 62]::bG t1⟩),(81,⟨true,bJ t2⟩)] [0,2,3,4,9] [] 763 7 MO (by kernel_rfl) rfl (by kernel_rfl) (by(with_reducible and_intros);(iterate 2 all_goals try first|exact⟨⟩|exact t1|exact t2);all_goals first|exact rfl) (eO X2 [0,2,3,4] rfl (by trivial) (bl 124 24 rfl (bl 126 26 rfl (bl 132 32 rfl (bl 134 34 rfl (bt X2 [0,2,3,4] rfl ?_))))))
      refine⟨k+1,by omega,by omega,?_⟩
      rw[hE,hsb]
      try rfl
     ·try simp only[aP]at dD
      have hE:bh (bk c) (k+1)=⟨aA (ji (bh (bk c) k)) 2,rdev (bh (bk c) k).d (IntKind.i64.wrap ((bh (bk c) k).d.live.next+aV (ji (bh (bk c) k)) 2)) (yp (bh (bk c) k)) (M8 (bh (bk c) k))⟩:=(show bh (bk c) (k+1)=nq (bh (bk c) k)from rfl).trans (by unfold nq;rw[if_neg (show¬vo (bh (bk c) k)=0 from bz),if_neg (show¬vo (bh (bk c) k)=1 from dD)])
      refine aa ?_
      have t1:=(aF v (ji (bh (bk c) k)) 2 b (by rw[sJ];exact hkb) hb)
      have t2:=(fT ((bh (bk c) k).d) (IntKind.i64.wrap ((bh (bk c) k).d.live.next+aV (ji (bh (bk c) k)) 2)) (yp (bh (bk c) k)) (M8 (bh (bk c) k)) Cw)
      refine bu X2 [(67,120)] [(800063,⟨true,bF t1⟩),(700063,⟨true, .agg [.ptr 1000 1000]:: .agg []::bG t1⟩),(67,⟨true,bJ t2⟩)] [0,2,3,4,11] [] 24559 95 MO (by kernel_rfl) rfl (by kernel_rfl) (by(with_reducible and_intros);(iterate 2 all_goals try first|exact⟨⟩|exact t1|exact t2);all_goals first|exact rfl) (eO X2 [0,2,3,4] rfl (by trivial) (bl 124 24 rfl (bl 126 26 rfl (bl 132 32 rfl (bl 134 34 rfl (bt X2 [0,2,3,4] rfl ?_))))))
      refine⟨k+1,by omega,by omega,?_⟩
      rw[hE,hsb]
      try rfl
   ·try simp only[aP]at aW
    have hob:oO (bh (bk c) k)=aA (F1 (bh (bk c) k)) 2:=by unfold oO;rw[if_pos (show I0 (bh (bk c) k)from hA)]
    have e9:yp (bh (bk c) k)=(tG (bh (bk c) k).c 24):=by unfold yp;rw[if_pos (show I0 (bh (bk c) k)from hA)];rw[if_neg (by simpa using aW)]
    rw[show tG (bh (bk c) k).c (Int.toNat 24)=yp (bh (bk c) k)from e9.symm]
    rw[←hob]
    refine an (aa ?_)
    have t1:=(ey ((bh (bk c) k).d.live.key) (IntKind.i64.wrap (1-cU (bh (bk c) k).d.live)))
    have t2:=(aF v (oO (bh (bk c) k)) 3 b (by rw[yq];exact hkb) hb)
    have t3:=(cz v (aA (oO (bh (bk c) k)) 3) (aV (oO (bh (bk c) k)) 3) b (by rw[aQ,yq];exact hkb) hb (by omega))
    have t4:=(jJ (nY (bh (bk c) k).d.live.key (IntKind.i64.wrap (1-cU (bh (bk c) k).d.live))) ((bh (bk c) k).d.live.inbox.length:Int) (⟨1,XB (bh (bk c) k)⟩:Plain))
    refine bu X2 [] [(42,⟨false,[az (cU ((bh (bk c) k).d.live))]⟩),(44,⟨false,bJ t1⟩),(800050,⟨true,bF t2⟩),(700050,⟨true, .agg [.ptr 1000 1000]:: .agg []::bG t2⟩),(800051,⟨true,bF t3⟩),(700051,⟨true, .agg [.ptr 1000 1000]:: .agg [.ptr 11 61]::bG t3⟩),(53,⟨false,bJ t4⟩)] [0,2,3,4,5,6,7] [] 1042431 19 MO (by kernel_rfl) rfl (by kernel_rfl) (by(with_reducible and_intros);(iterate 5 all_goals try first|exact⟨⟩|exact(dj ((bh (bk c) k).d.live))|exact t1|exact t2|exact t3|exact t4);all_goals first|exact rfl) (aa ?_)
    have t1:=(aF v (M7 (bh (bk c) k)) 6 b (by rw[I1];exact hkb) hb)
    refine aE X2 [] [(800057,⟨true,bF t1⟩),(700057,⟨true, .agg [.ptr 1000 1000]:: .agg []::bG t1⟩)] [0,2,3,4,5,6,7,57] [] rfl (by(with_reducible and_intros)<;>first|exact⟨⟩|exact t1|exact rfl) (au (aq X2 [0,2,3,4,5,6,7,57,71] rfl ?_))
    refine ah rfl ?_ ?_<;>intro bz
    ·try simp only[aP]at bz
     have hE:bh (bk c) (k+1)=⟨(ji (bh (bk c) k)),B6 (bh (bk c) k).d⟩:=(show bh (bk c) (k+1)=nq (bh (bk c) k)from rfl).trans (by unfold nq;rw[if_pos (show vo (bh (bk c) k)=0 from bz)])
     refine aE X2 [(74,120)] [(74,⟨true,[.agg (bK (B6 ((bh (bk c) k).d)))]⟩)] [0,2,3,4] [] rfl (by(with_reducible and_intros)<;>first|exact⟨⟩|exact(gJ ((bh (bk c) k).d) Cw)) (bl 124 24 rfl (bl 126 26 rfl (bl 132 32 rfl (bl 134 34 rfl (bt X2 [0,2,3,4] rfl ?_)))))
     refine⟨k+1,by omega,by omega,?_⟩
     rw[hE,hsb]
     try rfl
    ·try simp only[aP]at bz
     refine aq X2 [0,2,3,4,5,6,7,75] rfl ?_
     refine ah rfl ?_ ?_<;>intro dD
     ·try simp only[aP]at dD
      have hE:bh (bk c) (k+1)=⟨Ag (ji (bh (bk c) k)) 2,qU (bh (bk c) k).d (tG (ji (bh (bk c) k)) 2)⟩:=(show bh (bk c) (k+1)=nq (bh (bk c) k)from rfl).trans (by unfold nq;rw[if_neg (show¬vo (bh (bk c) k)=0 from bz),if_pos (show vo (bh (bk c) k)=1 from dD)])
      refine aa ?_
      have t1:=(cz v (ji (bh (bk c) k)) 2 b (by rw[sJ];exact hkb) hb (by decide))
      have t2:=(fF ((bh (bk c) k).d) (tG (ji (bh (bk c) k)) 2) Cw (by rw[iq];decide))
      refine bu X2 [(81,120)] [(800080,⟨true,bF t1⟩),(700080,⟨true, .agg [.ptr 1000 1000]:: .agg [.ptr 11 62]::bG t1⟩),(81,⟨true,bJ t2⟩)] [0,2,3,4,9] [] 763 7 MO (by kernel_rfl) rfl (by kernel_rfl) (by(with_reducible and_intros);(iterate 2 all_goals try first|exact⟨⟩|exact t1|exact t2);all_goals first|exact rfl) (eO X2 [0,2,3,4] rfl (by trivial) (bl 124 24 rfl (bl 126 26 rfl (bl 132 32 rfl (bl 134 34 rfl (bt X2 [0,2,3,4] rfl ?_))))))
      refine⟨k+1,by omega,by omega,?_⟩
      rw[hE,hsb]
      try rfl
     ·try simp only[aP]at dD
      have hE:bh (bk c) (k+1)=⟨aA (ji (bh (bk c) k)) 2,rdev (bh (bk c) k).d (IntKind.i64.wrap ((bh (bk c) k).d.live.next+aV (ji (bh (bk c) k)) 2)) (yp (bh (bk c) k)) (M8 (bh (bk c) k))⟩:=(show bh (bk c) (k+1)=nq (bh (bk c) k)from rfl).trans (by unfold nq;rw[if_neg (show¬vo (bh (bk c) k)=0 from bz),if_neg (show¬vo (bh (bk c) k)=1 from dD)])
      refine aa ?_
      have t1:=(aF v (ji (bh (bk c) k)) 2 b (by rw[sJ];exact hkb) hb)
      have t2:=(fT ((bh (bk c) k).d) (IntKind.i64.wrap ((bh (bk c) k).d.live.next+aV (ji (bh (bk c) k)) 2)) (yp (bh (bk c) k)) (M8 (bh (bk c) k)) Cw)
      refine bu X2 [(67,120)] [(800063,⟨true,bF t1⟩),(700063,⟨true, .agg [.ptr 1000 1000]:: .agg []::bG t1⟩),(67,⟨true,bJ t2⟩)] [0,2,3,4,11] [] 24559 95 MO (by kernel_rfl) rfl (by kernel_rfl) (by(with_reducible and_intros);(iterate 2 all_goals try first|exact⟨⟩|exact t1|exact t2);all_goals first|exact rfl) (eO X2 [0,2,3,4] rfl (by trivial) (bl 124 24 rfl (bl 126 26 rfl (bl 132 32 rfl (bl 134 34 rfl (bt X2 [0,2,3,4] rfl ?_))))))
      refine⟨k+1,by omega,by omega,?_⟩
      rw[hE,hsb]
      try rfl
  ·refine O5 X2 [] [(1100032,⟨false,[]⟩)] [0,2,3,4,5,6,35] [] rfl (by(with_reducible and_intros)<;>first|exact⟨⟩|exact(decide_eq_false hA)) ?_
   refine ah rfl ?_ ?_<;>intro aW
   ·try simp only[aP]at aW
    cases aW
   ·try simp only[aP]at aW
    skip
    have hob:oO (bh (bk c) k)=(F1 (bh (bk c) k)):=by unfold oO;rw[if_neg (show¬I0 (bh (bk c) k)from hA)]
    have e9:yp (bh (bk c) k)=(tG (bh (bk c) k).c 24):=by unfold yp;rw[if_neg (show¬I0 (bh (bk c) k)from hA)]
    rw[show tG (bh (bk c) k).c (Int.toNat 24)=yp (bh (bk c) k)from e9.symm]
    rw[show Ag (bh (bk c) k).c (Int.toNat 24)=oO (bh (bk c) k)from hob.symm]
    refine an (aa ?_)
    have t1:=(ey ((bh (bk c) k).d.live.key) (IntKind.i64.wrap (1-cU (bh (bk c) k).d.live)))
    have t2:=(aF v (oO (bh (bk c) k)) 3 b (by rw[yq];exact hkb) hb)
    have t3:=(cz v (aA (oO (bh (bk c) k)) 3) (aV (oO (bh (bk c) k)) 3) b (by rw[aQ,yq];exact hkb) hb (by omega))
    have t4:=(jJ (nY (bh (bk c) k).d.live.key (IntKind.i64.wrap (1-cU (bh (bk c) k).d.live))) ((bh (bk c) k).d.live.inbox.length:Int) (⟨1,XB (bh (bk c) k)⟩:Plain))
    refine bu X2 [] [(42,⟨false,[az (cU ((bh (bk c) k).d.live))]⟩),(44,⟨false,bJ t1⟩),(800050,⟨true,bF t2⟩),(700050,⟨true, .agg [.ptr 1000 1000]:: .agg []::bG t2⟩),(800051,⟨true,bF t3⟩),(700051,⟨true, .agg [.ptr 1000 1000]:: .agg [.ptr 11 61]::bG t3⟩),(53,⟨false,bJ t4⟩)] [0,2,3,4,5,6,7] [] 1042431 19 MO (by kernel_rfl) rfl (by kernel_rfl) (by(with_reducible and_intros);(iterate 5 all_goals try first|exact⟨⟩|exact(dj ((bh (bk c) k).d.live))|exact t1|exact t2|exact t3|exact t4);all_goals first|exact rfl) (aa ?_)
    have t1:=(aF v (M7 (bh (bk c) k)) 6 b (by rw[I1];exact hkb) hb)
    refine aE X2 [] [(800057,⟨true,bF t1⟩),(700057,⟨true, .agg [.ptr 1000 1000]:: .agg []::bG t1⟩)] [0,2,3,4,5,6,7,57] [] rfl (by(with_reducible and_intros)<;>first|exact⟨⟩|exact t1|exact rfl) (au (aq X2 [0,2,3,4,5,6,7,57,71] rfl ?_))
    refine ah rfl ?_ ?_<;>intro bz
    ·try simp only[aP]at bz
     have hE:bh (bk c) (k+1)=⟨(ji (bh (bk c) k)),B6 (bh (bk c) k).d⟩:=(show bh (bk c) (k+1)=nq (bh (bk c) k)from rfl).trans (by unfold nq;rw[if_pos (show vo (bh (bk c) k)=0 from bz)])
     refine aE X2 [(74,120)] [(74,⟨true,[.agg (bK (B6 ((bh (bk c) k).d)))]⟩)] [0,2,3,4] [] rfl (by(with_reducible and_intros)<;>first|exact⟨⟩|exact(gJ ((bh (bk c) k).d) Cw)) (bl 124 24 rfl (bl 126 26 rfl (bl 132 32 rfl (bl 134 34 rfl (bt X2 [0,2,3,4] rfl ?_)))))
     refine⟨k+1,by omega,by omega,?_⟩
     rw[hE,hsb]
     try rfl
    ·try simp only[aP]at bz
     refine aq X2 [0,2,3,4,5,6,7,75] rfl ?_
     refine ah rfl ?_ ?_<;>intro dD
     ·try simp only[aP]at dD
      have hE:bh (bk c) (k+1)=⟨Ag (ji (bh (bk c) k)) 2,qU (bh (bk c) k).d (tG (ji (bh (bk c) k)) 2)⟩:=(show bh (bk c) (k+1)=nq (bh (bk c) k)from rfl).trans (by unfold nq;rw[if_neg (show¬vo (bh (bk c) k)=0 from bz),if_pos (show vo (bh (bk c) k)=1 from dD)])
      refine aa ?_
      have t1:=(cz v (ji (bh (bk c) k)) 2 b (by rw[sJ];exact hkb) hb (by decide))
      have t2:=(fF ((bh (bk c) k).d) (tG (ji (bh (bk c) k)) 2) Cw (by rw[iq];decide))
      refine bu X2 [(81,120)] [(800080,⟨true,bF t1⟩),(700080,⟨true, .agg [.ptr 1000 1000]:: .agg [.ptr 11 62]::bG t1⟩),(81,⟨true,bJ t2⟩)] [0,2,3,4,9] [] 763 7 MO (by kernel_rfl) rfl (by kernel_rfl) (by(with_reducible and_intros);(iterate 2 all_goals try first|exact⟨⟩|exact t1|exact t2);all_goals first|exact rfl) (eO X2 [0,2,3,4] rfl (by trivial) (bl 124 24 rfl (bl 126 26 rfl (bl 132 32 rfl (bl 134 34 rfl (bt X2 [0,2,3,4] rfl ?_))))))
      refine⟨k+1,by omega,by omega,?_⟩
      rw[hE,hsb]
      try rfl
     ·try simp only[aP]at dD
      have hE:bh (bk c) (k+1)=⟨aA (ji (bh (bk c) k)) 2,rdev (bh (bk c) k).d (IntKind.i64.wrap ((bh (bk c) k).d.live.next+aV (ji (bh (bk c) k)) 2)) (yp (bh (bk c) k)) (M8 (bh (bk c) k))⟩:=(show bh (bk c) (k+1)=nq (bh (bk c) k)from rfl).trans (by unfold nq;rw[if_neg (show¬vo (bh (bk c) k)=0 from bz),if_neg (show¬vo (bh (bk c) k)=1 from dD)])
      refine aa ?_
      have t1:=(aF v (ji (bh (bk c) k)) 2 b (by rw[sJ];exact hkb) hb)
      have t2:=(fT ((bh (bk c) k).d) (IntKind.i64.wrap ((bh (bk c) k).d.live.next+aV (ji (bh (bk c) k)) 2)) (yp (bh (bk c) k)) (M8 (bh (bk c) k)) Cw)
      refine bu X2 [(67,120)] [(800063,⟨true,bF t1⟩),(700063,⟨true, .agg [.ptr 1000 1000]:: .agg []::bG t1⟩),(67,⟨true,bJ t2⟩)] [0,2,3,4,11] [] 24559 95 MO (by kernel_rfl) rfl (by kernel_rfl) (by(with_reducible and_intros);(iterate 2 all_goals try first|exact⟨⟩|exact t1|exact t2);all_goals first|exact rfl) (eO X2 [0,2,3,4] rfl (by trivial) (bl 124 24 rfl (bl 126 26 rfl (bl 132 32 rfl (bl 134 34 rfl (bt X2 [0,2,3,4] rfl ?_))))))
      refine⟨k+1,by omega,by omega,?_⟩
      rw[hE,hsb]
      try rfl
 ·try simp only[aP]at hb0
  have hkn:k=Fy c:=by omega
  exact aK (aC X2 [2] rfl (by trivial) (aj (aY rfl (by and_intros<;>first|exact⟨⟩| (first| (simp only[fk,hkn];done)|with_reducible rfl;done)))))
end
section
set_option maxRecDepth 100000
set_option maxHeartbeats 2000000 in
theorem F5(v:Value)(c:cu)(b:List UInt8)(hcb:c.b=b)(hb:b.length≤1048576):dA ty Tryz.prog 176 [(1000, .box [.eX v .u8 b,aO (c.i:Int),aO c.h])] [.a (.ptr 1000 0)] [(1000, .box [.eX v .u8 b,aO ((wG c).i:Int),aO (wG c).h]),(24, .arr (.sl .u8) (jF c).live.aJ),(26, .arr (.sl .u8) (jF c).live.inbox),(32, .arr (.sl .u8) (jF c).saved.aJ),(34, .arr (.sl .u8) (jF c).saved.inbox)] [.agg [aO (jF c).live.id,aO (jF c).live.ct,aO (jF c).live.key,aO (jF c).live.seed, .own 24,aO (jF c).live.sent, .own 26,aO (jF c).live.next,aO (jF c).saved.id,aO (jF c).saved.ct,aO (jF c).saved.key,aO (jF c).saved.seed, .own 32,aO (jF c).saved.sent, .own 34,aO (jF c).saved.next]]:=by
 refine cq X2 call176 func176 rfl rfl (by decide) ntmps176 (by simp) rfl ?_
 intro zb
 obtain⟨⟨_,⟨hs1,rB,_,_⟩⟩,_⟩:=UR c
 refine aq X2 [0,2] rfl (aa ?_)
 have t1:=(BH v c b hcb hb)
 refine aE X2 [] [(800005,⟨true,bF t1⟩),(700005,⟨true, .agg [.ptr 1000 1000]:: .agg [.ptr 24 24, .ptr 26 26, .ptr 32 32, .ptr 34 34]::bG t1⟩)] [0,2,3] [] rfl (by(with_reducible and_intros)<;>first|exact⟨⟩|exact t1|exact rfl) (aa (aa ?_))
 have t1:=(aF v ((fk c).c) 10 b (by rw[US];exact hcb) hb)
 refine aE X2 [] [(800007,⟨true,bF t1⟩),(700007,⟨true, .agg [.ptr 1000 1000]:: .agg []::bG t1⟩)] [0,2,3,7] [] rfl (by(with_reducible and_intros)<;>first|exact⟨⟩|exact t1|exact rfl) (au (aq X2 [0,2,3,7,8] rfl ?_))
 refine ah rfl ?_ ?_<;>intro hb0
 ·try simp only[aP]at hb0
  have hX:jF c=⟨mJ (oU c),(fk c).d.saved⟩:=(by unfold jF;simp only[if_pos (show iO c=0 from hb0)])
  have hN:wG c=rj (oU c):=(by unfold wG;simp only[if_pos (show iO c=0 from hb0)])
  have t1:=(F4 v (oU c) b (by rw[FA];exact hcb) hb)
  exact aE X2 [] [(800011,⟨true,bF t1⟩),(700011,⟨true, .agg [.ptr 1000 1000]:: .agg [.ptr 24 44, .ptr 26 46]::bG t1⟩)] [2,3] [] rfl (by(with_reducible and_intros)<;>first|exact⟨⟩|exact t1|exact rfl) (bl 44 24 rfl (bl 46 26 rfl (aC X2 [2] rfl (by trivial) (aj (aY rfl (by and_intros<;>first|exact⟨⟩| (first| (simp only[hX,hN,oU,Fz,nx,Nb];done)|with_reducible rfl;done)))))))
 ·try simp only[aP]at hb0
  refine aq X2 [0,2,3,7,13] rfl ?_
  refine ah rfl ?_ ?_<;>intro aW
  ·try simp only[aP]at aW
   have hX:jF c=⟨(fk c).d.live,Fz (fk c).d.saved (IntKind.i64.wrap ((fk c).d.live.sent+1))⟩:=(by unfold jF;simp only[if_neg (show¬iO c=0 from hb0),if_pos (show iO c=1 from aW)])
   have hN:wG c=oU c:=(by unfold wG;simp only[if_neg (show¬iO c=0 from hb0),if_pos (show iO c=1 from aW)])
   exact bt X2 [2,3] rfl (aC X2 [2] rfl (by trivial) (aj (aY rfl (by and_intros<;>first|exact⟨⟩| (first| (simp only[hX,hN,oU,Fz,nx,Nb];done)|with_reducible rfl;done)))))
  ·try simp only[aP]at aW
   refine aq X2 [0,2,3,7,21] rfl ?_
   refine ah rfl ?_ ?_<;>intro bz
   ·try simp only[aP]at bz
    have hX:jF c=⟨(fk c).d.live,nx (fk c).d.saved (IntKind.i64.wrap ((fk c).d.live.next+aV (oU c) 3))⟩:=(by unfold jF;simp only[if_neg (show¬iO c=0 from hb0),if_neg (show¬iO c=1 from aW),if_pos (show iO c=2 from bz)])
    have hN:wG c=aA (oU c) 3:=(by unfold wG;simp only[if_neg (show¬iO c=0 from hb0),if_neg (show¬iO c=1 from aW),if_pos (show iO c=2 from bz)])
    have t1:=(aF v (oU c) 3 b (by rw[FA];exact hcb) hb)
    exact bu X2 [] [(800027,⟨true,bF t1⟩),(700027,⟨true, .agg [.ptr 1000 1000]:: .agg []::bG t1⟩)] [2,3] [] 239 3 MO (by kernel_rfl) rfl (by kernel_rfl) (by(with_reducible and_intros)<;>first|exact⟨⟩|exact t1|exact rfl) (aC X2 [2] rfl (by trivial) (aj (aY rfl (by and_intros<;>first|exact⟨⟩| (first| (simp only[hX,hN,oU,Fz,nx,Nb];done)|with_reducible rfl;done)))))
   ·try simp only[aP]at bz
    refine aq X2 [2,3,31] rfl ?_
    refine ah rfl ?_ ?_<;>intro dD
    ·try simp only[aP]at dD
     have hX:jF c=⟨(fk c).d.live,Nb (fk c).d.saved ((fk c).d.saved.inbox++ [[1]])⟩:=(by unfold jF;simp only[if_neg (show¬iO c=0 from hb0),if_neg (show¬iO c=1 from aW),if_neg (show¬iO c=2 from bz),if_pos (show iO c=3 from dD)])
     have hN:wG c=oU c:=(by unfold wG;simp only[if_neg (show¬iO c=0 from hb0),if_neg (show¬iO c=1 from aW),if_neg (show¬iO c=2 from bz),if_pos (show iO c=3 from dD)])
     refine aE X2 [(38,34)] [(500037,⟨true,[]⟩)] [2,3] [] rfl (by and_intros<;>first|exact⟨⟩| (intros;omega)|exact rfl| (simp only[dO,maxLen,lens];omega)) ?_
     rw[show(UInt8.ofNat (Int.toNat 1))=1 from rfl]
     exact aC X2 [2] rfl (by trivial) (aj (aY rfl (by and_intros<;>first|exact⟨⟩| (first| (simp only[hX,hN,oU,Fz,nx,Nb];done)|with_reducible rfl;done))))
    ·try simp only[aP]at dD
     have hX:jF c=(fk c).d:=(by unfold jF;simp only[if_neg (show¬iO c=0 from hb0),if_neg (show¬iO c=1 from aW),if_neg (show¬iO c=2 from bz),if_neg (show¬iO c=3 from dD)])
     have hN:wG c=oU c:=(by unfold wG;simp only[if_neg (show¬iO c=0 from hb0),if_neg (show¬iO c=1 from aW),if_neg (show¬iO c=2 from bz),if_neg (show¬iO c=3 from dD)])
     exact an (aC X2 [2] rfl (by trivial) (aj (aY rfl (by and_intros<;>first|exact⟨⟩| (first| (simp only[hX,hN,oU,Fz,nx,Nb];done)|with_reducible rfl;done)))))
end
section
set_option maxRecDepth 100000
set_option maxHeartbeats 4000000 in
theorem FE(v:Value)(c:cu)(x:bp)(b:List UInt8)(hcb:c.b=b)(hb:b.length≤1048576)(hx:tI x 100):dA ty Tryz.prog 105 [(1000, .box [.eX v .u8 b,aO (c.i:Int),aO c.h]),(61, .arr .bw x.av),(62, .arr .bC x.ak),(64, .arr .aN x.aB.rounds),(68, .arr .int x.replaced)] [.a (.ptr 1000 0), .agg [aO x.rows, .own 61, .own 62,aO x.aB.rows, .own 64,aO x.aX,aO x.seed,aO x.round, .own 68,aO x.cancelled]] [(1000, .box [.eX v .u8 b,aO ((mS c).i:Int),aO (mS c).h]),(61, .arr .bw (jv c x).av),(62, .arr .bC (jv c x).ak),(64, .arr .aN (jv c x).aB.rounds),(68, .arr .int (jv c x).replaced)] [.agg [aO (jv c x).rows, .own 61, .own 62,aO (jv c x).aB.rows, .own 64,aO (jv c x).aX,aO (jv c x).seed,aO (jv c x).round, .own 68,aO (jv c x).cancelled]]:=by
 refine cq X2 call105 func105 rfl rfl (by decide) ntmps105 (by simp) rfl ?_
 intro zb
 have hw:=G6.of hx.ok
 obtain⟨hs1,rB⟩:=hw.Yr
 obtain⟨hd1,hd2⟩:=hw.ndv
 clear hw
 refine aq X2 [0,3,4] rfl (aa (aa ?_))
 have t1:=(aF v c 24 b hcb hb)
 refine aE X2 [] [(800006,⟨true,bF t1⟩),(700006,⟨true, .agg [.ptr 1000 1000]:: .agg []::bG t1⟩)] [0,3,4,6] [] rfl (by(with_reducible and_intros)<;>first|exact⟨⟩|exact t1|exact rfl) (au (aq X2 [0,3,4,6,7] rfl ?_))
 refine ah rfl ?_ ?_<;>intro hb0
 ·try simp only[aP]at hb0
  have hX:jv c x=⟨([0,IntKind.i64.wrap (x.rows+1),65]:List Int).getD (aV (eo c) 3).toNat (aI .int),x.av,x.ak,x.aB,x.aX,x.seed,x.round,x.replaced,x.cancelled⟩:=(by unfold jv;simp only[if_pos (show bY c=0 from hb0)])
  have hN:mS c=aA (eo c) 3:=(by unfold mS;simp only[if_pos (show bY c=0 from hb0)])
  have t1:=(cw v (eo c) [0,IntKind.i64.wrap (x.rows+1),65] b (by rw[mT];exact hcb) hb (by simp))
  refine aE X2 [] [(800014,⟨true,bF t1⟩),(700014,⟨true, .agg [.ptr 1000 1000]:: .agg []::bG t1⟩)] [3,4] [] rfl (by(repeat' with_reducible first|exact aL|refine aS ?_ ?_|apply And.intro)<;>first|exact t1|exact rfl|exact⟨rfl,bn _ (by decide)⟩) ?_
  rw[show(([0,IntKind.i64.wrap (x.rows+1),65]:List Int).length:Int)=3 from rfl]
  exact aC X2 [4] rfl (by trivial) (aj (aY rfl (by and_intros<;>first|exact⟨⟩| (first| (simp only[hX,hN,eo];done)| (simp only[hX,hN,eo];with_reducible rfl)|with_reducible rfl;done))))
 ·try simp only[aP]at hb0
  refine aq X2 [0,3,4,6,16] rfl ?_
  refine ah rfl ?_ ?_<;>intro aW
  ·try simp only[aP]at aW
   have hX:jv c x=⟨x.rows,x.av.drop 1,x.ak,x.aB,x.aX,x.seed,x.round,x.replaced,x.cancelled⟩:=(by unfold jv;simp only[if_neg (show¬bY c=0 from hb0),if_pos (show bY c=1 from aW)])
   have hN:mS c=eo c:=(by unfold mS;simp only[if_neg (show¬bY c=0 from hb0),if_pos (show bY c=1 from aW)])
   refine aE X2 [(20,61)] [(600020,⟨true,[]⟩)] [3,4] [] rfl (by and_intros<;>first|exact⟨⟩| (intros;omega)) ?_
   rw[show(Int.toNat 1)=1 from rfl]
   exact aC X2 [4] rfl (by trivial) (aj (aY rfl (by and_intros<;>first|exact⟨⟩| (first| (simp only[hX,hN,eo];done)| (simp only[hX,hN,eo];with_reducible rfl)|with_reducible rfl;done))))
  ·try simp only[aP]at aW
   refine aq X2 [0,3,4,6,22] rfl ?_
   refine ah rfl ?_ ?_<;>intro bz
   ·try simp only[aP]at bz
    have hX:jv c x=⟨x.rows,x.av,x.ak.drop 1,x.aB,x.aX,x.seed,x.round,x.replaced,x.cancelled⟩:=(by unfold jv;simp only[if_neg (show¬bY c=0 from hb0),if_neg (show¬bY c=1 from aW),if_pos (show bY c=2 from bz)])
    have hN:mS c=eo c:=(by unfold mS;simp only[if_neg (show¬bY c=0 from hb0),if_neg (show¬bY c=1 from aW),if_pos (show bY c=2 from bz)])
    refine aE X2 [(26,62)] [(600026,⟨true,[]⟩)] [3,4] [] rfl (by and_intros<;>first|exact⟨⟩| (intros;omega)) ?_
    rw[show(Int.toNat 1)=1 from rfl]
    exact aC X2 [4] rfl (by trivial) (aj (aY rfl (by and_intros<;>first|exact⟨⟩| (first| (simp only[hX,hN,eo];done)| (simp only[hX,hN,eo];with_reducible rfl)|with_reducible rfl;done))))
   ·try simp only[aP]at bz
    refine aq X2 [0,3,4,6,28] rfl ?_
    refine ah rfl ?_ ?_<;>intro dD
    ·try simp only[aP]at dD
     have hX:jv c x=⟨x.rows,x.av,x.ak,x.aB,x.aX,x.seed,([-1,IntKind.i64.wrap (x.round+1),100001]:List Int).getD (aV (eo c) 3).toNat (aI .int),x.replaced,x.cancelled⟩:=(by unfold jv;simp only[if_neg (show¬bY c=0 from hb0),if_neg (show¬bY c=1 from aW),if_neg (show¬bY c=2 from bz),if_pos (show bY c=3 from dD)])
     have hN:mS c=aA (eo c) 3:=(by unfold mS;simp only[if_neg (show¬bY c=0 from hb0),if_neg (show¬bY c=1 from aW),if_neg (show¬bY c=2 from bz),if_pos (show bY c=3 from dD)])
     have t1:=(cw v (eo c) [-1,IntKind.i64.wrap (x.round+1),100001] b (by rw[mT];exact hcb) hb (by simp))
     refine aE X2 [] [(800035,⟨true,bF t1⟩),(700035,⟨true, .agg [.ptr 1000 1000]:: .agg []::bG t1⟩)] [3,4] [] rfl (by(repeat' with_reducible first|exact aL|refine aS ?_ ?_|apply And.intro)<;>first|exact t1|exact rfl|exact⟨rfl,bn _ (by decide)⟩) ?_
     rw[show(([-1,IntKind.i64.wrap (x.round+1),100001]:List Int).length:Int)=3 from rfl]
     exact aC X2 [4] rfl (by trivial) (aj (aY rfl (by and_intros<;>first|exact⟨⟩| (first| (simp only[hX,hN,eo];done)| (simp only[hX,hN,eo];with_reducible rfl)|with_reducible rfl;done))))
    ·try simp only[aP]at dD
     refine aq X2 [0,3,4,6,37] rfl ?_
     refine ah rfl ?_ ?_<;>intro kS
     ·try simp only[aP]at kS
      have hX:jv c x=⟨x.rows,x.av,x.ak,Fw (eo c),x.aX,x.seed,x.round,x.replaced,x.cancelled⟩:=(by unfold jv;simp only[if_neg (show¬bY c=0 from hb0),if_neg (show¬bY c=1 from aW),if_neg (show¬bY c=2 from bz),if_neg (show¬bY c=3 from dD),if_pos (show bY c=4 from kS)])
      have hN:mS c=IW (eo c):=(by unfold mS;simp only[if_neg (show¬bY c=0 from hb0),if_neg (show¬bY c=1 from aW),if_neg (show¬bY c=2 from bz),if_neg (show¬bY c=3 from dD),if_pos (show bY c=4 from kS)])
      have t1:=(F2 v (eo c) b (by rw[mT];exact hcb) hb)
      exact aE X2 [] [(800040,⟨true,bF t1⟩),(700040,⟨true, .agg [.ptr 1000 1000]:: .agg [.ptr 61 164]::bG t1⟩)] [3,4] [] rfl (by(with_reducible and_intros)<;>first|exact⟨⟩|exact t1|exact rfl) (bl 164 64 rfl (aC X2 [4] rfl (by trivial) (aj (aY rfl (by and_intros<;>first|exact⟨⟩| (first| (simp only[hX,hN,eo];done)| (simp only[hX,hN,eo];with_reducible rfl)|with_reducible rfl;done))))))
     ·try simp only[aP]at kS
      refine aq X2 [0,3,4,6,42] rfl ?_
      refine ah rfl ?_ ?_<;>intro Ae
      ·try simp only[aP]at Ae
       have hX:jv c x=⟨x.rows,x.av,x.ak,x.aB,M1 (eo c),x.seed,x.round,x.replaced,x.cancelled⟩:=(by unfold jv;simp only[if_neg (show¬bY c=0 from hb0),if_neg (show¬bY c=1 from aW),if_neg (show¬bY c=2 from bz),if_neg (show¬bY c=3 from dD),if_neg (show¬bY c=4 from kS),if_pos (show bY c=5 from Ae)])
       have hN:mS c=F0 (eo c):=(by unfold mS;simp only[if_neg (show¬bY c=0 from hb0),if_neg (show¬bY c=1 from aW),if_neg (show¬bY c=2 from bz),if_neg (show¬bY c=3 from dD),if_neg (show¬bY c=4 from kS),if_pos (show bY c=5 from Ae)])
       have t1:=(xe v (eo c) b (by rw[mT];exact hcb) hb)
       exact aE X2 [] [(800045,⟨true,bF t1⟩),(700045,⟨true, .agg [.ptr 1000 1000]:: .agg []::bG t1⟩)] [3,4] [] rfl (by(with_reducible and_intros)<;>first|exact⟨⟩|exact t1|exact rfl) (aC X2 [4] rfl (by trivial) (aj (aY rfl (by and_intros<;>first|exact⟨⟩| (first| (simp only[hX,hN,eo];done)| (simp only[hX,hN,eo];with_reducible rfl)|with_reducible rfl;done)))))
      ·try simp only[aP]at Ae
       refine aq X2 [0,3,4,6,47] rfl ?_
       refine ah rfl ?_ ?_<;>intro Jb
       ·try simp only[aP]at Jb
        have hX:jv c x=⟨x.rows,x.av,x.ak,x.aB,x.aX,x.seed,x.round,x.replaced, -1⟩:=(by unfold jv;simp only[if_neg (show¬bY c=0 from hb0),if_neg (show¬bY c=1 from aW),if_neg (show¬bY c=2 from bz),if_neg (show¬bY c=3 from dD),if_neg (show¬bY c=4 from kS),if_neg (show¬bY c=5 from Ae),if_pos (show bY c=6 from Jb)])
        have hN:mS c=eo c:=(by unfold mS;simp only[if_neg (show¬bY c=0 from hb0),if_neg (show¬bY c=1 from aW),if_neg (show¬bY c=2 from bz),if_neg (show¬bY c=3 from dD),if_neg (show¬bY c=4 from kS),if_neg (show¬bY c=5 from Ae),if_pos (show bY c=6 from Jb)])
        exact bt X2 [3,4] rfl (aC X2 [4] rfl (by trivial) (aj (aY rfl (by and_intros<;>first|exact⟨⟩| (first| (simp only[hX,hN,eo];done)| (simp only[hX,hN,eo];with_reducible rfl)|with_reducible rfl;done)))))
       ·try simp only[aP]at Jb
        refine aq X2 [0,3,4,6,50] rfl ?_
        refine ah rfl ?_ ?_<;>intro YH
        ·try simp only[aP]at YH
         have hX:jv c x=⟨x.rows,x.av.set 0 (oV (eo c)),x.ak,x.aB,x.aX,x.seed,x.round,x.replaced,x.cancelled⟩:=(by unfold jv;simp only[if_neg (show¬bY c=0 from hb0),if_neg (show¬bY c=1 from aW),if_neg (show¬bY c=2 from bz),if_neg (show¬bY c=3 from dD),if_neg (show¬bY c=4 from kS),if_neg (show¬bY c=5 from Ae),if_neg (show¬bY c=6 from Jb),if_pos (show bY c=7 from YH)])
         have hN:mS c=tK (eo c):=(by unfold mS;simp only[if_neg (show¬bY c=0 from hb0),if_neg (show¬bY c=1 from aW),if_neg (show¬bY c=2 from bz),if_neg (show¬bY c=3 from dD),if_neg (show¬bY c=4 from kS),if_neg (show¬bY c=5 from Ae),if_neg (show¬bY c=6 from Jb),if_pos (show bY c=7 from YH)])
         have t1:=(F3 v (eo c) b (by rw[mT];exact hcb) hb)
         refine bu X2 [] [(800055,⟨true,bF t1⟩),(700055,⟨true, .agg [.ptr 1000 1000]:: .agg [.ptr 23 123]::bG t1⟩)] [3,4] [] 23 2 MO (by kernel_rfl) rfl (by kernel_rfl) (by(with_reducible and_intros)<;>first|exact⟨⟩|exact t1| (intros;omega)|exact rfl) ?_
         rw[show(Int.toNat 0)=0 from rfl]
         exact aC X2 [4] rfl (by trivial) (aj (aY rfl (by and_intros<;>first|exact⟨⟩| (first| (simp only[hX,hN,eo];done)| (simp only[hX,hN,eo];with_reducible rfl)|with_reducible rfl;done))))
        ·try simp only[aP]at YH
         refine aq X2 [0,3,4,57] rfl ?_
         refine ah rfl ?_ ?_<;>intro hb8
         ·try simp only[aP]at hb8
          have hX:jv c x=⟨x.rows,x.av,x.ak.set 0 (jF (eo c)),x.aB,x.aX,x.seed,x.round,x.replaced,x.cancelled⟩:=(by unfold jv;simp only[if_neg (show¬bY c=0 from hb0),if_neg (show¬bY c=1 from aW),if_neg (show¬bY c=2 from bz),if_neg (show¬bY c=3 from dD),if_neg (show¬bY c=4 from kS),if_neg (show¬bY c=5 from Ae),if_neg (show¬bY c=6 from Jb),if_neg (show¬bY c=7 from YH),if_pos (show bY c=8 from hb8)])
          have hN:mS c=wG (eo c):=(by unfold mS;simp only[if_neg (show¬bY c=0 from hb0),if_neg (show¬bY c=1 from aW),if_neg (show¬bY c=2 from bz),if_neg (show¬bY c=3 from dD),if_neg (show¬bY c=4 from kS),if_neg (show¬bY c=5 from Ae),if_neg (show¬bY c=6 from Jb),if_neg (show¬bY c=7 from YH),if_pos (show bY c=8 from hb8)])
          have t1:=(F5 v (eo c) b (by rw[mT];exact hcb) hb)
          refine bu X2 [] [(800062,⟨true,bF t1⟩),(700062,⟨true, .agg [.ptr 1000 1000]:: .agg [.ptr 24 124, .ptr 26 126, .ptr 32 132, .ptr 34 134]::bG t1⟩)] [3,4] [] 23 2 MO (by kernel_rfl) rfl (by kernel_rfl) (by(with_reducible and_intros)<;>first|exact⟨⟩|exact t1| (intros;omega)|exact rfl) ?_
          rw[show(Int.toNat 0)=0 from rfl]
          exact aC X2 [4] rfl (by trivial) (aj (aY rfl (by and_intros<;>first|exact⟨⟩| (first| (simp only[hX,hN,eo];done)| (simp only[hX,hN,eo];with_reducible rfl)|with_reducible rfl;done))))
         ·try simp only[aP]at hb8
          have hX:jv c x=x:=(by unfold jv;simp only[if_neg (show¬bY c=0 from hb0),if_neg (show¬bY c=1 from aW),if_neg (show¬bY c=2 from bz),if_neg (show¬bY c=3 from dD),if_neg (show¬bY c=4 from kS),if_neg (show¬bY c=5 from Ae),if_neg (show¬bY c=6 from Jb),if_neg (show¬bY c=7 from YH),if_neg (show¬bY c=8 from hb8)])
          have hN:mS c=eo c:=(by unfold mS;simp only[if_neg (show¬bY c=0 from hb0),if_neg (show¬bY c=1 from aW),if_neg (show¬bY c=2 from bz),if_neg (show¬bY c=3 from dD),if_neg (show¬bY c=4 from kS),if_neg (show¬bY c=5 from Ae),if_neg (show¬bY c=6 from Jb),if_neg (show¬bY c=7 from YH),if_neg (show¬bY c=8 from hb8)])
          exact an (aC X2 [4] rfl (by trivial) (aj (aY rfl (by and_intros<;>first|exact⟨⟩| (first| (simp only[hX,hN,eo];done)| (simp only[hX,hN,eo];with_reducible rfl)|with_reducible rfl;done)))))
theorem xg(v:Value)(c:cu)(s:Int)(b:List UInt8)(hcb:c.b=b)(hb:b.length≤1048576)(hs0:1≤s∧s≤100):dA ty Tryz.prog 39 [(1000, .box [.eX v .u8 b,aO (c.i:Int),aO c.h])] [.a (.ptr 1000 0),az s] [(1000, .box [.eX v .u8 b,aO ((rrC c s).i:Int),aO (rrC c s).h]),(61, .arr .bw (Nf c s).av),(62, .arr .bC (Nf c s).ak),(64, .arr .aN (Nf c s).aB.rounds),(68, .arr .int (Nf c s).replaced)] [.agg [aO (Nf c s).rows, .own 61, .own 62,aO (Nf c s).aB.rows, .own 64,aO (Nf c s).aX,aO (Nf c s).seed,aO (Nf c s).round, .own 68,aO (Nf c s).cancelled]]:=by
 refine cq X2 call39 func39 rfl rfl (by decide) ntmps39 (by simp) rfl ?_
 intro zb
 refine aq X2 [0,1,4] rfl (aa ?_)
 have t1:=(Ft v c s b hcb hb ⟨by omega,by omega⟩)
 have t2:=(FE v ((He c s).1) ((He c s).2) b (by rw[Yv];exact hcb) hb (YE c hs0))
 exact aE X2 [] [(800008,⟨true,bF t1⟩),(700008,⟨true, .agg [.ptr 1000 1000]:: .agg [.ptr 61 61, .ptr 62 62, .ptr 64 64, .ptr 68 68]::bG t1⟩),(800009,⟨true,bF t2⟩),(700009,⟨true, .agg [.ptr 1000 1000, .ptr 61 61, .ptr 62 62, .ptr 64 64, .ptr 68 68]:: .agg []::bG t2⟩)] [4] [] rfl (by(with_reducible and_intros);(iterate 2 all_goals try first|exact⟨⟩|exact t1|exact t2);all_goals first|exact rfl) (aj (aY rfl ⟨rfl,rfl,rfl,rfl,rfl,rfl,rfl,rfl,rfl,rfl,rfl,rfl,rfl,rfl,⟨⟩⟩))
end
section
set_option maxRecDepth 100000
theorem sL(l:List Int):So 58 [.a (.sl .int l), .a (.sl .int l)] [aH true]:=by
 refine ay X call58 func58 ntmps58 rfl rfl ?_
 intro zb
 refine cx 0 rfl (fun hla=>(aq X [0,1] rfl (aa (aq X [0,1,10] rfl ?_))))
 refine ah rfl ?_ ?_<;>intro hb0
 ·try simp only[aP]at hb0
  first| (exfalso;simp at hb0;done)|omega
 ·try simp only[aP]at hb0
  skip
  refine an (aa (aq X [0,1,12,13] rfl ?_))
  refine au (aG (fun k=>k≤l.length) (fun k:Nat=> [(13, .one ((az k)))]) (fun k=> []) (fun k=>l.length-k) 0 (fun k=>rfl) (Nat.zero_le _) rfl ?_)
  intro k hk
  refine aq X [0,1,12,13,14] rfl ?_
  refine aa (ah rfl ?_ ?_)<;>intro aW
  ·try simp only[aP]at aW
   refine an (aa (au (aq X [0,1,5,12,13] rfl (cQ X [] [] [0,1,12,13,24] [] 9 MO (by kernel_rfl) rfl (by and_intros<;>first|exact⟨⟩| (intros;omega)) ?_))))
   refine ah rfl ?_ ?_<;>intro bz
   ·try simp only[aP]at bz
    all_goals simp at bz
   ·try simp only[aP]at bz
    skip
    refine an (bt X [0,1,12,13] rfl ?_)
    refine⟨k+1,by omega,by omega,?_⟩
    rw[bH _ k rfl (by omega)]
    try rfl
  ·try simp only[aP]at aW
   exact aK (aq X [4] rfl (aj (af rfl ⟨rfl,⟨⟩⟩)))
theorem tM(a:aR):So 134 [.agg (iz a), .agg (iz a)] [aH true]:=by
 refine ay X call134 func134 ntmps134 rfl rfl ?_
 intro zb
 exact aq X [2,3] rfl (aD X [] [(15,⟨false,[aH (a.share.rows==a.share.rows)]⟩)] [4] [] rfl (by(with_reducible and_intros)<;>first|exact⟨⟩|exact fun _=>(gY a.share a.share)) (aj (af rfl ⟨by simp,⟨⟩⟩)))
theorem sM(a:aN):So 138 [.agg (jM a), .agg (jM a)] [aH true]:=by
 refine ay X call138 func138 ntmps138 rfl rfl ?_
 intro zb
 exact aq X [2,3] rfl (aD X [] [(15,⟨false,[aH (a.db.rows==a.db.rows)]⟩)] [4] [] rfl (by(with_reducible and_intros)<;>first|exact⟨⟩|exact fun _=>(gY a.db a.db)) (aj (af rfl ⟨by simp,⟨⟩⟩)))
theorem cI(l:List aR)(f:FuncId)(hf: ∀p,So f [.agg (iz p), .agg (iz p)] [aH true]):So 133 [.a (.sl .aR l), .a (.sl .aR l), .a (.lit (.func (.func f) #[] #[]))] [aH true]:=by
 refine ay X call133 func133 ntmps133 rfl rfl ?_
 intro zb
 refine cx 0 rfl (fun hla=>(aq X [0,1,2] rfl (aa (aq X [0,1,2,14] rfl ?_))))
 refine ah rfl ?_ ?_<;>intro hb0
 ·try simp only[aP]at hb0
  first| (exfalso;simp at hb0;done)|omega
 ·try simp only[aP]at hb0
  skip
  refine an (aa (aq X [1,2,15,16,17] rfl ?_))
  refine au (aG (fun k=>k≤l.length) (fun k:Nat=> [(17, .one ((az k)))]) (fun k=> []) (fun k=>l.length-k) 0 (fun k=>rfl) (Nat.zero_le _) rfl ?_)
  intro k hk
  refine aq X [1,2,15,16,17,18] rfl ?_
  refine aa (ah rfl ?_ ?_)<;>intro aW
  ·try simp only[aP]at aW
   refine an (aa (au (aC X [1,2,7,8,15,16,17] rfl (by and_intros<;>first|exact⟨⟩| (intros;omega)) (aC X [1,2,8,9,15,16,17] rfl (by and_intros<;>first|exact⟨⟩| (intros;omega)) (aD X [] [(29,⟨false,[aH true]⟩)] [1,2,15,16,17,30] [] rfl (by(with_reducible and_intros)<;>first|exact⟨⟩|exact(hf _)) ?_)))))
   refine ah rfl ?_ ?_<;>intro bz
   ·try simp only[aP]at bz
    all_goals simp at bz
   ·try simp only[aP]at bz
    skip
    refine an (bt X [1,2,15,16,17] rfl ?_)
    refine⟨k+1,by omega,by omega,?_⟩
    rw[bH _ k rfl (by omega)]
    try rfl
  ·try simp only[aP]at aW
   exact aK (aq X [6] rfl (aj (af rfl ⟨rfl,⟨⟩⟩)))
theorem cJ(l:List aN)(f:FuncId)(hf: ∀p,So f [.agg (jM p), .agg (jM p)] [aH true]):So 137 [.a (.sl .aN l), .a (.sl .aN l), .a (.lit (.func (.func f) #[] #[]))] [aH true]:=by
 refine ay X call137 func137 ntmps137 rfl rfl ?_
 intro zb
 refine cx 0 rfl (fun hla=>(aq X [0,1,2] rfl (aa (aq X [0,1,2,14] rfl ?_))))
 refine ah rfl ?_ ?_<;>intro hb0
 ·try simp only[aP]at hb0
  first| (exfalso;simp at hb0;done)|omega
 ·try simp only[aP]at hb0
  skip
  refine an (aa (aq X [1,2,15,16,17] rfl ?_))
  refine au (aG (fun k=>k≤l.length) (fun k:Nat=> [(17, .one ((az k)))]) (fun k=> []) (fun k=>l.length-k) 0 (fun k=>rfl) (Nat.zero_le _) rfl ?_)
  intro k hk
  refine aq X [1,2,15,16,17,18] rfl ?_
  refine aa (ah rfl ?_ ?_)<;>intro aW
  ·try simp only[aP]at aW
   refine an (aa (au (aC X [1,2,7,8,15,16,17] rfl (by and_intros<;>first|exact⟨⟩| (intros;omega)) (aC X [1,2,8,9,15,16,17] rfl (by and_intros<;>first|exact⟨⟩| (intros;omega)) (aD X [] [(29,⟨false,[aH true]⟩)] [1,2,15,16,17,30] [] rfl (by(with_reducible and_intros)<;>first|exact⟨⟩|exact(hf _)) ?_)))))
   refine ah rfl ?_ ?_<;>intro bz
   ·try simp only[aP]at bz
    all_goals simp at bz
   ·try simp only[aP]at bz
    skip
    refine an (bt X [1,2,15,16,17] rfl ?_)
    refine⟨k+1,by omega,by omega,?_⟩
    rw[bH _ k rfl (by omega)]
    try rfl
  ·try simp only[aP]at aW
   exact aK (aq X [6] rfl (aj (af rfl ⟨rfl,⟨⟩⟩)))
theorem dP(l:List bw)(f:FuncId)(hf: ∀p,So f [.agg (bR p), .agg (bR p)] [aH true]):So 53 [.a (.sl .bw l), .a (.sl .bw l), .a (.lit (.func (.func f) #[] #[]))] [aH true]:=by
 refine ay X call53 func53 ntmps53 rfl rfl ?_
 intro zb
 refine cx 0 rfl (fun hla=>(aq X [0,1,2] rfl (aa (aq X [0,1,2,14] rfl ?_))))
 refine ah rfl ?_ ?_<;>intro hb0
 ·try simp only[aP]at hb0
  first| (exfalso;simp at hb0;done)|omega
 ·try simp only[aP]at hb0
  skip
  refine an (aa (aq X [1,2,15,16,17] rfl ?_))
  refine au (aG (fun k=>k≤l.length) (fun k:Nat=> [(17, .one ((az k)))]) (fun k=> []) (fun k=>l.length-k) 0 (fun k=>rfl) (Nat.zero_le _) rfl ?_)
  intro k hk
  refine aq X [1,2,15,16,17,18] rfl ?_
  refine aa (ah rfl ?_ ?_)<;>intro aW
  ·try simp only[aP]at aW
   refine an (aa (au (aC X [1,2,7,8,15,16,17] rfl (by and_intros<;>first|exact⟨⟩| (intros;omega)) (aC X [1,2,8,9,15,16,17] rfl (by and_intros<;>first|exact⟨⟩| (intros;omega)) (aD X [] [(29,⟨false,[aH true]⟩)] [1,2,15,16,17,30] [] rfl (by(with_reducible and_intros)<;>first|exact⟨⟩|exact(hf _)) ?_)))))
   refine ah rfl ?_ ?_<;>intro bz
   ·try simp only[aP]at bz
    all_goals simp at bz
   ·try simp only[aP]at bz
    skip
    refine an (bt X [1,2,15,16,17] rfl ?_)
    refine⟨k+1,by omega,by omega,?_⟩
    rw[bH _ k rfl (by omega)]
    try rfl
  ·try simp only[aP]at aW
   exact aK (aq X [6] rfl (aj (af rfl ⟨rfl,⟨⟩⟩)))
theorem dQ(l:List bC)(f:FuncId)(hf: ∀p,So f [.agg (bK p), .agg (bK p)] [aH true]):So 55 [.a (.sl .bC l), .a (.sl .bC l), .a (.lit (.func (.func f) #[] #[]))] [aH true]:=by
 refine ay X call55 func55 ntmps55 rfl rfl ?_
 intro zb
 refine cx 0 rfl (fun hla=>(aq X [0,1,2] rfl (aa (aq X [0,1,2,14] rfl ?_))))
 refine ah rfl ?_ ?_<;>intro hb0
 ·try simp only[aP]at hb0
  first| (exfalso;simp at hb0;done)|omega
 ·try simp only[aP]at hb0
  skip
  refine an (aa (aq X [1,2,15,16,17] rfl ?_))
  refine au (aG (fun k=>k≤l.length) (fun k:Nat=> [(17, .one ((az k)))]) (fun k=> []) (fun k=>l.length-k) 0 (fun k=>rfl) (Nat.zero_le _) rfl ?_)
  intro k hk
  refine aq X [1,2,15,16,17,18] rfl ?_
  refine aa (ah rfl ?_ ?_)<;>intro aW
  ·try simp only[aP]at aW
   refine an (aa (au (aC X [1,2,7,8,15,16,17] rfl (by and_intros<;>first|exact⟨⟩| (intros;omega)) (aC X [1,2,8,9,15,16,17] rfl (by and_intros<;>first|exact⟨⟩| (intros;omega)) (aD X [] [(29,⟨false,[aH true]⟩)] [1,2,15,16,17,30] [] rfl (by(with_reducible and_intros)<;>first|exact⟨⟩|exact(hf _)) ?_)))))
   refine ah rfl ?_ ?_<;>intro bz
   ·try simp only[aP]at bz
    all_goals simp at bz
   ·try simp only[aP]at bz
    skip
    refine an (bt X [1,2,15,16,17] rfl ?_)
    refine⟨k+1,by omega,by omega,?_⟩
    rw[bH _ k rfl (by omega)]
    try rfl
  ·try simp only[aP]at aW
   exact aK (aq X [6] rfl (aj (af rfl ⟨rfl,⟨⟩⟩)))
theorem wI(a:bw):So 54 [.agg (bR a), .agg (bR a)] [aH true]:=by
 refine ay X call54 func54 ntmps54 rfl rfl ?_
 intro zb
 exact aq X [2,3] rfl (aD X [] [(36,⟨false,[aH true]⟩)] [4] [] rfl (by(with_reducible and_intros)<;>first|exact⟨⟩|exact fun _=>(cI a.received _ tM)) (aj (af rfl ⟨by simp,⟨⟩⟩)))
theorem vr(a:iP):So 57 [.agg (dc a), .agg (dc a)] [aH true]:=by
 refine ay X call57 func57 ntmps57 rfl rfl ?_
 intro zb
 exact aq X [2,3] rfl (aD X [] [(15,⟨false,[aH true]⟩)] [4] [] rfl (by(with_reducible and_intros)<;>first|exact⟨⟩|exact fun _=>(cJ a.rounds _ sM)) (aj (af rfl ⟨by simp,⟨⟩⟩)))
theorem mX(a:eg):So 136 [.agg (bP a), .agg (bP a)] [aH true]:=by
 refine ay X call136 func136 ntmps136 rfl rfl ?_
 intro zb
 exact aq X [2,3] rfl (aD X [] [(7,⟨false,[aH (iY a a)]⟩),(20,⟨false,[aH (a.inbox==a.inbox)]⟩)] [4] [] rfl (by(with_reducible and_intros);(iterate 2 all_goals try first|exact⟨⟩|exact(qB a a)|exact fun _=>(ia a.inbox a.inbox))) (aj (af rfl ⟨by simp[iY],⟨⟩⟩)))
theorem wJ(a:bC):So 56 [.agg (bK a), .agg (bK a)] [aH true]:=by
 refine ay X call56 func56 ntmps56 rfl rfl ?_
 intro zb
 exact aq X [2,3] rfl (aD X [] [(9,⟨false,[aH true]⟩),(15,⟨false,[aH true]⟩)] [4] [] rfl (by(with_reducible and_intros);(iterate 2 all_goals try first|exact⟨⟩|exact(mX a.live)|exact fun _=>(mX a.saved))) (aj (af rfl ⟨by simp,⟨⟩⟩)))
theorem dR(x:bp)(h0:wB x):So 10 [.agg (aT x), .agg (aT x)] [aH true]:=by
 refine ay X call10 func10 ntmps10 rfl rfl ?_
 intro zb
 exact aq X [2,3] rfl (aD X [] [(15,⟨false,[aH true]⟩),(22,⟨false,[aH true]⟩),(29,⟨false,[aH true]⟩),(57,⟨false,[aH true]⟩)] [4] [] rfl (by(with_reducible and_intros);(iterate 4 all_goals try first|exact⟨⟩|exact fun _=>(dP x.av _ wI)|exact fun _=>(dQ x.ak _ wJ)|exact fun _=>(vr x.aB)|exact fun _=>(sL x.replaced))) (aj (af rfl ⟨by simp,⟨⟩⟩)))
end
section
set_option maxRecDepth 100000
theorem YK(l:List UInt8):So 6 [.a (.sl .u8 l)] [aH (decide ((1048576:Int)<(l.length:Int)))]:=by
 refine ay X call6 func6 ntmps6 rfl rfl ?_
 intro zb
 exact aq X [0] rfl (aq X [2] rfl (aj (af rfl ⟨rfl,⟨⟩⟩)))
end
end Go.Proofs.YtcnomgcfijjkmaaGreat.G
