/-
  Names of events; corruptions counted.
-/
import Derived.Test.YtcnomgcfijjkmaaGreatM14
import Derived.Test.YtcnomgcfijjkmaaGreatM15
namespace Go.Proofs.YtcnomgcfijjkmaaGreat.G
set_option linter.all false
open Go.RowKit L D Tryz
section
set_option maxRecDepth 100000
theorem Cv(x:bp)(hR:wR x):So 82 [.agg (aT x)] [.agg (aT (cR x))]:=by
 refine ay X call82 func82 ntmps82 rfl rfl ?_
 intro zb
 have h0:=hR.1
 refine aq X [1,2] rfl (aa (aD X [] [(4,⟨false,[aH (okW x)]⟩)] [1,2,10] [] rfl (by(with_reducible and_intros)<;>first|exact⟨⟩|exact(cB x)) ?_))
 refine ah rfl ?_ ?_<;>intro hb0
 ·have hk:gI x=false:=b9 hb0 (by simp only[gI,aU]<;>first|rfl|ac_rfl)
  have hc:=v5 hk
  exact aD X [] [(12,⟨true,[.agg (aT x)]⟩)] [2] [] rfl (by(with_reducible and_intros)<;>first|exact⟨⟩|exact(dr x h0)) (aj (af rfl (by and_intros<;>first|exact⟨⟩| (rw[hc];done))))
 ·have hk:gI x=true:=bX hb0 (by simp only[gI,aU]<;>first|rfl|ac_rfl)
  have hc:=xZ hk
  obtain⟨hok,hr9⟩:=IG hk
  refine an (aa ?_)
  have t1:=(sZ x hR hok)
  exact aE X [] [(14,⟨true,bJ t1⟩)] [2] [] rfl (by(with_reducible and_intros)<;>first|exact⟨⟩|exact t1) (aj (af rfl (by and_intros<;>first|exact⟨⟩| (rw[hc];done))))
end
section
set_option maxRecDepth 100000
theorem mW(c:eg)(b:List UInt8)(h0:dL List.length c.aJ≤1048576∧dL List.length c.inbox≤1048576)(hb:b.length≤1048576):So 211 [.agg (bP c), .a (.sl .u8 b)] [.agg (bP (ir c b)),aH (qi c b)]:=by
 refine ay X call211 func211 ntmps211 rfl rfl ?_
 intro zb
 have Aq:=ec h0.1
 refine aq X [1,2,4] rfl (aD X [] [(8,⟨true,[.agg (bP c)]⟩)] [1,2,4,6] [] rfl (by(with_reducible and_intros)<;>first|exact⟨⟩|exact(ew c h0)) (cQ X [(12,40),(14,60)] [(12,⟨true,[.a (.sl .u8 b)]⟩),(500013,⟨true,[]⟩)] [2,4,6] [] 5 MO (by kernel_rfl) rfl (by(repeat' with_reducible first|exact aL|refine aS ?_ ?_|apply And.intro)<;>first|exact(cD b (by first|assumption|omega| (simp;done)| (simp;omega)))|exact rfl|exact⟨rfl,bn _ (by decide)⟩| (simp only[dO,maxLen,lens];omega)) ?_))
 refine aa (aD X [] [(17,⟨false,[aH (dy c)]⟩),(21,⟨false,[aH (dy (MN c b))]⟩)] [2,4,6,23] [] rfl (by(with_reducible and_intros);(iterate 2 all_goals try first|exact⟨⟩|exact(dW c)|exact fun _=>(dW (MN c b)))) ?_)
 refine ah rfl ?_ ?_<;>intro hb0
 ·have hk:qi c b=false:=b9 hb0 (by simp only[qi,aU]<;>first|rfl|ac_rfl)
  have hq:=OM hk
  exact aD X [] [(25,⟨true,[.agg (bP c)]⟩)] [4,5] [] rfl (by(with_reducible and_intros)<;>first|exact⟨⟩|exact(ew c h0)) (aj (af rfl (by and_intros<;>first|exact⟨⟩| (rw[hq];done)| (rw[hk];done))))
 ·have hk:qi c b=true:=bX hb0 (by simp only[qi,aU]<;>first|rfl|ac_rfl)
  have hq:=Ac hk
  exact an (aC X [4,5] rfl (by trivial) (aj (af rfl (by and_intros<;>first|exact⟨⟩| (rw[hq];rfl;done)| (rw[hk];done)))))
theorem tF(d:bC)(b:List UInt8)(h0:bO d≤1048576)(hb:b.length≤1048576):So 148 [.agg (bK d), .a (.sl .u8 b)] [.agg (bK (qU d b)),aH (uZ d b)]:=by
 refine ay X call148 func148 ntmps148 rfl rfl ?_
 intro zb
 have rC:cj d.live≤1048576∧cj d.saved≤1048576:=by unfold bO at h0;omega
 unfold cj at rC
 refine aq X [1,2,4] rfl (aD X [] [(14,⟨true,[.agg (bP (ir d.live b)),aH (qi d.live b)]⟩)] [1,2,4,6,7] [] rfl (by(with_reducible and_intros)<;>first|exact⟨⟩|exact(mW d.live b ⟨by omega,by omega⟩ hb)) (aD X [] [(21,⟨true,[.agg (bP (ir d.saved b)),aH (qi d.saved b)]⟩)] [2,4,6,7,8,9] [] rfl (by(with_reducible and_intros)<;>first|exact⟨⟩|exact(mW d.saved b ⟨by omega,by omega⟩ hb)) (aa (aD X [] [(25,⟨false,[aH (c9 d)]⟩)] [2,4,6,8,34] [] rfl (by(with_reducible and_intros)<;>first|exact⟨⟩|exact(dY d)) ?_))))
 refine ah rfl ?_ ?_<;>intro hb0
 ·have hk:uZ d b=false:=b9 hb0 (by simp only[uZ,aU]<;>first|rfl|ac_rfl)
  have hq:=IL hk
  exact aD X [] [(36,⟨true,[.agg (bK d)]⟩)] [4,5] [] rfl (by(with_reducible and_intros)<;>first|exact⟨⟩|exact(fM d h0)) (aj (af rfl (by and_intros<;>first|exact⟨⟩| (rw[hq];done)| (rw[hk];done))))
 ·have hk:uZ d b=true:=bX hb0 (by simp only[uZ,aU]<;>first|rfl|ac_rfl)
  have hq:=La hk
  exact an (aC X [4,5] rfl (by trivial) (aj (af rfl (by and_intros<;>first|exact⟨⟩| (rw[hq];done)| (rw[hk];done)))))
theorem yd(d:bC)(h0:bO d≤1048576):So 149 [.agg (bK d)] [.agg (bK (B6 d))]:=by
 refine ay X call149 func149 ntmps149 rfl rfl ?_
 intro zb
 have rC:cj d.live≤1048576∧cj d.saved≤1048576:=by unfold bO at h0;omega
 unfold cj at rC
 refine aq X [1,2] rfl (aa (aD X [] [(4,⟨false,[aH (c9 d)]⟩)] [1,2,5] [] rfl (by(with_reducible and_intros)<;>first|exact⟨⟩|exact(dY d)) ?_))
 refine ah rfl ?_ ?_<;>intro hb0
 ·have hk:c9 d=false:=by simpa using hb0
  have hd:B6 d=d:=by rw[B6,hk];rfl
  exact aD X [] [(7,⟨true,[.agg (bK d)]⟩)] [2] [] rfl (by(with_reducible and_intros)<;>first|exact⟨⟩|exact(fM d h0)) (aj (af rfl (by and_intros<;>first|exact⟨⟩| (rw[hd];done))))
 ·have hk:c9 d=true:=by simpa using hb0
  have hd:B6 d=⟨d.saved,d.saved⟩:=by rw[B6,if_pos hk]
  exact an (aD X [] [(10,⟨true,[.agg (bK (⟨d.saved,d.saved⟩:bC))]⟩)] [2] [] rfl (by(with_reducible and_intros)<;>first|exact⟨⟩|exact(qW d.saved ⟨by omega,by omega⟩)) (aj (af rfl (by and_intros<;>first|exact⟨⟩| (rw[hd];done)))))
theorem vm(x:bp)(c:Int)(b:List UInt8)(h0:wB x)(hb:b.length≤1048576):So 76 [.agg (aT x),az c, .a (.sl .u8 b)] [.agg (aT (KX x c b)),aH (KW x c b)]:=by
 refine ay X call76 func76 ntmps76 rfl rfl ?_
 intro zb
 refine bB 0 1 rfl rfl (fun nv=> ?_)
 refine bB 0 2 rfl rfl (fun mo=> ?_)
 have Vt:=wY h0
 have o7:=qJ h0
 have hw:IntKind.i64.wrap ((x.ak.length:Int)-1)=(x.ak.length:Int)-1:=bV (by omega)
 refine aq X [1,2,3,6] rfl (aD X [] [(12,⟨true,[.agg (aT x)]⟩)] [1,2,3,6,8] [] rfl (by(with_reducible and_intros)<;>first|exact⟨⟩|exact(dg x h0)) (aa (aD X [] [(14,⟨false,[aH (okW x)]⟩),(19,⟨false,[aH (ku x c)]⟩)] [1,2,3,6,8,21] [] rfl (by(with_reducible and_intros);(iterate 2 all_goals try first|exact⟨⟩|exact(b7 x)|exact fun _=>(ff x c))) ?_)))
 refine ah rfl ?_ ?_<;>intro hb0
 ·have hk:dm x c=false:=b9 hb0 (by simp only[dm,aU]<;>first|rfl|ac_rfl)
  have hq:=MT (b:=b) hk
  exact aC X [6,7] rfl (by trivial) (aj (af rfl (by and_intros<;>first|exact⟨⟩| (rw[hq.1];done)| (rw[hq.2];done))))
 ·have hk:dm x c=true:=bX hb0 (by simp only[dm,aU]<;>first|rfl|ac_rfl)
  obtain⟨hok,hc0,rC⟩:=jL hk
  have Cw:=Bv hk
  have hq:=Da (b:=b) hk
  refine an (aa ?_)
  have t1:=(tF (x.ak.getD c.toNat (aI .bC)) b Cw hb)
  refine aE X [] [(30,⟨true,bJ t1⟩)] [1,6,8,9,10] [] rfl (by(with_reducible and_intros)<;>first|exact⟨⟩|exact t1| (intros;omega)) (aa (aq X [1,6,8,9,10,33] rfl ?_))
  refine ah rfl ?_ ?_<;>intro aW
  ·exact eO X [6,8,10] rfl (by and_intros<;>first|exact⟨⟩| (intros;omega)) (aC X [6,7] rfl (by trivial) (aj (af rfl (by and_intros<;>first|exact⟨⟩| (rw[hq.1];rfl;done)| (rw[hq.2];rfl;done)))))
  ·have hs:=Lb hk aW
   exact an (aC X [6,7] rfl (by trivial) (aj (af rfl (by and_intros<;>first|exact⟨⟩| (rw[hs];done)| (rw[hq.2];rfl;done)))))
theorem yf(x:bp)(c:Int)(h0:wB x):So 77 [.agg (aT x),az c] [.agg (aT (Ja x c)),aH (dm x c)]:=by
 refine ay X call77 func77 ntmps77 rfl rfl ?_
 intro zb
 refine bB 0 1 rfl rfl (fun nv=> ?_)
 refine bB 0 2 rfl rfl (fun mo=> ?_)
 have Vt:=wY h0
 have o7:=qJ h0
 have hw:IntKind.i64.wrap ((x.ak.length:Int)-1)=(x.ak.length:Int)-1:=bV (by omega)
 refine aq X [1,2,4] rfl (aD X [] [(8,⟨true,[.agg (aT x)]⟩)] [1,2,4,6] [] rfl (by(with_reducible and_intros)<;>first|exact⟨⟩|exact(dg x h0)) (aa (aD X [] [(10,⟨false,[aH (okW x)]⟩),(15,⟨false,[aH (ku x c)]⟩)] [1,2,4,6,17] [] rfl (by(with_reducible and_intros);(iterate 2 all_goals try first|exact⟨⟩|exact(b7 x)|exact fun _=>(ff x c))) ?_)))
 refine ah rfl ?_ ?_<;>intro hb0
 ·have hk:dm x c=false:=b9 hb0 (by simp only[dm,aU]<;>first|rfl|ac_rfl)
  have hq:=MU hk
  exact aC X [4,5] rfl (by trivial) (aj (af rfl (by and_intros<;>first|exact⟨⟩| (rw[hq];done)| (rw[hk];done))))
 ·have hk:dm x c=true:=bX hb0 (by simp only[dm,aU]<;>first|rfl|ac_rfl)
  obtain⟨hok,hc0,rC⟩:=jL hk
  have Cw:=Bv hk
  have hq:=ON hk
  exact an (cQ X [] [(27,⟨true,[.agg (bK (B6 (x.ak.getD c.toNat (aI .bC))))]⟩)] [4,6] [] 10 MO (by kernel_rfl) rfl (by(with_reducible and_intros)<;>first|exact⟨⟩|exact(yd (x.ak.getD c.toNat (aI .bC)) Cw)| (intros;omega)) (aC X [4,5] rfl (by trivial) (aj (af rfl (by and_intros<;>first|exact⟨⟩| (rw[hq];rfl;done)| (rw[hk];done))))))
theorem vn(x:bp)(i b:Int)(h0:wB x):So 78 [.agg (aT x),az i,az b] [.agg (aT (LA x i b)),aH (qV x i b)]:=by
 refine ay X call78 func78 ntmps78 rfl rfl ?_
 intro zb
 refine bB 0 1 rfl rfl (fun nv=> ?_)
 refine bB 0 2 rfl rfl (fun mo=> ?_)
 have Vt:=wY h0
 have o7:=qJ h0
 refine aq X [1,2,3,6] rfl (aD X [] [(10,⟨true,[.agg (aT x)]⟩)] [1,2,3,6,8] [] rfl (by(with_reducible and_intros)<;>first|exact⟨⟩|exact(dg x h0)) (aa (aa ?_)))
 have t1:=(aM i 0 (IntKind.i64.wrap ((x.av.length:Int)-1)))
 refine aE X [] [(12,⟨false,[aH (okW x)]⟩),(20,⟨false,bJ t1⟩),(25,⟨false,[aH (inr b 0 3)]⟩)] [1,2,6,8,27] [] rfl (by(with_reducible and_intros);(iterate 3 all_goals try first|exact⟨⟩|exact(b7 x)|exact fun _=>t1|exact fun _=>(aM b 0 3))) ?_
 refine ah rfl ?_ ?_<;>intro hb0
 ·have hk:qV x i b=false:=b9 hb0 (by simp only[qV,aU]<;>first|rfl|ac_rfl)
  have hq:=MV hk
  exact aC X [6,7] rfl (by trivial) (aj (af rfl (by and_intros<;>first|exact⟨⟩| (rw[hq];done)| (rw[hk];done))))
 ·have hk:qV x i b=true:=bX hb0 (by simp only[qV,aU]<;>first|rfl|ac_rfl)
  have hcb:=IE hk
  have hq:=OO hk
  exact an (aC X [6,8] rfl (by and_intros<;>first|exact⟨⟩| (intros;omega)) (aC X [6,7] rfl (by trivial) (aj (af rfl (by and_intros<;>first|exact⟨⟩| (rw[hq];rfl;done)| (rw[hk];done))))))
theorem ij(x:bp)(e:Ev)(hR:wR x)(hb:e.body.length≤1048576):So 21 [.agg (aT x), .agg (tX e)] [.agg (aT (kr x e)),aH (ju x e)]:=by
 refine ay X call21 func21 ntmps21 rfl rfl ?_
 intro zb
 have h0:=hR.1
 refine bB 0 1 rfl rfl (fun nv=> ?_)
 refine bB 0 2 rfl rfl (fun mo=> ?_)
 have Vt:=wY h0
 have o7:=qJ h0
 have hw:IntKind.i64.wrap ((x.ak.length:Int)-1)=(x.ak.length:Int)-1:=bV (by omega)
 refine aq X [2,3,4] rfl (aD X [] [(8,⟨true,[.agg (aT x)]⟩)] [2,3,4,6] [] rfl (by(with_reducible and_intros)<;>first|exact⟨⟩|exact(dg x h0)) (aa (aD X [] [(10,⟨false,[aH (okW x)]⟩)] [2,3,4,6,11] [] rfl (by(with_reducible and_intros)<;>first|exact⟨⟩|exact(b7 x)) ?_)))
 refine ah rfl ?_ ?_<;>intro hb0
 ·have hok:okW x=false:=by simpa using hb0
  have hv:=T2 (e:=e) hok
  exact aC X [4,5] rfl (by trivial) (aj (af rfl (by and_intros<;>first|exact⟨⟩| (rw[hv.1];done)| (rw[hv.2];done))))
 ·have hok:okW x=true:=by simpa using hb0
  refine an (aa (aq X [2,3,4,6,14] rfl (au (aq X [2,3,4,6,14,15] rfl ?_))))
  refine ah rfl ?_ ?_<;>intro aW
  ·try simp only[aP]at aW
   have hv:=aao hok aW
   exact aa (bu X [] [(18,⟨true,[.agg (aT (cR x))]⟩)] [4,5] [] 95 3 MO (by kernel_rfl) rfl (by kernel_rfl) (by(with_reducible and_intros)<;>first|exact⟨⟩|exact(mR x hR)) (aj (af rfl (by and_intros<;>first|exact⟨⟩| (rw[hv.1];done)| (rw[hv.2];done)))))
  ·try simp only[aP]at aW
   refine aq X [2,3,4,6,14,22] rfl ?_
   refine ah rfl ?_ ?_<;>intro bz
   ·try simp only[aP]at bz
    have hv:=aap hok bz
    refine aa ?_
    have t1:=(vm x e.node e.body h0 hb)
    exact aE X [] [(29,⟨true,bJ t1⟩)] [4,5] [] rfl (by(with_reducible and_intros)<;>first|exact⟨⟩|exact t1) (aj (af rfl (by and_intros<;>first|exact⟨⟩| (rw[hv.1];done)| (rw[hv.2];done))))
   ·try simp only[aP]at bz
    refine aq X [2,3,4,6,14,32] rfl ?_
    refine ah rfl ?_ ?_<;>intro dD
    ·try simp only[aP]at dD
     have hv:=aaq hok dD
     exact aD X [] [(37,⟨true,[.agg (aT (Ja x e.node)),aH (dm x e.node)]⟩)] [4,5] [] rfl (by(with_reducible and_intros)<;>first|exact⟨⟩|exact(yf x e.node h0)) (aj (af rfl (by and_intros<;>first|exact⟨⟩| (rw[hv.1];done)| (rw[hv.2];done))))
    ·try simp only[aP]at dD
     refine aq X [2,3,4,6,14,40] rfl ?_
     refine ah rfl ?_ ?_<;>intro kS
     ·try simp only[aP]at kS
      have hv:=aar hok kS
      refine aa ?_
      have t1:=(vn x e.node e.value h0)
      exact aE X [] [(47,⟨true,bJ t1⟩)] [4,5] [] rfl (by(with_reducible and_intros)<;>first|exact⟨⟩|exact t1) (aj (af rfl (by and_intros<;>first|exact⟨⟩| (rw[hv.1];done)| (rw[hv.2];done))))
     ·try simp only[aP]at kS
      refine aq X [2,3,4,6,50] rfl ?_
      refine ah rfl ?_ ?_<;>intro Ae
      ·try simp only[aP]at Ae
       have hv:=aas hok Ae
       refine aD X [] [(55,⟨false,[aH (ku x e.node)]⟩)] [2,3,4,6,55] [] rfl (by(with_reducible and_intros)<;>first|exact⟨⟩|exact(ff x e.node)) ?_
       refine ah rfl ?_ ?_<;>intro Jb
       ·have hh:ku x e.node=true:=Jb
        have hk:dm x e.node=true:=by rw[Ad hok];exact hh
        obtain⟨_,hc0,rC⟩:=jL hk
        have Cw:=Bv hk
        have hq:=OP hk
        exact cQ X [] [(66,⟨true,[.agg (bK (FX (x.ak.getD e.node.toNat (aI .bC))))]⟩)] [4,6] [] 12 MO (by kernel_rfl) rfl (by(with_reducible and_intros)<;>first|exact⟨⟩|exact(pP (x.ak.getD e.node.toNat (aI .bC)) Cw)| (intros;omega)) (aC X [4,5] rfl (by trivial) (aj (af rfl (by and_intros<;>first|exact⟨⟩| (rw[hv.1,hq];rfl;done)| (rw[hv.2,hk];done)))))
       ·have hh:ku x e.node=false:=Jb
        have hk:dm x e.node=false:=by rw[Ad hok];exact hh
        have hq:=MW hk
        exact an (aC X [4,5] rfl (by trivial) (aj (af rfl (by and_intros<;>first|exact⟨⟩| (rw[hv.1,hq];done)| (rw[hv.2,hk];done)))))
      ·try simp only[aP]at Ae
       have hv:=aat hok aW bz dD kS Ae
       exact an (aC X [4,5] rfl (by trivial) (aj (af rfl (by and_intros<;>first|exact⟨⟩| (rw[hv.1];done)| (rw[hv.2];done)))))
theorem jh(x:bp)(l:List Ev)(hC:wC x 4100000)(hl: ∀e,e∈l→e.body.length≤1048576):So 24 [.agg (aT x), .a (.sl .Ev l)] [.agg (aT (iM x (cG l)))]:=by
 refine ay X call24 func24 ntmps24 rfl rfl ?_
 intro zb
 refine cx 1 rfl (fun j0=> ?_)
 have h0:wB x:=Fe hC (by decide)
 have hmm:=Iv (l.length:Int) 100
 refine aq X [1,2,4] rfl (aD X [] [(9,⟨true,[.agg (aT x)]⟩)] [1,4,5] [] rfl (by(with_reducible and_intros)<;>first|exact⟨⟩|exact(dg x h0)) (aa (aC X [4,5,14,15,16] rfl (by and_intros<;>first|exact⟨⟩| (intros;omega)) ?_)))
 rw[Lc]
 refine au (aG (fun k=>k≤(cG l).length) (fun k:Nat=> [(16, .one ((az k)))]) (fun k=> [(10, .arr .bw (iM x ((cG l).take k)).av),(11, .arr .bC (iM x ((cG l).take k)).ak),(13, .arr .aN (iM x ((cG l).take k)).aB.rounds),(17, .arr .int (iM x ((cG l).take k)).replaced),(5, .box [aO (iM x ((cG l).take k)).rows, .own 10, .own 11,aO (iM x ((cG l).take k)).aB.rows, .own 13,aO (iM x ((cG l).take k)).aX,aO (iM x ((cG l).take k)).seed,aO (iM x ((cG l).take k)).round, .own 17,aO (iM x ((cG l).take k)).cancelled])]) (fun k=>(cG l).length-k) 0 (fun k=>rfl) (Nat.zero_le _) rfl ?_)
 intro k hk
 have hre:=T3 hC l k
 have hle:=Bw l
 refine aq X [4,5,14,15,16,17] rfl ?_
 refine aa (ah rfl ?_ ?_)<;>intro hb0
 ·try simp only[aP]at hb0
  have xF:k<(cG l).length:=hb0
  have hs:=G2 x (cG l) k xF
  have hez:=Ld hl xF
  refine an (aa (au (aC X [4,5,7,14,15,16] rfl (by and_intros<;>first|exact⟨⟩| (intros;omega)) ?_)))
  have t1:=(ij (iM x ((cG l).take k)) ((cG l).getD k (aI .Ev)) hre hez)
  refine aE X [(23,150)] [(23,⟨true,bJ t1⟩)] [4,5,14,15,16] [] rfl (by(with_reducible and_intros)<;>first|exact⟨⟩|exact t1) (bl 151 10 rfl (bl 152 11 rfl (bl 154 13 rfl (bl 158 17 rfl (bt X [4,5,14,15,16] rfl ?_)))))
  refine⟨k+1,by omega,by omega,?_⟩
  rw[bH _ k rfl (by omega),hs]
  try rfl
 ·try simp only[aP]at hb0
  have hke:(cG l).take k=(cG l):=List.take_of_length_le hb0
  exact aK (aC X [4] rfl (by trivial) (aj (af rfl (by and_intros<;>first|exact⟨⟩| (rw[hke];done)))))
theorem fW(x:bp)(l:List Ev)(hC:wC x 4100000)(hl: ∀e,e∈l→e.body.length≤1048576):So 25 [.agg (aT x), .a (.sl .Ev l)] [az ((xU x (cG l):Nat):Int)]:=by
 refine ay X call25 func25 ntmps25 rfl rfl ?_
 intro zb
 refine cx 1 rfl (fun j0=> ?_)
 have h0:wB x:=Fe hC (by decide)
 have hmm:=Iv (l.length:Int) 100
 refine aq X [1,2] rfl (aq X [1,2,5] rfl (aa (aC X [2,5,14,15,16] rfl (by and_intros<;>first|exact⟨⟩| (intros;omega)) ?_)))
 rw[Lc]
 refine au (aG (fun k=>k≤(cG l).length) (fun k:Nat=> [(5, .one ((az ((xU x ((cG l).take k):Nat):Int)))),(16, .one ((az k)))]) (fun k=> [(2, .box [aO (iM x ((cG l).take k)).rows, .sl .bw (iM x ((cG l).take k)).av, .sl .bC (iM x ((cG l).take k)).ak,aO (iM x ((cG l).take k)).aB.rows, .sl .aN (iM x ((cG l).take k)).aB.rounds,aO (iM x ((cG l).take k)).aX,aO (iM x ((cG l).take k)).seed,aO (iM x ((cG l).take k)).round, .sl .int (iM x ((cG l).take k)).replaced,aO (iM x ((cG l).take k)).cancelled])]) (fun k=>(cG l).length-k) 0 (fun k=>rfl) (Nat.zero_le _) rfl ?_)
 intro k hk
 have hre:=T3 hC l k
 have hle:=Bw l
 have yx:=OD ((cG l).take k) x
 have htl:((cG l).take k).length≤100:=by rw[List.length_take];omega
 refine aq X [2,5,14,15,16,17] rfl ?_
 refine aa (ah rfl ?_ ?_)<;>intro hb0
 ·try simp only[aP]at hb0
  have xF:k<(cG l).length:=hb0
  have hs:=G2 x (cG l) k xF
  have hez:=Ld hl xF
  have Xh:=Qf x (cG l) k xF
  refine an (aa (au (aC X [2,5,7,14,15,16] rfl (by and_intros<;>first|exact⟨⟩| (intros;omega)) (aa ?_))))
  have t1:=(ij (iM x ((cG l).take k)) ((cG l).getD k (aI .Ev)) hre hez)
  refine aE X [] [(23,⟨false,bJ t1⟩)] [2,5,8,9,14,15,16] [] rfl (by(with_reducible and_intros)<;>first|exact⟨⟩|exact t1) (aa (aq X [2,5,8,14,15,16,26] rfl ?_))
  refine ah rfl ?_ ?_<;>intro aW
  ·have ho:ju (iM x ((cG l).take k)) ((cG l).getD k (aI .Ev))=true:=aW
   rw[if_pos ho]at Xh
   refine bt X [2,5,8,14,15,16] rfl (eO X [2,5,14,15,16] rfl (by trivial) (bt X [2,5,14,15,16] rfl ?_))
   refine⟨k+1,by omega,by omega,?_⟩
   rw[bH _ k rfl (by omega),bH _ (xU x ((cG l).take k)) rfl (by omega),hs,Xh]
   try rfl
  ·have ho:ju (iM x ((cG l).take k)) ((cG l).getD k (aI .Ev))=false:=aW
   rw[if_neg (by rw[ho];decide),Nat.add_zero]at Xh
   refine an (eO X [2,5,14,15,16] rfl (by trivial) (bt X [2,5,14,15,16] rfl ?_))
   refine⟨k+1,by omega,by omega,?_⟩
   rw[bH _ k rfl (by omega),hs,Xh]
   try rfl
 ·try simp only[aP]at hb0
  have hke:(cG l).take k=(cG l):=List.take_of_length_le hb0
  exact aK (aq X [4] rfl (aj (af rfl ⟨by rw[hke],⟨⟩⟩)))
theorem Af(x:bp)(e:Ev)(hR:wR x)(hb:e.body.length≤1048576):So 22 [.agg (aT x), .agg (tX e)] [.agg (aT (kr x e)),aH (ju x e)]:=by
 refine ay X call22 func22 ntmps22 rfl rfl ?_
 intro zb
 have h0:=hR.1
 refine bB 0 1 rfl rfl (fun nv=> ?_)
 refine bB 0 2 rfl rfl (fun mo=> ?_)
 have Vt:=wY h0
 have o7:=qJ h0
 have hw:IntKind.i64.wrap ((x.ak.length:Int)-1)=(x.ak.length:Int)-1:=bV (by omega)
 refine aq X [2,3,4] rfl (aa (aD X [] [(8,⟨false,[aH (okW x)]⟩)] [2,3,4,9] [] rfl (by(with_reducible and_intros)<;>first|exact⟨⟩|exact(cB x)) ?_))
 refine ah rfl ?_ ?_<;>intro hb0
 ·have hok:okW x=false:=by simpa using hb0
  have hv:=T2 (e:=e) hok
  exact aD X [] [(11,⟨true,[.agg (aT x)]⟩)] [4,5] [] rfl (by(with_reducible and_intros)<;>first|exact⟨⟩|exact(dr x h0)) (aj (af rfl (by and_intros<;>first|exact⟨⟩| (rw[hv.1];done)| (rw[hv.2];done))))
 ·have hok:okW x=true:=by simpa using hb0
  refine an (aa (aq X [2,3,4,13] rfl (au (aq X [2,3,4,13,14] rfl ?_))))
  refine ah rfl ?_ ?_<;>intro aW
  ·try simp only[aP]at aW
   have hv:=aao hok aW
   exact aa (bu X [] [(17,⟨true,[.agg (aT (cR x))]⟩)] [4,5] [] 95 3 MO (by kernel_rfl) rfl (by kernel_rfl) (by(with_reducible and_intros)<;>first|exact⟨⟩|exact(Cv x hR)) (aj (af rfl (by and_intros<;>first|exact⟨⟩| (rw[hv.1];done)| (rw[hv.2];done)))))
  ·try simp only[aP]at aW
   refine aq X [2,3,4,13,21] rfl ?_
   refine ah rfl ?_ ?_<;>intro bz
   ·try simp only[aP]at bz
    have hv:=aap hok bz
    refine aa ?_
    have t1:=(iN x e.node e.body h0 hb)
    exact aE X [] [(28,⟨true,bJ t1⟩)] [4,5] [] rfl (by(with_reducible and_intros)<;>first|exact⟨⟩|exact t1) (aj (af rfl (by and_intros<;>first|exact⟨⟩| (rw[hv.1];done)| (rw[hv.2];done))))
   ·try simp only[aP]at bz
    refine aq X [2,3,4,13,31] rfl ?_
    refine ah rfl ?_ ?_<;>intro dD
    ·try simp only[aP]at dD
     have hv:=aaq hok dD
     exact aD X [] [(36,⟨true,[.agg (aT (Ja x e.node)),aH (dm x e.node)]⟩)] [4,5] [] rfl (by(with_reducible and_intros)<;>first|exact⟨⟩|exact(oL x e.node h0)) (aj (af rfl (by and_intros<;>first|exact⟨⟩| (rw[hv.1];done)| (rw[hv.2];done))))
    ·try simp only[aP]at dD
     refine aq X [2,3,4,13,39] rfl ?_
     refine ah rfl ?_ ?_<;>intro kS
     ·try simp only[aP]at kS
      have hv:=aar hok kS
      refine aa ?_
      have t1:=(mG x e.node e.value h0)
      exact aE X [] [(46,⟨true,bJ t1⟩)] [4,5] [] rfl (by(with_reducible and_intros)<;>first|exact⟨⟩|exact t1) (aj (af rfl (by and_intros<;>first|exact⟨⟩| (rw[hv.1];done)| (rw[hv.2];done))))
     ·try simp only[aP]at kS
      refine aq X [2,3,4,49] rfl ?_
      refine ah rfl ?_ ?_<;>intro Ae
      ·try simp only[aP]at Ae
       have hv:=aas hok Ae
       refine aD X [] [(52,⟨true,[.agg (aT x)]⟩)] [2,3,4,6] [] rfl (by(with_reducible and_intros)<;>first|exact⟨⟩|exact(dr x h0)) (aa (aa ?_))
       have t1:=(bf e.node 0 (IntKind.i64.wrap ((x.ak.length:Int)-1)))
       refine aE X [] [(59,⟨false,bJ t1⟩)] [2,3,4,6,60] [] rfl (by(with_reducible and_intros)<;>first|exact⟨⟩|exact t1) ?_
       refine ah rfl ?_ ?_<;>intro Jb
       ·have hh:ku x e.node=false:=by rw[hw]at Jb;unfold ku;simpa using Jb
        have hk:dm x e.node=false:=by rw[Ad hok];exact hh
        have hq:=MW hk
        exact aC X [4,5] rfl (by trivial) (aj (af rfl (by and_intros<;>first|exact⟨⟩| (rw[hv.1,hq];done)| (rw[hv.2,hk];done))))
       ·have hh:ku x e.node=true:=by rw[hw]at Jb;unfold ku;simpa using Jb
        have hk:dm x e.node=true:=by rw[Ad hok];exact hh
        obtain⟨_,hc0,rC⟩:=jL hk
        have Cw:=Bv hk
        have hq:=OP hk
        exact an (cQ X [] [(72,⟨true,[.agg (bK (FX (x.ak.getD e.node.toNat (aI .bC))))]⟩)] [4,6] [] 12 MO (by kernel_rfl) rfl (by(with_reducible and_intros)<;>first|exact⟨⟩|exact(pQ (x.ak.getD e.node.toNat (aI .bC)) Cw)| (intros;omega)) (aC X [4,5] rfl (by trivial) (aj (af rfl (by and_intros<;>first|exact⟨⟩| (rw[hv.1,hq];rfl;done)| (rw[hv.2,hk];done))))))
      ·try simp only[aP]at Ae
       have hv:=aat hok aW bz dD kS Ae
       exact an (aD X [] [(76,⟨true,[.agg (aT x)]⟩)] [4,5] [] rfl (by(with_reducible and_intros)<;>first|exact⟨⟩|exact(dr x h0)) (aj (af rfl (by and_intros<;>first|exact⟨⟩| (rw[hv.1];done)| (rw[hv.2];done)))))
end
section
set_option maxRecDepth 100000
theorem CD(v:Value)(c:cu)(b:List UInt8)(hcb:c.b=b)(hb:b.length≤1048576):dA ty Tryz.prog 73 [(1000, .box [.eX v .u8 b,aO (c.i:Int),aO c.h])] [.a (.ptr 1000 0)] [(1000, .box [.eX v .u8 b,aO ((oM c).i:Int),aO (oM c).h]),(13, .arr .u8 (mI c).body)] [.agg [aO (mI c).kind,aO (mI c).node,aO (mI c).value, .own 13]]:=by
 refine cq X2 call73 func73 rfl rfl (by decide) ntmps73 (by simp) rfl ?_
 intro zb
 have h4:=cS (aA (aA c 9) 5) (n:=4) (by decide)
 refine aq X2 [0,2] rfl (aa (aa ?_))
 have t1:=(aF v c 9 b hcb hb)
 refine aE X2 [] [(800004,⟨true,bF t1⟩),(700004,⟨true, .agg [.ptr 1000 1000]:: .agg []::bG t1⟩)] [0,2,4] [] rfl (by(with_reducible and_intros)<;>first|exact⟨⟩|exact t1|exact rfl) (au (aa (aq X2 [0,2,4,5] rfl ?_)))
 refine ah rfl ?_ ?_<;>intro hb0
 ·try simp only[aP]at hb0
  refine an (ah rfl ?_ ?_)<;>intro aW
  ·try simp only[aP]at aW
   have hX:mI c=⟨2,aV (aA c 9) 5,0,tG (aA (aA (aA c 9) 5) 4) (aV (aA (aA c 9) 5) 4).toNat⟩:=if_pos (Or.inl hb0)
   have hN:oM c=Ag (aA (aA (aA c 9) 5) 4) (aV (aA (aA c 9) 5) 4).toNat:=if_pos (Or.inl hb0)
   refine aa ?_
   have t1:=(aF v (aA c 9) 5 b (by rw[aQ];exact hcb) hb)
   have t2:=(aF v (aA (aA c 9) 5) 4 b (by rw[aQ,aQ];exact hcb) hb)
   have t3:=(cz v (aA (aA (aA c 9) 5) 4) (aV (aA (aA c 9) 5) 4) b (by rw[aQ,aQ,aQ];exact hcb) hb (by omega))
   exact aE X2 [] [(800009,⟨true,bF t1⟩),(700009,⟨true, .agg [.ptr 1000 1000]:: .agg []::bG t1⟩),(800012,⟨true,bF t2⟩),(700012,⟨true, .agg [.ptr 1000 1000]:: .agg []::bG t2⟩),(800013,⟨true,bF t3⟩),(700013,⟨true, .agg [.ptr 1000 1000]:: .agg [.ptr 11 13]::bG t3⟩)] [2] [] rfl (by(with_reducible and_intros);(iterate 3 all_goals try first|exact⟨⟩|exact t1|exact t2|exact t3);all_goals first|exact rfl) (aj (aY rfl (by and_intros<;>first|exact⟨⟩| (first| (simp only[hX,hN];done)|with_reducible rfl;done))))
  ·try simp only[aP]at aW
   exact absurd hb0 aW
 ·try simp only[aP]at hb0
  refine bt X2 [0,2,4,5] rfl ?_
  refine ah rfl ?_ ?_<;>intro aW
  ·try simp only[aP]at aW
   have hX:mI c=⟨2,aV (aA c 9) 5,0,tG (aA (aA (aA c 9) 5) 4) (aV (aA (aA c 9) 5) 4).toNat⟩:=if_pos (Or.inr aW)
   have hN:oM c=Ag (aA (aA (aA c 9) 5) 4) (aV (aA (aA c 9) 5) 4).toNat:=if_pos (Or.inr aW)
   refine aa ?_
   have t1:=(aF v (aA c 9) 5 b (by rw[aQ];exact hcb) hb)
   have t2:=(aF v (aA (aA c 9) 5) 4 b (by rw[aQ,aQ];exact hcb) hb)
   have t3:=(cz v (aA (aA (aA c 9) 5) 4) (aV (aA (aA c 9) 5) 4) b (by rw[aQ,aQ,aQ];exact hcb) hb (by omega))
   exact aE X2 [] [(800009,⟨true,bF t1⟩),(700009,⟨true, .agg [.ptr 1000 1000]:: .agg []::bG t1⟩),(800012,⟨true,bF t2⟩),(700012,⟨true, .agg [.ptr 1000 1000]:: .agg []::bG t2⟩),(800013,⟨true,bF t3⟩),(700013,⟨true, .agg [.ptr 1000 1000]:: .agg [.ptr 11 13]::bG t3⟩)] [2] [] rfl (by(with_reducible and_intros);(iterate 3 all_goals try first|exact⟨⟩|exact t1|exact t2|exact t3);all_goals first|exact rfl) (aj (aY rfl (by and_intros<;>first|exact⟨⟩| (first| (simp only[hX,hN];done)|with_reducible rfl;done))))
  ·try simp only[aP]at aW
   have hno: ¬(aV c 9=0∨aV c 9=1):=by omega
   refine aq X2 [0,2,4,15] rfl ?_
   refine ah rfl ?_ ?_<;>intro bz
   ·try simp only[aP]at bz
    have hX:mI c=⟨3,aV (aA c 9) 5,0,[]⟩:=(by unfold mI;rw[if_neg hno];rw[if_pos bz])
    have hN:oM c=aA (aA c 9) 5:=(by unfold oM;rw[if_neg hno];rw[if_pos bz])
    refine aa ?_
    have t1:=(aF v (aA c 9) 5 b (by rw[aQ];exact hcb) hb)
    exact aE X2 [] [(800018,⟨true,bF t1⟩),(700018,⟨true, .agg [.ptr 1000 1000]:: .agg []::bG t1⟩)] [2] [] rfl (by(with_reducible and_intros)<;>first|exact⟨⟩|exact t1|exact rfl) (eM 2 3 13 .u8 rfl (aj (aY rfl (by and_intros<;>first|exact⟨⟩| (first| (simp only[hX,hN];done)|with_reducible rfl;done)))))
   ·try simp only[aP]at bz
    refine aq X2 [0,2,4,20] rfl ?_
    refine ah rfl ?_ ?_<;>intro dD
    ·try simp only[aP]at dD
     have hX:mI c=⟨4,aV (aA c 9) 4,aV (aA (aA c 9) 4) 4,[]⟩:=(by unfold mI;rw[if_neg hno];rw[if_neg bz];rw[if_pos dD])
     have hN:oM c=aA (aA (aA c 9) 4) 4:=(by unfold oM;rw[if_neg hno];rw[if_neg bz];rw[if_pos dD])
     refine aa ?_
     have t1:=(aF v (aA c 9) 4 b (by rw[aQ];exact hcb) hb)
     have t2:=(aF v (aA (aA c 9) 4) 4 b (by rw[aQ,aQ];exact hcb) hb)
     exact aE X2 [] [(800023,⟨true,bF t1⟩),(700023,⟨true, .agg [.ptr 1000 1000]:: .agg []::bG t1⟩),(800025,⟨true,bF t2⟩),(700025,⟨true, .agg [.ptr 1000 1000]:: .agg []::bG t2⟩)] [2] [] rfl (by(with_reducible and_intros);(iterate 2 all_goals try first|exact⟨⟩|exact t1|exact t2);all_goals first|exact rfl) (eM 2 3 13 .u8 rfl (aj (aY rfl (by and_intros<;>first|exact⟨⟩| (first| (simp only[hX,hN];done)|with_reducible rfl;done)))))
    ·try simp only[aP]at dD
     refine aq X2 [0,2,27] rfl ?_
     refine ah rfl ?_ ?_<;>intro kS
     ·try simp only[aP]at kS
      have hX:mI c=⟨5,aV (aA c 9) 5,0,[]⟩:=(by unfold mI;rw[if_neg hno];rw[if_neg bz];rw[if_neg dD];rw[if_pos kS])
      have hN:oM c=aA (aA c 9) 5:=(by unfold oM;rw[if_neg hno];rw[if_neg bz];rw[if_neg dD];rw[if_pos kS])
      refine aa ?_
      have t1:=(aF v (aA c 9) 5 b (by rw[aQ];exact hcb) hb)
      exact aE X2 [] [(800030,⟨true,bF t1⟩),(700030,⟨true, .agg [.ptr 1000 1000]:: .agg []::bG t1⟩)] [2] [] rfl (by(with_reducible and_intros)<;>first|exact⟨⟩|exact t1|exact rfl) (eM 2 3 13 .u8 rfl (aj (aY rfl (by and_intros<;>first|exact⟨⟩| (first| (simp only[hX,hN];done)|with_reducible rfl;done)))))
     ·try simp only[aP]at kS
      have hX:mI c=⟨1,0,0,[]⟩:=(by unfold mI;rw[if_neg hno];rw[if_neg bz];rw[if_neg dD];rw[if_neg kS];skip)
      have hN:oM c=aA c 9:=(by unfold oM;rw[if_neg hno];rw[if_neg bz];rw[if_neg dD];rw[if_neg kS];skip)
      exact an (aC X2 [2] rfl (by trivial) (eM 2 3 13 .u8 rfl (aj (aY rfl (by and_intros<;>first|exact⟨⟩| (first| (simp only[hX,hN];done)|with_reducible rfl;done))))))
end
section
set_option maxRecDepth 100000
set_option maxHeartbeats 600000 in
theorem tP(l:List UInt8)(hl:l.length≤1048576):So 20 [.a (.sl .u8 l)] [.agg (aT (O2 l)), .agg (tX (Ng l))]:=by
 refine j7 X2 call20 func20 rfl rfl (by decide) ntmps20 (by simp) ?_
 intro zb
 refine UA 0 (fun v=>rfl) (fun v=> ?_)
 have hdc:(dac l).b=l:=by unfold dac;rw[adz];rfl
 have hdn:(YF l).b=l:=by unfold YF;rw[Xz];exact hdc
 refine aq X2 [0,2,3] rfl (aa ?_)
 have t1:=(Ah v l)
 refine aE X2 [] [(800008,⟨true,bF t1⟩),(700008,⟨true, .agg []:: .agg [.ptr 907 907]::bG t1⟩)] [2,3,4] [] rfl (by(with_reducible and_intros)<;>first|exact⟨⟩|exact t1|exact rfl) (aa ?_)
 have t1:=(xg v (Fq l) 3 l rfl hl (by decide))
 refine aE X2 [] [(800010,⟨true,bF t1⟩),(700010,⟨true, .agg [.ptr 1000 907]:: .agg [.ptr 61 61, .ptr 62 62, .ptr 64 64, .ptr 68 68]::bG t1⟩)] [2,3,4,5] [] rfl (by(with_reducible and_intros)<;>first|exact⟨⟩|exact t1|exact rfl) (aa ?_)
 have t1:=(CD v (dac l) l hdc hl)
 refine aE X2 [] [(800012,⟨true,bF t1⟩),(700012,⟨true, .agg [.ptr 1000 907]:: .agg [.ptr 13 113]::bG t1⟩)] [2,3,4,5,6] [] rfl (by(with_reducible and_intros)<;>first|exact⟨⟩|exact t1|exact rfl) (aa (aa ?_))
 have t1:=(aF v (YF l) 10 l hdn hl)
 refine aE X2 [] [(800014,⟨true,bF t1⟩),(700014,⟨true, .agg [.ptr 1000 907]:: .agg []::bG t1⟩)] [2,3,4,5,6,14] [] rfl (by(with_reducible and_intros)<;>first|exact⟨⟩|exact t1|exact rfl) (au (aq X2 [2,3,4,5,6,14,15] rfl ?_))
 refine ah rfl ?_ ?_<;>intro hb0
 ·try simp only[aP]at hb0
  have hX:Ng l=⟨([0,6]:List Int).getD (aV (I3 l) 2).toNat (aI .int),(s7 l).node,(s7 l).value,(s7 l).body⟩:=(by unfold Ng;simp only[if_pos (show I2 l=0 from hb0)])
  have t1:=(cw v (I3 l) ([0,6]:List Int) l (by show(aA (YF l) 10).b=l;rw[aQ];exact hdn) hl (by decide))
  refine aE X2 [] [(800019,⟨true,bF t1⟩),(700019,⟨true, .agg [.ptr 1000 907]:: .agg []::bG t1⟩)] [2,3,5,6] [] rfl (by(repeat' with_reducible first|exact aL|refine aS ?_ ?_|apply And.intro)<;>first|exact t1|exact rfl|exact⟨rfl,bn _ (by decide)⟩) ?_
  try rw[show((([0,6]:List Int):List Int).length:Int)=2 from rfl]
  exact aa (bu X2 [] [] [2,3] [] 3 1 MO (by kernel_rfl) rfl (by kernel_rfl) (by trivial) (aj (af rfl (by and_intros<;>first|exact⟨⟩| (first| (simp only[hX,O2,I3,s7];done)| (simp only[hX,O2,I3,s7];with_reducible rfl)|with_reducible rfl;done)))))
 ·try simp only[aP]at hb0
  refine aq X2 [2,3,4,5,6,14,21] rfl ?_
  refine ah rfl ?_ ?_<;>intro aW
  ·try simp only[aP]at aW
   have hX:Ng l=⟨(s7 l).kind,([-1,9]:List Int).getD (aV (I3 l) 2).toNat (aI .int),(s7 l).value,(s7 l).body⟩:=(by unfold Ng;simp only[if_neg (show¬I2 l=0 from hb0),if_pos (show I2 l=1 from aW)])
   have t1:=(cw v (I3 l) [-1,9] l (by show(aA (YF l) 10).b=l;rw[aQ];exact hdn) hl (by decide))
   refine aE X2 [] [(800025,⟨true,bF t1⟩),(700025,⟨true, .agg [.ptr 1000 907]:: .agg []::bG t1⟩)] [2,3,5,6] [] rfl (by(repeat' with_reducible first|exact aL|refine aS ?_ ?_|apply And.intro)<;>first|exact t1|exact rfl|exact⟨rfl,bn _ (by decide)⟩) ?_
   try rw[show(([-1,9]:List Int).length:Int)=2 from rfl]
   exact aa (bu X2 [] [] [2,3] [] 3 1 MO (by kernel_rfl) rfl (by kernel_rfl) (by trivial) (aj (af rfl (by and_intros<;>first|exact⟨⟩| (first| (simp only[hX,O2,I3,s7];done)| (simp only[hX,O2,I3,s7];with_reducible rfl)|with_reducible rfl;done)))))
  ·try simp only[aP]at aW
   refine aq X2 [2,3,4,5,6,14,27] rfl ?_
   refine ah rfl ?_ ?_<;>intro bz
   ·try simp only[aP]at bz
    have hX:Ng l=⟨(s7 l).kind,(s7 l).node,([-1,4]:List Int).getD (aV (I3 l) 2).toNat (aI .int),(s7 l).body⟩:=(by unfold Ng;simp only[if_neg (show¬I2 l=0 from hb0),if_neg (show¬I2 l=1 from aW),if_pos (show I2 l=2 from bz)])
    have t1:=(cw v (I3 l) [-1,4] l (by show(aA (YF l) 10).b=l;rw[aQ];exact hdn) hl (by decide))
    refine aE X2 [] [(800031,⟨true,bF t1⟩),(700031,⟨true, .agg [.ptr 1000 907]:: .agg []::bG t1⟩)] [2,3,5,6] [] rfl (by(repeat' with_reducible first|exact aL|refine aS ?_ ?_|apply And.intro)<;>first|exact t1|exact rfl|exact⟨rfl,bn _ (by decide)⟩) ?_
    try rw[show(([-1,4]:List Int).length:Int)=2 from rfl]
    exact aa (bu X2 [] [] [2,3] [] 3 1 MO (by kernel_rfl) rfl (by kernel_rfl) (by trivial) (aj (af rfl (by and_intros<;>first|exact⟨⟩| (first| (simp only[hX,O2,I3,s7];done)| (simp only[hX,O2,I3,s7];with_reducible rfl)|with_reducible rfl;done)))))
   ·try simp only[aP]at bz
    refine aq X2 [2,3,5,6,33] rfl ?_
    refine ah rfl ?_ ?_<;>intro dD
    ·try simp only[aP]at dD
     have hX:Ng l=⟨(s7 l).kind,(s7 l).node,(s7 l).value,List.replicate 15 (aI .u8)⟩:=(by unfold Ng;simp only[if_neg (show¬I2 l=0 from hb0),if_neg (show¬I2 l=1 from aW),if_neg (show¬I2 l=2 from bz),if_pos (show I2 l=3 from dD)])
     refine eO X2 [2,3,5,6] rfl (by and_intros<;>first|exact⟨⟩| (intros;omega)|exact rfl| (simp only[dO,maxLen,lens];omega)) ?_
     rw[show(Int.toNat 15)=15 from rfl]
     exact aa (bu X2 [] [] [2,3] [] 3 1 MO (by kernel_rfl) rfl (by kernel_rfl) (by trivial) (aj (af rfl (by and_intros<;>first|exact⟨⟩| (first| (simp only[hX,O2,I3,s7];done)| (simp only[hX,O2,I3,s7];with_reducible rfl)|with_reducible rfl;done)))))
    ·try simp only[aP]at dD
     have hX:Ng l=s7 l:=(by unfold Ng;simp only[if_neg (show¬I2 l=0 from hb0),if_neg (show¬I2 l=1 from aW),if_neg (show¬I2 l=2 from bz),if_neg (show¬I2 l=3 from dD)])
     exact an (aa (bu X2 [] [] [2,3] [] 3 1 MO (by kernel_rfl) rfl (by kernel_rfl) (by trivial) (aj (af rfl (by and_intros<;>first|exact⟨⟩| (first| (simp only[hX,O2,I3,s7];done)| (simp only[hX,O2,I3,s7];with_reducible rfl)|with_reducible rfl;done))))))
end
section
set_option maxRecDepth 100000
theorem jj(k:Int):So 26 [az k] [.a (.lit (.string (Vz k)))]:=by
 refine ay X call26 func26 ntmps26 rfl rfl ?_
 intro zb
 refine aq X [0] rfl (aD X [(4,60)] [] [0,3] [] rfl (by(repeat' with_reducible first|exact aL|refine aS ?_ ?_|apply And.intro)<;>first|exact(by show I6 _ _ _ _∧_∧_∧_∧_∧_∧True;exact⟨⟨rfl,bn _ (by decide)⟩,by decide,by decide,by decide,by decide,by decide,⟨⟩⟩)) ?_)
 refine aa (aD X [] [(6,⟨false,[aH (inr k 1 5)]⟩)] [0,3,7] [] rfl (by(with_reducible and_intros)<;>first|exact⟨⟩|exact(aM k 1 5)) ?_)
 refine ah rfl ?_ ?_<;>intro hb0
 ·have hk: ¬(1≤k∧k≤5):=by(rw[←cL];simpa using hb0)
  exact aq X [2] rfl (aj (af rfl ⟨by rw[Vz,if_neg hk];rfl,⟨⟩⟩))
 ·have hk:1≤k∧k≤5:=by(rw[←cL];simpa using hb0)
  have hw:IntKind.i64.wrap (k-1)=k-1:=bV (by omega)
  exact an (aC X [2] rfl (by and_intros<;>first|exact⟨⟩| (intros;omega)| (simp only[dO,maxLen,lens];omega)) (aj (af rfl ⟨by rw[hw,Vz,if_pos hk];rfl,⟨⟩⟩)))
theorem eN(l:List Ev):So 23 [.a (.sl .Ev l)] [az ((Qw l:Nat):Int)]:=by
 refine ay X call23 func23 ntmps23 rfl rfl ?_
 intro zb
 refine cx 0 rfl (fun j0=>(aq X [0] rfl (aq X [0,3] rfl (aa (aq X [3,6,7,8] rfl ?_)))))
 refine au (aG (fun k=>k≤l.length) (fun k:Nat=> [(3, .one ((az ((Qw (l.take k):Nat):Int)))),(8, .one ((az k)))]) (fun k=> []) (fun k=>l.length-k) 0 (fun k=>rfl) (Nat.zero_le _) rfl ?_)
 intro k hk
 have yx:=aa9 (l.take k)
 have htl:=bD l k
 refine aq X [3,6,7,8,9] rfl ?_
 refine aa (ah rfl ?_ ?_)<;>intro hb0
 ·try simp only[aP]at hb0
  have Xh:=Vh l k hb0
  refine an (aa (au (aC X [3,5,6,7,8] rfl (by and_intros<;>first|exact⟨⟩| (intros;omega)) (aq X [3,6,7,8,19] rfl ?_))))
  refine ah rfl ?_ ?_<;>intro aW
  ·have ho:YM (l.getD k (aI .Ev))=true:=by(unfold YM;simpa using aW)
   rw[if_pos ho]at Xh
   refine bt X [3,6,7,8] rfl (bt X [3,6,7,8] rfl ?_)
   refine⟨k+1,by omega,by omega,?_⟩
   rw[bH _ k rfl (by omega),bH _ (Qw (l.take k)) rfl (by omega),Xh]
   try rfl
  ·have ho:YM (l.getD k (aI .Ev))=false:=by(unfold YM;simpa using aW)
   rw[if_neg (by rw[ho];decide),Nat.add_zero]at Xh
   refine an (bt X [3,6,7,8] rfl ?_)
   refine⟨k+1,by omega,by omega,?_⟩
   rw[bH _ k rfl (by omega),Xh]
   try rfl
 ·try simp only[aP]at hb0
  exact aK (aq X [2] rfl (aj (af rfl ⟨by rw[List.take_of_length_le hb0],⟨⟩⟩)))
end
end Go.Proofs.YtcnomgcfijjkmaaGreat.G
