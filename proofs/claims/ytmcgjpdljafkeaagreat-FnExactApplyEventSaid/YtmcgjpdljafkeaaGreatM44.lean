/-
  Events.
-/
import Derived.Test.YtmcgjpdljafkeaaGreatM21
import Derived.Test.YtmcgjpdljafkeaaGreatM23
namespace Go.Proofs.YtmcgjpdljafkeaaGreat.G
set_option linter.all false
open Go.RowKit L D
section
set_option maxRecDepth 100000
theorem l8(c:dV)(b:List UInt8)(h0:bL List.length c.aq≤1048576∧bL List.length c.inbox≤1048576)(hb:b.length≤1048576):Sound ty Tryz.prog 238 [.agg (aX c), .a (.sl .u8 b)] [.agg (aX (uj c b)), .a (.lit (.bool (pE c b)))]:=by
 refine Sound.o X Tryz.call238 Tryz.func238 Tryz.ntmps238 rfl rfl ?_
 intro zb
 have rM:=cg h0.1
 refine W.s0 X [1,2,4] rfl ⟨⟩ ?_
 refine W.sr X [] [(8,⟨true,[.agg (aX c)]⟩)] [1,2,4,6] [] rfl (by(repeat' with_reducible first|exact ah.nil|refine ah.mk ?_ ?_|apply And.intro)<;>first|exact(dm c h0)) ?_
 refine W.sd X [(12,40),(14,60)] [(12,⟨true,[.a (.sl .u8 b)]⟩),(500013,⟨true,[]⟩)] [2,4,6] [] 5 MO (by kernel_rfl) rfl (by(repeat' with_reducible first|exact ah.nil|refine ah.mk ?_ ?_|apply And.intro)<;>first|exact(bQ b (by first|assumption|omega| (simp;done)| (simp;omega)))|exact rfl|exact⟨rfl,bH _ (by decide)⟩| (simp only[cN,maxLen,lens];omega)) ?_
 refine W.seq ?_
 refine W.sr X [] [(17,⟨false,[.a (.lit (.bool (dH c)))]⟩),(21,⟨false,[.a (.lit (.bool (dH (Ky c b))))]⟩)] [2,4,6,23] [] rfl (by(repeat' with_reducible first|exact ah.nil|refine ah.mk ?_ ?_|apply And.intro);(iterate 2 all_goals try first|exact(cW c)|exact fun _=>(cW (Ky c b)))) ?_
 refine W.cond rfl (fun hb0=> ?_) (fun hb0=> ?_)
 ·have hk:pE c b=false:=bD hb0 (by simp only[pE,aF]<;>first|rfl|ac_rfl)
  have hq:=Mr hk
  refine W.sr X [] [(25,⟨true,[.agg (aX c)]⟩)] [4,5] [] rfl (by(repeat' with_reducible first|exact ah.nil|refine ah.mk ?_ ?_|apply And.intro)<;>first|exact(dm c h0)) ?_
  refine W.ret ?_
  exact Fin.ret rfl (by and_intros<;>first|exact⟨⟩| (rw[hq];done)| (rw[hk];done))
 ·have hk:pE c b=true:=bA hb0 (by simp only[pE,aF]<;>first|rfl|ac_rfl)
  have hq:=I5 hk
  refine W.skip ?_
  refine W.s0 X [4,5] rfl (by and_intros<;>exact⟨⟩) ?_
  refine W.ret ?_
  exact Fin.ret rfl (by and_intros<;>first|exact⟨⟩| (rw[hq];rfl;done)| (rw[hk];done))
theorem qY(d:aL)(b:List UInt8)(h0:aJ d≤1048576)(hb:b.length≤1048576):Sound ty Tryz.prog 157 [.agg (bg d), .a (.sl .u8 b)] [.agg (bg (AO d b)), .a (.lit (.bool (qS d b)))]:=by
 refine Sound.o X Tryz.call157 Tryz.func157 Tryz.ntmps157 rfl rfl ?_
 intro zb
 have pX:bh d.live≤1048576∧bh d.saved≤1048576:=by unfold aJ at h0;omega
 unfold bh at pX
 refine W.s0 X [1,2,4] rfl ⟨⟩ ?_
 refine W.sr X [] [(14,⟨true,[.agg (aX (uj d.live b)), .a (.lit (.bool (pE d.live b)))]⟩)] [1,2,4,6,7] [] rfl (by(repeat' with_reducible first|exact ah.nil|refine ah.mk ?_ ?_|apply And.intro)<;>first|exact(l8 d.live b ⟨by omega,by omega⟩ hb)) ?_
 refine W.sr X [] [(21,⟨true,[.agg (aX (uj d.saved b)), .a (.lit (.bool (pE d.saved b)))]⟩)] [2,4,6,7,8,9] [] rfl (by(repeat' with_reducible first|exact ah.nil|refine ah.mk ?_ ?_|apply And.intro)<;>first|exact(l8 d.saved b ⟨by omega,by omega⟩ hb)) ?_
 refine W.seq ?_
 refine W.sr X [] [(25,⟨false,[.a (.lit (.bool (dB d)))]⟩)] [2,4,6,8,34] [] rfl (by(repeat' with_reducible first|exact ah.nil|refine ah.mk ?_ ?_|apply And.intro)<;>first|exact(cY d)) ?_
 refine W.cond rfl (fun hb0=> ?_) (fun hb0=> ?_)
 ·have hk:qS d b=false:=bD hb0 (by simp only[qS,aF]<;>first|rfl|ac_rfl)
  have hq:=GD hk
  refine W.sr X [] [(36,⟨true,[.agg (bg d)]⟩)] [4,5] [] rfl (by(repeat' with_reducible first|exact ah.nil|refine ah.mk ?_ ?_|apply And.intro)<;>first|exact(eX d h0)) ?_
  refine W.ret ?_
  exact Fin.ret rfl (by and_intros<;>first|exact⟨⟩| (rw[hq];done)| (rw[hk];done))
 ·have hk:qS d b=true:=bA hb0 (by simp only[qS,aF]<;>first|rfl|ac_rfl)
  have hq:=I6 hk
  refine W.skip ?_
  refine W.s0 X [4,5] rfl (by and_intros<;>exact⟨⟩) ?_
  refine W.ret ?_
  exact Fin.ret rfl (by and_intros<;>first|exact⟨⟩| (rw[hq];done)| (rw[hk];done))
theorem vY(d:aL)(h0:aJ d≤1048576):Sound ty Tryz.prog 158 [.agg (bg d)] [.agg (bg (Jm d))]:=by
 refine Sound.o X Tryz.call158 Tryz.func158 Tryz.ntmps158 rfl rfl ?_
 intro zb
 have pX:bh d.live≤1048576∧bh d.saved≤1048576:=by unfold aJ at h0;omega
 unfold bh at pX
 refine W.s0 X [1,2] rfl ⟨⟩ ?_
 refine W.seq ?_
 refine W.sr X [] [(4,⟨false,[.a (.lit (.bool (dB d)))]⟩)] [1,2,5] [] rfl (by(repeat' with_reducible first|exact ah.nil|refine ah.mk ?_ ?_|apply And.intro)<;>first|exact(cY d)) ?_
 refine W.cond rfl (fun hb0=> ?_) (fun hb0=> ?_)
 ·have hk:dB d=false:=by simpa using hb0
  have hd:Jm d=d:=by rw[Jm,hk];rfl
  refine W.sr X [] [(7,⟨true,[.agg (bg d)]⟩)] [2] [] rfl (by(repeat' with_reducible first|exact ah.nil|refine ah.mk ?_ ?_|apply And.intro)<;>first|exact(eX d h0)) ?_
  refine W.ret ?_
  exact Fin.ret rfl (by and_intros<;>first|exact⟨⟩| (rw[hd];done))
 ·have hk:dB d=true:=by simpa using hb0
  have hd:Jm d=⟨d.saved,d.saved⟩:=by rw[Jm,if_pos hk]
  refine W.skip ?_
  refine W.sr X [] [(10,⟨true,[.agg (bg (⟨d.saved,d.saved⟩:aL))]⟩)] [2] [] rfl (by(repeat' with_reducible first|exact ah.nil|refine ah.mk ?_ ?_|apply And.intro)<;>first|exact(pF d.saved ⟨by omega,by omega⟩)) ?_
  refine W.ret ?_
  exact Fin.ret rfl (by and_intros<;>first|exact⟨⟩| (rw[hd];done))
theorem tq(x:aN)(c:Int)(b:List UInt8)(h0:wB x)(hb:b.length≤1048576):Sound ty Tryz.prog 83 [.agg (ay x), .a (.lit (.int .i64 c)), .a (.sl .u8 b)] [.agg (ay (Mb x c b)), .a (.lit (.bool (DT x c b)))]:=by
 refine Sound.o X Tryz.call83 Tryz.func83 Tryz.ntmps83 rfl rfl ?_
 intro zb
 refine W.bS 0 1 rfl rfl (fun nr=> ?_)
 refine W.bS 0 2 rfl rfl (fun iI=> ?_)
 have S9:=sJ h0
 have qy:=qC h0
 have hw:IntKind.i64.wrap ((x.aa.length:Int)-1)=(x.aa.length:Int)-1:=cC (by omega)
 refine W.s0 X [1,2,3,6] rfl ⟨⟩ ?_
 refine W.sr X [] [(12,⟨true,[.agg (ay x)]⟩)] [1,2,3,6,8] [] rfl (by(repeat' with_reducible first|exact ah.nil|refine ah.mk ?_ ?_|apply And.intro)<;>first|exact(cD x h0)) ?_
 refine W.seq ?_
 refine W.sr X [] [(14,⟨false,[.a (.lit (.bool (okW x)))]⟩),(19,⟨false,[.a (.lit (.bool (jh x c)))]⟩)] [1,2,3,6,8,21] [] rfl (by(repeat' with_reducible first|exact ah.nil|refine ah.mk ?_ ?_|apply And.intro);(iterate 2 all_goals try first|exact(bM x)|exact fun _=>(eF x c))) ?_
 refine W.cond rfl (fun hb0=> ?_) (fun hb0=> ?_)
 ·have hk:cF x c=false:=bD hb0 (by simp only[cF,aF]<;>first|rfl|ac_rfl)
  have hq:=Rc (b:=b) hk
  refine W.s0 X [6,7] rfl (by and_intros<;>exact⟨⟩) ?_
  refine W.ret ?_
  exact Fin.ret rfl (by and_intros<;>first|exact⟨⟩| (rw[hq.1];done)| (rw[hq.2];done))
 ·have hk:cF x c=true:=bA hb0 (by simp only[cF,aF]<;>first|rfl|ac_rfl)
  obtain⟨hok,hc0,pX⟩:=j0 hk
  have Ri:=zR hk
  have hq:=GF (b:=b) hk
  refine W.skip ?_
  refine W.sr X [] [(30,⟨true,[.agg (bg (AO (x.aa.getD c.toNat (av .aL)) b)), .a (.lit (.bool (qS (x.aa.getD c.toNat (av .aL)) b)))]⟩)] [1,6,8,9,10] [] rfl (by(repeat' with_reducible first|exact ah.nil|refine ah.mk ?_ ?_|apply And.intro)<;>first|exact(qY (x.aa.getD c.toNat (av .aL)) b Ri hb)| (intros;omega)) ?_
  refine W.seq ?_
  refine W.s0 X [1,6,8,9,10,33] rfl ⟨⟩ ?_
  refine W.cond rfl (fun aD=> ?_) (fun aD=> ?_)
  ·skip
   refine W.r0 X [6,8,10] rfl (by and_intros<;>first|exact⟨⟩| (intros;omega)) ?_
   refine W.s0 X [6,7] rfl (by and_intros<;>exact⟨⟩) ?_
   refine W.ret ?_
   exact Fin.ret rfl (by and_intros<;>first|exact⟨⟩| (rw[hq.1];rfl;done)| (rw[hq.2];rfl;done))
  ·have hs:=Rd hk aD
   refine W.skip ?_
   refine W.s0 X [6,7] rfl (by and_intros<;>exact⟨⟩) ?_
   refine W.ret ?_
   exact Fin.ret rfl (by and_intros<;>first|exact⟨⟩| (rw[hs];done)| (rw[hq.2];rfl;done))
theorem vZ(x:aN)(c:Int)(h0:wB x):Sound ty Tryz.prog 84 [.agg (ay x), .a (.lit (.int .i64 c))] [.agg (ay (Ny x c)), .a (.lit (.bool (cF x c)))]:=by
 refine Sound.o X Tryz.call84 Tryz.func84 Tryz.ntmps84 rfl rfl ?_
 intro zb
 refine W.bS 0 1 rfl rfl (fun nr=> ?_)
 refine W.bS 0 2 rfl rfl (fun iI=> ?_)
 have S9:=sJ h0
 have qy:=qC h0
 have hw:IntKind.i64.wrap ((x.aa.length:Int)-1)=(x.aa.length:Int)-1:=cC (by omega)
 refine W.s0 X [1,2,4] rfl ⟨⟩ ?_
 refine W.sr X [] [(8,⟨true,[.agg (ay x)]⟩)] [1,2,4,6] [] rfl (by(repeat' with_reducible first|exact ah.nil|refine ah.mk ?_ ?_|apply And.intro)<;>first|exact(cD x h0)) ?_
 refine W.seq ?_
 refine W.sr X [] [(10,⟨false,[.a (.lit (.bool (okW x)))]⟩),(15,⟨false,[.a (.lit (.bool (jh x c)))]⟩)] [1,2,4,6,17] [] rfl (by(repeat' with_reducible first|exact ah.nil|refine ah.mk ?_ ?_|apply And.intro);(iterate 2 all_goals try first|exact(bM x)|exact fun _=>(eF x c))) ?_
 refine W.cond rfl (fun hb0=> ?_) (fun hb0=> ?_)
 ·have hk:cF x c=false:=bD hb0 (by simp only[cF,aF]<;>first|rfl|ac_rfl)
  have hq:=Re hk
  refine W.s0 X [4,5] rfl (by and_intros<;>exact⟨⟩) ?_
  refine W.ret ?_
  exact Fin.ret rfl (by and_intros<;>first|exact⟨⟩| (rw[hq];done)| (rw[hk];done))
 ·have hk:cF x c=true:=bA hb0 (by simp only[cF,aF]<;>first|rfl|ac_rfl)
  obtain⟨hok,hc0,pX⟩:=j0 hk
  have Ri:=zR hk
  have hq:=Ms hk
  refine W.skip ?_
  refine W.sd X [] [(27,⟨true,[.agg (bg (Jm (x.aa.getD c.toNat (av .aL))))]⟩)] [4,6] [] 10 MO (by kernel_rfl) rfl (by(repeat' with_reducible first|exact ah.nil|refine ah.mk ?_ ?_|apply And.intro)<;>first|exact(vY (x.aa.getD c.toNat (av .aL)) Ri)| (intros;omega)) ?_
  refine W.s0 X [4,5] rfl (by and_intros<;>exact⟨⟩) ?_
  refine W.ret ?_
  exact Fin.ret rfl (by and_intros<;>first|exact⟨⟩| (rw[hq];rfl;done)| (rw[hk];done))
theorem tu(x:aN)(i b:Int)(h0:wB x):Sound ty Tryz.prog 85 [.agg (ay x), .a (.lit (.int .i64 i)), .a (.lit (.int .i64 b))] [.agg (ay (Nz x i b)), .a (.lit (.bool (nv x i b)))]:=by
 refine Sound.o X Tryz.call85 Tryz.func85 Tryz.ntmps85 rfl rfl ?_
 intro zb
 refine W.bS 0 1 rfl rfl (fun nr=> ?_)
 refine W.bS 0 2 rfl rfl (fun iI=> ?_)
 have S9:=sJ h0
 have qy:=qC h0
 refine W.s0 X [1,2,3,6] rfl ⟨⟩ ?_
 refine W.sr X [] [(10,⟨true,[.agg (ay x)]⟩)] [1,2,3,6,8] [] rfl (by(repeat' with_reducible first|exact ah.nil|refine ah.mk ?_ ?_|apply And.intro)<;>first|exact(cD x h0)) ?_
 refine W.seq ?_
 refine W.sr X [] [(12,⟨false,[.a (.lit (.bool (okW x)))]⟩),(20,⟨false,[.a (.lit (.bool (inr i 0 (IntKind.i64.wrap ((x.aj.length:Int)-1)))))]⟩),(25,⟨false,[.a (.lit (.bool (inr b 0 3)))]⟩)] [1,2,6,8,27] [] rfl (by(repeat' with_reducible first|exact ah.nil|refine ah.mk ?_ ?_|apply And.intro);(iterate 3 all_goals try first|exact(bM x)|exact fun _=>(aE i 0 (IntKind.i64.wrap ((x.aj.length:Int)-1)))|exact fun _=>(aE b 0 3))) ?_
 refine W.cond rfl (fun hb0=> ?_) (fun hb0=> ?_)
 ·have hk:nv x i b=false:=bD hb0 (by simp only[nv,aF]<;>first|rfl|ac_rfl)
  have hq:=Rg hk
  refine W.s0 X [6,7] rfl (by and_intros<;>exact⟨⟩) ?_
  refine W.ret ?_
  exact Fin.ret rfl (by and_intros<;>first|exact⟨⟩| (rw[hq];done)| (rw[hk];done))
 ·have hk:nv x i b=true:=bA hb0 (by simp only[nv,aF]<;>first|rfl|ac_rfl)
  have hcb:=KA hk
  have hq:=Mu hk
  refine W.skip ?_
  refine W.s0 X [6,8] rfl (by and_intros<;>first|exact⟨⟩| (intros;omega)) ?_
  refine W.s0 X [6,7] rfl (by and_intros<;>exact⟨⟩) ?_
  refine W.ret ?_
  exact Fin.ret rfl (by and_intros<;>first|exact⟨⟩| (rw[hq];rfl;done)| (rw[hk];done))
theorem gu(x:aN)(e:Ev)(hR:wR x)(hb:e.body.length≤1048576):Sound ty Tryz.prog 26 [.agg (ay x), .agg (fP e)] [.agg (ay (nx x e)), .a (.lit (.bool (gx x e)))]:=by
 refine Sound.o X Tryz.call26 Tryz.func26 Tryz.ntmps26 rfl rfl ?_
 intro zb
 have h0:=hR.1
 refine W.bS 0 1 rfl rfl (fun nr=> ?_)
 refine W.bS 0 2 rfl rfl (fun iI=> ?_)
 have S9:=sJ h0
 have qy:=qC h0
 have hw:IntKind.i64.wrap ((x.aa.length:Int)-1)=(x.aa.length:Int)-1:=cC (by omega)
 refine W.s0 X [2,3,4] rfl ⟨⟩ ?_
 refine W.sr X [] [(8,⟨true,[.agg (ay x)]⟩)] [2,3,4,6] [] rfl (by(repeat' with_reducible first|exact ah.nil|refine ah.mk ?_ ?_|apply And.intro)<;>first|exact(cD x h0)) ?_
 refine W.seq ?_
 refine W.sr X [] [(10,⟨false,[.a (.lit (.bool (okW x)))]⟩)] [2,3,4,6,11] [] rfl (by(repeat' with_reducible first|exact ah.nil|refine ah.mk ?_ ?_|apply And.intro)<;>first|exact(bM x)) ?_
 refine W.cond rfl (fun hb0=> ?_) (fun hb0=> ?_)
 ·have hok:okW x=false:=by simpa using hb0
  have hv:=TR (e:=e) hok
  refine W.s0 X [4,5] rfl (by and_intros<;>exact⟨⟩) ?_
  refine W.ret ?_
  exact Fin.ret rfl (by and_intros<;>first|exact⟨⟩| (rw[hv.1];done)| (rw[hv.2];done))
 ·have hok:okW x=true:=by simpa using hb0
  refine W.skip ?_
  refine W.seq ?_
  refine W.s0 X [2,3,4,6,14] rfl ⟨⟩ ?_
  refine W.block ?_
  refine W.s0 X [2,3,4,6,14,15] rfl ⟨⟩ ?_
  refine W.cond rfl (fun aD=> ?_) (fun aD=> ?_)
  ·try simp only[nb,an,au,af]at aD
   have hv:=XF hok aD
   refine W.seq ?_
   refine W.fD X [] [(18,⟨true,[.agg (ay (cP x))]⟩)] [4,5] [] 95 (.ph 31 (.br 31 5 (.last 64) (.br 15 5 (.last 80) (.br 7 5 (.last 88) (.br 3 5 (.last 92) (.nil)))))) 3 MO (by kernel_rfl) rfl (by kernel_rfl) (by(repeat' with_reducible first|exact ah.nil|refine ah.mk ?_ ?_|apply And.intro)<;>first|exact(fZ x hR)) ?_
   refine W.ret ?_
   exact Fin.ret rfl (by and_intros<;>first|exact⟨⟩| (rw[hv.1];done)| (rw[hv.2];done))
  ·try simp only[nb,an,au,af]at aD
   refine W.s0 X [2,3,4,6,14,22] rfl ⟨⟩ ?_
   refine W.cond rfl (fun aR=> ?_) (fun aR=> ?_)
   ·try simp only[nb,an,au,af]at aR
    have hv:=XG hok aR
    refine W.sr X [] [(29,⟨true,[.agg (ay (Mb x e.node e.body)), .a (.lit (.bool (DT x e.node e.body)))]⟩)] [4,5] [] rfl (by(repeat' with_reducible first|exact ah.nil|refine ah.mk ?_ ?_|apply And.intro)<;>first|exact(tq x e.node e.body h0 hb)) ?_
    refine W.ret ?_
    exact Fin.ret rfl (by and_intros<;>first|exact⟨⟩| (rw[hv.1];done)| (rw[hv.2];done))
   ·try simp only[nb,an,au,af]at aR
    refine W.s0 X [2,3,4,6,14,32] rfl ⟨⟩ ?_
    refine W.cond rfl (fun dS=> ?_) (fun dS=> ?_)
    ·try simp only[nb,an,au,af]at dS
     have hv:=XH hok dS
     refine W.sr X [] [(37,⟨true,[.agg (ay (Ny x e.node)), .a (.lit (.bool (cF x e.node)))]⟩)] [4,5] [] rfl (by(repeat' with_reducible first|exact ah.nil|refine ah.mk ?_ ?_|apply And.intro)<;>first|exact(vZ x e.node h0)) ?_
     refine W.ret ?_
     exact Fin.ret rfl (by and_intros<;>first|exact⟨⟩| (rw[hv.1];done)| (rw[hv.2];done))
    ·try simp only[nb,an,au,af]at dS
     refine W.s0 X [2,3,4,6,14,40] rfl ⟨⟩ ?_
     refine W.cond rfl (fun hY=> ?_) (fun hY=> ?_)
     ·try simp only[nb,an,au,af]at hY
      have hv:=XI hok hY
      refine W.sr X [] [(47,⟨true,[.agg (ay (Nz x e.node e.value)), .a (.lit (.bool (nv x e.node e.value)))]⟩)] [4,5] [] rfl (by(repeat' with_reducible first|exact ah.nil|refine ah.mk ?_ ?_|apply And.intro)<;>first|exact(tu x e.node e.value h0)) ?_
      refine W.ret ?_
      exact Fin.ret rfl (by and_intros<;>first|exact⟨⟩| (rw[hv.1];done)| (rw[hv.2];done))
     ·try simp only[nb,an,au,af]at hY
      refine W.s0 X [2,3,4,6,50] rfl ⟨⟩ ?_
      refine W.cond rfl (fun mO=> ?_) (fun mO=> ?_)
      ·try simp only[nb,an,au,af]at mO
       have hv:=XJ hok mO
       refine W.sr X [] [(55,⟨false,[.a (.lit (.bool (jh x e.node)))]⟩)] [2,3,4,6,55] [] rfl (by(repeat' with_reducible first|exact ah.nil|refine ah.mk ?_ ?_|apply And.intro)<;>first|exact(eF x e.node)) ?_
       refine W.cond rfl (fun oK=> ?_) (fun oK=> ?_)
       ·have hh:jh x e.node=true:=oK
        have hk:cF x e.node=true:=by rw[yp hok];exact hh
        obtain⟨_,hc0,pX⟩:=j0 hk
        have Ri:=zR hk
        have hq:=Mt hk
        refine W.sd X [] [(66,⟨true,[.agg (bg (E1 (x.aa.getD e.node.toNat (av .aL))))]⟩)] [4,6] [] 12 MO (by kernel_rfl) rfl (by(repeat' with_reducible first|exact ah.nil|refine ah.mk ?_ ?_|apply And.intro)<;>first|exact(nU (x.aa.getD e.node.toNat (av .aL)) Ri)| (intros;omega)) ?_
        refine W.s0 X [4,5] rfl (by and_intros<;>exact⟨⟩) ?_
        refine W.ret ?_
        exact Fin.ret rfl (by and_intros<;>first|exact⟨⟩| (rw[hv.1,hq];rfl;done)| (rw[hv.2,hk];done))
       ·have hh:jh x e.node=false:=oK
        have hk:cF x e.node=false:=by rw[yp hok];exact hh
        have hq:=Rf hk
        refine W.skip ?_
        refine W.s0 X [4,5] rfl (by and_intros<;>exact⟨⟩) ?_
        refine W.ret ?_
        exact Fin.ret rfl (by and_intros<;>first|exact⟨⟩| (rw[hv.1,hq];done)| (rw[hv.2,hk];done))
      ·try simp only[nb,an,au,af]at mO
       have hv:=XK hok aD aR dS hY mO
       refine W.skip ?_
       refine W.s0 X [4,5] rfl (by and_intros<;>exact⟨⟩) ?_
       refine W.ret ?_
       exact Fin.ret rfl (by and_intros<;>first|exact⟨⟩| (rw[hv.1];done)| (rw[hv.2];done))
theorem l9(c:dV)(b:List UInt8)(h0:bL List.length c.aq≤1048576∧bL List.length c.inbox≤1048576)(hb:b.length≤1048576):Sound ty Tryz.prog 235 [.agg (aX c), .a (.sl .u8 b)] [.agg (aX (uj c b)), .a (.lit (.bool (pE c b)))]:=by
 refine Sound.o X Tryz.call235 Tryz.func235 Tryz.ntmps235 rfl rfl ?_
 intro zb
 have rM:=cg h0.1
 refine W.s0 X [1,2,4] rfl ⟨⟩ ?_
 refine W.sr X [] [(8,⟨true,[.agg (aX c)]⟩)] [1,2,4,6] [] rfl (by(repeat' with_reducible first|exact ah.nil|refine ah.mk ?_ ?_|apply And.intro)<;>first|exact(eK c h0)) ?_
 refine W.seq ?_
 refine W.fD X [(13,11),(13,40)] [(500014,⟨true,[]⟩)] [2,4,6] [] 175 (.ph 15 (.br 15 4 (.ph 32 (.br 32 6 (.ph 128 (.br 128 8 (.last 0) (.nil))) (.nil))) (.br 13 4 (.ph 34 (.br 34 6 (.ph 128 (.br 128 8 (.last 0) (.nil))) (.nil))) (.br 12 4 (.ph 35 (.br 35 6 (.ph 128 (.br 128 8 (.last 0) (.nil))) (.nil))) (.nil))))) 2 MO (by kernel_rfl) rfl (by kernel_rfl) (by and_intros<;>first|exact⟨⟩|exact rfl| (simp only[cN,maxLen,lens];omega)) ?_
 refine W.seq ?_
 refine W.sr X [] [(18,⟨false,[.a (.lit (.bool (dH c)))]⟩),(22,⟨false,[.a (.lit (.bool (dH (Ky c b))))]⟩)] [2,4,6,24] [] rfl (by(repeat' with_reducible first|exact ah.nil|refine ah.mk ?_ ?_|apply And.intro);(iterate 2 all_goals try first|exact(cX c)|exact fun _=>(cX (Ky c b)))) ?_
 refine W.cond rfl (fun hb0=> ?_) (fun hb0=> ?_)
 ·have hk:pE c b=false:=bD hb0 (by simp only[pE,aF]<;>first|rfl|ac_rfl)
  have hq:=Mr hk
  refine W.sr X [] [(26,⟨true,[.agg (aX c)]⟩)] [4,5] [] rfl (by(repeat' with_reducible first|exact ah.nil|refine ah.mk ?_ ?_|apply And.intro)<;>first|exact(eK c h0)) ?_
  refine W.ret ?_
  exact Fin.ret rfl (by and_intros<;>first|exact⟨⟩| (rw[hq];done)| (rw[hk];done))
 ·have hk:pE c b=true:=bA hb0 (by simp only[pE,aF]<;>first|rfl|ac_rfl)
  have hq:=I5 hk
  refine W.skip ?_
  refine W.s0 X [4,5] rfl (by and_intros<;>exact⟨⟩) ?_
  refine W.ret ?_
  exact Fin.ret rfl (by and_intros<;>first|exact⟨⟩| (rw[hq];rfl;done)| (rw[hk];done))
theorem qZ(d:aL)(b:List UInt8)(h0:aJ d≤1048576)(hb:b.length≤1048576):Sound ty Tryz.prog 153 [.agg (bg d), .a (.sl .u8 b)] [.agg (bg (AO d b)), .a (.lit (.bool (qS d b)))]:=by
 refine Sound.o X Tryz.call153 Tryz.func153 Tryz.ntmps153 rfl rfl ?_
 intro zb
 have pX:bh d.live≤1048576∧bh d.saved≤1048576:=by unfold aJ at h0;omega
 unfold bh at pX
 refine W.s0 X [1,2,4] rfl ⟨⟩ ?_
 refine W.sr X [] [(14,⟨true,[.agg (aX (uj d.live b)), .a (.lit (.bool (pE d.live b)))]⟩)] [1,2,4,6,7] [] rfl (by(repeat' with_reducible first|exact ah.nil|refine ah.mk ?_ ?_|apply And.intro)<;>first|exact(l9 d.live b ⟨by omega,by omega⟩ hb)) ?_
 refine W.sr X [] [(21,⟨true,[.agg (aX (uj d.saved b)), .a (.lit (.bool (pE d.saved b)))]⟩)] [2,4,6,7,8,9] [] rfl (by(repeat' with_reducible first|exact ah.nil|refine ah.mk ?_ ?_|apply And.intro)<;>first|exact(l9 d.saved b ⟨by omega,by omega⟩ hb)) ?_
 refine W.seq ?_
 refine W.sr X [] [(25,⟨false,[.a (.lit (.bool (dB d)))]⟩)] [2,4,6,8,34] [] rfl (by(repeat' with_reducible first|exact ah.nil|refine ah.mk ?_ ?_|apply And.intro)<;>first|exact(cZ d)) ?_
 refine W.cond rfl (fun hb0=> ?_) (fun hb0=> ?_)
 ·have hk:qS d b=false:=bD hb0 (by simp only[qS,aF]<;>first|rfl|ac_rfl)
  have hq:=GD hk
  refine W.sr X [] [(36,⟨true,[.agg (bg d)]⟩)] [4,5] [] rfl (by(repeat' with_reducible first|exact ah.nil|refine ah.mk ?_ ?_|apply And.intro)<;>first|exact(gK d h0)) ?_
  refine W.ret ?_
  exact Fin.ret rfl (by and_intros<;>first|exact⟨⟩| (rw[hq];done)| (rw[hk];done))
 ·have hk:qS d b=true:=bA hb0 (by simp only[qS,aF]<;>first|rfl|ac_rfl)
  have hq:=I6 hk
  refine W.skip ?_
  refine W.s0 X [4,5] rfl (by and_intros<;>exact⟨⟩) ?_
  refine W.ret ?_
  exact Fin.ret rfl (by and_intros<;>first|exact⟨⟩| (rw[hq];done)| (rw[hk];done))
theorem v5(d:aL)(h0:aJ d≤1048576):Sound ty Tryz.prog 154 [.agg (bg d)] [.agg (bg (Jm d))]:=by
 refine Sound.o X Tryz.call154 Tryz.func154 Tryz.ntmps154 rfl rfl ?_
 intro zb
 have pX:bh d.live≤1048576∧bh d.saved≤1048576:=by unfold aJ at h0;omega
 unfold bh at pX
 refine W.s0 X [1,2] rfl ⟨⟩ ?_
 refine W.seq ?_
 refine W.sr X [] [(4,⟨false,[.a (.lit (.bool (dB d)))]⟩)] [1,2,5] [] rfl (by(repeat' with_reducible first|exact ah.nil|refine ah.mk ?_ ?_|apply And.intro)<;>first|exact(cZ d)) ?_
 refine W.cond rfl (fun hb0=> ?_) (fun hb0=> ?_)
 ·have hk:dB d=false:=by simpa using hb0
  have hd:Jm d=d:=by rw[Jm,hk];rfl
  refine W.sr X [] [(7,⟨true,[.agg (bg d)]⟩)] [2] [] rfl (by(repeat' with_reducible first|exact ah.nil|refine ah.mk ?_ ?_|apply And.intro)<;>first|exact(gK d h0)) ?_
  refine W.ret ?_
  exact Fin.ret rfl (by and_intros<;>first|exact⟨⟩| (rw[hd];done))
 ·have hk:dB d=true:=by simpa using hb0
  have hd:Jm d=⟨d.saved,d.saved⟩:=by rw[Jm,if_pos hk]
  refine W.skip ?_
  refine W.sr X [] [(10,⟨true,[.agg (bg (⟨d.saved,d.saved⟩:aL))]⟩)] [2] [] rfl (by(repeat' with_reducible first|exact ah.nil|refine ah.mk ?_ ?_|apply And.intro)<;>first|exact(pG d.saved ⟨by omega,by omega⟩)) ?_
  refine W.ret ?_
  exact Fin.ret rfl (by and_intros<;>first|exact⟨⟩| (rw[hd];done))
theorem tv(x:aN)(c:Int)(b:List UInt8)(h0:wB x)(hb:b.length≤1048576):Sound ty Tryz.prog 77 [.agg (ay x), .a (.lit (.int .i64 c)), .a (.sl .u8 b)] [.agg (ay (Mb x c b)), .a (.lit (.bool (DT x c b)))]:=by
 refine Sound.o X Tryz.call77 Tryz.func77 Tryz.ntmps77 rfl rfl ?_
 intro zb
 refine W.bS 0 1 rfl rfl (fun nr=> ?_)
 refine W.bS 0 2 rfl rfl (fun iI=> ?_)
 have S9:=sJ h0
 have qy:=qC h0
 have hw:IntKind.i64.wrap ((x.aa.length:Int)-1)=(x.aa.length:Int)-1:=cC (by omega)
 refine W.s0 X [1,2,3,6] rfl ⟨⟩ ?_
 refine W.sr X [] [(12,⟨true,[.agg (ay x)]⟩)] [1,2,3,6,8] [] rfl (by(repeat' with_reducible first|exact ah.nil|refine ah.mk ?_ ?_|apply And.intro)<;>first|exact(bT x h0)) ?_
 refine W.seq ?_
 refine W.sr X [] [(14,⟨false,[.a (.lit (.bool (okW x)))]⟩),(22,⟨false,[.a (.lit (.bool (inr c 0 (IntKind.i64.wrap ((x.aa.length:Int)-1)))))]⟩)] [1,2,3,6,8,24] [] rfl (by(repeat' with_reducible first|exact ah.nil|refine ah.mk ?_ ?_|apply And.intro);(iterate 2 all_goals try first|exact(bY x)|exact fun _=>(aP c 0 (IntKind.i64.wrap ((x.aa.length:Int)-1))))) ?_
 refine W.cond rfl (fun hb0=> ?_) (fun hb0=> ?_)
 ·have hk:cF x c=false:=bD hb0 (by simp only[cF,jh,hw,aF]<;>first|rfl|ac_rfl)
  have hq:=Rc (b:=b) hk
  refine W.s0 X [6,7] rfl (by and_intros<;>exact⟨⟩) ?_
  refine W.ret ?_
  exact Fin.ret rfl (by and_intros<;>first|exact⟨⟩| (rw[hq.1];done)| (rw[hq.2];done))
 ·have hk:cF x c=true:=bA hb0 (by simp only[cF,jh,hw,aF]<;>first|rfl|ac_rfl)
  obtain⟨hok,hc0,pX⟩:=j0 hk
  have Ri:=zR hk
  have hq:=GF (b:=b) hk
  refine W.skip ?_
  refine W.sr X [] [(33,⟨true,[.agg (bg (AO (x.aa.getD c.toNat (av .aL)) b)), .a (.lit (.bool (qS (x.aa.getD c.toNat (av .aL)) b)))]⟩)] [1,6,8,9,10] [] rfl (by(repeat' with_reducible first|exact ah.nil|refine ah.mk ?_ ?_|apply And.intro)<;>first|exact(qZ (x.aa.getD c.toNat (av .aL)) b Ri hb)| (intros;omega)) ?_
  refine W.s0 X [6,8,10] rfl (by and_intros<;>first|exact⟨⟩| (intros;omega)) ?_
  refine W.s0 X [6,7] rfl (by and_intros<;>exact⟨⟩) ?_
  refine W.ret ?_
  exact Fin.ret rfl (by and_intros<;>first|exact⟨⟩| (rw[hq.1];rfl;done)| (rw[hq.2];rfl;done))
theorem v8(x:aN)(c:Int)(h0:wB x):Sound ty Tryz.prog 78 [.agg (ay x), .a (.lit (.int .i64 c))] [.agg (ay (Ny x c)), .a (.lit (.bool (cF x c)))]:=by
 refine Sound.o X Tryz.call78 Tryz.func78 Tryz.ntmps78 rfl rfl ?_
 intro zb
 refine W.bS 0 1 rfl rfl (fun nr=> ?_)
 refine W.bS 0 2 rfl rfl (fun iI=> ?_)
 have S9:=sJ h0
 have qy:=qC h0
 have hw:IntKind.i64.wrap ((x.aa.length:Int)-1)=(x.aa.length:Int)-1:=cC (by omega)
 refine W.s0 X [1,2,4] rfl ⟨⟩ ?_
 refine W.sr X [] [(8,⟨true,[.agg (ay x)]⟩)] [1,2,4,6] [] rfl (by(repeat' with_reducible first|exact ah.nil|refine ah.mk ?_ ?_|apply And.intro)<;>first|exact(bT x h0)) ?_
 refine W.seq ?_
 refine W.sr X [] [(10,⟨false,[.a (.lit (.bool (okW x)))]⟩),(18,⟨false,[.a (.lit (.bool (inr c 0 (IntKind.i64.wrap ((x.aa.length:Int)-1)))))]⟩)] [1,2,4,6,20] [] rfl (by(repeat' with_reducible first|exact ah.nil|refine ah.mk ?_ ?_|apply And.intro);(iterate 2 all_goals try first|exact(bY x)|exact fun _=>(aP c 0 (IntKind.i64.wrap ((x.aa.length:Int)-1))))) ?_
 refine W.cond rfl (fun hb0=> ?_) (fun hb0=> ?_)
 ·have hk:cF x c=false:=bD hb0 (by simp only[cF,jh,hw,aF]<;>first|rfl|ac_rfl)
  have hq:=Re hk
  refine W.s0 X [4,5] rfl (by and_intros<;>exact⟨⟩) ?_
  refine W.ret ?_
  exact Fin.ret rfl (by and_intros<;>first|exact⟨⟩| (rw[hq];done)| (rw[hk];done))
 ·have hk:cF x c=true:=bA hb0 (by simp only[cF,jh,hw,aF]<;>first|rfl|ac_rfl)
  obtain⟨hok,hc0,pX⟩:=j0 hk
  have Ri:=zR hk
  have hq:=Ms hk
  refine W.skip ?_
  refine W.sd X [] [(30,⟨true,[.agg (bg (Jm (x.aa.getD c.toNat (av .aL))))]⟩)] [4,6] [] 10 MO (by kernel_rfl) rfl (by(repeat' with_reducible first|exact ah.nil|refine ah.mk ?_ ?_|apply And.intro)<;>first|exact(v5 (x.aa.getD c.toNat (av .aL)) Ri)| (intros;omega)) ?_
  refine W.s0 X [4,5] rfl (by and_intros<;>exact⟨⟩) ?_
  refine W.ret ?_
  exact Fin.ret rfl (by and_intros<;>first|exact⟨⟩| (rw[hq];rfl;done)| (rw[hk];done))
theorem tw(x:aN)(i b:Int)(h0:wB x):Sound ty Tryz.prog 79 [.agg (ay x), .a (.lit (.int .i64 i)), .a (.lit (.int .i64 b))] [.agg (ay (Nz x i b)), .a (.lit (.bool (nv x i b)))]:=by
 refine Sound.o X Tryz.call79 Tryz.func79 Tryz.ntmps79 rfl rfl ?_
 intro zb
 refine W.bS 0 1 rfl rfl (fun nr=> ?_)
 refine W.bS 0 2 rfl rfl (fun iI=> ?_)
 have S9:=sJ h0
 have qy:=qC h0
 refine W.s0 X [1,2,3,6] rfl ⟨⟩ ?_
 refine W.sr X [] [(10,⟨true,[.agg (ay x)]⟩)] [1,2,3,6,8] [] rfl (by(repeat' with_reducible first|exact ah.nil|refine ah.mk ?_ ?_|apply And.intro)<;>first|exact(bT x h0)) ?_
 refine W.seq ?_
 refine W.sr X [] [(12,⟨false,[.a (.lit (.bool (okW x)))]⟩),(20,⟨false,[.a (.lit (.bool (inr i 0 (IntKind.i64.wrap ((x.aj.length:Int)-1)))))]⟩),(25,⟨false,[.a (.lit (.bool (inr b 0 3)))]⟩)] [1,2,6,8,27] [] rfl (by(repeat' with_reducible first|exact ah.nil|refine ah.mk ?_ ?_|apply And.intro);(iterate 3 all_goals try first|exact(bY x)|exact fun _=>(aP i 0 (IntKind.i64.wrap ((x.aj.length:Int)-1)))|exact fun _=>(aP b 0 3))) ?_
 refine W.cond rfl (fun hb0=> ?_) (fun hb0=> ?_)
 ·have hk:nv x i b=false:=bD hb0 (by simp only[nv,aF]<;>first|rfl|ac_rfl)
  have hq:=Rg hk
  refine W.s0 X [6,7] rfl (by and_intros<;>exact⟨⟩) ?_
  refine W.ret ?_
  exact Fin.ret rfl (by and_intros<;>first|exact⟨⟩| (rw[hq];done)| (rw[hk];done))
 ·have hk:nv x i b=true:=bA hb0 (by simp only[nv,aF]<;>first|rfl|ac_rfl)
  have hcb:=KA hk
  have hq:=Mu hk
  refine W.skip ?_
  refine W.s0 X [6,8] rfl (by and_intros<;>first|exact⟨⟩| (intros;omega)) ?_
  refine W.s0 X [6,7] rfl (by and_intros<;>exact⟨⟩) ?_
  refine W.ret ?_
  exact Fin.ret rfl (by and_intros<;>first|exact⟨⟩| (rw[hq];rfl;done)| (rw[hk];done))
theorem j8(x:aN)(e:Ev)(hR:wR x)(hb:e.body.length≤1048576):Sound ty Tryz.prog 24 [.agg (ay x), .agg (fP e)] [.agg (ay (nx x e)), .a (.lit (.bool (gx x e)))]:=by
 refine Sound.o X Tryz.call24 Tryz.func24 Tryz.ntmps24 rfl rfl ?_
 intro zb
 have h0:=hR.1
 refine W.bS 0 1 rfl rfl (fun nr=> ?_)
 refine W.bS 0 2 rfl rfl (fun iI=> ?_)
 have S9:=sJ h0
 have qy:=qC h0
 have hw:IntKind.i64.wrap ((x.aa.length:Int)-1)=(x.aa.length:Int)-1:=cC (by omega)
 refine W.s0 X [2,3,4] rfl ⟨⟩ ?_
 refine W.seq ?_
 refine W.sr X [] [(8,⟨false,[.a (.lit (.bool (okW x)))]⟩)] [2,3,4,9] [] rfl (by(repeat' with_reducible first|exact ah.nil|refine ah.mk ?_ ?_|apply And.intro)<;>first|exact(bY x)) ?_
 refine W.cond rfl (fun hb0=> ?_) (fun hb0=> ?_)
 ·have hok:okW x=false:=by simpa using hb0
  have hv:=TR (e:=e) hok
  refine W.sr X [] [(11,⟨true,[.agg (ay x)]⟩)] [4,5] [] rfl (by(repeat' with_reducible first|exact ah.nil|refine ah.mk ?_ ?_|apply And.intro)<;>first|exact(bT x h0)) ?_
  refine W.ret ?_
  exact Fin.ret rfl (by and_intros<;>first|exact⟨⟩| (rw[hv.1];done)| (rw[hv.2];done))
 ·have hok:okW x=true:=by simpa using hb0
  refine W.skip ?_
  refine W.seq ?_
  refine W.s0 X [2,3,4,13] rfl ⟨⟩ ?_
  refine W.block ?_
  refine W.s0 X [2,3,4,13,14] rfl ⟨⟩ ?_
  refine W.cond rfl (fun aD=> ?_) (fun aD=> ?_)
  ·try simp only[nb,an,au,af]at aD
   have hv:=XF hok aD
   refine W.seq ?_
   refine W.fD X [] [(17,⟨true,[.agg (ay (cP x))]⟩)] [4,5] [] 95 (.ph 31 (.br 31 5 (.last 64) (.br 15 5 (.last 80) (.br 7 5 (.last 88) (.br 3 5 (.last 92) (.nil)))))) 3 MO (by kernel_rfl) rfl (by kernel_rfl) (by(repeat' with_reducible first|exact ah.nil|refine ah.mk ?_ ?_|apply And.intro)<;>first|exact(iQ x hR)) ?_
   refine W.ret ?_
   exact Fin.ret rfl (by and_intros<;>first|exact⟨⟩| (rw[hv.1];done)| (rw[hv.2];done))
  ·try simp only[nb,an,au,af]at aD
   refine W.s0 X [2,3,4,13,21] rfl ⟨⟩ ?_
   refine W.cond rfl (fun aR=> ?_) (fun aR=> ?_)
   ·try simp only[nb,an,au,af]at aR
    have hv:=XG hok aR
    refine W.sr X [] [(28,⟨true,[.agg (ay (Mb x e.node e.body)), .a (.lit (.bool (DT x e.node e.body)))]⟩)] [4,5] [] rfl (by(repeat' with_reducible first|exact ah.nil|refine ah.mk ?_ ?_|apply And.intro)<;>first|exact(tv x e.node e.body h0 hb)) ?_
    refine W.ret ?_
    exact Fin.ret rfl (by and_intros<;>first|exact⟨⟩| (rw[hv.1];done)| (rw[hv.2];done))
   ·try simp only[nb,an,au,af]at aR
    refine W.s0 X [2,3,4,13,31] rfl ⟨⟩ ?_
    refine W.cond rfl (fun dS=> ?_) (fun dS=> ?_)
    ·try simp only[nb,an,au,af]at dS
     have hv:=XH hok dS
     refine W.sr X [] [(36,⟨true,[.agg (ay (Ny x e.node)), .a (.lit (.bool (cF x e.node)))]⟩)] [4,5] [] rfl (by(repeat' with_reducible first|exact ah.nil|refine ah.mk ?_ ?_|apply And.intro)<;>first|exact(v8 x e.node h0)) ?_
     refine W.ret ?_
     exact Fin.ret rfl (by and_intros<;>first|exact⟨⟩| (rw[hv.1];done)| (rw[hv.2];done))
    ·try simp only[nb,an,au,af]at dS
     refine W.s0 X [2,3,4,13,39] rfl ⟨⟩ ?_
     refine W.cond rfl (fun hY=> ?_) (fun hY=> ?_)
     ·try simp only[nb,an,au,af]at hY
      have hv:=XI hok hY
      refine W.sr X [] [(46,⟨true,[.agg (ay (Nz x e.node e.value)), .a (.lit (.bool (nv x e.node e.value)))]⟩)] [4,5] [] rfl (by(repeat' with_reducible first|exact ah.nil|refine ah.mk ?_ ?_|apply And.intro)<;>first|exact(tw x e.node e.value h0)) ?_
      refine W.ret ?_
      exact Fin.ret rfl (by and_intros<;>first|exact⟨⟩| (rw[hv.1];done)| (rw[hv.2];done))
     ·try simp only[nb,an,au,af]at hY
      refine W.s0 X [2,3,4,49] rfl ⟨⟩ ?_
      refine W.cond rfl (fun mO=> ?_) (fun mO=> ?_)
      ·try simp only[nb,an,au,af]at mO
       have hv:=XJ hok mO
       refine W.sr X [] [(52,⟨true,[.agg (ay x)]⟩)] [2,3,4,6] [] rfl (by(repeat' with_reducible first|exact ah.nil|refine ah.mk ?_ ?_|apply And.intro)<;>first|exact(bT x h0)) ?_
       refine W.seq ?_
       refine W.sr X [] [(59,⟨false,[.a (.lit (.bool (inr e.node 0 (IntKind.i64.wrap ((x.aa.length:Int)-1)))))]⟩)] [2,3,4,6,60] [] rfl (by(repeat' with_reducible first|exact ah.nil|refine ah.mk ?_ ?_|apply And.intro)<;>first|exact(aP e.node 0 (IntKind.i64.wrap ((x.aa.length:Int)-1)))) ?_
       refine W.cond rfl (fun oK=> ?_) (fun oK=> ?_)
       ·have hh:jh x e.node=false:=by rw[hw]at oK;unfold jh;simpa using oK
        have hk:cF x e.node=false:=by rw[yp hok];exact hh
        have hq:=Rf hk
        refine W.s0 X [4,5] rfl (by and_intros<;>exact⟨⟩) ?_
        refine W.ret ?_
        exact Fin.ret rfl (by and_intros<;>first|exact⟨⟩| (rw[hv.1,hq];done)| (rw[hv.2,hk];done))
       ·have hh:jh x e.node=true:=by rw[hw]at oK;unfold jh;simpa using oK
        have hk:cF x e.node=true:=by rw[yp hok];exact hh
        obtain⟨_,hc0,pX⟩:=j0 hk
        have Ri:=zR hk
        have hq:=Mt hk
        refine W.skip ?_
        refine W.sd X [] [(72,⟨true,[.agg (bg (E1 (x.aa.getD e.node.toNat (av .aL))))]⟩)] [4,6] [] 12 MO (by kernel_rfl) rfl (by(repeat' with_reducible first|exact ah.nil|refine ah.mk ?_ ?_|apply And.intro)<;>first|exact(nV (x.aa.getD e.node.toNat (av .aL)) Ri)| (intros;omega)) ?_
        refine W.s0 X [4,5] rfl (by and_intros<;>exact⟨⟩) ?_
        refine W.ret ?_
        exact Fin.ret rfl (by and_intros<;>first|exact⟨⟩| (rw[hv.1,hq];rfl;done)| (rw[hv.2,hk];done))
      ·try simp only[nb,an,au,af]at mO
       have hv:=XK hok aD aR dS hY mO
       refine W.skip ?_
       refine W.sr X [] [(76,⟨true,[.agg (ay x)]⟩)] [4,5] [] rfl (by(repeat' with_reducible first|exact ah.nil|refine ah.mk ?_ ?_|apply And.intro)<;>first|exact(bT x h0)) ?_
       refine W.ret ?_
       exact Fin.ret rfl (by and_intros<;>first|exact⟨⟩| (rw[hv.1];done)| (rw[hv.2];done))
end
end Go.Proofs.YtmcgjpdljafkeaaGreat.G
