/-
  FnExactRunScript: the law, walked: it returns true.
-/
import Derived.Test.YtaalpcnbbldlaaaGreatDoorM21
import Derived.Test.YtaalpcnbbldlaaaGreatDoorM22
open And renaming intro→bh
open ByteArray renaming append_assoc→lG,size_append→bA
open Go.IntKind renaming i64→af
open Go.Lib renaming itoa→cg
open Go.Proofs.Tryz renaming prog→aN
open List renaming getD_eq_getElem?_getD→aA,getElem?_drop→cK,length→aL,length_drop→b9
open Nat renaming zero_le→aE
namespace Go.Proofs.YtaalpcnbbldlaaaGreatDoor.G
set_option linter.all false
open Go.RowKit L D Tryz
section
set_option maxRecDepth 100000
theorem jd(x:bN)(e:Ev)(hR:wR x)(hb:e.body.length≤1048576):jG ty aN 29 (hW x) [.a (.ptr 1000 0), .agg (oT e)] (hW (DU x e)) [.a (.lit (.string (FR (rK x e))))]:=by
 refine fW X4 call29 func29 rfl rfl (by decide) ntmps29 (by simp) rfl ?_
 intro zb
 exact av X4 [0,3] rfl (aa (aQ X4 [(13,280)] [(13,⟨true,[.agg (bw (DU x e)),aU (rK x e)]⟩)] [0,5,6] [] 3071 1 MO (by kernel_rfl) rfl (by kernel_rfl) (by(with_reducible and_intros)<;>first|exact⟨⟩|exact(Fz x e (by first|assumption|omega| (simp;done)| (simp;omega)) (by first|assumption|omega| (simp;done)| (simp;omega)))) (aO X4 [6] rfl (by trivial) (eC 281 261 rfl (eC 282 262 rfl (eC 284 264 rfl (eC 288 268 rfl (aM X4 [] [(21,⟨false,[.a (.lit (.string (FR (rK x e))))]⟩)] [4] [] rfl (by(with_reducible and_intros)<;>first|exact⟨⟩|exact(IF (rK x e))) (aq (bI rfl ⟨rfl,rfl,rfl,rfl,rfl,rfl,rfl,rfl,rfl,rfl,rfl,⟨⟩⟩))))))))))
theorem nS(x:bN)(e:Ev)(hR:wR x)(hb:e.body.length≤1048576):jG ty aN 49 (hW x) [.a (.ptr 1000 0), .agg (oT e)] (hW (DU x e)) [.a (.lit (.string (FR (rK x e))))]:=by
 refine fW X4 call49 func49 rfl rfl (by decide) ntmps49 (by simp) rfl ?_
 intro zb
 exact av X4 [0,3] rfl (aa (aQ X4 [(12,280)] [(12,⟨true,[.agg (bw (DU x e)),aU (rK x e)]⟩)] [0,5,6] [] 1535 1 MO (by kernel_rfl) rfl (by kernel_rfl) (by(with_reducible and_intros)<;>first|exact⟨⟩|exact(FA x e (by first|assumption|omega| (simp;done)| (simp;omega)) (by first|assumption|omega| (simp;done)| (simp;omega)))) (aO X4 [6] rfl (by trivial) (eC 281 261 rfl (eC 282 262 rfl (eC 284 264 rfl (eC 288 268 rfl (aM X4 [] [(19,⟨false,[.a (.lit (.string (FR (rK x e))))]⟩)] [4] [] rfl (by(with_reducible and_intros)<;>first|exact⟨⟩|exact(FU (rK x e))) (aq (bI rfl ⟨rfl,rfl,rfl,rfl,rfl,rfl,rfl,rfl,rfl,rfl,rfl,⟨⟩⟩))))))))))
theorem vQ(x:bN)(n:Nat)(c:Int)(F2:JW x n∧n≤10000):jG ty aN 36 (hW x) [.a (.ptr 1000 0),aI c] (hW (iK x (yh (kr c 60)))) [.a (.lit (.string (wZ (iK x (yh (kr c 60))))))]:=by
 refine fW X4 call36 func36 rfl rfl (by decide) ntmps36 (by simp) rfl ?_
 intro zb
 obtain⟨hJ,hn⟩:=F2
 have hC:=lW hJ.C (show 8*n≤4100000 by omega)
 have hF:=hJ.F (by omega)
 have hR:=hJ.R (by omega)
 have hF2:=(hJ.rn hn c).F (by omega)
 exact av X4 [0,1] rfl (aa (aQ X4 [(11,280)] [(10,⟨false,[aI (kr c 60)]⟩),(11,⟨true,[.agg (bw (iK x (yh (kr c 60))))]⟩)] [0] [] 255 0 MO (by kernel_rfl) rfl (by kernel_rfl) (by(with_reducible and_intros);(iterate 2 all_goals try first|exact⟨⟩|exact(LN c 60)|exact(Ho x (kr c 60) hC))) (eC 281 261 rfl (eC 282 262 rfl (eC 284 264 rfl (eC 288 268 rfl (aM X4 [] [(16,⟨false,[.a (.lit (.string (wZ (iK x (yh (kr c 60))))))]⟩)] [4] [] rfl (by(with_reducible and_intros)<;>first|exact⟨⟩|exact(uz (iK x (yh (kr c 60))) hF2.rd hF2.ca hF2.re (by have:=hF2.dv;omega) hF2.rl)) (aq (bI rfl ⟨rfl,rfl,rfl,rfl,rfl,rfl,rfl,rfl,rfl,rfl,rfl,⟨⟩⟩)))))))))
theorem Md(x:bN)(n:Nat)(s:List UInt8)(F2:JW x n∧n≤10000):jG ty aN 21 (hW x) [.a (.ptr 1000 0), .a (.lit (.string (bP s)))] (hW (gD x s).1) [.a (.lit (.string (lnT (gD x s))))]:=by
 refine fW X4 call21 func21 rfl rfl (by decide) ntmps21 (by simp) rfl ?_
 intro zb
 obtain⟨hJ,hn⟩:=F2
 have hC:=lW hJ.C (show 8*n≤4100000 by omega)
 have hF:=hJ.F (by omega)
 have hR:=hJ.R (by omega)
 refine av X4 [0,1] rfl (aa (av X4 [0,5] rfl (aB (av X4 [0,5,6] rfl ?_))))
 refine an rfl ?_ ?_<;>intro hb0
 ·have hw0:s= [114,111,117,110,100]:=jI hb0
  have hO:gD x s=((iK x (yh (kr 1 60))),some (wZ (iK x (yh (kr 1 60))))):=by rw[gD,if_pos hw0]<;>rfl
  refine aa ?_
  have t1:=(vQ x n 1 ⟨hJ,hn⟩)
  exact bn X4 [] [(800009,⟨true,nX t1⟩),(700009,⟨true, .agg [.ptr 1000 1000, .ptr 261 261, .ptr 262 262, .ptr 264 264, .ptr 268 268]:: .agg []::nY t1⟩)] [4] [] rfl (by(with_reducible and_intros)<;>first|exact⟨⟩|exact t1) (aq (bI rfl (by and_intros<;>first|exact⟨⟩| (rw[hO]<;>rfl;done))))
 ·have hw0:s≠ [114,111,117,110,100]:=nq hb0
  refine av X4 [0,5,10] rfl ?_
  refine an rfl ?_ ?_<;>intro bM
  ·have hw1:s= [115,101,116,116,108,101]:=jI bM
   have hO:gD x s=rnO x (zx x):=by rw[gD,if_neg hw0,if_pos hw1]<;>rfl
   refine aa ?_
   have t1:=(vQ x n (zx x) ⟨hJ,hn⟩)
   exact bn X4 [] [(16,⟨false,[aI (zx x)]⟩),(800017,⟨true,nX t1⟩),(700017,⟨true, .agg [.ptr 1000 1000, .ptr 261 261, .ptr 262 262, .ptr 264 264, .ptr 268 268]:: .agg []::nY t1⟩)] [4] [] rfl (by(with_reducible and_intros);(iterate 2 all_goals try first|exact⟨⟩|exact(Cu x (by have:=hF.dv;omega))|exact t1)) (aq (bI rfl (by and_intros<;>first|exact⟨⟩| (rw[hO]<;>rfl;done))))
  ·have hw1:s≠ [115,101,116,116,108,101]:=nq bM
   refine av X4 [0,5,18] rfl ?_
   refine an rfl ?_ ?_<;>intro cS
   ·have oR:s= [97,114,99,104,105,118,101]:=jI cS
    have hO:gD x s=(x,some (L5 x.aK)):=by rw[gD,if_neg hw0,if_neg hw1,if_pos oR]<;>rfl
    exact aM X4 [] [(24,⟨false,[.a (.lit (.string (L5 x.aK)))]⟩)] [4] [] rfl (by(with_reducible and_intros)<;>first|exact⟨⟩|exact(Bl x.aK hF.ar hF.ay hF.al)) (aq (bI rfl (by and_intros<;>first|exact⟨⟩| (rw[hO]<;>rfl;done))))
   ·have oR:s≠ [97,114,99,104,105,118,101]:=nq cS
    refine av X4 [0,5,25] rfl ?_
    refine an rfl ?_ ?_<;>intro iZ
    ·have yx:s= [119,111,114,108,100]:=jI iZ
     have hO:gD x s=(x,some (wZ x)):=by rw[gD,if_neg hw0,if_neg hw1,if_neg oR,if_pos yx]<;>rfl
     exact aM X4 [] [(30,⟨false,[.a (.lit (.string (wZ x)))]⟩)] [4] [] rfl (by(with_reducible and_intros)<;>first|exact⟨⟩|exact(uz x hF.rd hF.ca hF.re (by have:=hF.dv;omega) hF.rl)) (aq (bI rfl (by and_intros<;>first|exact⟨⟩| (rw[hO]<;>rfl;done))))
    ·have yx:s≠ [119,111,114,108,100]:=nq iZ
     refine av X4 [0,5,31] rfl ?_
     refine an rfl ?_ ?_<;>intro qD
     ·have Jm:s= [116,114,97,102,102,105,99]:=jI qD
      have hO:gD x s=(x,some (bP (cg (Cz (HK x) (HK x).length)))):=by rw[gD,if_neg hw0,if_neg hw1,if_neg oR,if_neg yx,if_pos Jm]<;>rfl
      exact aM X4 [] [(36,⟨false,[.a (.sl .jE (HK x))]⟩),(37,⟨false,[aI (Cz (HK x) (HK x).length)]⟩),(38,⟨false,[.a (.lit (.string (bP (cg (Cz (HK x) (HK x).length)))))]⟩)] [4] [] rfl (by(with_reducible and_intros);(iterate 3 all_goals try first|exact⟨⟩|exact(zH x)|exact(FW (HK x))|exact(bL (Cz (HK x) (HK x).length) (Qq _ _)))) (aq (bI rfl (by and_intros<;>first|exact⟨⟩| (rw[hO]<;>rfl;done))))
     ·have Jm:s≠ [116,114,97,102,102,105,99]:=nq qD
      refine av X4 [0,5,39] rfl ?_
      refine an rfl ?_ ?_<;>intro CV
      ·have Qu:s= [97,117,100,105,116]:=jI CV
       have hO:gD x s=(x,some (zC (sK x))):=by rw[gD,if_neg hw0,if_neg hw1,if_neg oR,if_neg yx,if_neg Jm,if_pos Qu]<;>rfl
       exact aM X4 [] [(44,⟨false,[aU (sK x)]⟩),(45,⟨false,[.a (.lit (.string (zC (sK x))))]⟩)] [4] [] rfl (by(with_reducible and_intros);(iterate 2 all_goals try first|exact⟨⟩|exact(EW x hF.sz)|exact(CZ (sK x)))) (aq (bI rfl (by and_intros<;>first|exact⟨⟩| (rw[hO]<;>rfl;done))))
      ·have Qu:s≠ [97,117,100,105,116]:=nq CV
       refine av X4 [0,46] rfl ?_
       refine an rfl ?_ ?_<;>intro LR
       ·have hw6:s= [113,117,105,101,116]:=jI LR
        have hO:gD x s=(x,some (zC (qN x))):=by rw[gD,if_neg hw0,if_neg hw1,if_neg oR,if_neg yx,if_neg Jm,if_neg Qu,if_pos hw6]<;>rfl
        exact aM X4 [] [(51,⟨false,[aU (qN x)]⟩),(52,⟨false,[.a (.lit (.string (zC (qN x))))]⟩)] [4] [] rfl (by(with_reducible and_intros);(iterate 2 all_goals try first|exact⟨⟩|exact(LQ x (by have:=hF.dv;omega))|exact(CZ (qN x)))) (aq (bI rfl (by and_intros<;>first|exact⟨⟩| (rw[hO]<;>rfl;done))))
       ·have hw6:s≠ [113,117,105,101,116]:=nq LR
        have hO:gD x s=(x,none):=by rw[gD,if_neg hw0,if_neg hw1,if_neg oR,if_neg yx,if_neg Jm,if_neg Qu,if_neg hw6]<;>rfl
        exact au (av X4 [4] rfl (aq (bI rfl (by and_intros<;>first|exact⟨⟩| (rw[hO]<;>rfl;done)))))
theorem By(x:bN)(n:Nat)(s:List UInt8)(F2:JW x n∧n≤10000):jG ty aN 27 (hW x) [.a (.ptr 1000 0), .a (.lit (.string (bP s)))] (hW (gD x s).1) [.a (.lit (.string ((gD x s).2.getD ⟨#[]⟩))),aU (gD x s).2.isSome]:=by
 refine fW X4 call27 func27 rfl rfl (by decide) ntmps27 (by simp) rfl ?_
 intro zb
 obtain⟨hJ,hn⟩:=F2
 have hC:=lW hJ.C (show 8*n≤4100000 by omega)
 have hF:=hJ.F (by omega)
 have hR:=hJ.R (by omega)
 refine av X4 [0,1] rfl (aa (av X4 [0,6] rfl (aB (av X4 [0,6,7] rfl ?_))))
 refine an rfl ?_ ?_<;>intro hb0
 ·have hw0:s= [114,111,117,110,100]:=jI hb0
  have hO:gD x s=((iK x (yh (kr 1 60))),some (wZ (iK x (yh (kr 1 60))))):=by rw[gD,if_pos hw0]<;>rfl
  have hev:DU x ⟨1,0,0,[]⟩=(iK x (yh (kr 1 60))):=by unfold DU;rfl
  refine aa ?_
  have t1:=(jd x (⟨1,0,0,[]⟩:Ev) hR (aE _))
  refine yu X4 [] [(800011,⟨true,nX t1⟩),(700011,⟨true, .agg [.ptr 1000 1000, .ptr 261 261, .ptr 262 262, .ptr 264 264, .ptr 268 268]:: .agg []::nY t1⟩),(1200010,⟨true,[.agg (oT ⟨1,0,0,[]⟩)]⟩)] [0] [] rfl (by(with_reducible and_intros)<;>first|exact⟨⟩|exact t1) ?_
  rw[hev]
  exact aM X4 [] [(16,⟨false,[.a (.lit (.string (wZ (iK x (yh (kr 1 60))))))]⟩)] [4,5] [] rfl (by(with_reducible and_intros)<;>first|exact⟨⟩|exact(kW (iK x (yh (kr 1 60))) (((hJ.rn hn 1).F (by omega)).rd) (((hJ.rn hn 1).F (by omega)).ca) ((hJ.rn hn 1).F (by omega)).re (by have:=((hJ.rn hn 1).F (by omega)).dv;omega) ((hJ.rn hn 1).F (by omega)).rl)) (aq (bI rfl (by and_intros<;>first|exact⟨⟩| (rw[hO]<;>rfl;done))))
 ·have hw0:s≠ [114,111,117,110,100]:=nq hb0
  refine av X4 [0,6,17] rfl ?_
  refine an rfl ?_ ?_<;>intro bM
  ·have hw1:s= [115,101,116,116,108,101]:=jI bM
   have hO:gD x s=rnO x (zx x):=by rw[gD,if_neg hw0,if_pos hw1]<;>rfl
   exact aa (aQ X4 [(30,280)] [(28,⟨false,[aI (zx x)]⟩),(30,⟨true,[.agg (bw (iK x (yh (kr (zx x) 60))))]⟩)] [0] [] 16383 0 MO (by kernel_rfl) rfl (by kernel_rfl) (by(with_reducible and_intros);(iterate 2 all_goals try first|exact⟨⟩|exact(Ct x (by have:=hF.dv;omega))|exact(wV x (kr (zx x) 60) hC))) (eC 281 261 rfl (eC 282 262 rfl (eC 284 264 rfl (eC 288 268 rfl (aM X4 [] [(37,⟨false,[.a (.lit (.string (wZ (iK x (yh (kr (zx x) 60))))))]⟩)] [4,5] [] rfl (by(with_reducible and_intros)<;>first|exact⟨⟩|exact(kW (iK x (yh (kr (zx x) 60))) (((hJ.rn hn (zx x)).F (by omega)).rd) (((hJ.rn hn (zx x)).F (by omega)).ca) ((hJ.rn hn (zx x)).F (by omega)).re (by have:=((hJ.rn hn (zx x)).F (by omega)).dv;omega) ((hJ.rn hn (zx x)).F (by omega)).rl)) (aq (bI rfl (by and_intros<;>first|exact⟨⟩| (rw[hO]<;>rfl;done))))))))))
  ·have hw1:s≠ [115,101,116,116,108,101]:=nq bM
   refine av X4 [0,6,38] rfl ?_
   refine an rfl ?_ ?_<;>intro cS
   ·have oR:s= [97,114,99,104,105,118,101]:=jI cS
    have hO:gD x s=(x,some (L5 x.aK)):=by rw[gD,if_neg hw0,if_neg hw1,if_pos oR]<;>rfl
    exact aM X4 [] [(45,⟨false,[.a (.lit (.string (L5 x.aK)))]⟩)] [4,5] [] rfl (by(with_reducible and_intros)<;>first|exact⟨⟩|exact(Bk x.aK hF.ar hF.ay hF.al)) (aq (bI rfl (by and_intros<;>first|exact⟨⟩| (rw[hO]<;>rfl;done))))
   ·have oR:s≠ [97,114,99,104,105,118,101]:=nq cS
    refine av X4 [0,6,46] rfl ?_
    refine an rfl ?_ ?_<;>intro iZ
    ·have yx:s= [119,111,114,108,100]:=jI iZ
     have hO:gD x s=(x,some (wZ x)):=by rw[gD,if_neg hw0,if_neg hw1,if_neg oR,if_pos yx]<;>rfl
     exact aM X4 [] [(52,⟨false,[.a (.lit (.string (wZ x)))]⟩)] [4,5] [] rfl (by(with_reducible and_intros)<;>first|exact⟨⟩|exact(kW x hF.rd hF.ca hF.re (by have:=hF.dv;omega) hF.rl)) (aq (bI rfl (by and_intros<;>first|exact⟨⟩| (rw[hO]<;>rfl;done))))
    ·have yx:s≠ [119,111,114,108,100]:=nq iZ
     refine av X4 [0,6,53] rfl ?_
     refine an rfl ?_ ?_<;>intro qD
     ·have Jm:s= [116,114,97,102,102,105,99]:=jI qD
      have hO:gD x s=(x,some (bP (cg (Cz (HK x) (HK x).length)))):=by rw[gD,if_neg hw0,if_neg hw1,if_neg oR,if_neg yx,if_pos Jm]<;>rfl
      exact aM X4 [] [(59,⟨false,[.a (.sl .jE (HK x))]⟩),(60,⟨false,[aI (Cz (HK x) (HK x).length)]⟩),(61,⟨false,[.a (.lit (.string (bP (cg (Cz (HK x) (HK x).length)))))]⟩)] [4,5] [] rfl (by(with_reducible and_intros);(iterate 3 all_goals try first|exact⟨⟩|exact(zF x)|exact(FV (HK x))|exact(cD (Cz (HK x) (HK x).length) (Qq _ _)))) (aq (bI rfl (by and_intros<;>first|exact⟨⟩| (rw[hO]<;>rfl;done))))
     ·have Jm:s≠ [116,114,97,102,102,105,99]:=nq qD
      refine av X4 [0,6,62] rfl ?_
      refine an rfl ?_ ?_<;>intro CV
      ·have Qu:s= [97,117,100,105,116]:=jI CV
       have hO:gD x s=(x,some (zC (sK x))):=by rw[gD,if_neg hw0,if_neg hw1,if_neg oR,if_neg yx,if_neg Jm,if_pos Qu]<;>rfl
       exact aM X4 [] [(68,⟨false,[aU (sK x)]⟩),(69,⟨false,[.a (.lit (.string (zC (sK x))))]⟩)] [4,5] [] rfl (by(with_reducible and_intros);(iterate 2 all_goals try first|exact⟨⟩|exact(EV x hF.sz)|exact(FT (sK x)))) (aq (bI rfl (by and_intros<;>first|exact⟨⟩| (rw[hO]<;>rfl;done))))
      ·have Qu:s≠ [97,117,100,105,116]:=nq CV
       refine av X4 [0,70] rfl ?_
       refine an rfl ?_ ?_<;>intro LR
       ·have hw6:s= [113,117,105,101,116]:=jI LR
        have hO:gD x s=(x,some (zC (qN x))):=by rw[gD,if_neg hw0,if_neg hw1,if_neg oR,if_neg yx,if_neg Jm,if_neg Qu,if_pos hw6]<;>rfl
        exact aM X4 [] [(76,⟨false,[aU (qN x)]⟩),(77,⟨false,[.a (.lit (.string (zC (qN x))))]⟩)] [4,5] [] rfl (by(with_reducible and_intros);(iterate 2 all_goals try first|exact⟨⟩|exact(LP x (by have:=hF.dv;omega))|exact(FT (qN x)))) (aq (bI rfl (by and_intros<;>first|exact⟨⟩| (rw[hO]<;>rfl;done))))
       ·have hw6:s≠ [113,117,105,101,116]:=nq LR
        have hO:gD x s=(x,none):=by rw[gD,if_neg hw0,if_neg hw1,if_neg oR,if_neg yx,if_neg Jm,if_neg Qu,if_neg hw6]<;>rfl
        exact au (av X4 [4,5] rfl (aq (bI rfl (by and_intros<;>first|exact⟨⟩| (rw[hO]<;>rfl;done)))))
theorem zI(x:gI)(h1:rY x.id)(h2:rY x.fJ)(h6:rY x.sent)(h8:rY x.next):So 78 [.agg (cM x)] [.a (.lit (.string (Qj x)))]:=by
 refine eA X4 call78 func78 rfl rfl (by decide) ntmps78 (by simp) ?_
 intro zb
 refine b7 0 4 rfl rfl (fun hl1=> ?_)
 refine b7 0 6 rfl rfl (fun qS=> ?_)
 have z1:=dM h1
 have z2:=dM h2
 have z3:=dM h6
 have z4:=dM (n:=(x.bp.length:Int)) (by omega)
 have z5:=dM (n:=(x.inbox.length:Int)) (by omega)
 have z6:=dM h8
 refine av X4 [1] rfl (aa ?_)
 have t1:=(cD ((x.bp.length:Nat):Int) (by first|assumption|omega| (simp;done)| (simp;omega)))
 exact aQ X4 [] [(5,⟨false,[.a (.lit (.string (bP (cg x.id))))]⟩),(9,⟨false,[.a (.lit (.string (bP (cg x.fJ))))]⟩),(14,⟨false,[.a (.lit (.string (bP (cg x.sent))))]⟩),(20,⟨false,cx t1⟩),(26,⟨false,[.a (.lit (.string (bP (cg ((x.inbox.length:Nat):Int)))))]⟩),(31,⟨false,[.a (.lit (.string (bP (cg x.next))))]⟩)] [2] [] 2147483647 0 MO (by kernel_rfl) rfl (by kernel_rfl) (by(with_reducible and_intros);(iterate 7 all_goals try first|exact⟨⟩|exact(cD x.id (by first|assumption|omega| (simp;done)| (simp;omega)))|exact(cD x.fJ (by first|assumption|omega| (simp;done)| (simp;omega)))|exact(cD x.sent (by first|assumption|omega| (simp;done)| (simp;omega)))|exact(cD ((x.bp.length:Nat):Int) (by first|assumption|omega| (simp;done)| (simp;omega)))|exact(cD ((x.inbox.length:Nat):Int) (by first|assumption|omega| (simp;done)| (simp;omega)))|exact(cD x.next (by first|assumption|omega| (simp;done)| (simp;omega)))|exact(by simp only[bA,ko,jV];omega))) (aq (aj rfl ⟨rfl,⟨⟩⟩))
theorem zJ(x:gI)(h1:rY x.id)(h2:rY x.fJ)(h6:rY x.sent)(h8:rY x.next):So 51 [.agg (cM x)] [.a (.lit (.string (Qj x)))]:=by
 refine eA X4 call51 func51 rfl rfl (by decide) ntmps51 (by simp) ?_
 intro zb
 refine b7 0 4 rfl rfl (fun hl1=> ?_)
 refine b7 0 6 rfl rfl (fun qS=> ?_)
 have z1:=dM h1
 have z2:=dM h2
 have z3:=dM h6
 have z4:=dM (n:=(x.bp.length:Int)) (by omega)
 have z5:=dM (n:=(x.inbox.length:Int)) (by omega)
 have z6:=dM h8
 refine av X4 [1] rfl (aa ?_)
 have t1:=(bL ((x.bp.length:Nat):Int) (by first|assumption|omega| (simp;done)| (simp;omega)))
 exact aQ X4 [] [(5,⟨false,[.a (.lit (.string (bP (cg x.id))))]⟩),(9,⟨false,[.a (.lit (.string (bP (cg x.fJ))))]⟩),(14,⟨false,[.a (.lit (.string (bP (cg x.sent))))]⟩),(20,⟨false,cx t1⟩),(26,⟨false,[.a (.lit (.string (bP (cg ((x.inbox.length:Nat):Int)))))]⟩),(31,⟨false,[.a (.lit (.string (bP (cg x.next))))]⟩)] [2] [] 2147483647 0 MO (by kernel_rfl) rfl (by kernel_rfl) (by(with_reducible and_intros);(iterate 7 all_goals try first|exact⟨⟩|exact(bL x.id (by first|assumption|omega| (simp;done)| (simp;omega)))|exact(bL x.fJ (by first|assumption|omega| (simp;done)| (simp;omega)))|exact(bL x.sent (by first|assumption|omega| (simp;done)| (simp;omega)))|exact(bL ((x.bp.length:Nat):Int) (by first|assumption|omega| (simp;done)| (simp;omega)))|exact(bL ((x.inbox.length:Nat):Int) (by first|assumption|omega| (simp;done)| (simp;omega)))|exact(bL x.next (by first|assumption|omega| (simp;done)| (simp;omega)))|exact(by simp only[bA,ko,jV];omega))) (aq (aj rfl ⟨rfl,⟨⟩⟩))
theorem MW(x:bN)(n:Nat)(s:List UInt8)(c:Int)(F2:JW x n∧n≤10000)(hc:0≤c):jG ty aN 24 (hW x) [.a (.ptr 1000 0), .a (.lit (.string (bP s))),aI c] (hW (kY x s c).1) [.a (.lit (.string (lnT (kY x s c))))]:=by
 refine fW X4 call24 func24 rfl rfl (by decide) ntmps24 (by simp) rfl ?_
 intro zb
 obtain⟨hJ,hn⟩:=F2
 have hC:=lW hJ.C (show 8*n≤4100000 by omega)
 have hF:=hJ.F (by omega)
 have hR:=hJ.R (by omega)
 refine av X4 [0,1,2] rfl (aa (av X4 [0,1,2,7] rfl (aB (av X4 [0,1,2,7,8] rfl ?_))))
 refine an rfl ?_ ?_<;>intro hb0
 ·have hw0:s= [99,114,97,115,104]:=jI hb0
  have hO:kY x s c=Wf x ⟨3,c,0,[]⟩:=by rw[kY,if_pos hw0]<;>rfl
  refine aa ?_
  have t1:=(nS x (⟨3,c,0,[]⟩:Ev) hR (aE _))
  exact yu X4 [] [(800013,⟨true,nX t1⟩),(700013,⟨true, .agg [.ptr 1000 1000, .ptr 261 261, .ptr 262 262, .ptr 264 264, .ptr 268 268]:: .agg []::nY t1⟩),(1200012,⟨true,[.agg (oT ⟨3,c,0,[]⟩)]⟩)] [6] [] rfl (by(with_reducible and_intros)<;>first|exact⟨⟩|exact t1) (aq (bI rfl (by and_intros<;>first|exact⟨⟩| (rw[hO]<;>rfl;done))))
 ·have hw0:s≠ [99,114,97,115,104]:=nq hb0
  refine av X4 [0,1,2,7,14] rfl ?_
  refine an rfl ?_ ?_<;>intro bM
  ·have hw1:s= [115,97,118,101]:=jI bM
   have hO:kY x s c=Wf x ⟨5,c,0,[]⟩:=by rw[kY,if_neg hw0,if_pos hw1]<;>rfl
   refine aa ?_
   have t1:=(nS x (⟨5,c,0,[]⟩:Ev) hR (aE _))
   exact yu X4 [] [(800019,⟨true,nX t1⟩),(700019,⟨true, .agg [.ptr 1000 1000, .ptr 261 261, .ptr 262 262, .ptr 264 264, .ptr 268 268]:: .agg []::nY t1⟩),(1200018,⟨true,[.agg (oT ⟨5,c,0,[]⟩)]⟩)] [6] [] rfl (by(with_reducible and_intros)<;>first|exact⟨⟩|exact t1) (aq (bI rfl (by and_intros<;>first|exact⟨⟩| (rw[hO]<;>rfl;done))))
  ·have hw1:s≠ [115,97,118,101]:=nq bM
   refine av X4 [0,1,2,7,20] rfl ?_
   refine an rfl ?_ ?_<;>intro cS
   ·have oR:s= [114,111,117,110,100,115]:=jI cS
    have hO:kY x s c=rnO x c:=by rw[kY,if_neg hw0,if_neg hw1,if_pos oR]<;>rfl
    refine aa ?_
    have t1:=(vQ x n c ⟨hJ,hn⟩)
    exact bn X4 [] [(800024,⟨true,nX t1⟩),(700024,⟨true, .agg [.ptr 1000 1000, .ptr 261 261, .ptr 262 262, .ptr 264 264, .ptr 268 268]:: .agg []::nY t1⟩)] [6] [] rfl (by(with_reducible and_intros)<;>first|exact⟨⟩|exact t1) (aq (bI rfl (by and_intros<;>first|exact⟨⟩| (rw[hO]<;>rfl;done))))
   ·have oR:s≠ [114,111,117,110,100,115]:=nq cS
    refine aa (av X4 [0,1,2,7,25] rfl ?_)
    refine an rfl ?_ ?_<;>intro iZ
    ·have yx:s= [99,108,105,101,110,116]:=jI iZ
     refine au (an rfl ?_ ?_)<;>intro qD
     ·refine aa (aO X4 [0,1,2,34] rfl (by trivial) ?_)
      refine an rfl ?_ ?_<;>intro CV
      ·try simp only[bG]at CV
       have hO:kY x s c=(x,some Jj):=by rw[kY,if_neg hw0,if_neg hw1,if_neg oR,if_pos yx,aaD,if_pos CV]<;>rfl
       exact av X4 [6] rfl (aq (bI rfl (by and_intros<;>first|exact⟨⟩| (rw[hO]<;>rfl;done))))
      ·try simp only[bG]at CV
       have hO:kY x s c=(x,some (Qj (x.ah.getD c.toNat (aR .bR)).live)):=by rw[kY,if_neg hw0,if_neg hw1,if_neg oR,if_pos yx,aaD,if_neg (by omega)]<;>rfl
       have hlt:c.toNat<x.ah.length:=by omega
       obtain⟨q1,q2,q3,q4⟩:=hF.cl _ hlt
       refine au (aa (av X4 [0,2,36] rfl ?_))
       refine an rfl ?_ ?_<;>intro LR
       ·have h9:s= [105,110,98,111,120]:=jI LR
        exact absurd (h9.symm.trans yx) (by decide)
       ·exact au (aM X4 [] [(50,⟨false,[.a (.lit (.string (Qj ((x.ah.getD c.toNat (aR .bR)).live))))]⟩)] [6] [] rfl (by(with_reducible and_intros)<;>first|exact⟨⟩|exact(zJ ((x.ah.getD c.toNat (aR .bR)).live) q1 q2 q3 q4)| (intros;omega)) (aq (bI rfl (by and_intros<;>first|exact⟨⟩| (rw[hO]<;>rfl;done)))))
     ·exact absurd (iZ.symm.trans qD) (by decide)
    ·have yx:s≠ [99,108,105,101,110,116]:=nq iZ
     refine bU X4 [0,1,2,7,25] rfl ?_
     refine an rfl ?_ ?_<;>intro qD
     ·have Jm:s= [105,110,98,111,120]:=jI qD
      refine aa (aO X4 [0,1,2,34] rfl (by trivial) ?_)
      refine an rfl ?_ ?_<;>intro CV
      ·try simp only[bG]at CV
       have hO:kY x s c=(x,some Jj):=by rw[kY,if_neg hw0,if_neg hw1,if_neg oR,if_neg yx,if_pos Jm,aaE,if_pos CV]<;>rfl
       exact av X4 [6] rfl (aq (bI rfl (by and_intros<;>first|exact⟨⟩| (rw[hO]<;>rfl;done))))
      ·try simp only[bG]at CV
       have hO:kY x s c=(x,some (HH x c)):=by rw[kY,if_neg hw0,if_neg hw1,if_neg oR,if_neg yx,if_pos Jm,aaE,if_neg (by omega)]<;>rfl
       refine au (aa (av X4 [0,2,36] rfl ?_))
       refine an rfl ?_ ?_<;>intro LR
       ·exact aM X4 [] [(41,⟨false,[.a (.lit (.string (HH x c)))]⟩)] [6] [] rfl (by(with_reducible and_intros)<;>first|exact⟨⟩|exact(CC x c (by have:=hF.dv;omega) (hF.inb c))) (aq (bI rfl (by and_intros<;>first|exact⟨⟩| (rw[hO]<;>rfl;done))))
       ·exact absurd (qD.symm.trans LR) (by decide)
     ·have Jm:s≠ [105,110,98,111,120]:=nq qD
      refine av X4 [0,2,51] rfl ?_
      refine an rfl ?_ ?_<;>intro hb7
      ·have Qu:s= [115,101,114,118,101,114]:=jI hb7
       refine aa (aO X4 [0,2,59] rfl (by trivial) ?_)
       refine an rfl ?_ ?_<;>intro hb8
       ·try simp only[bG]at hb8
        have hO:kY x s c=(x,some Jj):=by rw[kY,if_neg hw0,if_neg hw1,if_neg oR,if_neg yx,if_neg Jm,if_pos Qu,aaF,if_pos hb8]<;>rfl
        exact av X4 [6] rfl (aq (bI rfl (by and_intros<;>first|exact⟨⟩| (rw[hO]<;>rfl;done))))
       ·try simp only[bG]at hb8
        have hO:kY x s c=(x,some (HJ (x.aG.getD c.toNat (aR .cu)))):=by rw[kY,if_neg hw0,if_neg hw1,if_neg oR,if_neg yx,if_neg Jm,if_pos Qu,aaF,if_neg (by omega)]<;>rfl
        have hlt:c.toNat<x.aG.length:=by omega
        obtain⟨q1,q2,q3⟩:=hF.se _ hlt
        exact au (aM X4 [] [(67,⟨false,[.a (.lit (.string (HJ (x.aG.getD c.toNat (aR .cu)))))]⟩)] [6] [] rfl (by(with_reducible and_intros)<;>first|exact⟨⟩|exact(Cy (x.aG.getD c.toNat (aR .cu)) q1 q2 q3)| (intros;omega)) (aq (bI rfl (by and_intros<;>first|exact⟨⟩| (rw[hO]<;>rfl;done)))))
      ·have Qu:s≠ [115,101,114,118,101,114]:=nq hb7
       have hO:kY x s c=(x,none):=by rw[kY,if_neg hw0,if_neg hw1,if_neg oR,if_neg yx,if_neg Jm,if_neg Qu]<;>rfl
       exact au (av X4 [6] rfl (aq (bI rfl (by and_intros<;>first|exact⟨⟩| (rw[hO]<;>rfl;done)))))
theorem Bz(x:bN)(r row q:Int)(hk:okW x=true):So 53 [.agg (bw x),aI r,aI row,aI q] [.a (.sl .u8 (EZ x r row q)),aU (AT x r row q)]:=by
 refine eA X4 call53 func53 rfl rfl (by decide) ntmps53 (by simp) ?_
 intro zb
 refine av X4 [1,2,3,4] rfl (aa (aM X4 [] [(11,⟨false,[aU (okW x)]⟩)] [1,2,3,4,12] [] rfl (by(with_reducible and_intros)<;>first|exact⟨⟩|exact(dL x)) ?_))
 refine an rfl ?_ ?_<;>intro hb0
 ·exact absurd hb0 (by rw[hk];decide)
 ·exact au (aM X4 [] [(18,⟨true,[.a (.sl .u8 (EZ x r row q)),aU (AT x r row q)]⟩)] [8,9] [] rfl (by(with_reducible and_intros)<;>first|exact⟨⟩|exact(uq x r row q hk)) (aq (aj rfl ⟨rfl,rfl,⟨⟩⟩)))
theorem yA{x:bN}{n:Nat}(hJ:JW x n)(r row:Int):So 74 [.agg (bw x),aI r,aI row,aI 1] [.a (.sl .u8 (pdL x r row)),aU (DR x r row)]:=by
 rcases hJ with rfl| ⟨h,_⟩
 ·rw[show pdL zW r row= []from if_neg (by rw[Bn];decide),show DR zW r row=false by unfold DR;rw[Bn];rfl]
  exact Bs r row 1
 ·rw[show pdL x r row=EZ x r row 1 from if_pos h.ok,show DR x r row=AT x r row 1 by unfold DR;rw[h.ok];rfl]
  exact oA x r row 1 h.ok
theorem yB{x:bN}{n:Nat}(hJ:JW x n)(r row:Int):So 53 [.agg (bw x),aI r,aI row,aI 1] [.a (.sl .u8 (pdL x r row)),aU (DR x r row)]:=by
 rcases hJ with rfl| ⟨h,_⟩
 ·rw[show pdL zW r row= []from if_neg (by rw[Bn];decide),show DR zW r row=false by unfold DR;rw[Bn];rfl]
  exact Bt r row 1
 ·rw[show pdL x r row=EZ x r row 1 from if_pos h.ok,show DR x r row=AT x r row 1 by unfold DR;rw[h.ok];rfl]
  exact Bz x r row 1 h.ok
theorem MX(x:bN)(n:Nat)(s:List UInt8)(c:Int)(t:List UInt8)(F2:JW x n∧n≤10000)(ht:t.length≤1048576):jG ty aN 25 (hW x) [.a (.ptr 1000 0), .a (.lit (.string (bP s))),aI c, .a (.lit (.string (bP t)))] (hW (pZ x s c t).1) [.a (.lit (.string (lnT (pZ x s c t))))]:=by
 refine fW X4 call25 func25 rfl rfl (by decide) ntmps25 (by simp) rfl ?_
 intro zb
 obtain⟨hJ,hn⟩:=F2
 have hC:=lW hJ.C (show 8*n≤4100000 by omega)
 have hF:=hJ.F (by omega)
 have hR:=hJ.R (by omega)
 have hzt:(bP t).size=t.length:=rfl
 refine av X4 [0,1,2,3] rfl (aM X4 [] [(17,⟨false,[aI (ez t),aU (fD t)]⟩)] [0,1,2,3,9,10] [] rfl (by(with_reducible and_intros)<;>first|exact⟨⟩|exact(sH t (by first|assumption|omega| (simp;done)| (simp;omega)))) (aa (aB (av X4 [0,1,2,3,9,10,20] rfl ?_))))
 refine an rfl ?_ ?_<;>intro hb0
 ·have hw0:s= [115,101,110,100]∧t≠ []:=⟨jI (zD hb0).1,aiQ (zD hb0).2⟩
  have hO:pZ x s c t=Wf x ⟨2,c,0,t⟩:=by rw[pZ,if_pos hw0]<;>rfl
  refine aa ?_
  have t1:=(nS x (⟨2,c,0,t⟩:Ev) hR ht)
  exact YS X4 [] [(800032,⟨true,nX t1⟩),(700032,⟨true, .agg [.ptr 1000 1000, .ptr 261 261, .ptr 262 262, .ptr 264 264, .ptr 268 268]:: .agg []::nY t1⟩)] [8] 3 rfl (by(with_reducible and_intros)<;>first|exact⟨⟩|exact t1| (intros;omega)) (aq (bI rfl (by and_intros<;>first|exact⟨⟩| (rw[hO]<;>rfl;done))))
 ·have hw0: ¬(s= [115,101,110,100]∧t≠ []):=fun h=>Wi hb0 ⟨Wj.2 h.1,apG h.2⟩
  refine av X4 [0,1,2,3,9,33] rfl ?_
  refine an rfl ?_ ?_<;>intro bM
  ·have hw1:s= [114,101,97,100]∧fD t=true:=⟨jI (zD bM).1,(zD bM).2⟩
   have hO:pZ x s c t=(x,some (pdT x c (ez t))):=by rw[pZ,if_neg hw0,if_pos hw1]<;>rfl
   refine aM X4 [] [(45,⟨false,[.a (.sl .u8 (pdL x c (ez t))),aU (DR x c (ez t))]⟩)] [11,12] [] rfl (by(with_reducible and_intros)<;>first|exact⟨⟩|exact(yB hJ c (ez t))) (aa (av X4 [11,49] rfl ?_))
   refine an rfl ?_ ?_<;>intro cS
   ·rw[akK (by simpa using cS)]at hO
    exact av X4 [8] rfl (aq (bI rfl (by and_intros<;>first|exact⟨⟩| (rw[hO]<;>rfl;done))))
   ·have Z9:=afe (x:=x) (r:=c) (row:=ez t) (by simpa using cS)
    rw[Z9.2]at hO
    rw[Z9.1]
    exact au (aM X4 [] [(51,⟨false,[.a (.lit (.string (rS (EZ x c (ez t) 1))))]⟩)] [8] [] rfl (by(with_reducible and_intros)<;>first|exact⟨⟩|exact(F1 (EZ x c (ez t) 1) (Qp ..))) (aq (bI rfl (by and_intros<;>first|exact⟨⟩| (rw[hO]<;>rfl;done)))))
  ·have hw1: ¬(s= [114,101,97,100]∧fD t=true):=fun h=>Wi bM ⟨Wj.2 h.1,h.2⟩
   refine av X4 [0,2,3,52] rfl ?_
   refine an rfl ?_ ?_<;>intro iZ
   ·have oR:s= [99,111,114,114,117,112,116]:=jI iZ
    refine aO X4 [0,2,3,13] rfl ⟨⟨rfl,cE _ (by decide)⟩,by decide,by decide,by decide,by decide,⟨⟩⟩ (av X4 [0,2,3,13,14] rfl ?_)
    refine aB (aP (fun k=>k≤4∧ ∀j,j<k→names.getD j []≠t) (fun k:Nat=> [(14, .one ((aI k)))]) (fun k=> [(55, .arr .str names)]) (fun k=>4-k) 0 (fun k=>rfl) ⟨aE _,fun j hj=>absurd hj (Nat.not_lt_zero _)⟩ rfl ?_)
    rintro k ⟨hk,hno⟩
    refine aa (av X4 [0,2,3,13,14,59] rfl ?_)
    refine an rfl ?_ ?_<;>intro qD
    ·try simp only[bG]at qD
     have at2:k<4:=qD
     refine au (aa (aB (aO X4 [0,2,3,13,14,67] rfl (by and_intros<;>first|exact⟨⟩| (intros;omega)) ?_)))
     refine an rfl ?_ ?_<;>intro CV
     ·have hhi:names.getD k []=t:=jI CV
      have hnk:=am0 (by have:k<4:=qD;omega) hhi
      have hO:pZ x s c t=Wf x ⟨4,c,(k:Int),[]⟩:=by rw[pZ,if_neg hw0,if_neg hw1,if_pos ⟨oR,by rw[hnk];omega⟩,hnk]<;>rfl
      refine aa ?_
      have t1:=(nS x (⟨4,c,(k:Int),[]⟩:Ev) hR (aE _))
      exact yu X4 [] [(800072,⟨true,nX t1⟩),(700072,⟨true, .agg [.ptr 1000 1000, .ptr 261 261, .ptr 262 262, .ptr 264 264, .ptr 268 268]:: .agg []::nY t1⟩),(1200071,⟨true,[.agg (oT ⟨4,c,(k:Int),[]⟩)]⟩)] [8] [] rfl (by(with_reducible and_intros)<;>first|exact⟨⟩|exact t1) (aq (bI rfl (by and_intros<;>first|exact⟨⟩| (rw[hO]<;>rfl;done))))
     ·have hhi:names.getD k []≠t:=nq CV
      refine au (bU X4 [0,2,3,13,14] rfl ?_)
      refine⟨k+1,⟨by have:k<4:=qD;omega,fun j hj=>by rcases Nat.lt_succ_iff_lt_or_eq.1 hj with h|h;exact hno j h;rw[h];exact hhi⟩,by omega,?_⟩
      rw[bZ _ k rfl (by omega)]
      try rfl
    ·try simp only[bG]at qD
     have hmi:=aiR (t:=t) (fun j hj=>hno j (by have:4≤k:=qD;omega))
     have hO:pZ x s c t=(x,none):=by rw[pZ,if_neg hw0,if_neg hw1,if_neg (fun h=>by rw[hmi]at h;omega)]<;>rfl
     exact aW (av X4 [8] rfl (aq (bI rfl (by and_intros<;>first|exact⟨⟩| (rw[hO]<;>rfl;done)))))
   ·have oR:s≠ [99,111,114,114,117,112,116]:=nq iZ
    have hO:pZ x s c t=(x,none):=by rw[pZ,if_neg hw0,if_neg hw1,if_neg (fun h=>oR h.1)]<;>rfl
    exact au (av X4 [8] rfl (aq (bI rfl (by and_intros<;>first|exact⟨⟩| (rw[hO]<;>rfl;done)))))
theorem MY(x:bN)(n:Nat)(L:List (List UInt8))(F2:JW x n∧n≤10000)(hL:L.length=5)(hz:eN aL L≤1048576):jG ty aN 22 (hW x) [.a (.ptr 1000 0), .a (.sl .str L)] (hW (nwL x (L.drop 1)).1) [.a (.lit (.string (lnT (nwL x (L.drop 1)))))]:=by
 refine fW X4 call22 func22 rfl rfl (by decide) ntmps22 (by simp) rfl ?_
 intro zb
 obtain⟨hJ,hn⟩:=F2
 have hC:=lW hJ.C (show 8*n≤4100000 by omega)
 have hF:=hJ.F (by omega)
 have hR:=hJ.R (by omega)
 have hML:(L.drop 1).length=4:=by rw[b9];omega
 refine av X4 [0,1] rfl (aO X4 [0,1,5] rfl (by and_intros<;>first|exact⟨⟩|exact rfl) (aa (av X4 [0,1,5,6] rfl ?_)))
 refine aB (aP (fun k=>1≤k∧k≤5∧((L.drop 1).take (k-1)).all fD=true) (fun k:Nat=> [(6, .one ((aI k)))]) (fun k=> [(9, .arr .int (nmL (L.drop 1) (k-1)))]) (fun k=>5-k) 1 (fun k=>rfl) ⟨Nat.le_refl _,by decide,rfl⟩ rfl ?_)
 rintro k ⟨hk1,hk,hall⟩
 have hnl:=YQ (M:=(L.drop 1)) (j:=k-1) (by omega)
 refine aa (av X4 [0,1,5,6,13] rfl ?_)
 refine an rfl ?_ ?_<;>intro hb0
 ·try simp only[bG]at hb0
  have hkL:k<5:=by omega
  have hy:=sV hz (show k<L.length by omega)
  have hge:(L.drop 1).getD (k-1) []=L.getD k []:=by rw[aA,aA,cK,show 1+(k-1)=k by omega]
  refine au (aa (aB (aa ?_)))
  have t1:=(sH (L.getD k []) hy)
  refine bn X4 [] [(21,⟨false,cx t1⟩)] [0,1,5,6,7,8] [] rfl (by(with_reducible and_intros)<;>first|exact⟨⟩|exact t1| (intros;omega)) (aa (av X4 [0,1,5,6,7,25] rfl ?_))
  refine an rfl ?_ ?_<;>intro bM
  ·have hO:nwL x (L.drop 1)=(x,none):=if_neg (by rw[Oh (j:=k-1) (by omega) (by rw[hge];simpa using bM)];decide)
   exact av X4 [4] rfl (aq (bI rfl (by and_intros<;>first|exact⟨⟩| (rw[hO]<;>rfl;done))))
  ·have hst:=TT (M:=(L.drop 1)) (j:=k-1) (by omega)
   rw[hge,show k-1+1=k+1-1 by omega]at hst
   refine au (bn X4 [(29,9)] [] [0,1,5,6] [] rfl (by and_intros<;>first|exact⟨⟩|exact rfl| (simp only[gR,maxLen,lens];omega)) (bU X4 [0,1,5,6] rfl ?_))
   refine⟨k+1,⟨by omega,by omega,by rw[show k+1-1=k-1+1 by omega];exact aff (by omega) hall (by rw[hge];simpa using bM)⟩,by omega,?_⟩
   rw[bZ _ k rfl (by omega), ←hst]
   try rfl
 ·try simp only[bG]at hb0
  obtain⟨rE,hN⟩:=YR (M:=(L.drop 1)) (j:=k-1) (by omega) hall
  rw[hN]
  have hN4:((L.drop 1).map ez).length=4:=by rw[List.length_map];exact hML
  have hO:nwL x (L.drop 1)=nwO (((L.drop 1).map ez).getD 0 0) (((L.drop 1).map ez).getD 1 0) (((L.drop 1).map ez).getD 2 0) (((L.drop 1).map ez).getD 3 0):=if_pos rE
  refine aW (aa (aQ X4 [(43,280)] [(43,⟨true,[.agg (bw (Wd (((L.drop 1).map ez).getD 0 0) (((L.drop 1).map ez).getD 1 0) (((L.drop 1).map ez).getD 2 0) (((L.drop 1).map ez).getD 3 0)))]⟩)] [0] [] 32767 0 MO (by kernel_rfl) rfl (by kernel_rfl) (by(with_reducible and_intros)<;>first|exact⟨⟩|exact(CE _ _ _ _)| (intros;omega)) (eC 281 261 rfl (eC 282 262 rfl (eC 284 264 rfl (eC 288 268 rfl (aa ?_)))))))
  have t1:=(dL (Wd (((L.drop 1).map ez).getD 0 0) (((L.drop 1).map ez).getD 1 0) (((L.drop 1).map ez).getD 2 0) (((L.drop 1).map ez).getD 3 0)))
  have t2:=(FU (okW (Wd (((L.drop 1).map ez).getD 0 0) (((L.drop 1).map ez).getD 1 0) (((L.drop 1).map ez).getD 2 0) (((L.drop 1).map ez).getD 3 0))))
  exact bn X4 [] [(48,⟨false,cx t1⟩),(49,⟨false,cx t2⟩)] [4] [] rfl (by(with_reducible and_intros);(iterate 2 all_goals try first|exact⟨⟩|exact t1|exact t2)) (aq (bI rfl (by and_intros<;>first|exact⟨⟩| (rw[hO]<;>rfl;done))))
end
section
set_option maxRecDepth 100000
theorem zK(x:bN)(n:Nat)(s:List UInt8)(l:List Int)(F2:JW x n∧n≤10000)(hl:l.length≤1048576)(hp: ∀y,y∈l→0≤y):jG ty aN 32 (hW x) [.a (.ptr 1000 0), .a (.lit (.string (bP s))), .a (.sl .int l)] (hW (mT x s l).1) [.a (.lit (.string ((mT x s l).2.getD ⟨#[]⟩))),aU (mT x s l).2.isSome]:=by
 refine fW X4 call32 func32 rfl rfl (by decide) ntmps32 (by simp) rfl ?_
 intro zb
 obtain⟨hJ,hn⟩:=F2
 have hC:=lW hJ.C (show 8*n≤4100000 by omega)
 have hF:=hJ.F (by omega)
 have hR:=hJ.R (by omega)
 have hdl:x.ah.length≤1048576:=by have:=hF.dv;omega
 refine av X4 [0,1,2] rfl (aa (aB (av X4 [0,1,2,10] rfl ?_)))
 refine an rfl ?_ ?_<;>intro hb0
 ·have aaG:s= [110,101,119]∧l.length=4:=⟨jI (zD hb0).1,by have h:=Br.1 (zD hb0).2;omega⟩
  have hl4:=aaG.2
  have hO:mT x s l=nwO (l.getD 0 0) (l.getD 1 0) (l.getD 2 0) (l.getD 3 0):=if_pos aaG
  refine aa (aQ X4 [(31,280)] [(31,⟨true,[.agg (bw (Wd (l.getD 0 0) (l.getD 1 0) (l.getD 2 0) (l.getD 3 0)))]⟩)] [0] [] 65535 0 MO (by kernel_rfl) rfl (by kernel_rfl) (by(with_reducible and_intros)<;>first|exact⟨⟩|exact(CD _ _ _ _)| (intros;omega)) (eC 281 261 rfl (eC 282 262 rfl (eC 284 264 rfl (eC 288 268 rfl (aa ?_))))))
  have t1:=(dy (Wd (l.getD 0 0) (l.getD 1 0) (l.getD 2 0) (l.getD 3 0)))
  have t2:=(IF (okW (Wd (l.getD 0 0) (l.getD 1 0) (l.getD 2 0) (l.getD 3 0))))
  exact bn X4 [] [(38,⟨false,cx t1⟩),(39,⟨false,cx t2⟩)] [6,7] [] rfl (by(with_reducible and_intros);(iterate 2 all_goals try first|exact⟨⟩|exact t1|exact t2)) (aq (bI rfl (by and_intros<;>first|exact⟨⟩| (rw[hO]<;>rfl;done))))
 ·have aaG: ¬(s= [110,101,119]∧l.length=4):=fun h=>Wi hb0 ⟨Wj.2 h.1,Br.2 (by rw[h.2];rfl)⟩
  refine av X4 [0,1,2,40] rfl ?_
  refine an rfl ?_ ?_<;>intro bM
  ·have afl:s= [114,101,97,100]∧l.length=2:=⟨jI (zD bM).1,by have h:=Br.1 (zD bM).2;omega⟩
   have qS:=afl.2
   have hO:mT x s l=(x,some (pdT x (l.getD 0 0) (l.getD 1 0))):=by rw[mT,if_neg aaG,if_pos afl]<;>rfl
   refine aa ?_
   have t1:=(yA hJ (l.getD 0 0) (l.getD 1 0))
   refine aQ X4 [] [(59,⟨false,cx t1⟩)] [8,9] [] 65535 0 MO (by kernel_rfl) rfl (by kernel_rfl) (by(with_reducible and_intros)<;>first|exact⟨⟩|exact t1| (intros;omega)) (aa (av X4 [8,63] rfl ?_))
   refine an rfl ?_ ?_<;>intro cS
   ·rw[akK (by simpa using cS)]at hO
    exact av X4 [6,7] rfl (aq (bI rfl (by and_intros<;>first|exact⟨⟩| (rw[hO]<;>rfl;done))))
   ·have Z9:=afe (x:=x) (r:=(l.getD 0 0)) (row:=(l.getD 1 0)) (by simpa using cS)
    rw[Z9.2]at hO
    rw[Z9.1]
    exact au (aM X4 [] [(65,⟨false,[.a (.lit (.string (rS (EZ x (l.getD 0 0) (l.getD 1 0) 1))))]⟩)] [6,7] [] rfl (by(with_reducible and_intros)<;>first|exact⟨⟩|exact(F0 (EZ x (l.getD 0 0) (l.getD 1 0) 1) (Qp ..))) (aq (bI rfl (by and_intros<;>first|exact⟨⟩| (rw[hO]<;>rfl;done)))))
  ·have afl: ¬(s= [114,101,97,100]∧l.length=2):=fun h=>Wi bM ⟨Wj.2 h.1,Br.2 (by rw[h.2];rfl)⟩
   refine av X4 [0,1,2,66] rfl ?_
   refine an rfl ?_ ?_<;>intro iZ
   ·try simp only[bG]at iZ
    have hl1: ¬l.length=1:=by omega
    have hO:mT x s l=(x,none):=by rw[mT,if_neg aaG,if_neg afl,if_neg hl1]<;>rfl
    exact av X4 [6,7] rfl (aq (bI rfl (by and_intros<;>first|exact⟨⟩| (rw[hO]<;>rfl;done))))
   ·try simp only[bG]at iZ
    have hl1:l.length=1:=by omega
    have hgd:l.getD (Int.toNat 0) (aR .int)=l.getD 0 0:=rfl
    have hP1:mT x s l=kY x s (l.getD 0 0):=by rw[mT,if_neg aaG,if_neg afl,if_pos hl1]<;>rfl
    have hc:0≤(l.getD 0 0):=by rw[aA,List.getElem?_eq_getElem (show 0<l.length by omega)];exact hp _ (List.getElem_mem _)
    refine au (aa (av X4 [0,1,2,70] rfl (aB (av X4 [0,1,2,70,71] rfl ?_))))
    refine an rfl ?_ ?_<;>intro qD
    ·have hw0:s= [99,114,97,115,104]:=jI qD
     have hO:mT x s l=Wf x ⟨3,(l.getD 0 0),0,[]⟩:=by rw[hP1,kY,if_pos hw0]<;>rfl
     refine aa ?_
     have t1:=(jd x (⟨3,(l.getD 0 0),0,[]⟩:Ev) hR (aE _))
     exact yu X4 [] [(800078,⟨true,nX t1⟩),(700078,⟨true, .agg [.ptr 1000 1000, .ptr 261 261, .ptr 262 262, .ptr 264 264, .ptr 268 268]:: .agg []::nY t1⟩),(1200077,⟨true,[.agg (oT ⟨3,(l.getD 0 0),0,[]⟩)]⟩)] [6,7] [] rfl (by(with_reducible and_intros)<;>first|exact⟨⟩|exact t1| (intros;omega)) (aq (bI rfl (by and_intros<;>first|exact⟨⟩| (rw[hO]<;>rfl;done))))
    ·have hw0:s≠ [99,114,97,115,104]:=nq qD
     refine av X4 [0,1,2,70,79] rfl ?_
     refine an rfl ?_ ?_<;>intro CV
     ·have hw1:s= [115,97,118,101]:=jI CV
      have hO:mT x s l=Wf x ⟨5,(l.getD 0 0),0,[]⟩:=by rw[hP1,kY,if_neg hw0,if_pos hw1]<;>rfl
      refine aa ?_
      have t1:=(jd x (⟨5,(l.getD 0 0),0,[]⟩:Ev) hR (aE _))
      exact yu X4 [] [(800086,⟨true,nX t1⟩),(700086,⟨true, .agg [.ptr 1000 1000, .ptr 261 261, .ptr 262 262, .ptr 264 264, .ptr 268 268]:: .agg []::nY t1⟩),(1200085,⟨true,[.agg (oT ⟨5,(l.getD 0 0),0,[]⟩)]⟩)] [6,7] [] rfl (by(with_reducible and_intros)<;>first|exact⟨⟩|exact t1| (intros;omega)) (aq (bI rfl (by and_intros<;>first|exact⟨⟩| (rw[hO]<;>rfl;done))))
     ·have hw1:s≠ [115,97,118,101]:=nq CV
      refine av X4 [0,1,2,70,87] rfl ?_
      refine an rfl ?_ ?_<;>intro LR
      ·have oR:s= [114,111,117,110,100,115]:=jI LR
       have hO:mT x s l=rnO x (l.getD 0 0):=by rw[hP1,kY,if_neg hw0,if_neg hw1,if_pos oR]<;>rfl
       exact aa (aQ X4 [(98,280)] [(98,⟨true,[.agg (bw (iK x (yh (kr (l.getD 0 0) 60))))]⟩)] [0] [] 4095 0 MO (by kernel_rfl) rfl (by kernel_rfl) (by(with_reducible and_intros)<;>first|exact⟨⟩|exact(wV x (kr (l.getD 0 0) 60) hC)| (intros;omega)) (eC 281 261 rfl (eC 282 262 rfl (eC 284 264 rfl (eC 288 268 rfl (aM X4 [] [(105,⟨false,[.a (.lit (.string (wZ (iK x (yh (kr (l.getD 0 0) 60))))))]⟩)] [6,7] [] rfl (by(with_reducible and_intros)<;>first|exact⟨⟩|exact(kW (iK x (yh (kr (l.getD 0 0) 60))) (((hJ.rn hn (l.getD 0 0)).F (by omega)).rd) (((hJ.rn hn (l.getD 0 0)).F (by omega)).ca) ((hJ.rn hn (l.getD 0 0)).F (by omega)).re (by have:=((hJ.rn hn (l.getD 0 0)).F (by omega)).dv;omega) ((hJ.rn hn (l.getD 0 0)).F (by omega)).rl)) (aq (bI rfl (by and_intros<;>first|exact⟨⟩| (rw[hO]<;>rfl;done))))))))))
      ·have oR:s≠ [114,111,117,110,100,115]:=nq LR
       refine aa (av X4 [0,1,2,70,106] rfl ?_)
       refine an rfl ?_ ?_<;>intro hb7
       ·have yx:s= [99,108,105,101,110,116]:=jI hb7
        refine au (an rfl ?_ ?_)<;>intro hb8
        ·refine aa (aa (aQ X4 [] [(116,⟨false,[aU (kA x (l.getD 0 0))]⟩)] [0,1,2,117] [] 511 0 MO (by kernel_rfl) rfl (by kernel_rfl) (by(with_reducible and_intros)<;>first|exact⟨⟩|exact(gj x (l.getD 0 0))| (intros;omega)) ?_))
         refine an rfl ?_ ?_<;>intro hb9
         ·have hge:(x.ah.length:Int)≤(l.getD 0 0):=by(rcases Int.lt_or_le (l.getD 0 0) (x.ah.length:Int)with h|h;exact absurd ((B4 hdl).2 ⟨hc,h⟩) (by simpa using hb9);exact h)
          have hO:mT x s l=(x,some Jj):=by rw[hP1,kY,if_neg hw0,if_neg hw1,if_neg oR,if_pos yx,aaD,if_pos hge]<;>rfl
          exact av X4 [6,7] rfl (aq (bI rfl (by and_intros<;>first|exact⟨⟩| (rw[hO]<;>rfl;done))))
         ·have ary:(l.getD 0 0)<(x.ah.length:Int):=((B4 hdl).1 (by simpa using hb9)).2
          have hO:mT x s l=(x,some (Qj (x.ah.getD (l.getD 0 0).toNat (aR .bR)).live)):=by rw[hP1,kY,if_neg hw0,if_neg hw1,if_neg oR,if_pos yx,aaD,if_neg (by omega)]<;>rfl
          have hlt:(l.getD 0 0).toNat<x.ah.length:=by omega
          obtain⟨q1,q2,q3,q4⟩:=hF.cl _ hlt
          refine au (aa (av X4 [0,2,119] rfl ?_))
          refine an rfl ?_ ?_<;>intro am3
          ·have h9:s= [105,110,98,111,120]:=jI am3
           exact absurd (h9.symm.trans yx) (by decide)
          ·refine au (aa ?_)
           have t1:=(zI ((x.ah.getD (l.getD 0 0).toNat (aR .bR)).live) q1 q2 q3 q4)
           exact aQ X4 [] [(139,⟨false,cx t1⟩)] [6,7] [] 16383 0 MO (by kernel_rfl) rfl (by kernel_rfl) (by(with_reducible and_intros)<;>first|exact⟨⟩|exact t1| (intros;omega)) (aq (bI rfl (by and_intros<;>first|exact⟨⟩| (rw[hO]<;>rfl;done))))
        ·exact absurd (hb7.symm.trans hb8) (by decide)
       ·have yx:s≠ [99,108,105,101,110,116]:=nq hb7
        refine bU X4 [0,1,2,70,106] rfl ?_
        refine an rfl ?_ ?_<;>intro hb8
        ·have Jm:s= [105,110,98,111,120]:=jI hb8
         refine aa (aa (aQ X4 [] [(116,⟨false,[aU (kA x (l.getD 0 0))]⟩)] [0,1,2,117] [] 511 0 MO (by kernel_rfl) rfl (by kernel_rfl) (by(with_reducible and_intros)<;>first|exact⟨⟩|exact(gj x (l.getD 0 0))| (intros;omega)) ?_))
         refine an rfl ?_ ?_<;>intro hb9
         ·have hge:(x.ah.length:Int)≤(l.getD 0 0):=by(rcases Int.lt_or_le (l.getD 0 0) (x.ah.length:Int)with h|h;exact absurd ((B4 hdl).2 ⟨hc,h⟩) (by simpa using hb9);exact h)
          have hO:mT x s l=(x,some Jj):=by rw[hP1,kY,if_neg hw0,if_neg hw1,if_neg oR,if_neg yx,if_pos Jm,aaE,if_pos hge]<;>rfl
          exact av X4 [6,7] rfl (aq (bI rfl (by and_intros<;>first|exact⟨⟩| (rw[hO]<;>rfl;done))))
         ·have ary:(l.getD 0 0)<(x.ah.length:Int):=((B4 hdl).1 (by simpa using hb9)).2
          have hO:mT x s l=(x,some (HH x (l.getD 0 0))):=by rw[hP1,kY,if_neg hw0,if_neg hw1,if_neg oR,if_neg yx,if_pos Jm,aaE,if_neg (by omega)]<;>rfl
          have hlt:(l.getD 0 0).toNat<x.ah.length:=by omega
          obtain⟨q1,q2,q3,q4⟩:=hF.cl _ hlt
          refine au (aa (av X4 [0,2,119] rfl ?_))
          refine an rfl ?_ ?_<;>intro am3
          ·exact aa (aQ X4 [] [(127,⟨false,[.a (.lit (.string (HH x (l.getD 0 0))))]⟩)] [6,7] [] 1023 0 MO (by kernel_rfl) rfl (by kernel_rfl) (by(with_reducible and_intros)<;>first|exact⟨⟩|exact(Cw x (l.getD 0 0) hdl (hF.inb (l.getD 0 0)))| (intros;omega)) (aq (bI rfl (by and_intros<;>first|exact⟨⟩| (rw[hO]<;>rfl;done)))))
          ·exact absurd (hb8.symm.trans am3) (by decide)
        ·have Jm:s≠ [105,110,98,111,120]:=nq hb8
         refine av X4 [0,2,140] rfl ?_
         refine an rfl ?_ ?_<;>intro apM
         ·have Qu:s= [115,101,114,118,101,114]:=jI apM
          have Uh:af.wrap ((x.aG.length:Int)-1)=(x.aG.length:Int)-1:=dm (by have:=hF.sv;omega)
          refine aa (aa ?_)
          have t1:=(bl (l.getD 0 0) 0 (af.wrap ((x.aG.length:Int)-1)))
          refine aQ X4 [] [(152,⟨false,cx t1⟩)] [0,2,153] [] 4095 0 MO (by kernel_rfl) rfl (by kernel_rfl) (by(with_reducible and_intros)<;>first|exact⟨⟩|exact t1| (intros;omega)) ?_
          refine an rfl ?_ ?_<;>intro aiV
          ·try simp only[bG]at aiV
           rw[Uh]at aiV
           have hO:mT x s l=(x,some Jj):=by rw[hP1,kY,if_neg hw0,if_neg hw1,if_neg oR,if_neg yx,if_neg Jm,if_pos Qu,aaF,if_pos (by omega)]<;>rfl
           exact av X4 [6,7] rfl (aq (bI rfl (by and_intros<;>first|exact⟨⟩| (rw[hO]<;>rfl;done))))
          ·try simp only[bG]at aiV
           rw[Uh]at aiV
           have hO:mT x s l=(x,some (HJ (x.aG.getD (l.getD 0 0).toNat (aR .cu)))):=by rw[hP1,kY,if_neg hw0,if_neg hw1,if_neg oR,if_neg yx,if_neg Jm,if_pos Qu,aaF,if_neg (by omega)]<;>rfl
           have hlt:(l.getD 0 0).toNat<x.aG.length:=by omega
           obtain⟨q1,q2,q3⟩:=hF.se _ hlt
           refine au (aa ?_)
           have t1:=(Cx (x.aG.getD (l.getD 0 0).toNat (aR .cu)) q1 q2 q3)
           exact aQ X4 [] [(164,⟨false,cx t1⟩)] [6,7] [] 8191 0 MO (by kernel_rfl) rfl (by kernel_rfl) (by(with_reducible and_intros)<;>first|exact⟨⟩|exact t1| (intros;omega)) (aq (bI rfl (by and_intros<;>first|exact⟨⟩| (rw[hO]<;>rfl;done))))
         ·have Qu:s≠ [115,101,114,118,101,114]:=nq apM
          have hO:mT x s l=(x,none):=by rw[hP1,kY,if_neg hw0,if_neg hw1,if_neg oR,if_neg yx,if_neg Jm,if_neg Qu]<;>rfl
          exact au (av X4 [6,7] rfl (aq (bI rfl (by and_intros<;>first|exact⟨⟩| (rw[hO]<;>rfl;done)))))
end
section
set_option maxRecDepth 100000
theorem BA(x:bN)(n:Nat)(s:List UInt8)(F2:JW x n∧n≤10000)(hs:s.length≤4000):jG ty aN 11 (hW x) [.a (.ptr 1000 0), .a (.lit (.string (bP s)))] (hW (iB x (dD 32 s)).1) [.a (.lit (.string (lnT (iB x (dD 32 s)))))]:=by
 refine fW X4 call11 func11 rfl rfl (by decide) ntmps11 (by simp) rfl ?_
 intro zb
 obtain⟨hJ,hn⟩:=F2
 have hC:=lW hJ.C (show 8*n≤4100000 by omega)
 have hF:=hJ.F (by omega)
 have hR:=hJ.R (by omega)
 have hwp:=w5 32 s
 have hwl:=pY 32 s
 have hz:eN aL (dD 32 s)≤1048576:=by omega
 refine av X4 [0,1] rfl (aM X4 [] [(9,⟨true,[.a (.sl .str (dD 32 s))]⟩)] [0,1,5] [] rfl (by(with_reducible and_intros)<;>first|exact⟨⟩|exact(y8 s 32 (by first|assumption|omega| (simp;done)| (simp;omega)))) (aa (aB (av X4 [0,1,5,10] rfl ?_))))
 refine an rfl ?_ ?_<;>intro hb0
 ·try simp only[bG]at hb0
  have h1:(dD 32 s).length=1:=by omega
  have hw:=TO 32 h1
  have hO:iB x (dD 32 s)=gD x s:=by rw[hw]<;>rfl
  refine aa ?_
  have t1:=(Md x n s ⟨hJ,hn⟩)
  exact bn X4 [] [(800016,⟨true,nX t1⟩),(700016,⟨true, .agg [.ptr 1000 1000, .ptr 261 261, .ptr 262 262, .ptr 264 264, .ptr 268 268]:: .agg []::nY t1⟩)] [4] [] rfl (by(with_reducible and_intros)<;>first|exact⟨⟩|exact t1) (aq (bI rfl (by and_intros<;>first|exact⟨⟩| (rw[hO]<;>rfl;done))))
 ·try simp only[bG]at hb0
  have h1: ¬(dD 32 s).length=1:=by omega
  refine aO X4 [0,5,17] rfl (bh (fun _=>(by(show(0:Int).toNat<(dD 32 s).length;omega))) (bh (fun _=>(by(show 0≤(0:Int)∧(0:Int)<((dD 32 s).length:Int);omega))) ⟨⟩)) ?_
  refine an rfl ?_ ?_<;>intro bM
  ·have h5:(dD 32 s).length=5:=by have h:=Br.1 (zD bM).1;omega
   have hO:iB x (dD 32 s)=nwL x ((dD 32 s).drop 1):=aaH h5 (jI (zD bM).2)
   refine aa ?_
   have t1:=(MY x n (dD 32 s) ⟨hJ,hn⟩ h5 hz)
   exact bn X4 [] [(800029,⟨true,nX t1⟩),(700029,⟨true, .agg [.ptr 1000 1000, .ptr 261 261, .ptr 262 262, .ptr 264 264, .ptr 268 268]:: .agg []::nY t1⟩)] [4] [] rfl (by(with_reducible and_intros)<;>first|exact⟨⟩|exact t1) (aq (bI rfl (by and_intros<;>first|exact⟨⟩| (rw[hO]<;>rfl;done))))
  ·have h5: ¬((dD 32 s).length=5∧((dD 32 s).getD 0 [])=lNew):=fun h=>Wi bM ⟨Br.2 (by rw[h.1];rfl),Wj.2 h.2⟩
   refine av X4 [0,5,30] rfl ?_
   refine an rfl ?_ ?_<;>intro cS
   ·try simp only[bG]at cS
    have h23:(dD 32 s).length=2∨(dD 32 s).length=3:=by omega
    have hy1:=sV hz (show 1<(dD 32 s).length by omega)
    refine aa ?_
    have t1:=(sH ((dD 32 s).getD 1 []) hy1)
    refine bn X4 [] [(43,⟨false,cx t1⟩)] [0,5,6,7] [] rfl (by(with_reducible and_intros)<;>first|exact⟨⟩|exact t1| (intros;omega)) (aa (av X4 [0,5,6,47] rfl ?_))
    refine an rfl ?_ ?_<;>intro iZ
    ·have hO:iB x (dD 32 s)=(x,none):=s7 h23 (by simpa using iZ)
     exact av X4 [4] rfl (aq (bI rfl (by and_intros<;>first|exact⟨⟩| (rw[hO]<;>rfl;done))))
    ·have iW:fD ((dD 32 s).getD 1 [])=true:=by simpa using iZ
     refine au (aa (av X4 [0,5,6,50] rfl ?_))
     refine an rfl ?_ ?_<;>intro qD
     ·try simp only[bG]at qD
      have h2:(dD 32 s).length=2:=by omega
      have hO:iB x (dD 32 s)=kY x ((dD 32 s).getD 0 []) (ez ((dD 32 s).getD 1 [])):=YU h2 iW
      refine aa ?_
      have t1:=(MW x n ((dD 32 s).getD 0 []) (ez ((dD 32 s).getD 1 [])) ⟨hJ,hn⟩ (L9 _))
      exact bn X4 [] [(800056,⟨true,nX t1⟩),(700056,⟨true, .agg [.ptr 1000 1000, .ptr 261 261, .ptr 262 262, .ptr 264 264, .ptr 268 268]:: .agg []::nY t1⟩)] [4] [] rfl (by(with_reducible and_intros)<;>first|exact⟨⟩|exact t1| (intros;omega)) (aq (bI rfl (by and_intros<;>first|exact⟨⟩| (rw[hO]<;>rfl;done))))
     ·try simp only[bG]at qD
      have h3:(dD 32 s).length=3:=by omega
      have hy2:=sV hz (show 2<(dD 32 s).length by omega)
      have hO:iB x (dD 32 s)=pZ x ((dD 32 s).getD 0 []) (ez ((dD 32 s).getD 1 [])) ((dD 32 s).getD 2 []):=B7 h3 iW
      refine au (aa ?_)
      have t1:=(MX x n ((dD 32 s).getD 0 []) (ez ((dD 32 s).getD 1 [])) ((dD 32 s).getD 2 []) ⟨hJ,hn⟩ hy2)
      exact aQ X4 [] [(800065,⟨true,nX t1⟩),(700065,⟨true, .agg [.ptr 1000 1000, .ptr 261 261, .ptr 262 262, .ptr 264 264, .ptr 268 268]:: .agg []::nY t1⟩)] [4] [] 255 0 MO (by kernel_rfl) rfl (by kernel_rfl) (by(with_reducible and_intros)<;>first|exact⟨⟩|exact t1| (intros;omega)) (aq (bI rfl (by and_intros<;>first|exact⟨⟩| (rw[hO]<;>rfl;done))))
   ·try simp only[bG]at cS
    have h23: ¬((dD 32 s).length=2∨(dD 32 s).length=3):=by omega
    have hO:iB x (dD 32 s)=(x,none):=afm h1 h23 h5
    exact au (av X4 [4] rfl (aq (bI rfl (by and_intros<;>first|exact⟨⟩| (rw[hO]<;>rfl;done)))))
theorem uA(x:bN)(n:Nat)(L:List (List UInt8))(F2:JW x n∧n≤10000)(h0:1≤L.length)(hz:eN aL L≤1048576):jG ty aN 13 (hW x) [.a (.ptr 1000 0), .a (.sl .str L)] (hW (iB x L).1) [.a (.lit (.string ((iB x L).2.getD ⟨#[]⟩))),aU (iB x L).2.isSome]:=by
 refine fW X4 call13 func13 rfl rfl (by decide) ntmps13 (by simp) rfl ?_
 intro zb
 obtain⟨hJ,hn⟩:=F2
 have hC:=lW hJ.C (show 8*n≤4100000 by omega)
 have hF:=hJ.F (by omega)
 have hR:=hJ.R (by omega)
 have hLl:=Bm L
 refine av X4 [0,1] rfl (aa (av X4 [0,1,18] rfl ?_))
 refine an rfl ?_ ?_<;>intro hb0
 ·try simp only[bG]at hb0
  have h1:L.length=1:=by omega
  have hO:iB x L=gD x (L.getD 0 []):=aiW h1
  refine aa ?_
  have t1:=(By x n (L.getD 0 []) ⟨hJ,hn⟩)
  exact bn X4 [] [(800023,⟨true,nX t1⟩),(700023,⟨true, .agg [.ptr 1000 1000, .ptr 261 261, .ptr 262 262, .ptr 264 264, .ptr 268 268]:: .agg []::nY t1⟩)] [4,5] [] rfl (by(with_reducible and_intros)<;>first|exact⟨⟩|exact t1| (intros;omega)) (aq (bI rfl (by and_intros<;>first|exact⟨⟩| (rw[hO]<;>rfl;done))))
 ·try simp only[bG]at hb0
  have h1: ¬L.length=1:=by omega
  refine au (aa (aO X4 [0,1,40] rfl (bh (fun h=>(by(show 0≤(2:Int)∧(2:Int)<(L.length:Int);have h3:=Br.1 (zD (show(if((bP (L.getD 0 [])).toList==(⟨#[115,101,110,100]⟩:ByteArray).toList)=true then((L.length:Int)==3)else false)=true from h)).2;omega))) (bh (by(show 0≤(0:Int)∧(0:Int)<(L.length:Int);omega)) ⟨⟩)) ?_))
  refine an rfl ?_ ?_<;>intro bM
  ·have hs0:(L.getD 0 [])=TY:=jI (zD (zD bM).1).1
   have h3:L.length=3:=by have h:=Br.1 (zD (zD bM).1).2;omega
   have hs2:(L.getD 2 [])≠ []:=aiQ (zD bM).2
   have hy1:=sV hz (show 1<L.length by omega)
   have hy2:=sV hz (show 2<L.length by omega)
   have hzt:({data:=(L.getD (Int.toNat 2) (aR Tag.str)).toArray}:ByteArray).size=(L.getD 2 []).length:=rfl
   have at4:(L.getD 2 []).length≤1048576:=hy2
   refine aa ?_
   have t1:=(sG (L.getD 1 []) hy1)
   refine bn X4 [] [(45,⟨false,cx t1⟩)] [0,1,6,7] [] rfl (by(with_reducible and_intros)<;>first|exact⟨⟩|exact t1| (intros;omega)) (aa (av X4 [0,1,6,49] rfl ?_))
   refine an rfl ?_ ?_<;>intro cS
   ·have hO:iB x L=(x,none):=s7 (Or.inr h3) (by simpa using cS)
    exact av X4 [4,5] rfl (aq (bI rfl (by and_intros<;>first|exact⟨⟩| (rw[hO]<;>rfl;done))))
   ·have iW:fD (L.getD 1 [])=true:=by simpa using cS
    have hO:iB x L=Wf x ⟨2,ez (L.getD 1 []),0,(L.getD 2 [])⟩:=(B7 h3 iW).trans (afn hs0 hs2)
    refine au (aa ?_)
    have t1:=(jd x (⟨2,ez (L.getD 1 []),0,(L.getD 2 [])⟩:Ev) hR hy2)
    exact YS X4 [] [(800057,⟨true,nX t1⟩),(700057,⟨true, .agg [.ptr 1000 1000, .ptr 261 261, .ptr 262 262, .ptr 264 264, .ptr 268 268]:: .agg []::nY t1⟩)] [4,5] 5 rfl (by(with_reducible and_intros)<;>first|exact⟨⟩|exact t1| (intros;omega)) (aq (bI rfl (by and_intros<;>first|exact⟨⟩| (rw[hO]<;>rfl;done))))
  ·have hsn: ¬((L.getD 0 [])=TY∧L.length=3∧(L.getD 2 [])≠ []):=fun h=>Wi bM ⟨show(if((bP (L.getD 0 [])).toList==(⟨#[115,101,110,100]⟩:ByteArray).toList)=true then((L.length:Int)==3)else false)=true by rw[if_pos (Wj.2 h.1)];exact Br.2 (by rw[h.2.1];rfl),apG h.2.2⟩
   refine au (aa (aO X4 [0,1,66] rfl (bh (by(show 0≤(0:Int)∧(0:Int)<(L.length:Int);omega)) ⟨⟩) ?_))
   refine an rfl ?_ ?_<;>intro iZ
   ·have hc0:(L.getD 0 [])=Oj:=jI (zD iZ).1
    have h3:L.length=3:=by have h:=Br.1 (zD iZ).2;omega
    have hy1:=sV hz (show 1<L.length by omega)
    refine aa ?_
    have t1:=(sG (L.getD 1 []) hy1)
    refine bn X4 [] [(71,⟨false,cx t1⟩)] [0,1,8,9] [] rfl (by(with_reducible and_intros)<;>first|exact⟨⟩|exact t1| (intros;omega)) (aa (aQ X4 [] [(74,⟨true,[.a (.sl .str names)]⟩),(78,⟨false,[aI (Un (L.getD 2 []))]⟩)] [0,8,9,10] [] 63 0 MO (by kernel_rfl) rfl (by kernel_rfl) (by(with_reducible and_intros);(iterate 2 all_goals try first|exact⟨⟩|exact(rR)|exact(Bq (L.getD 2 [])));all_goals first| (intros;omega)) (aa (av X4 [0,8,10,84] rfl ?_))))
    refine an rfl ?_ ?_<;>intro qD
    ·try simp only[bG]at qD
     have hO:iB x L=(x,none):=by(rcases qD with h|h<;>first|exact s7 (Or.inr h3) h| (cases hp:fD (L.getD 1 [])with|false=>exact s7 (Or.inr h3) hp|true=>rw[B7 h3 hp,TZ hc0 (by omega)]))
     exact av X4 [4,5] rfl (aq (bI rfl (by and_intros<;>first|exact⟨⟩| (rw[hO]<;>rfl;done))))
    ·try simp only[bG]at qD
     have iW:fD (L.getD 1 [])=true:=eq_true_of_ne_false qD.1
     have V1:0≤Un (L.getD 2 []):=qD.2
     have hO:iB x L=Wf x ⟨4,ez (L.getD 1 []),Un (L.getD 2 []),[]⟩:=(B7 h3 iW).trans (afo hc0 V1)
     refine au (aa ?_)
     have t1:=(jd x (⟨4,ez (L.getD 1 []),Un (L.getD 2 []),[]⟩:Ev) hR (aE _))
     exact yu X4 [] [(800089,⟨true,nX t1⟩),(700089,⟨true, .agg [.ptr 1000 1000, .ptr 261 261, .ptr 262 262, .ptr 264 264, .ptr 268 268]:: .agg []::nY t1⟩),(1200088,⟨true,[.agg (oT ⟨4,ez (L.getD 1 []),Un (L.getD 2 []),[]⟩)]⟩)] [4,5] [] rfl (by(with_reducible and_intros)<;>first|exact⟨⟩|exact t1) (aq (bI rfl (by and_intros<;>first|exact⟨⟩| (rw[hO]<;>rfl;done))))
   ·have hcn: ¬((L.getD 0 [])=Oj∧L.length=3):=fun h=>Wi iZ ⟨Wj.2 h.1,Br.2 (by rw[h.2];rfl)⟩
    refine au (aO X4 [0,1,11] rfl (by and_intros<;>first|exact⟨⟩|exact rfl) (aa (aO X4 [0,1,11,92,93,94] rfl (by and_intros<;>first|exact⟨⟩| (intros;omega)) ?_)))
    rw[show(L.take (L.length:Int).toNat).drop (1:Int).toNat=(L.drop 1)by rw[Int.toNat_natCast,List.take_length];rfl]
    refine aB (aP (fun k=>k≤(L.drop 1).length∧((L.drop 1).take k).all fD=true) (fun k:Nat=> [(94, .one ((aI k)))]) (fun k=> [(90, .arr .int (nmL (L.drop 1) k))]) (fun k=>(L.drop 1).length-k) 0 (fun k=>rfl) ⟨aE _,rfl⟩ rfl ?_)
    rintro k ⟨hk,hall⟩
    have hnl:=YQ (M:=(L.drop 1)) (j:=k) hk
    have hdl:(L.drop 1).length=L.length-1:=b9 ..
    refine av X4 [0,1,11,92,93,94,95] rfl ?_
    refine aa (an rfl ?_ ?_)<;>intro CV
    ·try simp only[bG]at CV
     have hgk:(L.drop 1).getD k []=L.getD (k+1) []:=by rw[aA,aA,cK,Nat.add_comm]
     have hyk:=sV hz (show k+1<L.length by omega)
     have arz:((L.drop 1).getD k []).length≤1048576:=by rw[hgk];exact hyk
     refine au (aa (aB (aO X4 [0,1,11,13,92,93,94] rfl (by and_intros<;>first|exact⟨⟩| (intros;omega)) (aa ?_))))
     have t1:=(sG ((L.drop 1).getD k []) arz)
     refine bn X4 [] [(100,⟨false,cx t1⟩)] [0,1,11,14,15,92,93,94] [] rfl (by(with_reducible and_intros)<;>first|exact⟨⟩|exact t1) (aa (av X4 [0,1,11,14,92,93,94,104] rfl ?_))
     refine an rfl ?_ ?_<;>intro LR
     ·have hO:iB x L=(x,none):=Wm h1 h0 hsn hcn (Oh (j:=k) (by omega) (by simpa using LR))
      exact av X4 [4,5] rfl (aq (bI rfl (by and_intros<;>first|exact⟨⟩| (rw[hO]<;>rfl;done))))
     ·have hst:=TT (M:=(L.drop 1)) (j:=k) (by omega)
      refine au (bn X4 [(108,90)] [] [0,1,11,92,93,94] [] rfl (by and_intros<;>first|exact⟨⟩|exact rfl| (simp only[gR,maxLen,lens];omega)) (bU X4 [0,1,11,92,93,94] rfl ?_))
      refine⟨k+1,⟨by omega,aff (by omega) hall (by simpa using LR)⟩,by omega,?_⟩
      rw[bZ _ k rfl (by omega), ←hst]
      try rfl
    ·try simp only[bG]at CV
     obtain⟨rE,hN⟩:=YR (M:=(L.drop 1)) (j:=k) (by omega) hall
     rw[hN]at hnl
     rw[hN]
     have hO:iB x L=mT x (L.getD 0 []) ((L.drop 1).map ez):=aaI h1 h0 hsn hcn rE
     refine aW (aa ?_)
     have t1:=(zK x n (L.getD 0 []) ((L.drop 1).map ez) ⟨hJ,hn⟩ (by omega) (fun y hy=>by obtain⟨a,_,rfl⟩:=List.mem_map.1 hy;exact L9 a))
     exact bn X4 [] [(800115,⟨true,nX t1⟩),(700115,⟨true, .agg [.ptr 1000 1000, .ptr 261 261, .ptr 262 262, .ptr 264 264, .ptr 268 268]:: .agg []::nY t1⟩)] [4,5] [] rfl (by(with_reducible and_intros)<;>first|exact⟨⟩|exact t1| (intros;omega)) (aq (bI rfl (by and_intros<;>first|exact⟨⟩| (rw[hO]<;>rfl;done))))
end
section
set_option maxRecDepth 100000
theorem HQ(s:List UInt8)(hs:s.length≤1048576):So 6 [.a (.lit (.string (bP s)))] [.a (.lit (.string (runM s)))]:=by
 refine eA X4 call6 func6 rfl rfl (by decide) ntmps6 (by simp) ?_
 intro zb
 have hz:(bP s).size=s.length:=rfl
 have hwp:=w5 10 s
 have hwl:=pY 10 s
 have arA:=Bm (dD 10 s)
 have hw1:af.wrap (((dD 10 s).length:Int)-1)=((dD 10 s).length:Int)-1:=dm (by omega)
 have htn:(((dD 10 s).length:Int)-1).toNat=(dD 10 s).length-1:=by omega
 have mK:=YW s
 refine av X4 [0] rfl (aM X4 [] [(11,⟨false,[.a (.sl .str (dD 10 s))]⟩)] [0,3] [] rfl (by(with_reducible and_intros)<;>first|exact⟨⟩|exact(sE s 10 hs)) (aa (aO X4 [0,3,18] rfl (by and_intros<;>first|exact⟨⟩| (intros;omega)) ?_)))
 rw[hw1,htn]
 refine an rfl ?_ ?_<;>intro hb0
 ·have hla:(dD 10 s).getD ((dD 10 s).length-1) []= []:=jI hb0
  have hln:=YV hla
  refine gA X4 [0,3] rfl (by and_intros<;>first|exact⟨⟩| (intros;omega)) ?_
  rw[hw1,htn,show((dD 10 s).take ((dD 10 s).length-1)).drop (0:Int).toNat=dK s from hln.symm]
  refine aa (av X4 [3,31] rfl ?_)
  refine an rfl ?_ ?_<;>intro bM
  ·try simp only[bG]at bM
   have Wn:=Qw (s:=s) (by omega)
   exact av X4 [2] rfl (aq (aj rfl ⟨by rw[Wn];rfl,⟨⟩⟩))
  ·try simp only[bG]at bM
   have Wn:=Qx (s:=s) (by omega)
   have h80:(dK s).length≤80:=by omega
   have h4k:s.length≤4000:=by omega
   refine au (aM X4 [(33,907)] [] [3,4] [] rfl ⟨⟩ (eo 907 1 261 .cu rfl (eo 907 2 262 .bR rfl (eo 907 4 264 .aX rfl (eo 907 8 268 .int rfl (av X4 [3,4,5] rfl (aa (av X4 [4,5,34,35,36] rfl ?_))))))))
   refine aB (aP (fun k=>k≤(dK s).length) (fun k:Nat=> [(5, .one (.a (.lit (.string (nu (dK s) k).2)))),(36, .one ((aI k)))]) (fun k=> [(907, .box [eO (nu (dK s) k).1.rows, .own 261, .own 262,eO (nu (dK s) k).1.aK.rows, .own 264,eO (nu (dK s) k).1.ck,eO (nu (dK s) k).1.seed,eO (nu (dK s) k).1.round, .own 268,eO (nu (dK s) k).1.cancelled]),(261, .arr .cu (nu (dK s) k).1.aG),(262, .arr .bR (nu (dK s) k).1.ah),(264, .arr .aX (nu (dK s) k).1.aK.rounds),(268, .arr .int (nu (dK s) k).1.replaced)]) (fun k=>(dK s).length-k) 0 (fun k=>rfl) (aE _) rfl ?_)
   intro k hk
   obtain⟨hJ,hsz⟩:=Mb (dK s) k (by omega)
   have F2:60*k≤10000:=by omega
   unfold B6 at hsz
   refine av X4 [4,5,34,35,36,37] rfl ?_
   refine aa (an rfl ?_ ?_)<;>intro cS
   ·try simp only[bG]at cS
    refine au (aa (aB (aO X4 [4,5,7,34,35,36] rfl (by and_intros<;>first|exact⟨⟩| (intros;omega)) (aa (av X4 [4,5,7,34,35,36,41] rfl ?_)))))
    refine an rfl ?_ ?_<;>intro iZ
    ·have Fi:=Bo (L:=(dK s)) (k:=k) (jI iZ)
     refine aW (bU X4 [4,5,34,35,36] rfl ?_)
     refine⟨k+1,by omega,by omega,?_⟩
     rw[bZ _ k rfl (by omega),Fi]
     try rfl
    ·have Fi:=Bp (L:=(dK s)) (k:=k) (nq iZ)
     have am5:=w5 32 ((dK s).getD k [])
     have arD:=pY 32 ((dK s).getD k [])
     have hel:=Qv (s:=s) (k:=k) (by omega)
     have hLO:=LO.line hJ F2 (dD 32 ((dK s).getD k []))
     have hlz:=Ma hLO
     unfold B6 at hlz
     refine au (aa ?_)
     have t1:=(uA ((nu (dK s) k).1) (60*k) (dD 32 ((dK s).getD k [])) ⟨hJ,F2⟩ am5 (by omega))
     refine bn X4 [] [(45,⟨false,[.a (.sl .str (dD 32 ((dK s).getD k [])))]⟩),(800046,⟨true,nX t1⟩),(700046,⟨true, .agg [.ptr 1000 907, .ptr 261 261, .ptr 262 262, .ptr 264 264, .ptr 268 268]:: .agg []::nY t1⟩)] [4,5,8,9,34,35,36] [] rfl (by(with_reducible and_intros);(iterate 2 all_goals try first|exact⟨⟩|exact(sE ((dK s).getD k []) 32 (by omega))|exact t1)) (aa (av X4 [4,5,8,34,35,36,50] rfl ?_))
     refine an rfl ?_ ?_<;>intro qD
     ·have hlt:=T0 (o:=(iB (nu (dK s) k).1 (dD 32 ((dK s).getD k [])))) (by simpa using qD)
      refine bU X4 [4,5,8,34,35,36] rfl (gA X4 [4,5,34,35,36] rfl (by(with_reducible and_intros);(iterate 2 all_goals try first|exact⟨⟩|exact(by simp only[bA,ko,jV];omega))) (bU X4 [4,5,34,35,36] rfl ?_))
      refine⟨k+1,by omega,by omega,?_⟩
      rw[bZ _ k rfl (by omega),Fi,hlt]
      try rfl
     ·have hlt:=T3 (o:=(iB (nu (dK s) k).1 (dD 32 ((dK s).getD k [])))) (by simpa using qD)
      rw[hlt]
      refine au (gA X4 [4,5,34,35,36] rfl (by(with_reducible and_intros);(iterate 2 all_goals try first|exact⟨⟩|exact(by simp only[bA,ko,jV];omega))) (bU X4 [4,5,34,35,36] rfl ?_))
      refine⟨k+1,by omega,by omega,?_⟩
      rw[bZ _ k rfl (by omega),Fi]
      try rfl
   ·try simp only[bG]at cS
    exact aW (av X4 [2] rfl (aq (aj rfl ⟨by rw[Wn,show k=(dK s).length by omega],⟨⟩⟩)))
 ·have hla:(dD 10 s).getD ((dD 10 s).length-1) []≠ []:=nq hb0
  have hln:=afp hla
  rw[←hln]
  refine au (aa (av X4 [3,31] rfl ?_))
  refine an rfl ?_ ?_<;>intro bM
  ·try simp only[bG]at bM
   have Wn:=Qw (s:=s) (by omega)
   exact av X4 [2] rfl (aq (aj rfl ⟨by rw[Wn];rfl,⟨⟩⟩))
  ·try simp only[bG]at bM
   have Wn:=Qx (s:=s) (by omega)
   have h80:(dK s).length≤80:=by omega
   have h4k:s.length≤4000:=by omega
   refine au (aM X4 [(33,907)] [] [3,4] [] rfl ⟨⟩ (eo 907 1 261 .cu rfl (eo 907 2 262 .bR rfl (eo 907 4 264 .aX rfl (eo 907 8 268 .int rfl (av X4 [3,4,5] rfl (aa (av X4 [4,5,34,35,36] rfl ?_))))))))
   refine aB (aP (fun k=>k≤(dK s).length) (fun k:Nat=> [(5, .one (.a (.lit (.string (nu (dK s) k).2)))),(36, .one ((aI k)))]) (fun k=> [(907, .box [eO (nu (dK s) k).1.rows, .own 261, .own 262,eO (nu (dK s) k).1.aK.rows, .own 264,eO (nu (dK s) k).1.ck,eO (nu (dK s) k).1.seed,eO (nu (dK s) k).1.round, .own 268,eO (nu (dK s) k).1.cancelled]),(261, .arr .cu (nu (dK s) k).1.aG),(262, .arr .bR (nu (dK s) k).1.ah),(264, .arr .aX (nu (dK s) k).1.aK.rounds),(268, .arr .int (nu (dK s) k).1.replaced)]) (fun k=>(dK s).length-k) 0 (fun k=>rfl) (aE _) rfl ?_)
   intro k hk
   obtain⟨hJ,hsz⟩:=Mb (dK s) k (by omega)
   have F2:60*k≤10000:=by omega
   unfold B6 at hsz
   refine av X4 [4,5,34,35,36,37] rfl ?_
   refine aa (an rfl ?_ ?_)<;>intro cS
   ·try simp only[bG]at cS
    refine au (aa (aB (aO X4 [4,5,7,34,35,36] rfl (by and_intros<;>first|exact⟨⟩| (intros;omega)) (aa (av X4 [4,5,7,34,35,36,41] rfl ?_)))))
    refine an rfl ?_ ?_<;>intro iZ
    ·have Fi:=Bo (L:=(dK s)) (k:=k) (jI iZ)
     refine aW (bU X4 [4,5,34,35,36] rfl ?_)
     refine⟨k+1,by omega,by omega,?_⟩
     rw[bZ _ k rfl (by omega),Fi]
     try rfl
    ·have Fi:=Bp (L:=(dK s)) (k:=k) (nq iZ)
     have am5:=w5 32 ((dK s).getD k [])
     have arD:=pY 32 ((dK s).getD k [])
     have hel:=Qv (s:=s) (k:=k) (by omega)
     have hLO:=LO.line hJ F2 (dD 32 ((dK s).getD k []))
     have hlz:=Ma hLO
     unfold B6 at hlz
     refine au (aa ?_)
     have t1:=(uA ((nu (dK s) k).1) (60*k) (dD 32 ((dK s).getD k [])) ⟨hJ,F2⟩ am5 (by omega))
     refine bn X4 [] [(45,⟨false,[.a (.sl .str (dD 32 ((dK s).getD k [])))]⟩),(800046,⟨true,nX t1⟩),(700046,⟨true, .agg [.ptr 1000 907, .ptr 261 261, .ptr 262 262, .ptr 264 264, .ptr 268 268]:: .agg []::nY t1⟩)] [4,5,8,9,34,35,36] [] rfl (by(with_reducible and_intros);(iterate 2 all_goals try first|exact⟨⟩|exact(sE ((dK s).getD k []) 32 (by omega))|exact t1)) (aa (av X4 [4,5,8,34,35,36,50] rfl ?_))
     refine an rfl ?_ ?_<;>intro qD
     ·have hlt:=T0 (o:=(iB (nu (dK s) k).1 (dD 32 ((dK s).getD k [])))) (by simpa using qD)
      refine bU X4 [4,5,8,34,35,36] rfl (gA X4 [4,5,34,35,36] rfl (by(with_reducible and_intros);(iterate 2 all_goals try first|exact⟨⟩|exact(by simp only[bA,ko,jV];omega))) (bU X4 [4,5,34,35,36] rfl ?_))
      refine⟨k+1,by omega,by omega,?_⟩
      rw[bZ _ k rfl (by omega),Fi,hlt]
      try rfl
     ·have hlt:=T3 (o:=(iB (nu (dK s) k).1 (dD 32 ((dK s).getD k [])))) (by simpa using qD)
      rw[hlt]
      refine au (gA X4 [4,5,34,35,36] rfl (by(with_reducible and_intros);(iterate 2 all_goals try first|exact⟨⟩|exact(by simp only[bA,ko,jV];omega))) (bU X4 [4,5,34,35,36] rfl ?_))
      refine⟨k+1,by omega,by omega,?_⟩
      rw[bZ _ k rfl (by omega),Fi]
      try rfl
   ·try simp only[bG]at cS
    exact aW (av X4 [2] rfl (aq (aj rfl ⟨by rw[Wn,show k=(dK s).length by omega],⟨⟩⟩)))
theorem HR(s:List UInt8)(hs:s.length≤1048576):So 5 [.a (.lit (.string (bP s)))] [.a (.lit (.string (runM s)))]:=by
 refine eA X4 call5 func5 rfl rfl (by decide) ntmps5 (by simp) ?_
 intro zb
 have hz:(bP s).size=s.length:=rfl
 have hwp:=w5 10 s
 have hwl:=pY 10 s
 have arA:=Bm (dD 10 s)
 have hw1:af.wrap (((dD 10 s).length:Int)-1)=((dD 10 s).length:Int)-1:=dm (by omega)
 have htn:(((dD 10 s).length:Int)-1).toNat=(dD 10 s).length-1:=by omega
 have mK:=YW s
 refine av X4 [0] rfl (aM X4 [] [(9,⟨false,[.a (.sl .str (dD 10 s))]⟩)] [0,3] [] rfl (by(with_reducible and_intros)<;>first|exact⟨⟩|exact(y8 s 10 (by first|assumption|omega| (simp;done)| (simp;omega)))) (aa (aO X4 [0,3,16] rfl (by and_intros<;>first|exact⟨⟩| (intros;omega)) ?_)))
 rw[hw1,htn]
 refine an rfl ?_ ?_<;>intro hb0
 ·have hla:(dD 10 s).getD ((dD 10 s).length-1) []= []:=jI hb0
  have hln:=YV hla
  refine gA X4 [0,3] rfl (by and_intros<;>first|exact⟨⟩| (intros;omega)) ?_
  rw[hw1,htn,show((dD 10 s).take ((dD 10 s).length-1)).drop (0:Int).toNat=dK s from hln.symm]
  refine aa (av X4 [3,29] rfl ?_)
  refine an rfl ?_ ?_<;>intro bM
  ·try simp only[bG]at bM
   have Wn:=Qw (s:=s) (by omega)
   exact av X4 [2] rfl (aq (aj rfl ⟨by rw[Wn];rfl,⟨⟩⟩))
  ·try simp only[bG]at bM
   have Wn:=Qx (s:=s) (by omega)
   have h80:(dK s).length≤80:=by omega
   have h4k:s.length≤4000:=by omega
   refine au (aM X4 [(31,907)] [] [3,4] [] rfl ⟨⟩ (eo 907 1 261 .cu rfl (eo 907 2 262 .bR rfl (eo 907 4 264 .aX rfl (eo 907 8 268 .int rfl (av X4 [3,4,5] rfl (aa (av X4 [3,4,5,6] rfl ?_))))))))
   refine aB (aP (fun k=>k≤(dK s).length) (fun k:Nat=> [(5, .one (.a (.lit (.string (nu (dK s) k).2)))),(6, .one ((aI k)))]) (fun k=> [(907, .box [eO (nu (dK s) k).1.rows, .own 261, .own 262,eO (nu (dK s) k).1.aK.rows, .own 264,eO (nu (dK s) k).1.ck,eO (nu (dK s) k).1.seed,eO (nu (dK s) k).1.round, .own 268,eO (nu (dK s) k).1.cancelled]),(261, .arr .cu (nu (dK s) k).1.aG),(262, .arr .bR (nu (dK s) k).1.ah),(264, .arr .aX (nu (dK s) k).1.aK.rounds),(268, .arr .int (nu (dK s) k).1.replaced)]) (fun k=>(dK s).length-k) 0 (fun k=>rfl) (aE _) rfl ?_)
   intro k hk
   obtain⟨hJ,hsz⟩:=Mb (dK s) k (by omega)
   have F2:60*k≤10000:=by omega
   unfold B6 at hsz
   refine aa (av X4 [3,4,5,6,35] rfl ?_)
   refine an rfl ?_ ?_<;>intro cS
   ·try simp only[bG]at cS
    refine au (aa (aB (aO X4 [3,4,5,6,42] rfl (by and_intros<;>first|exact⟨⟩| (intros;omega)) ?_)))
    refine an rfl ?_ ?_<;>intro iZ
    ·have Fi:=Bp (L:=(dK s)) (k:=k) (aiQ iZ)
     have hel:=Qv (s:=s) (k:=k) (by omega)
     have hLO:=LO.line hJ F2 (dD 32 ((dK s).getD k []))
     have hlz:=Ma hLO
     unfold B6 at hlz
     refine aa ?_
     have t1:=(BA ((nu (dK s) k).1) (60*k) ((dK s).getD k []) ⟨hJ,F2⟩ (by omega))
     refine bn X4 [] [(800048,⟨true,nX t1⟩),(700048,⟨true, .agg [.ptr 1000 907, .ptr 261 261, .ptr 262 262, .ptr 264 264, .ptr 268 268]:: .agg []::nY t1⟩)] [3,4,5,6,7] [] rfl (by(with_reducible and_intros)<;>first|exact⟨⟩|exact t1| (intros;omega)) (gA X4 [3,4,5,6] rfl (by(with_reducible and_intros);(iterate 2 all_goals try first|exact⟨⟩|exact(by simp only[bA,ko,jV];omega))) (bU X4 [3,4,5,6] rfl ?_))
     refine⟨k+1,by omega,by omega,?_⟩
     rw[bZ _ k rfl (by omega),Fi, ←lG]
     try rfl
    ·rw[Bool.not_eq_false']at iZ
     have Fi:=Bo (L:=(dK s)) (k:=k) (jI iZ)
     refine au (bU X4 [3,4,5,6] rfl ?_)
     refine⟨k+1,by omega,by omega,?_⟩
     rw[bZ _ k rfl (by omega),Fi]
     try rfl
   ·try simp only[bG]at cS
    exact aW (av X4 [2] rfl (aq (aj rfl ⟨by rw[Wn,show k=(dK s).length by omega],⟨⟩⟩)))
 ·have hla:(dD 10 s).getD ((dD 10 s).length-1) []≠ []:=nq hb0
  have hln:=afp hla
  rw[←hln]
  refine au (aa (av X4 [3,29] rfl ?_))
  refine an rfl ?_ ?_<;>intro bM
  ·try simp only[bG]at bM
   have Wn:=Qw (s:=s) (by omega)
   exact av X4 [2] rfl (aq (aj rfl ⟨by rw[Wn];rfl,⟨⟩⟩))
  ·try simp only[bG]at bM
   have Wn:=Qx (s:=s) (by omega)
   have h80:(dK s).length≤80:=by omega
   have h4k:s.length≤4000:=by omega
   refine au (aM X4 [(31,907)] [] [3,4] [] rfl ⟨⟩ (eo 907 1 261 .cu rfl (eo 907 2 262 .bR rfl (eo 907 4 264 .aX rfl (eo 907 8 268 .int rfl (av X4 [3,4,5] rfl (aa (av X4 [3,4,5,6] rfl ?_))))))))
   refine aB (aP (fun k=>k≤(dK s).length) (fun k:Nat=> [(5, .one (.a (.lit (.string (nu (dK s) k).2)))),(6, .one ((aI k)))]) (fun k=> [(907, .box [eO (nu (dK s) k).1.rows, .own 261, .own 262,eO (nu (dK s) k).1.aK.rows, .own 264,eO (nu (dK s) k).1.ck,eO (nu (dK s) k).1.seed,eO (nu (dK s) k).1.round, .own 268,eO (nu (dK s) k).1.cancelled]),(261, .arr .cu (nu (dK s) k).1.aG),(262, .arr .bR (nu (dK s) k).1.ah),(264, .arr .aX (nu (dK s) k).1.aK.rounds),(268, .arr .int (nu (dK s) k).1.replaced)]) (fun k=>(dK s).length-k) 0 (fun k=>rfl) (aE _) rfl ?_)
   intro k hk
   obtain⟨hJ,hsz⟩:=Mb (dK s) k (by omega)
   have F2:60*k≤10000:=by omega
   unfold B6 at hsz
   refine aa (av X4 [3,4,5,6,35] rfl ?_)
   refine an rfl ?_ ?_<;>intro cS
   ·try simp only[bG]at cS
    refine au (aa (aB (aO X4 [3,4,5,6,42] rfl (by and_intros<;>first|exact⟨⟩| (intros;omega)) ?_)))
    refine an rfl ?_ ?_<;>intro iZ
    ·have Fi:=Bp (L:=(dK s)) (k:=k) (aiQ iZ)
     have hel:=Qv (s:=s) (k:=k) (by omega)
     have hLO:=LO.line hJ F2 (dD 32 ((dK s).getD k []))
     have hlz:=Ma hLO
     unfold B6 at hlz
     refine aa ?_
     have t1:=(BA ((nu (dK s) k).1) (60*k) ((dK s).getD k []) ⟨hJ,F2⟩ (by omega))
     refine bn X4 [] [(800048,⟨true,nX t1⟩),(700048,⟨true, .agg [.ptr 1000 907, .ptr 261 261, .ptr 262 262, .ptr 264 264, .ptr 268 268]:: .agg []::nY t1⟩)] [3,4,5,6,7] [] rfl (by(with_reducible and_intros)<;>first|exact⟨⟩|exact t1| (intros;omega)) (gA X4 [3,4,5,6] rfl (by(with_reducible and_intros);(iterate 2 all_goals try first|exact⟨⟩|exact(by simp only[bA,ko,jV];omega))) (bU X4 [3,4,5,6] rfl ?_))
     refine⟨k+1,by omega,by omega,?_⟩
     rw[bZ _ k rfl (by omega),Fi, ←lG]
     try rfl
    ·rw[Bool.not_eq_false']at iZ
     have Fi:=Bo (L:=(dK s)) (k:=k) (jI iZ)
     refine au (bU X4 [3,4,5,6] rfl ?_)
     refine⟨k+1,by omega,by omega,?_⟩
     rw[bZ _ k rfl (by omega),Fi]
     try rfl
   ·try simp only[bG]at cS
    exact aW (av X4 [2] rfl (aq (aj rfl ⟨by rw[Wn,show k=(dK s).length by omega],⟨⟩⟩)))
end
section
set_option maxRecDepth 100000
theorem DS(x0:List UInt8):So 3 [.a (.lit (.string (bP x0)))] [aU true]:=by
 refine eA X4 call3 func3 rfl rfl (by decide) ntmps3 (by simp) ?_
 intro zb
 have hz:(bP x0).size=x0.length:=rfl
 refine av X4 [0] rfl (aa (av X4 [0,7] rfl ?_))
 refine an rfl ?_ ?_<;>intro hb0
 ·try simp only[bG]at hb0
  exact av X4 [2] rfl (aq (aj rfl ⟨rfl,⟨⟩⟩))
 ·try simp only[bG]at hb0
  refine au (aM X4 [] [(9,⟨false,[.a (.lit (.string (runM x0)))]⟩)] [0,3] [] rfl (by(with_reducible and_intros)<;>first|exact⟨⟩|exact(HR x0 (by first|assumption|omega| (simp;done)| (simp;omega)))) (aM X4 [] [(11,⟨false,[.a (.lit (.string (runM x0)))]⟩)] [3,4] [] rfl (by(with_reducible and_intros)<;>first|exact⟨⟩|exact(HQ x0 (by first|assumption|omega| (simp;done)| (simp;omega)))) (aa (av X4 [14] rfl ?_))))
  refine an rfl ?_ ?_<;>intro bM
  ·exact absurd bM (by simp)
  ·try simp only[bG]at bM
   exact au (av X4 [2] rfl (aq (aj rfl ⟨rfl,⟨⟩⟩)))
end
end Go.Proofs.YtaalpcnbbldlaaaGreatDoor.G
