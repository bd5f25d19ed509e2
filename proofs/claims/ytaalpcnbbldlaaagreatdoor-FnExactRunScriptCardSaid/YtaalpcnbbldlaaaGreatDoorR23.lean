/-
  FnExactRunScript: the law, walked: it returns true.
-/
import Derived.Test.YtaalpcnbbldlaaaGreatDoorR21
import Derived.Test.YtaalpcnbbldlaaaGreatDoorR22
namespace Go.Proofs.YtaalpcnbbldlaaaGreatDoor.G
set_option linter.all false
open Go.RowKit L D Tryz
section
set_option maxRecDepth 100000
theorem eG(x:aW)(e:Ev)(hR:wR x)(hb:e.body.length≤1048576):ff ty Tryz.prog 29 (hW x) [.a (.ptr 1000 0), .agg (jQ e)] (hW (yd x e)) [.a (.lit (.string (Ag (lP x e))))]:=by
 refine cY X4 call29 func29 rfl rfl (by decide) ntmps29 (by simp) rfl ?_;intro zb;exact aq X4 [0,3] rfl (aa (aF X4 [(13,280)] [(13,⟨true,[.agg (aN (yd x e)),aH (lP x e)]⟩)] [0,5,6] [] 3071 1 MO (by kernel_rfl) rfl (by kernel_rfl) (by(with_reducible and_intros)<;>first|exact⟨⟩|exact(zZ x e (by first|assumption|omega| (simp;done)| (simp;omega)) (by first|assumption|omega| (simp;done)| (simp;omega)))) (aD X4 [6] rfl (by trivial) (cx 281 261 rfl (cx 282 262 rfl (cx 284 264 rfl (cx 288 268 rfl (aC X4 [] [(21,⟨false,[.a (.lit (.string (Ag (lP x e))))]⟩)] [4] [] rfl (by(with_reducible and_intros)<;>first|exact⟨⟩|exact(Cn (lP x e))) (ak (aS rfl ⟨rfl,rfl,rfl,rfl,rfl,rfl,rfl,rfl,rfl,rfl,rfl,⟨⟩⟩))))))))))
theorem jd(x:aW)(e:Ev)(hR:wR x)(hb:e.body.length≤1048576):ff ty Tryz.prog 49 (hW x) [.a (.ptr 1000 0), .agg (jQ e)] (hW (yd x e)) [.a (.lit (.string (Ag (lP x e))))]:=by
 refine cY X4 call49 func49 rfl rfl (by decide) ntmps49 (by simp) rfl ?_;intro zb;exact aq X4 [0,3] rfl (aa (aF X4 [(12,280)] [(12,⟨true,[.agg (aN (yd x e)),aH (lP x e)]⟩)] [0,5,6] [] 1535 1 MO (by kernel_rfl) rfl (by kernel_rfl) (by(with_reducible and_intros)<;>first|exact⟨⟩|exact(Aa x e (by first|assumption|omega| (simp;done)| (simp;omega)) (by first|assumption|omega| (simp;done)| (simp;omega)))) (aD X4 [6] rfl (by trivial) (cx 281 261 rfl (cx 282 262 rfl (cx 284 264 rfl (cx 288 268 rfl (aC X4 [] [(19,⟨false,[.a (.lit (.string (Ag (lP x e))))]⟩)] [4] [] rfl (by(with_reducible and_intros)<;>first|exact⟨⟩|exact(Ai (lP x e))) (ak (aS rfl ⟨rfl,rfl,rfl,rfl,rfl,rfl,rfl,rfl,rfl,rfl,rfl,⟨⟩⟩))))))))))
theorem oR(x:aW)(n:Nat)(c:Int)(Aq:JW x n∧n≤10000):ff ty Tryz.prog 36 (hW x) [.a (.ptr 1000 0),aA c] (hW (eo x (qW (fP c 60)))) [.a (.lit (.string (p7 (eo x (qW (fP c 60))))))]:=by
 refine cY X4 call36 func36 rfl rfl (by decide) ntmps36 (by simp) rfl ?_;intro zb;obtain⟨hJ,hn⟩:=Aq;have hC:=gM hJ.C (show 8*n≤4100000 by omega);have hF:=hJ.F (by omega);have hR:=hJ.R (by omega);have hF2:=(hJ.rn hn c).F (by omega);exact aq X4 [0,1] rfl (aa (aF X4 [(11,280)] [(10,⟨false,[aA (fP c 60)]⟩),(11,⟨true,[.agg (aN (eo x (qW (fP c 60))))]⟩)] [0] [] 255 0 MO (by kernel_rfl) rfl (by kernel_rfl) (by(with_reducible and_intros);(iterate 2 all_goals try first|exact⟨⟩|exact(E9 c 60)|exact(Bx x (fP c 60) hC))) (cx 281 261 rfl (cx 282 262 rfl (cx 284 264 rfl (cx 288 268 rfl (aC X4 [] [(16,⟨false,[.a (.lit (.string (p7 (eo x (qW (fP c 60))))))]⟩)] [4] [] rfl (by(with_reducible and_intros)<;>first|exact⟨⟩|exact(nK (eo x (qW (fP c 60))) hF2.rd hF2.ca hF2.re (by have:=hF2.dv;omega) hF2.rl)) (ak (aS rfl ⟨rfl,rfl,rfl,rfl,rfl,rfl,rfl,rfl,rfl,rfl,rfl,⟨⟩⟩)))))))))
theorem Fx(x:aW)(n:Nat)(s:List UInt8)(Aq:JW x n∧n≤10000):ff ty Tryz.prog 21 (hW x) [.a (.ptr 1000 0), .a (.lit (.string (aX s)))] (hW (dB x s).1) [.a (.lit (.string (Vv (dB x s))))]:=by
 refine cY X4 call21 func21 rfl rfl (by decide) ntmps21 (by simp) rfl ?_;intro zb;obtain⟨hJ,hn⟩:=Aq;have hC:=gM hJ.C (show 8*n≤4100000 by omega);have hF:=hJ.F (by omega);have hR:=hJ.R (by omega);refine aq X4 [0,1] rfl (aa (aq X4 [0,5] rfl (au (aq X4 [0,5,6] rfl ?_))));refine aj rfl ?_ ?_<;>intro hb0
 ·have hw0:s= [114,111,117,110,100]:=fj hb0;have hO:dB x s=((eo x (qW (fP 1 60))),some (p7 (eo x (qW (fP 1 60))))):=by rw[dB,if_pos hw0]<;>rfl
  refine aa ?_;have t1:=(oR x n 1 ⟨hJ,hn⟩);exact aL X4 [] [(800009,⟨true,ji t1⟩),(700009,⟨true, .agg [.ptr 1000 1000, .ptr 261 261, .ptr 262 262, .ptr 264 264, .ptr 268 268]:: .agg []::jj t1⟩)] [4] [] rfl (by(with_reducible and_intros)<;>first|exact⟨⟩|exact t1) (ak (aS rfl (by and_intros<;>first|exact⟨⟩| (rw[hO]<;>rfl;done))))
 ·have hw0:s≠ [114,111,117,110,100]:=iM hb0;refine aq X4 [0,5,10] rfl ?_;refine aj rfl ?_ ?_<;>intro aV
  ·have hw1:s= [115,101,116,116,108,101]:=fj aV;have hO:dB x s=rnO x (sE x):=by rw[dB,if_neg hw0,if_pos hw1]<;>rfl
   refine aa ?_;have t1:=(oR x n (sE x) ⟨hJ,hn⟩);exact aL X4 [] [(16,⟨false,[aA (sE x)]⟩),(800017,⟨true,ji t1⟩),(700017,⟨true, .agg [.ptr 1000 1000, .ptr 261 261, .ptr 262 262, .ptr 264 264, .ptr 268 268]:: .agg []::jj t1⟩)] [4] [] rfl (by(with_reducible and_intros);(iterate 2 all_goals try first|exact⟨⟩|exact(wo x (by have:=hF.dv;omega))|exact t1)) (ak (aS rfl (by and_intros<;>first|exact⟨⟩| (rw[hO]<;>rfl;done))))
  ·have hw1:s≠ [115,101,116,116,108,101]:=iM aV;refine aq X4 [0,5,18] rfl ?_;refine aj rfl ?_ ?_<;>intro bI
   ·have jO:s= [97,114,99,104,105,118,101]:=fj bI;have hO:dB x s=(x,some (Fo x.aB)):=by rw[dB,if_neg hw0,if_neg hw1,if_pos jO]<;>rfl
    exact aC X4 [] [(24,⟨false,[.a (.lit (.string (Fo x.aB)))]⟩)] [4] [] rfl (by(with_reducible and_intros)<;>first|exact⟨⟩|exact(uL x.aB hF.ar hF.ay hF.al)) (ak (aS rfl (by and_intros<;>first|exact⟨⟩| (rw[hO]<;>rfl;done))))
   ·have jO:s≠ [97,114,99,104,105,118,101]:=iM bI;refine aq X4 [0,5,25] rfl ?_;refine aj rfl ?_ ?_<;>intro eE
    ·have rm:s= [119,111,114,108,100]:=fj eE;have hO:dB x s=(x,some (p7 x)):=by rw[dB,if_neg hw0,if_neg hw1,if_neg jO,if_pos rm]<;>rfl
     exact aC X4 [] [(30,⟨false,[.a (.lit (.string (p7 x)))]⟩)] [4] [] rfl (by(with_reducible and_intros)<;>first|exact⟨⟩|exact(nK x hF.rd hF.ca hF.re (by have:=hF.dv;omega) hF.rl)) (ak (aS rfl (by and_intros<;>first|exact⟨⟩| (rw[hO]<;>rfl;done))))
    ·have rm:s≠ [119,111,114,108,100]:=iM eE;refine aq X4 [0,5,31] rfl ?_;refine aj rfl ?_ ?_<;>intro kV
     ·have CV:s= [116,114,97,102,102,105,99]:=fj kV;have hO:dB x s=(x,some (aX (Lib.itoa (wD (BJ x) (BJ x).length)))):=by rw[dB,if_neg hw0,if_neg hw1,if_neg jO,if_neg rm,if_pos CV]<;>rfl
      exact aC X4 [] [(36,⟨false,[.a (.sl .eZ (BJ x))]⟩),(37,⟨false,[aA (wD (BJ x) (BJ x).length)]⟩),(38,⟨false,[.a (.lit (.string (aX (Lib.itoa (wD (BJ x) (BJ x).length)))))]⟩)] [4] [] rfl (by(with_reducible and_intros);(iterate 3 all_goals try first|exact⟨⟩|exact(sP x)|exact(Ak (BJ x))|exact(aU (wD (BJ x) (BJ x).length) (I2 _ _)))) (ak (aS rfl (by and_intros<;>first|exact⟨⟩| (rw[hO]<;>rfl;done))))
     ·have CV:s≠ [116,114,97,102,102,105,99]:=iM kV;refine aq X4 [0,5,39] rfl ?_;refine aj rfl ?_ ?_<;>intro wX
      ·have I6:s= [97,117,100,105,116]:=fj wX;have hO:dB x s=(x,some (sK (mj x))):=by rw[dB,if_neg hw0,if_neg hw1,if_neg jO,if_neg rm,if_neg CV,if_pos I6]<;>rfl
       exact aC X4 [] [(44,⟨false,[aH (mj x)]⟩),(45,⟨false,[.a (.lit (.string (sK (mj x))))]⟩)] [4] [] rfl (by(with_reducible and_intros);(iterate 2 all_goals try first|exact⟨⟩|exact(zl x hF.sz)|exact(w5 (mj x)))) (ak (aS rfl (by and_intros<;>first|exact⟨⟩| (rw[hO]<;>rfl;done))))
      ·have I6:s≠ [97,117,100,105,116]:=iM wX;refine aq X4 [0,46] rfl ?_;refine aj rfl ?_ ?_<;>intro Fc
       ·have hw6:s= [113,117,105,101,116]:=fj Fc;have hO:dB x s=(x,some (sK (lf x))):=by rw[dB,if_neg hw0,if_neg hw1,if_neg jO,if_neg rm,if_neg CV,if_neg I6,if_pos hw6]<;>rfl
        exact aC X4 [] [(51,⟨false,[aH (lf x)]⟩),(52,⟨false,[.a (.lit (.string (sK (lf x))))]⟩)] [4] [] rfl (by(with_reducible and_intros);(iterate 2 all_goals try first|exact⟨⟩|exact(Fb x (by have:=hF.dv;omega))|exact(w5 (lf x)))) (ak (aS rfl (by and_intros<;>first|exact⟨⟩| (rw[hO]<;>rfl;done))))
       ·have hw6:s≠ [113,117,105,101,116]:=iM Fc;have hO:dB x s=(x,none):=by rw[dB,if_neg hw0,if_neg hw1,if_neg jO,if_neg rm,if_neg CV,if_neg I6,if_neg hw6]<;>rfl
        exact an (aq X4 [4] rfl (ak (aS rfl (by and_intros<;>first|exact⟨⟩| (rw[hO]<;>rfl;done)))))
theorem uY(x:aW)(n:Nat)(s:List UInt8)(Aq:JW x n∧n≤10000):ff ty Tryz.prog 27 (hW x) [.a (.ptr 1000 0), .a (.lit (.string (aX s)))] (hW (dB x s).1) [.a (.lit (.string ((dB x s).2.getD ⟨#[]⟩))),aH (dB x s).2.isSome]:=by
 refine cY X4 call27 func27 rfl rfl (by decide) ntmps27 (by simp) rfl ?_;intro zb;obtain⟨hJ,hn⟩:=Aq;have hC:=gM hJ.C (show 8*n≤4100000 by omega);have hF:=hJ.F (by omega);have hR:=hJ.R (by omega);refine aq X4 [0,1] rfl (aa (aq X4 [0,6] rfl (au (aq X4 [0,6,7] rfl ?_))));refine aj rfl ?_ ?_<;>intro hb0
 ·have hw0:s= [114,111,117,110,100]:=fj hb0;have hO:dB x s=((eo x (qW (fP 1 60))),some (p7 (eo x (qW (fP 1 60))))):=by rw[dB,if_pos hw0]<;>rfl
  have hev:yd x ⟨1,0,0,[]⟩=(eo x (qW (fP 1 60))):=by unfold yd;rfl
  refine aa ?_;have t1:=(eG x (⟨1,0,0,[]⟩:Ev) hR (Nat.zero_le _));refine qZ X4 [] [(800011,⟨true,ji t1⟩),(700011,⟨true, .agg [.ptr 1000 1000, .ptr 261 261, .ptr 262 262, .ptr 264 264, .ptr 268 268]:: .agg []::jj t1⟩),(1200010,⟨true,[.agg (jQ ⟨1,0,0,[]⟩)]⟩)] [0] [] rfl (by(with_reducible and_intros)<;>first|exact⟨⟩|exact t1) ?_;rw[hev];exact aC X4 [] [(16,⟨false,[.a (.lit (.string (p7 (eo x (qW (fP 1 60))))))]⟩)] [4,5] [] rfl (by(with_reducible and_intros)<;>first|exact⟨⟩|exact(gm (eo x (qW (fP 1 60))) (((hJ.rn hn 1).F (by omega)).rd) (((hJ.rn hn 1).F (by omega)).ca) ((hJ.rn hn 1).F (by omega)).re (by have:=((hJ.rn hn 1).F (by omega)).dv;omega) ((hJ.rn hn 1).F (by omega)).rl)) (ak (aS rfl (by and_intros<;>first|exact⟨⟩| (rw[hO]<;>rfl;done))))
 ·have hw0:s≠ [114,111,117,110,100]:=iM hb0;refine aq X4 [0,6,17] rfl ?_;refine aj rfl ?_ ?_<;>intro aV
  ·have hw1:s= [115,101,116,116,108,101]:=fj aV;have hO:dB x s=rnO x (sE x):=by rw[dB,if_neg hw0,if_pos hw1]<;>rfl
   exact aa (aF X4 [(30,280)] [(28,⟨false,[aA (sE x)]⟩),(30,⟨true,[.agg (aN (eo x (qW (fP (sE x) 60))))]⟩)] [0] [] 16383 0 MO (by kernel_rfl) rfl (by kernel_rfl) (by(with_reducible and_intros);(iterate 2 all_goals try first|exact⟨⟩|exact(wm x (by have:=hF.dv;omega))|exact(pZ x (fP (sE x) 60) hC))) (cx 281 261 rfl (cx 282 262 rfl (cx 284 264 rfl (cx 288 268 rfl (aC X4 [] [(37,⟨false,[.a (.lit (.string (p7 (eo x (qW (fP (sE x) 60))))))]⟩)] [4,5] [] rfl (by(with_reducible and_intros)<;>first|exact⟨⟩|exact(gm (eo x (qW (fP (sE x) 60))) (((hJ.rn hn (sE x)).F (by omega)).rd) (((hJ.rn hn (sE x)).F (by omega)).ca) ((hJ.rn hn (sE x)).F (by omega)).re (by have:=((hJ.rn hn (sE x)).F (by omega)).dv;omega) ((hJ.rn hn (sE x)).F (by omega)).rl)) (ak (aS rfl (by and_intros<;>first|exact⟨⟩| (rw[hO]<;>rfl;done))))))))))
  ·have hw1:s≠ [115,101,116,116,108,101]:=iM aV;refine aq X4 [0,6,38] rfl ?_;refine aj rfl ?_ ?_<;>intro bI
   ·have jO:s= [97,114,99,104,105,118,101]:=fj bI;have hO:dB x s=(x,some (Fo x.aB)):=by rw[dB,if_neg hw0,if_neg hw1,if_pos jO]<;>rfl
    exact aC X4 [] [(45,⟨false,[.a (.lit (.string (Fo x.aB)))]⟩)] [4,5] [] rfl (by(with_reducible and_intros)<;>first|exact⟨⟩|exact(uK x.aB hF.ar hF.ay hF.al)) (ak (aS rfl (by and_intros<;>first|exact⟨⟩| (rw[hO]<;>rfl;done))))
   ·have jO:s≠ [97,114,99,104,105,118,101]:=iM bI;refine aq X4 [0,6,46] rfl ?_;refine aj rfl ?_ ?_<;>intro eE
    ·have rm:s= [119,111,114,108,100]:=fj eE;have hO:dB x s=(x,some (p7 x)):=by rw[dB,if_neg hw0,if_neg hw1,if_neg jO,if_pos rm]<;>rfl
     exact aC X4 [] [(52,⟨false,[.a (.lit (.string (p7 x)))]⟩)] [4,5] [] rfl (by(with_reducible and_intros)<;>first|exact⟨⟩|exact(gm x hF.rd hF.ca hF.re (by have:=hF.dv;omega) hF.rl)) (ak (aS rfl (by and_intros<;>first|exact⟨⟩| (rw[hO]<;>rfl;done))))
    ·have rm:s≠ [119,111,114,108,100]:=iM eE;refine aq X4 [0,6,53] rfl ?_;refine aj rfl ?_ ?_<;>intro kV
     ·have CV:s= [116,114,97,102,102,105,99]:=fj kV;have hO:dB x s=(x,some (aX (Lib.itoa (wD (BJ x) (BJ x).length)))):=by rw[dB,if_neg hw0,if_neg hw1,if_neg jO,if_neg rm,if_pos CV]<;>rfl
      exact aC X4 [] [(59,⟨false,[.a (.sl .eZ (BJ x))]⟩),(60,⟨false,[aA (wD (BJ x) (BJ x).length)]⟩),(61,⟨false,[.a (.lit (.string (aX (Lib.itoa (wD (BJ x) (BJ x).length)))))]⟩)] [4,5] [] rfl (by(with_reducible and_intros);(iterate 3 all_goals try first|exact⟨⟩|exact(sN x)|exact(Aj (BJ x))|exact(bw (wD (BJ x) (BJ x).length) (I2 _ _)))) (ak (aS rfl (by and_intros<;>first|exact⟨⟩| (rw[hO]<;>rfl;done))))
     ·have CV:s≠ [116,114,97,102,102,105,99]:=iM kV;refine aq X4 [0,6,62] rfl ?_;refine aj rfl ?_ ?_<;>intro wX
      ·have I6:s= [97,117,100,105,116]:=fj wX;have hO:dB x s=(x,some (sK (mj x))):=by rw[dB,if_neg hw0,if_neg hw1,if_neg jO,if_neg rm,if_neg CV,if_pos I6]<;>rfl
       exact aC X4 [] [(68,⟨false,[aH (mj x)]⟩),(69,⟨false,[.a (.lit (.string (sK (mj x))))]⟩)] [4,5] [] rfl (by(with_reducible and_intros);(iterate 2 all_goals try first|exact⟨⟩|exact(zk x hF.sz)|exact(Ah (mj x)))) (ak (aS rfl (by and_intros<;>first|exact⟨⟩| (rw[hO]<;>rfl;done))))
      ·have I6:s≠ [97,117,100,105,116]:=iM wX;refine aq X4 [0,70] rfl ?_;refine aj rfl ?_ ?_<;>intro Fc
       ·have hw6:s= [113,117,105,101,116]:=fj Fc;have hO:dB x s=(x,some (sK (lf x))):=by rw[dB,if_neg hw0,if_neg hw1,if_neg jO,if_neg rm,if_neg CV,if_neg I6,if_pos hw6]<;>rfl
        exact aC X4 [] [(76,⟨false,[aH (lf x)]⟩),(77,⟨false,[.a (.lit (.string (sK (lf x))))]⟩)] [4,5] [] rfl (by(with_reducible and_intros);(iterate 2 all_goals try first|exact⟨⟩|exact(Fa x (by have:=hF.dv;omega))|exact(Ah (lf x)))) (ak (aS rfl (by and_intros<;>first|exact⟨⟩| (rw[hO]<;>rfl;done))))
       ·have hw6:s≠ [113,117,105,101,116]:=iM Fc;have hO:dB x s=(x,none):=by rw[dB,if_neg hw0,if_neg hw1,if_neg jO,if_neg rm,if_neg CV,if_neg I6,if_neg hw6]<;>rfl
        exact an (aq X4 [4,5] rfl (ak (aS rfl (by and_intros<;>first|exact⟨⟩| (rw[hO]<;>rfl;done)))))
theorem sQ(x:dF)(h1:lV x.id)(h2:lV x.cU)(h6:lV x.sent)(h8:lV x.next):So 78 [.agg (bG x)] [.a (.lit (.string (IV x)))]:=by
 refine cw X4 call78 func78 rfl rfl (by decide) ntmps78 (by simp) ?_;intro zb;refine bl 0 4 rfl rfl (fun hl1=> ?_);refine bl 0 6 rfl rfl (fun lg=> ?_);have z1:=bW h1;have z2:=bW h2;have z3:=bW h6;have z4:=bW (n:=(x.aM.length:Int)) (by omega);have z5:=bW (n:=(x.inbox.length:Int)) (by omega);have z6:=bW h8;refine aq X4 [1] rfl (aa ?_);have t1:=(bw ((x.aM.length:Nat):Int) (by first|assumption|omega| (simp;done)| (simp;omega)));exact aF X4 [] [(5,⟨false,[.a (.lit (.string (aX (Lib.itoa x.id))))]⟩),(9,⟨false,[.a (.lit (.string (aX (Lib.itoa x.cU))))]⟩),(14,⟨false,[.a (.lit (.string (aX (Lib.itoa x.sent))))]⟩),(20,⟨false,bq t1⟩),(26,⟨false,[.a (.lit (.string (aX (Lib.itoa ((x.inbox.length:Nat):Int)))))]⟩),(31,⟨false,[.a (.lit (.string (aX (Lib.itoa x.next))))]⟩)] [2] [] 2147483647 0 MO (by kernel_rfl) rfl (by kernel_rfl) (by(with_reducible and_intros);(iterate 7 all_goals try first|exact⟨⟩|exact(bw x.id (by first|assumption|omega| (simp;done)| (simp;omega)))|exact(bw x.cU (by first|assumption|omega| (simp;done)| (simp;omega)))|exact(bw x.sent (by first|assumption|omega| (simp;done)| (simp;omega)))|exact(bw ((x.aM.length:Nat):Int) (by first|assumption|omega| (simp;done)| (simp;omega)))|exact(bw ((x.inbox.length:Nat):Int) (by first|assumption|omega| (simp;done)| (simp;omega)))|exact(bw x.next (by first|assumption|omega| (simp;done)| (simp;omega)))|exact(by simp only[ByteArray.size_append,fM,fE];omega))) (ak (ah rfl ⟨rfl,⟨⟩⟩))
theorem sR(x:dF)(h1:lV x.id)(h2:lV x.cU)(h6:lV x.sent)(h8:lV x.next):So 51 [.agg (bG x)] [.a (.lit (.string (IV x)))]:=by
 refine cw X4 call51 func51 rfl rfl (by decide) ntmps51 (by simp) ?_;intro zb;refine bl 0 4 rfl rfl (fun hl1=> ?_);refine bl 0 6 rfl rfl (fun lg=> ?_);have z1:=bW h1;have z2:=bW h2;have z3:=bW h6;have z4:=bW (n:=(x.aM.length:Int)) (by omega);have z5:=bW (n:=(x.inbox.length:Int)) (by omega);have z6:=bW h8;refine aq X4 [1] rfl (aa ?_);have t1:=(aU ((x.aM.length:Nat):Int) (by first|assumption|omega| (simp;done)| (simp;omega)));exact aF X4 [] [(5,⟨false,[.a (.lit (.string (aX (Lib.itoa x.id))))]⟩),(9,⟨false,[.a (.lit (.string (aX (Lib.itoa x.cU))))]⟩),(14,⟨false,[.a (.lit (.string (aX (Lib.itoa x.sent))))]⟩),(20,⟨false,bq t1⟩),(26,⟨false,[.a (.lit (.string (aX (Lib.itoa ((x.inbox.length:Nat):Int)))))]⟩),(31,⟨false,[.a (.lit (.string (aX (Lib.itoa x.next))))]⟩)] [2] [] 2147483647 0 MO (by kernel_rfl) rfl (by kernel_rfl) (by(with_reducible and_intros);(iterate 7 all_goals try first|exact⟨⟩|exact(aU x.id (by first|assumption|omega| (simp;done)| (simp;omega)))|exact(aU x.cU (by first|assumption|omega| (simp;done)| (simp;omega)))|exact(aU x.sent (by first|assumption|omega| (simp;done)| (simp;omega)))|exact(aU ((x.aM.length:Nat):Int) (by first|assumption|omega| (simp;done)| (simp;omega)))|exact(aU ((x.inbox.length:Nat):Int) (by first|assumption|omega| (simp;done)| (simp;omega)))|exact(aU x.next (by first|assumption|omega| (simp;done)| (simp;omega)))|exact(by simp only[ByteArray.size_append,fM,fE];omega))) (ak (ah rfl ⟨rfl,⟨⟩⟩))
theorem FT(x:aW)(n:Nat)(s:List UInt8)(c:Int)(Aq:JW x n∧n≤10000)(hc:0≤c):ff ty Tryz.prog 24 (hW x) [.a (.ptr 1000 0), .a (.lit (.string (aX s))),aA c] (hW (gq x s c).1) [.a (.lit (.string (Vv (gq x s c))))]:=by
 refine cY X4 call24 func24 rfl rfl (by decide) ntmps24 (by simp) rfl ?_;intro zb;obtain⟨hJ,hn⟩:=Aq;have hC:=gM hJ.C (show 8*n≤4100000 by omega);have hF:=hJ.F (by omega);have hR:=hJ.R (by omega);refine aq X4 [0,1,2] rfl (aa (aq X4 [0,1,2,7] rfl (au (aq X4 [0,1,2,7,8] rfl ?_))));refine aj rfl ?_ ?_<;>intro hb0
 ·have hw0:s= [99,114,97,115,104]:=fj hb0;have hO:gq x s c=Ns x ⟨3,c,0,[]⟩:=by rw[gq,if_pos hw0]<;>rfl
  refine aa ?_;have t1:=(jd x (⟨3,c,0,[]⟩:Ev) hR (Nat.zero_le _));exact qZ X4 [] [(800013,⟨true,ji t1⟩),(700013,⟨true, .agg [.ptr 1000 1000, .ptr 261 261, .ptr 262 262, .ptr 264 264, .ptr 268 268]:: .agg []::jj t1⟩),(1200012,⟨true,[.agg (jQ ⟨3,c,0,[]⟩)]⟩)] [6] [] rfl (by(with_reducible and_intros)<;>first|exact⟨⟩|exact t1) (ak (aS rfl (by and_intros<;>first|exact⟨⟩| (rw[hO]<;>rfl;done))))
 ·have hw0:s≠ [99,114,97,115,104]:=iM hb0;refine aq X4 [0,1,2,7,14] rfl ?_;refine aj rfl ?_ ?_<;>intro aV
  ·have hw1:s= [115,97,118,101]:=fj aV;have hO:gq x s c=Ns x ⟨5,c,0,[]⟩:=by rw[gq,if_neg hw0,if_pos hw1]<;>rfl
   refine aa ?_;have t1:=(jd x (⟨5,c,0,[]⟩:Ev) hR (Nat.zero_le _));exact qZ X4 [] [(800019,⟨true,ji t1⟩),(700019,⟨true, .agg [.ptr 1000 1000, .ptr 261 261, .ptr 262 262, .ptr 264 264, .ptr 268 268]:: .agg []::jj t1⟩),(1200018,⟨true,[.agg (jQ ⟨5,c,0,[]⟩)]⟩)] [6] [] rfl (by(with_reducible and_intros)<;>first|exact⟨⟩|exact t1) (ak (aS rfl (by and_intros<;>first|exact⟨⟩| (rw[hO]<;>rfl;done))))
  ·have hw1:s≠ [115,97,118,101]:=iM aV;refine aq X4 [0,1,2,7,20] rfl ?_;refine aj rfl ?_ ?_<;>intro bI
   ·have jO:s= [114,111,117,110,100,115]:=fj bI;have hO:gq x s c=rnO x c:=by rw[gq,if_neg hw0,if_neg hw1,if_pos jO]<;>rfl
    refine aa ?_;have t1:=(oR x n c ⟨hJ,hn⟩);exact aL X4 [] [(800024,⟨true,ji t1⟩),(700024,⟨true, .agg [.ptr 1000 1000, .ptr 261 261, .ptr 262 262, .ptr 264 264, .ptr 268 268]:: .agg []::jj t1⟩)] [6] [] rfl (by(with_reducible and_intros)<;>first|exact⟨⟩|exact t1) (ak (aS rfl (by and_intros<;>first|exact⟨⟩| (rw[hO]<;>rfl;done))))
   ·have jO:s≠ [114,111,117,110,100,115]:=iM bI;refine aa (aq X4 [0,1,2,7,25] rfl ?_);refine aj rfl ?_ ?_<;>intro eE
    ·have rm:s= [99,108,105,101,110,116]:=fj eE;refine an (aj rfl ?_ ?_)<;>intro kV
     ·refine aa (aD X4 [0,1,2,34] rfl (by trivial) ?_);refine aj rfl ?_ ?_<;>intro wX
      ·try simp only[aQ]at wX
       have hO:gq x s c=(x,some CT):=by rw[gq,if_neg hw0,if_neg hw1,if_neg jO,if_pos rm,QK,if_pos wX]<;>rfl
       exact aq X4 [6] rfl (ak (aS rfl (by and_intros<;>first|exact⟨⟩| (rw[hO]<;>rfl;done))))
      ·try simp only[aQ]at wX
       have hO:gq x s c=(x,some (IV (x.af.getD c.toNat (aG .aZ)).live)):=by rw[gq,if_neg hw0,if_neg hw1,if_neg jO,if_pos rm,QK,if_neg (by omega)]<;>rfl
       have hlt:c.toNat<x.af.length:=by omega
       obtain⟨q1,q2,q3,q4⟩:=hF.cl _ hlt;refine an (aa (aq X4 [0,2,36] rfl ?_));refine aj rfl ?_ ?_<;>intro Fc
       ·have h9:s= [105,110,98,111,120]:=fj Fc;exact absurd (h9.symm.trans rm) (by decide)
       ·exact an (aC X4 [] [(50,⟨false,[.a (.lit (.string (IV ((x.af.getD c.toNat (aG .aZ)).live))))]⟩)] [6] [] rfl (by(with_reducible and_intros)<;>first|exact⟨⟩|exact(sR ((x.af.getD c.toNat (aG .aZ)).live) q1 q2 q3 q4)| (intros;omega)) (ak (aS rfl (by and_intros<;>first|exact⟨⟩| (rw[hO]<;>rfl;done)))))
     ·exact absurd (eE.symm.trans kV) (by decide)
    ·have rm:s≠ [99,108,105,101,110,116]:=iM eE;refine bg X4 [0,1,2,7,25] rfl ?_;refine aj rfl ?_ ?_<;>intro kV
     ·have CV:s= [105,110,98,111,120]:=fj kV;refine aa (aD X4 [0,1,2,34] rfl (by trivial) ?_);refine aj rfl ?_ ?_<;>intro wX
      ·try simp only[aQ]at wX
       have hO:gq x s c=(x,some CT):=by rw[gq,if_neg hw0,if_neg hw1,if_neg jO,if_neg rm,if_pos CV,QL,if_pos wX]<;>rfl
       exact aq X4 [6] rfl (ak (aS rfl (by and_intros<;>first|exact⟨⟩| (rw[hO]<;>rfl;done))))
      ·try simp only[aQ]at wX
       have hO:gq x s c=(x,some (BG x c)):=by rw[gq,if_neg hw0,if_neg hw1,if_neg jO,if_neg rm,if_pos CV,QL,if_neg (by omega)]<;>rfl
       refine an (aa (aq X4 [0,2,36] rfl ?_));refine aj rfl ?_ ?_<;>intro Fc
       ·exact aC X4 [] [(41,⟨false,[.a (.lit (.string (BG x c)))]⟩)] [6] [] rfl (by(with_reducible and_intros)<;>first|exact⟨⟩|exact(wE x c (by have:=hF.dv;omega) (hF.inb c))) (ak (aS rfl (by and_intros<;>first|exact⟨⟩| (rw[hO]<;>rfl;done))))
       ·exact absurd (kV.symm.trans Fc) (by decide)
     ·have CV:s≠ [105,110,98,111,120]:=iM kV;refine aq X4 [0,2,51] rfl ?_;refine aj rfl ?_ ?_<;>intro hb7
      ·have I6:s= [115,101,114,118,101,114]:=fj hb7;refine aa (aD X4 [0,2,59] rfl (by trivial) ?_);refine aj rfl ?_ ?_<;>intro XI
       ·try simp only[aQ]at XI
        have hO:gq x s c=(x,some CT):=by rw[gq,if_neg hw0,if_neg hw1,if_neg jO,if_neg rm,if_neg CV,if_pos I6,QM,if_pos XI]<;>rfl
        exact aq X4 [6] rfl (ak (aS rfl (by and_intros<;>first|exact⟨⟩| (rw[hO]<;>rfl;done))))
       ·try simp only[aQ]at XI
        have hO:gq x s c=(x,some (BI (x.az.getD c.toNat (aG .bp)))):=by rw[gq,if_neg hw0,if_neg hw1,if_neg jO,if_neg rm,if_neg CV,if_pos I6,QM,if_neg (by omega)]<;>rfl
        have hlt:c.toNat<x.az.length:=by omega
        obtain⟨q1,q2,q3⟩:=hF.se _ hlt;exact an (aC X4 [] [(67,⟨false,[.a (.lit (.string (BI (x.az.getD c.toNat (aG .bp)))))]⟩)] [6] [] rfl (by(with_reducible and_intros)<;>first|exact⟨⟩|exact(wA (x.az.getD c.toNat (aG .bp)) q1 q2 q3)| (intros;omega)) (ak (aS rfl (by and_intros<;>first|exact⟨⟩| (rw[hO]<;>rfl;done)))))
      ·have I6:s≠ [115,101,114,118,101,114]:=iM hb7;have hO:gq x s c=(x,none):=by rw[gq,if_neg hw0,if_neg hw1,if_neg jO,if_neg rm,if_neg CV,if_neg I6]<;>rfl
       exact an (aq X4 [6] rfl (ak (aS rfl (by and_intros<;>first|exact⟨⟩| (rw[hO]<;>rfl;done)))))
theorem uZ(x:aW)(r row q:Int)(hk:okW x=true):So 53 [.agg (aN x),aA r,aA row,aA q] [.a (.sl .u8 (zo x r row q)),aH (uj x r row q)]:=by
 refine cw X4 call53 func53 rfl rfl (by decide) ntmps53 (by simp) ?_;intro zb;refine aq X4 [1,2,3,4] rfl (aa (aC X4 [] [(11,⟨false,[aH (okW x)]⟩)] [1,2,3,4,12] [] rfl (by(with_reducible and_intros)<;>first|exact⟨⟩|exact(bV x)) ?_));refine aj rfl ?_ ?_<;>intro hb0
 ·exact absurd hb0 (by rw[hk];decide)
 ·exact an (aC X4 [] [(18,⟨true,[.a (.sl .u8 (zo x r row q)),aH (uj x r row q)]⟩)] [8,9] [] rfl (by(with_reducible and_intros)<;>first|exact⟨⟩|exact(nH x r row q hk)) (ak (ah rfl ⟨rfl,rfl,⟨⟩⟩)))
theorem ry{x:aW}{n:Nat}(hJ:JW x n)(r row:Int):So 74 [.agg (aN x),aA r,aA row,aA 1] [.a (.sl .u8 (YF x r row)),aH (ya x r row)]:=by
 rcases hJ with rfl| ⟨h,_⟩
 ·rw[show YF zW r row= []from if_neg (by rw[uN];decide),show ya zW r row=false by unfold ya;rw[uN];rfl];exact uS r row 1
 ·rw[show YF x r row=zo x r row 1 from if_pos h.ok,show ya x r row=uj x r row 1 by unfold ya;rw[h.ok];rfl];exact jz x r row 1 h.ok
theorem rz{x:aW}{n:Nat}(hJ:JW x n)(r row:Int):So 53 [.agg (aN x),aA r,aA row,aA 1] [.a (.sl .u8 (YF x r row)),aH (ya x r row)]:=by
 rcases hJ with rfl| ⟨h,_⟩
 ·rw[show YF zW r row= []from if_neg (by rw[uN];decide),show ya zW r row=false by unfold ya;rw[uN];rfl];exact uT r row 1
 ·rw[show YF x r row=zo x r row 1 from if_pos h.ok,show ya x r row=uj x r row 1 by unfold ya;rw[h.ok];rfl];exact uZ x r row 1 h.ok
theorem FU(x:aW)(n:Nat)(s:List UInt8)(c:Int)(t:List UInt8)(Aq:JW x n∧n≤10000)(ht:t.length≤1048576):ff ty Tryz.prog 25 (hW x) [.a (.ptr 1000 0), .a (.lit (.string (aX s))),aA c, .a (.lit (.string (aX t)))] (hW (ku x s c t).1) [.a (.lit (.string (Vv (ku x s c t))))]:=by
 refine cY X4 call25 func25 rfl rfl (by decide) ntmps25 (by simp) rfl ?_;intro zb;obtain⟨hJ,hn⟩:=Aq;have hC:=gM hJ.C (show 8*n≤4100000 by omega);have hF:=hJ.F (by omega);have hR:=hJ.R (by omega);have hzt:(aX t).size=t.length:=rfl;refine aq X4 [0,1,2,3] rfl (aC X4 [] [(17,⟨false,[aA (cu t),aH (cS t)]⟩)] [0,1,2,3,9,10] [] rfl (by(with_reducible and_intros)<;>first|exact⟨⟩|exact(l9 t (by first|assumption|omega| (simp;done)| (simp;omega)))) (aa (au (aq X4 [0,1,2,3,9,10,20] rfl ?_))));refine aj rfl ?_ ?_<;>intro hb0
 ·have hw0:s= [115,101,110,100]∧t≠ []:=⟨fj (sL hb0).1,XE (sL hb0).2⟩;have hO:ku x s c t=Ns x ⟨2,c,0,t⟩:=by rw[ku,if_pos hw0]<;>rfl
  refine aa ?_;have t1:=(jd x (⟨2,c,0,t⟩:Ev) hR ht);exact Pv X4 [] [(800032,⟨true,ji t1⟩),(700032,⟨true, .agg [.ptr 1000 1000, .ptr 261 261, .ptr 262 262, .ptr 264 264, .ptr 268 268]:: .agg []::jj t1⟩)] [8] 3 rfl (by(with_reducible and_intros)<;>first|exact⟨⟩|exact t1| (intros;omega)) (ak (aS rfl (by and_intros<;>first|exact⟨⟩| (rw[hO]<;>rfl;done))))
 ·have hw0: ¬(s= [115,101,110,100]∧t≠ []):=fun h=>Nv hb0 ⟨Nw.2 h.1,ac5 h.2⟩;refine aq X4 [0,1,2,3,9,33] rfl ?_;refine aj rfl ?_ ?_<;>intro aV
  ·have hw1:s= [114,101,97,100]∧cS t=true:=⟨fj (sL aV).1,(sL aV).2⟩;have hO:ku x s c t=(x,some (Vu x c (cu t))):=by rw[ku,if_neg hw0,if_pos hw1]<;>rfl
   refine aC X4 [] [(45,⟨false,[.a (.sl .u8 (YF x c (cu t))),aH (ya x c (cu t))]⟩)] [11,12] [] rfl (by(with_reducible and_intros)<;>first|exact⟨⟩|exact(rz hJ c (cu t))) (aa (aq X4 [11,49] rfl ?_));refine aj rfl ?_ ?_<;>intro bI
   ·rw[YG (by simpa using bI)]at hO;exact aq X4 [8] rfl (ak (aS rfl (by and_intros<;>first|exact⟨⟩| (rw[hO]<;>rfl;done))))
   ·have Qy:=U2 (x:=x) (r:=c) (row:=cu t) (by simpa using bI);rw[Qy.2]at hO;rw[Qy.1];exact an (aC X4 [] [(51,⟨false,[.a (.lit (.string (lT (zo x c (cu t) 1))))]⟩)] [8] [] rfl (by(with_reducible and_intros)<;>first|exact⟨⟩|exact(Ap (zo x c (cu t) 1) (I1 ..))) (ak (aS rfl (by and_intros<;>first|exact⟨⟩| (rw[hO]<;>rfl;done)))))
  ·have hw1: ¬(s= [114,101,97,100]∧cS t=true):=fun h=>Nv aV ⟨Nw.2 h.1,h.2⟩;refine aq X4 [0,2,3,52] rfl ?_;refine aj rfl ?_ ?_<;>intro eE
   ·have jO:s= [99,111,114,114,117,112,116]:=fj eE;refine aD X4 [0,2,3,13] rfl ⟨⟨rfl,bA _ (by decide)⟩,by decide,by decide,by decide,by decide,⟨⟩⟩ (aq X4 [0,2,3,13,14] rfl ?_);refine au (aE (fun k=>k≤4∧ ∀j,j<k→names.getD j []≠t) (fun k:Nat=> [(14, .one ((aA k)))]) (fun k=> [(55, .arr .str names)]) (fun k=>4-k) 0 (fun k=>rfl) ⟨Nat.zero_le _,fun j hj=>absurd hj (Nat.not_lt_zero _)⟩ rfl ?_);rintro k ⟨hk,hno⟩;refine aa (aq X4 [0,2,3,13,14,59] rfl ?_);refine aj rfl ?_ ?_<;>intro kV
    ·try simp only[aQ]at kV
     have aho:k<4:=kV;refine an (aa (au (aD X4 [0,2,3,13,14,67] rfl (by and_intros<;>first|exact⟨⟩| (intros;omega)) ?_)));refine aj rfl ?_ ?_<;>intro wX
     ·have hhi:names.getD k []=t:=fj wX;have hnk:=aaw (by have:k<4:=kV;omega) hhi;have hO:ku x s c t=Ns x ⟨4,c,(k:Int),[]⟩:=by rw[ku,if_neg hw0,if_neg hw1,if_pos ⟨jO,by rw[hnk];omega⟩,hnk]<;>rfl
      refine aa ?_;have t1:=(jd x (⟨4,c,(k:Int),[]⟩:Ev) hR (Nat.zero_le _));exact qZ X4 [] [(800072,⟨true,ji t1⟩),(700072,⟨true, .agg [.ptr 1000 1000, .ptr 261 261, .ptr 262 262, .ptr 264 264, .ptr 268 268]:: .agg []::jj t1⟩),(1200071,⟨true,[.agg (jQ ⟨4,c,(k:Int),[]⟩)]⟩)] [8] [] rfl (by(with_reducible and_intros)<;>first|exact⟨⟩|exact t1) (ak (aS rfl (by and_intros<;>first|exact⟨⟩| (rw[hO]<;>rfl;done))))
     ·have hhi:names.getD k []≠t:=iM wX;refine an (bg X4 [0,2,3,13,14] rfl ?_);refine⟨k+1,⟨by have:k<4:=kV;omega,fun j hj=>by rcases Nat.lt_succ_iff_lt_or_eq.1 hj with h|h;exact hno j h;rw[h];exact hhi⟩,by omega,?_⟩;rw[bh _ k rfl (by omega)];try rfl
    ·try simp only[aQ]at kV
     have hmi:=XF (t:=t) (fun j hj=>hno j (by have:4≤k:=kV;omega));have hO:ku x s c t=(x,none):=by rw[ku,if_neg hw0,if_neg hw1,if_neg (fun h=>by rw[hmi]at h;omega)]<;>rfl
     exact aI (aq X4 [8] rfl (ak (aS rfl (by and_intros<;>first|exact⟨⟩| (rw[hO]<;>rfl;done)))))
   ·have jO:s≠ [99,111,114,114,117,112,116]:=iM eE;have hO:ku x s c t=(x,none):=by rw[ku,if_neg hw0,if_neg hw1,if_neg (fun h=>jO h.1)]<;>rfl
    exact an (aq X4 [8] rfl (ak (aS rfl (by and_intros<;>first|exact⟨⟩| (rw[hO]<;>rfl;done)))))
theorem FV(x:aW)(n:Nat)(L:List (List UInt8))(Aq:JW x n∧n≤10000)(hL:L.length=5)(hz:cE List.length L≤1048576):ff ty Tryz.prog 22 (hW x) [.a (.ptr 1000 0), .a (.sl .str L)] (hW (YH x (L.drop 1)).1) [.a (.lit (.string (Vv (YH x (L.drop 1)))))]:=by
 refine cY X4 call22 func22 rfl rfl (by decide) ntmps22 (by simp) rfl ?_;intro zb;obtain⟨hJ,hn⟩:=Aq;have hC:=gM hJ.C (show 8*n≤4100000 by omega);have hF:=hJ.F (by omega);have hR:=hJ.R (by omega);have hML:(L.drop 1).length=4:=by rw[List.length_drop];omega
 refine aq X4 [0,1] rfl (aD X4 [0,1,5] rfl (by and_intros<;>first|exact⟨⟩|exact rfl) (aa (aq X4 [0,1,5,6] rfl ?_)));refine au (aE (fun k=>1≤k∧k≤5∧((L.drop 1).take (k-1)).all cS=true) (fun k:Nat=> [(6, .one ((aA k)))]) (fun k=> [(9, .arr .int (XG (L.drop 1) (k-1)))]) (fun k=>5-k) 1 (fun k=>rfl) ⟨Nat.le_refl _,by decide,rfl⟩ rfl ?_);rintro k ⟨hk1,hk,hall⟩;have Yn:=Pt (M:=(L.drop 1)) (j:=k-1) (by omega);refine aa (aq X4 [0,1,5,6,13] rfl ?_);refine aj rfl ?_ ?_<;>intro hb0
 ·try simp only[aQ]at hb0
  have hkL:k<5:=by omega
  have hy:=mD hz (show k<L.length by omega);have hge:(L.drop 1).getD (k-1) []=L.getD k []:=by rw[List.getD_eq_getElem?_getD,List.getD_eq_getElem?_getD,List.getElem?_drop,show 1+(k-1)=k by omega]
  refine an (aa (au (aa ?_)));have t1:=(l9 (L.getD k []) hy);refine aL X4 [] [(21,⟨false,bq t1⟩)] [0,1,5,6,7,8] [] rfl (by(with_reducible and_intros)<;>first|exact⟨⟩|exact t1| (intros;omega)) (aa (aq X4 [0,1,5,6,7,25] rfl ?_));refine aj rfl ?_ ?_<;>intro aV
  ·have hO:YH x (L.drop 1)=(x,none):=if_neg (by rw[G8 (j:=k-1) (by omega) (by rw[hge];simpa using aV)];decide);exact aq X4 [4] rfl (ak (aS rfl (by and_intros<;>first|exact⟨⟩| (rw[hO]<;>rfl;done))))
  ·have hst:=LA (M:=(L.drop 1)) (j:=k-1) (by omega);rw[hge,show k-1+1=k+1-1 by omega]at hst;refine an (aL X4 [(29,9)] [] [0,1,5,6] [] rfl (by and_intros<;>first|exact⟨⟩|exact rfl| (simp only[dN,maxLen,lens];omega)) (bg X4 [0,1,5,6] rfl ?_));refine⟨k+1,⟨by omega,by omega,by rw[show k+1-1=k-1+1 by omega];exact U3 (by omega) hall (by rw[hge];simpa using aV)⟩,by omega,?_⟩;rw[bh _ k rfl (by omega), ←hst];try rfl
 ·try simp only[aQ]at hb0
  obtain⟨lJ,hN⟩:=Pu (M:=(L.drop 1)) (j:=k-1) (by omega) hall;rw[hN];have hN4:((L.drop 1).map cu).length=4:=by rw[List.length_map];exact hML
  have hO:YH x (L.drop 1)=nwO (((L.drop 1).map cu).getD 0 0) (((L.drop 1).map cu).getD 1 0) (((L.drop 1).map cu).getD 2 0) (((L.drop 1).map cu).getD 3 0):=if_pos lJ;refine aI (aa (aF X4 [(43,280)] [(43,⟨true,[.agg (aN (Nq (((L.drop 1).map cu).getD 0 0) (((L.drop 1).map cu).getD 1 0) (((L.drop 1).map cu).getD 2 0) (((L.drop 1).map cu).getD 3 0)))]⟩)] [0] [] 32767 0 MO (by kernel_rfl) rfl (by kernel_rfl) (by(with_reducible and_intros)<;>first|exact⟨⟩|exact(wG _ _ _ _)| (intros;omega)) (cx 281 261 rfl (cx 282 262 rfl (cx 284 264 rfl (cx 288 268 rfl (aa ?_)))))));have t1:=(bV (Nq (((L.drop 1).map cu).getD 0 0) (((L.drop 1).map cu).getD 1 0) (((L.drop 1).map cu).getD 2 0) (((L.drop 1).map cu).getD 3 0)));have t2:=(Ai (okW (Nq (((L.drop 1).map cu).getD 0 0) (((L.drop 1).map cu).getD 1 0) (((L.drop 1).map cu).getD 2 0) (((L.drop 1).map cu).getD 3 0))));exact aL X4 [] [(48,⟨false,bq t1⟩),(49,⟨false,bq t2⟩)] [4] [] rfl (by(with_reducible and_intros);(iterate 2 all_goals try first|exact⟨⟩|exact t1|exact t2)) (ak (aS rfl (by and_intros<;>first|exact⟨⟩| (rw[hO]<;>rfl;done))))
end
section
set_option maxRecDepth 100000
theorem sS(x:aW)(n:Nat)(s:List UInt8)(l:List Int)(Aq:JW x n∧n≤10000)(hl:l.length≤1048576)(hp: ∀y,y∈l→0≤y):ff ty Tryz.prog 32 (hW x) [.a (.ptr 1000 0), .a (.lit (.string (aX s))), .a (.sl .int l)] (hW (iD x s l).1) [.a (.lit (.string ((iD x s l).2.getD ⟨#[]⟩))),aH (iD x s l).2.isSome]:=by
 refine cY X4 call32 func32 rfl rfl (by decide) ntmps32 (by simp) rfl ?_;intro zb;obtain⟨hJ,hn⟩:=Aq;have hC:=gM hJ.C (show 8*n≤4100000 by omega);have hF:=hJ.F (by omega);have hR:=hJ.R (by omega);have hdl:x.af.length≤1048576:=by have:=hF.dv;omega
 refine aq X4 [0,1,2] rfl (aa (au (aq X4 [0,1,2,10] rfl ?_)));refine aj rfl ?_ ?_<;>intro hb0
 ·have QN:s= [110,101,119]∧l.length=4:=⟨fj (sL hb0).1,by have h:=uR.1 (sL hb0).2;omega⟩;have hl4:=QN.2;have hO:iD x s l=nwO (l.getD 0 0) (l.getD 1 0) (l.getD 2 0) (l.getD 3 0):=if_pos QN;refine aa (aF X4 [(31,280)] [(31,⟨true,[.agg (aN (Nq (l.getD 0 0) (l.getD 1 0) (l.getD 2 0) (l.getD 3 0)))]⟩)] [0] [] 65535 0 MO (by kernel_rfl) rfl (by kernel_rfl) (by(with_reducible and_intros)<;>first|exact⟨⟩|exact(wF _ _ _ _)| (intros;omega)) (cx 281 261 rfl (cx 282 262 rfl (cx 284 264 rfl (cx 288 268 rfl (aa ?_))))));have t1:=(bQ (Nq (l.getD 0 0) (l.getD 1 0) (l.getD 2 0) (l.getD 3 0)));have t2:=(Cn (okW (Nq (l.getD 0 0) (l.getD 1 0) (l.getD 2 0) (l.getD 3 0))));exact aL X4 [] [(38,⟨false,bq t1⟩),(39,⟨false,bq t2⟩)] [6,7] [] rfl (by(with_reducible and_intros);(iterate 2 all_goals try first|exact⟨⟩|exact t1|exact t2)) (ak (aS rfl (by and_intros<;>first|exact⟨⟩| (rw[hO]<;>rfl;done))))
 ·have QN: ¬(s= [110,101,119]∧l.length=4):=fun h=>Nv hb0 ⟨Nw.2 h.1,uR.2 (by rw[h.2];rfl)⟩;refine aq X4 [0,1,2,40] rfl ?_;refine aj rfl ?_ ?_<;>intro aV
  ·have U9:s= [114,101,97,100]∧l.length=2:=⟨fj (sL aV).1,by have h:=uR.1 (sL aV).2;omega⟩;have lg:=U9.2;have hO:iD x s l=(x,some (Vu x (l.getD 0 0) (l.getD 1 0))):=by rw[iD,if_neg QN,if_pos U9]<;>rfl
   refine aa ?_;have t1:=(ry hJ (l.getD 0 0) (l.getD 1 0));refine aF X4 [] [(59,⟨false,bq t1⟩)] [8,9] [] 65535 0 MO (by kernel_rfl) rfl (by kernel_rfl) (by(with_reducible and_intros)<;>first|exact⟨⟩|exact t1| (intros;omega)) (aa (aq X4 [8,63] rfl ?_));refine aj rfl ?_ ?_<;>intro bI
   ·rw[YG (by simpa using bI)]at hO;exact aq X4 [6,7] rfl (ak (aS rfl (by and_intros<;>first|exact⟨⟩| (rw[hO]<;>rfl;done))))
   ·have Qy:=U2 (x:=x) (r:=(l.getD 0 0)) (row:=(l.getD 1 0)) (by simpa using bI);rw[Qy.2]at hO;rw[Qy.1];exact an (aC X4 [] [(65,⟨false,[.a (.lit (.string (lT (zo x (l.getD 0 0) (l.getD 1 0) 1))))]⟩)] [6,7] [] rfl (by(with_reducible and_intros)<;>first|exact⟨⟩|exact(Ao (zo x (l.getD 0 0) (l.getD 1 0) 1) (I1 ..))) (ak (aS rfl (by and_intros<;>first|exact⟨⟩| (rw[hO]<;>rfl;done)))))
  ·have U9: ¬(s= [114,101,97,100]∧l.length=2):=fun h=>Nv aV ⟨Nw.2 h.1,uR.2 (by rw[h.2];rfl)⟩;refine aq X4 [0,1,2,66] rfl ?_;refine aj rfl ?_ ?_<;>intro eE
   ·try simp only[aQ]at eE
    have hl1: ¬l.length=1:=by omega
    have hO:iD x s l=(x,none):=by rw[iD,if_neg QN,if_neg U9,if_neg hl1]<;>rfl
    exact aq X4 [6,7] rfl (ak (aS rfl (by and_intros<;>first|exact⟨⟩| (rw[hO]<;>rfl;done))))
   ·try simp only[aQ]at eE
    have hl1:l.length=1:=by omega
    have hgd:l.getD (Int.toNat 0) (aG .int)=l.getD 0 0:=rfl;have Vx:iD x s l=gq x s (l.getD 0 0):=by rw[iD,if_neg QN,if_neg U9,if_pos hl1]<;>rfl
    have hc:0≤(l.getD 0 0):=by rw[List.getD_eq_getElem?_getD,List.getElem?_eq_getElem (show 0<l.length by omega)];exact hp _ (List.getElem_mem _)
    refine an (aa (aq X4 [0,1,2,70] rfl (au (aq X4 [0,1,2,70,71] rfl ?_))));refine aj rfl ?_ ?_<;>intro kV
    ·have hw0:s= [99,114,97,115,104]:=fj kV;have hO:iD x s l=Ns x ⟨3,(l.getD 0 0),0,[]⟩:=by rw[Vx,gq,if_pos hw0]<;>rfl
     refine aa ?_;have t1:=(eG x (⟨3,(l.getD 0 0),0,[]⟩:Ev) hR (Nat.zero_le _));exact qZ X4 [] [(800078,⟨true,ji t1⟩),(700078,⟨true, .agg [.ptr 1000 1000, .ptr 261 261, .ptr 262 262, .ptr 264 264, .ptr 268 268]:: .agg []::jj t1⟩),(1200077,⟨true,[.agg (jQ ⟨3,(l.getD 0 0),0,[]⟩)]⟩)] [6,7] [] rfl (by(with_reducible and_intros)<;>first|exact⟨⟩|exact t1| (intros;omega)) (ak (aS rfl (by and_intros<;>first|exact⟨⟩| (rw[hO]<;>rfl;done))))
    ·have hw0:s≠ [99,114,97,115,104]:=iM kV;refine aq X4 [0,1,2,70,79] rfl ?_;refine aj rfl ?_ ?_<;>intro wX
     ·have hw1:s= [115,97,118,101]:=fj wX;have hO:iD x s l=Ns x ⟨5,(l.getD 0 0),0,[]⟩:=by rw[Vx,gq,if_neg hw0,if_pos hw1]<;>rfl
      refine aa ?_;have t1:=(eG x (⟨5,(l.getD 0 0),0,[]⟩:Ev) hR (Nat.zero_le _));exact qZ X4 [] [(800086,⟨true,ji t1⟩),(700086,⟨true, .agg [.ptr 1000 1000, .ptr 261 261, .ptr 262 262, .ptr 264 264, .ptr 268 268]:: .agg []::jj t1⟩),(1200085,⟨true,[.agg (jQ ⟨5,(l.getD 0 0),0,[]⟩)]⟩)] [6,7] [] rfl (by(with_reducible and_intros)<;>first|exact⟨⟩|exact t1| (intros;omega)) (ak (aS rfl (by and_intros<;>first|exact⟨⟩| (rw[hO]<;>rfl;done))))
     ·have hw1:s≠ [115,97,118,101]:=iM wX;refine aq X4 [0,1,2,70,87] rfl ?_;refine aj rfl ?_ ?_<;>intro Fc
      ·have jO:s= [114,111,117,110,100,115]:=fj Fc;have hO:iD x s l=rnO x (l.getD 0 0):=by rw[Vx,gq,if_neg hw0,if_neg hw1,if_pos jO]<;>rfl
       exact aa (aF X4 [(98,280)] [(98,⟨true,[.agg (aN (eo x (qW (fP (l.getD 0 0) 60))))]⟩)] [0] [] 4095 0 MO (by kernel_rfl) rfl (by kernel_rfl) (by(with_reducible and_intros)<;>first|exact⟨⟩|exact(pZ x (fP (l.getD 0 0) 60) hC)| (intros;omega)) (cx 281 261 rfl (cx 282 262 rfl (cx 284 264 rfl (cx 288 268 rfl (aC X4 [] [(105,⟨false,[.a (.lit (.string (p7 (eo x (qW (fP (l.getD 0 0) 60))))))]⟩)] [6,7] [] rfl (by(with_reducible and_intros)<;>first|exact⟨⟩|exact(gm (eo x (qW (fP (l.getD 0 0) 60))) (((hJ.rn hn (l.getD 0 0)).F (by omega)).rd) (((hJ.rn hn (l.getD 0 0)).F (by omega)).ca) ((hJ.rn hn (l.getD 0 0)).F (by omega)).re (by have:=((hJ.rn hn (l.getD 0 0)).F (by omega)).dv;omega) ((hJ.rn hn (l.getD 0 0)).F (by omega)).rl)) (ak (aS rfl (by and_intros<;>first|exact⟨⟩| (rw[hO]<;>rfl;done))))))))))
      ·have jO:s≠ [114,111,117,110,100,115]:=iM Fc;refine aa (aq X4 [0,1,2,70,106] rfl ?_);refine aj rfl ?_ ?_<;>intro hb7
       ·have rm:s= [99,108,105,101,110,116]:=fj hb7;refine an (aj rfl ?_ ?_)<;>intro XI
        ·refine aa (aa (aF X4 [] [(116,⟨false,[aH (fT x (l.getD 0 0))]⟩)] [0,1,2,117] [] 511 0 MO (by kernel_rfl) rfl (by kernel_rfl) (by(with_reducible and_intros)<;>first|exact⟨⟩|exact(dh x (l.getD 0 0))| (intros;omega)) ?_));refine aj rfl ?_ ?_<;>intro hb9
         ·have hge:(x.af.length:Int)≤(l.getD 0 0):=by(rcases Int.lt_or_le (l.getD 0 0) (x.af.length:Int)with h|h;exact absurd ((vM hdl).2 ⟨hc,h⟩) (by simpa using hb9);exact h)
          have hO:iD x s l=(x,some CT):=by rw[Vx,gq,if_neg hw0,if_neg hw1,if_neg jO,if_pos rm,QK,if_pos hge]<;>rfl
          exact aq X4 [6,7] rfl (ak (aS rfl (by and_intros<;>first|exact⟨⟩| (rw[hO]<;>rfl;done))))
         ·have aeX:(l.getD 0 0)<(x.af.length:Int):=((vM hdl).1 (by simpa using hb9)).2;have hO:iD x s l=(x,some (IV (x.af.getD (l.getD 0 0).toNat (aG .aZ)).live)):=by rw[Vx,gq,if_neg hw0,if_neg hw1,if_neg jO,if_pos rm,QK,if_neg (by omega)]<;>rfl
          have hlt:(l.getD 0 0).toNat<x.af.length:=by omega
          obtain⟨q1,q2,q3,q4⟩:=hF.cl _ hlt;refine an (aa (aq X4 [0,2,119] rfl ?_));refine aj rfl ?_ ?_<;>intro aaz
          ·have h9:s= [105,110,98,111,120]:=fj aaz;exact absurd (h9.symm.trans rm) (by decide)
          ·refine an (aa ?_);have t1:=(sQ ((x.af.getD (l.getD 0 0).toNat (aG .aZ)).live) q1 q2 q3 q4);exact aF X4 [] [(139,⟨false,bq t1⟩)] [6,7] [] 16383 0 MO (by kernel_rfl) rfl (by kernel_rfl) (by(with_reducible and_intros)<;>first|exact⟨⟩|exact t1| (intros;omega)) (ak (aS rfl (by and_intros<;>first|exact⟨⟩| (rw[hO]<;>rfl;done))))
        ·exact absurd (hb7.symm.trans XI) (by decide)
       ·have rm:s≠ [99,108,105,101,110,116]:=iM hb7;refine bg X4 [0,1,2,70,106] rfl ?_;refine aj rfl ?_ ?_<;>intro XI
        ·have CV:s= [105,110,98,111,120]:=fj XI;refine aa (aa (aF X4 [] [(116,⟨false,[aH (fT x (l.getD 0 0))]⟩)] [0,1,2,117] [] 511 0 MO (by kernel_rfl) rfl (by kernel_rfl) (by(with_reducible and_intros)<;>first|exact⟨⟩|exact(dh x (l.getD 0 0))| (intros;omega)) ?_));refine aj rfl ?_ ?_<;>intro hb9
         ·have hge:(x.af.length:Int)≤(l.getD 0 0):=by(rcases Int.lt_or_le (l.getD 0 0) (x.af.length:Int)with h|h;exact absurd ((vM hdl).2 ⟨hc,h⟩) (by simpa using hb9);exact h)
          have hO:iD x s l=(x,some CT):=by rw[Vx,gq,if_neg hw0,if_neg hw1,if_neg jO,if_neg rm,if_pos CV,QL,if_pos hge]<;>rfl
          exact aq X4 [6,7] rfl (ak (aS rfl (by and_intros<;>first|exact⟨⟩| (rw[hO]<;>rfl;done))))
         ·have aeX:(l.getD 0 0)<(x.af.length:Int):=((vM hdl).1 (by simpa using hb9)).2;have hO:iD x s l=(x,some (BG x (l.getD 0 0))):=by rw[Vx,gq,if_neg hw0,if_neg hw1,if_neg jO,if_neg rm,if_pos CV,QL,if_neg (by omega)]<;>rfl
          have hlt:(l.getD 0 0).toNat<x.af.length:=by omega
          obtain⟨q1,q2,q3,q4⟩:=hF.cl _ hlt;refine an (aa (aq X4 [0,2,119] rfl ?_));refine aj rfl ?_ ?_<;>intro aaz
          ·exact aa (aF X4 [] [(127,⟨false,[.a (.lit (.string (BG x (l.getD 0 0))))]⟩)] [6,7] [] 1023 0 MO (by kernel_rfl) rfl (by kernel_rfl) (by(with_reducible and_intros)<;>first|exact⟨⟩|exact(wu x (l.getD 0 0) hdl (hF.inb (l.getD 0 0)))| (intros;omega)) (ak (aS rfl (by and_intros<;>first|exact⟨⟩| (rw[hO]<;>rfl;done)))))
          ·exact absurd (XI.symm.trans aaz) (by decide)
        ·have CV:s≠ [105,110,98,111,120]:=iM XI;refine aq X4 [0,2,140] rfl ?_;refine aj rfl ?_ ?_<;>intro adb
         ·have I6:s= [115,101,114,118,101,114]:=fj adb;have LR:IntKind.i64.wrap ((x.az.length:Int)-1)=(x.az.length:Int)-1:=bO (by have:=hF.sv;omega);refine aa (aa ?_);have t1:=(aK (l.getD 0 0) 0 (IntKind.i64.wrap ((x.az.length:Int)-1)));refine aF X4 [] [(152,⟨false,bq t1⟩)] [0,2,153] [] 4095 0 MO (by kernel_rfl) rfl (by kernel_rfl) (by(with_reducible and_intros)<;>first|exact⟨⟩|exact t1| (intros;omega)) ?_;refine aj rfl ?_ ?_<;>intro XJ
          ·try simp only[aQ]at XJ
           rw[LR]at XJ;have hO:iD x s l=(x,some CT):=by rw[Vx,gq,if_neg hw0,if_neg hw1,if_neg jO,if_neg rm,if_neg CV,if_pos I6,QM,if_pos (by omega)]<;>rfl
           exact aq X4 [6,7] rfl (ak (aS rfl (by and_intros<;>first|exact⟨⟩| (rw[hO]<;>rfl;done))))
          ·try simp only[aQ]at XJ
           rw[LR]at XJ;have hO:iD x s l=(x,some (BI (x.az.getD (l.getD 0 0).toNat (aG .bp)))):=by rw[Vx,gq,if_neg hw0,if_neg hw1,if_neg jO,if_neg rm,if_neg CV,if_pos I6,QM,if_neg (by omega)]<;>rfl
           have hlt:(l.getD 0 0).toNat<x.az.length:=by omega
           obtain⟨q1,q2,q3⟩:=hF.se _ hlt;refine an (aa ?_);have t1:=(wz (x.az.getD (l.getD 0 0).toNat (aG .bp)) q1 q2 q3);exact aF X4 [] [(164,⟨false,bq t1⟩)] [6,7] [] 8191 0 MO (by kernel_rfl) rfl (by kernel_rfl) (by(with_reducible and_intros)<;>first|exact⟨⟩|exact t1| (intros;omega)) (ak (aS rfl (by and_intros<;>first|exact⟨⟩| (rw[hO]<;>rfl;done))))
         ·have I6:s≠ [115,101,114,118,101,114]:=iM adb;have hO:iD x s l=(x,none):=by rw[Vx,gq,if_neg hw0,if_neg hw1,if_neg jO,if_neg rm,if_neg CV,if_neg I6]<;>rfl
          exact an (aq X4 [6,7] rfl (ak (aS rfl (by and_intros<;>first|exact⟨⟩| (rw[hO]<;>rfl;done)))))
end
section
set_option maxRecDepth 100000
theorem va(x:aW)(n:Nat)(s:List UInt8)(Aq:JW x n∧n≤10000)(hs:s.length≤4000):ff ty Tryz.prog 11 (hW x) [.a (.ptr 1000 0), .a (.lit (.string (aX s)))] (hW (dZ x (bR 32 s)).1) [.a (.lit (.string (Vv (dZ x (bR 32 s)))))]:=by
 refine cY X4 call11 func11 rfl rfl (by decide) ntmps11 (by simp) rfl ?_;intro zb;obtain⟨hJ,hn⟩:=Aq;have hC:=gM hJ.C (show 8*n≤4100000 by omega);have hF:=hJ.F (by omega);have hR:=hJ.R (by omega);have hwp:=p8 32 s;have Yo:=kr 32 s;have hz:cE List.length (bR 32 s)≤1048576:=by omega
 refine aq X4 [0,1] rfl (aC X4 [] [(9,⟨true,[.a (.sl .str (bR 32 s))]⟩)] [0,1,5] [] rfl (by(with_reducible and_intros)<;>first|exact⟨⟩|exact(rP s 32 (by first|assumption|omega| (simp;done)| (simp;omega)))) (aa (au (aq X4 [0,1,5,10] rfl ?_))));refine aj rfl ?_ ?_<;>intro hb0
 ·try simp only[aQ]at hb0
  have h1:(bR 32 s).length=1:=by omega
  have hw:=Lw 32 h1;have hO:dZ x (bR 32 s)=dB x s:=by rw[hw]<;>rfl
  refine aa ?_;have t1:=(Fx x n s ⟨hJ,hn⟩);exact aL X4 [] [(800016,⟨true,ji t1⟩),(700016,⟨true, .agg [.ptr 1000 1000, .ptr 261 261, .ptr 262 262, .ptr 264 264, .ptr 268 268]:: .agg []::jj t1⟩)] [4] [] rfl (by(with_reducible and_intros)<;>first|exact⟨⟩|exact t1) (ak (aS rfl (by and_intros<;>first|exact⟨⟩| (rw[hO]<;>rfl;done))))
 ·try simp only[aQ]at hb0
  have h1: ¬(bR 32 s).length=1:=by omega
  refine aD X4 [0,5,17] rfl (And.intro (fun _=>(by(show(0:Int).toNat<(bR 32 s).length;omega))) (And.intro (fun _=>(by(show 0≤(0:Int)∧(0:Int)<((bR 32 s).length:Int);omega))) ⟨⟩)) ?_;refine aj rfl ?_ ?_<;>intro aV
  ·have h5:(bR 32 s).length=5:=by have h:=uR.1 (sL aV).1;omega
   have hO:dZ x (bR 32 s)=YH x ((bR 32 s).drop 1):=QO h5 (fj (sL aV).2);refine aa ?_;have t1:=(FV x n (bR 32 s) ⟨hJ,hn⟩ h5 hz);exact aL X4 [] [(800029,⟨true,ji t1⟩),(700029,⟨true, .agg [.ptr 1000 1000, .ptr 261 261, .ptr 262 262, .ptr 264 264, .ptr 268 268]:: .agg []::jj t1⟩)] [4] [] rfl (by(with_reducible and_intros)<;>first|exact⟨⟩|exact t1) (ak (aS rfl (by and_intros<;>first|exact⟨⟩| (rw[hO]<;>rfl;done))))
  ·have h5: ¬((bR 32 s).length=5∧((bR 32 s).getD 0 [])=lNew):=fun h=>Nv aV ⟨uR.2 (by rw[h.1];rfl),Nw.2 h.2⟩;refine aq X4 [0,5,30] rfl ?_;refine aj rfl ?_ ?_<;>intro bI
   ·try simp only[aQ]at bI
    have h23:(bR 32 s).length=2∨(bR 32 s).length=3:=by omega
    have hy1:=mD hz (show 1<(bR 32 s).length by omega);refine aa ?_;have t1:=(l9 ((bR 32 s).getD 1 []) hy1);refine aL X4 [] [(43,⟨false,bq t1⟩)] [0,5,6,7] [] rfl (by(with_reducible and_intros)<;>first|exact⟨⟩|exact t1| (intros;omega)) (aa (aq X4 [0,5,6,47] rfl ?_));refine aj rfl ?_ ?_<;>intro eE
    ·have hO:dZ x (bR 32 s)=(x,none):=mI h23 (by simpa using eE);exact aq X4 [4] rfl (ak (aS rfl (by and_intros<;>first|exact⟨⟩| (rw[hO]<;>rfl;done))))
    ·have eD:cS ((bR 32 s).getD 1 [])=true:=by simpa using eE
     refine an (aa (aq X4 [0,5,6,50] rfl ?_));refine aj rfl ?_ ?_<;>intro kV
     ·try simp only[aQ]at kV
      have h2:(bR 32 s).length=2:=by omega
      have hO:dZ x (bR 32 s)=gq x ((bR 32 s).getD 0 []) (cu ((bR 32 s).getD 1 [])):=Px h2 eD;refine aa ?_;have t1:=(FT x n ((bR 32 s).getD 0 []) (cu ((bR 32 s).getD 1 [])) ⟨hJ,hn⟩ (Ft _));exact aL X4 [] [(800056,⟨true,ji t1⟩),(700056,⟨true, .agg [.ptr 1000 1000, .ptr 261 261, .ptr 262 262, .ptr 264 264, .ptr 268 268]:: .agg []::jj t1⟩)] [4] [] rfl (by(with_reducible and_intros)<;>first|exact⟨⟩|exact t1| (intros;omega)) (ak (aS rfl (by and_intros<;>first|exact⟨⟩| (rw[hO]<;>rfl;done))))
     ·try simp only[aQ]at kV
      have h3:(bR 32 s).length=3:=by omega
      have Zk:=mD hz (show 2<(bR 32 s).length by omega);have hO:dZ x (bR 32 s)=ku x ((bR 32 s).getD 0 []) (cu ((bR 32 s).getD 1 [])) ((bR 32 s).getD 2 []):=vP h3 eD;refine an (aa ?_);have t1:=(FU x n ((bR 32 s).getD 0 []) (cu ((bR 32 s).getD 1 [])) ((bR 32 s).getD 2 []) ⟨hJ,hn⟩ Zk);exact aF X4 [] [(800065,⟨true,ji t1⟩),(700065,⟨true, .agg [.ptr 1000 1000, .ptr 261 261, .ptr 262 262, .ptr 264 264, .ptr 268 268]:: .agg []::jj t1⟩)] [4] [] 255 0 MO (by kernel_rfl) rfl (by kernel_rfl) (by(with_reducible and_intros)<;>first|exact⟨⟩|exact t1| (intros;omega)) (ak (aS rfl (by and_intros<;>first|exact⟨⟩| (rw[hO]<;>rfl;done))))
   ·try simp only[aQ]at bI
    have h23: ¬((bR 32 s).length=2∨(bR 32 s).length=3):=by omega
    have hO:dZ x (bR 32 s)=(x,none):=Va h1 h23 h5;exact an (aq X4 [4] rfl (ak (aS rfl (by and_intros<;>first|exact⟨⟩| (rw[hO]<;>rfl;done)))))
theorem nL(x:aW)(n:Nat)(L:List (List UInt8))(Aq:JW x n∧n≤10000)(h0:1≤L.length)(hz:cE List.length L≤1048576):ff ty Tryz.prog 13 (hW x) [.a (.ptr 1000 0), .a (.sl .str L)] (hW (dZ x L).1) [.a (.lit (.string ((dZ x L).2.getD ⟨#[]⟩))),aH (dZ x L).2.isSome]:=by
 refine cY X4 call13 func13 rfl rfl (by decide) ntmps13 (by simp) rfl ?_;intro zb;obtain⟨hJ,hn⟩:=Aq;have hC:=gM hJ.C (show 8*n≤4100000 by omega);have hF:=hJ.F (by omega);have hR:=hJ.R (by omega);have hLl:=uM L;refine aq X4 [0,1] rfl (aa (aq X4 [0,1,18] rfl ?_));refine aj rfl ?_ ?_<;>intro hb0
 ·try simp only[aQ]at hb0
  have h1:L.length=1:=by omega
  have hO:dZ x L=dB x (L.getD 0 []):=XK h1;refine aa ?_;have t1:=(uY x n (L.getD 0 []) ⟨hJ,hn⟩);exact aL X4 [] [(800023,⟨true,ji t1⟩),(700023,⟨true, .agg [.ptr 1000 1000, .ptr 261 261, .ptr 262 262, .ptr 264 264, .ptr 268 268]:: .agg []::jj t1⟩)] [4,5] [] rfl (by(with_reducible and_intros)<;>first|exact⟨⟩|exact t1| (intros;omega)) (ak (aS rfl (by and_intros<;>first|exact⟨⟩| (rw[hO]<;>rfl;done))))
 ·try simp only[aQ]at hb0
  have h1: ¬L.length=1:=by omega
  refine an (aa (aD X4 [0,1,40] rfl (And.intro (fun h=>(by(show 0≤(2:Int)∧(2:Int)<(L.length:Int);have h3:=uR.1 (sL (show(if((aX (L.getD 0 [])).toList==(⟨#[115,101,110,100]⟩:ByteArray).toList)=true then((L.length:Int)==3)else false)=true from h)).2;omega))) (And.intro (by(show 0≤(0:Int)∧(0:Int)<(L.length:Int);omega)) ⟨⟩)) ?_));refine aj rfl ?_ ?_<;>intro aV
  ·have hs0:(L.getD 0 [])=LF:=fj (sL (sL aV).1).1;have h3:L.length=3:=by have h:=uR.1 (sL (sL aV).1).2;omega
   have hs2:(L.getD 2 [])≠ []:=XE (sL aV).2;have hy1:=mD hz (show 1<L.length by omega);have Zk:=mD hz (show 2<L.length by omega);have hzt:({data:=(L.getD (Int.toNat 2) (aG Tag.str)).toArray}:ByteArray).size=(L.getD 2 []).length:=rfl;have ahq:(L.getD 2 []).length≤1048576:=Zk;refine aa ?_;have t1:=(l8 (L.getD 1 []) hy1);refine aL X4 [] [(45,⟨false,bq t1⟩)] [0,1,6,7] [] rfl (by(with_reducible and_intros)<;>first|exact⟨⟩|exact t1| (intros;omega)) (aa (aq X4 [0,1,6,49] rfl ?_));refine aj rfl ?_ ?_<;>intro bI
   ·have hO:dZ x L=(x,none):=mI (Or.inr h3) (by simpa using bI);exact aq X4 [4,5] rfl (ak (aS rfl (by and_intros<;>first|exact⟨⟩| (rw[hO]<;>rfl;done))))
   ·have eD:cS (L.getD 1 [])=true:=by simpa using bI
    have hO:dZ x L=Ns x ⟨2,cu (L.getD 1 []),0,(L.getD 2 [])⟩:=(vP h3 eD).trans (Vb hs0 hs2);refine an (aa ?_);have t1:=(eG x (⟨2,cu (L.getD 1 []),0,(L.getD 2 [])⟩:Ev) hR Zk);exact Pv X4 [] [(800057,⟨true,ji t1⟩),(700057,⟨true, .agg [.ptr 1000 1000, .ptr 261 261, .ptr 262 262, .ptr 264 264, .ptr 268 268]:: .agg []::jj t1⟩)] [4,5] 5 rfl (by(with_reducible and_intros)<;>first|exact⟨⟩|exact t1| (intros;omega)) (ak (aS rfl (by and_intros<;>first|exact⟨⟩| (rw[hO]<;>rfl;done))))
  ·have Z2: ¬((L.getD 0 [])=LF∧L.length=3∧(L.getD 2 [])≠ []):=fun h=>Nv aV ⟨show(if((aX (L.getD 0 [])).toList==(⟨#[115,101,110,100]⟩:ByteArray).toList)=true then((L.length:Int)==3)else false)=true by rw[if_pos (Nw.2 h.1)];exact uR.2 (by rw[h.2.1];rfl),ac5 h.2.2⟩;refine an (aa (aD X4 [0,1,66] rfl (And.intro (by(show 0≤(0:Int)∧(0:Int)<(L.length:Int);omega)) ⟨⟩) ?_));refine aj rfl ?_ ?_<;>intro eE
   ·have hc0:(L.getD 0 [])=G9:=fj (sL eE).1;have h3:L.length=3:=by have h:=uR.1 (sL eE).2;omega
    have hy1:=mD hz (show 1<L.length by omega);refine aa ?_;have t1:=(l8 (L.getD 1 []) hy1);refine aL X4 [] [(71,⟨false,bq t1⟩)] [0,1,8,9] [] rfl (by(with_reducible and_intros)<;>first|exact⟨⟩|exact t1| (intros;omega)) (aa (aF X4 [] [(74,⟨true,[.a (.sl .str names)]⟩),(78,⟨false,[aA (LV (L.getD 2 []))]⟩)] [0,8,9,10] [] 63 0 MO (by kernel_rfl) rfl (by kernel_rfl) (by(with_reducible and_intros);(iterate 2 all_goals try first|exact⟨⟩|exact(lS)|exact(uQ (L.getD 2 [])));all_goals first| (intros;omega)) (aa (aq X4 [0,8,10,84] rfl ?_))));refine aj rfl ?_ ?_<;>intro kV
    ·try simp only[aQ]at kV
     have hO:dZ x L=(x,none):=by(rcases kV with h|h<;>first|exact mI (Or.inr h3) h| (cases hp:cS (L.getD 1 [])with|false=>exact mI (Or.inr h3) hp|true=>rw[vP h3 hp,LG hc0 (by omega)]))
     exact aq X4 [4,5] rfl (ak (aS rfl (by and_intros<;>first|exact⟨⟩| (rw[hO]<;>rfl;done))))
    ·try simp only[aQ]at kV
     have eD:cS (L.getD 1 [])=true:=eq_true_of_ne_false kV.1;have Nf:0≤LV (L.getD 2 []):=kV.2;have hO:dZ x L=Ns x ⟨4,cu (L.getD 1 []),LV (L.getD 2 []),[]⟩:=(vP h3 eD).trans (Vc hc0 Nf);refine an (aa ?_);have t1:=(eG x (⟨4,cu (L.getD 1 []),LV (L.getD 2 []),[]⟩:Ev) hR (Nat.zero_le _));exact qZ X4 [] [(800089,⟨true,ji t1⟩),(700089,⟨true, .agg [.ptr 1000 1000, .ptr 261 261, .ptr 262 262, .ptr 264 264, .ptr 268 268]:: .agg []::jj t1⟩),(1200088,⟨true,[.agg (jQ ⟨4,cu (L.getD 1 []),LV (L.getD 2 []),[]⟩)]⟩)] [4,5] [] rfl (by(with_reducible and_intros)<;>first|exact⟨⟩|exact t1) (ak (aS rfl (by and_intros<;>first|exact⟨⟩| (rw[hO]<;>rfl;done))))
   ·have hcn: ¬((L.getD 0 [])=G9∧L.length=3):=fun h=>Nv eE ⟨Nw.2 h.1,uR.2 (by rw[h.2];rfl)⟩;refine an (aD X4 [0,1,11] rfl (by and_intros<;>first|exact⟨⟩|exact rfl) (aa (aD X4 [0,1,11,92,93,94] rfl (by and_intros<;>first|exact⟨⟩| (intros;omega)) ?_)));rw[show(L.take (L.length:Int).toNat).drop (1:Int).toNat=(L.drop 1)by rw[Int.toNat_natCast,List.take_length];rfl];refine au (aE (fun k=>k≤(L.drop 1).length∧((L.drop 1).take k).all cS=true) (fun k:Nat=> [(94, .one ((aA k)))]) (fun k=> [(90, .arr .int (XG (L.drop 1) k))]) (fun k=>(L.drop 1).length-k) 0 (fun k=>rfl) ⟨Nat.zero_le _,rfl⟩ rfl ?_);rintro k ⟨hk,hall⟩;have Yn:=Pt (M:=(L.drop 1)) (j:=k) hk;have hdl:(L.drop 1).length=L.length-1:=List.length_drop ..;refine aq X4 [0,1,11,92,93,94,95] rfl ?_;refine aa (aj rfl ?_ ?_)<;>intro wX
    ·try simp only[aQ]at wX
     have hgk:(L.drop 1).getD k []=L.getD (k+1) []:=by rw[List.getD_eq_getElem?_getD,List.getD_eq_getElem?_getD,List.getElem?_drop,Nat.add_comm]
     have hyk:=mD hz (show k+1<L.length by omega);have aeY:((L.drop 1).getD k []).length≤1048576:=by rw[hgk];exact hyk
     refine an (aa (au (aD X4 [0,1,11,13,92,93,94] rfl (by and_intros<;>first|exact⟨⟩| (intros;omega)) (aa ?_))));have t1:=(l8 ((L.drop 1).getD k []) aeY);refine aL X4 [] [(100,⟨false,bq t1⟩)] [0,1,11,14,15,92,93,94] [] rfl (by(with_reducible and_intros)<;>first|exact⟨⟩|exact t1) (aa (aq X4 [0,1,11,14,92,93,94,104] rfl ?_));refine aj rfl ?_ ?_<;>intro Fc
     ·have hO:dZ x L=(x,none):=Ny h1 h0 Z2 hcn (G8 (j:=k) (by omega) (by simpa using Fc));exact aq X4 [4,5] rfl (ak (aS rfl (by and_intros<;>first|exact⟨⟩| (rw[hO]<;>rfl;done))))
     ·have hst:=LA (M:=(L.drop 1)) (j:=k) (by omega);refine an (aL X4 [(108,90)] [] [0,1,11,92,93,94] [] rfl (by and_intros<;>first|exact⟨⟩|exact rfl| (simp only[dN,maxLen,lens];omega)) (bg X4 [0,1,11,92,93,94] rfl ?_));refine⟨k+1,⟨by omega,U3 (by omega) hall (by simpa using Fc)⟩,by omega,?_⟩;rw[bh _ k rfl (by omega), ←hst];try rfl
    ·try simp only[aQ]at wX
     obtain⟨lJ,hN⟩:=Pu (M:=(L.drop 1)) (j:=k) (by omega) hall;rw[hN]at Yn;rw[hN];have hO:dZ x L=iD x (L.getD 0 []) ((L.drop 1).map cu):=QS h1 h0 Z2 hcn lJ;refine aI (aa ?_);have t1:=(sS x n (L.getD 0 []) ((L.drop 1).map cu) ⟨hJ,hn⟩ (by omega) (fun y hy=>by obtain⟨a,_,rfl⟩:=List.mem_map.1 hy;exact Ft a));exact aL X4 [] [(800115,⟨true,ji t1⟩),(700115,⟨true, .agg [.ptr 1000 1000, .ptr 261 261, .ptr 262 262, .ptr 264 264, .ptr 268 268]:: .agg []::jj t1⟩)] [4,5] [] rfl (by(with_reducible and_intros)<;>first|exact⟨⟩|exact t1| (intros;omega)) (ak (aS rfl (by and_intros<;>first|exact⟨⟩| (rw[hO]<;>rfl;done))))
end
section
set_option maxRecDepth 100000
theorem BO(s:List UInt8)(hs:s.length≤1048576):So 6 [.a (.lit (.string (aX s)))] [.a (.lit (.string (runM s)))]:=by
 refine cw X4 call6 func6 rfl rfl (by decide) ntmps6 (by simp) ?_;intro zb;have hz:(aX s).size=s.length:=rfl;have hwp:=p8 10 s;have Yo:=kr 10 s;have aeZ:=uM (bR 10 s);have hw1:IntKind.i64.wrap (((bR 10 s).length:Int)-1)=((bR 10 s).length:Int)-1:=bO (by omega);have htn:(((bR 10 s).length:Int)-1).toNat=(bR 10 s).length-1:=by omega
 have ir:=Pz s;refine aq X4 [0] rfl (aC X4 [] [(11,⟨false,[.a (.sl .str (bR 10 s))]⟩)] [0,3] [] rfl (by(with_reducible and_intros)<;>first|exact⟨⟩|exact(l7 s 10 hs)) (aa (aD X4 [0,3,18] rfl (by and_intros<;>first|exact⟨⟩| (intros;omega)) ?_)));rw[hw1,htn];refine aj rfl ?_ ?_<;>intro hb0
 ·have hla:(bR 10 s).getD ((bR 10 s).length-1) []= []:=fj hb0;have hln:=Py hla;refine dy X4 [0,3] rfl (by and_intros<;>first|exact⟨⟩| (intros;omega)) ?_;rw[hw1,htn,show((bR 10 s).take ((bR 10 s).length-1)).drop (0:Int).toNat=bU s from hln.symm];refine aa (aq X4 [3,31] rfl ?_);refine aj rfl ?_ ?_<;>intro aV
  ·try simp only[aQ]at aV
   have Nz:=I8 (s:=s) (by omega);exact aq X4 [2] rfl (ak (ah rfl ⟨by rw[Nz];rfl,⟨⟩⟩))
  ·try simp only[aQ]at aV
   have Nz:=I9 (s:=s) (by omega);have h80:(bU s).length≤80:=by omega
   have h4k:s.length≤4000:=by omega
   refine an (aC X4 [(33,907)] [] [3,4] [] rfl ⟨⟩ (cm 907 1 261 .bp rfl (cm 907 2 262 .aZ rfl (cm 907 4 264 .aJ rfl (cm 907 8 268 .int rfl (aq X4 [3,4,5] rfl (aa (aq X4 [4,5,34,35,36] rfl ?_))))))));refine au (aE (fun k=>k≤(bU s).length) (fun k:Nat=> [(5, .one (.a (.lit (.string (iO (bU s) k).2)))),(36, .one ((aA k)))]) (fun k=> [(907, .box [cF (iO (bU s) k).1.rows, .own 261, .own 262,cF (iO (bU s) k).1.aB.rows, .own 264,cF (iO (bU s) k).1.bn,cF (iO (bU s) k).1.seed,cF (iO (bU s) k).1.round, .own 268,cF (iO (bU s) k).1.cancelled]),(261, .arr .bp (iO (bU s) k).1.az),(262, .arr .aZ (iO (bU s) k).1.af),(264, .arr .aJ (iO (bU s) k).1.aB.rounds),(268, .arr .int (iO (bU s) k).1.replaced)]) (fun k=>(bU s).length-k) 0 (fun k=>rfl) (Nat.zero_le _) rfl ?_);intro k hk;obtain⟨hJ,hsz⟩:=Fv (bU s) k (by omega);have Aq:60*k≤10000:=by omega
   unfold vO at hsz;refine aq X4 [4,5,34,35,36,37] rfl ?_;refine aa (aj rfl ?_ ?_)<;>intro bI
   ·try simp only[aQ]at bI
    refine an (aa (au (aD X4 [4,5,7,34,35,36] rfl (by and_intros<;>first|exact⟨⟩| (intros;omega)) (aa (aq X4 [4,5,7,34,35,36,41] rfl ?_)))));refine aj rfl ?_ ?_<;>intro eE
    ·have zK:=uO (L:=(bU s)) (k:=k) (fj eE);refine aI (bg X4 [4,5,34,35,36] rfl ?_);refine⟨k+1,by omega,by omega,?_⟩;rw[bh _ k rfl (by omega),zK];try rfl
    ·have zK:=uP (L:=(bU s)) (k:=k) (iM eE);have aaB:=p8 32 ((bU s).getD k []);have ae2:=kr 32 ((bU s).getD k []);have hel:=I7 (s:=s) (k:=k) (by omega);have hLO:=LO.line hJ Aq (bR 32 ((bU s).getD k []));have hlz:=Fu hLO;unfold vO at hlz;refine an (aa ?_);have t1:=(nL ((iO (bU s) k).1) (60*k) (bR 32 ((bU s).getD k [])) ⟨hJ,Aq⟩ aaB (by omega));refine aL X4 [] [(45,⟨false,[.a (.sl .str (bR 32 ((bU s).getD k [])))]⟩),(800046,⟨true,ji t1⟩),(700046,⟨true, .agg [.ptr 1000 907, .ptr 261 261, .ptr 262 262, .ptr 264 264, .ptr 268 268]:: .agg []::jj t1⟩)] [4,5,8,9,34,35,36] [] rfl (by(with_reducible and_intros);(iterate 2 all_goals try first|exact⟨⟩|exact(l7 ((bU s).getD k []) 32 (by omega))|exact t1)) (aa (aq X4 [4,5,8,34,35,36,50] rfl ?_));refine aj rfl ?_ ?_<;>intro kV
     ·have hlt:=LH (o:=(dZ (iO (bU s) k).1 (bR 32 ((bU s).getD k [])))) (by simpa using kV);refine bg X4 [4,5,8,34,35,36] rfl (dy X4 [4,5,34,35,36] rfl (by(with_reducible and_intros);(iterate 2 all_goals try first|exact⟨⟩|exact(by simp only[ByteArray.size_append,fM,fE];omega))) (bg X4 [4,5,34,35,36] rfl ?_));refine⟨k+1,by omega,by omega,?_⟩;rw[bh _ k rfl (by omega),zK,hlt];try rfl
     ·have hlt:=LI (o:=(dZ (iO (bU s) k).1 (bR 32 ((bU s).getD k [])))) (by simpa using kV);rw[hlt];refine an (dy X4 [4,5,34,35,36] rfl (by(with_reducible and_intros);(iterate 2 all_goals try first|exact⟨⟩|exact(by simp only[ByteArray.size_append,fM,fE];omega))) (bg X4 [4,5,34,35,36] rfl ?_));refine⟨k+1,by omega,by omega,?_⟩;rw[bh _ k rfl (by omega),zK];try rfl
   ·try simp only[aQ]at bI
    exact aI (aq X4 [2] rfl (ak (ah rfl ⟨by rw[Nz,show k=(bU s).length by omega],⟨⟩⟩)))
 ·have hla:(bR 10 s).getD ((bR 10 s).length-1) []≠ []:=iM hb0;have hln:=Vd hla;rw[←hln];refine an (aa (aq X4 [3,31] rfl ?_));refine aj rfl ?_ ?_<;>intro aV
  ·try simp only[aQ]at aV
   have Nz:=I8 (s:=s) (by omega);exact aq X4 [2] rfl (ak (ah rfl ⟨by rw[Nz];rfl,⟨⟩⟩))
  ·try simp only[aQ]at aV
   have Nz:=I9 (s:=s) (by omega);have h80:(bU s).length≤80:=by omega
   have h4k:s.length≤4000:=by omega
   refine an (aC X4 [(33,907)] [] [3,4] [] rfl ⟨⟩ (cm 907 1 261 .bp rfl (cm 907 2 262 .aZ rfl (cm 907 4 264 .aJ rfl (cm 907 8 268 .int rfl (aq X4 [3,4,5] rfl (aa (aq X4 [4,5,34,35,36] rfl ?_))))))));refine au (aE (fun k=>k≤(bU s).length) (fun k:Nat=> [(5, .one (.a (.lit (.string (iO (bU s) k).2)))),(36, .one ((aA k)))]) (fun k=> [(907, .box [cF (iO (bU s) k).1.rows, .own 261, .own 262,cF (iO (bU s) k).1.aB.rows, .own 264,cF (iO (bU s) k).1.bn,cF (iO (bU s) k).1.seed,cF (iO (bU s) k).1.round, .own 268,cF (iO (bU s) k).1.cancelled]),(261, .arr .bp (iO (bU s) k).1.az),(262, .arr .aZ (iO (bU s) k).1.af),(264, .arr .aJ (iO (bU s) k).1.aB.rounds),(268, .arr .int (iO (bU s) k).1.replaced)]) (fun k=>(bU s).length-k) 0 (fun k=>rfl) (Nat.zero_le _) rfl ?_);intro k hk;obtain⟨hJ,hsz⟩:=Fv (bU s) k (by omega);have Aq:60*k≤10000:=by omega
   unfold vO at hsz;refine aq X4 [4,5,34,35,36,37] rfl ?_;refine aa (aj rfl ?_ ?_)<;>intro bI
   ·try simp only[aQ]at bI
    refine an (aa (au (aD X4 [4,5,7,34,35,36] rfl (by and_intros<;>first|exact⟨⟩| (intros;omega)) (aa (aq X4 [4,5,7,34,35,36,41] rfl ?_)))));refine aj rfl ?_ ?_<;>intro eE
    ·have zK:=uO (L:=(bU s)) (k:=k) (fj eE);refine aI (bg X4 [4,5,34,35,36] rfl ?_);refine⟨k+1,by omega,by omega,?_⟩;rw[bh _ k rfl (by omega),zK];try rfl
    ·have zK:=uP (L:=(bU s)) (k:=k) (iM eE);have aaB:=p8 32 ((bU s).getD k []);have ae2:=kr 32 ((bU s).getD k []);have hel:=I7 (s:=s) (k:=k) (by omega);have hLO:=LO.line hJ Aq (bR 32 ((bU s).getD k []));have hlz:=Fu hLO;unfold vO at hlz;refine an (aa ?_);have t1:=(nL ((iO (bU s) k).1) (60*k) (bR 32 ((bU s).getD k [])) ⟨hJ,Aq⟩ aaB (by omega));refine aL X4 [] [(45,⟨false,[.a (.sl .str (bR 32 ((bU s).getD k [])))]⟩),(800046,⟨true,ji t1⟩),(700046,⟨true, .agg [.ptr 1000 907, .ptr 261 261, .ptr 262 262, .ptr 264 264, .ptr 268 268]:: .agg []::jj t1⟩)] [4,5,8,9,34,35,36] [] rfl (by(with_reducible and_intros);(iterate 2 all_goals try first|exact⟨⟩|exact(l7 ((bU s).getD k []) 32 (by omega))|exact t1)) (aa (aq X4 [4,5,8,34,35,36,50] rfl ?_));refine aj rfl ?_ ?_<;>intro kV
     ·have hlt:=LH (o:=(dZ (iO (bU s) k).1 (bR 32 ((bU s).getD k [])))) (by simpa using kV);refine bg X4 [4,5,8,34,35,36] rfl (dy X4 [4,5,34,35,36] rfl (by(with_reducible and_intros);(iterate 2 all_goals try first|exact⟨⟩|exact(by simp only[ByteArray.size_append,fM,fE];omega))) (bg X4 [4,5,34,35,36] rfl ?_));refine⟨k+1,by omega,by omega,?_⟩;rw[bh _ k rfl (by omega),zK,hlt];try rfl
     ·have hlt:=LI (o:=(dZ (iO (bU s) k).1 (bR 32 ((bU s).getD k [])))) (by simpa using kV);rw[hlt];refine an (dy X4 [4,5,34,35,36] rfl (by(with_reducible and_intros);(iterate 2 all_goals try first|exact⟨⟩|exact(by simp only[ByteArray.size_append,fM,fE];omega))) (bg X4 [4,5,34,35,36] rfl ?_));refine⟨k+1,by omega,by omega,?_⟩;rw[bh _ k rfl (by omega),zK];try rfl
   ·try simp only[aQ]at bI
    exact aI (aq X4 [2] rfl (ak (ah rfl ⟨by rw[Nz,show k=(bU s).length by omega],⟨⟩⟩)))
theorem BP(s:List UInt8)(hs:s.length≤1048576):So 5 [.a (.lit (.string (aX s)))] [.a (.lit (.string (runM s)))]:=by
 refine cw X4 call5 func5 rfl rfl (by decide) ntmps5 (by simp) ?_;intro zb;have hz:(aX s).size=s.length:=rfl;have hwp:=p8 10 s;have Yo:=kr 10 s;have aeZ:=uM (bR 10 s);have hw1:IntKind.i64.wrap (((bR 10 s).length:Int)-1)=((bR 10 s).length:Int)-1:=bO (by omega);have htn:(((bR 10 s).length:Int)-1).toNat=(bR 10 s).length-1:=by omega
 have ir:=Pz s;refine aq X4 [0] rfl (aC X4 [] [(9,⟨false,[.a (.sl .str (bR 10 s))]⟩)] [0,3] [] rfl (by(with_reducible and_intros)<;>first|exact⟨⟩|exact(rP s 10 (by first|assumption|omega| (simp;done)| (simp;omega)))) (aa (aD X4 [0,3,16] rfl (by and_intros<;>first|exact⟨⟩| (intros;omega)) ?_)));rw[hw1,htn];refine aj rfl ?_ ?_<;>intro hb0
 ·have hla:(bR 10 s).getD ((bR 10 s).length-1) []= []:=fj hb0;have hln:=Py hla;refine dy X4 [0,3] rfl (by and_intros<;>first|exact⟨⟩| (intros;omega)) ?_;rw[hw1,htn,show((bR 10 s).take ((bR 10 s).length-1)).drop (0:Int).toNat=bU s from hln.symm];refine aa (aq X4 [3,29] rfl ?_);refine aj rfl ?_ ?_<;>intro aV
  ·try simp only[aQ]at aV
   have Nz:=I8 (s:=s) (by omega);exact aq X4 [2] rfl (ak (ah rfl ⟨by rw[Nz];rfl,⟨⟩⟩))
  ·try simp only[aQ]at aV
   have Nz:=I9 (s:=s) (by omega);have h80:(bU s).length≤80:=by omega
   have h4k:s.length≤4000:=by omega
   refine an (aC X4 [(31,907)] [] [3,4] [] rfl ⟨⟩ (cm 907 1 261 .bp rfl (cm 907 2 262 .aZ rfl (cm 907 4 264 .aJ rfl (cm 907 8 268 .int rfl (aq X4 [3,4,5] rfl (aa (aq X4 [3,4,5,6] rfl ?_))))))));refine au (aE (fun k=>k≤(bU s).length) (fun k:Nat=> [(5, .one (.a (.lit (.string (iO (bU s) k).2)))),(6, .one ((aA k)))]) (fun k=> [(907, .box [cF (iO (bU s) k).1.rows, .own 261, .own 262,cF (iO (bU s) k).1.aB.rows, .own 264,cF (iO (bU s) k).1.bn,cF (iO (bU s) k).1.seed,cF (iO (bU s) k).1.round, .own 268,cF (iO (bU s) k).1.cancelled]),(261, .arr .bp (iO (bU s) k).1.az),(262, .arr .aZ (iO (bU s) k).1.af),(264, .arr .aJ (iO (bU s) k).1.aB.rounds),(268, .arr .int (iO (bU s) k).1.replaced)]) (fun k=>(bU s).length-k) 0 (fun k=>rfl) (Nat.zero_le _) rfl ?_);intro k hk;obtain⟨hJ,hsz⟩:=Fv (bU s) k (by omega);have Aq:60*k≤10000:=by omega
   unfold vO at hsz;refine aa (aq X4 [3,4,5,6,35] rfl ?_);refine aj rfl ?_ ?_<;>intro bI
   ·try simp only[aQ]at bI
    refine an (aa (au (aD X4 [3,4,5,6,42] rfl (by and_intros<;>first|exact⟨⟩| (intros;omega)) ?_)));refine aj rfl ?_ ?_<;>intro eE
    ·have zK:=uP (L:=(bU s)) (k:=k) (XE eE);have hel:=I7 (s:=s) (k:=k) (by omega);have hLO:=LO.line hJ Aq (bR 32 ((bU s).getD k []));have hlz:=Fu hLO;unfold vO at hlz;refine aa ?_;have t1:=(va ((iO (bU s) k).1) (60*k) ((bU s).getD k []) ⟨hJ,Aq⟩ (by omega));refine aL X4 [] [(800048,⟨true,ji t1⟩),(700048,⟨true, .agg [.ptr 1000 907, .ptr 261 261, .ptr 262 262, .ptr 264 264, .ptr 268 268]:: .agg []::jj t1⟩)] [3,4,5,6,7] [] rfl (by(with_reducible and_intros)<;>first|exact⟨⟩|exact t1| (intros;omega)) (dy X4 [3,4,5,6] rfl (by(with_reducible and_intros);(iterate 2 all_goals try first|exact⟨⟩|exact(by simp only[ByteArray.size_append,fM,fE];omega))) (bg X4 [3,4,5,6] rfl ?_));refine⟨k+1,by omega,by omega,?_⟩;rw[bh _ k rfl (by omega),zK, ←ByteArray.append_assoc];try rfl
    ·rw[Bool.not_eq_false']at eE;have zK:=uO (L:=(bU s)) (k:=k) (fj eE);refine an (bg X4 [3,4,5,6] rfl ?_);refine⟨k+1,by omega,by omega,?_⟩;rw[bh _ k rfl (by omega),zK];try rfl
   ·try simp only[aQ]at bI
    exact aI (aq X4 [2] rfl (ak (ah rfl ⟨by rw[Nz,show k=(bU s).length by omega],⟨⟩⟩)))
 ·have hla:(bR 10 s).getD ((bR 10 s).length-1) []≠ []:=iM hb0;have hln:=Vd hla;rw[←hln];refine an (aa (aq X4 [3,29] rfl ?_));refine aj rfl ?_ ?_<;>intro aV
  ·try simp only[aQ]at aV
   have Nz:=I8 (s:=s) (by omega);exact aq X4 [2] rfl (ak (ah rfl ⟨by rw[Nz];rfl,⟨⟩⟩))
  ·try simp only[aQ]at aV
   have Nz:=I9 (s:=s) (by omega);have h80:(bU s).length≤80:=by omega
   have h4k:s.length≤4000:=by omega
   refine an (aC X4 [(31,907)] [] [3,4] [] rfl ⟨⟩ (cm 907 1 261 .bp rfl (cm 907 2 262 .aZ rfl (cm 907 4 264 .aJ rfl (cm 907 8 268 .int rfl (aq X4 [3,4,5] rfl (aa (aq X4 [3,4,5,6] rfl ?_))))))));refine au (aE (fun k=>k≤(bU s).length) (fun k:Nat=> [(5, .one (.a (.lit (.string (iO (bU s) k).2)))),(6, .one ((aA k)))]) (fun k=> [(907, .box [cF (iO (bU s) k).1.rows, .own 261, .own 262,cF (iO (bU s) k).1.aB.rows, .own 264,cF (iO (bU s) k).1.bn,cF (iO (bU s) k).1.seed,cF (iO (bU s) k).1.round, .own 268,cF (iO (bU s) k).1.cancelled]),(261, .arr .bp (iO (bU s) k).1.az),(262, .arr .aZ (iO (bU s) k).1.af),(264, .arr .aJ (iO (bU s) k).1.aB.rounds),(268, .arr .int (iO (bU s) k).1.replaced)]) (fun k=>(bU s).length-k) 0 (fun k=>rfl) (Nat.zero_le _) rfl ?_);intro k hk;obtain⟨hJ,hsz⟩:=Fv (bU s) k (by omega);have Aq:60*k≤10000:=by omega
   unfold vO at hsz;refine aa (aq X4 [3,4,5,6,35] rfl ?_);refine aj rfl ?_ ?_<;>intro bI
   ·try simp only[aQ]at bI
    refine an (aa (au (aD X4 [3,4,5,6,42] rfl (by and_intros<;>first|exact⟨⟩| (intros;omega)) ?_)));refine aj rfl ?_ ?_<;>intro eE
    ·have zK:=uP (L:=(bU s)) (k:=k) (XE eE);have hel:=I7 (s:=s) (k:=k) (by omega);have hLO:=LO.line hJ Aq (bR 32 ((bU s).getD k []));have hlz:=Fu hLO;unfold vO at hlz;refine aa ?_;have t1:=(va ((iO (bU s) k).1) (60*k) ((bU s).getD k []) ⟨hJ,Aq⟩ (by omega));refine aL X4 [] [(800048,⟨true,ji t1⟩),(700048,⟨true, .agg [.ptr 1000 907, .ptr 261 261, .ptr 262 262, .ptr 264 264, .ptr 268 268]:: .agg []::jj t1⟩)] [3,4,5,6,7] [] rfl (by(with_reducible and_intros)<;>first|exact⟨⟩|exact t1| (intros;omega)) (dy X4 [3,4,5,6] rfl (by(with_reducible and_intros);(iterate 2 all_goals try first|exact⟨⟩|exact(by simp only[ByteArray.size_append,fM,fE];omega))) (bg X4 [3,4,5,6] rfl ?_));refine⟨k+1,by omega,by omega,?_⟩;rw[bh _ k rfl (by omega),zK, ←ByteArray.append_assoc];try rfl
    ·rw[Bool.not_eq_false']at eE;have zK:=uO (L:=(bU s)) (k:=k) (fj eE);refine an (bg X4 [3,4,5,6] rfl ?_);refine⟨k+1,by omega,by omega,?_⟩;rw[bh _ k rfl (by omega),zK];try rfl
   ·try simp only[aQ]at bI
    exact aI (aq X4 [2] rfl (ak (ah rfl ⟨by rw[Nz,show k=(bU s).length by omega],⟨⟩⟩)))
end
section
set_option maxRecDepth 100000
theorem yc(x0:List UInt8):So 3 [.a (.lit (.string (aX x0)))] [aH true]:=by
 refine cw X4 call3 func3 rfl rfl (by decide) ntmps3 (by simp) ?_;intro zb;have hz:(aX x0).size=x0.length:=rfl;refine aq X4 [0] rfl (aa (aq X4 [0,7] rfl ?_));refine aj rfl ?_ ?_<;>intro hb0
 ·try simp only[aQ]at hb0
  exact aq X4 [2] rfl (ak (ah rfl ⟨rfl,⟨⟩⟩))
 ·try simp only[aQ]at hb0
  refine an (aC X4 [] [(9,⟨false,[.a (.lit (.string (runM x0)))]⟩)] [0,3] [] rfl (by(with_reducible and_intros)<;>first|exact⟨⟩|exact(BP x0 (by first|assumption|omega| (simp;done)| (simp;omega)))) (aC X4 [] [(11,⟨false,[.a (.lit (.string (runM x0)))]⟩)] [3,4] [] rfl (by(with_reducible and_intros)<;>first|exact⟨⟩|exact(BO x0 (by first|assumption|omega| (simp;done)| (simp;omega)))) (aa (aq X4 [14] rfl ?_))));refine aj rfl ?_ ?_<;>intro aV
  ·exact absurd aV (by simp)
  ·try simp only[aQ]at aV
   exact an (aq X4 [2] rfl (ak (ah rfl ⟨rfl,⟨⟩⟩)))
end
end Go.Proofs.YtaalpcnbbldlaaaGreatDoor.G
