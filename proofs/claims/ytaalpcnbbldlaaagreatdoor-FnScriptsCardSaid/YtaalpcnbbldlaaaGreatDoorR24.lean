/- Steps. -/
import Derived.Test.YtaalpcnbbldlaaaGreatDoorR22
import Derived.Test.YtaalpcnbbldlaaaGreatDoorR23
open And renaming intro→cL
open Go.IntKind renaming i64→af
open Go.Lib renaming itoa→bN
open Go.Proofs.Tryz renaming prog→aP
open List renaming getD_eq_getElem?_getD→aq,getElem?_drop→dc,length→aN,length_drop→cV
open Nat renaming zero_le→aY
namespace Go.Proofs.YtaalpcnbbldlaaaGreatDoor.G
set_option linter.all false
open Go.RowKit L D Tryz
section
variable(x:dF)
set_option maxRecDepth 100000
theorem kS(e:Ev)(hR:wR x)(hb:e.body.length≤1048576):jr ty aP 29 (hW x) [.a (.ptr 1000 0), .agg (sC e)] (hW (FL x e)) [.a (.lit (.string (F1 (vr x e))))]:=by
 refine ff X4 call29 func29 rfl rfl cO ntmps29 fI rfl ?_;intro zb;exact bS [0,3] J (aA (cu X4 [(13,280)] [(13,⟨true,[.agg (bC (FL x e)),aX (vr x e)]⟩)] [0,5,6] [] 3071 1 MO gq J gq (eY (Jy x e fj fj)) (iZ X4 [6] J gA (fM 281 261 rfl (fM 282 262 rfl (fM 284 264 rfl (fM 288 268 rfl (gE [(21,⟨false,[.a (.lit (.string (F1 (vr x e))))]⟩)] [4] J (eY (M3 (vr x e))) (au (bB J ⟨J,J,J,J,J,J,J,J,J,J,J,⟨⟩⟩))))))))))
theorem qW(e:Ev)(hR:wR x)(hb:e.body.length≤1048576):jr ty aP 49 (hW x) [.a (.ptr 1000 0), .agg (sC e)] (hW (FL x e)) [.a (.lit (.string (F1 (vr x e))))]:=by
 refine ff X4 call49 func49 rfl rfl cO ntmps49 fI rfl ?_;intro zb;exact bS [0,3] J (aA (cu X4 [(12,280)] [(12,⟨true,[.agg (bC (FL x e)),aX (vr x e)]⟩)] [0,5,6] [] 1535 1 MO gq J gq (eY (Jz x e fj fj)) (iZ X4 [6] J gA (fM 281 261 rfl (fM 282 262 rfl (fM 284 264 rfl (fM 288 268 rfl (gE [(19,⟨false,[.a (.lit (.string (F1 (vr x e))))]⟩)] [4] J (eY (JU (vr x e))) (au (bB J ⟨J,J,J,J,J,J,J,J,J,J,J,⟨⟩⟩))))))))))
theorem zA(n:Nat)(c:Int)(J3:JW x n∧n≤10000):jr ty aP 36 (hW x) [.a (.ptr 1000 0),aI c] (hW (jC x (Ao (lW c 60)))) [.a (.lit (.string (yz (jC x (Ao (lW c 60))))))]:=by
 refine ff X4 call36 func36 rfl rfl cO ntmps36 fI rfl ?_;intro zb;obtain⟨hJ,hn⟩:=J3;have hC:=oG hJ.C (show 8*n≤4100000 by omega);have hF:=hJ.F aJ;have hR:=hJ.R aJ;have hF2:=(hJ.rn hn c).F aJ;exact bS [0,1] J (aA (cu X4 [(11,280)] [(10,⟨false,[aI (lW c 60)]⟩),(11,⟨true,[.agg (bC (jC x (Ao (lW c 60))))]⟩)] [0] [] 255 0 MO gq J gq (qqu (QN c 60) (LF x (lW c 60) hC)) (fM 281 261 rfl (fM 282 262 rfl (fM 284 264 rfl (fM 288 268 rfl (gE [(16,⟨false,[.a (.lit (.string (yz (jC x (Ao (lW c 60))))))]⟩)] [4] J (eY (ym (jC x (Ao (lW c 60))) hF2.rd hF2.ca hF2.re (by have:=hF2.dv;omega) hF2.rl)) (au (bB J ⟨J,J,J,J,J,J,J,J,J,J,J,⟨⟩⟩)))))))))
theorem Re(n:Nat)(s:List UInt8)(J3:JW x n∧n≤10000):jr ty aP 21 (hW x) [.a (.ptr 1000 0), .a (.lit (.string (bG s)))] (hW (iC x s).1) [.a (.lit (.string (lnT (iC x s))))]:=by
 refine ff X4 call21 func21 rfl rfl cO ntmps21 fI rfl ?_;intro zb;obtain⟨hJ,hn⟩:=J3;have hC:=oG hJ.C (show 8*n≤4100000 by omega);have hF:=hJ.F aJ;have hR:=hJ.R aJ;refine bS [0,1] J (eL [0,5] J (aK (bS [0,5,6] J ?_)));refine aM J ?_ ?_<;>intro hb0
 ·have hw0:s= [114,111,117,110,100]:=l7 hb0;have hO:iC x s=((jC x (Ao (lW 1 60))),some (yz (jC x (Ao (lW 1 60))))):=by rw[iC,if_pos hw0]<;>rfl
  refine aA ?_;have t1:=(zA x n 1 ⟨hJ,hn⟩);exact eR [(800009,⟨true,iW t1⟩),(700009,⟨true, .agg [.ptr 1000 1000, .ptr 261 261, .ptr 262 262, .ptr 264 264, .ptr 268 268]:: .agg []::iX t1⟩)] [4] J qM (au (bB J sj))
 ·have hw0:s≠ [114,111,117,110,100]:=qv hb0;refine bS [0,5,10] J ?_;refine aM J ?_ ?_<;>intro cQ
  ·have hw1:s= [115,101,116,116,108,101]:=l7 cQ;have hO:iC x s=rnO x (yy x):=by rw[iC,if_neg hw0,if_pos hw1]<;>rfl
   refine aA ?_;have t1:=(zA x n (yy x) ⟨hJ,hn⟩);exact eR [(16,⟨false,[aI (yy x)]⟩),(800017,⟨true,iW t1⟩),(700017,⟨true, .agg [.ptr 1000 1000, .ptr 261 261, .ptr 262 262, .ptr 264 264, .ptr 268 268]:: .agg []::iX t1⟩)] [4] J (Uv (FW x abv)) (au (bB J sj))
  ·have hw1:s≠ [115,101,116,116,108,101]:=qv cQ;refine bS [0,5,18] J ?_;refine aM J ?_ ?_<;>intro fu
   ·have sA:s= [97,114,99,104,105,118,101]:=l7 fu;have hO:iC x s=(x,some (LY x.aH)):=by rw[iC,if_neg hw0,if_neg hw1,if_pos sA]<;>rfl
    exact gE [(24,⟨false,[.a (.lit (.string (LY x.aH)))]⟩)] [4] J (eY (Eu x.aH hF.ar hF.ay hF.al)) (au (bB J sj))
   ·have sA:s≠ [97,114,99,104,105,118,101]:=qv fu;refine bS [0,5,25] J ?_;refine aM J ?_ ?_<;>intro n9
    ·have BI:s= [119,111,114,108,100]:=l7 n9;have hO:iC x s=(x,some (yz x)):=by rw[iC,if_neg hw0,if_neg hw1,if_neg sA,if_pos BI]<;>rfl
     exact gE [(30,⟨false,[.a (.lit (.string (yz x)))]⟩)] [4] J (eY (ym x hF.rd hF.ca hF.re abv hF.rl)) (au (bB J sj))
    ·have BI:s≠ [119,111,114,108,100]:=qv n9;refine bS [0,5,31] J ?_;refine aM J ?_ ?_<;>intro xI
     ·have NL:s= [116,114,97,102,102,105,99]:=l7 xI;have hO:iC x s=(x,some (bG (bN (F2 (LZ x) (LZ x).length)))):=by rw[iC,if_neg hw0,if_neg hw1,if_neg sA,if_neg BI,if_pos NL]<;>rfl
      exact gE [(36,⟨false,[.a (.sl .lV (LZ x))]⟩),(37,⟨false,[aI (F2 (LZ x) (LZ x).length)]⟩),(38,⟨false,[.a (.lit (.string (bG (bN (F2 (LZ x) (LZ x).length)))))]⟩)] [4] J (by(with_reducible and_intros);(iterate 3 all_goals try first|exact⟨⟩|exact(CN x)|exact(JX (LZ x))|exact(bF (F2 (LZ x) (LZ x).length) (WD _ _)))) (au (bB J sj))
     ·have NL:s≠ [116,114,97,102,102,105,99]:=qv xI;refine bS [0,5,39] J ?_;refine aM J ?_ ?_<;>intro MT
      ·have WI:s= [97,117,100,105,116]:=l7 MT;have hO:iC x s=(x,some (Ax (wD x))):=by rw[iC,if_neg hw0,if_neg hw1,if_neg sA,if_neg BI,if_neg NL,if_pos WI]<;>rfl
       exact gE [(44,⟨false,[aX (wD x)]⟩),(45,⟨false,[.a (.lit (.string (Ax (wD x))))]⟩)] [4] J (qqu (I2 x hF.sz) (Gt (wD x))) (au (bB J sj))
      ·have WI:s≠ [97,117,100,105,116]:=qv MT;refine bS [0,46] J ?_;refine aM J ?_ ?_<;>intro Oh
       ·have hw6:s= [113,117,105,101,116]:=l7 Oh;have hO:iC x s=(x,some (Ax (vK x))):=by rw[iC,if_neg hw0,if_neg hw1,if_neg sA,if_neg BI,if_neg NL,if_neg WI,if_pos hw6]<;>rfl
        exact gE [(51,⟨false,[aX (vK x)]⟩),(52,⟨false,[.a (.lit (.string (Ax (vK x))))]⟩)] [4] J (qqu (QS x abv) (Gt (vK x))) (au (bB J sj))
       ·have hw6:s≠ [113,117,105,101,116]:=qv Oh;have hO:iC x s=(x,none):=by rw[iC,if_neg hw0,if_neg hw1,if_neg sA,if_neg BI,if_neg NL,if_neg WI,if_neg hw6]<;>rfl
        exact av (bS [4] J (au (bB J sj)))
theorem EH(n:Nat)(s:List UInt8)(J3:JW x n∧n≤10000):jr ty aP 27 (hW x) [.a (.ptr 1000 0), .a (.lit (.string (bG s)))] (hW (iC x s).1) [.a (.lit (.string ((iC x s).2.getD ⟨#[]⟩))),aX (iC x s).2.isSome]:=by
 refine ff X4 call27 func27 rfl rfl cO ntmps27 fI rfl ?_;intro zb;obtain⟨hJ,hn⟩:=J3;have hC:=oG hJ.C (show 8*n≤4100000 by omega);have hF:=hJ.F aJ;have hR:=hJ.R aJ;refine bS [0,1] J (eL [0,6] J (aK (bS [0,6,7] J ?_)));refine aM J ?_ ?_<;>intro hb0
 ·have hw0:s= [114,111,117,110,100]:=l7 hb0;have hO:iC x s=((jC x (Ao (lW 1 60))),some (yz (jC x (Ao (lW 1 60))))):=by rw[iC,if_pos hw0]<;>rfl
  have hev:FL x ⟨1,0,0,[]⟩=(jC x (Ao (lW 1 60))):=by unfold FL;rfl
  refine aA ?_;have t1:=(kS x (⟨1,0,0,[]⟩:Ev) hR (aY _));refine BG X4 [] [(800011,⟨true,iW t1⟩),(700011,⟨true, .agg [.ptr 1000 1000, .ptr 261 261, .ptr 262 262, .ptr 264 264, .ptr 268 268]:: .agg []::iX t1⟩),(1200010,⟨true,[.agg (sC ⟨1,0,0,[]⟩)]⟩)] [0] [] J qM ?_;rw[hev];exact gE [(16,⟨false,[.a (.lit (.string (yz (jC x (Ao (lW 1 60))))))]⟩)] [4,5] J (eY (nL (jC x (Ao (lW 1 60))) (((hJ.rn hn 1).F aJ).rd) (((hJ.rn hn 1).F aJ).ca) ((hJ.rn hn 1).F aJ).re (by have:=((hJ.rn hn 1).F aJ).dv;omega) ((hJ.rn hn 1).F aJ).rl)) (au (bB J sj))
 ·have hw0:s≠ [114,111,117,110,100]:=qv hb0;refine bS [0,6,17] J ?_;refine aM J ?_ ?_<;>intro cQ
  ·have hw1:s= [115,101,116,116,108,101]:=l7 cQ;have hO:iC x s=rnO x (yy x):=by rw[iC,if_neg hw0,if_pos hw1]<;>rfl
   exact aA (cu X4 [(30,280)] [(28,⟨false,[aI (yy x)]⟩),(30,⟨true,[.agg (bC (jC x (Ao (lW (yy x) 60))))]⟩)] [0] [] 16383 0 MO gq J gq (qqu (FV x abv) (Ap x (lW (yy x) 60) hC)) (fM 281 261 rfl (fM 282 262 rfl (fM 284 264 rfl (fM 288 268 rfl (gE [(37,⟨false,[.a (.lit (.string (yz (jC x (Ao (lW (yy x) 60))))))]⟩)] [4,5] J (eY (nL (jC x (Ao (lW (yy x) 60))) (((hJ.rn hn (yy x)).F aJ).rd) (((hJ.rn hn (yy x)).F aJ).ca) ((hJ.rn hn (yy x)).F aJ).re (by have:=((hJ.rn hn (yy x)).F aJ).dv;omega) ((hJ.rn hn (yy x)).F aJ).rl)) (au (bB J sj))))))))
  ·have hw1:s≠ [115,101,116,116,108,101]:=qv cQ;refine bS [0,6,38] J ?_;refine aM J ?_ ?_<;>intro fu
   ·have sA:s= [97,114,99,104,105,118,101]:=l7 fu;have hO:iC x s=(x,some (LY x.aH)):=by rw[iC,if_neg hw0,if_neg hw1,if_pos sA]<;>rfl
    exact gE [(45,⟨false,[.a (.lit (.string (LY x.aH)))]⟩)] [4,5] J (eY (Et x.aH hF.ar hF.ay hF.al)) (au (bB J sj))
   ·have sA:s≠ [97,114,99,104,105,118,101]:=qv fu;refine bS [0,6,46] J ?_;refine aM J ?_ ?_<;>intro n9
    ·have BI:s= [119,111,114,108,100]:=l7 n9;have hO:iC x s=(x,some (yz x)):=by rw[iC,if_neg hw0,if_neg hw1,if_neg sA,if_pos BI]<;>rfl
     exact gE [(52,⟨false,[.a (.lit (.string (yz x)))]⟩)] [4,5] J (eY (nL x hF.rd hF.ca hF.re abv hF.rl)) (au (bB J sj))
    ·have BI:s≠ [119,111,114,108,100]:=qv n9;refine bS [0,6,53] J ?_;refine aM J ?_ ?_<;>intro xI
     ·have NL:s= [116,114,97,102,102,105,99]:=l7 xI;have hO:iC x s=(x,some (bG (bN (F2 (LZ x) (LZ x).length)))):=by rw[iC,if_neg hw0,if_neg hw1,if_neg sA,if_neg BI,if_pos NL]<;>rfl
      exact gE [(59,⟨false,[.a (.sl .lV (LZ x))]⟩),(60,⟨false,[aI (F2 (LZ x) (LZ x).length)]⟩),(61,⟨false,[.a (.lit (.string (bG (bN (F2 (LZ x) (LZ x).length)))))]⟩)] [4,5] J (by(with_reducible and_intros);(iterate 3 all_goals try first|exact⟨⟩|exact(CL x)|exact(JV (LZ x))|exact(cK (F2 (LZ x) (LZ x).length) (WD _ _)))) (au (bB J sj))
     ·have NL:s≠ [116,114,97,102,102,105,99]:=qv xI;refine bS [0,6,62] J ?_;refine aM J ?_ ?_<;>intro MT
      ·have WI:s= [97,117,100,105,116]:=l7 MT;have hO:iC x s=(x,some (Ax (wD x))):=by rw[iC,if_neg hw0,if_neg hw1,if_neg sA,if_neg BI,if_neg NL,if_pos WI]<;>rfl
       exact gE [(68,⟨false,[aX (wD x)]⟩),(69,⟨false,[.a (.lit (.string (Ax (wD x))))]⟩)] [4,5] J (qqu (I1 x hF.sz) (JT (wD x))) (au (bB J sj))
      ·have WI:s≠ [97,117,100,105,116]:=qv MT;refine bS [0,70] J ?_;refine aM J ?_ ?_<;>intro Oh
       ·have hw6:s= [113,117,105,101,116]:=l7 Oh;have hO:iC x s=(x,some (Ax (vK x))):=by rw[iC,if_neg hw0,if_neg hw1,if_neg sA,if_neg BI,if_neg NL,if_neg WI,if_pos hw6]<;>rfl
        exact gE [(76,⟨false,[aX (vK x)]⟩),(77,⟨false,[.a (.lit (.string (Ax (vK x))))]⟩)] [4,5] J (qqu (QO x abv) (JT (vK x))) (au (bB J sj))
       ·have hw6:s≠ [113,117,105,101,116]:=qv Oh;have hO:iC x s=(x,none):=by rw[iC,if_neg hw0,if_neg hw1,if_neg sA,if_neg BI,if_neg NL,if_neg WI,if_neg hw6]<;>rfl
        exact av (bS [4,5] J (au (bB J sj)))
theorem CP(x:kf)(h1:vO x.id)(h2:vO x.gJ)(h6:vO x.sent)(h8:vO x.next):So 78 [.agg (dw x)] [.a (.lit (.string (Q4 x)))]:=by
 refine eU X4 call78 func78 rfl rfl cO ntmps78 fI ?_;intro zb;refine cj 0 4 rfl rfl (fun hl1=> ?_);refine cj 0 6 rfl rfl (fun uI=> ?_);have z1:=dO h1;have z2:=dO h2;have z3:=dO h6;have z4:=dO (n:=(x.aT.length:Int)) aJ;have z5:=dO (n:=(x.inbox.length:Int)) aJ;have z6:=dO h8;refine bS [1] J (aA ?_);have t1:=(cK ((x.aT.length:Nat):Int) fj);exact cT X4 [(5,⟨false,[.a (.lit (.string (bG (bN x.id))))]⟩),(9,⟨false,[.a (.lit (.string (bG (bN x.gJ))))]⟩),(14,⟨false,[.a (.lit (.string (bG (bN x.sent))))]⟩),(20,⟨false,cA t1⟩),(26,⟨false,[.a (.lit (.string (bG (bN ((x.inbox.length:Nat):Int)))))]⟩),(31,⟨false,[.a (.lit (.string (bG (bN x.next))))]⟩)] [2] 2147483647 rfl (aB9 (cK x.id fj) (cK x.gJ fj) (cK x.sent fj) (cK ((x.aT.length:Nat):Int) fj) (cK ((x.inbox.length:Nat):Int) fj) (cK x.next fj)) (au (aj J ⟨J,⟨⟩⟩))
theorem CQ(x:kf)(h1:vO x.id)(h2:vO x.gJ)(h6:vO x.sent)(h8:vO x.next):So 51 [.agg (dw x)] [.a (.lit (.string (Q4 x)))]:=by
 refine eU X4 call51 func51 rfl rfl cO ntmps51 fI ?_;intro zb;refine cj 0 4 rfl rfl (fun hl1=> ?_);refine cj 0 6 rfl rfl (fun uI=> ?_);have z1:=dO h1;have z2:=dO h2;have z3:=dO h6;have z4:=dO (n:=(x.aT.length:Int)) aJ;have z5:=dO (n:=(x.inbox.length:Int)) aJ;have z6:=dO h8;refine bS [1] J (aA ?_);have t1:=(bF ((x.aT.length:Nat):Int) fj);exact cT X4 [(5,⟨false,[.a (.lit (.string (bG (bN x.id))))]⟩),(9,⟨false,[.a (.lit (.string (bG (bN x.gJ))))]⟩),(14,⟨false,[.a (.lit (.string (bG (bN x.sent))))]⟩),(20,⟨false,cA t1⟩),(26,⟨false,[.a (.lit (.string (bG (bN ((x.inbox.length:Nat):Int)))))]⟩),(31,⟨false,[.a (.lit (.string (bG (bN x.next))))]⟩)] [2] 2147483647 rfl (aB9 (bF x.id fj) (bF x.gJ fj) (bF x.sent fj) (bF ((x.aT.length:Nat):Int) fj) (bF ((x.inbox.length:Nat):Int) fj) (bF x.next fj)) (au (aj J ⟨J,⟨⟩⟩))
theorem SD(n:Nat)(s:List UInt8)(c:Int)(J3:JW x n∧n≤10000)(hc:0≤c):jr ty aP 24 (hW x) [.a (.ptr 1000 0), .a (.lit (.string (bG s))),aI c] (hW (mN x s c).1) [.a (.lit (.string (lnT (mN x s c))))]:=by
 refine ff X4 call24 func24 rfl rfl cO ntmps24 fI rfl ?_;intro zb;obtain⟨hJ,hn⟩:=J3;have hC:=oG hJ.C (show 8*n≤4100000 by omega);have hF:=hJ.F aJ;have hR:=hJ.R aJ;refine bS [0,1,2] J (eL [0,1,2,7] J (aK (bS [0,1,2,7,8] J ?_)));refine aM J ?_ ?_<;>intro hb0
 ·have hw0:s= [99,114,97,115,104]:=l7 hb0;have hO:mN x s c=ovO x ⟨3,c,0,[]⟩:=by rw[mN,if_pos hw0]<;>rfl
  refine aA ?_;have t1:=(qW x (⟨3,c,0,[]⟩:Ev) hR (aY _));exact BG X4 [] [(800013,⟨true,iW t1⟩),(700013,⟨true, .agg [.ptr 1000 1000, .ptr 261 261, .ptr 262 262, .ptr 264 264, .ptr 268 268]:: .agg []::iX t1⟩),(1200012,⟨true,[.agg (sC ⟨3,c,0,[]⟩)]⟩)] [6] [] J qM (au (bB J sj))
 ·have hw0:s≠ [99,114,97,115,104]:=qv hb0;refine bS [0,1,2,7,14] J ?_;refine aM J ?_ ?_<;>intro cQ
  ·have hw1:s= [115,97,118,101]:=l7 cQ;have hO:mN x s c=ovO x ⟨5,c,0,[]⟩:=by rw[mN,if_neg hw0,if_pos hw1]<;>rfl
   refine aA ?_;have t1:=(qW x (⟨5,c,0,[]⟩:Ev) hR (aY _));exact BG X4 [] [(800019,⟨true,iW t1⟩),(700019,⟨true, .agg [.ptr 1000 1000, .ptr 261 261, .ptr 262 262, .ptr 264 264, .ptr 268 268]:: .agg []::iX t1⟩),(1200018,⟨true,[.agg (sC ⟨5,c,0,[]⟩)]⟩)] [6] [] J qM (au (bB J sj))
  ·have hw1:s≠ [115,97,118,101]:=qv cQ;refine bS [0,1,2,7,20] J ?_;refine aM J ?_ ?_<;>intro fu
   ·have sA:s= [114,111,117,110,100,115]:=l7 fu;have hO:mN x s c=rnO x c:=by rw[mN,if_neg hw0,if_neg hw1,if_pos sA]<;>rfl
    refine aA ?_;have t1:=(zA x n c ⟨hJ,hn⟩);exact eR [(800024,⟨true,iW t1⟩),(700024,⟨true, .agg [.ptr 1000 1000, .ptr 261 261, .ptr 262 262, .ptr 264 264, .ptr 268 268]:: .agg []::iX t1⟩)] [6] J qM (au (bB J sj))
   ·have sA:s≠ [114,111,117,110,100,115]:=qv fu;refine eL [0,1,2,7,25] J ?_;refine aM J ?_ ?_<;>intro n9
    ·have BI:s= [99,108,105,101,110,116]:=l7 n9;refine av (aM J ?_ ?_)<;>intro xI
     ·refine aA (iZ X4 [0,1,2,34] J gA ?_);refine bD J ?_ ?_<;>intro MT
      ·have hO:mN x s c=(x,some JS):=by rw[mN,if_neg hw0,if_neg hw1,if_neg sA,if_pos BI,aaj,if_pos MT]<;>rfl
       exact bS [6] J (au (bB J sj))
      ·have hO:mN x s c=(x,some (Q4 (x.ah.getD c.toNat (aO .bR)).live)):=by rw[mN,if_neg hw0,if_neg hw1,if_neg sA,if_pos BI,aaj,if_neg aJ]<;>rfl
       have hlt:c.toNat<x.ah.length:=by omega
       obtain⟨q1,q2,q3,q4⟩:=hF.cl _ hlt;refine av (eL [0,2,36] J ?_);refine aM J ?_ ?_<;>intro Oh
       ·have h9:s= [105,110,98,111,120]:=l7 Oh;exact absurd (h9.symm.trans BI) cO
       ·exact av (gE [(50,⟨false,[.a (.lit (.string (Q4 ((x.ah.getD c.toNat (aO .bR)).live))))]⟩)] [6] J (OH (CQ ((x.ah.getD c.toNat (aO .bR)).live) q1 q2 q3 q4)) (au (bB J sj)))
     ·exact absurd (n9.symm.trans xI) cO
    ·have BI:s≠ [99,108,105,101,110,116]:=qv n9;refine mM X4 [0,1,2,7,25] J ?_;refine aM J ?_ ?_<;>intro xI
     ·have NL:s= [105,110,98,111,120]:=l7 xI;refine aA (iZ X4 [0,1,2,34] J gA ?_);refine bD J ?_ ?_<;>intro MT
      ·have hO:mN x s c=(x,some JS):=by rw[mN,if_neg hw0,if_neg hw1,if_neg sA,if_neg BI,if_pos NL,aak,if_pos MT]<;>rfl
       exact bS [6] J (au (bB J sj))
      ·have hO:mN x s c=(x,some (Hw x c)):=by rw[mN,if_neg hw0,if_neg hw1,if_neg sA,if_neg BI,if_pos NL,aak,if_neg aJ]<;>rfl
       refine av (eL [0,2,36] J ?_);refine aM J ?_ ?_<;>intro Oh
       ·exact gE [(41,⟨false,[.a (.lit (.string (Hw x c)))]⟩)] [6] J (eY (F5 x c abv (hF.inb c))) (au (bB J sj))
       ·exact absurd (xI.symm.trans Oh) cO
     ·have NL:s≠ [105,110,98,111,120]:=qv xI;refine bS [0,2,51] J ?_;refine aM J ?_ ?_<;>intro hb7
      ·have WI:s= [115,101,114,118,101,114]:=l7 hb7;refine aA (iZ X4 [0,2,59] J gA ?_);refine bD J ?_ ?_<;>intro hb8
       ·have hO:mN x s c=(x,some JS):=by rw[mN,if_neg hw0,if_neg hw1,if_neg sA,if_neg BI,if_neg NL,if_pos WI,aal,if_pos hb8]<;>rfl
        exact bS [6] J (au (bB J sj))
       ·have hO:mN x s c=(x,some (Hy (x.aC.getD c.toNat (aO .cH)))):=by rw[mN,if_neg hw0,if_neg hw1,if_neg sA,if_neg BI,if_neg NL,if_pos WI,aal,if_neg aJ]<;>rfl
        have hlt:c.toNat<x.aC.length:=by omega
        obtain⟨q1,q2,q3⟩:=hF.se _ hlt;exact av (gE [(67,⟨false,[.a (.lit (.string (Hy (x.aC.getD c.toNat (aO .cH)))))]⟩)] [6] J (OH (F0 (x.aC.getD c.toNat (aO .cH)) q1 q2 q3)) (au (bB J sj)))
      ·have WI:s≠ [115,101,114,118,101,114]:=qv hb7;have hO:mN x s c=(x,none):=by rw[mN,if_neg hw0,if_neg hw1,if_neg sA,if_neg BI,if_neg NL,if_neg WI]<;>rfl
       exact av (bS [6] J (au (bB J sj)))
theorem EI(r row q:Int)(hk:okW x=true):So 53 [.agg (bC x),aI r,aI row,aI q] [.a (.sl .u8 (FJ x r row q)),aX (Ah x r row q)]:=by
 refine eU X4 call53 func53 rfl rfl cO ntmps53 fI ?_;intro zb;refine bS [1,2,3,4] J (wu X4 [(11,⟨false,[aX (okW x)]⟩)] [1,2,3,4,12] J (eY (eG x)) ?_);refine aM J ?_ ?_<;>intro hb0
 ·exact absurd hb0 OJ
 ·exact av (gE [(18,⟨true,[.a (.sl .u8 (FJ x r row q)),aX (Ah x r row q)]⟩)] [8,9] J (eY (ya x r row q hk)) (au (aj J ⟨J,J,⟨⟩⟩)))
theorem BL{x:dF}{n:Nat}(hJ:JW x n)(r row:Int):So 74 [.agg (bC x),aI r,aI row,aI 1] [.a (.sl .u8 (pdL x r row)),aX (HC x r row)]:=by
 rcases hJ with rfl| ⟨h,_⟩
 ·rw[show pdL zW r row= []from if_neg (by rw[Ex];decide),show HC zW r row=false by unfold HC;rw[Ex];rfl];exact EB r row 1
 ·rw[show pdL x r row=FJ x r row 1 from if_pos h.ok,show HC x r row=Ah x r row 1 by unfold HC;rw[h.ok];rfl];exact rH x r row 1 h.ok
theorem BM{x:dF}{n:Nat}(hJ:JW x n)(r row:Int):So 53 [.agg (bC x),aI r,aI row,aI 1] [.a (.sl .u8 (pdL x r row)),aX (HC x r row)]:=by
 rcases hJ with rfl| ⟨h,_⟩
 ·rw[show pdL zW r row= []from if_neg (by rw[Ex];decide),show HC zW r row=false by unfold HC;rw[Ex];rfl];exact EC r row 1
 ·rw[show pdL x r row=FJ x r row 1 from if_pos h.ok,show HC x r row=Ah x r row 1 by unfold HC;rw[h.ok];rfl];exact EI x r row 1 h.ok
theorem SE(n:Nat)(s:List UInt8)(c:Int)(t:List UInt8)(J3:JW x n∧n≤10000)(ht:t.length≤1048576):jr ty aP 25 (hW x) [.a (.ptr 1000 0), .a (.lit (.string (bG s))),aI c, .a (.lit (.string (bG t)))] (hW (qJ x s c t).1) [.a (.lit (.string (lnT (qJ x s c t))))]:=by
 refine ff X4 call25 func25 rfl rfl cO ntmps25 fI rfl ?_;intro zb;obtain⟨hJ,hn⟩:=J3;have hC:=oG hJ.C (show 8*n≤4100000 by omega);have hF:=hJ.F aJ;have hR:=hJ.R aJ;have hzt:(bG t).size=t.length:=rfl;refine bS [0,1,2,3] J (gE [(17,⟨false,[aI (eP t),aX (gu t)]⟩)] [0,1,2,3,9,10] J (eY (wg t fj)) (aA (aK (bS [0,1,2,3,9,10,20] J ?_))));refine aM J ?_ ?_<;>intro hb0
 ·have hw0:s= [115,101,110,100]∧t≠ []:=⟨l7 (CJ hb0).1,at2 (CJ hb0).2⟩;have hO:qJ x s c t=ovO x ⟨2,c,0,t⟩:=by rw[qJ,if_pos hw0]<;>rfl
  refine aA ?_;have t1:=(qW x (⟨2,c,0,t⟩:Ev) hR ht);exact agc X4 [] [(800032,⟨true,iW t1⟩),(700032,⟨true, .agg [.ptr 1000 1000, .ptr 261 261, .ptr 262 262, .ptr 264 264, .ptr 268 268]:: .agg []::iX t1⟩)] [8] 3 rfl CW (au (bB J sj))
 ·have hw0: ¬(s= [115,101,110,100]∧t≠ []):=fun h=>adj hb0 ⟨adk.2 h.1,aEI h.2⟩;refine bS [0,1,2,3,9,33] J ?_;refine aM J ?_ ?_<;>intro cQ
  ·have hw1:s= [114,101,97,100]∧gu t=true:=⟨l7 (CJ cQ).1,(CJ cQ).2⟩;have hO:qJ x s c t=(x,some (pdT x c (eP t))):=by rw[qJ,if_neg hw0,if_pos hw1]<;>rfl
   refine gE [(45,⟨false,[.a (.sl .u8 (pdL x c (eP t))),aX (HC x c (eP t))]⟩)] [11,12] J (eY (BM hJ c (eP t))) (eL [11,49] J ?_);refine aM J ?_ ?_<;>intro fu
   ·rw[awD aby]at hO;exact bS [8] J (au (bB J sj))
   ·have hpy:=aoj (x:=x) (r:=c) (row:=eP t) aby;rw[hpy.2]at hO;rw[hpy.1];exact av (gE [(51,⟨false,[.a (.lit (.string (vF (FJ x c (eP t) 1))))]⟩)] [8] J (eY (J2 (FJ x c (eP t) 1) (WC ..))) (au (bB J sj)))
  ·have hw1: ¬(s= [114,101,97,100]∧gu t=true):=fun h=>adj cQ ⟨adk.2 h.1,h.2⟩;refine bS [0,2,3,52] J ?_;refine aM J ?_ ?_<;>intro n9
   ·have sA:s= [99,111,114,114,117,112,116]:=l7 n9;refine iZ X4 [0,2,3,13] J ⟨⟨rfl,fA _ cO⟩,by decide,by decide,by decide,by decide,⟨⟩⟩ (bS [0,2,3,13,14] J ?_);refine aK (ef (fun k=>k≤4∧ ∀j,j<k→names.getD j []≠t) (fun k:Nat=> [(14, .one ((aI k)))]) (fun k=> [(55, .arr .str names)]) (fun k=>4-k) 0 (fun k=>rfl) ⟨aY _,fun j hj=>absurd hj (Nat.not_lt_zero _)⟩ rfl ?_);rintro k ⟨hk,hno⟩;refine eL [0,2,3,13,14,59] J ?_;refine bD J ?_ ?_<;>intro xI
    ·have aJZ:k<4:=xI;refine av (aA (aK (iZ X4 [0,2,3,13,14,67] J je ?_)));refine aM J ?_ ?_<;>intro MT
     ·have hhi:names.getD k []=t:=l7 MT;have hnk:=azE (by have:k<4:=xI;omega) hhi;have hO:qJ x s c t=ovO x ⟨4,c,(k:Int),[]⟩:=by rw[qJ,if_neg hw0,if_neg hw1,if_pos ⟨sA,by rw[hnk];omega⟩,hnk]<;>rfl
      refine aA ?_;have t1:=(qW x (⟨4,c,(k:Int),[]⟩:Ev) hR (aY _));exact BG X4 [] [(800072,⟨true,iW t1⟩),(700072,⟨true, .agg [.ptr 1000 1000, .ptr 261 261, .ptr 262 262, .ptr 264 264, .ptr 268 268]:: .agg []::iX t1⟩),(1200071,⟨true,[.agg (sC ⟨4,c,(k:Int),[]⟩)]⟩)] [8] [] J qM (au (bB J sj))
     ·have hhi:names.getD k []≠t:=qv MT;refine av (mM X4 [0,2,3,13,14] J ?_);refine⟨k+1,⟨by have:k<4:=xI;omega,fun j hj=>by rcases Nat.lt_succ_iff_lt_or_eq.1 hj with h|h;exact hno j h;rw[h];exact hhi⟩,aJ,?_⟩;rw[gT _ k rfl aJ];try rfl
    ·have hmi:=at3 (t:=t) (fun j hj=>hno j (by have:4≤k:=xI;omega));have hO:qJ x s c t=(x,none):=by rw[qJ,if_neg hw0,if_neg hw1,if_neg (fun h=>by rw[hmi]at h;omega)]<;>rfl
     exact bf (bS [8] J (au (bB J sj)))
   ·have sA:s≠ [99,111,114,114,117,112,116]:=qv n9;have hO:qJ x s c t=(x,none):=by rw[qJ,if_neg hw0,if_neg hw1,if_neg (fun h=>sA h.1)]<;>rfl
    exact av (bS [8] J (au (bB J sj)))
theorem SF(n:Nat)(L:List (List UInt8))(J3:JW x n∧n≤10000)(hL:L.length=5)(hz:gb aN L≤1048576):jr ty aP 22 (hW x) [.a (.ptr 1000 0), .a (.sl .str L)] (hW (nwL x (L.drop 1)).1) [.a (.lit (.string (lnT (nwL x (L.drop 1)))))]:=by
 refine ff X4 call22 func22 rfl rfl cO ntmps22 fI rfl ?_;intro zb;obtain⟨hJ,hn⟩:=J3;have hC:=oG hJ.C (show 8*n≤4100000 by omega);have hF:=hJ.F aJ;have hR:=hJ.R aJ;have hML:(L.drop 1).length=4:=by rw[cV];omega
 refine bS [0,1] J (iZ X4 [0,1,5] J qb (eL [0,1,5,6] J ?_));refine aK (ef (fun k=>1≤k∧k≤5∧((L.drop 1).take (k-1)).all gu=true) (fun k:Nat=> [(6, .one ((aI k)))]) (fun k=> [(9, .arr .int (nmL (L.drop 1) (k-1)))]) (fun k=>5-k) 1 (fun k=>rfl) ⟨Nat.le_refl _,by decide,rfl⟩ rfl ?_);rintro k ⟨hk1,hk,hall⟩;have hnl:=aga (M:=(L.drop 1)) (j:=k-1) aJ;refine eL [0,1,5,6,13] J ?_;refine bD J ?_ ?_<;>intro hb0
 ·have hkL:k<5:=by omega
  have hy:=wU hz (show k<L.length by omega);have hge:(L.drop 1).getD (k-1) []=L.getD k []:=by rw[aq,aq,dc,show 1+(k-1)=k by omega]
  refine av (aA (aK (aA ?_)));have t1:=(wg (L.getD k []) hy);refine eR [(21,⟨false,cA t1⟩)] [0,1,5,6,7,8] J CW (eL [0,1,5,6,7,25] J ?_);refine aM J ?_ ?_<;>intro cQ
  ·have hO:nwL x (L.drop 1)=(x,none):=if_neg (by rw[Ug (j:=k-1) aJ (by rw[hge];simpa using cQ)];decide);exact bS [4] J (au (bB J sj))
  ·have hst:=aao (M:=(L.drop 1)) (j:=k-1) aJ;rw[hge,show k-1+1=k+1-1 by omega]at hst;refine av (GM X4 [(29,9)] [] [0,1,5,6] [] J Ga (mM X4 [0,1,5,6] J ?_));refine⟨k+1,⟨aJ,aJ,by rw[show k+1-1=k-1+1 by omega];exact aok aJ hall (by rw[hge];simpa using cQ)⟩,aJ,?_⟩;rw[gT _ k rfl aJ, ←hst];try rfl
 ·obtain⟨wq,hN⟩:=agb (M:=(L.drop 1)) (j:=k-1) aJ hall;rw[hN];have hN4:((L.drop 1).map eP).length=4:=by rw[List.length_map];exact hML
  have hO:nwL x (L.drop 1)=nwO (((L.drop 1).map eP).getD 0 0) (((L.drop 1).map eP).getD 1 0) (((L.drop 1).map eP).getD 2 0) (((L.drop 1).map eP).getD 3 0):=if_pos wq;refine bf (aA (cu X4 [(43,280)] [(43,⟨true,[.agg (bC (Xl (((L.drop 1).map eP).getD 0 0) (((L.drop 1).map eP).getD 1 0) (((L.drop 1).map eP).getD 2 0) (((L.drop 1).map eP).getD 3 0)))]⟩)] [0] [] 32767 0 MO gq J gq (axu F7) (fM 281 261 rfl (fM 282 262 rfl (fM 284 264 rfl (fM 288 268 rfl (aA ?_)))))));have t1:=(eG (Xl (((L.drop 1).map eP).getD 0 0) (((L.drop 1).map eP).getD 1 0) (((L.drop 1).map eP).getD 2 0) (((L.drop 1).map eP).getD 3 0)));have t2:=(JU (okW (Xl (((L.drop 1).map eP).getD 0 0) (((L.drop 1).map eP).getD 1 0) (((L.drop 1).map eP).getD 2 0) (((L.drop 1).map eP).getD 3 0))));exact eR [(48,⟨false,cA t1⟩),(49,⟨false,cA t2⟩)] [4] J axr (au (bB J sj))
end
section
set_option maxRecDepth 100000
theorem CS(x:dF)(n:Nat)(s:List UInt8)(l:List Int)(J3:JW x n∧n≤10000)(hl:l.length≤1048576)(hp: ∀y,y∈l→0≤y):jr ty aP 32 (hW x) [.a (.ptr 1000 0), .a (.lit (.string (bG s))), .a (.sl .int l)] (hW (p9 x s l).1) [.a (.lit (.string ((p9 x s l).2.getD ⟨#[]⟩))),aX (p9 x s l).2.isSome]:=by
 refine ff X4 call32 func32 rfl rfl cO ntmps32 fI rfl ?_;intro zb;obtain⟨hJ,hn⟩:=J3;have hC:=oG hJ.C (show 8*n≤4100000 by omega);have hF:=hJ.F aJ;have hR:=hJ.R aJ;have hdl:x.ah.length≤1048576:=by have:=hF.dv;omega
 refine bS [0,1,2] J (aA (aK (bS [0,1,2,10] J ?_)));refine aM J ?_ ?_<;>intro hb0
 ·have aiU:s= [110,101,119]∧l.length=4:=⟨l7 (CJ hb0).1,by have h:=EA.1 (CJ hb0).2;omega⟩;have hl4:=aiU.2;have hO:p9 x s l=nwO (l.getD 0 0) (l.getD 1 0) (l.getD 2 0) (l.getD 3 0):=if_pos aiU;refine aA (cu X4 [(31,280)] [(31,⟨true,[.agg (bC (Xl (l.getD 0 0) (l.getD 1 0) (l.getD 2 0) (l.getD 3 0)))]⟩)] [0] [] 65535 0 MO gq J gq (axu F6) (fM 281 261 rfl (fM 282 262 rfl (fM 284 264 rfl (fM 288 268 rfl (aA ?_))))));have t1:=(dY (Xl (l.getD 0 0) (l.getD 1 0) (l.getD 2 0) (l.getD 3 0)));have t2:=(M3 (okW (Xl (l.getD 0 0) (l.getD 1 0) (l.getD 2 0) (l.getD 3 0))));exact eR [(38,⟨false,cA t1⟩),(39,⟨false,cA t2⟩)] [6,7] J axr (au (bB J sj))
 ·have aiU: ¬(s= [110,101,119]∧l.length=4):=fun h=>adj hb0 ⟨adk.2 h.1,EA.2 (by rw[h.2];rfl)⟩;refine bS [0,1,2,40] J ?_;refine aM J ?_ ?_<;>intro cQ
  ·have aoq:s= [114,101,97,100]∧l.length=2:=⟨l7 (CJ cQ).1,by have h:=EA.1 (CJ cQ).2;omega⟩;have uI:=aoq.2;have hO:p9 x s l=(x,some (pdT x (l.getD 0 0) (l.getD 1 0))):=by rw[p9,if_neg aiU,if_pos aoq]<;>rfl
   refine aA ?_;have t1:=(BL hJ (l.getD 0 0) (l.getD 1 0));refine cT X4 [(59,⟨false,cA t1⟩)] [8,9] 65535 rfl CW (eL [8,63] J ?_);refine aM J ?_ ?_<;>intro fu
   ·rw[awD aby]at hO;exact bS [6,7] J (au (bB J sj))
   ·have hpy:=aoj (x:=x) (r:=(l.getD 0 0)) (row:=(l.getD 1 0)) aby;rw[hpy.2]at hO;rw[hpy.1];exact av (gE [(65,⟨false,[.a (.lit (.string (vF (FJ x (l.getD 0 0) (l.getD 1 0) 1))))]⟩)] [6,7] J (eY (J1 (FJ x (l.getD 0 0) (l.getD 1 0) 1) (WC ..))) (au (bB J sj)))
  ·have aoq: ¬(s= [114,101,97,100]∧l.length=2):=fun h=>adj cQ ⟨adk.2 h.1,EA.2 (by rw[h.2];rfl)⟩;refine bS [0,1,2,66] J ?_;refine bD J ?_ ?_<;>intro n9
   ·have hl1: ¬l.length=1:=by omega
    have hO:p9 x s l=(x,none):=by rw[p9,if_neg aiU,if_neg aoq,if_neg hl1]<;>rfl
    exact bS [6,7] J (au (bB J sj))
   ·have hl1:l.length=1:=by omega
    have hgd:l.getD (Int.toNat 0) (aO .int)=l.getD 0 0:=rfl;have hP1:p9 x s l=mN x s (l.getD 0 0):=by rw[p9,if_neg aiU,if_neg aoq,if_pos hl1]<;>rfl
    have hc:0≤(l.getD 0 0):=by rw[aq,List.getElem?_eq_getElem (show 0<l.length by omega)];exact hp _ (List.getElem_mem _)
    refine av (eL [0,1,2,70] J (aK (bS [0,1,2,70,71] J ?_)));refine aM J ?_ ?_<;>intro xI
    ·have hw0:s= [99,114,97,115,104]:=l7 xI;have hO:p9 x s l=ovO x ⟨3,(l.getD 0 0),0,[]⟩:=by rw[hP1,mN,if_pos hw0]<;>rfl
     refine aA ?_;have t1:=(kS x (⟨3,(l.getD 0 0),0,[]⟩:Ev) hR (aY _));exact BG X4 [] [(800078,⟨true,iW t1⟩),(700078,⟨true, .agg [.ptr 1000 1000, .ptr 261 261, .ptr 262 262, .ptr 264 264, .ptr 268 268]:: .agg []::iX t1⟩),(1200077,⟨true,[.agg (sC ⟨3,(l.getD 0 0),0,[]⟩)]⟩)] [6,7] [] J CW (au (bB J sj))
    ·have hw0:s≠ [99,114,97,115,104]:=qv xI;refine bS [0,1,2,70,79] J ?_;refine aM J ?_ ?_<;>intro MT
     ·have hw1:s= [115,97,118,101]:=l7 MT;have hO:p9 x s l=ovO x ⟨5,(l.getD 0 0),0,[]⟩:=by rw[hP1,mN,if_neg hw0,if_pos hw1]<;>rfl
      refine aA ?_;have t1:=(kS x (⟨5,(l.getD 0 0),0,[]⟩:Ev) hR (aY _));exact BG X4 [] [(800086,⟨true,iW t1⟩),(700086,⟨true, .agg [.ptr 1000 1000, .ptr 261 261, .ptr 262 262, .ptr 264 264, .ptr 268 268]:: .agg []::iX t1⟩),(1200085,⟨true,[.agg (sC ⟨5,(l.getD 0 0),0,[]⟩)]⟩)] [6,7] [] J CW (au (bB J sj))
     ·have hw1:s≠ [115,97,118,101]:=qv MT;refine bS [0,1,2,70,87] J ?_;refine aM J ?_ ?_<;>intro Oh
      ·have sA:s= [114,111,117,110,100,115]:=l7 Oh;have hO:p9 x s l=rnO x (l.getD 0 0):=by rw[hP1,mN,if_neg hw0,if_neg hw1,if_pos sA]<;>rfl
       exact aA (cu X4 [(98,280)] [(98,⟨true,[.agg (bC (jC x (Ao (lW (l.getD 0 0) 60))))]⟩)] [0] [] 4095 0 MO gq J gq (OH (Ap x (lW (l.getD 0 0) 60) hC)) (fM 281 261 rfl (fM 282 262 rfl (fM 284 264 rfl (fM 288 268 rfl (gE [(105,⟨false,[.a (.lit (.string (yz (jC x (Ao (lW (l.getD 0 0) 60))))))]⟩)] [6,7] J (eY (nL (jC x (Ao (lW (l.getD 0 0) 60))) (((hJ.rn hn (l.getD 0 0)).F aJ).rd) (((hJ.rn hn (l.getD 0 0)).F aJ).ca) ((hJ.rn hn (l.getD 0 0)).F aJ).re (by have:=((hJ.rn hn (l.getD 0 0)).F aJ).dv;omega) ((hJ.rn hn (l.getD 0 0)).F aJ).rl)) (au (bB J sj))))))))
      ·have sA:s≠ [114,111,117,110,100,115]:=qv Oh;refine eL [0,1,2,70,106] J ?_;refine aM J ?_ ?_<;>intro hb7
       ·have BI:s= [99,108,105,101,110,116]:=l7 hb7;refine av (aM J ?_ ?_)<;>intro hb8
        ·refine aA (aA (cT X4 [(116,⟨false,[aX (n8 x (l.getD 0 0))]⟩)] [0,1,2,117] 511 rfl (OH (iH x (l.getD 0 0))) ?_));refine aM J ?_ ?_<;>intro hb9
         ·have hge:(x.ah.length:Int)≤(l.getD 0 0):=by(rcases Int.lt_or_le (l.getD 0 0) (x.ah.length:Int)with h|h;exact absurd ((Fq hdl).2 ⟨hc,h⟩) (by simpa using hb9);exact h)
          have hO:p9 x s l=(x,some JS):=by rw[hP1,mN,if_neg hw0,if_neg hw1,if_neg sA,if_pos BI,aaj,if_pos hge]<;>rfl
          exact bS [6,7] J (au (bB J sj))
         ·have aHi:(l.getD 0 0)<(x.ah.length:Int):=((Fq hdl).1 (by simpa using hb9)).2;have hO:p9 x s l=(x,some (Q4 (x.ah.getD (l.getD 0 0).toNat (aO .bR)).live)):=by rw[hP1,mN,if_neg hw0,if_neg hw1,if_neg sA,if_pos BI,aaj,if_neg aJ]<;>rfl
          have hlt:(l.getD 0 0).toNat<x.ah.length:=by omega
          obtain⟨q1,q2,q3,q4⟩:=hF.cl _ hlt;refine av (eL [0,2,119] J ?_);refine aM J ?_ ?_<;>intro aiV
          ·have h9:s= [105,110,98,111,120]:=l7 aiV;exact absurd (h9.symm.trans BI) cO
          ·refine av (aA ?_);have t1:=(CP ((x.ah.getD (l.getD 0 0).toNat (aO .bR)).live) q1 q2 q3 q4);exact cT X4 [(139,⟨false,cA t1⟩)] [6,7] 16383 rfl CW (au (bB J sj))
        ·exact absurd (hb7.symm.trans hb8) cO
       ·have BI:s≠ [99,108,105,101,110,116]:=qv hb7;refine mM X4 [0,1,2,70,106] J ?_;refine aM J ?_ ?_<;>intro hb8
        ·have NL:s= [105,110,98,111,120]:=l7 hb8;refine aA (aA (cT X4 [(116,⟨false,[aX (n8 x (l.getD 0 0))]⟩)] [0,1,2,117] 511 rfl (OH (iH x (l.getD 0 0))) ?_));refine aM J ?_ ?_<;>intro hb9
         ·have hge:(x.ah.length:Int)≤(l.getD 0 0):=by(rcases Int.lt_or_le (l.getD 0 0) (x.ah.length:Int)with h|h;exact absurd ((Fq hdl).2 ⟨hc,h⟩) (by simpa using hb9);exact h)
          have hO:p9 x s l=(x,some JS):=by rw[hP1,mN,if_neg hw0,if_neg hw1,if_neg sA,if_neg BI,if_pos NL,aak,if_pos hge]<;>rfl
          exact bS [6,7] J (au (bB J sj))
         ·have aHi:(l.getD 0 0)<(x.ah.length:Int):=((Fq hdl).1 (by simpa using hb9)).2;have hO:p9 x s l=(x,some (Hw x (l.getD 0 0))):=by rw[hP1,mN,if_neg hw0,if_neg hw1,if_neg sA,if_neg BI,if_pos NL,aak,if_neg aJ]<;>rfl
          have hlt:(l.getD 0 0).toNat<x.ah.length:=by omega
          obtain⟨q1,q2,q3,q4⟩:=hF.cl _ hlt;refine av (eL [0,2,119] J ?_);refine aM J ?_ ?_<;>intro aiV
          ·exact aA (cT X4 [(127,⟨false,[.a (.lit (.string (Hw x (l.getD 0 0))))]⟩)] [6,7] 1023 rfl (OH (FY x (l.getD 0 0) hdl (hF.inb (l.getD 0 0)))) (au (bB J sj)))
          ·exact absurd (hb8.symm.trans aiV) cO
        ·have NL:s≠ [105,110,98,111,120]:=qv hb8;refine bS [0,2,140] J ?_;refine aM J ?_ ?_<;>intro aEN
         ·have WI:s= [115,101,114,118,101,114]:=l7 aEN;have hsw:af.wrap ((x.aC.length:Int)-1)=(x.aC.length:Int)-1:=cY (by have:=hF.sv;omega);refine aA (aA ?_);have t1:=(bu (l.getD 0 0) 0 (af.wrap ((x.aC.length:Int)-1)));refine cT X4 [(152,⟨false,cA t1⟩)] [0,2,153] 4095 rfl CW ?_;refine bD J ?_ ?_<;>intro aEO
          ·rw[hsw]at aEO;have hO:p9 x s l=(x,some JS):=by rw[hP1,mN,if_neg hw0,if_neg hw1,if_neg sA,if_neg BI,if_neg NL,if_pos WI,aal,if_pos aJ]<;>rfl
           exact bS [6,7] J (au (bB J sj))
          ·rw[hsw]at aEO;have hO:p9 x s l=(x,some (Hy (x.aC.getD (l.getD 0 0).toNat (aO .cH)))):=by rw[hP1,mN,if_neg hw0,if_neg hw1,if_neg sA,if_neg BI,if_neg NL,if_pos WI,aal,if_neg aJ]<;>rfl
           have hlt:(l.getD 0 0).toNat<x.aC.length:=by omega
           obtain⟨q1,q2,q3⟩:=hF.se _ hlt;refine av (aA ?_);have t1:=(FZ (x.aC.getD (l.getD 0 0).toNat (aO .cH)) q1 q2 q3);exact cT X4 [(164,⟨false,cA t1⟩)] [6,7] 8191 rfl CW (au (bB J sj))
         ·have WI:s≠ [115,101,114,118,101,114]:=qv aEN;have hO:p9 x s l=(x,none):=by rw[hP1,mN,if_neg hw0,if_neg hw1,if_neg sA,if_neg BI,if_neg NL,if_neg WI]<;>rfl
          exact av (bS [6,7] J (au (bB J sj)))
end
section
set_option maxRecDepth 100000
theorem EK(x:dF)(n:Nat)(s:List UInt8)(J3:JW x n∧n≤10000)(hs:s.length≤4000):jr ty aP 11 (hW x) [.a (.ptr 1000 0), .a (.lit (.string (bG s)))] (hW (iM x (dA 32 s)).1) [.a (.lit (.string (lnT (iM x (dA 32 s)))))]:=by
 refine ff X4 call11 func11 rfl rfl cO ntmps11 fI rfl ?_;intro zb;obtain⟨hJ,hn⟩:=J3;have hC:=oG hJ.C (show 8*n≤4100000 by omega);have hF:=hJ.F aJ;have hR:=hJ.R aJ;have hwp:=Aw 32 s;have hwl:=tj 32 s;have hz:gb aN (dA 32 s)≤1048576:=by omega
 refine bS [0,1] J (gE [(9,⟨true,[.a (.sl .str (dA 32 s))]⟩)] [0,1,5] J (eY (Ch s 32 fj)) (aA (aK (bS [0,1,5,10] J ?_))));refine bD J ?_ ?_<;>intro hb0
 ·have h1:(dA 32 s).length=1:=by omega
  have hw:=aaf 32 h1;have hO:iM x (dA 32 s)=iC x s:=by rw[hw]<;>rfl
  refine aA ?_;have t1:=(Re x n s ⟨hJ,hn⟩);exact eR [(800016,⟨true,iW t1⟩),(700016,⟨true, .agg [.ptr 1000 1000, .ptr 261 261, .ptr 262 262, .ptr 264 264, .ptr 268 268]:: .agg []::iX t1⟩)] [4] J qM (au (bB J sj))
 ·have h1: ¬(dA 32 s).length=1:=by omega
  refine iZ X4 [0,5,17] J (cL (fun _=>(by(show(0:Int).toNat<(dA 32 s).length;omega))) (cL (fun _=>(by(show 0≤(0:Int)∧(0:Int)<((dA 32 s).length:Int);omega))) ⟨⟩)) ?_;refine aM J ?_ ?_<;>intro cQ
  ·have h5:(dA 32 s).length=5:=by have h:=EA.1 (CJ cQ).1;omega
   have hO:iM x (dA 32 s)=nwL x ((dA 32 s).drop 1):=aiW h5 (l7 (CJ cQ).2);refine aA ?_;have t1:=(SF x n (dA 32 s) ⟨hJ,hn⟩ h5 hz);exact eR [(800029,⟨true,iW t1⟩),(700029,⟨true, .agg [.ptr 1000 1000, .ptr 261 261, .ptr 262 262, .ptr 264 264, .ptr 268 268]:: .agg []::iX t1⟩)] [4] J qM (au (bB J sj))
  ·have h5: ¬((dA 32 s).length=5∧((dA 32 s).getD 0 [])=lNew):=fun h=>adj cQ ⟨EA.2 (by rw[h.1];rfl),adk.2 h.2⟩;refine bS [0,5,30] J ?_;refine bD J ?_ ?_<;>intro fu
   ·have h23:(dA 32 s).length=2∨(dA 32 s).length=3:=by omega
    have hy1:=wU hz (show 1<(dA 32 s).length by omega);refine aA ?_;have t1:=(wg ((dA 32 s).getD 1 []) hy1);refine eR [(43,⟨false,cA t1⟩)] [0,5,6,7] J CW (eL [0,5,6,47] J ?_);refine aM J ?_ ?_<;>intro n9
    ·have hO:iM x (dA 32 s)=(x,none):=xk h23 aj1;exact bS [4] J (au (bB J sj))
    ·have kY:gu ((dA 32 s).getD 1 [])=true:=by simpa using n9
     refine av (eL [0,5,6,50] J ?_);refine bD J ?_ ?_<;>intro xI
     ·have h2:(dA 32 s).length=2:=by omega
      have hO:iM x (dA 32 s)=mN x ((dA 32 s).getD 0 []) (eP ((dA 32 s).getD 1 [])):=age h2 kY;refine aA ?_;have t1:=(SD x n ((dA 32 s).getD 0 []) (eP ((dA 32 s).getD 1 [])) ⟨hJ,hn⟩ (Rb _));exact eR [(800056,⟨true,iW t1⟩),(700056,⟨true, .agg [.ptr 1000 1000, .ptr 261 261, .ptr 262 262, .ptr 264 264, .ptr 268 268]:: .agg []::iX t1⟩)] [4] J CW (au (bB J sj))
     ·have h3:(dA 32 s).length=3:=by omega
      have hy2:=wU hz (show 2<(dA 32 s).length by omega);have hO:iM x (dA 32 s)=qJ x ((dA 32 s).getD 0 []) (eP ((dA 32 s).getD 1 [])) ((dA 32 s).getD 2 []):=Fu h3 kY;refine av (aA ?_);have t1:=(SE x n ((dA 32 s).getD 0 []) (eP ((dA 32 s).getD 1 [])) ((dA 32 s).getD 2 []) ⟨hJ,hn⟩ hy2);exact cT X4 [(800065,⟨true,iW t1⟩),(700065,⟨true, .agg [.ptr 1000 1000, .ptr 261 261, .ptr 262 262, .ptr 264 264, .ptr 268 268]:: .agg []::iX t1⟩)] [4] 255 rfl CW (au (bB J sj))
   ·have h23: ¬((dA 32 s).length=2∨(dA 32 s).length=3):=by omega
    have hO:iM x (dA 32 s)=(x,none):=aor h1 h23 h5;exact av (bS [4] J (au (bB J sj)))
theorem yp(x:dF)(n:Nat)(L:List (List UInt8))(J3:JW x n∧n≤10000)(h0:1≤L.length)(hz:gb aN L≤1048576):jr ty aP 13 (hW x) [.a (.ptr 1000 0), .a (.sl .str L)] (hW (iM x L).1) [.a (.lit (.string ((iM x L).2.getD ⟨#[]⟩))),aX (iM x L).2.isSome]:=by
 refine ff X4 call13 func13 rfl rfl cO ntmps13 fI rfl ?_;intro zb;obtain⟨hJ,hn⟩:=J3;have hC:=oG hJ.C (show 8*n≤4100000 by omega);have hF:=hJ.F aJ;have hR:=hJ.R aJ;have hLl:=Ew L;refine bS [0,1] J (eL [0,1,18] J ?_);refine bD J ?_ ?_<;>intro hb0
 ·have h1:L.length=1:=by omega
  have hO:iM x L=iC x (L.getD 0 []):=at6 h1;refine aA ?_;have t1:=(EH x n (L.getD 0 []) ⟨hJ,hn⟩);exact eR [(800023,⟨true,iW t1⟩),(700023,⟨true, .agg [.ptr 1000 1000, .ptr 261 261, .ptr 262 262, .ptr 264 264, .ptr 268 268]:: .agg []::iX t1⟩)] [4,5] J CW (au (bB J sj))
 ·have h1: ¬L.length=1:=by omega
  refine av (aA (iZ X4 [0,1,40] J (cL (fun h=>(by(show 0≤(2:Int)∧(2:Int)<(L.length:Int);have h3:=EA.1 (CJ (show(if((bG (L.getD 0 [])).toList==(⟨#[115,101,110,100]⟩:ByteArray).toList)=true then((L.length:Int)==3)else false)=true from h)).2;omega))) (cL aBt ⟨⟩)) ?_));refine aM J ?_ ?_<;>intro cQ
  ·have hs0:(L.getD 0 [])=aat:=l7 (CJ (CJ cQ).1).1;have h3:L.length=3:=by have h:=EA.1 (CJ (CJ cQ).1).2;omega
   have hs2:(L.getD 2 [])≠ []:=at2 (CJ cQ).2;have hy1:=wU hz (show 1<L.length by omega);have hy2:=wU hz (show 2<L.length by omega);have hzt:({data:=(L.getD (Int.toNat 2) (aO Tag.str)).toArray}:ByteArray).size=(L.getD 2 []).length:=rfl;have aJ1:(L.getD 2 []).length≤1048576:=hy2;refine aA ?_;have t1:=(we (L.getD 1 []) hy1);refine eR [(45,⟨false,cA t1⟩)] [0,1,6,7] J CW (eL [0,1,6,49] J ?_);refine aM J ?_ ?_<;>intro fu
   ·have hO:iM x L=(x,none):=xk (Or.inr h3) aby;exact bS [4,5] J (au (bB J sj))
   ·have kY:gu (L.getD 1 [])=true:=by simpa using fu
    have hO:iM x L=ovO x ⟨2,eP (L.getD 1 []),0,(L.getD 2 [])⟩:=(Fu h3 kY).trans (aos hs0 hs2);refine av (aA ?_);have t1:=(kS x (⟨2,eP (L.getD 1 []),0,(L.getD 2 [])⟩:Ev) hR hy2);exact agc X4 [] [(800057,⟨true,iW t1⟩),(700057,⟨true, .agg [.ptr 1000 1000, .ptr 261 261, .ptr 262 262, .ptr 264 264, .ptr 268 268]:: .agg []::iX t1⟩)] [4,5] 5 rfl CW (au (bB J sj))
  ·have hsn: ¬((L.getD 0 [])=aat∧L.length=3∧(L.getD 2 [])≠ []):=fun h=>adj cQ ⟨show(if((bG (L.getD 0 [])).toList==(⟨#[115,101,110,100]⟩:ByteArray).toList)=true then((L.length:Int)==3)else false)=true by rw[if_pos (adk.2 h.1)];exact EA.2 (by rw[h.2.1];rfl),aEI h.2.2⟩;refine av (aA (iZ X4 [0,1,66] J (cL aBt ⟨⟩) ?_));refine aM J ?_ ?_<;>intro n9
   ·have hc0:(L.getD 0 [])=Ui:=l7 (CJ n9).1;have h3:L.length=3:=by have h:=EA.1 (CJ n9).2;omega
    have hy1:=wU hz (show 1<L.length by omega);refine aA ?_;have t1:=(we (L.getD 1 []) hy1);refine eR [(71,⟨false,cA t1⟩)] [0,1,8,9] J CW (aA (cT X4 [(74,⟨true,[.a (.sl .str names)]⟩),(78,⟨false,[aI (nmI (L.getD 2 []))]⟩)] [0,8,9,10] 63 rfl (have u1:=vE;have u2:=(Ez (L.getD 2 []));(by(with_reducible and_intros);(iterate 2 all_goals try first|exact⟨⟩|exact u1|exact u2);all_goals first| (intros;omega))) (eL [0,8,10,84] J ?_)));refine bD J ?_ ?_<;>intro xI
    ·have hO:iM x L=(x,none):=by(rcases xI with h|h<;>first|exact xk (Or.inr h3) h| (cases hp:gu (L.getD 1 [])with|false=>exact xk (Or.inr h3) hp|true=>rw[Fu h3 hp,aau hc0 aJ]))
     exact bS [4,5] J (au (bB J sj))
    ·have kY:gu (L.getD 1 [])=true:=eq_true_of_ne_false xI.1;have hat:0≤nmI (L.getD 2 []):=xI.2;have hO:iM x L=ovO x ⟨4,eP (L.getD 1 []),nmI (L.getD 2 []),[]⟩:=(Fu h3 kY).trans (aot hc0 hat);refine av (aA ?_);have t1:=(kS x (⟨4,eP (L.getD 1 []),nmI (L.getD 2 []),[]⟩:Ev) hR (aY _));exact BG X4 [] [(800089,⟨true,iW t1⟩),(700089,⟨true, .agg [.ptr 1000 1000, .ptr 261 261, .ptr 262 262, .ptr 264 264, .ptr 268 268]:: .agg []::iX t1⟩),(1200088,⟨true,[.agg (sC ⟨4,eP (L.getD 1 []),nmI (L.getD 2 []),[]⟩)]⟩)] [4,5] [] J qM (au (bB J sj))
   ·have hcn: ¬((L.getD 0 [])=Ui∧L.length=3):=fun h=>adj n9 ⟨adk.2 h.1,EA.2 (by rw[h.2];rfl)⟩;refine av (iZ X4 [0,1,11] J qb (aA (iZ X4 [0,1,11,92,93,94] J je ?_)));rw[show(L.take (L.length:Int).toNat).drop (1:Int).toNat=(L.drop 1)by rw[Int.toNat_natCast,List.take_length];rfl];refine aK (ef (fun k=>k≤(L.drop 1).length∧((L.drop 1).take k).all gu=true) (fun k:Nat=> [(94, .one ((aI k)))]) (fun k=> [(90, .arr .int (nmL (L.drop 1) k))]) (fun k=>(L.drop 1).length-k) 0 (fun k=>rfl) ⟨aY _,rfl⟩ rfl ?_);rintro k ⟨hk,hall⟩;have hnl:=aga (M:=(L.drop 1)) (j:=k) hk;have hdl:(L.drop 1).length=L.length-1:=cV ..;refine bS [0,1,11,92,93,94,95] J ?_;refine eg J ?_ ?_<;>intro MT
    ·have hgk:(L.drop 1).getD k []=L.getD (k+1) []:=by rw[aq,aq,dc,Nat.add_comm]
     have hyk:=wU hz (show k+1<L.length by omega);have aHj:((L.drop 1).getD k []).length≤1048576:=by rw[hgk];exact hyk
     refine av (aA (aK (iZ X4 [0,1,11,13,92,93,94] J je (aA ?_))));have t1:=(we ((L.drop 1).getD k []) aHj);refine eR [(100,⟨false,cA t1⟩)] [0,1,11,14,15,92,93,94] J qM (eL [0,1,11,14,92,93,94,104] J ?_);refine aM J ?_ ?_<;>intro Oh
     ·have hO:iM x L=(x,none):=adn h1 h0 hsn hcn (Ug (j:=k) aJ (by simpa using Oh));exact bS [4,5] J (au (bB J sj))
     ·have hst:=aao (M:=(L.drop 1)) (j:=k) aJ;refine av (GM X4 [(108,90)] [] [0,1,11,92,93,94] [] J Ga (mM X4 [0,1,11,92,93,94] J ?_));refine⟨k+1,⟨aJ,aok aJ hall (by simpa using Oh)⟩,aJ,?_⟩;rw[gT _ k rfl aJ, ←hst];try rfl
    ·obtain⟨wq,hN⟩:=agb (M:=(L.drop 1)) (j:=k) aJ hall;rw[hN]at hnl;rw[hN];have hO:iM x L=p9 x (L.getD 0 []) ((L.drop 1).map eP):=aiX h1 h0 hsn hcn wq;refine bf (aA ?_);have t1:=(CS x n (L.getD 0 []) ((L.drop 1).map eP) ⟨hJ,hn⟩ aJ (fun y hy=>by obtain⟨a,_,rfl⟩:=List.mem_map.1 hy;exact Rb a));exact eR [(800115,⟨true,iW t1⟩),(700115,⟨true, .agg [.ptr 1000 1000, .ptr 261 261, .ptr 262 262, .ptr 264 264, .ptr 268 268]:: .agg []::iX t1⟩)] [4,5] J CW (au (bB J sj))
end
set_option maxRecDepth 100000
theorem uD(s:List UInt8)(hs:s.length≤1048576):So 6 [.a (.lit (.string (bG s)))] [.a (.lit (.string (runM s)))]:=by
 refine eU X4 call6 func6 rfl rfl cO ntmps6 fI ?_;intro zb;have hz:(bG s).size=s.length:=rfl;have hwp:=Aw 10 s;have hwl:=tj 10 s;have aHk:=Ew (dA 10 s);have hw1:af.wrap (((dA 10 s).length:Int)-1)=((dA 10 s).length:Int)-1:=cY aJ;have htn:(((dA 10 s).length:Int)-1).toNat=(dA 10 s).length-1:=by omega
 have pK:=agf s;refine bS [0] J (gE [(11,⟨false,[.a (.sl .str (dA 10 s))]⟩)] [0,3] J (eY (v8 s 10 hs)) (aA (iZ X4 [0,3,18] J je ?_)));rw[hw1,htn];refine aM J ?_ ?_<;>intro hb0
 ·have hla:(dA 10 s).getD ((dA 10 s).length-1) []= []:=l7 hb0;have hln:=WJ hla;refine iB X4 [0,3] J je ?_;rw[hw1,htn,show((dA 10 s).take ((dA 10 s).length-1)).drop (0:Int).toNat=eI s from hln.symm];refine eL [3,31] J ?_;refine bD J ?_ ?_<;>intro cQ
  ·have hlg:=WL (s:=s) aJ;exact bS [2] J (au (aj J ⟨by rw[hlg];rfl,⟨⟩⟩))
  ·have hlg:=EJ (s:=s) aJ;have h80:(eI s).length≤80:=by omega
   have h4k:s.length≤4000:=by omega
   refine av (mK X4 [(33,907)] [] [3,4] [] J ⟨⟩ (fD 907 1 261 .cH rfl (fD 907 2 262 .bR rfl (fD 907 4 264 .bn rfl (fD 907 8 268 .int rfl (bS [3,4,5] J (eL [4,5,34,35,36] J ?_)))))));refine cm ((eI s).length) (fun k:Nat=> [(5, .one (.a (.lit (.string (nO (eI s) k).2)))),(36, .one ((aI k)))]) (fun k=> [(907, .box [eE (nO (eI s) k).1.rows, .own 261, .own 262,eE (nO (eI s) k).1.aH.rows, .own 264,eE (nO (eI s) k).1.bW,eE (nO (eI s) k).1.seed,eE (nO (eI s) k).1.round, .own 268,eE (nO (eI s) k).1.cancelled]),(261, .arr .cH (nO (eI s) k).1.aC),(262, .arr .bR (nO (eI s) k).1.ah),(264, .arr .bn (nO (eI s) k).1.aH.rounds),(268, .arr .int (nO (eI s) k).1.replaced)]) (fun k=>rfl) rfl ?_;intro k hk;obtain⟨hJ,hsz⟩:=HD (eI s) k aJ;have J3:60*k≤10000:=by omega
   unfold Ey at hsz;refine bS [4,5,34,35,36,37] J ?_;refine eg J ?_ ?_<;>intro fu
   ·refine av (aA (aK (iZ X4 [4,5,7,34,35,36] J je (eL [4,5,7,34,35,36,41] J ?_))));refine aM J ?_ ?_<;>intro n9
    ·have RD:=qK (L:=(eI s)) (k:=k) (l7 n9);exact bf (mM X4 [4,5,34,35,36] J aha)
    ·have RD:=pH (L:=(eI s)) (k:=k) (qv n9);have azJ:=Aw 32 ((eI s).getD k []);have aHn:=tj 32 ((eI s).getD k []);have hel:=WK (s:=s) (k:=k) aJ;have hLO:=LO.line hJ J3 (dA 32 ((eI s).getD k []));have hlz:=Rc hLO;unfold Ey at hlz;refine av (aA ?_);have t1:=(yp ((nO (eI s) k).1) (60*k) (dA 32 ((eI s).getD k [])) ⟨hJ,J3⟩ azJ aJ);refine eR [(45,⟨false,[.a (.sl .str (dA 32 ((eI s).getD k [])))]⟩),(800046,⟨true,iW t1⟩),(700046,⟨true, .agg [.ptr 1000 907, .ptr 261 261, .ptr 262 262, .ptr 264 264, .ptr 268 268]:: .agg []::iX t1⟩)] [4,5,8,9,34,35,36] J (Uv (v8 ((eI s).getD k []) 32 aJ)) (eL [4,5,8,34,35,36,50] J ?_);refine aM J ?_ ?_<;>intro xI
     ·have hlt:=aav (o:=(iM (nO (eI s) k).1 (dA 32 ((eI s).getD k [])))) (by simpa using xI);exact mM X4 [4,5,8,34,35,36] J (iB X4 [4,5,34,35,36] J ahb (mM X4 [4,5,34,35,36] J aCl))
     ·have hlt:=aaw (o:=(iM (nO (eI s) k).1 (dA 32 ((eI s).getD k [])))) (by simpa using xI);rw[hlt];exact av (iB X4 [4,5,34,35,36] J ahb (mM X4 [4,5,34,35,36] J aha))
   ·exact bf (bS [2] J (au (aj J ⟨by rw[hlg,show k=(eI s).length by omega],⟨⟩⟩)))
 ·have hla:(dA 10 s).getD ((dA 10 s).length-1) []≠ []:=qv hb0;have hln:=aou hla;rw[←hln];refine av (eL [3,31] J ?_);refine bD J ?_ ?_<;>intro cQ
  ·have hlg:=WL (s:=s) aJ;exact bS [2] J (au (aj J ⟨by rw[hlg];rfl,⟨⟩⟩))
  ·have hlg:=EJ (s:=s) aJ;have h80:(eI s).length≤80:=by omega
   have h4k:s.length≤4000:=by omega
   refine av (mK X4 [(33,907)] [] [3,4] [] J ⟨⟩ (fD 907 1 261 .cH rfl (fD 907 2 262 .bR rfl (fD 907 4 264 .bn rfl (fD 907 8 268 .int rfl (bS [3,4,5] J (eL [4,5,34,35,36] J ?_)))))));refine cm ((eI s).length) (fun k:Nat=> [(5, .one (.a (.lit (.string (nO (eI s) k).2)))),(36, .one ((aI k)))]) (fun k=> [(907, .box [eE (nO (eI s) k).1.rows, .own 261, .own 262,eE (nO (eI s) k).1.aH.rows, .own 264,eE (nO (eI s) k).1.bW,eE (nO (eI s) k).1.seed,eE (nO (eI s) k).1.round, .own 268,eE (nO (eI s) k).1.cancelled]),(261, .arr .cH (nO (eI s) k).1.aC),(262, .arr .bR (nO (eI s) k).1.ah),(264, .arr .bn (nO (eI s) k).1.aH.rounds),(268, .arr .int (nO (eI s) k).1.replaced)]) (fun k=>rfl) rfl ?_;intro k hk;obtain⟨hJ,hsz⟩:=HD (eI s) k aJ;have J3:60*k≤10000:=by omega
   unfold Ey at hsz;refine bS [4,5,34,35,36,37] J ?_;refine eg J ?_ ?_<;>intro fu
   ·refine av (aA (aK (iZ X4 [4,5,7,34,35,36] J je (eL [4,5,7,34,35,36,41] J ?_))));refine aM J ?_ ?_<;>intro n9
    ·have RD:=qK (L:=(eI s)) (k:=k) (l7 n9);exact bf (mM X4 [4,5,34,35,36] J aha)
    ·have RD:=pH (L:=(eI s)) (k:=k) (qv n9);have azJ:=Aw 32 ((eI s).getD k []);have aHn:=tj 32 ((eI s).getD k []);have hel:=WK (s:=s) (k:=k) aJ;have hLO:=LO.line hJ J3 (dA 32 ((eI s).getD k []));have hlz:=Rc hLO;unfold Ey at hlz;refine av (aA ?_);have t1:=(yp ((nO (eI s) k).1) (60*k) (dA 32 ((eI s).getD k [])) ⟨hJ,J3⟩ azJ aJ);refine eR [(45,⟨false,[.a (.sl .str (dA 32 ((eI s).getD k [])))]⟩),(800046,⟨true,iW t1⟩),(700046,⟨true, .agg [.ptr 1000 907, .ptr 261 261, .ptr 262 262, .ptr 264 264, .ptr 268 268]:: .agg []::iX t1⟩)] [4,5,8,9,34,35,36] J (Uv (v8 ((eI s).getD k []) 32 aJ)) (eL [4,5,8,34,35,36,50] J ?_);refine aM J ?_ ?_<;>intro xI
     ·have hlt:=aav (o:=(iM (nO (eI s) k).1 (dA 32 ((eI s).getD k [])))) (by simpa using xI);exact mM X4 [4,5,8,34,35,36] J (iB X4 [4,5,34,35,36] J ahb (mM X4 [4,5,34,35,36] J aCl))
     ·have hlt:=aaw (o:=(iM (nO (eI s) k).1 (dA 32 ((eI s).getD k [])))) (by simpa using xI);rw[hlt];exact av (iB X4 [4,5,34,35,36] J ahb (mM X4 [4,5,34,35,36] J aha))
   ·exact bf (bS [2] J (au (aj J ⟨by rw[hlg,show k=(eI s).length by omega],⟨⟩⟩)))
theorem uE(s:List UInt8)(hs:s.length≤1048576):So 5 [.a (.lit (.string (bG s)))] [.a (.lit (.string (runM s)))]:=by
 refine eU X4 call5 func5 rfl rfl cO ntmps5 fI ?_;intro zb;have hz:(bG s).size=s.length:=rfl;have hwp:=Aw 10 s;have hwl:=tj 10 s;have aHk:=Ew (dA 10 s);have hw1:af.wrap (((dA 10 s).length:Int)-1)=((dA 10 s).length:Int)-1:=cY aJ;have htn:(((dA 10 s).length:Int)-1).toNat=(dA 10 s).length-1:=by omega
 have pK:=agf s;refine bS [0] J (gE [(9,⟨false,[.a (.sl .str (dA 10 s))]⟩)] [0,3] J (eY (Ch s 10 fj)) (aA (iZ X4 [0,3,16] J je ?_)));rw[hw1,htn];refine aM J ?_ ?_<;>intro hb0
 ·have hla:(dA 10 s).getD ((dA 10 s).length-1) []= []:=l7 hb0;have hln:=WJ hla;refine iB X4 [0,3] J je ?_;rw[hw1,htn,show((dA 10 s).take ((dA 10 s).length-1)).drop (0:Int).toNat=eI s from hln.symm];refine eL [3,29] J ?_;refine bD J ?_ ?_<;>intro cQ
  ·have hlg:=WL (s:=s) aJ;exact bS [2] J (au (aj J ⟨by rw[hlg];rfl,⟨⟩⟩))
  ·have hlg:=EJ (s:=s) aJ;have h80:(eI s).length≤80:=by omega
   have h4k:s.length≤4000:=by omega
   refine av (mK X4 [(31,907)] [] [3,4] [] J ⟨⟩ (fD 907 1 261 .cH rfl (fD 907 2 262 .bR rfl (fD 907 4 264 .bn rfl (fD 907 8 268 .int rfl (bS [3,4,5] J (eL [3,4,5,6] J ?_)))))));refine cm ((eI s).length) (fun k:Nat=> [(5, .one (.a (.lit (.string (nO (eI s) k).2)))),(6, .one ((aI k)))]) (fun k=> [(907, .box [eE (nO (eI s) k).1.rows, .own 261, .own 262,eE (nO (eI s) k).1.aH.rows, .own 264,eE (nO (eI s) k).1.bW,eE (nO (eI s) k).1.seed,eE (nO (eI s) k).1.round, .own 268,eE (nO (eI s) k).1.cancelled]),(261, .arr .cH (nO (eI s) k).1.aC),(262, .arr .bR (nO (eI s) k).1.ah),(264, .arr .bn (nO (eI s) k).1.aH.rounds),(268, .arr .int (nO (eI s) k).1.replaced)]) (fun k=>rfl) rfl ?_;intro k hk;obtain⟨hJ,hsz⟩:=HD (eI s) k aJ;have J3:60*k≤10000:=by omega
   unfold Ey at hsz;refine eL [3,4,5,6,35] J ?_;refine bD J ?_ ?_<;>intro fu
   ·refine av (aA (aK (iZ X4 [3,4,5,6,42] J je ?_)));refine aM J ?_ ?_<;>intro n9
    ·have RD:=pH (L:=(eI s)) (k:=k) (at2 n9);have hel:=WK (s:=s) (k:=k) aJ;have hLO:=LO.line hJ J3 (dA 32 ((eI s).getD k []));have hlz:=Rc hLO;unfold Ey at hlz;refine aA ?_;have t1:=(EK ((nO (eI s) k).1) (60*k) ((eI s).getD k []) ⟨hJ,J3⟩ aJ);refine eR [(800048,⟨true,iW t1⟩),(700048,⟨true, .agg [.ptr 1000 907, .ptr 261 261, .ptr 262 262, .ptr 264 264, .ptr 268 268]:: .agg []::iX t1⟩)] [3,4,5,6,7] J CW (iB X4 [3,4,5,6] J ahb (mM X4 [3,4,5,6] J ?_));exact aCh
    ·rw[Bool.not_eq_false']at n9;have RD:=qK (L:=(eI s)) (k:=k) (l7 n9);exact av (mM X4 [3,4,5,6] J aha)
   ·exact bf (bS [2] J (au (aj J ⟨by rw[hlg,show k=(eI s).length by omega],⟨⟩⟩)))
 ·have hla:(dA 10 s).getD ((dA 10 s).length-1) []≠ []:=qv hb0;have hln:=aou hla;rw[←hln];refine av (eL [3,29] J ?_);refine bD J ?_ ?_<;>intro cQ
  ·have hlg:=WL (s:=s) aJ;exact bS [2] J (au (aj J ⟨by rw[hlg];rfl,⟨⟩⟩))
  ·have hlg:=EJ (s:=s) aJ;have h80:(eI s).length≤80:=by omega
   have h4k:s.length≤4000:=by omega
   refine av (mK X4 [(31,907)] [] [3,4] [] J ⟨⟩ (fD 907 1 261 .cH rfl (fD 907 2 262 .bR rfl (fD 907 4 264 .bn rfl (fD 907 8 268 .int rfl (bS [3,4,5] J (eL [3,4,5,6] J ?_)))))));refine cm ((eI s).length) (fun k:Nat=> [(5, .one (.a (.lit (.string (nO (eI s) k).2)))),(6, .one ((aI k)))]) (fun k=> [(907, .box [eE (nO (eI s) k).1.rows, .own 261, .own 262,eE (nO (eI s) k).1.aH.rows, .own 264,eE (nO (eI s) k).1.bW,eE (nO (eI s) k).1.seed,eE (nO (eI s) k).1.round, .own 268,eE (nO (eI s) k).1.cancelled]),(261, .arr .cH (nO (eI s) k).1.aC),(262, .arr .bR (nO (eI s) k).1.ah),(264, .arr .bn (nO (eI s) k).1.aH.rounds),(268, .arr .int (nO (eI s) k).1.replaced)]) (fun k=>rfl) rfl ?_;intro k hk;obtain⟨hJ,hsz⟩:=HD (eI s) k aJ;have J3:60*k≤10000:=by omega
   unfold Ey at hsz;refine eL [3,4,5,6,35] J ?_;refine bD J ?_ ?_<;>intro fu
   ·refine av (aA (aK (iZ X4 [3,4,5,6,42] J je ?_)));refine aM J ?_ ?_<;>intro n9
    ·have RD:=pH (L:=(eI s)) (k:=k) (at2 n9);have hel:=WK (s:=s) (k:=k) aJ;have hLO:=LO.line hJ J3 (dA 32 ((eI s).getD k []));have hlz:=Rc hLO;unfold Ey at hlz;refine aA ?_;have t1:=(EK ((nO (eI s) k).1) (60*k) ((eI s).getD k []) ⟨hJ,J3⟩ aJ);refine eR [(800048,⟨true,iW t1⟩),(700048,⟨true, .agg [.ptr 1000 907, .ptr 261 261, .ptr 262 262, .ptr 264 264, .ptr 268 268]:: .agg []::iX t1⟩)] [3,4,5,6,7] J CW (iB X4 [3,4,5,6] J ahb (mM X4 [3,4,5,6] J ?_));exact aCh
    ·rw[Bool.not_eq_false']at n9;have RD:=qK (L:=(eI s)) (k:=k) (l7 n9);exact av (mM X4 [3,4,5,6] J aha)
   ·exact bf (bS [2] J (au (aj J ⟨by rw[hlg,show k=(eI s).length by omega],⟨⟩⟩)))
end Go.Proofs.YtaalpcnbbldlaaaGreatDoor.G
