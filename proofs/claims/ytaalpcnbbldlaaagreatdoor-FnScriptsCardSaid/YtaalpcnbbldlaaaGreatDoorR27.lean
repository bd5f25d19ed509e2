/- Steps. -/
import Derived.Test.YtaalpcnbbldlaaaGreatDoorR24
import Derived.Test.YtaalpcnbbldlaaaGreatDoorR26
open And renaming intro→cL
open ByteArray renaming size_append→eK
open Go.IntKind renaming i64→af
open Go.Lib renaming itoa→bN
namespace Go.Proofs.YtaalpcnbbldlaaaGreatDoor.G
set_option linter.all false
open Go.RowKit L D Tryz
section
set_option maxRecDepth 100000
theorem Ci(v:Value)(c:xj)(n:Int)(b:List UInt8)(hcb:c.b=b)(hb:b.length≤1048576):jr ty Tryz.prog 18 [(1000, .box [.uS v .u8 b,eE (c.i:Int),eE c.h])] [.a (.ptr 1000 0),aI n] [(1000, .box [.uS v .u8 b,eE ((dn c n).i:Int),eE (dn c n).h])] [aX (gV c n==0)]:=by
 refine ff X4 call18 func18 rfl rfl cO ntmps18 fI rfl ?_;intro zb;refine bS [0,1] J (aA ?_);have t1:=(gM v c n b hcb hb);exact eR [(800007,⟨true,iW t1⟩),(700007,⟨true, .agg [.ptr 1000 1000]:: .agg []::iX t1⟩)] [4] J qqy (au (bB J ⟨J,J,J,J,J,⟨⟩⟩))
theorem mE(v:Value)(c:xj)(l:List (List UInt8))(b:List UInt8)(hcb:c.b=b)(hb:b.length≤1048576)(hl:0<l.length∧l.length≤1048576):jr ty Tryz.prog 35 [(1000, .box [.uS v .u8 b,eE (c.i:Int),eE c.h])] [.a (.ptr 1000 0), .a (.sl .str l)] [(1000, .box [.uS v .u8 b,eE ((dn c (l.length:Int)).i:Int),eE (dn c (l.length:Int)).h])] [.a (.lit (.string (bG (stX c l))))]:=by
 refine ff X4 call35 func35 rfl rfl cO ntmps35 fI rfl ?_;intro zb;have Ng:=nK c (n:=(l.length:Int)) aJ;refine bS [0,1] J (aA ?_);have t1:=(gM v c (l.length:Int) b hcb hb);exact eR [(800009,⟨true,iW t1⟩),(700009,⟨true, .agg [.ptr 1000 1000]:: .agg []::iX t1⟩)] [4] J axq (au (bB J ⟨J,J,J,J,J,⟨⟩⟩))
end
section
set_option maxRecDepth 100000
theorem aAj{c:xj}: ∀l,l∈ [lsA,lsB,lsC,lsD,lsE,lsF,lsG]→(stX c l).length≤11:=by
 intro l hl;have key: ∀l,l∈ [lsA,lsB,lsC,lsD,lsE,lsF,lsG]→0<l.length∧ ∀i,i<l.length→(l.getD i []).length≤11:=by decide
 exact EU (P:=fun s=>s.length≤11) (key l hl).1 (key l hl).2
theorem EV(v:Value)(c:xj)(b:List UInt8)(hcb:c.b=b)(hb:b.length≤1048576):jr ty Tryz.prog 17 [(1000, .box [.uS v .u8 b,eE (c.i:Int),eE c.h])] [.a (.ptr 1000 0)] [(1000, .box [.uS v .u8 b,eE ((Ki c).i:Int),eE (Ki c).h])] [.a (.lit (.string (bG (Fw c))))]:=by
 refine ff X4 call17 func17 rfl rfl cO ntmps17 fI rfl ?_;intro zb;have q5:=nK c (n:=5) cO;have q12:=nK (dn c 5) (n:=12) cO;have q9:=nK (AG c) (n:=9) cO;have hdc:(AG c).b=b:=by unfold AG;rw[jO,jO];exact hcb
 have w1:(⟨#[32]⟩:ByteArray).size=1:=rfl;have w5: ∀a b d e f:UInt8,(⟨#[a,b,d,e,f]⟩:ByteArray).size=5:=fun _ _ _ _ _=>rfl;have w8: ∀a b d e f g h i:UInt8,(⟨#[a,b,d,e,f,g,h,i]⟩:ByteArray).size=8:=fun _ _ _ _ _ _ _ _=>rfl;have z5:=dO (n:=gV c 5) aJ;have z9:=dO (n:=gV (AG c) 9) aJ;rw[cZ]at z5 z9;have zs: ∀l,l∈ [lsA,lsB,lsC,lsD,lsE,lsF,lsG]→(stX (AG c) l).length≤11:=aAj;refine bS [0] J (aA ?_);have t1:=(gM v c 5 b hcb hb);refine eR [(800005,⟨true,iW t1⟩),(700005,⟨true, .agg [.ptr 1000 1000]:: .agg []::iX t1⟩),(6,⟨false,[.a (.lit (.string (bG (bN (gV c 5)))))]⟩)] [0,3] J (have u1:=(bF (gV c 5) fj);(by(with_reducible and_intros);(iterate 2 all_goals try first|exact⟨⟩|exact t1|exact u1);all_goals first|exact rfl)) (aA (aA ?_));have t1:=(gM v (dn c 5) 12 b (by rw[jO];exact hcb) hb);refine eR [(800008,⟨true,iW t1⟩),(700008,⟨true, .agg [.ptr 1000 1000]:: .agg []::iX t1⟩)] [0,3,8] J qqy (aK (eL [0,3,8,9] J ?_));refine bD J ?_ ?_<;>intro hb0
 ·refine av (bD J ?_ ?_)<;>intro cQ
  ·have h1:pJ c=0∨pJ c=1:=by unfold pJ;omega
   have hL:=show Fw c=_ from by rw[Fw,if_pos h1]
   have hN:=show Ki c=_ from by rw[Ki,if_pos h1]
   refine aA ?_;have zl:=zs lsA cO;have t1:=(mE v (AG c) lsA b Ux hb cO);refine eR [(800017,⟨true,iW t1⟩),(700017,⟨true, .agg [.ptr 1000 1000]:: .agg []::iX t1⟩)] [2] J UB ?_;exact au (bB J ⟨qqw,J,J,wH,wH,⟨⟩⟩)
  ·omega
 ·refine mM X4 [0,3,8,9] J ?_;refine bD J ?_ ?_<;>intro cQ
  ·have h1:pJ c=0∨pJ c=1:=by unfold pJ;omega
   have hL:=show Fw c=_ from by rw[Fw,if_pos h1]
   have hN:=show Ki c=_ from by rw[Ki,if_pos h1]
   refine aA ?_;have zl:=zs lsA cO;have t1:=(mE v (AG c) lsA b Ux hb cO);refine eR [(800017,⟨true,iW t1⟩),(700017,⟨true, .agg [.ptr 1000 1000]:: .agg []::iX t1⟩)] [2] J UB ?_;exact au (bB J ⟨qqw,J,J,wH,wH,⟨⟩⟩)
  ·have h1: ¬(pJ c=0∨pJ c=1):=by unfold pJ;omega
   refine bS [0,3,8,19] J ?_;refine bD J ?_ ?_<;>intro fu
   ·have h2:pJ c=2:=by unfold pJ;omega
    have hL:=show Fw c=_ from by rw[Fw,if_neg h1,if_pos h2]
    have hN:=show Ki c=_ from by rw[Ki,if_neg h1,if_pos h2]
    refine aA ?_;have zl:=zs lsB cO;have t1:=(mE v (AG c) lsB b Ux hb cO);refine eR [(800023,⟨true,iW t1⟩),(700023,⟨true, .agg [.ptr 1000 1000]:: .agg []::iX t1⟩)] [2] J UB ?_;exact au (bB J ⟨qqw,J,J,wH,wH,⟨⟩⟩)
   ·have h2: ¬pJ c=2:=by unfold pJ;omega
    refine bS [0,3,8,26] J ?_;refine bD J ?_ ?_<;>intro n9
    ·have h3:pJ c=3:=by unfold pJ;omega
     have hL:=show Fw c=_ from by rw[Fw,if_neg h1,if_neg h2,if_pos h3]
     have hN:=show Ki c=_ from by rw[Ki,if_neg h1,if_neg h2,if_pos h3]
     refine aA ?_;have zl:=zs lsC cO;have t1:=(mE v (AG c) lsC b Ux hb cO);refine eR [(800033,⟨true,iW t1⟩),(700033,⟨true, .agg [.ptr 1000 1000]:: .agg []::iX t1⟩)] [2] J UB ?_;exact au (bB J ⟨qqw,J,J,wH,wH,⟨⟩⟩)
    ·have h3: ¬pJ c=3:=by unfold pJ;omega
     refine bS [0,3,8,35] J ?_;refine bD J ?_ ?_<;>intro xI
     ·have h4:pJ c=4:=by unfold pJ;omega
      have hL:=show Fw c=_ from by rw[Fw,if_neg h1,if_neg h2,if_neg h3,if_pos h4]
      have hN:=show Ki c=_ from by rw[Ki,if_neg h1,if_neg h2,if_neg h3,if_pos h4]
      refine aA ?_;have zl:=zs lsD cO;have t1:=(mE v (AG c) lsD b Ux hb cO);refine eR [(800039,⟨true,iW t1⟩),(700039,⟨true, .agg [.ptr 1000 1000]:: .agg []::iX t1⟩)] [2] J UB ?_;exact au (bB J ⟨qqw,J,J,wH,wH,⟨⟩⟩)
     ·have h4: ¬pJ c=4:=by unfold pJ;omega
      refine bS [0,3,8,42] J ?_;refine bD J ?_ ?_<;>intro MT
      ·have h5:pJ c=5:=by unfold pJ;omega
       have hL:=show Fw c=_ from by rw[Fw,if_neg h1,if_neg h2,if_neg h3,if_neg h4,if_pos h5]
       have hN:=show Ki c=_ from by rw[Ki,if_neg h1,if_neg h2,if_neg h3,if_neg h4,if_pos h5]
       refine aA ?_;have zl:=zs lsE cO;have t1:=(mE v (AG c) lsE b Ux hb cO);refine eR [(800046,⟨true,iW t1⟩),(700046,⟨true, .agg [.ptr 1000 1000]:: .agg []::iX t1⟩)] [2] J UB ?_;exact au (bB J ⟨qqw,J,J,wH,wH,⟨⟩⟩)
      ·have h5: ¬pJ c=5:=by unfold pJ;omega
       refine bS [0,3,8,47] J ?_;refine bD J ?_ ?_<;>intro Oh
       ·have h6:pJ c=6:=by unfold pJ;omega
        have hL:=show Fw c=_ from by rw[Fw,if_neg h1,if_neg h2,if_neg h3,if_neg h4,if_neg h5,if_pos h6]
        have hN:=show Ki c=_ from by rw[Ki,if_neg h1,if_neg h2,if_neg h3,if_neg h4,if_neg h5,if_pos h6]
        refine aA ?_;have t1:=(gM v (AG c) 9 b Ux hb);refine eR [(800053,⟨true,iW t1⟩),(700053,⟨true, .agg [.ptr 1000 1000]:: .agg []::iX t1⟩),(54,⟨false,[.a (.lit (.string (bG (bN (gV (AG c) 9)))))]⟩)] [2] J UB ?_;exact au (bB J ⟨qqw,J,J,wH,wH,⟨⟩⟩)
       ·have h6: ¬pJ c=6:=by unfold pJ;omega
        refine bS [0,8,56] J ?_;refine bD J ?_ ?_<;>intro hb7
        ·have h7:pJ c=7:=by unfold pJ;omega
         have hL:=show Fw c=_ from by rw[Fw,if_neg h1,if_neg h2,if_neg h3,if_neg h4,if_neg h5,if_neg h6,if_pos h7]
         have hN:=show Ki c=_ from by rw[Ki,if_neg h1,if_neg h2,if_neg h3,if_neg h4,if_neg h5,if_neg h6,if_pos h7]
         refine aA ?_;have zl:=zs lsF cO;have t1:=(mE v (AG c) lsF b Ux hb cO);refine eR [(800060,⟨true,iW t1⟩),(700060,⟨true, .agg [.ptr 1000 1000]:: .agg []::iX t1⟩)] [2] J UB ?_;exact au (bB J ⟨qqw,J,J,wH,wH,⟨⟩⟩)
        ·have h7: ¬pJ c=7:=by unfold pJ;omega
         refine eL [0,8,61] J ?_;refine bD J ?_ ?_<;>intro hb8
         ·refine av (bD J ?_ ?_)<;>intro aiV
          ·have h8:pJ c=8∨pJ c=9∨pJ c=10:=by unfold pJ;omega
           have hL:=show Fw c=_ from by rw[Fw,if_neg h1,if_neg h2,if_neg h3,if_neg h4,if_neg h5,if_neg h6,if_neg h7,if_pos h8]
           have hN:=show Ki c=_ from by rw[Ki,if_neg h1,if_neg h2,if_neg h3,if_neg h4,if_neg h5,if_neg h6,if_neg h7,if_pos h8]
           exact bS [2] J (au (bB J ⟨qqw,J,J,wH,wH,⟨⟩⟩))
          ·omega
         ·refine bS [0,8,61] J ?_;refine bD J ?_ ?_<;>intro hb9
          ·refine av (bD J ?_ ?_)<;>intro aiV
           ·have h8:pJ c=8∨pJ c=9∨pJ c=10:=by unfold pJ;omega
            have hL:=show Fw c=_ from by rw[Fw,if_neg h1,if_neg h2,if_neg h3,if_neg h4,if_neg h5,if_neg h6,if_neg h7,if_pos h8]
            have hN:=show Ki c=_ from by rw[Ki,if_neg h1,if_neg h2,if_neg h3,if_neg h4,if_neg h5,if_neg h6,if_neg h7,if_pos h8]
            exact bS [2] J (au (bB J ⟨qqw,J,J,wH,wH,⟨⟩⟩))
           ·omega
          ·refine mM X4 [0,61] J ?_;refine bD J ?_ ?_<;>intro aiV
           ·have h8:pJ c=8∨pJ c=9∨pJ c=10:=by unfold pJ;omega
            have hL:=show Fw c=_ from by rw[Fw,if_neg h1,if_neg h2,if_neg h3,if_neg h4,if_neg h5,if_neg h6,if_neg h7,if_pos h8]
            have hN:=show Ki c=_ from by rw[Ki,if_neg h1,if_neg h2,if_neg h3,if_neg h4,if_neg h5,if_neg h6,if_neg h7,if_pos h8]
            exact bS [2] J (au (bB J ⟨qqw,J,J,wH,wH,⟨⟩⟩))
           ·have h8: ¬(pJ c=8∨pJ c=9∨pJ c=10):=by unfold pJ;omega
            have hL:=show Fw c=_ from by rw[Fw,if_neg h1,if_neg h2,if_neg h3,if_neg h4,if_neg h5,if_neg h6,if_neg h7,if_neg h8]
            have hN:=show Ki c=_ from by rw[Ki,if_neg h1,if_neg h2,if_neg h3,if_neg h4,if_neg h5,if_neg h6,if_neg h7,if_neg h8]
            refine av (aA ?_);have zl:=zs lsG cO;have t1:=(mE v (AG c) lsG b Ux hb cO);refine eR [(800067,⟨true,iW t1⟩),(700067,⟨true, .agg [.ptr 1000 1000]:: .agg []::iX t1⟩)] [2] J UB ?_;exact au (bB J ⟨qqw,J,J,wH,wH,⟨⟩⟩)
end
section
set_option maxRecDepth 100000
theorem EW(v:Value)(c:xj)(m:Int)(b:List UInt8)(hcb:c.b=b)(hb:b.length≤1048576)(hm:1≤m∧m≤1000):jr ty Tryz.prog 15 [(1000, .box [.uS v .u8 b,eE (c.i:Int),eE c.h])] [.a (.ptr 1000 0),aI m] [(1000, .box [.uS v .u8 b,eE ((Mf (dn (OE c) m) (AF c m)).i:Int),eE (Mf (dn (OE c) m) (AF c m)).h])] [.a (.lit (.string (bG (zC (HR c m (AF c m))))))]:=by
 refine ff X4 call15 func15 rfl rfl cO ntmps15 fI rfl ?_;intro zb;have q1:=nK c (n:=9) cO;have q2:=nK (dn c 9) (n:=2) cO;have q3:=nK (dn (dn c 9) 2) (n:=2) cO;have q4:=nK (dn (dn (dn c 9) 2) 2) (n:=99) cO;obtain⟨k1,k2,k3⟩:=Mg c (m:=m) aJ;have i1:af.wrap (8+gV c 9)=(8+gV c 9):=cY aJ;have i2:af.wrap (2+gV (dn c 9) 2)=(2+gV (dn c 9) 2):=cY aJ;have i3:af.wrap (1+gV (dn (dn c 9) 2) 2)=(1+gV (dn (dn c 9) 2) 2):=cY aJ;have y1:=dO (n:=(af.wrap (8+gV c 9))) aJ;have y2:=dO (n:=(af.wrap (2+gV (dn c 9) 2))) aJ;have y3:=dO (n:=(af.wrap (1+gV (dn (dn c 9) 2) 2))) aJ;have y4:=dO (n:=(gV (dn (dn (dn c 9) 2) 2) 99)) aJ;rw[cZ]at y1 y2 y3 y4;have hS:(⟨#[110,101,119,32]⟩:ByteArray)++bG (bN (8+gV c 9))++(⟨#[32]⟩:ByteArray)++bG (bN (2+gV (dn c 9) 2))++(⟨#[32]⟩:ByteArray)++bG (bN (1+gV (dn (dn c 9) 2) 2))++(⟨#[32]⟩:ByteArray)++bG (bN (gV (dn (dn (dn c 9) 2) 2) 99))++(⟨#[10]⟩:ByteArray)=bG (zC (HR c m 0)):=by rw[←aFg];unfold Rx;simp only[←jf]<;>rfl
 have w1:(⟨#[32]⟩:ByteArray).size=1:=rfl;have w0:(⟨#[10]⟩:ByteArray).size=1:=rfl;have w4: ∀a b d e:UInt8,(⟨#[a,b,d,e]⟩:ByteArray).size=4:=fun _ _ _ _=>rfl;refine bS [0,1] J (aA ?_);have t1:=(gM v c 9 b hcb hb);have t2:=(bF (af.wrap (8+gV c 9)) aJ);have t3:=(gM v (dn c 9) 2 b (by rw[jO];exact hcb) hb);have t4:=(bF (af.wrap (2+gV (dn c 9) 2)) aJ);have t5:=(gM v (dn (dn c 9) 2) 2 b (by rw[jO,jO];exact hcb) hb);have t6:=(bF (af.wrap (1+gV (dn (dn c 9) 2) 2)) aJ);have t7:=(gM v (dn (dn (dn c 9) 2) 2) 99 b (by rw[jO,jO,jO];exact hcb) hb);have t8:=(bF (gV (dn (dn (dn c 9) 2) 2) 99) aJ);refine eR [(800008,⟨true,iW t1⟩),(700008,⟨true, .agg [.ptr 1000 1000]:: .agg []::iX t1⟩),(10,⟨false,cA t2⟩),(800014,⟨true,iW t3⟩),(700014,⟨true, .agg [.ptr 1000 1000]:: .agg []::iX t3⟩),(16,⟨false,cA t4⟩),(800020,⟨true,iW t5⟩),(700020,⟨true, .agg [.ptr 1000 1000]:: .agg []::iX t5⟩),(22,⟨false,cA t6⟩),(800026,⟨true,iW t7⟩),(700026,⟨true, .agg [.ptr 1000 1000]:: .agg []::iX t7⟩),(27,⟨false,cA t8⟩)] [0,1,5] J aBW ?_;rw[i1,i2,i3,hS];refine aA (aA ?_);have t1:=(gM v (dn (dn (dn (dn c 9) 2) 2) 99) m b (by rw[jO,jO,jO,jO];exact hcb) hb);refine eR [(800032,⟨true,iW t1⟩),(700032,⟨true, .agg [.ptr 1000 1000]:: .agg []::iX t1⟩)] [0,5,6] J qqy ?_;rw[show af.wrap (1+gV (dn (dn (dn (dn c 9) 2) 2) 99) m)=((AF c m:Nat):Int)-((0:Nat):Int)from (cY (by have:gV (dn (dn (dn (dn c 9) 2) 2) 99) m=gV (OE c) m:=rfl;omega)).trans (by rw[k3];unfold OE;omega)];refine cm (AF c m) (fun k:Nat=> [(5, .one (.a (.lit (.string (bG (zC (HR c m k))))))),(6, .one ((aI (((AF c m:Nat):Int)-(k:Int)))))]) (fun k=> [(1000, .box [.uS v .u8 b,eE ((Mf (dn (OE c) m) k).i:Int),eE (Mf (dn (OE c) m) k).h])]) (fun k=>rfl) rfl ?_;intro k hk;have hbq:(Mf (dn (OE c) m) k).b=b:=by rw[aaY,jO,apt];exact hcb
 have hsz:=adH c m k;have hdz:=(agT (W1 (Mf (dn (OE c) m) k))).2.2;refine eL [0,5,6,35] J ?_;refine bD J ?_ ?_<;>intro hb0
 ·have hsb:af.wrap (((AF c m:Nat):Int)-(k:Int)-1)=((AF c m:Nat):Int)-((k+1:Nat):Int):=by rw[cY aJ];omega
  have hst:bG (zC (HR c m k))++bG (Fw (Mf (dn (OE c) m) k))++(⟨#[10]⟩:ByteArray)=bG (zC (HR c m (k+1))):=(apu c m k).symm;refine av (aA (aK ?_));have t1:=(EV v (Mf (dn (OE c) m) k) b hbq hb);refine eR [(800040,⟨true,iW t1⟩),(700040,⟨true, .agg [.ptr 1000 1000]:: .agg []::iX t1⟩)] [0,5,6] J aBW (mM X4 [0,5,6] J ?_);exact axE
 ·have hkn:AF c m=k:=by omega
  exact bf (bS [4] J (au (bB J ⟨by rw[hkn],J,J,by rw[hkn],by rw[hkn],⟨⟩⟩)))
end
section
set_option maxRecDepth 100000
theorem HN(l:List UInt8)(hl:l.length≤1048576):So 8 [.a (.sl .u8 l)] [.a (.lit (.string (bG (wV l)))), .a (.lit (.string (bG (scB l))))]:=by
 refine eU X4 call8 func8 rfl rfl cO ntmps8 fI ?_;intro zb;refine anI 0 (fun v=>rfl) (fun v=> ?_);obtain⟨k1,k2⟩:=adI l;have RU:(SO l).b=l:=by unfold SO;rw[aaY,jO,apt];rfl
 have w1:(⟨#[32]⟩:ByteArray).size=1:=rfl;have w0:(⟨#[10]⟩:ByteArray).size=1:=rfl;refine bS [0] J (aA ?_);have t1:=(JB v l);refine eR [(800009,⟨true,iW t1⟩),(700009,⟨true, .agg []:: .agg [.ptr 907 907]::iX t1⟩)] [4] J qqy (aA ?_);have t1:=(EW v (jQ l) 12 l rfl hl aJ);refine eR [(800011,⟨true,iW t1⟩),(700011,⟨true, .agg [.ptr 1000 907]:: .agg []::iX t1⟩)] [4,5] J qqy (bS [4,5,6] J (aA (aA ?_)));have t1:=(gM v (SO l) 5 l RU hl);refine eR [(800013,⟨true,iW t1⟩),(700013,⟨true, .agg [.ptr 1000 907]:: .agg []::iX t1⟩)] [4,5,6,7] J qqy ?_;rw[show af.wrap (1+gV (SO l) 5)=((scK l:Nat):Int)-((0:Nat):Int)from (cY aJ).trans aJ];refine cm (scK l) (fun k:Nat=> [(6, .one (.a (.lit (.string (bG (zC (HQ (dn (SO l) 5) k))))))),(7, .one ((aI (((scK l:Nat):Int)-(k:Int)))))]) (fun k=> [(907, .box [.uS v .u8 l,eE ((Mf (dn (SO l) 5) k).i:Int),eE (Mf (dn (SO l) 5) k).h])]) (fun k=>rfl) rfl ?_;intro k hk;have hbq:(Mf (dn (SO l) 5) k).b=l:=by rw[aaY,jO];exact RU
 have hsz:=agW (dn (SO l) 5) k;have hdz:=(agT (W1 (Mf (dn (SO l) 5) k))).2.2;refine eL [4,5,6,7,16] J ?_;refine bD J ?_ ?_<;>intro hb0
 ·have hsb:af.wrap (((scK l:Nat):Int)-(k:Int)-1)=((scK l:Nat):Int)-((k+1:Nat):Int):=by rw[cY aJ];omega
  have hst:bG (zC (HQ (dn (SO l) 5) k))++bG (Fw (Mf (dn (SO l) 5) k))++(⟨#[10]⟩:ByteArray)=bG (zC (HQ (dn (SO l) 5) (k+1))):=ajk (dn (SO l) 5) k;refine av (aA (aK ?_));have t1:=(EV v (Mf (dn (SO l) 5) k) l hbq hl);refine eR [(800021,⟨true,iW t1⟩),(700021,⟨true, .agg [.ptr 1000 907]:: .agg []::iX t1⟩)] [4,5,6,7] J (by(with_reducible and_intros)<;>first|exact⟨⟩|exact t1|exact t2|exact t3|exact t4|exact t5|exact t6|exact t7|exact t8|exact(bF _ aJ)| (intros;omega)| (intros;simp only[eK,cZ,BR,w1,w0]<;>omega)) (mM X4 [4,5,6,7] J ?_);exact axE
 ·have hkn:scK l=k:=by omega
  exact bf (bS [2,3] J (au (aj J ⟨J,by unfold scB;rw[hkn],⟨⟩⟩)))
theorem EX(l:List UInt8)(hl:l.length≤1048576):So 9 [.a (.sl .u8 l)] [.a (.lit (.string (bG (drR l))))]:=by
 refine eU X4 call9 func9 rfl rfl cO ntmps9 fI ?_;intro zb;refine anI 0 (fun v=>rfl) (fun v=> ?_);have hq:=axh l;have hm:=axi hl;have hdl:(zC (HR (Uo l) (RS l) (AF (Uo l) (RS l)))).length≤900:=apy hl;have hbc:(Uo l).b=l:=by unfold Uo;rw[jO];rfl
 have hbe:(Mf (dn (OE (Uo l)) (RS l)) (AF (Uo l) (RS l))).b=l:=by rw[aaY,jO,apt];exact hbc
 have w6:(⟨#[113,117,105,101,116,10]⟩:ByteArray).size=6:=rfl;have w5:(⟨#[119,111,114,108,100]⟩:ByteArray).size=5:=rfl;have hsm:af.wrap (6+Sg l 20)=RS l:=cY (by unfold RS at hm;omega);refine bS [0] J (aA ?_);have t1:=(JB v l);refine eR [(800008,⟨true,iW t1⟩),(700008,⟨true, .agg []:: .agg [.ptr 907 907]::iX t1⟩)] [0,3] J qqy (aA (aA ?_));have t1:=(Ci v (jQ l) 40 l rfl hl);refine eR [(800010,⟨true,iW t1⟩),(700010,⟨true, .agg [.ptr 1000 907]:: .agg []::iX t1⟩)] [0,3,10] J qqy ?_;refine bD J ?_ ?_<;>intro hb0
 ·have h0:gV (jQ l) 40=0:=by simpa using hb0
  refine bS [3,4] J (aA (aA ?_));have t1:=(Wf v (dn (jQ l) 40) l80 l (by rw[jO];rfl) hl cO);refine eR [(800013,⟨true,iW t1⟩),(700013,⟨true, .agg [.ptr 1000 907]:: .agg []::iX t1⟩)] [4,5] J (by(repeat' with_reducible first|exact c8|refine dP ?_ ?_|apply cL)<;>first|exact t1|exact rfl|exact⟨rfl,fA _ cO⟩) ?_;rw[show l80.getD (gV (dn (jQ l) 40) (l80.length:Int)).toNat (aO .int)=(((drQ l).toNat:Nat):Int)-((0:Nat):Int)from by have e:l80.getD (gV (dn (jQ l) 40) (l80.length:Int)).toNat (aO .int)=drQ l:=rfl;omega];refine cm ((drQ l).toNat) (fun k:Nat=> [(4, .one (.a (.lit (.string (bG (qtL k)))))),(5, .one ((aI ((((drQ l).toNat:Nat):Int)-(k:Int)))))]) (fun k=> []) (fun k=>rfl) rfl ?_;intro k hk;have hsz:=W5 k;refine eL [4,5,15] J ?_;refine bD J ?_ ?_<;>intro cQ
  ·have hsb:af.wrap ((((drQ l).toNat:Nat):Int)-(k:Int)-1)=(((drQ l).toNat:Nat):Int)-((k+1:Nat):Int):=by rw[cY aJ];omega
   have hst:bG (qtL k)++(⟨#[113,117,105,101,116,10]⟩:ByteArray)=bG (qtL (k+1)):=jf _ _;refine av (aA (aK (iB X4 [4,5] J aBX (mM X4 [4,5] J ?_))));exact axE
  ·have hkn:(drQ l).toNat=k:=by omega
   exact bf (bS [2] J (au (aj J ⟨by rw[drR,if_pos h0,hkn],⟨⟩⟩)))
 ·have h0: ¬gV (jQ l) 40=0:=by simpa using hb0
  refine av (aA ?_);have t1:=(EW v (Uo l) (af.wrap (6+Sg l 20)) l hbc hl (by rw[hsm];omega));refine eR [(23,⟨false,[aI (Sg l 20)]⟩),(800025,⟨true,iW t1⟩),(700025,⟨true, .agg [.ptr 1000 907]:: .agg []::iX t1⟩)] [3,6] J (aBf (Sh l 20)) ?_;rw[hsm];refine aA (aA ?_);have t1:=(Ci v (Mf (dn (OE (Uo l)) (RS l)) (AF (Uo l) (RS l))) 8 l hbe hl);refine eR [(800027,⟨true,iW t1⟩),(700027,⟨true, .agg [.ptr 1000 907]:: .agg []::iX t1⟩)] [6,27] J qqy ?_;refine bD J ?_ ?_<;>intro fu
  ·have h8:gV (Mf (dn (OE (Uo l)) (RS l)) (AF (Uo l) (RS l))) 8=0:=by simpa using fu
   exact iZ X4 [2] J aBX (au (aj J ⟨by rw[drR,if_neg h0,if_pos h8];exact congrArg Value.string (jf _ _),⟨⟩⟩))
  ·have h8: ¬gV (Mf (dn (OE (Uo l)) (RS l)) (AF (Uo l) (RS l))) 8=0:=by simpa using fu
   exact av (bS [2] J (au (aj J ⟨by rw[drR,if_neg h0,if_neg h8];rfl,⟨⟩⟩)))
end
set_option maxRecDepth 100000
theorem auW(l:List UInt8):So 7 [.a (.sl .u8 l)] [aX (decide ((1048576:Int)<(l.length:Int)))]:=by
 refine eU X4 call7 func7 rfl rfl cO ntmps7 fI ?_;intro zb;exact fC 0 rfl (fun pK=>(bS [0] J (bS [2] J (au (aj J ⟨J,⟨⟩⟩)))))
set_option maxHeartbeats 4000000 in
theorem SP(l:List UInt8)(hcn: ∀l,Xr (xL l) (xL l).length=neN (HR (jQ l) 12 (AF (jQ l) 12))):So 4 [.a (.sl .u8 l)] [aX true]:=by
 refine eU X4 call4 func4 rfl rfl cO ntmps4 fI ?_;intro zb;have hA:=W4 l;have hB:=apv l;have hpos:=auV l;have hxz:=aFl l;have hz:(bG (wV l)).size=(wV l).length:=rfl;have hzx:(bG (xL l)).size=(xL l).length:=rfl;have zAB:(((bG (wV l)).size+(bG (scB l)).size:Nat):Int)≤af.max:=by rw[cZ,cZ,BR];omega
 obtain⟨t,ht⟩:=apA l;have hpr:=(hcn l).trans (ajn l).symm;refine bS [0] J (wu X4 [(13,⟨false,[aX (decide ((1048576:Int)<(l.length:Int)))]⟩)] [0,13] J (eY (auW l)) ?_);refine aM J ?_ ?_<;>intro hb0
 ·exact bS [2] J (au (aj J ⟨J,⟨⟩⟩))
 ·have hl:l.length≤1048576:=by have:=of_decide_eq_false hb0;omega
  have hR:=aAg hl;have s1:So 5 [.a (.lit (.string (bG (wV l))))] [.a (.lit (.string (bG (xL l))))]:=by rw[←agY];exact uE (wV l) aJ
  have s2:So 5 [.a (.lit (.string (bG (wV l)++bG (scB l))))] [.a (.lit (.string (bG ((xL l)++t))))]:=by rw[jf, ←ht];exact uE (wV l++scB l) (by rw[List.length_append];omega)
  have s3:So 6 [.a (.lit (.string (bG (drR l))))] [.a (.lit (.string (runM (drR l))))]:=uD (drR l) aJ;have s4:So 5 [.a (.lit (.string (bG (drR l))))] [.a (.lit (.string (runM (drR l))))]:=uE (drR l) aJ;have s5:So 6 [.a (.lit (.string (bG (wV l))))] [.a (.lit (.string (bG (xL l))))]:=by rw[←agY];exact uD (wV l) aJ
  have s6:So 6 [.a (.lit (.string (bG (wV l)++bG (scB l))))] [.a (.lit (.string (bG ((xL l)++t))))]:=by rw[jf, ←ht];exact uD (wV l++scB l) (by rw[List.length_append];omega)
  skip
  refine av (gE [(16,⟨false,[.a (.lit (.string (bG (wV l)))), .a (.lit (.string (bG (scB l))))]⟩)] [0,3,4] J (eY (HN l fj)) (gE [(20,⟨false,[.a (.lit (.string (bG (xL l))))]⟩)] [0,3,4,5] J (by(with_reducible and_intros)<;>first|exact⟨⟩|with_reducible exact s5| (intros;simp only[eK,cZ,BR]<;>omega)) (gE [(24,⟨false,[.a (.lit (.string (bG ((xL l)++t))))]⟩)] [0,3,4,5,6] J (by(with_reducible and_intros)<;>first|exact⟨⟩|with_reducible exact s6| (intros;simp only[eK,cZ,BR]<;>omega)) (gE [(26,⟨false,[.a (.lit (.string (bG (drR l))))]⟩)] [3,4,5,6,7] J (eY (EX l fj)) (wu X4 [(29,⟨false,[.a (.lit (.string (bG (xL l))))]⟩),(36,⟨false,[.a (.lit (.string (bG ((xL l)++t))))]⟩),(41,⟨false,[.a (.lit (.string (runM (drR l))))]⟩),(43,⟨false,[.a (.lit (.string (runM (drR l))))]⟩)] [3,5,6,45] J (cL (by first|exact fun _=>s4|exact fun _ _=>s4|exact fun _ _ _=>s4) (cL (by first|exact fun _=>s3|exact fun _ _=>s3|exact fun _ _ _=>s3) (cL (by first|exact fun _=>s2|exact fun _ _=>s2|exact fun _ _ _=>s2) (cL (by first|exact fun _=>zAB|exact fun _ _=>zAB|exact fun _ _ _=>zAB) (cL s1 ⟨⟩))))) ?_)))));refine aM J ?_ ?_<;>intro cQ
  ·exact absurd cQ fI
  ·try simp only[SQ]at cQ
   refine av (bS [3,5,6,8] J (eL [3,5,6,8,9] J ?_));refine cm ((wV l).length-1) (fun k:Nat=> [(8, .one ((aI ((Up (wV l) k:Nat):Int)))),(9, .one ((aI ((k:Int)+1))))]) (fun k=> []) (fun k=>rfl) rfl ?_;intro k hk;have hle:=apz (wV l) k;refine eL [3,5,6,8,9,49] J ?_;refine bD J ?_ ?_<;>intro fu
   ·have hk1:k+1<(wV l).length:=by omega
    have hib:af.wrap ((k:Int)+1+1)=((k+1:Nat):Int)+1:=by rw[cY aJ];omega
    have hi0:af.wrap ((k:Int)+1-1)=(k:Int):=by rw[cY aJ];omega
    refine av (aA (aK (iZ X4 [3,5,6,8,9,62] J (cL (fun _=>by(show 0≤af.wrap ((k:Int)+1-1)∧af.wrap ((k:Int)+1-1)<((bG (wV l)).size:Int);omega)) (cL (by(show 0≤(k:Int)+1∧(k:Int)+1<((bG (wV l)).size:Int);omega)) ⟨⟩)) ?_)));refine bD J ?_ ?_<;>intro n9
    ·have hlb:af.wrap (((Up (wV l) k:Nat):Int)+1)=((Up (wV l) (k+1):Nat):Int):=by rw[aFh (s:=wV l) (k:=k) aJ (by rw[hi0];omega) n9,cY aJ];omega
     exact mM X4 [3,5,6,8,9] J (mM X4 [3,5,6,8,9] J aCs)
    ·have hlb:((Up (wV l) k:Nat):Int)=((Up (wV l) (k+1):Nat):Int):=by rw[aFi (s:=wV l) (k:=k) aJ (by rw[hi0];omega) n9]
     exact av (mM X4 [3,5,6,8,9] J aCs)
   ·have hkn:k=(wV l).length-1:=by omega
    refine bf (bS [5,6,8,10] J (eL [5,6,8,10,11] J ?_));refine cm ((xL l).length) (fun k1:Nat=> [(10, .one ((aI ((Xr (xL l) k1:Nat):Int)))),(11, .one ((aI k1)))]) (fun k1=> []) (fun k1=>rfl) rfl ?_;intro k1 hk1;have K0:=aAi (xL l) k1;refine eL [5,6,8,10,11,68] J ?_;refine bD J ?_ ?_<;>intro xI
    ·have hk2:k1<(xL l).length:=by omega
     refine av (aA (aK (iZ X4 [5,6,8,10,11,74] J (cL (by(show 0≤(k1:Int)∧(k1:Int)<((bG (xL l)).size:Int);omega)) ⟨⟩) ?_)));refine bD J ?_ ?_<;>intro MT
     ·have hpb:af.wrap (((Xr (xL l) k1:Nat):Int)+1)=((Xr (xL l) (k1+1):Nat):Int):=by rw[aFj hk2 MT,cY aJ];omega
      exact mM X4 [5,6,8,10,11] J (mM X4 [5,6,8,10,11] J aCm)
     ·have hpb:((Xr (xL l) k1:Nat):Int)=((Xr (xL l) (k1+1):Nat):Int):=by rw[aFk hk2 MT]
      exact av (mM X4 [5,6,8,10,11] J aCm)
    ·have aHJ:k1=(xL l).length:=by omega
     refine bf (iZ X4 [2] J aAZ ?_);exact au (aj J ⟨congrArg Value.bool (aFm (by rw[aHJ,hkn];exact hpr)),⟨⟩⟩)
end Go.Proofs.YtaalpcnbbldlaaaGreatDoor.G
