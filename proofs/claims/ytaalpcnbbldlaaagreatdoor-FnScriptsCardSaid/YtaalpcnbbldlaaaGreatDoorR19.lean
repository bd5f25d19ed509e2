/- Steps. -/
import Derived.Test.YtaalpcnbbldlaaaGreatDoorR14
import Derived.Test.YtaalpcnbbldlaaaGreatDoorR18
open ByteArray renaming append_assoc→tR,size_append→eK
open Go.Lib renaming itoa→bN
open List renaming length→aN,length_map→bt,length_singleton→gz,length_take→ct,length_take_le→rK,take_of_length_le→aD,toArray→Er
namespace Go.Proofs.YtaalpcnbbldlaaaGreatDoor.G
set_option linter.all false
open Go.RowKit L D Tryz
section
set_option maxRecDepth 100000
theorem vE:So 31 [] [.a (.sl .str names)]:=by
 refine aZ call31 func31 ntmps31 ?_;intro zb;exact O [] J (aL [0] J ⟨⟨rfl,fA _ cO⟩,by decide,by decide,by decide,by decide,⟨⟩⟩ (au (aj J ⟨J,⟨⟩⟩)))
theorem FZ(x:cH)(h1:vO x.id)(h3:vO x.round)(h5:vO x.behavior):So 79 [.agg (ep x)] [.a (.lit (.string (Hy x)))]:=by
 refine aZ call79 func79 ntmps79 ?_;intro zb;have z1:=dO h1;have z2:=dO h3;have z3:=Ww x.behavior.toNat;unfold vO at h1 h3 h5;refine O [1] J (O [1,3] J (bZ [(6,⟨false,[aX (inr x.behavior 0 3)]⟩)] [1,3,6] J (eY (bu x.behavior 0 3)) ?_));refine aM J ?_ ?_<;>intro hb0
 ·have z4:(⟨Er (names.getD x.behavior.toNat (aO Tag.str))⟩:ByteArray).size≤6:=z3;have z5:(⟨Er ([[104,111,110,101,115,116],[100,114,111,112,115],[97,108,116,101,114,115],[108,105,101,115]].getD x.behavior.toNat (aO Tag.str))⟩:ByteArray).size≤6:=z3;have hnl:names.length=4:=rfl;have hin:0≤x.behavior∧x.behavior≤3:=by simp only[inr]at hb0;split at hb0<;>simp_all
  have hbh:LX x.behavior=bG (names.getD x.behavior.toNat []):=by unfold LX;rw[if_pos hb0]
  exact cT X [(7,⟨true,[.a (.sl .str names)]⟩)] [1,3] 63 rfl (OH vE) (aA (cT X [(14,⟨false,[.a (.lit (.string (bG (bN x.id))))]⟩),(18,⟨false,[.a (.lit (.string (bG (bN x.round))))]⟩)] [2] 4095 rfl (arh (cK x.id fj) (cK x.round fj)) (au (aj J ⟨by unfold Hy;rw[hbh];rfl,⟨⟩⟩))))
 ·have hbh:LX x.behavior=bG [63]:=by unfold LX;rw[if_neg abw]
  exact av (aA (cT X [(14,⟨false,[.a (.lit (.string (bG (bN x.id))))]⟩),(18,⟨false,[.a (.lit (.string (bG (bN x.round))))]⟩)] [2] 4095 rfl (arh (cK x.id fj) (cK x.round fj)) (au (aj J ⟨by unfold Hy;rw[hbh];rfl,⟨⟩⟩))))
theorem F0(x:cH)(h1:vO x.id)(h3:vO x.round)(h5:vO x.behavior):So 52 [.agg (ep x)] [.a (.lit (.string (Hy x)))]:=by
 refine aZ call52 func52 ntmps52 ?_;intro zb;have z1:=dO h1;have z2:=dO h3;have z3:=Ww x.behavior.toNat;unfold vO at h1 h3 h5;refine O [1] J (O [1,3] J (bZ [(6,⟨false,[aX (inr x.behavior 0 3)]⟩)] [1,3,6] J (eY (bJ x.behavior 0 3)) ?_));refine aM J ?_ ?_<;>intro hb0
 ·have z4:(⟨Er (names.getD x.behavior.toNat (aO Tag.str))⟩:ByteArray).size≤6:=z3;have z5:(⟨Er ([[104,111,110,101,115,116],[100,114,111,112,115],[97,108,116,101,114,115],[108,105,101,115]].getD x.behavior.toNat (aO Tag.str))⟩:ByteArray).size≤6:=z3;have hnl:names.length=4:=rfl;have hin:0≤x.behavior∧x.behavior≤3:=by simp only[inr]at hb0;split at hb0<;>simp_all
  have hbh:LX x.behavior=bG (names.getD x.behavior.toNat []):=by unfold LX;rw[if_pos hb0]
  exact iB X [1,3] J ⟨by show x.behavior.toNat<4;omega,⟨hin.1,by show x.behavior<((4:Nat):Int);omega⟩,⟨rfl,fA _ cO⟩,by decide,by decide,by decide,by decide,⟨⟩⟩ (aA (cT X [(14,⟨false,[.a (.lit (.string (bG (bN x.id))))]⟩),(18,⟨false,[.a (.lit (.string (bG (bN x.round))))]⟩)] [2] 4095 rfl (arh (bF x.id fj) (bF x.round fj)) (au (aj J ⟨by unfold Hy;rw[hbh];rfl,⟨⟩⟩))))
 ·have hbh:LX x.behavior=bG [63]:=by unfold LX;rw[if_neg abw]
  exact av (aA (cT X [(14,⟨false,[.a (.lit (.string (bG (bN x.id))))]⟩),(18,⟨false,[.a (.lit (.string (bG (bN x.round))))]⟩)] [2] 4095 rfl (arh (bF x.id fj) (bF x.round fj)) (au (aj J ⟨by unfold Hy;rw[hbh];rfl,⟨⟩⟩))))
theorem Gr(l:List (List UInt8))(c:UInt8)(h:gb aN l≤1099511627776):So 109 [.a (.sl .str l), .a (.lit (.string (bG [c])))] [.a (.lit (.string (Xk l c)))]:=by
 refine aZ call109 func109 ntmps109 ?_;intro zb;refine fC 0 rfl (fun pK=>(O [0,1] J (aR [0,1,7] J ?_)));refine bD J ?_ ?_<;>intro hb0
 ·exact O [4] J (au (aj J ⟨by unfold Xk;rw[if_pos aJ];rfl,⟨⟩⟩))
 ·exact av (bq [(10,⟨false,[.a (.lit (.string (bG (Lib.join l [c]))))]⟩)] [4] J (eY (En l c h)) (au (aj J ⟨by unfold Xk;rw[if_neg aJ],⟨⟩⟩)))
theorem CH(l:List UInt8)(f:FuncId)(p:UInt8→Bool)(hf: ∀b,So f [.a (.lit (.int .u8 (b.toNat:Int)))] [aX (p b)]):So 332 [.a (.sl .u8 l), .a (.lit (.func (.func f) #[] #[]))] [aI (fidx p l)]:=by
 refine aZ call332 func332 ntmps332 ?_;intro zb;refine fC 0 rfl (fun pK=>(O [0,1] J (aR [0,1,7,8] J ?_)));refine aK (ef (fun k=>k≤l.length∧(l.take k).any p=false) (fun k:Nat=> [(8, .one ((aI k)))]) (fun k=> []) (fun k=>l.length-k) 0 (fun k=>rfl) ⟨Nat.zero_le _,rfl⟩ rfl ?_);rintro k ⟨hk,hall⟩;refine O [0,1,7,8,9] J ?_;refine eg J ?_ ?_<;>intro hb0
 ·refine av (aA (aK (O [0,1,5,7,8] J (bq [(16,⟨false,[aX (p (l.getD k (aO .u8)))]⟩)] [0,1,5,7,8,16] J axt ?_))));refine aM J ?_ ?_<;>intro cQ
  ·exact O [4] J (au (aj J ⟨by rw[Dz (aO .u8) hb0 hall cQ],⟨⟩⟩))
  ·refine av (bI [0,1,7,8] J ?_);refine⟨k+1,⟨aJ,Bf (aO .u8) hb0 hall cQ⟩,aJ,?_⟩;rw[gT _ k rfl aJ];try rfl
 ·exact bf (O [4] J (au (aj J ⟨by rw[K4 OI],⟨⟩⟩)))
theorem zz(l:List UInt8)(f:FuncId)(p:UInt8→Bool)(hf: ∀b,So f [.a (.lit (.int .u8 (b.toNat:Int)))] [aX (p b)]):So 270 [.a (.sl .u8 l), .a (.lit (.func (.func f) #[] #[]))] [aX (l.any p)]:=by
 refine aZ call270 func270 ntmps270 ?_;intro zb;exact O [0,1] J (bq [(7,⟨false,[aI (fidx p l)]⟩)] [4] J (eY (CH l f p hf)) (au (aj J ⟨congrArg Value.bool (Vx p l),⟨⟩⟩)))
theorem Es(c:UInt8):So 271 [.a (.lit (.int .u8 (c.toNat:Int)))] [aX ((c.toNat:Int) !=0)]:=by
 refine aZ call271 func271 ntmps271 ?_;intro zb;exact O [0] J (O [2] J (au (aj J ⟨J,⟨⟩⟩)))
theorem Hz(b:List UInt8):So 197 [.a (.sl .u8 b)] [aX (!bz b)]:=by
 refine aZ call197 func197 ntmps197 ?_;intro zb;exact O [0] J (bq [(4,⟨false,[aX (b.any fun c=>(c.toNat:Int) !=0)]⟩)] [2] J (by(with_reducible and_intros)<;>first|exact⟨⟩|exact(zz _ _ _ Es)) (au (aj J ⟨J,⟨⟩⟩)))
theorem HA(b:List UInt8):So 152 [.a (.sl .u8 b)] [aX (!bz b)]:=by
 refine aZ call152 func152 ntmps152 ?_;intro zb;refine fC 0 rfl (fun pK=>(O [0] J (aR [0,3] J ?_)));refine aK (ef (fun k=>k≤b.length∧(b.take k).any (fun c=>(c.toNat:Int) !=0)=false) (fun k:Nat=> [(3, .one ((aI k)))]) (fun k=> []) (fun k=>b.length-k) 0 (fun k=>rfl) ⟨Nat.zero_le _,rfl⟩ rfl ?_);rintro k ⟨hk,hall⟩;refine aR [0,3,7] J ?_;refine bD J ?_ ?_<;>intro hb0
 ·refine av (aA (aK (aL [0,3,14] J je ?_)));refine aM J ?_ ?_<;>intro cQ
  ·exact O [2] J (au (aj J ⟨by unfold bz;rw[IC b _ (aO .u8) k hb0 cQ];rfl,⟨⟩⟩))
  ·refine av (bI [0,3] J ?_);refine⟨k+1,⟨aJ,Bf (aO .u8) hb0 hall cQ⟩,aJ,?_⟩;rw[gT _ k rfl aJ];try rfl
 ·exact bf (O [2] J (au (aj J ⟨by rw[aD hb0]at hall;unfold bz;rw[hall];rfl,⟨⟩⟩)))
theorem rZ(d:DB):So 114 [.agg (bT d)] [aI ((so d.rows:Nat):Int)]:=by
 refine aZ call114 func114 ntmps114 ?_;intro zb;refine cj 0 0 rfl rfl (fun pK=>(O [1] J (O [1,3] J (aR [3,7,8,9] J ?_))));refine cm d.rows.length (fun k:Nat=> [(3, .one ((aI ((so (d.rows.take k):Nat):Int)))),(9, .one ((aI k)))]) (fun k=> []) (fun k=>rfl) rfl ?_;intro k hk;have hcl:=Ft (d.rows.take k);have htl:(d.rows.take k).length≤k:=rK _ _;refine O [3,7,8,9,10] J ?_;refine eg J ?_ ?_<;>intro hb0
 ·refine av (aA (aK (aL [3,5,7,8,9] J je (bq [(14,⟨false,[aX (!bz (d.rows.getD k (aO (.sl .u8))))]⟩)] [3,7,8,9,15] J (eY (Hz (d.rows.getD k (aO (.sl .u8))))) ?_))));refine aM J ?_ ?_<;>intro cQ
  ·have hs:=aac d.rows k (aO (.sl .u8)) hb0 ag7;exact bI [3,7,8,9] J (bI [3,7,8,9] J aCa)
  ·have hs:=Uc d.rows k (aO (.sl .u8)) hb0 ag7;exact av (bI [3,7,8,9] J gZ)
 ·exact bf (O [2] J (au (aj J ⟨by rw[aD hb0],⟨⟩⟩)))
theorem kJ(d:DB):So 85 [.agg (bT d)] [aI ((so d.rows:Nat):Int)]:=by
 refine aZ call85 func85 ntmps85 ?_;intro zb;refine cj 0 0 rfl rfl (fun pK=>(O [1] J (O [1,3] J (aR [1,3,4] J ?_))));refine cm d.rows.length (fun k:Nat=> [(3, .one ((aI ((so (d.rows.take k):Nat):Int)))),(4, .one ((aI k)))]) (fun k=> []) (fun k=>rfl) rfl ?_;intro k hk;have hcl:=Ft (d.rows.take k);have htl:(d.rows.take k).length≤k:=rK _ _;refine aR [1,3,4,9] J ?_;refine bD J ?_ ?_<;>intro hb0
 ·refine av (aA (aK (bq [(17,⟨false,[aX (!bz (d.rows.getD k (aO (.sl .u8))))]⟩)] [1,3,4,18] J (OH (HA (d.rows.getD k (aO (.sl .u8))))) ?_)));refine aM J ?_ ?_<;>intro cQ
  ·have hs:=aac d.rows k (aO (.sl .u8)) hb0 ag7;exact bI [1,3,4] J (bI [1,3,4] J aCa)
  ·have hs:=Uc d.rows k (aO (.sl .u8)) hb0 ag7;exact av (bI [1,3,4] J gZ)
 ·exact bf (O [2] J (au (aj J ⟨by rw[aD hb0],⟨⟩⟩)))
theorem Et(a:tE)(hw:abC a)(hz: ∀y,y∈a.rounds→y.db.rows.length≤1048576)(hl:a.rounds.length≤1048576):So 61 [.agg (gX a)] [.a (.lit (.string (LY a)))]:=by
 refine aZ call61 func61 ntmps61 ?_;intro zb;obtain⟨_,sA⟩:=hw;have hlz:=BH Ko 43 a.rounds (ac2 sA hz);refine O [1] J (aL [1,3] J qb (aR [3,8,9,10] J ?_));refine cm a.rounds.length (fun k:Nat=> [(10, .one ((aI k)))]) (fun k=> [(6, .arr .str ((a.rounds.map Ko).take k))]) (fun k=>rfl) rfl ?_;intro k hk;have htl:((a.rounds.map Ko).take k).length≤1048576:=by rw[ct,bt];omega
 refine O [3,8,9,10,11] J ?_;refine eg J ?_ ?_<;>intro hb0
 ·obtain⟨q1,_⟩:=at_mem sA hb0 (aO .bn);have q2:=at_mem hz hb0 (aO .bn);have q3:=Ft (a.rounds.getD k (aO .bn)).db.rows;have z1:=dO q1;have z2:=dO (n:=(so (a.rounds.getD k (aO .bn)).db.rows:Int)) aJ;unfold vO at q1;have hat:(a.rounds.map Ko).getD k []=Ko (a.rounds.getD k (aO .bn)):=Q5 Ko hb0 _ _;have hlm:(a.rounds.map Ko).length=a.rounds.length:=bt ..;have hs:(a.rounds.map Ko).take (k+1)=(a.rounds.map Ko).take k++ [Ko (a.rounds.getD k (aO .bn))]:=by rw[cD _ k [] aJ,hat]
  refine av (aA (aK (aL [3,5,8,9,10] J je ?_)));have t1:=(cK ((a.rounds.getD k (aO .bn)).round) fj);have t2:=(rZ ((a.rounds.getD k (aO .bn)).db));have t3:=(cK ((so (a.rounds.getD k (aO .bn)).db.rows:Nat):Int) fj);refine cu X [(25,6)] [(17,⟨false,cA t1⟩),(21,⟨false,cA t2⟩),(22,⟨false,cA t3⟩)] [3,8,9,10] [] 2047 0 MO gq J gq (have u1:=(cK ((a.rounds.getD k (aO .bn)).round) fj);have u2:=(rZ ((a.rounds.getD k (aO .bn)).db));have u3:=(cK ((so (a.rounds.getD k (aO .bn)).db.rows:Nat):Int) fj);(by(repeat' with_reducible first|exact c8|refine dP ?_ ?_|apply And.intro);(iterate 6 all_goals try first|exact u1|exact u2|exact u3|exact qqv|exact(by simp only[eK,adN,maxLen];omega)|exact(by simp only[vI,maxLen,gz];omega));all_goals first|exact rfl|exact⟨rfl,fA _ cO⟩)) ?_;exact bI [3,8,9,10] J gZ
 ·have ht:(a.rounds.map Ko).take k=a.rounds.map Ko:=aD Uy;exact bf (bq [(28,⟨false,[.a (.lit (.string (Xk ((a.rounds.map Ko).take k) 32)))]⟩)] [2] J (by(with_reducible and_intros)<;>first|exact⟨⟩|exact(Gr _ 32 (by rw[ht];omega))) (au (aj J ⟨by rw[ht];rfl,⟨⟩⟩)))
theorem Eu(a:tE)(hw:abC a)(hz: ∀y,y∈a.rounds→y.db.rows.length≤1048576)(hl:a.rounds.length≤1048576):So 38 [.agg (gX a)] [.a (.lit (.string (LY a)))]:=by
 refine aZ call38 func38 ntmps38 ?_;intro zb;obtain⟨_,sA⟩:=hw;have hlz:=BH Ko 43 a.rounds (ac2 sA hz);refine O [1] J (aR [1,8] J ?_);refine bD J ?_ ?_<;>intro hb0
 ·exact O [2] J (au (aj J ⟨by unfold LY Xk;rw[if_pos Uy];rfl,⟨⟩⟩))
 ·refine av (O [1,3] J (aR [1,3,4] J ?_));refine cm a.rounds.length (fun k:Nat=> [(3, .one (.a (.lit (.string (jn (a.rounds.map Ko) 32 k))))),(4, .one ((aI k)))]) (fun k=> []) (fun k=>rfl) rfl ?_;intro k hk;have hjs:=an0 (a.rounds.map Ko) 32 k;refine aR [1,3,4,13] J ?_;refine bD J ?_ ?_<;>intro cQ
  ·obtain⟨q1,_⟩:=at_mem sA cQ (aO .bn);have q2:=at_mem hz cQ (aO .bn);have q3:=Ft (a.rounds.getD k (aO .bn)).db.rows;have z1:=dO q1;have z2:=dO (n:=(so (a.rounds.getD k (aO .bn)).db.rows:Int)) aJ;unfold vO at q1;have hat:(a.rounds.map Ko).getD k []=Ko (a.rounds.getD k (aO .bn)):=Q5 Ko cQ _ _;have hlm:(a.rounds.map Ko).length=a.rounds.length:=bt ..;refine av (aA (aK (aR [1,3,4,17] J ?_)));refine bD J ?_ ?_<;>intro fu
   ·have hs:=Ot (a.rounds.map Ko) 32 (k:=k) aJ aJ;rw[hat]at hs;refine iB X [1,3,4] J aCt ?_;have t1:=(bF ((a.rounds.getD k (aO .bn)).round) fj);have t2:=(kJ ((a.rounds.getD k (aO .bn)).db));have t3:=(bF ((so (a.rounds.getD k (aO .bn)).db.rows:Nat):Int) fj);refine cT X [(27,⟨false,cA t1⟩),(36,⟨false,cA t2⟩),(37,⟨false,cA t3⟩)] [1,3,4] 1048575 rfl (aCb (bF ((a.rounds.getD k (aO .bn)).round) fj) (kJ ((a.rounds.getD k (aO .bn)).db)) (bF ((so (a.rounds.getD k (aO .bn)).db.rows:Nat):Int) fj)) (bI [1,3,4] J ?_);refine⟨k+1,aJ,aJ,?_⟩;rw[gT _ k rfl aJ,hs];rw[show bG (Ko (a.rounds.getD k (aO .bn)))=wAR (a.rounds.getD k (aO .bn))from rfl];simp only[wAR,tR];try rfl
   ·have hs:=JQ (a.rounds.map Ko) 32 (k:=k) aJ aJ;rw[hat]at hs;refine av ?_;have t1:=(bF ((a.rounds.getD k (aO .bn)).round) fj);have t2:=(kJ ((a.rounds.getD k (aO .bn)).db));have t3:=(bF ((so (a.rounds.getD k (aO .bn)).db.rows:Nat):Int) fj);refine cT X [(27,⟨false,cA t1⟩),(36,⟨false,cA t2⟩),(37,⟨false,cA t3⟩)] [1,3,4] 1048575 rfl (aCb (bF ((a.rounds.getD k (aO .bn)).round) fj) (kJ ((a.rounds.getD k (aO .bn)).db)) (bF ((so (a.rounds.getD k (aO .bn)).db.rows:Nat):Int) fj)) (bI [1,3,4] J ?_);refine⟨k+1,aJ,aJ,?_⟩;rw[gT _ k rfl aJ,hs];rw[show bG (Ko (a.rounds.getD k (aO .bn)))=wAR (a.rounds.getD k (aO .bn))from rfl];simp only[wAR,tR];try rfl
  ·exact bf (O [2] J (au (aj J ⟨by unfold LY;rw[an1 _ _ Uy Uy],⟨⟩⟩)))
theorem nL(x:dF)(hw1:vO x.round)(sA:vO x.cancelled)(BI: ∀y,y∈x.replaced→vO y)(hd:x.ah.length≤1048576)(hl:x.replaced.length≤1048576):So 58 [.agg (bC x)] [.a (.lit (.string (yz x)))]:=by
 refine aZ call58 func58 ntmps58 ?_;intro zb;have q1:=hw1;have q2:=sA;have z1:=dO q1;have z2:=dO q2;have q3:=Og x.ah x.ah.length;have q4:=V5 x.ah x.ah.length;have z3:=dO q3;have z4:=dO q4;have hlz:=BH mJ 21 x.replaced (Wx BI);have hos:=Wy (x.replaced.map mJ) 44;have hlm:(x.replaced.map mJ).length=x.replaced.length:=bt ..;refine O [1] J (aL [1,3] J qb (aR [1,3,8,9,10] J ?_));refine cm x.replaced.length (fun k:Nat=> [(10, .one ((aI k)))]) (fun k=> [(6, .arr .str ((x.replaced.map mJ).take k))]) (fun k=>rfl) rfl ?_;intro k hk;have htl:((x.replaced.map mJ).take k).length≤1048576:=by rw[ct,bt];omega
 refine O [1,3,8,9,10,11] J ?_;refine eg J ?_ ?_<;>intro hb0
 ·have q5:=at_mem BI hb0 (aO .int);have z5:=dO q5;unfold vO at q5;have hat:(x.replaced.map mJ).getD k []=mJ (x.replaced.getD k (aO .int)):=Q5 mJ hb0 _ _;have hs:(x.replaced.map mJ).take (k+1)=(x.replaced.map mJ).take k++ [mJ (x.replaced.getD k (aO .int))]:=by rw[cD _ k [] aJ,hat]
  refine av (aA (aK (aL [1,3,5,8,9,10] J je (dX [(18,6)] [(16,⟨false,[.a (.lit (.string (bG (bN (x.replaced.getD k (aO .int))))))]⟩)] [1,3,8,9,10] [] J (have u1:=(cK (x.replaced.getD k (aO .int)) fj);(by(repeat' with_reducible first|exact c8|refine dP ?_ ?_|apply And.intro);(iterate 4 all_goals try first|exact u1|exact(by simp only[eK,adN,maxLen];omega)|exact(by simp only[vI,maxLen,gz];omega));all_goals first|exact rfl|exact⟨rfl,fA _ cO⟩)) ?_))));exact bI [1,3,8,9,10] J gZ
 ·have ht:(x.replaced.map mJ).take k=x.replaced.map mJ:=aD Uy;have asJ:(Xk ((x.replaced.map mJ).take k) 44).size≤gb aN (x.replaced.map mJ)+1:=by rw[ht];exact hos
  refine bf (aA ?_);have t1:=(cK (qt x.ah x.ah.length) fj);exact cT X [(22,⟨false,[.a (.lit (.string (bG (bN x.round))))]⟩),(26,⟨false,[.a (.lit (.string (bG (bN x.cancelled))))]⟩),(30,⟨false,[.a (.lit (.string (Xk ((x.replaced.map mJ).take k) 44)))]⟩),(34,⟨false,[aI (qt x.ah x.ah.length)]⟩),(35,⟨false,cA t1⟩),(39,⟨false,[aI (CC x.ah x.ah.length)]⟩),(40,⟨false,[.a (.lit (.string (bG (bN (CC x.ah x.ah.length)))))]⟩)] [2] 8388607 rfl (by(with_reducible and_intros);(iterate 10 all_goals try first|exact⟨⟩|exact(cK x.round fj)|exact(cK x.cancelled fj)|exact(Gr _ 44 (by rw[ht];omega))|exact(nJ x)|exact(cK (qt x.ah x.ah.length) fj)|exact(oq x fj)|exact(cK (CC x.ah x.ah.length) fj)|exact qqv)) (au (aj J ⟨by rw[ht];rfl,⟨⟩⟩))
theorem ym(x:dF)(hw1:vO x.round)(sA:vO x.cancelled)(BI: ∀y,y∈x.replaced→vO y)(hd:x.ah.length≤1048576)(hl:x.replaced.length≤1048576):So 39 [.agg (bC x)] [.a (.lit (.string (yz x)))]:=by
 refine aZ call39 func39 ntmps39 ?_;intro zb;have q1:=hw1;have q2:=sA;have z1:=dO q1;have z2:=dO q2;have q3:=Og x.ah x.ah.length;have q4:=V5 x.ah x.ah.length;have z3:=dO q3;have z4:=dO q4;have hlz:=BH mJ 21 x.replaced (Wx BI);have hos:=Wy (x.replaced.map mJ) 44;have hlm:(x.replaced.map mJ).length=x.replaced.length:=bt ..;refine O [1] J (O [1,3] J (aR [1,3,4] J ?_));refine cm x.replaced.length (fun k:Nat=> [(3, .one (.a (.lit (.string (jn (x.replaced.map mJ) 44 k))))),(4, .one ((aI k)))]) (fun k=> []) (fun k=>rfl) rfl ?_;intro k hk;have hjs:=an0 (x.replaced.map mJ) 44 k;refine aR [1,3,4,9] J ?_;refine bD J ?_ ?_<;>intro hb0
 ·have q5:=at_mem BI hb0 (aO .int);have z5:=dO q5;unfold vO at q5;have hat:(x.replaced.map mJ).getD k []=mJ (x.replaced.getD k (aO .int)):=Q5 mJ hb0 _ _;refine av (aA (aK (aR [1,3,4,13] J ?_)));refine bD J ?_ ?_<;>intro cQ
  ·have hs:=Ot (x.replaced.map mJ) 44 (k:=k) aJ aJ;rw[hat]at hs;exact iB X [1,3,4] J aCt (bY [(22,⟨false,[.a (.lit (.string (bG (bN (x.replaced.getD k (aO .int))))))]⟩)] [1,3,4] J (aCi (bF (x.replaced.getD k (aO .int)) fj)) (bI [1,3,4] J gZ))
  ·have hs:=JQ (x.replaced.map mJ) 44 (k:=k) aJ aJ;rw[hat]at hs;exact av (bY [(22,⟨false,[.a (.lit (.string (bG (bN (x.replaced.getD k (aO .int))))))]⟩)] [1,3,4] J (aCi (bF (x.replaced.getD k (aO .int)) fj)) (bI [1,3,4] J gZ))
 ·refine bf (aR [1,3,25] J ?_);refine aM J ?_ ?_<;>intro fu
  ·have hd:=azr x.replaced 44 hb0 hk (aEw fu);refine bI [1,3] J (aA ?_);have t1:=(bF (qt x.ah x.ah.length) fj);exact cT X [(28,⟨false,[.a (.lit (.string (bG (bN x.round))))]⟩),(32,⟨false,[.a (.lit (.string (bG (bN x.cancelled))))]⟩),(39,⟨false,[aI (qt x.ah x.ah.length)]⟩),(40,⟨false,cA t1⟩),(44,⟨false,[aI (CC x.ah x.ah.length)]⟩),(45,⟨false,[.a (.lit (.string (bG (bN (CC x.ah x.ah.length)))))]⟩)] [2] 4194303 rfl (aB8 (bF x.round fj) (bF x.cancelled fj) (k7 x) (bF (qt x.ah x.ah.length) fj) (lS x fj) (bF (CC x.ah x.ah.length) fj)) (au (aj J ⟨by unfold yz;rw[hd];rfl,⟨⟩⟩))
  ·have hd:=azq x.replaced 44 hb0 hk (aEx fu);refine av (aA ?_);have t1:=(bF (qt x.ah x.ah.length) fj);exact cT X [(28,⟨false,[.a (.lit (.string (bG (bN x.round))))]⟩),(32,⟨false,[.a (.lit (.string (bG (bN x.cancelled))))]⟩),(39,⟨false,[aI (qt x.ah x.ah.length)]⟩),(40,⟨false,cA t1⟩),(44,⟨false,[aI (CC x.ah x.ah.length)]⟩),(45,⟨false,[.a (.lit (.string (bG (bN (CC x.ah x.ah.length)))))]⟩)] [2] 4194303 rfl (aB8 (bF x.round fj) (bF x.cancelled fj) (k7 x) (bF (qt x.ah x.ah.length) fj) (lS x fj) (bF (CC x.ah x.ah.length) fj)) (au (aj J ⟨by unfold yz;rw[←hd];rfl,⟨⟩⟩))
end
end Go.Proofs.YtaalpcnbbldlaaaGreatDoor.G
namespace Go.Proofs.YtaalpcnbbldlaaaGreatDoor.G
set_option linter.all false
open Go.RowKit L D
variable(x:dF)
def sm5(n:Int):Prop:= -200000≤n∧n≤200000
theorem sm5.I{n:Int}(h:sm5 n):vO n:=by unfold sm5 at h;unfold vO;omega
theorem atM(a:Int): -9223372036854775808≤IntKind.i64.wrap a∧IntKind.i64.wrap a≤9223372036854775807:=by
 rw[IntKind.wrap_i64];omega
def Q7(l:List Int):Prop:= ∀y,y∈l→vO y
theorem aEy{rows rd:Int}{p:List cH×List Int}{id:Int}(h:Q7 p.2):Q7 (Jc rows rd p id).2:=by
 unfold Jc;split
 ·rename_i hk;intro y hy;rcases List.mem_append.1 hy with hy|hy
  ·exact h y hy
  ·rw[List.mem_singleton.1 hy];simp only[D3,dK]at hk;have:=atM ((p.1.length:Int)-1);unfold vO;omega
 ·exact h
theorem an6{rows rd:Int}: ∀{g:List Int} {p:List cH×List Int},Q7 p.2→Q7 (NA rows rd p g).2
 | [],_,h=>h
 |_::g,_,h=>an6 (g:=g) (aEy h)
theorem an7{x:dF}(h:Q7 x.replaced):Q7 (gG x).replaced:=by
 unfold gG;split
 ·generalize p7 _ _ _ _ _=g;generalize jw _=d;have h1:Q7 (eX x g d).replaced:=by
   unfold eX;by_cases hk:tD x=true
   ·rw[if_pos hk];show Q7 (NA x.rows x.round (x.aC,x.replaced) g).2
    exact an6 h
   ·rw[if_neg hk];exact h
  generalize eX x g d=y at h1 ⊢;have h2:Q7 (testW y).replaced:=by
   unfold testW;split
   ·show Q7 (NA y.rows y.round (y.aC,y.replaced) (TR y y.aC.length)).2
    exact an6 h1
   ·exact h1
  generalize testW y=z at h2 ⊢;unfold MR;split<;>exact h2
 ·exact h
theorem aEz(c:Int)(b:List UInt8):(TU x c b).replaced=x.replaced:=by unfold TU;split<;>rfl
theorem aEA(c:Int):(Se x c).replaced=x.replaced:=by unfold Se;split<;>rfl
theorem aEB(i b:Int):(V1 x i b).replaced=x.replaced:=by unfold V1;split<;>rfl
end Go.Proofs.YtaalpcnbbldlaaaGreatDoor.G
