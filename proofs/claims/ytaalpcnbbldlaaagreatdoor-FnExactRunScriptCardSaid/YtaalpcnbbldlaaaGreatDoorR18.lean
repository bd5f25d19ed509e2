/-
  What is formatted: bounds of the numbers in drawn clients, servers, archives and worlds; texts without blanks. No program in sight.
-/
import Derived.Test.YtaalpcnbbldlaaaGreatDoorR13
import Derived.Test.YtaalpcnbbldlaaaGreatDoorR17
namespace Go.Proofs.YtaalpcnbbldlaaaGreatDoor.G
set_option linter.all false
open Go.RowKit L D Tryz
section
set_option maxRecDepth 100000
theorem lS:So 31 [] [.a (.sl .str names)]:=by
 refine av X call31 func31 ntmps31 rfl rfl ?_;intro zb;exact aq X [] rfl (aD X [0] rfl ⟨⟨rfl,bA _ (by decide)⟩,by decide,by decide,by decide,by decide,⟨⟩⟩ (ak (ah rfl ⟨rfl,⟨⟩⟩)))
theorem wz(x:bp)(h1:lV x.id)(h3:lV x.round)(h5:lV x.behavior):So 79 [.agg (bS x)] [.a (.lit (.string (BI x)))]:=by
 refine av X call79 func79 ntmps79 rfl rfl ?_;intro zb;have z1:=bW h1;have z2:=bW h3;have z3:=IW x.behavior.toNat;unfold lV at h1 h3 h5;refine aq X [1] rfl (aq X [1,3] rfl (aa (aC X [] [(6,⟨false,[aH (inr x.behavior 0 3)]⟩)] [1,3,6] [] rfl (by(with_reducible and_intros)<;>first|exact⟨⟩|exact(aK x.behavior 0 3)) ?_)));refine aj rfl ?_ ?_<;>intro hb0
 ·have z4:(⟨List.toArray (names.getD x.behavior.toNat (aG Tag.str))⟩:ByteArray).size≤6:=z3;have z5:(⟨List.toArray ([[104,111,110,101,115,116],[100,114,111,112,115],[97,108,116,101,114,115],[108,105,101,115]].getD x.behavior.toNat (aG Tag.str))⟩:ByteArray).size≤6:=z3;have Yn:names.length=4:=rfl;have hin:0≤x.behavior∧x.behavior≤3:=by simp only[inr]at hb0;split at hb0<;>simp_all
  have hbh:Fl x.behavior=aX (names.getD x.behavior.toNat []):=by unfold Fl;rw[if_pos hb0]
  exact aF X [] [(7,⟨true,[.a (.sl .str names)]⟩)] [1,3] [] 63 0 MO (by kernel_rfl) rfl (by kernel_rfl) (by(with_reducible and_intros)<;>first|exact⟨⟩|exact(lS)| (intros;omega)) (aa (aF X [] [(14,⟨false,[.a (.lit (.string (aX (Lib.itoa x.id))))]⟩),(18,⟨false,[.a (.lit (.string (aX (Lib.itoa x.round))))]⟩)] [2] [] 4095 0 MO (by kernel_rfl) rfl (by kernel_rfl) (by(with_reducible and_intros);(iterate 3 all_goals try first|exact⟨⟩|exact(bw x.id (by first|assumption|omega| (simp;done)| (simp;omega)))|exact(bw x.round (by first|assumption|omega| (simp;done)| (simp;omega)))|exact(by simp only[ByteArray.size_append,fM,fE];omega))) (ak (ah rfl ⟨by unfold BI;rw[hbh];rfl,⟨⟩⟩))))
 ·have hbh:Fl x.behavior=aX [63]:=by unfold Fl;rw[if_neg (by rw[hb0];decide)]
  exact an (aa (aF X [] [(14,⟨false,[.a (.lit (.string (aX (Lib.itoa x.id))))]⟩),(18,⟨false,[.a (.lit (.string (aX (Lib.itoa x.round))))]⟩)] [2] [] 4095 0 MO (by kernel_rfl) rfl (by kernel_rfl) (by(with_reducible and_intros);(iterate 3 all_goals try first|exact⟨⟩|exact(bw x.id (by first|assumption|omega| (simp;done)| (simp;omega)))|exact(bw x.round (by first|assumption|omega| (simp;done)| (simp;omega)))|exact(by simp only[ByteArray.size_append,fM,fE];omega))) (ak (ah rfl ⟨by unfold BI;rw[hbh];rfl,⟨⟩⟩))))
theorem wA(x:bp)(h1:lV x.id)(h3:lV x.round)(h5:lV x.behavior):So 52 [.agg (bS x)] [.a (.lit (.string (BI x)))]:=by
 refine av X call52 func52 ntmps52 rfl rfl ?_;intro zb;have z1:=bW h1;have z2:=bW h3;have z3:=IW x.behavior.toNat;unfold lV at h1 h3 h5;refine aq X [1] rfl (aq X [1,3] rfl (aa (aC X [] [(6,⟨false,[aH (inr x.behavior 0 3)]⟩)] [1,3,6] [] rfl (by(with_reducible and_intros)<;>first|exact⟨⟩|exact(aP x.behavior 0 3)) ?_)));refine aj rfl ?_ ?_<;>intro hb0
 ·have z4:(⟨List.toArray (names.getD x.behavior.toNat (aG Tag.str))⟩:ByteArray).size≤6:=z3;have z5:(⟨List.toArray ([[104,111,110,101,115,116],[100,114,111,112,115],[97,108,116,101,114,115],[108,105,101,115]].getD x.behavior.toNat (aG Tag.str))⟩:ByteArray).size≤6:=z3;have Yn:names.length=4:=rfl;have hin:0≤x.behavior∧x.behavior≤3:=by simp only[inr]at hb0;split at hb0<;>simp_all
  have hbh:Fl x.behavior=aX (names.getD x.behavior.toNat []):=by unfold Fl;rw[if_pos hb0]
  exact dy X [1,3] rfl ⟨by show x.behavior.toNat<4;omega,⟨hin.1,by show x.behavior<((4:Nat):Int);omega⟩,⟨rfl,bA _ (by decide)⟩,by decide,by decide,by decide,by decide,⟨⟩⟩ (aa (aF X [] [(14,⟨false,[.a (.lit (.string (aX (Lib.itoa x.id))))]⟩),(18,⟨false,[.a (.lit (.string (aX (Lib.itoa x.round))))]⟩)] [2] [] 4095 0 MO (by kernel_rfl) rfl (by kernel_rfl) (by(with_reducible and_intros);(iterate 3 all_goals try first|exact⟨⟩|exact(aU x.id (by first|assumption|omega| (simp;done)| (simp;omega)))|exact(aU x.round (by first|assumption|omega| (simp;done)| (simp;omega)))|exact(by simp only[ByteArray.size_append,fM,fE];omega))) (ak (ah rfl ⟨by unfold BI;rw[hbh];rfl,⟨⟩⟩))))
 ·have hbh:Fl x.behavior=aX [63]:=by unfold Fl;rw[if_neg (by rw[hb0];decide)]
  exact an (aa (aF X [] [(14,⟨false,[.a (.lit (.string (aX (Lib.itoa x.id))))]⟩),(18,⟨false,[.a (.lit (.string (aX (Lib.itoa x.round))))]⟩)] [2] [] 4095 0 MO (by kernel_rfl) rfl (by kernel_rfl) (by(with_reducible and_intros);(iterate 3 all_goals try first|exact⟨⟩|exact(aU x.id (by first|assumption|omega| (simp;done)| (simp;omega)))|exact(aU x.round (by first|assumption|omega| (simp;done)| (simp;omega)))|exact(by simp only[ByteArray.size_append,fM,fE];omega))) (ak (ah rfl ⟨by unfold BI;rw[hbh];rfl,⟨⟩⟩))))
theorem wY(l:List (List UInt8))(c:UInt8)(h:cE List.length l≤1099511627776):So 109 [.a (.sl .str l), .a (.lit (.string (aX [c])))] [.a (.lit (.string (LU l c)))]:=by
 refine av X call109 func109 ntmps109 rfl rfl ?_;intro zb;refine ct 0 rfl (fun ir=>(aq X [0,1] rfl (aa (aq X [0,1,7] rfl ?_))));refine aj rfl ?_ ?_<;>intro hb0
 ·try simp only[aQ]at hb0
  exact aq X [4] rfl (ak (ah rfl ⟨by unfold LU;rw[if_pos (by omega)];rfl,⟨⟩⟩))
 ·try simp only[aQ]at hb0
  exact an (aC X [] [(10,⟨false,[.a (.lit (.string (aX (Lib.join l [c]))))]⟩)] [4] [] rfl (by(with_reducible and_intros)<;>first|exact⟨⟩|exact(uI l c h)) (ak (ah rfl ⟨by unfold LU;rw[if_neg (by omega)],⟨⟩⟩)))
theorem sJ(l:List UInt8)(f:FuncId)(p:UInt8→Bool)(hf: ∀b,So f [.a (.lit (.int .u8 (b.toNat:Int)))] [aH (p b)]):So 332 [.a (.sl .u8 l), .a (.lit (.func (.func f) #[] #[]))] [aA (fidx p l)]:=by
 refine av X call332 func332 ntmps332 rfl rfl ?_;intro zb;refine ct 0 rfl (fun ir=>(aq X [0,1] rfl (aa (aq X [0,1,7,8] rfl ?_))));refine au (aE (fun k=>k≤l.length∧(l.take k).any p=false) (fun k:Nat=> [(8, .one ((aA k)))]) (fun k=> []) (fun k=>l.length-k) 0 (fun k=>rfl) ⟨Nat.zero_le _,rfl⟩ rfl ?_);rintro k ⟨hk,hall⟩;refine aq X [0,1,7,8,9] rfl ?_;refine aa (aj rfl ?_ ?_)<;>intro hb0
 ·try simp only[aQ]at hb0
  refine an (aa (au (aq X [0,1,5,7,8] rfl (aC X [] [(16,⟨false,[aH (p (l.getD k (aG .u8)))]⟩)] [0,1,5,7,8,16] [] rfl (by(with_reducible and_intros)<;>first|exact⟨⟩|exact(hf _)| (intros;omega)) ?_))));refine aj rfl ?_ ?_<;>intro aV
  ·exact aq X [4] rfl (ak (ah rfl ⟨by rw[tM (aG .u8) hb0 hall aV],⟨⟩⟩))
  ·refine an (bg X [0,1,7,8] rfl ?_);refine⟨k+1,⟨by omega,qI (aG .u8) hb0 hall aV⟩,by omega,?_⟩;rw[bh _ k rfl (by omega)];try rfl
 ·try simp only[aQ]at hb0
  exact aI (aq X [4] rfl (ak (ah rfl ⟨by rw[AX (by rw[←hall,List.take_of_length_le hb0])],⟨⟩⟩)))
theorem oQ(l:List UInt8)(f:FuncId)(p:UInt8→Bool)(hf: ∀b,So f [.a (.lit (.int .u8 (b.toNat:Int)))] [aH (p b)]):So 270 [.a (.sl .u8 l), .a (.lit (.func (.func f) #[] #[]))] [aH (l.any p)]:=by
 refine av X call270 func270 ntmps270 rfl rfl ?_;intro zb;exact aq X [0,1] rfl (aC X [] [(7,⟨false,[aA (fidx p l)]⟩)] [4] [] rfl (by(with_reducible and_intros)<;>first|exact⟨⟩|exact(sJ l f p hf)) (ak (ah rfl ⟨congrArg Value.bool (H6 p l),⟨⟩⟩)))
theorem uJ(c:UInt8):So 271 [.a (.lit (.int .u8 (c.toNat:Int)))] [aH ((c.toNat:Int) !=0)]:=by
 refine av X call271 func271 ntmps271 rfl rfl ?_;intro zb;exact aq X [0] rfl (aq X [2] rfl (ak (ah rfl ⟨rfl,⟨⟩⟩)))
theorem xX(b:List UInt8):So 197 [.a (.sl .u8 b)] [aH (!bz b)]:=by
 refine av X call197 func197 ntmps197 rfl rfl ?_;intro zb;exact aq X [0] rfl (aC X [] [(4,⟨false,[aH (b.any fun c=>(c.toNat:Int) !=0)]⟩)] [2] [] rfl (by(with_reducible and_intros)<;>first|exact⟨⟩|exact(oQ _ _ _ uJ)) (ak (ah rfl ⟨rfl,⟨⟩⟩)))
theorem xY(b:List UInt8):So 152 [.a (.sl .u8 b)] [aH (!bz b)]:=by
 refine av X call152 func152 ntmps152 rfl rfl ?_;intro zb;refine ct 0 rfl (fun ir=>(aq X [0] rfl (aa (aq X [0,3] rfl ?_))));refine au (aE (fun k=>k≤b.length∧(b.take k).any (fun c=>(c.toNat:Int) !=0)=false) (fun k:Nat=> [(3, .one ((aA k)))]) (fun k=> []) (fun k=>b.length-k) 0 (fun k=>rfl) ⟨Nat.zero_le _,rfl⟩ rfl ?_);rintro k ⟨hk,hall⟩;refine aa (aq X [0,3,7] rfl ?_);refine aj rfl ?_ ?_<;>intro hb0
 ·try simp only[aQ]at hb0
  refine an (aa (au (aD X [0,3,14] rfl (by and_intros<;>first|exact⟨⟩| (intros;omega)) ?_)));refine aj rfl ?_ ?_<;>intro aV
  ·exact aq X [2] rfl (ak (ah rfl ⟨by unfold bz;rw[yO b _ (aG .u8) k hb0 aV];rfl,⟨⟩⟩))
  ·refine an (bg X [0,3] rfl ?_);refine⟨k+1,⟨by omega,qI (aG .u8) hb0 hall aV⟩,by omega,?_⟩;rw[bh _ k rfl (by omega)];try rfl
 ·try simp only[aQ]at hb0
  exact aI (aq X [2] rfl (ak (ah rfl ⟨by rw[List.take_of_length_le hb0]at hall;unfold bz;rw[hall];rfl,⟨⟩⟩)))
theorem jN(d:DB):So 114 [.agg (aY d)] [aA ((jC d.rows:Nat):Int)]:=by
 refine av X call114 func114 ntmps114 rfl rfl ?_;intro zb;refine bl 0 0 rfl rfl (fun ir=>(aq X [1] rfl (aq X [1,3] rfl (aa (aq X [3,7,8,9] rfl ?_)))));refine au (aE (fun k=>k≤d.rows.length) (fun k:Nat=> [(3, .one ((aA ((jC (d.rows.take k):Nat):Int)))),(9, .one ((aA k)))]) (fun k=> []) (fun k=>d.rows.length-k) 0 (fun k=>rfl) (Nat.zero_le _) rfl ?_);intro k hk;have hcl:=vN (d.rows.take k);have htl:(d.rows.take k).length≤k:=List.length_take_le _ _;refine aq X [3,7,8,9,10] rfl ?_;refine aa (aj rfl ?_ ?_)<;>intro hb0
 ·try simp only[aQ]at hb0
  refine an (aa (au (aD X [3,5,7,8,9] rfl (by and_intros<;>first|exact⟨⟩| (intros;omega)) (aC X [] [(14,⟨false,[aH (!bz (d.rows.getD k (aG (.sl .u8))))]⟩)] [3,7,8,9,15] [] rfl (by(with_reducible and_intros)<;>first|exact⟨⟩|exact(xX (d.rows.getD k (aG (.sl .u8))))) ?_))));refine aj rfl ?_ ?_<;>intro aV
  ·have hs:=Lt d.rows k (aG (.sl .u8)) hb0 (by simpa using aV);refine bg X [3,7,8,9] rfl (bg X [3,7,8,9] rfl ?_);refine⟨k+1,by omega,by omega,?_⟩;rw[bh _ k rfl (by omega),bh _ (jC (d.rows.take k)) rfl (by omega),hs];try rfl
  ·have hs:=G5 d.rows k (aG (.sl .u8)) hb0 (by simpa using aV);refine an (bg X [3,7,8,9] rfl ?_);refine⟨k+1,by omega,by omega,?_⟩;rw[bh _ k rfl (by omega),hs];try rfl
 ·try simp only[aQ]at hb0
  exact aI (aq X [2] rfl (ak (ah rfl ⟨by rw[List.take_of_length_le hb0],⟨⟩⟩)))
theorem eC(d:DB):So 85 [.agg (aY d)] [aA ((jC d.rows:Nat):Int)]:=by
 refine av X call85 func85 ntmps85 rfl rfl ?_;intro zb;refine bl 0 0 rfl rfl (fun ir=>(aq X [1] rfl (aq X [1,3] rfl (aa (aq X [1,3,4] rfl ?_)))));refine au (aE (fun k=>k≤d.rows.length) (fun k:Nat=> [(3, .one ((aA ((jC (d.rows.take k):Nat):Int)))),(4, .one ((aA k)))]) (fun k=> []) (fun k=>d.rows.length-k) 0 (fun k=>rfl) (Nat.zero_le _) rfl ?_);intro k hk;have hcl:=vN (d.rows.take k);have htl:(d.rows.take k).length≤k:=List.length_take_le _ _;refine aa (aq X [1,3,4,9] rfl ?_);refine aj rfl ?_ ?_<;>intro hb0
 ·try simp only[aQ]at hb0
  refine an (aa (au (aC X [] [(17,⟨false,[aH (!bz (d.rows.getD k (aG (.sl .u8))))]⟩)] [1,3,4,18] [] rfl (by(with_reducible and_intros)<;>first|exact⟨⟩|exact(xY (d.rows.getD k (aG (.sl .u8))))| (intros;omega)) ?_)));refine aj rfl ?_ ?_<;>intro aV
  ·have hs:=Lt d.rows k (aG (.sl .u8)) hb0 (by simpa using aV);refine bg X [1,3,4] rfl (bg X [1,3,4] rfl ?_);refine⟨k+1,by omega,by omega,?_⟩;rw[bh _ k rfl (by omega),bh _ (jC (d.rows.take k)) rfl (by omega),hs];try rfl
  ·have hs:=G5 d.rows k (aG (.sl .u8)) hb0 (by simpa using aV);refine an (bg X [1,3,4] rfl ?_);refine⟨k+1,by omega,by omega,?_⟩;rw[bh _ k rfl (by omega),hs];try rfl
 ·try simp only[aQ]at hb0
  exact aI (aq X [2] rfl (ak (ah rfl ⟨by rw[List.take_of_length_le hb0],⟨⟩⟩)))
theorem uK(a:gZ)(hw:LX a)(hz: ∀y,y∈a.rounds→y.db.rows.length≤1048576)(hl:a.rounds.length≤1048576):So 61 [.agg (cV a)] [.a (.lit (.string (Fo a)))]:=by
 refine av X call61 func61 ntmps61 rfl rfl ?_;intro zb;obtain⟨_,jO⟩:=hw;have hlz:=rj At 43 a.rounds (Nd jO hz);refine aq X [1] rfl (aD X [1,3] rfl (by and_intros<;>first|exact⟨⟩|exact rfl) (aa (aq X [3,8,9,10] rfl ?_)));refine au (aE (fun k=>k≤a.rounds.length) (fun k:Nat=> [(10, .one ((aA k)))]) (fun k=> [(6, .arr .str ((a.rounds.map At).take k))]) (fun k=>a.rounds.length-k) 0 (fun k=>rfl) (Nat.zero_le _) rfl ?_);intro k hk;have htl:((a.rounds.map At).take k).length≤1048576:=by rw[List.length_take,List.length_map];omega
 refine aq X [3,8,9,10,11] rfl ?_;refine aa (aj rfl ?_ ?_)<;>intro hb0
 ·try simp only[aQ]at hb0
  obtain⟨q1,_⟩:=at_mem jO hb0 (aG .aJ);have q2:=at_mem hz hb0 (aG .aJ);have q3:=vN (a.rounds.getD k (aG .aJ)).db.rows;have z1:=bW q1;have z2:=bW (n:=(jC (a.rounds.getD k (aG .aJ)).db.rows:Int)) (by omega);unfold lV at q1;have Nf:(a.rounds.map At).getD k []=At (a.rounds.getD k (aG .aJ)):=Fm At hb0 _ _;have hlm:(a.rounds.map At).length=a.rounds.length:=List.length_map ..;have hs:(a.rounds.map At).take (k+1)=(a.rounds.map At).take k++ [At (a.rounds.getD k (aG .aJ))]:=by rw[bu _ k [] (by omega),Nf]
  refine an (aa (au (aD X [3,5,8,9,10] rfl (by and_intros<;>first|exact⟨⟩| (intros;omega)) ?_)));have t1:=(bw ((a.rounds.getD k (aG .aJ)).round) (by first|assumption|omega| (simp;done)| (simp;omega)));have t2:=(jN ((a.rounds.getD k (aG .aJ)).db));have t3:=(bw ((jC (a.rounds.getD k (aG .aJ)).db.rows:Nat):Int) (by first|assumption|omega| (simp;done)| (simp;omega)));refine aF X [(25,6)] [(17,⟨false,bq t1⟩),(21,⟨false,bq t2⟩),(22,⟨false,bq t3⟩)] [3,8,9,10] [] 2047 0 MO (by kernel_rfl) rfl (by kernel_rfl) (by(repeat' with_reducible first|exact aR|refine bf ?_ ?_|apply And.intro);(iterate 6 all_goals try first|exact(bw ((a.rounds.getD k (aG .aJ)).round) (by first|assumption|omega| (simp;done)| (simp;omega)))|exact(jN ((a.rounds.getD k (aG .aJ)).db))|exact(bw ((jC (a.rounds.getD k (aG .aJ)).db.rows:Nat):Int) (by first|assumption|omega| (simp;done)| (simp;omega)))|exact(by simp only[ByteArray.size_append,fM,fE];omega)|exact(by simp only[ByteArray.size_append,fM,maxLen];omega)|exact(by simp only[dN,maxLen,List.length_singleton];omega));all_goals first|exact rfl|exact⟨rfl,bA _ (by decide)⟩) ?_;refine bg X [3,8,9,10] rfl ?_;refine⟨k+1,by omega,by omega,?_⟩;rw[bh _ k rfl (by omega),hs];try rfl
 ·try simp only[aQ]at hb0
  have ht:(a.rounds.map At).take k=a.rounds.map At:=List.take_of_length_le (by rw[List.length_map];omega);exact aI (aC X [] [(28,⟨false,[.a (.lit (.string (LU ((a.rounds.map At).take k) 32)))]⟩)] [2] [] rfl (by(with_reducible and_intros)<;>first|exact⟨⟩|exact(wY _ 32 (by rw[ht];omega))) (ak (ah rfl ⟨by rw[ht];rfl,⟨⟩⟩)))
theorem uL(a:gZ)(hw:LX a)(hz: ∀y,y∈a.rounds→y.db.rows.length≤1048576)(hl:a.rounds.length≤1048576):So 38 [.agg (cV a)] [.a (.lit (.string (Fo a)))]:=by
 refine av X call38 func38 ntmps38 rfl rfl ?_;intro zb;obtain⟨_,jO⟩:=hw;have hlz:=rj At 43 a.rounds (Nd jO hz);refine aq X [1] rfl (aa (aq X [1,8] rfl ?_));refine aj rfl ?_ ?_<;>intro hb0
 ·try simp only[aQ]at hb0
  exact aq X [2] rfl (ak (ah rfl ⟨by unfold Fo LU;rw[if_pos (by rw[List.length_map];omega)];rfl,⟨⟩⟩))
 ·try simp only[aQ]at hb0
  refine an (aq X [1,3] rfl (aa (aq X [1,3,4] rfl ?_)));refine au (aE (fun k=>k≤a.rounds.length) (fun k:Nat=> [(3, .one (.a (.lit (.string (jn (a.rounds.map At) 32 k))))),(4, .one ((aA k)))]) (fun k=> []) (fun k=>a.rounds.length-k) 0 (fun k=>rfl) (Nat.zero_le _) rfl ?_);intro k hk;have hjs:=UN (a.rounds.map At) 32 k;refine aa (aq X [1,3,4,13] rfl ?_);refine aj rfl ?_ ?_<;>intro aV
  ·try simp only[aQ]at aV
   obtain⟨q1,_⟩:=at_mem jO aV (aG .aJ);have q2:=at_mem hz aV (aG .aJ);have q3:=vN (a.rounds.getD k (aG .aJ)).db.rows;have z1:=bW q1;have z2:=bW (n:=(jC (a.rounds.getD k (aG .aJ)).db.rows:Int)) (by omega);unfold lV at q1;have Nf:(a.rounds.map At).getD k []=At (a.rounds.getD k (aG .aJ)):=Fm At aV _ _;have hlm:(a.rounds.map At).length=a.rounds.length:=List.length_map ..;refine an (aa (au (aa (aq X [1,3,4,17] rfl ?_))));refine aj rfl ?_ ?_<;>intro bI
   ·try simp only[aQ]at bI
    have hs:=Dj (a.rounds.map At) 32 (k:=k) (by omega) (by omega);rw[Nf]at hs;refine dy X [1,3,4] rfl (by(with_reducible and_intros);(iterate 3 all_goals try first|exact⟨⟩|exact(by simp only[ByteArray.size_append,fM,fE];omega))) ?_;have t1:=(aU ((a.rounds.getD k (aG .aJ)).round) (by first|assumption|omega| (simp;done)| (simp;omega)));have t2:=(eC ((a.rounds.getD k (aG .aJ)).db));have t3:=(aU ((jC (a.rounds.getD k (aG .aJ)).db.rows:Nat):Int) (by first|assumption|omega| (simp;done)| (simp;omega)));refine aF X [] [(27,⟨false,bq t1⟩),(36,⟨false,bq t2⟩),(37,⟨false,bq t3⟩)] [1,3,4] [] 1048575 0 MO (by kernel_rfl) rfl (by kernel_rfl) (by(with_reducible and_intros);(iterate 6 all_goals try first|exact⟨⟩|exact(aU ((a.rounds.getD k (aG .aJ)).round) (by first|assumption|omega| (simp;done)| (simp;omega)))|exact(eC ((a.rounds.getD k (aG .aJ)).db))|exact(aU ((jC (a.rounds.getD k (aG .aJ)).db.rows:Nat):Int) (by first|assumption|omega| (simp;done)| (simp;omega)))|exact(by simp only[ByteArray.size_append,fM,fE];omega));all_goals first| (intros;omega)) (bg X [1,3,4] rfl ?_);refine⟨k+1,by omega,by omega,?_⟩;rw[bh _ k rfl (by omega),hs];rw[show aX (At (a.rounds.getD k (aG .aJ)))=wAR (a.rounds.getD k (aG .aJ))from rfl];simp only[wAR,ByteArray.append_assoc];try rfl
   ·try simp only[aQ]at bI
    have hs:=Ae (a.rounds.map At) 32 (k:=k) (by omega) (by omega);rw[Nf]at hs;refine an ?_;have t1:=(aU ((a.rounds.getD k (aG .aJ)).round) (by first|assumption|omega| (simp;done)| (simp;omega)));have t2:=(eC ((a.rounds.getD k (aG .aJ)).db));have t3:=(aU ((jC (a.rounds.getD k (aG .aJ)).db.rows:Nat):Int) (by first|assumption|omega| (simp;done)| (simp;omega)));refine aF X [] [(27,⟨false,bq t1⟩),(36,⟨false,bq t2⟩),(37,⟨false,bq t3⟩)] [1,3,4] [] 1048575 0 MO (by kernel_rfl) rfl (by kernel_rfl) (by(with_reducible and_intros);(iterate 6 all_goals try first|exact⟨⟩|exact(aU ((a.rounds.getD k (aG .aJ)).round) (by first|assumption|omega| (simp;done)| (simp;omega)))|exact(eC ((a.rounds.getD k (aG .aJ)).db))|exact(aU ((jC (a.rounds.getD k (aG .aJ)).db.rows:Nat):Int) (by first|assumption|omega| (simp;done)| (simp;omega)))|exact(by simp only[ByteArray.size_append,fM,fE];omega));all_goals first| (intros;omega)) (bg X [1,3,4] rfl ?_);refine⟨k+1,by omega,by omega,?_⟩;rw[bh _ k rfl (by omega),hs];rw[show aX (At (a.rounds.getD k (aG .aJ)))=wAR (a.rounds.getD k (aG .aJ))from rfl];simp only[wAR,ByteArray.append_assoc];try rfl
  ·try simp only[aQ]at aV
   exact aI (aq X [2] rfl (ak (ah rfl ⟨by unfold Fo;rw[UO _ _ (by rw[List.length_map];omega) (by rw[List.length_map];omega)],⟨⟩⟩)))
theorem gm(x:aW)(hw1:lV x.round)(jO:lV x.cancelled)(rm: ∀y,y∈x.replaced→lV y)(hd:x.af.length≤1048576)(hl:x.replaced.length≤1048576):So 58 [.agg (aN x)] [.a (.lit (.string (p7 x)))]:=by
 refine av X call58 func58 ntmps58 rfl rfl ?_;intro zb;have q1:=hw1;have q2:=jO;have z1:=bW q1;have z2:=bW q2;have q3:=IG x.af x.af.length;have q4:=M3 x.af x.af.length;have z3:=bW q3;have z4:=bW q4;have hlz:=rj fF 21 x.replaced (IX rm);have hos:=IY (x.replaced.map fF) 44;have hlm:(x.replaced.map fF).length=x.replaced.length:=List.length_map ..;refine aq X [1] rfl (aD X [1,3] rfl (by and_intros<;>first|exact⟨⟩|exact rfl) (aa (aq X [1,3,8,9,10] rfl ?_)));refine au (aE (fun k=>k≤x.replaced.length) (fun k:Nat=> [(10, .one ((aA k)))]) (fun k=> [(6, .arr .str ((x.replaced.map fF).take k))]) (fun k=>x.replaced.length-k) 0 (fun k=>rfl) (Nat.zero_le _) rfl ?_);intro k hk;have htl:((x.replaced.map fF).take k).length≤1048576:=by rw[List.length_take,List.length_map];omega
 refine aq X [1,3,8,9,10,11] rfl ?_;refine aa (aj rfl ?_ ?_)<;>intro hb0
 ·try simp only[aQ]at hb0
  have q5:=at_mem rm hb0 (aG .int);have z5:=bW q5;unfold lV at q5;have Nf:(x.replaced.map fF).getD k []=fF (x.replaced.getD k (aG .int)):=Fm fF hb0 _ _;have hs:(x.replaced.map fF).take (k+1)=(x.replaced.map fF).take k++ [fF (x.replaced.getD k (aG .int))]:=by rw[bu _ k [] (by omega),Nf]
  refine an (aa (au (aD X [1,3,5,8,9,10] rfl (by and_intros<;>first|exact⟨⟩| (intros;omega)) (aL X [(18,6)] [(16,⟨false,[.a (.lit (.string (aX (Lib.itoa (x.replaced.getD k (aG .int))))))]⟩)] [1,3,8,9,10] [] rfl (by(repeat' with_reducible first|exact aR|refine bf ?_ ?_|apply And.intro);(iterate 4 all_goals try first|exact(bw (x.replaced.getD k (aG .int)) (by first|assumption|omega| (simp;done)| (simp;omega)))|exact(by simp only[ByteArray.size_append,fM,maxLen];omega)|exact(by simp only[dN,maxLen,List.length_singleton];omega));all_goals first|exact rfl|exact⟨rfl,bA _ (by decide)⟩) ?_))));refine bg X [1,3,8,9,10] rfl ?_;refine⟨k+1,by omega,by omega,?_⟩;rw[bh _ k rfl (by omega),hs];try rfl
 ·try simp only[aQ]at hb0
  have ht:(x.replaced.map fF).take k=x.replaced.map fF:=List.take_of_length_le (by rw[List.length_map];omega);have WL:(LU ((x.replaced.map fF).take k) 44).size≤cE List.length (x.replaced.map fF)+1:=by rw[ht];exact hos
  refine aI (aa ?_);have t1:=(bw (lR x.af x.af.length) (by first|assumption|omega| (simp;done)| (simp;omega)));exact aF X [] [(22,⟨false,[.a (.lit (.string (aX (Lib.itoa x.round))))]⟩),(26,⟨false,[.a (.lit (.string (aX (Lib.itoa x.cancelled))))]⟩),(30,⟨false,[.a (.lit (.string (LU ((x.replaced.map fF).take k) 44)))]⟩),(34,⟨false,[aA (lR x.af x.af.length)]⟩),(35,⟨false,bq t1⟩),(39,⟨false,[aA (wW x.af x.af.length)]⟩),(40,⟨false,[.a (.lit (.string (aX (Lib.itoa (wW x.af x.af.length)))))]⟩)] [2] [] 8388607 0 MO (by kernel_rfl) rfl (by kernel_rfl) (by(with_reducible and_intros);(iterate 10 all_goals try first|exact⟨⟩|exact(bw x.round (by first|assumption|omega| (simp;done)| (simp;omega)))|exact(bw x.cancelled (by first|assumption|omega| (simp;done)| (simp;omega)))|exact(wY _ 44 (by rw[ht];omega))|exact(gl x)|exact(bw (lR x.af x.af.length) (by first|assumption|omega| (simp;done)| (simp;omega)))|exact(gB x (by first|assumption|omega| (simp;done)| (simp;omega)))|exact(bw (wW x.af x.af.length) (by first|assumption|omega| (simp;done)| (simp;omega)))|exact(by simp only[ByteArray.size_append,fM,fE];omega))) (ak (ah rfl ⟨by rw[ht];rfl,⟨⟩⟩))
theorem nK(x:aW)(hw1:lV x.round)(jO:lV x.cancelled)(rm: ∀y,y∈x.replaced→lV y)(hd:x.af.length≤1048576)(hl:x.replaced.length≤1048576):So 39 [.agg (aN x)] [.a (.lit (.string (p7 x)))]:=by
 refine av X call39 func39 ntmps39 rfl rfl ?_;intro zb;have q1:=hw1;have q2:=jO;have z1:=bW q1;have z2:=bW q2;have q3:=IG x.af x.af.length;have q4:=M3 x.af x.af.length;have z3:=bW q3;have z4:=bW q4;have hlz:=rj fF 21 x.replaced (IX rm);have hos:=IY (x.replaced.map fF) 44;have hlm:(x.replaced.map fF).length=x.replaced.length:=List.length_map ..;refine aq X [1] rfl (aq X [1,3] rfl (aa (aq X [1,3,4] rfl ?_)));refine au (aE (fun k=>k≤x.replaced.length) (fun k:Nat=> [(3, .one (.a (.lit (.string (jn (x.replaced.map fF) 44 k))))),(4, .one ((aA k)))]) (fun k=> []) (fun k=>x.replaced.length-k) 0 (fun k=>rfl) (Nat.zero_le _) rfl ?_);intro k hk;have hjs:=UN (x.replaced.map fF) 44 k;refine aa (aq X [1,3,4,9] rfl ?_);refine aj rfl ?_ ?_<;>intro hb0
 ·try simp only[aQ]at hb0
  have q5:=at_mem rm hb0 (aG .int);have z5:=bW q5;unfold lV at q5;have Nf:(x.replaced.map fF).getD k []=fF (x.replaced.getD k (aG .int)):=Fm fF hb0 _ _;refine an (aa (au (aa (aq X [1,3,4,13] rfl ?_))));refine aj rfl ?_ ?_<;>intro aV
  ·try simp only[aQ]at aV
   have hs:=Dj (x.replaced.map fF) 44 (k:=k) (by omega) (by omega);rw[Nf]at hs;refine dy X [1,3,4] rfl (by(with_reducible and_intros);(iterate 3 all_goals try first|exact⟨⟩|exact(by simp only[ByteArray.size_append,fM,fE];omega))) (aL X [] [(22,⟨false,[.a (.lit (.string (aX (Lib.itoa (x.replaced.getD k (aG .int))))))]⟩)] [1,3,4] [] rfl (by(with_reducible and_intros);(iterate 4 all_goals try first|exact⟨⟩|exact(aU (x.replaced.getD k (aG .int)) (by first|assumption|omega| (simp;done)| (simp;omega)))|exact(by simp only[ByteArray.size_append,fM,fE];omega));all_goals first| (intros;omega)) (bg X [1,3,4] rfl ?_));refine⟨k+1,by omega,by omega,?_⟩;rw[bh _ k rfl (by omega),hs];try rfl
  ·try simp only[aQ]at aV
   have hs:=Ae (x.replaced.map fF) 44 (k:=k) (by omega) (by omega);rw[Nf]at hs;refine an (aL X [] [(22,⟨false,[.a (.lit (.string (aX (Lib.itoa (x.replaced.getD k (aG .int))))))]⟩)] [1,3,4] [] rfl (by(with_reducible and_intros);(iterate 4 all_goals try first|exact⟨⟩|exact(aU (x.replaced.getD k (aG .int)) (by first|assumption|omega| (simp;done)| (simp;omega)))|exact(by simp only[ByteArray.size_append,fM,fE];omega));all_goals first| (intros;omega)) (bg X [1,3,4] rfl ?_));refine⟨k+1,by omega,by omega,?_⟩;rw[bh _ k rfl (by omega),hs];try rfl
 ·try simp only[aQ]at hb0
  refine aI (aa (aq X [1,3,25] rfl ?_));refine aj rfl ?_ ?_<;>intro bI
  ·have hd:=aaj x.replaced 44 hb0 hk (acT bI);refine bg X [1,3] rfl (aa ?_);have t1:=(aU (lR x.af x.af.length) (by first|assumption|omega| (simp;done)| (simp;omega)));exact aF X [] [(28,⟨false,[.a (.lit (.string (aX (Lib.itoa x.round))))]⟩),(32,⟨false,[.a (.lit (.string (aX (Lib.itoa x.cancelled))))]⟩),(39,⟨false,[aA (lR x.af x.af.length)]⟩),(40,⟨false,bq t1⟩),(44,⟨false,[aA (wW x.af x.af.length)]⟩),(45,⟨false,[.a (.lit (.string (aX (Lib.itoa (wW x.af x.af.length)))))]⟩)] [2] [] 4194303 0 MO (by kernel_rfl) rfl (by kernel_rfl) (by(with_reducible and_intros);(iterate 9 all_goals try first|exact⟨⟩|exact(aU x.round (by first|assumption|omega| (simp;done)| (simp;omega)))|exact(aU x.cancelled (by first|assumption|omega| (simp;done)| (simp;omega)))|exact(eK x)|exact(aU (lR x.af x.af.length) (by first|assumption|omega| (simp;done)| (simp;omega)))|exact(eY x (by first|assumption|omega| (simp;done)| (simp;omega)))|exact(aU (wW x.af x.af.length) (by first|assumption|omega| (simp;done)| (simp;omega)))|exact(by simp only[ByteArray.size_append,fM,fE];omega))) (ak (ah rfl ⟨by unfold p7;rw[hd];rfl,⟨⟩⟩))
  ·have hd:=aai x.replaced 44 hb0 hk (acU bI);refine an (aa ?_);have t1:=(aU (lR x.af x.af.length) (by first|assumption|omega| (simp;done)| (simp;omega)));exact aF X [] [(28,⟨false,[.a (.lit (.string (aX (Lib.itoa x.round))))]⟩),(32,⟨false,[.a (.lit (.string (aX (Lib.itoa x.cancelled))))]⟩),(39,⟨false,[aA (lR x.af x.af.length)]⟩),(40,⟨false,bq t1⟩),(44,⟨false,[aA (wW x.af x.af.length)]⟩),(45,⟨false,[.a (.lit (.string (aX (Lib.itoa (wW x.af x.af.length)))))]⟩)] [2] [] 4194303 0 MO (by kernel_rfl) rfl (by kernel_rfl) (by(with_reducible and_intros);(iterate 9 all_goals try first|exact⟨⟩|exact(aU x.round (by first|assumption|omega| (simp;done)| (simp;omega)))|exact(aU x.cancelled (by first|assumption|omega| (simp;done)| (simp;omega)))|exact(eK x)|exact(aU (lR x.af x.af.length) (by first|assumption|omega| (simp;done)| (simp;omega)))|exact(eY x (by first|assumption|omega| (simp;done)| (simp;omega)))|exact(aU (wW x.af x.af.length) (by first|assumption|omega| (simp;done)| (simp;omega)))|exact(by simp only[ByteArray.size_append,fM,fE];omega))) (ak (ah rfl ⟨by unfold p7;rw[←hd];rfl,⟨⟩⟩))
end
end Go.Proofs.YtaalpcnbbldlaaaGreatDoor.G
namespace Go.Proofs.YtaalpcnbbldlaaaGreatDoor.G
set_option linter.all false
open Go.RowKit L D
section
def Lv(n:Int):Prop:= -200000≤n∧n≤200000
theorem Lv.I{n:Int}(h:Lv n):lV n:=by unfold Lv at h;unfold lV;omega
theorem Xr(a:Int): -9223372036854775808≤IntKind.i64.wrap a∧IntKind.i64.wrap a≤9223372036854775807:=by
 rw[IntKind.wrap_i64];omega
def Fp(l:List Int):Prop:= ∀y,y∈l→lV y
theorem acV{rows rd:Int}{p:List bp×List Int}{id:Int}(h:Fp p.2):Fp (zB rows rd p id).2:=by
 unfold zB;split
 ·rename_i hk;intro y hy;rcases List.mem_append.1 hy with hy|hy
  ·exact h y hy
  ·rw[List.mem_singleton.1 hy];simp only[xG,b7]at hk;have:=Xr ((p.1.length:Int)-1);unfold lV;omega
 ·exact h
theorem UT{rows rd:Int}: ∀{g:List Int} {p:List bp×List Int},Fp p.2→Fp (CI rows rd p g).2
 | [],_,h=>h
 |_::g,_,h=>UT (g:=g) (acV h)
theorem UU{x:aW}(h:Fp x.replaced):Fp (dn x).replaced:=by
 unfold dn;split
 ·generalize jA _ _ _ _ _=g;generalize jw _=d;have h1:Fp (cz x g d).replaced:=by
   unfold cz;by_cases hk:gX x=true
   ·rw[if_pos hk];show Fp (CI x.rows x.round (x.az,x.replaced) g).2
    exact UT h
   ·rw[if_neg hk];exact h
  generalize cz x g d=y at h1 ⊢;have h2:Fp (testW y).replaced:=by
   unfold testW;split
   ·show Fp (CI y.rows y.round (y.az,y.replaced) (GR y y.az.length)).2
    exact UT h1
   ·exact h1
  generalize testW y=z at h2 ⊢;unfold ES;split<;>exact h2
 ·exact h
theorem acW(x:aW)(c:Int)(b:List UInt8):(Jg x c b).replaced=x.replaced:=by unfold Jg;split<;>rfl
theorem acX(x:aW)(c:Int):(ID x c).replaced=x.replaced:=by unfold ID;split<;>rfl
theorem acY(x:aW)(i b:Int):(K2 x i b).replaced=x.replaced:=by unfold K2;split<;>rfl
end
end Go.Proofs.YtaalpcnbbldlaaaGreatDoor.G
