/-
  What is formatted: bounds of the numbers in drawn clients, servers, archives and worlds; texts without blanks. No program in sight.
-/
import Derived.Test.YtaalpcnbbldlaaaGreatDoorM13
import Derived.Test.YtaalpcnbbldlaaaGreatDoorM17
open ByteArray renaming append_assoc→lG,size_append→bA
open Go.Lib renaming itoa→cg
open List renaming length→aL,length_map→bt,length_singleton→fY,length_take→bV,length_take_le→DP,take_of_length_le→aD,toArray→Bi
open Nat renaming zero_le→aE
namespace Go.Proofs.YtaalpcnbbldlaaaGreatDoor.G
set_option linter.all false
open Go.RowKit L D Tryz
section
set_option maxRecDepth 100000
theorem rR:So 31 [] [.a (.sl .str names)]:=by
 refine aF X call31 func31 ntmps31 rfl rfl ?_
 intro zb
 exact av X [] rfl (aO X [0] rfl ⟨⟨rfl,cE _ (by decide)⟩,by decide,by decide,by decide,by decide,⟨⟩⟩ (aq (aj rfl ⟨rfl,⟨⟩⟩)))
theorem Cx(x:cu)(h1:rY x.id)(h3:rY x.round)(h5:rY x.behavior):So 79 [.agg (dF x)] [.a (.lit (.string (HJ x)))]:=by
 refine aF X call79 func79 ntmps79 rfl rfl ?_
 intro zb
 have z1:=dM h1
 have z2:=dM h3
 have z3:=Qk x.behavior.toNat
 unfold rY at h1 h3 h5
 refine av X [1] rfl (av X [1,3] rfl (aa (aM X [] [(6,⟨false,[aU (inr x.behavior 0 3)]⟩)] [1,3,6] [] rfl (by(with_reducible and_intros)<;>first|exact⟨⟩|exact(bl x.behavior 0 3)) ?_)))
 refine an rfl ?_ ?_<;>intro hb0
 ·have z4:(⟨Bi (names.getD x.behavior.toNat (aR Tag.str))⟩:ByteArray).size≤6:=z3
  have z5:(⟨Bi ([[104,111,110,101,115,116],[100,114,111,112,115],[97,108,116,101,114,115],[108,105,101,115]].getD x.behavior.toNat (aR Tag.str))⟩:ByteArray).size≤6:=z3
  have hnl:names.length=4:=rfl
  have hin:0≤x.behavior∧x.behavior≤3:=by simp only[inr]at hb0;split at hb0<;>simp_all
  have hbh:L3 x.behavior=bP (names.getD x.behavior.toNat []):=by unfold L3;rw[if_pos hb0]
  exact aQ X [] [(7,⟨true,[.a (.sl .str names)]⟩)] [1,3] [] 63 0 MO (by kernel_rfl) rfl (by kernel_rfl) (by(with_reducible and_intros)<;>first|exact⟨⟩|exact(rR)| (intros;omega)) (aa (aQ X [] [(14,⟨false,[.a (.lit (.string (bP (cg x.id))))]⟩),(18,⟨false,[.a (.lit (.string (bP (cg x.round))))]⟩)] [2] [] 4095 0 MO (by kernel_rfl) rfl (by kernel_rfl) (by(with_reducible and_intros);(iterate 3 all_goals try first|exact⟨⟩|exact(cD x.id (by first|assumption|omega| (simp;done)| (simp;omega)))|exact(cD x.round (by first|assumption|omega| (simp;done)| (simp;omega)))|exact(by simp only[bA,ko,jV];omega))) (aq (aj rfl ⟨by unfold HJ;rw[hbh];rfl,⟨⟩⟩))))
 ·have hbh:L3 x.behavior=bP [63]:=by unfold L3;rw[if_neg (by rw[hb0];decide)]
  exact au (aa (aQ X [] [(14,⟨false,[.a (.lit (.string (bP (cg x.id))))]⟩),(18,⟨false,[.a (.lit (.string (bP (cg x.round))))]⟩)] [2] [] 4095 0 MO (by kernel_rfl) rfl (by kernel_rfl) (by(with_reducible and_intros);(iterate 3 all_goals try first|exact⟨⟩|exact(cD x.id (by first|assumption|omega| (simp;done)| (simp;omega)))|exact(cD x.round (by first|assumption|omega| (simp;done)| (simp;omega)))|exact(by simp only[bA,ko,jV];omega))) (aq (aj rfl ⟨by unfold HJ;rw[hbh];rfl,⟨⟩⟩))))
theorem Cy(x:cu)(h1:rY x.id)(h3:rY x.round)(h5:rY x.behavior):So 52 [.agg (dF x)] [.a (.lit (.string (HJ x)))]:=by
 refine aF X call52 func52 ntmps52 rfl rfl ?_
 intro zb
 have z1:=dM h1
 have z2:=dM h3
 have z3:=Qk x.behavior.toNat
 unfold rY at h1 h3 h5
 refine av X [1] rfl (av X [1,3] rfl (aa (aM X [] [(6,⟨false,[aU (inr x.behavior 0 3)]⟩)] [1,3,6] [] rfl (by(with_reducible and_intros)<;>first|exact⟨⟩|exact(bD x.behavior 0 3)) ?_)))
 refine an rfl ?_ ?_<;>intro hb0
 ·have z4:(⟨Bi (names.getD x.behavior.toNat (aR Tag.str))⟩:ByteArray).size≤6:=z3
  have z5:(⟨Bi ([[104,111,110,101,115,116],[100,114,111,112,115],[97,108,116,101,114,115],[108,105,101,115]].getD x.behavior.toNat (aR Tag.str))⟩:ByteArray).size≤6:=z3
  have hnl:names.length=4:=rfl
  have hin:0≤x.behavior∧x.behavior≤3:=by simp only[inr]at hb0;split at hb0<;>simp_all
  have hbh:L3 x.behavior=bP (names.getD x.behavior.toNat []):=by unfold L3;rw[if_pos hb0]
  exact gA X [1,3] rfl ⟨by show x.behavior.toNat<4;omega,⟨hin.1,by show x.behavior<((4:Nat):Int);omega⟩,⟨rfl,cE _ (by decide)⟩,by decide,by decide,by decide,by decide,⟨⟩⟩ (aa (aQ X [] [(14,⟨false,[.a (.lit (.string (bP (cg x.id))))]⟩),(18,⟨false,[.a (.lit (.string (bP (cg x.round))))]⟩)] [2] [] 4095 0 MO (by kernel_rfl) rfl (by kernel_rfl) (by(with_reducible and_intros);(iterate 3 all_goals try first|exact⟨⟩|exact(bL x.id (by first|assumption|omega| (simp;done)| (simp;omega)))|exact(bL x.round (by first|assumption|omega| (simp;done)| (simp;omega)))|exact(by simp only[bA,ko,jV];omega))) (aq (aj rfl ⟨by unfold HJ;rw[hbh];rfl,⟨⟩⟩))))
 ·have hbh:L3 x.behavior=bP [63]:=by unfold L3;rw[if_neg (by rw[hb0];decide)]
  exact au (aa (aQ X [] [(14,⟨false,[.a (.lit (.string (bP (cg x.id))))]⟩),(18,⟨false,[.a (.lit (.string (bP (cg x.round))))]⟩)] [2] [] 4095 0 MO (by kernel_rfl) rfl (by kernel_rfl) (by(with_reducible and_intros);(iterate 3 all_goals try first|exact⟨⟩|exact(bL x.id (by first|assumption|omega| (simp;done)| (simp;omega)))|exact(bL x.round (by first|assumption|omega| (simp;done)| (simp;omega)))|exact(by simp only[bA,ko,jV];omega))) (aq (aj rfl ⟨by unfold HJ;rw[hbh];rfl,⟨⟩⟩))))
theorem CX(l:List (List UInt8))(c:UInt8)(h:eN aL l≤1099511627776):So 109 [.a (.sl .str l), .a (.lit (.string (bP [c])))] [.a (.lit (.string (Um l c)))]:=by
 refine aF X call109 func109 ntmps109 rfl rfl ?_
 intro zb
 refine eu 0 rfl (fun mK=>(av X [0,1] rfl (aa (av X [0,1,7] rfl ?_))))
 refine an rfl ?_ ?_<;>intro hb0
 ·try simp only[bG]at hb0
  exact av X [4] rfl (aq (aj rfl ⟨by unfold Um;rw[if_pos (by omega)];rfl,⟨⟩⟩))
 ·try simp only[bG]at hb0
  exact au (aM X [] [(10,⟨false,[.a (.lit (.string (bP (Lib.join l [c]))))]⟩)] [4] [] rfl (by(with_reducible and_intros)<;>first|exact⟨⟩|exact(Bg l c h)) (aq (aj rfl ⟨by unfold Um;rw[if_neg (by omega)],⟨⟩⟩)))
theorem zB(l:List UInt8)(f:FuncId)(p:UInt8→Bool)(hf: ∀b,So f [.a (.lit (.int .u8 (b.toNat:Int)))] [aU (p b)]):So 332 [.a (.sl .u8 l), .a (.lit (.func (.func f) #[] #[]))] [aI (fidx p l)]:=by
 refine aF X call332 func332 ntmps332 rfl rfl ?_
 intro zb
 refine eu 0 rfl (fun mK=>(av X [0,1] rfl (aa (av X [0,1,7,8] rfl ?_))))
 refine aB (aP (fun k=>k≤l.length∧(l.take k).any p=false) (fun k:Nat=> [(8, .one ((aI k)))]) (fun k=> []) (fun k=>l.length-k) 0 (fun k=>rfl) ⟨aE _,rfl⟩ rfl ?_)
 rintro k ⟨hk,hall⟩
 refine av X [0,1,7,8,9] rfl ?_
 refine aa (an rfl ?_ ?_)<;>intro hb0
 ·try simp only[bG]at hb0
  refine au (aa (aB (av X [0,1,5,7,8] rfl (aM X [] [(16,⟨false,[aU (p (l.getD k (aR .u8)))]⟩)] [0,1,5,7,8,16] [] rfl (by(with_reducible and_intros)<;>first|exact⟨⟩|exact(hf _)| (intros;omega)) ?_))))
  refine an rfl ?_ ?_<;>intro bM
  ·exact av X [4] rfl (aq (aj rfl ⟨by rw[Av (aR .u8) hb0 hall bM],⟨⟩⟩))
  ·refine au (bU X [0,1,7,8] rfl ?_)
   refine⟨k+1,⟨by omega,xR (aR .u8) hb0 hall bM⟩,by omega,?_⟩
   rw[bZ _ k rfl (by omega)]
   try rfl
 ·try simp only[bG]at hb0
  exact aW (av X [4] rfl (aq (aj rfl ⟨by rw[GI (by rw[←hall,aD hb0])],⟨⟩⟩)))
theorem vP(l:List UInt8)(f:FuncId)(p:UInt8→Bool)(hf: ∀b,So f [.a (.lit (.int .u8 (b.toNat:Int)))] [aU (p b)]):So 270 [.a (.sl .u8 l), .a (.lit (.func (.func f) #[] #[]))] [aU (l.any p)]:=by
 refine aF X call270 func270 ntmps270 rfl rfl ?_
 intro zb
 exact av X [0,1] rfl (aM X [] [(7,⟨false,[aI (fidx p l)]⟩)] [4] [] rfl (by(with_reducible and_intros)<;>first|exact⟨⟩|exact(zB l f p hf)) (aq (aj rfl ⟨congrArg Value.bool (Pg p l),⟨⟩⟩)))
theorem Bj(c:UInt8):So 271 [.a (.lit (.int .u8 (c.toNat:Int)))] [aU ((c.toNat:Int) !=0)]:=by
 refine aF X call271 func271 ntmps271 rfl rfl ?_
 intro zb
 exact av X [0] rfl (av X [2] rfl (aq (aj rfl ⟨rfl,⟨⟩⟩)))
theorem DN(b:List UInt8):So 197 [.a (.sl .u8 b)] [aU (!bz b)]:=by
 refine aF X call197 func197 ntmps197 rfl rfl ?_
 intro zb
 exact av X [0] rfl (aM X [] [(4,⟨false,[aU (b.any fun c=>(c.toNat:Int) !=0)]⟩)] [2] [] rfl (by(with_reducible and_intros)<;>first|exact⟨⟩|exact(vP _ _ _ Bj)) (aq (aj rfl ⟨rfl,⟨⟩⟩)))
theorem DO(b:List UInt8):So 152 [.a (.sl .u8 b)] [aU (!bz b)]:=by
 refine aF X call152 func152 ntmps152 rfl rfl ?_
 intro zb
 refine eu 0 rfl (fun mK=>(av X [0] rfl (aa (av X [0,3] rfl ?_))))
 refine aB (aP (fun k=>k≤b.length∧(b.take k).any (fun c=>(c.toNat:Int) !=0)=false) (fun k:Nat=> [(3, .one ((aI k)))]) (fun k=> []) (fun k=>b.length-k) 0 (fun k=>rfl) ⟨aE _,rfl⟩ rfl ?_)
 rintro k ⟨hk,hall⟩
 refine aa (av X [0,3,7] rfl ?_)
 refine an rfl ?_ ?_<;>intro hb0
 ·try simp only[bG]at hb0
  refine au (aa (aB (aO X [0,3,14] rfl (by and_intros<;>first|exact⟨⟩| (intros;omega)) ?_)))
  refine an rfl ?_ ?_<;>intro bM
  ·exact av X [2] rfl (aq (aj rfl ⟨by unfold bz;rw[Ew b _ (aR .u8) k hb0 bM];rfl,⟨⟩⟩))
  ·refine au (bU X [0,3] rfl ?_)
   refine⟨k+1,⟨by omega,xR (aR .u8) hb0 hall bM⟩,by omega,?_⟩
   rw[bZ _ k rfl (by omega)]
   try rfl
 ·try simp only[bG]at hb0
  exact aW (av X [2] rfl (aq (aj rfl ⟨by rw[aD hb0]at hall;unfold bz;rw[hall];rfl,⟨⟩⟩)))
theorem oQ(d:DB):So 114 [.agg (bQ d)] [aI ((oD d.rows:Nat):Int)]:=by
 refine aF X call114 func114 ntmps114 rfl rfl ?_
 intro zb
 refine b7 0 0 rfl rfl (fun mK=>(av X [1] rfl (av X [1,3] rfl (aa (av X [3,7,8,9] rfl ?_)))))
 refine aB (aP (fun k=>k≤d.rows.length) (fun k:Nat=> [(3, .one ((aI ((oD (d.rows.take k):Nat):Int)))),(9, .one ((aI k)))]) (fun k=> []) (fun k=>d.rows.length-k) 0 (fun k=>rfl) (aE _) rfl ?_)
 intro k hk
 have hcl:=B5 (d.rows.take k)
 have htl:(d.rows.take k).length≤k:=DP _ _
 refine av X [3,7,8,9,10] rfl ?_
 refine aa (an rfl ?_ ?_)<;>intro hb0
 ·try simp only[bG]at hb0
  refine au (aa (aB (aO X [3,5,7,8,9] rfl (by and_intros<;>first|exact⟨⟩| (intros;omega)) (aM X [] [(14,⟨false,[aU (!bz (d.rows.getD k (aR (.sl .u8))))]⟩)] [3,7,8,9,15] [] rfl (by(with_reducible and_intros)<;>first|exact⟨⟩|exact(DN (d.rows.getD k (aR (.sl .u8))))) ?_))))
  refine an rfl ?_ ?_<;>intro bM
  ·have hs:=TL d.rows k (aR (.sl .u8)) hb0 (by simpa using bM)
   refine bU X [3,7,8,9] rfl (bU X [3,7,8,9] rfl ?_)
   refine⟨k+1,by omega,by omega,?_⟩
   rw[bZ _ k rfl (by omega),bZ _ (oD (d.rows.take k)) rfl (by omega),hs]
   try rfl
  ·have hs:=Od d.rows k (aR (.sl .u8)) hb0 (by simpa using bM)
   refine au (bU X [3,7,8,9] rfl ?_)
   refine⟨k+1,by omega,by omega,?_⟩
   rw[bZ _ k rfl (by omega),hs]
   try rfl
 ·try simp only[bG]at hb0
  exact aW (av X [2] rfl (aq (aj rfl ⟨by rw[aD hb0],⟨⟩⟩)))
theorem iU(d:DB):So 85 [.agg (bQ d)] [aI ((oD d.rows:Nat):Int)]:=by
 refine aF X call85 func85 ntmps85 rfl rfl ?_
 intro zb
 refine b7 0 0 rfl rfl (fun mK=>(av X [1] rfl (av X [1,3] rfl (aa (av X [1,3,4] rfl ?_)))))
 refine aB (aP (fun k=>k≤d.rows.length) (fun k:Nat=> [(3, .one ((aI ((oD (d.rows.take k):Nat):Int)))),(4, .one ((aI k)))]) (fun k=> []) (fun k=>d.rows.length-k) 0 (fun k=>rfl) (aE _) rfl ?_)
 intro k hk
 have hcl:=B5 (d.rows.take k)
 have htl:(d.rows.take k).length≤k:=DP _ _
 refine aa (av X [1,3,4,9] rfl ?_)
 refine an rfl ?_ ?_<;>intro hb0
 ·try simp only[bG]at hb0
  refine au (aa (aB (aM X [] [(17,⟨false,[aU (!bz (d.rows.getD k (aR (.sl .u8))))]⟩)] [1,3,4,18] [] rfl (by(with_reducible and_intros)<;>first|exact⟨⟩|exact(DO (d.rows.getD k (aR (.sl .u8))))| (intros;omega)) ?_)))
  refine an rfl ?_ ?_<;>intro bM
  ·have hs:=TL d.rows k (aR (.sl .u8)) hb0 (by simpa using bM)
   refine bU X [1,3,4] rfl (bU X [1,3,4] rfl ?_)
   refine⟨k+1,by omega,by omega,?_⟩
   rw[bZ _ k rfl (by omega),bZ _ (oD (d.rows.take k)) rfl (by omega),hs]
   try rfl
  ·have hs:=Od d.rows k (aR (.sl .u8)) hb0 (by simpa using bM)
   refine au (bU X [1,3,4] rfl ?_)
   refine⟨k+1,by omega,by omega,?_⟩
   rw[bZ _ k rfl (by omega),hs]
   try rfl
 ·try simp only[bG]at hb0
  exact aW (av X [2] rfl (aq (aj rfl ⟨by rw[aD hb0],⟨⟩⟩)))
theorem Bk(a:mD)(hw:Ut a)(hz: ∀y,y∈a.rounds→y.db.rows.length≤1048576)(hl:a.rounds.length≤1048576):So 61 [.agg (fK a)] [.a (.lit (.string (L5 a)))]:=by
 refine aF X call61 func61 ntmps61 rfl rfl ?_
 intro zb
 obtain⟨_,oR⟩:=hw
 have hlz:=yw F7 43 a.rounds (V0 oR hz)
 refine av X [1] rfl (aO X [1,3] rfl (by and_intros<;>first|exact⟨⟩|exact rfl) (aa (av X [3,8,9,10] rfl ?_)))
 refine aB (aP (fun k=>k≤a.rounds.length) (fun k:Nat=> [(10, .one ((aI k)))]) (fun k=> [(6, .arr .str ((a.rounds.map F7).take k))]) (fun k=>a.rounds.length-k) 0 (fun k=>rfl) (aE _) rfl ?_)
 intro k hk
 have htl:((a.rounds.map F7).take k).length≤1048576:=by rw[bV,bt];omega
 refine av X [3,8,9,10,11] rfl ?_
 refine aa (an rfl ?_ ?_)<;>intro hb0
 ·try simp only[bG]at hb0
  obtain⟨q1,_⟩:=at_mem oR hb0 (aR .aX)
  have q2:=at_mem hz hb0 (aR .aX)
  have q3:=B5 (a.rounds.getD k (aR .aX)).db.rows
  have z1:=dM q1
  have z2:=dM (n:=(oD (a.rounds.getD k (aR .aX)).db.rows:Int)) (by omega)
  unfold rY at q1
  have V1:(a.rounds.map F7).getD k []=F7 (a.rounds.getD k (aR .aX)):=L4 F7 hb0 _ _
  have hlm:(a.rounds.map F7).length=a.rounds.length:=bt ..
  have hs:(a.rounds.map F7).take (k+1)=(a.rounds.map F7).take k++ [F7 (a.rounds.getD k (aR .aX))]:=by rw[cB _ k [] (by omega),V1]
  refine au (aa (aB (aO X [3,5,8,9,10] rfl (by and_intros<;>first|exact⟨⟩| (intros;omega)) ?_)))
  have t1:=(cD ((a.rounds.getD k (aR .aX)).round) (by first|assumption|omega| (simp;done)| (simp;omega)))
  have t2:=(oQ ((a.rounds.getD k (aR .aX)).db))
  have t3:=(cD ((oD (a.rounds.getD k (aR .aX)).db.rows:Nat):Int) (by first|assumption|omega| (simp;done)| (simp;omega)))
  refine aQ X [(25,6)] [(17,⟨false,cx t1⟩),(21,⟨false,cx t2⟩),(22,⟨false,cx t3⟩)] [3,8,9,10] [] 2047 0 MO (by kernel_rfl) rfl (by kernel_rfl) (by(repeat' with_reducible first|exact bH|refine bS ?_ ?_|apply And.intro);(iterate 6 all_goals try first|exact(cD ((a.rounds.getD k (aR .aX)).round) (by first|assumption|omega| (simp;done)| (simp;omega)))|exact(oQ ((a.rounds.getD k (aR .aX)).db))|exact(cD ((oD (a.rounds.getD k (aR .aX)).db.rows:Nat):Int) (by first|assumption|omega| (simp;done)| (simp;omega)))|exact(by simp only[bA,ko,jV];omega)|exact(by simp only[bA,ko,maxLen];omega)|exact(by simp only[gR,maxLen,fY];omega));all_goals first|exact rfl|exact⟨rfl,cE _ (by decide)⟩) ?_
  refine bU X [3,8,9,10] rfl ?_
  refine⟨k+1,by omega,by omega,?_⟩
  rw[bZ _ k rfl (by omega),hs]
  try rfl
 ·try simp only[bG]at hb0
  have ht:(a.rounds.map F7).take k=a.rounds.map F7:=aD (by rw[bt];omega)
  exact aW (aM X [] [(28,⟨false,[.a (.lit (.string (Um ((a.rounds.map F7).take k) 32)))]⟩)] [2] [] rfl (by(with_reducible and_intros)<;>first|exact⟨⟩|exact(CX _ 32 (by rw[ht];omega))) (aq (aj rfl ⟨by rw[ht];rfl,⟨⟩⟩)))
theorem Bl(a:mD)(hw:Ut a)(hz: ∀y,y∈a.rounds→y.db.rows.length≤1048576)(hl:a.rounds.length≤1048576):So 38 [.agg (fK a)] [.a (.lit (.string (L5 a)))]:=by
 refine aF X call38 func38 ntmps38 rfl rfl ?_
 intro zb
 obtain⟨_,oR⟩:=hw
 have hlz:=yw F7 43 a.rounds (V0 oR hz)
 refine av X [1] rfl (aa (av X [1,8] rfl ?_))
 refine an rfl ?_ ?_<;>intro hb0
 ·try simp only[bG]at hb0
  exact av X [2] rfl (aq (aj rfl ⟨by unfold L5 Um;rw[if_pos (by rw[bt];omega)];rfl,⟨⟩⟩))
 ·try simp only[bG]at hb0
  refine au (av X [1,3] rfl (aa (av X [1,3,4] rfl ?_)))
  refine aB (aP (fun k=>k≤a.rounds.length) (fun k:Nat=> [(3, .one (.a (.lit (.string (jn (a.rounds.map F7) 32 k))))),(4, .one ((aI k)))]) (fun k=> []) (fun k=>a.rounds.length-k) 0 (fun k=>rfl) (aE _) rfl ?_)
  intro k hk
  have hjs:=aeY (a.rounds.map F7) 32 k
  refine aa (av X [1,3,4,13] rfl ?_)
  refine an rfl ?_ ?_<;>intro bM
  ·try simp only[bG]at bM
   obtain⟨q1,_⟩:=at_mem oR bM (aR .aX)
   have q2:=at_mem hz bM (aR .aX)
   have q3:=B5 (a.rounds.getD k (aR .aX)).db.rows
   have z1:=dM q1
   have z2:=dM (n:=(oD (a.rounds.getD k (aR .aX)).db.rows:Int)) (by omega)
   unfold rY at q1
   have V1:(a.rounds.map F7).getD k []=F7 (a.rounds.getD k (aR .aX)):=L4 F7 bM _ _
   have hlm:(a.rounds.map F7).length=a.rounds.length:=bt ..
   refine au (aa (aB (aa (av X [1,3,4,17] rfl ?_))))
   refine an rfl ?_ ?_<;>intro cS
   ·try simp only[bG]at cS
    have hs:=JO (a.rounds.map F7) 32 (k:=k) (by omega) (by omega)
    rw[V1]at hs
    refine gA X [1,3,4] rfl (by(with_reducible and_intros);(iterate 3 all_goals try first|exact⟨⟩|exact(by simp only[bA,ko,jV];omega))) ?_
    have t1:=(bL ((a.rounds.getD k (aR .aX)).round) (by first|assumption|omega| (simp;done)| (simp;omega)))
    have t2:=(iU ((a.rounds.getD k (aR .aX)).db))
    have t3:=(bL ((oD (a.rounds.getD k (aR .aX)).db.rows:Nat):Int) (by first|assumption|omega| (simp;done)| (simp;omega)))
    refine aQ X [] [(27,⟨false,cx t1⟩),(36,⟨false,cx t2⟩),(37,⟨false,cx t3⟩)] [1,3,4] [] 1048575 0 MO (by kernel_rfl) rfl (by kernel_rfl) (by(with_reducible and_intros);(iterate 6 all_goals try first|exact⟨⟩|exact(bL ((a.rounds.getD k (aR .aX)).round) (by first|assumption|omega| (simp;done)| (simp;omega)))|exact(iU ((a.rounds.getD k (aR .aX)).db))|exact(bL ((oD (a.rounds.getD k (aR .aX)).db.rows:Nat):Int) (by first|assumption|omega| (simp;done)| (simp;omega)))|exact(by simp only[bA,ko,jV];omega));all_goals first| (intros;omega)) (bU X [1,3,4] rfl ?_)
    refine⟨k+1,by omega,by omega,?_⟩
    rw[bZ _ k rfl (by omega),hs]
    rw[show bP (F7 (a.rounds.getD k (aR .aX)))=wAR (a.rounds.getD k (aR .aX))from rfl]
    simp only[wAR,lG]
    try rfl
   ·try simp only[bG]at cS
    have hs:=FP (a.rounds.map F7) 32 (k:=k) (by omega) (by omega)
    rw[V1]at hs
    refine au ?_
    have t1:=(bL ((a.rounds.getD k (aR .aX)).round) (by first|assumption|omega| (simp;done)| (simp;omega)))
    have t2:=(iU ((a.rounds.getD k (aR .aX)).db))
    have t3:=(bL ((oD (a.rounds.getD k (aR .aX)).db.rows:Nat):Int) (by first|assumption|omega| (simp;done)| (simp;omega)))
    refine aQ X [] [(27,⟨false,cx t1⟩),(36,⟨false,cx t2⟩),(37,⟨false,cx t3⟩)] [1,3,4] [] 1048575 0 MO (by kernel_rfl) rfl (by kernel_rfl) (by(with_reducible and_intros);(iterate 6 all_goals try first|exact⟨⟩|exact(bL ((a.rounds.getD k (aR .aX)).round) (by first|assumption|omega| (simp;done)| (simp;omega)))|exact(iU ((a.rounds.getD k (aR .aX)).db))|exact(bL ((oD (a.rounds.getD k (aR .aX)).db.rows:Nat):Int) (by first|assumption|omega| (simp;done)| (simp;omega)))|exact(by simp only[bA,ko,jV];omega));all_goals first| (intros;omega)) (bU X [1,3,4] rfl ?_)
    refine⟨k+1,by omega,by omega,?_⟩
    rw[bZ _ k rfl (by omega),hs]
    rw[show bP (F7 (a.rounds.getD k (aR .aX)))=wAR (a.rounds.getD k (aR .aX))from rfl]
    simp only[wAR,lG]
    try rfl
  ·try simp only[bG]at bM
   exact aW (av X [2] rfl (aq (aj rfl ⟨by unfold L5;rw[aeZ _ _ (by rw[bt];omega) (by rw[bt];omega)],⟨⟩⟩)))
theorem kW(x:bN)(hw1:rY x.round)(oR:rY x.cancelled)(yx: ∀y,y∈x.replaced→rY y)(hd:x.ah.length≤1048576)(hl:x.replaced.length≤1048576):So 58 [.agg (bw x)] [.a (.lit (.string (wZ x)))]:=by
 refine aF X call58 func58 ntmps58 rfl rfl ?_
 intro zb
 have q1:=hw1
 have q2:=oR
 have z1:=dM q1
 have z2:=dM q2
 have q3:=PU x.ah x.ah.length
 have q4:=VK x.ah x.ah.length
 have z3:=dM q3
 have z4:=dM q4
 have hlz:=yw jW 21 x.replaced (Ql yx)
 have hos:=Qm (x.replaced.map jW) 44
 have hlm:(x.replaced.map jW).length=x.replaced.length:=bt ..
 refine av X [1] rfl (aO X [1,3] rfl (by and_intros<;>first|exact⟨⟩|exact rfl) (aa (av X [1,3,8,9,10] rfl ?_)))
 refine aB (aP (fun k=>k≤x.replaced.length) (fun k:Nat=> [(10, .one ((aI k)))]) (fun k=> [(6, .arr .str ((x.replaced.map jW).take k))]) (fun k=>x.replaced.length-k) 0 (fun k=>rfl) (aE _) rfl ?_)
 intro k hk
 have htl:((x.replaced.map jW).take k).length≤1048576:=by rw[bV,bt];omega
 refine av X [1,3,8,9,10,11] rfl ?_
 refine aa (an rfl ?_ ?_)<;>intro hb0
 ·try simp only[bG]at hb0
  have q5:=at_mem yx hb0 (aR .int)
  have z5:=dM q5
  unfold rY at q5
  have V1:(x.replaced.map jW).getD k []=jW (x.replaced.getD k (aR .int)):=L4 jW hb0 _ _
  have hs:(x.replaced.map jW).take (k+1)=(x.replaced.map jW).take k++ [jW (x.replaced.getD k (aR .int))]:=by rw[cB _ k [] (by omega),V1]
  refine au (aa (aB (aO X [1,3,5,8,9,10] rfl (by and_intros<;>first|exact⟨⟩| (intros;omega)) (bn X [(18,6)] [(16,⟨false,[.a (.lit (.string (bP (cg (x.replaced.getD k (aR .int))))))]⟩)] [1,3,8,9,10] [] rfl (by(repeat' with_reducible first|exact bH|refine bS ?_ ?_|apply And.intro);(iterate 4 all_goals try first|exact(cD (x.replaced.getD k (aR .int)) (by first|assumption|omega| (simp;done)| (simp;omega)))|exact(by simp only[bA,ko,maxLen];omega)|exact(by simp only[gR,maxLen,fY];omega));all_goals first|exact rfl|exact⟨rfl,cE _ (by decide)⟩) ?_))))
  refine bU X [1,3,8,9,10] rfl ?_
  refine⟨k+1,by omega,by omega,?_⟩
  rw[bZ _ k rfl (by omega),hs]
  try rfl
 ·try simp only[bG]at hb0
  have ht:(x.replaced.map jW).take k=x.replaced.map jW:=aD (by rw[bt];omega)
  have ahB:(Um ((x.replaced.map jW).take k) 44).size≤eN aL (x.replaced.map jW)+1:=by rw[ht];exact hos
  refine aW (aa ?_)
  have t1:=(cD (rM x.ah x.ah.length) (by first|assumption|omega| (simp;done)| (simp;omega)))
  exact aQ X [] [(22,⟨false,[.a (.lit (.string (bP (cg x.round))))]⟩),(26,⟨false,[.a (.lit (.string (bP (cg x.cancelled))))]⟩),(30,⟨false,[.a (.lit (.string (Um ((x.replaced.map jW).take k) 44)))]⟩),(34,⟨false,[aI (rM x.ah x.ah.length)]⟩),(35,⟨false,cx t1⟩),(39,⟨false,[aI (CU x.ah x.ah.length)]⟩),(40,⟨false,[.a (.lit (.string (bP (cg (CU x.ah x.ah.length)))))]⟩)] [2] [] 8388607 0 MO (by kernel_rfl) rfl (by kernel_rfl) (by(with_reducible and_intros);(iterate 10 all_goals try first|exact⟨⟩|exact(cD x.round (by first|assumption|omega| (simp;done)| (simp;omega)))|exact(cD x.cancelled (by first|assumption|omega| (simp;done)| (simp;omega)))|exact(CX _ 44 (by rw[ht];omega))|exact(kV x)|exact(cD (rM x.ah x.ah.length) (by first|assumption|omega| (simp;done)| (simp;omega)))|exact(lF x (by first|assumption|omega| (simp;done)| (simp;omega)))|exact(cD (CU x.ah x.ah.length) (by first|assumption|omega| (simp;done)| (simp;omega)))|exact(by simp only[bA,ko,jV];omega))) (aq (aj rfl ⟨by rw[ht];rfl,⟨⟩⟩))
theorem uz(x:bN)(hw1:rY x.round)(oR:rY x.cancelled)(yx: ∀y,y∈x.replaced→rY y)(hd:x.ah.length≤1048576)(hl:x.replaced.length≤1048576):So 39 [.agg (bw x)] [.a (.lit (.string (wZ x)))]:=by
 refine aF X call39 func39 ntmps39 rfl rfl ?_
 intro zb
 have q1:=hw1
 have q2:=oR
 have z1:=dM q1
 have z2:=dM q2
 have q3:=PU x.ah x.ah.length
 have q4:=VK x.ah x.ah.length
 have z3:=dM q3
 have z4:=dM q4
 have hlz:=yw jW 21 x.replaced (Ql yx)
 have hos:=Qm (x.replaced.map jW) 44
 have hlm:(x.replaced.map jW).length=x.replaced.length:=bt ..
 refine av X [1] rfl (av X [1,3] rfl (aa (av X [1,3,4] rfl ?_)))
 refine aB (aP (fun k=>k≤x.replaced.length) (fun k:Nat=> [(3, .one (.a (.lit (.string (jn (x.replaced.map jW) 44 k))))),(4, .one ((aI k)))]) (fun k=> []) (fun k=>x.replaced.length-k) 0 (fun k=>rfl) (aE _) rfl ?_)
 intro k hk
 have hjs:=aeY (x.replaced.map jW) 44 k
 refine aa (av X [1,3,4,9] rfl ?_)
 refine an rfl ?_ ?_<;>intro hb0
 ·try simp only[bG]at hb0
  have q5:=at_mem yx hb0 (aR .int)
  have z5:=dM q5
  unfold rY at q5
  have V1:(x.replaced.map jW).getD k []=jW (x.replaced.getD k (aR .int)):=L4 jW hb0 _ _
  refine au (aa (aB (aa (av X [1,3,4,13] rfl ?_))))
  refine an rfl ?_ ?_<;>intro bM
  ·try simp only[bG]at bM
   have hs:=JO (x.replaced.map jW) 44 (k:=k) (by omega) (by omega)
   rw[V1]at hs
   refine gA X [1,3,4] rfl (by(with_reducible and_intros);(iterate 3 all_goals try first|exact⟨⟩|exact(by simp only[bA,ko,jV];omega))) (bn X [] [(22,⟨false,[.a (.lit (.string (bP (cg (x.replaced.getD k (aR .int))))))]⟩)] [1,3,4] [] rfl (by(with_reducible and_intros);(iterate 4 all_goals try first|exact⟨⟩|exact(bL (x.replaced.getD k (aR .int)) (by first|assumption|omega| (simp;done)| (simp;omega)))|exact(by simp only[bA,ko,jV];omega));all_goals first| (intros;omega)) (bU X [1,3,4] rfl ?_))
   refine⟨k+1,by omega,by omega,?_⟩
   rw[bZ _ k rfl (by omega),hs]
   try rfl
  ·try simp only[bG]at bM
   have hs:=FP (x.replaced.map jW) 44 (k:=k) (by omega) (by omega)
   rw[V1]at hs
   refine au (bn X [] [(22,⟨false,[.a (.lit (.string (bP (cg (x.replaced.getD k (aR .int))))))]⟩)] [1,3,4] [] rfl (by(with_reducible and_intros);(iterate 4 all_goals try first|exact⟨⟩|exact(bL (x.replaced.getD k (aR .int)) (by first|assumption|omega| (simp;done)| (simp;omega)))|exact(by simp only[bA,ko,jV];omega));all_goals first| (intros;omega)) (bU X [1,3,4] rfl ?_))
   refine⟨k+1,by omega,by omega,?_⟩
   rw[bZ _ k rfl (by omega),hs]
   try rfl
 ·try simp only[bG]at hb0
  refine aW (aa (av X [1,3,25] rfl ?_))
  refine an rfl ?_ ?_<;>intro cS
  ·have hd:=amM x.replaced 44 hb0 hk (aps cS)
   refine bU X [1,3] rfl (aa ?_)
   have t1:=(bL (rM x.ah x.ah.length) (by first|assumption|omega| (simp;done)| (simp;omega)))
   exact aQ X [] [(28,⟨false,[.a (.lit (.string (bP (cg x.round))))]⟩),(32,⟨false,[.a (.lit (.string (bP (cg x.cancelled))))]⟩),(39,⟨false,[aI (rM x.ah x.ah.length)]⟩),(40,⟨false,cx t1⟩),(44,⟨false,[aI (CU x.ah x.ah.length)]⟩),(45,⟨false,[.a (.lit (.string (bP (cg (CU x.ah x.ah.length)))))]⟩)] [2] [] 4194303 0 MO (by kernel_rfl) rfl (by kernel_rfl) (by(with_reducible and_intros);(iterate 9 all_goals try first|exact⟨⟩|exact(bL x.round (by first|assumption|omega| (simp;done)| (simp;omega)))|exact(bL x.cancelled (by first|assumption|omega| (simp;done)| (simp;omega)))|exact(ji x)|exact(bL (rM x.ah x.ah.length) (by first|assumption|omega| (simp;done)| (simp;omega)))|exact(jD x (by first|assumption|omega| (simp;done)| (simp;omega)))|exact(bL (CU x.ah x.ah.length) (by first|assumption|omega| (simp;done)| (simp;omega)))|exact(by simp only[bA,ko,jV];omega))) (aq (aj rfl ⟨by unfold wZ;rw[hd];rfl,⟨⟩⟩))
  ·have hd:=amL x.replaced 44 hb0 hk (apt cS)
   refine au (aa ?_)
   have t1:=(bL (rM x.ah x.ah.length) (by first|assumption|omega| (simp;done)| (simp;omega)))
   exact aQ X [] [(28,⟨false,[.a (.lit (.string (bP (cg x.round))))]⟩),(32,⟨false,[.a (.lit (.string (bP (cg x.cancelled))))]⟩),(39,⟨false,[aI (rM x.ah x.ah.length)]⟩),(40,⟨false,cx t1⟩),(44,⟨false,[aI (CU x.ah x.ah.length)]⟩),(45,⟨false,[.a (.lit (.string (bP (cg (CU x.ah x.ah.length)))))]⟩)] [2] [] 4194303 0 MO (by kernel_rfl) rfl (by kernel_rfl) (by(with_reducible and_intros);(iterate 9 all_goals try first|exact⟨⟩|exact(bL x.round (by first|assumption|omega| (simp;done)| (simp;omega)))|exact(bL x.cancelled (by first|assumption|omega| (simp;done)| (simp;omega)))|exact(ji x)|exact(bL (rM x.ah x.ah.length) (by first|assumption|omega| (simp;done)| (simp;omega)))|exact(jD x (by first|assumption|omega| (simp;done)| (simp;omega)))|exact(bL (CU x.ah x.ah.length) (by first|assumption|omega| (simp;done)| (simp;omega)))|exact(by simp only[bA,ko,jV];omega))) (aq (aj rfl ⟨by unfold wZ;rw[←hd];rfl,⟨⟩⟩))
end
end Go.Proofs.YtaalpcnbbldlaaaGreatDoor.G
namespace Go.Proofs.YtaalpcnbbldlaaaGreatDoor.G
set_option linter.all false
open Go.RowKit L D
section
def TN(n:Int):Prop:= -200000≤n∧n≤200000
theorem TN.I{n:Int}(h:TN n):rY n:=by unfold TN at h;unfold rY;omega
theorem aiC(a:Int): -9223372036854775808≤IntKind.i64.wrap a∧IntKind.i64.wrap a≤9223372036854775807:=by
 rw[IntKind.wrap_i64];omega
def L6(l:List Int):Prop:= ∀y,y∈l→rY y
theorem apu{rows rd:Int}{p:List cu×List Int}{id:Int}(h:L6 p.2):L6 (E8 rows rd p id).2:=by
 unfold E8
 split
 ·rename_i hk
  intro y hy
  rcases List.mem_append.1 hy with hy|hy
  ·exact h y hy
  ·rw[List.mem_singleton.1 hy]
   simp only[Dv,dS]at hk
   have:=aiC ((p.1.length:Int)-1)
   unfold rY;omega
 ·exact h
theorem ae4{rows rd:Int}: ∀{g:List Int} {p:List cu×List Int},L6 p.2→L6 (I9 rows rd p g).2
 | [],_,h=>h
 |_::g,_,h=>ae4 (g:=g) (apu h)
theorem ae5{x:bN}(h:L6 x.replaced):L6 (gr x).replaced:=by
 unfold gr
 split
 ·generalize oB _ _ _ _ _=g
  generalize jw _=d
  have h1:L6 (eD x g d).replaced:=by
   unfold eD
   by_cases hk:mw x=true
   ·rw[if_pos hk]
    show L6 (I9 x.rows x.round (x.aG,x.replaced) g).2
    exact ae4 h
   ·rw[if_neg hk];exact h
  generalize eD x g d=y at h1 ⊢
  have h2:L6 (testW y).replaced:=by
   unfold testW
   split
   ·show L6 (I9 y.rows y.round (y.aG,y.replaced) (NY y y.aG.length)).2
    exact ae4 h1
   ·exact h1
  generalize testW y=z at h2 ⊢
  unfold Ls
  split<;>exact h2
 ·exact h
theorem apv(x:bN)(c:Int)(b:List UInt8):(QI x c b).replaced=x.replaced:=by unfold QI;split<;>rfl
theorem apw(x:bN)(c:Int):(PR x c).replaced=x.replaced:=by unfold PR;split<;>rfl
theorem apy(x:bN)(i b:Int):(SY x i b).replaced=x.replaced:=by unfold SY;split<;>rfl
end
end Go.Proofs.YtaalpcnbbldlaaaGreatDoor.G
