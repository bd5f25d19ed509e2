/-
  Draws of what is formatted.
-/
import Derived.Test.YtkkfjbfkjbljiaaGreatDoorM13
import Derived.Test.YtkkfjbfkjbljiaaGreatDoorM15
namespace Go.Proofs.YtkkfjbfkjbljiaaGreatDoor.G
set_option linter.all false
open Go.RowKit L D Tryz
section
set_option maxRecDepth 100000
theorem ij:So 41 [] [.a (.sl .str names)]:=by
 refine aD X call41 func41 ntmps41 rfl rfl ?_
 intro zb
 exact av X [] rfl (aN X [0] rfl ⟨⟨rfl,aA _ (by decide)⟩,by decide,by decide,by decide,by decide,⟨⟩⟩ (aj (ah rfl ⟨rfl,⟨⟩⟩)))
theorem iU(x:bD)(h1:kQ x.id)(h3:kQ x.round)(h5:kQ x.behavior):So 18 [.agg (cH x)] [.a (.lit (.string (Hh x)))]:=by
 refine aD X call18 func18 ntmps18 rfl rfl ?_
 intro zb
 have z1:=b9 h1
 have z2:=b9 h3
 have z3:=KO x.behavior.toNat
 unfold kQ at h1 h3 h5
 refine av X [1] rfl (av X [1,3] rfl (aa (aS X [] [(6,⟨false,[bh (inr x.behavior 0 3)]⟩)] [1,3,6] [] rfl (by(repeat' with_reducible first|exact aB|refine aE ?_ ?_|apply And.intro)<;>first|exact(jK x.behavior 0 3)|exact fun _=>(jK x.behavior 0 3)|exact fun _ _=>(jK x.behavior 0 3)| (intros;omega)|exact rfl|exact aA _ (by decide)|exact⟨rfl,aA _ (by decide)⟩| ((intro h1;first| (intro h2;first| (intro h3;refine And.intro ?_ ?_)|refine And.intro ?_ ?_)|refine And.intro ?_ ?_)<;>first|omega| ((try simp only[aP]at*);(try simp(disch:=omega) only[aM]);omega))| ((try simp only[aP]at*);(simp(disch:=omega) only[aM]);omega)| (refine fun _=> ?_;dsimp only[hyps,bg];omega)| (refine fun _ _=> ?_;dsimp only[hyps,bg];omega)|exact(cj _).1|exact(cj _).2|exact(cG _).1|exact(cG _).2| (simp only[b7,maxLen,lens];omega)| (intros;simp only[nb]at*;omega)) ?_)))
 refine ak rfl ?_ ?_<;>intro hb0
 ·have z4:(⟨List.toArray (names.getD x.behavior.toNat (aI Tag.str))⟩:ByteArray).size≤6:=z3
  have z5:(⟨List.toArray ([[104,111,110,101,115,116],[100,114,111,112,115],[97,108,116,101,114,115],[108,105,101,115]].getD x.behavior.toNat (aI Tag.str))⟩:ByteArray).size≤6:=z3
  have hnl:names.length=4:=rfl
  have hin:0≤x.behavior∧x.behavior≤3:=by simp only[inr]at hb0;split at hb0<;>simp_all
  have Yy:E4 x.behavior=bI (names.getD x.behavior.toNat []):=by unfold E4;rw[if_pos hb0]
  refine ct X [] [(7,⟨true,[.a (.sl .str names)]⟩)] [1,3] [] 6 MO (by kernel_rfl) rfl (by(repeat' with_reducible first|exact aB|refine aE ?_ ?_|apply And.intro)<;>first|exact(ij)|exact fun _=>(ij)|exact fun _ _=>(ij)| (intros;omega)|exact rfl|exact aA _ (by decide)|exact⟨rfl,aA _ (by decide)⟩| ((intro h1;first| (intro h2;first| (intro h3;refine And.intro ?_ ?_)|refine And.intro ?_ ?_)|refine And.intro ?_ ?_)<;>first|omega| ((try simp only[aP]at*);(try simp(disch:=omega) only[aM]);omega))| ((try simp only[aP]at*);(simp(disch:=omega) only[aM]);omega)| (refine fun _=> ?_;dsimp only[hyps,bg];omega)| (refine fun _ _=> ?_;dsimp only[hyps,bg];omega)|exact(cj _).1|exact(cj _).2|exact(cG _).1|exact(cG _).2| (simp only[b7,maxLen,lens];omega)| (intros;simp only[nb]at*;omega)) ?_
  refine eI X [] [(14,⟨false,[.a (.lit (.string (bI (Lib.itoa x.id))))]⟩),(18,⟨false,[.a (.lit (.string (bI (Lib.itoa x.round))))]⟩)] [2] [] 12 MO (by kernel_rfl) rfl (by(repeat' with_reducible first|exact aB|refine aE ?_ ?_|apply And.intro);(iterate 3 all_goals try first|exact(aC x.id (by first|assumption|omega| (simp;done)| (simp;omega)))|exact fun _=>(aC x.id (by first|assumption|omega| (simp;done)| (simp;omega)))|exact fun _ _=>(aC x.id (by first|assumption|omega| (simp;done)| (simp;omega)))|exact(aC x.round (by first|assumption|omega| (simp;done)| (simp;omega)))|exact fun _=>(aC x.round (by first|assumption|omega| (simp;done)| (simp;omega)))|exact fun _ _=>(aC x.round (by first|assumption|omega| (simp;done)| (simp;omega)))|exact(by simp only[ByteArray.size_append,bJ,cM];omega)|exact fun _=>(by simp only[ByteArray.size_append,bJ,cM];omega)|exact fun _ _=>(by simp only[ByteArray.size_append,bJ,cM];omega));all_goals first| (intros;omega)|exact rfl|exact aA _ (by decide)|exact⟨rfl,aA _ (by decide)⟩| ((intro h1;first| (intro h2;first| (intro h3;refine And.intro ?_ ?_)|refine And.intro ?_ ?_)|refine And.intro ?_ ?_)<;>first|omega| ((try simp only[aP]at*);(try simp(disch:=omega) only[aM]);omega))| ((try simp only[aP]at*);(simp(disch:=omega) only[aM]);omega)| (refine fun _=> ?_;dsimp only[hyps,bg];omega)| (refine fun _ _=> ?_;dsimp only[hyps,bg];omega)|exact(cj _).1|exact(cj _).2|exact(cG _).1|exact(cG _).2| (simp only[b7,maxLen,lens];omega)| (intros;simp only[nb]at*;omega)) ?_
  exact aj (ah rfl ⟨by unfold Hh;rw[Yy];rfl,⟨⟩⟩)
 ·have Yy:E4 x.behavior=bI [63]:=by unfold E4;rw[if_neg (by rw[hb0];decide)]
  refine ay (eI X [] [(14,⟨false,[.a (.lit (.string (bI (Lib.itoa x.id))))]⟩),(18,⟨false,[.a (.lit (.string (bI (Lib.itoa x.round))))]⟩)] [2] [] 12 MO (by kernel_rfl) rfl (by(repeat' with_reducible first|exact aB|refine aE ?_ ?_|apply And.intro);(iterate 3 all_goals try first|exact(aC x.id (by first|assumption|omega| (simp;done)| (simp;omega)))|exact fun _=>(aC x.id (by first|assumption|omega| (simp;done)| (simp;omega)))|exact fun _ _=>(aC x.id (by first|assumption|omega| (simp;done)| (simp;omega)))|exact(aC x.round (by first|assumption|omega| (simp;done)| (simp;omega)))|exact fun _=>(aC x.round (by first|assumption|omega| (simp;done)| (simp;omega)))|exact fun _ _=>(aC x.round (by first|assumption|omega| (simp;done)| (simp;omega)))|exact(by simp only[ByteArray.size_append,bJ,cM];omega)|exact fun _=>(by simp only[ByteArray.size_append,bJ,cM];omega)|exact fun _ _=>(by simp only[ByteArray.size_append,bJ,cM];omega));all_goals first| (intros;omega)|exact rfl|exact aA _ (by decide)|exact⟨rfl,aA _ (by decide)⟩| ((intro h1;first| (intro h2;first| (intro h3;refine And.intro ?_ ?_)|refine And.intro ?_ ?_)|refine And.intro ?_ ?_)<;>first|omega| ((try simp only[aP]at*);(try simp(disch:=omega) only[aM]);omega))| ((try simp only[aP]at*);(simp(disch:=omega) only[aM]);omega)| (refine fun _=> ?_;dsimp only[hyps,bg];omega)| (refine fun _ _=> ?_;dsimp only[hyps,bg];omega)|exact(cj _).1|exact(cj _).2|exact(cG _).1|exact(cG _).2| (simp only[b7,maxLen,lens];omega)| (intros;simp only[nb]at*;omega)) ?_)
  exact aj (ah rfl ⟨by unfold Hh;rw[Yy];rfl,⟨⟩⟩)
theorem iV(x:bD)(h1:kQ x.id)(h3:kQ x.round)(h5:kQ x.behavior):So 19 [.agg (cH x)] [.a (.lit (.string (Hh x)))]:=by
 refine aD X call19 func19 ntmps19 rfl rfl ?_
 intro zb
 have z1:=b9 h1
 have z2:=b9 h3
 have z3:=KO x.behavior.toNat
 unfold kQ at h1 h3 h5
 refine av X [1] rfl (av X [1,3] rfl (aa (aS X [] [(6,⟨false,[bh (inr x.behavior 0 3)]⟩)] [1,3,6] [] rfl (by(repeat' with_reducible first|exact aB|refine aE ?_ ?_|apply And.intro)<;>first|exact(aU x.behavior 0 3)|exact fun _=>(aU x.behavior 0 3)|exact fun _ _=>(aU x.behavior 0 3)| (intros;omega)|exact rfl|exact aA _ (by decide)|exact⟨rfl,aA _ (by decide)⟩| ((intro h1;first| (intro h2;first| (intro h3;refine And.intro ?_ ?_)|refine And.intro ?_ ?_)|refine And.intro ?_ ?_)<;>first|omega| ((try simp only[aP]at*);(try simp(disch:=omega) only[aM]);omega))| ((try simp only[aP]at*);(simp(disch:=omega) only[aM]);omega)| (refine fun _=> ?_;dsimp only[hyps,bg];omega)| (refine fun _ _=> ?_;dsimp only[hyps,bg];omega)|exact(cj _).1|exact(cj _).2|exact(cG _).1|exact(cG _).2| (simp only[b7,maxLen,lens];omega)| (intros;simp only[nb]at*;omega)) ?_)))
 refine ak rfl ?_ ?_<;>intro hb0
 ·have z4:(⟨List.toArray (names.getD x.behavior.toNat (aI Tag.str))⟩:ByteArray).size≤6:=z3
  have z5:(⟨List.toArray ([[104,111,110,101,115,116],[100,114,111,112,115],[97,108,116,101,114,115],[108,105,101,115]].getD x.behavior.toNat (aI Tag.str))⟩:ByteArray).size≤6:=z3
  have hnl:names.length=4:=rfl
  have hin:0≤x.behavior∧x.behavior≤3:=by simp only[inr]at hb0;split at hb0<;>simp_all
  have Yy:E4 x.behavior=bI (names.getD x.behavior.toNat []):=by unfold E4;rw[if_pos hb0]
  refine fK X [1,3] rfl ⟨by show x.behavior.toNat<4;omega,⟨hin.1,by show x.behavior<((4:Nat):Int);omega⟩,⟨rfl,aA _ (by decide)⟩,by decide,by decide,by decide,by decide,⟨⟩⟩ (eI X [] [(14,⟨false,[.a (.lit (.string (bI (Lib.itoa x.id))))]⟩),(18,⟨false,[.a (.lit (.string (bI (Lib.itoa x.round))))]⟩)] [2] [] 12 MO (by kernel_rfl) rfl (by(repeat' with_reducible first|exact aB|refine aE ?_ ?_|apply And.intro);(iterate 3 all_goals try first|exact(au x.id (by first|assumption|omega| (simp;done)| (simp;omega)))|exact fun _=>(au x.id (by first|assumption|omega| (simp;done)| (simp;omega)))|exact fun _ _=>(au x.id (by first|assumption|omega| (simp;done)| (simp;omega)))|exact(au x.round (by first|assumption|omega| (simp;done)| (simp;omega)))|exact fun _=>(au x.round (by first|assumption|omega| (simp;done)| (simp;omega)))|exact fun _ _=>(au x.round (by first|assumption|omega| (simp;done)| (simp;omega)))|exact(by simp only[ByteArray.size_append,bJ,cM];omega)|exact fun _=>(by simp only[ByteArray.size_append,bJ,cM];omega)|exact fun _ _=>(by simp only[ByteArray.size_append,bJ,cM];omega));all_goals first| (intros;omega)|exact rfl|exact aA _ (by decide)|exact⟨rfl,aA _ (by decide)⟩| ((intro h1;first| (intro h2;first| (intro h3;refine And.intro ?_ ?_)|refine And.intro ?_ ?_)|refine And.intro ?_ ?_)<;>first|omega| ((try simp only[aP]at*);(try simp(disch:=omega) only[aM]);omega))| ((try simp only[aP]at*);(simp(disch:=omega) only[aM]);omega)| (refine fun _=> ?_;dsimp only[hyps,bg];omega)| (refine fun _ _=> ?_;dsimp only[hyps,bg];omega)|exact(cj _).1|exact(cj _).2|exact(cG _).1|exact(cG _).2| (simp only[b7,maxLen,lens];omega)| (intros;simp only[nb]at*;omega)) ?_)
  exact aj (ah rfl ⟨by unfold Hh;rw[Yy];rfl,⟨⟩⟩)
 ·have Yy:E4 x.behavior=bI [63]:=by unfold E4;rw[if_neg (by rw[hb0];decide)]
  refine ay (eI X [] [(14,⟨false,[.a (.lit (.string (bI (Lib.itoa x.id))))]⟩),(18,⟨false,[.a (.lit (.string (bI (Lib.itoa x.round))))]⟩)] [2] [] 12 MO (by kernel_rfl) rfl (by(repeat' with_reducible first|exact aB|refine aE ?_ ?_|apply And.intro);(iterate 3 all_goals try first|exact(au x.id (by first|assumption|omega| (simp;done)| (simp;omega)))|exact fun _=>(au x.id (by first|assumption|omega| (simp;done)| (simp;omega)))|exact fun _ _=>(au x.id (by first|assumption|omega| (simp;done)| (simp;omega)))|exact(au x.round (by first|assumption|omega| (simp;done)| (simp;omega)))|exact fun _=>(au x.round (by first|assumption|omega| (simp;done)| (simp;omega)))|exact fun _ _=>(au x.round (by first|assumption|omega| (simp;done)| (simp;omega)))|exact(by simp only[ByteArray.size_append,bJ,cM];omega)|exact fun _=>(by simp only[ByteArray.size_append,bJ,cM];omega)|exact fun _ _=>(by simp only[ByteArray.size_append,bJ,cM];omega));all_goals first| (intros;omega)|exact rfl|exact aA _ (by decide)|exact⟨rfl,aA _ (by decide)⟩| ((intro h1;first| (intro h2;first| (intro h3;refine And.intro ?_ ?_)|refine And.intro ?_ ?_)|refine And.intro ?_ ?_)<;>first|omega| ((try simp only[aP]at*);(try simp(disch:=omega) only[aM]);omega))| ((try simp only[aP]at*);(simp(disch:=omega) only[aM]);omega)| (refine fun _=> ?_;dsimp only[hyps,bg];omega)| (refine fun _ _=> ?_;dsimp only[hyps,bg];omega)|exact(cj _).1|exact(cj _).2|exact(cG _).1|exact(cG _).2| (simp only[b7,maxLen,lens];omega)| (intros;simp only[nb]at*;omega)) ?_)
  exact aj (ah rfl ⟨by unfold Hh;rw[Yy];rfl,⟨⟩⟩)
theorem dY(l:List (List UInt8))(c:UInt8)(h:eu List.length l≤1099511627776):So 35 [.a (.sl .str l), .a (.lit (.string (bI [c])))] [.a (.lit (.string (uB l c)))]:=by
 refine aD X call35 func35 ntmps35 rfl rfl ?_
 intro zb
 refine eO 0 rfl (fun nC=>(av X [0,1] rfl (aa (av X [0,1,7] rfl ?_))))
 refine ak rfl ?_ ?_<;>intro hb0
 ·try simp only[aP]at hb0
  exact av X [4] rfl (aj (ah rfl ⟨by unfold uB;rw[if_pos (by omega)];rfl,⟨⟩⟩))
 ·try simp only[aP]at hb0
  refine ay (aS X [] [(10,⟨false,[.a (.lit (.string (bI (Lib.join l [c]))))]⟩)] [4] [] rfl (by(repeat' with_reducible first|exact aB|refine aE ?_ ?_|apply And.intro)<;>first|exact(mz l c h)|exact fun _=>(mz l c h)|exact fun _ _=>(mz l c h)| (intros;omega)|exact rfl|exact aA _ (by decide)|exact⟨rfl,aA _ (by decide)⟩| ((intro h1;first| (intro h2;first| (intro h3;refine And.intro ?_ ?_)|refine And.intro ?_ ?_)|refine And.intro ?_ ?_)<;>first|omega| ((try simp only[aP]at*);(try simp(disch:=omega) only[aM]);omega))| ((try simp only[aP]at*);(simp(disch:=omega) only[aM]);omega)| (refine fun _=> ?_;dsimp only[hyps,bg];omega)| (refine fun _ _=> ?_;dsimp only[hyps,bg];omega)|exact(cj _).1|exact(cj _).2|exact(cG _).1|exact(cG _).2| (simp only[b7,maxLen,lens];omega)| (intros;simp only[nb]at*;omega)) ?_)
  exact aj (ah rfl ⟨by unfold uB;rw[if_neg (by omega)],⟨⟩⟩)
theorem gC(l:List iy)(hw: ∀y,y∈l→DG y)(hl:l.length≤1048576):So 12 [.a (.sl .iy l)] [.a (.lit (.string (uB (l.map ig) 32)))]:=by
 refine aD X call12 func12 ntmps12 rfl rfl ?_
 intro zb
 refine eO 0 rfl (fun nC=> ?_)
 have hlz:=pJ ig 65 l (fun y hy=>by obtain⟨q1,q2,q3⟩:=hw y hy;have z1:=b9 q1;have z2:=b9 q2;have z3:=b9 q3;show(MD y).size≤65;unfold MD;simp only[ByteArray.size_append,dA,List.length_cons,List.length_nil]at*;omega)
 refine av X [0] rfl (aN X [0,3] rfl (by and_intros<;>first|exact⟨⟩| (intros;omega)|exact rfl|exact aA _ (by decide)|exact⟨rfl,aA _ (by decide)⟩| ((intro h1;first| (intro h2;first| (intro h3;refine And.intro ?_ ?_)|refine And.intro ?_ ?_)|refine And.intro ?_ ?_)<;>first|omega| ((try simp only[aP]at*);(try simp(disch:=omega) only[aM]);omega))| ((try simp only[aP]at*);(simp(disch:=omega) only[aM]);omega)| (refine fun _=> ?_;dsimp only[hyps,bg];omega)| (refine fun _ _=> ?_;dsimp only[hyps,bg];omega)|exact(cj _).1|exact(cj _).2|exact(cG _).1|exact(cG _).2| (simp only[b7,maxLen,lens];omega)| (intros;simp only[nb]at*;omega)) ?_)
 refine aa (av X [3,7,8,9] rfl ?_)
 refine aq (aQ (fun k=>k≤l.length) (fun k:Nat=> [(9, .one ((aL k)))]) (fun k=> [(6, .arr .str ((l.map ig).take k))]) (fun k=>l.length-k) 0 (fun k=>rfl) (Nat.zero_le _) rfl ?_)
 intro k hk
 have htl:((l.map ig).take k).length≤1048576:=by rw[List.length_take,List.length_map];omega
 refine av X [3,7,8,9,10] rfl ?_
 refine aa (ak rfl ?_ ?_)<;>intro hb0
 ·try simp only[aP]at hb0
  obtain⟨q1,q2,q3⟩:=at_mem hw hb0 (aI .iy)
  have z1:=b9 q1
  have z2:=b9 q2
  have z3:=b9 q3
  unfold kQ at q1 q2 q3
  have Rp:(l.map ig).getD k []=ig (l.getD k (aI .iy)):=xW ig hb0 _ _
  have U3:(l.map ig).length=l.length:=List.length_map ..
  have hs:(l.map ig).take (k+1)=(l.map ig).take k++ [ig (l.getD k (aI .iy))]:=by rw[bE _ k [] (by omega),Rp]
  refine ay (aa (aq (aN X [3,5,7,8,9] rfl (by and_intros<;>first|exact⟨⟩| (intros;omega)|exact rfl|exact aA _ (by decide)|exact⟨rfl,aA _ (by decide)⟩| ((intro h1;first| (intro h2;first| (intro h3;refine And.intro ?_ ?_)|refine And.intro ?_ ?_)|refine And.intro ?_ ?_)<;>first|omega| ((try simp only[aP]at*);(try simp(disch:=omega) only[aM]);omega))| ((try simp only[aP]at*);(simp(disch:=omega) only[aM]);omega)| (refine fun _=> ?_;dsimp only[hyps,bg];omega)| (refine fun _ _=> ?_;dsimp only[hyps,bg];omega)|exact(cj _).1|exact(cj _).2|exact(cG _).1|exact(cG _).2| (simp only[b7,maxLen,lens];omega)| (intros;simp only[nb]at*;omega)) ?_)))
  refine ct X [(28,6)] [(16,⟨false,[.a (.lit (.string (bI (Lib.itoa ((l.getD k (aI .iy)).fr)))))]⟩),(20,⟨false,[.a (.lit (.string (bI (Lib.itoa ((l.getD k (aI .iy)).to)))))]⟩),(25,⟨false,[.a (.lit (.string (bI (Lib.itoa ((l.getD k (aI .iy)).bytes)))))]⟩)] [3,7,8,9] [] 15 MO (by kernel_rfl) rfl (by(repeat' with_reducible first|exact aB|refine aE ?_ ?_|apply And.intro);(iterate 6 all_goals try first|exact(aC ((l.getD k (aI .iy)).fr) (by first|assumption|omega| (simp;done)| (simp;omega)))|exact fun _=>(aC ((l.getD k (aI .iy)).fr) (by first|assumption|omega| (simp;done)| (simp;omega)))|exact fun _ _=>(aC ((l.getD k (aI .iy)).fr) (by first|assumption|omega| (simp;done)| (simp;omega)))|exact(aC ((l.getD k (aI .iy)).to) (by first|assumption|omega| (simp;done)| (simp;omega)))|exact fun _=>(aC ((l.getD k (aI .iy)).to) (by first|assumption|omega| (simp;done)| (simp;omega)))|exact fun _ _=>(aC ((l.getD k (aI .iy)).to) (by first|assumption|omega| (simp;done)| (simp;omega)))|exact(aC ((l.getD k (aI .iy)).bytes) (by first|assumption|omega| (simp;done)| (simp;omega)))|exact fun _=>(aC ((l.getD k (aI .iy)).bytes) (by first|assumption|omega| (simp;done)| (simp;omega)))|exact fun _ _=>(aC ((l.getD k (aI .iy)).bytes) (by first|assumption|omega| (simp;done)| (simp;omega)))|exact(by simp only[ByteArray.size_append,bJ,cM];omega)|exact fun _=>(by simp only[ByteArray.size_append,bJ,cM];omega)|exact fun _ _=>(by simp only[ByteArray.size_append,bJ,cM];omega)|exact(by simp only[ByteArray.size_append,bJ,maxLen];omega)|exact fun _=>(by simp only[ByteArray.size_append,bJ,maxLen];omega)|exact fun _ _=>(by simp only[ByteArray.size_append,bJ,maxLen];omega)|exact(by simp only[b7,maxLen,List.length_singleton];omega)|exact fun _=>(by simp only[b7,maxLen,List.length_singleton];omega)|exact fun _ _=>(by simp only[b7,maxLen,List.length_singleton];omega));all_goals first| (intros;omega)|exact rfl|exact aA _ (by decide)|exact⟨rfl,aA _ (by decide)⟩| ((intro h1;first| (intro h2;first| (intro h3;refine And.intro ?_ ?_)|refine And.intro ?_ ?_)|refine And.intro ?_ ?_)<;>first|omega| ((try simp only[aP]at*);(try simp(disch:=omega) only[aM]);omega))| ((try simp only[aP]at*);(simp(disch:=omega) only[aM]);omega)| (refine fun _=> ?_;dsimp only[hyps,bg];omega)| (refine fun _ _=> ?_;dsimp only[hyps,bg];omega)|exact(cj _).1|exact(cj _).2|exact(cG _).1|exact(cG _).2| (simp only[b7,maxLen,lens];omega)| (intros;simp only[nb]at*;omega)) ?_
  refine bT X [3,7,8,9] rfl ?_
  refine⟨k+1,by omega,by omega,?_⟩
  rw[cw _ k rfl (by omega),hs]
  try rfl
 ·try simp only[aP]at hb0
  have ht:(l.map ig).take k=l.map ig:=List.take_of_length_le (by rw[List.length_map];omega)
  refine aV (aS X [] [(31,⟨false,[.a (.lit (.string (uB ((l.map ig).take k) 32)))]⟩)] [2] [] rfl (by(repeat' with_reducible first|exact aB|refine aE ?_ ?_|apply And.intro)<;>first|exact(dY _ 32 (by rw[ht];omega))|exact fun _=>(dY _ 32 (by rw[ht];omega))|exact fun _ _=>(dY _ 32 (by rw[ht];omega))| (intros;omega)|exact rfl|exact aA _ (by decide)|exact⟨rfl,aA _ (by decide)⟩| ((intro h1;first| (intro h2;first| (intro h3;refine And.intro ?_ ?_)|refine And.intro ?_ ?_)|refine And.intro ?_ ?_)<;>first|omega| ((try simp only[aP]at*);(try simp(disch:=omega) only[aM]);omega))| ((try simp only[aP]at*);(simp(disch:=omega) only[aM]);omega)| (refine fun _=> ?_;dsimp only[hyps,bg];omega)| (refine fun _ _=> ?_;dsimp only[hyps,bg];omega)|exact(cj _).1|exact(cj _).2|exact(cG _).1|exact(cG _).2| (simp only[b7,maxLen,lens];omega)| (intros;simp only[nb]at*;omega)) ?_)
  exact aj (ah rfl ⟨by rw[ht],⟨⟩⟩)
theorem eA(l:List UInt8)(f:FuncId)(p:UInt8→Bool)(hf: ∀b,So f [.a (.lit (.int .u8 (b.toNat:Int)))] [bh (p b)]):So 105 [.a (.sl .u8 l), .a (.lit (.func (.func f) #[] #[]))] [aL (fidx p l)]:=by
 refine aD X call105 func105 ntmps105 rfl rfl ?_
 intro zb
 refine eO 0 rfl (fun nC=>(av X [0,1] rfl (aa (av X [0,1,7,8] rfl ?_))))
 refine aq (aQ (fun k=>k≤l.length∧(l.take k).any p=false) (fun k:Nat=> [(8, .one ((aL k)))]) (fun k=> []) (fun k=>l.length-k) 0 (fun k=>rfl) ⟨Nat.zero_le _,rfl⟩ rfl ?_)
 rintro k ⟨hk,hall⟩
 refine av X [0,1,7,8,9] rfl ?_
 refine aa (ak rfl ?_ ?_)<;>intro hb0
 ·try simp only[aP]at hb0
  refine ay (aa (aq (av X [0,1,5,7,8] rfl (aS X [] [(16,⟨false,[bh (p (l.getD k (aI .u8)))]⟩)] [0,1,5,7,8,16] [] rfl (by(repeat' with_reducible first|exact aB|refine aE ?_ ?_|apply And.intro)<;>first|exact(hf _)|exact fun _=>(hf _)|exact fun _ _=>(hf _)| (intros;omega)|exact rfl|exact aA _ (by decide)|exact⟨rfl,aA _ (by decide)⟩| ((intro h1;first| (intro h2;first| (intro h3;refine And.intro ?_ ?_)|refine And.intro ?_ ?_)|refine And.intro ?_ ?_)<;>first|omega| ((try simp only[aP]at*);(try simp(disch:=omega) only[aM]);omega))| ((try simp only[aP]at*);(simp(disch:=omega) only[aM]);omega)| (refine fun _=> ?_;dsimp only[hyps,bg];omega)| (refine fun _ _=> ?_;dsimp only[hyps,bg];omega)|exact(cj _).1|exact(cj _).2|exact(cG _).1|exact(cG _).2| (simp only[b7,maxLen,lens];omega)| (intros;simp only[nb]at*;omega)) ?_))))
  refine ak rfl ?_ ?_<;>intro bt
  ·exact av X [4] rfl (aj (ah rfl ⟨by rw[A6 (aI .u8) hb0 hall bt],⟨⟩⟩))
  ·refine ay (bT X [0,1,7,8] rfl ?_)
   refine⟨k+1,⟨by omega,A7 (aI .u8) hb0 hall bt⟩,by omega,?_⟩
   rw[cw _ k rfl (by omega)]
   try rfl
 ·try simp only[aP]at hb0
  exact aV (av X [4] rfl (aj (ah rfl ⟨by rw[LO (by rw[←hall,List.take_of_length_le hb0])],⟨⟩⟩)))
theorem dQ(l:List UInt8)(f:FuncId)(p:UInt8→Bool)(hf: ∀b,So f [.a (.lit (.int .u8 (b.toNat:Int)))] [bh (p b)]):So 83 [.a (.sl .u8 l), .a (.lit (.func (.func f) #[] #[]))] [bh (l.any p)]:=by
 refine aD X call83 func83 ntmps83 rfl rfl ?_
 intro zb
 refine av X [0,1] rfl (aS X [] [(7,⟨false,[aL (fidx p l)]⟩)] [4] [] rfl (by(repeat' with_reducible first|exact aB|refine aE ?_ ?_|apply And.intro)<;>first|exact(eA l f p hf)|exact fun _=>(eA l f p hf)|exact fun _ _=>(eA l f p hf)| (intros;omega)|exact rfl|exact aA _ (by decide)|exact⟨rfl,aA _ (by decide)⟩| ((intro h1;first| (intro h2;first| (intro h3;refine And.intro ?_ ?_)|refine And.intro ?_ ?_)|refine And.intro ?_ ?_)<;>first|omega| ((try simp only[aP]at*);(try simp(disch:=omega) only[aM]);omega))| ((try simp only[aP]at*);(simp(disch:=omega) only[aM]);omega)| (refine fun _=> ?_;dsimp only[hyps,bg];omega)| (refine fun _ _=> ?_;dsimp only[hyps,bg];omega)|exact(cj _).1|exact(cj _).2|exact(cG _).1|exact(cG _).2| (simp only[b7,maxLen,lens];omega)| (intros;simp only[nb]at*;omega)) ?_)
 exact aj (ah rfl ⟨congrArg Value.bool (Ty p l),⟨⟩⟩)
theorem iq(c:UInt8):So 84 [.a (.lit (.int .u8 (c.toNat:Int)))] [bh ((c.toNat:Int) !=0)]:=by
 refine aD X call84 func84 ntmps84 rfl rfl ?_
 intro zb
 exact av X [0] rfl (av X [2] rfl (aj (ah rfl ⟨rfl,⟨⟩⟩)))
theorem jt(b:List UInt8):So 61 [.a (.sl .u8 b)] [bh (!bz b)]:=by
 refine aD X call61 func61 ntmps61 rfl rfl ?_
 intro zb
 refine av X [0] rfl (aS X [] [(4,⟨false,[bh (b.any fun c=>(c.toNat:Int) !=0)]⟩)] [2] [] rfl (by(repeat' with_reducible first|exact aB|refine aE ?_ ?_|apply And.intro)<;>first|exact(dQ _ _ _ iq)|exact fun _=>(dQ _ _ _ iq)|exact fun _ _=>(dQ _ _ _ iq)| (intros;omega)|exact rfl|exact aA _ (by decide)|exact⟨rfl,aA _ (by decide)⟩| ((intro h1;first| (intro h2;first| (intro h3;refine And.intro ?_ ?_)|refine And.intro ?_ ?_)|refine And.intro ?_ ?_)<;>first|omega| ((try simp only[aP]at*);(try simp(disch:=omega) only[aM]);omega))| ((try simp only[aP]at*);(simp(disch:=omega) only[aM]);omega)| (refine fun _=> ?_;dsimp only[hyps,bg];omega)| (refine fun _ _=> ?_;dsimp only[hyps,bg];omega)|exact(cj _).1|exact(cj _).2|exact(cG _).1|exact(cG _).2| (simp only[b7,maxLen,lens];omega)| (intros;simp only[nb]at*;omega)) ?_)
 exact aj (ah rfl ⟨rfl,⟨⟩⟩)
theorem ju(b:List UInt8):So 62 [.a (.sl .u8 b)] [bh (!bz b)]:=by
 refine aD X call62 func62 ntmps62 rfl rfl ?_
 intro zb
 refine eO 0 rfl (fun nC=>(av X [0] rfl (aa (av X [0,3] rfl ?_))))
 refine aq (aQ (fun k=>k≤b.length∧(b.take k).any (fun c=>(c.toNat:Int) !=0)=false) (fun k:Nat=> [(3, .one ((aL k)))]) (fun k=> []) (fun k=>b.length-k) 0 (fun k=>rfl) ⟨Nat.zero_le _,rfl⟩ rfl ?_)
 rintro k ⟨hk,hall⟩
 refine aa (av X [0,3,7] rfl ?_)
 refine ak rfl ?_ ?_<;>intro hb0
 ·try simp only[aP]at hb0
  refine ay (aa (aq (aN X [0,3,14] rfl (by and_intros<;>first|exact⟨⟩| (intros;omega)|exact rfl|exact aA _ (by decide)|exact⟨rfl,aA _ (by decide)⟩| ((intro h1;first| (intro h2;first| (intro h3;refine And.intro ?_ ?_)|refine And.intro ?_ ?_)|refine And.intro ?_ ?_)<;>first|omega| ((try simp only[aP]at*);(try simp(disch:=omega) only[aM]);omega))| ((try simp only[aP]at*);(simp(disch:=omega) only[aM]);omega)| (refine fun _=> ?_;dsimp only[hyps,bg];omega)| (refine fun _ _=> ?_;dsimp only[hyps,bg];omega)|exact(cj _).1|exact(cj _).2|exact(cG _).1|exact(cG _).2| (simp only[b7,maxLen,lens];omega)| (intros;simp only[nb]at*;omega)) ?_)))
  refine ak rfl ?_ ?_<;>intro bt
  ·exact av X [2] rfl (aj (ah rfl ⟨by unfold bz;rw[vv b _ (aI .u8) k hb0 bt];rfl,⟨⟩⟩))
  ·refine ay (bT X [0,3] rfl ?_)
   refine⟨k+1,⟨by omega,A7 (aI .u8) hb0 hall bt⟩,by omega,?_⟩
   rw[cw _ k rfl (by omega)]
   try rfl
 ·try simp only[aP]at hb0
  exact aV (av X [2] rfl (aj (ah rfl ⟨by rw[List.take_of_length_le hb0]at hall;unfold bz;rw[hall];rfl,⟨⟩⟩)))
theorem ez(d:DB):So 37 [.agg (bQ d)] [aL ((gK d.rows:Nat):Int)]:=by
 refine aD X call37 func37 ntmps37 rfl rfl ?_
 intro zb
 refine bV 0 0 rfl rfl (fun nC=>(av X [1] rfl (av X [1,3] rfl (aa (av X [3,7,8,9] rfl ?_)))))
 refine aq (aQ (fun k=>k≤d.rows.length) (fun k:Nat=> [(3, .one ((aL ((gK (d.rows.take k):Nat):Int)))),(9, .one ((aL k)))]) (fun k=> []) (fun k=>d.rows.length-k) 0 (fun k=>rfl) (Nat.zero_le _) rfl ?_)
 intro k hk
 have pX:=sK (d.rows.take k)
 have htl:(d.rows.take k).length≤k:=List.length_take_le _ _
 refine av X [3,7,8,9,10] rfl ?_
 refine aa (ak rfl ?_ ?_)<;>intro hb0
 ·try simp only[aP]at hb0
  refine ay (aa (aq (aN X [3,5,7,8,9] rfl (by and_intros<;>first|exact⟨⟩| (intros;omega)|exact rfl|exact aA _ (by decide)|exact⟨rfl,aA _ (by decide)⟩| ((intro h1;first| (intro h2;first| (intro h3;refine And.intro ?_ ?_)|refine And.intro ?_ ?_)|refine And.intro ?_ ?_)<;>first|omega| ((try simp only[aP]at*);(try simp(disch:=omega) only[aM]);omega))| ((try simp only[aP]at*);(simp(disch:=omega) only[aM]);omega)| (refine fun _=> ?_;dsimp only[hyps,bg];omega)| (refine fun _ _=> ?_;dsimp only[hyps,bg];omega)|exact(cj _).1|exact(cj _).2|exact(cG _).1|exact(cG _).2| (simp only[b7,maxLen,lens];omega)| (intros;simp only[nb]at*;omega)) ?_)))
  refine aS X [] [(14,⟨false,[bh (!bz (d.rows.getD k (aI (.sl .u8))))]⟩)] [3,7,8,9,15] [] rfl (by(repeat' with_reducible first|exact aB|refine aE ?_ ?_|apply And.intro)<;>first|exact(jt (d.rows.getD k (aI (.sl .u8))))|exact fun _=>(jt (d.rows.getD k (aI (.sl .u8))))|exact fun _ _=>(jt (d.rows.getD k (aI (.sl .u8))))| (intros;omega)|exact rfl|exact aA _ (by decide)|exact⟨rfl,aA _ (by decide)⟩| ((intro h1;first| (intro h2;first| (intro h3;refine And.intro ?_ ?_)|refine And.intro ?_ ?_)|refine And.intro ?_ ?_)<;>first|omega| ((try simp only[aP]at*);(try simp(disch:=omega) only[aM]);omega))| ((try simp only[aP]at*);(simp(disch:=omega) only[aM]);omega)| (refine fun _=> ?_;dsimp only[hyps,bg];omega)| (refine fun _ _=> ?_;dsimp only[hyps,bg];omega)|exact(cj _).1|exact(cj _).2|exact(cG _).1|exact(cG _).2| (simp only[b7,maxLen,lens];omega)| (intros;simp only[nb]at*;omega)) ?_
  refine ak rfl ?_ ?_<;>intro bt
  ·have hs:=Hj d.rows k (aI (.sl .u8)) hb0 (by simpa using bt)
   refine bT X [3,7,8,9] rfl (bT X [3,7,8,9] rfl ?_)
   refine⟨k+1,by omega,by omega,?_⟩
   rw[cw _ k rfl (by omega),cw _ (gK (d.rows.take k)) rfl (by omega),hs]
   try rfl
  ·have hs:=Dz d.rows k (aI (.sl .u8)) hb0 (by simpa using bt)
   refine ay (bT X [3,7,8,9] rfl ?_)
   refine⟨k+1,by omega,by omega,?_⟩
   rw[cw _ k rfl (by omega),hs]
   try rfl
 ·try simp only[aP]at hb0
  exact aV (av X [2] rfl (aj (ah rfl ⟨by rw[List.take_of_length_le hb0],⟨⟩⟩)))
theorem cC(d:DB):So 39 [.agg (bQ d)] [aL ((gK d.rows:Nat):Int)]:=by
 refine aD X call39 func39 ntmps39 rfl rfl ?_
 intro zb
 refine bV 0 0 rfl rfl (fun nC=>(av X [1] rfl (av X [1,3] rfl (aa (av X [1,3,4] rfl ?_)))))
 refine aq (aQ (fun k=>k≤d.rows.length) (fun k:Nat=> [(3, .one ((aL ((gK (d.rows.take k):Nat):Int)))),(4, .one ((aL k)))]) (fun k=> []) (fun k=>d.rows.length-k) 0 (fun k=>rfl) (Nat.zero_le _) rfl ?_)
 intro k hk
 have pX:=sK (d.rows.take k)
 have htl:(d.rows.take k).length≤k:=List.length_take_le _ _
 refine aa (av X [1,3,4,9] rfl ?_)
 refine ak rfl ?_ ?_<;>intro hb0
 ·try simp only[aP]at hb0
  refine ay (aa (aq (aS X [] [(17,⟨false,[bh (!bz (d.rows.getD k (aI (.sl .u8))))]⟩)] [1,3,4,18] [] rfl (by(repeat' with_reducible first|exact aB|refine aE ?_ ?_|apply And.intro)<;>first|exact(ju (d.rows.getD k (aI (.sl .u8))))|exact fun _=>(ju (d.rows.getD k (aI (.sl .u8))))|exact fun _ _=>(ju (d.rows.getD k (aI (.sl .u8))))| (intros;omega)|exact rfl|exact aA _ (by decide)|exact⟨rfl,aA _ (by decide)⟩| ((intro h1;first| (intro h2;first| (intro h3;refine And.intro ?_ ?_)|refine And.intro ?_ ?_)|refine And.intro ?_ ?_)<;>first|omega| ((try simp only[aP]at*);(try simp(disch:=omega) only[aM]);omega))| ((try simp only[aP]at*);(simp(disch:=omega) only[aM]);omega)| (refine fun _=> ?_;dsimp only[hyps,bg];omega)| (refine fun _ _=> ?_;dsimp only[hyps,bg];omega)|exact(cj _).1|exact(cj _).2|exact(cG _).1|exact(cG _).2| (simp only[b7,maxLen,lens];omega)| (intros;simp only[nb]at*;omega)) ?_)))
  refine ak rfl ?_ ?_<;>intro bt
  ·have hs:=Hj d.rows k (aI (.sl .u8)) hb0 (by simpa using bt)
   refine bT X [1,3,4] rfl (bT X [1,3,4] rfl ?_)
   refine⟨k+1,by omega,by omega,?_⟩
   rw[cw _ k rfl (by omega),cw _ (gK (d.rows.take k)) rfl (by omega),hs]
   try rfl
  ·have hs:=Dz d.rows k (aI (.sl .u8)) hb0 (by simpa using bt)
   refine ay (bT X [1,3,4] rfl ?_)
   refine⟨k+1,by omega,by omega,?_⟩
   rw[cw _ k rfl (by omega),hs]
   try rfl
 ·try simp only[aP]at hb0
  exact aV (av X [2] rfl (aj (ah rfl ⟨by rw[List.take_of_length_le hb0],⟨⟩⟩)))
theorem ir(a:iK)(hw:HB a)(hz: ∀y,y∈a.rounds→y.db.rows.length≤1048576)(hl:a.rounds.length≤1048576):So 16 [.agg (dz a)] [.a (.lit (.string (ME a)))]:=by
 refine aD X call16 func16 ntmps16 rfl rfl ?_
 intro zb
 obtain⟨_,QI⟩:=hw
 have hlz:=pJ yF 43 a.rounds (Ro QI hz)
 refine av X [1] rfl (aN X [1,3] rfl (by and_intros<;>first|exact⟨⟩| (intros;omega)|exact rfl|exact aA _ (by decide)|exact⟨rfl,aA _ (by decide)⟩| ((intro h1;first| (intro h2;first| (intro h3;refine And.intro ?_ ?_)|refine And.intro ?_ ?_)|refine And.intro ?_ ?_)<;>first|omega| ((try simp only[aP]at*);(try simp(disch:=omega) only[aM]);omega))| ((try simp only[aP]at*);(simp(disch:=omega) only[aM]);omega)| (refine fun _=> ?_;dsimp only[hyps,bg];omega)| (refine fun _ _=> ?_;dsimp only[hyps,bg];omega)|exact(cj _).1|exact(cj _).2|exact(cG _).1|exact(cG _).2| (simp only[b7,maxLen,lens];omega)| (intros;simp only[nb]at*;omega)) ?_)
 refine aa (av X [3,8,9,10] rfl ?_)
 refine aq (aQ (fun k=>k≤a.rounds.length) (fun k:Nat=> [(10, .one ((aL k)))]) (fun k=> [(6, .arr .str ((a.rounds.map yF).take k))]) (fun k=>a.rounds.length-k) 0 (fun k=>rfl) (Nat.zero_le _) rfl ?_)
 intro k hk
 have htl:((a.rounds.map yF).take k).length≤1048576:=by rw[List.length_take,List.length_map];omega
 refine av X [3,8,9,10,11] rfl ?_
 refine aa (ak rfl ?_ ?_)<;>intro hb0
 ·try simp only[aP]at hb0
  obtain⟨q1,_⟩:=at_mem QI hb0 (aI .aK)
  have q2:=at_mem hz hb0 (aI .aK)
  have q3:=sK (a.rounds.getD k (aI .aK)).db.rows
  have z1:=b9 q1
  have z2:=b9 (n:=(gK (a.rounds.getD k (aI .aK)).db.rows:Int)) (by omega)
  unfold kQ at q1
  have Rp:(a.rounds.map yF).getD k []=yF (a.rounds.getD k (aI .aK)):=xW yF hb0 _ _
  have U3:(a.rounds.map yF).length=a.rounds.length:=List.length_map ..
  have hs:(a.rounds.map yF).take (k+1)=(a.rounds.map yF).take k++ [yF (a.rounds.getD k (aI .aK))]:=by rw[bE _ k [] (by omega),Rp]
  refine ay (aa (aq (aN X [3,5,8,9,10] rfl (by and_intros<;>first|exact⟨⟩| (intros;omega)|exact rfl|exact aA _ (by decide)|exact⟨rfl,aA _ (by decide)⟩| ((intro h1;first| (intro h2;first| (intro h3;refine And.intro ?_ ?_)|refine And.intro ?_ ?_)|refine And.intro ?_ ?_)<;>first|omega| ((try simp only[aP]at*);(try simp(disch:=omega) only[aM]);omega))| ((try simp only[aP]at*);(simp(disch:=omega) only[aM]);omega)| (refine fun _=> ?_;dsimp only[hyps,bg];omega)| (refine fun _ _=> ?_;dsimp only[hyps,bg];omega)|exact(cj _).1|exact(cj _).2|exact(cG _).1|exact(cG _).2| (simp only[b7,maxLen,lens];omega)| (intros;simp only[nb]at*;omega)) ?_)))
  have t1:=(aC ((a.rounds.getD k (aI .aK)).round) (by first|assumption|omega| (simp;done)| (simp;omega)))
  have t2:=(ez ((a.rounds.getD k (aI .aK)).db))
  have t3:=(aC ((gK (a.rounds.getD k (aI .aK)).db.rows:Nat):Int) (by first|assumption|omega| (simp;done)| (simp;omega)))
  refine ct X [(25,6)] [(17,⟨false,cg t1⟩),(21,⟨false,cg t2⟩),(22,⟨false,cg t3⟩)] [3,8,9,10] [] 11 MO (by kernel_rfl) rfl (by(repeat' with_reducible first|exact aB|refine aE ?_ ?_|apply And.intro);(iterate 6 all_goals try first|exact(aC ((a.rounds.getD k (aI .aK)).round) (by first|assumption|omega| (simp;done)| (simp;omega)))|exact fun _=>(aC ((a.rounds.getD k (aI .aK)).round) (by first|assumption|omega| (simp;done)| (simp;omega)))|exact fun _ _=>(aC ((a.rounds.getD k (aI .aK)).round) (by first|assumption|omega| (simp;done)| (simp;omega)))|exact(ez ((a.rounds.getD k (aI .aK)).db))|exact fun _=>(ez ((a.rounds.getD k (aI .aK)).db))|exact fun _ _=>(ez ((a.rounds.getD k (aI .aK)).db))|exact(aC ((gK (a.rounds.getD k (aI .aK)).db.rows:Nat):Int) (by first|assumption|omega| (simp;done)| (simp;omega)))|exact fun _=>(aC ((gK (a.rounds.getD k (aI .aK)).db.rows:Nat):Int) (by first|assumption|omega| (simp;done)| (simp;omega)))|exact fun _ _=>(aC ((gK (a.rounds.getD k (aI .aK)).db.rows:Nat):Int) (by first|assumption|omega| (simp;done)| (simp;omega)))|exact(by simp only[ByteArray.size_append,bJ,cM];omega)|exact fun _=>(by simp only[ByteArray.size_append,bJ,cM];omega)|exact fun _ _=>(by simp only[ByteArray.size_append,bJ,cM];omega)|exact(by simp only[ByteArray.size_append,bJ,maxLen];omega)|exact fun _=>(by simp only[ByteArray.size_append,bJ,maxLen];omega)|exact fun _ _=>(by simp only[ByteArray.size_append,bJ,maxLen];omega)|exact(by simp only[b7,maxLen,List.length_singleton];omega)|exact fun _=>(by simp only[b7,maxLen,List.length_singleton];omega)|exact fun _ _=>(by simp only[b7,maxLen,List.length_singleton];omega));all_goals first| (intros;omega)|exact rfl|exact aA _ (by decide)|exact⟨rfl,aA _ (by decide)⟩| ((intro h1;first| (intro h2;first| (intro h3;refine And.intro ?_ ?_)|refine And.intro ?_ ?_)|refine And.intro ?_ ?_)<;>first|omega| ((try simp only[aP]at*);(try simp(disch:=omega) only[aM]);omega))| ((try simp only[aP]at*);(simp(disch:=omega) only[aM]);omega)| (refine fun _=> ?_;dsimp only[hyps,bg];omega)| (refine fun _ _=> ?_;dsimp only[hyps,bg];omega)|exact(cj _).1|exact(cj _).2|exact(cG _).1|exact(cG _).2| (simp only[b7,maxLen,lens];omega)| (intros;simp only[nb]at*;omega)) ?_
  refine bT X [3,8,9,10] rfl ?_
  refine⟨k+1,by omega,by omega,?_⟩
  rw[cw _ k rfl (by omega),hs]
  try rfl
 ·try simp only[aP]at hb0
  have ht:(a.rounds.map yF).take k=a.rounds.map yF:=List.take_of_length_le (by rw[List.length_map];omega)
  refine aV (aS X [] [(28,⟨false,[.a (.lit (.string (uB ((a.rounds.map yF).take k) 32)))]⟩)] [2] [] rfl (by(repeat' with_reducible first|exact aB|refine aE ?_ ?_|apply And.intro)<;>first|exact(dY _ 32 (by rw[ht];omega))|exact fun _=>(dY _ 32 (by rw[ht];omega))|exact fun _ _=>(dY _ 32 (by rw[ht];omega))| (intros;omega)|exact rfl|exact aA _ (by decide)|exact⟨rfl,aA _ (by decide)⟩| ((intro h1;first| (intro h2;first| (intro h3;refine And.intro ?_ ?_)|refine And.intro ?_ ?_)|refine And.intro ?_ ?_)<;>first|omega| ((try simp only[aP]at*);(try simp(disch:=omega) only[aM]);omega))| ((try simp only[aP]at*);(simp(disch:=omega) only[aM]);omega)| (refine fun _=> ?_;dsimp only[hyps,bg];omega)| (refine fun _ _=> ?_;dsimp only[hyps,bg];omega)|exact(cj _).1|exact(cj _).2|exact(cG _).1|exact(cG _).2| (simp only[b7,maxLen,lens];omega)| (intros;simp only[nb]at*;omega)) ?_)
  exact aj (ah rfl ⟨by rw[ht];rfl,⟨⟩⟩)
theorem iw(a:iK)(hw:HB a)(hz: ∀y,y∈a.rounds→y.db.rows.length≤1048576)(hl:a.rounds.length≤1048576):So 17 [.agg (dz a)] [.a (.lit (.string (ME a)))]:=by
 refine aD X call17 func17 ntmps17 rfl rfl ?_
 intro zb
 obtain⟨_,QI⟩:=hw
 have hlz:=pJ yF 43 a.rounds (Ro QI hz)
 refine av X [1] rfl (aa (av X [1,8] rfl ?_))
 refine ak rfl ?_ ?_<;>intro hb0
 ·try simp only[aP]at hb0
  exact av X [2] rfl (aj (ah rfl ⟨by unfold ME uB;rw[if_pos (by rw[List.length_map];omega)];rfl,⟨⟩⟩))
 ·try simp only[aP]at hb0
  refine ay (av X [1,3] rfl (aa (av X [1,3,4] rfl ?_)))
  refine aq (aQ (fun k=>k≤a.rounds.length) (fun k:Nat=> [(3, .one (.a (.lit (.string (jn (a.rounds.map yF) 32 k))))),(4, .one ((aL k)))]) (fun k=> []) (fun k=>a.rounds.length-k) 0 (fun k=>rfl) (Nat.zero_le _) rfl ?_)
  intro k hk
  have hjs:=VX (a.rounds.map yF) 32 k
  refine aa (av X [1,3,4,13] rfl ?_)
  refine ak rfl ?_ ?_<;>intro bt
  ·try simp only[aP]at bt
   obtain⟨q1,_⟩:=at_mem QI bt (aI .aK)
   have q2:=at_mem hz bt (aI .aK)
   have q3:=sK (a.rounds.getD k (aI .aK)).db.rows
   have z1:=b9 q1
   have z2:=b9 (n:=(gK (a.rounds.getD k (aI .aK)).db.rows:Int)) (by omega)
   unfold kQ at q1
   have Rp:(a.rounds.map yF).getD k []=yF (a.rounds.getD k (aI .aK)):=xW yF bt _ _
   have U3:(a.rounds.map yF).length=a.rounds.length:=List.length_map ..
   refine ay (aa (aq (aa (av X [1,3,4,17] rfl ?_))))
   refine ak rfl ?_ ?_<;>intro bY
   ·try simp only[aP]at bY
    have hs:=E5 (a.rounds.map yF) 32 (k:=k) (by omega) (by omega)
    rw[Rp]at hs
    refine fK X [1,3,4] rfl (by(repeat' with_reducible first|exact aB|refine aE ?_ ?_|apply And.intro);(iterate 3 all_goals try first|exact(by simp only[ByteArray.size_append,bJ,cM];omega)|exact fun _=>(by simp only[ByteArray.size_append,bJ,cM];omega)|exact fun _ _=>(by simp only[ByteArray.size_append,bJ,cM];omega)|exact(by simp only[ByteArray.size_append,bJ,maxLen];omega)|exact fun _=>(by simp only[ByteArray.size_append,bJ,maxLen];omega)|exact fun _ _=>(by simp only[ByteArray.size_append,bJ,maxLen];omega)|exact(by simp only[b7,maxLen,List.length_singleton];omega)|exact fun _=>(by simp only[b7,maxLen,List.length_singleton];omega)|exact fun _ _=>(by simp only[b7,maxLen,List.length_singleton];omega));all_goals first| (intros;omega)|exact rfl|exact aA _ (by decide)|exact⟨rfl,aA _ (by decide)⟩| ((intro h1;first| (intro h2;first| (intro h3;refine And.intro ?_ ?_)|refine And.intro ?_ ?_)|refine And.intro ?_ ?_)<;>first|omega| ((try simp only[aP]at*);(try simp(disch:=omega) only[aM]);omega))| ((try simp only[aP]at*);(simp(disch:=omega) only[aM]);omega)| (refine fun _=> ?_;dsimp only[hyps,bg];omega)| (refine fun _ _=> ?_;dsimp only[hyps,bg];omega)|exact(cj _).1|exact(cj _).2|exact(cG _).1|exact(cG _).2| (simp only[b7,maxLen,lens];omega)| (intros;simp only[nb]at*;omega)) ?_
    have t1:=(au ((a.rounds.getD k (aI .aK)).round) (by first|assumption|omega| (simp;done)| (simp;omega)))
    have t2:=(cC ((a.rounds.getD k (aI .aK)).db))
    have t3:=(au ((gK (a.rounds.getD k (aI .aK)).db.rows:Nat):Int) (by first|assumption|omega| (simp;done)| (simp;omega)))
    refine ct X [] [(27,⟨false,cg t1⟩),(36,⟨false,cg t2⟩),(37,⟨false,cg t3⟩)] [1,3,4] [] 20 MO (by kernel_rfl) rfl (by(repeat' with_reducible first|exact aB|refine aE ?_ ?_|apply And.intro);(iterate 6 all_goals try first|exact(au ((a.rounds.getD k (aI .aK)).round) (by first|assumption|omega| (simp;done)| (simp;omega)))|exact fun _=>(au ((a.rounds.getD k (aI .aK)).round) (by first|assumption|omega| (simp;done)| (simp;omega)))|exact fun _ _=>(au ((a.rounds.getD k (aI .aK)).round) (by first|assumption|omega| (simp;done)| (simp;omega)))|exact(cC ((a.rounds.getD k (aI .aK)).db))|exact fun _=>(cC ((a.rounds.getD k (aI .aK)).db))|exact fun _ _=>(cC ((a.rounds.getD k (aI .aK)).db))|exact(au ((gK (a.rounds.getD k (aI .aK)).db.rows:Nat):Int) (by first|assumption|omega| (simp;done)| (simp;omega)))|exact fun _=>(au ((gK (a.rounds.getD k (aI .aK)).db.rows:Nat):Int) (by first|assumption|omega| (simp;done)| (simp;omega)))|exact fun _ _=>(au ((gK (a.rounds.getD k (aI .aK)).db.rows:Nat):Int) (by first|assumption|omega| (simp;done)| (simp;omega)))|exact(by simp only[ByteArray.size_append,bJ,cM];omega)|exact fun _=>(by simp only[ByteArray.size_append,bJ,cM];omega)|exact fun _ _=>(by simp only[ByteArray.size_append,bJ,cM];omega)|exact(by simp only[ByteArray.size_append,bJ,maxLen];omega)|exact fun _=>(by simp only[ByteArray.size_append,bJ,maxLen];omega)|exact fun _ _=>(by simp only[ByteArray.size_append,bJ,maxLen];omega)|exact(by simp only[b7,maxLen,List.length_singleton];omega)|exact fun _=>(by simp only[b7,maxLen,List.length_singleton];omega)|exact fun _ _=>(by simp only[b7,maxLen,List.length_singleton];omega));all_goals first| (intros;omega)|exact rfl|exact aA _ (by decide)|exact⟨rfl,aA _ (by decide)⟩| ((intro h1;first| (intro h2;first| (intro h3;refine And.intro ?_ ?_)|refine And.intro ?_ ?_)|refine And.intro ?_ ?_)<;>first|omega| ((try simp only[aP]at*);(try simp(disch:=omega) only[aM]);omega))| ((try simp only[aP]at*);(simp(disch:=omega) only[aM]);omega)| (refine fun _=> ?_;dsimp only[hyps,bg];omega)| (refine fun _ _=> ?_;dsimp only[hyps,bg];omega)|exact(cj _).1|exact(cj _).2|exact(cG _).1|exact(cG _).2| (simp only[b7,maxLen,lens];omega)| (intros;simp only[nb]at*;omega)) ?_
    refine bT X [1,3,4] rfl ?_
    refine⟨k+1,by omega,by omega,?_⟩
    rw[cw _ k rfl (by omega),hs]
    rw[show bI (yF (a.rounds.getD k (aI .aK)))=Yv (a.rounds.getD k (aI .aK))from rfl]
    simp only[Yv,ByteArray.append_assoc]
    try rfl
   ·try simp only[aP]at bY
    have hs:=BX (a.rounds.map yF) 32 (k:=k) (by omega) (by omega)
    rw[Rp]at hs
    refine ay ?_
    have t1:=(au ((a.rounds.getD k (aI .aK)).round) (by first|assumption|omega| (simp;done)| (simp;omega)))
    have t2:=(cC ((a.rounds.getD k (aI .aK)).db))
    have t3:=(au ((gK (a.rounds.getD k (aI .aK)).db.rows:Nat):Int) (by first|assumption|omega| (simp;done)| (simp;omega)))
    refine ct X [] [(27,⟨false,cg t1⟩),(36,⟨false,cg t2⟩),(37,⟨false,cg t3⟩)] [1,3,4] [] 20 MO (by kernel_rfl) rfl (by(repeat' with_reducible first|exact aB|refine aE ?_ ?_|apply And.intro);(iterate 6 all_goals try first|exact(au ((a.rounds.getD k (aI .aK)).round) (by first|assumption|omega| (simp;done)| (simp;omega)))|exact fun _=>(au ((a.rounds.getD k (aI .aK)).round) (by first|assumption|omega| (simp;done)| (simp;omega)))|exact fun _ _=>(au ((a.rounds.getD k (aI .aK)).round) (by first|assumption|omega| (simp;done)| (simp;omega)))|exact(cC ((a.rounds.getD k (aI .aK)).db))|exact fun _=>(cC ((a.rounds.getD k (aI .aK)).db))|exact fun _ _=>(cC ((a.rounds.getD k (aI .aK)).db))|exact(au ((gK (a.rounds.getD k (aI .aK)).db.rows:Nat):Int) (by first|assumption|omega| (simp;done)| (simp;omega)))|exact fun _=>(au ((gK (a.rounds.getD k (aI .aK)).db.rows:Nat):Int) (by first|assumption|omega| (simp;done)| (simp;omega)))|exact fun _ _=>(au ((gK (a.rounds.getD k (aI .aK)).db.rows:Nat):Int) (by first|assumption|omega| (simp;done)| (simp;omega)))|exact(by simp only[ByteArray.size_append,bJ,cM];omega)|exact fun _=>(by simp only[ByteArray.size_append,bJ,cM];omega)|exact fun _ _=>(by simp only[ByteArray.size_append,bJ,cM];omega)|exact(by simp only[ByteArray.size_append,bJ,maxLen];omega)|exact fun _=>(by simp only[ByteArray.size_append,bJ,maxLen];omega)|exact fun _ _=>(by simp only[ByteArray.size_append,bJ,maxLen];omega)|exact(by simp only[b7,maxLen,List.length_singleton];omega)|exact fun _=>(by simp only[b7,maxLen,List.length_singleton];omega)|exact fun _ _=>(by simp only[b7,maxLen,List.length_singleton];omega));all_goals first| (intros;omega)|exact rfl|exact aA _ (by decide)|exact⟨rfl,aA _ (by decide)⟩| ((intro h1;first| (intro h2;first| (intro h3;refine And.intro ?_ ?_)|refine And.intro ?_ ?_)|refine And.intro ?_ ?_)<;>first|omega| ((try simp only[aP]at*);(try simp(disch:=omega) only[aM]);omega))| ((try simp only[aP]at*);(simp(disch:=omega) only[aM]);omega)| (refine fun _=> ?_;dsimp only[hyps,bg];omega)| (refine fun _ _=> ?_;dsimp only[hyps,bg];omega)|exact(cj _).1|exact(cj _).2|exact(cG _).1|exact(cG _).2| (simp only[b7,maxLen,lens];omega)| (intros;simp only[nb]at*;omega)) ?_
    refine bT X [1,3,4] rfl ?_
    refine⟨k+1,by omega,by omega,?_⟩
    rw[cw _ k rfl (by omega),hs]
    rw[show bI (yF (a.rounds.getD k (aI .aK)))=Yv (a.rounds.getD k (aI .aK))from rfl]
    simp only[Yv,ByteArray.append_assoc]
    try rfl
  ·try simp only[aP]at bt
   exact aV (av X [2] rfl (aj (ah rfl ⟨by unfold ME;rw[Rn _ _ (by rw[List.length_map];omega) (by rw[List.length_map];omega)],⟨⟩⟩)))
theorem jv(x:bw)(hw1:kQ x.round)(QI:kQ x.cancelled)(hw3: ∀y,y∈x.replaced→kQ y)(hd:x.af.length≤1048576)(hl:x.replaced.length≤1048576):So 22 [.agg (bX x)] [.a (.lit (.string (MF x)))]:=by
 refine aD X call22 func22 ntmps22 rfl rfl ?_
 intro zb
 have q1:=hw1
 have q2:=QI
 have z1:=b9 q1
 have z2:=b9 q2
 have q3:=Ku x.af x.af.length
 have q4:=Qd x.af x.af.length
 have z3:=b9 q3
 have z4:=b9 q4
 have hlz:=pJ gf 21 x.replaced (KP hw3)
 have hos:=Jm (x.replaced.map gf) 44
 have U3:(x.replaced.map gf).length=x.replaced.length:=List.length_map ..
 refine av X [1] rfl (aN X [1,3] rfl (by and_intros<;>first|exact⟨⟩| (intros;omega)|exact rfl|exact aA _ (by decide)|exact⟨rfl,aA _ (by decide)⟩| ((intro h1;first| (intro h2;first| (intro h3;refine And.intro ?_ ?_)|refine And.intro ?_ ?_)|refine And.intro ?_ ?_)<;>first|omega| ((try simp only[aP]at*);(try simp(disch:=omega) only[aM]);omega))| ((try simp only[aP]at*);(simp(disch:=omega) only[aM]);omega)| (refine fun _=> ?_;dsimp only[hyps,bg];omega)| (refine fun _ _=> ?_;dsimp only[hyps,bg];omega)|exact(cj _).1|exact(cj _).2|exact(cG _).1|exact(cG _).2| (simp only[b7,maxLen,lens];omega)| (intros;simp only[nb]at*;omega)) ?_)
 refine aa (av X [1,3,8,9,10] rfl ?_)
 refine aq (aQ (fun k=>k≤x.replaced.length) (fun k:Nat=> [(10, .one ((aL k)))]) (fun k=> [(6, .arr .str ((x.replaced.map gf).take k))]) (fun k=>x.replaced.length-k) 0 (fun k=>rfl) (Nat.zero_le _) rfl ?_)
 intro k hk
 have htl:((x.replaced.map gf).take k).length≤1048576:=by rw[List.length_take,List.length_map];omega
 refine av X [1,3,8,9,10,11] rfl ?_
 refine aa (ak rfl ?_ ?_)<;>intro hb0
 ·try simp only[aP]at hb0
  have q5:=at_mem hw3 hb0 (aI .int)
  have z5:=b9 q5
  unfold kQ at q5
  have Rp:(x.replaced.map gf).getD k []=gf (x.replaced.getD k (aI .int)):=xW gf hb0 _ _
  have hs:(x.replaced.map gf).take (k+1)=(x.replaced.map gf).take k++ [gf (x.replaced.getD k (aI .int))]:=by rw[bE _ k [] (by omega),Rp]
  refine ay (aa (aq (aN X [1,3,5,8,9,10] rfl (by and_intros<;>first|exact⟨⟩| (intros;omega)|exact rfl|exact aA _ (by decide)|exact⟨rfl,aA _ (by decide)⟩| ((intro h1;first| (intro h2;first| (intro h3;refine And.intro ?_ ?_)|refine And.intro ?_ ?_)|refine And.intro ?_ ?_)<;>first|omega| ((try simp only[aP]at*);(try simp(disch:=omega) only[aM]);omega))| ((try simp only[aP]at*);(simp(disch:=omega) only[aM]);omega)| (refine fun _=> ?_;dsimp only[hyps,bg];omega)| (refine fun _ _=> ?_;dsimp only[hyps,bg];omega)|exact(cj _).1|exact(cj _).2|exact(cG _).1|exact(cG _).2| (simp only[b7,maxLen,lens];omega)| (intros;simp only[nb]at*;omega)) ?_)))
  refine aH X [(18,6)] [(16,⟨false,[.a (.lit (.string (bI (Lib.itoa (x.replaced.getD k (aI .int))))))]⟩)] [1,3,8,9,10] [] rfl (by(repeat' with_reducible first|exact aB|refine aE ?_ ?_|apply And.intro);(iterate 4 all_goals try first|exact(aC (x.replaced.getD k (aI .int)) (by first|assumption|omega| (simp;done)| (simp;omega)))|exact fun _=>(aC (x.replaced.getD k (aI .int)) (by first|assumption|omega| (simp;done)| (simp;omega)))|exact fun _ _=>(aC (x.replaced.getD k (aI .int)) (by first|assumption|omega| (simp;done)| (simp;omega)))|exact(by simp only[ByteArray.size_append,bJ,cM];omega)|exact fun _=>(by simp only[ByteArray.size_append,bJ,cM];omega)|exact fun _ _=>(by simp only[ByteArray.size_append,bJ,cM];omega)|exact(by simp only[ByteArray.size_append,bJ,maxLen];omega)|exact fun _=>(by simp only[ByteArray.size_append,bJ,maxLen];omega)|exact fun _ _=>(by simp only[ByteArray.size_append,bJ,maxLen];omega)|exact(by simp only[b7,maxLen,List.length_singleton];omega)|exact fun _=>(by simp only[b7,maxLen,List.length_singleton];omega)|exact fun _ _=>(by simp only[b7,maxLen,List.length_singleton];omega));all_goals first| (intros;omega)|exact rfl|exact aA _ (by decide)|exact⟨rfl,aA _ (by decide)⟩| ((intro h1;first| (intro h2;first| (intro h3;refine And.intro ?_ ?_)|refine And.intro ?_ ?_)|refine And.intro ?_ ?_)<;>first|omega| ((try simp only[aP]at*);(try simp(disch:=omega) only[aM]);omega))| ((try simp only[aP]at*);(simp(disch:=omega) only[aM]);omega)| (refine fun _=> ?_;dsimp only[hyps,bg];omega)| (refine fun _ _=> ?_;dsimp only[hyps,bg];omega)|exact(cj _).1|exact(cj _).2|exact(cG _).1|exact(cG _).2| (simp only[b7,maxLen,lens];omega)| (intros;simp only[nb]at*;omega)) ?_
  refine bT X [1,3,8,9,10] rfl ?_
  refine⟨k+1,by omega,by omega,?_⟩
  rw[cw _ k rfl (by omega),hs]
  try rfl
 ·try simp only[aP]at hb0
  have ht:(x.replaced.map gf).take k=x.replaced.map gf:=List.take_of_length_le (by rw[List.length_map];omega)
  have TC:(uB ((x.replaced.map gf).take k) 44).size≤eu List.length (x.replaced.map gf)+1:=by rw[ht];exact hos
  refine aV (aa ?_)
  have t1:=(aC (mo x.af x.af.length) (by first|assumption|omega| (simp;done)| (simp;omega)))
  refine ct X [] [(22,⟨false,[.a (.lit (.string (bI (Lib.itoa x.round))))]⟩),(26,⟨false,[.a (.lit (.string (bI (Lib.itoa x.cancelled))))]⟩),(30,⟨false,[.a (.lit (.string (uB ((x.replaced.map gf).take k) 44)))]⟩),(34,⟨false,[aL (mo x.af x.af.length)]⟩),(35,⟨false,cg t1⟩),(39,⟨false,[aL (wg x.af x.af.length)]⟩),(40,⟨false,[.a (.lit (.string (bI (Lib.itoa (wg x.af x.af.length)))))]⟩)] [2] [] 23 MO (by kernel_rfl) rfl (by(repeat' with_reducible first|exact aB|refine aE ?_ ?_|apply And.intro);(iterate 10 all_goals try first|exact(aC x.round (by first|assumption|omega| (simp;done)| (simp;omega)))|exact fun _=>(aC x.round (by first|assumption|omega| (simp;done)| (simp;omega)))|exact fun _ _=>(aC x.round (by first|assumption|omega| (simp;done)| (simp;omega)))|exact(aC x.cancelled (by first|assumption|omega| (simp;done)| (simp;omega)))|exact fun _=>(aC x.cancelled (by first|assumption|omega| (simp;done)| (simp;omega)))|exact fun _ _=>(aC x.cancelled (by first|assumption|omega| (simp;done)| (simp;omega)))|exact(dY _ 44 (by rw[ht];omega))|exact fun _=>(dY _ 44 (by rw[ht];omega))|exact fun _ _=>(dY _ 44 (by rw[ht];omega))|exact(gz x)|exact fun _=>(gz x)|exact fun _ _=>(gz x)|exact(aC (mo x.af x.af.length) (by first|assumption|omega| (simp;done)| (simp;omega)))|exact fun _=>(aC (mo x.af x.af.length) (by first|assumption|omega| (simp;done)| (simp;omega)))|exact fun _ _=>(aC (mo x.af x.af.length) (by first|assumption|omega| (simp;done)| (simp;omega)))|exact(gJ x (by first|assumption|omega| (simp;done)| (simp;omega)))|exact fun _=>(gJ x (by first|assumption|omega| (simp;done)| (simp;omega)))|exact fun _ _=>(gJ x (by first|assumption|omega| (simp;done)| (simp;omega)))|exact(aC (wg x.af x.af.length) (by first|assumption|omega| (simp;done)| (simp;omega)))|exact fun _=>(aC (wg x.af x.af.length) (by first|assumption|omega| (simp;done)| (simp;omega)))|exact fun _ _=>(aC (wg x.af x.af.length) (by first|assumption|omega| (simp;done)| (simp;omega)))|exact(by simp only[ByteArray.size_append,bJ,cM];omega)|exact fun _=>(by simp only[ByteArray.size_append,bJ,cM];omega)|exact fun _ _=>(by simp only[ByteArray.size_append,bJ,cM];omega)|exact(by simp only[ByteArray.size_append,bJ,maxLen];omega)|exact fun _=>(by simp only[ByteArray.size_append,bJ,maxLen];omega)|exact fun _ _=>(by simp only[ByteArray.size_append,bJ,maxLen];omega)|exact(by simp only[b7,maxLen,List.length_singleton];omega)|exact fun _=>(by simp only[b7,maxLen,List.length_singleton];omega)|exact fun _ _=>(by simp only[b7,maxLen,List.length_singleton];omega));all_goals first| (intros;omega)|exact rfl|exact aA _ (by decide)|exact⟨rfl,aA _ (by decide)⟩| ((intro h1;first| (intro h2;first| (intro h3;refine And.intro ?_ ?_)|refine And.intro ?_ ?_)|refine And.intro ?_ ?_)<;>first|omega| ((try simp only[aP]at*);(try simp(disch:=omega) only[aM]);omega))| ((try simp only[aP]at*);(simp(disch:=omega) only[aM]);omega)| (refine fun _=> ?_;dsimp only[hyps,bg];omega)| (refine fun _ _=> ?_;dsimp only[hyps,bg];omega)|exact(cj _).1|exact(cj _).2|exact(cG _).1|exact(cG _).2| (simp only[b7,maxLen,lens];omega)| (intros;simp only[nb]at*;omega)) ?_
  exact aj (ah rfl ⟨by rw[ht];rfl,⟨⟩⟩)
theorem jx(x:bw)(hw1:kQ x.round)(QI:kQ x.cancelled)(hw3: ∀y,y∈x.replaced→kQ y)(hd:x.af.length≤1048576)(hl:x.replaced.length≤1048576):So 23 [.agg (bX x)] [.a (.lit (.string (MF x)))]:=by
 refine aD X call23 func23 ntmps23 rfl rfl ?_
 intro zb
 have q1:=hw1
 have q2:=QI
 have z1:=b9 q1
 have z2:=b9 q2
 have q3:=Ku x.af x.af.length
 have q4:=Qd x.af x.af.length
 have z3:=b9 q3
 have z4:=b9 q4
 have hlz:=pJ gf 21 x.replaced (KP hw3)
 have hos:=Jm (x.replaced.map gf) 44
 have U3:(x.replaced.map gf).length=x.replaced.length:=List.length_map ..
 refine av X [1] rfl (av X [1,3] rfl (aa (av X [1,3,4] rfl ?_)))
 refine aq (aQ (fun k=>k≤x.replaced.length) (fun k:Nat=> [(3, .one (.a (.lit (.string (jn (x.replaced.map gf) 44 k))))),(4, .one ((aL k)))]) (fun k=> []) (fun k=>x.replaced.length-k) 0 (fun k=>rfl) (Nat.zero_le _) rfl ?_)
 intro k hk
 have hjs:=VX (x.replaced.map gf) 44 k
 refine aa (av X [1,3,4,9] rfl ?_)
 refine ak rfl ?_ ?_<;>intro hb0
 ·try simp only[aP]at hb0
  have q5:=at_mem hw3 hb0 (aI .int)
  have z5:=b9 q5
  unfold kQ at q5
  have Rp:(x.replaced.map gf).getD k []=gf (x.replaced.getD k (aI .int)):=xW gf hb0 _ _
  refine ay (aa (aq (aa (av X [1,3,4,13] rfl ?_))))
  refine ak rfl ?_ ?_<;>intro bt
  ·try simp only[aP]at bt
   have hs:=E5 (x.replaced.map gf) 44 (k:=k) (by omega) (by omega)
   rw[Rp]at hs
   refine fK X [1,3,4] rfl (by(repeat' with_reducible first|exact aB|refine aE ?_ ?_|apply And.intro);(iterate 3 all_goals try first|exact(by simp only[ByteArray.size_append,bJ,cM];omega)|exact fun _=>(by simp only[ByteArray.size_append,bJ,cM];omega)|exact fun _ _=>(by simp only[ByteArray.size_append,bJ,cM];omega)|exact(by simp only[ByteArray.size_append,bJ,maxLen];omega)|exact fun _=>(by simp only[ByteArray.size_append,bJ,maxLen];omega)|exact fun _ _=>(by simp only[ByteArray.size_append,bJ,maxLen];omega)|exact(by simp only[b7,maxLen,List.length_singleton];omega)|exact fun _=>(by simp only[b7,maxLen,List.length_singleton];omega)|exact fun _ _=>(by simp only[b7,maxLen,List.length_singleton];omega));all_goals first| (intros;omega)|exact rfl|exact aA _ (by decide)|exact⟨rfl,aA _ (by decide)⟩| ((intro h1;first| (intro h2;first| (intro h3;refine And.intro ?_ ?_)|refine And.intro ?_ ?_)|refine And.intro ?_ ?_)<;>first|omega| ((try simp only[aP]at*);(try simp(disch:=omega) only[aM]);omega))| ((try simp only[aP]at*);(simp(disch:=omega) only[aM]);omega)| (refine fun _=> ?_;dsimp only[hyps,bg];omega)| (refine fun _ _=> ?_;dsimp only[hyps,bg];omega)|exact(cj _).1|exact(cj _).2|exact(cG _).1|exact(cG _).2| (simp only[b7,maxLen,lens];omega)| (intros;simp only[nb]at*;omega)) ?_
   refine aH X [] [(22,⟨false,[.a (.lit (.string (bI (Lib.itoa (x.replaced.getD k (aI .int))))))]⟩)] [1,3,4] [] rfl (by(repeat' with_reducible first|exact aB|refine aE ?_ ?_|apply And.intro);(iterate 4 all_goals try first|exact(au (x.replaced.getD k (aI .int)) (by first|assumption|omega| (simp;done)| (simp;omega)))|exact fun _=>(au (x.replaced.getD k (aI .int)) (by first|assumption|omega| (simp;done)| (simp;omega)))|exact fun _ _=>(au (x.replaced.getD k (aI .int)) (by first|assumption|omega| (simp;done)| (simp;omega)))|exact(by simp only[ByteArray.size_append,bJ,cM];omega)|exact fun _=>(by simp only[ByteArray.size_append,bJ,cM];omega)|exact fun _ _=>(by simp only[ByteArray.size_append,bJ,cM];omega)|exact(by simp only[ByteArray.size_append,bJ,maxLen];omega)|exact fun _=>(by simp only[ByteArray.size_append,bJ,maxLen];omega)|exact fun _ _=>(by simp only[ByteArray.size_append,bJ,maxLen];omega)|exact(by simp only[b7,maxLen,List.length_singleton];omega)|exact fun _=>(by simp only[b7,maxLen,List.length_singleton];omega)|exact fun _ _=>(by simp only[b7,maxLen,List.length_singleton];omega));all_goals first| (intros;omega)|exact rfl|exact aA _ (by decide)|exact⟨rfl,aA _ (by decide)⟩| ((intro h1;first| (intro h2;first| (intro h3;refine And.intro ?_ ?_)|refine And.intro ?_ ?_)|refine And.intro ?_ ?_)<;>first|omega| ((try simp only[aP]at*);(try simp(disch:=omega) only[aM]);omega))| ((try simp only[aP]at*);(simp(disch:=omega) only[aM]);omega)| (refine fun _=> ?_;dsimp only[hyps,bg];omega)| (refine fun _ _=> ?_;dsimp only[hyps,bg];omega)|exact(cj _).1|exact(cj _).2|exact(cG _).1|exact(cG _).2| (simp only[b7,maxLen,lens];omega)| (intros;simp only[nb]at*;omega)) ?_
   refine bT X [1,3,4] rfl ?_
   refine⟨k+1,by omega,by omega,?_⟩
   rw[cw _ k rfl (by omega),hs]
   try rfl
  ·try simp only[aP]at bt
   have hs:=BX (x.replaced.map gf) 44 (k:=k) (by omega) (by omega)
   rw[Rp]at hs
   refine ay (aH X [] [(22,⟨false,[.a (.lit (.string (bI (Lib.itoa (x.replaced.getD k (aI .int))))))]⟩)] [1,3,4] [] rfl (by(repeat' with_reducible first|exact aB|refine aE ?_ ?_|apply And.intro);(iterate 4 all_goals try first|exact(au (x.replaced.getD k (aI .int)) (by first|assumption|omega| (simp;done)| (simp;omega)))|exact fun _=>(au (x.replaced.getD k (aI .int)) (by first|assumption|omega| (simp;done)| (simp;omega)))|exact fun _ _=>(au (x.replaced.getD k (aI .int)) (by first|assumption|omega| (simp;done)| (simp;omega)))|exact(by simp only[ByteArray.size_append,bJ,cM];omega)|exact fun _=>(by simp only[ByteArray.size_append,bJ,cM];omega)|exact fun _ _=>(by simp only[ByteArray.size_append,bJ,cM];omega)|exact(by simp only[ByteArray.size_append,bJ,maxLen];omega)|exact fun _=>(by simp only[ByteArray.size_append,bJ,maxLen];omega)|exact fun _ _=>(by simp only[ByteArray.size_append,bJ,maxLen];omega)|exact(by simp only[b7,maxLen,List.length_singleton];omega)|exact fun _=>(by simp only[b7,maxLen,List.length_singleton];omega)|exact fun _ _=>(by simp only[b7,maxLen,List.length_singleton];omega));all_goals first| (intros;omega)|exact rfl|exact aA _ (by decide)|exact⟨rfl,aA _ (by decide)⟩| ((intro h1;first| (intro h2;first| (intro h3;refine And.intro ?_ ?_)|refine And.intro ?_ ?_)|refine And.intro ?_ ?_)<;>first|omega| ((try simp only[aP]at*);(try simp(disch:=omega) only[aM]);omega))| ((try simp only[aP]at*);(simp(disch:=omega) only[aM]);omega)| (refine fun _=> ?_;dsimp only[hyps,bg];omega)| (refine fun _ _=> ?_;dsimp only[hyps,bg];omega)|exact(cj _).1|exact(cj _).2|exact(cG _).1|exact(cG _).2| (simp only[b7,maxLen,lens];omega)| (intros;simp only[nb]at*;omega)) ?_)
   refine bT X [1,3,4] rfl ?_
   refine⟨k+1,by omega,by omega,?_⟩
   rw[cw _ k rfl (by omega),hs]
   try rfl
 ·try simp only[aP]at hb0
  refine aV (aa (av X [1,3,25] rfl ?_))
  refine ak rfl ?_ ?_<;>intro bY
  ·have hd:=Yx x.replaced 44 hb0 hk (abc bY)
   refine bT X [1,3] rfl (aa ?_)
   have t1:=(au (mo x.af x.af.length) (by first|assumption|omega| (simp;done)| (simp;omega)))
   refine ct X [] [(28,⟨false,[.a (.lit (.string (bI (Lib.itoa x.round))))]⟩),(32,⟨false,[.a (.lit (.string (bI (Lib.itoa x.cancelled))))]⟩),(39,⟨false,[aL (mo x.af x.af.length)]⟩),(40,⟨false,cg t1⟩),(44,⟨false,[aL (wg x.af x.af.length)]⟩),(45,⟨false,[.a (.lit (.string (bI (Lib.itoa (wg x.af x.af.length)))))]⟩)] [2] [] 22 MO (by kernel_rfl) rfl (by(repeat' with_reducible first|exact aB|refine aE ?_ ?_|apply And.intro);(iterate 9 all_goals try first|exact(au x.round (by first|assumption|omega| (simp;done)| (simp;omega)))|exact fun _=>(au x.round (by first|assumption|omega| (simp;done)| (simp;omega)))|exact fun _ _=>(au x.round (by first|assumption|omega| (simp;done)| (simp;omega)))|exact(au x.cancelled (by first|assumption|omega| (simp;done)| (simp;omega)))|exact fun _=>(au x.cancelled (by first|assumption|omega| (simp;done)| (simp;omega)))|exact fun _ _=>(au x.cancelled (by first|assumption|omega| (simp;done)| (simp;omega)))|exact(cZ x)|exact fun _=>(cZ x)|exact fun _ _=>(cZ x)|exact(au (mo x.af x.af.length) (by first|assumption|omega| (simp;done)| (simp;omega)))|exact fun _=>(au (mo x.af x.af.length) (by first|assumption|omega| (simp;done)| (simp;omega)))|exact fun _ _=>(au (mo x.af x.af.length) (by first|assumption|omega| (simp;done)| (simp;omega)))|exact(dn x (by first|assumption|omega| (simp;done)| (simp;omega)))|exact fun _=>(dn x (by first|assumption|omega| (simp;done)| (simp;omega)))|exact fun _ _=>(dn x (by first|assumption|omega| (simp;done)| (simp;omega)))|exact(au (wg x.af x.af.length) (by first|assumption|omega| (simp;done)| (simp;omega)))|exact fun _=>(au (wg x.af x.af.length) (by first|assumption|omega| (simp;done)| (simp;omega)))|exact fun _ _=>(au (wg x.af x.af.length) (by first|assumption|omega| (simp;done)| (simp;omega)))|exact(by simp only[ByteArray.size_append,bJ,cM];omega)|exact fun _=>(by simp only[ByteArray.size_append,bJ,cM];omega)|exact fun _ _=>(by simp only[ByteArray.size_append,bJ,cM];omega)|exact(by simp only[ByteArray.size_append,bJ,maxLen];omega)|exact fun _=>(by simp only[ByteArray.size_append,bJ,maxLen];omega)|exact fun _ _=>(by simp only[ByteArray.size_append,bJ,maxLen];omega)|exact(by simp only[b7,maxLen,List.length_singleton];omega)|exact fun _=>(by simp only[b7,maxLen,List.length_singleton];omega)|exact fun _ _=>(by simp only[b7,maxLen,List.length_singleton];omega));all_goals first| (intros;omega)|exact rfl|exact aA _ (by decide)|exact⟨rfl,aA _ (by decide)⟩| ((intro h1;first| (intro h2;first| (intro h3;refine And.intro ?_ ?_)|refine And.intro ?_ ?_)|refine And.intro ?_ ?_)<;>first|omega| ((try simp only[aP]at*);(try simp(disch:=omega) only[aM]);omega))| ((try simp only[aP]at*);(simp(disch:=omega) only[aM]);omega)| (refine fun _=> ?_;dsimp only[hyps,bg];omega)| (refine fun _ _=> ?_;dsimp only[hyps,bg];omega)|exact(cj _).1|exact(cj _).2|exact(cG _).1|exact(cG _).2| (simp only[b7,maxLen,lens];omega)| (intros;simp only[nb]at*;omega)) ?_
   exact aj (ah rfl ⟨by unfold MF;rw[hd];rfl,⟨⟩⟩)
  ·have hd:=Yw x.replaced 44 hb0 hk (abd bY)
   refine ay (aa ?_)
   have t1:=(au (mo x.af x.af.length) (by first|assumption|omega| (simp;done)| (simp;omega)))
   refine ct X [] [(28,⟨false,[.a (.lit (.string (bI (Lib.itoa x.round))))]⟩),(32,⟨false,[.a (.lit (.string (bI (Lib.itoa x.cancelled))))]⟩),(39,⟨false,[aL (mo x.af x.af.length)]⟩),(40,⟨false,cg t1⟩),(44,⟨false,[aL (wg x.af x.af.length)]⟩),(45,⟨false,[.a (.lit (.string (bI (Lib.itoa (wg x.af x.af.length)))))]⟩)] [2] [] 22 MO (by kernel_rfl) rfl (by(repeat' with_reducible first|exact aB|refine aE ?_ ?_|apply And.intro);(iterate 9 all_goals try first|exact(au x.round (by first|assumption|omega| (simp;done)| (simp;omega)))|exact fun _=>(au x.round (by first|assumption|omega| (simp;done)| (simp;omega)))|exact fun _ _=>(au x.round (by first|assumption|omega| (simp;done)| (simp;omega)))|exact(au x.cancelled (by first|assumption|omega| (simp;done)| (simp;omega)))|exact fun _=>(au x.cancelled (by first|assumption|omega| (simp;done)| (simp;omega)))|exact fun _ _=>(au x.cancelled (by first|assumption|omega| (simp;done)| (simp;omega)))|exact(cZ x)|exact fun _=>(cZ x)|exact fun _ _=>(cZ x)|exact(au (mo x.af x.af.length) (by first|assumption|omega| (simp;done)| (simp;omega)))|exact fun _=>(au (mo x.af x.af.length) (by first|assumption|omega| (simp;done)| (simp;omega)))|exact fun _ _=>(au (mo x.af x.af.length) (by first|assumption|omega| (simp;done)| (simp;omega)))|exact(dn x (by first|assumption|omega| (simp;done)| (simp;omega)))|exact fun _=>(dn x (by first|assumption|omega| (simp;done)| (simp;omega)))|exact fun _ _=>(dn x (by first|assumption|omega| (simp;done)| (simp;omega)))|exact(au (wg x.af x.af.length) (by first|assumption|omega| (simp;done)| (simp;omega)))|exact fun _=>(au (wg x.af x.af.length) (by first|assumption|omega| (simp;done)| (simp;omega)))|exact fun _ _=>(au (wg x.af x.af.length) (by first|assumption|omega| (simp;done)| (simp;omega)))|exact(by simp only[ByteArray.size_append,bJ,cM];omega)|exact fun _=>(by simp only[ByteArray.size_append,bJ,cM];omega)|exact fun _ _=>(by simp only[ByteArray.size_append,bJ,cM];omega)|exact(by simp only[ByteArray.size_append,bJ,maxLen];omega)|exact fun _=>(by simp only[ByteArray.size_append,bJ,maxLen];omega)|exact fun _ _=>(by simp only[ByteArray.size_append,bJ,maxLen];omega)|exact(by simp only[b7,maxLen,List.length_singleton];omega)|exact fun _=>(by simp only[b7,maxLen,List.length_singleton];omega)|exact fun _ _=>(by simp only[b7,maxLen,List.length_singleton];omega));all_goals first| (intros;omega)|exact rfl|exact aA _ (by decide)|exact⟨rfl,aA _ (by decide)⟩| ((intro h1;first| (intro h2;first| (intro h3;refine And.intro ?_ ?_)|refine And.intro ?_ ?_)|refine And.intro ?_ ?_)<;>first|omega| ((try simp only[aP]at*);(try simp(disch:=omega) only[aM]);omega))| ((try simp only[aP]at*);(simp(disch:=omega) only[aM]);omega)| (refine fun _=> ?_;dsimp only[hyps,bg];omega)| (refine fun _ _=> ?_;dsimp only[hyps,bg];omega)|exact(cj _).1|exact(cj _).2|exact(cG _).1|exact(cG _).2| (simp only[b7,maxLen,lens];omega)| (intros;simp only[nb]at*;omega)) ?_
   exact aj (ah rfl ⟨by unfold MF;rw[←hd];rfl,⟨⟩⟩)
end
end Go.Proofs.YtkkfjbfkjbljiaaGreatDoor.G
namespace Go.Proofs.YtkkfjbfkjbljiaaGreatDoor.G
set_option linter.all false
open Go.RowKit L D
section
def jE(n:Int):Prop:= -200000≤n∧n≤200000
theorem jE.I{n:Int}(h:jE n):kQ n:=by unfold jE at h;unfold kQ;omega
theorem zG(c:bR){n:Int}(h:0<n)(hn:n≤100000):jE (aO c n):=by have:=bZ c h;unfold jE;omega
def abf(x:dN):Prop:=jE x.id∧jE x.bG∧jE x.sent∧jE x.next
def YB(x:dN):Prop:=kQ x.key∧kQ x.seed
theorem VY(p:QT): ∀k,(qK p k).x.id=p.x.id∧(qK p k).x.bG=p.x.bG∧(qK p k).x.next=p.x.next
 |0=>⟨rfl,rfl,rfl⟩
 |k+1=>by
  obtain⟨h1,h2,h3⟩:=VY p k
  obtain⟨⟨e1,e2,_⟩,e3,_⟩:=n9 (qK p k).x (n8 (az (qK p k).c 5) (aO (qK p k).c 5).toNat)
  exact⟨e1.trans h1,e2.trans h2,e3.trans h3⟩
theorem YC(c:bR):jE (gd c).x.id∧jE (gd c).x.bG:=by
 unfold gd
 split
 ·have h1:=bZ (az (n4 c 4 3) 2) (n:=3) (by decide)
  have h2:=bZ (az (az (n4 c 4 3) 2) 3) (n:=4) (by decide)
  refine⟨?_,?_⟩
  ·show jE (4+aO (az (n4 c 4 3) 2) 3);unfold jE;omega
  ·show jE (aO (az (az (n4 c 4 3) 2) 3) 4);unfold jE;omega
 ·have h1:=bZ c (n:=4) (by decide)
  have h2:=bZ (az c 4) (n:=3) (by decide)
  refine⟨?_,?_⟩
  ·show jE (aO c 4);unfold jE;omega
  ·show jE (4+aO (az c 4) 3);unfold jE;omega
theorem YD(c:bR):jE (eU c).x.id∧jE (eU c).x.bG∧jE (eU c).x.next:=by
 have h:=VY (ep c) (mI c)
 obtain⟨k1,k2⟩:=YC c
 have hq:eU c=qK (ep c) (mI c):=rfl
 rw[hq,h.1,h.2.1,h.2.2]
 have hp:ep c=⟨az (rE c) 4,⟨(gd c).x.id,(gd c).x.bG,(gd c).x.key,(gd c).x.seed,[],0,[],aO (gd c).c 9⟩⟩:=rfl
 rw[hp]
 exact⟨k1,k2,zG _ (n:=9) (by decide) (by decide)⟩
theorem YE(c:bR):abf (bO c):=by
 obtain⟨h1,h2,h3⟩:=YD c
 have l2:=(wj c).1.1
 unfold bO
 generalize eU c=q at h1 h2 h3 l2 ⊢
 refine⟨h1,h2,?_,h3⟩
 show jE (aO q.c (IntKind.i64.wrap ((q.x.aF.length:Int)+1)))
 rw[aM (by omega)]
 exact zG _ (by omega) (by omega)
theorem Ru(p:QT): ∀k,(qK p k).x.key=p.x.key∧(qK p k).x.seed=p.x.seed
 |0=>⟨rfl,rfl⟩
 |k+1=>by
  obtain⟨h1,h2⟩:=Ru p k
  obtain⟨⟨_,_,e1,e2⟩,_⟩:=n9 (qK p k).x (n8 (az (qK p k).c 5) (aO (qK p k).c 5).toNat)
  exact⟨e1.trans h1,e2.trans h2⟩
theorem YF(c:bR):YB (gd c).x:=by
 unfold gd
 split
 ·have h1:=bZ (az (az (az (n4 c 4 3) 2) 3) 4) (n:=99) (by decide)
  have h2:=bZ (az (az (az (az (n4 c 4 3) 2) 3) 4) 99) (n:=999) (by decide)
  refine⟨?_,?_⟩
  ·show kQ (1+aO (az (az (az (n4 c 4 3) 2) 3) 4) 99);unfold kQ;omega
  ·show kQ (aO (az (az (az (az (n4 c 4 3) 2) 3) 4) 99) 999);unfold kQ;omega
 ·have h1:=bZ (az (az c 4) 3) (n:=99) (by decide)
  have h2:=bZ (az (az (az c 4) 3) 99) (n:=999) (by decide)
  refine⟨?_,?_⟩
  ·show kQ (1+aO (az (az c 4) 3) 99);unfold kQ;omega
  ·show kQ (aO (az (az (az c 4) 3) 99) 999);unfold kQ;omega
theorem YG(c:bR):YB (bO c):=by
 have h:=Ru (ep c) (mI c)
 have k:=YF c
 have hq:eU c=qK (ep c) (mI c):=rfl
 have hp:ep c=⟨az (rE c) 4,⟨(gd c).x.id,(gd c).x.bG,(gd c).x.key,(gd c).x.seed,[],0,[],aO (gd c).c 9⟩⟩:=rfl
 rw[←hq,hp]at h
 unfold bO
 generalize eU c=q at h ⊢
 exact⟨(show q.x.key=(gd c).x.key from h.1)▸k.1,(show q.x.seed=(gd c).x.seed from h.2)▸k.2⟩
theorem kC{l:List Int}(h: ∀x,x∈l→jE x)(i:Nat):jE (l.getD i (aI .int)):=og (P:=jE) h (by unfold jE;decide) i
theorem YH(c:bR):abf (fE c):=by
 obtain⟨h1,h2,h3,h4⟩:=YE c
 have hl:=(rF c).1.1
 unfold fE
 generalize bO c=y at*
 generalize eD c=o
 repeat' split
 ·exact⟨kC (by intro x hx;simp at hx;rcases hx with rfl|rfl|rfl|rfl<;>first|exact h2| (unfold jE;decide)) _,h2,h3,h4⟩
 ·exact⟨h1,h2,h3,h4⟩
 ·refine⟨h1,h2,kC ?_ _,h4⟩
  intro x hx
  rw[aM (by omega)]at hx
  simp at hx
  rcases hx with rfl|rfl|rfl<;>(unfold jE;omega)
 ·exact⟨h1,h2,h3,kC (by intro x hx;simp at hx;rcases hx with rfl|rfl|rfl|rfl<;>(unfold jE;decide)) _⟩
 ·exact⟨h1,h2,h3,h4⟩
 ·exact⟨h1,h2,h3,h4⟩
 ·exact⟨h1,h2,h3,h4⟩
theorem YI(c:bR):kQ (EU c):=by
 unfold EU
 split
 ·exact og (P:=kQ) (by intro x hx;simp[k13]at hx;unfold kQ;omega) (by unfold kQ;decide) _
 ·have:=bZ (az c 10) (n:=99999) (by decide)
  unfold kQ;omega
theorem YJ(c:bR):YB (fE c):=by
 have h:=YG c
 unfold fE
 generalize bO c=y at*
 generalize eD c=o
 repeat' split
 ·exact⟨h.1,h.2⟩
 ·exact⟨YI _,h.2⟩
 ·exact⟨h.1,h.2⟩
 ·exact⟨h.1,h.2⟩
 ·exact⟨h.1,h.2⟩
 ·exact⟨h.1,h.2⟩
 ·exact h
theorem UU(c:bR):HC (fE c):=by
 obtain⟨h1,h2,h3,h4⟩:=YH c
 obtain⟨k1,k2⟩:=YJ c
 exact⟨h1.I,h2.I,k1,k2,fun _ _ _ _=>trivial,h3.I,fun _ _ _ _=>trivial,h4.I⟩
def MG(s:bD):Prop:=jE s.id∧jE s.round∧jE s.behavior
theorem abg{s:bD}{c:Int}{d:DB}(h:MG s):MG (MR s c d):=by
 unfold MR
 split
 ·exact h
 ·exact h
theorem Rv{p:R9}(h:MG p.s): ∀k,MG (jr p k).s
 |0=>h
 |k+1=>abg (Rv h k)
theorem YK(c:bR):MG (dw c).s:=by
 refine Rv (p:=jV c) ⟨zG c (n:=3) (by decide) (by decide),zG (xP c) (n:=9) (by decide) (by decide),kC (l:=KJ) ?_ _⟩ _
 intro x hx
 simp[KJ]at hx
 rcases hx with rfl|rfl|rfl|rfl<;>(unfold jE;decide)
theorem YL(c:bR):MG (gR c):=by
 obtain⟨h1,h2,h3⟩:=YK c
 unfold gR
 repeat' split
 ·exact⟨kC (by intro x hx;simp at hx;rcases hx with rfl|rfl|rfl<;>(unfold jE;decide)) _,h2,h3⟩
 ·exact⟨h1,h2,h3⟩
 ·exact⟨h1,kC (by intro x hx;simp at hx;rcases hx with rfl|rfl|rfl<;>(unfold jE;decide)) _,h3⟩
 ·exact⟨h1,h2,kC (by intro x hx;simp at hx;rcases hx with rfl|rfl<;>(unfold jE;decide)) _⟩
 ·exact⟨h1,h2,h3⟩
 ·exact⟨h1,h2,h3⟩
def YM(l:List aK):Prop:= ∀y,y∈l→jE y.round
theorem abh{a:iK}{r:Int}{d:DB}(h:YM a.rounds):YM (yS a r d):=by
 unfold yS
 split
 ·rename_i hk
  have hr:jE r:=by
   simp only[o8,Bool.and_eq_true,cP,decide_eq_true_eq]at hk
   unfold jE;omega
  have hm:YM (o9 a r d):=by
   intro y hy
   rcases List.mem_append.1 hy with hy|hy
   ·exact h y hy
   ·rw[List.mem_singleton.1 hy];exact hr
  split
  ·exact fun y hy=>hm y (List.mem_of_mem_drop hy)
  ·exact hm
 ·exact h
theorem VZ{p:UM}(h:YM p.a.rounds): ∀k,YM (xN p k).a.rounds
 |0=>h
 |k+1=>abh (VZ h k)
theorem abi(c:bR):YM (a28 c).a.rounds:=VZ (fun y hy=>by cases hy) _
theorem YN(c:bR):YM (ku c).rounds:=by
 have h:=abi c
 unfold ku
 repeat' split
 ·exact h
 ·intro y hy
  rcases List.mem_append.1 hy with hy|hy
  ·exact h y hy
  ·rw[List.mem_singleton.1 hy]
   exact kC (by intro x hx;simp at hx;rcases hx with rfl|rfl|rfl|rfl<;>(unfold jE;decide)) _
 ·exact h
theorem UW(c:bR):HB (ku c):=by
 obtain⟨_,h1,h2⟩:=I8 c
 refine⟨?_,fun y hy=>⟨(YN c y hy).I,fun _ _ _ _=>trivial⟩⟩
 have e:jE (a28 c).a.rows:=by unfold jE;omega
 unfold ku
 repeat' split
 ·refine(kC ?_ _).I
  intro x hx
  rw[aM (by omega)]at hx
  simp at hx
  rcases hx with rfl|rfl|rfl<;>(unfold jE;omega)
 ·exact e.I
 ·exact e.I
theorem UX(a:Int): -9223372036854775808≤IntKind.i64.wrap a∧IntKind.i64.wrap a≤9223372036854775807:=by
 rw[IntKind.wrap_i64];omega
def mB(l:List Int):Prop:= ∀y,y∈l→kQ y
theorem abj{rows rd:Int}{p:List bD×List Int}{id:Int}(h:mB p.2):mB (yT rows rd p id).2:=by
 unfold yT
 split
 ·rename_i hk
  intro y hy
  rcases List.mem_append.1 hy with hy|hy
  ·exact h y hy
  ·rw[List.mem_singleton.1 hy]
   simp only[BA,cP]at hk
   have:=UX ((p.1.length:Int)-1)
   unfold kQ;omega
 ·exact h
theorem Rw{rows rd:Int}: ∀{g:List Int} {p:List bD×List Int},mB p.2→mB (yU rows rd p g).2
 | [],_,h=>h
 |_::g,_,h=>Rw (g:=g) (abj h)
theorem Rx{x:bw}(h:mB x.replaced):mB (iQ x).replaced:=by
 unfold iQ
 split
 ·generalize lf _ _ _ _ _=g
  generalize jw _=d
  have h1:mB (dh x g d).replaced:=by
   unfold dh
   by_cases hk:nZ x=true
   ·rw[if_pos hk]
    show mB (yU x.rows x.round (x.an,x.replaced) g).2
    exact Rw h
   ·rw[if_neg hk];exact h
  generalize dh x g d=y at h1 ⊢
  have h2:mB (testW y).replaced:=by
   unfold testW
   split
   ·show mB (yU y.rows y.round (y.an,y.replaced) (Dm y y.an.length)).2
    exact Rw h1
   ·exact h1
  generalize testW y=z at h2 ⊢
  unfold B4
  split<;>exact h2
 ·exact h
theorem V0(x:bw)(c:Int)(b:List UInt8):(Ko x c b).replaced=x.replaced:=by unfold Ko;split<;>rfl
theorem abk(x:bw)(c:Int):(Mh x c).replaced=x.replaced:=by unfold Mh;split<;>rfl
theorem abl(x:bw)(i b:Int):(Mi x i b).replaced=x.replaced:=by unfold Mi;split<;>rfl
theorem abm{p:bR×bw}(h:mB p.2.replaced):mB (jh p).2.replaced:=by
 unfold jh Mt
 repeat' split
 ·show mB (Ko _ _ _).replaced;rw[V0];exact h
 ·show mB (Mh _ _).replaced;rw[abk];exact h
 ·show mB (Mi _ _ _).replaced;rw[abl];exact h
 ·exact Rx h
theorem DA{p:bR×bw}(h:mB p.2.replaced): ∀k,mB (eJ jh p k).2.replaced
 |0=>h
 |k+1=>abm (DA h k)
theorem DC{p:bR×bw}(h:mB p.2.replaced): ∀k,mB (eJ oc p k).2.replaced
 |0=>h
 |k+1=>by
  show mB (Ko _ _ _).replaced
  rw[V0];exact DC h k
theorem abn(c:bR)(s:Int):mB (BN c s).2.replaced:=
 DA (p:=jS c s) (show mB (eJ oc (pU c) (n32 c)).2.replaced from DC (p:=pU c) (fun y hy=>by cases hy) _) _
theorem abo(c:bR){s:Int}(h:1≤s∧s≤100):kQ (xS c s).round∧kQ (xS c s).cancelled∧mB (xS c s).replaced:=by
 have hd:=Rf c h
 have hr:=abn c s
 have w:=Dr.of hd.ok
 have w1:=w.round
 have w2:=w.sZ
 have w3:=hd.round
 have w4:=hd.sZ
 unfold xS
 generalize (BN c s).2=x at*
 generalize (BN c s).1=c'
 have e1:jE x.round:=by unfold jE;omega
 have e2:jE x.cancelled:=by unfold jE;omega
 unfold iJ
 repeat' split
 all_goals first
  |exact⟨e1.I,e2.I,hr⟩
  |exact⟨e1.I,(show jE (-1)by unfold jE;decide).I,hr⟩
  |skip
 refine⟨(kC ?_ _).I,e2.I,hr⟩
 intro y hy
 rw[aM (by omega)]at hy
 simp at hy
 rcases hy with rfl|rfl|rfl<;>(unfold jE;omega)
def mC(l:List UInt8):Nat:=l.countP (· ==32)
theorem Ry: ∀u,mC (Lib.decDigits u)=0:=by
 intro u
 induction u using Nat.strongRecOn with
 |_ u ih=>
  rw[Lib.decDigits]
  have hd: ∀k,k<10→(UInt8.ofNat (48+k)==32)=false:=by decide
  split
  ·rename_i h
   unfold mC
   rw[List.countP_cons,List.countP_nil,hd u h];rfl
  ·rename_i h
   unfold mC
   rw[List.countP_append,show List.countP (· ==32) (Lib.decDigits (u/10))=0 from ih (u/10) (by omega),List.countP_cons,List.countP_nil,hd (u % 10) (Nat.mod_lt _ (by decide))];rfl
theorem E7(n:Int):mC (Lib.itoa n)=0:=by
 unfold Lib.itoa
 split
 ·unfold mC;rw[List.countP_cons];exact Nat.add_eq_zero_iff.2 ⟨Ry _,rfl⟩
 ·exact Ry _
theorem kO(a b:List UInt8):mC (a++b)=mC a+mC b:=List.countP_append
theorem KT(t:iy):mC (ig t)=0:=by
 have e:ig t=Lib.itoa t.fr++ [62]++Lib.itoa t.to++ [58]++Lib.itoa t.bytes:=by
  unfold ig MD
  simp only[jJ]
  rfl
 rw[e,kO,kO,kO,kO,E7,E7,E7];rfl
theorem KU: ∀l:List (List UInt8),(∀y,y∈l→mC y=0)→mC (Lib.joinTail [32] l)=l.length
 | [],_=>rfl
 |x::r,h=>by
  have e:Lib.joinTail [32] (x::r)=([32]++x)++Lib.joinTail [32] r:=by simp[Lib.joinTail]
  rw[e,kO,kO,h x (by simp),KU r fun y hy=>h y (by simp[hy])]
  show 1+0+r.length=r.length+1
  omega
theorem YO(l:List iy):(mC (uB (l.map ig) 32).data.toList:Int)=Nn 0 ((l.length:Int)-1):=by
 unfold uB
 rw[List.length_map]
 split
 ·rename_i h
  rw[h];rfl
 ·rename_i h
  cases l with
  |nil=>simp at h
  |cons x r=>
   have e:(bI (Lib.join (List.map ig (x::r)) [32])).data.toList=ig x++Lib.joinTail [32] (r.map ig):=by
    show Lib.join (List.map ig (x::r)) [32]=_
    rw[List.map_cons,Lib.join_cons]
   rw[e,kO,KT,KU _ fun y hy=>by obtain⟨t,_,rfl⟩:=List.mem_map.1 hy;exact KT t]
   rw[List.length_map,List.length_cons]
   unfold Nn
   split<;>omega
theorem E8{α:Type}{P:α→Prop}{f:Nat→List α}{K:Nat}(h: ∀i,i<K→ ∀y,y∈f i→P y){k:Nat}(hk:k≤K): ∀y,y∈fm f k→P y:=by
 intro y hy
 unfold fm at hy
 obtain⟨i,hi,hy⟩:=List.mem_flatMap.1 hy
 exact h i (by have:=List.mem_range.1 hi;omega) y hy
theorem Rz(r:Int):jE (mA r):=by unfold mA jE;split<;>omega
theorem abp(c s r:Int): ∀y,y∈wT c s r→DG y:=by
 unfold wT
 split
 ·rename_i h
  have hb:=xX h
  refine E8 (K:=c.toNat) (fun a ha=>E8 (K:=s.toNat) (fun k hk y hy=> ?_) (Nat.le_refl _)) (Nat.le_refl _)
  unfold KR at hy
  rw[List.mem_singleton.1 hy]
  exact⟨(show jE (a:Int)by unfold jE;omega).I,(show jE (100+(k:Int))by unfold jE;omega).I,(Rz r).I⟩
 ·intro y hy;cases hy
theorem abq(s r:Int): ∀y,y∈pT s r→DG y:=by
 unfold pT
 split
 ·rename_i h
  have hb:=xX h
  refine E8 (K:=s.toNat) (fun a ha=>E8 (K:=s.toNat) (fun k hk y hy=> ?_) (Nat.le_refl _)) (Nat.le_refl _)
  unfold Fb at hy
  split at hy
  ·cases hy
  ·rw[List.mem_singleton.1 hy]
   exact⟨(show jE (100+(a:Int))by unfold jE;omega).I,(show jE (100+(k:Int))by unfold jE;omega).I,(Rz r).I⟩
 ·intro y hy;cases hy
def Cr(l:List UInt8):Int:=([-1,0,1,4,8,9]:List Int).getD (aO (cB l) 6).toNat (aI .int)
def BY(l:List UInt8):Int:=([1,2,3,4,5]:List Int).getD (aO (az (cB l) 6) 5).toNat (aI .int)
def BZ(l:List UInt8):Int:=([-1,0,1,4,9,64,65]:List Int).getD (aO (az (az (cB l) 6) 5) 7).toNat (aI .int)
def kA(l:List UInt8):List iy:=if(l.length:Int).tmod 2=0 then pT (BY l) (BZ l)else wT (Ab (Cr l) 3) (BY l) (BZ l)
theorem UY(l:List UInt8):(∀y,y∈kA l→DG y)∧(kA l).length≤32:=by
 unfold kA
 split
 ·exact⟨abq _ _,Nat.le_trans (YA _ _) (by decide)⟩
 ·exact⟨abp _ _ _,Yz _ _ _⟩
theorem KW{l:List UInt8}{k:Nat}(h:k<l.length):mC (l.take (k+1))=mC (l.take k)+if(l.getD k 0==32)=true then 1 else 0:=by
 rw[bE l k 0 h,kO]
 unfold mC
 rw[List.countP_cons,List.countP_nil,Nat.zero_add]
theorem YP{l:List UInt8}{k:Nat}(h:k<l.length)(hx:((l.getD k 0).toNat:Int)=32):mC (l.take (k+1))=mC (l.take k)+1:=by
 have e:l.getD k 0=32:=by
  have:(l.getD k 0).toNat=(32:UInt8).toNat:=by have h2:(32:UInt8).toNat=32:=rfl;omega
  exact UInt8.toNat_inj.1 this
 rw[KW h,e];rfl
theorem UZ{l:List UInt8}{k:Nat}(h:k<l.length)(hx: ¬((l.getD k 0).toNat:Int)=32):mC (l.take (k+1))=mC (l.take k):=by
 have e:(l.getD k 0==32)=false:=by
  rw[beq_eq_false_iff_ne]
  intro h2
  rw[h2]at hx
  exact hx rfl
 rw[KW h,e];rfl
theorem abr(l:List UInt8)(k:Nat):mC (l.take k)≤k:=by
 have h1:mC (l.take k)≤(l.take k).length:=List.countP_le_length
 have h2:(l.take k).length≤k:=List.length_take_le _ _
 omega
end
end Go.Proofs.YtkkfjbfkjbljiaaGreatDoor.G
namespace Go.Proofs.YtkkfjbfkjbljiaaGreatDoor.G
set_option linter.all false
open Go.RowKit L D Tryz
section
set_option maxRecDepth 100000
theorem Cs(v:Value)(c:bR)(b:List UInt8)(hcb:c.b=b)(hb:b.length≤1048576):dK ty Tryz.prog 69 [(1000, .box [.eF v .u8 b,aR (c.i:Int),aR c.h])] [.a (.ptr 1000 0)] [(1000, .box [.eF v .u8 b,aR ((az c 7).i:Int),aR (az c 7).h])] [aL (([-1,0,1,4,9,64,65]:List Int).getD (aO c 7).toNat (aI .int))]:=by
 refine cu X2 call69 func69 rfl rfl (by decide) ntmps69 (by simp) rfl ?_
 intro zb
 refine av X2 [0] rfl (aa ?_)
 have t1:=(bU v c [-1,0,1,4,9,64,65] b hcb hb (by simp))
 refine aH X2 [] [(800005,⟨true,bA t1⟩),(700005,⟨true, .agg [.ptr 1000 1000]:: .agg []::bB t1⟩)] [2] [] rfl (by(repeat' with_reducible first|exact aB|refine aE ?_ ?_|apply And.intro)<;>first|exact t1|exact fun _=>t1|exact fun _ _=>t1| (intros;omega)|exact rfl|exact aA _ (by decide)|exact⟨rfl,aA _ (by decide)⟩| ((intro h1;first| (intro h2;first| (intro h3;refine And.intro ?_ ?_)|refine And.intro ?_ ?_)|refine And.intro ?_ ?_)<;>first|omega| ((try simp only[aP]at*);(try simp(disch:=omega) only[aM]);omega))| ((try simp only[aP]at*);(simp(disch:=omega) only[aM]);omega)| (refine fun _=> ?_;dsimp only[hyps,bg];omega)| (refine fun _ _=> ?_;dsimp only[hyps,bg];omega)|exact(cj _).1|exact(cj _).2|exact(cG _).1|exact(cG _).2| (simp only[b7,maxLen,lens];omega)| (intros;simp only[nb]at*;omega)) ?_
 rw[show(([-1,0,1,4,9,64,65]:List Int).length:Int)=7 from rfl]
 exact aj (aW rfl ⟨rfl,rfl,rfl,rfl,rfl,⟨⟩⟩)
def Fc(c:bR):bR:=az (az c 999) 6
def l5n(c:bR):Int:=(([0,1,4,8,9,64]:List Int).getD (aO (az c 999) 6).toNat (aI .int))
def E9(c:bR):List Int:=cO (aO c 999) (l5n c)
def V1(c:bR):Bool:=if decide ((0:Int)<((E9 c).length:Int))=true then aO (Fc c) 6==0 else false
def MS(c:bR):bR:=if decide ((0:Int)<((E9 c).length:Int))=true then az (Fc c) 6 else Fc c
def MH(c:bR):bR:=if V1 c then az (az (MS c) ((E9 c).length:Int)) 2 else MS c
def RC(c:bR):List Int:=if V1 c then(E9 c).set (aO (MS c) ((E9 c).length:Int)).toNat (([-1,2]:List Int).getD (aO (az (MS c) ((E9 c).length:Int)) 2).toNat (aI .int))else E9 c
def l5N(c:bR):bR:=az (MH c) 12
def B0(c:bR):List Int:=if aO (MH c) 12==0 then List.replicate 65 0 else RC c
theorem KX(c:bR):(Fc c).b=c.b:=by unfold Fc;rw[aT,aT]
theorem abt(c:bR):(MS c).b=c.b:=by unfold MS;split<;>simp only[aT,KX]
theorem RD(c:bR):(MH c).b=c.b:=by unfold MH;split<;>simp only[aT,abt]
theorem V2(c:bR):(E9 c).length≤64:=by
 exact kK _ _
theorem abu(c:bR):(B0 c).length≤65:=by
 have:=V2 c
 unfold B0 RC
 repeat' split
 all_goals (try simp only[List.length_replicate,List.length_set])
 all_goals omega
theorem Fa(v:Value)(c:bR)(b:List UInt8)(hcb:c.b=b)(hb:b.length≤1048576):dK ty Tryz.prog 48 [(1000, .box [.eF v .u8 b,aR (c.i:Int),aR c.h])] [.a (.ptr 1000 0)] [(1000, .box [.eF v .u8 b,aR ((l5N c).i:Int),aR (l5N c).h]),(23, .arr .int (B0 c))] [.a (.own 23)]:=by
 refine cu X2 call48 func48 rfl rfl (by decide) ntmps48 (by simp) rfl ?_
 intro zb
 have hvl:=V2 c
 refine av X2 [0] rfl (aa ?_)
 have t1:=(aG v c 999 b hcb hb)
 have t2:=(bU v (az c 999) [0,1,4,8,9,64] b (by simp only[aT];exact hcb) hb (by simp))
 have t3:=(gx (aO c 999) (([0,1,4,8,9,64]:List Int).getD (aO (az c 999) (([0,1,4,8,9,64]:List Int).length:Int)).toNat (aI .int)))
 refine aH X2 [(9,23)] [(800005,⟨true,bA t1⟩),(700005,⟨true, .agg [.ptr 1000 1000]:: .agg []::bB t1⟩),(800008,⟨true,bA t2⟩),(700008,⟨true, .agg [.ptr 1000 1000]:: .agg []::bB t2⟩),(9,⟨true,cg t3⟩)] [0,3] [] rfl (by(repeat' with_reducible first|exact aB|refine aE ?_ ?_|apply And.intro);(iterate 3 all_goals try first|exact t1|exact fun _=>t1|exact fun _ _=>t1|exact t2|exact fun _=>t2|exact fun _ _=>t2|exact t3|exact fun _=>t3|exact fun _ _=>t3);all_goals first| (intros;omega)|exact rfl|exact aA _ (by decide)|exact⟨rfl,aA _ (by decide)⟩| ((intro h1;first| (intro h2;first| (intro h3;refine And.intro ?_ ?_)|refine And.intro ?_ ?_)|refine And.intro ?_ ?_)<;>first|omega| ((try simp only[aP]at*);(try simp(disch:=omega) only[aM]);omega))| ((try simp only[aP]at*);(simp(disch:=omega) only[aM]);omega)| (refine fun _=> ?_;dsimp only[hyps,bg];omega)| (refine fun _ _=> ?_;dsimp only[hyps,bg];omega)|exact(cj _).1|exact(cj _).2|exact(cG _).1|exact(cG _).2| (simp only[b7,maxLen,lens];omega)| (intros;simp only[nb]at*;omega)) ?_
 rw[show(([0,1,4,8,9,64]:List Int).length:Int)=6 from rfl]
 rw[show cO (aO c 999) (([0,1,4,8,9,64]:List Int).getD (aO (az c 999) 6).toNat (aI .int))=E9 c from rfl]
 rw[show az (az c 999) 6=Fc c from rfl]
 refine aa (aa ?_)
 by_cases hA:(0:Int)<((E9 c).length:Int)
 ·have t1:=(fF v (Fc c) 6 b (by rw[KX];exact hcb) hb)
  refine zE X2 [] [(800015,⟨true,bA t1⟩),(700015,⟨true, .agg [.ptr 1000 1000]:: .agg []::bB t1⟩),(1100013,⟨true,[]⟩)] [0,3,16] [] rfl (by(repeat' with_reducible first|exact aB|refine aE ?_ ?_|apply And.intro);(iterate 2 all_goals try first|exact t1|exact fun _=>t1|exact fun _ _=>t1|exact(decide_eq_true hA)|exact fun _=>(decide_eq_true hA)|exact fun _ _=>(decide_eq_true hA));all_goals first| (intros;omega)|exact rfl|exact aA _ (by decide)|exact⟨rfl,aA _ (by decide)⟩| ((intro h1;first| (intro h2;first| (intro h3;refine And.intro ?_ ?_)|refine And.intro ?_ ?_)|refine And.intro ?_ ?_)<;>first|omega| ((try simp only[aP]at*);(try simp(disch:=omega) only[aM]);omega))| ((try simp only[aP]at*);(simp(disch:=omega) only[aM]);omega)| (refine fun _=> ?_;dsimp only[hyps,bg];omega)| (refine fun _ _=> ?_;dsimp only[hyps,bg];omega)|exact(cj _).1|exact(cj _).2|exact(cG _).1|exact(cG _).2| (simp only[b7,maxLen,lens];omega)| (intros;simp only[nb]at*;omega)) ?_
  refine ak rfl ?_ ?_<;>intro hb0
  ·try simp only[aP]at hb0
   have hq:=bZ (az (Fc c) 6) (n:=((E9 c).length:Int)) hA
   have Ht:V1 c=true:=by unfold V1;rw[if_pos (decide_eq_true hA)];simpa using hb0
   have dV:MS c=(az (Fc c) 6):=by unfold MS;rw[if_pos (decide_eq_true hA)]
   have hd:MH c=az (az (az (Fc c) 6) ((E9 c).length:Int)) 2:=by unfold MH;rw[if_pos Ht,dV]
   have hw:RC c=(E9 c).set (aO (az (Fc c) 6) ((E9 c).length:Int)).toNat (([-1,2]:List Int).getD (aO (az (az (Fc c) 6) ((E9 c).length:Int)) 2).toNat (aI .int)):=by unfold RC;rw[if_pos Ht,dV]
   have t1:=(aG v (az (Fc c) 6) ((E9 c).length:Int) b (by rw[aT,KX];exact hcb) hb)
   have t2:=(bU v (az (az (Fc c) 6) ((E9 c).length:Int)) [-1,2] b (by rw[aT,aT,KX];exact hcb) hb (by simp))
   refine aH X2 [] [(800021,⟨true,bA t1⟩),(700021,⟨true, .agg [.ptr 1000 1000]:: .agg []::bB t1⟩),(800024,⟨true,bA t2⟩),(700024,⟨true, .agg [.ptr 1000 1000]:: .agg []::bB t2⟩)] [0,3] [] rfl (by(repeat' with_reducible first|exact aB|refine aE ?_ ?_|apply And.intro);(iterate 2 all_goals try first|exact t1|exact fun _=>t1|exact fun _ _=>t1|exact t2|exact fun _=>t2|exact fun _ _=>t2);all_goals first| (intros;omega)|exact rfl|exact aA _ (by decide)|exact⟨rfl,aA _ (by decide)⟩| ((intro h1;first| (intro h2;first| (intro h3;refine And.intro ?_ ?_)|refine And.intro ?_ ?_)|refine And.intro ?_ ?_)<;>first|omega| ((try simp only[aP]at*);(try simp(disch:=omega) only[aM]);omega))| ((try simp only[aP]at*);(simp(disch:=omega) only[aM]);omega)| (refine fun _=> ?_;dsimp only[hyps,bg];omega)| (refine fun _ _=> ?_;dsimp only[hyps,bg];omega)|exact(cj _).1|exact(cj _).2|exact(cG _).1|exact(cG _).2| (simp only[b7,maxLen,lens];omega)| (intros;simp only[nb]at*;omega)) ?_
   rw[show(([-1,2]:List Int).length:Int)=2 from rfl]
   rw[←hd, ←hw]
   refine aa (aa ?_)
   have t1:=(fF v (MH c) 12 b (by rw[RD];exact hcb) hb)
   refine aH X2 [] [(800027,⟨true,bA t1⟩),(700027,⟨true, .agg [.ptr 1000 1000]:: .agg []::bB t1⟩)] [3,27] [] rfl (by(repeat' with_reducible first|exact aB|refine aE ?_ ?_|apply And.intro)<;>first|exact t1|exact fun _=>t1|exact fun _ _=>t1| (intros;omega)|exact rfl|exact aA _ (by decide)|exact⟨rfl,aA _ (by decide)⟩| ((intro h1;first| (intro h2;first| (intro h3;refine And.intro ?_ ?_)|refine And.intro ?_ ?_)|refine And.intro ?_ ?_)<;>first|omega| ((try simp only[aP]at*);(try simp(disch:=omega) only[aM]);omega))| ((try simp only[aP]at*);(simp(disch:=omega) only[aM]);omega)| (refine fun _=> ?_;dsimp only[hyps,bg];omega)| (refine fun _ _=> ?_;dsimp only[hyps,bg];omega)|exact(cj _).1|exact(cj _).2|exact(cG _).1|exact(cG _).2| (simp only[b7,maxLen,lens];omega)| (intros;simp only[nb]at*;omega)) ?_
   refine ak rfl ?_ ?_<;>intro bt
   ·try simp only[aP]at bt
    have hX:B0 c=List.replicate 65 0:=by unfold B0;rw[if_pos (by simpa using bt)]
    refine aN X2 [2] rfl (by and_intros<;>first|exact⟨⟩| (intros;omega)|exact rfl|exact aA _ (by decide)|exact⟨rfl,aA _ (by decide)⟩| ((intro h1;first| (intro h2;first| (intro h3;refine And.intro ?_ ?_)|refine And.intro ?_ ?_)|refine And.intro ?_ ?_)<;>first|omega| ((try simp only[aP]at*);(try simp(disch:=omega) only[aM]);omega))| ((try simp only[aP]at*);(simp(disch:=omega) only[aM]);omega)| (refine fun _=> ?_;dsimp only[hyps,bg];omega)| (refine fun _ _=> ?_;dsimp only[hyps,bg];omega)|exact(cj _).1|exact(cj _).2|exact(cG _).1|exact(cG _).2| (simp only[b7,maxLen,lens];omega)| (intros;simp only[nb]at*;omega)) ?_
    exact bp 28 23 rfl (aj (aW rfl ⟨rfl,rfl,rfl,rfl,by rw[hX];rfl,⟨⟩⟩))
   ·try simp only[aP]at bt
    have hX:B0 c=RC c:=by unfold B0;rw[if_neg (by simpa using bt)]
    exact ay (av X2 [2] rfl (aj (aW rfl ⟨rfl,rfl,rfl,rfl,by rw[hX],⟨⟩⟩)))
  ·try simp only[aP]at hb0
   have Ht:V1 c=false:=by unfold V1;rw[if_pos (decide_eq_true hA)];simpa using hb0
   have dV:MS c=(az (Fc c) 6):=by unfold MS;rw[if_pos (decide_eq_true hA)]
   have hd:MH c=(az (Fc c) 6):=by unfold MH;rw[if_neg (by rw[Ht];decide),dV]
   have hw:RC c=E9 c:=by unfold RC;rw[if_neg (by rw[Ht];decide)]
   rw[←hd, ←hw]
   refine ay (aa (aa ?_))
   have t1:=(fF v (MH c) 12 b (by rw[RD];exact hcb) hb)
   refine aH X2 [] [(800027,⟨true,bA t1⟩),(700027,⟨true, .agg [.ptr 1000 1000]:: .agg []::bB t1⟩)] [3,27] [] rfl (by(repeat' with_reducible first|exact aB|refine aE ?_ ?_|apply And.intro)<;>first|exact t1|exact fun _=>t1|exact fun _ _=>t1| (intros;omega)|exact rfl|exact aA _ (by decide)|exact⟨rfl,aA _ (by decide)⟩| ((intro h1;first| (intro h2;first| (intro h3;refine And.intro ?_ ?_)|refine And.intro ?_ ?_)|refine And.intro ?_ ?_)<;>first|omega| ((try simp only[aP]at*);(try simp(disch:=omega) only[aM]);omega))| ((try simp only[aP]at*);(simp(disch:=omega) only[aM]);omega)| (refine fun _=> ?_;dsimp only[hyps,bg];omega)| (refine fun _ _=> ?_;dsimp only[hyps,bg];omega)|exact(cj _).1|exact(cj _).2|exact(cG _).1|exact(cG _).2| (simp only[b7,maxLen,lens];omega)| (intros;simp only[nb]at*;omega)) ?_
   refine ak rfl ?_ ?_<;>intro bt
   ·try simp only[aP]at bt
    have hX:B0 c=List.replicate 65 0:=by unfold B0;rw[if_pos (by simpa using bt)]
    refine aN X2 [2] rfl (by and_intros<;>first|exact⟨⟩| (intros;omega)|exact rfl|exact aA _ (by decide)|exact⟨rfl,aA _ (by decide)⟩| ((intro h1;first| (intro h2;first| (intro h3;refine And.intro ?_ ?_)|refine And.intro ?_ ?_)|refine And.intro ?_ ?_)<;>first|omega| ((try simp only[aP]at*);(try simp(disch:=omega) only[aM]);omega))| ((try simp only[aP]at*);(simp(disch:=omega) only[aM]);omega)| (refine fun _=> ?_;dsimp only[hyps,bg];omega)| (refine fun _ _=> ?_;dsimp only[hyps,bg];omega)|exact(cj _).1|exact(cj _).2|exact(cG _).1|exact(cG _).2| (simp only[b7,maxLen,lens];omega)| (intros;simp only[nb]at*;omega)) ?_
    exact bp 28 23 rfl (aj (aW rfl ⟨rfl,rfl,rfl,rfl,by rw[hX];rfl,⟨⟩⟩))
   ·try simp only[aP]at bt
    have hX:B0 c=RC c:=by unfold B0;rw[if_neg (by simpa using bt)]
    exact ay (av X2 [2] rfl (aj (aW rfl ⟨rfl,rfl,rfl,rfl,by rw[hX],⟨⟩⟩)))
 ·refine zE X2 [] [(1100013,⟨false,[]⟩)] [0,3,16] [] rfl (by(repeat' with_reducible first|exact aB|refine aE ?_ ?_|apply And.intro)<;>first|exact(decide_eq_false hA)|exact fun _=>(decide_eq_false hA)|exact fun _ _=>(decide_eq_false hA)| (intros;omega)|exact rfl|exact aA _ (by decide)|exact⟨rfl,aA _ (by decide)⟩| ((intro h1;first| (intro h2;first| (intro h3;refine And.intro ?_ ?_)|refine And.intro ?_ ?_)|refine And.intro ?_ ?_)<;>first|omega| ((try simp only[aP]at*);(try simp(disch:=omega) only[aM]);omega))| ((try simp only[aP]at*);(simp(disch:=omega) only[aM]);omega)| (refine fun _=> ?_;dsimp only[hyps,bg];omega)| (refine fun _ _=> ?_;dsimp only[hyps,bg];omega)|exact(cj _).1|exact(cj _).2|exact(cG _).1|exact(cG _).2| (simp only[b7,maxLen,lens];omega)| (intros;simp only[nb]at*;omega)) ?_
  refine ak rfl ?_ ?_<;>intro hb0
  ·try simp only[aP]at hb0
   cases hb0
  ·try simp only[aP]at hb0
   have hn:=decide_eq_false hA
   have Ht:V1 c=false:=by unfold V1;rw[if_neg (by rw[hn];decide)]
   have dV:MS c=Fc c:=by unfold MS;rw[if_neg (by rw[hn];decide)]
   have hd:MH c=Fc c:=by unfold MH;rw[if_neg (by rw[Ht];decide),dV]
   have hw:RC c=E9 c:=by unfold RC;rw[if_neg (by rw[Ht];decide)]
   rw[←hd, ←hw]
   refine ay (aa (aa ?_))
   have t1:=(fF v (MH c) 12 b (by rw[RD];exact hcb) hb)
   refine aH X2 [] [(800027,⟨true,bA t1⟩),(700027,⟨true, .agg [.ptr 1000 1000]:: .agg []::bB t1⟩)] [3,27] [] rfl (by(repeat' with_reducible first|exact aB|refine aE ?_ ?_|apply And.intro)<;>first|exact t1|exact fun _=>t1|exact fun _ _=>t1| (intros;omega)|exact rfl|exact aA _ (by decide)|exact⟨rfl,aA _ (by decide)⟩| ((intro h1;first| (intro h2;first| (intro h3;refine And.intro ?_ ?_)|refine And.intro ?_ ?_)|refine And.intro ?_ ?_)<;>first|omega| ((try simp only[aP]at*);(try simp(disch:=omega) only[aM]);omega))| ((try simp only[aP]at*);(simp(disch:=omega) only[aM]);omega)| (refine fun _=> ?_;dsimp only[hyps,bg];omega)| (refine fun _ _=> ?_;dsimp only[hyps,bg];omega)|exact(cj _).1|exact(cj _).2|exact(cG _).1|exact(cG _).2| (simp only[b7,maxLen,lens];omega)| (intros;simp only[nb]at*;omega)) ?_
   refine ak rfl ?_ ?_<;>intro bt
   ·try simp only[aP]at bt
    have hX:B0 c=List.replicate 65 0:=by unfold B0;rw[if_pos (by simpa using bt)]
    refine aN X2 [2] rfl (by and_intros<;>first|exact⟨⟩| (intros;omega)|exact rfl|exact aA _ (by decide)|exact⟨rfl,aA _ (by decide)⟩| ((intro h1;first| (intro h2;first| (intro h3;refine And.intro ?_ ?_)|refine And.intro ?_ ?_)|refine And.intro ?_ ?_)<;>first|omega| ((try simp only[aP]at*);(try simp(disch:=omega) only[aM]);omega))| ((try simp only[aP]at*);(simp(disch:=omega) only[aM]);omega)| (refine fun _=> ?_;dsimp only[hyps,bg];omega)| (refine fun _ _=> ?_;dsimp only[hyps,bg];omega)|exact(cj _).1|exact(cj _).2|exact(cG _).1|exact(cG _).2| (simp only[b7,maxLen,lens];omega)| (intros;simp only[nb]at*;omega)) ?_
    exact bp 28 23 rfl (aj (aW rfl ⟨rfl,rfl,rfl,rfl,by rw[hX];rfl,⟨⟩⟩))
   ·try simp only[aP]at bt
    have hX:B0 c=RC c:=by unfold B0;rw[if_neg (by simpa using bt)]
    exact ay (av X2 [2] rfl (aj (aW rfl ⟨rfl,rfl,rfl,rfl,by rw[hX],⟨⟩⟩)))
theorem fG(l:List UInt8)(hl:l.length≤1048576):So 28 [.a (.sl .u8 l)] [.a (.sl .int (B0 (cB l)))]:=by
 refine cX X2 call28 func28 rfl rfl (by decide) ntmps28 (by simp) ?_
 intro zb
 refine uw 0 (fun v=>rfl) (fun v=>(av X2 [0] rfl (aa ?_)))
 have t1:=(gB v l)
 refine aH X2 [] [(800005,⟨true,bA t1⟩),(700005,⟨true, .agg []:: .agg [.ptr 907 907]::bB t1⟩)] [3] [] rfl (by(repeat' with_reducible first|exact aB|refine aE ?_ ?_|apply And.intro)<;>first|exact t1|exact fun _=>t1|exact fun _ _=>t1| (intros;omega)|exact rfl|exact aA _ (by decide)|exact⟨rfl,aA _ (by decide)⟩| ((intro h1;first| (intro h2;first| (intro h3;refine And.intro ?_ ?_)|refine And.intro ?_ ?_)|refine And.intro ?_ ?_)<;>first|omega| ((try simp only[aP]at*);(try simp(disch:=omega) only[aM]);omega))| ((try simp only[aP]at*);(simp(disch:=omega) only[aM]);omega)| (refine fun _=> ?_;dsimp only[hyps,bg];omega)| (refine fun _ _=> ?_;dsimp only[hyps,bg];omega)|exact(cj _).1|exact(cj _).2|exact(cG _).1|exact(cG _).2| (simp only[b7,maxLen,lens];omega)| (intros;simp only[nb]at*;omega)) ?_
 refine aa ?_
 have t1:=(Fa v (cB l) l rfl hl)
 refine aH X2 [] [(800007,⟨true,bA t1⟩),(700007,⟨true, .agg [.ptr 1000 907]:: .agg [.ptr 23 123]::bB t1⟩)] [2] [] rfl (by(repeat' with_reducible first|exact aB|refine aE ?_ ?_|apply And.intro)<;>first|exact t1|exact fun _=>t1|exact fun _ _=>t1| (intros;omega)|exact rfl|exact aA _ (by decide)|exact⟨rfl,aA _ (by decide)⟩| ((intro h1;first| (intro h2;first| (intro h3;refine And.intro ?_ ?_)|refine And.intro ?_ ?_)|refine And.intro ?_ ?_)<;>first|omega| ((try simp only[aP]at*);(try simp(disch:=omega) only[aM]);omega))| ((try simp only[aP]at*);(simp(disch:=omega) only[aM]);omega)| (refine fun _=> ?_;dsimp only[hyps,bg];omega)| (refine fun _ _=> ?_;dsimp only[hyps,bg];omega)|exact(cj _).1|exact(cj _).2|exact(cG _).1|exact(cG _).2| (simp only[b7,maxLen,lens];omega)| (intros;simp only[nb]at*;omega)) ?_
 exact aj (ah rfl ⟨rfl,⟨⟩⟩)
theorem gM(l:List UInt8)(hl:l.length≤1048576):So 5 [.a (.sl .u8 l)] [.a (.sl .u8 (n8 (az (cB l) 6) (aO (cB l) 6).toNat))]:=by
 refine cX X2 call5 func5 rfl rfl (by decide) ntmps5 (by simp) ?_
 intro zb
 refine uw 0 (fun v=>rfl) (fun v=>(av X2 [0] rfl (aa ?_)))
 have t1:=(gB v l)
 refine aH X2 [] [(800005,⟨true,bA t1⟩),(700005,⟨true, .agg []:: .agg [.ptr 907 907]::bB t1⟩)] [3] [] rfl (by(repeat' with_reducible first|exact aB|refine aE ?_ ?_|apply And.intro)<;>first|exact t1|exact fun _=>t1|exact fun _ _=>t1| (intros;omega)|exact rfl|exact aA _ (by decide)|exact⟨rfl,aA _ (by decide)⟩| ((intro h1;first| (intro h2;first| (intro h3;refine And.intro ?_ ?_)|refine And.intro ?_ ?_)|refine And.intro ?_ ?_)<;>first|omega| ((try simp only[aP]at*);(try simp(disch:=omega) only[aM]);omega))| ((try simp only[aP]at*);(simp(disch:=omega) only[aM]);omega)| (refine fun _=> ?_;dsimp only[hyps,bg];omega)| (refine fun _ _=> ?_;dsimp only[hyps,bg];omega)|exact(cj _).1|exact(cj _).2|exact(cG _).1|exact(cG _).2| (simp only[b7,maxLen,lens];omega)| (intros;simp only[nb]at*;omega)) ?_
 refine aa ?_
 have t1:=(aG v (cB l) 6 l rfl hl)
 have t2:=(ck v (az (cB l) 6) (aO (cB l) 6) l (by rw[aT];rfl) hl (by have:=bZ (cB l) (n:=6) (by decide);omega))
 refine aH X2 [] [(800008,⟨true,bA t1⟩),(700008,⟨true, .agg [.ptr 1000 907]:: .agg []::bB t1⟩),(800009,⟨true,bA t2⟩),(700009,⟨true, .agg [.ptr 1000 907]:: .agg [.ptr 11 111]::bB t2⟩)] [2] [] rfl (by(repeat' with_reducible first|exact aB|refine aE ?_ ?_|apply And.intro);(iterate 2 all_goals try first|exact t1|exact fun _=>t1|exact fun _ _=>t1|exact t2|exact fun _=>t2|exact fun _ _=>t2);all_goals first| (intros;omega)|exact rfl|exact aA _ (by decide)|exact⟨rfl,aA _ (by decide)⟩| ((intro h1;first| (intro h2;first| (intro h3;refine And.intro ?_ ?_)|refine And.intro ?_ ?_)|refine And.intro ?_ ?_)<;>first|omega| ((try simp only[aP]at*);(try simp(disch:=omega) only[aM]);omega))| ((try simp only[aP]at*);(simp(disch:=omega) only[aM]);omega)| (refine fun _=> ?_;dsimp only[hyps,bg];omega)| (refine fun _ _=> ?_;dsimp only[hyps,bg];omega)|exact(cj _).1|exact(cj _).2|exact(cG _).1|exact(cG _).2| (simp only[b7,maxLen,lens];omega)| (intros;simp only[nb]at*;omega)) ?_
 exact aj (ah rfl ⟨rfl,⟨⟩⟩)
theorem mK(l:List UInt8)(hl:l.length≤1048576):So 49 [.a (.sl .u8 l)] [aL (Cr l),aL (BY l),aL (BZ l)]:=by
 refine cX X2 call49 func49 rfl rfl (by decide) ntmps49 (by simp) ?_
 intro zb
 refine uw 0 (fun v=>rfl) (fun v=>(av X2 [0] rfl (aa ?_)))
 have t1:=(gB v l)
 refine aH X2 [] [(800009,⟨true,bA t1⟩),(700009,⟨true, .agg []:: .agg [.ptr 907 907]::bB t1⟩)] [5] [] rfl (by(repeat' with_reducible first|exact aB|refine aE ?_ ?_|apply And.intro)<;>first|exact t1|exact fun _=>t1|exact fun _ _=>t1| (intros;omega)|exact rfl|exact aA _ (by decide)|exact⟨rfl,aA _ (by decide)⟩| ((intro h1;first| (intro h2;first| (intro h3;refine And.intro ?_ ?_)|refine And.intro ?_ ?_)|refine And.intro ?_ ?_)<;>first|omega| ((try simp only[aP]at*);(try simp(disch:=omega) only[aM]);omega))| ((try simp only[aP]at*);(simp(disch:=omega) only[aM]);omega)| (refine fun _=> ?_;dsimp only[hyps,bg];omega)| (refine fun _ _=> ?_;dsimp only[hyps,bg];omega)|exact(cj _).1|exact(cj _).2|exact(cG _).1|exact(cG _).2| (simp only[b7,maxLen,lens];omega)| (intros;simp only[nb]at*;omega)) ?_
 refine aa ?_
 have t1:=(bU v (cB l) [-1,0,1,4,8,9] l (by first|rfl| (simp only[aT];rfl)) hl (by decide))
 refine aH X2 [] [(800012,⟨true,bA t1⟩),(700012,⟨true, .agg [.ptr 1000 907]:: .agg []::bB t1⟩)] [5,6] [] rfl (by(repeat' with_reducible first|exact aB|refine aE ?_ ?_|apply And.intro)<;>first|exact t1|exact fun _=>t1|exact fun _ _=>t1| (intros;omega)|exact rfl|exact aA _ (by decide)|exact⟨rfl,aA _ (by decide)⟩| ((intro h1;first| (intro h2;first| (intro h3;refine And.intro ?_ ?_)|refine And.intro ?_ ?_)|refine And.intro ?_ ?_)<;>first|omega| ((try simp only[aP]at*);(try simp(disch:=omega) only[aM]);omega))| ((try simp only[aP]at*);(simp(disch:=omega) only[aM]);omega)| (refine fun _=> ?_;dsimp only[hyps,bg];omega)| (refine fun _ _=> ?_;dsimp only[hyps,bg];omega)|exact(cj _).1|exact(cj _).2|exact(cG _).1|exact(cG _).2| (simp only[b7,maxLen,lens];omega)| (intros;simp only[nb]at*;omega)) ?_
 rw[show(([-1,0,1,4,8,9]:List Int).length:Int)=6 from rfl]
 refine aa ?_
 have t1:=(bU v (az (cB l) 6) [1,2,3,4,5] l (by first|rfl| (simp only[aT];rfl)) hl (by decide))
 refine aH X2 [] [(800015,⟨true,bA t1⟩),(700015,⟨true, .agg [.ptr 1000 907]:: .agg []::bB t1⟩)] [5,6,7] [] rfl (by(repeat' with_reducible first|exact aB|refine aE ?_ ?_|apply And.intro)<;>first|exact t1|exact fun _=>t1|exact fun _ _=>t1| (intros;omega)|exact rfl|exact aA _ (by decide)|exact⟨rfl,aA _ (by decide)⟩| ((intro h1;first| (intro h2;first| (intro h3;refine And.intro ?_ ?_)|refine And.intro ?_ ?_)|refine And.intro ?_ ?_)<;>first|omega| ((try simp only[aP]at*);(try simp(disch:=omega) only[aM]);omega))| ((try simp only[aP]at*);(simp(disch:=omega) only[aM]);omega)| (refine fun _=> ?_;dsimp only[hyps,bg];omega)| (refine fun _ _=> ?_;dsimp only[hyps,bg];omega)|exact(cj _).1|exact(cj _).2|exact(cG _).1|exact(cG _).2| (simp only[b7,maxLen,lens];omega)| (intros;simp only[nb]at*;omega)) ?_
 rw[show(([1,2,3,4,5]:List Int).length:Int)=5 from rfl]
 refine aa ?_
 have t1:=(Cs v (az (az (cB l) 6) 5) l (by simp only[aT];rfl) hl)
 refine aH X2 [] [(800019,⟨true,bA t1⟩),(700019,⟨true, .agg [.ptr 1000 907]:: .agg []::bB t1⟩)] [2,3,4] [] rfl (by(repeat' with_reducible first|exact aB|refine aE ?_ ?_|apply And.intro)<;>first|exact t1|exact fun _=>t1|exact fun _ _=>t1| (intros;omega)|exact rfl|exact aA _ (by decide)|exact⟨rfl,aA _ (by decide)⟩| ((intro h1;first| (intro h2;first| (intro h3;refine And.intro ?_ ?_)|refine And.intro ?_ ?_)|refine And.intro ?_ ?_)<;>first|omega| ((try simp only[aP]at*);(try simp(disch:=omega) only[aM]);omega))| ((try simp only[aP]at*);(simp(disch:=omega) only[aM]);omega)| (refine fun _=> ?_;dsimp only[hyps,bg];omega)| (refine fun _ _=> ?_;dsimp only[hyps,bg];omega)|exact(cj _).1|exact(cj _).2|exact(cG _).1|exact(cG _).2| (simp only[b7,maxLen,lens];omega)| (intros;simp only[nb]at*;omega)) ?_
 exact aj (ah rfl ⟨rfl,rfl,rfl,⟨⟩⟩)
theorem mD(l:List UInt8)(hl:l.length≤1048576):So 29 [.a (.sl .u8 l)] [.a (.sl .iy (kA l))]:=by
 refine cX X2 call29 func29 rfl rfl (by decide) ntmps29 (by simp) ?_
 intro zb
 refine av X2 [0] rfl (aa ?_)
 have t1:=(mK l hl)
 refine aH X2 [] [(8,⟨false,cg t1⟩)] [0,3,4,5] [] rfl (by(repeat' with_reducible first|exact aB|refine aE ?_ ?_|apply And.intro)<;>first|exact t1|exact fun _=>t1|exact fun _ _=>t1| (intros;omega)|exact rfl|exact aA _ (by decide)|exact⟨rfl,aA _ (by decide)⟩| ((intro h1;first| (intro h2;first| (intro h3;refine And.intro ?_ ?_)|refine And.intro ?_ ?_)|refine And.intro ?_ ?_)<;>first|omega| ((try simp only[aP]at*);(try simp(disch:=omega) only[aM]);omega))| ((try simp only[aP]at*);(simp(disch:=omega) only[aM]);omega)| (refine fun _=> ?_;dsimp only[hyps,bg];omega)| (refine fun _ _=> ?_;dsimp only[hyps,bg];omega)|exact(cj _).1|exact(cj _).2|exact(cG _).1|exact(cG _).2| (simp only[b7,maxLen,lens];omega)| (intros;simp only[nb]at*;omega)) ?_
 refine aa (aN X2 [3,4,5,15] rfl (by and_intros<;>first|exact⟨⟩| (intros;omega)|exact rfl|exact aA _ (by decide)|exact⟨rfl,aA _ (by decide)⟩| ((intro h1;first| (intro h2;first| (intro h3;refine And.intro ?_ ?_)|refine And.intro ?_ ?_)|refine And.intro ?_ ?_)<;>first|omega| ((try simp only[aP]at*);(try simp(disch:=omega) only[aM]);omega))| ((try simp only[aP]at*);(simp(disch:=omega) only[aM]);omega)| (refine fun _=> ?_;dsimp only[hyps,bg];omega)| (refine fun _ _=> ?_;dsimp only[hyps,bg];omega)|exact(cj _).1|exact(cj _).2|exact(cG _).1|exact(cG _).2| (simp only[b7,maxLen,lens];omega)| (intros;simp only[nb]at*;omega)) ?_)
 refine ak rfl ?_ ?_<;>intro hb0
 ·try simp only[aP]at hb0
  refine aS X2 [] [(18,⟨true,[.a (.sl .iy (pT (BY l) (BZ l)))]⟩)] [2] [] rfl (by(repeat' with_reducible first|exact aB|refine aE ?_ ?_|apply And.intro)<;>first|exact(fX (BY l) (BZ l))|exact fun _=>(fX (BY l) (BZ l))|exact fun _ _=>(fX (BY l) (BZ l))| (intros;omega)|exact rfl|exact aA _ (by decide)|exact⟨rfl,aA _ (by decide)⟩| ((intro h1;first| (intro h2;first| (intro h3;refine And.intro ?_ ?_)|refine And.intro ?_ ?_)|refine And.intro ?_ ?_)<;>first|omega| ((try simp only[aP]at*);(try simp(disch:=omega) only[aM]);omega))| ((try simp only[aP]at*);(simp(disch:=omega) only[aM]);omega)| (refine fun _=> ?_;dsimp only[hyps,bg];omega)| (refine fun _ _=> ?_;dsimp only[hyps,bg];omega)|exact(cj _).1|exact(cj _).2|exact(cG _).1|exact(cG _).2| (simp only[b7,maxLen,lens];omega)| (intros;simp only[nb]at*;omega)) ?_
  exact aj (ah rfl ⟨by unfold kA;rw[if_pos (by simpa using hb0)],⟨⟩⟩)
 ·try simp only[aP]at hb0
  refine ay (aS X2 [] [(20,⟨false,[aL (Ab (Cr l) 3)]⟩),(23,⟨true,[.a (.sl .iy (wT (Ab (Cr l) 3) (BY l) (BZ l)))]⟩)] [2] [] rfl (by(repeat' with_reducible first|exact aB|refine aE ?_ ?_|apply And.intro);(iterate 2 all_goals try first|exact(uq (Cr l) 3)|exact fun _=>(uq (Cr l) 3)|exact fun _ _=>(uq (Cr l) 3)|exact(gL (Ab (Cr l) 3) (BY l) (BZ l))|exact fun _=>(gL (Ab (Cr l) 3) (BY l) (BZ l))|exact fun _ _=>(gL (Ab (Cr l) 3) (BY l) (BZ l)));all_goals first| (intros;omega)|exact rfl|exact aA _ (by decide)|exact⟨rfl,aA _ (by decide)⟩| ((intro h1;first| (intro h2;first| (intro h3;refine And.intro ?_ ?_)|refine And.intro ?_ ?_)|refine And.intro ?_ ?_)<;>first|omega| ((try simp only[aP]at*);(try simp(disch:=omega) only[aM]);omega))| ((try simp only[aP]at*);(simp(disch:=omega) only[aM]);omega)| (refine fun _=> ?_;dsimp only[hyps,bg];omega)| (refine fun _ _=> ?_;dsimp only[hyps,bg];omega)|exact(cj _).1|exact(cj _).2|exact(cG _).1|exact(cG _).2| (simp only[b7,maxLen,lens];omega)| (intros;simp only[nb]at*;omega)) ?_)
  exact aj (ah rfl ⟨by unfold kA;rw[if_neg (by simpa using hb0)],⟨⟩⟩)
theorem ff(l:List UInt8)(hl:l.length≤1048576):So 30 [.a (.sl .u8 l)] [.agg (dz (ku (cB l)))]:=by
 refine cX X2 call30 func30 rfl rfl (by decide) ntmps30 (by simp) ?_
 intro zb
 refine uw 0 (fun v=>rfl) (fun v=>(av X2 [0,2] rfl (aa ?_)))
 have t1:=(gB v l)
 refine aH X2 [] [(800005,⟨true,bA t1⟩),(700005,⟨true, .agg []:: .agg [.ptr 907 907]::bB t1⟩)] [2,3] [] rfl (by(repeat' with_reducible first|exact aB|refine aE ?_ ?_|apply And.intro)<;>first|exact t1|exact fun _=>t1|exact fun _ _=>t1| (intros;omega)|exact rfl|exact aA _ (by decide)|exact⟨rfl,aA _ (by decide)⟩| ((intro h1;first| (intro h2;first| (intro h3;refine And.intro ?_ ?_)|refine And.intro ?_ ?_)|refine And.intro ?_ ?_)<;>first|omega| ((try simp only[aP]at*);(try simp(disch:=omega) only[aM]);omega))| ((try simp only[aP]at*);(simp(disch:=omega) only[aM]);omega)| (refine fun _=> ?_;dsimp only[hyps,bg];omega)| (refine fun _ _=> ?_;dsimp only[hyps,bg];omega)|exact(cj _).1|exact(cj _).2|exact(cG _).1|exact(cG _).2| (simp only[b7,maxLen,lens];omega)| (intros;simp only[nb]at*;omega)) ?_
 refine aa ?_
 have t1:=(tC v (cB l) l rfl hl)
 refine aH X2 [] [(800007,⟨true,bA t1⟩),(700007,⟨true, .agg [.ptr 1000 907]:: .agg [.ptr 61 161]::bB t1⟩)] [2] [] rfl (by(repeat' with_reducible first|exact aB|refine aE ?_ ?_|apply And.intro)<;>first|exact t1|exact fun _=>t1|exact fun _ _=>t1| (intros;omega)|exact rfl|exact aA _ (by decide)|exact⟨rfl,aA _ (by decide)⟩| ((intro h1;first| (intro h2;first| (intro h3;refine And.intro ?_ ?_)|refine And.intro ?_ ?_)|refine And.intro ?_ ?_)<;>first|omega| ((try simp only[aP]at*);(try simp(disch:=omega) only[aM]);omega))| ((try simp only[aP]at*);(simp(disch:=omega) only[aM]);omega)| (refine fun _=> ?_;dsimp only[hyps,bg];omega)| (refine fun _ _=> ?_;dsimp only[hyps,bg];omega)|exact(cj _).1|exact(cj _).2|exact(cG _).1|exact(cG _).2| (simp only[b7,maxLen,lens];omega)| (intros;simp only[nb]at*;omega)) ?_
 exact aj (ah rfl ⟨rfl,rfl,⟨⟩⟩)
theorem fH(l:List UInt8)(hl:l.length≤1048576):So 31 [.a (.sl .u8 l)] [.agg (cH (gR (cB l)))]:=by
 refine cX X2 call31 func31 rfl rfl (by decide) ntmps31 (by simp) ?_
 intro zb
 refine uw 0 (fun v=>rfl) (fun v=>(av X2 [0,2] rfl (aa ?_)))
 have t1:=(gB v l)
 refine aH X2 [] [(800005,⟨true,bA t1⟩),(700005,⟨true, .agg []:: .agg [.ptr 907 907]::bB t1⟩)] [2,3] [] rfl (by(repeat' with_reducible first|exact aB|refine aE ?_ ?_|apply And.intro)<;>first|exact t1|exact fun _=>t1|exact fun _ _=>t1| (intros;omega)|exact rfl|exact aA _ (by decide)|exact⟨rfl,aA _ (by decide)⟩| ((intro h1;first| (intro h2;first| (intro h3;refine And.intro ?_ ?_)|refine And.intro ?_ ?_)|refine And.intro ?_ ?_)<;>first|omega| ((try simp only[aP]at*);(try simp(disch:=omega) only[aM]);omega))| ((try simp only[aP]at*);(simp(disch:=omega) only[aM]);omega)| (refine fun _=> ?_;dsimp only[hyps,bg];omega)| (refine fun _ _=> ?_;dsimp only[hyps,bg];omega)|exact(cj _).1|exact(cj _).2|exact(cG _).1|exact(cG _).2| (simp only[b7,maxLen,lens];omega)| (intros;simp only[nb]at*;omega)) ?_
 refine aa ?_
 have t1:=(tD v (cB l) l rfl hl)
 refine aH X2 [] [(800007,⟨true,bA t1⟩),(700007,⟨true, .agg [.ptr 1000 907]:: .agg [.ptr 23 123]::bB t1⟩)] [2] [] rfl (by(repeat' with_reducible first|exact aB|refine aE ?_ ?_|apply And.intro)<;>first|exact t1|exact fun _=>t1|exact fun _ _=>t1| (intros;omega)|exact rfl|exact aA _ (by decide)|exact⟨rfl,aA _ (by decide)⟩| ((intro h1;first| (intro h2;first| (intro h3;refine And.intro ?_ ?_)|refine And.intro ?_ ?_)|refine And.intro ?_ ?_)<;>first|omega| ((try simp only[aP]at*);(try simp(disch:=omega) only[aM]);omega))| ((try simp only[aP]at*);(simp(disch:=omega) only[aM]);omega)| (refine fun _=> ?_;dsimp only[hyps,bg];omega)| (refine fun _ _=> ?_;dsimp only[hyps,bg];omega)|exact(cj _).1|exact(cj _).2|exact(cG _).1|exact(cG _).2| (simp only[b7,maxLen,lens];omega)| (intros;simp only[nb]at*;omega)) ?_
 exact aj (ah rfl ⟨rfl,rfl,rfl,rfl,rfl,⟨⟩⟩)
theorem fI(l:List UInt8)(hl:l.length≤1048576):So 32 [.a (.sl .u8 l)] [.agg (cF (fE (cB l)))]:=by
 refine cX X2 call32 func32 rfl rfl (by decide) ntmps32 (by simp) ?_
 intro zb
 refine uw 0 (fun v=>rfl) (fun v=>(av X2 [0,2] rfl (aa ?_)))
 have t1:=(gB v l)
 refine aH X2 [] [(800005,⟨true,bA t1⟩),(700005,⟨true, .agg []:: .agg [.ptr 907 907]::bB t1⟩)] [2,3] [] rfl (by(repeat' with_reducible first|exact aB|refine aE ?_ ?_|apply And.intro)<;>first|exact t1|exact fun _=>t1|exact fun _ _=>t1| (intros;omega)|exact rfl|exact aA _ (by decide)|exact⟨rfl,aA _ (by decide)⟩| ((intro h1;first| (intro h2;first| (intro h3;refine And.intro ?_ ?_)|refine And.intro ?_ ?_)|refine And.intro ?_ ?_)<;>first|omega| ((try simp only[aP]at*);(try simp(disch:=omega) only[aM]);omega))| ((try simp only[aP]at*);(simp(disch:=omega) only[aM]);omega)| (refine fun _=> ?_;dsimp only[hyps,bg];omega)| (refine fun _ _=> ?_;dsimp only[hyps,bg];omega)|exact(cj _).1|exact(cj _).2|exact(cG _).1|exact(cG _).2| (simp only[b7,maxLen,lens];omega)| (intros;simp only[nb]at*;omega)) ?_
 refine aa ?_
 have t1:=(tE v (cB l) l rfl hl)
 refine aH X2 [] [(800007,⟨true,bA t1⟩),(700007,⟨true, .agg [.ptr 1000 907]:: .agg [.ptr 24 124, .ptr 26 126]::bB t1⟩)] [2] [] rfl (by(repeat' with_reducible first|exact aB|refine aE ?_ ?_|apply And.intro)<;>first|exact t1|exact fun _=>t1|exact fun _ _=>t1| (intros;omega)|exact rfl|exact aA _ (by decide)|exact⟨rfl,aA _ (by decide)⟩| ((intro h1;first| (intro h2;first| (intro h3;refine And.intro ?_ ?_)|refine And.intro ?_ ?_)|refine And.intro ?_ ?_)<;>first|omega| ((try simp only[aP]at*);(try simp(disch:=omega) only[aM]);omega))| ((try simp only[aP]at*);(simp(disch:=omega) only[aM]);omega)| (refine fun _=> ?_;dsimp only[hyps,bg];omega)| (refine fun _ _=> ?_;dsimp only[hyps,bg];omega)|exact(cj _).1|exact(cj _).2|exact(cG _).1|exact(cG _).2| (simp only[b7,maxLen,lens];omega)| (intros;simp only[nb]at*;omega)) ?_
 exact aj (ah rfl ⟨rfl,rfl,rfl,rfl,rfl,rfl,rfl,rfl,⟨⟩⟩)
theorem fY(l:List UInt8)(hl:l.length≤1048576):So 33 [.a (.sl .u8 l)] [.agg (bX (xS (cB l) 5))]:=by
 refine cX X2 call33 func33 rfl rfl (by decide) ntmps33 (by simp) ?_
 intro zb
 refine uw 0 (fun v=>rfl) (fun v=>(av X2 [0,2] rfl (aa ?_)))
 have t1:=(gB v l)
 refine aH X2 [] [(800005,⟨true,bA t1⟩),(700005,⟨true, .agg []:: .agg [.ptr 907 907]::bB t1⟩)] [2,3] [] rfl (by(repeat' with_reducible first|exact aB|refine aE ?_ ?_|apply And.intro)<;>first|exact t1|exact fun _=>t1|exact fun _ _=>t1| (intros;omega)|exact rfl|exact aA _ (by decide)|exact⟨rfl,aA _ (by decide)⟩| ((intro h1;first| (intro h2;first| (intro h3;refine And.intro ?_ ?_)|refine And.intro ?_ ?_)|refine And.intro ?_ ?_)<;>first|omega| ((try simp only[aP]at*);(try simp(disch:=omega) only[aM]);omega))| ((try simp only[aP]at*);(simp(disch:=omega) only[aM]);omega)| (refine fun _=> ?_;dsimp only[hyps,bg];omega)| (refine fun _ _=> ?_;dsimp only[hyps,bg];omega)|exact(cj _).1|exact(cj _).2|exact(cG _).1|exact(cG _).2| (simp only[b7,maxLen,lens];omega)| (intros;simp only[nb]at*;omega)) ?_
 refine aa ?_
 have t1:=(Cp v (cB l) 5 l rfl hl (by decide))
 refine aH X2 [] [(800007,⟨true,bA t1⟩),(700007,⟨true, .agg [.ptr 1000 907]:: .agg [.ptr 61 61, .ptr 62 62, .ptr 64 64, .ptr 68 68]::bB t1⟩)] [2] [] rfl (by(repeat' with_reducible first|exact aB|refine aE ?_ ?_|apply And.intro)<;>first|exact t1|exact fun _=>t1|exact fun _ _=>t1| (intros;omega)|exact rfl|exact aA _ (by decide)|exact⟨rfl,aA _ (by decide)⟩| ((intro h1;first| (intro h2;first| (intro h3;refine And.intro ?_ ?_)|refine And.intro ?_ ?_)|refine And.intro ?_ ?_)<;>first|omega| ((try simp only[aP]at*);(try simp(disch:=omega) only[aM]);omega))| ((try simp only[aP]at*);(simp(disch:=omega) only[aM]);omega)| (refine fun _=> ?_;dsimp only[hyps,bg];omega)| (refine fun _ _=> ?_;dsimp only[hyps,bg];omega)|exact(cj _).1|exact(cj _).2|exact(cG _).1|exact(cG _).2| (simp only[b7,maxLen,lens];omega)| (intros;simp only[nb]at*;omega)) ?_
 exact aj (ah rfl ⟨rfl,rfl,rfl,rfl,rfl,rfl,rfl,rfl,rfl,rfl,⟨⟩⟩)
theorem eV(l:List UInt8)(hl:l.length≤1048576):So 6 [.a (.sl .u8 l)] [.a (.sl .int (B0 (cB l)))]:=by
 refine cX X2 call6 func6 rfl rfl (by decide) ntmps6 (by simp) ?_
 intro zb
 refine av X2 [0] rfl (aS X2 [] [(4,⟨true,[.a (.sl .int (B0 (cB l)))]⟩)] [2] [] rfl (by(repeat' with_reducible first|exact aB|refine aE ?_ ?_|apply And.intro)<;>first|exact(fG l hl)|exact fun _=>(fG l hl)|exact fun _ _=>(fG l hl)| (intros;omega)|exact rfl|exact aA _ (by decide)|exact⟨rfl,aA _ (by decide)⟩| ((intro h1;first| (intro h2;first| (intro h3;refine And.intro ?_ ?_)|refine And.intro ?_ ?_)|refine And.intro ?_ ?_)<;>first|omega| ((try simp only[aP]at*);(try simp(disch:=omega) only[aM]);omega))| ((try simp only[aP]at*);(simp(disch:=omega) only[aM]);omega)| (refine fun _=> ?_;dsimp only[hyps,bg];omega)| (refine fun _ _=> ?_;dsimp only[hyps,bg];omega)|exact(cj _).1|exact(cj _).2|exact(cG _).1|exact(cG _).2| (simp only[b7,maxLen,lens];omega)| (intros;simp only[nb]at*;omega)) ?_)
 exact aj (ah rfl ⟨rfl,⟨⟩⟩)
theorem eW(l:List UInt8)(hl:l.length≤1048576):So 7 [.a (.sl .u8 l)] [.a (.sl .iy (kA l))]:=by
 refine cX X2 call7 func7 rfl rfl (by decide) ntmps7 (by simp) ?_
 intro zb
 refine av X2 [0] rfl (aS X2 [] [(4,⟨true,[.a (.sl .iy (kA l))]⟩)] [2] [] rfl (by(repeat' with_reducible first|exact aB|refine aE ?_ ?_|apply And.intro)<;>first|exact(mD l hl)|exact fun _=>(mD l hl)|exact fun _ _=>(mD l hl)| (intros;omega)|exact rfl|exact aA _ (by decide)|exact⟨rfl,aA _ (by decide)⟩| ((intro h1;first| (intro h2;first| (intro h3;refine And.intro ?_ ?_)|refine And.intro ?_ ?_)|refine And.intro ?_ ?_)<;>first|omega| ((try simp only[aP]at*);(try simp(disch:=omega) only[aM]);omega))| ((try simp only[aP]at*);(simp(disch:=omega) only[aM]);omega)| (refine fun _=> ?_;dsimp only[hyps,bg];omega)| (refine fun _ _=> ?_;dsimp only[hyps,bg];omega)|exact(cj _).1|exact(cj _).2|exact(cG _).1|exact(cG _).2| (simp only[b7,maxLen,lens];omega)| (intros;simp only[nb]at*;omega)) ?_)
 exact aj (ah rfl ⟨rfl,⟨⟩⟩)
theorem fJ(l:List UInt8)(hl:l.length≤1048576):So 8 [.a (.sl .u8 l)] [.agg (dz (ku (cB l)))]:=by
 refine cX X2 call8 func8 rfl rfl (by decide) ntmps8 (by simp) ?_
 intro zb
 refine av X2 [0,2] rfl (aS X2 [] [(4,⟨true,[.agg (dz (ku (cB l)))]⟩)] [2] [] rfl (by(repeat' with_reducible first|exact aB|refine aE ?_ ?_|apply And.intro)<;>first|exact(ff l hl)|exact fun _=>(ff l hl)|exact fun _ _=>(ff l hl)| (intros;omega)|exact rfl|exact aA _ (by decide)|exact⟨rfl,aA _ (by decide)⟩| ((intro h1;first| (intro h2;first| (intro h3;refine And.intro ?_ ?_)|refine And.intro ?_ ?_)|refine And.intro ?_ ?_)<;>first|omega| ((try simp only[aP]at*);(try simp(disch:=omega) only[aM]);omega))| ((try simp only[aP]at*);(simp(disch:=omega) only[aM]);omega)| (refine fun _=> ?_;dsimp only[hyps,bg];omega)| (refine fun _ _=> ?_;dsimp only[hyps,bg];omega)|exact(cj _).1|exact(cj _).2|exact(cG _).1|exact(cG _).2| (simp only[b7,maxLen,lens];omega)| (intros;simp only[nb]at*;omega)) ?_)
 exact aj (ah rfl ⟨rfl,rfl,⟨⟩⟩)
theorem fZ(l:List UInt8)(hl:l.length≤1048576):So 9 [.a (.sl .u8 l)] [.agg (cH (gR (cB l)))]:=by
 refine cX X2 call9 func9 rfl rfl (by decide) ntmps9 (by simp) ?_
 intro zb
 refine av X2 [0,2] rfl (aS X2 [] [(4,⟨true,[.agg (cH (gR (cB l)))]⟩)] [2] [] rfl (by(repeat' with_reducible first|exact aB|refine aE ?_ ?_|apply And.intro)<;>first|exact(fH l hl)|exact fun _=>(fH l hl)|exact fun _ _=>(fH l hl)| (intros;omega)|exact rfl|exact aA _ (by decide)|exact⟨rfl,aA _ (by decide)⟩| ((intro h1;first| (intro h2;first| (intro h3;refine And.intro ?_ ?_)|refine And.intro ?_ ?_)|refine And.intro ?_ ?_)<;>first|omega| ((try simp only[aP]at*);(try simp(disch:=omega) only[aM]);omega))| ((try simp only[aP]at*);(simp(disch:=omega) only[aM]);omega)| (refine fun _=> ?_;dsimp only[hyps,bg];omega)| (refine fun _ _=> ?_;dsimp only[hyps,bg];omega)|exact(cj _).1|exact(cj _).2|exact(cG _).1|exact(cG _).2| (simp only[b7,maxLen,lens];omega)| (intros;simp only[nb]at*;omega)) ?_)
 exact aj (ah rfl ⟨rfl,rfl,rfl,rfl,rfl,⟨⟩⟩)
theorem ga(l:List UInt8)(hl:l.length≤1048576):So 10 [.a (.sl .u8 l)] [.agg (cF (fE (cB l)))]:=by
 refine cX X2 call10 func10 rfl rfl (by decide) ntmps10 (by simp) ?_
 intro zb
 refine av X2 [0,2] rfl (aS X2 [] [(4,⟨true,[.agg (cF (fE (cB l)))]⟩)] [2] [] rfl (by(repeat' with_reducible first|exact aB|refine aE ?_ ?_|apply And.intro)<;>first|exact(fI l hl)|exact fun _=>(fI l hl)|exact fun _ _=>(fI l hl)| (intros;omega)|exact rfl|exact aA _ (by decide)|exact⟨rfl,aA _ (by decide)⟩| ((intro h1;first| (intro h2;first| (intro h3;refine And.intro ?_ ?_)|refine And.intro ?_ ?_)|refine And.intro ?_ ?_)<;>first|omega| ((try simp only[aP]at*);(try simp(disch:=omega) only[aM]);omega))| ((try simp only[aP]at*);(simp(disch:=omega) only[aM]);omega)| (refine fun _=> ?_;dsimp only[hyps,bg];omega)| (refine fun _ _=> ?_;dsimp only[hyps,bg];omega)|exact(cj _).1|exact(cj _).2|exact(cG _).1|exact(cG _).2| (simp only[b7,maxLen,lens];omega)| (intros;simp only[nb]at*;omega)) ?_)
 exact aj (ah rfl ⟨rfl,rfl,rfl,rfl,rfl,rfl,rfl,rfl,⟨⟩⟩)
theorem gD(l:List UInt8)(hl:l.length≤1048576):So 11 [.a (.sl .u8 l)] [.agg (bX (xS (cB l) 5))]:=by
 refine cX X2 call11 func11 rfl rfl (by decide) ntmps11 (by simp) ?_
 intro zb
 refine av X2 [0,2] rfl (aS X2 [] [(4,⟨true,[.agg (bX (xS (cB l) 5))]⟩)] [2] [] rfl (by(repeat' with_reducible first|exact aB|refine aE ?_ ?_|apply And.intro)<;>first|exact(fY l hl)|exact fun _=>(fY l hl)|exact fun _ _=>(fY l hl)| (intros;omega)|exact rfl|exact aA _ (by decide)|exact⟨rfl,aA _ (by decide)⟩| ((intro h1;first| (intro h2;first| (intro h3;refine And.intro ?_ ?_)|refine And.intro ?_ ?_)|refine And.intro ?_ ?_)<;>first|omega| ((try simp only[aP]at*);(try simp(disch:=omega) only[aM]);omega))| ((try simp only[aP]at*);(simp(disch:=omega) only[aM]);omega)| (refine fun _=> ?_;dsimp only[hyps,bg];omega)| (refine fun _ _=> ?_;dsimp only[hyps,bg];omega)|exact(cj _).1|exact(cj _).2|exact(cG _).1|exact(cG _).2| (simp only[b7,maxLen,lens];omega)| (intros;simp only[nb]at*;omega)) ?_)
 exact aj (ah rfl ⟨rfl,rfl,rfl,rfl,rfl,rfl,rfl,rfl,rfl,rfl,⟨⟩⟩)
end
end Go.Proofs.YtkkfjbfkjbljiaaGreatDoor.G
