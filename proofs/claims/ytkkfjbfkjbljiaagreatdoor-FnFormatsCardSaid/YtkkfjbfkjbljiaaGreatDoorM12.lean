/-
  Transfers of a round. No program in sight (but slices.Grow's contract).
-/
import Derived.Lib.AppendZeros
import Derived.Test.YtkkfjbfkjbljiaaGreatDoorM11
namespace Go.Proofs.YtkkfjbfkjbljiaaGreatDoor.G
set_option linter.all false
open Go.RowKit L D Tryz
section
set_option maxRecDepth 100000
theorem jK(x lo hi:Int):So 40 [aL x,aL lo,aL hi] [bh (inr x lo hi)]:=by
 refine aD X call40 func40 ntmps40 rfl rfl ?_
 intro zb
 exact av X [0,1,2] rfl (av X [6] rfl (aj (ah rfl ⟨rfl,⟨⟩⟩)))
theorem aU(x lo hi:Int):So 42 [aL x,aL lo,aL hi] [bh (inr x lo hi)]:=by
 refine aD X call42 func42 ntmps42 rfl rfl ?_
 intro zb
 exact av X [0,1,2] rfl (av X [6] rfl (aj (ah rfl ⟨rfl,⟨⟩⟩)))
theorem AZ(p q:Int)(h1:1≤q)(h2:q≤1000000000000):So 136 [aL p,aL q] [aL (p % q)]:=by
 refine aD X call136 func136 ntmps136 rfl rfl ?_
 intro zb
 refine av X [0,1] rfl (aa (aS X [] [(6,⟨false,[bh _]⟩)] [0,1,7] [] rfl (by(with_reducible and_intros)<;>first|exact⟨⟩|exact(aU _ _ _)) ?_))
 refine ak rfl ?_ ?_<;>intro hb0
 ·try simp only[aP]at hb0
  omega
 ·try simp only[aP]at hb0
  exact ay (aN X [4] rfl (by and_intros<;>first|exact⟨⟩| (intros;omega)) (aj (ah rfl ⟨by rw[md_eq p q h1 h2],⟨⟩⟩)))
theorem qO(l:List Int)(hl:l.length≤16777216):So 106 [.a (.sl .int l)] [aL (hsh l)]:=by
 refine aD X call106 func106 ntmps106 rfl rfl ?_
 intro zb
 refine av X [0] rfl (av X [0,3] rfl (aa (av X [0,3,4] rfl ?_)))
 refine aq (aQ (fun k=>k≤l.length) (fun k:Nat=> [(3, .one ((aL (hsh (l.take k))))),(4, .one ((aL k)))]) (fun k=> []) (fun k=>l.length-k) 0 (fun k=>rfl) (Nat.zero_le _) rfl ?_)
 intro k hk
 refine aa (av X [0,3,4,8] rfl ?_)
 refine ak rfl ?_ ?_<;>intro hb0
 ·try simp only[aP]at hb0
  have hs:=OW l k hb0
  refine ay (aa (aq (aH X [] [(17,⟨false,[aL _]⟩)] [0,3,4] [] rfl (by(with_reducible and_intros)<;>first|exact⟨⟩|exact(AZ _ _ (by first|assumption|omega| (simp;done)| (simp;omega)) (by first|assumption|omega| (simp;done)| (simp;omega)))| (intros;omega)) (bT X [0,3,4] rfl ?_))))
  refine⟨k+1,by omega,by omega,?_⟩
  rw[cw _ k rfl (by omega),hs]
  try rfl
 ·try simp only[aP]at hb0
  exact aV (av X [2] rfl (aj (ah rfl ⟨by rw[List.take_of_length_le hb0],⟨⟩⟩)))
theorem bu(k:Int)(l:List Int)(hl:l.length≤1048576):So 86 [aL k, .a (.sl .int l)] [aL (kh k l)]:=by
 refine aD X call86 func86 ntmps86 rfl rfl ?_
 intro zb
 refine av X [0,1] rfl (aS X [(8,6),(11,6)] [(12,⟨false,[aL (hsh ([k]++l++ [k]))]⟩)] [4] [] rfl (by(repeat' with_reducible first|exact aB|refine aE ?_ ?_|apply And.intro)<;>first|exact(qO _ (by simp;omega))|exact rfl|exact⟨rfl,aA _ (by decide)⟩| (simp only[b7,maxLen,lens];omega)) ?_)
 exact aj (ah rfl ⟨rfl,⟨⟩⟩)
theorem jk(a b:Int):So 14 [aL a,aL b] [aL (if b>a then b else a)]:=by
 refine aD X call14 func14 ntmps14 rfl rfl ?_
 intro zb
 refine av X [0,1] rfl (aa (av X [0,1,7] rfl ?_))
 refine ak rfl ?_ ?_<;>intro hb0
 ·try simp only[aP]at hb0
  exact av X [4] rfl (aj (ah rfl ⟨by rw[if_pos (by omega)],⟨⟩⟩))
 ·try simp only[aP]at hb0
  exact ay (av X [4] rfl (aj (ah rfl ⟨by rw[if_neg (by omega)],⟨⟩⟩)))
theorem ke(s k:Int):So 200 [aL s,aL k] [aL (cs s k)]:=by
 refine aD X call200 func200 ntmps200 rfl rfl ?_
 intro zb
 refine av X [0,1] rfl (aS X [] [(9,⟨false,[aL _]⟩)] [5] [] rfl (by(repeat' with_reducible first|exact aB|refine aE ?_ ?_|apply And.intro)<;>first|exact(bu _ _ (by first|assumption|omega| (simp;done)| (simp;omega)))|exact⟨rfl,aA _ (by decide)⟩) ?_)
 exact aN X [4] rfl (by and_intros<;>first|exact⟨⟩| (intros;omega)) (aj (ah rfl ⟨by rw[cs_eq (eB _ _).1 (eB _ _).2];rfl,⟨⟩⟩))
theorem jl(s n:Int)(h0:0≤n)(h1:n≤400):So 170 [aL s,aL n] [.a (.sl .u8 (stream s n.toNat))]:=by
 refine aD X call170 func170 ntmps170 rfl rfl ?_
 intro zb
 refine av X [0,1] rfl (aN X [0,1,5] rfl (by and_intros<;>first|exact⟨⟩|exact rfl) (aa (av X [0,1,5,6] rfl ?_)))
 refine aq (aQ (fun k=>k≤n.toNat) (fun k:Nat=> [(6, .one ((aL k)))]) (fun k=> [(7, .arr .u8 (stream s k))]) (fun k=>n.toNat-k) 0 (fun k=>rfl) (Nat.zero_le _) rfl ?_)
 intro k hk
 have hle:=gX s k
 refine aa (av X [0,1,5,6,14] rfl ?_)
 refine ak rfl ?_ ?_<;>intro hb0
 ·try simp only[aP]at hb0
  have hs:=F9 s k (by omega)
  refine ay (aa (aq (aH X [(25,7)] [(21,⟨false,[aL _]⟩)] [0,1,5,6] [] rfl (by(repeat' with_reducible first|exact aB|refine aE ?_ ?_|apply And.intro)<;>first|exact(ke _ _)| (intros;omega)|exact rfl|exact⟨rfl,aA _ (by decide)⟩|exact(cj _).1|exact(cj _).2| (simp only[b7,maxLen,lens];omega)) ?_)))
  refine bT X [0,1,5,6] rfl ?_
  refine⟨k+1,by omega,by omega,?_⟩
  rw[cw _ k rfl (by omega),hs]
  try rfl
 ·try simp only[aP]at hb0
  exact aV (av X [4] rfl (aj (ah rfl ⟨by rw[show k=n.toNat by omega],⟨⟩⟩)))
theorem lV(l:List UInt8)(hl:l.length≤1048576):So 211 [.a (.sl .u8 l)] [.a (.sl .int (Ir l))]:=by
 refine aD X call211 func211 ntmps211 rfl rfl ?_
 intro zb
 refine av X [0] rfl (aN X [0,3] rfl (by and_intros<;>first|exact⟨⟩|exact rfl) (aa (av X [0,3,4] rfl ?_)))
 refine aq (aQ (fun k=>k≤l.length) (fun k:Nat=> [(4, .one ((aL k)))]) (fun k=> [(7, .arr .int ((l.length:Int)::(l.take k).map (fun c=>(c.toNat:Int))))]) (fun k=>l.length-k) 0 (fun k=>rfl) (Nat.zero_le _) rfl ?_)
 intro k hk
 refine aa (av X [0,3,4,11] rfl ?_)
 refine ak rfl ?_ ?_<;>intro hb0
 ·try simp only[aP]at hb0
  have hs:=OX l k hb0
  refine ay (aa (aq (aH X [(21,7)] [] [0,3,4] [] rfl (by and_intros<;>first|exact⟨⟩| (intros;omega)|exact rfl| (simp only[b7,maxLen,lens];omega)) (bT X [0,3,4] rfl ?_))))
  refine⟨k+1,by omega,by omega,?_⟩
  rw[cw _ k rfl (by omega),hs]
  try rfl
 ·try simp only[aP]at hb0
  exact aV (av X [2] rfl (aj (ah rfl ⟨by rw[List.take_of_length_le hb0];rfl,⟨⟩⟩)))
end
section
set_option maxRecDepth 100000
theorem je(a b:List UInt8)(ha:a.length≤1048576)(hb:b.length≤1048576):So 207 [.a (.sl .u8 a), .a (.sl .u8 b)] [.a (.sl .u8 (jj a b))]:=by
 refine aD X call207 func207 ntmps207 rfl rfl ?_
 intro zb
 refine av X [0,1] rfl (aN X [0,1,5] rfl (by and_intros<;>first|exact⟨⟩|exact rfl) (aa (av X [0,1,5,6] rfl ?_)))
 refine aq (aQ (fun k=>k≤max a.length b.length) (fun k:Nat=> [(6, .one ((aL k)))]) (fun k=> [(8, .arr .u8 ((jj a b).take k))]) (fun k=>max a.length b.length-k) 0 (fun k=>rfl) (Nat.zero_le _) rfl ?_)
 intro k hk
 have hle:=cI (jj a b) k
 refine aa (av X [0,1,5,6,18] rfl ?_)
 refine ak rfl ?_ ?_<;>intro hb0
 ·try simp only[aP]at hb0
  refine ay (aa (aq (av X [0,1,5,6,7] rfl (aa (av X [0,1,5,6,7,24] rfl ?_)))))
  refine ak rfl ?_ ?_<;>intro bt
  ·try simp only[aP]at bt
   refine fK X [0,1,5,6,7] rfl (by and_intros<;>first|exact⟨⟩| (intros;omega)) (aa (av X [0,1,5,6,7,32] rfl ?_))
   refine ak rfl ?_ ?_<;>intro bY
   ·try simp only[aP]at bY
    have hs:=W6 a b k bt bY
    refine fK X [0,1,5,6,7] rfl (by and_intros<;>first|exact⟨⟩| (intros;omega)) (aH X [(42,8)] [] [0,1,5,6] [] rfl (by and_intros<;>first|exact⟨⟩|exact rfl|exact(cj _).1|exact(cj _).2| (simp only[b7,maxLen,lens];omega)) (bT X [0,1,5,6] rfl ?_))
    refine⟨k+1,by omega,by omega,?_⟩
    rw[cw _ k rfl (by omega),hs]
    try rfl
   ·try simp only[aP]at bY
    have hs:=aad a b k bt bY
    refine ay (aH X [(42,8)] [] [0,1,5,6] [] rfl (by and_intros<;>first|exact⟨⟩| (intros;omega)|exact rfl|exact(cG _).2| (simp only[b7,maxLen,lens];omega)) (bT X [0,1,5,6] rfl ?_))
    refine⟨k+1,by omega,by omega,?_⟩
    rw[cw _ k rfl (by omega),hs]
    try rfl
  ·try simp only[aP]at bt
   refine ay (aa (av X [0,1,5,6,7,32] rfl ?_))
   refine ak rfl ?_ ?_<;>intro bY
   ·try simp only[aP]at bY
    have hs:=aae a b k bt bY
    refine fK X [0,1,5,6,7] rfl (by and_intros<;>first|exact⟨⟩| (intros;omega)) (aH X [(42,8)] [] [0,1,5,6] [] rfl (by and_intros<;>first|exact⟨⟩|exact rfl|exact(cj _).1|exact(cj _).2| (simp only[b7,maxLen,lens];omega)) (bT X [0,1,5,6] rfl ?_))
    refine⟨k+1,by omega,by omega,?_⟩
    rw[cw _ k rfl (by omega),hs]
    try rfl
   ·try simp only[aP]at bY
    omega
 ·try simp only[aP]at hb0
  exact aV (av X [4] rfl (aj (ah rfl ⟨by rw[List.take_of_length_le (by rw[gm];omega)],⟨⟩⟩)))
theorem ny(l:List (List UInt8))(hs0:eu List.length l≤1048576):So 137 [.a (.sl (.sl .u8) l)] [.a (.sl (.sl .u8) l)]:=by
 refine aD X call137 func137 ntmps137 rfl rfl ?_
 intro zb
 have nC:l.length≤1048576:=gN hs0
 refine av X [0] rfl (aN X [0,3] rfl (by and_intros<;>first|exact⟨⟩|exact rfl) (aa (av X [0,3,4] rfl ?_)))
 refine aq (aQ (fun k=>k≤l.length) (fun k:Nat=> [(4, .one ((aL k)))]) (fun k=> [(5, .arr (.sl .u8) (l.take k))]) (fun k=>l.length-k) 0 (fun k=>rfl) (Nat.zero_le _) rfl ?_)
 intro k hk
 have hle:=cI l k
 refine aa (av X [0,3,4,9] rfl ?_)
 refine ak rfl ?_ ?_<;>intro hb0
 ·try simp only[aP]at hb0
  have hs:=bE l k (aI (.sl .u8)) hb0
  have hel:=W7 hs0 k hb0
  refine ay (aa (aq (aH X [(18,13),(20,5)] [] [0,3,4] [] rfl (by and_intros<;>first|exact⟨⟩| (intros;omega)|exact rfl| (simp only[b7,maxLen,lens];omega)) (bT X [0,3,4] rfl ?_))))
  refine⟨k+1,by omega,by omega,?_⟩
  rw[cw _ k rfl (by omega),hs]
  try rfl
 ·try simp only[aP]at hb0
  exact aV (av X [2] rfl (aj (ah rfl ⟨by rw[List.take_of_length_le hb0],⟨⟩⟩)))
theorem A3(s:Int)(l:List UInt8)(hl:l.length≤1048576):So 171 [aL s, .a (.sl .u8 l)] [.a (.sl .u8 (tR s l))]:=by
 refine aD X call171 func171 ntmps171 rfl rfl ?_
 intro zb
 refine av X [0,1] rfl (aN X [0,1,5] rfl (by and_intros<;>first|exact⟨⟩|exact rfl) (aa (av X [0,1,5,6] rfl ?_)))
 refine aq (aQ (fun k=>k≤l.length) (fun k:Nat=> [(6, .one ((aL k)))]) (fun k=> [(7, .arr .u8 ((tR s l).take k))]) (fun k=>l.length-k) 0 (fun k=>rfl) (Nat.zero_le _) rfl ?_)
 intro k hk
 have hle:=cI (tR s l) k
 refine aa (av X [0,1,5,6,11] rfl ?_)
 refine ak rfl ?_ ?_<;>intro hb0
 ·try simp only[aP]at hb0
  have hs:=LL s l k hb0
  refine ay (aa (aq (ct X [(29,7)] [(23,⟨false,[aL _]⟩)] [0,1,5,6] [] 15 MO (by kernel_rfl) rfl (by(repeat' with_reducible first|exact aB|refine aE ?_ ?_|apply And.intro)<;>first|exact(bu _ _ (by first|assumption|omega| (simp;done)| (simp;omega)))| (intros;omega)|exact rfl|exact⟨rfl,aA _ (by decide)⟩|exact(cj _).1|exact(cj _).2| (simp only[b7,maxLen,lens];omega)) ?_)))
  refine bT X [0,1,5,6] rfl ?_
  refine⟨k+1,by omega,by omega,?_⟩
  rw[cw _ k rfl (by omega),hs]
  try rfl
 ·try simp only[aP]at hb0
  exact aV (av X [4] rfl (aj (ah rfl ⟨by rw[List.take_of_length_le (by rw[qP];exact hb0)],⟨⟩⟩)))
theorem A4(s:Int)(l:List UInt8)(hl:l.length≤1048576):So 214 [aL s, .a (.sl .u8 l)] [.a (.sl .u8 (decr s l))]:=by
 refine aD X call214 func214 ntmps214 rfl rfl ?_
 intro zb
 refine av X [0,1] rfl (aN X [0,1,5] rfl (by and_intros<;>first|exact⟨⟩|exact rfl) (aa (av X [0,1,5,6] rfl ?_)))
 refine aq (aQ (fun k=>k≤l.length) (fun k:Nat=> [(6, .one ((aL k)))]) (fun k=> [(7, .arr .u8 ((decr s l).take k))]) (fun k=>l.length-k) 0 (fun k=>rfl) (Nat.zero_le _) rfl ?_)
 intro k hk
 have hle:=cI (decr s l) k
 refine aa (av X [0,1,5,6,11] rfl ?_)
 refine ak rfl ?_ ?_<;>intro hb0
 ·try simp only[aP]at hb0
  have hs:=LM s l k hb0
  refine ay (aa (aq (ct X [(29,7)] [(23,⟨false,[aL _]⟩),(26,⟨false,[aL _]⟩)] [0,1,5,6] [] 15 MO (by kernel_rfl) rfl (by(repeat' with_reducible first|exact aB|refine aE ?_ ?_|apply And.intro);(iterate 2 all_goals try first|exact(bu _ _ (by first|assumption|omega| (simp;done)| (simp;omega)))|exact(AZ _ _ (by first|assumption|omega| (simp;done)| (simp;omega)) (by first|assumption|omega| (simp;done)| (simp;omega))));all_goals first| (intros;omega)|exact rfl|exact⟨rfl,aA _ (by decide)⟩|exact(cj _).1|exact(cj _).2| (simp only[b7,maxLen,lens];omega)) ?_)))
  refine bT X [0,1,5,6] rfl ?_
  refine⟨k+1,by omega,by omega,?_⟩
  rw[cw _ k rfl (by omega),hs]
  try rfl
 ·try simp only[aP]at hb0
  exact aV (av X [4] rfl (aj (ah rfl ⟨by rw[List.take_of_length_le (by rw[A2];exact hb0)],⟨⟩⟩)))
theorem gP(k:Int):So 138 [aL k] [bh (gO k)]:=by
 refine aD X call138 func138 ntmps138 rfl rfl ?_
 intro zb
 exact av X [0] rfl (aS X [] [(4,⟨false,[bh _]⟩)] [2] [] rfl (by(with_reducible and_intros)<;>first|exact⟨⟩|exact(aU _ _ _)) (aj (ah rfl ⟨rfl,⟨⟩⟩)))
theorem sS(p:Plain):So 169 [.agg (lH p)] [bh (rZ p)]:=by
 refine aD X call169 func169 ntmps169 rfl rfl ?_
 intro zb
 exact av X [1] rfl (aS X [] [(5,⟨false,[bh _]⟩)] [2] [] rfl (by(with_reducible and_intros)<;>first|exact⟨⟩|exact(aU _ _ _)) (aj (ah rfl ⟨by unfold rZ;cases inr p.kind 0 3<;>rfl,⟨⟩⟩)))
theorem nN(key c:Int)(l:List UInt8)(hl:l.length≤65536):So 173 [aL key,aL c, .a (.sl .u8 l)] [aL (tS key c l)]:=by
 refine aD X call173 func173 ntmps173 rfl rfl ?_
 intro zb
 refine av X [0,1,2] rfl (aN X [0,2,7] rfl (by and_intros<;>first|exact⟨⟩|exact rfl) (aa (av X [0,2,7,8] rfl ?_)))
 refine aq (aQ (fun k=>k≤l.length) (fun k:Nat=> [(8, .one ((aL k)))]) (fun k=> [(10, .arr .int ([71,c]++(l.take k).map (fun x=>(x.toNat:Int))))]) (fun k=>l.length-k) 0 (fun k=>rfl) (Nat.zero_le _) rfl ?_)
 intro k hk
 refine aa (av X [0,2,7,8,14] rfl ?_)
 refine ak rfl ?_ ?_<;>intro hb0
 ·try simp only[aP]at hb0
  have hs:=Tu l c k hb0
  refine ay (aa (aq (aH X [(24,10)] [] [0,2,7,8] [] rfl (by and_intros<;>first|exact⟨⟩| (intros;omega)|exact rfl| (simp only[b7,maxLen,lens];omega)) (bT X [0,2,7,8] rfl ?_))))
  refine⟨k+1,by omega,by omega,?_⟩
  rw[cw _ k rfl (by omega),hs]
  try rfl
 ·try simp only[aP]at hb0
  exact aV (aS X [] [(27,⟨false,[aL _]⟩)] [6] [] rfl (by(with_reducible and_intros)<;>first|exact⟨⟩|exact(bu _ _ (by first|assumption|omega| (simp;done)| (simp;omega)))) (aj (ah rfl ⟨by rw[List.take_of_length_le hb0];rfl,⟨⟩⟩)))
theorem jL(key r d n:Int):So 185 [aL key,aL r,aL d,aL n] [aL (mG key r d n)]:=by
 refine aD X call185 func185 ntmps185 rfl rfl ?_
 intro zb
 refine av X [0,1,2,3] rfl (aa (aS X [] [(10,⟨false,[bh _]⟩),(14,⟨false,[bh _]⟩)] [0,1,2,3,16] [] rfl (by(with_reducible and_intros)<;>first|exact⟨⟩|exact(aU _ _ _)|exact fun _=>(aU _ _ _)) ?_))
 refine ak rfl ?_ ?_<;>intro hb0
 ·try simp only[aP]at hb0
  exact av X [8] rfl (aj (ah rfl ⟨by rw[mG,if_neg (by omega)],⟨⟩⟩))
 ·try simp only[aP]at hb0
  have hcs:=AU (kh key [79,r,d]) 0
  refine ay (aS X [] [(21,⟨false,[aL _]⟩),(22,⟨false,[aL _]⟩)] [8] [] rfl (by(repeat' with_reducible first|exact aB|refine aE ?_ ?_|apply And.intro);(iterate 2 all_goals try first|exact(bu _ _ (by first|assumption|omega| (simp;done)| (simp;omega)))|exact(ke _ _));all_goals first| (intros;omega)|exact⟨rfl,aA _ (by decide)⟩) ?_)
  exact aj (ah rfl ⟨by rw[mG,if_pos (by omega),eP hcs.1],⟨⟩⟩)
theorem yR(s r n:Int):So 202 [aL s,aL r,aL n] [aL (Gb s r n)]:=by
 refine aD X call202 func202 ntmps202 rfl rfl ?_
 intro zb
 refine av X [0,1,2] rfl (aa (aS X [] [(8,⟨false,[bh _]⟩)] [0,1,2,9] [] rfl (by(with_reducible and_intros)<;>first|exact⟨⟩|exact(aU _ _ _)) ?_))
 refine ak rfl ?_ ?_<;>intro hb0
 ·try simp only[aP]at hb0
  exact av X [6] rfl (aj (ah rfl ⟨by rw[Gb,if_neg (by omega)],⟨⟩⟩))
 ·try simp only[aP]at hb0
  have hcs:=AU (kh s [157,r]) 0
  refine ay (aS X [] [(13,⟨false,[aL _]⟩),(14,⟨false,[aL _]⟩)] [6] [] rfl (by(repeat' with_reducible first|exact aB|refine aE ?_ ?_|apply And.intro);(iterate 2 all_goals try first|exact(bu _ _ (by first|assumption|omega| (simp;done)| (simp;omega)))|exact(ke _ _));all_goals first| (intros;omega)|exact⟨rfl,aA _ (by decide)⟩) ?_)
  exact aj (ah rfl ⟨by rw[Gb,if_pos (by omega),eP hcs.1],⟨⟩⟩)
theorem w5(s:Int):So 203 [aL s] [.a (.sl .u8 (cover s))]:=by
 refine aD X call203 func203 ntmps203 rfl rfl ?_
 intro zb
 refine av X [0] rfl (aS X [] [(5,⟨false,[aL _]⟩),(6,⟨true,[.a (.sl .u8 _)]⟩)] [2] [] rfl (by(repeat' with_reducible first|exact aB|refine aE ?_ ?_|apply And.intro);(iterate 2 all_goals try first|exact(bu _ _ (by first|assumption|omega| (simp;done)| (simp;omega)))|exact(jl _ _ (by first|assumption|omega| (simp;done)| (simp;omega)) (by first|assumption|omega| (simp;done)| (simp;omega))));all_goals first|exact⟨rfl,aA _ (by decide)⟩) ?_)
 exact aj (ah rfl ⟨rfl,⟨⟩⟩)
theorem nO(k c:Int):So 172 [aL k,aL c] [aL (vA k c)]:=by
 refine aD X call172 func172 ntmps172 rfl rfl ?_
 intro zb
 refine av X [0,1] rfl (aS X [] [(8,⟨false,[aL _]⟩),(9,⟨false,[aL _]⟩)] [4] [] rfl (by(repeat' with_reducible first|exact aB|refine aE ?_ ?_|apply And.intro);(iterate 2 all_goals try first|exact(bu _ _ (by first|assumption|omega| (simp;done)| (simp;omega)))|exact(jk _ _));all_goals first|exact⟨rfl,aA _ (by decide)⟩) ?_)
 exact aj (ah rfl ⟨by rw[zw (eB _ _).1];rfl,⟨⟩⟩)
theorem dM(k c:Int):So 143 [aL k,aL c] [aL (sR k c)]:=by
 refine aD X call143 func143 ntmps143 rfl rfl ?_
 intro zb
 refine av X [0,1] rfl (aS X [] [(8,⟨false,[aL _]⟩),(9,⟨false,[aL _]⟩)] [4] [] rfl (by(repeat' with_reducible first|exact aB|refine aE ?_ ?_|apply And.intro);(iterate 2 all_goals try first|exact(bu _ _ (by first|assumption|omega| (simp;done)| (simp;omega)))|exact(jk _ _));all_goals first|exact⟨rfl,aA _ (by decide)⟩) ?_)
 exact aj (ah rfl ⟨by rw[zw (eB _ _).1];rfl,⟨⟩⟩)
end
section
set_option maxRecDepth 100000
theorem cJ(d:DB):So 110 [.agg (bQ d)] [bh (cR d)]:=by
 refine aD X call110 func110 ntmps110 rfl rfl ?_
 intro zb
 refine bV 0 0 rfl rfl (fun nC=>(av X [1] rfl (aa (av X [1,3] rfl ?_))))
 refine aq (aQ (fun k=>k≤d.rows.length∧(d.rows.take k).all (fun r=>decide ((r.length:Int)=24))=true) (fun k:Nat=> [(3, .one ((aL k)))]) (fun k=> []) (fun k=>d.rows.length-k) 0 (fun k=>rfl) ⟨Nat.zero_le _,rfl⟩ rfl ?_)
 rintro k ⟨hk,hall⟩
 refine aa (av X [1,3,8] rfl ?_)
 refine ak rfl ?_ ?_<;>intro hb0
 ·try simp only[aP]at hb0
  refine ay (aa (aq (aN X [1,3,17] rfl (by and_intros<;>first|exact⟨⟩| (intros;omega)) ?_)))
  refine ak rfl ?_ ?_<;>intro bt
  ·try simp only[aP]at bt
   exact av X [2] rfl (aj (ah rfl ⟨by unfold cR;rw[Ip _ _ (aI (.sl .u8)) k hb0 (by simpa using bt)];simp,⟨⟩⟩))
  ·try simp only[aP]at bt
   refine ay (bT X [1,3] rfl ?_)
   refine⟨k+1,⟨by omega,by rw[AY _ _ _ (aI (.sl .u8)) hb0,hall];simpa using bt⟩,by omega,?_⟩
   rw[cw _ k rfl (by omega)]
   try rfl
 ·try simp only[aP]at hb0
  exact aV (av X [2] rfl (aj (ah rfl ⟨by rw[List.take_of_length_le hb0]at hall;unfold cR;rw[hall];simp,⟨⟩⟩)))
theorem iF(a:iK):So 109 [.agg (dz a)] [aL (eC a)]:=by
 refine aD X call109 func109 ntmps109 rfl rfl ?_
 intro zb
 refine bV 0 1 rfl rfl (fun nC=>(av X [1] rfl (aa (av X [1,6] rfl ?_))))
 refine ak rfl ?_ ?_<;>intro hb0
 ·try simp only[aP]at hb0
  exact av X [2] rfl (aj (ah rfl ⟨by rw[eC,if_pos (by omega)],⟨⟩⟩))
 ·try simp only[aP]at hb0
  exact ay (aN X [2] rfl (by and_intros<;>first|exact⟨⟩| ((try simp only[aP]at*);(simp(disch:=omega) only[aM]);omega)) (aj (ah rfl ⟨by rw[eC,if_neg (by omega),aM (by omega)];congr 4;omega,⟨⟩⟩)))
theorem cK(s:bD):So 113 [.agg (cH s)] [bh (cN s)]:=by
 refine aD X call113 func113 ntmps113 rfl rfl ?_
 intro zb
 refine bV 0 3 rfl rfl (fun nC=>(av X [1] rfl (aa (av X [1,3] rfl ?_))))
 refine aq (aQ (fun k=>k≤s.received.length∧(List.range k).all (vC s.rows s.received)=true) (fun k:Nat=> [(3, .one ((aL k)))]) (fun k=> []) (fun k=>s.received.length-k) 0 (fun k=>rfl) ⟨Nat.zero_le _,rfl⟩ rfl ?_)
 rintro k ⟨hk,hall⟩
 have hw:(IntKind.i64.wrap ((k:Int)-1)).toNat=k-1:=by rw[aM (by omega)];omega
 refine aa (av X [1,3,9] rfl ?_)
 refine ak rfl ?_ ?_<;>intro hb0
 ·try simp only[aP]at hb0
  refine ay (aa (aq (aN X [1,3,4] rfl (by and_intros<;>first|exact⟨⟩| (intros;omega)) (eI X [] [(19,⟨false,[bh (inr ((s.received.getD k (aI .aX)).client) 0 7)]⟩),(40,⟨false,[bh (cR ((s.received.getD k (aI .aX)).share))]⟩)] [1,3,51] [] 35 MO (by kernel_rfl) rfl (by(with_reducible and_intros);(iterate 2 all_goals try first|exact⟨⟩|exact(aU ((s.received.getD k (aI .aX)).client) 0 7)|exact fun _=>(cJ ((s.received.getD k (aI .aX)).share)));all_goals first| ((intro h1;first| (intro h2;first| (intro h3;refine And.intro ?_ ?_)|refine And.intro ?_ ?_)|refine And.intro ?_ ?_)<;>first|omega| ((try simp only[aP]at*);(try simp(disch:=omega) only[aM]);omega))) ?_))))
  refine ak rfl ?_ ?_<;>intro bt
  ·have hk2:vC s.rows s.received k=false:=dG bt (by simp only[hw,vC,bK]<;>first|rfl|ac_rfl)
   exact av X [2] rfl (aj (ah rfl ⟨by rw[show cN s=false by unfold cN;rw[vD hb0 hk2];simp],⟨⟩⟩))
  ·have hk2:vC s.rows s.received k=true:=dH bt (by simp only[hw,vC,bK]<;>first|rfl|ac_rfl)
   refine ay (bT X [1,3] rfl ?_)
   refine⟨k+1,⟨by omega,sj hall hk2⟩,by omega,?_⟩
   rw[cw _ k rfl (by omega)]
   try rfl
 ·try simp only[aP]at hb0
  have A8:(List.range s.received.length).all (vC s.rows s.received)=true:=by rw[show s.received.length=k by omega];exact hall
  exact aV (aS X [] [(54,⟨false,[bh (inr s.id 0 3)]⟩),(58,⟨false,[bh (inr s.rows 1 64)]⟩),(63,⟨false,[bh (inr s.behavior 0 3)]⟩),(68,⟨false,[bh (inr s.round 0 100000)]⟩)] [2] [] rfl (by(with_reducible and_intros);(iterate 4 all_goals try first|exact⟨⟩|exact(aU s.id 0 3)|exact fun _=>(aU s.rows 1 64)|exact fun _=>(aU s.behavior 0 3)|exact fun _=>(aU s.round 0 100000))) (aj (ah rfl ⟨(congrArg Value.bool (by simp only[cN,A5,A8,bK]<;>first|rfl|ac_rfl)),⟨⟩⟩)))
theorem gI(a:iK):So 108 [.agg (dz a)] [bh (gq a)]:=by
 refine aD X call108 func108 ntmps108 rfl rfl ?_
 intro zb
 refine bV 0 1 rfl rfl (fun nC=>(av X [1] rfl (aa (av X [1,3] rfl ?_))))
 refine aq (aQ (fun k=>k≤a.rounds.length∧(List.range k).all (w6 a.rows a.rounds)=true) (fun k:Nat=> [(3, .one ((aL k)))]) (fun k=> []) (fun k=>a.rounds.length-k) 0 (fun k=>rfl) ⟨Nat.zero_le _,rfl⟩ rfl ?_)
 rintro k ⟨hk,hall⟩
 have hw:(IntKind.i64.wrap ((k:Int)-1)).toNat=k-1:=by rw[aM (by omega)];omega
 refine aa (av X [1,3,9] rfl ?_)
 refine ak rfl ?_ ?_<;>intro hb0
 ·try simp only[aP]at hb0
  refine ay (aa (aq (aN X [1,3,4] rfl (by and_intros<;>first|exact⟨⟩| (intros;omega)) (aa ?_))))
  have t1:=(aU ((a.rounds.getD k (aI .aK)).round) 0 100000)
  refine ct X [] [(19,⟨false,cg t1⟩),(40,⟨false,[bh (cR ((a.rounds.getD k (aI .aK)).db))]⟩)] [1,3,51] [] 35 MO (by kernel_rfl) rfl (by(with_reducible and_intros);(iterate 2 all_goals try first|exact⟨⟩|exact t1|exact fun _=>(cJ ((a.rounds.getD k (aI .aK)).db)));all_goals first| ((intro h1;first| (intro h2;first| (intro h3;refine And.intro ?_ ?_)|refine And.intro ?_ ?_)|refine And.intro ?_ ?_)<;>first|omega| ((try simp only[aP]at*);(try simp(disch:=omega) only[aM]);omega))) ?_
  refine ak rfl ?_ ?_<;>intro bt
  ·have hk2:w6 a.rows a.rounds k=false:=dG bt (by simp only[hw,w6,bK]<;>first|rfl|ac_rfl)
   exact av X [2] rfl (aj (ah rfl ⟨by rw[show gq a=false by unfold gq;rw[vD hb0 hk2];simp],⟨⟩⟩))
  ·have hk2:w6 a.rows a.rounds k=true:=dH bt (by simp only[hw,w6,bK]<;>first|rfl|ac_rfl)
   refine ay (bT X [1,3] rfl ?_)
   refine⟨k+1,⟨by omega,sj hall hk2⟩,by omega,?_⟩
   rw[cw _ k rfl (by omega)]
   try rfl
 ·try simp only[aP]at hb0
  have A8:(List.range a.rounds.length).all (w6 a.rows a.rounds)=true:=by rw[show a.rounds.length=k by omega];exact hall
  exact aV (aS X [] [(54,⟨false,[bh (inr a.rows 1 64)]⟩)] [2] [] rfl (by(with_reducible and_intros)<;>first|exact⟨⟩|exact(aU a.rows 1 64)) (aj (ah rfl ⟨(congrArg Value.bool (by simp only[gq,C2,A8,bK]<;>first|rfl|ac_rfl)),⟨⟩⟩)))
theorem yw(a:List UInt8):(bI a).toList=a:=by
 rw[ByteArray.toList_eq];rfl
theorem jM(a b:List UInt8):So 191 [.a (.sl .u8 a), .a (.sl .u8 b)] [bh (a==b)]:=by
 refine aD X call191 func191 ntmps191 rfl rfl ?_
 intro zb
 exact av X [0,1] rfl (av X [4] rfl (aj (ah rfl ⟨by rw[yw,yw],⟨⟩⟩)))
theorem jN(a b:List (List UInt8)):So 177 [.a (.sl (.sl .u8) a), .a (.sl (.sl .u8) b)] [bh (a==b)]:=by
 refine aD X call177 func177 ntmps177 rfl rfl ?_
 intro zb
 refine eO 0 rfl (fun hl1=> ?_)
 refine eO 1 rfl (fun lI=>(av X [0,1] rfl (aa (av X [0,1,10] rfl ?_))))
 refine ak rfl ?_ ?_<;>intro hb0
 ·try simp only[aP]at hb0
  exact av X [4] rfl (aj (ah rfl ⟨by rw[LG a b hb0],⟨⟩⟩))
 ·try simp only[aP]at hb0
  refine ay (aa (av X [0,1,5] rfl ?_))
  refine aq (aQ (fun k=>k≤a.length∧a.take k=b.take k) (fun k:Nat=> [(5, .one ((aL k)))]) (fun k=> []) (fun k=>a.length-k) 0 (fun k=>rfl) ⟨Nat.zero_le _,rfl⟩ rfl ?_)
  rintro k ⟨hk,hall⟩
  refine aa (av X [0,1,5,14] rfl ?_)
  refine ak rfl ?_ ?_<;>intro bt
  ·try simp only[aP]at bt
   refine ay (aa (aq (eI X [] [(25,⟨false,[bh _]⟩)] [0,1,5,26] [] 10 MO (by kernel_rfl) rfl (by(with_reducible and_intros)<;>first|exact⟨⟩|exact(jM _ _)| (intros;omega)) ?_)))
   refine ak rfl ?_ ?_<;>intro bY
   ·try simp only[aP]at bY
    have hne:=Il a b (aI (.sl .u8)) k (fun h=>bY (by rw[h]))
    exact av X [4] rfl (aj (ah rfl ⟨by rw[hne],⟨⟩⟩))
   ·try simp only[aP]at bY
    have he:a.getD k (aI (.sl .u8))=b.getD k (aI (.sl .u8)):=bY
    refine ay (bT X [0,1,5] rfl ?_)
    refine⟨k+1,⟨by omega,En a b (aI (.sl .u8)) k bt (by omega) hall he⟩,by omega,?_⟩
    rw[cw _ k rfl (by omega)]
    try rfl
  ·try simp only[aP]at bt
   exact aV (av X [4] rfl (aj (ah rfl ⟨by rw[Im a b k (by omega) (by omega) hall],⟨⟩⟩)))
theorem eR(n:Int):So 87 [aL n] [bh (cW n)]:=by
 refine aD X call87 func87 ntmps87 rfl rfl ?_
 intro zb
 exact av X [0] rfl (aS X [] [(4,⟨false,[bh _]⟩)] [2] [] rfl (by(with_reducible and_intros)<;>first|exact⟨⟩|exact(aU _ _ _)) (aj (ah rfl ⟨rfl,⟨⟩⟩)))
theorem vE(i f k:Int):So 114 [aL i,aL f,aL k] [bh (inr i 0 7&&inr f 0 7&& !(i==f)&&gO k)]:=by
 refine aD X call114 func114 ntmps114 rfl rfl ?_
 intro zb
 exact av X [0,1,2] rfl (aS X [] [(8,⟨false,[bh (inr i 0 7)]⟩),(11,⟨false,[bh (inr f 0 7)]⟩),(20,⟨false,[bh (gO k)]⟩)] [6] [] rfl (by(with_reducible and_intros);(iterate 3 all_goals try first|exact⟨⟩|exact(aU i 0 7)|exact fun _=>(aU f 0 7)|exact fun _=>(gP k))) (aj (ah rfl ⟨(congrArg Value.bool (by simp only[bK]<;>first|rfl|ac_rfl)),⟨⟩⟩)))
theorem nP(l:List (List UInt8)):So 139 [.a (.sl (.sl .u8) l)] [bh (decide ((l.length:Int)≤16)&& !l.any Ce)]:=by
 refine aD X call139 func139 ntmps139 rfl rfl ?_
 intro zb
 refine eO 0 rfl (fun nC=>(av X [0] rfl (aa (av X [0,3] rfl ?_))))
 refine aq (aQ (fun k=>k≤l.length∧(l.take k).any Ce=false) (fun k:Nat=> [(3, .one ((aL k)))]) (fun k=> []) (fun k=>l.length-k) 0 (fun k=>rfl) ⟨Nat.zero_le _,rfl⟩ rfl ?_)
 rintro k ⟨hk,hall⟩
 refine aa (av X [0,3,7] rfl ?_)
 refine ak rfl ?_ ?_<;>intro hb0
 ·try simp only[aP]at hb0
  refine ay (aa (aq (aN X [0,3,15] rfl (by and_intros<;>first|exact⟨⟩| (intros;omega)) ?_)))
  refine ak rfl ?_ ?_<;>intro bt
  ·exact av X [2] rfl (aj (ah rfl ⟨by rw[vv l Ce (aI (.sl .u8)) k hb0 bt];simp,⟨⟩⟩))
  ·refine ay (bT X [0,3] rfl ?_)
   refine⟨k+1,⟨by omega,A7 (aI (.sl .u8)) hb0 hall bt⟩,by omega,?_⟩
   rw[cw _ k rfl (by omega)]
   try rfl
 ·try simp only[aP]at hb0
  have A8:l.any Ce=false:=by rw[←hall,List.take_of_length_le hb0]
  exact aV (av X [2] rfl (aj (ah rfl ⟨by rw[A8];simp,⟨⟩⟩)))
theorem dB(c:dN):So 116 [.agg (cF c)] [bh (dR c)]:=by
 refine aD X call116 func116 ntmps116 rfl rfl ?_
 intro zb
 refine av X [1] rfl (aa ?_)
 have t1:=(vE c.id c.bG c.key)
 have t2:=(nP c.aF)
 have t3:=(nP c.inbox)
 exact aH X [] [(9,⟨false,cg t1⟩),(13,⟨false,cg t2⟩),(18,⟨false,cg t3⟩),(26,⟨false,[bh (inr c.sent 0 (c.aF.length:Int))]⟩),(31,⟨false,[bh (inr c.next 0 100000)]⟩)] [2] [] rfl (by(with_reducible and_intros);(iterate 5 all_goals try first|exact⟨⟩|exact t1|exact fun _=>t2|exact fun _=>t3|exact fun _=>(aU c.sent 0 (c.aF.length:Int))|exact fun _=>(aU c.next 0 100000))) (aj (ah rfl ⟨(congrArg Value.bool (by simp only[dR,bK]<;>first|rfl|ac_rfl)),⟨⟩⟩))
theorem dD(d:bP):So 149 [.agg (cQ d)] [bh (dL d)]:=by
 refine aD X call149 func149 ntmps149 rfl rfl ?_
 intro zb
 refine av X [1] rfl (av X [1,3] rfl (av X [3,4] rfl (aa (aS X [] [(10,⟨false,[bh (dR d.live)]⟩),(14,⟨false,[bh (dR d.saved)]⟩),(50,⟨false,[bh (d.live.aF==d.saved.aF)]⟩)] [3,4,52] [] rfl (by(with_reducible and_intros);(iterate 3 all_goals try first|exact⟨⟩|exact(dB d.live)|exact fun _=>(dB d.saved)|exact fun _=>(jN d.live.aF d.saved.aF))) ?_))))
 refine ak rfl ?_ ?_<;>intro hb0
 ·exact av X [2] rfl (aj (ah rfl ⟨by rw[show dL d=false from by rw[dL,dG (R:=dR d.live&&dR d.saved&&mS d.live d.saved) hb0 (by simp only[mS,bK]<;>first|rfl|ac_rfl)];rfl],⟨⟩⟩))
 ·have hh:(dR d.live&&dR d.saved&&mS d.live d.saved)=true:=dH hb0 (by simp only[mS,bK]<;>first|rfl|ac_rfl)
  refine ay (aa ?_)
  have t1:=(jN d.saved.inbox ((d.live.inbox.take (d.saved.inbox.length:Int).toNat).drop (0:Int).toNat))
  refine ct X [] [(83,⟨false,cg t1⟩)] [2] [] 33 MO (by kernel_rfl) rfl (by(with_reducible and_intros)<;>first|exact⟨⟩|exact fun _=>t1| ((intro h1;first| (intro h2;first| (intro h3;refine And.intro ?_ ?_)|refine And.intro ?_ ?_)|refine And.intro ?_ ?_)<;>first|omega| ((try simp only[aP]at*);(try simp(disch:=omega) only[aM]);omega))) ?_
  exact aj (ah rfl ⟨(congrArg Value.bool (by simp only[dL,hh,Cf,List.drop_zero,Int.toNat_zero,bK]<;>first|rfl|ac_rfl)),⟨⟩⟩)
end
section
set_option maxRecDepth 100000
theorem vG(x:bw):So 147 [.agg (bX x)] [bh (Y7 x)]:=by
 refine aD X call147 func147 ntmps147 rfl rfl ?_
 intro zb
 refine bV 0 1 rfl rfl (fun hl1=> ?_)
 refine bV 0 2 rfl rfl (fun lI=>(av X [1] rfl (aa (av X [1,3] rfl ?_))))
 refine aq (aQ (fun k=>k≤x.an.length∧(List.range k).all (JX x)=true) (fun k:Nat=> [(3, .one ((aL k)))]) (fun k=> []) (fun k=>x.an.length-k) 0 (fun k=>rfl) ⟨Nat.zero_le _,rfl⟩ rfl ?_)
 rintro k ⟨hk,hall⟩
 refine aa (av X [1,3,9] rfl ?_)
 refine ak rfl ?_ ?_<;>intro hb0
 ·try simp only[aP]at hb0
  refine ay (aa (aq (aN X [1,3,4] rfl (by and_intros<;>first|exact⟨⟩| (intros;omega)) (aS X [] [(18,⟨false,[bh (cN (x.an.getD k (aI .bD)))]⟩)] [1,3,45] [] rfl (by(with_reducible and_intros)<;>first|exact⟨⟩|exact(cK (x.an.getD k (aI .bD)))) ?_))))
  refine ak rfl ?_ ?_<;>intro bt
  ·have hk2:JX x k=false:=dG bt (by simp only[JX,bK]<;>first|rfl|ac_rfl)
   exact av X [2] rfl (aj (ah rfl ⟨by rw[show Y7 x=false from by rw[Y7,vD hb0 hk2];simp],⟨⟩⟩))
  ·have hk2:JX x k=true:=dH bt (by simp only[JX,bK]<;>first|rfl|ac_rfl)
   refine ay (bT X [1,3] rfl ?_)
   refine⟨k+1,⟨by omega,sj hall hk2⟩,by omega,?_⟩
   rw[cw _ k rfl (by omega)]
   try rfl
 ·try simp only[aP]at hb0
  have A8:(List.range x.an.length).all (JX x)=true:=by rw[show x.an.length=k by omega];exact hall
  exact aV (aS X [] [(49,⟨false,[bh _]⟩)] [2] [] rfl (by(with_reducible and_intros)<;>first|exact⟨⟩|exact(eR _)) (aj (ah rfl ⟨by rw[Y7,A8];rfl,⟨⟩⟩)))
theorem vH(x:bw):So 148 [.agg (bX x)] [bh (Vy x)]:=by
 refine aD X call148 func148 ntmps148 rfl rfl ?_
 intro zb
 refine bV 0 1 rfl rfl (fun hl1=> ?_)
 refine bV 0 2 rfl rfl (fun lI=>(av X [1] rfl (av X [1,3] rfl (aa (aS X [] [(14,⟨false,[bh (inr (x.af.length:Int) 2 8)]⟩)] [1,3,16] [] rfl (by(with_reducible and_intros)<;>first|exact⟨⟩|exact fun _=>(aU (x.af.length:Int) 2 8)| (intros;omega)) ?_)))))
 refine ak rfl ?_ ?_<;>intro hb0
 ·exact av X [2] rfl (aj (ah rfl ⟨by rw[show Vy x=false from by rw[Vy,dG (R:=((x.af.length:Int).tmod 2==0)&&inr x.af.length 2 8) hb0 (by simp only[bK]<;>first|rfl|ac_rfl)];rfl],⟨⟩⟩))
 ·have hh:(((x.af.length:Int).tmod 2==0)&&inr x.af.length 2 8)=true:=dH hb0 (by simp only[bK]<;>first|rfl|ac_rfl)
  have NZ:x.af.length % 2=0:=by simp only[Bool.and_eq_true,beq_iff_eq]at hh;have:=hh.1;rw[eP (by omega)]at this;omega
  have hd8:x.af.length≤8:=by simp only[Bool.and_eq_true,cP]at hh;omega
  refine ay (aa (av X [1,3,4] rfl ?_))
  refine aq (aQ (fun k=>k≤x.af.length∧(List.range k).all (okD x)=true) (fun k:Nat=> [(4, .one ((aL k)))]) (fun k=> []) (fun k=>x.af.length-k) 0 (fun k=>rfl) ⟨Nat.zero_le _,rfl⟩ rfl ?_)
  rintro k ⟨hk,hall⟩
  refine aa (av X [1,3,4,19] rfl ?_)
  refine ak rfl ?_ ?_<;>intro bt
  ·try simp only[aP]at bt
   have hx:=LP k (by omega)
   have hlt:=w7 k x.af.length bt NZ
   refine ay (aa (aq (aN X [1,3,4,5] rfl (by and_intros<;>first|exact⟨⟩| (intros;omega)) (eI X [] [(28,⟨false,[bh (dL (x.af.getD k (aI .bP)))]⟩)] [1,3,4,66] [] 40 MO (by kernel_rfl) rfl (by(with_reducible and_intros)<;>first|exact⟨⟩|exact(dD (x.af.getD k (aI .bP)))| ((intro h1;first| (intro h2;first| (intro h3;refine And.intro ?_ ?_)|refine And.intro ?_ ?_)|refine And.intro ?_ ?_)<;>first|omega| ((try simp only[aP]at*);(try simp(disch:=omega) only[aM]);omega))) ?_))))
   refine ak rfl ?_ ?_<;>intro bY
   ·have Wk:okD x k=false:=dG bY (by simp only[okD,hx,bK]<;>first|rfl|ac_rfl)
    exact av X [2] rfl (aj (ah rfl ⟨by rw[show Vy x=false from by rw[Vy,vD bt Wk];simp],⟨⟩⟩))
   ·have Wk:okD x k=true:=dH bY (by simp only[okD,hx,bK]<;>first|rfl|ac_rfl)
    refine ay (bT X [1,3,4] rfl ?_)
    refine⟨k+1,⟨by omega,sj hall Wk⟩,by omega,?_⟩
    rw[cw _ k rfl (by omega)]
    try rfl
  ·try simp only[aP]at bt
   have aaf:(List.range x.af.length).all (okD x)=true:=by rw[show x.af.length=k by omega];exact hall
   exact aV (av X [2] rfl (aj (ah rfl ⟨by rw[Vy,hh,aaf];rfl,⟨⟩⟩)))
theorem dc(x:bw):So 120 [.agg (bX x)] [bh (okW x)]:=by
 refine aD X call120 func120 ntmps120 rfl rfl ?_
 intro zb
 exact av X [1] rfl (eI X [] [(5,⟨false,[bh (inr x.rows 1 64)]⟩),(9,⟨false,[bh (inr x.round 0 100000)]⟩),(13,⟨false,[bh (Y7 x)]⟩),(17,⟨false,[bh (Vy x)]⟩),(22,⟨false,[bh (gq x.aJ)]⟩),(35,⟨false,[aL (eC x.aJ)]⟩),(43,⟨false,[bh (gO x.bq)]⟩)] [2] [] 48 MO (by kernel_rfl) rfl (by(with_reducible and_intros);(iterate 7 all_goals try first|exact⟨⟩|exact(aU x.rows 1 64)|exact fun _=>(aU x.round 0 100000)|exact fun _=>(vG x)|exact fun _=>(vH x)|exact fun _=>(gI x.aJ)|exact fun _=>(iF x.aJ)|exact fun _=>(gP x.bq))) (aj (ah rfl ⟨(congrArg Value.bool (by simp only[okW,LN,Y7,Vy,bK]<;>first|rfl|ac_rfl)),⟨⟩⟩)))
theorem jf(key c:Int)(p:Plain):So 142 [aL key,aL c, .agg (lH p)] [.a (.sl .u8 (vB key c p)),bh (nv key c p)]:=by
 refine aD X call142 func142 ntmps142 rfl rfl ?_
 intro zb
 refine av X [0,1,5] rfl (aa (aS X [] [(12,⟨false,[bh (gO key)]⟩),(16,⟨false,[bh (inr c 0 1000000000000)]⟩),(21,⟨false,[bh (rZ p)]⟩)] [0,1,5,23] [] rfl (by(with_reducible and_intros);(iterate 3 all_goals try first|exact⟨⟩|exact(gP key)|exact fun _=>(aU c 0 1000000000000)|exact fun _=>(sS p))) ?_))
 refine ak rfl ?_ ?_<;>intro hb0
 ·have hk:nv key c p=false:=dG hb0 (by simp only[nv,bK]<;>first|rfl|ac_rfl)
  exact aN X [6,7] rfl (by and_intros<;>first|exact⟨⟩|exact rfl) (aj (ah rfl ⟨by rw[vB,if_neg (by rw[hk];decide)],by rw[hk],⟨⟩⟩))
 ·have hk:nv key c p=true:=dH hb0 (by simp only[nv,bK]<;>first|rfl|ac_rfl)
  have hp:=qQ hk
  have hst:(stream (kh key [61,c]) (18:Int).toNat).length=18:=gX _ _
  have nB:(kf key c p).length≤100:=by unfold kf;simp only[List.length_append,List.length_drop,List.length_cons,List.length_nil,gX];omega
  have hf4:(four (tS key c (tR (vA key c) (kf key c p)))).length=4:=rfl
  have hel:(tR (vA key c) (kf key c p)).length≤100:=by rw[qP];exact nB
  refine ay (aS X [(35,32)] [] [0,1,5,8] [] rfl (by and_intros<;>first|exact⟨⟩|exact rfl|exact(cj _).1|exact(cj _).2| (simp only[b7,maxLen,lens];omega)) (eI X [(46,32)] [(40,⟨false,[aL (kh key [61,c])]⟩),(41,⟨true,[.a (.sl .u8 (stream (kh key [61,c]) (18:Int).toNat))]⟩)] [0,1,8] [] 10 MO (by kernel_rfl) rfl (by(repeat' with_reducible first|exact aB|refine aE ?_ ?_|apply And.intro);(iterate 2 all_goals try first|exact(bu key [61,c] (by first|assumption|omega| (simp;done)| (simp;omega)))|exact(jl (kh key [61,c]) 18 (by first|assumption|omega| (simp;done)| (simp;omega)) (by first|assumption|omega| (simp;done)| (simp;omega))));all_goals first| (intros;omega)|exact rfl|exact⟨rfl,aA _ (by decide)⟩| (simp only[b7,maxLen,lens];omega)) ?_))
  refine aS X [] [(49,⟨false,[aL (vA key c)]⟩),(51,⟨true,[.a (.sl .u8 (tR (vA key c) (kf key c p)))]⟩)] [0,1,9] [] rfl (by(with_reducible and_intros);(iterate 2 all_goals try first|exact⟨⟩|exact(nO key c)|exact(A3 (vA key c) (kf key c p) (by first|assumption|omega| (simp;done)| (simp;omega))))) (aa ?_)
  have t1:=(nN key c (tR (vA key c) (kf key c p)) (by first|assumption|omega| (simp;done)| (simp;omega)))
  exact aH X [] [(55,⟨false,cg t1⟩)] [9,10] [] rfl (by(with_reducible and_intros)<;>first|exact⟨⟩|exact t1) (aS X [(69,51)] [] [6,7] [] rfl (by and_intros<;>first|exact⟨⟩| (intros;omega)|exact rfl|exact(cj _).1|exact(cj _).2| (simp only[b7,maxLen,lens];omega)) (aj (ah rfl ⟨(congrArg (fun z=>tR (vA key c) (kf key c p)++z) (Tv _)).trans (by rw[vB,if_pos hk]),by rw[hk],⟨⟩⟩)))
theorem nQ(x:bw)(c:Int):So 85 [.agg (bX x),aL c] [bh (sU x c)]:=by
 refine aD X call85 func85 ntmps85 rfl rfl ?_
 intro zb
 exact bV 0 2 rfl rfl (fun lI=>(av X [1,2] rfl (aS X [] [(10,⟨false,[bh _]⟩)] [4] [] rfl (by(with_reducible and_intros)<;>first|exact⟨⟩|exact(jK _ _ _)) (aj (ah rfl ⟨by rw[aM (by omega)];rfl,⟨⟩⟩)))))
theorem A9(x:bw)(c:Int)(hd:x.af.length≤1048576):So 64 [.agg (bX x),aL c] [bh (tT x c)]:=by
 refine aD X call64 func64 ntmps64 rfl rfl ?_
 intro zb
 refine av X [1,2] rfl (aa ?_)
 have t1:=(nQ x (IntKind.i64.wrap (BitVec.ofInt IntKind.i64.bits c^^^BitVec.ofInt IntKind.i64.bits 1).toNat))
 exact aH X [] [(7,⟨false,[bh (sU x c)]⟩),(12,⟨false,cg t1⟩)] [4] [] rfl (by(with_reducible and_intros);(iterate 2 all_goals try first|exact⟨⟩|exact(nQ x c)|exact fun _=>t1)) (aj (ah rfl ⟨by rw[O0,LQ hd],⟨⟩⟩))
theorem cS(c:dN):So 144 [.agg (cF c)] [aL (dS c)]:=by
 refine aD X call144 func144 ntmps144 rfl rfl ?_
 intro zb
 refine av X [1] rfl (aa (av X [7] rfl ?_))
 refine ak rfl ?_ ?_<;>intro hb0
 ·try simp only[aP]at hb0
  exact av X [2] rfl (aj (ah rfl ⟨by rw[dS,if_pos hb0],⟨⟩⟩))
 ·try simp only[aP]at hb0
  exact ay (av X [2] rfl (aj (ah rfl ⟨by rw[dS,if_neg (by omega)],⟨⟩⟩)))
theorem lY(c:dN)(h0:0≤c.sent)(h1:c.sent<c.aF.length):So 141 [.agg (cF c)] [.a (.sl .u8 (tq c c.sent))]:=by
 refine aD X call141 func141 ntmps141 rfl rfl ?_
 intro zb
 refine av X [1] rfl (aa ?_)
 have t1:=(jf (sR c.key (dS c)) c.sent (⟨1,(c.aF.getD (c.sent).toNat (aI (.sl .u8)))⟩:Plain))
 exact ct X [] [(9,⟨false,[aL (dS c)]⟩),(10,⟨false,[aL (sR c.key (dS c))]⟩),(20,⟨true,cg t1⟩)] [3] [] 20 MO (by kernel_rfl) rfl (by(with_reducible and_intros);(iterate 3 all_goals try first|exact⟨⟩|exact(cS c)|exact(dM c.key (dS c))|exact t1);all_goals first| (intros;omega)) (av X [2] rfl (aj (ah rfl ⟨rfl,⟨⟩⟩)))
theorem tV(c:dN)(r n:Int):So 178 [.agg (cF c),aL r,aL n] [aL (tu c r n), .a (.sl .u8 (lX c r n)),bh (tU c r n)]:=by
 refine aD X call178 func178 ntmps178 rfl rfl ?_
 intro zb
 refine bV 0 4 rfl rfl (fun nC=>(av X [1,2,3] rfl (aa (aS X [] [(10,⟨false,[bh (dR c)]⟩),(14,⟨false,[bh (inr r 0 100000)]⟩),(19,⟨false,[bh (inr n 1 64)]⟩)] [1,2,3,21] [] rfl (by(with_reducible and_intros);(iterate 3 all_goals try first|exact⟨⟩|exact(dB c)|exact fun _=>(aU r 0 100000)|exact fun _=>(aU n 1 64))) ?_))))
 refine ak rfl ?_ ?_<;>intro hb0
 ·have hk:tU c r n=false:=dG hb0 (by simp only[tU,bK]<;>first|rfl|ac_rfl)
  exact aN X [6,7,8] rfl (by and_intros<;>first|exact⟨⟩|exact rfl) (aj (ah rfl ⟨by rw[tu,if_neg (by rw[hk];decide)],by rw[lX,if_neg (by rw[hk];decide)],by rw[hk],⟨⟩⟩))
 ·have hk:tU c r n=true:=dH hb0 (by simp only[tU,bK]<;>first|rfl|ac_rfl)
  have hs:=C3 hk
  refine ay (aa (av X [1,2,3,28] rfl ?_))
  refine ak rfl ?_ ?_<;>intro bt
  ·try simp only[aP]at bt
   exact eI X [] [(33,⟨false,[aL (dS c)]⟩),(35,⟨false,[aL (mG c.key r (dS c) n)]⟩),(37,⟨true,[.a (.sl .u8 (tq c c.sent))]⟩)] [6,7,8] [] 12 MO (by kernel_rfl) rfl (by(with_reducible and_intros);(iterate 3 all_goals try first|exact⟨⟩|exact(cS c)|exact(jL c.key r (dS c) n)|exact(lY c (by first|assumption|omega| (simp;done)| (simp;omega)) (by first|assumption|omega| (simp;done)| (simp;omega))))) (aj (ah rfl ⟨by rw[tu,if_pos hk,if_pos bt],by rw[lX,if_pos hk,if_pos bt],by rw[hk],⟨⟩⟩))
  ·try simp only[aP]at bt
   refine ay (eI X [] [(42,⟨false,[aL (Gb c.seed r n)]⟩),(47,⟨false,[aL (kh c.seed [r])]⟩),(48,⟨true,[.a (.sl .u8 (cover (kh c.seed [r])))]⟩)] [6,7,8] [] 14 MO (by kernel_rfl) rfl (by(repeat' with_reducible first|exact aB|refine aE ?_ ?_|apply And.intro);(iterate 3 all_goals try first|exact(yR c.seed r n)|exact(bu c.seed [r] (by first|assumption|omega| (simp;done)| (simp;omega)))|exact(w5 (kh c.seed [r])));all_goals first|exact⟨rfl,aA _ (by decide)⟩) ?_)
   exact aj (ah rfl ⟨by rw[tu,if_pos hk,if_neg (by omega)],by rw[lX,if_pos hk,if_neg (by omega)],by rw[hk],⟨⟩⟩)
end
section
set_option maxRecDepth 100000
theorem jm(v:List Int)(rows:Int):So 212 [.a (.sl .int v),aL rows] [bh (jW v rows)]:=by
 refine aD X call212 func212 ntmps212 rfl rfl ?_
 intro zb
 refine eO 0 rfl (fun nC=>(av X [0,1] rfl (aa (av X [0,1,5] rfl ?_))))
 refine aq (aQ (fun k=>k≤v.length∧(v.take k).all (fun x=>inr x 0 1)=true) (fun k:Nat=> [(5, .one ((aL k)))]) (fun k=> []) (fun k=>v.length-k) 0 (fun k=>rfl) ⟨Nat.zero_le _,rfl⟩ rfl ?_)
 rintro k ⟨hk,hall⟩
 refine aa (av X [0,1,5,9] rfl ?_)
 refine ak rfl ?_ ?_<;>intro hb0
 ·try simp only[aP]at hb0
  refine ay (aa (aq (aS X [] [(16,⟨false,[bh (inr (v.getD k (aI .int)) 0 1)]⟩)] [0,1,5,17] [] rfl (by(with_reducible and_intros)<;>first|exact⟨⟩|exact(aU (v.getD k (aI .int)) 0 1)| (intros;omega)) ?_)))
  refine ak rfl ?_ ?_<;>intro bt
  ·exact av X [4] rfl (aj (ah rfl ⟨by rw[jW,Ip _ _ (aI .int) k hb0 (by simpa using bt)];simp,⟨⟩⟩))
  ·refine ay (bT X [0,1,5] rfl ?_)
   refine⟨k+1,⟨by omega,by rw[AY _ _ _ (aI .int) hb0,hall];simpa using bt⟩,by omega,?_⟩
   rw[cw _ k rfl (by omega)]
   try rfl
 ·try simp only[aP]at hb0
  exact aV (av X [4] rfl (aj (ah rfl ⟨by rw[List.take_of_length_le hb0]at hall;rw[jW,hall];exact(congrArg Value.bool (by simp only[bK]<;>first|rfl|ac_rfl)),⟨⟩⟩)))
theorem gx(sd rows:Int):So 66 [aL sd,aL rows] [.a (.sl .int (cO sd rows))]:=by
 refine aD X call66 func66 ntmps66 rfl rfl ?_
 intro zb
 refine av X [0,1] rfl (aN X [0,1,5] rfl (by and_intros<;>first|exact⟨⟩|exact rfl) (aa (av X [0,1,5,6] rfl ?_)))
 refine aq (aQ (fun k=>k≤(cO sd rows).length) (fun k:Nat=> [(6, .one ((aL k)))]) (fun k=> [(8, .arr .int ((cO sd rows).take k))]) (fun k=>(cO sd rows).length-k) 0 (fun k=>rfl) (Nat.zero_le _) rfl ?_)
 intro k hk
 have hle:=cI (cO sd rows) k
 have hrl:=kK sd rows
 refine aa (av X [0,1,5,6,15] rfl ?_)
 refine ak rfl ?_ ?_<;>intro hb0
 ·try simp only[aP]at hb0
  have hin:=Ba sd rows k (by omega) (by omega)
  have hs:=Er sd rows k (by omega) (by omega)
  refine ay (aa (aq (aS X [] [(21,⟨false,[aL (kh sd [(k:Int),41])]⟩)] [0,1,5,6,7] [] rfl (by(repeat' with_reducible first|exact aB|refine aE ?_ ?_|apply And.intro)<;>first|exact(bu sd [(k:Int),41] (by first|assumption|omega| (simp;done)| (simp;omega)))|exact⟨rfl,aA _ (by decide)⟩) ?_)))
  refine aH X [(30,8)] [] [0,1,5,6] [] rfl (by and_intros<;>first|exact⟨⟩| (intros;omega)|exact rfl| (simp only[b7,maxLen,lens];omega)) (bT X [0,1,5,6] rfl ?_)
  refine⟨k+1,by omega,by omega,?_⟩
  rw[cw _ k rfl (by omega),hs]
  try rfl
 ·try simp only[aP]at hb0
  exact aV (av X [4] rfl (aj (ah rfl ⟨by rw[Gc _ _ _ (by omega)],⟨⟩⟩)))
theorem qT(rows i:Int):So 208 [aL rows,aL i] [.a (.sl .int (yx rows i))]:=by
 refine aD X call208 func208 ntmps208 rfl rfl ?_
 intro zb
 refine av X [0,1] rfl (aa (aS X [] [(7,⟨false,[bh (inr rows 1 64)]⟩),(13,⟨false,[bh (inr i 0 (IntKind.i64.wrap (rows-1)))]⟩)] [0,1,15] [] rfl (by(with_reducible and_intros);(iterate 2 all_goals try first|exact⟨⟩|exact(aU rows 1 64)|exact fun _=>(aU i 0 (IntKind.i64.wrap (rows-1))))) ?_))
 refine ak rfl ?_ ?_<;>intro hb0
 ·have hk:nA rows i=false:=dG hb0 (by simp only[nA,bK]<;>first|rfl|ac_rfl)
  exact aN X [4] rfl (by and_intros<;>first|exact⟨⟩|exact rfl) (aj (ah rfl ⟨by rw[C7 hk],⟨⟩⟩))
 ·have hk:nA rows i=true:=dH hb0 (by simp only[nA,bK]<;>first|rfl|ac_rfl)
  have hu:=Ge hk
  exact ay (aN X [1,5] rfl (by and_intros<;>first|exact⟨⟩| (intros;omega)|exact rfl| (simp only[b7,maxLen,lens];omega)) (aN X [5] rfl (by and_intros<;>first|exact⟨⟩| (intros;omega)| (simp only[b7,maxLen,lens];omega)) (av X [4] rfl (aj (ah rfl ⟨by rw[C6 hk],⟨⟩⟩)))))
theorem qU(a b:List Int)(ha:a.length≤1048576)(hb:b.length≤1048576):So 209 [.a (.sl .int a), .a (.sl .int b)] [.a (.sl .int (qR a b))]:=by
 refine aD X call209 func209 ntmps209 rfl rfl ?_
 intro zb
 refine av X [0,1] rfl (aN X [0,1,5] rfl (by and_intros<;>first|exact⟨⟩|exact rfl) (aa (aS X [] [(11,⟨false,[bh (jW a (a.length:Int))]⟩),(17,⟨false,[bh (jW b (a.length:Int))]⟩)] [0,1,5,19] [] rfl (by(with_reducible and_intros);(iterate 2 all_goals try first|exact⟨⟩|exact(jm a (a.length:Int))|exact fun _=>(jm b (a.length:Int)))) ?_)))
 refine ak rfl ?_ ?_<;>intro hb0
 ·have Iy:nR a b=false:=dG hb0 (by simp only[nR,bK]<;>first|rfl|ac_rfl)
  exact av X [4] rfl (aj (ah rfl ⟨by rw[qR,if_neg (by rw[Iy];decide)],⟨⟩⟩))
 ·have Iy:nR a b=true:=dH hb0 (by simp only[nR,bK]<;>first|rfl|ac_rfl)
  have zx:=sk Iy
  have hzl:=Es Iy
  refine ay (aa (av X [0,1,5,6] rfl ?_))
  refine aq (aQ (fun k=>k≤a.length) (fun k:Nat=> [(6, .one ((aL k)))]) (fun k=> [(7, .arr .int ((List.zipWith xb a b).take k))]) (fun k=>a.length-k) 0 (fun k=>rfl) (Nat.zero_le _) rfl ?_)
  intro k hk
  have hle:=cI (List.zipWith xb a b) k
  refine aa (av X [0,1,5,6,24] rfl ?_)
  refine ak rfl ?_ ?_<;>intro bt
  ·try simp only[aP]at bt
   have hs:=Gd Iy k bt
   refine ay (aa (aq (ct X [(38,7)] [] [0,1,5,6] [] 11 MO (by kernel_rfl) rfl (by and_intros<;>first|exact⟨⟩| (intros;omega)|exact rfl| (simp only[b7,maxLen,lens];omega)) (bT X [0,1,5,6] rfl ?_))))
   refine⟨k+1,by omega,by omega,?_⟩
   rw[cw _ k rfl (by omega),hs]
   try rfl
  ·try simp only[aP]at bt
   exact aV (av X [4] rfl (aj (ah rfl ⟨by rw[List.take_of_length_le (by omega),Bb Iy],⟨⟩⟩)))
theorem w9(rows i:Int)(sd:List Int)(FY:sd.length≤1048576):So 186 [aL rows,aL i, .a (.sl .int sd)] [.a (.sl (.sl .int) (vI rows i sd))]:=by
 refine aD X call186 func186 ntmps186 rfl rfl ?_
 intro zb
 have hun:=C8 rows i
 refine av X [0,1,2] rfl (aN X [0,1,2,7] rfl (by and_intros<;>first|exact⟨⟩|exact rfl) (aS X [] [(14,⟨true,[.a (.sl .int _)]⟩)] [0,2,7,8] [] rfl (by(with_reducible and_intros)<;>first|exact⟨⟩|exact(qT _ _)) (aa (aS X [] [(22,⟨false,[bh (cW (IntKind.i64.wrap ((sd.length:Int)+1)))]⟩)] [0,2,7,8,24] [] rfl (by(with_reducible and_intros)<;>first|exact⟨⟩|exact fun _=>(eR (IntKind.i64.wrap ((sd.length:Int)+1)))) ?_))))
 refine ak rfl ?_ ?_<;>intro hb0
 ·have hmk:It rows i sd=false:=dG hb0 (by simp only[It,bK]<;>first|rfl|ac_rfl)
  exact av X [6] rfl (aj (ah rfl ⟨by rw[vI,if_neg (by rw[hmk];decide)],⟨⟩⟩))
 ·have hmk:It rows i sd=true:=dH hb0 (by simp only[It,bK]<;>first|rfl|ac_rfl)
  have zx:=O1 hmk FY
  refine ay (aa (av X [0,2,7,8,9] rfl ?_))
  refine aq (aQ (fun k=>k≤sd.length) (fun k:Nat=> [(9, .one ((aL k)))]) (fun k=> [(11, .arr (.sl .int) ((sd.take k).map fun s=>cO s rows)),(14, .arr .int (Bc rows i (sd.take k)))]) (fun k=>sd.length-k) 0 (fun k=>rfl) (Nat.zero_le _) rfl ?_)
  intro k hk
  have hle:=cI sd k
  have hql:=C9 rows i (sd.take k)
  refine aa (av X [0,2,7,8,9,29] rfl ?_)
  refine ak rfl ?_ ?_<;>intro bt
  ·try simp only[aP]at bt
   have hs:=qN (fun s=>cO s rows) sd k (aI .int) bt
   have hs2:=Iu rows i sd k bt
   have hrl:=kK (sd.getD k (aI .int)) rows
   refine ay (aa (aq (aS X [] [(37,⟨true,[.a (.sl .int (cO (sd.getD k (aI .int)) rows))]⟩)] [0,2,7,8,9,10] [] rfl (by(with_reducible and_intros)<;>first|exact⟨⟩|exact(gx (sd.getD k (aI .int)) rows)| (intros;omega)) (aa ?_))))
   have t1:=(qU (Bc rows i (sd.take k)) (cO (sd.getD k (aI .int)) rows) (by first|assumption|omega| (simp;done)| (simp;omega)) (by first|assumption|omega| (simp;done)| (simp;omega)))
   refine aH X [] [(40,⟨true,cg t1⟩)] [0,2,7,8,9,10] [] rfl (by(with_reducible and_intros)<;>first|exact⟨⟩|exact t1) (w8 8 14 rfl (aH X [(44,11)] [] [0,2,7,8,9] [] rfl (by and_intros<;>first|exact⟨⟩|exact rfl| (simp only[b7,maxLen,lens];omega)) (bT X [0,2,7,8,9] rfl ?_)))
   refine⟨k+1,by omega,by omega,?_⟩
   rw[cw _ k rfl (by omega),hs,hs2]
   try rfl
  ·try simp only[aP]at bt
   exact aV (aS X [(48,11)] [] [6] [] rfl (by and_intros<;>first|exact⟨⟩|exact rfl| (simp only[b7,maxLen,lens];omega)) (aj (ah rfl ⟨by rw[List.take_of_length_le bt,vI,if_pos hmk],⟨⟩⟩)))
end
section
set_option maxRecDepth 100000
theorem dr(d:DB)(hs0:eu List.length d.rows≤1048576):So 111 [.agg (bQ d)] [.agg (bQ d)]:=by
 refine aD X call111 func111 ntmps111 rfl rfl ?_
 intro zb
 exact av X [1,2] rfl (aS X [] [(5,⟨true,[.a (.sl (.sl .u8) d.rows)]⟩)] [2] [] rfl (by(with_reducible and_intros)<;>first|exact⟨⟩|exact(ny d.rows (by first|assumption|omega| (simp;done)| (simp;omega)))) (aj (ah rfl ⟨rfl,⟨⟩⟩)))
theorem jo(rows:Int):So 91 [aL rows] [.agg (bQ (dO rows))]:=by
 refine aD X call91 func91 ntmps91 rfl rfl ?_
 intro zb
 refine av X [0,2] rfl (av X [0,2,3] rfl (kg 3 0 60 (.sl .u8) rfl (aa (av X [0,2,3,4] rfl ?_))))
 refine aq (aQ (fun k=>k≤(dO rows).rows.length) (fun k:Nat=> [(4, .one ((aL k)))]) (fun k=> [(60, .arr (.sl .u8) ((dO rows).rows.take k))]) (fun k=>(dO rows).rows.length-k) 0 (fun k=>rfl) (Nat.zero_le _) rfl ?_)
 intro k hk
 have hle:=cI (dO rows).rows k
 have hnl:=nS rows
 refine aa (av X [0,2,3,4,12] rfl ?_)
 refine ak rfl ?_ ?_<;>intro hb0
 ·try simp only[aP]at hb0
  have hin:=O3 rows k (by omega) (by omega)
  have hs:=Iz rows k (by omega) (by omega)
  refine ay (aa (aq (ct X [(19,60)] [(500018,⟨true,[]⟩)] [0,2,3,4] [] 4 MO (by kernel_rfl) rfl (by and_intros<;>first|exact⟨⟩| (intros;omega)|exact rfl| (simp only[b7,maxLen,lens];omega)) (bT X [0,2,3,4] rfl ?_))))
  refine⟨k+1,by omega,by omega,?_⟩
  rw[cw _ k rfl (by omega),hs]
  try rfl
 ·try simp only[aP]at hb0
  exact aV (aN X [2] rfl (by trivial) (aj (ah rfl ⟨by rw[LU _ _ (by omega)],⟨⟩⟩)))
theorem vL(d:DB)(i:Int)(c:List UInt8)(hs0:eu List.length d.rows≤1048576)(hc:c.length≤1048576):So 205 [.agg (bQ d),aL i, .a (.sl .u8 c)] [.agg (bQ (Bd d i c)),bh (pM d i c)]:=by
 refine aD X call205 func205 ntmps205 rfl rfl ?_
 intro zb
 have nC:d.rows.length≤1048576:=gN hs0
 refine av X [1,2,3,6] rfl (aS X [] [(10,⟨true,[.agg (bQ d)]⟩)] [1,2,3,6,8] [] rfl (by(with_reducible and_intros)<;>first|exact⟨⟩|exact(dr d (by first|assumption|omega| (simp;done)| (simp;omega)))) (aa (aa ?_)))
 have t1:=(aU i 0 (IntKind.i64.wrap ((d.rows.length:Int)-1)))
 refine aH X [] [(16,⟨false,cg t1⟩)] [1,2,6,8,22] [] rfl (by(with_reducible and_intros)<;>first|exact⟨⟩|exact t1) ?_
 refine ak rfl ?_ ?_<;>intro hb0
 ·have MM:pM d i c=false:=dG hb0 (by simp only[pM,bK]<;>first|rfl|ac_rfl)
  exact aN X [6,7] rfl (by trivial) (aj (ah rfl ⟨by rw[LV MM],by rw[MM],⟨⟩⟩))
 ·have MM:pM d i c=true:=dH hb0 (by simp only[pM,bK]<;>first|rfl|ac_rfl)
  have hrb:=JZ nC MM
  exact ay (aa (bM X [(29,27)] [] [6,8] [] 95 5 MO (by kernel_rfl) rfl (by kernel_rfl) (by and_intros<;>first|exact⟨⟩| (intros;omega)|exact rfl| (simp only[b7,maxLen,lens];omega)) (aN X [6,7] rfl (by trivial) (aj (ah rfl ⟨by rw[xd MM];rfl,by rw[MM],⟨⟩⟩)))))
theorem iP(a b:DB)(hs0:eu List.length a.rows≤1048576)(hs1:eu List.length b.rows≤1048576):So 184 [.agg (bQ a), .agg (bQ b)] [.agg (bQ (gZ a b)),bh (lC a b)]:=by
 refine aD X call184 func184 ntmps184 rfl rfl ?_
 intro zb
 have hla:a.rows.length≤1048576:=gN hs0
 have hlb:b.rows.length≤1048576:=gN hs1
 refine av X [2,3,4] rfl (aa (aS X [] [(9,⟨false,[bh (cR a)]⟩),(13,⟨false,[bh (cR b)]⟩)] [2,3,4,24] [] rfl (by(with_reducible and_intros);(iterate 2 all_goals try first|exact⟨⟩|exact(cJ a)|exact fun _=>(cJ b))) ?_))
 refine ak rfl ?_ ?_<;>intro hb0
 ·have Iy:lC a b=false:=dG hb0 (by simp only[lC,bK]<;>first|rfl|ac_rfl)
  exact aS X [] [(26,⟨true,[.agg (bQ a)]⟩)] [4,5] [] rfl (by(with_reducible and_intros)<;>first|exact⟨⟩|exact(dr a (by first|assumption|omega| (simp;done)| (simp;omega)))) (aj (ah rfl ⟨by rw[so Iy],by rw[Iy],⟨⟩⟩))
 ·have Iy:lC a b=true:=dH hb0 (by simp only[lC,bK]<;>first|rfl|ac_rfl)
  have Zq:=Bf Iy
  have hxl:=oU Iy
  refine ay (av X [2,3,4,6] rfl (kg 6 0 60 (.sl .u8) rfl (aa (av X [2,3,4,6,7] rfl ?_))))
  refine aq (aQ (fun k=>k≤a.rows.length) (fun k:Nat=> [(7, .one ((aL k)))]) (fun k=> [(60, .arr (.sl .u8) ((k8 a b).take k))]) (fun k=>a.rows.length-k) 0 (fun k=>rfl) (Nat.zero_le _) rfl ?_)
  intro k hk
  have hle:=cI (k8 a b) k
  refine aa (av X [2,3,4,6,7,32] rfl ?_)
  refine ak rfl ?_ ?_<;>intro bt
  ·try simp only[aP]at bt
   have hs:=Gg Iy k bt
   have afH:(a.rows.getD k (aI (.sl .u8))).length≤1048576:=by rw[sn Zq.1 k (by omega)];decide
   have afI:(b.rows.getD k (aI (.sl .u8))).length≤1048576:=by rw[sn Zq.2.1 k (by omega)];decide
   refine ay (aa (aq ?_))
   have t1:=(je (a.rows.getD k (aI (.sl .u8))) (b.rows.getD k (aI (.sl .u8))) (by first|assumption|omega| (simp;done)| (simp;omega)) (by first|assumption|omega| (simp;done)| (simp;omega)))
   refine ct X [(49,60)] [(47,⟨true,cg t1⟩),(500048,⟨true,[]⟩)] [2,3,4,6,7] [] 14 MO (by kernel_rfl) rfl (by(repeat' with_reducible first|exact aB|refine aE ?_ ?_|apply And.intro)<;>first|exact t1| (intros;omega)|exact rfl|exact⟨rfl,aA _ (by decide)⟩| (simp only[b7,maxLen,lens];omega)) ?_
   refine bT X [2,3,4,6,7] rfl ?_
   refine⟨k+1,by omega,by omega,?_⟩
   rw[cw _ k rfl (by omega),hs]
   try rfl
  ·try simp only[aP]at bt
   exact aV (aN X [4,5] rfl (by trivial) (aj (ah rfl ⟨by rw[List.take_of_length_le (by omega),xe Iy],by rw[Iy],⟨⟩⟩)))
theorem vM(x:bw)(c:Int)(sP:x.an.length≤1048576):So 180 [.agg (bX x),aL c] [.a (.sl .int (k9 x c))]:=by
 refine aD X call180 func180 ntmps180 rfl rfl ?_
 intro zb
 have hw:IntKind.i64.wrap ((x.an.length:Int)-1)=(x.an.length:Int)-1:=aM (by omega)
 refine av X [1,2] rfl (aN X [1,2,5] rfl (by and_intros<;>first|exact⟨⟩|exact rfl) (aa (av X [1,2,5,6] rfl ?_)))
 refine aq (aQ (fun k=>k≤(x.an.length-1)) (fun k:Nat=> [(6, .one ((aL k)))]) (fun k=> [(7, .arr .int ((k9 x c).take k))]) (fun k=>(x.an.length-1)-k) 0 (fun k=>rfl) (Nat.zero_le _) rfl ?_)
 intro k hk
 have hle:=cI (k9 x c) k
 have hrl:=lZ x c
 refine aa (av X [1,2,5,6,13] rfl ?_)
 refine ak rfl ?_ ?_<;>intro hb0
 ·try simp only[aP]at hb0
  rw[hw]at hb0
  have hs:=Gh x c k (by omega)
  refine ay (aa (aq (aH X [(26,7)] [(24,⟨false,[aL (kh x.seed [223,x.round,c,(k:Int)])]⟩)] [1,2,5,6] [] rfl (by(repeat' with_reducible first|exact aB|refine aE ?_ ?_|apply And.intro)<;>first|exact(bu x.seed [223,x.round,c,(k:Int)] (by first|assumption|omega| (simp;done)| (simp;omega)))|exact rfl|exact⟨rfl,aA _ (by decide)⟩| (simp only[b7,maxLen,lens];omega)) ?_)))
  refine bT X [1,2,5,6] rfl ?_
  refine⟨k+1,by omega,by omega,?_⟩
  rw[cw _ k rfl (by omega),hs]
  try rfl
 ·try simp only[aP]at hb0
  rw[hw]at hb0
  exact aV (av X [4] rfl (aj (ah rfl ⟨by rw[List.take_of_length_le (by omega)],⟨⟩⟩)))
end
section
set_option maxRecDepth 100000
theorem Cg(rows i:Int)(c:List UInt8):So 204 [aL rows,aL i, .a (.sl .u8 c)] [bh (tY rows i c)]:=by
 refine aD X call204 func204 ntmps204 rfl rfl ?_
 intro zb
 exact av X [0,1,2] rfl (aS X [] [(8,⟨false,[bh (inr rows 1 64)]⟩),(13,⟨false,[bh (inr i 0 (IntKind.i64.wrap (rows-1)))]⟩)] [6] [] rfl (by(with_reducible and_intros);(iterate 2 all_goals try first|exact⟨⟩|exact(aU rows 1 64)|exact fun _=>(aU i 0 (IntKind.i64.wrap (rows-1))))) (aj (ah rfl ⟨by rw[Gr];exact(congrArg Value.bool (by simp only[bK]<;>first|rfl|ac_rfl)),⟨⟩⟩)))
theorem xl(rows i:Int)(c:List UInt8)(sd:List Int)(hc:c.length≤1048576)(FY:sd.length≤1048576):So 179 [aL rows,aL i, .a (.sl .u8 c), .a (.sl .int sd)] [.a (.sl .DB (vN rows i c sd))]:=by
 refine aD X call179 func179 ntmps179 rfl rfl ?_
 intro zb
 have hz:=LW rows
 refine av X [0,1,2,3] rfl (aN X [0,1,2,3,9] rfl (by and_intros<;>first|exact⟨⟩|exact rfl) (aa (aS X [] [(19,⟨false,[bh (tY rows i c)]⟩),(25,⟨false,[bh (cW (IntKind.i64.wrap ((sd.length:Int)+1)))]⟩)] [0,1,2,3,9,27] [] rfl (by(with_reducible and_intros);(iterate 2 all_goals try first|exact⟨⟩|exact(Cg rows i c)|exact fun _=>(eR (IntKind.i64.wrap ((sd.length:Int)+1))))) ?_)))
 refine ak rfl ?_ ?_<;>intro hb0
 ·have hmk:xk rows i c sd=false:=dG hb0 (by simp only[xk,bK]<;>first|rfl|ac_rfl)
  exact av X [8] rfl (aj (ah rfl ⟨by rw[vN,if_neg (by rw[hmk];decide)],⟨⟩⟩))
 ·have hmk:xk rows i c sd=true:=dH hb0 (by simp only[xk,bK]<;>first|rfl|ac_rfl)
  have hml:=O7 hmk FY
  have hun:=IF hml.1
  refine ay (aa ?_)
  have t1:=(vL (dO rows) i c (by first|assumption|omega| (simp;done)| (simp;omega)) (by first|assumption|omega| (simp;done)| (simp;omega)))
  refine aH X [] [(31,⟨true,[.agg (bQ (dO rows))]⟩),(34,⟨true,cg t1⟩)] [0,3,9,10] [] rfl (by(with_reducible and_intros);(iterate 2 all_goals try first|exact⟨⟩|exact(jo rows)|exact t1)) ?_
  rw[TG hmk]
  refine aa (av X [0,3,9,10,12] rfl ?_)
  refine aq (aQ (fun k=>k≤sd.length) (fun k:Nat=> [(12, .one ((aL k)))]) (fun k=> [(15, .arr .DB ((sd.take k).map fun s=>TF s rows)),(34, .arr (.sl .u8) (yz rows i c (sd.take k)).rows)]) (fun k=>sd.length-k) 0 (fun k=>rfl) (Nat.zero_le _) rfl ?_)
  intro k hk
  have hle:=cI sd k
  have hlo:=Gq hml.1 (sd.take k)
  have hlz:=fT hlo
  refine aa (av X [0,3,9,10,12,40] rfl ?_)
  refine ak rfl ?_ ?_<;>intro bt
  ·try simp only[aP]at bt
   have hs:=qN (fun s=>TF s rows) sd k (aI .int) bt
   have hs2:=IG rows i c sd k bt
   have hmo:=IE (sd.getD k (aI .int)) rows hun.2.2
   have hmz:=fT hmo
   refine ay (aa (aq (av X [0,3,9,10,12,13] rfl (kg 13 0 60 (.sl .u8) rfl (aa (av X [0,3,9,10,12,13,14] rfl ?_))))))
   refine aq (aQ (fun k1=>k1≤rows.toNat) (fun k1:Nat=> [(14, .one ((aL k1)))]) (fun k1=> [(60, .arr (.sl .u8) ((jg (sd.getD k (aI .int)) rows).take k1))]) (fun k1=>rows.toNat-k1) 0 (fun k1=>rfl) (Nat.zero_le _) rfl ?_)
   intro k1 hk1
   have TH:=cI (jg (sd.getD k (aI .int)) rows) k1
   refine aa (av X [0,3,9,10,12,13,14,46] rfl ?_)
   refine ak rfl ?_ ?_<;>intro bY
   ·try simp only[aP]at bY
    have hs1:=Ey (sd.getD k (aI .int)) rows k1 (by omega)
    refine ay (aa (aq ?_))
    have t1:=(jl (IntKind.i64.wrap ((sd.getD k (aI .int))+IntKind.i64.wrap (1000*(k1:Int)))) 24 (by first|assumption|omega| (simp;done)| (simp;omega)) (by first|assumption|omega| (simp;done)| (simp;omega)))
    refine ct X [(60,60)] [(58,⟨true,cg t1⟩),(500059,⟨true,[]⟩)] [0,3,9,10,12,13,14] [] 11 MO (by kernel_rfl) rfl (by(repeat' with_reducible first|exact aB|refine aE ?_ ?_|apply And.intro)<;>first|exact t1| (intros;omega)|exact rfl|exact⟨rfl,aA _ (by decide)⟩| (simp only[b7,maxLen,lens];omega)) ?_
    refine bT X [0,3,9,10,12,13,14] rfl ?_
    refine⟨k1+1,by omega,by omega,?_⟩
    rw[cw _ k1 rfl (by omega),hs1]
    try rfl
   ·try simp only[aP]at bY
    rw[List.take_of_length_le (show(jg (sd.getD k (aI .int)) rows).length≤k1 by rw[mV];omega)]
    refine aV (aa ?_)
    have t1:=(iP (yz rows i c (sd.take k)) (TF (sd.getD k (aI .int)) rows) (by first|assumption|omega| (simp;done)| (simp;omega)) (by first|assumption|omega| (simp;done)| (simp;omega)))
    refine aH X [] [(65,⟨true,cg t1⟩)] [0,3,9,10,12,13] [] rfl (by(with_reducible and_intros)<;>first|exact⟨⟩|exact t1) (tX 10 0 34 rfl (aH X [(71,15)] [] [0,3,9,10,12] [] rfl (by and_intros<;>first|exact⟨⟩|exact rfl| (simp only[b7,maxLen,lens];omega)) (bT X [0,3,9,10,12] rfl ?_)))
    refine⟨k+1,by omega,by omega,?_⟩
    rw[cw _ k rfl (by omega),hs,hs2]
    try rfl
  ·try simp only[aP]at bt
   exact aV (aS X [(75,15)] [] [8] [] rfl (by and_intros<;>first|exact⟨⟩|exact rfl| (simp only[b7,maxLen,lens];omega)) (aj (ah rfl ⟨by rw[List.take_of_length_le bt,vN,if_pos hmk],⟨⟩⟩)))
end
section
set_option maxRecDepth 100000
theorem xp(x:bw)(c:Int)(sP:x.an.length≤1048576)(hc:0≤c∧c<x.af.length):So 150 [.agg (bX x),aL c] [.a (.sl .DB (dX x c))]:=by
 refine aD X call150 func150 ntmps150 rfl rfl ?_
 intro zb
 refine bV 0 2 rfl rfl (fun lI=> ?_)
 have pX:=II (RY x c) x.round x.rows
 have hwl:=lZ x c
 refine av X [1,2] rfl (aa ?_)
 have t1:=(tV (RY x c) x.round x.rows)
 refine ct X [] [(19,⟨true,cg t1⟩)] [1,2,5,6] [] 18 MO (by kernel_rfl) rfl (by(with_reducible and_intros)<;>first|exact⟨⟩|exact t1| (intros;omega)) (aa ?_)
 have t1:=(xl x.rows (tu (RY x c) x.round x.rows) (lX (RY x c) x.round x.rows) (k9 x c) (by first|assumption|omega| (simp;done)| (simp;omega)) (by first|assumption|omega| (simp;done)| (simp;omega)))
 exact ct X [] [(29,⟨true,[.a (.sl .int (k9 x c))]⟩),(30,⟨true,cg t1⟩)] [4] [] 9 MO (by kernel_rfl) rfl (by(with_reducible and_intros);(iterate 2 all_goals try first|exact⟨⟩|exact(vM x c (by first|assumption|omega| (simp;done)| (simp;omega)))|exact t1)) (aj (ah rfl ⟨rfl,⟨⟩⟩))
end
section
set_option maxRecDepth 100000
theorem iG(m s:Int):So 152 [aL m,aL s] [aL (oY m s)]:=by
 refine aD X call152 func152 ntmps152 rfl rfl ?_
 intro zb
 refine av X [0,1] rfl (aa ?_)
 have t1:=(jk 1 (kh m [173,s]))
 refine aH X [] [(8,⟨false,[aL (kh m [173,s])]⟩),(9,⟨false,cg t1⟩)] [4] [] rfl (by(repeat' with_reducible first|exact aB|refine aE ?_ ?_|apply And.intro);(iterate 2 all_goals try first|exact(bu m [173,s] (by first|assumption|omega| (simp;done)| (simp;omega)))|exact t1);all_goals first|exact⟨rfl,aA _ (by decide)⟩) ?_
 exact aj (ah rfl ⟨by rw[Pd],⟨⟩⟩)
theorem pZ(d:DB)(hs0:eu List.length d.rows≤1048576):So 206 [.agg (bQ d)] [aL (Pc d)]:=by
 refine aD X call206 func206 ntmps206 rfl rfl ?_
 intro zb
 have nC:d.rows.length≤1048576:=gN hs0
 refine av X [1] rfl (aN X [1,3] rfl (by and_intros<;>first|exact⟨⟩|exact rfl) (aa (av X [1,3,4] rfl ?_)))
 refine aq (aQ (fun k=>k≤d.rows.length) (fun k:Nat=> [(4, .one ((aL k)))]) (fun k=> [(8, .arr .int ((d.rows.length:Int)::(d.rows.take k).flatMap Ir))]) (fun k=>d.rows.length-k) 0 (fun k=>rfl) (Nat.zero_le _) rfl ?_)
 intro k hk
 have hdl:=Xl d.rows k
 refine aa (av X [1,3,4,13] rfl ?_)
 refine ak rfl ?_ ?_<;>intro hb0
 ·try simp only[aP]at hb0
  have hs:=TM d.rows k hb0
  have hel:(d.rows.getD k (aI (.sl .u8))).length≤1048576:=oz (f:=List.length) hs0 (getD_some d.rows _ k hb0)
  have B8:=zz (d.rows.getD k (aI (.sl .u8)))
  refine ay (aa (aq (aH X [(23,8)] [(22,⟨true,[.a (.sl .int (Ir (d.rows.getD k (aI (.sl .u8)))))]⟩)] [1,3,4] [] rfl (by(with_reducible and_intros)<;>first|exact⟨⟩|exact(lV (d.rows.getD k (aI (.sl .u8))) (by first|assumption|omega| (simp;done)| (simp;omega)))| (intros;omega)|exact rfl| (simp only[b7,maxLen,lens];omega)) (bT X [1,3,4] rfl ?_))))
  refine⟨k+1,by omega,by omega,?_⟩
  rw[cw _ k rfl (by omega),hs]
  try rfl
 ·try simp only[aP]at hb0
  refine aV (aa ?_)
  have t1:=(qO ((d.rows.length:Int)::(d.rows.take k).flatMap Ir) (by simp only[List.length_cons];omega))
  exact aH X [] [(25,⟨false,cg t1⟩)] [2] [] rfl (by(with_reducible and_intros)<;>first|exact⟨⟩|exact t1) (aj (ah rfl ⟨by rw[List.take_of_length_le hb0];rfl,⟨⟩⟩))
theorem l7(c r:Int)(d:DB)(hs0:eu List.length d.rows≤1048576):So 181 [aL c,aL r, .agg (bQ d)] [aL (IM c r d)]:=by
 refine aD X call181 func181 ntmps181 rfl rfl ?_
 intro zb
 refine av X [0,1,5] rfl (aS X [] [(10,⟨false,[aL (Pc d)]⟩),(12,⟨false,[aL (hsh [179,c,r,Pc d])]⟩)] [6] [] rfl (by(repeat' with_reducible first|exact aB|refine aE ?_ ?_|apply And.intro);(iterate 2 all_goals try first|exact(pZ d (by first|assumption|omega| (simp;done)| (simp;omega)))|exact(qO [179,c,r,Pc d] (by first|assumption|omega| (simp;done)| (simp;omega))));all_goals first|exact⟨rfl,aA _ (by decide)⟩) ?_)
 exact aj (ah rfl ⟨rfl,⟨⟩⟩)
theorem mW(key:Int)(r:fA):So 182 [aL key, .agg (oB r)] [aL (TN key r.server r.client r.round r.qu)]:=by
 refine aD X call182 func182 ntmps182 rfl rfl ?_
 intro zb
 refine av X [0,3] rfl (aa ?_)
 have t1:=(bu key [181,r.server,r.client,r.round,r.qu] (by first|assumption|omega| (simp;done)| (simp;omega)))
 refine aH X [] [(15,⟨false,cg t1⟩)] [4] [] rfl (by(repeat' with_reducible first|exact aB|refine aE ?_ ?_|apply And.intro)<;>first|exact t1|exact⟨rfl,aA _ (by decide)⟩) ?_
 exact aj (ah rfl ⟨rfl,⟨⟩⟩)
theorem ue(key s c r:Int)(d:DB)(hs0:eu List.length d.rows≤1048576):So 151 [aL key,aL s,aL c,aL r, .agg (bQ d)] [.agg (oB (mkR key s c r d))]:=by
 refine aD X call151 func151 ntmps151 rfl rfl ?_
 intro zb
 refine av X [0,1,2,3,9,10] rfl (aS X [] [(18,⟨false,[aL (IM c r d)]⟩)] [0,10,11] [] rfl (by(with_reducible and_intros)<;>first|exact⟨⟩|exact(l7 c r d (by first|assumption|omega| (simp;done)| (simp;omega)))) (aa ?_))
 have t1:=(mW key (⟨s,c,r,IM c r d,0⟩:fA))
 exact aH X [] [(22,⟨false,cg t1⟩)] [10,11] [] rfl (by(with_reducible and_intros)<;>first|exact⟨⟩|exact t1) (aN X [10] rfl (by trivial) (aj (ah rfl ⟨rfl,rfl,rfl,rfl,rfl,⟨⟩⟩)))
theorem fU(s:bD)(hz:s.received.length≤1048576∧ ∀r,r∈s.received→eu List.length r.share.rows≤1048576):So 112 [.agg (cH s)] [.agg (cH s)]:=by
 refine aD X call112 func112 ntmps112 rfl rfl ?_
 intro zb
 refine av X [1,2] rfl (aN X [1,2,3] rfl (by trivial) (aN X [1,2,3] rfl (by and_intros<;>first|exact⟨⟩|exact rfl) (aa (av X [1,2,3,4] rfl ?_))))
 refine aq (aQ (fun k=>k≤s.received.length) (fun k:Nat=> [(4, .one ((aL k)))]) (fun k=> [(6, .arr .aX (s.received.take k))]) (fun k=>s.received.length-k) 0 (fun k=>rfl) (Nat.zero_le _) rfl ?_)
 intro k hk
 have hle:=cI s.received k
 refine aa (av X [1,2,3,4,12] rfl ?_)
 refine ak rfl ?_ ?_<;>intro hb0
 ·try simp only[aP]at hb0
  have hs:=bE s.received k (aI .aX) hb0
  refine ay (aa (aq (ct X [(32,6)] [(29,⟨true,[.agg (bQ ((s.received.getD k (aI .aX)).share))]⟩),(500031,⟨true,[]⟩)] [1,2,3,4] [] 17 MO (by kernel_rfl) rfl (by(repeat' with_reducible first|exact aB|refine aE ?_ ?_|apply And.intro)<;>first|exact(dr ((s.received.getD k (aI .aX)).share) (hz.2 _ (getD_in _ hb0)))| (intros;omega)|exact rfl|exact⟨rfl,aA _ (by decide)⟩| (simp only[b7,maxLen,lens];omega)) ?_)))
  refine bT X [1,2,3,4] rfl ?_
  refine⟨k+1,by omega,by omega,?_⟩
  rw[cw _ k rfl (by omega),hs]
  try rfl
 ·try simp only[aP]at hb0
  exact aV (aN X [2] rfl (by trivial) (aj (ah rfl ⟨rfl,rfl,rfl,by rw[List.take_of_length_le hb0],rfl,⟨⟩⟩)))
end
section
set_option maxRecDepth 100000
theorem eS(c:dN)(h0:eu List.length c.aF≤1048576∧eu List.length c.inbox≤1048576):So 115 [.agg (cF c)] [.agg (cF c)]:=by
 refine aD X call115 func115 ntmps115 rfl rfl ?_
 intro zb
 exact av X [1,2] rfl (aN X [1,2,3] rfl (by trivial) (aS X [] [(7,⟨true,[.a (.sl (.sl .u8) c.aF)]⟩)] [1,2,3] [] rfl (by(with_reducible and_intros)<;>first|exact⟨⟩|exact(ny c.aF h0.1)) (aS X [] [(11,⟨true,[.a (.sl (.sl .u8) c.inbox)]⟩)] [2,3] [] rfl (by(with_reducible and_intros)<;>first|exact⟨⟩|exact(ny c.inbox h0.2)) (aN X [2] rfl (by trivial) (aj (ah rfl ⟨rfl,rfl,rfl,rfl,rfl,rfl,rfl,rfl,⟨⟩⟩))))))
theorem hY(d:bP)(h0:cD d≤1048576):So 146 [.agg (cQ d)] [.agg (cQ d)]:=by
 refine aD X call146 func146 ntmps146 rfl rfl ?_
 intro zb
 have hc1:cT d.live≤1048576∧cT d.saved≤1048576:=by unfold cD at h0;omega
 unfold cT at hc1
 exact av X [1,2] rfl (eI X [] [(5,⟨true,[.agg (cF d.live)]⟩),(8,⟨true,[.agg (cF d.saved)]⟩)] [2] [] 7 MO (by kernel_rfl) rfl (by(with_reducible and_intros);(iterate 2 all_goals try first|exact⟨⟩|exact(eS d.live ⟨by omega,by omega⟩)|exact(eS d.saved ⟨by omega,by omega⟩))) (aj (ah rfl ⟨rfl,rfl,rfl,rfl,rfl,rfl,rfl,rfl,rfl,rfl,rfl,rfl,rfl,rfl,rfl,rfl,⟨⟩⟩)))
theorem l8(a:iK)(h0:gY a≤1048576):So 107 [.agg (dz a)] [.agg (dz a)]:=by
 refine aD X call107 func107 ntmps107 rfl rfl ?_
 intro zb
 have hls:eu eo a.rounds≤1048576:=h0
 have nC:=gN hls
 refine av X [1,2] rfl (av X [1,2,3] rfl (kg 3 1 60 .aK rfl (aa (av X [1,2,3,4] rfl ?_))))
 refine aq (aQ (fun k=>k≤a.rounds.length) (fun k:Nat=> [(4, .one ((aL k)))]) (fun k=> [(60, .arr .aK (a.rounds.take k))]) (fun k=>a.rounds.length-k) 0 (fun k=>rfl) (Nat.zero_le _) rfl ?_)
 intro k hk
 have hle:=cI a.rounds k
 refine aa (av X [1,2,3,4,12] rfl ?_)
 refine ak rfl ?_ ?_<;>intro hb0
 ·try simp only[aP]at hb0
  have hs:=bE a.rounds k (aI .aK) hb0
  refine ay (aa (aq (ct X [(32,60)] [(29,⟨true,[.agg (bQ ((a.rounds.getD k (aI .aK)).db))]⟩),(500031,⟨true,[]⟩)] [1,2,3,4] [] 17 MO (by kernel_rfl) rfl (by(repeat' with_reducible first|exact aB|refine aE ?_ ?_|apply And.intro)<;>first|exact(dr ((a.rounds.getD k (aI .aK)).db) (oz hls (getD_some a.rounds _ k hb0)))| (intros;omega)|exact rfl|exact⟨rfl,aA _ (by decide)⟩| (simp only[b7,maxLen,lens];omega)) ?_)))
  refine bT X [1,2,3,4] rfl ?_
  refine⟨k+1,by omega,by omega,?_⟩
  rw[cw _ k rfl (by omega),hs]
  try rfl
 ·try simp only[aP]at hb0
  exact aV (aN X [2] rfl (by trivial) (aj (ah rfl ⟨rfl,by rw[List.take_of_length_le hb0],⟨⟩⟩)))
theorem eT(x:bw)(h0:wB x):So 119 [.agg (bX x)] [.agg (bX x)]:=by
 refine aD X call119 func119 ntmps119 rfl rfl ?_
 intro zb
 have hls:eu eg x.an≤1048576∧eu cD x.af≤1048576∧gY x.aJ≤1048576∧x.replaced.length≤4194304:=h0
 have hl1:=gN hls.1
 have lI:=gN hls.2.1
 refine av X [1,2] rfl (aN X [1,2,3] rfl (by trivial) (aN X [1,2,3] rfl (by and_intros<;>first|exact⟨⟩|exact rfl) (aa (av X [1,2,3,4] rfl ?_))))
 refine aq (aQ (fun k=>k≤x.an.length) (fun k:Nat=> [(4, .one ((aL k)))]) (fun k=> [(7, .arr .bD (x.an.take k))]) (fun k=>x.an.length-k) 0 (fun k=>rfl) (Nat.zero_le _) rfl ?_)
 intro k hk
 have hle:=cI x.an k
 refine aa (av X [1,2,3,4,13] rfl ?_)
 refine ak rfl ?_ ?_<;>intro hb0
 ·try simp only[aP]at hb0
  have hs:=bE x.an k (aI .bD) hb0
  have hss:=L0 hls.1 (getD_some x.an (aI .bD) k hb0)
  refine ay (aa (aq (ct X [(25,7)] [(23,⟨true,[.agg (cH (x.an.getD k (aI .bD)))]⟩),(500024,⟨true,[]⟩)] [1,2,3,4] [] 9 MO (by kernel_rfl) rfl (by(repeat' with_reducible first|exact aB|refine aE ?_ ?_|apply And.intro)<;>first|exact(fU (x.an.getD k (aI .bD)) hss)| (intros;omega)|exact rfl|exact⟨rfl,aA _ (by decide)⟩| (simp only[b7,maxLen,lens];omega)) ?_)))
  refine bT X [1,2,3,4] rfl ?_
  refine⟨k+1,by omega,by omega,?_⟩
  rw[cw _ k rfl (by omega),hs]
  try rfl
 ·try simp only[aP]at hb0
  refine aV (aN X [1,2,3] rfl (by and_intros<;>first|exact⟨⟩|exact rfl) (aa (av X [1,2,3,5] rfl ?_)))
  refine aq (aQ (fun k1=>k1≤x.af.length) (fun k1:Nat=> [(5, .one ((aL k1)))]) (fun k1=> [(27, .arr .bP (x.af.take k1))]) (fun k1=>x.af.length-k1) 0 (fun k1=>rfl) (Nat.zero_le _) rfl ?_)
  intro k1 hk1
  have TH:=cI x.af k1
  refine aa (av X [1,2,3,5,33] rfl ?_)
  refine ak rfl ?_ ?_<;>intro bt
  ·try simp only[aP]at bt
   have hs1:=bE x.af k1 (aI .bP) bt
   refine ay (aa (aq (bM X [(45,27)] [(43,⟨true,[.agg (cQ (x.af.getD k1 (aI .bP)))]⟩)] [1,2,3,5] [] 1279 2 MO (by kernel_rfl) rfl (by kernel_rfl) (by(with_reducible and_intros)<;>first|exact⟨⟩|exact(hY (x.af.getD k1 (aI .bP)) (oz hls.2.1 (getD_some x.af _ k1 bt)))| (intros;omega)|exact rfl| (simp only[b7,maxLen,lens];omega)) (bT X [1,2,3,5] rfl ?_))))
   refine⟨k1+1,by omega,by omega,?_⟩
   rw[cw _ k1 rfl (by omega),hs1]
   try rfl
  ·try simp only[aP]at bt
   exact aV (aS X [] [(49,⟨true,[.agg (dz x.aJ)]⟩)] [1,2,3] [] rfl (by(with_reducible and_intros)<;>first|exact⟨⟩|exact(l8 x.aJ hls.2.2.1)) (aS X [(54,51)] [] [2,3] [] rfl (by and_intros<;>first|exact⟨⟩|exact rfl| (simp only[b7,maxLen,lens];omega)) (aN X [2] rfl (by trivial) (aj (ah rfl ⟨rfl,by rw[List.take_of_length_le hb0],by rw[List.take_of_length_le bt],rfl,rfl,rfl,rfl,rfl,rfl,rfl,⟨⟩⟩)))))
end
section
set_option maxRecDepth 100000
theorem uf(a:iK)(f:Int)(hal:a.rounds.length≤1048576):So 155 [.agg (dz a),aL f] [.a (.sl .int (jq a.rounds f))]:=by
 refine aD X call155 func155 ntmps155 rfl rfl ?_
 intro zb
 refine av X [1,2] rfl (aN X [1,2,5] rfl (by and_intros<;>first|exact⟨⟩|exact rfl) (aa (av X [1,2,5,6] rfl ?_)))
 refine aq (aQ (fun k=>k≤a.rounds.length) (fun k:Nat=> [(6, .one ((aL k)))]) (fun k=> [(7, .arr .int (jq (a.rounds.take k) f))]) (fun k=>a.rounds.length-k) 0 (fun k=>rfl) (Nat.zero_le _) rfl ?_)
 intro k hk
 have hle:=GD a.rounds f k
 refine aa (av X [1,2,5,6,12] rfl ?_)
 refine ak rfl ?_ ?_<;>intro hb0
 ·try simp only[aP]at hb0
  refine ay (aa (aq (aN X [1,2,5,6,22] rfl (by and_intros<;>first|exact⟨⟩| (intros;omega)) ?_)))
  refine ak rfl ?_ ?_<;>intro bt
  ·try simp only[aP]at bt
   have hs:=IN a.rounds f k hb0 (by omega)
   refine aH X [(31,7)] [] [1,2,5,6] [] rfl (by and_intros<;>first|exact⟨⟩| (intros;omega)|exact rfl| (simp only[b7,maxLen,lens];omega)) (bT X [1,2,5,6] rfl ?_)
   refine⟨k+1,by omega,by omega,?_⟩
   rw[cw _ k rfl (by omega),hs]
   try rfl
  ·try simp only[aP]at bt
   have hs:=GC a.rounds f k hb0 (by omega)
   refine ay (bT X [1,2,5,6] rfl ?_)
   refine⟨k+1,by omega,by omega,?_⟩
   rw[cw _ k rfl (by omega),hs]
   try rfl
 ·try simp only[aP]at hb0
  exact aV (av X [4] rfl (aj (ah rfl ⟨by rw[List.take_of_length_le hb0],⟨⟩⟩)))
end
section
set_option maxRecDepth 100000
theorem pR(key c:Int)(cell:List UInt8):So 201 [aL key,aL c, .a (.sl .u8 cell)] [.agg (lH (RZ key c cell)),bh (qZ key c cell)]:=by
 refine aD X call201 func201 ntmps201 rfl rfl ?_
 intro zb
 refine eO 2 rfl (fun nC=>(av X [0,1,2,6] rfl (aa (aS X [] [(11,⟨false,[bh (gO key)]⟩),(15,⟨false,[bh (inr c 0 1000000000000)]⟩)] [0,1,2,6,22] [] rfl (by(with_reducible and_intros);(iterate 2 all_goals try first|exact⟨⟩|exact(gP key)|exact fun _=>(aU c 0 1000000000000))) ?_))))
 refine ak rfl ?_ ?_<;>intro hb0
 ·have hH:VF key c cell=false:=dG hb0 (by simp only[VF,bK]<;>first|rfl|ac_rfl)
  have hk:=Xz hH
  exact aN X [6,7] rfl (by trivial) (aj (ah rfl ⟨by rw[xw hk],by rw[xw hk],by rw[hk],⟨⟩⟩))
 ·have hH:VF key c cell=true:=dH hb0 (by simp only[VF,bK]<;>first|rfl|ac_rfl)
  obtain⟨hk1,hk2,pX⟩:=aay hH
  have aaA:=TW hk1 hk2 pX
  refine ay (eI X [] [] [0,1,2,6,8] [] 23 MO (by kernel_rfl) rfl (by and_intros<;>first|exact⟨⟩| (intros;omega)) ?_)
  rw[TV]
  refine aa (aa ?_)
  have t1:=(nN key c ((cell.take (20:Int).toNat).drop (0:Int).toNat) (by rw[List.length_drop,List.length_take];omega))
  refine aH X [] [(51,⟨false,cg t1⟩)] [0,1,2,6,52] [] rfl (by(with_reducible and_intros)<;>first|exact⟨⟩|exact t1| (intros;omega)) ?_
  refine ak rfl ?_ ?_<;>intro bt
  ·try simp only[aP]at bt
   have hA:Pm key c cell=false:=by rw[aaA,decide_eq_false_iff_not];intro h;exact bt (by rw[h];simp)
   have hk:=Pu hA
   exact aN X [6,7] rfl (by trivial) (aj (ah rfl ⟨by rw[xw hk],by rw[xw hk],by rw[hk],⟨⟩⟩))
  ·try simp only[aP]at bt
   have hA:Pm key c cell=true:=by rw[aaA,decide_eq_true_eq,bt];simp
   obtain⟨hol,_⟩:=Ka hA
   refine ay (aa ?_)
   have t1:=(A4 (vA key c) ((cell.take (20:Int).toNat).drop (0:Int).toNat) (by rw[List.length_drop,List.length_take];omega))
   refine ct X [] [(56,⟨false,[aL (vA key c)]⟩),(59,⟨true,cg t1⟩)] [6,9] [] 7 MO (by kernel_rfl) rfl (by(with_reducible and_intros);(iterate 2 all_goals try first|exact⟨⟩|exact(nO key c)|exact t1);all_goals first| (intros;omega)) ?_
   rw[Xr]
   refine aa (aN X [6,9,71] rfl (by and_intros<;>first|exact⟨⟩| (intros;omega)| ((intro h1;first| (intro h2;first| (intro h3;refine And.intro ?_ ?_)|refine And.intro ?_ ?_)|refine And.intro ?_ ?_)<;>first|omega| ((try simp only[aP]at*);(try simp(disch:=omega) only[aM]);omega))| (refine fun _=> ?_;dsimp only[hyps,bg];omega)) ?_)
   refine ak rfl ?_ ?_<;>intro bY
   ·try simp only[aP]at bY
    rw[R3,R3]at bY
    have hk:qZ key c cell=false:=by
     rcases bY with h|h
     ·exact Xt h
     ·exact aaw (by have h:(14:Int)<(Hy key c cell:Int):=h;omega)
    exact aN X [6,7] rfl (by trivial) (aj (ah rfl ⟨by rw[xw hk],by rw[xw hk],by rw[hk],⟨⟩⟩))
   ·try simp only[aP]at bY
    rw[R3,R3]at bY
    have h14:Hy key c cell≤14:=by have h:(Hy key c cell:Int)≤14:=bY.2;omega
    have hu1:((GF key c cell).getD (Int.toNat 1) (aI .u8)).toNat≤14:=h14
    have B8:=TU hA h14
    have hk:qZ key c cell=true:=aax hA h14 bY.1
    have Vb:=Xs key c cell
    exact ay (aa (bM X [(85,77)] [] [6,7] [] 45055 4 MO (by kernel_rfl) rfl (by kernel_rfl) (by and_intros<;>first|exact⟨⟩| (intros;omega)|exact rfl| ((try simp only[aP]at*);(simp(disch:=omega) only[aM]);omega)| (simp only[b7,maxLen,lens];omega)) (aj (ah rfl ⟨by rw[Ke hk];exact congrArg (Value.int IntKind.i64) (R3 _),by rw[Ke hk];exact Vb,by rw[hk],⟨⟩⟩))))
theorem jB(a:iK)(r:Int)(hz:a.rounds.length≤1048576∧ ∀y,y∈a.rounds→eu List.length y.db.rows≤1048576):So 158 [.agg (dz a),aL r] [.agg (bQ (mH a.rounds r)),bh (l9 a.rounds r)]:=by
 refine aD X call158 func158 ntmps158 rfl rfl ?_
 intro zb
 refine bV 0 1 rfl rfl (fun SD=>(av X [1,2,4] rfl (aa (av X [1,2,4,6] rfl ?_))))
 refine aq (aQ (fun k=>k≤a.rounds.length∧(a.rounds.take k).any (R1 r)=false) (fun k:Nat=> [(6, .one ((aL k)))]) (fun k=> []) (fun k=>a.rounds.length-k) 0 (fun k=>rfl) ⟨Nat.zero_le _,rfl⟩ rfl ?_)
 rintro k ⟨hk,hall⟩
 refine aa (av X [1,2,4,6,11] rfl ?_)
 refine ak rfl ?_ ?_<;>intro hb0
 ·try simp only[aP]at hb0
  refine ay (aa (aq (aN X [1,2,4,6,21] rfl (by and_intros<;>first|exact⟨⟩| (intros;omega)) ?_)))
  refine ak rfl ?_ ?_<;>intro bt
  ·have hh:=Xp hb0 hall bt
   exact aS X [] [(28,⟨true,[.agg (bQ ((a.rounds.getD k (aI .aK)).db))]⟩)] [4,5] [] rfl (by(with_reducible and_intros)<;>first|exact⟨⟩|exact(dr ((a.rounds.getD k (aI .aK)).db) (hz.2 _ (getD_in _ hb0)))| (intros;omega)) (aj (ah rfl ⟨by rw[hh.2],by rw[hh.1],⟨⟩⟩))
  ·refine ay (bT X [1,2,4,6] rfl ?_)
   refine⟨k+1,⟨by omega,A7 (aI .aK) hb0 hall bt⟩,by omega,?_⟩
   rw[cw _ k rfl (by omega)]
   try rfl
 ·try simp only[aP]at hb0
  exact aV (aN X [4,5] rfl (by trivial) (aj (ah rfl ⟨by rw[(Kb (by rw[←hall,List.take_of_length_le hb0])).2],by rw[(Kb (by rw[←hall,List.take_of_length_le hb0])).1],⟨⟩⟩)))
theorem xB(rows:List (List UInt8))(v:List Int)(hr: ∀r,r∈rows→r.length≤1048576):So 213 [.a (.sl (.sl .u8) rows), .a (.sl .int v)] [.a (.sl .u8 (EE rows v))]:=by
 refine aD X call213 func213 ntmps213 rfl rfl ?_
 intro zb
 refine eO 0 rfl (fun hl0=> ?_)
 refine eO 1 rfl (fun hl1=>(av X [0,1] rfl (aN X [0,1,5] rfl (by and_intros<;>first|exact⟨⟩|exact rfl) (aa (av X [0,1,5,6] rfl ?_)))))
 refine aq (aQ (fun k=>k≤rows.length) (fun k:Nat=> [(6, .one ((aL k)))]) (fun k=> [(7, .arr .u8 (sV rows v k))]) (fun k=>rows.length-k) 0 (fun k=>rfl) (Nat.zero_le _) rfl ?_)
 intro k hk
 have hle:=Br v hr k hk
 refine aa (av X [0,1,5,6,17] rfl ?_)
 refine ak rfl ?_ ?_<;>intro hb0
 ·try simp only[aP]at hb0
  have hel:=hr _ (getD_in (aI (.sl .u8)) hb0.1)
  refine ay (aa (aq (aN X [0,1,5,6,24] rfl (by and_intros<;>first|exact⟨⟩| (intros;omega)) ?_)))
  refine ak rfl ?_ ?_<;>intro bt
  ·try simp only[aP]at bt
   have hs:=Bq (rows:=rows) hb0.2 bt
   refine aH X [] [(30,⟨true,[.a (.sl .u8 (jj (sV rows v k) (rows.getD k (aI (.sl .u8)))))]⟩)] [0,1,5,6] [] rfl (by(with_reducible and_intros)<;>first|exact⟨⟩|exact(je (sV rows v k) (rows.getD k (aI (.sl .u8))) (by first|assumption|omega| (simp;done)| (simp;omega)) (by first|assumption|omega| (simp;done)| (simp;omega)))| (intros;omega)) (w8 5 7 rfl (bT X [0,1,5,6] rfl ?_))
   refine⟨k+1,by omega,by omega,?_⟩
   rw[cw _ k rfl (by omega),hs]
   try rfl
  ·try simp only[aP]at bt
   have hs:=sF (rows:=rows) (v:=v) (k:=k) (fun h=>bt h.2)
   refine ay (bT X [0,1,5,6] rfl ?_)
   refine⟨k+1,by omega,by omega,?_⟩
   rw[cw _ k rfl (by omega),hs]
   try rfl
 ·try simp only[aP]at hb0
  exact aV (av X [4] rfl (aj (ah rfl ⟨by rw[Pp hk (by omega)],⟨⟩⟩)))
theorem mj(d:DB)(v:List Int):So 192 [.agg (bQ d), .a (.sl .int v)] [.a (.sl .u8 (jQ d v))]:=by
 refine aD X call192 func192 ntmps192 rfl rfl ?_
 intro zb
 refine av X [1,2] rfl (aa (aS X [] [(6,⟨false,[bh (cR d)]⟩),(13,⟨false,[bh (jW v (d.rows.length:Int))]⟩)] [1,2,15] [] rfl (by(with_reducible and_intros);(iterate 2 all_goals try first|exact⟨⟩|exact(cJ d)|exact fun _=>(jm v (d.rows.length:Int)))) ?_))
 refine ak rfl ?_ ?_<;>intro hb0
 ·have hk:(cR d&&jW v d.rows.length)=false:=dG hb0 (by simp only[bK]<;>first|rfl|ac_rfl)
  exact aN X [4] rfl (by and_intros<;>first|exact⟨⟩|exact rfl) (aj (ah rfl ⟨by rw[jQ,hk];rfl,⟨⟩⟩))
 ·have hk:(cR d&&jW v d.rows.length)=true:=dH hb0 (by simp only[bK]<;>first|rfl|ac_rfl)
  have hkk:=hk
  rw[Bool.and_eq_true]at hkk
  have Y9: ∀r,r∈d.rows→r.length≤1048576:=fun r hr=>by rw[(hJ.1 hkk.1).2 r hr];decide
  have hxl:(EE d.rows v).length≤1048576:=Br v Y9 d.rows.length (Nat.le_refl _)
  exact ay (eI X [] [(21,⟨true,[.a (.sl .u8 (EE d.rows v))]⟩),(22,⟨true,[.a (.sl .u8 (jj Vz (EE d.rows v)))]⟩)] [4] [] 7 MO (by kernel_rfl) rfl ⟨je Vz (EE d.rows v) (by rw[sq];decide) hxl,xB d.rows v Y9,⟨rfl,aA _ (by decide)⟩,rfl,by omega,⟨by decide,by decide⟩,⟨⟩⟩ (aj (ah rfl ⟨by rw[jQ,if_pos hk],⟨⟩⟩)))
theorem ko(key:Int)(a:dy)(h1:a.selection.length≤262144)(h2:a.data.length≤262144):So 189 [aL key, .agg (jG a)] [aL (L5 key a.server a.round a.selection a.data)]:=by
 refine aD X call189 func189 ntmps189 rfl rfl ?_
 intro zb
 have B8:=zz a.data
 refine av X [0,3] rfl (aS X [(16,13)] [] [0,3,5] [] rfl (by and_intros<;>first|exact⟨⟩|exact rfl| (simp only[b7,maxLen,lens];omega)) (aa ?_))
 have t1:=(bu key ([191,a.server,a.round,(a.selection.length:Int)]++a.selection++Ir a.data) (by simp[zz];omega))
 exact aH X [(22,13)] [(21,⟨true,[.a (.sl .int (Ir a.data))]⟩),(23,⟨false,cg t1⟩)] [4] [] rfl (by(with_reducible and_intros);(iterate 2 all_goals try first|exact⟨⟩|exact(lV a.data (by omega))|exact t1);all_goals first|exact rfl| (simp only[b7,maxLen,lens];omega)) (aj (ah rfl ⟨rfl,⟨⟩⟩))
theorem vP(key sv r:Int)(d:DB)(v:List Int)(hv:v.length≤262144):So 188 [aL key,aL sv,aL r, .agg (bQ d), .a (.sl .int v)] [.agg (jG (qi key sv r d v)),bh (nV d v)]:=by
 refine aD X call188 func188 ntmps188 rfl rfl ?_
 intro zb
 have hal:=Bs d v
 refine av X [0,1,2,4,8,10] rfl (aS X [] [(16,⟨true,[.a (.sl .u8 (jQ d v))]⟩)] [0,1,2,4,10,12] [] rfl (by(with_reducible and_intros)<;>first|exact⟨⟩|exact(mj d v)) (aa (av X [0,1,2,4,10,12,19] rfl ?_)))
 refine ak rfl ?_ ?_<;>intro hb0
 ·try simp only[aP]at hb0
  have hk:=TX (d:=d) (v:=v) (by omega)
  have hg:=XB (key:=key) (sv:=sv) (r:=r) hk
  exact aN X [10,11] rfl (by trivial) (aj (ah rfl (by and_intros<;>first|exact⟨⟩| (rw[hg];rfl;done)| (rw[hk];done))))
 ·try simp only[aP]at hb0
  have hk:=GI (d:=d) (v:=v) (by omega)
  have hg:=Kf (key:=key) (sv:=sv) (r:=r) hk
  have h24:=Kg hk
  exact ay (aS X [(25,23)] [] [0,10,13] [] rfl (by and_intros<;>first|exact⟨⟩|exact rfl| (simp only[b7,maxLen,lens];omega)) (aS X [] [(30,⟨false,[aL (L5 key (⟨sv,r,v,jQ d v,0⟩:dy).server (⟨sv,r,v,jQ d v,0⟩:dy).round (⟨sv,r,v,jQ d v,0⟩:dy).selection (⟨sv,r,v,jQ d v,0⟩:dy).data)]⟩)] [10,13] [] rfl (by(with_reducible and_intros)<;>first|exact⟨⟩|exact(ko key (⟨sv,r,v,jQ d v,0⟩:dy) (by show v.length≤_;omega) (by show(jQ d v).length≤_;omega))) (aN X [10,11] rfl (by trivial) (aj (ah rfl (by and_intros<;>first|exact⟨⟩| (rw[hg];rfl;done)| (rw[hk];done)))))))
theorem pS(s:bD)(key r:Int)(d:DB)(v:List Int)(hv:v.length≤262144):So 159 [.agg (cH s),aL key,aL r, .agg (bQ d), .a (.sl .int v)] [.agg (jG (R2 s key r d v)),bh (nV d v)]:=by
 refine aD X call159 func159 ntmps159 rfl rfl ?_
 intro zb
 refine av X [1,2,4,5,8,10] rfl (aS X [] [(21,⟨true,[.agg (jG (qi key s.id r d v)),bh (nV d v)]⟩)] [1,5,10,12,13] [] rfl (by(with_reducible and_intros)<;>first|exact⟨⟩|exact(vP key s.id r d v (by first|assumption|omega| (simp;done)| (simp;omega)))) (aa (av X [1,10,12,13,29] rfl ?_)))
 refine ak rfl ?_ ?_<;>intro hb0
 ·have hq:(nV d v&&(s.behavior==3))=true:=sB hb0 (by simp only[bK]<;>first|rfl|ac_rfl)
  obtain⟨hk,ha⟩:=TY (key:=key) (r:=r) hq
  have hg:=Kf (key:=key) (sv:=s.id) (r:=r) hk
  have hdl:(qi key s.id r d v).data.length=24:=by rw[hg];exact Kg hk
  refine eI X [] [] [1,10,12,13] [] 8 MO (by kernel_rfl) rfl (by and_intros<;>first|exact⟨⟩| (intros;omega)|exact(cj _).1|exact(cj _).2) ?_
  rw[XA]
  exact aH X [] [(40,⟨false,[aL (L5 key (⟨(qi key s.id r d v).server,(qi key s.id r d v).round,(qi key s.id r d v).selection,MN (qi key s.id r d v).data,(qi key s.id r d v).Jv⟩:dy).server (⟨(qi key s.id r d v).server,(qi key s.id r d v).round,(qi key s.id r d v).selection,MN (qi key s.id r d v).data,(qi key s.id r d v).Jv⟩:dy).round (⟨(qi key s.id r d v).server,(qi key s.id r d v).round,(qi key s.id r d v).selection,MN (qi key s.id r d v).data,(qi key s.id r d v).Jv⟩:dy).selection (⟨(qi key s.id r d v).server,(qi key s.id r d v).round,(qi key s.id r d v).selection,MN (qi key s.id r d v).data,(qi key s.id r d v).Jv⟩:dy).data)]⟩)] [10,12,13] [] rfl (by(with_reducible and_intros)<;>first|exact⟨⟩|exact(ko key (⟨(qi key s.id r d v).server,(qi key s.id r d v).round,(qi key s.id r d v).selection,MN (qi key s.id r d v).data,(qi key s.id r d v).Jv⟩:dy) (by show(qi key s.id r d v).selection.length≤_;rw[hg];exact hv) (by show(MN (qi key s.id r d v).data).length≤_;rw[Kh,hdl];decide))) (aN X [10,11] rfl (by trivial) (aj (ah rfl (by and_intros<;>first|exact⟨⟩| (rw[ha];simp only[hg];rfl;done)| (rw[hk];done)))))
 ·have hq:(nV d v&&(s.behavior==3))=false:=xm hb0 (by simp only[bK]<;>first|rfl|ac_rfl)
  have ha:=XC (key:=key) (r:=r) hq
  exact ay (aN X [10,11] rfl (by trivial) (aj (ah rfl (by and_intros<;>first|exact⟨⟩|rfl| (rw[ha];done)))))
theorem Ch(l:List (List UInt8))(hr: ∀a,a∈l→a.length≤1048576):So 215 [.a (.sl (.sl .u8) l)] [.a (.sl .u8 (Bt l))]:=by
 refine aD X call215 func215 ntmps215 rfl rfl ?_
 intro zb
 refine eO 0 rfl (fun nC=>(av X [0] rfl (aN X [0,3] rfl (by and_intros<;>first|exact⟨⟩|exact rfl) (aa (av X [0,3,4] rfl ?_)))))
 refine aq (aQ (fun k=>k≤l.length) (fun k:Nat=> [(4, .one ((aL k)))]) (fun k=> [(5, .arr .u8 (Bt (l.take k)))]) (fun k=>l.length-k) 0 (fun k=>rfl) (Nat.zero_le _) rfl ?_)
 intro k hk
 have hle:=Pq hr k
 refine aa (av X [0,3,4,9] rfl ?_)
 refine ak rfl ?_ ?_<;>intro hb0
 ·try simp only[aP]at hb0
  have hel:=hr _ (getD_in (aI (.sl .u8)) hb0)
  have hs:=Di l k hb0
  refine ay (aa (aq (aH X [] [(17,⟨true,[.a (.sl .u8 (jj (Bt (l.take k)) (l.getD k (aI (.sl .u8)))))]⟩)] [0,3,4] [] rfl (by(with_reducible and_intros)<;>first|exact⟨⟩|exact(je (Bt (l.take k)) (l.getD k (aI (.sl .u8))) (by first|assumption|omega| (simp;done)| (simp;omega)) (by first|assumption|omega| (simp;done)| (simp;omega)))| (intros;omega)) (w8 3 5 rfl (bT X [0,3,4] rfl ?_)))))
  refine⟨k+1,by omega,by omega,?_⟩
  rw[cw _ k rfl (by omega),hs]
  try rfl
 ·try simp only[aP]at hb0
  exact aV (av X [2] rfl (aj (ah rfl ⟨by rw[List.take_of_length_le hb0],⟨⟩⟩)))
theorem p7(l:List (List UInt8)):So 210 [.a (.sl (.sl .u8) l)] [.a (.sl .u8 (VD l)),bh (mg l)]:=by
 refine aD X call210 func210 ntmps210 rfl rfl ?_
 intro zb
 refine eO 0 rfl (fun nC=>(av X [0] rfl (aa (av X [0,4] rfl ?_))))
 refine aq (aQ (fun k=>k≤l.length∧(l.take k).all (fun a=>decide ((a.length:Int)=24))=true) (fun k:Nat=> [(4, .one ((aL k)))]) (fun k=> []) (fun k=>l.length-k) 0 (fun k=>rfl) ⟨Nat.zero_le _,rfl⟩ rfl ?_)
 rintro k ⟨hk0,hall⟩
 refine aa (av X [0,4,8] rfl ?_)
 refine ak rfl ?_ ?_<;>intro hb0
 ·try simp only[aP]at hb0
  refine ay (aa (aq (aN X [0,4,16] rfl (by and_intros<;>first|exact⟨⟩| (intros;omega)) ?_)))
  refine ak rfl ?_ ?_<;>intro bt
  ·try simp only[aP]at bt
   have hk:=T0 hb0 (fun h=>bt (by rw[h];rfl))
   exact aN X [2,3] rfl (by and_intros<;>first|exact⟨⟩|exact rfl) (aj (ah rfl ⟨by rw[Ki hk],by rw[hk],⟨⟩⟩))
  ·try simp only[aP]at bt
   refine ay (bT X [0,4] rfl ?_)
   refine⟨k+1,⟨by omega,by rw[AY _ _ _ (aI (.sl .u8)) hb0,hall,Bool.true_and];exact decide_eq_true bt⟩,by omega,?_⟩
   rw[cw _ k rfl (by omega)]
   try rfl
 ·try simp only[aP]at hb0
  rw[List.take_of_length_le hb0]at hall
  refine aV (aa (aS X [] [(20,⟨false,[bh (cW (l.length:Int))]⟩)] [0,21] [] rfl (by(with_reducible and_intros)<;>first|exact⟨⟩|exact(eR (l.length:Int))) ?_))
  refine ak rfl ?_ ?_<;>intro bY
  ·have hk:mg l=false:=by rw[mg,hall];simpa using bY
   exact aN X [2,3] rfl (by and_intros<;>first|exact⟨⟩|exact rfl) (aj (ah rfl ⟨by rw[Ki hk],by rw[hk],⟨⟩⟩))
  ·have hk:mg l=true:=by rw[mg,hall];simpa using bY
   have hel:=Pv hk
   exact ay (aS X [] [(24,⟨true,[.a (.sl .u8 (Bt l))]⟩)] [2,3] [] rfl (by(with_reducible and_intros)<;>first|exact⟨⟩|exact(Ch l hel)) (aj (ah rfl ⟨by rw[TZ hk],by rw[hk],⟨⟩⟩)))
theorem rm(l:List dy)(hl:l.length≤1048576):So 187 [.a (.sl .dy l)] [.a (.sl .u8 (VD (l.map dy.data))),bh (mg (l.map dy.data))]:=by
 refine aD X call187 func187 ntmps187 rfl rfl ?_
 intro zb
 refine av X [0] rfl (aN X [0,4] rfl (by and_intros<;>first|exact⟨⟩|exact rfl) (PE 4 60 rfl (aa (av X [0,4,5] rfl ?_))))
 refine aq (aQ (fun k=>k≤l.length) (fun k:Nat=> [(5, .one ((aL k)))]) (fun k=> [(60, .fk (.sl .u8) ((l.take k).map dy.data) .mE)]) (fun k=>l.length-k) 0 (fun k=>rfl) (Nat.zero_le _) rfl ?_)
 intro k hk
 have hle:=cI l k
 refine aa (av X [0,4,5,10] rfl ?_)
 refine ak rfl ?_ ?_<;>intro hb0
 ·try simp only[aP]at hb0
  have hs:=qN dy.data l k (aI .dy) hb0
  have hml:((l.take k).map dy.data).length=(l.take k).length:=List.length_map ..
  refine ay (aa (aq (aH X [(20,60)] [] [0,4,5] [] rfl (by and_intros<;>first|exact⟨⟩| (intros;omega)|exact rfl| (simp only[b7,maxLen,lens];omega)) (bT X [0,4,5] rfl ?_))))
  refine⟨k+1,by omega,by omega,?_⟩
  rw[cw _ k rfl (by omega),hs]
  try rfl
 ·try simp only[aP]at hb0
  rw[List.take_of_length_le hb0]
  refine aV (aa ?_)
  have t1:=(p7 (l.map dy.data))
  exact aH X [] [(22,⟨true,cg t1⟩)] [2,3] [] rfl (by(with_reducible and_intros)<;>first|exact⟨⟩|exact t1) (aj (ah rfl ⟨rfl,rfl,⟨⟩⟩))
theorem rq(x:bw)(r row s:Int)(hk:okW x=true):So 157 [.agg (bX x),aL r,aL row,aL s] [.a (.sl .u8 (L7 x r row s)),bh (GG x r row s)]:=by
 refine aD X call157 func157 ntmps157 rfl rfl ?_
 intro zb
 have har:=Pz hk
 have hql:=T1 r row s hk
 have hs4:=eX hk
 have hrl:=tW x.an.length r row s
 have hw:IntKind.i64.wrap ((x.an.length:Int)-1)=(x.an.length:Int)-1:=aM (by omega)
 refine av X [1,2,3,4] rfl (aa ?_)
 have t1:=(jB x.aJ r ⟨by omega,har.2⟩)
 refine aH X [] [(23,⟨true,cg t1⟩)] [1,2,3,4,10,11] [] rfl (by(with_reducible and_intros)<;>first|exact⟨⟩|exact t1) (aa (av X [1,2,3,4,10,27] rfl ?_))
 refine ak rfl ?_ ?_<;>intro hb0
 ·have hh:l9 x.aJ.rounds r=false:=by simpa using hb0
  exact aN X [8,9] rfl (by and_intros<;>first|exact⟨⟩|exact rfl) (aj (ah rfl ⟨by rw[(Py hh).1],by rw[(Py hh).2],⟨⟩⟩))
 ·have hh:l9 x.aJ.rounds r=true:=by simpa using hb0
  have hpy:=T2 (row:=row) (s:=s) hh
  refine ay (aN X [1,2,3,4,10,12] rfl (by and_intros<;>first|exact⟨⟩|exact rfl) (aa (av X [1,2,3,4,10,12,13] rfl ?_)))
  refine aq (aQ (fun k=>k≤(x.an.length-1)) (fun k:Nat=> [(13, .one ((aL k)))]) (fun k=> [(29, .arr .int ((kZ x.an.length r row s).take k))]) (fun k=>(x.an.length-1)-k) 0 (fun k=>rfl) (Nat.zero_le _) rfl ?_)
  intro k hk
  have hle:=cI (kZ x.an.length r row s) k
  refine aa (av X [1,2,3,4,10,12,13,35] rfl ?_)
  refine ak rfl ?_ ?_<;>intro bt
  ·try simp only[aP]at bt
   rw[hw]at bt
   have hs:=Gf x.an.length r row s k (by omega)
   refine ay (aa (aq (aH X [(46,29)] [(44,⟨false,[aL (kh s [229,r,row,(k:Int)])]⟩)] [1,2,3,4,10,12,13] [] rfl (by(repeat' with_reducible first|exact aB|refine aE ?_ ?_|apply And.intro)<;>first|exact(bu s [229,r,row,(k:Int)] (by first|assumption|omega| (simp;done)| (simp;omega)))|exact rfl|exact⟨rfl,aA _ (by decide)⟩| (simp only[b7,maxLen,lens];omega)) ?_)))
   refine bT X [1,2,3,4,10,12,13] rfl ?_
   refine⟨k+1,by omega,by omega,?_⟩
   rw[cw _ k rfl (by omega),hs]
   try rfl
  ·try simp only[aP]at bt
   rw[hw]at bt
   refine aV (aa ?_)
   rw[List.take_of_length_le (show(kZ x.an.length r row s).length≤k by omega)]
   have t1:=(w9 x.rows row (kZ x.an.length r row s) (by omega))
   refine aH X [] [(51,⟨true,cg t1⟩)] [1,4,10,14] [] rfl (by(with_reducible and_intros)<;>first|exact⟨⟩|exact t1) (aN X [1,4,10,14,15] rfl (by and_intros<;>first|exact⟨⟩|exact rfl) (aa (av X [1,4,10,14,15,16] rfl ?_)))
   refine aq (aQ (fun k1=>k1≤(query' x r row s).length) (fun k1:Nat=> [(16, .one ((aL k1)))]) (fun k1=> [(52, .arr .dy (yA x r (mH x.aJ.rounds r) (query' x r row s) k1))]) (fun k1=>(query' x r row s).length-k1) 0 (fun k1=>rfl) (Nat.zero_le _) rfl ?_)
   intro k1 hk1
   have hal:=L6 x r (mH x.aJ.rounds r) (query' x r row s) k1
   have hqy:(vI x.rows row (kZ x.an.length r row s)).length=(query' x r row s).length:=rfl
   refine aa (av X [1,4,10,14,15,16,56] rfl ?_)
   refine ak rfl ?_ ?_<;>intro bY
   ·try simp only[aP]at bY
    have hqe:=XD x r row s k1
    have hs1:=IP x r (mH x.aJ.rounds r) (query' x r row s) k1
    refine ay (aa (aq (aa ?_)))
    have t1:=(pS (x.an.getD k1 (aI .bD)) (oY x.bq (k1:Int)) r (mH x.aJ.rounds r) ((query' x r row s).getD k1 (aI (.sl .int))) (by omega))
    refine bM X [] [(68,⟨false,[aL (oY x.bq (k1:Int))]⟩),(75,⟨true,cg t1⟩)] [1,4,10,14,15,16,17] [] 3145727 1 MO (by kernel_rfl) rfl (by kernel_rfl) (by(with_reducible and_intros);(iterate 2 all_goals try first|exact⟨⟩|exact(iG x.bq (k1:Int))|exact t1);all_goals first| (intros;omega)) (aH X [(81,52)] [] [1,4,10,14,15,16] [] rfl (by and_intros<;>first|exact⟨⟩|exact rfl| (simp only[b7,maxLen,lens];omega)) (bT X [1,4,10,14,15,16] rfl ?_))
    refine⟨k1+1,by omega,by omega,?_⟩
    rw[cw _ k1 rfl (by omega),hs1]
    try rfl
   ·try simp only[aP]at bY
    refine aV (aa ?_)
    have t1:=(rm (yA x r (mH x.aJ.rounds r) (query' x r row s) k1) (by omega))
    exact aH X [] [(83,⟨true,cg t1⟩)] [8,9] [] rfl (by(with_reducible and_intros)<;>first|exact⟨⟩|exact t1) (aj (ah rfl ⟨by rw[hpy.1,show k1=(query' x r row s).length by omega];rfl,by rw[hpy.2,show k1=(query' x r row s).length by omega];rfl,⟨⟩⟩))
end
section
set_option maxRecDepth 100000
theorem iH(c:dN)(h0:eu List.length c.aF≤1048576∧eu List.length c.inbox≤1048576):So 140 [.agg (cF c)] [.agg (cQ (⟨c,c⟩:bP))]:=by
 refine aD X call140 func140 ntmps140 rfl rfl ?_
 intro zb
 exact av X [1,2] rfl (eI X [(6,40)] [(4,⟨true,[.agg (cF c)]⟩),(6,⟨true,[.agg (cF c)]⟩)] [2] [] 5 MO (by kernel_rfl) rfl (by(with_reducible and_intros);(iterate 2 all_goals try first|exact⟨⟩|exact(eS c h0))) (aj (ah rfl ⟨rfl,rfl,rfl,rfl,rfl,rfl,rfl,rfl,rfl,rfl,rfl,rfl,rfl,rfl,rfl,rfl,⟨⟩⟩)))
theorem vW(d:bP)(h0:cD d≤1048576):So 176 [.agg (cQ d)] [.agg (cQ (R4 d))]:=by
 refine aD X call176 func176 ntmps176 rfl rfl ?_
 intro zb
 have hc1:cT d.live≤1048576∧cT d.saved≤1048576:=by unfold cD at h0;omega
 unfold cT at hc1
 refine av X [1,2] rfl (aa (aS X [] [(4,⟨false,[bh (dL d)]⟩)] [1,2,5] [] rfl (by(with_reducible and_intros)<;>first|exact⟨⟩|exact(dD d)) ?_))
 refine ak rfl ?_ ?_<;>intro hb0
 ·have hk:dL d=false:=by simpa using hb0
  have hd:R4 d=d:=by rw[R4,hk];rfl
  exact aS X [] [(7,⟨true,[.agg (cQ d)]⟩)] [2] [] rfl (by(with_reducible and_intros)<;>first|exact⟨⟩|exact(hY d h0)) (aj (ah rfl (by and_intros<;>first|exact⟨⟩| (rw[hd];done))))
 ·have hk:dL d=true:=by simpa using hb0
  have hd:R4 d=⟨d.live,d.live⟩:=by rw[R4,if_pos hk]
  exact ay (aS X [] [(10,⟨true,[.agg (cQ (⟨d.live,d.live⟩:bP))]⟩)] [2] [] rfl (by(with_reducible and_intros)<;>first|exact⟨⟩|exact(iH d.live ⟨by omega,by omega⟩)) (aj (ah rfl (by and_intros<;>first|exact⟨⟩| (rw[hd];done)))))
theorem xF(d:bP):So 175 [.agg (cQ d)] [bh (Bv d)]:=by
 refine aD X call175 func175 ntmps175 rfl rfl ?_
 intro zb
 exact av X [1] rfl (aS X [] [(4,⟨false,[bh (dL d)]⟩)] [2] [] rfl (by(with_reducible and_intros)<;>first|exact⟨⟩|exact(dD d)) (aj (ah rfl ⟨(congrArg Value.bool (by simp only[Bv,bK]<;>first|rfl|ac_rfl)),⟨⟩⟩)))
theorem vX(c:dN)(r n:Int):So 156 [.agg (cF c),aL r,aL n] [aL (mG c.key r (dS c) n),aL (mG c.key r (1-dS c) n)]:=by
 refine aD X call156 func156 ntmps156 rfl rfl ?_
 intro zb
 have hdw:=XQ c
 exact av X [1,2,3] rfl (aS X [] [(10,⟨false,[aL (dS c)]⟩)] [1,2,3,8] [] rfl (by(with_reducible and_intros)<;>first|exact⟨⟩|exact(cS c)) (eI X [] [(16,⟨false,[aL (mG c.key r (dS c) n)]⟩),(23,⟨false,[aL (mG c.key r (IntKind.i64.wrap (1-dS c)) n)]⟩)] [6,7] [] 15 MO (by kernel_rfl) rfl (by(with_reducible and_intros);(iterate 2 all_goals try first|exact⟨⟩|exact(jL c.key r (dS c) n)|exact(jL c.key r (IntKind.i64.wrap (1-dS c)) n))) (aj (ah rfl ⟨rfl,by rw[hdw],⟨⟩⟩))))
theorem vY(c:dN)(r:Int)(own other:List UInt8)(h0:eu List.length c.aF≤1048576∧eu List.length c.inbox≤1048576):So 174 [.agg (cF c),aL r, .a (.sl .u8 own), .a (.sl .u8 other)] [.agg (cF (gr c r own other)),bh (xy c r)]:=by
 refine aD X call174 func174 ntmps174 rfl rfl ?_
 intro zb
 refine av X [1,2,3,4,8] rfl (aS X [] [(14,⟨true,[.agg (cF c)]⟩)] [1,2,3,4,8,10] [] rfl (by(with_reducible and_intros)<;>first|exact⟨⟩|exact(eS c h0)) (aa (aS X [] [(16,⟨false,[bh (dR c)]⟩),(22,⟨false,[bh (inr r c.next 99999)]⟩)] [1,2,3,4,8,10,24] [] rfl (by(with_reducible and_intros);(iterate 2 all_goals try first|exact⟨⟩|exact(dB c)|exact fun _=>(aU r c.next 99999))) ?_)))
 refine ak rfl ?_ ?_<;>intro hb0
 ·have hk:xy c r=false:=dG hb0 (by simp only[xy,bK]<;>first|rfl|ac_rfl)
  have hc:=P0 (own:=own) (other:=other) hk
  exact aN X [8,9] rfl (by trivial) (aj (ah rfl (by and_intros<;>first|exact⟨⟩| (rw[hc];done)| (rw[hk];done))))
 ·have hk:xy c r=true:=dH hb0 (by simp only[xy,bK]<;>first|rfl|ac_rfl)
  obtain⟨hok,hn1,hn2,Wf⟩:=XM hk
  obtain⟨hu1,NJ,_,_,hs0,hs9,_,_⟩:=sC hok
  have hc:gr c r own other=⟨c.id,c.bG,c.key,c.seed,c.aF,if Bu c own then c.sent+1 else c.sent,if rj c other then c.inbox++ [(RZ (Dj c) (c.inbox.length:Int) other).body]else c.inbox,r+1⟩:=by rw[gr,if_pos hk]
  refine ay (aa (aS X [] [(35,⟨false,[.a (.sl .u8 (tq c c.sent))]⟩),(36,⟨false,[bh (own==(tq c c.sent))]⟩)] [1,3,4,8,10,37] [] rfl ⟨fun _=>jM own (tq c c.sent),fun h=>lY c hs0 (of_decide_eq_true h),⟨⟩⟩ ?_))
  refine ak rfl ?_ ?_<;>intro bt
  ·have hh:Bu c own=true:=sB bt (by simp only[Bu,bK]<;>first|rfl|ac_rfl)
   refine bT X [1,3,4,8,10] rfl ?_
   rw[aM (a:=c.sent+1) (by omega)]
   refine aa ?_
   have t1:=(pR (sR c.key (IntKind.i64.wrap (1-dS c))) (c.inbox.length:Int) other)
   refine bM X [] [(46,⟨false,[aL (dS c)]⟩),(48,⟨false,[aL (sR c.key (IntKind.i64.wrap (1-dS c)))]⟩),(53,⟨true,cg t1⟩)] [1,4,8,10,11,12] [] 98303 1 MO (by kernel_rfl) rfl (by kernel_rfl) (by(with_reducible and_intros);(iterate 3 all_goals try first|exact⟨⟩|exact(cS c)|exact(dM c.key (IntKind.i64.wrap (1-dS c)))|exact t1)) ?_
   rw[GW]
   refine aa (av X [1,8,10,11,67] rfl ?_)
   refine ak rfl ?_ ?_<;>intro bY
   ·have hg:rj c other=true:=sB bY (by simp only[rj,bK]<;>first|rfl|ac_rfl)
    refine fK X [1,8,10] rfl (by and_intros<;>first|exact⟨⟩|exact rfl| (simp only[b7,maxLen,lens];omega)) (av X [8,10] rfl ?_)
    rw[aM (a:=r+1) (by omega)]
    exact aN X [8,9] rfl (by trivial) (aj (ah rfl (by and_intros<;>first|exact⟨⟩| (rw[hc];done)| (rw[hc];simp only[hh,if_true];done)| (rw[hc];simp only[hg,if_true];done)| (rw[hk];done))))
   ·have hg:rj c other=false:=xm bY (by simp only[rj,bK]<;>first|rfl|ac_rfl)
    refine ay (av X [8,10] rfl ?_)
    rw[aM (a:=r+1) (by omega)]
    exact aN X [8,9] rfl (by trivial) (aj (ah rfl (by and_intros<;>first|exact⟨⟩| (rw[hc];done)| (rw[hc];simp only[hh,if_true];done)| (rw[hc];simp[hg];done)| (rw[hk];done))))
  ·have hh:Bu c own=false:=xm bt (by simp only[Bu,bK]<;>first|rfl|ac_rfl)
   refine ay (aa ?_)
   have t1:=(pR (sR c.key (IntKind.i64.wrap (1-dS c))) (c.inbox.length:Int) other)
   refine bM X [] [(46,⟨false,[aL (dS c)]⟩),(48,⟨false,[aL (sR c.key (IntKind.i64.wrap (1-dS c)))]⟩),(53,⟨true,cg t1⟩)] [1,4,8,10,11,12] [] 98303 1 MO (by kernel_rfl) rfl (by kernel_rfl) (by(with_reducible and_intros);(iterate 3 all_goals try first|exact⟨⟩|exact(cS c)|exact(dM c.key (IntKind.i64.wrap (1-dS c)))|exact t1)) ?_
   rw[GW]
   refine aa (av X [1,8,10,11,67] rfl ?_)
   refine ak rfl ?_ ?_<;>intro bY
   ·have hg:rj c other=true:=sB bY (by simp only[rj,bK]<;>first|rfl|ac_rfl)
    refine fK X [1,8,10] rfl (by and_intros<;>first|exact⟨⟩|exact rfl| (simp only[b7,maxLen,lens];omega)) (av X [8,10] rfl ?_)
    rw[aM (a:=r+1) (by omega)]
    exact aN X [8,9] rfl (by trivial) (aj (ah rfl (by and_intros<;>first|exact⟨⟩| (rw[hc];done)| (rw[hc];simp[hh];done)| (rw[hc];simp only[hg,if_true];done)| (rw[hk];done))))
   ·have hg:rj c other=false:=xm bY (by simp only[rj,bK]<;>first|rfl|ac_rfl)
    refine ay (av X [8,10] rfl ?_)
    rw[aM (a:=r+1) (by omega)]
    exact aN X [8,9] rfl (by trivial) (aj (ah rfl (by and_intros<;>first|exact⟨⟩| (rw[hc];done)| (rw[hc];simp[hh];done)| (rw[hc];simp[hg];done)| (rw[hk];done))))
theorem fM(d:bP)(r:Int)(own other:List UInt8)(h0:cD d≤1048576):So 145 [.agg (cQ d),aL r, .a (.sl .u8 own), .a (.sl .u8 other)] [.agg (cQ (rdev d r own other)),bh (Bw d r)]:=by
 refine aD X call145 func145 ntmps145 rfl rfl ?_
 intro zb
 have hc1:cT d.live≤1048576∧cT d.saved≤1048576:=by unfold cD at h0;omega
 unfold cT at hc1
 refine av X [1,2,3,4,8] rfl (aa ?_)
 have t1:=(vY d.live r own other ⟨by omega,by omega⟩)
 refine aH X [] [(19,⟨true,cg t1⟩)] [4,8,10,11] [] rfl (by(with_reducible and_intros)<;>first|exact⟨⟩|exact t1) (aa (aS X [] [(23,⟨false,[bh (dL d)]⟩)] [4,8,10,28] [] rfl (by(with_reducible and_intros)<;>first|exact⟨⟩|exact(dD d)) ?_))
 refine ak rfl ?_ ?_<;>intro hb0
 ·have hk:Bw d r=false:=dG hb0 (by simp only[Bw,bK]<;>first|rfl|ac_rfl)
  have hd:=Ui (own:=own) (other:=other) hk
  exact aS X [] [(30,⟨true,[.agg (cQ d)]⟩)] [8,9] [] rfl (by(with_reducible and_intros)<;>first|exact⟨⟩|exact(hY d h0)) (aj (ah rfl (by and_intros<;>first|exact⟨⟩| (rw[hd];done)| (rw[hk];done))))
 ·have hk:Bw d r=true:=dH hb0 (by simp only[Bw,bK]<;>first|rfl|ac_rfl)
  have hz:=P1 (own:=own) (other:=other) hk
  refine ay (eI X [] [(34,⟨true,[.agg (cF d.saved)]⟩)] [8,12] [] 6 MO (by kernel_rfl) rfl (by(with_reducible and_intros)<;>first|exact⟨⟩|exact(eS d.saved ⟨by omega,by omega⟩)) (aa (aS X [] [(37,⟨false,[bh (Bv (nW d r own other))]⟩)] [8,12,37] [] rfl (by(with_reducible and_intros)<;>first|exact⟨⟩|exact(xF (nW d r own other))) ?_)))
  refine ak rfl ?_ ?_<;>intro bt
  ·have hd:=Uj hk bt
   exact aS X [] [(39,⟨true,[.agg (cQ (R4 (nW d r own other)))]⟩)] [8,9] [] rfl (by(with_reducible and_intros)<;>first|exact⟨⟩|exact(vW (nW d r own other) hz)) (aj (ah rfl (by and_intros<;>first|exact⟨⟩| (rw[hd];done)| (rw[hk];done))))
  ·have hd:=Uk hk bt
   exact ay (aN X [8,9] rfl (by trivial) (aj (ah rfl (by and_intros<;>first|exact⟨⟩| (rw[hd];rfl;done)| (rw[hk];done)))))
theorem xG(x:bw)(h0:wB x):So 126 [.agg (bX x)] [.agg (bX (B4 x))]:=by
 refine aD X call126 func126 ntmps126 rfl rfl ?_
 intro zb
 have hls:eu eg x.an≤1048576∧eu cD x.af≤1048576∧gY x.aJ≤1048576∧x.replaced.length≤4194304:=h0
 have lI:=gN hls.2.1
 refine av X [1,2] rfl (aS X [] [(17,⟨true,[.agg (bX x)]⟩)] [1,2,3] [] rfl (by(with_reducible and_intros)<;>first|exact⟨⟩|exact(eT x h0)) (aa (aS X [] [(19,⟨false,[bh (okW x)]⟩)] [1,2,3,20] [] rfl (by(with_reducible and_intros)<;>first|exact⟨⟩|exact(dc x)) ?_)))
 refine ak rfl ?_ ?_<;>intro hb0
 ·have hk0:okW x=false:=by simpa using hb0
  have hw:=XP hk0
  exact aN X [2] rfl (by trivial) (aj (ah rfl (by and_intros<;>first|exact⟨⟩| (rw[hw];done))))
 ·have hk0:okW x=true:=by simpa using hb0
  have hw:=Ul hk0
  have har:=Pz hk0
  have hd8:=(vF (lW hk0)).2.1
  refine ay (aa (av X [1,2,3,4] rfl ?_))
  refine aq (aQ (fun k=>k≤x.af.length) (fun k:Nat=> [(4, .one ((aL k)))]) (fun k=> [(19, .arr .bP (Pr x k))]) (fun k=>x.af.length-k) 0 (fun k=>rfl) (Nat.zero_le _) rfl ?_)
  intro k hk
  have zx:=TS x k hk
  refine aa (av X [1,2,3,4,26] rfl ?_)
  refine ak rfl ?_ ?_<;>intro bt
  ·try simp only[aP]at bt
   rw[zx]at bt
   have hrg:=TR x k bt
   have h00:=VE x k bt
   have B2:=Bp x.aJ.rounds (x.af.getD k (aI .bP)).live.next
   have afQ:(xA x (x.af.getD k (aI .bP))).length≤x.aJ.rounds.length:=B2
   have hrq:(jq x.aJ.rounds (x.af.getD k (aI .bP)).live.next).length=(xA x (x.af.getD k (aI .bP))).length:=rfl
   refine ay (aa (aq (aa ?_)))
   have t1:=(uf x.aJ (((Pr x k).getD k (aI .bP)).live.next) (by omega))
   refine ct X [] [(38,⟨true,cg t1⟩)] [1,2,3,4,5] [] 11 MO (by kernel_rfl) rfl (by(with_reducible and_intros)<;>first|exact⟨⟩|exact t1| (intros;omega)) ?_
   rw[hrg]
   refine av X [1,2,3,4,5,6] rfl ?_
   refine aq (aQ (fun k1=>k1≤(xA x (x.af.getD k (aI .bP))).length) (fun k1:Nat=> [(6, .one ((aL k1)))]) (fun k1=> [(19, .arr .bP (pQ x k k1))]) (fun k1=>(xA x (x.af.getD k (aI .bP))).length-k1) 0 (fun k1=>rfl) (Nat.zero_le _) (by rw[h00];rfl) ?_)
   intro k1 hk1
   have nB:=TP x k k1 bt
   refine aa (av X [1,2,3,4,5,6,42] rfl ?_)
   refine ak rfl ?_ ?_<;>intro bY
   ·try simp only[aP]at bY
    have hs:=P3 x k k1 bt bY
    have hsz:=XO hk0 bt k1
    refine ay (aa (aq (aN X [1,2,3,4,5,6,7] rfl (by and_intros<;>first|exact⟨⟩| (intros;omega)) (aa ?_))))
    have t1:=(vX (((pQ x k k1).getD k (aI .bP)).live) ((xA x (x.af.getD k (aI .bP))).getD k1 (aI .int)) x.rows)
    refine ct X [] [(59,⟨false,cg t1⟩)] [1,2,3,4,5,6,7,8,9] [] 13 MO (by kernel_rfl) rfl (by(with_reducible and_intros)<;>first|exact⟨⟩|exact t1| (intros;omega)) (aa ?_)
    have t1:=(rq x ((xA x (x.af.getD k (aI .bP))).getD k1 (aI .int)) (mG ((pQ x k k1).getD k (aI .bP)).live.key ((xA x (x.af.getD k (aI .bP))).getD k1 (aI .int)) (dS ((pQ x k k1).getD k (aI .bP)).live) x.rows) (((pQ x k k1).getD k (aI .bP)).live.seed) hk0)
    refine ct X [] [(71,⟨true,cg t1⟩)] [1,2,3,4,5,6,7,9,10] [] 14 MO (by kernel_rfl) rfl (by(with_reducible and_intros)<;>first|exact⟨⟩|exact t1| (intros;omega)) (aa ?_)
    have t1:=(rq x ((xA x (x.af.getD k (aI .bP))).getD k1 (aI .int)) (mG ((pQ x k k1).getD k (aI .bP)).live.key ((xA x (x.af.getD k (aI .bP))).getD k1 (aI .int)) (1-dS ((pQ x k k1).getD k (aI .bP)).live) x.rows) (((pQ x k k1).getD k (aI .bP)).live.seed) hk0)
    refine ct X [] [(83,⟨true,cg t1⟩)] [1,2,3,4,5,6,10,12] [] 14 MO (by kernel_rfl) rfl (by(with_reducible and_intros)<;>first|exact⟨⟩|exact t1| (intros;omega)) (aa ?_)
    have t1:=(fM ((pQ x k k1).getD k (aI .bP)) ((xA x (x.af.getD k (aI .bP))).getD k1 (aI .int)) (L7 x ((xA x (x.af.getD k (aI .bP))).getD k1 (aI .int)) (mG ((pQ x k k1).getD k (aI .bP)).live.key ((xA x (x.af.getD k (aI .bP))).getD k1 (aI .int)) (dS ((pQ x k k1).getD k (aI .bP)).live) x.rows) ((pQ x k k1).getD k (aI .bP)).live.seed) (L7 x ((xA x (x.af.getD k (aI .bP))).getD k1 (aI .int)) (mG ((pQ x k k1).getD k (aI .bP)).live.key ((xA x (x.af.getD k (aI .bP))).getD k1 (aI .int)) (1-dS ((pQ x k k1).getD k (aI .bP)).live) x.rows) ((pQ x k k1).getD k (aI .bP)).live.seed) hsz)
    refine bM X [] [(98,⟨true,cg t1⟩)] [1,2,3,4,5,6,14] [] 196607 1 MO (by kernel_rfl) rfl (by kernel_rfl) (by(with_reducible and_intros)<;>first|exact⟨⟩|exact t1| (intros;omega)) (fK X [1,2,3,4,5,6] rfl (by and_intros<;>first|exact⟨⟩| (intros;omega)) (bT X [1,2,3,4,5,6] rfl ?_))
    refine⟨k1+1,by omega,by omega,?_⟩
    rw[cw _ k1 rfl (by omega), ←hs]
    try rfl
   ·try simp only[aP]at bY
    rw[TQ x k k1 bt bY]
    refine aV (bT X [1,2,3,4] rfl ?_)
    refine⟨k+1,by omega,by omega,?_⟩
    rw[cw _ k rfl (by omega)]
    try rfl
  ·try simp only[aP]at bt
   rw[zx]at bt
   exact aV (aN X [2] rfl (by trivial) (aj (ah rfl (by and_intros<;>first|exact⟨⟩| (rw[hw];done)| (rw[hw,TT x k (by omega) (by omega)];done)))))
end
section
set_option maxRecDepth 100000
theorem BD(s:bD)(c:Int)(hz:s.received.length≤1048576∧ ∀r,r∈s.received→eu List.length r.share.rows≤1048576):So 194 [.agg (cH s),aL c] [.agg (bQ (Bl s.received c)),bh (pO s.received c)]:=by
 refine aD X call194 func194 ntmps194 rfl rfl ?_
 intro zb
 refine bV 0 3 rfl rfl (fun SD=>(av X [1,2,4] rfl (aa (av X [1,2,4,6] rfl ?_))))
 refine aq (aQ (fun k=>k≤s.received.length∧(s.received.take k).any (VC c)=false) (fun k:Nat=> [(6, .one ((aL k)))]) (fun k=> []) (fun k=>s.received.length-k) 0 (fun k=>rfl) ⟨Nat.zero_le _,rfl⟩ rfl ?_)
 rintro k ⟨hk,hall⟩
 refine aa (av X [1,2,4,6,11] rfl ?_)
 refine ak rfl ?_ ?_<;>intro hb0
 ·try simp only[aP]at hb0
  refine ay (aa (aq (aN X [1,2,4,6,21] rfl (by and_intros<;>first|exact⟨⟩| (intros;omega)) ?_)))
  refine ak rfl ?_ ?_<;>intro bt
  ·have hh:=Xj hb0 hall bt
   exact aS X [] [(28,⟨true,[.agg (bQ ((s.received.getD k (aI .aX)).share))]⟩)] [4,5] [] rfl (by(with_reducible and_intros)<;>first|exact⟨⟩|exact(dr ((s.received.getD k (aI .aX)).share) (hz.2 _ (getD_in _ hb0)))| (intros;omega)) (aj (ah rfl ⟨by rw[hh.2],by rw[hh.1],⟨⟩⟩))
  ·refine ay (bT X [1,2,4,6] rfl ?_)
   refine⟨k+1,⟨by omega,A7 (aI .aX) hb0 hall bt⟩,by omega,?_⟩
   rw[cw _ k rfl (by omega)]
   try rfl
 ·try simp only[aP]at hb0
  exact aV (aN X [4,5] rfl (by trivial) (aj (ah rfl ⟨by rw[(J6 (by rw[←hall,List.take_of_length_le hb0])).2],by rw[(J6 (by rw[←hall,List.take_of_length_le hb0])).1],⟨⟩⟩)))
theorem sW(s:bD)(c:Int)(d:DB)(hz:s.received.length≤1048576∧ ∀r,r∈s.received→eu List.length r.share.rows≤1048576)(hb: ∀r,r∈s.received→r.client<c)(hd:eu List.length d.rows≤1048576):So 93 [.agg (cH s),aL c, .agg (bQ d)] [.agg (cH (J5 s c d)),bh (pN s c d)]:=by
 refine aD X call93 func93 ntmps93 rfl rfl ?_
 intro zb
 have nC:=hz.1
 refine av X [1,3,5,6] rfl (aS X [] [(11,⟨true,[.agg (cH s)]⟩)] [1,3,5,6,8] [] rfl (by(with_reducible and_intros)<;>first|exact⟨⟩|exact(fU s hz)) (av X [1,3,5,6,8,9] rfl ?_))
 refine aa (aq (aQ (fun k=>k≤s.received.length) (fun k:Nat=> [(9, .one ((aL k)))]) (fun k=> []) (fun k=>s.received.length-k) 0 (fun k=>rfl) (Nat.zero_le _) rfl ?_))
 intro k hk
 refine aa (aN X [1,3,5,6,8,9,26] rfl (by refine⟨fun XR=> ?_,fun XR=> ?_,⟨⟩⟩<;>(have RW:decide ((k:Int)<(s.received.length:Int))=true:=XR;rw[decide_eq_true_eq]at RW;dsimp only[hyps,bg];omega)) ?_)
 refine ak rfl ?_ ?_<;>intro hb0
 ·have zx:k<s.received.length:=by simp only[nb]at hb0;omega
  have hlt:=hb _ (getD_in (aI .aX) zx)
  refine ay (aq (bT X [1,3,5,6,8,9] rfl ?_))
  refine⟨k+1,by omega,by omega,?_⟩
  rw[cw _ k rfl (by omega)]
  try rfl
 ·have zx:k=s.received.length:=TL hb hk hb0
  subst zx
  refine Pk 8 3 rfl (aV (aa (bM X [(34,29),(40,29),(45,29)] [(37,⟨true,[.agg (bQ d)]⟩),(600044,⟨true,[]⟩)] [3,6,8] [] 193503 259 MO (by kernel_rfl) rfl (by kernel_rfl) (by(repeat' with_reducible first|exact aB|refine aE ?_ ?_|apply And.intro)<;>first|exact(dr d hd)| (intros;omega)|exact rfl|exact⟨rfl,aA _ (by decide)⟩| (simp only[b7,maxLen,lens];omega)) ?_)))
  rw[ins_eq]
  refine aa (aS X [] [(48,⟨false,[bh (cN s)]⟩),(52,⟨false,[bh (cN (ld s c d))]⟩)] [3,6,8,54] [] rfl (by(with_reducible and_intros);(iterate 2 all_goals try first|exact⟨⟩|exact(cK s)|exact fun _=>(cK (ld s c d)))) ?_)
  refine ak rfl ?_ ?_<;>intro bt
  ·have hr:pN s c d=false:=aap bt
   exact aS X [] [(56,⟨true,[.agg (cH s)]⟩)] [6,7] [] rfl (by(with_reducible and_intros)<;>first|exact⟨⟩|exact(fU s hz)) (aj (ah rfl (by and_intros<;>first|exact⟨⟩| (rw[Xk hr];done)| (rw[hr];done))))
  ·have hr:pN s c d=true:=aaq bt
   exact ay (aN X [6,7] rfl (by trivial) (aj (ah rfl (by and_intros<;>first|exact⟨⟩| (rw[J7 hr];rfl;done)| (rw[hr];done)))))
end
section
set_option maxRecDepth 100000
theorem ry(x:bw)(h0:wB x):So 123 [.agg (bX x)] [.a (.sl .bD (cz x)), .a (.sl .fA (l5 x))]:=by
 refine aD X call123 func123 ntmps123 rfl rfl ?_
 intro zb
 refine bV 0 1 rfl rfl (fun hl1=> ?_)
 refine bV 0 2 rfl rfl (fun lI=> ?_)
 have sP:=Gu h0
 refine av X [1] rfl (aN X [1,4] rfl (by and_intros<;>first|exact⟨⟩|exact rfl) (aa (aS X [] [(13,⟨false,[bh (okW x)]⟩)] [1,4,14] [] rfl (by(with_reducible and_intros)<;>first|exact⟨⟩|exact(dc x)) ?_)))
 refine ak rfl ?_ ?_<;>intro hb0
 ·have hk0:okW x=false:=by simpa using hb0
  exact aN X [2,3] rfl (by and_intros<;>first|exact⟨⟩|exact rfl) (aj (ah rfl ⟨by rw[cz,if_neg (by rw[hk0];decide)],by rw[l5,if_neg (by rw[hk0];decide)],⟨⟩⟩))
 ·have hk0:okW x=true:=by simpa using hb0
  have afR:=eX hk0
  have hdv:=(vF (lW hk0)).2.1
  have hc0:=(col hk0 0 (Nat.zero_le _)).sml
  refine ay (aS X [] [(18,⟨true,[.agg (bX x)]⟩)] [1,4,5] [] rfl ⟨⟨_,_,_,Tryz.underlying44,rfl,rfl,Tryz.underlying41,rfl⟩,eT x h0,⟨⟩⟩ (aa (av X [1,4,5,6] rfl ?_)))
  refine aq (aQ (fun k=>k≤x.af.length) (fun k:Nat=> [(6, .one ((aL k)))]) (fun k=> [(19, .arr .bD (uc x k)),(11, .arr .fA (Gw x k))]) (fun k=>x.af.length-k) 0 (fun k=>rfl) (Nat.zero_le _) rfl ?_)
  intro k hk
  refine aa (av X [1,4,5,6,24] rfl ?_)
  refine ak rfl ?_ ?_<;>intro bt
  ·try simp only[aP]at bt
   have R5:k<x.af.length:=by omega
   have hwl:(dX x (k:Int)).length=x.an.length:=kL hk0 (by omega)
   refine ay (aa (aq (aS X [] [(29,⟨true,[.a (.sl .DB (dX x (k:Int)))]⟩)] [1,4,5,6,7] [] rfl (by(with_reducible and_intros)<;>first|exact⟨⟩|exact(xp x (k:Int) (by first|assumption|omega| (simp;done)| (simp;omega)) (by first|assumption|omega| (simp;done)| (simp;omega)))) (av X [1,4,5,6,7,8] rfl ?_))))
   refine aq (aQ (fun k1=>k1≤x.an.length) (fun k1:Nat=> [(8, .one ((aL k1)))]) (fun k1=> [(19, .arr .bD (xq x k k1)),(11, .arr .fA (Gw x k++Gv x k k1))]) (fun k1=>x.an.length-k1) 0 (fun k1=>rfl) (Nat.zero_le _) (by simp[xq,Gv]) ?_)
   intro k1 hk1
   have nB:=Pe hk0 R5 hk1
   refine aa (av X [1,4,5,6,7,8,33] rfl ?_)
   refine ak rfl ?_ ?_<;>intro bY
   ·try simp only[aP]at bY
    rw[nB]at bY
    have R6:=Pg hk0 R5 (by omega:k1<x.an.length)
    have hs1:=L3 hk0 R5 (by omega:k1<x.an.length)
    have hs2:=Dd x k k1
    have hrl:=Gx x k
    have hrp:=Bm x k k1
    have U8:k*x.an.length≤8*4:=Nat.mul_le_mul (by omega) (by omega)
    refine ay (aa (aq (aa ?_)))
    have t1:=(sW ((xq x k k1).getD k1 (aI .bD)) (k:Int) ((dX x (k:Int)).getD k1 (aI .DB)) R6.2.1 R6.1 R6.2.2)
    refine bM X [] [(46,⟨true,cg t1⟩)] [1,4,5,6,7,8,9] [] 49151 1 MO (by kernel_rfl) rfl (by kernel_rfl) (by(with_reducible and_intros)<;>first|exact⟨⟩|exact t1| (intros;omega)) (aN X [1,4,5,6,7,8] rfl (by and_intros<;>first|exact⟨⟩| (intros;omega)) ?_)
    have t1:=(ue (oY x.bq (k1:Int)) (k1:Int) (k:Int) x.round ((dX x (k:Int)).getD k1 (aI .DB)) R6.2.2)
    refine ct X [(68,11)] [(57,⟨false,[aL (oY x.bq (k1:Int))]⟩),(66,⟨false,cg t1⟩)] [1,4,5,6,7,8] [] 15 MO (by kernel_rfl) rfl (by(repeat' with_reducible first|exact aB|refine aE ?_ ?_|apply And.intro);(iterate 2 all_goals try first|exact(iG x.bq (k1:Int))|exact t1);all_goals first| (intros;omega)|exact rfl|exact⟨rfl,aA _ (by decide)⟩| (simp only[b7,maxLen,lens];omega)) ?_
    refine bT X [1,4,5,6,7,8] rfl ?_
    refine⟨k1+1,by omega,by omega,?_⟩
    rw[cw _ k1 rfl (by omega), ←hs1,hs2, ←List.append_assoc]
    try rfl
   ·try simp only[aP]at bY
    rw[nB]at bY
    rw[Pf hk0 R5 (by omega),show k1=x.an.length by omega, ←De]
    refine aV (bT X [1,4,5,6] rfl ?_)
    refine⟨k+1,by omega,by omega,?_⟩
    rw[cw _ k rfl (by omega)]
    try rfl
  ·try simp only[aP]at bt
   exact aV (av X [2,3] rfl (aj (ah rfl ⟨by rw[cz,if_pos hk0,show x.af.length=k by omega],by rw[l5,if_pos hk0,show x.af.length=k by omega],⟨⟩⟩)))
end
section
set_option maxRecDepth 100000
theorem kB(s:bD)(f:Nat)(hf:f≤8)(hz: ∀r,r∈s.received→eu List.length r.share.rows≤1048576):So 183 [.agg (cH s),aL ((f:Nat):Int)] [.agg (bQ (jD s.rows (s.received.drop f)))]:=by
 refine aD X call183 func183 ntmps183 rfl rfl ?_
 intro zb
 refine bV 0 3 rfl rfl (fun nC=>(av X [1,2,4] rfl (aS X [] [(11,⟨true,[.agg (bQ (dO s.rows))]⟩)] [1,2,4,5] [] rfl (by(with_reducible and_intros)<;>first|exact⟨⟩|exact(jo s.rows)) (aa (av X [2,4,5,6] rfl ?_)))))
 refine aq (aQ (fun k=>f≤k∧(k≤s.received.length∨k=f)) (fun k:Nat=> [(6, .one ((aL k)))]) (fun k=> [(11, .arr (.sl .u8) (jD s.rows ((s.received.drop f).take (k-f))).rows)]) (fun k=>s.received.length-k) f (fun k=>rfl) ⟨Nat.le_refl _,Or.inr rfl⟩ (by simp[jD]) ?_)
 rintro k ⟨hk,hk2⟩
 refine aa (av X [2,4,5,6,17] rfl ?_)
 refine ak rfl ?_ ?_<;>intro hb0
 ·try simp only[aP]at hb0
  have hs:=Mc s.rows s.received f k hb0 hk
  refine ay (aa (aq (aa (bM X [] [(28,⟨true,[.agg (bQ (gZ (jD s.rows ((s.received.drop f).take (k-f))) ((s.received.getD k (aI .aX)).share))),bh (lC (jD s.rows ((s.received.drop f).take (k-f))) ((s.received.getD k (aI .aX)).share))]⟩)] [2,4,5,6,7] [] 12287 1 MO (by kernel_rfl) rfl (by kernel_rfl) (by(with_reducible and_intros)<;>first|exact⟨⟩|exact(iP (jD s.rows ((s.received.drop f).take (k-f))) ((s.received.getD k (aI .aX)).share) (T6 _ _) (hz _ (getD_in _ hb0)))| (intros;omega)) (fK X [2,4,5,6] rfl (by trivial) (tX 5 0 11 rfl (bT X [2,4,5,6] rfl ?_)))))))
  refine⟨k+1,by omega,by omega,?_⟩
  rw[cw _ k rfl (by omega),hs]
  try rfl
 ·try simp only[aP]at hb0
  exact aV (aN X [4] rfl (by trivial) (aj (ah rfl ⟨by rw[PF _ _ _ _ hb0],⟨⟩⟩)))
theorem uk(s:bD):So 197 [.agg (cH s)] [.agg (bQ (Ci s))]:=by
 refine aD X call197 func197 ntmps197 rfl rfl ?_
 intro zb
 refine av X [1,2] rfl (aa (aS X [] [(4,⟨false,[bh (cN s)]⟩)] [1,2,5] [] rfl (by(with_reducible and_intros)<;>first|exact⟨⟩|exact(cK s)) ?_))
 refine ak rfl ?_ ?_<;>intro hb0
 ·have hk:cN s=false:=by simpa using hb0
  exact aN X [2] rfl (by trivial) (aj (ah rfl ⟨by rw[Ci,hk];rfl,⟨⟩⟩))
 ·have hk:cN s=true:=by simpa using hb0
  have hsz:=GK hk
  exact ay (aS X [] [(8,⟨true,[.agg (bQ (jD s.rows (s.received.drop 0)))]⟩)] [2] [] rfl (by(with_reducible and_intros)<;>first|exact⟨⟩|exact(kB s 0 (by decide) hsz)) (aj (ah rfl ⟨by rw[Ci,if_pos hk];rfl,⟨⟩⟩)))
theorem sX(s:bD):So 153 [.agg (cH s)] [.agg (bQ (xD s))]:=by
 refine aD X call153 func153 ntmps153 rfl rfl ?_
 intro zb
 refine av X [1,2] rfl (aa (aS X [] [(5,⟨false,[bh (cN s)]⟩)] [1,2,6] [] rfl (by(with_reducible and_intros)<;>first|exact⟨⟩|exact(cK s)) ?_))
 refine ak rfl ?_ ?_<;>intro hb0
 ·have hk:cN s=false:=by simpa using hb0
  exact aN X [2] rfl (by trivial) (aj (ah rfl ⟨by rw[xD,hk];rfl,⟨⟩⟩))
 ·have hk:cN s=true:=by simpa using hb0
  have hsz:=GK hk
  have hin:=XE hk
  refine ay (aa (av X [1,2,9] rfl (aq (av X [1,2,9,10] rfl ?_))))
  refine ak rfl ?_ ?_<;>intro bt
  ·try simp only[aP]at bt
   have hr:=Md s (by omega)
   exact aS X [] [(13,⟨true,[.agg (bQ (jD s.rows (s.received.drop 1)))]⟩)] [2] [] rfl (by(with_reducible and_intros)<;>first|exact⟨⟩|exact(kB s 1 (by decide) hsz)) (aj (ah rfl ⟨by rw[xD,if_pos hk,if_neg (by omega),hr],⟨⟩⟩))
  ·try simp only[aP]at bt
   have hr:=PG s (by omega)
   rw[hr]at hin
   have afS:0<((jD s.rows s.received).rows.getD (Int.toNat 0) (aI (.sl .u8))).length:=hin.2
   have afT:0<((jD s.rows (List.drop 0 s.received)).rows.getD (Int.toNat 0) (aI (.sl .u8))).length:=hin.2
   have afU:0<(jD s.rows (List.drop 0 s.received)).rows.length:=hin.1
   refine av X [1,2,14] rfl ?_
   refine ak rfl ?_ ?_<;>intro bY
   ·try simp only[aP]at bY
    exact aS X [] [(17,⟨true,[.agg (bQ (jD s.rows (s.received.drop 0)))]⟩)] [2,3] [] rfl (by(with_reducible and_intros)<;>first|exact⟨⟩|exact(kB s 0 (by decide) hsz)) (eI X [] [] [2,3] [] 12 MO (by kernel_rfl) rfl (by and_intros<;>first|exact⟨⟩| (intros;omega)|exact(cj _).1|exact(cj _).2) (aN X [2] rfl (by trivial) (aj (ah rfl ⟨by rw[xD,if_pos hk,if_pos (by omega),hr];exact alt_eq _,⟨⟩⟩))))
   ·try simp only[aP]at bY
    exact ay (aS X [] [(32,⟨true,[.agg (bQ (jD s.rows (s.received.drop 0)))]⟩)] [2] [] rfl (by(with_reducible and_intros)<;>first|exact⟨⟩|exact(kB s 0 (by decide) hsz)) (aj (ah rfl ⟨by rw[xD,if_pos hk,if_neg (by omega),hr];rfl,⟨⟩⟩)))
theorem p8(a b:DB):So 196 [.agg (bQ a), .agg (bQ b)] [bh (a.rows==b.rows)]:=by
 refine aD X call196 func196 ntmps196 rfl rfl ?_
 intro zb
 exact av X [2,3] rfl (aS X [] [(9,⟨false,[bh (a.rows==b.rows)]⟩)] [4] [] rfl (by(with_reducible and_intros)<;>first|exact⟨⟩|exact(jN a.rows b.rows)) (aj (ah rfl ⟨rfl,⟨⟩⟩)))
theorem rz(key:Int)(r:fA):So 193 [aL key, .agg (oB r)] [bh (T9 key r)]:=by
 refine aD X call193 func193 ntmps193 rfl rfl ?_
 intro zb
 exact av X [0,3] rfl (eI X [] [(9,⟨false,[aL (TN key r.server r.client r.round r.qu)]⟩)] [4] [] 7 MO (by kernel_rfl) rfl (by(with_reducible and_intros)<;>first|exact⟨⟩|exact(mW key r)) (aj (ah rfl ⟨(congrArg Value.bool (by simp only[T9,bK]<;>first|rfl|ac_rfl)),⟨⟩⟩)))
theorem p9(r:fA)(d:DB)(hd:eu List.length d.rows≤1048576):So 195 [.agg (oB r), .agg (bQ d)] [bh (PJ r d)]:=by
 refine aD X call195 func195 ntmps195 rfl rfl ?_
 intro zb
 exact av X [2,3] rfl (eI X [] [(12,⟨false,[aL (IM r.client r.round d)]⟩)] [4] [] 10 MO (by kernel_rfl) rfl (by(with_reducible and_intros)<;>first|exact⟨⟩|exact(l7 r.client r.round d hd)) (aj (ah rfl ⟨(congrArg Value.bool (by simp only[PJ,bK]<;>first|rfl|ac_rfl)),⟨⟩⟩)))
theorem um(key:Int)(s:bD)(p:DB)(l:List fA)(hz:s.received.length≤1048576∧ ∀r,r∈s.received→eu List.length r.share.rows≤1048576)(hp:eu List.length p.rows≤1048576):So 163 [aL key, .agg (cH s), .agg (bQ p), .a (.sl .fA l)] [aL (Cj key s p l)]:=by
 refine aD X call163 func163 ntmps163 rfl rfl ?_
 intro zb
 refine eO 3 rfl (fun nC=>(av X [0,3,5,6] rfl (aa (av X [0,3,5,6,9] rfl ?_))))
 refine aq (aQ (fun k=>k≤l.length∧ ∀j,j<k→iZ key s (l.getD j (aI .fA))=0) (fun k:Nat=> [(9, .one ((aL k)))]) (fun k=> []) (fun k=>l.length-k) 0 (fun k=>rfl) ⟨Nat.zero_le _,fun j hj=>absurd hj (Nat.not_lt_zero _)⟩ rfl ?_)
 rintro k ⟨hk,hall⟩
 refine aa (av X [0,3,5,6,9,16] rfl ?_)
 refine ak rfl ?_ ?_<;>intro hb0
 ·try simp only[aP]at hb0
  refine ay (aa (aq (aN X [0,3,5,6,9,10] rfl (by and_intros<;>first|exact⟨⟩| (intros;omega)) (aa (aS X [] [(38,⟨false,[bh (T9 key (l.getD k (aI .fA)))]⟩)] [0,3,5,6,9,10,40] [] rfl (by(with_reducible and_intros)<;>first|exact⟨⟩|exact fun _=>(rz key (l.getD k (aI .fA)))) ?_)))))
  refine ak rfl ?_ ?_<;>intro bt
  ·have hsk:vQ key s (l.getD k (aI .fA))=true:=sB bt (by simp only[vQ,bK]<;>first|rfl|ac_rfl)
   refine aV (bT X [0,3,5,6,9] rfl ?_)
   refine⟨k+1,⟨by omega,Bx hall (ads hsk)⟩,by omega,?_⟩
   rw[cw _ k rfl (by omega)]
   try rfl
  ·have hsk:vQ key s (l.getD k (aI .fA))=false:=xm bt (by simp only[vQ,bK]<;>first|rfl|ac_rfl)
   refine ay (aa ?_)
   have t1:=(BD s ((l.getD k (aI .fA)).client) hz)
   refine aH X [] [(45,⟨true,cg t1⟩)] [0,3,5,6,9,10,11,12] [] rfl (by(with_reducible and_intros)<;>first|exact⟨⟩|exact t1) (aa (av X [0,3,5,6,9,10,11,49] rfl ?_))
   refine ak rfl ?_ ?_<;>intro bY
   ·have hsh:pO s.received (l.getD k (aI .fA)).client=false:=by simpa using bY
    have hf:=adp hsk hsh
    exact av X [8] rfl (aj (ah rfl ⟨by rw[GL hall hb0 (by rw[hf];decide),hf],⟨⟩⟩))
   ·have hsh:pO s.received (l.getD k (aI .fA)).client=true:=by simpa using bY
    have hsd:=IL (c:=(l.getD k (aI .fA)).client) hz.2
    refine ay (aa ?_)
    have t1:=(p9 (l.getD k (aI .fA)) (Bl s.received (l.getD k (aI .fA)).client) hsd)
    refine aH X [] [(52,⟨false,cg t1⟩)] [0,3,5,6,9,53] [] rfl (by(with_reducible and_intros)<;>first|exact⟨⟩|exact t1) ?_
    refine ak rfl ?_ ?_<;>intro fj
    ·have hf:=adq hsk hsh (by simpa using fj)
     exact av X [8] rfl (aj (ah rfl ⟨by rw[GL hall hb0 (by rw[hf];decide),hf],⟨⟩⟩))
    ·have hf:=adr hsk hsh (by simpa using fj)
     refine ay (bT X [0,3,5,6,9] rfl ?_)
     refine⟨k+1,⟨by omega,Bx hall hf⟩,by omega,?_⟩
     rw[cw _ k rfl (by omega)]
     try rfl
 ·try simp only[aP]at hb0
  refine aV (aa (eI X [] [(55,⟨false,[bh (cN s)]⟩),(60,⟨false,[.agg (bQ (Ci s))]⟩),(61,⟨false,[bh (p.rows==(Ci s).rows)]⟩)] [63] [] 10 MO (by kernel_rfl) rfl (by(with_reducible and_intros);(iterate 3 all_goals try first|exact⟨⟩|exact(cK s)|exact fun _=>(uk s)|exact fun _=>(p8 p (Ci s)))) ?_))
  refine ak rfl ?_ ?_<;>intro ql
  ·have hq:(cN s&&(p.rows==(Ci s).rows))=false:=dG ql (by simp only[bK]<;>first|rfl|ac_rfl)
   exact av X [8] rfl (aj (ah rfl ⟨by rw[GM hall hb0,hq];rfl,⟨⟩⟩))
  ·have hq:(cN s&&(p.rows==(Ci s).rows))=true:=dH ql (by simp only[bK]<;>first|rfl|ac_rfl)
   exact ay (av X [8] rfl (aj (ah rfl ⟨by rw[GM hall hb0,hq];rfl,⟨⟩⟩)))
theorem vZ(m:Int)(sv:List bD)(pb:List DB)(rc:List fA)(hl:sv.length≤1048576)(hs: ∀s,s∈sv→oX s)(hp: ∀d,d∈pb→eu List.length d.rows≤1048576):So 129 [aL m, .a (.sl .bD sv), .a (.sl .DB pb), .a (.sl .fA rc)] [.a (.sl .int (lf m sv pb rc sv.length))]:=by
 refine aD X call129 func129 ntmps129 rfl rfl ?_
 intro zb
 refine eO 2 rfl (fun nC=>(av X [0,1,2,3] rfl (aN X [0,1,2,3,9] rfl (by and_intros<;>first|exact⟨⟩|exact rfl) (aa (av X [0,1,2,3,9,10] rfl ?_)))))
 refine aq (aQ (fun k=>k≤sv.length) (fun k:Nat=> [(10, .one ((aL k)))]) (fun k=> [(11, .arr .int (lf m sv pb rc k))]) (fun k=>sv.length-k) 0 (fun k=>rfl) (Nat.zero_le _) rfl ?_)
 intro k hk
 have hle:=ru m sv pb rc k
 refine aa (av X [0,1,2,3,9,10,15] rfl ?_)
 refine ak rfl ?_ ?_<;>intro hb0
 ·try simp only[aP]at hb0
  refine ay (aa (aq (eI X [] [(29,⟨false,[aL (oY m ((sv.getD k (aI .bD)).id))]⟩),(39,⟨false,[aL (Cj (oY m (sv.getD k (aI .bD)).id) (sv.getD k (aI .bD)) (pb.getD k (aI .DB)) rc)]⟩)] [0,1,2,3,9,10,41] [] 24 MO (by kernel_rfl) rfl (by(with_reducible and_intros);(iterate 3 all_goals try first|exact⟨⟩|exact fun _=>(iG m ((sv.getD k (aI .bD)).id))|exact fun _=>(um (oY m (sv.getD k (aI .bD)).id) (sv.getD k (aI .bD)) (pb.getD k (aI .DB)) rc (hs _ (getD_in _ hb0)) (PK hp k))|exact(by refine fun XR=> ?_;have RW:decide ((k:Int)≥(pb.length:Int))=false:=XR;rw[decide_eq_false_iff_not]at RW;dsimp only[hyps,bg];omega))) ?_)))
  refine ak rfl ?_ ?_<;>intro bt
  ·have hbd:GN m sv pb rc k=true:=sB bt (by simp only[GN,bK]<;>first|rfl|ac_rfl)
   have hs2:=GO hbd
   refine aH X [(49,11)] [] [0,1,2,3,9,10] [] rfl (by and_intros<;>first|exact⟨⟩| (intros;omega)|exact rfl| (simp only[b7,maxLen,lens];omega)) (bT X [0,1,2,3,9,10] rfl ?_)
   refine⟨k+1,by omega,by omega,?_⟩
   rw[cw _ k rfl (by omega),hs2]
   try rfl
  ·have hbd:GN m sv pb rc k=false:=xm bt (by simp only[GN,bK]<;>first|rfl|ac_rfl)
   have hs2:=Dk hbd
   refine ay (bT X [0,1,2,3,9,10] rfl ?_)
   refine⟨k+1,by omega,by omega,?_⟩
   rw[cw _ k rfl (by omega),hs2]
   try rfl
 ·try simp only[aP]at hb0
  exact aV (av X [8] rfl (aj (ah rfl ⟨by rw[show k=sv.length by omega],⟨⟩⟩)))
theorem v7(sv:List bD)(hl:sv.length≤1048576):So 124 [.a (.sl .bD sv)] [.a (.sl .DB (dU sv))]:=by
 refine aD X call124 func124 ntmps124 rfl rfl ?_
 intro zb
 refine av X [0] rfl (aN X [0,3] rfl (by and_intros<;>first|exact⟨⟩|exact rfl) (aa (av X [0,3,4] rfl ?_)))
 refine aq (aQ (fun k=>k≤sv.length) (fun k:Nat=> [(4, .one ((aL k)))]) (fun k=> [(5, .arr .DB ((dU sv).take k))]) (fun k=>sv.length-k) 0 (fun k=>rfl) (Nat.zero_le _) rfl ?_)
 intro k hk
 have hle:=cI (dU sv) k
 refine aa (av X [0,3,4,9] rfl ?_)
 refine ak rfl ?_ ?_<;>intro hb0
 ·try simp only[aP]at hb0
  have hs:=Me sv k hb0
  refine ay (aa (aq (aH X [(19,5)] [(17,⟨true,[.agg (bQ (xD (sv.getD k (aI .bD))))]⟩)] [0,3,4] [] rfl (by(with_reducible and_intros)<;>first|exact⟨⟩|exact(sX (sv.getD k (aI .bD)))| (intros;omega)|exact rfl| (simp only[b7,maxLen,lens];omega)) (bT X [0,3,4] rfl ?_))))
  refine⟨k+1,by omega,by omega,?_⟩
  rw[cw _ k rfl (by omega),hs]
  try rfl
 ·try simp only[aP]at hb0
  exact aV (av X [2] rfl (aj (ah rfl ⟨by rw[List.take_of_length_le (by unfold dU;rw[List.length_map];exact hb0)],⟨⟩⟩)))
end
section
set_option maxRecDepth 100000
theorem sY(key:Int)(a:dy)(h1:a.selection.length≤262144)(h2:a.data.length≤262144):So 190 [aL key, .agg (jG a)] [bh (XI key a)]:=by
 refine aD X call190 func190 ntmps190 rfl rfl ?_
 intro zb
 exact av X [0,3] rfl (eI X [] [(9,⟨false,[aL (L5 key a.server a.round a.selection a.data)]⟩)] [4] [] 7 MO (by kernel_rfl) rfl (by(with_reducible and_intros)<;>first|exact⟨⟩|exact(ko key a h1 h2)) (aj (ah rfl ⟨rfl,⟨⟩⟩)))
theorem rA(key:Int)(d:DB)(a:dy)(h1:a.selection.length≤262144)(h2:a.data.length≤262144):So 160 [aL key, .agg (bQ d), .agg (jG a)] [bh (fls key d a)]:=by
 refine aD X call160 func160 ntmps160 rfl rfl ?_
 intro zb
 exact av X [0,4,5] rfl (eI X [] [(9,⟨false,[bh (XI key a)]⟩),(16,⟨false,[.a (.sl .u8 (jQ d a.selection))]⟩),(17,⟨false,[bh (a.data==(jQ d a.selection))]⟩)] [6] [] 14 MO (by kernel_rfl) rfl (by(with_reducible and_intros);(iterate 3 all_goals try first|exact⟨⟩|exact(sY key a h1 h2)|exact fun _=>(mj d a.selection)|exact fun _=>(jM a.data (jQ d a.selection)))) (aj (ah rfl ⟨(congrArg Value.bool (by simp only[fls,bK]<;>first|rfl|ac_rfl)),⟨⟩⟩)))
theorem v8(l:List DB)(nC:l.length≤1048576)(ha:Bz l):So 154 [.a (.sl .DB l)] [.agg (bQ (jw l)),bh (EF l)]:=by
 refine aD X call154 func154 ntmps154 rfl rfl ?_
 intro zb
 refine av X [0,2] rfl (aa (aS X [] [(10,⟨false,[bh (cW (l.length:Int))]⟩),(16,⟨false,[bh (cR (l.getD (Int.toNat 0) (aI .DB)))]⟩)] [0,2,18] [] rfl ⟨fun _=>cJ _,fun h=>adw h,eR _,⟨⟩⟩ ?_))
 refine ak rfl ?_ ?_<;>intro hb0
 ·have hk:cW l.length=false:=adv ha hb0
  have hj:=IW (Uc hk)
  exact aN X [2,3] rfl (by trivial) (aj (ah rfl ⟨by rw[hj.1],by rw[hj.2],⟨⟩⟩))
 ·have hk:cW l.length=true:=aaJ hb0
  have hcb:=GQ hk
  have hrp:=Ud hk
  have h0z:=fT (nY ha 0)
  have hdl:(l.drop 1).length=l.length-1:=List.length_drop ..
  refine ay (aS X [] [(23,⟨true,[.agg (bQ (l.getD (Int.toNat 0) (aI .DB)))]⟩)] [0,2,4] [] rfl (by(with_reducible and_intros)<;>first|exact⟨⟩|exact(dr (l.getD (Int.toNat 0) (aI .DB)) h0z)| (intros;omega)) (aa (av X [0,2,4,5] rfl ?_)))
  refine aq (aQ (fun k=>(1≤k∧k≤l.length)∧Mf l=IV (Dl l (k-1)) ((l.drop 1).drop (k-1))) (fun k:Nat=> [(5, .one ((aL k)))]) (fun k=> [(23, .arr (.sl .u8) (Dl l (k-1)).rows)]) (fun k=>l.length-k) 1 (fun k=>rfl) ⟨by omega,hrp⟩ rfl ?_)
  rintro k ⟨hk0,MM⟩
  refine aa (av X [0,2,4,5,27] rfl ?_)
  refine ak rfl ?_ ?_<;>intro bt
  ·try simp only[aP]at bt
   have hz1:=fT (XH ha (k-1))
   have RW:=fT (nY ha k)
   have hge:(l.drop 1).getD (k-1) (aI .DB)=(l.getD k (aI .DB)):=by rw[GX,show k-1+1=k by omega]
   have R5:k-1<(l.drop 1).length:=by omega
   refine ay (aa (aq (aa ?_)))
   have t1:=(iP (Dl l (k-1)) (l.getD k (aI .DB)) hz1 RW)
   refine bM X [] [(36,⟨true,cg t1⟩)] [0,2,4,5,6,7] [] 3071 1 MO (by kernel_rfl) rfl (by kernel_rfl) (by(with_reducible and_intros)<;>first|exact⟨⟩|exact t1| (intros;omega)) (aa (av X [0,2,4,5,6,40] rfl ?_))
   refine ak rfl ?_ ?_<;>intro bY
   ·have hx:lC (Dl l (k-1)) (l.getD k (aI .DB))=false:=by simpa using bY
    have hj:=IW (MM.trans (XG l (k-1) R5 (by rw[hge];exact hx)))
    exact aN X [2,3] rfl (by trivial) (aj (ah rfl ⟨by rw[hj.1],by rw[hj.2],⟨⟩⟩))
   ·have hx:lC (Dl l (k-1)) (l.getD k (aI .DB))=true:=by simpa using bY
    have hs:=By l (k-1) R5
    rw[hge]at hs
    refine ay (fK X [0,2,4,5] rfl (by trivial) (tX 4 0 23 rfl (bT X [0,2,4,5] rfl ?_)))
    refine⟨k+1,⟨by omega,by rw[MM,PL l (k-1) R5 (by rw[hge];exact hx),show k+1-1=k-1+1 by omega]⟩,by omega,?_⟩
    rw[cw _ k rfl (by omega),show k+1-1=k-1+1 by omega,hs]
    try rfl
  ·try simp only[aP]at bt
   have hj:=Kl (MM.trans (Ub l (k-1) (by omega)))
   exact aV (aN X [2,3] rfl (by trivial) (aj (ah rfl ⟨by rw[hj.1],by rw[hj.2],⟨⟩⟩)))
theorem rB(l:List DB)(nC:l.length≤1048576)(ha:Bz l):So 125 [.a (.sl .DB l)] [.agg (bQ (jw l)),bh (EF l)]:=by
 refine aD X call125 func125 ntmps125 rfl rfl ?_
 intro zb
 exact av X [0,2] rfl (aS X [] [(5,⟨true,[.agg (bQ (jw l)),bh (EF l)]⟩)] [2,3] [] rfl (by(with_reducible and_intros)<;>first|exact⟨⟩|exact(v8 l nC ha)) (aj (ah rfl ⟨rfl,rfl,⟨⟩⟩)))
theorem kq(id rows b:Int):So 92 [aL id,aL rows,aL b] [.agg (cH (newS id rows b))]:=by
 refine aD X call92 func92 ntmps92 rfl rfl ?_
 intro zb
 refine av X [0,1,2,6] rfl (aa (aS X [] [(8,⟨false,[bh (inr id 0 3)]⟩),(12,⟨false,[bh (inr rows 1 64)]⟩),(17,⟨false,[bh (inr b 0 3)]⟩)] [0,1,2,6,19] [] rfl (by(with_reducible and_intros);(iterate 3 all_goals try first|exact⟨⟩|exact(aU id 0 3)|exact fun _=>(aU rows 1 64)|exact fun _=>(aU b 0 3))) ?_))
 refine ak rfl ?_ ?_<;>intro hb0
 ·have hk:GS id rows b=false:=dG hb0 (by simp only[GS,bK]<;>first|rfl|ac_rfl)
  have hn:newS id rows b=⟨0,0,0,[],0⟩:=by rw[newS,hk];rfl
  exact aN X [6] rfl (by trivial) (aj (ah rfl (by and_intros<;>first|exact⟨⟩| (rw[hn];done))))
 ·have hk:GS id rows b=true:=dH hb0 (by simp only[GS,bK]<;>first|rfl|ac_rfl)
  have hn:newS id rows b=⟨id,rows,0,[],b⟩:=by rw[newS,if_pos hk]
  exact ay (aN X [6] rfl (by trivial) (aj (ah rfl (by and_intros<;>first|exact⟨⟩| (rw[hn];done)))))
theorem mZ(s:bD)(hz:s.received.length≤1048576∧ ∀r,r∈s.received→eu List.length r.share.rows≤1048576):So 162 [.agg (cH s)] [.agg (cH (lE s))]:=by
 refine aD X call162 func162 ntmps162 rfl rfl ?_
 intro zb
 refine av X [1,2] rfl (aa (aS X [] [(4,⟨false,[bh (cN s)]⟩)] [1,2,10] [] rfl (by(with_reducible and_intros)<;>first|exact⟨⟩|exact(cK s)) ?_))
 refine ak rfl ?_ ?_<;>intro hb0
 ·have hk:IX s=false:=dG hb0 (by simp only[IX,bK]<;>first|rfl|ac_rfl)
  have hn:lE s=s:=by rw[lE,hk];rfl
  exact aS X [] [(12,⟨true,[.agg (cH s)]⟩)] [2] [] rfl (by(with_reducible and_intros)<;>first|exact⟨⟩|exact(fU s hz)) (aj (ah rfl (by and_intros<;>first|exact⟨⟩| (rw[hn];done))))
 ·have hk:IX s=true:=dH hb0 (by simp only[IX,bK]<;>first|rfl|ac_rfl)
  have hn:lE s=⟨s.id,s.rows,IntKind.i64.wrap (s.round+1),[],s.behavior⟩:=by rw[lE,if_pos hk]
  exact ay (aN X [2] rfl (by trivial) (aj (ah rfl (by and_intros<;>first|exact⟨⟩| (rw[hn];done)))))
end
section
set_option maxRecDepth 100000
theorem yW(a:iK)(r:Int)(d:DB)(h0:gY a≤1048576)(hd0:eu List.length d.rows≤1048576):So 89 [.agg (dz a),aL r, .agg (bQ d)] [.agg [aR a.rows, .vw 0 none .aK (yS a r d)],bh (o8 a r d)]:=by
 refine aD X call89 func89 ntmps89 rfl rfl ?_
 intro zb
 refine av X [1,3,5,6] rfl (aS X [] [(10,⟨true,[.agg (dz a)]⟩)] [1,3,5,6,8] [] rfl (by(with_reducible and_intros)<;>first|exact⟨⟩|exact(l8 a h0)) (aa (aS X [] [(12,⟨false,[bh (gq a)]⟩),(16,⟨false,[bh (inr r 0 100000)]⟩),(22,⟨false,[aL (eC a)]⟩),(27,⟨false,[bh (cR d)]⟩)] [1,5,6,8,37] [] rfl (by(with_reducible and_intros);(iterate 4 all_goals try first|exact⟨⟩|exact(gI a)|exact fun _=>(aU r 0 100000)|exact fun _=>(iF a)|exact fun _=>(cJ d))) ?_)))
 refine ak rfl ?_ ?_<;>intro hb0
 ·have hk:o8 a r d=false:=dG hb0 (by simp only[o8,bK]<;>first|rfl|ac_rfl)
  have hn:=P8 hk
  exact aN X [6,7] rfl (by trivial) (aj (ah rfl ⟨rfl,by rw[hn],by rw[hk],⟨⟩⟩))
 ·have hk:o8 a r d=true:=dH hb0 (by simp only[o8,bK]<;>first|rfl|ac_rfl)
  have hn:=Ks hk
  have hkb:=I1 hk
  have hal:(o9 a r d).length=a.rounds.length+1:=by unfold o9;rw[List.length_append];rfl
  refine ay (eI X [] [(43,⟨true,[.agg (bQ d)]⟩),(500045,⟨true,[]⟩)] [6,8] [] 7 MO (by kernel_rfl) rfl (by(repeat' with_reducible first|exact aB|refine aE ?_ ?_|apply And.intro)<;>first|exact(dr d hd0)|exact rfl|exact⟨rfl,aA _ (by decide)⟩| (simp only[b7,maxLen,lens];omega)) ?_)
  rw[show a.rounds++ [(⟨r,d⟩:aK)]=(o9 a r d)from rfl]
  refine aa (av X [6,8,51] rfl ?_)
  refine ak rfl ?_ ?_<;>intro bt
  ·try simp only[aP]at bt
   have h8:(8:Int)<((o9 a r d).length:Int):=bt
   rw[if_pos h8]at hn
   exact fK X [6,8] rfl (by and_intros<;>first|exact⟨⟩| (intros;omega)) (aN X [6,7] rfl (by trivial) (aj (ah rfl ⟨rfl,by rw[hn];simp,by rw[hk],⟨⟩⟩)))
  ·try simp only[aP]at bt
   have h8: ¬(8:Int)<((o9 a r d).length:Int):=by omega
   rw[if_neg h8]at hn
   exact ay (aN X [6,7] rfl (by trivial) (aj (ah rfl ⟨rfl,by rw[hn],by rw[hk],⟨⟩⟩)))
theorem ng(x:bw)(rd id:Int)(hl:x.an.length≤4)(hw:1≤x.rows∧x.rows≤64)(hU:Ck rd x.an)(hr:x.replaced.length≤4194400)(hxr:x.round=rd):dK ty Tryz.prog 161 [(1000, .box [aR x.rows, .own 11, .own 12,aR x.aJ.rows, .own 13,aR x.bq,aR x.seed,aR x.round, .own 14,aR x.cancelled]),(11, .arr .bD x.an),(12, .arr .bP x.af),(13, .arr .aK x.aJ.rounds),(14, .arr .int x.replaced)] [.a (.ptr 1000 0),aL id] [(1000, .box [aR x.rows, .own 11, .own 12,aR x.aJ.rows, .own 13,aR x.bq,aR x.seed,aR x.round, .own 14,aR x.cancelled]),(11, .arr .bD (yT x.rows rd (x.an,x.replaced) id).1),(12, .arr .bP x.af),(13, .arr .aK x.aJ.rounds),(14, .arr .int (yT x.rows rd (x.an,x.replaced) id).2)] []:=by
 refine cu X call161 func161 rfl rfl (by decide) ntmps161 (by simp) rfl ?_
 intro zb
 refine aa (aa ?_)
 have t1:=(aU id 0 (IntKind.i64.wrap ((x.an.length:Int)-1)))
 refine aH X [] [(12,⟨false,cg t1⟩)] [0,1,13] [] rfl (by(with_reducible and_intros)<;>first|exact⟨⟩|exact t1) ?_
 refine ak rfl ?_ ?_<;>intro hb0
 ·have hk:BA x.an id=false:=by unfold BA;simpa using hb0
  have hp:(yT x.rows rd (x.an,x.replaced) id)=_:=Un (rows:=x.rows) (rd:=rd) (p:=(x.an,x.replaced)) hk
  exact aj (aW rfl (by and_intros<;>first|exact⟨⟩|rfl| (rw[hp];done)))
 ·have hk:BA x.an id=true:=by unfold BA;simpa using hb0
  have hb:=XS hl hk
  have hp:(yT x.rows rd (x.an,x.replaced) id)=_:=Um (rows:=x.rows) (rd:=rd) (p:=(x.an,x.replaced)) hk
  have Vr:=GY (id:=id) (by omega) hw
  have hrd:=(BF hU (k:=id.toNat) (by omega)).1
  refine ay (aS X [] [(19,⟨true,[.agg (cH (newS id x.rows 0))]⟩)] [0,1,4] [] rfl (by(with_reducible and_intros)<;>first|exact⟨⟩|exact(kq id x.rows 0)) ?_)
  rw[Vr]
  refine aN X [0,1,4] rfl (by trivial) ?_
  rw[hxr]
  exact eI X [] [] [0,1] [] 7 MO (by kernel_rfl) rfl (by and_intros<;>first|exact⟨⟩| (intros;omega)) (aH X [(39,14)] [] [] [] rfl (by and_intros<;>first|exact⟨⟩|exact rfl| (simp only[b7,maxLen,lens];omega)) (ED rfl (by and_intros<;>first|exact⟨⟩|rfl| (rw[hp];done))))
theorem we(x:bw)(g:List Int)(d:DB)(h0:wB x)(hgl:g.length≤64)(hd0:eu List.length d.rows≤1048576):So 128 [.agg (bX x), .a (.sl .int g), .agg (bQ d)] [.agg [aR (dh x g d).rows, .sl .bD (dh x g d).an, .sl .bP (dh x g d).af,aR (dh x g d).aJ.rows, .vw 0 none .aK (dh x g d).aJ.rounds,aR (dh x g d).bq,aR (dh x g d).seed,aR (dh x g d).round, .sl .int (dh x g d).replaced,aR (dh x g d).cancelled]]:=by
 refine aD X call128 func128 ntmps128 rfl rfl ?_
 intro zb
 have hls:eu eg x.an≤1048576∧eu cD x.af≤1048576∧gY x.aJ≤1048576∧x.replaced.length≤4194304:=h0
 have hcp:=Uo x g
 refine av X [1,3,5,6] rfl (aS X [(7,907)] [(13,⟨true,[.agg (bX x)]⟩)] [1,3,5,6,7] [] rfl (by(with_reducible and_intros)<;>first|exact⟨⟩|exact(eT x h0)) (aa (aS X [] [(15,⟨false,[bh (okW x)]⟩)] [1,3,5,6,7,21] [] rfl (by(with_reducible and_intros)<;>first|exact⟨⟩|exact(dc x)) ?_)))
 refine ak rfl ?_ ?_<;>intro hb0
 ·have hk:nZ x=false:=dG hb0 (by simp only[nZ,bK]<;>first|rfl|ac_rfl)
  have hc:=Mj (g:=g) (d:=d) hk
  exact aN X [6] rfl (by trivial) (aj (ah rfl (by and_intros<;>first|exact⟨⟩| (rw[hc];done))))
 ·have hk:nZ x=true:=dH hb0 (by simp only[nZ,bK]<;>first|rfl|ac_rfl)
  obtain⟨hok,hr9⟩:=XT hk
  have sP:=eX hok
  have Y9:=(oW hok).1
  have hcU:=aaK g hok
  refine ay (aa (av X [1,3,5,6,7,25] rfl ?_))
  refine ak rfl ?_ ?_<;>intro bt
  ·try simp only[aP]at bt
   have hg0:g.length=0:=by omega
   have hc:=P6 (d:=d) hk hg0
   have hgn:g= []:=List.length_eq_zero_iff.1 hg0
   refine aa ?_
   have t1:=(yW x.aJ x.round d hls.2.2.1 hd0)
   refine aH X [] [(32,⟨true,cg t1⟩)] [1,3,6,7,8] [] rfl (by(with_reducible and_intros)<;>first|exact⟨⟩|exact t1) (fK X [1,3,6,7] rfl (by trivial) (aa (av X [1,3,6,7,10] rfl ?_)))
   refine aq (aQ (fun k=>k≤g.length) (fun k:Nat=> [(10, .one ((aL k)))]) (fun k=> [(14, .arr .bD (I0 x g k).1),(21, .arr .int (I0 x g k).2)]) (fun k=>g.length-k) 0 (fun k=>rfl) (Nat.zero_le _) rfl ?_)
   rintro k hk0
   have zx:=EL (x:=x) hk0
   have hU:=P5 hok hk0
   refine aa (av X [1,3,6,7,10,44] rfl ?_)
   refine ak rfl ?_ ?_<;>intro bY
   ·try simp only[aP]at bY
    omega
   ·try simp only[aP]at bY
    rw[zC bY]
    refine aV (aa (av X [3,6,7,11] rfl ?_))
    refine aq (aQ (fun k1=>k1≤x.an.length) (fun k1:Nat=> [(11, .one ((aL k1)))]) (fun k1=> [(14, .arr .bD (GZ (yB x g).1 k1))]) (fun k1=>x.an.length-k1) 0 (fun k1=>rfl) (Nat.zero_le _) (by rw[VI];rfl) ?_)
    intro k1 hk1
    have B8:(GZ (yB x g).1 k1).length=x.an.length:=by rw[Kq (by omega)];exact hcp.1
    refine aa (av X [3,6,7,11,56] rfl ?_)
    refine ak rfl ?_ ?_<;>intro fj
    ·try simp only[aP]at fj
     rw[B8]at fj
     have hgt:=Kp (l:=(yB x g).1) (k:=k1) (by omega)
     have VJ:=BF hcU (k:=k1) (by omega)
     have R6:=G0 (l:=(yB x g).1) (k:=k1) (by omega)
     refine ay (aa (aq (ct X [] [(67,⟨true,[.agg (cH (lE ((GZ (yB x g).1 k1).getD k1 (aI .bD))))]⟩)] [3,6,7,11] [] 10 MO (by kernel_rfl) rfl (by(with_reducible and_intros)<;>first|exact⟨⟩|exact(mZ ((GZ (yB x g).1 k1).getD k1 (aI .bD)) (by rw[hgt];exact VJ.2))| (intros;omega)) (bT X [3,6,7,11] rfl ?_))))
     refine⟨k1+1,by omega,by omega,?_⟩
     rw[cw _ k1 rfl (by omega), ←R6]
     try rfl
    ·try simp only[aP]at fj
     rw[B8]at fj
     rw[Kr (by omega)]
     exact aV (av X [6,7] rfl (aN X [6] rfl (by trivial) (aj (ah rfl (by and_intros<;>first|exact⟨⟩| (rw[hc];done))))))
  ·try simp only[aP]at bt
   have hg0: ¬g.length=0:=by omega
   have hc:=P7 (d:=d) hk hg0
   refine bT X [1,3,6,7] rfl (aa (av X [1,3,6,7,10] rfl ?_))
   refine aq (aQ (fun k=>k≤g.length) (fun k:Nat=> [(10, .one ((aL k)))]) (fun k=> [(14, .arr .bD (I0 x g k).1),(21, .arr .int (I0 x g k).2)]) (fun k=>g.length-k) 0 (fun k=>rfl) (Nat.zero_le _) rfl ?_)
   rintro k hk0
   have zx:=EL (x:=x) hk0
   have hU:=P5 hok hk0
   refine aa (av X [1,3,6,7,10,44] rfl ?_)
   refine ak rfl ?_ ?_<;>intro bY
   ·try simp only[aP]at bY
    have hst:=P4 (x:=x) bY
    refine ay (aa (aq ?_))
    have t1:=(ng (⟨x.rows,(I0 x g k).1,x.af,x.aJ,x.bq,x.seed,x.round,(I0 x g k).2,IntKind.i64.wrap (x.cancelled+1)⟩:bw) x.round (g.getD k (aI .int)) (by show(I0 x g k).1.length≤4;omega) Y9 hU (by show(I0 x g k).2.length≤_;omega) rfl)
    refine aH X [] [(800051,⟨true,bA t1⟩),(700051,⟨true, .agg [.ptr 1000 907, .ptr 11 14, .ptr 12 15, .ptr 13 17, .ptr 14 21]:: .agg []::bB t1⟩)] [1,3,6,7,10] [] rfl (by(with_reducible and_intros)<;>first|exact⟨⟩|exact t1| (intros;omega)) (bT X [1,3,6,7,10] rfl ?_)
    refine⟨k+1,by omega,by omega,?_⟩
    rw[cw _ k rfl (by omega), ←hst]
    try rfl
   ·try simp only[aP]at bY
    rw[zC bY]
    refine aV (aa (av X [3,6,7,11] rfl ?_))
    refine aq (aQ (fun k1=>k1≤x.an.length) (fun k1:Nat=> [(11, .one ((aL k1)))]) (fun k1=> [(14, .arr .bD (GZ (yB x g).1 k1))]) (fun k1=>x.an.length-k1) 0 (fun k1=>rfl) (Nat.zero_le _) (by rw[VI];rfl) ?_)
    intro k1 hk1
    have B8:(GZ (yB x g).1 k1).length=x.an.length:=by rw[Kq (by omega)];exact hcp.1
    refine aa (av X [3,6,7,11,56] rfl ?_)
    refine ak rfl ?_ ?_<;>intro fj
    ·try simp only[aP]at fj
     rw[B8]at fj
     have hgt:=Kp (l:=(yB x g).1) (k:=k1) (by omega)
     have VJ:=BF hcU (k:=k1) (by omega)
     have R6:=G0 (l:=(yB x g).1) (k:=k1) (by omega)
     refine ay (aa (aq (ct X [] [(67,⟨true,[.agg (cH (lE ((GZ (yB x g).1 k1).getD k1 (aI .bD))))]⟩)] [3,6,7,11] [] 10 MO (by kernel_rfl) rfl (by(with_reducible and_intros)<;>first|exact⟨⟩|exact(mZ ((GZ (yB x g).1 k1).getD k1 (aI .bD)) (by rw[hgt];exact VJ.2))| (intros;omega)) (bT X [3,6,7,11] rfl ?_))))
     refine⟨k1+1,by omega,by omega,?_⟩
     rw[cw _ k1 rfl (by omega), ←R6]
     try rfl
    ·try simp only[aP]at fj
     rw[B8]at fj
     rw[Kr (by omega)]
     exact aV (av X [6,7] rfl (aN X [6] rfl (by trivial) (aj (ah rfl (by and_intros<;>first|exact⟨⟩| (rw[hc];done))))))
theorem uo(x:bw)(h0:wB x):So 127 [.agg (bX x)] [.agg (bX (testW x))]:=by
 refine aD X call127 func127 ntmps127 rfl rfl ?_
 intro zb
 have hls:eu eg x.an≤1048576∧eu cD x.af≤1048576∧gY x.aJ≤1048576∧x.replaced.length≤4194304:=h0
 have R6:=aaN h0
 refine av X [1,2] rfl (aS X [(3,903)] [(12,⟨true,[.agg (bX x)]⟩)] [1,2,3] [] rfl (by(with_reducible and_intros)<;>first|exact⟨⟩|exact(eT x h0)) (aS X [] [(15,⟨false,[aL (eC x.aJ)]⟩)] [1,2,3,4] [] rfl (by(with_reducible and_intros)<;>first|exact⟨⟩|exact(iF x.aJ)) (aa ?_)))
 have t1:=(jB x.aJ (eC x.aJ) R6)
 refine aH X [(20,80)] [(20,⟨true,cg t1⟩)] [1,2,3,4,5,6] [] rfl (by(with_reducible and_intros)<;>first|exact⟨⟩|exact t1) (aa (aS X [] [(24,⟨false,[bh (okW x)]⟩)] [1,2,3,4,5,29] [] rfl (by(with_reducible and_intros)<;>first|exact⟨⟩|exact(dc x)) ?_))
 refine ak rfl ?_ ?_<;>intro hb0
 ·have hk:EJ x=false:=dG hb0 (by simp only[EJ,bK]<;>first|rfl|ac_rfl)
  have hc:=Qa hk
  exact aN X [2] rfl (by trivial) (aj (ah rfl (by and_intros<;>first|exact⟨⟩| (rw[hc];done))))
 ·have hk:EJ x=true:=dH hb0 (by simp only[EJ,bK]<;>first|rfl|ac_rfl)
  have hc:=Mk hk
  have hkk:=hk
  rw[EJ,Bool.and_eq_true]at hkk
  obtain⟨hok,hah⟩:=hkk
  have sP:=eX hok
  have Y9:=(oW hok).1
  refine ay (aa (av X [1,2,3,4,5,7] rfl ?_))
  refine aq (aQ (fun k=>k≤x.an.length) (fun k:Nat=> [(7, .one ((aL k)))]) (fun k=> [(13, .arr .bD (EI x k).1),(20, .arr .int (EI x k).2)]) (fun k=>x.an.length-k) 0 (fun k=>rfl) (Nat.zero_le _) rfl ?_)
  rintro k hk0
  have htb:=aaM hok k hk0
  refine aa (av X [1,2,3,4,5,7,35] rfl ?_)
  refine ak rfl ?_ ?_<;>intro bt
  ·try simp only[aP]at bt
   have hrl:=kK (kh x.seed [227,x.round,(k:Int)]) x.rows
   have hab:=aaz (x.an.getD k (aI .bD)) (oY x.bq (k:Int)) (eC x.aJ) (mH x.aJ.rounds (eC x.aJ)) (v:=(cO (kh x.seed [227,x.round,(k:Int)]) x.rows)) (by omega)
   have hsg:=aaL hok hah (kh x.seed [227,x.round,(k:Int)])
   refine ay (aa (aq (aS X [] [(41,⟨false,[aL (oY x.bq (k:Int))]⟩)] [1,2,3,4,5,7,8] [] rfl (by(with_reducible and_intros)<;>first|exact⟨⟩|exact(iG x.bq (k:Int))) (aa ?_))))
   have t1:=(pS (x.an.getD k (aI .bD)) (oY x.bq (k:Int)) (eC x.aJ) (mH x.aJ.rounds (eC x.aJ)) (cO (kh x.seed [227,x.round,(k:Int)]) x.rows) (by omega))
   refine bM X [] [(57,⟨false,[aL (kh x.seed [227,x.round,(k:Int)])]⟩),(60,⟨true,[.a (.sl .int (cO (kh x.seed [227,x.round,(k:Int)]) x.rows))]⟩),(61,⟨true,cg t1⟩)] [1,2,3,4,5,7,8,9,10] [] 25165823 1 MO (by kernel_rfl) rfl (by kernel_rfl) (by(repeat' with_reducible first|exact aB|refine aE ?_ ?_|apply And.intro);(iterate 3 all_goals try first|exact(bu x.seed [227,x.round,(k:Int)] (by first|assumption|omega| (simp;done)| (simp;omega)))|exact(gx (kh x.seed [227,x.round,(k:Int)]) x.rows)|exact t1);all_goals first| (intros;omega)|exact⟨rfl,aA _ (by decide)⟩) ?_
   refine aa ?_
   have t1:=(rA (oY x.bq (k:Int)) (mH x.aJ.rounds (eC x.aJ)) (tsA x k) hab.1 hab.2)
   refine aH X [] [(69,⟨false,cg t1⟩)] [1,2,3,4,5,7,70] [] rfl (by(with_reducible and_intros)<;>first|exact⟨⟩|exact fun _=>t1) ?_
   refine ak rfl ?_ ?_<;>intro bY
   ·have SL:VH x k=true:=by rw[hsg]at bY;exact bY
    have hst:=Uf (x:=x) (n:=k) SL
    have t1:=(ng (⟨x.rows,(EI x k).1,x.af,x.aJ,x.bq,x.seed,x.round,(EI x k).2,x.cancelled⟩:bw) x.round (k:Int) (by show(EI x k).1.length≤4;omega) Y9 htb.1 (by show(EI x k).2.length≤_;omega) rfl)
    refine aH X [] [(800072,⟨true,bA t1⟩),(700072,⟨true, .agg [.ptr 1000 903, .ptr 11 13, .ptr 12 14, .ptr 13 16, .ptr 14 20]:: .agg []::bB t1⟩)] [1,2,3,4,5,7] [] rfl (by(with_reducible and_intros)<;>first|exact⟨⟩|exact t1) (bT X [1,2,3,4,5,7] rfl ?_)
    refine⟨k+1,by omega,by omega,?_⟩
    rw[cw _ k rfl (by omega), ←hst]
    try rfl
   ·have SL:VH x k=false:=by rw[hsg]at bY;exact bY
    have hst:=PO (x:=x) (n:=k) SL
    refine ay (bT X [1,2,3,4,5,7] rfl ?_)
    refine⟨k+1,by omega,by omega,?_⟩
    rw[cw _ k rfl (by omega),hst]
    try rfl
  ·try simp only[aP]at bt
   exact aV (aN X [2] rfl (by trivial) (aj (ah rfl (by and_intros<;>first|exact⟨⟩| (rw[hc];done)| (rw[hc,show k=x.an.length by omega];done)))))
end
section
set_option maxRecDepth 100000
theorem yX(x:bw)(hR:wR x)(hok:okW x=true):So 101 [.agg (bX x)] [.agg (bX (B4 (testW (dh x (lf x.bq (cz x) (dU (cz x)) (l5 x) (cz x).length) (jw (dU (cz x)))))))]:=by
 refine aD X call101 func101 ntmps101 rfl rfl ?_
 intro zb
 obtain⟨h0,hrp⟩:=hR
 have sP:=Gu h0
 have pX:=mm hok
 have hcs:=IU hok
 have hs4:=eX hok
 have hpd:=o7 (cz x)
 have hjz:=fT (GR _ hpd)
 have hgl:=ru x.bq (cz x) (dU (cz x)) (l5 x) (cz x).length
 have nB:(dU (cz x)).length=(cz x).length:=List.length_map ..
 obtain⟨hB1,hB2⟩:=Up h0 hok hrp
 refine av X [1,2] rfl (aS X [] [(10,⟨true,[.a (.sl .bD (cz x)), .a (.sl .fA (l5 x))]⟩)] [1,2,3,4] [] rfl (by(with_reducible and_intros)<;>first|exact⟨⟩|exact(ry x h0)) (aS X [] [(14,⟨true,[.a (.sl .DB (dU (cz x)))]⟩)] [1,2,3,4,5] [] rfl (by(with_reducible and_intros)<;>first|exact⟨⟩|exact(v7 (cz x) (by omega))) (aa ?_)))
 have t1:=(rB (dU (cz x)) (by omega) hpd)
 refine aH X [] [(17,⟨true,cg t1⟩)] [1,2,3,4,5,6] [] rfl (by(with_reducible and_intros)<;>first|exact⟨⟩|exact t1) (aa ?_)
 have t1:=(we x (lf x.bq (cz x) (dU (cz x)) (l5 x) (cz x).length) (jw (dU (cz x))) h0 (by omega) hjz)
 have t2:=(uo (dh x (lf x.bq (cz x) (dU (cz x)) (l5 x) (cz x).length) (jw (dU (cz x)))) hB1)
 have t3:=(xG (testW (dh x (lf x.bq (cz x) (dU (cz x)) (l5 x) (cz x).length) (jw (dU (cz x))))) hB2)
 exact ct X [(28,60),(29,100),(30,150)] [(26,⟨true,[.a (.sl .int (lf x.bq (cz x) (dU (cz x)) (l5 x) (cz x).length))]⟩),(28,⟨true,cg t1⟩),(29,⟨true,cg t2⟩),(30,⟨true,cg t3⟩)] [2] [] 11 MO (by kernel_rfl) rfl (by(with_reducible and_intros);(iterate 4 all_goals try first|exact⟨⟩|exact(vZ x.bq (cz x) (dU (cz x)) (l5 x) (by omega) hcs (Ua _))|exact t1|exact t2|exact t3)) (aj (ah rfl ⟨rfl,rfl,rfl,rfl,rfl,rfl,rfl,rfl,rfl,rfl,⟨⟩⟩))
end
section
set_option maxRecDepth 100000
theorem uq(a b:Int):So 52 [aL a,aL b] [aL (Ab a b)]:=by
 refine aD X call52 func52 ntmps52 rfl rfl ?_
 intro zb
 refine av X [0,1] rfl (aa (av X [0,1,7] rfl ?_))
 refine ak rfl ?_ ?_<;>intro hb0
 ·try simp only[aP]at hb0
  exact av X [4] rfl (aj (ah rfl ⟨by rw[Ab,if_pos (by omega)],⟨⟩⟩))
 ·try simp only[aP]at hb0
  exact ay (av X [4] rfl (aj (ah rfl ⟨by rw[Ab,if_neg (by omega)],⟨⟩⟩)))
theorem pz(c:dN):So 63 [.agg (cF c)] [aL (waiting c)]:=by
 refine aD X call63 func63 ntmps63 rfl rfl ?_
 intro zb
 exact av X [1] rfl (av X [2] rfl (aj (ah rfl ⟨rfl,⟨⟩⟩)))
theorem gz(x:bw):So 43 [.agg (bX x)] [aL (mo x.af x.af.length)]:=by
 refine aD X call43 func43 ntmps43 rfl rfl ?_
 intro zb
 refine bV 0 2 rfl rfl (fun lI=>(av X [1] rfl (av X [1,3] rfl (aa (av X [3,7,8,9] rfl ?_)))))
 refine aq (aQ (fun k=>k≤x.af.length) (fun k:Nat=> [(3, .one ((aL (mo x.af k)))),(9, .one ((aL k)))]) (fun k=> []) (fun k=>x.af.length-k) 0 (fun k=>rfl) (Nat.zero_le _) rfl ?_)
 intro k hk
 refine av X [3,7,8,9,10] rfl ?_
 refine aa (ak rfl ?_ ?_)<;>intro hb0
 ·try simp only[aP]at hb0
  refine ay (aa (aq (aN X [3,5,7,8,9] rfl (by and_intros<;>first|exact⟨⟩| (intros;omega)) (aH X [] [(16,⟨false,[aL (waiting ((x.af.getD k (aI .bP)).live))]⟩)] [3,7,8,9] [] rfl (by(with_reducible and_intros)<;>first|exact⟨⟩|exact(pz ((x.af.getD k (aI .bP)).live))) (bT X [3,7,8,9] rfl ?_)))))
  refine⟨k+1,by omega,by omega,?_⟩
  rw[cw _ k rfl (by omega)]
  try rfl
 ·try simp only[aP]at hb0
  exact aV (av X [2] rfl (aj (ah rfl ⟨by rw[show k=x.af.length by omega],⟨⟩⟩)))
theorem gJ(x:bw)(hd:x.af.length≤1048576):So 44 [.agg (bX x)] [aL (wg x.af x.af.length)]:=by
 refine aD X call44 func44 ntmps44 rfl rfl ?_
 intro zb
 refine bV 0 2 rfl rfl (fun lI=>(av X [1] rfl (av X [1,3] rfl (aa (av X [1,3,7,8,9] rfl ?_)))))
 refine aq (aQ (fun k=>k≤x.af.length) (fun k:Nat=> [(3, .one ((aL (wg x.af k)))),(9, .one ((aL k)))]) (fun k=> []) (fun k=>x.af.length-k) 0 (fun k=>rfl) (Nat.zero_le _) rfl ?_)
 intro k hk
 refine av X [1,3,7,8,9,10] rfl ?_
 refine aa (ak rfl ?_ ?_)<;>intro hb0
 ·try simp only[aP]at hb0
  refine ay (aa (aq (aN X [1,3,4,5,7,8,9] rfl (by and_intros<;>first|exact⟨⟩| (intros;omega)) (aS X [] [(16,⟨false,[bh (tT x (k:Int))]⟩)] [1,3,4,5,7,8,9,16] [] rfl (by(with_reducible and_intros)<;>first|exact⟨⟩|exact(A9 x (k:Int) (by first|assumption|omega| (simp;done)| (simp;omega)))) ?_))))
  refine ak rfl ?_ ?_<;>intro bt
  ·rw[BG hb0,decide_eq_true_eq]at bt
   have hx:(IntKind.i64.wrap (BitVec.ofInt IntKind.i64.bits (k:Int)^^^BitVec.ofInt IntKind.i64.bits 1).toNat)=((k^^^1:Nat):Int):=LP k (by omega)
   have hx0:0≤(IntKind.i64.wrap (BitVec.ofInt IntKind.i64.bits (k:Int)^^^BitVec.ofInt IntKind.i64.bits 1).toNat)∧(IntKind.i64.wrap (BitVec.ofInt IntKind.i64.bits (k:Int)^^^BitVec.ofInt IntKind.i64.bits 1).toNat)<(x.af.length:Int):=by rw[hx];omega
   refine ct X [] [] [1,3,7,8,9] [] 17 MO (by kernel_rfl) rfl (by and_intros<;>first|exact⟨⟩| (intros;omega)) (bT X [1,3,7,8,9] rfl ?_)
   refine⟨k+1,by omega,by omega,?_⟩
   rw[cw _ k rfl (by omega),Kv bt,hx,Qc]
   try rfl
  ·rw[BG hb0,decide_eq_false_iff_not]at bt
   refine ay (bT X [1,3,7,8,9] rfl ?_)
   refine⟨k+1,by omega,by omega,?_⟩
   rw[cw _ k rfl (by omega),G2 bt]
   try rfl
 ·try simp only[aP]at hb0
  exact aV (av X [2] rfl (aj (ah rfl ⟨by rw[show k=x.af.length by omega],⟨⟩⟩)))
theorem pE(c:dN):So 65 [.agg (cF c)] [aL (waiting c)]:=by
 refine aD X call65 func65 ntmps65 rfl rfl ?_
 intro zb
 exact av X [1] rfl (av X [2] rfl (aj (ah rfl ⟨rfl,⟨⟩⟩)))
theorem cZ(x:bw):So 45 [.agg (bX x)] [aL (mo x.af x.af.length)]:=by
 refine aD X call45 func45 ntmps45 rfl rfl ?_
 intro zb
 refine bV 0 2 rfl rfl (fun lI=>(av X [1] rfl (av X [1,3] rfl (aa (av X [1,3,4] rfl ?_)))))
 refine aq (aQ (fun k=>k≤x.af.length) (fun k:Nat=> [(3, .one ((aL (mo x.af k)))),(4, .one ((aL k)))]) (fun k=> []) (fun k=>x.af.length-k) 0 (fun k=>rfl) (Nat.zero_le _) rfl ?_)
 intro k hk
 refine aa (av X [1,3,4,9] rfl ?_)
 refine ak rfl ?_ ?_<;>intro hb0
 ·try simp only[aP]at hb0
  refine ay (aa (aq (aH X [] [(19,⟨false,[aL (waiting ((x.af.getD k (aI .bP)).live))]⟩)] [1,3,4] [] rfl (by(with_reducible and_intros)<;>first|exact⟨⟩|exact(pE ((x.af.getD k (aI .bP)).live))| (intros;omega)) (bT X [1,3,4] rfl ?_))))
  refine⟨k+1,by omega,by omega,?_⟩
  rw[cw _ k rfl (by omega)]
  try rfl
 ·try simp only[aP]at hb0
  exact aV (av X [2] rfl (aj (ah rfl ⟨by rw[show k=x.af.length by omega],⟨⟩⟩)))
theorem dn(x:bw)(hd:x.af.length≤1048576):So 46 [.agg (bX x)] [aL (wg x.af x.af.length)]:=by
 refine aD X call46 func46 ntmps46 rfl rfl ?_
 intro zb
 refine bV 0 2 rfl rfl (fun lI=>(av X [1] rfl (av X [1,3] rfl (aa (av X [1,3,4] rfl ?_)))))
 refine aq (aQ (fun k=>k≤x.af.length) (fun k:Nat=> [(3, .one ((aL (wg x.af k)))),(4, .one ((aL k)))]) (fun k=> []) (fun k=>x.af.length-k) 0 (fun k=>rfl) (Nat.zero_le _) rfl ?_)
 intro k hk
 refine aa (av X [1,3,4,9] rfl ?_)
 refine ak rfl ?_ ?_<;>intro hb0
 ·try simp only[aP]at hb0
  refine ay (aa (aq (av X [1,3,4,17] rfl ?_)))
  refine ak rfl ?_ ?_<;>intro bt
  ·try simp only[aP]at bt
   have hx:(IntKind.i64.wrap (BitVec.ofInt IntKind.i64.bits (k:Int)^^^BitVec.ofInt IntKind.i64.bits 1).toNat)=((k^^^1:Nat):Int):=LP k (by omega)
   have hx1:(k^^^1)<x.af.length:=by rw[hx]at bt;omega
   have hx0:0≤(IntKind.i64.wrap (BitVec.ofInt IntKind.i64.bits (k:Int)^^^BitVec.ofInt IntKind.i64.bits 1).toNat)∧(IntKind.i64.wrap (BitVec.ofInt IntKind.i64.bits (k:Int)^^^BitVec.ofInt IntKind.i64.bits 1).toNat)<(x.af.length:Int):=by rw[hx];omega
   refine ct X [] [] [1,3,4] [] 21 MO (by kernel_rfl) rfl (by and_intros<;>first|exact⟨⟩| (intros;omega)) (bT X [1,3,4] rfl ?_)
   refine⟨k+1,by omega,by omega,?_⟩
   rw[cw _ k rfl (by omega),Kv hx1,hx]
   try rfl
  ·try simp only[aP]at bt
   have hx:(IntKind.i64.wrap (BitVec.ofInt IntKind.i64.bits (k:Int)^^^BitVec.ofInt IntKind.i64.bits 1).toNat)=((k^^^1:Nat):Int):=LP k (by omega)
   have hx1: ¬(k^^^1)<x.af.length:=by rw[hx]at bt;omega
   refine ay (bT X [1,3,4] rfl ?_)
   refine⟨k+1,by omega,by omega,?_⟩
   rw[cw _ k rfl (by omega),G2 hx1]
   try rfl
 ·try simp only[aP]at hb0
  exact aV (av X [2] rfl (aj (ah rfl ⟨by rw[show k=x.af.length by omega],⟨⟩⟩)))
end
section
set_option maxRecDepth 100000
theorem fN(c:dN)(b:List UInt8)(h0:eu List.length c.aF≤1048576∧eu List.length c.inbox≤1048576)(hb:b.length≤1048576):So 95 [.agg (cF c), .a (.sl .u8 b)] [.agg (cF (iR c b)),bh (vV c b)]:=by
 refine aD X call95 func95 ntmps95 rfl rfl ?_
 intro zb
 have FY:=gN h0.1
 refine av X [1,2,4] rfl (aS X [] [(8,⟨true,[.agg (cF c)]⟩)] [1,2,4,6] [] rfl (by(with_reducible and_intros)<;>first|exact⟨⟩|exact(eS c h0)) (aa (bM X [(13,11),(13,40)] [(500014,⟨true,[]⟩)] [2,4,6] [] 175 2 MO (by kernel_rfl) rfl (by kernel_rfl) (by and_intros<;>first|exact⟨⟩|exact rfl| (simp only[b7,maxLen,lens];omega)) (aa (aS X [] [(18,⟨false,[bh (dR c)]⟩),(22,⟨false,[bh (dR (PW c b))]⟩)] [2,4,6,24] [] rfl (by(with_reducible and_intros);(iterate 2 all_goals try first|exact⟨⟩|exact(dB c)|exact fun _=>(dB (PW c b)))) ?_)))))
 refine ak rfl ?_ ?_<;>intro hb0
 ·have hk:vV c b=false:=dG hb0 (by simp only[vV,bK]<;>first|rfl|ac_rfl)
  have hq:=Uq hk
  exact aS X [] [(26,⟨true,[.agg (cF c)]⟩)] [4,5] [] rfl (by(with_reducible and_intros)<;>first|exact⟨⟩|exact(eS c h0)) (aj (ah rfl (by and_intros<;>first|exact⟨⟩| (rw[hq];done)| (rw[hk];done))))
 ·have hk:vV c b=true:=dH hb0 (by simp only[vV,bK]<;>first|rfl|ac_rfl)
  have hq:=BH hk
  exact ay (aN X [4,5] rfl (by trivial) (aj (ah rfl (by and_intros<;>first|exact⟨⟩| (rw[hq];rfl;done)| (rw[hk];done)))))
theorem eY(d:bP)(b:List UInt8)(h0:cD d≤1048576)(hb:b.length≤1048576):So 121 [.agg (cQ d), .a (.sl .u8 b)] [.agg (cQ (pg d b)),bh (BC d b)]:=by
 refine aD X call121 func121 ntmps121 rfl rfl ?_
 intro zb
 have hc1:cT d.live≤1048576∧cT d.saved≤1048576:=by unfold cD at h0;omega
 unfold cT at hc1
 refine av X [1,2,4] rfl (aS X [] [(14,⟨true,[.agg (cF (iR d.live b)),bh (vV d.live b)]⟩)] [1,2,4,6,7] [] rfl (by(with_reducible and_intros)<;>first|exact⟨⟩|exact(fN d.live b ⟨by omega,by omega⟩ hb)) (aS X [] [(21,⟨true,[.agg (cF (iR d.saved b)),bh (vV d.saved b)]⟩)] [2,4,6,7,8,9] [] rfl (by(with_reducible and_intros)<;>first|exact⟨⟩|exact(fN d.saved b ⟨by omega,by omega⟩ hb)) (aa (aS X [] [(25,⟨false,[bh (dL d)]⟩)] [2,4,6,8,34] [] rfl (by(with_reducible and_intros)<;>first|exact⟨⟩|exact(dD d)) ?_))))
 refine ak rfl ?_ ?_<;>intro hb0
 ·have hk:BC d b=false:=dG hb0 (by simp only[BC,bK]<;>first|rfl|ac_rfl)
  have hq:=Ur hk
  exact aS X [] [(36,⟨true,[.agg (cQ d)]⟩)] [4,5] [] rfl (by(with_reducible and_intros)<;>first|exact⟨⟩|exact(hY d h0)) (aj (ah rfl (by and_intros<;>first|exact⟨⟩| (rw[hq];done)| (rw[hk];done))))
 ·have hk:BC d b=true:=dH hb0 (by simp only[BC,bK]<;>first|rfl|ac_rfl)
  have hq:=Qe hk
  exact ay (aN X [4,5] rfl (by trivial) (aj (ah rfl (by and_intros<;>first|exact⟨⟩| (rw[hq];done)| (rw[hk];done)))))
theorem gA(d:bP)(h0:cD d≤1048576):So 122 [.agg (cQ d)] [.agg (cQ (Dp d))]:=by
 refine aD X call122 func122 ntmps122 rfl rfl ?_
 intro zb
 have hc1:cT d.live≤1048576∧cT d.saved≤1048576:=by unfold cD at h0;omega
 unfold cT at hc1
 refine av X [1,2] rfl (aa (aS X [] [(4,⟨false,[bh (dL d)]⟩)] [1,2,5] [] rfl (by(with_reducible and_intros)<;>first|exact⟨⟩|exact(dD d)) ?_))
 refine ak rfl ?_ ?_<;>intro hb0
 ·have hk:dL d=false:=by simpa using hb0
  have hd:Dp d=d:=by rw[Dp,hk];rfl
  exact aS X [] [(7,⟨true,[.agg (cQ d)]⟩)] [2] [] rfl (by(with_reducible and_intros)<;>first|exact⟨⟩|exact(hY d h0)) (aj (ah rfl (by and_intros<;>first|exact⟨⟩| (rw[hd];done))))
 ·have hk:dL d=true:=by simpa using hb0
  have hd:Dp d=⟨d.saved,d.saved⟩:=by rw[Dp,if_pos hk]
  exact ay (aS X [] [(10,⟨true,[.agg (cQ (⟨d.saved,d.saved⟩:bP))]⟩)] [2] [] rfl (by(with_reducible and_intros)<;>first|exact⟨⟩|exact(iH d.saved ⟨by omega,by omega⟩)) (aj (ah rfl (by and_intros<;>first|exact⟨⟩| (rw[hd];done)))))
theorem kM(x:bw)(c:Int)(b:List UInt8)(h0:wB x)(hb:b.length≤1048576):So 98 [.agg (bX x),aL c, .a (.sl .u8 b)] [.agg (bX (Ko x c b)),bh (PX x c b)]:=by
 refine aD X call98 func98 ntmps98 rfl rfl ?_
 intro zb
 refine bV 0 1 rfl rfl (fun hl1=> ?_)
 refine bV 0 2 rfl rfl (fun lI=> ?_)
 have hdv:=J4 h0
 have sP:=Gu h0
 have hw:IntKind.i64.wrap ((x.af.length:Int)-1)=(x.af.length:Int)-1:=aM (by omega)
 refine av X [1,2,3,6] rfl (aS X [] [(12,⟨true,[.agg (bX x)]⟩)] [1,2,3,6,8] [] rfl (by(with_reducible and_intros)<;>first|exact⟨⟩|exact(eT x h0)) (aa (aa ?_)))
 have t1:=(aU c 0 (IntKind.i64.wrap ((x.af.length:Int)-1)))
 refine aH X [] [(14,⟨false,[bh (okW x)]⟩),(22,⟨false,cg t1⟩)] [1,2,3,6,8,24] [] rfl (by(with_reducible and_intros);(iterate 2 all_goals try first|exact⟨⟩|exact(dc x)|exact fun _=>t1)) ?_
 refine ak rfl ?_ ?_<;>intro hb0
 ·have hk:iM x c=false:=dG hb0 (by simp only[iM,sU,hw,bK]<;>first|rfl|ac_rfl)
  have hq:=XU (b:=b) hk
  exact aN X [6,7] rfl (by trivial) (aj (ah rfl (by and_intros<;>first|exact⟨⟩| (rw[hq.1];done)| (rw[hq.2];done))))
 ·have hk:iM x c=true:=dH hb0 (by simp only[iM,sU,hw,bK]<;>first|rfl|ac_rfl)
  obtain⟨hok,hc0,hc1⟩:=zB hk
  have G3:=Qf hk
  have hq:=Ut (b:=b) hk
  refine ay (aa ?_)
  have t1:=(eY (x.af.getD c.toNat (aI .bP)) b G3 hb)
  exact aH X [] [(33,⟨true,cg t1⟩)] [1,6,8,9,10] [] rfl (by(with_reducible and_intros)<;>first|exact⟨⟩|exact t1| (intros;omega)) (aN X [6,8,10] rfl (by and_intros<;>first|exact⟨⟩| (intros;omega)) (aN X [6,7] rfl (by trivial) (aj (ah rfl (by and_intros<;>first|exact⟨⟩| (rw[hq.1];rfl;done)| (rw[hq.2];rfl;done))))))
theorem ur(x:bw)(c:Int)(h0:wB x):So 99 [.agg (bX x),aL c] [.agg (bX (Mh x c)),bh (iM x c)]:=by
 refine aD X call99 func99 ntmps99 rfl rfl ?_
 intro zb
 refine bV 0 1 rfl rfl (fun hl1=> ?_)
 refine bV 0 2 rfl rfl (fun lI=> ?_)
 have hdv:=J4 h0
 have sP:=Gu h0
 have hw:IntKind.i64.wrap ((x.af.length:Int)-1)=(x.af.length:Int)-1:=aM (by omega)
 refine av X [1,2,4] rfl (aS X [] [(8,⟨true,[.agg (bX x)]⟩)] [1,2,4,6] [] rfl (by(with_reducible and_intros)<;>first|exact⟨⟩|exact(eT x h0)) (aa (aa ?_)))
 have t1:=(aU c 0 (IntKind.i64.wrap ((x.af.length:Int)-1)))
 refine aH X [] [(10,⟨false,[bh (okW x)]⟩),(18,⟨false,cg t1⟩)] [1,2,4,6,20] [] rfl (by(with_reducible and_intros);(iterate 2 all_goals try first|exact⟨⟩|exact(dc x)|exact fun _=>t1)) ?_
 refine ak rfl ?_ ?_<;>intro hb0
 ·have hk:iM x c=false:=dG hb0 (by simp only[iM,sU,hw,bK]<;>first|rfl|ac_rfl)
  have hq:=XV hk
  exact aN X [4,5] rfl (by trivial) (aj (ah rfl (by and_intros<;>first|exact⟨⟩| (rw[hq];done)| (rw[hk];done))))
 ·have hk:iM x c=true:=dH hb0 (by simp only[iM,sU,hw,bK]<;>first|rfl|ac_rfl)
  obtain⟨hok,hc0,hc1⟩:=zB hk
  have G3:=Qf hk
  have hq:=Uu hk
  exact ay (eI X [] [(30,⟨true,[.agg (cQ (Dp (x.af.getD c.toNat (aI .bP))))]⟩)] [4,6] [] 10 MO (by kernel_rfl) rfl (by(with_reducible and_intros)<;>first|exact⟨⟩|exact(gA (x.af.getD c.toNat (aI .bP)) G3)| (intros;omega)) (aN X [4,5] rfl (by trivial) (aj (ah rfl (by and_intros<;>first|exact⟨⟩| (rw[hq];rfl;done)| (rw[hk];done))))))
theorem rC(x:bw)(i b:Int)(h0:wB x):So 100 [.agg (bX x),aL i,aL b] [.agg (bX (Mi x i b)),bh (Cl x i b)]:=by
 refine aD X call100 func100 ntmps100 rfl rfl ?_
 intro zb
 refine bV 0 1 rfl rfl (fun hl1=> ?_)
 refine bV 0 2 rfl rfl (fun lI=> ?_)
 have hdv:=J4 h0
 have sP:=Gu h0
 refine av X [1,2,3,6] rfl (aS X [] [(10,⟨true,[.agg (bX x)]⟩)] [1,2,3,6,8] [] rfl (by(with_reducible and_intros)<;>first|exact⟨⟩|exact(eT x h0)) (aa (aa ?_)))
 have t1:=(aU i 0 (IntKind.i64.wrap ((x.an.length:Int)-1)))
 refine aH X [] [(12,⟨false,[bh (okW x)]⟩),(20,⟨false,cg t1⟩),(25,⟨false,[bh (inr b 0 3)]⟩)] [1,2,6,8,27] [] rfl (by(with_reducible and_intros);(iterate 3 all_goals try first|exact⟨⟩|exact(dc x)|exact fun _=>t1|exact fun _=>(aU b 0 3))) ?_
 refine ak rfl ?_ ?_<;>intro hb0
 ·have hk:Cl x i b=false:=dG hb0 (by simp only[Cl,bK]<;>first|rfl|ac_rfl)
  have hq:=XW hk
  exact aN X [6,7] rfl (by trivial) (aj (ah rfl (by and_intros<;>first|exact⟨⟩| (rw[hq];done)| (rw[hk];done))))
 ·have hk:Cl x i b=true:=dH hb0 (by simp only[Cl,bK]<;>first|rfl|ac_rfl)
  have hcb:=PZ hk
  have hq:=Uv hk
  exact ay (aN X [6,8] rfl (by and_intros<;>first|exact⟨⟩| (intros;omega)) (aN X [6,7] rfl (by trivial) (aj (ah rfl (by and_intros<;>first|exact⟨⟩| (rw[hq];rfl;done)| (rw[hk];done))))))
end
section
set_option maxRecDepth 100000
theorem jc(v:Value)(c:bR)(b:List UInt8)(hcb:c.b=b)(hb:b.length≤1048576):dK ty Tryz.prog 47 [(1000, .box [.eF v .u8 b,aR (c.i:Int),aR c.h])] [.a (.ptr 1000 0)] [(1000, .box [.eF v .u8 b,aR (c.n.i:Int),aR c.n.h])] [aL c.x]:=by
 refine cu X2 call47 func47 rfl rfl (by decide) ntmps47 (by simp) rfl ?_
 intro zb
 subst hcb
 refine av X2 [0] rfl (aN X2 [0] rfl (by trivial) (eI X2 [] [] [0,3] [] 13 MO (by kernel_rfl) rfl (by and_intros<;>first|exact⟨⟩| (intros;omega)) (aa (eI X2 [] [] [0,3,34] [] 10 MO (by kernel_rfl) rfl (by trivial) ?_))))
 refine ak rfl ?_ ?_<;>intro hb0
 ·try simp only[aP]at hb0
  have hx:c.x=Mo (IntKind.i64.wrap (c.x0+IntKind.i64.wrap ((c.b.getD c.i (aI .u8)).toNat:Int))):=by rw[bR.x,if_pos (by omega)]
  have hn:c.n.i=c.i+1:=by show(if c.i<c.b.length then c.i+1 else c.i)=_;rw[if_pos (by omega)]
  have hw:IntKind.i64.wrap ((c.i:Int)+1)=((c.i+1:Nat):Int):=by rw[aM (by omega)];omega
  exact eI X2 [] [] [0,3] [] 15 MO (by kernel_rfl) rfl (by and_intros<;>first|exact⟨⟩| (intros;omega)) (fK X2 [3] rfl (by trivial) (av X2 [2] rfl (aj (aW rfl ⟨by rw[hx];rfl,rfl,rfl,by rw[hn,hw],rfl,⟨⟩⟩))))
 ·try simp only[aP]at hb0
  have hx:c.x=c.x0:=by rw[bR.x,if_neg (by omega)]
  have hn:c.n.i=c.i:=by show(if c.i<c.b.length then c.i+1 else c.i)=_;rw[if_neg (by omega)]
  exact ay (av X2 [2] rfl (aj (aW rfl ⟨by rw[hx];rfl,rfl,rfl,by rw[hn],rfl,⟨⟩⟩)))
theorem aG(v:Value)(c:bR)(n:Int)(b:List UInt8)(hcb:c.b=b)(hb:b.length≤1048576):dK ty Tryz.prog 27 [(1000, .box [.eF v .u8 b,aR (c.i:Int),aR c.h])] [.a (.ptr 1000 0),aL n] [(1000, .box [.eF v .u8 b,aR ((az c n).i:Int),aR (az c n).h])] [aL (aO c n)]:=by
 refine cu X2 call27 func27 rfl rfl (by decide) ntmps27 (by simp) rfl ?_
 intro zb
 refine av X2 [0,1] rfl (aa (av X2 [0,1,9] rfl ?_))
 refine ak rfl ?_ ?_<;>intro hb0
 ·try simp only[aP]at hb0
  have hx:aO c n=0:=by rw[aO,if_pos hb0]
  have hn:az c n=c:=by rw[az,if_pos hb0]
  exact av X2 [4] rfl (aj (aW rfl ⟨by rw[hx],rfl,rfl,by rw[hn],by rw[hn],⟨⟩⟩))
 ·try simp only[aP]at hb0
  have h0: ¬n≤0:=by omega
  refine ay (aa (av X2 [0,1,11] rfl ?_))
  refine ak rfl ?_ ?_<;>intro bt
  ·try simp only[aP]at bt
   have hx:aO c n=c.x.tmod n:=by rw[aO,if_neg h0,if_pos bt]
   have hn:az c n=c.n:=by rw[az,if_neg h0,if_pos bt]
   refine aa ?_
   have t1:=(jc v c b hcb hb)
   exact aH X2 [] [(800013,⟨true,bA t1⟩),(700013,⟨true, .agg [.ptr 1000 1000]:: .agg []::bB t1⟩)] [4] [] rfl (by(with_reducible and_intros)<;>first|exact⟨⟩|exact t1| (intros;omega)|exact rfl) (aj (aW rfl ⟨by rw[hx],rfl,rfl,by rw[hn],by rw[hn],⟨⟩⟩))
  ·try simp only[aP]at bt
   have h1: ¬n≤256:=by omega
   have hx:aO c n=(IntKind.i64.wrap (IntKind.i64.wrap (IntKind.i64.wrap (c.x*65536)+IntKind.i64.wrap (c.n.x*256))+c.n.n.x)).tmod n:=by rw[aO,if_neg h0,if_neg h1]
   have hn:az c n=c.n.n.n:=by rw[az,if_neg h0,if_neg h1]
   refine ay (aa ?_)
   have t1:=(jc v c b hcb hb)
   refine aH X2 [] [(800017,⟨true,bA t1⟩),(700017,⟨true, .agg [.ptr 1000 1000]:: .agg []::bB t1⟩)] [0,1,5] [] rfl (by(with_reducible and_intros)<;>first|exact⟨⟩|exact t1|exact rfl) (aa ?_)
   have t1:=(jc v c.n b hcb hb)
   refine aH X2 [] [(800019,⟨true,bA t1⟩),(700019,⟨true, .agg [.ptr 1000 1000]:: .agg []::bB t1⟩)] [0,1,5,6] [] rfl (by(with_reducible and_intros)<;>first|exact⟨⟩|exact t1|exact rfl) (aa ?_)
   have t1:=(jc v c.n.n b hcb hb)
   exact aH X2 [] [(800021,⟨true,bA t1⟩),(700021,⟨true, .agg [.ptr 1000 1000]:: .agg []::bB t1⟩)] [1,5,6,7] [] rfl (by(with_reducible and_intros)<;>first|exact⟨⟩|exact t1|exact rfl) (aN X2 [4] rfl (by and_intros<;>first|exact⟨⟩| (intros;omega)) (aj (aW rfl ⟨by rw[hx],rfl,rfl,by rw[hn],by rw[hn],⟨⟩⟩)))
theorem bU(v:Value)(c:bR)(l:List Int)(b:List UInt8)(hcb:c.b=b)(hb:b.length≤1048576)(hl:0<l.length∧l.length≤1048576):dK ty Tryz.prog 67 [(1000, .box [.eF v .u8 b,aR (c.i:Int),aR c.h])] [.a (.ptr 1000 0), .a (.sl .int l)] [(1000, .box [.eF v .u8 b,aR ((az c (l.length:Int)).i:Int),aR (az c (l.length:Int)).h])] [aL (l.getD (aO c (l.length:Int)).toNat (aI .int))]:=by
 refine cu X2 call67 func67 rfl rfl (by decide) ntmps67 (by simp) rfl ?_
 intro zb
 have B8:=bZ c (n:=(l.length:Int)) (by omega)
 refine av X2 [0,1] rfl (aa ?_)
 have t1:=(aG v c (l.length:Int) b hcb hb)
 exact aH X2 [] [(800009,⟨true,bA t1⟩),(700009,⟨true, .agg [.ptr 1000 1000]:: .agg []::bB t1⟩)] [4] [] rfl (by(with_reducible and_intros)<;>first|exact⟨⟩|exact t1| (intros;omega)|exact rfl) (aj (aW rfl ⟨rfl,rfl,rfl,rfl,rfl,⟨⟩⟩))
theorem ck(v:Value)(c:bR)(n:Int)(b:List UInt8)(hcb:c.b=b)(hb:b.length≤1048576)(hn:n≤1000):dK ty Tryz.prog 26 [(1000, .box [.eF v .u8 b,aR (c.i:Int),aR c.h])] [.a (.ptr 1000 0),aL n] [(1000, .box [.eF v .u8 b,aR ((yD c n.toNat).i:Int),aR (yD c n.toNat).h]),(11, .arr .u8 (n8 c n.toNat))] [.a (.own 11)]:=by
 refine cu X2 call26 func26 rfl rfl (by decide) ntmps26 (by simp) rfl ?_
 intro zb
 refine av X2 [0,1] rfl (aS X2 [(7,11)] [] [0,1,5] [] rfl (by and_intros<;>first|exact⟨⟩|exact rfl) (aa (av X2 [0,1,5,6] rfl ?_)))
 refine aq (aQ (fun k=>k≤n.toNat) (fun k:Nat=> [(6, .one ((aL k)))]) (fun k=> [(1000, .box [.eF v .u8 b,aR ((yD c k).i:Int),aR (yD c k).h]),(11, .arr .u8 (n8 c k))]) (fun k=>n.toNat-k) 0 (fun k=>rfl) (Nat.zero_le _) rfl ?_)
 intro k hk
 have hle:=gQ c k
 have hbk:(yD c k).b=b:=by rw[rD];exact hcb
 refine aa (av X2 [0,1,5,6,10] rfl ?_)
 refine ak rfl ?_ ?_<;>intro hb0
 ·try simp only[aP]at hb0
  refine ay (aa (aq ?_))
  have t1:=(jc v (yD c k) b hbk hb)
  refine aH X2 [(18,11)] [(800015,⟨true,bA t1⟩),(700015,⟨true, .agg [.ptr 1000 1000]:: .agg []::bB t1⟩)] [0,1,5,6] [] rfl (by(repeat' with_reducible first|exact aB|refine aE ?_ ?_|apply And.intro)<;>first|exact t1|exact rfl|exact⟨rfl,aA _ (by decide)⟩|exact(cj _).1|exact(cj _).2| (simp only[b7,maxLen,lens];omega)) ?_
  refine bT X2 [0,1,5,6] rfl ?_
  refine⟨k+1,by omega,by omega,?_⟩
  rw[cw _ k rfl (by omega)]
  try rfl
 ·try simp only[aP]at hb0
  have hk2:n.toNat=k:=by omega
  exact aV (av X2 [4] rfl (aj (aW rfl ⟨rfl,rfl,by rw[hk2],by rw[hk2],by rw[hk2],⟨⟩⟩)))
theorem gB(v:Value)(l:List UInt8):dK ty Tryz.prog 25 [] [.a (.eF v .u8 l)] [(907, .box [.eF v .u8 l,aR ((cB l).i:Int),aR (cB l).h])] [.a (.ptr 907 0)]:=by
 refine cu X2 call25 func25 rfl rfl (by decide) ntmps25 (by simp) rfl ?_
 intro zb
 refine av X2 [0] rfl (av X2 [0,3] rfl (aa (av X2 [0,3,4] rfl ?_)))
 refine aq (aQ (fun k=>k≤BM l) (fun k:Nat=> [(3, .one ((aL (UE l k)))),(4, .one ((aL k)))]) (fun k=> []) (fun k=>(BM l)-k) 0 (fun k=>rfl) (Nat.zero_le _) rfl ?_)
 intro k hk
 have hck:BM l≤4000:=by unfold BM;omega
 refine aa (av X2 [0,3,4,15] rfl ?_)
 refine ak rfl ?_ ?_<;>intro hb0
 ·have hgo:=X1 hb0
  have hs:=Mp (l:=l) (k:=k) (by unfold BM at hgo;omega)
  refine ay (aa (aq (fK X2 [0,3,4] rfl (by and_intros<;>first|exact⟨⟩| (intros;omega)| (intros;simp only[nb]at*;omega)) (bT X2 [0,3,4] rfl ?_))))
  refine⟨k+1,by omega,by omega,?_⟩
  rw[cw _ k rfl (by omega),hs]
  try rfl
 ·have hke:=UF hk hb0
  exact aV (aS X2 [(31,907)] [] [2] [] rfl ⟨⟩ (aj (aW rfl ⟨rfl,rfl,rfl,by rw[hke];rfl,⟨⟩⟩)))
theorem nh(r:Int)(h:1≤r∧r≤64):So 88 [aL r] [.agg (dz (⟨r,[]⟩:iK))]:=by
 refine cX X2 call88 func88 rfl rfl (by decide) ntmps88 (by simp) ?_
 intro zb
 refine av X2 [0,2] rfl (aa (aS X2 [] [(4,⟨false,[bh (inr r 1 64)]⟩)] [0,2,5] [] rfl (by(with_reducible and_intros)<;>first|exact⟨⟩|exact(aU r 1 64)) ?_))
 refine ak rfl ?_ ?_<;>intro hb0
 ·try simp only[aP]at hb0
  omega
 ·try simp only[aP]at hb0
  exact ay (aN X2 [2] rfl (by trivial) (aj (ah rfl ⟨rfl,rfl,⟨⟩⟩)))
theorem kr(i f k s:Int)(h1:0≤i∧i≤7)(h2:0≤f∧f≤7)(h3:i≠f)(h4:1≤k∧k≤2147483646):So 94 [aL i,aL f,aL k,aL s] [.agg (cF (⟨i,f,k,s,[],0,[],0⟩:dN))]:=by
 refine cX X2 call94 func94 rfl rfl (by decide) ntmps94 (by simp) ?_
 intro zb
 refine av X2 [0,1,2,3,8] rfl (aa (aS X2 [] [(12,⟨false,[bh (inr i 0 7&&inr f 0 7&& !(i==f)&&gO k)]⟩)] [0,1,2,3,8,13] [] rfl (by(with_reducible and_intros)<;>first|exact⟨⟩|exact(vE i f k)) ?_))
 refine ak rfl ?_ ?_<;>intro hb0
 ·try simp only[aP]at hb0
  have hq:gO k=true:=by unfold gO;rw[cP];exact h4
  rw[hq]at hb0
  simp at hb0
  omega
 ·exact ay (aN X2 [8] rfl (by trivial) (aj (ah rfl ⟨rfl,rfl,rfl,rfl,rfl,rfl,rfl,rfl,⟨⟩⟩)))
theorem yZ(rows s p seed:Int)(hr:1≤rows∧rows≤64)(hs:2≤s∧s≤4)(hp:1≤p∧p≤4):So 118 [aL rows,aL s,aL p,aL seed] [.agg (bX (UG rows s.toNat p.toNat seed))]:=by
 refine cX X2 call118 func118 rfl rfl (by decide) ntmps118 (by simp) ?_
 intro zb
 refine av X2 [0,1,2,3,8] rfl (aa (aS X2 [] [(14,⟨false,[bh (inr rows 1 64)]⟩),(18,⟨false,[bh (cW s)]⟩),(23,⟨false,[bh (inr p 1 4)]⟩)] [0,1,2,3,8,25] [] rfl (by(with_reducible and_intros);(iterate 3 all_goals try first|exact⟨⟩|exact(aU rows 1 64)|exact fun _=>(eR s)|exact fun _=>(aU p 1 4))) ?_))
 refine ak rfl ?_ ?_<;>intro hb0
 ·try simp only[aP]at hb0
  simp[cW,inr]at hb0
  omega
 ·refine ay (aa ?_)
  have t1:=(jk 1 (kh seed [197]))
  refine aH X2 [(29,63)] [(29,⟨true,[.agg (dz (⟨rows,[]⟩:iK))]⟩),(32,⟨false,[aL (kh seed [197])]⟩),(33,⟨false,cg t1⟩)] [0,1,2,3,8,9] [] rfl (by(repeat' with_reducible first|exact aB|refine aE ?_ ?_|apply And.intro);(iterate 3 all_goals try first|exact(nh rows (by first|assumption|omega| (simp;done)| (simp;omega)))|exact(bu seed [197] (by first|assumption|omega| (simp;done)| (simp;omega)))|exact t1);all_goals first|exact⟨rfl,aA _ (by decide)⟩) ?_
  rw[zw (eB _ _).1]
  refine kg 9 1 61 .bD rfl (kg 9 2 62 .bP rfl (aa (av X2 [0,1,2,3,8,9,10] rfl ?_)))
  refine aq (aQ (fun k=>k≤s.toNat) (fun k:Nat=> [(10, .one ((aL k)))]) (fun k=> [(61, .arr .bD (yY rows k))]) (fun k=>s.toNat-k) 0 (fun k=>rfl) (Nat.zero_le _) rfl ?_)
  intro k hk
  have hle:=EP rows k
  refine aa (av X2 [0,1,2,3,8,9,10,38] rfl ?_)
  refine ak rfl ?_ ?_<;>intro bt
  ·try simp only[aP]at bt
   have Vr:=GY (id:=(k:Int)) (rows:=rows) (by omega) hr
   refine ay (aa (aq (ct X2 [(47,61)] [(45,⟨true,[.agg (cH (newS (k:Int) rows 0))]⟩),(500046,⟨true,[]⟩)] [0,1,2,3,8,9,10] [] 6 MO (by kernel_rfl) rfl (by(repeat' with_reducible first|exact aB|refine aE ?_ ?_|apply And.intro)<;>first|exact(kq (k:Int) rows 0)|exact rfl|exact⟨rfl,aA _ (by decide)⟩| (simp only[b7,maxLen,lens];omega)) ?_)))
   rw[Vr]
   refine bT X2 [0,1,2,3,8,9,10] rfl ?_
   refine⟨k+1,by omega,by omega,?_⟩
   rw[cw _ k rfl (by omega),Qx]
   try rfl
  ·try simp only[aP]at bt
   have hks:s.toNat=k:=by omega
   refine aV (aa (av X2 [2,3,8,9,11] rfl ?_))
   refine aq (aQ (fun k1=>k1≤(2*p.toNat)) (fun k1:Nat=> [(11, .one ((aL k1)))]) (fun k1=> [(62, .arr .bP (qa seed k1))]) (fun k1=>(2*p.toNat)-k1) 0 (fun k1=>rfl) (Nat.zero_le _) rfl ?_)
   intro k1 hk1
   have TH:=ES seed k1
   have hp2:IntKind.i64.wrap (2*p)=2*p:=aM (by omega)
   refine aa (av X2 [2,3,8,9,11,52] rfl ?_)
   refine ak rfl ?_ ?_<;>intro bY
   ·try simp only[aP]at bY
    rw[hp2]at bY
    have hkr:=rX (eB seed [199,(k1:Int).tdiv 2])
    have hx:(IntKind.i64.wrap (BitVec.ofInt IntKind.i64.bits (k1:Int)^^^BitVec.ofInt IntKind.i64.bits 1).toNat)=((k1^^^1:Nat):Int):=LP k1 (by omega)
    have hxl:=w7 k1 8 (by omega) (by decide)
    have hxn:=Kz k1
    have Ix:=zw (eB seed [199,(k1:Int).tdiv 2]).1
    have QI:IntKind.i64.wrap ((k1:Int).tdiv 2)=(k1:Int).tdiv 2:=by rw[vu (by omega)];exact aM (by omega)
    refine ay (aa (aq (aa ?_)))
    have t1:=(bu seed [199,IntKind.i64.wrap ((k1:Int).tdiv 2)] (by first|assumption|omega| (simp;done)| (simp;omega)))
    have t2:=(jk 1 (kh seed [199,IntKind.i64.wrap ((k1:Int).tdiv 2)]))
    refine aH X2 [] [(59,⟨false,cg t1⟩),(60,⟨false,cg t2⟩)] [2,3,8,9,11,12] [] rfl (by(repeat' with_reducible first|exact aB|refine aE ?_ ?_|apply And.intro);(iterate 2 all_goals try first|exact t1|exact t2);all_goals first| (intros;omega)|exact⟨rfl,aA _ (by decide)⟩) ?_
    rw[QI,Ix]
    have t1:=(kr (k1:Int) (IntKind.i64.wrap (BitVec.ofInt IntKind.i64.bits (k1:Int)^^^BitVec.ofInt IntKind.i64.bits 1).toNat) (Ep (kh seed [199,(k1:Int).tdiv 2])) (kh seed [211,(k1:Int)]) (by omega) (by rw[hx];omega) (by rw[hx];omega) (by omega))
    refine bM X2 [(74,62)] [(70,⟨false,[aL (kh seed [211,(k1:Int)])]⟩),(71,⟨false,cg t1⟩),(72,⟨true,[.agg (cQ (⟨(⟨(k1:Int),(IntKind.i64.wrap (BitVec.ofInt IntKind.i64.bits (k1:Int)^^^BitVec.ofInt IntKind.i64.bits 1).toNat),(Ep (kh seed [199,(k1:Int).tdiv 2])),(kh seed [211,(k1:Int)]),[],0,[],0⟩:dN),(⟨(k1:Int),(IntKind.i64.wrap (BitVec.ofInt IntKind.i64.bits (k1:Int)^^^BitVec.ofInt IntKind.i64.bits 1).toNat),(Ep (kh seed [199,(k1:Int).tdiv 2])),(kh seed [211,(k1:Int)]),[],0,[],0⟩:dN)⟩:bP))]⟩)] [2,3,8,9,11] [] 20479 2 MO (by kernel_rfl) rfl (by kernel_rfl) (by(repeat' with_reducible first|exact aB|refine aE ?_ ?_|apply And.intro);(iterate 3 all_goals try first|exact(bu seed [211,(k1:Int)] (by first|assumption|omega| (simp;done)| (simp;omega)))|exact t1|exact(iH (⟨(k1:Int),(IntKind.i64.wrap (BitVec.ofInt IntKind.i64.bits (k1:Int)^^^BitVec.ofInt IntKind.i64.bits 1).toNat),(Ep (kh seed [199,(k1:Int).tdiv 2])),(kh seed [211,(k1:Int)]),[],0,[],0⟩:dN) ⟨Nat.zero_le _,Nat.zero_le _⟩));all_goals first|exact rfl|exact⟨rfl,aA _ (by decide)⟩| (simp only[b7,maxLen,lens];omega)) ?_
    rw[hx]
    refine bT X2 [2,3,8,9,11] rfl ?_
    refine⟨k1+1,by omega,by omega,?_⟩
    rw[cw _ k1 rfl (by omega),Qy]
    try rfl
   ·try simp only[aP]at bY
    rw[hp2]at bY
    have R5:2*p.toNat=k1:=by omega
    exact aV (aN X2 [8] rfl (by trivial) (aj (ah rfl ⟨rfl,by rw[hks];rfl,by rw[←R5];rfl,rfl,rfl,rfl,rfl,rfl,rfl,rfl,⟨⟩⟩)))
theorem Cm(v:Value)(c:bR)(b:List UInt8)(hcb:c.b=b)(hb:b.length≤1048576):dK ty Tryz.prog 97 [(1000, .box [.eF v .u8 b,aR (c.i:Int),aR c.h])] [.a (.ptr 1000 0)] [(1000, .box [.eF v .u8 b,aR ((zD c).1.i:Int),aR (zD c).1.h]),(61, .arr .bD (zD c).2.an),(62, .arr .bP (zD c).2.af),(64, .arr .aK (zD c).2.aJ.rounds),(68, .arr .int (zD c).2.replaced)] [.agg [aR (zD c).2.rows, .own 61, .own 62,aR (zD c).2.aJ.rows, .own 64,aR (zD c).2.bq,aR (zD c).2.seed,aR (zD c).2.round, .own 68,aR (zD c).2.cancelled]]:=by
 refine cu X2 call97 func97 rfl rfl (by decide) ntmps97 (by simp) rfl ?_
 intro zb
 have q1:=bZ (az c 2) (n:=2) (by decide)
 have q2:=bZ (az (az c 2) 2) (n:=2) (by decide)
 have q0:=KC (c:=c)
 have bt:(az c 2).b=b:=by rw[aT];exact hcb
 have bY:(az (az c 2) 2).b=b:=by rw[aT];exact bt
 have fj:(az (az (az c 2) 2) 2).b=b:=by rw[aT];exact bY
 have ql:(QB c).b=b:=by rw[VN];exact hcb
 have hnw:UG (UK.getD (aO c (UK.length:Int)).toNat (aI .int)) (IntKind.i64.wrap (2+aO (az c 2) 2)).toNat (IntKind.i64.wrap (1+aO (az (az c 2) 2) 2)).toNat (aO (az (az (az c 2) 2) 2) 999)=nw0 c:=by rw[aM (a:=2+aO (az c 2) 2) (by omega),aM (a:=1+aO (az (az c 2) 2) 2) (by omega)];rfl
 refine av X2 [0,2] rfl (aa ?_)
 have t1:=(bU v c UK b hcb hb (by decide))
 have t2:=(aG v (az c 2) 2 b bt hb)
 have t3:=(aG v (az (az c 2) 2) 2 b bY hb)
 have t4:=(aG v (az (az (az c 2) 2) 2) 999 b fj hb)
 have t5:=(yZ (UK.getD (aO c (UK.length:Int)).toNat (aI .int)) (IntKind.i64.wrap (2+aO (az c 2) 2)) (IntKind.i64.wrap (1+aO (az (az c 2) 2) 2)) (aO (az (az (az c 2) 2) 2) 999) (by have:aO c (UK.length:Int)=aO c 2:=rfl;rw[this];omega) (by rw[aM (by omega)];omega) (by rw[aM (by omega)];omega))
 refine aH X2 [(16,60)] [(800007,⟨true,bA t1⟩),(700007,⟨true, .agg [.ptr 1000 1000]:: .agg []::bB t1⟩),(800009,⟨true,bA t2⟩),(700009,⟨true, .agg [.ptr 1000 1000]:: .agg []::bB t2⟩),(800012,⟨true,bA t3⟩),(700012,⟨true, .agg [.ptr 1000 1000]:: .agg []::bB t3⟩),(800015,⟨true,bA t4⟩),(700015,⟨true, .agg [.ptr 1000 1000]:: .agg []::bB t4⟩),(16,⟨true,cg t5⟩)] [0,2,3] [] rfl (by(repeat' with_reducible first|exact aB|refine aE ?_ ?_|apply And.intro);(iterate 5 all_goals try first|exact t1|exact t2|exact t3|exact t4|exact t5);all_goals first|exact rfl|exact⟨rfl,aA _ (by decide)⟩) ?_
 rw[hnw]
 refine aa (aa ?_)
 have t1:=(aG v (QB c) 5 b ql hb)
 refine aH X2 [] [(800018,⟨true,bA t1⟩),(700018,⟨true, .agg [.ptr 1000 1000]:: .agg []::bB t1⟩)] [0,2,3,4] [] rfl (by(with_reducible and_intros)<;>first|exact⟨⟩|exact t1|exact rfl) ?_
 rw[show aO (QB c) 5=((n32 c:Nat):Int)-((0:Nat):Int)from by have:=xM (QB c) 5;unfold n32;omega]
 refine aq (aQ (fun k=>k≤(n32 c)) (fun k:Nat=> [(4, .one ((aL (((n32 c:Nat):Int)-(k:Int)))))]) (fun k=> [(1000, .box [.eF v .u8 b,aR ((eJ oc (pU c) k).1.i:Int),aR (eJ oc (pU c) k).1.h]),(3, .box [aR (eJ oc (pU c) k).2.rows, .own 61, .own 62,aR (eJ oc (pU c) k).2.aJ.rows, .own 64,aR (eJ oc (pU c) k).2.bq,aR (eJ oc (pU c) k).2.seed,aR (eJ oc (pU c) k).2.round, .own 68,aR (eJ oc (pU c) k).2.cancelled]),(61, .arr .bD (eJ oc (pU c) k).2.an),(62, .arr .bP (eJ oc (pU c) k).2.af),(64, .arr .aK (eJ oc (pU c) k).2.aJ.rounds),(68, .arr .int (eJ oc (pU c) k).2.replaced)]) (fun k=>(n32 c)-k) 0 (fun k=>rfl) (Nat.zero_le _) rfl ?_)
 intro k hk
 have hn5:n32 c<5:=by have:=bZ (QB c) (n:=5) (by decide);unfold n32;omega
 have hd:qb (eJ oc (pU c) k).2 0:=by(have: ∀j,qb (eJ oc (pU c) j).2 0:=fun j=>by(induction j with|zero=>exact(VO c).1|succ j ih=>exact QF ih));exact this k
 have MP:=hd.B (by decide)
 have R7:(eJ oc (pU c) k).1.b=b:=by rw[G7 QD];show(az (QB c) 5).b=_;rw[aT];exact ql
 skip
 refine aa (av X2 [0,2,3,4,20] rfl ?_)
 refine ak rfl ?_ ?_<;>intro hb0
 ·try simp only[aP]at hb0
  have hsb:IntKind.i64.wrap (((n32 c:Nat):Int)-(k:Int)-1)=((n32 c:Nat):Int)-((k+1:Nat):Int):=by rw[aM (by omega)];omega
  refine ay (aa (aq ?_))
  have t1:=(aG v ((eJ oc (pU c) k).1) ((eJ oc (pU c) k).2.af.length:Int) b R7 hb)
  have t2:=(aG v (az (eJ oc (pU c) k).1 ((eJ oc (pU c) k).2.af.length:Int)) 4 b (by rw[aT];exact R7) hb)
  have t3:=(ck v (az (az (eJ oc (pU c) k).1 ((eJ oc (pU c) k).2.af.length:Int)) 4) (aO (az (eJ oc (pU c) k).1 ((eJ oc (pU c) k).2.af.length:Int)) 4) b (by rw[aT,aT];exact R7) hb (by have:=bZ (az (eJ oc (pU c) k).1 ((eJ oc (pU c) k).2.af.length:Int)) (n:=4) (by decide);omega))
  have t4:=(kM ((eJ oc (pU c) k).2) (aO (eJ oc (pU c) k).1 ((eJ oc (pU c) k).2.af.length:Int)) (n8 (az (az (eJ oc (pU c) k).1 ((eJ oc (pU c) k).2.af.length:Int)) 4) (aO (az (eJ oc (pU c) k).1 ((eJ oc (pU c) k).2.af.length:Int)) 4).toNat) MP (by rw[gQ];have:=bZ (az (eJ oc (pU c) k).1 ((eJ oc (pU c) k).2.af.length:Int)) (n:=4) (by decide);omega))
  refine bM X2 [(34,150)] [(800029,⟨true,bA t1⟩),(700029,⟨true, .agg [.ptr 1000 1000]:: .agg []::bB t1⟩),(800032,⟨true,bA t2⟩),(700032,⟨true, .agg [.ptr 1000 1000]:: .agg []::bB t2⟩),(800033,⟨true,bA t3⟩),(700033,⟨true, .agg [.ptr 1000 1000]:: .agg [.ptr 11 170]::bB t3⟩),(34,⟨true,cg t4⟩)] [0,2,3,4] [] 15583 47 MO (by kernel_rfl) rfl (by kernel_rfl) (by(with_reducible and_intros);(iterate 4 all_goals try first|exact⟨⟩|exact t1|exact t2|exact t3|exact t4);all_goals first|exact rfl) (bp 151 61 rfl (bp 152 62 rfl (bp 154 64 rfl (bp 158 68 rfl (bT X2 [0,2,3,4] rfl ?_)))))
  refine⟨k+1,by omega,by omega,?_⟩
  rw[hsb]
  try rfl
 ·try simp only[aP]at hb0
  have hkn:k=n32 c:=by omega
  exact aV (aN X2 [2] rfl (by trivial) (aj (aW rfl (by and_intros<;>first|exact⟨⟩|rfl| (rw[hkn];rfl;done)))))
set_option maxHeartbeats 1000000 in
theorem BO(v:Value)(c:bR)(s:Int)(b:List UInt8)(hcb:c.b=b)(hb:b.length≤1048576)(hs0:1≤s∧s≤1000):dK ty Tryz.prog 78 [(1000, .box [.eF v .u8 b,aR (c.i:Int),aR c.h])] [.a (.ptr 1000 0),aL s] [(1000, .box [.eF v .u8 b,aR ((BN c s).1.i:Int),aR (BN c s).1.h]),(61, .arr .bD (BN c s).2.an),(62, .arr .bP (BN c s).2.af),(64, .arr .aK (BN c s).2.aJ.rounds),(68, .arr .int (BN c s).2.replaced)] [.agg [aR (BN c s).2.rows, .own 61, .own 62,aR (BN c s).2.aJ.rows, .own 64,aR (BN c s).2.bq,aR (BN c s).2.seed,aR (BN c s).2.round, .own 68,aR (BN c s).2.cancelled]]:=by
 refine cu X2 call78 func78 rfl rfl (by decide) ntmps78 (by simp) rfl ?_
 intro zb
 refine av X2 [0,1,4] rfl (aa ?_)
 have t1:=(Cm v c b hcb hb)
 refine aH X2 [] [(800008,⟨true,bA t1⟩),(700008,⟨true, .agg [.ptr 1000 1000]:: .agg [.ptr 61 61, .ptr 62 62, .ptr 64 64, .ptr 68 68]::bB t1⟩)] [0,1,4,5] [] rfl (by(with_reducible and_intros)<;>first|exact⟨⟩|exact t1|exact rfl) (aa (aa ?_))
 have t1:=(aG v ((zD c).1) s b (by rw[QE];exact hcb) hb)
 refine aH X2 [] [(800011,⟨true,bA t1⟩),(700011,⟨true, .agg [.ptr 1000 1000]:: .agg []::bB t1⟩)] [0,4,5,6] [] rfl (by(with_reducible and_intros)<;>first|exact⟨⟩|exact t1|exact rfl) ?_
 rw[show aO (zD c).1 s=((QC c s:Nat):Int)-((0:Nat):Int)from by have:=xM (zD c).1 s;unfold QC;omega]
 refine aq (aQ (fun k=>k≤(QC c s)) (fun k:Nat=> [(6, .one ((aL (((QC c s:Nat):Int)-(k:Int)))))]) (fun k=> [(1000, .box [.eF v .u8 b,aR ((eJ jh (jS c s) k).1.i:Int),aR (eJ jh (jS c s) k).1.h]),(5, .box [aR (eJ jh (jS c s) k).2.rows, .own 61, .own 62,aR (eJ jh (jS c s) k).2.aJ.rows, .own 64,aR (eJ jh (jS c s) k).2.bq,aR (eJ jh (jS c s) k).2.seed,aR (eJ jh (jS c s) k).2.round, .own 68,aR (eJ jh (jS c s) k).2.cancelled]),(61, .arr .bD (eJ jh (jS c s) k).2.an),(62, .arr .bP (eJ jh (jS c s) k).2.af),(64, .arr .aK (eJ jh (jS c s) k).2.aJ.rounds),(68, .arr .int (eJ jh (jS c s) k).2.replaced)]) (fun k=>(QC c s)-k) 0 (fun k=>rfl) (Nat.zero_le _) rfl ?_)
 intro k hk
 have Vr:=VP c (s:=s) (by omega)
 have hd:=QG c s k (by omega)
 have MP:=hd.B (by omega)
 have hwr:=hd.R (by omega)
 have hbp:(eJ jh (jS c s) k).1.b=b:=by rw[G7 VM];show(az (zD c).1 s).b=_;rw[aT,QE];exact hcb
 have R7:(az (eJ jh (jS c s) k).1 8).b=b:=by rw[aT];exact hbp
 refine aa (av X2 [0,4,5,6,13] rfl ?_)
 refine ak rfl ?_ ?_<;>intro hb0
 ·try simp only[aP]at hb0
  have hsb:IntKind.i64.wrap (((QC c s:Nat):Int)-(k:Int)-1)=((QC c s:Nat):Int)-((k+1:Nat):Int):=by rw[aM (by omega)];omega
  have hs:eJ jh (jS c s) (k+1)=Mt (aO (eJ jh (jS c s) k).1 8) ((az (eJ jh (jS c s) k).1 8),(eJ jh (jS c s) k).2):=rfl
  unfold Mt at hs
  refine ay (aa (aq (aa ?_)))
  have t1:=(aG v ((eJ jh (jS c s) k).1) 8 b hbp hb)
  refine aH X2 [] [(800017,⟨true,bA t1⟩),(700017,⟨true, .agg [.ptr 1000 1000]:: .agg []::bB t1⟩)] [0,4,5,6,17] [] rfl (by(with_reducible and_intros)<;>first|exact⟨⟩|exact t1|exact rfl) (aq (av X2 [0,4,5,6,17,20] rfl ?_))
  refine ak rfl ?_ ?_<;>intro bt
  ·try simp only[aP]at bt
   rw[if_pos bt]at hs
   have t1:=(aG v (az (eJ jh (jS c s) k).1 8) ((eJ jh (jS c s) k).2.af.length:Int) b R7 hb)
   have t2:=(aG v (az (az (eJ jh (jS c s) k).1 8) ((eJ jh (jS c s) k).2.af.length:Int)) 4 b (by rw[aT];exact R7) hb)
   have t3:=(ck v (az (az (az (eJ jh (jS c s) k).1 8) ((eJ jh (jS c s) k).2.af.length:Int)) 4) (aO (az (az (eJ jh (jS c s) k).1 8) ((eJ jh (jS c s) k).2.af.length:Int)) 4) b (by rw[aT,aT];exact R7) hb (by have:=bZ (az (az (eJ jh (jS c s) k).1 8) ((eJ jh (jS c s) k).2.af.length:Int)) (n:=4) (by decide);omega))
   have t4:=(kM ((eJ jh (jS c s) k).2) (aO (az (eJ jh (jS c s) k).1 8) ((eJ jh (jS c s) k).2.af.length:Int)) (n8 (az (az (az (eJ jh (jS c s) k).1 8) ((eJ jh (jS c s) k).2.af.length:Int)) 4) (aO (az (az (eJ jh (jS c s) k).1 8) ((eJ jh (jS c s) k).2.af.length:Int)) 4).toNat) MP (by rw[gQ];have:=bZ (az (az (eJ jh (jS c s) k).1 8) ((eJ jh (jS c s) k).2.af.length:Int)) (n:=4) (by decide);omega))
   refine bM X2 [(33,150)] [(800028,⟨true,bA t1⟩),(700028,⟨true, .agg [.ptr 1000 1000]:: .agg []::bB t1⟩),(800031,⟨true,bA t2⟩),(700031,⟨true, .agg [.ptr 1000 1000]:: .agg []::bB t2⟩),(800032,⟨true,bA t3⟩),(700032,⟨true, .agg [.ptr 1000 1000]:: .agg [.ptr 11 170]::bB t3⟩),(33,⟨true,cg t4⟩)] [0,4,5,6] [] 15583 47 MO (by kernel_rfl) rfl (by kernel_rfl) (by(with_reducible and_intros);(iterate 4 all_goals try first|exact⟨⟩|exact t1|exact t2|exact t3|exact t4);all_goals first|exact rfl) (bp 151 61 rfl (bp 152 62 rfl (bp 154 64 rfl (bp 158 68 rfl (bT X2 [0,4,5,6] rfl ?_)))))
   refine⟨k+1,by omega,by omega,?_⟩
   rw[hs,hsb]
   try rfl
  ·try simp only[aP]at bt
   rw[if_neg bt]at hs
   refine av X2 [0,4,5,6,17,36] rfl ?_
   refine ak rfl ?_ ?_<;>intro bY
   ·try simp only[aP]at bY
    rw[if_pos bY]at hs
    have t1:=(aG v (az (eJ jh (jS c s) k).1 8) ((eJ jh (jS c s) k).2.af.length:Int) b R7 hb)
    have t2:=(ur ((eJ jh (jS c s) k).2) (aO (az (eJ jh (jS c s) k).1 8) ((eJ jh (jS c s) k).2.af.length:Int)) MP)
    refine bM X2 [(45,150)] [(800044,⟨true,bA t1⟩),(700044,⟨true, .agg [.ptr 1000 1000]:: .agg []::bB t1⟩),(45,⟨true,cg t2⟩)] [0,4,5,6] [] 991 3 MO (by kernel_rfl) rfl (by kernel_rfl) (by(with_reducible and_intros);(iterate 2 all_goals try first|exact⟨⟩|exact t1|exact t2);all_goals first|exact rfl) (bp 151 61 rfl (bp 152 62 rfl (bp 154 64 rfl (bp 158 68 rfl (bT X2 [0,4,5,6] rfl ?_)))))
    refine⟨k+1,by omega,by omega,?_⟩
    rw[hs,hsb]
    try rfl
   ·try simp only[aP]at bY
    rw[if_neg bY]at hs
    refine av X2 [0,4,5,6,48] rfl ?_
    refine ak rfl ?_ ?_<;>intro fj
    ·try simp only[aP]at fj
     rw[if_pos fj]at hs
     have t1:=(aG v (az (eJ jh (jS c s) k).1 8) ((eJ jh (jS c s) k).2.an.length:Int) b R7 hb)
     have t2:=(aG v (az (az (eJ jh (jS c s) k).1 8) ((eJ jh (jS c s) k).2.an.length:Int)) 4 b (by rw[aT];exact R7) hb)
     have t3:=(rC ((eJ jh (jS c s) k).2) (aO (az (eJ jh (jS c s) k).1 8) ((eJ jh (jS c s) k).2.an.length:Int)) (aO (az (az (eJ jh (jS c s) k).1 8) ((eJ jh (jS c s) k).2.an.length:Int)) 4) MP)
     refine bM X2 [(59,150)] [(800056,⟨true,bA t1⟩),(700056,⟨true, .agg [.ptr 1000 1000]:: .agg []::bB t1⟩),(800058,⟨true,bA t2⟩),(700058,⟨true, .agg [.ptr 1000 1000]:: .agg []::bB t2⟩),(59,⟨true,cg t3⟩)] [0,4,5,6] [] 3935 11 MO (by kernel_rfl) rfl (by kernel_rfl) (by(with_reducible and_intros);(iterate 3 all_goals try first|exact⟨⟩|exact t1|exact t2|exact t3);all_goals first|exact rfl) (bp 151 61 rfl (bp 152 62 rfl (bp 154 64 rfl (bp 158 68 rfl (bT X2 [0,4,5,6] rfl ?_)))))
     refine⟨k+1,by omega,by omega,?_⟩
     rw[hs,hsb]
     try rfl
    ·try simp only[aP]at fj
     rw[if_neg fj]at hs
     have pX:nZ (eJ jh (jS c s) k).2=true:=by(have:=hd.round;simp only[nZ,hd.ok,Bool.true_and,Bool.not_eq_true',decide_eq_false_iff_not];omega)
     replace hs:=hs.trans (congrArg (Prod.mk (az (eJ jh (jS c s) k).1 8)) (I2 pX))
     have t1:=(yX ((eJ jh (jS c s) k).2) hwr hd.ok)
     refine aH X2 [(19,150)] [(19,⟨true,cg t1⟩)] [0,4,5,6] [] rfl (by(with_reducible and_intros)<;>first|exact⟨⟩|exact t1) (bp 151 61 rfl (bp 152 62 rfl (bp 154 64 rfl (bp 158 68 rfl (bT X2 [0,4,5,6] rfl ?_)))))
     refine⟨k+1,by omega,by omega,?_⟩
     rw[hs,hsb]
     try rfl
 ·try simp only[aP]at hb0
  have hkn:k=QC c s:=by omega
  exact aV (aN X2 [4] rfl (by trivial) (aj (aW rfl (by and_intros<;>first|exact⟨⟩|rfl| (rw[hkn];rfl;done)))))
end
section
set_option maxRecDepth 100000
theorem wm(a:iK)(r:Int)(d:DB)(h0:gY a≤1048576)(hd0:eu List.length d.rows≤1048576):So 89 [.agg (dz a),aL r, .agg (bQ d)] [.agg (dz (⟨a.rows,yS a r d⟩:iK)),bh (o8 a r d)]:=by
 refine cX X2 call89 func89 rfl rfl (by decide) ntmps89 (by simp) ?_
 intro zb
 refine av X2 [1,3,5,6] rfl (aS X2 [] [(10,⟨true,[.agg (dz a)]⟩)] [1,3,5,6,8] [] rfl (by(with_reducible and_intros)<;>first|exact⟨⟩|exact(l8 a h0)) (aa (aS X2 [] [(12,⟨false,[bh (gq a)]⟩),(16,⟨false,[bh (inr r 0 100000)]⟩),(22,⟨false,[aL (eC a)]⟩),(27,⟨false,[bh (cR d)]⟩)] [1,5,6,8,37] [] rfl (by(with_reducible and_intros);(iterate 4 all_goals try first|exact⟨⟩|exact(gI a)|exact fun _=>(aU r 0 100000)|exact fun _=>(iF a)|exact fun _=>(cJ d))) ?_)))
 refine ak rfl ?_ ?_<;>intro hb0
 ·have hk:o8 a r d=false:=dG hb0 (by simp only[o8,bK]<;>first|rfl|ac_rfl)
  have hn:=P8 hk
  exact aN X2 [6,7] rfl (by trivial) (aj (ah rfl ⟨rfl,by rw[hn],by rw[hk],⟨⟩⟩))
 ·have hk:o8 a r d=true:=dH hb0 (by simp only[o8,bK]<;>first|rfl|ac_rfl)
  have hn:=Ks hk
  have hkb:=I1 hk
  have hal:(o9 a r d).length=a.rounds.length+1:=by unfold o9;rw[List.length_append];rfl
  refine ay (eI X2 [] [(43,⟨true,[.agg (bQ d)]⟩),(500045,⟨true,[]⟩)] [6,8] [] 7 MO (by kernel_rfl) rfl (by(repeat' with_reducible first|exact aB|refine aE ?_ ?_|apply And.intro)<;>first|exact(dr d hd0)|exact rfl|exact⟨rfl,aA _ (by decide)⟩| (simp only[b7,maxLen,lens];omega)) ?_)
  rw[show a.rounds++ [(⟨r,d⟩:aK)]=(o9 a r d)from rfl]
  refine aa (av X2 [6,8,51] rfl ?_)
  refine ak rfl ?_ ?_<;>intro bt
  ·try simp only[aP]at bt
   have h8:(8:Int)<((o9 a r d).length:Int):=bt
   rw[if_pos h8]at hn
   exact aH X2 [] [(600054,⟨true,[]⟩)] [6,8] [] rfl (by and_intros<;>first|exact⟨⟩| (intros;omega)) (aN X2 [6,7] rfl (by trivial) (aj (ah rfl ⟨rfl,by rw[hn];simp,by rw[hk],⟨⟩⟩)))
  ·try simp only[aP]at bt
   have h8: ¬(8:Int)<((o9 a r d).length:Int):=by omega
   rw[if_neg h8]at hn
   exact ay (aN X2 [6,7] rfl (by trivial) (aj (ah rfl ⟨rfl,by rw[hn],by rw[hk],⟨⟩⟩)))
theorem qd(s:bD)(c:Int)(d:DB)(hz:s.received.length≤1048576∧ ∀r,r∈s.received→eu List.length r.share.rows≤1048576)(hd:eu List.length d.rows≤1048576):So 93 [.agg (cH s),aL c, .agg (bQ d)] [.agg (cH (MR s c d)),bh (tw s c d)]:=by
 refine cX X2 call93 func93 rfl rfl (by decide) ntmps93 (by simp) ?_
 intro zb
 have nC:=hz.1
 have hlo:=KH s.received c
 have hta:(s.received.take (low s.received c)).length≤1048576:=by rw[List.length_take];omega
 have Y6:(s.received.drop (low s.received c)).length≤1048576:=by rw[List.length_drop];omega
 refine av X2 [1,3,5,6] rfl (aS X2 [] [(11,⟨true,[.agg (cH s)]⟩)] [1,3,5,6,8] [] rfl (by(with_reducible and_intros)<;>first|exact⟨⟩|exact(fU s hz)) (av X2 [1,3,5,6,8,9] rfl ?_))
 refine aa (aq (aQ (fun k=>k≤(low s.received c)) (fun k:Nat=> [(9, .one ((aL k)))]) (fun k=> []) (fun k=>(low s.received c)-k) 0 (fun k=>rfl) (Nat.zero_le _) rfl ?_))
 intro k hk
 refine aa (aN X2 [1,3,5,6,8,9,26] rfl (by refine⟨fun XR=> ?_,fun XR=> ?_,⟨⟩⟩<;>(have RW:decide ((k:Int)<(s.received.length:Int))=true:=XR;rw[decide_eq_true_eq]at RW;dsimp only[hyps,bg];omega)) ?_)
 refine ak rfl ?_ ?_<;>intro hb0
 ·have zx:k<low s.received c:=Yi hk hb0
  refine ay (aq (bT X2 [1,3,5,6,8,9] rfl ?_))
  refine⟨k+1,by omega,by omega,?_⟩
  rw[cw _ k rfl (by omega)]
  try rfl
 ·have zx:k=low s.received c:=Yj hk hb0
  subst zx
  refine Rh 8 3 (low s.received c) 41 42 (fun oa cap=>rfl) hlo (fun oa cap hcap=>(aV (aa (bM X2 [(34,29),(40,29),(45,29)] [(37,⟨true,[.agg (bQ d)]⟩)] [3,6,8] [] 193503 259 MO (by kernel_rfl) rfl (by kernel_rfl) (by simp only[List.cons_append,List.nil_append];(repeat' with_reducible first|exact aB|refine aE ?_ ?_|apply And.intro)<;>skip;(iterate 1 (all_goals try (first|exact(dr d hd))));all_goals (first| (intros;omega)|exact rfl|exact⟨rfl,aA _ (by decide)⟩| (simp only[b7,maxLen,lens];omega))) ?_))))
  refine aa (aS X2 [] [(48,⟨false,[bh (cN s)]⟩),(52,⟨false,[bh (cN (za s c d))]⟩)] [3,6,8,54] [] rfl (by(with_reducible and_intros);(iterate 2 all_goals try first|exact⟨⟩|exact(cK s)|exact fun _=>(cK (za s c d)))) ?_)
  refine ak rfl ?_ ?_<;>intro bt
  ·have hr:tw s c d=false:=aa3 bt
   exact aS X2 [] [(56,⟨true,[.agg (cH s)]⟩)] [6,7] [] rfl (by(with_reducible and_intros)<;>first|exact⟨⟩|exact(fU s hz)) (aj (ah rfl (by and_intros<;>first|exact⟨⟩| (rw[Yk hr];done)| (rw[hr];done))))
  ·have hr:tw s c d=true:=aa4 bt
   exact ay (aN X2 [6,7] rfl (by trivial) (aj (ah rfl (by and_intros<;>first|exact⟨⟩| (rw[UO hr];rfl;done)| (rw[hr];done)))))
theorem fF(v:Value)(c:bR)(n:Int)(b:List UInt8)(hcb:c.b=b)(hb:b.length≤1048576):dK ty Tryz.prog 68 [(1000, .box [.eF v .u8 b,aR (c.i:Int),aR c.h])] [.a (.ptr 1000 0),aL n] [(1000, .box [.eF v .u8 b,aR ((az c n).i:Int),aR (az c n).h])] [bh (aO c n==0)]:=by
 refine cu X2 call68 func68 rfl rfl (by decide) ntmps68 (by simp) rfl ?_
 intro zb
 refine av X2 [0,1] rfl (aa ?_)
 have t1:=(aG v c n b hcb hb)
 exact aH X2 [] [(800007,⟨true,bA t1⟩),(700007,⟨true, .agg [.ptr 1000 1000]:: .agg []::bB t1⟩)] [4] [] rfl (by(with_reducible and_intros)<;>first|exact⟨⟩|exact t1|exact rfl) (aj (aW rfl ⟨rfl,rfl,rfl,rfl,rfl,⟨⟩⟩))
theorem tB(v:Value)(c:bR)(b:List UInt8)(hcb:c.b=b)(hb:b.length≤1048576):dK ty Tryz.prog 76 [(1000, .box [.eF v .u8 b,aR (c.i:Int),aR c.h])] [.a (.ptr 1000 0)] [(1000, .box [.eF v .u8 b,aR ((G8 c).i:Int),aR (G8 c).h])] [aL (EU c)]:=by
 refine cu X2 call76 func76 rfl rfl (by decide) ntmps76 (by simp) rfl ?_
 intro zb
 have hb0:=bZ (az c 10) (n:=99999) (by decide)
 have hw:IntKind.i64.wrap (1+aO (az c 10) 99999)=1+aO (az c 10) 99999:=aM (by omega)
 clear hb0
 refine av X2 [0] rfl (aa (aa ?_))
 have t1:=(fF v c 10 b hcb hb)
 refine aH X2 [] [(800004,⟨true,bA t1⟩),(700004,⟨true, .agg [.ptr 1000 1000]:: .agg []::bB t1⟩)] [0,4] [] rfl (by(with_reducible and_intros)<;>first|exact⟨⟩|exact t1|exact rfl) ?_
 refine ak rfl ?_ ?_<;>intro hb0
 ·try simp only[aP]at hb0
  have hX:EU c=k13.getD (aO (az c 10) 4).toNat (aI .int):=if_pos (by simpa using hb0)
  have hN:G8 c=az (az c 10) 4:=if_pos (by simpa using hb0)
  refine aa ?_
  have t1:=(bU v (az c 10) k13 b (by rw[aT];exact hcb) hb (by decide))
  refine aH X2 [] [(800007,⟨true,bA t1⟩),(700007,⟨true, .agg [.ptr 1000 1000]:: .agg []::bB t1⟩)] [2] [] rfl (by(repeat' with_reducible first|exact aB|refine aE ?_ ?_|apply And.intro)<;>first|exact t1|exact rfl|exact⟨rfl,aA _ (by decide)⟩) ?_
  exact aj (aW rfl ⟨by rw[hX];rfl,rfl,rfl,by rw[hN];rfl,by rw[hN];rfl,⟨⟩⟩)
 ·try simp only[aP]at hb0
  have hX:EU c=1+aO (az c 10) 99999:=if_neg (by simpa using hb0)
  have hN:G8 c=az (az c 10) 99999:=if_neg (by simpa using hb0)
  refine ay (aa ?_)
  have t1:=(aG v (az c 10) 99999 b (by rw[aT];exact hcb) hb)
  exact aH X2 [] [(800009,⟨true,bA t1⟩),(700009,⟨true, .agg [.ptr 1000 1000]:: .agg []::bB t1⟩)] [2] [] rfl (by(with_reducible and_intros)<;>first|exact⟨⟩|exact t1|exact rfl) (aj (aW rfl ⟨by rw[hX,hw],rfl,rfl,by rw[hN],by rw[hN],⟨⟩⟩))
theorem jR(v:Value)(c:bR)(rows:Int)(b:List UInt8)(hcb:c.b=b)(hb:b.length≤1048576)(hr:rows≤64):dK ty Tryz.prog 90 [(1000, .box [.eF v .u8 b,aR (c.i:Int),aR c.h])] [.a (.ptr 1000 0),aL rows] [(1000, .box [.eF v .u8 b,aR ((G9 c rows.toNat).i:Int),aR (G9 c rows.toNat).h]),(21, .arr (.sl .u8) (B5 c rows.toNat))] [.agg [.own 21]]:=by
 refine cu X2 call90 func90 rfl rfl (by decide) ntmps90 (by simp) rfl ?_
 intro zb
 refine av X2 [0,1,4] rfl (av X2 [0,1,4,5] rfl (kg 5 0 21 (.sl .u8) rfl (aa (av X2 [0,1,4,5,6] rfl ?_))))
 refine aq (aQ (fun k=>k≤rows.toNat) (fun k:Nat=> [(6, .one ((aL k)))]) (fun k=> [(1000, .box [.eF v .u8 b,aR ((G9 c k).i:Int),aR (G9 c k).h]),(21, .arr (.sl .u8) (B5 c k))]) (fun k=>rows.toNat-k) 0 (fun k=>rfl) (Nat.zero_le _) rfl ?_)
 intro k hk
 have hle:=sJ c k
 have hbk:(G9 c k).b=b:=by rw[Dv];exact hcb
 refine aa (av X2 [0,1,4,5,6,10] rfl ?_)
 refine ak rfl ?_ ?_<;>intro hb0
 ·try simp only[aP]at hb0
  refine ay (aa (aq ?_))
  have t1:=(ck v (G9 c k) 24 b hbk hb (by decide))
  refine bM X2 [(18,21)] [(800016,⟨true,bA t1⟩),(700016,⟨true, .agg [.ptr 1000 1000]:: .agg [.ptr 11 170]::bB t1⟩),(500017,⟨true,[]⟩)] [0,1,4,5,6] [] 87 2 MO (by kernel_rfl) rfl (by kernel_rfl) (by(repeat' with_reducible first|exact aB|refine aE ?_ ?_|apply And.intro)<;>first|exact t1|exact rfl|exact⟨rfl,aA _ (by decide)⟩| (simp only[b7,maxLen,lens];omega)) ?_
  refine bT X2 [0,1,4,5,6] rfl ?_
  refine⟨k+1,by omega,by omega,?_⟩
  rw[cw _ k rfl (by omega)]
  try rfl
 ·try simp only[aP]at hb0
  have hk2:rows.toNat=k:=by omega
  exact aV (aN X2 [4] rfl (by trivial) (aj (aW rfl ⟨rfl,rfl,by rw[hk2],by rw[hk2],by rw[hk2],⟨⟩⟩)))
theorem wo(v:Value)(c:bR)(b:List UInt8)(hcb:c.b=b)(hb:b.length≤1048576):dK ty Tryz.prog 73 [(1000, .box [.eF v .u8 b,aR (c.i:Int),aR c.h])] [.a (.ptr 1000 0)] [(1000, .box [.eF v .u8 b,aR ((VQ c).i:Int),aR (VQ c).h]),(21, .arr (.sl .u8) (QK c).rows)] [.agg [.own 21]]:=by
 refine cu X2 call73 func73 rfl rfl (by decide) ntmps73 (by simp) rfl ?_
 intro zb
 have hn:=VR c
 have hq:=bZ (az (BP c) 10) (n:=3) (by decide)
 have hw:IntKind.i64.wrap (23+aO (az (BP c) 10) 3)=23+aO (az (BP c) 10) 3:=aM (by omega)
 have h7:=bZ c (n:=7) (by decide)
 have hdl:(B5 (az c 7) (aO c 7).toNat).length≤64:=by rw[sJ];omega
 refine av X2 [0,2] rfl (aa ?_)
 have t1:=(aG v c 7 b hcb hb)
 have t2:=(jR v (az c 7) (aO c 7) b (by rw[aT];exact hcb) hb (by omega))
 refine aH X2 [] [(800006,⟨true,bA t1⟩),(700006,⟨true, .agg [.ptr 1000 1000]:: .agg []::bB t1⟩),(800007,⟨true,bA t2⟩),(700007,⟨true, .agg [.ptr 1000 1000]:: .agg [.ptr 21 21]::bB t2⟩)] [0,2,3] [] rfl (by(with_reducible and_intros);(iterate 2 all_goals try first|exact⟨⟩|exact t1|exact t2);all_goals first|exact rfl) (aa (aa ?_))
 have t1:=(aG v (BP c) 10 b (by rw[QL];exact hcb) hb)
 refine aH X2 [] [(800009,⟨true,bA t1⟩),(700009,⟨true, .agg [.ptr 1000 1000]:: .agg []::bB t1⟩)] [0,2,3,9] [] rfl (by(with_reducible and_intros)<;>first|exact⟨⟩|exact t1|exact rfl) (aq (av X2 [0,2,3,9,10] rfl ?_))
 refine ak rfl ?_ ?_<;>intro hb0
 ·try simp only[aP]at hb0
  have hX:QK c=⟨B5 (az c 7) (Ya c)++ [n8 (az (az (BP c) 10) 3) (23+aO (az (BP c) 10) 3).toNat]⟩:=if_pos hb0
  have hN:VQ c=yD (az (az (BP c) 10) 3) (23+aO (az (BP c) 10) 3).toNat:=if_pos hb0
  have t1:=(aG v (az (BP c) 10) 3 b (by rw[aT,QL];exact hcb) hb)
  have t2:=(ck v (az (az (BP c) 10) 3) (IntKind.i64.wrap (23+aO (az (BP c) 10) 3)) b (by rw[aT,aT,QL];exact hcb) hb (by omega))
  refine bM X2 [(20,21)] [(800016,⟨true,bA t1⟩),(700016,⟨true, .agg [.ptr 1000 1000]:: .agg []::bB t1⟩),(800018,⟨true,bA t2⟩),(700018,⟨true, .agg [.ptr 1000 1000]:: .agg [.ptr 11 170]::bB t2⟩),(500019,⟨true,[]⟩)] [2,3] [] 687 11 MO (by kernel_rfl) rfl (by kernel_rfl) (by(repeat' with_reducible first|exact aB|refine aE ?_ ?_|apply And.intro);(iterate 2 all_goals try first|exact t1|exact t2);all_goals first|exact rfl|exact⟨rfl,aA _ (by decide)⟩| (simp only[b7,maxLen,lens];omega)) ?_
  rw[hw]
  exact aN X2 [2] rfl (by trivial) (aj (aW rfl ⟨rfl,rfl,by rw[hN],by rw[hN],by rw[hX];rfl,⟨⟩⟩))
 ·try simp only[aP]at hb0
  have hN:VQ c=az (BP c) 10:=if_neg hb0
  refine av X2 [2,3,22] rfl ?_
  refine ak rfl ?_ ?_<;>intro bt
  ·try simp only[aP]at bt
   have hX:QK c=dO 64:=(if_neg hb0).trans (if_pos bt)
   exact aS X2 [(24,41)] [(24,⟨true,[.agg (bQ (dO 64))]⟩)] [2] [] rfl (by(with_reducible and_intros)<;>first|exact⟨⟩|exact(jo 64)) (bp 41 21 rfl (aj (aW rfl ⟨rfl,rfl,by rw[hN],by rw[hN],by rw[hX],⟨⟩⟩)))
  ·try simp only[aP]at bt
   have hX:QK c=⟨B5 (az c 7) (Ya c)⟩:=(if_neg hb0).trans (if_neg bt)
   exact ay (aN X2 [2] rfl (by trivial) (aj (aW rfl ⟨rfl,rfl,by rw[hN],by rw[hN],by rw[hX];rfl,⟨⟩⟩)))
theorem wq(v:Value)(c:bR)(b:List UInt8)(hcb:c.b=b)(hb:b.length≤1048576):dK ty Tryz.prog 72 [(1000, .box [.eF v .u8 b,aR (c.i:Int),aR c.h])] [.a (.ptr 1000 0)] [(1000, .box [.eF v .u8 b,aR ((a28 c).c.i:Int),aR (a28 c).c.h]),(61, .arr .aK (a28 c).a.rounds)] [.agg [aR (a28 c).a.rows, .own 61]]:=by
 refine cu X2 call72 func72 rfl rfl (by decide) ntmps72 (by simp) rfl ?_
 intro zb
 have fj:=bZ c (n:=3) (by decide)
 have hw:IntKind.i64.wrap (1+aO c 3)=1+aO c 3:=aM (by omega)
 have hk0:0≤Yc.getD (aO (az c 3) 4).toNat (aI .int)∧Yc.getD (aO (az c 3) 4).toNat (aI .int)≤10:=og (P:=fun x:Int=>0≤x∧x≤10) (by decide) (by decide) _
 have VU:Yc.getD (aO (az c 3) (Yc.length:Int)).toNat (aI .int)=((y8 c:Nat):Int)-((0:Nat):Int):=by show Yc.getD (aO (az c 3) 4).toNat (aI .int)=_;unfold y8;omega
 refine av X2 [0,2] rfl (aa ?_)
 have t1:=(aG v c 3 b hcb hb)
 refine aH X2 [(11,60)] [(800009,⟨true,bA t1⟩),(700009,⟨true, .agg [.ptr 1000 1000]:: .agg []::bB t1⟩),(11,⟨true,[.agg (dz (⟨(IntKind.i64.wrap (1+aO c 3)),[]⟩:iK))]⟩)] [0,2,3] [] rfl (by(with_reducible and_intros);(iterate 2 all_goals try first|exact⟨⟩|exact t1|exact(nh (IntKind.i64.wrap (1+aO c 3)) (by omega)));all_goals first|exact rfl) ?_
 rw[hw]
 refine av X2 [0,2,3,4] rfl (aa (aa ?_))
 have t1:=(bU v (az c 3) Yc b (by rw[aT];exact hcb) hb (by decide))
 refine aH X2 [] [(800014,⟨true,bA t1⟩),(700014,⟨true, .agg [.ptr 1000 1000]:: .agg []::bB t1⟩)] [0,2,3,4,5] [] rfl (by(repeat' with_reducible first|exact aB|refine aE ?_ ?_|apply And.intro)<;>first|exact t1|exact rfl|exact⟨rfl,aA _ (by decide)⟩) ?_
 rw[VU]
 refine aq (aQ (fun k=>k≤(y8 c)) (fun k:Nat=> [(4, .one ((aL (xN (lF c) k).r))),(5, .one ((aL (((y8 c:Nat):Int)-(k:Int)))))]) (fun k=> [(1000, .box [.eF v .u8 b,aR ((xN (lF c) k).c.i:Int),aR (xN (lF c) k).c.h]),(3, .box [aR (xN (lF c) k).a.rows, .own 61]),(61, .arr .aK (xN (lF c) k).a.rounds)]) (fun k=>(y8 c)-k) 0 (fun k=>rfl) (Nat.zero_le _) rfl ?_)
 intro k hk
 have af7:y8 c≤10:=by unfold y8;omega
 obtain⟨VJ,MM⟩:=I7 (lF c) (by show 1+aO c 3≤64;omega) ⟨Nat.zero_le _,fun y hy=>by cases hy⟩ k
 have VV:(xN (lF c) k).a.rows=1+aO c 3:=MM
 have hbk:(xN (lF c) k).c.b=b:=by rw[QO];show(az (az c 3) 4).b=b;rw[aT,aT];exact hcb
 have hsz:gY (xN (lF c) k).a≤1048576:=Nat.le_trans (pe eo 1664 8 _ (fun y hy=>oo (wh (VJ.2 y hy))) VJ.1) (by decide)
 have G3:eu List.length (B5 (xN (lF c) k).c (xN (lF c) k).a.rows.toNat)≤1048576:=Nat.le_trans (oo (Jj (xN (lF c) k).c (k:=(xN (lF c) k).a.rows.toNat) (by omega))) (by decide)
 refine aa (av X2 [0,2,3,4,5,16] rfl ?_)
 refine ak rfl ?_ ?_<;>intro hb0
 ·try simp only[aP]at hb0
  have hsb:IntKind.i64.wrap (((y8 c:Nat):Int)-(k:Int)-1)=((y8 c:Nat):Int)-((k+1:Nat):Int):=by rw[aM (by omega)];omega
  refine ay (aa (aq (aa ?_)))
  have t1:=(jR v ((xN (lF c) k).c) ((xN (lF c) k).a.rows) b hbk hb (by omega))
  have t2:=(wm ((xN (lF c) k).a) ((xN (lF c) k).r) (⟨B5 (xN (lF c) k).c (xN (lF c) k).a.rows.toNat⟩:DB) hsz G3)
  refine bM X2 [(26,150)] [(800025,⟨true,bA t1⟩),(700025,⟨true, .agg [.ptr 1000 1000]:: .agg [.ptr 21 121]::bB t1⟩),(26,⟨true,cg t2⟩)] [0,2,3,4,5,6] [] 6111 15 MO (by kernel_rfl) rfl (by kernel_rfl) (by(with_reducible and_intros);(iterate 2 all_goals try first|exact⟨⟩|exact t1|exact t2);all_goals first|exact rfl) (aN X2 [0,2,3,4,5] rfl (by trivial) (bp 151 61 rfl ?_))
  have t1:=(aG v (G9 (xN (lF c) k).c (xN (lF c) k).a.rows.toNat) 2 b (by rw[Dv];exact hbk) hb)
  refine aH X2 [] [(800033,⟨true,bA t1⟩),(700033,⟨true, .agg [.ptr 1000 1000]:: .agg []::bB t1⟩)] [0,2,3,4,5] [] rfl (by(with_reducible and_intros)<;>first|exact⟨⟩|exact t1|exact rfl) (bT X2 [0,2,3,4,5] rfl ?_)
  refine⟨k+1,by omega,by omega,?_⟩
  rw[hsb]
  try rfl
 ·try simp only[aP]at hb0
  have hkn:k=y8 c:=by omega
  exact aV (aN X2 [2] rfl (by trivial) (aj (aW rfl (by and_intros<;>first|exact⟨⟩| (rw[hkn];rfl;done)| (first|rfl| (rw[hkn];rfl);done)))))
theorem tC(v:Value)(c:bR)(b:List UInt8)(hcb:c.b=b)(hb:b.length≤1048576):dK ty Tryz.prog 53 [(1000, .box [.eF v .u8 b,aR (c.i:Int),aR c.h])] [.a (.ptr 1000 0)] [(1000, .box [.eF v .u8 b,aR ((I9 c).i:Int),aR (I9 c).h]),(61, .arr .aK (ku c).rounds)] [.agg [aR (ku c).rows, .own 61]]:=by
 refine cu X2 call53 func53 rfl rfl (by decide) ntmps53 (by simp) rfl ?_
 intro zb
 obtain⟨VJ,_⟩:=I8 c
 have FY:=VJ.1
 refine av X2 [0,2] rfl (aa ?_)
 have t1:=(wq v c b hcb hb)
 refine aH X2 [] [(800005,⟨true,bA t1⟩),(700005,⟨true, .agg [.ptr 1000 1000]:: .agg [.ptr 61 61]::bB t1⟩)] [0,2,3] [] rfl (by(with_reducible and_intros)<;>first|exact⟨⟩|exact t1|exact rfl) (aa (aa ?_))
 have t1:=(aG v ((a28 c).c) 10 b (by rw[KD];exact hcb) hb)
 refine aH X2 [] [(800007,⟨true,bA t1⟩),(700007,⟨true, .agg [.ptr 1000 1000]:: .agg []::bB t1⟩)] [0,2,3,7] [] rfl (by(with_reducible and_intros)<;>first|exact⟨⟩|exact t1|exact rfl) (aq (av X2 [0,2,3,7,8] rfl ?_))
 refine ak rfl ?_ ?_<;>intro hb0
 ·try simp only[aP]at hb0
  have hX:ku c=⟨([0,IntKind.i64.wrap ((a28 c).a.rows+1),65]:List Int).getD (aO (az (a28 c).c 10) 3).toNat (aI .int),(a28 c).a.rounds⟩:=if_pos hb0
  have hN:I9 c=az (az (a28 c).c 10) 3:=if_pos hb0
  have t1:=(bU v (az (a28 c).c 10) [0,IntKind.i64.wrap ((a28 c).a.rows+1),65] b (by rw[aT,KD];exact hcb) hb (by simp))
  refine aH X2 [] [(800015,⟨true,bA t1⟩),(700015,⟨true, .agg [.ptr 1000 1000]:: .agg []::bB t1⟩)] [2,3] [] rfl (by(repeat' with_reducible first|exact aB|refine aE ?_ ?_|apply And.intro)<;>first|exact t1|exact rfl|exact⟨rfl,aA _ (by decide)⟩) ?_
  exact aN X2 [2] rfl (by trivial) (aj (aW rfl (by and_intros<;>first|exact⟨⟩| (rw[hX];rfl;done)| (first|rfl| (rw[hN];done)| (rw[hN];rfl)| (rw[hX];done)| (rw[hX];rfl);done))))
 ·try simp only[aP]at hb0
  refine av X2 [0,2,3,17] rfl ?_
  refine ak rfl ?_ ?_<;>intro bt
  ·try simp only[aP]at bt
   have hX:ku c=⟨(a28 c).a.rows,(a28 c).a.rounds++ [⟨([-1,0,100000,100001]:List Int).getD (aO (az (a28 c).c 10) 4).toNat (aI .int),QK (az (az (a28 c).c 10) 4)⟩]⟩:=(if_neg hb0).trans (if_pos bt)
   have hN:I9 c=VQ (az (az (a28 c).c 10) 4):=(if_neg hb0).trans (if_pos bt)
   have t1:=(bU v (az (a28 c).c 10) [-1,0,100000,100001] b (by rw[aT,KD];exact hcb) hb (by decide))
   have t2:=(wo v (az (az (a28 c).c 10) 4) b (by rw[aT,aT,KD];exact hcb) hb)
   refine bM X2 [(28,61)] [(800023,⟨true,bA t1⟩),(700023,⟨true, .agg [.ptr 1000 1000]:: .agg []::bB t1⟩),(800025,⟨true,bA t2⟩),(700025,⟨true, .agg [.ptr 1000 1000]:: .agg [.ptr 21 121]::bB t2⟩),(500027,⟨true,[]⟩)] [2,3] [] 1455 11 MO (by kernel_rfl) rfl (by kernel_rfl) (by(repeat' with_reducible first|exact aB|refine aE ?_ ?_|apply And.intro);(iterate 2 all_goals try first|exact t1|exact t2);all_goals first|exact rfl|exact⟨rfl,aA _ (by decide)⟩| (simp only[b7,maxLen,lens];omega)) ?_
   exact aN X2 [2] rfl (by trivial) (aj (aW rfl (by and_intros<;>first|exact⟨⟩| (rw[hX];done)| (first|rfl| (rw[hN];done)| (rw[hN];rfl)| (rw[hX];done)| (rw[hX];rfl);done))))
  ·try simp only[aP]at bt
   have hX:ku c=(a28 c).a:=(if_neg hb0).trans (if_neg bt)
   have hN:I9 c=az (a28 c).c 10:=(if_neg hb0).trans (if_neg bt)
   exact ay (aN X2 [2] rfl (by trivial) (aj (aW rfl (by and_intros<;>first|exact⟨⟩| (rw[hX];done)| (first|rfl| (rw[hN];done)| (rw[hN];rfl)| (rw[hX];done)| (rw[hX];rfl);done)))))
end
section
set_option maxRecDepth 100000
set_option maxHeartbeats 2000000 in
theorem xT(v:Value)(c:bR)(b:List UInt8)(hcb:c.b=b)(hb:b.length≤1048576):dK ty Tryz.prog 74 [(1000, .box [.eF v .u8 b,aR (c.i:Int),aR c.h])] [.a (.ptr 1000 0)] [(1000, .box [.eF v .u8 b,aR ((dw c).c.i:Int),aR (dw c).c.h]),(23, .arr .aX (dw c).s.received)] [.agg [aR (dw c).s.id,aR (dw c).s.rows,aR (dw c).s.round, .own 23,aR (dw c).s.behavior]]:=by
 refine cu X2 call74 func74 rfl rfl (by decide) ntmps74 (by simp) rfl ?_
 intro zb
 have q0:=bZ c (n:=3) (by decide)
 have q1:=bZ (az c 3) (n:=4) (by decide)
 have hw:IntKind.i64.wrap (1+aO (az c 3) 4)=1+aO (az c 3) 4:=aM (by omega)
 have hkb:0≤(KJ.getD (aO (az (az c 3) 4) (KJ.length:Int)).toNat (aI .int))∧(KJ.getD (aO (az (az c 3) 4) (KJ.length:Int)).toNat (aI .int))≤3:=og (P:=fun x:Int=>0≤x∧x≤3) (by decide) (by decide) _
 have Vr:newS (aO c 3) (1+aO (az c 3) 4) (KJ.getD (aO (az (az c 3) 4) (KJ.length:Int)).toNat (aI .int))=⟨aO c 3,1+aO (az c 3) 4,0,[],(KJ.getD (aO (az (az c 3) 4) (KJ.length:Int)).toNat (aI .int))⟩:=by rw[newS,if_pos (by simp only[GS,Bool.and_eq_true,cP];omega)]
 have VU:aO (az (xP c) 9) 5=((zc c:Nat):Int)-((0:Nat):Int):=by have:=xM (az (xP c) 9) 5;unfold zc;omega
 have hn4:=Ra c
 have hab:(xP c).b=b:=by unfold xP;rw[aT,aT,aT];exact hcb
 refine av X2 [0,2] rfl (aa ?_)
 have t1:=(aG v c 3 b hcb hb)
 have t2:=(aG v (az c 3) 4 b (by rw[aT];exact hcb) hb)
 have t3:=(bU v (az (az c 3) 4) KJ b (by rw[aT,aT];exact hcb) hb (by decide))
 have t4:=(kq (aO c 3) (IntKind.i64.wrap (1+aO (az c 3) 4)) (KJ.getD (aO (az (az c 3) 4) (KJ.length:Int)).toNat (aI .int)))
 refine aH X2 [(15,20)] [(800008,⟨true,bA t1⟩),(700008,⟨true, .agg [.ptr 1000 1000]:: .agg []::bB t1⟩),(800010,⟨true,bA t2⟩),(700010,⟨true, .agg [.ptr 1000 1000]:: .agg []::bB t2⟩),(800014,⟨true,bA t3⟩),(700014,⟨true, .agg [.ptr 1000 1000]:: .agg []::bB t3⟩),(15,⟨true,cg t4⟩)] [0,2,3] [] rfl (by(repeat' with_reducible first|exact aB|refine aE ?_ ?_|apply And.intro);(iterate 4 all_goals try first|exact t1|exact t2|exact t3|exact t4);all_goals first|exact rfl|exact⟨rfl,aA _ (by decide)⟩) ?_
 rw[hw]
 rw[Vr]
 refine aa ?_
 have t1:=(aG v (xP c) 9 b hab hb)
 refine aH X2 [] [(800017,⟨true,bA t1⟩),(700017,⟨true, .agg [.ptr 1000 1000]:: .agg []::bB t1⟩)] [0,2,3] [] rfl (by(with_reducible and_intros)<;>first|exact⟨⟩|exact t1|exact rfl) (aa (aa ?_))
 have t1:=(aG v (az (xP c) 9) 5 b (by rw[aT];exact hab) hb)
 refine aH X2 [] [(800020,⟨true,bA t1⟩),(700020,⟨true, .agg [.ptr 1000 1000]:: .agg []::bB t1⟩)] [0,2,3,4] [] rfl (by(with_reducible and_intros)<;>first|exact⟨⟩|exact t1|exact rfl) ?_
 rw[VU]
 refine aq (aQ (fun k=>k≤(zc c)) (fun k:Nat=> [(4, .one ((aL (((zc c:Nat):Int)-(k:Int)))))]) (fun k=> [(1000, .box [.eF v .u8 b,aR ((jr (jV c) k).c.i:Int),aR (jr (jV c) k).c.h]),(3, .box [aR (jr (jV c) k).s.id,aR (jr (jV c) k).s.rows,aR (jr (jV c) k).s.round, .own 23,aR (jr (jV c) k).s.behavior]),(23, .arr .aX (jr (jV c) k).s.received)]) (fun k=>(zc c)-k) 0 (fun k=>rfl) (Nat.zero_le _) rfl ?_)
 intro k hk
 have hpb:(jr (jV c) k).c.b=b:=by rw[Ji,Rb];exact hcb
 obtain⟨hsN,VV,hr4⟩:=Rd c k
 have hz:=Ym hsN (by omega)
 have G3:eu List.length (B5 (az (jr (jV c) k).c 6) (jr (jV c) k).s.rows.toNat)≤1048576:=Nat.le_trans (oo (Jj (az (jr (jV c) k).c 6) (k:=(jr (jV c) k).s.rows.toNat) (by omega))) (by decide)
 refine aa (av X2 [0,2,3,4,22] rfl ?_)
 refine ak rfl ?_ ?_<;>intro hb0
 ·try simp only[aP]at hb0
  have hsb:IntKind.i64.wrap (((zc c:Nat):Int)-(k:Int)-1)=((zc c:Nat):Int)-((k+1:Nat):Int):=by rw[aM (by omega)];omega
  refine ay (aa (aq (aa ?_)))
  have t1:=(aG v ((jr (jV c) k).c) 6 b hpb hb)
  have t2:=(jR v (az (jr (jV c) k).c 6) ((jr (jV c) k).s.rows) b (by rw[aT];exact hpb) hb (by omega))
  have t3:=(qd ((jr (jV c) k).s) (aO (jr (jV c) k).c 6) (⟨B5 (az (jr (jV c) k).c 6) (jr (jV c) k).s.rows.toNat⟩:DB) hz G3)
  refine bM X2 [(33,140)] [(800028,⟨true,bA t1⟩),(700028,⟨true, .agg [.ptr 1000 1000]:: .agg []::bB t1⟩),(800032,⟨true,bA t2⟩),(700032,⟨true, .agg [.ptr 1000 1000]:: .agg [.ptr 21 121]::bB t2⟩),(33,⟨true,cg t3⟩)] [0,2,3,4,5] [] 12219 107 MO (by kernel_rfl) rfl (by kernel_rfl) (by(with_reducible and_intros);(iterate 3 all_goals try first|exact⟨⟩|exact t1|exact t2|exact t3);all_goals first|exact rfl) (fK X2 [0,2,3,4] rfl (by trivial) (bp 143 23 rfl (bT X2 [0,2,3,4] rfl ?_)))
  refine⟨k+1,by omega,by omega,?_⟩
  rw[hsb]
  try rfl
 ·try simp only[aP]at hb0
  have hkn:k=zc c:=by omega
  exact aV (aN X2 [2] rfl (by trivial) (aj (aW rfl (by and_intros<;>first|exact⟨⟩| (first| (simp only[dw,hkn];done)|with_reducible rfl;done)))))
set_option maxHeartbeats 2000000 in
theorem tD(v:Value)(c:bR)(b:List UInt8)(hcb:c.b=b)(hb:b.length≤1048576):dK ty Tryz.prog 54 [(1000, .box [.eF v .u8 b,aR (c.i:Int),aR c.h])] [.a (.ptr 1000 0)] [(1000, .box [.eF v .u8 b,aR ((s6 c).i:Int),aR (s6 c).h]),(23, .arr .aX (gR c).received)] [.agg [aR (gR c).id,aR (gR c).rows,aR (gR c).round, .own 23,aR (gR c).behavior]]:=by
 refine cu X2 call54 func54 rfl rfl (by decide) ntmps54 (by simp) rfl ?_
 intro zb
 obtain⟨hrl,_⟩:=Re c
 refine av X2 [0,2] rfl (aa ?_)
 have t1:=(xT v c b hcb hb)
 refine aH X2 [] [(800005,⟨true,bA t1⟩),(700005,⟨true, .agg [.ptr 1000 1000]:: .agg [.ptr 23 23]::bB t1⟩)] [0,2,3] [] rfl (by(with_reducible and_intros)<;>first|exact⟨⟩|exact t1|exact rfl) (aa (aa ?_))
 have t1:=(aG v ((dw c).c) 12 b (by rw[Rc];exact hcb) hb)
 refine aH X2 [] [(800007,⟨true,bA t1⟩),(700007,⟨true, .agg [.ptr 1000 1000]:: .agg []::bB t1⟩)] [0,2,3,7] [] rfl (by(with_reducible and_intros)<;>first|exact⟨⟩|exact t1|exact rfl) (aq (av X2 [0,2,3,7,8] rfl ?_))
 refine ak rfl ?_ ?_<;>intro hb0
 ·try simp only[aP]at hb0
  have hX:gR c=⟨([-1,3,4]:List Int).getD (aO (gF c) 3).toNat (aI .int),(dw c).s.rows,(dw c).s.round,(dw c).s.received,(dw c).s.behavior⟩:=(by unfold gR;simp only[if_pos (show eE c=0 from hb0)])
  have hN:s6 c=az (gF c) 3:=(by unfold s6;simp only[if_pos (show eE c=0 from hb0)])
  have t1:=(bU v (gF c) [-1,3,4] b (by rw[xQ];exact hcb) hb (by simp))
  refine aH X2 [] [(800012,⟨true,bA t1⟩),(700012,⟨true, .agg [.ptr 1000 1000]:: .agg []::bB t1⟩)] [2,3] [] rfl (by(repeat' with_reducible first|exact aB|refine aE ?_ ?_|apply And.intro)<;>first|exact t1|exact rfl|exact⟨rfl,aA _ (by decide)⟩) ?_
  rw[show(([-1,3,4]:List Int).length:Int)=3 from rfl]
  exact aN X2 [2] rfl (by trivial) (aj (aW rfl (by and_intros<;>first|exact⟨⟩| (first| (simp only[hX,hN,gF];done)|with_reducible rfl;done))))
 ·try simp only[aP]at hb0
  refine av X2 [0,2,3,7,14] rfl ?_
  refine ak rfl ?_ ?_<;>intro bt
  ·try simp only[aP]at bt
   have hX:gR c=⟨(dw c).s.id,([0,IntKind.i64.wrap ((dw c).s.rows+1),65]:List Int).getD (aO (gF c) 3).toNat (aI .int),(dw c).s.round,(dw c).s.received,(dw c).s.behavior⟩:=(by unfold gR;simp only[if_neg (show¬eE c=0 from hb0),if_pos (show eE c=1 from bt)])
   have hN:s6 c=az (gF c) 3:=(by unfold s6;simp only[if_neg (show¬eE c=0 from hb0),if_pos (show eE c=1 from bt)])
   have t1:=(bU v (gF c) [0,IntKind.i64.wrap ((dw c).s.rows+1),65] b (by rw[xQ];exact hcb) hb (by simp))
   refine aH X2 [] [(800021,⟨true,bA t1⟩),(700021,⟨true, .agg [.ptr 1000 1000]:: .agg []::bB t1⟩)] [2,3] [] rfl (by(repeat' with_reducible first|exact aB|refine aE ?_ ?_|apply And.intro)<;>first|exact t1|exact rfl|exact⟨rfl,aA _ (by decide)⟩) ?_
   rw[show(([0,IntKind.i64.wrap ((dw c).s.rows+1),65]:List Int).length:Int)=3 from rfl]
   exact aN X2 [2] rfl (by trivial) (aj (aW rfl (by and_intros<;>first|exact⟨⟩| (first| (simp only[hX,hN,gF];done)|with_reducible rfl;done))))
  ·try simp only[aP]at bt
   refine av X2 [0,2,3,7,23] rfl ?_
   refine ak rfl ?_ ?_<;>intro bY
   ·try simp only[aP]at bY
    have hX:gR c=⟨(dw c).s.id,(dw c).s.rows,([-1,100000,100001]:List Int).getD (aO (gF c) 3).toNat (aI .int),(dw c).s.received,(dw c).s.behavior⟩:=(by unfold gR;simp only[if_neg (show¬eE c=0 from hb0),if_neg (show¬eE c=1 from bt),if_pos (show eE c=2 from bY)])
    have hN:s6 c=az (gF c) 3:=(by unfold s6;simp only[if_neg (show¬eE c=0 from hb0),if_neg (show¬eE c=1 from bt),if_pos (show eE c=2 from bY)])
    have t1:=(bU v (gF c) [-1,100000,100001] b (by rw[xQ];exact hcb) hb (by simp))
    refine aH X2 [] [(800027,⟨true,bA t1⟩),(700027,⟨true, .agg [.ptr 1000 1000]:: .agg []::bB t1⟩)] [2,3] [] rfl (by(repeat' with_reducible first|exact aB|refine aE ?_ ?_|apply And.intro)<;>first|exact t1|exact rfl|exact⟨rfl,aA _ (by decide)⟩) ?_
    rw[show(([-1,100000,100001]:List Int).length:Int)=3 from rfl]
    exact aN X2 [2] rfl (by trivial) (aj (aW rfl (by and_intros<;>first|exact⟨⟩| (first| (simp only[hX,hN,gF];done)|with_reducible rfl;done))))
   ·try simp only[aP]at bY
    refine av X2 [0,2,3,7,29] rfl ?_
    refine ak rfl ?_ ?_<;>intro fj
    ·try simp only[aP]at fj
     have hX:gR c=⟨(dw c).s.id,(dw c).s.rows,(dw c).s.round,(dw c).s.received,([-1,4]:List Int).getD (aO (gF c) 2).toNat (aI .int)⟩:=(by unfold gR;simp only[if_neg (show¬eE c=0 from hb0),if_neg (show¬eE c=1 from bt),if_neg (show¬eE c=2 from bY),if_pos (show eE c=3 from fj)])
     have hN:s6 c=az (gF c) 2:=(by unfold s6;simp only[if_neg (show¬eE c=0 from hb0),if_neg (show¬eE c=1 from bt),if_neg (show¬eE c=2 from bY),if_pos (show eE c=3 from fj)])
     have t1:=(bU v (gF c) [-1,4] b (by rw[xQ];exact hcb) hb (by simp))
     refine aH X2 [] [(800033,⟨true,bA t1⟩),(700033,⟨true, .agg [.ptr 1000 1000]:: .agg []::bB t1⟩)] [2,3] [] rfl (by(repeat' with_reducible first|exact aB|refine aE ?_ ?_|apply And.intro)<;>first|exact t1|exact rfl|exact⟨rfl,aA _ (by decide)⟩) ?_
     rw[show(([-1,4]:List Int).length:Int)=2 from rfl]
     exact aN X2 [2] rfl (by trivial) (aj (aW rfl (by and_intros<;>first|exact⟨⟩| (first| (simp only[hX,hN,gF];done)|with_reducible rfl;done))))
    ·try simp only[aP]at fj
     refine av X2 [0,2,3,35] rfl ?_
     refine ak rfl ?_ ?_<;>intro ql
     ·try simp only[aP]at ql
      have hX:gR c=⟨(dw c).s.id,(dw c).s.rows,(dw c).s.round,(dw c).s.received++ [⟨([-1,0,7,8]:List Int).getD (aO (gF c) 4).toNat (aI .int),QK (az (gF c) 4)⟩],(dw c).s.behavior⟩:=(by unfold gR;simp only[if_neg (show¬eE c=0 from hb0),if_neg (show¬eE c=1 from bt),if_neg (show¬eE c=2 from bY),if_neg (show¬eE c=3 from fj),if_pos (show eE c=4 from ql)])
      have hN:s6 c=VQ (az (gF c) 4):=(by unfold s6;simp only[if_neg (show¬eE c=0 from hb0),if_neg (show¬eE c=1 from bt),if_neg (show¬eE c=2 from bY),if_neg (show¬eE c=3 from fj),if_pos (show eE c=4 from ql)])
      have t1:=(bU v (gF c) [-1,0,7,8] b (by rw[xQ];exact hcb) hb (by simp))
      have t2:=(wo v (az (gF c) 4) b (by rw[aT,xQ];exact hcb) hb)
      refine bM X2 [(46,23)] [(800041,⟨true,bA t1⟩),(700041,⟨true, .agg [.ptr 1000 1000]:: .agg []::bB t1⟩),(800043,⟨true,bA t2⟩),(700043,⟨true, .agg [.ptr 1000 1000]:: .agg [.ptr 21 121]::bB t2⟩),(500045,⟨true,[]⟩)] [2,3] [] 1455 11 MO (by kernel_rfl) rfl (by kernel_rfl) (by(repeat' with_reducible first|exact aB|refine aE ?_ ?_|apply And.intro);(iterate 2 all_goals try first|exact t1|exact t2);all_goals first|exact rfl|exact⟨rfl,aA _ (by decide)⟩| (simp only[b7,maxLen,lens];omega)) ?_
      rw[show(([-1,0,7,8]:List Int).length:Int)=4 from rfl]
      exact aN X2 [2] rfl (by trivial) (aj (aW rfl (by and_intros<;>first|exact⟨⟩| (first| (simp only[hX,hN,gF];done)|with_reducible rfl;done))))
     ·try simp only[aP]at ql
      have hX:gR c=(dw c).s:=(by unfold gR;simp only[if_neg (show¬eE c=0 from hb0),if_neg (show¬eE c=1 from bt),if_neg (show¬eE c=2 from bY),if_neg (show¬eE c=3 from fj),if_neg (show¬eE c=4 from ql)])
      have hN:s6 c=gF c:=(by unfold s6;simp only[if_neg (show¬eE c=0 from hb0),if_neg (show¬eE c=1 from bt),if_neg (show¬eE c=2 from bY),if_neg (show¬eE c=3 from fj),if_neg (show¬eE c=4 from ql)])
      exact ay (aN X2 [2] rfl (by trivial) (aj (aW rfl (by and_intros<;>first|exact⟨⟩| (first| (simp only[hX,hN,gF];done)|with_reducible rfl;done)))))
end
section
set_option maxRecDepth 100000
set_option maxHeartbeats 1000000 in
theorem oq(v:Value)(c:bR)(b:List UInt8)(hcb:c.b=b)(hb:b.length≤1048576):dK ty Tryz.prog 75 [(1000, .box [.eF v .u8 b,aR (c.i:Int),aR c.h])] [.a (.ptr 1000 0)] [(1000, .box [.eF v .u8 b,aR ((uy c).i:Int),aR (uy c).h]),(24, .arr (.sl .u8) (bO c).aF),(26, .arr (.sl .u8) (bO c).inbox)] [.agg [aR (bO c).id,aR (bO c).bG,aR (bO c).key,aR (bO c).seed, .own 24,aR (bO c).sent, .own 26,aR (bO c).next]]:=by
 refine cu X2 call75 func75 rfl rfl (by decide) ntmps75 (by simp) rfl ?_
 intro zb
 have q0:=bZ c (n:=4) (by decide)
 have q1:=bZ (az c 4) (n:=3) (by decide)
 have q2:=bZ (az (az c 4) 3) (n:=99) (by decide)
 have p0:=bZ (az (n4 c 4 3) 2) (n:=3) (by decide)
 have p1:=bZ (az (az (n4 c 4 3) 2) 3) (n:=4) (by decide)
 have p2:=bZ (az (az (az (n4 c 4 3) 2) 3) 4) (n:=99) (by decide)
 have w0:(IntKind.i64.wrap (4+aO (az c 4) 3))=4+aO (az c 4) 3:=aM (by omega)
 have w1:(IntKind.i64.wrap (1+aO (az (az c 4) 3) 99))=1+aO (az (az c 4) 3) 99:=aM (by omega)
 have w2:(IntKind.i64.wrap (4+aO (az (n4 c 4 3) 2) 3))=4+aO (az (n4 c 4 3) 2) 3:=aM (by omega)
 have w3:(IntKind.i64.wrap (1+aO (az (az (az (n4 c 4 3) 2) 3) 4) 99))=1+aO (az (az (az (n4 c 4 3) 2) 3) 4) 99:=aM (by omega)
 have hv:(rE c).b=b:=by unfold rE;rw[aT,EW];exact hcb
 have hk0:0≤R8.getD (aO (rE c) 4).toNat (aI .int)∧R8.getD (aO (rE c) 4).toNat (aI .int)≤16:=og (P:=fun x:Int=>0≤x∧x≤16) (by decide) (by decide) _
 have VU:R8.getD (aO (rE c) (R8.length:Int)).toNat (aI .int)=((mI c:Nat):Int)-((0:Nat):Int):=by show R8.getD (aO (rE c) 4).toNat (aI .int)=_;unfold mI;omega
 have af9:=QV c
 have hm2:=QW c
 have hqb:(eU c).c.b=b:=by unfold eU;rw[QU];show(az (rE c) 4).b=b;rw[aT];exact hv
 have MP:(fW c).b=b:=by unfold fW;rw[aT];exact hqb
 have hmN:aO (fW c) 3=((pF c:Nat):Int)-((0:Nat):Int):=by have:=xM (fW c) 3;unfold pF;omega
 have aga:=(wj c).1.1
 refine av X2 [0,2] rfl (aa ?_)
 have t1:=(aG v c 4 b hcb hb)
 have t2:=(aG v (az c 4) 3 b (by rw[aT];exact hcb) hb)
 have t3:=(aG v (az (az c 4) 3) 99 b (by rw[aT,aT];exact hcb) hb)
 have t4:=(aG v (az (az (az c 4) 3) 99) 999 b (by rw[aT,aT,aT];exact hcb) hb)
 have t5:=(kr (aO c 4) (IntKind.i64.wrap (4+aO (az c 4) 3)) (IntKind.i64.wrap (1+aO (az (az c 4) 3) 99)) (aO (az (az (az c 4) 3) 99) 999) (by omega) (by omega) (by omega) (by omega))
 refine aH X2 [(16,20)] [(800007,⟨true,bA t1⟩),(700007,⟨true, .agg [.ptr 1000 1000]:: .agg []::bB t1⟩),(800009,⟨true,bA t2⟩),(700009,⟨true, .agg [.ptr 1000 1000]:: .agg []::bB t2⟩),(800012,⟨true,bA t3⟩),(700012,⟨true, .agg [.ptr 1000 1000]:: .agg []::bB t3⟩),(800015,⟨true,bA t4⟩),(700015,⟨true, .agg [.ptr 1000 1000]:: .agg []::bB t4⟩),(16,⟨true,cg t5⟩)] [0,2,3] [] rfl (by(with_reducible and_intros);(iterate 5 all_goals try first|exact⟨⟩|exact t1|exact t2|exact t3|exact t4|exact t5);all_goals first|exact rfl) ?_
 rw[w0,w1]
 refine aa (aa ?_)
 have t1:=(fF v (n4 c 4 3) 2 b (by rw[QS];exact hcb) hb)
 refine aH X2 [] [(800018,⟨true,bA t1⟩),(700018,⟨true, .agg [.ptr 1000 1000]:: .agg []::bB t1⟩)] [0,2,3,18] [] rfl (by(with_reducible and_intros)<;>first|exact⟨⟩|exact t1|exact rfl) ?_
 refine ak rfl ?_ ?_<;>intro hb0
 ·try simp only[aP]at hb0
  have hs:gd c=⟨n4 (az (n4 c 4 3) 2) 3 4,aa1 (az (n4 c 4 3) 2)⟩:=if_pos (by simpa using hb0)
  have Yr:(az (n4 c 4 3) 2).b=b:=by rw[aT,QS];exact hcb
  generalize (az (n4 c 4 3) 2)=z at hs Yr p0 p1 p2 w2 w3 ⊢
  have t1:=(aG v z 3 b Yr hb)
  have t2:=(aG v (az z 3) 4 b (by rw[aT];exact Yr) hb)
  have t3:=(aG v (az (az z 3) 4) 99 b (by rw[aT,aT];exact Yr) hb)
  have t4:=(aG v (az (az (az z 3) 4) 99) 999 b (by rw[aT,aT,aT];exact Yr) hb)
  have t5:=(kr (IntKind.i64.wrap (4+aO z 3)) (aO (az z 3) 4) (IntKind.i64.wrap (1+aO (az (az z 3) 4) 99)) (aO (az (az (az z 3) 4) 99) 999) (by omega) (by omega) (by omega) (by omega))
  refine aH X2 [(29,40)] [(800020,⟨true,bA t1⟩),(700020,⟨true, .agg [.ptr 1000 1000]:: .agg []::bB t1⟩),(800023,⟨true,bA t2⟩),(700023,⟨true, .agg [.ptr 1000 1000]:: .agg []::bB t2⟩),(800025,⟨true,bA t3⟩),(700025,⟨true, .agg [.ptr 1000 1000]:: .agg []::bB t3⟩),(800028,⟨true,bA t4⟩),(700028,⟨true, .agg [.ptr 1000 1000]:: .agg []::bB t4⟩),(29,⟨true,cg t5⟩)] [0,2,3] [] rfl (by(with_reducible and_intros);(iterate 5 all_goals try first|exact⟨⟩|exact t1|exact t2|exact t3|exact t4|exact t5);all_goals first|exact rfl) (bp 44 24 rfl (bp 46 26 rfl ?_))
  rw[w2,w3]
  rw[show(az (az (az (az z 3) 4) 99) 999)=(gd c).c from by rw[hs];rfl]
  rw[show 4+aO z 3=(gd c).x.id from by rw[hs];rfl]
  rw[show aO (az z 3) 4=(gd c).x.bG from by rw[hs];rfl]
  rw[show 1+aO (az (az z 3) 4) 99=(gd c).x.key from by rw[hs];rfl]
  rw[show aO (az (az (az z 3) 4) 99) 999=(gd c).x.seed from by rw[hs];rfl]
  refine aa ?_
  have t1:=(aG v ((gd c).c) 9 b (by rw[EW];exact hcb) hb)
  refine aH X2 [] [(800031,⟨true,bA t1⟩),(700031,⟨true, .agg [.ptr 1000 1000]:: .agg []::bB t1⟩)] [0,2,3] [] rfl (by(with_reducible and_intros)<;>first|exact⟨⟩|exact t1|exact rfl) (aa (aa ?_))
  have t1:=(bU v (rE c) R8 b hv hb (by decide))
  refine aH X2 [] [(800035,⟨true,bA t1⟩),(700035,⟨true, .agg [.ptr 1000 1000]:: .agg []::bB t1⟩)] [0,2,3,4] [] rfl (by(repeat' with_reducible first|exact aB|refine aE ?_ ?_|apply And.intro)<;>first|exact t1|exact rfl|exact⟨rfl,aA _ (by decide)⟩) ?_
  rw[VU]
  refine aq (aQ (fun k=>k≤(mI c)) (fun k:Nat=> [(4, .one ((aL (((mI c:Nat):Int)-(k:Int)))))]) (fun k=> [(1000, .box [.eF v .u8 b,aR ((qK (ep c) k).c.i:Int),aR (qK (ep c) k).c.h]),(3, .box [aR (qK (ep c) k).x.id,aR (qK (ep c) k).x.bG,aR (qK (ep c) k).x.key,aR (qK (ep c) k).x.seed, .own 24,aR (qK (ep c) k).x.sent, .own 26,aR (qK (ep c) k).x.next]),(24, .arr (.sl .u8) (qK (ep c) k).x.aF),(26, .arr (.sl .u8) (qK (ep c) k).x.inbox)]) (fun k=>(mI c)-k) 0 (fun k=>rfl) (Nat.zero_le _) rfl ?_)
  intro k hk
  have hkb:(qK (ep c) k).c.b=b:=by rw[QU];show(az (rE c) 4).b=b;rw[aT];exact hv
  have hq5:=bZ (qK (ep c) k).c (n:=5) (by decide)
  have hqs:=QX c (k:=k) (by omega)
  have hqz:=n7 hqs
  unfold cT at hqz
  have Ys:(n8 (az (qK (ep c) k).c 5) (aO (qK (ep c) k).c 5).toNat).length≤1048576:=by rw[gQ];omega
  refine aa (av X2 [0,2,3,4,37] rfl ?_)
  refine ak rfl ?_ ?_<;>intro bt
  ·try simp only[aP]at bt
   have hsb:IntKind.i64.wrap (((mI c:Nat):Int)-(k:Int)-1)=((mI c:Nat):Int)-((k+1:Nat):Int):=by rw[aM (by omega)];omega
   refine ay (aa (aq ?_))
   have t1:=(aG v ((qK (ep c) k).c) 5 b hkb hb)
   have t2:=(ck v (az (qK (ep c) k).c 5) (aO (qK (ep c) k).c 5) b (by rw[aT];exact hkb) hb (by omega))
   have t3:=(fN ((qK (ep c) k).x) (n8 (az (qK (ep c) k).c 5) (aO (qK (ep c) k).c 5).toNat) ⟨by omega,by omega⟩ Ys)
   refine bM X2 [(46,150)] [(800044,⟨true,bA t1⟩),(700044,⟨true, .agg [.ptr 1000 1000]:: .agg []::bB t1⟩),(800045,⟨true,bA t2⟩),(700045,⟨true, .agg [.ptr 1000 1000]:: .agg [.ptr 11 170]::bB t2⟩),(46,⟨true,cg t3⟩)] [0,2,3,4] [] 487 11 MO (by kernel_rfl) rfl (by kernel_rfl) (by(with_reducible and_intros);(iterate 3 all_goals try first|exact⟨⟩|exact t1|exact t2|exact t3);all_goals first|exact rfl) (bp 154 24 rfl (bp 156 26 rfl (bT X2 [0,2,3,4] rfl ?_)))
   refine⟨k+1,by omega,by omega,?_⟩
   rw[hsb]
   try rfl
  ·try simp only[aP]at bt
   have hkn:k=mI c:=by omega
   rw[show qK (ep c) k=eU c from by rw[hkn];rfl]
   refine aV (aa ?_)
   have t1:=(aG v ((eU c).c) (IntKind.i64.wrap (((eU c).x.aF.length:Int)+1)) b hqb hb)
   refine aH X2 [] [(800054,⟨true,bA t1⟩),(700054,⟨true, .agg [.ptr 1000 1000]:: .agg []::bB t1⟩)] [0,2,3] [] rfl (by(with_reducible and_intros)<;>first|exact⟨⟩|exact t1|exact rfl) (aa (aa ?_))
   have t1:=(aG v (fW c) 3 b MP hb)
   refine aH X2 [] [(800057,⟨true,bA t1⟩),(700057,⟨true, .agg [.ptr 1000 1000]:: .agg []::bB t1⟩)] [0,2,3,5] [] rfl (by(with_reducible and_intros)<;>first|exact⟨⟩|exact t1|exact rfl) ?_
   rw[hmN]
   rw[show(eU c).x.inbox=(eU c).x.inbox++(pV (az (fW c) 3) 0).1 from (List.append_nil _).symm]
   refine aq (aQ (fun k1=>k1≤(pF c)) (fun k1:Nat=> [(5, .one ((aL (((pF c:Nat):Int)-(k1:Int)))))]) (fun k1=> [(1000, .box [.eF v .u8 b,aR ((pV (az (fW c) 3) k1).2.i:Int),aR (pV (az (fW c) 3) k1).2.h]),(26, .arr (.sl .u8) ((eU c).x.inbox++(pV (az (fW c) 3) k1).1))]) (fun k1=>(pF c)-k1) 0 (fun k1=>rfl) (Nat.zero_le _) rfl ?_)
   intro k1 hk1
   have hib:(pV (az (fW c) 3) k1).2.b=b:=by rw[KF,aT];exact MP
   have hi4:=bZ (pV (az (fW c) 3) k1).2 (n:=4) (by decide)
   have hil:=(EX (az (fW c) 3) k1).1
   have hi0:(eU c).x.inbox= []:=(wj c).2
   have adE:(eU c).x.inbox.length=0:=by rw[hi0];rfl
   have hiz:((eU c).x.inbox++(pV (az (fW c) 3) k1).1).length≤2:=by rw[hi0];simp;omega
   refine aa (av X2 [0,2,3,5,59] rfl ?_)
   refine ak rfl ?_ ?_<;>intro bY
   ·try simp only[aP]at bY
    have Yt:IntKind.i64.wrap (((pF c:Nat):Int)-(k1:Int)-1)=((pF c:Nat):Int)-((k1+1:Nat):Int):=by rw[aM (by omega)];omega
    have hap:(eU c).x.inbox++(pV (az (fW c) 3) (k1+1)).1=((eU c).x.inbox++(pV (az (fW c) 3) k1).1)++ [n8 (az (pV (az (fW c) 3) k1).2 4) (aO (pV (az (fW c) 3) k1).2 4).toNat]:=(List.append_assoc _ _ _).symm
    refine ay (aa (aq ?_))
    have t1:=(aG v ((pV (az (fW c) 3) k1).2) 4 b hib hb)
    have t2:=(ck v (az (pV (az (fW c) 3) k1).2 4) (aO (pV (az (fW c) 3) k1).2 4) b (by rw[aT];exact hib) hb (by omega))
    refine bM X2 [(69,26)] [(800066,⟨true,bA t1⟩),(700066,⟨true, .agg [.ptr 1000 1000]:: .agg []::bB t1⟩),(800067,⟨true,bA t2⟩),(700067,⟨true, .agg [.ptr 1000 1000]:: .agg [.ptr 11 170]::bB t2⟩),(500068,⟨true,[]⟩)] [0,2,3,5] [] 335 11 MO (by kernel_rfl) rfl (by kernel_rfl) (by(repeat' with_reducible first|exact aB|refine aE ?_ ?_|apply And.intro);(iterate 2 all_goals try first|exact t1|exact t2);all_goals first|exact rfl|exact⟨rfl,aA _ (by decide)⟩| (simp only[b7,maxLen,lens];omega)) ?_
    refine bT X2 [0,2,3,5] rfl ?_
    refine⟨k1+1,by omega,by omega,?_⟩
    rw[hap,Yt]
    try rfl
   ·try simp only[aP]at bY
    have Yu:k1=pF c:=by omega
    exact aV (aN X2 [2] rfl (by trivial) (aj (aW rfl (by and_intros<;>first|exact⟨⟩| (first| (simp only[bO,uy,Yu];done)|rfl;done)))))
 ·try simp only[aP]at hb0
  have hs:gd c=⟨(az (n4 c 4 3) 2),aa0 c⟩:=if_neg (by simpa using hb0)
  rw[show(az (n4 c 4 3) 2)=(gd c).c from by rw[hs]]
  rw[show aO c 4=(gd c).x.id from by rw[hs];rfl]
  rw[show 4+aO (az c 4) 3=(gd c).x.bG from by rw[hs];rfl]
  rw[show 1+aO (az (az c 4) 3) 99=(gd c).x.key from by rw[hs];rfl]
  rw[show aO (az (az (az c 4) 3) 99) 999=(gd c).x.seed from by rw[hs];rfl]
  refine ay (aa ?_)
  have t1:=(aG v ((gd c).c) 9 b (by rw[EW];exact hcb) hb)
  refine aH X2 [] [(800031,⟨true,bA t1⟩),(700031,⟨true, .agg [.ptr 1000 1000]:: .agg []::bB t1⟩)] [0,2,3] [] rfl (by(with_reducible and_intros)<;>first|exact⟨⟩|exact t1|exact rfl) (aa (aa ?_))
  have t1:=(bU v (rE c) R8 b hv hb (by decide))
  refine aH X2 [] [(800035,⟨true,bA t1⟩),(700035,⟨true, .agg [.ptr 1000 1000]:: .agg []::bB t1⟩)] [0,2,3,4] [] rfl (by(repeat' with_reducible first|exact aB|refine aE ?_ ?_|apply And.intro)<;>first|exact t1|exact rfl|exact⟨rfl,aA _ (by decide)⟩) ?_
  rw[VU]
  refine aq (aQ (fun k=>k≤(mI c)) (fun k:Nat=> [(4, .one ((aL (((mI c:Nat):Int)-(k:Int)))))]) (fun k=> [(1000, .box [.eF v .u8 b,aR ((qK (ep c) k).c.i:Int),aR (qK (ep c) k).c.h]),(3, .box [aR (qK (ep c) k).x.id,aR (qK (ep c) k).x.bG,aR (qK (ep c) k).x.key,aR (qK (ep c) k).x.seed, .own 24,aR (qK (ep c) k).x.sent, .own 26,aR (qK (ep c) k).x.next]),(24, .arr (.sl .u8) (qK (ep c) k).x.aF),(26, .arr (.sl .u8) (qK (ep c) k).x.inbox)]) (fun k=>(mI c)-k) 0 (fun k=>rfl) (Nat.zero_le _) rfl ?_)
  intro k hk
  have hkb:(qK (ep c) k).c.b=b:=by rw[QU];show(az (rE c) 4).b=b;rw[aT];exact hv
  have hq5:=bZ (qK (ep c) k).c (n:=5) (by decide)
  have hqs:=QX c (k:=k) (by omega)
  have hqz:=n7 hqs
  unfold cT at hqz
  have Ys:(n8 (az (qK (ep c) k).c 5) (aO (qK (ep c) k).c 5).toNat).length≤1048576:=by rw[gQ];omega
  refine aa (av X2 [0,2,3,4,37] rfl ?_)
  refine ak rfl ?_ ?_<;>intro bt
  ·try simp only[aP]at bt
   have hsb:IntKind.i64.wrap (((mI c:Nat):Int)-(k:Int)-1)=((mI c:Nat):Int)-((k+1:Nat):Int):=by rw[aM (by omega)];omega
   refine ay (aa (aq ?_))
   have t1:=(aG v ((qK (ep c) k).c) 5 b hkb hb)
   have t2:=(ck v (az (qK (ep c) k).c 5) (aO (qK (ep c) k).c 5) b (by rw[aT];exact hkb) hb (by omega))
   have t3:=(fN ((qK (ep c) k).x) (n8 (az (qK (ep c) k).c 5) (aO (qK (ep c) k).c 5).toNat) ⟨by omega,by omega⟩ Ys)
   refine bM X2 [(46,150)] [(800044,⟨true,bA t1⟩),(700044,⟨true, .agg [.ptr 1000 1000]:: .agg []::bB t1⟩),(800045,⟨true,bA t2⟩),(700045,⟨true, .agg [.ptr 1000 1000]:: .agg [.ptr 11 170]::bB t2⟩),(46,⟨true,cg t3⟩)] [0,2,3,4] [] 487 11 MO (by kernel_rfl) rfl (by kernel_rfl) (by(with_reducible and_intros);(iterate 3 all_goals try first|exact⟨⟩|exact t1|exact t2|exact t3);all_goals first|exact rfl) (bp 154 24 rfl (bp 156 26 rfl (bT X2 [0,2,3,4] rfl ?_)))
   refine⟨k+1,by omega,by omega,?_⟩
   rw[hsb]
   try rfl
  ·try simp only[aP]at bt
   have hkn:k=mI c:=by omega
   rw[show qK (ep c) k=eU c from by rw[hkn];rfl]
   refine aV (aa ?_)
   have t1:=(aG v ((eU c).c) (IntKind.i64.wrap (((eU c).x.aF.length:Int)+1)) b hqb hb)
   refine aH X2 [] [(800054,⟨true,bA t1⟩),(700054,⟨true, .agg [.ptr 1000 1000]:: .agg []::bB t1⟩)] [0,2,3] [] rfl (by(with_reducible and_intros)<;>first|exact⟨⟩|exact t1|exact rfl) (aa (aa ?_))
   have t1:=(aG v (fW c) 3 b MP hb)
   refine aH X2 [] [(800057,⟨true,bA t1⟩),(700057,⟨true, .agg [.ptr 1000 1000]:: .agg []::bB t1⟩)] [0,2,3,5] [] rfl (by(with_reducible and_intros)<;>first|exact⟨⟩|exact t1|exact rfl) ?_
   rw[hmN]
   rw[show(eU c).x.inbox=(eU c).x.inbox++(pV (az (fW c) 3) 0).1 from (List.append_nil _).symm]
   refine aq (aQ (fun k1=>k1≤(pF c)) (fun k1:Nat=> [(5, .one ((aL (((pF c:Nat):Int)-(k1:Int)))))]) (fun k1=> [(1000, .box [.eF v .u8 b,aR ((pV (az (fW c) 3) k1).2.i:Int),aR (pV (az (fW c) 3) k1).2.h]),(26, .arr (.sl .u8) ((eU c).x.inbox++(pV (az (fW c) 3) k1).1))]) (fun k1=>(pF c)-k1) 0 (fun k1=>rfl) (Nat.zero_le _) rfl ?_)
   intro k1 hk1
   have hib:(pV (az (fW c) 3) k1).2.b=b:=by rw[KF,aT];exact MP
   have hi4:=bZ (pV (az (fW c) 3) k1).2 (n:=4) (by decide)
   have hil:=(EX (az (fW c) 3) k1).1
   have hi0:(eU c).x.inbox= []:=(wj c).2
   have adE:(eU c).x.inbox.length=0:=by rw[hi0];rfl
   have hiz:((eU c).x.inbox++(pV (az (fW c) 3) k1).1).length≤2:=by rw[hi0];simp;omega
   refine aa (av X2 [0,2,3,5,59] rfl ?_)
   refine ak rfl ?_ ?_<;>intro bY
   ·try simp only[aP]at bY
    have Yt:IntKind.i64.wrap (((pF c:Nat):Int)-(k1:Int)-1)=((pF c:Nat):Int)-((k1+1:Nat):Int):=by rw[aM (by omega)];omega
    have hap:(eU c).x.inbox++(pV (az (fW c) 3) (k1+1)).1=((eU c).x.inbox++(pV (az (fW c) 3) k1).1)++ [n8 (az (pV (az (fW c) 3) k1).2 4) (aO (pV (az (fW c) 3) k1).2 4).toNat]:=(List.append_assoc _ _ _).symm
    refine ay (aa (aq ?_))
    have t1:=(aG v ((pV (az (fW c) 3) k1).2) 4 b hib hb)
    have t2:=(ck v (az (pV (az (fW c) 3) k1).2 4) (aO (pV (az (fW c) 3) k1).2 4) b (by rw[aT];exact hib) hb (by omega))
    refine bM X2 [(69,26)] [(800066,⟨true,bA t1⟩),(700066,⟨true, .agg [.ptr 1000 1000]:: .agg []::bB t1⟩),(800067,⟨true,bA t2⟩),(700067,⟨true, .agg [.ptr 1000 1000]:: .agg [.ptr 11 170]::bB t2⟩),(500068,⟨true,[]⟩)] [0,2,3,5] [] 335 11 MO (by kernel_rfl) rfl (by kernel_rfl) (by(repeat' with_reducible first|exact aB|refine aE ?_ ?_|apply And.intro);(iterate 2 all_goals try first|exact t1|exact t2);all_goals first|exact rfl|exact⟨rfl,aA _ (by decide)⟩| (simp only[b7,maxLen,lens];omega)) ?_
    refine bT X2 [0,2,3,5] rfl ?_
    refine⟨k1+1,by omega,by omega,?_⟩
    rw[hap,Yt]
    try rfl
   ·try simp only[aP]at bY
    have Yu:k1=pF c:=by omega
    exact aV (aN X2 [2] rfl (by trivial) (aj (aW rfl (by and_intros<;>first|exact⟨⟩| (first| (simp only[bO,uy,Yu];done)|rfl;done)))))
end
section
set_option maxRecDepth 100000
set_option maxHeartbeats 1000000 in
theorem tE(v:Value)(c:bR)(b:List UInt8)(hcb:c.b=b)(hb:b.length≤1048576):dK ty Tryz.prog 55 [(1000, .box [.eF v .u8 b,aR (c.i:Int),aR c.h])] [.a (.ptr 1000 0)] [(1000, .box [.eF v .u8 b,aR ((qc c).i:Int),aR (qc c).h]),(24, .arr (.sl .u8) (fE c).aF),(26, .arr (.sl .u8) (fE c).inbox)] [.agg [aR (fE c).id,aR (fE c).bG,aR (fE c).key,aR (fE c).seed, .own 24,aR (fE c).sent, .own 26,aR (fE c).next]]:=by
 refine cu X2 call55 func55 rfl rfl (by decide) ntmps55 (by simp) rfl ?_
 intro zb
 obtain⟨⟨hc1,hc2,_,_⟩,_⟩:=rF c
 have CQ:=bZ (eD c) (n:=2) (by decide)
 have agd:IntKind.i64.wrap (14+aO (eD c) 2)=14+aO (eD c) 2:=aM (by omega)
 have age:IntKind.i64.wrap (16+aO (eD c) 2)=16+aO (eD c) 2:=aM (by omega)
 refine av X2 [0,2] rfl (aa ?_)
 have t1:=(oq v c b hcb hb)
 refine aH X2 [] [(800005,⟨true,bA t1⟩),(700005,⟨true, .agg [.ptr 1000 1000]:: .agg [.ptr 24 24, .ptr 26 26]::bB t1⟩)] [0,2,3] [] rfl (by(with_reducible and_intros)<;>first|exact⟨⟩|exact t1|exact rfl) (aa (aa ?_))
 have t1:=(aG v (uy c) 14 b (by rw[EY];exact hcb) hb)
 refine aH X2 [] [(800007,⟨true,bA t1⟩),(700007,⟨true, .agg [.ptr 1000 1000]:: .agg []::bB t1⟩)] [0,2,3,7] [] rfl (by(with_reducible and_intros)<;>first|exact⟨⟩|exact t1|exact rfl) (aq (av X2 [0,2,3,7,8] rfl ?_))
 refine ak rfl ?_ ?_<;>intro hb0
 ·try simp only[aP]at hb0
  have hX:fE c=⟨([-1,7,8,(bO c).bG]:List Int).getD (aO (eD c) 4).toNat (aI .int),(bO c).bG,(bO c).key,(bO c).seed,(bO c).aF,(bO c).sent,(bO c).inbox,(bO c).next⟩:=(by unfold fE;simp only[if_pos (show dj c=0 from hb0)])
  have hN:qc c=az (eD c) 4:=(by unfold qc;simp only[if_pos (show dj c=0 from hb0)])
  have t1:=(bU v (eD c) [-1,7,8,(bO c).bG] b (by rw[xO];exact hcb) hb (by simp))
  refine aH X2 [] [(800014,⟨true,bA t1⟩),(700014,⟨true, .agg [.ptr 1000 1000]:: .agg []::bB t1⟩)] [2,3] [] rfl (by(repeat' with_reducible first|exact aB|refine aE ?_ ?_|apply And.intro)<;>first|exact t1|exact rfl|exact⟨rfl,aA _ (by decide)⟩) ?_
  rw[show(([-1,7,8,(bO c).bG]:List Int).length:Int)=4 from rfl]
  exact aN X2 [2] rfl (by trivial) (aj (aW rfl (by and_intros<;>first|exact⟨⟩| (first| (simp only[hX,hN,eD];done)|with_reducible rfl;done))))
 ·try simp only[aP]at hb0
  refine av X2 [0,2,3,7,16] rfl ?_
  refine ak rfl ?_ ?_<;>intro bt
  ·try simp only[aP]at bt
   have hX:fE c=⟨(bO c).id,(bO c).bG,EU (eD c),(bO c).seed,(bO c).aF,(bO c).sent,(bO c).inbox,(bO c).next⟩:=(by unfold fE;simp only[if_neg (show¬dj c=0 from hb0),if_pos (show dj c=1 from bt)])
   have hN:qc c=G8 (eD c):=(by unfold qc;simp only[if_neg (show¬dj c=0 from hb0),if_pos (show dj c=1 from bt)])
   have t1:=(tB v (eD c) b (by rw[xO];exact hcb) hb)
   exact aH X2 [] [(800019,⟨true,bA t1⟩),(700019,⟨true, .agg [.ptr 1000 1000]:: .agg []::bB t1⟩)] [2,3] [] rfl (by(with_reducible and_intros)<;>first|exact⟨⟩|exact t1|exact rfl) (aN X2 [2] rfl (by trivial) (aj (aW rfl (by and_intros<;>first|exact⟨⟩| (first| (simp only[hX,hN,eD];done)|with_reducible rfl;done)))))
  ·try simp only[aP]at bt
   refine av X2 [0,2,3,7,21] rfl ?_
   refine ak rfl ?_ ?_<;>intro bY
   ·try simp only[aP]at bY
    have hX:fE c=⟨(bO c).id,(bO c).bG,(bO c).key,(bO c).seed,(bO c).aF,([-1,((bO c).aF.length:Int),IntKind.i64.wrap (((bO c).aF.length:Int)+1)]:List Int).getD (aO (eD c) 3).toNat (aI .int),(bO c).inbox,(bO c).next⟩:=(by unfold fE;simp only[if_neg (show¬dj c=0 from hb0),if_neg (show¬dj c=1 from bt),if_pos (show dj c=2 from bY)])
    have hN:qc c=az (eD c) 3:=(by unfold qc;simp only[if_neg (show¬dj c=0 from hb0),if_neg (show¬dj c=1 from bt),if_pos (show dj c=2 from bY)])
    have t1:=(bU v (eD c) [-1,((bO c).aF.length:Int),IntKind.i64.wrap (((bO c).aF.length:Int)+1)] b (by rw[xO];exact hcb) hb (by simp))
    refine aH X2 [] [(800032,⟨true,bA t1⟩),(700032,⟨true, .agg [.ptr 1000 1000]:: .agg []::bB t1⟩)] [2,3] [] rfl (by(repeat' with_reducible first|exact aB|refine aE ?_ ?_|apply And.intro)<;>first|exact t1|exact rfl|exact⟨rfl,aA _ (by decide)⟩) ?_
    rw[show(([-1,((bO c).aF.length:Int),IntKind.i64.wrap (((bO c).aF.length:Int)+1)]:List Int).length:Int)=3 from rfl]
    exact aN X2 [2] rfl (by trivial) (aj (aW rfl (by and_intros<;>first|exact⟨⟩| (first| (simp only[hX,hN,eD];done)|with_reducible rfl;done))))
   ·try simp only[aP]at bY
    refine av X2 [0,2,3,7,34] rfl ?_
    refine ak rfl ?_ ?_<;>intro fj
    ·try simp only[aP]at fj
     have hX:fE c=⟨(bO c).id,(bO c).bG,(bO c).key,(bO c).seed,(bO c).aF,(bO c).sent,(bO c).inbox,([-1,99999,100000,100001]:List Int).getD (aO (eD c) 4).toNat (aI .int)⟩:=(by unfold fE;simp only[if_neg (show¬dj c=0 from hb0),if_neg (show¬dj c=1 from bt),if_neg (show¬dj c=2 from bY),if_pos (show dj c=3 from fj)])
     have hN:qc c=az (eD c) 4:=(by unfold qc;simp only[if_neg (show¬dj c=0 from hb0),if_neg (show¬dj c=1 from bt),if_neg (show¬dj c=2 from bY),if_pos (show dj c=3 from fj)])
     have t1:=(bU v (eD c) [-1,99999,100000,100001] b (by rw[xO];exact hcb) hb (by simp))
     refine aH X2 [] [(800038,⟨true,bA t1⟩),(700038,⟨true, .agg [.ptr 1000 1000]:: .agg []::bB t1⟩)] [2,3] [] rfl (by(repeat' with_reducible first|exact aB|refine aE ?_ ?_|apply And.intro)<;>first|exact t1|exact rfl|exact⟨rfl,aA _ (by decide)⟩) ?_
     rw[show(([-1,99999,100000,100001]:List Int).length:Int)=4 from rfl]
     exact aN X2 [2] rfl (by trivial) (aj (aW rfl (by and_intros<;>first|exact⟨⟩| (first| (simp only[hX,hN,eD];done)|with_reducible rfl;done))))
    ·try simp only[aP]at fj
     refine av X2 [0,2,3,7,40] rfl ?_
     refine ak rfl ?_ ?_<;>intro ql
     ·try simp only[aP]at ql
      have hX:fE c=⟨(bO c).id,(bO c).bG,(bO c).key,(bO c).seed,(bO c).aF,(bO c).sent,(bO c).inbox++ [List.replicate (IntKind.i64.wrap (14+aO (eD c) 2)).toNat (aI .u8)],(bO c).next⟩:=(by unfold fE;simp only[if_neg (show¬dj c=0 from hb0),if_neg (show¬dj c=1 from bt),if_neg (show¬dj c=2 from bY),if_neg (show¬dj c=3 from fj),if_pos (show dj c=4 from ql)])
      have hN:qc c=az (eD c) 2:=(by unfold qc;simp only[if_neg (show¬dj c=0 from hb0),if_neg (show¬dj c=1 from bt),if_neg (show¬dj c=2 from bY),if_neg (show¬dj c=3 from fj),if_pos (show dj c=4 from ql)])
      have t1:=(aG v (eD c) 2 b (by rw[xO];exact hcb) hb)
      refine bM X2 [(49,26)] [(800045,⟨true,bA t1⟩),(700045,⟨true, .agg [.ptr 1000 1000]:: .agg []::bB t1⟩),(500048,⟨true,[]⟩)] [2,3] [] 375 2 MO (by kernel_rfl) rfl (by kernel_rfl) (by simp only[List.cons_append,List.nil_append];(repeat' with_reducible first|exact aB|refine aE ?_ ?_|apply And.intro)<;>skip;(iterate 3 (all_goals try (first|exact t1|exact(by simp only[b7,maxLen,lens];omega))));all_goals (first| (intros;omega)|exact rfl|exact⟨rfl,aA _ (by decide)⟩)) ?_
      exact aN X2 [2] rfl (by trivial) (aj (aW rfl (by and_intros<;>first|exact⟨⟩| (first| (simp only[hX,hN,eD];done)|with_reducible rfl;done))))
     ·try simp only[aP]at ql
      refine av X2 [0,2,3,51] rfl ?_
      refine ak rfl ?_ ?_<;>intro E1
      ·try simp only[aP]at E1
       have hX:fE c=⟨(bO c).id,(bO c).bG,(bO c).key,(bO c).seed,(bO c).aF,(bO c).sent,List.replicate (IntKind.i64.wrap (16+aO (eD c) 2)).toNat (aI (.sl .u8)),(bO c).next⟩:=(by unfold fE;simp only[if_neg (show¬dj c=0 from hb0),if_neg (show¬dj c=1 from bt),if_neg (show¬dj c=2 from bY),if_neg (show¬dj c=3 from fj),if_neg (show¬dj c=4 from ql),if_pos (show dj c=5 from E1)])
       have hN:qc c=az (eD c) 2:=(by unfold qc;simp only[if_neg (show¬dj c=0 from hb0),if_neg (show¬dj c=1 from bt),if_neg (show¬dj c=2 from bY),if_neg (show¬dj c=3 from fj),if_neg (show¬dj c=4 from ql),if_pos (show dj c=5 from E1)])
       have t1:=(aG v (eD c) 2 b (by rw[xO];exact hcb) hb)
       refine aH X2 [] [(800054,⟨true,bA t1⟩),(700054,⟨true, .agg [.ptr 1000 1000]:: .agg []::bB t1⟩)] [2,3] [] rfl (by simp only[List.cons_append,List.nil_append];(repeat' with_reducible first|exact aB|refine aE ?_ ?_|apply And.intro)<;>skip;(iterate 3 (all_goals try (first|exact t1|exact(by simp only[b7,maxLen,lens];omega))));all_goals (first| (intros;omega)|exact⟨rfl,aA _ (by decide)⟩)) ?_
       exact bp 56 26 rfl (aN X2 [2] rfl (by trivial) (aj (aW rfl (by and_intros<;>first|exact⟨⟩| (first| (simp only[hX,hN,eD];done)|with_reducible rfl;done)))))
      ·try simp only[aP]at E1
       have hX:fE c=(bO c):=(by unfold fE;simp only[if_neg (show¬dj c=0 from hb0),if_neg (show¬dj c=1 from bt),if_neg (show¬dj c=2 from bY),if_neg (show¬dj c=3 from fj),if_neg (show¬dj c=4 from ql),if_neg (show¬dj c=5 from E1)])
       have hN:qc c=eD c:=(by unfold qc;simp only[if_neg (show¬dj c=0 from hb0),if_neg (show¬dj c=1 from bt),if_neg (show¬dj c=2 from bY),if_neg (show¬dj c=3 from fj),if_neg (show¬dj c=4 from ql),if_neg (show¬dj c=5 from E1)])
       exact ay (aN X2 [2] rfl (by trivial) (aj (aW rfl (by and_intros<;>first|exact⟨⟩| (first| (simp only[hX,hN,eD];done)|with_reducible rfl;done)))))
end
section
set_option maxRecDepth 100000
set_option maxHeartbeats 4000000 in
theorem xU(v:Value)(c:bR)(b:List UInt8)(hcb:c.b=b)(hb:b.length≤1048576):dK ty Tryz.prog 117 [(1000, .box [.eF v .u8 b,aR (c.i:Int),aR c.h])] [.a (.ptr 1000 0)] [(1000, .box [.eF v .u8 b,aR ((eL c).c.i:Int),aR (eL c).c.h]),(24, .arr (.sl .u8) (eL c).d.live.aF),(26, .arr (.sl .u8) (eL c).d.live.inbox),(32, .arr (.sl .u8) (eL c).d.saved.aF),(34, .arr (.sl .u8) (eL c).d.saved.inbox)] [.agg [aR (eL c).d.live.id,aR (eL c).d.live.bG,aR (eL c).d.live.key,aR (eL c).d.live.seed, .own 24,aR (eL c).d.live.sent, .own 26,aR (eL c).d.live.next,aR (eL c).d.saved.id,aR (eL c).d.saved.bG,aR (eL c).d.saved.key,aR (eL c).d.saved.seed, .own 32,aR (eL c).d.saved.sent, .own 34,aR (eL c).d.saved.next]]:=by
 refine cu X2 call117 func117 rfl rfl (by decide) ntmps117 (by simp) rfl ?_
 intro zb
 have Yr:=n7 (rF c).1
 unfold cT at Yr
 have VU:aO (uy c) 5=((BR c:Nat):Int)-((0:Nat):Int):=by have:=xM (uy c) 5;unfold BR;omega
 have hn5:BR c<5:=by have:=bZ (uy c) (n:=5) (by decide);unfold BR;omega
 refine av X2 [0,2] rfl (aa ?_)
 have t1:=(oq v c b hcb hb)
 refine aH X2 [(15,20)] [(800014,⟨true,bA t1⟩),(700014,⟨true, .agg [.ptr 1000 1000]:: .agg [.ptr 24 124, .ptr 26 126]::bB t1⟩),(15,⟨true,[.agg (cQ (⟨(bO c),(bO c)⟩:bP))]⟩)] [0,2,3] [] rfl (by(with_reducible and_intros);(iterate 2 all_goals try first|exact⟨⟩|exact t1|exact(iH (bO c) ⟨by omega,by omega⟩));all_goals first|exact rfl) (aa (aa ?_))
 have t1:=(aG v (uy c) 5 b (by rw[EY];exact hcb) hb)
 refine aH X2 [] [(800017,⟨true,bA t1⟩),(700017,⟨true, .agg [.ptr 1000 1000]:: .agg []::bB t1⟩)] [0,2,3,4] [] rfl (by(with_reducible and_intros)<;>first|exact⟨⟩|exact t1|exact rfl) ?_
 rw[VU]
 refine aq (aQ (fun k=>k≤(BR c)) (fun k:Nat=> [(4, .one ((aL (((BR c:Nat):Int)-(k:Int)))))]) (fun k=> [(1000, .box [.eF v .u8 b,aR ((aZ (bf c) k).c.i:Int),aR (aZ (bf c) k).c.h]),(3, .box [aR (aZ (bf c) k).d.live.id,aR (aZ (bf c) k).d.live.bG,aR (aZ (bf c) k).d.live.key,aR (aZ (bf c) k).d.live.seed, .own 24,aR (aZ (bf c) k).d.live.sent, .own 26,aR (aZ (bf c) k).d.live.next,aR (aZ (bf c) k).d.saved.id,aR (aZ (bf c) k).d.saved.bG,aR (aZ (bf c) k).d.saved.key,aR (aZ (bf c) k).d.saved.seed, .own 32,aR (aZ (bf c) k).d.saved.sent, .own 34,aR (aZ (bf c) k).d.saved.next]),(24, .arr (.sl .u8) (aZ (bf c) k).d.live.aF),(26, .arr (.sl .u8) (aZ (bf c) k).d.live.inbox),(32, .arr (.sl .u8) (aZ (bf c) k).d.saved.aF),(34, .arr (.sl .u8) (aZ (bf c) k).d.saved.inbox)]) (fun k=>(BR c)-k) 0 (fun k=>rfl) (Nat.zero_le _) rfl ?_)
 intro k hk
 have hkb:(aZ (bf c) k).c.b=b:=by rw[Jf];rw[Q1];exact hcb
 have hdS:=Jg (Q0 c) k
 have hds:=jC hdS.1
 have G3:cD (aZ (bf c) k).d≤1048576:=by omega
 obtain⟨hl1,lI,_,_⟩:=hdS.1.1
 have hq3:=bZ (mq (aZ (bf c) k)) (n:=3) (by decide)
 refine aa (av X2 [0,2,3,4,19] rfl ?_)
 refine ak rfl ?_ ?_<;>intro hb0
 ·try simp only[aP]at hb0
  have hsb:IntKind.i64.wrap (((BR c:Nat):Int)-(k:Int)-1)=((BR c:Nat):Int)-((k+1:Nat):Int):=by rw[aM (by omega)];omega
  refine ay (aa (aq (av X2 [0,2,3,4,5] rfl (aa ?_))))
  have t1:=(ck v ((aZ (bf c) k).c) 24 b hkb hb (by decide))
  refine aH X2 [] [(800025,⟨true,bA t1⟩),(700025,⟨true, .agg [.ptr 1000 1000]:: .agg [.ptr 11 60]::bB t1⟩)] [0,2,3,4,5,6] [] rfl (by(with_reducible and_intros)<;>first|exact⟨⟩|exact t1|exact rfl) (aa (aa ?_))
  by_cases hA:(aZ (bf c) k).d.live.sent<((aZ (bf c) k).d.live.aF.length:Int)
  ·have t1:=(fF v (Cn (aZ (bf c) k)) 2 b (by unfold Cn;rw[rD];exact hkb) hb)
   refine zE X2 [] [(800034,⟨true,bA t1⟩),(700034,⟨true, .agg [.ptr 1000 1000]:: .agg []::bB t1⟩),(1100032,⟨true,[]⟩)] [0,2,3,4,5,6,35] [] rfl (by(with_reducible and_intros);(iterate 2 all_goals try first|exact⟨⟩|exact t1|exact(decide_eq_true hA));all_goals first|exact rfl) ?_
   refine ak rfl ?_ ?_<;>intro bt
   ·try simp only[aP]at bt
    have hob:mq (aZ (bf c) k)=az (Cn (aZ (bf c) k)) 2:=by unfold mq;rw[if_pos (show EZ (aZ (bf c) k)from hA)]
    have dV:uz (aZ (bf c) k)=tq (aZ (bf c) k).d.live (aZ (bf c) k).d.live.sent:=by unfold uz;rw[if_pos (show EZ (aZ (bf c) k)from hA)];rw[if_pos (by simpa using bt)]
    have t1:=(lY ((aZ (bf c) k).d.live) hdS.2.1 hA)
    refine aH X2 [] [(37,⟨false,cg t1⟩)] [0,2,3,4,5,6] [] rfl (by(with_reducible and_intros)<;>first|exact⟨⟩|exact t1) ?_
    rw[←dV]
    rw[←hob]
    refine aa ?_
    have t1:=(dM ((aZ (bf c) k).d.live.key) (IntKind.i64.wrap (1-dS (aZ (bf c) k).d.live)))
    have t2:=(aG v (mq (aZ (bf c) k)) 3 b (by rw[uA];exact hkb) hb)
    have t3:=(ck v (az (mq (aZ (bf c) k)) 3) (aO (mq (aZ (bf c) k)) 3) b (by rw[aT,uA];exact hkb) hb (by omega))
    have t4:=(jf (sR (aZ (bf c) k).d.live.key (IntKind.i64.wrap (1-dS (aZ (bf c) k).d.live))) ((aZ (bf c) k).d.live.inbox.length:Int) (⟨1,UN (aZ (bf c) k)⟩:Plain))
    refine bM X2 [] [(42,⟨false,[aL (dS ((aZ (bf c) k).d.live))]⟩),(44,⟨false,cg t1⟩),(800050,⟨true,bA t2⟩),(700050,⟨true, .agg [.ptr 1000 1000]:: .agg []::bB t2⟩),(800051,⟨true,bA t3⟩),(700051,⟨true, .agg [.ptr 1000 1000]:: .agg [.ptr 11 61]::bB t3⟩),(53,⟨false,cg t4⟩)] [0,2,3,4,5,6,7] [] 1042431 19 MO (by kernel_rfl) rfl (by kernel_rfl) (by(with_reducible and_intros);(iterate 5 all_goals try first|exact⟨⟩|exact(cS ((aZ (bf c) k).d.live))|exact t1|exact t2|exact t3|exact t4);all_goals first|exact rfl) (aa ?_)
    have t1:=(aG v (Jd (aZ (bf c) k)) 6 b (by rw[E0];exact hkb) hb)
    refine aH X2 [] [(800057,⟨true,bA t1⟩),(700057,⟨true, .agg [.ptr 1000 1000]:: .agg []::bB t1⟩)] [0,2,3,4,5,6,7,57] [] rfl (by(with_reducible and_intros)<;>first|exact⟨⟩|exact t1|exact rfl) (aq (av X2 [0,2,3,4,5,6,7,57,71] rfl ?_))
    refine ak rfl ?_ ?_<;>intro bY
    ·try simp only[aP]at bY
     have hE:aZ (bf c) (k+1)=⟨(iI (aZ (bf c) k)),Dp (aZ (bf c) k).d⟩:=(show aZ (bf c) (k+1)=lG (aZ (bf c) k)from rfl).trans (by unfold lG;rw[if_pos (show rG (aZ (bf c) k)=0 from bY)])
     refine aH X2 [(74,120)] [(74,⟨true,[.agg (cQ (Dp ((aZ (bf c) k).d)))]⟩)] [0,2,3,4] [] rfl (by(with_reducible and_intros)<;>first|exact⟨⟩|exact(gA ((aZ (bf c) k).d) G3)) (bp 124 24 rfl (bp 126 26 rfl (bp 132 32 rfl (bp 134 34 rfl (bT X2 [0,2,3,4] rfl ?_)))))
     refine⟨k+1,by omega,by omega,?_⟩
     rw[hE,hsb]
     try rfl
    ·try simp only[aP]at bY
     refine av X2 [0,2,3,4,5,6,7,75] rfl ?_
     refine ak rfl ?_ ?_<;>intro fj
     ·try simp only[aP]at fj
      have hE:aZ (bf c) (k+1)=⟨yD (iI (aZ (bf c) k)) 2,pg (aZ (bf c) k).d (n8 (iI (aZ (bf c) k)) 2)⟩:=(show aZ (bf c) (k+1)=lG (aZ (bf c) k)from rfl).trans (by unfold lG;rw[if_neg (show¬rG (aZ (bf c) k)=0 from bY),if_pos (show rG (aZ (bf c) k)=1 from fj)])
      refine aa ?_
      have t1:=(ck v (iI (aZ (bf c) k)) 2 b (by rw[pG];exact hkb) hb (by decide))
      have t2:=(eY ((aZ (bf c) k).d) (n8 (iI (aZ (bf c) k)) 2) G3 (by rw[gQ];decide))
      refine bM X2 [(81,120)] [(800080,⟨true,bA t1⟩),(700080,⟨true, .agg [.ptr 1000 1000]:: .agg [.ptr 11 62]::bB t1⟩),(81,⟨true,cg t2⟩)] [0,2,3,4,9] [] 763 7 MO (by kernel_rfl) rfl (by kernel_rfl) (by(with_reducible and_intros);(iterate 2 all_goals try first|exact⟨⟩|exact t1|exact t2);all_goals first|exact rfl) (fK X2 [0,2,3,4] rfl (by trivial) (bp 124 24 rfl (bp 126 26 rfl (bp 132 32 rfl (bp 134 34 rfl (bT X2 [0,2,3,4] rfl ?_))))))
      refine⟨k+1,by omega,by omega,?_⟩
      rw[hE,hsb]
      try rfl
     ·try simp only[aP]at fj
      have hE:aZ (bf c) (k+1)=⟨az (iI (aZ (bf c) k)) 2,rdev (aZ (bf c) k).d (IntKind.i64.wrap ((aZ (bf c) k).d.live.next+aO (iI (aZ (bf c) k)) 2)) (uz (aZ (bf c) k)) (Je (aZ (bf c) k))⟩:=(show aZ (bf c) (k+1)=lG (aZ (bf c) k)from rfl).trans (by unfold lG;rw[if_neg (show¬rG (aZ (bf c) k)=0 from bY),if_neg (show¬rG (aZ (bf c) k)=1 from fj)])
      refine aa ?_
      have t1:=(aG v (iI (aZ (bf c) k)) 2 b (by rw[pG];exact hkb) hb)
      have t2:=(fM ((aZ (bf c) k).d) (IntKind.i64.wrap ((aZ (bf c) k).d.live.next+aO (iI (aZ (bf c) k)) 2)) (uz (aZ (bf c) k)) (Je (aZ (bf c) k)) G3)
      refine bM X2 [(67,120)] [(800063,⟨true,bA t1⟩),(700063,⟨true, .agg [.ptr 1000 1000]:: .agg []::bB t1⟩),(67,⟨true,cg t2⟩)] [0,2,3,4,11] [] 24559 95 MO (by kernel_rfl) rfl (by kernel_rfl) (by(with_reducible and_intros);(iterate 2 all_goals try first|exact⟨⟩|exact t1|exact t2);all_goals first|exact rfl) (fK X2 [0,2,3,4] rfl (by trivial) (bp 124 24 rfl (bp 126 26 rfl (bp 132 32 rfl (bp 134 34 rfl (bT X2 [0,2,3,4] rfl ?_))))))
      refine⟨k+1,by omega,by omega,?_⟩
      rw[hE,hsb]
      try rfl
   ·try simp only[aP]at bt
    have hob:mq (aZ (bf c) k)=az (Cn (aZ (bf c) k)) 2:=by unfold mq;rw[if_pos (show EZ (aZ (bf c) k)from hA)]
    have dV:uz (aZ (bf c) k)=(n8 (aZ (bf c) k).c 24):=by unfold uz;rw[if_pos (show EZ (aZ (bf c) k)from hA)];rw[if_neg (by simpa using bt)]
    rw[show n8 (aZ (bf c) k).c (Int.toNat 24)=uz (aZ (bf c) k)from dV.symm]
    rw[←hob]
    refine ay (aa ?_)
    have t1:=(dM ((aZ (bf c) k).d.live.key) (IntKind.i64.wrap (1-dS (aZ (bf c) k).d.live)))
    have t2:=(aG v (mq (aZ (bf c) k)) 3 b (by rw[uA];exact hkb) hb)
    have t3:=(ck v (az (mq (aZ (bf c) k)) 3) (aO (mq (aZ (bf c) k)) 3) b (by rw[aT,uA];exact hkb) hb (by omega))
    have t4:=(jf (sR (aZ (bf c) k).d.live.key (IntKind.i64.wrap (1-dS (aZ (bf c) k).d.live))) ((aZ (bf c) k).d.live.inbox.length:Int) (⟨1,UN (aZ (bf c) k)⟩:Plain))
    refine bM X2 [] [(42,⟨false,[aL (dS ((aZ (bf c) k).d.live))]⟩),(44,⟨false,cg t1⟩),(800050,⟨true,bA t2⟩),(700050,⟨true, .agg [.ptr 1000 1000]:: .agg []::bB t2⟩),(800051,⟨true,bA t3⟩),(700051,⟨true, .agg [.ptr 1000 1000]:: .agg [.ptr 11 61]::bB t3⟩),(53,⟨false,cg t4⟩)] [0,2,3,4,5,6,7] [] 1042431 19 MO (by kernel_rfl) rfl (by kernel_rfl) (by(with_reducible and_intros);(iterate 5 all_goals try first|exact⟨⟩|exact(cS ((aZ (bf c) k).d.live))|exact t1|exact t2|exact t3|exact t4);all_goals first|exact rfl) (aa ?_)
    have t1:=(aG v (Jd (aZ (bf c) k)) 6 b (by rw[E0];exact hkb) hb)
    refine aH X2 [] [(800057,⟨true,bA t1⟩),(700057,⟨true, .agg [.ptr 1000 1000]:: .agg []::bB t1⟩)] [0,2,3,4,5,6,7,57] [] rfl (by(with_reducible and_intros)<;>first|exact⟨⟩|exact t1|exact rfl) (aq (av X2 [0,2,3,4,5,6,7,57,71] rfl ?_))
    refine ak rfl ?_ ?_<;>intro bY
    ·try simp only[aP]at bY
     have hE:aZ (bf c) (k+1)=⟨(iI (aZ (bf c) k)),Dp (aZ (bf c) k).d⟩:=(show aZ (bf c) (k+1)=lG (aZ (bf c) k)from rfl).trans (by unfold lG;rw[if_pos (show rG (aZ (bf c) k)=0 from bY)])
     refine aH X2 [(74,120)] [(74,⟨true,[.agg (cQ (Dp ((aZ (bf c) k).d)))]⟩)] [0,2,3,4] [] rfl (by(with_reducible and_intros)<;>first|exact⟨⟩|exact(gA ((aZ (bf c) k).d) G3)) (bp 124 24 rfl (bp 126 26 rfl (bp 132 32 rfl (bp 134 34 rfl (bT X2 [0,2,3,4] rfl ?_)))))
     refine⟨k+1,by omega,by omega,?_⟩
     rw[hE,hsb]
     try rfl
    ·try simp only[aP]at bY
     refine av X2 [0,2,3,4,5,6,7,75] rfl ?_
     refine ak rfl ?_ ?_<;>intro fj
     ·try simp only[aP]at fj
      have hE:aZ (bf c) (k+1)=⟨yD (iI (aZ (bf c) k)) 2,pg (aZ (bf c) k).d (n8 (iI (aZ (bf c) k)) 2)⟩:=(show aZ (bf c) (k+1)=lG (aZ (bf c) k)from rfl).trans (by unfold lG;rw[if_neg (show¬rG (aZ (bf c) k)=0 from bY),if_pos (show rG (aZ (bf c) k)=1 from fj)])
      refine aa ?_
      have t1:=(ck v (iI (aZ (bf c) k)) 2 b (by rw[pG];exact hkb) hb (by decide))
      have t2:=(eY ((aZ (bf c) k).d) (n8 (iI (aZ (bf c) k)) 2) G3 (by rw[gQ];decide))
      refine bM X2 [(81,120)] [(800080,⟨true,bA t1⟩),(700080,⟨true, .agg [.ptr 1000 1000]:: .agg [.ptr 11 62]::bB t1⟩),(81,⟨true,cg t2⟩)] [0,2,3,4,9] [] 763 7 MO (by kernel_rfl) rfl (by kernel_rfl) (by(with_reducible and_intros);(iterate 2 all_goals try first|exact⟨⟩|exact t1|exact t2);all_goals first|exact rfl) (fK X2 [0,2,3,4] rfl (by trivial) (bp 124 24 rfl (bp 126 26 rfl (bp 132 32 rfl (bp 134 34 rfl (bT X2 [0,2,3,4] rfl ?_))))))
      refine⟨k+1,by omega,by omega,?_⟩
      rw[hE,hsb]
      try rfl
     ·try simp only[aP]at fj
      have hE:aZ (bf c) (k+1)=⟨az (iI (aZ (bf c) k)) 2,rdev (aZ (bf c) k).d (IntKind.i64.wrap ((aZ (bf c) k).d.live.next+aO (iI (aZ (bf c) k)) 2)) (uz (aZ (bf c) k)) (Je (aZ (bf c) k))⟩:=(show aZ (bf c) (k+1)=lG (aZ (bf c) k)from rfl).trans (by unfold lG;rw[if_neg (show¬rG (aZ (bf c) k)=0 from bY),if_neg (show¬rG (aZ (bf c) k)=1 from fj)])
      refine aa ?_
      have t1:=(aG v (iI (aZ (bf c) k)) 2 b (by rw[pG];exact hkb) hb)
      have t2:=(fM ((aZ (bf c) k).d) (IntKind.i64.wrap ((aZ (bf c) k).d.live.next+aO (iI (aZ (bf c) k)) 2)) (uz (aZ (bf c) k)) (Je (aZ (bf c) k)) G3)
      refine bM X2 [(67,120)] [(800063,⟨true,bA t1⟩),(700063,⟨true, .agg [.ptr 1000 1000]:: .agg []::bB t1⟩),(67,⟨true,cg t2⟩)] [0,2,3,4,11] [] 24559 95 MO (by kernel_rfl) rfl (by kernel_rfl) (by(with_reducible and_intros);(iterate 2 all_goals try first|exact⟨⟩|exact t1|exact t2);all_goals first|exact rfl) (fK X2 [0,2,3,4] rfl (by trivial) (bp 124 24 rfl (bp 126 26 rfl (bp 132 32 rfl (bp 134 34 rfl (bT X2 [0,2,3,4] rfl ?_))))))
      refine⟨k+1,by omega,by omega,?_⟩
      rw[hE,hsb]
      try rfl
  ·refine zE X2 [] [(1100032,⟨false,[]⟩)] [0,2,3,4,5,6,35] [] rfl (by(with_reducible and_intros)<;>first|exact⟨⟩|exact(decide_eq_false hA)) ?_
   refine ak rfl ?_ ?_<;>intro bt
   ·try simp only[aP]at bt
    cases bt
   ·try simp only[aP]at bt
    skip
    have hob:mq (aZ (bf c) k)=(Cn (aZ (bf c) k)):=by unfold mq;rw[if_neg (show¬EZ (aZ (bf c) k)from hA)]
    have dV:uz (aZ (bf c) k)=(n8 (aZ (bf c) k).c 24):=by unfold uz;rw[if_neg (show¬EZ (aZ (bf c) k)from hA)]
    rw[show n8 (aZ (bf c) k).c (Int.toNat 24)=uz (aZ (bf c) k)from dV.symm]
    rw[show yD (aZ (bf c) k).c (Int.toNat 24)=mq (aZ (bf c) k)from hob.symm]
    refine ay (aa ?_)
    have t1:=(dM ((aZ (bf c) k).d.live.key) (IntKind.i64.wrap (1-dS (aZ (bf c) k).d.live)))
    have t2:=(aG v (mq (aZ (bf c) k)) 3 b (by rw[uA];exact hkb) hb)
    have t3:=(ck v (az (mq (aZ (bf c) k)) 3) (aO (mq (aZ (bf c) k)) 3) b (by rw[aT,uA];exact hkb) hb (by omega))
    have t4:=(jf (sR (aZ (bf c) k).d.live.key (IntKind.i64.wrap (1-dS (aZ (bf c) k).d.live))) ((aZ (bf c) k).d.live.inbox.length:Int) (⟨1,UN (aZ (bf c) k)⟩:Plain))
    refine bM X2 [] [(42,⟨false,[aL (dS ((aZ (bf c) k).d.live))]⟩),(44,⟨false,cg t1⟩),(800050,⟨true,bA t2⟩),(700050,⟨true, .agg [.ptr 1000 1000]:: .agg []::bB t2⟩),(800051,⟨true,bA t3⟩),(700051,⟨true, .agg [.ptr 1000 1000]:: .agg [.ptr 11 61]::bB t3⟩),(53,⟨false,cg t4⟩)] [0,2,3,4,5,6,7] [] 1042431 19 MO (by kernel_rfl) rfl (by kernel_rfl) (by(with_reducible and_intros);(iterate 5 all_goals try first|exact⟨⟩|exact(cS ((aZ (bf c) k).d.live))|exact t1|exact t2|exact t3|exact t4);all_goals first|exact rfl) (aa ?_)
    have t1:=(aG v (Jd (aZ (bf c) k)) 6 b (by rw[E0];exact hkb) hb)
    refine aH X2 [] [(800057,⟨true,bA t1⟩),(700057,⟨true, .agg [.ptr 1000 1000]:: .agg []::bB t1⟩)] [0,2,3,4,5,6,7,57] [] rfl (by(with_reducible and_intros)<;>first|exact⟨⟩|exact t1|exact rfl) (aq (av X2 [0,2,3,4,5,6,7,57,71] rfl ?_))
    refine ak rfl ?_ ?_<;>intro bY
    ·try simp only[aP]at bY
     have hE:aZ (bf c) (k+1)=⟨(iI (aZ (bf c) k)),Dp (aZ (bf c) k).d⟩:=(show aZ (bf c) (k+1)=lG (aZ (bf c) k)from rfl).trans (by unfold lG;rw[if_pos (show rG (aZ (bf c) k)=0 from bY)])
     refine aH X2 [(74,120)] [(74,⟨true,[.agg (cQ (Dp ((aZ (bf c) k).d)))]⟩)] [0,2,3,4] [] rfl (by(with_reducible and_intros)<;>first|exact⟨⟩|exact(gA ((aZ (bf c) k).d) G3)) (bp 124 24 rfl (bp 126 26 rfl (bp 132 32 rfl (bp 134 34 rfl (bT X2 [0,2,3,4] rfl ?_)))))
     refine⟨k+1,by omega,by omega,?_⟩
     rw[hE,hsb]
     try rfl
    ·try simp only[aP]at bY
     refine av X2 [0,2,3,4,5,6,7,75] rfl ?_
     refine ak rfl ?_ ?_<;>intro fj
     ·try simp only[aP]at fj
      have hE:aZ (bf c) (k+1)=⟨yD (iI (aZ (bf c) k)) 2,pg (aZ (bf c) k).d (n8 (iI (aZ (bf c) k)) 2)⟩:=(show aZ (bf c) (k+1)=lG (aZ (bf c) k)from rfl).trans (by unfold lG;rw[if_neg (show¬rG (aZ (bf c) k)=0 from bY),if_pos (show rG (aZ (bf c) k)=1 from fj)])
      refine aa ?_
      have t1:=(ck v (iI (aZ (bf c) k)) 2 b (by rw[pG];exact hkb) hb (by decide))
      have t2:=(eY ((aZ (bf c) k).d) (n8 (iI (aZ (bf c) k)) 2) G3 (by rw[gQ];decide))
      refine bM X2 [(81,120)] [(800080,⟨true,bA t1⟩),(700080,⟨true, .agg [.ptr 1000 1000]:: .agg [.ptr 11 62]::bB t1⟩),(81,⟨true,cg t2⟩)] [0,2,3,4,9] [] 763 7 MO (by kernel_rfl) rfl (by kernel_rfl) (by(with_reducible and_intros);(iterate 2 all_goals try first|exact⟨⟩|exact t1|exact t2);all_goals first|exact rfl) (fK X2 [0,2,3,4] rfl (by trivial) (bp 124 24 rfl (bp 126 26 rfl (bp 132 32 rfl (bp 134 34 rfl (bT X2 [0,2,3,4] rfl ?_))))))
      refine⟨k+1,by omega,by omega,?_⟩
      rw[hE,hsb]
      try rfl
     ·try simp only[aP]at fj
      have hE:aZ (bf c) (k+1)=⟨az (iI (aZ (bf c) k)) 2,rdev (aZ (bf c) k).d (IntKind.i64.wrap ((aZ (bf c) k).d.live.next+aO (iI (aZ (bf c) k)) 2)) (uz (aZ (bf c) k)) (Je (aZ (bf c) k))⟩:=(show aZ (bf c) (k+1)=lG (aZ (bf c) k)from rfl).trans (by unfold lG;rw[if_neg (show¬rG (aZ (bf c) k)=0 from bY),if_neg (show¬rG (aZ (bf c) k)=1 from fj)])
      refine aa ?_
      have t1:=(aG v (iI (aZ (bf c) k)) 2 b (by rw[pG];exact hkb) hb)
      have t2:=(fM ((aZ (bf c) k).d) (IntKind.i64.wrap ((aZ (bf c) k).d.live.next+aO (iI (aZ (bf c) k)) 2)) (uz (aZ (bf c) k)) (Je (aZ (bf c) k)) G3)
      refine bM X2 [(67,120)] [(800063,⟨true,bA t1⟩),(700063,⟨true, .agg [.ptr 1000 1000]:: .agg []::bB t1⟩),(67,⟨true,cg t2⟩)] [0,2,3,4,11] [] 24559 95 MO (by kernel_rfl) rfl (by kernel_rfl) (by(with_reducible and_intros);(iterate 2 all_goals try first|exact⟨⟩|exact t1|exact t2);all_goals first|exact rfl) (fK X2 [0,2,3,4] rfl (by trivial) (bp 124 24 rfl (bp 126 26 rfl (bp 132 32 rfl (bp 134 34 rfl (bT X2 [0,2,3,4] rfl ?_))))))
      refine⟨k+1,by omega,by omega,?_⟩
      rw[hE,hsb]
      try rfl
 ·try simp only[aP]at hb0
  have hkn:k=BR c:=by omega
  exact aV (aN X2 [2] rfl (by trivial) (aj (aW rfl (by and_intros<;>first|exact⟨⟩| (first| (simp only[eL,hkn];done)|with_reducible rfl;done)))))
end
section
set_option maxRecDepth 100000
set_option maxHeartbeats 2000000 in
theorem Co(v:Value)(c:bR)(b:List UInt8)(hcb:c.b=b)(hb:b.length≤1048576):dK ty Tryz.prog 96 [(1000, .box [.eF v .u8 b,aR (c.i:Int),aR c.h])] [.a (.ptr 1000 0)] [(1000, .box [.eF v .u8 b,aR ((wk c).i:Int),aR (wk c).h]),(24, .arr (.sl .u8) (jd c).live.aF),(26, .arr (.sl .u8) (jd c).live.inbox),(32, .arr (.sl .u8) (jd c).saved.aF),(34, .arr (.sl .u8) (jd c).saved.inbox)] [.agg [aR (jd c).live.id,aR (jd c).live.bG,aR (jd c).live.key,aR (jd c).live.seed, .own 24,aR (jd c).live.sent, .own 26,aR (jd c).live.next,aR (jd c).saved.id,aR (jd c).saved.bG,aR (jd c).saved.key,aR (jd c).saved.seed, .own 32,aR (jd c).saved.sent, .own 34,aR (jd c).saved.next]]:=by
 refine cu X2 call96 func96 rfl rfl (by decide) ntmps96 (by simp) rfl ?_
 intro zb
 obtain⟨⟨_,⟨hs1,hs2,_,_⟩⟩,_⟩:=Q2 c
 refine av X2 [0,2] rfl (aa ?_)
 have t1:=(xU v c b hcb hb)
 refine aH X2 [] [(800005,⟨true,bA t1⟩),(700005,⟨true, .agg [.ptr 1000 1000]:: .agg [.ptr 24 24, .ptr 26 26, .ptr 32 32, .ptr 34 34]::bB t1⟩)] [0,2,3] [] rfl (by(with_reducible and_intros)<;>first|exact⟨⟩|exact t1|exact rfl) (aa (aa ?_))
 have t1:=(aG v ((eL c).c) 10 b (by rw[Q3];exact hcb) hb)
 refine aH X2 [] [(800007,⟨true,bA t1⟩),(700007,⟨true, .agg [.ptr 1000 1000]:: .agg []::bB t1⟩)] [0,2,3,7] [] rfl (by(with_reducible and_intros)<;>first|exact⟨⟩|exact t1|exact rfl) (aq (av X2 [0,2,3,7,8] rfl ?_))
 refine ak rfl ?_ ?_<;>intro hb0
 ·try simp only[aP]at hb0
  have hX:jd c=⟨fE (mJ c),(eL c).d.saved⟩:=(by unfold jd;simp only[if_pos (show ia c=0 from hb0)])
  have hN:wk c=qc (mJ c):=(by unfold wk;simp only[if_pos (show ia c=0 from hb0)])
  have t1:=(tE v (mJ c) b (by rw[Q4];exact hcb) hb)
  exact aH X2 [] [(800011,⟨true,bA t1⟩),(700011,⟨true, .agg [.ptr 1000 1000]:: .agg [.ptr 24 44, .ptr 26 46]::bB t1⟩)] [2,3] [] rfl (by(with_reducible and_intros)<;>first|exact⟨⟩|exact t1|exact rfl) (bp 44 24 rfl (bp 46 26 rfl (aN X2 [2] rfl (by trivial) (aj (aW rfl (by and_intros<;>first|exact⟨⟩| (first| (simp only[hX,hN,mJ,BS,nx,Jh];done)|with_reducible rfl;done)))))))
 ·try simp only[aP]at hb0
  refine av X2 [0,2,3,7,13] rfl ?_
  refine ak rfl ?_ ?_<;>intro bt
  ·try simp only[aP]at bt
   have hX:jd c=⟨(eL c).d.live,BS (eL c).d.saved (IntKind.i64.wrap ((eL c).d.live.sent+1))⟩:=(by unfold jd;simp only[if_neg (show¬ia c=0 from hb0),if_pos (show ia c=1 from bt)])
   have hN:wk c=mJ c:=(by unfold wk;simp only[if_neg (show¬ia c=0 from hb0),if_pos (show ia c=1 from bt)])
   exact bT X2 [2,3] rfl (aN X2 [2] rfl (by trivial) (aj (aW rfl (by and_intros<;>first|exact⟨⟩| (first| (simp only[hX,hN,mJ,BS,nx,Jh];done)|with_reducible rfl;done)))))
  ·try simp only[aP]at bt
   refine av X2 [0,2,3,7,21] rfl ?_
   refine ak rfl ?_ ?_<;>intro bY
   ·try simp only[aP]at bY
    have hX:jd c=⟨(eL c).d.live,nx (eL c).d.saved (IntKind.i64.wrap ((eL c).d.live.next+aO (mJ c) 3))⟩:=(by unfold jd;simp only[if_neg (show¬ia c=0 from hb0),if_neg (show¬ia c=1 from bt),if_pos (show ia c=2 from bY)])
    have hN:wk c=az (mJ c) 3:=(by unfold wk;simp only[if_neg (show¬ia c=0 from hb0),if_neg (show¬ia c=1 from bt),if_pos (show ia c=2 from bY)])
    have t1:=(aG v (mJ c) 3 b (by rw[Q4];exact hcb) hb)
    exact bM X2 [] [(800027,⟨true,bA t1⟩),(700027,⟨true, .agg [.ptr 1000 1000]:: .agg []::bB t1⟩)] [2,3] [] 239 3 MO (by kernel_rfl) rfl (by kernel_rfl) (by(with_reducible and_intros)<;>first|exact⟨⟩|exact t1|exact rfl) (aN X2 [2] rfl (by trivial) (aj (aW rfl (by and_intros<;>first|exact⟨⟩| (first| (simp only[hX,hN,mJ,BS,nx,Jh];done)|with_reducible rfl;done)))))
   ·try simp only[aP]at bY
    refine av X2 [2,3,31] rfl ?_
    refine ak rfl ?_ ?_<;>intro fj
    ·try simp only[aP]at fj
     have hX:jd c=⟨(eL c).d.live,Jh (eL c).d.saved ((eL c).d.saved.inbox++ [[1]])⟩:=(by unfold jd;simp only[if_neg (show¬ia c=0 from hb0),if_neg (show¬ia c=1 from bt),if_neg (show¬ia c=2 from bY),if_pos (show ia c=3 from fj)])
     have hN:wk c=mJ c:=(by unfold wk;simp only[if_neg (show¬ia c=0 from hb0),if_neg (show¬ia c=1 from bt),if_neg (show¬ia c=2 from bY),if_pos (show ia c=3 from fj)])
     refine aH X2 [(38,34)] [(500037,⟨true,[]⟩)] [2,3] [] rfl (by and_intros<;>first|exact⟨⟩| (intros;omega)|exact rfl| (simp only[b7,maxLen,lens];omega)) ?_
     rw[show(UInt8.ofNat (Int.toNat 1))=1 from rfl]
     exact aN X2 [2] rfl (by trivial) (aj (aW rfl (by and_intros<;>first|exact⟨⟩| (first| (simp only[hX,hN,mJ,BS,nx,Jh];done)|with_reducible rfl;done))))
    ·try simp only[aP]at fj
     have hX:jd c=(eL c).d:=(by unfold jd;simp only[if_neg (show¬ia c=0 from hb0),if_neg (show¬ia c=1 from bt),if_neg (show¬ia c=2 from bY),if_neg (show¬ia c=3 from fj)])
     have hN:wk c=mJ c:=(by unfold wk;simp only[if_neg (show¬ia c=0 from hb0),if_neg (show¬ia c=1 from bt),if_neg (show¬ia c=2 from bY),if_neg (show¬ia c=3 from fj)])
     exact ay (aN X2 [2] rfl (by trivial) (aj (aW rfl (by and_intros<;>first|exact⟨⟩| (first| (simp only[hX,hN,mJ,BS,nx,Jh];done)|with_reducible rfl;done)))))
end
end Go.Proofs.YtkkfjbfkjbljiaaGreatDoor.G
namespace Go.Proofs.YtkkfjbfkjbljiaaGreatDoor.G
set_option linter.all false
open Go.RowKit L D
section
set_option maxRecDepth 100000
def fm{α:Type}(f:Nat→List α)(k:Nat):List α:=(List.range k).flatMap f
theorem sL{α:Type}(f:Nat→List α)(k:Nat):fm f (k+1)=fm f k++f k:=by
 unfold fm;rw[List.range_succ,List.flatMap_append];simp
theorem KQ{α:Type}(f:Nat→List α):fm f 0= []:=rfl
theorem E6{α:Type}{f:Nat→List α}{C K k:Nat}(h: ∀i,(f i).length≤C)(hk:k≤K):(fm f k).length≤K*C:=by
 have: ∀k,(fm f k).length≤k*C:=by
  intro k
  induction k with
  |zero=>simp[fm]
  |succ k ih=>rw[sL,List.length_append,Nat.add_mul];have:=h k;omega
 exact Nat.le_trans (this k) (Nat.mul_le_mul_right C hk)
def ot(c s r:Int):Bool:=inr c 0 8&&cW s&&inr r 1 64
theorem xX{c s r:Int}(h:ot c s r=true):(0≤c∧c≤8)∧(2≤s∧s≤4)∧1≤r∧r≤64:=by
 simp only[ot,cW,Bool.and_eq_true,cP]at h;omega
def mA(r:Int):Int:=if 1≤r∧r≤64 then r*24 else 0
def KR(r:Int)(a:Nat)(k:Nat):List iy:= [⟨(a:Int),100+(k:Int),mA r⟩]
def wT(c s r:Int):List iy:=if ot c s r then fm (fun a=>fm (KR r a) s.toNat) c.toNat else []
def Fb(r:Int)(a:Nat)(b:Nat):List iy:=if a=b then []else [⟨100+(a:Int),100+(b:Int),mA r⟩]
def pT(s r:Int):List iy:=if ot 0 s r then fm (fun a=>fm (Fb r a) s.toNat) s.toNat else []
theorem Rq{r s:Int}(hs:s≤4)(a:Nat){k:Nat}(hk:k≤s.toNat):(fm (KR r a) k).length≤4:=E6 (C:=1) (K:=4) (fun i=>by simp[KR]) (by omega)
theorem Rr{r s:Int}(hs:s≤4){k:Nat}(hk:k≤8):(fm (fun a=>fm (KR r a) s.toNat) k).length≤32:=E6 (C:=4) (K:=8) (fun i=>Rq hs i (Nat.le_refl _)) hk
theorem Rs{r s:Int}(hs:s≤4)(a:Nat){k:Nat}(hk:k≤s.toNat):(fm (Fb r a) k).length≤4:=E6 (C:=1) (K:=4) (fun i=>by unfold Fb;split<;>simp) (by omega)
theorem Rt{r s:Int}(hs:s≤4){k:Nat}(hk:k≤s.toNat):(fm (fun a=>fm (Fb r a) s.toNat) k).length≤16:=E6 (C:=4) (K:=4) (fun i=>Rs hs i (Nat.le_refl _)) (by omega)
theorem Yz(c s r:Int):(wT c s r).length≤32:=by
 unfold wT;split
 ·rename_i h;have:=xX h;exact Rr (by omega) (by omega)
 ·simp
theorem YA(s r:Int):(pT s r).length≤16:=by
 unfold pT;split
 ·rename_i h;have:=xX h;exact Rt (by omega) (Nat.le_refl _)
 ·simp
theorem Hl{E R:Bool}(h:E=true)(he:E=R):R=true:=by rw[←he];exact h
theorem KS{E R:Bool}(h:E=false)(he:E=R):R=false:=by rw[←he];exact h
theorem US{c s r:Int}{k:Nat}(hk:k≤c.toNat)(hks:k=0∨ot c s r=true)(h:(decide ((k:Int)<c)&&ot c s r)=false):fm (fun a=>fm (KR r a) s.toNat) k=wT c s r:=by
 unfold wT
 cases hs:ot c s r with
 |true=>rw[hs,Bool.and_true,decide_eq_false_iff_not]at h;rw[if_pos rfl,show k=c.toNat by omega]
 |false=>
  rw[hs]at hks
  have:k=0:=by simpa using hks
  subst this;rfl
theorem UT{s r:Int}{k:Nat}(hk:k≤s.toNat)(hks:k=0∨ot 0 s r=true)(h:(decide ((k:Int)<s)&&ot 0 s r)=false):fm (fun a=>fm (Fb r a) s.toNat) k=pT s r:=by
 unfold pT
 cases hs:ot 0 s r with
 |true=>rw[hs,Bool.and_true,decide_eq_false_iff_not]at h;rw[if_pos rfl,show k=s.toNat by omega]
 |false=>
  rw[hs]at hks
  have:k=0:=by simpa using hks
  subst this;rfl
end
end Go.Proofs.YtkkfjbfkjbljiaaGreatDoor.G
