/-
  What servers publish, and who is guilty.
-/
import Derived.Lib.AppendZeros
import Derived.Test.YtcnomgcfijjkmaaGreatM10
namespace Go.Proofs.YtcnomgcfijjkmaaGreat.G
set_option linter.all false
open Go.RowKit L D Tryz
section
set_option maxRecDepth 100000
theorem J3{w w':World}{t:Tag}{g n:Nat}{c:Array Value}(hg:g=w.heap.size)(hb:Below w.heap.size w w')(hc:w'.heap[g]? =some (.cells c (ty t) (0,0)))(hs:c.size=n*kk t)(hn:n≤maxLen):
  Ret ty w [.a (.sl t [])] (.returned (.slice (some ⟨g,0,none⟩) 0 n)) w':=by
 have hown:Own w.heap.size w' (g::([]:List (List Nat)).flatten):=⟨by simp,fun b Gr=>by simp at Gr;omega,fun b Gr=>by simp at Gr;subst Gr;exact⟨_,_,hc⟩⟩
 have hB:=lN (eA t) (l:=([]:List (T t))) (bA:= []) (o:=0) (n:=n) hc (by omega) (Nat.zero_le _) hn ⟨rfl,by simp⟩ hown
 exact⟨_,_,rfl,hb,hown,_,[],hB,rfl,by simp⟩
theorem NW{w:World}{t:Tag}:Ret ty w [.a (.sl t [])] (.returned DD) w:=by
 refine⟨_,[],rfl,Below.refl _ _,Own.nil _ _,[],[],⟨[],[],?_,rfl,by simp,rfl,Own.nil _ _⟩,rfl,rfl⟩
 exact⟨by simp,Or.inl ⟨rfl,rfl⟩⟩
theorem SK(w:World)(n:Nat)(h1:n≤1099511627776):Calls Tryz.prog 258 #[DD, .int .i64 n] w (Ret ty w [.a (.sl .int [])]):=by
 have rA:El Tryz.prog ty .int:=bn _ (by decide)
 cases hq:Tryz.prog.info? (ty .int)with
 |none=>simp[El,hq]at rA
 |some inf=>
  simp[El,hq]at rA
  obtain⟨z1,z2,z3⟩:=rA
  by_cases h0:n=0
  ·subst h0
   go_enter func258,ntmps258
   go_wp2
   go_ret
   exact NW
  ·have hsz:inf.size=1:=z2
   have hby:inf.bytes≤8:=by rw[z3];decide
   have hmul:n*inf.bytes≤8796093022208:=Nat.le_trans (Nat.mul_le_mul (show n≤1099511627776 from h1) hby) (by decide)
   have hrun:=Lib.run_append_nil_zeros (P:=Tryz.prog) w 29 3 29 (ty .int) inf (eZ .int) .i64 .i64 (X.kind 29).1 (X.kind 3) hq z1 n (by omega) (by omega) (by omega) (by omega)
   have hge:=grownCap_ge w n 0 (ty .int)
   have LL:=grownCap_le_maxLen w n 0 (ty .int) (by unfold maxLen;omega)
   generalize grownCap w n 0 (ty .int)=g at hrun hge LL
   go_enter func258,ntmps258
   go_wp2_with (at_builtin;refine Lib.wpList_append_run _ rfl _ _ _ _ rfl _ _ rfl rfl _ _ hrun ?_)
   go_ret
   refine J3 (t:= .int) rfl ((Below.refl _ _).drew.alloc (Nat.le_refl _) _) (nu rfl) ?_ LL
   rw[Array.size_append,size_zeroCells,size_zeroCells, ←Nat.add_mul,show n+(g-n)=g by omega]
   rfl
theorem s9(n:Nat)(h1:n≤1099511627776):So 258 [.a (.lit DD), .a (.lit (.int .i64 n))] [.a (.sl .int [])]:=by
 refine⟨fun args w=>call258 args w,fun w us _ ha=> ?_⟩
 match us,ha with
 | [u1,u2],⟨⟨_,e1⟩,⟨_,e2⟩,_⟩=>
   obtain⟨e1,_⟩:=e1
   obtain⟨e2,_⟩:=e2
   rw[e1,e2]
   exact SK w n h1
end
section
set_option maxRecDepth 100000
theorem aM(x lo hi:Int):So 59 [az x,az lo,az hi] [aH (inr x lo hi)]:=by
 refine ay X call59 func59 ntmps59 rfl rfl ?_
 intro zb
 exact aq X [0,1,2] rfl (aq X [6] rfl (aj (af rfl ⟨rfl,⟨⟩⟩)))
theorem bf(x lo hi:Int):So 48 [az x,az lo,az hi] [aH (inr x lo hi)]:=by
 refine ay X call48 func48 ntmps48 rfl rfl ?_
 intro zb
 exact aq X [0,1,2] rfl (aq X [6] rfl (aj (af rfl ⟨rfl,⟨⟩⟩)))
theorem Mk(p q:Int)(h1:1≤q)(h2:q≤1000000000000):So 257 [az p,az q] [az (p % q)]:=by
 refine ay X call257 func257 ntmps257 rfl rfl ?_
 intro zb
 refine aq X [0,1] rfl (aa (aD X [] [(6,⟨false,[aH _]⟩)] [0,1,7] [] rfl (by(with_reducible and_intros)<;>first|exact⟨⟩|exact(aM _ _ _)) ?_))
 refine ah rfl ?_ ?_<;>intro hb0
 ·try simp only[aP]at hb0
  omega
 ·try simp only[aP]at hb0
  exact an (aC X [4] rfl (by and_intros<;>first|exact⟨⟩| (intros;omega)) (aj (af rfl ⟨by rw[md_eq p q h1 h2],⟨⟩⟩)))
theorem uD(l:List Int)(hl:l.length≤16777216):So 199 [.a (.sl .int l)] [az (hsh l)]:=by
 refine ay X call199 func199 ntmps199 rfl rfl ?_
 intro zb
 refine aq X [0] rfl (aq X [0,3] rfl (aa (aq X [3,6,7,8] rfl ?_)))
 refine au (aG (fun k=>k≤l.length) (fun k:Nat=> [(3, .one ((az (hsh (l.take k))))),(8, .one ((az k)))]) (fun k=> []) (fun k=>l.length-k) 0 (fun k=>rfl) (Nat.zero_le _) rfl ?_)
 intro k hk
 refine aq X [3,6,7,8,9] rfl ?_
 refine aa (ah rfl ?_ ?_)<;>intro hb0
 ·try simp only[aP]at hb0
  have hs:=J1 l k hb0
  refine an (aa (au (aC X [3,5,6,7,8] rfl (by and_intros<;>first|exact⟨⟩| (intros;omega)) (aE X [] [(15,⟨false,[az _]⟩)] [3,6,7,8] [] rfl (by(with_reducible and_intros)<;>first|exact⟨⟩|exact(Mk _ _ (by first|assumption|omega| (simp;done)| (simp;omega)) (by first|assumption|omega| (simp;done)| (simp;omega)))| (intros;omega)) (bt X [3,6,7,8] rfl ?_)))))
  refine⟨k+1,by omega,by omega,?_⟩
  rw[bH _ k rfl (by omega),hs]
  try rfl
 ·try simp only[aP]at hb0
  exact aK (aq X [2] rfl (aj (af rfl ⟨by rw[List.take_of_length_le hb0],⟨⟩⟩)))
theorem Ex(p q:Int)(h1:1≤q)(h2:q≤1000000000000):So 286 [az p,az q] [az (p % q)]:=by
 refine ay X call286 func286 ntmps286 rfl rfl ?_
 intro zb
 refine aq X [0,1] rfl (aa (aD X [] [(6,⟨false,[aH _]⟩)] [0,1,7] [] rfl (by(with_reducible and_intros)<;>first|exact⟨⟩|exact(bf _ _ _)) ?_))
 refine ah rfl ?_ ?_<;>intro hb0
 ·try simp only[aP]at hb0
  omega
 ·try simp only[aP]at hb0
  exact an (aC X [4] rfl (by and_intros<;>first|exact⟨⟩| (intros;omega)) (aj (af rfl ⟨by rw[md_eq p q h1 h2],⟨⟩⟩)))
theorem uE(l:List Int)(hl:l.length≤16777216):So 228 [.a (.sl .int l)] [az (hsh l)]:=by
 refine ay X call228 func228 ntmps228 rfl rfl ?_
 intro zb
 refine aq X [0] rfl (aq X [0,3] rfl (aa (aq X [0,3,4] rfl ?_)))
 refine au (aG (fun k=>k≤l.length) (fun k:Nat=> [(3, .one ((az (hsh (l.take k))))),(4, .one ((az k)))]) (fun k=> []) (fun k=>l.length-k) 0 (fun k=>rfl) (Nat.zero_le _) rfl ?_)
 intro k hk
 refine aa (aq X [0,3,4,8] rfl ?_)
 refine ah rfl ?_ ?_<;>intro hb0
 ·try simp only[aP]at hb0
  have hs:=J1 l k hb0
  refine an (aa (au (aE X [] [(17,⟨false,[az _]⟩)] [0,3,4] [] rfl (by(with_reducible and_intros)<;>first|exact⟨⟩|exact(Ex _ _ (by first|assumption|omega| (simp;done)| (simp;omega)) (by first|assumption|omega| (simp;done)| (simp;omega)))| (intros;omega)) (bt X [0,3,4] rfl ?_))))
  refine⟨k+1,by omega,by omega,?_⟩
  rw[bH _ k rfl (by omega),hs]
  try rfl
 ·try simp only[aP]at hb0
  exact aK (aq X [2] rfl (aj (af rfl ⟨by rw[List.take_of_length_le hb0],⟨⟩⟩)))
theorem j9(l:List (List Int))(hl:l.length≤1048576)(hs0:(l.map List.length).sum≤1099511627776):So 200 [.a (.sl (.sl .int) l)] [.a (.sl .int l.flatten)]:=by
 refine ay X call200 func200 ntmps200 rfl rfl ?_
 intro zb
 refine aq X [0] rfl (aq X [0,3] rfl (aa (aq X [0,3,9,10,11] rfl ?_)))
 refine au (aG (fun k=>k≤l.length) (fun k:Nat=> [(3, .one ((az ((l.take k).map List.length).sum))),(11, .one ((az k)))]) (fun k=> []) (fun k=>l.length-k) 0 (fun k=>rfl) (Nat.zero_le _) rfl ?_)
 intro k hk
 have hle:=iy l List.length k
 refine aq X [0,3,9,10,11,12] rfl ?_
 refine aa (ah rfl ?_ ?_)<;>intro hb0
 ·try simp only[aP]at hb0
  have hs:=BU l (aI (.sl .int)) k hb0
  have J7:=iy l List.length (k+1)
  rw[hs]at J7
  refine an (aa (au (aC X [0,3,5,9,10,11] rfl (by and_intros<;>first|exact⟨⟩| (intros;omega)) (aC X [0,3,9,10,11] rfl (by trivial) (aq X [0,3,9,10,11,20] rfl ?_)))))
  refine ah rfl ?_ ?_<;>intro aW
  ·try simp only[aP]at aW
   rw[bV (by omega)]at aW
   omega
  ·try simp only[aP]at aW
   refine an (bt X [0,3,9,10,11] rfl ?_)
   refine⟨k+1,by omega,by omega,?_⟩
   rw[bH _ k rfl (by omega),hs]
   rw[bV (by simp only[Int.toNat_natCast];omega)]
   try rfl
 ·try simp only[aP]at hb0
  rw[List.take_of_length_le hb0]
  refine aK (aD X [] [(24,⟨true,[.a (.sl .int [])]⟩),(300024,⟨true,[]⟩)] [0,6] [] rfl (by(with_reducible and_intros)<;>first|exact⟨⟩|exact(s9 _ hs0)) (aa (aq X [6,25,26,27] rfl ?_)))
  refine au (aG (fun k1=>k1≤l.length) (fun k1:Nat=> [(27, .one ((az k1)))]) (fun k1=> [(24, .arr .int (l.take k1).flatten)]) (fun k1=>l.length-k1) 0 (fun k1=>rfl) (Nat.zero_le _) rfl ?_)
  intro k1 hk1
  have J8:=pz l k1
  refine aq X [6,25,26,27,28] rfl ?_
  refine aa (ah rfl ?_ ?_)<;>intro bz
  ·try simp only[aP]at bz
   have hs1:=zh l (aI (.sl .int)) k1 bz
   have J7:=pz l (k1+1)
   rw[hs1,List.length_append]at J7
   refine an (aa (au (aC X [6,8,25,26,27] rfl (by and_intros<;>first|exact⟨⟩| (intros;omega)) (aE X [(33,24)] [] [6,25,26,27] [] rfl (by and_intros<;>first|exact⟨⟩|exact rfl| (simp only[dO,maxLen,lens];omega)) (bt X [6,25,26,27] rfl ?_)))))
   refine⟨k1+1,by omega,by omega,?_⟩
   rw[bH _ k1 rfl (by omega),hs1]
   try rfl
  ·try simp only[aP]at bz
   exact aK (aq X [2] rfl (aj (af rfl ⟨by rw[List.take_of_length_le bz],⟨⟩⟩)))
theorem bU(k:Int)(l:List Int)(hl:l.length≤1048576):So 123 [az k, .a (.sl .int l)] [az (kh k l)]:=by
 refine ay X call123 func123 ntmps123 rfl rfl ?_
 intro zb
 refine aq X [0,1] rfl (aD X [] [(11,⟨true,[.a (.sl .int [[k],l,[k]].flatten)]⟩),(12,⟨false,[az (hsh [[k],l,[k]].flatten)]⟩)] [4] [] rfl (by(repeat' with_reducible first|exact aL|refine aS ?_ ?_|apply And.intro);(iterate 2 all_goals try first|exact(j9 _ (by simp) (by simp;omega))|exact(uD _ (by simp;omega)));all_goals first|exact rfl|exact⟨rfl,bn _ (by decide)⟩) ?_)
 exact aj (af rfl ⟨rfl,⟨⟩⟩)
theorem bE(k:Int)(l:List Int)(hl:l.length≤1048576):So 166 [az k, .a (.sl .int l)] [az (kh k l)]:=by
 refine ay X call166 func166 ntmps166 rfl rfl ?_
 intro zb
 refine aq X [0,1] rfl (aD X [(8,6),(11,6)] [(12,⟨false,[az (hsh ([k]++l++ [k]))]⟩)] [4] [] rfl (by(repeat' with_reducible first|exact aL|refine aS ?_ ?_|apply And.intro)<;>first|exact(uE _ (by simp;omega))|exact rfl|exact⟨rfl,bn _ (by decide)⟩| (simp only[dO,maxLen,lens];omega)) ?_)
 exact aj (af rfl ⟨rfl,⟨⟩⟩)
theorem rX(n:Int):So 189 [az n] [az (Eu n)]:=by
 refine ay X call189 func189 ntmps189 rfl rfl ?_
 intro zb
 refine aq X [0] rfl (aa (aq X [0,4] rfl ?_))
 refine ah rfl ?_ ?_<;>intro hb0
 ·try simp only[aP]at hb0
  exact aq X [2] rfl (aj (af rfl ⟨by rw[Eu,if_pos hb0],⟨⟩⟩))
 ·try simp only[aP]at hb0
  exact an (aq X [2] rfl (aj (af rfl ⟨by rw[Eu,if_neg (by simpa using hb0)],⟨⟩⟩)))
theorem nS(a b:Int):So 234 [az a,az b] [az (if b>a then b else a)]:=by
 refine ay X call234 func234 ntmps234 rfl rfl ?_
 intro zb
 refine aq X [0,1] rfl (aa (aq X [0,1,7] rfl ?_))
 refine ah rfl ?_ ?_<;>intro hb0
 ·try simp only[aP]at hb0
  exact aq X [4] rfl (aj (af rfl ⟨by rw[if_pos (by omega)],⟨⟩⟩))
 ·try simp only[aP]at hb0
  exact an (aq X [4] rfl (aj (af rfl ⟨by rw[if_neg (by omega)],⟨⟩⟩)))
theorem lQ(s k:Int):So 161 [az s,az k] [az (cs s k)]:=by
 refine ay X call161 func161 ntmps161 rfl rfl ?_
 intro zb
 refine aq X [0,1] rfl (aD X [] [(9,⟨false,[az _]⟩)] [5] [] rfl (by(repeat' with_reducible first|exact aL|refine aS ?_ ?_|apply And.intro)<;>first|exact(bU _ _ (by first|assumption|omega| (simp;done)| (simp;omega)))|exact⟨rfl,bn _ (by decide)⟩) ?_)
 exact aC X [4] rfl (by and_intros<;>first|exact⟨⟩| (intros;omega)) (aj (af rfl ⟨by rw[cs_eq (dS _ _).1 (dS _ _).2];rfl,⟨⟩⟩))
theorem jR(s n:Int)(h0:0≤n)(h1:n≤400):So 224 [az s,az n] [.a (.sl .u8 (stream s n.toNat))]:=by
 refine ay X call224 func224 ntmps224 rfl rfl ?_
 intro zb
 refine aq X [0,1] rfl (aa (aD X [] [(8,⟨false,[aH _]⟩)] [0,1,9] [] rfl (by(with_reducible and_intros)<;>first|exact⟨⟩|exact(aM _ _ _)) ?_))
 refine ah rfl ?_ ?_<;>intro hb0
 ·try simp only[aP]at hb0
  omega
 ·try simp only[aP]at hb0
  refine an (aC X [0,1,5] rfl (by and_intros<;>first|exact⟨⟩|exact rfl) (aa (aq X [0,5,11,12] rfl ?_)))
  refine au (aG (fun k=>k≤n.toNat) (fun k:Nat=> [(12, .one ((az k)))]) (fun k=> [(10, .arr .u8 (stream s k))]) (fun k=>n.toNat-k) 0 (fun k=>rfl) (Nat.zero_le _) rfl ?_)
  intro k hk
  have hle:=fB s k
  refine aq X [0,5,11,12,13] rfl ?_
  refine aa (ah rfl ?_ ?_)<;>intro aW
  ·try simp only[aP]at aW
   have hs:=BT s k (by omega)
   refine an (aa (au (aq X [0,5,6,11,12] rfl (aE X [(23,10)] [(19,⟨false,[az _]⟩)] [0,5,11,12] [] rfl (by(repeat' with_reducible first|exact aL|refine aS ?_ ?_|apply And.intro)<;>first|exact(lQ _ _)| (intros;omega)|exact rfl|exact⟨rfl,bn _ (by decide)⟩|exact(rV _).1|exact(rV _).2| (simp only[dO,maxLen,lens];omega)) ?_))))
   refine bt X [0,5,11,12] rfl ?_
   refine⟨k+1,by omega,by omega,?_⟩
   rw[bH _ k rfl (by omega),hs]
   try rfl
  ·try simp only[aP]at aW
   exact aK (aq X [4] rfl (aj (af rfl ⟨by rw[show k=n.toNat by omega],⟨⟩⟩)))
theorem nT(l:List UInt8)(hl:l.length≤1048576):So 294 [.a (.sl .u8 l)] [.a (.sl .int (FI l))]:=by
 refine ay X call294 func294 ntmps294 rfl rfl ?_
 intro zb
 refine aq X [0] rfl (aC X [0,3] rfl (by and_intros<;>first|exact⟨⟩|exact rfl) (aa (aq X [3,9,10,11] rfl ?_)))
 refine au (aG (fun k=>k≤l.length) (fun k:Nat=> [(11, .one ((az k)))]) (fun k=> [(8, .arr .int ((l.length:Int)::(l.take k).map (fun c=>(c.toNat:Int))))]) (fun k=>l.length-k) 0 (fun k=>rfl) (Nat.zero_le _) rfl ?_)
 intro k hk
 refine aq X [3,9,10,11,12] rfl ?_
 refine aa (ah rfl ?_ ?_)<;>intro hb0
 ·try simp only[aP]at hb0
  have hs:=J2 l k hb0
  refine an (aa (au (aC X [3,5,9,10,11] rfl (by and_intros<;>first|exact⟨⟩| (intros;omega)) (aE X [(19,8)] [] [3,9,10,11] [] rfl (by and_intros<;>first|exact⟨⟩|exact rfl| (simp only[dO,maxLen,lens];omega)) (bt X [3,9,10,11] rfl ?_)))))
  refine⟨k+1,by omega,by omega,?_⟩
  rw[bH _ k rfl (by omega),hs]
  try rfl
 ·try simp only[aP]at hb0
  exact aK (aq X [2] rfl (aj (af rfl ⟨by rw[List.take_of_length_le hb0];rfl,⟨⟩⟩)))
theorem lR(s k:Int):So 165 [az s,az k] [az (cs s k)]:=by
 refine ay X call165 func165 ntmps165 rfl rfl ?_
 intro zb
 refine aq X [0,1] rfl (aD X [] [(9,⟨false,[az _]⟩)] [5] [] rfl (by(repeat' with_reducible first|exact aL|refine aS ?_ ?_|apply And.intro)<;>first|exact(bE _ _ (by first|assumption|omega| (simp;done)| (simp;omega)))|exact⟨rfl,bn _ (by decide)⟩) ?_)
 exact aC X [4] rfl (by and_intros<;>first|exact⟨⟩| (intros;omega)) (aj (af rfl ⟨by rw[cs_eq (dS _ _).1 (dS _ _).2];rfl,⟨⟩⟩))
theorem jS(s n:Int)(h0:0≤n)(h1:n≤400):So 230 [az s,az n] [.a (.sl .u8 (stream s n.toNat))]:=by
 refine ay X call230 func230 ntmps230 rfl rfl ?_
 intro zb
 refine aq X [0,1] rfl (aC X [0,1,5] rfl (by and_intros<;>first|exact⟨⟩|exact rfl) (aa (aq X [0,1,5,6] rfl ?_)))
 refine au (aG (fun k=>k≤n.toNat) (fun k:Nat=> [(6, .one ((az k)))]) (fun k=> [(7, .arr .u8 (stream s k))]) (fun k=>n.toNat-k) 0 (fun k=>rfl) (Nat.zero_le _) rfl ?_)
 intro k hk
 have hle:=fB s k
 refine aa (aq X [0,1,5,6,14] rfl ?_)
 refine ah rfl ?_ ?_<;>intro hb0
 ·try simp only[aP]at hb0
  have hs:=BT s k (by omega)
  refine an (aa (au (aE X [(25,7)] [(21,⟨false,[az _]⟩)] [0,1,5,6] [] rfl (by(repeat' with_reducible first|exact aL|refine aS ?_ ?_|apply And.intro)<;>first|exact(lR _ _)| (intros;omega)|exact rfl|exact⟨rfl,bn _ (by decide)⟩|exact(rV _).1|exact(rV _).2| (simp only[dO,maxLen,lens];omega)) ?_)))
  refine bt X [0,1,5,6] rfl ?_
  refine⟨k+1,by omega,by omega,?_⟩
  rw[bH _ k rfl (by omega),hs]
  try rfl
 ·try simp only[aP]at hb0
  exact aK (aq X [4] rfl (aj (af rfl ⟨by rw[show k=n.toNat by omega],⟨⟩⟩)))
theorem nU(l:List UInt8)(hl:l.length≤1048576):So 332 [.a (.sl .u8 l)] [.a (.sl .int (FI l))]:=by
 refine ay X call332 func332 ntmps332 rfl rfl ?_
 intro zb
 refine aq X [0] rfl (aC X [0,3] rfl (by and_intros<;>first|exact⟨⟩|exact rfl) (aa (aq X [0,3,4] rfl ?_)))
 refine au (aG (fun k=>k≤l.length) (fun k:Nat=> [(4, .one ((az k)))]) (fun k=> [(7, .arr .int ((l.length:Int)::(l.take k).map (fun c=>(c.toNat:Int))))]) (fun k=>l.length-k) 0 (fun k=>rfl) (Nat.zero_le _) rfl ?_)
 intro k hk
 refine aa (aq X [0,3,4,11] rfl ?_)
 refine ah rfl ?_ ?_<;>intro hb0
 ·try simp only[aP]at hb0
  have hs:=J2 l k hb0
  refine an (aa (au (aE X [(21,7)] [] [0,3,4] [] rfl (by and_intros<;>first|exact⟨⟩| (intros;omega)|exact rfl| (simp only[dO,maxLen,lens];omega)) (bt X [0,3,4] rfl ?_))))
  refine⟨k+1,by omega,by omega,?_⟩
  rw[bH _ k rfl (by omega),hs]
  try rfl
 ·try simp only[aP]at hb0
  exact aK (aq X [2] rfl (aj (af rfl ⟨by rw[List.take_of_length_le hb0];rfl,⟨⟩⟩)))
end
section
set_option maxRecDepth 100000
theorem gD(l:List Int)(hl:l.length≤4194304):So 109 [.a (.sl .int l)] [.a (.sl .int l)]:=by
 refine ay X call109 func109 ntmps109 rfl rfl ?_
 intro zb
 refine aq X [0] rfl (aa (aa (J6 X [] [] [0,4] rfl (by trivial) (fun hn1=> ?_) ?_)))
 ·refine ah rfl (fun _=> ?_) (fun hb=>absurd hb (by decide))
  exact aq X [2] rfl (aj (af rfl ⟨hn1,⟨⟩⟩))
 ·exact ah rfl (fun hb=>absurd hb (by decide)) (fun _=>(an (aD X [(7,5)] [] [2] [] rfl (by and_intros<;>first|exact⟨⟩|exact rfl| (simp only[dO,maxLen,lens];omega)) (aj (af rfl ⟨rfl,⟨⟩⟩)))))
theorem cD(l:List UInt8)(hl:l.length≤1048576):So 160 [.a (.sl .u8 l)] [.a (.sl .u8 l)]:=by
 refine ay X call160 func160 ntmps160 rfl rfl ?_
 intro zb
 refine aq X [0] rfl (aa (aa (J6 X [] [] [0,4] rfl (by trivial) (fun hn1=> ?_) ?_)))
 ·refine ah rfl (fun _=> ?_) (fun hb=>absurd hb (by decide))
  exact aq X [2] rfl (aj (af rfl ⟨hn1,⟨⟩⟩))
 ·exact ah rfl (fun hb=>absurd hb (by decide)) (fun _=>(an (aD X [(7,5)] [] [2] [] rfl (by and_intros<;>first|exact⟨⟩|exact rfl| (simp only[dO,maxLen,lens];omega)) (aj (af rfl ⟨rfl,⟨⟩⟩)))))
theorem jH(a b:List UInt8)(ha:a.length≤1048576)(hb:b.length≤1048576):So 251 [.a (.sl .u8 a), .a (.sl .u8 b)] [.a (.sl .u8 (eG a b))]:=by
 refine ay X call251 func251 ntmps251 rfl rfl ?_
 intro zb
 refine aq X [0,1] rfl (aa (aq X [0,1,12] rfl ?_))
 refine ah rfl ?_ ?_<;>intro hb0
 ·try simp only[aP]at hb0
  rw[GC a b]
  have SO:a.length≤b.length:=by omega
  obtain⟨p,hp⟩: ∃p,p=b:=⟨_,rfl⟩
  obtain⟨q,hq⟩: ∃q,q=a:=⟨_,rfl⟩
  subst hp;subst hq
  refine bt X [0,1] rfl (aD X [] [(16,⟨true,[.a (.sl .u8 _)]⟩)] [1,5] [] rfl (by(with_reducible and_intros)<;>first|exact⟨⟩|exact(cD _ (by first|assumption|omega| (simp;done)| (simp;omega)))) (aa (aq X [5,17,18,19] rfl ?_)))
  refine au (aG (fun k=>k≤q.length) (fun k:Nat=> [(19, .one ((az k)))]) (fun k=> [(16, .arr .u8 ((eG p q).take k++p.drop k))]) (fun k=>q.length-k) 0 (fun k=>rfl) (Nat.zero_le _) rfl ?_)
  intro k hk
  have hle:=kL (eG p q) p k (by rw[dU];omega) (by omega)
  refine aq X [5,17,18,19,20] rfl ?_
  refine aa (ah rfl ?_ ?_)<;>intro aW
  ·try simp only[aP]at aW
   have hs:=Kb p q k aW SO
   refine an (aa (au (aC X [5,6,7,17,18,19] rfl (by and_intros<;>first|exact⟨⟩| (intros;omega)) (eO X [5,17,18,19] rfl (by and_intros<;>first|exact⟨⟩| (intros;omega)|exact(rV _).1|exact(rV _).2) (bt X [5,17,18,19] rfl ?_)))))
   refine⟨k+1,by omega,by omega,?_⟩
   rw[bH _ k rfl (by omega),hs]
   try rfl
  ·try simp only[aP]at aW
   exact aK (aq X [4] rfl (aj (af rfl ⟨by rw[Kc p q k aW SO hk],⟨⟩⟩)))
 ·try simp only[aP]at hb0
  have SO:b.length≤a.length:=by omega
  obtain⟨p,hp⟩: ∃p,p=a:=⟨_,rfl⟩
  obtain⟨q,hq⟩: ∃q,q=b:=⟨_,rfl⟩
  subst hp;subst hq
  refine an (aD X [] [(16,⟨true,[.a (.sl .u8 _)]⟩)] [1,5] [] rfl (by(with_reducible and_intros)<;>first|exact⟨⟩|exact(cD _ (by first|assumption|omega| (simp;done)| (simp;omega)))) (aa (aq X [5,17,18,19] rfl ?_)))
  refine au (aG (fun k=>k≤q.length) (fun k:Nat=> [(19, .one ((az k)))]) (fun k=> [(16, .arr .u8 ((eG p q).take k++p.drop k))]) (fun k=>q.length-k) 0 (fun k=>rfl) (Nat.zero_le _) rfl ?_)
  intro k hk
  have hle:=kL (eG p q) p k (by rw[dU];omega) (by omega)
  refine aq X [5,17,18,19,20] rfl ?_
  refine aa (ah rfl ?_ ?_)<;>intro aW
  ·try simp only[aP]at aW
   have hs:=Kb p q k aW SO
   refine an (aa (au (aC X [5,6,7,17,18,19] rfl (by and_intros<;>first|exact⟨⟩| (intros;omega)) (eO X [5,17,18,19] rfl (by and_intros<;>first|exact⟨⟩| (intros;omega)|exact(rV _).1|exact(rV _).2) (bt X [5,17,18,19] rfl ?_)))))
   refine⟨k+1,by omega,by omega,?_⟩
   rw[bH _ k rfl (by omega),hs]
   try rfl
  ·try simp only[aP]at aW
   exact aK (aq X [4] rfl (aj (af rfl ⟨by rw[Kc p q k aW SO hk],⟨⟩⟩)))
theorem jI(a b:List UInt8)(ha:a.length≤1048576)(hb:b.length≤1048576):So 327 [.a (.sl .u8 a), .a (.sl .u8 b)] [.a (.sl .u8 (eG a b))]:=by
 refine ay X call327 func327 ntmps327 rfl rfl ?_
 intro zb
 refine aq X [0,1] rfl (aC X [0,1,5] rfl (by and_intros<;>first|exact⟨⟩|exact rfl) (aa (aq X [0,1,5,6] rfl ?_)))
 refine au (aG (fun k=>k≤max a.length b.length) (fun k:Nat=> [(6, .one ((az k)))]) (fun k=> [(8, .arr .u8 ((eG a b).take k))]) (fun k=>max a.length b.length-k) 0 (fun k=>rfl) (Nat.zero_le _) rfl ?_)
 intro k hk
 have hle:=bD (eG a b) k
 refine aa (aq X [0,1,5,6,18] rfl ?_)
 refine ah rfl ?_ ?_<;>intro hb0
 ·try simp only[aP]at hb0
  refine an (aa (au (aq X [0,1,5,6,7] rfl (aa (aq X [0,1,5,6,7,24] rfl ?_)))))
  refine ah rfl ?_ ?_<;>intro aW
  ·try simp only[aP]at aW
   refine eO X [0,1,5,6,7] rfl (by and_intros<;>first|exact⟨⟩| (intros;omega)) (aa (aq X [0,1,5,6,7,32] rfl ?_))
   refine ah rfl ?_ ?_<;>intro bz
   ·try simp only[aP]at bz
    have hs:=ZR a b k aW bz
    refine eO X [0,1,5,6,7] rfl (by and_intros<;>first|exact⟨⟩| (intros;omega)) (aE X [(42,8)] [] [0,1,5,6] [] rfl (by and_intros<;>first|exact⟨⟩|exact rfl|exact(rV _).1|exact(rV _).2| (simp only[dO,maxLen,lens];omega)) (bt X [0,1,5,6] rfl ?_))
    refine⟨k+1,by omega,by omega,?_⟩
    rw[bH _ k rfl (by omega),hs]
    try rfl
   ·try simp only[aP]at bz
    have hs:=acq a b k aW bz
    refine an (aE X [(42,8)] [] [0,1,5,6] [] rfl (by and_intros<;>first|exact⟨⟩| (intros;omega)|exact rfl|exact(u8n _).2| (simp only[dO,maxLen,lens];omega)) (bt X [0,1,5,6] rfl ?_))
    refine⟨k+1,by omega,by omega,?_⟩
    rw[bH _ k rfl (by omega),hs]
    try rfl
  ·try simp only[aP]at aW
   refine an (aa (aq X [0,1,5,6,7,32] rfl ?_))
   refine ah rfl ?_ ?_<;>intro bz
   ·try simp only[aP]at bz
    have hs:=acr a b k aW bz
    refine eO X [0,1,5,6,7] rfl (by and_intros<;>first|exact⟨⟩| (intros;omega)) (aE X [(42,8)] [] [0,1,5,6] [] rfl (by and_intros<;>first|exact⟨⟩|exact rfl|exact(rV _).1|exact(rV _).2| (simp only[dO,maxLen,lens];omega)) (bt X [0,1,5,6] rfl ?_))
    refine⟨k+1,by omega,by omega,?_⟩
    rw[bH _ k rfl (by omega),hs]
    try rfl
   ·try simp only[aP]at bz
    omega
 ·try simp only[aP]at hb0
  exact aK (aq X [4] rfl (aj (af rfl ⟨by rw[List.take_of_length_le (by rw[dU];omega)],⟨⟩⟩)))
theorem lS(l:List (List UInt8))(hs0:dL List.length l≤1048576):So 243 [.a (.sl (.sl .u8) l)] [.a (.sl (.sl .u8) l)]:=by
 refine ay X call243 func243 ntmps243 rfl rfl ?_
 intro zb
 have j0:l.length≤1048576:=ec hs0
 refine aq X [0] rfl (aC X [0,3] rfl (by and_intros<;>first|exact⟨⟩|exact rfl) (aa (aq X [3,7,8,9] rfl ?_)))
 refine au (aG (fun k=>k≤l.length) (fun k:Nat=> [(9, .one ((az k)))]) (fun k=> [(6, .arr (.sl .u8) (l.take k))]) (fun k=>l.length-k) 0 (fun k=>rfl) (Nat.zero_le _) rfl ?_)
 intro k hk
 have hle:=bD l k
 refine aq X [3,7,8,9,10] rfl ?_
 refine aa (ah rfl ?_ ?_)<;>intro hb0
 ·try simp only[aP]at hb0
  have hs:=bL l k (aI (.sl .u8)) hb0
  have hel:=SN hs0 k hb0
  refine an (aa (au (aC X [3,5,7,8,9] rfl (by and_intros<;>first|exact⟨⟩| (intros;omega)) (aE X [(17,6)] [(15,⟨true,[.a (.sl .u8 _)]⟩)] [3,7,8,9] [] rfl (by(with_reducible and_intros)<;>first|exact⟨⟩|exact(cD _ (by first|assumption|omega| (simp;done)| (simp;omega)))|exact rfl| (simp only[dO,maxLen,lens];omega)) (bt X [3,7,8,9] rfl ?_)))))
  refine⟨k+1,by omega,by omega,?_⟩
  rw[bH _ k rfl (by omega),hs]
  try rfl
 ·try simp only[aP]at hb0
  exact aK (aq X [2] rfl (aj (af rfl ⟨by rw[List.take_of_length_le hb0],⟨⟩⟩)))
theorem qc(l:List (List UInt8))(hs0:dL List.length l≤1048576):So 264 [.a (.sl (.sl .u8) l)] [.a (.sl (.sl .u8) l)]:=by
 refine ay X call264 func264 ntmps264 rfl rfl ?_
 intro zb
 have j0:l.length≤1048576:=ec hs0
 refine aq X [0] rfl (aC X [0,3] rfl (by and_intros<;>first|exact⟨⟩|exact rfl) (aa (aq X [0,3,4] rfl ?_)))
 refine au (aG (fun k=>k≤l.length) (fun k:Nat=> [(4, .one ((az k)))]) (fun k=> [(5, .arr (.sl .u8) (l.take k))]) (fun k=>l.length-k) 0 (fun k=>rfl) (Nat.zero_le _) rfl ?_)
 intro k hk
 have hle:=bD l k
 refine aa (aq X [0,3,4,9] rfl ?_)
 refine ah rfl ?_ ?_<;>intro hb0
 ·try simp only[aP]at hb0
  have hs:=bL l k (aI (.sl .u8)) hb0
  have hel:=SN hs0 k hb0
  refine an (aa (au (aE X [(18,13),(20,5)] [] [0,3,4] [] rfl (by and_intros<;>first|exact⟨⟩| (intros;omega)|exact rfl| (simp only[dO,maxLen,lens];omega)) (bt X [0,3,4] rfl ?_))))
  refine⟨k+1,by omega,by omega,?_⟩
  rw[bH _ k rfl (by omega),hs]
  try rfl
 ·try simp only[aP]at hb0
  exact aK (aq X [2] rfl (aj (af rfl ⟨by rw[List.take_of_length_le hb0],⟨⟩⟩)))
theorem Ey(s:Int)(l:List UInt8)(hl:l.length≤1048576):So 225 [az s, .a (.sl .u8 l)] [.a (.sl .u8 (mO s l))]:=by
 refine ay X call225 func225 ntmps225 rfl rfl ?_
 intro zb
 refine aq X [0,1] rfl (aD X [] [(8,⟨true,[.a (.sl .u8 _)]⟩)] [0,5] [] rfl (by(with_reducible and_intros)<;>first|exact⟨⟩|exact(cD _ (by first|assumption|omega| (simp;done)| (simp;omega)))) (aa (aq X [0,5,10,11] rfl ?_)))
 refine au (aG (fun k=>k≤l.length) (fun k:Nat=> [(11, .one ((az k)))]) (fun k=> [(8, .arr .u8 ((mO s l).take k++l.drop k))]) (fun k=>l.length-k) 0 (fun k=>rfl) (Nat.zero_le _) rfl ?_)
 intro k hk
 have hle:=kL (mO s l) l k (jA s l) hk
 refine aq X [0,5,10,11,12] rfl ?_
 refine aa (ah rfl ?_ ?_)<;>intro hb0
 ·try simp only[aP]at hb0
  have hs:=PV s l k hb0
  refine an (aa (au (aq X [0,5,6,10,11] rfl (bZ X [] [(21,⟨false,[az _]⟩)] [0,5,10,11] [] 12 MO (by kernel_rfl) rfl (by(repeat' with_reducible first|exact aL|refine aS ?_ ?_|apply And.intro)<;>first|exact(bU _ _ (by first|assumption|omega| (simp;done)| (simp;omega)))| (intros;omega)|exact⟨rfl,bn _ (by decide)⟩|exact(rV _).1|exact(rV _).2) ?_))))
  refine bt X [0,5,10,11] rfl ?_
  refine⟨k+1,by omega,by omega,?_⟩
  rw[bH _ k rfl (by omega),hs]
  try rfl
 ·try simp only[aP]at hb0
  exact aK (aq X [4] rfl (aj (af rfl ⟨by rw[nh _ _ _ (jA s l) hb0],⟨⟩⟩)))
theorem Ez(s:Int)(l:List UInt8)(hl:l.length≤1048576):So 297 [az s, .a (.sl .u8 l)] [.a (.sl .u8 (decr s l))]:=by
 refine ay X call297 func297 ntmps297 rfl rfl ?_
 intro zb
 refine aq X [0,1] rfl (aD X [] [(8,⟨true,[.a (.sl .u8 _)]⟩)] [0,5] [] rfl (by(with_reducible and_intros)<;>first|exact⟨⟩|exact(cD _ (by first|assumption|omega| (simp;done)| (simp;omega)))) (aa (aq X [0,5,10,11] rfl ?_)))
 refine au (aG (fun k=>k≤l.length) (fun k:Nat=> [(11, .one ((az k)))]) (fun k=> [(8, .arr .u8 ((decr s l).take k++l.drop k))]) (fun k=>l.length-k) 0 (fun k=>rfl) (Nat.zero_le _) rfl ?_)
 intro k hk
 have hle:=kL (decr s l) l k (nV s l) hk
 refine aq X [0,5,10,11,12] rfl ?_
 refine aa (ah rfl ?_ ?_)<;>intro hb0
 ·try simp only[aP]at hb0
  have hs:=PX s l k hb0
  refine an (aa (au (aq X [0,5,6,10,11] rfl (bZ X [] [(21,⟨false,[az _]⟩)] [0,5,10,11] [] 12 MO (by kernel_rfl) rfl (by(repeat' with_reducible first|exact aL|refine aS ?_ ?_|apply And.intro)<;>first|exact(bU _ _ (by first|assumption|omega| (simp;done)| (simp;omega)))| (intros;omega)|exact⟨rfl,bn _ (by decide)⟩|exact(rV _).1|exact(rV _).2) ?_))))
  refine bt X [0,5,10,11] rfl ?_
  refine⟨k+1,by omega,by omega,?_⟩
  rw[bH _ k rfl (by omega),hs]
  try rfl
 ·try simp only[aP]at hb0
  exact aK (aq X [4] rfl (aj (af rfl ⟨by rw[nh _ _ _ (nV s l) hb0],⟨⟩⟩)))
theorem hJ(k:Int):So 63 [az k] [aH (fK k)]:=by
 refine ay X call63 func63 ntmps63 rfl rfl ?_
 intro zb
 exact aq X [0] rfl (aD X [] [(4,⟨false,[aH _]⟩)] [2] [] rfl (by(with_reducible and_intros)<;>first|exact⟨⟩|exact(aM _ _ _)) (aj (af rfl ⟨rfl,⟨⟩⟩)))
theorem mV(p:Plain):So 223 [.agg (iS p)] [aH (jG p)]:=by
 refine ay X call223 func223 ntmps223 rfl rfl ?_
 intro zb
 exact aq X [1] rfl (aD X [] [(5,⟨false,[aH _]⟩)] [2] [] rfl (by(with_reducible and_intros)<;>first|exact⟨⟩|exact(aM _ _ _)) (aj (af rfl ⟨by unfold jG;cases inr p.kind 0 3<;>rfl,⟨⟩⟩)))
theorem AR(key c:Int)(l:List UInt8)(hl:l.length≤65536):So 285 [az key,az c, .a (.sl .u8 l)] [az (nW key c l)]:=by
 refine ay X call285 func285 ntmps285 rfl rfl ?_
 intro zb
 refine aq X [0,1,2] rfl (aC X [0,2,7] rfl (by and_intros<;>first|exact⟨⟩|exact rfl) (aa (aq X [0,7,12,13,14] rfl ?_)))
 refine au (aG (fun k=>k≤l.length) (fun k:Nat=> [(14, .one ((az k)))]) (fun k=> [(11, .arr .int ([71,c]++(l.take k).map (fun x=>(x.toNat:Int))))]) (fun k=>l.length-k) 0 (fun k=>rfl) (Nat.zero_le _) rfl ?_)
 intro k hk
 refine aq X [0,7,12,13,14,15] rfl ?_
 refine aa (ah rfl ?_ ?_)<;>intro hb0
 ·try simp only[aP]at hb0
  have hs:=N0 l c k hb0
  refine an (aa (au (aC X [0,7,9,12,13,14] rfl (by and_intros<;>first|exact⟨⟩| (intros;omega)) (aE X [(22,11)] [] [0,7,12,13,14] [] rfl (by and_intros<;>first|exact⟨⟩|exact rfl| (simp only[dO,maxLen,lens];omega)) (bt X [0,7,12,13,14] rfl ?_)))))
  refine⟨k+1,by omega,by omega,?_⟩
  rw[bH _ k rfl (by omega),hs]
  try rfl
 ·try simp only[aP]at hb0
  exact aK (aD X [] [(26,⟨false,[az _]⟩)] [6] [] rfl (by(with_reducible and_intros)<;>first|exact⟨⟩|exact(bU _ _ (by first|assumption|omega| (simp;done)| (simp;omega)))) (aj (af rfl ⟨by rw[List.take_of_length_le hb0];rfl,⟨⟩⟩)))
theorem kM(key r d n:Int):So 94 [az key,az r,az d,az n] [az (iX key r d n)]:=by
 refine ay X call94 func94 ntmps94 rfl rfl ?_
 intro zb
 refine aq X [0,1,2,3] rfl (aa (aD X [] [(10,⟨false,[aH _]⟩),(14,⟨false,[aH _]⟩)] [0,1,2,3,16] [] rfl (by(with_reducible and_intros)<;>first|exact⟨⟩|exact(aM _ _ _)|exact fun _=>(aM _ _ _)) ?_))
 refine ah rfl ?_ ?_<;>intro hb0
 ·try simp only[aP]at hb0
  exact aq X [8] rfl (aj (af rfl ⟨by rw[iX,if_neg (by omega)],⟨⟩⟩))
 ·try simp only[aP]at hb0
  have hcs:=uB (kh key [79,r,d]) 0
  refine an (aD X [] [(21,⟨false,[az _]⟩),(22,⟨false,[az _]⟩)] [8] [] rfl (by(repeat' with_reducible first|exact aL|refine aS ?_ ?_|apply And.intro);(iterate 2 all_goals try first|exact(bU _ _ (by first|assumption|omega| (simp;done)| (simp;omega)))|exact(lQ _ _));all_goals first| (intros;omega)|exact⟨rfl,bn _ (by decide)⟩) ?_)
  exact aj (af rfl ⟨by rw[iX,if_pos (by omega),ep hcs.1],⟨⟩⟩)
theorem Ch(s r n:Int):So 244 [az s,az r,az n] [az (Cg s r n)]:=by
 refine ay X call244 func244 ntmps244 rfl rfl ?_
 intro zb
 refine aq X [0,1,2] rfl (aa (aD X [] [(8,⟨false,[aH _]⟩)] [0,1,2,9] [] rfl (by(with_reducible and_intros)<;>first|exact⟨⟩|exact(aM _ _ _)) ?_))
 refine ah rfl ?_ ?_<;>intro hb0
 ·try simp only[aP]at hb0
  exact aq X [6] rfl (aj (af rfl ⟨by rw[Cg,if_neg (by omega)],⟨⟩⟩))
 ·try simp only[aP]at hb0
  have hcs:=uB (kh s [157,r]) 0
  refine an (aD X [] [(13,⟨false,[az _]⟩),(14,⟨false,[az _]⟩)] [6] [] rfl (by(repeat' with_reducible first|exact aL|refine aS ?_ ?_|apply And.intro);(iterate 2 all_goals try first|exact(bU _ _ (by first|assumption|omega| (simp;done)| (simp;omega)))|exact(lQ _ _));all_goals first| (intros;omega)|exact⟨rfl,bn _ (by decide)⟩) ?_)
  exact aj (af rfl ⟨by rw[Cg,if_pos (by omega),ep hcs.1],⟨⟩⟩)
theorem AS(s:Int):So 245 [az s] [.a (.sl .u8 (cover s))]:=by
 refine ay X call245 func245 ntmps245 rfl rfl ?_
 intro zb
 refine aq X [0] rfl (aD X [] [(5,⟨false,[az _]⟩),(6,⟨true,[.a (.sl .u8 _)]⟩)] [2] [] rfl (by(repeat' with_reducible first|exact aL|refine aS ?_ ?_|apply And.intro);(iterate 2 all_goals try first|exact(bU _ _ (by first|assumption|omega| (simp;done)| (simp;omega)))|exact(jR _ _ (by first|assumption|omega| (simp;done)| (simp;omega)) (by first|assumption|omega| (simp;done)| (simp;omega))));all_goals first|exact⟨rfl,bn _ (by decide)⟩) ?_)
 exact aj (af rfl ⟨rfl,⟨⟩⟩)
theorem EA(s:Int)(l:List UInt8)(hl:l.length≤1048576):So 231 [az s, .a (.sl .u8 l)] [.a (.sl .u8 (mO s l))]:=by
 refine ay X call231 func231 ntmps231 rfl rfl ?_
 intro zb
 refine aq X [0,1] rfl (aC X [0,1,5] rfl (by and_intros<;>first|exact⟨⟩|exact rfl) (aa (aq X [0,1,5,6] rfl ?_)))
 refine au (aG (fun k=>k≤l.length) (fun k:Nat=> [(6, .one ((az k)))]) (fun k=> [(7, .arr .u8 ((mO s l).take k))]) (fun k=>l.length-k) 0 (fun k=>rfl) (Nat.zero_le _) rfl ?_)
 intro k hk
 have hle:=bD (mO s l) k
 refine aa (aq X [0,1,5,6,11] rfl ?_)
 refine ah rfl ?_ ?_<;>intro hb0
 ·try simp only[aP]at hb0
  have hs:=PW s l k hb0
  refine an (aa (au (bZ X [(29,7)] [(23,⟨false,[az _]⟩)] [0,1,5,6] [] 15 MO (by kernel_rfl) rfl (by(repeat' with_reducible first|exact aL|refine aS ?_ ?_|apply And.intro)<;>first|exact(bE _ _ (by first|assumption|omega| (simp;done)| (simp;omega)))| (intros;omega)|exact rfl|exact⟨rfl,bn _ (by decide)⟩|exact(rV _).1|exact(rV _).2| (simp only[dO,maxLen,lens];omega)) ?_)))
  refine bt X [0,1,5,6] rfl ?_
  refine⟨k+1,by omega,by omega,?_⟩
  rw[bH _ k rfl (by omega),hs]
  try rfl
 ·try simp only[aP]at hb0
  exact aK (aq X [4] rfl (aj (af rfl ⟨by rw[List.take_of_length_le (by rw[jA];exact hb0)],⟨⟩⟩)))
theorem EB(s:Int)(l:List UInt8)(hl:l.length≤1048576):So 336 [az s, .a (.sl .u8 l)] [.a (.sl .u8 (decr s l))]:=by
 refine ay X call336 func336 ntmps336 rfl rfl ?_
 intro zb
 refine aq X [0,1] rfl (aC X [0,1,5] rfl (by and_intros<;>first|exact⟨⟩|exact rfl) (aa (aq X [0,1,5,6] rfl ?_)))
 refine au (aG (fun k=>k≤l.length) (fun k:Nat=> [(6, .one ((az k)))]) (fun k=> [(7, .arr .u8 ((decr s l).take k))]) (fun k=>l.length-k) 0 (fun k=>rfl) (Nat.zero_le _) rfl ?_)
 intro k hk
 have hle:=bD (decr s l) k
 refine aa (aq X [0,1,5,6,11] rfl ?_)
 refine ah rfl ?_ ?_<;>intro hb0
 ·try simp only[aP]at hb0
  have hs:=PY s l k hb0
  refine an (aa (au (bZ X [(29,7)] [(23,⟨false,[az _]⟩),(26,⟨false,[az _]⟩)] [0,1,5,6] [] 15 MO (by kernel_rfl) rfl (by(repeat' with_reducible first|exact aL|refine aS ?_ ?_|apply And.intro);(iterate 2 all_goals try first|exact(bE _ _ (by first|assumption|omega| (simp;done)| (simp;omega)))|exact(Ex _ _ (by first|assumption|omega| (simp;done)| (simp;omega)) (by first|assumption|omega| (simp;done)| (simp;omega))));all_goals first| (intros;omega)|exact rfl|exact⟨rfl,bn _ (by decide)⟩|exact(rV _).1|exact(rV _).2| (simp only[dO,maxLen,lens];omega)) ?_)))
  refine bt X [0,1,5,6] rfl ?_
  refine⟨k+1,by omega,by omega,?_⟩
  rw[bH _ k rfl (by omega),hs]
  try rfl
 ·try simp only[aP]at hb0
  exact aK (aq X [4] rfl (aj (af rfl ⟨by rw[List.take_of_length_le (by rw[nV];exact hb0)],⟨⟩⟩)))
theorem hY(k:Int):So 52 [az k] [aH (fK k)]:=by
 refine ay X call52 func52 ntmps52 rfl rfl ?_
 intro zb
 exact aq X [0] rfl (aD X [] [(4,⟨false,[aH _]⟩)] [2] [] rfl (by(with_reducible and_intros)<;>first|exact⟨⟩|exact(bf _ _ _)) (aj (af rfl ⟨rfl,⟨⟩⟩)))
theorem wj(p:Plain):So 229 [.agg (iS p)] [aH (jG p)]:=by
 refine ay X call229 func229 ntmps229 rfl rfl ?_
 intro zb
 exact aq X [1] rfl (aD X [] [(5,⟨false,[aH _]⟩)] [2] [] rfl (by(with_reducible and_intros)<;>first|exact⟨⟩|exact(bf _ _ _)) (aj (af rfl ⟨by unfold jG;cases inr p.kind 0 3<;>rfl,⟨⟩⟩)))
theorem qx(key c:Int)(l:List UInt8)(hl:l.length≤65536):So 233 [az key,az c, .a (.sl .u8 l)] [az (nW key c l)]:=by
 refine ay X call233 func233 ntmps233 rfl rfl ?_
 intro zb
 refine aq X [0,1,2] rfl (aC X [0,2,7] rfl (by and_intros<;>first|exact⟨⟩|exact rfl) (aa (aq X [0,2,7,8] rfl ?_)))
 refine au (aG (fun k=>k≤l.length) (fun k:Nat=> [(8, .one ((az k)))]) (fun k=> [(10, .arr .int ([71,c]++(l.take k).map (fun x=>(x.toNat:Int))))]) (fun k=>l.length-k) 0 (fun k=>rfl) (Nat.zero_le _) rfl ?_)
 intro k hk
 refine aa (aq X [0,2,7,8,14] rfl ?_)
 refine ah rfl ?_ ?_<;>intro hb0
 ·try simp only[aP]at hb0
  have hs:=N0 l c k hb0
  refine an (aa (au (aE X [(24,10)] [] [0,2,7,8] [] rfl (by and_intros<;>first|exact⟨⟩| (intros;omega)|exact rfl| (simp only[dO,maxLen,lens];omega)) (bt X [0,2,7,8] rfl ?_))))
  refine⟨k+1,by omega,by omega,?_⟩
  rw[bH _ k rfl (by omega),hs]
  try rfl
 ·try simp only[aP]at hb0
  exact aK (aD X [] [(27,⟨false,[az _]⟩)] [6] [] rfl (by(with_reducible and_intros)<;>first|exact⟨⟩|exact(bE _ _ (by first|assumption|omega| (simp;done)| (simp;omega)))) (aj (af rfl ⟨by rw[List.take_of_length_le hb0];rfl,⟨⟩⟩)))
theorem kN(key r d n:Int):So 98 [az key,az r,az d,az n] [az (iX key r d n)]:=by
 refine ay X call98 func98 ntmps98 rfl rfl ?_
 intro zb
 refine aq X [0,1,2,3] rfl (aa (aD X [] [(10,⟨false,[aH _]⟩),(14,⟨false,[aH _]⟩)] [0,1,2,3,16] [] rfl (by(with_reducible and_intros)<;>first|exact⟨⟩|exact(bf _ _ _)|exact fun _=>(bf _ _ _)) ?_))
 refine ah rfl ?_ ?_<;>intro hb0
 ·try simp only[aP]at hb0
  exact aq X [8] rfl (aj (af rfl ⟨by rw[iX,if_neg (by omega)],⟨⟩⟩))
 ·try simp only[aP]at hb0
  have hcs:=uB (kh key [79,r,d]) 0
  refine an (aD X [] [(21,⟨false,[az _]⟩),(22,⟨false,[az _]⟩)] [8] [] rfl (by(repeat' with_reducible first|exact aL|refine aS ?_ ?_|apply And.intro);(iterate 2 all_goals try first|exact(bE _ _ (by first|assumption|omega| (simp;done)| (simp;omega)))|exact(lR _ _));all_goals first| (intros;omega)|exact⟨rfl,bn _ (by decide)⟩) ?_)
  exact aj (af rfl ⟨by rw[iX,if_pos (by omega),ep hcs.1],⟨⟩⟩)
theorem Ci(s r n:Int):So 322 [az s,az r,az n] [az (Cg s r n)]:=by
 refine ay X call322 func322 ntmps322 rfl rfl ?_
 intro zb
 refine aq X [0,1,2] rfl (aa (aD X [] [(8,⟨false,[aH _]⟩)] [0,1,2,9] [] rfl (by(with_reducible and_intros)<;>first|exact⟨⟩|exact(bf _ _ _)) ?_))
 refine ah rfl ?_ ?_<;>intro hb0
 ·try simp only[aP]at hb0
  exact aq X [6] rfl (aj (af rfl ⟨by rw[Cg,if_neg (by omega)],⟨⟩⟩))
 ·try simp only[aP]at hb0
  have hcs:=uB (kh s [157,r]) 0
  refine an (aD X [] [(13,⟨false,[az _]⟩),(14,⟨false,[az _]⟩)] [6] [] rfl (by(repeat' with_reducible first|exact aL|refine aS ?_ ?_|apply And.intro);(iterate 2 all_goals try first|exact(bE _ _ (by first|assumption|omega| (simp;done)| (simp;omega)))|exact(lR _ _));all_goals first| (intros;omega)|exact⟨rfl,bn _ (by decide)⟩) ?_)
  exact aj (af rfl ⟨by rw[Cg,if_pos (by omega),ep hcs.1],⟨⟩⟩)
theorem AT(s:Int):So 323 [az s] [.a (.sl .u8 (cover s))]:=by
 refine ay X call323 func323 ntmps323 rfl rfl ?_
 intro zb
 refine aq X [0] rfl (aD X [] [(5,⟨false,[az _]⟩),(6,⟨true,[.a (.sl .u8 _)]⟩)] [2] [] rfl (by(repeat' with_reducible first|exact aL|refine aS ?_ ?_|apply And.intro);(iterate 2 all_goals try first|exact(bE _ _ (by first|assumption|omega| (simp;done)| (simp;omega)))|exact(jS _ _ (by first|assumption|omega| (simp;done)| (simp;omega)) (by first|assumption|omega| (simp;done)| (simp;omega))));all_goals first|exact⟨rfl,bn _ (by decide)⟩) ?_)
 exact aj (af rfl ⟨rfl,⟨⟩⟩)
theorem uF(k c:Int):So 226 [az k,az c] [az (nX k c)]:=by
 refine ay X call226 func226 ntmps226 rfl rfl ?_
 intro zb
 refine aq X [0,1] rfl (aD X [] [(8,⟨false,[az _]⟩),(9,⟨false,[az _]⟩)] [4] [] rfl (by(repeat' with_reducible first|exact aL|refine aS ?_ ?_|apply And.intro);(iterate 2 all_goals try first|exact(bU _ _ (by first|assumption|omega| (simp;done)| (simp;omega)))|exact(rX _));all_goals first|exact⟨rfl,bn _ (by decide)⟩) ?_)
 exact aj (af rfl ⟨rfl,⟨⟩⟩)
theorem jq(k c:Int):So 164 [az k,az c] [az (nY k c)]:=by
 refine ay X call164 func164 ntmps164 rfl rfl ?_
 intro zb
 refine aq X [0,1] rfl (aD X [] [(8,⟨false,[az _]⟩),(9,⟨false,[az _]⟩)] [4] [] rfl (by(repeat' with_reducible first|exact aL|refine aS ?_ ?_|apply And.intro);(iterate 2 all_goals try first|exact(bU _ _ (by first|assumption|omega| (simp;done)| (simp;omega)))|exact(rX _));all_goals first|exact⟨rfl,bn _ (by decide)⟩) ?_)
 exact aj (af rfl ⟨rfl,⟨⟩⟩)
theorem qy(k c:Int):So 232 [az k,az c] [az (nX k c)]:=by
 refine ay X call232 func232 ntmps232 rfl rfl ?_
 intro zb
 refine aq X [0,1] rfl (aD X [] [(8,⟨false,[az _]⟩),(9,⟨false,[az _]⟩)] [4] [] rfl (by(repeat' with_reducible first|exact aL|refine aS ?_ ?_|apply And.intro);(iterate 2 all_goals try first|exact(bE _ _ (by first|assumption|omega| (simp;done)| (simp;omega)))|exact(nS _ _));all_goals first|exact⟨rfl,bn _ (by decide)⟩) ?_)
 exact aj (af rfl ⟨by rw[CW (dS _ _).1];rfl,⟨⟩⟩)
theorem ey(k c:Int):So 168 [az k,az c] [az (nY k c)]:=by
 refine ay X call168 func168 ntmps168 rfl rfl ?_
 intro zb
 refine aq X [0,1] rfl (aD X [] [(8,⟨false,[az _]⟩),(9,⟨false,[az _]⟩)] [4] [] rfl (by(repeat' with_reducible first|exact aL|refine aS ?_ ?_|apply And.intro);(iterate 2 all_goals try first|exact(bE _ _ (by first|assumption|omega| (simp;done)| (simp;omega)))|exact(nS _ _));all_goals first|exact⟨rfl,bn _ (by decide)⟩) ?_)
 exact aj (af rfl ⟨by rw[CW (dS _ _).1];rfl,⟨⟩⟩)
theorem pE(k c:Int)(l:List UInt8)(hl:l.length≤65536):So 227 [az k,az c, .a (.sl .u8 l)] [.a (.sl .u8 (four (nW k c l)))]:=by
 refine ay X call227 func227 ntmps227 rfl rfl ?_
 intro zb
 exact aq X [0,1,2] rfl (aD X [] [(11,⟨false,[az _]⟩)] [7] [] rfl (by(with_reducible and_intros)<;>first|exact⟨⟩|exact(AR _ _ _ (by first|assumption|omega| (simp;done)| (simp;omega)))) (aC X [6] rfl (by and_intros<;>first|exact⟨⟩| (intros;omega)|exact rfl|exact(rV _).1|exact(rV _).2) (aj (af rfl ⟨N1 _,⟨⟩⟩))))
end
section
set_option maxRecDepth 100000
theorem mP(l:List (List UInt8))(f:FuncId)(p:(List UInt8)→Bool)(hf: ∀b,So f [.a (.sl .u8 b)] [aH (p b)]):So 263 [.a (.sl (.sl .u8) l), .a (.lit (.func (.func f) #[] #[]))] [az (fidx p l)]:=by
 refine ay X call263 func263 ntmps263 rfl rfl ?_
 intro zb
 refine cx 0 rfl (fun j0=>(aq X [0,1] rfl (aa (aq X [0,1,7,8] rfl ?_))))
 refine au (aG (fun k=>k≤l.length∧(l.take k).any p=false) (fun k:Nat=> [(8, .one ((az k)))]) (fun k=> []) (fun k=>l.length-k) 0 (fun k=>rfl) ⟨Nat.zero_le _,rfl⟩ rfl ?_)
 rintro k ⟨hk,hall⟩
 refine aq X [0,1,7,8,9] rfl ?_
 refine aa (ah rfl ?_ ?_)<;>intro hb0
 ·try simp only[aP]at hb0
  refine an (aa (au (aq X [0,1,5,7,8] rfl (aD X [] [(16,⟨false,[aH (p (l.getD k (aI (.sl .u8))))]⟩)] [0,1,5,7,8,16] [] rfl (by(with_reducible and_intros)<;>first|exact⟨⟩|exact(hf _)| (intros;omega)) ?_))))
  refine ah rfl ?_ ?_<;>intro aW
  ·exact aq X [4] rfl (aj (af rfl ⟨by rw[zi (aI (.sl .u8)) hb0 hall aW],⟨⟩⟩))
  ·refine an (bt X [0,1,7,8] rfl ?_)
   refine⟨k+1,⟨by omega,xz (aI (.sl .u8)) hb0 hall aW⟩,by omega,?_⟩
   rw[bH _ k rfl (by omega)]
   try rfl
 ·try simp only[aP]at hb0
  exact aK (aq X [4] rfl (aj (af rfl ⟨by rw[GF (by rw[←hall,List.take_of_length_le hb0])],⟨⟩⟩)))
theorem eC(l:List (List UInt8))(f:FuncId)(p:(List UInt8)→Bool)(hf: ∀b,So f [.a (.sl .u8 b)] [aH (p b)]):So 208 [.a (.sl (.sl .u8) l), .a (.lit (.func (.func f) #[] #[]))] [aH (l.any p)]:=by
 refine ay X call208 func208 ntmps208 rfl rfl ?_
 intro zb
 exact aq X [0,1] rfl (aD X [] [(7,⟨false,[az (fidx p l)]⟩)] [4] [] rfl (by(with_reducible and_intros)<;>first|exact⟨⟩|exact(mP l f p hf)) (aj (af rfl ⟨congrArg Value.bool (N2 p l),⟨⟩⟩)))
theorem n7(l:List Int)(f:FuncId)(p:Int→Bool)(hf: ∀b,So f [az b] [aH (p b)]):So 321 [.a (.sl .int l), .a (.lit (.func (.func f) #[] #[]))] [az (fidx p l)]:=by
 refine ay X call321 func321 ntmps321 rfl rfl ?_
 intro zb
 refine cx 0 rfl (fun j0=>(aq X [0,1] rfl (aa (aq X [0,1,7,8] rfl ?_))))
 refine au (aG (fun k=>k≤l.length∧(l.take k).any p=false) (fun k:Nat=> [(8, .one ((az k)))]) (fun k=> []) (fun k=>l.length-k) 0 (fun k=>rfl) ⟨Nat.zero_le _,rfl⟩ rfl ?_)
 rintro k ⟨hk,hall⟩
 refine aq X [0,1,7,8,9] rfl ?_
 refine aa (ah rfl ?_ ?_)<;>intro hb0
 ·try simp only[aP]at hb0
  refine an (aa (au (aq X [0,1,5,7,8] rfl (aD X [] [(16,⟨false,[aH (p (l.getD k (aI .int)))]⟩)] [0,1,5,7,8,16] [] rfl (by(with_reducible and_intros)<;>first|exact⟨⟩|exact(hf _)| (intros;omega)) ?_))))
  refine ah rfl ?_ ?_<;>intro aW
  ·exact aq X [4] rfl (aj (af rfl ⟨by rw[zi (aI .int) hb0 hall aW],⟨⟩⟩))
  ·refine an (bt X [0,1,7,8] rfl ?_)
   refine⟨k+1,⟨by omega,xz (aI .int) hb0 hall aW⟩,by omega,?_⟩
   rw[bH _ k rfl (by omega)]
   try rfl
 ·try simp only[aP]at hb0
  exact aK (aq X [4] rfl (aj (af rfl ⟨by rw[GF (by rw[←hall,List.take_of_length_le hb0])],⟨⟩⟩)))
theorem mz(l:List Int)(f:FuncId)(p:Int→Bool)(hf: ∀b,So f [az b] [aH (p b)]):So 298 [.a (.sl .int l), .a (.lit (.func (.func f) #[] #[]))] [aH (l.any p)]:=by
 refine ay X call298 func298 ntmps298 rfl rfl ?_
 intro zb
 exact aq X [0,1] rfl (aD X [] [(7,⟨false,[az (fidx p l)]⟩)] [4] [] rfl (by(with_reducible and_intros)<;>first|exact⟨⟩|exact(n7 l f p hf)) (aj (af rfl ⟨congrArg Value.bool (N2 p l),⟨⟩⟩)))
theorem qd(b:List UInt8):So 209 [.a (.sl .u8 b)] [aH (!decide ((b.length:Int)=24))]:=by
 refine ay X call209 func209 ntmps209 rfl rfl ?_
 intro zb
 exact aq X [0] rfl (aq X [2] rfl (aj (af rfl ⟨(congrArg Value.bool (by simp only[aU]<;>first|rfl|ac_rfl)),⟨⟩⟩)))
theorem dx(d:DB):So 139 [.agg (aZ d)] [aH (cT d)]:=by
 refine ay X call139 func139 ntmps139 rfl rfl ?_
 intro zb
 exact aq X [1] rfl (aD X [] [(10,⟨false,[aH (d.rows.any fun b=> !decide ((b.length:Int)=24))]⟩)] [2] [] rfl (by(with_reducible and_intros)<;>first|exact⟨⟩|exact fun _=>(eC _ _ _ qd)) (aj (af rfl ⟨by unfold cT;rw[uG];by_cases h:(d.rows.length:Int)≤64<;>simp[h],⟨⟩⟩)))
theorem cN(d:DB):So 132 [.agg (aZ d)] [aH (cT d)]:=by
 refine ay X call132 func132 ntmps132 rfl rfl ?_
 intro zb
 refine bB 0 0 rfl rfl (fun j0=>(aq X [1] rfl (aa (aq X [1,3] rfl ?_))))
 refine au (aG (fun k=>k≤d.rows.length∧(d.rows.take k).all (fun r=>decide ((r.length:Int)=24))=true) (fun k:Nat=> [(3, .one ((az k)))]) (fun k=> []) (fun k=>d.rows.length-k) 0 (fun k=>rfl) ⟨Nat.zero_le _,rfl⟩ rfl ?_)
 rintro k ⟨hk,hall⟩
 refine aa (aq X [1,3,8] rfl ?_)
 refine ah rfl ?_ ?_<;>intro hb0
 ·try simp only[aP]at hb0
  refine an (aa (au (aC X [1,3,17] rfl (by and_intros<;>first|exact⟨⟩| (intros;omega)) ?_)))
  refine ah rfl ?_ ?_<;>intro aW
  ·try simp only[aP]at aW
   exact aq X [2] rfl (aj (af rfl ⟨by unfold cT;rw[Mi _ _ (aI (.sl .u8)) k hb0 (by simpa using aW)];simp,⟨⟩⟩))
  ·try simp only[aP]at aW
   refine an (bt X [1,3] rfl ?_)
   refine⟨k+1,⟨by omega,by rw[Ew _ _ _ (aI (.sl .u8)) hb0,hall];simpa using aW⟩,by omega,?_⟩
   rw[bH _ k rfl (by omega)]
   try rfl
 ·try simp only[aP]at hb0
  exact aK (aq X [2] rfl (aj (af rfl ⟨by rw[List.take_of_length_le hb0]at hall;unfold cT;rw[hall];simp,⟨⟩⟩)))
theorem lT(a:iP):So 62 [.agg (dc a)] [az (dh a)]:=by
 refine ay X call62 func62 ntmps62 rfl rfl ?_
 intro zb
 refine bB 0 1 rfl rfl (fun j0=>(aq X [1] rfl (aa (aq X [1,6] rfl ?_))))
 refine ah rfl ?_ ?_<;>intro hb0
 ·try simp only[aP]at hb0
  exact aq X [2] rfl (aj (af rfl ⟨by rw[dh,if_pos (by omega)],⟨⟩⟩))
 ·try simp only[aP]at hb0
  exact an (aC X [2] rfl (by and_intros<;>first|exact⟨⟩| ((try simp only[aP]at*);(simp(disch:=omega) only[bV]);omega)) (aj (af rfl ⟨by rw[dh,if_neg (by omega),bV (by omega)];congr 4;omega,⟨⟩⟩)))
theorem gd(a:iP):So 12 [.agg (dc a)] [az (dh a)]:=by
 refine ay X call12 func12 ntmps12 rfl rfl ?_
 intro zb
 refine bB 0 1 rfl rfl (fun j0=>(aq X [1] rfl (aa (aq X [1,6] rfl ?_))))
 refine ah rfl ?_ ?_<;>intro hb0
 ·try simp only[aP]at hb0
  exact aq X [2] rfl (aj (af rfl ⟨by rw[dh,if_pos (by omega)],⟨⟩⟩))
 ·try simp only[aP]at hb0
  exact an (aC X [2] rfl (by and_intros<;>first|exact⟨⟩| ((try simp only[aP]at*);(simp(disch:=omega) only[bV]);omega)) (aj (af rfl ⟨by rw[dh,if_neg (by omega),bV (by omega)];congr 4;omega,⟨⟩⟩)))
theorem dn(s:bw):So 64 [.agg (bR s)] [aH (cm s)]:=by
 refine ay X call64 func64 ntmps64 rfl rfl ?_
 intro zb
 refine bB 0 3 rfl rfl (fun j0=>(aq X [1] rfl (aa (aD X [] [(7,⟨false,[aH (inr s.id 0 3)]⟩),(12,⟨false,[aH (inr s.rows 1 64)]⟩),(18,⟨false,[aH (inr s.behavior 0 3)]⟩),(24,⟨false,[aH (inr s.round 0 100000)]⟩)] [1,32] [] rfl (by(with_reducible and_intros);(iterate 4 all_goals try first|exact⟨⟩|exact(aM s.id 0 3)|exact fun _=>(aM s.rows 1 64)|exact fun _=>(aM s.behavior 0 3)|exact fun _=>(aM s.round 0 100000))) ?_))))
 refine ah rfl ?_ ?_<;>intro hb0
 ·exact aq X [2] rfl (aj (af rfl ⟨by rw[show cm s=false from acs hb0 (by simp only[wV,aU]<;>first|rfl|ac_rfl)],⟨⟩⟩))
 ·have hh:wV s=true:=bX hb0 (by simp only[wV,aU]<;>first|rfl|ac_rfl)
  refine an (aa (aq X [1,34,35,36] rfl ?_))
  refine au (aG (fun k=>k≤s.received.length∧(List.range k).all (nZ s.rows s.received)=true) (fun k:Nat=> [(36, .one ((az k)))]) (fun k=> []) (fun k=>s.received.length-k) 0 (fun k=>rfl) ⟨Nat.zero_le _,rfl⟩ rfl ?_)
  rintro k ⟨hk,hall⟩
  have hw:(IntKind.i64.wrap ((k:Int)-1)).toNat=k-1:=by rw[bV (by omega)];omega
  refine aq X [1,34,35,36,37] rfl ?_
  refine aa (ah rfl ?_ ?_)<;>intro aW
  ·try simp only[aP]at aW
   refine an (aa (au (aC X [1,3,4,34,35,36] rfl (by and_intros<;>first|exact⟨⟩| (intros;omega)) (cQ X [] [(43,⟨false,[aH (inr ((s.received.getD k (aI .aR)).client) 0 7)]⟩),(64,⟨false,[aH (cT ((s.received.getD k (aI .aR)).share))]⟩)] [1,34,35,36,75] [] 35 MO (by kernel_rfl) rfl (by(with_reducible and_intros);(iterate 2 all_goals try first|exact⟨⟩|exact(aM ((s.received.getD k (aI .aR)).client) 0 7)|exact fun _=>(dx ((s.received.getD k (aI .aR)).share)));all_goals first| ((intro h1;first| (intro h2;first| (intro h3;refine And.intro ?_ ?_)|refine And.intro ?_ ?_)|refine And.intro ?_ ?_)<;>first|omega| ((try simp only[aP]at*);(try simp(disch:=omega) only[bV]);omega))) ?_))))
   refine ah rfl ?_ ?_<;>intro bz
   ·have hk2:nZ s.rows s.received k=false:=b9 bz (by simp only[hw,nZ,aU]<;>first|rfl|ac_rfl)
    exact aq X [2] rfl (aj (af rfl ⟨by rw[show cm s=false by unfold cm;rw[mw aW hk2];simp],⟨⟩⟩))
   ·have hk2:nZ s.rows s.received k=true:=bX bz (by simp only[hw,nZ,aU]<;>first|rfl|ac_rfl)
    refine an (bt X [1,34,35,36] rfl ?_)
    refine⟨k+1,⟨by omega,ke hall hk2⟩,by omega,?_⟩
    rw[bH _ k rfl (by omega)]
    try rfl
  ·try simp only[aP]at aW
   have qz:(List.range s.received.length).all (nZ s.rows s.received)=true:=by rw[show s.received.length=k by omega];exact hall
   exact aK (aq X [2] rfl (aj (af rfl ⟨by rw[show cm s=true by unfold cm;rw[hh,qz];rfl],⟨⟩⟩)))
theorem lE(a:iP):So 61 [.agg (dc a)] [aH (eW a)]:=by
 refine ay X call61 func61 ntmps61 rfl rfl ?_
 intro zb
 refine bB 0 1 rfl rfl (fun j0=>(aq X [1] rfl (aa (aq X [1,6,7,8] rfl ?_))))
 refine au (aG (fun k=>k≤a.rounds.length∧(List.range k).all (rZ a.rows a.rounds)=true) (fun k:Nat=> [(8, .one ((az k)))]) (fun k=> []) (fun k=>a.rounds.length-k) 0 (fun k=>rfl) ⟨Nat.zero_le _,rfl⟩ rfl ?_)
 rintro k ⟨hk,hall⟩
 have hw:(IntKind.i64.wrap ((k:Int)-1)).toNat=k-1:=by rw[bV (by omega)];omega
 refine aq X [1,6,7,8,9] rfl ?_
 refine aa (ah rfl ?_ ?_)<;>intro hb0
 ·try simp only[aP]at hb0
  refine an (aa (au (aC X [1,3,4,6,7,8] rfl (by and_intros<;>first|exact⟨⟩| (intros;omega)) (aa ?_))))
  have t1:=(aM ((a.rounds.getD k (aI .aN)).round) 0 100000)
  refine bZ X [] [(15,⟨false,bJ t1⟩),(36,⟨false,[aH (cT ((a.rounds.getD k (aI .aN)).db))]⟩)] [1,6,7,8,47] [] 35 MO (by kernel_rfl) rfl (by(with_reducible and_intros);(iterate 2 all_goals try first|exact⟨⟩|exact t1|exact fun _=>(dx ((a.rounds.getD k (aI .aN)).db)));all_goals first| ((intro h1;first| (intro h2;first| (intro h3;refine And.intro ?_ ?_)|refine And.intro ?_ ?_)|refine And.intro ?_ ?_)<;>first|omega| ((try simp only[aP]at*);(try simp(disch:=omega) only[bV]);omega))) ?_
  refine ah rfl ?_ ?_<;>intro aW
  ·have hk2:rZ a.rows a.rounds k=false:=b9 aW (by simp only[hw,rZ,aU]<;>first|rfl|ac_rfl)
   exact aq X [2] rfl (aj (af rfl ⟨by rw[show eW a=false by unfold eW;rw[mw hb0 hk2];simp],⟨⟩⟩))
  ·have hk2:rZ a.rows a.rounds k=true:=bX aW (by simp only[hw,rZ,aU]<;>first|rfl|ac_rfl)
   refine an (bt X [1,6,7,8] rfl ?_)
   refine⟨k+1,⟨by omega,ke hall hk2⟩,by omega,?_⟩
   rw[bH _ k rfl (by omega)]
   try rfl
 ·try simp only[aP]at hb0
  have qz:(List.range a.rounds.length).all (rZ a.rows a.rounds)=true:=by rw[show a.rounds.length=k by omega];exact hall
  exact aK (aD X [] [(51,⟨false,[aH (inr a.rows 1 64)]⟩)] [2] [] rfl (by(with_reducible and_intros)<;>first|exact⟨⟩|exact(aM a.rows 1 64)) (aj (af rfl ⟨(congrArg Value.bool (by simp only[eW,EC,qz,aU]<;>first|rfl|ac_rfl)),⟨⟩⟩)))
theorem cO(s:bw):So 129 [.agg (bR s)] [aH (cm s)]:=by
 refine ay X call129 func129 ntmps129 rfl rfl ?_
 intro zb
 refine bB 0 3 rfl rfl (fun j0=>(aq X [1] rfl (aa (aq X [1,3] rfl ?_))))
 refine au (aG (fun k=>k≤s.received.length∧(List.range k).all (nZ s.rows s.received)=true) (fun k:Nat=> [(3, .one ((az k)))]) (fun k=> []) (fun k=>s.received.length-k) 0 (fun k=>rfl) ⟨Nat.zero_le _,rfl⟩ rfl ?_)
 rintro k ⟨hk,hall⟩
 have hw:(IntKind.i64.wrap ((k:Int)-1)).toNat=k-1:=by rw[bV (by omega)];omega
 refine aa (aq X [1,3,9] rfl ?_)
 refine ah rfl ?_ ?_<;>intro hb0
 ·try simp only[aP]at hb0
  refine an (aa (au (aC X [1,3,4] rfl (by and_intros<;>first|exact⟨⟩| (intros;omega)) (cQ X [] [(19,⟨false,[aH (inr ((s.received.getD k (aI .aR)).client) 0 7)]⟩),(40,⟨false,[aH (cT ((s.received.getD k (aI .aR)).share))]⟩)] [1,3,51] [] 35 MO (by kernel_rfl) rfl (by(with_reducible and_intros);(iterate 2 all_goals try first|exact⟨⟩|exact(bf ((s.received.getD k (aI .aR)).client) 0 7)|exact fun _=>(cN ((s.received.getD k (aI .aR)).share)));all_goals first| ((intro h1;first| (intro h2;first| (intro h3;refine And.intro ?_ ?_)|refine And.intro ?_ ?_)|refine And.intro ?_ ?_)<;>first|omega| ((try simp only[aP]at*);(try simp(disch:=omega) only[bV]);omega))) ?_))))
  refine ah rfl ?_ ?_<;>intro aW
  ·have hk2:nZ s.rows s.received k=false:=b9 aW (by simp only[hw,nZ,aU]<;>first|rfl|ac_rfl)
   exact aq X [2] rfl (aj (af rfl ⟨by rw[show cm s=false by unfold cm;rw[mw hb0 hk2];simp],⟨⟩⟩))
  ·have hk2:nZ s.rows s.received k=true:=bX aW (by simp only[hw,nZ,aU]<;>first|rfl|ac_rfl)
   refine an (bt X [1,3] rfl ?_)
   refine⟨k+1,⟨by omega,ke hall hk2⟩,by omega,?_⟩
   rw[bH _ k rfl (by omega)]
   try rfl
 ·try simp only[aP]at hb0
  have qz:(List.range s.received.length).all (nZ s.rows s.received)=true:=by rw[show s.received.length=k by omega];exact hall
  exact aK (aD X [] [(54,⟨false,[aH (inr s.id 0 3)]⟩),(58,⟨false,[aH (inr s.rows 1 64)]⟩),(63,⟨false,[aH (inr s.behavior 0 3)]⟩),(68,⟨false,[aH (inr s.round 0 100000)]⟩)] [2] [] rfl (by(with_reducible and_intros);(iterate 4 all_goals try first|exact⟨⟩|exact(bf s.id 0 3)|exact fun _=>(bf s.rows 1 64)|exact fun _=>(bf s.behavior 0 3)|exact fun _=>(bf s.round 0 100000))) (aj (af rfl ⟨(congrArg Value.bool (by simp only[cm,wV,qz,aU]<;>first|rfl|ac_rfl)),⟨⟩⟩)))
theorem gU(a:iP):So 51 [.agg (dc a)] [aH (eW a)]:=by
 refine ay X call51 func51 ntmps51 rfl rfl ?_
 intro zb
 refine bB 0 1 rfl rfl (fun j0=>(aq X [1] rfl (aa (aq X [1,3] rfl ?_))))
 refine au (aG (fun k=>k≤a.rounds.length∧(List.range k).all (rZ a.rows a.rounds)=true) (fun k:Nat=> [(3, .one ((az k)))]) (fun k=> []) (fun k=>a.rounds.length-k) 0 (fun k=>rfl) ⟨Nat.zero_le _,rfl⟩ rfl ?_)
 rintro k ⟨hk,hall⟩
 have hw:(IntKind.i64.wrap ((k:Int)-1)).toNat=k-1:=by rw[bV (by omega)];omega
 refine aa (aq X [1,3,9] rfl ?_)
 refine ah rfl ?_ ?_<;>intro hb0
 ·try simp only[aP]at hb0
  refine an (aa (au (aC X [1,3,4] rfl (by and_intros<;>first|exact⟨⟩| (intros;omega)) (aa ?_))))
  have t1:=(bf ((a.rounds.getD k (aI .aN)).round) 0 100000)
  refine bZ X [] [(19,⟨false,bJ t1⟩),(40,⟨false,[aH (cT ((a.rounds.getD k (aI .aN)).db))]⟩)] [1,3,51] [] 35 MO (by kernel_rfl) rfl (by(with_reducible and_intros);(iterate 2 all_goals try first|exact⟨⟩|exact t1|exact fun _=>(cN ((a.rounds.getD k (aI .aN)).db)));all_goals first| ((intro h1;first| (intro h2;first| (intro h3;refine And.intro ?_ ?_)|refine And.intro ?_ ?_)|refine And.intro ?_ ?_)<;>first|omega| ((try simp only[aP]at*);(try simp(disch:=omega) only[bV]);omega))) ?_
  refine ah rfl ?_ ?_<;>intro aW
  ·have hk2:rZ a.rows a.rounds k=false:=b9 aW (by simp only[hw,rZ,aU]<;>first|rfl|ac_rfl)
   exact aq X [2] rfl (aj (af rfl ⟨by rw[show eW a=false by unfold eW;rw[mw hb0 hk2];simp],⟨⟩⟩))
  ·have hk2:rZ a.rows a.rounds k=true:=bX aW (by simp only[hw,rZ,aU]<;>first|rfl|ac_rfl)
   refine an (bt X [1,3] rfl ?_)
   refine⟨k+1,⟨by omega,ke hall hk2⟩,by omega,?_⟩
   rw[bH _ k rfl (by omega)]
   try rfl
 ·try simp only[aP]at hb0
  have qz:(List.range a.rounds.length).all (rZ a.rows a.rounds)=true:=by rw[show a.rounds.length=k by omega];exact hall
  exact aK (aD X [] [(54,⟨false,[aH (inr a.rows 1 64)]⟩)] [2] [] rfl (by(with_reducible and_intros)<;>first|exact⟨⟩|exact(bf a.rows 1 64)) (aj (af rfl ⟨(congrArg Value.bool (by simp only[eW,EC,qz,aU]<;>first|rfl|ac_rfl)),⟨⟩⟩)))
theorem BW(a:List UInt8):(yF a).toList=a:=by
 rw[ByteArray.toList_eq];rfl
theorem kO(a b:List UInt8):So 101 [.a (.sl .u8 a), .a (.sl .u8 b)] [aH (a==b)]:=by
 refine ay X call101 func101 ntmps101 rfl rfl ?_
 intro zb
 exact aq X [0,1] rfl (aq X [4] rfl (aj (af rfl ⟨by rw[BW,BW],⟨⟩⟩)))
theorem jB(a b:List UInt8):So 162 [.a (.sl .u8 a), .a (.sl .u8 b)] [aH (a==b)]:=by
 refine ay X call162 func162 ntmps162 rfl rfl ?_
 intro zb
 refine cx 0 rfl (fun nv=> ?_)
 refine cx 1 rfl (fun mo=>(aq X [0,1] rfl (aa (aq X [0,1,10] rfl ?_))))
 refine ah rfl ?_ ?_<;>intro hb0
 ·try simp only[aP]at hb0
  exact aq X [4] rfl (aj (af rfl ⟨by rw[AO a b hb0],⟨⟩⟩))
 ·try simp only[aP]at hb0
  refine an (aa (aq X [0,1,12,13] rfl ?_))
  refine au (aG (fun k=>k≤a.length∧a.take k=b.take k) (fun k:Nat=> [(13, .one ((az k)))]) (fun k=> []) (fun k=>a.length-k) 0 (fun k=>rfl) ⟨Nat.zero_le _,rfl⟩ rfl ?_)
  rintro k ⟨hk,hall⟩
  refine aq X [0,1,12,13,14] rfl ?_
  refine aa (ah rfl ?_ ?_)<;>intro aW
  ·try simp only[aP]at aW
   refine an (aa (au (aq X [0,1,5,12,13] rfl (cQ X [] [] [0,1,12,13,24] [] 9 MO (by kernel_rfl) rfl (by and_intros<;>first|exact⟨⟩| (intros;omega)) ?_))))
   refine ah rfl ?_ ?_<;>intro bz
   ·try simp only[aP]at bz
    have hne:=xu a b (aI .u8) k (fun h=>bz (by rw[h]))
    exact aq X [4] rfl (aj (af rfl ⟨by rw[hne],⟨⟩⟩))
   ·try simp only[aP]at bz
    have he:a.getD k (aI .u8)=b.getD k (aI .u8):=SG bz
    refine an (bt X [0,1,12,13] rfl ?_)
    refine⟨k+1,⟨by omega,rU a b (aI .u8) k aW (by omega) hall he⟩,by omega,?_⟩
    rw[bH _ k rfl (by omega)]
    try rfl
  ·try simp only[aP]at aW
   exact aK (aq X [4] rfl (aj (af rfl ⟨by rw[xw a b k (by omega) (by omega) hall],⟨⟩⟩)))
theorem kP(a b:List (List UInt8)):So 89 [.a (.sl (.sl .u8) a), .a (.sl (.sl .u8) b)] [aH (a==b)]:=by
 refine ay X call89 func89 ntmps89 rfl rfl ?_
 intro zb
 refine cx 0 rfl (fun nv=> ?_)
 refine cx 1 rfl (fun mo=>(aq X [0,1] rfl (aa (aq X [0,1,10] rfl ?_))))
 refine ah rfl ?_ ?_<;>intro hb0
 ·try simp only[aP]at hb0
  exact aq X [4] rfl (aj (af rfl ⟨by rw[AO a b hb0],⟨⟩⟩))
 ·try simp only[aP]at hb0
  refine an (aa (aq X [0,1,5] rfl ?_))
  refine au (aG (fun k=>k≤a.length∧a.take k=b.take k) (fun k:Nat=> [(5, .one ((az k)))]) (fun k=> []) (fun k=>a.length-k) 0 (fun k=>rfl) ⟨Nat.zero_le _,rfl⟩ rfl ?_)
  rintro k ⟨hk,hall⟩
  refine aa (aq X [0,1,5,14] rfl ?_)
  refine ah rfl ?_ ?_<;>intro aW
  ·try simp only[aP]at aW
   refine an (aa (au (cQ X [] [(25,⟨false,[aH _]⟩)] [0,1,5,26] [] 10 MO (by kernel_rfl) rfl (by(with_reducible and_intros)<;>first|exact⟨⟩|exact(kO _ _)| (intros;omega)) ?_)))
   refine ah rfl ?_ ?_<;>intro bz
   ·try simp only[aP]at bz
    have hne:=xu a b (aI (.sl .u8)) k (fun h=>bz (by rw[h]))
    exact aq X [4] rfl (aj (af rfl ⟨by rw[hne],⟨⟩⟩))
   ·try simp only[aP]at bz
    have he:a.getD k (aI (.sl .u8))=b.getD k (aI (.sl .u8)):=bz
    refine an (bt X [0,1,5] rfl ?_)
    refine⟨k+1,⟨by omega,rU a b (aI (.sl .u8)) k aW (by omega) hall he⟩,by omega,?_⟩
    rw[bH _ k rfl (by omega)]
    try rfl
  ·try simp only[aP]at aW
   exact aK (aq X [4] rfl (aj (af rfl ⟨by rw[xw a b k (by omega) (by omega) hall],⟨⟩⟩)))
theorem kQ(a b:List UInt8):So 96 [.a (.sl .u8 a), .a (.sl .u8 b)] [aH (a==b)]:=by
 refine ay X call96 func96 ntmps96 rfl rfl ?_
 intro zb
 exact aq X [0,1] rfl (aD X [] [(7,⟨false,[aH _]⟩)] [4] [] rfl (by(with_reducible and_intros)<;>first|exact⟨⟩|exact(jB _ _)) (aj (af rfl ⟨rfl,⟨⟩⟩)))
theorem iG(a b:List (List UInt8)):So 222 [.a (.sl (.sl .u8) a), .a (.sl (.sl .u8) b), .a (.lit (.func (.func 96) #[] #[]))] [aH (a==b)]:=by
 refine ay X call222 func222 ntmps222 rfl rfl ?_
 intro zb
 refine cx 0 rfl (fun nv=> ?_)
 refine cx 1 rfl (fun mo=>(aq X [0,1,2] rfl (aa (aq X [0,1,2,14] rfl ?_))))
 refine ah rfl ?_ ?_<;>intro hb0
 ·try simp only[aP]at hb0
  exact aq X [6] rfl (aj (af rfl ⟨by rw[AO a b hb0],⟨⟩⟩))
 ·try simp only[aP]at hb0
  refine an (aa (aq X [1,2,15,16,17] rfl ?_))
  refine au (aG (fun k=>k≤a.length∧a.take k=b.take k) (fun k:Nat=> [(17, .one ((az k)))]) (fun k=> []) (fun k=>a.length-k) 0 (fun k=>rfl) ⟨Nat.zero_le _,rfl⟩ rfl ?_)
  rintro k ⟨hk,hall⟩
  refine aq X [1,2,15,16,17,18] rfl ?_
  refine aa (ah rfl ?_ ?_)<;>intro aW
  ·try simp only[aP]at aW
   refine an (aa (au (aC X [1,2,7,8,15,16,17] rfl (by and_intros<;>first|exact⟨⟩| (intros;omega)) (aC X [1,2,8,9,15,16,17] rfl (by and_intros<;>first|exact⟨⟩| (intros;omega)) (aD X [] [(29,⟨false,[aH (a.getD k (aI (.sl .u8))==b.getD k (aI (.sl .u8)))]⟩)] [1,2,15,16,17,30] [] rfl (by(with_reducible and_intros)<;>first|exact⟨⟩|exact(kQ _ _)) ?_)))))
   refine ah rfl ?_ ?_<;>intro bz
   ·try simp only[aP]at bz
    have hne:=xu a b (aI (.sl .u8)) k (fun h=>bz (by rw[h]))
    exact aq X [6] rfl (aj (af rfl ⟨by rw[hne],⟨⟩⟩))
   ·try simp only[aP]at bz
    have he:a.getD k (aI (.sl .u8))=b.getD k (aI (.sl .u8)):=bz
    refine an (bt X [1,2,15,16,17] rfl ?_)
    refine⟨k+1,⟨by omega,rU a b (aI (.sl .u8)) k aW (by omega) hall he⟩,by omega,?_⟩
    rw[bH _ k rfl (by omega)]
    try rfl
  ·try simp only[aP]at aW
   exact aK (aq X [6] rfl (aj (af rfl ⟨by rw[xw a b k (by omega) (by omega) hall],⟨⟩⟩)))
theorem ia(a b:List (List UInt8)):So 158 [.a (.sl (.sl .u8) a), .a (.sl (.sl .u8) b)] [aH (a==b)]:=by
 refine ay X call158 func158 ntmps158 rfl rfl ?_
 intro zb
 exact aq X [0,1] rfl (aD X [] [(7,⟨false,[aH _]⟩)] [4] [] rfl (by(with_reducible and_intros)<;>first|exact⟨⟩|exact(iG _ _)) (aj (af rfl ⟨rfl,⟨⟩⟩)))
theorem sj(b:List UInt8):So 210 [.a (.sl .u8 b)] [aH (AU b)]:=by
 refine ay X call210 func210 ntmps210 rfl rfl ?_
 intro zb
 exact aq X [0] rfl (aq X [2] rfl (aj (af rfl ⟨rfl,⟨⟩⟩)))
theorem dV(n:Int):So 60 [az n] [aH (cM n)]:=by
 refine ay X call60 func60 ntmps60 rfl rfl ?_
 intro zb
 exact aq X [0] rfl (aD X [] [(4,⟨false,[aH _]⟩)] [2] [] rfl (by(with_reducible and_intros)<;>first|exact⟨⟩|exact(aM _ _ _)) (aj (af rfl ⟨rfl,⟨⟩⟩)))
theorem gf(n:Int):So 130 [az n] [aH (cM n)]:=by
 refine ay X call130 func130 ntmps130 rfl rfl ?_
 intro zb
 exact aq X [0] rfl (aD X [] [(4,⟨false,[aH _]⟩)] [2] [] rfl (by(with_reducible and_intros)<;>first|exact⟨⟩|exact(bf _ _ _)) (aj (af rfl ⟨rfl,⟨⟩⟩)))
theorem dW(c:eg):So 140 [.agg (bP c)] [aH (dy c)]:=by
 refine ay X call140 func140 ntmps140 rfl rfl ?_
 intro zb
 exact aq X [1] rfl (aq X [1,3] rfl (aD X [] [(6,⟨false,[aH (inr c.id 0 7)]⟩),(10,⟨false,[aH (inr c.ct 0 7)]⟩),(22,⟨false,[aH (fK c.key)]⟩),(40,⟨false,[aH (c.aJ.any AU)]⟩),(47,⟨false,[aH (c.inbox.any AU)]⟩),(56,⟨false,[aH (inr c.sent 0 (c.aJ.length:Int))]⟩),(61,⟨false,[aH (inr c.next 0 100000)]⟩)] [2] [] rfl (by(with_reducible and_intros);(iterate 7 all_goals try first|exact⟨⟩|exact(aM c.id 0 7)|exact fun _=>(aM c.ct 0 7)|exact fun _=>(hJ c.key)|exact fun _=>(eC _ _ _ sj)|exact fun _=>(aM c.sent 0 (c.aJ.length:Int))|exact fun _=>(aM c.next 0 100000))) (aj (af rfl ⟨(congrArg Value.bool (by simp only[dy,aU]<;>first|rfl|ac_rfl)),⟨⟩⟩))))
theorem zj(i f k:Int):So 261 [az i,az f,az k] [aH (inr i 0 7&&inr f 0 7&& !(i==f)&&fK k)]:=by
 refine ay X call261 func261 ntmps261 rfl rfl ?_
 intro zb
 exact aq X [0,1,2] rfl (aD X [] [(8,⟨false,[aH (inr i 0 7)]⟩),(11,⟨false,[aH (inr f 0 7)]⟩),(20,⟨false,[aH (fK k)]⟩)] [6] [] rfl (by(with_reducible and_intros);(iterate 3 all_goals try first|exact⟨⟩|exact(bf i 0 7)|exact fun _=>(bf f 0 7)|exact fun _=>(hY k))) (aj (af rfl ⟨(congrArg Value.bool (by simp only[aU]<;>first|rfl|ac_rfl)),⟨⟩⟩)))
theorem qA(l:List (List UInt8)):So 262 [.a (.sl (.sl .u8) l)] [aH (decide ((l.length:Int)≤16)&& !l.any AU)]:=by
 refine ay X call262 func262 ntmps262 rfl rfl ?_
 intro zb
 refine cx 0 rfl (fun j0=>(aq X [0] rfl (aa (aq X [0,3] rfl ?_))))
 refine au (aG (fun k=>k≤l.length∧(l.take k).any AU=false) (fun k:Nat=> [(3, .one ((az k)))]) (fun k=> []) (fun k=>l.length-k) 0 (fun k=>rfl) ⟨Nat.zero_le _,rfl⟩ rfl ?_)
 rintro k ⟨hk,hall⟩
 refine aa (aq X [0,3,7] rfl ?_)
 refine ah rfl ?_ ?_<;>intro hb0
 ·try simp only[aP]at hb0
  refine an (aa (au (aC X [0,3,15] rfl (by and_intros<;>first|exact⟨⟩| (intros;omega)) ?_)))
  refine ah rfl ?_ ?_<;>intro aW
  ·exact aq X [2] rfl (aj (af rfl ⟨by rw[CX l AU (aI (.sl .u8)) k hb0 aW];simp,⟨⟩⟩))
  ·refine an (bt X [0,3] rfl ?_)
   refine⟨k+1,⟨by omega,xz (aI (.sl .u8)) hb0 hall aW⟩,by omega,?_⟩
   rw[bH _ k rfl (by omega)]
   try rfl
 ·try simp only[aP]at hb0
  have qz:l.any AU=false:=by rw[←hall,List.take_of_length_le hb0]
  exact aK (aq X [2] rfl (aj (af rfl ⟨by rw[qz];simp,⟨⟩⟩)))
theorem dX(c:eg):So 207 [.agg (bP c)] [aH (dy c)]:=by
 refine ay X call207 func207 ntmps207 rfl rfl ?_
 intro zb
 refine aq X [1] rfl (aa ?_)
 have t1:=(zj c.id c.ct c.key)
 have t2:=(qA c.aJ)
 have t3:=(qA c.inbox)
 exact aE X [] [(9,⟨false,bJ t1⟩),(13,⟨false,bJ t2⟩),(18,⟨false,bJ t3⟩),(26,⟨false,[aH (inr c.sent 0 (c.aJ.length:Int))]⟩),(31,⟨false,[aH (inr c.next 0 100000)]⟩)] [2] [] rfl (by(with_reducible and_intros);(iterate 5 all_goals try first|exact⟨⟩|exact t1|exact fun _=>t2|exact fun _=>t3|exact fun _=>(bf c.sent 0 (c.aJ.length:Int))|exact fun _=>(bf c.next 0 100000))) (aj (af rfl ⟨(congrArg Value.bool (by simp only[dy,aU]<;>first|rfl|ac_rfl)),⟨⟩⟩))
theorem qB(a b:eg):So 141 [.agg (bP a), .agg (bP b)] [aH (iY a b)]:=by
 refine ay X call141 func141 ntmps141 rfl rfl ?_
 intro zb
 exact aq X [2,3] rfl (aD X [] [(36,⟨false,[aH (a.aJ==b.aJ)]⟩)] [4] [] rfl (by(with_reducible and_intros)<;>first|exact⟨⟩|exact fun _=>(ia a.aJ b.aJ)) (aj (af rfl ⟨(congrArg Value.bool (by simp only[iY,aU]<;>first|rfl|ac_rfl)),⟨⟩⟩)))
theorem Cj(a b:List (List UInt8)):So 90 [.a (.sl (.sl .u8) a), .a (.sl (.sl .u8) b)] [aH (AV a b)]:=by
 refine ay X call90 func90 ntmps90 rfl rfl ?_
 intro zb
 refine aq X [0,1] rfl (aa ?_)
 have t1:=(ia a ((b.take (a.length:Int).toNat).drop (0:Int).toNat))
 refine aE X [] [(16,⟨false,bJ t1⟩)] [4] [] rfl (by(with_reducible and_intros)<;>first|exact⟨⟩|exact fun _=>t1| ((intro h1;first| (intro h2;first| (intro h3;refine And.intro ?_ ?_)|refine And.intro ?_ ?_)|refine And.intro ?_ ?_)<;>first|omega| ((try simp only[aP]at*);(try simp(disch:=omega) only[bV]);omega))) ?_
 exact aj (af rfl ⟨(congrArg Value.bool (by simp only[AV,List.drop_zero,Int.toNat_zero,aU]<;>first|rfl|ac_rfl)),⟨⟩⟩)
theorem dY(d:bC):So 65 [.agg (bK d)] [aH (c9 d)]:=by
 refine ay X call65 func65 ntmps65 rfl rfl ?_
 intro zb
 exact aq X [1] rfl (aD X [] [(5,⟨false,[aH (dy d.live)]⟩),(9,⟨false,[aH (dy d.saved)]⟩),(16,⟨false,[aH (iY d.live d.saved)]⟩),(43,⟨false,[aH (AV d.saved.inbox d.live.inbox)]⟩)] [2] [] rfl (by(with_reducible and_intros);(iterate 4 all_goals try first|exact⟨⟩|exact(dW d.live)|exact fun _=>(dW d.saved)|exact fun _=>(qB d.live d.saved)|exact fun _=>(Cj d.saved.inbox d.live.inbox))) (aj (af rfl ⟨(congrArg Value.bool (by simp only[c9,aU]<;>first|rfl|ac_rfl)),⟨⟩⟩)))
theorem dZ(d:bC):So 131 [.agg (bK d)] [aH (c9 d)]:=by
 refine ay X call131 func131 ntmps131 rfl rfl ?_
 intro zb
 refine aq X [1] rfl (aq X [1,3] rfl (aq X [3,4] rfl (aa (aD X [] [(10,⟨false,[aH (dy d.live)]⟩),(14,⟨false,[aH (dy d.saved)]⟩),(50,⟨false,[aH (d.live.aJ==d.saved.aJ)]⟩)] [3,4,52] [] rfl (by(with_reducible and_intros);(iterate 3 all_goals try first|exact⟨⟩|exact(dX d.live)|exact fun _=>(dX d.saved)|exact fun _=>(kP d.live.aJ d.saved.aJ))) ?_))))
 refine ah rfl ?_ ?_<;>intro hb0
 ·exact aq X [2] rfl (aj (af rfl ⟨by rw[show c9 d=false from by rw[c9,b9 (R:=dy d.live&&dy d.saved&&iY d.live d.saved) hb0 (by simp only[iY,aU]<;>first|rfl|ac_rfl)];rfl],⟨⟩⟩))
 ·have hh:(dy d.live&&dy d.saved&&iY d.live d.saved)=true:=bX hb0 (by simp only[iY,aU]<;>first|rfl|ac_rfl)
  refine an (aa ?_)
  have t1:=(kP d.saved.inbox ((d.live.inbox.take (d.saved.inbox.length:Int).toNat).drop (0:Int).toNat))
  refine bZ X [] [(83,⟨false,bJ t1⟩)] [2] [] 33 MO (by kernel_rfl) rfl (by(with_reducible and_intros)<;>first|exact⟨⟩|exact fun _=>t1| ((intro h1;first| (intro h2;first| (intro h3;refine And.intro ?_ ?_)|refine And.intro ?_ ?_)|refine And.intro ?_ ?_)<;>first|omega| ((try simp only[aP]at*);(try simp(disch:=omega) only[bV]);omega))) ?_
  exact aj (af rfl ⟨(congrArg Value.bool (by simp only[c9,hh,AV,List.drop_zero,Int.toNat_zero,aU]<;>first|rfl|ac_rfl)),⟨⟩⟩)
end
section
set_option maxRecDepth 100000
theorem b7(x:bp):So 13 [.agg (aT x)] [aH (okW x)]:=by
 refine ay X call13 func13 ntmps13 rfl rfl ?_
 intro zb
 refine bB 0 1 rfl rfl (fun nv=> ?_)
 refine bB 0 2 rfl rfl (fun mo=>(aq X [1] rfl (aa (cQ X [] [(10,⟨false,[aH (inr x.rows 1 64)]⟩),(16,⟨false,[aH (cM (x.av.length:Int))]⟩),(23,⟨false,[aH (inr (x.ak.length:Int) 2 8)]⟩),(36,⟨false,[aH (eW x.aB)]⟩),(50,⟨false,[az (dh x.aB)]⟩),(58,⟨false,[aH (fK x.aX)]⟩),(64,⟨false,[aH (inr x.round 0 100000)]⟩)] [1,71] [] 64 MO (by kernel_rfl) rfl (by(with_reducible and_intros);(iterate 7 all_goals try first|exact⟨⟩|exact(aM x.rows 1 64)|exact fun _=>(dV (x.av.length:Int))|exact fun _=>(aM (x.ak.length:Int) 2 8)|exact fun _=>(lE x.aB)|exact fun _=>(lT x.aB)|exact fun _=>(hJ x.aX)|exact fun _=>(aM x.round 0 100000));all_goals first| (refine fun _=> ?_;dsimp only[hyps,Hy];omega)) ?_))))
 refine ah rfl ?_ ?_<;>intro hb0
 ·exact aq X [2] rfl (aj (af rfl ⟨by rw[show okW x=false from by rw[okW,b9 (R:=Kf x) hb0 (by simp only[Kf,aU]<;>first|rfl|ac_rfl)];rfl],⟨⟩⟩))
 ·have hh:Kf x=true:=bX hb0 (by simp only[Kf,aU]<;>first|rfl|ac_rfl)
  obtain⟨Zk,hd8,_⟩:=ni hh
  refine an (aa (aq X [1,73,74,75] rfl ?_))
  refine au (aG (fun k=>k≤x.av.length∧(List.range k).all (GD x)=true) (fun k:Nat=> [(75, .one ((az k)))]) (fun k=> []) (fun k=>x.av.length-k) 0 (fun k=>rfl) ⟨Nat.zero_le _,rfl⟩ rfl ?_)
  rintro k ⟨hk,hall⟩
  refine aq X [1,73,74,75,76] rfl ?_
  refine aa (ah rfl ?_ ?_)<;>intro aW
  ·try simp only[aP]at aW
   refine an (aa (au (aC X [1,3,4,73,74,75] rfl (by and_intros<;>first|exact⟨⟩| (intros;omega)) (aD X [] [(81,⟨false,[aH (cm (x.av.getD k (aI .bw)))]⟩)] [1,73,74,75,108] [] rfl (by(with_reducible and_intros)<;>first|exact⟨⟩|exact(dn (x.av.getD k (aI .bw)))) ?_))))
   refine ah rfl ?_ ?_<;>intro bz
   ·have hk2:GD x k=false:=b9 bz (by simp only[GD,aU]<;>first|rfl|ac_rfl)
    exact aq X [2] rfl (aj (af rfl ⟨by rw[show okW x=false from by rw[okW,mw aW hk2];simp],⟨⟩⟩))
   ·have hk2:GD x k=true:=bX bz (by simp only[GD,aU]<;>first|rfl|ac_rfl)
    refine an (bt X [1,73,74,75] rfl ?_)
    refine⟨k+1,⟨by omega,ke hall hk2⟩,by omega,?_⟩
    rw[bH _ k rfl (by omega)]
    try rfl
  ·try simp only[aP]at aW
   have qz:(List.range x.av.length).all (GD x)=true:=by rw[show x.av.length=k by omega];exact hall
   refine aK (aa (aq X [1,111,112,113] rfl ?_))
   refine au (aG (fun k1=>k1≤x.ak.length∧(List.range k1).all (okD x)=true) (fun k1:Nat=> [(113, .one ((az k1)))]) (fun k1=> []) (fun k1=>x.ak.length-k1) 0 (fun k1=>rfl) ⟨Nat.zero_le _,rfl⟩ rfl ?_)
   rintro k1 ⟨hk1,Yb⟩
   refine aq X [1,111,112,113,114] rfl ?_
   refine aa (ah rfl ?_ ?_)<;>intro dD
   ·try simp only[aP]at dD
    have hx:=SQ k1 (by omega)
    have hlt:=xA k1 x.ak.length dD Zk
    refine an (aa (au (aC X [1,5,6,111,112,113] rfl (by and_intros<;>first|exact⟨⟩| (intros;omega)) (aq X [1,5,6,7,111,112,113] rfl (cQ X [] [(121,⟨false,[aH (c9 (x.ak.getD k1 (aI .bC)))]⟩)] [1,111,112,113,155] [] 36 MO (by kernel_rfl) rfl (by(with_reducible and_intros)<;>first|exact⟨⟩|exact(dY (x.ak.getD k1 (aI .bC)))| ((intro h1;first| (intro h2;first| (intro h3;refine And.intro ?_ ?_)|refine And.intro ?_ ?_)|refine And.intro ?_ ?_)<;>first|omega| ((try simp only[aP]at*);(try simp(disch:=omega) only[bV]);omega))) ?_)))))
    refine ah rfl ?_ ?_<;>intro kS
    ·have Rt:okD x k1=false:=b9 kS (by simp only[okD,hx,aU]<;>first|rfl|ac_rfl)
     exact aq X [2] rfl (aj (af rfl ⟨by rw[show okW x=false from by rw[okW,mw dD Rt];simp],⟨⟩⟩))
    ·have Rt:okD x k1=true:=bX kS (by simp only[okD,hx,aU]<;>first|rfl|ac_rfl)
     refine an (bt X [1,111,112,113] rfl ?_)
     refine⟨k1+1,⟨by omega,ke Yb Rt⟩,by omega,?_⟩
     rw[bH _ k1 rfl (by omega)]
     try rfl
   ·try simp only[aP]at dD
    have SR:(List.range x.ak.length).all (okD x)=true:=by rw[show x.ak.length=k1 by omega];exact Yb
    exact aK (aq X [2] rfl (aj (af rfl ⟨by rw[okW,hh,qz,SR];rfl,⟨⟩⟩)))
theorem zk(x:bp):So 49 [.agg (aT x)] [aH (svW x)]:=by
 refine ay X call49 func49 ntmps49 rfl rfl ?_
 intro zb
 refine bB 0 1 rfl rfl (fun nv=> ?_)
 refine bB 0 2 rfl rfl (fun mo=>(aq X [1] rfl (aa (aq X [1,3] rfl ?_))))
 refine au (aG (fun k=>k≤x.av.length∧(List.range k).all (GD x)=true) (fun k:Nat=> [(3, .one ((az k)))]) (fun k=> []) (fun k=>x.av.length-k) 0 (fun k=>rfl) ⟨Nat.zero_le _,rfl⟩ rfl ?_)
 rintro k ⟨hk,hall⟩
 refine aa (aq X [1,3,9] rfl ?_)
 refine ah rfl ?_ ?_<;>intro hb0
 ·try simp only[aP]at hb0
  refine an (aa (au (aC X [1,3,4] rfl (by and_intros<;>first|exact⟨⟩| (intros;omega)) (aD X [] [(18,⟨false,[aH (cm (x.av.getD k (aI .bw)))]⟩)] [1,3,45] [] rfl (by(with_reducible and_intros)<;>first|exact⟨⟩|exact(cO (x.av.getD k (aI .bw)))) ?_))))
  refine ah rfl ?_ ?_<;>intro aW
  ·have hk2:GD x k=false:=b9 aW (by simp only[GD,aU]<;>first|rfl|ac_rfl)
   exact aq X [2] rfl (aj (af rfl ⟨by rw[show svW x=false from by rw[svW,mw hb0 hk2];simp],⟨⟩⟩))
  ·have hk2:GD x k=true:=bX aW (by simp only[GD,aU]<;>first|rfl|ac_rfl)
   refine an (bt X [1,3] rfl ?_)
   refine⟨k+1,⟨by omega,ke hall hk2⟩,by omega,?_⟩
   rw[bH _ k rfl (by omega)]
   try rfl
 ·try simp only[aP]at hb0
  have qz:(List.range x.av.length).all (GD x)=true:=by rw[show x.av.length=k by omega];exact hall
  exact aK (aD X [] [(49,⟨false,[aH _]⟩)] [2] [] rfl (by(with_reducible and_intros)<;>first|exact⟨⟩|exact(gf _)) (aj (af rfl ⟨by rw[svW,qz];rfl,⟨⟩⟩)))
theorem zl(x:bp):So 50 [.agg (aT x)] [aH (Ya x)]:=by
 refine ay X call50 func50 ntmps50 rfl rfl ?_
 intro zb
 refine bB 0 1 rfl rfl (fun nv=> ?_)
 refine bB 0 2 rfl rfl (fun mo=>(aq X [1] rfl (aq X [1,3] rfl (aa (aD X [] [(14,⟨false,[aH (inr (x.ak.length:Int) 2 8)]⟩)] [1,3,16] [] rfl (by(with_reducible and_intros)<;>first|exact⟨⟩|exact fun _=>(bf (x.ak.length:Int) 2 8)| (intros;omega)) ?_)))))
 refine ah rfl ?_ ?_<;>intro hb0
 ·exact aq X [2] rfl (aj (af rfl ⟨by rw[show Ya x=false from by rw[Ya,b9 (R:=((x.ak.length:Int).tmod 2==0)&&inr x.ak.length 2 8) hb0 (by simp only[aU]<;>first|rfl|ac_rfl)];rfl],⟨⟩⟩))
 ·have hh:(((x.ak.length:Int).tmod 2==0)&&inr x.ak.length 2 8)=true:=bX hb0 (by simp only[aU]<;>first|rfl|ac_rfl)
  have Zk:x.ak.length % 2=0:=by simp only[Bool.and_eq_true,beq_iff_eq]at hh;have:=hh.1;rw[ep (by omega)]at this;omega
  have hd8:x.ak.length≤8:=by simp only[Bool.and_eq_true,cL]at hh;omega
  refine an (aa (aq X [1,3,4] rfl ?_))
  refine au (aG (fun k=>k≤x.ak.length∧(List.range k).all (okD x)=true) (fun k:Nat=> [(4, .one ((az k)))]) (fun k=> []) (fun k=>x.ak.length-k) 0 (fun k=>rfl) ⟨Nat.zero_le _,rfl⟩ rfl ?_)
  rintro k ⟨hk,hall⟩
  refine aa (aq X [1,3,4,19] rfl ?_)
  refine ah rfl ?_ ?_<;>intro aW
  ·try simp only[aP]at aW
   have hx:=SQ k (by omega)
   have hlt:=xA k x.ak.length aW Zk
   refine an (aa (au (aC X [1,3,4,5] rfl (by and_intros<;>first|exact⟨⟩| (intros;omega)) (cQ X [] [(28,⟨false,[aH (c9 (x.ak.getD k (aI .bC)))]⟩)] [1,3,4,66] [] 40 MO (by kernel_rfl) rfl (by(with_reducible and_intros)<;>first|exact⟨⟩|exact(dZ (x.ak.getD k (aI .bC)))| ((intro h1;first| (intro h2;first| (intro h3;refine And.intro ?_ ?_)|refine And.intro ?_ ?_)|refine And.intro ?_ ?_)<;>first|omega| ((try simp only[aP]at*);(try simp(disch:=omega) only[bV]);omega))) ?_))))
   refine ah rfl ?_ ?_<;>intro bz
   ·have Rt:okD x k=false:=b9 bz (by simp only[okD,hx,aU]<;>first|rfl|ac_rfl)
    exact aq X [2] rfl (aj (af rfl ⟨by rw[show Ya x=false from by rw[Ya,mw aW Rt];simp],⟨⟩⟩))
   ·have Rt:okD x k=true:=bX bz (by simp only[okD,hx,aU]<;>first|rfl|ac_rfl)
    refine an (bt X [1,3,4] rfl ?_)
    refine⟨k+1,⟨by omega,ke hall Rt⟩,by omega,?_⟩
    rw[bH _ k rfl (by omega)]
    try rfl
  ·try simp only[aP]at aW
   have SR:(List.range x.ak.length).all (okD x)=true:=by rw[show x.ak.length=k by omega];exact hall
   exact aK (aq X [2] rfl (aj (af rfl ⟨by rw[Ya,hh,SR];rfl,⟨⟩⟩)))
theorem cB(x:bp):So 9 [.agg (aT x)] [aH (okW x)]:=by
 refine ay X call9 func9 ntmps9 rfl rfl ?_
 intro zb
 exact aq X [1] rfl (cQ X [] [(5,⟨false,[aH (inr x.rows 1 64)]⟩),(9,⟨false,[aH (inr x.round 0 100000)]⟩),(13,⟨false,[aH (svW x)]⟩),(17,⟨false,[aH (Ya x)]⟩),(22,⟨false,[aH (eW x.aB)]⟩),(35,⟨false,[az (dh x.aB)]⟩),(43,⟨false,[aH (fK x.aX)]⟩)] [2] [] 48 MO (by kernel_rfl) rfl (by(with_reducible and_intros);(iterate 7 all_goals try first|exact⟨⟩|exact(bf x.rows 1 64)|exact fun _=>(bf x.round 0 100000)|exact fun _=>(zk x)|exact fun _=>(zl x)|exact fun _=>(gU x.aB)|exact fun _=>(gd x.aB)|exact fun _=>(hY x.aX))) (aj (af rfl ⟨(congrArg Value.bool (by simp only[okW,Kf,svW,Ya,aU]<;>first|rfl|ac_rfl)),⟨⟩⟩)))
theorem Ck(key c:Int)(p:Plain):So 163 [az key,az c, .agg (iS p)] [.a (.sl .u8 (sR key c p)),aH (jT key c p)]:=by
 refine ay X call163 func163 ntmps163 rfl rfl ?_
 intro zb
 refine aq X [0,1,5] rfl (aa (aD X [] [(11,⟨false,[aH (fK key)]⟩),(15,⟨false,[aH (inr c 0 1000000000000)]⟩),(20,⟨false,[aH (jG p)]⟩)] [0,1,5,22] [] rfl (by(with_reducible and_intros);(iterate 3 all_goals try first|exact⟨⟩|exact(hJ key)|exact fun _=>(aM c 0 1000000000000)|exact fun _=>(mV p))) ?_))
 refine ah rfl ?_ ?_<;>intro hb0
 ·have hk:jT key c p=false:=b9 hb0 (by simp only[jT,aU]<;>first|rfl|ac_rfl)
  exact aq X [6,7] rfl (aj (af rfl ⟨by rw[sR,if_neg (by rw[hk];decide)],by rw[hk],⟨⟩⟩))
 ·have hk:jT key c p=true:=bX hb0 (by simp only[jT,aU]<;>first|rfl|ac_rfl)
  have hp:=pF hk
  have hst:(stream (kh key [61,c]) (18:Int).toNat).length=18:=fB _ _
  have nL:(gb key c p).length≤100:=by unfold gb;simp only[List.length_append,List.length_drop,List.length_cons,List.length_nil,fB];omega
  have hf4:(four (nW key c (mO (nX key c) (gb key c p)))).length=4:=rfl
  have hel:(mO (nX key c) (gb key c p)).length≤100:=by rw[jA];exact nL
  refine an (aD X [(33,30)] [] [0,1,5,8] [] rfl (by and_intros<;>first|exact⟨⟩|exact rfl|exact(rV _).1|exact(rV _).2| (simp only[dO,maxLen,lens];omega)) (cQ X [(44,30)] [(38,⟨false,[az (kh key [61,c])]⟩),(39,⟨true,[.a (.sl .u8 (stream (kh key [61,c]) (18:Int).toNat))]⟩)] [0,1,8] [] 10 MO (by kernel_rfl) rfl (by(repeat' with_reducible first|exact aL|refine aS ?_ ?_|apply And.intro);(iterate 2 all_goals try first|exact(bU key [61,c] (by first|assumption|omega| (simp;done)| (simp;omega)))|exact(jR (kh key [61,c]) 18 (by first|assumption|omega| (simp;done)| (simp;omega)) (by first|assumption|omega| (simp;done)| (simp;omega))));all_goals first| (intros;omega)|exact rfl|exact⟨rfl,bn _ (by decide)⟩| (simp only[dO,maxLen,lens];omega)) ?_))
  refine aD X [] [(47,⟨false,[az (nX key c)]⟩),(49,⟨true,[.a (.sl .u8 (mO (nX key c) (gb key c p)))]⟩)] [0,1,9] [] rfl (by(with_reducible and_intros);(iterate 2 all_goals try first|exact⟨⟩|exact(uF key c)|exact(Ey (nX key c) (gb key c p) (by first|assumption|omega| (simp;done)| (simp;omega))))) (aa ?_)
  have t1:=(pE key c (mO (nX key c) (gb key c p)) (by first|assumption|omega| (simp;done)| (simp;omega)))
  exact aE X [(55,49)] [(54,⟨true,bJ t1⟩)] [6,7] [] rfl (by(with_reducible and_intros)<;>first|exact⟨⟩|exact t1|exact rfl| (simp only[dO,maxLen,lens];omega)) (aj (af rfl ⟨by rw[sR,if_pos hk],by rw[hk],⟨⟩⟩))
theorem jJ(key c:Int)(p:Plain):So 167 [az key,az c, .agg (iS p)] [.a (.sl .u8 (sR key c p)),aH (jT key c p)]:=by
 refine ay X call167 func167 ntmps167 rfl rfl ?_
 intro zb
 refine aq X [0,1,5] rfl (aa (aD X [] [(12,⟨false,[aH (fK key)]⟩),(16,⟨false,[aH (inr c 0 1000000000000)]⟩),(21,⟨false,[aH (jG p)]⟩)] [0,1,5,23] [] rfl (by(with_reducible and_intros);(iterate 3 all_goals try first|exact⟨⟩|exact(hY key)|exact fun _=>(bf c 0 1000000000000)|exact fun _=>(wj p))) ?_))
 refine ah rfl ?_ ?_<;>intro hb0
 ·have hk:jT key c p=false:=b9 hb0 (by simp only[jT,aU]<;>first|rfl|ac_rfl)
  exact aC X [6,7] rfl (by and_intros<;>first|exact⟨⟩|exact rfl) (aj (af rfl ⟨by rw[sR,if_neg (by rw[hk];decide)],by rw[hk],⟨⟩⟩))
 ·have hk:jT key c p=true:=bX hb0 (by simp only[jT,aU]<;>first|rfl|ac_rfl)
  have hp:=pF hk
  have hst:(stream (kh key [61,c]) (18:Int).toNat).length=18:=fB _ _
  have nL:(gb key c p).length≤100:=by unfold gb;simp only[List.length_append,List.length_drop,List.length_cons,List.length_nil,fB];omega
  have hf4:(four (nW key c (mO (nX key c) (gb key c p)))).length=4:=rfl
  have hel:(mO (nX key c) (gb key c p)).length≤100:=by rw[jA];exact nL
  refine an (aD X [(35,32)] [] [0,1,5,8] [] rfl (by and_intros<;>first|exact⟨⟩|exact rfl|exact(rV _).1|exact(rV _).2| (simp only[dO,maxLen,lens];omega)) (cQ X [(46,32)] [(40,⟨false,[az (kh key [61,c])]⟩),(41,⟨true,[.a (.sl .u8 (stream (kh key [61,c]) (18:Int).toNat))]⟩)] [0,1,8] [] 10 MO (by kernel_rfl) rfl (by(repeat' with_reducible first|exact aL|refine aS ?_ ?_|apply And.intro);(iterate 2 all_goals try first|exact(bE key [61,c] (by first|assumption|omega| (simp;done)| (simp;omega)))|exact(jS (kh key [61,c]) 18 (by first|assumption|omega| (simp;done)| (simp;omega)) (by first|assumption|omega| (simp;done)| (simp;omega))));all_goals first| (intros;omega)|exact rfl|exact⟨rfl,bn _ (by decide)⟩| (simp only[dO,maxLen,lens];omega)) ?_))
  refine aD X [] [(49,⟨false,[az (nX key c)]⟩),(51,⟨true,[.a (.sl .u8 (mO (nX key c) (gb key c p)))]⟩)] [0,1,9] [] rfl (by(with_reducible and_intros);(iterate 2 all_goals try first|exact⟨⟩|exact(qy key c)|exact(EA (nX key c) (gb key c p) (by first|assumption|omega| (simp;done)| (simp;omega))))) (aa ?_)
  have t1:=(qx key c (mO (nX key c) (gb key c p)) (by first|assumption|omega| (simp;done)| (simp;omega)))
  exact aE X [] [(55,⟨false,bJ t1⟩)] [9,10] [] rfl (by(with_reducible and_intros)<;>first|exact⟨⟩|exact t1) (aD X [(69,51)] [] [6,7] [] rfl (by and_intros<;>first|exact⟨⟩| (intros;omega)|exact rfl|exact(rV _).1|exact(rV _).2| (simp only[dO,maxLen,lens];omega)) (aj (af rfl ⟨(congrArg (fun z=>mO (nX key c) (gb key c p)++z) (N1 _)).trans (by rw[sR,if_pos hk]),by rw[hk],⟨⟩⟩)))
theorem ff(x:bp)(c:Int):So 79 [.agg (aT x),az c] [aH (ku x c)]:=by
 refine ay X call79 func79 ntmps79 rfl rfl ?_
 intro zb
 exact bB 0 2 rfl rfl (fun mo=>(aq X [1,2] rfl (aD X [] [(10,⟨false,[aH _]⟩)] [4] [] rfl (by(with_reducible and_intros)<;>first|exact⟨⟩|exact(aM _ _ _)) (aj (af rfl ⟨by rw[bV (by omega)];rfl,⟨⟩⟩)))))
theorem gh(c:eg):So 95 [.agg (bP c)] [az (cU c)]:=by
 refine ay X call95 func95 ntmps95 rfl rfl ?_
 intro zb
 refine aq X [1] rfl (aa (aq X [7] rfl ?_))
 refine ah rfl ?_ ?_<;>intro hb0
 ·try simp only[aP]at hb0
  exact aq X [2] rfl (aj (af rfl ⟨by rw[cU,if_pos hb0],⟨⟩⟩))
 ·try simp only[aP]at hb0
  exact an (aq X [2] rfl (aj (af rfl ⟨by rw[cU,if_neg (by omega)],⟨⟩⟩)))
theorem oc(c:eg)(a:Int)(h0:0≤a)(h1:a<c.aJ.length):So 97 [.agg (bP c),az a] [.a (.sl .u8 (n8 c a))]:=by
 refine ay X call97 func97 ntmps97 rfl rfl ?_
 intro zb
 refine aq X [1,2] rfl (aa ?_)
 have t1:=(Ck (nY c.key (cU c)) a (⟨1,(c.aJ.getD (a).toNat (aI (.sl .u8)))⟩:Plain))
 exact bZ X [] [(11,⟨false,[az (cU c)]⟩),(12,⟨false,[az (nY c.key (cU c))]⟩),(20,⟨true,bJ t1⟩)] [5] [] 18 MO (by kernel_rfl) rfl (by(with_reducible and_intros);(iterate 3 all_goals try first|exact⟨⟩|exact(gh c)|exact(jq c.key (cU c))|exact t1);all_goals first| (intros;omega)) (aq X [4] rfl (aj (af rfl ⟨rfl,⟨⟩⟩)))
theorem xC(c:eg)(r n:Int):So 180 [.agg (bP c),az r,az n] [az (n9 c r n), .a (.sl .u8 (gV c r n)),aH (oS c r n)]:=by
 refine ay X call180 func180 ntmps180 rfl rfl ?_
 intro zb
 refine bB 0 4 rfl rfl (fun j0=>(aq X [1,2,3] rfl (aa (aD X [] [(10,⟨false,[aH (dy c)]⟩),(14,⟨false,[aH (inr r 0 100000)]⟩),(19,⟨false,[aH (inr n 1 64)]⟩)] [1,2,3,21] [] rfl (by(with_reducible and_intros);(iterate 3 all_goals try first|exact⟨⟩|exact(dW c)|exact fun _=>(aM r 0 100000)|exact fun _=>(aM n 1 64))) ?_))))
 refine ah rfl ?_ ?_<;>intro hb0
 ·have hk:oS c r n=false:=b9 hb0 (by simp only[oS,aU]<;>first|rfl|ac_rfl)
  exact aq X [6,7,8] rfl (aj (af rfl ⟨by rw[n9,if_neg (by rw[hk];decide)],by rw[gV,if_neg (by rw[hk];decide)],by rw[hk],⟨⟩⟩))
 ·have hk:oS c r n=true:=bX hb0 (by simp only[oS,aU]<;>first|rfl|ac_rfl)
  have hs:=AW hk
  refine an (aa (aq X [1,2,3,27] rfl ?_))
  refine ah rfl ?_ ?_<;>intro aW
  ·try simp only[aP]at aW
   exact cQ X [] [(32,⟨false,[az (cU c)]⟩),(34,⟨false,[az (iX c.key r (cU c) n)]⟩),(38,⟨true,[.a (.sl .u8 (n8 c c.sent))]⟩)] [6,7,8] [] 14 MO (by kernel_rfl) rfl (by(with_reducible and_intros);(iterate 3 all_goals try first|exact⟨⟩|exact(gh c)|exact(kM c.key r (cU c) n)|exact(oc c c.sent (by first|assumption|omega| (simp;done)| (simp;omega)) (by first|assumption|omega| (simp;done)| (simp;omega))))) (aj (af rfl ⟨by rw[n9,if_pos hk,if_pos aW],by rw[gV,if_pos hk,if_pos aW],by rw[hk],⟨⟩⟩))
  ·try simp only[aP]at aW
   refine an (cQ X [] [(43,⟨false,[az (Cg c.seed r n)]⟩),(48,⟨false,[az (kh c.seed [r])]⟩),(49,⟨true,[.a (.sl .u8 (cover (kh c.seed [r])))]⟩)] [6,7,8] [] 14 MO (by kernel_rfl) rfl (by(repeat' with_reducible first|exact aL|refine aS ?_ ?_|apply And.intro);(iterate 3 all_goals try first|exact(Ch c.seed r n)|exact(bU c.seed [r] (by first|assumption|omega| (simp;done)| (simp;omega)))|exact(AS (kh c.seed [r])));all_goals first|exact⟨rfl,bn _ (by decide)⟩) ?_)
   exact aj (af rfl ⟨by rw[n9,if_pos hk,if_neg (by omega)],by rw[gV,if_pos hk,if_neg (by omega)],by rw[hk],⟨⟩⟩)
theorem dj(c:eg):So 99 [.agg (bP c)] [az (cU c)]:=by
 refine ay X call99 func99 ntmps99 rfl rfl ?_
 intro zb
 refine aq X [1] rfl (aa (aq X [7] rfl ?_))
 refine ah rfl ?_ ?_<;>intro hb0
 ·try simp only[aP]at hb0
  exact aq X [2] rfl (aj (af rfl ⟨by rw[cU,if_pos hb0],⟨⟩⟩))
 ·try simp only[aP]at hb0
  exact an (aq X [2] rfl (aj (af rfl ⟨by rw[cU,if_neg (by omega)],⟨⟩⟩)))
theorem og(c:eg)(h0:0≤c.sent)(h1:c.sent<c.aJ.length):So 102 [.agg (bP c)] [.a (.sl .u8 (n8 c c.sent))]:=by
 refine ay X call102 func102 ntmps102 rfl rfl ?_
 intro zb
 refine aq X [1] rfl (aa ?_)
 have t1:=(jJ (nY c.key (cU c)) c.sent (⟨1,(c.aJ.getD (c.sent).toNat (aI (.sl .u8)))⟩:Plain))
 exact bZ X [] [(9,⟨false,[az (cU c)]⟩),(10,⟨false,[az (nY c.key (cU c))]⟩),(20,⟨true,bJ t1⟩)] [3] [] 20 MO (by kernel_rfl) rfl (by(with_reducible and_intros);(iterate 3 all_goals try first|exact⟨⟩|exact(dj c)|exact(ey c.key (cU c))|exact t1);all_goals first| (intros;omega)) (aq X [2] rfl (aj (af rfl ⟨rfl,⟨⟩⟩)))
theorem xD(c:eg)(r n:Int):So 300 [.agg (bP c),az r,az n] [az (n9 c r n), .a (.sl .u8 (gV c r n)),aH (oS c r n)]:=by
 refine ay X call300 func300 ntmps300 rfl rfl ?_
 intro zb
 refine bB 0 4 rfl rfl (fun j0=>(aq X [1,2,3] rfl (aa (aD X [] [(10,⟨false,[aH (dy c)]⟩),(14,⟨false,[aH (inr r 0 100000)]⟩),(19,⟨false,[aH (inr n 1 64)]⟩)] [1,2,3,21] [] rfl (by(with_reducible and_intros);(iterate 3 all_goals try first|exact⟨⟩|exact(dX c)|exact fun _=>(bf r 0 100000)|exact fun _=>(bf n 1 64))) ?_))))
 refine ah rfl ?_ ?_<;>intro hb0
 ·have hk:oS c r n=false:=b9 hb0 (by simp only[oS,aU]<;>first|rfl|ac_rfl)
  exact aC X [6,7,8] rfl (by and_intros<;>first|exact⟨⟩|exact rfl) (aj (af rfl ⟨by rw[n9,if_neg (by rw[hk];decide)],by rw[gV,if_neg (by rw[hk];decide)],by rw[hk],⟨⟩⟩))
 ·have hk:oS c r n=true:=bX hb0 (by simp only[oS,aU]<;>first|rfl|ac_rfl)
  have hs:=AW hk
  refine an (aa (aq X [1,2,3,28] rfl ?_))
  refine ah rfl ?_ ?_<;>intro aW
  ·try simp only[aP]at aW
   exact cQ X [] [(33,⟨false,[az (cU c)]⟩),(35,⟨false,[az (iX c.key r (cU c) n)]⟩),(37,⟨true,[.a (.sl .u8 (n8 c c.sent))]⟩)] [6,7,8] [] 12 MO (by kernel_rfl) rfl (by(with_reducible and_intros);(iterate 3 all_goals try first|exact⟨⟩|exact(dj c)|exact(kN c.key r (cU c) n)|exact(og c (by first|assumption|omega| (simp;done)| (simp;omega)) (by first|assumption|omega| (simp;done)| (simp;omega))))) (aj (af rfl ⟨by rw[n9,if_pos hk,if_pos aW],by rw[gV,if_pos hk,if_pos aW],by rw[hk],⟨⟩⟩))
  ·try simp only[aP]at aW
   refine an (cQ X [] [(42,⟨false,[az (Cg c.seed r n)]⟩),(47,⟨false,[az (kh c.seed [r])]⟩),(48,⟨true,[.a (.sl .u8 (cover (kh c.seed [r])))]⟩)] [6,7,8] [] 14 MO (by kernel_rfl) rfl (by(repeat' with_reducible first|exact aL|refine aS ?_ ?_|apply And.intro);(iterate 3 all_goals try first|exact(Ci c.seed r n)|exact(bE c.seed [r] (by first|assumption|omega| (simp;done)| (simp;omega)))|exact(AT (kh c.seed [r])));all_goals first|exact⟨rfl,bn _ (by decide)⟩) ?_)
   exact aj (af rfl ⟨by rw[n9,if_pos hk,if_neg (by omega)],by rw[gV,if_pos hk,if_neg (by omega)],by rw[hk],⟨⟩⟩)
end
section
set_option maxRecDepth 100000
theorem uH(x:Int):So 299 [az x] [aH (!inr x 0 1)]:=by
 refine ay X call299 func299 ntmps299 rfl rfl ?_
 intro zb
 exact aq X [0] rfl (aD X [] [(4,⟨false,[aH _]⟩)] [2] [] rfl (by(with_reducible and_intros)<;>first|exact⟨⟩|exact(aM _ _ _)) (aj (af rfl ⟨rfl,⟨⟩⟩)))
theorem jU(v:List Int)(rows:Int):So 259 [.a (.sl .int v),az rows] [aH (gz v rows)]:=by
 refine ay X call259 func259 ntmps259 rfl rfl ?_
 intro zb
 exact aq X [0,1] rfl (aD X [] [(6,⟨false,[aH (inr rows 0 64)]⟩),(15,⟨false,[aH (v.any fun x=> !inr x 0 1)]⟩)] [4] [] rfl (by(with_reducible and_intros);(iterate 2 all_goals try first|exact⟨⟩|exact(aM rows 0 64)|exact fun _=>(mz _ _ _ uH))) (aj (af rfl ⟨by rw[Ml];exact(congrArg Value.bool (by simp only[aU]<;>first|rfl|ac_rfl)),⟨⟩⟩)))
theorem jV(v:List Int)(rows:Int):So 333 [.a (.sl .int v),az rows] [aH (gz v rows)]:=by
 refine ay X call333 func333 ntmps333 rfl rfl ?_
 intro zb
 refine cx 0 rfl (fun j0=>(aq X [0,1] rfl (aa (aq X [0,1,5] rfl ?_))))
 refine au (aG (fun k=>k≤v.length∧(v.take k).all (fun x=>inr x 0 1)=true) (fun k:Nat=> [(5, .one ((az k)))]) (fun k=> []) (fun k=>v.length-k) 0 (fun k=>rfl) ⟨Nat.zero_le _,rfl⟩ rfl ?_)
 rintro k ⟨hk,hall⟩
 refine aa (aq X [0,1,5,9] rfl ?_)
 refine ah rfl ?_ ?_<;>intro hb0
 ·try simp only[aP]at hb0
  refine an (aa (au (aD X [] [(16,⟨false,[aH (inr (v.getD k (aI .int)) 0 1)]⟩)] [0,1,5,17] [] rfl (by(with_reducible and_intros)<;>first|exact⟨⟩|exact(bf (v.getD k (aI .int)) 0 1)| (intros;omega)) ?_)))
  refine ah rfl ?_ ?_<;>intro aW
  ·exact aq X [4] rfl (aj (af rfl ⟨by rw[gz,Mi _ _ (aI .int) k hb0 (by simpa using aW)];simp,⟨⟩⟩))
  ·refine an (bt X [0,1,5] rfl ?_)
   refine⟨k+1,⟨by omega,by rw[Ew _ _ _ (aI .int) hb0,hall];simpa using aW⟩,by omega,?_⟩
   rw[bH _ k rfl (by omega)]
   try rfl
 ·try simp only[aP]at hb0
  exact aK (aq X [4] rfl (aj (af rfl ⟨by rw[List.take_of_length_le hb0]at hall;rw[gz,hall];exact(congrArg Value.bool (by simp only[aU]<;>first|rfl|ac_rfl)),⟨⟩⟩)))
theorem kV(sd rows:Int):So 122 [az sd,az rows] [.a (.sl .int (cA sd rows))]:=by
 refine ay X call122 func122 ntmps122 rfl rfl ?_
 intro zb
 refine aq X [0,1] rfl (aa (aD X [] [(9,⟨false,[aH (inr rows 0 64)]⟩)] [0,1,10] [] rfl (by(with_reducible and_intros)<;>first|exact⟨⟩|exact(aM rows 0 64)) ?_))
 refine ah rfl ?_ ?_<;>intro hb0
 ·try simp only[aP]at hb0
  exact aq X [4] rfl (aj (af rfl ⟨by rw[cA,if_neg (by omega)],⟨⟩⟩))
 ·try simp only[aP]at hb0
  refine an (aC X [0,1,5] rfl (by and_intros<;>first|exact⟨⟩|exact rfl) (aa (aq X [0,5,12,13] rfl ?_)))
  refine au (aG (fun k=>k≤rows.toNat) (fun k:Nat=> [(13, .one ((az k)))]) (fun k=> [(11, .arr .int ((cA sd rows).take k))]) (fun k=>rows.toNat-k) 0 (fun k=>rfl) (Nat.zero_le _) rfl ?_)
  intro k hk
  have hle:=bD (cA sd rows) k
  have hrl:=iH sd rows
  refine aq X [0,5,12,13,14] rfl ?_
  refine aa (ah rfl ?_ ?_)<;>intro aW
  ·try simp only[aP]at aW
   have hs:=zm sd rows k (by omega) (by omega)
   refine an (aa (au (aq X [0,5,6,12,13] rfl (aD X [] [(19,⟨false,[az (kh sd [(k:Int),41])]⟩)] [0,5,7,12,13] [] rfl (by(repeat' with_reducible first|exact aL|refine aS ?_ ?_|apply And.intro)<;>first|exact(bU sd [(k:Int),41] (by first|assumption|omega| (simp;done)| (simp;omega)))|exact⟨rfl,bn _ (by decide)⟩) ?_))))
   refine aE X [(28,11)] [] [0,5,12,13] [] rfl (by and_intros<;>first|exact⟨⟩| (intros;omega)|exact rfl| (simp only[dO,maxLen,lens];omega)) (bt X [0,5,12,13] rfl ?_)
   refine⟨k+1,by omega,by omega,?_⟩
   rw[bH _ k rfl (by omega),hs]
   try rfl
  ·try simp only[aP]at aW
   exact aK (aq X [4] rfl (aj (af rfl ⟨by rw[BX _ _ _ (by omega)],⟨⟩⟩)))
theorem uI(rows i:Int):So 252 [az rows,az i] [.a (.sl .int (zo rows i))]:=by
 refine ay X call252 func252 ntmps252 rfl rfl ?_
 intro zb
 refine aq X [0,1] rfl (aa (aD X [] [(7,⟨false,[aH (inr rows 1 64)]⟩),(13,⟨false,[aH (inr i 0 (IntKind.i64.wrap (rows-1)))]⟩)] [0,1,15] [] rfl (by(with_reducible and_intros);(iterate 2 all_goals try first|exact⟨⟩|exact(aM rows 1 64)|exact fun _=>(aM i 0 (IntKind.i64.wrap (rows-1))))) ?_))
 refine ah rfl ?_ ?_<;>intro hb0
 ·have hk:kU rows i=false:=b9 hb0 (by simp only[kU,aU]<;>first|rfl|ac_rfl)
  exact aq X [4] rfl (aj (af rfl ⟨by rw[AY hk],⟨⟩⟩))
 ·have hk:kU rows i=true:=bX hb0 (by simp only[kU,aU]<;>first|rfl|ac_rfl)
  have hu:=EF hk
  exact an (aC X [1,5] rfl (by and_intros<;>first|exact⟨⟩| (intros;omega)|exact rfl| (simp only[dO,maxLen,lens];omega)) (aC X [5] rfl (by and_intros<;>first|exact⟨⟩| (intros;omega)| (simp only[dO,maxLen,lens];omega)) (aq X [4] rfl (aj (af rfl ⟨by rw[AX hk],⟨⟩⟩)))))
theorem uJ(a b:List Int)(ha:a.length≤1048576)(hb:b.length≤1048576):So 253 [.a (.sl .int a), .a (.sl .int b)] [.a (.sl .int (qg a b))]:=by
 refine ay X call253 func253 ntmps253 rfl rfl ?_
 intro zb
 refine aq X [0,1] rfl (aa (aD X [] [(11,⟨false,[aH (gz a (a.length:Int))]⟩),(17,⟨false,[aH (gz b (a.length:Int))]⟩)] [0,1,19] [] rfl (by(with_reducible and_intros);(iterate 2 all_goals try first|exact⟨⟩|exact(jU a (a.length:Int))|exact fun _=>(jU b (a.length:Int)))) ?_))
 refine ah rfl ?_ ?_<;>intro hb0
 ·have wW:lF a b=false:=b9 hb0 (by simp only[lF,aU]<;>first|rfl|ac_rfl)
  exact aq X [4] rfl (aj (af rfl ⟨by rw[qg,if_neg (by rw[wW];decide)],⟨⟩⟩))
 ·have wW:lF a b=true:=bX hb0 (by simp only[lF,aU]<;>first|rfl|ac_rfl)
  have xF:=nC wW
  have hzl:=zn wW
  refine an (aD X [] [(21,⟨true,[.a (.sl .int _)]⟩)] [1,5] [] rfl (by(with_reducible and_intros)<;>first|exact⟨⟩|exact(gD _ (by first|assumption|omega| (simp;done)| (simp;omega)))) (aa (aq X [5,22,23,24] rfl ?_)))
  refine au (aG (fun k=>k≤b.length) (fun k:Nat=> [(24, .one ((az k)))]) (fun k=> [(21, .arr .int ((List.zipWith xb a b).take k++a.drop k))]) (fun k=>b.length-k) 0 (fun k=>rfl) (Nat.zero_le _) rfl ?_)
  intro k hk
  have hle:=kL (List.zipWith xb a b) a k hzl (by omega)
  refine aq X [5,22,23,24,25] rfl ?_
  refine aa (ah rfl ?_ ?_)<;>intro aW
  ·try simp only[aP]at aW
   have hs:=Kg wW k aW
   refine an (aa (au (aC X [5,6,7,22,23,24] rfl (by and_intros<;>first|exact⟨⟩| (intros;omega)) (eO X [5,22,23,24] rfl (by and_intros<;>first|exact⟨⟩| (intros;omega)) (bt X [5,22,23,24] rfl ?_)))))
   refine⟨k+1,by omega,by omega,?_⟩
   rw[bH _ k rfl (by omega),hs]
   try rfl
  ·try simp only[aP]at aW
   exact aK (aq X [4] rfl (aj (af rfl ⟨by rw[nh _ _ _ hzl (by omega),xE wW],⟨⟩⟩)))
theorem A3(rows i:Int)(sd:List Int)(Aq:sd.length≤1048576):So 192 [az rows,az i, .a (.sl .int sd)] [.a (.sl (.sl .int) (qC rows i sd))]:=by
 refine ay X call192 func192 ntmps192 rfl rfl ?_
 intro zb
 have hun:=AZ rows i
 refine aq X [0,1,2] rfl (aD X [] [(14,⟨true,[.a (.sl .int _)]⟩)] [0,2,7] [] rfl (by(with_reducible and_intros)<;>first|exact⟨⟩|exact(uI _ _)) (aa (aD X [] [(22,⟨false,[aH (cM (IntKind.i64.wrap ((sd.length:Int)+1)))]⟩)] [0,2,7,24] [] rfl (by(with_reducible and_intros)<;>first|exact⟨⟩|exact fun _=>(dV (IntKind.i64.wrap ((sd.length:Int)+1)))) ?_)))
 refine ah rfl ?_ ?_<;>intro hb0
 ·have hmk:EG rows i sd=false:=b9 hb0 (by simp only[EG,aU]<;>first|rfl|ac_rfl)
  exact aq X [6] rfl (aj (af rfl ⟨by rw[qC,if_neg (by rw[hmk];decide)],⟨⟩⟩))
 ·have hmk:EG rows i sd=true:=bX hb0 (by simp only[EG,aU]<;>first|rfl|ac_rfl)
  have xF:=Ki hmk Aq
  refine an (aC X [0,2,7,8] rfl (by and_intros<;>first|exact⟨⟩|exact rfl) (aa (aq X [0,7,8,26,27,28] rfl ?_)))
  refine au (aG (fun k=>k≤sd.length) (fun k:Nat=> [(28, .one ((az k)))]) (fun k=> [(25, .arr (.sl .int) ((sd.take k).map fun s=>cA s rows)),(14, .arr .int (zq rows i (sd.take k)))]) (fun k=>sd.length-k) 0 (fun k=>rfl) (Nat.zero_le _) rfl ?_)
  intro k hk
  have hle:=bD sd k
  have hql:=A0 rows i (sd.take k)
  refine aq X [0,7,8,26,27,28,29] rfl ?_
  refine aa (ah rfl ?_ ?_)<;>intro aW
  ·try simp only[aP]at aW
   have hs:=mu (fun s=>cA s rows) sd k (aI .int) aW
   have rB:=EH rows i sd k aW
   have hrl:=iH (sd.getD k (aI .int)) rows
   refine an (aa (au (aC X [0,7,8,10,26,27,28] rfl (by and_intros<;>first|exact⟨⟩| (intros;omega)) (aD X [] [(34,⟨true,[.a (.sl .int (cA (sd.getD k (aI .int)) rows))]⟩)] [0,7,8,11,26,27,28] [] rfl (by(with_reducible and_intros)<;>first|exact⟨⟩|exact(kV (sd.getD k (aI .int)) rows)) (aa (N5 X [(38,25)] [] [0,7,8,11,26,27,28] 2 25 rfl (by and_intros<;>first|exact⟨⟩|exact rfl| (simp only[dO,maxLen,lens];omega)) ?_))))))
   have t1:=(uJ (zq rows i (sd.take k)) (cA (sd.getD k (aI .int)) rows) (by first|assumption|omega| (simp;done)| (simp;omega)) (by first|assumption|omega| (simp;done)| (simp;omega)))
   refine aE X [] [(41,⟨true,bJ t1⟩)] [0,7,8,26,27,28] [] rfl (by(with_reducible and_intros)<;>first|exact⟨⟩|exact t1) (nD 7 14 rfl (bt X [0,7,8,26,27,28] rfl ?_))
   refine⟨k+1,by omega,by omega,?_⟩
   rw[bH _ k rfl (by omega),hs,rB]
   try rfl
  ·try simp only[aP]at aW
   exact aK (aD X [(46,25)] [] [6] [] rfl (by and_intros<;>first|exact⟨⟩|exact rfl| (simp only[dO,maxLen,lens];omega)) (aj (af rfl ⟨by rw[List.take_of_length_le aW,qC,if_pos hmk],⟨⟩⟩)))
theorem kW(sd rows:Int):So 276 [az sd,az rows] [.a (.sl .int (cA sd rows))]:=by
 refine ay X call276 func276 ntmps276 rfl rfl ?_
 intro zb
 refine aq X [0,1] rfl (aC X [0,1,5] rfl (by and_intros<;>first|exact⟨⟩|exact rfl) (aa (aq X [0,1,5,6] rfl ?_)))
 refine au (aG (fun k=>k≤(cA sd rows).length) (fun k:Nat=> [(6, .one ((az k)))]) (fun k=> [(8, .arr .int ((cA sd rows).take k))]) (fun k=>(cA sd rows).length-k) 0 (fun k=>rfl) (Nat.zero_le _) rfl ?_)
 intro k hk
 have hle:=bD (cA sd rows) k
 have hrl:=iH sd rows
 refine aa (aq X [0,1,5,6,15] rfl ?_)
 refine ah rfl ?_ ?_<;>intro hb0
 ·try simp only[aP]at hb0
  have hin:=EE sd rows k (by omega) (by omega)
  have hs:=zm sd rows k (by omega) (by omega)
  refine an (aa (au (aD X [] [(21,⟨false,[az (kh sd [(k:Int),41])]⟩)] [0,1,5,6,7] [] rfl (by(repeat' with_reducible first|exact aL|refine aS ?_ ?_|apply And.intro)<;>first|exact(bE sd [(k:Int),41] (by first|assumption|omega| (simp;done)| (simp;omega)))|exact⟨rfl,bn _ (by decide)⟩) ?_)))
  refine aE X [(30,8)] [] [0,1,5,6] [] rfl (by and_intros<;>first|exact⟨⟩| (intros;omega)|exact rfl| (simp only[dO,maxLen,lens];omega)) (bt X [0,1,5,6] rfl ?_)
  refine⟨k+1,by omega,by omega,?_⟩
  rw[bH _ k rfl (by omega),hs]
  try rfl
 ·try simp only[aP]at hb0
  exact aK (aq X [4] rfl (aj (af rfl ⟨by rw[BX _ _ _ (by omega)],⟨⟩⟩)))
theorem uK(rows i:Int):So 328 [az rows,az i] [.a (.sl .int (zo rows i))]:=by
 refine ay X call328 func328 ntmps328 rfl rfl ?_
 intro zb
 refine aq X [0,1] rfl (aa (aD X [] [(7,⟨false,[aH (inr rows 1 64)]⟩),(13,⟨false,[aH (inr i 0 (IntKind.i64.wrap (rows-1)))]⟩)] [0,1,15] [] rfl (by(with_reducible and_intros);(iterate 2 all_goals try first|exact⟨⟩|exact(bf rows 1 64)|exact fun _=>(bf i 0 (IntKind.i64.wrap (rows-1))))) ?_))
 refine ah rfl ?_ ?_<;>intro hb0
 ·have hk:kU rows i=false:=b9 hb0 (by simp only[kU,aU]<;>first|rfl|ac_rfl)
  exact aC X [4] rfl (by and_intros<;>first|exact⟨⟩|exact rfl) (aj (af rfl ⟨by rw[AY hk],⟨⟩⟩))
 ·have hk:kU rows i=true:=bX hb0 (by simp only[kU,aU]<;>first|rfl|ac_rfl)
  have hu:=EF hk
  exact an (aC X [1,5] rfl (by and_intros<;>first|exact⟨⟩| (intros;omega)|exact rfl| (simp only[dO,maxLen,lens];omega)) (aC X [5] rfl (by and_intros<;>first|exact⟨⟩| (intros;omega)| (simp only[dO,maxLen,lens];omega)) (aq X [4] rfl (aj (af rfl ⟨by rw[AX hk],⟨⟩⟩)))))
theorem uL(a b:List Int)(ha:a.length≤1048576)(hb:b.length≤1048576):So 329 [.a (.sl .int a), .a (.sl .int b)] [.a (.sl .int (qg a b))]:=by
 refine ay X call329 func329 ntmps329 rfl rfl ?_
 intro zb
 refine aq X [0,1] rfl (aC X [0,1,5] rfl (by and_intros<;>first|exact⟨⟩|exact rfl) (aa (aD X [] [(11,⟨false,[aH (gz a (a.length:Int))]⟩),(17,⟨false,[aH (gz b (a.length:Int))]⟩)] [0,1,5,19] [] rfl (by(with_reducible and_intros);(iterate 2 all_goals try first|exact⟨⟩|exact(jV a (a.length:Int))|exact fun _=>(jV b (a.length:Int)))) ?_)))
 refine ah rfl ?_ ?_<;>intro hb0
 ·have wW:lF a b=false:=b9 hb0 (by simp only[lF,aU]<;>first|rfl|ac_rfl)
  exact aq X [4] rfl (aj (af rfl ⟨by rw[qg,if_neg (by rw[wW];decide)],⟨⟩⟩))
 ·have wW:lF a b=true:=bX hb0 (by simp only[lF,aU]<;>first|rfl|ac_rfl)
  have xF:=nC wW
  have hzl:=zn wW
  refine an (aa (aq X [0,1,5,6] rfl ?_))
  refine au (aG (fun k=>k≤a.length) (fun k:Nat=> [(6, .one ((az k)))]) (fun k=> [(7, .arr .int ((List.zipWith xb a b).take k))]) (fun k=>a.length-k) 0 (fun k=>rfl) (Nat.zero_le _) rfl ?_)
  intro k hk
  have hle:=bD (List.zipWith xb a b) k
  refine aa (aq X [0,1,5,6,24] rfl ?_)
  refine ah rfl ?_ ?_<;>intro aW
  ·try simp only[aP]at aW
   have hs:=Kh wW k aW
   refine an (aa (au (bZ X [(38,7)] [] [0,1,5,6] [] 11 MO (by kernel_rfl) rfl (by and_intros<;>first|exact⟨⟩| (intros;omega)|exact rfl| (simp only[dO,maxLen,lens];omega)) (bt X [0,1,5,6] rfl ?_))))
   refine⟨k+1,by omega,by omega,?_⟩
   rw[bH _ k rfl (by omega),hs]
   try rfl
  ·try simp only[aP]at aW
   exact aK (aq X [4] rfl (aj (af rfl ⟨by rw[List.take_of_length_le (by omega),xE wW],⟨⟩⟩)))
theorem A4(rows i:Int)(sd:List Int)(Aq:sd.length≤1048576):So 307 [az rows,az i, .a (.sl .int sd)] [.a (.sl (.sl .int) (qC rows i sd))]:=by
 refine ay X call307 func307 ntmps307 rfl rfl ?_
 intro zb
 have hun:=AZ rows i
 refine aq X [0,1,2] rfl (aC X [0,1,2,7] rfl (by and_intros<;>first|exact⟨⟩|exact rfl) (aD X [] [(14,⟨true,[.a (.sl .int _)]⟩)] [0,2,7,8] [] rfl (by(with_reducible and_intros)<;>first|exact⟨⟩|exact(uK _ _)) (aa (aD X [] [(22,⟨false,[aH (cM (IntKind.i64.wrap ((sd.length:Int)+1)))]⟩)] [0,2,7,8,24] [] rfl (by(with_reducible and_intros)<;>first|exact⟨⟩|exact fun _=>(gf (IntKind.i64.wrap ((sd.length:Int)+1)))) ?_))))
 refine ah rfl ?_ ?_<;>intro hb0
 ·have hmk:EG rows i sd=false:=b9 hb0 (by simp only[EG,aU]<;>first|rfl|ac_rfl)
  exact aq X [6] rfl (aj (af rfl ⟨by rw[qC,if_neg (by rw[hmk];decide)],⟨⟩⟩))
 ·have hmk:EG rows i sd=true:=bX hb0 (by simp only[EG,aU]<;>first|rfl|ac_rfl)
  have xF:=Ki hmk Aq
  refine an (aa (aq X [0,2,7,8,9] rfl ?_))
  refine au (aG (fun k=>k≤sd.length) (fun k:Nat=> [(9, .one ((az k)))]) (fun k=> [(11, .arr (.sl .int) ((sd.take k).map fun s=>cA s rows)),(14, .arr .int (zq rows i (sd.take k)))]) (fun k=>sd.length-k) 0 (fun k=>rfl) (Nat.zero_le _) rfl ?_)
  intro k hk
  have hle:=bD sd k
  have hql:=A0 rows i (sd.take k)
  refine aa (aq X [0,2,7,8,9,29] rfl ?_)
  refine ah rfl ?_ ?_<;>intro aW
  ·try simp only[aP]at aW
   have hs:=mu (fun s=>cA s rows) sd k (aI .int) aW
   have rB:=EH rows i sd k aW
   have hrl:=iH (sd.getD k (aI .int)) rows
   refine an (aa (au (aD X [] [(37,⟨true,[.a (.sl .int (cA (sd.getD k (aI .int)) rows))]⟩)] [0,2,7,8,9,10] [] rfl (by(with_reducible and_intros)<;>first|exact⟨⟩|exact(kW (sd.getD k (aI .int)) rows)| (intros;omega)) (aa ?_))))
   have t1:=(uL (zq rows i (sd.take k)) (cA (sd.getD k (aI .int)) rows) (by first|assumption|omega| (simp;done)| (simp;omega)) (by first|assumption|omega| (simp;done)| (simp;omega)))
   refine aE X [] [(40,⟨true,bJ t1⟩)] [0,2,7,8,9,10] [] rfl (by(with_reducible and_intros)<;>first|exact⟨⟩|exact t1) (nD 8 14 rfl (aE X [(44,11)] [] [0,2,7,8,9] [] rfl (by and_intros<;>first|exact⟨⟩|exact rfl| (simp only[dO,maxLen,lens];omega)) (bt X [0,2,7,8,9] rfl ?_)))
   refine⟨k+1,by omega,by omega,?_⟩
   rw[bH _ k rfl (by omega),hs,rB]
   try rfl
  ·try simp only[aP]at aW
   exact aK (aD X [(48,11)] [] [6] [] rfl (by and_intros<;>first|exact⟨⟩|exact rfl| (simp only[dO,maxLen,lens];omega)) (aj (af rfl ⟨by rw[List.take_of_length_le aW,qC,if_pos hmk],⟨⟩⟩)))
end
section
set_option maxRecDepth 100000
theorem A5(x:bp)(r row s:Int)(o7:x.av.length≤1048576):So 193 [.agg (aT x),az r,az row,az s] [.a (.sl .int (gW x.av.length r row s))]:=by
 refine ay X call193 func193 ntmps193 rfl rfl ?_
 intro zb
 have hw:IntKind.i64.wrap ((x.av.length:Int)-1)=(x.av.length:Int)-1:=bV (by omega)
 refine aq X [1,2,3,4] rfl (aC X [1,2,3,4,9] rfl (by and_intros<;>first|exact⟨⟩|exact rfl) (aa (aq X [1,2,3,9,16,17] rfl ?_)))
 refine au (aG (fun k=>k≤(x.av.length-1)) (fun k:Nat=> [(17, .one ((az k)))]) (fun k=> [(11, .arr .int ((gW x.av.length r row s).take k))]) (fun k=>(x.av.length-1)-k) 0 (fun k=>rfl) (Nat.zero_le _) rfl ?_)
 intro k hk
 have hle:=bD (gW x.av.length r row s) k
 have hrl:=oo x.av.length r row s
 refine aq X [1,2,3,9,16,17,18] rfl ?_
 refine aa (ah rfl ?_ ?_)<;>intro hb0
 ·try simp only[aP]at hb0
  rw[N4 _ o7]at hb0
  have hs:=BY x.av.length r row s k (by omega)
  refine an (aa (au (aq X [1,2,3,9,10,16,17] rfl (aE X [(28,11)] [(26,⟨false,[az (kh s [229,r,row,(k:Int)])]⟩)] [1,2,3,9,16,17] [] rfl (by(repeat' with_reducible first|exact aL|refine aS ?_ ?_|apply And.intro)<;>first|exact(bU s [229,r,row,(k:Int)] (by first|assumption|omega| (simp;done)| (simp;omega)))|exact rfl|exact⟨rfl,bn _ (by decide)⟩| (simp only[dO,maxLen,lens];omega)) ?_))))
  refine bt X [1,2,3,9,16,17] rfl ?_
  refine⟨k+1,by omega,by omega,?_⟩
  rw[bH _ k rfl (by omega),hs]
  try rfl
 ·try simp only[aP]at hb0
  rw[N4 _ o7]at hb0
  exact aK (aq X [8] rfl (aj (af rfl ⟨by rw[List.take_of_length_le (by omega)],⟨⟩⟩)))
end
section
set_option maxRecDepth 100000
theorem cV(d:DB)(hs0:dL List.length d.rows≤1048576):So 179 [.agg (aZ d)] [.agg (aZ d)]:=by
 refine ay X call179 func179 ntmps179 rfl rfl ?_
 intro zb
 exact aq X [1,2] rfl (aD X [] [(5,⟨true,[.a (.sl (.sl .u8) d.rows)]⟩)] [2] [] rfl (by(with_reducible and_intros)<;>first|exact⟨⟩|exact(lS d.rows (by first|assumption|omega| (simp;done)| (simp;omega)))) (aj (af rfl ⟨rfl,⟨⟩⟩)))
theorem dK(d:DB)(hs0:dL List.length d.rows≤1048576):So 212 [.agg (aZ d)] [.agg (aZ d)]:=by
 refine ay X call212 func212 ntmps212 rfl rfl ?_
 intro zb
 exact aq X [1,2] rfl (aD X [] [(5,⟨true,[.a (.sl (.sl .u8) d.rows)]⟩)] [2] [] rfl (by(with_reducible and_intros)<;>first|exact⟨⟩|exact(qc d.rows (by first|assumption|omega| (simp;done)| (simp;omega)))) (aj (af rfl ⟨rfl,⟨⟩⟩)))
theorem oq(rows:Int):So 250 [az rows] [.agg (aZ (dz rows))]:=by
 refine ay X call250 func250 ntmps250 rfl rfl ?_
 intro zb
 refine aq X [0,2] rfl (aq X [0,2,3] rfl (eM 3 0 60 (.sl .u8) rfl (aa (aD X [] [(6,⟨false,[aH (inr rows 0 64)]⟩)] [0,2,3,6] [] rfl (by(with_reducible and_intros)<;>first|exact⟨⟩|exact(aM rows 0 64)) ?_))))
 refine ah rfl ?_ ?_<;>intro hb0
 ·try simp only[aP]at hb0
  refine aq X [2,3,7,8] rfl ?_
  refine au (aG (fun k=>k≤rows.toNat) (fun k:Nat=> [(8, .one ((az k)))]) (fun k=> [(60, .arr (.sl .u8) ((dz rows).rows.take k))]) (fun k=>rows.toNat-k) 0 (fun k=>rfl) (Nat.zero_le _) rfl ?_)
  intro k hk
  have hle:=bD (dz rows).rows k
  have hnl:=nE rows
  refine aq X [2,3,7,8,9] rfl ?_
  refine aa (ah rfl ?_ ?_)<;>intro aW
  ·try simp only[aP]at aW
   have hs:=EK rows k (by omega) (by omega)
   refine an (aa (au (bZ X [(14,60)] [(500013,⟨true,[]⟩)] [2,3,7,8] [] 4 MO (by kernel_rfl) rfl (by and_intros<;>first|exact⟨⟩| (intros;omega)|exact rfl| (simp only[dO,maxLen,lens];omega)) (bt X [2,3,7,8] rfl ?_))))
   refine⟨k+1,by omega,by omega,?_⟩
   rw[bH _ k rfl (by omega),hs]
   try rfl
  ·try simp only[aP]at aW
   exact aK (aC X [2] rfl (by trivial) (aj (af rfl ⟨by rw[GJ _ _ (by omega)],⟨⟩⟩)))
 ·try simp only[aP]at hb0
  exact an (aC X [2] rfl (by trivial) (aj (af rfl ⟨by unfold dz;dsimp only;rw[if_neg (by omega)],⟨⟩⟩)))
theorem zw(d:DB)(i:Int)(c:List UInt8)(hs0:dL List.length d.rows≤1048576)(hc:c.length≤1048576):So 292 [.agg (aZ d),az i, .a (.sl .u8 c)] [.agg (aZ (BZ d i c)),aH (lG d i c)]:=by
 refine ay X call292 func292 ntmps292 rfl rfl ?_
 intro zb
 have j0:d.rows.length≤1048576:=ec hs0
 refine aq X [1,2,3,6] rfl (aD X [] [(10,⟨true,[.agg (aZ d)]⟩)] [1,2,3,6,8] [] rfl (by(with_reducible and_intros)<;>first|exact⟨⟩|exact(cV d (by first|assumption|omega| (simp;done)| (simp;omega)))) (aa (aa ?_)))
 have t1:=(aM i 0 (IntKind.i64.wrap ((d.rows.length:Int)-1)))
 refine aE X [] [(16,⟨false,bJ t1⟩)] [1,2,6,8,22] [] rfl (by(with_reducible and_intros)<;>first|exact⟨⟩|exact t1) ?_
 refine ah rfl ?_ ?_<;>intro hb0
 ·have Cl:lG d i c=false:=b9 hb0 (by simp only[lG,aU]<;>first|rfl|ac_rfl)
  exact aC X [6,7] rfl (by trivial) (aj (af rfl ⟨by rw[GK Cl],by rw[Cl],⟨⟩⟩))
 ·have Cl:lG d i c=true:=bX hb0 (by simp only[lG,aU]<;>first|rfl|ac_rfl)
  have hrb:=Ib j0 Cl
  exact an (cQ X [] [(28,⟨true,[.a (.sl .u8 _)]⟩)] [6,8] [] 6 MO (by kernel_rfl) rfl (by(with_reducible and_intros)<;>first|exact⟨⟩|exact(cD _ (by first|assumption|omega| (simp;done)| (simp;omega)))| (intros;omega)) (aC X [6,7] rfl (by trivial) (aj (af rfl ⟨by rw[vR Cl],by rw[Cl],⟨⟩⟩))))
theorem jr(a b:DB)(hs0:dL List.length a.rows≤1048576)(hs1:dL List.length b.rows≤1048576):So 191 [.agg (aZ a), .agg (aZ b)] [.agg (aZ (gN a b)),aH (iZ a b)]:=by
 refine ay X call191 func191 ntmps191 rfl rfl ?_
 intro zb
 have hla:a.rows.length≤1048576:=ec hs0
 have hlb:b.rows.length≤1048576:=ec hs1
 refine aq X [2,3,4] rfl (aD X [] [(10,⟨true,[.agg (aZ a)]⟩)] [2,3,4,6] [] rfl (by(with_reducible and_intros)<;>first|exact⟨⟩|exact(cV a (by first|assumption|omega| (simp;done)| (simp;omega)))) (aa (aD X [] [(12,⟨false,[aH (cT a)]⟩),(16,⟨false,[aH (cT b)]⟩)] [3,4,6,27] [] rfl (by(with_reducible and_intros);(iterate 2 all_goals try first|exact⟨⟩|exact(dx a)|exact fun _=>(dx b))) ?_)))
 refine ah rfl ?_ ?_<;>intro hb0
 ·have wW:iZ a b=false:=b9 hb0 (by simp only[iZ,aU]<;>first|rfl|ac_rfl)
  exact aC X [4,5] rfl (by trivial) (aj (af rfl ⟨by rw[qD wW],by rw[wW],⟨⟩⟩))
 ·have wW:iZ a b=true:=bX hb0 (by simp only[iZ,aU]<;>first|rfl|ac_rfl)
  have XP:=uN wW
  have hxl:=jW wW
  refine an (aa (aq X [4,6,30,31,32] rfl ?_))
  refine au (aG (fun k=>k≤b.rows.length) (fun k:Nat=> [(32, .one ((az k)))]) (fun k=> [(10, .arr (.sl .u8) ((gj a b).take k++a.rows.drop k))]) (fun k=>b.rows.length-k) 0 (fun k=>rfl) (Nat.zero_le _) rfl ?_)
  intro k hk
  have hle:=kL (gj a b) a.rows k hxl (by omega)
  refine aq X [4,6,30,31,32,33] rfl ?_
  refine aa (ah rfl ?_ ?_)<;>intro aW
  ·try simp only[aP]at aW
   have hs:=Kl wW k aW
   have acJ:(a.rows.getD k (aI (.sl .u8))).length≤1048576:=by rw[pG XP.1 k (by omega)];decide
   have afl:(b.rows.getD k (aI (.sl .u8))).length≤1048576:=by rw[pG XP.2.1 k (by omega)];decide
   have hel:(((gj a b).take k++a.rows.drop k).getD k (aI (.sl .u8))).length≤1048576:=by rw[WS wW k aW];exact acJ
   refine an (aa (au (aC X [4,6,7,8,30,31,32] rfl (by and_intros<;>first|exact⟨⟩| (intros;omega)) ?_)))
   have t1:=(jH (((gj a b).take k++a.rows.drop k).getD k (aI (.sl .u8))) (b.rows.getD k (aI (.sl .u8))) (by first|assumption|omega| (simp;done)| (simp;omega)) (by first|assumption|omega| (simp;done)| (simp;omega)))
   refine bZ X [] [(46,⟨true,bJ t1⟩)] [4,6,30,31,32] [] 11 MO (by kernel_rfl) rfl (by(with_reducible and_intros)<;>first|exact⟨⟩|exact t1| (intros;omega)) (bt X [4,6,30,31,32] rfl ?_)
   refine⟨k+1,by omega,by omega,?_⟩
   rw[bH _ k rfl (by omega),hs]
   try rfl
  ·try simp only[aP]at aW
   exact aK (aC X [4,5] rfl (by trivial) (aj (af rfl ⟨by rw[nh _ _ _ hxl (by omega),vS wW],by rw[wW],⟨⟩⟩)))
theorem zx(x:bp)(c:Int)(o7:x.av.length≤1048576):So 182 [.agg (aT x),az c] [.a (.sl .int (iI x c))]:=by
 refine ay X call182 func182 ntmps182 rfl rfl ?_
 intro zb
 have hw:IntKind.i64.wrap ((x.av.length:Int)-1)=(x.av.length:Int)-1:=bV (by omega)
 refine aq X [1,2] rfl (aC X [1,2,5] rfl (by and_intros<;>first|exact⟨⟩|exact rfl) (aa (aq X [1,2,5,12,13] rfl ?_)))
 refine au (aG (fun k=>k≤(x.av.length-1)) (fun k:Nat=> [(13, .one ((az k)))]) (fun k=> [(7, .arr .int ((iI x c).take k))]) (fun k=>(x.av.length-1)-k) 0 (fun k=>rfl) (Nat.zero_le _) rfl ?_)
 intro k hk
 have hle:=bD (iI x c) k
 have hrl:=jX x c
 refine aq X [1,2,5,12,13,14] rfl ?_
 refine aa (ah rfl ?_ ?_)<;>intro hb0
 ·try simp only[aP]at hb0
  rw[N4 _ o7]at hb0
  have hs:=B0 x c k (by omega)
  refine an (aa (au (aq X [1,2,5,6,12,13] rfl (aE X [(26,7)] [(24,⟨false,[az (kh x.seed [223,x.round,c,(k:Int)])]⟩)] [1,2,5,12,13] [] rfl (by(repeat' with_reducible first|exact aL|refine aS ?_ ?_|apply And.intro)<;>first|exact(bU x.seed [223,x.round,c,(k:Int)] (by first|assumption|omega| (simp;done)| (simp;omega)))|exact rfl|exact⟨rfl,bn _ (by decide)⟩| (simp only[dO,maxLen,lens];omega)) ?_))))
  refine bt X [1,2,5,12,13] rfl ?_
  refine⟨k+1,by omega,by omega,?_⟩
  rw[bH _ k rfl (by omega),hs]
  try rfl
 ·try simp only[aP]at hb0
  rw[N4 _ o7]at hb0
  exact aK (aq X [4] rfl (aj (af rfl ⟨by rw[List.take_of_length_le (by omega)],⟨⟩⟩)))
theorem jY(rows:Int):So 290 [az rows] [.agg (aZ (dz rows))]:=by
 refine ay X call290 func290 ntmps290 rfl rfl ?_
 intro zb
 refine aq X [0,2] rfl (aq X [0,2,3] rfl (eM 3 0 60 (.sl .u8) rfl (aa (aq X [0,2,3,4] rfl ?_))))
 refine au (aG (fun k=>k≤(dz rows).rows.length) (fun k:Nat=> [(4, .one ((az k)))]) (fun k=> [(60, .arr (.sl .u8) ((dz rows).rows.take k))]) (fun k=>(dz rows).rows.length-k) 0 (fun k=>rfl) (Nat.zero_le _) rfl ?_)
 intro k hk
 have hle:=bD (dz rows).rows k
 have hnl:=nE rows
 refine aa (aq X [0,2,3,4,12] rfl ?_)
 refine ah rfl ?_ ?_<;>intro hb0
 ·try simp only[aP]at hb0
  have hin:=SX rows k (by omega) (by omega)
  have hs:=EK rows k (by omega) (by omega)
  refine an (aa (au (bZ X [(19,60)] [(500018,⟨true,[]⟩)] [0,2,3,4] [] 4 MO (by kernel_rfl) rfl (by and_intros<;>first|exact⟨⟩| (intros;omega)|exact rfl| (simp only[dO,maxLen,lens];omega)) (bt X [0,2,3,4] rfl ?_))))
  refine⟨k+1,by omega,by omega,?_⟩
  rw[bH _ k rfl (by omega),hs]
  try rfl
 ·try simp only[aP]at hb0
  exact aK (aC X [2] rfl (by trivial) (aj (af rfl ⟨by rw[GJ _ _ (by omega)],⟨⟩⟩)))
theorem zy(d:DB)(i:Int)(c:List UInt8)(hs0:dL List.length d.rows≤1048576)(hc:c.length≤1048576):So 325 [.agg (aZ d),az i, .a (.sl .u8 c)] [.agg (aZ (BZ d i c)),aH (lG d i c)]:=by
 refine ay X call325 func325 ntmps325 rfl rfl ?_
 intro zb
 have j0:d.rows.length≤1048576:=ec hs0
 refine aq X [1,2,3,6] rfl (aD X [] [(10,⟨true,[.agg (aZ d)]⟩)] [1,2,3,6,8] [] rfl (by(with_reducible and_intros)<;>first|exact⟨⟩|exact(dK d (by first|assumption|omega| (simp;done)| (simp;omega)))) (aa (aa ?_)))
 have t1:=(bf i 0 (IntKind.i64.wrap ((d.rows.length:Int)-1)))
 refine aE X [] [(16,⟨false,bJ t1⟩)] [1,2,6,8,22] [] rfl (by(with_reducible and_intros)<;>first|exact⟨⟩|exact t1) ?_
 refine ah rfl ?_ ?_<;>intro hb0
 ·have Cl:lG d i c=false:=b9 hb0 (by simp only[lG,aU]<;>first|rfl|ac_rfl)
  exact aC X [6,7] rfl (by trivial) (aj (af rfl ⟨by rw[GK Cl],by rw[Cl],⟨⟩⟩))
 ·have Cl:lG d i c=true:=bX hb0 (by simp only[lG,aU]<;>first|rfl|ac_rfl)
  have hrb:=Ib j0 Cl
  exact an (aa (bu X [(29,27)] [] [6,8] [] 95 5 MO (by kernel_rfl) rfl (by kernel_rfl) (by and_intros<;>first|exact⟨⟩| (intros;omega)|exact rfl| (simp only[dO,maxLen,lens];omega)) (aC X [6,7] rfl (by trivial) (aj (af rfl ⟨by rw[vR Cl];rfl,by rw[Cl],⟨⟩⟩)))))
theorem jt(a b:DB)(hs0:dL List.length a.rows≤1048576)(hs1:dL List.length b.rows≤1048576):So 306 [.agg (aZ a), .agg (aZ b)] [.agg (aZ (gN a b)),aH (iZ a b)]:=by
 refine ay X call306 func306 ntmps306 rfl rfl ?_
 intro zb
 have hla:a.rows.length≤1048576:=ec hs0
 have hlb:b.rows.length≤1048576:=ec hs1
 refine aq X [2,3,4] rfl (aa (aD X [] [(9,⟨false,[aH (cT a)]⟩),(13,⟨false,[aH (cT b)]⟩)] [2,3,4,24] [] rfl (by(with_reducible and_intros);(iterate 2 all_goals try first|exact⟨⟩|exact(cN a)|exact fun _=>(cN b))) ?_))
 refine ah rfl ?_ ?_<;>intro hb0
 ·have wW:iZ a b=false:=b9 hb0 (by simp only[iZ,aU]<;>first|rfl|ac_rfl)
  exact aD X [] [(26,⟨true,[.agg (aZ a)]⟩)] [4,5] [] rfl (by(with_reducible and_intros)<;>first|exact⟨⟩|exact(dK a (by first|assumption|omega| (simp;done)| (simp;omega)))) (aj (af rfl ⟨by rw[qD wW],by rw[wW],⟨⟩⟩))
 ·have wW:iZ a b=true:=bX hb0 (by simp only[iZ,aU]<;>first|rfl|ac_rfl)
  have XP:=uN wW
  have hxl:=jW wW
  refine an (aq X [2,3,4,6] rfl (eM 6 0 60 (.sl .u8) rfl (aa (aq X [2,3,4,6,7] rfl ?_))))
  refine au (aG (fun k=>k≤a.rows.length) (fun k:Nat=> [(7, .one ((az k)))]) (fun k=> [(60, .arr (.sl .u8) ((gj a b).take k))]) (fun k=>a.rows.length-k) 0 (fun k=>rfl) (Nat.zero_le _) rfl ?_)
  intro k hk
  have hle:=bD (gj a b) k
  refine aa (aq X [2,3,4,6,7,32] rfl ?_)
  refine ah rfl ?_ ?_<;>intro aW
  ·try simp only[aP]at aW
   have hs:=Kk wW k aW
   have acJ:(a.rows.getD k (aI (.sl .u8))).length≤1048576:=by rw[pG XP.1 k (by omega)];decide
   have afl:(b.rows.getD k (aI (.sl .u8))).length≤1048576:=by rw[pG XP.2.1 k (by omega)];decide
   refine an (aa (au ?_))
   have t1:=(jI (a.rows.getD k (aI (.sl .u8))) (b.rows.getD k (aI (.sl .u8))) (by first|assumption|omega| (simp;done)| (simp;omega)) (by first|assumption|omega| (simp;done)| (simp;omega)))
   refine bZ X [(49,60)] [(47,⟨true,bJ t1⟩),(500048,⟨true,[]⟩)] [2,3,4,6,7] [] 14 MO (by kernel_rfl) rfl (by(repeat' with_reducible first|exact aL|refine aS ?_ ?_|apply And.intro)<;>first|exact t1| (intros;omega)|exact rfl|exact⟨rfl,bn _ (by decide)⟩| (simp only[dO,maxLen,lens];omega)) ?_
   refine bt X [2,3,4,6,7] rfl ?_
   refine⟨k+1,by omega,by omega,?_⟩
   rw[bH _ k rfl (by omega),hs]
   try rfl
  ·try simp only[aP]at aW
   exact aK (aC X [4,5] rfl (by trivial) (aj (af rfl ⟨by rw[List.take_of_length_le (by omega),vS wW],by rw[wW],⟨⟩⟩)))
theorem zz(x:bp)(c:Int)(o7:x.av.length≤1048576):So 302 [.agg (aT x),az c] [.a (.sl .int (iI x c))]:=by
 refine ay X call302 func302 ntmps302 rfl rfl ?_
 intro zb
 have hw:IntKind.i64.wrap ((x.av.length:Int)-1)=(x.av.length:Int)-1:=bV (by omega)
 refine aq X [1,2] rfl (aC X [1,2,5] rfl (by and_intros<;>first|exact⟨⟩|exact rfl) (aa (aq X [1,2,5,6] rfl ?_)))
 refine au (aG (fun k=>k≤(x.av.length-1)) (fun k:Nat=> [(6, .one ((az k)))]) (fun k=> [(7, .arr .int ((iI x c).take k))]) (fun k=>(x.av.length-1)-k) 0 (fun k=>rfl) (Nat.zero_le _) rfl ?_)
 intro k hk
 have hle:=bD (iI x c) k
 have hrl:=jX x c
 refine aa (aq X [1,2,5,6,13] rfl ?_)
 refine ah rfl ?_ ?_<;>intro hb0
 ·try simp only[aP]at hb0
  rw[hw]at hb0
  have hs:=B0 x c k (by omega)
  refine an (aa (au (aE X [(26,7)] [(24,⟨false,[az (kh x.seed [223,x.round,c,(k:Int)])]⟩)] [1,2,5,6] [] rfl (by(repeat' with_reducible first|exact aL|refine aS ?_ ?_|apply And.intro)<;>first|exact(bE x.seed [223,x.round,c,(k:Int)] (by first|assumption|omega| (simp;done)| (simp;omega)))|exact rfl|exact⟨rfl,bn _ (by decide)⟩| (simp only[dO,maxLen,lens];omega)) ?_)))
  refine bt X [1,2,5,6] rfl ?_
  refine⟨k+1,by omega,by omega,?_⟩
  rw[bH _ k rfl (by omega),hs]
  try rfl
 ·try simp only[aP]at hb0
  rw[hw]at hb0
  exact aK (aq X [4] rfl (aj (af rfl ⟨by rw[List.take_of_length_le (by omega)],⟨⟩⟩)))
theorem A9(rows i:Int)(c:List UInt8)(hc:c.length≤1048576):So 246 [az rows,az i, .a (.sl .u8 c)] [.agg (aZ (SY rows i c)),aH (qE rows i c)]:=by
 refine ay X call246 func246 ntmps246 rfl rfl ?_
 intro zb
 have hz:=GL rows
 refine aq X [0,1,2,6] rfl (aa (aD X [] [(9,⟨false,[aH (inr rows 1 64)]⟩)] [0,1,2,6,10] [] rfl (by(with_reducible and_intros)<;>first|exact⟨⟩|exact(aM rows 1 64)) ?_))
 refine ah rfl ?_ ?_<;>intro hb0
 ·have hk:inr rows 1 64=false:=by simpa using hb0
  exact aC X [6,7] rfl (by trivial) (aj (af rfl ⟨by rw[SY,hk];rfl,by rw[qE,hk];rfl,⟨⟩⟩))
 ·have hk:inr rows 1 64=true:=by simpa using hb0
  refine an (aa ?_)
  have t1:=(zw (dz rows) i c (by first|assumption|omega| (simp;done)| (simp;omega)) (by first|assumption|omega| (simp;done)| (simp;omega)))
  exact aE X [] [(13,⟨true,[.agg (aZ (dz rows))]⟩),(16,⟨true,bJ t1⟩)] [6,7] [] rfl (by(with_reducible and_intros);(iterate 2 all_goals try first|exact⟨⟩|exact(oq rows)|exact t1)) (aj (af rfl ⟨by rw[SY,if_pos hk],by rw[qE,hk];rfl,⟨⟩⟩))
end
section
set_option maxRecDepth 100000
theorem Ba(rows i:Int)(c:List UInt8)(sd:List Int)(hc:c.length≤1048576)(Aq:sd.length≤1048576):So 181 [az rows,az i, .a (.sl .u8 c), .a (.sl .int sd)] [.a (.sl .DB (qH rows i c sd))]:=by
 refine ay X call181 func181 ntmps181 rfl rfl ?_
 intro zb
 refine aq X [0,1,2,3] rfl (aD X [] [(20,⟨true,[.agg (aZ (SY rows i c)),aH (qE rows i c)]⟩)] [0,3,9,10] [] rfl (by(with_reducible and_intros)<;>first|exact⟨⟩|exact(A9 rows i c (by first|assumption|omega| (simp;done)| (simp;omega)))) (aa (aD X [] [(29,⟨false,[aH (cM (IntKind.i64.wrap ((sd.length:Int)+1)))]⟩)] [0,3,9,31] [] rfl (by(with_reducible and_intros)<;>first|exact⟨⟩|exact fun _=>(dV (IntKind.i64.wrap ((sd.length:Int)+1)))) ?_)))
 refine ah rfl ?_ ?_<;>intro hb0
 ·have hmk:td rows i c sd=false:=b9 hb0 (by simp only[td,aU]<;>first|rfl|ac_rfl)
  exact aq X [8] rfl (aj (af rfl ⟨by rw[qH,if_neg (by rw[hmk];decide)],⟨⟩⟩))
 ·have hmk:td rows i c sd=true:=bX hb0 (by simp only[td,aU]<;>first|rfl|ac_rfl)
  have hml:=Kt hmk Aq
  have hun:=Ii hml.1
  refine an (aC X [0,3,9,11] rfl (by and_intros<;>first|exact⟨⟩|exact rfl) (aa (aq X [0,9,11,33,34,35] rfl ?_)))
  refine au (aG (fun k=>k≤sd.length) (fun k:Nat=> [(35, .one ((az k)))]) (fun k=> [(32, .arr .DB ((sd.take k).map fun s=>QB s rows)),(20, .arr (.sl .u8) (wX rows i c (sd.take k)).rows)]) (fun k=>sd.length-k) 0 (fun k=>rfl) (Nat.zero_le _) rfl ?_)
  intro k hk
  have hle:=bD sd k
  have hlo:=ET hml.1 (sd.take k)
  have hlz:=eu hlo
  refine aq X [0,9,11,33,34,35,36] rfl ?_
  refine aa (ah rfl ?_ ?_)<;>intro aW
  ·try simp only[aP]at aW
   have hs:=mu (fun s=>QB s rows) sd k (aI .int) aW
   have rB:=ES rows i c sd k aW
   have hmo:=Ih (sd.getD k (aI .int)) rows hun.2.2
   have hmz:=eu hmo
   refine an (aa (au (aC X [0,9,11,13,33,34,35] rfl (by and_intros<;>first|exact⟨⟩| (intros;omega)) (aq X [0,9,11,13,14,33,34,35] rfl (eM 14 0 60 (.sl .u8) rfl (aa (aq X [0,9,11,13,14,33,34,35,40,41] rfl ?_)))))))
   refine au (aG (fun k1=>k1≤rows.toNat) (fun k1:Nat=> [(41, .one ((az k1)))]) (fun k1=> [(60, .arr (.sl .u8) ((gF (sd.getD k (aI .int)) rows).take k1))]) (fun k1=>rows.toNat-k1) 0 (fun k1=>rfl) (Nat.zero_le _) rfl ?_)
   intro k1 hk1
   have J8:=bD (gF (sd.getD k (aI .int)) rows) k1
   refine aq X [0,9,11,13,14,33,34,35,40,41,42] rfl ?_
   refine aa (ah rfl ?_ ?_)<;>intro bz
   ·try simp only[aP]at bz
    have hs1:=zA (sd.getD k (aI .int)) rows k1 (by omega)
    refine an (aa (au (aq X [0,9,11,13,14,15,33,34,35,40,41] rfl ?_)))
    have t1:=(jR (IntKind.i64.wrap ((sd.getD k (aI .int))+IntKind.i64.wrap (1000*(k1:Int)))) 24 (by first|assumption|omega| (simp;done)| (simp;omega)) (by first|assumption|omega| (simp;done)| (simp;omega)))
    refine bZ X [(52,60)] [(50,⟨true,bJ t1⟩),(500051,⟨true,[]⟩)] [0,9,11,13,14,33,34,35,40,41] [] 8 MO (by kernel_rfl) rfl (by(repeat' with_reducible first|exact aL|refine aS ?_ ?_|apply And.intro)<;>first|exact t1|exact rfl|exact⟨rfl,bn _ (by decide)⟩| (simp only[dO,maxLen,lens];omega)) ?_
    refine bt X [0,9,11,13,14,33,34,35,40,41] rfl ?_
    refine⟨k1+1,by omega,by omega,?_⟩
    rw[bH _ k1 rfl (by omega),hs1]
    try rfl
   ·try simp only[aP]at bz
    rw[List.take_of_length_le (show(gF (sd.getD k (aI .int)) rows).length≤k1 by rw[mA];omega)]
    refine aK (aa (N5 X [(58,32)] [] [0,9,11,14,33,34,35] 2 32 rfl (by and_intros<;>first|exact⟨⟩|exact rfl| (simp only[dO,maxLen,lens];omega)) ?_))
    have t1:=(jr (wX rows i c (sd.take k)) (QB (sd.getD k (aI .int)) rows) (by first|assumption|omega| (simp;done)| (simp;omega)) (by first|assumption|omega| (simp;done)| (simp;omega)))
    refine aE X [] [(62,⟨true,bJ t1⟩)] [0,9,11,33,34,35] [] rfl (by(with_reducible and_intros)<;>first|exact⟨⟩|exact t1) (lU 9 0 20 rfl (bt X [0,9,11,33,34,35] rfl ?_))
    refine⟨k+1,by omega,by omega,?_⟩
    rw[bH _ k rfl (by omega),hs,rB]
    try rfl
  ·try simp only[aP]at aW
   exact aK (aD X [(69,32)] [] [8] [] rfl (by and_intros<;>first|exact⟨⟩|exact rfl| (simp only[dO,maxLen,lens];omega)) (aj (af rfl ⟨by rw[List.take_of_length_le aW,qH,if_pos hmk],⟨⟩⟩)))
theorem FR(rows i:Int)(c:List UInt8):So 324 [az rows,az i, .a (.sl .u8 c)] [aH (qE rows i c)]:=by
 refine ay X call324 func324 ntmps324 rfl rfl ?_
 intro zb
 exact aq X [0,1,2] rfl (aD X [] [(8,⟨false,[aH (inr rows 1 64)]⟩),(13,⟨false,[aH (inr i 0 (IntKind.i64.wrap (rows-1)))]⟩)] [6] [] rfl (by(with_reducible and_intros);(iterate 2 all_goals try first|exact⟨⟩|exact(bf rows 1 64)|exact fun _=>(bf i 0 (IntKind.i64.wrap (rows-1))))) (aj (af rfl ⟨by rw[Ku];exact(congrArg Value.bool (by simp only[aU]<;>first|rfl|ac_rfl)),⟨⟩⟩)))
theorem Bb(rows i:Int)(c:List UInt8)(sd:List Int)(hc:c.length≤1048576)(Aq:sd.length≤1048576):So 301 [az rows,az i, .a (.sl .u8 c), .a (.sl .int sd)] [.a (.sl .DB (qH rows i c sd))]:=by
 refine ay X call301 func301 ntmps301 rfl rfl ?_
 intro zb
 have hz:=GL rows
 refine aq X [0,1,2,3] rfl (aC X [0,1,2,3,9] rfl (by and_intros<;>first|exact⟨⟩|exact rfl) (aa (aD X [] [(19,⟨false,[aH (qE rows i c)]⟩),(25,⟨false,[aH (cM (IntKind.i64.wrap ((sd.length:Int)+1)))]⟩)] [0,1,2,3,9,27] [] rfl (by(with_reducible and_intros);(iterate 2 all_goals try first|exact⟨⟩|exact(FR rows i c)|exact fun _=>(gf (IntKind.i64.wrap ((sd.length:Int)+1))))) ?_)))
 refine ah rfl ?_ ?_<;>intro hb0
 ·have hmk:td rows i c sd=false:=b9 hb0 (by simp only[td,aU]<;>first|rfl|ac_rfl)
  exact aq X [8] rfl (aj (af rfl ⟨by rw[qH,if_neg (by rw[hmk];decide)],⟨⟩⟩))
 ·have hmk:td rows i c sd=true:=bX hb0 (by simp only[td,aU]<;>first|rfl|ac_rfl)
  have hml:=Kt hmk Aq
  have hun:=Ii hml.1
  refine an (aa ?_)
  have t1:=(zy (dz rows) i c (by first|assumption|omega| (simp;done)| (simp;omega)) (by first|assumption|omega| (simp;done)| (simp;omega)))
  refine aE X [] [(31,⟨true,[.agg (aZ (dz rows))]⟩),(34,⟨true,bJ t1⟩)] [0,3,9,10] [] rfl (by(with_reducible and_intros);(iterate 2 all_goals try first|exact⟨⟩|exact(jY rows)|exact t1)) ?_
  rw[WW hmk]
  refine aa (aq X [0,3,9,10,12] rfl ?_)
  refine au (aG (fun k=>k≤sd.length) (fun k:Nat=> [(12, .one ((az k)))]) (fun k=> [(15, .arr .DB ((sd.take k).map fun s=>QB s rows)),(34, .arr (.sl .u8) (wX rows i c (sd.take k)).rows)]) (fun k=>sd.length-k) 0 (fun k=>rfl) (Nat.zero_le _) rfl ?_)
  intro k hk
  have hle:=bD sd k
  have hlo:=ET hml.1 (sd.take k)
  have hlz:=eu hlo
  refine aa (aq X [0,3,9,10,12,40] rfl ?_)
  refine ah rfl ?_ ?_<;>intro aW
  ·try simp only[aP]at aW
   have hs:=mu (fun s=>QB s rows) sd k (aI .int) aW
   have rB:=ES rows i c sd k aW
   have hmo:=Ih (sd.getD k (aI .int)) rows hun.2.2
   have hmz:=eu hmo
   refine an (aa (au (aq X [0,3,9,10,12,13] rfl (eM 13 0 60 (.sl .u8) rfl (aa (aq X [0,3,9,10,12,13,14] rfl ?_))))))
   refine au (aG (fun k1=>k1≤rows.toNat) (fun k1:Nat=> [(14, .one ((az k1)))]) (fun k1=> [(60, .arr (.sl .u8) ((gF (sd.getD k (aI .int)) rows).take k1))]) (fun k1=>rows.toNat-k1) 0 (fun k1=>rfl) (Nat.zero_le _) rfl ?_)
   intro k1 hk1
   have J8:=bD (gF (sd.getD k (aI .int)) rows) k1
   refine aa (aq X [0,3,9,10,12,13,14,46] rfl ?_)
   refine ah rfl ?_ ?_<;>intro bz
   ·try simp only[aP]at bz
    have hs1:=zA (sd.getD k (aI .int)) rows k1 (by omega)
    refine an (aa (au ?_))
    have t1:=(jS (IntKind.i64.wrap ((sd.getD k (aI .int))+IntKind.i64.wrap (1000*(k1:Int)))) 24 (by first|assumption|omega| (simp;done)| (simp;omega)) (by first|assumption|omega| (simp;done)| (simp;omega)))
    refine bZ X [(60,60)] [(58,⟨true,bJ t1⟩),(500059,⟨true,[]⟩)] [0,3,9,10,12,13,14] [] 11 MO (by kernel_rfl) rfl (by(repeat' with_reducible first|exact aL|refine aS ?_ ?_|apply And.intro)<;>first|exact t1| (intros;omega)|exact rfl|exact⟨rfl,bn _ (by decide)⟩| (simp only[dO,maxLen,lens];omega)) ?_
    refine bt X [0,3,9,10,12,13,14] rfl ?_
    refine⟨k1+1,by omega,by omega,?_⟩
    rw[bH _ k1 rfl (by omega),hs1]
    try rfl
   ·try simp only[aP]at bz
    rw[List.take_of_length_le (show(gF (sd.getD k (aI .int)) rows).length≤k1 by rw[mA];omega)]
    refine aK (aa ?_)
    have t1:=(jt (wX rows i c (sd.take k)) (QB (sd.getD k (aI .int)) rows) (by first|assumption|omega| (simp;done)| (simp;omega)) (by first|assumption|omega| (simp;done)| (simp;omega)))
    refine aE X [] [(65,⟨true,bJ t1⟩)] [0,3,9,10,12,13] [] rfl (by(with_reducible and_intros)<;>first|exact⟨⟩|exact t1) (lU 10 0 34 rfl (aE X [(71,15)] [] [0,3,9,10,12] [] rfl (by and_intros<;>first|exact⟨⟩|exact rfl| (simp only[dO,maxLen,lens];omega)) (bt X [0,3,9,10,12] rfl ?_)))
    refine⟨k+1,by omega,by omega,?_⟩
    rw[bH _ k rfl (by omega),hs,rB]
    try rfl
  ·try simp only[aP]at aW
   exact aK (aD X [(75,15)] [] [8] [] rfl (by and_intros<;>first|exact⟨⟩|exact rfl| (simp only[dO,maxLen,lens];omega)) (aj (af rfl ⟨by rw[List.take_of_length_le aW,qH,if_pos hmk],⟨⟩⟩)))
end
section
set_option maxRecDepth 100000
theorem xI(x:bp)(c:Int)(o7:x.av.length≤1048576):So 110 [.agg (aT x),az c] [.a (.sl .DB (kX x c))]:=by
 refine ay X call110 func110 ntmps110 rfl rfl ?_
 intro zb
 refine bB 0 2 rfl rfl (fun mo=> ?_)
 have yx:=EU (Kv x c) x.round x.rows
 have hwl:=jX x c
 refine aq X [1,2] rfl (aa (aD X [] [(9,⟨false,[aH (okW x)]⟩),(14,⟨false,[aH (ku x c)]⟩)] [1,2,16] [] rfl (by(with_reducible and_intros);(iterate 2 all_goals try first|exact⟨⟩|exact(b7 x)|exact fun _=>(ff x c))) ?_))
 refine ah rfl ?_ ?_<;>intro hb0
 ·have hk:Kx x c=false:=b9 hb0 (by simp only[Kx,aU]<;>first|rfl|ac_rfl)
  exact aq X [4] rfl (aj (af rfl ⟨by rw[kX,if_neg (by rw[hk];decide)],⟨⟩⟩))
 ·have hk:Kx x c=true:=bX hb0 (by simp only[Kx,aU]<;>first|rfl|ac_rfl)
  have hkc:=Z2 hk
  refine an (aa ?_)
  have t1:=(xC (Kv x c) x.round x.rows)
  refine bZ X [] [(28,⟨true,bJ t1⟩)] [1,2,5,6,7] [] 18 MO (by kernel_rfl) rfl (by(with_reducible and_intros)<;>first|exact⟨⟩|exact t1| (intros;omega)) (aa (aq X [1,2,5,6,33] rfl ?_))
  refine ah rfl ?_ ?_<;>intro aW
  ·have hw:oS (Kv x c) x.round x.rows=false:=by simpa using aW
   exact aq X [4] rfl (aj (af rfl ⟨by rw[kX,if_pos hk,Kw hw],⟨⟩⟩))
  ·refine an (aa ?_)
   have t1:=(Ba x.rows (n9 (Kv x c) x.round x.rows) (gV (Kv x c) x.round x.rows) (iI x c) (by first|assumption|omega| (simp;done)| (simp;omega)) (by first|assumption|omega| (simp;done)| (simp;omega)))
   exact bZ X [] [(40,⟨true,[.a (.sl .int (iI x c))]⟩),(41,⟨true,bJ t1⟩)] [4] [] 9 MO (by kernel_rfl) rfl (by(with_reducible and_intros);(iterate 2 all_goals try first|exact⟨⟩|exact(zx x c (by first|assumption|omega| (simp;done)| (simp;omega)))|exact t1)) (aj (af rfl ⟨by rw[kX,if_pos hk];rfl,⟨⟩⟩))
theorem Bc(x:bp)(c:Int)(o7:x.av.length≤1048576)(hc:0≤c∧c<x.ak.length):So 265 [.agg (aT x),az c] [.a (.sl .DB (dB x c))]:=by
 refine ay X call265 func265 ntmps265 rfl rfl ?_
 intro zb
 refine bB 0 2 rfl rfl (fun mo=> ?_)
 have yx:=EU (Kv x c) x.round x.rows
 have hwl:=jX x c
 refine aq X [1,2] rfl (aa ?_)
 have t1:=(xD (Kv x c) x.round x.rows)
 refine bZ X [] [(19,⟨true,bJ t1⟩)] [1,2,5,6] [] 18 MO (by kernel_rfl) rfl (by(with_reducible and_intros)<;>first|exact⟨⟩|exact t1| (intros;omega)) (aa ?_)
 have t1:=(Bb x.rows (n9 (Kv x c) x.round x.rows) (gV (Kv x c) x.round x.rows) (iI x c) (by first|assumption|omega| (simp;done)| (simp;omega)) (by first|assumption|omega| (simp;done)| (simp;omega)))
 exact bZ X [] [(29,⟨true,[.a (.sl .int (iI x c))]⟩),(30,⟨true,bJ t1⟩)] [4] [] 9 MO (by kernel_rfl) rfl (by(with_reducible and_intros);(iterate 2 all_goals try first|exact⟨⟩|exact(zz x c (by first|assumption|omega| (simp;done)| (simp;omega)))|exact t1)) (aj (af rfl ⟨rfl,⟨⟩⟩))
end
section
set_option maxRecDepth 100000
theorem jd(m s:Int):So 113 [az m,az s] [az (jC m s)]:=by
 refine ay X call113 func113 ntmps113 rfl rfl ?_
 intro zb
 refine aq X [0,1] rfl (aD X [] [(8,⟨false,[az (kh m [173,s])]⟩),(9,⟨false,[az (Eu (kh m [173,s]))]⟩)] [4] [] rfl (by(repeat' with_reducible first|exact aL|refine aS ?_ ?_|apply And.intro);(iterate 2 all_goals try first|exact(bU m [173,s] (by first|assumption|omega| (simp;done)| (simp;omega)))|exact(rX (kh m [173,s])));all_goals first|exact⟨rfl,bn _ (by decide)⟩) ?_)
 exact aj (af rfl ⟨rfl,⟨⟩⟩)
theorem th(d:DB)(hs0:dL List.length d.rows≤1048576):So 249 [.agg (aZ d)] [az (Im d)]:=by
 refine ay X call249 func249 ntmps249 rfl rfl ?_
 intro zb
 have j0:d.rows.length≤1048576:=ec hs0
 refine aq X [1] rfl (aC X [1,3] rfl (by and_intros<;>first|exact⟨⟩|exact rfl) (aa (aq X [3,11,12,13] rfl ?_)))
 refine au (aG (fun k=>k≤d.rows.length) (fun k:Nat=> [(13, .one ((az k)))]) (fun k=> [(9, .arr .int ((d.rows.length:Int)::(d.rows.take k).flatMap FI))]) (fun k=>d.rows.length-k) 0 (fun k=>rfl) (Nat.zero_le _) rfl ?_)
 intro k hk
 have BO:=S7 d.rows k
 refine aq X [3,11,12,13,14] rfl ?_
 refine aa (ah rfl ?_ ?_)<;>intro hb0
 ·try simp only[aP]at hb0
  have hs:=Ob d.rows k hb0
  have hel:(d.rows.getD k (aI (.sl .u8))).length≤1048576:=l8 (f:=List.length) hs0 (getD_some d.rows _ k hb0)
  have CL:=so (d.rows.getD k (aI (.sl .u8)))
  refine an (aa (au (aC X [3,5,11,12,13] rfl (by and_intros<;>first|exact⟨⟩| (intros;omega)) (aE X [(20,9)] [(19,⟨true,[.a (.sl .int (FI (d.rows.getD k (aI (.sl .u8)))))]⟩)] [3,11,12,13] [] rfl (by(with_reducible and_intros)<;>first|exact⟨⟩|exact(nT (d.rows.getD k (aI (.sl .u8))) (by first|assumption|omega| (simp;done)| (simp;omega)))|exact rfl| (simp only[dO,maxLen,lens];omega)) (bt X [3,11,12,13] rfl ?_)))))
  refine⟨k+1,by omega,by omega,?_⟩
  rw[bH _ k rfl (by omega),hs]
  try rfl
 ·try simp only[aP]at hb0
  refine aK (aa ?_)
  have t1:=(uD ((d.rows.length:Int)::(d.rows.take k).flatMap FI) (by simp only[List.length_cons];omega))
  exact aE X [] [(23,⟨false,bJ t1⟩)] [2] [] rfl (by(with_reducible and_intros)<;>first|exact⟨⟩|exact t1) (aj (af rfl ⟨by rw[List.take_of_length_le hb0];rfl,⟨⟩⟩))
theorem oy(c r:Int)(d:DB)(hs0:dL List.length d.rows≤1048576):So 187 [az c,az r, .agg (aZ d)] [az (EX c r d)]:=by
 refine ay X call187 func187 ntmps187 rfl rfl ?_
 intro zb
 refine aq X [0,1,5] rfl (aD X [] [(10,⟨false,[az (Im d)]⟩),(12,⟨false,[az (hsh [179,c,r,Im d])]⟩)] [6] [] rfl (by(repeat' with_reducible first|exact aL|refine aS ?_ ?_|apply And.intro);(iterate 2 all_goals try first|exact(th d (by first|assumption|omega| (simp;done)| (simp;omega)))|exact(uD [179,c,r,Im d] (by first|assumption|omega| (simp;done)| (simp;omega))));all_goals first|exact⟨rfl,bn _ (by decide)⟩) ?_)
 exact aj (af rfl ⟨rfl,⟨⟩⟩)
theorem pK(key:Int)(r:eD):So 188 [az key, .agg (kD r)] [az (P7 key r.server r.client r.round r.nI)]:=by
 refine ay X call188 func188 ntmps188 rfl rfl ?_
 intro zb
 refine aq X [0,3] rfl (aa ?_)
 have t1:=(bU key [181,r.server,r.client,r.round,r.nI] (by first|assumption|omega| (simp;done)| (simp;omega)))
 refine aE X [] [(15,⟨false,bJ t1⟩)] [4] [] rfl (by(repeat' with_reducible first|exact aL|refine aS ?_ ?_|apply And.intro)<;>first|exact t1|exact⟨rfl,bn _ (by decide)⟩) ?_
 exact aj (af rfl ⟨rfl,⟨⟩⟩)
theorem xK(key s c r:Int)(d:DB)(hs0:dL List.length d.rows≤1048576):So 112 [az key,az s,az c,az r, .agg (aZ d)] [.agg (kD (mkR key s c r d))]:=by
 refine ay X call112 func112 ntmps112 rfl rfl ?_
 intro zb
 refine aq X [0,1,2,3,9,10] rfl (aD X [] [(18,⟨false,[az (EX c r d)]⟩)] [0,10,11] [] rfl (by(with_reducible and_intros)<;>first|exact⟨⟩|exact(oy c r d (by first|assumption|omega| (simp;done)| (simp;omega)))) (aa ?_))
 have t1:=(pK key (⟨s,c,r,EX c r d,0⟩:eD))
 exact aE X [] [(22,⟨false,bJ t1⟩)] [10,11] [] rfl (by(with_reducible and_intros)<;>first|exact⟨⟩|exact t1) (aC X [10] rfl (by trivial) (aj (af rfl ⟨rfl,rfl,rfl,rfl,rfl,⟨⟩⟩)))
theorem ig(s:bw)(hz:s.received.length≤1048576∧ ∀r,r∈s.received→dL List.length r.share.rows≤1048576):So 178 [.agg (bR s)] [.agg (bR s)]:=by
 refine ay X call178 func178 ntmps178 rfl rfl ?_
 intro zb
 refine aq X [1,2] rfl (aC X [1,2,3] rfl (by and_intros<;>first|exact⟨⟩|exact rfl) (aa (aq X [1,2,3,8,9,10] rfl ?_)))
 refine au (aG (fun k=>k≤s.received.length) (fun k:Nat=> [(10, .one ((az k)))]) (fun k=> [(6, .arr .aR (s.received.take k))]) (fun k=>s.received.length-k) 0 (fun k=>rfl) (Nat.zero_le _) rfl ?_)
 intro k hk
 have hle:=bD s.received k
 refine aq X [1,2,3,8,9,10,11] rfl ?_
 refine aa (ah rfl ?_ ?_)<;>intro hb0
 ·try simp only[aP]at hb0
  have hs:=bL s.received k (aI .aR) hb0
  refine an (aa (au (aC X [1,2,3,5,8,9,10] rfl (by and_intros<;>first|exact⟨⟩| (intros;omega)) (bZ X [(22,6)] [(19,⟨true,[.agg (aZ ((s.received.getD k (aI .aR)).share))]⟩),(500021,⟨true,[]⟩)] [1,2,3,8,9,10] [] 8 MO (by kernel_rfl) rfl (by(repeat' with_reducible first|exact aL|refine aS ?_ ?_|apply And.intro)<;>first|exact(cV ((s.received.getD k (aI .aR)).share) (hz.2 _ (getD_in _ hb0)))|exact rfl|exact⟨rfl,bn _ (by decide)⟩| (simp only[dO,maxLen,lens];omega)) ?_))))
  refine bt X [1,2,3,8,9,10] rfl ?_
  refine⟨k+1,by omega,by omega,?_⟩
  rw[bH _ k rfl (by omega),hs]
  try rfl
 ·try simp only[aP]at hb0
  exact aK (aq X [1,2] rfl (aC X [2] rfl (by trivial) (aj (af rfl ⟨rfl,rfl,rfl,by rw[List.take_of_length_le hb0],rfl,⟨⟩⟩))))
theorem oz(l:List bw)(hl:l.length≤1048576)(hz: ∀s,s∈l→ou s):So 107 [.a (.sl .bw l)] [.a (.sl .bw l)]:=by
 refine ay X call107 func107 ntmps107 rfl rfl ?_
 intro zb
 refine aq X [0] rfl (aC X [0,3] rfl (by and_intros<;>first|exact⟨⟩|exact rfl) (aa (aq X [3,7,8,9] rfl ?_)))
 refine au (aG (fun k=>k≤l.length) (fun k:Nat=> [(9, .one ((az k)))]) (fun k=> [(6, .arr .bw (l.take k))]) (fun k=>l.length-k) 0 (fun k=>rfl) (Nat.zero_le _) rfl ?_)
 intro k hk
 have hle:=bD l k
 refine aq X [3,7,8,9,10] rfl ?_
 refine aa (ah rfl ?_ ?_)<;>intro hb0
 ·try simp only[aP]at hb0
  have hs:=bL l k (aI .bw) hb0
  refine an (aa (au (aC X [3,5,7,8,9] rfl (by and_intros<;>first|exact⟨⟩| (intros;omega)) (aE X [(17,6)] [(15,⟨true,[.agg (bR (l.getD k (aI .bw)))]⟩)] [3,7,8,9] [] rfl (by(with_reducible and_intros)<;>first|exact⟨⟩|exact(ig (l.getD k (aI .bw)) (hz _ (getD_in _ hb0)))|exact rfl| (simp only[dO,maxLen,lens];omega)) (bt X [3,7,8,9] rfl ?_)))))
  refine⟨k+1,by omega,by omega,?_⟩
  rw[bH _ k rfl (by omega),hs]
  try rfl
 ·try simp only[aP]at hb0
  exact aK (aq X [2] rfl (aj (af rfl ⟨by rw[List.take_of_length_le hb0],⟨⟩⟩)))
theorem je(m s:Int):So 268 [az m,az s] [az (jC m s)]:=by
 refine ay X call268 func268 ntmps268 rfl rfl ?_
 intro zb
 refine aq X [0,1] rfl (aa ?_)
 have t1:=(nS 1 (kh m [173,s]))
 refine aE X [] [(8,⟨false,[az (kh m [173,s])]⟩),(9,⟨false,bJ t1⟩)] [4] [] rfl (by(repeat' with_reducible first|exact aL|refine aS ?_ ?_|apply And.intro);(iterate 2 all_goals try first|exact(bE m [173,s] (by first|assumption|omega| (simp;done)| (simp;omega)))|exact t1);all_goals first|exact⟨rfl,bn _ (by decide)⟩) ?_
 exact aj (af rfl ⟨by rw[S8],⟨⟩⟩)
theorem tj(d:DB)(hs0:dL List.length d.rows≤1048576):So 326 [.agg (aZ d)] [az (Im d)]:=by
 refine ay X call326 func326 ntmps326 rfl rfl ?_
 intro zb
 have j0:d.rows.length≤1048576:=ec hs0
 refine aq X [1] rfl (aC X [1,3] rfl (by and_intros<;>first|exact⟨⟩|exact rfl) (aa (aq X [1,3,4] rfl ?_)))
 refine au (aG (fun k=>k≤d.rows.length) (fun k:Nat=> [(4, .one ((az k)))]) (fun k=> [(8, .arr .int ((d.rows.length:Int)::(d.rows.take k).flatMap FI))]) (fun k=>d.rows.length-k) 0 (fun k=>rfl) (Nat.zero_le _) rfl ?_)
 intro k hk
 have BO:=S7 d.rows k
 refine aa (aq X [1,3,4,13] rfl ?_)
 refine ah rfl ?_ ?_<;>intro hb0
 ·try simp only[aP]at hb0
  have hs:=Ob d.rows k hb0
  have hel:(d.rows.getD k (aI (.sl .u8))).length≤1048576:=l8 (f:=List.length) hs0 (getD_some d.rows _ k hb0)
  have CL:=so (d.rows.getD k (aI (.sl .u8)))
  refine an (aa (au (aE X [(23,8)] [(22,⟨true,[.a (.sl .int (FI (d.rows.getD k (aI (.sl .u8)))))]⟩)] [1,3,4] [] rfl (by(with_reducible and_intros)<;>first|exact⟨⟩|exact(nU (d.rows.getD k (aI (.sl .u8))) (by first|assumption|omega| (simp;done)| (simp;omega)))| (intros;omega)|exact rfl| (simp only[dO,maxLen,lens];omega)) (bt X [1,3,4] rfl ?_))))
  refine⟨k+1,by omega,by omega,?_⟩
  rw[bH _ k rfl (by omega),hs]
  try rfl
 ·try simp only[aP]at hb0
  refine aK (aa ?_)
  have t1:=(uE ((d.rows.length:Int)::(d.rows.take k).flatMap FI) (by simp only[List.length_cons];omega))
  exact aE X [] [(25,⟨false,bJ t1⟩)] [2] [] rfl (by(with_reducible and_intros)<;>first|exact⟨⟩|exact t1) (aj (af rfl ⟨by rw[List.take_of_length_le hb0];rfl,⟨⟩⟩))
theorem oA(c r:Int)(d:DB)(hs0:dL List.length d.rows≤1048576):So 303 [az c,az r, .agg (aZ d)] [az (EX c r d)]:=by
 refine ay X call303 func303 ntmps303 rfl rfl ?_
 intro zb
 refine aq X [0,1,5] rfl (aD X [] [(10,⟨false,[az (Im d)]⟩),(12,⟨false,[az (hsh [179,c,r,Im d])]⟩)] [6] [] rfl (by(repeat' with_reducible first|exact aL|refine aS ?_ ?_|apply And.intro);(iterate 2 all_goals try first|exact(tj d (by first|assumption|omega| (simp;done)| (simp;omega)))|exact(uE [179,c,r,Im d] (by first|assumption|omega| (simp;done)| (simp;omega))));all_goals first|exact⟨rfl,bn _ (by decide)⟩) ?_)
 exact aj (af rfl ⟨rfl,⟨⟩⟩)
theorem pL(key:Int)(r:eD):So 304 [az key, .agg (kD r)] [az (P7 key r.server r.client r.round r.nI)]:=by
 refine ay X call304 func304 ntmps304 rfl rfl ?_
 intro zb
 refine aq X [0,3] rfl (aa ?_)
 have t1:=(bE key [181,r.server,r.client,r.round,r.nI] (by first|assumption|omega| (simp;done)| (simp;omega)))
 refine aE X [] [(15,⟨false,bJ t1⟩)] [4] [] rfl (by(repeat' with_reducible first|exact aL|refine aS ?_ ?_|apply And.intro)<;>first|exact t1|exact⟨rfl,bn _ (by decide)⟩) ?_
 exact aj (af rfl ⟨rfl,⟨⟩⟩)
theorem xL(key s c r:Int)(d:DB)(hs0:dL List.length d.rows≤1048576):So 267 [az key,az s,az c,az r, .agg (aZ d)] [.agg (kD (mkR key s c r d))]:=by
 refine ay X call267 func267 ntmps267 rfl rfl ?_
 intro zb
 refine aq X [0,1,2,3,9,10] rfl (aD X [] [(18,⟨false,[az (EX c r d)]⟩)] [0,10,11] [] rfl (by(with_reducible and_intros)<;>first|exact⟨⟩|exact(oA c r d (by first|assumption|omega| (simp;done)| (simp;omega)))) (aa ?_))
 have t1:=(pL key (⟨s,c,r,EX c r d,0⟩:eD))
 exact aE X [] [(22,⟨false,bJ t1⟩)] [10,11] [] rfl (by(with_reducible and_intros)<;>first|exact⟨⟩|exact t1) (aC X [10] rfl (by trivial) (aj (af rfl ⟨rfl,rfl,rfl,rfl,rfl,⟨⟩⟩)))
theorem gl(s:bw)(hz:s.received.length≤1048576∧ ∀r,r∈s.received→dL List.length r.share.rows≤1048576):So 151 [.agg (bR s)] [.agg (bR s)]:=by
 refine ay X call151 func151 ntmps151 rfl rfl ?_
 intro zb
 refine aq X [1,2] rfl (aC X [1,2,3] rfl (by trivial) (aC X [1,2,3] rfl (by and_intros<;>first|exact⟨⟩|exact rfl) (aa (aq X [1,2,3,4] rfl ?_))))
 refine au (aG (fun k=>k≤s.received.length) (fun k:Nat=> [(4, .one ((az k)))]) (fun k=> [(6, .arr .aR (s.received.take k))]) (fun k=>s.received.length-k) 0 (fun k=>rfl) (Nat.zero_le _) rfl ?_)
 intro k hk
 have hle:=bD s.received k
 refine aa (aq X [1,2,3,4,12] rfl ?_)
 refine ah rfl ?_ ?_<;>intro hb0
 ·try simp only[aP]at hb0
  have hs:=bL s.received k (aI .aR) hb0
  refine an (aa (au (bZ X [(32,6)] [(29,⟨true,[.agg (aZ ((s.received.getD k (aI .aR)).share))]⟩),(500031,⟨true,[]⟩)] [1,2,3,4] [] 17 MO (by kernel_rfl) rfl (by(repeat' with_reducible first|exact aL|refine aS ?_ ?_|apply And.intro)<;>first|exact(dK ((s.received.getD k (aI .aR)).share) (hz.2 _ (getD_in _ hb0)))| (intros;omega)|exact rfl|exact⟨rfl,bn _ (by decide)⟩| (simp only[dO,maxLen,lens];omega)) ?_)))
  refine bt X [1,2,3,4] rfl ?_
  refine⟨k+1,by omega,by omega,?_⟩
  rw[bH _ k rfl (by omega),hs]
  try rfl
 ·try simp only[aP]at hb0
  exact aK (aC X [2] rfl (by trivial) (aj (af rfl ⟨rfl,rfl,rfl,by rw[List.take_of_length_le hb0],rfl,⟨⟩⟩)))
end
section
set_option maxRecDepth 100000
theorem fC(c:eg)(h0:dL List.length c.aJ≤1048576∧dL List.length c.inbox≤1048576):So 213 [.agg (bP c)] [.agg (bP c)]:=by
 refine ay X call213 func213 ntmps213 rfl rfl ?_
 intro zb
 exact aq X [1,2] rfl (aC X [1,2,3] rfl (by trivial) (aD X [] [(7,⟨true,[.a (.sl (.sl .u8) c.aJ)]⟩)] [1,2,3] [] rfl (by(with_reducible and_intros)<;>first|exact⟨⟩|exact(qc c.aJ h0.1)) (aD X [] [(11,⟨true,[.a (.sl (.sl .u8) c.inbox)]⟩)] [2,3] [] rfl (by(with_reducible and_intros)<;>first|exact⟨⟩|exact(qc c.inbox h0.2)) (aC X [2] rfl (by trivial) (aj (af rfl ⟨rfl,rfl,rfl,rfl,rfl,rfl,rfl,rfl,⟨⟩⟩))))))
theorem iJ(d:bC)(h0:bO d≤1048576):So 152 [.agg (bK d)] [.agg (bK d)]:=by
 refine ay X call152 func152 ntmps152 rfl rfl ?_
 intro zb
 have rC:cj d.live≤1048576∧cj d.saved≤1048576:=by unfold bO at h0;omega
 unfold cj at rC
 exact aq X [1,2] rfl (cQ X [] [(5,⟨true,[.agg (bP d.live)]⟩),(8,⟨true,[.agg (bP d.saved)]⟩)] [2] [] 7 MO (by kernel_rfl) rfl (by(with_reducible and_intros);(iterate 2 all_goals try first|exact⟨⟩|exact(fC d.live ⟨by omega,by omega⟩)|exact(fC d.saved ⟨by omega,by omega⟩))) (aj (af rfl ⟨rfl,rfl,rfl,rfl,rfl,rfl,rfl,rfl,rfl,rfl,rfl,rfl,rfl,rfl,rfl,rfl,⟨⟩⟩)))
theorem oB(a:iP)(h0:eJ a≤1048576):So 153 [.agg (dc a)] [.agg (dc a)]:=by
 refine ay X call153 func153 ntmps153 rfl rfl ?_
 intro zb
 have hls:dL ez a.rounds≤1048576:=h0
 have j0:=ec hls
 refine aq X [1,2] rfl (aq X [1,2,3] rfl (eM 3 1 60 .aN rfl (aa (aq X [1,2,3,4] rfl ?_))))
 refine au (aG (fun k=>k≤a.rounds.length) (fun k:Nat=> [(4, .one ((az k)))]) (fun k=> [(60, .arr .aN (a.rounds.take k))]) (fun k=>a.rounds.length-k) 0 (fun k=>rfl) (Nat.zero_le _) rfl ?_)
 intro k hk
 have hle:=bD a.rounds k
 refine aa (aq X [1,2,3,4,12] rfl ?_)
 refine ah rfl ?_ ?_<;>intro hb0
 ·try simp only[aP]at hb0
  have hs:=bL a.rounds k (aI .aN) hb0
  refine an (aa (au (bZ X [(32,60)] [(29,⟨true,[.agg (aZ ((a.rounds.getD k (aI .aN)).db))]⟩),(500031,⟨true,[]⟩)] [1,2,3,4] [] 17 MO (by kernel_rfl) rfl (by(repeat' with_reducible first|exact aL|refine aS ?_ ?_|apply And.intro)<;>first|exact(dK ((a.rounds.getD k (aI .aN)).db) (l8 hls (getD_some a.rounds _ k hb0)))| (intros;omega)|exact rfl|exact⟨rfl,bn _ (by decide)⟩| (simp only[dO,maxLen,lens];omega)) ?_)))
  refine bt X [1,2,3,4] rfl ?_
  refine⟨k+1,by omega,by omega,?_⟩
  rw[bH _ k rfl (by omega),hs]
  try rfl
 ·try simp only[aP]at hb0
  exact aK (aC X [2] rfl (by trivial) (aj (af rfl ⟨rfl,by rw[List.take_of_length_le hb0],⟨⟩⟩)))
theorem dr(x:bp)(h0:wB x):So 81 [.agg (aT x)] [.agg (aT x)]:=by
 refine ay X call81 func81 ntmps81 rfl rfl ?_
 intro zb
 have hls:dL dJ x.av≤1048576∧dL bO x.ak≤1048576∧eJ x.aB≤1048576∧x.replaced.length≤4194304:=h0
 have nv:=ec hls.1
 have mo:=ec hls.2.1
 refine aq X [1,2] rfl (aC X [1,2,3] rfl (by trivial) (aC X [1,2,3] rfl (by and_intros<;>first|exact⟨⟩|exact rfl) (aa (aq X [1,2,3,4] rfl ?_))))
 refine au (aG (fun k=>k≤x.av.length) (fun k:Nat=> [(4, .one ((az k)))]) (fun k=> [(7, .arr .bw (x.av.take k))]) (fun k=>x.av.length-k) 0 (fun k=>rfl) (Nat.zero_le _) rfl ?_)
 intro k hk
 have hle:=bD x.av k
 refine aa (aq X [1,2,3,4,13] rfl ?_)
 refine ah rfl ?_ ?_<;>intro hb0
 ·try simp only[aP]at hb0
  have hs:=bL x.av k (aI .bw) hb0
  have hss:=GP hls.1 (getD_some x.av (aI .bw) k hb0)
  refine an (aa (au (bZ X [(25,7)] [(23,⟨true,[.agg (bR (x.av.getD k (aI .bw)))]⟩),(500024,⟨true,[]⟩)] [1,2,3,4] [] 9 MO (by kernel_rfl) rfl (by(repeat' with_reducible first|exact aL|refine aS ?_ ?_|apply And.intro)<;>first|exact(gl (x.av.getD k (aI .bw)) hss)| (intros;omega)|exact rfl|exact⟨rfl,bn _ (by decide)⟩| (simp only[dO,maxLen,lens];omega)) ?_)))
  refine bt X [1,2,3,4] rfl ?_
  refine⟨k+1,by omega,by omega,?_⟩
  rw[bH _ k rfl (by omega),hs]
  try rfl
 ·try simp only[aP]at hb0
  refine aK (aC X [1,2,3] rfl (by and_intros<;>first|exact⟨⟩|exact rfl) (aa (aq X [1,2,3,5] rfl ?_)))
  refine au (aG (fun k1=>k1≤x.ak.length) (fun k1:Nat=> [(5, .one ((az k1)))]) (fun k1=> [(27, .arr .bC (x.ak.take k1))]) (fun k1=>x.ak.length-k1) 0 (fun k1=>rfl) (Nat.zero_le _) rfl ?_)
  intro k1 hk1
  have J8:=bD x.ak k1
  refine aa (aq X [1,2,3,5,33] rfl ?_)
  refine ah rfl ?_ ?_<;>intro aW
  ·try simp only[aP]at aW
   have hs1:=bL x.ak k1 (aI .bC) aW
   refine an (aa (au (bu X [(45,27)] [(43,⟨true,[.agg (bK (x.ak.getD k1 (aI .bC)))]⟩)] [1,2,3,5] [] 1279 2 MO (by kernel_rfl) rfl (by kernel_rfl) (by(with_reducible and_intros)<;>first|exact⟨⟩|exact(iJ (x.ak.getD k1 (aI .bC)) (l8 hls.2.1 (getD_some x.ak _ k1 aW)))| (intros;omega)|exact rfl| (simp only[dO,maxLen,lens];omega)) (bt X [1,2,3,5] rfl ?_))))
   refine⟨k1+1,by omega,by omega,?_⟩
   rw[bH _ k1 rfl (by omega),hs1]
   try rfl
  ·try simp only[aP]at aW
   exact aK (aD X [] [(49,⟨true,[.agg (dc x.aB)]⟩)] [1,2,3] [] rfl (by(with_reducible and_intros)<;>first|exact⟨⟩|exact(oB x.aB hls.2.2.1)) (aD X [(54,51)] [] [2,3] [] rfl (by and_intros<;>first|exact⟨⟩|exact rfl| (simp only[dO,maxLen,lens];omega)) (aC X [2] rfl (by trivial) (aj (af rfl ⟨rfl,by rw[List.take_of_length_le hb0],by rw[List.take_of_length_le aW],rfl,rfl,rfl,rfl,rfl,rfl,rfl,⟨⟩⟩)))))
end
section
set_option maxRecDepth 100000
theorem xN(a:iP)(f:Int)(hal:a.rounds.length≤1048576):So 116 [.agg (dc a),az f] [.a (.sl .int (gX a.rounds f))]:=by
 refine ay X call116 func116 ntmps116 rfl rfl ?_
 intro zb
 refine aq X [1,2] rfl (aC X [1,2,5] rfl (by and_intros<;>first|exact⟨⟩|exact rfl) (aa (aq X [1,5,10,11,12] rfl ?_)))
 refine au (aG (fun k=>k≤a.rounds.length) (fun k:Nat=> [(12, .one ((az k)))]) (fun k=> [(8, .arr .int (gX (a.rounds.take k) f))]) (fun k=>a.rounds.length-k) 0 (fun k=>rfl) (Nat.zero_le _) rfl ?_)
 intro k hk
 have hle:=B3 a.rounds f k
 refine aq X [1,5,10,11,12,13] rfl ?_
 refine aa (ah rfl ?_ ?_)<;>intro hb0
 ·try simp only[aP]at hb0
  refine an (aa (au (aC X [1,5,7,10,11,12] rfl (by and_intros<;>first|exact⟨⟩| (intros;omega)) (aq X [1,5,7,10,11,12,19] rfl ?_))))
  refine ah rfl ?_ ?_<;>intro aW
  ·try simp only[aP]at aW
   have hs:=E1 a.rounds f k hb0 (by omega)
   refine aE X [(24,8)] [] [1,5,10,11,12] [] rfl (by and_intros<;>first|exact⟨⟩|exact rfl| (simp only[dO,maxLen,lens];omega)) (bt X [1,5,10,11,12] rfl ?_)
   refine⟨k+1,by omega,by omega,?_⟩
   rw[bH _ k rfl (by omega),hs]
   try rfl
  ·try simp only[aP]at aW
   have hs:=B2 a.rounds f k hb0 (by omega)
   refine an (bt X [1,5,10,11,12] rfl ?_)
   refine⟨k+1,by omega,by omega,?_⟩
   rw[bH _ k rfl (by omega),hs]
   try rfl
 ·try simp only[aP]at hb0
  exact aK (aq X [4] rfl (aj (af rfl ⟨by rw[List.take_of_length_le hb0],⟨⟩⟩)))
theorem xO(a:iP)(f:Int)(hal:a.rounds.length≤1048576):So 169 [.agg (dc a),az f] [.a (.sl .int (gX a.rounds f))]:=by
 refine ay X call169 func169 ntmps169 rfl rfl ?_
 intro zb
 refine aq X [1,2] rfl (aC X [1,2,5] rfl (by and_intros<;>first|exact⟨⟩|exact rfl) (aa (aq X [1,2,5,6] rfl ?_)))
 refine au (aG (fun k=>k≤a.rounds.length) (fun k:Nat=> [(6, .one ((az k)))]) (fun k=> [(7, .arr .int (gX (a.rounds.take k) f))]) (fun k=>a.rounds.length-k) 0 (fun k=>rfl) (Nat.zero_le _) rfl ?_)
 intro k hk
 have hle:=B3 a.rounds f k
 refine aa (aq X [1,2,5,6,12] rfl ?_)
 refine ah rfl ?_ ?_<;>intro hb0
 ·try simp only[aP]at hb0
  refine an (aa (au (aC X [1,2,5,6,22] rfl (by and_intros<;>first|exact⟨⟩| (intros;omega)) ?_)))
  refine ah rfl ?_ ?_<;>intro aW
  ·try simp only[aP]at aW
   have hs:=E1 a.rounds f k hb0 (by omega)
   refine aE X [(31,7)] [] [1,2,5,6] [] rfl (by and_intros<;>first|exact⟨⟩| (intros;omega)|exact rfl| (simp only[dO,maxLen,lens];omega)) (bt X [1,2,5,6] rfl ?_)
   refine⟨k+1,by omega,by omega,?_⟩
   rw[bH _ k rfl (by omega),hs]
   try rfl
  ·try simp only[aP]at aW
   have hs:=B2 a.rounds f k hb0 (by omega)
   refine an (bt X [1,2,5,6] rfl ?_)
   refine⟨k+1,by omega,by omega,?_⟩
   rw[bH _ k rfl (by omega),hs]
   try rfl
 ·try simp only[aP]at hb0
  exact aK (aq X [4] rfl (aj (af rfl ⟨by rw[List.take_of_length_le hb0],⟨⟩⟩)))
end
section
set_option maxRecDepth 100000
theorem sV(key c:Int)(cell:List UInt8):So 255 [az key,az c, .a (.sl .u8 cell)] [.agg (iS (QC key c cell)),aH (oT key c cell)]:=by
 refine ay X call255 func255 ntmps255 rfl rfl ?_
 intro zb
 refine cx 2 rfl (fun j0=>(aq X [0,1,2,6] rfl (aa (aa ?_))))
 have t1:=(pE key c ((cell.take (20:Int).toNat).drop (0:Int).toNat) (by rw[List.length_drop,List.length_take];omega))
 have t2:=(jB ((cell.take (cell.length:Int).toNat).drop (20:Int).toNat) (four (nW key c ((cell.take (20:Int).toNat).drop (0:Int).toNat))))
 refine bZ X [] [(11,⟨false,[aH (fK key)]⟩),(15,⟨false,[aH (inr c 0 1000000000000)]⟩),(30,⟨false,bJ t1⟩),(31,⟨false,bJ t2⟩)] [0,1,2,6,33] [] 24 MO (by kernel_rfl) rfl (by(with_reducible and_intros);(iterate 4 all_goals try first|exact⟨⟩|exact(hJ key)|exact fun _=>(aM c 0 1000000000000)|exact fun _=>t1|exact fun _=>t2);all_goals first| ((intro h1;first| (intro h2;first| (intro h3;refine And.intro ?_ ?_)|refine And.intro ?_ ?_)|refine And.intro ?_ ?_)<;>first|omega| ((try simp only[aP]at*);(try simp(disch:=omega) only[bV]);omega))) ?_
 refine ah rfl ?_ ?_<;>intro hb0
 ·have hA:Lw key c cell=false:=b9 hb0 (by simp only[Lw,List.drop_zero,Int.reduceToNat,List.take_length,aU]<;>first|rfl|ac_rfl)
  have hk:=ME hA
  exact aC X [6,7] rfl (by trivial) (aj (af rfl ⟨by rw[mQ hk],by rw[mQ hk],by rw[hk],⟨⟩⟩))
 ·have hA:Lw key c cell=true:=bX hb0 (by simp only[Lw,List.drop_zero,Int.reduceToNat,List.take_length,aU]<;>first|rfl|ac_rfl)
  obtain⟨hol,yx⟩:=Iq hA
  refine an (aa ?_)
  have t1:=(Ez (nX key c) ((cell.take (20:Int).toNat).drop (0:Int).toNat) (by rw[List.length_drop,List.length_take];omega))
  refine bZ X [] [(37,⟨false,[az (nX key c)]⟩),(40,⟨true,bJ t1⟩)] [6,8] [] 7 MO (by kernel_rfl) rfl (by(with_reducible and_intros);(iterate 2 all_goals try first|exact⟨⟩|exact(uF key c)|exact t1);all_goals first| (intros;omega)) ?_
  rw[Tk]
  refine aa (aC X [6,8,45] rfl (by and_intros<;>first|exact⟨⟩| (intros;omega)) ?_)
  refine ah rfl ?_ ?_<;>intro aW
  ·try simp only[aP]at aW
   rw[Qc]at aW
   have W6:14<FK key c cell:=by have h:(14:Int)<(FK key c cell:Int):=aW;omega
   have hk:=Yh W6
   exact aC X [6,7] rfl (by trivial) (aj (af rfl ⟨by rw[mQ hk],by rw[mQ hk],by rw[hk],⟨⟩⟩))
  ·try simp only[aP]at aW
   rw[Qc]at aW
   have W6:FK key c cell≤14:=by have h:(FK key c cell:Int)≤14:=aW;omega
   have hu1:((GS key c cell).getD (Int.toNat 1) (aI .u8)).toNat≤14:=W6
   have CL:=Ir hA W6
   have hpk:=acP hA W6
   have NH:=MD key c cell
   refine an (aa ?_)
   have t1:=(cD (((GS key c cell).take (IntKind.i64.wrap (2+IntKind.i64.wrap (((GS key c cell).getD (Int.toNat 1) (aI .u8)).toNat:Int))).toNat).drop (Int.toNat 2)) (by rw[NH,CL];omega))
   refine bZ X [] [(58,⟨true,bJ t1⟩)] [6,9] [] 14 MO (by kernel_rfl) rfl (by(with_reducible and_intros)<;>first|exact⟨⟩|exact t1| (intros;omega)| ((try simp only[aP]at*);(simp(disch:=omega) only[bV]);omega)) ?_
   rw[MD,Qc]
   refine aa (aD X [] [(61,⟨false,[aH (jG (⟨Vr key c cell,Yg key c cell⟩:Plain))]⟩)] [6,9,62] [] rfl (by(with_reducible and_intros)<;>first|exact⟨⟩|exact(mV (⟨Vr key c cell,Yg key c cell⟩:Plain))) ?_)
   refine ah rfl ?_ ?_<;>intro bz
   ·have hk:oT key c cell=false:=by rw[←hpk];simpa using bz
    exact aC X [6,7] rfl (by trivial) (aj (af rfl ⟨by rw[mQ hk],by rw[mQ hk],by rw[hk],⟨⟩⟩))
   ·have hk:oT key c cell=true:=by rw[←hpk];simpa using bz
    exact an (aC X [6,7] rfl (by trivial) (aj (af rfl ⟨by rw[C2 hk];rfl,by rw[C2 hk],by rw[hk],⟨⟩⟩)))
theorem sW(key c:Int)(cell:List UInt8):So 331 [az key,az c, .a (.sl .u8 cell)] [.agg (iS (QC key c cell)),aH (oT key c cell)]:=by
 refine ay X call331 func331 ntmps331 rfl rfl ?_
 intro zb
 refine cx 2 rfl (fun j0=>(aq X [0,1,2,6] rfl (aa (aD X [] [(11,⟨false,[aH (fK key)]⟩),(15,⟨false,[aH (inr c 0 1000000000000)]⟩)] [0,1,2,6,22] [] rfl (by(with_reducible and_intros);(iterate 2 all_goals try first|exact⟨⟩|exact(hY key)|exact fun _=>(bf c 0 1000000000000))) ?_))))
 refine ah rfl ?_ ?_<;>intro hb0
 ·have hH:Yi key c cell=false:=b9 hb0 (by simp only[Yi,aU]<;>first|rfl|ac_rfl)
  have hk:=aae hH
  exact aC X [6,7] rfl (by trivial) (aj (af rfl ⟨by rw[mQ hk],by rw[mQ hk],by rw[hk],⟨⟩⟩))
 ·have hH:Yi key c cell=true:=bX hb0 (by simp only[Yi,aU]<;>first|rfl|ac_rfl)
  obtain⟨hk1,hk2,yx⟩:=acR hH
  have acS:=W2 hk1 hk2 yx
  refine an (cQ X [] [] [0,1,2,6,8] [] 23 MO (by kernel_rfl) rfl (by and_intros<;>first|exact⟨⟩| (intros;omega)) ?_)
  rw[W1]
  refine aa (aa ?_)
  have t1:=(qx key c ((cell.take (20:Int).toNat).drop (0:Int).toNat) (by rw[List.length_drop,List.length_take];omega))
  refine aE X [] [(51,⟨false,bJ t1⟩)] [0,1,2,6,52] [] rfl (by(with_reducible and_intros)<;>first|exact⟨⟩|exact t1| (intros;omega)) ?_
  refine ah rfl ?_ ?_<;>intro aW
  ·try simp only[aP]at aW
   have hA:Lw key c cell=false:=by rw[acS,decide_eq_false_iff_not];intro h;exact aW (by rw[h];simp)
   have hk:=ME hA
   exact aC X [6,7] rfl (by trivial) (aj (af rfl ⟨by rw[mQ hk],by rw[mQ hk],by rw[hk],⟨⟩⟩))
  ·try simp only[aP]at aW
   have hA:Lw key c cell=true:=by rw[acS,decide_eq_true_eq,aW];simp
   obtain⟨hol,_⟩:=Iq hA
   refine an (aa ?_)
   have t1:=(EB (nX key c) ((cell.take (20:Int).toNat).drop (0:Int).toNat) (by rw[List.length_drop,List.length_take];omega))
   refine bZ X [] [(56,⟨false,[az (nX key c)]⟩),(59,⟨true,bJ t1⟩)] [6,9] [] 7 MO (by kernel_rfl) rfl (by(with_reducible and_intros);(iterate 2 all_goals try first|exact⟨⟩|exact(qy key c)|exact t1);all_goals first| (intros;omega)) ?_
   rw[Tk]
   refine aa (aC X [6,9,71] rfl (by and_intros<;>first|exact⟨⟩| (intros;omega)| ((intro h1;first| (intro h2;first| (intro h3;refine And.intro ?_ ?_)|refine And.intro ?_ ?_)|refine And.intro ?_ ?_)<;>first|omega| ((try simp only[aP]at*);(try simp(disch:=omega) only[bV]);omega))| (refine fun _=> ?_;dsimp only[hyps,Hy];omega)) ?_)
   refine ah rfl ?_ ?_<;>intro bz
   ·try simp only[aP]at bz
    rw[Qc,Qc]at bz
    have hk:oT key c cell=false:=by
     rcases bz with h|h
     ·exact Z9 h
     ·exact Yh (by have h:(14:Int)<(FK key c cell:Int):=h;omega)
    exact aC X [6,7] rfl (by trivial) (aj (af rfl ⟨by rw[mQ hk],by rw[mQ hk],by rw[hk],⟨⟩⟩))
   ·try simp only[aP]at bz
    rw[Qc,Qc]at bz
    have W6:FK key c cell≤14:=by have h:(FK key c cell:Int)≤14:=bz.2;omega
    have hu1:((GS key c cell).getD (Int.toNat 1) (aI .u8)).toNat≤14:=W6
    have CL:=Ir hA W6
    have hk:oT key c cell=true:=acQ hA W6 bz.1
    have NH:=MD key c cell
    exact an (aa (bu X [(85,77)] [] [6,7] [] 45055 4 MO (by kernel_rfl) rfl (by kernel_rfl) (by and_intros<;>first|exact⟨⟩| (intros;omega)|exact rfl| ((try simp only[aP]at*);(simp(disch:=omega) only[bV]);omega)| (simp only[dO,maxLen,lens];omega)) (aj (af rfl ⟨by rw[C2 hk];exact congrArg (Value.int IntKind.i64) (Qc _),by rw[C2 hk];exact NH,by rw[hk],⟨⟩⟩))))
theorem ko(a:iP)(r:Int)(hz:a.rounds.length≤1048576∧ ∀y,y∈a.rounds→dL List.length y.db.rows≤1048576):So 120 [.agg (dc a),az r] [.agg (aZ (iK a.rounds r)),aH (lH a.rounds r)]:=by
 refine ay X call120 func120 ntmps120 rfl rfl ?_
 intro zb
 refine bB 0 1 rfl rfl (fun RE=>(aq X [1,2,4] rfl (aa (aq X [1,4,9,10,11] rfl ?_))))
 refine au (aG (fun k=>k≤a.rounds.length∧(a.rounds.take k).any (Te r)=false) (fun k:Nat=> [(11, .one ((az k)))]) (fun k=> []) (fun k=>a.rounds.length-k) 0 (fun k=>rfl) ⟨Nat.zero_le _,rfl⟩ rfl ?_)
 rintro k ⟨hk,hall⟩
 refine aq X [1,4,9,10,11,12] rfl ?_
 refine aa (ah rfl ?_ ?_)<;>intro hb0
 ·try simp only[aP]at hb0
  refine an (aa (au (aC X [1,4,7,9,10,11] rfl (by and_intros<;>first|exact⟨⟩| (intros;omega)) (aq X [1,4,7,9,10,11,18] rfl ?_))))
  refine ah rfl ?_ ?_<;>intro aW
  ·have hh:=Tf hb0 hall aW
   exact aD X [] [(21,⟨true,[.agg (aZ ((a.rounds.getD k (aI .aN)).db))]⟩)] [4,5] [] rfl (by(with_reducible and_intros)<;>first|exact⟨⟩|exact(cV ((a.rounds.getD k (aI .aN)).db) (hz.2 _ (getD_in _ hb0)))) (aj (af rfl ⟨by rw[hh.2],by rw[hh.1],⟨⟩⟩))
  ·refine an (bt X [1,4,9,10,11] rfl ?_)
   refine⟨k+1,⟨by omega,xz (aI .aN) hb0 hall aW⟩,by omega,?_⟩
   rw[bH _ k rfl (by omega)]
   try rfl
 ·try simp only[aP]at hb0
  exact aK (aC X [4,5] rfl (by trivial) (aj (af rfl ⟨by rw[(C0 (by rw[←hall,List.take_of_length_le hb0])).2],by rw[(C0 (by rw[←hall,List.take_of_length_le hb0])).1],⟨⟩⟩)))
theorem Bj(rows:List (List UInt8))(v:List Int)(hr: ∀r,r∈rows→r.length≤1048576):So 260 [.a (.sl (.sl .u8) rows), .a (.sl .int v)] [.a (.sl .u8 (zC rows v))]:=by
 refine ay X call260 func260 ntmps260 rfl rfl ?_
 intro zb
 refine cx 0 rfl (fun hl0=> ?_)
 refine cx 1 rfl (fun nv=>(aq X [0,1] rfl (aC X [0,1,5] rfl (by and_intros<;>first|exact⟨⟩|exact rfl) (aa (aq X [1,5,9,10,11] rfl ?_)))))
 refine au (aG (fun k=>k≤rows.length) (fun k:Nat=> [(11, .one ((az k)))]) (fun k=> [(8, .arr .u8 (sr rows v k))]) (fun k=>rows.length-k) 0 (fun k=>rfl) (Nat.zero_le _) rfl ?_)
 intro k hk
 have hle:=uR v hr k hk
 refine aq X [1,5,9,10,11,12] rfl ?_
 refine aa (ah rfl ?_ ?_)<;>intro hb0
 ·try simp only[aP]at hb0
  have hel:=hr _ (getD_in (aI (.sl .u8)) hb0)
  refine an (aa (au (aC X [1,5,6,7,9,10,11] rfl (by and_intros<;>first|exact⟨⟩| (intros;omega)) (aC X [1,5,7,9,10,11,26] rfl (by and_intros<;>first|exact⟨⟩| ((intro h1;first| (intro h2;first| (intro h3;refine And.intro ?_ ?_)|refine And.intro ?_ ?_)|refine And.intro ?_ ?_)<;>first|omega| ((try simp only[aP]at*);(try simp(disch:=omega) only[bV]);omega))) ?_))))
  refine ah rfl ?_ ?_<;>intro aW
  ·try simp only[aP]at aW
   have hs:=zD (rows:=rows) aW.1 aW.2
   refine aE X [] [(29,⟨true,[.a (.sl .u8 (eG (sr rows v k) (rows.getD k (aI (.sl .u8)))))]⟩)] [1,5,9,10,11] [] rfl (by(with_reducible and_intros)<;>first|exact⟨⟩|exact(jH (sr rows v k) (rows.getD k (aI (.sl .u8))) (by first|assumption|omega| (simp;done)| (simp;omega)) (by first|assumption|omega| (simp;done)| (simp;omega)))) (nD 5 8 rfl (bt X [1,5,9,10,11] rfl ?_))
   refine⟨k+1,by omega,by omega,?_⟩
   rw[bH _ k rfl (by omega),hs]
   try rfl
  ·try simp only[aP]at aW
   have hs:=qL (rows:=rows) (v:=v) (k:=k) (by omega)
   refine an (bt X [1,5,9,10,11] rfl ?_)
   refine⟨k+1,by omega,by omega,?_⟩
   rw[bH _ k rfl (by omega),hs]
   try rfl
 ·try simp only[aP]at hb0
  exact aK (aq X [4] rfl (aj (af rfl ⟨by rw[KH hk (Or.inl hb0)],⟨⟩⟩)))
theorem oD(d:DB)(v:List Int):So 202 [.agg (aZ d), .a (.sl .int v)] [.a (.sl .u8 (gu d v))]:=by
 refine ay X call202 func202 ntmps202 rfl rfl ?_
 intro zb
 refine aq X [1,2] rfl (aa (aD X [] [(6,⟨false,[aH (cT d)]⟩),(13,⟨false,[aH (gz v (d.rows.length:Int))]⟩)] [1,2,15] [] rfl (by(with_reducible and_intros);(iterate 2 all_goals try first|exact⟨⟩|exact(dx d)|exact fun _=>(jU v (d.rows.length:Int)))) ?_))
 refine ah rfl ?_ ?_<;>intro hb0
 ·have hk:(cT d&&gz v d.rows.length)=false:=b9 hb0 (by simp only[aU]<;>first|rfl|ac_rfl)
  exact aq X [4] rfl (aj (af rfl ⟨by rw[gu,hk];rfl,⟨⟩⟩))
 ·have hk:(cT d&&gz v d.rows.length)=true:=bX hb0 (by simp only[aU]<;>first|rfl|ac_rfl)
  have hkk:=hk
  rw[Bool.and_eq_true]at hkk
  have MG: ∀r,r∈d.rows→r.length≤1048576:=fun r hr=>by rw[(gO.1 hkk.1).2 r hr];decide
  have hxl:(zC d.rows v).length≤1048576:=uR v MG d.rows.length (Nat.le_refl _)
  exact an (cQ X [] [(20,⟨true,[.a (.sl .u8 (zC d.rows v))]⟩),(21,⟨true,[.a (.sl .u8 (eG Vn (zC d.rows v)))]⟩)] [4] [] 7 MO (by kernel_rfl) rfl ⟨jH Vn (zC d.rows v) (by rw[sk];decide) hxl,Bj d.rows v MG,⟨rfl,bn _ (by decide)⟩,rfl,by omega,⟨by decide,by decide⟩,⟨⟩⟩ (aj (af rfl ⟨by rw[gu,if_pos hk],⟨⟩⟩)))
theorem qO(key:Int)(a:cY)(h1:a.selection.length≤262144)(h2:a.data.length≤262144):So 256 [az key, .agg (fA a)] [az (E2 key a.server a.round a.selection a.data)]:=by
 refine ay X call256 func256 ntmps256 rfl rfl ?_
 intro zb
 refine aq X [0,3] rfl (aa ?_)
 have t1:=(j9 [[191,a.server,a.round,(a.selection.length:Int)],a.selection,FI a.data] (by simp) (by simp[so];omega))
 have t2:=(bU key ([[191,a.server,a.round,(a.selection.length:Int)],a.selection,FI a.data].flatten) (by simp[so];omega))
 refine bu X [] [(18,⟨true,[.a (.sl .int (FI a.data))]⟩),(20,⟨true,bJ t1⟩),(21,⟨false,bJ t2⟩)] [4] [] 245759 1 MO (by kernel_rfl) rfl (by kernel_rfl) (by(repeat' with_reducible first|exact aL|refine aS ?_ ?_|apply And.intro);(iterate 3 all_goals try first|exact(nT a.data (by omega))|exact t1|exact t2);all_goals first|exact rfl|exact⟨rfl,bn _ (by decide)⟩) ?_
 exact aj (af rfl ⟨by simp[E2],⟨⟩⟩)
theorem kq(a:iP)(r:Int)(hz:a.rounds.length≤1048576∧ ∀y,y∈a.rounds→dL List.length y.db.rows≤1048576):So 274 [.agg (dc a),az r] [.agg (aZ (iK a.rounds r)),aH (lH a.rounds r)]:=by
 refine ay X call274 func274 ntmps274 rfl rfl ?_
 intro zb
 refine bB 0 1 rfl rfl (fun RE=>(aq X [1,2,4] rfl (aa (aq X [1,2,4,6] rfl ?_))))
 refine au (aG (fun k=>k≤a.rounds.length∧(a.rounds.take k).any (Te r)=false) (fun k:Nat=> [(6, .one ((az k)))]) (fun k=> []) (fun k=>a.rounds.length-k) 0 (fun k=>rfl) ⟨Nat.zero_le _,rfl⟩ rfl ?_)
 rintro k ⟨hk,hall⟩
 refine aa (aq X [1,2,4,6,11] rfl ?_)
 refine ah rfl ?_ ?_<;>intro hb0
 ·try simp only[aP]at hb0
  refine an (aa (au (aC X [1,2,4,6,21] rfl (by and_intros<;>first|exact⟨⟩| (intros;omega)) ?_)))
  refine ah rfl ?_ ?_<;>intro aW
  ·have hh:=Tf hb0 hall aW
   exact aD X [] [(28,⟨true,[.agg (aZ ((a.rounds.getD k (aI .aN)).db))]⟩)] [4,5] [] rfl (by(with_reducible and_intros)<;>first|exact⟨⟩|exact(dK ((a.rounds.getD k (aI .aN)).db) (hz.2 _ (getD_in _ hb0)))| (intros;omega)) (aj (af rfl ⟨by rw[hh.2],by rw[hh.1],⟨⟩⟩))
  ·refine an (bt X [1,2,4,6] rfl ?_)
   refine⟨k+1,⟨by omega,xz (aI .aN) hb0 hall aW⟩,by omega,?_⟩
   rw[bH _ k rfl (by omega)]
   try rfl
 ·try simp only[aP]at hb0
  exact aK (aC X [4,5] rfl (by trivial) (aj (af rfl ⟨by rw[(C0 (by rw[←hall,List.take_of_length_le hb0])).2],by rw[(C0 (by rw[←hall,List.take_of_length_le hb0])).1],⟨⟩⟩)))
theorem Bk(rows:List (List UInt8))(v:List Int)(hr: ∀r,r∈rows→r.length≤1048576):So 334 [.a (.sl (.sl .u8) rows), .a (.sl .int v)] [.a (.sl .u8 (zC rows v))]:=by
 refine ay X call334 func334 ntmps334 rfl rfl ?_
 intro zb
 refine cx 0 rfl (fun hl0=> ?_)
 refine cx 1 rfl (fun nv=>(aq X [0,1] rfl (aC X [0,1,5] rfl (by and_intros<;>first|exact⟨⟩|exact rfl) (aa (aq X [0,1,5,6] rfl ?_)))))
 refine au (aG (fun k=>k≤rows.length) (fun k:Nat=> [(6, .one ((az k)))]) (fun k=> [(7, .arr .u8 (sr rows v k))]) (fun k=>rows.length-k) 0 (fun k=>rfl) (Nat.zero_le _) rfl ?_)
 intro k hk
 have hle:=uR v hr k hk
 refine aa (aq X [0,1,5,6,17] rfl ?_)
 refine ah rfl ?_ ?_<;>intro hb0
 ·try simp only[aP]at hb0
  have hel:=hr _ (getD_in (aI (.sl .u8)) hb0.1)
  refine an (aa (au (aC X [0,1,5,6,24] rfl (by and_intros<;>first|exact⟨⟩| (intros;omega)) ?_)))
  refine ah rfl ?_ ?_<;>intro aW
  ·try simp only[aP]at aW
   have hs:=zD (rows:=rows) hb0.2 aW
   refine aE X [] [(30,⟨true,[.a (.sl .u8 (eG (sr rows v k) (rows.getD k (aI (.sl .u8)))))]⟩)] [0,1,5,6] [] rfl (by(with_reducible and_intros)<;>first|exact⟨⟩|exact(jI (sr rows v k) (rows.getD k (aI (.sl .u8))) (by first|assumption|omega| (simp;done)| (simp;omega)) (by first|assumption|omega| (simp;done)| (simp;omega)))| (intros;omega)) (nD 5 7 rfl (bt X [0,1,5,6] rfl ?_))
   refine⟨k+1,by omega,by omega,?_⟩
   rw[bH _ k rfl (by omega),hs]
   try rfl
  ·try simp only[aP]at aW
   have hs:=qL (rows:=rows) (v:=v) (k:=k) (fun h=>aW h.2)
   refine an (bt X [0,1,5,6] rfl ?_)
   refine⟨k+1,by omega,by omega,?_⟩
   rw[bH _ k rfl (by omega),hs]
   try rfl
 ·try simp only[aP]at hb0
  exact aK (aq X [4] rfl (aj (af rfl ⟨by rw[KH hk (by omega)],⟨⟩⟩)))
theorem oE(d:DB)(v:List Int):So 314 [.agg (aZ d), .a (.sl .int v)] [.a (.sl .u8 (gu d v))]:=by
 refine ay X call314 func314 ntmps314 rfl rfl ?_
 intro zb
 refine aq X [1,2] rfl (aa (aD X [] [(6,⟨false,[aH (cT d)]⟩),(13,⟨false,[aH (gz v (d.rows.length:Int))]⟩)] [1,2,15] [] rfl (by(with_reducible and_intros);(iterate 2 all_goals try first|exact⟨⟩|exact(cN d)|exact fun _=>(jV v (d.rows.length:Int)))) ?_))
 refine ah rfl ?_ ?_<;>intro hb0
 ·have hk:(cT d&&gz v d.rows.length)=false:=b9 hb0 (by simp only[aU]<;>first|rfl|ac_rfl)
  exact aC X [4] rfl (by and_intros<;>first|exact⟨⟩|exact rfl) (aj (af rfl ⟨by rw[gu,hk];rfl,⟨⟩⟩))
 ·have hk:(cT d&&gz v d.rows.length)=true:=bX hb0 (by simp only[aU]<;>first|rfl|ac_rfl)
  have hkk:=hk
  rw[Bool.and_eq_true]at hkk
  have MG: ∀r,r∈d.rows→r.length≤1048576:=fun r hr=>by rw[(gO.1 hkk.1).2 r hr];decide
  have hxl:(zC d.rows v).length≤1048576:=uR v MG d.rows.length (Nat.le_refl _)
  exact an (cQ X [] [(21,⟨true,[.a (.sl .u8 (zC d.rows v))]⟩),(22,⟨true,[.a (.sl .u8 (eG Vn (zC d.rows v)))]⟩)] [4] [] 7 MO (by kernel_rfl) rfl ⟨jI Vn (zC d.rows v) (by rw[sk];decide) hxl,Bk d.rows v MG,⟨rfl,bn _ (by decide)⟩,rfl,by omega,⟨by decide,by decide⟩,⟨⟩⟩ (aj (af rfl ⟨by rw[gu,if_pos hk],⟨⟩⟩)))
theorem lX(key:Int)(a:cY)(h1:a.selection.length≤262144)(h2:a.data.length≤262144):So 312 [az key, .agg (fA a)] [az (E2 key a.server a.round a.selection a.data)]:=by
 refine ay X call312 func312 ntmps312 rfl rfl ?_
 intro zb
 have CL:=so a.data
 refine aq X [0,3] rfl (aD X [(16,13)] [] [0,3,5] [] rfl (by and_intros<;>first|exact⟨⟩|exact rfl| (simp only[dO,maxLen,lens];omega)) (aa ?_))
 have t1:=(bE key ([191,a.server,a.round,(a.selection.length:Int)]++a.selection++FI a.data) (by simp[so];omega))
 exact aE X [(22,13)] [(21,⟨true,[.a (.sl .int (FI a.data))]⟩),(23,⟨false,bJ t1⟩)] [4] [] rfl (by(with_reducible and_intros);(iterate 2 all_goals try first|exact⟨⟩|exact(nU a.data (by omega))|exact t1);all_goals first|exact rfl| (simp only[dO,maxLen,lens];omega)) (aj (af rfl ⟨rfl,⟨⟩⟩))
theorem w9(key:Int)(a:cY)(h1:a.selection.length≤262144)(h2:a.data.length≤262144):dA ty Tryz.prog 198 [(5, .arr .int a.selection),(6, .arr .u8 a.data)] [az key, .agg [aO a.server,aO a.round, .own 5, .own 6,aO a.Ls]] [(5, .arr .int a.selection),(6, .arr .u8 a.data)] [.agg [aO a.server,aO a.round, .own 5, .own 6,aO (E2 key a.server a.round a.selection a.data)]]:=by
 refine cq X call198 func198 rfl rfl (by decide) ntmps198 (by simp) rfl ?_
 intro zb
 exact aq X [0,3,4] rfl (aD X [] [(7,⟨false,[az (E2 key a.server a.round a.selection a.data)]⟩)] [3,4] [] rfl (by(with_reducible and_intros)<;>first|exact⟨⟩|exact(qO key a h1 h2)) (aC X [4] rfl (by trivial) (aj (aY rfl ⟨rfl,rfl,rfl,rfl,rfl,⟨⟩⟩))))
theorem zF(key sv r:Int)(d:DB)(v:List Int)(hv:v.length≤262144):So 197 [az key,az sv,az r, .agg (aZ d), .a (.sl .int v)] [.agg (fA (oP key sv r d v)),aH (ld d v)]:=by
 refine ay X call197 func197 ntmps197 rfl rfl ?_
 intro zb
 have hal:=uS d v
 refine aq X [0,1,2,4,8,10] rfl (aD X [] [(15,⟨true,[.a (.sl .u8 (gu d v))]⟩)] [0,1,2,4,10,12] [] rfl (by(with_reducible and_intros)<;>first|exact⟨⟩|exact(oD d v)) (aa (aq X [0,1,2,4,10,12,18] rfl ?_)))
 refine ah rfl ?_ ?_<;>intro hb0
 ·try simp only[aP]at hb0
  have hk:=Oj (d:=d) (v:=v) (by omega)
  have hg:=Tm (key:=key) (sv:=sv) (r:=r) hk
  exact aC X [10,11] rfl (by trivial) (aj (af rfl (by and_intros<;>first|exact⟨⟩| (rw[hg];rfl;done)| (rw[hk];done))))
 ·try simp only[aP]at hb0
  have hk:=E5 (d:=d) (v:=v) (by omega)
  have hg:=C3 (key:=key) (sv:=sv) (r:=r) hk
  have h24:=C4 hk
  refine an (aa ?_)
  have t1:=(w9 key (⟨sv,r,v,gu d v,0⟩:cY) (by show v.length≤_;omega) (by show(gu d v).length≤_;omega))
  exact aE X [] [(24,⟨true,[.a (.sl .int v)]⟩),(800027,⟨true,bF t1⟩),(700027,⟨true, .agg [.ptr 5 24, .ptr 6 15]:: .agg []::bG t1⟩)] [10,11] [] rfl (by(with_reducible and_intros);(iterate 2 all_goals try first|exact⟨⟩|exact(gD v (by omega))|exact t1)) (aj (af rfl (by and_intros<;>first|exact⟨⟩| (rw[hg];rfl;done)| (rw[hk];done))))
theorem sX(s:bw)(key r:Int)(d:DB)(v:List Int)(hv:v.length≤262144):So 121 [.agg (bR s),az key,az r, .agg (aZ d), .a (.sl .int v)] [.agg (fA (MA s key r d v)),aH (ld d v)]:=by
 refine ay X call121 func121 ntmps121 rfl rfl ?_
 intro zb
 refine aq X [1,2,4,5,8,10] rfl (aD X [] [(21,⟨true,[.agg (fA (oP key s.id r d v)),aH (ld d v)]⟩)] [1,5,10,12,13] [] rfl (by(with_reducible and_intros)<;>first|exact⟨⟩|exact(zF key s.id r d v (by first|assumption|omega| (simp;done)| (simp;omega)))) (aa (aq X [1,10,12,13,29] rfl ?_)))
 refine ah rfl ?_ ?_<;>intro hb0
 ·have hq:(ld d v&&(s.behavior==3))=true:=jc hb0 (by simp only[aU]<;>first|rfl|ac_rfl)
  obtain⟨hk,ha⟩:=Ok (key:=key) (r:=r) hq
  have hg:=C3 (key:=key) (sv:=s.id) (r:=r) hk
  have BO:(oP key s.id r d v).data.length=24:=by rw[hg];exact C4 hk
  refine aC X [1,10,12,13] rfl (by and_intros<;>first|exact⟨⟩| (intros;omega)|exact(rV _).1|exact(rV _).2) ?_
  rw[Tl]
  have t1:=(w9 key (⟨(oP key s.id r d v).server,(oP key s.id r d v).round,(oP key s.id r d v).selection,Lx (oP key s.id r d v).data,(oP key s.id r d v).Ls⟩:cY) (by show(oP key s.id r d v).selection.length≤_;rw[hg];exact hv) (by show(Lx (oP key s.id r d v).data).length≤_;rw[Is,BO];decide))
  exact aE X [] [(800038,⟨true,bF t1⟩),(700038,⟨true, .agg [.ptr 5 23, .ptr 6 24]:: .agg []::bG t1⟩)] [10,12,13] [] rfl (by(with_reducible and_intros)<;>first|exact⟨⟩|exact t1) (aC X [10,11] rfl (by trivial) (aj (af rfl (by and_intros<;>first|exact⟨⟩| (rw[ha];simp only[hg];rfl;done)| (rw[hk];done)))))
 ·have hq:(ld d v&&(s.behavior==3))=false:=lV hb0 (by simp only[aU]<;>first|rfl|ac_rfl)
  have ha:=Tn (key:=key) (r:=r) hq
  exact an (aC X [10,11] rfl (by trivial) (aj (af rfl (by and_intros<;>first|exact⟨⟩|rfl| (rw[ha];done)))))
theorem zG(key sv r:Int)(d:DB)(v:List Int)(hv:v.length≤262144):So 311 [az key,az sv,az r, .agg (aZ d), .a (.sl .int v)] [.agg (fA (oP key sv r d v)),aH (ld d v)]:=by
 refine ay X call311 func311 ntmps311 rfl rfl ?_
 intro zb
 have hal:=uS d v
 refine aq X [0,1,2,4,8,10] rfl (aD X [] [(16,⟨true,[.a (.sl .u8 (gu d v))]⟩)] [0,1,2,4,10,12] [] rfl (by(with_reducible and_intros)<;>first|exact⟨⟩|exact(oE d v)) (aa (aq X [0,1,2,4,10,12,19] rfl ?_)))
 refine ah rfl ?_ ?_<;>intro hb0
 ·try simp only[aP]at hb0
  have hk:=Oj (d:=d) (v:=v) (by omega)
  have hg:=Tm (key:=key) (sv:=sv) (r:=r) hk
  exact aC X [10,11] rfl (by trivial) (aj (af rfl (by and_intros<;>first|exact⟨⟩| (rw[hg];rfl;done)| (rw[hk];done))))
 ·try simp only[aP]at hb0
  have hk:=E5 (d:=d) (v:=v) (by omega)
  have hg:=C3 (key:=key) (sv:=sv) (r:=r) hk
  have h24:=C4 hk
  exact an (aD X [(25,23)] [] [0,10,13] [] rfl (by and_intros<;>first|exact⟨⟩|exact rfl| (simp only[dO,maxLen,lens];omega)) (aD X [] [(30,⟨false,[az (E2 key (⟨sv,r,v,gu d v,0⟩:cY).server (⟨sv,r,v,gu d v,0⟩:cY).round (⟨sv,r,v,gu d v,0⟩:cY).selection (⟨sv,r,v,gu d v,0⟩:cY).data)]⟩)] [10,13] [] rfl (by(with_reducible and_intros)<;>first|exact⟨⟩|exact(lX key (⟨sv,r,v,gu d v,0⟩:cY) (by show v.length≤_;omega) (by show(gu d v).length≤_;omega))) (aC X [10,11] rfl (by trivial) (aj (af rfl (by and_intros<;>first|exact⟨⟩| (rw[hg];rfl;done)| (rw[hk];done)))))))
theorem sY(s:bw)(key r:Int)(d:DB)(v:List Int)(hv:v.length≤262144):So 275 [.agg (bR s),az key,az r, .agg (aZ d), .a (.sl .int v)] [.agg (fA (MA s key r d v)),aH (ld d v)]:=by
 refine ay X call275 func275 ntmps275 rfl rfl ?_
 intro zb
 refine aq X [1,2,4,5,8,10] rfl (aD X [] [(21,⟨true,[.agg (fA (oP key s.id r d v)),aH (ld d v)]⟩)] [1,5,10,12,13] [] rfl (by(with_reducible and_intros)<;>first|exact⟨⟩|exact(zG key s.id r d v (by first|assumption|omega| (simp;done)| (simp;omega)))) (aa (aq X [1,10,12,13,29] rfl ?_)))
 refine ah rfl ?_ ?_<;>intro hb0
 ·have hq:(ld d v&&(s.behavior==3))=true:=jc hb0 (by simp only[aU]<;>first|rfl|ac_rfl)
  obtain⟨hk,ha⟩:=Ok (key:=key) (r:=r) hq
  have hg:=C3 (key:=key) (sv:=s.id) (r:=r) hk
  have BO:(oP key s.id r d v).data.length=24:=by rw[hg];exact C4 hk
  refine cQ X [] [] [1,10,12,13] [] 8 MO (by kernel_rfl) rfl (by and_intros<;>first|exact⟨⟩| (intros;omega)|exact(rV _).1|exact(rV _).2) ?_
  rw[Tl]
  exact aE X [] [(40,⟨false,[az (E2 key (⟨(oP key s.id r d v).server,(oP key s.id r d v).round,(oP key s.id r d v).selection,Lx (oP key s.id r d v).data,(oP key s.id r d v).Ls⟩:cY).server (⟨(oP key s.id r d v).server,(oP key s.id r d v).round,(oP key s.id r d v).selection,Lx (oP key s.id r d v).data,(oP key s.id r d v).Ls⟩:cY).round (⟨(oP key s.id r d v).server,(oP key s.id r d v).round,(oP key s.id r d v).selection,Lx (oP key s.id r d v).data,(oP key s.id r d v).Ls⟩:cY).selection (⟨(oP key s.id r d v).server,(oP key s.id r d v).round,(oP key s.id r d v).selection,Lx (oP key s.id r d v).data,(oP key s.id r d v).Ls⟩:cY).data)]⟩)] [10,12,13] [] rfl (by(with_reducible and_intros)<;>first|exact⟨⟩|exact(lX key (⟨(oP key s.id r d v).server,(oP key s.id r d v).round,(oP key s.id r d v).selection,Lx (oP key s.id r d v).data,(oP key s.id r d v).Ls⟩:cY) (by show(oP key s.id r d v).selection.length≤_;rw[hg];exact hv) (by show(Lx (oP key s.id r d v).data).length≤_;rw[Is,BO];decide))) (aC X [10,11] rfl (by trivial) (aj (af rfl (by and_intros<;>first|exact⟨⟩| (rw[ha];simp only[hg];rfl;done)| (rw[hk];done)))))
 ·have hq:(ld d v&&(s.behavior==3))=false:=lV hb0 (by simp only[aU]<;>first|rfl|ac_rfl)
  have ha:=Tn (key:=key) (r:=r) hq
  exact an (aC X [10,11] rfl (by trivial) (aj (af rfl (by and_intros<;>first|exact⟨⟩|rfl| (rw[ha];done)))))
theorem qP(b:List UInt8):So 295 [.a (.sl .u8 b)] [aH (!decide ((b.length:Int)=24))]:=by
 refine ay X call295 func295 ntmps295 rfl rfl ?_
 intro zb
 exact aq X [0] rfl (aq X [2] rfl (aj (af rfl ⟨(congrArg Value.bool (by simp only[aU]<;>first|rfl|ac_rfl)),⟨⟩⟩)))
theorem FV(l:List (List UInt8))(hr: ∀a,a∈l→a.length≤1048576):So 296 [.a (.sl (.sl .u8) l)] [.a (.sl .u8 (wo l))]:=by
 refine ay X call296 func296 ntmps296 rfl rfl ?_
 intro zb
 refine cx 0 rfl (fun j0=>(aq X [0] rfl (aC X [0,3] rfl (by and_intros<;>first|exact⟨⟩|exact rfl) (aa (aq X [3,7,8,9] rfl ?_)))))
 refine au (aG (fun k=>k≤l.length) (fun k:Nat=> [(9, .one ((az k)))]) (fun k=> [(6, .arr .u8 (wo (l.take k)))]) (fun k=>l.length-k) 0 (fun k=>rfl) (Nat.zero_le _) rfl ?_)
 intro k hk
 have hle:=KI hr k
 refine aq X [3,7,8,9,10] rfl ?_
 refine aa (ah rfl ?_ ?_)<;>intro hb0
 ·try simp only[aP]at hb0
  have hel:=hr _ (getD_in (aI (.sl .u8)) hb0)
  have hs:=Bh l k hb0
  refine an (aa (au (aC X [3,5,7,8,9] rfl (by and_intros<;>first|exact⟨⟩| (intros;omega)) (aE X [] [(15,⟨true,[.a (.sl .u8 (eG (wo (l.take k)) (l.getD k (aI (.sl .u8)))))]⟩)] [3,7,8,9] [] rfl (by(with_reducible and_intros)<;>first|exact⟨⟩|exact(jH (wo (l.take k)) (l.getD k (aI (.sl .u8))) (by first|assumption|omega| (simp;done)| (simp;omega)) (by first|assumption|omega| (simp;done)| (simp;omega)))) (nD 3 6 rfl (bt X [3,7,8,9] rfl ?_))))))
  refine⟨k+1,by omega,by omega,?_⟩
  rw[bH _ k rfl (by omega),hs]
  try rfl
 ·try simp only[aP]at hb0
  exact aK (aq X [2] rfl (aj (af rfl ⟨by rw[List.take_of_length_le hb0],⟨⟩⟩)))
theorem FW(l:List (List UInt8))(hr: ∀a,a∈l→a.length≤1048576):So 335 [.a (.sl (.sl .u8) l)] [.a (.sl .u8 (wo l))]:=by
 refine ay X call335 func335 ntmps335 rfl rfl ?_
 intro zb
 refine cx 0 rfl (fun j0=>(aq X [0] rfl (aC X [0,3] rfl (by and_intros<;>first|exact⟨⟩|exact rfl) (aa (aq X [0,3,4] rfl ?_)))))
 refine au (aG (fun k=>k≤l.length) (fun k:Nat=> [(4, .one ((az k)))]) (fun k=> [(5, .arr .u8 (wo (l.take k)))]) (fun k=>l.length-k) 0 (fun k=>rfl) (Nat.zero_le _) rfl ?_)
 intro k hk
 have hle:=KI hr k
 refine aa (aq X [0,3,4,9] rfl ?_)
 refine ah rfl ?_ ?_<;>intro hb0
 ·try simp only[aP]at hb0
  have hel:=hr _ (getD_in (aI (.sl .u8)) hb0)
  have hs:=Bh l k hb0
  refine an (aa (au (aE X [] [(17,⟨true,[.a (.sl .u8 (eG (wo (l.take k)) (l.getD k (aI (.sl .u8)))))]⟩)] [0,3,4] [] rfl (by(with_reducible and_intros)<;>first|exact⟨⟩|exact(jI (wo (l.take k)) (l.getD k (aI (.sl .u8))) (by first|assumption|omega| (simp;done)| (simp;omega)) (by first|assumption|omega| (simp;done)| (simp;omega)))| (intros;omega)) (nD 3 5 rfl (bt X [0,3,4] rfl ?_)))))
  refine⟨k+1,by omega,by omega,?_⟩
  rw[bH _ k rfl (by omega),hs]
  try rfl
 ·try simp only[aP]at hb0
  exact aK (aq X [2] rfl (aj (af rfl ⟨by rw[List.take_of_length_le hb0],⟨⟩⟩)))
theorem tu(l:List (List UInt8)):So 254 [.a (.sl (.sl .u8) l)] [.a (.sl .u8 (Vq l)),aH (iL l)]:=by
 refine ay X call254 func254 ntmps254 rfl rfl ?_
 intro zb
 refine cx 0 rfl (fun j0=>(aq X [0] rfl (aa (aD X [] [(6,⟨false,[aH (cM (l.length:Int))]⟩),(10,⟨false,[aH (l.any fun b=> !decide ((b.length:Int)=24))]⟩)] [0,11] [] rfl (by(with_reducible and_intros);(iterate 2 all_goals try first|exact⟨⟩|exact(dV (l.length:Int))|exact fun _=>(eC _ _ _ qP))) ?_))))
 refine ah rfl ?_ ?_<;>intro hb0
 ·have hk:iL l=false:=by rw[iL,uG];exact b9 hb0 (by simp only[aU]<;>first|rfl|ac_rfl)
  exact aq X [2,3] rfl (aj (af rfl ⟨by rw[C5 hk],by rw[hk],⟨⟩⟩))
 ·have hk:iL l=true:=by rw[iL,uG];exact bX hb0 (by simp only[aU]<;>first|rfl|ac_rfl)
  have hel:=KL hk
  exact an (aD X [] [(13,⟨true,[.a (.sl .u8 (wo l))]⟩)] [2,3] [] rfl (by(with_reducible and_intros)<;>first|exact⟨⟩|exact(FV l hel)) (aj (af rfl ⟨by rw[Ol hk],by rw[hk],⟨⟩⟩)))
theorem tv(l:List (List UInt8)):So 330 [.a (.sl (.sl .u8) l)] [.a (.sl .u8 (Vq l)),aH (iL l)]:=by
 refine ay X call330 func330 ntmps330 rfl rfl ?_
 intro zb
 refine cx 0 rfl (fun j0=>(aq X [0] rfl (aa (aq X [0,4] rfl ?_))))
 refine au (aG (fun k=>k≤l.length∧(l.take k).all (fun a=>decide ((a.length:Int)=24))=true) (fun k:Nat=> [(4, .one ((az k)))]) (fun k=> []) (fun k=>l.length-k) 0 (fun k=>rfl) ⟨Nat.zero_le _,rfl⟩ rfl ?_)
 rintro k ⟨fP,hall⟩
 refine aa (aq X [0,4,8] rfl ?_)
 refine ah rfl ?_ ?_<;>intro hb0
 ·try simp only[aP]at hb0
  refine an (aa (au (aC X [0,4,16] rfl (by and_intros<;>first|exact⟨⟩| (intros;omega)) ?_)))
  refine ah rfl ?_ ?_<;>intro aW
  ·try simp only[aP]at aW
   have hk:=W3 hb0 (fun h=>aW (by rw[h];rfl))
   exact aC X [2,3] rfl (by and_intros<;>first|exact⟨⟩|exact rfl) (aj (af rfl ⟨by rw[C5 hk],by rw[hk],⟨⟩⟩))
  ·try simp only[aP]at aW
   refine an (bt X [0,4] rfl ?_)
   refine⟨k+1,⟨by omega,by rw[Ew _ _ _ (aI (.sl .u8)) hb0,hall,Bool.true_and];exact decide_eq_true aW⟩,by omega,?_⟩
   rw[bH _ k rfl (by omega)]
   try rfl
 ·try simp only[aP]at hb0
  rw[List.take_of_length_le hb0]at hall
  refine aK (aa (aD X [] [(20,⟨false,[aH (cM (l.length:Int))]⟩)] [0,21] [] rfl (by(with_reducible and_intros)<;>first|exact⟨⟩|exact(gf (l.length:Int))) ?_))
  refine ah rfl ?_ ?_<;>intro bz
  ·have hk:iL l=false:=by rw[iL,hall];simpa using bz
   exact aC X [2,3] rfl (by and_intros<;>first|exact⟨⟩|exact rfl) (aj (af rfl ⟨by rw[C5 hk],by rw[hk],⟨⟩⟩))
  ·have hk:iL l=true:=by rw[iL,hall];simpa using bz
   have hel:=KL hk
   exact an (aD X [] [(24,⟨true,[.a (.sl .u8 (wo l))]⟩)] [2,3] [] rfl (by(with_reducible and_intros)<;>first|exact⟨⟩|exact(FW l hel)) (aj (af rfl ⟨by rw[Ol hk],by rw[hk],⟨⟩⟩)))
theorem uU(l:List cY)(hl:l.length≤1048576):So 194 [.a (.sl .cY l)] [.a (.sl .u8 (Vq (l.map cY.data))),aH (iL (l.map cY.data))]:=by
 refine ay X call194 func194 ntmps194 rfl rfl ?_
 intro zb
 refine aq X [0] rfl (aC X [0,4] rfl (by and_intros<;>first|exact⟨⟩|exact rfl) (KM 4 60 rfl (aa (aq X [4,8,9,10] rfl ?_))))
 refine au (aG (fun k=>k≤l.length) (fun k:Nat=> [(10, .one ((az k)))]) (fun k=> [(60, .gq (.sl .u8) ((l.take k).map cY.data) .nJ)]) (fun k=>l.length-k) 0 (fun k=>rfl) (Nat.zero_le _) rfl ?_)
 intro k hk
 have hle:=bD l k
 refine aq X [4,8,9,10,11] rfl ?_
 refine aa (ah rfl ?_ ?_)<;>intro hb0
 ·try simp only[aP]at hb0
  have hs:=mu cY.data l k (aI .cY) hb0
  have hml:((l.take k).map cY.data).length=(l.take k).length:=List.length_map ..
  refine an (aa (au (aC X [4,6,8,9,10] rfl (by and_intros<;>first|exact⟨⟩| (intros;omega)) (aE X [(18,60)] [] [4,8,9,10] [] rfl (by and_intros<;>first|exact⟨⟩|exact rfl| (simp only[dO,maxLen,lens];omega)) (bt X [4,8,9,10] rfl ?_)))))
  refine⟨k+1,by omega,by omega,?_⟩
  rw[bH _ k rfl (by omega),hs]
  try rfl
 ·try simp only[aP]at hb0
  rw[List.take_of_length_le hb0]
  refine aK (aa ?_)
  have t1:=(tu (l.map cY.data))
  exact aE X [] [(21,⟨true,bJ t1⟩)] [2,3] [] rfl (by(with_reducible and_intros)<;>first|exact⟨⟩|exact t1) (aj (af rfl ⟨rfl,rfl,⟨⟩⟩))
theorem uV(l:List cY)(hl:l.length≤1048576):So 308 [.a (.sl .cY l)] [.a (.sl .u8 (Vq (l.map cY.data))),aH (iL (l.map cY.data))]:=by
 refine ay X call308 func308 ntmps308 rfl rfl ?_
 intro zb
 refine aq X [0] rfl (aC X [0,4] rfl (by and_intros<;>first|exact⟨⟩|exact rfl) (KM 4 60 rfl (aa (aq X [0,4,5] rfl ?_))))
 refine au (aG (fun k=>k≤l.length) (fun k:Nat=> [(5, .one ((az k)))]) (fun k=> [(60, .gq (.sl .u8) ((l.take k).map cY.data) .nJ)]) (fun k=>l.length-k) 0 (fun k=>rfl) (Nat.zero_le _) rfl ?_)
 intro k hk
 have hle:=bD l k
 refine aa (aq X [0,4,5,10] rfl ?_)
 refine ah rfl ?_ ?_<;>intro hb0
 ·try simp only[aP]at hb0
  have hs:=mu cY.data l k (aI .cY) hb0
  have hml:((l.take k).map cY.data).length=(l.take k).length:=List.length_map ..
  refine an (aa (au (aE X [(20,60)] [] [0,4,5] [] rfl (by and_intros<;>first|exact⟨⟩| (intros;omega)|exact rfl| (simp only[dO,maxLen,lens];omega)) (bt X [0,4,5] rfl ?_))))
  refine⟨k+1,by omega,by omega,?_⟩
  rw[bH _ k rfl (by omega),hs]
  try rfl
 ·try simp only[aP]at hb0
  rw[List.take_of_length_le hb0]
  refine aK (aa ?_)
  have t1:=(tv (l.map cY.data))
  exact aE X [] [(22,⟨true,bJ t1⟩)] [2,3] [] rfl (by(with_reducible and_intros)<;>first|exact⟨⟩|exact t1) (aj (af rfl ⟨rfl,rfl,⟨⟩⟩))
theorem oF(x:bp)(r row s:Int)(hk:okW x=true):So 118 [.agg (aT x),az r,az row,az s] [.a (.sl .u8 (Ly x r row s)),aH (GX x r row s)]:=by
 refine ay X call118 func118 ntmps118 rfl rfl ?_
 intro zb
 have har:=Iu hk
 have hql:=Om r row s hk
 have hs4:=ef hk
 have hrl:=oo x.av.length r row s
 refine aq X [1,2,3,4] rfl (aa ?_)
 have t1:=(ko x.aB r ⟨by omega,har.2⟩)
 refine aE X [] [(21,⟨true,bJ t1⟩)] [1,2,3,4,10,11] [] rfl (by(with_reducible and_intros)<;>first|exact⟨⟩|exact t1) (aa (aD X [] [(25,⟨false,[aH (okW x)]⟩)] [1,2,3,4,10,30] [] rfl (by(with_reducible and_intros)<;>first|exact⟨⟩|exact(b7 x)) ?_))
 refine ah rfl ?_ ?_<;>intro hb0
 ·have hh:lH x.aB.rounds r=false:=by rw[hk]at hb0;simpa using hb0
  exact aq X [8,9] rfl (aj (af rfl ⟨by rw[(It hh).1],by rw[(It hh).2],⟨⟩⟩))
 ·have hh:lH x.aB.rounds r=true:=by rw[hk]at hb0;simpa using hb0
  have hpy:=On (row:=row) (s:=s) hh
  refine an (aC X [1,2,3,4,10,12] rfl (by and_intros<;>first|exact⟨⟩|exact rfl) (aa (aa ?_)))
  have t1:=(A3 x.rows row (gW x.av.length r row s) (by omega))
  refine bZ X [] [(39,⟨true,[.a (.sl .int (gW x.av.length r row s))]⟩),(40,⟨true,bJ t1⟩)] [1,4,10,12,40,41,42] [] 11 MO (by kernel_rfl) rfl (by(with_reducible and_intros);(iterate 2 all_goals try first|exact⟨⟩|exact(A5 x r row s (by omega))|exact t1)) ?_
  refine au (aG (fun k=>k≤(query' x r row s).length) (fun k:Nat=> [(42, .one ((az k)))]) (fun k=> [(31, .arr .cY (uT x r (iK x.aB.rounds r) (query' x r row s) k))]) (fun k=>(query' x r row s).length-k) 0 (fun k=>rfl) (Nat.zero_le _) rfl ?_)
  intro k hk
  have hal:=GW x r (iK x.aB.rounds r) (query' x r row s) k
  have hqy:(qC x.rows row (gW x.av.length r row s)).length=(query' x r row s).length:=rfl
  refine aq X [1,4,10,12,40,41,42,43] rfl ?_
  refine aa (ah rfl ?_ ?_)<;>intro aW
  ·try simp only[aP]at aW
   have hqe:=Tq x r row s k
   have hs:=E3 x r (iK x.aB.rounds r) (query' x r row s) k
   refine an (aa (au (aC X [1,4,10,12,13,14,40,41,42] rfl (by and_intros<;>first|exact⟨⟩| (intros;omega)) (aa ?_))))
   have t1:=(sX (x.av.getD k (aI .bw)) (jC x.aX (k:Int)) r (iK x.aB.rounds r) ((query' x r row s).getD k (aI (.sl .int))) (by omega))
   refine bu X [] [(56,⟨false,[az (jC x.aX (k:Int))]⟩),(60,⟨true,bJ t1⟩)] [1,4,10,12,15,16,40,41,42] [] 393215 1 MO (by kernel_rfl) rfl (by kernel_rfl) (by(with_reducible and_intros);(iterate 2 all_goals try first|exact⟨⟩|exact(jd x.aX (k:Int))|exact t1);all_goals first| (intros;omega)) (aa (aq X [1,4,10,12,15,40,41,42,64] rfl ?_))
   refine ah rfl ?_ ?_<;>intro bz
   ·have hno:=Ti aW (by simpa using bz)
    exact aq X [8,9] rfl (aj (af rfl ⟨by rw[hpy.1,C5 hno],by rw[hpy.2,hno],⟨⟩⟩))
   ·refine an (aE X [(68,31)] [] [1,4,10,12,40,41,42] [] rfl (by and_intros<;>first|exact⟨⟩|exact rfl| (simp only[dO,maxLen,lens];omega)) (bt X [1,4,10,12,40,41,42] rfl ?_))
    refine⟨k+1,by omega,by omega,?_⟩
    rw[bH _ k rfl (by omega),hs]
    try rfl
  ·try simp only[aP]at aW
   refine aK (aa ?_)
   have t1:=(uU (uT x r (iK x.aB.rounds r) (query' x r row s) k) (by omega))
   exact aE X [] [(71,⟨true,bJ t1⟩)] [8,9] [] rfl (by(with_reducible and_intros)<;>first|exact⟨⟩|exact t1) (aj (af rfl ⟨by rw[hpy.1,show k=(query' x r row s).length by omega];rfl,by rw[hpy.2,show k=(query' x r row s).length by omega];rfl,⟨⟩⟩))
theorem uW(x:bp)(r row s:Int)(hk:okW x=true):So 272 [.agg (aT x),az r,az row,az s] [.a (.sl .u8 (Ly x r row s)),aH (GX x r row s)]:=by
 refine ay X call272 func272 ntmps272 rfl rfl ?_
 intro zb
 have har:=Iu hk
 have hql:=Om r row s hk
 have hs4:=ef hk
 have hrl:=oo x.av.length r row s
 have hw:IntKind.i64.wrap ((x.av.length:Int)-1)=(x.av.length:Int)-1:=bV (by omega)
 refine aq X [1,2,3,4] rfl (aa ?_)
 have t1:=(kq x.aB r ⟨by omega,har.2⟩)
 refine aE X [] [(23,⟨true,bJ t1⟩)] [1,2,3,4,10,11] [] rfl (by(with_reducible and_intros)<;>first|exact⟨⟩|exact t1) (aa (aq X [1,2,3,4,10,27] rfl ?_))
 refine ah rfl ?_ ?_<;>intro hb0
 ·have hh:lH x.aB.rounds r=false:=by simpa using hb0
  exact aC X [8,9] rfl (by and_intros<;>first|exact⟨⟩|exact rfl) (aj (af rfl ⟨by rw[(It hh).1],by rw[(It hh).2],⟨⟩⟩))
 ·have hh:lH x.aB.rounds r=true:=by simpa using hb0
  have hpy:=On (row:=row) (s:=s) hh
  refine an (aC X [1,2,3,4,10,12] rfl (by and_intros<;>first|exact⟨⟩|exact rfl) (aa (aq X [1,2,3,4,10,12,13] rfl ?_)))
  refine au (aG (fun k=>k≤(x.av.length-1)) (fun k:Nat=> [(13, .one ((az k)))]) (fun k=> [(29, .arr .int ((gW x.av.length r row s).take k))]) (fun k=>(x.av.length-1)-k) 0 (fun k=>rfl) (Nat.zero_le _) rfl ?_)
  intro k hk
  have hle:=bD (gW x.av.length r row s) k
  refine aa (aq X [1,2,3,4,10,12,13,35] rfl ?_)
  refine ah rfl ?_ ?_<;>intro aW
  ·try simp only[aP]at aW
   rw[hw]at aW
   have hs:=BY x.av.length r row s k (by omega)
   refine an (aa (au (aE X [(46,29)] [(44,⟨false,[az (kh s [229,r,row,(k:Int)])]⟩)] [1,2,3,4,10,12,13] [] rfl (by(repeat' with_reducible first|exact aL|refine aS ?_ ?_|apply And.intro)<;>first|exact(bE s [229,r,row,(k:Int)] (by first|assumption|omega| (simp;done)| (simp;omega)))|exact rfl|exact⟨rfl,bn _ (by decide)⟩| (simp only[dO,maxLen,lens];omega)) ?_)))
   refine bt X [1,2,3,4,10,12,13] rfl ?_
   refine⟨k+1,by omega,by omega,?_⟩
   rw[bH _ k rfl (by omega),hs]
   try rfl
  ·try simp only[aP]at aW
   rw[hw]at aW
   refine aK (aa ?_)
   rw[List.take_of_length_le (show(gW x.av.length r row s).length≤k by omega)]
   have t1:=(A4 x.rows row (gW x.av.length r row s) (by omega))
   refine aE X [] [(51,⟨true,bJ t1⟩)] [1,4,10,14] [] rfl (by(with_reducible and_intros)<;>first|exact⟨⟩|exact t1) (aC X [1,4,10,14,15] rfl (by and_intros<;>first|exact⟨⟩|exact rfl) (aa (aq X [1,4,10,14,15,16] rfl ?_)))
   refine au (aG (fun k1=>k1≤(query' x r row s).length) (fun k1:Nat=> [(16, .one ((az k1)))]) (fun k1=> [(52, .arr .cY (uT x r (iK x.aB.rounds r) (query' x r row s) k1))]) (fun k1=>(query' x r row s).length-k1) 0 (fun k1=>rfl) (Nat.zero_le _) rfl ?_)
   intro k1 hk1
   have hal:=GW x r (iK x.aB.rounds r) (query' x r row s) k1
   have hqy:(qC x.rows row (gW x.av.length r row s)).length=(query' x r row s).length:=rfl
   refine aa (aq X [1,4,10,14,15,16,56] rfl ?_)
   refine ah rfl ?_ ?_<;>intro bz
   ·try simp only[aP]at bz
    have hqe:=Tq x r row s k1
    have hs1:=E3 x r (iK x.aB.rounds r) (query' x r row s) k1
    refine an (aa (au (aa ?_)))
    have t1:=(sY (x.av.getD k1 (aI .bw)) (jC x.aX (k1:Int)) r (iK x.aB.rounds r) ((query' x r row s).getD k1 (aI (.sl .int))) (by omega))
    refine bu X [] [(68,⟨false,[az (jC x.aX (k1:Int))]⟩),(75,⟨true,bJ t1⟩)] [1,4,10,14,15,16,17] [] 3145727 1 MO (by kernel_rfl) rfl (by kernel_rfl) (by(with_reducible and_intros);(iterate 2 all_goals try first|exact⟨⟩|exact(je x.aX (k1:Int))|exact t1);all_goals first| (intros;omega)) (aE X [(81,52)] [] [1,4,10,14,15,16] [] rfl (by and_intros<;>first|exact⟨⟩|exact rfl| (simp only[dO,maxLen,lens];omega)) (bt X [1,4,10,14,15,16] rfl ?_))
    refine⟨k1+1,by omega,by omega,?_⟩
    rw[bH _ k1 rfl (by omega),hs1]
    try rfl
   ·try simp only[aP]at bz
    refine aK (aa ?_)
    have t1:=(uV (uT x r (iK x.aB.rounds r) (query' x r row s) k1) (by omega))
    exact aE X [] [(83,⟨true,bJ t1⟩)] [8,9] [] rfl (by(with_reducible and_intros)<;>first|exact⟨⟩|exact t1) (aj (af rfl ⟨by rw[hpy.1,show k1=(query' x r row s).length by omega];rfl,by rw[hpy.2,show k1=(query' x r row s).length by omega];rfl,⟨⟩⟩))
end
section
set_option maxRecDepth 100000
theorem ew(c:eg)(h0:dL List.length c.aJ≤1048576∧dL List.length c.inbox≤1048576):So 177 [.agg (bP c)] [.agg (bP c)]:=by
 refine ay X call177 func177 ntmps177 rfl rfl ?_
 intro zb
 exact aq X [1,2] rfl (aD X [] [(5,⟨true,[.a (.sl (.sl .u8) c.aJ)]⟩)] [1,2] [] rfl (by(with_reducible and_intros)<;>first|exact⟨⟩|exact(lS c.aJ h0.1)) (aD X [] [(9,⟨true,[.a (.sl (.sl .u8) c.inbox)]⟩)] [1,2] [] rfl (by(with_reducible and_intros)<;>first|exact⟨⟩|exact(lS c.inbox h0.2)) (aC X [2] rfl (by trivial) (aj (af rfl ⟨rfl,rfl,rfl,rfl,rfl,rfl,rfl,rfl,⟨⟩⟩)))))
theorem fM(d:bC)(h0:bO d≤1048576):So 106 [.agg (bK d)] [.agg (bK d)]:=by
 refine ay X call106 func106 ntmps106 rfl rfl ?_
 intro zb
 have rC:cj d.live≤1048576∧cj d.saved≤1048576:=by unfold bO at h0;omega
 unfold cj at rC
 exact aq X [1,2] rfl (cQ X [] [(5,⟨true,[.agg (bP d.live)]⟩),(8,⟨true,[.agg (bP d.saved)]⟩)] [2] [] 7 MO (by kernel_rfl) rfl (by(with_reducible and_intros);(iterate 2 all_goals try first|exact⟨⟩|exact(ew d.live ⟨by omega,by omega⟩)|exact(ew d.saved ⟨by omega,by omega⟩))) (aj (af rfl ⟨rfl,rfl,rfl,rfl,rfl,rfl,rfl,rfl,rfl,rfl,rfl,rfl,rfl,rfl,rfl,rfl,⟨⟩⟩)))
theorem oK(a:iP)(h0:eJ a≤1048576):So 108 [.agg (dc a)] [.agg (dc a)]:=by
 refine ay X call108 func108 ntmps108 rfl rfl ?_
 intro zb
 have hls:dL ez a.rounds≤1048576:=h0
 have j0:=ec hls
 refine aq X [1,2] rfl (aq X [1,2,3] rfl (eM 3 1 60 .aN rfl (aa (aq X [2,3,10,11,12] rfl ?_))))
 refine au (aG (fun k=>k≤a.rounds.length) (fun k:Nat=> [(12, .one ((az k)))]) (fun k=> [(60, .arr .aN (a.rounds.take k))]) (fun k=>a.rounds.length-k) 0 (fun k=>rfl) (Nat.zero_le _) rfl ?_)
 intro k hk
 have hle:=bD a.rounds k
 refine aq X [2,3,10,11,12,13] rfl ?_
 refine aa (ah rfl ?_ ?_)<;>intro hb0
 ·try simp only[aP]at hb0
  have hs:=bL a.rounds k (aI .aN) hb0
  refine an (aa (au (aC X [2,3,5,10,11,12] rfl (by and_intros<;>first|exact⟨⟩| (intros;omega)) (bZ X [(25,60)] [(22,⟨true,[.agg (aZ ((a.rounds.getD k (aI .aN)).db))]⟩),(500024,⟨true,[]⟩)] [2,3,10,11,12] [] 9 MO (by kernel_rfl) rfl (by(repeat' with_reducible first|exact aL|refine aS ?_ ?_|apply And.intro)<;>first|exact(cV ((a.rounds.getD k (aI .aN)).db) (l8 hls (getD_some a.rounds _ k hb0)))|exact rfl|exact⟨rfl,bn _ (by decide)⟩| (simp only[dO,maxLen,lens];omega)) ?_))))
  refine bt X [2,3,10,11,12] rfl ?_
  refine⟨k+1,by omega,by omega,?_⟩
  rw[bH _ k rfl (by omega),hs]
  try rfl
 ·try simp only[aP]at hb0
  exact aK (aC X [2] rfl (by trivial) (aj (af rfl ⟨rfl,by rw[List.take_of_length_le hb0],⟨⟩⟩)))
theorem dg(x:bp)(h0:wB x):So 40 [.agg (aT x)] [.agg (aT x)]:=by
 refine ay X call40 func40 ntmps40 rfl rfl ?_
 intro zb
 have hls:dL dJ x.av≤1048576∧dL bO x.ak≤1048576∧eJ x.aB≤1048576∧x.replaced.length≤4194304:=h0
 have nv:=ec hls.1
 have mo:=ec hls.2.1
 refine aq X [1,2] rfl (aC X [1,2,3] rfl (by and_intros<;>first|exact⟨⟩|exact rfl) (aa (aq X [1,2,3,8,9,10] rfl ?_)))
 refine au (aG (fun k=>k≤x.ak.length) (fun k:Nat=> [(10, .one ((az k)))]) (fun k=> [(6, .arr .bC (x.ak.take k))]) (fun k=>x.ak.length-k) 0 (fun k=>rfl) (Nat.zero_le _) rfl ?_)
 intro k hk
 have hle:=bD x.ak k
 refine aq X [1,2,3,8,9,10,11] rfl ?_
 refine aa (ah rfl ?_ ?_)<;>intro hb0
 ·try simp only[aP]at hb0
  have hs:=bL x.ak k (aI .bC) hb0
  refine an (aa (au (aC X [1,2,3,5,8,9,10] rfl (by and_intros<;>first|exact⟨⟩| (intros;omega)) (aE X [(18,6)] [(16,⟨true,[.agg (bK (x.ak.getD k (aI .bC)))]⟩)] [1,2,3,8,9,10] [] rfl (by(with_reducible and_intros)<;>first|exact⟨⟩|exact(fM (x.ak.getD k (aI .bC)) (l8 hls.2.1 (getD_some x.ak _ k hb0)))|exact rfl| (simp only[dO,maxLen,lens];omega)) (bt X [1,2,3,8,9,10] rfl ?_)))))
  refine⟨k+1,by omega,by omega,?_⟩
  rw[bH _ k rfl (by omega),hs]
  try rfl
 ·try simp only[aP]at hb0
  exact aK (aD X [] [(22,⟨true,[.a (.sl .bw x.av)]⟩)] [1,2,3] [] rfl (by(with_reducible and_intros)<;>first|exact⟨⟩|exact(oz x.av nv (fun s hs=>by obtain⟨i,hi⟩:=List.mem_iff_getElem?.1 hs;exact GP hls.1 hi))) (aq X [1,2] rfl (aD X [] [(28,⟨true,[.agg (dc x.aB)]⟩)] [1,2] [] rfl (by(with_reducible and_intros)<;>first|exact⟨⟩|exact(oK x.aB hls.2.2.1)) (aD X [] [(32,⟨true,[.a (.sl .int x.replaced)]⟩)] [1,2] [] rfl (by(with_reducible and_intros)<;>first|exact⟨⟩|exact(gD x.replaced hls.2.2.2)) (aC X [2] rfl (by trivial) (aj (af rfl (by and_intros<;>first|exact⟨⟩|rfl| (rw[List.take_of_length_le hb0];done)))))))))
theorem qW(c:eg)(h0:dL List.length c.aJ≤1048576∧dL List.length c.inbox≤1048576):So 150 [.agg (bP c)] [.agg (bK (⟨c,c⟩:bC))]:=by
 refine ay X call150 func150 ntmps150 rfl rfl ?_
 intro zb
 exact aq X [1,2] rfl (cQ X [(6,40)] [(4,⟨true,[.agg (bP c)]⟩),(6,⟨true,[.agg (bP c)]⟩)] [2] [] 5 MO (by kernel_rfl) rfl (by(with_reducible and_intros);(iterate 2 all_goals try first|exact⟨⟩|exact(ew c h0))) (aj (af rfl ⟨rfl,rfl,rfl,rfl,rfl,rfl,rfl,rfl,rfl,rfl,rfl,rfl,rfl,rfl,rfl,rfl,⟨⟩⟩)))
theorem pP(d:bC)(h0:bO d≤1048576):So 80 [.agg (bK d)] [.agg (bK (FX d))]:=by
 refine ay X call80 func80 ntmps80 rfl rfl ?_
 intro zb
 have rC:cj d.live≤1048576∧cj d.saved≤1048576:=by unfold bO at h0;omega
 unfold cj at rC
 refine aq X [1,2] rfl (aa (aD X [] [(4,⟨false,[aH (c9 d)]⟩)] [1,2,5] [] rfl (by(with_reducible and_intros)<;>first|exact⟨⟩|exact(dY d)) ?_))
 refine ah rfl ?_ ?_<;>intro hb0
 ·have hk:c9 d=false:=by simpa using hb0
  have hd:FX d=d:=by rw[FX,hk];rfl
  exact aD X [] [(7,⟨true,[.agg (bK d)]⟩)] [2] [] rfl (by(with_reducible and_intros)<;>first|exact⟨⟩|exact(fM d h0)) (aj (af rfl (by and_intros<;>first|exact⟨⟩| (rw[hd];done))))
 ·have hk:c9 d=true:=by simpa using hb0
  have hd:FX d=⟨d.live,d.live⟩:=by rw[FX,if_pos hk]
  exact an (aD X [] [(10,⟨true,[.agg (bK (⟨d.live,d.live⟩:bC))]⟩)] [2] [] rfl (by(with_reducible and_intros)<;>first|exact⟨⟩|exact(qW d.live ⟨by omega,by omega⟩)) (aj (af rfl (by and_intros<;>first|exact⟨⟩| (rw[hd];done)))))
theorem Bq(d:bC):So 196 [.agg (bK d)] [aH (wZ d)]:=by
 refine ay X call196 func196 ntmps196 rfl rfl ?_
 intro zb
 exact aq X [1] rfl (aD X [] [(4,⟨false,[aH (c9 d)]⟩)] [2] [] rfl (by(with_reducible and_intros)<;>first|exact⟨⟩|exact(dY d)) (aj (af rfl ⟨(congrArg Value.bool (by simp only[wZ,aU]<;>first|rfl|ac_rfl)),⟨⟩⟩)))
theorem zQ(c:eg)(r n:Int):So 117 [.agg (bP c),az r,az n] [az (iX c.key r (cU c) n),az (iX c.key r (1-cU c) n)]:=by
 refine ay X call117 func117 ntmps117 rfl rfl ?_
 intro zb
 have hdw:=TU c
 exact aq X [1,2,3] rfl (cQ X [] [(12,⟨false,[az (cU c)]⟩),(14,⟨false,[az (iX c.key r (cU c) n)]⟩),(19,⟨false,[az (cU c)]⟩),(22,⟨false,[az (iX c.key r (IntKind.i64.wrap (1-cU c)) n)]⟩)] [6,7] [] 17 MO (by kernel_rfl) rfl (by(with_reducible and_intros);(iterate 4 all_goals try first|exact⟨⟩|exact(gh c)|exact(kM c.key r (cU c) n)|exact(kM c.key r (IntKind.i64.wrap (1-cU c)) n))) (aj (af rfl ⟨rfl,by rw[hdw],⟨⟩⟩)))
theorem zR(c:eg)(r:Int)(own other:List UInt8)(h0:dL List.length c.aJ≤1048576∧dL List.length c.inbox≤1048576):So 195 [.agg (bP c),az r, .a (.sl .u8 own), .a (.sl .u8 other)] [.agg (bP (fL c r own other)),aH (tq c r)]:=by
 refine ay X call195 func195 ntmps195 rfl rfl ?_
 intro zb
 refine aq X [1,2,3,4,8] rfl (aD X [] [(14,⟨true,[.agg (bP c)]⟩)] [1,2,3,4,8,10] [] rfl (by(with_reducible and_intros)<;>first|exact⟨⟩|exact(ew c h0)) (aa (aD X [] [(16,⟨false,[aH (dy c)]⟩),(22,⟨false,[aH (inr r c.next 99999)]⟩)] [1,2,3,4,8,10,24] [] rfl (by(with_reducible and_intros);(iterate 2 all_goals try first|exact⟨⟩|exact(dW c)|exact fun _=>(aM r c.next 99999))) ?_)))
 refine ah rfl ?_ ?_<;>intro hb0
 ·have hk:tq c r=false:=b9 hb0 (by simp only[tq,aU]<;>first|rfl|ac_rfl)
  have hc:=KZ (own:=own) (other:=other) hk
  exact aC X [8,9] rfl (by trivial) (aj (af rfl (by and_intros<;>first|exact⟨⟩| (rw[hc];done)| (rw[hk];done))))
 ·have hk:tq c r=true:=bX hb0 (by simp only[tq,aU]<;>first|rfl|ac_rfl)
  obtain⟨hok,hn1,hn2,VR⟩:=TP hk
  obtain⟨hu1,Qy,_,_,hs0,hs9,_,_⟩:=qI hok
  have hc:fL c r own other=⟨c.id,c.ct,c.key,c.seed,c.aJ,if sS c own then c.sent+1 else c.sent,if kj c other then c.inbox++ [(QC (E4 c) (c.inbox.length:Int) other).body]else c.inbox,r+1⟩:=by rw[fL,if_pos hk]
  refine an (aa (aD X [] [(37,⟨false,[.a (.sl .u8 (n8 c c.sent))]⟩),(38,⟨false,[aH (own==(n8 c c.sent))]⟩)] [1,3,4,8,10,39] [] rfl ⟨fun _=>kQ own (n8 c c.sent),fun h=>oc c c.sent hs0 (of_decide_eq_true h),⟨⟩⟩ ?_))
  refine ah rfl ?_ ?_<;>intro aW
  ·have hh:sS c own=true:=jc aW (by simp only[sS,aU]<;>first|rfl|ac_rfl)
   refine bt X [1,3,4,8,10] rfl ?_
   rw[bV (a:=c.sent+1) (by omega)]
   refine aa ?_
   have t1:=(sV (nY c.key (IntKind.i64.wrap (1-cU c))) (c.inbox.length:Int) other)
   refine bu X [] [(48,⟨false,[az (cU c)]⟩),(50,⟨false,[az (nY c.key (IntKind.i64.wrap (1-cU c)))]⟩),(55,⟨true,bJ t1⟩)] [1,4,8,10,11,12] [] 98303 1 MO (by kernel_rfl) rfl (by kernel_rfl) (by(with_reducible and_intros);(iterate 3 all_goals try first|exact⟨⟩|exact(gh c)|exact(jq c.key (IntKind.i64.wrap (1-cU c)))|exact t1)) ?_
   rw[zP]
   refine aa (aq X [1,8,10,11,69] rfl ?_)
   refine ah rfl ?_ ?_<;>intro bz
   ·have hg:kj c other=true:=jc bz (by simp only[kj,aU]<;>first|rfl|ac_rfl)
    refine eO X [1,8,10] rfl (by and_intros<;>first|exact⟨⟩|exact rfl| (simp only[dO,maxLen,lens];omega)) (aq X [8,10] rfl ?_)
    rw[bV (a:=r+1) (by omega)]
    exact aC X [8,9] rfl (by trivial) (aj (af rfl (by and_intros<;>first|exact⟨⟩| (rw[hc];done)| (rw[hc];simp only[hh,if_true];done)| (rw[hc];simp only[hg,if_true];done)| (rw[hk];done))))
   ·have hg:kj c other=false:=lV bz (by simp only[kj,aU]<;>first|rfl|ac_rfl)
    refine an (aq X [8,10] rfl ?_)
    rw[bV (a:=r+1) (by omega)]
    exact aC X [8,9] rfl (by trivial) (aj (af rfl (by and_intros<;>first|exact⟨⟩| (rw[hc];done)| (rw[hc];simp only[hh,if_true];done)| (rw[hc];simp[hg];done)| (rw[hk];done))))
  ·have hh:sS c own=false:=lV aW (by simp only[sS,aU]<;>first|rfl|ac_rfl)
   refine an (aa ?_)
   have t1:=(sV (nY c.key (IntKind.i64.wrap (1-cU c))) (c.inbox.length:Int) other)
   refine bu X [] [(48,⟨false,[az (cU c)]⟩),(50,⟨false,[az (nY c.key (IntKind.i64.wrap (1-cU c)))]⟩),(55,⟨true,bJ t1⟩)] [1,4,8,10,11,12] [] 98303 1 MO (by kernel_rfl) rfl (by kernel_rfl) (by(with_reducible and_intros);(iterate 3 all_goals try first|exact⟨⟩|exact(gh c)|exact(jq c.key (IntKind.i64.wrap (1-cU c)))|exact t1)) ?_
   rw[zP]
   refine aa (aq X [1,8,10,11,69] rfl ?_)
   refine ah rfl ?_ ?_<;>intro bz
   ·have hg:kj c other=true:=jc bz (by simp only[kj,aU]<;>first|rfl|ac_rfl)
    refine eO X [1,8,10] rfl (by and_intros<;>first|exact⟨⟩|exact rfl| (simp only[dO,maxLen,lens];omega)) (aq X [8,10] rfl ?_)
    rw[bV (a:=r+1) (by omega)]
    exact aC X [8,9] rfl (by trivial) (aj (af rfl (by and_intros<;>first|exact⟨⟩| (rw[hc];done)| (rw[hc];simp[hh];done)| (rw[hc];simp only[hg,if_true];done)| (rw[hk];done))))
   ·have hg:kj c other=false:=lV bz (by simp only[kj,aU]<;>first|rfl|ac_rfl)
    refine an (aq X [8,10] rfl ?_)
    rw[bV (a:=r+1) (by omega)]
    exact aC X [8,9] rfl (by trivial) (aj (af rfl (by and_intros<;>first|exact⟨⟩| (rw[hc];done)| (rw[hc];simp[hh];done)| (rw[hc];simp[hg];done)| (rw[hk];done))))
theorem wu(d:bC)(r:Int)(own other:List UInt8)(h0:bO d≤1048576):So 119 [.agg (bK d),az r, .a (.sl .u8 own), .a (.sl .u8 other)] [.agg (bK (rdev d r own other)),aH (wq d r)]:=by
 refine ay X call119 func119 ntmps119 rfl rfl ?_
 intro zb
 have rC:cj d.live≤1048576∧cj d.saved≤1048576:=by unfold bO at h0;omega
 unfold cj at rC
 refine aq X [1,2,3,4,8] rfl (aa ?_)
 have t1:=(zR d.live r own other ⟨by omega,by omega⟩)
 refine aE X [] [(19,⟨true,bJ t1⟩)] [4,8,10,11] [] rfl (by(with_reducible and_intros)<;>first|exact⟨⟩|exact t1) (aa (aD X [] [(26,⟨false,[aH (c9 d)]⟩)] [4,8,10,28] [] rfl (by(with_reducible and_intros)<;>first|exact⟨⟩|exact fun _=>(dY d)) ?_))
 refine ah rfl ?_ ?_<;>intro hb0
 ·have hk:wq d r=false:=b9 hb0 (by simp only[wq,aU]<;>first|rfl|ac_rfl)
  have hd:=OE (own:=own) (other:=other) hk
  exact aD X [] [(30,⟨true,[.agg (bK d)]⟩)] [8,9] [] rfl (by(with_reducible and_intros)<;>first|exact⟨⟩|exact(fM d h0)) (aj (af rfl (by and_intros<;>first|exact⟨⟩| (rw[hd];done)| (rw[hk];done))))
 ·have hk:wq d r=true:=bX hb0 (by simp only[wq,aU]<;>first|rfl|ac_rfl)
  have hz:=K0 (own:=own) (other:=other) hk
  refine an (cQ X [] [(34,⟨true,[.agg (bP d.saved)]⟩)] [8,12] [] 6 MO (by kernel_rfl) rfl (by(with_reducible and_intros)<;>first|exact⟨⟩|exact(ew d.saved ⟨by omega,by omega⟩)) (aa (aD X [] [(37,⟨false,[aH (wZ (mC d r own other))]⟩)] [8,12,37] [] rfl (by(with_reducible and_intros)<;>first|exact⟨⟩|exact(Bq (mC d r own other))) ?_)))
  refine ah rfl ?_ ?_<;>intro aW
  ·have hd:=OF hk aW
   exact aE X [] [(39,⟨true,[.agg (bK (FX (mC d r own other)))]⟩)] [8,12] [] rfl (by(with_reducible and_intros)<;>first|exact⟨⟩|exact(pP (mC d r own other) hz)) (aC X [8,9] rfl (by trivial) (aj (af rfl (by and_intros<;>first|exact⟨⟩| (rw[hd];done)| (rw[hk];done)))))
  ·have hd:=OG hk aW
   exact an (aC X [8,9] rfl (by trivial) (aj (af rfl (by and_intros<;>first|exact⟨⟩| (rw[hd];rfl;done)| (rw[hk];done)))))
theorem Br(x:bp)(h0:wB x):So 44 [.agg (aT x)] [.agg (aT (FJ x))]:=by
 refine ay X call44 func44 ntmps44 rfl rfl ?_
 intro zb
 have hls:dL dJ x.av≤1048576∧dL bO x.ak≤1048576∧eJ x.aB≤1048576∧x.replaced.length≤4194304:=h0
 have mo:=ec hls.2.1
 refine aq X [1,2] rfl (aD X [] [(15,⟨true,[.agg (aT x)]⟩)] [1,2,3] [] rfl (by(with_reducible and_intros)<;>first|exact⟨⟩|exact(dg x h0)) (aa (aD X [] [(17,⟨false,[aH (okW x)]⟩)] [1,2,3,18] [] rfl (by(with_reducible and_intros)<;>first|exact⟨⟩|exact(b7 x)) ?_)))
 refine ah rfl ?_ ?_<;>intro hb0
 ·have fP:okW x=false:=by simpa using hb0
  have hw:=TT fP
  exact aC X [2] rfl (by trivial) (aj (af rfl (by and_intros<;>first|exact⟨⟩| (rw[hw];done))))
 ·have fP:okW x=true:=by simpa using hb0
  have hw:=OH fP
  have har:=Iu fP
  have hd8:=(ni (kR fP)).2.1
  refine an (aa (aq X [1,2,3,21,22,23] rfl ?_))
  refine au (aG (fun k=>k≤x.ak.length) (fun k:Nat=> [(23, .one ((az k)))]) (fun k=> [(17, .arr .bC (QD x k))]) (fun k=>x.ak.length-k) 0 (fun k=>rfl) (Nat.zero_le _) rfl ?_)
  intro k hk
  have xF:=Oh x k hk
  refine aq X [1,2,3,21,22,23,24] rfl ?_
  refine aa (ah rfl ?_ ?_)<;>intro aW
  ·try simp only[aP]at aW
   have hrg:=Og x k aW
   have h00:=Tj x k aW
   have CN:=xM x.aB.rounds (x.ak.getD k (aI .bC)).live.next
   have aft:(qM x (x.ak.getD k (aI .bC))).length≤x.aB.rounds.length:=CN
   have hrq:(gX x.aB.rounds (x.ak.getD k (aI .bC)).live.next).length=(qM x (x.ak.getD k (aI .bC))).length:=rfl
   refine an (aa (au (aC X [1,2,3,4,5,21,22,23] rfl (by and_intros<;>first|exact⟨⟩| (intros;omega)) (aa ?_))))
   have t1:=(xN x.aB ((x.ak.getD k (aI .bC)).live.next) (by omega))
   refine aE X [] [(33,⟨true,bJ t1⟩)] [1,2,3,4,5,21,22,23,33,34,35] [] rfl (by(with_reducible and_intros)<;>first|exact⟨⟩|exact t1) ?_
   refine au (aG (fun k1=>k1≤(qM x (x.ak.getD k (aI .bC))).length) (fun k1:Nat=> [(35, .one ((az k1)))]) (fun k1=> [(17, .arr .bC (rD x k k1))]) (fun k1=>(qM x (x.ak.getD k (aI .bC))).length-k1) 0 (fun k1=>rfl) (Nat.zero_le _) (by rw[h00];rfl) ?_)
   intro k1 hk1
   have nL:=Oe x k k1 aW
   refine aq X [1,2,3,4,5,21,22,23,33,34,35,36] rfl ?_
   refine aa (ah rfl ?_ ?_)<;>intro bz
   ·try simp only[aP]at bz
    have hs:=KK x k k1 aW bz
    have hsz:=TQ fP aW k1
    refine an (aa (au (aC X [1,2,3,4,5,7,21,22,23,33,34,35] rfl (by and_intros<;>first|exact⟨⟩| (intros;omega)) (aa ?_))))
    have t1:=(zQ ((x.ak.getD k (aI .bC)).live) ((qM x (x.ak.getD k (aI .bC))).getD k1 (aI .int)) x.rows)
    refine aE X [] [(45,⟨false,bJ t1⟩)] [1,2,3,4,5,7,8,9,21,22,23,33,34,35] [] rfl (by(with_reducible and_intros)<;>first|exact⟨⟩|exact t1) (aa ?_)
    have t1:=(oF x ((qM x (x.ak.getD k (aI .bC))).getD k1 (aI .int)) (iX (x.ak.getD k (aI .bC)).live.key ((qM x (x.ak.getD k (aI .bC))).getD k1 (aI .int)) (cU (x.ak.getD k (aI .bC)).live) x.rows) ((x.ak.getD k (aI .bC)).live.seed) fP)
    refine aE X [] [(55,⟨true,bJ t1⟩)] [1,2,3,4,5,7,9,10,21,22,23,33,34,35] [] rfl (by(with_reducible and_intros)<;>first|exact⟨⟩|exact t1) (aa ?_)
    have t1:=(oF x ((qM x (x.ak.getD k (aI .bC))).getD k1 (aI .int)) (iX (x.ak.getD k (aI .bC)).live.key ((qM x (x.ak.getD k (aI .bC))).getD k1 (aI .int)) (1-cU (x.ak.getD k (aI .bC)).live) x.rows) ((x.ak.getD k (aI .bC)).live.seed) fP)
    refine aE X [] [(65,⟨true,bJ t1⟩)] [1,2,3,4,5,7,10,12,21,22,23,33,34,35] [] rfl (by(with_reducible and_intros)<;>first|exact⟨⟩|exact t1) ?_
    have t1:=(wu ((rD x k k1).getD k (aI .bC)) ((qM x (x.ak.getD k (aI .bC))).getD k1 (aI .int)) (Ly x ((qM x (x.ak.getD k (aI .bC))).getD k1 (aI .int)) (iX (x.ak.getD k (aI .bC)).live.key ((qM x (x.ak.getD k (aI .bC))).getD k1 (aI .int)) (cU (x.ak.getD k (aI .bC)).live) x.rows) (x.ak.getD k (aI .bC)).live.seed) (Ly x ((qM x (x.ak.getD k (aI .bC))).getD k1 (aI .int)) (iX (x.ak.getD k (aI .bC)).live.key ((qM x (x.ak.getD k (aI .bC))).getD k1 (aI .int)) (1-cU (x.ak.getD k (aI .bC)).live) x.rows) (x.ak.getD k (aI .bC)).live.seed) hsz)
    refine bu X [] [(80,⟨true,bJ t1⟩)] [1,2,3,4,5,21,22,23,33,34,35] [] 65535 1 MO (by kernel_rfl) rfl (by kernel_rfl) (by(with_reducible and_intros)<;>first|exact⟨⟩|exact t1| (intros;omega)) (bt X [1,2,3,4,5,21,22,23,33,34,35] rfl ?_)
    refine⟨k1+1,by omega,by omega,?_⟩
    rw[bH _ k1 rfl (by omega), ←hs]
    try rfl
   ·try simp only[aP]at bz
    rw[Of x k k1 aW bz]
    refine aK (bt X [1,2,3,21,22,23] rfl ?_)
    refine⟨k+1,by omega,by omega,?_⟩
    rw[bH _ k rfl (by omega)]
    try rfl
  ·try simp only[aP]at aW
   exact aK (aC X [2] rfl (by trivial) (aj (af rfl (by and_intros<;>first|exact⟨⟩| (rw[hw];done)| (rw[hw,Oi x k (by omega) (by omega)];done)))))
theorem jg(c:eg)(h0:dL List.length c.aJ≤1048576∧dL List.length c.inbox≤1048576):So 156 [.agg (bP c)] [.agg (bK (⟨c,c⟩:bC))]:=by
 refine ay X call156 func156 ntmps156 rfl rfl ?_
 intro zb
 exact aq X [1,2] rfl (cQ X [(6,40)] [(4,⟨true,[.agg (bP c)]⟩),(6,⟨true,[.agg (bP c)]⟩)] [2] [] 5 MO (by kernel_rfl) rfl (by(with_reducible and_intros);(iterate 2 all_goals try first|exact⟨⟩|exact(fC c h0))) (aj (af rfl ⟨rfl,rfl,rfl,rfl,rfl,rfl,rfl,rfl,rfl,rfl,rfl,rfl,rfl,rfl,rfl,rfl,⟨⟩⟩)))
theorem pQ(d:bC)(h0:bO d≤1048576):So 85 [.agg (bK d)] [.agg (bK (FX d))]:=by
 refine ay X call85 func85 ntmps85 rfl rfl ?_
 intro zb
 have rC:cj d.live≤1048576∧cj d.saved≤1048576:=by unfold bO at h0;omega
 unfold cj at rC
 refine aq X [1,2] rfl (aa (aD X [] [(4,⟨false,[aH (c9 d)]⟩)] [1,2,5] [] rfl (by(with_reducible and_intros)<;>first|exact⟨⟩|exact(dZ d)) ?_))
 refine ah rfl ?_ ?_<;>intro hb0
 ·have hk:c9 d=false:=by simpa using hb0
  have hd:FX d=d:=by rw[FX,hk];rfl
  exact aD X [] [(7,⟨true,[.agg (bK d)]⟩)] [2] [] rfl (by(with_reducible and_intros)<;>first|exact⟨⟩|exact(iJ d h0)) (aj (af rfl (by and_intros<;>first|exact⟨⟩| (rw[hd];done))))
 ·have hk:c9 d=true:=by simpa using hb0
  have hd:FX d=⟨d.live,d.live⟩:=by rw[FX,if_pos hk]
  exact an (aD X [] [(10,⟨true,[.agg (bK (⟨d.live,d.live⟩:bC))]⟩)] [2] [] rfl (by(with_reducible and_intros)<;>first|exact⟨⟩|exact(jg d.live ⟨by omega,by omega⟩)) (aj (af rfl (by and_intros<;>first|exact⟨⟩| (rw[hd];done)))))
theorem Bs(d:bC):So 310 [.agg (bK d)] [aH (wZ d)]:=by
 refine ay X call310 func310 ntmps310 rfl rfl ?_
 intro zb
 exact aq X [1] rfl (aD X [] [(4,⟨false,[aH (c9 d)]⟩)] [2] [] rfl (by(with_reducible and_intros)<;>first|exact⟨⟩|exact(dZ d)) (aj (af rfl ⟨(congrArg Value.bool (by simp only[wZ,aU]<;>first|rfl|ac_rfl)),⟨⟩⟩)))
theorem zS(c:eg)(r n:Int):So 271 [.agg (bP c),az r,az n] [az (iX c.key r (cU c) n),az (iX c.key r (1-cU c) n)]:=by
 refine ay X call271 func271 ntmps271 rfl rfl ?_
 intro zb
 have hdw:=TU c
 exact aq X [1,2,3] rfl (aD X [] [(10,⟨false,[az (cU c)]⟩)] [1,2,3,8] [] rfl (by(with_reducible and_intros)<;>first|exact⟨⟩|exact(dj c)) (cQ X [] [(16,⟨false,[az (iX c.key r (cU c) n)]⟩),(23,⟨false,[az (iX c.key r (IntKind.i64.wrap (1-cU c)) n)]⟩)] [6,7] [] 15 MO (by kernel_rfl) rfl (by(with_reducible and_intros);(iterate 2 all_goals try first|exact⟨⟩|exact(kN c.key r (cU c) n)|exact(kN c.key r (IntKind.i64.wrap (1-cU c)) n))) (aj (af rfl ⟨rfl,by rw[hdw],⟨⟩⟩))))
theorem zT(c:eg)(r:Int)(own other:List UInt8)(h0:dL List.length c.aJ≤1048576∧dL List.length c.inbox≤1048576):So 309 [.agg (bP c),az r, .a (.sl .u8 own), .a (.sl .u8 other)] [.agg (bP (fL c r own other)),aH (tq c r)]:=by
 refine ay X call309 func309 ntmps309 rfl rfl ?_
 intro zb
 refine aq X [1,2,3,4,8] rfl (aD X [] [(14,⟨true,[.agg (bP c)]⟩)] [1,2,3,4,8,10] [] rfl (by(with_reducible and_intros)<;>first|exact⟨⟩|exact(fC c h0)) (aa (aD X [] [(16,⟨false,[aH (dy c)]⟩),(22,⟨false,[aH (inr r c.next 99999)]⟩)] [1,2,3,4,8,10,24] [] rfl (by(with_reducible and_intros);(iterate 2 all_goals try first|exact⟨⟩|exact(dX c)|exact fun _=>(bf r c.next 99999))) ?_)))
 refine ah rfl ?_ ?_<;>intro hb0
 ·have hk:tq c r=false:=b9 hb0 (by simp only[tq,aU]<;>first|rfl|ac_rfl)
  have hc:=KZ (own:=own) (other:=other) hk
  exact aC X [8,9] rfl (by trivial) (aj (af rfl (by and_intros<;>first|exact⟨⟩| (rw[hc];done)| (rw[hk];done))))
 ·have hk:tq c r=true:=bX hb0 (by simp only[tq,aU]<;>first|rfl|ac_rfl)
  obtain⟨hok,hn1,hn2,VR⟩:=TP hk
  obtain⟨hu1,Qy,_,_,hs0,hs9,_,_⟩:=qI hok
  have hc:fL c r own other=⟨c.id,c.ct,c.key,c.seed,c.aJ,if sS c own then c.sent+1 else c.sent,if kj c other then c.inbox++ [(QC (E4 c) (c.inbox.length:Int) other).body]else c.inbox,r+1⟩:=by rw[fL,if_pos hk]
  refine an (aa (aD X [] [(35,⟨false,[.a (.sl .u8 (n8 c c.sent))]⟩),(36,⟨false,[aH (own==(n8 c c.sent))]⟩)] [1,3,4,8,10,37] [] rfl ⟨fun _=>kO own (n8 c c.sent),fun h=>og c hs0 (of_decide_eq_true h),⟨⟩⟩ ?_))
  refine ah rfl ?_ ?_<;>intro aW
  ·have hh:sS c own=true:=jc aW (by simp only[sS,aU]<;>first|rfl|ac_rfl)
   refine bt X [1,3,4,8,10] rfl ?_
   rw[bV (a:=c.sent+1) (by omega)]
   refine aa ?_
   have t1:=(sW (nY c.key (IntKind.i64.wrap (1-cU c))) (c.inbox.length:Int) other)
   refine bu X [] [(46,⟨false,[az (cU c)]⟩),(48,⟨false,[az (nY c.key (IntKind.i64.wrap (1-cU c)))]⟩),(53,⟨true,bJ t1⟩)] [1,4,8,10,11,12] [] 98303 1 MO (by kernel_rfl) rfl (by kernel_rfl) (by(with_reducible and_intros);(iterate 3 all_goals try first|exact⟨⟩|exact(dj c)|exact(ey c.key (IntKind.i64.wrap (1-cU c)))|exact t1)) ?_
   rw[zP]
   refine aa (aq X [1,8,10,11,67] rfl ?_)
   refine ah rfl ?_ ?_<;>intro bz
   ·have hg:kj c other=true:=jc bz (by simp only[kj,aU]<;>first|rfl|ac_rfl)
    refine eO X [1,8,10] rfl (by and_intros<;>first|exact⟨⟩|exact rfl| (simp only[dO,maxLen,lens];omega)) (aq X [8,10] rfl ?_)
    rw[bV (a:=r+1) (by omega)]
    exact aC X [8,9] rfl (by trivial) (aj (af rfl (by and_intros<;>first|exact⟨⟩| (rw[hc];done)| (rw[hc];simp only[hh,if_true];done)| (rw[hc];simp only[hg,if_true];done)| (rw[hk];done))))
   ·have hg:kj c other=false:=lV bz (by simp only[kj,aU]<;>first|rfl|ac_rfl)
    refine an (aq X [8,10] rfl ?_)
    rw[bV (a:=r+1) (by omega)]
    exact aC X [8,9] rfl (by trivial) (aj (af rfl (by and_intros<;>first|exact⟨⟩| (rw[hc];done)| (rw[hc];simp only[hh,if_true];done)| (rw[hc];simp[hg];done)| (rw[hk];done))))
  ·have hh:sS c own=false:=lV aW (by simp only[sS,aU]<;>first|rfl|ac_rfl)
   refine an (aa ?_)
   have t1:=(sW (nY c.key (IntKind.i64.wrap (1-cU c))) (c.inbox.length:Int) other)
   refine bu X [] [(46,⟨false,[az (cU c)]⟩),(48,⟨false,[az (nY c.key (IntKind.i64.wrap (1-cU c)))]⟩),(53,⟨true,bJ t1⟩)] [1,4,8,10,11,12] [] 98303 1 MO (by kernel_rfl) rfl (by kernel_rfl) (by(with_reducible and_intros);(iterate 3 all_goals try first|exact⟨⟩|exact(dj c)|exact(ey c.key (IntKind.i64.wrap (1-cU c)))|exact t1)) ?_
   rw[zP]
   refine aa (aq X [1,8,10,11,67] rfl ?_)
   refine ah rfl ?_ ?_<;>intro bz
   ·have hg:kj c other=true:=jc bz (by simp only[kj,aU]<;>first|rfl|ac_rfl)
    refine eO X [1,8,10] rfl (by and_intros<;>first|exact⟨⟩|exact rfl| (simp only[dO,maxLen,lens];omega)) (aq X [8,10] rfl ?_)
    rw[bV (a:=r+1) (by omega)]
    exact aC X [8,9] rfl (by trivial) (aj (af rfl (by and_intros<;>first|exact⟨⟩| (rw[hc];done)| (rw[hc];simp[hh];done)| (rw[hc];simp only[hg,if_true];done)| (rw[hk];done))))
   ·have hg:kj c other=false:=lV bz (by simp only[kj,aU]<;>first|rfl|ac_rfl)
    refine an (aq X [8,10] rfl ?_)
    rw[bV (a:=r+1) (by omega)]
    exact aC X [8,9] rfl (by trivial) (aj (af rfl (by and_intros<;>first|exact⟨⟩| (rw[hc];done)| (rw[hc];simp[hh];done)| (rw[hc];simp[hg];done)| (rw[hk];done))))
theorem fT(d:bC)(r:Int)(own other:List UInt8)(h0:bO d≤1048576):So 273 [.agg (bK d),az r, .a (.sl .u8 own), .a (.sl .u8 other)] [.agg (bK (rdev d r own other)),aH (wq d r)]:=by
 refine ay X call273 func273 ntmps273 rfl rfl ?_
 intro zb
 have rC:cj d.live≤1048576∧cj d.saved≤1048576:=by unfold bO at h0;omega
 unfold cj at rC
 refine aq X [1,2,3,4,8] rfl (aa ?_)
 have t1:=(zT d.live r own other ⟨by omega,by omega⟩)
 refine aE X [] [(19,⟨true,bJ t1⟩)] [4,8,10,11] [] rfl (by(with_reducible and_intros)<;>first|exact⟨⟩|exact t1) (aa (aD X [] [(23,⟨false,[aH (c9 d)]⟩)] [4,8,10,28] [] rfl (by(with_reducible and_intros)<;>first|exact⟨⟩|exact(dZ d)) ?_))
 refine ah rfl ?_ ?_<;>intro hb0
 ·have hk:wq d r=false:=b9 hb0 (by simp only[wq,aU]<;>first|rfl|ac_rfl)
  have hd:=OE (own:=own) (other:=other) hk
  exact aD X [] [(30,⟨true,[.agg (bK d)]⟩)] [8,9] [] rfl (by(with_reducible and_intros)<;>first|exact⟨⟩|exact(iJ d h0)) (aj (af rfl (by and_intros<;>first|exact⟨⟩| (rw[hd];done)| (rw[hk];done))))
 ·have hk:wq d r=true:=bX hb0 (by simp only[wq,aU]<;>first|rfl|ac_rfl)
  have hz:=K0 (own:=own) (other:=other) hk
  refine an (cQ X [] [(34,⟨true,[.agg (bP d.saved)]⟩)] [8,12] [] 6 MO (by kernel_rfl) rfl (by(with_reducible and_intros)<;>first|exact⟨⟩|exact(fC d.saved ⟨by omega,by omega⟩)) (aa (aD X [] [(37,⟨false,[aH (wZ (mC d r own other))]⟩)] [8,12,37] [] rfl (by(with_reducible and_intros)<;>first|exact⟨⟩|exact(Bs (mC d r own other))) ?_)))
  refine ah rfl ?_ ?_<;>intro aW
  ·have hd:=OF hk aW
   exact aD X [] [(39,⟨true,[.agg (bK (FX (mC d r own other)))]⟩)] [8,9] [] rfl (by(with_reducible and_intros)<;>first|exact⟨⟩|exact(pQ (mC d r own other) hz)) (aj (af rfl (by and_intros<;>first|exact⟨⟩| (rw[hd];done)| (rw[hk];done))))
  ·have hd:=OG hk aW
   exact an (aC X [8,9] rfl (by trivial) (aj (af rfl (by and_intros<;>first|exact⟨⟩| (rw[hd];rfl;done)| (rw[hk];done)))))
theorem Bt(x:bp)(h0:wB x):So 217 [.agg (aT x)] [.agg (aT (FJ x))]:=by
 refine ay X call217 func217 ntmps217 rfl rfl ?_
 intro zb
 have hls:dL dJ x.av≤1048576∧dL bO x.ak≤1048576∧eJ x.aB≤1048576∧x.replaced.length≤4194304:=h0
 have mo:=ec hls.2.1
 refine aq X [1,2] rfl (aD X [] [(17,⟨true,[.agg (aT x)]⟩)] [1,2,3] [] rfl (by(with_reducible and_intros)<;>first|exact⟨⟩|exact(dr x h0)) (aa (aD X [] [(19,⟨false,[aH (okW x)]⟩)] [1,2,3,20] [] rfl (by(with_reducible and_intros)<;>first|exact⟨⟩|exact(cB x)) ?_)))
 refine ah rfl ?_ ?_<;>intro hb0
 ·have fP:okW x=false:=by simpa using hb0
  have hw:=TT fP
  exact aC X [2] rfl (by trivial) (aj (af rfl (by and_intros<;>first|exact⟨⟩| (rw[hw];done))))
 ·have fP:okW x=true:=by simpa using hb0
  have hw:=OH fP
  have har:=Iu fP
  have hd8:=(ni (kR fP)).2.1
  refine an (aa (aq X [1,2,3,4] rfl ?_))
  refine au (aG (fun k=>k≤x.ak.length) (fun k:Nat=> [(4, .one ((az k)))]) (fun k=> [(19, .arr .bC (QD x k))]) (fun k=>x.ak.length-k) 0 (fun k=>rfl) (Nat.zero_le _) rfl ?_)
  intro k hk
  have xF:=Oh x k hk
  refine aa (aq X [1,2,3,4,26] rfl ?_)
  refine ah rfl ?_ ?_<;>intro aW
  ·try simp only[aP]at aW
   rw[xF]at aW
   have hrg:=Og x k aW
   have h00:=Tj x k aW
   have CN:=xM x.aB.rounds (x.ak.getD k (aI .bC)).live.next
   have aft:(qM x (x.ak.getD k (aI .bC))).length≤x.aB.rounds.length:=CN
   have hrq:(gX x.aB.rounds (x.ak.getD k (aI .bC)).live.next).length=(qM x (x.ak.getD k (aI .bC))).length:=rfl
   refine an (aa (au (aa ?_)))
   have t1:=(xO x.aB (((QD x k).getD k (aI .bC)).live.next) (by omega))
   refine bZ X [] [(38,⟨true,bJ t1⟩)] [1,2,3,4,5] [] 11 MO (by kernel_rfl) rfl (by(with_reducible and_intros)<;>first|exact⟨⟩|exact t1| (intros;omega)) ?_
   rw[hrg]
   refine aq X [1,2,3,4,5,6] rfl ?_
   refine au (aG (fun k1=>k1≤(qM x (x.ak.getD k (aI .bC))).length) (fun k1:Nat=> [(6, .one ((az k1)))]) (fun k1=> [(19, .arr .bC (rD x k k1))]) (fun k1=>(qM x (x.ak.getD k (aI .bC))).length-k1) 0 (fun k1=>rfl) (Nat.zero_le _) (by rw[h00];rfl) ?_)
   intro k1 hk1
   have nL:=Oe x k k1 aW
   refine aa (aq X [1,2,3,4,5,6,42] rfl ?_)
   refine ah rfl ?_ ?_<;>intro bz
   ·try simp only[aP]at bz
    have hs:=TS x k k1 aW bz
    have hsz:=TQ fP aW k1
    refine an (aa (au (aC X [1,2,3,4,5,6,7] rfl (by and_intros<;>first|exact⟨⟩| (intros;omega)) (aa ?_))))
    have t1:=(zS (((rD x k k1).getD k (aI .bC)).live) ((qM x (x.ak.getD k (aI .bC))).getD k1 (aI .int)) x.rows)
    refine bZ X [] [(59,⟨false,bJ t1⟩)] [1,2,3,4,5,6,7,8,9] [] 13 MO (by kernel_rfl) rfl (by(with_reducible and_intros)<;>first|exact⟨⟩|exact t1| (intros;omega)) (aa ?_)
    have t1:=(uW x ((qM x (x.ak.getD k (aI .bC))).getD k1 (aI .int)) (iX ((rD x k k1).getD k (aI .bC)).live.key ((qM x (x.ak.getD k (aI .bC))).getD k1 (aI .int)) (cU ((rD x k k1).getD k (aI .bC)).live) x.rows) (((rD x k k1).getD k (aI .bC)).live.seed) fP)
    refine bZ X [] [(71,⟨true,bJ t1⟩)] [1,2,3,4,5,6,7,9,10] [] 14 MO (by kernel_rfl) rfl (by(with_reducible and_intros)<;>first|exact⟨⟩|exact t1| (intros;omega)) (aa ?_)
    have t1:=(uW x ((qM x (x.ak.getD k (aI .bC))).getD k1 (aI .int)) (iX ((rD x k k1).getD k (aI .bC)).live.key ((qM x (x.ak.getD k (aI .bC))).getD k1 (aI .int)) (1-cU ((rD x k k1).getD k (aI .bC)).live) x.rows) (((rD x k k1).getD k (aI .bC)).live.seed) fP)
    refine bZ X [] [(83,⟨true,bJ t1⟩)] [1,2,3,4,5,6,10,12] [] 14 MO (by kernel_rfl) rfl (by(with_reducible and_intros)<;>first|exact⟨⟩|exact t1| (intros;omega)) (aa ?_)
    have t1:=(fT ((rD x k k1).getD k (aI .bC)) ((qM x (x.ak.getD k (aI .bC))).getD k1 (aI .int)) (Ly x ((qM x (x.ak.getD k (aI .bC))).getD k1 (aI .int)) (iX ((rD x k k1).getD k (aI .bC)).live.key ((qM x (x.ak.getD k (aI .bC))).getD k1 (aI .int)) (cU ((rD x k k1).getD k (aI .bC)).live) x.rows) ((rD x k k1).getD k (aI .bC)).live.seed) (Ly x ((qM x (x.ak.getD k (aI .bC))).getD k1 (aI .int)) (iX ((rD x k k1).getD k (aI .bC)).live.key ((qM x (x.ak.getD k (aI .bC))).getD k1 (aI .int)) (1-cU ((rD x k k1).getD k (aI .bC)).live) x.rows) ((rD x k k1).getD k (aI .bC)).live.seed) hsz)
    refine bu X [] [(98,⟨true,bJ t1⟩)] [1,2,3,4,5,6,14] [] 196607 1 MO (by kernel_rfl) rfl (by kernel_rfl) (by(with_reducible and_intros)<;>first|exact⟨⟩|exact t1| (intros;omega)) (eO X [1,2,3,4,5,6] rfl (by and_intros<;>first|exact⟨⟩| (intros;omega)) (bt X [1,2,3,4,5,6] rfl ?_))
    refine⟨k1+1,by omega,by omega,?_⟩
    rw[bH _ k1 rfl (by omega), ←hs]
    try rfl
   ·try simp only[aP]at bz
    rw[Of x k k1 aW bz]
    refine aK (bt X [1,2,3,4] rfl ?_)
    refine⟨k+1,by omega,by omega,?_⟩
    rw[bH _ k rfl (by omega)]
    try rfl
  ·try simp only[aP]at aW
   rw[xF]at aW
   exact aK (aC X [2] rfl (by trivial) (aj (af rfl (by and_intros<;>first|exact⟨⟩| (rw[hw];done)| (rw[hw,Oi x k (by omega) (by omega)];done)))))
end
section
set_option maxRecDepth 100000
theorem va(s:bw)(c:Int)(hz:s.received.length≤1048576∧ ∀r,r∈s.received→dL List.length r.share.rows≤1048576):So 183 [.agg (bR s),az c] [.agg (aZ (Bd s.received c)),aH (mB s.received c)]:=by
 refine ay X call183 func183 ntmps183 rfl rfl ?_
 intro zb
 refine bB 0 3 rfl rfl (fun RE=>(aq X [1,2,4] rfl (aa (aq X [1,4,9,10,11] rfl ?_))))
 refine au (aG (fun k=>k≤s.received.length∧(s.received.take k).any (Vp c)=false) (fun k:Nat=> [(11, .one ((az k)))]) (fun k=> []) (fun k=>s.received.length-k) 0 (fun k=>rfl) ⟨Nat.zero_le _,rfl⟩ rfl ?_)
 rintro k ⟨hk,hall⟩
 refine aq X [1,4,9,10,11,12] rfl ?_
 refine aa (ah rfl ?_ ?_)<;>intro hb0
 ·try simp only[aP]at hb0
  refine an (aa (au (aC X [1,4,7,9,10,11] rfl (by and_intros<;>first|exact⟨⟩| (intros;omega)) (aq X [1,4,7,9,10,11,18] rfl ?_))))
  refine ah rfl ?_ ?_<;>intro aW
  ·have hh:=S5 hb0 hall aW
   exact aD X [] [(21,⟨true,[.agg (aZ ((s.received.getD k (aI .aR)).share))]⟩)] [4,5] [] rfl (by(with_reducible and_intros)<;>first|exact⟨⟩|exact(cV ((s.received.getD k (aI .aR)).share) (hz.2 _ (getD_in _ hb0)))) (aj (af rfl ⟨by rw[hh.2],by rw[hh.1],⟨⟩⟩))
  ·refine an (bt X [1,4,9,10,11] rfl ?_)
   refine⟨k+1,⟨by omega,xz (aI .aR) hb0 hall aW⟩,by omega,?_⟩
   rw[bH _ k rfl (by omega)]
   try rfl
 ·try simp only[aP]at hb0
  exact aK (aC X [4,5] rfl (by trivial) (aj (af rfl ⟨by rw[(CZ (by rw[←hall,List.take_of_length_le hb0])).2],by rw[(CZ (by rw[←hall,List.take_of_length_le hb0])).1],⟨⟩⟩)))
theorem Ff(s:bw)(c:Int)(hz:s.received.length≤1048576∧ ∀r,r∈s.received→dL List.length r.share.rows≤1048576):So 316 [.agg (bR s),az c] [.agg (aZ (Bd s.received c)),aH (mB s.received c)]:=by
 refine ay X call316 func316 ntmps316 rfl rfl ?_
 intro zb
 refine bB 0 3 rfl rfl (fun RE=>(aq X [1,2,4] rfl (aa (aq X [1,2,4,6] rfl ?_))))
 refine au (aG (fun k=>k≤s.received.length∧(s.received.take k).any (Vp c)=false) (fun k:Nat=> [(6, .one ((az k)))]) (fun k=> []) (fun k=>s.received.length-k) 0 (fun k=>rfl) ⟨Nat.zero_le _,rfl⟩ rfl ?_)
 rintro k ⟨hk,hall⟩
 refine aa (aq X [1,2,4,6,11] rfl ?_)
 refine ah rfl ?_ ?_<;>intro hb0
 ·try simp only[aP]at hb0
  refine an (aa (au (aC X [1,2,4,6,21] rfl (by and_intros<;>first|exact⟨⟩| (intros;omega)) ?_)))
  refine ah rfl ?_ ?_<;>intro aW
  ·have hh:=S5 hb0 hall aW
   exact aD X [] [(28,⟨true,[.agg (aZ ((s.received.getD k (aI .aR)).share))]⟩)] [4,5] [] rfl (by(with_reducible and_intros)<;>first|exact⟨⟩|exact(dK ((s.received.getD k (aI .aR)).share) (hz.2 _ (getD_in _ hb0)))| (intros;omega)) (aj (af rfl ⟨by rw[hh.2],by rw[hh.1],⟨⟩⟩))
  ·refine an (bt X [1,2,4,6] rfl ?_)
   refine⟨k+1,⟨by omega,xz (aI .aR) hb0 hall aW⟩,by omega,?_⟩
   rw[bH _ k rfl (by omega)]
   try rfl
 ·try simp only[aP]at hb0
  exact aK (aC X [4,5] rfl (by trivial) (aj (af rfl ⟨by rw[(CZ (by rw[←hall,List.take_of_length_le hb0])).2],by rw[(CZ (by rw[←hall,List.take_of_length_le hb0])).1],⟨⟩⟩)))
theorem tB(r:aR)(c:Int):dA ty Tryz.prog 185 [(1000, .box [aO c])] [.agg (iz r), .a (.ptr 1000 0)] [(1000, .box [aO c])] [aH (decide (r.client>c))]:=by
 refine cq X call185 func185 rfl rfl (by decide) ntmps185 (by simp) rfl ?_
 intro zb
 exact aq X [1,2] rfl (aC X [3] rfl (by trivial) (aj (aY rfl ⟨rfl,rfl,⟨⟩⟩)))
theorem eK(l:List aR)(c:Int)(hl: ∀r,r∈l→r.client<c):dA ty Tryz.prog 184 [(1000, .box [aO c])] [.a (.sl .aR l), .a (.As 185 1000)] [(1000, .box [aO c])] [az (-1)]:=by
 refine cq X call184 func184 rfl rfl (by decide) ntmps184 (by simp) rfl ?_
 intro zb
 refine cx 0 rfl (fun j0=>(aq X [0,1] rfl (aa (aq X [0,1,7,8] rfl ?_))))
 refine au (aG (fun k=>k≤l.length) (fun k:Nat=> [(8, .one ((az k)))]) (fun k=> []) (fun k=>l.length-k) 0 (fun k=>rfl) (Nat.zero_le _) rfl ?_)
 intro k hk
 refine aq X [0,1,7,8,9] rfl ?_
 refine aa (ah rfl ?_ ?_)<;>intro hb0
 ·try simp only[aP]at hb0
  have hlt:=hl _ (getD_in (aI .aR) hb0)
  refine an (aa (au (aq X [0,1,5,7,8] rfl (aa ?_))))
  have t1:=(tB (l.getD k (aI .aR)) c)
  refine aE X [] [(800016,⟨true,bF t1⟩),(700016,⟨true, .agg [.ptr 1000 1000]:: .agg []::bG t1⟩)] [0,1,5,7,8,16] [] rfl (by(with_reducible and_intros)<;>first|exact⟨⟩|exact t1| (intros;omega)) ?_
  refine ah rfl ?_ ?_<;>intro aW
  ·try simp only[aP]at aW
   omega
  ·try simp only[aP]at aW
   refine an (bt X [0,1,7,8] rfl ?_)
   refine⟨k+1,by omega,by omega,?_⟩
   rw[bH _ k rfl (by omega)]
   try rfl
 ·try simp only[aP]at hb0
  exact aK (aq X [4] rfl (aj (aY rfl ⟨rfl,rfl,⟨⟩⟩)))
theorem eP(l:List aR)(y:aR)(hl:l.length≤1048576):dA ty Tryz.prog 186 [(5, .arr .aR l),(6, .arr .aR [y])] [.a (.own 5),az (l.length:Int), .a (.own 6)] [(5, .arr .aR (l++ [y]))] [.a (.own 5)]:=by
 refine cq X call186 func186 rfl rfl (by decide) ntmps186 (by simp) rfl ?_
 intro zb
 refine aq X [0,1,2] rfl (aC X [0,1,2] rfl (by and_intros<;>first|exact⟨⟩| (intros;omega)) (aq X [0,1,2,7] rfl (aa (aq X [0,1,2,7,16] rfl ?_))))
 refine ah rfl ?_ ?_<;>intro hb0
 ·try simp only[aP]at hb0
  simp at hb0
 ·try simp only[aP]at hb0
  refine an (aq X [0,1,2,7,8] rfl (aa (aq X [0,1,2,7,8,22] rfl ?_)))
  refine ah rfl ?_ ?_<;>intro aW
  ·try simp only[aP]at aW
   exact aD X [(25,5)] [] [6] [] rfl (by and_intros<;>first|exact⟨⟩|exact rfl| (simp only[dO,maxLen,lens];omega)) (aj (aY rfl ⟨rfl,⟨⟩⟩))
  ·try simp only[aP]at aW
   simp at aW
theorem wv(s:bw)(c:Int)(d:DB)(hz:s.received.length≤1048576∧ ∀r,r∈s.received→dL List.length r.share.rows≤1048576)(hb: ∀r,r∈s.received→r.client<c)(hd:dL List.length d.rows≤1048576):So 111 [.agg (bR s),az c, .agg (aZ d)] [.agg (bR (My s c d)),aH (kZ s c d)]:=by
 refine ay X call111 func111 ntmps111 rfl rfl ?_
 intro zb
 have hsn:=S6 (s:=s) hb
 have j0:=hz.1
 refine aD X [(4,904)] [] [3,4,5,6] [] rfl ⟨⟩ (aD X [] [(13,⟨true,[.agg (bR s)]⟩)] [3,4,5,6,8] [] rfl (by(with_reducible and_intros)<;>first|exact⟨⟩|exact(ig s hz)) (aa (aa ?_)))
 have t1:=(va s c hz)
 refine aE X [] [(17,⟨true,bJ t1⟩)] [3,4,5,6,8,10] [] rfl (by(with_reducible and_intros)<;>first|exact⟨⟩|exact t1) (aD X [] [(23,⟨false,[aH (cm s)]⟩)] [3,4,5,6,8,25] [] rfl (by(with_reducible and_intros)<;>first|exact⟨⟩|exact fun _=>(dn s)) ?_)
 refine ah rfl ?_ ?_<;>intro hb0
 ·have hk:cm s=false:=by rw[hsn]at hb0;simpa using hb0
  have hr:kZ s c d=false:=by rw[kZ,hk];rfl
  exact aC X [6,7] rfl (by trivial) (aj (af rfl (by and_intros<;>first|exact⟨⟩| (rw[Mz hr];done)| (rw[hr];done))))
 ·have hk:cm s=true:=by rw[hsn]at hb0;simpa using hb0
  refine an (aa ?_)
  have t1:=(eK s.received c hb)
  refine aE X [] [(800030,⟨true,bF t1⟩),(700030,⟨true, .agg [.ptr 1000 904]:: .agg []::bG t1⟩)] [3,4,5,6,8,11] [] rfl (by(with_reducible and_intros)<;>first|exact⟨⟩|exact t1) (aa (aq X [3,4,5,6,8,11,32] rfl ?_))
  refine ah rfl ?_ ?_<;>intro aW
  ·try simp only[aP]at aW
   refine bt X [3,4,5,6,8,11] rfl (aa ?_)
   have t1:=(eP s.received (⟨c,d⟩:aR) (by first|assumption|omega| (simp;done)| (simp;omega)))
   refine bu X [] [(41,⟨true,[.agg (aZ d)]⟩),(800044,⟨true,bF t1⟩),(700044,⟨true, .agg [.ptr 5 16, .ptr 6 43]:: .agg []::bG t1⟩)] [3,6,8] [] 639 5 MO (by kernel_rfl) rfl (by kernel_rfl) (by(with_reducible and_intros);(iterate 2 all_goals try first|exact⟨⟩|exact(cV d hd)|exact t1);all_goals first|exact rfl) (aa (aD X [] [(47,⟨false,[aH (cm (kY s c d))]⟩)] [3,6,8,48] [] rfl (by(with_reducible and_intros)<;>first|exact⟨⟩|exact(dn (kY s c d))) ?_))
   refine ah rfl ?_ ?_<;>intro bz
   ·have hr:kZ s c d=false:=by rw[kZ,hk];simpa using bz
    exact aD X [] [(50,⟨true,[.agg (bR s)]⟩)] [6,7] [] rfl (by(with_reducible and_intros)<;>first|exact⟨⟩|exact(ig s hz)) (aj (af rfl (by and_intros<;>first|exact⟨⟩| (rw[Mz hr];done)| (rw[hr];done))))
   ·have hr:kZ s c d=true:=by rw[kZ,hk];simpa using bz
    exact an (aC X [6,7] rfl (by trivial) (aj (af rfl (by and_intros<;>first|exact⟨⟩| (rw[Il hr];rfl;done)| (rw[hr];done)))))
  ·try simp only[aP]at aW
   omega
theorem wz(s:bw)(c:Int)(d:DB)(hz:s.received.length≤1048576∧ ∀r,r∈s.received→dL List.length r.share.rows≤1048576)(hb: ∀r,r∈s.received→r.client<c)(hd:dL List.length d.rows≤1048576):So 266 [.agg (bR s),az c, .agg (aZ d)] [.agg (bR (My s c d)),aH (kZ s c d)]:=by
 refine ay X call266 func266 ntmps266 rfl rfl ?_
 intro zb
 have j0:=hz.1
 refine aq X [1,3,5,6] rfl (aD X [] [(11,⟨true,[.agg (bR s)]⟩)] [1,3,5,6,8] [] rfl (by(with_reducible and_intros)<;>first|exact⟨⟩|exact(gl s hz)) (aq X [1,3,5,6,8,9] rfl ?_))
 refine aa (au (aG (fun k=>k≤s.received.length) (fun k:Nat=> [(9, .one ((az k)))]) (fun k=> []) (fun k=>s.received.length-k) 0 (fun k=>rfl) (Nat.zero_le _) rfl ?_))
 intro k hk
 refine aa (aC X [1,3,5,6,8,9,26] rfl (by refine⟨fun Xb=> ?_,fun Xb=> ?_,⟨⟩⟩<;>(have NT:decide ((k:Int)<(s.received.length:Int))=true:=Xb;rw[decide_eq_true_eq]at NT;dsimp only[hyps,Hy];omega)) ?_)
 refine ah rfl ?_ ?_<;>intro hb0
 ·have xF:k<s.received.length:=by simp only[nb]at hb0;omega
  have hlt:=hb _ (getD_in (aI .aR) xF)
  refine an (au (bt X [1,3,5,6,8,9] rfl ?_))
  refine⟨k+1,by omega,by omega,?_⟩
  rw[bH _ k rfl (by omega)]
  try rfl
 ·have xF:k=s.received.length:=WZ hb hk hb0
  subst xF
  refine Tb 8 3 rfl (aK (aa (bu X [(34,29),(40,29),(45,29)] [(37,⟨true,[.agg (aZ d)]⟩),(600044,⟨true,[]⟩)] [3,6,8] [] 193503 259 MO (by kernel_rfl) rfl (by kernel_rfl) (by(repeat' with_reducible first|exact aL|refine aS ?_ ?_|apply And.intro)<;>first|exact(dK d hd)| (intros;omega)|exact rfl|exact⟨rfl,bn _ (by decide)⟩| (simp only[dO,maxLen,lens];omega)) ?_)))
  rw[ins_eq]
  refine aa (aD X [] [(48,⟨false,[aH (cm s)]⟩),(52,⟨false,[aH (cm (kY s c d))]⟩)] [3,6,8,54] [] rfl (by(with_reducible and_intros);(iterate 2 all_goals try first|exact⟨⟩|exact(cO s)|exact fun _=>(cO (kY s c d)))) ?_)
  refine ah rfl ?_ ?_<;>intro aW
  ·have hr:kZ s c d=false:=acK aW
   exact aD X [] [(56,⟨true,[.agg (bR s)]⟩)] [6,7] [] rfl (by(with_reducible and_intros)<;>first|exact⟨⟩|exact(gl s hz)) (aj (af rfl (by and_intros<;>first|exact⟨⟩| (rw[Mz hr];done)| (rw[hr];done))))
  ·have hr:kZ s c d=true:=acL aW
   exact an (aC X [6,7] rfl (by trivial) (aj (af rfl (by and_intros<;>first|exact⟨⟩| (rw[Il hr];rfl;done)| (rw[hr];done)))))
end
section
set_option maxRecDepth 100000
theorem mD(x:bp)(h0:wB x):So 41 [.agg (aT x)] [.a (.sl .bw (bM x)), .a (.sl .eD (gG x))]:=by
 refine ay X call41 func41 ntmps41 rfl rfl ?_
 intro zb
 refine bB 0 1 rfl rfl (fun nv=> ?_)
 refine bB 0 2 rfl rfl (fun mo=> ?_)
 have o7:=qJ h0
 refine aq X [1] rfl (aa (aD X [] [(10,⟨false,[aH (okW x)]⟩)] [1,11] [] rfl (by(with_reducible and_intros)<;>first|exact⟨⟩|exact(b7 x)) ?_))
 refine ah rfl ?_ ?_<;>intro hb0
 ·have fP:okW x=false:=by simpa using hb0
  exact aq X [2,3] rfl (aj (af rfl ⟨by rw[bM,if_neg (by rw[fP];decide)],by rw[gG,if_neg (by rw[fP];decide)],⟨⟩⟩))
 ·have fP:okW x=true:=by simpa using hb0
  have afu:=ef fP
  have Vt:=(ni (kR fP)).2.1
  have hc0:=(col fP 0 (Nat.zero_le _)).sml
  refine an (aD X [] [(14,⟨true,[.a (.sl .bw x.av)]⟩)] [1,4] [] rfl (by(with_reducible and_intros)<;>first|exact⟨⟩|exact(oz x.av (by omega) hc0)) (aC X [1,4,5] rfl (by and_intros<;>first|exact⟨⟩|exact rfl) (aa (aq X [1,4,5,18,19] rfl ?_))))
  refine au (aG (fun k=>k≤x.ak.length) (fun k:Nat=> [(19, .one ((az k)))]) (fun k=> [(14, .arr .bw (wk x k)),(15, .arr .eD (FU x k))]) (fun k=>x.ak.length-k) 0 (fun k=>rfl) (Nat.zero_le _) rfl ?_)
  intro k hk
  refine aq X [1,4,5,18,19,20] rfl ?_
  refine aa (ah rfl ?_ ?_)<;>intro aW
  ·try simp only[aP]at aW
   have MQ:k<x.ak.length:=by omega
   have hwl:(kX x (k:Int)).length=x.av.length:=by rw[EV fP (by omega)];exact kg fP (by omega)
   have hw:kX x (k:Int)=dB x (k:Int):=EV fP (by omega)
   refine an (aa (au (aq X [1,4,5,6,18,19] rfl (aD X [] [(24,⟨true,[.a (.sl .DB (kX x (k:Int)))]⟩)] [1,4,5,6,18,19,24,25,26] [] rfl (by(with_reducible and_intros)<;>first|exact⟨⟩|exact(xI x (k:Int) (by first|assumption|omega| (simp;done)| (simp;omega)))) ?_))))
   refine au (aG (fun k1=>k1≤x.av.length) (fun k1:Nat=> [(26, .one ((az k1)))]) (fun k1=> [(14, .arr .bw (wm x k k1)),(15, .arr .eD (FU x k++FT x k k1))]) (fun k1=>x.av.length-k1) 0 (fun k1=>rfl) (Nat.zero_le _) (by simp[wm,FT]) ?_)
   intro k1 hk1
   have nL:=KC fP MQ hk1
   refine aq X [1,4,5,6,18,19,24,25,26,27] rfl ?_
   refine aa (ah rfl ?_ ?_)<;>intro bz
   ·try simp only[aP]at bz
    have FY:=KF fP MQ (by omega:k1<x.av.length)
    have hs1:=GQ fP MQ (by omega:k1<x.av.length)
    have rB:=Be x k k1
    have hrl:=EY x k
    have Xc:=zB x k k1
    have LL:k*x.av.length≤8*4:=Nat.mul_le_mul (by omega) (by omega)
    refine an (aa (au (aC X [1,4,5,6,7,8,18,19,24,25,26] rfl (by and_intros<;>first|exact⟨⟩| (intros;omega)) (aa ?_))))
    have t1:=(wv ((wm x k k1).getD k1 (aI .bw)) (k:Int) ((kX x (k:Int)).getD k1 (aI .DB)) FY.2.1 FY.1 (by rw[hw];exact FY.2.2))
    refine bu X [] [(40,⟨true,bJ t1⟩)] [1,4,5,6,7,8,18,19,24,25,26] [] 8191 1 MO (by kernel_rfl) rfl (by kernel_rfl) (by(with_reducible and_intros)<;>first|exact⟨⟩|exact t1| (intros;omega)) ?_
    have t1:=(xK (jC x.aX (k1:Int)) (k1:Int) (k:Int) x.round ((kX x (k:Int)).getD k1 (aI .DB)) (by rw[hw];exact FY.2.2))
    refine bZ X [(56,15)] [(48,⟨false,[az (jC x.aX (k1:Int))]⟩),(54,⟨false,bJ t1⟩)] [1,4,5,6,18,19,24,25,26] [] 12 MO (by kernel_rfl) rfl (by(repeat' with_reducible first|exact aL|refine aS ?_ ?_|apply And.intro);(iterate 2 all_goals try first|exact(jd x.aX (k1:Int))|exact t1);all_goals first|exact rfl|exact⟨rfl,bn _ (by decide)⟩| (simp only[dO,maxLen,lens];omega)) ?_
    refine bt X [1,4,5,6,18,19,24,25,26] rfl ?_
    refine⟨k1+1,by omega,by omega,?_⟩
    rw[bH _ k1 rfl (by omega),hw, ←hs1,rB, ←List.append_assoc]
    try rfl
   ·try simp only[aP]at bz
    rw[KE fP MQ (by omega),show k1=x.av.length by omega, ←Bf]
    refine aK (bt X [1,4,5,18,19] rfl ?_)
    refine⟨k+1,by omega,by omega,?_⟩
    rw[bH _ k rfl (by omega)]
    try rfl
  ·try simp only[aP]at aW
   exact aK (aq X [2,3] rfl (aj (af rfl ⟨by rw[bM,if_pos fP,show x.ak.length=k by omega],by rw[gG,if_pos fP,show x.ak.length=k by omega],⟨⟩⟩)))
theorem ve(x:bp)(h0:wB x):So 214 [.agg (aT x)] [.a (.sl .bw (bM x)), .a (.sl .eD (gG x))]:=by
 refine ay X call214 func214 ntmps214 rfl rfl ?_
 intro zb
 refine bB 0 1 rfl rfl (fun nv=> ?_)
 refine bB 0 2 rfl rfl (fun mo=> ?_)
 have o7:=qJ h0
 refine aq X [1] rfl (aC X [1,4] rfl (by and_intros<;>first|exact⟨⟩|exact rfl) (aa (aD X [] [(13,⟨false,[aH (okW x)]⟩)] [1,4,14] [] rfl (by(with_reducible and_intros)<;>first|exact⟨⟩|exact(cB x)) ?_)))
 refine ah rfl ?_ ?_<;>intro hb0
 ·have fP:okW x=false:=by simpa using hb0
  exact aC X [2,3] rfl (by and_intros<;>first|exact⟨⟩|exact rfl) (aj (af rfl ⟨by rw[bM,if_neg (by rw[fP];decide)],by rw[gG,if_neg (by rw[fP];decide)],⟨⟩⟩))
 ·have fP:okW x=true:=by simpa using hb0
  have afu:=ef fP
  have Vt:=(ni (kR fP)).2.1
  have hc0:=(col fP 0 (Nat.zero_le _)).sml
  refine an (aD X [] [(18,⟨true,[.agg (aT x)]⟩)] [1,4,5] [] rfl ⟨⟨_,_,_,Tryz.underlying31,rfl,rfl,Tryz.underlying24,rfl⟩,dr x h0,⟨⟩⟩ (aa (aq X [1,4,5,6] rfl ?_)))
  refine au (aG (fun k=>k≤x.ak.length) (fun k:Nat=> [(6, .one ((az k)))]) (fun k=> [(19, .arr .bw (wk x k)),(11, .arr .eD (FU x k))]) (fun k=>x.ak.length-k) 0 (fun k=>rfl) (Nat.zero_le _) rfl ?_)
  intro k hk
  refine aa (aq X [1,4,5,6,24] rfl ?_)
  refine ah rfl ?_ ?_<;>intro aW
  ·try simp only[aP]at aW
   have MQ:k<x.ak.length:=by omega
   have hwl:(dB x (k:Int)).length=x.av.length:=kg fP (by omega)
   refine an (aa (au (aD X [] [(29,⟨true,[.a (.sl .DB (dB x (k:Int)))]⟩)] [1,4,5,6,7] [] rfl (by(with_reducible and_intros)<;>first|exact⟨⟩|exact(Bc x (k:Int) (by first|assumption|omega| (simp;done)| (simp;omega)) (by first|assumption|omega| (simp;done)| (simp;omega)))) (aq X [1,4,5,6,7,8] rfl ?_))))
   refine au (aG (fun k1=>k1≤x.av.length) (fun k1:Nat=> [(8, .one ((az k1)))]) (fun k1=> [(19, .arr .bw (wm x k k1)),(11, .arr .eD (FU x k++FT x k k1))]) (fun k1=>x.av.length-k1) 0 (fun k1=>rfl) (Nat.zero_le _) (by simp[wm,FT]) ?_)
   intro k1 hk1
   have nL:=KC fP MQ hk1
   refine aa (aq X [1,4,5,6,7,8,33] rfl ?_)
   refine ah rfl ?_ ?_<;>intro bz
   ·try simp only[aP]at bz
    rw[nL]at bz
    have FY:=KF fP MQ (by omega:k1<x.av.length)
    have hs1:=GQ fP MQ (by omega:k1<x.av.length)
    have rB:=Be x k k1
    have hrl:=EY x k
    have Xc:=zB x k k1
    have LL:k*x.av.length≤8*4:=Nat.mul_le_mul (by omega) (by omega)
    refine an (aa (au (aa ?_)))
    have t1:=(wz ((wm x k k1).getD k1 (aI .bw)) (k:Int) ((dB x (k:Int)).getD k1 (aI .DB)) FY.2.1 FY.1 FY.2.2)
    refine bu X [] [(46,⟨true,bJ t1⟩)] [1,4,5,6,7,8,9] [] 49151 1 MO (by kernel_rfl) rfl (by kernel_rfl) (by(with_reducible and_intros)<;>first|exact⟨⟩|exact t1| (intros;omega)) (aC X [1,4,5,6,7,8] rfl (by and_intros<;>first|exact⟨⟩| (intros;omega)) ?_)
    have t1:=(xL (jC x.aX (k1:Int)) (k1:Int) (k:Int) x.round ((dB x (k:Int)).getD k1 (aI .DB)) FY.2.2)
    refine bZ X [(68,11)] [(57,⟨false,[az (jC x.aX (k1:Int))]⟩),(66,⟨false,bJ t1⟩)] [1,4,5,6,7,8] [] 15 MO (by kernel_rfl) rfl (by(repeat' with_reducible first|exact aL|refine aS ?_ ?_|apply And.intro);(iterate 2 all_goals try first|exact(je x.aX (k1:Int))|exact t1);all_goals first| (intros;omega)|exact rfl|exact⟨rfl,bn _ (by decide)⟩| (simp only[dO,maxLen,lens];omega)) ?_
    refine bt X [1,4,5,6,7,8] rfl ?_
    refine⟨k1+1,by omega,by omega,?_⟩
    rw[bH _ k1 rfl (by omega), ←hs1,rB, ←List.append_assoc]
    try rfl
   ·try simp only[aP]at bz
    rw[nL]at bz
    rw[KE fP MQ (by omega),show k1=x.av.length by omega, ←Bf]
    refine aK (bt X [1,4,5,6] rfl ?_)
    refine⟨k+1,by omega,by omega,?_⟩
    rw[bH _ k rfl (by omega)]
    try rfl
  ·try simp only[aP]at aW
   exact aK (aq X [2,3] rfl (aj (af rfl ⟨by rw[bM,if_pos fP,show x.ak.length=k by omega],by rw[gG,if_pos fP,show x.ak.length=k by omega],⟨⟩⟩)))
end
section
set_option maxRecDepth 100000
theorem sD(rows:Int)(l:List aR)(hz: ∀r,r∈l→dL List.length r.share.rows≤1048576):So 190 [az rows, .a (.sl .aR l)] [.agg (aZ (gH rows l))]:=by
 refine ay X call190 func190 ntmps190 rfl rfl ?_
 intro zb
 refine cx 1 rfl (fun j0=>(aq X [0,1,4] rfl (aD X [] [(9,⟨true,[.agg (aZ (dz rows))]⟩)] [1,4,5] [] rfl (by(with_reducible and_intros)<;>first|exact⟨⟩|exact(oq rows)) (aa (aq X [4,5,10,11,12] rfl ?_)))))
 refine au (aG (fun k=>k≤l.length) (fun k:Nat=> [(12, .one ((az k)))]) (fun k=> [(9, .arr (.sl .u8) (gH rows (l.take k)).rows)]) (fun k=>l.length-k) 0 (fun k=>rfl) (Nat.zero_le _) rfl ?_)
 intro k hk
 refine aq X [4,5,10,11,12,13] rfl ?_
 refine aa (ah rfl ?_ ?_)<;>intro hb0
 ·try simp only[aP]at hb0
  have hs:=GY rows l k hb0
  refine an (aa (au (aC X [4,5,7,10,11,12] rfl (by and_intros<;>first|exact⟨⟩| (intros;omega)) (aE X [] [(20,⟨true,[.agg (aZ (gN (gH rows (l.take k)) ((l.getD k (aI .aR)).share))),aH (iZ (gH rows (l.take k)) ((l.getD k (aI .aR)).share))]⟩)] [4,5,10,11,12] [] rfl (by(with_reducible and_intros)<;>first|exact⟨⟩|exact(jr (gH rows (l.take k)) ((l.getD k (aI .aR)).share) (Ot _ _) (hz _ (getD_in _ hb0)))) (lU 5 0 9 rfl (bt X [4,5,10,11,12] rfl ?_))))))
  refine⟨k+1,by omega,by omega,?_⟩
  rw[bH _ k rfl (by omega),hs]
  try rfl
 ·try simp only[aP]at hb0
  exact aK (aC X [4] rfl (by trivial) (aj (af rfl ⟨by rw[List.take_of_length_le hb0],⟨⟩⟩)))
theorem l9(s:bw)(f:Nat)(hf:f≤8)(hz: ∀r,r∈s.received→dL List.length r.share.rows≤1048576):So 305 [.agg (bR s),az ((f:Nat):Int)] [.agg (aZ (gH s.rows (s.received.drop f)))]:=by
 refine ay X call305 func305 ntmps305 rfl rfl ?_
 intro zb
 refine bB 0 3 rfl rfl (fun j0=>(aq X [1,2,4] rfl (aD X [] [(11,⟨true,[.agg (aZ (dz s.rows))]⟩)] [1,2,4,5] [] rfl (by(with_reducible and_intros)<;>first|exact⟨⟩|exact(jY s.rows)) (aa (aq X [2,4,5,6] rfl ?_)))))
 refine au (aG (fun k=>f≤k∧(k≤s.received.length∨k=f)) (fun k:Nat=> [(6, .one ((az k)))]) (fun k=> [(11, .arr (.sl .u8) (gH s.rows ((s.received.drop f).take (k-f))).rows)]) (fun k=>s.received.length-k) f (fun k=>rfl) ⟨Nat.le_refl _,Or.inr rfl⟩ (by simp[gH]) ?_)
 rintro k ⟨hk,hk2⟩
 refine aa (aq X [2,4,5,6,17] rfl ?_)
 refine ah rfl ?_ ?_<;>intro hb0
 ·try simp only[aP]at hb0
  have hs:=Qe s.rows s.received f k hb0 hk
  refine an (aa (au (aa (bu X [] [(28,⟨true,[.agg (aZ (gN (gH s.rows ((s.received.drop f).take (k-f))) ((s.received.getD k (aI .aR)).share))),aH (iZ (gH s.rows ((s.received.drop f).take (k-f))) ((s.received.getD k (aI .aR)).share))]⟩)] [2,4,5,6,7] [] 12287 1 MO (by kernel_rfl) rfl (by kernel_rfl) (by(with_reducible and_intros)<;>first|exact⟨⟩|exact(jt (gH s.rows ((s.received.drop f).take (k-f))) ((s.received.getD k (aI .aR)).share) (Ot _ _) (hz _ (getD_in _ hb0)))| (intros;omega)) (eO X [2,4,5,6] rfl (by trivial) (lU 5 0 11 rfl (bt X [2,4,5,6] rfl ?_)))))))
  refine⟨k+1,by omega,by omega,?_⟩
  rw[bH _ k rfl (by omega),hs]
  try rfl
 ·try simp only[aP]at hb0
  exact aK (aC X [4] rfl (by trivial) (aj (af rfl ⟨by rw[Tw _ _ _ _ hb0],⟨⟩⟩)))
theorem xV(s:bw):So 206 [.agg (bR s)] [.agg (aZ (tw s))]:=by
 refine ay X call206 func206 ntmps206 rfl rfl ?_
 intro zb
 refine aq X [1,2] rfl (aa (aD X [] [(4,⟨false,[aH (cm s)]⟩)] [1,2,5] [] rfl (by(with_reducible and_intros)<;>first|exact⟨⟩|exact(dn s)) ?_))
 refine ah rfl ?_ ?_<;>intro hb0
 ·have hk:cm s=false:=by simpa using hb0
  exact aC X [2] rfl (by trivial) (aj (af rfl ⟨by rw[tw,hk];rfl,⟨⟩⟩))
 ·have hk:cm s=true:=by simpa using hb0
  have hsz:=zH hk
  exact an (aD X [] [(11,⟨true,[.agg (aZ (gH s.rows s.received))]⟩)] [2] [] rfl (by(with_reducible and_intros)<;>first|exact⟨⟩|exact(sD s.rows s.received hsz)) (aj (af rfl ⟨by rw[tw,if_pos hk],⟨⟩⟩)))
theorem xW(s:bw):So 319 [.agg (bR s)] [.agg (aZ (tw s))]:=by
 refine ay X call319 func319 ntmps319 rfl rfl ?_
 intro zb
 refine aq X [1,2] rfl (aa (aD X [] [(4,⟨false,[aH (cm s)]⟩)] [1,2,5] [] rfl (by(with_reducible and_intros)<;>first|exact⟨⟩|exact(cO s)) ?_))
 refine ah rfl ?_ ?_<;>intro hb0
 ·have hk:cm s=false:=by simpa using hb0
  exact aC X [2] rfl (by trivial) (aj (af rfl ⟨by rw[tw,hk];rfl,⟨⟩⟩))
 ·have hk:cm s=true:=by simpa using hb0
  have hsz:=zH hk
  exact an (aD X [] [(8,⟨true,[.agg (aZ (gH s.rows (s.received.drop 0)))]⟩)] [2] [] rfl (by(with_reducible and_intros)<;>first|exact⟨⟩|exact(l9 s 0 (by decide) hsz)) (aj (af rfl ⟨by rw[tw,if_pos hk];rfl,⟨⟩⟩)))
theorem wA(s:bw):So 114 [.agg (bR s)] [.agg (aZ (sy s))]:=by
 refine ay X call114 func114 ntmps114 rfl rfl ?_
 intro zb
 refine aq X [1,2] rfl (aa (aD X [] [(6,⟨false,[aH (cm s)]⟩)] [1,2,7] [] rfl (by(with_reducible and_intros)<;>first|exact⟨⟩|exact(dn s)) ?_))
 refine ah rfl ?_ ?_<;>intro hb0
 ·have hk:cm s=false:=by simpa using hb0
  exact aC X [2] rfl (by trivial) (aj (af rfl ⟨by rw[sy,hk];rfl,⟨⟩⟩))
 ·have hk:cm s=true:=by simpa using hb0
  have hsz:=zH hk
  have hin:=Ty hk
  refine an (aq X [1,2,3] rfl (aa (aq X [1,2,3,13] rfl ?_)))
  refine ah rfl ?_ ?_<;>intro aW
  ·try simp only[aP]at aW
   have hr:=GZ s (by omega)
   have j0:=(Ou hk).2
   have hmi:=Iv 1 (s.received.length:Int)
   refine eO X [1,2,3] rfl (by and_intros<;>first|exact⟨⟩| (intros;omega)) ?_
   rw[show List.take ((s.received.length:Int)).toNat s.received=s.received by simp,Tx, ←hr]
   refine aD X [] [(22,⟨true,[.agg (aZ (gH s.rows (rcvd s)))]⟩)] [1,2,4] [] rfl (by(with_reducible and_intros)<;>first|exact⟨⟩|exact(sD s.rows (rcvd s) (fun r Nl=>hsz r (TA s r Nl)))) (aa (aq X [2,4,25] rfl ?_))
   refine ah rfl ?_ ?_<;>intro bz
   ·try simp only[aP]at bz
    omega
   ·try simp only[aP]at bz
    exact an (aC X [2] rfl (by trivial) (aj (af rfl ⟨by rw[sy,if_pos hk,if_neg (by omega)],⟨⟩⟩)))
  ·try simp only[aP]at aW
   have hr:=KO s (by omega)
   rw[hr]at hin
   have afv:0<((gH s.rows s.received).rows.getD (Int.toNat 0) (aI (.sl .u8))).length:=hin.2
   refine an (aD X [] [(22,⟨true,[.agg (aZ (gH s.rows s.received))]⟩)] [1,2,4] [] rfl (by(with_reducible and_intros)<;>first|exact⟨⟩|exact(sD s.rows s.received hsz)) (aa (aq X [2,4,25] rfl ?_)))
   refine ah rfl ?_ ?_<;>intro bz
   ·try simp only[aP]at bz
    have ahU:s.behavior=2:=by omega
    exact eO X [2,4] rfl (by and_intros<;>first|exact⟨⟩| (intros;omega)|exact(rV _).1|exact(rV _).2) (aC X [2] rfl (by trivial) (aj (af rfl ⟨by rw[sy,if_pos hk,if_pos (by omega),hr];exact alt_eq _,⟨⟩⟩)))
   ·try simp only[aP]at bz
    exact an (aC X [2] rfl (by trivial) (aj (af rfl ⟨by rw[sy,if_pos hk,if_neg (by omega),hr],⟨⟩⟩)))
theorem wD(s:bw):So 269 [.agg (bR s)] [.agg (aZ (sy s))]:=by
 refine ay X call269 func269 ntmps269 rfl rfl ?_
 intro zb
 refine aq X [1,2] rfl (aa (aD X [] [(5,⟨false,[aH (cm s)]⟩)] [1,2,6] [] rfl (by(with_reducible and_intros)<;>first|exact⟨⟩|exact(cO s)) ?_))
 refine ah rfl ?_ ?_<;>intro hb0
 ·have hk:cm s=false:=by simpa using hb0
  exact aC X [2] rfl (by trivial) (aj (af rfl ⟨by rw[sy,hk];rfl,⟨⟩⟩))
 ·have hk:cm s=true:=by simpa using hb0
  have hsz:=zH hk
  have hin:=Ty hk
  refine an (aa (aq X [1,2,9] rfl (au (aq X [1,2,9,10] rfl ?_))))
  refine ah rfl ?_ ?_<;>intro aW
  ·try simp only[aP]at aW
   have hr:=GZ s (by omega)
   exact aD X [] [(13,⟨true,[.agg (aZ (gH s.rows (s.received.drop 1)))]⟩)] [2] [] rfl (by(with_reducible and_intros)<;>first|exact⟨⟩|exact(l9 s 1 (by decide) hsz)) (aj (af rfl ⟨by rw[sy,if_pos hk,if_neg (by omega),hr],⟨⟩⟩))
  ·try simp only[aP]at aW
   have hr:=KO s (by omega)
   rw[hr]at hin
   have afv:0<((gH s.rows s.received).rows.getD (Int.toNat 0) (aI (.sl .u8))).length:=hin.2
   have ahV:0<((gH s.rows (List.drop 0 s.received)).rows.getD (Int.toNat 0) (aI (.sl .u8))).length:=hin.2
   have ahW:0<(gH s.rows (List.drop 0 s.received)).rows.length:=hin.1
   refine aq X [1,2,14] rfl ?_
   refine ah rfl ?_ ?_<;>intro bz
   ·try simp only[aP]at bz
    exact aD X [] [(17,⟨true,[.agg (aZ (gH s.rows (s.received.drop 0)))]⟩)] [2,3] [] rfl (by(with_reducible and_intros)<;>first|exact⟨⟩|exact(l9 s 0 (by decide) hsz)) (cQ X [] [] [2,3] [] 12 MO (by kernel_rfl) rfl (by and_intros<;>first|exact⟨⟩| (intros;omega)|exact(rV _).1|exact(rV _).2) (aC X [2] rfl (by trivial) (aj (af rfl ⟨by rw[sy,if_pos hk,if_pos (by omega),hr];exact alt_eq _,⟨⟩⟩))))
   ·try simp only[aP]at bz
    exact an (aD X [] [(32,⟨true,[.agg (aZ (gH s.rows (s.received.drop 0)))]⟩)] [2] [] rfl (by(with_reducible and_intros)<;>first|exact⟨⟩|exact(l9 s 0 (by decide) hsz)) (aj (af rfl ⟨by rw[sy,if_pos hk,if_neg (by omega),hr];rfl,⟨⟩⟩)))
theorem gY(a b:DB):So 135 [.agg (aZ a), .agg (aZ b)] [aH (a.rows==b.rows)]:=by
 refine ay X call135 func135 ntmps135 rfl rfl ?_
 intro zb
 exact aq X [2,3] rfl (aD X [] [(9,⟨false,[aH (a.rows==b.rows)]⟩)] [4] [] rfl (by(with_reducible and_intros)<;>first|exact⟨⟩|exact(ia a.rows b.rows)) (aj (af rfl ⟨rfl,⟨⟩⟩)))
theorem tC(a b:DB):So 318 [.agg (aZ a), .agg (aZ b)] [aH (a.rows==b.rows)]:=by
 refine ay X call318 func318 ntmps318 rfl rfl ?_
 intro zb
 exact aq X [2,3] rfl (aD X [] [(9,⟨false,[aH (a.rows==b.rows)]⟩)] [4] [] rfl (by(with_reducible and_intros)<;>first|exact⟨⟩|exact(kP a.rows b.rows)) (aj (af rfl ⟨rfl,⟨⟩⟩)))
theorem vf(key:Int)(r:eD):So 204 [az key, .agg (kD r)] [aH (MH key r)]:=by
 refine ay X call204 func204 ntmps204 rfl rfl ?_
 intro zb
 exact aq X [0,3] rfl (cQ X [] [(9,⟨false,[az (P7 key r.server r.client r.round r.nI)]⟩)] [4] [] 7 MO (by kernel_rfl) rfl (by(with_reducible and_intros)<;>first|exact⟨⟩|exact(pK key r)) (aj (af rfl ⟨(congrArg Value.bool (by simp only[MH,aU]<;>first|rfl|ac_rfl)),⟨⟩⟩)))
theorem tD(r:eD)(d:DB)(hd:dL List.length d.rows≤1048576):So 205 [.agg (kD r), .agg (aZ d)] [aH (MI r d)]:=by
 refine ay X call205 func205 ntmps205 rfl rfl ?_
 intro zb
 exact aq X [2,3] rfl (cQ X [] [(12,⟨false,[az (EX r.client r.round d)]⟩)] [4] [] 10 MO (by kernel_rfl) rfl (by(with_reducible and_intros)<;>first|exact⟨⟩|exact(oy r.client r.round d hd)) (aj (af rfl ⟨(congrArg Value.bool (by simp only[MI,aU]<;>first|rfl|ac_rfl)),⟨⟩⟩)))
theorem xX(key:Int)(s:bw)(p:DB)(l:List eD)(hz:s.received.length≤1048576∧ ∀r,r∈s.received→dL List.length r.share.rows≤1048576)(hp:dL List.length p.rows≤1048576):So 128 [az key, .agg (bR s), .agg (aZ p), .a (.sl .eD l)] [az (Cm key s p l)]:=by
 refine ay X call128 func128 ntmps128 rfl rfl ?_
 intro zb
 refine cx 3 rfl (fun j0=>(aq X [0,3,5,6] rfl (aa (aq X [0,5,6,13,14,15] rfl ?_))))
 refine au (aG (fun k=>k≤l.length∧ ∀j,j<k→jl key s (l.getD j (aI .eD))=0) (fun k:Nat=> [(15, .one ((az k)))]) (fun k=> []) (fun k=>l.length-k) 0 (fun k=>rfl) ⟨Nat.zero_le _,fun j hj=>absurd hj (Nat.not_lt_zero _)⟩ rfl ?_)
 rintro k ⟨hk,hall⟩
 refine aq X [0,5,6,13,14,15,16] rfl ?_
 refine aa (ah rfl ?_ ?_)<;>intro hb0
 ·try simp only[aP]at hb0
  refine an (aa (au (aC X [0,5,6,10,13,14,15] rfl (by and_intros<;>first|exact⟨⟩| (intros;omega)) (aa (aD X [] [(34,⟨false,[aH (MH key (l.getD k (aI .eD)))]⟩)] [0,5,6,10,13,14,15,36] [] rfl (by(with_reducible and_intros)<;>first|exact⟨⟩|exact fun _=>(vf key (l.getD k (aI .eD)))) ?_)))))
  refine ah rfl ?_ ?_<;>intro aW
  ·have TV:qQ key s (l.getD k (aI .eD))=true:=jc aW (by simp only[qQ,aU]<;>first|rfl|ac_rfl)
   refine aK (bt X [0,5,6,13,14,15] rfl ?_)
   refine⟨k+1,⟨by omega,sA hall (acW TV)⟩,by omega,?_⟩
   rw[bH _ k rfl (by omega)]
   try rfl
  ·have TV:qQ key s (l.getD k (aI .eD))=false:=lV aW (by simp only[qQ,aU]<;>first|rfl|ac_rfl)
   refine an (aa ?_)
   have t1:=(va s ((l.getD k (aI .eD)).client) hz)
   refine aE X [] [(41,⟨true,bJ t1⟩)] [0,5,6,10,11,12,13,14,15] [] rfl (by(with_reducible and_intros)<;>first|exact⟨⟩|exact t1) (aa (aq X [0,5,6,10,11,13,14,15,45] rfl ?_))
   refine ah rfl ?_ ?_<;>intro bz
   ·have hsh:mB s.received (l.getD k (aI .eD)).client=false:=by simpa using bz
    have hf:=acT TV hsh
    exact aq X [8] rfl (aj (af rfl ⟨by rw[zI hall hb0 (by rw[hf];decide),hf],⟨⟩⟩))
   ·have hsh:mB s.received (l.getD k (aI .eD)).client=true:=by simpa using bz
    have hsd:=EW (c:=(l.getD k (aI .eD)).client) hz.2
    refine an (aa ?_)
    have t1:=(tD (l.getD k (aI .eD)) (Bd s.received (l.getD k (aI .eD)).client) hsd)
    refine aE X [] [(48,⟨false,bJ t1⟩)] [0,5,6,13,14,15,49] [] rfl (by(with_reducible and_intros)<;>first|exact⟨⟩|exact t1) ?_
    refine ah rfl ?_ ?_<;>intro dD
    ·have hf:=acU TV hsh (by simpa using dD)
     exact aq X [8] rfl (aj (af rfl ⟨by rw[zI hall hb0 (by rw[hf];decide),hf],⟨⟩⟩))
    ·have hf:=acV TV hsh (by simpa using dD)
     refine an (bt X [0,5,6,13,14,15] rfl ?_)
     refine⟨k+1,⟨by omega,sA hall hf⟩,by omega,?_⟩
     rw[bH _ k rfl (by omega)]
     try rfl
 ·try simp only[aP]at hb0
  refine aK (aa (cQ X [] [(52,⟨false,[aH (cm s)]⟩),(57,⟨false,[.agg (aZ (tw s))]⟩),(58,⟨false,[aH (p.rows==(tw s).rows)]⟩)] [60] [] 10 MO (by kernel_rfl) rfl (by(with_reducible and_intros);(iterate 3 all_goals try first|exact⟨⟩|exact(dn s)|exact fun _=>(xV s)|exact fun _=>(gY p (tw s)))) ?_))
  refine ah rfl ?_ ?_<;>intro kS
  ·have hq:(cm s&&(p.rows==(tw s).rows))=false:=b9 kS (by simp only[aU]<;>first|rfl|ac_rfl)
   exact aq X [8] rfl (aj (af rfl ⟨by rw[zJ hall hb0,hq];rfl,⟨⟩⟩))
  ·have hq:(cm s&&(p.rows==(tw s).rows))=true:=bX kS (by simp only[aU]<;>first|rfl|ac_rfl)
   exact an (aq X [8] rfl (aj (af rfl ⟨by rw[zJ hall hb0,hq];rfl,⟨⟩⟩)))
theorem pR(m:Int)(sv:List bw)(pb:List DB)(rc:List eD)(hl:sv.length≤1048576)(hs: ∀s,s∈sv→ou s)(hp: ∀d,d∈pb→dL List.length d.rows≤1048576):So 47 [az m, .a (.sl .bw sv), .a (.sl .DB pb), .a (.sl .eD rc)] [.a (.sl .int (jf m sv pb rc sv.length))]:=by
 refine ay X call47 func47 ntmps47 rfl rfl ?_
 intro zb
 refine cx 2 rfl (fun j0=>(aq X [0,1,2,3] rfl (aC X [0,1,2,3,9] rfl (by and_intros<;>first|exact⟨⟩|exact rfl) (aa (aq X [0,2,3,9,13,14,15] rfl ?_)))))
 refine au (aG (fun k=>k≤sv.length) (fun k:Nat=> [(15, .one ((az k)))]) (fun k=> [(12, .arr .int (jf m sv pb rc k))]) (fun k=>sv.length-k) 0 (fun k=>rfl) (Nat.zero_le _) rfl ?_)
 intro k hk
 have hle:=oG m sv pb rc k
 refine aq X [0,2,3,9,13,14,15,16] rfl ?_
 refine aa (ah rfl ?_ ?_)<;>intro hb0
 ·try simp only[aP]at hb0
  refine an (aa (au (aC X [0,2,3,9,10,11,13,14,15] rfl (by and_intros<;>first|exact⟨⟩| (intros;omega)) (cQ X [] [(28,⟨false,[az (jC m ((sv.getD k (aI .bw)).id))]⟩),(35,⟨false,[az (Cm (jC m (sv.getD k (aI .bw)).id) (sv.getD k (aI .bw)) (pb.getD k (aI .DB)) rc)]⟩)] [0,2,3,9,11,13,14,15,37] [] 18 MO (by kernel_rfl) rfl (by(with_reducible and_intros);(iterate 3 all_goals try first|exact⟨⟩|exact fun _=>(jd m ((sv.getD k (aI .bw)).id))|exact fun _=>(xX (jC m (sv.getD k (aI .bw)).id) (sv.getD k (aI .bw)) (pb.getD k (aI .DB)) rc (hs _ (getD_in _ hb0)) (KP hp k))|exact(by refine fun Xb=> ?_;have NT:decide ((k:Int)≥(pb.length:Int))=false:=Xb;rw[decide_eq_false_iff_not]at NT;dsimp only[hyps,Hy];omega))) ?_))))
  refine ah rfl ?_ ?_<;>intro aW
  ·have hbd:Cn m sv pb rc k=true:=jc aW (by simp only[Cn,aU]<;>first|rfl|ac_rfl)
   have rB:=E6 hbd
   refine aE X [(42,12)] [] [0,2,3,9,13,14,15] [] rfl (by and_intros<;>first|exact⟨⟩|exact rfl| (simp only[dO,maxLen,lens];omega)) (bt X [0,2,3,9,13,14,15] rfl ?_)
   refine⟨k+1,by omega,by omega,?_⟩
   rw[bH _ k rfl (by omega),rB]
   try rfl
  ·have hbd:Cn m sv pb rc k=false:=lV aW (by simp only[Cn,aU]<;>first|rfl|ac_rfl)
   have rB:=Bn hbd
   refine an (bt X [0,2,3,9,13,14,15] rfl ?_)
   refine⟨k+1,by omega,by omega,?_⟩
   rw[bH _ k rfl (by omega),rB]
   try rfl
 ·try simp only[aP]at hb0
  exact aK (aq X [8] rfl (aj (af rfl ⟨by rw[show k=sv.length by omega],⟨⟩⟩)))
theorem pS(sv:List bw)(hl:sv.length≤1048576):So 42 [.a (.sl .bw sv)] [.a (.sl .DB (cZ sv))]:=by
 refine ay X call42 func42 ntmps42 rfl rfl ?_
 intro zb
 refine aq X [0] rfl (aC X [0,3] rfl (by and_intros<;>first|exact⟨⟩|exact rfl) (aa (aq X [3,7,8,9] rfl ?_)))
 refine au (aG (fun k=>k≤sv.length) (fun k:Nat=> [(9, .one ((az k)))]) (fun k=> [(6, .arr .DB ((cZ sv).take k))]) (fun k=>sv.length-k) 0 (fun k=>rfl) (Nat.zero_le _) rfl ?_)
 intro k hk
 have hle:=bD (cZ sv) k
 refine aq X [3,7,8,9,10] rfl ?_
 refine aa (ah rfl ?_ ?_)<;>intro hb0
 ·try simp only[aP]at hb0
  have hs:=G0 sv k hb0
  refine an (aa (au (aC X [3,5,7,8,9] rfl (by and_intros<;>first|exact⟨⟩| (intros;omega)) (aE X [(17,6)] [(15,⟨true,[.agg (aZ (sy (sv.getD k (aI .bw))))]⟩)] [3,7,8,9] [] rfl (by(with_reducible and_intros)<;>first|exact⟨⟩|exact(wA (sv.getD k (aI .bw)))|exact rfl| (simp only[dO,maxLen,lens];omega)) (bt X [3,7,8,9] rfl ?_)))))
  refine⟨k+1,by omega,by omega,?_⟩
  rw[bH _ k rfl (by omega),hs]
  try rfl
 ·try simp only[aP]at hb0
  exact aK (aq X [2] rfl (aj (af rfl ⟨by rw[List.take_of_length_le (by unfold cZ;rw[List.length_map];exact hb0)],⟨⟩⟩)))
theorem vg(key:Int)(r:eD):So 315 [az key, .agg (kD r)] [aH (MH key r)]:=by
 refine ay X call315 func315 ntmps315 rfl rfl ?_
 intro zb
 exact aq X [0,3] rfl (cQ X [] [(9,⟨false,[az (P7 key r.server r.client r.round r.nI)]⟩)] [4] [] 7 MO (by kernel_rfl) rfl (by(with_reducible and_intros)<;>first|exact⟨⟩|exact(pL key r)) (aj (af rfl ⟨(congrArg Value.bool (by simp only[MH,aU]<;>first|rfl|ac_rfl)),⟨⟩⟩)))
theorem tE(r:eD)(d:DB)(hd:dL List.length d.rows≤1048576):So 317 [.agg (kD r), .agg (aZ d)] [aH (MI r d)]:=by
 refine ay X call317 func317 ntmps317 rfl rfl ?_
 intro zb
 exact aq X [2,3] rfl (cQ X [] [(12,⟨false,[az (EX r.client r.round d)]⟩)] [4] [] 10 MO (by kernel_rfl) rfl (by(with_reducible and_intros)<;>first|exact⟨⟩|exact(oA r.client r.round d hd)) (aj (af rfl ⟨(congrArg Value.bool (by simp only[MI,aU]<;>first|rfl|ac_rfl)),⟨⟩⟩)))
theorem xY(key:Int)(s:bw)(p:DB)(l:List eD)(hz:s.received.length≤1048576∧ ∀r,r∈s.received→dL List.length r.share.rows≤1048576)(hp:dL List.length p.rows≤1048576):So 281 [az key, .agg (bR s), .agg (aZ p), .a (.sl .eD l)] [az (Cm key s p l)]:=by
 refine ay X call281 func281 ntmps281 rfl rfl ?_
 intro zb
 refine cx 3 rfl (fun j0=>(aq X [0,3,5,6] rfl (aa (aq X [0,3,5,6,9] rfl ?_))))
 refine au (aG (fun k=>k≤l.length∧ ∀j,j<k→jl key s (l.getD j (aI .eD))=0) (fun k:Nat=> [(9, .one ((az k)))]) (fun k=> []) (fun k=>l.length-k) 0 (fun k=>rfl) ⟨Nat.zero_le _,fun j hj=>absurd hj (Nat.not_lt_zero _)⟩ rfl ?_)
 rintro k ⟨hk,hall⟩
 refine aa (aq X [0,3,5,6,9,16] rfl ?_)
 refine ah rfl ?_ ?_<;>intro hb0
 ·try simp only[aP]at hb0
  refine an (aa (au (aC X [0,3,5,6,9,10] rfl (by and_intros<;>first|exact⟨⟩| (intros;omega)) (aa (aD X [] [(38,⟨false,[aH (MH key (l.getD k (aI .eD)))]⟩)] [0,3,5,6,9,10,40] [] rfl (by(with_reducible and_intros)<;>first|exact⟨⟩|exact fun _=>(vg key (l.getD k (aI .eD)))) ?_)))))
  refine ah rfl ?_ ?_<;>intro aW
  ·have TV:qQ key s (l.getD k (aI .eD))=true:=jc aW (by simp only[qQ,aU]<;>first|rfl|ac_rfl)
   refine aK (bt X [0,3,5,6,9] rfl ?_)
   refine⟨k+1,⟨by omega,sA hall (acW TV)⟩,by omega,?_⟩
   rw[bH _ k rfl (by omega)]
   try rfl
  ·have TV:qQ key s (l.getD k (aI .eD))=false:=lV aW (by simp only[qQ,aU]<;>first|rfl|ac_rfl)
   refine an (aa ?_)
   have t1:=(Ff s ((l.getD k (aI .eD)).client) hz)
   refine aE X [] [(45,⟨true,bJ t1⟩)] [0,3,5,6,9,10,11,12] [] rfl (by(with_reducible and_intros)<;>first|exact⟨⟩|exact t1) (aa (aq X [0,3,5,6,9,10,11,49] rfl ?_))
   refine ah rfl ?_ ?_<;>intro bz
   ·have hsh:mB s.received (l.getD k (aI .eD)).client=false:=by simpa using bz
    have hf:=acT TV hsh
    exact aq X [8] rfl (aj (af rfl ⟨by rw[zI hall hb0 (by rw[hf];decide),hf],⟨⟩⟩))
   ·have hsh:mB s.received (l.getD k (aI .eD)).client=true:=by simpa using bz
    have hsd:=EW (c:=(l.getD k (aI .eD)).client) hz.2
    refine an (aa ?_)
    have t1:=(tE (l.getD k (aI .eD)) (Bd s.received (l.getD k (aI .eD)).client) hsd)
    refine aE X [] [(52,⟨false,bJ t1⟩)] [0,3,5,6,9,53] [] rfl (by(with_reducible and_intros)<;>first|exact⟨⟩|exact t1) ?_
    refine ah rfl ?_ ?_<;>intro dD
    ·have hf:=acU TV hsh (by simpa using dD)
     exact aq X [8] rfl (aj (af rfl ⟨by rw[zI hall hb0 (by rw[hf];decide),hf],⟨⟩⟩))
    ·have hf:=acV TV hsh (by simpa using dD)
     refine an (bt X [0,3,5,6,9] rfl ?_)
     refine⟨k+1,⟨by omega,sA hall hf⟩,by omega,?_⟩
     rw[bH _ k rfl (by omega)]
     try rfl
 ·try simp only[aP]at hb0
  refine aK (aa (cQ X [] [(55,⟨false,[aH (cm s)]⟩),(60,⟨false,[.agg (aZ (tw s))]⟩),(61,⟨false,[aH (p.rows==(tw s).rows)]⟩)] [63] [] 10 MO (by kernel_rfl) rfl (by(with_reducible and_intros);(iterate 3 all_goals try first|exact⟨⟩|exact(cO s)|exact fun _=>(xW s)|exact fun _=>(tC p (tw s)))) ?_))
  refine ah rfl ?_ ?_<;>intro kS
  ·have hq:(cm s&&(p.rows==(tw s).rows))=false:=b9 kS (by simp only[aU]<;>first|rfl|ac_rfl)
   exact aq X [8] rfl (aj (af rfl ⟨by rw[zJ hall hb0,hq];rfl,⟨⟩⟩))
  ·have hq:(cm s&&(p.rows==(tw s).rows))=true:=bX kS (by simp only[aU]<;>first|rfl|ac_rfl)
   exact an (aq X [8] rfl (aj (af rfl ⟨by rw[zJ hall hb0,hq];rfl,⟨⟩⟩)))
theorem zU(m:Int)(sv:List bw)(pb:List DB)(rc:List eD)(hl:sv.length≤1048576)(hs: ∀s,s∈sv→ou s)(hp: ∀d,d∈pb→dL List.length d.rows≤1048576):So 220 [az m, .a (.sl .bw sv), .a (.sl .DB pb), .a (.sl .eD rc)] [.a (.sl .int (jf m sv pb rc sv.length))]:=by
 refine ay X call220 func220 ntmps220 rfl rfl ?_
 intro zb
 refine cx 2 rfl (fun j0=>(aq X [0,1,2,3] rfl (aC X [0,1,2,3,9] rfl (by and_intros<;>first|exact⟨⟩|exact rfl) (aa (aq X [0,1,2,3,9,10] rfl ?_)))))
 refine au (aG (fun k=>k≤sv.length) (fun k:Nat=> [(10, .one ((az k)))]) (fun k=> [(11, .arr .int (jf m sv pb rc k))]) (fun k=>sv.length-k) 0 (fun k=>rfl) (Nat.zero_le _) rfl ?_)
 intro k hk
 have hle:=oG m sv pb rc k
 refine aa (aq X [0,1,2,3,9,10,15] rfl ?_)
 refine ah rfl ?_ ?_<;>intro hb0
 ·try simp only[aP]at hb0
  refine an (aa (au (cQ X [] [(29,⟨false,[az (jC m ((sv.getD k (aI .bw)).id))]⟩),(39,⟨false,[az (Cm (jC m (sv.getD k (aI .bw)).id) (sv.getD k (aI .bw)) (pb.getD k (aI .DB)) rc)]⟩)] [0,1,2,3,9,10,41] [] 24 MO (by kernel_rfl) rfl (by(with_reducible and_intros);(iterate 3 all_goals try first|exact⟨⟩|exact fun _=>(je m ((sv.getD k (aI .bw)).id))|exact fun _=>(xY (jC m (sv.getD k (aI .bw)).id) (sv.getD k (aI .bw)) (pb.getD k (aI .DB)) rc (hs _ (getD_in _ hb0)) (KP hp k))|exact(by refine fun Xb=> ?_;have NT:decide ((k:Int)≥(pb.length:Int))=false:=Xb;rw[decide_eq_false_iff_not]at NT;dsimp only[hyps,Hy];omega))) ?_)))
  refine ah rfl ?_ ?_<;>intro aW
  ·have hbd:Cn m sv pb rc k=true:=jc aW (by simp only[Cn,aU]<;>first|rfl|ac_rfl)
   have rB:=E6 hbd
   refine aE X [(49,11)] [] [0,1,2,3,9,10] [] rfl (by and_intros<;>first|exact⟨⟩| (intros;omega)|exact rfl| (simp only[dO,maxLen,lens];omega)) (bt X [0,1,2,3,9,10] rfl ?_)
   refine⟨k+1,by omega,by omega,?_⟩
   rw[bH _ k rfl (by omega),rB]
   try rfl
  ·have hbd:Cn m sv pb rc k=false:=lV aW (by simp only[Cn,aU]<;>first|rfl|ac_rfl)
   have rB:=Bn hbd
   refine an (bt X [0,1,2,3,9,10] rfl ?_)
   refine⟨k+1,by omega,by omega,?_⟩
   rw[bH _ k rfl (by omega),rB]
   try rfl
 ·try simp only[aP]at hb0
  exact aK (aq X [8] rfl (aj (af rfl ⟨by rw[show k=sv.length by omega],⟨⟩⟩)))
theorem zV(sv:List bw)(hl:sv.length≤1048576):So 215 [.a (.sl .bw sv)] [.a (.sl .DB (cZ sv))]:=by
 refine ay X call215 func215 ntmps215 rfl rfl ?_
 intro zb
 refine aq X [0] rfl (aC X [0,3] rfl (by and_intros<;>first|exact⟨⟩|exact rfl) (aa (aq X [0,3,4] rfl ?_)))
 refine au (aG (fun k=>k≤sv.length) (fun k:Nat=> [(4, .one ((az k)))]) (fun k=> [(5, .arr .DB ((cZ sv).take k))]) (fun k=>sv.length-k) 0 (fun k=>rfl) (Nat.zero_le _) rfl ?_)
 intro k hk
 have hle:=bD (cZ sv) k
 refine aa (aq X [0,3,4,9] rfl ?_)
 refine ah rfl ?_ ?_<;>intro hb0
 ·try simp only[aP]at hb0
  have hs:=G0 sv k hb0
  refine an (aa (au (aE X [(19,5)] [(17,⟨true,[.agg (aZ (sy (sv.getD k (aI .bw))))]⟩)] [0,3,4] [] rfl (by(with_reducible and_intros)<;>first|exact⟨⟩|exact(wD (sv.getD k (aI .bw)))| (intros;omega)|exact rfl| (simp only[dO,maxLen,lens];omega)) (bt X [0,3,4] rfl ?_))))
  refine⟨k+1,by omega,by omega,?_⟩
  rw[bH _ k rfl (by omega),hs]
  try rfl
 ·try simp only[aP]at hb0
  exact aK (aq X [2] rfl (aj (af rfl ⟨by rw[List.take_of_length_le (by unfold cZ;rw[List.length_map];exact hb0)],⟨⟩⟩)))
end
end Go.Proofs.YtcnomgcfijjkmaaGreat.G
