/-
  Room for transfers, as the library makes it.
-/
import Derived.Lib.AppendZeros
import Derived.Test.YtaalpcnbbldlaaaGreatDoorR11
namespace Go.Proofs.YtaalpcnbbldlaaaGreatDoor.G
set_option linter.all false
open Go.RowKit L D Tryz
section
set_option maxRecDepth 100000
theorem J6{w w':World}{t:Tag}{g n:Nat}{c:Array Value}(hg:g=w.heap.size)(hb:Below w.heap.size w w')(hc:w'.heap[g]? =some (.cells c (ty t) (0,0)))(hs:c.size=n*kk t)(hn:n≤maxLen):
  PS ty w [.a (.sl t [])] (.returned (.slice (some ⟨g,0,none⟩) 0 n)) w':=by
 have hown:Own w.heap.size w' (g::([]:List (List Nat)).flatten):=⟨by simp,fun b Gh=>by simp at Gh;omega,fun b Gh=>by simp at Gh;subst Gh;exact⟨_,_,hc⟩⟩;have hB:=oX (ep t) (l:=([]:List (T t))) (bX:= []) (o:=0) (n:=n) hc (by omega) (Nat.zero_le _) hn ⟨rfl,by simp⟩ hown;exact⟨_,_,rfl,hb,hown,_,[],hB,rfl,by simp⟩
theorem N8{w:World}{t:Tag}:PS ty w [.a (.sl t [])] (.returned DE) w:=by
 refine⟨_,[],rfl,Below.refl _ _,Own.nil _ _,[],[],⟨[],[],?_,rfl,by simp,rfl,Own.nil _ _⟩,rfl,rfl⟩;exact⟨by simp,Or.inl ⟨rfl,rfl⟩⟩
theorem SW(w:World)(n:Nat)(h1:n≤1099511627776):Calls Tryz.prog 284 #[DE, .int .i64 n] w (PS ty w [.a (.sl .int [])]):=by
 have rD:El Tryz.prog ty .int:=bA _ (by decide);cases hq:Tryz.prog.info? (ty .int)with
 |none=>simp[El,hq]at rD
 |some inf=>
  simp[El,hq]at rD;obtain⟨z1,z2,z3⟩:=rD;by_cases h0:n=0
  ·subst h0
   go_enter func284,ntmps284
   go_wp2
   go_ret
   exact N8
  ·have hsz:inf.size=1:=z2;have hby:inf.bytes≤8:=by rw[z3];decide
   have hmul:n*inf.bytes≤8796093022208:=Nat.le_trans (Nat.mul_le_mul (show n≤1099511627776 from h1) hby) (by decide);have hrun:=Lib.run_append_nil_zeros (P:=Tryz.prog) w 37 3 37 (ty .int) inf (eT .int) .i64 .i64 (X.kind 37).1 (X.kind 3) hq z1 n (by omega) (by omega) (by omega) (by omega);have hge:=grownCap_ge w n 0 (ty .int);have Jc:=grownCap_le_maxLen w n 0 (ty .int) (by unfold maxLen;omega);generalize grownCap w n 0 (ty .int)=g at hrun hge Jc
   go_enter func284,ntmps284
   go_wp2_with (at_builtin;refine Lib.wpList_append_run _ rfl _ _ _ _ rfl _ _ rfl rfl _ _ hrun ?_)
   go_ret
   refine J6 (t:= .int) rfl ((Below.refl _ _).drew.alloc (Nat.le_refl _) _) (kI rfl) ?_ Jc;rw[Array.size_append,size_zeroCells,size_zeroCells, ←Nat.add_mul,show n+(g-n)=g by omega];rfl
theorem rR(n:Nat)(h1:n≤1099511627776):So 284 [.a (.lit DE), .a (.lit (.int .i64 n))] [.a (.sl .int [])]:=by
 refine⟨fun args w=>call284 args w,fun w us _ ha=> ?_⟩;match us,ha with
 | [u1,u2],⟨⟨_,e1⟩,⟨_,e2⟩,_⟩=>
   obtain⟨e1,_⟩:=e1;obtain⟨e2,_⟩:=e2;rw[e1,e2];exact SW w n h1
end
section
set_option maxRecDepth 100000
theorem aK(x lo hi:Int):So 69 [aA x,aA lo,aA hi] [aH (inr x lo hi)]:=by
 refine av X call69 func69 ntmps69 rfl rfl ?_;intro zb;exact aq X [0,1,2] rfl (aq X [6] rfl (ak (ah rfl ⟨rfl,⟨⟩⟩)))
theorem aP(x lo hi:Int):So 48 [aA x,aA lo,aA hi] [aH (inr x lo hi)]:=by
 refine av X call48 func48 ntmps48 rfl rfl ?_;intro zb;exact aq X [0,1,2] rfl (aq X [6] rfl (ak (ah rfl ⟨rfl,⟨⟩⟩)))
theorem My(p q:Int)(h1:1≤q)(h2:q≤1000000000000):So 283 [aA p,aA q] [aA (p % q)]:=by
 refine av X call283 func283 ntmps283 rfl rfl ?_;intro zb;refine aq X [0,1] rfl (aa (aC X [] [(6,⟨false,[aH _]⟩)] [0,1,7] [] rfl (by(with_reducible and_intros)<;>first|exact⟨⟩|exact(aK _ _ _)) ?_));refine aj rfl ?_ ?_<;>intro hb0
 ·try simp only[aQ]at hb0
  omega
 ·try simp only[aQ]at hb0
  exact an (aD X [4] rfl (by and_intros<;>first|exact⟨⟩| (intros;omega)) (ak (ah rfl ⟨by rw[md_eq p q h1 h2],⟨⟩⟩)))
theorem tG(l:List Int)(hl:l.length≤16777216):So 217 [.a (.sl .int l)] [aA (hsh l)]:=by
 refine av X call217 func217 ntmps217 rfl rfl ?_;intro zb;refine aq X [0] rfl (aq X [0,3] rfl (aa (aq X [3,6,7,8] rfl ?_)));refine au (aE (fun k=>k≤l.length) (fun k:Nat=> [(3, .one ((aA (hsh (l.take k))))),(8, .one ((aA k)))]) (fun k=> []) (fun k=>l.length-k) 0 (fun k=>rfl) (Nat.zero_le _) rfl ?_);intro k hk;refine aq X [3,6,7,8,9] rfl ?_;refine aa (aj rfl ?_ ?_)<;>intro hb0
 ·try simp only[aQ]at hb0
  have hs:=J4 l k hb0;refine an (aa (au (aD X [3,5,6,7,8] rfl (by and_intros<;>first|exact⟨⟩| (intros;omega)) (aL X [] [(15,⟨false,[aA _]⟩)] [3,6,7,8] [] rfl (by(with_reducible and_intros)<;>first|exact⟨⟩|exact(My _ _ (by first|assumption|omega| (simp;done)| (simp;omega)) (by first|assumption|omega| (simp;done)| (simp;omega)))| (intros;omega)) (bg X [3,6,7,8] rfl ?_)))));refine⟨k+1,by omega,by omega,?_⟩;rw[bh _ k rfl (by omega),hs];try rfl
 ·try simp only[aQ]at hb0
  exact aI (aq X [2] rfl (ak (ah rfl ⟨by rw[List.take_of_length_le hb0],⟨⟩⟩)))
theorem Eb(p q:Int)(h1:1≤q)(h2:q≤1000000000000):So 243 [aA p,aA q] [aA (p % q)]:=by
 refine av X call243 func243 ntmps243 rfl rfl ?_;intro zb;refine aq X [0,1] rfl (aa (aC X [] [(6,⟨false,[aH _]⟩)] [0,1,7] [] rfl (by(with_reducible and_intros)<;>first|exact⟨⟩|exact(aP _ _ _)) ?_));refine aj rfl ?_ ?_<;>intro hb0
 ·try simp only[aQ]at hb0
  omega
 ·try simp only[aQ]at hb0
  exact an (aD X [4] rfl (by and_intros<;>first|exact⟨⟩| (intros;omega)) (ak (ah rfl ⟨by rw[md_eq p q h1 h2],⟨⟩⟩)))
theorem tH(l:List Int)(hl:l.length≤16777216):So 164 [.a (.sl .int l)] [aA (hsh l)]:=by
 refine av X call164 func164 ntmps164 rfl rfl ?_;intro zb;refine aq X [0] rfl (aq X [0,3] rfl (aa (aq X [0,3,4] rfl ?_)));refine au (aE (fun k=>k≤l.length) (fun k:Nat=> [(3, .one ((aA (hsh (l.take k))))),(4, .one ((aA k)))]) (fun k=> []) (fun k=>l.length-k) 0 (fun k=>rfl) (Nat.zero_le _) rfl ?_);intro k hk;refine aa (aq X [0,3,4,8] rfl ?_);refine aj rfl ?_ ?_<;>intro hb0
 ·try simp only[aQ]at hb0
  have hs:=J4 l k hb0;refine an (aa (au (aL X [] [(17,⟨false,[aA _]⟩)] [0,3,4] [] rfl (by(with_reducible and_intros)<;>first|exact⟨⟩|exact(Eb _ _ (by first|assumption|omega| (simp;done)| (simp;omega)) (by first|assumption|omega| (simp;done)| (simp;omega)))| (intros;omega)) (bg X [0,3,4] rfl ?_))));refine⟨k+1,by omega,by omega,?_⟩;rw[bh _ k rfl (by omega),hs];try rfl
 ·try simp only[aQ]at hb0
  exact aI (aq X [2] rfl (ak (ah rfl ⟨by rw[List.take_of_length_le hb0],⟨⟩⟩)))
theorem jG(l:List (List Int))(hl:l.length≤1048576)(hs0:(l.map List.length).sum≤1099511627776):So 218 [.a (.sl (.sl .int) l)] [.a (.sl .int l.flatten)]:=by
 refine av X call218 func218 ntmps218 rfl rfl ?_;intro zb;refine aq X [0] rfl (aq X [0,3] rfl (aa (aq X [0,3,9,10,11] rfl ?_)));refine au (aE (fun k=>k≤l.length) (fun k:Nat=> [(3, .one ((aA ((l.take k).map List.length).sum))),(11, .one ((aA k)))]) (fun k=> []) (fun k=>l.length-k) 0 (fun k=>rfl) (Nat.zero_le _) rfl ?_);intro k hk;have hle:=fX l List.length k;refine aq X [0,3,9,10,11,12] rfl ?_;refine aa (aj rfl ?_ ?_)<;>intro hb0
 ·try simp only[aQ]at hb0
  have hs:=B5 l (aG (.sl .int)) k hb0;have HY:=fX l List.length (k+1);rw[hs]at HY;refine an (aa (au (aD X [0,3,5,9,10,11] rfl (by and_intros<;>first|exact⟨⟩| (intros;omega)) (aD X [0,3,9,10,11] rfl (by trivial) (aq X [0,3,9,10,11,20] rfl ?_)))));refine aj rfl ?_ ?_<;>intro aV
  ·try simp only[aQ]at aV
   rw[bO (by omega)]at aV;omega
  ·try simp only[aQ]at aV
   refine an (bg X [0,3,9,10,11] rfl ?_);refine⟨k+1,by omega,by omega,?_⟩;rw[bh _ k rfl (by omega),hs];rw[bO (by simp only[Int.toNat_natCast];omega)];try rfl
 ·try simp only[aQ]at hb0
  rw[List.take_of_length_le hb0];refine aI (aC X [] [(24,⟨true,[.a (.sl .int [])]⟩),(300024,⟨true,[]⟩)] [0,6] [] rfl (by(with_reducible and_intros)<;>first|exact⟨⟩|exact(rR _ hs0)) (aa (aq X [6,25,26,27] rfl ?_)));refine au (aE (fun k1=>k1≤l.length) (fun k1:Nat=> [(27, .one ((aA k1)))]) (fun k1=> [(24, .arr .int (l.take k1).flatten)]) (fun k1=>l.length-k1) 0 (fun k1=>rfl) (Nat.zero_le _) rfl ?_);intro k1 hk1;have Cx:=nW l k1;refine aq X [6,25,26,27,28] rfl ?_;refine aa (aj rfl ?_ ?_)<;>intro bI
  ·try simp only[aQ]at bI
   have hs1:=yP l (aG (.sl .int)) k1 bI;have HY:=nW l (k1+1);rw[hs1,List.length_append]at HY;refine an (aa (au (aD X [6,8,25,26,27] rfl (by and_intros<;>first|exact⟨⟩| (intros;omega)) (aL X [(33,24)] [] [6,25,26,27] [] rfl (by and_intros<;>first|exact⟨⟩|exact rfl| (simp only[dN,maxLen,lens];omega)) (bg X [6,25,26,27] rfl ?_)))));refine⟨k1+1,by omega,by omega,?_⟩;rw[bh _ k1 rfl (by omega),hs1];try rfl
  ·try simp only[aQ]at bI
   exact aI (aq X [2] rfl (ak (ah rfl ⟨by rw[List.take_of_length_le bI],⟨⟩⟩)))
theorem bD(k:Int)(l:List Int)(hl:l.length≤1048576):So 132 [aA k, .a (.sl .int l)] [aA (kh k l)]:=by
 refine av X call132 func132 ntmps132 rfl rfl ?_;intro zb;refine aq X [0,1] rfl (aC X [] [(11,⟨true,[.a (.sl .int [[k],l,[k]].flatten)]⟩),(12,⟨false,[aA (hsh [[k],l,[k]].flatten)]⟩)] [4] [] rfl (by(repeat' with_reducible first|exact aR|refine bf ?_ ?_|apply And.intro);(iterate 2 all_goals try first|exact(jG _ (by simp) (by simp;omega))|exact(tG _ (by simp;omega)));all_goals first|exact rfl|exact⟨rfl,bA _ (by decide)⟩) ?_);exact ak (ah rfl ⟨rfl,⟨⟩⟩)
theorem bE(k:Int)(l:List Int)(hl:l.length≤1048576):So 94 [aA k, .a (.sl .int l)] [aA (kh k l)]:=by
 refine av X call94 func94 ntmps94 rfl rfl ?_;intro zb;refine aq X [0,1] rfl (aC X [(8,6),(11,6)] [(12,⟨false,[aA (hsh ([k]++l++ [k]))]⟩)] [4] [] rfl (by(repeat' with_reducible first|exact aR|refine bf ?_ ?_|apply And.intro)<;>first|exact(tH _ (by simp;omega))|exact rfl|exact⟨rfl,bA _ (by decide)⟩| (simp only[dN,maxLen,lens];omega)) ?_);exact ak (ah rfl ⟨rfl,⟨⟩⟩)
theorem jX(n:Int):So 131 [aA n] [aA (As n)]:=by
 refine av X call131 func131 ntmps131 rfl rfl ?_;intro zb;refine aq X [0] rfl (aa (aq X [0,4] rfl ?_));refine aj rfl ?_ ?_<;>intro hb0
 ·try simp only[aQ]at hb0
  exact aq X [2] rfl (ak (ah rfl ⟨by rw[As,if_pos hb0],⟨⟩⟩))
 ·try simp only[aQ]at hb0
  exact an (aq X [2] rfl (ak (ah rfl ⟨by rw[As,if_neg (by simpa using hb0)],⟨⟩⟩)))
theorem jm(a b:Int):So 82 [aA a,aA b] [aA (if b>a then b else a)]:=by
 refine av X call82 func82 ntmps82 rfl rfl ?_;intro zb;refine aq X [0,1] rfl (aa (aq X [0,1,7] rfl ?_));refine aj rfl ?_ ?_<;>intro hb0
 ·try simp only[aQ]at hb0
  exact aq X [4] rfl (ak (ah rfl ⟨by rw[if_pos (by omega)],⟨⟩⟩))
 ·try simp only[aQ]at hb0
  exact an (aq X [4] rfl (ak (ah rfl ⟨by rw[if_neg (by omega)],⟨⟩⟩)))
theorem kP(s k:Int):So 275 [aA s,aA k] [aA (cs s k)]:=by
 refine av X call275 func275 ntmps275 rfl rfl ?_;intro zb;refine aq X [0,1] rfl (aC X [] [(9,⟨false,[aA _]⟩)] [5] [] rfl (by(repeat' with_reducible first|exact aR|refine bf ?_ ?_|apply And.intro)<;>first|exact(bD _ _ (by first|assumption|omega| (simp;done)| (simp;omega)))|exact⟨rfl,bA _ (by decide)⟩) ?_);exact aD X [4] rfl (by and_intros<;>first|exact⟨⟩| (intros;omega)) (ak (ah rfl ⟨by rw[cs_eq (dz _ _).1 (dz _ _).2];rfl,⟨⟩⟩))
theorem jo(s n:Int)(h0:0≤n)(h1:n≤400):So 339 [aA s,aA n] [.a (.sl .u8 (stream s n.toNat))]:=by
 refine av X call339 func339 ntmps339 rfl rfl ?_;intro zb;refine aq X [0,1] rfl (aa (aC X [] [(8,⟨false,[aH _]⟩)] [0,1,9] [] rfl (by(with_reducible and_intros)<;>first|exact⟨⟩|exact(aK _ _ _)) ?_));refine aj rfl ?_ ?_<;>intro hb0
 ·try simp only[aQ]at hb0
  omega
 ·try simp only[aQ]at hb0
  refine an (aD X [0,1,5] rfl (by and_intros<;>first|exact⟨⟩|exact rfl) (aa (aq X [0,5,11,12] rfl ?_)));refine au (aE (fun k=>k≤n.toNat) (fun k:Nat=> [(12, .one ((aA k)))]) (fun k=> [(10, .arr .u8 (stream s k))]) (fun k=>n.toNat-k) 0 (fun k=>rfl) (Nat.zero_le _) rfl ?_);intro k hk;have hle:=eU s k;refine aq X [0,5,11,12,13] rfl ?_;refine aa (aj rfl ?_ ?_)<;>intro aV
  ·try simp only[aQ]at aV
   have hs:=B4 s k (by omega);refine an (aa (au (aq X [0,5,6,11,12] rfl (aL X [(23,10)] [(19,⟨false,[aA _]⟩)] [0,5,11,12] [] rfl (by(repeat' with_reducible first|exact aR|refine bf ?_ ?_|apply And.intro)<;>first|exact(kP _ _)| (intros;omega)|exact rfl|exact⟨rfl,bA _ (by decide)⟩|exact(oZ _).1|exact(oZ _).2| (simp only[dN,maxLen,lens];omega)) ?_))));refine bg X [0,5,11,12] rfl ?_;refine⟨k+1,by omega,by omega,?_⟩;rw[bh _ k rfl (by omega),hs];try rfl
  ·try simp only[aQ]at aV
   exact aI (aq X [4] rfl (ak (ah rfl ⟨by rw[show k=n.toNat by omega],⟨⟩⟩)))
theorem mS(l:List UInt8)(hl:l.length≤1048576):So 350 [.a (.sl .u8 l)] [.a (.sl .int (Fz l))]:=by
 refine av X call350 func350 ntmps350 rfl rfl ?_;intro zb;refine aq X [0] rfl (aD X [0,3] rfl (by and_intros<;>first|exact⟨⟩|exact rfl) (aa (aq X [3,9,10,11] rfl ?_)));refine au (aE (fun k=>k≤l.length) (fun k:Nat=> [(11, .one ((aA k)))]) (fun k=> [(8, .arr .int ((l.length:Int)::(l.take k).map (fun c=>(c.toNat:Int))))]) (fun k=>l.length-k) 0 (fun k=>rfl) (Nat.zero_le _) rfl ?_);intro k hk;refine aq X [3,9,10,11,12] rfl ?_;refine aa (aj rfl ?_ ?_)<;>intro hb0
 ·try simp only[aQ]at hb0
  have hs:=J5 l k hb0;refine an (aa (au (aD X [3,5,9,10,11] rfl (by and_intros<;>first|exact⟨⟩| (intros;omega)) (aL X [(19,8)] [] [3,9,10,11] [] rfl (by and_intros<;>first|exact⟨⟩|exact rfl| (simp only[dN,maxLen,lens];omega)) (bg X [3,9,10,11] rfl ?_)))));refine⟨k+1,by omega,by omega,?_⟩;rw[bh _ k rfl (by omega),hs];try rfl
 ·try simp only[aQ]at hb0
  exact aI (aq X [2] rfl (ak (ah rfl ⟨by rw[List.take_of_length_le hb0];rfl,⟨⟩⟩)))
theorem kQ(s k:Int):So 240 [aA s,aA k] [aA (cs s k)]:=by
 refine av X call240 func240 ntmps240 rfl rfl ?_;intro zb;refine aq X [0,1] rfl (aC X [] [(9,⟨false,[aA _]⟩)] [5] [] rfl (by(repeat' with_reducible first|exact aR|refine bf ?_ ?_|apply And.intro)<;>first|exact(bE _ _ (by first|assumption|omega| (simp;done)| (simp;omega)))|exact⟨rfl,bA _ (by decide)⟩) ?_);exact aD X [4] rfl (by and_intros<;>first|exact⟨⟩| (intros;omega)) (ak (ah rfl ⟨by rw[cs_eq (dz _ _).1 (dz _ _).2];rfl,⟨⟩⟩))
theorem jq(s n:Int)(h0:0≤n)(h1:n≤400):So 304 [aA s,aA n] [.a (.sl .u8 (stream s n.toNat))]:=by
 refine av X call304 func304 ntmps304 rfl rfl ?_;intro zb;refine aq X [0,1] rfl (aD X [0,1,5] rfl (by and_intros<;>first|exact⟨⟩|exact rfl) (aa (aq X [0,1,5,6] rfl ?_)));refine au (aE (fun k=>k≤n.toNat) (fun k:Nat=> [(6, .one ((aA k)))]) (fun k=> [(7, .arr .u8 (stream s k))]) (fun k=>n.toNat-k) 0 (fun k=>rfl) (Nat.zero_le _) rfl ?_);intro k hk;have hle:=eU s k;refine aa (aq X [0,1,5,6,14] rfl ?_);refine aj rfl ?_ ?_<;>intro hb0
 ·try simp only[aQ]at hb0
  have hs:=B4 s k (by omega);refine an (aa (au (aL X [(25,7)] [(21,⟨false,[aA _]⟩)] [0,1,5,6] [] rfl (by(repeat' with_reducible first|exact aR|refine bf ?_ ?_|apply And.intro)<;>first|exact(kQ _ _)| (intros;omega)|exact rfl|exact⟨rfl,bA _ (by decide)⟩|exact(oZ _).1|exact(oZ _).2| (simp only[dN,maxLen,lens];omega)) ?_)));refine bg X [0,1,5,6] rfl ?_;refine⟨k+1,by omega,by omega,?_⟩;rw[bh _ k rfl (by omega),hs];try rfl
 ·try simp only[aQ]at hb0
  exact aI (aq X [4] rfl (ak (ah rfl ⟨by rw[show k=n.toNat by omega],⟨⟩⟩)))
theorem mT(l:List UInt8)(hl:l.length≤1048576):So 312 [.a (.sl .u8 l)] [.a (.sl .int (Fz l))]:=by
 refine av X call312 func312 ntmps312 rfl rfl ?_;intro zb;refine aq X [0] rfl (aD X [0,3] rfl (by and_intros<;>first|exact⟨⟩|exact rfl) (aa (aq X [0,3,4] rfl ?_)));refine au (aE (fun k=>k≤l.length) (fun k:Nat=> [(4, .one ((aA k)))]) (fun k=> [(7, .arr .int ((l.length:Int)::(l.take k).map (fun c=>(c.toNat:Int))))]) (fun k=>l.length-k) 0 (fun k=>rfl) (Nat.zero_le _) rfl ?_);intro k hk;refine aa (aq X [0,3,4,11] rfl ?_);refine aj rfl ?_ ?_<;>intro hb0
 ·try simp only[aQ]at hb0
  have hs:=J5 l k hb0;refine an (aa (au (aL X [(21,7)] [] [0,3,4] [] rfl (by and_intros<;>first|exact⟨⟩| (intros;omega)|exact rfl| (simp only[dN,maxLen,lens];omega)) (bg X [0,3,4] rfl ?_))));refine⟨k+1,by omega,by omega,?_⟩;rw[bh _ k rfl (by omega),hs];try rfl
 ·try simp only[aQ]at hb0
  exact aI (aq X [2] rfl (ak (ah rfl ⟨by rw[List.take_of_length_le hb0];rfl,⟨⟩⟩)))
end
section
set_option maxRecDepth 100000
theorem gb(l:List Int)(hl:l.length≤4194304):So 189 [.a (.sl .int l)] [.a (.sl .int l)]:=by
 refine av X call189 func189 ntmps189 rfl rfl ?_;intro zb;refine aq X [0] rfl (aa (aa (J9 X [] [] [0,4] rfl (by trivial) (fun hn1=> ?_) ?_)))
 ·refine aj rfl (fun _=> ?_) (fun hb=>absurd hb (by decide));exact aq X [2] rfl (ak (ah rfl ⟨hn1,⟨⟩⟩))
 ·exact aj rfl (fun hb=>absurd hb (by decide)) (fun _=>(an (aC X [(7,5)] [] [2] [] rfl (by and_intros<;>first|exact⟨⟩|exact rfl| (simp only[dN,maxLen,lens];omega)) (ak (ah rfl ⟨rfl,⟨⟩⟩)))))
theorem b9(l:List UInt8)(hl:l.length≤1048576):So 274 [.a (.sl .u8 l)] [.a (.sl .u8 l)]:=by
 refine av X call274 func274 ntmps274 rfl rfl ?_;intro zb;refine aq X [0] rfl (aa (aa (J9 X [] [] [0,4] rfl (by trivial) (fun hn1=> ?_) ?_)))
 ·refine aj rfl (fun _=> ?_) (fun hb=>absurd hb (by decide));exact aq X [2] rfl (ak (ah rfl ⟨hn1,⟨⟩⟩))
 ·exact aj rfl (fun hb=>absurd hb (by decide)) (fun _=>(an (aC X [(7,5)] [] [2] [] rfl (by and_intros<;>first|exact⟨⟩|exact rfl| (simp only[dN,maxLen,lens];omega)) (ak (ah rfl ⟨rfl,⟨⟩⟩)))))
theorem iY(a b:List UInt8)(ha:a.length≤1048576)(hb:b.length≤1048576):So 348 [.a (.sl .u8 a), .a (.sl .u8 b)] [.a (.sl .u8 (ef a b))]:=by
 refine av X call348 func348 ntmps348 rfl rfl ?_;intro zb;refine aq X [0,1] rfl (aa (aq X [0,1,12] rfl ?_));refine aj rfl ?_ ?_<;>intro hb0
 ·try simp only[aQ]at hb0
  rw[Gr a b];have hle0:a.length≤b.length:=by omega
  obtain⟨p,hp⟩: ∃p,p=b:=⟨_,rfl⟩;obtain⟨q,hq⟩: ∃q,q=a:=⟨_,rfl⟩;subst hp;subst hq;refine bg X [0,1] rfl (aC X [] [(16,⟨true,[.a (.sl .u8 _)]⟩)] [1,5] [] rfl (by(with_reducible and_intros)<;>first|exact⟨⟩|exact(b9 _ (by first|assumption|omega| (simp;done)| (simp;omega)))) (aa (aq X [5,17,18,19] rfl ?_)));refine au (aE (fun k=>k≤q.length) (fun k:Nat=> [(19, .one ((aA k)))]) (fun k=> [(16, .arr .u8 ((ef p q).take k++p.drop k))]) (fun k=>q.length-k) 0 (fun k=>rfl) (Nat.zero_le _) rfl ?_);intro k hk;have hle:=jW (ef p q) p k (by rw[dG];omega) (by omega);refine aq X [5,17,18,19,20] rfl ?_;refine aa (aj rfl ?_ ?_)<;>intro aV
  ·try simp only[aQ]at aV
   have hs:=Kc p q k aV hle0;refine an (aa (au (aD X [5,6,7,17,18,19] rfl (by and_intros<;>first|exact⟨⟩| (intros;omega)) (dy X [5,17,18,19] rfl (by and_intros<;>first|exact⟨⟩| (intros;omega)|exact(oZ _).1|exact(oZ _).2) (bg X [5,17,18,19] rfl ?_)))));refine⟨k+1,by omega,by omega,?_⟩;rw[bh _ k rfl (by omega),hs];try rfl
  ·try simp only[aQ]at aV
   exact aI (aq X [4] rfl (ak (ah rfl ⟨by rw[Ke p q k aV hle0 hk],⟨⟩⟩)))
 ·try simp only[aQ]at hb0
  have hle0:b.length≤a.length:=by omega
  obtain⟨p,hp⟩: ∃p,p=a:=⟨_,rfl⟩;obtain⟨q,hq⟩: ∃q,q=b:=⟨_,rfl⟩;subst hp;subst hq;refine an (aC X [] [(16,⟨true,[.a (.sl .u8 _)]⟩)] [1,5] [] rfl (by(with_reducible and_intros)<;>first|exact⟨⟩|exact(b9 _ (by first|assumption|omega| (simp;done)| (simp;omega)))) (aa (aq X [5,17,18,19] rfl ?_)));refine au (aE (fun k=>k≤q.length) (fun k:Nat=> [(19, .one ((aA k)))]) (fun k=> [(16, .arr .u8 ((ef p q).take k++p.drop k))]) (fun k=>q.length-k) 0 (fun k=>rfl) (Nat.zero_le _) rfl ?_);intro k hk;have hle:=jW (ef p q) p k (by rw[dG];omega) (by omega);refine aq X [5,17,18,19,20] rfl ?_;refine aa (aj rfl ?_ ?_)<;>intro aV
  ·try simp only[aQ]at aV
   have hs:=Kc p q k aV hle0;refine an (aa (au (aD X [5,6,7,17,18,19] rfl (by and_intros<;>first|exact⟨⟩| (intros;omega)) (dy X [5,17,18,19] rfl (by and_intros<;>first|exact⟨⟩| (intros;omega)|exact(oZ _).1|exact(oZ _).2) (bg X [5,17,18,19] rfl ?_)))));refine⟨k+1,by omega,by omega,?_⟩;rw[bh _ k rfl (by omega),hs];try rfl
  ·try simp only[aQ]at aV
   exact aI (aq X [4] rfl (ak (ah rfl ⟨by rw[Ke p q k aV hle0 hk],⟨⟩⟩)))
theorem iZ(a b:List UInt8)(ha:a.length≤1048576)(hb:b.length≤1048576):So 365 [.a (.sl .u8 a), .a (.sl .u8 b)] [.a (.sl .u8 (ef a b))]:=by
 refine av X call365 func365 ntmps365 rfl rfl ?_;intro zb;refine aq X [0,1] rfl (aD X [0,1,5] rfl (by and_intros<;>first|exact⟨⟩|exact rfl) (aa (aq X [0,1,5,6] rfl ?_)));refine au (aE (fun k=>k≤max a.length b.length) (fun k:Nat=> [(6, .one ((aA k)))]) (fun k=> [(8, .arr .u8 ((ef a b).take k))]) (fun k=>max a.length b.length-k) 0 (fun k=>rfl) (Nat.zero_le _) rfl ?_);intro k hk;have hle:=bC (ef a b) k;refine aa (aq X [0,1,5,6,18] rfl ?_);refine aj rfl ?_ ?_<;>intro hb0
 ·try simp only[aQ]at hb0
  refine an (aa (au (aq X [0,1,5,6,7] rfl (aa (aq X [0,1,5,6,7,24] rfl ?_)))));refine aj rfl ?_ ?_<;>intro aV
  ·try simp only[aQ]at aV
   refine dy X [0,1,5,6,7] rfl (by and_intros<;>first|exact⟨⟩| (intros;omega)) (aa (aq X [0,1,5,6,7,32] rfl ?_));refine aj rfl ?_ ?_<;>intro bI
   ·try simp only[aQ]at bI
    have hs:=Zw a b k aV bI;refine dy X [0,1,5,6,7] rfl (by and_intros<;>first|exact⟨⟩| (intros;omega)) (aL X [(42,8)] [] [0,1,5,6] [] rfl (by and_intros<;>first|exact⟨⟩|exact rfl|exact(oZ _).1|exact(oZ _).2| (simp only[dN,maxLen,lens];omega)) (bg X [0,1,5,6] rfl ?_));refine⟨k+1,by omega,by omega,?_⟩;rw[bh _ k rfl (by omega),hs];try rfl
   ·try simp only[aQ]at bI
    have hs:=abO a b k aV bI;refine an (aL X [(42,8)] [] [0,1,5,6] [] rfl (by and_intros<;>first|exact⟨⟩| (intros;omega)|exact rfl|exact(u8n _).2| (simp only[dN,maxLen,lens];omega)) (bg X [0,1,5,6] rfl ?_));refine⟨k+1,by omega,by omega,?_⟩;rw[bh _ k rfl (by omega),hs];try rfl
  ·try simp only[aQ]at aV
   refine an (aa (aq X [0,1,5,6,7,32] rfl ?_));refine aj rfl ?_ ?_<;>intro bI
   ·try simp only[aQ]at bI
    have hs:=abP a b k aV bI;refine dy X [0,1,5,6,7] rfl (by and_intros<;>first|exact⟨⟩| (intros;omega)) (aL X [(42,8)] [] [0,1,5,6] [] rfl (by and_intros<;>first|exact⟨⟩|exact rfl|exact(oZ _).1|exact(oZ _).2| (simp only[dN,maxLen,lens];omega)) (bg X [0,1,5,6] rfl ?_));refine⟨k+1,by omega,by omega,?_⟩;rw[bh _ k rfl (by omega),hs];try rfl
   ·try simp only[aQ]at bI
    omega
 ·try simp only[aQ]at hb0
  exact aI (aq X [4] rfl (ak (ah rfl ⟨by rw[List.take_of_length_le (by rw[dG];omega)],⟨⟩⟩)))
theorem kR(l:List (List UInt8))(hs0:cE List.length l≤1048576):So 285 [.a (.sl (.sl .u8) l)] [.a (.sl (.sl .u8) l)]:=by
 refine av X call285 func285 ntmps285 rfl rfl ?_;intro zb;have ir:l.length≤1048576:=cA hs0;refine aq X [0] rfl (aD X [0,3] rfl (by and_intros<;>first|exact⟨⟩|exact rfl) (aa (aq X [3,7,8,9] rfl ?_)));refine au (aE (fun k=>k≤l.length) (fun k:Nat=> [(9, .one ((aA k)))]) (fun k=> [(6, .arr (.sl .u8) (l.take k))]) (fun k=>l.length-k) 0 (fun k=>rfl) (Nat.zero_le _) rfl ?_);intro k hk;have hle:=bC l k;refine aq X [3,7,8,9,10] rfl ?_;refine aa (aj rfl ?_ ?_)<;>intro hb0
 ·try simp only[aQ]at hb0
  have hs:=bu l k (aG (.sl .u8)) hb0;have hel:=HZ hs0 k hb0;refine an (aa (au (aD X [3,5,7,8,9] rfl (by and_intros<;>first|exact⟨⟩| (intros;omega)) (aL X [(17,6)] [(15,⟨true,[.a (.sl .u8 _)]⟩)] [3,7,8,9] [] rfl (by(with_reducible and_intros)<;>first|exact⟨⟩|exact(b9 _ (by first|assumption|omega| (simp;done)| (simp;omega)))|exact rfl| (simp only[dN,maxLen,lens];omega)) (bg X [3,7,8,9] rfl ?_)))));refine⟨k+1,by omega,by omega,?_⟩;rw[bh _ k rfl (by omega),hs];try rfl
 ·try simp only[aQ]at hb0
  exact aI (aq X [2] rfl (ak (ah rfl ⟨by rw[List.take_of_length_le hb0],⟨⟩⟩)))
theorem oL(l:List (List UInt8))(hs0:cE List.length l≤1048576):So 244 [.a (.sl (.sl .u8) l)] [.a (.sl (.sl .u8) l)]:=by
 refine av X call244 func244 ntmps244 rfl rfl ?_;intro zb;have ir:l.length≤1048576:=cA hs0;refine aq X [0] rfl (aD X [0,3] rfl (by and_intros<;>first|exact⟨⟩|exact rfl) (aa (aq X [0,3,4] rfl ?_)));refine au (aE (fun k=>k≤l.length) (fun k:Nat=> [(4, .one ((aA k)))]) (fun k=> [(5, .arr (.sl .u8) (l.take k))]) (fun k=>l.length-k) 0 (fun k=>rfl) (Nat.zero_le _) rfl ?_);intro k hk;have hle:=bC l k;refine aa (aq X [0,3,4,9] rfl ?_);refine aj rfl ?_ ?_<;>intro hb0
 ·try simp only[aQ]at hb0
  have hs:=bu l k (aG (.sl .u8)) hb0;have hel:=HZ hs0 k hb0;refine an (aa (au (aL X [(18,13),(20,5)] [] [0,3,4] [] rfl (by and_intros<;>first|exact⟨⟩| (intros;omega)|exact rfl| (simp only[dN,maxLen,lens];omega)) (bg X [0,3,4] rfl ?_))));refine⟨k+1,by omega,by omega,?_⟩;rw[bh _ k rfl (by omega),hs];try rfl
 ·try simp only[aQ]at hb0
  exact aI (aq X [2] rfl (ak (ah rfl ⟨by rw[List.take_of_length_le hb0],⟨⟩⟩)))
theorem Ec(s:Int)(l:List UInt8)(hl:l.length≤1048576):So 340 [aA s, .a (.sl .u8 l)] [.a (.sl .u8 (lX s l))]:=by
 refine av X call340 func340 ntmps340 rfl rfl ?_;intro zb;refine aq X [0,1] rfl (aC X [] [(8,⟨true,[.a (.sl .u8 _)]⟩)] [0,5] [] rfl (by(with_reducible and_intros)<;>first|exact⟨⟩|exact(b9 _ (by first|assumption|omega| (simp;done)| (simp;omega)))) (aa (aq X [0,5,10,11] rfl ?_)));refine au (aE (fun k=>k≤l.length) (fun k:Nat=> [(11, .one ((aA k)))]) (fun k=> [(8, .arr .u8 ((lX s l).take k++l.drop k))]) (fun k=>l.length-k) 0 (fun k=>rfl) (Nat.zero_le _) rfl ?_);intro k hk;have hle:=jW (lX s l) l k (iP s l) hk;refine aq X [0,5,10,11,12] rfl ?_;refine aa (aj rfl ?_ ?_)<;>intro hb0
 ·try simp only[aQ]at hb0
  have hs:=Qf s l k hb0;refine an (aa (au (aq X [0,5,6,10,11] rfl (aF X [] [(21,⟨false,[aA _]⟩)] [0,5,10,11] [] 4095 0 MO (by kernel_rfl) rfl (by kernel_rfl) (by(repeat' with_reducible first|exact aR|refine bf ?_ ?_|apply And.intro)<;>first|exact(bD _ _ (by first|assumption|omega| (simp;done)| (simp;omega)))| (intros;omega)|exact⟨rfl,bA _ (by decide)⟩|exact(oZ _).1|exact(oZ _).2) ?_))));refine bg X [0,5,10,11] rfl ?_;refine⟨k+1,by omega,by omega,?_⟩;rw[bh _ k rfl (by omega),hs];try rfl
 ·try simp only[aQ]at hb0
  exact aI (aq X [4] rfl (ak (ah rfl ⟨by rw[mA _ _ _ (iP s l) hb0],⟨⟩⟩)))
theorem Ed(s:Int)(l:List UInt8)(hl:l.length≤1048576):So 399 [aA s, .a (.sl .u8 l)] [.a (.sl .u8 (decr s l))]:=by
 refine av X call399 func399 ntmps399 rfl rfl ?_;intro zb;refine aq X [0,1] rfl (aC X [] [(8,⟨true,[.a (.sl .u8 _)]⟩)] [0,5] [] rfl (by(with_reducible and_intros)<;>first|exact⟨⟩|exact(b9 _ (by first|assumption|omega| (simp;done)| (simp;omega)))) (aa (aq X [0,5,10,11] rfl ?_)));refine au (aE (fun k=>k≤l.length) (fun k:Nat=> [(11, .one ((aA k)))]) (fun k=> [(8, .arr .u8 ((decr s l).take k++l.drop k))]) (fun k=>l.length-k) 0 (fun k=>rfl) (Nat.zero_le _) rfl ?_);intro k hk;have hle:=jW (decr s l) l k (mU s l) hk;refine aq X [0,5,10,11,12] rfl ?_;refine aa (aj rfl ?_ ?_)<;>intro hb0
 ·try simp only[aQ]at hb0
  have hs:=Qh s l k hb0;refine an (aa (au (aq X [0,5,6,10,11] rfl (aF X [] [(21,⟨false,[aA _]⟩)] [0,5,10,11] [] 4095 0 MO (by kernel_rfl) rfl (by kernel_rfl) (by(repeat' with_reducible first|exact aR|refine bf ?_ ?_|apply And.intro)<;>first|exact(bD _ _ (by first|assumption|omega| (simp;done)| (simp;omega)))| (intros;omega)|exact⟨rfl,bA _ (by decide)⟩|exact(oZ _).1|exact(oZ _).2) ?_))));refine bg X [0,5,10,11] rfl ?_;refine⟨k+1,by omega,by omega,?_⟩;rw[bh _ k rfl (by omega),hs];try rfl
 ·try simp only[aQ]at hb0
  exact aI (aq X [4] rfl (ak (ah rfl ⟨by rw[mA _ _ _ (mU s l) hb0],⟨⟩⟩)))
theorem fA(k:Int):So 138 [aA k] [aH (eM k)]:=by
 refine av X call138 func138 ntmps138 rfl rfl ?_;intro zb;exact aq X [0] rfl (aC X [] [(4,⟨false,[aH _]⟩)] [2] [] rfl (by(with_reducible and_intros)<;>first|exact⟨⟩|exact(aK _ _ _)) (ak (ah rfl ⟨rfl,⟨⟩⟩)))
theorem mh(p:Plain):So 338 [.agg (ij p)] [aH (iX p)]:=by
 refine av X call338 func338 ntmps338 rfl rfl ?_;intro zb;exact aq X [1] rfl (aC X [] [(5,⟨false,[aH _]⟩)] [2] [] rfl (by(with_reducible and_intros)<;>first|exact⟨⟩|exact(aK _ _ _)) (ak (ah rfl ⟨by unfold iX;cases inr p.kind 0 3<;>rfl,⟨⟩⟩)))
theorem AU(key c:Int)(l:List UInt8)(hl:l.length≤65536):So 380 [aA key,aA c, .a (.sl .u8 l)] [aA (mV key c l)]:=by
 refine av X call380 func380 ntmps380 rfl rfl ?_;intro zb;refine aq X [0,1,2] rfl (aD X [0,2,7] rfl (by and_intros<;>first|exact⟨⟩|exact rfl) (aa (aq X [0,7,12,13,14] rfl ?_)));refine au (aE (fun k=>k≤l.length) (fun k:Nat=> [(14, .one ((aA k)))]) (fun k=> [(11, .arr .int ([71,c]++(l.take k).map (fun x=>(x.toNat:Int))))]) (fun k=>l.length-k) 0 (fun k=>rfl) (Nat.zero_le _) rfl ?_);intro k hk;refine aq X [0,7,12,13,14,15] rfl ?_;refine aa (aj rfl ?_ ?_)<;>intro hb0
 ·try simp only[aQ]at hb0
  have hs:=Ob l c k hb0;refine an (aa (au (aD X [0,7,9,12,13,14] rfl (by and_intros<;>first|exact⟨⟩| (intros;omega)) (aL X [(22,11)] [] [0,7,12,13,14] [] rfl (by and_intros<;>first|exact⟨⟩|exact rfl| (simp only[dN,maxLen,lens];omega)) (bg X [0,7,12,13,14] rfl ?_)))));refine⟨k+1,by omega,by omega,?_⟩;rw[bh _ k rfl (by omega),hs];try rfl
 ·try simp only[aQ]at hb0
  exact aI (aC X [] [(26,⟨false,[aA _]⟩)] [6] [] rfl (by(with_reducible and_intros)<;>first|exact⟨⟩|exact(bD _ _ (by first|assumption|omega| (simp;done)| (simp;omega)))) (ak (ah rfl ⟨by rw[List.take_of_length_le hb0];rfl,⟨⟩⟩)))
theorem gE(key r d n:Int):So 206 [aA key,aA r,aA d,aA n] [aA (fu key r d n)]:=by
 refine av X call206 func206 ntmps206 rfl rfl ?_;intro zb;refine aq X [0,1,2,3] rfl (aa (aC X [] [(10,⟨false,[aH _]⟩),(14,⟨false,[aH _]⟩)] [0,1,2,3,16] [] rfl (by(with_reducible and_intros)<;>first|exact⟨⟩|exact(aK _ _ _)|exact fun _=>(aK _ _ _)) ?_));refine aj rfl ?_ ?_<;>intro hb0
 ·try simp only[aQ]at hb0
  exact aq X [8] rfl (ak (ah rfl ⟨by rw[fu,if_neg (by omega)],⟨⟩⟩))
 ·try simp only[aQ]at hb0
  have hcs:=tD (kh key [79,r,d]) 0;refine an (aC X [] [(21,⟨false,[aA _]⟩),(22,⟨false,[aA _]⟩)] [8] [] rfl (by(repeat' with_reducible first|exact aR|refine bf ?_ ?_|apply And.intro);(iterate 2 all_goals try first|exact(bD _ _ (by first|assumption|omega| (simp;done)| (simp;omega)))|exact(kP _ _));all_goals first| (intros;omega)|exact⟨rfl,bA _ (by decide)⟩) ?_);exact ak (ah rfl ⟨by rw[fu,if_pos (by omega),ew hcs.1],⟨⟩⟩)
theorem Cz(s r n:Int):So 367 [aA s,aA r,aA n] [aA (Cy s r n)]:=by
 refine av X call367 func367 ntmps367 rfl rfl ?_;intro zb;refine aq X [0,1,2] rfl (aa (aC X [] [(8,⟨false,[aH _]⟩)] [0,1,2,9] [] rfl (by(with_reducible and_intros)<;>first|exact⟨⟩|exact(aK _ _ _)) ?_));refine aj rfl ?_ ?_<;>intro hb0
 ·try simp only[aQ]at hb0
  exact aq X [6] rfl (ak (ah rfl ⟨by rw[Cy,if_neg (by omega)],⟨⟩⟩))
 ·try simp only[aQ]at hb0
  have hcs:=tD (kh s [157,r]) 0;refine an (aC X [] [(13,⟨false,[aA _]⟩),(14,⟨false,[aA _]⟩)] [6] [] rfl (by(repeat' with_reducible first|exact aR|refine bf ?_ ?_|apply And.intro);(iterate 2 all_goals try first|exact(bD _ _ (by first|assumption|omega| (simp;done)| (simp;omega)))|exact(kP _ _));all_goals first| (intros;omega)|exact⟨rfl,bA _ (by decide)⟩) ?_);exact ak (ah rfl ⟨by rw[Cy,if_pos (by omega),ew hcs.1],⟨⟩⟩)
theorem AV(s:Int):So 368 [aA s] [.a (.sl .u8 (cover s))]:=by
 refine av X call368 func368 ntmps368 rfl rfl ?_;intro zb;refine aq X [0] rfl (aC X [] [(5,⟨false,[aA _]⟩),(6,⟨true,[.a (.sl .u8 _)]⟩)] [2] [] rfl (by(repeat' with_reducible first|exact aR|refine bf ?_ ?_|apply And.intro);(iterate 2 all_goals try first|exact(bD _ _ (by first|assumption|omega| (simp;done)| (simp;omega)))|exact(jo _ _ (by first|assumption|omega| (simp;done)| (simp;omega)) (by first|assumption|omega| (simp;done)| (simp;omega))));all_goals first|exact⟨rfl,bA _ (by decide)⟩) ?_);exact ak (ah rfl ⟨rfl,⟨⟩⟩)
theorem Ee(s:Int)(l:List UInt8)(hl:l.length≤1048576):So 305 [aA s, .a (.sl .u8 l)] [.a (.sl .u8 (lX s l))]:=by
 refine av X call305 func305 ntmps305 rfl rfl ?_;intro zb;refine aq X [0,1] rfl (aD X [0,1,5] rfl (by and_intros<;>first|exact⟨⟩|exact rfl) (aa (aq X [0,1,5,6] rfl ?_)));refine au (aE (fun k=>k≤l.length) (fun k:Nat=> [(6, .one ((aA k)))]) (fun k=> [(7, .arr .u8 ((lX s l).take k))]) (fun k=>l.length-k) 0 (fun k=>rfl) (Nat.zero_le _) rfl ?_);intro k hk;have hle:=bC (lX s l) k;refine aa (aq X [0,1,5,6,11] rfl ?_);refine aj rfl ?_ ?_<;>intro hb0
 ·try simp only[aQ]at hb0
  have hs:=Qg s l k hb0;refine an (aa (au (aF X [(29,7)] [(23,⟨false,[aA _]⟩)] [0,1,5,6] [] 32767 0 MO (by kernel_rfl) rfl (by kernel_rfl) (by(repeat' with_reducible first|exact aR|refine bf ?_ ?_|apply And.intro)<;>first|exact(bE _ _ (by first|assumption|omega| (simp;done)| (simp;omega)))| (intros;omega)|exact rfl|exact⟨rfl,bA _ (by decide)⟩|exact(oZ _).1|exact(oZ _).2| (simp only[dN,maxLen,lens];omega)) ?_)));refine bg X [0,1,5,6] rfl ?_;refine⟨k+1,by omega,by omega,?_⟩;rw[bh _ k rfl (by omega),hs];try rfl
 ·try simp only[aQ]at hb0
  exact aI (aq X [4] rfl (ak (ah rfl ⟨by rw[List.take_of_length_le (by rw[iP];exact hb0)],⟨⟩⟩)))
theorem Ef(s:Int)(l:List UInt8)(hl:l.length≤1048576):So 410 [aA s, .a (.sl .u8 l)] [.a (.sl .u8 (decr s l))]:=by
 refine av X call410 func410 ntmps410 rfl rfl ?_;intro zb;refine aq X [0,1] rfl (aD X [0,1,5] rfl (by and_intros<;>first|exact⟨⟩|exact rfl) (aa (aq X [0,1,5,6] rfl ?_)));refine au (aE (fun k=>k≤l.length) (fun k:Nat=> [(6, .one ((aA k)))]) (fun k=> [(7, .arr .u8 ((decr s l).take k))]) (fun k=>l.length-k) 0 (fun k=>rfl) (Nat.zero_le _) rfl ?_);intro k hk;have hle:=bC (decr s l) k;refine aa (aq X [0,1,5,6,11] rfl ?_);refine aj rfl ?_ ?_<;>intro hb0
 ·try simp only[aQ]at hb0
  have hs:=Qi s l k hb0;refine an (aa (au (aF X [(29,7)] [(23,⟨false,[aA _]⟩),(26,⟨false,[aA _]⟩)] [0,1,5,6] [] 32767 0 MO (by kernel_rfl) rfl (by kernel_rfl) (by(repeat' with_reducible first|exact aR|refine bf ?_ ?_|apply And.intro);(iterate 2 all_goals try first|exact(bE _ _ (by first|assumption|omega| (simp;done)| (simp;omega)))|exact(Eb _ _ (by first|assumption|omega| (simp;done)| (simp;omega)) (by first|assumption|omega| (simp;done)| (simp;omega))));all_goals first| (intros;omega)|exact rfl|exact⟨rfl,bA _ (by decide)⟩|exact(oZ _).1|exact(oZ _).2| (simp only[dN,maxLen,lens];omega)) ?_)));refine bg X [0,1,5,6] rfl ?_;refine⟨k+1,by omega,by omega,?_⟩;rw[bh _ k rfl (by omega),hs];try rfl
 ·try simp only[aQ]at hb0
  exact aI (aq X [4] rfl (ak (ah rfl ⟨by rw[List.take_of_length_le (by rw[mU];exact hb0)],⟨⟩⟩)))
theorem gF(k:Int):So 102 [aA k] [aH (eM k)]:=by
 refine av X call102 func102 ntmps102 rfl rfl ?_;intro zb;exact aq X [0] rfl (aC X [] [(4,⟨false,[aH _]⟩)] [2] [] rfl (by(with_reducible and_intros)<;>first|exact⟨⟩|exact(aP _ _ _)) (ak (ah rfl ⟨rfl,⟨⟩⟩)))
theorem vT(p:Plain):So 303 [.agg (ij p)] [aH (iX p)]:=by
 refine av X call303 func303 ntmps303 rfl rfl ?_;intro zb;exact aq X [1] rfl (aC X [] [(5,⟨false,[aH _]⟩)] [2] [] rfl (by(with_reducible and_intros)<;>first|exact⟨⟩|exact(aP _ _ _)) (ak (ah rfl ⟨by unfold iX;cases inr p.kind 0 3<;>rfl,⟨⟩⟩)))
theorem o9(key c:Int)(l:List UInt8)(hl:l.length≤65536):So 307 [aA key,aA c, .a (.sl .u8 l)] [aA (mV key c l)]:=by
 refine av X call307 func307 ntmps307 rfl rfl ?_;intro zb;refine aq X [0,1,2] rfl (aD X [0,2,7] rfl (by and_intros<;>first|exact⟨⟩|exact rfl) (aa (aq X [0,2,7,8] rfl ?_)));refine au (aE (fun k=>k≤l.length) (fun k:Nat=> [(8, .one ((aA k)))]) (fun k=> [(10, .arr .int ([71,c]++(l.take k).map (fun x=>(x.toNat:Int))))]) (fun k=>l.length-k) 0 (fun k=>rfl) (Nat.zero_le _) rfl ?_);intro k hk;refine aa (aq X [0,2,7,8,14] rfl ?_);refine aj rfl ?_ ?_<;>intro hb0
 ·try simp only[aQ]at hb0
  have hs:=Ob l c k hb0;refine an (aa (au (aL X [(24,10)] [] [0,2,7,8] [] rfl (by and_intros<;>first|exact⟨⟩| (intros;omega)|exact rfl| (simp only[dN,maxLen,lens];omega)) (bg X [0,2,7,8] rfl ?_))));refine⟨k+1,by omega,by omega,?_⟩;rw[bh _ k rfl (by omega),hs];try rfl
 ·try simp only[aQ]at hb0
  exact aI (aC X [] [(27,⟨false,[aA _]⟩)] [6] [] rfl (by(with_reducible and_intros)<;>first|exact⟨⟩|exact(bE _ _ (by first|assumption|omega| (simp;done)| (simp;omega)))) (ak (ah rfl ⟨by rw[List.take_of_length_le hb0];rfl,⟨⟩⟩)))
theorem gG(key r d n:Int):So 158 [aA key,aA r,aA d,aA n] [aA (fu key r d n)]:=by
 refine av X call158 func158 ntmps158 rfl rfl ?_;intro zb;refine aq X [0,1,2,3] rfl (aa (aC X [] [(10,⟨false,[aH _]⟩),(14,⟨false,[aH _]⟩)] [0,1,2,3,16] [] rfl (by(with_reducible and_intros)<;>first|exact⟨⟩|exact(aP _ _ _)|exact fun _=>(aP _ _ _)) ?_));refine aj rfl ?_ ?_<;>intro hb0
 ·try simp only[aQ]at hb0
  exact aq X [8] rfl (ak (ah rfl ⟨by rw[fu,if_neg (by omega)],⟨⟩⟩))
 ·try simp only[aQ]at hb0
  have hcs:=tD (kh key [79,r,d]) 0;refine an (aC X [] [(21,⟨false,[aA _]⟩),(22,⟨false,[aA _]⟩)] [8] [] rfl (by(repeat' with_reducible first|exact aR|refine bf ?_ ?_|apply And.intro);(iterate 2 all_goals try first|exact(bE _ _ (by first|assumption|omega| (simp;done)| (simp;omega)))|exact(kQ _ _));all_goals first| (intros;omega)|exact⟨rfl,bA _ (by decide)⟩) ?_);exact ak (ah rfl ⟨by rw[fu,if_pos (by omega),ew hcs.1],⟨⟩⟩)
theorem CA(s r n:Int):So 402 [aA s,aA r,aA n] [aA (Cy s r n)]:=by
 refine av X call402 func402 ntmps402 rfl rfl ?_;intro zb;refine aq X [0,1,2] rfl (aa (aC X [] [(8,⟨false,[aH _]⟩)] [0,1,2,9] [] rfl (by(with_reducible and_intros)<;>first|exact⟨⟩|exact(aP _ _ _)) ?_));refine aj rfl ?_ ?_<;>intro hb0
 ·try simp only[aQ]at hb0
  exact aq X [6] rfl (ak (ah rfl ⟨by rw[Cy,if_neg (by omega)],⟨⟩⟩))
 ·try simp only[aQ]at hb0
  have hcs:=tD (kh s [157,r]) 0;refine an (aC X [] [(13,⟨false,[aA _]⟩),(14,⟨false,[aA _]⟩)] [6] [] rfl (by(repeat' with_reducible first|exact aR|refine bf ?_ ?_|apply And.intro);(iterate 2 all_goals try first|exact(bE _ _ (by first|assumption|omega| (simp;done)| (simp;omega)))|exact(kQ _ _));all_goals first| (intros;omega)|exact⟨rfl,bA _ (by decide)⟩) ?_);exact ak (ah rfl ⟨by rw[Cy,if_pos (by omega),ew hcs.1],⟨⟩⟩)
theorem AW(s:Int):So 403 [aA s] [.a (.sl .u8 (cover s))]:=by
 refine av X call403 func403 ntmps403 rfl rfl ?_;intro zb;refine aq X [0] rfl (aC X [] [(5,⟨false,[aA _]⟩),(6,⟨true,[.a (.sl .u8 _)]⟩)] [2] [] rfl (by(repeat' with_reducible first|exact aR|refine bf ?_ ?_|apply And.intro);(iterate 2 all_goals try first|exact(bE _ _ (by first|assumption|omega| (simp;done)| (simp;omega)))|exact(jq _ _ (by first|assumption|omega| (simp;done)| (simp;omega)) (by first|assumption|omega| (simp;done)| (simp;omega))));all_goals first|exact⟨rfl,bA _ (by decide)⟩) ?_);exact ak (ah rfl ⟨rfl,⟨⟩⟩)
theorem tJ(k c:Int):So 341 [aA k,aA c] [aA (mW k c)]:=by
 refine av X call341 func341 ntmps341 rfl rfl ?_;intro zb;refine aq X [0,1] rfl (aC X [] [(8,⟨false,[aA _]⟩),(9,⟨false,[aA _]⟩)] [4] [] rfl (by(repeat' with_reducible first|exact aR|refine bf ?_ ?_|apply And.intro);(iterate 2 all_goals try first|exact(bD _ _ (by first|assumption|omega| (simp;done)| (simp;omega)))|exact(jX _));all_goals first|exact⟨rfl,bA _ (by decide)⟩) ?_);exact ak (ah rfl ⟨rfl,⟨⟩⟩)
theorem iG(k c:Int):So 278 [aA k,aA c] [aA (qH k c)]:=by
 refine av X call278 func278 ntmps278 rfl rfl ?_;intro zb;refine aq X [0,1] rfl (aC X [] [(8,⟨false,[aA _]⟩),(9,⟨false,[aA _]⟩)] [4] [] rfl (by(repeat' with_reducible first|exact aR|refine bf ?_ ?_|apply And.intro);(iterate 2 all_goals try first|exact(bD _ _ (by first|assumption|omega| (simp;done)| (simp;omega)))|exact(jX _));all_goals first|exact⟨rfl,bA _ (by decide)⟩) ?_);exact ak (ah rfl ⟨rfl,⟨⟩⟩)
theorem pg(k c:Int):So 306 [aA k,aA c] [aA (mW k c)]:=by
 refine av X call306 func306 ntmps306 rfl rfl ?_;intro zb;refine aq X [0,1] rfl (aC X [] [(8,⟨false,[aA _]⟩),(9,⟨false,[aA _]⟩)] [4] [] rfl (by(repeat' with_reducible first|exact aR|refine bf ?_ ?_|apply And.intro);(iterate 2 all_goals try first|exact(bE _ _ (by first|assumption|omega| (simp;done)| (simp;omega)))|exact(jm _ _));all_goals first|exact⟨rfl,bA _ (by decide)⟩) ?_);exact ak (ah rfl ⟨by rw[C6 (dz _ _).1];rfl,⟨⟩⟩)
theorem iH(k c:Int):So 242 [aA k,aA c] [aA (qH k c)]:=by
 refine av X call242 func242 ntmps242 rfl rfl ?_;intro zb;refine aq X [0,1] rfl (aC X [] [(8,⟨false,[aA _]⟩),(9,⟨false,[aA _]⟩)] [4] [] rfl (by(repeat' with_reducible first|exact aR|refine bf ?_ ?_|apply And.intro);(iterate 2 all_goals try first|exact(bE _ _ (by first|assumption|omega| (simp;done)| (simp;omega)))|exact(jm _ _));all_goals first|exact⟨rfl,bA _ (by decide)⟩) ?_);exact ak (ah rfl ⟨by rw[C6 (dz _ _).1];rfl,⟨⟩⟩)
theorem nX(k c:Int)(l:List UInt8)(hl:l.length≤65536):So 342 [aA k,aA c, .a (.sl .u8 l)] [.a (.sl .u8 (four (mV k c l)))]:=by
 refine av X call342 func342 ntmps342 rfl rfl ?_;intro zb;exact aq X [0,1,2] rfl (aC X [] [(11,⟨false,[aA _]⟩)] [7] [] rfl (by(with_reducible and_intros)<;>first|exact⟨⟩|exact(AU _ _ _ (by first|assumption|omega| (simp;done)| (simp;omega)))) (aD X [6] rfl (by and_intros<;>first|exact⟨⟩| (intros;omega)|exact rfl|exact(oZ _).1|exact(oZ _).2) (ak (ah rfl ⟨Oc _,⟨⟩⟩))))
end
section
set_option maxRecDepth 100000
theorem lY(l:List (List UInt8))(f:FuncId)(p:(List UInt8)→Bool)(hf: ∀b,So f [.a (.sl .u8 b)] [aH (p b)]):So 345 [.a (.sl (.sl .u8) l), .a (.lit (.func (.func f) #[] #[]))] [aA (fidx p l)]:=by
 refine av X call345 func345 ntmps345 rfl rfl ?_;intro zb;refine ct 0 rfl (fun ir=>(aq X [0,1] rfl (aa (aq X [0,1,7,8] rfl ?_))));refine au (aE (fun k=>k≤l.length∧(l.take k).any p=false) (fun k:Nat=> [(8, .one ((aA k)))]) (fun k=> []) (fun k=>l.length-k) 0 (fun k=>rfl) ⟨Nat.zero_le _,rfl⟩ rfl ?_);rintro k ⟨hk,hall⟩;refine aq X [0,1,7,8,9] rfl ?_;refine aa (aj rfl ?_ ?_)<;>intro hb0
 ·try simp only[aQ]at hb0
  refine an (aa (au (aq X [0,1,5,7,8] rfl (aC X [] [(16,⟨false,[aH (p (l.getD k (aG (.sl .u8))))]⟩)] [0,1,5,7,8,16] [] rfl (by(with_reducible and_intros)<;>first|exact⟨⟩|exact(hf _)| (intros;omega)) ?_))));refine aj rfl ?_ ?_<;>intro aV
  ·exact aq X [4] rfl (ak (ah rfl ⟨by rw[tM (aG (.sl .u8)) hb0 hall aV],⟨⟩⟩))
  ·refine an (bg X [0,1,7,8] rfl ?_);refine⟨k+1,⟨by omega,qI (aG (.sl .u8)) hb0 hall aV⟩,by omega,?_⟩;rw[bh _ k rfl (by omega)];try rfl
 ·try simp only[aQ]at hb0
  exact aI (aq X [4] rfl (ak (ah rfl ⟨by rw[AX (by rw[←hall,List.take_of_length_le hb0])],⟨⟩⟩)))
theorem dU(l:List (List UInt8))(f:FuncId)(p:(List UInt8)→Bool)(hf: ∀b,So f [.a (.sl .u8 b)] [aH (p b)]):So 286 [.a (.sl (.sl .u8) l), .a (.lit (.func (.func f) #[] #[]))] [aH (l.any p)]:=by
 refine av X call286 func286 ntmps286 rfl rfl ?_;intro zb;exact aq X [0,1] rfl (aC X [] [(7,⟨false,[aA (fidx p l)]⟩)] [4] [] rfl (by(with_reducible and_intros)<;>first|exact⟨⟩|exact(lY l f p hf)) (ak (ah rfl ⟨congrArg Value.bool (H6 p l),⟨⟩⟩)))
theorem mY(l:List Int)(f:FuncId)(p:Int→Bool)(hf: ∀b,So f [aA b] [aH (p b)]):So 381 [.a (.sl .int l), .a (.lit (.func (.func f) #[] #[]))] [aA (fidx p l)]:=by
 refine av X call381 func381 ntmps381 rfl rfl ?_;intro zb;refine ct 0 rfl (fun ir=>(aq X [0,1] rfl (aa (aq X [0,1,7,8] rfl ?_))));refine au (aE (fun k=>k≤l.length∧(l.take k).any p=false) (fun k:Nat=> [(8, .one ((aA k)))]) (fun k=> []) (fun k=>l.length-k) 0 (fun k=>rfl) ⟨Nat.zero_le _,rfl⟩ rfl ?_);rintro k ⟨hk,hall⟩;refine aq X [0,1,7,8,9] rfl ?_;refine aa (aj rfl ?_ ?_)<;>intro hb0
 ·try simp only[aQ]at hb0
  refine an (aa (au (aq X [0,1,5,7,8] rfl (aC X [] [(16,⟨false,[aH (p (l.getD k (aG .int)))]⟩)] [0,1,5,7,8,16] [] rfl (by(with_reducible and_intros)<;>first|exact⟨⟩|exact(hf _)| (intros;omega)) ?_))));refine aj rfl ?_ ?_<;>intro aV
  ·exact aq X [4] rfl (ak (ah rfl ⟨by rw[tM (aG .int) hb0 hall aV],⟨⟩⟩))
  ·refine an (bg X [0,1,7,8] rfl ?_);refine⟨k+1,⟨by omega,qI (aG .int) hb0 hall aV⟩,by omega,?_⟩;rw[bh _ k rfl (by omega)];try rfl
 ·try simp only[aQ]at hb0
  exact aI (aq X [4] rfl (ak (ah rfl ⟨by rw[AX (by rw[←hall,List.take_of_length_le hb0])],⟨⟩⟩)))
theorem lI(l:List Int)(f:FuncId)(p:Int→Bool)(hf: ∀b,So f [aA b] [aH (p b)]):So 346 [.a (.sl .int l), .a (.lit (.func (.func f) #[] #[]))] [aH (l.any p)]:=by
 refine av X call346 func346 ntmps346 rfl rfl ?_;intro zb;exact aq X [0,1] rfl (aC X [] [(7,⟨false,[aA (fidx p l)]⟩)] [4] [] rfl (by(with_reducible and_intros)<;>first|exact⟨⟩|exact(mY l f p hf)) (ak (ah rfl ⟨congrArg Value.bool (H6 p l),⟨⟩⟩)))
theorem oN(b:List UInt8):So 287 [.a (.sl .u8 b)] [aH (!decide ((b.length:Int)=24))]:=by
 refine av X call287 func287 ntmps287 rfl rfl ?_;intro zb;exact aq X [0] rfl (aq X [2] rfl (ak (ah rfl ⟨(congrArg Value.bool (by simp only[aO]<;>first|rfl|ac_rfl)),⟨⟩⟩)))
theorem dc(d:DB):So 220 [.agg (aY d)] [aH (cL d)]:=by
 refine av X call220 func220 ntmps220 rfl rfl ?_;intro zb;exact aq X [1] rfl (aC X [] [(10,⟨false,[aH (d.rows.any fun b=> !decide ((b.length:Int)=24))]⟩)] [2] [] rfl (by(with_reducible and_intros)<;>first|exact⟨⟩|exact fun _=>(dU _ _ _ oN)) (ak (ah rfl ⟨by unfold cL;rw[tN];by_cases h:(d.rows.length:Int)≤64<;>simp[h],⟨⟩⟩)))
theorem cO(d:DB):So 169 [.agg (aY d)] [aH (cL d)]:=by
 refine av X call169 func169 ntmps169 rfl rfl ?_;intro zb;refine bl 0 0 rfl rfl (fun ir=>(aq X [1] rfl (aa (aq X [1,3] rfl ?_))));refine au (aE (fun k=>k≤d.rows.length∧(d.rows.take k).all (fun r=>decide ((r.length:Int)=24))=true) (fun k:Nat=> [(3, .one ((aA k)))]) (fun k=> []) (fun k=>d.rows.length-k) 0 (fun k=>rfl) ⟨Nat.zero_le _,rfl⟩ rfl ?_);rintro k ⟨hk,hall⟩;refine aa (aq X [1,3,8] rfl ?_);refine aj rfl ?_ ?_<;>intro hb0
 ·try simp only[aQ]at hb0
  refine an (aa (au (aD X [1,3,17] rfl (by and_intros<;>first|exact⟨⟩| (intros;omega)) ?_)));refine aj rfl ?_ ?_<;>intro aV
  ·try simp only[aQ]at aV
   exact aq X [2] rfl (ak (ah rfl ⟨by unfold cL;rw[Ea _ _ (aG (.sl .u8)) k hb0 (by simpa using aV)];simp,⟨⟩⟩))
  ·try simp only[aQ]at aV
   refine an (bg X [1,3] rfl ?_);refine⟨k+1,⟨by omega,by rw[tF _ _ _ (aG (.sl .u8)) hb0,hall];simpa using aV⟩,by omega,?_⟩;rw[bh _ k rfl (by omega)];try rfl
 ·try simp only[aQ]at hb0
  exact aI (aq X [2] rfl (ak (ah rfl ⟨by rw[List.take_of_length_le hb0]at hall;unfold cL;rw[hall];simp,⟨⟩⟩)))
theorem kS(a:gZ):So 137 [.agg (cV a)] [aA (dr a)]:=by
 refine av X call137 func137 ntmps137 rfl rfl ?_;intro zb;refine bl 0 1 rfl rfl (fun ir=>(aq X [1] rfl (aa (aq X [1,6] rfl ?_))));refine aj rfl ?_ ?_<;>intro hb0
 ·try simp only[aQ]at hb0
  exact aq X [2] rfl (ak (ah rfl ⟨by rw[dr,if_pos (by omega)],⟨⟩⟩))
 ·try simp only[aQ]at hb0
  exact an (aD X [2] rfl (by and_intros<;>first|exact⟨⟩| ((try simp only[aQ]at*);(simp(disch:=omega) only[bO]);omega)) (ak (ah rfl ⟨by rw[dr,if_neg (by omega),bO (by omega)];congr 4;omega,⟨⟩⟩)))
theorem kU(a:gZ):So 101 [.agg (cV a)] [aA (dr a)]:=by
 refine av X call101 func101 ntmps101 rfl rfl ?_;intro zb;refine bl 0 1 rfl rfl (fun ir=>(aq X [1] rfl (aa (aq X [1,6] rfl ?_))));refine aj rfl ?_ ?_<;>intro hb0
 ·try simp only[aQ]at hb0
  exact aq X [2] rfl (ak (ah rfl ⟨by rw[dr,if_pos (by omega)],⟨⟩⟩))
 ·try simp only[aQ]at hb0
  exact an (aD X [2] rfl (by and_intros<;>first|exact⟨⟩| ((try simp only[aQ]at*);(simp(disch:=omega) only[bO]);omega)) (ak (ah rfl ⟨by rw[dr,if_neg (by omega),bO (by omega)];congr 4;omega,⟨⟩⟩)))
theorem cW(s:bp):So 139 [.agg (bS s)] [aH (cj s)]:=by
 refine av X call139 func139 ntmps139 rfl rfl ?_;intro zb;refine bl 0 3 rfl rfl (fun ir=>(aq X [1] rfl (aa (aC X [] [(7,⟨false,[aH (inr s.id 0 3)]⟩),(12,⟨false,[aH (inr s.rows 1 64)]⟩),(18,⟨false,[aH (inr s.behavior 0 3)]⟩),(24,⟨false,[aH (inr s.round 0 100000)]⟩)] [1,32] [] rfl (by(with_reducible and_intros);(iterate 4 all_goals try first|exact⟨⟩|exact(aK s.id 0 3)|exact fun _=>(aK s.rows 1 64)|exact fun _=>(aK s.behavior 0 3)|exact fun _=>(aK s.round 0 100000))) ?_))));refine aj rfl ?_ ?_<;>intro hb0
 ·exact aq X [2] rfl (ak (ah rfl ⟨by rw[show cj s=false from abQ hb0 (by simp only[tL,aO]<;>first|rfl|ac_rfl)],⟨⟩⟩))
 ·have hh:tL s=true:=bF hb0 (by simp only[tL,aO]<;>first|rfl|ac_rfl);refine an (aa (aq X [1,34,35,36] rfl ?_));refine au (aE (fun k=>k≤s.received.length∧(List.range k).all (mX s.rows s.received)=true) (fun k:Nat=> [(36, .one ((aA k)))]) (fun k=> []) (fun k=>s.received.length-k) 0 (fun k=>rfl) ⟨Nat.zero_le _,rfl⟩ rfl ?_);rintro k ⟨hk,hall⟩;have hw:(IntKind.i64.wrap ((k:Int)-1)).toNat=k-1:=by rw[bO (by omega)];omega
  refine aq X [1,34,35,36,37] rfl ?_;refine aa (aj rfl ?_ ?_)<;>intro aV
  ·try simp only[aQ]at aV
   refine an (aa (au (aD X [1,3,4,34,35,36] rfl (by and_intros<;>first|exact⟨⟩| (intros;omega)) (aa (aF X [] [(43,⟨false,[aH (inr ((s.received.getD k (aG .aT)).client) 0 7)]⟩),(64,⟨false,[aH (cL ((s.received.getD k (aG .aT)).share))]⟩)] [1,34,35,36,75] [] 34359738367 0 MO (by kernel_rfl) rfl (by kernel_rfl) (by(with_reducible and_intros);(iterate 2 all_goals try first|exact⟨⟩|exact(aK ((s.received.getD k (aG .aT)).client) 0 7)|exact fun _=>(dc ((s.received.getD k (aG .aT)).share)));all_goals first| ((intro h1;first| (intro h2;first| (intro h3;refine And.intro ?_ ?_)|refine And.intro ?_ ?_)|refine And.intro ?_ ?_)<;>first|omega| ((try simp only[aQ]at*);(try simp(disch:=omega) only[bO]);omega))) ?_)))));refine aj rfl ?_ ?_<;>intro bI
   ·have hk2:mX s.rows s.received k=false:=bH bI (by simp only[hw,mX,aO]<;>first|rfl|ac_rfl);exact aq X [2] rfl (ak (ah rfl ⟨by rw[show cj s=false by unfold cj;rw[iQ aV hk2];simp],⟨⟩⟩))
   ·have hk2:mX s.rows s.received k=true:=bF bI (by simp only[hw,mX,aO]<;>first|rfl|ac_rfl);refine an (bg X [1,34,35,36] rfl ?_);refine⟨k+1,⟨by omega,gx hall hk2⟩,by omega,?_⟩;rw[bh _ k rfl (by omega)];try rfl
  ·try simp only[aQ]at aV
   have lJ:(List.range s.received.length).all (mX s.rows s.received)=true:=by rw[show s.received.length=k by omega];exact hall
   exact aI (aq X [2] rfl (ak (ah rfl ⟨by rw[show cj s=true by unfold cj;rw[hh,lJ];rfl],⟨⟩⟩)))
theorem kC(a:gZ):So 136 [.agg (cV a)] [aH (eV a)]:=by
 refine av X call136 func136 ntmps136 rfl rfl ?_;intro zb;refine bl 0 1 rfl rfl (fun ir=>(aq X [1] rfl (aa (aq X [1,6,7,8] rfl ?_))));refine au (aE (fun k=>k≤a.rounds.length∧(List.range k).all (oM a.rows a.rounds)=true) (fun k:Nat=> [(8, .one ((aA k)))]) (fun k=> []) (fun k=>a.rounds.length-k) 0 (fun k=>rfl) ⟨Nat.zero_le _,rfl⟩ rfl ?_);rintro k ⟨hk,hall⟩;have hw:(IntKind.i64.wrap ((k:Int)-1)).toNat=k-1:=by rw[bO (by omega)];omega
 refine aq X [1,6,7,8,9] rfl ?_;refine aa (aj rfl ?_ ?_)<;>intro hb0
 ·try simp only[aQ]at hb0
  refine an (aa (au (aD X [1,3,4,6,7,8] rfl (by and_intros<;>first|exact⟨⟩| (intros;omega)) (aa ?_))));have t1:=(aK ((a.rounds.getD k (aG .aJ)).round) 0 100000);refine aF X [] [(15,⟨false,bq t1⟩),(36,⟨false,[aH (cL ((a.rounds.getD k (aG .aJ)).db))]⟩)] [1,6,7,8,47] [] 34359738367 0 MO (by kernel_rfl) rfl (by kernel_rfl) (by(with_reducible and_intros);(iterate 2 all_goals try first|exact⟨⟩|exact t1|exact fun _=>(dc ((a.rounds.getD k (aG .aJ)).db)));all_goals first| ((intro h1;first| (intro h2;first| (intro h3;refine And.intro ?_ ?_)|refine And.intro ?_ ?_)|refine And.intro ?_ ?_)<;>first|omega| ((try simp only[aQ]at*);(try simp(disch:=omega) only[bO]);omega))) ?_;refine aj rfl ?_ ?_<;>intro aV
  ·have hk2:oM a.rows a.rounds k=false:=bH aV (by simp only[hw,oM,aO]<;>first|rfl|ac_rfl);exact aq X [2] rfl (ak (ah rfl ⟨by rw[show eV a=false by unfold eV;rw[iQ hb0 hk2];simp],⟨⟩⟩))
  ·have hk2:oM a.rows a.rounds k=true:=bF aV (by simp only[hw,oM,aO]<;>first|rfl|ac_rfl);refine an (bg X [1,6,7,8] rfl ?_);refine⟨k+1,⟨by omega,gx hall hk2⟩,by omega,?_⟩;rw[bh _ k rfl (by omega)];try rfl
 ·try simp only[aQ]at hb0
  have lJ:(List.range a.rounds.length).all (oM a.rows a.rounds)=true:=by rw[show a.rounds.length=k by omega];exact hall
  exact aI (aC X [] [(51,⟨false,[aH (inr a.rows 1 64)]⟩)] [2] [] rfl (by(with_reducible and_intros)<;>first|exact⟨⟩|exact(aK a.rows 1 64)) (ak (ah rfl ⟨(congrArg Value.bool (by simp only[eV,Eg,lJ,aO]<;>first|rfl|ac_rfl)),⟨⟩⟩)))
theorem cX(s:bp):So 167 [.agg (bS s)] [aH (cj s)]:=by
 refine av X call167 func167 ntmps167 rfl rfl ?_;intro zb;refine bl 0 3 rfl rfl (fun ir=>(aq X [1] rfl (aa (aq X [1,3] rfl ?_))));refine au (aE (fun k=>k≤s.received.length∧(List.range k).all (mX s.rows s.received)=true) (fun k:Nat=> [(3, .one ((aA k)))]) (fun k=> []) (fun k=>s.received.length-k) 0 (fun k=>rfl) ⟨Nat.zero_le _,rfl⟩ rfl ?_);rintro k ⟨hk,hall⟩;have hw:(IntKind.i64.wrap ((k:Int)-1)).toNat=k-1:=by rw[bO (by omega)];omega
 refine aa (aq X [1,3,9] rfl ?_);refine aj rfl ?_ ?_<;>intro hb0
 ·try simp only[aQ]at hb0
  refine an (aa (au (aD X [1,3,4] rfl (by and_intros<;>first|exact⟨⟩| (intros;omega)) (aa (aF X [] [(19,⟨false,[aH (inr ((s.received.getD k (aG .aT)).client) 0 7)]⟩),(40,⟨false,[aH (cL ((s.received.getD k (aG .aT)).share))]⟩)] [1,3,51] [] 34359738367 0 MO (by kernel_rfl) rfl (by kernel_rfl) (by(with_reducible and_intros);(iterate 2 all_goals try first|exact⟨⟩|exact(aP ((s.received.getD k (aG .aT)).client) 0 7)|exact fun _=>(cO ((s.received.getD k (aG .aT)).share)));all_goals first| ((intro h1;first| (intro h2;first| (intro h3;refine And.intro ?_ ?_)|refine And.intro ?_ ?_)|refine And.intro ?_ ?_)<;>first|omega| ((try simp only[aQ]at*);(try simp(disch:=omega) only[bO]);omega))) ?_)))));refine aj rfl ?_ ?_<;>intro aV
  ·have hk2:mX s.rows s.received k=false:=bH aV (by simp only[hw,mX,aO]<;>first|rfl|ac_rfl);exact aq X [2] rfl (ak (ah rfl ⟨by rw[show cj s=false by unfold cj;rw[iQ hb0 hk2];simp],⟨⟩⟩))
  ·have hk2:mX s.rows s.received k=true:=bF aV (by simp only[hw,mX,aO]<;>first|rfl|ac_rfl);refine an (bg X [1,3] rfl ?_);refine⟨k+1,⟨by omega,gx hall hk2⟩,by omega,?_⟩;rw[bh _ k rfl (by omega)];try rfl
 ·try simp only[aQ]at hb0
  have lJ:(List.range s.received.length).all (mX s.rows s.received)=true:=by rw[show s.received.length=k by omega];exact hall
  exact aI (aC X [] [(54,⟨false,[aH (inr s.id 0 3)]⟩),(58,⟨false,[aH (inr s.rows 1 64)]⟩),(63,⟨false,[aH (inr s.behavior 0 3)]⟩),(68,⟨false,[aH (inr s.round 0 100000)]⟩)] [2] [] rfl (by(with_reducible and_intros);(iterate 4 all_goals try first|exact⟨⟩|exact(aP s.id 0 3)|exact fun _=>(aP s.rows 1 64)|exact fun _=>(aP s.behavior 0 3)|exact fun _=>(aP s.round 0 100000))) (ak (ah rfl ⟨(congrArg Value.bool (by simp only[cj,tL,lJ,aO]<;>first|rfl|ac_rfl)),⟨⟩⟩)))
theorem kD(a:gZ):So 100 [.agg (cV a)] [aH (eV a)]:=by
 refine av X call100 func100 ntmps100 rfl rfl ?_;intro zb;refine bl 0 1 rfl rfl (fun ir=>(aq X [1] rfl (aa (aq X [1,3] rfl ?_))));refine au (aE (fun k=>k≤a.rounds.length∧(List.range k).all (oM a.rows a.rounds)=true) (fun k:Nat=> [(3, .one ((aA k)))]) (fun k=> []) (fun k=>a.rounds.length-k) 0 (fun k=>rfl) ⟨Nat.zero_le _,rfl⟩ rfl ?_);rintro k ⟨hk,hall⟩;have hw:(IntKind.i64.wrap ((k:Int)-1)).toNat=k-1:=by rw[bO (by omega)];omega
 refine aa (aq X [1,3,9] rfl ?_);refine aj rfl ?_ ?_<;>intro hb0
 ·try simp only[aQ]at hb0
  refine an (aa (au (aD X [1,3,4] rfl (by and_intros<;>first|exact⟨⟩| (intros;omega)) (aa ?_))));have t1:=(aP ((a.rounds.getD k (aG .aJ)).round) 0 100000);refine aF X [] [(19,⟨false,bq t1⟩),(40,⟨false,[aH (cL ((a.rounds.getD k (aG .aJ)).db))]⟩)] [1,3,51] [] 34359738367 0 MO (by kernel_rfl) rfl (by kernel_rfl) (by(with_reducible and_intros);(iterate 2 all_goals try first|exact⟨⟩|exact t1|exact fun _=>(cO ((a.rounds.getD k (aG .aJ)).db)));all_goals first| ((intro h1;first| (intro h2;first| (intro h3;refine And.intro ?_ ?_)|refine And.intro ?_ ?_)|refine And.intro ?_ ?_)<;>first|omega| ((try simp only[aQ]at*);(try simp(disch:=omega) only[bO]);omega))) ?_;refine aj rfl ?_ ?_<;>intro aV
  ·have hk2:oM a.rows a.rounds k=false:=bH aV (by simp only[hw,oM,aO]<;>first|rfl|ac_rfl);exact aq X [2] rfl (ak (ah rfl ⟨by rw[show eV a=false by unfold eV;rw[iQ hb0 hk2];simp],⟨⟩⟩))
  ·have hk2:oM a.rows a.rounds k=true:=bF aV (by simp only[hw,oM,aO]<;>first|rfl|ac_rfl);refine an (bg X [1,3] rfl ?_);refine⟨k+1,⟨by omega,gx hall hk2⟩,by omega,?_⟩;rw[bh _ k rfl (by omega)];try rfl
 ·try simp only[aQ]at hb0
  have lJ:(List.range a.rounds.length).all (oM a.rows a.rounds)=true:=by rw[show a.rounds.length=k by omega];exact hall
  exact aI (aC X [] [(54,⟨false,[aH (inr a.rows 1 64)]⟩)] [2] [] rfl (by(with_reducible and_intros)<;>first|exact⟨⟩|exact(aP a.rows 1 64)) (ak (ah rfl ⟨(congrArg Value.bool (by simp only[eV,Eg,lJ,aO]<;>first|rfl|ac_rfl)),⟨⟩⟩)))
theorem B7(a:List UInt8):(aX a).toList=a:=by
 rw[ByteArray.toList_eq];rfl
theorem gH(a b:List UInt8):So 161 [.a (.sl .u8 a), .a (.sl .u8 b)] [aH (a==b)]:=by
 refine av X call161 func161 ntmps161 rfl rfl ?_;intro zb;exact aq X [0,1] rfl (aq X [4] rfl (ak (ah rfl ⟨by rw[B7,B7],⟨⟩⟩)))
theorem iR(a b:List UInt8):So 276 [.a (.sl .u8 a), .a (.sl .u8 b)] [aH (a==b)]:=by
 refine av X call276 func276 ntmps276 rfl rfl ?_;intro zb;refine ct 0 rfl (fun hl1=> ?_);refine ct 1 rfl (fun lg=>(aq X [0,1] rfl (aa (aq X [0,1,10] rfl ?_))));refine aj rfl ?_ ?_<;>intro hb0
 ·try simp only[aQ]at hb0
  exact aq X [4] rfl (ak (ah rfl ⟨by rw[AP a b hb0],⟨⟩⟩))
 ·try simp only[aQ]at hb0
  refine an (aa (aq X [0,1,12,13] rfl ?_));refine au (aE (fun k=>k≤a.length∧a.take k=b.take k) (fun k:Nat=> [(13, .one ((aA k)))]) (fun k=> []) (fun k=>a.length-k) 0 (fun k=>rfl) ⟨Nat.zero_le _,rfl⟩ rfl ?_);rintro k ⟨hk,hall⟩;refine aq X [0,1,12,13,14] rfl ?_;refine aa (aj rfl ?_ ?_)<;>intro aV
  ·try simp only[aQ]at aV
   refine an (aa (au (aq X [0,1,5,12,13] rfl (aa (aF X [] [] [0,1,12,13,24] [] 511 0 MO (by kernel_rfl) rfl (by kernel_rfl) (by and_intros<;>first|exact⟨⟩| (intros;omega)) ?_)))));refine aj rfl ?_ ?_<;>intro bI
   ·try simp only[aQ]at bI
    have hne:=xj a b (aG .u8) k (fun h=>bI (by rw[h]));exact aq X [4] rfl (ak (ah rfl ⟨by rw[hne],⟨⟩⟩))
   ·try simp only[aQ]at bI
    have he:a.getD k (aG .u8)=b.getD k (aG .u8):=SQ bI;refine an (bg X [0,1,12,13] rfl ?_);refine⟨k+1,⟨by omega,qE a b (aG .u8) k aV (by omega) hall he⟩,by omega,?_⟩;rw[bh _ k rfl (by omega)];try rfl
  ·try simp only[aQ]at aV
   exact aI (aq X [4] rfl (ak (ah rfl ⟨by rw[xk a b k (by omega) (by omega) hall],⟨⟩⟩)))
theorem gI(a b:List (List UInt8)):So 157 [.a (.sl (.sl .u8) a), .a (.sl (.sl .u8) b)] [aH (a==b)]:=by
 refine av X call157 func157 ntmps157 rfl rfl ?_;intro zb;refine ct 0 rfl (fun hl1=> ?_);refine ct 1 rfl (fun lg=>(aq X [0,1] rfl (aa (aq X [0,1,10] rfl ?_))));refine aj rfl ?_ ?_<;>intro hb0
 ·try simp only[aQ]at hb0
  exact aq X [4] rfl (ak (ah rfl ⟨by rw[AP a b hb0],⟨⟩⟩))
 ·try simp only[aQ]at hb0
  refine an (aa (aq X [0,1,5] rfl ?_));refine au (aE (fun k=>k≤a.length∧a.take k=b.take k) (fun k:Nat=> [(5, .one ((aA k)))]) (fun k=> []) (fun k=>a.length-k) 0 (fun k=>rfl) ⟨Nat.zero_le _,rfl⟩ rfl ?_);rintro k ⟨hk,hall⟩;refine aa (aq X [0,1,5,14] rfl ?_);refine aj rfl ?_ ?_<;>intro aV
  ·try simp only[aQ]at aV
   refine an (aa (au (aa (aF X [] [(25,⟨false,[aH _]⟩)] [0,1,5,26] [] 1023 0 MO (by kernel_rfl) rfl (by kernel_rfl) (by(with_reducible and_intros)<;>first|exact⟨⟩|exact(gH _ _)| (intros;omega)) ?_))));refine aj rfl ?_ ?_<;>intro bI
   ·try simp only[aQ]at bI
    have hne:=xj a b (aG (.sl .u8)) k (fun h=>bI (by rw[h]));exact aq X [4] rfl (ak (ah rfl ⟨by rw[hne],⟨⟩⟩))
   ·try simp only[aQ]at bI
    have he:a.getD k (aG (.sl .u8))=b.getD k (aG (.sl .u8)):=bI;refine an (bg X [0,1,5] rfl ?_);refine⟨k+1,⟨by omega,qE a b (aG (.sl .u8)) k aV (by omega) hall he⟩,by omega,?_⟩;rw[bh _ k rfl (by omega)];try rfl
  ·try simp only[aQ]at aV
   exact aI (aq X [4] rfl (ak (ah rfl ⟨by rw[xk a b k (by omega) (by omega) hall],⟨⟩⟩)))
theorem gJ(a b:List UInt8):So 208 [.a (.sl .u8 a), .a (.sl .u8 b)] [aH (a==b)]:=by
 refine av X call208 func208 ntmps208 rfl rfl ?_;intro zb;exact aq X [0,1] rfl (aC X [] [(7,⟨false,[aH _]⟩)] [4] [] rfl (by(with_reducible and_intros)<;>first|exact⟨⟩|exact(iR _ _)) (ak (ah rfl ⟨rfl,⟨⟩⟩)))
theorem gT(a b:List (List UInt8)):So 337 [.a (.sl (.sl .u8) a), .a (.sl (.sl .u8) b), .a (.lit (.func (.func 208) #[] #[]))] [aH (a==b)]:=by
 refine av X call337 func337 ntmps337 rfl rfl ?_;intro zb;refine ct 0 rfl (fun hl1=> ?_);refine ct 1 rfl (fun lg=>(aq X [0,1,2] rfl (aa (aq X [0,1,2,14] rfl ?_))));refine aj rfl ?_ ?_<;>intro hb0
 ·try simp only[aQ]at hb0
  exact aq X [6] rfl (ak (ah rfl ⟨by rw[AP a b hb0],⟨⟩⟩))
 ·try simp only[aQ]at hb0
  refine an (aa (aq X [1,2,15,16,17] rfl ?_));refine au (aE (fun k=>k≤a.length∧a.take k=b.take k) (fun k:Nat=> [(17, .one ((aA k)))]) (fun k=> []) (fun k=>a.length-k) 0 (fun k=>rfl) ⟨Nat.zero_le _,rfl⟩ rfl ?_);rintro k ⟨hk,hall⟩;refine aq X [1,2,15,16,17,18] rfl ?_;refine aa (aj rfl ?_ ?_)<;>intro aV
  ·try simp only[aQ]at aV
   refine an (aa (au (aD X [1,2,7,8,15,16,17] rfl (by and_intros<;>first|exact⟨⟩| (intros;omega)) (aD X [1,2,8,9,15,16,17] rfl (by and_intros<;>first|exact⟨⟩| (intros;omega)) (aC X [] [(29,⟨false,[aH (a.getD k (aG (.sl .u8))==b.getD k (aG (.sl .u8)))]⟩)] [1,2,15,16,17,30] [] rfl (by(with_reducible and_intros)<;>first|exact⟨⟩|exact(gJ _ _)) ?_)))));refine aj rfl ?_ ?_<;>intro bI
   ·try simp only[aQ]at bI
    have hne:=xj a b (aG (.sl .u8)) k (fun h=>bI (by rw[h]));exact aq X [6] rfl (ak (ah rfl ⟨by rw[hne],⟨⟩⟩))
   ·try simp only[aQ]at bI
    have he:a.getD k (aG (.sl .u8))=b.getD k (aG (.sl .u8)):=bI;refine an (bg X [1,2,15,16,17] rfl ?_);refine⟨k+1,⟨by omega,qE a b (aG (.sl .u8)) k aV (by omega) hall he⟩,by omega,?_⟩;rw[bh _ k rfl (by omega)];try rfl
  ·try simp only[aQ]at aV
   exact aI (aq X [6] rfl (ak (ah rfl ⟨by rw[xk a b k (by omega) (by omega) hall],⟨⟩⟩)))
theorem jZ(a b:List (List UInt8)):So 273 [.a (.sl (.sl .u8) a), .a (.sl (.sl .u8) b)] [aH (a==b)]:=by
 refine av X call273 func273 ntmps273 rfl rfl ?_;intro zb;exact aq X [0,1] rfl (aC X [] [(7,⟨false,[aH _]⟩)] [4] [] rfl (by(with_reducible and_intros)<;>first|exact⟨⟩|exact(gT _ _)) (ak (ah rfl ⟨rfl,⟨⟩⟩)))
theorem qJ(b:List UInt8):So 288 [.a (.sl .u8 b)] [aH (long b)]:=by
 refine av X call288 func288 ntmps288 rfl rfl ?_;intro zb;exact aq X [0] rfl (aq X [2] rfl (ak (ah rfl ⟨rfl,⟨⟩⟩)))
theorem cN(n:Int):So 129 [aA n] [aH (bT n)]:=by
 refine av X call129 func129 ntmps129 rfl rfl ?_;intro zb;exact aq X [0] rfl (aC X [] [(4,⟨false,[aH _]⟩)] [2] [] rfl (by(with_reducible and_intros)<;>first|exact⟨⟩|exact(aK _ _ _)) (ak (ah rfl ⟨rfl,⟨⟩⟩)))
theorem ez(n:Int):So 92 [aA n] [aH (bT n)]:=by
 refine av X call92 func92 ntmps92 rfl rfl ?_;intro zb;exact aq X [0] rfl (aC X [] [(4,⟨false,[aH _]⟩)] [2] [] rfl (by(with_reducible and_intros)<;>first|exact⟨⟩|exact(aP _ _ _)) (ak (ah rfl ⟨rfl,⟨⟩⟩)))
theorem dH(c:dF):So 221 [.agg (bG c)] [aH (c8 c)]:=by
 refine av X call221 func221 ntmps221 rfl rfl ?_;intro zb;exact aq X [1] rfl (aq X [1,3] rfl (aC X [] [(6,⟨false,[aH (inr c.id 0 7)]⟩),(10,⟨false,[aH (inr c.cU 0 7)]⟩),(22,⟨false,[aH (eM c.key)]⟩),(40,⟨false,[aH (c.aM.any long)]⟩),(47,⟨false,[aH (c.inbox.any long)]⟩),(56,⟨false,[aH (inr c.sent 0 (c.aM.length:Int))]⟩),(61,⟨false,[aH (inr c.next 0 100000)]⟩)] [2] [] rfl (by(with_reducible and_intros);(iterate 7 all_goals try first|exact⟨⟩|exact(aK c.id 0 7)|exact fun _=>(aK c.cU 0 7)|exact fun _=>(fA c.key)|exact fun _=>(dU _ _ _ qJ)|exact fun _=>(aK c.sent 0 (c.aM.length:Int))|exact fun _=>(aK c.next 0 100000))) (ak (ah rfl ⟨(congrArg Value.bool (by simp only[c8,aO]<;>first|rfl|ac_rfl)),⟨⟩⟩))))
theorem yQ(i f k:Int):So 166 [aA i,aA f,aA k] [aH (inr i 0 7&&inr f 0 7&& !(i==f)&&eM k)]:=by
 refine av X call166 func166 ntmps166 rfl rfl ?_;intro zb;exact aq X [0,1,2] rfl (aC X [] [(8,⟨false,[aH (inr i 0 7)]⟩),(11,⟨false,[aH (inr f 0 7)]⟩),(20,⟨false,[aH (eM k)]⟩)] [6] [] rfl (by(with_reducible and_intros);(iterate 3 all_goals try first|exact⟨⟩|exact(aP i 0 7)|exact fun _=>(aP f 0 7)|exact fun _=>(gF k))) (ak (ah rfl ⟨(congrArg Value.bool (by simp only[aO]<;>first|rfl|ac_rfl)),⟨⟩⟩)))
theorem pz(l:List (List UInt8)):So 308 [.a (.sl (.sl .u8) l)] [aH (decide ((l.length:Int)≤16)&& !l.any long)]:=by
 refine av X call308 func308 ntmps308 rfl rfl ?_;intro zb;refine ct 0 rfl (fun ir=>(aq X [0] rfl (aa (aq X [0,3] rfl ?_))));refine au (aE (fun k=>k≤l.length∧(l.take k).any long=false) (fun k:Nat=> [(3, .one ((aA k)))]) (fun k=> []) (fun k=>l.length-k) 0 (fun k=>rfl) ⟨Nat.zero_le _,rfl⟩ rfl ?_);rintro k ⟨hk,hall⟩;refine aa (aq X [0,3,7] rfl ?_);refine aj rfl ?_ ?_<;>intro hb0
 ·try simp only[aQ]at hb0
  refine an (aa (au (aD X [0,3,15] rfl (by and_intros<;>first|exact⟨⟩| (intros;omega)) ?_)));refine aj rfl ?_ ?_<;>intro aV
  ·exact aq X [2] rfl (ak (ah rfl ⟨by rw[yO l long (aG (.sl .u8)) k hb0 aV];simp,⟨⟩⟩))
  ·refine an (bg X [0,3] rfl ?_);refine⟨k+1,⟨by omega,qI (aG (.sl .u8)) hb0 hall aV⟩,by omega,?_⟩;rw[bh _ k rfl (by omega)];try rfl
 ·try simp only[aQ]at hb0
  have lJ:l.any long=false:=by rw[←hall,List.take_of_length_le hb0]
  exact aI (aq X [2] rfl (ak (ah rfl ⟨by rw[lJ];simp,⟨⟩⟩)))
theorem dI(c:dF):So 245 [.agg (bG c)] [aH (c8 c)]:=by
 refine av X call245 func245 ntmps245 rfl rfl ?_;intro zb;refine aq X [1] rfl (aa ?_);have t1:=(yQ c.id c.cU c.key);have t2:=(pz c.aM);have t3:=(pz c.inbox);exact aL X [] [(9,⟨false,bq t1⟩),(13,⟨false,bq t2⟩),(18,⟨false,bq t3⟩),(26,⟨false,[aH (inr c.sent 0 (c.aM.length:Int))]⟩),(31,⟨false,[aH (inr c.next 0 100000)]⟩)] [2] [] rfl (by(with_reducible and_intros);(iterate 5 all_goals try first|exact⟨⟩|exact t1|exact fun _=>t2|exact fun _=>t3|exact fun _=>(aP c.sent 0 (c.aM.length:Int))|exact fun _=>(aP c.next 0 100000))) (ak (ah rfl ⟨(congrArg Value.bool (by simp only[c8,aO]<;>first|rfl|ac_rfl)),⟨⟩⟩))
theorem AY(a b:dF):So 222 [.agg (bG a), .agg (bG b)] [aH (jY a b)]:=by
 refine av X call222 func222 ntmps222 rfl rfl ?_;intro zb;exact aq X [2,3] rfl (aC X [] [(36,⟨false,[aH (a.aM==b.aM)]⟩)] [4] [] rfl (by(with_reducible and_intros)<;>first|exact⟨⟩|exact fun _=>(jZ a.aM b.aM)) (ak (ah rfl ⟨(congrArg Value.bool (by simp only[jY,aO]<;>first|rfl|ac_rfl)),⟨⟩⟩)))
theorem lZ(a b:List (List UInt8)):So 204 [.a (.sl (.sl .u8) a), .a (.sl (.sl .u8) b)] [aH (vU a b)]:=by
 refine av X call204 func204 ntmps204 rfl rfl ?_;intro zb;refine aq X [0,1] rfl (aa ?_);have t1:=(jZ a ((b.take (a.length:Int).toNat).drop (0:Int).toNat));refine aL X [] [(16,⟨false,bq t1⟩)] [4] [] rfl (by(with_reducible and_intros)<;>first|exact⟨⟩|exact fun _=>t1| ((intro h1;first| (intro h2;first| (intro h3;refine And.intro ?_ ?_)|refine And.intro ?_ ?_)|refine And.intro ?_ ?_)<;>first|omega| ((try simp only[aQ]at*);(try simp(disch:=omega) only[bO]);omega))) ?_;exact ak (ah rfl ⟨(congrArg Value.bool (by simp only[vU,List.drop_zero,Int.toNat_zero,aO]<;>first|rfl|ac_rfl)),⟨⟩⟩)
theorem dJ(d:aZ):So 140 [.agg (bN d)] [aH (cP d)]:=by
 refine av X call140 func140 ntmps140 rfl rfl ?_;intro zb;exact aq X [1] rfl (aC X [] [(5,⟨false,[aH (c8 d.live)]⟩),(9,⟨false,[aH (c8 d.saved)]⟩),(16,⟨false,[aH (jY d.live d.saved)]⟩),(43,⟨false,[aH (vU d.saved.inbox d.live.inbox)]⟩)] [2] [] rfl (by(with_reducible and_intros);(iterate 4 all_goals try first|exact⟨⟩|exact(dH d.live)|exact fun _=>(dH d.saved)|exact fun _=>(AY d.live d.saved)|exact fun _=>(lZ d.saved.inbox d.live.inbox))) (ak (ah rfl ⟨(congrArg Value.bool (by simp only[cP,aO]<;>first|rfl|ac_rfl)),⟨⟩⟩)))
theorem dK(d:aZ):So 168 [.agg (bN d)] [aH (cP d)]:=by
 refine av X call168 func168 ntmps168 rfl rfl ?_;intro zb;refine aq X [1] rfl (aq X [1,3] rfl (aq X [3,4] rfl (aa (aC X [] [(10,⟨false,[aH (c8 d.live)]⟩),(14,⟨false,[aH (c8 d.saved)]⟩),(50,⟨false,[aH (d.live.aM==d.saved.aM)]⟩)] [3,4,52] [] rfl (by(with_reducible and_intros);(iterate 3 all_goals try first|exact⟨⟩|exact(dI d.live)|exact fun _=>(dI d.saved)|exact fun _=>(gI d.live.aM d.saved.aM))) ?_))));refine aj rfl ?_ ?_<;>intro hb0
 ·exact aq X [2] rfl (ak (ah rfl ⟨by rw[show cP d=false from by rw[cP,bH (R:=c8 d.live&&c8 d.saved&&jY d.live d.saved) hb0 (by simp only[jY,aO]<;>first|rfl|ac_rfl)];rfl],⟨⟩⟩))
 ·have hh:(c8 d.live&&c8 d.saved&&jY d.live d.saved)=true:=bF hb0 (by simp only[jY,aO]<;>first|rfl|ac_rfl);refine an (aa ?_);have t1:=(gI d.saved.inbox ((d.live.inbox.take (d.saved.inbox.length:Int).toNat).drop (0:Int).toNat));refine aF X [] [(83,⟨false,bq t1⟩)] [2] [] 8589934591 0 MO (by kernel_rfl) rfl (by kernel_rfl) (by(with_reducible and_intros)<;>first|exact⟨⟩|exact fun _=>t1| ((intro h1;first| (intro h2;first| (intro h3;refine And.intro ?_ ?_)|refine And.intro ?_ ?_)|refine And.intro ?_ ?_)<;>first|omega| ((try simp only[aQ]at*);(try simp(disch:=omega) only[bO]);omega))) ?_;exact ak (ah rfl ⟨(congrArg Value.bool (by simp only[cP,hh,vU,List.drop_zero,Int.toNat_zero,aO]<;>first|rfl|ac_rfl)),⟨⟩⟩)
end
section
set_option maxRecDepth 100000
theorem bQ(x:aW):So 73 [.agg (aN x)] [aH (okW x)]:=by
 refine av X call73 func73 ntmps73 rfl rfl ?_;intro zb;refine bl 0 1 rfl rfl (fun hl1=> ?_);refine bl 0 2 rfl rfl (fun lg=>(aq X [1] rfl (aa (aa (aF X [] [(10,⟨false,[aH (inr x.rows 1 64)]⟩),(16,⟨false,[aH (bT (x.az.length:Int))]⟩),(23,⟨false,[aH (inr (x.af.length:Int) 2 8)]⟩),(36,⟨false,[aH (eV x.aB)]⟩),(50,⟨false,[aA (dr x.aB)]⟩),(58,⟨false,[aH (eM x.bn)]⟩),(64,⟨false,[aH (inr x.round 0 100000)]⟩)] [1,71] [] 18446744073709551615 0 MO (by kernel_rfl) rfl (by kernel_rfl) (by(with_reducible and_intros);(iterate 7 all_goals try first|exact⟨⟩|exact(aK x.rows 1 64)|exact fun _=>(cN (x.az.length:Int))|exact fun _=>(aK (x.af.length:Int) 2 8)|exact fun _=>(kC x.aB)|exact fun _=>(kS x.aB)|exact fun _=>(fA x.bn)|exact fun _=>(aK x.round 0 100000));all_goals first| (refine fun _=> ?_;dsimp only[hyps,Jp];omega)) ?_)))));refine aj rfl ?_ ?_<;>intro hb0
 ·exact aq X [2] rfl (ak (ah rfl ⟨by rw[show okW x=false from by rw[okW,bH (R:=Kg x) hb0 (by simp only[Kg,aO]<;>first|rfl|ac_rfl)];rfl],⟨⟩⟩))
 ·have hh:Kg x=true:=bF hb0 (by simp only[Kg,aO]<;>first|rfl|ac_rfl);obtain⟨hev,hd8,_⟩:=qK hh;refine an (aa (aq X [1,73,74,75] rfl ?_));refine au (aE (fun k=>k≤x.az.length∧(List.range k).all (FG x)=true) (fun k:Nat=> [(75, .one ((aA k)))]) (fun k=> []) (fun k=>x.az.length-k) 0 (fun k=>rfl) ⟨Nat.zero_le _,rfl⟩ rfl ?_);rintro k ⟨hk,hall⟩;refine aq X [1,73,74,75,76] rfl ?_;refine aa (aj rfl ?_ ?_)<;>intro aV
  ·try simp only[aQ]at aV
   refine an (aa (au (aD X [1,3,4,73,74,75] rfl (by and_intros<;>first|exact⟨⟩| (intros;omega)) (aC X [] [(81,⟨false,[aH (cj (x.az.getD k (aG .bp)))]⟩)] [1,73,74,75,108] [] rfl (by(with_reducible and_intros)<;>first|exact⟨⟩|exact(cW (x.az.getD k (aG .bp)))) ?_))));refine aj rfl ?_ ?_<;>intro bI
   ·have hk2:FG x k=false:=bH bI (by simp only[FG,aO]<;>first|rfl|ac_rfl);exact aq X [2] rfl (ak (ah rfl ⟨by rw[show okW x=false from by rw[okW,iQ aV hk2];simp],⟨⟩⟩))
   ·have hk2:FG x k=true:=bF bI (by simp only[FG,aO]<;>first|rfl|ac_rfl);refine an (bg X [1,73,74,75] rfl ?_);refine⟨k+1,⟨by omega,gx hall hk2⟩,by omega,?_⟩;rw[bh _ k rfl (by omega)];try rfl
  ·try simp only[aQ]at aV
   have lJ:(List.range x.az.length).all (FG x)=true:=by rw[show x.az.length=k by omega];exact hall
   refine aI (aa (aq X [1,111,112,113] rfl ?_));refine au (aE (fun k1=>k1≤x.af.length∧(List.range k1).all (okD x)=true) (fun k1:Nat=> [(113, .one ((aA k1)))]) (fun k1=> []) (fun k1=>x.af.length-k1) 0 (fun k1=>rfl) ⟨Nat.zero_le _,rfl⟩ rfl ?_);rintro k1 ⟨hk1,Yk⟩;refine aq X [1,111,112,113,114] rfl ?_;refine aa (aj rfl ?_ ?_)<;>intro eE
   ·try simp only[aQ]at eE
    have hx:=CB k1 (by omega);have hlt:=tO k1 x.af.length eE hev;refine an (aa (au (aD X [1,5,6,111,112,113] rfl (by and_intros<;>first|exact⟨⟩| (intros;omega)) (aq X [1,5,6,7,111,112,113] rfl (aa (aF X [] [(121,⟨false,[aH (cP (x.af.getD k1 (aG .aZ)))]⟩)] [1,111,112,113,155] [] 68719476735 0 MO (by kernel_rfl) rfl (by kernel_rfl) (by(with_reducible and_intros)<;>first|exact⟨⟩|exact(dJ (x.af.getD k1 (aG .aZ)))| ((intro h1;first| (intro h2;first| (intro h3;refine And.intro ?_ ?_)|refine And.intro ?_ ?_)|refine And.intro ?_ ?_)<;>first|omega| ((try simp only[aQ]at*);(try simp(disch:=omega) only[bO]);omega))) ?_))))));refine aj rfl ?_ ?_<;>intro kV
    ·have PW:okD x k1=false:=bH kV (by simp only[okD,hx,aO]<;>first|rfl|ac_rfl);exact aq X [2] rfl (ak (ah rfl ⟨by rw[show okW x=false from by rw[okW,iQ eE PW];simp],⟨⟩⟩))
    ·have PW:okD x k1=true:=bF kV (by simp only[okD,hx,aO]<;>first|rfl|ac_rfl);refine an (bg X [1,111,112,113] rfl ?_);refine⟨k1+1,⟨by omega,gx Yk PW⟩,by omega,?_⟩;rw[bh _ k1 rfl (by omega)];try rfl
   ·try simp only[aQ]at eE
    have SZ:(List.range x.af.length).all (okD x)=true:=by rw[show x.af.length=k1 by omega];exact Yk
    exact aI (aq X [2] rfl (ak (ah rfl ⟨by rw[okW,hh,lJ,SZ];rfl,⟨⟩⟩)))
theorem yR(x:aW):So 98 [.agg (aN x)] [aH (svW x)]:=by
 refine av X call98 func98 ntmps98 rfl rfl ?_;intro zb;refine bl 0 1 rfl rfl (fun hl1=> ?_);refine bl 0 2 rfl rfl (fun lg=>(aq X [1] rfl (aa (aq X [1,3] rfl ?_))));refine au (aE (fun k=>k≤x.az.length∧(List.range k).all (FG x)=true) (fun k:Nat=> [(3, .one ((aA k)))]) (fun k=> []) (fun k=>x.az.length-k) 0 (fun k=>rfl) ⟨Nat.zero_le _,rfl⟩ rfl ?_);rintro k ⟨hk,hall⟩;refine aa (aq X [1,3,9] rfl ?_);refine aj rfl ?_ ?_<;>intro hb0
 ·try simp only[aQ]at hb0
  refine an (aa (au (aD X [1,3,4] rfl (by and_intros<;>first|exact⟨⟩| (intros;omega)) (aC X [] [(18,⟨false,[aH (cj (x.az.getD k (aG .bp)))]⟩)] [1,3,45] [] rfl (by(with_reducible and_intros)<;>first|exact⟨⟩|exact(cX (x.az.getD k (aG .bp)))) ?_))));refine aj rfl ?_ ?_<;>intro aV
  ·have hk2:FG x k=false:=bH aV (by simp only[FG,aO]<;>first|rfl|ac_rfl);exact aq X [2] rfl (ak (ah rfl ⟨by rw[show svW x=false from by rw[svW,iQ hb0 hk2];simp],⟨⟩⟩))
  ·have hk2:FG x k=true:=bF aV (by simp only[FG,aO]<;>first|rfl|ac_rfl);refine an (bg X [1,3] rfl ?_);refine⟨k+1,⟨by omega,gx hall hk2⟩,by omega,?_⟩;rw[bh _ k rfl (by omega)];try rfl
 ·try simp only[aQ]at hb0
  have lJ:(List.range x.az.length).all (FG x)=true:=by rw[show x.az.length=k by omega];exact hall
  exact aI (aC X [] [(49,⟨false,[aH _]⟩)] [2] [] rfl (by(with_reducible and_intros)<;>first|exact⟨⟩|exact(ez _)) (ak (ah rfl ⟨by rw[svW,lJ];rfl,⟨⟩⟩)))
theorem yS(x:aW):So 99 [.agg (aN x)] [aH (Yj x)]:=by
 refine av X call99 func99 ntmps99 rfl rfl ?_;intro zb;refine bl 0 1 rfl rfl (fun hl1=> ?_);refine bl 0 2 rfl rfl (fun lg=>(aq X [1] rfl (aq X [1,3] rfl (aa (aC X [] [(14,⟨false,[aH (inr (x.af.length:Int) 2 8)]⟩)] [1,3,16] [] rfl (by(with_reducible and_intros)<;>first|exact⟨⟩|exact fun _=>(aP (x.af.length:Int) 2 8)| (intros;omega)) ?_)))));refine aj rfl ?_ ?_<;>intro hb0
 ·exact aq X [2] rfl (ak (ah rfl ⟨by rw[show Yj x=false from by rw[Yj,bH (R:=((x.af.length:Int).tmod 2==0)&&inr x.af.length 2 8) hb0 (by simp only[aO]<;>first|rfl|ac_rfl)];rfl],⟨⟩⟩))
 ·have hh:(((x.af.length:Int).tmod 2==0)&&inr x.af.length 2 8)=true:=bF hb0 (by simp only[aO]<;>first|rfl|ac_rfl);have hev:x.af.length % 2=0:=by simp only[Bool.and_eq_true,beq_iff_eq]at hh;have:=hh.1;rw[ew (by omega)]at this;omega
  have hd8:x.af.length≤8:=by simp only[Bool.and_eq_true,b7]at hh;omega
  refine an (aa (aq X [1,3,4] rfl ?_));refine au (aE (fun k=>k≤x.af.length∧(List.range k).all (okD x)=true) (fun k:Nat=> [(4, .one ((aA k)))]) (fun k=> []) (fun k=>x.af.length-k) 0 (fun k=>rfl) ⟨Nat.zero_le _,rfl⟩ rfl ?_);rintro k ⟨hk,hall⟩;refine aa (aq X [1,3,4,19] rfl ?_);refine aj rfl ?_ ?_<;>intro aV
  ·try simp only[aQ]at aV
   have hx:=CB k (by omega);have hlt:=tO k x.af.length aV hev;refine an (aa (au (aD X [1,3,4,5] rfl (by and_intros<;>first|exact⟨⟩| (intros;omega)) (aa (aF X [] [(28,⟨false,[aH (cP (x.af.getD k (aG .aZ)))]⟩)] [1,3,4,66] [] 1099511627775 0 MO (by kernel_rfl) rfl (by kernel_rfl) (by(with_reducible and_intros)<;>first|exact⟨⟩|exact(dK (x.af.getD k (aG .aZ)))| ((intro h1;first| (intro h2;first| (intro h3;refine And.intro ?_ ?_)|refine And.intro ?_ ?_)|refine And.intro ?_ ?_)<;>first|omega| ((try simp only[aQ]at*);(try simp(disch:=omega) only[bO]);omega))) ?_)))));refine aj rfl ?_ ?_<;>intro bI
   ·have PW:okD x k=false:=bH bI (by simp only[okD,hx,aO]<;>first|rfl|ac_rfl);exact aq X [2] rfl (ak (ah rfl ⟨by rw[show Yj x=false from by rw[Yj,iQ aV PW];simp],⟨⟩⟩))
   ·have PW:okD x k=true:=bF bI (by simp only[okD,hx,aO]<;>first|rfl|ac_rfl);refine an (bg X [1,3,4] rfl ?_);refine⟨k+1,⟨by omega,gx hall PW⟩,by omega,?_⟩;rw[bh _ k rfl (by omega)];try rfl
  ·try simp only[aQ]at aV
   have SZ:(List.range x.af.length).all (okD x)=true:=by rw[show x.af.length=k by omega];exact hall
   exact aI (aq X [2] rfl (ak (ah rfl ⟨by rw[Yj,hh,SZ];rfl,⟨⟩⟩)))
theorem bV(x:aW):So 47 [.agg (aN x)] [aH (okW x)]:=by
 refine av X call47 func47 ntmps47 rfl rfl ?_;intro zb;exact aq X [1] rfl (aa (aF X [] [(5,⟨false,[aH (inr x.rows 1 64)]⟩),(9,⟨false,[aH (inr x.round 0 100000)]⟩),(13,⟨false,[aH (svW x)]⟩),(17,⟨false,[aH (Yj x)]⟩),(22,⟨false,[aH (eV x.aB)]⟩),(35,⟨false,[aA (dr x.aB)]⟩),(43,⟨false,[aH (eM x.bn)]⟩)] [2] [] 281474976710655 0 MO (by kernel_rfl) rfl (by kernel_rfl) (by(with_reducible and_intros);(iterate 7 all_goals try first|exact⟨⟩|exact(aP x.rows 1 64)|exact fun _=>(aP x.round 0 100000)|exact fun _=>(yR x)|exact fun _=>(yS x)|exact fun _=>(kD x.aB)|exact fun _=>(kU x.aB)|exact fun _=>(gF x.bn))) (ak (ah rfl ⟨(congrArg Value.bool (by simp only[okW,Kg,svW,Yj,aO]<;>first|rfl|ac_rfl)),⟨⟩⟩))))
theorem CC(key c:Int)(p:Plain):So 277 [aA key,aA c, .agg (ij p)] [.a (.sl .u8 (tI key c p)),aH (jr key c p)]:=by
 refine av X call277 func277 ntmps277 rfl rfl ?_;intro zb;refine aq X [0,1,5] rfl (aa (aC X [] [(11,⟨false,[aH (eM key)]⟩),(15,⟨false,[aH (inr c 0 1000000000000)]⟩),(20,⟨false,[aH (iX p)]⟩)] [0,1,5,22] [] rfl (by(with_reducible and_intros);(iterate 3 all_goals try first|exact⟨⟩|exact(fA key)|exact fun _=>(aK c 0 1000000000000)|exact fun _=>(mh p))) ?_));refine aj rfl ?_ ?_<;>intro hb0
 ·have hk:jr key c p=false:=bH hb0 (by simp only[jr,aO]<;>first|rfl|ac_rfl);exact aq X [6,7] rfl (ak (ah rfl ⟨by rw[tI,if_neg (by rw[hk];decide)],by rw[hk],⟨⟩⟩))
 ·have hk:jr key c p=true:=bF hb0 (by simp only[jr,aO]<;>first|rfl|ac_rfl);have hp:=nY hk;have hst:(stream (kh key [61,c]) (18:Int).toNat).length=18:=eU _ _;have hpl:(fI key c p).length≤100:=by unfold fI;simp only[List.length_append,List.length_drop,List.length_cons,List.length_nil,eU];omega
  have hf4:(four (mV key c (lX (mW key c) (fI key c p)))).length=4:=rfl;have hel:(lX (mW key c) (fI key c p)).length≤100:=by rw[iP];exact hpl
  refine an (aC X [(33,30)] [] [0,1,5,8] [] rfl (by and_intros<;>first|exact⟨⟩|exact rfl|exact(oZ _).1|exact(oZ _).2| (simp only[dN,maxLen,lens];omega)) (aa (aF X [(44,30)] [(38,⟨false,[aA (kh key [61,c])]⟩),(39,⟨true,[.a (.sl .u8 (stream (kh key [61,c]) (18:Int).toNat))]⟩)] [0,1,8] [] 1023 0 MO (by kernel_rfl) rfl (by kernel_rfl) (by(repeat' with_reducible first|exact aR|refine bf ?_ ?_|apply And.intro);(iterate 2 all_goals try first|exact(bD key [61,c] (by first|assumption|omega| (simp;done)| (simp;omega)))|exact(jo (kh key [61,c]) 18 (by first|assumption|omega| (simp;done)| (simp;omega)) (by first|assumption|omega| (simp;done)| (simp;omega))));all_goals first| (intros;omega)|exact rfl|exact⟨rfl,bA _ (by decide)⟩| (simp only[dN,maxLen,lens];omega)) ?_)));refine aC X [] [(47,⟨false,[aA (mW key c)]⟩),(49,⟨true,[.a (.sl .u8 (lX (mW key c) (fI key c p)))]⟩)] [0,1,9] [] rfl (by(with_reducible and_intros);(iterate 2 all_goals try first|exact⟨⟩|exact(tJ key c)|exact(Ec (mW key c) (fI key c p) (by first|assumption|omega| (simp;done)| (simp;omega))))) (aa ?_);have t1:=(nX key c (lX (mW key c) (fI key c p)) (by first|assumption|omega| (simp;done)| (simp;omega)));exact aL X [(55,49)] [(54,⟨true,bq t1⟩)] [6,7] [] rfl (by(with_reducible and_intros)<;>first|exact⟨⟩|exact t1|exact rfl| (simp only[dN,maxLen,lens];omega)) (ak (ah rfl ⟨by rw[tI,if_pos hk],by rw[hk],⟨⟩⟩))
theorem CD(key c:Int)(p:Plain):So 241 [aA key,aA c, .agg (ij p)] [.a (.sl .u8 (tI key c p)),aH (jr key c p)]:=by
 refine av X call241 func241 ntmps241 rfl rfl ?_;intro zb;refine aq X [0,1,5] rfl (aa (aC X [] [(12,⟨false,[aH (eM key)]⟩),(16,⟨false,[aH (inr c 0 1000000000000)]⟩),(21,⟨false,[aH (iX p)]⟩)] [0,1,5,23] [] rfl (by(with_reducible and_intros);(iterate 3 all_goals try first|exact⟨⟩|exact(gF key)|exact fun _=>(aP c 0 1000000000000)|exact fun _=>(vT p))) ?_));refine aj rfl ?_ ?_<;>intro hb0
 ·have hk:jr key c p=false:=bH hb0 (by simp only[jr,aO]<;>first|rfl|ac_rfl);exact aD X [6,7] rfl (by and_intros<;>first|exact⟨⟩|exact rfl) (ak (ah rfl ⟨by rw[tI,if_neg (by rw[hk];decide)],by rw[hk],⟨⟩⟩))
 ·have hk:jr key c p=true:=bF hb0 (by simp only[jr,aO]<;>first|rfl|ac_rfl);have hp:=nY hk;have hst:(stream (kh key [61,c]) (18:Int).toNat).length=18:=eU _ _;have hpl:(fI key c p).length≤100:=by unfold fI;simp only[List.length_append,List.length_drop,List.length_cons,List.length_nil,eU];omega
  have hf4:(four (mV key c (lX (mW key c) (fI key c p)))).length=4:=rfl;have hel:(lX (mW key c) (fI key c p)).length≤100:=by rw[iP];exact hpl
  refine an (aC X [(35,32)] [] [0,1,5,8] [] rfl (by and_intros<;>first|exact⟨⟩|exact rfl|exact(oZ _).1|exact(oZ _).2| (simp only[dN,maxLen,lens];omega)) (aa (aF X [(46,32)] [(40,⟨false,[aA (kh key [61,c])]⟩),(41,⟨true,[.a (.sl .u8 (stream (kh key [61,c]) (18:Int).toNat))]⟩)] [0,1,8] [] 1023 0 MO (by kernel_rfl) rfl (by kernel_rfl) (by(repeat' with_reducible first|exact aR|refine bf ?_ ?_|apply And.intro);(iterate 2 all_goals try first|exact(bE key [61,c] (by first|assumption|omega| (simp;done)| (simp;omega)))|exact(jq (kh key [61,c]) 18 (by first|assumption|omega| (simp;done)| (simp;omega)) (by first|assumption|omega| (simp;done)| (simp;omega))));all_goals first| (intros;omega)|exact rfl|exact⟨rfl,bA _ (by decide)⟩| (simp only[dN,maxLen,lens];omega)) ?_)));refine aC X [] [(49,⟨false,[aA (mW key c)]⟩),(51,⟨true,[.a (.sl .u8 (lX (mW key c) (fI key c p)))]⟩)] [0,1,9] [] rfl (by(with_reducible and_intros);(iterate 2 all_goals try first|exact⟨⟩|exact(pg key c)|exact(Ee (mW key c) (fI key c p) (by first|assumption|omega| (simp;done)| (simp;omega))))) (aa ?_);have t1:=(o9 key c (lX (mW key c) (fI key c p)) (by first|assumption|omega| (simp;done)| (simp;omega)));exact aL X [] [(55,⟨false,bq t1⟩)] [9,10] [] rfl (by(with_reducible and_intros)<;>first|exact⟨⟩|exact t1) (aC X [(69,51)] [] [6,7] [] rfl (by and_intros<;>first|exact⟨⟩| (intros;omega)|exact rfl|exact(oZ _).1|exact(oZ _).2| (simp only[dN,maxLen,lens];omega)) (ak (ah rfl ⟨(congrArg (fun z=>lX (mW key c) (fI key c p)++z) (Oc _)).trans (by rw[tI,if_pos hk]),by rw[hk],⟨⟩⟩)))
theorem dh(x:aW)(c:Int):So 76 [.agg (aN x),aA c] [aH (fT x c)]:=by
 refine av X call76 func76 ntmps76 rfl rfl ?_;intro zb;exact bl 0 2 rfl rfl (fun lg=>(aq X [1,2] rfl (aC X [] [(10,⟨false,[aH _]⟩)] [4] [] rfl (by(with_reducible and_intros)<;>first|exact⟨⟩|exact(aK _ _ _)) (ak (ah rfl ⟨by rw[bO (by omega)];rfl,⟨⟩⟩)))))
theorem ng(x:aW)(c:Int)(hd:x.af.length≤1048576):So 185 [.agg (aN x),aA c] [aH (dX x c)]:=by
 refine av X call185 func185 ntmps185 rfl rfl ?_;intro zb;refine aq X [1,2] rfl (aa ?_);have t1:=(dh x (IntKind.i64.wrap (BitVec.ofInt IntKind.i64.bits c^^^BitVec.ofInt IntKind.i64.bits 1).toNat));exact aL X [] [(7,⟨false,[aH (fT x c)]⟩),(12,⟨false,bq t1⟩)] [4] [] rfl (by(with_reducible and_intros);(iterate 2 all_goals try first|exact⟨⟩|exact(dh x c)|exact fun _=>t1)) (ak (ah rfl ⟨by rw[tK,Qj hd],⟨⟩⟩))
theorem tP(x:aW)(c:Int)(hd:x.af.length≤1048576):So 156 [.agg (aN x),aA c] [aH (dX x c)]:=by
 refine av X call156 func156 ntmps156 rfl rfl ?_;intro zb;refine aq X [1,2] rfl (aa ?_);have t1:=(aP c 0 (IntKind.i64.wrap ((x.af.length:Int)-1)));exact aL X [] [(10,⟨false,bq t1⟩)] [4] [] rfl (by(with_reducible and_intros)<;>first|exact⟨⟩|exact t1) (ak (ah rfl ⟨by rw[bO (by omega),tK,Qk hd],⟨⟩⟩))
theorem eR(c:dF):So 207 [.agg (bG c)] [aA (cC c)]:=by
 refine av X call207 func207 ntmps207 rfl rfl ?_;intro zb;refine aq X [1] rfl (aa (aq X [7] rfl ?_));refine aj rfl ?_ ?_<;>intro hb0
 ·try simp only[aQ]at hb0
  exact aq X [2] rfl (ak (ah rfl ⟨by rw[cC,if_pos hb0],⟨⟩⟩))
 ·try simp only[aQ]at hb0
  exact an (aq X [2] rfl (ak (ah rfl ⟨by rw[cC,if_neg (by omega)],⟨⟩⟩)))
theorem jt(c:dF)(a:Int)(h0:0≤a)(h1:a<c.aM.length):So 209 [.agg (bG c),aA a] [.a (.sl .u8 (kE c a))]:=by
 refine av X call209 func209 ntmps209 rfl rfl ?_;intro zb;refine aq X [1,2] rfl (aa ?_);have t1:=(CC (qH c.key (cC c)) a (⟨1,(c.aM.getD (a).toNat (aG (.sl .u8)))⟩:Plain));exact aF X [] [(11,⟨false,[aA (cC c)]⟩),(12,⟨false,[aA (qH c.key (cC c))]⟩),(20,⟨true,bq t1⟩)] [5] [] 262143 0 MO (by kernel_rfl) rfl (by kernel_rfl) (by(with_reducible and_intros);(iterate 3 all_goals try first|exact⟨⟩|exact(eR c)|exact(iG c.key (cC c))|exact t1);all_goals first| (intros;omega)) (aq X [4] rfl (ak (ah rfl ⟨rfl,⟨⟩⟩)))
theorem xp(c:dF)(r n:Int):So 314 [.agg (bG c),aA r,aA n] [aA (mZ c r n), .a (.sl .u8 (gz c r n)),aH (nP c r n)]:=by
 refine av X call314 func314 ntmps314 rfl rfl ?_;intro zb;refine bl 0 4 rfl rfl (fun ir=>(aq X [1,2,3] rfl (aa (aC X [] [(10,⟨false,[aH (c8 c)]⟩),(14,⟨false,[aH (inr r 0 100000)]⟩),(19,⟨false,[aH (inr n 1 64)]⟩)] [1,2,3,21] [] rfl (by(with_reducible and_intros);(iterate 3 all_goals try first|exact⟨⟩|exact(dH c)|exact fun _=>(aK r 0 100000)|exact fun _=>(aK n 1 64))) ?_))));refine aj rfl ?_ ?_<;>intro hb0
 ·have hk:nP c r n=false:=bH hb0 (by simp only[nP,aO]<;>first|rfl|ac_rfl);exact aq X [6,7,8] rfl (ak (ah rfl ⟨by rw[mZ,if_neg (by rw[hk];decide)],by rw[gz,if_neg (by rw[hk];decide)],by rw[hk],⟨⟩⟩))
 ·have hk:nP c r n=true:=bF hb0 (by simp only[nP,aO]<;>first|rfl|ac_rfl);have hs:=AZ hk;refine an (aa (aq X [1,2,3,27] rfl ?_));refine aj rfl ?_ ?_<;>intro aV
  ·try simp only[aQ]at aV
   exact aa (aF X [] [(32,⟨false,[aA (cC c)]⟩),(34,⟨false,[aA (fu c.key r (cC c) n)]⟩),(38,⟨true,[.a (.sl .u8 (kE c c.sent))]⟩)] [6,7,8] [] 16383 0 MO (by kernel_rfl) rfl (by kernel_rfl) (by(with_reducible and_intros);(iterate 3 all_goals try first|exact⟨⟩|exact(eR c)|exact(gE c.key r (cC c) n)|exact(jt c c.sent (by first|assumption|omega| (simp;done)| (simp;omega)) (by first|assumption|omega| (simp;done)| (simp;omega))))) (ak (ah rfl ⟨by rw[mZ,if_pos hk,if_pos aV],by rw[gz,if_pos hk,if_pos aV],by rw[hk],⟨⟩⟩)))
  ·try simp only[aQ]at aV
   refine an (aa (aF X [] [(43,⟨false,[aA (Cy c.seed r n)]⟩),(48,⟨false,[aA (kh c.seed [r])]⟩),(49,⟨true,[.a (.sl .u8 (cover (kh c.seed [r])))]⟩)] [6,7,8] [] 16383 0 MO (by kernel_rfl) rfl (by kernel_rfl) (by(repeat' with_reducible first|exact aR|refine bf ?_ ?_|apply And.intro);(iterate 3 all_goals try first|exact(Cz c.seed r n)|exact(bD c.seed [r] (by first|assumption|omega| (simp;done)| (simp;omega)))|exact(AV (kh c.seed [r])));all_goals first|exact⟨rfl,bA _ (by decide)⟩) ?_));exact ak (ah rfl ⟨by rw[mZ,if_pos hk,if_neg (by omega)],by rw[gz,if_pos hk,if_neg (by omega)],by rw[hk],⟨⟩⟩)
theorem Eh(d:DB)(i:Int)(hs0:cE List.length d.rows≤1048576):So 205 [.agg (aY d),aA i] [.a (.sl .u8 (rowAt d i)),aH (rE d i)]:=by
 refine av X call205 func205 ntmps205 rfl rfl ?_;intro zb;have ir:d.rows.length≤1048576:=cA hs0;refine aq X [1,2] rfl (aa (aa ?_));have t1:=(aK i 0 (IntKind.i64.wrap ((d.rows.length:Int)-1)));refine aL X [] [(11,⟨false,bq t1⟩)] [1,2,12] [] rfl (by(with_reducible and_intros)<;>first|exact⟨⟩|exact t1) ?_;refine aj rfl ?_ ?_<;>intro hb0
 ·rw[bO (by omega)]at hb0;have hk:rE d i=false:=bH hb0 rfl;exact aq X [4,5] rfl (ak (ah rfl ⟨by rw[rowAt,if_neg (by rw[hk];decide)],by rw[hk],⟨⟩⟩))
 ·rw[bO (by omega)]at hb0;have hk:rE d i=true:=bF hb0 rfl;have hk2:=hk;simp only[rE,b7]at hk2;have hel:=HZ hs0 i.toNat (by omega);exact an (aC X [] [(18,⟨true,[.a (.sl .u8 _)]⟩)] [4,5] [] rfl (by(with_reducible and_intros)<;>first|exact⟨⟩|exact(b9 _ (by first|assumption|omega| (simp;done)| (simp;omega)))| (intros;omega)) (ak (ah rfl ⟨by rw[rowAt,if_pos hk],by rw[hk],⟨⟩⟩)))
theorem dS(c:dF):So 159 [.agg (bG c)] [aA (cC c)]:=by
 refine av X call159 func159 ntmps159 rfl rfl ?_;intro zb;refine aq X [1] rfl (aa (aq X [7] rfl ?_));refine aj rfl ?_ ?_<;>intro hb0
 ·try simp only[aQ]at hb0
  exact aq X [2] rfl (ak (ah rfl ⟨by rw[cC,if_pos hb0],⟨⟩⟩))
 ·try simp only[aQ]at hb0
  exact an (aq X [2] rfl (ak (ah rfl ⟨by rw[cC,if_neg (by omega)],⟨⟩⟩)))
theorem nh(c:dF)(h0:0≤c.sent)(h1:c.sent<c.aM.length):So 162 [.agg (bG c)] [.a (.sl .u8 (kE c c.sent))]:=by
 refine av X call162 func162 ntmps162 rfl rfl ?_;intro zb;refine aq X [1] rfl (aa ?_);have t1:=(CD (qH c.key (cC c)) c.sent (⟨1,(c.aM.getD (c.sent).toNat (aG (.sl .u8)))⟩:Plain));exact aF X [] [(9,⟨false,[aA (cC c)]⟩),(10,⟨false,[aA (qH c.key (cC c))]⟩),(20,⟨true,bq t1⟩)] [3] [] 1048575 0 MO (by kernel_rfl) rfl (by kernel_rfl) (by(with_reducible and_intros);(iterate 3 all_goals try first|exact⟨⟩|exact(dS c)|exact(iH c.key (cC c))|exact t1);all_goals first| (intros;omega)) (aq X [2] rfl (ak (ah rfl ⟨rfl,⟨⟩⟩)))
theorem xq(c:dF)(r n:Int):So 382 [.agg (bG c),aA r,aA n] [aA (mZ c r n), .a (.sl .u8 (gz c r n)),aH (nP c r n)]:=by
 refine av X call382 func382 ntmps382 rfl rfl ?_;intro zb;refine bl 0 4 rfl rfl (fun ir=>(aq X [1,2,3] rfl (aa (aC X [] [(10,⟨false,[aH (c8 c)]⟩),(14,⟨false,[aH (inr r 0 100000)]⟩),(19,⟨false,[aH (inr n 1 64)]⟩)] [1,2,3,21] [] rfl (by(with_reducible and_intros);(iterate 3 all_goals try first|exact⟨⟩|exact(dI c)|exact fun _=>(aP r 0 100000)|exact fun _=>(aP n 1 64))) ?_))));refine aj rfl ?_ ?_<;>intro hb0
 ·have hk:nP c r n=false:=bH hb0 (by simp only[nP,aO]<;>first|rfl|ac_rfl);exact aD X [6,7,8] rfl (by and_intros<;>first|exact⟨⟩|exact rfl) (ak (ah rfl ⟨by rw[mZ,if_neg (by rw[hk];decide)],by rw[gz,if_neg (by rw[hk];decide)],by rw[hk],⟨⟩⟩))
 ·have hk:nP c r n=true:=bF hb0 (by simp only[nP,aO]<;>first|rfl|ac_rfl);have hs:=AZ hk;refine an (aa (aq X [1,2,3,28] rfl ?_));refine aj rfl ?_ ?_<;>intro aV
  ·try simp only[aQ]at aV
   exact aa (aF X [] [(33,⟨false,[aA (cC c)]⟩),(35,⟨false,[aA (fu c.key r (cC c) n)]⟩),(37,⟨true,[.a (.sl .u8 (kE c c.sent))]⟩)] [6,7,8] [] 4095 0 MO (by kernel_rfl) rfl (by kernel_rfl) (by(with_reducible and_intros);(iterate 3 all_goals try first|exact⟨⟩|exact(dS c)|exact(gG c.key r (cC c) n)|exact(nh c (by first|assumption|omega| (simp;done)| (simp;omega)) (by first|assumption|omega| (simp;done)| (simp;omega))))) (ak (ah rfl ⟨by rw[mZ,if_pos hk,if_pos aV],by rw[gz,if_pos hk,if_pos aV],by rw[hk],⟨⟩⟩)))
  ·try simp only[aQ]at aV
   refine an (aa (aF X [] [(42,⟨false,[aA (Cy c.seed r n)]⟩),(47,⟨false,[aA (kh c.seed [r])]⟩),(48,⟨true,[.a (.sl .u8 (cover (kh c.seed [r])))]⟩)] [6,7,8] [] 16383 0 MO (by kernel_rfl) rfl (by kernel_rfl) (by(repeat' with_reducible first|exact aR|refine bf ?_ ?_|apply And.intro);(iterate 3 all_goals try first|exact(CA c.seed r n)|exact(bE c.seed [r] (by first|assumption|omega| (simp;done)| (simp;omega)))|exact(AW (kh c.seed [r])));all_goals first|exact⟨rfl,bA _ (by decide)⟩) ?_));exact ak (ah rfl ⟨by rw[mZ,if_pos hk,if_neg (by omega)],by rw[gz,if_pos hk,if_neg (by omega)],by rw[hk],⟨⟩⟩)
theorem Ei(d:DB)(i:Int)(hs0:cE List.length d.rows≤1048576):So 160 [.agg (aY d),aA i] [.a (.sl .u8 (rowAt d i)),aH (rE d i)]:=by
 refine av X call160 func160 ntmps160 rfl rfl ?_;intro zb;have ir:d.rows.length≤1048576:=cA hs0;refine aq X [1,2] rfl (aa (aa ?_));have t1:=(aP i 0 (IntKind.i64.wrap ((d.rows.length:Int)-1)));refine aL X [] [(11,⟨false,bq t1⟩)] [1,2,12] [] rfl (by(with_reducible and_intros)<;>first|exact⟨⟩|exact t1) ?_;refine aj rfl ?_ ?_<;>intro hb0
 ·rw[bO (by omega)]at hb0;have hk:rE d i=false:=bH hb0 rfl;exact aD X [4,5] rfl (by and_intros<;>first|exact⟨⟩|exact rfl) (ak (ah rfl ⟨by rw[rowAt,if_neg (by rw[hk];decide)],by rw[hk],⟨⟩⟩))
 ·rw[bO (by omega)]at hb0;have hk:rE d i=true:=bF hb0 rfl;have hk2:=hk;simp only[rE,b7]at hk2;have hel:=HZ hs0 i.toNat (by omega);exact an (aC X [(20,14)] [] [4,5] [] rfl (by and_intros<;>first|exact⟨⟩| (intros;omega)|exact rfl| (simp only[dN,maxLen,lens];omega)) (ak (ah rfl ⟨by rw[rowAt,if_pos hk];rfl,by rw[hk],⟨⟩⟩)))
end
section
set_option maxRecDepth 100000
theorem tQ(x:Int):So 347 [aA x] [aH (!inr x 0 1)]:=by
 refine av X call347 func347 ntmps347 rfl rfl ?_;intro zb;exact aq X [0] rfl (aC X [] [(4,⟨false,[aH _]⟩)] [2] [] rfl (by(with_reducible and_intros)<;>first|exact⟨⟩|exact(aK _ _ _)) (ak (ah rfl ⟨rfl,⟨⟩⟩)))
theorem ju(v:List Int)(rows:Int):So 289 [.a (.sl .int v),aA rows] [aH (fY v rows)]:=by
 refine av X call289 func289 ntmps289 rfl rfl ?_;intro zb;exact aq X [0,1] rfl (aC X [] [(6,⟨false,[aH (inr rows 0 64)]⟩),(15,⟨false,[aH (v.any fun x=> !inr x 0 1)]⟩)] [4] [] rfl (by(with_reducible and_intros);(iterate 2 all_goals try first|exact⟨⟩|exact(aK rows 0 64)|exact fun _=>(lI _ _ _ tQ))) (ak (ah rfl ⟨by rw[Mz];exact(congrArg Value.bool (by simp only[aO]<;>first|rfl|ac_rfl)),⟨⟩⟩)))
theorem jv(v:List Int)(rows:Int):So 310 [.a (.sl .int v),aA rows] [aH (fY v rows)]:=by
 refine av X call310 func310 ntmps310 rfl rfl ?_;intro zb;refine ct 0 rfl (fun ir=>(aq X [0,1] rfl (aa (aq X [0,1,5] rfl ?_))));refine au (aE (fun k=>k≤v.length∧(v.take k).all (fun x=>inr x 0 1)=true) (fun k:Nat=> [(5, .one ((aA k)))]) (fun k=> []) (fun k=>v.length-k) 0 (fun k=>rfl) ⟨Nat.zero_le _,rfl⟩ rfl ?_);rintro k ⟨hk,hall⟩;refine aa (aq X [0,1,5,9] rfl ?_);refine aj rfl ?_ ?_<;>intro hb0
 ·try simp only[aQ]at hb0
  refine an (aa (au (aC X [] [(16,⟨false,[aH (inr (v.getD k (aG .int)) 0 1)]⟩)] [0,1,5,17] [] rfl (by(with_reducible and_intros)<;>first|exact⟨⟩|exact(aP (v.getD k (aG .int)) 0 1)| (intros;omega)) ?_)));refine aj rfl ?_ ?_<;>intro aV
  ·exact aq X [4] rfl (ak (ah rfl ⟨by rw[fY,Ea _ _ (aG .int) k hb0 (by simpa using aV)];simp,⟨⟩⟩))
  ·refine an (bg X [0,1,5] rfl ?_);refine⟨k+1,⟨by omega,by rw[tF _ _ _ (aG .int) hb0,hall];simpa using aV⟩,by omega,?_⟩;rw[bh _ k rfl (by omega)];try rfl
 ·try simp only[aQ]at hb0
  exact aI (aq X [4] rfl (ak (ah rfl ⟨by rw[List.take_of_length_le hb0]at hall;rw[fY,hall];exact(congrArg Value.bool (by simp only[aO]<;>first|rfl|ac_rfl)),⟨⟩⟩)))
theorem j7(sd rows:Int):So 225 [aA sd,aA rows] [.a (.sl .int (cg sd rows))]:=by
 refine av X call225 func225 ntmps225 rfl rfl ?_;intro zb;refine aq X [0,1] rfl (aa (aC X [] [(9,⟨false,[aH (inr rows 0 64)]⟩)] [0,1,10] [] rfl (by(with_reducible and_intros)<;>first|exact⟨⟩|exact(aK rows 0 64)) ?_));refine aj rfl ?_ ?_<;>intro hb0
 ·try simp only[aQ]at hb0
  exact aq X [4] rfl (ak (ah rfl ⟨by rw[cg,if_neg (by omega)],⟨⟩⟩))
 ·try simp only[aQ]at hb0
  refine an (aD X [0,1,5] rfl (by and_intros<;>first|exact⟨⟩|exact rfl) (aa (aq X [0,5,12,13] rfl ?_)));refine au (aE (fun k=>k≤rows.toNat) (fun k:Nat=> [(13, .one ((aA k)))]) (fun k=> [(11, .arr .int ((cg sd rows).take k))]) (fun k=>rows.toNat-k) 0 (fun k=>rfl) (Nat.zero_le _) rfl ?_);intro k hk;have hle:=bC (cg sd rows) k;have hrl:=gU sd rows;refine aq X [0,5,12,13,14] rfl ?_;refine aa (aj rfl ?_ ?_)<;>intro aV
  ·try simp only[aQ]at aV
   have hs:=yT sd rows k (by omega) (by omega);refine an (aa (au (aq X [0,5,6,12,13] rfl (aC X [] [(19,⟨false,[aA (kh sd [(k:Int),41])]⟩)] [0,5,7,12,13] [] rfl (by(repeat' with_reducible first|exact aR|refine bf ?_ ?_|apply And.intro)<;>first|exact(bD sd [(k:Int),41] (by first|assumption|omega| (simp;done)| (simp;omega)))|exact⟨rfl,bA _ (by decide)⟩) ?_))));refine aL X [(28,11)] [] [0,5,12,13] [] rfl (by and_intros<;>first|exact⟨⟩| (intros;omega)|exact rfl| (simp only[dN,maxLen,lens];omega)) (bg X [0,5,12,13] rfl ?_);refine⟨k+1,by omega,by omega,?_⟩;rw[bh _ k rfl (by omega),hs];try rfl
  ·try simp only[aQ]at aV
   exact aI (aq X [4] rfl (ak (ah rfl ⟨by rw[Ca _ _ _ (by omega)],⟨⟩⟩)))
theorem tR(rows i:Int):So 224 [aA rows,aA i] [.a (.sl .int (yV rows i))]:=by
 refine av X call224 func224 ntmps224 rfl rfl ?_;intro zb;refine aq X [0,1] rfl (aa (aC X [] [(7,⟨false,[aH (inr rows 1 64)]⟩),(13,⟨false,[aH (inr i 0 (IntKind.i64.wrap (rows-1)))]⟩)] [0,1,15] [] rfl (by(with_reducible and_intros);(iterate 2 all_goals try first|exact⟨⟩|exact(aK rows 1 64)|exact fun _=>(aK i 0 (IntKind.i64.wrap (rows-1))))) ?_));refine aj rfl ?_ ?_<;>intro hb0
 ·have hk:j6 rows i=false:=bH hb0 (by simp only[j6,aO]<;>first|rfl|ac_rfl);exact aq X [4] rfl (ak (ah rfl ⟨by rw[A3 hk],⟨⟩⟩))
 ·have hk:j6 rows i=true:=bF hb0 (by simp only[j6,aO]<;>first|rfl|ac_rfl);have hu:=Ek hk;exact an (aD X [1,5] rfl (by and_intros<;>first|exact⟨⟩| (intros;omega)|exact rfl| (simp only[dN,maxLen,lens];omega)) (aD X [5] rfl (by and_intros<;>first|exact⟨⟩| (intros;omega)| (simp only[dN,maxLen,lens];omega)) (aq X [4] rfl (ak (ah rfl ⟨by rw[A2 hk],⟨⟩⟩)))))
theorem tS(a b:List Int)(ha:a.length≤1048576)(hb:b.length≤1048576):So 226 [.a (.sl .int a), .a (.sl .int b)] [.a (.sl .int (oO a b))]:=by
 refine av X call226 func226 ntmps226 rfl rfl ?_;intro zb;refine aq X [0,1] rfl (aa (aC X [] [(11,⟨false,[aH (fY a (a.length:Int))]⟩),(17,⟨false,[aH (fY b (a.length:Int))]⟩)] [0,1,19] [] rfl (by(with_reducible and_intros);(iterate 2 all_goals try first|exact⟨⟩|exact(ju a (a.length:Int))|exact fun _=>(ju b (a.length:Int)))) ?_));refine aj rfl ?_ ?_<;>intro hb0
 ·have wO:kG a b=false:=bH hb0 (by simp only[kG,aO]<;>first|rfl|ac_rfl);exact aq X [4] rfl (ak (ah rfl ⟨by rw[oO,if_neg (by rw[wO];decide)],⟨⟩⟩))
 ·have wO:kG a b=true:=bF hb0 (by simp only[kG,aO]<;>first|rfl|ac_rfl);have yX:=mF wO;have hzl:=yU wO;refine an (aC X [] [(21,⟨true,[.a (.sl .int _)]⟩)] [1,5] [] rfl (by(with_reducible and_intros)<;>first|exact⟨⟩|exact(gb _ (by first|assumption|omega| (simp;done)| (simp;omega)))) (aa (aq X [5,22,23,24] rfl ?_)));refine au (aE (fun k=>k≤b.length) (fun k:Nat=> [(24, .one ((aA k)))]) (fun k=> [(21, .arr .int ((List.zipWith xb a b).take k++a.drop k))]) (fun k=>b.length-k) 0 (fun k=>rfl) (Nat.zero_le _) rfl ?_);intro k hk;have hle:=jW (List.zipWith xb a b) a k hzl (by omega);refine aq X [5,22,23,24,25] rfl ?_;refine aa (aj rfl ?_ ?_)<;>intro aV
  ·try simp only[aQ]at aV
   have hs:=Ki wO k aV;refine an (aa (au (aD X [5,6,7,22,23,24] rfl (by and_intros<;>first|exact⟨⟩| (intros;omega)) (dy X [5,22,23,24] rfl (by and_intros<;>first|exact⟨⟩| (intros;omega)) (bg X [5,22,23,24] rfl ?_)))));refine⟨k+1,by omega,by omega,?_⟩;rw[bh _ k rfl (by omega),hs];try rfl
  ·try simp only[aQ]at aV
   exact aI (aq X [4] rfl (ak (ah rfl ⟨by rw[mA _ _ _ hzl (by omega),xu wO],⟨⟩⟩)))
theorem A8(rows i:Int)(sd:List Int)(yH:sd.length≤1048576):So 142 [aA rows,aA i, .a (.sl .int sd)] [.a (.sl (.sl .int) (pF rows i sd))]:=by
 refine av X call142 func142 ntmps142 rfl rfl ?_;intro zb;have hun:=A4 rows i;refine aq X [0,1,2] rfl (aC X [] [(14,⟨true,[.a (.sl .int _)]⟩)] [0,2,7] [] rfl (by(with_reducible and_intros)<;>first|exact⟨⟩|exact(tR _ _)) (aa (aC X [] [(22,⟨false,[aH (bT (IntKind.i64.wrap ((sd.length:Int)+1)))]⟩)] [0,2,7,24] [] rfl (by(with_reducible and_intros)<;>first|exact⟨⟩|exact fun _=>(cN (IntKind.i64.wrap ((sd.length:Int)+1)))) ?_)));refine aj rfl ?_ ?_<;>intro hb0
 ·have hmk:Em rows i sd=false:=bH hb0 (by simp only[Em,aO]<;>first|rfl|ac_rfl);exact aq X [6] rfl (ak (ah rfl ⟨by rw[pF,if_neg (by rw[hmk];decide)],⟨⟩⟩))
 ·have hmk:Em rows i sd=true:=bF hb0 (by simp only[Em,aO]<;>first|rfl|ac_rfl);have yX:=Kk hmk yH;refine an (aD X [0,2,7,8] rfl (by and_intros<;>first|exact⟨⟩|exact rfl) (aa (aq X [0,7,8,26,27,28] rfl ?_)));refine au (aE (fun k=>k≤sd.length) (fun k:Nat=> [(28, .one ((aA k)))]) (fun k=> [(25, .arr (.sl .int) ((sd.take k).map fun s=>cg s rows)),(14, .arr .int (yW rows i (sd.take k)))]) (fun k=>sd.length-k) 0 (fun k=>rfl) (Nat.zero_le _) rfl ?_);intro k hk;have hle:=bC sd k;have hql:=A5 rows i (sd.take k);refine aq X [0,7,8,26,27,28,29] rfl ?_;refine aa (aj rfl ?_ ?_)<;>intro aV
  ·try simp only[aQ]at aV
   have hs:=lH (fun s=>cg s rows) sd k (aG .int) aV;have hs2:=En rows i sd k aV;have hrl:=gU (sd.getD k (aG .int)) rows;refine an (aa (au (aD X [0,7,8,10,26,27,28] rfl (by and_intros<;>first|exact⟨⟩| (intros;omega)) (aC X [] [(34,⟨true,[.a (.sl .int (cg (sd.getD k (aG .int)) rows))]⟩)] [0,7,8,11,26,27,28] [] rfl (by(with_reducible and_intros)<;>first|exact⟨⟩|exact(j7 (sd.getD k (aG .int)) rows)) (aa (Of X [(38,25)] [] [0,7,8,11,26,27,28] 2 25 rfl (by and_intros<;>first|exact⟨⟩|exact rfl| (simp only[dN,maxLen,lens];omega)) ?_))))));have t1:=(tS (yW rows i (sd.take k)) (cg (sd.getD k (aG .int)) rows) (by first|assumption|omega| (simp;done)| (simp;omega)) (by first|assumption|omega| (simp;done)| (simp;omega)));refine aL X [] [(41,⟨true,bq t1⟩)] [0,7,8,26,27,28] [] rfl (by(with_reducible and_intros)<;>first|exact⟨⟩|exact t1) (mG 7 14 rfl (bg X [0,7,8,26,27,28] rfl ?_));refine⟨k+1,by omega,by omega,?_⟩;rw[bh _ k rfl (by omega),hs,hs2];try rfl
  ·try simp only[aQ]at aV
   exact aI (aC X [(46,25)] [] [6] [] rfl (by and_intros<;>first|exact⟨⟩|exact rfl| (simp only[dN,maxLen,lens];omega)) (ak (ah rfl ⟨by rw[List.take_of_length_le aV,pF,if_pos hmk],⟨⟩⟩)))
theorem j8(sd rows:Int):So 250 [aA sd,aA rows] [.a (.sl .int (cg sd rows))]:=by
 refine av X call250 func250 ntmps250 rfl rfl ?_;intro zb;refine aq X [0,1] rfl (aD X [0,1,5] rfl (by and_intros<;>first|exact⟨⟩|exact rfl) (aa (aq X [0,1,5,6] rfl ?_)));refine au (aE (fun k=>k≤(cg sd rows).length) (fun k:Nat=> [(6, .one ((aA k)))]) (fun k=> [(8, .arr .int ((cg sd rows).take k))]) (fun k=>(cg sd rows).length-k) 0 (fun k=>rfl) (Nat.zero_le _) rfl ?_);intro k hk;have hle:=bC (cg sd rows) k;have hrl:=gU sd rows;refine aa (aq X [0,1,5,6,15] rfl ?_);refine aj rfl ?_ ?_<;>intro hb0
 ·try simp only[aQ]at hb0
  have hin:=Ej sd rows k (by omega) (by omega);have hs:=yT sd rows k (by omega) (by omega);refine an (aa (au (aC X [] [(21,⟨false,[aA (kh sd [(k:Int),41])]⟩)] [0,1,5,6,7] [] rfl (by(repeat' with_reducible first|exact aR|refine bf ?_ ?_|apply And.intro)<;>first|exact(bE sd [(k:Int),41] (by first|assumption|omega| (simp;done)| (simp;omega)))|exact⟨rfl,bA _ (by decide)⟩) ?_)));refine aL X [(30,8)] [] [0,1,5,6] [] rfl (by and_intros<;>first|exact⟨⟩| (intros;omega)|exact rfl| (simp only[dN,maxLen,lens];omega)) (bg X [0,1,5,6] rfl ?_);refine⟨k+1,by omega,by omega,?_⟩;rw[bh _ k rfl (by omega),hs];try rfl
 ·try simp only[aQ]at hb0
  exact aI (aq X [4] rfl (ak (ah rfl ⟨by rw[Ca _ _ _ (by omega)],⟨⟩⟩)))
theorem tT(rows i:Int):So 249 [aA rows,aA i] [.a (.sl .int (yV rows i))]:=by
 refine av X call249 func249 ntmps249 rfl rfl ?_;intro zb;refine aq X [0,1] rfl (aa (aC X [] [(7,⟨false,[aH (inr rows 1 64)]⟩),(13,⟨false,[aH (inr i 0 (IntKind.i64.wrap (rows-1)))]⟩)] [0,1,15] [] rfl (by(with_reducible and_intros);(iterate 2 all_goals try first|exact⟨⟩|exact(aP rows 1 64)|exact fun _=>(aP i 0 (IntKind.i64.wrap (rows-1))))) ?_));refine aj rfl ?_ ?_<;>intro hb0
 ·have hk:j6 rows i=false:=bH hb0 (by simp only[j6,aO]<;>first|rfl|ac_rfl);exact aD X [4] rfl (by and_intros<;>first|exact⟨⟩|exact rfl) (ak (ah rfl ⟨by rw[A3 hk],⟨⟩⟩))
 ·have hk:j6 rows i=true:=bF hb0 (by simp only[j6,aO]<;>first|rfl|ac_rfl);have hu:=Ek hk;exact an (aD X [1,5] rfl (by and_intros<;>first|exact⟨⟩| (intros;omega)|exact rfl| (simp only[dN,maxLen,lens];omega)) (aD X [5] rfl (by and_intros<;>first|exact⟨⟩| (intros;omega)| (simp only[dN,maxLen,lens];omega)) (aq X [4] rfl (ak (ah rfl ⟨by rw[A2 hk],⟨⟩⟩)))))
theorem tU(a b:List Int)(ha:a.length≤1048576)(hb:b.length≤1048576):So 251 [.a (.sl .int a), .a (.sl .int b)] [.a (.sl .int (oO a b))]:=by
 refine av X call251 func251 ntmps251 rfl rfl ?_;intro zb;refine aq X [0,1] rfl (aD X [0,1,5] rfl (by and_intros<;>first|exact⟨⟩|exact rfl) (aa (aC X [] [(11,⟨false,[aH (fY a (a.length:Int))]⟩),(17,⟨false,[aH (fY b (a.length:Int))]⟩)] [0,1,5,19] [] rfl (by(with_reducible and_intros);(iterate 2 all_goals try first|exact⟨⟩|exact(jv a (a.length:Int))|exact fun _=>(jv b (a.length:Int)))) ?_)));refine aj rfl ?_ ?_<;>intro hb0
 ·have wO:kG a b=false:=bH hb0 (by simp only[kG,aO]<;>first|rfl|ac_rfl);exact aq X [4] rfl (ak (ah rfl ⟨by rw[oO,if_neg (by rw[wO];decide)],⟨⟩⟩))
 ·have wO:kG a b=true:=bF hb0 (by simp only[kG,aO]<;>first|rfl|ac_rfl);have yX:=mF wO;have hzl:=yU wO;refine an (aa (aq X [0,1,5,6] rfl ?_));refine au (aE (fun k=>k≤a.length) (fun k:Nat=> [(6, .one ((aA k)))]) (fun k=> [(7, .arr .int ((List.zipWith xb a b).take k))]) (fun k=>a.length-k) 0 (fun k=>rfl) (Nat.zero_le _) rfl ?_);intro k hk;have hle:=bC (List.zipWith xb a b) k;refine aa (aq X [0,1,5,6,24] rfl ?_);refine aj rfl ?_ ?_<;>intro aV
  ·try simp only[aQ]at aV
   have hs:=Kj wO k aV;refine an (aa (au (aF X [(38,7)] [] [0,1,5,6] [] 2047 0 MO (by kernel_rfl) rfl (by kernel_rfl) (by and_intros<;>first|exact⟨⟩| (intros;omega)|exact rfl| (simp only[dN,maxLen,lens];omega)) (bg X [0,1,5,6] rfl ?_))));refine⟨k+1,by omega,by omega,?_⟩;rw[bh _ k rfl (by omega),hs];try rfl
  ·try simp only[aQ]at aV
   exact aI (aq X [4] rfl (ak (ah rfl ⟨by rw[List.take_of_length_le (by omega),xu wO],⟨⟩⟩)))
theorem A9(rows i:Int)(sd:List Int)(yH:sd.length≤1048576):So 175 [aA rows,aA i, .a (.sl .int sd)] [.a (.sl (.sl .int) (pF rows i sd))]:=by
 refine av X call175 func175 ntmps175 rfl rfl ?_;intro zb;have hun:=A4 rows i;refine aq X [0,1,2] rfl (aD X [0,1,2,7] rfl (by and_intros<;>first|exact⟨⟩|exact rfl) (aC X [] [(14,⟨true,[.a (.sl .int _)]⟩)] [0,2,7,8] [] rfl (by(with_reducible and_intros)<;>first|exact⟨⟩|exact(tT _ _)) (aa (aC X [] [(22,⟨false,[aH (bT (IntKind.i64.wrap ((sd.length:Int)+1)))]⟩)] [0,2,7,8,24] [] rfl (by(with_reducible and_intros)<;>first|exact⟨⟩|exact fun _=>(ez (IntKind.i64.wrap ((sd.length:Int)+1)))) ?_))));refine aj rfl ?_ ?_<;>intro hb0
 ·have hmk:Em rows i sd=false:=bH hb0 (by simp only[Em,aO]<;>first|rfl|ac_rfl);exact aq X [6] rfl (ak (ah rfl ⟨by rw[pF,if_neg (by rw[hmk];decide)],⟨⟩⟩))
 ·have hmk:Em rows i sd=true:=bF hb0 (by simp only[Em,aO]<;>first|rfl|ac_rfl);have yX:=Kk hmk yH;refine an (aa (aq X [0,2,7,8,9] rfl ?_));refine au (aE (fun k=>k≤sd.length) (fun k:Nat=> [(9, .one ((aA k)))]) (fun k=> [(11, .arr (.sl .int) ((sd.take k).map fun s=>cg s rows)),(14, .arr .int (yW rows i (sd.take k)))]) (fun k=>sd.length-k) 0 (fun k=>rfl) (Nat.zero_le _) rfl ?_);intro k hk;have hle:=bC sd k;have hql:=A5 rows i (sd.take k);refine aa (aq X [0,2,7,8,9,29] rfl ?_);refine aj rfl ?_ ?_<;>intro aV
  ·try simp only[aQ]at aV
   have hs:=lH (fun s=>cg s rows) sd k (aG .int) aV;have hs2:=En rows i sd k aV;have hrl:=gU (sd.getD k (aG .int)) rows;refine an (aa (au (aC X [] [(37,⟨true,[.a (.sl .int (cg (sd.getD k (aG .int)) rows))]⟩)] [0,2,7,8,9,10] [] rfl (by(with_reducible and_intros)<;>first|exact⟨⟩|exact(j8 (sd.getD k (aG .int)) rows)| (intros;omega)) (aa ?_))));have t1:=(tU (yW rows i (sd.take k)) (cg (sd.getD k (aG .int)) rows) (by first|assumption|omega| (simp;done)| (simp;omega)) (by first|assumption|omega| (simp;done)| (simp;omega)));refine aL X [] [(40,⟨true,bq t1⟩)] [0,2,7,8,9,10] [] rfl (by(with_reducible and_intros)<;>first|exact⟨⟩|exact t1) (mG 8 14 rfl (aL X [(44,11)] [] [0,2,7,8,9] [] rfl (by and_intros<;>first|exact⟨⟩|exact rfl| (simp only[dN,maxLen,lens];omega)) (bg X [0,2,7,8,9] rfl ?_)));refine⟨k+1,by omega,by omega,?_⟩;rw[bh _ k rfl (by omega),hs,hs2];try rfl
  ·try simp only[aQ]at aV
   exact aI (aC X [(48,11)] [] [6] [] rfl (by and_intros<;>first|exact⟨⟩|exact rfl| (simp only[dN,maxLen,lens];omega)) (ak (ah rfl ⟨by rw[List.take_of_length_le aV,pF,if_pos hmk],⟨⟩⟩)))
end
section
set_option maxRecDepth 100000
theorem Ba(x:aW)(r row s:Int)(hsv:x.az.length≤1048576):So 143 [.agg (aN x),aA r,aA row,aA s] [.a (.sl .int (gA x.az.length r row s))]:=by
 refine av X call143 func143 ntmps143 rfl rfl ?_;intro zb;have hw:IntKind.i64.wrap ((x.az.length:Int)-1)=(x.az.length:Int)-1:=bO (by omega);refine aq X [1,2,3,4] rfl (aD X [1,2,3,4,9] rfl (by and_intros<;>first|exact⟨⟩|exact rfl) (aa (aq X [1,2,3,9,16,17] rfl ?_)));refine au (aE (fun k=>k≤(x.az.length-1)) (fun k:Nat=> [(17, .one ((aA k)))]) (fun k=> [(11, .arr .int ((gA x.az.length r row s).take k))]) (fun k=>(x.az.length-1)-k) 0 (fun k=>rfl) (Nat.zero_le _) rfl ?_);intro k hk;have hle:=bC (gA x.az.length r row s) k;have hrl:=ni x.az.length r row s;refine aq X [1,2,3,9,16,17,18] rfl ?_;refine aa (aj rfl ?_ ?_)<;>intro hb0
 ·try simp only[aQ]at hb0
  rw[Oe _ hsv]at hb0;have hs:=Cb x.az.length r row s k (by omega);refine an (aa (au (aq X [1,2,3,9,10,16,17] rfl (aL X [(28,11)] [(26,⟨false,[aA (kh s [229,r,row,(k:Int)])]⟩)] [1,2,3,9,16,17] [] rfl (by(repeat' with_reducible first|exact aR|refine bf ?_ ?_|apply And.intro)<;>first|exact(bD s [229,r,row,(k:Int)] (by first|assumption|omega| (simp;done)| (simp;omega)))|exact rfl|exact⟨rfl,bA _ (by decide)⟩| (simp only[dN,maxLen,lens];omega)) ?_))));refine bg X [1,2,3,9,16,17] rfl ?_;refine⟨k+1,by omega,by omega,?_⟩;rw[bh _ k rfl (by omega),hs];try rfl
 ·try simp only[aQ]at hb0
  rw[Oe _ hsv]at hb0;exact aI (aq X [8] rfl (ak (ah rfl ⟨by rw[List.take_of_length_le (by omega)],⟨⟩⟩)))
end
section
set_option maxRecDepth 100000
theorem cG(d:DB)(hs0:cE List.length d.rows≤1048576):So 223 [.agg (aY d)] [.agg (aY d)]:=by
 refine av X call223 func223 ntmps223 rfl rfl ?_;intro zb;exact aq X [1,2] rfl (aC X [] [(5,⟨true,[.a (.sl (.sl .u8) d.rows)]⟩)] [2] [] rfl (by(with_reducible and_intros)<;>first|exact⟨⟩|exact(kR d.rows (by first|assumption|omega| (simp;done)| (simp;omega)))) (ak (ah rfl ⟨rfl,⟨⟩⟩)))
theorem eg(d:DB)(hs0:cE List.length d.rows≤1048576):So 248 [.agg (aY d)] [.agg (aY d)]:=by
 refine av X call248 func248 ntmps248 rfl rfl ?_;intro zb;exact aq X [1,2] rfl (aC X [] [(5,⟨true,[.a (.sl (.sl .u8) d.rows)]⟩)] [2] [] rfl (by(with_reducible and_intros)<;>first|exact⟨⟩|exact(oL d.rows (by first|assumption|omega| (simp;done)| (simp;omega)))) (ak (ah rfl ⟨rfl,⟨⟩⟩)))
theorem nj(rows:Int):So 373 [aA rows] [.agg (aY (dD rows))]:=by
 refine av X call373 func373 ntmps373 rfl rfl ?_;intro zb;refine aq X [0,2] rfl (aq X [0,2,3] rfl (cm 3 0 60 (.sl .u8) rfl (aa (aC X [] [(6,⟨false,[aH (inr rows 0 64)]⟩)] [0,2,3,6] [] rfl (by(with_reducible and_intros)<;>first|exact⟨⟩|exact(aK rows 0 64)) ?_))));refine aj rfl ?_ ?_<;>intro hb0
 ·try simp only[aQ]at hb0
  refine aq X [2,3,7,8] rfl ?_;refine au (aE (fun k=>k≤rows.toNat) (fun k:Nat=> [(8, .one ((aA k)))]) (fun k=> [(60, .arr (.sl .u8) ((dD rows).rows.take k))]) (fun k=>rows.toNat-k) 0 (fun k=>rfl) (Nat.zero_le _) rfl ?_);intro k hk;have hle:=bC (dD rows).rows k;have Yn:=pG rows;refine aq X [2,3,7,8,9] rfl ?_;refine aa (aj rfl ?_ ?_)<;>intro aV
  ·try simp only[aQ]at aV
   have hs:=Es rows k (by omega) (by omega);refine an (aa (au (aF X [(14,60)] [(500013,⟨true,[]⟩)] [2,3,7,8] [] 15 0 MO (by kernel_rfl) rfl (by kernel_rfl) (by and_intros<;>first|exact⟨⟩| (intros;omega)|exact rfl| (simp only[dN,maxLen,lens];omega)) (bg X [2,3,7,8] rfl ?_))));refine⟨k+1,by omega,by omega,?_⟩;rw[bh _ k rfl (by omega),hs];try rfl
  ·try simp only[aQ]at aV
   exact aI (aD X [2] rfl (by trivial) (ak (ah rfl ⟨by rw[Gx _ _ (by omega)],⟨⟩⟩)))
 ·try simp only[aQ]at hb0
  exact an (aD X [2] rfl (by trivial) (ak (ah rfl ⟨by unfold dD;dsimp only;rw[if_neg (by omega)],⟨⟩⟩)))
theorem y8(d:DB)(i:Int)(c:List UInt8)(hs0:cE List.length d.rows≤1048576)(hc:c.length≤1048576):So 397 [.agg (aY d),aA i, .a (.sl .u8 c)] [.agg (aY (Cd d i c)),aH (kH d i c)]:=by
 refine av X call397 func397 ntmps397 rfl rfl ?_;intro zb;have ir:d.rows.length≤1048576:=cA hs0;refine aq X [1,2,3,6] rfl (aC X [] [(10,⟨true,[.agg (aY d)]⟩)] [1,2,3,6,8] [] rfl (by(with_reducible and_intros)<;>first|exact⟨⟩|exact(cG d (by first|assumption|omega| (simp;done)| (simp;omega)))) (aa (aa ?_)));have t1:=(aK i 0 (IntKind.i64.wrap ((d.rows.length:Int)-1)));refine aL X [] [(16,⟨false,bq t1⟩)] [1,2,6,8,22] [] rfl (by(with_reducible and_intros)<;>first|exact⟨⟩|exact t1) ?_;refine aj rfl ?_ ?_<;>intro hb0
 ·have FH:kH d i c=false:=bH hb0 (by simp only[kH,aO]<;>first|rfl|ac_rfl);exact aD X [6,7] rfl (by trivial) (ak (ah rfl ⟨by rw[Gy FH],by rw[FH],⟨⟩⟩))
 ·have FH:kH d i c=true:=bF hb0 (by simp only[kH,aO]<;>first|rfl|ac_rfl);have hrb:=Ib ir FH;exact an (aa (aF X [] [(28,⟨true,[.a (.sl .u8 _)]⟩)] [6,8] [] 63 0 MO (by kernel_rfl) rfl (by kernel_rfl) (by(with_reducible and_intros)<;>first|exact⟨⟩|exact(b9 _ (by first|assumption|omega| (simp;done)| (simp;omega)))| (intros;omega)) (aD X [6,7] rfl (by trivial) (ak (ah rfl ⟨by rw[vC FH],by rw[FH],⟨⟩⟩)))))
theorem iI(a b:DB)(hs0:cE List.length a.rows≤1048576)(hs1:cE List.length b.rows≤1048576):So 324 [.agg (aY a), .agg (aY b)] [.agg (aY (gu a b)),aH (iz a b)]:=by
 refine av X call324 func324 ntmps324 rfl rfl ?_;intro zb;have hla:a.rows.length≤1048576:=cA hs0;have hlb:b.rows.length≤1048576:=cA hs1;refine aq X [2,3,4] rfl (aC X [] [(10,⟨true,[.agg (aY a)]⟩)] [2,3,4,6] [] rfl (by(with_reducible and_intros)<;>first|exact⟨⟩|exact(cG a (by first|assumption|omega| (simp;done)| (simp;omega)))) (aa (aC X [] [(12,⟨false,[aH (cL a)]⟩),(16,⟨false,[aH (cL b)]⟩)] [3,4,6,27] [] rfl (by(with_reducible and_intros);(iterate 2 all_goals try first|exact⟨⟩|exact(dc a)|exact fun _=>(dc b))) ?_)));refine aj rfl ?_ ?_<;>intro hb0
 ·have wO:iz a b=false:=bH hb0 (by simp only[iz,aO]<;>first|rfl|ac_rfl);exact aD X [4,5] rfl (by trivial) (ak (ah rfl ⟨by rw[pH wO],by rw[wO],⟨⟩⟩))
 ·have wO:iz a b=true:=bF hb0 (by simp only[iz,aO]<;>first|rfl|ac_rfl);have XY:=tV wO;have hxl:=jx wO;refine an (aa (aq X [4,6,30,31,32] rfl ?_));refine au (aE (fun k=>k≤b.rows.length) (fun k:Nat=> [(32, .one ((aA k)))]) (fun k=> [(10, .arr (.sl .u8) ((fJ a b).take k++a.rows.drop k))]) (fun k=>b.rows.length-k) 0 (fun k=>rfl) (Nat.zero_le _) rfl ?_);intro k hk;have hle:=jW (fJ a b) a.rows k hxl (by omega);refine aq X [4,6,30,31,32,33] rfl ?_;refine aa (aj rfl ?_ ?_)<;>intro aV
  ·try simp only[aQ]at aV
   have hs:=Kn wO k aV;have ab7:(a.rows.getD k (aG (.sl .u8))).length≤1048576:=by rw[nZ XY.1 k (by omega)];decide
   have aey:(b.rows.getD k (aG (.sl .u8))).length≤1048576:=by rw[nZ XY.2.1 k (by omega)];decide
   have hel:(((fJ a b).take k++a.rows.drop k).getD k (aG (.sl .u8))).length≤1048576:=by rw[WI wO k aV];exact ab7
   refine an (aa (au (aD X [4,6,7,8,30,31,32] rfl (by and_intros<;>first|exact⟨⟩| (intros;omega)) ?_)));have t1:=(iY (((fJ a b).take k++a.rows.drop k).getD k (aG (.sl .u8))) (b.rows.getD k (aG (.sl .u8))) (by first|assumption|omega| (simp;done)| (simp;omega)) (by first|assumption|omega| (simp;done)| (simp;omega)));refine aF X [] [(46,⟨true,bq t1⟩)] [4,6,30,31,32] [] 2047 0 MO (by kernel_rfl) rfl (by kernel_rfl) (by(with_reducible and_intros)<;>first|exact⟨⟩|exact t1| (intros;omega)) (bg X [4,6,30,31,32] rfl ?_);refine⟨k+1,by omega,by omega,?_⟩;rw[bh _ k rfl (by omega),hs];try rfl
  ·try simp only[aQ]at aV
   exact aI (aD X [4,5] rfl (by trivial) (ak (ah rfl ⟨by rw[mA _ _ _ hxl (by omega),vD wO],by rw[wO],⟨⟩⟩)))
theorem za(x:aW)(c:Int)(hsv:x.az.length≤1048576):So 316 [.agg (aN x),aA c] [.a (.sl .int (gV x c))]:=by
 refine av X call316 func316 ntmps316 rfl rfl ?_;intro zb;have hw:IntKind.i64.wrap ((x.az.length:Int)-1)=(x.az.length:Int)-1:=bO (by omega);refine aq X [1,2] rfl (aD X [1,2,5] rfl (by and_intros<;>first|exact⟨⟩|exact rfl) (aa (aq X [1,2,5,12,13] rfl ?_)));refine au (aE (fun k=>k≤(x.az.length-1)) (fun k:Nat=> [(13, .one ((aA k)))]) (fun k=> [(7, .arr .int ((gV x c).take k))]) (fun k=>(x.az.length-1)-k) 0 (fun k=>rfl) (Nat.zero_le _) rfl ?_);intro k hk;have hle:=bC (gV x c) k;have hrl:=jy x c;refine aq X [1,2,5,12,13,14] rfl ?_;refine aa (aj rfl ?_ ?_)<;>intro hb0
 ·try simp only[aQ]at hb0
  rw[Oe _ hsv]at hb0;have hs:=Ce x c k (by omega);refine an (aa (au (aq X [1,2,5,6,12,13] rfl (aL X [(26,7)] [(24,⟨false,[aA (kh x.seed [223,x.round,c,(k:Int)])]⟩)] [1,2,5,12,13] [] rfl (by(repeat' with_reducible first|exact aR|refine bf ?_ ?_|apply And.intro)<;>first|exact(bD x.seed [223,x.round,c,(k:Int)] (by first|assumption|omega| (simp;done)| (simp;omega)))|exact rfl|exact⟨rfl,bA _ (by decide)⟩| (simp only[dN,maxLen,lens];omega)) ?_))));refine bg X [1,2,5,12,13] rfl ?_;refine⟨k+1,by omega,by omega,?_⟩;rw[bh _ k rfl (by omega),hs];try rfl
 ·try simp only[aQ]at hb0
  rw[Oe _ hsv]at hb0;exact aI (aq X [4] rfl (ak (ah rfl ⟨by rw[List.take_of_length_le (by omega)],⟨⟩⟩)))
theorem nk(rows:Int):So 406 [aA rows] [.agg (aY (dD rows))]:=by
 refine av X call406 func406 ntmps406 rfl rfl ?_;intro zb;refine aq X [0,2] rfl (aq X [0,2,3] rfl (cm 3 0 60 (.sl .u8) rfl (aa (aq X [0,2,3,4] rfl ?_))));refine au (aE (fun k=>k≤(dD rows).rows.length) (fun k:Nat=> [(4, .one ((aA k)))]) (fun k=> [(60, .arr (.sl .u8) ((dD rows).rows.take k))]) (fun k=>(dD rows).rows.length-k) 0 (fun k=>rfl) (Nat.zero_le _) rfl ?_);intro k hk;have hle:=bC (dD rows).rows k;have Yn:=pG rows;refine aa (aq X [0,2,3,4,12] rfl ?_);refine aj rfl ?_ ?_<;>intro hb0
 ·try simp only[aQ]at hb0
  have hin:=S3 rows k (by omega) (by omega);have hs:=Es rows k (by omega) (by omega);refine an (aa (au (aF X [(19,60)] [(500018,⟨true,[]⟩)] [0,2,3,4] [] 15 0 MO (by kernel_rfl) rfl (by kernel_rfl) (by and_intros<;>first|exact⟨⟩| (intros;omega)|exact rfl| (simp only[dN,maxLen,lens];omega)) (bg X [0,2,3,4] rfl ?_))));refine⟨k+1,by omega,by omega,?_⟩;rw[bh _ k rfl (by omega),hs];try rfl
 ·try simp only[aQ]at hb0
  exact aI (aD X [2] rfl (by trivial) (ak (ah rfl ⟨by rw[Gx _ _ (by omega)],⟨⟩⟩)))
theorem zc(d:DB)(i:Int)(c:List UInt8)(hs0:cE List.length d.rows≤1048576)(hc:c.length≤1048576):So 405 [.agg (aY d),aA i, .a (.sl .u8 c)] [.agg (aY (Cd d i c)),aH (kH d i c)]:=by
 refine av X call405 func405 ntmps405 rfl rfl ?_;intro zb;have ir:d.rows.length≤1048576:=cA hs0;refine aq X [1,2,3,6] rfl (aC X [] [(10,⟨true,[.agg (aY d)]⟩)] [1,2,3,6,8] [] rfl (by(with_reducible and_intros)<;>first|exact⟨⟩|exact(eg d (by first|assumption|omega| (simp;done)| (simp;omega)))) (aa (aa ?_)));have t1:=(aP i 0 (IntKind.i64.wrap ((d.rows.length:Int)-1)));refine aL X [] [(16,⟨false,bq t1⟩)] [1,2,6,8,22] [] rfl (by(with_reducible and_intros)<;>first|exact⟨⟩|exact t1) ?_;refine aj rfl ?_ ?_<;>intro hb0
 ·have FH:kH d i c=false:=bH hb0 (by simp only[kH,aO]<;>first|rfl|ac_rfl);exact aD X [6,7] rfl (by trivial) (ak (ah rfl ⟨by rw[Gy FH],by rw[FH],⟨⟩⟩))
 ·have FH:kH d i c=true:=bF hb0 (by simp only[kH,aO]<;>first|rfl|ac_rfl);have hrb:=Ib ir FH;exact an (aa (aF X [(29,27)] [] [6,8] [] 95 5 MO (by kernel_rfl) rfl (by kernel_rfl) (by and_intros<;>first|exact⟨⟩| (intros;omega)|exact rfl| (simp only[dN,maxLen,lens];omega)) (aD X [6,7] rfl (by trivial) (ak (ah rfl ⟨by rw[vC FH];rfl,by rw[FH],⟨⟩⟩)))))
theorem iJ(a b:DB)(hs0:cE List.length a.rows≤1048576)(hs1:cE List.length b.rows≤1048576):So 388 [.agg (aY a), .agg (aY b)] [.agg (aY (gu a b)),aH (iz a b)]:=by
 refine av X call388 func388 ntmps388 rfl rfl ?_;intro zb;have hla:a.rows.length≤1048576:=cA hs0;have hlb:b.rows.length≤1048576:=cA hs1;refine aq X [2,3,4] rfl (aa (aC X [] [(9,⟨false,[aH (cL a)]⟩),(13,⟨false,[aH (cL b)]⟩)] [2,3,4,24] [] rfl (by(with_reducible and_intros);(iterate 2 all_goals try first|exact⟨⟩|exact(cO a)|exact fun _=>(cO b))) ?_));refine aj rfl ?_ ?_<;>intro hb0
 ·have wO:iz a b=false:=bH hb0 (by simp only[iz,aO]<;>first|rfl|ac_rfl);exact aC X [] [(26,⟨true,[.agg (aY a)]⟩)] [4,5] [] rfl (by(with_reducible and_intros)<;>first|exact⟨⟩|exact(eg a (by first|assumption|omega| (simp;done)| (simp;omega)))) (ak (ah rfl ⟨by rw[pH wO],by rw[wO],⟨⟩⟩))
 ·have wO:iz a b=true:=bF hb0 (by simp only[iz,aO]<;>first|rfl|ac_rfl);have XY:=tV wO;have hxl:=jx wO;refine an (aq X [2,3,4,6] rfl (cm 6 0 60 (.sl .u8) rfl (aa (aq X [2,3,4,6,7] rfl ?_))));refine au (aE (fun k=>k≤a.rows.length) (fun k:Nat=> [(7, .one ((aA k)))]) (fun k=> [(60, .arr (.sl .u8) ((fJ a b).take k))]) (fun k=>a.rows.length-k) 0 (fun k=>rfl) (Nat.zero_le _) rfl ?_);intro k hk;have hle:=bC (fJ a b) k;refine aa (aq X [2,3,4,6,7,32] rfl ?_);refine aj rfl ?_ ?_<;>intro aV
  ·try simp only[aQ]at aV
   have hs:=Km wO k aV;have ab7:(a.rows.getD k (aG (.sl .u8))).length≤1048576:=by rw[nZ XY.1 k (by omega)];decide
   have aey:(b.rows.getD k (aG (.sl .u8))).length≤1048576:=by rw[nZ XY.2.1 k (by omega)];decide
   refine an (aa (au ?_));have t1:=(iZ (a.rows.getD k (aG (.sl .u8))) (b.rows.getD k (aG (.sl .u8))) (by first|assumption|omega| (simp;done)| (simp;omega)) (by first|assumption|omega| (simp;done)| (simp;omega)));refine aF X [(49,60)] [(47,⟨true,bq t1⟩),(500048,⟨true,[]⟩)] [2,3,4,6,7] [] 16383 0 MO (by kernel_rfl) rfl (by kernel_rfl) (by(repeat' with_reducible first|exact aR|refine bf ?_ ?_|apply And.intro)<;>first|exact t1| (intros;omega)|exact rfl|exact⟨rfl,bA _ (by decide)⟩| (simp only[dN,maxLen,lens];omega)) ?_;refine bg X [2,3,4,6,7] rfl ?_;refine⟨k+1,by omega,by omega,?_⟩;rw[bh _ k rfl (by omega),hs];try rfl
  ·try simp only[aQ]at aV
   exact aI (aD X [4,5] rfl (by trivial) (ak (ah rfl ⟨by rw[List.take_of_length_le (by omega),vD wO],by rw[wO],⟨⟩⟩)))
theorem ze(x:aW)(c:Int)(hsv:x.az.length≤1048576):So 384 [.agg (aN x),aA c] [.a (.sl .int (gV x c))]:=by
 refine av X call384 func384 ntmps384 rfl rfl ?_;intro zb;have hw:IntKind.i64.wrap ((x.az.length:Int)-1)=(x.az.length:Int)-1:=bO (by omega);refine aq X [1,2] rfl (aD X [1,2,5] rfl (by and_intros<;>first|exact⟨⟩|exact rfl) (aa (aq X [1,2,5,6] rfl ?_)));refine au (aE (fun k=>k≤(x.az.length-1)) (fun k:Nat=> [(6, .one ((aA k)))]) (fun k=> [(7, .arr .int ((gV x c).take k))]) (fun k=>(x.az.length-1)-k) 0 (fun k=>rfl) (Nat.zero_le _) rfl ?_);intro k hk;have hle:=bC (gV x c) k;have hrl:=jy x c;refine aa (aq X [1,2,5,6,13] rfl ?_);refine aj rfl ?_ ?_<;>intro hb0
 ·try simp only[aQ]at hb0
  rw[hw]at hb0;have hs:=Ce x c k (by omega);refine an (aa (au (aL X [(26,7)] [(24,⟨false,[aA (kh x.seed [223,x.round,c,(k:Int)])]⟩)] [1,2,5,6] [] rfl (by(repeat' with_reducible first|exact aR|refine bf ?_ ?_|apply And.intro)<;>first|exact(bE x.seed [223,x.round,c,(k:Int)] (by first|assumption|omega| (simp;done)| (simp;omega)))|exact rfl|exact⟨rfl,bA _ (by decide)⟩| (simp only[dN,maxLen,lens];omega)) ?_)));refine bg X [1,2,5,6] rfl ?_;refine⟨k+1,by omega,by omega,?_⟩;rw[bh _ k rfl (by omega),hs];try rfl
 ·try simp only[aQ]at hb0
  rw[hw]at hb0;exact aI (aq X [4] rfl (ak (ah rfl ⟨by rw[List.take_of_length_le (by omega)],⟨⟩⟩)))
theorem Be(rows i:Int)(c:List UInt8)(hc:c.length≤1048576):So 369 [aA rows,aA i, .a (.sl .u8 c)] [.agg (aY (S4 rows i c)),aH (pJ rows i c)]:=by
 refine av X call369 func369 ntmps369 rfl rfl ?_;intro zb;have hz:=Gz rows;refine aq X [0,1,2,6] rfl (aa (aC X [] [(9,⟨false,[aH (inr rows 1 64)]⟩)] [0,1,2,6,10] [] rfl (by(with_reducible and_intros)<;>first|exact⟨⟩|exact(aK rows 1 64)) ?_));refine aj rfl ?_ ?_<;>intro hb0
 ·have hk:inr rows 1 64=false:=by simpa using hb0
  exact aD X [6,7] rfl (by trivial) (ak (ah rfl ⟨by rw[S4,hk];rfl,by rw[pJ,hk];rfl,⟨⟩⟩))
 ·have hk:inr rows 1 64=true:=by simpa using hb0
  refine an (aa ?_);have t1:=(y8 (dD rows) i c (by first|assumption|omega| (simp;done)| (simp;omega)) (by first|assumption|omega| (simp;done)| (simp;omega)));exact aL X [] [(13,⟨true,[.agg (aY (dD rows))]⟩),(16,⟨true,bq t1⟩)] [6,7] [] rfl (by(with_reducible and_intros);(iterate 2 all_goals try first|exact⟨⟩|exact(nj rows)|exact t1)) (ak (ah rfl ⟨by rw[S4,if_pos hk],by rw[pJ,hk];rfl,⟨⟩⟩))
end
section
set_option maxRecDepth 100000
theorem Bf(rows i:Int)(c:List UInt8)(sd:List Int)(hc:c.length≤1048576)(yH:sd.length≤1048576):So 315 [aA rows,aA i, .a (.sl .u8 c), .a (.sl .int sd)] [.a (.sl .DB (pM rows i c sd))]:=by
 refine av X call315 func315 ntmps315 rfl rfl ?_;intro zb;refine aq X [0,1,2,3] rfl (aC X [] [(20,⟨true,[.agg (aY (S4 rows i c)),aH (pJ rows i c)]⟩)] [0,3,9,10] [] rfl (by(with_reducible and_intros)<;>first|exact⟨⟩|exact(Be rows i c (by first|assumption|omega| (simp;done)| (simp;omega)))) (aa (aC X [] [(29,⟨false,[aH (bT (IntKind.i64.wrap ((sd.length:Int)+1)))]⟩)] [0,3,9,31] [] rfl (by(with_reducible and_intros)<;>first|exact⟨⟩|exact fun _=>(cN (IntKind.i64.wrap ((sd.length:Int)+1)))) ?_)));refine aj rfl ?_ ?_<;>intro hb0
 ·have hmk:rS rows i c sd=false:=bH hb0 (by simp only[rS,aO]<;>first|rfl|ac_rfl);exact aq X [8] rfl (ak (ah rfl ⟨by rw[pM,if_neg (by rw[hmk];decide)],⟨⟩⟩))
 ·have hmk:rS rows i c sd=true:=bF hb0 (by simp only[rS,aO]<;>first|rfl|ac_rfl);have hml:=Kx hmk yH;have hun:=Ii hml.1;refine an (aD X [0,3,9,11] rfl (by and_intros<;>first|exact⟨⟩|exact rfl) (aa (aq X [0,9,11,33,34,35] rfl ?_)));refine au (aE (fun k=>k≤sd.length) (fun k:Nat=> [(35, .one ((aA k)))]) (fun k=> [(32, .arr .DB ((sd.take k).map fun s=>QX s rows)),(20, .arr (.sl .u8) (wP rows i c (sd.take k)).rows)]) (fun k=>sd.length-k) 0 (fun k=>rfl) (Nat.zero_le _) rfl ?_);intro k hk;have hle:=bC sd k;have hlo:=EA hml.1 (sd.take k);have hlz:=dQ hlo;refine aq X [0,9,11,33,34,35,36] rfl ?_;refine aa (aj rfl ?_ ?_)<;>intro aV
  ·try simp only[aQ]at aV
   have hs:=lH (fun s=>QX s rows) sd k (aG .int) aV;have hs2:=Ez rows i c sd k aV;have hmo:=Ih (sd.getD k (aG .int)) rows hun.2.2;have hmz:=dQ hmo;refine an (aa (au (aD X [0,9,11,13,33,34,35] rfl (by and_intros<;>first|exact⟨⟩| (intros;omega)) (aq X [0,9,11,13,14,33,34,35] rfl (cm 14 0 60 (.sl .u8) rfl (aa (aq X [0,9,11,13,14,33,34,35,40,41] rfl ?_)))))));refine au (aE (fun k1=>k1≤rows.toNat) (fun k1:Nat=> [(41, .one ((aA k1)))]) (fun k1=> [(60, .arr (.sl .u8) ((gf (sd.getD k (aG .int)) rows).take k1))]) (fun k1=>rows.toNat-k1) 0 (fun k1=>rfl) (Nat.zero_le _) rfl ?_);intro k1 hk1;have Cx:=bC (gf (sd.getD k (aG .int)) rows) k1;refine aq X [0,9,11,13,14,33,34,35,40,41,42] rfl ?_;refine aa (aj rfl ?_ ?_)<;>intro bI
   ·try simp only[aQ]at bI
    have hs1:=zf (sd.getD k (aG .int)) rows k1 (by omega);refine an (aa (au (aq X [0,9,11,13,14,15,33,34,35,40,41] rfl ?_)));have t1:=(jo (IntKind.i64.wrap ((sd.getD k (aG .int))+IntKind.i64.wrap (1000*(k1:Int)))) 24 (by first|assumption|omega| (simp;done)| (simp;omega)) (by first|assumption|omega| (simp;done)| (simp;omega)));refine aF X [(52,60)] [(50,⟨true,bq t1⟩),(500051,⟨true,[]⟩)] [0,9,11,13,14,33,34,35,40,41] [] 255 0 MO (by kernel_rfl) rfl (by kernel_rfl) (by(repeat' with_reducible first|exact aR|refine bf ?_ ?_|apply And.intro)<;>first|exact t1|exact rfl|exact⟨rfl,bA _ (by decide)⟩| (simp only[dN,maxLen,lens];omega)) ?_;refine bg X [0,9,11,13,14,33,34,35,40,41] rfl ?_;refine⟨k1+1,by omega,by omega,?_⟩;rw[bh _ k1 rfl (by omega),hs1];try rfl
   ·try simp only[aQ]at bI
    rw[List.take_of_length_le (show(gf (sd.getD k (aG .int)) rows).length≤k1 by rw[lK];omega)];refine aI (aa (Of X [(58,32)] [] [0,9,11,14,33,34,35] 2 32 rfl (by and_intros<;>first|exact⟨⟩|exact rfl| (simp only[dN,maxLen,lens];omega)) ?_));have t1:=(iI (wP rows i c (sd.take k)) (QX (sd.getD k (aG .int)) rows) (by first|assumption|omega| (simp;done)| (simp;omega)) (by first|assumption|omega| (simp;done)| (simp;omega)));refine aL X [] [(62,⟨true,bq t1⟩)] [0,9,11,33,34,35] [] rfl (by(with_reducible and_intros)<;>first|exact⟨⟩|exact t1) (kW 9 0 20 rfl (bg X [0,9,11,33,34,35] rfl ?_));refine⟨k+1,by omega,by omega,?_⟩;rw[bh _ k rfl (by omega),hs,hs2];try rfl
  ·try simp only[aQ]at aV
   exact aI (aC X [(69,32)] [] [8] [] rfl (by and_intros<;>first|exact⟨⟩|exact rfl| (simp only[dN,maxLen,lens];omega)) (ak (ah rfl ⟨by rw[List.take_of_length_le aV,pM,if_pos hmk],⟨⟩⟩)))
theorem FI(rows i:Int)(c:List UInt8):So 404 [aA rows,aA i, .a (.sl .u8 c)] [aH (pJ rows i c)]:=by
 refine av X call404 func404 ntmps404 rfl rfl ?_;intro zb;exact aq X [0,1,2] rfl (aC X [] [(8,⟨false,[aH (inr rows 1 64)]⟩),(13,⟨false,[aH (inr i 0 (IntKind.i64.wrap (rows-1)))]⟩)] [6] [] rfl (by(with_reducible and_intros);(iterate 2 all_goals try first|exact⟨⟩|exact(aP rows 1 64)|exact fun _=>(aP i 0 (IntKind.i64.wrap (rows-1))))) (ak (ah rfl ⟨by rw[Ky];exact(congrArg Value.bool (by simp only[aO]<;>first|rfl|ac_rfl)),⟨⟩⟩)))
theorem Bg(rows i:Int)(c:List UInt8)(sd:List Int)(hc:c.length≤1048576)(yH:sd.length≤1048576):So 383 [aA rows,aA i, .a (.sl .u8 c), .a (.sl .int sd)] [.a (.sl .DB (pM rows i c sd))]:=by
 refine av X call383 func383 ntmps383 rfl rfl ?_;intro zb;have hz:=Gz rows;refine aq X [0,1,2,3] rfl (aD X [0,1,2,3,9] rfl (by and_intros<;>first|exact⟨⟩|exact rfl) (aa (aC X [] [(19,⟨false,[aH (pJ rows i c)]⟩),(25,⟨false,[aH (bT (IntKind.i64.wrap ((sd.length:Int)+1)))]⟩)] [0,1,2,3,9,27] [] rfl (by(with_reducible and_intros);(iterate 2 all_goals try first|exact⟨⟩|exact(FI rows i c)|exact fun _=>(ez (IntKind.i64.wrap ((sd.length:Int)+1))))) ?_)));refine aj rfl ?_ ?_<;>intro hb0
 ·have hmk:rS rows i c sd=false:=bH hb0 (by simp only[rS,aO]<;>first|rfl|ac_rfl);exact aq X [8] rfl (ak (ah rfl ⟨by rw[pM,if_neg (by rw[hmk];decide)],⟨⟩⟩))
 ·have hmk:rS rows i c sd=true:=bF hb0 (by simp only[rS,aO]<;>first|rfl|ac_rfl);have hml:=Kx hmk yH;have hun:=Ii hml.1;refine an (aa ?_);have t1:=(zc (dD rows) i c (by first|assumption|omega| (simp;done)| (simp;omega)) (by first|assumption|omega| (simp;done)| (simp;omega)));refine aL X [] [(31,⟨true,[.agg (aY (dD rows))]⟩),(34,⟨true,bq t1⟩)] [0,3,9,10] [] rfl (by(with_reducible and_intros);(iterate 2 all_goals try first|exact⟨⟩|exact(nk rows)|exact t1)) ?_;rw[WO hmk];refine aa (aq X [0,3,9,10,12] rfl ?_);refine au (aE (fun k=>k≤sd.length) (fun k:Nat=> [(12, .one ((aA k)))]) (fun k=> [(15, .arr .DB ((sd.take k).map fun s=>QX s rows)),(34, .arr (.sl .u8) (wP rows i c (sd.take k)).rows)]) (fun k=>sd.length-k) 0 (fun k=>rfl) (Nat.zero_le _) rfl ?_);intro k hk;have hle:=bC sd k;have hlo:=EA hml.1 (sd.take k);have hlz:=dQ hlo;refine aa (aq X [0,3,9,10,12,40] rfl ?_);refine aj rfl ?_ ?_<;>intro aV
  ·try simp only[aQ]at aV
   have hs:=lH (fun s=>QX s rows) sd k (aG .int) aV;have hs2:=Ez rows i c sd k aV;have hmo:=Ih (sd.getD k (aG .int)) rows hun.2.2;have hmz:=dQ hmo;refine an (aa (au (aq X [0,3,9,10,12,13] rfl (cm 13 0 60 (.sl .u8) rfl (aa (aq X [0,3,9,10,12,13,14] rfl ?_))))));refine au (aE (fun k1=>k1≤rows.toNat) (fun k1:Nat=> [(14, .one ((aA k1)))]) (fun k1=> [(60, .arr (.sl .u8) ((gf (sd.getD k (aG .int)) rows).take k1))]) (fun k1=>rows.toNat-k1) 0 (fun k1=>rfl) (Nat.zero_le _) rfl ?_);intro k1 hk1;have Cx:=bC (gf (sd.getD k (aG .int)) rows) k1;refine aa (aq X [0,3,9,10,12,13,14,46] rfl ?_);refine aj rfl ?_ ?_<;>intro bI
   ·try simp only[aQ]at bI
    have hs1:=zf (sd.getD k (aG .int)) rows k1 (by omega);refine an (aa (au ?_));have t1:=(jq (IntKind.i64.wrap ((sd.getD k (aG .int))+IntKind.i64.wrap (1000*(k1:Int)))) 24 (by first|assumption|omega| (simp;done)| (simp;omega)) (by first|assumption|omega| (simp;done)| (simp;omega)));refine aF X [(60,60)] [(58,⟨true,bq t1⟩),(500059,⟨true,[]⟩)] [0,3,9,10,12,13,14] [] 2047 0 MO (by kernel_rfl) rfl (by kernel_rfl) (by(repeat' with_reducible first|exact aR|refine bf ?_ ?_|apply And.intro)<;>first|exact t1| (intros;omega)|exact rfl|exact⟨rfl,bA _ (by decide)⟩| (simp only[dN,maxLen,lens];omega)) ?_;refine bg X [0,3,9,10,12,13,14] rfl ?_;refine⟨k1+1,by omega,by omega,?_⟩;rw[bh _ k1 rfl (by omega),hs1];try rfl
   ·try simp only[aQ]at bI
    rw[List.take_of_length_le (show(gf (sd.getD k (aG .int)) rows).length≤k1 by rw[lK];omega)];refine aI (aa ?_);have t1:=(iJ (wP rows i c (sd.take k)) (QX (sd.getD k (aG .int)) rows) (by first|assumption|omega| (simp;done)| (simp;omega)) (by first|assumption|omega| (simp;done)| (simp;omega)));refine aL X [] [(65,⟨true,bq t1⟩)] [0,3,9,10,12,13] [] rfl (by(with_reducible and_intros)<;>first|exact⟨⟩|exact t1) (kW 10 0 34 rfl (aL X [(71,15)] [] [0,3,9,10,12] [] rfl (by and_intros<;>first|exact⟨⟩|exact rfl| (simp only[dN,maxLen,lens];omega)) (bg X [0,3,9,10,12] rfl ?_)));refine⟨k+1,by omega,by omega,?_⟩;rw[bh _ k rfl (by omega),hs,hs2];try rfl
  ·try simp only[aQ]at aV
   exact aI (aC X [(75,15)] [] [8] [] rfl (by and_intros<;>first|exact⟨⟩|exact rfl| (simp only[dN,maxLen,lens];omega)) (ak (ah rfl ⟨by rw[List.take_of_length_le aV,pM,if_pos hmk],⟨⟩⟩)))
end
section
set_option maxRecDepth 100000
theorem xz(x:aW)(c:Int)(hsv:x.az.length≤1048576):So 258 [.agg (aN x),aA c] [.a (.sl .DB (j9 x c))]:=by
 refine av X call258 func258 ntmps258 rfl rfl ?_;intro zb;refine bl 0 2 rfl rfl (fun lg=> ?_);have hcl:=EB (Kz x c) x.round x.rows;have Yo:=jy x c;refine aq X [1,2] rfl (aa (aC X [] [(9,⟨false,[aH (okW x)]⟩),(14,⟨false,[aH (fT x c)]⟩)] [1,2,16] [] rfl (by(with_reducible and_intros);(iterate 2 all_goals try first|exact⟨⟩|exact(bQ x)|exact fun _=>(dh x c))) ?_));refine aj rfl ?_ ?_<;>intro hb0
 ·have hk:KB x c=false:=bH hb0 (by simp only[KB,aO]<;>first|rfl|ac_rfl);exact aq X [4] rfl (ak (ah rfl ⟨by rw[j9,if_neg (by rw[hk];decide)],⟨⟩⟩))
 ·have hk:KB x c=true:=bF hb0 (by simp only[KB,aO]<;>first|rfl|ac_rfl);have hkc:=ZJ hk;refine an (aa ?_);have t1:=(xp (Kz x c) x.round x.rows);refine aF X [] [(28,⟨true,bq t1⟩)] [1,2,5,6,7] [] 262143 0 MO (by kernel_rfl) rfl (by kernel_rfl) (by(with_reducible and_intros)<;>first|exact⟨⟩|exact t1| (intros;omega)) (aa (aq X [1,2,5,6,33] rfl ?_));refine aj rfl ?_ ?_<;>intro aV
  ·have hw:nP (Kz x c) x.round x.rows=false:=by simpa using aV
   exact aq X [4] rfl (ak (ah rfl ⟨by rw[j9,if_pos hk,KA hw],⟨⟩⟩))
  ·refine an (aa ?_);have t1:=(Bf x.rows (mZ (Kz x c) x.round x.rows) (gz (Kz x c) x.round x.rows) (gV x c) (by first|assumption|omega| (simp;done)| (simp;omega)) (by first|assumption|omega| (simp;done)| (simp;omega)));exact aF X [] [(40,⟨true,[.a (.sl .int (gV x c))]⟩),(41,⟨true,bq t1⟩)] [4] [] 511 0 MO (by kernel_rfl) rfl (by kernel_rfl) (by(with_reducible and_intros);(iterate 2 all_goals try first|exact⟨⟩|exact(za x c (by first|assumption|omega| (simp;done)| (simp;omega)))|exact t1)) (ak (ah rfl ⟨by rw[j9,if_pos hk];rfl,⟨⟩⟩))
theorem Bh(x:aW)(c:Int)(hsv:x.az.length≤1048576)(hc:0≤c∧c<x.af.length):So 353 [.agg (aN x),aA c] [.a (.sl .DB (dw x c))]:=by
 refine av X call353 func353 ntmps353 rfl rfl ?_;intro zb;refine bl 0 2 rfl rfl (fun lg=> ?_);have hcl:=EB (Kz x c) x.round x.rows;have Yo:=jy x c;refine aq X [1,2] rfl (aa ?_);have t1:=(xq (Kz x c) x.round x.rows);refine aF X [] [(19,⟨true,bq t1⟩)] [1,2,5,6] [] 262143 0 MO (by kernel_rfl) rfl (by kernel_rfl) (by(with_reducible and_intros)<;>first|exact⟨⟩|exact t1| (intros;omega)) (aa ?_);have t1:=(Bg x.rows (mZ (Kz x c) x.round x.rows) (gz (Kz x c) x.round x.rows) (gV x c) (by first|assumption|omega| (simp;done)| (simp;omega)) (by first|assumption|omega| (simp;done)| (simp;omega)));exact aF X [] [(29,⟨true,[.a (.sl .int (gV x c))]⟩),(30,⟨true,bq t1⟩)] [4] [] 511 0 MO (by kernel_rfl) rfl (by kernel_rfl) (by(with_reducible and_intros);(iterate 2 all_goals try first|exact⟨⟩|exact(ze x c (by first|assumption|omega| (simp;done)| (simp;omega)))|exact t1)) (ak (ah rfl ⟨rfl,⟨⟩⟩))
end
section
set_option maxRecDepth 100000
theorem iB(m s:Int):So 145 [aA m,aA s] [aA (iT m s)]:=by
 refine av X call145 func145 ntmps145 rfl rfl ?_;intro zb;refine aq X [0,1] rfl (aC X [] [(8,⟨false,[aA (kh m [173,s])]⟩),(9,⟨false,[aA (As (kh m [173,s]))]⟩)] [4] [] rfl (by(repeat' with_reducible first|exact aR|refine bf ?_ ?_|apply And.intro);(iterate 2 all_goals try first|exact(bD m [173,s] (by first|assumption|omega| (simp;done)| (simp;omega)))|exact(jX (kh m [173,s])));all_goals first|exact⟨rfl,bA _ (by decide)⟩) ?_);exact ak (ah rfl ⟨rfl,⟨⟩⟩)
theorem rU(d:DB)(hs0:cE List.length d.rows≤1048576):So 372 [.agg (aY d)] [aA (Il d)]:=by
 refine av X call372 func372 ntmps372 rfl rfl ?_;intro zb;have ir:d.rows.length≤1048576:=cA hs0;refine aq X [1] rfl (aD X [1,3] rfl (by and_intros<;>first|exact⟨⟩|exact rfl) (aa (aq X [3,11,12,13] rfl ?_)));refine au (aE (fun k=>k≤d.rows.length) (fun k:Nat=> [(13, .one ((aA k)))]) (fun k=> [(9, .arr .int ((d.rows.length:Int)::(d.rows.take k).flatMap Fz))]) (fun k=>d.rows.length-k) 0 (fun k=>rfl) (Nat.zero_le _) rfl ?_);intro k hk;have hdl:=Tc d.rows k;refine aq X [3,11,12,13,14] rfl ?_;refine aa (aj rfl ?_ ?_)<;>intro hb0
 ·try simp only[aQ]at hb0
  have hs:=Om d.rows k hb0;have hel:(d.rows.getD k (aG (.sl .u8))).length≤1048576:=ig (f:=List.length) hs0 (getD_some d.rows _ k hb0);have DF:=qN (d.rows.getD k (aG (.sl .u8)));refine an (aa (au (aD X [3,5,11,12,13] rfl (by and_intros<;>first|exact⟨⟩| (intros;omega)) (aL X [(20,9)] [(19,⟨true,[.a (.sl .int (Fz (d.rows.getD k (aG (.sl .u8)))))]⟩)] [3,11,12,13] [] rfl (by(with_reducible and_intros)<;>first|exact⟨⟩|exact(mS (d.rows.getD k (aG (.sl .u8))) (by first|assumption|omega| (simp;done)| (simp;omega)))|exact rfl| (simp only[dN,maxLen,lens];omega)) (bg X [3,11,12,13] rfl ?_)))));refine⟨k+1,by omega,by omega,?_⟩;rw[bh _ k rfl (by omega),hs];try rfl
 ·try simp only[aQ]at hb0
  refine aI (aa ?_);have t1:=(tG ((d.rows.length:Int)::(d.rows.take k).flatMap Fz) (by simp only[List.length_cons];omega));exact aL X [] [(23,⟨false,bq t1⟩)] [2] [] rfl (by(with_reducible and_intros)<;>first|exact⟨⟩|exact t1) (ak (ah rfl ⟨by rw[List.take_of_length_le hb0];rfl,⟨⟩⟩))
theorem nv(c r:Int)(d:DB)(hs0:cE List.length d.rows≤1048576):So 321 [aA c,aA r, .agg (aY d)] [aA (EF c r d)]:=by
 refine av X call321 func321 ntmps321 rfl rfl ?_;intro zb;refine aq X [0,1,5] rfl (aC X [] [(10,⟨false,[aA (Il d)]⟩),(12,⟨false,[aA (hsh [179,c,r,Il d])]⟩)] [6] [] rfl (by(repeat' with_reducible first|exact aR|refine bf ?_ ?_|apply And.intro);(iterate 2 all_goals try first|exact(rU d (by first|assumption|omega| (simp;done)| (simp;omega)))|exact(tG [179,c,r,Il d] (by first|assumption|omega| (simp;done)| (simp;omega))));all_goals first|exact⟨rfl,bA _ (by decide)⟩) ?_);exact ak (ah rfl ⟨rfl,⟨⟩⟩)
theorem n9(key:Int)(r:dY):So 322 [aA key, .agg (jR r)] [aA (Qs key r.server r.client r.round r.mJ)]:=by
 refine av X call322 func322 ntmps322 rfl rfl ?_;intro zb;refine aq X [0,3] rfl (aa ?_);have t1:=(bD key [181,r.server,r.client,r.round,r.mJ] (by first|assumption|omega| (simp;done)| (simp;omega)));refine aL X [] [(15,⟨false,bq t1⟩)] [4] [] rfl (by(repeat' with_reducible first|exact aR|refine bf ?_ ?_|apply And.intro)<;>first|exact t1|exact⟨rfl,bA _ (by decide)⟩) ?_;exact ak (ah rfl ⟨rfl,⟨⟩⟩)
theorem xB(key s c r:Int)(d:DB)(hs0:cE List.length d.rows≤1048576):So 260 [aA key,aA s,aA c,aA r, .agg (aY d)] [.agg (jR (mkR key s c r d))]:=by
 refine av X call260 func260 ntmps260 rfl rfl ?_;intro zb;refine aq X [0,1,2,3,9,10] rfl (aC X [] [(18,⟨false,[aA (EF c r d)]⟩)] [0,10,11] [] rfl (by(with_reducible and_intros)<;>first|exact⟨⟩|exact(nv c r d (by first|assumption|omega| (simp;done)| (simp;omega)))) (aa ?_));have t1:=(n9 key (⟨s,c,r,EF c r d,0⟩:dY));exact aL X [] [(22,⟨false,bq t1⟩)] [10,11] [] rfl (by(with_reducible and_intros)<;>first|exact⟨⟩|exact t1) (aD X [10] rfl (by trivial) (ak (ah rfl ⟨rfl,rfl,rfl,rfl,rfl,⟨⟩⟩)))
theorem gK(s:bp)(hz:s.received.length≤1048576∧ ∀r,r∈s.received→cE List.length r.share.rows≤1048576):So 257 [.agg (bS s)] [.agg (bS s)]:=by
 refine av X call257 func257 ntmps257 rfl rfl ?_;intro zb;refine aq X [1,2] rfl (aD X [1,2,3] rfl (by and_intros<;>first|exact⟨⟩|exact rfl) (aa (aq X [1,2,3,8,9,10] rfl ?_)));refine au (aE (fun k=>k≤s.received.length) (fun k:Nat=> [(10, .one ((aA k)))]) (fun k=> [(6, .arr .aT (s.received.take k))]) (fun k=>s.received.length-k) 0 (fun k=>rfl) (Nat.zero_le _) rfl ?_);intro k hk;have hle:=bC s.received k;refine aq X [1,2,3,8,9,10,11] rfl ?_;refine aa (aj rfl ?_ ?_)<;>intro hb0
 ·try simp only[aQ]at hb0
  have hs:=bu s.received k (aG .aT) hb0;refine an (aa (au (aD X [1,2,3,5,8,9,10] rfl (by and_intros<;>first|exact⟨⟩| (intros;omega)) (aF X [(22,6)] [(19,⟨true,[.agg (aY ((s.received.getD k (aG .aT)).share))]⟩),(500021,⟨true,[]⟩)] [1,2,3,8,9,10] [] 255 0 MO (by kernel_rfl) rfl (by kernel_rfl) (by(repeat' with_reducible first|exact aR|refine bf ?_ ?_|apply And.intro)<;>first|exact(cG ((s.received.getD k (aG .aT)).share) (hz.2 _ (getD_in _ hb0)))|exact rfl|exact⟨rfl,bA _ (by decide)⟩| (simp only[dN,maxLen,lens];omega)) ?_))));refine bg X [1,2,3,8,9,10] rfl ?_;refine⟨k+1,by omega,by omega,?_⟩;rw[bh _ k rfl (by omega),hs];try rfl
 ·try simp only[aQ]at hb0
  exact aI (aq X [1,2] rfl (aD X [2] rfl (by trivial) (ak (ah rfl ⟨rfl,rfl,rfl,by rw[List.take_of_length_le hb0],rfl,⟨⟩⟩))))
theorem nx(l:List bp)(hl:l.length≤1048576)(hz: ∀s,s∈l→nr s):So 187 [.a (.sl .bp l)] [.a (.sl .bp l)]:=by
 refine av X call187 func187 ntmps187 rfl rfl ?_;intro zb;refine aq X [0] rfl (aD X [0,3] rfl (by and_intros<;>first|exact⟨⟩|exact rfl) (aa (aq X [3,7,8,9] rfl ?_)));refine au (aE (fun k=>k≤l.length) (fun k:Nat=> [(9, .one ((aA k)))]) (fun k=> [(6, .arr .bp (l.take k))]) (fun k=>l.length-k) 0 (fun k=>rfl) (Nat.zero_le _) rfl ?_);intro k hk;have hle:=bC l k;refine aq X [3,7,8,9,10] rfl ?_;refine aa (aj rfl ?_ ?_)<;>intro hb0
 ·try simp only[aQ]at hb0
  have hs:=bu l k (aG .bp) hb0;refine an (aa (au (aD X [3,5,7,8,9] rfl (by and_intros<;>first|exact⟨⟩| (intros;omega)) (aL X [(17,6)] [(15,⟨true,[.agg (bS (l.getD k (aG .bp)))]⟩)] [3,7,8,9] [] rfl (by(with_reducible and_intros)<;>first|exact⟨⟩|exact(gK (l.getD k (aG .bp)) (hz _ (getD_in _ hb0)))|exact rfl| (simp only[dN,maxLen,lens];omega)) (bg X [3,7,8,9] rfl ?_)))));refine⟨k+1,by omega,by omega,?_⟩;rw[bh _ k rfl (by omega),hs];try rfl
 ·try simp only[aQ]at hb0
  exact aI (aq X [2] rfl (ak (ah rfl ⟨by rw[List.take_of_length_le hb0],⟨⟩⟩)))
theorem iC(m s:Int):So 177 [aA m,aA s] [aA (iT m s)]:=by
 refine av X call177 func177 ntmps177 rfl rfl ?_;intro zb;refine aq X [0,1] rfl (aa ?_);have t1:=(jm 1 (kh m [173,s]));refine aL X [] [(8,⟨false,[aA (kh m [173,s])]⟩),(9,⟨false,bq t1⟩)] [4] [] rfl (by(repeat' with_reducible first|exact aR|refine bf ?_ ?_|apply And.intro);(iterate 2 all_goals try first|exact(bE m [173,s] (by first|assumption|omega| (simp;done)| (simp;omega)))|exact t1);all_goals first|exact⟨rfl,bA _ (by decide)⟩) ?_;exact ak (ah rfl ⟨by rw[Td],⟨⟩⟩)
theorem rV(d:DB)(hs0:cE List.length d.rows≤1048576):So 407 [.agg (aY d)] [aA (Il d)]:=by
 refine av X call407 func407 ntmps407 rfl rfl ?_;intro zb;have ir:d.rows.length≤1048576:=cA hs0;refine aq X [1] rfl (aD X [1,3] rfl (by and_intros<;>first|exact⟨⟩|exact rfl) (aa (aq X [1,3,4] rfl ?_)));refine au (aE (fun k=>k≤d.rows.length) (fun k:Nat=> [(4, .one ((aA k)))]) (fun k=> [(8, .arr .int ((d.rows.length:Int)::(d.rows.take k).flatMap Fz))]) (fun k=>d.rows.length-k) 0 (fun k=>rfl) (Nat.zero_le _) rfl ?_);intro k hk;have hdl:=Tc d.rows k;refine aa (aq X [1,3,4,13] rfl ?_);refine aj rfl ?_ ?_<;>intro hb0
 ·try simp only[aQ]at hb0
  have hs:=Om d.rows k hb0;have hel:(d.rows.getD k (aG (.sl .u8))).length≤1048576:=ig (f:=List.length) hs0 (getD_some d.rows _ k hb0);have DF:=qN (d.rows.getD k (aG (.sl .u8)));refine an (aa (au (aL X [(23,8)] [(22,⟨true,[.a (.sl .int (Fz (d.rows.getD k (aG (.sl .u8)))))]⟩)] [1,3,4] [] rfl (by(with_reducible and_intros)<;>first|exact⟨⟩|exact(mT (d.rows.getD k (aG (.sl .u8))) (by first|assumption|omega| (simp;done)| (simp;omega)))| (intros;omega)|exact rfl| (simp only[dN,maxLen,lens];omega)) (bg X [1,3,4] rfl ?_))));refine⟨k+1,by omega,by omega,?_⟩;rw[bh _ k rfl (by omega),hs];try rfl
 ·try simp only[aQ]at hb0
  refine aI (aa ?_);have t1:=(tH ((d.rows.length:Int)::(d.rows.take k).flatMap Fz) (by simp only[List.length_cons];omega));exact aL X [] [(25,⟨false,bq t1⟩)] [2] [] rfl (by(with_reducible and_intros)<;>first|exact⟨⟩|exact t1) (ak (ah rfl ⟨by rw[List.take_of_length_le hb0];rfl,⟨⟩⟩))
theorem ny(c r:Int)(d:DB)(hs0:cE List.length d.rows≤1048576):So 385 [aA c,aA r, .agg (aY d)] [aA (EF c r d)]:=by
 refine av X call385 func385 ntmps385 rfl rfl ?_;intro zb;refine aq X [0,1,5] rfl (aC X [] [(10,⟨false,[aA (Il d)]⟩),(12,⟨false,[aA (hsh [179,c,r,Il d])]⟩)] [6] [] rfl (by(repeat' with_reducible first|exact aR|refine bf ?_ ?_|apply And.intro);(iterate 2 all_goals try first|exact(rV d (by first|assumption|omega| (simp;done)| (simp;omega)))|exact(tH [179,c,r,Il d] (by first|assumption|omega| (simp;done)| (simp;omega))));all_goals first|exact⟨rfl,bA _ (by decide)⟩) ?_);exact ak (ah rfl ⟨rfl,⟨⟩⟩)
theorem oc(key:Int)(r:dY):So 386 [aA key, .agg (jR r)] [aA (Qs key r.server r.client r.round r.mJ)]:=by
 refine av X call386 func386 ntmps386 rfl rfl ?_;intro zb;refine aq X [0,3] rfl (aa ?_);have t1:=(bE key [181,r.server,r.client,r.round,r.mJ] (by first|assumption|omega| (simp;done)| (simp;omega)));refine aL X [] [(15,⟨false,bq t1⟩)] [4] [] rfl (by(repeat' with_reducible first|exact aR|refine bf ?_ ?_|apply And.intro)<;>first|exact t1|exact⟨rfl,bA _ (by decide)⟩) ?_;exact ak (ah rfl ⟨rfl,⟨⟩⟩)
theorem xC(key s c r:Int)(d:DB)(hs0:cE List.length d.rows≤1048576):So 355 [aA key,aA s,aA c,aA r, .agg (aY d)] [.agg (jR (mkR key s c r d))]:=by
 refine av X call355 func355 ntmps355 rfl rfl ?_;intro zb;refine aq X [0,1,2,3,9,10] rfl (aC X [] [(18,⟨false,[aA (EF c r d)]⟩)] [0,10,11] [] rfl (by(with_reducible and_intros)<;>first|exact⟨⟩|exact(ny c r d (by first|assumption|omega| (simp;done)| (simp;omega)))) (aa ?_));have t1:=(oc key (⟨s,c,r,EF c r d,0⟩:dY));exact aL X [] [(22,⟨false,bq t1⟩)] [10,11] [] rfl (by(with_reducible and_intros)<;>first|exact⟨⟩|exact t1) (aD X [10] rfl (by trivial) (ak (ah rfl ⟨rfl,rfl,rfl,rfl,rfl,⟨⟩⟩)))
theorem kj(s:bp)(hz:s.received.length≤1048576∧ ∀r,r∈s.received→cE List.length r.share.rows≤1048576):So 235 [.agg (bS s)] [.agg (bS s)]:=by
 refine av X call235 func235 ntmps235 rfl rfl ?_;intro zb;refine aq X [1,2] rfl (aD X [1,2,3] rfl (by trivial) (aD X [1,2,3] rfl (by and_intros<;>first|exact⟨⟩|exact rfl) (aa (aq X [1,2,3,4] rfl ?_))));refine au (aE (fun k=>k≤s.received.length) (fun k:Nat=> [(4, .one ((aA k)))]) (fun k=> [(6, .arr .aT (s.received.take k))]) (fun k=>s.received.length-k) 0 (fun k=>rfl) (Nat.zero_le _) rfl ?_);intro k hk;have hle:=bC s.received k;refine aa (aq X [1,2,3,4,12] rfl ?_);refine aj rfl ?_ ?_<;>intro hb0
 ·try simp only[aQ]at hb0
  have hs:=bu s.received k (aG .aT) hb0;refine an (aa (au (aF X [(32,6)] [(29,⟨true,[.agg (aY ((s.received.getD k (aG .aT)).share))]⟩),(500031,⟨true,[]⟩)] [1,2,3,4] [] 131071 0 MO (by kernel_rfl) rfl (by kernel_rfl) (by(repeat' with_reducible first|exact aR|refine bf ?_ ?_|apply And.intro)<;>first|exact(eg ((s.received.getD k (aG .aT)).share) (hz.2 _ (getD_in _ hb0)))| (intros;omega)|exact rfl|exact⟨rfl,bA _ (by decide)⟩| (simp only[dN,maxLen,lens];omega)) ?_)));refine bg X [1,2,3,4] rfl ?_;refine⟨k+1,by omega,by omega,?_⟩;rw[bh _ k rfl (by omega),hs];try rfl
 ·try simp only[aQ]at hb0
  exact aI (aD X [2] rfl (by trivial) (ak (ah rfl ⟨rfl,rfl,rfl,by rw[List.take_of_length_le hb0],rfl,⟨⟩⟩)))
end
section
set_option maxRecDepth 100000
theorem eW(c:dF)(h0:cE List.length c.aM≤1048576∧cE List.length c.inbox≤1048576):So 165 [.agg (bG c)] [.agg (bG c)]:=by
 refine av X call165 func165 ntmps165 rfl rfl ?_;intro zb;exact aq X [1,2] rfl (aD X [1,2,3] rfl (by trivial) (aC X [] [(7,⟨true,[.a (.sl (.sl .u8) c.aM)]⟩)] [1,2,3] [] rfl (by(with_reducible and_intros)<;>first|exact⟨⟩|exact(oL c.aM h0.1)) (aC X [] [(11,⟨true,[.a (.sl (.sl .u8) c.inbox)]⟩)] [2,3] [] rfl (by(with_reducible and_intros)<;>first|exact⟨⟩|exact(oL c.inbox h0.2)) (aD X [2] rfl (by trivial) (ak (ah rfl ⟨rfl,rfl,rfl,rfl,rfl,rfl,rfl,rfl,⟨⟩⟩))))))
theorem gW(d:aZ)(h0:bt d≤1048576):So 236 [.agg (bN d)] [.agg (bN d)]:=by
 refine av X call236 func236 ntmps236 rfl rfl ?_;intro zb;have hc1:bY d.live≤1048576∧bY d.saved≤1048576:=by unfold bt at h0;omega
 unfold bY at hc1;exact aq X [1,2] rfl (aa (aF X [] [(5,⟨true,[.agg (bG d.live)]⟩),(8,⟨true,[.agg (bG d.saved)]⟩)] [2] [] 127 0 MO (by kernel_rfl) rfl (by kernel_rfl) (by(with_reducible and_intros);(iterate 2 all_goals try first|exact⟨⟩|exact(eW d.live ⟨by omega,by omega⟩)|exact(eW d.saved ⟨by omega,by omega⟩))) (ak (ah rfl ⟨rfl,rfl,rfl,rfl,rfl,rfl,rfl,rfl,rfl,rfl,rfl,rfl,rfl,rfl,rfl,rfl,⟨⟩⟩))))
theorem uc(a:gZ)(h0:dA a≤1048576):So 237 [.agg (cV a)] [.agg (cV a)]:=by
 refine av X call237 func237 ntmps237 rfl rfl ?_;intro zb;have hls:cE dM a.rounds≤1048576:=h0;have ir:=cA hls;refine aq X [1,2] rfl (aq X [1,2,3] rfl (cm 3 1 60 .aJ rfl (aa (aq X [1,2,3,4] rfl ?_))));refine au (aE (fun k=>k≤a.rounds.length) (fun k:Nat=> [(4, .one ((aA k)))]) (fun k=> [(60, .arr .aJ (a.rounds.take k))]) (fun k=>a.rounds.length-k) 0 (fun k=>rfl) (Nat.zero_le _) rfl ?_);intro k hk;have hle:=bC a.rounds k;refine aa (aq X [1,2,3,4,12] rfl ?_);refine aj rfl ?_ ?_<;>intro hb0
 ·try simp only[aQ]at hb0
  have hs:=bu a.rounds k (aG .aJ) hb0;refine an (aa (au (aF X [(32,60)] [(29,⟨true,[.agg (aY ((a.rounds.getD k (aG .aJ)).db))]⟩),(500031,⟨true,[]⟩)] [1,2,3,4] [] 131071 0 MO (by kernel_rfl) rfl (by kernel_rfl) (by(repeat' with_reducible first|exact aR|refine bf ?_ ?_|apply And.intro)<;>first|exact(eg ((a.rounds.getD k (aG .aJ)).db) (ig hls (getD_some a.rounds _ k hb0)))| (intros;omega)|exact rfl|exact⟨rfl,bA _ (by decide)⟩| (simp only[dN,maxLen,lens];omega)) ?_)));refine bg X [1,2,3,4] rfl ?_;refine⟨k+1,by omega,by omega,?_⟩;rw[bh _ k rfl (by omega),hs];try rfl
 ·try simp only[aQ]at hb0
  exact aI (aD X [2] rfl (by trivial) (ak (ah rfl ⟨rfl,by rw[List.take_of_length_le hb0],⟨⟩⟩)))
theorem cR(x:aW)(h0:wB x):So 149 [.agg (aN x)] [.agg (aN x)]:=by
 refine av X call149 func149 ntmps149 rfl rfl ?_;intro zb;have hls:cE dL x.az≤1048576∧cE bt x.af≤1048576∧dA x.aB≤1048576∧x.replaced.length≤4194304:=h0;have hl1:=cA hls.1;have lg:=cA hls.2.1;refine aq X [1,2] rfl (aD X [1,2,3] rfl (by trivial) (aD X [1,2,3] rfl (by and_intros<;>first|exact⟨⟩|exact rfl) (aa (aq X [1,2,3,4] rfl ?_))));refine au (aE (fun k=>k≤x.az.length) (fun k:Nat=> [(4, .one ((aA k)))]) (fun k=> [(7, .arr .bp (x.az.take k))]) (fun k=>x.az.length-k) 0 (fun k=>rfl) (Nat.zero_le _) rfl ?_);intro k hk;have hle:=bC x.az k;refine aa (aq X [1,2,3,4,13] rfl ?_);refine aj rfl ?_ ?_<;>intro hb0
 ·try simp only[aQ]at hb0
  have hs:=bu x.az k (aG .bp) hb0;have hss:=GD hls.1 (getD_some x.az (aG .bp) k hb0);refine an (aa (au (aF X [(25,7)] [(23,⟨true,[.agg (bS (x.az.getD k (aG .bp)))]⟩),(500024,⟨true,[]⟩)] [1,2,3,4] [] 511 0 MO (by kernel_rfl) rfl (by kernel_rfl) (by(repeat' with_reducible first|exact aR|refine bf ?_ ?_|apply And.intro)<;>first|exact(kj (x.az.getD k (aG .bp)) hss)| (intros;omega)|exact rfl|exact⟨rfl,bA _ (by decide)⟩| (simp only[dN,maxLen,lens];omega)) ?_)));refine bg X [1,2,3,4] rfl ?_;refine⟨k+1,by omega,by omega,?_⟩;rw[bh _ k rfl (by omega),hs];try rfl
 ·try simp only[aQ]at hb0
  refine aI (aD X [1,2,3] rfl (by and_intros<;>first|exact⟨⟩|exact rfl) (aa (aq X [1,2,3,5] rfl ?_)));refine au (aE (fun k1=>k1≤x.af.length) (fun k1:Nat=> [(5, .one ((aA k1)))]) (fun k1=> [(27, .arr .aZ (x.af.take k1))]) (fun k1=>x.af.length-k1) 0 (fun k1=>rfl) (Nat.zero_le _) rfl ?_);intro k1 hk1;have Cx:=bC x.af k1;refine aa (aq X [1,2,3,5,33] rfl ?_);refine aj rfl ?_ ?_<;>intro aV
  ·try simp only[aQ]at aV
   have hs1:=bu x.af k1 (aG .aZ) aV;refine an (aa (au (aF X [(45,27)] [(43,⟨true,[.agg (bN (x.af.getD k1 (aG .aZ)))]⟩)] [1,2,3,5] [] 1279 2 MO (by kernel_rfl) rfl (by kernel_rfl) (by(with_reducible and_intros)<;>first|exact⟨⟩|exact(gW (x.af.getD k1 (aG .aZ)) (ig hls.2.1 (getD_some x.af _ k1 aV)))| (intros;omega)|exact rfl| (simp only[dN,maxLen,lens];omega)) (bg X [1,2,3,5] rfl ?_))));refine⟨k1+1,by omega,by omega,?_⟩;rw[bh _ k1 rfl (by omega),hs1];try rfl
  ·try simp only[aQ]at aV
   exact aI (aC X [] [(49,⟨true,[.agg (cV x.aB)]⟩)] [1,2,3] [] rfl (by(with_reducible and_intros)<;>first|exact⟨⟩|exact(uc x.aB hls.2.2.1)) (aC X [(54,51)] [] [2,3] [] rfl (by and_intros<;>first|exact⟨⟩|exact rfl| (simp only[dN,maxLen,lens];omega)) (aD X [2] rfl (by trivial) (ak (ah rfl ⟨rfl,by rw[List.take_of_length_le hb0],by rw[List.take_of_length_le aV],rfl,rfl,rfl,rfl,rfl,rfl,rfl,⟨⟩⟩)))))
end
section
set_option maxRecDepth 100000
theorem rW(x:aW)(i:Int)(hsz:dP x≤1048576):So 122 [.agg (aN x),aA i] [aH (j0 x i)]:=by
 refine av X call122 func122 ntmps122 rfl rfl ?_;intro zb;have hd:x.af.length≤1048576:=Ia hsz;have hrl:x.aB.rounds.length≤1048576:=vB hsz;refine aq X [1,2] rfl (aa (aC X [] [(14,⟨false,[aH (dX x i)]⟩)] [1,2,15] [] rfl (by(with_reducible and_intros)<;>first|exact⟨⟩|exact(ng x i (by first|assumption|omega| (simp;done)| (simp;omega)))) ?_));refine aj rfl ?_ ?_<;>intro hb0
 ·have hpk:dX x i=false:=by simpa using hb0
  exact aq X [4] rfl (ak (ah rfl ⟨by rw[j0,if_neg (by rw[hpk];decide)],⟨⟩⟩))
 ·have hpk:dX x i=true:=by simpa using hb0
  obtain⟨hi0,hi1,hi2,hi3⟩:=H7 hpk;have hx:=CB i.toNat (by omega);rw[←hi3]at hx;have hx2:(IntKind.i64.wrap (BitVec.ofInt IntKind.i64.bits i^^^BitVec.ofInt IntKind.i64.bits 1).toNat).toNat=i.toNat^^^1:=by rw[hx];rfl
  have hin:=KL hsz (k:=(IntKind.i64.wrap (BitVec.ofInt IntKind.i64.bits i^^^BitVec.ofInt IntKind.i64.bits 1).toNat).toNat) (by rw[hx2];exact hi2);have hsb:=cA (zj (zi hsz hi1)).1;refine an (aa (aF X [] [] [2,5,6] [] 32767 11 MO (by kernel_rfl) rfl (by kernel_rfl) (by and_intros<;>first|exact⟨⟩| (intros;omega)) (aq X [2,5,6,7] rfl (aa (aq X [2,5,6,7,34,35,36] rfl ?_)))));refine au (aE (fun k=>k≤x.aB.rounds.length) (fun k:Nat=> [(7, .one ((aA ((eJ x (x.af.getD i.toNat (aG .aZ)).live (x.af.getD (IntKind.i64.wrap (BitVec.ofInt IntKind.i64.bits i^^^BitVec.ofInt IntKind.i64.bits 1).toNat).toNat (aG .aZ)).live (x.aB.rounds.take k):Nat):Int)))),(36, .one ((aA k)))]) (fun k=> []) (fun k=>x.aB.rounds.length-k) 0 (fun k=>rfl) (Nat.zero_le _) rfl ?_);intro k hk;refine aq X [2,5,6,7,34,35,36,37] rfl ?_;refine aa (aj rfl ?_ ?_)<;>intro aV
  ·try simp only[aQ]at aV
   have yX:=aV;have hs:=B9 x (x.af.getD i.toNat (aG .aZ)).live (x.af.getD (IntKind.i64.wrap (BitVec.ofInt IntKind.i64.bits i^^^BitVec.ofInt IntKind.i64.bits 1).toNat).toNat (aG .aZ)).live x.aB.rounds k yX;have hle:=Gt x (x.af.getD i.toNat (aG .aZ)).live (x.af.getD (IntKind.i64.wrap (BitVec.ofInt IntKind.i64.bits i^^^BitVec.ofInt IntKind.i64.bits 1).toNat).toNat (aG .aZ)).live x.aB.rounds k;have har:=Th hsz k yX;refine an (aa (au (aD X [2,5,6,7,9,34,35,36] rfl (by and_intros<;>first|exact⟨⟩| (intros;omega)) (aa (aq X [2,5,6,7,9,34,35,36,51] rfl ?_)))));refine aj rfl ?_ ?_<;>intro bI
   ·try simp only[aQ]at bI
    rw[EJ bI]at hs;refine aI (bg X [2,5,6,7,34,35,36] rfl ?_);refine⟨k+1,by omega,by omega,?_⟩;rw[bh _ k rfl (by omega),hs];try rfl
   ·try simp only[aQ]at bI
    have hns: ¬((x.aB.rounds.getD k (aG .aJ)).round<(x.af.getD (IntKind.i64.wrap (BitVec.ofInt IntKind.i64.bits i^^^BitVec.ofInt IntKind.i64.bits 1).toNat).toNat (aG .aZ)).live.next∨(x.af.getD i.toNat (aG .aZ)).live.aM.length≤eJ x (x.af.getD i.toNat (aG .aZ)).live (x.af.getD (IntKind.i64.wrap (BitVec.ofInt IntKind.i64.bits i^^^BitVec.ofInt IntKind.i64.bits 1).toNat).toNat (aG .aZ)).live (x.aB.rounds.take k)):=by omega
    refine an (aa ?_);have t1:=(eR ((x.af.getD i.toNat (aG .aZ)).live));have t2:=(gE ((x.af.getD i.toNat (aG .aZ)).live.key) ((x.aB.rounds.getD k (aG .aJ)).round) (cC (x.af.getD i.toNat (aG .aZ)).live) x.rows);have t3:=(Eh ((x.aB.rounds.getD k (aG .aJ)).db) (fu (x.af.getD i.toNat (aG .aZ)).live.key (x.aB.rounds.getD k (aG .aJ)).round (cC (x.af.getD i.toNat (aG .aZ)).live) x.rows) (by first|assumption|omega| (simp;done)| (simp;omega)));refine aF X [] [(60,⟨false,bq t1⟩),(63,⟨false,bq t2⟩),(64,⟨true,bq t3⟩)] [2,5,6,7,10,11,34,35,36] [] 131071 0 MO (by kernel_rfl) rfl (by kernel_rfl) (by(with_reducible and_intros);(iterate 3 all_goals try first|exact⟨⟩|exact t1|exact t2|exact t3)) (aa ?_);have t1:=(jt ((x.af.getD i.toNat (aG .aZ)).live) ((eJ x (x.af.getD i.toNat (aG .aZ)).live (x.af.getD (IntKind.i64.wrap (BitVec.ofInt IntKind.i64.bits i^^^BitVec.ofInt IntKind.i64.bits 1).toNat).toNat (aG .aZ)).live (x.aB.rounds.take k):Nat):Int) (by first|assumption|omega| (simp;done)| (simp;omega)) (by first|assumption|omega| (simp;done)| (simp;omega)));have t2:=(gJ (rowAt (x.aB.rounds.getD k (aG .aJ)).db (fu (x.af.getD i.toNat (aG .aZ)).live.key (x.aB.rounds.getD k (aG .aJ)).round (cC (x.af.getD i.toNat (aG .aZ)).live) x.rows)) (kE (x.af.getD i.toNat (aG .aZ)).live ((eJ x (x.af.getD i.toNat (aG .aZ)).live (x.af.getD (IntKind.i64.wrap (BitVec.ofInt IntKind.i64.bits i^^^BitVec.ofInt IntKind.i64.bits 1).toNat).toNat (aG .aZ)).live (x.aB.rounds.take k):Nat):Int)));refine aL X [] [(72,⟨false,bq t1⟩),(73,⟨false,bq t2⟩)] [2,5,6,7,34,35,36,74] [] rfl (by(with_reducible and_intros);(iterate 2 all_goals try first|exact⟨⟩|exact fun _=>t1|exact fun _=>t2)) ?_;refine aj rfl ?_ ?_<;>intro eE
    ·rw[tK]at eE;rw[GH hns eE]at hs;refine bg X [2,5,6,7,34,35,36] rfl (bg X [2,5,6,7,34,35,36] rfl ?_);refine⟨k+1,by omega,by omega,?_⟩;rw[bh _ k rfl (by omega),bh _ (eJ x (x.af.getD i.toNat (aG .aZ)).live (x.af.getD (IntKind.i64.wrap (BitVec.ofInt IntKind.i64.bits i^^^BitVec.ofInt IntKind.i64.bits 1).toNat).toNat (aG .aZ)).live (x.aB.rounds.take k)) rfl (by omega),hs];try rfl
    ·rw[tK]at eE;rw[EK hns eE]at hs;refine an (bg X [2,5,6,7,34,35,36] rfl ?_);refine⟨k+1,by omega,by omega,?_⟩;rw[bh _ k rfl (by omega),hs];try rfl
  ·try simp only[aQ]at aV
   exact aI (aq X [4] rfl (ak (ah rfl ⟨by rw[List.take_of_length_le aV,j0,if_pos hpk,hx2],⟨⟩⟩)))
theorem rX(x:aW)(i:Int)(hsz:dP x≤1048576):So 90 [.agg (aN x),aA i] [aH (j0 x i)]:=by
 refine av X call90 func90 ntmps90 rfl rfl ?_;intro zb;have hd:x.af.length≤1048576:=Ia hsz;have hrl:x.aB.rounds.length≤1048576:=vB hsz;refine aq X [1,2] rfl (aa (aC X [] [(15,⟨false,[aH (dX x i)]⟩)] [1,2,16] [] rfl (by(with_reducible and_intros)<;>first|exact⟨⟩|exact(tP x i (by first|assumption|omega| (simp;done)| (simp;omega)))) ?_));refine aj rfl ?_ ?_<;>intro hb0
 ·have hpk:dX x i=false:=by simpa using hb0
  exact aq X [4] rfl (ak (ah rfl ⟨by rw[j0,if_neg (by rw[hpk];decide)],⟨⟩⟩))
 ·have hpk:dX x i=true:=by simpa using hb0
  obtain⟨hi0,hi1,hi2,hi3⟩:=H7 hpk;have hx:=CB i.toNat (by omega);rw[←hi3]at hx;have hx2:(IntKind.i64.wrap (BitVec.ofInt IntKind.i64.bits i^^^BitVec.ofInt IntKind.i64.bits 1).toNat).toNat=i.toNat^^^1:=by rw[hx];rfl
  have hin:=KL hsz (k:=(IntKind.i64.wrap (BitVec.ofInt IntKind.i64.bits i^^^BitVec.ofInt IntKind.i64.bits 1).toNat).toNat) (by rw[hx2];exact hi2);have hsb:=cA (zj (zi hsz hi1)).1;refine an (aD X [1,2,5] rfl (by and_intros<;>first|exact⟨⟩| (intros;omega)) (aD X [1,2,5,6] rfl (by and_intros<;>first|exact⟨⟩| (intros;omega)) (aa (aq X [1,2,5,6,7] rfl ?_))));refine au (aE (fun k=>k≤x.aB.rounds.length) (fun k:Nat=> [(6, .one ((aA ((eJ x (x.af.getD i.toNat (aG .aZ)).live (x.af.getD (IntKind.i64.wrap (BitVec.ofInt IntKind.i64.bits i^^^BitVec.ofInt IntKind.i64.bits 1).toNat).toNat (aG .aZ)).live (x.aB.rounds.take k):Nat):Int)))),(7, .one ((aA k)))]) (fun k=> []) (fun k=>x.aB.rounds.length-k) 0 (fun k=>rfl) (Nat.zero_le _) rfl ?_);intro k hk;refine aa (aq X [1,2,5,6,7,44] rfl ?_);refine aj rfl ?_ ?_<;>intro aV
  ·try simp only[aQ]at aV
   have yX:=aV.1;have hs:=B9 x (x.af.getD i.toNat (aG .aZ)).live (x.af.getD (IntKind.i64.wrap (BitVec.ofInt IntKind.i64.bits i^^^BitVec.ofInt IntKind.i64.bits 1).toNat).toNat (aG .aZ)).live x.aB.rounds k yX;have hle:=Gt x (x.af.getD i.toNat (aG .aZ)).live (x.af.getD (IntKind.i64.wrap (BitVec.ofInt IntKind.i64.bits i^^^BitVec.ofInt IntKind.i64.bits 1).toNat).toNat (aG .aZ)).live x.aB.rounds k;have har:=Th hsz k yX;refine an (aa (au (aD X [1,2,5,6,7,8] rfl (by and_intros<;>first|exact⟨⟩| (intros;omega)) (aa (aa (aF X [] [] [1,2,5,6,7,8,63] [] 2047 0 MO (by kernel_rfl) rfl (by kernel_rfl) (by and_intros<;>first|exact⟨⟩| (intros;omega)) ?_))))));refine aj rfl ?_ ?_<;>intro bI
   ·try simp only[aQ]at bI
    rw[EJ (Or.inl bI)]at hs;refine aI (bg X [1,2,5,6,7] rfl ?_);refine⟨k+1,by omega,by omega,?_⟩;rw[bh _ k rfl (by omega),hs];try rfl
   ·try simp only[aQ]at bI
    have hns: ¬((x.aB.rounds.getD k (aG .aJ)).round<(x.af.getD (IntKind.i64.wrap (BitVec.ofInt IntKind.i64.bits i^^^BitVec.ofInt IntKind.i64.bits 1).toNat).toNat (aG .aZ)).live.next∨(x.af.getD i.toNat (aG .aZ)).live.aM.length≤eJ x (x.af.getD i.toNat (aG .aZ)).live (x.af.getD (IntKind.i64.wrap (BitVec.ofInt IntKind.i64.bits i^^^BitVec.ofInt IntKind.i64.bits 1).toNat).toNat (aG .aZ)).live (x.aB.rounds.take k)):=by omega
    refine an (aa ?_);have t1:=(dS ((x.af.getD i.toNat (aG .aZ)).live));have t2:=(gG ((x.af.getD i.toNat (aG .aZ)).live.key) ((x.aB.rounds.getD k (aG .aJ)).round) (cC (x.af.getD i.toNat (aG .aZ)).live) x.rows);refine aF X [] [(69,⟨false,bq t1⟩),(72,⟨false,bq t2⟩)] [1,2,5,6,7,8,9] [] 1023 0 MO (by kernel_rfl) rfl (by kernel_rfl) (by(with_reducible and_intros);(iterate 2 all_goals try first|exact⟨⟩|exact t1|exact t2)) (aD X [1,2,5,6,7,8,9,10] rfl (by trivial) (aq X [1,2,5,6,7,8,9,10] rfl (aa ?_)));have t1:=(Ei ((x.aB.rounds.getD k (aG .aJ)).db) (fu (x.af.getD i.toNat (aG .aZ)).live.key (x.aB.rounds.getD k (aG .aJ)).round (cC (x.af.getD i.toNat (aG .aZ)).live) x.rows) (by first|assumption|omega| (simp;done)| (simp;omega)));refine aL X [] [(80,⟨true,bq t1⟩)] [1,2,5,6,7,10,11,12] [] rfl (by(with_reducible and_intros)<;>first|exact⟨⟩|exact t1) (aa ?_);have t1:=(nh ({(x.af.getD i.toNat (aG .aZ)).live with sent:=((eJ x (x.af.getD i.toNat (aG .aZ)).live (x.af.getD (IntKind.i64.wrap (BitVec.ofInt IntKind.i64.bits i^^^BitVec.ofInt IntKind.i64.bits 1).toNat).toNat (aG .aZ)).live (x.aB.rounds.take k):Nat):Int)}:dF) (by show(0:Int)≤((eJ x (x.af.getD i.toNat (aG .aZ)).live (x.af.getD (IntKind.i64.wrap (BitVec.ofInt IntKind.i64.bits i^^^BitVec.ofInt IntKind.i64.bits 1).toNat).toNat (aG .aZ)).live (x.aB.rounds.take k):Nat):Int);omega) (by show((eJ x (x.af.getD i.toNat (aG .aZ)).live (x.af.getD (IntKind.i64.wrap (BitVec.ofInt IntKind.i64.bits i^^^BitVec.ofInt IntKind.i64.bits 1).toNat).toNat (aG .aZ)).live (x.aB.rounds.take k):Nat):Int)<((x.af.getD i.toNat (aG .aZ)).live.aM.length:Int);omega));have t2:=(gH (rowAt (x.aB.rounds.getD k (aG .aJ)).db (fu (x.af.getD i.toNat (aG .aZ)).live.key (x.aB.rounds.getD k (aG .aJ)).round (cC (x.af.getD i.toNat (aG .aZ)).live) x.rows)) (kE ({(x.af.getD i.toNat (aG .aZ)).live with sent:=((eJ x (x.af.getD i.toNat (aG .aZ)).live (x.af.getD (IntKind.i64.wrap (BitVec.ofInt IntKind.i64.bits i^^^BitVec.ofInt IntKind.i64.bits 1).toNat).toNat (aG .aZ)).live (x.aB.rounds.take k):Nat):Int)}:dF) ((eJ x (x.af.getD i.toNat (aG .aZ)).live (x.af.getD (IntKind.i64.wrap (BitVec.ofInt IntKind.i64.bits i^^^BitVec.ofInt IntKind.i64.bits 1).toNat).toNat (aG .aZ)).live (x.aB.rounds.take k):Nat):Int)));refine aL X [] [(87,⟨false,bq t1⟩),(88,⟨false,bq t2⟩)] [1,2,5,6,7,89] [] rfl (by(with_reducible and_intros);(iterate 2 all_goals try first|exact⟨⟩|exact fun _=>t1|exact fun _=>t2)) ?_;refine aj rfl ?_ ?_<;>intro eE
    ·rw[tK]at eE;rw[GH hns eE]at hs;refine bg X [1,2,5,6,7] rfl (bg X [1,2,5,6,7] rfl ?_);refine⟨k+1,by omega,by omega,?_⟩;rw[bh _ k rfl (by omega),bh _ (eJ x (x.af.getD i.toNat (aG .aZ)).live (x.af.getD (IntKind.i64.wrap (BitVec.ofInt IntKind.i64.bits i^^^BitVec.ofInt IntKind.i64.bits 1).toNat).toNat (aG .aZ)).live (x.aB.rounds.take k)) rfl (by omega),hs];try rfl
    ·rw[tK]at eE;rw[EK hns eE]at hs;refine an (bg X [1,2,5,6,7] rfl ?_);refine⟨k+1,by omega,by omega,?_⟩;rw[bh _ k rfl (by omega),hs];try rfl
  ·try simp only[aQ]at aV
   have RW:eJ x (x.af.getD i.toNat (aG .aZ)).live (x.af.getD (IntKind.i64.wrap (BitVec.ofInt IntKind.i64.bits i^^^BitVec.ofInt IntKind.i64.bits 1).toNat).toNat (aG .aZ)).live x.aB.rounds=eJ x (x.af.getD i.toNat (aG .aZ)).live (x.af.getD (IntKind.i64.wrap (BitVec.ofInt IntKind.i64.bits i^^^BitVec.ofInt IntKind.i64.bits 1).toNat).toNat (aG .aZ)).live (x.aB.rounds.take k):=by
    rcases Nat.lt_or_ge k x.aB.rounds.length with h|h
    ·exact Kh _ _ _ _ _ (by omega)
    ·rw[List.take_of_length_le h]
   exact aI (aq X [4] rfl (ak (ah rfl ⟨by rw[j0,if_pos hpk, ←hx2,RW],⟨⟩⟩)))
end
section
set_option maxRecDepth 100000
theorem nC(a:gZ)(f:Int)(hal:a.rounds.length≤1048576):So 203 [.agg (cV a),aA f] [.a (.sl .int (gh a.rounds f))]:=by
 refine av X call203 func203 ntmps203 rfl rfl ?_;intro zb;refine aq X [1,2] rfl (aD X [1,2,5] rfl (by and_intros<;>first|exact⟨⟩|exact rfl) (aa (aq X [1,5,10,11,12] rfl ?_)));refine au (aE (fun k=>k≤a.rounds.length) (fun k:Nat=> [(12, .one ((aA k)))]) (fun k=> [(8, .arr .int (gh (a.rounds.take k) f))]) (fun k=>a.rounds.length-k) 0 (fun k=>rfl) (Nat.zero_le _) rfl ?_);intro k hk;have hle:=Ch a.rounds f k;refine aq X [1,5,10,11,12,13] rfl ?_;refine aa (aj rfl ?_ ?_)<;>intro hb0
 ·try simp only[aQ]at hb0
  refine an (aa (au (aD X [1,5,7,10,11,12] rfl (by and_intros<;>first|exact⟨⟩| (intros;omega)) (aq X [1,5,7,10,11,12,19] rfl ?_))));refine aj rfl ?_ ?_<;>intro aV
  ·try simp only[aQ]at aV
   have hs:=EL a.rounds f k hb0 (by omega);refine aL X [(24,8)] [] [1,5,10,11,12] [] rfl (by and_intros<;>first|exact⟨⟩|exact rfl| (simp only[dN,maxLen,lens];omega)) (bg X [1,5,10,11,12] rfl ?_);refine⟨k+1,by omega,by omega,?_⟩;rw[bh _ k rfl (by omega),hs];try rfl
  ·try simp only[aQ]at aV
   have hs:=Cg a.rounds f k hb0 (by omega);refine an (bg X [1,5,10,11,12] rfl ?_);refine⟨k+1,by omega,by omega,?_⟩;rw[bh _ k rfl (by omega),hs];try rfl
 ·try simp only[aQ]at hb0
  exact aI (aq X [4] rfl (ak (ah rfl ⟨by rw[List.take_of_length_le hb0],⟨⟩⟩)))
theorem qP(x:aW)(hal:x.aB.rounds.length≤1048576):So 120 [.agg (aN x)] [aH (nB x)]:=by
 refine av X call120 func120 ntmps120 rfl rfl ?_;intro zb;refine bl 0 2 rfl rfl (fun lg=>(aq X [1] rfl (aq X [1,3] rfl (aa (aq X [1,3,10,11,12] rfl ?_)))));refine au (aE (fun k=>k≤x.af.length∧(x.af.take k).all (nA x)=true) (fun k:Nat=> [(12, .one ((aA k)))]) (fun k=> []) (fun k=>x.af.length-k) 0 (fun k=>rfl) ⟨Nat.zero_le _,rfl⟩ rfl ?_);rintro k ⟨hk,hall⟩;refine aq X [1,3,10,11,12,13] rfl ?_;refine aa (aj rfl ?_ ?_)<;>intro hb0
 ·try simp only[aQ]at hb0
  refine an (aa (au (aD X [1,3,5,10,11,12] rfl (by and_intros<;>first|exact⟨⟩| (intros;omega)) (aa ?_))));have t1:=(nC x.aB ((x.af.getD k (aG .aZ)).saved.next) (by first|assumption|omega| (simp;done)| (simp;omega)));refine aF X [] [(21,⟨true,bq t1⟩)] [1,3,10,11,12,38] [] 8388607 0 MO (by kernel_rfl) rfl (by kernel_rfl) (by(with_reducible and_intros)<;>first|exact⟨⟩|exact t1| ((intro h1;first| (intro h2;first| (intro h3;refine And.intro ?_ ?_)|refine And.intro ?_ ?_)|refine And.intro ?_ ?_)<;>first|omega| ((try simp only[aQ]at*);(try simp(disch:=omega) only[bO]);omega))) ?_;refine aj rfl ?_ ?_<;>intro aV
  ·have hne:nA x (x.af.getD k (aG .aZ))=false:=bH aV (by simp only[nA,Int.toNat_zero,aO]<;>first|rfl|ac_rfl);exact aq X [2] rfl (ak (ah rfl ⟨by rw[nB,Ea _ _ (aG .aZ) k hb0 hne],⟨⟩⟩))
  ·have hee:nA x (x.af.getD k (aG .aZ))=true:=bF aV (by simp only[nA,Int.toNat_zero,aO]<;>first|rfl|ac_rfl);refine an (bg X [1,3,10,11,12] rfl ?_);refine⟨k+1,⟨by omega,by rw[tF _ _ _ (aG .aZ) hb0,hall,Bool.true_and];exact hee⟩,by omega,?_⟩;rw[bh _ k rfl (by omega)];try rfl
 ·try simp only[aQ]at hb0
  exact aI (aq X [2] rfl (ak (ah rfl ⟨by rw[List.take_of_length_le hb0]at hall;rw[nB,hall],⟨⟩⟩)))
theorem nD(a:gZ)(f:Int)(hal:a.rounds.length≤1048576):So 163 [.agg (cV a),aA f] [.a (.sl .int (gh a.rounds f))]:=by
 refine av X call163 func163 ntmps163 rfl rfl ?_;intro zb;refine aq X [1,2] rfl (aD X [1,2,5] rfl (by and_intros<;>first|exact⟨⟩|exact rfl) (aa (aq X [1,2,5,6] rfl ?_)));refine au (aE (fun k=>k≤a.rounds.length) (fun k:Nat=> [(6, .one ((aA k)))]) (fun k=> [(7, .arr .int (gh (a.rounds.take k) f))]) (fun k=>a.rounds.length-k) 0 (fun k=>rfl) (Nat.zero_le _) rfl ?_);intro k hk;have hle:=Ch a.rounds f k;refine aa (aq X [1,2,5,6,12] rfl ?_);refine aj rfl ?_ ?_<;>intro hb0
 ·try simp only[aQ]at hb0
  refine an (aa (au (aD X [1,2,5,6,22] rfl (by and_intros<;>first|exact⟨⟩| (intros;omega)) ?_)));refine aj rfl ?_ ?_<;>intro aV
  ·try simp only[aQ]at aV
   have hs:=EL a.rounds f k hb0 (by omega);refine aL X [(31,7)] [] [1,2,5,6] [] rfl (by and_intros<;>first|exact⟨⟩| (intros;omega)|exact rfl| (simp only[dN,maxLen,lens];omega)) (bg X [1,2,5,6] rfl ?_);refine⟨k+1,by omega,by omega,?_⟩;rw[bh _ k rfl (by omega),hs];try rfl
  ·try simp only[aQ]at aV
   have hs:=Cg a.rounds f k hb0 (by omega);refine an (bg X [1,2,5,6] rfl ?_);refine⟨k+1,by omega,by omega,?_⟩;rw[bh _ k rfl (by omega),hs];try rfl
 ·try simp only[aQ]at hb0
  exact aI (aq X [4] rfl (ak (ah rfl ⟨by rw[List.take_of_length_le hb0],⟨⟩⟩)))
theorem qQ(x:aW)(hal:x.aB.rounds.length≤1048576):So 91 [.agg (aN x)] [aH (nB x)]:=by
 refine av X call91 func91 ntmps91 rfl rfl ?_;intro zb;refine bl 0 2 rfl rfl (fun lg=>(aq X [1] rfl (aa (aq X [1,3] rfl ?_))));refine au (aE (fun k=>k≤x.af.length∧(x.af.take k).all (nA x)=true) (fun k:Nat=> [(3, .one ((aA k)))]) (fun k=> []) (fun k=>x.af.length-k) 0 (fun k=>rfl) ⟨Nat.zero_le _,rfl⟩ rfl ?_);rintro k ⟨hk,hall⟩;refine aa (aq X [1,3,9] rfl ?_);refine aj rfl ?_ ?_<;>intro hb0
 ·try simp only[aQ]at hb0
  refine an (aa (au (aD X [1,3,4] rfl (by and_intros<;>first|exact⟨⟩| (intros;omega)) (aa ?_))));have t1:=(nD x.aB ((x.af.getD k (aG .aZ)).saved.next) (by first|assumption|omega| (simp;done)| (simp;omega)));refine aL X [] [(22,⟨true,bq t1⟩)] [1,3,41] [] rfl (by(with_reducible and_intros)<;>first|exact⟨⟩|exact t1| ((intro h1;first| (intro h2;first| (intro h3;refine And.intro ?_ ?_)|refine And.intro ?_ ?_)|refine And.intro ?_ ?_)<;>first|omega| ((try simp only[aQ]at*);(try simp(disch:=omega) only[bO]);omega))) ?_;refine aj rfl ?_ ?_<;>intro aV
  ·have hne:nA x (x.af.getD k (aG .aZ))=false:=bH aV (by simp only[nA,Int.toNat_zero,aO]<;>first|rfl|ac_rfl);exact aq X [2] rfl (ak (ah rfl ⟨by rw[nB,Ea _ _ (aG .aZ) k hb0 hne],⟨⟩⟩))
  ·have hee:nA x (x.af.getD k (aG .aZ))=true:=bF aV (by simp only[nA,Int.toNat_zero,aO]<;>first|rfl|ac_rfl);refine an (bg X [1,3] rfl ?_);refine⟨k+1,⟨by omega,by rw[tF _ _ _ (aG .aZ) hb0,hall,Bool.true_and];exact hee⟩,by omega,?_⟩;rw[bh _ k rfl (by omega)];try rfl
 ·try simp only[aQ]at hb0
  exact aI (aq X [2] rfl (ak (ah rfl ⟨by rw[List.take_of_length_le hb0]at hall;rw[nB,hall],⟨⟩⟩)))
theorem ud(x:aW)(i:Int)(hd:x.af.length≤1048576):So 121 [.agg (aN x),aA i] [aH (Ci x i)]:=by
 refine av X call121 func121 ntmps121 rfl rfl ?_;intro zb;have hf:=fun h=>Ip (i:=i) hd h;refine aq X [1,2] rfl (aa ?_);have t1:=(lZ ((x.af.getD i.toNat (aG .aZ)).live.inbox) ((x.af.getD (IntKind.i64.wrap (BitVec.ofInt IntKind.i64.bits i^^^BitVec.ofInt IntKind.i64.bits 1).toNat).toNat (aG .aZ)).live.aM));exact aF X [] [(7,⟨false,[aH (dX x i)]⟩),(24,⟨false,bq t1⟩)] [4] [] 4194303 0 MO (by kernel_rfl) rfl (by kernel_rfl) ⟨fun _=>lZ _ _,fun h=>(hf h).2.1,fun h=>(hf h).1,ng x i hd,⟨⟩⟩ (ak (ah rfl ⟨by rw[tK,KM hd],⟨⟩⟩))
theorem ue(x:aW)(i:Int)(hd:x.af.length≤1048576):So 89 [.agg (aN x),aA i] [aH (Ci x i)]:=by
 refine av X call89 func89 ntmps89 rfl rfl ?_;intro zb;refine aq X [1,2] rfl (aa (aC X [] [(9,⟨false,[aH (dX x i)]⟩)] [1,2,10] [] rfl (by(with_reducible and_intros)<;>first|exact⟨⟩|exact(tP x i (by first|assumption|omega| (simp;done)| (simp;omega)))) ?_));refine aj rfl ?_ ?_<;>intro hb0
 ·have hpk:dX x i=false:=by simpa using hb0
  exact aq X [4] rfl (ak (ah rfl ⟨by rw[Ci,hpk];rfl,⟨⟩⟩))
 ·have hpk:dX x i=true:=by simpa using hb0
  have hf:=Ip hd hpk;refine an (aD X [1,2,5] rfl (by and_intros<;>first|exact⟨⟩| (intros;omega)) (aD X [5,6] rfl (by and_intros<;>first|exact⟨⟩| (intros;omega)) (aa ?_)));have t1:=(gI ((x.af.getD i.toNat (aG .aZ)).live.inbox) (((x.af.getD (IntKind.i64.wrap (BitVec.ofInt IntKind.i64.bits i^^^BitVec.ofInt IntKind.i64.bits 1).toNat).toNat (aG .aZ)).live.aM.take ((x.af.getD i.toNat (aG .aZ)).live.inbox.length:Int).toNat).drop (0:Int).toNat));refine aL X [] [(37,⟨false,bq t1⟩)] [4] [] rfl (by(with_reducible and_intros)<;>first|exact⟨⟩|exact fun _=>t1| ((intro h1;first| (intro h2;first| (intro h3;refine And.intro ?_ ?_)|refine And.intro ?_ ?_)|refine And.intro ?_ ?_)<;>first|omega| ((try simp only[aQ]at*);(try simp(disch:=omega) only[bO]);omega))) ?_;exact ak (ah rfl ⟨by rw[←KM hd,hpk];exact(congrArg Value.bool (by simp only[vU,List.drop_zero,Int.toNat_zero,aO]<;>first|rfl|ac_rfl)),⟨⟩⟩)
theorem zk(x:aW)(hsz:dP x≤1048576):So 66 [.agg (aN x)] [aH (mj x)]:=by
 refine av X call66 func66 ntmps66 rfl rfl ?_;intro zb;have hd:x.af.length≤1048576:=Ia hsz;have hrl:x.aB.rounds.length≤1048576:=vB hsz;refine aq X [1] rfl (aa (aC X [] [(5,⟨false,[aH (okW x)]⟩),(9,⟨false,[aH (nB x)]⟩)] [1,11] [] rfl (by(with_reducible and_intros);(iterate 2 all_goals try first|exact⟨⟩|exact(bQ x)|exact fun _=>(qP x (by first|assumption|omega| (simp;done)| (simp;omega))))) ?_));refine aj rfl ?_ ?_<;>intro hb0
 ·have hh:(okW x&&nB x)=false:=bH hb0 (by simp only[aO]<;>first|rfl|ac_rfl);exact aq X [2] rfl (ak (ah rfl ⟨by rw[mj,hh];rfl,⟨⟩⟩))
 ·have hh:(okW x&&nB x)=true:=bF hb0 (by simp only[aO]<;>first|rfl|ac_rfl);refine an (aa (aq X [1,14,15] rfl ?_));refine au (aE (fun k=>k≤x.af.length∧(List.range k).all (Ti x)=true) (fun k:Nat=> [(15, .one ((aA k)))]) (fun k=> []) (fun k=>x.af.length-k) 0 (fun k=>rfl) ⟨Nat.zero_le _,rfl⟩ rfl ?_);rintro k ⟨hk,hall⟩;refine aq X [1,14,15,16] rfl ?_;refine aa (aj rfl ?_ ?_)<;>intro aV
  ·try simp only[aQ]at aV
   refine an (aa (au (aq X [1,3,14,15] rfl (aC X [] [(20,⟨false,[aH (Ci x (k:Int))]⟩),(25,⟨false,[aH (j0 x (k:Int))]⟩)] [1,14,15,27] [] rfl (by(with_reducible and_intros);(iterate 2 all_goals try first|exact⟨⟩|exact(ud x (k:Int) (by first|assumption|omega| (simp;done)| (simp;omega)))|exact fun _=>(rW x (k:Int) (by first|assumption|omega| (simp;done)| (simp;omega))))) ?_))));refine aj rfl ?_ ?_<;>intro bI
   ·have hk2:Ti x k=false:=bH bI (by simp only[Ti,aO]<;>first|rfl|ac_rfl);exact aq X [2] rfl (ak (ah rfl ⟨by rw[mj,iQ aV hk2];simp,⟨⟩⟩))
   ·have hk2:Ti x k=true:=bF bI (by simp only[Ti,aO]<;>first|rfl|ac_rfl);refine an (bg X [1,14,15] rfl ?_);refine⟨k+1,⟨by omega,gx hall hk2⟩,by omega,?_⟩;rw[bh _ k rfl (by omega)];try rfl
  ·try simp only[aQ]at aV
   exact aI (aq X [2] rfl (ak (ah rfl ⟨by rw[mj,hh,show x.af.length=k by omega,hall];rfl,⟨⟩⟩)))
theorem zl(x:aW)(hsz:dP x≤1048576):So 43 [.agg (aN x)] [aH (mj x)]:=by
 refine av X call43 func43 ntmps43 rfl rfl ?_;intro zb;have hd:x.af.length≤1048576:=Ia hsz;have hrl:x.aB.rounds.length≤1048576:=vB hsz;refine aq X [1] rfl (aa (aq X [1,3] rfl ?_));refine au (aE (fun k=>k≤x.af.length∧(List.range k).all (Ti x)=true) (fun k:Nat=> [(3, .one ((aA k)))]) (fun k=> []) (fun k=>x.af.length-k) 0 (fun k=>rfl) ⟨Nat.zero_le _,rfl⟩ rfl ?_);rintro k ⟨hk,hall⟩;refine aa (aq X [1,3,8] rfl ?_);refine aj rfl ?_ ?_<;>intro hb0
 ·try simp only[aQ]at hb0
  refine an (aa (au (aC X [] [(13,⟨false,[aH (Ci x (k:Int))]⟩),(18,⟨false,[aH (j0 x (k:Int))]⟩)] [1,3,20] [] rfl (by(with_reducible and_intros);(iterate 2 all_goals try first|exact⟨⟩|exact(ue x (k:Int) (by first|assumption|omega| (simp;done)| (simp;omega)))|exact fun _=>(rX x (k:Int) (by first|assumption|omega| (simp;done)| (simp;omega))))) ?_)));refine aj rfl ?_ ?_<;>intro aV
  ·have hk2:Ti x k=false:=bH aV (by simp only[Ti,aO]<;>first|rfl|ac_rfl);exact aq X [2] rfl (ak (ah rfl ⟨by rw[mj,iQ hb0 hk2];simp,⟨⟩⟩))
  ·have hk2:Ti x k=true:=bF aV (by simp only[Ti,aO]<;>first|rfl|ac_rfl);refine an (bg X [1,3] rfl ?_);refine⟨k+1,⟨by omega,gx hall hk2⟩,by omega,?_⟩;rw[bh _ k rfl (by omega)];try rfl
 ·try simp only[aQ]at hb0
  exact aI (aC X [] [(22,⟨false,[aH (okW x)]⟩),(25,⟨false,[aH (nB x)]⟩)] [2] [] rfl (by(with_reducible and_intros);(iterate 2 all_goals try first|exact⟨⟩|exact(bV x)|exact fun _=>(qQ x (by first|assumption|omega| (simp;done)| (simp;omega))))) (ak (ah rfl ⟨by rw[mj,show x.af.length=k by omega,hall];exact(congrArg Value.bool (by simp only[aO]<;>first|rfl|ac_rfl)),⟨⟩⟩)))
end
section
set_option maxRecDepth 100000
theorem rI(key c:Int)(cell:List UInt8):So 374 [aA key,aA c, .a (.sl .u8 cell)] [.agg (ij (QY key c cell)),aH (nQ key c cell)]:=by
 refine av X call374 func374 ntmps374 rfl rfl ?_;intro zb;refine ct 2 rfl (fun ir=>(aq X [0,1,2,6] rfl (aa (aa ?_))));have t1:=(nX key c ((cell.take (20:Int).toNat).drop (0:Int).toNat) (by rw[List.length_drop,List.length_take];omega));have t2:=(iR ((cell.take (cell.length:Int).toNat).drop (20:Int).toNat) (four (mV key c ((cell.take (20:Int).toNat).drop (0:Int).toNat))));refine aF X [] [(11,⟨false,[aH (eM key)]⟩),(15,⟨false,[aH (inr c 0 1000000000000)]⟩),(30,⟨false,bq t1⟩),(31,⟨false,bq t2⟩)] [0,1,2,6,33] [] 16777215 0 MO (by kernel_rfl) rfl (by kernel_rfl) (by(with_reducible and_intros);(iterate 4 all_goals try first|exact⟨⟩|exact(fA key)|exact fun _=>(aK c 0 1000000000000)|exact fun _=>t1|exact fun _=>t2);all_goals first| ((intro h1;first| (intro h2;first| (intro h3;refine And.intro ?_ ?_)|refine And.intro ?_ ?_)|refine And.intro ?_ ?_)<;>first|omega| ((try simp only[aQ]at*);(try simp(disch:=omega) only[bO]);omega))) ?_;refine aj rfl ?_ ?_<;>intro hb0
 ·have hA:LP key c cell=false:=bH hb0 (by simp only[LP,List.drop_zero,Int.reduceToNat,List.take_length,aO]<;>first|rfl|ac_rfl);have hk:=MT hA;exact aD X [6,7] rfl (by trivial) (ak (ah rfl ⟨by rw[l6 hk],by rw[l6 hk],by rw[hk],⟨⟩⟩))
 ·have hA:LP key c cell=true:=bF hb0 (by simp only[LP,List.drop_zero,Int.reduceToNat,List.take_length,aO]<;>first|rfl|ac_rfl);obtain⟨hol,hcl⟩:=Iq hA;refine an (aa ?_);have t1:=(Ed (mW key c) ((cell.take (20:Int).toNat).drop (0:Int).toNat) (by rw[List.length_drop,List.length_take];omega));refine aF X [] [(37,⟨false,[aA (mW key c)]⟩),(40,⟨true,bq t1⟩)] [6,8] [] 127 0 MO (by kernel_rfl) rfl (by kernel_rfl) (by(with_reducible and_intros);(iterate 2 all_goals try first|exact⟨⟩|exact(tJ key c)|exact t1);all_goals first| (intros;omega)) ?_;rw[Tr];refine aa (aD X [6,8,45] rfl (by and_intros<;>first|exact⟨⟩| (intros;omega)) ?_);refine aj rfl ?_ ?_<;>intro aV
  ·try simp only[aQ]at aV
   rw[Qw]at aV;have WZ:14<FA key c cell:=by have h:(14:Int)<(FA key c cell:Int):=aV;omega
   have hk:=Ys WZ;exact aD X [6,7] rfl (by trivial) (ak (ah rfl ⟨by rw[l6 hk],by rw[l6 hk],by rw[hk],⟨⟩⟩))
  ·try simp only[aQ]at aV
   rw[Qw]at aV;have WZ:FA key c cell≤14:=by have h:(FA key c cell:Int)≤14:=aV;omega
   have hu1:((GI key c cell).getD (Int.toNat 1) (aG .u8)).toNat≤14:=WZ;have DF:=Ir hA WZ;have hpk:=ach hA WZ;have X5:=MS key c cell;refine an (aa ?_);have t1:=(b9 (((GI key c cell).take (IntKind.i64.wrap (2+IntKind.i64.wrap (((GI key c cell).getD (Int.toNat 1) (aG .u8)).toNat:Int))).toNat).drop (Int.toNat 2)) (by rw[X5,DF];omega));refine aF X [] [(58,⟨true,bq t1⟩)] [6,9] [] 16383 0 MO (by kernel_rfl) rfl (by kernel_rfl) (by(with_reducible and_intros)<;>first|exact⟨⟩|exact t1| (intros;omega)| ((try simp only[aQ]at*);(simp(disch:=omega) only[bO]);omega)) ?_;rw[MS,Qw];refine aa (aC X [] [(61,⟨false,[aH (iX (⟨Vq key c cell,Yr key c cell⟩:Plain))]⟩)] [6,9,62] [] rfl (by(with_reducible and_intros)<;>first|exact⟨⟩|exact(mh (⟨Vq key c cell,Yr key c cell⟩:Plain))) ?_);refine aj rfl ?_ ?_<;>intro bI
   ·have hk:nQ key c cell=false:=by rw[←hpk];simpa using bI
    exact aD X [6,7] rfl (by trivial) (ak (ah rfl ⟨by rw[l6 hk],by rw[l6 hk],by rw[hk],⟨⟩⟩))
   ·have hk:nQ key c cell=true:=by rw[←hpk];simpa using bI
    exact an (aD X [6,7] rfl (by trivial) (ak (ah rfl ⟨by rw[Dc hk];rfl,by rw[Dc hk],by rw[hk],⟨⟩⟩)))
theorem rJ(key c:Int)(cell:List UInt8):So 408 [aA key,aA c, .a (.sl .u8 cell)] [.agg (ij (QY key c cell)),aH (nQ key c cell)]:=by
 refine av X call408 func408 ntmps408 rfl rfl ?_;intro zb;refine ct 2 rfl (fun ir=>(aq X [0,1,2,6] rfl (aa (aC X [] [(11,⟨false,[aH (eM key)]⟩),(15,⟨false,[aH (inr c 0 1000000000000)]⟩)] [0,1,2,6,22] [] rfl (by(with_reducible and_intros);(iterate 2 all_goals try first|exact⟨⟩|exact(gF key)|exact fun _=>(aP c 0 1000000000000))) ?_))));refine aj rfl ?_ ?_<;>intro hb0
 ·have hH:Yt key c cell=false:=bH hb0 (by simp only[Yt,aO]<;>first|rfl|ac_rfl);have hk:=ZV hH;exact aD X [6,7] rfl (by trivial) (ak (ah rfl ⟨by rw[l6 hk],by rw[l6 hk],by rw[hk],⟨⟩⟩))
 ·have hH:Yt key c cell=true:=bF hb0 (by simp only[Yt,aO]<;>first|rfl|ac_rfl);obtain⟨hk1,hk2,hcl⟩:=acj hH;have ack:=WV hk1 hk2 hcl;refine an (aa (aF X [] [] [0,1,2,6,8] [] 8388607 0 MO (by kernel_rfl) rfl (by kernel_rfl) (by and_intros<;>first|exact⟨⟩| (intros;omega)) ?_));rw[WU];refine aa (aa ?_);have t1:=(o9 key c ((cell.take (20:Int).toNat).drop (0:Int).toNat) (by rw[List.length_drop,List.length_take];omega));refine aL X [] [(51,⟨false,bq t1⟩)] [0,1,2,6,52] [] rfl (by(with_reducible and_intros)<;>first|exact⟨⟩|exact t1| (intros;omega)) ?_;refine aj rfl ?_ ?_<;>intro aV
  ·try simp only[aQ]at aV
   have hA:LP key c cell=false:=by rw[ack,decide_eq_false_iff_not];intro h;exact aV (by rw[h];simp)
   have hk:=MT hA;exact aD X [6,7] rfl (by trivial) (ak (ah rfl ⟨by rw[l6 hk],by rw[l6 hk],by rw[hk],⟨⟩⟩))
  ·try simp only[aQ]at aV
   have hA:LP key c cell=true:=by rw[ack,decide_eq_true_eq,aV];simp
   obtain⟨hol,_⟩:=Iq hA;refine an (aa ?_);have t1:=(Ef (mW key c) ((cell.take (20:Int).toNat).drop (0:Int).toNat) (by rw[List.length_drop,List.length_take];omega));refine aF X [] [(56,⟨false,[aA (mW key c)]⟩),(59,⟨true,bq t1⟩)] [6,9] [] 127 0 MO (by kernel_rfl) rfl (by kernel_rfl) (by(with_reducible and_intros);(iterate 2 all_goals try first|exact⟨⟩|exact(pg key c)|exact t1);all_goals first| (intros;omega)) ?_;rw[Tr];refine aa (aD X [6,9,71] rfl (by and_intros<;>first|exact⟨⟩| (intros;omega)| ((intro h1;first| (intro h2;first| (intro h3;refine And.intro ?_ ?_)|refine And.intro ?_ ?_)|refine And.intro ?_ ?_)<;>first|omega| ((try simp only[aQ]at*);(try simp(disch:=omega) only[bO]);omega))| (refine fun _=> ?_;dsimp only[hyps,Jp];omega)) ?_);refine aj rfl ?_ ?_<;>intro bI
   ·try simp only[aQ]at bI
    rw[Qw,Qw]at bI;have hk:nQ key c cell=false:=by
     rcases bI with h|h
     ·exact ZQ h
     ·exact Ys (by have h:(14:Int)<(FA key c cell:Int):=h;omega)
    exact aD X [6,7] rfl (by trivial) (ak (ah rfl ⟨by rw[l6 hk],by rw[l6 hk],by rw[hk],⟨⟩⟩))
   ·try simp only[aQ]at bI
    rw[Qw,Qw]at bI;have WZ:FA key c cell≤14:=by have h:(FA key c cell:Int)≤14:=bI.2;omega
    have hu1:((GI key c cell).getD (Int.toNat 1) (aG .u8)).toNat≤14:=WZ;have DF:=Ir hA WZ;have hk:nQ key c cell=true:=aci hA WZ bI.1;have X5:=MS key c cell;exact an (aa (aF X [(85,77)] [] [6,7] [] 45055 4 MO (by kernel_rfl) rfl (by kernel_rfl) (by and_intros<;>first|exact⟨⟩| (intros;omega)|exact rfl| ((try simp only[aQ]at*);(simp(disch:=omega) only[bO]);omega)| (simp only[dN,maxLen,lens];omega)) (ak (ah rfl ⟨by rw[Dc hk];exact congrArg (Value.int IntKind.i64) (Qw _),by rw[Dc hk];exact X5,by rw[hk],⟨⟩⟩))))
theorem fL(a:gZ)(r:Int)(hz:a.rounds.length≤1048576∧ ∀y,y∈a.rounds→cE List.length y.db.rows≤1048576):So 141 [.agg (cV a),aA r] [.agg (aY (gO a.rounds r)),aH (jJ a.rounds r)]:=by
 refine av X call141 func141 ntmps141 rfl rfl ?_;intro zb;refine bl 0 1 rfl rfl (fun RT=>(aq X [1,2,4] rfl (aa (aq X [1,4,9,10,11] rfl ?_))));refine au (aE (fun k=>k≤a.rounds.length∧(a.rounds.take k).any (Tl r)=false) (fun k:Nat=> [(11, .one ((aA k)))]) (fun k=> []) (fun k=>a.rounds.length-k) 0 (fun k=>rfl) ⟨Nat.zero_le _,rfl⟩ rfl ?_);rintro k ⟨hk,hall⟩;refine aq X [1,4,9,10,11,12] rfl ?_;refine aa (aj rfl ?_ ?_)<;>intro hb0
 ·try simp only[aQ]at hb0
  refine an (aa (au (aD X [1,4,7,9,10,11] rfl (by and_intros<;>first|exact⟨⟩| (intros;omega)) (aq X [1,4,7,9,10,11,18] rfl ?_))));refine aj rfl ?_ ?_<;>intro aV
  ·have hh:=Tm hb0 hall aV;exact aC X [] [(21,⟨true,[.agg (aY ((a.rounds.getD k (aG .aJ)).db))]⟩)] [4,5] [] rfl (by(with_reducible and_intros)<;>first|exact⟨⟩|exact(cG ((a.rounds.getD k (aG .aJ)).db) (hz.2 _ (getD_in _ hb0)))) (ak (ah rfl ⟨by rw[hh.2],by rw[hh.1],⟨⟩⟩))
  ·refine an (bg X [1,4,9,10,11] rfl ?_);refine⟨k+1,⟨by omega,qI (aG .aJ) hb0 hall aV⟩,by omega,?_⟩;rw[bh _ k rfl (by omega)];try rfl
 ·try simp only[aQ]at hb0
  exact aI (aD X [4,5] rfl (by trivial) (ak (ah rfl ⟨by rw[(Da (by rw[←hall,List.take_of_length_le hb0])).2],by rw[(Da (by rw[←hall,List.take_of_length_le hb0])).1],⟨⟩⟩)))
theorem Bo(rows:List (List UInt8))(v:List Int)(hr: ∀r,r∈rows→r.length≤1048576):So 349 [.a (.sl (.sl .u8) rows), .a (.sl .int v)] [.a (.sl .u8 (zm rows v))]:=by
 refine av X call349 func349 ntmps349 rfl rfl ?_;intro zb;refine ct 0 rfl (fun hl0=> ?_);refine ct 1 rfl (fun hl1=>(aq X [0,1] rfl (aD X [0,1,5] rfl (by and_intros<;>first|exact⟨⟩|exact rfl) (aa (aq X [1,5,9,10,11] rfl ?_)))));refine au (aE (fun k=>k≤rows.length) (fun k:Nat=> [(11, .one ((aA k)))]) (fun k=> [(8, .arr .u8 (qR rows v k))]) (fun k=>rows.length-k) 0 (fun k=>rfl) (Nat.zero_le _) rfl ?_);intro k hk;have hle:=uf v hr k hk;refine aq X [1,5,9,10,11,12] rfl ?_;refine aa (aj rfl ?_ ?_)<;>intro hb0
 ·try simp only[aQ]at hb0
  have hel:=hr _ (getD_in (aG (.sl .u8)) hb0);refine an (aa (au (aD X [1,5,6,7,9,10,11] rfl (by and_intros<;>first|exact⟨⟩| (intros;omega)) (aD X [1,5,7,9,10,11,26] rfl (by and_intros<;>first|exact⟨⟩| ((intro h1;first| (intro h2;first| (intro h3;refine And.intro ?_ ?_)|refine And.intro ?_ ?_)|refine And.intro ?_ ?_)<;>first|omega| ((try simp only[aQ]at*);(try simp(disch:=omega) only[bO]);omega))) ?_))));refine aj rfl ?_ ?_<;>intro aV
  ·try simp only[aQ]at aV
   have hs:=zn (rows:=rows) aV.1 aV.2;refine aL X [] [(29,⟨true,[.a (.sl .u8 (ef (qR rows v k) (rows.getD k (aG (.sl .u8)))))]⟩)] [1,5,9,10,11] [] rfl (by(with_reducible and_intros)<;>first|exact⟨⟩|exact(iY (qR rows v k) (rows.getD k (aG (.sl .u8))) (by first|assumption|omega| (simp;done)| (simp;omega)) (by first|assumption|omega| (simp;done)| (simp;omega)))) (mG 5 8 rfl (bg X [1,5,9,10,11] rfl ?_));refine⟨k+1,by omega,by omega,?_⟩;rw[bh _ k rfl (by omega),hs];try rfl
  ·try simp only[aQ]at aV
   have hs:=pO (rows:=rows) (v:=v) (k:=k) (by omega);refine an (bg X [1,5,9,10,11] rfl ?_);refine⟨k+1,by omega,by omega,?_⟩;rw[bh _ k rfl (by omega),hs];try rfl
 ·try simp only[aQ]at hb0
  exact aI (aq X [4] rfl (ak (ah rfl ⟨by rw[KN hk (Or.inl hb0)],⟨⟩⟩)))
theorem nF(d:DB)(v:List Int):So 290 [.agg (aY d), .a (.sl .int v)] [.a (.sl .u8 (fU d v))]:=by
 refine av X call290 func290 ntmps290 rfl rfl ?_;intro zb;refine aq X [1,2] rfl (aa (aC X [] [(6,⟨false,[aH (cL d)]⟩),(13,⟨false,[aH (fY v (d.rows.length:Int))]⟩)] [1,2,15] [] rfl (by(with_reducible and_intros);(iterate 2 all_goals try first|exact⟨⟩|exact(dc d)|exact fun _=>(ju v (d.rows.length:Int)))) ?_));refine aj rfl ?_ ?_<;>intro hb0
 ·have hk:(cL d&&fY v d.rows.length)=false:=bH hb0 (by simp only[aO]<;>first|rfl|ac_rfl);exact aq X [4] rfl (ak (ah rfl ⟨by rw[fU,hk];rfl,⟨⟩⟩))
 ·have hk:(cL d&&fY v d.rows.length)=true:=bF hb0 (by simp only[aO]<;>first|rfl|ac_rfl);have hkk:=hk;rw[Bool.and_eq_true]at hkk;have Qx: ∀r,r∈d.rows→r.length≤1048576:=fun r hr=>by rw[(iS.1 hkk.1).2 r hr];decide
  have hxl:(zm d.rows v).length≤1048576:=uf v Qx d.rows.length (Nat.le_refl _);exact an (aa (aF X [] [(20,⟨true,[.a (.sl .u8 (zm d.rows v))]⟩),(21,⟨true,[.a (.sl .u8 (ef Vm (zm d.rows v)))]⟩)] [4] [] 127 0 MO (by kernel_rfl) rfl (by kernel_rfl) ⟨iY Vm (zm d.rows v) (by rw[qL];decide) hxl,Bo d.rows v Qx,⟨rfl,bA _ (by decide)⟩,rfl,by omega,⟨by decide,by decide⟩,⟨⟩⟩ (ak (ah rfl ⟨by rw[fU,if_pos hk],⟨⟩⟩))))
theorem pR(key:Int)(a:cM)(h1:a.selection.length≤262144)(h2:a.data.length≤262144):So 291 [aA key, .agg (eS a)] [aA (EM key a.server a.round a.selection a.data)]:=by
 refine av X call291 func291 ntmps291 rfl rfl ?_;intro zb;refine aq X [0,3] rfl (aa ?_);have t1:=(jG [[191,a.server,a.round,(a.selection.length:Int)],a.selection,Fz a.data] (by simp) (by simp[qN];omega));have t2:=(bD key ([[191,a.server,a.round,(a.selection.length:Int)],a.selection,Fz a.data].flatten) (by simp[qN];omega));refine aF X [] [(18,⟨true,[.a (.sl .int (Fz a.data))]⟩),(20,⟨true,bq t1⟩),(21,⟨false,bq t2⟩)] [4] [] 245759 1 MO (by kernel_rfl) rfl (by kernel_rfl) (by(repeat' with_reducible first|exact aR|refine bf ?_ ?_|apply And.intro);(iterate 3 all_goals try first|exact(mS a.data (by omega))|exact t1|exact t2);all_goals first|exact rfl|exact⟨rfl,bA _ (by decide)⟩) ?_;exact ak (ah rfl ⟨by simp[EM],⟨⟩⟩)
theorem jL(a:gZ)(r:Int)(hz:a.rounds.length≤1048576∧ ∀y,y∈a.rounds→cE List.length y.db.rows≤1048576):So 174 [.agg (cV a),aA r] [.agg (aY (gO a.rounds r)),aH (jJ a.rounds r)]:=by
 refine av X call174 func174 ntmps174 rfl rfl ?_;intro zb;refine bl 0 1 rfl rfl (fun RT=>(aq X [1,2,4] rfl (aa (aq X [1,2,4,6] rfl ?_))));refine au (aE (fun k=>k≤a.rounds.length∧(a.rounds.take k).any (Tl r)=false) (fun k:Nat=> [(6, .one ((aA k)))]) (fun k=> []) (fun k=>a.rounds.length-k) 0 (fun k=>rfl) ⟨Nat.zero_le _,rfl⟩ rfl ?_);rintro k ⟨hk,hall⟩;refine aa (aq X [1,2,4,6,11] rfl ?_);refine aj rfl ?_ ?_<;>intro hb0
 ·try simp only[aQ]at hb0
  refine an (aa (au (aD X [1,2,4,6,21] rfl (by and_intros<;>first|exact⟨⟩| (intros;omega)) ?_)));refine aj rfl ?_ ?_<;>intro aV
  ·have hh:=Tm hb0 hall aV;exact aC X [] [(28,⟨true,[.agg (aY ((a.rounds.getD k (aG .aJ)).db))]⟩)] [4,5] [] rfl (by(with_reducible and_intros)<;>first|exact⟨⟩|exact(eg ((a.rounds.getD k (aG .aJ)).db) (hz.2 _ (getD_in _ hb0)))| (intros;omega)) (ak (ah rfl ⟨by rw[hh.2],by rw[hh.1],⟨⟩⟩))
  ·refine an (bg X [1,2,4,6] rfl ?_);refine⟨k+1,⟨by omega,qI (aG .aJ) hb0 hall aV⟩,by omega,?_⟩;rw[bh _ k rfl (by omega)];try rfl
 ·try simp only[aQ]at hb0
  exact aI (aD X [4,5] rfl (by trivial) (ak (ah rfl ⟨by rw[(Da (by rw[←hall,List.take_of_length_le hb0])).2],by rw[(Da (by rw[←hall,List.take_of_length_le hb0])).1],⟨⟩⟩)))
theorem Bp(rows:List (List UInt8))(v:List Int)(hr: ∀r,r∈rows→r.length≤1048576):So 366 [.a (.sl (.sl .u8) rows), .a (.sl .int v)] [.a (.sl .u8 (zm rows v))]:=by
 refine av X call366 func366 ntmps366 rfl rfl ?_;intro zb;refine ct 0 rfl (fun hl0=> ?_);refine ct 1 rfl (fun hl1=>(aq X [0,1] rfl (aD X [0,1,5] rfl (by and_intros<;>first|exact⟨⟩|exact rfl) (aa (aq X [0,1,5,6] rfl ?_)))));refine au (aE (fun k=>k≤rows.length) (fun k:Nat=> [(6, .one ((aA k)))]) (fun k=> [(7, .arr .u8 (qR rows v k))]) (fun k=>rows.length-k) 0 (fun k=>rfl) (Nat.zero_le _) rfl ?_);intro k hk;have hle:=uf v hr k hk;refine aa (aq X [0,1,5,6,17] rfl ?_);refine aj rfl ?_ ?_<;>intro hb0
 ·try simp only[aQ]at hb0
  have hel:=hr _ (getD_in (aG (.sl .u8)) hb0.1);refine an (aa (au (aD X [0,1,5,6,24] rfl (by and_intros<;>first|exact⟨⟩| (intros;omega)) ?_)));refine aj rfl ?_ ?_<;>intro aV
  ·try simp only[aQ]at aV
   have hs:=zn (rows:=rows) hb0.2 aV;refine aL X [] [(30,⟨true,[.a (.sl .u8 (ef (qR rows v k) (rows.getD k (aG (.sl .u8)))))]⟩)] [0,1,5,6] [] rfl (by(with_reducible and_intros)<;>first|exact⟨⟩|exact(iZ (qR rows v k) (rows.getD k (aG (.sl .u8))) (by first|assumption|omega| (simp;done)| (simp;omega)) (by first|assumption|omega| (simp;done)| (simp;omega)))| (intros;omega)) (mG 5 7 rfl (bg X [0,1,5,6] rfl ?_));refine⟨k+1,by omega,by omega,?_⟩;rw[bh _ k rfl (by omega),hs];try rfl
  ·try simp only[aQ]at aV
   have hs:=pO (rows:=rows) (v:=v) (k:=k) (fun h=>aV h.2);refine an (bg X [0,1,5,6] rfl ?_);refine⟨k+1,by omega,by omega,?_⟩;rw[bh _ k rfl (by omega),hs];try rfl
 ·try simp only[aQ]at hb0
  exact aI (aq X [4] rfl (ak (ah rfl ⟨by rw[KN hk (by omega)],⟨⟩⟩)))
theorem nG(d:DB)(v:List Int):So 311 [.agg (aY d), .a (.sl .int v)] [.a (.sl .u8 (fU d v))]:=by
 refine av X call311 func311 ntmps311 rfl rfl ?_;intro zb;refine aq X [1,2] rfl (aa (aC X [] [(6,⟨false,[aH (cL d)]⟩),(13,⟨false,[aH (fY v (d.rows.length:Int))]⟩)] [1,2,15] [] rfl (by(with_reducible and_intros);(iterate 2 all_goals try first|exact⟨⟩|exact(cO d)|exact fun _=>(jv v (d.rows.length:Int)))) ?_));refine aj rfl ?_ ?_<;>intro hb0
 ·have hk:(cL d&&fY v d.rows.length)=false:=bH hb0 (by simp only[aO]<;>first|rfl|ac_rfl);exact aD X [4] rfl (by and_intros<;>first|exact⟨⟩|exact rfl) (ak (ah rfl ⟨by rw[fU,hk];rfl,⟨⟩⟩))
 ·have hk:(cL d&&fY v d.rows.length)=true:=bF hb0 (by simp only[aO]<;>first|rfl|ac_rfl);have hkk:=hk;rw[Bool.and_eq_true]at hkk;have Qx: ∀r,r∈d.rows→r.length≤1048576:=fun r hr=>by rw[(iS.1 hkk.1).2 r hr];decide
  have hxl:(zm d.rows v).length≤1048576:=uf v Qx d.rows.length (Nat.le_refl _);exact an (aa (aF X [] [(21,⟨true,[.a (.sl .u8 (zm d.rows v))]⟩),(22,⟨true,[.a (.sl .u8 (ef Vm (zm d.rows v)))]⟩)] [4] [] 127 0 MO (by kernel_rfl) rfl (by kernel_rfl) ⟨iZ Vm (zm d.rows v) (by rw[qL];decide) hxl,Bp d.rows v Qx,⟨rfl,bA _ (by decide)⟩,rfl,by omega,⟨by decide,by decide⟩,⟨⟩⟩ (ak (ah rfl ⟨by rw[fU,if_pos hk],⟨⟩⟩))))
theorem kZ(key:Int)(a:cM)(h1:a.selection.length≤262144)(h2:a.data.length≤262144):So 253 [aA key, .agg (eS a)] [aA (EM key a.server a.round a.selection a.data)]:=by
 refine av X call253 func253 ntmps253 rfl rfl ?_;intro zb;have DF:=qN a.data;refine aq X [0,3] rfl (aC X [(16,13)] [] [0,3,5] [] rfl (by and_intros<;>first|exact⟨⟩|exact rfl| (simp only[dN,maxLen,lens];omega)) (aa ?_));have t1:=(bE key ([191,a.server,a.round,(a.selection.length:Int)]++a.selection++Fz a.data) (by simp[qN];omega));exact aL X [(22,13)] [(21,⟨true,[.a (.sl .int (Fz a.data))]⟩),(23,⟨false,bq t1⟩)] [4] [] rfl (by(with_reducible and_intros);(iterate 2 all_goals try first|exact⟨⟩|exact(mT a.data (by omega))|exact t1);all_goals first|exact rfl| (simp only[dN,maxLen,lens];omega)) (ak (ah rfl ⟨rfl,⟨⟩⟩))
theorem wV(key:Int)(a:cM)(h1:a.selection.length≤262144)(h2:a.data.length≤262144):ff ty Tryz.prog 228 [(5, .arr .int a.selection),(6, .arr .u8 a.data)] [aA key, .agg [cF a.server,cF a.round, .own 5, .own 6,cF a.LK]] [(5, .arr .int a.selection),(6, .arr .u8 a.data)] [.agg [cF a.server,cF a.round, .own 5, .own 6,cF (EM key a.server a.round a.selection a.data)]]:=by
 refine cY X call228 func228 rfl rfl (by decide) ntmps228 (by simp) rfl ?_;intro zb;exact aq X [0,3,4] rfl (aC X [] [(7,⟨false,[aA (EM key a.server a.round a.selection a.data)]⟩)] [3,4] [] rfl (by(with_reducible and_intros)<;>first|exact⟨⟩|exact(pR key a h1 h2)) (aD X [4] rfl (by trivial) (ak (aS rfl ⟨rfl,rfl,rfl,rfl,rfl,⟨⟩⟩))))
theorem zv(key sv r:Int)(d:DB)(v:List Int)(hv:v.length≤262144):So 227 [aA key,aA sv,aA r, .agg (aY d), .a (.sl .int v)] [.agg (eS (nM key sv r d v)),aH (ko d v)]:=by
 refine av X call227 func227 ntmps227 rfl rfl ?_;intro zb;have hal:=ug d v;refine aq X [0,1,2,4,8,10] rfl (aC X [] [(15,⟨true,[.a (.sl .u8 (fU d v))]⟩)] [0,1,2,4,10,12] [] rfl (by(with_reducible and_intros)<;>first|exact⟨⟩|exact(nF d v)) (aa (aq X [0,1,2,4,10,12,18] rfl ?_)));refine aj rfl ?_ ?_<;>intro hb0
 ·try simp only[aQ]at hb0
  have hk:=Oy (d:=d) (v:=v) (by omega);have hg:=Tu (key:=key) (sv:=sv) (r:=r) hk;exact aD X [10,11] rfl (by trivial) (ak (ah rfl (by and_intros<;>first|exact⟨⟩| (rw[hg];rfl;done)| (rw[hk];done))))
 ·try simp only[aQ]at hb0
  have hk:=ET (d:=d) (v:=v) (by omega);have hg:=Dd (key:=key) (sv:=sv) (r:=r) hk;have h24:=De hk;refine an (aa ?_);have t1:=(wV key (⟨sv,r,v,fU d v,0⟩:cM) (by show v.length≤_;omega) (by show(fU d v).length≤_;omega));exact aL X [] [(24,⟨true,[.a (.sl .int v)]⟩),(800027,⟨true,ji t1⟩),(700027,⟨true, .agg [.ptr 5 24, .ptr 6 15]:: .agg []::jj t1⟩)] [10,11] [] rfl (by(with_reducible and_intros);(iterate 2 all_goals try first|exact⟨⟩|exact(gb v (by omega))|exact t1)) (ak (ah rfl (by and_intros<;>first|exact⟨⟩| (rw[hg];rfl;done)| (rw[hk];done))))
theorem rK(s:bp)(key r:Int)(d:DB)(v:List Int)(hv:v.length≤262144):So 144 [.agg (bS s),aA key,aA r, .agg (aY d), .a (.sl .int v)] [.agg (eS (MP s key r d v)),aH (ko d v)]:=by
 refine av X call144 func144 ntmps144 rfl rfl ?_;intro zb;refine aq X [1,2,4,5,8,10] rfl (aC X [] [(21,⟨true,[.agg (eS (nM key s.id r d v)),aH (ko d v)]⟩)] [1,5,10,12,13] [] rfl (by(with_reducible and_intros)<;>first|exact⟨⟩|exact(zv key s.id r d v (by first|assumption|omega| (simp;done)| (simp;omega)))) (aa (aq X [1,10,12,13,29] rfl ?_)));refine aj rfl ?_ ?_<;>intro hb0
 ·have hq:(ko d v&&(s.behavior==3))=true:=iA hb0 (by simp only[aO]<;>first|rfl|ac_rfl);obtain⟨hk,ha⟩:=Oz (key:=key) (r:=r) hq;have hg:=Dd (key:=key) (sv:=s.id) (r:=r) hk;have hdl:(nM key s.id r d v).data.length=24:=by rw[hg];exact De hk
  refine aD X [1,10,12,13] rfl (by and_intros<;>first|exact⟨⟩| (intros;omega)|exact(oZ _).1|exact(oZ _).2) ?_;rw[Tt];have t1:=(wV key (⟨(nM key s.id r d v).server,(nM key s.id r d v).round,(nM key s.id r d v).selection,LQ (nM key s.id r d v).data,(nM key s.id r d v).LK⟩:cM) (by show(nM key s.id r d v).selection.length≤_;rw[hg];exact hv) (by show(LQ (nM key s.id r d v).data).length≤_;rw[Is,hdl];decide));exact aL X [] [(800038,⟨true,ji t1⟩),(700038,⟨true, .agg [.ptr 5 23, .ptr 6 24]:: .agg []::jj t1⟩)] [10,12,13] [] rfl (by(with_reducible and_intros)<;>first|exact⟨⟩|exact t1) (aD X [10,11] rfl (by trivial) (ak (ah rfl (by and_intros<;>first|exact⟨⟩| (rw[ha];simp only[hg];rfl;done)| (rw[hk];done)))))
 ·have hq:(ko d v&&(s.behavior==3))=false:=kX hb0 (by simp only[aO]<;>first|rfl|ac_rfl);have ha:=Tv (key:=key) (r:=r) hq;exact an (aD X [10,11] rfl (by trivial) (ak (ah rfl (by and_intros<;>first|exact⟨⟩|rfl| (rw[ha];done)))))
theorem zw(key sv r:Int)(d:DB)(v:List Int)(hv:v.length≤262144):So 252 [aA key,aA sv,aA r, .agg (aY d), .a (.sl .int v)] [.agg (eS (nM key sv r d v)),aH (ko d v)]:=by
 refine av X call252 func252 ntmps252 rfl rfl ?_;intro zb;have hal:=ug d v;refine aq X [0,1,2,4,8,10] rfl (aC X [] [(16,⟨true,[.a (.sl .u8 (fU d v))]⟩)] [0,1,2,4,10,12] [] rfl (by(with_reducible and_intros)<;>first|exact⟨⟩|exact(nG d v)) (aa (aq X [0,1,2,4,10,12,19] rfl ?_)));refine aj rfl ?_ ?_<;>intro hb0
 ·try simp only[aQ]at hb0
  have hk:=Oy (d:=d) (v:=v) (by omega);have hg:=Tu (key:=key) (sv:=sv) (r:=r) hk;exact aD X [10,11] rfl (by trivial) (ak (ah rfl (by and_intros<;>first|exact⟨⟩| (rw[hg];rfl;done)| (rw[hk];done))))
 ·try simp only[aQ]at hb0
  have hk:=ET (d:=d) (v:=v) (by omega);have hg:=Dd (key:=key) (sv:=sv) (r:=r) hk;have h24:=De hk;exact an (aC X [(25,23)] [] [0,10,13] [] rfl (by and_intros<;>first|exact⟨⟩|exact rfl| (simp only[dN,maxLen,lens];omega)) (aC X [] [(30,⟨false,[aA (EM key (⟨sv,r,v,fU d v,0⟩:cM).server (⟨sv,r,v,fU d v,0⟩:cM).round (⟨sv,r,v,fU d v,0⟩:cM).selection (⟨sv,r,v,fU d v,0⟩:cM).data)]⟩)] [10,13] [] rfl (by(with_reducible and_intros)<;>first|exact⟨⟩|exact(kZ key (⟨sv,r,v,fU d v,0⟩:cM) (by show v.length≤_;omega) (by show(fU d v).length≤_;omega))) (aD X [10,11] rfl (by trivial) (ak (ah rfl (by and_intros<;>first|exact⟨⟩| (rw[hg];rfl;done)| (rw[hk];done)))))))
theorem rL(s:bp)(key r:Int)(d:DB)(v:List Int)(hv:v.length≤262144):So 176 [.agg (bS s),aA key,aA r, .agg (aY d), .a (.sl .int v)] [.agg (eS (MP s key r d v)),aH (ko d v)]:=by
 refine av X call176 func176 ntmps176 rfl rfl ?_;intro zb;refine aq X [1,2,4,5,8,10] rfl (aC X [] [(21,⟨true,[.agg (eS (nM key s.id r d v)),aH (ko d v)]⟩)] [1,5,10,12,13] [] rfl (by(with_reducible and_intros)<;>first|exact⟨⟩|exact(zw key s.id r d v (by first|assumption|omega| (simp;done)| (simp;omega)))) (aa (aq X [1,10,12,13,29] rfl ?_)));refine aj rfl ?_ ?_<;>intro hb0
 ·have hq:(ko d v&&(s.behavior==3))=true:=iA hb0 (by simp only[aO]<;>first|rfl|ac_rfl);obtain⟨hk,ha⟩:=Oz (key:=key) (r:=r) hq;have hg:=Dd (key:=key) (sv:=s.id) (r:=r) hk;have hdl:(nM key s.id r d v).data.length=24:=by rw[hg];exact De hk
  refine aa (aF X [] [] [1,10,12,13] [] 255 0 MO (by kernel_rfl) rfl (by kernel_rfl) (by and_intros<;>first|exact⟨⟩| (intros;omega)|exact(oZ _).1|exact(oZ _).2) ?_);rw[Tt];exact aL X [] [(40,⟨false,[aA (EM key (⟨(nM key s.id r d v).server,(nM key s.id r d v).round,(nM key s.id r d v).selection,LQ (nM key s.id r d v).data,(nM key s.id r d v).LK⟩:cM).server (⟨(nM key s.id r d v).server,(nM key s.id r d v).round,(nM key s.id r d v).selection,LQ (nM key s.id r d v).data,(nM key s.id r d v).LK⟩:cM).round (⟨(nM key s.id r d v).server,(nM key s.id r d v).round,(nM key s.id r d v).selection,LQ (nM key s.id r d v).data,(nM key s.id r d v).LK⟩:cM).selection (⟨(nM key s.id r d v).server,(nM key s.id r d v).round,(nM key s.id r d v).selection,LQ (nM key s.id r d v).data,(nM key s.id r d v).LK⟩:cM).data)]⟩)] [10,12,13] [] rfl (by(with_reducible and_intros)<;>first|exact⟨⟩|exact(kZ key (⟨(nM key s.id r d v).server,(nM key s.id r d v).round,(nM key s.id r d v).selection,LQ (nM key s.id r d v).data,(nM key s.id r d v).LK⟩:cM) (by show(nM key s.id r d v).selection.length≤_;rw[hg];exact hv) (by show(LQ (nM key s.id r d v).data).length≤_;rw[Is,hdl];decide))) (aD X [10,11] rfl (by trivial) (ak (ah rfl (by and_intros<;>first|exact⟨⟩| (rw[ha];simp only[hg];rfl;done)| (rw[hk];done)))))
 ·have hq:(ko d v&&(s.behavior==3))=false:=kX hb0 (by simp only[aO]<;>first|rfl|ac_rfl);have ha:=Tv (key:=key) (r:=r) hq;exact an (aD X [10,11] rfl (by trivial) (ak (ah rfl (by and_intros<;>first|exact⟨⟩|rfl| (rw[ha];done)))))
theorem pS(b:List UInt8):So 292 [.a (.sl .u8 b)] [aH (!decide ((b.length:Int)=24))]:=by
 refine av X call292 func292 ntmps292 rfl rfl ?_;intro zb;exact aq X [0] rfl (aq X [2] rfl (ak (ah rfl ⟨(congrArg Value.bool (by simp only[aO]<;>first|rfl|ac_rfl)),⟨⟩⟩)))
theorem FL(l:List (List UInt8))(hr: ∀a,a∈l→a.length≤1048576):So 293 [.a (.sl (.sl .u8) l)] [.a (.sl .u8 (vX l))]:=by
 refine av X call293 func293 ntmps293 rfl rfl ?_;intro zb;refine ct 0 rfl (fun ir=>(aq X [0] rfl (aD X [0,3] rfl (by and_intros<;>first|exact⟨⟩|exact rfl) (aa (aq X [3,7,8,9] rfl ?_)))));refine au (aE (fun k=>k≤l.length) (fun k:Nat=> [(9, .one ((aA k)))]) (fun k=> [(6, .arr .u8 (vX (l.take k)))]) (fun k=>l.length-k) 0 (fun k=>rfl) (Nat.zero_le _) rfl ?_);intro k hk;have hle:=EN hr k;refine aq X [3,7,8,9,10] rfl ?_;refine aa (aj rfl ?_ ?_)<;>intro hb0
 ·try simp only[aQ]at hb0
  have hel:=hr _ (getD_in (aG (.sl .u8)) hb0);have hs:=Bm l k hb0;refine an (aa (au (aD X [3,5,7,8,9] rfl (by and_intros<;>first|exact⟨⟩| (intros;omega)) (aL X [] [(15,⟨true,[.a (.sl .u8 (ef (vX (l.take k)) (l.getD k (aG (.sl .u8)))))]⟩)] [3,7,8,9] [] rfl (by(with_reducible and_intros)<;>first|exact⟨⟩|exact(iY (vX (l.take k)) (l.getD k (aG (.sl .u8))) (by first|assumption|omega| (simp;done)| (simp;omega)) (by first|assumption|omega| (simp;done)| (simp;omega)))) (mG 3 6 rfl (bg X [3,7,8,9] rfl ?_))))));refine⟨k+1,by omega,by omega,?_⟩;rw[bh _ k rfl (by omega),hs];try rfl
 ·try simp only[aQ]at hb0
  exact aI (aq X [2] rfl (ak (ah rfl ⟨by rw[List.take_of_length_le hb0],⟨⟩⟩)))
theorem FM(l:List (List UInt8))(hr: ∀a,a∈l→a.length≤1048576):So 313 [.a (.sl (.sl .u8) l)] [.a (.sl .u8 (vX l))]:=by
 refine av X call313 func313 ntmps313 rfl rfl ?_;intro zb;refine ct 0 rfl (fun ir=>(aq X [0] rfl (aD X [0,3] rfl (by and_intros<;>first|exact⟨⟩|exact rfl) (aa (aq X [0,3,4] rfl ?_)))));refine au (aE (fun k=>k≤l.length) (fun k:Nat=> [(4, .one ((aA k)))]) (fun k=> [(5, .arr .u8 (vX (l.take k)))]) (fun k=>l.length-k) 0 (fun k=>rfl) (Nat.zero_le _) rfl ?_);intro k hk;have hle:=EN hr k;refine aa (aq X [0,3,4,9] rfl ?_);refine aj rfl ?_ ?_<;>intro hb0
 ·try simp only[aQ]at hb0
  have hel:=hr _ (getD_in (aG (.sl .u8)) hb0);have hs:=Bm l k hb0;refine an (aa (au (aL X [] [(17,⟨true,[.a (.sl .u8 (ef (vX (l.take k)) (l.getD k (aG (.sl .u8)))))]⟩)] [0,3,4] [] rfl (by(with_reducible and_intros)<;>first|exact⟨⟩|exact(iZ (vX (l.take k)) (l.getD k (aG (.sl .u8))) (by first|assumption|omega| (simp;done)| (simp;omega)) (by first|assumption|omega| (simp;done)| (simp;omega)))| (intros;omega)) (mG 3 5 rfl (bg X [0,3,4] rfl ?_)))));refine⟨k+1,by omega,by omega,?_⟩;rw[bh _ k rfl (by omega),hs];try rfl
 ·try simp only[aQ]at hb0
  exact aI (aq X [2] rfl (ak (ah rfl ⟨by rw[List.take_of_length_le hb0],⟨⟩⟩)))
theorem rZ(l:List (List UInt8)):So 229 [.a (.sl (.sl .u8) l)] [.a (.sl .u8 (Vp l)),aH (gL l)]:=by
 refine av X call229 func229 ntmps229 rfl rfl ?_;intro zb;refine ct 0 rfl (fun ir=>(aq X [0] rfl (aa (aC X [] [(6,⟨false,[aH (bT (l.length:Int))]⟩),(10,⟨false,[aH (l.any fun b=> !decide ((b.length:Int)=24))]⟩)] [0,11] [] rfl (by(with_reducible and_intros);(iterate 2 all_goals try first|exact⟨⟩|exact(cN (l.length:Int))|exact fun _=>(dU _ _ _ pS))) ?_))));refine aj rfl ?_ ?_<;>intro hb0
 ·have hk:gL l=false:=by rw[gL,tN];exact bH hb0 (by simp only[aO]<;>first|rfl|ac_rfl)
  exact aq X [2,3] rfl (ak (ah rfl ⟨by rw[zu hk],by rw[hk],⟨⟩⟩))
 ·have hk:gL l=true:=by rw[gL,tN];exact bF hb0 (by simp only[aO]<;>first|rfl|ac_rfl)
  have hel:=EU hk;exact an (aC X [] [(13,⟨true,[.a (.sl .u8 (vX l))]⟩)] [2,3] [] rfl (by(with_reducible and_intros)<;>first|exact⟨⟩|exact(FL l hel)) (ak (ah rfl ⟨by rw[It hk],by rw[hk],⟨⟩⟩)))
theorem sj(l:List (List UInt8)):So 254 [.a (.sl (.sl .u8) l)] [.a (.sl .u8 (Vp l)),aH (gL l)]:=by
 refine av X call254 func254 ntmps254 rfl rfl ?_;intro zb;refine ct 0 rfl (fun ir=>(aq X [0] rfl (aa (aq X [0,4] rfl ?_))));refine au (aE (fun k=>k≤l.length∧(l.take k).all (fun a=>decide ((a.length:Int)=24))=true) (fun k:Nat=> [(4, .one ((aA k)))]) (fun k=> []) (fun k=>l.length-k) 0 (fun k=>rfl) ⟨Nat.zero_le _,rfl⟩ rfl ?_);rintro k ⟨hk0,hall⟩;refine aa (aq X [0,4,8] rfl ?_);refine aj rfl ?_ ?_<;>intro hb0
 ·try simp only[aQ]at hb0
  refine an (aa (au (aD X [0,4,16] rfl (by and_intros<;>first|exact⟨⟩| (intros;omega)) ?_)));refine aj rfl ?_ ?_<;>intro aV
  ·try simp only[aQ]at aV
   have hk:=WW hb0 (fun h=>aV (by rw[h];rfl));exact aD X [2,3] rfl (by and_intros<;>first|exact⟨⟩|exact rfl) (ak (ah rfl ⟨by rw[zu hk],by rw[hk],⟨⟩⟩))
  ·try simp only[aQ]at aV
   refine an (bg X [0,4] rfl ?_);refine⟨k+1,⟨by omega,by rw[tF _ _ _ (aG (.sl .u8)) hb0,hall,Bool.true_and];exact decide_eq_true aV⟩,by omega,?_⟩;rw[bh _ k rfl (by omega)];try rfl
 ·try simp only[aQ]at hb0
  rw[List.take_of_length_le hb0]at hall;refine aI (aa (aC X [] [(20,⟨false,[aH (bT (l.length:Int))]⟩)] [0,21] [] rfl (by(with_reducible and_intros)<;>first|exact⟨⟩|exact(ez (l.length:Int))) ?_));refine aj rfl ?_ ?_<;>intro bI
  ·have hk:gL l=false:=by rw[gL,hall];simpa using bI
   exact aD X [2,3] rfl (by and_intros<;>first|exact⟨⟩|exact rfl) (ak (ah rfl ⟨by rw[zu hk],by rw[hk],⟨⟩⟩))
  ·have hk:gL l=true:=by rw[gL,hall];simpa using bI
   have hel:=EU hk;exact an (aC X [] [(24,⟨true,[.a (.sl .u8 (vX l))]⟩)] [2,3] [] rfl (by(with_reducible and_intros)<;>first|exact⟨⟩|exact(FM l hel)) (ak (ah rfl ⟨by rw[It hk],by rw[hk],⟨⟩⟩)))
theorem uk(l:List cM)(hl:l.length≤1048576):So 146 [.a (.sl .cM l)] [.a (.sl .u8 (Vp (l.map cM.data))),aH (gL (l.map cM.data))]:=by
 refine av X call146 func146 ntmps146 rfl rfl ?_;intro zb;refine aq X [0] rfl (aD X [0,4] rfl (by and_intros<;>first|exact⟨⟩|exact rfl) (KQ 4 60 rfl (aa (aq X [4,8,9,10] rfl ?_))));refine au (aE (fun k=>k≤l.length) (fun k:Nat=> [(10, .one ((aA k)))]) (fun k=> [(60, .iq (.sl .u8) ((l.take k).map cM.data) .mL)]) (fun k=>l.length-k) 0 (fun k=>rfl) (Nat.zero_le _) rfl ?_);intro k hk;have hle:=bC l k;refine aq X [4,8,9,10,11] rfl ?_;refine aa (aj rfl ?_ ?_)<;>intro hb0
 ·try simp only[aQ]at hb0
  have hs:=lH cM.data l k (aG .cM) hb0;have hml:((l.take k).map cM.data).length=(l.take k).length:=List.length_map ..;refine an (aa (au (aD X [4,6,8,9,10] rfl (by and_intros<;>first|exact⟨⟩| (intros;omega)) (aL X [(18,60)] [] [4,8,9,10] [] rfl (by and_intros<;>first|exact⟨⟩|exact rfl| (simp only[dN,maxLen,lens];omega)) (bg X [4,8,9,10] rfl ?_)))));refine⟨k+1,by omega,by omega,?_⟩;rw[bh _ k rfl (by omega),hs];try rfl
 ·try simp only[aQ]at hb0
  rw[List.take_of_length_le hb0];refine aI (aa ?_);have t1:=(rZ (l.map cM.data));exact aL X [] [(21,⟨true,bq t1⟩)] [2,3] [] rfl (by(with_reducible and_intros)<;>first|exact⟨⟩|exact t1) (ak (ah rfl ⟨rfl,rfl,⟨⟩⟩))
theorem um(l:List cM)(hl:l.length≤1048576):So 178 [.a (.sl .cM l)] [.a (.sl .u8 (Vp (l.map cM.data))),aH (gL (l.map cM.data))]:=by
 refine av X call178 func178 ntmps178 rfl rfl ?_;intro zb;refine aq X [0] rfl (aD X [0,4] rfl (by and_intros<;>first|exact⟨⟩|exact rfl) (KQ 4 60 rfl (aa (aq X [0,4,5] rfl ?_))));refine au (aE (fun k=>k≤l.length) (fun k:Nat=> [(5, .one ((aA k)))]) (fun k=> [(60, .iq (.sl .u8) ((l.take k).map cM.data) .mL)]) (fun k=>l.length-k) 0 (fun k=>rfl) (Nat.zero_le _) rfl ?_);intro k hk;have hle:=bC l k;refine aa (aq X [0,4,5,10] rfl ?_);refine aj rfl ?_ ?_<;>intro hb0
 ·try simp only[aQ]at hb0
  have hs:=lH cM.data l k (aG .cM) hb0;have hml:((l.take k).map cM.data).length=(l.take k).length:=List.length_map ..;refine an (aa (au (aL X [(20,60)] [] [0,4,5] [] rfl (by and_intros<;>first|exact⟨⟩| (intros;omega)|exact rfl| (simp only[dN,maxLen,lens];omega)) (bg X [0,4,5] rfl ?_))));refine⟨k+1,by omega,by omega,?_⟩;rw[bh _ k rfl (by omega),hs];try rfl
 ·try simp only[aQ]at hb0
  rw[List.take_of_length_le hb0];refine aI (aa ?_);have t1:=(sj (l.map cM.data));exact aL X [] [(22,⟨true,bq t1⟩)] [2,3] [] rfl (by(with_reducible and_intros)<;>first|exact⟨⟩|exact t1) (ak (ah rfl ⟨rfl,rfl,⟨⟩⟩))
theorem jz(x:aW)(r row s:Int)(hk:okW x=true):So 74 [.agg (aN x),aA r,aA row,aA s] [.a (.sl .u8 (zo x r row s)),aH (uj x r row s)]:=by
 refine av X call74 func74 ntmps74 rfl rfl ?_;intro zb;have har:=Iv hk;have hql:=OA r row s hk;have hs4:=dV hk;have hrl:=ni x.az.length r row s;refine aq X [1,2,3,4] rfl (aa ?_);have t1:=(fL x.aB r ⟨by omega,har.2⟩);refine aL X [] [(21,⟨true,bq t1⟩)] [1,2,3,4,10,11] [] rfl (by(with_reducible and_intros)<;>first|exact⟨⟩|exact t1) (aa (aC X [] [(25,⟨false,[aH (okW x)]⟩)] [1,2,3,4,10,30] [] rfl (by(with_reducible and_intros)<;>first|exact⟨⟩|exact(bQ x)) ?_));refine aj rfl ?_ ?_<;>intro hb0
 ·have hh:jJ x.aB.rounds r=false:=by rw[hk]at hb0;simpa using hb0
  exact aq X [8,9] rfl (ak (ah rfl ⟨by rw[(EV hh).1],by rw[(EV hh).2],⟨⟩⟩))
 ·have hh:jJ x.aB.rounds r=true:=by rw[hk]at hb0;simpa using hb0
  have Qy:=Iu (row:=row) (s:=s) hh;refine an (aD X [1,2,3,4,10,12] rfl (by and_intros<;>first|exact⟨⟩|exact rfl) (aa (aa ?_)));have t1:=(A8 x.rows row (gA x.az.length r row s) (by omega));refine aF X [] [(39,⟨true,[.a (.sl .int (gA x.az.length r row s))]⟩),(40,⟨true,bq t1⟩)] [1,4,10,12,40,41,42] [] 2047 0 MO (by kernel_rfl) rfl (by kernel_rfl) (by(with_reducible and_intros);(iterate 2 all_goals try first|exact⟨⟩|exact(Ba x r row s (by omega))|exact t1)) ?_;refine au (aE (fun k=>k≤(query' x r row s).length) (fun k:Nat=> [(42, .one ((aA k)))]) (fun k=> [(31, .arr .cM (uh x r (gO x.aB.rounds r) (query' x r row s) k))]) (fun k=>(query' x r row s).length-k) 0 (fun k=>rfl) (Nat.zero_le _) rfl ?_);intro k hk;have hal:=GL x r (gO x.aB.rounds r) (query' x r row s) k;have hqy:(pF x.rows row (gA x.az.length r row s)).length=(query' x r row s).length:=rfl;refine aq X [1,4,10,12,40,41,42,43] rfl ?_;refine aa (aj rfl ?_ ?_)<;>intro aV
  ·try simp only[aQ]at aV
   have hqe:=Ty x r row s k;have hs:=EO x r (gO x.aB.rounds r) (query' x r row s) k;refine an (aa (au (aD X [1,4,10,12,13,14,40,41,42] rfl (by and_intros<;>first|exact⟨⟩| (intros;omega)) (aa ?_))));have t1:=(rK (x.az.getD k (aG .bp)) (iT x.bn (k:Int)) r (gO x.aB.rounds r) ((query' x r row s).getD k (aG (.sl .int))) (by omega));refine aF X [] [(56,⟨false,[aA (iT x.bn (k:Int))]⟩),(60,⟨true,bq t1⟩)] [1,4,10,12,15,16,40,41,42] [] 393215 1 MO (by kernel_rfl) rfl (by kernel_rfl) (by(with_reducible and_intros);(iterate 2 all_goals try first|exact⟨⟩|exact(iB x.bn (k:Int))|exact t1);all_goals first| (intros;omega)) (aa (aq X [1,4,10,12,15,40,41,42,64] rfl ?_));refine aj rfl ?_ ?_<;>intro bI
   ·have hno:=Tp aV (by simpa using bI);exact aq X [8,9] rfl (ak (ah rfl ⟨by rw[Qy.1,zu hno],by rw[Qy.2,hno],⟨⟩⟩))
   ·refine an (aL X [(68,31)] [] [1,4,10,12,40,41,42] [] rfl (by and_intros<;>first|exact⟨⟩|exact rfl| (simp only[dN,maxLen,lens];omega)) (bg X [1,4,10,12,40,41,42] rfl ?_));refine⟨k+1,by omega,by omega,?_⟩;rw[bh _ k rfl (by omega),hs];try rfl
  ·try simp only[aQ]at aV
   refine aI (aa ?_);have t1:=(uk (uh x r (gO x.aB.rounds r) (query' x r row s) k) (by omega));exact aL X [] [(71,⟨true,bq t1⟩)] [8,9] [] rfl (by(with_reducible and_intros)<;>first|exact⟨⟩|exact t1) (ak (ah rfl ⟨by rw[Qy.1,show k=(query' x r row s).length by omega];rfl,by rw[Qy.2,show k=(query' x r row s).length by omega];rfl,⟨⟩⟩))
theorem nH(x:aW)(r row s:Int)(hk:okW x=true):So 104 [.agg (aN x),aA r,aA row,aA s] [.a (.sl .u8 (zo x r row s)),aH (uj x r row s)]:=by
 refine av X call104 func104 ntmps104 rfl rfl ?_;intro zb;have har:=Iv hk;have hql:=OA r row s hk;have hs4:=dV hk;have hrl:=ni x.az.length r row s;have hw:IntKind.i64.wrap ((x.az.length:Int)-1)=(x.az.length:Int)-1:=bO (by omega);refine aq X [1,2,3,4] rfl (aa ?_);have t1:=(jL x.aB r ⟨by omega,har.2⟩);refine aL X [] [(23,⟨true,bq t1⟩)] [1,2,3,4,10,11] [] rfl (by(with_reducible and_intros)<;>first|exact⟨⟩|exact t1) (aa (aq X [1,2,3,4,10,27] rfl ?_));refine aj rfl ?_ ?_<;>intro hb0
 ·have hh:jJ x.aB.rounds r=false:=by simpa using hb0
  exact aD X [8,9] rfl (by and_intros<;>first|exact⟨⟩|exact rfl) (ak (ah rfl ⟨by rw[(EV hh).1],by rw[(EV hh).2],⟨⟩⟩))
 ·have hh:jJ x.aB.rounds r=true:=by simpa using hb0
  have Qy:=Iu (row:=row) (s:=s) hh;refine an (aD X [1,2,3,4,10,12] rfl (by and_intros<;>first|exact⟨⟩|exact rfl) (aa (aq X [1,2,3,4,10,12,13] rfl ?_)));refine au (aE (fun k=>k≤(x.az.length-1)) (fun k:Nat=> [(13, .one ((aA k)))]) (fun k=> [(29, .arr .int ((gA x.az.length r row s).take k))]) (fun k=>(x.az.length-1)-k) 0 (fun k=>rfl) (Nat.zero_le _) rfl ?_);intro k hk;have hle:=bC (gA x.az.length r row s) k;refine aa (aq X [1,2,3,4,10,12,13,35] rfl ?_);refine aj rfl ?_ ?_<;>intro aV
  ·try simp only[aQ]at aV
   rw[hw]at aV;have hs:=Cb x.az.length r row s k (by omega);refine an (aa (au (aL X [(46,29)] [(44,⟨false,[aA (kh s [229,r,row,(k:Int)])]⟩)] [1,2,3,4,10,12,13] [] rfl (by(repeat' with_reducible first|exact aR|refine bf ?_ ?_|apply And.intro)<;>first|exact(bE s [229,r,row,(k:Int)] (by first|assumption|omega| (simp;done)| (simp;omega)))|exact rfl|exact⟨rfl,bA _ (by decide)⟩| (simp only[dN,maxLen,lens];omega)) ?_)));refine bg X [1,2,3,4,10,12,13] rfl ?_;refine⟨k+1,by omega,by omega,?_⟩;rw[bh _ k rfl (by omega),hs];try rfl
  ·try simp only[aQ]at aV
   rw[hw]at aV;refine aI (aa ?_);rw[List.take_of_length_le (show(gA x.az.length r row s).length≤k by omega)];have t1:=(A9 x.rows row (gA x.az.length r row s) (by omega));refine aL X [] [(51,⟨true,bq t1⟩)] [1,4,10,14] [] rfl (by(with_reducible and_intros)<;>first|exact⟨⟩|exact t1) (aD X [1,4,10,14,15] rfl (by and_intros<;>first|exact⟨⟩|exact rfl) (aa (aq X [1,4,10,14,15,16] rfl ?_)));refine au (aE (fun k1=>k1≤(query' x r row s).length) (fun k1:Nat=> [(16, .one ((aA k1)))]) (fun k1=> [(52, .arr .cM (uh x r (gO x.aB.rounds r) (query' x r row s) k1))]) (fun k1=>(query' x r row s).length-k1) 0 (fun k1=>rfl) (Nat.zero_le _) rfl ?_);intro k1 hk1;have hal:=GL x r (gO x.aB.rounds r) (query' x r row s) k1;have hqy:(pF x.rows row (gA x.az.length r row s)).length=(query' x r row s).length:=rfl;refine aa (aq X [1,4,10,14,15,16,56] rfl ?_);refine aj rfl ?_ ?_<;>intro bI
   ·try simp only[aQ]at bI
    have hqe:=Ty x r row s k1;have hs1:=EO x r (gO x.aB.rounds r) (query' x r row s) k1;refine an (aa (au (aa ?_)));have t1:=(rL (x.az.getD k1 (aG .bp)) (iT x.bn (k1:Int)) r (gO x.aB.rounds r) ((query' x r row s).getD k1 (aG (.sl .int))) (by omega));refine aF X [] [(68,⟨false,[aA (iT x.bn (k1:Int))]⟩),(75,⟨true,bq t1⟩)] [1,4,10,14,15,16,17] [] 3145727 1 MO (by kernel_rfl) rfl (by kernel_rfl) (by(with_reducible and_intros);(iterate 2 all_goals try first|exact⟨⟩|exact(iC x.bn (k1:Int))|exact t1);all_goals first| (intros;omega)) (aL X [(81,52)] [] [1,4,10,14,15,16] [] rfl (by and_intros<;>first|exact⟨⟩|exact rfl| (simp only[dN,maxLen,lens];omega)) (bg X [1,4,10,14,15,16] rfl ?_));refine⟨k1+1,by omega,by omega,?_⟩;rw[bh _ k1 rfl (by omega),hs1];try rfl
   ·try simp only[aQ]at bI
    refine aI (aa ?_);have t1:=(um (uh x r (gO x.aB.rounds r) (query' x r row s) k1) (by omega));exact aL X [] [(83,⟨true,bq t1⟩)] [8,9] [] rfl (by(with_reducible and_intros)<;>first|exact⟨⟩|exact t1) (ak (ah rfl ⟨by rw[Qy.1,show k1=(query' x r row s).length by omega];rfl,by rw[Qy.2,show k1=(query' x r row s).length by omega];rfl,⟨⟩⟩))
end
section
set_option maxRecDepth 100000
theorem dR(c:dF)(h0:cE List.length c.aM≤1048576∧cE List.length c.inbox≤1048576):So 219 [.agg (bG c)] [.agg (bG c)]:=by
 refine av X call219 func219 ntmps219 rfl rfl ?_;intro zb;exact aq X [1,2] rfl (aC X [] [(5,⟨true,[.a (.sl (.sl .u8) c.aM)]⟩)] [1,2] [] rfl (by(with_reducible and_intros)<;>first|exact⟨⟩|exact(kR c.aM h0.1)) (aC X [] [(9,⟨true,[.a (.sl (.sl .u8) c.inbox)]⟩)] [1,2] [] rfl (by(with_reducible and_intros)<;>first|exact⟨⟩|exact(kR c.inbox h0.2)) (aD X [2] rfl (by trivial) (ak (ah rfl ⟨rfl,rfl,rfl,rfl,rfl,rfl,rfl,rfl,⟨⟩⟩)))))
theorem fB(d:aZ)(h0:bt d≤1048576):So 186 [.agg (bN d)] [.agg (bN d)]:=by
 refine av X call186 func186 ntmps186 rfl rfl ?_;intro zb;have hc1:bY d.live≤1048576∧bY d.saved≤1048576:=by unfold bt at h0;omega
 unfold bY at hc1;exact aq X [1,2] rfl (aa (aF X [] [(5,⟨true,[.agg (bG d.live)]⟩),(8,⟨true,[.agg (bG d.saved)]⟩)] [2] [] 127 0 MO (by kernel_rfl) rfl (by kernel_rfl) (by(with_reducible and_intros);(iterate 2 all_goals try first|exact⟨⟩|exact(dR d.live ⟨by omega,by omega⟩)|exact(dR d.saved ⟨by omega,by omega⟩))) (ak (ah rfl ⟨rfl,rfl,rfl,rfl,rfl,rfl,rfl,rfl,rfl,rfl,rfl,rfl,rfl,rfl,rfl,rfl,⟨⟩⟩))))
theorem nJ(a:gZ)(h0:dA a≤1048576):So 188 [.agg (cV a)] [.agg (cV a)]:=by
 refine av X call188 func188 ntmps188 rfl rfl ?_;intro zb;have hls:cE dM a.rounds≤1048576:=h0;have ir:=cA hls;refine aq X [1,2] rfl (aq X [1,2,3] rfl (cm 3 1 60 .aJ rfl (aa (aq X [2,3,10,11,12] rfl ?_))));refine au (aE (fun k=>k≤a.rounds.length) (fun k:Nat=> [(12, .one ((aA k)))]) (fun k=> [(60, .arr .aJ (a.rounds.take k))]) (fun k=>a.rounds.length-k) 0 (fun k=>rfl) (Nat.zero_le _) rfl ?_);intro k hk;have hle:=bC a.rounds k;refine aq X [2,3,10,11,12,13] rfl ?_;refine aa (aj rfl ?_ ?_)<;>intro hb0
 ·try simp only[aQ]at hb0
  have hs:=bu a.rounds k (aG .aJ) hb0;refine an (aa (au (aD X [2,3,5,10,11,12] rfl (by and_intros<;>first|exact⟨⟩| (intros;omega)) (aF X [(25,60)] [(22,⟨true,[.agg (aY ((a.rounds.getD k (aG .aJ)).db))]⟩),(500024,⟨true,[]⟩)] [2,3,10,11,12] [] 511 0 MO (by kernel_rfl) rfl (by kernel_rfl) (by(repeat' with_reducible first|exact aR|refine bf ?_ ?_|apply And.intro)<;>first|exact(cG ((a.rounds.getD k (aG .aJ)).db) (ig hls (getD_some a.rounds _ k hb0)))|exact rfl|exact⟨rfl,bA _ (by decide)⟩| (simp only[dN,maxLen,lens];omega)) ?_))));refine bg X [2,3,10,11,12] rfl ?_;refine⟨k+1,by omega,by omega,?_⟩;rw[bh _ k rfl (by omega),hs];try rfl
 ·try simp only[aQ]at hb0
  exact aI (aD X [2] rfl (by trivial) (ak (ah rfl ⟨rfl,by rw[List.take_of_length_le hb0],⟨⟩⟩)))
theorem dj(x:aW)(h0:wB x):So 112 [.agg (aN x)] [.agg (aN x)]:=by
 refine av X call112 func112 ntmps112 rfl rfl ?_;intro zb;have hls:cE dL x.az≤1048576∧cE bt x.af≤1048576∧dA x.aB≤1048576∧x.replaced.length≤4194304:=h0;have hl1:=cA hls.1;have lg:=cA hls.2.1;refine aq X [1,2] rfl (aD X [1,2,3] rfl (by and_intros<;>first|exact⟨⟩|exact rfl) (aa (aq X [1,2,3,8,9,10] rfl ?_)));refine au (aE (fun k=>k≤x.af.length) (fun k:Nat=> [(10, .one ((aA k)))]) (fun k=> [(6, .arr .aZ (x.af.take k))]) (fun k=>x.af.length-k) 0 (fun k=>rfl) (Nat.zero_le _) rfl ?_);intro k hk;have hle:=bC x.af k;refine aq X [1,2,3,8,9,10,11] rfl ?_;refine aa (aj rfl ?_ ?_)<;>intro hb0
 ·try simp only[aQ]at hb0
  have hs:=bu x.af k (aG .aZ) hb0;refine an (aa (au (aD X [1,2,3,5,8,9,10] rfl (by and_intros<;>first|exact⟨⟩| (intros;omega)) (aL X [(18,6)] [(16,⟨true,[.agg (bN (x.af.getD k (aG .aZ)))]⟩)] [1,2,3,8,9,10] [] rfl (by(with_reducible and_intros)<;>first|exact⟨⟩|exact(fB (x.af.getD k (aG .aZ)) (ig hls.2.1 (getD_some x.af _ k hb0)))|exact rfl| (simp only[dN,maxLen,lens];omega)) (bg X [1,2,3,8,9,10] rfl ?_)))));refine⟨k+1,by omega,by omega,?_⟩;rw[bh _ k rfl (by omega),hs];try rfl
 ·try simp only[aQ]at hb0
  exact aI (aC X [] [(22,⟨true,[.a (.sl .bp x.az)]⟩)] [1,2,3] [] rfl (by(with_reducible and_intros)<;>first|exact⟨⟩|exact(nx x.az hl1 (fun s hs=>by obtain⟨i,hi⟩:=List.mem_iff_getElem?.1 hs;exact GD hls.1 hi))) (aq X [1,2] rfl (aC X [] [(28,⟨true,[.agg (cV x.aB)]⟩)] [1,2] [] rfl (by(with_reducible and_intros)<;>first|exact⟨⟩|exact(nJ x.aB hls.2.2.1)) (aC X [] [(32,⟨true,[.a (.sl .int x.replaced)]⟩)] [1,2] [] rfl (by(with_reducible and_intros)<;>first|exact⟨⟩|exact(gb x.replaced hls.2.2.2)) (aD X [2] rfl (by trivial) (ak (ah rfl (by and_intros<;>first|exact⟨⟩|rfl| (rw[List.take_of_length_le hb0];done)))))))))
theorem k9(c:dF)(h0:cE List.length c.aM≤1048576∧cE List.length c.inbox≤1048576):So 134 [.agg (bG c)] [.agg (bN (⟨c,c⟩:aZ))]:=by
 refine av X call134 func134 ntmps134 rfl rfl ?_;intro zb;exact aq X [1,2] rfl (aa (aF X [(6,40)] [(4,⟨true,[.agg (bG c)]⟩),(6,⟨true,[.agg (bG c)]⟩)] [2] [] 31 0 MO (by kernel_rfl) rfl (by kernel_rfl) (by(with_reducible and_intros);(iterate 2 all_goals try first|exact⟨⟩|exact(dR c h0))) (ak (ah rfl ⟨rfl,rfl,rfl,rfl,rfl,rfl,rfl,rfl,rfl,rfl,rfl,rfl,rfl,rfl,rfl,rfl,⟨⟩⟩))))
theorem ot(d:aZ)(h0:bt d≤1048576):So 128 [.agg (bN d)] [.agg (bN (IC d))]:=by
 refine av X call128 func128 ntmps128 rfl rfl ?_;intro zb;have hc1:bY d.live≤1048576∧bY d.saved≤1048576:=by unfold bt at h0;omega
 unfold bY at hc1;refine aq X [1,2] rfl (aa (aC X [] [(4,⟨false,[aH (cP d)]⟩)] [1,2,5] [] rfl (by(with_reducible and_intros)<;>first|exact⟨⟩|exact(dJ d)) ?_));refine aj rfl ?_ ?_<;>intro hb0
 ·have hk:cP d=false:=by simpa using hb0
  have hd:IC d=d:=by rw[IC,hk];rfl
  exact aC X [] [(7,⟨true,[.agg (bN d)]⟩)] [2] [] rfl (by(with_reducible and_intros)<;>first|exact⟨⟩|exact(fB d h0)) (ak (ah rfl (by and_intros<;>first|exact⟨⟩| (rw[hd];done))))
 ·have hk:cP d=true:=by simpa using hb0
  have hd:IC d=⟨d.live,d.live⟩:=by rw[IC,if_pos hk]
  exact an (aC X [] [(10,⟨true,[.agg (bN (⟨d.live,d.live⟩:aZ))]⟩)] [2] [] rfl (by(with_reducible and_intros)<;>first|exact⟨⟩|exact(k9 d.live ⟨by omega,by omega⟩)) (ak (ah rfl (by and_intros<;>first|exact⟨⟩| (rw[hd];done)))))
theorem Bt(d:aZ):So 326 [.agg (bN d)] [aH (wS d)]:=by
 refine av X call326 func326 ntmps326 rfl rfl ?_;intro zb;exact aq X [1] rfl (aC X [] [(4,⟨false,[aH (cP d)]⟩)] [2] [] rfl (by(with_reducible and_intros)<;>first|exact⟨⟩|exact(dJ d)) (ak (ah rfl ⟨(congrArg Value.bool (by simp only[wS,aO]<;>first|rfl|ac_rfl)),⟨⟩⟩)))
theorem zG(c:dF)(r n:Int):So 263 [.agg (bG c),aA r,aA n] [aA (fu c.key r (cC c) n),aA (fu c.key r (1-cC c) n)]:=by
 refine av X call263 func263 ntmps263 rfl rfl ?_;intro zb;have hdw:=T0 c;exact aq X [1,2,3] rfl (aa (aF X [] [(12,⟨false,[aA (cC c)]⟩),(14,⟨false,[aA (fu c.key r (cC c) n)]⟩),(19,⟨false,[aA (cC c)]⟩),(22,⟨false,[aA (fu c.key r (IntKind.i64.wrap (1-cC c)) n)]⟩)] [6,7] [] 131071 0 MO (by kernel_rfl) rfl (by kernel_rfl) (by(with_reducible and_intros);(iterate 4 all_goals try first|exact⟨⟩|exact(eR c)|exact(gE c.key r (cC c) n)|exact(gE c.key r (IntKind.i64.wrap (1-cC c)) n))) (ak (ah rfl ⟨rfl,by rw[hdw],⟨⟩⟩))))
theorem zH(c:dF)(r:Int)(own other:List UInt8)(h0:cE List.length c.aM≤1048576∧cE List.length c.inbox≤1048576):So 325 [.agg (bG c),aA r, .a (.sl .u8 own), .a (.sl .u8 other)] [.agg (bG (fK c r own other)),aH (rY c r)]:=by
 refine av X call325 func325 ntmps325 rfl rfl ?_;intro zb;refine aq X [1,2,3,4,8] rfl (aC X [] [(14,⟨true,[.agg (bG c)]⟩)] [1,2,3,4,8,10] [] rfl (by(with_reducible and_intros)<;>first|exact⟨⟩|exact(dR c h0)) (aa (aC X [] [(16,⟨false,[aH (c8 c)]⟩),(22,⟨false,[aH (inr r c.next 99999)]⟩)] [1,2,3,4,8,10,24] [] rfl (by(with_reducible and_intros);(iterate 2 all_goals try first|exact⟨⟩|exact(dH c)|exact fun _=>(aK r c.next 99999))) ?_)));refine aj rfl ?_ ?_<;>intro hb0
 ·have hk:rY c r=false:=bH hb0 (by simp only[rY,aO]<;>first|rfl|ac_rfl);have hc:=K3 (own:=own) (other:=other) hk;exact aD X [8,9] rfl (by trivial) (ak (ah rfl (by and_intros<;>first|exact⟨⟩| (rw[hc];done)| (rw[hk];done))))
 ·have hk:rY c r=true:=bF hb0 (by simp only[rY,aO]<;>first|rfl|ac_rfl);obtain⟨hok,hn1,hn2,XV⟩:=TV hk;obtain⟨hu1,X6,_,_,hs0,hs9,_,_⟩:=pN hok;have hc:fK c r own other=⟨c.id,c.cU,c.key,c.seed,c.aM,if rG c own then c.sent+1 else c.sent,if jK c other then c.inbox++ [(QY (EP c) (c.inbox.length:Int) other).body]else c.inbox,r+1⟩:=by rw[fK,if_pos hk]
  refine an (aa (aC X [] [(37,⟨false,[.a (.sl .u8 (kE c c.sent))]⟩),(38,⟨false,[aH (own==(kE c c.sent))]⟩)] [1,3,4,8,10,39] [] rfl ⟨fun _=>gJ own (kE c c.sent),fun h=>jt c c.sent hs0 (of_decide_eq_true h),⟨⟩⟩ ?_));refine aj rfl ?_ ?_<;>intro aV
  ·have hh:rG c own=true:=iA aV (by simp only[rG,aO]<;>first|rfl|ac_rfl);refine bg X [1,3,4,8,10] rfl ?_;rw[bO (a:=c.sent+1) (by omega)];refine aa ?_;have t1:=(rI (qH c.key (IntKind.i64.wrap (1-cC c))) (c.inbox.length:Int) other);refine aF X [] [(48,⟨false,[aA (cC c)]⟩),(50,⟨false,[aA (qH c.key (IntKind.i64.wrap (1-cC c)))]⟩),(55,⟨true,bq t1⟩)] [1,4,8,10,11,12] [] 98303 1 MO (by kernel_rfl) rfl (by kernel_rfl) (by(with_reducible and_intros);(iterate 3 all_goals try first|exact⟨⟩|exact(eR c)|exact(iG c.key (IntKind.i64.wrap (1-cC c)))|exact t1)) ?_;rw[zF];refine aa (aq X [1,8,10,11,69] rfl ?_);refine aj rfl ?_ ?_<;>intro bI
   ·have hg:jK c other=true:=iA bI (by simp only[jK,aO]<;>first|rfl|ac_rfl);refine dy X [1,8,10] rfl (by and_intros<;>first|exact⟨⟩|exact rfl| (simp only[dN,maxLen,lens];omega)) (aq X [8,10] rfl ?_);rw[bO (a:=r+1) (by omega)];exact aD X [8,9] rfl (by trivial) (ak (ah rfl (by and_intros<;>first|exact⟨⟩| (rw[hc];done)| (rw[hc];simp only[hh,if_true];done)| (rw[hc];simp only[hg,if_true];done)| (rw[hk];done))))
   ·have hg:jK c other=false:=kX bI (by simp only[jK,aO]<;>first|rfl|ac_rfl);refine an (aq X [8,10] rfl ?_);rw[bO (a:=r+1) (by omega)];exact aD X [8,9] rfl (by trivial) (ak (ah rfl (by and_intros<;>first|exact⟨⟩| (rw[hc];done)| (rw[hc];simp only[hh,if_true];done)| (rw[hc];simp[hg];done)| (rw[hk];done))))
  ·have hh:rG c own=false:=kX aV (by simp only[rG,aO]<;>first|rfl|ac_rfl);refine an (aa ?_);have t1:=(rI (qH c.key (IntKind.i64.wrap (1-cC c))) (c.inbox.length:Int) other);refine aF X [] [(48,⟨false,[aA (cC c)]⟩),(50,⟨false,[aA (qH c.key (IntKind.i64.wrap (1-cC c)))]⟩),(55,⟨true,bq t1⟩)] [1,4,8,10,11,12] [] 98303 1 MO (by kernel_rfl) rfl (by kernel_rfl) (by(with_reducible and_intros);(iterate 3 all_goals try first|exact⟨⟩|exact(eR c)|exact(iG c.key (IntKind.i64.wrap (1-cC c)))|exact t1)) ?_;rw[zF];refine aa (aq X [1,8,10,11,69] rfl ?_);refine aj rfl ?_ ?_<;>intro bI
   ·have hg:jK c other=true:=iA bI (by simp only[jK,aO]<;>first|rfl|ac_rfl);refine dy X [1,8,10] rfl (by and_intros<;>first|exact⟨⟩|exact rfl| (simp only[dN,maxLen,lens];omega)) (aq X [8,10] rfl ?_);rw[bO (a:=r+1) (by omega)];exact aD X [8,9] rfl (by trivial) (ak (ah rfl (by and_intros<;>first|exact⟨⟩| (rw[hc];done)| (rw[hc];simp[hh];done)| (rw[hc];simp only[hg,if_true];done)| (rw[hk];done))))
   ·have hg:jK c other=false:=kX bI (by simp only[jK,aO]<;>first|rfl|ac_rfl);refine an (aq X [8,10] rfl ?_);rw[bO (a:=r+1) (by omega)];exact aD X [8,9] rfl (by trivial) (ak (ah rfl (by and_intros<;>first|exact⟨⟩| (rw[hc];done)| (rw[hc];simp[hh];done)| (rw[hc];simp[hg];done)| (rw[hk];done))))
theorem vZ(d:aZ)(r:Int)(own other:List UInt8)(h0:bt d≤1048576):So 264 [.agg (bN d),aA r, .a (.sl .u8 own), .a (.sl .u8 other)] [.agg (bN (rdev d r own other)),aH (vY d r)]:=by
 refine av X call264 func264 ntmps264 rfl rfl ?_;intro zb;have hc1:bY d.live≤1048576∧bY d.saved≤1048576:=by unfold bt at h0;omega
 unfold bY at hc1;refine aq X [1,2,3,4,8] rfl (aa ?_);have t1:=(zH d.live r own other ⟨by omega,by omega⟩);refine aL X [] [(19,⟨true,bq t1⟩)] [4,8,10,11] [] rfl (by(with_reducible and_intros)<;>first|exact⟨⟩|exact t1) (aa (aC X [] [(26,⟨false,[aH (cP d)]⟩)] [4,8,10,28] [] rfl (by(with_reducible and_intros)<;>first|exact⟨⟩|exact fun _=>(dJ d)) ?_));refine aj rfl ?_ ?_<;>intro hb0
 ·have hk:vY d r=false:=bH hb0 (by simp only[vY,aO]<;>first|rfl|ac_rfl);have hd:=ON (own:=own) (other:=other) hk;exact aC X [] [(30,⟨true,[.agg (bN d)]⟩)] [8,9] [] rfl (by(with_reducible and_intros)<;>first|exact⟨⟩|exact(fB d h0)) (ak (ah rfl (by and_intros<;>first|exact⟨⟩| (rw[hd];done)| (rw[hk];done))))
 ·have hk:vY d r=true:=bF hb0 (by simp only[vY,aO]<;>first|rfl|ac_rfl);have hz:=K4 (own:=own) (other:=other) hk;refine an (aa (aF X [] [(34,⟨true,[.agg (bG d.saved)]⟩)] [8,12] [] 63 0 MO (by kernel_rfl) rfl (by kernel_rfl) (by(with_reducible and_intros)<;>first|exact⟨⟩|exact(dR d.saved ⟨by omega,by omega⟩)) (aa (aC X [] [(37,⟨false,[aH (wS (lN d r own other))]⟩)] [8,12,37] [] rfl (by(with_reducible and_intros)<;>first|exact⟨⟩|exact(Bt (lN d r own other))) ?_))));refine aj rfl ?_ ?_<;>intro aV
  ·have hd:=OO hk aV;exact aL X [] [(39,⟨true,[.agg (bN (IC (lN d r own other)))]⟩)] [8,12] [] rfl (by(with_reducible and_intros)<;>first|exact⟨⟩|exact(ot (lN d r own other) hz)) (aD X [8,9] rfl (by trivial) (ak (ah rfl (by and_intros<;>first|exact⟨⟩| (rw[hd];done)| (rw[hk];done)))))
  ·have hd:=OP hk aV;exact an (aD X [8,9] rfl (by trivial) (ak (ah rfl (by and_intros<;>first|exact⟨⟩| (rw[hd];rfl;done)| (rw[hk];done)))))
theorem Bu(x:aW)(h0:wB x):So 193 [.agg (aN x)] [.agg (aN (ES x))]:=by
 refine av X call193 func193 ntmps193 rfl rfl ?_;intro zb;have hls:cE dL x.az≤1048576∧cE bt x.af≤1048576∧dA x.aB≤1048576∧x.replaced.length≤4194304:=h0;have lg:=cA hls.2.1;refine aq X [1,2] rfl (aC X [] [(15,⟨true,[.agg (aN x)]⟩)] [1,2,3] [] rfl (by(with_reducible and_intros)<;>first|exact⟨⟩|exact(dj x h0)) (aa (aC X [] [(17,⟨false,[aH (okW x)]⟩)] [1,2,3,18] [] rfl (by(with_reducible and_intros)<;>first|exact⟨⟩|exact(bQ x)) ?_)));refine aj rfl ?_ ?_<;>intro hb0
 ·have hk0:okW x=false:=by simpa using hb0
  have hw:=TZ hk0;exact aD X [2] rfl (by trivial) (ak (ah rfl (by and_intros<;>first|exact⟨⟩| (rw[hw];done))))
 ·have hk0:okW x=true:=by simpa using hb0
  have hw:=OQ hk0;have har:=Iv hk0;have hd8:=(qK (l5 hk0)).2.1;refine an (aa (aq X [1,2,3,21,22,23] rfl ?_));refine au (aE (fun k=>k≤x.af.length) (fun k:Nat=> [(23, .one ((aA k)))]) (fun k=> [(17, .arr .aZ (QZ x k))]) (fun k=>x.af.length-k) 0 (fun k=>rfl) (Nat.zero_le _) rfl ?_);intro k hk;have yX:=Ov x k hk;refine aq X [1,2,3,21,22,23,24] rfl ?_;refine aa (aj rfl ?_ ?_)<;>intro aV
  ·try simp only[aQ]at aV
   have hrg:=Ou x k aV;have h00:=Tq x k aV;have hrs:=xD x.aB.rounds (x.af.getD k (aG .aZ)).live.next;have aeG:(pP x (x.af.getD k (aG .aZ))).length≤x.aB.rounds.length:=hrs;have hrq:(gh x.aB.rounds (x.af.getD k (aG .aZ)).live.next).length=(pP x (x.af.getD k (aG .aZ))).length:=rfl;refine an (aa (au (aD X [1,2,3,4,5,21,22,23] rfl (by and_intros<;>first|exact⟨⟩| (intros;omega)) (aa ?_))));have t1:=(nC x.aB ((x.af.getD k (aG .aZ)).live.next) (by omega));refine aL X [] [(33,⟨true,bq t1⟩)] [1,2,3,4,5,21,22,23,33,34,35] [] rfl (by(with_reducible and_intros)<;>first|exact⟨⟩|exact t1) ?_;refine au (aE (fun k1=>k1≤(pP x (x.af.getD k (aG .aZ))).length) (fun k1:Nat=> [(35, .one ((aA k1)))]) (fun k1=> [(17, .arr .aZ (qg x k k1))]) (fun k1=>(pP x (x.af.getD k (aG .aZ))).length-k1) 0 (fun k1=>rfl) (Nat.zero_le _) (by rw[h00];rfl) ?_);intro k1 hk1;have hpl:=Oq x k k1 aV;refine aq X [1,2,3,4,5,21,22,23,33,34,35,36] rfl ?_;refine aa (aj rfl ?_ ?_)<;>intro bI
   ·try simp only[aQ]at bI
    have hs:=KP x k k1 aV bI;have hsz:=TW hk0 aV k1;refine an (aa (au (aD X [1,2,3,4,5,7,21,22,23,33,34,35] rfl (by and_intros<;>first|exact⟨⟩| (intros;omega)) (aa ?_))));have t1:=(zG ((x.af.getD k (aG .aZ)).live) ((pP x (x.af.getD k (aG .aZ))).getD k1 (aG .int)) x.rows);refine aL X [] [(45,⟨false,bq t1⟩)] [1,2,3,4,5,7,8,9,21,22,23,33,34,35] [] rfl (by(with_reducible and_intros)<;>first|exact⟨⟩|exact t1) (aa ?_);have t1:=(jz x ((pP x (x.af.getD k (aG .aZ))).getD k1 (aG .int)) (fu (x.af.getD k (aG .aZ)).live.key ((pP x (x.af.getD k (aG .aZ))).getD k1 (aG .int)) (cC (x.af.getD k (aG .aZ)).live) x.rows) ((x.af.getD k (aG .aZ)).live.seed) hk0);refine aL X [] [(55,⟨true,bq t1⟩)] [1,2,3,4,5,7,9,10,21,22,23,33,34,35] [] rfl (by(with_reducible and_intros)<;>first|exact⟨⟩|exact t1) (aa ?_);have t1:=(jz x ((pP x (x.af.getD k (aG .aZ))).getD k1 (aG .int)) (fu (x.af.getD k (aG .aZ)).live.key ((pP x (x.af.getD k (aG .aZ))).getD k1 (aG .int)) (1-cC (x.af.getD k (aG .aZ)).live) x.rows) ((x.af.getD k (aG .aZ)).live.seed) hk0);refine aL X [] [(65,⟨true,bq t1⟩)] [1,2,3,4,5,7,10,12,21,22,23,33,34,35] [] rfl (by(with_reducible and_intros)<;>first|exact⟨⟩|exact t1) ?_;have t1:=(vZ ((qg x k k1).getD k (aG .aZ)) ((pP x (x.af.getD k (aG .aZ))).getD k1 (aG .int)) (zo x ((pP x (x.af.getD k (aG .aZ))).getD k1 (aG .int)) (fu (x.af.getD k (aG .aZ)).live.key ((pP x (x.af.getD k (aG .aZ))).getD k1 (aG .int)) (cC (x.af.getD k (aG .aZ)).live) x.rows) (x.af.getD k (aG .aZ)).live.seed) (zo x ((pP x (x.af.getD k (aG .aZ))).getD k1 (aG .int)) (fu (x.af.getD k (aG .aZ)).live.key ((pP x (x.af.getD k (aG .aZ))).getD k1 (aG .int)) (1-cC (x.af.getD k (aG .aZ)).live) x.rows) (x.af.getD k (aG .aZ)).live.seed) hsz);refine aF X [] [(80,⟨true,bq t1⟩)] [1,2,3,4,5,21,22,23,33,34,35] [] 65535 1 MO (by kernel_rfl) rfl (by kernel_rfl) (by(with_reducible and_intros)<;>first|exact⟨⟩|exact t1| (intros;omega)) (bg X [1,2,3,4,5,21,22,23,33,34,35] rfl ?_);refine⟨k1+1,by omega,by omega,?_⟩;rw[bh _ k1 rfl (by omega), ←hs];try rfl
   ·try simp only[aQ]at bI
    rw[Ot x k k1 aV bI];refine aI (bg X [1,2,3,21,22,23] rfl ?_);refine⟨k+1,by omega,by omega,?_⟩;rw[bh _ k rfl (by omega)];try rfl
  ·try simp only[aQ]at aV
   exact aI (aD X [2] rfl (by trivial) (ak (ah rfl (by and_intros<;>first|exact⟨⟩| (rw[hw];done)| (rw[hw,Ox x k (by omega) (by omega)];done)))))
theorem ld(c:dF)(h0:cE List.length c.aM≤1048576∧cE List.length c.inbox≤1048576):So 96 [.agg (bG c)] [.agg (bN (⟨c,c⟩:aZ))]:=by
 refine av X call96 func96 ntmps96 rfl rfl ?_;intro zb;exact aq X [1,2] rfl (aa (aF X [(6,40)] [(4,⟨true,[.agg (bG c)]⟩),(6,⟨true,[.agg (bG c)]⟩)] [2] [] 31 0 MO (by kernel_rfl) rfl (by kernel_rfl) (by(with_reducible and_intros);(iterate 2 all_goals try first|exact⟨⟩|exact(eW c h0))) (ak (ah rfl ⟨rfl,rfl,rfl,rfl,rfl,rfl,rfl,rfl,rfl,rfl,rfl,rfl,rfl,rfl,rfl,rfl,⟨⟩⟩))))
theorem ou(d:aZ)(h0:bt d≤1048576):So 173 [.agg (bN d)] [.agg (bN (IC d))]:=by
 refine av X call173 func173 ntmps173 rfl rfl ?_;intro zb;have hc1:bY d.live≤1048576∧bY d.saved≤1048576:=by unfold bt at h0;omega
 unfold bY at hc1;refine aq X [1,2] rfl (aa (aC X [] [(4,⟨false,[aH (cP d)]⟩)] [1,2,5] [] rfl (by(with_reducible and_intros)<;>first|exact⟨⟩|exact(dK d)) ?_));refine aj rfl ?_ ?_<;>intro hb0
 ·have hk:cP d=false:=by simpa using hb0
  have hd:IC d=d:=by rw[IC,hk];rfl
  exact aC X [] [(7,⟨true,[.agg (bN d)]⟩)] [2] [] rfl (by(with_reducible and_intros)<;>first|exact⟨⟩|exact(gW d h0)) (ak (ah rfl (by and_intros<;>first|exact⟨⟩| (rw[hd];done))))
 ·have hk:cP d=true:=by simpa using hb0
  have hd:IC d=⟨d.live,d.live⟩:=by rw[IC,if_pos hk]
  exact an (aC X [] [(10,⟨true,[.agg (bN (⟨d.live,d.live⟩:aZ))]⟩)] [2] [] rfl (by(with_reducible and_intros)<;>first|exact⟨⟩|exact(ld d.live ⟨by omega,by omega⟩)) (ak (ah rfl (by and_intros<;>first|exact⟨⟩| (rw[hd];done)))))
theorem Bv(d:aZ):So 390 [.agg (bN d)] [aH (wS d)]:=by
 refine av X call390 func390 ntmps390 rfl rfl ?_;intro zb;exact aq X [1] rfl (aC X [] [(4,⟨false,[aH (cP d)]⟩)] [2] [] rfl (by(with_reducible and_intros)<;>first|exact⟨⟩|exact(dK d)) (ak (ah rfl ⟨(congrArg Value.bool (by simp only[wS,aO]<;>first|rfl|ac_rfl)),⟨⟩⟩)))
theorem zI(c:dF)(r n:Int):So 358 [.agg (bG c),aA r,aA n] [aA (fu c.key r (cC c) n),aA (fu c.key r (1-cC c) n)]:=by
 refine av X call358 func358 ntmps358 rfl rfl ?_;intro zb;have hdw:=T0 c;exact aq X [1,2,3] rfl (aC X [] [(10,⟨false,[aA (cC c)]⟩)] [1,2,3,8] [] rfl (by(with_reducible and_intros)<;>first|exact⟨⟩|exact(dS c)) (aa (aF X [] [(16,⟨false,[aA (fu c.key r (cC c) n)]⟩),(23,⟨false,[aA (fu c.key r (IntKind.i64.wrap (1-cC c)) n)]⟩)] [6,7] [] 32767 0 MO (by kernel_rfl) rfl (by kernel_rfl) (by(with_reducible and_intros);(iterate 2 all_goals try first|exact⟨⟩|exact(gG c.key r (cC c) n)|exact(gG c.key r (IntKind.i64.wrap (1-cC c)) n))) (ak (ah rfl ⟨rfl,by rw[hdw],⟨⟩⟩)))))
theorem zJ(c:dF)(r:Int)(own other:List UInt8)(h0:cE List.length c.aM≤1048576∧cE List.length c.inbox≤1048576):So 389 [.agg (bG c),aA r, .a (.sl .u8 own), .a (.sl .u8 other)] [.agg (bG (fK c r own other)),aH (rY c r)]:=by
 refine av X call389 func389 ntmps389 rfl rfl ?_;intro zb;refine aq X [1,2,3,4,8] rfl (aC X [] [(14,⟨true,[.agg (bG c)]⟩)] [1,2,3,4,8,10] [] rfl (by(with_reducible and_intros)<;>first|exact⟨⟩|exact(eW c h0)) (aa (aC X [] [(16,⟨false,[aH (c8 c)]⟩),(22,⟨false,[aH (inr r c.next 99999)]⟩)] [1,2,3,4,8,10,24] [] rfl (by(with_reducible and_intros);(iterate 2 all_goals try first|exact⟨⟩|exact(dI c)|exact fun _=>(aP r c.next 99999))) ?_)));refine aj rfl ?_ ?_<;>intro hb0
 ·have hk:rY c r=false:=bH hb0 (by simp only[rY,aO]<;>first|rfl|ac_rfl);have hc:=K3 (own:=own) (other:=other) hk;exact aD X [8,9] rfl (by trivial) (ak (ah rfl (by and_intros<;>first|exact⟨⟩| (rw[hc];done)| (rw[hk];done))))
 ·have hk:rY c r=true:=bF hb0 (by simp only[rY,aO]<;>first|rfl|ac_rfl);obtain⟨hok,hn1,hn2,XV⟩:=TV hk;obtain⟨hu1,X6,_,_,hs0,hs9,_,_⟩:=pN hok;have hc:fK c r own other=⟨c.id,c.cU,c.key,c.seed,c.aM,if rG c own then c.sent+1 else c.sent,if jK c other then c.inbox++ [(QY (EP c) (c.inbox.length:Int) other).body]else c.inbox,r+1⟩:=by rw[fK,if_pos hk]
  refine an (aa (aC X [] [(35,⟨false,[.a (.sl .u8 (kE c c.sent))]⟩),(36,⟨false,[aH (own==(kE c c.sent))]⟩)] [1,3,4,8,10,37] [] rfl ⟨fun _=>gH own (kE c c.sent),fun h=>nh c hs0 (of_decide_eq_true h),⟨⟩⟩ ?_));refine aj rfl ?_ ?_<;>intro aV
  ·have hh:rG c own=true:=iA aV (by simp only[rG,aO]<;>first|rfl|ac_rfl);refine bg X [1,3,4,8,10] rfl ?_;rw[bO (a:=c.sent+1) (by omega)];refine aa ?_;have t1:=(rJ (qH c.key (IntKind.i64.wrap (1-cC c))) (c.inbox.length:Int) other);refine aF X [] [(46,⟨false,[aA (cC c)]⟩),(48,⟨false,[aA (qH c.key (IntKind.i64.wrap (1-cC c)))]⟩),(53,⟨true,bq t1⟩)] [1,4,8,10,11,12] [] 98303 1 MO (by kernel_rfl) rfl (by kernel_rfl) (by(with_reducible and_intros);(iterate 3 all_goals try first|exact⟨⟩|exact(dS c)|exact(iH c.key (IntKind.i64.wrap (1-cC c)))|exact t1)) ?_;rw[zF];refine aa (aq X [1,8,10,11,67] rfl ?_);refine aj rfl ?_ ?_<;>intro bI
   ·have hg:jK c other=true:=iA bI (by simp only[jK,aO]<;>first|rfl|ac_rfl);refine dy X [1,8,10] rfl (by and_intros<;>first|exact⟨⟩|exact rfl| (simp only[dN,maxLen,lens];omega)) (aq X [8,10] rfl ?_);rw[bO (a:=r+1) (by omega)];exact aD X [8,9] rfl (by trivial) (ak (ah rfl (by and_intros<;>first|exact⟨⟩| (rw[hc];done)| (rw[hc];simp only[hh,if_true];done)| (rw[hc];simp only[hg,if_true];done)| (rw[hk];done))))
   ·have hg:jK c other=false:=kX bI (by simp only[jK,aO]<;>first|rfl|ac_rfl);refine an (aq X [8,10] rfl ?_);rw[bO (a:=r+1) (by omega)];exact aD X [8,9] rfl (by trivial) (ak (ah rfl (by and_intros<;>first|exact⟨⟩| (rw[hc];done)| (rw[hc];simp only[hh,if_true];done)| (rw[hc];simp[hg];done)| (rw[hk];done))))
  ·have hh:rG c own=false:=kX aV (by simp only[rG,aO]<;>first|rfl|ac_rfl);refine an (aa ?_);have t1:=(rJ (qH c.key (IntKind.i64.wrap (1-cC c))) (c.inbox.length:Int) other);refine aF X [] [(46,⟨false,[aA (cC c)]⟩),(48,⟨false,[aA (qH c.key (IntKind.i64.wrap (1-cC c)))]⟩),(53,⟨true,bq t1⟩)] [1,4,8,10,11,12] [] 98303 1 MO (by kernel_rfl) rfl (by kernel_rfl) (by(with_reducible and_intros);(iterate 3 all_goals try first|exact⟨⟩|exact(dS c)|exact(iH c.key (IntKind.i64.wrap (1-cC c)))|exact t1)) ?_;rw[zF];refine aa (aq X [1,8,10,11,67] rfl ?_);refine aj rfl ?_ ?_<;>intro bI
   ·have hg:jK c other=true:=iA bI (by simp only[jK,aO]<;>first|rfl|ac_rfl);refine dy X [1,8,10] rfl (by and_intros<;>first|exact⟨⟩|exact rfl| (simp only[dN,maxLen,lens];omega)) (aq X [8,10] rfl ?_);rw[bO (a:=r+1) (by omega)];exact aD X [8,9] rfl (by trivial) (ak (ah rfl (by and_intros<;>first|exact⟨⟩| (rw[hc];done)| (rw[hc];simp[hh];done)| (rw[hc];simp only[hg,if_true];done)| (rw[hk];done))))
   ·have hg:jK c other=false:=kX bI (by simp only[jK,aO]<;>first|rfl|ac_rfl);refine an (aq X [8,10] rfl ?_);rw[bO (a:=r+1) (by omega)];exact aD X [8,9] rfl (by trivial) (ak (ah rfl (by and_intros<;>first|exact⟨⟩| (rw[hc];done)| (rw[hc];simp[hh];done)| (rw[hc];simp[hg];done)| (rw[hk];done))))
theorem v7(d:aZ)(r:Int)(own other:List UInt8)(h0:bt d≤1048576):So 359 [.agg (bN d),aA r, .a (.sl .u8 own), .a (.sl .u8 other)] [.agg (bN (rdev d r own other)),aH (vY d r)]:=by
 refine av X call359 func359 ntmps359 rfl rfl ?_;intro zb;have hc1:bY d.live≤1048576∧bY d.saved≤1048576:=by unfold bt at h0;omega
 unfold bY at hc1;refine aq X [1,2,3,4,8] rfl (aa ?_);have t1:=(zJ d.live r own other ⟨by omega,by omega⟩);refine aL X [] [(19,⟨true,bq t1⟩)] [4,8,10,11] [] rfl (by(with_reducible and_intros)<;>first|exact⟨⟩|exact t1) (aa (aC X [] [(23,⟨false,[aH (cP d)]⟩)] [4,8,10,28] [] rfl (by(with_reducible and_intros)<;>first|exact⟨⟩|exact(dK d)) ?_));refine aj rfl ?_ ?_<;>intro hb0
 ·have hk:vY d r=false:=bH hb0 (by simp only[vY,aO]<;>first|rfl|ac_rfl);have hd:=ON (own:=own) (other:=other) hk;exact aC X [] [(30,⟨true,[.agg (bN d)]⟩)] [8,9] [] rfl (by(with_reducible and_intros)<;>first|exact⟨⟩|exact(gW d h0)) (ak (ah rfl (by and_intros<;>first|exact⟨⟩| (rw[hd];done)| (rw[hk];done))))
 ·have hk:vY d r=true:=bF hb0 (by simp only[vY,aO]<;>first|rfl|ac_rfl);have hz:=K4 (own:=own) (other:=other) hk;refine an (aa (aF X [] [(34,⟨true,[.agg (bG d.saved)]⟩)] [8,12] [] 63 0 MO (by kernel_rfl) rfl (by kernel_rfl) (by(with_reducible and_intros)<;>first|exact⟨⟩|exact(eW d.saved ⟨by omega,by omega⟩)) (aa (aC X [] [(37,⟨false,[aH (wS (lN d r own other))]⟩)] [8,12,37] [] rfl (by(with_reducible and_intros)<;>first|exact⟨⟩|exact(Bv (lN d r own other))) ?_))));refine aj rfl ?_ ?_<;>intro aV
  ·have hd:=OO hk aV;exact aC X [] [(39,⟨true,[.agg (bN (IC (lN d r own other)))]⟩)] [8,9] [] rfl (by(with_reducible and_intros)<;>first|exact⟨⟩|exact(ou (lN d r own other) hz)) (ak (ah rfl (by and_intros<;>first|exact⟨⟩| (rw[hd];done)| (rw[hk];done))))
  ·have hd:=OP hk aV;exact an (aD X [8,9] rfl (by trivial) (ak (ah rfl (by and_intros<;>first|exact⟨⟩| (rw[hd];rfl;done)| (rw[hk];done)))))
theorem Bw(x:aW)(h0:wB x):So 299 [.agg (aN x)] [.agg (aN (ES x))]:=by
 refine av X call299 func299 ntmps299 rfl rfl ?_;intro zb;have hls:cE dL x.az≤1048576∧cE bt x.af≤1048576∧dA x.aB≤1048576∧x.replaced.length≤4194304:=h0;have lg:=cA hls.2.1;refine aq X [1,2] rfl (aC X [] [(17,⟨true,[.agg (aN x)]⟩)] [1,2,3] [] rfl (by(with_reducible and_intros)<;>first|exact⟨⟩|exact(cR x h0)) (aa (aC X [] [(19,⟨false,[aH (okW x)]⟩)] [1,2,3,20] [] rfl (by(with_reducible and_intros)<;>first|exact⟨⟩|exact(bV x)) ?_)));refine aj rfl ?_ ?_<;>intro hb0
 ·have hk0:okW x=false:=by simpa using hb0
  have hw:=TZ hk0;exact aD X [2] rfl (by trivial) (ak (ah rfl (by and_intros<;>first|exact⟨⟩| (rw[hw];done))))
 ·have hk0:okW x=true:=by simpa using hb0
  have hw:=OQ hk0;have har:=Iv hk0;have hd8:=(qK (l5 hk0)).2.1;refine an (aa (aq X [1,2,3,4] rfl ?_));refine au (aE (fun k=>k≤x.af.length) (fun k:Nat=> [(4, .one ((aA k)))]) (fun k=> [(19, .arr .aZ (QZ x k))]) (fun k=>x.af.length-k) 0 (fun k=>rfl) (Nat.zero_le _) rfl ?_);intro k hk;have yX:=Ov x k hk;refine aa (aq X [1,2,3,4,26] rfl ?_);refine aj rfl ?_ ?_<;>intro aV
  ·try simp only[aQ]at aV
   rw[yX]at aV;have hrg:=Ou x k aV;have h00:=Tq x k aV;have hrs:=xD x.aB.rounds (x.af.getD k (aG .aZ)).live.next;have aeG:(pP x (x.af.getD k (aG .aZ))).length≤x.aB.rounds.length:=hrs;have hrq:(gh x.aB.rounds (x.af.getD k (aG .aZ)).live.next).length=(pP x (x.af.getD k (aG .aZ))).length:=rfl;refine an (aa (au (aa ?_)));have t1:=(nD x.aB (((QZ x k).getD k (aG .aZ)).live.next) (by omega));refine aF X [] [(38,⟨true,bq t1⟩)] [1,2,3,4,5] [] 2047 0 MO (by kernel_rfl) rfl (by kernel_rfl) (by(with_reducible and_intros)<;>first|exact⟨⟩|exact t1| (intros;omega)) ?_;rw[hrg];refine aq X [1,2,3,4,5,6] rfl ?_;refine au (aE (fun k1=>k1≤(pP x (x.af.getD k (aG .aZ))).length) (fun k1:Nat=> [(6, .one ((aA k1)))]) (fun k1=> [(19, .arr .aZ (qg x k k1))]) (fun k1=>(pP x (x.af.getD k (aG .aZ))).length-k1) 0 (fun k1=>rfl) (Nat.zero_le _) (by rw[h00];rfl) ?_);intro k1 hk1;have hpl:=Oq x k k1 aV;refine aa (aq X [1,2,3,4,5,6,42] rfl ?_);refine aj rfl ?_ ?_<;>intro bI
   ·try simp only[aQ]at bI
    have hs:=TY x k k1 aV bI;have hsz:=TW hk0 aV k1;refine an (aa (au (aD X [1,2,3,4,5,6,7] rfl (by and_intros<;>first|exact⟨⟩| (intros;omega)) (aa ?_))));have t1:=(zI (((qg x k k1).getD k (aG .aZ)).live) ((pP x (x.af.getD k (aG .aZ))).getD k1 (aG .int)) x.rows);refine aF X [] [(59,⟨false,bq t1⟩)] [1,2,3,4,5,6,7,8,9] [] 8191 0 MO (by kernel_rfl) rfl (by kernel_rfl) (by(with_reducible and_intros)<;>first|exact⟨⟩|exact t1| (intros;omega)) (aa ?_);have t1:=(nH x ((pP x (x.af.getD k (aG .aZ))).getD k1 (aG .int)) (fu ((qg x k k1).getD k (aG .aZ)).live.key ((pP x (x.af.getD k (aG .aZ))).getD k1 (aG .int)) (cC ((qg x k k1).getD k (aG .aZ)).live) x.rows) (((qg x k k1).getD k (aG .aZ)).live.seed) hk0);refine aF X [] [(71,⟨true,bq t1⟩)] [1,2,3,4,5,6,7,9,10] [] 16383 0 MO (by kernel_rfl) rfl (by kernel_rfl) (by(with_reducible and_intros)<;>first|exact⟨⟩|exact t1| (intros;omega)) (aa ?_);have t1:=(nH x ((pP x (x.af.getD k (aG .aZ))).getD k1 (aG .int)) (fu ((qg x k k1).getD k (aG .aZ)).live.key ((pP x (x.af.getD k (aG .aZ))).getD k1 (aG .int)) (1-cC ((qg x k k1).getD k (aG .aZ)).live) x.rows) (((qg x k k1).getD k (aG .aZ)).live.seed) hk0);refine aF X [] [(83,⟨true,bq t1⟩)] [1,2,3,4,5,6,10,12] [] 16383 0 MO (by kernel_rfl) rfl (by kernel_rfl) (by(with_reducible and_intros)<;>first|exact⟨⟩|exact t1| (intros;omega)) (aa ?_);have t1:=(v7 ((qg x k k1).getD k (aG .aZ)) ((pP x (x.af.getD k (aG .aZ))).getD k1 (aG .int)) (zo x ((pP x (x.af.getD k (aG .aZ))).getD k1 (aG .int)) (fu ((qg x k k1).getD k (aG .aZ)).live.key ((pP x (x.af.getD k (aG .aZ))).getD k1 (aG .int)) (cC ((qg x k k1).getD k (aG .aZ)).live) x.rows) ((qg x k k1).getD k (aG .aZ)).live.seed) (zo x ((pP x (x.af.getD k (aG .aZ))).getD k1 (aG .int)) (fu ((qg x k k1).getD k (aG .aZ)).live.key ((pP x (x.af.getD k (aG .aZ))).getD k1 (aG .int)) (1-cC ((qg x k k1).getD k (aG .aZ)).live) x.rows) ((qg x k k1).getD k (aG .aZ)).live.seed) hsz);refine aF X [] [(98,⟨true,bq t1⟩)] [1,2,3,4,5,6,14] [] 196607 1 MO (by kernel_rfl) rfl (by kernel_rfl) (by(with_reducible and_intros)<;>first|exact⟨⟩|exact t1| (intros;omega)) (dy X [1,2,3,4,5,6] rfl (by and_intros<;>first|exact⟨⟩| (intros;omega)) (bg X [1,2,3,4,5,6] rfl ?_));refine⟨k1+1,by omega,by omega,?_⟩;rw[bh _ k1 rfl (by omega), ←hs];try rfl
   ·try simp only[aQ]at bI
    rw[Ot x k k1 aV bI];refine aI (bg X [1,2,3,4] rfl ?_);refine⟨k+1,by omega,by omega,?_⟩;rw[bh _ k rfl (by omega)];try rfl
  ·try simp only[aQ]at aV
   rw[yX]at aV;exact aI (aD X [2] rfl (by trivial) (ak (ah rfl (by and_intros<;>first|exact⟨⟩| (rw[hw];done)| (rw[hw,Ox x k (by omega) (by omega)];done)))))
end
section
set_option maxRecDepth 100000
theorem uu(s:bp)(c:Int)(hz:s.received.length≤1048576∧ ∀r,r∈s.received→cE List.length r.share.rows≤1048576):So 317 [.agg (bS s),aA c] [.agg (aY (Bi s.received c)),aH (lM s.received c)]:=by
 refine av X call317 func317 ntmps317 rfl rfl ?_;intro zb;refine bl 0 3 rfl rfl (fun RT=>(aq X [1,2,4] rfl (aa (aq X [1,4,9,10,11] rfl ?_))));refine au (aE (fun k=>k≤s.received.length∧(s.received.take k).any (Vo c)=false) (fun k:Nat=> [(11, .one ((aA k)))]) (fun k=> []) (fun k=>s.received.length-k) 0 (fun k=>rfl) ⟨Nat.zero_le _,rfl⟩ rfl ?_);rintro k ⟨hk,hall⟩;refine aq X [1,4,9,10,11,12] rfl ?_;refine aa (aj rfl ?_ ?_)<;>intro hb0
 ·try simp only[aQ]at hb0
  refine an (aa (au (aD X [1,4,7,9,10,11] rfl (by and_intros<;>first|exact⟨⟩| (intros;omega)) (aq X [1,4,7,9,10,11,18] rfl ?_))));refine aj rfl ?_ ?_<;>intro aV
  ·have hh:=Ta hb0 hall aV;exact aC X [] [(21,⟨true,[.agg (aY ((s.received.getD k (aG .aT)).share))]⟩)] [4,5] [] rfl (by(with_reducible and_intros)<;>first|exact⟨⟩|exact(cG ((s.received.getD k (aG .aT)).share) (hz.2 _ (getD_in _ hb0)))) (ak (ah rfl ⟨by rw[hh.2],by rw[hh.1],⟨⟩⟩))
  ·refine an (bg X [1,4,9,10,11] rfl ?_);refine⟨k+1,⟨by omega,qI (aG .aT) hb0 hall aV⟩,by omega,?_⟩;rw[bh _ k rfl (by omega)];try rfl
 ·try simp only[aQ]at hb0
  exact aI (aD X [4,5] rfl (by trivial) (ak (ah rfl ⟨by rw[(C9 (by rw[←hall,List.take_of_length_le hb0])).2],by rw[(C9 (by rw[←hall,List.take_of_length_le hb0])).1],⟨⟩⟩)))
theorem E5(s:bp)(c:Int)(hz:s.received.length≤1048576∧ ∀r,r∈s.received→cE List.length r.share.rows≤1048576):So 393 [.agg (bS s),aA c] [.agg (aY (Bi s.received c)),aH (lM s.received c)]:=by
 refine av X call393 func393 ntmps393 rfl rfl ?_;intro zb;refine bl 0 3 rfl rfl (fun RT=>(aq X [1,2,4] rfl (aa (aq X [1,2,4,6] rfl ?_))));refine au (aE (fun k=>k≤s.received.length∧(s.received.take k).any (Vo c)=false) (fun k:Nat=> [(6, .one ((aA k)))]) (fun k=> []) (fun k=>s.received.length-k) 0 (fun k=>rfl) ⟨Nat.zero_le _,rfl⟩ rfl ?_);rintro k ⟨hk,hall⟩;refine aa (aq X [1,2,4,6,11] rfl ?_);refine aj rfl ?_ ?_<;>intro hb0
 ·try simp only[aQ]at hb0
  refine an (aa (au (aD X [1,2,4,6,21] rfl (by and_intros<;>first|exact⟨⟩| (intros;omega)) ?_)));refine aj rfl ?_ ?_<;>intro aV
  ·have hh:=Ta hb0 hall aV;exact aC X [] [(28,⟨true,[.agg (aY ((s.received.getD k (aG .aT)).share))]⟩)] [4,5] [] rfl (by(with_reducible and_intros)<;>first|exact⟨⟩|exact(eg ((s.received.getD k (aG .aT)).share) (hz.2 _ (getD_in _ hb0)))| (intros;omega)) (ak (ah rfl ⟨by rw[hh.2],by rw[hh.1],⟨⟩⟩))
  ·refine an (bg X [1,2,4,6] rfl ?_);refine⟨k+1,⟨by omega,qI (aG .aT) hb0 hall aV⟩,by omega,?_⟩;rw[bh _ k rfl (by omega)];try rfl
 ·try simp only[aQ]at hb0
  exact aI (aD X [4,5] rfl (by trivial) (ak (ah rfl ⟨by rw[(C9 (by rw[←hall,List.take_of_length_le hb0])).2],by rw[(C9 (by rw[←hall,List.take_of_length_le hb0])).1],⟨⟩⟩)))
theorem su(r:aT)(c:Int):ff ty Tryz.prog 319 [(1000, .box [cF c])] [.agg (qi r), .a (.ptr 1000 0)] [(1000, .box [cF c])] [aH (decide (r.client>c))]:=by
 refine cY X call319 func319 rfl rfl (by decide) ntmps319 (by simp) rfl ?_;intro zb;exact aq X [1,2] rfl (aD X [3] rfl (by trivial) (ak (aS rfl ⟨rfl,rfl,⟨⟩⟩)))
theorem eA(l:List aT)(c:Int)(hl: ∀r,r∈l→r.client<c):ff ty Tryz.prog 318 [(1000, .box [cF c])] [.a (.sl .aT l), .a (.F3 319 1000)] [(1000, .box [cF c])] [aA (-1)]:=by
 refine cY X call318 func318 rfl rfl (by decide) ntmps318 (by simp) rfl ?_;intro zb;refine ct 0 rfl (fun ir=>(aq X [0,1] rfl (aa (aq X [0,1,7,8] rfl ?_))));refine au (aE (fun k=>k≤l.length) (fun k:Nat=> [(8, .one ((aA k)))]) (fun k=> []) (fun k=>l.length-k) 0 (fun k=>rfl) (Nat.zero_le _) rfl ?_);intro k hk;refine aq X [0,1,7,8,9] rfl ?_;refine aa (aj rfl ?_ ?_)<;>intro hb0
 ·try simp only[aQ]at hb0
  have hlt:=hl _ (getD_in (aG .aT) hb0);refine an (aa (au (aq X [0,1,5,7,8] rfl (aa ?_))));have t1:=(su (l.getD k (aG .aT)) c);refine aL X [] [(800016,⟨true,ji t1⟩),(700016,⟨true, .agg [.ptr 1000 1000]:: .agg []::jj t1⟩)] [0,1,5,7,8,16] [] rfl (by(with_reducible and_intros)<;>first|exact⟨⟩|exact t1| (intros;omega)) ?_;refine aj rfl ?_ ?_<;>intro aV
  ·try simp only[aQ]at aV
   omega
  ·try simp only[aQ]at aV
   refine an (bg X [0,1,7,8] rfl ?_);refine⟨k+1,by omega,by omega,?_⟩;rw[bh _ k rfl (by omega)];try rfl
 ·try simp only[aQ]at hb0
  exact aI (aq X [4] rfl (ak (aS rfl ⟨rfl,rfl,⟨⟩⟩)))
theorem eF(l:List aT)(y:aT)(hl:l.length≤1048576):ff ty Tryz.prog 320 [(5, .arr .aT l),(6, .arr .aT [y])] [.a (.own 5),aA (l.length:Int), .a (.own 6)] [(5, .arr .aT (l++ [y]))] [.a (.own 5)]:=by
 refine cY X call320 func320 rfl rfl (by decide) ntmps320 (by simp) rfl ?_;intro zb;refine aq X [0,1,2] rfl (aD X [0,1,2] rfl (by and_intros<;>first|exact⟨⟩| (intros;omega)) (aq X [0,1,2,7] rfl (aa (aq X [0,1,2,7,16] rfl ?_))));refine aj rfl ?_ ?_<;>intro hb0
 ·try simp only[aQ]at hb0
  simp at hb0
 ·try simp only[aQ]at hb0
  refine an (aq X [0,1,2,7,8] rfl (aa (aq X [0,1,2,7,8,22] rfl ?_)));refine aj rfl ?_ ?_<;>intro aV
  ·try simp only[aQ]at aV
   exact aC X [(25,5)] [] [6] [] rfl (by and_intros<;>first|exact⟨⟩|exact rfl| (simp only[dN,maxLen,lens];omega)) (ak (aS rfl ⟨rfl,⟨⟩⟩))
  ·try simp only[aQ]at aV
   simp at aV
theorem v8(s:bp)(c:Int)(d:DB)(hz:s.received.length≤1048576∧ ∀r,r∈s.received→cE List.length r.share.rows≤1048576)(hb: ∀r,r∈s.received→r.client<c)(hd:cE List.length d.rows≤1048576):So 259 [.agg (bS s),aA c, .agg (aY d)] [.agg (bS (MM s c d)),aH (kf s c d)]:=by
 refine av X call259 func259 ntmps259 rfl rfl ?_;intro zb;have Z2:=Tb (s:=s) hb;have ir:=hz.1;refine aC X [(4,904)] [] [3,4,5,6] [] rfl ⟨⟩ (aC X [] [(13,⟨true,[.agg (bS s)]⟩)] [3,4,5,6,8] [] rfl (by(with_reducible and_intros)<;>first|exact⟨⟩|exact(gK s hz)) (aa (aa ?_)));have t1:=(uu s c hz);refine aL X [] [(17,⟨true,bq t1⟩)] [3,4,5,6,8,10] [] rfl (by(with_reducible and_intros)<;>first|exact⟨⟩|exact t1) (aC X [] [(23,⟨false,[aH (cj s)]⟩)] [3,4,5,6,8,25] [] rfl (by(with_reducible and_intros)<;>first|exact⟨⟩|exact fun _=>(cW s)) ?_);refine aj rfl ?_ ?_<;>intro hb0
 ·have hk:cj s=false:=by rw[Z2]at hb0;simpa using hb0
  have hr:kf s c d=false:=by rw[kf,hk];rfl
  exact aD X [6,7] rfl (by trivial) (ak (ah rfl (by and_intros<;>first|exact⟨⟩| (rw[MN hr];done)| (rw[hr];done))))
 ·have hk:cj s=true:=by rw[Z2]at hb0;simpa using hb0
  refine an (aa ?_);have t1:=(eA s.received c hb);refine aL X [] [(800030,⟨true,ji t1⟩),(700030,⟨true, .agg [.ptr 1000 904]:: .agg []::jj t1⟩)] [3,4,5,6,8,11] [] rfl (by(with_reducible and_intros)<;>first|exact⟨⟩|exact t1) (aa (aq X [3,4,5,6,8,11,32] rfl ?_));refine aj rfl ?_ ?_<;>intro aV
  ·try simp only[aQ]at aV
   refine bg X [3,4,5,6,8,11] rfl (aa ?_);have t1:=(eF s.received (⟨c,d⟩:aT) (by first|assumption|omega| (simp;done)| (simp;omega)));refine aF X [] [(41,⟨true,[.agg (aY d)]⟩),(800044,⟨true,ji t1⟩),(700044,⟨true, .agg [.ptr 5 16, .ptr 6 43]:: .agg []::jj t1⟩)] [3,6,8] [] 639 5 MO (by kernel_rfl) rfl (by kernel_rfl) (by(with_reducible and_intros);(iterate 2 all_goals try first|exact⟨⟩|exact(cG d hd)|exact t1);all_goals first|exact rfl) (aa (aC X [] [(47,⟨false,[aH (cj (ke s c d))]⟩)] [3,6,8,48] [] rfl (by(with_reducible and_intros)<;>first|exact⟨⟩|exact(cW (ke s c d))) ?_));refine aj rfl ?_ ?_<;>intro bI
   ·have hr:kf s c d=false:=by rw[kf,hk];simpa using bI
    exact aC X [] [(50,⟨true,[.agg (bS s)]⟩)] [6,7] [] rfl (by(with_reducible and_intros)<;>first|exact⟨⟩|exact(gK s hz)) (ak (ah rfl (by and_intros<;>first|exact⟨⟩| (rw[MN hr];done)| (rw[hr];done))))
   ·have hr:kf s c d=true:=by rw[kf,hk];simpa using bI
    exact an (aD X [6,7] rfl (by trivial) (ak (ah rfl (by and_intros<;>first|exact⟨⟩| (rw[Ik hr];rfl;done)| (rw[hr];done)))))
  ·try simp only[aQ]at aV
   omega
theorem we(s:bp)(c:Int)(d:DB)(hz:s.received.length≤1048576∧ ∀r,r∈s.received→cE List.length r.share.rows≤1048576)(hb: ∀r,r∈s.received→r.client<c)(hd:cE List.length d.rows≤1048576):So 354 [.agg (bS s),aA c, .agg (aY d)] [.agg (bS (MM s c d)),aH (kf s c d)]:=by
 refine av X call354 func354 ntmps354 rfl rfl ?_;intro zb;have ir:=hz.1;refine aq X [1,3,5,6] rfl (aC X [] [(11,⟨true,[.agg (bS s)]⟩)] [1,3,5,6,8] [] rfl (by(with_reducible and_intros)<;>first|exact⟨⟩|exact(kj s hz)) (aq X [1,3,5,6,8,9] rfl ?_));refine aa (au (aE (fun k=>k≤s.received.length) (fun k:Nat=> [(9, .one ((aA k)))]) (fun k=> []) (fun k=>s.received.length-k) 0 (fun k=>rfl) (Nat.zero_le _) rfl ?_));intro k hk;refine aa (aD X [1,3,5,6,8,9,26] rfl (by refine⟨fun hzz=> ?_,fun hzz=> ?_,⟨⟩⟩<;>(have hz2:decide ((k:Int)<(s.received.length:Int))=true:=hzz;rw[decide_eq_true_eq]at hz2;dsimp only[hyps,Jp];omega)) ?_);refine aj rfl ?_ ?_<;>intro hb0
 ·have yX:k<s.received.length:=by simp only[nb]at hb0;omega
  have hlt:=hb _ (getD_in (aG .aT) yX);refine an (au (bg X [1,3,5,6,8,9] rfl ?_));refine⟨k+1,by omega,by omega,?_⟩;rw[bh _ k rfl (by omega)];try rfl
 ·have yX:k=s.received.length:=WS hb hk hb0;subst yX;refine Tg 8 3 rfl (aI (aa (aF X [(34,29),(40,29),(45,29)] [(37,⟨true,[.agg (aY d)]⟩),(600044,⟨true,[]⟩)] [3,6,8] [] 193503 259 MO (by kernel_rfl) rfl (by kernel_rfl) (by(repeat' with_reducible first|exact aR|refine bf ?_ ?_|apply And.intro)<;>first|exact(eg d hd)| (intros;omega)|exact rfl|exact⟨rfl,bA _ (by decide)⟩| (simp only[dN,maxLen,lens];omega)) ?_)));rw[ins_eq];refine aa (aC X [] [(48,⟨false,[aH (cj s)]⟩),(52,⟨false,[aH (cj (ke s c d))]⟩)] [3,6,8,54] [] rfl (by(with_reducible and_intros);(iterate 2 all_goals try first|exact⟨⟩|exact(cX s)|exact fun _=>(cX (ke s c d)))) ?_);refine aj rfl ?_ ?_<;>intro aV
  ·have hr:kf s c d=false:=ab8 aV;exact aC X [] [(56,⟨true,[.agg (bS s)]⟩)] [6,7] [] rfl (by(with_reducible and_intros)<;>first|exact⟨⟩|exact(kj s hz)) (ak (ah rfl (by and_intros<;>first|exact⟨⟩| (rw[MN hr];done)| (rw[hr];done))))
  ·have hr:kf s c d=true:=ab9 aV;exact an (aD X [6,7] rfl (by trivial) (ak (ah rfl (by and_intros<;>first|exact⟨⟩| (rw[Ik hr];rfl;done)| (rw[hr];done)))))
end
section
set_option maxRecDepth 100000
theorem uw(x:aW)(h0:wB x):So 190 [.agg (aN x)] [.a (.sl .bp (bP x)), .a (.sl .dY (iK x))]:=by
 refine av X call190 func190 ntmps190 rfl rfl ?_;intro zb;refine bl 0 1 rfl rfl (fun hl1=> ?_);refine bl 0 2 rfl rfl (fun lg=> ?_);have hsv:=rF h0;refine aq X [1] rfl (aa (aC X [] [(10,⟨false,[aH (okW x)]⟩)] [1,11] [] rfl (by(with_reducible and_intros)<;>first|exact⟨⟩|exact(bQ x)) ?_));refine aj rfl ?_ ?_<;>intro hb0
 ·have hk0:okW x=false:=by simpa using hb0
  exact aq X [2,3] rfl (ak (ah rfl ⟨by rw[bP,if_neg (by rw[hk0];decide)],by rw[iK,if_neg (by rw[hk0];decide)],⟨⟩⟩))
 ·have hk0:okW x=true:=by simpa using hb0
  have aeH:=dV hk0;have W4:=(qK (l5 hk0)).2.1;have hc0:=(col hk0 0 (Nat.zero_le _)).sml;refine an (aC X [] [(14,⟨true,[.a (.sl .bp x.az)]⟩)] [1,4] [] rfl (by(with_reducible and_intros)<;>first|exact⟨⟩|exact(nx x.az (by omega) hc0)) (aD X [1,4,5] rfl (by and_intros<;>first|exact⟨⟩|exact rfl) (aa (aq X [1,4,5,18,19] rfl ?_))));refine au (aE (fun k=>k≤x.af.length) (fun k:Nat=> [(19, .one ((aA k)))]) (fun k=> [(14, .arr .bp (vV x k)),(15, .arr .dY (FK x k))]) (fun k=>x.af.length-k) 0 (fun k=>rfl) (Nat.zero_le _) rfl ?_);intro k hk;refine aq X [1,4,5,18,19,20] rfl ?_;refine aa (aj rfl ?_ ?_)<;>intro aV
  ·try simp only[aQ]at aV
   have K5:k<x.af.length:=by omega
   have Yo:(j9 x (k:Int)).length=x.az.length:=by rw[ED hk0 (by omega)];exact jI hk0 (by omega)
   have hw:j9 x (k:Int)=dw x (k:Int):=ED hk0 (by omega);refine an (aa (au (aq X [1,4,5,6,18,19] rfl (aC X [] [(24,⟨true,[.a (.sl .DB (j9 x (k:Int)))]⟩)] [1,4,5,6,18,19,24,25,26] [] rfl (by(with_reducible and_intros)<;>first|exact⟨⟩|exact(xz x (k:Int) (by first|assumption|omega| (simp;done)| (simp;omega)))) ?_))));refine au (aE (fun k1=>k1≤x.az.length) (fun k1:Nat=> [(26, .one ((aA k1)))]) (fun k1=> [(14, .arr .bp (vW x k k1)),(15, .arr .dY (FK x k++FJ x k k1))]) (fun k1=>x.az.length-k1) 0 (fun k1=>rfl) (Nat.zero_le _) (by simp[vW,FJ]) ?_);intro k1 hk1;have hpl:=KG hk0 K5 hk1;refine aq X [1,4,5,6,18,19,24,25,26,27] rfl ?_;refine aa (aj rfl ?_ ?_)<;>intro bI
   ·try simp only[aQ]at bI
    have FN:=KJ hk0 K5 (by omega:k1<x.az.length);have hs1:=GF hk0 K5 (by omega:k1<x.az.length);have hs2:=Bj x k k1;have hrl:=EG x k;have W5:=zh x k k1;have Jc:k*x.az.length≤8*4:=Nat.mul_le_mul (by omega) (by omega);refine an (aa (au (aD X [1,4,5,6,7,8,18,19,24,25,26] rfl (by and_intros<;>first|exact⟨⟩| (intros;omega)) (aa ?_))));have t1:=(v8 ((vW x k k1).getD k1 (aG .bp)) (k:Int) ((j9 x (k:Int)).getD k1 (aG .DB)) FN.2.1 FN.1 (by rw[hw];exact FN.2.2));refine aF X [] [(40,⟨true,bq t1⟩)] [1,4,5,6,7,8,18,19,24,25,26] [] 8191 1 MO (by kernel_rfl) rfl (by kernel_rfl) (by(with_reducible and_intros)<;>first|exact⟨⟩|exact t1| (intros;omega)) ?_;have t1:=(xB (iT x.bn (k1:Int)) (k1:Int) (k:Int) x.round ((j9 x (k:Int)).getD k1 (aG .DB)) (by rw[hw];exact FN.2.2));refine aF X [(56,15)] [(48,⟨false,[aA (iT x.bn (k1:Int))]⟩),(54,⟨false,bq t1⟩)] [1,4,5,6,18,19,24,25,26] [] 4095 0 MO (by kernel_rfl) rfl (by kernel_rfl) (by(repeat' with_reducible first|exact aR|refine bf ?_ ?_|apply And.intro);(iterate 2 all_goals try first|exact(iB x.bn (k1:Int))|exact t1);all_goals first|exact rfl|exact⟨rfl,bA _ (by decide)⟩| (simp only[dN,maxLen,lens];omega)) ?_;refine bg X [1,4,5,6,18,19,24,25,26] rfl ?_;refine⟨k1+1,by omega,by omega,?_⟩;rw[bh _ k1 rfl (by omega),hw, ←hs1,hs2, ←List.append_assoc];try rfl
   ·try simp only[aQ]at bI
    rw[KI hk0 K5 (by omega),show k1=x.az.length by omega, ←Bk];refine aI (bg X [1,4,5,18,19] rfl ?_);refine⟨k+1,by omega,by omega,?_⟩;rw[bh _ k rfl (by omega)];try rfl
  ·try simp only[aQ]at aV
   exact aI (aq X [2,3] rfl (ak (ah rfl ⟨by rw[bP,if_pos hk0,show x.af.length=k by omega],by rw[iK,if_pos hk0,show x.af.length=k by omega],⟨⟩⟩)))
theorem ux(x:aW)(h0:wB x):So 296 [.agg (aN x)] [.a (.sl .bp (bP x)), .a (.sl .dY (iK x))]:=by
 refine av X call296 func296 ntmps296 rfl rfl ?_;intro zb;refine bl 0 1 rfl rfl (fun hl1=> ?_);refine bl 0 2 rfl rfl (fun lg=> ?_);have hsv:=rF h0;refine aq X [1] rfl (aD X [1,4] rfl (by and_intros<;>first|exact⟨⟩|exact rfl) (aa (aC X [] [(13,⟨false,[aH (okW x)]⟩)] [1,4,14] [] rfl (by(with_reducible and_intros)<;>first|exact⟨⟩|exact(bV x)) ?_)));refine aj rfl ?_ ?_<;>intro hb0
 ·have hk0:okW x=false:=by simpa using hb0
  exact aD X [2,3] rfl (by and_intros<;>first|exact⟨⟩|exact rfl) (ak (ah rfl ⟨by rw[bP,if_neg (by rw[hk0];decide)],by rw[iK,if_neg (by rw[hk0];decide)],⟨⟩⟩))
 ·have hk0:okW x=true:=by simpa using hb0
  have aeH:=dV hk0;have W4:=(qK (l5 hk0)).2.1;have hc0:=(col hk0 0 (Nat.zero_le _)).sml;refine an (aC X [] [(18,⟨true,[.agg (aN x)]⟩)] [1,4,5] [] rfl ⟨⟨_,_,_,Tryz.underlying39,rfl,rfl,Tryz.underlying32,rfl⟩,cR x h0,⟨⟩⟩ (aa (aq X [1,4,5,6] rfl ?_)));refine au (aE (fun k=>k≤x.af.length) (fun k:Nat=> [(6, .one ((aA k)))]) (fun k=> [(19, .arr .bp (vV x k)),(11, .arr .dY (FK x k))]) (fun k=>x.af.length-k) 0 (fun k=>rfl) (Nat.zero_le _) rfl ?_);intro k hk;refine aa (aq X [1,4,5,6,24] rfl ?_);refine aj rfl ?_ ?_<;>intro aV
  ·try simp only[aQ]at aV
   have K5:k<x.af.length:=by omega
   have Yo:(dw x (k:Int)).length=x.az.length:=jI hk0 (by omega);refine an (aa (au (aC X [] [(29,⟨true,[.a (.sl .DB (dw x (k:Int)))]⟩)] [1,4,5,6,7] [] rfl (by(with_reducible and_intros)<;>first|exact⟨⟩|exact(Bh x (k:Int) (by first|assumption|omega| (simp;done)| (simp;omega)) (by first|assumption|omega| (simp;done)| (simp;omega)))) (aq X [1,4,5,6,7,8] rfl ?_))));refine au (aE (fun k1=>k1≤x.az.length) (fun k1:Nat=> [(8, .one ((aA k1)))]) (fun k1=> [(19, .arr .bp (vW x k k1)),(11, .arr .dY (FK x k++FJ x k k1))]) (fun k1=>x.az.length-k1) 0 (fun k1=>rfl) (Nat.zero_le _) (by simp[vW,FJ]) ?_);intro k1 hk1;have hpl:=KG hk0 K5 hk1;refine aa (aq X [1,4,5,6,7,8,33] rfl ?_);refine aj rfl ?_ ?_<;>intro bI
   ·try simp only[aQ]at bI
    rw[hpl]at bI;have FN:=KJ hk0 K5 (by omega:k1<x.az.length);have hs1:=GF hk0 K5 (by omega:k1<x.az.length);have hs2:=Bj x k k1;have hrl:=EG x k;have W5:=zh x k k1;have Jc:k*x.az.length≤8*4:=Nat.mul_le_mul (by omega) (by omega);refine an (aa (au (aa ?_)));have t1:=(we ((vW x k k1).getD k1 (aG .bp)) (k:Int) ((dw x (k:Int)).getD k1 (aG .DB)) FN.2.1 FN.1 FN.2.2);refine aF X [] [(46,⟨true,bq t1⟩)] [1,4,5,6,7,8,9] [] 49151 1 MO (by kernel_rfl) rfl (by kernel_rfl) (by(with_reducible and_intros)<;>first|exact⟨⟩|exact t1| (intros;omega)) (aD X [1,4,5,6,7,8] rfl (by and_intros<;>first|exact⟨⟩| (intros;omega)) ?_);have t1:=(xC (iT x.bn (k1:Int)) (k1:Int) (k:Int) x.round ((dw x (k:Int)).getD k1 (aG .DB)) FN.2.2);refine aF X [(68,11)] [(57,⟨false,[aA (iT x.bn (k1:Int))]⟩),(66,⟨false,bq t1⟩)] [1,4,5,6,7,8] [] 32767 0 MO (by kernel_rfl) rfl (by kernel_rfl) (by(repeat' with_reducible first|exact aR|refine bf ?_ ?_|apply And.intro);(iterate 2 all_goals try first|exact(iC x.bn (k1:Int))|exact t1);all_goals first| (intros;omega)|exact rfl|exact⟨rfl,bA _ (by decide)⟩| (simp only[dN,maxLen,lens];omega)) ?_;refine bg X [1,4,5,6,7,8] rfl ?_;refine⟨k1+1,by omega,by omega,?_⟩;rw[bh _ k1 rfl (by omega), ←hs1,hs2, ←List.append_assoc];try rfl
   ·try simp only[aQ]at bI
    rw[hpl]at bI;rw[KI hk0 K5 (by omega),show k1=x.az.length by omega, ←Bk];refine aI (bg X [1,4,5,6] rfl ?_);refine⟨k+1,by omega,by omega,?_⟩;rw[bh _ k rfl (by omega)];try rfl
  ·try simp only[aQ]at aV
   exact aI (aq X [2,3] rfl (ak (ah rfl ⟨by rw[bP,if_pos hk0,show x.af.length=k by omega],by rw[iK,if_pos hk0,show x.af.length=k by omega],⟨⟩⟩)))
end
end Go.Proofs.YtaalpcnbbldlaaaGreatDoor.G
namespace Go.Proofs.YtaalpcnbbldlaaaGreatDoor.G
set_option linter.all false
open Go.RowKit L D
section
set_option maxRecDepth 100000
def fm{α:Type}(f:Nat→List α)(k:Nat):List α:=(List.range k).flatMap f
theorem fC{α:Type}(f:Nat→List α)(k:Nat):fm f (k+1)=fm f k++f k:=by
 unfold fm;rw[List.range_succ,List.flatMap_append];simp
theorem oB{α:Type}(f:Nat→List α):fm f 0= []:=rfl
theorem xZ{α:Type}{f:Nat→List α}{C K k:Nat}(h: ∀i,(f i).length≤C)(hk:k≤K):(fm f k).length≤K*C:=by
 have: ∀k,(fm f k).length≤k*C:=by
  intro k;induction k with
  |zero=>simp[fm]
  |succ k ih=>rw[fC,List.length_append,Nat.add_mul];have:=h k;omega
 exact Nat.le_trans (this k) (Nat.mul_le_mul_right C hk)
def iV(c s r:Int):Bool:=inr c 0 8&&bT s&&inr r 1 64
theorem rq{c s r:Int}(h:iV c s r=true):(0≤c∧c≤8)∧(2≤s∧s≤4)∧1≤r∧r≤64:=by
 simp only[iV,bT,Bool.and_eq_true,b7]at h;omega
def iL(r:Int):Int:=if 1≤r∧r≤64 then r*24 else 0
def jc(r:Int):Int:=if 1≤r∧r≤64 then 1+(r+7)/8 else 0
def FP(r:Int)(a:Nat)(k:Nat):List eZ:= [⟨(a:Int),100+(k:Int),iL r⟩]
def wT(c s r:Int):List eZ:=if iV c s r then fm (fun a=>fm (FP r a) s.toNat) c.toNat else []
def Af(r:Int)(a:Nat)(b:Nat):List eZ:=if a=b then []else [⟨100+(a:Int),100+(b:Int),iL r⟩]
def pT(s r:Int):List eZ:=if iV 0 s r then fm (fun a=>fm (Af r a) s.toNat) s.toNat else []
def UP(r:Int)(a:Nat)(k:Nat):List eZ:= [⟨(a:Int),100+(k:Int),jc r⟩,⟨100+(k:Int),(a:Int),24⟩]
def gY(s r:Int)(a:Nat)(_:Nat):List eZ:=fm (UP r a) s.toNat
def Pd(c s r n:Int):Bool:=iV c s r&&inr n 0 8
def rT(c s r n:Int):List eZ:=if Pd c s r n then fm (fun a=>fm (gY s r a) (2*n).toNat) c.toNat else []
theorem Ng{r s:Int}(hs:s≤4)(a:Nat){k:Nat}(hk:k≤s.toNat):(fm (FP r a) k).length≤4:=xZ (C:=1) (K:=4) (fun i=>by simp[FP]) (by omega)
theorem Nh{r s:Int}(hs:s≤4){k:Nat}(hk:k≤8):(fm (fun a=>fm (FP r a) s.toNat) k).length≤32:=xZ (C:=4) (K:=8) (fun i=>Ng hs i (Nat.le_refl _)) hk
theorem Ni{r s:Int}(hs:s≤4)(a:Nat){k:Nat}(hk:k≤s.toNat):(fm (Af r a) k).length≤4:=xZ (C:=1) (K:=4) (fun i=>by unfold Af;split<;>simp) (by omega)
theorem Nj{r s:Int}(hs:s≤4){k:Nat}(hk:k≤s.toNat):(fm (fun a=>fm (Af r a) s.toNat) k).length≤16:=xZ (C:=4) (K:=4) (fun i=>Ni hs i (Nat.le_refl _)) (by omega)
theorem Nk{r s:Int}(hs:s≤4)(a:Nat){k:Nat}(hk:k≤s.toNat):(fm (UP r a) k).length≤8:=xZ (C:=2) (K:=4) (fun i=>by simp[UP]) (by omega)
theorem Nl{r s:Int}(hs:s≤4)(a:Nat){k:Nat}(hk:k≤16):(fm (gY s r a) k).length≤128:=xZ (C:=8) (K:=16) (fun i=>Nk hs a (Nat.le_refl _)) hk
theorem Nn{r s n:Int}(hs:s≤4)(hn:n≤8){k:Nat}(hk:k≤8):(fm (fun a=>fm (gY s r a) (2*n).toNat) k).length≤1024:=xZ (C:=128) (K:=8) (fun i=>Nl hs i (by omega)) hk
theorem UQ(c s r:Int):(wT c s r).length≤32:=by
 unfold wT;split
 ·rename_i h;have:=rq h;exact Nh (by omega) (by omega)
 ·simp
theorem UR(s r:Int):(pT s r).length≤16:=by
 unfold pT;split
 ·rename_i h;have:=rq h;exact Nj (by omega) (Nat.le_refl _)
 ·simp
theorem US(c s r n:Int):(rT c s r n).length≤1024:=by
 unfold rT;split
 ·rename_i h;simp only[Pd,Bool.and_eq_true,b7]at h;have:=rq h.1;exact Nn (by omega) (by omega) (by omega)
 ·simp
theorem Lu{E R:Bool}(h:E=true)(he:E=R):R=true:=by rw[←he];exact h
theorem Pe{E R:Bool}(h:E=false)(he:E=R):R=false:=by rw[←he];exact h
theorem YD{c s r n:Int}(h:Pd c s r n=true):iV c s r=true:=by simp only[Pd,Bool.and_eq_true]at h;exact h.1
theorem YE{c s r n:Int}(h:Pd c s r n=true):0≤n∧n≤8:=by simp only[Pd,Bool.and_eq_true,b7]at h;exact h.2
theorem Xo{c s r:Int}{k:Nat}(hk:k≤c.toNat)(hks:k=0∨iV c s r=true)(h:(decide ((k:Int)<c)&&iV c s r)=false):fm (fun a=>fm (FP r a) s.toNat) k=wT c s r:=by
 unfold wT;cases hs:iV c s r with
 |true=>rw[hs,Bool.and_true,decide_eq_false_iff_not]at h;rw[if_pos rfl,show k=c.toNat by omega]
 |false=>
  rw[hs]at hks;have:k=0:=by simpa using hks
  subst this;rfl
theorem Xp{s r:Int}{k:Nat}(hk:k≤s.toNat)(hks:k=0∨iV 0 s r=true)(h:(decide ((k:Int)<s)&&iV 0 s r)=false):fm (fun a=>fm (Af r a) s.toNat) k=pT s r:=by
 unfold pT;cases hs:iV 0 s r with
 |true=>rw[hs,Bool.and_true,decide_eq_false_iff_not]at h;rw[if_pos rfl,show k=s.toNat by omega]
 |false=>
  rw[hs]at hks;have:k=0:=by simpa using hks
  subst this;rfl
def BJ(x:aW):List eZ:=wT x.af.length x.az.length x.rows++pT x.az.length x.rows++rT x.af.length x.az.length x.rows 1
theorem Xq{r:Int}(h:1≤r∧r≤64):IntKind.i64.wrap (1+IntKind.i64.wrap ((IntKind.i64.wrap (r+7)).tdiv 8))=jc r:=by
 unfold jc;rw[if_pos h,bO (a:=r+7) (by omega),mR (by omega),bO (a:=(r+7)/8) (by omega),bO (by omega)]
def Pf(a:Int):Int:=(a+7)/8
end
end Go.Proofs.YtaalpcnbbldlaaaGreatDoor.G
namespace Go.Proofs.YtaalpcnbbldlaaaGreatDoor.G
set_option linter.all false
open Go.RowKit L D Tryz
section
set_option maxRecDepth 100000
theorem U5(w:World)(n:Nat)(h1:n≤1099511627776):Calls Tryz.prog 199 #[DE, .int .i64 n] w (PS ty w [.a (.sl .eZ [])]):=by
 have rD:El Tryz.prog ty .eZ:=bA _ (by decide);cases hq:Tryz.prog.info? (ty .eZ)with
 |none=>simp[El,hq]at rD
 |some inf=>
  simp[El,hq]at rD;obtain⟨z1,z2,z3⟩:=rD;by_cases h0:n=0
  ·subst h0
   go_enter func199,ntmps199
   go_wp2
   go_ret
   exact N8
  ·have hsz:inf.size=3:=z2;have hby:inf.bytes≤24:=by rw[z3];decide
   have hmul:n*inf.bytes≤26388279066624:=Nat.le_trans (Nat.mul_le_mul (show n≤1099511627776 from h1) hby) (by decide);have hrun:=Lib.run_append_nil_zeros (P:=Tryz.prog) w 78 3 78 (ty .eZ) inf (eT .eZ) .i64 .i64 (X.kind 78).1 (X.kind 3) hq z1 n (by omega) (by omega) (by omega) (by omega);have hge:=grownCap_ge w n 0 (ty .eZ);have Jc:=grownCap_le_maxLen w n 0 (ty .eZ) (by unfold maxLen;omega);generalize grownCap w n 0 (ty .eZ)=g at hrun hge Jc
   go_enter func199,ntmps199
   go_wp2_with (at_builtin;refine Lib.wpList_append_run _ rfl _ _ _ _ rfl _ _ rfl rfl _ _ hrun ?_)
   go_ret
   refine J6 (t:= .eZ) rfl ((Below.refl _ _).drew.alloc (Nat.le_refl _) _) (kI rfl) ?_ Jc;rw[Array.size_append,size_zeroCells,size_zeroCells, ←Nat.add_mul,show n+(g-n)=g by omega];all_goals first
    |rfl
    | (rename_i heq;injection heq with heq;subst heq;rfl)
    | (rename_i heq;exact absurd rfl (heq _))
theorem gw(n:Nat)(h1:n≤1099511627776):So 199 [.a (.lit DE), .a (.lit (.int .i64 n))] [.a (.sl .eZ [])]:=by
 refine⟨fun args w=>call199 args w,fun w us _ ha=> ?_⟩;match us,ha with
 | [u1,u2],⟨⟨_,e1⟩,⟨_,e2⟩,_⟩=>
   obtain⟨e1,_⟩:=e1;obtain⟨e2,_⟩:=e2;rw[e1,e2];exact U5 w n h1
end
end Go.Proofs.YtaalpcnbbldlaaaGreatDoor.G
