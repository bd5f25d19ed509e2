/-
  Draws: a cursor, new worlds, worlds that are played.
-/
import Derived.Lib.AppendZeros
import Derived.Test.YtcnomgcfijjkmaaGreatR10
namespace Go.Proofs.YtcnomgcfijjkmaaGreat.G
set_option linter.all false
open Go.RowKit L D Tryz
section
set_option maxRecDepth 100000
theorem Mg{w w':World}{t:Tag}{g n:Nat}{c:Array Value}(hg:g=w.heap.size)(hb:Below w.heap.size w w')(hc:w'.heap[g]? =some (.cells c (ty t) (0,0)))(hs:c.size=n*kk t)(hn:n≤maxLen):
  US ty w [.a (.sl t [])] (.returned (.slice (some ⟨g,0,none⟩) 0 n)) w':=by
 have hown:Own w.heap.size w' (g::([]:List (List Nat)).flatten):=⟨by simp,fun b AF=>by simp at AF;omega,fun b AF=>by simp at AF;subst AF;exact⟨_,_,hc⟩⟩
 have hB:=gD (cF t) (l:=([]:List (T t))) (aO:= []) (o:=0) (n:=n) hc (by omega) (Nat.zero_le _) hn ⟨rfl,by simp⟩ hown
 exact⟨_,_,rfl,hb,hown,_,[],hB,rfl,by simp⟩
theorem PU{w:World}{t:Tag}:US ty w [.a (.sl t [])] (.returned B7) w:=by
 refine⟨_,[],rfl,Below.refl _ _,Own.nil _ _,[],[],⟨[],[],?_,rfl,by simp,rfl,Own.nil _ _⟩,rfl,rfl⟩
 exact⟨by simp,Or.inl ⟨rfl,rfl⟩⟩
theorem Mh(w:World)(n:Nat)(h1:n≤1099511627776):Calls Tryz.prog 258 #[B7, .int .i64 n] w (US ty w [.a (.sl .int [])]):=by
 have oB:El Tryz.prog ty .int:=aV _ (by decide)
 cases hq:Tryz.prog.info? (ty .int)with
 |none=>simp[El,hq]at oB
 |some inf=>
  simp[El,hq]at oB
  obtain⟨z1,z2,z3⟩:=oB
  by_cases h0:n=0
  ·subst h0
   go_enter func258,ntmps258
   go_wp2
   go_ret
   exact PU
  ·have hsz:inf.size=1:=z2
   have hby:inf.bytes≤8:=by rw[z3];decide
   have hmul:n*inf.bytes≤8796093022208:=Nat.le_trans (Nat.mul_le_mul (show n≤1099511627776 from h1) hby) (by decide)
   have hrun:=Lib.run_append_nil_zeros (P:=Tryz.prog) w 29 3 29 (ty .int) inf (dN .int) .i64 .i64 (X.kind 29).1 (X.kind 3) hq z1 n (by omega) (by omega) (by omega) (by omega)
   have hge:=grownCap_ge w n 0 (ty .int)
   have KW:=grownCap_le_maxLen w n 0 (ty .int) (by unfold maxLen;omega)
   generalize grownCap w n 0 (ty .int)=g at hrun hge KW
   go_enter func258,ntmps258
   go_wp2_with (at_builtin;refine Lib.wpList_append_run _ rfl _ _ _ _ rfl _ _ rfl rfl _ _ hrun ?_)
   go_ret
   refine Mg (t:= .int) rfl ((Below.refl _ _).drew.alloc (Nat.le_refl _) _) (lU rfl) ?_ KW
   rw[Array.size_append,size_zeroCells,size_zeroCells, ←Nat.add_mul,show n+(g-n)=g by omega]
   rfl
theorem nO(n:Nat)(h1:n≤1099511627776):So 258 [.a (.lit B7), .a (.lit (.int .i64 n))] [.a (.sl .int [])]:=by
 refine⟨fun args w=>call258 args w,fun w us _ ha=> ?_⟩
 match us,ha with
 | [u1,u2],⟨⟨_,e1⟩,⟨_,e2⟩,_⟩=>
   obtain⟨e1,_⟩:=e1
   obtain⟨e2,_⟩:=e2
   rw[e1,e2]
   exact Mh w n h1
end
section
set_option maxRecDepth 100000
theorem aU(x lo hi:Int):So 59 [aB x,aB lo,aB hi] [aF (inr x lo hi)]:=by
 refine av X call59 func59 ntmps59 rfl rfl ?_
 intro zb
 exact au X [0,1,2] rfl (au X [6] rfl (ak (ah rfl ⟨rfl,⟨⟩⟩)))
theorem aJ(x lo hi:Int):So 48 [aB x,aB lo,aB hi] [aF (inr x lo hi)]:=by
 refine av X call48 func48 ntmps48 rfl rfl ?_
 intro zb
 exact au X [0,1,2] rfl (au X [6] rfl (ak (ah rfl ⟨rfl,⟨⟩⟩)))
theorem Gg(p q:Int)(h1:1≤q)(h2:q≤1000000000000):So 257 [aB p,aB q] [aB (p % q)]:=by
 refine av X call257 func257 ntmps257 rfl rfl ?_
 intro zb
 refine au X [0,1] rfl (af (aD X [] [(6,⟨false,[aF _]⟩)] [0,1,7] [] rfl (by(with_reducible and_intros)<;>first|exact⟨⟩|exact(aU _ _ _)) ?_))
 refine an rfl ?_ ?_<;>intro hb0
 ·try simp only[aX]at hb0
  omega
 ·try simp only[aX]at hb0
  exact aq (aH X [4] rfl (by and_intros<;>first|exact⟨⟩| (intros;omega)) (ak (ah rfl ⟨by rw[md_eq p q h1 h2],⟨⟩⟩)))
theorem Ek(l:List Int)(hl:l.length≤16777216):So 199 [.a (.sl .int l)] [aB (hsh l)]:=by
 refine av X call199 func199 ntmps199 rfl rfl ?_
 intro zb
 refine au X [0] rfl (au X [0,3] rfl (af (au X [3,6,7,8] rfl ?_)))
 refine ay (aG (fun k=>k≤l.length) (fun k:Nat=> [(3, .one ((aB (hsh (l.take k))))),(8, .one ((aB k)))]) (fun k=> []) (fun k=>l.length-k) 0 (fun k=>rfl) (Nat.zero_le _) rfl ?_)
 intro k hk
 refine au X [3,6,7,8,9] rfl ?_
 refine af (an rfl ?_ ?_)<;>intro hb0
 ·try simp only[aX]at hb0
  have hs:=Eg l k hb0
  refine aq (af (ay (aH X [3,5,6,7,8] rfl (by and_intros<;>first|exact⟨⟩| (intros;omega)) (aP X [] [(15,⟨false,[aB _]⟩)] [3,6,7,8] [] rfl (by(with_reducible and_intros)<;>first|exact⟨⟩|exact(Gg _ _ (by first|assumption|omega| (simp;done)| (simp;omega)) (by first|assumption|omega| (simp;done)| (simp;omega)))| (intros;omega)) (bF X [3,6,7,8] rfl ?_)))))
  refine⟨k+1,by omega,by omega,?_⟩
  rw[bK _ k rfl (by omega),hs]
  try rfl
 ·try simp only[aX]at hb0
  exact aI (au X [2] rfl (ak (ah rfl ⟨by rw[List.take_of_length_le hb0],⟨⟩⟩)))
theorem zl(p q:Int)(h1:1≤q)(h2:q≤1000000000000):So 286 [aB p,aB q] [aB (p % q)]:=by
 refine av X call286 func286 ntmps286 rfl rfl ?_
 intro zb
 refine au X [0,1] rfl (af (aD X [] [(6,⟨false,[aF _]⟩)] [0,1,7] [] rfl (by(with_reducible and_intros)<;>first|exact⟨⟩|exact(aJ _ _ _)) ?_))
 refine an rfl ?_ ?_<;>intro hb0
 ·try simp only[aX]at hb0
  omega
 ·try simp only[aX]at hb0
  exact aq (aH X [4] rfl (by and_intros<;>first|exact⟨⟩| (intros;omega)) (ak (ah rfl ⟨by rw[md_eq p q h1 h2],⟨⟩⟩)))
theorem oP(l:List Int)(hl:l.length≤16777216):So 228 [.a (.sl .int l)] [aB (hsh l)]:=by
 refine av X call228 func228 ntmps228 rfl rfl ?_
 intro zb
 refine au X [0] rfl (au X [0,3] rfl (af (au X [0,3,4] rfl ?_)))
 refine ay (aG (fun k=>k≤l.length) (fun k:Nat=> [(3, .one ((aB (hsh (l.take k))))),(4, .one ((aB k)))]) (fun k=> []) (fun k=>l.length-k) 0 (fun k=>rfl) (Nat.zero_le _) rfl ?_)
 intro k hk
 refine af (au X [0,3,4,8] rfl ?_)
 refine an rfl ?_ ?_<;>intro hb0
 ·try simp only[aX]at hb0
  have hs:=Eg l k hb0
  refine aq (af (ay (aP X [] [(17,⟨false,[aB _]⟩)] [0,3,4] [] rfl (by(with_reducible and_intros)<;>first|exact⟨⟩|exact(zl _ _ (by first|assumption|omega| (simp;done)| (simp;omega)) (by first|assumption|omega| (simp;done)| (simp;omega)))| (intros;omega)) (bF X [0,3,4] rfl ?_))))
  refine⟨k+1,by omega,by omega,?_⟩
  rw[bK _ k rfl (by omega),hs]
  try rfl
 ·try simp only[aX]at hb0
  exact aI (au X [2] rfl (ak (ah rfl ⟨by rw[List.take_of_length_le hb0],⟨⟩⟩)))
theorem l9(l:List (List Int))(hl:l.length≤1048576)(hs0:(l.map List.length).sum≤1099511627776):So 200 [.a (.sl (.sl .int) l)] [.a (.sl .int l.flatten)]:=by
 refine av X call200 func200 ntmps200 rfl rfl ?_
 intro zb
 refine au X [0] rfl (au X [0,3] rfl (af (au X [0,3,9,10,11] rfl ?_)))
 refine ay (aG (fun k=>k≤l.length) (fun k:Nat=> [(3, .one ((aB ((l.take k).map List.length).sum))),(11, .one ((aB k)))]) (fun k=> []) (fun k=>l.length-k) 0 (fun k=>rfl) (Nat.zero_le _) rfl ?_)
 intro k hk
 have hle:=iP l List.length k
 refine au X [0,3,9,10,11,12] rfl ?_
 refine af (an rfl ?_ ?_)<;>intro hb0
 ·try simp only[aX]at hb0
  have hs:=Eh l (aA (.sl .int)) k hb0
  have Ti:=iP l List.length (k+1)
  rw[hs]at Ti
  refine aq (af (ay (aH X [0,3,5,9,10,11] rfl (by and_intros<;>first|exact⟨⟩| (intros;omega)) (aH X [0,3,9,10,11] rfl (by trivial) (au X [0,3,9,10,11,20] rfl ?_)))))
  refine an rfl ?_ ?_<;>intro bz
  ·try simp only[aX]at bz
   rw[bp (by omega)]at bz
   omega
  ·try simp only[aX]at bz
   refine aq (bF X [0,3,9,10,11] rfl ?_)
   refine⟨k+1,by omega,by omega,?_⟩
   rw[bK _ k rfl (by omega),hs]
   rw[bp (by simp only[Int.toNat_natCast];omega)]
   try rfl
 ·try simp only[aX]at hb0
  rw[List.take_of_length_le hb0]
  refine aI (aD X [] [(24,⟨true,[.a (.sl .int [])]⟩),(300024,⟨true,[]⟩)] [0,6] [] rfl (by(with_reducible and_intros)<;>first|exact⟨⟩|exact(nO _ hs0)) (af (au X [6,25,26,27] rfl ?_)))
  refine ay (aG (fun k1=>k1≤l.length) (fun k1:Nat=> [(27, .one ((aB k1)))]) (fun k1=> [(24, .arr .int (l.take k1).flatten)]) (fun k1=>l.length-k1) 0 (fun k1=>rfl) (Nat.zero_le _) rfl ?_)
  intro k1 hk1
  have Tj:=wk l k1
  refine au X [6,25,26,27,28] rfl ?_
  refine af (an rfl ?_ ?_)<;>intro bW
  ·try simp only[aX]at bW
   have hs1:=CF l (aA (.sl .int)) k1 bW
   have Ti:=wk l (k1+1)
   rw[hs1,List.length_append]at Ti
   refine aq (af (ay (aH X [6,8,25,26,27] rfl (by and_intros<;>first|exact⟨⟩| (intros;omega)) (aP X [(33,24)] [] [6,25,26,27] [] rfl (by and_intros<;>first|exact⟨⟩|exact rfl| (simp only[dB,maxLen,lens];omega)) (bF X [6,25,26,27] rfl ?_)))))
   refine⟨k1+1,by omega,by omega,?_⟩
   rw[bK _ k1 rfl (by omega),hs1]
   try rfl
  ·try simp only[aX]at bW
   exact aI (au X [2] rfl (ak (ah rfl ⟨by rw[List.take_of_length_le bW],⟨⟩⟩)))
theorem cT(k:Int)(l:List Int)(hl:l.length≤1048576):So 123 [aB k, .a (.sl .int l)] [aB (kh k l)]:=by
 refine av X call123 func123 ntmps123 rfl rfl ?_
 intro zb
 refine au X [0,1] rfl (aD X [] [(11,⟨true,[.a (.sl .int [[k],l,[k]].flatten)]⟩),(12,⟨false,[aB (hsh [[k],l,[k]].flatten)]⟩)] [4] [] rfl (by(repeat' with_reducible first|exact aL|refine aT ?_ ?_|apply And.intro);(iterate 2 all_goals try first|exact(l9 _ (by simp) (by simp;omega))|exact(Ek _ (by simp;omega)));all_goals first|exact rfl|exact⟨rfl,aV _ (by decide)⟩) ?_)
 exact ak (ah rfl ⟨rfl,⟨⟩⟩)
theorem aW(k:Int)(l:List Int)(hl:l.length≤1048576):So 166 [aB k, .a (.sl .int l)] [aB (kh k l)]:=by
 refine av X call166 func166 ntmps166 rfl rfl ?_
 intro zb
 refine au X [0,1] rfl (aD X [(8,6),(11,6)] [(12,⟨false,[aB (hsh ([k]++l++ [k]))]⟩)] [4] [] rfl (by(repeat' with_reducible first|exact aL|refine aT ?_ ?_|apply And.intro)<;>first|exact(oP _ (by simp;omega))|exact rfl|exact⟨rfl,aV _ (by decide)⟩| (simp only[dB,maxLen,lens];omega)) ?_)
 exact ak (ah rfl ⟨rfl,⟨⟩⟩)
theorem tH(n:Int):So 189 [aB n] [aB (Aw n)]:=by
 refine av X call189 func189 ntmps189 rfl rfl ?_
 intro zb
 refine au X [0] rfl (af (au X [0,4] rfl ?_))
 refine an rfl ?_ ?_<;>intro hb0
 ·try simp only[aX]at hb0
  exact au X [2] rfl (ak (ah rfl ⟨by rw[Aw,if_pos hb0],⟨⟩⟩))
 ·try simp only[aX]at hb0
  exact aq (au X [2] rfl (ak (ah rfl ⟨by rw[Aw,if_neg (by simpa using hb0)],⟨⟩⟩)))
theorem j6(a b:Int):So 234 [aB a,aB b] [aB (if b>a then b else a)]:=by
 refine av X call234 func234 ntmps234 rfl rfl ?_
 intro zb
 refine au X [0,1] rfl (af (au X [0,1,7] rfl ?_))
 refine an rfl ?_ ?_<;>intro hb0
 ·try simp only[aX]at hb0
  exact au X [4] rfl (ak (ah rfl ⟨by rw[if_pos (by omega)],⟨⟩⟩))
 ·try simp only[aX]at hb0
  exact aq (au X [4] rfl (ak (ah rfl ⟨by rw[if_neg (by omega)],⟨⟩⟩)))
theorem mg(s k:Int):So 161 [aB s,aB k] [aB (cs s k)]:=by
 refine av X call161 func161 ntmps161 rfl rfl ?_
 intro zb
 refine au X [0,1] rfl (aD X [] [(9,⟨false,[aB _]⟩)] [5] [] rfl (by(repeat' with_reducible first|exact aL|refine aT ?_ ?_|apply And.intro)<;>first|exact(cT _ _ (by first|assumption|omega| (simp;done)| (simp;omega)))|exact⟨rfl,aV _ (by decide)⟩) ?_)
 exact aH X [4] rfl (by and_intros<;>first|exact⟨⟩| (intros;omega)) (ak (ah rfl ⟨by rw[cs_eq (cP _ _).1 (cP _ _).2];rfl,⟨⟩⟩))
theorem rH(s n:Int)(h0:0≤n)(h1:n≤400):So 224 [aB s,aB n] [.a (.sl .u8 (stream s n.toNat))]:=by
 refine av X call224 func224 ntmps224 rfl rfl ?_
 intro zb
 refine au X [0,1] rfl (af (aD X [] [(8,⟨false,[aF _]⟩)] [0,1,9] [] rfl (by(with_reducible and_intros)<;>first|exact⟨⟩|exact(aU _ _ _)) ?_))
 refine an rfl ?_ ?_<;>intro hb0
 ·try simp only[aX]at hb0
  omega
 ·try simp only[aX]at hb0
  refine aq (aH X [0,1,5] rfl (by and_intros<;>first|exact⟨⟩|exact rfl) (af (au X [0,5,11,12] rfl ?_)))
  refine ay (aG (fun k=>k≤n.toNat) (fun k:Nat=> [(12, .one ((aB k)))]) (fun k=> [(10, .arr .u8 (stream s k))]) (fun k=>n.toNat-k) 0 (fun k=>rfl) (Nat.zero_le _) rfl ?_)
  intro k hk
  have hle:=dO s k
  refine au X [0,5,11,12,13] rfl ?_
  refine af (an rfl ?_ ?_)<;>intro bz
  ·try simp only[aX]at bz
   have hs:=wj s k (by omega)
   refine aq (af (ay (au X [0,5,6,11,12] rfl (aP X [(23,10)] [(19,⟨false,[aB _]⟩)] [0,5,11,12] [] rfl (by(repeat' with_reducible first|exact aL|refine aT ?_ ?_|apply And.intro)<;>first|exact(mg _ _)| (intros;omega)|exact rfl|exact⟨rfl,aV _ (by decide)⟩|exact(gd _).1|exact(gd _).2| (simp only[dB,maxLen,lens];omega)) ?_))))
   refine bF X [0,5,11,12] rfl ?_
   refine⟨k+1,by omega,by omega,?_⟩
   rw[bK _ k rfl (by omega),hs]
   try rfl
  ·try simp only[aX]at bz
   exact aI (au X [4] rfl (ak (ah rfl ⟨by rw[show k=n.toNat by omega],⟨⟩⟩)))
theorem iD(s k:Int):So 165 [aB s,aB k] [aB (cs s k)]:=by
 refine av X call165 func165 ntmps165 rfl rfl ?_
 intro zb
 refine au X [0,1] rfl (aD X [] [(9,⟨false,[aB _]⟩)] [5] [] rfl (by(repeat' with_reducible first|exact aL|refine aT ?_ ?_|apply And.intro)<;>first|exact(aW _ _ (by first|assumption|omega| (simp;done)| (simp;omega)))|exact⟨rfl,aV _ (by decide)⟩) ?_)
 exact aH X [4] rfl (by and_intros<;>first|exact⟨⟩| (intros;omega)) (ak (ah rfl ⟨by rw[cs_eq (cP _ _).1 (cP _ _).2];rfl,⟨⟩⟩))
theorem gy(s n:Int)(h0:0≤n)(h1:n≤400):So 230 [aB s,aB n] [.a (.sl .u8 (stream s n.toNat))]:=by
 refine av X call230 func230 ntmps230 rfl rfl ?_
 intro zb
 refine au X [0,1] rfl (aH X [0,1,5] rfl (by and_intros<;>first|exact⟨⟩|exact rfl) (af (au X [0,1,5,6] rfl ?_)))
 refine ay (aG (fun k=>k≤n.toNat) (fun k:Nat=> [(6, .one ((aB k)))]) (fun k=> [(7, .arr .u8 (stream s k))]) (fun k=>n.toNat-k) 0 (fun k=>rfl) (Nat.zero_le _) rfl ?_)
 intro k hk
 have hle:=dO s k
 refine af (au X [0,1,5,6,14] rfl ?_)
 refine an rfl ?_ ?_<;>intro hb0
 ·try simp only[aX]at hb0
  have hs:=wj s k (by omega)
  refine aq (af (ay (aP X [(25,7)] [(21,⟨false,[aB _]⟩)] [0,1,5,6] [] rfl (by(repeat' with_reducible first|exact aL|refine aT ?_ ?_|apply And.intro)<;>first|exact(iD _ _)| (intros;omega)|exact rfl|exact⟨rfl,aV _ (by decide)⟩|exact(gd _).1|exact(gd _).2| (simp only[dB,maxLen,lens];omega)) ?_)))
  refine bF X [0,1,5,6] rfl ?_
  refine⟨k+1,by omega,by omega,?_⟩
  rw[bK _ k rfl (by omega),hs]
  try rfl
 ·try simp only[aX]at hb0
  exact aI (au X [4] rfl (ak (ah rfl ⟨by rw[show k=n.toNat by omega],⟨⟩⟩)))
theorem j7(l:List UInt8)(hl:l.length≤1048576):So 332 [.a (.sl .u8 l)] [.a (.sl .int (Gf l))]:=by
 refine av X call332 func332 ntmps332 rfl rfl ?_
 intro zb
 refine au X [0] rfl (aH X [0,3] rfl (by and_intros<;>first|exact⟨⟩|exact rfl) (af (au X [0,3,4] rfl ?_)))
 refine ay (aG (fun k=>k≤l.length) (fun k:Nat=> [(4, .one ((aB k)))]) (fun k=> [(7, .arr .int ((l.length:Int)::(l.take k).map (fun c=>(c.toNat:Int))))]) (fun k=>l.length-k) 0 (fun k=>rfl) (Nat.zero_le _) rfl ?_)
 intro k hk
 refine af (au X [0,3,4,11] rfl ?_)
 refine an rfl ?_ ?_<;>intro hb0
 ·try simp only[aX]at hb0
  have hs:=Mf l k hb0
  refine aq (af (ay (aP X [(21,7)] [] [0,3,4] [] rfl (by and_intros<;>first|exact⟨⟩| (intros;omega)|exact rfl| (simp only[dB,maxLen,lens];omega)) (bF X [0,3,4] rfl ?_))))
  refine⟨k+1,by omega,by omega,?_⟩
  rw[bK _ k rfl (by omega),hs]
  try rfl
 ·try simp only[aX]at hb0
  exact aI (au X [2] rfl (ak (ah rfl ⟨by rw[List.take_of_length_le hb0];rfl,⟨⟩⟩)))
end
section
set_option maxRecDepth 100000
theorem gh(l:List UInt8)(hl:l.length≤1048576):So 160 [.a (.sl .u8 l)] [.a (.sl .u8 l)]:=by
 refine av X call160 func160 ntmps160 rfl rfl ?_
 intro zb
 refine au X [0] rfl (af (af (Mj X [] [] [0,4] rfl (by trivial) (fun hn1=> ?_) ?_)))
 ·refine an rfl (fun _=> ?_) (fun hb=>absurd hb (by decide))
  exact au X [2] rfl (ak (ah rfl ⟨hn1,⟨⟩⟩))
 ·exact an rfl (fun hb=>absurd hb (by decide)) (fun _=>(aq (aD X [(7,5)] [] [2] [] rfl (by and_intros<;>first|exact⟨⟩|exact rfl| (simp only[dB,maxLen,lens];omega)) (ak (ah rfl ⟨rfl,⟨⟩⟩)))))
theorem gm(a b:List UInt8)(ha:a.length≤1048576)(hb:b.length≤1048576):So 327 [.a (.sl .u8 a), .a (.sl .u8 b)] [.a (.sl .u8 (gx a b))]:=by
 refine av X call327 func327 ntmps327 rfl rfl ?_
 intro zb
 refine au X [0,1] rfl (aH X [0,1,5] rfl (by and_intros<;>first|exact⟨⟩|exact rfl) (af (au X [0,1,5,6] rfl ?_)))
 refine ay (aG (fun k=>k≤max a.length b.length) (fun k:Nat=> [(6, .one ((aB k)))]) (fun k=> [(8, .arr .u8 ((gx a b).take k))]) (fun k=>max a.length b.length-k) 0 (fun k=>rfl) (Nat.zero_le _) rfl ?_)
 intro k hk
 have hle:=bJ (gx a b) k
 refine af (au X [0,1,5,6,18] rfl ?_)
 refine an rfl ?_ ?_<;>intro hb0
 ·try simp only[aX]at hb0
  refine aq (af (ay (au X [0,1,5,6,7] rfl (af (au X [0,1,5,6,7,24] rfl ?_)))))
  refine an rfl ?_ ?_<;>intro bz
  ·try simp only[aX]at bz
   refine l7 X [0,1,5,6,7] rfl (by and_intros<;>first|exact⟨⟩| (intros;omega)) (af (au X [0,1,5,6,7,32] rfl ?_))
   refine an rfl ?_ ?_<;>intro bW
   ·try simp only[aX]at bW
    have hs:=Tk a b k bz bW
    refine l7 X [0,1,5,6,7] rfl (by and_intros<;>first|exact⟨⟩| (intros;omega)) (aP X [(42,8)] [] [0,1,5,6] [] rfl (by and_intros<;>first|exact⟨⟩|exact rfl|exact(gd _).1|exact(gd _).2| (simp only[dB,maxLen,lens];omega)) (bF X [0,1,5,6] rfl ?_))
    refine⟨k+1,by omega,by omega,?_⟩
    rw[bK _ k rfl (by omega),hs]
    try rfl
   ·try simp only[aX]at bW
    have hs:=VN a b k bz bW
    refine aq (aP X [(42,8)] [] [0,1,5,6] [] rfl (by and_intros<;>first|exact⟨⟩| (intros;omega)|exact rfl|exact(nN _).2| (simp only[dB,maxLen,lens];omega)) (bF X [0,1,5,6] rfl ?_))
    refine⟨k+1,by omega,by omega,?_⟩
    rw[bK _ k rfl (by omega),hs]
    try rfl
  ·try simp only[aX]at bz
   refine aq (af (au X [0,1,5,6,7,32] rfl ?_))
   refine an rfl ?_ ?_<;>intro bW
   ·try simp only[aX]at bW
    have hs:=VO a b k bz bW
    refine l7 X [0,1,5,6,7] rfl (by and_intros<;>first|exact⟨⟩| (intros;omega)) (aP X [(42,8)] [] [0,1,5,6] [] rfl (by and_intros<;>first|exact⟨⟩|exact rfl|exact(gd _).1|exact(gd _).2| (simp only[dB,maxLen,lens];omega)) (bF X [0,1,5,6] rfl ?_))
    refine⟨k+1,by omega,by omega,?_⟩
    rw[bK _ k rfl (by omega),hs]
    try rfl
   ·try simp only[aX]at bW
    omega
 ·try simp only[aX]at hb0
  exact aI (au X [4] rfl (ak (ah rfl ⟨by rw[List.take_of_length_le (by rw[eO];omega)],⟨⟩⟩)))
theorem lO(l:List (List UInt8))(hs0:dc List.length l≤1048576):So 264 [.a (.sl (.sl .u8) l)] [.a (.sl (.sl .u8) l)]:=by
 refine av X call264 func264 ntmps264 rfl rfl ?_
 intro zb
 have l5:l.length≤1048576:=cN hs0
 refine au X [0] rfl (aH X [0,3] rfl (by and_intros<;>first|exact⟨⟩|exact rfl) (af (au X [0,3,4] rfl ?_)))
 refine ay (aG (fun k=>k≤l.length) (fun k:Nat=> [(4, .one ((aB k)))]) (fun k=> [(5, .arr (.sl .u8) (l.take k))]) (fun k=>l.length-k) 0 (fun k=>rfl) (Nat.zero_le _) rfl ?_)
 intro k hk
 have hle:=bJ l k
 refine af (au X [0,3,4,9] rfl ?_)
 refine an rfl ?_ ?_<;>intro hb0
 ·try simp only[aX]at hb0
  have hs:=bw l k (aA (.sl .u8)) hb0
  have hel:=Gh hs0 k hb0
  refine aq (af (ay (aP X [(18,13),(20,5)] [] [0,3,4] [] rfl (by and_intros<;>first|exact⟨⟩| (intros;omega)|exact rfl| (simp only[dB,maxLen,lens];omega)) (bF X [0,3,4] rfl ?_))))
  refine⟨k+1,by omega,by omega,?_⟩
  rw[bK _ k rfl (by omega),hs]
  try rfl
 ·try simp only[aX]at hb0
  exact aI (au X [2] rfl (ak (ah rfl ⟨by rw[List.take_of_length_le hb0],⟨⟩⟩)))
theorem zn(s:Int)(l:List UInt8)(hl:l.length≤1048576):So 225 [aB s, .a (.sl .u8 l)] [.a (.sl .u8 (ji s l))]:=by
 refine av X call225 func225 ntmps225 rfl rfl ?_
 intro zb
 refine au X [0,1] rfl (aD X [] [(8,⟨true,[.a (.sl .u8 _)]⟩)] [0,5] [] rfl (by(with_reducible and_intros)<;>first|exact⟨⟩|exact(gh _ (by first|assumption|omega| (simp;done)| (simp;omega)))) (af (au X [0,5,10,11] rfl ?_)))
 refine ay (aG (fun k=>k≤l.length) (fun k:Nat=> [(11, .one ((aB k)))]) (fun k=> [(8, .arr .u8 ((ji s l).take k++l.drop k))]) (fun k=>l.length-k) 0 (fun k=>rfl) (Nat.zero_le _) rfl ?_)
 intro k hk
 have hle:=tG (ji s l) l k (gf s l) hk
 refine au X [0,5,10,11,12] rfl ?_
 refine af (an rfl ?_ ?_)<;>intro hb0
 ·try simp only[aX]at hb0
  have hs:=Jf s l k hb0
  refine aq (af (ay (au X [0,5,6,10,11] rfl (bU X [] [(21,⟨false,[aB _]⟩)] [0,5,10,11] [] 12 MO (by kernel_rfl) rfl (by(repeat' with_reducible first|exact aL|refine aT ?_ ?_|apply And.intro)<;>first|exact(cT _ _ (by first|assumption|omega| (simp;done)| (simp;omega)))| (intros;omega)|exact⟨rfl,aV _ (by decide)⟩|exact(gd _).1|exact(gd _).2) ?_))))
  refine bF X [0,5,10,11] rfl ?_
  refine⟨k+1,by omega,by omega,?_⟩
  rw[bK _ k rfl (by omega),hs]
  try rfl
 ·try simp only[aX]at hb0
  exact aI (au X [4] rfl (ak (ah rfl ⟨by rw[CI _ _ _ (gf s l) hb0],⟨⟩⟩)))
theorem gP(k:Int):So 63 [aB k] [aF (ez k)]:=by
 refine av X call63 func63 ntmps63 rfl rfl ?_
 intro zb
 exact au X [0] rfl (aD X [] [(4,⟨false,[aF _]⟩)] [2] [] rfl (by(with_reducible and_intros)<;>first|exact⟨⟩|exact(aU _ _ _)) (ak (ah rfl ⟨rfl,⟨⟩⟩)))
theorem qE(p:Plain):So 223 [.agg (gB p)] [aF (jB p)]:=by
 refine av X call223 func223 ntmps223 rfl rfl ?_
 intro zb
 exact au X [1] rfl (aD X [] [(5,⟨false,[aF _]⟩)] [2] [] rfl (by(with_reducible and_intros)<;>first|exact⟨⟩|exact(aU _ _ _)) (ak (ah rfl ⟨by unfold jB;cases inr p.kind 0 3<;>rfl,⟨⟩⟩)))
theorem uS(key c:Int)(l:List UInt8)(hl:l.length≤65536):So 285 [aB key,aB c, .a (.sl .u8 l)] [aB (lM key c l)]:=by
 refine av X call285 func285 ntmps285 rfl rfl ?_
 intro zb
 refine au X [0,1,2] rfl (aH X [0,2,7] rfl (by and_intros<;>first|exact⟨⟩|exact rfl) (af (au X [0,7,12,13,14] rfl ?_)))
 refine ay (aG (fun k=>k≤l.length) (fun k:Nat=> [(14, .one ((aB k)))]) (fun k=> [(11, .arr .int ([71,c]++(l.take k).map (fun x=>(x.toNat:Int))))]) (fun k=>l.length-k) 0 (fun k=>rfl) (Nat.zero_le _) rfl ?_)
 intro k hk
 refine au X [0,7,12,13,14,15] rfl ?_
 refine af (an rfl ?_ ?_)<;>intro hb0
 ·try simp only[aX]at hb0
  have hs:=HH l c k hb0
  refine aq (af (ay (aH X [0,7,9,12,13,14] rfl (by and_intros<;>first|exact⟨⟩| (intros;omega)) (aP X [(22,11)] [] [0,7,12,13,14] [] rfl (by and_intros<;>first|exact⟨⟩|exact rfl| (simp only[dB,maxLen,lens];omega)) (bF X [0,7,12,13,14] rfl ?_)))))
  refine⟨k+1,by omega,by omega,?_⟩
  rw[bK _ k rfl (by omega),hs]
  try rfl
 ·try simp only[aX]at hb0
  exact aI (aD X [] [(26,⟨false,[aB _]⟩)] [6] [] rfl (by(with_reducible and_intros)<;>first|exact⟨⟩|exact(cT _ _ (by first|assumption|omega| (simp;done)| (simp;omega)))) (ak (ah rfl ⟨by rw[List.take_of_length_le hb0];rfl,⟨⟩⟩)))
theorem tI(key r d n:Int):So 94 [aB key,aB r,aB d,aB n] [aB (fD key r d n)]:=by
 refine av X call94 func94 ntmps94 rfl rfl ?_
 intro zb
 refine au X [0,1,2,3] rfl (af (aD X [] [(10,⟨false,[aF _]⟩),(14,⟨false,[aF _]⟩)] [0,1,2,3,16] [] rfl (by(with_reducible and_intros)<;>first|exact⟨⟩|exact(aU _ _ _)|exact fun _=>(aU _ _ _)) ?_))
 refine an rfl ?_ ?_<;>intro hb0
 ·try simp only[aX]at hb0
  exact au X [8] rfl (ak (ah rfl ⟨by rw[fD,if_neg (by omega)],⟨⟩⟩))
 ·try simp only[aX]at hb0
  have hcs:=tE (kh key [79,r,d]) 0
  refine aq (aD X [] [(21,⟨false,[aB _]⟩),(22,⟨false,[aB _]⟩)] [8] [] rfl (by(repeat' with_reducible first|exact aL|refine aT ?_ ?_|apply And.intro);(iterate 2 all_goals try first|exact(cT _ _ (by first|assumption|omega| (simp;done)| (simp;omega)))|exact(mg _ _));all_goals first| (intros;omega)|exact⟨rfl,aV _ (by decide)⟩) ?_)
  exact ak (ah rfl ⟨by rw[fD,if_pos (by omega),dj hcs.1],⟨⟩⟩)
theorem zo(s:Int)(l:List UInt8)(hl:l.length≤1048576):So 231 [aB s, .a (.sl .u8 l)] [.a (.sl .u8 (ji s l))]:=by
 refine av X call231 func231 ntmps231 rfl rfl ?_
 intro zb
 refine au X [0,1] rfl (aH X [0,1,5] rfl (by and_intros<;>first|exact⟨⟩|exact rfl) (af (au X [0,1,5,6] rfl ?_)))
 refine ay (aG (fun k=>k≤l.length) (fun k:Nat=> [(6, .one ((aB k)))]) (fun k=> [(7, .arr .u8 ((ji s l).take k))]) (fun k=>l.length-k) 0 (fun k=>rfl) (Nat.zero_le _) rfl ?_)
 intro k hk
 have hle:=bJ (ji s l) k
 refine af (au X [0,1,5,6,11] rfl ?_)
 refine an rfl ?_ ?_<;>intro hb0
 ·try simp only[aX]at hb0
  have hs:=Jg s l k hb0
  refine aq (af (ay (bU X [(29,7)] [(23,⟨false,[aB _]⟩)] [0,1,5,6] [] 15 MO (by kernel_rfl) rfl (by(repeat' with_reducible first|exact aL|refine aT ?_ ?_|apply And.intro)<;>first|exact(aW _ _ (by first|assumption|omega| (simp;done)| (simp;omega)))| (intros;omega)|exact rfl|exact⟨rfl,aV _ (by decide)⟩|exact(gd _).1|exact(gd _).2| (simp only[dB,maxLen,lens];omega)) ?_)))
  refine bF X [0,1,5,6] rfl ?_
  refine⟨k+1,by omega,by omega,?_⟩
  rw[bK _ k rfl (by omega),hs]
  try rfl
 ·try simp only[aX]at hb0
  exact aI (au X [4] rfl (ak (ah rfl ⟨by rw[List.take_of_length_le (by rw[gf];exact hb0)],⟨⟩⟩)))
theorem zq(s:Int)(l:List UInt8)(hl:l.length≤1048576):So 336 [aB s, .a (.sl .u8 l)] [.a (.sl .u8 (decr s l))]:=by
 refine av X call336 func336 ntmps336 rfl rfl ?_
 intro zb
 refine au X [0,1] rfl (aH X [0,1,5] rfl (by and_intros<;>first|exact⟨⟩|exact rfl) (af (au X [0,1,5,6] rfl ?_)))
 refine ay (aG (fun k=>k≤l.length) (fun k:Nat=> [(6, .one ((aB k)))]) (fun k=> [(7, .arr .u8 ((decr s l).take k))]) (fun k=>l.length-k) 0 (fun k=>rfl) (Nat.zero_le _) rfl ?_)
 intro k hk
 have hle:=bJ (decr s l) k
 refine af (au X [0,1,5,6,11] rfl ?_)
 refine an rfl ?_ ?_<;>intro hb0
 ·try simp only[aX]at hb0
  have hs:=Jh s l k hb0
  refine aq (af (ay (bU X [(29,7)] [(23,⟨false,[aB _]⟩),(26,⟨false,[aB _]⟩)] [0,1,5,6] [] 15 MO (by kernel_rfl) rfl (by(repeat' with_reducible first|exact aL|refine aT ?_ ?_|apply And.intro);(iterate 2 all_goals try first|exact(aW _ _ (by first|assumption|omega| (simp;done)| (simp;omega)))|exact(zl _ _ (by first|assumption|omega| (simp;done)| (simp;omega)) (by first|assumption|omega| (simp;done)| (simp;omega))));all_goals first| (intros;omega)|exact rfl|exact⟨rfl,aV _ (by decide)⟩|exact(gd _).1|exact(gd _).2| (simp only[dB,maxLen,lens];omega)) ?_)))
  refine bF X [0,1,5,6] rfl ?_
  refine⟨k+1,by omega,by omega,?_⟩
  rw[bK _ k rfl (by omega),hs]
  try rfl
 ·try simp only[aX]at hb0
  exact aI (au X [4] rfl (ak (ah rfl ⟨by rw[List.take_of_length_le (by rw[zm];exact hb0)],⟨⟩⟩)))
theorem eY(k:Int):So 52 [aB k] [aF (ez k)]:=by
 refine av X call52 func52 ntmps52 rfl rfl ?_
 intro zb
 exact au X [0] rfl (aD X [] [(4,⟨false,[aF _]⟩)] [2] [] rfl (by(with_reducible and_intros)<;>first|exact⟨⟩|exact(aJ _ _ _)) (ak (ah rfl ⟨rfl,⟨⟩⟩)))
theorem qF(p:Plain):So 229 [.agg (gB p)] [aF (jB p)]:=by
 refine av X call229 func229 ntmps229 rfl rfl ?_
 intro zb
 exact au X [1] rfl (aD X [] [(5,⟨false,[aF _]⟩)] [2] [] rfl (by(with_reducible and_intros)<;>first|exact⟨⟩|exact(aJ _ _ _)) (ak (ah rfl ⟨by unfold jB;cases inr p.kind 0 3<;>rfl,⟨⟩⟩)))
theorem mh(key c:Int)(l:List UInt8)(hl:l.length≤65536):So 233 [aB key,aB c, .a (.sl .u8 l)] [aB (lM key c l)]:=by
 refine av X call233 func233 ntmps233 rfl rfl ?_
 intro zb
 refine au X [0,1,2] rfl (aH X [0,2,7] rfl (by and_intros<;>first|exact⟨⟩|exact rfl) (af (au X [0,2,7,8] rfl ?_)))
 refine ay (aG (fun k=>k≤l.length) (fun k:Nat=> [(8, .one ((aB k)))]) (fun k=> [(10, .arr .int ([71,c]++(l.take k).map (fun x=>(x.toNat:Int))))]) (fun k=>l.length-k) 0 (fun k=>rfl) (Nat.zero_le _) rfl ?_)
 intro k hk
 refine af (au X [0,2,7,8,14] rfl ?_)
 refine an rfl ?_ ?_<;>intro hb0
 ·try simp only[aX]at hb0
  have hs:=HH l c k hb0
  refine aq (af (ay (aP X [(24,10)] [] [0,2,7,8] [] rfl (by and_intros<;>first|exact⟨⟩| (intros;omega)|exact rfl| (simp only[dB,maxLen,lens];omega)) (bF X [0,2,7,8] rfl ?_))))
  refine⟨k+1,by omega,by omega,?_⟩
  rw[bK _ k rfl (by omega),hs]
  try rfl
 ·try simp only[aX]at hb0
  exact aI (aD X [] [(27,⟨false,[aB _]⟩)] [6] [] rfl (by(with_reducible and_intros)<;>first|exact⟨⟩|exact(aW _ _ (by first|assumption|omega| (simp;done)| (simp;omega)))) (ak (ah rfl ⟨by rw[List.take_of_length_le hb0];rfl,⟨⟩⟩)))
theorem eZ(key r d n:Int):So 98 [aB key,aB r,aB d,aB n] [aB (fD key r d n)]:=by
 refine av X call98 func98 ntmps98 rfl rfl ?_
 intro zb
 refine au X [0,1,2,3] rfl (af (aD X [] [(10,⟨false,[aF _]⟩),(14,⟨false,[aF _]⟩)] [0,1,2,3,16] [] rfl (by(with_reducible and_intros)<;>first|exact⟨⟩|exact(aJ _ _ _)|exact fun _=>(aJ _ _ _)) ?_))
 refine an rfl ?_ ?_<;>intro hb0
 ·try simp only[aX]at hb0
  exact au X [8] rfl (ak (ah rfl ⟨by rw[fD,if_neg (by omega)],⟨⟩⟩))
 ·try simp only[aX]at hb0
  have hcs:=tE (kh key [79,r,d]) 0
  refine aq (aD X [] [(21,⟨false,[aB _]⟩),(22,⟨false,[aB _]⟩)] [8] [] rfl (by(repeat' with_reducible first|exact aL|refine aT ?_ ?_|apply And.intro);(iterate 2 all_goals try first|exact(aW _ _ (by first|assumption|omega| (simp;done)| (simp;omega)))|exact(iD _ _));all_goals first| (intros;omega)|exact⟨rfl,aV _ (by decide)⟩) ?_)
  exact ak (ah rfl ⟨by rw[fD,if_pos (by omega),dj hcs.1],⟨⟩⟩)
theorem wW(s r n:Int):So 322 [aB s,aB r,aB n] [aB (Eo s r n)]:=by
 refine av X call322 func322 ntmps322 rfl rfl ?_
 intro zb
 refine au X [0,1,2] rfl (af (aD X [] [(8,⟨false,[aF _]⟩)] [0,1,2,9] [] rfl (by(with_reducible and_intros)<;>first|exact⟨⟩|exact(aJ _ _ _)) ?_))
 refine an rfl ?_ ?_<;>intro hb0
 ·try simp only[aX]at hb0
  exact au X [6] rfl (ak (ah rfl ⟨by rw[Eo,if_neg (by omega)],⟨⟩⟩))
 ·try simp only[aX]at hb0
  have hcs:=tE (kh s [157,r]) 0
  refine aq (aD X [] [(13,⟨false,[aB _]⟩),(14,⟨false,[aB _]⟩)] [6] [] rfl (by(repeat' with_reducible first|exact aL|refine aT ?_ ?_|apply And.intro);(iterate 2 all_goals try first|exact(aW _ _ (by first|assumption|omega| (simp;done)| (simp;omega)))|exact(iD _ _));all_goals first| (intros;omega)|exact⟨rfl,aV _ (by decide)⟩) ?_)
  exact ak (ah rfl ⟨by rw[Eo,if_pos (by omega),dj hcs.1],⟨⟩⟩)
theorem uT(s:Int):So 323 [aB s] [.a (.sl .u8 (cover s))]:=by
 refine av X call323 func323 ntmps323 rfl rfl ?_
 intro zb
 refine au X [0] rfl (aD X [] [(5,⟨false,[aB _]⟩),(6,⟨true,[.a (.sl .u8 _)]⟩)] [2] [] rfl (by(repeat' with_reducible first|exact aL|refine aT ?_ ?_|apply And.intro);(iterate 2 all_goals try first|exact(aW _ _ (by first|assumption|omega| (simp;done)| (simp;omega)))|exact(gy _ _ (by first|assumption|omega| (simp;done)| (simp;omega)) (by first|assumption|omega| (simp;done)| (simp;omega))));all_goals first|exact⟨rfl,aV _ (by decide)⟩) ?_)
 exact ak (ah rfl ⟨rfl,⟨⟩⟩)
theorem zu(k c:Int):So 226 [aB k,aB c] [aB (lN k c)]:=by
 refine av X call226 func226 ntmps226 rfl rfl ?_
 intro zb
 refine au X [0,1] rfl (aD X [] [(8,⟨false,[aB _]⟩),(9,⟨false,[aB _]⟩)] [4] [] rfl (by(repeat' with_reducible first|exact aL|refine aT ?_ ?_|apply And.intro);(iterate 2 all_goals try first|exact(cT _ _ (by first|assumption|omega| (simp;done)| (simp;omega)))|exact(tH _));all_goals first|exact⟨rfl,aV _ (by decide)⟩) ?_)
 exact ak (ah rfl ⟨rfl,⟨⟩⟩)
theorem qG(k c:Int):So 164 [aB k,aB c] [aB (rI k c)]:=by
 refine av X call164 func164 ntmps164 rfl rfl ?_
 intro zb
 refine au X [0,1] rfl (aD X [] [(8,⟨false,[aB _]⟩),(9,⟨false,[aB _]⟩)] [4] [] rfl (by(repeat' with_reducible first|exact aL|refine aT ?_ ?_|apply And.intro);(iterate 2 all_goals try first|exact(cT _ _ (by first|assumption|omega| (simp;done)| (simp;omega)))|exact(tH _));all_goals first|exact⟨rfl,aV _ (by decide)⟩) ?_)
 exact ak (ah rfl ⟨rfl,⟨⟩⟩)
theorem mj(k c:Int):So 232 [aB k,aB c] [aB (lN k c)]:=by
 refine av X call232 func232 ntmps232 rfl rfl ?_
 intro zb
 refine au X [0,1] rfl (aD X [] [(8,⟨false,[aB _]⟩),(9,⟨false,[aB _]⟩)] [4] [] rfl (by(repeat' with_reducible first|exact aL|refine aT ?_ ?_|apply And.intro);(iterate 2 all_goals try first|exact(aW _ _ (by first|assumption|omega| (simp;done)| (simp;omega)))|exact(j6 _ _));all_goals first|exact⟨rfl,aV _ (by decide)⟩) ?_)
 exact ak (ah rfl ⟨by rw[xz (cP _ _).1];rfl,⟨⟩⟩)
theorem fX(k c:Int):So 168 [aB k,aB c] [aB (rI k c)]:=by
 refine av X call168 func168 ntmps168 rfl rfl ?_
 intro zb
 refine au X [0,1] rfl (aD X [] [(8,⟨false,[aB _]⟩),(9,⟨false,[aB _]⟩)] [4] [] rfl (by(repeat' with_reducible first|exact aL|refine aT ?_ ?_|apply And.intro);(iterate 2 all_goals try first|exact(aW _ _ (by first|assumption|omega| (simp;done)| (simp;omega)))|exact(j6 _ _));all_goals first|exact⟨rfl,aV _ (by decide)⟩) ?_)
 exact ak (ah rfl ⟨by rw[xz (cP _ _).1];rfl,⟨⟩⟩)
theorem tJ(k c:Int)(l:List UInt8)(hl:l.length≤65536):So 227 [aB k,aB c, .a (.sl .u8 l)] [.a (.sl .u8 (four (lM k c l)))]:=by
 refine av X call227 func227 ntmps227 rfl rfl ?_
 intro zb
 exact au X [0,1,2] rfl (aD X [] [(11,⟨false,[aB _]⟩)] [7] [] rfl (by(with_reducible and_intros)<;>first|exact⟨⟩|exact(uS _ _ _ (by first|assumption|omega| (simp;done)| (simp;omega)))) (aH X [6] rfl (by and_intros<;>first|exact⟨⟩| (intros;omega)|exact rfl|exact(gd _).1|exact(gd _).2) (ak (ah rfl ⟨HI _,⟨⟩⟩))))
end
section
set_option maxRecDepth 100000
theorem jj(l:List (List UInt8))(f:FuncId)(p:(List UInt8)→Bool)(hf: ∀b,So f [.a (.sl .u8 b)] [aF (p b)]):So 263 [.a (.sl (.sl .u8) l), .a (.lit (.func (.func f) #[] #[]))] [aB (fidx p l)]:=by
 refine av X call263 func263 ntmps263 rfl rfl ?_
 intro zb
 refine dD 0 rfl (fun l5=>(au X [0,1] rfl (af (au X [0,1,7,8] rfl ?_))))
 refine ay (aG (fun k=>k≤l.length∧(l.take k).any p=false) (fun k:Nat=> [(8, .one ((aB k)))]) (fun k=> []) (fun k=>l.length-k) 0 (fun k=>rfl) ⟨Nat.zero_le _,rfl⟩ rfl ?_)
 rintro k ⟨hk,hall⟩
 refine au X [0,1,7,8,9] rfl ?_
 refine af (an rfl ?_ ?_)<;>intro hb0
 ·try simp only[aX]at hb0
  refine aq (af (ay (au X [0,1,5,7,8] rfl (aD X [] [(16,⟨false,[aF (p (l.getD k (aA (.sl .u8))))]⟩)] [0,1,5,7,8,16] [] rfl (by(with_reducible and_intros)<;>first|exact⟨⟩|exact(hf _)| (intros;omega)) ?_))))
  refine an rfl ?_ ?_<;>intro bz
  ·exact au X [4] rfl (ak (ah rfl ⟨by rw[zw (aA (.sl .u8)) hb0 hall bz],⟨⟩⟩))
  ·refine aq (bF X [0,1,7,8] rfl ?_)
   refine⟨k+1,⟨by omega,CJ (aA (.sl .u8)) hb0 hall bz⟩,by omega,?_⟩
   rw[bK _ k rfl (by omega)]
   try rfl
 ·try simp only[aX]at hb0
  exact aI (au X [4] rfl (ak (ah rfl ⟨by rw[Ji (by rw[←hall,List.take_of_length_le hb0])],⟨⟩⟩)))
theorem eA(l:List (List UInt8))(f:FuncId)(p:(List UInt8)→Bool)(hf: ∀b,So f [.a (.sl .u8 b)] [aF (p b)]):So 208 [.a (.sl (.sl .u8) l), .a (.lit (.func (.func f) #[] #[]))] [aF (l.any p)]:=by
 refine av X call208 func208 ntmps208 rfl rfl ?_
 intro zb
 exact au X [0,1] rfl (aD X [] [(7,⟨false,[aB (fidx p l)]⟩)] [4] [] rfl (by(with_reducible and_intros)<;>first|exact⟨⟩|exact(jj l f p hf)) (ak (ah rfl ⟨congrArg Value.bool (PX p l),⟨⟩⟩)))
theorem lP(b:List UInt8):So 209 [.a (.sl .u8 b)] [aF (!decide ((b.length:Int)=24))]:=by
 refine av X call209 func209 ntmps209 rfl rfl ?_
 intro zb
 exact au X [0] rfl (au X [2] rfl (ak (ah rfl ⟨(congrArg Value.bool (by simp only[aQ]<;>first|rfl|ac_rfl)),⟨⟩⟩)))
theorem gR(d:DB):So 139 [.agg (bA d)] [aF (b9 d)]:=by
 refine av X call139 func139 ntmps139 rfl rfl ?_
 intro zb
 exact au X [1] rfl (aD X [] [(10,⟨false,[aF (d.rows.any fun b=> !decide ((b.length:Int)=24))]⟩)] [2] [] rfl (by(with_reducible and_intros)<;>first|exact⟨⟩|exact fun _=>(eA _ _ _ lP)) (ak (ah rfl ⟨by unfold b9;rw[Er];by_cases h:(d.rows.length:Int)≤64<;>simp[h],⟨⟩⟩)))
theorem bX(d:DB):So 132 [.agg (bA d)] [aF (b9 d)]:=by
 refine av X call132 func132 ntmps132 rfl rfl ?_
 intro zb
 refine bC 0 0 rfl rfl (fun l5=>(au X [1] rfl (af (au X [1,3] rfl ?_))))
 refine ay (aG (fun k=>k≤d.rows.length∧(d.rows.take k).all (fun r=>decide ((r.length:Int)=24))=true) (fun k:Nat=> [(3, .one ((aB k)))]) (fun k=> []) (fun k=>d.rows.length-k) 0 (fun k=>rfl) ⟨Nat.zero_le _,rfl⟩ rfl ?_)
 rintro k ⟨hk,hall⟩
 refine af (au X [1,3,8] rfl ?_)
 refine an rfl ?_ ?_<;>intro hb0
 ·try simp only[aX]at hb0
  refine aq (af (ay (aH X [1,3,17] rfl (by and_intros<;>first|exact⟨⟩| (intros;omega)) ?_)))
  refine an rfl ?_ ?_<;>intro bz
  ·try simp only[aX]at bz
   exact au X [2] rfl (ak (ah rfl ⟨by unfold b9;rw[zk _ _ (aA (.sl .u8)) k hb0 (by simpa using bz)];simp,⟨⟩⟩))
  ·try simp only[aX]at bz
   refine aq (bF X [1,3] rfl ?_)
   refine⟨k+1,⟨by omega,by rw[oO _ _ _ (aA (.sl .u8)) hb0,hall];simpa using bz⟩,by omega,?_⟩
   rw[bK _ k rfl (by omega)]
   try rfl
 ·try simp only[aX]at hb0
  exact aI (au X [2] rfl (ak (ah rfl ⟨by rw[List.take_of_length_le hb0]at hall;unfold b9;rw[hall];simp,⟨⟩⟩)))
theorem uV(a:gH):So 62 [.agg (dS a)] [aB (cW a)]:=by
 refine av X call62 func62 ntmps62 rfl rfl ?_
 intro zb
 refine bC 0 1 rfl rfl (fun l5=>(au X [1] rfl (af (au X [1,6] rfl ?_))))
 refine an rfl ?_ ?_<;>intro hb0
 ·try simp only[aX]at hb0
  exact au X [2] rfl (ak (ah rfl ⟨by rw[cW,if_pos (by omega)],⟨⟩⟩))
 ·try simp only[aX]at hb0
  exact aq (aH X [2] rfl (by and_intros<;>first|exact⟨⟩| ((try simp only[aX]at*);(simp(disch:=omega) only[bp]);omega)) (ak (ah rfl ⟨by rw[cW,if_neg (by omega),bp (by omega)];congr 4;omega,⟨⟩⟩)))
theorem iE(a:gH):So 12 [.agg (dS a)] [aB (cW a)]:=by
 refine av X call12 func12 ntmps12 rfl rfl ?_
 intro zb
 refine bC 0 1 rfl rfl (fun l5=>(au X [1] rfl (af (au X [1,6] rfl ?_))))
 refine an rfl ?_ ?_<;>intro hb0
 ·try simp only[aX]at hb0
  exact au X [2] rfl (ak (ah rfl ⟨by rw[cW,if_pos (by omega)],⟨⟩⟩))
 ·try simp only[aX]at hb0
  exact aq (aH X [2] rfl (by and_intros<;>first|exact⟨⟩| ((try simp only[aX]at*);(simp(disch:=omega) only[bp]);omega)) (ak (ah rfl ⟨by rw[cW,if_neg (by omega),bp (by omega)];congr 4;omega,⟨⟩⟩)))
theorem oS(s:bl):So 64 [.agg (cx s)] [aF (bZ s)]:=by
 refine av X call64 func64 ntmps64 rfl rfl ?_
 intro zb
 refine bC 0 3 rfl rfl (fun l5=>(au X [1] rfl (af (aD X [] [(7,⟨false,[aF (inr s.id 0 3)]⟩),(12,⟨false,[aF (inr s.rows 1 64)]⟩),(18,⟨false,[aF (inr s.behavior 0 3)]⟩),(24,⟨false,[aF (inr s.round 0 100000)]⟩)] [1,32] [] rfl (by(with_reducible and_intros);(iterate 4 all_goals try first|exact⟨⟩|exact(aU s.id 0 3)|exact fun _=>(aU s.rows 1 64)|exact fun _=>(aU s.behavior 0 3)|exact fun _=>(aU s.round 0 100000))) ?_))))
 refine an rfl ?_ ?_<;>intro hb0
 ·exact au X [2] rfl (ak (ah rfl ⟨by rw[show bZ s=false from VP hb0 (by simp only[qV,aQ]<;>first|rfl|ac_rfl)],⟨⟩⟩))
 ·have hh:qV s=true:=bM hb0 (by simp only[qV,aQ]<;>first|rfl|ac_rfl)
  refine aq (af (au X [1,34,35,36] rfl ?_))
  refine ay (aG (fun k=>k≤s.received.length∧(List.range k).all (j8 s.rows s.received)=true) (fun k:Nat=> [(36, .one ((aB k)))]) (fun k=> []) (fun k=>s.received.length-k) 0 (fun k=>rfl) ⟨Nat.zero_le _,rfl⟩ rfl ?_)
  rintro k ⟨hk,hall⟩
  have hw:(IntKind.i64.wrap ((k:Int)-1)).toNat=k-1:=by rw[bp (by omega)];omega
  refine au X [1,34,35,36,37] rfl ?_
  refine af (an rfl ?_ ?_)<;>intro bz
  ·try simp only[aX]at bz
   refine aq (af (ay (aH X [1,3,4,34,35,36] rfl (by and_intros<;>first|exact⟨⟩| (intros;omega)) (dy X [] [(43,⟨false,[aF (inr ((s.received.getD k (aA .aM)).client) 0 7)]⟩),(64,⟨false,[aF (b9 ((s.received.getD k (aA .aM)).share))]⟩)] [1,34,35,36,75] [] 35 MO (by kernel_rfl) rfl (by(with_reducible and_intros);(iterate 2 all_goals try first|exact⟨⟩|exact(aU ((s.received.getD k (aA .aM)).client) 0 7)|exact fun _=>(gR ((s.received.getD k (aA .aM)).share)));all_goals first| ((intro h1;first| (intro h2;first| (intro h3;refine And.intro ?_ ?_)|refine And.intro ?_ ?_)|refine And.intro ?_ ?_)<;>first|omega| ((try simp only[aX]at*);(try simp(disch:=omega) only[bp]);omega))) ?_))))
   refine an rfl ?_ ?_<;>intro bW
   ·have hk2:j8 s.rows s.received k=false:=bN bW (by simp only[hw,j8,aQ]<;>first|rfl|ac_rfl)
    exact au X [2] rfl (ak (ah rfl ⟨by rw[show bZ s=false by unfold bZ;rw[gj bz hk2];simp],⟨⟩⟩))
   ·have hk2:j8 s.rows s.received k=true:=bM bW (by simp only[hw,j8,aQ]<;>first|rfl|ac_rfl)
    refine aq (bF X [1,34,35,36] rfl ?_)
    refine⟨k+1,⟨by omega,eV hall hk2⟩,by omega,?_⟩
    rw[bK _ k rfl (by omega)]
    try rfl
  ·try simp only[aX]at bz
   have mm:(List.range s.received.length).all (j8 s.rows s.received)=true:=by rw[show s.received.length=k by omega];exact hall
   exact aI (au X [2] rfl (ak (ah rfl ⟨by rw[show bZ s=true by unfold bZ;rw[hh,mm];rfl],⟨⟩⟩)))
theorem nP(a:gH):So 61 [.agg (dS a)] [aF (dW a)]:=by
 refine av X call61 func61 ntmps61 rfl rfl ?_
 intro zb
 refine bC 0 1 rfl rfl (fun l5=>(au X [1] rfl (af (au X [1,6,7,8] rfl ?_))))
 refine ay (aG (fun k=>k≤a.rounds.length∧(List.range k).all (mZ a.rows a.rounds)=true) (fun k:Nat=> [(8, .one ((aB k)))]) (fun k=> []) (fun k=>a.rounds.length-k) 0 (fun k=>rfl) ⟨Nat.zero_le _,rfl⟩ rfl ?_)
 rintro k ⟨hk,hall⟩
 have hw:(IntKind.i64.wrap ((k:Int)-1)).toNat=k-1:=by rw[bp (by omega)];omega
 refine au X [1,6,7,8,9] rfl ?_
 refine af (an rfl ?_ ?_)<;>intro hb0
 ·try simp only[aX]at hb0
  refine aq (af (ay (aH X [1,3,4,6,7,8] rfl (by and_intros<;>first|exact⟨⟩| (intros;omega)) (af ?_))))
  have t1:=(aU ((a.rounds.getD k (aA .aC)).round) 0 100000)
  refine bU X [] [(15,⟨false,bQ t1⟩),(36,⟨false,[aF (b9 ((a.rounds.getD k (aA .aC)).db))]⟩)] [1,6,7,8,47] [] 35 MO (by kernel_rfl) rfl (by(with_reducible and_intros);(iterate 2 all_goals try first|exact⟨⟩|exact t1|exact fun _=>(gR ((a.rounds.getD k (aA .aC)).db)));all_goals first| ((intro h1;first| (intro h2;first| (intro h3;refine And.intro ?_ ?_)|refine And.intro ?_ ?_)|refine And.intro ?_ ?_)<;>first|omega| ((try simp only[aX]at*);(try simp(disch:=omega) only[bp]);omega))) ?_
  refine an rfl ?_ ?_<;>intro bz
  ·have hk2:mZ a.rows a.rounds k=false:=bN bz (by simp only[hw,mZ,aQ]<;>first|rfl|ac_rfl)
   exact au X [2] rfl (ak (ah rfl ⟨by rw[show dW a=false by unfold dW;rw[gj hb0 hk2];simp],⟨⟩⟩))
  ·have hk2:mZ a.rows a.rounds k=true:=bM bz (by simp only[hw,mZ,aQ]<;>first|rfl|ac_rfl)
   refine aq (bF X [1,6,7,8] rfl ?_)
   refine⟨k+1,⟨by omega,eV hall hk2⟩,by omega,?_⟩
   rw[bK _ k rfl (by omega)]
   try rfl
 ·try simp only[aX]at hb0
  have mm:(List.range a.rounds.length).all (mZ a.rows a.rounds)=true:=by rw[show a.rounds.length=k by omega];exact hall
  exact aI (aD X [] [(51,⟨false,[aF (inr a.rows 1 64)]⟩)] [2] [] rfl (by(with_reducible and_intros)<;>first|exact⟨⟩|exact(aU a.rows 1 64)) (ak (ah rfl ⟨(congrArg Value.bool (by simp only[dW,zv,mm,aQ]<;>first|rfl|ac_rfl)),⟨⟩⟩)))
theorem cj(s:bl):So 129 [.agg (cx s)] [aF (bZ s)]:=by
 refine av X call129 func129 ntmps129 rfl rfl ?_
 intro zb
 refine bC 0 3 rfl rfl (fun l5=>(au X [1] rfl (af (au X [1,3] rfl ?_))))
 refine ay (aG (fun k=>k≤s.received.length∧(List.range k).all (j8 s.rows s.received)=true) (fun k:Nat=> [(3, .one ((aB k)))]) (fun k=> []) (fun k=>s.received.length-k) 0 (fun k=>rfl) ⟨Nat.zero_le _,rfl⟩ rfl ?_)
 rintro k ⟨hk,hall⟩
 have hw:(IntKind.i64.wrap ((k:Int)-1)).toNat=k-1:=by rw[bp (by omega)];omega
 refine af (au X [1,3,9] rfl ?_)
 refine an rfl ?_ ?_<;>intro hb0
 ·try simp only[aX]at hb0
  refine aq (af (ay (aH X [1,3,4] rfl (by and_intros<;>first|exact⟨⟩| (intros;omega)) (dy X [] [(19,⟨false,[aF (inr ((s.received.getD k (aA .aM)).client) 0 7)]⟩),(40,⟨false,[aF (b9 ((s.received.getD k (aA .aM)).share))]⟩)] [1,3,51] [] 35 MO (by kernel_rfl) rfl (by(with_reducible and_intros);(iterate 2 all_goals try first|exact⟨⟩|exact(aJ ((s.received.getD k (aA .aM)).client) 0 7)|exact fun _=>(bX ((s.received.getD k (aA .aM)).share)));all_goals first| ((intro h1;first| (intro h2;first| (intro h3;refine And.intro ?_ ?_)|refine And.intro ?_ ?_)|refine And.intro ?_ ?_)<;>first|omega| ((try simp only[aX]at*);(try simp(disch:=omega) only[bp]);omega))) ?_))))
  refine an rfl ?_ ?_<;>intro bz
  ·have hk2:j8 s.rows s.received k=false:=bN bz (by simp only[hw,j8,aQ]<;>first|rfl|ac_rfl)
   exact au X [2] rfl (ak (ah rfl ⟨by rw[show bZ s=false by unfold bZ;rw[gj hb0 hk2];simp],⟨⟩⟩))
  ·have hk2:j8 s.rows s.received k=true:=bM bz (by simp only[hw,j8,aQ]<;>first|rfl|ac_rfl)
   refine aq (bF X [1,3] rfl ?_)
   refine⟨k+1,⟨by omega,eV hall hk2⟩,by omega,?_⟩
   rw[bK _ k rfl (by omega)]
   try rfl
 ·try simp only[aX]at hb0
  have mm:(List.range s.received.length).all (j8 s.rows s.received)=true:=by rw[show s.received.length=k by omega];exact hall
  exact aI (aD X [] [(54,⟨false,[aF (inr s.id 0 3)]⟩),(58,⟨false,[aF (inr s.rows 1 64)]⟩),(63,⟨false,[aF (inr s.behavior 0 3)]⟩),(68,⟨false,[aF (inr s.round 0 100000)]⟩)] [2] [] rfl (by(with_reducible and_intros);(iterate 4 all_goals try first|exact⟨⟩|exact(aJ s.id 0 3)|exact fun _=>(aJ s.rows 1 64)|exact fun _=>(aJ s.behavior 0 3)|exact fun _=>(aJ s.round 0 100000))) (ak (ah rfl ⟨(congrArg Value.bool (by simp only[bZ,qV,mm,aQ]<;>first|rfl|ac_rfl)),⟨⟩⟩)))
theorem ia(a:gH):So 51 [.agg (dS a)] [aF (dW a)]:=by
 refine av X call51 func51 ntmps51 rfl rfl ?_
 intro zb
 refine bC 0 1 rfl rfl (fun l5=>(au X [1] rfl (af (au X [1,3] rfl ?_))))
 refine ay (aG (fun k=>k≤a.rounds.length∧(List.range k).all (mZ a.rows a.rounds)=true) (fun k:Nat=> [(3, .one ((aB k)))]) (fun k=> []) (fun k=>a.rounds.length-k) 0 (fun k=>rfl) ⟨Nat.zero_le _,rfl⟩ rfl ?_)
 rintro k ⟨hk,hall⟩
 have hw:(IntKind.i64.wrap ((k:Int)-1)).toNat=k-1:=by rw[bp (by omega)];omega
 refine af (au X [1,3,9] rfl ?_)
 refine an rfl ?_ ?_<;>intro hb0
 ·try simp only[aX]at hb0
  refine aq (af (ay (aH X [1,3,4] rfl (by and_intros<;>first|exact⟨⟩| (intros;omega)) (af ?_))))
  have t1:=(aJ ((a.rounds.getD k (aA .aC)).round) 0 100000)
  refine bU X [] [(19,⟨false,bQ t1⟩),(40,⟨false,[aF (b9 ((a.rounds.getD k (aA .aC)).db))]⟩)] [1,3,51] [] 35 MO (by kernel_rfl) rfl (by(with_reducible and_intros);(iterate 2 all_goals try first|exact⟨⟩|exact t1|exact fun _=>(bX ((a.rounds.getD k (aA .aC)).db)));all_goals first| ((intro h1;first| (intro h2;first| (intro h3;refine And.intro ?_ ?_)|refine And.intro ?_ ?_)|refine And.intro ?_ ?_)<;>first|omega| ((try simp only[aX]at*);(try simp(disch:=omega) only[bp]);omega))) ?_
  refine an rfl ?_ ?_<;>intro bz
  ·have hk2:mZ a.rows a.rounds k=false:=bN bz (by simp only[hw,mZ,aQ]<;>first|rfl|ac_rfl)
   exact au X [2] rfl (ak (ah rfl ⟨by rw[show dW a=false by unfold dW;rw[gj hb0 hk2];simp],⟨⟩⟩))
  ·have hk2:mZ a.rows a.rounds k=true:=bM bz (by simp only[hw,mZ,aQ]<;>first|rfl|ac_rfl)
   refine aq (bF X [1,3] rfl ?_)
   refine⟨k+1,⟨by omega,eV hall hk2⟩,by omega,?_⟩
   rw[bK _ k rfl (by omega)]
   try rfl
 ·try simp only[aX]at hb0
  have mm:(List.range a.rounds.length).all (mZ a.rows a.rounds)=true:=by rw[show a.rounds.length=k by omega];exact hall
  exact aI (aD X [] [(54,⟨false,[aF (inr a.rows 1 64)]⟩)] [2] [] rfl (by(with_reducible and_intros)<;>first|exact⟨⟩|exact(aJ a.rows 1 64)) (ak (ah rfl ⟨(congrArg Value.bool (by simp only[dW,zv,mm,aQ]<;>first|rfl|ac_rfl)),⟨⟩⟩)))
theorem wo(a:List UInt8):(lE a).toList=a:=by
 rw[ByteArray.toList_eq];rfl
theorem e9(a b:List UInt8):So 101 [.a (.sl .u8 a), .a (.sl .u8 b)] [aF (a==b)]:=by
 refine av X call101 func101 ntmps101 rfl rfl ?_
 intro zb
 exact au X [0,1] rfl (au X [4] rfl (ak (ah rfl ⟨by rw[wo,wo],⟨⟩⟩)))
theorem lQ(a b:List UInt8):So 162 [.a (.sl .u8 a), .a (.sl .u8 b)] [aF (a==b)]:=by
 refine av X call162 func162 ntmps162 rfl rfl ?_
 intro zb
 refine dD 0 rfl (fun hl1=> ?_)
 refine dD 1 rfl (fun lH=>(au X [0,1] rfl (af (au X [0,1,10] rfl ?_))))
 refine an rfl ?_ ?_<;>intro hb0
 ·try simp only[aX]at hb0
  exact au X [4] rfl (ak (ah rfl ⟨by rw[uO a b hb0],⟨⟩⟩))
 ·try simp only[aX]at hb0
  refine aq (af (au X [0,1,12,13] rfl ?_))
  refine ay (aG (fun k=>k≤a.length∧a.take k=b.take k) (fun k:Nat=> [(13, .one ((aB k)))]) (fun k=> []) (fun k=>a.length-k) 0 (fun k=>rfl) ⟨Nat.zero_le _,rfl⟩ rfl ?_)
  rintro k ⟨hk,hall⟩
  refine au X [0,1,12,13,14] rfl ?_
  refine af (an rfl ?_ ?_)<;>intro bz
  ·try simp only[aX]at bz
   refine aq (af (ay (au X [0,1,5,12,13] rfl (dy X [] [] [0,1,12,13,24] [] 9 MO (by kernel_rfl) rfl (by and_intros<;>first|exact⟨⟩| (intros;omega)) ?_))))
   refine an rfl ?_ ?_<;>intro bW
   ·try simp only[aX]at bW
    have hne:=rD a b (aA .u8) k (fun h=>bW (by rw[h]))
    exact au X [4] rfl (ak (ah rfl ⟨by rw[hne],⟨⟩⟩))
   ·try simp only[aX]at bW
    have he:a.getD k (aA .u8)=b.getD k (aA .u8):=Mc bW
    refine aq (bF X [0,1,12,13] rfl ?_)
    refine⟨k+1,⟨by omega,mY a b (aA .u8) k bz (by omega) hall he⟩,by omega,?_⟩
    rw[bK _ k rfl (by omega)]
    try rfl
  ·try simp only[aX]at bz
   exact aI (au X [4] rfl (ak (ah rfl ⟨by rw[rE a b k (by omega) (by omega) hall],⟨⟩⟩)))
theorem ff(a b:List (List UInt8)):So 89 [.a (.sl (.sl .u8) a), .a (.sl (.sl .u8) b)] [aF (a==b)]:=by
 refine av X call89 func89 ntmps89 rfl rfl ?_
 intro zb
 refine dD 0 rfl (fun hl1=> ?_)
 refine dD 1 rfl (fun lH=>(au X [0,1] rfl (af (au X [0,1,10] rfl ?_))))
 refine an rfl ?_ ?_<;>intro hb0
 ·try simp only[aX]at hb0
  exact au X [4] rfl (ak (ah rfl ⟨by rw[uO a b hb0],⟨⟩⟩))
 ·try simp only[aX]at hb0
  refine aq (af (au X [0,1,5] rfl ?_))
  refine ay (aG (fun k=>k≤a.length∧a.take k=b.take k) (fun k:Nat=> [(5, .one ((aB k)))]) (fun k=> []) (fun k=>a.length-k) 0 (fun k=>rfl) ⟨Nat.zero_le _,rfl⟩ rfl ?_)
  rintro k ⟨hk,hall⟩
  refine af (au X [0,1,5,14] rfl ?_)
  refine an rfl ?_ ?_<;>intro bz
  ·try simp only[aX]at bz
   refine aq (af (ay (dy X [] [(25,⟨false,[aF _]⟩)] [0,1,5,26] [] 10 MO (by kernel_rfl) rfl (by(with_reducible and_intros)<;>first|exact⟨⟩|exact(e9 _ _)| (intros;omega)) ?_)))
   refine an rfl ?_ ?_<;>intro bW
   ·try simp only[aX]at bW
    have hne:=rD a b (aA (.sl .u8)) k (fun h=>bW (by rw[h]))
    exact au X [4] rfl (ak (ah rfl ⟨by rw[hne],⟨⟩⟩))
   ·try simp only[aX]at bW
    have he:a.getD k (aA (.sl .u8))=b.getD k (aA (.sl .u8)):=bW
    refine aq (bF X [0,1,5] rfl ?_)
    refine⟨k+1,⟨by omega,mY a b (aA (.sl .u8)) k bz (by omega) hall he⟩,by omega,?_⟩
    rw[bK _ k rfl (by omega)]
    try rfl
  ·try simp only[aX]at bz
   exact aI (au X [4] rfl (ak (ah rfl ⟨by rw[rE a b k (by omega) (by omega) hall],⟨⟩⟩)))
theorem kW(a b:List UInt8):So 96 [.a (.sl .u8 a), .a (.sl .u8 b)] [aF (a==b)]:=by
 refine av X call96 func96 ntmps96 rfl rfl ?_
 intro zb
 exact au X [0,1] rfl (aD X [] [(7,⟨false,[aF _]⟩)] [4] [] rfl (by(with_reducible and_intros)<;>first|exact⟨⟩|exact(lQ _ _)) (ak (ah rfl ⟨rfl,⟨⟩⟩)))
theorem fE(a b:List (List UInt8)):So 222 [.a (.sl (.sl .u8) a), .a (.sl (.sl .u8) b), .a (.lit (.func (.func 96) #[] #[]))] [aF (a==b)]:=by
 refine av X call222 func222 ntmps222 rfl rfl ?_
 intro zb
 refine dD 0 rfl (fun hl1=> ?_)
 refine dD 1 rfl (fun lH=>(au X [0,1,2] rfl (af (au X [0,1,2,14] rfl ?_))))
 refine an rfl ?_ ?_<;>intro hb0
 ·try simp only[aX]at hb0
  exact au X [6] rfl (ak (ah rfl ⟨by rw[uO a b hb0],⟨⟩⟩))
 ·try simp only[aX]at hb0
  refine aq (af (au X [1,2,15,16,17] rfl ?_))
  refine ay (aG (fun k=>k≤a.length∧a.take k=b.take k) (fun k:Nat=> [(17, .one ((aB k)))]) (fun k=> []) (fun k=>a.length-k) 0 (fun k=>rfl) ⟨Nat.zero_le _,rfl⟩ rfl ?_)
  rintro k ⟨hk,hall⟩
  refine au X [1,2,15,16,17,18] rfl ?_
  refine af (an rfl ?_ ?_)<;>intro bz
  ·try simp only[aX]at bz
   refine aq (af (ay (aH X [1,2,7,8,15,16,17] rfl (by and_intros<;>first|exact⟨⟩| (intros;omega)) (aH X [1,2,8,9,15,16,17] rfl (by and_intros<;>first|exact⟨⟩| (intros;omega)) (aD X [] [(29,⟨false,[aF (a.getD k (aA (.sl .u8))==b.getD k (aA (.sl .u8)))]⟩)] [1,2,15,16,17,30] [] rfl (by(with_reducible and_intros)<;>first|exact⟨⟩|exact(kW _ _)) ?_)))))
   refine an rfl ?_ ?_<;>intro bW
   ·try simp only[aX]at bW
    have hne:=rD a b (aA (.sl .u8)) k (fun h=>bW (by rw[h]))
    exact au X [6] rfl (ak (ah rfl ⟨by rw[hne],⟨⟩⟩))
   ·try simp only[aX]at bW
    have he:a.getD k (aA (.sl .u8))=b.getD k (aA (.sl .u8)):=bW
    refine aq (bF X [1,2,15,16,17] rfl ?_)
    refine⟨k+1,⟨by omega,mY a b (aA (.sl .u8)) k bz (by omega) hall he⟩,by omega,?_⟩
    rw[bK _ k rfl (by omega)]
    try rfl
  ·try simp only[aX]at bz
   exact aI (au X [6] rfl (ak (ah rfl ⟨by rw[rE a b k (by omega) (by omega) hall],⟨⟩⟩)))
theorem kX(a b:List (List UInt8)):So 158 [.a (.sl (.sl .u8) a), .a (.sl (.sl .u8) b)] [aF (a==b)]:=by
 refine av X call158 func158 ntmps158 rfl rfl ?_
 intro zb
 exact au X [0,1] rfl (aD X [] [(7,⟨false,[aF _]⟩)] [4] [] rfl (by(with_reducible and_intros)<;>first|exact⟨⟩|exact(fE _ _)) (ak (ah rfl ⟨rfl,⟨⟩⟩)))
theorem m6(b:List UInt8):So 210 [.a (.sl .u8 b)] [aF (uU b)]:=by
 refine av X call210 func210 ntmps210 rfl rfl ?_
 intro zb
 exact au X [0] rfl (au X [2] rfl (ak (ah rfl ⟨rfl,⟨⟩⟩)))
theorem oT(n:Int):So 60 [aB n] [aF (cg n)]:=by
 refine av X call60 func60 ntmps60 rfl rfl ?_
 intro zb
 exact au X [0] rfl (aD X [] [(4,⟨false,[aF _]⟩)] [2] [] rfl (by(with_reducible and_intros)<;>first|exact⟨⟩|exact(aU _ _ _)) (ak (ah rfl ⟨rfl,⟨⟩⟩)))
theorem eG(n:Int):So 130 [aB n] [aF (cg n)]:=by
 refine av X call130 func130 ntmps130 rfl rfl ?_
 intro zb
 exact au X [0] rfl (aD X [] [(4,⟨false,[aF _]⟩)] [2] [] rfl (by(with_reducible and_intros)<;>first|exact⟨⟩|exact(aJ _ _ _)) (ak (ah rfl ⟨rfl,⟨⟩⟩)))
theorem iW(c:cX):So 140 [.agg (bR c)] [aF (cG c)]:=by
 refine av X call140 func140 ntmps140 rfl rfl ?_
 intro zb
 exact au X [1] rfl (au X [1,3] rfl (aD X [] [(6,⟨false,[aF (inr c.id 0 7)]⟩),(10,⟨false,[aF (inr c.dF 0 7)]⟩),(22,⟨false,[aF (ez c.key)]⟩),(40,⟨false,[aF (c.aE.any uU)]⟩),(47,⟨false,[aF (c.inbox.any uU)]⟩),(56,⟨false,[aF (inr c.sent 0 (c.aE.length:Int))]⟩),(61,⟨false,[aF (inr c.next 0 100000)]⟩)] [2] [] rfl (by(with_reducible and_intros);(iterate 7 all_goals try first|exact⟨⟩|exact(aU c.id 0 7)|exact fun _=>(aU c.dF 0 7)|exact fun _=>(gP c.key)|exact fun _=>(eA _ _ _ m6)|exact fun _=>(aU c.sent 0 (c.aE.length:Int))|exact fun _=>(aU c.next 0 100000))) (ak (ah rfl ⟨(congrArg Value.bool (by simp only[cG,aQ]<;>first|rfl|ac_rfl)),⟨⟩⟩))))
theorem tK(i f k:Int):So 261 [aB i,aB f,aB k] [aF (inr i 0 7&&inr f 0 7&& !(i==f)&&ez k)]:=by
 refine av X call261 func261 ntmps261 rfl rfl ?_
 intro zb
 exact au X [0,1,2] rfl (aD X [] [(8,⟨false,[aF (inr i 0 7)]⟩),(11,⟨false,[aF (inr f 0 7)]⟩),(20,⟨false,[aF (ez k)]⟩)] [6] [] rfl (by(with_reducible and_intros);(iterate 3 all_goals try first|exact⟨⟩|exact(aJ i 0 7)|exact fun _=>(aJ f 0 7)|exact fun _=>(eY k))) (ak (ah rfl ⟨(congrArg Value.bool (by simp only[aQ]<;>first|rfl|ac_rfl)),⟨⟩⟩)))
theorem mo(l:List (List UInt8)):So 262 [.a (.sl (.sl .u8) l)] [aF (decide ((l.length:Int)≤16)&& !l.any uU)]:=by
 refine av X call262 func262 ntmps262 rfl rfl ?_
 intro zb
 refine dD 0 rfl (fun l5=>(au X [0] rfl (af (au X [0,3] rfl ?_))))
 refine ay (aG (fun k=>k≤l.length∧(l.take k).any uU=false) (fun k:Nat=> [(3, .one ((aB k)))]) (fun k=> []) (fun k=>l.length-k) 0 (fun k=>rfl) ⟨Nat.zero_le _,rfl⟩ rfl ?_)
 rintro k ⟨hk,hall⟩
 refine af (au X [0,3,7] rfl ?_)
 refine an rfl ?_ ?_<;>intro hb0
 ·try simp only[aX]at hb0
  refine aq (af (ay (aH X [0,3,15] rfl (by and_intros<;>first|exact⟨⟩| (intros;omega)) ?_)))
  refine an rfl ?_ ?_<;>intro bz
  ·exact au X [2] rfl (ak (ah rfl ⟨by rw[xA l uU (aA (.sl .u8)) k hb0 bz];simp,⟨⟩⟩))
  ·refine aq (bF X [0,3] rfl ?_)
   refine⟨k+1,⟨by omega,CJ (aA (.sl .u8)) hb0 hall bz⟩,by omega,?_⟩
   rw[bK _ k rfl (by omega)]
   try rfl
 ·try simp only[aX]at hb0
  have mm:l.any uU=false:=by rw[←hall,List.take_of_length_le hb0]
  exact aI (au X [2] rfl (ak (ah rfl ⟨by rw[mm];simp,⟨⟩⟩)))
theorem cH(c:cX):So 207 [.agg (bR c)] [aF (cG c)]:=by
 refine av X call207 func207 ntmps207 rfl rfl ?_
 intro zb
 refine au X [1] rfl (af ?_)
 have t1:=(tK c.id c.dF c.key)
 have t2:=(mo c.aE)
 have t3:=(mo c.inbox)
 exact aP X [] [(9,⟨false,bQ t1⟩),(13,⟨false,bQ t2⟩),(18,⟨false,bQ t3⟩),(26,⟨false,[aF (inr c.sent 0 (c.aE.length:Int))]⟩),(31,⟨false,[aF (inr c.next 0 100000)]⟩)] [2] [] rfl (by(with_reducible and_intros);(iterate 5 all_goals try first|exact⟨⟩|exact t1|exact fun _=>t2|exact fun _=>t3|exact fun _=>(aJ c.sent 0 (c.aE.length:Int))|exact fun _=>(aJ c.next 0 100000))) (ak (ah rfl ⟨(congrArg Value.bool (by simp only[cG,aQ]<;>first|rfl|ac_rfl)),⟨⟩⟩))
theorem uW(a b:cX):So 141 [.agg (bR a), .agg (bR b)] [aF (gQ a b)]:=by
 refine av X call141 func141 ntmps141 rfl rfl ?_
 intro zb
 exact au X [2,3] rfl (aD X [] [(36,⟨false,[aF (a.aE==b.aE)]⟩)] [4] [] rfl (by(with_reducible and_intros)<;>first|exact⟨⟩|exact fun _=>(kX a.aE b.aE)) (ak (ah rfl ⟨(congrArg Value.bool (by simp only[gQ,aQ]<;>first|rfl|ac_rfl)),⟨⟩⟩)))
theorem jk(a b:List (List UInt8)):So 90 [.a (.sl (.sl .u8) a), .a (.sl (.sl .u8) b)] [aF (qH a b)]:=by
 refine av X call90 func90 ntmps90 rfl rfl ?_
 intro zb
 refine au X [0,1] rfl (af ?_)
 have t1:=(kX a ((b.take (a.length:Int).toNat).drop (0:Int).toNat))
 refine aP X [] [(16,⟨false,bQ t1⟩)] [4] [] rfl (by(with_reducible and_intros)<;>first|exact⟨⟩|exact fun _=>t1| ((intro h1;first| (intro h2;first| (intro h3;refine And.intro ?_ ?_)|refine And.intro ?_ ?_)|refine And.intro ?_ ?_)<;>first|omega| ((try simp only[aX]at*);(try simp(disch:=omega) only[bp]);omega))) ?_
 exact ak (ah rfl ⟨(congrArg Value.bool (by simp only[qH,List.drop_zero,Int.toNat_zero,aQ]<;>first|rfl|ac_rfl)),⟨⟩⟩)
theorem oU(d:aS):So 65 [.agg (cq d)] [aF (cE d)]:=by
 refine av X call65 func65 ntmps65 rfl rfl ?_
 intro zb
 exact au X [1] rfl (aD X [] [(5,⟨false,[aF (cG d.live)]⟩),(9,⟨false,[aF (cG d.saved)]⟩),(16,⟨false,[aF (gQ d.live d.saved)]⟩),(43,⟨false,[aF (qH d.saved.inbox d.live.inbox)]⟩)] [2] [] rfl (by(with_reducible and_intros);(iterate 4 all_goals try first|exact⟨⟩|exact(iW d.live)|exact fun _=>(iW d.saved)|exact fun _=>(uW d.live d.saved)|exact fun _=>(jk d.saved.inbox d.live.inbox))) (ak (ah rfl ⟨(congrArg Value.bool (by simp only[cE,aQ]<;>first|rfl|ac_rfl)),⟨⟩⟩)))
theorem cI(d:aS):So 131 [.agg (cq d)] [aF (cE d)]:=by
 refine av X call131 func131 ntmps131 rfl rfl ?_
 intro zb
 refine au X [1] rfl (au X [1,3] rfl (au X [3,4] rfl (af (aD X [] [(10,⟨false,[aF (cG d.live)]⟩),(14,⟨false,[aF (cG d.saved)]⟩),(50,⟨false,[aF (d.live.aE==d.saved.aE)]⟩)] [3,4,52] [] rfl (by(with_reducible and_intros);(iterate 3 all_goals try first|exact⟨⟩|exact(cH d.live)|exact fun _=>(cH d.saved)|exact fun _=>(ff d.live.aE d.saved.aE))) ?_))))
 refine an rfl ?_ ?_<;>intro hb0
 ·exact au X [2] rfl (ak (ah rfl ⟨by rw[show cE d=false from by rw[cE,bN (R:=cG d.live&&cG d.saved&&gQ d.live d.saved) hb0 (by simp only[gQ,aQ]<;>first|rfl|ac_rfl)];rfl],⟨⟩⟩))
 ·have hh:(cG d.live&&cG d.saved&&gQ d.live d.saved)=true:=bM hb0 (by simp only[gQ,aQ]<;>first|rfl|ac_rfl)
  refine aq (af ?_)
  have t1:=(ff d.saved.inbox ((d.live.inbox.take (d.saved.inbox.length:Int).toNat).drop (0:Int).toNat))
  refine bU X [] [(83,⟨false,bQ t1⟩)] [2] [] 33 MO (by kernel_rfl) rfl (by(with_reducible and_intros)<;>first|exact⟨⟩|exact fun _=>t1| ((intro h1;first| (intro h2;first| (intro h3;refine And.intro ?_ ?_)|refine And.intro ?_ ?_)|refine And.intro ?_ ?_)<;>first|omega| ((try simp only[aX]at*);(try simp(disch:=omega) only[bp]);omega))) ?_
  exact ak (ah rfl ⟨(congrArg Value.bool (by simp only[cE,hh,qH,List.drop_zero,Int.toNat_zero,aQ]<;>first|rfl|ac_rfl)),⟨⟩⟩)
end
section
set_option maxRecDepth 100000
theorem qI(x:aR):So 13 [.agg (aZ x)] [aF (okW x)]:=by
 refine av X call13 func13 ntmps13 rfl rfl ?_
 intro zb
 refine bC 0 1 rfl rfl (fun hl1=> ?_)
 refine bC 0 2 rfl rfl (fun lH=>(au X [1] rfl (af (dy X [] [(10,⟨false,[aF (inr x.rows 1 64)]⟩),(16,⟨false,[aF (cg (x.aj.length:Int))]⟩),(23,⟨false,[aF (inr (x.aa.length:Int) 2 8)]⟩),(36,⟨false,[aF (dW x.az)]⟩),(50,⟨false,[aB (cW x.az)]⟩),(58,⟨false,[aF (ez x.bh)]⟩),(64,⟨false,[aF (inr x.round 0 100000)]⟩)] [1,71] [] 64 MO (by kernel_rfl) rfl (by(with_reducible and_intros);(iterate 7 all_goals try first|exact⟨⟩|exact(aU x.rows 1 64)|exact fun _=>(oT (x.aj.length:Int))|exact fun _=>(aU (x.aa.length:Int) 2 8)|exact fun _=>(nP x.az)|exact fun _=>(uV x.az)|exact fun _=>(gP x.bh)|exact fun _=>(aU x.round 0 100000));all_goals first| (refine fun _=> ?_;dsimp only[hyps,ey];omega)) ?_))))
 refine an rfl ?_ ?_<;>intro hb0
 ·exact au X [2] rfl (ak (ah rfl ⟨by rw[show okW x=false from by rw[okW,bN (R:=Ep x) hb0 (by simp only[Ep,aQ]<;>first|rfl|ac_rfl)];rfl],⟨⟩⟩))
 ·have hh:Ep x=true:=bM hb0 (by simp only[Ep,aQ]<;>first|rfl|ac_rfl)
  obtain⟨IW,Zk,_⟩:=tL hh
  refine aq (af (au X [1,73,74,75] rfl ?_))
  refine ay (aG (fun k=>k≤x.aj.length∧(List.range k).all (Bs x)=true) (fun k:Nat=> [(75, .one ((aB k)))]) (fun k=> []) (fun k=>x.aj.length-k) 0 (fun k=>rfl) ⟨Nat.zero_le _,rfl⟩ rfl ?_)
  rintro k ⟨hk,hall⟩
  refine au X [1,73,74,75,76] rfl ?_
  refine af (an rfl ?_ ?_)<;>intro bz
  ·try simp only[aX]at bz
   refine aq (af (ay (aH X [1,3,4,73,74,75] rfl (by and_intros<;>first|exact⟨⟩| (intros;omega)) (aD X [] [(81,⟨false,[aF (bZ (x.aj.getD k (aA .bl)))]⟩)] [1,73,74,75,108] [] rfl (by(with_reducible and_intros)<;>first|exact⟨⟩|exact(oS (x.aj.getD k (aA .bl)))) ?_))))
   refine an rfl ?_ ?_<;>intro bW
   ·have hk2:Bs x k=false:=bN bW (by simp only[Bs,aQ]<;>first|rfl|ac_rfl)
    exact au X [2] rfl (ak (ah rfl ⟨by rw[show okW x=false from by rw[okW,gj bz hk2];simp],⟨⟩⟩))
   ·have hk2:Bs x k=true:=bM bW (by simp only[Bs,aQ]<;>first|rfl|ac_rfl)
    refine aq (bF X [1,73,74,75] rfl ?_)
    refine⟨k+1,⟨by omega,eV hall hk2⟩,by omega,?_⟩
    rw[bK _ k rfl (by omega)]
    try rfl
  ·try simp only[aX]at bz
   have mm:(List.range x.aj.length).all (Bs x)=true:=by rw[show x.aj.length=k by omega];exact hall
   refine aI (af (au X [1,111,112,113] rfl ?_))
   refine ay (aG (fun k1=>k1≤x.aa.length∧(List.range k1).all (okD x)=true) (fun k1:Nat=> [(113, .one ((aB k1)))]) (fun k1=> []) (fun k1=>x.aa.length-k1) 0 (fun k1=>rfl) ⟨Nat.zero_le _,rfl⟩ rfl ?_)
   rintro k1 ⟨hk1,RN⟩
   refine au X [1,111,112,113,114] rfl ?_
   refine af (an rfl ?_ ?_)<;>intro nW
   ·try simp only[aX]at nW
    have hx:=Es k1 (by omega)
    have hlt:=rJ k1 x.aa.length nW IW
    refine aq (af (ay (aH X [1,5,6,111,112,113] rfl (by and_intros<;>first|exact⟨⟩| (intros;omega)) (au X [1,5,6,7,111,112,113] rfl (dy X [] [(121,⟨false,[aF (cE (x.aa.getD k1 (aA .aS)))]⟩)] [1,111,112,113,155] [] 36 MO (by kernel_rfl) rfl (by(with_reducible and_intros)<;>first|exact⟨⟩|exact(oU (x.aa.getD k1 (aA .aS)))| ((intro h1;first| (intro h2;first| (intro h3;refine And.intro ?_ ?_)|refine And.intro ?_ ?_)|refine And.intro ?_ ?_)<;>first|omega| ((try simp only[aX]at*);(try simp(disch:=omega) only[bp]);omega))) ?_)))))
    refine an rfl ?_ ?_<;>intro RP
    ·have KZ:okD x k1=false:=bN RP (by simp only[okD,hx,aQ]<;>first|rfl|ac_rfl)
     exact au X [2] rfl (ak (ah rfl ⟨by rw[show okW x=false from by rw[okW,gj nW KZ];simp],⟨⟩⟩))
    ·have KZ:okD x k1=true:=bM RP (by simp only[okD,hx,aQ]<;>first|rfl|ac_rfl)
     refine aq (bF X [1,111,112,113] rfl ?_)
     refine⟨k1+1,⟨by omega,eV RN KZ⟩,by omega,?_⟩
     rw[bK _ k1 rfl (by omega)]
     try rfl
   ·try simp only[aX]at nW
    have Ml:(List.range x.aa.length).all (okD x)=true:=by rw[show x.aa.length=k1 by omega];exact RN
    exact aI (au X [2] rfl (ak (ah rfl ⟨by rw[okW,hh,mm,Ml];rfl,⟨⟩⟩)))
theorem tM(x:aR):So 49 [.agg (aZ x)] [aF (UG x)]:=by
 refine av X call49 func49 ntmps49 rfl rfl ?_
 intro zb
 refine bC 0 1 rfl rfl (fun hl1=> ?_)
 refine bC 0 2 rfl rfl (fun lH=>(au X [1] rfl (af (au X [1,3] rfl ?_))))
 refine ay (aG (fun k=>k≤x.aj.length∧(List.range k).all (Bs x)=true) (fun k:Nat=> [(3, .one ((aB k)))]) (fun k=> []) (fun k=>x.aj.length-k) 0 (fun k=>rfl) ⟨Nat.zero_le _,rfl⟩ rfl ?_)
 rintro k ⟨hk,hall⟩
 refine af (au X [1,3,9] rfl ?_)
 refine an rfl ?_ ?_<;>intro hb0
 ·try simp only[aX]at hb0
  refine aq (af (ay (aH X [1,3,4] rfl (by and_intros<;>first|exact⟨⟩| (intros;omega)) (aD X [] [(18,⟨false,[aF (bZ (x.aj.getD k (aA .bl)))]⟩)] [1,3,45] [] rfl (by(with_reducible and_intros)<;>first|exact⟨⟩|exact(cj (x.aj.getD k (aA .bl)))) ?_))))
  refine an rfl ?_ ?_<;>intro bz
  ·have hk2:Bs x k=false:=bN bz (by simp only[Bs,aQ]<;>first|rfl|ac_rfl)
   exact au X [2] rfl (ak (ah rfl ⟨by rw[show UG x=false from by rw[UG,gj hb0 hk2];simp],⟨⟩⟩))
  ·have hk2:Bs x k=true:=bM bz (by simp only[Bs,aQ]<;>first|rfl|ac_rfl)
   refine aq (bF X [1,3] rfl ?_)
   refine⟨k+1,⟨by omega,eV hall hk2⟩,by omega,?_⟩
   rw[bK _ k rfl (by omega)]
   try rfl
 ·try simp only[aX]at hb0
  have mm:(List.range x.aj.length).all (Bs x)=true:=by rw[show x.aj.length=k by omega];exact hall
  exact aI (aD X [] [(49,⟨false,[aF _]⟩)] [2] [] rfl (by(with_reducible and_intros)<;>first|exact⟨⟩|exact(eG _)) (ak (ah rfl ⟨by rw[UG,mm];rfl,⟨⟩⟩)))
theorem tN(x:aR):So 50 [.agg (aZ x)] [aF (RM x)]:=by
 refine av X call50 func50 ntmps50 rfl rfl ?_
 intro zb
 refine bC 0 1 rfl rfl (fun hl1=> ?_)
 refine bC 0 2 rfl rfl (fun lH=>(au X [1] rfl (au X [1,3] rfl (af (aD X [] [(14,⟨false,[aF (inr (x.aa.length:Int) 2 8)]⟩)] [1,3,16] [] rfl (by(with_reducible and_intros)<;>first|exact⟨⟩|exact fun _=>(aJ (x.aa.length:Int) 2 8)| (intros;omega)) ?_)))))
 refine an rfl ?_ ?_<;>intro hb0
 ·exact au X [2] rfl (ak (ah rfl ⟨by rw[show RM x=false from by rw[RM,bN (R:=((x.aa.length:Int).tmod 2==0)&&inr x.aa.length 2 8) hb0 (by simp only[aQ]<;>first|rfl|ac_rfl)];rfl],⟨⟩⟩))
 ·have hh:(((x.aa.length:Int).tmod 2==0)&&inr x.aa.length 2 8)=true:=bM hb0 (by simp only[aQ]<;>first|rfl|ac_rfl)
  have IW:x.aa.length % 2=0:=by simp only[Bool.and_eq_true,beq_iff_eq]at hh;have:=hh.1;rw[dj (by omega)]at this;omega
  have Zk:x.aa.length≤8:=by simp only[Bool.and_eq_true,bT]at hh;omega
  refine aq (af (au X [1,3,4] rfl ?_))
  refine ay (aG (fun k=>k≤x.aa.length∧(List.range k).all (okD x)=true) (fun k:Nat=> [(4, .one ((aB k)))]) (fun k=> []) (fun k=>x.aa.length-k) 0 (fun k=>rfl) ⟨Nat.zero_le _,rfl⟩ rfl ?_)
  rintro k ⟨hk,hall⟩
  refine af (au X [1,3,4,19] rfl ?_)
  refine an rfl ?_ ?_<;>intro bz
  ·try simp only[aX]at bz
   have hx:=Es k (by omega)
   have hlt:=rJ k x.aa.length bz IW
   refine aq (af (ay (aH X [1,3,4,5] rfl (by and_intros<;>first|exact⟨⟩| (intros;omega)) (dy X [] [(28,⟨false,[aF (cE (x.aa.getD k (aA .aS)))]⟩)] [1,3,4,66] [] 40 MO (by kernel_rfl) rfl (by(with_reducible and_intros)<;>first|exact⟨⟩|exact(cI (x.aa.getD k (aA .aS)))| ((intro h1;first| (intro h2;first| (intro h3;refine And.intro ?_ ?_)|refine And.intro ?_ ?_)|refine And.intro ?_ ?_)<;>first|omega| ((try simp only[aX]at*);(try simp(disch:=omega) only[bp]);omega))) ?_))))
   refine an rfl ?_ ?_<;>intro bW
   ·have KZ:okD x k=false:=bN bW (by simp only[okD,hx,aQ]<;>first|rfl|ac_rfl)
    exact au X [2] rfl (ak (ah rfl ⟨by rw[show RM x=false from by rw[RM,gj bz KZ];simp],⟨⟩⟩))
   ·have KZ:okD x k=true:=bM bW (by simp only[okD,hx,aQ]<;>first|rfl|ac_rfl)
    refine aq (bF X [1,3,4] rfl ?_)
    refine⟨k+1,⟨by omega,eV hall KZ⟩,by omega,?_⟩
    rw[bK _ k rfl (by omega)]
    try rfl
  ·try simp only[aX]at bz
   have Ml:(List.range x.aa.length).all (okD x)=true:=by rw[show x.aa.length=k by omega];exact hall
   exact aI (au X [2] rfl (ak (ah rfl ⟨by rw[RM,hh,Ml];rfl,⟨⟩⟩)))
theorem bS(x:aR):So 9 [.agg (aZ x)] [aF (okW x)]:=by
 refine av X call9 func9 ntmps9 rfl rfl ?_
 intro zb
 exact au X [1] rfl (dy X [] [(5,⟨false,[aF (inr x.rows 1 64)]⟩),(9,⟨false,[aF (inr x.round 0 100000)]⟩),(13,⟨false,[aF (UG x)]⟩),(17,⟨false,[aF (RM x)]⟩),(22,⟨false,[aF (dW x.az)]⟩),(35,⟨false,[aB (cW x.az)]⟩),(43,⟨false,[aF (ez x.bh)]⟩)] [2] [] 48 MO (by kernel_rfl) rfl (by(with_reducible and_intros);(iterate 7 all_goals try first|exact⟨⟩|exact(aJ x.rows 1 64)|exact fun _=>(aJ x.round 0 100000)|exact fun _=>(tM x)|exact fun _=>(tN x)|exact fun _=>(ia x.az)|exact fun _=>(iE x.az)|exact fun _=>(eY x.bh))) (ak (ah rfl ⟨(congrArg Value.bool (by simp only[okW,Ep,UG,RM,aQ]<;>first|rfl|ac_rfl)),⟨⟩⟩)))
theorem wX(key c:Int)(p:Plain):So 163 [aB key,aB c, .agg (gB p)] [.a (.sl .u8 (oQ key c p)),aF (gz key c p)]:=by
 refine av X call163 func163 ntmps163 rfl rfl ?_
 intro zb
 refine au X [0,1,5] rfl (af (aD X [] [(11,⟨false,[aF (ez key)]⟩),(15,⟨false,[aF (inr c 0 1000000000000)]⟩),(20,⟨false,[aF (jB p)]⟩)] [0,1,5,22] [] rfl (by(with_reducible and_intros);(iterate 3 all_goals try first|exact⟨⟩|exact(gP key)|exact fun _=>(aU c 0 1000000000000)|exact fun _=>(qE p))) ?_))
 refine an rfl ?_ ?_<;>intro hb0
 ·have hk:gz key c p=false:=bN hb0 (by simp only[gz,aQ]<;>first|rfl|ac_rfl)
  exact au X [6,7] rfl (ak (ah rfl ⟨by rw[oQ,if_neg (by rw[hk];decide)],by rw[hk],⟨⟩⟩))
 ·have hk:gz key c p=true:=bM hb0 (by simp only[gz,aQ]<;>first|rfl|ac_rfl)
  have hp:=kZ hk
  have hst:(stream (kh key [61,c]) (18:Int).toNat).length=18:=dO _ _
  have kP:(eF key c p).length≤100:=by unfold eF;simp only[List.length_append,List.length_drop,List.length_cons,List.length_nil,dO];omega
  have hf4:(four (lM key c (ji (lN key c) (eF key c p)))).length=4:=rfl
  have hel:(ji (lN key c) (eF key c p)).length≤100:=by rw[gf];exact kP
  refine aq (aD X [(33,30)] [] [0,1,5,8] [] rfl (by and_intros<;>first|exact⟨⟩|exact rfl|exact(gd _).1|exact(gd _).2| (simp only[dB,maxLen,lens];omega)) (dy X [(44,30)] [(38,⟨false,[aB (kh key [61,c])]⟩),(39,⟨true,[.a (.sl .u8 (stream (kh key [61,c]) (18:Int).toNat))]⟩)] [0,1,8] [] 10 MO (by kernel_rfl) rfl (by(repeat' with_reducible first|exact aL|refine aT ?_ ?_|apply And.intro);(iterate 2 all_goals try first|exact(cT key [61,c] (by first|assumption|omega| (simp;done)| (simp;omega)))|exact(rH (kh key [61,c]) 18 (by first|assumption|omega| (simp;done)| (simp;omega)) (by first|assumption|omega| (simp;done)| (simp;omega))));all_goals first| (intros;omega)|exact rfl|exact⟨rfl,aV _ (by decide)⟩| (simp only[dB,maxLen,lens];omega)) ?_))
  refine aD X [] [(47,⟨false,[aB (lN key c)]⟩),(49,⟨true,[.a (.sl .u8 (ji (lN key c) (eF key c p)))]⟩)] [0,1,9] [] rfl (by(with_reducible and_intros);(iterate 2 all_goals try first|exact⟨⟩|exact(zu key c)|exact(zn (lN key c) (eF key c p) (by first|assumption|omega| (simp;done)| (simp;omega))))) (af ?_)
  have t1:=(tJ key c (ji (lN key c) (eF key c p)) (by first|assumption|omega| (simp;done)| (simp;omega)))
  exact aP X [(55,49)] [(54,⟨true,bQ t1⟩)] [6,7] [] rfl (by(with_reducible and_intros)<;>first|exact⟨⟩|exact t1|exact rfl| (simp only[dB,maxLen,lens];omega)) (ak (ah rfl ⟨by rw[oQ,if_pos hk],by rw[hk],⟨⟩⟩))
theorem wY(key c:Int)(p:Plain):So 167 [aB key,aB c, .agg (gB p)] [.a (.sl .u8 (oQ key c p)),aF (gz key c p)]:=by
 refine av X call167 func167 ntmps167 rfl rfl ?_
 intro zb
 refine au X [0,1,5] rfl (af (aD X [] [(12,⟨false,[aF (ez key)]⟩),(16,⟨false,[aF (inr c 0 1000000000000)]⟩),(21,⟨false,[aF (jB p)]⟩)] [0,1,5,23] [] rfl (by(with_reducible and_intros);(iterate 3 all_goals try first|exact⟨⟩|exact(eY key)|exact fun _=>(aJ c 0 1000000000000)|exact fun _=>(qF p))) ?_))
 refine an rfl ?_ ?_<;>intro hb0
 ·have hk:gz key c p=false:=bN hb0 (by simp only[gz,aQ]<;>first|rfl|ac_rfl)
  exact aH X [6,7] rfl (by and_intros<;>first|exact⟨⟩|exact rfl) (ak (ah rfl ⟨by rw[oQ,if_neg (by rw[hk];decide)],by rw[hk],⟨⟩⟩))
 ·have hk:gz key c p=true:=bM hb0 (by simp only[gz,aQ]<;>first|rfl|ac_rfl)
  have hp:=kZ hk
  have hst:(stream (kh key [61,c]) (18:Int).toNat).length=18:=dO _ _
  have kP:(eF key c p).length≤100:=by unfold eF;simp only[List.length_append,List.length_drop,List.length_cons,List.length_nil,dO];omega
  have hf4:(four (lM key c (ji (lN key c) (eF key c p)))).length=4:=rfl
  have hel:(ji (lN key c) (eF key c p)).length≤100:=by rw[gf];exact kP
  refine aq (aD X [(35,32)] [] [0,1,5,8] [] rfl (by and_intros<;>first|exact⟨⟩|exact rfl|exact(gd _).1|exact(gd _).2| (simp only[dB,maxLen,lens];omega)) (dy X [(46,32)] [(40,⟨false,[aB (kh key [61,c])]⟩),(41,⟨true,[.a (.sl .u8 (stream (kh key [61,c]) (18:Int).toNat))]⟩)] [0,1,8] [] 10 MO (by kernel_rfl) rfl (by(repeat' with_reducible first|exact aL|refine aT ?_ ?_|apply And.intro);(iterate 2 all_goals try first|exact(aW key [61,c] (by first|assumption|omega| (simp;done)| (simp;omega)))|exact(gy (kh key [61,c]) 18 (by first|assumption|omega| (simp;done)| (simp;omega)) (by first|assumption|omega| (simp;done)| (simp;omega))));all_goals first| (intros;omega)|exact rfl|exact⟨rfl,aV _ (by decide)⟩| (simp only[dB,maxLen,lens];omega)) ?_))
  refine aD X [] [(49,⟨false,[aB (lN key c)]⟩),(51,⟨true,[.a (.sl .u8 (ji (lN key c) (eF key c p)))]⟩)] [0,1,9] [] rfl (by(with_reducible and_intros);(iterate 2 all_goals try first|exact⟨⟩|exact(mj key c)|exact(zo (lN key c) (eF key c p) (by first|assumption|omega| (simp;done)| (simp;omega))))) (af ?_)
  have t1:=(mh key c (ji (lN key c) (eF key c p)) (by first|assumption|omega| (simp;done)| (simp;omega)))
  exact aP X [] [(55,⟨false,bQ t1⟩)] [9,10] [] rfl (by(with_reducible and_intros)<;>first|exact⟨⟩|exact t1) (aD X [(69,51)] [] [6,7] [] rfl (by and_intros<;>first|exact⟨⟩| (intros;omega)|exact rfl|exact(gd _).1|exact(gd _).2| (simp only[dB,maxLen,lens];omega)) (ak (ah rfl ⟨(congrArg (fun z=>ji (lN key c) (eF key c p)++z) (HI _)).trans (by rw[oQ,if_pos hk]),by rw[hk],⟨⟩⟩)))
theorem eH(x:aR)(c:Int):So 79 [.agg (aZ x),aB c] [aF (jC x c)]:=by
 refine av X call79 func79 ntmps79 rfl rfl ?_
 intro zb
 exact bC 0 2 rfl rfl (fun lH=>(au X [1,2] rfl (aD X [] [(10,⟨false,[aF _]⟩)] [4] [] rfl (by(with_reducible and_intros)<;>first|exact⟨⟩|exact(aU _ _ _)) (ak (ah rfl ⟨by rw[bp (by omega)];rfl,⟨⟩⟩)))))
theorem oV(x:aR)(c:Int)(hd:x.aa.length≤1048576):So 72 [.agg (aZ x),aB c] [aF (dA x c)]:=by
 refine av X call72 func72 ntmps72 rfl rfl ?_
 intro zb
 refine au X [1,2] rfl (af ?_)
 have t1:=(eH x (IntKind.i64.wrap (BitVec.ofInt IntKind.i64.bits c^^^BitVec.ofInt IntKind.i64.bits 1).toNat))
 exact aP X [] [(7,⟨false,[aF (jC x c)]⟩),(12,⟨false,bQ t1⟩)] [4] [] rfl (by(with_reducible and_intros);(iterate 2 all_goals try first|exact⟨⟩|exact(eH x c)|exact fun _=>t1)) (ak (ah rfl ⟨by rw[oR,Jj hd],⟨⟩⟩))
theorem oW(x:aR)(c:Int)(hd:x.aa.length≤1048576):So 88 [.agg (aZ x),aB c] [aF (dA x c)]:=by
 refine av X call88 func88 ntmps88 rfl rfl ?_
 intro zb
 refine au X [1,2] rfl (af ?_)
 have t1:=(aJ c 0 (IntKind.i64.wrap ((x.aa.length:Int)-1)))
 exact aP X [] [(10,⟨false,bQ t1⟩)] [4] [] rfl (by(with_reducible and_intros)<;>first|exact⟨⟩|exact t1) (ak (ah rfl ⟨by rw[bp (by omega),oR,Jk hd],⟨⟩⟩))
theorem mu(c:cX):So 95 [.agg (bR c)] [aB (cB c)]:=by
 refine av X call95 func95 ntmps95 rfl rfl ?_
 intro zb
 refine au X [1] rfl (af (au X [7] rfl ?_))
 refine an rfl ?_ ?_<;>intro hb0
 ·try simp only[aX]at hb0
  exact au X [2] rfl (ak (ah rfl ⟨by rw[cB,if_pos hb0],⟨⟩⟩))
 ·try simp only[aX]at hb0
  exact aq (au X [2] rfl (ak (ah rfl ⟨by rw[cB,if_neg (by omega)],⟨⟩⟩)))
theorem rL(c:cX)(a:Int)(h0:0≤a)(h1:a<c.aE.length):So 97 [.agg (bR c),aB a] [.a (.sl .u8 (kY c a))]:=by
 refine av X call97 func97 ntmps97 rfl rfl ?_
 intro zb
 refine au X [1,2] rfl (af ?_)
 have t1:=(wX (rI c.key (cB c)) a (⟨1,(c.aE.getD (a).toNat (aA (.sl .u8)))⟩:Plain))
 exact bU X [] [(11,⟨false,[aB (cB c)]⟩),(12,⟨false,[aB (rI c.key (cB c))]⟩),(20,⟨true,bQ t1⟩)] [5] [] 18 MO (by kernel_rfl) rfl (by(with_reducible and_intros);(iterate 3 all_goals try first|exact⟨⟩|exact(mu c)|exact(qG c.key (cB c))|exact t1);all_goals first| (intros;omega)) (au X [4] rfl (ak (ah rfl ⟨rfl,⟨⟩⟩)))
theorem zx(d:DB)(i:Int)(hs0:dc List.length d.rows≤1048576):So 93 [.agg (bA d),aB i] [.a (.sl .u8 (rowAt d i)),aF (nA d i)]:=by
 refine av X call93 func93 ntmps93 rfl rfl ?_
 intro zb
 have l5:d.rows.length≤1048576:=cN hs0
 refine au X [1,2] rfl (af (af ?_))
 have t1:=(aU i 0 (IntKind.i64.wrap ((d.rows.length:Int)-1)))
 refine aP X [] [(11,⟨false,bQ t1⟩)] [1,2,12] [] rfl (by(with_reducible and_intros)<;>first|exact⟨⟩|exact t1) ?_
 refine an rfl ?_ ?_<;>intro hb0
 ·rw[bp (by omega)]at hb0
  have hk:nA d i=false:=bN hb0 rfl
  exact au X [4,5] rfl (ak (ah rfl ⟨by rw[rowAt,if_neg (by rw[hk];decide)],by rw[hk],⟨⟩⟩))
 ·rw[bp (by omega)]at hb0
  have hk:nA d i=true:=bM hb0 rfl
  have hk2:=hk
  simp only[nA,bT]at hk2
  have hel:=Gh hs0 i.toNat (by omega)
  exact aq (aD X [] [(18,⟨true,[.a (.sl .u8 _)]⟩)] [4,5] [] rfl (by(with_reducible and_intros)<;>first|exact⟨⟩|exact(gh _ (by first|assumption|omega| (simp;done)| (simp;omega)))| (intros;omega)) (ak (ah rfl ⟨by rw[rowAt,if_pos hk],by rw[hk],⟨⟩⟩)))
theorem cR(c:cX):So 99 [.agg (bR c)] [aB (cB c)]:=by
 refine av X call99 func99 ntmps99 rfl rfl ?_
 intro zb
 refine au X [1] rfl (af (au X [7] rfl ?_))
 refine an rfl ?_ ?_<;>intro hb0
 ·try simp only[aX]at hb0
  exact au X [2] rfl (ak (ah rfl ⟨by rw[cB,if_pos hb0],⟨⟩⟩))
 ·try simp only[aX]at hb0
  exact aq (au X [2] rfl (ak (ah rfl ⟨by rw[cB,if_neg (by omega)],⟨⟩⟩)))
theorem ke(c:cX)(h0:0≤c.sent)(h1:c.sent<c.aE.length):So 102 [.agg (bR c)] [.a (.sl .u8 (kY c c.sent))]:=by
 refine av X call102 func102 ntmps102 rfl rfl ?_
 intro zb
 refine au X [1] rfl (af ?_)
 have t1:=(wY (rI c.key (cB c)) c.sent (⟨1,(c.aE.getD (c.sent).toNat (aA (.sl .u8)))⟩:Plain))
 exact bU X [] [(9,⟨false,[aB (cB c)]⟩),(10,⟨false,[aB (rI c.key (cB c))]⟩),(20,⟨true,bQ t1⟩)] [3] [] 20 MO (by kernel_rfl) rfl (by(with_reducible and_intros);(iterate 3 all_goals try first|exact⟨⟩|exact(cR c)|exact(fX c.key (cB c))|exact t1);all_goals first| (intros;omega)) (au X [2] rfl (ak (ah rfl ⟨rfl,⟨⟩⟩)))
theorem rM(c:cX)(r n:Int):So 300 [.agg (bR c),aB r,aB n] [aB (qW c r n), .a (.sl .u8 (j9 c r n)),aF (rK c r n)]:=by
 refine av X call300 func300 ntmps300 rfl rfl ?_
 intro zb
 refine bC 0 4 rfl rfl (fun l5=>(au X [1,2,3] rfl (af (aD X [] [(10,⟨false,[aF (cG c)]⟩),(14,⟨false,[aF (inr r 0 100000)]⟩),(19,⟨false,[aF (inr n 1 64)]⟩)] [1,2,3,21] [] rfl (by(with_reducible and_intros);(iterate 3 all_goals try first|exact⟨⟩|exact(cH c)|exact fun _=>(aJ r 0 100000)|exact fun _=>(aJ n 1 64))) ?_))))
 refine an rfl ?_ ?_<;>intro hb0
 ·have hk:rK c r n=false:=bN hb0 (by simp only[rK,aQ]<;>first|rfl|ac_rfl)
  exact aH X [6,7,8] rfl (by and_intros<;>first|exact⟨⟩|exact rfl) (ak (ah rfl ⟨by rw[qW,if_neg (by rw[hk];decide)],by rw[j9,if_neg (by rw[hk];decide)],by rw[hk],⟨⟩⟩))
 ·have hk:rK c r n=true:=bM hb0 (by simp only[rK,aQ]<;>first|rfl|ac_rfl)
  have hs:=Bt hk
  refine aq (af (au X [1,2,3,28] rfl ?_))
  refine an rfl ?_ ?_<;>intro bz
  ·try simp only[aX]at bz
   exact dy X [] [(33,⟨false,[aB (cB c)]⟩),(35,⟨false,[aB (fD c.key r (cB c) n)]⟩),(37,⟨true,[.a (.sl .u8 (kY c c.sent))]⟩)] [6,7,8] [] 12 MO (by kernel_rfl) rfl (by(with_reducible and_intros);(iterate 3 all_goals try first|exact⟨⟩|exact(cR c)|exact(eZ c.key r (cB c) n)|exact(ke c (by first|assumption|omega| (simp;done)| (simp;omega)) (by first|assumption|omega| (simp;done)| (simp;omega))))) (ak (ah rfl ⟨by rw[qW,if_pos hk,if_pos bz],by rw[j9,if_pos hk,if_pos bz],by rw[hk],⟨⟩⟩))
  ·try simp only[aX]at bz
   refine aq (dy X [] [(42,⟨false,[aB (Eo c.seed r n)]⟩),(47,⟨false,[aB (kh c.seed [r])]⟩),(48,⟨true,[.a (.sl .u8 (cover (kh c.seed [r])))]⟩)] [6,7,8] [] 14 MO (by kernel_rfl) rfl (by(repeat' with_reducible first|exact aL|refine aT ?_ ?_|apply And.intro);(iterate 3 all_goals try first|exact(wW c.seed r n)|exact(aW c.seed [r] (by first|assumption|omega| (simp;done)| (simp;omega)))|exact(uT (kh c.seed [r])));all_goals first|exact⟨rfl,aV _ (by decide)⟩) ?_)
   exact ak (ah rfl ⟨by rw[qW,if_pos hk,if_neg (by omega)],by rw[j9,if_pos hk,if_neg (by omega)],by rw[hk],⟨⟩⟩)
theorem zy(d:DB)(i:Int)(hs0:dc List.length d.rows≤1048576):So 100 [.agg (bA d),aB i] [.a (.sl .u8 (rowAt d i)),aF (nA d i)]:=by
 refine av X call100 func100 ntmps100 rfl rfl ?_
 intro zb
 have l5:d.rows.length≤1048576:=cN hs0
 refine au X [1,2] rfl (af (af ?_))
 have t1:=(aJ i 0 (IntKind.i64.wrap ((d.rows.length:Int)-1)))
 refine aP X [] [(11,⟨false,bQ t1⟩)] [1,2,12] [] rfl (by(with_reducible and_intros)<;>first|exact⟨⟩|exact t1) ?_
 refine an rfl ?_ ?_<;>intro hb0
 ·rw[bp (by omega)]at hb0
  have hk:nA d i=false:=bN hb0 rfl
  exact aH X [4,5] rfl (by and_intros<;>first|exact⟨⟩|exact rfl) (ak (ah rfl ⟨by rw[rowAt,if_neg (by rw[hk];decide)],by rw[hk],⟨⟩⟩))
 ·rw[bp (by omega)]at hb0
  have hk:nA d i=true:=bM hb0 rfl
  have hk2:=hk
  simp only[nA,bT]at hk2
  have hel:=Gh hs0 i.toNat (by omega)
  exact aq (aD X [(20,14)] [] [4,5] [] rfl (by and_intros<;>first|exact⟨⟩| (intros;omega)|exact rfl| (simp only[dB,maxLen,lens];omega)) (ak (ah rfl ⟨by rw[rowAt,if_pos hk];rfl,by rw[hk],⟨⟩⟩)))
end
section
set_option maxRecDepth 100000
theorem gA(v:List Int)(rows:Int):So 333 [.a (.sl .int v),aB rows] [aF (ig v rows)]:=by
 refine av X call333 func333 ntmps333 rfl rfl ?_
 intro zb
 refine dD 0 rfl (fun l5=>(au X [0,1] rfl (af (au X [0,1,5] rfl ?_))))
 refine ay (aG (fun k=>k≤v.length∧(v.take k).all (fun x=>inr x 0 1)=true) (fun k:Nat=> [(5, .one ((aB k)))]) (fun k=> []) (fun k=>v.length-k) 0 (fun k=>rfl) ⟨Nat.zero_le _,rfl⟩ rfl ?_)
 rintro k ⟨hk,hall⟩
 refine af (au X [0,1,5,9] rfl ?_)
 refine an rfl ?_ ?_<;>intro hb0
 ·try simp only[aX]at hb0
  refine aq (af (ay (aD X [] [(16,⟨false,[aF (inr (v.getD k (aA .int)) 0 1)]⟩)] [0,1,5,17] [] rfl (by(with_reducible and_intros)<;>first|exact⟨⟩|exact(aJ (v.getD k (aA .int)) 0 1)| (intros;omega)) ?_)))
  refine an rfl ?_ ?_<;>intro bz
  ·exact au X [4] rfl (ak (ah rfl ⟨by rw[ig,zk _ _ (aA .int) k hb0 (by simpa using bz)];simp,⟨⟩⟩))
  ·refine aq (bF X [0,1,5] rfl ?_)
   refine⟨k+1,⟨by omega,by rw[oO _ _ _ (aA .int) hb0,hall];simpa using bz⟩,by omega,?_⟩
   rw[bK _ k rfl (by omega)]
   try rfl
 ·try simp only[aX]at hb0
  exact aI (au X [4] rfl (ak (ah rfl ⟨by rw[List.take_of_length_le hb0]at hall;rw[ig,hall];exact(congrArg Value.bool (by simp only[aQ]<;>first|rfl|ac_rfl)),⟨⟩⟩)))
theorem gS(sd rows:Int):So 276 [aB sd,aB rows] [.a (.sl .int (bY sd rows))]:=by
 refine av X call276 func276 ntmps276 rfl rfl ?_
 intro zb
 refine au X [0,1] rfl (aH X [0,1,5] rfl (by and_intros<;>first|exact⟨⟩|exact rfl) (af (au X [0,1,5,6] rfl ?_)))
 refine ay (aG (fun k=>k≤(bY sd rows).length) (fun k:Nat=> [(6, .one ((aB k)))]) (fun k=> [(8, .arr .int ((bY sd rows).take k))]) (fun k=>(bY sd rows).length-k) 0 (fun k=>rfl) (Nat.zero_le _) rfl ?_)
 intro k hk
 have hle:=bJ (bY sd rows) k
 have hrl:=k8 sd rows
 refine af (au X [0,1,5,6,15] rfl ?_)
 refine an rfl ?_ ?_<;>intro hb0
 ·try simp only[aX]at hb0
  have hin:=zz sd rows k (by omega) (by omega)
  have hs:=CL sd rows k (by omega) (by omega)
  refine aq (af (ay (aD X [] [(21,⟨false,[aB (kh sd [(k:Int),41])]⟩)] [0,1,5,6,7] [] rfl (by(repeat' with_reducible first|exact aL|refine aT ?_ ?_|apply And.intro)<;>first|exact(aW sd [(k:Int),41] (by first|assumption|omega| (simp;done)| (simp;omega)))|exact⟨rfl,aV _ (by decide)⟩) ?_)))
  refine aP X [(30,8)] [] [0,1,5,6] [] rfl (by and_intros<;>first|exact⟨⟩| (intros;omega)|exact rfl| (simp only[dB,maxLen,lens];omega)) (bF X [0,1,5,6] rfl ?_)
  refine⟨k+1,by omega,by omega,?_⟩
  rw[bK _ k rfl (by omega),hs]
  try rfl
 ·try simp only[aX]at hb0
  exact aI (au X [4] rfl (ak (ah rfl ⟨by rw[Eu _ _ _ (by omega)],⟨⟩⟩)))
theorem oY(rows i:Int):So 328 [aB rows,aB i] [.a (.sl .int (wv rows i))]:=by
 refine av X call328 func328 ntmps328 rfl rfl ?_
 intro zb
 refine au X [0,1] rfl (af (aD X [] [(7,⟨false,[aF (inr rows 1 64)]⟩),(13,⟨false,[aF (inr i 0 (IntKind.i64.wrap (rows-1)))]⟩)] [0,1,15] [] rfl (by(with_reducible and_intros);(iterate 2 all_goals try first|exact⟨⟩|exact(aJ rows 1 64)|exact fun _=>(aJ i 0 (IntKind.i64.wrap (rows-1))))) ?_))
 refine an rfl ?_ ?_<;>intro hb0
 ·have hk:lS rows i=false:=bN hb0 (by simp only[lS,aQ]<;>first|rfl|ac_rfl)
  exact aH X [4] rfl (by and_intros<;>first|exact⟨⟩|exact rfl) (ak (ah rfl ⟨by rw[By hk],⟨⟩⟩))
 ·have hk:lS rows i=true:=bM hb0 (by simp only[lS,aQ]<;>first|rfl|ac_rfl)
  have hu:=Ex hk
  exact aq (aH X [1,5] rfl (by and_intros<;>first|exact⟨⟩| (intros;omega)|exact rfl| (simp only[dB,maxLen,lens];omega)) (aH X [5] rfl (by and_intros<;>first|exact⟨⟩| (intros;omega)| (simp only[dB,maxLen,lens];omega)) (au X [4] rfl (ak (ah rfl ⟨by rw[Bx hk],⟨⟩⟩)))))
theorem oZ(a b:List Int)(ha:a.length≤1048576)(hb:b.length≤1048576):So 329 [.a (.sl .int a), .a (.sl .int b)] [.a (.sl .int (oX a b))]:=by
 refine av X call329 func329 ntmps329 rfl rfl ?_
 intro zb
 refine au X [0,1] rfl (aH X [0,1,5] rfl (by and_intros<;>first|exact⟨⟩|exact rfl) (af (aD X [] [(11,⟨false,[aF (ig a (a.length:Int))]⟩),(17,⟨false,[aF (ig b (a.length:Int))]⟩)] [0,1,5,19] [] rfl (by(with_reducible and_intros);(iterate 2 all_goals try first|exact⟨⟩|exact(gA a (a.length:Int))|exact fun _=>(gA b (a.length:Int)))) ?_)))
 refine an rfl ?_ ?_<;>intro hb0
 ·have Gp:mw a b=false:=bN hb0 (by simp only[mw,aQ]<;>first|rfl|ac_rfl)
  exact au X [4] rfl (ak (ah rfl ⟨by rw[oX,if_neg (by rw[Gp];decide)],⟨⟩⟩))
 ·have Gp:mw a b=true:=bM hb0 (by simp only[mw,aQ]<;>first|rfl|ac_rfl)
  have Ax:=qd Gp
  have hzl:=CM Gp
  refine aq (af (au X [0,1,5,6] rfl ?_))
  refine ay (aG (fun k=>k≤a.length) (fun k:Nat=> [(6, .one ((aB k)))]) (fun k=> [(7, .arr .int ((List.zipWith xb a b).take k))]) (fun k=>a.length-k) 0 (fun k=>rfl) (Nat.zero_le _) rfl ?_)
  intro k hk
  have hle:=bJ (List.zipWith xb a b) k
  refine af (au X [0,1,5,6,24] rfl ?_)
  refine an rfl ?_ ?_<;>intro bz
  ·try simp only[aX]at bz
   have hs:=Ew Gp k bz
   refine aq (af (ay (bU X [(38,7)] [] [0,1,5,6] [] 11 MO (by kernel_rfl) rfl (by and_intros<;>first|exact⟨⟩| (intros;omega)|exact rfl| (simp only[dB,maxLen,lens];omega)) (bF X [0,1,5,6] rfl ?_))))
   refine⟨k+1,by omega,by omega,?_⟩
   rw[bK _ k rfl (by omega),hs]
   try rfl
  ·try simp only[aX]at bz
   exact aI (au X [4] rfl (ak (ah rfl ⟨by rw[List.take_of_length_le (by omega),zA Gp],⟨⟩⟩)))
theorem uY(rows i:Int)(sd:List Int)(Bp:sd.length≤1048576):So 307 [aB rows,aB i, .a (.sl .int sd)] [.a (.sl (.sl .int) (tO rows i sd))]:=by
 refine av X call307 func307 ntmps307 rfl rfl ?_
 intro zb
 have hun:=Bz rows i
 refine au X [0,1,2] rfl (aH X [0,1,2,7] rfl (by and_intros<;>first|exact⟨⟩|exact rfl) (aD X [] [(14,⟨true,[.a (.sl .int _)]⟩)] [0,2,7,8] [] rfl (by(with_reducible and_intros)<;>first|exact⟨⟩|exact(oY _ _)) (af (aD X [] [(22,⟨false,[aF (cg (IntKind.i64.wrap ((sd.length:Int)+1)))]⟩)] [0,2,7,8,24] [] rfl (by(with_reducible and_intros)<;>first|exact⟨⟩|exact fun _=>(eG (IntKind.i64.wrap ((sd.length:Int)+1)))) ?_))))
 refine an rfl ?_ ?_<;>intro hb0
 ·have hmk:Gj rows i sd=false:=bN hb0 (by simp only[Gj,aQ]<;>first|rfl|ac_rfl)
  exact au X [6] rfl (ak (ah rfl ⟨by rw[tO,if_neg (by rw[hmk];decide)],⟨⟩⟩))
 ·have hmk:Gj rows i sd=true:=bM hb0 (by simp only[Gj,aQ]<;>first|rfl|ac_rfl)
  have Ax:=Mm hmk Bp
  refine aq (af (au X [0,2,7,8,9] rfl ?_))
  refine ay (aG (fun k=>k≤sd.length) (fun k:Nat=> [(9, .one ((aB k)))]) (fun k=> [(11, .arr (.sl .int) ((sd.take k).map fun s=>bY s rows)),(14, .arr .int (zB rows i (sd.take k)))]) (fun k=>sd.length-k) 0 (fun k=>rfl) (Nat.zero_le _) rfl ?_)
  intro k hk
  have hle:=bJ sd k
  have hql:=BA rows i (sd.take k)
  refine af (au X [0,2,7,8,9,29] rfl ?_)
  refine an rfl ?_ ?_<;>intro bz
  ·try simp only[aX]at bz
   have hs:=oN (fun s=>bY s rows) sd k (aA .int) bz
   have Fu:=Gk rows i sd k bz
   have hrl:=k8 (sd.getD k (aA .int)) rows
   refine aq (af (ay (aD X [] [(37,⟨true,[.a (.sl .int (bY (sd.getD k (aA .int)) rows))]⟩)] [0,2,7,8,9,10] [] rfl (by(with_reducible and_intros)<;>first|exact⟨⟩|exact(gS (sd.getD k (aA .int)) rows)| (intros;omega)) (af ?_))))
   have t1:=(oZ (zB rows i (sd.take k)) (bY (sd.getD k (aA .int)) rows) (by first|assumption|omega| (simp;done)| (simp;omega)) (by first|assumption|omega| (simp;done)| (simp;omega)))
   refine aP X [] [(40,⟨true,bQ t1⟩)] [0,2,7,8,9,10] [] rfl (by(with_reducible and_intros)<;>first|exact⟨⟩|exact t1) (uX 8 14 rfl (aP X [(44,11)] [] [0,2,7,8,9] [] rfl (by and_intros<;>first|exact⟨⟩|exact rfl| (simp only[dB,maxLen,lens];omega)) (bF X [0,2,7,8,9] rfl ?_)))
   refine⟨k+1,by omega,by omega,?_⟩
   rw[bK _ k rfl (by omega),hs,Fu]
   try rfl
  ·try simp only[aX]at bz
   exact aI (aD X [(48,11)] [] [6] [] rfl (by and_intros<;>first|exact⟨⟩|exact rfl| (simp only[dB,maxLen,lens];omega)) (ak (ah rfl ⟨by rw[List.take_of_length_le bz,tO,if_pos hmk],⟨⟩⟩)))
end
section
set_option maxRecDepth 100000
theorem cZ(d:DB)(hs0:dc List.length d.rows≤1048576):So 212 [.agg (bA d)] [.agg (bA d)]:=by
 refine av X call212 func212 ntmps212 rfl rfl ?_
 intro zb
 exact au X [1,2] rfl (aD X [] [(5,⟨true,[.a (.sl (.sl .u8) d.rows)]⟩)] [2] [] rfl (by(with_reducible and_intros)<;>first|exact⟨⟩|exact(lO d.rows (by first|assumption|omega| (simp;done)| (simp;omega)))) (ak (ah rfl ⟨rfl,⟨⟩⟩)))
theorem kg(rows:Int):So 290 [aB rows] [.agg (bA (dr rows))]:=by
 refine av X call290 func290 ntmps290 rfl rfl ?_
 intro zb
 refine au X [0,2] rfl (au X [0,2,3] rfl (jN 3 0 60 (.sl .u8) rfl (af (au X [0,2,3,4] rfl ?_))))
 refine ay (aG (fun k=>k≤(dr rows).rows.length) (fun k:Nat=> [(4, .one ((aB k)))]) (fun k=> [(60, .arr (.sl .u8) ((dr rows).rows.take k))]) (fun k=>(dr rows).rows.length-k) 0 (fun k=>rfl) (Nat.zero_le _) rfl ?_)
 intro k hk
 have hle:=bJ (dr rows).rows k
 have hnl:=qh rows
 refine af (au X [0,2,3,4,12] rfl ?_)
 refine an rfl ?_ ?_<;>intro hb0
 ·try simp only[aX]at hb0
  have hin:=Mo rows k (by omega) (by omega)
  have hs:=Gq rows k (by omega) (by omega)
  refine aq (af (ay (bU X [(19,60)] [(500018,⟨true,[]⟩)] [0,2,3,4] [] 4 MO (by kernel_rfl) rfl (by and_intros<;>first|exact⟨⟩| (intros;omega)|exact rfl| (simp only[dB,maxLen,lens];omega)) (bF X [0,2,3,4] rfl ?_))))
  refine⟨k+1,by omega,by omega,?_⟩
  rw[bK _ k rfl (by omega),hs]
  try rfl
 ·try simp only[aX]at hb0
  exact aI (aH X [2] rfl (by trivial) (ak (ah rfl ⟨by rw[Jn _ _ (by omega)],⟨⟩⟩)))
theorem tR(d:DB)(i:Int)(c:List UInt8)(hs0:dc List.length d.rows≤1048576)(hc:c.length≤1048576):So 325 [.agg (bA d),aB i, .a (.sl .u8 c)] [.agg (bA (zC d i c)),aF (nB d i c)]:=by
 refine av X call325 func325 ntmps325 rfl rfl ?_
 intro zb
 have l5:d.rows.length≤1048576:=cN hs0
 refine au X [1,2,3,6] rfl (aD X [] [(10,⟨true,[.agg (bA d)]⟩)] [1,2,3,6,8] [] rfl (by(with_reducible and_intros)<;>first|exact⟨⟩|exact(cZ d (by first|assumption|omega| (simp;done)| (simp;omega)))) (af (af ?_)))
 have t1:=(aJ i 0 (IntKind.i64.wrap ((d.rows.length:Int)-1)))
 refine aP X [] [(16,⟨false,bQ t1⟩)] [1,2,6,8,22] [] rfl (by(with_reducible and_intros)<;>first|exact⟨⟩|exact t1) ?_
 refine an rfl ?_ ?_<;>intro hb0
 ·have Oi:nB d i c=false:=bN hb0 (by simp only[nB,aQ]<;>first|rfl|ac_rfl)
  exact aH X [6,7] rfl (by trivial) (ak (ah rfl ⟨by rw[Jo Oi],by rw[Oi],⟨⟩⟩))
 ·have Oi:nB d i c=true:=bM hb0 (by simp only[nB,aQ]<;>first|rfl|ac_rfl)
  have hrb:=HJ l5 Oi
  exact aq (af (cJ X [(29,27)] [] [6,8] [] 95 5 MO (by kernel_rfl) rfl (by kernel_rfl) (by and_intros<;>first|exact⟨⟩| (intros;omega)|exact rfl| (simp only[dB,maxLen,lens];omega)) (aH X [6,7] rfl (by trivial) (ak (ah rfl ⟨by rw[uZ Oi];rfl,by rw[Oi],⟨⟩⟩)))))
theorem fY(a b:DB)(hs0:dc List.length a.rows≤1048576)(hs1:dc List.length b.rows≤1048576):So 306 [.agg (bA a), .agg (bA b)] [.agg (bA (fG a b)),aF (jD a b)]:=by
 refine av X call306 func306 ntmps306 rfl rfl ?_
 intro zb
 have hla:a.rows.length≤1048576:=cN hs0
 have hlb:b.rows.length≤1048576:=cN hs1
 refine au X [2,3,4] rfl (af (aD X [] [(9,⟨false,[aF (b9 a)]⟩),(13,⟨false,[aF (b9 b)]⟩)] [2,3,4,24] [] rfl (by(with_reducible and_intros);(iterate 2 all_goals try first|exact⟨⟩|exact(bX a)|exact fun _=>(bX b))) ?_))
 refine an rfl ?_ ?_<;>intro hb0
 ·have Gp:jD a b=false:=bN hb0 (by simp only[jD,aQ]<;>first|rfl|ac_rfl)
  exact aD X [] [(26,⟨true,[.agg (bA a)]⟩)] [4,5] [] rfl (by(with_reducible and_intros)<;>first|exact⟨⟩|exact(cZ a (by first|assumption|omega| (simp;done)| (simp;omega)))) (ak (ah rfl ⟨by rw[ql Gp],by rw[Gp],⟨⟩⟩))
 ·have Gp:jD a b=true:=bM hb0 (by simp only[jD,aQ]<;>first|rfl|ac_rfl)
  have UZ:=zE Gp
  have hxl:=m7 Gp
  refine aq (au X [2,3,4,6] rfl (jN 6 0 60 (.sl .u8) rfl (af (au X [2,3,4,6,7] rfl ?_))))
  refine ay (aG (fun k=>k≤a.rows.length) (fun k:Nat=> [(7, .one ((aB k)))]) (fun k=> [(60, .arr (.sl .u8) ((jm a b).take k))]) (fun k=>a.rows.length-k) 0 (fun k=>rfl) (Nat.zero_le _) rfl ?_)
  intro k hk
  have hle:=bJ (jm a b) k
  refine af (au X [2,3,4,6,7,32] rfl ?_)
  refine an rfl ?_ ?_<;>intro bz
  ·try simp only[aX]at bz
   have hs:=Ez Gp k bz
   have aaF:(a.rows.getD k (aA (.sl .u8))).length≤1048576:=by rw[qi UZ.1 k (by omega)];decide
   have aaG:(b.rows.getD k (aA (.sl .u8))).length≤1048576:=by rw[qi UZ.2.1 k (by omega)];decide
   refine aq (af (ay ?_))
   have t1:=(gm (a.rows.getD k (aA (.sl .u8))) (b.rows.getD k (aA (.sl .u8))) (by first|assumption|omega| (simp;done)| (simp;omega)) (by first|assumption|omega| (simp;done)| (simp;omega)))
   refine bU X [(49,60)] [(47,⟨true,bQ t1⟩),(500048,⟨true,[]⟩)] [2,3,4,6,7] [] 14 MO (by kernel_rfl) rfl (by(repeat' with_reducible first|exact aL|refine aT ?_ ?_|apply And.intro)<;>first|exact t1| (intros;omega)|exact rfl|exact⟨rfl,aV _ (by decide)⟩| (simp only[dB,maxLen,lens];omega)) ?_
   refine bF X [2,3,4,6,7] rfl ?_
   refine⟨k+1,by omega,by omega,?_⟩
   rw[bK _ k rfl (by omega),hs]
   try rfl
  ·try simp only[aX]at bz
   exact aI (aH X [4,5] rfl (by trivial) (ak (ah rfl ⟨by rw[List.take_of_length_le (by omega),va Gp],by rw[Gp],⟨⟩⟩)))
theorem tS(x:aR)(c:Int)(uo:x.aj.length≤1048576):So 302 [.agg (aZ x),aB c] [.a (.sl .int (jo x c))]:=by
 refine av X call302 func302 ntmps302 rfl rfl ?_
 intro zb
 have hw:IntKind.i64.wrap ((x.aj.length:Int)-1)=(x.aj.length:Int)-1:=bp (by omega)
 refine au X [1,2] rfl (aH X [1,2,5] rfl (by and_intros<;>first|exact⟨⟩|exact rfl) (af (au X [1,2,5,6] rfl ?_)))
 refine ay (aG (fun k=>k≤(x.aj.length-1)) (fun k:Nat=> [(6, .one ((aB k)))]) (fun k=> [(7, .arr .int ((jo x c).take k))]) (fun k=>(x.aj.length-1)-k) 0 (fun k=>rfl) (Nat.zero_le _) rfl ?_)
 intro k hk
 have hle:=bJ (jo x c) k
 have hrl:=kf x c
 refine af (au X [1,2,5,6,13] rfl ?_)
 refine an rfl ?_ ?_<;>intro hb0
 ·try simp only[aX]at hb0
  rw[hw]at hb0
  have hs:=EA x c k (by omega)
  refine aq (af (ay (aP X [(26,7)] [(24,⟨false,[aB (kh x.seed [223,x.round,c,(k:Int)])]⟩)] [1,2,5,6] [] rfl (by(repeat' with_reducible first|exact aL|refine aT ?_ ?_|apply And.intro)<;>first|exact(aW x.seed [223,x.round,c,(k:Int)] (by first|assumption|omega| (simp;done)| (simp;omega)))|exact rfl|exact⟨rfl,aV _ (by decide)⟩| (simp only[dB,maxLen,lens];omega)) ?_)))
  refine bF X [1,2,5,6] rfl ?_
  refine⟨k+1,by omega,by omega,?_⟩
  rw[bK _ k rfl (by omega),hs]
  try rfl
 ·try simp only[aX]at hb0
  rw[hw]at hb0
  exact aI (au X [4] rfl (ak (ah rfl ⟨by rw[List.take_of_length_le (by omega)],⟨⟩⟩)))
end
section
set_option maxRecDepth 100000
theorem AI(rows i:Int)(c:List UInt8):So 324 [aB rows,aB i, .a (.sl .u8 c)] [aF (rP rows i c)]:=by
 refine av X call324 func324 ntmps324 rfl rfl ?_
 intro zb
 exact au X [0,1,2] rfl (aD X [] [(8,⟨false,[aF (inr rows 1 64)]⟩),(13,⟨false,[aF (inr i 0 (IntKind.i64.wrap (rows-1)))]⟩)] [6] [] rfl (by(with_reducible and_intros);(iterate 2 all_goals try first|exact⟨⟩|exact(aJ rows 1 64)|exact fun _=>(aJ i 0 (IntKind.i64.wrap (rows-1))))) (ak (ah rfl ⟨by rw[EJ];exact(congrArg Value.bool (by simp only[aQ]<;>first|rfl|ac_rfl)),⟨⟩⟩)))
theorem vi(rows i:Int)(c:List UInt8)(sd:List Int)(hc:c.length≤1048576)(Bp:sd.length≤1048576):So 301 [aB rows,aB i, .a (.sl .u8 c), .a (.sl .int sd)] [.a (.sl .DB (tT rows i c sd))]:=by
 refine av X call301 func301 ntmps301 rfl rfl ?_
 intro zb
 have hz:=Jp rows
 refine au X [0,1,2,3] rfl (aH X [0,1,2,3,9] rfl (by and_intros<;>first|exact⟨⟩|exact rfl) (af (aD X [] [(19,⟨false,[aF (rP rows i c)]⟩),(25,⟨false,[aF (cg (IntKind.i64.wrap ((sd.length:Int)+1)))]⟩)] [0,1,2,3,9,27] [] rfl (by(with_reducible and_intros);(iterate 2 all_goals try first|exact⟨⟩|exact(AI rows i c)|exact fun _=>(eG (IntKind.i64.wrap ((sd.length:Int)+1))))) ?_)))
 refine an rfl ?_ ?_<;>intro hb0
 ·have hmk:vh rows i c sd=false:=bN hb0 (by simp only[vh,aQ]<;>first|rfl|ac_rfl)
  exact au X [8] rfl (ak (ah rfl ⟨by rw[tT,if_neg (by rw[hmk];decide)],⟨⟩⟩))
 ·have hmk:vh rows i c sd=true:=bM hb0 (by simp only[vh,aQ]<;>first|rfl|ac_rfl)
  have hml:=Ms hmk Bp
  have hun:=Gw hml.1
  refine aq (af ?_)
  have t1:=(tR (dr rows) i c (by first|assumption|omega| (simp;done)| (simp;omega)) (by first|assumption|omega| (simp;done)| (simp;omega)))
  refine aP X [] [(31,⟨true,[.agg (bA (dr rows))]⟩),(34,⟨true,bQ t1⟩)] [0,3,9,10] [] rfl (by(with_reducible and_intros);(iterate 2 all_goals try first|exact⟨⟩|exact(kg rows)|exact t1)) ?_
  rw[P3 hmk]
  refine af (au X [0,3,9,10,12] rfl ?_)
  refine ay (aG (fun k=>k≤sd.length) (fun k:Nat=> [(12, .one ((aB k)))]) (fun k=> [(15, .arr .DB ((sd.take k).map fun s=>P2 s rows)),(34, .arr (.sl .u8) (wD rows i c (sd.take k)).rows)]) (fun k=>sd.length-k) 0 (fun k=>rfl) (Nat.zero_le _) rfl ?_)
  intro k hk
  have hle:=bJ sd k
  have hlo:=EI hml.1 (sd.take k)
  have hlz:=eI hlo
  refine af (au X [0,3,9,10,12,40] rfl ?_)
  refine an rfl ?_ ?_<;>intro bz
  ·try simp only[aX]at bz
   have hs:=oN (fun s=>P2 s rows) sd k (aA .int) bz
   have Fu:=Gx rows i c sd k bz
   have hmo:=Gv (sd.getD k (aA .int)) rows hun.2.2
   have hmz:=eI hmo
   refine aq (af (ay (au X [0,3,9,10,12,13] rfl (jN 13 0 60 (.sl .u8) rfl (af (au X [0,3,9,10,12,13,14] rfl ?_))))))
   refine ay (aG (fun k1=>k1≤rows.toNat) (fun k1:Nat=> [(14, .one ((aB k1)))]) (fun k1=> [(60, .arr (.sl .u8) ((gq (sd.getD k (aA .int)) rows).take k1))]) (fun k1=>rows.toNat-k1) 0 (fun k1=>rfl) (Nat.zero_le _) rfl ?_)
   intro k1 hk1
   have Tj:=bJ (gq (sd.getD k (aA .int)) rows) k1
   refine af (au X [0,3,9,10,12,13,14,46] rfl ?_)
   refine an rfl ?_ ?_<;>intro bW
   ·try simp only[aX]at bW
    have hs1:=CV (sd.getD k (aA .int)) rows k1 (by omega)
    refine aq (af (ay ?_))
    have t1:=(gy (IntKind.i64.wrap ((sd.getD k (aA .int))+IntKind.i64.wrap (1000*(k1:Int)))) 24 (by first|assumption|omega| (simp;done)| (simp;omega)) (by first|assumption|omega| (simp;done)| (simp;omega)))
    refine bU X [(60,60)] [(58,⟨true,bQ t1⟩),(500059,⟨true,[]⟩)] [0,3,9,10,12,13,14] [] 11 MO (by kernel_rfl) rfl (by(repeat' with_reducible first|exact aL|refine aT ?_ ?_|apply And.intro)<;>first|exact t1| (intros;omega)|exact rfl|exact⟨rfl,aV _ (by decide)⟩| (simp only[dB,maxLen,lens];omega)) ?_
    refine bF X [0,3,9,10,12,13,14] rfl ?_
    refine⟨k1+1,by omega,by omega,?_⟩
    rw[bK _ k1 rfl (by omega),hs1]
    try rfl
   ·try simp only[aX]at bW
    rw[List.take_of_length_le (show(gq (sd.getD k (aA .int)) rows).length≤k1 by rw[lf];omega)]
    refine aI (af ?_)
    have t1:=(fY (wD rows i c (sd.take k)) (P2 (sd.getD k (aA .int)) rows) (by first|assumption|omega| (simp;done)| (simp;omega)) (by first|assumption|omega| (simp;done)| (simp;omega)))
    refine aP X [] [(65,⟨true,bQ t1⟩)] [0,3,9,10,12,13] [] rfl (by(with_reducible and_intros)<;>first|exact⟨⟩|exact t1) (rO 10 0 34 rfl (aP X [(71,15)] [] [0,3,9,10,12] [] rfl (by and_intros<;>first|exact⟨⟩|exact rfl| (simp only[dB,maxLen,lens];omega)) (bF X [0,3,9,10,12] rfl ?_)))
    refine⟨k+1,by omega,by omega,?_⟩
    rw[bK _ k rfl (by omega),hs,Fu]
    try rfl
  ·try simp only[aX]at bz
   exact aI (aD X [(75,15)] [] [8] [] rfl (by and_intros<;>first|exact⟨⟩|exact rfl| (simp only[dB,maxLen,lens];omega)) (ak (ah rfl ⟨by rw[List.take_of_length_le bz,tT,if_pos hmk],⟨⟩⟩)))
end
section
set_option maxRecDepth 100000
theorem vl(x:aR)(c:Int)(uo:x.aj.length≤1048576)(hc:0≤c∧c<x.aa.length):So 265 [.agg (aZ x),aB c] [.a (.sl .DB (c8 x c))]:=by
 refine av X call265 func265 ntmps265 rfl rfl ?_
 intro zb
 refine bC 0 2 rfl rfl (fun lH=> ?_)
 have um:=Gy (Oj x c) x.round x.rows
 have hwl:=kf x c
 refine au X [1,2] rfl (af ?_)
 have t1:=(rM (Oj x c) x.round x.rows)
 refine bU X [] [(19,⟨true,bQ t1⟩)] [1,2,5,6] [] 18 MO (by kernel_rfl) rfl (by(with_reducible and_intros)<;>first|exact⟨⟩|exact t1| (intros;omega)) (af ?_)
 have t1:=(vi x.rows (qW (Oj x c) x.round x.rows) (j9 (Oj x c) x.round x.rows) (jo x c) (by first|assumption|omega| (simp;done)| (simp;omega)) (by first|assumption|omega| (simp;done)| (simp;omega)))
 exact bU X [] [(29,⟨true,[.a (.sl .int (jo x c))]⟩),(30,⟨true,bQ t1⟩)] [4] [] 9 MO (by kernel_rfl) rfl (by(with_reducible and_intros);(iterate 2 all_goals try first|exact⟨⟩|exact(tS x c (by first|assumption|omega| (simp;done)| (simp;omega)))|exact t1)) (ak (ah rfl ⟨rfl,⟨⟩⟩))
end
section
set_option maxRecDepth 100000
theorem fQ(m s:Int):So 268 [aB m,aB s] [aB (ni m s)]:=by
 refine av X call268 func268 ntmps268 rfl rfl ?_
 intro zb
 refine au X [0,1] rfl (af ?_)
 have t1:=(j6 1 (kh m [173,s]))
 refine aP X [] [(8,⟨false,[aB (kh m [173,s])]⟩),(9,⟨false,bQ t1⟩)] [4] [] rfl (by(repeat' with_reducible first|exact aL|refine aT ?_ ?_|apply And.intro);(iterate 2 all_goals try first|exact(aW m [173,s] (by first|assumption|omega| (simp;done)| (simp;omega)))|exact t1);all_goals first|exact⟨rfl,aV _ (by decide)⟩) ?_
 exact ak (ah rfl ⟨by rw[Mw],⟨⟩⟩)
theorem nQ(d:DB)(hs0:dc List.length d.rows≤1048576):So 326 [.agg (bA d)] [aB (Mv d)]:=by
 refine av X call326 func326 ntmps326 rfl rfl ?_
 intro zb
 have l5:d.rows.length≤1048576:=cN hs0
 refine au X [1] rfl (aH X [1,3] rfl (by and_intros<;>first|exact⟨⟩|exact rfl) (af (au X [1,3,4] rfl ?_)))
 refine ay (aG (fun k=>k≤d.rows.length) (fun k:Nat=> [(4, .one ((aB k)))]) (fun k=> [(8, .arr .int ((d.rows.length:Int)::(d.rows.take k).flatMap Gf))]) (fun k=>d.rows.length-k) 0 (fun k=>rfl) (Nat.zero_le _) rfl ?_)
 intro k hk
 have Ch:=TA d.rows k
 refine af (au X [1,3,4,13] rfl ?_)
 refine an rfl ?_ ?_<;>intro hb0
 ·try simp only[aX]at hb0
  have hs:=P7 d.rows k hb0
  have hel:(d.rows.getD k (aA (.sl .u8))).length≤1048576:=iM (f:=List.length) hs0 (getD_some d.rows _ k hb0)
  have Ca:=xC (d.rows.getD k (aA (.sl .u8)))
  refine aq (af (ay (aP X [(23,8)] [(22,⟨true,[.a (.sl .int (Gf (d.rows.getD k (aA (.sl .u8)))))]⟩)] [1,3,4] [] rfl (by(with_reducible and_intros)<;>first|exact⟨⟩|exact(j7 (d.rows.getD k (aA (.sl .u8))) (by first|assumption|omega| (simp;done)| (simp;omega)))| (intros;omega)|exact rfl| (simp only[dB,maxLen,lens];omega)) (bF X [1,3,4] rfl ?_))))
  refine⟨k+1,by omega,by omega,?_⟩
  rw[bK _ k rfl (by omega),hs]
  try rfl
 ·try simp only[aX]at hb0
  refine aI (af ?_)
  have t1:=(oP ((d.rows.length:Int)::(d.rows.take k).flatMap Gf) (by simp only[List.length_cons];omega))
  exact aP X [] [(25,⟨false,bQ t1⟩)] [2] [] rfl (by(with_reducible and_intros)<;>first|exact⟨⟩|exact t1) (ak (ah rfl ⟨by rw[List.take_of_length_le hb0];rfl,⟨⟩⟩))
theorem kq(c r:Int)(d:DB)(hs0:dc List.length d.rows≤1048576):So 303 [aB c,aB r, .agg (bA d)] [aB (GC c r d)]:=by
 refine av X call303 func303 ntmps303 rfl rfl ?_
 intro zb
 refine au X [0,1,5] rfl (aD X [] [(10,⟨false,[aB (Mv d)]⟩),(12,⟨false,[aB (hsh [179,c,r,Mv d])]⟩)] [6] [] rfl (by(repeat' with_reducible first|exact aL|refine aT ?_ ?_|apply And.intro);(iterate 2 all_goals try first|exact(nQ d (by first|assumption|omega| (simp;done)| (simp;omega)))|exact(oP [179,c,r,Mv d] (by first|assumption|omega| (simp;done)| (simp;omega))));all_goals first|exact⟨rfl,aV _ (by decide)⟩) ?_)
 exact ak (ah rfl ⟨rfl,⟨⟩⟩)
theorem lg(key:Int)(r:ep):So 304 [aB key, .agg (mK r)] [aB (P8 key r.server r.client r.round r.oo)]:=by
 refine av X call304 func304 ntmps304 rfl rfl ?_
 intro zb
 refine au X [0,3] rfl (af ?_)
 have t1:=(aW key [181,r.server,r.client,r.round,r.oo] (by first|assumption|omega| (simp;done)| (simp;omega)))
 refine aP X [] [(15,⟨false,bQ t1⟩)] [4] [] rfl (by(repeat' with_reducible first|exact aL|refine aT ?_ ?_|apply And.intro)<;>first|exact t1|exact⟨rfl,aV _ (by decide)⟩) ?_
 exact ak (ah rfl ⟨rfl,⟨⟩⟩)
theorem rT(key s c r:Int)(d:DB)(hs0:dc List.length d.rows≤1048576):So 267 [aB key,aB s,aB c,aB r, .agg (bA d)] [.agg (mK (Yo key s c r d))]:=by
 refine av X call267 func267 ntmps267 rfl rfl ?_
 intro zb
 refine au X [0,1,2,3,9,10] rfl (aD X [] [(18,⟨false,[aB (GC c r d)]⟩)] [0,10,11] [] rfl (by(with_reducible and_intros)<;>first|exact⟨⟩|exact(kq c r d (by first|assumption|omega| (simp;done)| (simp;omega)))) (af ?_))
 have t1:=(lg key (⟨s,c,r,GC c r d,0⟩:ep))
 exact aP X [] [(22,⟨false,bQ t1⟩)] [10,11] [] rfl (by(with_reducible and_intros)<;>first|exact⟨⟩|exact t1) (aH X [10] rfl (by trivial) (ak (ah rfl ⟨rfl,rfl,rfl,rfl,rfl,⟨⟩⟩)))
theorem gV(s:bl)(hz:s.received.length≤1048576∧ ∀r,r∈s.received→dc List.length r.share.rows≤1048576):So 151 [.agg (cx s)] [.agg (cx s)]:=by
 refine av X call151 func151 ntmps151 rfl rfl ?_
 intro zb
 refine au X [1,2] rfl (aH X [1,2,3] rfl (by trivial) (aH X [1,2,3] rfl (by and_intros<;>first|exact⟨⟩|exact rfl) (af (au X [1,2,3,4] rfl ?_))))
 refine ay (aG (fun k=>k≤s.received.length) (fun k:Nat=> [(4, .one ((aB k)))]) (fun k=> [(6, .arr .aM (s.received.take k))]) (fun k=>s.received.length-k) 0 (fun k=>rfl) (Nat.zero_le _) rfl ?_)
 intro k hk
 have hle:=bJ s.received k
 refine af (au X [1,2,3,4,12] rfl ?_)
 refine an rfl ?_ ?_<;>intro hb0
 ·try simp only[aX]at hb0
  have hs:=bw s.received k (aA .aM) hb0
  refine aq (af (ay (bU X [(32,6)] [(29,⟨true,[.agg (bA ((s.received.getD k (aA .aM)).share))]⟩),(500031,⟨true,[]⟩)] [1,2,3,4] [] 17 MO (by kernel_rfl) rfl (by(repeat' with_reducible first|exact aL|refine aT ?_ ?_|apply And.intro)<;>first|exact(cZ ((s.received.getD k (aA .aM)).share) (hz.2 _ (getD_in _ hb0)))| (intros;omega)|exact rfl|exact⟨rfl,aV _ (by decide)⟩| (simp only[dB,maxLen,lens];omega)) ?_)))
  refine bF X [1,2,3,4] rfl ?_
  refine⟨k+1,by omega,by omega,?_⟩
  rw[bK _ k rfl (by omega),hs]
  try rfl
 ·try simp only[aX]at hb0
  exact aI (aH X [2] rfl (by trivial) (ak (ah rfl ⟨rfl,rfl,rfl,by rw[List.take_of_length_le hb0],rfl,⟨⟩⟩)))
end
section
set_option maxRecDepth 100000
theorem dQ(c:cX)(h0:dc List.length c.aE≤1048576∧dc List.length c.inbox≤1048576):So 213 [.agg (bR c)] [.agg (bR c)]:=by
 refine av X call213 func213 ntmps213 rfl rfl ?_
 intro zb
 exact au X [1,2] rfl (aH X [1,2,3] rfl (by trivial) (aD X [] [(7,⟨true,[.a (.sl (.sl .u8) c.aE)]⟩)] [1,2,3] [] rfl (by(with_reducible and_intros)<;>first|exact⟨⟩|exact(lO c.aE h0.1)) (aD X [] [(11,⟨true,[.a (.sl (.sl .u8) c.inbox)]⟩)] [2,3] [] rfl (by(with_reducible and_intros)<;>first|exact⟨⟩|exact(lO c.inbox h0.2)) (aH X [2] rfl (by trivial) (ak (ah rfl ⟨rfl,rfl,rfl,rfl,rfl,rfl,rfl,rfl,⟨⟩⟩))))))
theorem fI(d:aS)(h0:bq d≤1048576):So 152 [.agg (cq d)] [.agg (cq d)]:=by
 refine av X call152 func152 ntmps152 rfl rfl ?_
 intro zb
 have wS:cu d.live≤1048576∧cu d.saved≤1048576:=by unfold bq at h0;omega
 unfold cu at wS
 exact au X [1,2] rfl (dy X [] [(5,⟨true,[.agg (bR d.live)]⟩),(8,⟨true,[.agg (bR d.saved)]⟩)] [2] [] 7 MO (by kernel_rfl) rfl (by(with_reducible and_intros);(iterate 2 all_goals try first|exact⟨⟩|exact(dQ d.live ⟨by omega,by omega⟩)|exact(dQ d.saved ⟨by omega,by omega⟩))) (ak (ah rfl ⟨rfl,rfl,rfl,rfl,rfl,rfl,rfl,rfl,rfl,rfl,rfl,rfl,rfl,rfl,rfl,rfl,⟨⟩⟩)))
theorem pe(a:gH)(h0:ef a≤1048576):So 153 [.agg (dS a)] [.agg (dS a)]:=by
 refine av X call153 func153 ntmps153 rfl rfl ?_
 intro zb
 have hls:dc dm a.rounds≤1048576:=h0
 have l5:=cN hls
 refine au X [1,2] rfl (au X [1,2,3] rfl (jN 3 1 60 .aC rfl (af (au X [1,2,3,4] rfl ?_))))
 refine ay (aG (fun k=>k≤a.rounds.length) (fun k:Nat=> [(4, .one ((aB k)))]) (fun k=> [(60, .arr .aC (a.rounds.take k))]) (fun k=>a.rounds.length-k) 0 (fun k=>rfl) (Nat.zero_le _) rfl ?_)
 intro k hk
 have hle:=bJ a.rounds k
 refine af (au X [1,2,3,4,12] rfl ?_)
 refine an rfl ?_ ?_<;>intro hb0
 ·try simp only[aX]at hb0
  have hs:=bw a.rounds k (aA .aC) hb0
  refine aq (af (ay (bU X [(32,60)] [(29,⟨true,[.agg (bA ((a.rounds.getD k (aA .aC)).db))]⟩),(500031,⟨true,[]⟩)] [1,2,3,4] [] 17 MO (by kernel_rfl) rfl (by(repeat' with_reducible first|exact aL|refine aT ?_ ?_|apply And.intro)<;>first|exact(cZ ((a.rounds.getD k (aA .aC)).db) (iM hls (getD_some a.rounds _ k hb0)))| (intros;omega)|exact rfl|exact⟨rfl,aV _ (by decide)⟩| (simp only[dB,maxLen,lens];omega)) ?_)))
  refine bF X [1,2,3,4] rfl ?_
  refine⟨k+1,by omega,by omega,?_⟩
  rw[bK _ k rfl (by omega),hs]
  try rfl
 ·try simp only[aX]at hb0
  exact aI (aH X [2] rfl (by trivial) (ak (ah rfl ⟨rfl,by rw[List.take_of_length_le hb0],⟨⟩⟩)))
theorem cQ(x:aR)(h0:wB x):So 81 [.agg (aZ x)] [.agg (aZ x)]:=by
 refine av X call81 func81 ntmps81 rfl rfl ?_
 intro zb
 have hls:dc dP x.aj≤1048576∧dc bq x.aa≤1048576∧ef x.az≤1048576∧x.replaced.length≤4194304:=h0
 have hl1:=cN hls.1
 have lH:=cN hls.2.1
 refine au X [1,2] rfl (aH X [1,2,3] rfl (by trivial) (aH X [1,2,3] rfl (by and_intros<;>first|exact⟨⟩|exact rfl) (af (au X [1,2,3,4] rfl ?_))))
 refine ay (aG (fun k=>k≤x.aj.length) (fun k:Nat=> [(4, .one ((aB k)))]) (fun k=> [(7, .arr .bl (x.aj.take k))]) (fun k=>x.aj.length-k) 0 (fun k=>rfl) (Nat.zero_le _) rfl ?_)
 intro k hk
 have hle:=bJ x.aj k
 refine af (au X [1,2,3,4,13] rfl ?_)
 refine an rfl ?_ ?_<;>intro hb0
 ·try simp only[aX]at hb0
  have hs:=bw x.aj k (aA .bl) hb0
  have hss:=Jt hls.1 (getD_some x.aj (aA .bl) k hb0)
  refine aq (af (ay (bU X [(25,7)] [(23,⟨true,[.agg (cx (x.aj.getD k (aA .bl)))]⟩),(500024,⟨true,[]⟩)] [1,2,3,4] [] 9 MO (by kernel_rfl) rfl (by(repeat' with_reducible first|exact aL|refine aT ?_ ?_|apply And.intro)<;>first|exact(gV (x.aj.getD k (aA .bl)) hss)| (intros;omega)|exact rfl|exact⟨rfl,aV _ (by decide)⟩| (simp only[dB,maxLen,lens];omega)) ?_)))
  refine bF X [1,2,3,4] rfl ?_
  refine⟨k+1,by omega,by omega,?_⟩
  rw[bK _ k rfl (by omega),hs]
  try rfl
 ·try simp only[aX]at hb0
  refine aI (aH X [1,2,3] rfl (by and_intros<;>first|exact⟨⟩|exact rfl) (af (au X [1,2,3,5] rfl ?_)))
  refine ay (aG (fun k1=>k1≤x.aa.length) (fun k1:Nat=> [(5, .one ((aB k1)))]) (fun k1=> [(27, .arr .aS (x.aa.take k1))]) (fun k1=>x.aa.length-k1) 0 (fun k1=>rfl) (Nat.zero_le _) rfl ?_)
  intro k1 hk1
  have Tj:=bJ x.aa k1
  refine af (au X [1,2,3,5,33] rfl ?_)
  refine an rfl ?_ ?_<;>intro bz
  ·try simp only[aX]at bz
   have hs1:=bw x.aa k1 (aA .aS) bz
   refine aq (af (ay (cJ X [(45,27)] [(43,⟨true,[.agg (cq (x.aa.getD k1 (aA .aS)))]⟩)] [1,2,3,5] [] 1279 2 MO (by kernel_rfl) rfl (by kernel_rfl) (by(with_reducible and_intros)<;>first|exact⟨⟩|exact(fI (x.aa.getD k1 (aA .aS)) (iM hls.2.1 (getD_some x.aa _ k1 bz)))| (intros;omega)|exact rfl| (simp only[dB,maxLen,lens];omega)) (bF X [1,2,3,5] rfl ?_))))
   refine⟨k1+1,by omega,by omega,?_⟩
   rw[bK _ k1 rfl (by omega),hs1]
   try rfl
  ·try simp only[aX]at bz
   exact aI (aD X [] [(49,⟨true,[.agg (dS x.az)]⟩)] [1,2,3] [] rfl (by(with_reducible and_intros)<;>first|exact⟨⟩|exact(pe x.az hls.2.2.1)) (aD X [(54,51)] [] [2,3] [] rfl (by and_intros<;>first|exact⟨⟩|exact rfl| (simp only[dB,maxLen,lens];omega)) (aH X [2] rfl (by trivial) (ak (ah rfl ⟨rfl,by rw[List.take_of_length_le hb0],by rw[List.take_of_length_le bz],rfl,rfl,rfl,rfl,rfl,rfl,rfl,⟨⟩⟩)))))
end
section
set_option maxRecDepth 100000
theorem dU(x:aR)(i:Int)(hsz:dn x≤1048576):So 33 [.agg (aZ x),aB i] [aF (fF x i)]:=by
 refine av X call33 func33 ntmps33 rfl rfl ?_
 intro zb
 have hd:x.aa.length≤1048576:=CQ hsz
 have hrl:x.az.rounds.length≤1048576:=qg hsz
 refine au X [1,2] rfl (af (aD X [] [(14,⟨false,[aF (dA x i)]⟩)] [1,2,15] [] rfl (by(with_reducible and_intros)<;>first|exact⟨⟩|exact(oV x i (by first|assumption|omega| (simp;done)| (simp;omega)))) ?_))
 refine an rfl ?_ ?_<;>intro hb0
 ·have hpk:dA x i=false:=by simpa using hb0
  exact au X [4] rfl (ak (ah rfl ⟨by rw[fF,if_neg (by rw[hpk];decide)],⟨⟩⟩))
 ·have hpk:dA x i=true:=by simpa using hb0
  obtain⟨hi0,hi1,hi2,Yp⟩:=CK hpk
  have hx:=Es i.toNat (by omega)
  rw[←Yp]at hx
  have ny:(IntKind.i64.wrap (BitVec.ofInt IntKind.i64.bits i^^^BitVec.ofInt IntKind.i64.bits 1).toNat).toNat=i.toNat^^^1:=by rw[hx];rfl
  have hin:=EW hsz (k:=(IntKind.i64.wrap (BitVec.ofInt IntKind.i64.bits i^^^BitVec.ofInt IntKind.i64.bits 1).toNat).toNat) (by rw[ny];exact hi2)
  have hsb:=cN (xE (xD hsz hi1)).1
  refine aq (af (cJ X [] [] [2,5,6] [] 32767 11 MO (by kernel_rfl) rfl (by kernel_rfl) (by and_intros<;>first|exact⟨⟩| (intros;omega)) (au X [2,5,6,7] rfl (af (au X [2,5,6,7,34,35,36] rfl ?_)))))
  refine ay (aG (fun k=>k≤x.az.rounds.length) (fun k:Nat=> [(7, .one ((aB ((dI x (x.aa.getD i.toNat (aA .aS)).live (x.aa.getD (IntKind.i64.wrap (BitVec.ofInt IntKind.i64.bits i^^^BitVec.ofInt IntKind.i64.bits 1).toNat).toNat (aA .aS)).live (x.az.rounds.take k):Nat):Int)))),(36, .one ((aB k)))]) (fun k=> []) (fun k=>x.az.rounds.length-k) 0 (fun k=>rfl) (Nat.zero_le _) rfl ?_)
  intro k hk
  refine au X [2,5,6,7,34,35,36,37] rfl ?_
  refine af (an rfl ?_ ?_)<;>intro bz
  ·try simp only[aX]at bz
   have Ax:=bz
   have hs:=wu x (x.aa.getD i.toNat (aA .aS)).live (x.aa.getD (IntKind.i64.wrap (BitVec.ofInt IntKind.i64.bits i^^^BitVec.ofInt IntKind.i64.bits 1).toNat).toNat (aA .aS)).live x.az.rounds k Ax
   have hle:=Bu x (x.aa.getD i.toNat (aA .aS)).live (x.aa.getD (IntKind.i64.wrap (BitVec.ofInt IntKind.i64.bits i^^^BitVec.ofInt IntKind.i64.bits 1).toNat).toNat (aA .aS)).live x.az.rounds k
   have har:=MD hsz k Ax
   refine aq (af (ay (aH X [2,5,6,7,9,34,35,36] rfl (by and_intros<;>first|exact⟨⟩| (intros;omega)) (af (au X [2,5,6,7,9,34,35,36,51] rfl ?_)))))
   refine an rfl ?_ ?_<;>intro bW
   ·try simp only[aX]at bW
    rw[zO bW]at hs
    refine aI (bF X [2,5,6,7,34,35,36] rfl ?_)
    refine⟨k+1,by omega,by omega,?_⟩
    rw[bK _ k rfl (by omega),hs]
    try rfl
   ·try simp only[aX]at bW
    have J6: ¬((x.az.rounds.getD k (aA .aC)).round<(x.aa.getD (IntKind.i64.wrap (BitVec.ofInt IntKind.i64.bits i^^^BitVec.ofInt IntKind.i64.bits 1).toNat).toNat (aA .aS)).live.next∨(x.aa.getD i.toNat (aA .aS)).live.aE.length≤dI x (x.aa.getD i.toNat (aA .aS)).live (x.aa.getD (IntKind.i64.wrap (BitVec.ofInt IntKind.i64.bits i^^^BitVec.ofInt IntKind.i64.bits 1).toNat).toNat (aA .aS)).live (x.az.rounds.take k)):=by omega
    refine aq (af ?_)
    have t1:=(mu ((x.aa.getD i.toNat (aA .aS)).live))
    have t2:=(tI ((x.aa.getD i.toNat (aA .aS)).live.key) ((x.az.rounds.getD k (aA .aC)).round) (cB (x.aa.getD i.toNat (aA .aS)).live) x.rows)
    have t3:=(zx ((x.az.rounds.getD k (aA .aC)).db) (fD (x.aa.getD i.toNat (aA .aS)).live.key (x.az.rounds.getD k (aA .aC)).round (cB (x.aa.getD i.toNat (aA .aS)).live) x.rows) (by first|assumption|omega| (simp;done)| (simp;omega)))
    refine bU X [] [(60,⟨false,bQ t1⟩),(63,⟨false,bQ t2⟩),(64,⟨true,bQ t3⟩)] [2,5,6,7,10,11,34,35,36] [] 17 MO (by kernel_rfl) rfl (by(with_reducible and_intros);(iterate 3 all_goals try first|exact⟨⟩|exact t1|exact t2|exact t3)) (af ?_)
    have t1:=(rL ((x.aa.getD i.toNat (aA .aS)).live) ((dI x (x.aa.getD i.toNat (aA .aS)).live (x.aa.getD (IntKind.i64.wrap (BitVec.ofInt IntKind.i64.bits i^^^BitVec.ofInt IntKind.i64.bits 1).toNat).toNat (aA .aS)).live (x.az.rounds.take k):Nat):Int) (by first|assumption|omega| (simp;done)| (simp;omega)) (by first|assumption|omega| (simp;done)| (simp;omega)))
    have t2:=(kW (rowAt (x.az.rounds.getD k (aA .aC)).db (fD (x.aa.getD i.toNat (aA .aS)).live.key (x.az.rounds.getD k (aA .aC)).round (cB (x.aa.getD i.toNat (aA .aS)).live) x.rows)) (kY (x.aa.getD i.toNat (aA .aS)).live ((dI x (x.aa.getD i.toNat (aA .aS)).live (x.aa.getD (IntKind.i64.wrap (BitVec.ofInt IntKind.i64.bits i^^^BitVec.ofInt IntKind.i64.bits 1).toNat).toNat (aA .aS)).live (x.az.rounds.take k):Nat):Int)))
    refine aP X [] [(72,⟨false,bQ t1⟩),(73,⟨false,bQ t2⟩)] [2,5,6,7,34,35,36,74] [] rfl (by(with_reducible and_intros);(iterate 2 all_goals try first|exact⟨⟩|exact fun _=>t1|exact fun _=>t2)) ?_
    refine an rfl ?_ ?_<;>intro nW
    ·rw[oR]at nW
     rw[BI J6 nW]at hs
     refine bF X [2,5,6,7,34,35,36] rfl (bF X [2,5,6,7,34,35,36] rfl ?_)
     refine⟨k+1,by omega,by omega,?_⟩
     rw[bK _ k rfl (by omega),bK _ (dI x (x.aa.getD i.toNat (aA .aS)).live (x.aa.getD (IntKind.i64.wrap (BitVec.ofInt IntKind.i64.bits i^^^BitVec.ofInt IntKind.i64.bits 1).toNat).toNat (aA .aS)).live (x.az.rounds.take k)) rfl (by omega),hs]
     try rfl
    ·rw[oR]at nW
     rw[zP J6 nW]at hs
     refine aq (bF X [2,5,6,7,34,35,36] rfl ?_)
     refine⟨k+1,by omega,by omega,?_⟩
     rw[bK _ k rfl (by omega),hs]
     try rfl
  ·try simp only[aX]at bz
   exact aI (au X [4] rfl (ak (ah rfl ⟨by rw[List.take_of_length_le bz,fF,if_pos hpk,ny],⟨⟩⟩)))
theorem dV(x:aR)(i:Int)(hsz:dn x≤1048576):So 34 [.agg (aZ x),aB i] [aF (fF x i)]:=by
 refine av X call34 func34 ntmps34 rfl rfl ?_
 intro zb
 have hd:x.aa.length≤1048576:=CQ hsz
 have hrl:x.az.rounds.length≤1048576:=qg hsz
 refine au X [1,2] rfl (af (aD X [] [(15,⟨false,[aF (dA x i)]⟩)] [1,2,16] [] rfl (by(with_reducible and_intros)<;>first|exact⟨⟩|exact(oW x i (by first|assumption|omega| (simp;done)| (simp;omega)))) ?_))
 refine an rfl ?_ ?_<;>intro hb0
 ·have hpk:dA x i=false:=by simpa using hb0
  exact au X [4] rfl (ak (ah rfl ⟨by rw[fF,if_neg (by rw[hpk];decide)],⟨⟩⟩))
 ·have hpk:dA x i=true:=by simpa using hb0
  obtain⟨hi0,hi1,hi2,Yp⟩:=CK hpk
  have hx:=Es i.toNat (by omega)
  rw[←Yp]at hx
  have ny:(IntKind.i64.wrap (BitVec.ofInt IntKind.i64.bits i^^^BitVec.ofInt IntKind.i64.bits 1).toNat).toNat=i.toNat^^^1:=by rw[hx];rfl
  have hin:=EW hsz (k:=(IntKind.i64.wrap (BitVec.ofInt IntKind.i64.bits i^^^BitVec.ofInt IntKind.i64.bits 1).toNat).toNat) (by rw[ny];exact hi2)
  have hsb:=cN (xE (xD hsz hi1)).1
  refine aq (aH X [1,2,5] rfl (by and_intros<;>first|exact⟨⟩| (intros;omega)) (aH X [1,2,5,6] rfl (by and_intros<;>first|exact⟨⟩| (intros;omega)) (af (au X [1,2,5,6,7] rfl ?_))))
  refine ay (aG (fun k=>k≤x.az.rounds.length) (fun k:Nat=> [(6, .one ((aB ((dI x (x.aa.getD i.toNat (aA .aS)).live (x.aa.getD (IntKind.i64.wrap (BitVec.ofInt IntKind.i64.bits i^^^BitVec.ofInt IntKind.i64.bits 1).toNat).toNat (aA .aS)).live (x.az.rounds.take k):Nat):Int)))),(7, .one ((aB k)))]) (fun k=> []) (fun k=>x.az.rounds.length-k) 0 (fun k=>rfl) (Nat.zero_le _) rfl ?_)
  intro k hk
  refine af (au X [1,2,5,6,7,44] rfl ?_)
  refine an rfl ?_ ?_<;>intro bz
  ·try simp only[aX]at bz
   have Ax:=bz.1
   have hs:=wu x (x.aa.getD i.toNat (aA .aS)).live (x.aa.getD (IntKind.i64.wrap (BitVec.ofInt IntKind.i64.bits i^^^BitVec.ofInt IntKind.i64.bits 1).toNat).toNat (aA .aS)).live x.az.rounds k Ax
   have hle:=Bu x (x.aa.getD i.toNat (aA .aS)).live (x.aa.getD (IntKind.i64.wrap (BitVec.ofInt IntKind.i64.bits i^^^BitVec.ofInt IntKind.i64.bits 1).toNat).toNat (aA .aS)).live x.az.rounds k
   have har:=MD hsz k Ax
   refine aq (af (ay (aH X [1,2,5,6,7,8] rfl (by and_intros<;>first|exact⟨⟩| (intros;omega)) (af (dy X [] [] [1,2,5,6,7,8,63] [] 11 MO (by kernel_rfl) rfl (by and_intros<;>first|exact⟨⟩| (intros;omega)) ?_)))))
   refine an rfl ?_ ?_<;>intro bW
   ·try simp only[aX]at bW
    rw[zO (Or.inl bW)]at hs
    refine aI (bF X [1,2,5,6,7] rfl ?_)
    refine⟨k+1,by omega,by omega,?_⟩
    rw[bK _ k rfl (by omega),hs]
    try rfl
   ·try simp only[aX]at bW
    have J6: ¬((x.az.rounds.getD k (aA .aC)).round<(x.aa.getD (IntKind.i64.wrap (BitVec.ofInt IntKind.i64.bits i^^^BitVec.ofInt IntKind.i64.bits 1).toNat).toNat (aA .aS)).live.next∨(x.aa.getD i.toNat (aA .aS)).live.aE.length≤dI x (x.aa.getD i.toNat (aA .aS)).live (x.aa.getD (IntKind.i64.wrap (BitVec.ofInt IntKind.i64.bits i^^^BitVec.ofInt IntKind.i64.bits 1).toNat).toNat (aA .aS)).live (x.az.rounds.take k)):=by omega
    refine aq (af ?_)
    have t1:=(cR ((x.aa.getD i.toNat (aA .aS)).live))
    have t2:=(eZ ((x.aa.getD i.toNat (aA .aS)).live.key) ((x.az.rounds.getD k (aA .aC)).round) (cB (x.aa.getD i.toNat (aA .aS)).live) x.rows)
    refine bU X [] [(69,⟨false,bQ t1⟩),(72,⟨false,bQ t2⟩)] [1,2,5,6,7,8,9] [] 10 MO (by kernel_rfl) rfl (by(with_reducible and_intros);(iterate 2 all_goals try first|exact⟨⟩|exact t1|exact t2)) (aH X [1,2,5,6,7,8,9,10] rfl (by trivial) (au X [1,2,5,6,7,8,9,10] rfl (af ?_)))
    have t1:=(zy ((x.az.rounds.getD k (aA .aC)).db) (fD (x.aa.getD i.toNat (aA .aS)).live.key (x.az.rounds.getD k (aA .aC)).round (cB (x.aa.getD i.toNat (aA .aS)).live) x.rows) (by first|assumption|omega| (simp;done)| (simp;omega)))
    refine aP X [] [(80,⟨true,bQ t1⟩)] [1,2,5,6,7,10,11,12] [] rfl (by(with_reducible and_intros)<;>first|exact⟨⟩|exact t1) (af ?_)
    have t1:=(ke ({(x.aa.getD i.toNat (aA .aS)).live with sent:=((dI x (x.aa.getD i.toNat (aA .aS)).live (x.aa.getD (IntKind.i64.wrap (BitVec.ofInt IntKind.i64.bits i^^^BitVec.ofInt IntKind.i64.bits 1).toNat).toNat (aA .aS)).live (x.az.rounds.take k):Nat):Int)}:cX) (by show(0:Int)≤((dI x (x.aa.getD i.toNat (aA .aS)).live (x.aa.getD (IntKind.i64.wrap (BitVec.ofInt IntKind.i64.bits i^^^BitVec.ofInt IntKind.i64.bits 1).toNat).toNat (aA .aS)).live (x.az.rounds.take k):Nat):Int);omega) (by show((dI x (x.aa.getD i.toNat (aA .aS)).live (x.aa.getD (IntKind.i64.wrap (BitVec.ofInt IntKind.i64.bits i^^^BitVec.ofInt IntKind.i64.bits 1).toNat).toNat (aA .aS)).live (x.az.rounds.take k):Nat):Int)<((x.aa.getD i.toNat (aA .aS)).live.aE.length:Int);omega))
    have t2:=(e9 (rowAt (x.az.rounds.getD k (aA .aC)).db (fD (x.aa.getD i.toNat (aA .aS)).live.key (x.az.rounds.getD k (aA .aC)).round (cB (x.aa.getD i.toNat (aA .aS)).live) x.rows)) (kY ({(x.aa.getD i.toNat (aA .aS)).live with sent:=((dI x (x.aa.getD i.toNat (aA .aS)).live (x.aa.getD (IntKind.i64.wrap (BitVec.ofInt IntKind.i64.bits i^^^BitVec.ofInt IntKind.i64.bits 1).toNat).toNat (aA .aS)).live (x.az.rounds.take k):Nat):Int)}:cX) ((dI x (x.aa.getD i.toNat (aA .aS)).live (x.aa.getD (IntKind.i64.wrap (BitVec.ofInt IntKind.i64.bits i^^^BitVec.ofInt IntKind.i64.bits 1).toNat).toNat (aA .aS)).live (x.az.rounds.take k):Nat):Int)))
    refine aP X [] [(87,⟨false,bQ t1⟩),(88,⟨false,bQ t2⟩)] [1,2,5,6,7,89] [] rfl (by(with_reducible and_intros);(iterate 2 all_goals try first|exact⟨⟩|exact fun _=>t1|exact fun _=>t2)) ?_
    refine an rfl ?_ ?_<;>intro nW
    ·rw[oR]at nW
     rw[BI J6 nW]at hs
     refine bF X [1,2,5,6,7] rfl (bF X [1,2,5,6,7] rfl ?_)
     refine⟨k+1,by omega,by omega,?_⟩
     rw[bK _ k rfl (by omega),bK _ (dI x (x.aa.getD i.toNat (aA .aS)).live (x.aa.getD (IntKind.i64.wrap (BitVec.ofInt IntKind.i64.bits i^^^BitVec.ofInt IntKind.i64.bits 1).toNat).toNat (aA .aS)).live (x.az.rounds.take k)) rfl (by omega),hs]
     try rfl
    ·rw[oR]at nW
     rw[zP J6 nW]at hs
     refine aq (bF X [1,2,5,6,7] rfl ?_)
     refine⟨k+1,by omega,by omega,?_⟩
     rw[bK _ k rfl (by omega),hs]
     try rfl
  ·try simp only[aX]at bz
   have SC:dI x (x.aa.getD i.toNat (aA .aS)).live (x.aa.getD (IntKind.i64.wrap (BitVec.ofInt IntKind.i64.bits i^^^BitVec.ofInt IntKind.i64.bits 1).toNat).toNat (aA .aS)).live x.az.rounds=dI x (x.aa.getD i.toNat (aA .aS)).live (x.aa.getD (IntKind.i64.wrap (BitVec.ofInt IntKind.i64.bits i^^^BitVec.ofInt IntKind.i64.bits 1).toNat).toNat (aA .aS)).live (x.az.rounds.take k):=by
    rcases Nat.lt_or_ge k x.az.rounds.length with h|h
    ·exact Et _ _ _ _ _ (by omega)
    ·rw[List.take_of_length_le h]
   exact aI (au X [4] rfl (ak (ah rfl ⟨by rw[fF,if_pos hpk, ←ny,SC],⟨⟩⟩)))
end
section
set_option maxRecDepth 100000
theorem rU(a:gH)(f:Int)(hal:a.rounds.length≤1048576):So 116 [.agg (dS a),aB f] [.a (.sl .int (eX a.rounds f))]:=by
 refine av X call116 func116 ntmps116 rfl rfl ?_
 intro zb
 refine au X [1,2] rfl (aH X [1,2,5] rfl (by and_intros<;>first|exact⟨⟩|exact rfl) (af (au X [1,5,10,11,12] rfl ?_)))
 refine ay (aG (fun k=>k≤a.rounds.length) (fun k:Nat=> [(12, .one ((aB k)))]) (fun k=> [(8, .arr .int (eX (a.rounds.take k) f))]) (fun k=>a.rounds.length-k) 0 (fun k=>rfl) (Nat.zero_le _) rfl ?_)
 intro k hk
 have hle:=wF a.rounds f k
 refine au X [1,5,10,11,12,13] rfl ?_
 refine af (an rfl ?_ ?_)<;>intro hb0
 ·try simp only[aX]at hb0
  refine aq (af (ay (aH X [1,5,7,10,11,12] rfl (by and_intros<;>first|exact⟨⟩| (intros;omega)) (au X [1,5,7,10,11,12,19] rfl ?_))))
  refine an rfl ?_ ?_<;>intro bz
  ·try simp only[aX]at bz
   have hs:=zQ a.rounds f k hb0 (by omega)
   refine aP X [(24,8)] [] [1,5,10,11,12] [] rfl (by and_intros<;>first|exact⟨⟩|exact rfl| (simp only[dB,maxLen,lens];omega)) (bF X [1,5,10,11,12] rfl ?_)
   refine⟨k+1,by omega,by omega,?_⟩
   rw[bK _ k rfl (by omega),hs]
   try rfl
  ·try simp only[aX]at bz
   have hs:=wE a.rounds f k hb0 (by omega)
   refine aq (bF X [1,5,10,11,12] rfl ?_)
   refine⟨k+1,by omega,by omega,?_⟩
   rw[bK _ k rfl (by omega),hs]
   try rfl
 ·try simp only[aX]at hb0
  exact aI (au X [4] rfl (ak (ah rfl ⟨by rw[List.take_of_length_le hb0],⟨⟩⟩)))
theorem nj(x:aR)(hal:x.az.rounds.length≤1048576):So 91 [.agg (aZ x)] [aF (ku x)]:=by
 refine av X call91 func91 ntmps91 rfl rfl ?_
 intro zb
 refine bC 0 2 rfl rfl (fun lH=>(au X [1] rfl (au X [1,3] rfl (af (au X [1,3,10,11,12] rfl ?_)))))
 refine ay (aG (fun k=>k≤x.aa.length∧(x.aa.take k).all (kr x)=true) (fun k:Nat=> [(12, .one ((aB k)))]) (fun k=> []) (fun k=>x.aa.length-k) 0 (fun k=>rfl) ⟨Nat.zero_le _,rfl⟩ rfl ?_)
 rintro k ⟨hk,hall⟩
 refine au X [1,3,10,11,12,13] rfl ?_
 refine af (an rfl ?_ ?_)<;>intro hb0
 ·try simp only[aX]at hb0
  refine aq (af (ay (aH X [1,3,5,10,11,12] rfl (by and_intros<;>first|exact⟨⟩| (intros;omega)) (af ?_))))
  have t1:=(rU x.az ((x.aa.getD k (aA .aS)).saved.next) (by first|assumption|omega| (simp;done)| (simp;omega)))
  refine bU X [] [(21,⟨true,bQ t1⟩)] [1,3,10,11,12,38] [] 23 MO (by kernel_rfl) rfl (by(with_reducible and_intros)<;>first|exact⟨⟩|exact t1| ((intro h1;first| (intro h2;first| (intro h3;refine And.intro ?_ ?_)|refine And.intro ?_ ?_)|refine And.intro ?_ ?_)<;>first|omega| ((try simp only[aX]at*);(try simp(disch:=omega) only[bp]);omega))) ?_
  refine an rfl ?_ ?_<;>intro bz
  ·have hne:kr x (x.aa.getD k (aA .aS))=false:=bN bz (by simp only[kr,Int.toNat_zero,aQ]<;>first|rfl|ac_rfl)
   exact au X [2] rfl (ak (ah rfl ⟨by rw[ku,zk _ _ (aA .aS) k hb0 hne],⟨⟩⟩))
  ·have hee:kr x (x.aa.getD k (aA .aS))=true:=bM bz (by simp only[kr,Int.toNat_zero,aQ]<;>first|rfl|ac_rfl)
   refine aq (bF X [1,3,10,11,12] rfl ?_)
   refine⟨k+1,⟨by omega,by rw[oO _ _ _ (aA .aS) hb0,hall,Bool.true_and];exact hee⟩,by omega,?_⟩
   rw[bK _ k rfl (by omega)]
   try rfl
 ·try simp only[aX]at hb0
  exact aI (au X [2] rfl (ak (ah rfl ⟨by rw[List.take_of_length_le hb0]at hall;rw[ku,hall],⟨⟩⟩)))
theorem kA(a:gH)(f:Int)(hal:a.rounds.length≤1048576):So 169 [.agg (dS a),aB f] [.a (.sl .int (eX a.rounds f))]:=by
 refine av X call169 func169 ntmps169 rfl rfl ?_
 intro zb
 refine au X [1,2] rfl (aH X [1,2,5] rfl (by and_intros<;>first|exact⟨⟩|exact rfl) (af (au X [1,2,5,6] rfl ?_)))
 refine ay (aG (fun k=>k≤a.rounds.length) (fun k:Nat=> [(6, .one ((aB k)))]) (fun k=> [(7, .arr .int (eX (a.rounds.take k) f))]) (fun k=>a.rounds.length-k) 0 (fun k=>rfl) (Nat.zero_le _) rfl ?_)
 intro k hk
 have hle:=wF a.rounds f k
 refine af (au X [1,2,5,6,12] rfl ?_)
 refine an rfl ?_ ?_<;>intro hb0
 ·try simp only[aX]at hb0
  refine aq (af (ay (aH X [1,2,5,6,22] rfl (by and_intros<;>first|exact⟨⟩| (intros;omega)) ?_)))
  refine an rfl ?_ ?_<;>intro bz
  ·try simp only[aX]at bz
   have hs:=zQ a.rounds f k hb0 (by omega)
   refine aP X [(31,7)] [] [1,2,5,6] [] rfl (by and_intros<;>first|exact⟨⟩| (intros;omega)|exact rfl| (simp only[dB,maxLen,lens];omega)) (bF X [1,2,5,6] rfl ?_)
   refine⟨k+1,by omega,by omega,?_⟩
   rw[bK _ k rfl (by omega),hs]
   try rfl
  ·try simp only[aX]at bz
   have hs:=wE a.rounds f k hb0 (by omega)
   refine aq (bF X [1,2,5,6] rfl ?_)
   refine⟨k+1,by omega,by omega,?_⟩
   rw[bK _ k rfl (by omega),hs]
   try rfl
 ·try simp only[aX]at hb0
  exact aI (au X [4] rfl (ak (ah rfl ⟨by rw[List.take_of_length_le hb0],⟨⟩⟩)))
theorem nk(x:aR)(hal:x.az.rounds.length≤1048576):So 103 [.agg (aZ x)] [aF (ku x)]:=by
 refine av X call103 func103 ntmps103 rfl rfl ?_
 intro zb
 refine bC 0 2 rfl rfl (fun lH=>(au X [1] rfl (af (au X [1,3] rfl ?_))))
 refine ay (aG (fun k=>k≤x.aa.length∧(x.aa.take k).all (kr x)=true) (fun k:Nat=> [(3, .one ((aB k)))]) (fun k=> []) (fun k=>x.aa.length-k) 0 (fun k=>rfl) ⟨Nat.zero_le _,rfl⟩ rfl ?_)
 rintro k ⟨hk,hall⟩
 refine af (au X [1,3,9] rfl ?_)
 refine an rfl ?_ ?_<;>intro hb0
 ·try simp only[aX]at hb0
  refine aq (af (ay (aH X [1,3,4] rfl (by and_intros<;>first|exact⟨⟩| (intros;omega)) (af ?_))))
  have t1:=(kA x.az ((x.aa.getD k (aA .aS)).saved.next) (by first|assumption|omega| (simp;done)| (simp;omega)))
  refine aP X [] [(22,⟨true,bQ t1⟩)] [1,3,41] [] rfl (by(with_reducible and_intros)<;>first|exact⟨⟩|exact t1| ((intro h1;first| (intro h2;first| (intro h3;refine And.intro ?_ ?_)|refine And.intro ?_ ?_)|refine And.intro ?_ ?_)<;>first|omega| ((try simp only[aX]at*);(try simp(disch:=omega) only[bp]);omega))) ?_
  refine an rfl ?_ ?_<;>intro bz
  ·have hne:kr x (x.aa.getD k (aA .aS))=false:=bN bz (by simp only[kr,Int.toNat_zero,aQ]<;>first|rfl|ac_rfl)
   exact au X [2] rfl (ak (ah rfl ⟨by rw[ku,zk _ _ (aA .aS) k hb0 hne],⟨⟩⟩))
  ·have hee:kr x (x.aa.getD k (aA .aS))=true:=bM bz (by simp only[kr,Int.toNat_zero,aQ]<;>first|rfl|ac_rfl)
   refine aq (bF X [1,3] rfl ?_)
   refine⟨k+1,⟨by omega,by rw[oO _ _ _ (aA .aS) hb0,hall,Bool.true_and];exact hee⟩,by omega,?_⟩
   rw[bK _ k rfl (by omega)]
   try rfl
 ·try simp only[aX]at hb0
  exact aI (au X [2] rfl (ak (ah rfl ⟨by rw[List.take_of_length_le hb0]at hall;rw[ku,hall],⟨⟩⟩)))
theorem ck(x:aR)(i:Int)(hd:x.aa.length≤1048576):So 30 [.agg (aZ x),aB i] [aF (lp x i)]:=by
 refine av X call30 func30 ntmps30 rfl rfl ?_
 intro zb
 have hf:=fun h=>C1 (i:=i) hd h
 refine au X [1,2] rfl (af ?_)
 have t1:=(jk ((x.aa.getD i.toNat (aA .aS)).live.inbox) ((x.aa.getD (IntKind.i64.wrap (BitVec.ofInt IntKind.i64.bits i^^^BitVec.ofInt IntKind.i64.bits 1).toNat).toNat (aA .aS)).live.aE))
 exact bU X [] [(7,⟨false,[aF (dA x i)]⟩),(24,⟨false,bQ t1⟩)] [4] [] 22 MO (by kernel_rfl) rfl ⟨fun _=>jk _ _,fun h=>(hf h).2.1,fun h=>(hf h).1,oV x i hd,⟨⟩⟩ (ak (ah rfl ⟨by rw[oR,EX hd],⟨⟩⟩))
theorem eg(x:aR)(i:Int)(hd:x.aa.length≤1048576):So 29 [.agg (aZ x),aB i] [aF (lp x i)]:=by
 refine av X call29 func29 ntmps29 rfl rfl ?_
 intro zb
 refine au X [1,2] rfl (af (aD X [] [(9,⟨false,[aF (dA x i)]⟩)] [1,2,10] [] rfl (by(with_reducible and_intros)<;>first|exact⟨⟩|exact(oW x i (by first|assumption|omega| (simp;done)| (simp;omega)))) ?_))
 refine an rfl ?_ ?_<;>intro hb0
 ·have hpk:dA x i=false:=by simpa using hb0
  exact au X [4] rfl (ak (ah rfl ⟨by rw[lp,hpk];rfl,⟨⟩⟩))
 ·have hpk:dA x i=true:=by simpa using hb0
  have hf:=C1 hd hpk
  refine aq (aH X [1,2,5] rfl (by and_intros<;>first|exact⟨⟩| (intros;omega)) (aH X [5,6] rfl (by and_intros<;>first|exact⟨⟩| (intros;omega)) (af ?_)))
  have t1:=(ff ((x.aa.getD i.toNat (aA .aS)).live.inbox) (((x.aa.getD (IntKind.i64.wrap (BitVec.ofInt IntKind.i64.bits i^^^BitVec.ofInt IntKind.i64.bits 1).toNat).toNat (aA .aS)).live.aE.take ((x.aa.getD i.toNat (aA .aS)).live.inbox.length:Int).toNat).drop (0:Int).toNat))
  refine aP X [] [(37,⟨false,bQ t1⟩)] [4] [] rfl (by(with_reducible and_intros)<;>first|exact⟨⟩|exact fun _=>t1| ((intro h1;first| (intro h2;first| (intro h3;refine And.intro ?_ ?_)|refine And.intro ?_ ?_)|refine And.intro ?_ ?_)<;>first|omega| ((try simp only[aX]at*);(try simp(disch:=omega) only[bp]);omega))) ?_
  exact ak (ah rfl ⟨by rw[←EX hd,hpk];exact(congrArg Value.bool (by simp only[qH,List.drop_zero,Int.toNat_zero,aQ]<;>first|rfl|ac_rfl)),⟨⟩⟩)
theorem dz(x:aR)(hsz:dn x≤1048576):So 31 [.agg (aZ x)] [aF (nE x)]:=by
 refine av X call31 func31 ntmps31 rfl rfl ?_
 intro zb
 have hd:x.aa.length≤1048576:=CQ hsz
 have hrl:x.az.rounds.length≤1048576:=qg hsz
 refine au X [1] rfl (af (aD X [] [(5,⟨false,[aF (okW x)]⟩),(9,⟨false,[aF (ku x)]⟩)] [1,11] [] rfl (by(with_reducible and_intros);(iterate 2 all_goals try first|exact⟨⟩|exact(qI x)|exact fun _=>(nj x (by first|assumption|omega| (simp;done)| (simp;omega))))) ?_))
 refine an rfl ?_ ?_<;>intro hb0
 ·have hh:(okW x&&ku x)=false:=bN hb0 (by simp only[aQ]<;>first|rfl|ac_rfl)
  exact au X [2] rfl (ak (ah rfl ⟨by rw[nE,hh];rfl,⟨⟩⟩))
 ·have hh:(okW x&&ku x)=true:=bM hb0 (by simp only[aQ]<;>first|rfl|ac_rfl)
  refine aq (af (au X [1,14,15] rfl ?_))
  refine ay (aG (fun k=>k≤x.aa.length∧(List.range k).all (J9 x)=true) (fun k:Nat=> [(15, .one ((aB k)))]) (fun k=> []) (fun k=>x.aa.length-k) 0 (fun k=>rfl) ⟨Nat.zero_le _,rfl⟩ rfl ?_)
  rintro k ⟨hk,hall⟩
  refine au X [1,14,15,16] rfl ?_
  refine af (an rfl ?_ ?_)<;>intro bz
  ·try simp only[aX]at bz
   refine aq (af (ay (au X [1,3,14,15] rfl (aD X [] [(20,⟨false,[aF (lp x (k:Int))]⟩),(25,⟨false,[aF (fF x (k:Int))]⟩)] [1,14,15,27] [] rfl (by(with_reducible and_intros);(iterate 2 all_goals try first|exact⟨⟩|exact(ck x (k:Int) (by first|assumption|omega| (simp;done)| (simp;omega)))|exact fun _=>(dU x (k:Int) (by first|assumption|omega| (simp;done)| (simp;omega))))) ?_))))
   refine an rfl ?_ ?_<;>intro bW
   ·have hk2:J9 x k=false:=bN bW (by simp only[J9,aQ]<;>first|rfl|ac_rfl)
    exact au X [2] rfl (ak (ah rfl ⟨by rw[nE,gj bz hk2];simp,⟨⟩⟩))
   ·have hk2:J9 x k=true:=bM bW (by simp only[J9,aQ]<;>first|rfl|ac_rfl)
    refine aq (bF X [1,14,15] rfl ?_)
    refine⟨k+1,⟨by omega,eV hall hk2⟩,by omega,?_⟩
    rw[bK _ k rfl (by omega)]
    try rfl
  ·try simp only[aX]at bz
   exact aI (au X [2] rfl (ak (ah rfl ⟨by rw[nE,hh,show x.aa.length=k by omega,hall];rfl,⟨⟩⟩)))
theorem gW(x:aR)(hsz:dn x≤1048576):So 35 [.agg (aZ x)] [aF (nE x)]:=by
 refine av X call35 func35 ntmps35 rfl rfl ?_
 intro zb
 have hd:x.aa.length≤1048576:=CQ hsz
 have hrl:x.az.rounds.length≤1048576:=qg hsz
 refine au X [1] rfl (af (au X [1,3] rfl ?_))
 refine ay (aG (fun k=>k≤x.aa.length∧(List.range k).all (J9 x)=true) (fun k:Nat=> [(3, .one ((aB k)))]) (fun k=> []) (fun k=>x.aa.length-k) 0 (fun k=>rfl) ⟨Nat.zero_le _,rfl⟩ rfl ?_)
 rintro k ⟨hk,hall⟩
 refine af (au X [1,3,8] rfl ?_)
 refine an rfl ?_ ?_<;>intro hb0
 ·try simp only[aX]at hb0
  refine aq (af (ay (aD X [] [(13,⟨false,[aF (lp x (k:Int))]⟩),(18,⟨false,[aF (fF x (k:Int))]⟩)] [1,3,20] [] rfl (by(with_reducible and_intros);(iterate 2 all_goals try first|exact⟨⟩|exact(eg x (k:Int) (by first|assumption|omega| (simp;done)| (simp;omega)))|exact fun _=>(dV x (k:Int) (by first|assumption|omega| (simp;done)| (simp;omega))))) ?_)))
  refine an rfl ?_ ?_<;>intro bz
  ·have hk2:J9 x k=false:=bN bz (by simp only[J9,aQ]<;>first|rfl|ac_rfl)
   exact au X [2] rfl (ak (ah rfl ⟨by rw[nE,gj hb0 hk2];simp,⟨⟩⟩))
  ·have hk2:J9 x k=true:=bM bz (by simp only[J9,aQ]<;>first|rfl|ac_rfl)
   refine aq (bF X [1,3] rfl ?_)
   refine⟨k+1,⟨by omega,eV hall hk2⟩,by omega,?_⟩
   rw[bK _ k rfl (by omega)]
   try rfl
 ·try simp only[aX]at hb0
  exact aI (aD X [] [(22,⟨false,[aF (okW x)]⟩),(25,⟨false,[aF (ku x)]⟩)] [2] [] rfl (by(with_reducible and_intros);(iterate 2 all_goals try first|exact⟨⟩|exact(bS x)|exact fun _=>(nk x (by first|assumption|omega| (simp;done)| (simp;omega))))) (ak (ah rfl ⟨by rw[nE,show x.aa.length=k by omega,hall];exact(congrArg Value.bool (by simp only[aQ]<;>first|rfl|ac_rfl)),⟨⟩⟩)))
end
section
set_option maxRecDepth 100000
theorem nH(key c:Int)(cell:List UInt8):So 331 [aB key,aB c, .a (.sl .u8 cell)] [.agg (gB (Ok key c cell)),aF (pg key c cell)]:=by
 refine av X call331 func331 ntmps331 rfl rfl ?_
 intro zb
 refine dD 2 rfl (fun l5=>(au X [0,1,2,6] rfl (af (aD X [] [(11,⟨false,[aF (ez key)]⟩),(15,⟨false,[aF (inr c 0 1000000000000)]⟩)] [0,1,2,6,22] [] rfl (by(with_reducible and_intros);(iterate 2 all_goals try first|exact⟨⟩|exact(eY key)|exact fun _=>(aJ c 0 1000000000000))) ?_))))
 refine an rfl ?_ ?_<;>intro hb0
 ·have hH:RX key c cell=false:=bN hb0 (by simp only[RX,aQ]<;>first|rfl|ac_rfl)
  have hk:=TP hH
  exact aH X [6,7] rfl (by trivial) (ak (ah rfl ⟨by rw[vo hk],by rw[vo hk],by rw[hk],⟨⟩⟩))
 ·have hH:RX key c cell=true:=bM hb0 (by simp only[RX,aQ]<;>first|rfl|ac_rfl)
  obtain⟨hk1,hk2,um⟩:=V7 hH
  have V9:=Qi hk1 hk2 um
  refine aq (dy X [] [] [0,1,2,6,8] [] 23 MO (by kernel_rfl) rfl (by and_intros<;>first|exact⟨⟩| (intros;omega)) ?_)
  rw[Qh]
  refine af (af ?_)
  have t1:=(mh key c ((cell.take (20:Int).toNat).drop (0:Int).toNat) (by rw[List.length_drop,List.length_take];omega))
  refine aP X [] [(51,⟨false,bQ t1⟩)] [0,1,2,6,52] [] rfl (by(with_reducible and_intros)<;>first|exact⟨⟩|exact t1| (intros;omega)) ?_
  refine an rfl ?_ ?_<;>intro bz
  ·try simp only[aX]at bz
   have hA:ME key c cell=false:=by rw[V9,decide_eq_false_iff_not];intro h;exact bz (by rw[h];simp)
   have hk:=ML hA
   exact aH X [6,7] rfl (by trivial) (ak (ah rfl ⟨by rw[vo hk],by rw[vo hk],by rw[hk],⟨⟩⟩))
  ·try simp only[aX]at bz
   have hA:ME key c cell=true:=by rw[V9,decide_eq_true_eq,bz];simp
   obtain⟨hol,_⟩:=HU hA
   refine aq (af ?_)
   have t1:=(zq (lN key c) ((cell.take (20:Int).toNat).drop (0:Int).toNat) (by rw[List.length_drop,List.length_take];omega))
   refine bU X [] [(56,⟨false,[aB (lN key c)]⟩),(59,⟨true,bQ t1⟩)] [6,9] [] 7 MO (by kernel_rfl) rfl (by(with_reducible and_intros);(iterate 2 all_goals try first|exact⟨⟩|exact(mj key c)|exact t1);all_goals first| (intros;omega)) ?_
   rw[TH]
   refine af (aH X [6,9,71] rfl (by and_intros<;>first|exact⟨⟩| (intros;omega)| ((intro h1;first| (intro h2;first| (intro h3;refine And.intro ?_ ?_)|refine And.intro ?_ ?_)|refine And.intro ?_ ?_)<;>first|omega| ((try simp only[aX]at*);(try simp(disch:=omega) only[bp]);omega))| (refine fun _=> ?_;dsimp only[hyps,ey];omega)) ?_)
   refine an rfl ?_ ?_<;>intro bW
   ·try simp only[aX]at bW
    rw[On,On]at bW
    have hk:pg key c cell=false:=by
     rcases bW with h|h
     ·exact TJ h
     ·exact V5 (by have h:(14:Int)<(Fy key c cell:Int):=h;omega)
    exact aH X [6,7] rfl (by trivial) (ak (ah rfl ⟨by rw[vo hk],by rw[vo hk],by rw[hk],⟨⟩⟩))
   ·try simp only[aX]at bW
    rw[On,On]at bW
    have Yr:Fy key c cell≤14:=by have h:(Fy key c cell:Int)≤14:=bW.2;omega
    have hu1:((EY key c cell).getD (Int.toNat 1) (aA .u8)).toNat≤14:=Yr
    have Ca:=Qg hA Yr
    have hk:pg key c cell=true:=V6 hA Yr bW.1
    have Rm:=TI key c cell
    exact aq (af (cJ X [(85,77)] [] [6,7] [] 45055 4 MO (by kernel_rfl) rfl (by kernel_rfl) (by and_intros<;>first|exact⟨⟩| (intros;omega)|exact rfl| ((try simp only[aX]at*);(simp(disch:=omega) only[bp]);omega)| (simp only[dB,maxLen,lens];omega)) (ak (ah rfl ⟨by rw[HX hk];exact congrArg (Value.int IntKind.i64) (On _),by rw[HX hk];exact Rm,by rw[hk],⟨⟩⟩))))
theorem gG(a:gH)(r:Int)(hz:a.rounds.length≤1048576∧ ∀y,y∈a.rounds→dc List.length y.db.rows≤1048576):So 274 [.agg (dS a),aB r] [.agg (bA (kL a.rounds r)),aF (kB a.rounds r)]:=by
 refine av X call274 func274 ntmps274 rfl rfl ?_
 intro zb
 refine bC 0 1 rfl rfl (fun OY=>(au X [1,2,4] rfl (af (au X [1,2,4,6] rfl ?_))))
 refine ay (aG (fun k=>k≤a.rounds.length∧(a.rounds.take k).any (Ol r)=false) (fun k:Nat=> [(6, .one ((aB k)))]) (fun k=> []) (fun k=>a.rounds.length-k) 0 (fun k=>rfl) ⟨Nat.zero_le _,rfl⟩ rfl ?_)
 rintro k ⟨hk,hall⟩
 refine af (au X [1,2,4,6,11] rfl ?_)
 refine an rfl ?_ ?_<;>intro hb0
 ·try simp only[aX]at hb0
  refine aq (af (ay (aH X [1,2,4,6,21] rfl (by and_intros<;>first|exact⟨⟩| (intros;omega)) ?_)))
  refine an rfl ?_ ?_<;>intro bz
  ·have hh:=TF hb0 hall bz
   exact aD X [] [(28,⟨true,[.agg (bA ((a.rounds.getD k (aA .aC)).db))]⟩)] [4,5] [] rfl (by(with_reducible and_intros)<;>first|exact⟨⟩|exact(cZ ((a.rounds.getD k (aA .aC)).db) (hz.2 _ (getD_in _ hb0)))| (intros;omega)) (ak (ah rfl ⟨by rw[hh.2],by rw[hh.1],⟨⟩⟩))
  ·refine aq (bF X [1,2,4,6] rfl ?_)
   refine⟨k+1,⟨by omega,CJ (aA .aC) hb0 hall bz⟩,by omega,?_⟩
   rw[bK _ k rfl (by omega)]
   try rfl
 ·try simp only[aX]at hb0
  exact aI (aH X [4,5] rfl (by trivial) (ak (ah rfl ⟨by rw[(HV (by rw[←hall,List.take_of_length_le hb0])).2],by rw[(HV (by rw[←hall,List.take_of_length_le hb0])).1],⟨⟩⟩)))
theorem vv(rows:List (List UInt8))(v:List Int)(hr: ∀r,r∈rows→r.length≤1048576):So 334 [.a (.sl (.sl .u8) rows), .a (.sl .int v)] [.a (.sl .u8 (C2 rows v))]:=by
 refine av X call334 func334 ntmps334 rfl rfl ?_
 intro zb
 refine dD 0 rfl (fun hl0=> ?_)
 refine dD 1 rfl (fun hl1=>(au X [0,1] rfl (aH X [0,1,5] rfl (by and_intros<;>first|exact⟨⟩|exact rfl) (af (au X [0,1,5,6] rfl ?_)))))
 refine ay (aG (fun k=>k≤rows.length) (fun k:Nat=> [(6, .one ((aB k)))]) (fun k=> [(7, .arr .u8 (qJ rows v k))]) (fun k=>rows.length-k) 0 (fun k=>rfl) (Nat.zero_le _) rfl ?_)
 intro k hk
 have hle:=zT v hr k hk
 refine af (au X [0,1,5,6,17] rfl ?_)
 refine an rfl ?_ ?_<;>intro hb0
 ·try simp only[aX]at hb0
  have hel:=hr _ (getD_in (aA (.sl .u8)) hb0.1)
  refine aq (af (ay (aH X [0,1,5,6,24] rfl (by and_intros<;>first|exact⟨⟩| (intros;omega)) ?_)))
  refine an rfl ?_ ?_<;>intro bz
  ·try simp only[aX]at bz
   have hs:=zS (rows:=rows) hb0.2 bz
   refine aP X [] [(30,⟨true,[.a (.sl .u8 (gx (qJ rows v k) (rows.getD k (aA (.sl .u8)))))]⟩)] [0,1,5,6] [] rfl (by(with_reducible and_intros)<;>first|exact⟨⟩|exact(gm (qJ rows v k) (rows.getD k (aA (.sl .u8))) (by first|assumption|omega| (simp;done)| (simp;omega)) (by first|assumption|omega| (simp;done)| (simp;omega)))| (intros;omega)) (uX 5 7 rfl (bF X [0,1,5,6] rfl ?_))
   refine⟨k+1,by omega,by omega,?_⟩
   rw[bK _ k rfl (by omega),hs]
   try rfl
  ·try simp only[aX]at bz
   have hs:=qx (rows:=rows) (v:=v) (k:=k) (fun h=>bz h.2)
   refine aq (bF X [0,1,5,6] rfl ?_)
   refine⟨k+1,by omega,by omega,?_⟩
   rw[bK _ k rfl (by omega),hs]
   try rfl
 ·try simp only[aX]at hb0
  exact aI (au X [4] rfl (ak (ah rfl ⟨by rw[MH hk (by omega)],⟨⟩⟩)))
theorem kE(d:DB)(v:List Int):So 314 [.agg (bA d), .a (.sl .int v)] [.a (.sl .u8 (gX d v))]:=by
 refine av X call314 func314 ntmps314 rfl rfl ?_
 intro zb
 refine au X [1,2] rfl (af (aD X [] [(6,⟨false,[aF (b9 d)]⟩),(13,⟨false,[aF (ig v (d.rows.length:Int))]⟩)] [1,2,15] [] rfl (by(with_reducible and_intros);(iterate 2 all_goals try first|exact⟨⟩|exact(bX d)|exact fun _=>(gA v (d.rows.length:Int)))) ?_))
 refine an rfl ?_ ?_<;>intro hb0
 ·have hk:(b9 d&&ig v d.rows.length)=false:=bN hb0 (by simp only[aQ]<;>first|rfl|ac_rfl)
  exact aH X [4] rfl (by and_intros<;>first|exact⟨⟩|exact rfl) (ak (ah rfl ⟨by rw[gX,hk];rfl,⟨⟩⟩))
 ·have hk:(b9 d&&ig v d.rows.length)=true:=bM hb0 (by simp only[aQ]<;>first|rfl|ac_rfl)
  have hkk:=hk
  rw[Bool.and_eq_true]at hkk
  have UI: ∀r,r∈d.rows→r.length≤1048576:=fun r hr=>by rw[(iX.1 hkk.1).2 r hr];decide
  have hxl:(C2 d.rows v).length≤1048576:=zT v UI d.rows.length (Nat.le_refl _)
  exact aq (dy X [] [(21,⟨true,[.a (.sl .u8 (C2 d.rows v))]⟩),(22,⟨true,[.a (.sl .u8 (gx RQ (C2 d.rows v)))]⟩)] [4] [] 7 MO (by kernel_rfl) rfl ⟨gm RQ (C2 d.rows v) (by rw[qm];decide) hxl,vv d.rows v UI,⟨rfl,aV _ (by decide)⟩,rfl,by omega,⟨by decide,by decide⟩,⟨⟩⟩ (ak (ah rfl ⟨by rw[gX,if_pos hk],⟨⟩⟩)))
theorem iG(key:Int)(a:cD)(h1:a.selection.length≤262144)(h2:a.data.length≤262144):So 312 [aB key, .agg (gM a)] [aB (Jy key a.server a.round a.selection a.data)]:=by
 refine av X call312 func312 ntmps312 rfl rfl ?_
 intro zb
 have Ca:=xC a.data
 refine au X [0,3] rfl (aD X [(16,13)] [] [0,3,5] [] rfl (by and_intros<;>first|exact⟨⟩|exact rfl| (simp only[dB,maxLen,lens];omega)) (af ?_))
 have t1:=(aW key ([191,a.server,a.round,(a.selection.length:Int)]++a.selection++Gf a.data) (by simp[xC];omega))
 exact aP X [(22,13)] [(21,⟨true,[.a (.sl .int (Gf a.data))]⟩),(23,⟨false,bQ t1⟩)] [4] [] rfl (by(with_reducible and_intros);(iterate 2 all_goals try first|exact⟨⟩|exact(j7 a.data (by omega))|exact t1);all_goals first|exact rfl| (simp only[dB,maxLen,lens];omega)) (ak (ah rfl ⟨rfl,⟨⟩⟩))
theorem tV(key sv r:Int)(d:DB)(v:List Int)(hv:v.length≤262144):So 311 [aB key,aB sv,aB r, .agg (bA d), .a (.sl .int v)] [.agg (gM (nY key sv r d v)),aF (mB d v)]:=by
 refine av X call311 func311 ntmps311 rfl rfl ?_
 intro zb
 have hal:=zU d v
 refine au X [0,1,2,4,8,10] rfl (aD X [] [(16,⟨true,[.a (.sl .u8 (gX d v))]⟩)] [0,1,2,4,10,12] [] rfl (by(with_reducible and_intros)<;>first|exact⟨⟩|exact(kE d v)) (af (au X [0,1,2,4,10,12,19] rfl ?_)))
 refine an rfl ?_ ?_<;>intro hb0
 ·try simp only[aX]at hb0
  have hk:=Qj (d:=d) (v:=v) (by omega)
  have hg:=TR (key:=key) (sv:=sv) (r:=r) hk
  exact aH X [10,11] rfl (by trivial) (ak (ah rfl (by and_intros<;>first|exact⟨⟩| (rw[hg];rfl;done)| (rw[hk];done))))
 ·try simp only[aX]at hb0
  have hk:=E1 (d:=d) (v:=v) (by omega)
  have hg:=HY (key:=key) (sv:=sv) (r:=r) hk
  have h24:=HZ hk
  exact aq (aD X [(25,23)] [] [0,10,13] [] rfl (by and_intros<;>first|exact⟨⟩|exact rfl| (simp only[dB,maxLen,lens];omega)) (aD X [] [(30,⟨false,[aB (Jy key (⟨sv,r,v,gX d v,0⟩:cD).server (⟨sv,r,v,gX d v,0⟩:cD).round (⟨sv,r,v,gX d v,0⟩:cD).selection (⟨sv,r,v,gX d v,0⟩:cD).data)]⟩)] [10,13] [] rfl (by(with_reducible and_intros)<;>first|exact⟨⟩|exact(iG key (⟨sv,r,v,gX d v,0⟩:cD) (by show v.length≤_;omega) (by show(gX d v).length≤_;omega))) (aH X [10,11] rfl (by trivial) (ak (ah rfl (by and_intros<;>first|exact⟨⟩| (rw[hg];rfl;done)| (rw[hk];done)))))))
theorem nI(s:bl)(key r:Int)(d:DB)(v:List Int)(hv:v.length≤262144):So 275 [.agg (cx s),aB key,aB r, .agg (bA d), .a (.sl .int v)] [.agg (gM (Om s key r d v)),aF (mB d v)]:=by
 refine av X call275 func275 ntmps275 rfl rfl ?_
 intro zb
 refine au X [1,2,4,5,8,10] rfl (aD X [] [(21,⟨true,[.agg (gM (nY key s.id r d v)),aF (mB d v)]⟩)] [1,5,10,12,13] [] rfl (by(with_reducible and_intros)<;>first|exact⟨⟩|exact(tV key s.id r d v (by first|assumption|omega| (simp;done)| (simp;omega)))) (af (au X [1,10,12,13,29] rfl ?_)))
 refine an rfl ?_ ?_<;>intro hb0
 ·have hq:(mB d v&&(s.behavior==3))=true:=qt hb0 (by simp only[aQ]<;>first|rfl|ac_rfl)
  obtain⟨hk,ha⟩:=Qk (key:=key) (r:=r) hq
  have hg:=HY (key:=key) (sv:=s.id) (r:=r) hk
  have Ch:(nY key s.id r d v).data.length=24:=by rw[hg];exact HZ hk
  refine dy X [] [] [1,10,12,13] [] 8 MO (by kernel_rfl) rfl (by and_intros<;>first|exact⟨⟩| (intros;omega)|exact(gd _).1|exact(gd _).2) ?_
  rw[TQ]
  exact aP X [] [(40,⟨false,[aB (Jy key (⟨(nY key s.id r d v).server,(nY key s.id r d v).round,(nY key s.id r d v).selection,Ka (nY key s.id r d v).data,(nY key s.id r d v).G5⟩:cD).server (⟨(nY key s.id r d v).server,(nY key s.id r d v).round,(nY key s.id r d v).selection,Ka (nY key s.id r d v).data,(nY key s.id r d v).G5⟩:cD).round (⟨(nY key s.id r d v).server,(nY key s.id r d v).round,(nY key s.id r d v).selection,Ka (nY key s.id r d v).data,(nY key s.id r d v).G5⟩:cD).selection (⟨(nY key s.id r d v).server,(nY key s.id r d v).round,(nY key s.id r d v).selection,Ka (nY key s.id r d v).data,(nY key s.id r d v).G5⟩:cD).data)]⟩)] [10,12,13] [] rfl (by(with_reducible and_intros)<;>first|exact⟨⟩|exact(iG key (⟨(nY key s.id r d v).server,(nY key s.id r d v).round,(nY key s.id r d v).selection,Ka (nY key s.id r d v).data,(nY key s.id r d v).G5⟩:cD) (by show(nY key s.id r d v).selection.length≤_;rw[hg];exact hv) (by show(Ka (nY key s.id r d v).data).length≤_;rw[H6,Ch];decide))) (aH X [10,11] rfl (by trivial) (ak (ah rfl (by and_intros<;>first|exact⟨⟩| (rw[ha];simp only[hg];rfl;done)| (rw[hk];done)))))
 ·have hq:(mB d v&&(s.behavior==3))=false:=vk hb0 (by simp only[aQ]<;>first|rfl|ac_rfl)
  have ha:=TS (key:=key) (r:=r) hq
  exact aq (aH X [10,11] rfl (by trivial) (ak (ah rfl (by and_intros<;>first|exact⟨⟩|rfl| (rw[ha];done)))))
theorem AK(l:List (List UInt8))(hr: ∀a,a∈l→a.length≤1048576):So 335 [.a (.sl (.sl .u8) l)] [.a (.sl .u8 (zV l))]:=by
 refine av X call335 func335 ntmps335 rfl rfl ?_
 intro zb
 refine dD 0 rfl (fun l5=>(au X [0] rfl (aH X [0,3] rfl (by and_intros<;>first|exact⟨⟩|exact rfl) (af (au X [0,3,4] rfl ?_)))))
 refine ay (aG (fun k=>k≤l.length) (fun k:Nat=> [(4, .one ((aB k)))]) (fun k=> [(5, .arr .u8 (zV (l.take k)))]) (fun k=>l.length-k) 0 (fun k=>rfl) (Nat.zero_le _) rfl ?_)
 intro k hk
 have hle:=MI hr k
 refine af (au X [0,3,4,9] rfl ?_)
 refine an rfl ?_ ?_<;>intro hb0
 ·try simp only[aX]at hb0
  have hel:=hr _ (getD_in (aA (.sl .u8)) hb0)
  have hs:=BL l k hb0
  refine aq (af (ay (aP X [] [(17,⟨true,[.a (.sl .u8 (gx (zV (l.take k)) (l.getD k (aA (.sl .u8)))))]⟩)] [0,3,4] [] rfl (by(with_reducible and_intros)<;>first|exact⟨⟩|exact(gm (zV (l.take k)) (l.getD k (aA (.sl .u8))) (by first|assumption|omega| (simp;done)| (simp;omega)) (by first|assumption|omega| (simp;done)| (simp;omega)))| (intros;omega)) (uX 3 5 rfl (bF X [0,3,4] rfl ?_)))))
  refine⟨k+1,by omega,by omega,?_⟩
  rw[bK _ k rfl (by omega),hs]
  try rfl
 ·try simp only[aX]at hb0
  exact aI (au X [2] rfl (ak (ah rfl ⟨by rw[List.take_of_length_le hb0],⟨⟩⟩)))
theorem nR(l:List (List UInt8)):So 330 [.a (.sl (.sl .u8) l)] [.a (.sl .u8 (RU l)),aF (kC l)]:=by
 refine av X call330 func330 ntmps330 rfl rfl ?_
 intro zb
 refine dD 0 rfl (fun l5=>(au X [0] rfl (af (au X [0,4] rfl ?_))))
 refine ay (aG (fun k=>k≤l.length∧(l.take k).all (fun a=>decide ((a.length:Int)=24))=true) (fun k:Nat=> [(4, .one ((aB k)))]) (fun k=> []) (fun k=>l.length-k) 0 (fun k=>rfl) ⟨Nat.zero_le _,rfl⟩ rfl ?_)
 rintro k ⟨hk0,hall⟩
 refine af (au X [0,4,8] rfl ?_)
 refine an rfl ?_ ?_<;>intro hb0
 ·try simp only[aX]at hb0
  refine aq (af (ay (aH X [0,4,16] rfl (by and_intros<;>first|exact⟨⟩| (intros;omega)) ?_)))
  refine an rfl ?_ ?_<;>intro bz
  ·try simp only[aX]at bz
   have hk:=Qm hb0 (fun h=>bz (by rw[h];rfl))
   exact aH X [2,3] rfl (by and_intros<;>first|exact⟨⟩|exact rfl) (ak (ah rfl ⟨by rw[H7 hk],by rw[hk],⟨⟩⟩))
  ·try simp only[aX]at bz
   refine aq (bF X [0,4] rfl ?_)
   refine⟨k+1,⟨by omega,by rw[oO _ _ _ (aA (.sl .u8)) hb0,hall,Bool.true_and];exact decide_eq_true bz⟩,by omega,?_⟩
   rw[bK _ k rfl (by omega)]
   try rfl
 ·try simp only[aX]at hb0
  rw[List.take_of_length_le hb0]at hall
  refine aI (af (aD X [] [(20,⟨false,[aF (cg (l.length:Int))]⟩)] [0,21] [] rfl (by(with_reducible and_intros)<;>first|exact⟨⟩|exact(eG (l.length:Int))) ?_))
  refine an rfl ?_ ?_<;>intro bW
  ·have hk:kC l=false:=by rw[kC,hall];simpa using bW
   exact aH X [2,3] rfl (by and_intros<;>first|exact⟨⟩|exact rfl) (ak (ah rfl ⟨by rw[H7 hk],by rw[hk],⟨⟩⟩))
  ·have hk:kC l=true:=by rw[kC,hall];simpa using bW
   have hel:=MM hk
   exact aq (aD X [] [(24,⟨true,[.a (.sl .u8 (zV l))]⟩)] [2,3] [] rfl (by(with_reducible and_intros)<;>first|exact⟨⟩|exact(AK l hel)) (ak (ah rfl ⟨by rw[Ql hk],by rw[hk],⟨⟩⟩)))
theorem pE(l:List cD)(hl:l.length≤1048576):So 308 [.a (.sl .cD l)] [.a (.sl .u8 (RU (l.map cD.data))),aF (kC (l.map cD.data))]:=by
 refine av X call308 func308 ntmps308 rfl rfl ?_
 intro zb
 refine au X [0] rfl (aH X [0,4] rfl (by and_intros<;>first|exact⟨⟩|exact rfl) (MW 4 60 rfl (af (au X [0,4,5] rfl ?_))))
 refine ay (aG (fun k=>k≤l.length) (fun k:Nat=> [(5, .one ((aB k)))]) (fun k=> [(60, .dY (.sl .u8) ((l.take k).map cD.data) .kI)]) (fun k=>l.length-k) 0 (fun k=>rfl) (Nat.zero_le _) rfl ?_)
 intro k hk
 have hle:=bJ l k
 refine af (au X [0,4,5,10] rfl ?_)
 refine an rfl ?_ ?_<;>intro hb0
 ·try simp only[aX]at hb0
  have hs:=oN cD.data l k (aA .cD) hb0
  have hml:((l.take k).map cD.data).length=(l.take k).length:=List.length_map ..
  refine aq (af (ay (aP X [(20,60)] [] [0,4,5] [] rfl (by and_intros<;>first|exact⟨⟩| (intros;omega)|exact rfl| (simp only[dB,maxLen,lens];omega)) (bF X [0,4,5] rfl ?_))))
  refine⟨k+1,by omega,by omega,?_⟩
  rw[bK _ k rfl (by omega),hs]
  try rfl
 ·try simp only[aX]at hb0
  rw[List.take_of_length_le hb0]
  refine aI (af ?_)
  have t1:=(nR (l.map cD.data))
  exact aP X [] [(22,⟨true,bQ t1⟩)] [2,3] [] rfl (by(with_reducible and_intros)<;>first|exact⟨⟩|exact t1) (ak (ah rfl ⟨rfl,rfl,⟨⟩⟩))
theorem pF(x:aR)(r row s:Int)(hk:okW x=true):So 272 [.agg (aZ x),aB r,aB row,aB s] [.a (.sl .u8 (JA x r row s)),aF (EZ x r row s)]:=by
 refine av X call272 func272 ntmps272 rfl rfl ?_
 intro zb
 have har:=MR hk
 have hql:=Qn r row s hk
 have hs4:=dZ hk
 have hrl:=rN x.aj.length r row s
 have hw:IntKind.i64.wrap ((x.aj.length:Int)-1)=(x.aj.length:Int)-1:=bp (by omega)
 refine au X [1,2,3,4] rfl (af ?_)
 have t1:=(gG x.az r ⟨by omega,har.2⟩)
 refine aP X [] [(23,⟨true,bQ t1⟩)] [1,2,3,4,10,11] [] rfl (by(with_reducible and_intros)<;>first|exact⟨⟩|exact t1) (af (au X [1,2,3,4,10,27] rfl ?_))
 refine an rfl ?_ ?_<;>intro hb0
 ·have hh:kB x.az.rounds r=false:=by simpa using hb0
  exact aH X [8,9] rfl (by and_intros<;>first|exact⟨⟩|exact rfl) (ak (ah rfl ⟨by rw[(MQ hh).1],by rw[(MQ hh).2],⟨⟩⟩))
 ·have hh:kB x.az.rounds r=true:=by simpa using hb0
  have Zq:=Qo (row:=row) (s:=s) hh
  refine aq (aH X [1,2,3,4,10,12] rfl (by and_intros<;>first|exact⟨⟩|exact rfl) (af (au X [1,2,3,4,10,12,13] rfl ?_)))
  refine ay (aG (fun k=>k≤(x.aj.length-1)) (fun k:Nat=> [(13, .one ((aB k)))]) (fun k=> [(29, .arr .int ((jl x.aj.length r row s).take k))]) (fun k=>(x.aj.length-1)-k) 0 (fun k=>rfl) (Nat.zero_le _) rfl ?_)
  intro k hk
  have hle:=bJ (jl x.aj.length r row s) k
  refine af (au X [1,2,3,4,10,12,13,35] rfl ?_)
  refine an rfl ?_ ?_<;>intro bz
  ·try simp only[aX]at bz
   rw[hw]at bz
   have hs:=Ey x.aj.length r row s k (by omega)
   refine aq (af (ay (aP X [(46,29)] [(44,⟨false,[aB (kh s [229,r,row,(k:Int)])]⟩)] [1,2,3,4,10,12,13] [] rfl (by(repeat' with_reducible first|exact aL|refine aT ?_ ?_|apply And.intro)<;>first|exact(aW s [229,r,row,(k:Int)] (by first|assumption|omega| (simp;done)| (simp;omega)))|exact rfl|exact⟨rfl,aV _ (by decide)⟩| (simp only[dB,maxLen,lens];omega)) ?_)))
   refine bF X [1,2,3,4,10,12,13] rfl ?_
   refine⟨k+1,by omega,by omega,?_⟩
   rw[bK _ k rfl (by omega),hs]
   try rfl
  ·try simp only[aX]at bz
   rw[hw]at bz
   refine aI (af ?_)
   rw[List.take_of_length_le (show(jl x.aj.length r row s).length≤k by omega)]
   have t1:=(uY x.rows row (jl x.aj.length r row s) (by omega))
   refine aP X [] [(51,⟨true,bQ t1⟩)] [1,4,10,14] [] rfl (by(with_reducible and_intros)<;>first|exact⟨⟩|exact t1) (aH X [1,4,10,14,15] rfl (by and_intros<;>first|exact⟨⟩|exact rfl) (af (au X [1,4,10,14,15,16] rfl ?_)))
   refine ay (aG (fun k1=>k1≤(query' x r row s).length) (fun k1:Nat=> [(16, .one ((aB k1)))]) (fun k1=> [(52, .arr .cD (wG x r (kL x.az.rounds r) (query' x r row s) k1))]) (fun k1=>(query' x r row s).length-k1) 0 (fun k1=>rfl) (Nat.zero_le _) rfl ?_)
   intro k1 hk1
   have hal:=Jz x r (kL x.az.rounds r) (query' x r row s) k1
   have hqy:(tO x.rows row (jl x.aj.length r row s)).length=(query' x r row s).length:=rfl
   refine af (au X [1,4,10,14,15,16,56] rfl ?_)
   refine an rfl ?_ ?_<;>intro bW
   ·try simp only[aX]at bW
    have hqe:=TT x r row s k1
    have hs1:=GD x r (kL x.az.rounds r) (query' x r row s) k1
    refine aq (af (ay (af ?_)))
    have t1:=(nI (x.aj.getD k1 (aA .bl)) (ni x.bh (k1:Int)) r (kL x.az.rounds r) ((query' x r row s).getD k1 (aA (.sl .int))) (by omega))
    refine cJ X [] [(68,⟨false,[aB (ni x.bh (k1:Int))]⟩),(75,⟨true,bQ t1⟩)] [1,4,10,14,15,16,17] [] 3145727 1 MO (by kernel_rfl) rfl (by kernel_rfl) (by(with_reducible and_intros);(iterate 2 all_goals try first|exact⟨⟩|exact(fQ x.bh (k1:Int))|exact t1);all_goals first| (intros;omega)) (aP X [(81,52)] [] [1,4,10,14,15,16] [] rfl (by and_intros<;>first|exact⟨⟩|exact rfl| (simp only[dB,maxLen,lens];omega)) (bF X [1,4,10,14,15,16] rfl ?_))
    refine⟨k1+1,by omega,by omega,?_⟩
    rw[bK _ k1 rfl (by omega),hs1]
    try rfl
   ·try simp only[aX]at bW
    refine aI (af ?_)
    have t1:=(pE (wG x r (kL x.az.rounds r) (query' x r row s) k1) (by omega))
    exact aP X [] [(83,⟨true,bQ t1⟩)] [8,9] [] rfl (by(with_reducible and_intros)<;>first|exact⟨⟩|exact t1) (ak (ah rfl ⟨by rw[Zq.1,show k1=(query' x r row s).length by omega];rfl,by rw[Zq.2,show k1=(query' x r row s).length by omega];rfl,⟨⟩⟩))
end
section
set_option maxRecDepth 100000
theorem iH(c:cX)(h0:dc List.length c.aE≤1048576∧dc List.length c.inbox≤1048576):So 156 [.agg (bR c)] [.agg (cq (⟨c,c⟩:aS))]:=by
 refine av X call156 func156 ntmps156 rfl rfl ?_
 intro zb
 exact au X [1,2] rfl (dy X [(6,40)] [(4,⟨true,[.agg (bR c)]⟩),(6,⟨true,[.agg (bR c)]⟩)] [2] [] 5 MO (by kernel_rfl) rfl (by(with_reducible and_intros);(iterate 2 all_goals try first|exact⟨⟩|exact(dQ c h0))) (ak (ah rfl ⟨rfl,rfl,rfl,rfl,rfl,rfl,rfl,rfl,rfl,rfl,rfl,rfl,rfl,rfl,rfl,rfl,⟨⟩⟩)))
theorem tZ(d:aS)(h0:bq d≤1048576):So 85 [.agg (cq d)] [.agg (cq (Oo d))]:=by
 refine av X call85 func85 ntmps85 rfl rfl ?_
 intro zb
 have wS:cu d.live≤1048576∧cu d.saved≤1048576:=by unfold bq at h0;omega
 unfold cu at wS
 refine au X [1,2] rfl (af (aD X [] [(4,⟨false,[aF (cE d)]⟩)] [1,2,5] [] rfl (by(with_reducible and_intros)<;>first|exact⟨⟩|exact(cI d)) ?_))
 refine an rfl ?_ ?_<;>intro hb0
 ·have hk:cE d=false:=by simpa using hb0
  have hd:Oo d=d:=by rw[Oo,hk];rfl
  exact aD X [] [(7,⟨true,[.agg (cq d)]⟩)] [2] [] rfl (by(with_reducible and_intros)<;>first|exact⟨⟩|exact(fI d h0)) (ak (ah rfl (by and_intros<;>first|exact⟨⟩| (rw[hd];done))))
 ·have hk:cE d=true:=by simpa using hb0
  have hd:Oo d=⟨d.live,d.live⟩:=by rw[Oo,if_pos hk]
  exact aq (aD X [] [(10,⟨true,[.agg (cq (⟨d.live,d.live⟩:aS))]⟩)] [2] [] rfl (by(with_reducible and_intros)<;>first|exact⟨⟩|exact(iH d.live ⟨by omega,by omega⟩)) (ak (ah rfl (by and_intros<;>first|exact⟨⟩| (rw[hd];done)))))
theorem vF(d:aS):So 310 [.agg (cq d)] [aF (zX d)]:=by
 refine av X call310 func310 ntmps310 rfl rfl ?_
 intro zb
 exact au X [1] rfl (aD X [] [(4,⟨false,[aF (cE d)]⟩)] [2] [] rfl (by(with_reducible and_intros)<;>first|exact⟨⟩|exact(cI d)) (ak (ah rfl ⟨(congrArg Value.bool (by simp only[zX,aQ]<;>first|rfl|ac_rfl)),⟨⟩⟩)))
theorem uc(c:cX)(r n:Int):So 271 [.agg (bR c),aB r,aB n] [aB (fD c.key r (cB c) n),aB (fD c.key r (1-cB c) n)]:=by
 refine av X call271 func271 ntmps271 rfl rfl ?_
 intro zb
 have hdw:=T6 c
 exact au X [1,2,3] rfl (aD X [] [(10,⟨false,[aB (cB c)]⟩)] [1,2,3,8] [] rfl (by(with_reducible and_intros)<;>first|exact⟨⟩|exact(cR c)) (dy X [] [(16,⟨false,[aB (fD c.key r (cB c) n)]⟩),(23,⟨false,[aB (fD c.key r (IntKind.i64.wrap (1-cB c)) n)]⟩)] [6,7] [] 15 MO (by kernel_rfl) rfl (by(with_reducible and_intros);(iterate 2 all_goals try first|exact⟨⟩|exact(eZ c.key r (cB c) n)|exact(eZ c.key r (IntKind.i64.wrap (1-cB c)) n))) (ak (ah rfl ⟨rfl,by rw[hdw],⟨⟩⟩))))
theorem ud(c:cX)(r:Int)(own other:List UInt8)(h0:dc List.length c.aE≤1048576∧dc List.length c.inbox≤1048576):So 309 [.agg (bR c),aB r, .a (.sl .u8 own), .a (.sl .u8 other)] [.agg (bR (fj c r own other)),aF (vp c r)]:=by
 refine av X call309 func309 ntmps309 rfl rfl ?_
 intro zb
 refine au X [1,2,3,4,8] rfl (aD X [] [(14,⟨true,[.agg (bR c)]⟩)] [1,2,3,4,8,10] [] rfl (by(with_reducible and_intros)<;>first|exact⟨⟩|exact(dQ c h0)) (af (aD X [] [(16,⟨false,[aF (cG c)]⟩),(22,⟨false,[aF (inr r c.next 99999)]⟩)] [1,2,3,4,8,10,24] [] rfl (by(with_reducible and_intros);(iterate 2 all_goals try first|exact⟨⟩|exact(cH c)|exact fun _=>(aJ r c.next 99999))) ?_)))
 refine an rfl ?_ ?_<;>intro hb0
 ·have hk:vp c r=false:=bN hb0 (by simp only[vp,aQ]<;>first|rfl|ac_rfl)
  have hc:=Nf (own:=own) (other:=other) hk
  exact aH X [8,9] rfl (by trivial) (ak (ah rfl (by and_intros<;>first|exact⟨⟩| (rw[hc];done)| (rw[hk];done))))
 ·have hk:vp c r=true:=bM hb0 (by simp only[vp,aQ]<;>first|rfl|ac_rfl)
  obtain⟨hok,hn1,hn2,Sn⟩:=T2 hk
  obtain⟨hu1,K0,_,_,hs0,hs9,_,_⟩:=qu hok
  have hc:fj c r own other=⟨c.id,c.dF,c.key,c.seed,c.aE,if zW c own then c.sent+1 else c.sent,if pz c other then c.inbox++ [(Ok (BM c) (c.inbox.length:Int) other).body]else c.inbox,r+1⟩:=by rw[fj,if_pos hk]
  refine aq (af (aD X [] [(35,⟨false,[.a (.sl .u8 (kY c c.sent))]⟩),(36,⟨false,[aF (own==(kY c c.sent))]⟩)] [1,3,4,8,10,37] [] rfl ⟨fun _=>e9 own (kY c c.sent),fun h=>ke c hs0 (of_decide_eq_true h),⟨⟩⟩ ?_))
  refine an rfl ?_ ?_<;>intro bz
  ·have hh:zW c own=true:=qt bz (by simp only[zW,aQ]<;>first|rfl|ac_rfl)
   refine bF X [1,3,4,8,10] rfl ?_
   rw[bp (a:=c.sent+1) (by omega)]
   refine af ?_
   have t1:=(nH (rI c.key (IntKind.i64.wrap (1-cB c))) (c.inbox.length:Int) other)
   refine cJ X [] [(46,⟨false,[aB (cB c)]⟩),(48,⟨false,[aB (rI c.key (IntKind.i64.wrap (1-cB c)))]⟩),(53,⟨true,bQ t1⟩)] [1,4,8,10,11,12] [] 98303 1 MO (by kernel_rfl) rfl (by kernel_rfl) (by(with_reducible and_intros);(iterate 3 all_goals try first|exact⟨⟩|exact(cR c)|exact(fX c.key (IntKind.i64.wrap (1-cB c)))|exact t1)) ?_
   rw[Ff]
   refine af (au X [1,8,10,11,67] rfl ?_)
   refine an rfl ?_ ?_<;>intro bW
   ·have hg:pz c other=true:=qt bW (by simp only[pz,aQ]<;>first|rfl|ac_rfl)
    refine l7 X [1,8,10] rfl (by and_intros<;>first|exact⟨⟩|exact rfl| (simp only[dB,maxLen,lens];omega)) (au X [8,10] rfl ?_)
    rw[bp (a:=r+1) (by omega)]
    exact aH X [8,9] rfl (by trivial) (ak (ah rfl (by and_intros<;>first|exact⟨⟩| (rw[hc];done)| (rw[hc];simp only[hh,if_true];done)| (rw[hc];simp only[hg,if_true];done)| (rw[hk];done))))
   ·have hg:pz c other=false:=vk bW (by simp only[pz,aQ]<;>first|rfl|ac_rfl)
    refine aq (au X [8,10] rfl ?_)
    rw[bp (a:=r+1) (by omega)]
    exact aH X [8,9] rfl (by trivial) (ak (ah rfl (by and_intros<;>first|exact⟨⟩| (rw[hc];done)| (rw[hc];simp only[hh,if_true];done)| (rw[hc];simp[hg];done)| (rw[hk];done))))
  ·have hh:zW c own=false:=vk bz (by simp only[zW,aQ]<;>first|rfl|ac_rfl)
   refine aq (af ?_)
   have t1:=(nH (rI c.key (IntKind.i64.wrap (1-cB c))) (c.inbox.length:Int) other)
   refine cJ X [] [(46,⟨false,[aB (cB c)]⟩),(48,⟨false,[aB (rI c.key (IntKind.i64.wrap (1-cB c)))]⟩),(53,⟨true,bQ t1⟩)] [1,4,8,10,11,12] [] 98303 1 MO (by kernel_rfl) rfl (by kernel_rfl) (by(with_reducible and_intros);(iterate 3 all_goals try first|exact⟨⟩|exact(cR c)|exact(fX c.key (IntKind.i64.wrap (1-cB c)))|exact t1)) ?_
   rw[Ff]
   refine af (au X [1,8,10,11,67] rfl ?_)
   refine an rfl ?_ ?_<;>intro bW
   ·have hg:pz c other=true:=qt bW (by simp only[pz,aQ]<;>first|rfl|ac_rfl)
    refine l7 X [1,8,10] rfl (by and_intros<;>first|exact⟨⟩|exact rfl| (simp only[dB,maxLen,lens];omega)) (au X [8,10] rfl ?_)
    rw[bp (a:=r+1) (by omega)]
    exact aH X [8,9] rfl (by trivial) (ak (ah rfl (by and_intros<;>first|exact⟨⟩| (rw[hc];done)| (rw[hc];simp[hh];done)| (rw[hc];simp only[hg,if_true];done)| (rw[hk];done))))
   ·have hg:pz c other=false:=vk bW (by simp only[pz,aQ]<;>first|rfl|ac_rfl)
    refine aq (au X [8,10] rfl ?_)
    rw[bp (a:=r+1) (by omega)]
    exact aH X [8,9] rfl (by trivial) (ak (ah rfl (by and_intros<;>first|exact⟨⟩| (rw[hc];done)| (rw[hc];simp[hh];done)| (rw[hc];simp[hg];done)| (rw[hk];done))))
theorem qK(d:aS)(r:Int)(own other:List UInt8)(h0:bq d≤1048576):So 273 [.agg (cq d),aB r, .a (.sl .u8 own), .a (.sl .u8 other)] [.agg (cq (rdev d r own other)),aF (zY d r)]:=by
 refine av X call273 func273 ntmps273 rfl rfl ?_
 intro zb
 have wS:cu d.live≤1048576∧cu d.saved≤1048576:=by unfold bq at h0;omega
 unfold cu at wS
 refine au X [1,2,3,4,8] rfl (af ?_)
 have t1:=(ud d.live r own other ⟨by omega,by omega⟩)
 refine aP X [] [(19,⟨true,bQ t1⟩)] [4,8,10,11] [] rfl (by(with_reducible and_intros)<;>first|exact⟨⟩|exact t1) (af (aD X [] [(23,⟨false,[aF (cE d)]⟩)] [4,8,10,28] [] rfl (by(with_reducible and_intros)<;>first|exact⟨⟩|exact(cI d)) ?_))
 refine an rfl ?_ ?_<;>intro hb0
 ·have hk:zY d r=false:=bN hb0 (by simp only[zY,aQ]<;>first|rfl|ac_rfl)
  have hd:=QE (own:=own) (other:=other) hk
  exact aD X [] [(30,⟨true,[.agg (cq d)]⟩)] [8,9] [] rfl (by(with_reducible and_intros)<;>first|exact⟨⟩|exact(fI d h0)) (ak (ah rfl (by and_intros<;>first|exact⟨⟩| (rw[hd];done)| (rw[hk];done))))
 ·have hk:zY d r=true:=bM hb0 (by simp only[zY,aQ]<;>first|rfl|ac_rfl)
  have hz:=Ng (own:=own) (other:=other) hk
  refine aq (dy X [] [(34,⟨true,[.agg (bR d.saved)]⟩)] [8,12] [] 6 MO (by kernel_rfl) rfl (by(with_reducible and_intros)<;>first|exact⟨⟩|exact(dQ d.saved ⟨by omega,by omega⟩)) (af (aD X [] [(37,⟨false,[aF (zX (mC d r own other))]⟩)] [8,12,37] [] rfl (by(with_reducible and_intros)<;>first|exact⟨⟩|exact(vF (mC d r own other))) ?_)))
  refine an rfl ?_ ?_<;>intro bz
  ·have hd:=QF hk bz
   exact aD X [] [(39,⟨true,[.agg (cq (Oo (mC d r own other)))]⟩)] [8,9] [] rfl (by(with_reducible and_intros)<;>first|exact⟨⟩|exact(tZ (mC d r own other) hz)) (ak (ah rfl (by and_intros<;>first|exact⟨⟩| (rw[hd];done)| (rw[hk];done))))
  ·have hd:=QG hk bz
   exact aq (aH X [8,9] rfl (by trivial) (ak (ah rfl (by and_intros<;>first|exact⟨⟩| (rw[hd];rfl;done)| (rw[hk];done)))))
theorem vG(x:aR)(h0:wB x):So 217 [.agg (aZ x)] [.agg (aZ (AJ x))]:=by
 refine av X call217 func217 ntmps217 rfl rfl ?_
 intro zb
 have hls:dc dP x.aj≤1048576∧dc bq x.aa≤1048576∧ef x.az≤1048576∧x.replaced.length≤4194304:=h0
 have lH:=cN hls.2.1
 refine au X [1,2] rfl (aD X [] [(17,⟨true,[.agg (aZ x)]⟩)] [1,2,3] [] rfl (by(with_reducible and_intros)<;>first|exact⟨⟩|exact(cQ x h0)) (af (aD X [] [(19,⟨false,[aF (okW x)]⟩)] [1,2,3,20] [] rfl (by(with_reducible and_intros)<;>first|exact⟨⟩|exact(bS x)) ?_)))
 refine an rfl ?_ ?_<;>intro hb0
 ·have hk0:okW x=false:=by simpa using hb0
  have hw:=T5 hk0
  exact aH X [2] rfl (by trivial) (ak (ah rfl (by and_intros<;>first|exact⟨⟩| (rw[hw];done))))
 ·have hk0:okW x=true:=by simpa using hb0
  have hw:=QH hk0
  have har:=MR hk0
  have Zk:=(tL (lR hk0)).2.1
  refine aq (af (au X [1,2,3,4] rfl ?_))
  refine ay (aG (fun k=>k≤x.aa.length) (fun k:Nat=> [(4, .one ((aB k)))]) (fun k=> [(19, .arr .aS (MJ x k))]) (fun k=>x.aa.length-k) 0 (fun k=>rfl) (Nat.zero_le _) rfl ?_)
  intro k hk
  have Ax:=Qe x k hk
  refine af (au X [1,2,3,4,26] rfl ?_)
  refine an rfl ?_ ?_<;>intro bz
  ·try simp only[aX]at bz
   rw[Ax]at bz
   have WN:=Qd x k bz
   have h00:=RW x k bz
   have At:=zR x.az.rounds (x.aa.getD k (aA .aS)).live.next
   have aaR:(vu x (x.aa.getD k (aA .aS))).length≤x.az.rounds.length:=At
   have hrq:(eX x.az.rounds (x.aa.getD k (aA .aS)).live.next).length=(vu x (x.aa.getD k (aA .aS))).length:=rfl
   refine aq (af (ay (af ?_)))
   have t1:=(kA x.az (((MJ x k).getD k (aA .aS)).live.next) (by omega))
   refine bU X [] [(38,⟨true,bQ t1⟩)] [1,2,3,4,5] [] 11 MO (by kernel_rfl) rfl (by(with_reducible and_intros)<;>first|exact⟨⟩|exact t1| (intros;omega)) ?_
   rw[WN]
   refine au X [1,2,3,4,5,6] rfl ?_
   refine ay (aG (fun k1=>k1≤(vu x (x.aa.getD k (aA .aS))).length) (fun k1:Nat=> [(6, .one ((aB k1)))]) (fun k1=> [(19, .arr .aS (nG x k k1))]) (fun k1=>(vu x (x.aa.getD k (aA .aS))).length-k1) 0 (fun k1=>rfl) (Nat.zero_le _) (by rw[h00];rfl) ?_)
   intro k1 hk1
   have kP:=Qa x k k1 bz
   refine af (au X [1,2,3,4,5,6,42] rfl ?_)
   refine an rfl ?_ ?_<;>intro bW
   ·try simp only[aX]at bW
    have hs:=Ni x k k1 bz bW
    have hsz:=T4 hk0 bz k1
    refine aq (af (ay (aH X [1,2,3,4,5,6,7] rfl (by and_intros<;>first|exact⟨⟩| (intros;omega)) (af ?_))))
    have t1:=(uc (((nG x k k1).getD k (aA .aS)).live) ((vu x (x.aa.getD k (aA .aS))).getD k1 (aA .int)) x.rows)
    refine bU X [] [(59,⟨false,bQ t1⟩)] [1,2,3,4,5,6,7,8,9] [] 13 MO (by kernel_rfl) rfl (by(with_reducible and_intros)<;>first|exact⟨⟩|exact t1| (intros;omega)) (af ?_)
    have t1:=(pF x ((vu x (x.aa.getD k (aA .aS))).getD k1 (aA .int)) (fD ((nG x k k1).getD k (aA .aS)).live.key ((vu x (x.aa.getD k (aA .aS))).getD k1 (aA .int)) (cB ((nG x k k1).getD k (aA .aS)).live) x.rows) (((nG x k k1).getD k (aA .aS)).live.seed) hk0)
    refine bU X [] [(71,⟨true,bQ t1⟩)] [1,2,3,4,5,6,7,9,10] [] 14 MO (by kernel_rfl) rfl (by(with_reducible and_intros)<;>first|exact⟨⟩|exact t1| (intros;omega)) (af ?_)
    have t1:=(pF x ((vu x (x.aa.getD k (aA .aS))).getD k1 (aA .int)) (fD ((nG x k k1).getD k (aA .aS)).live.key ((vu x (x.aa.getD k (aA .aS))).getD k1 (aA .int)) (1-cB ((nG x k k1).getD k (aA .aS)).live) x.rows) (((nG x k k1).getD k (aA .aS)).live.seed) hk0)
    refine bU X [] [(83,⟨true,bQ t1⟩)] [1,2,3,4,5,6,10,12] [] 14 MO (by kernel_rfl) rfl (by(with_reducible and_intros)<;>first|exact⟨⟩|exact t1| (intros;omega)) (af ?_)
    have t1:=(qK ((nG x k k1).getD k (aA .aS)) ((vu x (x.aa.getD k (aA .aS))).getD k1 (aA .int)) (JA x ((vu x (x.aa.getD k (aA .aS))).getD k1 (aA .int)) (fD ((nG x k k1).getD k (aA .aS)).live.key ((vu x (x.aa.getD k (aA .aS))).getD k1 (aA .int)) (cB ((nG x k k1).getD k (aA .aS)).live) x.rows) ((nG x k k1).getD k (aA .aS)).live.seed) (JA x ((vu x (x.aa.getD k (aA .aS))).getD k1 (aA .int)) (fD ((nG x k k1).getD k (aA .aS)).live.key ((vu x (x.aa.getD k (aA .aS))).getD k1 (aA .int)) (1-cB ((nG x k k1).getD k (aA .aS)).live) x.rows) ((nG x k k1).getD k (aA .aS)).live.seed) hsz)
    refine cJ X [] [(98,⟨true,bQ t1⟩)] [1,2,3,4,5,6,14] [] 196607 1 MO (by kernel_rfl) rfl (by kernel_rfl) (by(with_reducible and_intros)<;>first|exact⟨⟩|exact t1| (intros;omega)) (l7 X [1,2,3,4,5,6] rfl (by and_intros<;>first|exact⟨⟩| (intros;omega)) (bF X [1,2,3,4,5,6] rfl ?_))
    refine⟨k1+1,by omega,by omega,?_⟩
    rw[bK _ k1 rfl (by omega), ←hs]
    try rfl
   ·try simp only[aX]at bW
    rw[Qc x k k1 bz bW]
    refine aI (bF X [1,2,3,4] rfl ?_)
    refine⟨k+1,by omega,by omega,?_⟩
    rw[bK _ k rfl (by omega)]
    try rfl
  ·try simp only[aX]at bz
   rw[Ax]at bz
   exact aI (aH X [2] rfl (by trivial) (ak (ah rfl (by and_intros<;>first|exact⟨⟩| (rw[hw];done)| (rw[hw,Qf x k (by omega) (by omega)];done)))))
end
section
set_option maxRecDepth 100000
theorem Ag(s:bl)(c:Int)(hz:s.received.length≤1048576∧ ∀r,r∈s.received→dc List.length r.share.rows≤1048576):So 316 [.agg (cx s),aB c] [.agg (bA (zK s.received c)),aF (nD s.received c)]:=by
 refine av X call316 func316 ntmps316 rfl rfl ?_
 intro zb
 refine bC 0 3 rfl rfl (fun OY=>(au X [1,2,4] rfl (af (au X [1,2,4,6] rfl ?_))))
 refine ay (aG (fun k=>k≤s.received.length∧(s.received.take k).any (RT c)=false) (fun k:Nat=> [(6, .one ((aB k)))]) (fun k=> []) (fun k=>s.received.length-k) 0 (fun k=>rfl) ⟨Nat.zero_le _,rfl⟩ rfl ?_)
 rintro k ⟨hk,hall⟩
 refine af (au X [1,2,4,6,11] rfl ?_)
 refine an rfl ?_ ?_<;>intro hb0
 ·try simp only[aX]at hb0
  refine aq (af (ay (aH X [1,2,4,6,21] rfl (by and_intros<;>first|exact⟨⟩| (intros;omega)) ?_)))
  refine an rfl ?_ ?_<;>intro bz
  ·have hh:=Ty hb0 hall bz
   exact aD X [] [(28,⟨true,[.agg (bA ((s.received.getD k (aA .aM)).share))]⟩)] [4,5] [] rfl (by(with_reducible and_intros)<;>first|exact⟨⟩|exact(cZ ((s.received.getD k (aA .aM)).share) (hz.2 _ (getD_in _ hb0)))| (intros;omega)) (ak (ah rfl ⟨by rw[hh.2],by rw[hh.1],⟨⟩⟩))
  ·refine aq (bF X [1,2,4,6] rfl ?_)
   refine⟨k+1,⟨by omega,CJ (aA .aM) hb0 hall bz⟩,by omega,?_⟩
   rw[bK _ k rfl (by omega)]
   try rfl
 ·try simp only[aX]at hb0
  exact aI (aH X [4,5] rfl (by trivial) (ak (ah rfl ⟨by rw[(HQ (by rw[←hall,List.take_of_length_le hb0])).2],by rw[(HQ (by rw[←hall,List.take_of_length_le hb0])).1],⟨⟩⟩)))
theorem qL(s:bl)(c:Int)(d:DB)(hz:s.received.length≤1048576∧ ∀r,r∈s.received→dc List.length r.share.rows≤1048576)(hb: ∀r,r∈s.received→r.client<c)(hd:dc List.length d.rows≤1048576):So 266 [.agg (cx s),aB c, .agg (bA d)] [.agg (cx (HP s c d)),aF (nC s c d)]:=by
 refine av X call266 func266 ntmps266 rfl rfl ?_
 intro zb
 have l5:=hz.1
 refine au X [1,3,5,6] rfl (aD X [] [(11,⟨true,[.agg (cx s)]⟩)] [1,3,5,6,8] [] rfl (by(with_reducible and_intros)<;>first|exact⟨⟩|exact(gV s hz)) (au X [1,3,5,6,8,9] rfl ?_))
 refine af (ay (aG (fun k=>k≤s.received.length) (fun k:Nat=> [(9, .one ((aB k)))]) (fun k=> []) (fun k=>s.received.length-k) 0 (fun k=>rfl) (Nat.zero_le _) rfl ?_))
 intro k hk
 refine af (aH X [1,3,5,6,8,9,26] rfl (by refine⟨fun Xa=> ?_,fun Xa=> ?_,⟨⟩⟩<;>(have hz2:decide ((k:Int)<(s.received.length:Int))=true:=Xa;rw[decide_eq_true_eq]at hz2;dsimp only[hyps,ey];omega)) ?_)
 refine an rfl ?_ ?_<;>intro hb0
 ·have Ax:k<s.received.length:=by simp only[nb]at hb0;omega
  have hlt:=hb _ (getD_in (aA .aM) Ax)
  refine aq (ay (bF X [1,3,5,6,8,9] rfl ?_))
  refine⟨k+1,by omega,by omega,?_⟩
  rw[bK _ k rfl (by omega)]
  try rfl
 ·have Ax:k=s.received.length:=P6 hb hk hb0
  subst Ax
  refine MC 8 3 rfl (aI (af (cJ X [(34,29),(40,29),(45,29)] [(37,⟨true,[.agg (bA d)]⟩),(600044,⟨true,[]⟩)] [3,6,8] [] 193503 259 MO (by kernel_rfl) rfl (by kernel_rfl) (by(repeat' with_reducible first|exact aL|refine aT ?_ ?_|apply And.intro)<;>first|exact(cZ d hd)| (intros;omega)|exact rfl|exact⟨rfl,aV _ (by decide)⟩| (simp only[dB,maxLen,lens];omega)) ?_)))
  rw[ins_eq]
  refine af (aD X [] [(48,⟨false,[aF (bZ s)]⟩),(52,⟨false,[aF (bZ (jq s c d))]⟩)] [3,6,8,54] [] rfl (by(with_reducible and_intros);(iterate 2 all_goals try first|exact⟨⟩|exact(cj s)|exact fun _=>(cj (jq s c d)))) ?_)
  refine an rfl ?_ ?_<;>intro bz
  ·have hr:nC s c d=false:=VY bz
   exact aD X [] [(56,⟨true,[.agg (cx s)]⟩)] [6,7] [] rfl (by(with_reducible and_intros)<;>first|exact⟨⟩|exact(gV s hz)) (ak (ah rfl (by and_intros<;>first|exact⟨⟩| (rw[Tz hr];done)| (rw[hr];done))))
  ·have hr:nC s c d=true:=VZ bz
   exact aq (aH X [6,7] rfl (by trivial) (ak (ah rfl (by and_intros<;>first|exact⟨⟩| (rw[HR hr];rfl;done)| (rw[hr];done)))))
end
section
set_option maxRecDepth 100000
theorem pH(x:aR)(h0:wB x):So 214 [.agg (aZ x)] [.a (.sl .bl (bH x)), .a (.sl .ep (kj x))]:=by
 refine av X call214 func214 ntmps214 rfl rfl ?_
 intro zb
 refine bC 0 1 rfl rfl (fun hl1=> ?_)
 refine bC 0 2 rfl rfl (fun lH=> ?_)
 have uo:=EM h0
 refine au X [1] rfl (aH X [1,4] rfl (by and_intros<;>first|exact⟨⟩|exact rfl) (af (aD X [] [(13,⟨false,[aF (okW x)]⟩)] [1,4,14] [] rfl (by(with_reducible and_intros)<;>first|exact⟨⟩|exact(bS x)) ?_)))
 refine an rfl ?_ ?_<;>intro hb0
 ·have hk0:okW x=false:=by simpa using hb0
  exact aH X [2,3] rfl (by and_intros<;>first|exact⟨⟩|exact rfl) (ak (ah rfl ⟨by rw[bH,if_neg (by rw[hk0];decide)],by rw[kj,if_neg (by rw[hk0];decide)],⟨⟩⟩))
 ·have hk0:okW x=true:=by simpa using hb0
  have aaS:=dZ hk0
  have Yy:=(tL (lR hk0)).2.1
  have hc0:=(col hk0 0 (Nat.zero_le _)).W8
  refine aq (aD X [] [(18,⟨true,[.agg (aZ x)]⟩)] [1,4,5] [] rfl ⟨⟨_,_,_,Tryz.underlying31,rfl,rfl,Tryz.underlying24,rfl⟩,cQ x h0,⟨⟩⟩ (af (au X [1,4,5,6] rfl ?_)))
  refine ay (aG (fun k=>k≤x.aa.length) (fun k:Nat=> [(6, .one ((aB k)))]) (fun k=> [(19, .arr .bl (rR x k)),(11, .arr .ep (EO x k))]) (fun k=>x.aa.length-k) 0 (fun k=>rfl) (Nat.zero_le _) rfl ?_)
  intro k hk
  refine af (au X [1,4,5,6,24] rfl ?_)
  refine an rfl ?_ ?_<;>intro bz
  ·try simp only[aX]at bz
   have Ou:k<x.aa.length:=by omega
   have hwl:(c8 x (k:Int)).length=x.aj.length:=iY hk0 (by omega)
   refine aq (af (ay (aD X [] [(29,⟨true,[.a (.sl .DB (c8 x (k:Int)))]⟩)] [1,4,5,6,7] [] rfl (by(with_reducible and_intros)<;>first|exact⟨⟩|exact(vl x (k:Int) (by first|assumption|omega| (simp;done)| (simp;omega)) (by first|assumption|omega| (simp;done)| (simp;omega)))) (au X [1,4,5,6,7,8] rfl ?_))))
   refine ay (aG (fun k1=>k1≤x.aj.length) (fun k1:Nat=> [(8, .one ((aB k1)))]) (fun k1=> [(19, .arr .bl (vm x k k1)),(11, .arr .ep (EO x k++EN x k k1))]) (fun k1=>x.aj.length-k1) 0 (fun k1=>rfl) (Nat.zero_le _) (by simp[vm,EN]) ?_)
   intro k1 hk1
   have kP:=Mx hk0 Ou hk1
   refine af (au X [1,4,5,6,7,8,33] rfl ?_)
   refine an rfl ?_ ?_<;>intro bW
   ·try simp only[aX]at bW
    rw[kP]at bW
    have Ov:=Mz hk0 Ou (by omega:k1<x.aj.length)
    have hs1:=Jw hk0 Ou (by omega:k1<x.aj.length)
    have Fu:=BF x k k1
    have hrl:=EP x k
    have Xb:=zL x k k1
    have KW:k*x.aj.length≤8*4:=Nat.mul_le_mul (by omega) (by omega)
    refine aq (af (ay (af ?_)))
    have t1:=(qL ((vm x k k1).getD k1 (aA .bl)) (k:Int) ((c8 x (k:Int)).getD k1 (aA .DB)) Ov.2.1 Ov.1 Ov.2.2)
    refine cJ X [] [(46,⟨true,bQ t1⟩)] [1,4,5,6,7,8,9] [] 49151 1 MO (by kernel_rfl) rfl (by kernel_rfl) (by(with_reducible and_intros)<;>first|exact⟨⟩|exact t1| (intros;omega)) (aH X [1,4,5,6,7,8] rfl (by and_intros<;>first|exact⟨⟩| (intros;omega)) ?_)
    have t1:=(rT (ni x.bh (k1:Int)) (k1:Int) (k:Int) x.round ((c8 x (k:Int)).getD k1 (aA .DB)) Ov.2.2)
    refine bU X [(68,11)] [(57,⟨false,[aB (ni x.bh (k1:Int))]⟩),(66,⟨false,bQ t1⟩)] [1,4,5,6,7,8] [] 15 MO (by kernel_rfl) rfl (by(repeat' with_reducible first|exact aL|refine aT ?_ ?_|apply And.intro);(iterate 2 all_goals try first|exact(fQ x.bh (k1:Int))|exact t1);all_goals first| (intros;omega)|exact rfl|exact⟨rfl,aV _ (by decide)⟩| (simp only[dB,maxLen,lens];omega)) ?_
    refine bF X [1,4,5,6,7,8] rfl ?_
    refine⟨k1+1,by omega,by omega,?_⟩
    rw[bK _ k1 rfl (by omega), ←hs1,Fu, ←List.append_assoc]
    try rfl
   ·try simp only[aX]at bW
    rw[kP]at bW
    rw[My hk0 Ou (by omega),show k1=x.aj.length by omega, ←BG]
    refine aI (bF X [1,4,5,6] rfl ?_)
    refine⟨k+1,by omega,by omega,?_⟩
    rw[bK _ k rfl (by omega)]
    try rfl
  ·try simp only[aX]at bz
   exact aI (au X [2,3] rfl (ak (ah rfl ⟨by rw[bH,if_pos hk0,show x.aa.length=k by omega],by rw[kj,if_pos hk0,show x.aa.length=k by omega],⟨⟩⟩)))
end
section
set_option maxRecDepth 100000
theorem iN(s:bl)(f:Nat)(hf:f≤8)(hz: ∀r,r∈s.received→dc List.length r.share.rows≤1048576):So 305 [.agg (cx s),aB ((f:Nat):Int)] [.agg (bA (gI s.rows (s.received.drop f)))]:=by
 refine av X call305 func305 ntmps305 rfl rfl ?_
 intro zb
 refine bC 0 3 rfl rfl (fun l5=>(au X [1,2,4] rfl (aD X [] [(11,⟨true,[.agg (bA (dr s.rows))]⟩)] [1,2,4,5] [] rfl (by(with_reducible and_intros)<;>first|exact⟨⟩|exact(kg s.rows)) (af (au X [2,4,5,6] rfl ?_)))))
 refine ay (aG (fun k=>f≤k∧(k≤s.received.length∨k=f)) (fun k:Nat=> [(6, .one ((aB k)))]) (fun k=> [(11, .arr (.sl .u8) (gI s.rows ((s.received.drop f).take (k-f))).rows)]) (fun k=>s.received.length-k) f (fun k=>rfl) ⟨Nat.le_refl _,Or.inr rfl⟩ (by simp[gI]) ?_)
 rintro k ⟨hk,hk2⟩
 refine af (au X [2,4,5,6,17] rfl ?_)
 refine an rfl ?_ ?_<;>intro hb0
 ·try simp only[aX]at hb0
  have hs:=JF s.rows s.received f k hb0 hk
  refine aq (af (ay (af (cJ X [] [(28,⟨true,[.agg (bA (fG (gI s.rows ((s.received.drop f).take (k-f))) ((s.received.getD k (aA .aM)).share))),aF (jD (gI s.rows ((s.received.drop f).take (k-f))) ((s.received.getD k (aA .aM)).share))]⟩)] [2,4,5,6,7] [] 12287 1 MO (by kernel_rfl) rfl (by kernel_rfl) (by(with_reducible and_intros)<;>first|exact⟨⟩|exact(fY (gI s.rows ((s.received.drop f).take (k-f))) ((s.received.getD k (aA .aM)).share) (Qr _ _) (hz _ (getD_in _ hb0)))| (intros;omega)) (l7 X [2,4,5,6] rfl (by trivial) (rO 5 0 11 rfl (bF X [2,4,5,6] rfl ?_)))))))
  refine⟨k+1,by omega,by omega,?_⟩
  rw[bK _ k rfl (by omega),hs]
  try rfl
 ·try simp only[aX]at hb0
  exact aI (aH X [4] rfl (by trivial) (ak (ah rfl ⟨by rw[MY _ _ _ _ hb0],⟨⟩⟩)))
theorem rY(s:bl):So 319 [.agg (cx s)] [.agg (bA (AL s))]:=by
 refine av X call319 func319 ntmps319 rfl rfl ?_
 intro zb
 refine au X [1,2] rfl (af (aD X [] [(4,⟨false,[aF (bZ s)]⟩)] [1,2,5] [] rfl (by(with_reducible and_intros)<;>first|exact⟨⟩|exact(cj s)) ?_))
 refine an rfl ?_ ?_<;>intro hb0
 ·have hk:bZ s=false:=by simpa using hb0
  exact aH X [2] rfl (by trivial) (ak (ah rfl ⟨by rw[AL,hk];rfl,⟨⟩⟩))
 ·have hk:bZ s=true:=by simpa using hb0
  have hsz:=E2 hk
  exact aq (aD X [] [(8,⟨true,[.agg (bA (gI s.rows (s.received.drop 0)))]⟩)] [2] [] rfl (by(with_reducible and_intros)<;>first|exact⟨⟩|exact(iN s 0 (by decide) hsz)) (ak (ah rfl ⟨by rw[AL,if_pos hk];rfl,⟨⟩⟩)))
theorem qM(s:bl):So 269 [.agg (cx s)] [.agg (bA (vB s))]:=by
 refine av X call269 func269 ntmps269 rfl rfl ?_
 intro zb
 refine au X [1,2] rfl (af (aD X [] [(5,⟨false,[aF (bZ s)]⟩)] [1,2,6] [] rfl (by(with_reducible and_intros)<;>first|exact⟨⟩|exact(cj s)) ?_))
 refine an rfl ?_ ?_<;>intro hb0
 ·have hk:bZ s=false:=by simpa using hb0
  exact aH X [2] rfl (by trivial) (ak (ah rfl ⟨by rw[vB,hk];rfl,⟨⟩⟩))
 ·have hk:bZ s=true:=by simpa using hb0
  have hsz:=E2 hk
  have hin:=TU hk
  refine aq (af (au X [1,2,9] rfl (ay (au X [1,2,9,10] rfl ?_))))
  refine an rfl ?_ ?_<;>intro bz
  ·try simp only[aX]at bz
   have hr:=JG s (by omega)
   exact aD X [] [(13,⟨true,[.agg (bA (gI s.rows (s.received.drop 1)))]⟩)] [2] [] rfl (by(with_reducible and_intros)<;>first|exact⟨⟩|exact(iN s 1 (by decide) hsz)) (ak (ah rfl ⟨by rw[vB,if_pos hk,if_neg (by omega),hr],⟨⟩⟩))
  ·try simp only[aX]at bz
   have hr:=MZ s (by omega)
   rw[hr]at hin
   have JL:0<((gI s.rows s.received).rows.getD (Int.toNat 0) (aA (.sl .u8))).length:=hin.2
   have aaT:0<((gI s.rows (List.drop 0 s.received)).rows.getD (Int.toNat 0) (aA (.sl .u8))).length:=hin.2
   have aaU:0<(gI s.rows (List.drop 0 s.received)).rows.length:=hin.1
   refine au X [1,2,14] rfl ?_
   refine an rfl ?_ ?_<;>intro bW
   ·try simp only[aX]at bW
    exact aD X [] [(17,⟨true,[.agg (bA (gI s.rows (s.received.drop 0)))]⟩)] [2,3] [] rfl (by(with_reducible and_intros)<;>first|exact⟨⟩|exact(iN s 0 (by decide) hsz)) (dy X [] [] [2,3] [] 12 MO (by kernel_rfl) rfl (by and_intros<;>first|exact⟨⟩| (intros;omega)|exact(gd _).1|exact(gd _).2) (aH X [2] rfl (by trivial) (ak (ah rfl ⟨by rw[vB,if_pos hk,if_pos (by omega),hr];exact alt_eq _,⟨⟩⟩))))
   ·try simp only[aX]at bW
    exact aq (aD X [] [(32,⟨true,[.agg (bA (gI s.rows (s.received.drop 0)))]⟩)] [2] [] rfl (by(with_reducible and_intros)<;>first|exact⟨⟩|exact(iN s 0 (by decide) hsz)) (ak (ah rfl ⟨by rw[vB,if_pos hk,if_neg (by omega),hr];rfl,⟨⟩⟩)))
theorem nS(a b:DB):So 318 [.agg (bA a), .agg (bA b)] [aF (a.rows==b.rows)]:=by
 refine av X call318 func318 ntmps318 rfl rfl ?_
 intro zb
 exact au X [2,3] rfl (aD X [] [(9,⟨false,[aF (a.rows==b.rows)]⟩)] [4] [] rfl (by(with_reducible and_intros)<;>first|exact⟨⟩|exact(ff a.rows b.rows)) (ak (ah rfl ⟨rfl,⟨⟩⟩)))
theorem pJ(key:Int)(r:ep):So 315 [aB key, .agg (mK r)] [aF (Qu key r)]:=by
 refine av X call315 func315 ntmps315 rfl rfl ?_
 intro zb
 exact au X [0,3] rfl (dy X [] [(9,⟨false,[aB (P8 key r.server r.client r.round r.oo)]⟩)] [4] [] 7 MO (by kernel_rfl) rfl (by(with_reducible and_intros)<;>first|exact⟨⟩|exact(lg key r)) (ak (ah rfl ⟨(congrArg Value.bool (by simp only[Qu,aQ]<;>first|rfl|ac_rfl)),⟨⟩⟩)))
theorem nT(r:ep)(d:DB)(hd:dc List.length d.rows≤1048576):So 317 [.agg (mK r), .agg (bA d)] [aF (M1 r d)]:=by
 refine av X call317 func317 ntmps317 rfl rfl ?_
 intro zb
 exact au X [2,3] rfl (dy X [] [(12,⟨false,[aB (GC r.client r.round d)]⟩)] [4] [] 10 MO (by kernel_rfl) rfl (by(with_reducible and_intros)<;>first|exact⟨⟩|exact(kq r.client r.round d hd)) (ak (ah rfl ⟨(congrArg Value.bool (by simp only[M1,aQ]<;>first|rfl|ac_rfl)),⟨⟩⟩)))
theorem rZ(key:Int)(s:bl)(p:DB)(l:List ep)(hz:s.received.length≤1048576∧ ∀r,r∈s.received→dc List.length r.share.rows≤1048576)(hp:dc List.length p.rows≤1048576):So 281 [aB key, .agg (cx s), .agg (bA p), .a (.sl .ep l)] [aB (AM key s p l)]:=by
 refine av X call281 func281 ntmps281 rfl rfl ?_
 intro zb
 refine dD 3 rfl (fun l5=>(au X [0,3,5,6] rfl (af (au X [0,3,5,6,9] rfl ?_))))
 refine ay (aG (fun k=>k≤l.length∧ ∀j,j<k→gk key s (l.getD j (aA .ep))=0) (fun k:Nat=> [(9, .one ((aB k)))]) (fun k=> []) (fun k=>l.length-k) 0 (fun k=>rfl) ⟨Nat.zero_le _,fun j hj=>absurd hj (Nat.not_lt_zero _)⟩ rfl ?_)
 rintro k ⟨hk,hall⟩
 refine af (au X [0,3,5,6,9,16] rfl ?_)
 refine an rfl ?_ ?_<;>intro hb0
 ·try simp only[aX]at hb0
  refine aq (af (ay (aH X [0,3,5,6,9,10] rfl (by and_intros<;>first|exact⟨⟩| (intros;omega)) (af (aD X [] [(38,⟨false,[aF (Qu key (l.getD k (aA .ep)))]⟩)] [0,3,5,6,9,10,40] [] rfl (by(with_reducible and_intros)<;>first|exact⟨⟩|exact fun _=>(pJ key (l.getD k (aA .ep)))) ?_)))))
  refine an rfl ?_ ?_<;>intro bz
  ·have Wg:tW key s (l.getD k (aA .ep))=true:=qt bz (by simp only[tW,aQ]<;>first|rfl|ac_rfl)
   refine aI (bF X [0,3,5,6,9] rfl ?_)
   refine⟨k+1,⟨by omega,zZ hall (Yv Wg)⟩,by omega,?_⟩
   rw[bK _ k rfl (by omega)]
   try rfl
  ·have Wg:tW key s (l.getD k (aA .ep))=false:=vk bz (by simp only[tW,aQ]<;>first|rfl|ac_rfl)
   refine aq (af ?_)
   have t1:=(Ag s ((l.getD k (aA .ep)).client) hz)
   refine aP X [] [(45,⟨true,bQ t1⟩)] [0,3,5,6,9,10,11,12] [] rfl (by(with_reducible and_intros)<;>first|exact⟨⟩|exact t1) (af (au X [0,3,5,6,9,10,11,49] rfl ?_))
   refine an rfl ?_ ?_<;>intro bW
   ·have hsh:nD s.received (l.getD k (aA .ep)).client=false:=by simpa using bW
    have hf:=Ys Wg hsh
    exact au X [8] rfl (ak (ah rfl ⟨by rw[E3 hall hb0 (by rw[hf];decide),hf],⟨⟩⟩))
   ·have hsh:nD s.received (l.getD k (aA .ep)).client=true:=by simpa using bW
    have hsd:=GB (c:=(l.getD k (aA .ep)).client) hz.2
    refine aq (af ?_)
    have t1:=(nT (l.getD k (aA .ep)) (zK s.received (l.getD k (aA .ep)).client) hsd)
    refine aP X [] [(52,⟨false,bQ t1⟩)] [0,3,5,6,9,53] [] rfl (by(with_reducible and_intros)<;>first|exact⟨⟩|exact t1) ?_
    refine an rfl ?_ ?_<;>intro nW
    ·have hf:=Yt Wg hsh (by simpa using nW)
     exact au X [8] rfl (ak (ah rfl ⟨by rw[E3 hall hb0 (by rw[hf];decide),hf],⟨⟩⟩))
    ·have hf:=Yu Wg hsh (by simpa using nW)
     refine aq (bF X [0,3,5,6,9] rfl ?_)
     refine⟨k+1,⟨by omega,zZ hall hf⟩,by omega,?_⟩
     rw[bK _ k rfl (by omega)]
     try rfl
 ·try simp only[aX]at hb0
  refine aI (af (dy X [] [(55,⟨false,[aF (bZ s)]⟩),(60,⟨false,[.agg (bA (AL s))]⟩),(61,⟨false,[aF (p.rows==(AL s).rows)]⟩)] [63] [] 10 MO (by kernel_rfl) rfl (by(with_reducible and_intros);(iterate 3 all_goals try first|exact⟨⟩|exact(cj s)|exact fun _=>(rY s)|exact fun _=>(nS p (AL s)))) ?_))
  refine an rfl ?_ ?_<;>intro RP
  ·have hq:(bZ s&&(p.rows==(AL s).rows))=false:=bN RP (by simp only[aQ]<;>first|rfl|ac_rfl)
   exact au X [8] rfl (ak (ah rfl ⟨by rw[E4 hall hb0,hq];rfl,⟨⟩⟩))
  ·have hq:(bZ s&&(p.rows==(AL s).rows))=true:=bM RP (by simp only[aQ]<;>first|rfl|ac_rfl)
   exact aq (au X [8] rfl (ak (ah rfl ⟨by rw[E4 hall hb0,hq];rfl,⟨⟩⟩)))
theorem ue(m:Int)(sv:List bl)(pb:List DB)(rc:List ep)(hl:sv.length≤1048576)(hs: ∀s,s∈sv→nh s)(hp: ∀d,d∈pb→dc List.length d.rows≤1048576):So 220 [aB m, .a (.sl .bl sv), .a (.sl .DB pb), .a (.sl .ep rc)] [.a (.sl .int (jF m sv pb rc sv.length))]:=by
 refine av X call220 func220 ntmps220 rfl rfl ?_
 intro zb
 refine dD 2 rfl (fun l5=>(au X [0,1,2,3] rfl (aH X [0,1,2,3,9] rfl (by and_intros<;>first|exact⟨⟩|exact rfl) (af (au X [0,1,2,3,9,10] rfl ?_)))))
 refine ay (aG (fun k=>k≤sv.length) (fun k:Nat=> [(10, .one ((aB k)))]) (fun k=> [(11, .arr .int (jF m sv pb rc k))]) (fun k=>sv.length-k) 0 (fun k=>rfl) (Nat.zero_le _) rfl ?_)
 intro k hk
 have hle:=pG m sv pb rc k
 refine af (au X [0,1,2,3,9,10,15] rfl ?_)
 refine an rfl ?_ ?_<;>intro hb0
 ·try simp only[aX]at hb0
  refine aq (af (ay (dy X [] [(29,⟨false,[aB (ni m ((sv.getD k (aA .bl)).id))]⟩),(39,⟨false,[aB (AM (ni m (sv.getD k (aA .bl)).id) (sv.getD k (aA .bl)) (pb.getD k (aA .DB)) rc)]⟩)] [0,1,2,3,9,10,41] [] 24 MO (by kernel_rfl) rfl (by(with_reducible and_intros);(iterate 3 all_goals try first|exact⟨⟩|exact fun _=>(fQ m ((sv.getD k (aA .bl)).id))|exact fun _=>(rZ (ni m (sv.getD k (aA .bl)).id) (sv.getD k (aA .bl)) (pb.getD k (aA .DB)) rc (hs _ (getD_in _ hb0)) (M3 hp k))|exact(by refine fun Xa=> ?_;have hz2:decide ((k:Int)≥(pb.length:Int))=false:=Xa;rw[decide_eq_false_iff_not]at hz2;dsimp only[hyps,ey];omega))) ?_)))
  refine an rfl ?_ ?_<;>intro bz
  ·have hbd:E5 m sv pb rc k=true:=qt bz (by simp only[E5,aQ]<;>first|rfl|ac_rfl)
   have Fu:=E6 hbd
   refine aP X [(49,11)] [] [0,1,2,3,9,10] [] rfl (by and_intros<;>first|exact⟨⟩| (intros;omega)|exact rfl| (simp only[dB,maxLen,lens];omega)) (bF X [0,1,2,3,9,10] rfl ?_)
   refine⟨k+1,by omega,by omega,?_⟩
   rw[bK _ k rfl (by omega),Fu]
   try rfl
  ·have hbd:E5 m sv pb rc k=false:=vk bz (by simp only[E5,aQ]<;>first|rfl|ac_rfl)
   have Fu:=BN hbd
   refine aq (bF X [0,1,2,3,9,10] rfl ?_)
   refine⟨k+1,by omega,by omega,?_⟩
   rw[bK _ k rfl (by omega),Fu]
   try rfl
 ·try simp only[aX]at hb0
  exact aI (au X [8] rfl (ak (ah rfl ⟨by rw[show k=sv.length by omega],⟨⟩⟩)))
theorem uf(sv:List bl)(hl:sv.length≤1048576):So 215 [.a (.sl .bl sv)] [.a (.sl .DB (cU sv))]:=by
 refine av X call215 func215 ntmps215 rfl rfl ?_
 intro zb
 refine au X [0] rfl (aH X [0,3] rfl (by and_intros<;>first|exact⟨⟩|exact rfl) (af (au X [0,3,4] rfl ?_)))
 refine ay (aG (fun k=>k≤sv.length) (fun k:Nat=> [(4, .one ((aB k)))]) (fun k=> [(5, .arr .DB ((cU sv).take k))]) (fun k=>sv.length-k) 0 (fun k=>rfl) (Nat.zero_le _) rfl ?_)
 intro k hk
 have hle:=bJ (cU sv) k
 refine af (au X [0,3,4,9] rfl ?_)
 refine an rfl ?_ ?_<;>intro hb0
 ·try simp only[aX]at hb0
  have hs:=JH sv k hb0
  refine aq (af (ay (aP X [(19,5)] [(17,⟨true,[.agg (bA (vB (sv.getD k (aA .bl))))]⟩)] [0,3,4] [] rfl (by(with_reducible and_intros)<;>first|exact⟨⟩|exact(qM (sv.getD k (aA .bl)))| (intros;omega)|exact rfl| (simp only[dB,maxLen,lens];omega)) (bF X [0,3,4] rfl ?_))))
  refine⟨k+1,by omega,by omega,?_⟩
  rw[bK _ k rfl (by omega),hs]
  try rfl
 ·try simp only[aX]at hb0
  exact aI (au X [2] rfl (ak (ah rfl ⟨by rw[List.take_of_length_le (by unfold cU;rw[List.length_map];exact hb0)],⟨⟩⟩)))
end
section
set_option maxRecDepth 100000
theorem qN(key:Int)(a:cD)(h1:a.selection.length≤262144)(h2:a.data.length≤262144):So 313 [aB key, .agg (gM a)] [aF (TY key a)]:=by
 refine av X call313 func313 ntmps313 rfl rfl ?_
 intro zb
 exact au X [0,3] rfl (dy X [] [(9,⟨false,[aB (Jy key a.server a.round a.selection a.data)]⟩)] [4] [] 7 MO (by kernel_rfl) rfl (by(with_reducible and_intros)<;>first|exact⟨⟩|exact(iG key a h1 h2)) (ak (ah rfl ⟨rfl,⟨⟩⟩)))
theorem pK(key:Int)(d:DB)(a:cD)(h1:a.selection.length≤262144)(h2:a.data.length≤262144):So 277 [aB key, .agg (bA d), .agg (gM a)] [aF (Yw key d a)]:=by
 refine av X call277 func277 ntmps277 rfl rfl ?_
 intro zb
 exact au X [0,4,5] rfl (dy X [] [(9,⟨false,[aF (TY key a)]⟩),(16,⟨false,[.a (.sl .u8 (gX d a.selection))]⟩),(17,⟨false,[aF (a.data==(gX d a.selection))]⟩)] [6] [] 14 MO (by kernel_rfl) rfl (by(with_reducible and_intros);(iterate 3 all_goals try first|exact⟨⟩|exact(qN key a h1 h2)|exact fun _=>(kE d a.selection)|exact fun _=>(e9 a.data (gX d a.selection)))) (ak (ah rfl ⟨(congrArg Value.bool (by simp only[Yw,aQ]<;>first|rfl|ac_rfl)),⟨⟩⟩)))
theorem ug(l:List DB)(l5:l.length≤1048576)(ha:Ab l):So 270 [.a (.sl .DB l)] [.agg (bA (jw l)),aF (C3 l)]:=by
 refine av X call270 func270 ntmps270 rfl rfl ?_
 intro zb
 refine au X [0,2] rfl (af (aD X [] [(10,⟨false,[aF (cg (l.length:Int))]⟩),(16,⟨false,[aF (b9 (l.getD (Int.toNat 0) (aA .DB)))]⟩)] [0,2,18] [] rfl ⟨fun _=>bX _,fun h=>YA h,eG _,⟨⟩⟩ ?_))
 refine an rfl ?_ ?_<;>intro hb0
 ·have hk:cg l.length=false:=Yz ha hb0
  have hj:=GK (Qx hk)
  exact aH X [2,3] rfl (by trivial) (ak (ah rfl ⟨by rw[hj.1],by rw[hj.2],⟨⟩⟩))
 ·have hk:cg l.length=true:=Wh hb0
  have hcb:=E8 hk
  have Xb:=Qy hk
  have h0z:=eI (mE ha 0)
  have Ch:(l.drop 1).length=l.length-1:=List.length_drop ..
  refine aq (aD X [] [(23,⟨true,[.agg (bA (l.getD (Int.toNat 0) (aA .DB)))]⟩)] [0,2,4] [] rfl (by(with_reducible and_intros)<;>first|exact⟨⟩|exact(cZ (l.getD (Int.toNat 0) (aA .DB)) h0z)| (intros;omega)) (af (au X [0,2,4,5] rfl ?_)))
  refine ay (aG (fun k=>(1≤k∧k≤l.length)∧JI l=GJ (BO l (k-1)) ((l.drop 1).drop (k-1))) (fun k:Nat=> [(5, .one ((aB k)))]) (fun k=> [(23, .arr (.sl .u8) (BO l (k-1)).rows)]) (fun k=>l.length-k) 1 (fun k=>rfl) ⟨by omega,Xb⟩ rfl ?_)
  rintro k ⟨hk0,Oi⟩
  refine af (au X [0,2,4,5,27] rfl ?_)
  refine an rfl ?_ ?_<;>intro bz
  ·try simp only[aX]at bz
   have hz1:=eI (TX ha (k-1))
   have hz2:=eI (mE ha k)
   have hge:(l.drop 1).getD (k-1) (aA .DB)=(l.getD k (aA .DB)):=by rw[Fg,show k-1+1=k by omega]
   have Ou:k-1<(l.drop 1).length:=by omega
   refine aq (af (ay (af ?_)))
   have t1:=(fY (BO l (k-1)) (l.getD k (aA .DB)) hz1 hz2)
   refine cJ X [] [(36,⟨true,bQ t1⟩)] [0,2,4,5,6,7] [] 3071 1 MO (by kernel_rfl) rfl (by kernel_rfl) (by(with_reducible and_intros)<;>first|exact⟨⟩|exact t1| (intros;omega)) (af (au X [0,2,4,5,6,40] rfl ?_))
   refine an rfl ?_ ?_<;>intro bW
   ·have hx:jD (BO l (k-1)) (l.getD k (aA .DB))=false:=by simpa using bW
    have hj:=GK (Oi.trans (TW l (k-1) Ou (by rw[hge];exact hx)))
    exact aH X [2,3] rfl (by trivial) (ak (ah rfl ⟨by rw[hj.1],by rw[hj.2],⟨⟩⟩))
   ·have hx:jD (BO l (k-1)) (l.getD k (aA .DB))=true:=by simpa using bW
    have hs:=Aa l (k-1) Ou
    rw[hge]at hs
    refine aq (l7 X [0,2,4,5] rfl (by trivial) (rO 4 0 23 rfl (bF X [0,2,4,5] rfl ?_)))
    refine⟨k+1,⟨by omega,by rw[Oi,M4 l (k-1) Ou (by rw[hge];exact hx),show k+1-1=k-1+1 by omega]⟩,by omega,?_⟩
    rw[bK _ k rfl (by omega),show k+1-1=k-1+1 by omega,hs]
    try rfl
  ·try simp only[aX]at bz
   have hj:=Ia (Oi.trans (Qw l (k-1) (by omega)))
   exact aI (aH X [2,3] rfl (by trivial) (ak (ah rfl ⟨by rw[hj.1],by rw[hj.2],⟨⟩⟩)))
theorem pL(l:List DB)(l5:l.length≤1048576)(ha:Ab l):So 216 [.a (.sl .DB l)] [.agg (bA (jw l)),aF (C3 l)]:=by
 refine av X call216 func216 ntmps216 rfl rfl ?_
 intro zb
 exact au X [0,2] rfl (aD X [] [(5,⟨true,[.agg (bA (jw l)),aF (C3 l)]⟩)] [2,3] [] rfl (by(with_reducible and_intros)<;>first|exact⟨⟩|exact(ug l l5 ha)) (ak (ah rfl ⟨rfl,rfl,⟨⟩⟩)))
theorem mG(id rows b:Int):So 283 [aB id,aB rows,aB b] [.agg (cx (newS id rows b))]:=by
 refine av X call283 func283 ntmps283 rfl rfl ?_
 intro zb
 refine au X [0,1,2,6] rfl (af (aD X [] [(8,⟨false,[aF (inr id 0 3)]⟩),(12,⟨false,[aF (inr rows 1 64)]⟩),(17,⟨false,[aF (inr b 0 3)]⟩)] [0,1,2,6,19] [] rfl (by(with_reducible and_intros);(iterate 3 all_goals try first|exact⟨⟩|exact(aJ id 0 3)|exact fun _=>(aJ rows 1 64)|exact fun _=>(aJ b 0 3))) ?_))
 refine an rfl ?_ ?_<;>intro hb0
 ·have hk:GL id rows b=false:=bN hb0 (by simp only[GL,aQ]<;>first|rfl|ac_rfl)
  have hn:newS id rows b=⟨0,0,0,[],0⟩:=by rw[newS,hk];rfl
  exact aH X [6] rfl (by trivial) (ak (ah rfl (by and_intros<;>first|exact⟨⟩| (rw[hn];done))))
 ·have hk:GL id rows b=true:=bM hb0 (by simp only[GL,aQ]<;>first|rfl|ac_rfl)
  have hn:newS id rows b=⟨id,rows,0,[],b⟩:=by rw[newS,if_pos hk]
  exact aq (aH X [6] rfl (by trivial) (ak (ah rfl (by and_intros<;>first|exact⟨⟩| (rw[hn];done)))))
theorem lB(s:bl)(hz:s.received.length≤1048576∧ ∀r,r∈s.received→dc List.length r.share.rows≤1048576):So 280 [.agg (cx s)] [.agg (cx (jG s))]:=by
 refine av X call280 func280 ntmps280 rfl rfl ?_
 intro zb
 refine au X [1,2] rfl (af (aD X [] [(4,⟨false,[aF (bZ s)]⟩)] [1,2,10] [] rfl (by(with_reducible and_intros)<;>first|exact⟨⟩|exact(cj s)) ?_))
 refine an rfl ?_ ?_<;>intro hb0
 ·have hk:GM s=false:=bN hb0 (by simp only[GM,aQ]<;>first|rfl|ac_rfl)
  have hn:jG s=s:=by rw[jG,hk];rfl
  exact aD X [] [(12,⟨true,[.agg (cx s)]⟩)] [2] [] rfl (by(with_reducible and_intros)<;>first|exact⟨⟩|exact(gV s hz)) (ak (ah rfl (by and_intros<;>first|exact⟨⟩| (rw[hn];done))))
 ·have hk:GM s=true:=bM hb0 (by simp only[GM,aQ]<;>first|rfl|ac_rfl)
  have hn:jG s=⟨s.id,s.rows,IntKind.i64.wrap (s.round+1),[],s.behavior⟩:=by rw[jG,if_pos hk]
  exact aq (aH X [2] rfl (by trivial) (ak (ah rfl (by and_intros<;>first|exact⟨⟩| (rw[hn];done)))))
end
section
set_option maxRecDepth 100000
theorem w6(a:gH)(r:Int)(d:DB)(h0:ef a≤1048576)(YB:dc List.length d.rows≤1048576):So 279 [.agg (dS a),aB r, .agg (bA d)] [.agg [bV a.rows, .vw 0 none .aC (C4 a r d)],aF (vD a r d)]:=by
 refine av X call279 func279 ntmps279 rfl rfl ?_
 intro zb
 refine au X [1,3,5,6] rfl (aD X [] [(10,⟨true,[.agg (dS a)]⟩)] [1,3,5,6,8] [] rfl (by(with_reducible and_intros)<;>first|exact⟨⟩|exact(pe a h0)) (af (aD X [] [(12,⟨false,[aF (dW a)]⟩),(16,⟨false,[aF (inr r 0 100000)]⟩),(22,⟨false,[aB (cW a)]⟩),(27,⟨false,[aF (b9 d)]⟩)] [1,5,6,8,37] [] rfl (by(with_reducible and_intros);(iterate 4 all_goals try first|exact⟨⟩|exact(ia a)|exact fun _=>(aJ r 0 100000)|exact fun _=>(iE a)|exact fun _=>(bX d))) ?_)))
 refine an rfl ?_ ?_<;>intro hb0
 ·have hk:vD a r d=false:=bN hb0 (by simp only[vD,aQ]<;>first|rfl|ac_rfl)
  have hn:=T8 hk
  exact aH X [6,7] rfl (by trivial) (ak (ah rfl ⟨rfl,by rw[hn],by rw[hk],⟨⟩⟩))
 ·have hk:vD a r d=true:=bM hb0 (by simp only[vD,aQ]<;>first|rfl|ac_rfl)
  have hn:=QL hk
  have hkb:=T9 hk
  have hal:(su a r d).length=a.rounds.length+1:=by unfold su;rw[List.length_append];rfl
  refine aq (dy X [] [(43,⟨true,[.agg (bA d)]⟩),(500045,⟨true,[]⟩)] [6,8] [] 7 MO (by kernel_rfl) rfl (by(repeat' with_reducible first|exact aL|refine aT ?_ ?_|apply And.intro)<;>first|exact(cZ d YB)|exact rfl|exact⟨rfl,aV _ (by decide)⟩| (simp only[dB,maxLen,lens];omega)) ?_)
  rw[show a.rounds++ [(⟨r,d⟩:aC)]=(su a r d)from rfl]
  refine af (au X [6,8,51] rfl ?_)
  refine an rfl ?_ ?_<;>intro bz
  ·try simp only[aX]at bz
   have h8:(8:Int)<((su a r d).length:Int):=bz
   rw[if_pos h8]at hn
   exact l7 X [6,8] rfl (by and_intros<;>first|exact⟨⟩| (intros;omega)) (aH X [6,7] rfl (by trivial) (ak (ah rfl ⟨rfl,by rw[hn];simp,by rw[hk],⟨⟩⟩)))
  ·try simp only[aX]at bz
   have h8: ¬(8:Int)<((su a r d).length:Int):=by omega
   rw[if_neg h8]at hn
   exact aq (aH X [6,7] rfl (by trivial) (ak (ah rfl ⟨rfl,by rw[hn],by rw[hk],⟨⟩⟩)))
theorem lC(x:aR)(rd id:Int)(hl:x.aj.length≤4)(hw:1≤x.rows∧x.rows≤64)(hU:AO rd x.aj)(hr:x.replaced.length≤4194400)(hxr:x.round=rd):iz ty Tryz.prog 278 [(1000, .box [bV x.rows, .own 11, .own 12,bV x.az.rows, .own 13,bV x.bh,bV x.seed,bV x.round, .own 14,bV x.cancelled]),(11, .arr .bl x.aj),(12, .arr .aS x.aa),(13, .arr .aC x.az.rounds),(14, .arr .int x.replaced)] [.a (.ptr 1000 0),aB id] [(1000, .box [bV x.rows, .own 11, .own 12,bV x.az.rows, .own 13,bV x.bh,bV x.seed,bV x.round, .own 14,bV x.cancelled]),(11, .arr .bl (Ac x.rows rd (x.aj,x.replaced) id).1),(12, .arr .aS x.aa),(13, .arr .aC x.az.rounds),(14, .arr .int (Ac x.rows rd (x.aj,x.replaced) id).2)] []:=by
 refine fH X call278 func278 rfl rfl (by decide) ntmps278 (by simp) rfl ?_
 intro zb
 refine af (af ?_)
 have t1:=(aJ id 0 (IntKind.i64.wrap ((x.aj.length:Int)-1)))
 refine aP X [] [(12,⟨false,bQ t1⟩)] [0,1,13] [] rfl (by(with_reducible and_intros)<;>first|exact⟨⟩|exact t1) ?_
 refine an rfl ?_ ?_<;>intro hb0
 ·have hk:AN x.aj id=false:=by unfold AN;simpa using hb0
  have hp:(Ac x.rows rd (x.aj,x.replaced) id)=_:=QJ (rows:=x.rows) (rd:=rd) (p:=(x.aj,x.replaced)) hk
  exact ak (eJ rfl (by and_intros<;>first|exact⟨⟩|rfl| (rw[hp];done)))
 ·have hk:AN x.aj id=true:=by unfold AN;simpa using hb0
  have hb:=T7 hl hk
  have hp:(Ac x.rows rd (x.aj,x.replaced) id)=_:=QI (rows:=x.rows) (rd:=rd) (p:=(x.aj,x.replaced)) hk
  have J6:=Fh (id:=id) (by omega) hw
  have hrd:=(Ah hU (k:=id.toNat) (by omega)).1
  refine aq (aD X [] [(19,⟨true,[.agg (cx (newS id x.rows 0))]⟩)] [0,1,4] [] rfl (by(with_reducible and_intros)<;>first|exact⟨⟩|exact(mG id x.rows 0)) ?_)
  rw[J6]
  refine aH X [0,1,4] rfl (by trivial) ?_
  rw[hxr]
  exact dy X [] [] [0,1] [] 7 MO (by kernel_rfl) rfl (by and_intros<;>first|exact⟨⟩| (intros;omega)) (aP X [(39,14)] [] [] [] rfl (by and_intros<;>first|exact⟨⟩|exact rfl| (simp only[dB,maxLen,lens];omega)) (C0 rfl (by and_intros<;>first|exact⟨⟩|rfl| (rw[hp];done))))
theorem uh(x:aR)(g:List Int)(d:DB)(h0:wB x)(hgl:g.length≤64)(YB:dc List.length d.rows≤1048576):So 219 [.agg (aZ x), .a (.sl .int g), .agg (bA d)] [.agg [bV (cM x g d).rows, .sl .bl (cM x g d).aj, .sl .aS (cM x g d).aa,bV (cM x g d).az.rows, .vw 0 none .aC (cM x g d).az.rounds,bV (cM x g d).bh,bV (cM x g d).seed,bV (cM x g d).round, .sl .int (cM x g d).replaced,bV (cM x g d).cancelled]]:=by
 refine av X call219 func219 ntmps219 rfl rfl ?_
 intro zb
 have hls:dc dP x.aj≤1048576∧dc bq x.aa≤1048576∧ef x.az≤1048576∧x.replaced.length≤4194304:=h0
 have Zu:=QK x g
 refine au X [1,3,5,6] rfl (aD X [(7,907)] [(13,⟨true,[.agg (aZ x)]⟩)] [1,3,5,6,7] [] rfl (by(with_reducible and_intros)<;>first|exact⟨⟩|exact(cQ x h0)) (af (aD X [] [(15,⟨false,[aF (okW x)]⟩)] [1,3,5,6,7,21] [] rfl (by(with_reducible and_intros)<;>first|exact⟨⟩|exact(bS x)) ?_)))
 refine an rfl ?_ ?_<;>intro hb0
 ·have hk:jH x=false:=bN hb0 (by simp only[jH,aQ]<;>first|rfl|ac_rfl)
  have hc:=JM (g:=g) (d:=d) hk
  exact aH X [6] rfl (by trivial) (ak (ah rfl (by and_intros<;>first|exact⟨⟩| (rw[hc];done))))
 ·have hk:jH x=true:=bM hb0 (by simp only[jH,aQ]<;>first|rfl|ac_rfl)
  obtain⟨hok,hr9⟩:=No hk
  have uo:=dZ hok
  have UI:=(ng hok).1
  have Zv:=Wi g hok
  refine aq (af (au X [1,3,5,6,7,25] rfl ?_))
  refine an rfl ?_ ?_<;>intro bz
  ·try simp only[aX]at bz
   have Xc:g.length=0:=by omega
   have hc:=Nl (d:=d) hk Xc
   have Zd:g= []:=List.length_eq_zero_iff.1 Xc
   refine af ?_
   have t1:=(w6 x.az x.round d hls.2.2.1 YB)
   refine aP X [] [(32,⟨true,bQ t1⟩)] [1,3,6,7,8] [] rfl (by(with_reducible and_intros)<;>first|exact⟨⟩|exact t1) (l7 X [1,3,6,7] rfl (by trivial) (af (au X [1,3,6,7,10] rfl ?_)))
   refine ay (aG (fun k=>k≤g.length) (fun k:Nat=> [(10, .one ((aB k)))]) (fun k=> [(14, .arr .bl (GO x g k).1),(21, .arr .int (GO x g k).2)]) (fun k=>g.length-k) 0 (fun k=>rfl) (Nat.zero_le _) rfl ?_)
   rintro k hk0
   have Ax:=De (x:=x) hk0
   have hU:=Nk hok hk0
   refine af (au X [1,3,6,7,10,44] rfl ?_)
   refine an rfl ?_ ?_<;>intro bW
   ·try simp only[aX]at bW
    omega
   ·try simp only[aX]at bW
    rw[xH bW]
    refine aI (af (au X [3,6,7,11] rfl ?_))
    refine ay (aG (fun k1=>k1≤x.aj.length) (fun k1:Nat=> [(11, .one ((aB k1)))]) (fun k1=> [(14, .arr .bl (Fi (wH x g).1 k1))]) (fun k1=>x.aj.length-k1) 0 (fun k1=>rfl) (Nat.zero_le _) (by rw[R1];rfl) ?_)
    intro k1 hk1
    have Ca:(Fi (wH x g).1 k1).length=x.aj.length:=by rw[Ig (by omega)];exact Zu.1
    refine af (au X [3,6,7,11,56] rfl ?_)
    refine an rfl ?_ ?_<;>intro nW
    ·try simp only[aX]at nW
     rw[Ca]at nW
     have hgt:=Ie (l:=(wH x g).1) (k:=k1) (by omega)
     have YC:=Ah Zv (k:=k1) (by omega)
     have Ov:=Fj (l:=(wH x g).1) (k:=k1) (by omega)
     refine aq (af (ay (bU X [] [(67,⟨true,[.agg (cx (jG ((Fi (wH x g).1 k1).getD k1 (aA .bl))))]⟩)] [3,6,7,11] [] 10 MO (by kernel_rfl) rfl (by(with_reducible and_intros)<;>first|exact⟨⟩|exact(lB ((Fi (wH x g).1 k1).getD k1 (aA .bl)) (by rw[hgt];exact YC.2))| (intros;omega)) (bF X [3,6,7,11] rfl ?_))))
     refine⟨k1+1,by omega,by omega,?_⟩
     rw[bK _ k1 rfl (by omega), ←Ov]
     try rfl
    ·try simp only[aX]at nW
     rw[Ca]at nW
     rw[Ih (by omega)]
     exact aI (au X [6,7] rfl (aH X [6] rfl (by trivial) (ak (ah rfl (by and_intros<;>first|exact⟨⟩| (rw[hc];done))))))
  ·try simp only[aX]at bz
   have Xc: ¬g.length=0:=by omega
   have hc:=Nn (d:=d) hk Xc
   refine bF X [1,3,6,7] rfl (af (au X [1,3,6,7,10] rfl ?_))
   refine ay (aG (fun k=>k≤g.length) (fun k:Nat=> [(10, .one ((aB k)))]) (fun k=> [(14, .arr .bl (GO x g k).1),(21, .arr .int (GO x g k).2)]) (fun k=>g.length-k) 0 (fun k=>rfl) (Nat.zero_le _) rfl ?_)
   rintro k hk0
   have Ax:=De (x:=x) hk0
   have hU:=Nk hok hk0
   refine af (au X [1,3,6,7,10,44] rfl ?_)
   refine an rfl ?_ ?_<;>intro bW
   ·try simp only[aX]at bW
    have hst:=Nj (x:=x) bW
    refine aq (af (ay ?_))
    have t1:=(lC (⟨x.rows,(GO x g k).1,x.aa,x.az,x.bh,x.seed,x.round,(GO x g k).2,IntKind.i64.wrap (x.cancelled+1)⟩:aR) x.round (g.getD k (aA .int)) (by show(GO x g k).1.length≤4;omega) UI hU (by show(GO x g k).2.length≤_;omega) rfl)
    refine aP X [] [(800051,⟨true,iA t1⟩),(700051,⟨true, .agg [.ptr 1000 907, .ptr 11 14, .ptr 12 15, .ptr 13 17, .ptr 14 21]:: .agg []::iB t1⟩)] [1,3,6,7,10] [] rfl (by(with_reducible and_intros)<;>first|exact⟨⟩|exact t1| (intros;omega)) (bF X [1,3,6,7,10] rfl ?_)
    refine⟨k+1,by omega,by omega,?_⟩
    rw[bK _ k rfl (by omega), ←hst]
    try rfl
   ·try simp only[aX]at bW
    rw[xH bW]
    refine aI (af (au X [3,6,7,11] rfl ?_))
    refine ay (aG (fun k1=>k1≤x.aj.length) (fun k1:Nat=> [(11, .one ((aB k1)))]) (fun k1=> [(14, .arr .bl (Fi (wH x g).1 k1))]) (fun k1=>x.aj.length-k1) 0 (fun k1=>rfl) (Nat.zero_le _) (by rw[R1];rfl) ?_)
    intro k1 hk1
    have Ca:(Fi (wH x g).1 k1).length=x.aj.length:=by rw[Ig (by omega)];exact Zu.1
    refine af (au X [3,6,7,11,56] rfl ?_)
    refine an rfl ?_ ?_<;>intro nW
    ·try simp only[aX]at nW
     rw[Ca]at nW
     have hgt:=Ie (l:=(wH x g).1) (k:=k1) (by omega)
     have YC:=Ah Zv (k:=k1) (by omega)
     have Ov:=Fj (l:=(wH x g).1) (k:=k1) (by omega)
     refine aq (af (ay (bU X [] [(67,⟨true,[.agg (cx (jG ((Fi (wH x g).1 k1).getD k1 (aA .bl))))]⟩)] [3,6,7,11] [] 10 MO (by kernel_rfl) rfl (by(with_reducible and_intros)<;>first|exact⟨⟩|exact(lB ((Fi (wH x g).1 k1).getD k1 (aA .bl)) (by rw[hgt];exact YC.2))| (intros;omega)) (bF X [3,6,7,11] rfl ?_))))
     refine⟨k1+1,by omega,by omega,?_⟩
     rw[bK _ k1 rfl (by omega), ←Ov]
     try rfl
    ·try simp only[aX]at nW
     rw[Ca]at nW
     rw[Ih (by omega)]
     exact aI (au X [6,7] rfl (aH X [6] rfl (by trivial) (ak (ah rfl (by and_intros<;>first|exact⟨⟩| (rw[hc];done))))))
theorem sj(x:aR)(h0:wB x):So 218 [.agg (aZ x)] [.agg (aZ (testW x))]:=by
 refine av X call218 func218 ntmps218 rfl rfl ?_
 intro zb
 have hls:dc dP x.aj≤1048576∧dc bq x.aa≤1048576∧ef x.az≤1048576∧x.replaced.length≤4194304:=h0
 have Ov:=Wl h0
 refine au X [1,2] rfl (aD X [(3,903)] [(12,⟨true,[.agg (aZ x)]⟩)] [1,2,3] [] rfl (by(with_reducible and_intros)<;>first|exact⟨⟩|exact(cQ x h0)) (aD X [] [(15,⟨false,[aB (cW x.az)]⟩)] [1,2,3,4] [] rfl (by(with_reducible and_intros)<;>first|exact⟨⟩|exact(iE x.az)) (af ?_)))
 have t1:=(gG x.az (cW x.az) Ov)
 refine aP X [(20,80)] [(20,⟨true,bQ t1⟩)] [1,2,3,4,5,6] [] rfl (by(with_reducible and_intros)<;>first|exact⟨⟩|exact t1) (af (aD X [] [(24,⟨false,[aF (okW x)]⟩)] [1,2,3,4,5,29] [] rfl (by(with_reducible and_intros)<;>first|exact⟨⟩|exact(bS x)) ?_))
 refine an rfl ?_ ?_<;>intro hb0
 ·have hk:C9 x=false:=bN hb0 (by simp only[C9,aQ]<;>first|rfl|ac_rfl)
  have hc:=Nq hk
  exact aH X [2] rfl (by trivial) (ak (ah rfl (by and_intros<;>first|exact⟨⟩| (rw[hc];done))))
 ·have hk:C9 x=true:=bM hb0 (by simp only[C9,aQ]<;>first|rfl|ac_rfl)
  have hc:=JN hk
  have hkk:=hk
  rw[C9,Bool.and_eq_true]at hkk
  obtain⟨hok,hah⟩:=hkk
  have uo:=dZ hok
  have UI:=(ng hok).1
  refine aq (af (au X [1,2,3,4,5,7] rfl ?_))
  refine ay (aG (fun k=>k≤x.aj.length) (fun k:Nat=> [(7, .one ((aB k)))]) (fun k=> [(13, .arr .bl (C8 x k).1),(20, .arr .int (C8 x k).2)]) (fun k=>x.aj.length-k) 0 (fun k=>rfl) (Nat.zero_le _) rfl ?_)
  rintro k hk0
  have htb:=Wk hok k hk0
  refine af (au X [1,2,3,4,5,7,35] rfl ?_)
  refine an rfl ?_ ?_<;>intro bz
  ·try simp only[aX]at bz
   have hrl:=k8 (kh x.seed [227,x.round,(k:Int)]) x.rows
   have hab:=V8 (x.aj.getD k (aA .bl)) (ni x.bh (k:Int)) (cW x.az) (kL x.az.rounds (cW x.az)) (v:=(bY (kh x.seed [227,x.round,(k:Int)]) x.rows)) (by omega)
   have Zw:=Wj hok hah (kh x.seed [227,x.round,(k:Int)])
   refine aq (af (ay (aD X [] [(41,⟨false,[aB (ni x.bh (k:Int))]⟩)] [1,2,3,4,5,7,8] [] rfl (by(with_reducible and_intros)<;>first|exact⟨⟩|exact(fQ x.bh (k:Int))) (af ?_))))
   have t1:=(nI (x.aj.getD k (aA .bl)) (ni x.bh (k:Int)) (cW x.az) (kL x.az.rounds (cW x.az)) (bY (kh x.seed [227,x.round,(k:Int)]) x.rows) (by omega))
   refine cJ X [] [(57,⟨false,[aB (kh x.seed [227,x.round,(k:Int)])]⟩),(60,⟨true,[.a (.sl .int (bY (kh x.seed [227,x.round,(k:Int)]) x.rows))]⟩),(61,⟨true,bQ t1⟩)] [1,2,3,4,5,7,8,9,10] [] 25165823 1 MO (by kernel_rfl) rfl (by kernel_rfl) (by(repeat' with_reducible first|exact aL|refine aT ?_ ?_|apply And.intro);(iterate 3 all_goals try first|exact(aW x.seed [227,x.round,(k:Int)] (by first|assumption|omega| (simp;done)| (simp;omega)))|exact(gS (kh x.seed [227,x.round,(k:Int)]) x.rows)|exact t1);all_goals first| (intros;omega)|exact⟨rfl,aV _ (by decide)⟩) ?_
   refine af ?_
   have t1:=(pK (ni x.bh (k:Int)) (kL x.az.rounds (cW x.az)) (Zs x k) hab.1 hab.2)
   refine aP X [] [(69,⟨false,bQ t1⟩)] [1,2,3,4,5,7,70] [] rfl (by(with_reducible and_intros)<;>first|exact⟨⟩|exact fun _=>t1) ?_
   refine an rfl ?_ ?_<;>intro bW
   ·have O6:RZ x k=true:=by rw[Zw]at bW;exact bW
    have hst:=QA (x:=x) (n:=k) O6
    have t1:=(lC (⟨x.rows,(C8 x k).1,x.aa,x.az,x.bh,x.seed,x.round,(C8 x k).2,x.cancelled⟩:aR) x.round (k:Int) (by show(C8 x k).1.length≤4;omega) UI htb.1 (by show(C8 x k).2.length≤_;omega) rfl)
    refine aP X [] [(800072,⟨true,iA t1⟩),(700072,⟨true, .agg [.ptr 1000 903, .ptr 11 13, .ptr 12 14, .ptr 13 16, .ptr 14 20]:: .agg []::iB t1⟩)] [1,2,3,4,5,7] [] rfl (by(with_reducible and_intros)<;>first|exact⟨⟩|exact t1) (bF X [1,2,3,4,5,7] rfl ?_)
    refine⟨k+1,by omega,by omega,?_⟩
    rw[bK _ k rfl (by omega), ←hst]
    try rfl
   ·have O6:RZ x k=false:=by rw[Zw]at bW;exact bW
    have hst:=M7 (x:=x) (n:=k) O6
    refine aq (bF X [1,2,3,4,5,7] rfl ?_)
    refine⟨k+1,by omega,by omega,?_⟩
    rw[bK _ k rfl (by omega),hst]
    try rfl
  ·try simp only[aX]at bz
   exact aI (aH X [2] rfl (by trivial) (ak (ah rfl (by and_intros<;>first|exact⟨⟩| (rw[hc];done)| (rw[hc,show k=x.aj.length by omega];done)))))
end
section
set_option maxRecDepth 100000
theorem nJ(x:aR)(hR:wR x)(hok:okW x=true):So 154 [.agg (aZ x)] [.agg (aZ (AJ (testW (cM x (jF x.bh (bH x) (cU (bH x)) (kj x) (bH x).length) (jw (cU (bH x)))))))]:=by
 refine av X call154 func154 ntmps154 rfl rfl ?_
 intro zb
 obtain⟨h0,Xb⟩:=hR
 have uo:=EM h0
 have um:=kG hok
 have hcs:=GI hok
 have hs4:=dZ hok
 have Zx:=nr (bH x)
 have hjz:=eI (E9 _ Zx)
 have hgl:=pG x.bh (bH x) (cU (bH x)) (kj x) (bH x).length
 have kP:(cU (bH x)).length=(bH x).length:=List.length_map ..
 obtain⟨hB1,XA⟩:=QM h0 hok Xb
 refine au X [1,2] rfl (aD X [] [(10,⟨true,[.a (.sl .bl (bH x)), .a (.sl .ep (kj x))]⟩)] [1,2,3,4] [] rfl (by(with_reducible and_intros)<;>first|exact⟨⟩|exact(pH x h0)) (aD X [] [(14,⟨true,[.a (.sl .DB (cU (bH x)))]⟩)] [1,2,3,4,5] [] rfl (by(with_reducible and_intros)<;>first|exact⟨⟩|exact(uf (bH x) (by omega))) (af ?_)))
 have t1:=(pL (cU (bH x)) (by omega) Zx)
 refine aP X [] [(17,⟨true,bQ t1⟩)] [1,2,3,4,5,6] [] rfl (by(with_reducible and_intros)<;>first|exact⟨⟩|exact t1) (af ?_)
 have t1:=(uh x (jF x.bh (bH x) (cU (bH x)) (kj x) (bH x).length) (jw (cU (bH x))) h0 (by omega) hjz)
 have t2:=(sj (cM x (jF x.bh (bH x) (cU (bH x)) (kj x) (bH x).length) (jw (cU (bH x)))) hB1)
 have t3:=(vG (testW (cM x (jF x.bh (bH x) (cU (bH x)) (kj x) (bH x).length) (jw (cU (bH x))))) XA)
 exact bU X [(28,60),(29,100),(30,150)] [(26,⟨true,[.a (.sl .int (jF x.bh (bH x) (cU (bH x)) (kj x) (bH x).length))]⟩),(28,⟨true,bQ t1⟩),(29,⟨true,bQ t2⟩),(30,⟨true,bQ t3⟩)] [2] [] 11 MO (by kernel_rfl) rfl (by(with_reducible and_intros);(iterate 4 all_goals try first|exact⟨⟩|exact(ue x.bh (bH x) (cU (bH x)) (kj x) (by omega) hcs (Qv _))|exact t1|exact t2|exact t3)) (ak (ah rfl ⟨rfl,rfl,rfl,rfl,rfl,rfl,rfl,rfl,rfl,rfl,⟨⟩⟩))
theorem w7(x:aR)(hR:wR x):So 82 [.agg (aZ x)] [.agg (aZ (eT x))]:=by
 refine av X call82 func82 ntmps82 rfl rfl ?_
 intro zb
 have h0:=hR.1
 refine au X [1,2] rfl (af (aD X [] [(4,⟨false,[aF (okW x)]⟩)] [1,2,10] [] rfl (by(with_reducible and_intros)<;>first|exact⟨⟩|exact(bS x)) ?_))
 refine an rfl ?_ ?_<;>intro hb0
 ·have hk:jH x=false:=bN hb0 (by simp only[jH,aQ]<;>first|rfl|ac_rfl)
  have hc:=JO hk
  exact aD X [] [(12,⟨true,[.agg (aZ x)]⟩)] [2] [] rfl (by(with_reducible and_intros)<;>first|exact⟨⟩|exact(cQ x h0)) (ak (ah rfl (by and_intros<;>first|exact⟨⟩| (rw[hc];done))))
 ·have hk:jH x=true:=bM hb0 (by simp only[jH,aQ]<;>first|rfl|ac_rfl)
  have hc:=Ai hk
  obtain⟨hok,hr9⟩:=No hk
  refine aq (af ?_)
  have t1:=(nJ x hR hok)
  exact aP X [] [(14,⟨true,bQ t1⟩)] [2] [] rfl (by(with_reducible and_intros)<;>first|exact⟨⟩|exact t1) (ak (ah rfl (by and_intros<;>first|exact⟨⟩| (rw[hc];done))))
end
section
set_option maxRecDepth 100000
theorem iI(x:aR)(c:Int)(hC:wC x 4100000):So 28 [.agg (aZ x),aB c] [.agg (aZ (mF x (Ii c)))]:=by
 refine av X call28 func28 ntmps28 rfl rfl ?_
 intro zb
 have h0:wB x:=M8 hC (by decide)
 refine au X [1,2,4] rfl (aD X [] [(8,⟨true,[.agg (aZ x)]⟩)] [1,4,5] [] rfl (by(with_reducible and_intros)<;>first|exact⟨⟩|exact(cQ x h0)) (af (au X [1,4,5,6] rfl ?_)))
 refine ay (aG (fun k=>k≤Ii c) (fun k:Nat=> [(6, .one ((aB k)))]) (fun k=> [(9, .arr .bl (mF x k).aj),(10, .arr .aS (mF x k).aa),(12, .arr .aC (mF x k).az.rounds),(16, .arr .int (mF x k).replaced),(5, .box [bV (mF x k).rows, .own 9, .own 10,bV (mF x k).az.rows, .own 12,bV (mF x k).bh,bV (mF x k).seed,bV (mF x k).round, .own 16,bV (mF x k).cancelled])]) (fun k=>Ii c-k) 0 (fun k=>rfl) (Nat.zero_le _) rfl ?_)
 intro k hk
 have hrn:=Ub c
 have hrb:=Ud hC (k:=k) (by omega)
 refine af (au X [1,4,5,6,15] rfl ?_)
 refine an rfl ?_ ?_<;>intro hb0
 ·have Zy:=Wm hb0
  refine aq (af (ay (aP X [(19,150)] [(19,⟨true,[.agg (aZ (eT (mF x k)))]⟩)] [1,4,5,6] [] rfl (by(with_reducible and_intros)<;>first|exact⟨⟩|exact(w7 (mF x k) hrb.1)) (cL 151 9 rfl (cL 152 10 rfl (cL 154 12 rfl (cL 158 16 rfl (bF X [1,4,5,6] rfl ?_))))))))
  refine⟨k+1,by omega,by omega,?_⟩
  rw[bK _ k rfl (by omega)]
  try rfl
 ·have hkk:=(Uc hk hb0).symm
  exact aI (aH X [4] rfl (by trivial) (ak (ah rfl (by and_intros<;>first|exact⟨⟩| (rw[hkk];done)))))
end
section
set_option maxRecDepth 100000
theorem jr(c:cX)(b:List UInt8)(h0:dc List.length c.aE≤1048576∧dc List.length c.inbox≤1048576)(hb:b.length≤1048576):So 159 [.agg (bR c), .a (.sl .u8 b)] [.agg (bR (iZ c b)),aF (vE c b)]:=by
 refine av X call159 func159 ntmps159 rfl rfl ?_
 intro zb
 have Bp:=cN h0.1
 refine au X [1,2,4] rfl (aD X [] [(8,⟨true,[.agg (bR c)]⟩)] [1,2,4,6] [] rfl (by(with_reducible and_intros)<;>first|exact⟨⟩|exact(dQ c h0)) (af (cJ X [(13,11),(13,40)] [(500014,⟨true,[]⟩)] [2,4,6] [] 175 2 MO (by kernel_rfl) rfl (by kernel_rfl) (by and_intros<;>first|exact⟨⟩|exact rfl| (simp only[dB,maxLen,lens];omega)) (af (aD X [] [(18,⟨false,[aF (cG c)]⟩),(22,⟨false,[aF (cG (Nc c b))]⟩)] [2,4,6,24] [] rfl (by(with_reducible and_intros);(iterate 2 all_goals try first|exact⟨⟩|exact(cH c)|exact fun _=>(cH (Nc c b)))) ?_)))))
 refine an rfl ?_ ?_<;>intro hb0
 ·have hk:vE c b=false:=bN hb0 (by simp only[vE,aQ]<;>first|rfl|ac_rfl)
  have hq:=QO hk
  exact aD X [] [(26,⟨true,[.agg (bR c)]⟩)] [4,5] [] rfl (by(with_reducible and_intros)<;>first|exact⟨⟩|exact(dQ c h0)) (ak (ah rfl (by and_intros<;>first|exact⟨⟩| (rw[hq];done)| (rw[hk];done))))
 ·have hk:vE c b=true:=bM hb0 (by simp only[vE,aQ]<;>first|rfl|ac_rfl)
  have hq:=Aj hk
  exact aq (aH X [4,5] rfl (by trivial) (ak (ah rfl (by and_intros<;>first|exact⟨⟩| (rw[hq];rfl;done)| (rw[hk];done)))))
theorem nU(d:aS)(b:List UInt8)(h0:bq d≤1048576)(hb:b.length≤1048576):So 92 [.agg (cq d), .a (.sl .u8 b)] [.agg (cq (Af d b)),aF (Ae d b)]:=by
 refine av X call92 func92 ntmps92 rfl rfl ?_
 intro zb
 have wS:cu d.live≤1048576∧cu d.saved≤1048576:=by unfold bq at h0;omega
 unfold cu at wS
 refine au X [1,2,4] rfl (aD X [] [(14,⟨true,[.agg (bR (iZ d.live b)),aF (vE d.live b)]⟩)] [1,2,4,6,7] [] rfl (by(with_reducible and_intros)<;>first|exact⟨⟩|exact(jr d.live b ⟨by omega,by omega⟩ hb)) (aD X [] [(21,⟨true,[.agg (bR (iZ d.saved b)),aF (vE d.saved b)]⟩)] [2,4,6,7,8,9] [] rfl (by(with_reducible and_intros)<;>first|exact⟨⟩|exact(jr d.saved b ⟨by omega,by omega⟩ hb)) (af (aD X [] [(25,⟨false,[aF (cE d)]⟩)] [2,4,6,8,34] [] rfl (by(with_reducible and_intros)<;>first|exact⟨⟩|exact(cI d)) ?_))))
 refine an rfl ?_ ?_<;>intro hb0
 ·have hk:Ae d b=false:=bN hb0 (by simp only[Ae,aQ]<;>first|rfl|ac_rfl)
  have hq:=QS hk
  exact aD X [] [(36,⟨true,[.agg (cq d)]⟩)] [4,5] [] rfl (by(with_reducible and_intros)<;>first|exact⟨⟩|exact(fI d h0)) (ak (ah rfl (by and_intros<;>first|exact⟨⟩| (rw[hq];done)| (rw[hk];done))))
 ·have hk:Ae d b=true:=bM hb0 (by simp only[Ae,aQ]<;>first|rfl|ac_rfl)
  have hq:=Ns hk
  exact aq (aH X [4,5] rfl (by trivial) (ak (ah rfl (by and_intros<;>first|exact⟨⟩| (rw[hq];done)| (rw[hk];done)))))
theorem sk(d:aS)(h0:bq d≤1048576):So 155 [.agg (cq d)] [.agg (cq (QC d))]:=by
 refine av X call155 func155 ntmps155 rfl rfl ?_
 intro zb
 have wS:cu d.live≤1048576∧cu d.saved≤1048576:=by unfold bq at h0;omega
 unfold cu at wS
 refine au X [1,2] rfl (af (aD X [] [(4,⟨false,[aF (cE d)]⟩)] [1,2,5] [] rfl (by(with_reducible and_intros)<;>first|exact⟨⟩|exact(cI d)) ?_))
 refine an rfl ?_ ?_<;>intro hb0
 ·have hk:cE d=false:=by simpa using hb0
  have hd:QC d=d:=by rw[QC,hk];rfl
  exact aD X [] [(7,⟨true,[.agg (cq d)]⟩)] [2] [] rfl (by(with_reducible and_intros)<;>first|exact⟨⟩|exact(fI d h0)) (ak (ah rfl (by and_intros<;>first|exact⟨⟩| (rw[hd];done))))
 ·have hk:cE d=true:=by simpa using hb0
  have hd:QC d=⟨d.saved,d.saved⟩:=by rw[QC,if_pos hk]
  exact aq (aD X [] [(10,⟨true,[.agg (cq (⟨d.saved,d.saved⟩:aS))]⟩)] [2] [] rfl (by(with_reducible and_intros)<;>first|exact⟨⟩|exact(iH d.saved ⟨by omega,by omega⟩)) (ak (ah rfl (by and_intros<;>first|exact⟨⟩| (rw[hd];done)))))
theorem dw(x:aR)(c:Int)(b:List UInt8)(h0:wB x)(hb:b.length≤1048576):So 32 [.agg (aZ x),aB c, .a (.sl .u8 b)] [.agg (aZ (Kb x c b)),aF (JK x c b)]:=by
 refine av X call32 func32 ntmps32 rfl rfl ?_
 intro zb
 refine bC 0 1 rfl rfl (fun hl1=> ?_)
 refine bC 0 2 rfl rfl (fun lH=> ?_)
 have Yy:=HO h0
 have uo:=EM h0
 have hw:IntKind.i64.wrap ((x.aa.length:Int)-1)=(x.aa.length:Int)-1:=bp (by omega)
 refine au X [1,2,3,6] rfl (aD X [] [(12,⟨true,[.agg (aZ x)]⟩)] [1,2,3,6,8] [] rfl (by(with_reducible and_intros)<;>first|exact⟨⟩|exact(cQ x h0)) (af (af ?_)))
 have t1:=(aJ c 0 (IntKind.i64.wrap ((x.aa.length:Int)-1)))
 refine aP X [] [(14,⟨false,[aF (okW x)]⟩),(22,⟨false,bQ t1⟩)] [1,2,3,6,8,24] [] rfl (by(with_reducible and_intros);(iterate 2 all_goals try first|exact⟨⟩|exact(bS x)|exact fun _=>t1)) ?_
 refine an rfl ?_ ?_<;>intro hb0
 ·have hk:fT x c=false:=bN hb0 (by simp only[fT,jC,hw,aQ]<;>first|rfl|ac_rfl)
  have hq:=Ue (b:=b) hk
  exact aH X [6,7] rfl (by trivial) (ak (ah rfl (by and_intros<;>first|exact⟨⟩| (rw[hq.1];done)| (rw[hq.2];done))))
 ·have hk:fT x c=true:=bM hb0 (by simp only[fT,jC,hw,aQ]<;>first|rfl|ac_rfl)
  obtain⟨hok,hc0,wS⟩:=xG hk
  have YD:=Nt hk
  have hq:=QT (b:=b) hk
  refine aq (af ?_)
  have t1:=(nU (x.aa.getD c.toNat (aA .aS)) b YD hb)
  exact aP X [] [(33,⟨true,bQ t1⟩)] [1,6,8,9,10] [] rfl (by(with_reducible and_intros)<;>first|exact⟨⟩|exact t1| (intros;omega)) (aH X [6,8,10] rfl (by and_intros<;>first|exact⟨⟩| (intros;omega)) (aH X [6,7] rfl (by trivial) (ak (ah rfl (by and_intros<;>first|exact⟨⟩| (rw[hq.1];rfl;done)| (rw[hq.2];rfl;done))))))
theorem so(x:aR)(c:Int)(h0:wB x):So 83 [.agg (aZ x),aB c] [.agg (aZ (Oq x c)),aF (fT x c)]:=by
 refine av X call83 func83 ntmps83 rfl rfl ?_
 intro zb
 refine bC 0 1 rfl rfl (fun hl1=> ?_)
 refine bC 0 2 rfl rfl (fun lH=> ?_)
 have Yy:=HO h0
 have uo:=EM h0
 have hw:IntKind.i64.wrap ((x.aa.length:Int)-1)=(x.aa.length:Int)-1:=bp (by omega)
 refine au X [1,2,4] rfl (aD X [] [(8,⟨true,[.agg (aZ x)]⟩)] [1,2,4,6] [] rfl (by(with_reducible and_intros)<;>first|exact⟨⟩|exact(cQ x h0)) (af (af ?_)))
 have t1:=(aJ c 0 (IntKind.i64.wrap ((x.aa.length:Int)-1)))
 refine aP X [] [(10,⟨false,[aF (okW x)]⟩),(18,⟨false,bQ t1⟩)] [1,2,4,6,20] [] rfl (by(with_reducible and_intros);(iterate 2 all_goals try first|exact⟨⟩|exact(bS x)|exact fun _=>t1)) ?_
 refine an rfl ?_ ?_<;>intro hb0
 ·have hk:fT x c=false:=bN hb0 (by simp only[fT,jC,hw,aQ]<;>first|rfl|ac_rfl)
  have hq:=Uf hk
  exact aH X [4,5] rfl (by trivial) (ak (ah rfl (by and_intros<;>first|exact⟨⟩| (rw[hq];done)| (rw[hk];done))))
 ·have hk:fT x c=true:=bM hb0 (by simp only[fT,jC,hw,aQ]<;>first|rfl|ac_rfl)
  obtain⟨hok,hc0,wS⟩:=xG hk
  have YD:=Nt hk
  have hq:=QU hk
  exact aq (dy X [] [(30,⟨true,[.agg (cq (QC (x.aa.getD c.toNat (aA .aS))))]⟩)] [4,6] [] 10 MO (by kernel_rfl) rfl (by(with_reducible and_intros)<;>first|exact⟨⟩|exact(sk (x.aa.getD c.toNat (aA .aS)) YD)| (intros;omega)) (aH X [4,5] rfl (by trivial) (ak (ah rfl (by and_intros<;>first|exact⟨⟩| (rw[hq];rfl;done)| (rw[hk];done))))))
theorem pM(x:aR)(i b:Int)(h0:wB x):So 84 [.agg (aZ x),aB i,aB b] [.agg (aZ (Ot x i b)),aF (AP x i b)]:=by
 refine av X call84 func84 ntmps84 rfl rfl ?_
 intro zb
 refine bC 0 1 rfl rfl (fun hl1=> ?_)
 refine bC 0 2 rfl rfl (fun lH=> ?_)
 have Yy:=HO h0
 have uo:=EM h0
 refine au X [1,2,3,6] rfl (aD X [] [(10,⟨true,[.agg (aZ x)]⟩)] [1,2,3,6,8] [] rfl (by(with_reducible and_intros)<;>first|exact⟨⟩|exact(cQ x h0)) (af (af ?_)))
 have t1:=(aJ i 0 (IntKind.i64.wrap ((x.aj.length:Int)-1)))
 refine aP X [] [(12,⟨false,[aF (okW x)]⟩),(20,⟨false,bQ t1⟩),(25,⟨false,[aF (inr b 0 3)]⟩)] [1,2,6,8,27] [] rfl (by(with_reducible and_intros);(iterate 3 all_goals try first|exact⟨⟩|exact(bS x)|exact fun _=>t1|exact fun _=>(aJ b 0 3))) ?_
 refine an rfl ?_ ?_<;>intro hb0
 ·have hk:AP x i b=false:=bN hb0 (by simp only[AP,aQ]<;>first|rfl|ac_rfl)
  have hq:=Ug hk
  exact aH X [6,7] rfl (by trivial) (ak (ah rfl (by and_intros<;>first|exact⟨⟩| (rw[hq];done)| (rw[hk];done))))
 ·have hk:AP x i b=true:=bM hb0 (by simp only[AP,aQ]<;>first|rfl|ac_rfl)
  have hcb:=Nd hk
  have hq:=QV hk
  exact aq (aH X [6,8] rfl (by and_intros<;>first|exact⟨⟩| (intros;omega)) (aH X [6,7] rfl (by trivial) (ak (ah rfl (by and_intros<;>first|exact⟨⟩| (rw[hq];rfl;done)| (rw[hk];done))))))
end
section
set_option maxRecDepth 100000
theorem gl(v:Value)(c:fJ)(b:List UInt8)(hcb:c.b=b)(hb:b.length≤1048576):iz ty Tryz.prog 147 [(1000, .box [.gL v .u8 b,bV (c.i:Int),bV c.h])] [.a (.ptr 1000 0)] [(1000, .box [.gL v .u8 b,bV (c.n.i:Int),bV c.n.h])] [aB c.x]:=by
 refine fH X2 call147 func147 rfl rfl (by decide) ntmps147 (by simp) rfl ?_
 intro zb
 subst hcb
 refine au X2 [0] rfl (aH X2 [0] rfl (by trivial) (dy X2 [] [] [0,3] [] 13 MO (by kernel_rfl) rfl (by and_intros<;>first|exact⟨⟩| (intros;omega)) (af (dy X2 [] [] [0,3,34] [] 10 MO (by kernel_rfl) rfl (by trivial) ?_))))
 refine an rfl ?_ ?_<;>intro hb0
 ·try simp only[aX]at hb0
  have hx:c.x=JS (IntKind.i64.wrap (c.x0+IntKind.i64.wrap ((c.b.getD c.i (aA .u8)).toNat:Int))):=by rw[fJ.x,if_pos (by omega)]
  have hn:c.n.i=c.i+1:=by show(if c.i<c.b.length then c.i+1 else c.i)=_;rw[if_pos (by omega)]
  have hw:IntKind.i64.wrap ((c.i:Int)+1)=((c.i+1:Nat):Int):=by rw[bp (by omega)];omega
  exact dy X2 [] [] [0,3] [] 15 MO (by kernel_rfl) rfl (by and_intros<;>first|exact⟨⟩| (intros;omega)) (l7 X2 [3] rfl (by trivial) (au X2 [2] rfl (ak (eJ rfl ⟨by rw[hx];rfl,rfl,rfl,by rw[hn,hw],rfl,⟨⟩⟩))))
 ·try simp only[aX]at hb0
  have hx:c.x=c.x0:=by rw[fJ.x,if_neg (by omega)]
  have hn:c.n.i=c.i:=by show(if c.i<c.b.length then c.i+1 else c.i)=_;rw[if_neg (by omega)]
  exact aq (au X2 [2] rfl (ak (eJ rfl ⟨by rw[hx];rfl,rfl,rfl,by rw[hn],rfl,⟨⟩⟩)))
theorem bO(v:Value)(c:fJ)(n:Int)(b:List UInt8)(hcb:c.b=b)(hb:b.length≤1048576):iz ty Tryz.prog 74 [(1000, .box [.gL v .u8 b,bV (c.i:Int),bV c.h])] [.a (.ptr 1000 0),aB n] [(1000, .box [.gL v .u8 b,bV ((bu c n).i:Int),bV (bu c n).h])] [aB (c9 c n)]:=by
 refine fH X2 call74 func74 rfl rfl (by decide) ntmps74 (by simp) rfl ?_
 intro zb
 refine au X2 [0,1] rfl (af (au X2 [0,1,9] rfl ?_))
 refine an rfl ?_ ?_<;>intro hb0
 ·try simp only[aX]at hb0
  have hx:c9 c n=0:=by rw[c9,if_pos hb0]
  have hn:bu c n=c:=by rw[bu,if_pos hb0]
  exact au X2 [4] rfl (ak (eJ rfl ⟨by rw[hx],rfl,rfl,by rw[hn],by rw[hn],⟨⟩⟩))
 ·try simp only[aX]at hb0
  have h0: ¬n≤0:=by omega
  refine aq (af (au X2 [0,1,11] rfl ?_))
  refine an rfl ?_ ?_<;>intro bz
  ·try simp only[aX]at bz
   have hx:c9 c n=c.x.tmod n:=by rw[c9,if_neg h0,if_pos bz]
   have hn:bu c n=c.n:=by rw[bu,if_neg h0,if_pos bz]
   refine af ?_
   have t1:=(gl v c b hcb hb)
   exact aP X2 [] [(800013,⟨true,iA t1⟩),(700013,⟨true, .agg [.ptr 1000 1000]:: .agg []::iB t1⟩)] [4] [] rfl (by(with_reducible and_intros)<;>first|exact⟨⟩|exact t1| (intros;omega)|exact rfl) (ak (eJ rfl ⟨by rw[hx],rfl,rfl,by rw[hn],by rw[hn],⟨⟩⟩))
  ·try simp only[aX]at bz
   have h1: ¬n≤256:=by omega
   have hx:c9 c n=(IntKind.i64.wrap (IntKind.i64.wrap (IntKind.i64.wrap (c.x*65536)+IntKind.i64.wrap (c.n.x*256))+c.n.n.x)).tmod n:=by rw[c9,if_neg h0,if_neg h1]
   have hn:bu c n=c.n.n.n:=by rw[bu,if_neg h0,if_neg h1]
   refine aq (af ?_)
   have t1:=(gl v c b hcb hb)
   refine aP X2 [] [(800017,⟨true,iA t1⟩),(700017,⟨true, .agg [.ptr 1000 1000]:: .agg []::iB t1⟩)] [0,1,5] [] rfl (by(with_reducible and_intros)<;>first|exact⟨⟩|exact t1|exact rfl) (af ?_)
   have t1:=(gl v c.n b hcb hb)
   refine aP X2 [] [(800019,⟨true,iA t1⟩),(700019,⟨true, .agg [.ptr 1000 1000]:: .agg []::iB t1⟩)] [0,1,5,6] [] rfl (by(with_reducible and_intros)<;>first|exact⟨⟩|exact t1|exact rfl) (af ?_)
   have t1:=(gl v c.n.n b hcb hb)
   exact aP X2 [] [(800021,⟨true,iA t1⟩),(700021,⟨true, .agg [.ptr 1000 1000]:: .agg []::iB t1⟩)] [1,5,6,7] [] rfl (by(with_reducible and_intros)<;>first|exact⟨⟩|exact t1|exact rfl) (aH X2 [4] rfl (by and_intros<;>first|exact⟨⟩| (intros;omega)) (ak (eJ rfl ⟨by rw[hx],rfl,rfl,by rw[hn],by rw[hn],⟨⟩⟩)))
theorem Dm(v:Value)(c:fJ)(l:List Int)(b:List UInt8)(hcb:c.b=b)(hb:b.length≤1048576)(hl:0<l.length∧l.length≤1048576):iz ty Tryz.prog 75 [(1000, .box [.gL v .u8 b,bV (c.i:Int),bV c.h])] [.a (.ptr 1000 0), .a (.sl .int l)] [(1000, .box [.gL v .u8 b,bV ((bu c (l.length:Int)).i:Int),bV (bu c (l.length:Int)).h])] [aB (l.getD (c9 c (l.length:Int)).toNat (aA .int))]:=by
 refine fH X2 call75 func75 rfl rfl (by decide) ntmps75 (by simp) rfl ?_
 intro zb
 have Ca:=iK c (n:=(l.length:Int)) (by omega)
 refine au X2 [0,1] rfl (af ?_)
 have t1:=(bO v c (l.length:Int) b hcb hb)
 exact aP X2 [] [(800009,⟨true,iA t1⟩),(700009,⟨true, .agg [.ptr 1000 1000]:: .agg []::iB t1⟩)] [4] [] rfl (by(with_reducible and_intros)<;>first|exact⟨⟩|exact t1| (intros;omega)|exact rfl) (ak (eJ rfl ⟨rfl,rfl,rfl,rfl,rfl,⟨⟩⟩))
theorem pO(v:Value)(c:fJ)(n:Int)(b:List UInt8)(hcb:c.b=b)(hb:b.length≤1048576)(hn:n≤1000):iz ty Tryz.prog 146 [(1000, .box [.gL v .u8 b,bV (c.i:Int),bV c.h])] [.a (.ptr 1000 0),aB n] [(1000, .box [.gL v .u8 b,bV ((NN c n.toNat).i:Int),bV (NN c n.toNat).h]),(11, .arr .u8 (R5 c n.toNat))] [.a (.own 11)]:=by
 refine fH X2 call146 func146 rfl rfl (by decide) ntmps146 (by simp) rfl ?_
 intro zb
 refine au X2 [0,1] rfl (aD X2 [(7,11)] [] [0,1,5] [] rfl (by and_intros<;>first|exact⟨⟩|exact rfl) (af (au X2 [0,1,5,6] rfl ?_)))
 refine ay (aG (fun k=>k≤n.toNat) (fun k:Nat=> [(6, .one ((aB k)))]) (fun k=> [(1000, .box [.gL v .u8 b,bV ((NN c k).i:Int),bV (NN c k).h]),(11, .arr .u8 (R5 c k))]) (fun k=>n.toNat-k) 0 (fun k=>rfl) (Nat.zero_le _) rfl ?_)
 intro k hk
 have hle:=xI c k
 have hbk:(NN c k).b=b:=by rw[NO];exact hcb
 refine af (au X2 [0,1,5,6,10] rfl ?_)
 refine an rfl ?_ ?_<;>intro hb0
 ·try simp only[aX]at hb0
  refine aq (af (ay ?_))
  have t1:=(gl v (NN c k) b hbk hb)
  refine aP X2 [(18,11)] [(800015,⟨true,iA t1⟩),(700015,⟨true, .agg [.ptr 1000 1000]:: .agg []::iB t1⟩)] [0,1,5,6] [] rfl (by(repeat' with_reducible first|exact aL|refine aT ?_ ?_|apply And.intro)<;>first|exact t1|exact rfl|exact⟨rfl,aV _ (by decide)⟩|exact(gd _).1|exact(gd _).2| (simp only[dB,maxLen,lens];omega)) ?_
  refine bF X2 [0,1,5,6] rfl ?_
  refine⟨k+1,by omega,by omega,?_⟩
  rw[bK _ k rfl (by omega)]
  try rfl
 ·try simp only[aX]at hb0
  have hk2:n.toNat=k:=by omega
  exact aI (au X2 [4] rfl (ak (eJ rfl ⟨rfl,rfl,by rw[hk2],by rw[hk2],by rw[hk2],⟨⟩⟩)))
theorem AQ(l:List UInt8)(m:Int):So 87 [.a (.sl .u8 l),aB m] [aB (vN l m)]:=by
 refine jK X2 call87 func87 rfl rfl (by decide) ntmps87 (by simp) ?_
 intro zb
 refine au X2 [0,1] rfl (aH X2 [1,5] rfl (by and_intros<;>first|exact⟨⟩| (intros;omega)) (af (au X2 [1,5,12] rfl ?_)))
 refine an rfl ?_ ?_<;>intro hb0
 ·try simp only[aX]at hb0
  exact au X2 [4] rfl (ak (ah rfl ⟨by rw[vN,if_pos (by omega)],⟨⟩⟩))
 ·try simp only[aX]at hb0
  exact aq (au X2 [4] rfl (ak (ah rfl ⟨by rw[vN,if_neg (by omega)],⟨⟩⟩)))
theorem Dn(v:Value)(l:List UInt8):iz ty Tryz.prog 38 [] [.a (.gL v .u8 l)] [(907, .box [.gL v .u8 l,bV ((JU l).i:Int),bV (JU l).h])] [.a (.ptr 907 0)]:=by
 refine fH X2 call38 func38 rfl rfl (by decide) ntmps38 (by simp) rfl ?_
 intro zb
 refine au X2 [0] rfl (au X2 [0,3] rfl (af (au X2 [0,3,4] rfl ?_)))
 refine ay (aG (fun k=>k≤Ao l) (fun k:Nat=> [(3, .one ((aB (Q3 l k)))),(4, .one ((aB k)))]) (fun k=> []) (fun k=>(Ao l)-k) 0 (fun k=>rfl) (Nat.zero_le _) rfl ?_)
 intro k hk
 have hck:Ao l≤4000:=by unfold Ao;omega
 refine af (au X2 [0,3,4,15] rfl ?_)
 refine an rfl ?_ ?_<;>intro hb0
 ·have Zy:=Um hb0
  have hs:=JT (l:=l) (k:=k) (by unfold Ao at Zy;omega)
  refine aq (af (ay (l7 X2 [0,3,4] rfl (by and_intros<;>first|exact⟨⟩| (intros;omega)| (intros;simp only[nb]at*;omega)) (bF X2 [0,3,4] rfl ?_))))
  refine⟨k+1,by omega,by omega,?_⟩
  rw[bK _ k rfl (by omega),hs]
  try rfl
 ·have hke:=Q4 hk hb0
  exact aI (aD X2 [(31,907)] [] [2] [] rfl ⟨⟩ (ak (eJ rfl ⟨rfl,rfl,rfl,by rw[hke];rfl,⟨⟩⟩)))
theorem uj(r:Int)(h:1≤r∧r≤64):So 282 [aB r] [.agg (dS (⟨r,[]⟩:gH))]:=by
 refine jK X2 call282 func282 rfl rfl (by decide) ntmps282 (by simp) ?_
 intro zb
 refine au X2 [0,2] rfl (af (aD X2 [] [(4,⟨false,[aF (inr r 1 64)]⟩)] [0,2,5] [] rfl (by(with_reducible and_intros)<;>first|exact⟨⟩|exact(aJ r 1 64)) ?_))
 refine an rfl ?_ ?_<;>intro hb0
 ·try simp only[aX]at hb0
  omega
 ·try simp only[aX]at hb0
  exact aq (aH X2 [2] rfl (by trivial) (ak (ah rfl ⟨rfl,rfl,⟨⟩⟩)))
theorem vO(i f k s:Int)(h1:0≤i∧i≤7)(h2:0≤f∧f≤7)(h3:i≠f)(h4:1≤k∧k≤2147483646):So 284 [aB i,aB f,aB k,aB s] [.agg (bR (⟨i,f,k,s,[],0,[],0⟩:cX))]:=by
 refine jK X2 call284 func284 rfl rfl (by decide) ntmps284 (by simp) ?_
 intro zb
 refine au X2 [0,1,2,3,8] rfl (af (aD X2 [] [(12,⟨false,[aF (inr i 0 7&&inr f 0 7&& !(i==f)&&ez k)]⟩)] [0,1,2,3,8,13] [] rfl (by(with_reducible and_intros)<;>first|exact⟨⟩|exact(tK i f k)) ?_))
 refine an rfl ?_ ?_<;>intro hb0
 ·try simp only[aX]at hb0
  have hq:ez k=true:=by unfold ez;rw[bT];exact h4
  rw[hq]at hb0
  simp at hb0
  omega
 ·exact aq (aH X2 [8] rfl (by trivial) (ak (ah rfl ⟨rfl,rfl,rfl,rfl,rfl,rfl,rfl,rfl,⟨⟩⟩)))
theorem w9(rows s p seed:Int)(hr:1≤rows∧rows≤64)(hs:2≤s∧s≤4)(hp:1≤p∧p≤4):So 221 [aB rows,aB s,aB p,aB seed] [.agg (aZ (Q5 rows s.toNat p.toNat seed))]:=by
 refine jK X2 call221 func221 rfl rfl (by decide) ntmps221 (by simp) ?_
 intro zb
 refine au X2 [0,1,2,3,8] rfl (af (aD X2 [] [(14,⟨false,[aF (inr rows 1 64)]⟩),(18,⟨false,[aF (cg s)]⟩),(23,⟨false,[aF (inr p 1 4)]⟩)] [0,1,2,3,8,25] [] rfl (by(with_reducible and_intros);(iterate 3 all_goals try first|exact⟨⟩|exact(aJ rows 1 64)|exact fun _=>(eG s)|exact fun _=>(aJ p 1 4))) ?_))
 refine an rfl ?_ ?_<;>intro hb0
 ·try simp only[aX]at hb0
  simp[cg,inr]at hb0
  omega
 ·refine aq (af ?_)
  have t1:=(j6 1 (kh seed [197]))
  refine aP X2 [(29,63)] [(29,⟨true,[.agg (dS (⟨rows,[]⟩:gH))]⟩),(32,⟨false,[aB (kh seed [197])]⟩),(33,⟨false,bQ t1⟩)] [0,1,2,3,8,9] [] rfl (by(repeat' with_reducible first|exact aL|refine aT ?_ ?_|apply And.intro);(iterate 3 all_goals try first|exact(uj rows (by first|assumption|omega| (simp;done)| (simp;omega)))|exact(aW seed [197] (by first|assumption|omega| (simp;done)| (simp;omega)))|exact t1);all_goals first|exact⟨rfl,aV _ (by decide)⟩) ?_
  rw[xz (cP _ _).1]
  refine jN 9 1 61 .bl rfl (jN 9 2 62 .aS rfl (af (au X2 [0,1,2,3,8,9,10] rfl ?_)))
  refine ay (aG (fun k=>k≤s.toNat) (fun k:Nat=> [(10, .one ((aB k)))]) (fun k=> [(61, .arr .bl (w8 rows k))]) (fun k=>s.toNat-k) 0 (fun k=>rfl) (Nat.zero_le _) rfl ?_)
  intro k hk
  have hle:=Dj rows k
  refine af (au X2 [0,1,2,3,8,9,10,38] rfl ?_)
  refine an rfl ?_ ?_<;>intro bz
  ·try simp only[aX]at bz
   have J6:=Fh (id:=(k:Int)) (rows:=rows) (by omega) hr
   refine aq (af (ay (bU X2 [(47,61)] [(45,⟨true,[.agg (cx (newS (k:Int) rows 0))]⟩),(500046,⟨true,[]⟩)] [0,1,2,3,8,9,10] [] 6 MO (by kernel_rfl) rfl (by(repeat' with_reducible first|exact aL|refine aT ?_ ?_|apply And.intro)<;>first|exact(mG (k:Int) rows 0)|exact rfl|exact⟨rfl,aV _ (by decide)⟩| (simp only[dB,maxLen,lens];omega)) ?_)))
   rw[J6]
   refine bF X2 [0,1,2,3,8,9,10] rfl ?_
   refine⟨k+1,by omega,by omega,?_⟩
   rw[bK _ k rfl (by omega),NP]
   try rfl
  ·try simp only[aX]at bz
   have hks:s.toNat=k:=by omega
   refine aI (af (au X2 [2,3,8,9,11] rfl ?_))
   refine ay (aG (fun k1=>k1≤(2*p.toNat)) (fun k1:Nat=> [(11, .one ((aB k1)))]) (fun k1=> [(62, .arr .aS (nV seed k1))]) (fun k1=>(2*p.toNat)-k1) 0 (fun k1=>rfl) (Nat.zero_le _) rfl ?_)
   intro k1 hk1
   have Tj:=Dk seed k1
   have Xd:IntKind.i64.wrap (2*p)=2*p:=bp (by omega)
   refine af (au X2 [2,3,8,9,11,52] rfl ?_)
   refine an rfl ?_ ?_<;>intro bW
   ·try simp only[aX]at bW
    rw[Xd]at bW
    have hkr:=qb (cP seed [199,(k1:Int).tdiv 2])
    have hx:(IntKind.i64.wrap (BitVec.ofInt IntKind.i64.bits (k1:Int)^^^BitVec.ofInt IntKind.i64.bits 1).toNat)=((k1^^^1:Nat):Int):=Es k1 (by omega)
    have hxl:=rJ k1 8 (by omega) (by decide)
    have X4:=Im k1
    have Gn:=xz (cP seed [199,(k1:Int).tdiv 2]).1
    have hw2:IntKind.i64.wrap ((k1:Int).tdiv 2)=(k1:Int).tdiv 2:=by rw[oM (by omega)];exact bp (by omega)
    refine aq (af (ay (af ?_)))
    have t1:=(aW seed [199,IntKind.i64.wrap ((k1:Int).tdiv 2)] (by first|assumption|omega| (simp;done)| (simp;omega)))
    have t2:=(j6 1 (kh seed [199,IntKind.i64.wrap ((k1:Int).tdiv 2)]))
    refine aP X2 [] [(59,⟨false,bQ t1⟩),(60,⟨false,bQ t2⟩)] [2,3,8,9,11,12] [] rfl (by(repeat' with_reducible first|exact aL|refine aT ?_ ?_|apply And.intro);(iterate 2 all_goals try first|exact t1|exact t2);all_goals first| (intros;omega)|exact⟨rfl,aV _ (by decide)⟩) ?_
    rw[hw2,Gn]
    have t1:=(vO (k1:Int) (IntKind.i64.wrap (BitVec.ofInt IntKind.i64.bits (k1:Int)^^^BitVec.ofInt IntKind.i64.bits 1).toNat) (Aw (kh seed [199,(k1:Int).tdiv 2])) (kh seed [211,(k1:Int)]) (by omega) (by rw[hx];omega) (by rw[hx];omega) (by omega))
    refine cJ X2 [(74,62)] [(70,⟨false,[aB (kh seed [211,(k1:Int)])]⟩),(71,⟨false,bQ t1⟩),(72,⟨true,[.agg (cq (⟨(⟨(k1:Int),(IntKind.i64.wrap (BitVec.ofInt IntKind.i64.bits (k1:Int)^^^BitVec.ofInt IntKind.i64.bits 1).toNat),(Aw (kh seed [199,(k1:Int).tdiv 2])),(kh seed [211,(k1:Int)]),[],0,[],0⟩:cX),(⟨(k1:Int),(IntKind.i64.wrap (BitVec.ofInt IntKind.i64.bits (k1:Int)^^^BitVec.ofInt IntKind.i64.bits 1).toNat),(Aw (kh seed [199,(k1:Int).tdiv 2])),(kh seed [211,(k1:Int)]),[],0,[],0⟩:cX)⟩:aS))]⟩)] [2,3,8,9,11] [] 20479 2 MO (by kernel_rfl) rfl (by kernel_rfl) (by(repeat' with_reducible first|exact aL|refine aT ?_ ?_|apply And.intro);(iterate 3 all_goals try first|exact(aW seed [211,(k1:Int)] (by first|assumption|omega| (simp;done)| (simp;omega)))|exact t1|exact(iH (⟨(k1:Int),(IntKind.i64.wrap (BitVec.ofInt IntKind.i64.bits (k1:Int)^^^BitVec.ofInt IntKind.i64.bits 1).toNat),(Aw (kh seed [199,(k1:Int).tdiv 2])),(kh seed [211,(k1:Int)]),[],0,[],0⟩:cX) ⟨Nat.zero_le _,Nat.zero_le _⟩));all_goals first|exact rfl|exact⟨rfl,aV _ (by decide)⟩| (simp only[dB,maxLen,lens];omega)) ?_
    rw[hx]
    refine bF X2 [2,3,8,9,11] rfl ?_
    refine⟨k1+1,by omega,by omega,?_⟩
    rw[bK _ k1 rfl (by omega),NQ]
    try rfl
   ·try simp only[aX]at bW
    rw[Xd]at bW
    have Ou:2*p.toNat=k1:=by omega
    exact aI (aH X2 [8] rfl (by trivial) (ak (ah rfl ⟨rfl,by rw[hks];rfl,by rw[←Ou];rfl,rfl,rfl,rfl,rfl,rfl,rfl,rfl,⟨⟩⟩)))
theorem AR(v:Value)(c:fJ)(b:List UInt8)(hcb:c.b=b)(hb:b.length≤1048576):iz ty Tryz.prog 157 [(1000, .box [.gL v .u8 b,bV (c.i:Int),bV c.h])] [.a (.ptr 1000 0)] [(1000, .box [.gL v .u8 b,bV ((Ap c).1.i:Int),bV (Ap c).1.h]),(61, .arr .bl (Ap c).2.aj),(62, .arr .aS (Ap c).2.aa),(64, .arr .aC (Ap c).2.az.rounds),(68, .arr .int (Ap c).2.replaced)] [.agg [bV (Ap c).2.rows, .own 61, .own 62,bV (Ap c).2.az.rows, .own 64,bV (Ap c).2.bh,bV (Ap c).2.seed,bV (Ap c).2.round, .own 68,bV (Ap c).2.cancelled]]:=by
 refine fH X2 call157 func157 rfl rfl (by decide) ntmps157 (by simp) rfl ?_
 intro zb
 have q1:=iK (bu c 2) (n:=2) (by decide)
 have q2:=iK (bu (bu c 2) 2) (n:=2) (by decide)
 have q0:=Ir (c:=c)
 have bz:(bu c 2).b=b:=by rw[cV];exact hcb
 have bW:(bu (bu c 2) 2).b=b:=by rw[cV];exact bz
 have nW:(bu (bu (bu c 2) 2) 2).b=b:=by rw[cV];exact bW
 have RP:(NU c).b=b:=by rw[R6];exact hcb
 have hnw:Q5 (Q9.getD (c9 c (Q9.length:Int)).toNat (aA .int)) (IntKind.i64.wrap (2+c9 (bu c 2) 2)).toNat (IntKind.i64.wrap (1+c9 (bu (bu c 2) 2) 2)).toNat (c9 (bu (bu (bu c 2) 2) 2) 999)=Ws c:=by rw[bp (a:=2+c9 (bu c 2) 2) (by omega),bp (a:=1+c9 (bu (bu c 2) 2) 2) (by omega)];rfl
 refine au X2 [0,2] rfl (af ?_)
 have t1:=(Dm v c Q9 b hcb hb (by decide))
 have t2:=(bO v (bu c 2) 2 b bz hb)
 have t3:=(bO v (bu (bu c 2) 2) 2 b bW hb)
 have t4:=(bO v (bu (bu (bu c 2) 2) 2) 999 b nW hb)
 have t5:=(w9 (Q9.getD (c9 c (Q9.length:Int)).toNat (aA .int)) (IntKind.i64.wrap (2+c9 (bu c 2) 2)) (IntKind.i64.wrap (1+c9 (bu (bu c 2) 2) 2)) (c9 (bu (bu (bu c 2) 2) 2) 999) (by have:c9 c (Q9.length:Int)=c9 c 2:=rfl;rw[this];omega) (by rw[bp (by omega)];omega) (by rw[bp (by omega)];omega))
 refine aP X2 [(16,60)] [(800007,⟨true,iA t1⟩),(700007,⟨true, .agg [.ptr 1000 1000]:: .agg []::iB t1⟩),(800009,⟨true,iA t2⟩),(700009,⟨true, .agg [.ptr 1000 1000]:: .agg []::iB t2⟩),(800012,⟨true,iA t3⟩),(700012,⟨true, .agg [.ptr 1000 1000]:: .agg []::iB t3⟩),(800015,⟨true,iA t4⟩),(700015,⟨true, .agg [.ptr 1000 1000]:: .agg []::iB t4⟩),(16,⟨true,bQ t5⟩)] [0,2,3] [] rfl (by(repeat' with_reducible first|exact aL|refine aT ?_ ?_|apply And.intro);(iterate 5 all_goals try first|exact t1|exact t2|exact t3|exact t4|exact t5);all_goals first|exact rfl|exact⟨rfl,aV _ (by decide)⟩) ?_
 rw[hnw]
 refine af (af ?_)
 have t1:=(bO v (NU c) 5 b RP hb)
 refine aP X2 [] [(800018,⟨true,iA t1⟩),(700018,⟨true, .agg [.ptr 1000 1000]:: .agg []::iB t1⟩)] [0,2,3,4] [] rfl (by(with_reducible and_intros)<;>first|exact⟨⟩|exact t1|exact rfl) ?_
 rw[show c9 (NU c) 5=((n32 c:Nat):Int)-((0:Nat):Int)from by have:=NM (NU c) 5;unfold n32;omega]
 refine ay (aG (fun k=>k≤(n32 c)) (fun k:Nat=> [(4, .one ((aB (((n32 c:Nat):Int)-(k:Int)))))]) (fun k=> [(1000, .box [.gL v .u8 b,bV ((dR nu (nZ c) k).1.i:Int),bV (dR nu (nZ c) k).1.h]),(3, .box [bV (dR nu (nZ c) k).2.rows, .own 61, .own 62,bV (dR nu (nZ c) k).2.az.rows, .own 64,bV (dR nu (nZ c) k).2.bh,bV (dR nu (nZ c) k).2.seed,bV (dR nu (nZ c) k).2.round, .own 68,bV (dR nu (nZ c) k).2.cancelled]),(61, .arr .bl (dR nu (nZ c) k).2.aj),(62, .arr .aS (dR nu (nZ c) k).2.aa),(64, .arr .aC (dR nu (nZ c) k).2.az.rounds),(68, .arr .int (dR nu (nZ c) k).2.replaced)]) (fun k=>(n32 c)-k) 0 (fun k=>rfl) (Nat.zero_le _) rfl ?_)
 intro k hk
 have hn5:n32 c<5:=by have:=iK (NU c) (n:=5) (by decide);unfold n32;omega
 have hd:pN (dR nu (nZ c) k).2 0:=by(have: ∀j,pN (dR nu (nZ c) j).2 0:=fun j=>by(induction j with|zero=>exact(R8 c).1|succ j ih=>exact NY ih));exact this k
 have Rb:=hd.B (by decide)
 have Oy:(dR nu (nZ c) k).1.b=b:=by rw[Iq NX];show(bu (NU c) 5).b=_;rw[cV];exact RP
 skip
 refine af (au X2 [0,2,3,4,20] rfl ?_)
 refine an rfl ?_ ?_<;>intro hb0
 ·try simp only[aX]at hb0
  have hsb:IntKind.i64.wrap (((n32 c:Nat):Int)-(k:Int)-1)=((n32 c:Nat):Int)-((k+1:Nat):Int):=by rw[bp (by omega)];omega
  refine aq (af (ay ?_))
  have t1:=(bO v ((dR nu (nZ c) k).1) ((dR nu (nZ c) k).2.aa.length:Int) b Oy hb)
  have t2:=(bO v (bu (dR nu (nZ c) k).1 ((dR nu (nZ c) k).2.aa.length:Int)) 4 b (by rw[cV];exact Oy) hb)
  have t3:=(pO v (bu (bu (dR nu (nZ c) k).1 ((dR nu (nZ c) k).2.aa.length:Int)) 4) (c9 (bu (dR nu (nZ c) k).1 ((dR nu (nZ c) k).2.aa.length:Int)) 4) b (by rw[cV,cV];exact Oy) hb (by have:=iK (bu (dR nu (nZ c) k).1 ((dR nu (nZ c) k).2.aa.length:Int)) (n:=4) (by decide);omega))
  have t4:=(dw ((dR nu (nZ c) k).2) (c9 (dR nu (nZ c) k).1 ((dR nu (nZ c) k).2.aa.length:Int)) (R5 (bu (bu (dR nu (nZ c) k).1 ((dR nu (nZ c) k).2.aa.length:Int)) 4) (c9 (bu (dR nu (nZ c) k).1 ((dR nu (nZ c) k).2.aa.length:Int)) 4).toNat) Rb (by rw[xI];have:=iK (bu (dR nu (nZ c) k).1 ((dR nu (nZ c) k).2.aa.length:Int)) (n:=4) (by decide);omega))
  refine cJ X2 [(34,150)] [(800029,⟨true,iA t1⟩),(700029,⟨true, .agg [.ptr 1000 1000]:: .agg []::iB t1⟩),(800032,⟨true,iA t2⟩),(700032,⟨true, .agg [.ptr 1000 1000]:: .agg []::iB t2⟩),(800033,⟨true,iA t3⟩),(700033,⟨true, .agg [.ptr 1000 1000]:: .agg [.ptr 11 170]::iB t3⟩),(34,⟨true,bQ t4⟩)] [0,2,3,4] [] 15583 47 MO (by kernel_rfl) rfl (by kernel_rfl) (by(with_reducible and_intros);(iterate 4 all_goals try first|exact⟨⟩|exact t1|exact t2|exact t3|exact t4);all_goals first|exact rfl) (cL 151 61 rfl (cL 152 62 rfl (cL 154 64 rfl (cL 158 68 rfl (bF X2 [0,2,3,4] rfl ?_)))))
  refine⟨k+1,by omega,by omega,?_⟩
  rw[hsb]
  try rfl
 ·try simp only[aX]at hb0
  have hkn:k=n32 c:=by omega
  exact aI (aH X2 [2] rfl (by trivial) (ak (eJ rfl (by and_intros<;>first|exact⟨⟩|rfl| (rw[hkn];rfl;done)))))
set_option maxHeartbeats 1000000 in
theorem Aq(v:Value)(c:fJ)(s:Int)(b:List UInt8)(hcb:c.b=b)(hb:b.length≤1048576)(hs0:1≤s∧s≤1000):iz ty Tryz.prog 86 [(1000, .box [.gL v .u8 b,bV (c.i:Int),bV c.h])] [.a (.ptr 1000 0),aB s] [(1000, .box [.gL v .u8 b,bV ((JX c s).1.i:Int),bV (JX c s).1.h]),(61, .arr .bl (JX c s).2.aj),(62, .arr .aS (JX c s).2.aa),(64, .arr .aC (JX c s).2.az.rounds),(68, .arr .int (JX c s).2.replaced)] [.agg [bV (JX c s).2.rows, .own 61, .own 62,bV (JX c s).2.az.rows, .own 64,bV (JX c s).2.bh,bV (JX c s).2.seed,bV (JX c s).2.round, .own 68,bV (JX c s).2.cancelled]]:=by
 refine fH X2 call86 func86 rfl rfl (by decide) ntmps86 (by simp) rfl ?_
 intro zb
 refine au X2 [0,1,4] rfl (af ?_)
 have t1:=(AR v c b hcb hb)
 refine aP X2 [] [(800008,⟨true,iA t1⟩),(700008,⟨true, .agg [.ptr 1000 1000]:: .agg [.ptr 61 61, .ptr 62 62, .ptr 64 64, .ptr 68 68]::iB t1⟩)] [0,1,4,5] [] rfl (by(with_reducible and_intros)<;>first|exact⟨⟩|exact t1|exact rfl) (af (af ?_))
 have t1:=(bO v ((Ap c).1) s b (by rw[R7];exact hcb) hb)
 refine aP X2 [] [(800011,⟨true,iA t1⟩),(700011,⟨true, .agg [.ptr 1000 1000]:: .agg []::iB t1⟩)] [0,4,5,6] [] rfl (by(with_reducible and_intros)<;>first|exact⟨⟩|exact t1|exact rfl) ?_
 rw[show c9 (Ap c).1 s=((NV c s:Nat):Int)-((0:Nat):Int)from by have:=NM (Ap c).1 s;unfold NV;omega]
 refine ay (aG (fun k=>k≤(NV c s)) (fun k:Nat=> [(6, .one ((aB (((NV c s:Nat):Int)-(k:Int)))))]) (fun k=> [(1000, .box [.gL v .u8 b,bV ((dR gJ (hY c s) k).1.i:Int),bV (dR gJ (hY c s) k).1.h]),(5, .box [bV (dR gJ (hY c s) k).2.rows, .own 61, .own 62,bV (dR gJ (hY c s) k).2.az.rows, .own 64,bV (dR gJ (hY c s) k).2.bh,bV (dR gJ (hY c s) k).2.seed,bV (dR gJ (hY c s) k).2.round, .own 68,bV (dR gJ (hY c s) k).2.cancelled]),(61, .arr .bl (dR gJ (hY c s) k).2.aj),(62, .arr .aS (dR gJ (hY c s) k).2.aa),(64, .arr .aC (dR gJ (hY c s) k).2.az.rounds),(68, .arr .int (dR gJ (hY c s) k).2.replaced)]) (fun k=>(NV c s)-k) 0 (fun k=>rfl) (Nat.zero_le _) rfl ?_)
 intro k hk
 have J6:=R9 c (s:=s) (by omega)
 have hd:=NZ c s k (by omega)
 have Rb:=hd.B (by omega)
 have hwr:=hd.R (by omega)
 have Zz:(dR gJ (hY c s) k).1.b=b:=by rw[Iq Wt];show(bu (Ap c).1 s).b=_;rw[cV,R7];exact hcb
 have Oy:(bu (dR gJ (hY c s) k).1 8).b=b:=by rw[cV];exact Zz
 refine af (au X2 [0,4,5,6,13] rfl ?_)
 refine an rfl ?_ ?_<;>intro hb0
 ·try simp only[aX]at hb0
  have hsb:IntKind.i64.wrap (((NV c s:Nat):Int)-(k:Int)-1)=((NV c s:Nat):Int)-((k+1:Nat):Int):=by rw[bp (by omega)];omega
  have hs:dR gJ (hY c s) (k+1)=NT (c9 (dR gJ (hY c s) k).1 8) ((bu (dR gJ (hY c s) k).1 8),(dR gJ (hY c s) k).2):=rfl
  unfold NT at hs
  refine aq (af (ay (af ?_)))
  have t1:=(bO v ((dR gJ (hY c s) k).1) 8 b Zz hb)
  refine aP X2 [] [(800017,⟨true,iA t1⟩),(700017,⟨true, .agg [.ptr 1000 1000]:: .agg []::iB t1⟩)] [0,4,5,6,17] [] rfl (by(with_reducible and_intros)<;>first|exact⟨⟩|exact t1|exact rfl) (ay (au X2 [0,4,5,6,17,20] rfl ?_))
  refine an rfl ?_ ?_<;>intro bz
  ·try simp only[aX]at bz
   rw[if_pos bz]at hs
   have t1:=(bO v (bu (dR gJ (hY c s) k).1 8) ((dR gJ (hY c s) k).2.aa.length:Int) b Oy hb)
   have t2:=(bO v (bu (bu (dR gJ (hY c s) k).1 8) ((dR gJ (hY c s) k).2.aa.length:Int)) 4 b (by rw[cV];exact Oy) hb)
   have t3:=(pO v (bu (bu (bu (dR gJ (hY c s) k).1 8) ((dR gJ (hY c s) k).2.aa.length:Int)) 4) (c9 (bu (bu (dR gJ (hY c s) k).1 8) ((dR gJ (hY c s) k).2.aa.length:Int)) 4) b (by rw[cV,cV];exact Oy) hb (by have:=iK (bu (bu (dR gJ (hY c s) k).1 8) ((dR gJ (hY c s) k).2.aa.length:Int)) (n:=4) (by decide);omega))
   have t4:=(dw ((dR gJ (hY c s) k).2) (c9 (bu (dR gJ (hY c s) k).1 8) ((dR gJ (hY c s) k).2.aa.length:Int)) (R5 (bu (bu (bu (dR gJ (hY c s) k).1 8) ((dR gJ (hY c s) k).2.aa.length:Int)) 4) (c9 (bu (bu (dR gJ (hY c s) k).1 8) ((dR gJ (hY c s) k).2.aa.length:Int)) 4).toNat) Rb (by rw[xI];have:=iK (bu (bu (dR gJ (hY c s) k).1 8) ((dR gJ (hY c s) k).2.aa.length:Int)) (n:=4) (by decide);omega))
   refine cJ X2 [(33,150)] [(800028,⟨true,iA t1⟩),(700028,⟨true, .agg [.ptr 1000 1000]:: .agg []::iB t1⟩),(800031,⟨true,iA t2⟩),(700031,⟨true, .agg [.ptr 1000 1000]:: .agg []::iB t2⟩),(800032,⟨true,iA t3⟩),(700032,⟨true, .agg [.ptr 1000 1000]:: .agg [.ptr 11 170]::iB t3⟩),(33,⟨true,bQ t4⟩)] [0,4,5,6] [] 15583 47 MO (by kernel_rfl) rfl (by kernel_rfl) (by(with_reducible and_intros);(iterate 4 all_goals try first|exact⟨⟩|exact t1|exact t2|exact t3|exact t4);all_goals first|exact rfl) (cL 151 61 rfl (cL 152 62 rfl (cL 154 64 rfl (cL 158 68 rfl (bF X2 [0,4,5,6] rfl ?_)))))
   refine⟨k+1,by omega,by omega,?_⟩
   rw[hs,hsb]
   try rfl
  ·try simp only[aX]at bz
   rw[if_neg bz]at hs
   refine au X2 [0,4,5,6,17,36] rfl ?_
   refine an rfl ?_ ?_<;>intro bW
   ·try simp only[aX]at bW
    rw[if_pos bW]at hs
    have t1:=(bO v (bu (dR gJ (hY c s) k).1 8) ((dR gJ (hY c s) k).2.aa.length:Int) b Oy hb)
    have t2:=(so ((dR gJ (hY c s) k).2) (c9 (bu (dR gJ (hY c s) k).1 8) ((dR gJ (hY c s) k).2.aa.length:Int)) Rb)
    refine cJ X2 [(45,150)] [(800044,⟨true,iA t1⟩),(700044,⟨true, .agg [.ptr 1000 1000]:: .agg []::iB t1⟩),(45,⟨true,bQ t2⟩)] [0,4,5,6] [] 991 3 MO (by kernel_rfl) rfl (by kernel_rfl) (by(with_reducible and_intros);(iterate 2 all_goals try first|exact⟨⟩|exact t1|exact t2);all_goals first|exact rfl) (cL 151 61 rfl (cL 152 62 rfl (cL 154 64 rfl (cL 158 68 rfl (bF X2 [0,4,5,6] rfl ?_)))))
    refine⟨k+1,by omega,by omega,?_⟩
    rw[hs,hsb]
    try rfl
   ·try simp only[aX]at bW
    rw[if_neg bW]at hs
    refine au X2 [0,4,5,6,48] rfl ?_
    refine an rfl ?_ ?_<;>intro nW
    ·try simp only[aX]at nW
     rw[if_pos nW]at hs
     have t1:=(bO v (bu (dR gJ (hY c s) k).1 8) ((dR gJ (hY c s) k).2.aj.length:Int) b Oy hb)
     have t2:=(bO v (bu (bu (dR gJ (hY c s) k).1 8) ((dR gJ (hY c s) k).2.aj.length:Int)) 4 b (by rw[cV];exact Oy) hb)
     have t3:=(pM ((dR gJ (hY c s) k).2) (c9 (bu (dR gJ (hY c s) k).1 8) ((dR gJ (hY c s) k).2.aj.length:Int)) (c9 (bu (bu (dR gJ (hY c s) k).1 8) ((dR gJ (hY c s) k).2.aj.length:Int)) 4) Rb)
     refine cJ X2 [(59,150)] [(800056,⟨true,iA t1⟩),(700056,⟨true, .agg [.ptr 1000 1000]:: .agg []::iB t1⟩),(800058,⟨true,iA t2⟩),(700058,⟨true, .agg [.ptr 1000 1000]:: .agg []::iB t2⟩),(59,⟨true,bQ t3⟩)] [0,4,5,6] [] 3935 11 MO (by kernel_rfl) rfl (by kernel_rfl) (by(with_reducible and_intros);(iterate 3 all_goals try first|exact⟨⟩|exact t1|exact t2|exact t3);all_goals first|exact rfl) (cL 151 61 rfl (cL 152 62 rfl (cL 154 64 rfl (cL 158 68 rfl (bF X2 [0,4,5,6] rfl ?_)))))
     refine⟨k+1,by omega,by omega,?_⟩
     rw[hs,hsb]
     try rfl
    ·try simp only[aX]at nW
     rw[if_neg nW]at hs
     have um:jH (dR gJ (hY c s) k).2=true:=by(have:=hd.round;simp only[jH,hd.ok,Bool.true_and,Bool.not_eq_true',decide_eq_false_iff_not];omega)
     replace hs:=hs.trans (congrArg (Prod.mk (bu (dR gJ (hY c s) k).1 8)) (Ai um))
     have t1:=(nJ ((dR gJ (hY c s) k).2) hwr hd.ok)
     refine aP X2 [(19,150)] [(19,⟨true,bQ t1⟩)] [0,4,5,6] [] rfl (by(with_reducible and_intros)<;>first|exact⟨⟩|exact t1) (cL 151 61 rfl (cL 152 62 rfl (cL 154 64 rfl (cL 158 68 rfl (bF X2 [0,4,5,6] rfl ?_)))))
     refine⟨k+1,by omega,by omega,?_⟩
     rw[hs,hsb]
     try rfl
 ·try simp only[aX]at hb0
  have hkn:k=NV c s:=by omega
  exact aI (aH X2 [4] rfl (by trivial) (ak (eJ rfl (by and_intros<;>first|exact⟨⟩|rfl| (rw[hkn];rfl;done)))))
theorem iL(l:List UInt8)(hl:l.length≤1048576):So 27 [.a (.sl .u8 l)] [.agg (aZ (Xg l))]:=by
 refine jK X2 call27 func27 rfl rfl (by decide) ntmps27 (by simp) ?_
 intro zb
 refine Ut 0 (fun v=>rfl) (fun v=> ?_)
 have hz:=NW l hl (m:=12) (by decide)
 have hsz:IntKind.i64.wrap (3+vN l 12)=3+vN l 12:=bp (by omega)
 refine au X2 [0,2] rfl (af ?_)
 have t1:=(Dn v l)
 refine aP X2 [] [(800005,⟨true,iA t1⟩),(700005,⟨true, .agg []:: .agg [.ptr 907 907]::iB t1⟩)] [0,2,3] [] rfl (by(with_reducible and_intros)<;>first|exact⟨⟩|exact t1|exact rfl) (af ?_)
 have t1:=(Aq v (JU l) (IntKind.i64.wrap (3+vN l 12)) l rfl hl (by rw[hsz];omega))
 exact aP X2 [] [(8,⟨false,[aB (vN l 12)]⟩),(800010,⟨true,iA t1⟩),(700010,⟨true, .agg [.ptr 1000 907]:: .agg [.ptr 61 61, .ptr 62 62, .ptr 64 64, .ptr 68 68]::iB t1⟩)] [2] [] rfl (by(with_reducible and_intros);(iterate 2 all_goals try first|exact⟨⟩|exact(AQ l 12)|exact t1);all_goals first|exact rfl) (ak (ah rfl (by and_intros<;>first|exact⟨⟩| (rw[hsz];rfl;done))))
end
end Go.Proofs.YtcnomgcfijjkmaaGreat.G
