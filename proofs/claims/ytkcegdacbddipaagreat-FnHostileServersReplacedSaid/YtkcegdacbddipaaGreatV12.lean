/-
  What servers publish, and who is guilty.
-/
import Derived.Lib.AppendZeros
import Derived.Test.YtkcegdacbddipaaGreatV10
namespace Go.Proofs.YtkcegdacbddipaaGreat.G
set_option linter.all false
open Go.RowKit L D Tryz
section
set_option maxRecDepth 100000
theorem Rp{w w':World}{t:Tag}{g n:Nat}{c:Array Value}(hg:g=w.heap.size)(hb:Below w.heap.size w w')(hc:w'.heap[g]? =some (.cells c (ty t) (0,0)))(hs:c.size=n*kk t)(hn:n≤maxLen):
  ZO ty w [.a (.sl t [])] (.returned (.slice (some ⟨g,0,none⟩) 0 n)) w':=by
 have hown:Own w.heap.size w' (g::([]:List (List Nat)).flatten):=⟨by simp,fun b Eu=>by simp at Eu;omega,fun b Eu=>by simp at Eu;subst Eu;exact⟨_,_,hc⟩⟩
 have hB:=iU (cX t) (l:=([]:List (T t))) (bn:= []) (o:=0) (n:=n) hc (by omega) (Nat.zero_le _) hn ⟨rfl,by simp⟩ hown
 exact⟨_,_,rfl,hb,hown,_,[],hB,rfl,by simp⟩
theorem Vc{w:World}{t:Tag}:ZO ty w [.a (.sl t [])] (.returned F7) w:=by
 refine⟨_,[],rfl,Below.refl _ _,Own.nil _ _,[],[],⟨[],[],?_,rfl,by simp,rfl,Own.nil _ _⟩,rfl,rfl⟩
 exact⟨by simp,Or.inl ⟨rfl,rfl⟩⟩
theorem Rq(w:World)(n:Nat)(h1:n≤1099511627776):Calls Tryz.prog 188 #[F7, .int .i64 n] w (ZO ty w [.a (.sl .int [])]):=by
 have qM:El Tryz.prog ty .int:=aP _ (by decide)
 cases hq:Tryz.prog.info? (ty .int)with
 |none=>simp[El,hq]at qM
 |some inf=>
  simp[El,hq]at qM
  obtain⟨z1,z2,z3⟩:=qM
  by_cases h0:n=0
  ·subst h0
   go_enter func188,ntmps188
   go_wp2
   go_ret
   exact Vc
  ·have hsz:inf.size=1:=z2
   have hby:inf.bytes≤8:=by rw[z3];decide
   have hmul:n*inf.bytes≤8796093022208:=Nat.le_trans (Nat.mul_le_mul (show n≤1099511627776 from h1) hby) (by decide)
   have hrun:=Lib.run_append_nil_zeros (P:=Tryz.prog) w 29 3 29 (ty .int) inf (eF .int) .i64 .i64 (X.kind 29).1 (X.kind 3) hq z1 n (by omega) (by omega) (by omega) (by omega)
   have hge:=grownCap_ge w n 0 (ty .int)
   have Pm:=grownCap_le_maxLen w n 0 (ty .int) (by unfold maxLen;omega)
   generalize grownCap w n 0 (ty .int)=g at hrun hge Pm
   go_enter func188,ntmps188
   go_wp2_with (at_builtin;refine Lib.wpList_append_run _ rfl _ _ _ _ rfl _ _ rfl rfl _ _ hrun ?_)
   go_ret
   refine Rp (t:= .int) rfl ((Below.refl _ _).drew.alloc (Nat.le_refl _) _) (oL rfl) ?_ Pm
   rw[Array.size_append,size_zeroCells,size_zeroCells, ←Nat.add_mul,show n+(g-n)=g by omega]
   rfl
theorem qZ(n:Nat)(h1:n≤1099511627776):So 188 [.a (.lit F7), .a (.lit (.int .i64 n))] [.a (.sl .int [])]:=by
 refine⟨fun args w=>call188 args w,fun w us _ ha=> ?_⟩
 match us,ha with
 | [u1,u2],⟨⟨_,e1⟩,⟨_,e2⟩,_⟩=>
   obtain⟨e1,_⟩:=e1
   obtain⟨e2,_⟩:=e2
   rw[e1,e2]
   exact Rq w n h1
end
section
set_option maxRecDepth 100000
theorem aL(x lo hi:Int):So 40 [aA x,aA lo,aA hi] [aG (inr x lo hi)]:=by
 refine aq X call40 func40 ntmps40 rfl rfl ?_
 intro zb
 exact av X [0,1,2] rfl (av X [6] rfl (ak (ah rfl ⟨rfl,⟨⟩⟩)))
theorem aW(x lo hi:Int):So 21 [aA x,aA lo,aA hi] [aG (inr x lo hi)]:=by
 refine aq X call21 func21 ntmps21 rfl rfl ?_
 intro zb
 exact av X [0,1,2] rfl (av X [6] rfl (ak (ah rfl ⟨rfl,⟨⟩⟩)))
theorem K7(p q:Int)(h1:1≤q)(h2:q≤1000000000000):So 187 [aA p,aA q] [aA (p % q)]:=by
 refine aq X call187 func187 ntmps187 rfl rfl ?_
 intro zb
 refine av X [0,1] rfl (af (aC X [] [(6,⟨false,[aG _]⟩)] [0,1,7] [] rfl (by(with_reducible and_intros)<;>first|exact⟨⟩|exact(aL _ _ _)) ?_))
 refine an rfl ?_ ?_<;>intro hb0
 ·try simp only[aR]at hb0
  omega
 ·try simp only[aR]at hb0
  exact au (aD X [4] rfl (by and_intros<;>first|exact⟨⟩| (intros;omega)) (ak (ah rfl ⟨by rw[md_eq p q h1 h2],⟨⟩⟩)))
theorem sr(l:List Int)(hl:l.length≤16777216):So 126 [.a (.sl .int l)] [aA (hsh l)]:=by
 refine aq X call126 func126 ntmps126 rfl rfl ?_
 intro zb
 refine av X [0] rfl (av X [0,3] rfl (af (av X [3,6,7,8] rfl ?_)))
 refine ay (aE (fun k=>k≤l.length) (fun k:Nat=> [(3, .one ((aA (hsh (l.take k))))),(8, .one ((aA k)))]) (fun k=> []) (fun k=>l.length-k) 0 (fun k=>rfl) (Nat.zero_le _) rfl ?_)
 intro k hk
 refine av X [3,6,7,8,9] rfl ?_
 refine af (an rfl ?_ ?_)<;>intro hb0
 ·try simp only[aR]at hb0
  have hs:=IQ l k hb0
  refine au (af (ay (aD X [3,5,6,7,8] rfl (by and_intros<;>first|exact⟨⟩| (intros;omega)) (aN X [] [(15,⟨false,[aA _]⟩)] [3,6,7,8] [] rfl (by(with_reducible and_intros)<;>first|exact⟨⟩|exact(K7 _ _ (by first|assumption|omega| (simp;done)| (simp;omega)) (by first|assumption|omega| (simp;done)| (simp;omega)))| (intros;omega)) (bu X [3,6,7,8] rfl ?_)))))
  refine⟨k+1,by omega,by omega,?_⟩
  rw[bC _ k rfl (by omega),hs]
  try rfl
 ·try simp only[aR]at hb0
  exact aH (av X [2] rfl (ak (ah rfl ⟨by rw[List.take_of_length_le hb0],⟨⟩⟩)))
theorem C0(p q:Int)(h1:1≤q)(h2:q≤1000000000000):So 92 [aA p,aA q] [aA (p % q)]:=by
 refine aq X call92 func92 ntmps92 rfl rfl ?_
 intro zb
 refine av X [0,1] rfl (af (aC X [] [(6,⟨false,[aG _]⟩)] [0,1,7] [] rfl (by(with_reducible and_intros)<;>first|exact⟨⟩|exact(aW _ _ _)) ?_))
 refine an rfl ?_ ?_<;>intro hb0
 ·try simp only[aR]at hb0
  omega
 ·try simp only[aR]at hb0
  exact au (aD X [4] rfl (by and_intros<;>first|exact⟨⟩| (intros;omega)) (ak (ah rfl ⟨by rw[md_eq p q h1 h2],⟨⟩⟩)))
theorem su(l:List Int)(hl:l.length≤16777216):So 44 [.a (.sl .int l)] [aA (hsh l)]:=by
 refine aq X call44 func44 ntmps44 rfl rfl ?_
 intro zb
 refine av X [0] rfl (av X [0,3] rfl (af (av X [0,3,4] rfl ?_)))
 refine ay (aE (fun k=>k≤l.length) (fun k:Nat=> [(3, .one ((aA (hsh (l.take k))))),(4, .one ((aA k)))]) (fun k=> []) (fun k=>l.length-k) 0 (fun k=>rfl) (Nat.zero_le _) rfl ?_)
 intro k hk
 refine af (av X [0,3,4,8] rfl ?_)
 refine an rfl ?_ ?_<;>intro hb0
 ·try simp only[aR]at hb0
  have hs:=IQ l k hb0
  refine au (af (ay (aN X [] [(17,⟨false,[aA _]⟩)] [0,3,4] [] rfl (by(with_reducible and_intros)<;>first|exact⟨⟩|exact(C0 _ _ (by first|assumption|omega| (simp;done)| (simp;omega)) (by first|assumption|omega| (simp;done)| (simp;omega)))| (intros;omega)) (bu X [0,3,4] rfl ?_))))
  refine⟨k+1,by omega,by omega,?_⟩
  rw[bC _ k rfl (by omega),hs]
  try rfl
 ·try simp only[aR]at hb0
  exact aH (av X [2] rfl (ak (ah rfl ⟨by rw[List.take_of_length_le hb0],⟨⟩⟩)))
theorem iX(l:List (List Int))(hl:l.length≤1048576)(hs0:(l.map List.length).sum≤1099511627776):So 127 [.a (.sl (.sl .int) l)] [.a (.sl .int l.flatten)]:=by
 refine aq X call127 func127 ntmps127 rfl rfl ?_
 intro zb
 refine av X [0] rfl (av X [0,3] rfl (af (av X [0,3,9,10,11] rfl ?_)))
 refine ay (aE (fun k=>k≤l.length) (fun k:Nat=> [(3, .one ((aA ((l.take k).map List.length).sum))),(11, .one ((aA k)))]) (fun k=> []) (fun k=>l.length-k) 0 (fun k=>rfl) (Nat.zero_le _) rfl ?_)
 intro k hk
 have hle:=kY l List.length k
 refine av X [0,3,9,10,11,12] rfl ?_
 refine af (an rfl ?_ ?_)<;>intro hb0
 ·try simp only[aR]at hb0
  have hs:=IT l (aB (.sl .int)) k hb0
  have Yc:=kY l List.length (k+1)
  rw[hs]at Yc
  refine au (af (ay (aD X [0,3,5,9,10,11] rfl (by and_intros<;>first|exact⟨⟩| (intros;omega)) (aD X [0,3,9,10,11] rfl (by trivial) (av X [0,3,9,10,11,20] rfl ?_)))))
  refine an rfl ?_ ?_<;>intro bf
  ·try simp only[aR]at bf
   rw[bh (by omega)]at bf
   omega
  ·try simp only[aR]at bf
   refine au (bu X [0,3,9,10,11] rfl ?_)
   refine⟨k+1,by omega,by omega,?_⟩
   rw[bC _ k rfl (by omega),hs]
   rw[bh (by simp only[Int.toNat_natCast];omega)]
   try rfl
 ·try simp only[aR]at hb0
  rw[List.take_of_length_le hb0]
  refine aH (aC X [] [(24,⟨true,[.a (.sl .int [])]⟩),(300024,⟨true,[]⟩)] [0,6] [] rfl (by(with_reducible and_intros)<;>first|exact⟨⟩|exact(qZ _ hs0)) (af (av X [6,25,26,27] rfl ?_)))
  refine ay (aE (fun k1=>k1≤l.length) (fun k1:Nat=> [(27, .one ((aA k1)))]) (fun k1=> [(24, .arr .int (l.take k1).flatten)]) (fun k1=>l.length-k1) 0 (fun k1=>rfl) (Nat.zero_le _) rfl ?_)
  intro k1 hk1
  have Vd:=AO l k1
  refine av X [6,25,26,27,28] rfl ?_
  refine af (an rfl ?_ ?_)<;>intro bU
  ·try simp only[aR]at bU
   have hs1:=GJ l (aB (.sl .int)) k1 bU
   have Yc:=AO l (k1+1)
   rw[hs1,List.length_append]at Yc
   refine au (af (ay (aD X [6,8,25,26,27] rfl (by and_intros<;>first|exact⟨⟩| (intros;omega)) (aN X [(33,24)] [] [6,25,26,27] [] rfl (by and_intros<;>first|exact⟨⟩|exact rfl| (simp only[cK,maxLen,lens];omega)) (bu X [6,25,26,27] rfl ?_)))))
   refine⟨k1+1,by omega,by omega,?_⟩
   rw[bC _ k1 rfl (by omega),hs1]
   try rfl
  ·try simp only[aR]at bU
   exact aH (av X [2] rfl (ak (ah rfl ⟨by rw[List.take_of_length_le bU],⟨⟩⟩)))
theorem bG(k:Int)(l:List Int)(hl:l.length≤1048576):So 77 [aA k, .a (.sl .int l)] [aA (kh k l)]:=by
 refine aq X call77 func77 ntmps77 rfl rfl ?_
 intro zb
 refine av X [0,1] rfl (aC X [] [(11,⟨true,[.a (.sl .int [[k],l,[k]].flatten)]⟩),(12,⟨false,[aA (hsh [[k],l,[k]].flatten)]⟩)] [4] [] rfl (by(repeat' with_reducible first|exact aK|refine aQ ?_ ?_|apply And.intro);(iterate 2 all_goals try first|exact(iX _ (by simp) (by simp;omega))|exact(sr _ (by simp;omega)));all_goals first|exact rfl|exact⟨rfl,aP _ (by decide)⟩) ?_)
 exact ak (ah rfl ⟨rfl,⟨⟩⟩)
theorem bp(k:Int)(l:List Int)(hl:l.length≤1048576):So 25 [aA k, .a (.sl .int l)] [aA (kh k l)]:=by
 refine aq X call25 func25 ntmps25 rfl rfl ?_
 intro zb
 refine av X [0,1] rfl (aC X [(8,6),(11,6)] [(12,⟨false,[aA (hsh ([k]++l++ [k]))]⟩)] [4] [] rfl (by(repeat' with_reducible first|exact aK|refine aQ ?_ ?_|apply And.intro)<;>first|exact(su _ (by simp;omega))|exact rfl|exact⟨rfl,aP _ (by decide)⟩| (simp only[cK,maxLen,lens];omega)) ?_)
 exact ak (ah rfl ⟨rfl,⟨⟩⟩)
theorem qi(n:Int):So 161 [aA n] [aA (AM n)]:=by
 refine aq X call161 func161 ntmps161 rfl rfl ?_
 intro zb
 refine av X [0] rfl (af (av X [0,4] rfl ?_))
 refine an rfl ?_ ?_<;>intro hb0
 ·try simp only[aR]at hb0
  exact av X [2] rfl (ak (ah rfl ⟨by rw[AM,if_pos hb0],⟨⟩⟩))
 ·try simp only[aR]at hb0
  exact au (av X [2] rfl (ak (ah rfl ⟨by rw[AM,if_neg (by simpa using hb0)],⟨⟩⟩)))
theorem mQ(a b:Int):So 24 [aA a,aA b] [aA (if b>a then b else a)]:=by
 refine aq X call24 func24 ntmps24 rfl rfl ?_
 intro zb
 refine av X [0,1] rfl (af (av X [0,1,7] rfl ?_))
 refine an rfl ?_ ?_<;>intro hb0
 ·try simp only[aR]at hb0
  exact av X [4] rfl (ak (ah rfl ⟨by rw[if_pos (by omega)],⟨⟩⟩))
 ·try simp only[aR]at hb0
  exact au (av X [4] rfl (ak (ah rfl ⟨by rw[if_neg (by omega)],⟨⟩⟩)))
theorem kr(s k:Int):So 122 [aA s,aA k] [aA (cs s k)]:=by
 refine aq X call122 func122 ntmps122 rfl rfl ?_
 intro zb
 refine av X [0,1] rfl (aC X [] [(9,⟨false,[aA _]⟩)] [5] [] rfl (by(repeat' with_reducible first|exact aK|refine aQ ?_ ?_|apply And.intro)<;>first|exact(bG _ _ (by first|assumption|omega| (simp;done)| (simp;omega)))|exact⟨rfl,aP _ (by decide)⟩) ?_)
 exact aD X [4] rfl (by and_intros<;>first|exact⟨⟩| (intros;omega)) (ak (ah rfl ⟨by rw[cs_eq (c8 _ _).1 (c8 _ _).2];rfl,⟨⟩⟩))
theorem iN(s n:Int)(h0:0≤n)(h1:n≤400):So 125 [aA s,aA n] [.a (.sl .u8 (stream s n.toNat))]:=by
 refine aq X call125 func125 ntmps125 rfl rfl ?_
 intro zb
 refine av X [0,1] rfl (af (aC X [] [(8,⟨false,[aG _]⟩)] [0,1,9] [] rfl (by(with_reducible and_intros)<;>first|exact⟨⟩|exact(aL _ _ _)) ?_))
 refine an rfl ?_ ?_<;>intro hb0
 ·try simp only[aR]at hb0
  omega
 ·try simp only[aR]at hb0
  refine au (aD X [0,1,5] rfl (by and_intros<;>first|exact⟨⟩|exact rfl) (af (av X [0,5,11,12] rfl ?_)))
  refine ay (aE (fun k=>k≤n.toNat) (fun k:Nat=> [(12, .one ((aA k)))]) (fun k=> [(10, .arr .u8 (stream s k))]) (fun k=>n.toNat-k) 0 (fun k=>rfl) (Nat.zero_le _) rfl ?_)
  intro k hk
  have hle:=dI s k
  refine av X [0,5,11,12,13] rfl ?_
  refine af (an rfl ?_ ?_)<;>intro bf
  ·try simp only[aR]at bf
   have hs:=AN s k (by omega)
   refine au (af (ay (av X [0,5,6,11,12] rfl (aN X [(23,10)] [(19,⟨false,[aA _]⟩)] [0,5,11,12] [] rfl (by(repeat' with_reducible first|exact aK|refine aQ ?_ ?_|apply And.intro)<;>first|exact(kr _ _)| (intros;omega)|exact rfl|exact⟨rfl,aP _ (by decide)⟩|exact(eP _).1|exact(eP _).2| (simp only[cK,maxLen,lens];omega)) ?_))))
   refine bu X [0,5,11,12] rfl ?_
   refine⟨k+1,by omega,by omega,?_⟩
   rw[bC _ k rfl (by omega),hs]
   try rfl
  ·try simp only[aR]at bf
   exact aH (av X [4] rfl (ak (ah rfl ⟨by rw[show k=n.toNat by omega],⟨⟩⟩)))
theorem mR(l:List UInt8)(hl:l.length≤1048576):So 253 [.a (.sl .u8 l)] [.a (.sl .int (Ek l))]:=by
 refine aq X call253 func253 ntmps253 rfl rfl ?_
 intro zb
 refine av X [0] rfl (aD X [0,3] rfl (by and_intros<;>first|exact⟨⟩|exact rfl) (af (av X [3,9,10,11] rfl ?_)))
 refine ay (aE (fun k=>k≤l.length) (fun k:Nat=> [(11, .one ((aA k)))]) (fun k=> [(8, .arr .int ((l.length:Int)::(l.take k).map (fun c=>(c.toNat:Int))))]) (fun k=>l.length-k) 0 (fun k=>rfl) (Nat.zero_le _) rfl ?_)
 intro k hk
 refine av X [3,9,10,11,12] rfl ?_
 refine af (an rfl ?_ ?_)<;>intro hb0
 ·try simp only[aR]at hb0
  have hs:=IS l k hb0
  refine au (af (ay (aD X [3,5,9,10,11] rfl (by and_intros<;>first|exact⟨⟩| (intros;omega)) (aN X [(19,8)] [] [3,9,10,11] [] rfl (by and_intros<;>first|exact⟨⟩|exact rfl| (simp only[cK,maxLen,lens];omega)) (bu X [3,9,10,11] rfl ?_)))))
  refine⟨k+1,by omega,by omega,?_⟩
  rw[bC _ k rfl (by omega),hs]
  try rfl
 ·try simp only[aR]at hb0
  exact aH (av X [2] rfl (ak (ah rfl ⟨by rw[List.take_of_length_le hb0];rfl,⟨⟩⟩)))
theorem ku(s k:Int):So 242 [aA s,aA k] [aA (cs s k)]:=by
 refine aq X call242 func242 ntmps242 rfl rfl ?_
 intro zb
 refine av X [0,1] rfl (aC X [] [(9,⟨false,[aA _]⟩)] [5] [] rfl (by(repeat' with_reducible first|exact aK|refine aQ ?_ ?_|apply And.intro)<;>first|exact(bp _ _ (by first|assumption|omega| (simp;done)| (simp;omega)))|exact⟨rfl,aP _ (by decide)⟩) ?_)
 exact aD X [4] rfl (by and_intros<;>first|exact⟨⟩| (intros;omega)) (ak (ah rfl ⟨by rw[cs_eq (c8 _ _).1 (c8 _ _).2];rfl,⟨⟩⟩))
theorem iO(s n:Int)(h0:0≤n)(h1:n≤400):So 239 [aA s,aA n] [.a (.sl .u8 (stream s n.toNat))]:=by
 refine aq X call239 func239 ntmps239 rfl rfl ?_
 intro zb
 refine av X [0,1] rfl (aD X [0,1,5] rfl (by and_intros<;>first|exact⟨⟩|exact rfl) (af (av X [0,1,5,6] rfl ?_)))
 refine ay (aE (fun k=>k≤n.toNat) (fun k:Nat=> [(6, .one ((aA k)))]) (fun k=> [(7, .arr .u8 (stream s k))]) (fun k=>n.toNat-k) 0 (fun k=>rfl) (Nat.zero_le _) rfl ?_)
 intro k hk
 have hle:=dI s k
 refine af (av X [0,1,5,6,14] rfl ?_)
 refine an rfl ?_ ?_<;>intro hb0
 ·try simp only[aR]at hb0
  have hs:=AN s k (by omega)
  refine au (af (ay (aN X [(25,7)] [(21,⟨false,[aA _]⟩)] [0,1,5,6] [] rfl (by(repeat' with_reducible first|exact aK|refine aQ ?_ ?_|apply And.intro)<;>first|exact(ku _ _)| (intros;omega)|exact rfl|exact⟨rfl,aP _ (by decide)⟩|exact(eP _).1|exact(eP _).2| (simp only[cK,maxLen,lens];omega)) ?_)))
  refine bu X [0,1,5,6] rfl ?_
  refine⟨k+1,by omega,by omega,?_⟩
  rw[bC _ k rfl (by omega),hs]
  try rfl
 ·try simp only[aR]at hb0
  exact aH (av X [4] rfl (ak (ah rfl ⟨by rw[show k=n.toNat by omega],⟨⟩⟩)))
theorem mS(l:List UInt8)(hl:l.length≤1048576):So 248 [.a (.sl .u8 l)] [.a (.sl .int (Ek l))]:=by
 refine aq X call248 func248 ntmps248 rfl rfl ?_
 intro zb
 refine av X [0] rfl (aD X [0,3] rfl (by and_intros<;>first|exact⟨⟩|exact rfl) (af (av X [0,3,4] rfl ?_)))
 refine ay (aE (fun k=>k≤l.length) (fun k:Nat=> [(4, .one ((aA k)))]) (fun k=> [(7, .arr .int ((l.length:Int)::(l.take k).map (fun c=>(c.toNat:Int))))]) (fun k=>l.length-k) 0 (fun k=>rfl) (Nat.zero_le _) rfl ?_)
 intro k hk
 refine af (av X [0,3,4,11] rfl ?_)
 refine an rfl ?_ ?_<;>intro hb0
 ·try simp only[aR]at hb0
  have hs:=IS l k hb0
  refine au (af (ay (aN X [(21,7)] [] [0,3,4] [] rfl (by and_intros<;>first|exact⟨⟩| (intros;omega)|exact rfl| (simp only[cK,maxLen,lens];omega)) (bu X [0,3,4] rfl ?_))))
  refine⟨k+1,by omega,by omega,?_⟩
  rw[bC _ k rfl (by omega),hs]
  try rfl
 ·try simp only[aR]at hb0
  exact aH (av X [2] rfl (ak (ah rfl ⟨by rw[List.take_of_length_le hb0];rfl,⟨⟩⟩)))
end
section
set_option maxRecDepth 100000
theorem fU(l:List Int)(hl:l.length≤4194304):So 88 [.a (.sl .int l)] [.a (.sl .int l)]:=by
 refine aq X call88 func88 ntmps88 rfl rfl ?_
 intro zb
 refine av X [0] rfl (af (af (IW X [] [] [0,4] rfl (by trivial) (fun hn1=> ?_) ?_)))
 ·refine an rfl (fun _=> ?_) (fun hb=>absurd hb (by decide))
  exact av X [2] rfl (ak (ah rfl ⟨hn1,⟨⟩⟩))
 ·exact an rfl (fun hb=>absurd hb (by decide)) (fun _=>(au (aC X [(7,5)] [] [2] [] rfl (by and_intros<;>first|exact⟨⟩|exact rfl| (simp only[cK,maxLen,lens];omega)) (ak (ah rfl ⟨rfl,⟨⟩⟩)))))
theorem cj(l:List UInt8)(hl:l.length≤1048576):So 231 [.a (.sl .u8 l)] [.a (.sl .u8 l)]:=by
 refine aq X call231 func231 ntmps231 rfl rfl ?_
 intro zb
 refine av X [0] rfl (af (af (IW X [] [] [0,4] rfl (by trivial) (fun hn1=> ?_) ?_)))
 ·refine an rfl (fun _=> ?_) (fun hb=>absurd hb (by decide))
  exact av X [2] rfl (ak (ah rfl ⟨hn1,⟨⟩⟩))
 ·exact an rfl (fun hb=>absurd hb (by decide)) (fun _=>(au (aC X [(7,5)] [] [2] [] rfl (by and_intros<;>first|exact⟨⟩|exact rfl| (simp only[cK,maxLen,lens];omega)) (ak (ah rfl ⟨rfl,⟨⟩⟩)))))
theorem iF(a b:List UInt8)(ha:a.length≤1048576)(hb:b.length≤1048576):So 220 [.a (.sl .u8 a), .a (.sl .u8 b)] [.a (.sl .u8 (cH a b))]:=by
 refine aq X call220 func220 ntmps220 rfl rfl ?_
 intro zb
 refine av X [0,1] rfl (af (av X [0,1,12] rfl ?_))
 refine an rfl ?_ ?_<;>intro hb0
 ·try simp only[aR]at hb0
  rw[Fe a b]
  have Ru:a.length≤b.length:=by omega
  obtain⟨p,hp⟩: ∃p,p=b:=⟨_,rfl⟩
  obtain⟨q,hq⟩: ∃q,q=a:=⟨_,rfl⟩
  subst hp;subst hq
  refine bu X [0,1] rfl (aC X [] [(16,⟨true,[.a (.sl .u8 _)]⟩)] [1,5] [] rfl (by(with_reducible and_intros)<;>first|exact⟨⟩|exact(cj _ (by first|assumption|omega| (simp;done)| (simp;omega)))) (af (av X [5,17,18,19] rfl ?_)))
  refine ay (aE (fun k=>k≤q.length) (fun k:Nat=> [(19, .one ((aA k)))]) (fun k=> [(16, .arr .u8 ((cH p q).take k++p.drop k))]) (fun k=>q.length-k) 0 (fun k=>rfl) (Nat.zero_le _) rfl ?_)
  intro k hk
  have hle:=jt (cH p q) p k (by rw[ck];omega) (by omega)
  refine av X [5,17,18,19,20] rfl ?_
  refine af (an rfl ?_ ?_)<;>intro bf
  ·try simp only[aR]at bf
   have hs:=IX p q k bf Ru
   refine au (af (ay (aD X [5,6,7,17,18,19] rfl (by and_intros<;>first|exact⟨⟩| (intros;omega)) (iV X [5,17,18,19] rfl (by and_intros<;>first|exact⟨⟩| (intros;omega)|exact(eP _).1|exact(eP _).2) (bu X [5,17,18,19] rfl ?_)))))
   refine⟨k+1,by omega,by omega,?_⟩
   rw[bC _ k rfl (by omega),hs]
   try rfl
  ·try simp only[aR]at bf
   exact aH (av X [4] rfl (ak (ah rfl ⟨by rw[IY p q k bf Ru hk],⟨⟩⟩)))
 ·try simp only[aR]at hb0
  have Ru:b.length≤a.length:=by omega
  obtain⟨p,hp⟩: ∃p,p=a:=⟨_,rfl⟩
  obtain⟨q,hq⟩: ∃q,q=b:=⟨_,rfl⟩
  subst hp;subst hq
  refine au (aC X [] [(16,⟨true,[.a (.sl .u8 _)]⟩)] [1,5] [] rfl (by(with_reducible and_intros)<;>first|exact⟨⟩|exact(cj _ (by first|assumption|omega| (simp;done)| (simp;omega)))) (af (av X [5,17,18,19] rfl ?_)))
  refine ay (aE (fun k=>k≤q.length) (fun k:Nat=> [(19, .one ((aA k)))]) (fun k=> [(16, .arr .u8 ((cH p q).take k++p.drop k))]) (fun k=>q.length-k) 0 (fun k=>rfl) (Nat.zero_le _) rfl ?_)
  intro k hk
  have hle:=jt (cH p q) p k (by rw[ck];omega) (by omega)
  refine av X [5,17,18,19,20] rfl ?_
  refine af (an rfl ?_ ?_)<;>intro bf
  ·try simp only[aR]at bf
   have hs:=IX p q k bf Ru
   refine au (af (ay (aD X [5,6,7,17,18,19] rfl (by and_intros<;>first|exact⟨⟩| (intros;omega)) (iV X [5,17,18,19] rfl (by and_intros<;>first|exact⟨⟩| (intros;omega)|exact(eP _).1|exact(eP _).2) (bu X [5,17,18,19] rfl ?_)))))
   refine⟨k+1,by omega,by omega,?_⟩
   rw[bC _ k rfl (by omega),hs]
   try rfl
  ·try simp only[aR]at bf
   exact aH (av X [4] rfl (ak (ah rfl ⟨by rw[IY p q k bf Ru hk],⟨⟩⟩)))
theorem iG(a b:List UInt8)(ha:a.length≤1048576)(hb:b.length≤1048576):So 241 [.a (.sl .u8 a), .a (.sl .u8 b)] [.a (.sl .u8 (cH a b))]:=by
 refine aq X call241 func241 ntmps241 rfl rfl ?_
 intro zb
 refine av X [0,1] rfl (aD X [0,1,5] rfl (by and_intros<;>first|exact⟨⟩|exact rfl) (af (av X [0,1,5,6] rfl ?_)))
 refine ay (aE (fun k=>k≤max a.length b.length) (fun k:Nat=> [(6, .one ((aA k)))]) (fun k=> [(8, .arr .u8 ((cH a b).take k))]) (fun k=>max a.length b.length-k) 0 (fun k=>rfl) (Nat.zero_le _) rfl ?_)
 intro k hk
 have hle:=bl (cH a b) k
 refine af (av X [0,1,5,6,18] rfl ?_)
 refine an rfl ?_ ?_<;>intro hb0
 ·try simp only[aR]at hb0
  refine au (af (ay (av X [0,1,5,6,7] rfl (af (av X [0,1,5,6,7,24] rfl ?_)))))
  refine an rfl ?_ ?_<;>intro bf
  ·try simp only[aR]at bf
   refine iV X [0,1,5,6,7] rfl (by and_intros<;>first|exact⟨⟩| (intros;omega)) (af (av X [0,1,5,6,7,32] rfl ?_))
   refine an rfl ?_ ?_<;>intro bU
   ·try simp only[aR]at bU
    have hs:=Yd a b k bf bU
    refine iV X [0,1,5,6,7] rfl (by and_intros<;>first|exact⟨⟩| (intros;omega)) (aN X [(42,8)] [] [0,1,5,6] [] rfl (by and_intros<;>first|exact⟨⟩|exact rfl|exact(eP _).1|exact(eP _).2| (simp only[cK,maxLen,lens];omega)) (bu X [0,1,5,6] rfl ?_))
    refine⟨k+1,by omega,by omega,?_⟩
    rw[bC _ k rfl (by omega),hs]
    try rfl
   ·try simp only[aR]at bU
    have hs:=aaB a b k bf bU
    refine au (aN X [(42,8)] [] [0,1,5,6] [] rfl (by and_intros<;>first|exact⟨⟩| (intros;omega)|exact rfl|exact(jY _).2| (simp only[cK,maxLen,lens];omega)) (bu X [0,1,5,6] rfl ?_))
    refine⟨k+1,by omega,by omega,?_⟩
    rw[bC _ k rfl (by omega),hs]
    try rfl
  ·try simp only[aR]at bf
   refine au (af (av X [0,1,5,6,7,32] rfl ?_))
   refine an rfl ?_ ?_<;>intro bU
   ·try simp only[aR]at bU
    have hs:=aaC a b k bf bU
    refine iV X [0,1,5,6,7] rfl (by and_intros<;>first|exact⟨⟩| (intros;omega)) (aN X [(42,8)] [] [0,1,5,6] [] rfl (by and_intros<;>first|exact⟨⟩|exact rfl|exact(eP _).1|exact(eP _).2| (simp only[cK,maxLen,lens];omega)) (bu X [0,1,5,6] rfl ?_))
    refine⟨k+1,by omega,by omega,?_⟩
    rw[bC _ k rfl (by omega),hs]
    try rfl
   ·try simp only[aR]at bU
    omega
 ·try simp only[aR]at hb0
  exact aH (av X [4] rfl (ak (ah rfl ⟨by rw[List.take_of_length_le (by rw[ck];omega)],⟨⟩⟩)))
theorem kA(l:List (List UInt8))(hs0:cQ List.length l≤1048576):So 212 [.a (.sl (.sl .u8) l)] [.a (.sl (.sl .u8) l)]:=by
 refine aq X call212 func212 ntmps212 rfl rfl ?_
 intro zb
 have jV:l.length≤1048576:=dc hs0
 refine av X [0] rfl (aD X [0,3] rfl (by and_intros<;>first|exact⟨⟩|exact rfl) (af (av X [3,7,8,9] rfl ?_)))
 refine ay (aE (fun k=>k≤l.length) (fun k:Nat=> [(9, .one ((aA k)))]) (fun k=> [(6, .arr (.sl .u8) (l.take k))]) (fun k=>l.length-k) 0 (fun k=>rfl) (Nat.zero_le _) rfl ?_)
 intro k hk
 have hle:=bl l k
 refine av X [3,7,8,9,10] rfl ?_
 refine af (an rfl ?_ ?_)<;>intro hb0
 ·try simp only[aR]at hb0
  have hs:=bq l k (aB (.sl .u8)) hb0
  have hel:=Rt hs0 k hb0
  refine au (af (ay (aD X [3,5,7,8,9] rfl (by and_intros<;>first|exact⟨⟩| (intros;omega)) (aN X [(17,6)] [(15,⟨true,[.a (.sl .u8 _)]⟩)] [3,7,8,9] [] rfl (by(with_reducible and_intros)<;>first|exact⟨⟩|exact(cj _ (by first|assumption|omega| (simp;done)| (simp;omega)))|exact rfl| (simp only[cK,maxLen,lens];omega)) (bu X [3,7,8,9] rfl ?_)))))
  refine⟨k+1,by omega,by omega,?_⟩
  rw[bC _ k rfl (by omega),hs]
  try rfl
 ·try simp only[aR]at hb0
  exact aH (av X [2] rfl (ak (ah rfl ⟨by rw[List.take_of_length_le hb0],⟨⟩⟩)))
theorem oB(l:List (List UInt8))(hs0:cQ List.length l≤1048576):So 93 [.a (.sl (.sl .u8) l)] [.a (.sl (.sl .u8) l)]:=by
 refine aq X call93 func93 ntmps93 rfl rfl ?_
 intro zb
 have jV:l.length≤1048576:=dc hs0
 refine av X [0] rfl (aD X [0,3] rfl (by and_intros<;>first|exact⟨⟩|exact rfl) (af (av X [0,3,4] rfl ?_)))
 refine ay (aE (fun k=>k≤l.length) (fun k:Nat=> [(4, .one ((aA k)))]) (fun k=> [(5, .arr (.sl .u8) (l.take k))]) (fun k=>l.length-k) 0 (fun k=>rfl) (Nat.zero_le _) rfl ?_)
 intro k hk
 have hle:=bl l k
 refine af (av X [0,3,4,9] rfl ?_)
 refine an rfl ?_ ?_<;>intro hb0
 ·try simp only[aR]at hb0
  have hs:=bq l k (aB (.sl .u8)) hb0
  have hel:=Rt hs0 k hb0
  refine au (af (ay (aN X [(18,13),(20,5)] [] [0,3,4] [] rfl (by and_intros<;>first|exact⟨⟩| (intros;omega)|exact rfl| (simp only[cK,maxLen,lens];omega)) (bu X [0,3,4] rfl ?_))))
  refine⟨k+1,by omega,by omega,?_⟩
  rw[bC _ k rfl (by omega),hs]
  try rfl
 ·try simp only[aR]at hb0
  exact aH (av X [2] rfl (ak (ah rfl ⟨by rw[List.take_of_length_le hb0],⟨⟩⟩)))
theorem C3(s:Int)(l:List UInt8)(hl:l.length≤1048576):So 184 [aA s, .a (.sl .u8 l)] [.a (.sl .u8 (gG s l))]:=by
 refine aq X call184 func184 ntmps184 rfl rfl ?_
 intro zb
 refine av X [0,1] rfl (aC X [] [(8,⟨true,[.a (.sl .u8 _)]⟩)] [0,5] [] rfl (by(with_reducible and_intros)<;>first|exact⟨⟩|exact(cj _ (by first|assumption|omega| (simp;done)| (simp;omega)))) (af (av X [0,5,10,11] rfl ?_)))
 refine ay (aE (fun k=>k≤l.length) (fun k:Nat=> [(11, .one ((aA k)))]) (fun k=> [(8, .arr .u8 ((gG s l).take k++l.drop k))]) (fun k=>l.length-k) 0 (fun k=>rfl) (Nat.zero_le _) rfl ?_)
 intro k hk
 have hle:=jt (gG s l) l k (dF s l) hk
 refine av X [0,5,10,11,12] rfl ?_
 refine af (an rfl ?_ ?_)<;>intro hb0
 ·try simp only[aR]at hb0
  have hs:=OB s l k hb0
  refine au (af (ay (av X [0,5,6,10,11] rfl (aF X [] [(21,⟨false,[aA _]⟩)] [0,5,10,11] [] 4095 0 MO (by kernel_rfl) rfl (by kernel_rfl) (by(repeat' with_reducible first|exact aK|refine aQ ?_ ?_|apply And.intro)<;>first|exact(bG _ _ (by first|assumption|omega| (simp;done)| (simp;omega)))| (intros;omega)|exact⟨rfl,aP _ (by decide)⟩|exact(eP _).1|exact(eP _).2) ?_))))
  refine bu X [0,5,10,11] rfl ?_
  refine⟨k+1,by omega,by omega,?_⟩
  rw[bC _ k rfl (by omega),hs]
  try rfl
 ·try simp only[aR]at hb0
  exact aH (av X [4] rfl (ak (ah rfl ⟨by rw[mg _ _ _ (dF s l) hb0],⟨⟩⟩)))
theorem C4(s:Int)(l:List UInt8)(hl:l.length≤1048576):So 256 [aA s, .a (.sl .u8 l)] [.a (.sl .u8 (decr s l))]:=by
 refine aq X call256 func256 ntmps256 rfl rfl ?_
 intro zb
 refine av X [0,1] rfl (aC X [] [(8,⟨true,[.a (.sl .u8 _)]⟩)] [0,5] [] rfl (by(with_reducible and_intros)<;>first|exact⟨⟩|exact(cj _ (by first|assumption|omega| (simp;done)| (simp;omega)))) (af (av X [0,5,10,11] rfl ?_)))
 refine ay (aE (fun k=>k≤l.length) (fun k:Nat=> [(11, .one ((aA k)))]) (fun k=> [(8, .arr .u8 ((decr s l).take k++l.drop k))]) (fun k=>l.length-k) 0 (fun k=>rfl) (Nat.zero_le _) rfl ?_)
 intro k hk
 have hle:=jt (decr s l) l k (lq s l) hk
 refine av X [0,5,10,11,12] rfl ?_
 refine af (an rfl ?_ ?_)<;>intro hb0
 ·try simp only[aR]at hb0
  have hs:=OD s l k hb0
  refine au (af (ay (av X [0,5,6,10,11] rfl (aF X [] [(21,⟨false,[aA _]⟩)] [0,5,10,11] [] 4095 0 MO (by kernel_rfl) rfl (by kernel_rfl) (by(repeat' with_reducible first|exact aK|refine aQ ?_ ?_|apply And.intro)<;>first|exact(bG _ _ (by first|assumption|omega| (simp;done)| (simp;omega)))| (intros;omega)|exact⟨rfl,aP _ (by decide)⟩|exact(eP _).1|exact(eP _).2) ?_))))
  refine bu X [0,5,10,11] rfl ?_
  refine⟨k+1,by omega,by omega,?_⟩
  rw[bC _ k rfl (by omega),hs]
  try rfl
 ·try simp only[aR]at hb0
  exact aH (av X [4] rfl (ak (ah rfl ⟨by rw[mg _ _ _ (lq s l) hb0],⟨⟩⟩)))
theorem gx(k:Int):So 68 [aA k] [aG (eC k)]:=by
 refine aq X call68 func68 ntmps68 rfl rfl ?_
 intro zb
 exact av X [0] rfl (aC X [] [(4,⟨false,[aG _]⟩)] [2] [] rfl (by(with_reducible and_intros)<;>first|exact⟨⟩|exact(aL _ _ _)) (ak (ah rfl ⟨rfl,⟨⟩⟩)))
theorem lQ(p:Plain):So 183 [.agg (gR p)] [aG (fH p)]:=by
 refine aq X call183 func183 ntmps183 rfl rfl ?_
 intro zb
 exact av X [1] rfl (aC X [] [(5,⟨false,[aG _]⟩)] [2] [] rfl (by(with_reducible and_intros)<;>first|exact⟨⟩|exact(aL _ _ _)) (ak (ah rfl ⟨by unfold fH;cases inr p.kind 0 3<;>rfl,⟨⟩⟩)))
theorem zj(key c:Int)(l:List UInt8)(hl:l.length≤65536):So 232 [aA key,aA c, .a (.sl .u8 l)] [aA (gH key c l)]:=by
 refine aq X call232 func232 ntmps232 rfl rfl ?_
 intro zb
 refine av X [0,1,2] rfl (aD X [0,2,7] rfl (by and_intros<;>first|exact⟨⟩|exact rfl) (af (av X [0,7,12,13,14] rfl ?_)))
 refine ay (aE (fun k=>k≤l.length) (fun k:Nat=> [(14, .one ((aA k)))]) (fun k=> [(11, .arr .int ([71,c]++(l.take k).map (fun x=>(x.toNat:Int))))]) (fun k=>l.length-k) 0 (fun k=>rfl) (Nat.zero_le _) rfl ?_)
 intro k hk
 refine av X [0,7,12,13,14,15] rfl ?_
 refine af (an rfl ?_ ?_)<;>intro hb0
 ·try simp only[aR]at hb0
  have hs:=Mz l c k hb0
  refine au (af (ay (aD X [0,7,9,12,13,14] rfl (by and_intros<;>first|exact⟨⟩| (intros;omega)) (aN X [(22,11)] [] [0,7,12,13,14] [] rfl (by and_intros<;>first|exact⟨⟩|exact rfl| (simp only[cK,maxLen,lens];omega)) (bu X [0,7,12,13,14] rfl ?_)))))
  refine⟨k+1,by omega,by omega,?_⟩
  rw[bC _ k rfl (by omega),hs]
  try rfl
 ·try simp only[aR]at hb0
  exact aH (aC X [] [(26,⟨false,[aA _]⟩)] [6] [] rfl (by(with_reducible and_intros)<;>first|exact⟨⟩|exact(bG _ _ (by first|assumption|omega| (simp;done)| (simp;omega)))) (ak (ah rfl ⟨by rw[List.take_of_length_le hb0];rfl,⟨⟩⟩)))
theorem ju(key r d n:Int):So 72 [aA key,aA r,aA d,aA n] [aA (eA key r d n)]:=by
 refine aq X call72 func72 ntmps72 rfl rfl ?_
 intro zb
 refine av X [0,1,2,3] rfl (af (aC X [] [(10,⟨false,[aG _]⟩),(14,⟨false,[aG _]⟩)] [0,1,2,3,16] [] rfl (by(with_reducible and_intros)<;>first|exact⟨⟩|exact(aL _ _ _)|exact fun _=>(aL _ _ _)) ?_))
 refine an rfl ?_ ?_<;>intro hb0
 ·try simp only[aR]at hb0
  exact av X [8] rfl (ak (ah rfl ⟨by rw[eA,if_neg (by omega)],⟨⟩⟩))
 ·try simp only[aR]at hb0
  have hcs:=so (kh key [79,r,d]) 0
  refine au (aC X [] [(21,⟨false,[aA _]⟩),(22,⟨false,[aA _]⟩)] [8] [] rfl (by(repeat' with_reducible first|exact aK|refine aQ ?_ ?_|apply And.intro);(iterate 2 all_goals try first|exact(bG _ _ (by first|assumption|omega| (simp;done)| (simp;omega)))|exact(kr _ _));all_goals first| (intros;omega)|exact⟨rfl,aP _ (by decide)⟩) ?_)
  exact ak (ah rfl ⟨by rw[eA,if_pos (by omega),dn hcs.1],⟨⟩⟩)
theorem Bd(s r n:Int):So 75 [aA s,aA r,aA n] [aA (vv s r n)]:=by
 refine aq X call75 func75 ntmps75 rfl rfl ?_
 intro zb
 refine av X [0,1,2] rfl (af (aC X [] [(8,⟨false,[aG _]⟩)] [0,1,2,9] [] rfl (by(with_reducible and_intros)<;>first|exact⟨⟩|exact(aL _ _ _)) ?_))
 refine an rfl ?_ ?_<;>intro hb0
 ·try simp only[aR]at hb0
  exact av X [6] rfl (ak (ah rfl ⟨by rw[vv,if_neg (by omega)],⟨⟩⟩))
 ·try simp only[aR]at hb0
  have hcs:=so (kh s [157,r]) 0
  refine au (aC X [] [(13,⟨false,[aA _]⟩),(14,⟨false,[aA _]⟩)] [6] [] rfl (by(repeat' with_reducible first|exact aK|refine aQ ?_ ?_|apply And.intro);(iterate 2 all_goals try first|exact(bG _ _ (by first|assumption|omega| (simp;done)| (simp;omega)))|exact(kr _ _));all_goals first| (intros;omega)|exact⟨rfl,aP _ (by decide)⟩) ?_)
  exact ak (ah rfl ⟨by rw[vv,if_pos (by omega),dn hcs.1],⟨⟩⟩)
theorem zk(s:Int):So 76 [aA s] [.a (.sl .u8 (cover s))]:=by
 refine aq X call76 func76 ntmps76 rfl rfl ?_
 intro zb
 refine av X [0] rfl (aC X [] [(5,⟨false,[aA _]⟩),(6,⟨true,[.a (.sl .u8 _)]⟩)] [2] [] rfl (by(repeat' with_reducible first|exact aK|refine aQ ?_ ?_|apply And.intro);(iterate 2 all_goals try first|exact(bG _ _ (by first|assumption|omega| (simp;done)| (simp;omega)))|exact(iN _ _ (by first|assumption|omega| (simp;done)| (simp;omega)) (by first|assumption|omega| (simp;done)| (simp;omega))));all_goals first|exact⟨rfl,aP _ (by decide)⟩) ?_)
 exact ak (ah rfl ⟨rfl,⟨⟩⟩)
theorem C5(s:Int)(l:List UInt8)(hl:l.length≤1048576):So 267 [aA s, .a (.sl .u8 l)] [.a (.sl .u8 (gG s l))]:=by
 refine aq X call267 func267 ntmps267 rfl rfl ?_
 intro zb
 refine av X [0,1] rfl (aD X [0,1,5] rfl (by and_intros<;>first|exact⟨⟩|exact rfl) (af (av X [0,1,5,6] rfl ?_)))
 refine ay (aE (fun k=>k≤l.length) (fun k:Nat=> [(6, .one ((aA k)))]) (fun k=> [(7, .arr .u8 ((gG s l).take k))]) (fun k=>l.length-k) 0 (fun k=>rfl) (Nat.zero_le _) rfl ?_)
 intro k hk
 have hle:=bl (gG s l) k
 refine af (av X [0,1,5,6,11] rfl ?_)
 refine an rfl ?_ ?_<;>intro hb0
 ·try simp only[aR]at hb0
  have hs:=OC s l k hb0
  refine au (af (ay (aF X [(29,7)] [(23,⟨false,[aA _]⟩)] [0,1,5,6] [] 32767 0 MO (by kernel_rfl) rfl (by kernel_rfl) (by(repeat' with_reducible first|exact aK|refine aQ ?_ ?_|apply And.intro)<;>first|exact(bp _ _ (by first|assumption|omega| (simp;done)| (simp;omega)))| (intros;omega)|exact rfl|exact⟨rfl,aP _ (by decide)⟩|exact(eP _).1|exact(eP _).2| (simp only[cK,maxLen,lens];omega)) ?_)))
  refine bu X [0,1,5,6] rfl ?_
  refine⟨k+1,by omega,by omega,?_⟩
  rw[bC _ k rfl (by omega),hs]
  try rfl
 ·try simp only[aR]at hb0
  exact aH (av X [4] rfl (ak (ah rfl ⟨by rw[List.take_of_length_le (by rw[dF];exact hb0)],⟨⟩⟩)))
theorem C6(s:Int)(l:List UInt8)(hl:l.length≤1048576):So 262 [aA s, .a (.sl .u8 l)] [.a (.sl .u8 (decr s l))]:=by
 refine aq X call262 func262 ntmps262 rfl rfl ?_
 intro zb
 refine av X [0,1] rfl (aD X [0,1,5] rfl (by and_intros<;>first|exact⟨⟩|exact rfl) (af (av X [0,1,5,6] rfl ?_)))
 refine ay (aE (fun k=>k≤l.length) (fun k:Nat=> [(6, .one ((aA k)))]) (fun k=> [(7, .arr .u8 ((decr s l).take k))]) (fun k=>l.length-k) 0 (fun k=>rfl) (Nat.zero_le _) rfl ?_)
 intro k hk
 have hle:=bl (decr s l) k
 refine af (av X [0,1,5,6,11] rfl ?_)
 refine an rfl ?_ ?_<;>intro hb0
 ·try simp only[aR]at hb0
  have hs:=OE s l k hb0
  refine au (af (ay (aF X [(29,7)] [(23,⟨false,[aA _]⟩),(26,⟨false,[aA _]⟩)] [0,1,5,6] [] 32767 0 MO (by kernel_rfl) rfl (by kernel_rfl) (by(repeat' with_reducible first|exact aK|refine aQ ?_ ?_|apply And.intro);(iterate 2 all_goals try first|exact(bp _ _ (by first|assumption|omega| (simp;done)| (simp;omega)))|exact(C0 _ _ (by first|assumption|omega| (simp;done)| (simp;omega)) (by first|assumption|omega| (simp;done)| (simp;omega))));all_goals first| (intros;omega)|exact rfl|exact⟨rfl,aP _ (by decide)⟩|exact(eP _).1|exact(eP _).2| (simp only[cK,maxLen,lens];omega)) ?_)))
  refine bu X [0,1,5,6] rfl ?_
  refine⟨k+1,by omega,by omega,?_⟩
  rw[bC _ k rfl (by omega),hs]
  try rfl
 ·try simp only[aR]at hb0
  exact aH (av X [4] rfl (ak (ah rfl ⟨by rw[List.take_of_length_le (by rw[lq];exact hb0)],⟨⟩⟩)))
theorem gy(k:Int):So 54 [aA k] [aG (eC k)]:=by
 refine aq X call54 func54 ntmps54 rfl rfl ?_
 intro zb
 exact av X [0] rfl (aC X [] [(4,⟨false,[aG _]⟩)] [2] [] rfl (by(with_reducible and_intros)<;>first|exact⟨⟩|exact(aW _ _ _)) (ak (ah rfl ⟨rfl,⟨⟩⟩)))
theorem uy(p:Plain):So 266 [.agg (gR p)] [aG (fH p)]:=by
 refine aq X call266 func266 ntmps266 rfl rfl ?_
 intro zb
 exact av X [1] rfl (aC X [] [(5,⟨false,[aG _]⟩)] [2] [] rfl (by(with_reducible and_intros)<;>first|exact⟨⟩|exact(aW _ _ _)) (ak (ah rfl ⟨by unfold fH;cases inr p.kind 0 3<;>rfl,⟨⟩⟩)))
theorem oV(key c:Int)(l:List UInt8)(hl:l.length≤65536):So 261 [aA key,aA c, .a (.sl .u8 l)] [aA (gH key c l)]:=by
 refine aq X call261 func261 ntmps261 rfl rfl ?_
 intro zb
 refine av X [0,1,2] rfl (aD X [0,2,7] rfl (by and_intros<;>first|exact⟨⟩|exact rfl) (af (av X [0,2,7,8] rfl ?_)))
 refine ay (aE (fun k=>k≤l.length) (fun k:Nat=> [(8, .one ((aA k)))]) (fun k=> [(10, .arr .int ([71,c]++(l.take k).map (fun x=>(x.toNat:Int))))]) (fun k=>l.length-k) 0 (fun k=>rfl) (Nat.zero_le _) rfl ?_)
 intro k hk
 refine af (av X [0,2,7,8,14] rfl ?_)
 refine an rfl ?_ ?_<;>intro hb0
 ·try simp only[aR]at hb0
  have hs:=Mz l c k hb0
  refine au (af (ay (aN X [(24,10)] [] [0,2,7,8] [] rfl (by and_intros<;>first|exact⟨⟩| (intros;omega)|exact rfl| (simp only[cK,maxLen,lens];omega)) (bu X [0,2,7,8] rfl ?_))))
  refine⟨k+1,by omega,by omega,?_⟩
  rw[bC _ k rfl (by omega),hs]
  try rfl
 ·try simp only[aR]at hb0
  exact aH (aC X [] [(27,⟨false,[aA _]⟩)] [6] [] rfl (by(with_reducible and_intros)<;>first|exact⟨⟩|exact(bp _ _ (by first|assumption|omega| (simp;done)| (simp;omega)))) (ak (ah rfl ⟨by rw[List.take_of_length_le hb0];rfl,⟨⟩⟩)))
theorem jv(key r d n:Int):So 197 [aA key,aA r,aA d,aA n] [aA (eA key r d n)]:=by
 refine aq X call197 func197 ntmps197 rfl rfl ?_
 intro zb
 refine av X [0,1,2,3] rfl (af (aC X [] [(10,⟨false,[aG _]⟩),(14,⟨false,[aG _]⟩)] [0,1,2,3,16] [] rfl (by(with_reducible and_intros)<;>first|exact⟨⟩|exact(aW _ _ _)|exact fun _=>(aW _ _ _)) ?_))
 refine an rfl ?_ ?_<;>intro hb0
 ·try simp only[aR]at hb0
  exact av X [8] rfl (ak (ah rfl ⟨by rw[eA,if_neg (by omega)],⟨⟩⟩))
 ·try simp only[aR]at hb0
  have hcs:=so (kh key [79,r,d]) 0
  refine au (aC X [] [(21,⟨false,[aA _]⟩),(22,⟨false,[aA _]⟩)] [8] [] rfl (by(repeat' with_reducible first|exact aK|refine aQ ?_ ?_|apply And.intro);(iterate 2 all_goals try first|exact(bp _ _ (by first|assumption|omega| (simp;done)| (simp;omega)))|exact(ku _ _));all_goals first| (intros;omega)|exact⟨rfl,aP _ (by decide)⟩) ?_)
  exact ak (ah rfl ⟨by rw[eA,if_pos (by omega),dn hcs.1],⟨⟩⟩)
theorem Be(s r n:Int):So 234 [aA s,aA r,aA n] [aA (vv s r n)]:=by
 refine aq X call234 func234 ntmps234 rfl rfl ?_
 intro zb
 refine av X [0,1,2] rfl (af (aC X [] [(8,⟨false,[aG _]⟩)] [0,1,2,9] [] rfl (by(with_reducible and_intros)<;>first|exact⟨⟩|exact(aW _ _ _)) ?_))
 refine an rfl ?_ ?_<;>intro hb0
 ·try simp only[aR]at hb0
  exact av X [6] rfl (ak (ah rfl ⟨by rw[vv,if_neg (by omega)],⟨⟩⟩))
 ·try simp only[aR]at hb0
  have hcs:=so (kh s [157,r]) 0
  refine au (aC X [] [(13,⟨false,[aA _]⟩),(14,⟨false,[aA _]⟩)] [6] [] rfl (by(repeat' with_reducible first|exact aK|refine aQ ?_ ?_|apply And.intro);(iterate 2 all_goals try first|exact(bp _ _ (by first|assumption|omega| (simp;done)| (simp;omega)))|exact(ku _ _));all_goals first| (intros;omega)|exact⟨rfl,aP _ (by decide)⟩) ?_)
  exact ak (ah rfl ⟨by rw[vv,if_pos (by omega),dn hcs.1],⟨⟩⟩)
theorem zl(s:Int):So 235 [aA s] [.a (.sl .u8 (cover s))]:=by
 refine aq X call235 func235 ntmps235 rfl rfl ?_
 intro zb
 refine av X [0] rfl (aC X [] [(5,⟨false,[aA _]⟩),(6,⟨true,[.a (.sl .u8 _)]⟩)] [2] [] rfl (by(repeat' with_reducible first|exact aK|refine aQ ?_ ?_|apply And.intro);(iterate 2 all_goals try first|exact(bp _ _ (by first|assumption|omega| (simp;done)| (simp;omega)))|exact(iO _ _ (by first|assumption|omega| (simp;done)| (simp;omega)) (by first|assumption|omega| (simp;done)| (simp;omega))));all_goals first|exact⟨rfl,aP _ (by decide)⟩) ?_)
 exact ak (ah rfl ⟨rfl,⟨⟩⟩)
theorem sy(k c:Int):So 185 [aA k,aA c] [aA (jh k c)]:=by
 refine aq X call185 func185 ntmps185 rfl rfl ?_
 intro zb
 refine av X [0,1] rfl (aC X [] [(8,⟨false,[aA _]⟩),(9,⟨false,[aA _]⟩)] [4] [] rfl (by(repeat' with_reducible first|exact aK|refine aQ ?_ ?_|apply And.intro);(iterate 2 all_goals try first|exact(bG _ _ (by first|assumption|omega| (simp;done)| (simp;omega)))|exact(qi _));all_goals first|exact⟨rfl,aP _ (by decide)⟩) ?_)
 exact ak (ah rfl ⟨rfl,⟨⟩⟩)
theorem ir(k c:Int):So 124 [aA k,aA c] [aA (iD k c)]:=by
 refine aq X call124 func124 ntmps124 rfl rfl ?_
 intro zb
 refine av X [0,1] rfl (aC X [] [(8,⟨false,[aA _]⟩),(9,⟨false,[aA _]⟩)] [4] [] rfl (by(repeat' with_reducible first|exact aK|refine aQ ?_ ?_|apply And.intro);(iterate 2 all_goals try first|exact(bG _ _ (by first|assumption|omega| (simp;done)| (simp;omega)))|exact(qi _));all_goals first|exact⟨rfl,aP _ (by decide)⟩) ?_)
 exact ak (ah rfl ⟨rfl,⟨⟩⟩)
theorem oW(k c:Int):So 263 [aA k,aA c] [aA (jh k c)]:=by
 refine aq X call263 func263 ntmps263 rfl rfl ?_
 intro zb
 refine av X [0,1] rfl (aC X [] [(8,⟨false,[aA _]⟩),(9,⟨false,[aA _]⟩)] [4] [] rfl (by(repeat' with_reducible first|exact aK|refine aQ ?_ ?_|apply And.intro);(iterate 2 all_goals try first|exact(bp _ _ (by first|assumption|omega| (simp;done)| (simp;omega)))|exact(mQ _ _));all_goals first|exact⟨rfl,aP _ (by decide)⟩) ?_)
 exact ak (ah rfl ⟨by rw[BD (c8 _ _).1];rfl,⟨⟩⟩)
theorem iw(k c:Int):So 247 [aA k,aA c] [aA (iD k c)]:=by
 refine aq X call247 func247 ntmps247 rfl rfl ?_
 intro zb
 refine av X [0,1] rfl (aC X [] [(8,⟨false,[aA _]⟩),(9,⟨false,[aA _]⟩)] [4] [] rfl (by(repeat' with_reducible first|exact aK|refine aQ ?_ ?_|apply And.intro);(iterate 2 all_goals try first|exact(bp _ _ (by first|assumption|omega| (simp;done)| (simp;omega)))|exact(mQ _ _));all_goals first|exact⟨rfl,aP _ (by decide)⟩) ?_)
 exact ak (ah rfl ⟨by rw[BD (c8 _ _).1];rfl,⟨⟩⟩)
theorem nQ(k c:Int)(l:List UInt8)(hl:l.length≤65536):So 186 [aA k,aA c, .a (.sl .u8 l)] [.a (.sl .u8 (four (gH k c l)))]:=by
 refine aq X call186 func186 ntmps186 rfl rfl ?_
 intro zb
 exact av X [0,1,2] rfl (aC X [] [(11,⟨false,[aA _]⟩)] [7] [] rfl (by(with_reducible and_intros)<;>first|exact⟨⟩|exact(zj _ _ _ (by first|assumption|omega| (simp;done)| (simp;omega)))) (aD X [6] rfl (by and_intros<;>first|exact⟨⟩| (intros;omega)|exact rfl|exact(eP _).1|exact(eP _).2) (ak (ah rfl ⟨MA _,⟨⟩⟩))))
end
section
set_option maxRecDepth 100000
theorem lK(l:List (List UInt8))(f:FuncId)(p:(List UInt8)→Bool)(hf: ∀b,So f [.a (.sl .u8 b)] [aG (p b)]):So 182 [.a (.sl (.sl .u8) l), .a (.lit (.func (.func f) #[] #[]))] [aA (fidx p l)]:=by
 refine aq X call182 func182 ntmps182 rfl rfl ?_
 intro zb
 refine cB 0 rfl (fun jV=>(av X [0,1] rfl (af (av X [0,1,7,8] rfl ?_))))
 refine ay (aE (fun k=>k≤l.length∧(l.take k).any p=false) (fun k:Nat=> [(8, .one ((aA k)))]) (fun k=> []) (fun k=>l.length-k) 0 (fun k=>rfl) ⟨Nat.zero_le _,rfl⟩ rfl ?_)
 rintro k ⟨hk,hall⟩
 refine av X [0,1,7,8,9] rfl ?_
 refine af (an rfl ?_ ?_)<;>intro hb0
 ·try simp only[aR]at hb0
  refine au (af (ay (av X [0,1,5,7,8] rfl (aC X [] [(16,⟨false,[aG (p (l.getD k (aB (.sl .u8))))]⟩)] [0,1,5,7,8,16] [] rfl (by(with_reducible and_intros)<;>first|exact⟨⟩|exact(hf _)| (intros;omega)) ?_))))
  refine an rfl ?_ ?_<;>intro bf
  ·exact av X [4] rfl (ak (ah rfl ⟨by rw[xj (aB (.sl .u8)) hb0 hall bf],⟨⟩⟩))
  ·refine au (bu X [0,1,7,8] rfl ?_)
   refine⟨k+1,⟨by omega,vA (aB (.sl .u8)) hb0 hall bf⟩,by omega,?_⟩
   rw[bC _ k rfl (by omega)]
   try rfl
 ·try simp only[aR]at hb0
  exact aH (av X [4] rfl (ak (ah rfl ⟨by rw[Fg (by rw[←hall,List.take_of_length_le hb0])],⟨⟩⟩)))
theorem dD(l:List (List UInt8))(f:FuncId)(p:(List UInt8)→Bool)(hf: ∀b,So f [.a (.sl .u8 b)] [aG (p b)]):So 121 [.a (.sl (.sl .u8) l), .a (.lit (.func (.func f) #[] #[]))] [aG (l.any p)]:=by
 refine aq X call121 func121 ntmps121 rfl rfl ?_
 intro zb
 exact av X [0,1] rfl (aC X [] [(7,⟨false,[aA (fidx p l)]⟩)] [4] [] rfl (by(with_reducible and_intros)<;>first|exact⟨⟩|exact(lK l f p hf)) (ak (ah rfl ⟨congrArg Value.bool (MB p l),⟨⟩⟩)))
theorem mU(l:List Int)(f:FuncId)(p:Int→Bool)(hf: ∀b,So f [aA b] [aG (p b)]):So 265 [.a (.sl .int l), .a (.lit (.func (.func f) #[] #[]))] [aA (fidx p l)]:=by
 refine aq X call265 func265 ntmps265 rfl rfl ?_
 intro zb
 refine cB 0 rfl (fun jV=>(av X [0,1] rfl (af (av X [0,1,7,8] rfl ?_))))
 refine ay (aE (fun k=>k≤l.length∧(l.take k).any p=false) (fun k:Nat=> [(8, .one ((aA k)))]) (fun k=> []) (fun k=>l.length-k) 0 (fun k=>rfl) ⟨Nat.zero_le _,rfl⟩ rfl ?_)
 rintro k ⟨hk,hall⟩
 refine av X [0,1,7,8,9] rfl ?_
 refine af (an rfl ?_ ?_)<;>intro hb0
 ·try simp only[aR]at hb0
  refine au (af (ay (av X [0,1,5,7,8] rfl (aC X [] [(16,⟨false,[aG (p (l.getD k (aB .int)))]⟩)] [0,1,5,7,8,16] [] rfl (by(with_reducible and_intros)<;>first|exact⟨⟩|exact(hf _)| (intros;omega)) ?_))))
  refine an rfl ?_ ?_<;>intro bf
  ·exact av X [4] rfl (ak (ah rfl ⟨by rw[xj (aB .int) hb0 hall bf],⟨⟩⟩))
  ·refine au (bu X [0,1,7,8] rfl ?_)
   refine⟨k+1,⟨by omega,vA (aB .int) hb0 hall bf⟩,by omega,?_⟩
   rw[bC _ k rfl (by omega)]
   try rfl
 ·try simp only[aR]at hb0
  exact aH (av X [4] rfl (ak (ah rfl ⟨by rw[Fg (by rw[←hall,List.take_of_length_le hb0])],⟨⟩⟩)))
theorem lz(l:List Int)(f:FuncId)(p:Int→Bool)(hf: ∀b,So f [aA b] [aG (p b)]):So 257 [.a (.sl .int l), .a (.lit (.func (.func f) #[] #[]))] [aG (l.any p)]:=by
 refine aq X call257 func257 ntmps257 rfl rfl ?_
 intro zb
 exact av X [0,1] rfl (aC X [] [(7,⟨false,[aA (fidx p l)]⟩)] [4] [] rfl (by(with_reducible and_intros)<;>first|exact⟨⟩|exact(mU l f p hf)) (ak (ah rfl ⟨congrArg Value.bool (MB p l),⟨⟩⟩)))
theorem oC(b:List UInt8):So 180 [.a (.sl .u8 b)] [aG (!decide ((b.length:Int)=24))]:=by
 refine aq X call180 func180 ntmps180 rfl rfl ?_
 intro zb
 exact av X [0] rfl (av X [2] rfl (ak (ah rfl ⟨(congrArg Value.bool (by simp only[aO]<;>first|rfl|ac_rfl)),⟨⟩⟩)))
theorem cM(d:DB):So 117 [.agg (aS d)] [aG (cg d)]:=by
 refine aq X call117 func117 ntmps117 rfl rfl ?_
 intro zb
 exact av X [1] rfl (aC X [] [(10,⟨false,[aG (d.rows.any fun b=> !decide ((b.length:Int)=24))]⟩)] [2] [] rfl (by(with_reducible and_intros)<;>first|exact⟨⟩|exact fun _=>(dD _ _ _ oC)) (ak (ah rfl ⟨by unfold cg;rw[sA];by_cases h:(d.rows.length:Int)≤64<;>simp[h],⟨⟩⟩)))
theorem cC(d:DB):So 96 [.agg (aS d)] [aG (cg d)]:=by
 refine aq X call96 func96 ntmps96 rfl rfl ?_
 intro zb
 refine bH 0 0 rfl rfl (fun jV=>(av X [1] rfl (af (av X [1,3] rfl ?_))))
 refine ay (aE (fun k=>k≤d.rows.length∧(d.rows.take k).all (fun r=>decide ((r.length:Int)=24))=true) (fun k:Nat=> [(3, .one ((aA k)))]) (fun k=> []) (fun k=>d.rows.length-k) 0 (fun k=>rfl) ⟨Nat.zero_le _,rfl⟩ rfl ?_)
 rintro k ⟨hk,hall⟩
 refine af (av X [1,3,8] rfl ?_)
 refine an rfl ?_ ?_<;>intro hb0
 ·try simp only[aR]at hb0
  refine au (af (ay (aD X [1,3,17] rfl (by and_intros<;>first|exact⟨⟩| (intros;omega)) ?_)))
  refine an rfl ?_ ?_<;>intro bf
  ·try simp only[aR]at bf
   exact av X [2] rfl (ak (ah rfl ⟨by unfold cg;rw[K5 _ _ (aB (.sl .u8)) k hb0 (by simpa using bf)];simp,⟨⟩⟩))
  ·try simp only[aR]at bf
   refine au (bu X [1,3] rfl ?_)
   refine⟨k+1,⟨by omega,by rw[CZ _ _ _ (aB (.sl .u8)) hb0,hall];simpa using bf⟩,by omega,?_⟩
   rw[bC _ k rfl (by omega)]
   try rfl
 ·try simp only[aR]at hb0
  exact aH (av X [2] rfl (ak (ah rfl ⟨by rw[List.take_of_length_le hb0]at hall;unfold cg;rw[hall];simp,⟨⟩⟩)))
theorem kB(a:iC):So 67 [.agg (dh a)] [aA (bR a)]:=by
 refine aq X call67 func67 ntmps67 rfl rfl ?_
 intro zb
 refine bH 0 1 rfl rfl (fun jV=>(av X [1] rfl (af (av X [1,6] rfl ?_))))
 refine an rfl ?_ ?_<;>intro hb0
 ·try simp only[aR]at hb0
  exact av X [2] rfl (ak (ah rfl ⟨by rw[bR,if_pos (by omega)],⟨⟩⟩))
 ·try simp only[aR]at hb0
  exact au (aD X [2] rfl (by and_intros<;>first|exact⟨⟩| ((try simp only[aR]at*);(simp(disch:=omega) only[bh]);omega)) (ak (ah rfl ⟨by rw[bR,if_neg (by omega),bh (by omega)];congr 4;omega,⟨⟩⟩)))
theorem kC(a:iC):So 53 [.agg (dh a)] [aA (bR a)]:=by
 refine aq X call53 func53 ntmps53 rfl rfl ?_
 intro zb
 refine bH 0 1 rfl rfl (fun jV=>(av X [1] rfl (af (av X [1,6] rfl ?_))))
 refine an rfl ?_ ?_<;>intro hb0
 ·try simp only[aR]at hb0
  exact av X [2] rfl (ak (ah rfl ⟨by rw[bR,if_pos (by omega)],⟨⟩⟩))
 ·try simp only[aR]at hb0
  exact au (aD X [2] rfl (by and_intros<;>first|exact⟨⟩| ((try simp only[aR]at*);(simp(disch:=omega) only[bh]);omega)) (ak (ah rfl ⟨by rw[bR,if_neg (by omega),bh (by omega)];congr 4;omega,⟨⟩⟩)))
theorem cI(s:aX):So 69 [.agg (bL s)] [aG (bS s)]:=by
 refine aq X call69 func69 ntmps69 rfl rfl ?_
 intro zb
 refine bH 0 3 rfl rfl (fun jV=>(av X [1] rfl (af (aC X [] [(7,⟨false,[aG (inr s.id 0 3)]⟩),(12,⟨false,[aG (inr s.rows 1 64)]⟩),(18,⟨false,[aG (inr s.behavior 0 3)]⟩),(24,⟨false,[aG (inr s.round 0 100000)]⟩)] [1,32] [] rfl (by(with_reducible and_intros);(iterate 4 all_goals try first|exact⟨⟩|exact(aL s.id 0 3)|exact fun _=>(aL s.rows 1 64)|exact fun _=>(aL s.behavior 0 3)|exact fun _=>(aL s.round 0 100000))) ?_))))
 refine an rfl ?_ ?_<;>intro hb0
 ·exact av X [2] rfl (ak (ah rfl ⟨by rw[show bS s=false from aaD hb0 (by simp only[uU,aO]<;>first|rfl|ac_rfl)],⟨⟩⟩))
 ·have hh:uU s=true:=bO hb0 (by simp only[uU,aO]<;>first|rfl|ac_rfl)
  refine au (af (av X [1,34,35,36] rfl ?_))
  refine ay (aE (fun k=>k≤s.received.length∧(List.range k).all (mT s.rows s.received)=true) (fun k:Nat=> [(36, .one ((aA k)))]) (fun k=> []) (fun k=>s.received.length-k) 0 (fun k=>rfl) ⟨Nat.zero_le _,rfl⟩ rfl ?_)
  rintro k ⟨hk,hall⟩
  have hw:(IntKind.i64.wrap ((k:Int)-1)).toNat=k-1:=by rw[bh (by omega)];omega
  refine av X [1,34,35,36,37] rfl ?_
  refine af (an rfl ?_ ?_)<;>intro bf
  ·try simp only[aR]at bf
   refine au (af (ay (aD X [1,3,4,34,35,36] rfl (by and_intros<;>first|exact⟨⟩| (intros;omega)) (af (aF X [] [(43,⟨false,[aG (inr ((s.received.getD k (aB .aM)).client) 0 7)]⟩),(64,⟨false,[aG (cg ((s.received.getD k (aB .aM)).share))]⟩)] [1,34,35,36,75] [] 34359738367 0 MO (by kernel_rfl) rfl (by kernel_rfl) (by(with_reducible and_intros);(iterate 2 all_goals try first|exact⟨⟩|exact(aL ((s.received.getD k (aB .aM)).client) 0 7)|exact fun _=>(cM ((s.received.getD k (aB .aM)).share)));all_goals first| ((intro h1;first| (intro h2;first| (intro h3;refine And.intro ?_ ?_)|refine And.intro ?_ ?_)|refine And.intro ?_ ?_)<;>first|omega| ((try simp only[aR]at*);(try simp(disch:=omega) only[bh]);omega))) ?_)))))
   refine an rfl ?_ ?_<;>intro bU
   ·have hk2:mT s.rows s.received k=false:=bP bU (by simp only[hw,mT,aO]<;>first|rfl|ac_rfl)
    exact av X [2] rfl (ak (ah rfl ⟨by rw[show bS s=false by unfold bS;rw[lu bf hk2];simp],⟨⟩⟩))
   ·have hk2:mT s.rows s.received k=true:=bO bU (by simp only[hw,mT,aO]<;>first|rfl|ac_rfl)
    refine au (bu X [1,34,35,36] rfl ?_)
    refine⟨k+1,⟨by omega,iY hall hk2⟩,by omega,?_⟩
    rw[bC _ k rfl (by omega)]
    try rfl
  ·try simp only[aR]at bf
   have oX:(List.range s.received.length).all (mT s.rows s.received)=true:=by rw[show s.received.length=k by omega];exact hall
   exact aH (av X [2] rfl (ak (ah rfl ⟨by rw[show bS s=true by unfold bS;rw[hh,oX];rfl],⟨⟩⟩)))
theorem j0(a:iC):So 66 [.agg (dh a)] [aG (eD a)]:=by
 refine aq X call66 func66 ntmps66 rfl rfl ?_
 intro zb
 refine bH 0 1 rfl rfl (fun jV=>(av X [1] rfl (af (av X [1,6,7,8] rfl ?_))))
 refine ay (aE (fun k=>k≤a.rounds.length∧(List.range k).all (qm a.rows a.rounds)=true) (fun k:Nat=> [(8, .one ((aA k)))]) (fun k=> []) (fun k=>a.rounds.length-k) 0 (fun k=>rfl) ⟨Nat.zero_le _,rfl⟩ rfl ?_)
 rintro k ⟨hk,hall⟩
 have hw:(IntKind.i64.wrap ((k:Int)-1)).toNat=k-1:=by rw[bh (by omega)];omega
 refine av X [1,6,7,8,9] rfl ?_
 refine af (an rfl ?_ ?_)<;>intro hb0
 ·try simp only[aR]at hb0
  refine au (af (ay (aD X [1,3,4,6,7,8] rfl (by and_intros<;>first|exact⟨⟩| (intros;omega)) (af ?_))))
  have t1:=(aL ((a.rounds.getD k (aB .aJ)).round) 0 100000)
  refine aF X [] [(15,⟨false,bM t1⟩),(36,⟨false,[aG (cg ((a.rounds.getD k (aB .aJ)).db))]⟩)] [1,6,7,8,47] [] 34359738367 0 MO (by kernel_rfl) rfl (by kernel_rfl) (by(with_reducible and_intros);(iterate 2 all_goals try first|exact⟨⟩|exact t1|exact fun _=>(cM ((a.rounds.getD k (aB .aJ)).db)));all_goals first| ((intro h1;first| (intro h2;first| (intro h3;refine And.intro ?_ ?_)|refine And.intro ?_ ?_)|refine And.intro ?_ ?_)<;>first|omega| ((try simp only[aR]at*);(try simp(disch:=omega) only[bh]);omega))) ?_
  refine an rfl ?_ ?_<;>intro bf
  ·have hk2:qm a.rows a.rounds k=false:=bP bf (by simp only[hw,qm,aO]<;>first|rfl|ac_rfl)
   exact av X [2] rfl (ak (ah rfl ⟨by rw[show eD a=false by unfold eD;rw[lu hb0 hk2];simp],⟨⟩⟩))
  ·have hk2:qm a.rows a.rounds k=true:=bO bf (by simp only[hw,qm,aO]<;>first|rfl|ac_rfl)
   refine au (bu X [1,6,7,8] rfl ?_)
   refine⟨k+1,⟨by omega,iY hall hk2⟩,by omega,?_⟩
   rw[bC _ k rfl (by omega)]
   try rfl
 ·try simp only[aR]at hb0
  have oX:(List.range a.rounds.length).all (qm a.rows a.rounds)=true:=by rw[show a.rounds.length=k by omega];exact hall
  exact aH (aC X [] [(51,⟨false,[aG (inr a.rows 1 64)]⟩)] [2] [] rfl (by(with_reducible and_intros)<;>first|exact⟨⟩|exact(aL a.rows 1 64)) (ak (ah rfl ⟨(congrArg Value.bool (by simp only[eD,C7,oX,aO]<;>first|rfl|ac_rfl)),⟨⟩⟩)))
theorem cJ(s:aX):So 95 [.agg (bL s)] [aG (bS s)]:=by
 refine aq X call95 func95 ntmps95 rfl rfl ?_
 intro zb
 refine bH 0 3 rfl rfl (fun jV=>(av X [1] rfl (af (av X [1,3] rfl ?_))))
 refine ay (aE (fun k=>k≤s.received.length∧(List.range k).all (mT s.rows s.received)=true) (fun k:Nat=> [(3, .one ((aA k)))]) (fun k=> []) (fun k=>s.received.length-k) 0 (fun k=>rfl) ⟨Nat.zero_le _,rfl⟩ rfl ?_)
 rintro k ⟨hk,hall⟩
 have hw:(IntKind.i64.wrap ((k:Int)-1)).toNat=k-1:=by rw[bh (by omega)];omega
 refine af (av X [1,3,9] rfl ?_)
 refine an rfl ?_ ?_<;>intro hb0
 ·try simp only[aR]at hb0
  refine au (af (ay (aD X [1,3,4] rfl (by and_intros<;>first|exact⟨⟩| (intros;omega)) (af (aF X [] [(19,⟨false,[aG (inr ((s.received.getD k (aB .aM)).client) 0 7)]⟩),(40,⟨false,[aG (cg ((s.received.getD k (aB .aM)).share))]⟩)] [1,3,51] [] 34359738367 0 MO (by kernel_rfl) rfl (by kernel_rfl) (by(with_reducible and_intros);(iterate 2 all_goals try first|exact⟨⟩|exact(aW ((s.received.getD k (aB .aM)).client) 0 7)|exact fun _=>(cC ((s.received.getD k (aB .aM)).share)));all_goals first| ((intro h1;first| (intro h2;first| (intro h3;refine And.intro ?_ ?_)|refine And.intro ?_ ?_)|refine And.intro ?_ ?_)<;>first|omega| ((try simp only[aR]at*);(try simp(disch:=omega) only[bh]);omega))) ?_)))))
  refine an rfl ?_ ?_<;>intro bf
  ·have hk2:mT s.rows s.received k=false:=bP bf (by simp only[hw,mT,aO]<;>first|rfl|ac_rfl)
   exact av X [2] rfl (ak (ah rfl ⟨by rw[show bS s=false by unfold bS;rw[lu hb0 hk2];simp],⟨⟩⟩))
  ·have hk2:mT s.rows s.received k=true:=bO bf (by simp only[hw,mT,aO]<;>first|rfl|ac_rfl)
   refine au (bu X [1,3] rfl ?_)
   refine⟨k+1,⟨by omega,iY hall hk2⟩,by omega,?_⟩
   rw[bC _ k rfl (by omega)]
   try rfl
 ·try simp only[aR]at hb0
  have oX:(List.range s.received.length).all (mT s.rows s.received)=true:=by rw[show s.received.length=k by omega];exact hall
  exact aH (aC X [] [(54,⟨false,[aG (inr s.id 0 3)]⟩),(58,⟨false,[aG (inr s.rows 1 64)]⟩),(63,⟨false,[aG (inr s.behavior 0 3)]⟩),(68,⟨false,[aG (inr s.round 0 100000)]⟩)] [2] [] rfl (by(with_reducible and_intros);(iterate 4 all_goals try first|exact⟨⟩|exact(aW s.id 0 3)|exact fun _=>(aW s.rows 1 64)|exact fun _=>(aW s.behavior 0 3)|exact fun _=>(aW s.round 0 100000))) (ak (ah rfl ⟨(congrArg Value.bool (by simp only[bS,uU,oX,aO]<;>first|rfl|ac_rfl)),⟨⟩⟩)))
theorem j6(a:iC):So 52 [.agg (dh a)] [aG (eD a)]:=by
 refine aq X call52 func52 ntmps52 rfl rfl ?_
 intro zb
 refine bH 0 1 rfl rfl (fun jV=>(av X [1] rfl (af (av X [1,3] rfl ?_))))
 refine ay (aE (fun k=>k≤a.rounds.length∧(List.range k).all (qm a.rows a.rounds)=true) (fun k:Nat=> [(3, .one ((aA k)))]) (fun k=> []) (fun k=>a.rounds.length-k) 0 (fun k=>rfl) ⟨Nat.zero_le _,rfl⟩ rfl ?_)
 rintro k ⟨hk,hall⟩
 have hw:(IntKind.i64.wrap ((k:Int)-1)).toNat=k-1:=by rw[bh (by omega)];omega
 refine af (av X [1,3,9] rfl ?_)
 refine an rfl ?_ ?_<;>intro hb0
 ·try simp only[aR]at hb0
  refine au (af (ay (aD X [1,3,4] rfl (by and_intros<;>first|exact⟨⟩| (intros;omega)) (af ?_))))
  have t1:=(aW ((a.rounds.getD k (aB .aJ)).round) 0 100000)
  refine aF X [] [(19,⟨false,bM t1⟩),(40,⟨false,[aG (cg ((a.rounds.getD k (aB .aJ)).db))]⟩)] [1,3,51] [] 34359738367 0 MO (by kernel_rfl) rfl (by kernel_rfl) (by(with_reducible and_intros);(iterate 2 all_goals try first|exact⟨⟩|exact t1|exact fun _=>(cC ((a.rounds.getD k (aB .aJ)).db)));all_goals first| ((intro h1;first| (intro h2;first| (intro h3;refine And.intro ?_ ?_)|refine And.intro ?_ ?_)|refine And.intro ?_ ?_)<;>first|omega| ((try simp only[aR]at*);(try simp(disch:=omega) only[bh]);omega))) ?_
  refine an rfl ?_ ?_<;>intro bf
  ·have hk2:qm a.rows a.rounds k=false:=bP bf (by simp only[hw,qm,aO]<;>first|rfl|ac_rfl)
   exact av X [2] rfl (ak (ah rfl ⟨by rw[show eD a=false by unfold eD;rw[lu hb0 hk2];simp],⟨⟩⟩))
  ·have hk2:qm a.rows a.rounds k=true:=bO bf (by simp only[hw,qm,aO]<;>first|rfl|ac_rfl)
   refine au (bu X [1,3] rfl ?_)
   refine⟨k+1,⟨by omega,iY hall hk2⟩,by omega,?_⟩
   rw[bC _ k rfl (by omega)]
   try rfl
 ·try simp only[aR]at hb0
  have oX:(List.range a.rounds.length).all (qm a.rows a.rounds)=true:=by rw[show a.rounds.length=k by omega];exact hall
  exact aH (aC X [] [(54,⟨false,[aG (inr a.rows 1 64)]⟩)] [2] [] rfl (by(with_reducible and_intros)<;>first|exact⟨⟩|exact(aW a.rows 1 64)) (ak (ah rfl ⟨(congrArg Value.bool (by simp only[eD,C7,oX,aO]<;>first|rfl|ac_rfl)),⟨⟩⟩)))
theorem AQ(a:List UInt8):(mI a).toList=a:=by
 rw[ByteArray.toList_eq];rfl
theorem jy(a b:List UInt8):So 152 [.a (.sl .u8 a), .a (.sl .u8 b)] [aG (a==b)]:=by
 refine aq X call152 func152 ntmps152 rfl rfl ?_
 intro zb
 exact av X [0,1] rfl (av X [4] rfl (ak (ah rfl ⟨by rw[AQ,AQ],⟨⟩⟩)))
theorem iE(a b:List UInt8):So 227 [.a (.sl .u8 a), .a (.sl .u8 b)] [aG (a==b)]:=by
 refine aq X call227 func227 ntmps227 rfl rfl ?_
 intro zb
 refine cB 0 rfl (fun hl1=> ?_)
 refine cB 1 rfl (fun lO=>(av X [0,1] rfl (af (av X [0,1,10] rfl ?_))))
 refine an rfl ?_ ?_<;>intro hb0
 ·try simp only[aR]at hb0
  exact av X [4] rfl (ak (ah rfl ⟨by rw[zf a b hb0],⟨⟩⟩))
 ·try simp only[aR]at hb0
  refine au (af (av X [0,1,12,13] rfl ?_))
  refine ay (aE (fun k=>k≤a.length∧a.take k=b.take k) (fun k:Nat=> [(13, .one ((aA k)))]) (fun k=> []) (fun k=>a.length-k) 0 (fun k=>rfl) ⟨Nat.zero_le _,rfl⟩ rfl ?_)
  rintro k ⟨hk,hall⟩
  refine av X [0,1,12,13,14] rfl ?_
  refine af (an rfl ?_ ?_)<;>intro bf
  ·try simp only[aR]at bf
   refine au (af (ay (av X [0,1,5,12,13] rfl (af (aF X [] [] [0,1,12,13,24] [] 511 0 MO (by kernel_rfl) rfl (by kernel_rfl) (by and_intros<;>first|exact⟨⟩| (intros;omega)) ?_)))))
   refine an rfl ?_ ?_<;>intro bU
   ·try simp only[aR]at bU
    have hne:=vp a b (aB .u8) k (fun h=>bU (by rw[h]))
    exact av X [4] rfl (ak (ah rfl ⟨by rw[hne],⟨⟩⟩))
   ·try simp only[aR]at bU
    have he:a.getD k (aB .u8)=b.getD k (aB .u8):=Rl bU
    refine au (bu X [0,1,12,13] rfl ?_)
    refine⟨k+1,⟨by omega,l9 a b (aB .u8) k bf (by omega) hall he⟩,by omega,?_⟩
    rw[bC _ k rfl (by omega)]
    try rfl
  ·try simp only[aR]at bf
   exact aH (av X [4] rfl (ak (ah rfl ⟨by rw[qg a b k (by omega) (by omega) hall],⟨⟩⟩)))
theorem jz(a b:List (List UInt8)):So 98 [.a (.sl (.sl .u8) a), .a (.sl (.sl .u8) b)] [aG (a==b)]:=by
 refine aq X call98 func98 ntmps98 rfl rfl ?_
 intro zb
 refine cB 0 rfl (fun hl1=> ?_)
 refine cB 1 rfl (fun lO=>(av X [0,1] rfl (af (av X [0,1,10] rfl ?_))))
 refine an rfl ?_ ?_<;>intro hb0
 ·try simp only[aR]at hb0
  exact av X [4] rfl (ak (ah rfl ⟨by rw[zf a b hb0],⟨⟩⟩))
 ·try simp only[aR]at hb0
  refine au (af (av X [0,1,5] rfl ?_))
  refine ay (aE (fun k=>k≤a.length∧a.take k=b.take k) (fun k:Nat=> [(5, .one ((aA k)))]) (fun k=> []) (fun k=>a.length-k) 0 (fun k=>rfl) ⟨Nat.zero_le _,rfl⟩ rfl ?_)
  rintro k ⟨hk,hall⟩
  refine af (av X [0,1,5,14] rfl ?_)
  refine an rfl ?_ ?_<;>intro bf
  ·try simp only[aR]at bf
   refine au (af (ay (af (aF X [] [(25,⟨false,[aG _]⟩)] [0,1,5,26] [] 1023 0 MO (by kernel_rfl) rfl (by kernel_rfl) (by(with_reducible and_intros)<;>first|exact⟨⟩|exact(jy _ _)| (intros;omega)) ?_))))
   refine an rfl ?_ ?_<;>intro bU
   ·try simp only[aR]at bU
    have hne:=vp a b (aB (.sl .u8)) k (fun h=>bU (by rw[h]))
    exact av X [4] rfl (ak (ah rfl ⟨by rw[hne],⟨⟩⟩))
   ·try simp only[aR]at bU
    have he:a.getD k (aB (.sl .u8))=b.getD k (aB (.sl .u8)):=bU
    refine au (bu X [0,1,5] rfl ?_)
    refine⟨k+1,⟨by omega,l9 a b (aB (.sl .u8)) k bf (by omega) hall he⟩,by omega,?_⟩
    rw[bC _ k rfl (by omega)]
    try rfl
  ·try simp only[aR]at bf
   exact aH (av X [4] rfl (ak (ah rfl ⟨by rw[qg a b k (by omega) (by omega) hall],⟨⟩⟩)))
theorem jA(a b:List UInt8):So 173 [.a (.sl .u8 a), .a (.sl .u8 b)] [aG (a==b)]:=by
 refine aq X call173 func173 ntmps173 rfl rfl ?_
 intro zb
 exact av X [0,1] rfl (aC X [] [(7,⟨false,[aG _]⟩)] [4] [] rfl (by(with_reducible and_intros)<;>first|exact⟨⟩|exact(iE _ _)) (ak (ah rfl ⟨rfl,⟨⟩⟩)))
theorem gI(a b:List (List UInt8)):So 230 [.a (.sl (.sl .u8) a), .a (.sl (.sl .u8) b), .a (.lit (.func (.func 173) #[] #[]))] [aG (a==b)]:=by
 refine aq X call230 func230 ntmps230 rfl rfl ?_
 intro zb
 refine cB 0 rfl (fun hl1=> ?_)
 refine cB 1 rfl (fun lO=>(av X [0,1,2] rfl (af (av X [0,1,2,14] rfl ?_))))
 refine an rfl ?_ ?_<;>intro hb0
 ·try simp only[aR]at hb0
  exact av X [6] rfl (ak (ah rfl ⟨by rw[zf a b hb0],⟨⟩⟩))
 ·try simp only[aR]at hb0
  refine au (af (av X [1,2,15,16,17] rfl ?_))
  refine ay (aE (fun k=>k≤a.length∧a.take k=b.take k) (fun k:Nat=> [(17, .one ((aA k)))]) (fun k=> []) (fun k=>a.length-k) 0 (fun k=>rfl) ⟨Nat.zero_le _,rfl⟩ rfl ?_)
  rintro k ⟨hk,hall⟩
  refine av X [1,2,15,16,17,18] rfl ?_
  refine af (an rfl ?_ ?_)<;>intro bf
  ·try simp only[aR]at bf
   refine au (af (ay (aD X [1,2,7,8,15,16,17] rfl (by and_intros<;>first|exact⟨⟩| (intros;omega)) (aD X [1,2,8,9,15,16,17] rfl (by and_intros<;>first|exact⟨⟩| (intros;omega)) (aC X [] [(29,⟨false,[aG (a.getD k (aB (.sl .u8))==b.getD k (aB (.sl .u8)))]⟩)] [1,2,15,16,17,30] [] rfl (by(with_reducible and_intros)<;>first|exact⟨⟩|exact(jA _ _)) ?_)))))
   refine an rfl ?_ ?_<;>intro bU
   ·try simp only[aR]at bU
    have hne:=vp a b (aB (.sl .u8)) k (fun h=>bU (by rw[h]))
    exact av X [6] rfl (ak (ah rfl ⟨by rw[hne],⟨⟩⟩))
   ·try simp only[aR]at bU
    have he:a.getD k (aB (.sl .u8))=b.getD k (aB (.sl .u8)):=bU
    refine au (bu X [1,2,15,16,17] rfl ?_)
    refine⟨k+1,⟨by omega,l9 a b (aB (.sl .u8)) k bf (by omega) hall he⟩,by omega,?_⟩
    rw[bC _ k rfl (by omega)]
    try rfl
  ·try simp only[aR]at bf
   exact aH (av X [6] rfl (ak (ah rfl ⟨by rw[qg a b k (by omega) (by omega) hall],⟨⟩⟩)))
theorem jB(a b:List (List UInt8)):So 181 [.a (.sl (.sl .u8) a), .a (.sl (.sl .u8) b)] [aG (a==b)]:=by
 refine aq X call181 func181 ntmps181 rfl rfl ?_
 intro zb
 exact av X [0,1] rfl (aC X [] [(7,⟨false,[aG _]⟩)] [4] [] rfl (by(with_reducible and_intros)<;>first|exact⟨⟩|exact(gI _ _)) (ak (ah rfl ⟨rfl,⟨⟩⟩)))
theorem qn(b:List UInt8):So 120 [.a (.sl .u8 b)] [aG (long b)]:=by
 refine aq X call120 func120 ntmps120 rfl rfl ?_
 intro zb
 exact av X [0] rfl (av X [2] rfl (ak (ah rfl ⟨rfl,⟨⟩⟩)))
theorem dR(n:Int):So 65 [aA n] [aG (b7 n)]:=by
 refine aq X call65 func65 ntmps65 rfl rfl ?_
 intro zb
 exact av X [0] rfl (aC X [] [(4,⟨false,[aG _]⟩)] [2] [] rfl (by(with_reducible and_intros)<;>first|exact⟨⟩|exact(aL _ _ _)) (ak (ah rfl ⟨rfl,⟨⟩⟩)))
theorem fL(n:Int):So 22 [aA n] [aG (b7 n)]:=by
 refine aq X call22 func22 ntmps22 rfl rfl ?_
 intro zb
 exact av X [0] rfl (aC X [] [(4,⟨false,[aG _]⟩)] [2] [] rfl (by(with_reducible and_intros)<;>first|exact⟨⟩|exact(aW _ _ _)) (ak (ah rfl ⟨rfl,⟨⟩⟩)))
theorem fk(c:dK):So 71 [.agg (bJ c)] [aG (cN c)]:=by
 refine aq X call71 func71 ntmps71 rfl rfl ?_
 intro zb
 exact av X [1] rfl (av X [1,3] rfl (aC X [] [(6,⟨false,[aG (inr c.id 0 7)]⟩),(10,⟨false,[aG (inr c.dz 0 7)]⟩),(22,⟨false,[aG (eC c.key)]⟩),(40,⟨false,[aG (c.aI.any long)]⟩),(47,⟨false,[aG (c.inbox.any long)]⟩),(56,⟨false,[aG (inr c.sent 0 (c.aI.length:Int))]⟩),(61,⟨false,[aG (inr c.next 0 100000)]⟩)] [2] [] rfl (by(with_reducible and_intros);(iterate 7 all_goals try first|exact⟨⟩|exact(aL c.id 0 7)|exact fun _=>(aL c.dz 0 7)|exact fun _=>(gx c.key)|exact fun _=>(dD _ _ _ qn)|exact fun _=>(aL c.sent 0 (c.aI.length:Int))|exact fun _=>(aL c.next 0 100000))) (ak (ah rfl ⟨(congrArg Value.bool (by simp only[cN,aO]<;>first|rfl|ac_rfl)),⟨⟩⟩))))
theorem xk(i f k:Int):So 46 [aA i,aA f,aA k] [aG (inr i 0 7&&inr f 0 7&& !(i==f)&&eC k)]:=by
 refine aq X call46 func46 ntmps46 rfl rfl ?_
 intro zb
 exact av X [0,1,2] rfl (aC X [] [(8,⟨false,[aG (inr i 0 7)]⟩),(11,⟨false,[aG (inr f 0 7)]⟩),(20,⟨false,[aG (eC k)]⟩)] [6] [] rfl (by(with_reducible and_intros);(iterate 3 all_goals try first|exact⟨⟩|exact(aW i 0 7)|exact fun _=>(aW f 0 7)|exact fun _=>(gy k))) (ak (ah rfl ⟨(congrArg Value.bool (by simp only[aO]<;>first|rfl|ac_rfl)),⟨⟩⟩)))
theorem oY(l:List (List UInt8)):So 151 [.a (.sl (.sl .u8) l)] [aG (decide ((l.length:Int)≤16)&& !l.any long)]:=by
 refine aq X call151 func151 ntmps151 rfl rfl ?_
 intro zb
 refine cB 0 rfl (fun jV=>(av X [0] rfl (af (av X [0,3] rfl ?_))))
 refine ay (aE (fun k=>k≤l.length∧(l.take k).any long=false) (fun k:Nat=> [(3, .one ((aA k)))]) (fun k=> []) (fun k=>l.length-k) 0 (fun k=>rfl) ⟨Nat.zero_le _,rfl⟩ rfl ?_)
 rintro k ⟨hk,hall⟩
 refine af (av X [0,3,7] rfl ?_)
 refine an rfl ?_ ?_<;>intro hb0
 ·try simp only[aR]at hb0
  refine au (af (ay (aD X [0,3,15] rfl (by and_intros<;>first|exact⟨⟩| (intros;omega)) ?_)))
  refine an rfl ?_ ?_<;>intro bf
  ·exact av X [2] rfl (ak (ah rfl ⟨by rw[BF l long (aB (.sl .u8)) k hb0 bf];simp,⟨⟩⟩))
  ·refine au (bu X [0,3] rfl ?_)
   refine⟨k+1,⟨by omega,vA (aB (.sl .u8)) hb0 hall bf⟩,by omega,?_⟩
   rw[bC _ k rfl (by omega)]
   try rfl
 ·try simp only[aR]at hb0
  have oX:l.any long=false:=by rw[←hall,List.take_of_length_le hb0]
  exact aH (av X [2] rfl (ak (ah rfl ⟨by rw[oX];simp,⟨⟩⟩)))
theorem c9(c:dK):So 97 [.agg (bJ c)] [aG (cN c)]:=by
 refine aq X call97 func97 ntmps97 rfl rfl ?_
 intro zb
 refine av X [1] rfl (af ?_)
 have t1:=(xk c.id c.dz c.key)
 have t2:=(oY c.aI)
 have t3:=(oY c.inbox)
 exact aN X [] [(9,⟨false,bM t1⟩),(13,⟨false,bM t2⟩),(18,⟨false,bM t3⟩),(26,⟨false,[aG (inr c.sent 0 (c.aI.length:Int))]⟩),(31,⟨false,[aG (inr c.next 0 100000)]⟩)] [2] [] rfl (by(with_reducible and_intros);(iterate 5 all_goals try first|exact⟨⟩|exact t1|exact fun _=>t2|exact fun _=>t3|exact fun _=>(aW c.sent 0 (c.aI.length:Int))|exact fun _=>(aW c.next 0 100000))) (ak (ah rfl ⟨(congrArg Value.bool (by simp only[cN,aO]<;>first|rfl|ac_rfl)),⟨⟩⟩))
theorem zn(a b:dK):So 118 [.agg (bJ a), .agg (bJ b)] [aG (jx a b)]:=by
 refine aq X call118 func118 ntmps118 rfl rfl ?_
 intro zb
 exact av X [2,3] rfl (aC X [] [(36,⟨false,[aG (a.aI==b.aI)]⟩)] [4] [] rfl (by(with_reducible and_intros)<;>first|exact⟨⟩|exact fun _=>(jB a.aI b.aI)) (ak (ah rfl ⟨(congrArg Value.bool (by simp only[jx,aO]<;>first|rfl|ac_rfl)),⟨⟩⟩)))
theorem Bf(a b:List (List UInt8)):So 119 [.a (.sl (.sl .u8) a), .a (.sl (.sl .u8) b)] [aG (zm a b)]:=by
 refine aq X call119 func119 ntmps119 rfl rfl ?_
 intro zb
 refine av X [0,1] rfl (af ?_)
 have t1:=(jB a ((b.take (a.length:Int).toNat).drop (0:Int).toNat))
 refine aN X [] [(16,⟨false,bM t1⟩)] [4] [] rfl (by(with_reducible and_intros)<;>first|exact⟨⟩|exact fun _=>t1| ((intro h1;first| (intro h2;first| (intro h3;refine And.intro ?_ ?_)|refine And.intro ?_ ?_)|refine And.intro ?_ ?_)<;>first|omega| ((try simp only[aR]at*);(try simp(disch:=omega) only[bh]);omega))) ?_
 exact ak (ah rfl ⟨(congrArg Value.bool (by simp only[zm,List.drop_zero,Int.toNat_zero,aO]<;>first|rfl|ac_rfl)),⟨⟩⟩)
theorem fm(d:bg):So 70 [.agg (bY d)] [aG (cR d)]:=by
 refine aq X call70 func70 ntmps70 rfl rfl ?_
 intro zb
 exact av X [1] rfl (aC X [] [(5,⟨false,[aG (cN d.live)]⟩),(9,⟨false,[aG (cN d.saved)]⟩),(16,⟨false,[aG (jx d.live d.saved)]⟩),(43,⟨false,[aG (zm d.saved.inbox d.live.inbox)]⟩)] [2] [] rfl (by(with_reducible and_intros);(iterate 4 all_goals try first|exact⟨⟩|exact(fk d.live)|exact fun _=>(fk d.saved)|exact fun _=>(zn d.live d.saved)|exact fun _=>(Bf d.saved.inbox d.live.inbox))) (ak (ah rfl ⟨(congrArg Value.bool (by simp only[cR,aO]<;>first|rfl|ac_rfl)),⟨⟩⟩)))
theorem dS(d:bg):So 56 [.agg (bY d)] [aG (cR d)]:=by
 refine aq X call56 func56 ntmps56 rfl rfl ?_
 intro zb
 refine av X [1] rfl (av X [1,3] rfl (av X [3,4] rfl (af (aC X [] [(10,⟨false,[aG (cN d.live)]⟩),(14,⟨false,[aG (cN d.saved)]⟩),(50,⟨false,[aG (d.live.aI==d.saved.aI)]⟩)] [3,4,52] [] rfl (by(with_reducible and_intros);(iterate 3 all_goals try first|exact⟨⟩|exact(c9 d.live)|exact fun _=>(c9 d.saved)|exact fun _=>(jz d.live.aI d.saved.aI))) ?_))))
 refine an rfl ?_ ?_<;>intro hb0
 ·exact av X [2] rfl (ak (ah rfl ⟨by rw[show cR d=false from by rw[cR,bP (R:=cN d.live&&cN d.saved&&jx d.live d.saved) hb0 (by simp only[jx,aO]<;>first|rfl|ac_rfl)];rfl],⟨⟩⟩))
 ·have hh:(cN d.live&&cN d.saved&&jx d.live d.saved)=true:=bO hb0 (by simp only[jx,aO]<;>first|rfl|ac_rfl)
  refine au (af ?_)
  have t1:=(jz d.saved.inbox ((d.live.inbox.take (d.saved.inbox.length:Int).toNat).drop (0:Int).toNat))
  refine aF X [] [(83,⟨false,bM t1⟩)] [2] [] 8589934591 0 MO (by kernel_rfl) rfl (by kernel_rfl) (by(with_reducible and_intros)<;>first|exact⟨⟩|exact fun _=>t1| ((intro h1;first| (intro h2;first| (intro h3;refine And.intro ?_ ?_)|refine And.intro ?_ ?_)|refine And.intro ?_ ?_)<;>first|omega| ((try simp only[aR]at*);(try simp(disch:=omega) only[bh]);omega))) ?_
  exact ak (ah rfl ⟨(congrArg Value.bool (by simp only[cR,hh,zm,List.drop_zero,Int.toNat_zero,aO]<;>first|rfl|ac_rfl)),⟨⟩⟩)
end
section
set_option maxRecDepth 100000
theorem cq(x:aV):So 35 [.agg (aU x)] [aG (okW x)]:=by
 refine aq X call35 func35 ntmps35 rfl rfl ?_
 intro zb
 refine bH 0 1 rfl rfl (fun hl1=> ?_)
 refine bH 0 2 rfl rfl (fun lO=>(av X [1] rfl (af (af (aF X [] [(10,⟨false,[aG (inr x.rows 1 64)]⟩),(16,⟨false,[aG (b7 (x.aj.length:Int))]⟩),(23,⟨false,[aG (inr (x.aa.length:Int) 2 8)]⟩),(36,⟨false,[aG (eD x.az)]⟩),(50,⟨false,[aA (bR x.az)]⟩),(58,⟨false,[aG (eC x.aT)]⟩),(64,⟨false,[aG (inr x.round 0 100000)]⟩)] [1,71] [] 18446744073709551615 0 MO (by kernel_rfl) rfl (by kernel_rfl) (by(with_reducible and_intros);(iterate 7 all_goals try first|exact⟨⟩|exact(aL x.rows 1 64)|exact fun _=>(dR (x.aj.length:Int))|exact fun _=>(aL (x.aa.length:Int) 2 8)|exact fun _=>(j0 x.az)|exact fun _=>(kB x.az)|exact fun _=>(gx x.aT)|exact fun _=>(aL x.round 0 100000));all_goals first| (refine fun _=> ?_;dsimp only[hyps,cV];omega)) ?_)))))
 refine an rfl ?_ ?_<;>intro hb0
 ·exact av X [2] rfl (ak (ah rfl ⟨by rw[show okW x=false from by rw[okW,bP (R:=HL x) hb0 (by simp only[HL,aO]<;>first|rfl|ac_rfl)];rfl],⟨⟩⟩))
 ·have hh:HL x=true:=bO hb0 (by simp only[HL,aO]<;>first|rfl|ac_rfl)
  obtain⟨Oh,hd8,_⟩:=nR hh
  refine au (af (av X [1,73,74,75] rfl ?_))
  refine ay (aE (fun k=>k≤x.aj.length∧(List.range k).all (Ff x)=true) (fun k:Nat=> [(75, .one ((aA k)))]) (fun k=> []) (fun k=>x.aj.length-k) 0 (fun k=>rfl) ⟨Nat.zero_le _,rfl⟩ rfl ?_)
  rintro k ⟨hk,hall⟩
  refine av X [1,73,74,75,76] rfl ?_
  refine af (an rfl ?_ ?_)<;>intro bf
  ·try simp only[aR]at bf
   refine au (af (ay (aD X [1,3,4,73,74,75] rfl (by and_intros<;>first|exact⟨⟩| (intros;omega)) (aC X [] [(81,⟨false,[aG (bS (x.aj.getD k (aB .aX)))]⟩)] [1,73,74,75,108] [] rfl (by(with_reducible and_intros)<;>first|exact⟨⟩|exact(cI (x.aj.getD k (aB .aX)))) ?_))))
   refine an rfl ?_ ?_<;>intro bU
   ·have hk2:Ff x k=false:=bP bU (by simp only[Ff,aO]<;>first|rfl|ac_rfl)
    exact av X [2] rfl (ak (ah rfl ⟨by rw[show okW x=false from by rw[okW,lu bf hk2];simp],⟨⟩⟩))
   ·have hk2:Ff x k=true:=bO bU (by simp only[Ff,aO]<;>first|rfl|ac_rfl)
    refine au (bu X [1,73,74,75] rfl ?_)
    refine⟨k+1,⟨by omega,iY hall hk2⟩,by omega,?_⟩
    rw[bC _ k rfl (by omega)]
    try rfl
  ·try simp only[aR]at bf
   have oX:(List.range x.aj.length).all (Ff x)=true:=by rw[show x.aj.length=k by omega];exact hall
   refine aH (af (av X [1,111,112,113] rfl ?_))
   refine ay (aE (fun k1=>k1≤x.aa.length∧(List.range k1).all (okD x)=true) (fun k1:Nat=> [(113, .one ((aA k1)))]) (fun k1=> []) (fun k1=>x.aa.length-k1) 0 (fun k1=>rfl) ⟨Nat.zero_le _,rfl⟩ rfl ?_)
   rintro k1 ⟨hk1,WM⟩
   refine av X [1,111,112,113,114] rfl ?_
   refine af (an rfl ?_ ?_)<;>intro xl
   ·try simp only[aR]at xl
    have hx:=Rw k1 (by omega)
    have hlt:=sB k1 x.aa.length xl Oh
    refine au (af (ay (aD X [1,5,6,111,112,113] rfl (by and_intros<;>first|exact⟨⟩| (intros;omega)) (av X [1,5,6,7,111,112,113] rfl (af (aF X [] [(121,⟨false,[aG (cR (x.aa.getD k1 (aB .bg)))]⟩)] [1,111,112,113,155] [] 68719476735 0 MO (by kernel_rfl) rfl (by kernel_rfl) (by(with_reducible and_intros)<;>first|exact⟨⟩|exact(fm (x.aa.getD k1 (aB .bg)))| ((intro h1;first| (intro h2;first| (intro h3;refine And.intro ?_ ?_)|refine And.intro ?_ ?_)|refine And.intro ?_ ?_)<;>first|omega| ((try simp only[aR]at*);(try simp(disch:=omega) only[bh]);omega))) ?_))))))
    refine an rfl ?_ ?_<;>intro WN
    ·have KB:okD x k1=false:=bP WN (by simp only[okD,hx,aO]<;>first|rfl|ac_rfl)
     exact av X [2] rfl (ak (ah rfl ⟨by rw[show okW x=false from by rw[okW,lu xl KB];simp],⟨⟩⟩))
    ·have KB:okD x k1=true:=bO WN (by simp only[okD,hx,aO]<;>first|rfl|ac_rfl)
     refine au (bu X [1,111,112,113] rfl ?_)
     refine⟨k1+1,⟨by omega,iY WM KB⟩,by omega,?_⟩
     rw[bC _ k1 rfl (by omega)]
     try rfl
   ·try simp only[aR]at xl
    have Rx:(List.range x.aa.length).all (okD x)=true:=by rw[show x.aa.length=k1 by omega];exact WM
    exact aH (av X [2] rfl (ak (ah rfl ⟨by rw[okW,hh,oX,Rx];rfl,⟨⟩⟩)))
theorem xm(x:aV):So 50 [.agg (aU x)] [aG (ZB x)]:=by
 refine aq X call50 func50 ntmps50 rfl rfl ?_
 intro zb
 refine bH 0 1 rfl rfl (fun hl1=> ?_)
 refine bH 0 2 rfl rfl (fun lO=>(av X [1] rfl (af (av X [1,3] rfl ?_))))
 refine ay (aE (fun k=>k≤x.aj.length∧(List.range k).all (Ff x)=true) (fun k:Nat=> [(3, .one ((aA k)))]) (fun k=> []) (fun k=>x.aj.length-k) 0 (fun k=>rfl) ⟨Nat.zero_le _,rfl⟩ rfl ?_)
 rintro k ⟨hk,hall⟩
 refine af (av X [1,3,9] rfl ?_)
 refine an rfl ?_ ?_<;>intro hb0
 ·try simp only[aR]at hb0
  refine au (af (ay (aD X [1,3,4] rfl (by and_intros<;>first|exact⟨⟩| (intros;omega)) (aC X [] [(18,⟨false,[aG (bS (x.aj.getD k (aB .aX)))]⟩)] [1,3,45] [] rfl (by(with_reducible and_intros)<;>first|exact⟨⟩|exact(cJ (x.aj.getD k (aB .aX)))) ?_))))
  refine an rfl ?_ ?_<;>intro bf
  ·have hk2:Ff x k=false:=bP bf (by simp only[Ff,aO]<;>first|rfl|ac_rfl)
   exact av X [2] rfl (ak (ah rfl ⟨by rw[show ZB x=false from by rw[ZB,lu hb0 hk2];simp],⟨⟩⟩))
  ·have hk2:Ff x k=true:=bO bf (by simp only[Ff,aO]<;>first|rfl|ac_rfl)
   refine au (bu X [1,3] rfl ?_)
   refine⟨k+1,⟨by omega,iY hall hk2⟩,by omega,?_⟩
   rw[bC _ k rfl (by omega)]
   try rfl
 ·try simp only[aR]at hb0
  have oX:(List.range x.aj.length).all (Ff x)=true:=by rw[show x.aj.length=k by omega];exact hall
  exact aH (aC X [] [(49,⟨false,[aG _]⟩)] [2] [] rfl (by(with_reducible and_intros)<;>first|exact⟨⟩|exact(fL _)) (ak (ah rfl ⟨by rw[ZB,oX];rfl,⟨⟩⟩)))
theorem xp(x:aV):So 51 [.agg (aU x)] [aG (WL x)]:=by
 refine aq X call51 func51 ntmps51 rfl rfl ?_
 intro zb
 refine bH 0 1 rfl rfl (fun hl1=> ?_)
 refine bH 0 2 rfl rfl (fun lO=>(av X [1] rfl (av X [1,3] rfl (af (aC X [] [(14,⟨false,[aG (inr (x.aa.length:Int) 2 8)]⟩)] [1,3,16] [] rfl (by(with_reducible and_intros)<;>first|exact⟨⟩|exact fun _=>(aW (x.aa.length:Int) 2 8)| (intros;omega)) ?_)))))
 refine an rfl ?_ ?_<;>intro hb0
 ·exact av X [2] rfl (ak (ah rfl ⟨by rw[show WL x=false from by rw[WL,bP (R:=((x.aa.length:Int).tmod 2==0)&&inr x.aa.length 2 8) hb0 (by simp only[aO]<;>first|rfl|ac_rfl)];rfl],⟨⟩⟩))
 ·have hh:(((x.aa.length:Int).tmod 2==0)&&inr x.aa.length 2 8)=true:=bO hb0 (by simp only[aO]<;>first|rfl|ac_rfl)
  have Oh:x.aa.length % 2=0:=by simp only[Bool.and_eq_true,beq_iff_eq]at hh;have:=hh.1;rw[dn (by omega)]at this;omega
  have hd8:x.aa.length≤8:=by simp only[Bool.and_eq_true,bN]at hh;omega
  refine au (af (av X [1,3,4] rfl ?_))
  refine ay (aE (fun k=>k≤x.aa.length∧(List.range k).all (okD x)=true) (fun k:Nat=> [(4, .one ((aA k)))]) (fun k=> []) (fun k=>x.aa.length-k) 0 (fun k=>rfl) ⟨Nat.zero_le _,rfl⟩ rfl ?_)
  rintro k ⟨hk,hall⟩
  refine af (av X [1,3,4,19] rfl ?_)
  refine an rfl ?_ ?_<;>intro bf
  ·try simp only[aR]at bf
   have hx:=Rw k (by omega)
   have hlt:=sB k x.aa.length bf Oh
   refine au (af (ay (aD X [1,3,4,5] rfl (by and_intros<;>first|exact⟨⟩| (intros;omega)) (af (aF X [] [(28,⟨false,[aG (cR (x.aa.getD k (aB .bg)))]⟩)] [1,3,4,66] [] 1099511627775 0 MO (by kernel_rfl) rfl (by kernel_rfl) (by(with_reducible and_intros)<;>first|exact⟨⟩|exact(dS (x.aa.getD k (aB .bg)))| ((intro h1;first| (intro h2;first| (intro h3;refine And.intro ?_ ?_)|refine And.intro ?_ ?_)|refine And.intro ?_ ?_)<;>first|omega| ((try simp only[aR]at*);(try simp(disch:=omega) only[bh]);omega))) ?_)))))
   refine an rfl ?_ ?_<;>intro bU
   ·have KB:okD x k=false:=bP bU (by simp only[okD,hx,aO]<;>first|rfl|ac_rfl)
    exact av X [2] rfl (ak (ah rfl ⟨by rw[show WL x=false from by rw[WL,lu bf KB];simp],⟨⟩⟩))
   ·have KB:okD x k=true:=bO bU (by simp only[okD,hx,aO]<;>first|rfl|ac_rfl)
    refine au (bu X [1,3,4] rfl ?_)
    refine⟨k+1,⟨by omega,iY hall KB⟩,by omega,?_⟩
    rw[bC _ k rfl (by omega)]
    try rfl
  ·try simp only[aR]at bf
   have Rx:(List.range x.aa.length).all (okD x)=true:=by rw[show x.aa.length=k by omega];exact hall
   exact aH (av X [2] rfl (ak (ah rfl ⟨by rw[WL,hh,Rx];rfl,⟨⟩⟩)))
theorem dx(x:aV):So 30 [.agg (aU x)] [aG (okW x)]:=by
 refine aq X call30 func30 ntmps30 rfl rfl ?_
 intro zb
 exact av X [1] rfl (af (aF X [] [(5,⟨false,[aG (inr x.rows 1 64)]⟩),(9,⟨false,[aG (inr x.round 0 100000)]⟩),(13,⟨false,[aG (ZB x)]⟩),(17,⟨false,[aG (WL x)]⟩),(22,⟨false,[aG (eD x.az)]⟩),(35,⟨false,[aA (bR x.az)]⟩),(43,⟨false,[aG (eC x.aT)]⟩)] [2] [] 281474976710655 0 MO (by kernel_rfl) rfl (by kernel_rfl) (by(with_reducible and_intros);(iterate 7 all_goals try first|exact⟨⟩|exact(aW x.rows 1 64)|exact fun _=>(aW x.round 0 100000)|exact fun _=>(xm x)|exact fun _=>(xp x)|exact fun _=>(j6 x.az)|exact fun _=>(kC x.az)|exact fun _=>(gy x.aT))) (ak (ah rfl ⟨(congrArg Value.bool (by simp only[okW,HL,ZB,WL,aO]<;>first|rfl|ac_rfl)),⟨⟩⟩))))
theorem Bg(key c:Int)(p:Plain):So 123 [aA key,aA c, .agg (gR p)] [.a (.sl .u8 (fT key c p)),aG (eU key c p)]:=by
 refine aq X call123 func123 ntmps123 rfl rfl ?_
 intro zb
 refine av X [0,1,5] rfl (af (aC X [] [(11,⟨false,[aG (eC key)]⟩),(15,⟨false,[aG (inr c 0 1000000000000)]⟩),(20,⟨false,[aG (fH p)]⟩)] [0,1,5,22] [] rfl (by(with_reducible and_intros);(iterate 3 all_goals try first|exact⟨⟩|exact(gx key)|exact fun _=>(aL c 0 1000000000000)|exact fun _=>(lQ p))) ?_))
 refine an rfl ?_ ?_<;>intro hb0
 ·have hk:eU key c p=false:=bP hb0 (by simp only[eU,aO]<;>first|rfl|ac_rfl)
  exact av X [6,7] rfl (ak (ah rfl ⟨by rw[fT,if_neg (by rw[hk];decide)],by rw[hk],⟨⟩⟩))
 ·have hk:eU key c p=true:=bO hb0 (by simp only[eU,aO]<;>first|rfl|ac_rfl)
  have hp:=nS hk
  have hst:(stream (kh key [61,c]) (18:Int).toNat).length=18:=dI _ _
  have mK:(cY key c p).length≤100:=by unfold cY;simp only[List.length_append,List.length_drop,List.length_cons,List.length_nil,dI];omega
  have hf4:(four (gH key c (gG (jh key c) (cY key c p)))).length=4:=rfl
  have hel:(gG (jh key c) (cY key c p)).length≤100:=by rw[dF];exact mK
  refine au (aC X [(33,30)] [] [0,1,5,8] [] rfl (by and_intros<;>first|exact⟨⟩|exact rfl|exact(eP _).1|exact(eP _).2| (simp only[cK,maxLen,lens];omega)) (af (aF X [(44,30)] [(38,⟨false,[aA (kh key [61,c])]⟩),(39,⟨true,[.a (.sl .u8 (stream (kh key [61,c]) (18:Int).toNat))]⟩)] [0,1,8] [] 1023 0 MO (by kernel_rfl) rfl (by kernel_rfl) (by(repeat' with_reducible first|exact aK|refine aQ ?_ ?_|apply And.intro);(iterate 2 all_goals try first|exact(bG key [61,c] (by first|assumption|omega| (simp;done)| (simp;omega)))|exact(iN (kh key [61,c]) 18 (by first|assumption|omega| (simp;done)| (simp;omega)) (by first|assumption|omega| (simp;done)| (simp;omega))));all_goals first| (intros;omega)|exact rfl|exact⟨rfl,aP _ (by decide)⟩| (simp only[cK,maxLen,lens];omega)) ?_)))
  refine aC X [] [(47,⟨false,[aA (jh key c)]⟩),(49,⟨true,[.a (.sl .u8 (gG (jh key c) (cY key c p)))]⟩)] [0,1,9] [] rfl (by(with_reducible and_intros);(iterate 2 all_goals try first|exact⟨⟩|exact(sy key c)|exact(C3 (jh key c) (cY key c p) (by first|assumption|omega| (simp;done)| (simp;omega))))) (af ?_)
  have t1:=(nQ key c (gG (jh key c) (cY key c p)) (by first|assumption|omega| (simp;done)| (simp;omega)))
  exact aN X [(55,49)] [(54,⟨true,bM t1⟩)] [6,7] [] rfl (by(with_reducible and_intros)<;>first|exact⟨⟩|exact t1|exact rfl| (simp only[cK,maxLen,lens];omega)) (ak (ah rfl ⟨by rw[fT,if_pos hk],by rw[hk],⟨⟩⟩))
theorem Bh(key c:Int)(p:Plain):So 259 [aA key,aA c, .agg (gR p)] [.a (.sl .u8 (fT key c p)),aG (eU key c p)]:=by
 refine aq X call259 func259 ntmps259 rfl rfl ?_
 intro zb
 refine av X [0,1,5] rfl (af (aC X [] [(12,⟨false,[aG (eC key)]⟩),(16,⟨false,[aG (inr c 0 1000000000000)]⟩),(21,⟨false,[aG (fH p)]⟩)] [0,1,5,23] [] rfl (by(with_reducible and_intros);(iterate 3 all_goals try first|exact⟨⟩|exact(gy key)|exact fun _=>(aW c 0 1000000000000)|exact fun _=>(uy p))) ?_))
 refine an rfl ?_ ?_<;>intro hb0
 ·have hk:eU key c p=false:=bP hb0 (by simp only[eU,aO]<;>first|rfl|ac_rfl)
  exact aD X [6,7] rfl (by and_intros<;>first|exact⟨⟩|exact rfl) (ak (ah rfl ⟨by rw[fT,if_neg (by rw[hk];decide)],by rw[hk],⟨⟩⟩))
 ·have hk:eU key c p=true:=bO hb0 (by simp only[eU,aO]<;>first|rfl|ac_rfl)
  have hp:=nS hk
  have hst:(stream (kh key [61,c]) (18:Int).toNat).length=18:=dI _ _
  have mK:(cY key c p).length≤100:=by unfold cY;simp only[List.length_append,List.length_drop,List.length_cons,List.length_nil,dI];omega
  have hf4:(four (gH key c (gG (jh key c) (cY key c p)))).length=4:=rfl
  have hel:(gG (jh key c) (cY key c p)).length≤100:=by rw[dF];exact mK
  refine au (aC X [(35,32)] [] [0,1,5,8] [] rfl (by and_intros<;>first|exact⟨⟩|exact rfl|exact(eP _).1|exact(eP _).2| (simp only[cK,maxLen,lens];omega)) (af (aF X [(46,32)] [(40,⟨false,[aA (kh key [61,c])]⟩),(41,⟨true,[.a (.sl .u8 (stream (kh key [61,c]) (18:Int).toNat))]⟩)] [0,1,8] [] 1023 0 MO (by kernel_rfl) rfl (by kernel_rfl) (by(repeat' with_reducible first|exact aK|refine aQ ?_ ?_|apply And.intro);(iterate 2 all_goals try first|exact(bp key [61,c] (by first|assumption|omega| (simp;done)| (simp;omega)))|exact(iO (kh key [61,c]) 18 (by first|assumption|omega| (simp;done)| (simp;omega)) (by first|assumption|omega| (simp;done)| (simp;omega))));all_goals first| (intros;omega)|exact rfl|exact⟨rfl,aP _ (by decide)⟩| (simp only[cK,maxLen,lens];omega)) ?_)))
  refine aC X [] [(49,⟨false,[aA (jh key c)]⟩),(51,⟨true,[.a (.sl .u8 (gG (jh key c) (cY key c p)))]⟩)] [0,1,9] [] rfl (by(with_reducible and_intros);(iterate 2 all_goals try first|exact⟨⟩|exact(oW key c)|exact(C5 (jh key c) (cY key c p) (by first|assumption|omega| (simp;done)| (simp;omega))))) (af ?_)
  have t1:=(oV key c (gG (jh key c) (cY key c p)) (by first|assumption|omega| (simp;done)| (simp;omega)))
  exact aN X [] [(55,⟨false,bM t1⟩)] [9,10] [] rfl (by(with_reducible and_intros)<;>first|exact⟨⟩|exact t1) (aC X [(69,51)] [] [6,7] [] rfl (by and_intros<;>first|exact⟨⟩| (intros;omega)|exact rfl|exact(eP _).1|exact(eP _).2| (simp only[cK,maxLen,lens];omega)) (ak (ah rfl ⟨(congrArg (fun z=>gG (jh key c) (cY key c p)++z) (MA _)).trans (by rw[fT,if_pos hk]),by rw[hk],⟨⟩⟩)))
theorem eH(x:aV)(c:Int):So 42 [.agg (aU x),aA c] [aG (mh x c)]:=by
 refine aq X call42 func42 ntmps42 rfl rfl ?_
 intro zb
 exact bH 0 2 rfl rfl (fun lO=>(av X [1,2] rfl (aC X [] [(10,⟨false,[aG _]⟩)] [4] [] rfl (by(with_reducible and_intros)<;>first|exact⟨⟩|exact(aL _ _ _)) (ak (ah rfl ⟨by rw[bh (by omega)];rfl,⟨⟩⟩)))))
theorem C8(x:aV)(c:Int)(hd:x.aa.length≤1048576):So 64 [.agg (aU x),aA c] [aG (vB x c)]:=by
 refine aq X call64 func64 ntmps64 rfl rfl ?_
 intro zb
 refine av X [1,2] rfl (af ?_)
 have t1:=(eH x (IntKind.i64.wrap (BitVec.ofInt IntKind.i64.bits c^^^BitVec.ofInt IntKind.i64.bits 1).toNat))
 exact aN X [] [(7,⟨false,[aG (mh x c)]⟩),(12,⟨false,bM t1⟩)] [4] [] rfl (by(with_reducible and_intros);(iterate 2 all_goals try first|exact⟨⟩|exact(eH x c)|exact fun _=>t1)) (ak (ah rfl ⟨by rw[Rv,OF hd],⟨⟩⟩))
theorem fM(c:dK):So 73 [.agg (bJ c)] [aA (cx c)]:=by
 refine aq X call73 func73 ntmps73 rfl rfl ?_
 intro zb
 refine av X [1] rfl (af (av X [7] rfl ?_))
 refine an rfl ?_ ?_<;>intro hb0
 ·try simp only[aR]at hb0
  exact av X [2] rfl (ak (ah rfl ⟨by rw[cx,if_pos hb0],⟨⟩⟩))
 ·try simp only[aR]at hb0
  exact au (av X [2] rfl (ak (ah rfl ⟨by rw[cx,if_neg (by omega)],⟨⟩⟩)))
theorem mX(c:dK)(a:Int)(h0:0≤a)(h1:a<c.aI.length):So 74 [.agg (bJ c),aA a] [.a (.sl .u8 (mV c a))]:=by
 refine aq X call74 func74 ntmps74 rfl rfl ?_
 intro zb
 refine av X [1,2] rfl (af ?_)
 have t1:=(Bg (iD c.key (cx c)) a (⟨1,(c.aI.getD (a).toNat (aB (.sl .u8)))⟩:Plain))
 exact aF X [] [(11,⟨false,[aA (cx c)]⟩),(12,⟨false,[aA (iD c.key (cx c))]⟩),(20,⟨true,bM t1⟩)] [5] [] 262143 0 MO (by kernel_rfl) rfl (by kernel_rfl) (by(with_reducible and_intros);(iterate 3 all_goals try first|exact⟨⟩|exact(fM c)|exact(ir c.key (cx c))|exact t1);all_goals first| (intros;omega)) (av X [4] rfl (ak (ah rfl ⟨rfl,⟨⟩⟩)))
theorem mY(c:dK)(r n:Int):So 36 [.agg (bJ c),aA r,aA n] [aA (eu c r n), .a (.sl .u8 (cZ c r n)),aG (mW c r n)]:=by
 refine aq X call36 func36 ntmps36 rfl rfl ?_
 intro zb
 refine bH 0 4 rfl rfl (fun jV=>(av X [1,2,3] rfl (af (aC X [] [(10,⟨false,[aG (cN c)]⟩),(14,⟨false,[aG (inr r 0 100000)]⟩),(19,⟨false,[aG (inr n 1 64)]⟩)] [1,2,3,21] [] rfl (by(with_reducible and_intros);(iterate 3 all_goals try first|exact⟨⟩|exact(fk c)|exact fun _=>(aL r 0 100000)|exact fun _=>(aL n 1 64))) ?_))))
 refine an rfl ?_ ?_<;>intro hb0
 ·have hk:mW c r n=false:=bP hb0 (by simp only[mW,aO]<;>first|rfl|ac_rfl)
  exact av X [6,7,8] rfl (ak (ah rfl ⟨by rw[eu,if_neg (by rw[hk];decide)],by rw[cZ,if_neg (by rw[hk];decide)],by rw[hk],⟨⟩⟩))
 ·have hk:mW c r n=true:=bO hb0 (by simp only[mW,aO]<;>first|rfl|ac_rfl)
  have hs:=zo hk
  refine au (af (av X [1,2,3,27] rfl ?_))
  refine an rfl ?_ ?_<;>intro bf
  ·try simp only[aR]at bf
   exact af (aF X [] [(32,⟨false,[aA (cx c)]⟩),(34,⟨false,[aA (eA c.key r (cx c) n)]⟩),(38,⟨true,[.a (.sl .u8 (mV c c.sent))]⟩)] [6,7,8] [] 16383 0 MO (by kernel_rfl) rfl (by kernel_rfl) (by(with_reducible and_intros);(iterate 3 all_goals try first|exact⟨⟩|exact(fM c)|exact(ju c.key r (cx c) n)|exact(mX c c.sent (by first|assumption|omega| (simp;done)| (simp;omega)) (by first|assumption|omega| (simp;done)| (simp;omega))))) (ak (ah rfl ⟨by rw[eu,if_pos hk,if_pos bf],by rw[cZ,if_pos hk,if_pos bf],by rw[hk],⟨⟩⟩)))
  ·try simp only[aR]at bf
   refine au (af (aF X [] [(43,⟨false,[aA (vv c.seed r n)]⟩),(48,⟨false,[aA (kh c.seed [r])]⟩),(49,⟨true,[.a (.sl .u8 (cover (kh c.seed [r])))]⟩)] [6,7,8] [] 16383 0 MO (by kernel_rfl) rfl (by kernel_rfl) (by(repeat' with_reducible first|exact aK|refine aQ ?_ ?_|apply And.intro);(iterate 3 all_goals try first|exact(Bd c.seed r n)|exact(bG c.seed [r] (by first|assumption|omega| (simp;done)| (simp;omega)))|exact(zk (kh c.seed [r])));all_goals first|exact⟨rfl,aP _ (by decide)⟩) ?_))
   exact ak (ah rfl ⟨by rw[eu,if_pos hk,if_neg (by omega)],by rw[cZ,if_pos hk,if_neg (by omega)],by rw[hk],⟨⟩⟩)
theorem ew(c:dK):So 196 [.agg (bJ c)] [aA (cx c)]:=by
 refine aq X call196 func196 ntmps196 rfl rfl ?_
 intro zb
 refine av X [1] rfl (af (av X [7] rfl ?_))
 refine an rfl ?_ ?_<;>intro hb0
 ·try simp only[aR]at hb0
  exact av X [2] rfl (ak (ah rfl ⟨by rw[cx,if_pos hb0],⟨⟩⟩))
 ·try simp only[aR]at hb0
  exact au (av X [2] rfl (ak (ah rfl ⟨by rw[cx,if_neg (by omega)],⟨⟩⟩)))
theorem sC(c:dK)(h0:0≤c.sent)(h1:c.sent<c.aI.length):So 233 [.agg (bJ c)] [.a (.sl .u8 (mV c c.sent))]:=by
 refine aq X call233 func233 ntmps233 rfl rfl ?_
 intro zb
 refine av X [1] rfl (af ?_)
 have t1:=(Bh (iD c.key (cx c)) c.sent (⟨1,(c.aI.getD (c.sent).toNat (aB (.sl .u8)))⟩:Plain))
 exact aF X [] [(9,⟨false,[aA (cx c)]⟩),(10,⟨false,[aA (iD c.key (cx c))]⟩),(20,⟨true,bM t1⟩)] [3] [] 1048575 0 MO (by kernel_rfl) rfl (by kernel_rfl) (by(with_reducible and_intros);(iterate 3 all_goals try first|exact⟨⟩|exact(ew c)|exact(iw c.key (cx c))|exact t1);all_goals first| (intros;omega)) (av X [2] rfl (ak (ah rfl ⟨rfl,⟨⟩⟩)))
theorem vC(c:dK)(r n:Int):So 189 [.agg (bJ c),aA r,aA n] [aA (eu c r n), .a (.sl .u8 (cZ c r n)),aG (mW c r n)]:=by
 refine aq X call189 func189 ntmps189 rfl rfl ?_
 intro zb
 refine bH 0 4 rfl rfl (fun jV=>(av X [1,2,3] rfl (af (aC X [] [(10,⟨false,[aG (cN c)]⟩),(14,⟨false,[aG (inr r 0 100000)]⟩),(19,⟨false,[aG (inr n 1 64)]⟩)] [1,2,3,21] [] rfl (by(with_reducible and_intros);(iterate 3 all_goals try first|exact⟨⟩|exact(c9 c)|exact fun _=>(aW r 0 100000)|exact fun _=>(aW n 1 64))) ?_))))
 refine an rfl ?_ ?_<;>intro hb0
 ·have hk:mW c r n=false:=bP hb0 (by simp only[mW,aO]<;>first|rfl|ac_rfl)
  exact aD X [6,7,8] rfl (by and_intros<;>first|exact⟨⟩|exact rfl) (ak (ah rfl ⟨by rw[eu,if_neg (by rw[hk];decide)],by rw[cZ,if_neg (by rw[hk];decide)],by rw[hk],⟨⟩⟩))
 ·have hk:mW c r n=true:=bO hb0 (by simp only[mW,aO]<;>first|rfl|ac_rfl)
  have hs:=zo hk
  refine au (af (av X [1,2,3,28] rfl ?_))
  refine an rfl ?_ ?_<;>intro bf
  ·try simp only[aR]at bf
   exact af (aF X [] [(33,⟨false,[aA (cx c)]⟩),(35,⟨false,[aA (eA c.key r (cx c) n)]⟩),(37,⟨true,[.a (.sl .u8 (mV c c.sent))]⟩)] [6,7,8] [] 4095 0 MO (by kernel_rfl) rfl (by kernel_rfl) (by(with_reducible and_intros);(iterate 3 all_goals try first|exact⟨⟩|exact(ew c)|exact(jv c.key r (cx c) n)|exact(sC c (by first|assumption|omega| (simp;done)| (simp;omega)) (by first|assumption|omega| (simp;done)| (simp;omega))))) (ak (ah rfl ⟨by rw[eu,if_pos hk,if_pos bf],by rw[cZ,if_pos hk,if_pos bf],by rw[hk],⟨⟩⟩)))
  ·try simp only[aR]at bf
   refine au (af (aF X [] [(42,⟨false,[aA (vv c.seed r n)]⟩),(47,⟨false,[aA (kh c.seed [r])]⟩),(48,⟨true,[.a (.sl .u8 (cover (kh c.seed [r])))]⟩)] [6,7,8] [] 16383 0 MO (by kernel_rfl) rfl (by kernel_rfl) (by(repeat' with_reducible first|exact aK|refine aQ ?_ ?_|apply And.intro);(iterate 3 all_goals try first|exact(Be c.seed r n)|exact(bp c.seed [r] (by first|assumption|omega| (simp;done)| (simp;omega)))|exact(zl (kh c.seed [r])));all_goals first|exact⟨rfl,aP _ (by decide)⟩) ?_))
   exact ak (ah rfl ⟨by rw[eu,if_pos hk,if_neg (by omega)],by rw[cZ,if_pos hk,if_neg (by omega)],by rw[hk],⟨⟩⟩)
end
section
set_option maxRecDepth 100000
theorem sE(x:Int):So 258 [aA x] [aG (!inr x 0 1)]:=by
 refine aq X call258 func258 ntmps258 rfl rfl ?_
 intro zb
 exact av X [0] rfl (aC X [] [(4,⟨false,[aG _]⟩)] [2] [] rfl (by(with_reducible and_intros)<;>first|exact⟨⟩|exact(aL _ _ _)) (ak (ah rfl ⟨rfl,⟨⟩⟩)))
theorem iP(v:List Int)(rows:Int):So 228 [.a (.sl .int v),aA rows] [aG (cF v rows)]:=by
 refine aq X call228 func228 ntmps228 rfl rfl ?_
 intro zb
 exact av X [0,1] rfl (aC X [] [(6,⟨false,[aG (inr rows 0 64)]⟩),(15,⟨false,[aG (v.any fun x=> !inr x 0 1)]⟩)] [4] [] rfl (by(with_reducible and_intros);(iterate 2 all_goals try first|exact⟨⟩|exact(aL rows 0 64)|exact fun _=>(lz _ _ _ sE))) (ak (ah rfl ⟨by rw[K8];exact(congrArg Value.bool (by simp only[aO]<;>first|rfl|ac_rfl)),⟨⟩⟩)))
theorem iQ(v:List Int)(rows:Int):So 249 [.a (.sl .int v),aA rows] [aG (cF v rows)]:=by
 refine aq X call249 func249 ntmps249 rfl rfl ?_
 intro zb
 refine cB 0 rfl (fun jV=>(av X [0,1] rfl (af (av X [0,1,5] rfl ?_))))
 refine ay (aE (fun k=>k≤v.length∧(v.take k).all (fun x=>inr x 0 1)=true) (fun k:Nat=> [(5, .one ((aA k)))]) (fun k=> []) (fun k=>v.length-k) 0 (fun k=>rfl) ⟨Nat.zero_le _,rfl⟩ rfl ?_)
 rintro k ⟨hk,hall⟩
 refine af (av X [0,1,5,9] rfl ?_)
 refine an rfl ?_ ?_<;>intro hb0
 ·try simp only[aR]at hb0
  refine au (af (ay (aC X [] [(16,⟨false,[aG (inr (v.getD k (aB .int)) 0 1)]⟩)] [0,1,5,17] [] rfl (by(with_reducible and_intros)<;>first|exact⟨⟩|exact(aW (v.getD k (aB .int)) 0 1)| (intros;omega)) ?_)))
  refine an rfl ?_ ?_<;>intro bf
  ·exact av X [4] rfl (ak (ah rfl ⟨by rw[cF,K5 _ _ (aB .int) k hb0 (by simpa using bf)];simp,⟨⟩⟩))
  ·refine au (bu X [0,1,5] rfl ?_)
   refine⟨k+1,⟨by omega,by rw[CZ _ _ _ (aB .int) hb0,hall];simpa using bf⟩,by omega,?_⟩
   rw[bC _ k rfl (by omega)]
   try rfl
 ·try simp only[aR]at hb0
  exact aH (av X [4] rfl (ak (ah rfl ⟨by rw[List.take_of_length_le hb0]at hall;rw[cF,hall];exact(congrArg Value.bool (by simp only[aO]<;>first|rfl|ac_rfl)),⟨⟩⟩)))
theorem jE(sd rows:Int):So 111 [aA sd,aA rows] [.a (.sl .int (bw sd rows))]:=by
 refine aq X call111 func111 ntmps111 rfl rfl ?_
 intro zb
 refine av X [0,1] rfl (af (aC X [] [(9,⟨false,[aG (inr rows 0 64)]⟩)] [0,1,10] [] rfl (by(with_reducible and_intros)<;>first|exact⟨⟩|exact(aL rows 0 64)) ?_))
 refine an rfl ?_ ?_<;>intro hb0
 ·try simp only[aR]at hb0
  exact av X [4] rfl (ak (ah rfl ⟨by rw[bw,if_neg (by omega)],⟨⟩⟩))
 ·try simp only[aR]at hb0
  refine au (aD X [0,1,5] rfl (by and_intros<;>first|exact⟨⟩|exact rfl) (af (av X [0,5,12,13] rfl ?_)))
  refine ay (aE (fun k=>k≤rows.toNat) (fun k:Nat=> [(13, .one ((aA k)))]) (fun k=> [(11, .arr .int ((bw sd rows).take k))]) (fun k=>rows.toNat-k) 0 (fun k=>rfl) (Nat.zero_le _) rfl ?_)
  intro k hk
  have hle:=bl (bw sd rows) k
  have hrl:=gJ sd rows
  refine av X [0,5,12,13,14] rfl ?_
  refine af (an rfl ?_ ?_)<;>intro bf
  ·try simp only[aR]at bf
   have hs:=xq sd rows k (by omega) (by omega)
   refine au (af (ay (av X [0,5,6,12,13] rfl (aC X [] [(19,⟨false,[aA (kh sd [(k:Int),41])]⟩)] [0,5,7,12,13] [] rfl (by(repeat' with_reducible first|exact aK|refine aQ ?_ ?_|apply And.intro)<;>first|exact(bG sd [(k:Int),41] (by first|assumption|omega| (simp;done)| (simp;omega)))|exact⟨rfl,aP _ (by decide)⟩) ?_))))
   refine aN X [(28,11)] [] [0,5,12,13] [] rfl (by and_intros<;>first|exact⟨⟩| (intros;omega)|exact rfl| (simp only[cK,maxLen,lens];omega)) (bu X [0,5,12,13] rfl ?_)
   refine⟨k+1,by omega,by omega,?_⟩
   rw[bC _ k rfl (by omega),hs]
   try rfl
  ·try simp only[aR]at bf
   exact aH (av X [4] rfl (ak (ah rfl ⟨by rw[AR _ _ _ (by omega)],⟨⟩⟩)))
theorem sG(rows i:Int):So 221 [aA rows,aA i] [.a (.sl .int (lR rows i))]:=by
 refine aq X call221 func221 ntmps221 rfl rfl ?_
 intro zb
 refine av X [0,1] rfl (af (aC X [] [(7,⟨false,[aG (inr rows 1 64)]⟩),(13,⟨false,[aG (inr i 0 (IntKind.i64.wrap (rows-1)))]⟩)] [0,1,15] [] rfl (by(with_reducible and_intros);(iterate 2 all_goals try first|exact⟨⟩|exact(aL rows 1 64)|exact fun _=>(aL i 0 (IntKind.i64.wrap (rows-1))))) ?_))
 refine an rfl ?_ ?_<;>intro hb0
 ·have hk:fW rows i=false:=bP hb0 (by simp only[fW,aO]<;>first|rfl|ac_rfl)
  exact av X [4] rfl (ak (ah rfl ⟨by rw[zq hk],⟨⟩⟩))
 ·have hk:fW rows i=true:=bO hb0 (by simp only[fW,aO]<;>first|rfl|ac_rfl)
  have hu:=oZ hk
  exact au (aD X [1,5] rfl (by and_intros<;>first|exact⟨⟩| (intros;omega)|exact rfl| (simp only[cK,maxLen,lens];omega)) (aD X [5] rfl (by and_intros<;>first|exact⟨⟩| (intros;omega)| (simp only[cK,maxLen,lens];omega)) (av X [4] rfl (ak (ah rfl ⟨by rw[mu hk],⟨⟩⟩)))))
theorem sH(a b:List Int)(ha:a.length≤1048576)(hb:b.length≤1048576):So 222 [.a (.sl .int a), .a (.sl .int b)] [.a (.sl .int (kD a b))]:=by
 refine aq X call222 func222 ntmps222 rfl rfl ?_
 intro zb
 refine av X [0,1] rfl (af (aC X [] [(11,⟨false,[aG (cF a (a.length:Int))]⟩),(17,⟨false,[aG (cF b (a.length:Int))]⟩)] [0,1,19] [] rfl (by(with_reducible and_intros);(iterate 2 all_goals try first|exact⟨⟩|exact(iP a (a.length:Int))|exact fun _=>(iP b (a.length:Int)))) ?_))
 refine an rfl ?_ ?_<;>intro hb0
 ·have uV:jD a b=false:=bP hb0 (by simp only[jD,aO]<;>first|rfl|ac_rfl)
  exact av X [4] rfl (ak (ah rfl ⟨by rw[kD,if_neg (by rw[uV];decide)],⟨⟩⟩))
 ·have uV:jD a b=true:=bO hb0 (by simp only[jD,aO]<;>first|rfl|ac_rfl)
  have Em:=mq uV
  have hzl:=xu uV
  refine au (aC X [] [(21,⟨true,[.a (.sl .int _)]⟩)] [1,5] [] rfl (by(with_reducible and_intros)<;>first|exact⟨⟩|exact(fU _ (by first|assumption|omega| (simp;done)| (simp;omega)))) (af (av X [5,22,23,24] rfl ?_)))
  refine ay (aE (fun k=>k≤b.length) (fun k:Nat=> [(24, .one ((aA k)))]) (fun k=> [(21, .arr .int ((List.zipWith xb a b).take k++a.drop k))]) (fun k=>b.length-k) 0 (fun k=>rfl) (Nat.zero_le _) rfl ?_)
  intro k hk
  have hle:=jt (List.zipWith xb a b) a k hzl (by omega)
  refine av X [5,22,23,24,25] rfl ?_
  refine af (an rfl ?_ ?_)<;>intro bf
  ·try simp only[aR]at bf
   have hs:=IZ uV k bf
   refine au (af (ay (aD X [5,6,7,22,23,24] rfl (by and_intros<;>first|exact⟨⟩| (intros;omega)) (iV X [5,22,23,24] rfl (by and_intros<;>first|exact⟨⟩| (intros;omega)) (bu X [5,22,23,24] rfl ?_)))))
   refine⟨k+1,by omega,by omega,?_⟩
   rw[bC _ k rfl (by omega),hs]
   try rfl
  ·try simp only[aR]at bf
   exact aH (av X [4] rfl (ak (ah rfl ⟨by rw[mg _ _ _ hzl (by omega),qo uV],⟨⟩⟩)))
theorem zy(rows i:Int)(sd:List Int)(w6:sd.length≤1048576):So 164 [aA rows,aA i, .a (.sl .int sd)] [.a (.sl (.sl .int) (ia rows i sd))]:=by
 refine aq X call164 func164 ntmps164 rfl rfl ?_
 intro zb
 have hun:=zu rows i
 refine av X [0,1,2] rfl (aC X [] [(14,⟨true,[.a (.sl .int _)]⟩)] [0,2,7] [] rfl (by(with_reducible and_intros)<;>first|exact⟨⟩|exact(sG _ _)) (af (aC X [] [(22,⟨false,[aG (b7 (IntKind.i64.wrap ((sd.length:Int)+1)))]⟩)] [0,2,7,24] [] rfl (by(with_reducible and_intros)<;>first|exact⟨⟩|exact fun _=>(dR (IntKind.i64.wrap ((sd.length:Int)+1)))) ?_)))
 refine an rfl ?_ ?_<;>intro hb0
 ·have hmk:xw rows i sd=false:=bP hb0 (by simp only[xw,aO]<;>first|rfl|ac_rfl)
  exact av X [6] rfl (ak (ah rfl ⟨by rw[ia,if_neg (by rw[hmk];decide)],⟨⟩⟩))
 ·have hmk:xw rows i sd=true:=bO hb0 (by simp only[xw,aO]<;>first|rfl|ac_rfl)
  have Em:=I1 hmk w6
  refine au (aD X [0,2,7,8] rfl (by and_intros<;>first|exact⟨⟩|exact rfl) (af (av X [0,7,8,26,27,28] rfl ?_)))
  refine ay (aE (fun k=>k≤sd.length) (fun k:Nat=> [(28, .one ((aA k)))]) (fun k=> [(25, .arr (.sl .int) ((sd.take k).map fun s=>bw s rows)),(14, .arr .int (sD rows i (sd.take k)))]) (fun k=>sd.length-k) 0 (fun k=>rfl) (Nat.zero_le _) rfl ?_)
  intro k hk
  have hle:=bl sd k
  have hql:=zv rows i (sd.take k)
  refine av X [0,7,8,26,27,28,29] rfl ?_
  refine af (an rfl ?_ ?_)<;>intro bf
  ·try simp only[aR]at bf
   have hs:=lp (fun s=>bw s rows) sd k (aB .int) bf
   have oK:=Da rows i sd k bf
   have hrl:=gJ (sd.getD k (aB .int)) rows
   refine au (af (ay (aD X [0,7,8,10,26,27,28] rfl (by and_intros<;>first|exact⟨⟩| (intros;omega)) (aC X [] [(34,⟨true,[.a (.sl .int (bw (sd.getD k (aB .int)) rows))]⟩)] [0,7,8,11,26,27,28] [] rfl (by(with_reducible and_intros)<;>first|exact⟨⟩|exact(jE (sd.getD k (aB .int)) rows)) (af (ME X [(38,25)] [] [0,7,8,11,26,27,28] 2 25 rfl (by and_intros<;>first|exact⟨⟩|exact rfl| (simp only[cK,maxLen,lens];omega)) ?_))))))
   have t1:=(sH (sD rows i (sd.take k)) (bw (sd.getD k (aB .int)) rows) (by first|assumption|omega| (simp;done)| (simp;omega)) (by first|assumption|omega| (simp;done)| (simp;omega)))
   refine aN X [] [(41,⟨true,bM t1⟩)] [0,7,8,26,27,28] [] rfl (by(with_reducible and_intros)<;>first|exact⟨⟩|exact t1) (mw 7 14 rfl (bu X [0,7,8,26,27,28] rfl ?_))
   refine⟨k+1,by omega,by omega,?_⟩
   rw[bC _ k rfl (by omega),hs,oK]
   try rfl
  ·try simp only[aR]at bf
   exact aH (aC X [(46,25)] [] [6] [] rfl (by and_intros<;>first|exact⟨⟩|exact rfl| (simp only[cK,maxLen,lens];omega)) (ak (ah rfl ⟨by rw[List.take_of_length_le bf,ia,if_pos hmk],⟨⟩⟩)))
theorem jF(sd rows:Int):So 140 [aA sd,aA rows] [.a (.sl .int (bw sd rows))]:=by
 refine aq X call140 func140 ntmps140 rfl rfl ?_
 intro zb
 refine av X [0,1] rfl (aD X [0,1,5] rfl (by and_intros<;>first|exact⟨⟩|exact rfl) (af (av X [0,1,5,6] rfl ?_)))
 refine ay (aE (fun k=>k≤(bw sd rows).length) (fun k:Nat=> [(6, .one ((aA k)))]) (fun k=> [(8, .arr .int ((bw sd rows).take k))]) (fun k=>(bw sd rows).length-k) 0 (fun k=>rfl) (Nat.zero_le _) rfl ?_)
 intro k hk
 have hle:=bl (bw sd rows) k
 have hrl:=gJ sd rows
 refine af (av X [0,1,5,6,15] rfl ?_)
 refine an rfl ?_ ?_<;>intro hb0
 ·try simp only[aR]at hb0
  have hin:=C9 sd rows k (by omega) (by omega)
  have hs:=xq sd rows k (by omega) (by omega)
  refine au (af (ay (aC X [] [(21,⟨false,[aA (kh sd [(k:Int),41])]⟩)] [0,1,5,6,7] [] rfl (by(repeat' with_reducible first|exact aK|refine aQ ?_ ?_|apply And.intro)<;>first|exact(bp sd [(k:Int),41] (by first|assumption|omega| (simp;done)| (simp;omega)))|exact⟨rfl,aP _ (by decide)⟩) ?_)))
  refine aN X [(30,8)] [] [0,1,5,6] [] rfl (by and_intros<;>first|exact⟨⟩| (intros;omega)|exact rfl| (simp only[cK,maxLen,lens];omega)) (bu X [0,1,5,6] rfl ?_)
  refine⟨k+1,by omega,by omega,?_⟩
  rw[bC _ k rfl (by omega),hs]
  try rfl
 ·try simp only[aR]at hb0
  exact aH (av X [4] rfl (ak (ah rfl ⟨by rw[AR _ _ _ (by omega)],⟨⟩⟩)))
theorem sI(rows i:Int):So 243 [aA rows,aA i] [.a (.sl .int (lR rows i))]:=by
 refine aq X call243 func243 ntmps243 rfl rfl ?_
 intro zb
 refine av X [0,1] rfl (af (aC X [] [(7,⟨false,[aG (inr rows 1 64)]⟩),(13,⟨false,[aG (inr i 0 (IntKind.i64.wrap (rows-1)))]⟩)] [0,1,15] [] rfl (by(with_reducible and_intros);(iterate 2 all_goals try first|exact⟨⟩|exact(aW rows 1 64)|exact fun _=>(aW i 0 (IntKind.i64.wrap (rows-1))))) ?_))
 refine an rfl ?_ ?_<;>intro hb0
 ·have hk:fW rows i=false:=bP hb0 (by simp only[fW,aO]<;>first|rfl|ac_rfl)
  exact aD X [4] rfl (by and_intros<;>first|exact⟨⟩|exact rfl) (ak (ah rfl ⟨by rw[zq hk],⟨⟩⟩))
 ·have hk:fW rows i=true:=bO hb0 (by simp only[fW,aO]<;>first|rfl|ac_rfl)
  have hu:=oZ hk
  exact au (aD X [1,5] rfl (by and_intros<;>first|exact⟨⟩| (intros;omega)|exact rfl| (simp only[cK,maxLen,lens];omega)) (aD X [5] rfl (by and_intros<;>first|exact⟨⟩| (intros;omega)| (simp only[cK,maxLen,lens];omega)) (av X [4] rfl (ak (ah rfl ⟨by rw[mu hk],⟨⟩⟩)))))
theorem sJ(a b:List Int)(ha:a.length≤1048576)(hb:b.length≤1048576):So 244 [.a (.sl .int a), .a (.sl .int b)] [.a (.sl .int (kD a b))]:=by
 refine aq X call244 func244 ntmps244 rfl rfl ?_
 intro zb
 refine av X [0,1] rfl (aD X [0,1,5] rfl (by and_intros<;>first|exact⟨⟩|exact rfl) (af (aC X [] [(11,⟨false,[aG (cF a (a.length:Int))]⟩),(17,⟨false,[aG (cF b (a.length:Int))]⟩)] [0,1,5,19] [] rfl (by(with_reducible and_intros);(iterate 2 all_goals try first|exact⟨⟩|exact(iQ a (a.length:Int))|exact fun _=>(iQ b (a.length:Int)))) ?_)))
 refine an rfl ?_ ?_<;>intro hb0
 ·have uV:jD a b=false:=bP hb0 (by simp only[jD,aO]<;>first|rfl|ac_rfl)
  exact av X [4] rfl (ak (ah rfl ⟨by rw[kD,if_neg (by rw[uV];decide)],⟨⟩⟩))
 ·have uV:jD a b=true:=bO hb0 (by simp only[jD,aO]<;>first|rfl|ac_rfl)
  have Em:=mq uV
  have hzl:=xu uV
  refine au (af (av X [0,1,5,6] rfl ?_))
  refine ay (aE (fun k=>k≤a.length) (fun k:Nat=> [(6, .one ((aA k)))]) (fun k=> [(7, .arr .int ((List.zipWith xb a b).take k))]) (fun k=>a.length-k) 0 (fun k=>rfl) (Nat.zero_le _) rfl ?_)
  intro k hk
  have hle:=bl (List.zipWith xb a b) k
  refine af (av X [0,1,5,6,24] rfl ?_)
  refine an rfl ?_ ?_<;>intro bf
  ·try simp only[aR]at bf
   have hs:=I0 uV k bf
   refine au (af (ay (aF X [(38,7)] [] [0,1,5,6] [] 2047 0 MO (by kernel_rfl) rfl (by kernel_rfl) (by and_intros<;>first|exact⟨⟩| (intros;omega)|exact rfl| (simp only[cK,maxLen,lens];omega)) (bu X [0,1,5,6] rfl ?_))))
   refine⟨k+1,by omega,by omega,?_⟩
   rw[bC _ k rfl (by omega),hs]
   try rfl
  ·try simp only[aR]at bf
   exact aH (av X [4] rfl (ak (ah rfl ⟨by rw[List.take_of_length_le (by omega),qo uV],⟨⟩⟩)))
theorem zz(rows i:Int)(sd:List Int)(w6:sd.length≤1048576):So 198 [aA rows,aA i, .a (.sl .int sd)] [.a (.sl (.sl .int) (ia rows i sd))]:=by
 refine aq X call198 func198 ntmps198 rfl rfl ?_
 intro zb
 have hun:=zu rows i
 refine av X [0,1,2] rfl (aD X [0,1,2,7] rfl (by and_intros<;>first|exact⟨⟩|exact rfl) (aC X [] [(14,⟨true,[.a (.sl .int _)]⟩)] [0,2,7,8] [] rfl (by(with_reducible and_intros)<;>first|exact⟨⟩|exact(sI _ _)) (af (aC X [] [(22,⟨false,[aG (b7 (IntKind.i64.wrap ((sd.length:Int)+1)))]⟩)] [0,2,7,8,24] [] rfl (by(with_reducible and_intros)<;>first|exact⟨⟩|exact fun _=>(fL (IntKind.i64.wrap ((sd.length:Int)+1)))) ?_))))
 refine an rfl ?_ ?_<;>intro hb0
 ·have hmk:xw rows i sd=false:=bP hb0 (by simp only[xw,aO]<;>first|rfl|ac_rfl)
  exact av X [6] rfl (ak (ah rfl ⟨by rw[ia,if_neg (by rw[hmk];decide)],⟨⟩⟩))
 ·have hmk:xw rows i sd=true:=bO hb0 (by simp only[xw,aO]<;>first|rfl|ac_rfl)
  have Em:=I1 hmk w6
  refine au (af (av X [0,2,7,8,9] rfl ?_))
  refine ay (aE (fun k=>k≤sd.length) (fun k:Nat=> [(9, .one ((aA k)))]) (fun k=> [(11, .arr (.sl .int) ((sd.take k).map fun s=>bw s rows)),(14, .arr .int (sD rows i (sd.take k)))]) (fun k=>sd.length-k) 0 (fun k=>rfl) (Nat.zero_le _) rfl ?_)
  intro k hk
  have hle:=bl sd k
  have hql:=zv rows i (sd.take k)
  refine af (av X [0,2,7,8,9,29] rfl ?_)
  refine an rfl ?_ ?_<;>intro bf
  ·try simp only[aR]at bf
   have hs:=lp (fun s=>bw s rows) sd k (aB .int) bf
   have oK:=Da rows i sd k bf
   have hrl:=gJ (sd.getD k (aB .int)) rows
   refine au (af (ay (aC X [] [(37,⟨true,[.a (.sl .int (bw (sd.getD k (aB .int)) rows))]⟩)] [0,2,7,8,9,10] [] rfl (by(with_reducible and_intros)<;>first|exact⟨⟩|exact(jF (sd.getD k (aB .int)) rows)| (intros;omega)) (af ?_))))
   have t1:=(sJ (sD rows i (sd.take k)) (bw (sd.getD k (aB .int)) rows) (by first|assumption|omega| (simp;done)| (simp;omega)) (by first|assumption|omega| (simp;done)| (simp;omega)))
   refine aN X [] [(40,⟨true,bM t1⟩)] [0,2,7,8,9,10] [] rfl (by(with_reducible and_intros)<;>first|exact⟨⟩|exact t1) (mw 8 14 rfl (aN X [(44,11)] [] [0,2,7,8,9] [] rfl (by and_intros<;>first|exact⟨⟩|exact rfl| (simp only[cK,maxLen,lens];omega)) (bu X [0,2,7,8,9] rfl ?_)))
   refine⟨k+1,by omega,by omega,?_⟩
   rw[bC _ k rfl (by omega),hs,oK]
   try rfl
  ·try simp only[aR]at bf
   exact aH (aC X [(48,11)] [] [6] [] rfl (by and_intros<;>first|exact⟨⟩|exact rfl| (simp only[cK,maxLen,lens];omega)) (ak (ah rfl ⟨by rw[List.take_of_length_le bf,ia,if_pos hmk],⟨⟩⟩)))
end
section
set_option maxRecDepth 100000
theorem zA(x:aV)(r row s:Int)(lP:x.aj.length≤1048576):So 165 [.agg (aU x),aA r,aA row,aA s] [.a (.sl .int (fD x.aj.length r row s))]:=by
 refine aq X call165 func165 ntmps165 rfl rfl ?_
 intro zb
 have hw:IntKind.i64.wrap ((x.aj.length:Int)-1)=(x.aj.length:Int)-1:=bh (by omega)
 refine av X [1,2,3,4] rfl (aD X [1,2,3,4,9] rfl (by and_intros<;>first|exact⟨⟩|exact rfl) (af (av X [1,2,3,9,16,17] rfl ?_)))
 refine ay (aE (fun k=>k≤(x.aj.length-1)) (fun k:Nat=> [(17, .one ((aA k)))]) (fun k=> [(11, .arr .int ((fD x.aj.length r row s).take k))]) (fun k=>(x.aj.length-1)-k) 0 (fun k=>rfl) (Nat.zero_le _) rfl ?_)
 intro k hk
 have hle:=bl (fD x.aj.length r row s) k
 have hrl:=kE x.aj.length r row s
 refine av X [1,2,3,9,16,17,18] rfl ?_
 refine af (an rfl ?_ ?_)<;>intro hb0
 ·try simp only[aR]at hb0
  rw[MD _ lP]at hb0
  have hs:=AS x.aj.length r row s k (by omega)
  refine au (af (ay (av X [1,2,3,9,10,16,17] rfl (aN X [(28,11)] [(26,⟨false,[aA (kh s [229,r,row,(k:Int)])]⟩)] [1,2,3,9,16,17] [] rfl (by(repeat' with_reducible first|exact aK|refine aQ ?_ ?_|apply And.intro)<;>first|exact(bG s [229,r,row,(k:Int)] (by first|assumption|omega| (simp;done)| (simp;omega)))|exact rfl|exact⟨rfl,aP _ (by decide)⟩| (simp only[cK,maxLen,lens];omega)) ?_))))
  refine bu X [1,2,3,9,16,17] rfl ?_
  refine⟨k+1,by omega,by omega,?_⟩
  rw[bC _ k rfl (by omega),hs]
  try rfl
 ·try simp only[aR]at hb0
  rw[MD _ lP]at hb0
  exact aH (av X [8] rfl (ak (ah rfl ⟨by rw[List.take_of_length_le (by omega)],⟨⟩⟩)))
end
section
set_option maxRecDepth 100000
theorem ct(d:DB)(hs0:cQ List.length d.rows≤1048576):So 148 [.agg (aS d)] [.agg (aS d)]:=by
 refine aq X call148 func148 ntmps148 rfl rfl ?_
 intro zb
 exact av X [1,2] rfl (aC X [] [(5,⟨true,[.a (.sl (.sl .u8) d.rows)]⟩)] [2] [] rfl (by(with_reducible and_intros)<;>first|exact⟨⟩|exact(kA d.rows (by first|assumption|omega| (simp;done)| (simp;omega)))) (ak (ah rfl ⟨rfl,⟨⟩⟩)))
theorem dN(d:DB)(hs0:cQ List.length d.rows≤1048576):So 94 [.agg (aS d)] [.agg (aS d)]:=by
 refine aq X call94 func94 ntmps94 rfl rfl ?_
 intro zb
 exact av X [1,2] rfl (aC X [] [(5,⟨true,[.a (.sl (.sl .u8) d.rows)]⟩)] [2] [] rfl (by(with_reducible and_intros)<;>first|exact⟨⟩|exact(oB d.rows (by first|assumption|omega| (simp;done)| (simp;omega)))) (ak (ah rfl ⟨rfl,⟨⟩⟩)))
theorem mZ(rows:Int):So 219 [aA rows] [.agg (aS (cE rows))]:=by
 refine aq X call219 func219 ntmps219 rfl rfl ?_
 intro zb
 refine av X [0,2] rfl (av X [0,2,3] rfl (gU 3 0 60 (.sl .u8) rfl (af (aC X [] [(6,⟨false,[aG (inr rows 0 64)]⟩)] [0,2,3,6] [] rfl (by(with_reducible and_intros)<;>first|exact⟨⟩|exact(aL rows 0 64)) ?_))))
 refine an rfl ?_ ?_<;>intro hb0
 ·try simp only[aR]at hb0
  refine av X [2,3,7,8] rfl ?_
  refine ay (aE (fun k=>k≤rows.toNat) (fun k:Nat=> [(8, .one ((aA k)))]) (fun k=> [(60, .arr (.sl .u8) ((cE rows).rows.take k))]) (fun k=>rows.toNat-k) 0 (fun k=>rfl) (Nat.zero_le _) rfl ?_)
  intro k hk
  have hle:=bl (cE rows).rows k
  have hnl:=mz rows
  refine av X [2,3,7,8,9] rfl ?_
  refine af (an rfl ?_ ?_)<;>intro bf
  ·try simp only[aR]at bf
   have hs:=De rows k (by omega) (by omega)
   refine au (af (ay (aF X [(14,60)] [(500013,⟨true,[]⟩)] [2,3,7,8] [] 15 0 MO (by kernel_rfl) rfl (by kernel_rfl) (by and_intros<;>first|exact⟨⟩| (intros;omega)|exact rfl| (simp only[cK,maxLen,lens];omega)) (bu X [2,3,7,8] rfl ?_))))
   refine⟨k+1,by omega,by omega,?_⟩
   rw[bC _ k rfl (by omega),hs]
   try rfl
  ·try simp only[aR]at bf
   exact aH (aD X [2] rfl (by trivial) (ak (ah rfl ⟨by rw[Fi _ _ (by omega)],⟨⟩⟩)))
 ·try simp only[aR]at hb0
  exact au (aD X [2] rfl (by trivial) (ak (ah rfl ⟨by unfold cE;dsimp only;rw[if_neg (by omega)],⟨⟩⟩)))
theorem xB(d:DB)(i:Int)(c:List UInt8)(hs0:cQ List.length d.rows≤1048576)(hc:c.length≤1048576):So 251 [.agg (aS d),aA i, .a (.sl .u8 c)] [.agg (aS (AU d i c)),aG (jG d i c)]:=by
 refine aq X call251 func251 ntmps251 rfl rfl ?_
 intro zb
 have jV:d.rows.length≤1048576:=dc hs0
 refine av X [1,2,3,6] rfl (aC X [] [(10,⟨true,[.agg (aS d)]⟩)] [1,2,3,6,8] [] rfl (by(with_reducible and_intros)<;>first|exact⟨⟩|exact(ct d (by first|assumption|omega| (simp;done)| (simp;omega)))) (af (af ?_)))
 have t1:=(aL i 0 (IntKind.i64.wrap ((d.rows.length:Int)-1)))
 refine aN X [] [(16,⟨false,bM t1⟩)] [1,2,6,8,22] [] rfl (by(with_reducible and_intros)<;>first|exact⟨⟩|exact t1) ?_
 refine an rfl ?_ ?_<;>intro hb0
 ·have Ez:jG d i c=false:=bP hb0 (by simp only[jG,aO]<;>first|rfl|ac_rfl)
  exact aD X [6,7] rfl (by trivial) (ak (ah rfl ⟨by rw[Fj Ez],by rw[Ez],⟨⟩⟩))
 ·have Ez:jG d i c=true:=bO hb0 (by simp only[jG,aO]<;>first|rfl|ac_rfl)
  have hrb:=BG jV Ez
  exact au (af (aF X [] [(28,⟨true,[.a (.sl .u8 _)]⟩)] [6,8] [] 63 0 MO (by kernel_rfl) rfl (by kernel_rfl) (by(with_reducible and_intros)<;>first|exact⟨⟩|exact(cj _ (by first|assumption|omega| (simp;done)| (simp;omega)))| (intros;omega)) (aD X [6,7] rfl (by trivial) (ak (ah rfl ⟨by rw[o7 Ez],by rw[Ez],⟨⟩⟩)))))
theorem iy(a b:DB)(hs0:cQ List.length a.rows≤1048576)(hs1:cQ List.length b.rows≤1048576):So 163 [.agg (aS a), .agg (aS b)] [.agg (aS (eL a b)),aG (gu a b)]:=by
 refine aq X call163 func163 ntmps163 rfl rfl ?_
 intro zb
 have hla:a.rows.length≤1048576:=dc hs0
 have hlb:b.rows.length≤1048576:=dc hs1
 refine av X [2,3,4] rfl (aC X [] [(10,⟨true,[.agg (aS a)]⟩)] [2,3,4,6] [] rfl (by(with_reducible and_intros)<;>first|exact⟨⟩|exact(ct a (by first|assumption|omega| (simp;done)| (simp;omega)))) (af (aC X [] [(12,⟨false,[aG (cg a)]⟩),(16,⟨false,[aG (cg b)]⟩)] [3,4,6,27] [] rfl (by(with_reducible and_intros);(iterate 2 all_goals try first|exact⟨⟩|exact(cM a)|exact fun _=>(cM b))) ?_)))
 refine an rfl ?_ ?_<;>intro hb0
 ·have uV:gu a b=false:=bP hb0 (by simp only[gu,aO]<;>first|rfl|ac_rfl)
  exact aD X [4,5] rfl (by trivial) (ak (ah rfl ⟨by rw[o8 uV],by rw[uV],⟨⟩⟩))
 ·have uV:gu a b=true:=bO hb0 (by simp only[gu,aO]<;>first|rfl|ac_rfl)
  have Wp:=qp uV
  have hxl:=gK uV
  refine au (af (av X [4,6,30,31,32] rfl ?_))
  refine ay (aE (fun k=>k≤b.rows.length) (fun k:Nat=> [(32, .one ((aA k)))]) (fun k=> [(10, .arr (.sl .u8) ((eV a b).take k++a.rows.drop k))]) (fun k=>b.rows.length-k) 0 (fun k=>rfl) (Nat.zero_le _) rfl ?_)
  intro k hk
  have hle:=jt (eV a b) a.rows k hxl (by omega)
  refine av X [4,6,30,31,32,33] rfl ?_
  refine af (an rfl ?_ ?_)<;>intro bf
  ·try simp only[aR]at bf
   have hs:=I4 uV k bf
   have aaT:(a.rows.getD k (aB (.sl .u8))).length≤1048576:=by rw[kU Wp.1 k (by omega)];decide
   have adq:(b.rows.getD k (aB (.sl .u8))).length≤1048576:=by rw[kU Wp.2.1 k (by omega)];decide
   have hel:(((eV a b).take k++a.rows.drop k).getD k (aB (.sl .u8))).length≤1048576:=by rw[Vi uV k bf];exact aaT
   refine au (af (ay (aD X [4,6,7,8,30,31,32] rfl (by and_intros<;>first|exact⟨⟩| (intros;omega)) ?_)))
   have t1:=(iF (((eV a b).take k++a.rows.drop k).getD k (aB (.sl .u8))) (b.rows.getD k (aB (.sl .u8))) (by first|assumption|omega| (simp;done)| (simp;omega)) (by first|assumption|omega| (simp;done)| (simp;omega)))
   refine aF X [] [(46,⟨true,bM t1⟩)] [4,6,30,31,32] [] 2047 0 MO (by kernel_rfl) rfl (by kernel_rfl) (by(with_reducible and_intros)<;>first|exact⟨⟩|exact t1| (intros;omega)) (bu X [4,6,30,31,32] rfl ?_)
   refine⟨k+1,by omega,by omega,?_⟩
   rw[bC _ k rfl (by omega),hs]
   try rfl
  ·try simp only[aR]at bf
   exact aH (aD X [4,5] rfl (by trivial) (ak (ah rfl ⟨by rw[mg _ _ _ hxl (by omega),mC uV],by rw[uV],⟨⟩⟩)))
theorem xC(x:aV)(c:Int)(lP:x.aj.length≤1048576):So 154 [.agg (aU x),aA c] [.a (.sl .int (eW x c))]:=by
 refine aq X call154 func154 ntmps154 rfl rfl ?_
 intro zb
 have hw:IntKind.i64.wrap ((x.aj.length:Int)-1)=(x.aj.length:Int)-1:=bh (by omega)
 refine av X [1,2] rfl (aD X [1,2,5] rfl (by and_intros<;>first|exact⟨⟩|exact rfl) (af (av X [1,2,5,12,13] rfl ?_)))
 refine ay (aE (fun k=>k≤(x.aj.length-1)) (fun k:Nat=> [(13, .one ((aA k)))]) (fun k=> [(7, .arr .int ((eW x c).take k))]) (fun k=>(x.aj.length-1)-k) 0 (fun k=>rfl) (Nat.zero_le _) rfl ?_)
 intro k hk
 have hle:=bl (eW x c) k
 have hrl:=iR x c
 refine av X [1,2,5,12,13,14] rfl ?_
 refine af (an rfl ?_ ?_)<;>intro hb0
 ·try simp only[aR]at hb0
  rw[MD _ lP]at hb0
  have hs:=AV x c k (by omega)
  refine au (af (ay (av X [1,2,5,6,12,13] rfl (aN X [(26,7)] [(24,⟨false,[aA (kh x.seed [223,x.round,c,(k:Int)])]⟩)] [1,2,5,12,13] [] rfl (by(repeat' with_reducible first|exact aK|refine aQ ?_ ?_|apply And.intro)<;>first|exact(bG x.seed [223,x.round,c,(k:Int)] (by first|assumption|omega| (simp;done)| (simp;omega)))|exact rfl|exact⟨rfl,aP _ (by decide)⟩| (simp only[cK,maxLen,lens];omega)) ?_))))
  refine bu X [1,2,5,12,13] rfl ?_
  refine⟨k+1,by omega,by omega,?_⟩
  rw[bC _ k rfl (by omega),hs]
  try rfl
 ·try simp only[aR]at hb0
  rw[MD _ lP]at hb0
  exact aH (av X [4] rfl (ak (ah rfl ⟨by rw[List.take_of_length_le (by omega)],⟨⟩⟩)))
theorem m6(rows:Int):So 238 [aA rows] [.agg (aS (cE rows))]:=by
 refine aq X call238 func238 ntmps238 rfl rfl ?_
 intro zb
 refine av X [0,2] rfl (av X [0,2,3] rfl (gU 3 0 60 (.sl .u8) rfl (af (av X [0,2,3,4] rfl ?_))))
 refine ay (aE (fun k=>k≤(cE rows).rows.length) (fun k:Nat=> [(4, .one ((aA k)))]) (fun k=> [(60, .arr (.sl .u8) ((cE rows).rows.take k))]) (fun k=>(cE rows).rows.length-k) 0 (fun k=>rfl) (Nat.zero_le _) rfl ?_)
 intro k hk
 have hle:=bl (cE rows).rows k
 have hnl:=mz rows
 refine af (av X [0,2,3,4,12] rfl ?_)
 refine an rfl ?_ ?_<;>intro hb0
 ·try simp only[aR]at hb0
  have hin:=RD rows k (by omega) (by omega)
  have hs:=De rows k (by omega) (by omega)
  refine au (af (ay (aF X [(19,60)] [(500018,⟨true,[]⟩)] [0,2,3,4] [] 15 0 MO (by kernel_rfl) rfl (by kernel_rfl) (by and_intros<;>first|exact⟨⟩| (intros;omega)|exact rfl| (simp only[cK,maxLen,lens];omega)) (bu X [0,2,3,4] rfl ?_))))
  refine⟨k+1,by omega,by omega,?_⟩
  rw[bC _ k rfl (by omega),hs]
  try rfl
 ·try simp only[aR]at hb0
  exact aH (aD X [2] rfl (by trivial) (ak (ah rfl ⟨by rw[Fi _ _ (by omega)],⟨⟩⟩)))
theorem xD(d:DB)(i:Int)(c:List UInt8)(hs0:cQ List.length d.rows≤1048576)(hc:c.length≤1048576):So 237 [.agg (aS d),aA i, .a (.sl .u8 c)] [.agg (aS (AU d i c)),aG (jG d i c)]:=by
 refine aq X call237 func237 ntmps237 rfl rfl ?_
 intro zb
 have jV:d.rows.length≤1048576:=dc hs0
 refine av X [1,2,3,6] rfl (aC X [] [(10,⟨true,[.agg (aS d)]⟩)] [1,2,3,6,8] [] rfl (by(with_reducible and_intros)<;>first|exact⟨⟩|exact(dN d (by first|assumption|omega| (simp;done)| (simp;omega)))) (af (af ?_)))
 have t1:=(aW i 0 (IntKind.i64.wrap ((d.rows.length:Int)-1)))
 refine aN X [] [(16,⟨false,bM t1⟩)] [1,2,6,8,22] [] rfl (by(with_reducible and_intros)<;>first|exact⟨⟩|exact t1) ?_
 refine an rfl ?_ ?_<;>intro hb0
 ·have Ez:jG d i c=false:=bP hb0 (by simp only[jG,aO]<;>first|rfl|ac_rfl)
  exact aD X [6,7] rfl (by trivial) (ak (ah rfl ⟨by rw[Fj Ez],by rw[Ez],⟨⟩⟩))
 ·have Ez:jG d i c=true:=bO hb0 (by simp only[jG,aO]<;>first|rfl|ac_rfl)
  have hrb:=BG jV Ez
  exact au (af (aF X [(29,27)] [] [6,8] [] 95 5 MO (by kernel_rfl) rfl (by kernel_rfl) (by and_intros<;>first|exact⟨⟩| (intros;omega)|exact rfl| (simp only[cK,maxLen,lens];omega)) (aD X [6,7] rfl (by trivial) (ak (ah rfl ⟨by rw[o7 Ez];rfl,by rw[Ez],⟨⟩⟩)))))
theorem iz(a b:DB)(hs0:cQ List.length a.rows≤1048576)(hs1:cQ List.length b.rows≤1048576):So 195 [.agg (aS a), .agg (aS b)] [.agg (aS (eL a b)),aG (gu a b)]:=by
 refine aq X call195 func195 ntmps195 rfl rfl ?_
 intro zb
 have hla:a.rows.length≤1048576:=dc hs0
 have hlb:b.rows.length≤1048576:=dc hs1
 refine av X [2,3,4] rfl (af (aC X [] [(9,⟨false,[aG (cg a)]⟩),(13,⟨false,[aG (cg b)]⟩)] [2,3,4,24] [] rfl (by(with_reducible and_intros);(iterate 2 all_goals try first|exact⟨⟩|exact(cC a)|exact fun _=>(cC b))) ?_))
 refine an rfl ?_ ?_<;>intro hb0
 ·have uV:gu a b=false:=bP hb0 (by simp only[gu,aO]<;>first|rfl|ac_rfl)
  exact aC X [] [(26,⟨true,[.agg (aS a)]⟩)] [4,5] [] rfl (by(with_reducible and_intros)<;>first|exact⟨⟩|exact(dN a (by first|assumption|omega| (simp;done)| (simp;omega)))) (ak (ah rfl ⟨by rw[o8 uV],by rw[uV],⟨⟩⟩))
 ·have uV:gu a b=true:=bO hb0 (by simp only[gu,aO]<;>first|rfl|ac_rfl)
  have Wp:=qp uV
  have hxl:=gK uV
  refine au (av X [2,3,4,6] rfl (gU 6 0 60 (.sl .u8) rfl (af (av X [2,3,4,6,7] rfl ?_))))
  refine ay (aE (fun k=>k≤a.rows.length) (fun k:Nat=> [(7, .one ((aA k)))]) (fun k=> [(60, .arr (.sl .u8) ((eV a b).take k))]) (fun k=>a.rows.length-k) 0 (fun k=>rfl) (Nat.zero_le _) rfl ?_)
  intro k hk
  have hle:=bl (eV a b) k
  refine af (av X [2,3,4,6,7,32] rfl ?_)
  refine an rfl ?_ ?_<;>intro bf
  ·try simp only[aR]at bf
   have hs:=I3 uV k bf
   have aaT:(a.rows.getD k (aB (.sl .u8))).length≤1048576:=by rw[kU Wp.1 k (by omega)];decide
   have adq:(b.rows.getD k (aB (.sl .u8))).length≤1048576:=by rw[kU Wp.2.1 k (by omega)];decide
   refine au (af (ay ?_))
   have t1:=(iG (a.rows.getD k (aB (.sl .u8))) (b.rows.getD k (aB (.sl .u8))) (by first|assumption|omega| (simp;done)| (simp;omega)) (by first|assumption|omega| (simp;done)| (simp;omega)))
   refine aF X [(49,60)] [(47,⟨true,bM t1⟩),(500048,⟨true,[]⟩)] [2,3,4,6,7] [] 16383 0 MO (by kernel_rfl) rfl (by kernel_rfl) (by(repeat' with_reducible first|exact aK|refine aQ ?_ ?_|apply And.intro)<;>first|exact t1| (intros;omega)|exact rfl|exact⟨rfl,aP _ (by decide)⟩| (simp only[cK,maxLen,lens];omega)) ?_
   refine bu X [2,3,4,6,7] rfl ?_
   refine⟨k+1,by omega,by omega,?_⟩
   rw[bC _ k rfl (by omega),hs]
   try rfl
  ·try simp only[aR]at bf
   exact aH (aD X [4,5] rfl (by trivial) (ak (ah rfl ⟨by rw[List.take_of_length_le (by omega),mC uV],by rw[uV],⟨⟩⟩)))
theorem xE(x:aV)(c:Int)(lP:x.aj.length≤1048576):So 191 [.agg (aU x),aA c] [.a (.sl .int (eW x c))]:=by
 refine aq X call191 func191 ntmps191 rfl rfl ?_
 intro zb
 have hw:IntKind.i64.wrap ((x.aj.length:Int)-1)=(x.aj.length:Int)-1:=bh (by omega)
 refine av X [1,2] rfl (aD X [1,2,5] rfl (by and_intros<;>first|exact⟨⟩|exact rfl) (af (av X [1,2,5,6] rfl ?_)))
 refine ay (aE (fun k=>k≤(x.aj.length-1)) (fun k:Nat=> [(6, .one ((aA k)))]) (fun k=> [(7, .arr .int ((eW x c).take k))]) (fun k=>(x.aj.length-1)-k) 0 (fun k=>rfl) (Nat.zero_le _) rfl ?_)
 intro k hk
 have hle:=bl (eW x c) k
 have hrl:=iR x c
 refine af (av X [1,2,5,6,13] rfl ?_)
 refine an rfl ?_ ?_<;>intro hb0
 ·try simp only[aR]at hb0
  rw[hw]at hb0
  have hs:=AV x c k (by omega)
  refine au (af (ay (aN X [(26,7)] [(24,⟨false,[aA (kh x.seed [223,x.round,c,(k:Int)])]⟩)] [1,2,5,6] [] rfl (by(repeat' with_reducible first|exact aK|refine aQ ?_ ?_|apply And.intro)<;>first|exact(bp x.seed [223,x.round,c,(k:Int)] (by first|assumption|omega| (simp;done)| (simp;omega)))|exact rfl|exact⟨rfl,aP _ (by decide)⟩| (simp only[cK,maxLen,lens];omega)) ?_)))
  refine bu X [1,2,5,6] rfl ?_
  refine⟨k+1,by omega,by omega,?_⟩
  rw[bC _ k rfl (by omega),hs]
  try rfl
 ·try simp only[aR]at hb0
  rw[hw]at hb0
  exact aH (av X [4] rfl (ak (ah rfl ⟨by rw[List.take_of_length_le (by omega)],⟨⟩⟩)))
theorem zE(rows i:Int)(c:List UInt8)(hc:c.length≤1048576):So 215 [aA rows,aA i, .a (.sl .u8 c)] [.agg (aS (HN rows i c)),aG (lB rows i c)]:=by
 refine aq X call215 func215 ntmps215 rfl rfl ?_
 intro zb
 have hz:=Fk rows
 refine av X [0,1,2,6] rfl (af (aC X [] [(9,⟨false,[aG (inr rows 1 64)]⟩)] [0,1,2,6,10] [] rfl (by(with_reducible and_intros)<;>first|exact⟨⟩|exact(aL rows 1 64)) ?_))
 refine an rfl ?_ ?_<;>intro hb0
 ·have hk:inr rows 1 64=false:=by simpa using hb0
  exact aD X [6,7] rfl (by trivial) (ak (ah rfl ⟨by rw[HN,hk];rfl,by rw[lB,hk];rfl,⟨⟩⟩))
 ·have hk:inr rows 1 64=true:=by simpa using hb0
  refine au (af ?_)
  have t1:=(xB (cE rows) i c (by first|assumption|omega| (simp;done)| (simp;omega)) (by first|assumption|omega| (simp;done)| (simp;omega)))
  exact aN X [] [(13,⟨true,[.agg (aS (cE rows))]⟩),(16,⟨true,bM t1⟩)] [6,7] [] rfl (by(with_reducible and_intros);(iterate 2 all_goals try first|exact⟨⟩|exact(mZ rows)|exact t1)) (ak (ah rfl ⟨by rw[HN,if_pos hk],by rw[lB,hk];rfl,⟨⟩⟩))
end
section
set_option maxRecDepth 100000
theorem zF(rows i:Int)(c:List UInt8)(sd:List Int)(hc:c.length≤1048576)(w6:sd.length≤1048576):So 153 [aA rows,aA i, .a (.sl .u8 c), .a (.sl .int sd)] [.a (.sl .DB (lT rows i c sd))]:=by
 refine aq X call153 func153 ntmps153 rfl rfl ?_
 intro zb
 refine av X [0,1,2,3] rfl (aC X [] [(20,⟨true,[.agg (aS (HN rows i c)),aG (lB rows i c)]⟩)] [0,3,9,10] [] rfl (by(with_reducible and_intros)<;>first|exact⟨⟩|exact(zE rows i c (by first|assumption|omega| (simp;done)| (simp;omega)))) (af (aC X [] [(29,⟨false,[aG (b7 (IntKind.i64.wrap ((sd.length:Int)+1)))]⟩)] [0,3,9,31] [] rfl (by(with_reducible and_intros)<;>first|exact⟨⟩|exact fun _=>(dR (IntKind.i64.wrap ((sd.length:Int)+1)))) ?_)))
 refine an rfl ?_ ?_<;>intro hb0
 ·have hmk:nI rows i c sd=false:=bP hb0 (by simp only[nI,aO]<;>first|rfl|ac_rfl)
  exact av X [8] rfl (ak (ah rfl ⟨by rw[lT,if_neg (by rw[hmk];decide)],⟨⟩⟩))
 ·have hmk:nI rows i c sd=true:=bO hb0 (by simp only[nI,aO]<;>first|rfl|ac_rfl)
  have hml:=Jd hmk w6
  have hun:=vE hml.1
  refine au (aD X [0,3,9,11] rfl (by and_intros<;>first|exact⟨⟩|exact rfl) (af (av X [0,9,11,33,34,35] rfl ?_)))
  refine ay (aE (fun k=>k≤sd.length) (fun k:Nat=> [(35, .one ((aA k)))]) (fun k=> [(32, .arr .DB ((sd.take k).map fun s=>EA s rows)),(20, .arr (.sl .u8) (lS rows i c (sd.take k)).rows)]) (fun k=>sd.length-k) 0 (fun k=>rfl) (Nat.zero_le _) rfl ?_)
  intro k hk
  have hle:=bl sd k
  have hlo:=Dn hml.1 (sd.take k)
  have hlz:=dw hlo
  refine av X [0,9,11,33,34,35,36] rfl ?_
  refine af (an rfl ?_ ?_)<;>intro bf
  ·try simp only[aR]at bf
   have hs:=lp (fun s=>EA s rows) sd k (aB .int) bf
   have oK:=Dm rows i c sd k bf
   have hmo:=Dl (sd.getD k (aB .int)) rows hun.2.2
   have hmz:=dw hmo
   refine au (af (ay (aD X [0,9,11,13,33,34,35] rfl (by and_intros<;>first|exact⟨⟩| (intros;omega)) (av X [0,9,11,13,14,33,34,35] rfl (gU 14 0 60 (.sl .u8) rfl (af (av X [0,9,11,13,14,33,34,35,40,41] rfl ?_)))))))
   refine ay (aE (fun k1=>k1≤rows.toNat) (fun k1:Nat=> [(41, .one ((aA k1)))]) (fun k1=> [(60, .arr (.sl .u8) ((fI (sd.getD k (aB .int)) rows).take k1))]) (fun k1=>rows.toNat-k1) 0 (fun k1=>rfl) (Nat.zero_le _) rfl ?_)
   intro k1 hk1
   have Vd:=bl (fI (sd.getD k (aB .int)) rows) k1
   refine av X [0,9,11,13,14,33,34,35,40,41,42] rfl ?_
   refine af (an rfl ?_ ?_)<;>intro bU
   ·try simp only[aR]at bU
    have hs1:=xF (sd.getD k (aB .int)) rows k1 (by omega)
    refine au (af (ay (av X [0,9,11,13,14,15,33,34,35,40,41] rfl ?_)))
    have t1:=(iN (IntKind.i64.wrap ((sd.getD k (aB .int))+IntKind.i64.wrap (1000*(k1:Int)))) 24 (by first|assumption|omega| (simp;done)| (simp;omega)) (by first|assumption|omega| (simp;done)| (simp;omega)))
    refine aF X [(52,60)] [(50,⟨true,bM t1⟩),(500051,⟨true,[]⟩)] [0,9,11,13,14,33,34,35,40,41] [] 255 0 MO (by kernel_rfl) rfl (by kernel_rfl) (by(repeat' with_reducible first|exact aK|refine aQ ?_ ?_|apply And.intro)<;>first|exact t1|exact rfl|exact⟨rfl,aP _ (by decide)⟩| (simp only[cK,maxLen,lens];omega)) ?_
    refine bu X [0,9,11,13,14,33,34,35,40,41] rfl ?_
    refine⟨k1+1,by omega,by omega,?_⟩
    rw[bC _ k1 rfl (by omega),hs1]
    try rfl
   ·try simp only[aR]at bU
    rw[List.take_of_length_le (show(fI (sd.getD k (aB .int)) rows).length≤k1 by rw[jd];omega)]
    refine aH (af (ME X [(58,32)] [] [0,9,11,14,33,34,35] 2 32 rfl (by and_intros<;>first|exact⟨⟩|exact rfl| (simp only[cK,maxLen,lens];omega)) ?_))
    have t1:=(iy (lS rows i c (sd.take k)) (EA (sd.getD k (aB .int)) rows) (by first|assumption|omega| (simp;done)| (simp;omega)) (by first|assumption|omega| (simp;done)| (simp;omega)))
    refine aN X [] [(62,⟨true,bM t1⟩)] [0,9,11,33,34,35] [] rfl (by(with_reducible and_intros)<;>first|exact⟨⟩|exact t1) (kG 9 0 20 rfl (bu X [0,9,11,33,34,35] rfl ?_))
    refine⟨k+1,by omega,by omega,?_⟩
    rw[bC _ k rfl (by omega),hs,oK]
    try rfl
  ·try simp only[aR]at bf
   exact aH (aC X [(69,32)] [] [8] [] rfl (by and_intros<;>first|exact⟨⟩|exact rfl| (simp only[cK,maxLen,lens];omega)) (ak (ah rfl ⟨by rw[List.take_of_length_le bf,lT,if_pos hmk],⟨⟩⟩)))
theorem EB(rows i:Int)(c:List UInt8):So 236 [aA rows,aA i, .a (.sl .u8 c)] [aG (lB rows i c)]:=by
 refine aq X call236 func236 ntmps236 rfl rfl ?_
 intro zb
 exact av X [0,1,2] rfl (aC X [] [(8,⟨false,[aG (inr rows 1 64)]⟩),(13,⟨false,[aG (inr i 0 (IntKind.i64.wrap (rows-1)))]⟩)] [6] [] rfl (by(with_reducible and_intros);(iterate 2 all_goals try first|exact⟨⟩|exact(aW rows 1 64)|exact fun _=>(aW i 0 (IntKind.i64.wrap (rows-1))))) (ak (ah rfl ⟨by rw[Dp];exact(congrArg Value.bool (by simp only[aO]<;>first|rfl|ac_rfl)),⟨⟩⟩)))
theorem zG(rows i:Int)(c:List UInt8)(sd:List Int)(hc:c.length≤1048576)(w6:sd.length≤1048576):So 190 [aA rows,aA i, .a (.sl .u8 c), .a (.sl .int sd)] [.a (.sl .DB (lT rows i c sd))]:=by
 refine aq X call190 func190 ntmps190 rfl rfl ?_
 intro zb
 have hz:=Fk rows
 refine av X [0,1,2,3] rfl (aD X [0,1,2,3,9] rfl (by and_intros<;>first|exact⟨⟩|exact rfl) (af (aC X [] [(19,⟨false,[aG (lB rows i c)]⟩),(25,⟨false,[aG (b7 (IntKind.i64.wrap ((sd.length:Int)+1)))]⟩)] [0,1,2,3,9,27] [] rfl (by(with_reducible and_intros);(iterate 2 all_goals try first|exact⟨⟩|exact(EB rows i c)|exact fun _=>(fL (IntKind.i64.wrap ((sd.length:Int)+1))))) ?_)))
 refine an rfl ?_ ?_<;>intro hb0
 ·have hmk:nI rows i c sd=false:=bP hb0 (by simp only[nI,aO]<;>first|rfl|ac_rfl)
  exact av X [8] rfl (ak (ah rfl ⟨by rw[lT,if_neg (by rw[hmk];decide)],⟨⟩⟩))
 ·have hmk:nI rows i c sd=true:=bO hb0 (by simp only[nI,aO]<;>first|rfl|ac_rfl)
  have hml:=Jd hmk w6
  have hun:=vE hml.1
  refine au (af ?_)
  have t1:=(xD (cE rows) i c (by first|assumption|omega| (simp;done)| (simp;omega)) (by first|assumption|omega| (simp;done)| (simp;omega)))
  refine aN X [] [(31,⟨true,[.agg (aS (cE rows))]⟩),(34,⟨true,bM t1⟩)] [0,3,9,10] [] rfl (by(with_reducible and_intros);(iterate 2 all_goals try first|exact⟨⟩|exact(m6 rows)|exact t1)) ?_
  rw[Vn hmk]
  refine af (av X [0,3,9,10,12] rfl ?_)
  refine ay (aE (fun k=>k≤sd.length) (fun k:Nat=> [(12, .one ((aA k)))]) (fun k=> [(15, .arr .DB ((sd.take k).map fun s=>EA s rows)),(34, .arr (.sl .u8) (lS rows i c (sd.take k)).rows)]) (fun k=>sd.length-k) 0 (fun k=>rfl) (Nat.zero_le _) rfl ?_)
  intro k hk
  have hle:=bl sd k
  have hlo:=Dn hml.1 (sd.take k)
  have hlz:=dw hlo
  refine af (av X [0,3,9,10,12,40] rfl ?_)
  refine an rfl ?_ ?_<;>intro bf
  ·try simp only[aR]at bf
   have hs:=lp (fun s=>EA s rows) sd k (aB .int) bf
   have oK:=Dm rows i c sd k bf
   have hmo:=Dl (sd.getD k (aB .int)) rows hun.2.2
   have hmz:=dw hmo
   refine au (af (ay (av X [0,3,9,10,12,13] rfl (gU 13 0 60 (.sl .u8) rfl (af (av X [0,3,9,10,12,13,14] rfl ?_))))))
   refine ay (aE (fun k1=>k1≤rows.toNat) (fun k1:Nat=> [(14, .one ((aA k1)))]) (fun k1=> [(60, .arr (.sl .u8) ((fI (sd.getD k (aB .int)) rows).take k1))]) (fun k1=>rows.toNat-k1) 0 (fun k1=>rfl) (Nat.zero_le _) rfl ?_)
   intro k1 hk1
   have Vd:=bl (fI (sd.getD k (aB .int)) rows) k1
   refine af (av X [0,3,9,10,12,13,14,46] rfl ?_)
   refine an rfl ?_ ?_<;>intro bU
   ·try simp only[aR]at bU
    have hs1:=xF (sd.getD k (aB .int)) rows k1 (by omega)
    refine au (af (ay ?_))
    have t1:=(iO (IntKind.i64.wrap ((sd.getD k (aB .int))+IntKind.i64.wrap (1000*(k1:Int)))) 24 (by first|assumption|omega| (simp;done)| (simp;omega)) (by first|assumption|omega| (simp;done)| (simp;omega)))
    refine aF X [(60,60)] [(58,⟨true,bM t1⟩),(500059,⟨true,[]⟩)] [0,3,9,10,12,13,14] [] 2047 0 MO (by kernel_rfl) rfl (by kernel_rfl) (by(repeat' with_reducible first|exact aK|refine aQ ?_ ?_|apply And.intro)<;>first|exact t1| (intros;omega)|exact rfl|exact⟨rfl,aP _ (by decide)⟩| (simp only[cK,maxLen,lens];omega)) ?_
    refine bu X [0,3,9,10,12,13,14] rfl ?_
    refine⟨k1+1,by omega,by omega,?_⟩
    rw[bC _ k1 rfl (by omega),hs1]
    try rfl
   ·try simp only[aR]at bU
    rw[List.take_of_length_le (show(fI (sd.getD k (aB .int)) rows).length≤k1 by rw[jd];omega)]
    refine aH (af ?_)
    have t1:=(iz (lS rows i c (sd.take k)) (EA (sd.getD k (aB .int)) rows) (by first|assumption|omega| (simp;done)| (simp;omega)) (by first|assumption|omega| (simp;done)| (simp;omega)))
    refine aN X [] [(65,⟨true,bM t1⟩)] [0,3,9,10,12,13] [] rfl (by(with_reducible and_intros)<;>first|exact⟨⟩|exact t1) (kG 10 0 34 rfl (aN X [(71,15)] [] [0,3,9,10,12] [] rfl (by and_intros<;>first|exact⟨⟩|exact rfl| (simp only[cK,maxLen,lens];omega)) (bu X [0,3,9,10,12] rfl ?_)))
    refine⟨k+1,by omega,by omega,?_⟩
    rw[bC _ k rfl (by omega),hs,oK]
    try rfl
  ·try simp only[aR]at bf
   exact aH (aC X [(75,15)] [] [8] [] rfl (by and_intros<;>first|exact⟨⟩|exact rfl| (simp only[cK,maxLen,lens];omega)) (ak (ah rfl ⟨by rw[List.take_of_length_le bf,lT,if_pos hmk],⟨⟩⟩)))
end
section
set_option maxRecDepth 100000
theorem vG(x:aV)(c:Int)(lP:x.aj.length≤1048576):So 99 [.agg (aU x),aA c] [.a (.sl .DB (jJ x c))]:=by
 refine aq X call99 func99 ntmps99 rfl rfl ?_
 intro zb
 refine bH 0 2 rfl rfl (fun lO=> ?_)
 have qY:=Dq (fF x c) x.round x.rows
 have hwl:=iR x c
 refine av X [1,2] rfl (af (aC X [] [(9,⟨false,[aG (okW x)]⟩),(14,⟨false,[aG (mh x c)]⟩)] [1,2,16] [] rfl (by(with_reducible and_intros);(iterate 2 all_goals try first|exact⟨⟩|exact(cq x)|exact fun _=>(eH x c))) ?_))
 refine an rfl ?_ ?_<;>intro hb0
 ·have hk:Jf x c=false:=bP hb0 (by simp only[Jf,aO]<;>first|rfl|ac_rfl)
  exact av X [4] rfl (ak (ah rfl ⟨by rw[jJ,if_neg (by rw[hk];decide)],⟨⟩⟩))
 ·have hk:Jf x c=true:=bO hb0 (by simp only[Jf,aO]<;>first|rfl|ac_rfl)
  have hkc:=Ys hk
  refine au (af ?_)
  have t1:=(mY (fF x c) x.round x.rows)
  refine aF X [] [(28,⟨true,bM t1⟩)] [1,2,5,6,7] [] 262143 0 MO (by kernel_rfl) rfl (by kernel_rfl) (by(with_reducible and_intros)<;>first|exact⟨⟩|exact t1| (intros;omega)) (af (av X [1,2,5,6,33] rfl ?_))
  refine an rfl ?_ ?_<;>intro bf
  ·have hw:mW (fF x c) x.round x.rows=false:=by simpa using bf
   exact av X [4] rfl (ak (ah rfl ⟨by rw[jJ,if_pos hk,Je hw],⟨⟩⟩))
  ·refine au (af ?_)
   have t1:=(zF x.rows (eu (fF x c) x.round x.rows) (cZ (fF x c) x.round x.rows) (eW x c) (by first|assumption|omega| (simp;done)| (simp;omega)) (by first|assumption|omega| (simp;done)| (simp;omega)))
   exact aF X [] [(40,⟨true,[.a (.sl .int (eW x c))]⟩),(41,⟨true,bM t1⟩)] [4] [] 511 0 MO (by kernel_rfl) rfl (by kernel_rfl) (by(with_reducible and_intros);(iterate 2 all_goals try first|exact⟨⟩|exact(xC x c (by first|assumption|omega| (simp;done)| (simp;omega)))|exact t1)) (ak (ah rfl ⟨by rw[jJ,if_pos hk];rfl,⟨⟩⟩))
theorem zI(x:aV)(c:Int)(lP:x.aj.length≤1048576)(hc:0≤c∧c<x.aa.length):So 128 [.agg (aU x),aA c] [.a (.sl .DB (cD x c))]:=by
 refine aq X call128 func128 ntmps128 rfl rfl ?_
 intro zb
 refine bH 0 2 rfl rfl (fun lO=> ?_)
 have qY:=Dq (fF x c) x.round x.rows
 have hwl:=iR x c
 refine av X [1,2] rfl (af ?_)
 have t1:=(vC (fF x c) x.round x.rows)
 refine aF X [] [(19,⟨true,bM t1⟩)] [1,2,5,6] [] 262143 0 MO (by kernel_rfl) rfl (by kernel_rfl) (by(with_reducible and_intros)<;>first|exact⟨⟩|exact t1| (intros;omega)) (af ?_)
 have t1:=(zG x.rows (eu (fF x c) x.round x.rows) (cZ (fF x c) x.round x.rows) (eW x c) (by first|assumption|omega| (simp;done)| (simp;omega)) (by first|assumption|omega| (simp;done)| (simp;omega)))
 exact aF X [] [(29,⟨true,[.a (.sl .int (eW x c))]⟩),(30,⟨true,bM t1⟩)] [4] [] 511 0 MO (by kernel_rfl) rfl (by kernel_rfl) (by(with_reducible and_intros);(iterate 2 all_goals try first|exact⟨⟩|exact(xE x c (by first|assumption|omega| (simp;done)| (simp;omega)))|exact t1)) (ak (ah rfl ⟨rfl,⟨⟩⟩))
end
section
set_option maxRecDepth 100000
theorem gW(m s:Int):So 102 [aA m,aA s] [aA (fY m s)]:=by
 refine aq X call102 func102 ntmps102 rfl rfl ?_
 intro zb
 refine av X [0,1] rfl (aC X [] [(8,⟨false,[aA (kh m [173,s])]⟩),(9,⟨false,[aA (AM (kh m [173,s]))]⟩)] [4] [] rfl (by(repeat' with_reducible first|exact aK|refine aQ ?_ ?_|apply And.intro);(iterate 2 all_goals try first|exact(bG m [173,s] (by first|assumption|omega| (simp;done)| (simp;omega)))|exact(qi (kh m [173,s])));all_goals first|exact⟨rfl,aP _ (by decide)⟩) ?_)
 exact ak (ah rfl ⟨rfl,⟨⟩⟩)
theorem rj(d:DB)(hs0:cQ List.length d.rows≤1048576):So 218 [.agg (aS d)] [aA (GS d)]:=by
 refine aq X call218 func218 ntmps218 rfl rfl ?_
 intro zb
 have jV:d.rows.length≤1048576:=dc hs0
 refine av X [1] rfl (aD X [1,3] rfl (by and_intros<;>first|exact⟨⟩|exact rfl) (af (av X [3,11,12,13] rfl ?_)))
 refine ay (aE (fun k=>k≤d.rows.length) (fun k:Nat=> [(13, .one ((aA k)))]) (fun k=> [(9, .arr .int ((d.rows.length:Int)::(d.rows.take k).flatMap Ek))]) (fun k=>d.rows.length-k) 0 (fun k=>rfl) (Nat.zero_le _) rfl ?_)
 intro k hk
 have uu:=RN d.rows k
 refine av X [3,11,12,13,14] rfl ?_
 refine af (an rfl ?_ ?_)<;>intro hb0
 ·try simp only[aR]at hb0
  have hs:=MM d.rows k hb0
  have hel:(d.rows.getD k (aB (.sl .u8))).length≤1048576:=jl (f:=List.length) hs0 (getD_some d.rows _ k hb0)
  have Cm:=qv (d.rows.getD k (aB (.sl .u8)))
  refine au (af (ay (aD X [3,5,11,12,13] rfl (by and_intros<;>first|exact⟨⟩| (intros;omega)) (aN X [(20,9)] [(19,⟨true,[.a (.sl .int (Ek (d.rows.getD k (aB (.sl .u8)))))]⟩)] [3,11,12,13] [] rfl (by(with_reducible and_intros)<;>first|exact⟨⟩|exact(mR (d.rows.getD k (aB (.sl .u8))) (by first|assumption|omega| (simp;done)| (simp;omega)))|exact rfl| (simp only[cK,maxLen,lens];omega)) (bu X [3,11,12,13] rfl ?_)))))
  refine⟨k+1,by omega,by omega,?_⟩
  rw[bC _ k rfl (by omega),hs]
  try rfl
 ·try simp only[aR]at hb0
  refine aH (af ?_)
  have t1:=(sr ((d.rows.length:Int)::(d.rows.take k).flatMap Ek) (by simp only[List.length_cons];omega))
  exact aN X [] [(23,⟨false,bM t1⟩)] [2] [] rfl (by(with_reducible and_intros)<;>first|exact⟨⟩|exact t1) (ak (ah rfl ⟨by rw[List.take_of_length_le hb0];rfl,⟨⟩⟩))
theorem ng(c r:Int)(d:DB)(hs0:cQ List.length d.rows≤1048576):So 159 [aA c,aA r, .agg (aS d)] [aA (Du c r d)]:=by
 refine aq X call159 func159 ntmps159 rfl rfl ?_
 intro zb
 refine av X [0,1,5] rfl (aC X [] [(10,⟨false,[aA (GS d)]⟩),(12,⟨false,[aA (hsh [179,c,r,GS d])]⟩)] [6] [] rfl (by(repeat' with_reducible first|exact aK|refine aQ ?_ ?_|apply And.intro);(iterate 2 all_goals try first|exact(rj d (by first|assumption|omega| (simp;done)| (simp;omega)))|exact(sr [179,c,r,GS d] (by first|assumption|omega| (simp;done)| (simp;omega))));all_goals first|exact⟨rfl,aP _ (by decide)⟩) ?_)
 exact ak (ah rfl ⟨rfl,⟨⟩⟩)
theorem nW(key:Int)(r:dG):So 160 [aA key, .agg (jm r)] [aA (OM key r.server r.client r.round r.mF)]:=by
 refine aq X call160 func160 ntmps160 rfl rfl ?_
 intro zb
 refine av X [0,3] rfl (af ?_)
 have t1:=(bG key [181,r.server,r.client,r.round,r.mF] (by first|assumption|omega| (simp;done)| (simp;omega)))
 refine aN X [] [(15,⟨false,bM t1⟩)] [4] [] rfl (by(repeat' with_reducible first|exact aK|refine aQ ?_ ?_|apply And.intro)<;>first|exact t1|exact⟨rfl,aP _ (by decide)⟩) ?_
 exact ak (ah rfl ⟨rfl,⟨⟩⟩)
theorem vJ(key s c r:Int)(d:DB)(hs0:cQ List.length d.rows≤1048576):So 101 [aA key,aA s,aA c,aA r, .agg (aS d)] [.agg (jm (Vq key s c r d))]:=by
 refine aq X call101 func101 ntmps101 rfl rfl ?_
 intro zb
 refine av X [0,1,2,3,9,10] rfl (aC X [] [(18,⟨false,[aA (Du c r d)]⟩)] [0,10,11] [] rfl (by(with_reducible and_intros)<;>first|exact⟨⟩|exact(ng c r d (by first|assumption|omega| (simp;done)| (simp;omega)))) (af ?_))
 have t1:=(nW key (⟨s,c,r,Du c r d,0⟩:dG))
 exact aN X [] [(22,⟨false,bM t1⟩)] [10,11] [] rfl (by(with_reducible and_intros)<;>first|exact⟨⟩|exact t1) (aD X [10] rfl (by trivial) (ak (ah rfl ⟨rfl,rfl,rfl,rfl,rfl,⟨⟩⟩)))
theorem gz(s:aX)(hz:s.received.length≤1048576∧ ∀r,r∈s.received→cQ List.length r.share.rows≤1048576):So 147 [.agg (bL s)] [.agg (bL s)]:=by
 refine aq X call147 func147 ntmps147 rfl rfl ?_
 intro zb
 refine av X [1,2] rfl (aD X [1,2,3] rfl (by and_intros<;>first|exact⟨⟩|exact rfl) (af (av X [1,2,3,8,9,10] rfl ?_)))
 refine ay (aE (fun k=>k≤s.received.length) (fun k:Nat=> [(10, .one ((aA k)))]) (fun k=> [(6, .arr .aM (s.received.take k))]) (fun k=>s.received.length-k) 0 (fun k=>rfl) (Nat.zero_le _) rfl ?_)
 intro k hk
 have hle:=bl s.received k
 refine av X [1,2,3,8,9,10,11] rfl ?_
 refine af (an rfl ?_ ?_)<;>intro hb0
 ·try simp only[aR]at hb0
  have hs:=bq s.received k (aB .aM) hb0
  refine au (af (ay (aD X [1,2,3,5,8,9,10] rfl (by and_intros<;>first|exact⟨⟩| (intros;omega)) (aF X [(22,6)] [(19,⟨true,[.agg (aS ((s.received.getD k (aB .aM)).share))]⟩),(500021,⟨true,[]⟩)] [1,2,3,8,9,10] [] 255 0 MO (by kernel_rfl) rfl (by kernel_rfl) (by(repeat' with_reducible first|exact aK|refine aQ ?_ ?_|apply And.intro)<;>first|exact(ct ((s.received.getD k (aB .aM)).share) (hz.2 _ (getD_in _ hb0)))|exact rfl|exact⟨rfl,aP _ (by decide)⟩| (simp only[cK,maxLen,lens];omega)) ?_))))
  refine bu X [1,2,3,8,9,10] rfl ?_
  refine⟨k+1,by omega,by omega,?_⟩
  rw[bC _ k rfl (by omega),hs]
  try rfl
 ·try simp only[aR]at hb0
  exact aH (av X [1,2] rfl (aD X [2] rfl (by trivial) (ak (ah rfl ⟨rfl,rfl,rfl,by rw[List.take_of_length_le hb0],rfl,⟨⟩⟩))))
theorem nh(l:List aX)(hl:l.length≤1048576)(hz: ∀s,s∈l→m7 s):So 86 [.a (.sl .aX l)] [.a (.sl .aX l)]:=by
 refine aq X call86 func86 ntmps86 rfl rfl ?_
 intro zb
 refine av X [0] rfl (aD X [0,3] rfl (by and_intros<;>first|exact⟨⟩|exact rfl) (af (av X [3,7,8,9] rfl ?_)))
 refine ay (aE (fun k=>k≤l.length) (fun k:Nat=> [(9, .one ((aA k)))]) (fun k=> [(6, .arr .aX (l.take k))]) (fun k=>l.length-k) 0 (fun k=>rfl) (Nat.zero_le _) rfl ?_)
 intro k hk
 have hle:=bl l k
 refine av X [3,7,8,9,10] rfl ?_
 refine af (an rfl ?_ ?_)<;>intro hb0
 ·try simp only[aR]at hb0
  have hs:=bq l k (aB .aX) hb0
  refine au (af (ay (aD X [3,5,7,8,9] rfl (by and_intros<;>first|exact⟨⟩| (intros;omega)) (aN X [(17,6)] [(15,⟨true,[.agg (bL (l.getD k (aB .aX)))]⟩)] [3,7,8,9] [] rfl (by(with_reducible and_intros)<;>first|exact⟨⟩|exact(gz (l.getD k (aB .aX)) (hz _ (getD_in _ hb0)))|exact rfl| (simp only[cK,maxLen,lens];omega)) (bu X [3,7,8,9] rfl ?_)))))
  refine⟨k+1,by omega,by omega,?_⟩
  rw[bC _ k rfl (by omega),hs]
  try rfl
 ·try simp only[aR]at hb0
  exact aH (av X [2] rfl (ak (ah rfl ⟨by rw[List.take_of_length_le hb0],⟨⟩⟩)))
theorem gX(m s:Int):So 131 [aA m,aA s] [aA (fY m s)]:=by
 refine aq X call131 func131 ntmps131 rfl rfl ?_
 intro zb
 refine av X [0,1] rfl (af ?_)
 have t1:=(mQ 1 (kh m [173,s]))
 refine aN X [] [(8,⟨false,[aA (kh m [173,s])]⟩),(9,⟨false,bM t1⟩)] [4] [] rfl (by(repeat' with_reducible first|exact aK|refine aQ ?_ ?_|apply And.intro);(iterate 2 all_goals try first|exact(bp m [173,s] (by first|assumption|omega| (simp;done)| (simp;omega)))|exact t1);all_goals first|exact⟨rfl,aP _ (by decide)⟩) ?_
 exact ak (ah rfl ⟨by rw[RP],⟨⟩⟩)
theorem rm(d:DB)(hs0:cQ List.length d.rows≤1048576):So 240 [.agg (aS d)] [aA (GS d)]:=by
 refine aq X call240 func240 ntmps240 rfl rfl ?_
 intro zb
 have jV:d.rows.length≤1048576:=dc hs0
 refine av X [1] rfl (aD X [1,3] rfl (by and_intros<;>first|exact⟨⟩|exact rfl) (af (av X [1,3,4] rfl ?_)))
 refine ay (aE (fun k=>k≤d.rows.length) (fun k:Nat=> [(4, .one ((aA k)))]) (fun k=> [(8, .arr .int ((d.rows.length:Int)::(d.rows.take k).flatMap Ek))]) (fun k=>d.rows.length-k) 0 (fun k=>rfl) (Nat.zero_le _) rfl ?_)
 intro k hk
 have uu:=RN d.rows k
 refine af (av X [1,3,4,13] rfl ?_)
 refine an rfl ?_ ?_<;>intro hb0
 ·try simp only[aR]at hb0
  have hs:=MM d.rows k hb0
  have hel:(d.rows.getD k (aB (.sl .u8))).length≤1048576:=jl (f:=List.length) hs0 (getD_some d.rows _ k hb0)
  have Cm:=qv (d.rows.getD k (aB (.sl .u8)))
  refine au (af (ay (aN X [(23,8)] [(22,⟨true,[.a (.sl .int (Ek (d.rows.getD k (aB (.sl .u8)))))]⟩)] [1,3,4] [] rfl (by(with_reducible and_intros)<;>first|exact⟨⟩|exact(mS (d.rows.getD k (aB (.sl .u8))) (by first|assumption|omega| (simp;done)| (simp;omega)))| (intros;omega)|exact rfl| (simp only[cK,maxLen,lens];omega)) (bu X [1,3,4] rfl ?_))))
  refine⟨k+1,by omega,by omega,?_⟩
  rw[bC _ k rfl (by omega),hs]
  try rfl
 ·try simp only[aR]at hb0
  refine aH (af ?_)
  have t1:=(su ((d.rows.length:Int)::(d.rows.take k).flatMap Ek) (by simp only[List.length_cons];omega))
  exact aN X [] [(25,⟨false,bM t1⟩)] [2] [] rfl (by(with_reducible and_intros)<;>first|exact⟨⟩|exact t1) (ak (ah rfl ⟨by rw[List.take_of_length_le hb0];rfl,⟨⟩⟩))
theorem ni(c r:Int)(d:DB)(hs0:cQ List.length d.rows≤1048576):So 192 [aA c,aA r, .agg (aS d)] [aA (Du c r d)]:=by
 refine aq X call192 func192 ntmps192 rfl rfl ?_
 intro zb
 refine av X [0,1,5] rfl (aC X [] [(10,⟨false,[aA (GS d)]⟩),(12,⟨false,[aA (hsh [179,c,r,GS d])]⟩)] [6] [] rfl (by(repeat' with_reducible first|exact aK|refine aQ ?_ ?_|apply And.intro);(iterate 2 all_goals try first|exact(rm d (by first|assumption|omega| (simp;done)| (simp;omega)))|exact(su [179,c,r,GS d] (by first|assumption|omega| (simp;done)| (simp;omega))));all_goals first|exact⟨rfl,aP _ (by decide)⟩) ?_)
 exact ak (ah rfl ⟨rfl,⟨⟩⟩)
theorem nX(key:Int)(r:dG):So 193 [aA key, .agg (jm r)] [aA (OM key r.server r.client r.round r.mF)]:=by
 refine aq X call193 func193 ntmps193 rfl rfl ?_
 intro zb
 refine av X [0,3] rfl (af ?_)
 have t1:=(bp key [181,r.server,r.client,r.round,r.mF] (by first|assumption|omega| (simp;done)| (simp;omega)))
 refine aN X [] [(15,⟨false,bM t1⟩)] [4] [] rfl (by(repeat' with_reducible first|exact aK|refine aQ ?_ ?_|apply And.intro)<;>first|exact t1|exact⟨rfl,aP _ (by decide)⟩) ?_
 exact ak (ah rfl ⟨rfl,⟨⟩⟩)
theorem vK(key s c r:Int)(d:DB)(hs0:cQ List.length d.rows≤1048576):So 130 [aA key,aA s,aA c,aA r, .agg (aS d)] [.agg (jm (Vq key s c r d))]:=by
 refine aq X call130 func130 ntmps130 rfl rfl ?_
 intro zb
 refine av X [0,1,2,3,9,10] rfl (aC X [] [(18,⟨false,[aA (Du c r d)]⟩)] [0,10,11] [] rfl (by(with_reducible and_intros)<;>first|exact⟨⟩|exact(ni c r d (by first|assumption|omega| (simp;done)| (simp;omega)))) (af ?_))
 have t1:=(nX key (⟨s,c,r,Du c r d,0⟩:dG))
 exact aN X [] [(22,⟨false,bM t1⟩)] [10,11] [] rfl (by(with_reducible and_intros)<;>first|exact⟨⟩|exact t1) (aD X [10] rfl (by trivial) (ak (ah rfl ⟨rfl,rfl,rfl,rfl,rfl,⟨⟩⟩)))
theorem jN(s:aX)(hz:s.received.length≤1048576∧ ∀r,r∈s.received→cQ List.length r.share.rows≤1048576):So 47 [.agg (bL s)] [.agg (bL s)]:=by
 refine aq X call47 func47 ntmps47 rfl rfl ?_
 intro zb
 refine av X [1,2] rfl (aD X [1,2,3] rfl (by trivial) (aD X [1,2,3] rfl (by and_intros<;>first|exact⟨⟩|exact rfl) (af (av X [1,2,3,4] rfl ?_))))
 refine ay (aE (fun k=>k≤s.received.length) (fun k:Nat=> [(4, .one ((aA k)))]) (fun k=> [(6, .arr .aM (s.received.take k))]) (fun k=>s.received.length-k) 0 (fun k=>rfl) (Nat.zero_le _) rfl ?_)
 intro k hk
 have hle:=bl s.received k
 refine af (av X [1,2,3,4,12] rfl ?_)
 refine an rfl ?_ ?_<;>intro hb0
 ·try simp only[aR]at hb0
  have hs:=bq s.received k (aB .aM) hb0
  refine au (af (ay (aF X [(32,6)] [(29,⟨true,[.agg (aS ((s.received.getD k (aB .aM)).share))]⟩),(500031,⟨true,[]⟩)] [1,2,3,4] [] 131071 0 MO (by kernel_rfl) rfl (by kernel_rfl) (by(repeat' with_reducible first|exact aK|refine aQ ?_ ?_|apply And.intro)<;>first|exact(dN ((s.received.getD k (aB .aM)).share) (hz.2 _ (getD_in _ hb0)))| (intros;omega)|exact rfl|exact⟨rfl,aP _ (by decide)⟩| (simp only[cK,maxLen,lens];omega)) ?_)))
  refine bu X [1,2,3,4] rfl ?_
  refine⟨k+1,by omega,by omega,?_⟩
  rw[bC _ k rfl (by omega),hs]
  try rfl
 ·try simp only[aR]at hb0
  exact aH (aD X [2] rfl (by trivial) (ak (ah rfl ⟨rfl,rfl,rfl,by rw[List.take_of_length_le hb0],rfl,⟨⟩⟩)))
end
section
set_option maxRecDepth 100000
theorem eM(c:dK)(h0:cQ List.length c.aI≤1048576∧cQ List.length c.inbox≤1048576):So 45 [.agg (bJ c)] [.agg (bJ c)]:=by
 refine aq X call45 func45 ntmps45 rfl rfl ?_
 intro zb
 exact av X [1,2] rfl (aD X [1,2,3] rfl (by trivial) (aC X [] [(7,⟨true,[.a (.sl (.sl .u8) c.aI)]⟩)] [1,2,3] [] rfl (by(with_reducible and_intros)<;>first|exact⟨⟩|exact(oB c.aI h0.1)) (aC X [] [(11,⟨true,[.a (.sl (.sl .u8) c.inbox)]⟩)] [2,3] [] rfl (by(with_reducible and_intros)<;>first|exact⟨⟩|exact(oB c.inbox h0.2)) (aD X [2] rfl (by trivial) (ak (ah rfl ⟨rfl,rfl,rfl,rfl,rfl,rfl,rfl,rfl,⟨⟩⟩))))))
theorem jO(d:bg)(h0:bD d≤1048576):So 48 [.agg (bY d)] [.agg (bY d)]:=by
 refine aq X call48 func48 ntmps48 rfl rfl ?_
 intro zb
 have vk:cu d.live≤1048576∧cu d.saved≤1048576:=by unfold bD at h0;omega
 unfold cu at vk
 exact av X [1,2] rfl (af (aF X [] [(5,⟨true,[.agg (bJ d.live)]⟩),(8,⟨true,[.agg (bJ d.saved)]⟩)] [2] [] 127 0 MO (by kernel_rfl) rfl (by kernel_rfl) (by(with_reducible and_intros);(iterate 2 all_goals try first|exact⟨⟩|exact(eM d.live ⟨by omega,by omega⟩)|exact(eM d.saved ⟨by omega,by omega⟩))) (ak (ah rfl ⟨rfl,rfl,rfl,rfl,rfl,rfl,rfl,rfl,rfl,rfl,rfl,rfl,rfl,rfl,rfl,rfl,⟨⟩⟩))))
theorem sP(a:iC)(h0:ey a≤1048576):So 49 [.agg (dh a)] [.agg (dh a)]:=by
 refine aq X call49 func49 ntmps49 rfl rfl ?_
 intro zb
 have hls:cQ dU a.rounds≤1048576:=h0
 have jV:=dc hls
 refine av X [1,2] rfl (av X [1,2,3] rfl (gU 3 1 60 .aJ rfl (af (av X [1,2,3,4] rfl ?_))))
 refine ay (aE (fun k=>k≤a.rounds.length) (fun k:Nat=> [(4, .one ((aA k)))]) (fun k=> [(60, .arr .aJ (a.rounds.take k))]) (fun k=>a.rounds.length-k) 0 (fun k=>rfl) (Nat.zero_le _) rfl ?_)
 intro k hk
 have hle:=bl a.rounds k
 refine af (av X [1,2,3,4,12] rfl ?_)
 refine an rfl ?_ ?_<;>intro hb0
 ·try simp only[aR]at hb0
  have hs:=bq a.rounds k (aB .aJ) hb0
  refine au (af (ay (aF X [(32,60)] [(29,⟨true,[.agg (aS ((a.rounds.getD k (aB .aJ)).db))]⟩),(500031,⟨true,[]⟩)] [1,2,3,4] [] 131071 0 MO (by kernel_rfl) rfl (by kernel_rfl) (by(repeat' with_reducible first|exact aK|refine aQ ?_ ?_|apply And.intro)<;>first|exact(dN ((a.rounds.getD k (aB .aJ)).db) (jl hls (getD_some a.rounds _ k hb0)))| (intros;omega)|exact rfl|exact⟨rfl,aP _ (by decide)⟩| (simp only[cK,maxLen,lens];omega)) ?_)))
  refine bu X [1,2,3,4] rfl ?_
  refine⟨k+1,by omega,by omega,?_⟩
  rw[bC _ k rfl (by omega),hs]
  try rfl
 ·try simp only[aR]at hb0
  exact aH (aD X [2] rfl (by trivial) (ak (ah rfl ⟨rfl,by rw[List.take_of_length_le hb0],⟨⟩⟩)))
theorem eN(x:aV)(h0:wB x):So 29 [.agg (aU x)] [.agg (aU x)]:=by
 refine aq X call29 func29 ntmps29 rfl rfl ?_
 intro zb
 have hls:cQ dr x.aj≤1048576∧cQ bD x.aa≤1048576∧ey x.az≤1048576∧x.replaced.length≤4194304:=h0
 have hl1:=dc hls.1
 have lO:=dc hls.2.1
 refine av X [1,2] rfl (aD X [1,2,3] rfl (by trivial) (aD X [1,2,3] rfl (by and_intros<;>first|exact⟨⟩|exact rfl) (af (av X [1,2,3,4] rfl ?_))))
 refine ay (aE (fun k=>k≤x.aj.length) (fun k:Nat=> [(4, .one ((aA k)))]) (fun k=> [(7, .arr .aX (x.aj.take k))]) (fun k=>x.aj.length-k) 0 (fun k=>rfl) (Nat.zero_le _) rfl ?_)
 intro k hk
 have hle:=bl x.aj k
 refine af (av X [1,2,3,4,13] rfl ?_)
 refine an rfl ?_ ?_<;>intro hb0
 ·try simp only[aR]at hb0
  have hs:=bq x.aj k (aB .aX) hb0
  have hss:=Fp hls.1 (getD_some x.aj (aB .aX) k hb0)
  refine au (af (ay (aF X [(25,7)] [(23,⟨true,[.agg (bL (x.aj.getD k (aB .aX)))]⟩),(500024,⟨true,[]⟩)] [1,2,3,4] [] 511 0 MO (by kernel_rfl) rfl (by kernel_rfl) (by(repeat' with_reducible first|exact aK|refine aQ ?_ ?_|apply And.intro)<;>first|exact(jN (x.aj.getD k (aB .aX)) hss)| (intros;omega)|exact rfl|exact⟨rfl,aP _ (by decide)⟩| (simp only[cK,maxLen,lens];omega)) ?_)))
  refine bu X [1,2,3,4] rfl ?_
  refine⟨k+1,by omega,by omega,?_⟩
  rw[bC _ k rfl (by omega),hs]
  try rfl
 ·try simp only[aR]at hb0
  refine aH (aD X [1,2,3] rfl (by and_intros<;>first|exact⟨⟩|exact rfl) (af (av X [1,2,3,5] rfl ?_)))
  refine ay (aE (fun k1=>k1≤x.aa.length) (fun k1:Nat=> [(5, .one ((aA k1)))]) (fun k1=> [(27, .arr .bg (x.aa.take k1))]) (fun k1=>x.aa.length-k1) 0 (fun k1=>rfl) (Nat.zero_le _) rfl ?_)
  intro k1 hk1
  have Vd:=bl x.aa k1
  refine af (av X [1,2,3,5,33] rfl ?_)
  refine an rfl ?_ ?_<;>intro bf
  ·try simp only[aR]at bf
   have hs1:=bq x.aa k1 (aB .bg) bf
   refine au (af (ay (aF X [(45,27)] [(43,⟨true,[.agg (bY (x.aa.getD k1 (aB .bg)))]⟩)] [1,2,3,5] [] 1279 2 MO (by kernel_rfl) rfl (by kernel_rfl) (by(with_reducible and_intros)<;>first|exact⟨⟩|exact(jO (x.aa.getD k1 (aB .bg)) (jl hls.2.1 (getD_some x.aa _ k1 bf)))| (intros;omega)|exact rfl| (simp only[cK,maxLen,lens];omega)) (bu X [1,2,3,5] rfl ?_))))
   refine⟨k1+1,by omega,by omega,?_⟩
   rw[bC _ k1 rfl (by omega),hs1]
   try rfl
  ·try simp only[aR]at bf
   exact aH (aC X [] [(49,⟨true,[.agg (dh x.az)]⟩)] [1,2,3] [] rfl (by(with_reducible and_intros)<;>first|exact⟨⟩|exact(sP x.az hls.2.2.1)) (aC X [(54,51)] [] [2,3] [] rfl (by and_intros<;>first|exact⟨⟩|exact rfl| (simp only[cK,maxLen,lens];omega)) (aD X [2] rfl (by trivial) (ak (ah rfl ⟨rfl,by rw[List.take_of_length_le hb0],by rw[List.take_of_length_le bf],rfl,rfl,rfl,rfl,rfl,rfl,rfl,⟨⟩⟩)))))
end
section
set_option maxRecDepth 100000
theorem vM(a:iC)(f:Int)(hal:a.rounds.length≤1048576):So 105 [.agg (dh a),aA f] [.a (.sl .int (eY a.rounds f))]:=by
 refine aq X call105 func105 ntmps105 rfl rfl ?_
 intro zb
 refine av X [1,2] rfl (aD X [1,2,5] rfl (by and_intros<;>first|exact⟨⟩|exact rfl) (af (av X [1,5,10,11,12] rfl ?_)))
 refine ay (aE (fun k=>k≤a.rounds.length) (fun k:Nat=> [(12, .one ((aA k)))]) (fun k=> [(8, .arr .int (eY (a.rounds.take k) f))]) (fun k=>a.rounds.length-k) 0 (fun k=>rfl) (Nat.zero_le _) rfl ?_)
 intro k hk
 have hle:=AZ a.rounds f k
 refine av X [1,5,10,11,12,13] rfl ?_
 refine af (an rfl ?_ ?_)<;>intro hb0
 ·try simp only[aR]at hb0
  refine au (af (ay (aD X [1,5,7,10,11,12] rfl (by and_intros<;>first|exact⟨⟩| (intros;omega)) (av X [1,5,7,10,11,12,19] rfl ?_))))
  refine an rfl ?_ ?_<;>intro bf
  ·try simp only[aR]at bf
   have hs:=DA a.rounds f k hb0 (by omega)
   refine aN X [(24,8)] [] [1,5,10,11,12] [] rfl (by and_intros<;>first|exact⟨⟩|exact rfl| (simp only[cK,maxLen,lens];omega)) (bu X [1,5,10,11,12] rfl ?_)
   refine⟨k+1,by omega,by omega,?_⟩
   rw[bC _ k rfl (by omega),hs]
   try rfl
  ·try simp only[aR]at bf
   have hs:=AY a.rounds f k hb0 (by omega)
   refine au (bu X [1,5,10,11,12] rfl ?_)
   refine⟨k+1,by omega,by omega,?_⟩
   rw[bC _ k rfl (by omega),hs]
   try rfl
 ·try simp only[aR]at hb0
  exact aH (av X [4] rfl (ak (ah rfl ⟨by rw[List.take_of_length_le hb0],⟨⟩⟩)))
theorem vN(a:iC)(f:Int)(hal:a.rounds.length≤1048576):So 134 [.agg (dh a),aA f] [.a (.sl .int (eY a.rounds f))]:=by
 refine aq X call134 func134 ntmps134 rfl rfl ?_
 intro zb
 refine av X [1,2] rfl (aD X [1,2,5] rfl (by and_intros<;>first|exact⟨⟩|exact rfl) (af (av X [1,2,5,6] rfl ?_)))
 refine ay (aE (fun k=>k≤a.rounds.length) (fun k:Nat=> [(6, .one ((aA k)))]) (fun k=> [(7, .arr .int (eY (a.rounds.take k) f))]) (fun k=>a.rounds.length-k) 0 (fun k=>rfl) (Nat.zero_le _) rfl ?_)
 intro k hk
 have hle:=AZ a.rounds f k
 refine af (av X [1,2,5,6,12] rfl ?_)
 refine an rfl ?_ ?_<;>intro hb0
 ·try simp only[aR]at hb0
  refine au (af (ay (aD X [1,2,5,6,22] rfl (by and_intros<;>first|exact⟨⟩| (intros;omega)) ?_)))
  refine an rfl ?_ ?_<;>intro bf
  ·try simp only[aR]at bf
   have hs:=DA a.rounds f k hb0 (by omega)
   refine aN X [(31,7)] [] [1,2,5,6] [] rfl (by and_intros<;>first|exact⟨⟩| (intros;omega)|exact rfl| (simp only[cK,maxLen,lens];omega)) (bu X [1,2,5,6] rfl ?_)
   refine⟨k+1,by omega,by omega,?_⟩
   rw[bC _ k rfl (by omega),hs]
   try rfl
  ·try simp only[aR]at bf
   have hs:=AY a.rounds f k hb0 (by omega)
   refine au (bu X [1,2,5,6] rfl ?_)
   refine⟨k+1,by omega,by omega,?_⟩
   rw[bC _ k rfl (by omega),hs]
   try rfl
 ·try simp only[aR]at hb0
  exact aH (av X [4] rfl (ak (ah rfl ⟨by rw[List.take_of_length_le hb0],⟨⟩⟩)))
end
section
set_option maxRecDepth 100000
theorem qT(key c:Int)(cell:List UInt8):So 224 [aA key,aA c, .a (.sl .u8 cell)] [.agg (gR (Jp key c cell)),aG (kJ key c cell)]:=by
 refine aq X call224 func224 ntmps224 rfl rfl ?_
 intro zb
 refine cB 2 rfl (fun jV=>(av X [0,1,2,6] rfl (af (af ?_))))
 have t1:=(nQ key c ((cell.take (20:Int).toNat).drop (0:Int).toNat) (by rw[List.length_drop,List.length_take];omega))
 have t2:=(iE ((cell.take (cell.length:Int).toNat).drop (20:Int).toNat) (four (gH key c ((cell.take (20:Int).toNat).drop (0:Int).toNat))))
 refine aF X [] [(11,⟨false,[aG (eC key)]⟩),(15,⟨false,[aG (inr c 0 1000000000000)]⟩),(30,⟨false,bM t1⟩),(31,⟨false,bM t2⟩)] [0,1,2,6,33] [] 16777215 0 MO (by kernel_rfl) rfl (by kernel_rfl) (by(with_reducible and_intros);(iterate 4 all_goals try first|exact⟨⟩|exact(gx key)|exact fun _=>(aL c 0 1000000000000)|exact fun _=>t1|exact fun _=>t2);all_goals first| ((intro h1;first| (intro h2;first| (intro h3;refine And.intro ?_ ?_)|refine And.intro ?_ ?_)|refine And.intro ?_ ?_)<;>first|omega| ((try simp only[aR]at*);(try simp(disch:=omega) only[bh]);omega))) ?_
 refine an rfl ?_ ?_<;>intro hb0
 ·have hA:Eo key c cell=false:=bP hb0 (by simp only[Eo,List.drop_zero,Int.reduceToNat,List.take_length,aO]<;>first|rfl|ac_rfl)
  have hk:=DE hA
  exact aD X [6,7] rfl (by trivial) (ak (ah rfl ⟨by rw[lN hk],by rw[lN hk],by rw[hk],⟨⟩⟩))
 ·have hA:Eo key c cell=true:=bO hb0 (by simp only[Eo,List.drop_zero,Int.reduceToNat,List.take_length,aO]<;>first|rfl|ac_rfl)
  obtain⟨hol,qY⟩:=GW hA
  refine au (af ?_)
  have t1:=(C4 (jh key c) ((cell.take (20:Int).toNat).drop (0:Int).toNat) (by rw[List.length_drop,List.length_take];omega))
  refine aF X [] [(37,⟨false,[aA (jh key c)]⟩),(40,⟨true,bM t1⟩)] [6,8] [] 127 0 MO (by kernel_rfl) rfl (by kernel_rfl) (by(with_reducible and_intros);(iterate 2 all_goals try first|exact⟨⟩|exact(sy key c)|exact t1);all_goals first| (intros;omega)) ?_
  rw[R1]
  refine af (aD X [6,8,45] rfl (by and_intros<;>first|exact⟨⟩| (intros;omega)) ?_)
  refine an rfl ?_ ?_<;>intro bf
  ·try simp only[aR]at bf
   rw[OQ]at bf
   have Vy:14<BL key c cell:=by have h:(14:Int)<(BL key c cell:Int):=bf;omega
   have hk:=WU Vy
   exact aD X [6,7] rfl (by trivial) (ak (ah rfl ⟨by rw[lN hk],by rw[lN hk],by rw[hk],⟨⟩⟩))
  ·try simp only[aR]at bf
   rw[OQ]at bf
   have Vy:BL key c cell≤14:=by have h:(BL key c cell:Int)≤14:=bf;omega
   have hu1:((En key c cell).getD (Int.toNat 1) (aB .u8)).toNat≤14:=Vy
   have Cm:=G1 hA Vy
   have hpk:=aaX hA Vy
   have Is:=Lr key c cell
   refine au (af ?_)
   have t1:=(cj (((En key c cell).take (IntKind.i64.wrap (2+IntKind.i64.wrap (((En key c cell).getD (Int.toNat 1) (aB .u8)).toNat:Int))).toNat).drop (Int.toNat 2)) (by rw[Is,Cm];omega))
   refine aF X [] [(58,⟨true,bM t1⟩)] [6,9] [] 16383 0 MO (by kernel_rfl) rfl (by kernel_rfl) (by(with_reducible and_intros)<;>first|exact⟨⟩|exact t1| (intros;omega)| ((try simp only[aR]at*);(simp(disch:=omega) only[bh]);omega)) ?_
   rw[Lr,OQ]
   refine af (aC X [] [(61,⟨false,[aG (fH (⟨Pw key c cell,TY key c cell⟩:Plain))]⟩)] [6,9,62] [] rfl (by(with_reducible and_intros)<;>first|exact⟨⟩|exact(lQ (⟨Pw key c cell,TY key c cell⟩:Plain))) ?_)
   refine an rfl ?_ ?_<;>intro bU
   ·have hk:kJ key c cell=false:=by rw[←hpk];simpa using bU
    exact aD X [6,7] rfl (by trivial) (ak (ah rfl ⟨by rw[lN hk],by rw[lN hk],by rw[hk],⟨⟩⟩))
   ·have hk:kJ key c cell=true:=by rw[←hpk];simpa using bU
    exact au (aD X [6,7] rfl (by trivial) (ak (ah rfl ⟨by rw[xK hk];rfl,by rw[xK hk],by rw[hk],⟨⟩⟩)))
theorem qU(key c:Int)(cell:List UInt8):So 246 [aA key,aA c, .a (.sl .u8 cell)] [.agg (gR (Jp key c cell)),aG (kJ key c cell)]:=by
 refine aq X call246 func246 ntmps246 rfl rfl ?_
 intro zb
 refine cB 2 rfl (fun jV=>(av X [0,1,2,6] rfl (af (aC X [] [(11,⟨false,[aG (eC key)]⟩),(15,⟨false,[aG (inr c 0 1000000000000)]⟩)] [0,1,2,6,22] [] rfl (by(with_reducible and_intros);(iterate 2 all_goals try first|exact⟨⟩|exact(gy key)|exact fun _=>(aW c 0 1000000000000))) ?_))))
 refine an rfl ?_ ?_<;>intro hb0
 ·have hH:WW key c cell=false:=bP hb0 (by simp only[WW,aO]<;>first|rfl|ac_rfl)
  have hk:=YB hH
  exact aD X [6,7] rfl (by trivial) (ak (ah rfl ⟨by rw[lN hk],by rw[lN hk],by rw[hk],⟨⟩⟩))
 ·have hH:WW key c cell=true:=bO hb0 (by simp only[WW,aO]<;>first|rfl|ac_rfl)
  obtain⟨hk1,hk2,qY⟩:=aaY hH
  have aaZ:=MW hk1 hk2 qY
  refine au (af (aF X [] [] [0,1,2,6,8] [] 8388607 0 MO (by kernel_rfl) rfl (by kernel_rfl) (by and_intros<;>first|exact⟨⟩| (intros;omega)) ?_))
  rw[Vu]
  refine af (af ?_)
  have t1:=(oV key c ((cell.take (20:Int).toNat).drop (0:Int).toNat) (by rw[List.length_drop,List.length_take];omega))
  refine aN X [] [(51,⟨false,bM t1⟩)] [0,1,2,6,52] [] rfl (by(with_reducible and_intros)<;>first|exact⟨⟩|exact t1| (intros;omega)) ?_
  refine an rfl ?_ ?_<;>intro bf
  ·try simp only[aR]at bf
   have hA:Eo key c cell=false:=by rw[aaZ,decide_eq_false_iff_not];intro h;exact bf (by rw[h];simp)
   have hk:=DE hA
   exact aD X [6,7] rfl (by trivial) (ak (ah rfl ⟨by rw[lN hk],by rw[lN hk],by rw[hk],⟨⟩⟩))
  ·try simp only[aR]at bf
   have hA:Eo key c cell=true:=by rw[aaZ,decide_eq_true_eq,bf];simp
   obtain⟨hol,_⟩:=GW hA
   refine au (af ?_)
   have t1:=(C6 (jh key c) ((cell.take (20:Int).toNat).drop (0:Int).toNat) (by rw[List.length_drop,List.length_take];omega))
   refine aF X [] [(56,⟨false,[aA (jh key c)]⟩),(59,⟨true,bM t1⟩)] [6,9] [] 127 0 MO (by kernel_rfl) rfl (by kernel_rfl) (by(with_reducible and_intros);(iterate 2 all_goals try first|exact⟨⟩|exact(oW key c)|exact t1);all_goals first| (intros;omega)) ?_
   rw[R1]
   refine af (aD X [6,9,71] rfl (by and_intros<;>first|exact⟨⟩| (intros;omega)| ((intro h1;first| (intro h2;first| (intro h3;refine And.intro ?_ ?_)|refine And.intro ?_ ?_)|refine And.intro ?_ ?_)<;>first|omega| ((try simp only[aR]at*);(try simp(disch:=omega) only[bh]);omega))| (refine fun _=> ?_;dsimp only[hyps,cV];omega)) ?_)
   refine an rfl ?_ ?_<;>intro bU
   ·try simp only[aR]at bU
    rw[OQ,OQ]at bU
    have hk:kJ key c cell=false:=by
     rcases bU with h|h
     ·exact Yy h
     ·exact WU (by have h:(14:Int)<(BL key c cell:Int):=h;omega)
    exact aD X [6,7] rfl (by trivial) (ak (ah rfl ⟨by rw[lN hk],by rw[lN hk],by rw[hk],⟨⟩⟩))
   ·try simp only[aR]at bU
    rw[OQ,OQ]at bU
    have Vy:BL key c cell≤14:=by have h:(BL key c cell:Int)≤14:=bU.2;omega
    have hu1:((En key c cell).getD (Int.toNat 1) (aB .u8)).toNat≤14:=Vy
    have Cm:=G1 hA Vy
    have hk:kJ key c cell=true:=WV hA Vy bU.1
    have Is:=Lr key c cell
    exact au (af (aF X [(85,77)] [] [6,7] [] 45055 4 MO (by kernel_rfl) rfl (by kernel_rfl) (by and_intros<;>first|exact⟨⟩| (intros;omega)|exact rfl| ((try simp only[aR]at*);(simp(disch:=omega) only[bh]);omega)| (simp only[cK,maxLen,lens];omega)) (ak (ah rfl ⟨by rw[xK hk];exact congrArg (Value.int IntKind.i64) (OQ _),by rw[xK hk];exact Is,by rw[hk],⟨⟩⟩))))
theorem je(a:iC)(r:Int)(hz:a.rounds.length≤1048576∧ ∀y,y∈a.rounds→cQ List.length y.db.rows≤1048576):So 109 [.agg (dh a),aA r] [.agg (aS (fG a.rounds r)),aG (gh a.rounds r)]:=by
 refine aq X call109 func109 ntmps109 rfl rfl ?_
 intro zb
 refine bH 0 1 rfl rfl (fun Qr=>(av X [1,2,4] rfl (af (av X [1,4,9,10,11] rfl ?_))))
 refine ay (aE (fun k=>k≤a.rounds.length∧(a.rounds.take k).any (MQ r)=false) (fun k:Nat=> [(11, .one ((aA k)))]) (fun k=> []) (fun k=>a.rounds.length-k) 0 (fun k=>rfl) ⟨Nat.zero_le _,rfl⟩ rfl ?_)
 rintro k ⟨hk,hall⟩
 refine av X [1,4,9,10,11,12] rfl ?_
 refine af (an rfl ?_ ?_)<;>intro hb0
 ·try simp only[aR]at hb0
  refine au (af (ay (aD X [1,4,7,9,10,11] rfl (by and_intros<;>first|exact⟨⟩| (intros;omega)) (av X [1,4,7,9,10,11,18] rfl ?_))))
  refine an rfl ?_ ?_<;>intro bf
  ·have hh:=Lo hb0 hall bf
   exact aC X [] [(21,⟨true,[.agg (aS ((a.rounds.getD k (aB .aJ)).db))]⟩)] [4,5] [] rfl (by(with_reducible and_intros)<;>first|exact⟨⟩|exact(ct ((a.rounds.getD k (aB .aJ)).db) (hz.2 _ (getD_in _ hb0)))) (ak (ah rfl ⟨by rw[hh.2],by rw[hh.1],⟨⟩⟩))
  ·refine au (bu X [1,4,9,10,11] rfl ?_)
   refine⟨k+1,⟨by omega,vA (aB .aJ) hb0 hall bf⟩,by omega,?_⟩
   rw[bC _ k rfl (by omega)]
   try rfl
 ·try simp only[aR]at hb0
  exact aH (aD X [4,5] rfl (by trivial) (ak (ah rfl ⟨by rw[(BJ (by rw[←hall,List.take_of_length_le hb0])).2],by rw[(BJ (by rw[←hall,List.take_of_length_le hb0])).1],⟨⟩⟩)))
theorem zO(rows:List (List UInt8))(v:List Int)(hr: ∀r,r∈rows→r.length≤1048576):So 229 [.a (.sl (.sl .u8) rows), .a (.sl .int v)] [.a (.sl .u8 (vO rows v))]:=by
 refine aq X call229 func229 ntmps229 rfl rfl ?_
 intro zb
 refine cB 0 rfl (fun hl0=> ?_)
 refine cB 1 rfl (fun hl1=>(av X [0,1] rfl (aD X [0,1,5] rfl (by and_intros<;>first|exact⟨⟩|exact rfl) (af (av X [1,5,9,10,11] rfl ?_)))))
 refine ay (aE (fun k=>k≤rows.length) (fun k:Nat=> [(11, .one ((aA k)))]) (fun k=> [(8, .arr .u8 (pE rows v k))]) (fun k=>rows.length-k) 0 (fun k=>rfl) (Nat.zero_le _) rfl ?_)
 intro k hk
 have hle:=sR v hr k hk
 refine av X [1,5,9,10,11,12] rfl ?_
 refine af (an rfl ?_ ?_)<;>intro hb0
 ·try simp only[aR]at hb0
  have hel:=hr _ (getD_in (aB (.sl .u8)) hb0)
  refine au (af (ay (aD X [1,5,6,7,9,10,11] rfl (by and_intros<;>first|exact⟨⟩| (intros;omega)) (aD X [1,5,7,9,10,11,26] rfl (by and_intros<;>first|exact⟨⟩| ((intro h1;first| (intro h2;first| (intro h3;refine And.intro ?_ ?_)|refine And.intro ?_ ?_)|refine And.intro ?_ ?_)<;>first|omega| ((try simp only[aR]at*);(try simp(disch:=omega) only[bh]);omega))) ?_))))
  refine an rfl ?_ ?_<;>intro bf
  ·try simp only[aR]at bf
   have hs:=sQ (rows:=rows) bf.1 bf.2
   refine aN X [] [(29,⟨true,[.a (.sl .u8 (cH (pE rows v k) (rows.getD k (aB (.sl .u8)))))]⟩)] [1,5,9,10,11] [] rfl (by(with_reducible and_intros)<;>first|exact⟨⟩|exact(iF (pE rows v k) (rows.getD k (aB (.sl .u8))) (by first|assumption|omega| (simp;done)| (simp;omega)) (by first|assumption|omega| (simp;done)| (simp;omega)))) (mw 5 8 rfl (bu X [1,5,9,10,11] rfl ?_))
   refine⟨k+1,by omega,by omega,?_⟩
   rw[bC _ k rfl (by omega),hs]
   try rfl
  ·try simp only[aR]at bf
   have hs:=mD (rows:=rows) (v:=v) (k:=k) (by omega)
   refine au (bu X [1,5,9,10,11] rfl ?_)
   refine⟨k+1,by omega,by omega,?_⟩
   rw[bC _ k rfl (by omega),hs]
   try rfl
 ·try simp only[aR]at hb0
  exact aH (av X [4] rfl (ak (ah rfl ⟨by rw[Jq hk (Or.inl hb0)],⟨⟩⟩)))
theorem nj(d:DB)(v:List Int):So 174 [.agg (aS d), .a (.sl .int v)] [.a (.sl .u8 (eg d v))]:=by
 refine aq X call174 func174 ntmps174 rfl rfl ?_
 intro zb
 refine av X [1,2] rfl (af (aC X [] [(6,⟨false,[aG (cg d)]⟩),(13,⟨false,[aG (cF v (d.rows.length:Int))]⟩)] [1,2,15] [] rfl (by(with_reducible and_intros);(iterate 2 all_goals try first|exact⟨⟩|exact(cM d)|exact fun _=>(iP v (d.rows.length:Int)))) ?_))
 refine an rfl ?_ ?_<;>intro hb0
 ·have hk:(cg d&&cF v d.rows.length)=false:=bP hb0 (by simp only[aO]<;>first|rfl|ac_rfl)
  exact av X [4] rfl (ak (ah rfl ⟨by rw[eg,hk];rfl,⟨⟩⟩))
 ·have hk:(cg d&&cF v d.rows.length)=true:=bO hb0 (by simp only[aO]<;>first|rfl|ac_rfl)
  have hkk:=hk
  rw[Bool.and_eq_true]at hkk
  have OT: ∀r,r∈d.rows→r.length≤1048576:=fun r hr=>by rw[(jI.1 hkk.1).2 r hr];decide
  have hxl:(vO d.rows v).length≤1048576:=sR v OT d.rows.length (Nat.le_refl _)
  exact au (af (aF X [] [(20,⟨true,[.a (.sl .u8 (vO d.rows v))]⟩),(21,⟨true,[.a (.sl .u8 (cH HM (vO d.rows v)))]⟩)] [4] [] 127 0 MO (by kernel_rfl) rfl (by kernel_rfl) ⟨iF HM (vO d.rows v) (by rw[jH];decide) hxl,zO d.rows v OT,⟨rfl,aP _ (by decide)⟩,rfl,by omega,⟨by decide,by decide⟩,⟨⟩⟩ (ak (ah rfl ⟨by rw[eg,if_pos hk],⟨⟩⟩))))
theorem pG(key:Int)(a:cA)(h1:a.selection.length≤262144)(h2:a.data.length≤262144):So 226 [aA key, .agg (eK a)] [aA (DC key a.server a.round a.selection a.data)]:=by
 refine aq X call226 func226 ntmps226 rfl rfl ?_
 intro zb
 refine av X [0,3] rfl (af ?_)
 have t1:=(iX [[191,a.server,a.round,(a.selection.length:Int)],a.selection,Ek a.data] (by simp) (by simp[qv];omega))
 have t2:=(bG key ([[191,a.server,a.round,(a.selection.length:Int)],a.selection,Ek a.data].flatten) (by simp[qv];omega))
 refine aF X [] [(18,⟨true,[.a (.sl .int (Ek a.data))]⟩),(20,⟨true,bM t1⟩),(21,⟨false,bM t2⟩)] [4] [] 245759 1 MO (by kernel_rfl) rfl (by kernel_rfl) (by(repeat' with_reducible first|exact aK|refine aQ ?_ ?_|apply And.intro);(iterate 3 all_goals try first|exact(mR a.data (by omega))|exact t1|exact t2);all_goals first|exact rfl|exact⟨rfl,aP _ (by decide)⟩) ?_
 exact ak (ah rfl ⟨by simp[DC],⟨⟩⟩)
theorem jf(a:iC)(r:Int)(hz:a.rounds.length≤1048576∧ ∀y,y∈a.rounds→cQ List.length y.db.rows≤1048576):So 138 [.agg (dh a),aA r] [.agg (aS (fG a.rounds r)),aG (gh a.rounds r)]:=by
 refine aq X call138 func138 ntmps138 rfl rfl ?_
 intro zb
 refine bH 0 1 rfl rfl (fun Qr=>(av X [1,2,4] rfl (af (av X [1,2,4,6] rfl ?_))))
 refine ay (aE (fun k=>k≤a.rounds.length∧(a.rounds.take k).any (MQ r)=false) (fun k:Nat=> [(6, .one ((aA k)))]) (fun k=> []) (fun k=>a.rounds.length-k) 0 (fun k=>rfl) ⟨Nat.zero_le _,rfl⟩ rfl ?_)
 rintro k ⟨hk,hall⟩
 refine af (av X [1,2,4,6,11] rfl ?_)
 refine an rfl ?_ ?_<;>intro hb0
 ·try simp only[aR]at hb0
  refine au (af (ay (aD X [1,2,4,6,21] rfl (by and_intros<;>first|exact⟨⟩| (intros;omega)) ?_)))
  refine an rfl ?_ ?_<;>intro bf
  ·have hh:=Lo hb0 hall bf
   exact aC X [] [(28,⟨true,[.agg (aS ((a.rounds.getD k (aB .aJ)).db))]⟩)] [4,5] [] rfl (by(with_reducible and_intros)<;>first|exact⟨⟩|exact(dN ((a.rounds.getD k (aB .aJ)).db) (hz.2 _ (getD_in _ hb0)))| (intros;omega)) (ak (ah rfl ⟨by rw[hh.2],by rw[hh.1],⟨⟩⟩))
  ·refine au (bu X [1,2,4,6] rfl ?_)
   refine⟨k+1,⟨by omega,vA (aB .aJ) hb0 hall bf⟩,by omega,?_⟩
   rw[bC _ k rfl (by omega)]
   try rfl
 ·try simp only[aR]at hb0
  exact aH (aD X [4,5] rfl (by trivial) (ak (ah rfl ⟨by rw[(BJ (by rw[←hall,List.take_of_length_le hb0])).2],by rw[(BJ (by rw[←hall,List.take_of_length_le hb0])).1],⟨⟩⟩)))
theorem zP(rows:List (List UInt8))(v:List Int)(hr: ∀r,r∈rows→r.length≤1048576):So 250 [.a (.sl (.sl .u8) rows), .a (.sl .int v)] [.a (.sl .u8 (vO rows v))]:=by
 refine aq X call250 func250 ntmps250 rfl rfl ?_
 intro zb
 refine cB 0 rfl (fun hl0=> ?_)
 refine cB 1 rfl (fun hl1=>(av X [0,1] rfl (aD X [0,1,5] rfl (by and_intros<;>first|exact⟨⟩|exact rfl) (af (av X [0,1,5,6] rfl ?_)))))
 refine ay (aE (fun k=>k≤rows.length) (fun k:Nat=> [(6, .one ((aA k)))]) (fun k=> [(7, .arr .u8 (pE rows v k))]) (fun k=>rows.length-k) 0 (fun k=>rfl) (Nat.zero_le _) rfl ?_)
 intro k hk
 have hle:=sR v hr k hk
 refine af (av X [0,1,5,6,17] rfl ?_)
 refine an rfl ?_ ?_<;>intro hb0
 ·try simp only[aR]at hb0
  have hel:=hr _ (getD_in (aB (.sl .u8)) hb0.1)
  refine au (af (ay (aD X [0,1,5,6,24] rfl (by and_intros<;>first|exact⟨⟩| (intros;omega)) ?_)))
  refine an rfl ?_ ?_<;>intro bf
  ·try simp only[aR]at bf
   have hs:=sQ (rows:=rows) hb0.2 bf
   refine aN X [] [(30,⟨true,[.a (.sl .u8 (cH (pE rows v k) (rows.getD k (aB (.sl .u8)))))]⟩)] [0,1,5,6] [] rfl (by(with_reducible and_intros)<;>first|exact⟨⟩|exact(iG (pE rows v k) (rows.getD k (aB (.sl .u8))) (by first|assumption|omega| (simp;done)| (simp;omega)) (by first|assumption|omega| (simp;done)| (simp;omega)))| (intros;omega)) (mw 5 7 rfl (bu X [0,1,5,6] rfl ?_))
   refine⟨k+1,by omega,by omega,?_⟩
   rw[bC _ k rfl (by omega),hs]
   try rfl
  ·try simp only[aR]at bf
   have hs:=mD (rows:=rows) (v:=v) (k:=k) (fun h=>bf h.2)
   refine au (bu X [0,1,5,6] rfl ?_)
   refine⟨k+1,by omega,by omega,?_⟩
   rw[bC _ k rfl (by omega),hs]
   try rfl
 ·try simp only[aR]at hb0
  exact aH (av X [4] rfl (ak (ah rfl ⟨by rw[Jq hk (by omega)],⟨⟩⟩)))
theorem nk(d:DB)(v:List Int):So 206 [.agg (aS d), .a (.sl .int v)] [.a (.sl .u8 (eg d v))]:=by
 refine aq X call206 func206 ntmps206 rfl rfl ?_
 intro zb
 refine av X [1,2] rfl (af (aC X [] [(6,⟨false,[aG (cg d)]⟩),(13,⟨false,[aG (cF v (d.rows.length:Int))]⟩)] [1,2,15] [] rfl (by(with_reducible and_intros);(iterate 2 all_goals try first|exact⟨⟩|exact(cC d)|exact fun _=>(iQ v (d.rows.length:Int)))) ?_))
 refine an rfl ?_ ?_<;>intro hb0
 ·have hk:(cg d&&cF v d.rows.length)=false:=bP hb0 (by simp only[aO]<;>first|rfl|ac_rfl)
  exact aD X [4] rfl (by and_intros<;>first|exact⟨⟩|exact rfl) (ak (ah rfl ⟨by rw[eg,hk];rfl,⟨⟩⟩))
 ·have hk:(cg d&&cF v d.rows.length)=true:=bO hb0 (by simp only[aO]<;>first|rfl|ac_rfl)
  have hkk:=hk
  rw[Bool.and_eq_true]at hkk
  have OT: ∀r,r∈d.rows→r.length≤1048576:=fun r hr=>by rw[(jI.1 hkk.1).2 r hr];decide
  have hxl:(vO d.rows v).length≤1048576:=sR v OT d.rows.length (Nat.le_refl _)
  exact au (af (aF X [] [(21,⟨true,[.a (.sl .u8 (vO d.rows v))]⟩),(22,⟨true,[.a (.sl .u8 (cH HM (vO d.rows v)))]⟩)] [4] [] 127 0 MO (by kernel_rfl) rfl (by kernel_rfl) ⟨iG HM (vO d.rows v) (by rw[jH];decide) hxl,zP d.rows v OT,⟨rfl,aP _ (by decide)⟩,rfl,by omega,⟨by decide,by decide⟩,⟨⟩⟩ (ak (ah rfl ⟨by rw[eg,if_pos hk],⟨⟩⟩))))
theorem kM(key:Int)(a:cA)(h1:a.selection.length≤262144)(h2:a.data.length≤262144):So 204 [aA key, .agg (eK a)] [aA (DC key a.server a.round a.selection a.data)]:=by
 refine aq X call204 func204 ntmps204 rfl rfl ?_
 intro zb
 have Cm:=qv a.data
 refine av X [0,3] rfl (aC X [(16,13)] [] [0,3,5] [] rfl (by and_intros<;>first|exact⟨⟩|exact rfl| (simp only[cK,maxLen,lens];omega)) (af ?_))
 have t1:=(bp key ([191,a.server,a.round,(a.selection.length:Int)]++a.selection++Ek a.data) (by simp[qv];omega))
 exact aN X [(22,13)] [(21,⟨true,[.a (.sl .int (Ek a.data))]⟩),(23,⟨false,bM t1⟩)] [4] [] rfl (by(with_reducible and_intros);(iterate 2 all_goals try first|exact⟨⟩|exact(mS a.data (by omega))|exact t1);all_goals first|exact rfl| (simp only[cK,maxLen,lens];omega)) (ak (ah rfl ⟨rfl,⟨⟩⟩))
theorem uY(key:Int)(a:cA)(h1:a.selection.length≤262144)(h2:a.data.length≤262144):mN ty Tryz.prog 171 [(5, .arr .int a.selection),(6, .arr .u8 a.data)] [aA key, .agg [cS a.server,cS a.round, .own 5, .own 6,cS a.Kl]] [(5, .arr .int a.selection),(6, .arr .u8 a.data)] [.agg [cS a.server,cS a.round, .own 5, .own 6,cS (DC key a.server a.round a.selection a.data)]]:=by
 refine kI X call171 func171 rfl rfl (by decide) ntmps171 (by simp) rfl ?_
 intro zb
 exact av X [0,3,4] rfl (aC X [] [(7,⟨false,[aA (DC key a.server a.round a.selection a.data)]⟩)] [3,4] [] rfl (by(with_reducible and_intros)<;>first|exact⟨⟩|exact(pG key a h1 h2)) (aD X [4] rfl (by trivial) (ak (pz rfl ⟨rfl,rfl,rfl,rfl,rfl,⟨⟩⟩))))
theorem xM(key sv r:Int)(d:DB)(v:List Int)(hv:v.length≤262144):So 170 [aA key,aA sv,aA r, .agg (aS d), .a (.sl .int v)] [.agg (eK (nD key sv r d v)),aG (ji d v)]:=by
 refine aq X call170 func170 ntmps170 rfl rfl ?_
 intro zb
 have hal:=sS d v
 refine av X [0,1,2,4,8,10] rfl (aC X [] [(15,⟨true,[.a (.sl .u8 (eg d v))]⟩)] [0,1,2,4,10,12] [] rfl (by(with_reducible and_intros)<;>first|exact⟨⟩|exact(nj d v)) (af (av X [0,1,2,4,10,12,18] rfl ?_)))
 refine an rfl ?_ ?_<;>intro hb0
 ·try simp only[aR]at hb0
  have hk:=MX (d:=d) (v:=v) (by omega)
  have hg:=R4 (key:=key) (sv:=sv) (r:=r) hk
  exact aD X [10,11] rfl (by trivial) (ak (ah rfl (by and_intros<;>first|exact⟨⟩| (rw[hg];rfl;done)| (rw[hk];done))))
 ·try simp only[aR]at hb0
  have hk:=xL (d:=d) (v:=v) (by omega)
  have hg:=BM (key:=key) (sv:=sv) (r:=r) hk
  have h24:=ue hk
  refine au (af ?_)
  have t1:=(uY key (⟨sv,r,v,eg d v,0⟩:cA) (by show v.length≤_;omega) (by show(eg d v).length≤_;omega))
  exact aN X [] [(24,⟨true,[.a (.sl .int v)]⟩),(800027,⟨true,Gs t1⟩),(700027,⟨true, .agg [.ptr 5 24, .ptr 6 15]:: .agg []::Gt t1⟩)] [10,11] [] rfl (by(with_reducible and_intros);(iterate 2 all_goals try first|exact⟨⟩|exact(fU v (by omega))|exact t1)) (ak (ah rfl (by and_intros<;>first|exact⟨⟩| (rw[hg];rfl;done)| (rw[hk];done))))
theorem qV(s:aX)(key r:Int)(d:DB)(v:List Int)(hv:v.length≤262144):So 110 [.agg (bL s),aA key,aA r, .agg (aS d), .a (.sl .int v)] [.agg (eK (GX s key r d v)),aG (ji d v)]:=by
 refine aq X call110 func110 ntmps110 rfl rfl ?_
 intro zb
 refine av X [1,2,4,5,8,10] rfl (aC X [] [(21,⟨true,[.agg (eK (nD key s.id r d v)),aG (ji d v)]⟩)] [1,5,10,12,13] [] rfl (by(with_reducible and_intros)<;>first|exact⟨⟩|exact(xM key s.id r d v (by first|assumption|omega| (simp;done)| (simp;omega)))) (af (av X [1,10,12,13,29] rfl ?_)))
 refine an rfl ?_ ?_<;>intro hb0
 ·have hq:(ji d v&&(s.behavior==3))=true:=gV hb0 (by simp only[aO]<;>first|rfl|ac_rfl)
  obtain⟨hk,ha⟩:=MY (key:=key) (r:=r) hq
  have hg:=BM (key:=key) (sv:=s.id) (r:=r) hk
  have uu:(nD key s.id r d v).data.length=24:=by rw[hg];exact ue hk
  refine aD X [1,10,12,13] rfl (by and_intros<;>first|exact⟨⟩| (intros;omega)|exact(eP _).1|exact(eP _).2) ?_
  rw[R3]
  have t1:=(uY key (⟨(nD key s.id r d v).server,(nD key s.id r d v).round,(nD key s.id r d v).selection,Fw (nD key s.id r d v).data,(nD key s.id r d v).Kl⟩:cA) (by show(nD key s.id r d v).selection.length≤_;rw[hg];exact hv) (by show(Fw (nD key s.id r d v).data).length≤_;rw[G2,uu];decide))
  exact aN X [] [(800038,⟨true,Gs t1⟩),(700038,⟨true, .agg [.ptr 5 23, .ptr 6 24]:: .agg []::Gt t1⟩)] [10,12,13] [] rfl (by(with_reducible and_intros)<;>first|exact⟨⟩|exact t1) (aD X [10,11] rfl (by trivial) (ak (ah rfl (by and_intros<;>first|exact⟨⟩| (rw[ha];simp only[hg];rfl;done)| (rw[hk];done)))))
 ·have hq:(ji d v&&(s.behavior==3))=false:=kH hb0 (by simp only[aO]<;>first|rfl|ac_rfl)
  have ha:=R5 (key:=key) (r:=r) hq
  exact au (aD X [10,11] rfl (by trivial) (ak (ah rfl (by and_intros<;>first|exact⟨⟩|rfl| (rw[ha];done)))))
theorem xN(key sv r:Int)(d:DB)(v:List Int)(hv:v.length≤262144):So 203 [aA key,aA sv,aA r, .agg (aS d), .a (.sl .int v)] [.agg (eK (nD key sv r d v)),aG (ji d v)]:=by
 refine aq X call203 func203 ntmps203 rfl rfl ?_
 intro zb
 have hal:=sS d v
 refine av X [0,1,2,4,8,10] rfl (aC X [] [(16,⟨true,[.a (.sl .u8 (eg d v))]⟩)] [0,1,2,4,10,12] [] rfl (by(with_reducible and_intros)<;>first|exact⟨⟩|exact(nk d v)) (af (av X [0,1,2,4,10,12,19] rfl ?_)))
 refine an rfl ?_ ?_<;>intro hb0
 ·try simp only[aR]at hb0
  have hk:=MX (d:=d) (v:=v) (by omega)
  have hg:=R4 (key:=key) (sv:=sv) (r:=r) hk
  exact aD X [10,11] rfl (by trivial) (ak (ah rfl (by and_intros<;>first|exact⟨⟩| (rw[hg];rfl;done)| (rw[hk];done))))
 ·try simp only[aR]at hb0
  have hk:=xL (d:=d) (v:=v) (by omega)
  have hg:=BM (key:=key) (sv:=sv) (r:=r) hk
  have h24:=ue hk
  exact au (aC X [(25,23)] [] [0,10,13] [] rfl (by and_intros<;>first|exact⟨⟩|exact rfl| (simp only[cK,maxLen,lens];omega)) (aC X [] [(30,⟨false,[aA (DC key (⟨sv,r,v,eg d v,0⟩:cA).server (⟨sv,r,v,eg d v,0⟩:cA).round (⟨sv,r,v,eg d v,0⟩:cA).selection (⟨sv,r,v,eg d v,0⟩:cA).data)]⟩)] [10,13] [] rfl (by(with_reducible and_intros)<;>first|exact⟨⟩|exact(kM key (⟨sv,r,v,eg d v,0⟩:cA) (by show v.length≤_;omega) (by show(eg d v).length≤_;omega))) (aD X [10,11] rfl (by trivial) (ak (ah rfl (by and_intros<;>first|exact⟨⟩| (rw[hg];rfl;done)| (rw[hk];done)))))))
theorem qW(s:aX)(key r:Int)(d:DB)(v:List Int)(hv:v.length≤262144):So 139 [.agg (bL s),aA key,aA r, .agg (aS d), .a (.sl .int v)] [.agg (eK (GX s key r d v)),aG (ji d v)]:=by
 refine aq X call139 func139 ntmps139 rfl rfl ?_
 intro zb
 refine av X [1,2,4,5,8,10] rfl (aC X [] [(21,⟨true,[.agg (eK (nD key s.id r d v)),aG (ji d v)]⟩)] [1,5,10,12,13] [] rfl (by(with_reducible and_intros)<;>first|exact⟨⟩|exact(xN key s.id r d v (by first|assumption|omega| (simp;done)| (simp;omega)))) (af (av X [1,10,12,13,29] rfl ?_)))
 refine an rfl ?_ ?_<;>intro hb0
 ·have hq:(ji d v&&(s.behavior==3))=true:=gV hb0 (by simp only[aO]<;>first|rfl|ac_rfl)
  obtain⟨hk,ha⟩:=MY (key:=key) (r:=r) hq
  have hg:=BM (key:=key) (sv:=s.id) (r:=r) hk
  have uu:(nD key s.id r d v).data.length=24:=by rw[hg];exact ue hk
  refine af (aF X [] [] [1,10,12,13] [] 255 0 MO (by kernel_rfl) rfl (by kernel_rfl) (by and_intros<;>first|exact⟨⟩| (intros;omega)|exact(eP _).1|exact(eP _).2) ?_)
  rw[R3]
  exact aN X [] [(40,⟨false,[aA (DC key (⟨(nD key s.id r d v).server,(nD key s.id r d v).round,(nD key s.id r d v).selection,Fw (nD key s.id r d v).data,(nD key s.id r d v).Kl⟩:cA).server (⟨(nD key s.id r d v).server,(nD key s.id r d v).round,(nD key s.id r d v).selection,Fw (nD key s.id r d v).data,(nD key s.id r d v).Kl⟩:cA).round (⟨(nD key s.id r d v).server,(nD key s.id r d v).round,(nD key s.id r d v).selection,Fw (nD key s.id r d v).data,(nD key s.id r d v).Kl⟩:cA).selection (⟨(nD key s.id r d v).server,(nD key s.id r d v).round,(nD key s.id r d v).selection,Fw (nD key s.id r d v).data,(nD key s.id r d v).Kl⟩:cA).data)]⟩)] [10,12,13] [] rfl (by(with_reducible and_intros)<;>first|exact⟨⟩|exact(kM key (⟨(nD key s.id r d v).server,(nD key s.id r d v).round,(nD key s.id r d v).selection,Fw (nD key s.id r d v).data,(nD key s.id r d v).Kl⟩:cA) (by show(nD key s.id r d v).selection.length≤_;rw[hg];exact hv) (by show(Fw (nD key s.id r d v).data).length≤_;rw[G2,uu];decide))) (aD X [10,11] rfl (by trivial) (ak (ah rfl (by and_intros<;>first|exact⟨⟩| (rw[ha];simp only[hg];rfl;done)| (rw[hk];done)))))
 ·have hq:(ji d v&&(s.behavior==3))=false:=kH hb0 (by simp only[aO]<;>first|rfl|ac_rfl)
  have ha:=R5 (key:=key) (r:=r) hq
  exact au (aD X [10,11] rfl (by trivial) (ak (ah rfl (by and_intros<;>first|exact⟨⟩|rfl| (rw[ha];done)))))
theorem pH(b:List UInt8):So 254 [.a (.sl .u8 b)] [aG (!decide ((b.length:Int)=24))]:=by
 refine aq X call254 func254 ntmps254 rfl rfl ?_
 intro zb
 exact av X [0] rfl (av X [2] rfl (ak (ah rfl ⟨(congrArg Value.bool (by simp only[aO]<;>first|rfl|ac_rfl)),⟨⟩⟩)))
theorem EC(l:List (List UInt8))(hr: ∀a,a∈l→a.length≤1048576):So 255 [.a (.sl (.sl .u8) l)] [.a (.sl .u8 (sU l))]:=by
 refine aq X call255 func255 ntmps255 rfl rfl ?_
 intro zb
 refine cB 0 rfl (fun jV=>(av X [0] rfl (aD X [0,3] rfl (by and_intros<;>first|exact⟨⟩|exact rfl) (af (av X [3,7,8,9] rfl ?_)))))
 refine ay (aE (fun k=>k≤l.length) (fun k:Nat=> [(9, .one ((aA k)))]) (fun k=> [(6, .arr .u8 (sU (l.take k)))]) (fun k=>l.length-k) 0 (fun k=>rfl) (Nat.zero_le _) rfl ?_)
 intro k hk
 have hle:=Jr hr k
 refine av X [3,7,8,9,10] rfl ?_
 refine af (an rfl ?_ ?_)<;>intro hb0
 ·try simp only[aR]at hb0
  have hel:=hr _ (getD_in (aB (.sl .u8)) hb0)
  have hs:=zM l k hb0
  refine au (af (ay (aD X [3,5,7,8,9] rfl (by and_intros<;>first|exact⟨⟩| (intros;omega)) (aN X [] [(15,⟨true,[.a (.sl .u8 (cH (sU (l.take k)) (l.getD k (aB (.sl .u8)))))]⟩)] [3,7,8,9] [] rfl (by(with_reducible and_intros)<;>first|exact⟨⟩|exact(iF (sU (l.take k)) (l.getD k (aB (.sl .u8))) (by first|assumption|omega| (simp;done)| (simp;omega)) (by first|assumption|omega| (simp;done)| (simp;omega)))) (mw 3 6 rfl (bu X [3,7,8,9] rfl ?_))))))
  refine⟨k+1,by omega,by omega,?_⟩
  rw[bC _ k rfl (by omega),hs]
  try rfl
 ·try simp only[aR]at hb0
  exact aH (av X [2] rfl (ak (ah rfl ⟨by rw[List.take_of_length_le hb0],⟨⟩⟩)))
theorem ED(l:List (List UInt8))(hr: ∀a,a∈l→a.length≤1048576):So 260 [.a (.sl (.sl .u8) l)] [.a (.sl .u8 (sU l))]:=by
 refine aq X call260 func260 ntmps260 rfl rfl ?_
 intro zb
 refine cB 0 rfl (fun jV=>(av X [0] rfl (aD X [0,3] rfl (by and_intros<;>first|exact⟨⟩|exact rfl) (af (av X [0,3,4] rfl ?_)))))
 refine ay (aE (fun k=>k≤l.length) (fun k:Nat=> [(4, .one ((aA k)))]) (fun k=> [(5, .arr .u8 (sU (l.take k)))]) (fun k=>l.length-k) 0 (fun k=>rfl) (Nat.zero_le _) rfl ?_)
 intro k hk
 have hle:=Jr hr k
 refine af (av X [0,3,4,9] rfl ?_)
 refine an rfl ?_ ?_<;>intro hb0
 ·try simp only[aR]at hb0
  have hel:=hr _ (getD_in (aB (.sl .u8)) hb0)
  have hs:=zM l k hb0
  refine au (af (ay (aN X [] [(17,⟨true,[.a (.sl .u8 (cH (sU (l.take k)) (l.getD k (aB (.sl .u8)))))]⟩)] [0,3,4] [] rfl (by(with_reducible and_intros)<;>first|exact⟨⟩|exact(iG (sU (l.take k)) (l.getD k (aB (.sl .u8))) (by first|assumption|omega| (simp;done)| (simp;omega)) (by first|assumption|omega| (simp;done)| (simp;omega)))| (intros;omega)) (mw 3 5 rfl (bu X [0,3,4] rfl ?_)))))
  refine⟨k+1,by omega,by omega,?_⟩
  rw[bC _ k rfl (by omega),hs]
  try rfl
 ·try simp only[aR]at hb0
  exact aH (av X [2] rfl (ak (ah rfl ⟨by rw[List.take_of_length_le hb0],⟨⟩⟩)))
theorem rq(l:List (List UInt8)):So 223 [.a (.sl (.sl .u8) l)] [.a (.sl .u8 (TX l)),aG (gj l)]:=by
 refine aq X call223 func223 ntmps223 rfl rfl ?_
 intro zb
 refine cB 0 rfl (fun jV=>(av X [0] rfl (af (aC X [] [(6,⟨false,[aG (b7 (l.length:Int))]⟩),(10,⟨false,[aG (l.any fun b=> !decide ((b.length:Int)=24))]⟩)] [0,11] [] rfl (by(with_reducible and_intros);(iterate 2 all_goals try first|exact⟨⟩|exact(dR (l.length:Int))|exact fun _=>(dD _ _ _ pH))) ?_))))
 refine an rfl ?_ ?_<;>intro hb0
 ·have hk:gj l=false:=by rw[gj,sA];exact bP hb0 (by simp only[aO]<;>first|rfl|ac_rfl)
  exact av X [2,3] rfl (ak (ah rfl ⟨by rw[BN hk],by rw[hk],⟨⟩⟩))
 ·have hk:gj l=true:=by rw[gj,sA];exact bO hb0 (by simp only[aO]<;>first|rfl|ac_rfl)
  have hel:=Jt hk
  exact au (aC X [] [(13,⟨true,[.a (.sl .u8 (sU l))]⟩)] [2,3] [] rfl (by(with_reducible and_intros)<;>first|exact⟨⟩|exact(EC l hel)) (ak (ah rfl ⟨by rw[G3 hk],by rw[hk],⟨⟩⟩)))
theorem ru(l:List (List UInt8)):So 245 [.a (.sl (.sl .u8) l)] [.a (.sl .u8 (TX l)),aG (gj l)]:=by
 refine aq X call245 func245 ntmps245 rfl rfl ?_
 intro zb
 refine cB 0 rfl (fun jV=>(av X [0] rfl (af (av X [0,4] rfl ?_))))
 refine ay (aE (fun k=>k≤l.length∧(l.take k).all (fun a=>decide ((a.length:Int)=24))=true) (fun k:Nat=> [(4, .one ((aA k)))]) (fun k=> []) (fun k=>l.length-k) 0 (fun k=>rfl) ⟨Nat.zero_le _,rfl⟩ rfl ?_)
 rintro k ⟨hk0,hall⟩
 refine af (av X [0,4,8] rfl ?_)
 refine an rfl ?_ ?_<;>intro hb0
 ·try simp only[aR]at hb0
  refine au (af (ay (aD X [0,4,16] rfl (by and_intros<;>first|exact⟨⟩| (intros;omega)) ?_)))
  refine an rfl ?_ ?_<;>intro bf
  ·try simp only[aR]at bf
   have hk:=Vv hb0 (fun h=>bf (by rw[h];rfl))
   exact aD X [2,3] rfl (by and_intros<;>first|exact⟨⟩|exact rfl) (ak (ah rfl ⟨by rw[BN hk],by rw[hk],⟨⟩⟩))
  ·try simp only[aR]at bf
   refine au (bu X [0,4] rfl ?_)
   refine⟨k+1,⟨by omega,by rw[CZ _ _ _ (aB (.sl .u8)) hb0,hall,Bool.true_and];exact decide_eq_true bf⟩,by omega,?_⟩
   rw[bC _ k rfl (by omega)]
   try rfl
 ·try simp only[aR]at hb0
  rw[List.take_of_length_le hb0]at hall
  refine aH (af (aC X [] [(20,⟨false,[aG (b7 (l.length:Int))]⟩)] [0,21] [] rfl (by(with_reducible and_intros)<;>first|exact⟨⟩|exact(fL (l.length:Int))) ?_))
  refine an rfl ?_ ?_<;>intro bU
  ·have hk:gj l=false:=by rw[gj,hall];simpa using bU
   exact aD X [2,3] rfl (by and_intros<;>first|exact⟨⟩|exact rfl) (ak (ah rfl ⟨by rw[BN hk],by rw[hk],⟨⟩⟩))
  ·have hk:gj l=true:=by rw[gj,hall];simpa using bU
   have hel:=Jt hk
   exact au (aC X [] [(24,⟨true,[.a (.sl .u8 (sU l))]⟩)] [2,3] [] rfl (by(with_reducible and_intros)<;>first|exact⟨⟩|exact(ED l hel)) (ak (ah rfl ⟨by rw[G3 hk],by rw[hk],⟨⟩⟩)))
theorem sV(l:List cA)(hl:l.length≤1048576):So 166 [.a (.sl .cA l)] [.a (.sl .u8 (TX (l.map cA.data))),aG (gj (l.map cA.data))]:=by
 refine aq X call166 func166 ntmps166 rfl rfl ?_
 intro zb
 refine av X [0] rfl (aD X [0,4] rfl (by and_intros<;>first|exact⟨⟩|exact rfl) (Ju 4 60 rfl (af (av X [4,8,9,10] rfl ?_))))
 refine ay (aE (fun k=>k≤l.length) (fun k:Nat=> [(10, .one ((aA k)))]) (fun k=> [(60, .eZ (.sl .u8) ((l.take k).map cA.data) .mH)]) (fun k=>l.length-k) 0 (fun k=>rfl) (Nat.zero_le _) rfl ?_)
 intro k hk
 have hle:=bl l k
 refine av X [4,8,9,10,11] rfl ?_
 refine af (an rfl ?_ ?_)<;>intro hb0
 ·try simp only[aR]at hb0
  have hs:=lp cA.data l k (aB .cA) hb0
  have hml:((l.take k).map cA.data).length=(l.take k).length:=List.length_map ..
  refine au (af (ay (aD X [4,6,8,9,10] rfl (by and_intros<;>first|exact⟨⟩| (intros;omega)) (aN X [(18,60)] [] [4,8,9,10] [] rfl (by and_intros<;>first|exact⟨⟩|exact rfl| (simp only[cK,maxLen,lens];omega)) (bu X [4,8,9,10] rfl ?_)))))
  refine⟨k+1,by omega,by omega,?_⟩
  rw[bC _ k rfl (by omega),hs]
  try rfl
 ·try simp only[aR]at hb0
  rw[List.take_of_length_le hb0]
  refine aH (af ?_)
  have t1:=(rq (l.map cA.data))
  exact aN X [] [(21,⟨true,bM t1⟩)] [2,3] [] rfl (by(with_reducible and_intros)<;>first|exact⟨⟩|exact t1) (ak (ah rfl ⟨rfl,rfl,⟨⟩⟩))
theorem sW(l:List cA)(hl:l.length≤1048576):So 199 [.a (.sl .cA l)] [.a (.sl .u8 (TX (l.map cA.data))),aG (gj (l.map cA.data))]:=by
 refine aq X call199 func199 ntmps199 rfl rfl ?_
 intro zb
 refine av X [0] rfl (aD X [0,4] rfl (by and_intros<;>first|exact⟨⟩|exact rfl) (Ju 4 60 rfl (af (av X [0,4,5] rfl ?_))))
 refine ay (aE (fun k=>k≤l.length) (fun k:Nat=> [(5, .one ((aA k)))]) (fun k=> [(60, .eZ (.sl .u8) ((l.take k).map cA.data) .mH)]) (fun k=>l.length-k) 0 (fun k=>rfl) (Nat.zero_le _) rfl ?_)
 intro k hk
 have hle:=bl l k
 refine af (av X [0,4,5,10] rfl ?_)
 refine an rfl ?_ ?_<;>intro hb0
 ·try simp only[aR]at hb0
  have hs:=lp cA.data l k (aB .cA) hb0
  have hml:((l.take k).map cA.data).length=(l.take k).length:=List.length_map ..
  refine au (af (ay (aN X [(20,60)] [] [0,4,5] [] rfl (by and_intros<;>first|exact⟨⟩| (intros;omega)|exact rfl| (simp only[cK,maxLen,lens];omega)) (bu X [0,4,5] rfl ?_))))
  refine⟨k+1,by omega,by omega,?_⟩
  rw[bC _ k rfl (by omega),hs]
  try rfl
 ·try simp only[aR]at hb0
  rw[List.take_of_length_le hb0]
  refine aH (af ?_)
  have t1:=(ru (l.map cA.data))
  exact aN X [] [(22,⟨true,bM t1⟩)] [2,3] [] rfl (by(with_reducible and_intros)<;>first|exact⟨⟩|exact t1) (ak (ah rfl ⟨rfl,rfl,⟨⟩⟩))
theorem nq(x:aV)(r row s:Int)(hk:okW x=true):So 107 [.agg (aU x),aA r,aA row,aA s] [.a (.sl .u8 (GY x r row s)),aG (A3 x r row s)]:=by
 refine aq X call107 func107 ntmps107 rfl rfl ?_
 intro zb
 have har:=G5 hk
 have hql:=MZ r row s hk
 have hs4:=dj hk
 have hrl:=kE x.aj.length r row s
 refine av X [1,2,3,4] rfl (af ?_)
 have t1:=(je x.az r ⟨by omega,har.2⟩)
 refine aN X [] [(21,⟨true,bM t1⟩)] [1,2,3,4,10,11] [] rfl (by(with_reducible and_intros)<;>first|exact⟨⟩|exact t1) (af (aC X [] [(25,⟨false,[aG (okW x)]⟩)] [1,2,3,4,10,30] [] rfl (by(with_reducible and_intros)<;>first|exact⟨⟩|exact(cq x)) ?_))
 refine an rfl ?_ ?_<;>intro hb0
 ·have hh:gh x.az.rounds r=false:=by rw[hk]at hb0;simpa using hb0
  exact av X [8,9] rfl (ak (ah rfl ⟨by rw[(G4 hh).1],by rw[(G4 hh).2],⟨⟩⟩))
 ·have hh:gh x.az.rounds r=true:=by rw[hk]at hb0;simpa using hb0
  have YC:=M0 (row:=row) (s:=s) hh
  refine au (aD X [1,2,3,4,10,12] rfl (by and_intros<;>first|exact⟨⟩|exact rfl) (af (af ?_)))
  have t1:=(zy x.rows row (fD x.aj.length r row s) (by omega))
  refine aF X [] [(39,⟨true,[.a (.sl .int (fD x.aj.length r row s))]⟩),(40,⟨true,bM t1⟩)] [1,4,10,12,40,41,42] [] 2047 0 MO (by kernel_rfl) rfl (by kernel_rfl) (by(with_reducible and_intros);(iterate 2 all_goals try first|exact⟨⟩|exact(zA x r row s (by omega))|exact t1)) ?_
  refine ay (aE (fun k=>k≤(query' x r row s).length) (fun k:Nat=> [(42, .one ((aA k)))]) (fun k=> [(31, .arr .cA (qP x r (fG x.az.rounds r) (query' x r row s) k))]) (fun k=>(query' x r row s).length-k) 0 (fun k=>rfl) (Nat.zero_le _) rfl ?_)
  intro k hk
  have hal:=Fx x r (fG x.az.rounds r) (query' x r row s) k
  have hqy:(ia x.rows row (fD x.aj.length r row s)).length=(query' x r row s).length:=rfl
  refine av X [1,4,10,12,40,41,42,43] rfl ?_
  refine af (an rfl ?_ ?_)<;>intro bf
  ·try simp only[aR]at bf
   have hqe:=R8 x r row s k
   have hs:=DD x r (fG x.az.rounds r) (query' x r row s) k
   refine au (af (ay (aD X [1,4,10,12,13,14,40,41,42] rfl (by and_intros<;>first|exact⟨⟩| (intros;omega)) (af ?_))))
   have t1:=(qV (x.aj.getD k (aB .aX)) (fY x.aT (k:Int)) r (fG x.az.rounds r) ((query' x r row s).getD k (aB (.sl .int))) (by omega))
   refine aF X [] [(56,⟨false,[aA (fY x.aT (k:Int))]⟩),(60,⟨true,bM t1⟩)] [1,4,10,12,15,16,40,41,42] [] 393215 1 MO (by kernel_rfl) rfl (by kernel_rfl) (by(with_reducible and_intros);(iterate 2 all_goals try first|exact⟨⟩|exact(gW x.aT (k:Int))|exact t1);all_goals first| (intros;omega)) (af (av X [1,4,10,12,15,40,41,42,64] rfl ?_))
   refine an rfl ?_ ?_<;>intro bU
   ·have hno:=RY bf (by simpa using bU)
    exact av X [8,9] rfl (ak (ah rfl ⟨by rw[YC.1,BN hno],by rw[YC.2,hno],⟨⟩⟩))
   ·refine au (aN X [(68,31)] [] [1,4,10,12,40,41,42] [] rfl (by and_intros<;>first|exact⟨⟩|exact rfl| (simp only[cK,maxLen,lens];omega)) (bu X [1,4,10,12,40,41,42] rfl ?_))
    refine⟨k+1,by omega,by omega,?_⟩
    rw[bC _ k rfl (by omega),hs]
    try rfl
  ·try simp only[aR]at bf
   refine aH (af ?_)
   have t1:=(sV (qP x r (fG x.az.rounds r) (query' x r row s) k) (by omega))
   exact aN X [] [(71,⟨true,bM t1⟩)] [8,9] [] rfl (by(with_reducible and_intros)<;>first|exact⟨⟩|exact t1) (ak (ah rfl ⟨by rw[YC.1,show k=(query' x r row s).length by omega];rfl,by rw[YC.2,show k=(query' x r row s).length by omega];rfl,⟨⟩⟩))
theorem sX(x:aV)(r row s:Int)(hk:okW x=true):So 136 [.agg (aU x),aA r,aA row,aA s] [.a (.sl .u8 (GY x r row s)),aG (A3 x r row s)]:=by
 refine aq X call136 func136 ntmps136 rfl rfl ?_
 intro zb
 have har:=G5 hk
 have hql:=MZ r row s hk
 have hs4:=dj hk
 have hrl:=kE x.aj.length r row s
 have hw:IntKind.i64.wrap ((x.aj.length:Int)-1)=(x.aj.length:Int)-1:=bh (by omega)
 refine av X [1,2,3,4] rfl (af ?_)
 have t1:=(jf x.az r ⟨by omega,har.2⟩)
 refine aN X [] [(23,⟨true,bM t1⟩)] [1,2,3,4,10,11] [] rfl (by(with_reducible and_intros)<;>first|exact⟨⟩|exact t1) (af (av X [1,2,3,4,10,27] rfl ?_))
 refine an rfl ?_ ?_<;>intro hb0
 ·have hh:gh x.az.rounds r=false:=by simpa using hb0
  exact aD X [8,9] rfl (by and_intros<;>first|exact⟨⟩|exact rfl) (ak (ah rfl ⟨by rw[(G4 hh).1],by rw[(G4 hh).2],⟨⟩⟩))
 ·have hh:gh x.az.rounds r=true:=by simpa using hb0
  have YC:=M0 (row:=row) (s:=s) hh
  refine au (aD X [1,2,3,4,10,12] rfl (by and_intros<;>first|exact⟨⟩|exact rfl) (af (av X [1,2,3,4,10,12,13] rfl ?_)))
  refine ay (aE (fun k=>k≤(x.aj.length-1)) (fun k:Nat=> [(13, .one ((aA k)))]) (fun k=> [(29, .arr .int ((fD x.aj.length r row s).take k))]) (fun k=>(x.aj.length-1)-k) 0 (fun k=>rfl) (Nat.zero_le _) rfl ?_)
  intro k hk
  have hle:=bl (fD x.aj.length r row s) k
  refine af (av X [1,2,3,4,10,12,13,35] rfl ?_)
  refine an rfl ?_ ?_<;>intro bf
  ·try simp only[aR]at bf
   rw[hw]at bf
   have hs:=AS x.aj.length r row s k (by omega)
   refine au (af (ay (aN X [(46,29)] [(44,⟨false,[aA (kh s [229,r,row,(k:Int)])]⟩)] [1,2,3,4,10,12,13] [] rfl (by(repeat' with_reducible first|exact aK|refine aQ ?_ ?_|apply And.intro)<;>first|exact(bp s [229,r,row,(k:Int)] (by first|assumption|omega| (simp;done)| (simp;omega)))|exact rfl|exact⟨rfl,aP _ (by decide)⟩| (simp only[cK,maxLen,lens];omega)) ?_)))
   refine bu X [1,2,3,4,10,12,13] rfl ?_
   refine⟨k+1,by omega,by omega,?_⟩
   rw[bC _ k rfl (by omega),hs]
   try rfl
  ·try simp only[aR]at bf
   rw[hw]at bf
   refine aH (af ?_)
   rw[List.take_of_length_le (show(fD x.aj.length r row s).length≤k by omega)]
   have t1:=(zz x.rows row (fD x.aj.length r row s) (by omega))
   refine aN X [] [(51,⟨true,bM t1⟩)] [1,4,10,14] [] rfl (by(with_reducible and_intros)<;>first|exact⟨⟩|exact t1) (aD X [1,4,10,14,15] rfl (by and_intros<;>first|exact⟨⟩|exact rfl) (af (av X [1,4,10,14,15,16] rfl ?_)))
   refine ay (aE (fun k1=>k1≤(query' x r row s).length) (fun k1:Nat=> [(16, .one ((aA k1)))]) (fun k1=> [(52, .arr .cA (qP x r (fG x.az.rounds r) (query' x r row s) k1))]) (fun k1=>(query' x r row s).length-k1) 0 (fun k1=>rfl) (Nat.zero_le _) rfl ?_)
   intro k1 hk1
   have hal:=Fx x r (fG x.az.rounds r) (query' x r row s) k1
   have hqy:(ia x.rows row (fD x.aj.length r row s)).length=(query' x r row s).length:=rfl
   refine af (av X [1,4,10,14,15,16,56] rfl ?_)
   refine an rfl ?_ ?_<;>intro bU
   ·try simp only[aR]at bU
    have hqe:=R8 x r row s k1
    have hs1:=DD x r (fG x.az.rounds r) (query' x r row s) k1
    refine au (af (ay (af ?_)))
    have t1:=(qW (x.aj.getD k1 (aB .aX)) (fY x.aT (k1:Int)) r (fG x.az.rounds r) ((query' x r row s).getD k1 (aB (.sl .int))) (by omega))
    refine aF X [] [(68,⟨false,[aA (fY x.aT (k1:Int))]⟩),(75,⟨true,bM t1⟩)] [1,4,10,14,15,16,17] [] 3145727 1 MO (by kernel_rfl) rfl (by kernel_rfl) (by(with_reducible and_intros);(iterate 2 all_goals try first|exact⟨⟩|exact(gX x.aT (k1:Int))|exact t1);all_goals first| (intros;omega)) (aN X [(81,52)] [] [1,4,10,14,15,16] [] rfl (by and_intros<;>first|exact⟨⟩|exact rfl| (simp only[cK,maxLen,lens];omega)) (bu X [1,4,10,14,15,16] rfl ?_))
    refine⟨k1+1,by omega,by omega,?_⟩
    rw[bC _ k1 rfl (by omega),hs1]
    try rfl
   ·try simp only[aR]at bU
    refine aH (af ?_)
    have t1:=(sW (qP x r (fG x.az.rounds r) (query' x r row s) k1) (by omega))
    exact aN X [] [(83,⟨true,bM t1⟩)] [8,9] [] rfl (by(with_reducible and_intros)<;>first|exact⟨⟩|exact t1) (ak (ah rfl ⟨by rw[YC.1,show k1=(query' x r row s).length by omega];rfl,by rw[YC.2,show k1=(query' x r row s).length by omega];rfl,⟨⟩⟩))
end
section
set_option maxRecDepth 100000
theorem fA(c:dK)(h0:cQ List.length c.aI≤1048576∧cQ List.length c.inbox≤1048576):So 146 [.agg (bJ c)] [.agg (bJ c)]:=by
 refine aq X call146 func146 ntmps146 rfl rfl ?_
 intro zb
 exact av X [1,2] rfl (aC X [] [(5,⟨true,[.a (.sl (.sl .u8) c.aI)]⟩)] [1,2] [] rfl (by(with_reducible and_intros)<;>first|exact⟨⟩|exact(kA c.aI h0.1)) (aC X [] [(9,⟨true,[.a (.sl (.sl .u8) c.inbox)]⟩)] [1,2] [] rfl (by(with_reducible and_intros)<;>first|exact⟨⟩|exact(kA c.inbox h0.2)) (aD X [2] rfl (by trivial) (ak (ah rfl ⟨rfl,rfl,rfl,rfl,rfl,rfl,rfl,rfl,⟨⟩⟩)))))
theorem jR(d:bg)(h0:bD d≤1048576):So 85 [.agg (bY d)] [.agg (bY d)]:=by
 refine aq X call85 func85 ntmps85 rfl rfl ?_
 intro zb
 have vk:cu d.live≤1048576∧cu d.saved≤1048576:=by unfold bD at h0;omega
 unfold cu at vk
 exact av X [1,2] rfl (af (aF X [] [(5,⟨true,[.agg (bJ d.live)]⟩),(8,⟨true,[.agg (bJ d.saved)]⟩)] [2] [] 127 0 MO (by kernel_rfl) rfl (by kernel_rfl) (by(with_reducible and_intros);(iterate 2 all_goals try first|exact⟨⟩|exact(fA d.live ⟨by omega,by omega⟩)|exact(fA d.saved ⟨by omega,by omega⟩))) (ak (ah rfl ⟨rfl,rfl,rfl,rfl,rfl,rfl,rfl,rfl,rfl,rfl,rfl,rfl,rfl,rfl,rfl,rfl,⟨⟩⟩))))
theorem nv(a:iC)(h0:ey a≤1048576):So 87 [.agg (dh a)] [.agg (dh a)]:=by
 refine aq X call87 func87 ntmps87 rfl rfl ?_
 intro zb
 have hls:cQ dU a.rounds≤1048576:=h0
 have jV:=dc hls
 refine av X [1,2] rfl (av X [1,2,3] rfl (gU 3 1 60 .aJ rfl (af (av X [2,3,10,11,12] rfl ?_))))
 refine ay (aE (fun k=>k≤a.rounds.length) (fun k:Nat=> [(12, .one ((aA k)))]) (fun k=> [(60, .arr .aJ (a.rounds.take k))]) (fun k=>a.rounds.length-k) 0 (fun k=>rfl) (Nat.zero_le _) rfl ?_)
 intro k hk
 have hle:=bl a.rounds k
 refine av X [2,3,10,11,12,13] rfl ?_
 refine af (an rfl ?_ ?_)<;>intro hb0
 ·try simp only[aR]at hb0
  have hs:=bq a.rounds k (aB .aJ) hb0
  refine au (af (ay (aD X [2,3,5,10,11,12] rfl (by and_intros<;>first|exact⟨⟩| (intros;omega)) (aF X [(25,60)] [(22,⟨true,[.agg (aS ((a.rounds.getD k (aB .aJ)).db))]⟩),(500024,⟨true,[]⟩)] [2,3,10,11,12] [] 511 0 MO (by kernel_rfl) rfl (by kernel_rfl) (by(repeat' with_reducible first|exact aK|refine aQ ?_ ?_|apply And.intro)<;>first|exact(ct ((a.rounds.getD k (aB .aJ)).db) (jl hls (getD_some a.rounds _ k hb0)))|exact rfl|exact⟨rfl,aP _ (by decide)⟩| (simp only[cK,maxLen,lens];omega)) ?_))))
  refine bu X [2,3,10,11,12] rfl ?_
  refine⟨k+1,by omega,by omega,?_⟩
  rw[bC _ k rfl (by omega),hs]
  try rfl
 ·try simp only[aR]at hb0
  exact aH (aD X [2] rfl (by trivial) (ak (ah rfl ⟨rfl,by rw[List.take_of_length_le hb0],⟨⟩⟩)))
theorem eI(x:aV)(h0:wB x):So 39 [.agg (aU x)] [.agg (aU x)]:=by
 refine aq X call39 func39 ntmps39 rfl rfl ?_
 intro zb
 have hls:cQ dr x.aj≤1048576∧cQ bD x.aa≤1048576∧ey x.az≤1048576∧x.replaced.length≤4194304:=h0
 have hl1:=dc hls.1
 have lO:=dc hls.2.1
 refine av X [1,2] rfl (aD X [1,2,3] rfl (by and_intros<;>first|exact⟨⟩|exact rfl) (af (av X [1,2,3,8,9,10] rfl ?_)))
 refine ay (aE (fun k=>k≤x.aa.length) (fun k:Nat=> [(10, .one ((aA k)))]) (fun k=> [(6, .arr .bg (x.aa.take k))]) (fun k=>x.aa.length-k) 0 (fun k=>rfl) (Nat.zero_le _) rfl ?_)
 intro k hk
 have hle:=bl x.aa k
 refine av X [1,2,3,8,9,10,11] rfl ?_
 refine af (an rfl ?_ ?_)<;>intro hb0
 ·try simp only[aR]at hb0
  have hs:=bq x.aa k (aB .bg) hb0
  refine au (af (ay (aD X [1,2,3,5,8,9,10] rfl (by and_intros<;>first|exact⟨⟩| (intros;omega)) (aN X [(18,6)] [(16,⟨true,[.agg (bY (x.aa.getD k (aB .bg)))]⟩)] [1,2,3,8,9,10] [] rfl (by(with_reducible and_intros)<;>first|exact⟨⟩|exact(jR (x.aa.getD k (aB .bg)) (jl hls.2.1 (getD_some x.aa _ k hb0)))|exact rfl| (simp only[cK,maxLen,lens];omega)) (bu X [1,2,3,8,9,10] rfl ?_)))))
  refine⟨k+1,by omega,by omega,?_⟩
  rw[bC _ k rfl (by omega),hs]
  try rfl
 ·try simp only[aR]at hb0
  exact aH (aC X [] [(22,⟨true,[.a (.sl .aX x.aj)]⟩)] [1,2,3] [] rfl (by(with_reducible and_intros)<;>first|exact⟨⟩|exact(nh x.aj hl1 (fun s hs=>by obtain⟨i,hi⟩:=List.mem_iff_getElem?.1 hs;exact Fp hls.1 hi))) (av X [1,2] rfl (aC X [] [(28,⟨true,[.agg (dh x.az)]⟩)] [1,2] [] rfl (by(with_reducible and_intros)<;>first|exact⟨⟩|exact(nv x.az hls.2.2.1)) (aC X [] [(32,⟨true,[.a (.sl .int x.replaced)]⟩)] [1,2] [] rfl (by(with_reducible and_intros)<;>first|exact⟨⟩|exact(fU x.replaced hls.2.2.2)) (aD X [2] rfl (by trivial) (ak (ah rfl (by and_intros<;>first|exact⟨⟩|rfl| (rw[List.take_of_length_le hb0];done)))))))))
theorem zY(c:dK)(h0:cQ List.length c.aI≤1048576∧cQ List.length c.inbox≤1048576):So 225 [.agg (bJ c)] [.agg (bY (⟨c,c⟩:bg))]:=by
 refine aq X call225 func225 ntmps225 rfl rfl ?_
 intro zb
 exact av X [1,2] rfl (af (aF X [(6,40)] [(4,⟨true,[.agg (bJ c)]⟩),(6,⟨true,[.agg (bJ c)]⟩)] [2] [] 31 0 MO (by kernel_rfl) rfl (by kernel_rfl) (by(with_reducible and_intros);(iterate 2 all_goals try first|exact⟨⟩|exact(fA c h0))) (ak (ah rfl ⟨rfl,rfl,rfl,rfl,rfl,rfl,rfl,rfl,rfl,rfl,rfl,rfl,rfl,rfl,rfl,rfl,⟨⟩⟩))))
theorem xX(d:bg)(h0:bD d≤1048576):So 169 [.agg (bY d)] [.agg (bY (Kq d))]:=by
 refine aq X call169 func169 ntmps169 rfl rfl ?_
 intro zb
 have vk:cu d.live≤1048576∧cu d.saved≤1048576:=by unfold bD at h0;omega
 unfold cu at vk
 refine av X [1,2] rfl (af (aC X [] [(4,⟨false,[aG (cR d)]⟩)] [1,2,5] [] rfl (by(with_reducible and_intros)<;>first|exact⟨⟩|exact(fm d)) ?_))
 refine an rfl ?_ ?_<;>intro hb0
 ·have hk:cR d=false:=by simpa using hb0
  have hd:Kq d=d:=by rw[Kq,hk];rfl
  exact aC X [] [(7,⟨true,[.agg (bY d)]⟩)] [2] [] rfl (by(with_reducible and_intros)<;>first|exact⟨⟩|exact(jR d h0)) (ak (ah rfl (by and_intros<;>first|exact⟨⟩| (rw[hd];done))))
 ·have hk:cR d=true:=by simpa using hb0
  have hd:Kq d=⟨d.live,d.live⟩:=by rw[Kq,if_pos hk]
  exact au (aC X [] [(10,⟨true,[.agg (bY (⟨d.live,d.live⟩:bg))]⟩)] [2] [] rfl (by(with_reducible and_intros)<;>first|exact⟨⟩|exact(zY d.live ⟨by omega,by omega⟩)) (ak (ah rfl (by and_intros<;>first|exact⟨⟩| (rw[hd];done)))))
theorem zZ(d:bg):So 168 [.agg (bY d)] [aG (uW d)]:=by
 refine aq X call168 func168 ntmps168 rfl rfl ?_
 intro zb
 exact av X [1] rfl (aC X [] [(4,⟨false,[aG (cR d)]⟩)] [2] [] rfl (by(with_reducible and_intros)<;>first|exact⟨⟩|exact(fm d)) (ak (ah rfl ⟨(congrArg Value.bool (by simp only[uW,aO]<;>first|rfl|ac_rfl)),⟨⟩⟩)))
theorem xY(c:dK)(r n:Int):So 106 [.agg (bJ c),aA r,aA n] [aA (eA c.key r (cx c) n),aA (eA c.key r (1-cx c) n)]:=by
 refine aq X call106 func106 ntmps106 rfl rfl ?_
 intro zb
 have hdw:=Sy c
 exact av X [1,2,3] rfl (af (aF X [] [(12,⟨false,[aA (cx c)]⟩),(14,⟨false,[aA (eA c.key r (cx c) n)]⟩),(19,⟨false,[aA (cx c)]⟩),(22,⟨false,[aA (eA c.key r (IntKind.i64.wrap (1-cx c)) n)]⟩)] [6,7] [] 131071 0 MO (by kernel_rfl) rfl (by kernel_rfl) (by(with_reducible and_intros);(iterate 4 all_goals try first|exact⟨⟩|exact(fM c)|exact(ju c.key r (cx c) n)|exact(ju c.key r (IntKind.i64.wrap (1-cx c)) n))) (ak (ah rfl ⟨rfl,by rw[hdw],⟨⟩⟩))))
theorem xZ(c:dK)(r:Int)(own other:List UInt8)(h0:cQ List.length c.aI≤1048576∧cQ List.length c.inbox≤1048576):So 167 [.agg (bJ c),aA r, .a (.sl .u8 own), .a (.sl .u8 other)] [.agg (bJ (dL c r own other)),aG (kK c r)]:=by
 refine aq X call167 func167 ntmps167 rfl rfl ?_
 intro zb
 refine av X [1,2,3,4,8] rfl (aC X [] [(14,⟨true,[.agg (bJ c)]⟩)] [1,2,3,4,8,10] [] rfl (by(with_reducible and_intros)<;>first|exact⟨⟩|exact(fA c h0)) (af (aC X [] [(16,⟨false,[aG (cN c)]⟩),(22,⟨false,[aG (inr r c.next 99999)]⟩)] [1,2,3,4,8,10,24] [] rfl (by(with_reducible and_intros);(iterate 2 all_goals try first|exact⟨⟩|exact(fk c)|exact fun _=>(aL r c.next 99999))) ?_)))
 refine an rfl ?_ ?_<;>intro hb0
 ·have hk:kK c r=false:=bP hb0 (by simp only[kK,aO]<;>first|rfl|ac_rfl)
  have hc:=JD (own:=own) (other:=other) hk
  exact aD X [8,9] rfl (by trivial) (ak (ah rfl (by and_intros<;>first|exact⟨⟩| (rw[hc];done)| (rw[hk];done))))
 ·have hk:kK c r=true:=bO hb0 (by simp only[kK,aO]<;>first|rfl|ac_rfl)
  obtain⟨hok,hn1,hn2,TM⟩:=Ss hk
  obtain⟨hu1,Pn,_,_,hs0,hs9,_,_⟩:=pg hok
  have hc:dL c r own other=⟨c.id,c.dz,c.key,c.seed,c.aI,if gA c own then c.sent+1 else c.sent,if fu c other then c.inbox++ [(Jp (qR c) (c.inbox.length:Int) other).body]else c.inbox,r+1⟩:=by rw[dL,if_pos hk]
  refine au (af (aC X [] [(37,⟨false,[.a (.sl .u8 (mV c c.sent))]⟩),(38,⟨false,[aG (own==(mV c c.sent))]⟩)] [1,3,4,8,10,39] [] rfl ⟨fun _=>jA own (mV c c.sent),fun h=>mX c c.sent hs0 (of_decide_eq_true h),⟨⟩⟩ ?_))
  refine an rfl ?_ ?_<;>intro bf
  ·have hh:gA c own=true:=gV bf (by simp only[gA,aO]<;>first|rfl|ac_rfl)
   refine bu X [1,3,4,8,10] rfl ?_
   rw[bh (a:=c.sent+1) (by omega)]
   refine af ?_
   have t1:=(qT (iD c.key (IntKind.i64.wrap (1-cx c))) (c.inbox.length:Int) other)
   refine aF X [] [(48,⟨false,[aA (cx c)]⟩),(50,⟨false,[aA (iD c.key (IntKind.i64.wrap (1-cx c)))]⟩),(55,⟨true,bM t1⟩)] [1,4,8,10,11,12] [] 98303 1 MO (by kernel_rfl) rfl (by kernel_rfl) (by(with_reducible and_intros);(iterate 3 all_goals try first|exact⟨⟩|exact(fM c)|exact(ir c.key (IntKind.i64.wrap (1-cx c)))|exact t1)) ?_
   rw[xW]
   refine af (av X [1,8,10,11,69] rfl ?_)
   refine an rfl ?_ ?_<;>intro bU
   ·have hg:fu c other=true:=gV bU (by simp only[fu,aO]<;>first|rfl|ac_rfl)
    refine iV X [1,8,10] rfl (by and_intros<;>first|exact⟨⟩|exact rfl| (simp only[cK,maxLen,lens];omega)) (av X [8,10] rfl ?_)
    rw[bh (a:=r+1) (by omega)]
    exact aD X [8,9] rfl (by trivial) (ak (ah rfl (by and_intros<;>first|exact⟨⟩| (rw[hc];done)| (rw[hc];simp only[hh,if_true];done)| (rw[hc];simp only[hg,if_true];done)| (rw[hk];done))))
   ·have hg:fu c other=false:=kH bU (by simp only[fu,aO]<;>first|rfl|ac_rfl)
    refine au (av X [8,10] rfl ?_)
    rw[bh (a:=r+1) (by omega)]
    exact aD X [8,9] rfl (by trivial) (ak (ah rfl (by and_intros<;>first|exact⟨⟩| (rw[hc];done)| (rw[hc];simp only[hh,if_true];done)| (rw[hc];simp[hg];done)| (rw[hk];done))))
  ·have hh:gA c own=false:=kH bf (by simp only[gA,aO]<;>first|rfl|ac_rfl)
   refine au (af ?_)
   have t1:=(qT (iD c.key (IntKind.i64.wrap (1-cx c))) (c.inbox.length:Int) other)
   refine aF X [] [(48,⟨false,[aA (cx c)]⟩),(50,⟨false,[aA (iD c.key (IntKind.i64.wrap (1-cx c)))]⟩),(55,⟨true,bM t1⟩)] [1,4,8,10,11,12] [] 98303 1 MO (by kernel_rfl) rfl (by kernel_rfl) (by(with_reducible and_intros);(iterate 3 all_goals try first|exact⟨⟩|exact(fM c)|exact(ir c.key (IntKind.i64.wrap (1-cx c)))|exact t1)) ?_
   rw[xW]
   refine af (av X [1,8,10,11,69] rfl ?_)
   refine an rfl ?_ ?_<;>intro bU
   ·have hg:fu c other=true:=gV bU (by simp only[fu,aO]<;>first|rfl|ac_rfl)
    refine iV X [1,8,10] rfl (by and_intros<;>first|exact⟨⟩|exact rfl| (simp only[cK,maxLen,lens];omega)) (av X [8,10] rfl ?_)
    rw[bh (a:=r+1) (by omega)]
    exact aD X [8,9] rfl (by trivial) (ak (ah rfl (by and_intros<;>first|exact⟨⟩| (rw[hc];done)| (rw[hc];simp[hh];done)| (rw[hc];simp only[hg,if_true];done)| (rw[hk];done))))
   ·have hg:fu c other=false:=kH bU (by simp only[fu,aO]<;>first|rfl|ac_rfl)
    refine au (av X [8,10] rfl ?_)
    rw[bh (a:=r+1) (by omega)]
    exact aD X [8,9] rfl (by trivial) (ak (ah rfl (by and_intros<;>first|exact⟨⟩| (rw[hc];done)| (rw[hc];simp[hh];done)| (rw[hc];simp[hg];done)| (rw[hk];done))))
theorem uD(d:bg)(r:Int)(own other:List UInt8)(h0:bD d≤1048576):So 108 [.agg (bY d),aA r, .a (.sl .u8 own), .a (.sl .u8 other)] [.agg (bY (rdev d r own other)),aG (qx d r)]:=by
 refine aq X call108 func108 ntmps108 rfl rfl ?_
 intro zb
 have vk:cu d.live≤1048576∧cu d.saved≤1048576:=by unfold bD at h0;omega
 unfold cu at vk
 refine av X [1,2,3,4,8] rfl (af ?_)
 have t1:=(xZ d.live r own other ⟨by omega,by omega⟩)
 refine aN X [] [(19,⟨true,bM t1⟩)] [4,8,10,11] [] rfl (by(with_reducible and_intros)<;>first|exact⟨⟩|exact t1) (af (aC X [] [(26,⟨false,[aG (cR d)]⟩)] [4,8,10,28] [] rfl (by(with_reducible and_intros)<;>first|exact⟨⟩|exact fun _=>(fm d)) ?_))
 refine an rfl ?_ ?_<;>intro hb0
 ·have hk:qx d r=false:=bP hb0 (by simp only[qx,aO]<;>first|rfl|ac_rfl)
  have hd:=Nd (own:=own) (other:=other) hk
  exact aC X [] [(30,⟨true,[.agg (bY d)]⟩)] [8,9] [] rfl (by(with_reducible and_intros)<;>first|exact⟨⟩|exact(jR d h0)) (ak (ah rfl (by and_intros<;>first|exact⟨⟩| (rw[hd];done)| (rw[hk];done))))
 ·have hk:qx d r=true:=bO hb0 (by simp only[qx,aO]<;>first|rfl|ac_rfl)
  have hz:=JE (own:=own) (other:=other) hk
  refine au (af (aF X [] [(34,⟨true,[.agg (bJ d.saved)]⟩)] [8,12] [] 63 0 MO (by kernel_rfl) rfl (by kernel_rfl) (by(with_reducible and_intros)<;>first|exact⟨⟩|exact(fA d.saved ⟨by omega,by omega⟩)) (af (aC X [] [(37,⟨false,[aG (uW (lC d r own other))]⟩)] [8,12,37] [] rfl (by(with_reducible and_intros)<;>first|exact⟨⟩|exact(zZ (lC d r own other))) ?_))))
  refine an rfl ?_ ?_<;>intro bf
  ·have hd:=Nf hk bf
   exact aN X [] [(39,⟨true,[.agg (bY (Kq (lC d r own other)))]⟩)] [8,12] [] rfl (by(with_reducible and_intros)<;>first|exact⟨⟩|exact(xX (lC d r own other) hz)) (aD X [8,9] rfl (by trivial) (ak (ah rfl (by and_intros<;>first|exact⟨⟩| (rw[hd];done)| (rw[hk];done)))))
  ·have hd:=Ng hk bf
   exact au (aD X [8,9] rfl (by trivial) (ak (ah rfl (by and_intros<;>first|exact⟨⟩| (rw[hd];rfl;done)| (rw[hk];done)))))
theorem Aa(x:aV)(h0:wB x):So 60 [.agg (aU x)] [.agg (aU (yI x))]:=by
 refine aq X call60 func60 ntmps60 rfl rfl ?_
 intro zb
 have hls:cQ dr x.aj≤1048576∧cQ bD x.aa≤1048576∧ey x.az≤1048576∧x.replaced.length≤4194304:=h0
 have lO:=dc hls.2.1
 refine av X [1,2] rfl (aC X [] [(15,⟨true,[.agg (aU x)]⟩)] [1,2,3] [] rfl (by(with_reducible and_intros)<;>first|exact⟨⟩|exact(eI x h0)) (af (aC X [] [(17,⟨false,[aG (okW x)]⟩)] [1,2,3,18] [] rfl (by(with_reducible and_intros)<;>first|exact⟨⟩|exact(cq x)) ?_)))
 refine an rfl ?_ ?_<;>intro hb0
 ·have hk0:okW x=false:=by simpa using hb0
  have hw:=Sx hk0
  exact aD X [2] rfl (by trivial) (ak (ah rfl (by and_intros<;>first|exact⟨⟩| (rw[hw];done))))
 ·have hk0:okW x=true:=by simpa using hb0
  have hw:=ug hk0
  have har:=G5 hk0
  have hd8:=(nR (jC hk0)).2.1
  refine au (af (av X [1,2,3,21,22,23] rfl ?_))
  refine ay (aE (fun k=>k≤x.aa.length) (fun k:Nat=> [(23, .one ((aA k)))]) (fun k=> [(17, .arr .bg (Pv x k))]) (fun k=>x.aa.length-k) 0 (fun k=>rfl) (Nat.zero_le _) rfl ?_)
  intro k hk
  have Em:=MU x k hk
  refine av X [1,2,3,21,22,23,24] rfl ?_
  refine af (an rfl ?_ ?_)<;>intro bf
  ·try simp only[aR]at bf
   have Z1:=MT x k bf
   have h00:=RZ x k bf
   have AB:=vL x.az.rounds (x.aa.getD k (aB .bg)).live.next
   have adz:(nY x (x.aa.getD k (aB .bg))).length≤x.az.rounds.length:=AB
   have hrq:(eY x.az.rounds (x.aa.getD k (aB .bg)).live.next).length=(nY x (x.aa.getD k (aB .bg))).length:=rfl
   refine au (af (ay (aD X [1,2,3,4,5,21,22,23] rfl (by and_intros<;>first|exact⟨⟩| (intros;omega)) (af ?_))))
   have t1:=(vM x.az ((x.aa.getD k (aB .bg)).live.next) (by omega))
   refine aN X [] [(33,⟨true,bM t1⟩)] [1,2,3,4,5,21,22,23,33,34,35] [] rfl (by(with_reducible and_intros)<;>first|exact⟨⟩|exact t1) ?_
   refine ay (aE (fun k1=>k1≤(nY x (x.aa.getD k (aB .bg))).length) (fun k1:Nat=> [(35, .one ((aA k1)))]) (fun k1=> [(17, .arr .bg (pQ x k k1))]) (fun k1=>(nY x (x.aa.getD k (aB .bg))).length-k1) 0 (fun k1=>rfl) (Nat.zero_le _) (by rw[h00];rfl) ?_)
   intro k1 hk1
   have mK:=MR x k k1 bf
   refine av X [1,2,3,4,5,21,22,23,33,34,35,36] rfl ?_
   refine af (an rfl ?_ ?_)<;>intro bU
   ·try simp only[aR]at bU
    have hs:=Js x k k1 bf bU
    have hsz:=Su hk0 bf k1
    refine au (af (ay (aD X [1,2,3,4,5,7,21,22,23,33,34,35] rfl (by and_intros<;>first|exact⟨⟩| (intros;omega)) (af ?_))))
    have t1:=(xY ((x.aa.getD k (aB .bg)).live) ((nY x (x.aa.getD k (aB .bg))).getD k1 (aB .int)) x.rows)
    refine aN X [] [(45,⟨false,bM t1⟩)] [1,2,3,4,5,7,8,9,21,22,23,33,34,35] [] rfl (by(with_reducible and_intros)<;>first|exact⟨⟩|exact t1) (af ?_)
    have t1:=(nq x ((nY x (x.aa.getD k (aB .bg))).getD k1 (aB .int)) (eA (x.aa.getD k (aB .bg)).live.key ((nY x (x.aa.getD k (aB .bg))).getD k1 (aB .int)) (cx (x.aa.getD k (aB .bg)).live) x.rows) ((x.aa.getD k (aB .bg)).live.seed) hk0)
    refine aN X [] [(55,⟨true,bM t1⟩)] [1,2,3,4,5,7,9,10,21,22,23,33,34,35] [] rfl (by(with_reducible and_intros)<;>first|exact⟨⟩|exact t1) (af ?_)
    have t1:=(nq x ((nY x (x.aa.getD k (aB .bg))).getD k1 (aB .int)) (eA (x.aa.getD k (aB .bg)).live.key ((nY x (x.aa.getD k (aB .bg))).getD k1 (aB .int)) (1-cx (x.aa.getD k (aB .bg)).live) x.rows) ((x.aa.getD k (aB .bg)).live.seed) hk0)
    refine aN X [] [(65,⟨true,bM t1⟩)] [1,2,3,4,5,7,10,12,21,22,23,33,34,35] [] rfl (by(with_reducible and_intros)<;>first|exact⟨⟩|exact t1) ?_
    have t1:=(uD ((pQ x k k1).getD k (aB .bg)) ((nY x (x.aa.getD k (aB .bg))).getD k1 (aB .int)) (GY x ((nY x (x.aa.getD k (aB .bg))).getD k1 (aB .int)) (eA (x.aa.getD k (aB .bg)).live.key ((nY x (x.aa.getD k (aB .bg))).getD k1 (aB .int)) (cx (x.aa.getD k (aB .bg)).live) x.rows) (x.aa.getD k (aB .bg)).live.seed) (GY x ((nY x (x.aa.getD k (aB .bg))).getD k1 (aB .int)) (eA (x.aa.getD k (aB .bg)).live.key ((nY x (x.aa.getD k (aB .bg))).getD k1 (aB .int)) (1-cx (x.aa.getD k (aB .bg)).live) x.rows) (x.aa.getD k (aB .bg)).live.seed) hsz)
    refine aF X [] [(80,⟨true,bM t1⟩)] [1,2,3,4,5,21,22,23,33,34,35] [] 65535 1 MO (by kernel_rfl) rfl (by kernel_rfl) (by(with_reducible and_intros)<;>first|exact⟨⟩|exact t1| (intros;omega)) (bu X [1,2,3,4,5,21,22,23,33,34,35] rfl ?_)
    refine⟨k1+1,by omega,by omega,?_⟩
    rw[bC _ k1 rfl (by omega), ←hs]
    try rfl
   ·try simp only[aR]at bU
    rw[MS x k k1 bf bU]
    refine aH (bu X [1,2,3,21,22,23] rfl ?_)
    refine⟨k+1,by omega,by omega,?_⟩
    rw[bC _ k rfl (by omega)]
    try rfl
  ·try simp only[aR]at bf
   exact aH (aD X [2] rfl (by trivial) (ak (ah rfl (by and_intros<;>first|exact⟨⟩| (rw[hw];done)| (rw[hw,MV x k (by omega) (by omega)];done)))))
theorem pL(c:dK)(h0:cQ List.length c.aI≤1048576∧cQ List.length c.inbox≤1048576):So 27 [.agg (bJ c)] [.agg (bY (⟨c,c⟩:bg))]:=by
 refine aq X call27 func27 ntmps27 rfl rfl ?_
 intro zb
 exact av X [1,2] rfl (af (aF X [(6,40)] [(4,⟨true,[.agg (bJ c)]⟩),(6,⟨true,[.agg (bJ c)]⟩)] [2] [] 31 0 MO (by kernel_rfl) rfl (by kernel_rfl) (by(with_reducible and_intros);(iterate 2 all_goals try first|exact⟨⟩|exact(eM c h0))) (ak (ah rfl ⟨rfl,rfl,rfl,rfl,rfl,rfl,rfl,rfl,rfl,rfl,rfl,rfl,rfl,rfl,rfl,rfl,⟨⟩⟩))))
theorem ya(d:bg)(h0:bD d≤1048576):So 202 [.agg (bY d)] [.agg (bY (Kq d))]:=by
 refine aq X call202 func202 ntmps202 rfl rfl ?_
 intro zb
 have vk:cu d.live≤1048576∧cu d.saved≤1048576:=by unfold bD at h0;omega
 unfold cu at vk
 refine av X [1,2] rfl (af (aC X [] [(4,⟨false,[aG (cR d)]⟩)] [1,2,5] [] rfl (by(with_reducible and_intros)<;>first|exact⟨⟩|exact(dS d)) ?_))
 refine an rfl ?_ ?_<;>intro hb0
 ·have hk:cR d=false:=by simpa using hb0
  have hd:Kq d=d:=by rw[Kq,hk];rfl
  exact aC X [] [(7,⟨true,[.agg (bY d)]⟩)] [2] [] rfl (by(with_reducible and_intros)<;>first|exact⟨⟩|exact(jO d h0)) (ak (ah rfl (by and_intros<;>first|exact⟨⟩| (rw[hd];done))))
 ·have hk:cR d=true:=by simpa using hb0
  have hd:Kq d=⟨d.live,d.live⟩:=by rw[Kq,if_pos hk]
  exact au (aC X [] [(10,⟨true,[.agg (bY (⟨d.live,d.live⟩:bg))]⟩)] [2] [] rfl (by(with_reducible and_intros)<;>first|exact⟨⟩|exact(pL d.live ⟨by omega,by omega⟩)) (ak (ah rfl (by and_intros<;>first|exact⟨⟩| (rw[hd];done)))))
theorem Ab(d:bg):So 201 [.agg (bY d)] [aG (uW d)]:=by
 refine aq X call201 func201 ntmps201 rfl rfl ?_
 intro zb
 exact av X [1] rfl (aC X [] [(4,⟨false,[aG (cR d)]⟩)] [2] [] rfl (by(with_reducible and_intros)<;>first|exact⟨⟩|exact(dS d)) (ak (ah rfl ⟨(congrArg Value.bool (by simp only[uW,aO]<;>first|rfl|ac_rfl)),⟨⟩⟩)))
theorem yc(c:dK)(r n:Int):So 135 [.agg (bJ c),aA r,aA n] [aA (eA c.key r (cx c) n),aA (eA c.key r (1-cx c) n)]:=by
 refine aq X call135 func135 ntmps135 rfl rfl ?_
 intro zb
 have hdw:=Sy c
 exact av X [1,2,3] rfl (aC X [] [(10,⟨false,[aA (cx c)]⟩)] [1,2,3,8] [] rfl (by(with_reducible and_intros)<;>first|exact⟨⟩|exact(ew c)) (af (aF X [] [(16,⟨false,[aA (eA c.key r (cx c) n)]⟩),(23,⟨false,[aA (eA c.key r (IntKind.i64.wrap (1-cx c)) n)]⟩)] [6,7] [] 32767 0 MO (by kernel_rfl) rfl (by kernel_rfl) (by(with_reducible and_intros);(iterate 2 all_goals try first|exact⟨⟩|exact(jv c.key r (cx c) n)|exact(jv c.key r (IntKind.i64.wrap (1-cx c)) n))) (ak (ah rfl ⟨rfl,by rw[hdw],⟨⟩⟩)))))
theorem yd(c:dK)(r:Int)(own other:List UInt8)(h0:cQ List.length c.aI≤1048576∧cQ List.length c.inbox≤1048576):So 200 [.agg (bJ c),aA r, .a (.sl .u8 own), .a (.sl .u8 other)] [.agg (bJ (dL c r own other)),aG (kK c r)]:=by
 refine aq X call200 func200 ntmps200 rfl rfl ?_
 intro zb
 refine av X [1,2,3,4,8] rfl (aC X [] [(14,⟨true,[.agg (bJ c)]⟩)] [1,2,3,4,8,10] [] rfl (by(with_reducible and_intros)<;>first|exact⟨⟩|exact(eM c h0)) (af (aC X [] [(16,⟨false,[aG (cN c)]⟩),(22,⟨false,[aG (inr r c.next 99999)]⟩)] [1,2,3,4,8,10,24] [] rfl (by(with_reducible and_intros);(iterate 2 all_goals try first|exact⟨⟩|exact(c9 c)|exact fun _=>(aW r c.next 99999))) ?_)))
 refine an rfl ?_ ?_<;>intro hb0
 ·have hk:kK c r=false:=bP hb0 (by simp only[kK,aO]<;>first|rfl|ac_rfl)
  have hc:=JD (own:=own) (other:=other) hk
  exact aD X [8,9] rfl (by trivial) (ak (ah rfl (by and_intros<;>first|exact⟨⟩| (rw[hc];done)| (rw[hk];done))))
 ·have hk:kK c r=true:=bO hb0 (by simp only[kK,aO]<;>first|rfl|ac_rfl)
  obtain⟨hok,hn1,hn2,TM⟩:=Ss hk
  obtain⟨hu1,Pn,_,_,hs0,hs9,_,_⟩:=pg hok
  have hc:dL c r own other=⟨c.id,c.dz,c.key,c.seed,c.aI,if gA c own then c.sent+1 else c.sent,if fu c other then c.inbox++ [(Jp (qR c) (c.inbox.length:Int) other).body]else c.inbox,r+1⟩:=by rw[dL,if_pos hk]
  refine au (af (aC X [] [(35,⟨false,[.a (.sl .u8 (mV c c.sent))]⟩),(36,⟨false,[aG (own==(mV c c.sent))]⟩)] [1,3,4,8,10,37] [] rfl ⟨fun _=>jy own (mV c c.sent),fun h=>sC c hs0 (of_decide_eq_true h),⟨⟩⟩ ?_))
  refine an rfl ?_ ?_<;>intro bf
  ·have hh:gA c own=true:=gV bf (by simp only[gA,aO]<;>first|rfl|ac_rfl)
   refine bu X [1,3,4,8,10] rfl ?_
   rw[bh (a:=c.sent+1) (by omega)]
   refine af ?_
   have t1:=(qU (iD c.key (IntKind.i64.wrap (1-cx c))) (c.inbox.length:Int) other)
   refine aF X [] [(46,⟨false,[aA (cx c)]⟩),(48,⟨false,[aA (iD c.key (IntKind.i64.wrap (1-cx c)))]⟩),(53,⟨true,bM t1⟩)] [1,4,8,10,11,12] [] 98303 1 MO (by kernel_rfl) rfl (by kernel_rfl) (by(with_reducible and_intros);(iterate 3 all_goals try first|exact⟨⟩|exact(ew c)|exact(iw c.key (IntKind.i64.wrap (1-cx c)))|exact t1)) ?_
   rw[xW]
   refine af (av X [1,8,10,11,67] rfl ?_)
   refine an rfl ?_ ?_<;>intro bU
   ·have hg:fu c other=true:=gV bU (by simp only[fu,aO]<;>first|rfl|ac_rfl)
    refine iV X [1,8,10] rfl (by and_intros<;>first|exact⟨⟩|exact rfl| (simp only[cK,maxLen,lens];omega)) (av X [8,10] rfl ?_)
    rw[bh (a:=r+1) (by omega)]
    exact aD X [8,9] rfl (by trivial) (ak (ah rfl (by and_intros<;>first|exact⟨⟩| (rw[hc];done)| (rw[hc];simp only[hh,if_true];done)| (rw[hc];simp only[hg,if_true];done)| (rw[hk];done))))
   ·have hg:fu c other=false:=kH bU (by simp only[fu,aO]<;>first|rfl|ac_rfl)
    refine au (av X [8,10] rfl ?_)
    rw[bh (a:=r+1) (by omega)]
    exact aD X [8,9] rfl (by trivial) (ak (ah rfl (by and_intros<;>first|exact⟨⟩| (rw[hc];done)| (rw[hc];simp only[hh,if_true];done)| (rw[hc];simp[hg];done)| (rw[hk];done))))
  ·have hh:gA c own=false:=kH bf (by simp only[gA,aO]<;>first|rfl|ac_rfl)
   refine au (af ?_)
   have t1:=(qU (iD c.key (IntKind.i64.wrap (1-cx c))) (c.inbox.length:Int) other)
   refine aF X [] [(46,⟨false,[aA (cx c)]⟩),(48,⟨false,[aA (iD c.key (IntKind.i64.wrap (1-cx c)))]⟩),(53,⟨true,bM t1⟩)] [1,4,8,10,11,12] [] 98303 1 MO (by kernel_rfl) rfl (by kernel_rfl) (by(with_reducible and_intros);(iterate 3 all_goals try first|exact⟨⟩|exact(ew c)|exact(iw c.key (IntKind.i64.wrap (1-cx c)))|exact t1)) ?_
   rw[xW]
   refine af (av X [1,8,10,11,67] rfl ?_)
   refine an rfl ?_ ?_<;>intro bU
   ·have hg:fu c other=true:=gV bU (by simp only[fu,aO]<;>first|rfl|ac_rfl)
    refine iV X [1,8,10] rfl (by and_intros<;>first|exact⟨⟩|exact rfl| (simp only[cK,maxLen,lens];omega)) (av X [8,10] rfl ?_)
    rw[bh (a:=r+1) (by omega)]
    exact aD X [8,9] rfl (by trivial) (ak (ah rfl (by and_intros<;>first|exact⟨⟩| (rw[hc];done)| (rw[hc];simp[hh];done)| (rw[hc];simp only[hg,if_true];done)| (rw[hk];done))))
   ·have hg:fu c other=false:=kH bU (by simp only[fu,aO]<;>first|rfl|ac_rfl)
    refine au (av X [8,10] rfl ?_)
    rw[bh (a:=r+1) (by omega)]
    exact aD X [8,9] rfl (by trivial) (ak (ah rfl (by and_intros<;>first|exact⟨⟩| (rw[hc];done)| (rw[hc];simp[hh];done)| (rw[hc];simp[hg];done)| (rw[hk];done))))
theorem uE(d:bg)(r:Int)(own other:List UInt8)(h0:bD d≤1048576):So 137 [.agg (bY d),aA r, .a (.sl .u8 own), .a (.sl .u8 other)] [.agg (bY (rdev d r own other)),aG (qx d r)]:=by
 refine aq X call137 func137 ntmps137 rfl rfl ?_
 intro zb
 have vk:cu d.live≤1048576∧cu d.saved≤1048576:=by unfold bD at h0;omega
 unfold cu at vk
 refine av X [1,2,3,4,8] rfl (af ?_)
 have t1:=(yd d.live r own other ⟨by omega,by omega⟩)
 refine aN X [] [(19,⟨true,bM t1⟩)] [4,8,10,11] [] rfl (by(with_reducible and_intros)<;>first|exact⟨⟩|exact t1) (af (aC X [] [(23,⟨false,[aG (cR d)]⟩)] [4,8,10,28] [] rfl (by(with_reducible and_intros)<;>first|exact⟨⟩|exact(dS d)) ?_))
 refine an rfl ?_ ?_<;>intro hb0
 ·have hk:qx d r=false:=bP hb0 (by simp only[qx,aO]<;>first|rfl|ac_rfl)
  have hd:=Nd (own:=own) (other:=other) hk
  exact aC X [] [(30,⟨true,[.agg (bY d)]⟩)] [8,9] [] rfl (by(with_reducible and_intros)<;>first|exact⟨⟩|exact(jO d h0)) (ak (ah rfl (by and_intros<;>first|exact⟨⟩| (rw[hd];done)| (rw[hk];done))))
 ·have hk:qx d r=true:=bO hb0 (by simp only[qx,aO]<;>first|rfl|ac_rfl)
  have hz:=JE (own:=own) (other:=other) hk
  refine au (af (aF X [] [(34,⟨true,[.agg (bJ d.saved)]⟩)] [8,12] [] 63 0 MO (by kernel_rfl) rfl (by kernel_rfl) (by(with_reducible and_intros)<;>first|exact⟨⟩|exact(eM d.saved ⟨by omega,by omega⟩)) (af (aC X [] [(37,⟨false,[aG (uW (lC d r own other))]⟩)] [8,12,37] [] rfl (by(with_reducible and_intros)<;>first|exact⟨⟩|exact(Ab (lC d r own other))) ?_))))
  refine an rfl ?_ ?_<;>intro bf
  ·have hd:=Nf hk bf
   exact aC X [] [(39,⟨true,[.agg (bY (Kq (lC d r own other)))]⟩)] [8,9] [] rfl (by(with_reducible and_intros)<;>first|exact⟨⟩|exact(ya (lC d r own other) hz)) (ak (ah rfl (by and_intros<;>first|exact⟨⟩| (rw[hd];done)| (rw[hk];done))))
  ·have hd:=Ng hk bf
   exact au (aD X [8,9] rfl (by trivial) (ak (ah rfl (by and_intros<;>first|exact⟨⟩| (rw[hd];rfl;done)| (rw[hk];done)))))
theorem Ac(x:aV)(h0:wB x):So 81 [.agg (aU x)] [.agg (aU (yI x))]:=by
 refine aq X call81 func81 ntmps81 rfl rfl ?_
 intro zb
 have hls:cQ dr x.aj≤1048576∧cQ bD x.aa≤1048576∧ey x.az≤1048576∧x.replaced.length≤4194304:=h0
 have lO:=dc hls.2.1
 refine av X [1,2] rfl (aC X [] [(17,⟨true,[.agg (aU x)]⟩)] [1,2,3] [] rfl (by(with_reducible and_intros)<;>first|exact⟨⟩|exact(eN x h0)) (af (aC X [] [(19,⟨false,[aG (okW x)]⟩)] [1,2,3,20] [] rfl (by(with_reducible and_intros)<;>first|exact⟨⟩|exact(dx x)) ?_)))
 refine an rfl ?_ ?_<;>intro hb0
 ·have hk0:okW x=false:=by simpa using hb0
  have hw:=Sx hk0
  exact aD X [2] rfl (by trivial) (ak (ah rfl (by and_intros<;>first|exact⟨⟩| (rw[hw];done))))
 ·have hk0:okW x=true:=by simpa using hb0
  have hw:=ug hk0
  have har:=G5 hk0
  have hd8:=(nR (jC hk0)).2.1
  refine au (af (av X [1,2,3,4] rfl ?_))
  refine ay (aE (fun k=>k≤x.aa.length) (fun k:Nat=> [(4, .one ((aA k)))]) (fun k=> [(19, .arr .bg (Pv x k))]) (fun k=>x.aa.length-k) 0 (fun k=>rfl) (Nat.zero_le _) rfl ?_)
  intro k hk
  have Em:=MU x k hk
  refine af (av X [1,2,3,4,26] rfl ?_)
  refine an rfl ?_ ?_<;>intro bf
  ·try simp only[aR]at bf
   rw[Em]at bf
   have Z1:=MT x k bf
   have h00:=RZ x k bf
   have AB:=vL x.az.rounds (x.aa.getD k (aB .bg)).live.next
   have adz:(nY x (x.aa.getD k (aB .bg))).length≤x.az.rounds.length:=AB
   have hrq:(eY x.az.rounds (x.aa.getD k (aB .bg)).live.next).length=(nY x (x.aa.getD k (aB .bg))).length:=rfl
   refine au (af (ay (af ?_)))
   have t1:=(vN x.az (((Pv x k).getD k (aB .bg)).live.next) (by omega))
   refine aF X [] [(38,⟨true,bM t1⟩)] [1,2,3,4,5] [] 2047 0 MO (by kernel_rfl) rfl (by kernel_rfl) (by(with_reducible and_intros)<;>first|exact⟨⟩|exact t1| (intros;omega)) ?_
   rw[Z1]
   refine av X [1,2,3,4,5,6] rfl ?_
   refine ay (aE (fun k1=>k1≤(nY x (x.aa.getD k (aB .bg))).length) (fun k1:Nat=> [(6, .one ((aA k1)))]) (fun k1=> [(19, .arr .bg (pQ x k k1))]) (fun k1=>(nY x (x.aa.getD k (aB .bg))).length-k1) 0 (fun k1=>rfl) (Nat.zero_le _) (by rw[h00];rfl) ?_)
   intro k1 hk1
   have mK:=MR x k k1 bf
   refine af (av X [1,2,3,4,5,6,42] rfl ?_)
   refine an rfl ?_ ?_<;>intro bU
   ·try simp only[aR]at bU
    have hs:=Sw x k k1 bf bU
    have hsz:=Su hk0 bf k1
    refine au (af (ay (aD X [1,2,3,4,5,6,7] rfl (by and_intros<;>first|exact⟨⟩| (intros;omega)) (af ?_))))
    have t1:=(yc (((pQ x k k1).getD k (aB .bg)).live) ((nY x (x.aa.getD k (aB .bg))).getD k1 (aB .int)) x.rows)
    refine aF X [] [(59,⟨false,bM t1⟩)] [1,2,3,4,5,6,7,8,9] [] 8191 0 MO (by kernel_rfl) rfl (by kernel_rfl) (by(with_reducible and_intros)<;>first|exact⟨⟩|exact t1| (intros;omega)) (af ?_)
    have t1:=(sX x ((nY x (x.aa.getD k (aB .bg))).getD k1 (aB .int)) (eA ((pQ x k k1).getD k (aB .bg)).live.key ((nY x (x.aa.getD k (aB .bg))).getD k1 (aB .int)) (cx ((pQ x k k1).getD k (aB .bg)).live) x.rows) (((pQ x k k1).getD k (aB .bg)).live.seed) hk0)
    refine aF X [] [(71,⟨true,bM t1⟩)] [1,2,3,4,5,6,7,9,10] [] 16383 0 MO (by kernel_rfl) rfl (by kernel_rfl) (by(with_reducible and_intros)<;>first|exact⟨⟩|exact t1| (intros;omega)) (af ?_)
    have t1:=(sX x ((nY x (x.aa.getD k (aB .bg))).getD k1 (aB .int)) (eA ((pQ x k k1).getD k (aB .bg)).live.key ((nY x (x.aa.getD k (aB .bg))).getD k1 (aB .int)) (1-cx ((pQ x k k1).getD k (aB .bg)).live) x.rows) (((pQ x k k1).getD k (aB .bg)).live.seed) hk0)
    refine aF X [] [(83,⟨true,bM t1⟩)] [1,2,3,4,5,6,10,12] [] 16383 0 MO (by kernel_rfl) rfl (by kernel_rfl) (by(with_reducible and_intros)<;>first|exact⟨⟩|exact t1| (intros;omega)) (af ?_)
    have t1:=(uE ((pQ x k k1).getD k (aB .bg)) ((nY x (x.aa.getD k (aB .bg))).getD k1 (aB .int)) (GY x ((nY x (x.aa.getD k (aB .bg))).getD k1 (aB .int)) (eA ((pQ x k k1).getD k (aB .bg)).live.key ((nY x (x.aa.getD k (aB .bg))).getD k1 (aB .int)) (cx ((pQ x k k1).getD k (aB .bg)).live) x.rows) ((pQ x k k1).getD k (aB .bg)).live.seed) (GY x ((nY x (x.aa.getD k (aB .bg))).getD k1 (aB .int)) (eA ((pQ x k k1).getD k (aB .bg)).live.key ((nY x (x.aa.getD k (aB .bg))).getD k1 (aB .int)) (1-cx ((pQ x k k1).getD k (aB .bg)).live) x.rows) ((pQ x k k1).getD k (aB .bg)).live.seed) hsz)
    refine aF X [] [(98,⟨true,bM t1⟩)] [1,2,3,4,5,6,14] [] 196607 1 MO (by kernel_rfl) rfl (by kernel_rfl) (by(with_reducible and_intros)<;>first|exact⟨⟩|exact t1| (intros;omega)) (iV X [1,2,3,4,5,6] rfl (by and_intros<;>first|exact⟨⟩| (intros;omega)) (bu X [1,2,3,4,5,6] rfl ?_))
    refine⟨k1+1,by omega,by omega,?_⟩
    rw[bC _ k1 rfl (by omega), ←hs]
    try rfl
   ·try simp only[aR]at bU
    rw[MS x k k1 bf bU]
    refine aH (bu X [1,2,3,4] rfl ?_)
    refine⟨k+1,by omega,by omega,?_⟩
    rw[bC _ k rfl (by omega)]
    try rfl
  ·try simp only[aR]at bf
   rw[Em]at bf
   exact aH (aD X [2] rfl (by trivial) (ak (ah rfl (by and_intros<;>first|exact⟨⟩| (rw[hw];done)| (rw[hw,MV x k (by omega) (by omega)];done)))))
end
section
set_option maxRecDepth 100000
theorem s6(s:aX)(c:Int)(hz:s.received.length≤1048576∧ ∀r,r∈s.received→cQ List.length r.share.rows≤1048576):So 155 [.agg (bL s),aA c] [.agg (aS (vH s.received c)),aG (j7 s.received c)]:=by
 refine aq X call155 func155 ntmps155 rfl rfl ?_
 intro zb
 refine bH 0 3 rfl rfl (fun Qr=>(av X [1,2,4] rfl (af (av X [1,4,9,10,11] rfl ?_))))
 refine ay (aE (fun k=>k≤s.received.length∧(s.received.take k).any (Pu c)=false) (fun k:Nat=> [(11, .one ((aA k)))]) (fun k=> []) (fun k=>s.received.length-k) 0 (fun k=>rfl) ⟨Nat.zero_le _,rfl⟩ rfl ?_)
 rintro k ⟨hk,hall⟩
 refine av X [1,4,9,10,11,12] rfl ?_
 refine af (an rfl ?_ ?_)<;>intro hb0
 ·try simp only[aR]at hb0
  refine au (af (ay (aD X [1,4,7,9,10,11] rfl (by and_intros<;>first|exact⟨⟩| (intros;omega)) (av X [1,4,7,9,10,11,18] rfl ?_))))
  refine an rfl ?_ ?_<;>intro bf
  ·have hh:=Lm hb0 hall bf
   exact aC X [] [(21,⟨true,[.agg (aS ((s.received.getD k (aB .aM)).share))]⟩)] [4,5] [] rfl (by(with_reducible and_intros)<;>first|exact⟨⟩|exact(ct ((s.received.getD k (aB .aM)).share) (hz.2 _ (getD_in _ hb0)))) (ak (ah rfl ⟨by rw[hh.2],by rw[hh.1],⟨⟩⟩))
  ·refine au (bu X [1,4,9,10,11] rfl ?_)
   refine⟨k+1,⟨by omega,vA (aB .aM) hb0 hall bf⟩,by omega,?_⟩
   rw[bC _ k rfl (by omega)]
   try rfl
 ·try simp only[aR]at hb0
  exact aH (aD X [4,5] rfl (by trivial) (ak (ah rfl ⟨by rw[(BI (by rw[←hall,List.take_of_length_le hb0])).2],by rw[(BI (by rw[←hall,List.take_of_length_le hb0])).1],⟨⟩⟩)))
theorem DR(s:aX)(c:Int)(hz:s.received.length≤1048576∧ ∀r,r∈s.received→cQ List.length r.share.rows≤1048576):So 208 [.agg (bL s),aA c] [.agg (aS (vH s.received c)),aG (j7 s.received c)]:=by
 refine aq X call208 func208 ntmps208 rfl rfl ?_
 intro zb
 refine bH 0 3 rfl rfl (fun Qr=>(av X [1,2,4] rfl (af (av X [1,2,4,6] rfl ?_))))
 refine ay (aE (fun k=>k≤s.received.length∧(s.received.take k).any (Pu c)=false) (fun k:Nat=> [(6, .one ((aA k)))]) (fun k=> []) (fun k=>s.received.length-k) 0 (fun k=>rfl) ⟨Nat.zero_le _,rfl⟩ rfl ?_)
 rintro k ⟨hk,hall⟩
 refine af (av X [1,2,4,6,11] rfl ?_)
 refine an rfl ?_ ?_<;>intro hb0
 ·try simp only[aR]at hb0
  refine au (af (ay (aD X [1,2,4,6,21] rfl (by and_intros<;>first|exact⟨⟩| (intros;omega)) ?_)))
  refine an rfl ?_ ?_<;>intro bf
  ·have hh:=Lm hb0 hall bf
   exact aC X [] [(28,⟨true,[.agg (aS ((s.received.getD k (aB .aM)).share))]⟩)] [4,5] [] rfl (by(with_reducible and_intros)<;>first|exact⟨⟩|exact(dN ((s.received.getD k (aB .aM)).share) (hz.2 _ (getD_in _ hb0)))| (intros;omega)) (ak (ah rfl ⟨by rw[hh.2],by rw[hh.1],⟨⟩⟩))
  ·refine au (bu X [1,2,4,6] rfl ?_)
   refine⟨k+1,⟨by omega,vA (aB .aM) hb0 hall bf⟩,by omega,?_⟩
   rw[bC _ k rfl (by omega)]
   try rfl
 ·try simp only[aR]at hb0
  exact aH (aD X [4,5] rfl (by trivial) (ak (ah rfl ⟨by rw[(BI (by rw[←hall,List.take_of_length_le hb0])).2],by rw[(BI (by rw[←hall,List.take_of_length_le hb0])).1],⟨⟩⟩)))
theorem rz(r:aM)(c:Int):mN ty Tryz.prog 157 [(1000, .box [cS c])] [.agg (pT r), .a (.ptr 1000 0)] [(1000, .box [cS c])] [aG (decide (r.client>c))]:=by
 refine kI X call157 func157 rfl rfl (by decide) ntmps157 (by simp) rfl ?_
 intro zb
 exact av X [1,2] rfl (aD X [3] rfl (by trivial) (ak (pz rfl ⟨rfl,rfl,⟨⟩⟩)))
theorem dY(l:List aM)(c:Int)(hl: ∀r,r∈l→r.client<c):mN ty Tryz.prog 156 [(1000, .box [cS c])] [.a (.sl .aM l), .a (.Bt 157 1000)] [(1000, .box [cS c])] [aA (-1)]:=by
 refine kI X call156 func156 rfl rfl (by decide) ntmps156 (by simp) rfl ?_
 intro zb
 refine cB 0 rfl (fun jV=>(av X [0,1] rfl (af (av X [0,1,7,8] rfl ?_))))
 refine ay (aE (fun k=>k≤l.length) (fun k:Nat=> [(8, .one ((aA k)))]) (fun k=> []) (fun k=>l.length-k) 0 (fun k=>rfl) (Nat.zero_le _) rfl ?_)
 intro k hk
 refine av X [0,1,7,8,9] rfl ?_
 refine af (an rfl ?_ ?_)<;>intro hb0
 ·try simp only[aR]at hb0
  have hlt:=hl _ (getD_in (aB .aM) hb0)
  refine au (af (ay (av X [0,1,5,7,8] rfl (af ?_))))
  have t1:=(rz (l.getD k (aB .aM)) c)
  refine aN X [] [(800016,⟨true,Gs t1⟩),(700016,⟨true, .agg [.ptr 1000 1000]:: .agg []::Gt t1⟩)] [0,1,5,7,8,16] [] rfl (by(with_reducible and_intros)<;>first|exact⟨⟩|exact t1| (intros;omega)) ?_
  refine an rfl ?_ ?_<;>intro bf
  ·try simp only[aR]at bf
   omega
  ·try simp only[aR]at bf
   refine au (bu X [0,1,7,8] rfl ?_)
   refine⟨k+1,by omega,by omega,?_⟩
   rw[bC _ k rfl (by omega)]
   try rfl
 ·try simp only[aR]at hb0
  exact aH (av X [4] rfl (ak (pz rfl ⟨rfl,rfl,⟨⟩⟩)))
theorem ez(l:List aM)(y:aM)(hl:l.length≤1048576):mN ty Tryz.prog 158 [(5, .arr .aM l),(6, .arr .aM [y])] [.a (.own 5),aA (l.length:Int), .a (.own 6)] [(5, .arr .aM (l++ [y]))] [.a (.own 5)]:=by
 refine kI X call158 func158 rfl rfl (by decide) ntmps158 (by simp) rfl ?_
 intro zb
 refine av X [0,1,2] rfl (aD X [0,1,2] rfl (by and_intros<;>first|exact⟨⟩| (intros;omega)) (av X [0,1,2,7] rfl (af (av X [0,1,2,7,16] rfl ?_))))
 refine an rfl ?_ ?_<;>intro hb0
 ·try simp only[aR]at hb0
  simp at hb0
 ·try simp only[aR]at hb0
  refine au (av X [0,1,2,7,8] rfl (af (av X [0,1,2,7,8,22] rfl ?_)))
  refine an rfl ?_ ?_<;>intro bf
  ·try simp only[aR]at bf
   exact aC X [(25,5)] [] [6] [] rfl (by and_intros<;>first|exact⟨⟩|exact rfl| (simp only[cK,maxLen,lens];omega)) (ak (pz rfl ⟨rfl,⟨⟩⟩))
  ·try simp only[aR]at bf
   simp at bf
theorem uF(s:aX)(c:Int)(d:DB)(hz:s.received.length≤1048576∧ ∀r,r∈s.received→cQ List.length r.share.rows≤1048576)(hb: ∀r,r∈s.received→r.client<c)(hd:cQ List.length d.rows≤1048576):So 100 [.agg (bL s),aA c, .agg (aS d)] [.agg (bL (Ll s c d)),aG (jL s c d)]:=by
 refine aq X call100 func100 ntmps100 rfl rfl ?_
 intro zb
 have hsn:=RM (s:=s) hb
 have jV:=hz.1
 refine aC X [(4,904)] [] [3,4,5,6] [] rfl ⟨⟩ (aC X [] [(13,⟨true,[.agg (bL s)]⟩)] [3,4,5,6,8] [] rfl (by(with_reducible and_intros)<;>first|exact⟨⟩|exact(gz s hz)) (af (af ?_)))
 have t1:=(s6 s c hz)
 refine aN X [] [(17,⟨true,bM t1⟩)] [3,4,5,6,8,10] [] rfl (by(with_reducible and_intros)<;>first|exact⟨⟩|exact t1) (aC X [] [(23,⟨false,[aG (bS s)]⟩)] [3,4,5,6,8,25] [] rfl (by(with_reducible and_intros)<;>first|exact⟨⟩|exact fun _=>(cI s)) ?_)
 refine an rfl ?_ ?_<;>intro hb0
 ·have hk:bS s=false:=by rw[hsn]at hb0;simpa using hb0
  have hr:jL s c d=false:=by rw[jL,hk];rfl
  exact aD X [6,7] rfl (by trivial) (ak (ah rfl (by and_intros<;>first|exact⟨⟩| (rw[Ln hr];done)| (rw[hr];done))))
 ·have hk:bS s=true:=by rw[hsn]at hb0;simpa using hb0
  refine au (af ?_)
  have t1:=(dY s.received c hb)
  refine aN X [] [(800030,⟨true,Gs t1⟩),(700030,⟨true, .agg [.ptr 1000 904]:: .agg []::Gt t1⟩)] [3,4,5,6,8,11] [] rfl (by(with_reducible and_intros)<;>first|exact⟨⟩|exact t1) (af (av X [3,4,5,6,8,11,32] rfl ?_))
  refine an rfl ?_ ?_<;>intro bf
  ·try simp only[aR]at bf
   refine bu X [3,4,5,6,8,11] rfl (af ?_)
   have t1:=(ez s.received (⟨c,d⟩:aM) (by first|assumption|omega| (simp;done)| (simp;omega)))
   refine aF X [] [(41,⟨true,[.agg (aS d)]⟩),(800044,⟨true,Gs t1⟩),(700044,⟨true, .agg [.ptr 5 16, .ptr 6 43]:: .agg []::Gt t1⟩)] [3,6,8] [] 639 5 MO (by kernel_rfl) rfl (by kernel_rfl) (by(with_reducible and_intros);(iterate 2 all_goals try first|exact⟨⟩|exact(ct d hd)|exact t1);all_goals first|exact rfl) (af (aC X [] [(47,⟨false,[aG (bS (jK s c d))]⟩)] [3,6,8,48] [] rfl (by(with_reducible and_intros)<;>first|exact⟨⟩|exact(cI (jK s c d))) ?_))
   refine an rfl ?_ ?_<;>intro bU
   ·have hr:jL s c d=false:=by rw[jL,hk];simpa using bU
    exact aC X [] [(50,⟨true,[.agg (bL s)]⟩)] [6,7] [] rfl (by(with_reducible and_intros)<;>first|exact⟨⟩|exact(gz s hz)) (ak (ah rfl (by and_intros<;>first|exact⟨⟩| (rw[Ln hr];done)| (rw[hr];done))))
   ·have hr:jL s c d=true:=by rw[jL,hk];simpa using bU
    exact au (aD X [6,7] rfl (by trivial) (ak (ah rfl (by and_intros<;>first|exact⟨⟩| (rw[GR hr];rfl;done)| (rw[hr];done)))))
  ·try simp only[aR]at bf
   omega
theorem uG(s:aX)(c:Int)(d:DB)(hz:s.received.length≤1048576∧ ∀r,r∈s.received→cQ List.length r.share.rows≤1048576)(hb: ∀r,r∈s.received→r.client<c)(hd:cQ List.length d.rows≤1048576):So 129 [.agg (bL s),aA c, .agg (aS d)] [.agg (bL (Ll s c d)),aG (jL s c d)]:=by
 refine aq X call129 func129 ntmps129 rfl rfl ?_
 intro zb
 have jV:=hz.1
 refine av X [1,3,5,6] rfl (aC X [] [(11,⟨true,[.agg (bL s)]⟩)] [1,3,5,6,8] [] rfl (by(with_reducible and_intros)<;>first|exact⟨⟩|exact(jN s hz)) (av X [1,3,5,6,8,9] rfl ?_))
 refine af (ay (aE (fun k=>k≤s.received.length) (fun k:Nat=> [(9, .one ((aA k)))]) (fun k=> []) (fun k=>s.received.length-k) 0 (fun k=>rfl) (Nat.zero_le _) rfl ?_))
 intro k hk
 refine af (aD X [1,3,5,6,8,9,26] rfl (by refine⟨fun ZF=> ?_,fun ZF=> ?_,⟨⟩⟩<;>(have hz2:decide ((k:Int)<(s.received.length:Int))=true:=ZF;rw[decide_eq_true_eq]at hz2;dsimp only[hyps,cV];omega)) ?_)
 refine an rfl ?_ ?_<;>intro hb0
 ·have Em:k<s.received.length:=by simp only[nb]at hb0;omega
  have hlt:=hb _ (getD_in (aB .aM) Em)
  refine au (ay (bu X [1,3,5,6,8,9] rfl ?_))
  refine⟨k+1,by omega,by omega,?_⟩
  rw[bC _ k rfl (by omega)]
  try rfl
 ·have Em:k=s.received.length:=Vp hb hk hb0
  subst Em
  refine RS 8 3 rfl (aH (af (aF X [(34,29),(40,29),(45,29)] [(37,⟨true,[.agg (aS d)]⟩),(600044,⟨true,[]⟩)] [3,6,8] [] 193503 259 MO (by kernel_rfl) rfl (by kernel_rfl) (by(repeat' with_reducible first|exact aK|refine aQ ?_ ?_|apply And.intro)<;>first|exact(dN d hd)| (intros;omega)|exact rfl|exact⟨rfl,aP _ (by decide)⟩| (simp only[cK,maxLen,lens];omega)) ?_)))
  rw[ins_eq]
  refine af (aC X [] [(48,⟨false,[aG (bS s)]⟩),(52,⟨false,[aG (bS (jK s c d))]⟩)] [3,6,8,54] [] rfl (by(with_reducible and_intros);(iterate 2 all_goals try first|exact⟨⟩|exact(cJ s)|exact fun _=>(cJ (jK s c d)))) ?_)
  refine an rfl ?_ ?_<;>intro bf
  ·have hr:jL s c d=false:=aaU bf
   exact aC X [] [(56,⟨true,[.agg (bL s)]⟩)] [6,7] [] rfl (by(with_reducible and_intros)<;>first|exact⟨⟩|exact(jN s hz)) (ak (ah rfl (by and_intros<;>first|exact⟨⟩| (rw[Ln hr];done)| (rw[hr];done))))
  ·have hr:jL s c d=true:=aaV bf
   exact au (aD X [6,7] rfl (by trivial) (ak (ah rfl (by and_intros<;>first|exact⟨⟩| (rw[GR hr];rfl;done)| (rw[hr];done)))))
end
section
set_option maxRecDepth 100000
theorem s7(x:aV)(h0:wB x):So 57 [.agg (aU x)] [.a (.sl .aX (aY x)), .a (.sl .dG (eX x))]:=by
 refine aq X call57 func57 ntmps57 rfl rfl ?_
 intro zb
 refine bH 0 1 rfl rfl (fun hl1=> ?_)
 refine bH 0 2 rfl rfl (fun lO=> ?_)
 have lP:=AX h0
 refine av X [1] rfl (af (aC X [] [(10,⟨false,[aG (okW x)]⟩)] [1,11] [] rfl (by(with_reducible and_intros)<;>first|exact⟨⟩|exact(cq x)) ?_))
 refine an rfl ?_ ?_<;>intro hb0
 ·have hk0:okW x=false:=by simpa using hb0
  exact av X [2,3] rfl (ak (ah rfl ⟨by rw[aY,if_neg (by rw[hk0];decide)],by rw[eX,if_neg (by rw[hk0];decide)],⟨⟩⟩))
 ·have hk0:okW x=true:=by simpa using hb0
  have adA:=dj hk0
  have OX:=(nR (jC hk0)).2.1
  have hc0:=(col hk0 0 (Nat.zero_le _)).sml
  refine au (aC X [] [(14,⟨true,[.a (.sl .aX x.aj)]⟩)] [1,4] [] rfl (by(with_reducible and_intros)<;>first|exact⟨⟩|exact(nh x.aj (by omega) hc0)) (aD X [1,4,5] rfl (by and_intros<;>first|exact⟨⟩|exact rfl) (af (av X [1,4,5,18,19] rfl ?_))))
  refine ay (aE (fun k=>k≤x.aa.length) (fun k:Nat=> [(19, .one ((aA k)))]) (fun k=> [(14, .arr .aX (uz x k)),(15, .arr .dG (Dw x k))]) (fun k=>x.aa.length-k) 0 (fun k=>rfl) (Nat.zero_le _) rfl ?_)
  intro k hk
  refine av X [1,4,5,18,19,20] rfl ?_
  refine af (an rfl ?_ ?_)<;>intro bf
  ·try simp only[aR]at bf
   have Ly:k<x.aa.length:=by omega
   have hwl:(jJ x (k:Int)).length=x.aj.length:=by rw[Ds hk0 (by omega)];exact gL hk0 (by omega)
   have hw:jJ x (k:Int)=cD x (k:Int):=Ds hk0 (by omega)
   refine au (af (ay (av X [1,4,5,6,18,19] rfl (aC X [] [(24,⟨true,[.a (.sl .DB (jJ x (k:Int)))]⟩)] [1,4,5,6,18,19,24,25,26] [] rfl (by(with_reducible and_intros)<;>first|exact⟨⟩|exact(vG x (k:Int) (by first|assumption|omega| (simp;done)| (simp;omega)))) ?_))))
   refine ay (aE (fun k1=>k1≤x.aj.length) (fun k1:Nat=> [(26, .one ((aA k1)))]) (fun k1=> [(14, .arr .aX (uA x k k1)),(15, .arr .dG (Dw x k++Dv x k k1))]) (fun k1=>x.aj.length-k1) 0 (fun k1=>rfl) (Nat.zero_le _) (by simp[uA,Dv]) ?_)
   intro k1 hk1
   have mK:=Jk hk0 Ly hk1
   refine av X [1,4,5,6,18,19,24,25,26,27] rfl ?_
   refine af (an rfl ?_ ?_)<;>intro bU
   ·try simp only[aR]at bU
    have EF:=Jn hk0 Ly (by omega:k1<x.aj.length)
    have hs1:=Fq hk0 Ly (by omega:k1<x.aj.length)
    have oK:=zJ x k k1
    have hrl:=Dx x k
    have OY:=xI x k k1
    have Pm:k*x.aj.length≤8*4:=Nat.mul_le_mul (by omega) (by omega)
    refine au (af (ay (aD X [1,4,5,6,7,8,18,19,24,25,26] rfl (by and_intros<;>first|exact⟨⟩| (intros;omega)) (af ?_))))
    have t1:=(uF ((uA x k k1).getD k1 (aB .aX)) (k:Int) ((jJ x (k:Int)).getD k1 (aB .DB)) EF.2.1 EF.1 (by rw[hw];exact EF.2.2))
    refine aF X [] [(40,⟨true,bM t1⟩)] [1,4,5,6,7,8,18,19,24,25,26] [] 8191 1 MO (by kernel_rfl) rfl (by kernel_rfl) (by(with_reducible and_intros)<;>first|exact⟨⟩|exact t1| (intros;omega)) ?_
    have t1:=(vJ (fY x.aT (k1:Int)) (k1:Int) (k:Int) x.round ((jJ x (k:Int)).getD k1 (aB .DB)) (by rw[hw];exact EF.2.2))
    refine aF X [(56,15)] [(48,⟨false,[aA (fY x.aT (k1:Int))]⟩),(54,⟨false,bM t1⟩)] [1,4,5,6,18,19,24,25,26] [] 4095 0 MO (by kernel_rfl) rfl (by kernel_rfl) (by(repeat' with_reducible first|exact aK|refine aQ ?_ ?_|apply And.intro);(iterate 2 all_goals try first|exact(gW x.aT (k1:Int))|exact t1);all_goals first|exact rfl|exact⟨rfl,aP _ (by decide)⟩| (simp only[cK,maxLen,lens];omega)) ?_
    refine bu X [1,4,5,6,18,19,24,25,26] rfl ?_
    refine⟨k1+1,by omega,by omega,?_⟩
    rw[bC _ k1 rfl (by omega),hw, ←hs1,oK, ←List.append_assoc]
    try rfl
   ·try simp only[aR]at bU
    rw[Jm hk0 Ly (by omega),show k1=x.aj.length by omega, ←zK]
    refine aH (bu X [1,4,5,18,19] rfl ?_)
    refine⟨k+1,by omega,by omega,?_⟩
    rw[bC _ k rfl (by omega)]
    try rfl
  ·try simp only[aR]at bf
   exact aH (av X [2,3] rfl (ak (ah rfl ⟨by rw[aY,if_pos hk0,show x.aa.length=k by omega],by rw[eX,if_pos hk0,show x.aa.length=k by omega],⟨⟩⟩)))
theorem s8(x:aV)(h0:wB x):So 78 [.agg (aU x)] [.a (.sl .aX (aY x)), .a (.sl .dG (eX x))]:=by
 refine aq X call78 func78 ntmps78 rfl rfl ?_
 intro zb
 refine bH 0 1 rfl rfl (fun hl1=> ?_)
 refine bH 0 2 rfl rfl (fun lO=> ?_)
 have lP:=AX h0
 refine av X [1] rfl (aD X [1,4] rfl (by and_intros<;>first|exact⟨⟩|exact rfl) (af (aC X [] [(13,⟨false,[aG (okW x)]⟩)] [1,4,14] [] rfl (by(with_reducible and_intros)<;>first|exact⟨⟩|exact(dx x)) ?_)))
 refine an rfl ?_ ?_<;>intro hb0
 ·have hk0:okW x=false:=by simpa using hb0
  exact aD X [2,3] rfl (by and_intros<;>first|exact⟨⟩|exact rfl) (ak (ah rfl ⟨by rw[aY,if_neg (by rw[hk0];decide)],by rw[eX,if_neg (by rw[hk0];decide)],⟨⟩⟩))
 ·have hk0:okW x=true:=by simpa using hb0
  have adA:=dj hk0
  have OX:=(nR (jC hk0)).2.1
  have hc0:=(col hk0 0 (Nat.zero_le _)).sml
  refine au (aC X [] [(18,⟨true,[.agg (aU x)]⟩)] [1,4,5] [] rfl ⟨⟨_,_,_,Tryz.underlying31,rfl,rfl,Tryz.underlying24,rfl⟩,eN x h0,⟨⟩⟩ (af (av X [1,4,5,6] rfl ?_)))
  refine ay (aE (fun k=>k≤x.aa.length) (fun k:Nat=> [(6, .one ((aA k)))]) (fun k=> [(19, .arr .aX (uz x k)),(11, .arr .dG (Dw x k))]) (fun k=>x.aa.length-k) 0 (fun k=>rfl) (Nat.zero_le _) rfl ?_)
  intro k hk
  refine af (av X [1,4,5,6,24] rfl ?_)
  refine an rfl ?_ ?_<;>intro bf
  ·try simp only[aR]at bf
   have Ly:k<x.aa.length:=by omega
   have hwl:(cD x (k:Int)).length=x.aj.length:=gL hk0 (by omega)
   refine au (af (ay (aC X [] [(29,⟨true,[.a (.sl .DB (cD x (k:Int)))]⟩)] [1,4,5,6,7] [] rfl (by(with_reducible and_intros)<;>first|exact⟨⟩|exact(zI x (k:Int) (by first|assumption|omega| (simp;done)| (simp;omega)) (by first|assumption|omega| (simp;done)| (simp;omega)))) (av X [1,4,5,6,7,8] rfl ?_))))
   refine ay (aE (fun k1=>k1≤x.aj.length) (fun k1:Nat=> [(8, .one ((aA k1)))]) (fun k1=> [(19, .arr .aX (uA x k k1)),(11, .arr .dG (Dw x k++Dv x k k1))]) (fun k1=>x.aj.length-k1) 0 (fun k1=>rfl) (Nat.zero_le _) (by simp[uA,Dv]) ?_)
   intro k1 hk1
   have mK:=Jk hk0 Ly hk1
   refine af (av X [1,4,5,6,7,8,33] rfl ?_)
   refine an rfl ?_ ?_<;>intro bU
   ·try simp only[aR]at bU
    rw[mK]at bU
    have EF:=Jn hk0 Ly (by omega:k1<x.aj.length)
    have hs1:=Fq hk0 Ly (by omega:k1<x.aj.length)
    have oK:=zJ x k k1
    have hrl:=Dx x k
    have OY:=xI x k k1
    have Pm:k*x.aj.length≤8*4:=Nat.mul_le_mul (by omega) (by omega)
    refine au (af (ay (af ?_)))
    have t1:=(uG ((uA x k k1).getD k1 (aB .aX)) (k:Int) ((cD x (k:Int)).getD k1 (aB .DB)) EF.2.1 EF.1 EF.2.2)
    refine aF X [] [(46,⟨true,bM t1⟩)] [1,4,5,6,7,8,9] [] 49151 1 MO (by kernel_rfl) rfl (by kernel_rfl) (by(with_reducible and_intros)<;>first|exact⟨⟩|exact t1| (intros;omega)) (aD X [1,4,5,6,7,8] rfl (by and_intros<;>first|exact⟨⟩| (intros;omega)) ?_)
    have t1:=(vK (fY x.aT (k1:Int)) (k1:Int) (k:Int) x.round ((cD x (k:Int)).getD k1 (aB .DB)) EF.2.2)
    refine aF X [(68,11)] [(57,⟨false,[aA (fY x.aT (k1:Int))]⟩),(66,⟨false,bM t1⟩)] [1,4,5,6,7,8] [] 32767 0 MO (by kernel_rfl) rfl (by kernel_rfl) (by(repeat' with_reducible first|exact aK|refine aQ ?_ ?_|apply And.intro);(iterate 2 all_goals try first|exact(gX x.aT (k1:Int))|exact t1);all_goals first| (intros;omega)|exact rfl|exact⟨rfl,aP _ (by decide)⟩| (simp only[cK,maxLen,lens];omega)) ?_
    refine bu X [1,4,5,6,7,8] rfl ?_
    refine⟨k1+1,by omega,by omega,?_⟩
    rw[bC _ k1 rfl (by omega), ←hs1,oK, ←List.append_assoc]
    try rfl
   ·try simp only[aR]at bU
    rw[mK]at bU
    rw[Jm hk0 Ly (by omega),show k1=x.aj.length by omega, ←zK]
    refine aH (bu X [1,4,5,6] rfl ?_)
    refine⟨k+1,by omega,by omega,?_⟩
    rw[bC _ k rfl (by omega)]
    try rfl
  ·try simp only[aR]at bf
   exact aH (av X [2,3] rfl (ak (ah rfl ⟨by rw[aY,if_pos hk0,show x.aa.length=k by omega],by rw[eX,if_pos hk0,show x.aa.length=k by omega],⟨⟩⟩)))
end
section
set_option maxRecDepth 100000
theorem qD(rows:Int)(l:List aM)(hz: ∀r,r∈l→cQ List.length r.share.rows≤1048576):So 162 [aA rows, .a (.sl .aM l)] [.agg (aS (dV rows l))]:=by
 refine aq X call162 func162 ntmps162 rfl rfl ?_
 intro zb
 refine cB 1 rfl (fun jV=>(av X [0,1,4] rfl (aC X [] [(9,⟨true,[.agg (aS (cE rows))]⟩)] [1,4,5] [] rfl (by(with_reducible and_intros)<;>first|exact⟨⟩|exact(mZ rows)) (af (av X [4,5,10,11,12] rfl ?_)))))
 refine ay (aE (fun k=>k≤l.length) (fun k:Nat=> [(12, .one ((aA k)))]) (fun k=> [(9, .arr (.sl .u8) (dV rows (l.take k)).rows)]) (fun k=>l.length-k) 0 (fun k=>rfl) (Nat.zero_le _) rfl ?_)
 intro k hk
 refine av X [4,5,10,11,12,13] rfl ?_
 refine af (an rfl ?_ ?_)<;>intro hb0
 ·try simp only[aR]at hb0
  have hs:=Fy rows l k hb0
  refine au (af (ay (aD X [4,5,7,10,11,12] rfl (by and_intros<;>first|exact⟨⟩| (intros;omega)) (aN X [] [(20,⟨true,[.agg (aS (eL (dV rows (l.take k)) ((l.getD k (aB .aM)).share))),aG (gu (dV rows (l.take k)) ((l.getD k (aB .aM)).share))]⟩)] [4,5,10,11,12] [] rfl (by(with_reducible and_intros)<;>first|exact⟨⟩|exact(iy (dV rows (l.take k)) ((l.getD k (aB .aM)).share) (M4 _ _) (hz _ (getD_in _ hb0)))) (kG 5 0 9 rfl (bu X [4,5,10,11,12] rfl ?_))))))
  refine⟨k+1,by omega,by omega,?_⟩
  rw[bC _ k rfl (by omega),hs]
  try rfl
 ·try simp only[aR]at hb0
  exact aH (aD X [4] rfl (by trivial) (ak (ah rfl ⟨by rw[List.take_of_length_le hb0],⟨⟩⟩)))
theorem kW(s:aX)(f:Nat)(hf:f≤8)(hz: ∀r,r∈s.received→cQ List.length r.share.rows≤1048576):So 194 [.agg (bL s),aA ((f:Nat):Int)] [.agg (aS (dV s.rows (s.received.drop f)))]:=by
 refine aq X call194 func194 ntmps194 rfl rfl ?_
 intro zb
 refine bH 0 3 rfl rfl (fun jV=>(av X [1,2,4] rfl (aC X [] [(11,⟨true,[.agg (aS (cE s.rows))]⟩)] [1,2,4,5] [] rfl (by(with_reducible and_intros)<;>first|exact⟨⟩|exact(m6 s.rows)) (af (av X [2,4,5,6] rfl ?_)))))
 refine ay (aE (fun k=>f≤k∧(k≤s.received.length∨k=f)) (fun k:Nat=> [(6, .one ((aA k)))]) (fun k=> [(11, .arr (.sl .u8) (dV s.rows ((s.received.drop f).take (k-f))).rows)]) (fun k=>s.received.length-k) f (fun k=>rfl) ⟨Nat.le_refl _,Or.inr rfl⟩ (by simp[dV]) ?_)
 rintro k ⟨hk,hk2⟩
 refine af (av X [2,4,5,6,17] rfl ?_)
 refine an rfl ?_ ?_<;>intro hb0
 ·try simp only[aR]at hb0
  have hs:=OU s.rows s.received f k hb0 hk
  refine au (af (ay (af (aF X [] [(28,⟨true,[.agg (aS (eL (dV s.rows ((s.received.drop f).take (k-f))) ((s.received.getD k (aB .aM)).share))),aG (gu (dV s.rows ((s.received.drop f).take (k-f))) ((s.received.getD k (aB .aM)).share))]⟩)] [2,4,5,6,7] [] 12287 1 MO (by kernel_rfl) rfl (by kernel_rfl) (by(with_reducible and_intros)<;>first|exact⟨⟩|exact(iz (dV s.rows ((s.received.drop f).take (k-f))) ((s.received.getD k (aB .aM)).share) (M4 _ _) (hz _ (getD_in _ hb0)))| (intros;omega)) (iV X [2,4,5,6] rfl (by trivial) (kG 5 0 11 rfl (bu X [2,4,5,6] rfl ?_)))))))
  refine⟨k+1,by omega,by omega,?_⟩
  rw[bC _ k rfl (by omega),hs]
  try rfl
 ·try simp only[aR]at hb0
  exact aH (aD X [4] rfl (by trivial) (ak (ah rfl ⟨by rw[Sd _ _ _ _ hb0],⟨⟩⟩)))
theorem vR(s:aX):So 179 [.agg (bL s)] [.agg (aS (jZ s))]:=by
 refine aq X call179 func179 ntmps179 rfl rfl ?_
 intro zb
 refine av X [1,2] rfl (af (aC X [] [(4,⟨false,[aG (bS s)]⟩)] [1,2,5] [] rfl (by(with_reducible and_intros)<;>first|exact⟨⟩|exact(cI s)) ?_))
 refine an rfl ?_ ?_<;>intro hb0
 ·have hk:bS s=false:=by simpa using hb0
  exact aD X [2] rfl (by trivial) (ak (ah rfl ⟨by rw[jZ,hk];rfl,⟨⟩⟩))
 ·have hk:bS s=true:=by simpa using hb0
  have hsz:=xO hk
  exact au (aC X [] [(11,⟨true,[.agg (aS (dV s.rows s.received))]⟩)] [2] [] rfl (by(with_reducible and_intros)<;>first|exact⟨⟩|exact(qD s.rows s.received hsz)) (ak (ah rfl ⟨by rw[jZ,if_pos hk],⟨⟩⟩)))
theorem vS(s:aX):So 211 [.agg (bL s)] [.agg (aS (jZ s))]:=by
 refine aq X call211 func211 ntmps211 rfl rfl ?_
 intro zb
 refine av X [1,2] rfl (af (aC X [] [(4,⟨false,[aG (bS s)]⟩)] [1,2,5] [] rfl (by(with_reducible and_intros)<;>first|exact⟨⟩|exact(cJ s)) ?_))
 refine an rfl ?_ ?_<;>intro hb0
 ·have hk:bS s=false:=by simpa using hb0
  exact aD X [2] rfl (by trivial) (ak (ah rfl ⟨by rw[jZ,hk];rfl,⟨⟩⟩))
 ·have hk:bS s=true:=by simpa using hb0
  have hsz:=xO hk
  exact au (aC X [] [(8,⟨true,[.agg (aS (dV s.rows (s.received.drop 0)))]⟩)] [2] [] rfl (by(with_reducible and_intros)<;>first|exact⟨⟩|exact(kW s 0 (by decide) hsz)) (ak (ah rfl ⟨by rw[jZ,if_pos hk];rfl,⟨⟩⟩)))
theorem uH(s:aX):So 103 [.agg (bL s)] [.agg (aS (fQ s))]:=by
 refine aq X call103 func103 ntmps103 rfl rfl ?_
 intro zb
 refine av X [1,2] rfl (af (aC X [] [(6,⟨false,[aG (bS s)]⟩)] [1,2,7] [] rfl (by(with_reducible and_intros)<;>first|exact⟨⟩|exact(cI s)) ?_))
 refine an rfl ?_ ?_<;>intro hb0
 ·have hk:bS s=false:=by simpa using hb0
  exact aD X [2] rfl (by trivial) (ak (ah rfl ⟨by rw[fQ,hk];rfl,⟨⟩⟩))
 ·have hk:bS s=true:=by simpa using hb0
  have hsz:=xO hk
  have hin:=Lt hk
  refine au (av X [1,2,3] rfl (af (av X [1,2,3,13] rfl ?_)))
  refine an rfl ?_ ?_<;>intro bf
  ·try simp only[aR]at bf
   have hr:=zR s (by omega)
   have jV:=(M5 hk).2
   have hmi:=Se 1 (s.received.length:Int)
   refine iV X [1,2,3] rfl (by and_intros<;>first|exact⟨⟩| (intros;omega)) ?_
   rw[show List.take ((s.received.length:Int)).toNat s.received=s.received by simp,Sf, ←hr]
   refine aC X [] [(22,⟨true,[.agg (aS (dV s.rows (rcvd s)))]⟩)] [1,2,4] [] rfl (by(with_reducible and_intros)<;>first|exact⟨⟩|exact(qD s.rows (rcvd s) (fun r yL=>hsz r (Sh s r yL)))) (af (av X [2,4,25] rfl ?_))
   refine an rfl ?_ ?_<;>intro bU
   ·try simp only[aR]at bU
    omega
   ·try simp only[aR]at bU
    exact au (aD X [2] rfl (by trivial) (ak (ah rfl ⟨by rw[fQ,if_pos hk,if_neg (by omega)],⟨⟩⟩)))
  ·try simp only[aR]at bf
   have hr:=DF s (by omega)
   rw[hr]at hin
   have Lz:0<((dV s.rows s.received).rows.getD (Int.toNat 0) (aB (.sl .u8))).length:=hin.2
   refine au (aC X [] [(22,⟨true,[.agg (aS (dV s.rows s.received))]⟩)] [1,2,4] [] rfl (by(with_reducible and_intros)<;>first|exact⟨⟩|exact(qD s.rows s.received hsz)) (af (av X [2,4,25] rfl ?_)))
   refine an rfl ?_ ?_<;>intro bU
   ·try simp only[aR]at bU
    have agv:s.behavior=2:=by omega
    exact iV X [2,4] rfl (by and_intros<;>first|exact⟨⟩| (intros;omega)|exact(eP _).1|exact(eP _).2) (aD X [2] rfl (by trivial) (ak (ah rfl ⟨by rw[fQ,if_pos hk,if_pos (by omega),hr];exact alt_eq _,⟨⟩⟩)))
   ·try simp only[aR]at bU
    exact au (aD X [2] rfl (by trivial) (ak (ah rfl ⟨by rw[fQ,if_pos hk,if_neg (by omega),hr],⟨⟩⟩)))
theorem uI(s:aX):So 132 [.agg (bL s)] [.agg (aS (fQ s))]:=by
 refine aq X call132 func132 ntmps132 rfl rfl ?_
 intro zb
 refine av X [1,2] rfl (af (aC X [] [(5,⟨false,[aG (bS s)]⟩)] [1,2,6] [] rfl (by(with_reducible and_intros)<;>first|exact⟨⟩|exact(cJ s)) ?_))
 refine an rfl ?_ ?_<;>intro hb0
 ·have hk:bS s=false:=by simpa using hb0
  exact aD X [2] rfl (by trivial) (ak (ah rfl ⟨by rw[fQ,hk];rfl,⟨⟩⟩))
 ·have hk:bS s=true:=by simpa using hb0
  have hsz:=xO hk
  have hin:=Lt hk
  refine au (af (av X [1,2,9] rfl (ay (av X [1,2,9,10] rfl ?_))))
  refine an rfl ?_ ?_<;>intro bf
  ·try simp only[aR]at bf
   have hr:=zR s (by omega)
   exact aC X [] [(13,⟨true,[.agg (aS (dV s.rows (s.received.drop 1)))]⟩)] [2] [] rfl (by(with_reducible and_intros)<;>first|exact⟨⟩|exact(kW s 1 (by decide) hsz)) (ak (ah rfl ⟨by rw[fQ,if_pos hk,if_neg (by omega),hr],⟨⟩⟩))
  ·try simp only[aR]at bf
   have hr:=DF s (by omega)
   rw[hr]at hin
   have Lz:0<((dV s.rows s.received).rows.getD (Int.toNat 0) (aB (.sl .u8))).length:=hin.2
   have agw:0<((dV s.rows (List.drop 0 s.received)).rows.getD (Int.toNat 0) (aB (.sl .u8))).length:=hin.2
   have agx:0<(dV s.rows (List.drop 0 s.received)).rows.length:=hin.1
   refine av X [1,2,14] rfl ?_
   refine an rfl ?_ ?_<;>intro bU
   ·try simp only[aR]at bU
    exact aC X [] [(17,⟨true,[.agg (aS (dV s.rows (s.received.drop 0)))]⟩)] [2,3] [] rfl (by(with_reducible and_intros)<;>first|exact⟨⟩|exact(kW s 0 (by decide) hsz)) (af (aF X [] [] [2,3] [] 4095 0 MO (by kernel_rfl) rfl (by kernel_rfl) (by and_intros<;>first|exact⟨⟩| (intros;omega)|exact(eP _).1|exact(eP _).2) (aD X [2] rfl (by trivial) (ak (ah rfl ⟨by rw[fQ,if_pos hk,if_pos (by omega),hr];exact alt_eq _,⟨⟩⟩)))))
   ·try simp only[aR]at bU
    exact au (aC X [] [(32,⟨true,[.agg (aS (dV s.rows (s.received.drop 0)))]⟩)] [2] [] rfl (by(with_reducible and_intros)<;>first|exact⟨⟩|exact(kW s 0 (by decide) hsz)) (ak (ah rfl ⟨by rw[fQ,if_pos hk,if_neg (by omega),hr];rfl,⟨⟩⟩)))
theorem rA(a b:DB):So 178 [.agg (aS a), .agg (aS b)] [aG (a.rows==b.rows)]:=by
 refine aq X call178 func178 ntmps178 rfl rfl ?_
 intro zb
 exact av X [2,3] rfl (aC X [] [(9,⟨false,[aG (a.rows==b.rows)]⟩)] [4] [] rfl (by(with_reducible and_intros)<;>first|exact⟨⟩|exact(jB a.rows b.rows)) (ak (ah rfl ⟨rfl,⟨⟩⟩)))
theorem rB(a b:DB):So 210 [.agg (aS a), .agg (aS b)] [aG (a.rows==b.rows)]:=by
 refine aq X call210 func210 ntmps210 rfl rfl ?_
 intro zb
 exact av X [2,3] rfl (aC X [] [(9,⟨false,[aG (a.rows==b.rows)]⟩)] [4] [] rfl (by(with_reducible and_intros)<;>first|exact⟨⟩|exact(jz a.rows b.rows)) (ak (ah rfl ⟨rfl,⟨⟩⟩)))
theorem s9(key:Int)(r:dG):So 176 [aA key, .agg (jm r)] [aG (Lu key r)]:=by
 refine aq X call176 func176 ntmps176 rfl rfl ?_
 intro zb
 exact av X [0,3] rfl (af (aF X [] [(9,⟨false,[aA (OM key r.server r.client r.round r.mF)]⟩)] [4] [] 127 0 MO (by kernel_rfl) rfl (by kernel_rfl) (by(with_reducible and_intros)<;>first|exact⟨⟩|exact(nW key r)) (ak (ah rfl ⟨(congrArg Value.bool (by simp only[Lu,aO]<;>first|rfl|ac_rfl)),⟨⟩⟩))))
theorem rC(r:dG)(d:DB)(hd:cQ List.length d.rows≤1048576):So 177 [.agg (jm r), .agg (aS d)] [aG (G6 r d)]:=by
 refine aq X call177 func177 ntmps177 rfl rfl ?_
 intro zb
 exact av X [2,3] rfl (af (aF X [] [(12,⟨false,[aA (Du r.client r.round d)]⟩)] [4] [] 1023 0 MO (by kernel_rfl) rfl (by kernel_rfl) (by(with_reducible and_intros)<;>first|exact⟨⟩|exact(ng r.client r.round d hd)) (ak (ah rfl ⟨(congrArg Value.bool (by simp only[G6,aO]<;>first|rfl|ac_rfl)),⟨⟩⟩))))
theorem vT(key:Int)(s:aX)(p:DB)(l:List dG)(hz:s.received.length≤1048576∧ ∀r,r∈s.received→cQ List.length r.share.rows≤1048576)(hp:cQ List.length p.rows≤1048576):So 116 [aA key, .agg (bL s), .agg (aS p), .a (.sl .dG l)] [aA (xP key s p l)]:=by
 refine aq X call116 func116 ntmps116 rfl rfl ?_
 intro zb
 refine cB 3 rfl (fun jV=>(av X [0,3,5,6] rfl (af (av X [0,5,6,13,14,15] rfl ?_))))
 refine ay (aE (fun k=>k≤l.length∧ ∀j,j<k→gM key s (l.getD j (aB .dG))=0) (fun k:Nat=> [(15, .one ((aA k)))]) (fun k=> []) (fun k=>l.length-k) 0 (fun k=>rfl) ⟨Nat.zero_le _,fun j hj=>absurd hj (Nat.not_lt_zero _)⟩ rfl ?_)
 rintro k ⟨hk,hall⟩
 refine av X [0,5,6,13,14,15,16] rfl ?_
 refine af (an rfl ?_ ?_)<;>intro hb0
 ·try simp only[aR]at hb0
  refine au (af (ay (aD X [0,5,6,10,13,14,15] rfl (by and_intros<;>first|exact⟨⟩| (intros;omega)) (af (aC X [] [(34,⟨false,[aG (Lu key (l.getD k (aB .dG)))]⟩)] [0,5,6,10,13,14,15,36] [] rfl (by(with_reducible and_intros)<;>first|exact⟨⟩|exact fun _=>(s9 key (l.getD k (aB .dG)))) ?_)))))
  refine an rfl ?_ ?_<;>intro bf
  ·have Sz:nr key s (l.getD k (aB .dG))=true:=gV bf (by simp only[nr,aO]<;>first|rfl|ac_rfl)
   refine aH (bu X [0,5,6,13,14,15] rfl ?_)
   refine⟨k+1,⟨by omega,qA hall (YE Sz)⟩,by omega,?_⟩
   rw[bC _ k rfl (by omega)]
   try rfl
  ·have Sz:nr key s (l.getD k (aB .dG))=false:=kH bf (by simp only[nr,aO]<;>first|rfl|ac_rfl)
   refine au (af ?_)
   have t1:=(s6 s ((l.getD k (aB .dG)).client) hz)
   refine aN X [] [(41,⟨true,bM t1⟩)] [0,5,6,10,11,12,13,14,15] [] rfl (by(with_reducible and_intros)<;>first|exact⟨⟩|exact t1) (af (av X [0,5,6,10,11,13,14,15,45] rfl ?_))
   refine an rfl ?_ ?_<;>intro bU
   ·have hsh:j7 s.received (l.getD k (aB .dG)).client=false:=by simpa using bU
    have hf:=aa0 Sz hsh
    exact av X [8] rfl (ak (ah rfl ⟨by rw[xQ hall hb0 (by rw[hf];decide),hf],⟨⟩⟩))
   ·have hsh:j7 s.received (l.getD k (aB .dG)).client=true:=by simpa using bU
    have hsd:=Dt (c:=(l.getD k (aB .dG)).client) hz.2
    refine au (af ?_)
    have t1:=(rC (l.getD k (aB .dG)) (vH s.received (l.getD k (aB .dG)).client) hsd)
    refine aN X [] [(48,⟨false,bM t1⟩)] [0,5,6,13,14,15,49] [] rfl (by(with_reducible and_intros)<;>first|exact⟨⟩|exact t1) ?_
    refine an rfl ?_ ?_<;>intro xl
    ·have hf:=aa1 Sz hsh (by simpa using xl)
     exact av X [8] rfl (ak (ah rfl ⟨by rw[xQ hall hb0 (by rw[hf];decide),hf],⟨⟩⟩))
    ·have hf:=YD Sz hsh (by simpa using xl)
     refine au (bu X [0,5,6,13,14,15] rfl ?_)
     refine⟨k+1,⟨by omega,qA hall hf⟩,by omega,?_⟩
     rw[bC _ k rfl (by omega)]
     try rfl
 ·try simp only[aR]at hb0
  refine aH (af (af (aF X [] [(52,⟨false,[aG (bS s)]⟩),(57,⟨false,[.agg (aS (jZ s))]⟩),(58,⟨false,[aG (p.rows==(jZ s).rows)]⟩)] [60] [] 1023 0 MO (by kernel_rfl) rfl (by kernel_rfl) (by(with_reducible and_intros);(iterate 3 all_goals try first|exact⟨⟩|exact(cI s)|exact fun _=>(vR s)|exact fun _=>(rA p (jZ s)))) ?_)))
  refine an rfl ?_ ?_<;>intro WN
  ·have hq:(bS s&&(p.rows==(jZ s).rows))=false:=bP WN (by simp only[aO]<;>first|rfl|ac_rfl)
   exact av X [8] rfl (ak (ah rfl ⟨by rw[pJ hall hb0,hq];rfl,⟨⟩⟩))
  ·have hq:(bS s&&(p.rows==(jZ s).rows))=true:=bO WN (by simp only[aO]<;>first|rfl|ac_rfl)
   exact au (av X [8] rfl (ak (ah rfl ⟨by rw[pJ hall hb0,hq];rfl,⟨⟩⟩)))
theorem yf(m:Int)(sv:List aX)(pb:List DB)(rc:List dG)(hl:sv.length≤1048576)(hs: ∀s,s∈sv→m7 s)(hp: ∀d,d∈pb→cQ List.length d.rows≤1048576):So 63 [aA m, .a (.sl .aX sv), .a (.sl .DB pb), .a (.sl .dG rc)] [.a (.sl .int (gY m sv pb rc sv.length))]:=by
 refine aq X call63 func63 ntmps63 rfl rfl ?_
 intro zb
 refine cB 2 rfl (fun jV=>(av X [0,1,2,3] rfl (aD X [0,1,2,3,9] rfl (by and_intros<;>first|exact⟨⟩|exact rfl) (af (av X [0,2,3,9,13,14,15] rfl ?_)))))
 refine ay (aE (fun k=>k≤sv.length) (fun k:Nat=> [(15, .one ((aA k)))]) (fun k=> [(12, .arr .int (gY m sv pb rc k))]) (fun k=>sv.length-k) 0 (fun k=>rfl) (Nat.zero_le _) rfl ?_)
 intro k hk
 have hle:=nu m sv pb rc k
 refine av X [0,2,3,9,13,14,15,16] rfl ?_
 refine af (an rfl ?_ ?_)<;>intro hb0
 ·try simp only[aR]at hb0
  refine au (af (ay (aD X [0,2,3,9,10,11,13,14,15] rfl (by and_intros<;>first|exact⟨⟩| (intros;omega)) (af (aF X [] [(28,⟨false,[aA (fY m ((sv.getD k (aB .aX)).id))]⟩),(35,⟨false,[aA (xP (fY m (sv.getD k (aB .aX)).id) (sv.getD k (aB .aX)) (pb.getD k (aB .DB)) rc)]⟩)] [0,2,3,9,11,13,14,15,37] [] 262143 0 MO (by kernel_rfl) rfl (by kernel_rfl) (by(with_reducible and_intros);(iterate 3 all_goals try first|exact⟨⟩|exact fun _=>(gW m ((sv.getD k (aB .aX)).id))|exact fun _=>(vT (fY m (sv.getD k (aB .aX)).id) (sv.getD k (aB .aX)) (pb.getD k (aB .DB)) rc (hs _ (getD_in _ hb0)) (Jw hp k))|exact(by refine fun ZF=> ?_;have hz2:decide ((k:Int)≥(pb.length:Int))=false:=ZF;rw[decide_eq_false_iff_not]at hz2;dsimp only[hyps,cV];omega))) ?_)))))
  refine an rfl ?_ ?_<;>intro bf
  ·have hbd:uB m sv pb rc k=true:=gV bf (by simp only[uB,aO]<;>first|rfl|ac_rfl)
   have oK:=DG hbd
   refine aN X [(42,12)] [] [0,2,3,9,13,14,15] [] rfl (by and_intros<;>first|exact⟨⟩|exact rfl| (simp only[cK,maxLen,lens];omega)) (bu X [0,2,3,9,13,14,15] rfl ?_)
   refine⟨k+1,by omega,by omega,?_⟩
   rw[bC _ k rfl (by omega),oK]
   try rfl
  ·have hbd:uB m sv pb rc k=false:=kH bf (by simp only[uB,aO]<;>first|rfl|ac_rfl)
   have oK:=zT hbd
   refine au (bu X [0,2,3,9,13,14,15] rfl ?_)
   refine⟨k+1,by omega,by omega,?_⟩
   rw[bC _ k rfl (by omega),oK]
   try rfl
 ·try simp only[aR]at hb0
  exact aH (av X [8] rfl (ak (ah rfl ⟨by rw[show k=sv.length by omega],⟨⟩⟩)))
theorem yg(sv:List aX)(hl:sv.length≤1048576):So 58 [.a (.sl .aX sv)] [.a (.sl .DB (bK sv))]:=by
 refine aq X call58 func58 ntmps58 rfl rfl ?_
 intro zb
 refine av X [0] rfl (aD X [0,3] rfl (by and_intros<;>first|exact⟨⟩|exact rfl) (af (av X [3,7,8,9] rfl ?_)))
 refine ay (aE (fun k=>k≤sv.length) (fun k:Nat=> [(9, .one ((aA k)))]) (fun k=> [(6, .arr .DB ((bK sv).take k))]) (fun k=>sv.length-k) 0 (fun k=>rfl) (Nat.zero_le _) rfl ?_)
 intro k hk
 have hle:=bl (bK sv) k
 refine av X [3,7,8,9,10] rfl ?_
 refine af (an rfl ?_ ?_)<;>intro hb0
 ·try simp only[aR]at hb0
  have hs:=Fz sv k hb0
  refine au (af (ay (aD X [3,5,7,8,9] rfl (by and_intros<;>first|exact⟨⟩| (intros;omega)) (aN X [(17,6)] [(15,⟨true,[.agg (aS (fQ (sv.getD k (aB .aX))))]⟩)] [3,7,8,9] [] rfl (by(with_reducible and_intros)<;>first|exact⟨⟩|exact(uH (sv.getD k (aB .aX)))|exact rfl| (simp only[cK,maxLen,lens];omega)) (bu X [3,7,8,9] rfl ?_)))))
  refine⟨k+1,by omega,by omega,?_⟩
  rw[bC _ k rfl (by omega),hs]
  try rfl
 ·try simp only[aR]at hb0
  exact aH (av X [2] rfl (ak (ah rfl ⟨by rw[List.take_of_length_le (by unfold bK;rw[List.length_map];exact hb0)],⟨⟩⟩)))
theorem td(key:Int)(r:dG):So 207 [aA key, .agg (jm r)] [aG (Lu key r)]:=by
 refine aq X call207 func207 ntmps207 rfl rfl ?_
 intro zb
 exact av X [0,3] rfl (af (aF X [] [(9,⟨false,[aA (OM key r.server r.client r.round r.mF)]⟩)] [4] [] 127 0 MO (by kernel_rfl) rfl (by kernel_rfl) (by(with_reducible and_intros)<;>first|exact⟨⟩|exact(nX key r)) (ak (ah rfl ⟨(congrArg Value.bool (by simp only[Lu,aO]<;>first|rfl|ac_rfl)),⟨⟩⟩))))
theorem rD(r:dG)(d:DB)(hd:cQ List.length d.rows≤1048576):So 209 [.agg (jm r), .agg (aS d)] [aG (G6 r d)]:=by
 refine aq X call209 func209 ntmps209 rfl rfl ?_
 intro zb
 exact av X [2,3] rfl (af (aF X [] [(12,⟨false,[aA (Du r.client r.round d)]⟩)] [4] [] 1023 0 MO (by kernel_rfl) rfl (by kernel_rfl) (by(with_reducible and_intros)<;>first|exact⟨⟩|exact(ni r.client r.round d hd)) (ak (ah rfl ⟨(congrArg Value.bool (by simp only[G6,aO]<;>first|rfl|ac_rfl)),⟨⟩⟩))))
theorem vU(key:Int)(s:aX)(p:DB)(l:List dG)(hz:s.received.length≤1048576∧ ∀r,r∈s.received→cQ List.length r.share.rows≤1048576)(hp:cQ List.length p.rows≤1048576):So 145 [aA key, .agg (bL s), .agg (aS p), .a (.sl .dG l)] [aA (xP key s p l)]:=by
 refine aq X call145 func145 ntmps145 rfl rfl ?_
 intro zb
 refine cB 3 rfl (fun jV=>(av X [0,3,5,6] rfl (af (av X [0,3,5,6,9] rfl ?_))))
 refine ay (aE (fun k=>k≤l.length∧ ∀j,j<k→gM key s (l.getD j (aB .dG))=0) (fun k:Nat=> [(9, .one ((aA k)))]) (fun k=> []) (fun k=>l.length-k) 0 (fun k=>rfl) ⟨Nat.zero_le _,fun j hj=>absurd hj (Nat.not_lt_zero _)⟩ rfl ?_)
 rintro k ⟨hk,hall⟩
 refine af (av X [0,3,5,6,9,16] rfl ?_)
 refine an rfl ?_ ?_<;>intro hb0
 ·try simp only[aR]at hb0
  refine au (af (ay (aD X [0,3,5,6,9,10] rfl (by and_intros<;>first|exact⟨⟩| (intros;omega)) (af (aC X [] [(38,⟨false,[aG (Lu key (l.getD k (aB .dG)))]⟩)] [0,3,5,6,9,10,40] [] rfl (by(with_reducible and_intros)<;>first|exact⟨⟩|exact fun _=>(td key (l.getD k (aB .dG)))) ?_)))))
  refine an rfl ?_ ?_<;>intro bf
  ·have Sz:nr key s (l.getD k (aB .dG))=true:=gV bf (by simp only[nr,aO]<;>first|rfl|ac_rfl)
   refine aH (bu X [0,3,5,6,9] rfl ?_)
   refine⟨k+1,⟨by omega,qA hall (YE Sz)⟩,by omega,?_⟩
   rw[bC _ k rfl (by omega)]
   try rfl
  ·have Sz:nr key s (l.getD k (aB .dG))=false:=kH bf (by simp only[nr,aO]<;>first|rfl|ac_rfl)
   refine au (af ?_)
   have t1:=(DR s ((l.getD k (aB .dG)).client) hz)
   refine aN X [] [(45,⟨true,bM t1⟩)] [0,3,5,6,9,10,11,12] [] rfl (by(with_reducible and_intros)<;>first|exact⟨⟩|exact t1) (af (av X [0,3,5,6,9,10,11,49] rfl ?_))
   refine an rfl ?_ ?_<;>intro bU
   ·have hsh:j7 s.received (l.getD k (aB .dG)).client=false:=by simpa using bU
    have hf:=aa0 Sz hsh
    exact av X [8] rfl (ak (ah rfl ⟨by rw[xQ hall hb0 (by rw[hf];decide),hf],⟨⟩⟩))
   ·have hsh:j7 s.received (l.getD k (aB .dG)).client=true:=by simpa using bU
    have hsd:=Dt (c:=(l.getD k (aB .dG)).client) hz.2
    refine au (af ?_)
    have t1:=(rD (l.getD k (aB .dG)) (vH s.received (l.getD k (aB .dG)).client) hsd)
    refine aN X [] [(52,⟨false,bM t1⟩)] [0,3,5,6,9,53] [] rfl (by(with_reducible and_intros)<;>first|exact⟨⟩|exact t1) ?_
    refine an rfl ?_ ?_<;>intro xl
    ·have hf:=aa1 Sz hsh (by simpa using xl)
     exact av X [8] rfl (ak (ah rfl ⟨by rw[xQ hall hb0 (by rw[hf];decide),hf],⟨⟩⟩))
    ·have hf:=YD Sz hsh (by simpa using xl)
     refine au (bu X [0,3,5,6,9] rfl ?_)
     refine⟨k+1,⟨by omega,qA hall hf⟩,by omega,?_⟩
     rw[bC _ k rfl (by omega)]
     try rfl
 ·try simp only[aR]at hb0
  refine aH (af (af (aF X [] [(55,⟨false,[aG (bS s)]⟩),(60,⟨false,[.agg (aS (jZ s))]⟩),(61,⟨false,[aG (p.rows==(jZ s).rows)]⟩)] [63] [] 1023 0 MO (by kernel_rfl) rfl (by kernel_rfl) (by(with_reducible and_intros);(iterate 3 all_goals try first|exact⟨⟩|exact(cJ s)|exact fun _=>(vS s)|exact fun _=>(rB p (jZ s)))) ?_)))
  refine an rfl ?_ ?_<;>intro WN
  ·have hq:(bS s&&(p.rows==(jZ s).rows))=false:=bP WN (by simp only[aO]<;>first|rfl|ac_rfl)
   exact av X [8] rfl (ak (ah rfl ⟨by rw[pJ hall hb0,hq];rfl,⟨⟩⟩))
  ·have hq:(bS s&&(p.rows==(jZ s).rows))=true:=bO WN (by simp only[aO]<;>first|rfl|ac_rfl)
   exact au (av X [8] rfl (ak (ah rfl ⟨by rw[pJ hall hb0,hq];rfl,⟨⟩⟩)))
theorem yh(m:Int)(sv:List aX)(pb:List DB)(rc:List dG)(hl:sv.length≤1048576)(hs: ∀s,s∈sv→m7 s)(hp: ∀d,d∈pb→cQ List.length d.rows≤1048576):So 84 [aA m, .a (.sl .aX sv), .a (.sl .DB pb), .a (.sl .dG rc)] [.a (.sl .int (gY m sv pb rc sv.length))]:=by
 refine aq X call84 func84 ntmps84 rfl rfl ?_
 intro zb
 refine cB 2 rfl (fun jV=>(av X [0,1,2,3] rfl (aD X [0,1,2,3,9] rfl (by and_intros<;>first|exact⟨⟩|exact rfl) (af (av X [0,1,2,3,9,10] rfl ?_)))))
 refine ay (aE (fun k=>k≤sv.length) (fun k:Nat=> [(10, .one ((aA k)))]) (fun k=> [(11, .arr .int (gY m sv pb rc k))]) (fun k=>sv.length-k) 0 (fun k=>rfl) (Nat.zero_le _) rfl ?_)
 intro k hk
 have hle:=nu m sv pb rc k
 refine af (av X [0,1,2,3,9,10,15] rfl ?_)
 refine an rfl ?_ ?_<;>intro hb0
 ·try simp only[aR]at hb0
  refine au (af (ay (af (aF X [] [(29,⟨false,[aA (fY m ((sv.getD k (aB .aX)).id))]⟩),(39,⟨false,[aA (xP (fY m (sv.getD k (aB .aX)).id) (sv.getD k (aB .aX)) (pb.getD k (aB .DB)) rc)]⟩)] [0,1,2,3,9,10,41] [] 16777215 0 MO (by kernel_rfl) rfl (by kernel_rfl) (by(with_reducible and_intros);(iterate 3 all_goals try first|exact⟨⟩|exact fun _=>(gX m ((sv.getD k (aB .aX)).id))|exact fun _=>(vU (fY m (sv.getD k (aB .aX)).id) (sv.getD k (aB .aX)) (pb.getD k (aB .DB)) rc (hs _ (getD_in _ hb0)) (Jw hp k))|exact(by refine fun ZF=> ?_;have hz2:decide ((k:Int)≥(pb.length:Int))=false:=ZF;rw[decide_eq_false_iff_not]at hz2;dsimp only[hyps,cV];omega))) ?_))))
  refine an rfl ?_ ?_<;>intro bf
  ·have hbd:uB m sv pb rc k=true:=gV bf (by simp only[uB,aO]<;>first|rfl|ac_rfl)
   have oK:=DG hbd
   refine aN X [(49,11)] [] [0,1,2,3,9,10] [] rfl (by and_intros<;>first|exact⟨⟩| (intros;omega)|exact rfl| (simp only[cK,maxLen,lens];omega)) (bu X [0,1,2,3,9,10] rfl ?_)
   refine⟨k+1,by omega,by omega,?_⟩
   rw[bC _ k rfl (by omega),oK]
   try rfl
  ·have hbd:uB m sv pb rc k=false:=kH bf (by simp only[uB,aO]<;>first|rfl|ac_rfl)
   have oK:=zT hbd
   refine au (bu X [0,1,2,3,9,10] rfl ?_)
   refine⟨k+1,by omega,by omega,?_⟩
   rw[bC _ k rfl (by omega),oK]
   try rfl
 ·try simp only[aR]at hb0
  exact aH (av X [8] rfl (ak (ah rfl ⟨by rw[show k=sv.length by omega],⟨⟩⟩)))
theorem yj(sv:List aX)(hl:sv.length≤1048576):So 79 [.a (.sl .aX sv)] [.a (.sl .DB (bK sv))]:=by
 refine aq X call79 func79 ntmps79 rfl rfl ?_
 intro zb
 refine av X [0] rfl (aD X [0,3] rfl (by and_intros<;>first|exact⟨⟩|exact rfl) (af (av X [0,3,4] rfl ?_)))
 refine ay (aE (fun k=>k≤sv.length) (fun k:Nat=> [(4, .one ((aA k)))]) (fun k=> [(5, .arr .DB ((bK sv).take k))]) (fun k=>sv.length-k) 0 (fun k=>rfl) (Nat.zero_le _) rfl ?_)
 intro k hk
 have hle:=bl (bK sv) k
 refine af (av X [0,3,4,9] rfl ?_)
 refine an rfl ?_ ?_<;>intro hb0
 ·try simp only[aR]at hb0
  have hs:=Fz sv k hb0
  refine au (af (ay (aN X [(19,5)] [(17,⟨true,[.agg (aS (fQ (sv.getD k (aB .aX))))]⟩)] [0,3,4] [] rfl (by(with_reducible and_intros)<;>first|exact⟨⟩|exact(uI (sv.getD k (aB .aX)))| (intros;omega)|exact rfl| (simp only[cK,maxLen,lens];omega)) (bu X [0,3,4] rfl ?_))))
  refine⟨k+1,by omega,by omega,?_⟩
  rw[bC _ k rfl (by omega),hs]
  try rfl
 ·try simp only[aR]at hb0
  exact aH (av X [2] rfl (ak (ah rfl ⟨by rw[List.take_of_length_le (by unfold bK;rw[List.length_map];exact hb0)],⟨⟩⟩)))
end
end Go.Proofs.YtkcegdacbddipaaGreat.G
