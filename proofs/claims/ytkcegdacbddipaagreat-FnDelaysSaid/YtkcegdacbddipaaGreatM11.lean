/-
  What servers publish, and who is guilty.
-/
import Derived.Lib.AppendZeros
import Derived.Test.YtkcegdacbddipaaGreatM10
open And renaming intro→aT
open Bool renaming and_eq_true→aj
open Go.IntKind renaming i64→an
open Go.Proofs.Tryz renaming prog→bu
open Go.Value renaming bool→dO
open Int renaming reduceToNat→HR,toNat→cP,toNat_zero→IN
open List renaming append_assoc→b7,drop→NL,drop_zero→eV,length→aR,length_append→aX,length_cons→bY,length_drop→bM,length_map→bw,length_nil→gf,length_take→bL,range→bA,take_length→mz,take_of_length_le→aB,zipWith→dm
open Nat renaming le_refl→bh,mul_le_mul→zL,not_lt_zero→sE,zero_le→aA
namespace Go.Proofs.YtkcegdacbddipaaGreat.G
set_option linter.all false
open Go.RowKit L D Tryz
section
set_option maxRecDepth 100000
theorem Xc{w w':World}{t:Tag}{g n:Nat}{c:Array Value}(hg:g=w.heap.size)(hb:Below w.heap.size w w')(hc:w'.heap[g]? =some (.cells c (ty t) (0,0)))(hs:c.size=n*kk t)(hn:n≤maxLen):
  Ret ty w [.a (.sl t [])] (.returned (.slice (some ⟨g,0,none⟩) 0 n)) w':=by
 have hown:Own w.heap.size w' (g::([]:List (List Nat)).flatten):=⟨by simp,fun b IE=>by simp at IE;omega,fun b IE=>by simp at IE;subst IE;exact⟨_,_,hc⟩⟩
 have hB:=mT (fP t) (l:=([]:List (T t))) (cu:= []) (o:=0) (n:=n) hc (by omega) (aA _) hn ⟨rfl,by simp⟩ hown
 exact⟨_,_,rfl,hb,hown,_,[],hB,rfl,by simp⟩
theorem aa1{w:World}{t:Tag}:Ret ty w [.a (.sl t [])] (.returned Kr) w:=by
 refine⟨_,[],rfl,Below.refl _ _,Own.nil _ _,[],[],⟨[],[],?_,rfl,by simp,rfl,Own.nil _ _⟩,rfl,rfl⟩
 exact⟨by simp,Or.inl ⟨rfl,rfl⟩⟩
theorem Xd(w:World)(n:Nat)(h1:n≤1099511627776):Calls bu 188 #[Kr, .int .i64 n] w (Ret ty w [.a (.sl .int [])]):=by
 have vQ:El bu ty .int:=cB _ (by decide)
 cases hq:bu.info? (ty .int)with
 |none=>simp[El,hq]at vQ
 |some inf=>
  simp[El,hq]at vQ
  obtain⟨z1,z2,z3⟩:=vQ
  by_cases h0:n=0
  ·subst h0
   go_enter func188,ntmps188
   go_wp2
   go_ret
   exact aa1
  ·have hsz:inf.size=1:=z2
   have hby:inf.bytes≤8:=by rw[z3];decide
   have hmul:n*inf.bytes≤8796093022208:=Nat.le_trans (zL (show n≤1099511627776 from h1) hby) (by decide)
   have hrun:=Lib.run_append_nil_zeros (P:=bu) w 29 3 29 (ty .int) inf (iH .int) .i64 .i64 (X.kind 29).1 (X.kind 3) hq z1 n (by omega) (by omega) (by omega) (by omega)
   have hge:=grownCap_ge w n 0 (ty .int)
   have UT:=grownCap_le_maxLen w n 0 (ty .int) (by unfold maxLen;omega)
   generalize grownCap w n 0 (ty .int)=g at hrun hge UT
   go_enter func188,ntmps188
   go_wp2_with (at_builtin;refine Lib.wpList_append_run _ rfl _ _ _ _ rfl _ _ rfl rfl _ _ hrun ?_)
   go_ret
   refine Xc (t:= .int) rfl ((Below.refl _ _).drew.alloc (bh _) _) (tR rfl) ?_ UT
   rw[Array.size_append,size_zeroCells,size_zeroCells, ←Nat.add_mul,show n+(g-n)=g by omega]
   rfl
theorem wq(n:Nat)(h1:n≤1099511627776):So 188 [.a (.lit Kr), .a (.lit (.int .i64 n))] [.a (.sl .int [])]:=by
 refine⟨fun args w=>call188 args w,fun w us _ ha=> ?_⟩
 match us,ha with
 | [u1,u2],⟨⟨_,e1⟩,⟨_,e2⟩,_⟩=>
   obtain⟨e1,_⟩:=e1
   obtain⟨e2,_⟩:=e2
   rw[e1,e2]
   exact Xd w n h1
end
section
set_option maxRecDepth 100000
theorem bB(x lo hi:Int):So 40 [aL x,aL lo,aL hi] [bl (inr x lo hi)]:=by
 refine aD X call40 func40 ntmps40 rfl rfl ?_
 intro zb
 exact aF X [0,1,2] rfl (aF X [6] rfl (ay (ah rfl ⟨rfl,⟨⟩⟩)))
theorem bU(x lo hi:Int):So 21 [aL x,aL lo,aL hi] [bl (inr x lo hi)]:=by
 refine aD X call21 func21 ntmps21 rfl rfl ?_
 intro zb
 exact aF X [0,1,2] rfl (aF X [6] rfl (ay (ah rfl ⟨rfl,⟨⟩⟩)))
theorem PZ(p q:Int)(h1:1≤q)(h2:q≤1000000000000):So 187 [aL p,aL q] [aL (p % q)]:=by
 refine aD X call187 func187 ntmps187 rfl rfl ?_
 intro zb
 refine aF X [0,1] rfl (af (aQ X [] [(6,⟨false,[bl _]⟩)] [0,1,7] [] rfl (by(with_reducible and_intros)<;>first|exact⟨⟩|exact(bB _ _ _)) ?_))
 refine az rfl ?_ ?_<;>intro hb0
 ·try simp only[bW]at hb0
  omega
 ·try simp only[bW]at hb0
  exact aE (aS X [4] rfl (by and_intros<;>first|exact⟨⟩| (intros;omega)) (ay (ah rfl ⟨by rw[md_eq p q h1 h2],⟨⟩⟩)))
theorem xz(l:List Int)(hl:l.length≤16777216):So 126 [.a (.sl .int l)] [aL (hsh l)]:=by
 refine aD X call126 func126 ntmps126 rfl rfl ?_
 intro zb
 refine aF X [0] rfl (aF X [0,3] rfl (af (aF X [3,6,7,8] rfl ?_)))
 refine aG (aV (fun k=>k≤l.length) (fun k:Nat=> [(3, .one ((aL (hsh (l.take k))))),(8, .one ((aL k)))]) (fun k=> []) (fun k=>l.length-k) 0 (fun k=>rfl) (aA _) rfl ?_)
 intro k hk
 refine aF X [3,6,7,8,9] rfl ?_
 refine af (az rfl ?_ ?_)<;>intro hb0
 ·try simp only[bW]at hb0
  have hs:=Nb l k hb0
  refine aE (af (aG (aS X [3,5,6,7,8] rfl (by and_intros<;>first|exact⟨⟩| (intros;omega)) (bE X [] [(15,⟨false,[aL _]⟩)] [3,6,7,8] [] rfl (by(with_reducible and_intros)<;>first|exact⟨⟩|exact(PZ _ _ (by first|assumption|omega| (simp;done)| (simp;omega)) (by first|assumption|omega| (simp;done)| (simp;omega)))| (intros;omega)) (cN X [3,6,7,8] rfl ?_)))))
  refine⟨k+1,by omega,by omega,?_⟩
  rw[cX _ k rfl (by omega),hs]
  try rfl
 ·try simp only[bW]at hb0
  exact bn (aF X [2] rfl (ay (ah rfl ⟨by rw[aB hb0],⟨⟩⟩)))
theorem G4(p q:Int)(h1:1≤q)(h2:q≤1000000000000):So 92 [aL p,aL q] [aL (p % q)]:=by
 refine aD X call92 func92 ntmps92 rfl rfl ?_
 intro zb
 refine aF X [0,1] rfl (af (aQ X [] [(6,⟨false,[bl _]⟩)] [0,1,7] [] rfl (by(with_reducible and_intros)<;>first|exact⟨⟩|exact(bU _ _ _)) ?_))
 refine az rfl ?_ ?_<;>intro hb0
 ·try simp only[bW]at hb0
  omega
 ·try simp only[bW]at hb0
  exact aE (aS X [4] rfl (by and_intros<;>first|exact⟨⟩| (intros;omega)) (ay (ah rfl ⟨by rw[md_eq p q h1 h2],⟨⟩⟩)))
theorem xA(l:List Int)(hl:l.length≤16777216):So 44 [.a (.sl .int l)] [aL (hsh l)]:=by
 refine aD X call44 func44 ntmps44 rfl rfl ?_
 intro zb
 refine aF X [0] rfl (aF X [0,3] rfl (af (aF X [0,3,4] rfl ?_)))
 refine aG (aV (fun k=>k≤l.length) (fun k:Nat=> [(3, .one ((aL (hsh (l.take k))))),(4, .one ((aL k)))]) (fun k=> []) (fun k=>l.length-k) 0 (fun k=>rfl) (aA _) rfl ?_)
 intro k hk
 refine af (aF X [0,3,4,8] rfl ?_)
 refine az rfl ?_ ?_<;>intro hb0
 ·try simp only[bW]at hb0
  have hs:=Nb l k hb0
  refine aE (af (aG (bE X [] [(17,⟨false,[aL _]⟩)] [0,3,4] [] rfl (by(with_reducible and_intros)<;>first|exact⟨⟩|exact(G4 _ _ (by first|assumption|omega| (simp;done)| (simp;omega)) (by first|assumption|omega| (simp;done)| (simp;omega)))| (intros;omega)) (cN X [0,3,4] rfl ?_))))
  refine⟨k+1,by omega,by omega,?_⟩
  rw[cX _ k rfl (by omega),hs]
  try rfl
 ·try simp only[bW]at hb0
  exact bn (aF X [2] rfl (ay (ah rfl ⟨by rw[aB hb0],⟨⟩⟩)))
theorem mV(l:List (List Int))(hl:l.length≤1048576)(hs0:(l.map aR).sum≤1099511627776):So 127 [.a (.sl (.sl .int) l)] [.a (.sl .int l.flatten)]:=by
 refine aD X call127 func127 ntmps127 rfl rfl ?_
 intro zb
 refine aF X [0] rfl (aF X [0,3] rfl (af (aF X [0,3,9,10,11] rfl ?_)))
 refine aG (aV (fun k=>k≤l.length) (fun k:Nat=> [(3, .one ((aL ((l.take k).map aR).sum))),(11, .one ((aL k)))]) (fun k=> []) (fun k=>l.length-k) 0 (fun k=>rfl) (aA _) rfl ?_)
 intro k hk
 have hle:=pG l aR k
 refine aF X [0,3,9,10,11,12] rfl ?_
 refine af (az rfl ?_ ?_)<;>intro hb0
 ·try simp only[bW]at hb0
  have hs:=Nd l (aO (.sl .int)) k hb0
  have aex:=pG l aR (k+1)
  rw[hs]at aex
  refine aE (af (aG (aS X [0,3,5,9,10,11] rfl (by and_intros<;>first|exact⟨⟩| (intros;omega)) (aS X [0,3,9,10,11] rfl (by trivial) (aF X [0,3,9,10,11,20] rfl ?_)))))
  refine az rfl ?_ ?_<;>intro ck
  ·try simp only[bW]at ck
   rw[dA (by omega)]at ck
   omega
  ·try simp only[bW]at ck
   refine aE (cN X [0,3,9,10,11] rfl ?_)
   refine⟨k+1,by omega,by omega,?_⟩
   rw[cX _ k rfl (by omega),hs]
   rw[dA (by simp only[Int.toNat_natCast];omega)]
   try rfl
 ·try simp only[bW]at hb0
  rw[aB hb0]
  refine bn (aQ X [] [(24,⟨true,[.a (.sl .int [])]⟩),(300024,⟨true,[]⟩)] [0,6] [] rfl (by(with_reducible and_intros)<;>first|exact⟨⟩|exact(wq _ hs0)) (af (aF X [6,25,26,27] rfl ?_)))
  refine aG (aV (fun k1=>k1≤l.length) (fun k1:Nat=> [(27, .one ((aL k1)))]) (fun k1=> [(24, .arr .int (l.take k1).flatten)]) (fun k1=>l.length-k1) 0 (fun k1=>rfl) (aA _) rfl ?_)
  intro k1 hk1
  have aa2:=Em l k1
  refine aF X [6,25,26,27,28] rfl ?_
  refine af (az rfl ?_ ?_)<;>intro dS
  ·try simp only[bW]at dS
   have hs1:=K9 l (aO (.sl .int)) k1 dS
   have aex:=Em l (k1+1)
   rw[hs1,aX]at aex
   refine aE (af (aG (aS X [6,8,25,26,27] rfl (by and_intros<;>first|exact⟨⟩| (intros;omega)) (bE X [(33,24)] [] [6,25,26,27] [] rfl (by and_intros<;>first|exact⟨⟩|exact rfl| (simp only[gl,maxLen,lens];omega)) (cN X [6,25,26,27] rfl ?_)))))
   refine⟨k1+1,by omega,by omega,?_⟩
   rw[cX _ k1 rfl (by omega),hs1]
   try rfl
  ·try simp only[bW]at dS
   exact bn (aF X [2] rfl (ay (ah rfl ⟨by rw[aB dS],⟨⟩⟩)))
theorem cV(k:Int)(l:List Int)(hl:l.length≤1048576):So 77 [aL k, .a (.sl .int l)] [aL (kh k l)]:=by
 refine aD X call77 func77 ntmps77 rfl rfl ?_
 intro zb
 refine aF X [0,1] rfl (aQ X [] [(11,⟨true,[.a (.sl .int [[k],l,[k]].flatten)]⟩),(12,⟨false,[aL (hsh [[k],l,[k]].flatten)]⟩)] [4] [] rfl (by(repeat' with_reducible first|exact bF|refine bS ?_ ?_|apply aT);(iterate 2 all_goals try first|exact(mV _ (by simp) (by simp;omega))|exact(xz _ (by simp;omega)));all_goals first|exact rfl|exact⟨rfl,cB _ (by decide)⟩) ?_)
 exact ay (ah rfl ⟨rfl,⟨⟩⟩)
theorem cC(k:Int)(l:List Int)(hl:l.length≤1048576):So 25 [aL k, .a (.sl .int l)] [aL (kh k l)]:=by
 refine aD X call25 func25 ntmps25 rfl rfl ?_
 intro zb
 refine aF X [0,1] rfl (aQ X [(8,6),(11,6)] [(12,⟨false,[aL (hsh ([k]++l++ [k]))]⟩)] [4] [] rfl (by(repeat' with_reducible first|exact bF|refine bS ?_ ?_|apply aT)<;>first|exact(xA _ (by simp;omega))|exact rfl|exact⟨rfl,cB _ (by decide)⟩| (simp only[gl,maxLen,lens];omega)) ?_)
 exact ay (ah rfl ⟨rfl,⟨⟩⟩)
theorem vo(n:Int):So 161 [aL n] [aL (Ej n)]:=by
 refine aD X call161 func161 ntmps161 rfl rfl ?_
 intro zb
 refine aF X [0] rfl (af (aF X [0,4] rfl ?_))
 refine az rfl ?_ ?_<;>intro hb0
 ·try simp only[bW]at hb0
  exact aF X [2] rfl (ay (ah rfl ⟨by rw[Ej,if_pos hb0],⟨⟩⟩))
 ·try simp only[bW]at hb0
  exact aE (aF X [2] rfl (ay (ah rfl ⟨by rw[Ej,if_neg (by simpa using hb0)],⟨⟩⟩)))
theorem rM(a b:Int):So 24 [aL a,aL b] [aL (if b>a then b else a)]:=by
 refine aD X call24 func24 ntmps24 rfl rfl ?_
 intro zb
 refine aF X [0,1] rfl (af (aF X [0,1,7] rfl ?_))
 refine az rfl ?_ ?_<;>intro hb0
 ·try simp only[bW]at hb0
  exact aF X [4] rfl (ay (ah rfl ⟨by rw[if_pos (by omega)],⟨⟩⟩))
 ·try simp only[bW]at hb0
  exact aE (aF X [4] rfl (ay (ah rfl ⟨by rw[if_neg (by omega)],⟨⟩⟩)))
theorem oK(s k:Int):So 122 [aL s,aL k] [aL (cs s k)]:=by
 refine aD X call122 func122 ntmps122 rfl rfl ?_
 intro zb
 refine aF X [0,1] rfl (aQ X [] [(9,⟨false,[aL _]⟩)] [5] [] rfl (by(repeat' with_reducible first|exact bF|refine bS ?_ ?_|apply aT)<;>first|exact(cV _ _ (by first|assumption|omega| (simp;done)| (simp;omega)))|exact⟨rfl,cB _ (by decide)⟩) ?_)
 exact aS X [4] rfl (by and_intros<;>first|exact⟨⟩| (intros;omega)) (ay (ah rfl ⟨by rw[cs_eq (fW _ _).1 (fW _ _).2];rfl,⟨⟩⟩))
theorem mH(s n:Int)(h0:0≤n)(h1:n≤400):So 125 [aL s,aL n] [.a (.sl .u8 (stream s n.toNat))]:=by
 refine aD X call125 func125 ntmps125 rfl rfl ?_
 intro zb
 refine aF X [0,1] rfl (af (aQ X [] [(8,⟨false,[bl _]⟩)] [0,1,9] [] rfl (by(with_reducible and_intros)<;>first|exact⟨⟩|exact(bB _ _ _)) ?_))
 refine az rfl ?_ ?_<;>intro hb0
 ·try simp only[bW]at hb0
  omega
 ·try simp only[bW]at hb0
  refine aE (aS X [0,1,5] rfl (by and_intros<;>first|exact⟨⟩|exact rfl) (af (aF X [0,5,11,12] rfl ?_)))
  refine aG (aV (fun k=>k≤n.toNat) (fun k:Nat=> [(12, .one ((aL k)))]) (fun k=> [(10, .arr .u8 (stream s k))]) (fun k=>n.toNat-k) 0 (fun k=>rfl) (aA _) rfl ?_)
  intro k hk
  have hle:=gE s k
  refine aF X [0,5,11,12,13] rfl ?_
  refine af (az rfl ?_ ?_)<;>intro ck
  ·try simp only[bW]at ck
   have hs:=Ek s k (by omega)
   refine aE (af (aG (aF X [0,5,6,11,12] rfl (bE X [(23,10)] [(19,⟨false,[aL _]⟩)] [0,5,11,12] [] rfl (by(repeat' with_reducible first|exact bF|refine bS ?_ ?_|apply aT)<;>first|exact(oK _ _)| (intros;omega)|exact rfl|exact⟨rfl,cB _ (by decide)⟩|exact(qo _).1|exact(qo _).2| (simp only[gl,maxLen,lens];omega)) ?_))))
   refine cN X [0,5,11,12] rfl ?_
   refine⟨k+1,by omega,by omega,?_⟩
   rw[cX _ k rfl (by omega),hs]
   try rfl
  ·try simp only[bW]at ck
   exact bn (aF X [4] rfl (ay (ah rfl ⟨by rw[show k=n.toNat by omega],⟨⟩⟩)))
theorem rN(l:List UInt8)(hl:l.length≤1048576):So 253 [.a (.sl .u8 l)] [.a (.sl .int (Iw l))]:=by
 refine aD X call253 func253 ntmps253 rfl rfl ?_
 intro zb
 refine aF X [0] rfl (aS X [0,3] rfl (by and_intros<;>first|exact⟨⟩|exact rfl) (af (aF X [3,9,10,11] rfl ?_)))
 refine aG (aV (fun k=>k≤l.length) (fun k:Nat=> [(11, .one ((aL k)))]) (fun k=> [(8, .arr .int ((l.length:Int)::(l.take k).map (fun c=>(c.toNat:Int))))]) (fun k=>l.length-k) 0 (fun k=>rfl) (aA _) rfl ?_)
 intro k hk
 refine aF X [3,9,10,11,12] rfl ?_
 refine af (az rfl ?_ ?_)<;>intro hb0
 ·try simp only[bW]at hb0
  have hs:=Nc l k hb0
  refine aE (af (aG (aS X [3,5,9,10,11] rfl (by and_intros<;>first|exact⟨⟩| (intros;omega)) (bE X [(19,8)] [] [3,9,10,11] [] rfl (by and_intros<;>first|exact⟨⟩|exact rfl| (simp only[gl,maxLen,lens];omega)) (cN X [3,9,10,11] rfl ?_)))))
  refine⟨k+1,by omega,by omega,?_⟩
  rw[cX _ k rfl (by omega),hs]
  try rfl
 ·try simp only[bW]at hb0
  exact bn (aF X [2] rfl (ay (ah rfl ⟨by rw[aB hb0];rfl,⟨⟩⟩)))
theorem oL(s k:Int):So 242 [aL s,aL k] [aL (cs s k)]:=by
 refine aD X call242 func242 ntmps242 rfl rfl ?_
 intro zb
 refine aF X [0,1] rfl (aQ X [] [(9,⟨false,[aL _]⟩)] [5] [] rfl (by(repeat' with_reducible first|exact bF|refine bS ?_ ?_|apply aT)<;>first|exact(cC _ _ (by first|assumption|omega| (simp;done)| (simp;omega)))|exact⟨rfl,cB _ (by decide)⟩) ?_)
 exact aS X [4] rfl (by and_intros<;>first|exact⟨⟩| (intros;omega)) (ay (ah rfl ⟨by rw[cs_eq (fW _ _).1 (fW _ _).2];rfl,⟨⟩⟩))
theorem mI(s n:Int)(h0:0≤n)(h1:n≤400):So 239 [aL s,aL n] [.a (.sl .u8 (stream s n.toNat))]:=by
 refine aD X call239 func239 ntmps239 rfl rfl ?_
 intro zb
 refine aF X [0,1] rfl (aS X [0,1,5] rfl (by and_intros<;>first|exact⟨⟩|exact rfl) (af (aF X [0,1,5,6] rfl ?_)))
 refine aG (aV (fun k=>k≤n.toNat) (fun k:Nat=> [(6, .one ((aL k)))]) (fun k=> [(7, .arr .u8 (stream s k))]) (fun k=>n.toNat-k) 0 (fun k=>rfl) (aA _) rfl ?_)
 intro k hk
 have hle:=gE s k
 refine af (aF X [0,1,5,6,14] rfl ?_)
 refine az rfl ?_ ?_<;>intro hb0
 ·try simp only[bW]at hb0
  have hs:=Ek s k (by omega)
  refine aE (af (aG (bE X [(25,7)] [(21,⟨false,[aL _]⟩)] [0,1,5,6] [] rfl (by(repeat' with_reducible first|exact bF|refine bS ?_ ?_|apply aT)<;>first|exact(oL _ _)| (intros;omega)|exact rfl|exact⟨rfl,cB _ (by decide)⟩|exact(qo _).1|exact(qo _).2| (simp only[gl,maxLen,lens];omega)) ?_)))
  refine cN X [0,1,5,6] rfl ?_
  refine⟨k+1,by omega,by omega,?_⟩
  rw[cX _ k rfl (by omega),hs]
  try rfl
 ·try simp only[bW]at hb0
  exact bn (aF X [4] rfl (ay (ah rfl ⟨by rw[show k=n.toNat by omega],⟨⟩⟩)))
theorem rO(l:List UInt8)(hl:l.length≤1048576):So 248 [.a (.sl .u8 l)] [.a (.sl .int (Iw l))]:=by
 refine aD X call248 func248 ntmps248 rfl rfl ?_
 intro zb
 refine aF X [0] rfl (aS X [0,3] rfl (by and_intros<;>first|exact⟨⟩|exact rfl) (af (aF X [0,3,4] rfl ?_)))
 refine aG (aV (fun k=>k≤l.length) (fun k:Nat=> [(4, .one ((aL k)))]) (fun k=> [(7, .arr .int ((l.length:Int)::(l.take k).map (fun c=>(c.toNat:Int))))]) (fun k=>l.length-k) 0 (fun k=>rfl) (aA _) rfl ?_)
 intro k hk
 refine af (aF X [0,3,4,11] rfl ?_)
 refine az rfl ?_ ?_<;>intro hb0
 ·try simp only[bW]at hb0
  have hs:=Nc l k hb0
  refine aE (af (aG (bE X [(21,7)] [] [0,3,4] [] rfl (by and_intros<;>first|exact⟨⟩| (intros;omega)|exact rfl| (simp only[gl,maxLen,lens];omega)) (cN X [0,3,4] rfl ?_))))
  refine⟨k+1,by omega,by omega,?_⟩
  rw[cX _ k rfl (by omega),hs]
  try rfl
 ·try simp only[bW]at hb0
  exact bn (aF X [2] rfl (ay (ah rfl ⟨by rw[aB hb0];rfl,⟨⟩⟩)))
end
section
set_option maxRecDepth 100000
theorem jQ(l:List Int)(hl:l.length≤4194304):So 88 [.a (.sl .int l)] [.a (.sl .int l)]:=by
 refine aD X call88 func88 ntmps88 rfl rfl ?_
 intro zb
 refine aF X [0] rfl (af (af (Ni X [] [] [0,4] rfl (by trivial) (fun hn1=> ?_) ?_)))
 ·refine az rfl (fun _=> ?_) (fun hb=>absurd hb (by decide))
  exact aF X [2] rfl (ay (ah rfl ⟨hn1,⟨⟩⟩))
 ·exact az rfl (fun hb=>absurd hb (by decide)) (fun _=>(aE (aQ X [(7,5)] [] [2] [] rfl (by and_intros<;>first|exact⟨⟩|exact rfl| (simp only[gl,maxLen,lens];omega)) (ay (ah rfl ⟨rfl,⟨⟩⟩)))))
theorem ez(l:List UInt8)(hl:l.length≤1048576):So 231 [.a (.sl .u8 l)] [.a (.sl .u8 l)]:=by
 refine aD X call231 func231 ntmps231 rfl rfl ?_
 intro zb
 refine aF X [0] rfl (af (af (Ni X [] [] [0,4] rfl (by trivial) (fun hn1=> ?_) ?_)))
 ·refine az rfl (fun _=> ?_) (fun hb=>absurd hb (by decide))
  exact aF X [2] rfl (ay (ah rfl ⟨hn1,⟨⟩⟩))
 ·exact az rfl (fun hb=>absurd hb (by decide)) (fun _=>(aE (aQ X [(7,5)] [] [2] [] rfl (by and_intros<;>first|exact⟨⟩|exact rfl| (simp only[gl,maxLen,lens];omega)) (ay (ah rfl ⟨rfl,⟨⟩⟩)))))
theorem mu(a b:List UInt8)(ha:a.length≤1048576)(hb:b.length≤1048576):So 220 [.a (.sl .u8 a), .a (.sl .u8 b)] [.a (.sl .u8 (fk a b))]:=by
 refine aD X call220 func220 ntmps220 rfl rfl ?_
 intro zb
 refine aF X [0,1] rfl (af (aF X [0,1,12] rfl ?_))
 refine az rfl ?_ ?_<;>intro hb0
 ·try simp only[bW]at hb0
  rw[JB a b]
  have Xh:a.length≤b.length:=by omega
  obtain⟨p,hp⟩: ∃p,p=b:=⟨_,rfl⟩
  obtain⟨q,hq⟩: ∃q,q=a:=⟨_,rfl⟩
  subst hp;subst hq
  refine cN X [0,1] rfl (aQ X [] [(16,⟨true,[.a (.sl .u8 _)]⟩)] [1,5] [] rfl (by(with_reducible and_intros)<;>first|exact⟨⟩|exact(ez _ (by first|assumption|omega| (simp;done)| (simp;omega)))) (af (aF X [5,17,18,19] rfl ?_)))
  refine aG (aV (fun k=>k≤q.length) (fun k:Nat=> [(19, .one ((aL k)))]) (fun k=> [(16, .arr .u8 ((fk p q).take k++p.drop k))]) (fun k=>q.length-k) 0 (fun k=>rfl) (aA _) rfl ?_)
  intro k hk
  have hle:=nD (fk p q) p k (by rw[eF];omega) (by omega)
  refine aF X [5,17,18,19,20] rfl ?_
  refine af (az rfl ?_ ?_)<;>intro ck
  ·try simp only[bW]at ck
   have hs:=Nk p q k ck Xh
   refine aE (af (aG (aS X [5,6,7,17,18,19] rfl (by and_intros<;>first|exact⟨⟩| (intros;omega)) (mU X [5,17,18,19] rfl (by and_intros<;>first|exact⟨⟩| (intros;omega)|exact(qo _).1|exact(qo _).2) (cN X [5,17,18,19] rfl ?_)))))
   refine⟨k+1,by omega,by omega,?_⟩
   rw[cX _ k rfl (by omega),hs]
   try rfl
  ·try simp only[bW]at ck
   exact bn (aF X [4] rfl (ay (ah rfl ⟨by rw[Nl p q k ck Xh hk],⟨⟩⟩)))
 ·try simp only[bW]at hb0
  have Xh:b.length≤a.length:=by omega
  obtain⟨p,hp⟩: ∃p,p=a:=⟨_,rfl⟩
  obtain⟨q,hq⟩: ∃q,q=b:=⟨_,rfl⟩
  subst hp;subst hq
  refine aE (aQ X [] [(16,⟨true,[.a (.sl .u8 _)]⟩)] [1,5] [] rfl (by(with_reducible and_intros)<;>first|exact⟨⟩|exact(ez _ (by first|assumption|omega| (simp;done)| (simp;omega)))) (af (aF X [5,17,18,19] rfl ?_)))
  refine aG (aV (fun k=>k≤q.length) (fun k:Nat=> [(19, .one ((aL k)))]) (fun k=> [(16, .arr .u8 ((fk p q).take k++p.drop k))]) (fun k=>q.length-k) 0 (fun k=>rfl) (aA _) rfl ?_)
  intro k hk
  have hle:=nD (fk p q) p k (by rw[eF];omega) (by omega)
  refine aF X [5,17,18,19,20] rfl ?_
  refine af (az rfl ?_ ?_)<;>intro ck
  ·try simp only[bW]at ck
   have hs:=Nk p q k ck Xh
   refine aE (af (aG (aS X [5,6,7,17,18,19] rfl (by and_intros<;>first|exact⟨⟩| (intros;omega)) (mU X [5,17,18,19] rfl (by and_intros<;>first|exact⟨⟩| (intros;omega)|exact(qo _).1|exact(qo _).2) (cN X [5,17,18,19] rfl ?_)))))
   refine⟨k+1,by omega,by omega,?_⟩
   rw[cX _ k rfl (by omega),hs]
   try rfl
  ·try simp only[bW]at ck
   exact bn (aF X [4] rfl (ay (ah rfl ⟨by rw[Nl p q k ck Xh hk],⟨⟩⟩)))
theorem mw(a b:List UInt8)(ha:a.length≤1048576)(hb:b.length≤1048576):So 241 [.a (.sl .u8 a), .a (.sl .u8 b)] [.a (.sl .u8 (fk a b))]:=by
 refine aD X call241 func241 ntmps241 rfl rfl ?_
 intro zb
 refine aF X [0,1] rfl (aS X [0,1,5] rfl (by and_intros<;>first|exact⟨⟩|exact rfl) (af (aF X [0,1,5,6] rfl ?_)))
 refine aG (aV (fun k=>k≤max a.length b.length) (fun k:Nat=> [(6, .one ((aL k)))]) (fun k=> [(8, .arr .u8 ((fk a b).take k))]) (fun k=>max a.length b.length-k) 0 (fun k=>rfl) (aA _) rfl ?_)
 intro k hk
 have hle:=ct (fk a b) k
 refine af (aF X [0,1,5,6,18] rfl ?_)
 refine az rfl ?_ ?_<;>intro hb0
 ·try simp only[bW]at hb0
  refine aE (af (aG (aF X [0,1,5,6,7] rfl (af (aF X [0,1,5,6,7,24] rfl ?_)))))
  refine az rfl ?_ ?_<;>intro ck
  ·try simp only[bW]at ck
   refine mU X [0,1,5,6,7] rfl (by and_intros<;>first|exact⟨⟩| (intros;omega)) (af (aF X [0,1,5,6,7,32] rfl ?_))
   refine az rfl ?_ ?_<;>intro dS
   ·try simp only[bW]at dS
    have hs:=aey a b k ck dS
    refine mU X [0,1,5,6,7] rfl (by and_intros<;>first|exact⟨⟩| (intros;omega)) (bE X [(42,8)] [] [0,1,5,6] [] rfl (by and_intros<;>first|exact⟨⟩|exact rfl|exact(qo _).1|exact(qo _).2| (simp only[gl,maxLen,lens];omega)) (cN X [0,1,5,6] rfl ?_))
    refine⟨k+1,by omega,by omega,?_⟩
    rw[cX _ k rfl (by omega),hs]
    try rfl
   ·try simp only[bW]at dS
    have hs:=ag4 a b k ck dS
    refine aE (bE X [(42,8)] [] [0,1,5,6] [] rfl (by and_intros<;>first|exact⟨⟩| (intros;omega)|exact rfl|exact(PV _).2| (simp only[gl,maxLen,lens];omega)) (cN X [0,1,5,6] rfl ?_))
    refine⟨k+1,by omega,by omega,?_⟩
    rw[cX _ k rfl (by omega),hs]
    try rfl
  ·try simp only[bW]at ck
   refine aE (af (aF X [0,1,5,6,7,32] rfl ?_))
   refine az rfl ?_ ?_<;>intro dS
   ·try simp only[bW]at dS
    have hs:=ag5 a b k ck dS
    refine mU X [0,1,5,6,7] rfl (by and_intros<;>first|exact⟨⟩| (intros;omega)) (bE X [(42,8)] [] [0,1,5,6] [] rfl (by and_intros<;>first|exact⟨⟩|exact rfl|exact(qo _).1|exact(qo _).2| (simp only[gl,maxLen,lens];omega)) (cN X [0,1,5,6] rfl ?_))
    refine⟨k+1,by omega,by omega,?_⟩
    rw[cX _ k rfl (by omega),hs]
    try rfl
   ·try simp only[bW]at dS
    omega
 ·try simp only[bW]at hb0
  exact bn (aF X [4] rfl (ay (ah rfl ⟨by rw[aB (by rw[eF];omega)],⟨⟩⟩)))
theorem oM(l:List (List UInt8))(hs0:ga aR l≤1048576):So 212 [.a (.sl (.sl .u8) l)] [.a (.sl (.sl .u8) l)]:=by
 refine aD X call212 func212 ntmps212 rfl rfl ?_
 intro zb
 have oc:l.length≤1048576:=gd hs0
 refine aF X [0] rfl (aS X [0,3] rfl (by and_intros<;>first|exact⟨⟩|exact rfl) (af (aF X [3,7,8,9] rfl ?_)))
 refine aG (aV (fun k=>k≤l.length) (fun k:Nat=> [(9, .one ((aL k)))]) (fun k=> [(6, .arr (.sl .u8) (l.take k))]) (fun k=>l.length-k) 0 (fun k=>rfl) (aA _) rfl ?_)
 intro k hk
 have hle:=ct l k
 refine aF X [3,7,8,9,10] rfl ?_
 refine af (az rfl ?_ ?_)<;>intro hb0
 ·try simp only[bW]at hb0
  have hs:=cI l k (aO (.sl .u8)) hb0
  have hel:=Xg hs0 k hb0
  refine aE (af (aG (aS X [3,5,7,8,9] rfl (by and_intros<;>first|exact⟨⟩| (intros;omega)) (bE X [(17,6)] [(15,⟨true,[.a (.sl .u8 _)]⟩)] [3,7,8,9] [] rfl (by(with_reducible and_intros)<;>first|exact⟨⟩|exact(ez _ (by first|assumption|omega| (simp;done)| (simp;omega)))|exact rfl| (simp only[gl,maxLen,lens];omega)) (cN X [3,7,8,9] rfl ?_)))))
  refine⟨k+1,by omega,by omega,?_⟩
  rw[cX _ k rfl (by omega),hs]
  try rfl
 ·try simp only[bW]at hb0
  exact bn (aF X [2] rfl (ay (ah rfl ⟨by rw[aB hb0],⟨⟩⟩)))
theorem tK(l:List (List UInt8))(hs0:ga aR l≤1048576):So 93 [.a (.sl (.sl .u8) l)] [.a (.sl (.sl .u8) l)]:=by
 refine aD X call93 func93 ntmps93 rfl rfl ?_
 intro zb
 have oc:l.length≤1048576:=gd hs0
 refine aF X [0] rfl (aS X [0,3] rfl (by and_intros<;>first|exact⟨⟩|exact rfl) (af (aF X [0,3,4] rfl ?_)))
 refine aG (aV (fun k=>k≤l.length) (fun k:Nat=> [(4, .one ((aL k)))]) (fun k=> [(5, .arr (.sl .u8) (l.take k))]) (fun k=>l.length-k) 0 (fun k=>rfl) (aA _) rfl ?_)
 intro k hk
 have hle:=ct l k
 refine af (aF X [0,3,4,9] rfl ?_)
 refine az rfl ?_ ?_<;>intro hb0
 ·try simp only[bW]at hb0
  have hs:=cI l k (aO (.sl .u8)) hb0
  have hel:=Xg hs0 k hb0
  refine aE (af (aG (bE X [(18,13),(20,5)] [] [0,3,4] [] rfl (by and_intros<;>first|exact⟨⟩| (intros;omega)|exact rfl| (simp only[gl,maxLen,lens];omega)) (cN X [0,3,4] rfl ?_))))
  refine⟨k+1,by omega,by omega,?_⟩
  rw[cX _ k rfl (by omega),hs]
  try rfl
 ·try simp only[bW]at hb0
  exact bn (aF X [2] rfl (ay (ah rfl ⟨by rw[aB hb0],⟨⟩⟩)))
theorem G7(s:Int)(l:List UInt8)(hl:l.length≤1048576):So 184 [aL s, .a (.sl .u8 l)] [.a (.sl .u8 (kQ s l))]:=by
 refine aD X call184 func184 ntmps184 rfl rfl ?_
 intro zb
 refine aF X [0,1] rfl (aQ X [] [(8,⟨true,[.a (.sl .u8 _)]⟩)] [0,5] [] rfl (by(with_reducible and_intros)<;>first|exact⟨⟩|exact(ez _ (by first|assumption|omega| (simp;done)| (simp;omega)))) (af (aF X [0,5,10,11] rfl ?_)))
 refine aG (aV (fun k=>k≤l.length) (fun k:Nat=> [(11, .one ((aL k)))]) (fun k=> [(8, .arr .u8 ((kQ s l).take k++l.drop k))]) (fun k=>l.length-k) 0 (fun k=>rfl) (aA _) rfl ?_)
 intro k hk
 have hle:=nD (kQ s l) l k (gz s l) hk
 refine aF X [0,5,10,11,12] rfl ?_
 refine af (az rfl ?_ ?_)<;>intro hb0
 ·try simp only[bW]at hb0
  have hs:=T8 s l k hb0
  refine aE (af (aG (aF X [0,5,6,10,11] rfl (aZ X [] [(21,⟨false,[aL _]⟩)] [0,5,10,11] [] 4095 0 MO (by kernel_rfl) rfl (by kernel_rfl) (by(repeat' with_reducible first|exact bF|refine bS ?_ ?_|apply aT)<;>first|exact(cV _ _ (by first|assumption|omega| (simp;done)| (simp;omega)))| (intros;omega)|exact⟨rfl,cB _ (by decide)⟩|exact(qo _).1|exact(qo _).2) ?_))))
  refine cN X [0,5,10,11] rfl ?_
  refine⟨k+1,by omega,by omega,?_⟩
  rw[cX _ k rfl (by omega),hs]
  try rfl
 ·try simp only[bW]at hb0
  exact bn (aF X [4] rfl (ay (ah rfl ⟨by rw[qJ _ _ _ (gz s l) hb0],⟨⟩⟩)))
theorem G8(s:Int)(l:List UInt8)(hl:l.length≤1048576):So 256 [aL s, .a (.sl .u8 l)] [.a (.sl .u8 (decr s l))]:=by
 refine aD X call256 func256 ntmps256 rfl rfl ?_
 intro zb
 refine aF X [0,1] rfl (aQ X [] [(8,⟨true,[.a (.sl .u8 _)]⟩)] [0,5] [] rfl (by(with_reducible and_intros)<;>first|exact⟨⟩|exact(ez _ (by first|assumption|omega| (simp;done)| (simp;omega)))) (af (aF X [0,5,10,11] rfl ?_)))
 refine aG (aV (fun k=>k≤l.length) (fun k:Nat=> [(11, .one ((aL k)))]) (fun k=> [(8, .arr .u8 ((decr s l).take k++l.drop k))]) (fun k=>l.length-k) 0 (fun k=>rfl) (aA _) rfl ?_)
 intro k hk
 have hle:=nD (decr s l) l k (pU s l) hk
 refine aF X [0,5,10,11,12] rfl ?_
 refine af (az rfl ?_ ?_)<;>intro hb0
 ·try simp only[bW]at hb0
  have hs:=Ua s l k hb0
  refine aE (af (aG (aF X [0,5,6,10,11] rfl (aZ X [] [(21,⟨false,[aL _]⟩)] [0,5,10,11] [] 4095 0 MO (by kernel_rfl) rfl (by kernel_rfl) (by(repeat' with_reducible first|exact bF|refine bS ?_ ?_|apply aT)<;>first|exact(cV _ _ (by first|assumption|omega| (simp;done)| (simp;omega)))| (intros;omega)|exact⟨rfl,cB _ (by decide)⟩|exact(qo _).1|exact(qo _).2) ?_))))
  refine cN X [0,5,10,11] rfl ?_
  refine⟨k+1,by omega,by omega,?_⟩
  rw[cX _ k rfl (by omega),hs]
  try rfl
 ·try simp only[bW]at hb0
  exact bn (aF X [4] rfl (ay (ah rfl ⟨by rw[qJ _ _ _ (pU s l) hb0],⟨⟩⟩)))
theorem kA(k:Int):So 68 [aL k] [bl (iC k)]:=by
 refine aD X call68 func68 ntmps68 rfl rfl ?_
 intro zb
 exact aF X [0] rfl (aQ X [] [(4,⟨false,[bl _]⟩)] [2] [] rfl (by(with_reducible and_intros)<;>first|exact⟨⟩|exact(bB _ _ _)) (ay (ah rfl ⟨rfl,⟨⟩⟩)))
theorem qw(p:Plain):So 183 [.agg (lz p)] [bl (jz p)]:=by
 refine aD X call183 func183 ntmps183 rfl rfl ?_
 intro zb
 exact aF X [1] rfl (aQ X [] [(5,⟨false,[bl _]⟩)] [2] [] rfl (by(with_reducible and_intros)<;>first|exact⟨⟩|exact(bB _ _ _)) (ay (ah rfl ⟨by unfold jz;cases inr p.kind 0 3<;>rfl,⟨⟩⟩)))
theorem C5(key c:Int)(l:List UInt8)(hl:l.length≤65536):So 232 [aL key,aL c, .a (.sl .u8 l)] [aL (kR key c l)]:=by
 refine aD X call232 func232 ntmps232 rfl rfl ?_
 intro zb
 refine aF X [0,1,2] rfl (aS X [0,2,7] rfl (by and_intros<;>first|exact⟨⟩|exact rfl) (af (aF X [0,7,12,13,14] rfl ?_)))
 refine aG (aV (fun k=>k≤l.length) (fun k:Nat=> [(14, .one ((aL k)))]) (fun k=> [(11, .arr .int ([71,c]++(l.take k).map (fun x=>(x.toNat:Int))))]) (fun k=>l.length-k) 0 (fun k=>rfl) (aA _) rfl ?_)
 intro k hk
 refine aF X [0,7,12,13,14,15] rfl ?_
 refine af (az rfl ?_ ?_)<;>intro hb0
 ·try simp only[bW]at hb0
  have hs:=RL l c k hb0
  refine aE (af (aG (aS X [0,7,9,12,13,14] rfl (by and_intros<;>first|exact⟨⟩| (intros;omega)) (bE X [(22,11)] [] [0,7,12,13,14] [] rfl (by and_intros<;>first|exact⟨⟩|exact rfl| (simp only[gl,maxLen,lens];omega)) (cN X [0,7,12,13,14] rfl ?_)))))
  refine⟨k+1,by omega,by omega,?_⟩
  rw[cX _ k rfl (by omega),hs]
  try rfl
 ·try simp only[bW]at hb0
  exact bn (aQ X [] [(26,⟨false,[aL _]⟩)] [6] [] rfl (by(with_reducible and_intros)<;>first|exact⟨⟩|exact(cV _ _ (by first|assumption|omega| (simp;done)| (simp;omega)))) (ay (ah rfl ⟨by rw[aB hb0];rfl,⟨⟩⟩)))
theorem nE(key r d n:Int):So 72 [aL key,aL r,aL d,aL n] [aL (iw key r d n)]:=by
 refine aD X call72 func72 ntmps72 rfl rfl ?_
 intro zb
 refine aF X [0,1,2,3] rfl (af (aQ X [] [(10,⟨false,[bl _]⟩),(14,⟨false,[bl _]⟩)] [0,1,2,3,16] [] rfl (by(with_reducible and_intros)<;>first|exact⟨⟩|exact(bB _ _ _)|exact fun _=>(bB _ _ _)) ?_))
 refine az rfl ?_ ?_<;>intro hb0
 ·try simp only[bW]at hb0
  exact aF X [8] rfl (ay (ah rfl ⟨by rw[iw,if_neg (by omega)],⟨⟩⟩))
 ·try simp only[bW]at hb0
  have hcs:=xu (kh key [79,r,d]) 0
  refine aE (aQ X [] [(21,⟨false,[aL _]⟩),(22,⟨false,[aL _]⟩)] [8] [] rfl (by(repeat' with_reducible first|exact bF|refine bS ?_ ?_|apply aT);(iterate 2 all_goals try first|exact(cV _ _ (by first|assumption|omega| (simp;done)| (simp;omega)))|exact(oK _ _));all_goals first| (intros;omega)|exact⟨rfl,cB _ (by decide)⟩) ?_)
  exact ay (ah rfl ⟨by rw[iw,if_pos (by omega),gh hcs.1],⟨⟩⟩)
theorem EW(s r n:Int):So 75 [aL s,aL r,aL n] [aL (Am s r n)]:=by
 refine aD X call75 func75 ntmps75 rfl rfl ?_
 intro zb
 refine aF X [0,1,2] rfl (af (aQ X [] [(8,⟨false,[bl _]⟩)] [0,1,2,9] [] rfl (by(with_reducible and_intros)<;>first|exact⟨⟩|exact(bB _ _ _)) ?_))
 refine az rfl ?_ ?_<;>intro hb0
 ·try simp only[bW]at hb0
  exact aF X [6] rfl (ay (ah rfl ⟨by rw[Am,if_neg (by omega)],⟨⟩⟩))
 ·try simp only[bW]at hb0
  have hcs:=xu (kh s [157,r]) 0
  refine aE (aQ X [] [(13,⟨false,[aL _]⟩),(14,⟨false,[aL _]⟩)] [6] [] rfl (by(repeat' with_reducible first|exact bF|refine bS ?_ ?_|apply aT);(iterate 2 all_goals try first|exact(cV _ _ (by first|assumption|omega| (simp;done)| (simp;omega)))|exact(oK _ _));all_goals first| (intros;omega)|exact⟨rfl,cB _ (by decide)⟩) ?_)
  exact ay (ah rfl ⟨by rw[Am,if_pos (by omega),gh hcs.1],⟨⟩⟩)
theorem C6(s:Int):So 76 [aL s] [.a (.sl .u8 (cover s))]:=by
 refine aD X call76 func76 ntmps76 rfl rfl ?_
 intro zb
 refine aF X [0] rfl (aQ X [] [(5,⟨false,[aL _]⟩),(6,⟨true,[.a (.sl .u8 _)]⟩)] [2] [] rfl (by(repeat' with_reducible first|exact bF|refine bS ?_ ?_|apply aT);(iterate 2 all_goals try first|exact(cV _ _ (by first|assumption|omega| (simp;done)| (simp;omega)))|exact(mH _ _ (by first|assumption|omega| (simp;done)| (simp;omega)) (by first|assumption|omega| (simp;done)| (simp;omega))));all_goals first|exact⟨rfl,cB _ (by decide)⟩) ?_)
 exact ay (ah rfl ⟨rfl,⟨⟩⟩)
theorem G9(s:Int)(l:List UInt8)(hl:l.length≤1048576):So 267 [aL s, .a (.sl .u8 l)] [.a (.sl .u8 (kQ s l))]:=by
 refine aD X call267 func267 ntmps267 rfl rfl ?_
 intro zb
 refine aF X [0,1] rfl (aS X [0,1,5] rfl (by and_intros<;>first|exact⟨⟩|exact rfl) (af (aF X [0,1,5,6] rfl ?_)))
 refine aG (aV (fun k=>k≤l.length) (fun k:Nat=> [(6, .one ((aL k)))]) (fun k=> [(7, .arr .u8 ((kQ s l).take k))]) (fun k=>l.length-k) 0 (fun k=>rfl) (aA _) rfl ?_)
 intro k hk
 have hle:=ct (kQ s l) k
 refine af (aF X [0,1,5,6,11] rfl ?_)
 refine az rfl ?_ ?_<;>intro hb0
 ·try simp only[bW]at hb0
  have hs:=T9 s l k hb0
  refine aE (af (aG (aZ X [(29,7)] [(23,⟨false,[aL _]⟩)] [0,1,5,6] [] 32767 0 MO (by kernel_rfl) rfl (by kernel_rfl) (by(repeat' with_reducible first|exact bF|refine bS ?_ ?_|apply aT)<;>first|exact(cC _ _ (by first|assumption|omega| (simp;done)| (simp;omega)))| (intros;omega)|exact rfl|exact⟨rfl,cB _ (by decide)⟩|exact(qo _).1|exact(qo _).2| (simp only[gl,maxLen,lens];omega)) ?_)))
  refine cN X [0,1,5,6] rfl ?_
  refine⟨k+1,by omega,by omega,?_⟩
  rw[cX _ k rfl (by omega),hs]
  try rfl
 ·try simp only[bW]at hb0
  exact bn (aF X [4] rfl (ay (ah rfl ⟨by rw[aB (by rw[gz];exact hb0)],⟨⟩⟩)))
theorem He(s:Int)(l:List UInt8)(hl:l.length≤1048576):So 262 [aL s, .a (.sl .u8 l)] [.a (.sl .u8 (decr s l))]:=by
 refine aD X call262 func262 ntmps262 rfl rfl ?_
 intro zb
 refine aF X [0,1] rfl (aS X [0,1,5] rfl (by and_intros<;>first|exact⟨⟩|exact rfl) (af (aF X [0,1,5,6] rfl ?_)))
 refine aG (aV (fun k=>k≤l.length) (fun k:Nat=> [(6, .one ((aL k)))]) (fun k=> [(7, .arr .u8 ((decr s l).take k))]) (fun k=>l.length-k) 0 (fun k=>rfl) (aA _) rfl ?_)
 intro k hk
 have hle:=ct (decr s l) k
 refine af (aF X [0,1,5,6,11] rfl ?_)
 refine az rfl ?_ ?_<;>intro hb0
 ·try simp only[bW]at hb0
  have hs:=Ub s l k hb0
  refine aE (af (aG (aZ X [(29,7)] [(23,⟨false,[aL _]⟩),(26,⟨false,[aL _]⟩)] [0,1,5,6] [] 32767 0 MO (by kernel_rfl) rfl (by kernel_rfl) (by(repeat' with_reducible first|exact bF|refine bS ?_ ?_|apply aT);(iterate 2 all_goals try first|exact(cC _ _ (by first|assumption|omega| (simp;done)| (simp;omega)))|exact(G4 _ _ (by first|assumption|omega| (simp;done)| (simp;omega)) (by first|assumption|omega| (simp;done)| (simp;omega))));all_goals first| (intros;omega)|exact rfl|exact⟨rfl,cB _ (by decide)⟩|exact(qo _).1|exact(qo _).2| (simp only[gl,maxLen,lens];omega)) ?_)))
  refine cN X [0,1,5,6] rfl ?_
  refine⟨k+1,by omega,by omega,?_⟩
  rw[cX _ k rfl (by omega),hs]
  try rfl
 ·try simp only[bW]at hb0
  exact bn (aF X [4] rfl (ay (ah rfl ⟨by rw[aB (by rw[pU];exact hb0)],⟨⟩⟩)))
theorem kB(k:Int):So 54 [aL k] [bl (iC k)]:=by
 refine aD X call54 func54 ntmps54 rfl rfl ?_
 intro zb
 exact aF X [0] rfl (aQ X [] [(4,⟨false,[bl _]⟩)] [2] [] rfl (by(with_reducible and_intros)<;>first|exact⟨⟩|exact(bU _ _ _)) (ay (ah rfl ⟨rfl,⟨⟩⟩)))
theorem zm(p:Plain):So 266 [.agg (lz p)] [bl (jz p)]:=by
 refine aD X call266 func266 ntmps266 rfl rfl ?_
 intro zb
 exact aF X [1] rfl (aQ X [] [(5,⟨false,[bl _]⟩)] [2] [] rfl (by(with_reducible and_intros)<;>first|exact⟨⟩|exact(bU _ _ _)) (ay (ah rfl ⟨by unfold jz;cases inr p.kind 0 3<;>rfl,⟨⟩⟩)))
theorem uh(key c:Int)(l:List UInt8)(hl:l.length≤65536):So 261 [aL key,aL c, .a (.sl .u8 l)] [aL (kR key c l)]:=by
 refine aD X call261 func261 ntmps261 rfl rfl ?_
 intro zb
 refine aF X [0,1,2] rfl (aS X [0,2,7] rfl (by and_intros<;>first|exact⟨⟩|exact rfl) (af (aF X [0,2,7,8] rfl ?_)))
 refine aG (aV (fun k=>k≤l.length) (fun k:Nat=> [(8, .one ((aL k)))]) (fun k=> [(10, .arr .int ([71,c]++(l.take k).map (fun x=>(x.toNat:Int))))]) (fun k=>l.length-k) 0 (fun k=>rfl) (aA _) rfl ?_)
 intro k hk
 refine af (aF X [0,2,7,8,14] rfl ?_)
 refine az rfl ?_ ?_<;>intro hb0
 ·try simp only[bW]at hb0
  have hs:=RL l c k hb0
  refine aE (af (aG (bE X [(24,10)] [] [0,2,7,8] [] rfl (by and_intros<;>first|exact⟨⟩| (intros;omega)|exact rfl| (simp only[gl,maxLen,lens];omega)) (cN X [0,2,7,8] rfl ?_))))
  refine⟨k+1,by omega,by omega,?_⟩
  rw[cX _ k rfl (by omega),hs]
  try rfl
 ·try simp only[bW]at hb0
  exact bn (aQ X [] [(27,⟨false,[aL _]⟩)] [6] [] rfl (by(with_reducible and_intros)<;>first|exact⟨⟩|exact(cC _ _ (by first|assumption|omega| (simp;done)| (simp;omega)))) (ay (ah rfl ⟨by rw[aB hb0];rfl,⟨⟩⟩)))
theorem nF(key r d n:Int):So 197 [aL key,aL r,aL d,aL n] [aL (iw key r d n)]:=by
 refine aD X call197 func197 ntmps197 rfl rfl ?_
 intro zb
 refine aF X [0,1,2,3] rfl (af (aQ X [] [(10,⟨false,[bl _]⟩),(14,⟨false,[bl _]⟩)] [0,1,2,3,16] [] rfl (by(with_reducible and_intros)<;>first|exact⟨⟩|exact(bU _ _ _)|exact fun _=>(bU _ _ _)) ?_))
 refine az rfl ?_ ?_<;>intro hb0
 ·try simp only[bW]at hb0
  exact aF X [8] rfl (ay (ah rfl ⟨by rw[iw,if_neg (by omega)],⟨⟩⟩))
 ·try simp only[bW]at hb0
  have hcs:=xu (kh key [79,r,d]) 0
  refine aE (aQ X [] [(21,⟨false,[aL _]⟩),(22,⟨false,[aL _]⟩)] [8] [] rfl (by(repeat' with_reducible first|exact bF|refine bS ?_ ?_|apply aT);(iterate 2 all_goals try first|exact(cC _ _ (by first|assumption|omega| (simp;done)| (simp;omega)))|exact(oL _ _));all_goals first| (intros;omega)|exact⟨rfl,cB _ (by decide)⟩) ?_)
  exact ay (ah rfl ⟨by rw[iw,if_pos (by omega),gh hcs.1],⟨⟩⟩)
theorem EX(s r n:Int):So 234 [aL s,aL r,aL n] [aL (Am s r n)]:=by
 refine aD X call234 func234 ntmps234 rfl rfl ?_
 intro zb
 refine aF X [0,1,2] rfl (af (aQ X [] [(8,⟨false,[bl _]⟩)] [0,1,2,9] [] rfl (by(with_reducible and_intros)<;>first|exact⟨⟩|exact(bU _ _ _)) ?_))
 refine az rfl ?_ ?_<;>intro hb0
 ·try simp only[bW]at hb0
  exact aF X [6] rfl (ay (ah rfl ⟨by rw[Am,if_neg (by omega)],⟨⟩⟩))
 ·try simp only[bW]at hb0
  have hcs:=xu (kh s [157,r]) 0
  refine aE (aQ X [] [(13,⟨false,[aL _]⟩),(14,⟨false,[aL _]⟩)] [6] [] rfl (by(repeat' with_reducible first|exact bF|refine bS ?_ ?_|apply aT);(iterate 2 all_goals try first|exact(cC _ _ (by first|assumption|omega| (simp;done)| (simp;omega)))|exact(oL _ _));all_goals first| (intros;omega)|exact⟨rfl,cB _ (by decide)⟩) ?_)
  exact ay (ah rfl ⟨by rw[Am,if_pos (by omega),gh hcs.1],⟨⟩⟩)
theorem C7(s:Int):So 235 [aL s] [.a (.sl .u8 (cover s))]:=by
 refine aD X call235 func235 ntmps235 rfl rfl ?_
 intro zb
 refine aF X [0] rfl (aQ X [] [(5,⟨false,[aL _]⟩),(6,⟨true,[.a (.sl .u8 _)]⟩)] [2] [] rfl (by(repeat' with_reducible first|exact bF|refine bS ?_ ?_|apply aT);(iterate 2 all_goals try first|exact(cC _ _ (by first|assumption|omega| (simp;done)| (simp;omega)))|exact(mI _ _ (by first|assumption|omega| (simp;done)| (simp;omega)) (by first|assumption|omega| (simp;done)| (simp;omega))));all_goals first|exact⟨rfl,cB _ (by decide)⟩) ?_)
 exact ay (ah rfl ⟨rfl,⟨⟩⟩)
theorem xB(k c:Int):So 185 [aL k,aL c] [aL (nh k c)]:=by
 refine aD X call185 func185 ntmps185 rfl rfl ?_
 intro zb
 refine aF X [0,1] rfl (aQ X [] [(8,⟨false,[aL _]⟩),(9,⟨false,[aL _]⟩)] [4] [] rfl (by(repeat' with_reducible first|exact bF|refine bS ?_ ?_|apply aT);(iterate 2 all_goals try first|exact(cV _ _ (by first|assumption|omega| (simp;done)| (simp;omega)))|exact(vo _));all_goals first|exact⟨rfl,cB _ (by decide)⟩) ?_)
 exact ay (ah rfl ⟨rfl,⟨⟩⟩)
theorem lS(k c:Int):So 124 [aL k,aL c] [aL (mJ k c)]:=by
 refine aD X call124 func124 ntmps124 rfl rfl ?_
 intro zb
 refine aF X [0,1] rfl (aQ X [] [(8,⟨false,[aL _]⟩),(9,⟨false,[aL _]⟩)] [4] [] rfl (by(repeat' with_reducible first|exact bF|refine bS ?_ ?_|apply aT);(iterate 2 all_goals try first|exact(cV _ _ (by first|assumption|omega| (simp;done)| (simp;omega)))|exact(vo _));all_goals first|exact⟨rfl,cB _ (by decide)⟩) ?_)
 exact ay (ah rfl ⟨rfl,⟨⟩⟩)
theorem uj(k c:Int):So 263 [aL k,aL c] [aL (nh k c)]:=by
 refine aD X call263 func263 ntmps263 rfl rfl ?_
 intro zb
 refine aF X [0,1] rfl (aQ X [] [(8,⟨false,[aL _]⟩),(9,⟨false,[aL _]⟩)] [4] [] rfl (by(repeat' with_reducible first|exact bF|refine bS ?_ ?_|apply aT);(iterate 2 all_goals try first|exact(cC _ _ (by first|assumption|omega| (simp;done)| (simp;omega)))|exact(rM _ _));all_goals first|exact⟨rfl,cB _ (by decide)⟩) ?_)
 exact ay (ah rfl ⟨by rw[Fv (fW _ _).1];rfl,⟨⟩⟩)
theorem lT(k c:Int):So 247 [aL k,aL c] [aL (mJ k c)]:=by
 refine aD X call247 func247 ntmps247 rfl rfl ?_
 intro zb
 refine aF X [0,1] rfl (aQ X [] [(8,⟨false,[aL _]⟩),(9,⟨false,[aL _]⟩)] [4] [] rfl (by(repeat' with_reducible first|exact bF|refine bS ?_ ?_|apply aT);(iterate 2 all_goals try first|exact(cC _ _ (by first|assumption|omega| (simp;done)| (simp;omega)))|exact(rM _ _));all_goals first|exact⟨rfl,cB _ (by decide)⟩) ?_)
 exact ay (ah rfl ⟨by rw[Fv (fW _ _).1];rfl,⟨⟩⟩)
theorem sX(k c:Int)(l:List UInt8)(hl:l.length≤65536):So 186 [aL k,aL c, .a (.sl .u8 l)] [.a (.sl .u8 (four (kR k c l)))]:=by
 refine aD X call186 func186 ntmps186 rfl rfl ?_
 intro zb
 exact aF X [0,1,2] rfl (aQ X [] [(11,⟨false,[aL _]⟩)] [7] [] rfl (by(with_reducible and_intros)<;>first|exact⟨⟩|exact(C5 _ _ _ (by first|assumption|omega| (simp;done)| (simp;omega)))) (aS X [6] rfl (by and_intros<;>first|exact⟨⟩| (intros;omega)|exact rfl|exact(qo _).1|exact(qo _).2) (ay (ah rfl ⟨RM _,⟨⟩⟩))))
end
section
set_option maxRecDepth 100000
theorem qp(l:List (List UInt8))(f:FuncId)(p:(List UInt8)→Bool)(hf: ∀b,So f [.a (.sl .u8 b)] [bl (p b)]):So 182 [.a (.sl (.sl .u8) l), .a (.lit (.func (.func f) #[] #[]))] [aL (fidx p l)]:=by
 refine aD X call182 func182 ntmps182 rfl rfl ?_
 intro zb
 refine eO 0 rfl (fun oc=>(aF X [0,1] rfl (af (aF X [0,1,7,8] rfl ?_))))
 refine aG (aV (fun k=>k≤l.length∧(l.take k).any p=false) (fun k:Nat=> [(8, .one ((aL k)))]) (fun k=> []) (fun k=>l.length-k) 0 (fun k=>rfl) ⟨aA _,rfl⟩ rfl ?_)
 rintro k ⟨hk,hall⟩
 refine aF X [0,1,7,8,9] rfl ?_
 refine af (az rfl ?_ ?_)<;>intro hb0
 ·try simp only[bW]at hb0
  refine aE (af (aG (aF X [0,1,5,7,8] rfl (aQ X [] [(16,⟨false,[bl (p (l.getD k (aO (.sl .u8))))]⟩)] [0,1,5,7,8,16] [] rfl (by(with_reducible and_intros)<;>first|exact⟨⟩|exact(hf _)| (intros;omega)) ?_))))
  refine az rfl ?_ ?_<;>intro ck
  ·exact aF X [4] rfl (ay (ah rfl ⟨by rw[BH (aO (.sl .u8)) hb0 hall ck],⟨⟩⟩))
  ·refine aE (cN X [0,1,7,8] rfl ?_)
   refine⟨k+1,⟨by omega,An (aO (.sl .u8)) hb0 hall ck⟩,by omega,?_⟩
   rw[cX _ k rfl (by omega)]
   try rfl
 ·try simp only[bW]at hb0
  exact bn (aF X [4] rfl (ay (ah rfl ⟨by rw[JE (by rw[←hall,aB hb0])],⟨⟩⟩)))
theorem gw(l:List (List UInt8))(f:FuncId)(p:(List UInt8)→Bool)(hf: ∀b,So f [.a (.sl .u8 b)] [bl (p b)]):So 121 [.a (.sl (.sl .u8) l), .a (.lit (.func (.func f) #[] #[]))] [bl (l.any p)]:=by
 refine aD X call121 func121 ntmps121 rfl rfl ?_
 intro zb
 exact aF X [0,1] rfl (aQ X [] [(7,⟨false,[aL (fidx p l)]⟩)] [4] [] rfl (by(with_reducible and_intros)<;>first|exact⟨⟩|exact(qp l f p hf)) (ay (ah rfl ⟨congrArg dO (RN p l),⟨⟩⟩)))
theorem rQ(l:List Int)(f:FuncId)(p:Int→Bool)(hf: ∀b,So f [aL b] [bl (p b)]):So 265 [.a (.sl .int l), .a (.lit (.func (.func f) #[] #[]))] [aL (fidx p l)]:=by
 refine aD X call265 func265 ntmps265 rfl rfl ?_
 intro zb
 refine eO 0 rfl (fun oc=>(aF X [0,1] rfl (af (aF X [0,1,7,8] rfl ?_))))
 refine aG (aV (fun k=>k≤l.length∧(l.take k).any p=false) (fun k:Nat=> [(8, .one ((aL k)))]) (fun k=> []) (fun k=>l.length-k) 0 (fun k=>rfl) ⟨aA _,rfl⟩ rfl ?_)
 rintro k ⟨hk,hall⟩
 refine aF X [0,1,7,8,9] rfl ?_
 refine af (az rfl ?_ ?_)<;>intro hb0
 ·try simp only[bW]at hb0
  refine aE (af (aG (aF X [0,1,5,7,8] rfl (aQ X [] [(16,⟨false,[bl (p (l.getD k (aO .int)))]⟩)] [0,1,5,7,8,16] [] rfl (by(with_reducible and_intros)<;>first|exact⟨⟩|exact(hf _)| (intros;omega)) ?_))))
  refine az rfl ?_ ?_<;>intro ck
  ·exact aF X [4] rfl (ay (ah rfl ⟨by rw[BH (aO .int) hb0 hall ck],⟨⟩⟩))
  ·refine aE (cN X [0,1,7,8] rfl ?_)
   refine⟨k+1,⟨by omega,An (aO .int) hb0 hall ck⟩,by omega,?_⟩
   rw[cX _ k rfl (by omega)]
   try rfl
 ·try simp only[bW]at hb0
  exact bn (aF X [4] rfl (ay (ah rfl ⟨by rw[JE (by rw[←hall,aB hb0])],⟨⟩⟩)))
theorem pW(l:List Int)(f:FuncId)(p:Int→Bool)(hf: ∀b,So f [aL b] [bl (p b)]):So 257 [.a (.sl .int l), .a (.lit (.func (.func f) #[] #[]))] [bl (l.any p)]:=by
 refine aD X call257 func257 ntmps257 rfl rfl ?_
 intro zb
 exact aF X [0,1] rfl (aQ X [] [(7,⟨false,[aL (fidx p l)]⟩)] [4] [] rfl (by(with_reducible and_intros)<;>first|exact⟨⟩|exact(rQ l f p hf)) (ay (ah rfl ⟨congrArg dO (RN p l),⟨⟩⟩)))
theorem tL(b:List UInt8):So 180 [.a (.sl .u8 b)] [bl (!decide ((b.length:Int)=24))]:=by
 refine aD X call180 func180 ntmps180 rfl rfl ?_
 intro zb
 exact aF X [0] rfl (aF X [2] rfl (ay (ah rfl ⟨(congrArg dO (by simp only[bD]<;>first|rfl|ac_rfl)),⟨⟩⟩)))
theorem fF(d:DB):So 117 [.agg (bJ d)] [bl (eB d)]:=by
 refine aD X call117 func117 ntmps117 rfl rfl ?_
 intro zb
 exact aF X [1] rfl (aQ X [] [(10,⟨false,[bl (d.rows.any fun b=> !decide ((b.length:Int)=24))]⟩)] [2] [] rfl (by(with_reducible and_intros)<;>first|exact⟨⟩|exact fun _=>(gw _ _ _ tL)) (ay (ah rfl ⟨by unfold eB;rw[xC];by_cases h:(d.rows.length:Int)≤64<;>simp[h],⟨⟩⟩)))
theorem eR(d:DB):So 96 [.agg (bJ d)] [bl (eB d)]:=by
 refine aD X call96 func96 ntmps96 rfl rfl ?_
 intro zb
 refine dn 0 0 rfl rfl (fun oc=>(aF X [1] rfl (af (aF X [1,3] rfl ?_))))
 refine aG (aV (fun k=>k≤d.rows.length∧(d.rows.take k).all (fun r=>decide ((r.length:Int)=24))=true) (fun k:Nat=> [(3, .one ((aL k)))]) (fun k=> []) (fun k=>d.rows.length-k) 0 (fun k=>rfl) ⟨aA _,rfl⟩ rfl ?_)
 rintro k ⟨hk,hall⟩
 refine af (aF X [1,3,8] rfl ?_)
 refine az rfl ?_ ?_<;>intro hb0
 ·try simp only[bW]at hb0
  refine aE (af (aG (aS X [1,3,17] rfl (by and_intros<;>first|exact⟨⟩| (intros;omega)) ?_)))
  refine az rfl ?_ ?_<;>intro ck
  ·try simp only[bW]at ck
   exact aF X [2] rfl (ay (ah rfl ⟨by unfold eB;rw[PW _ _ (aO (.sl .u8)) k hb0 (by simpa using ck)];simp,⟨⟩⟩))
  ·try simp only[bW]at ck
   refine aE (cN X [1,3] rfl ?_)
   refine⟨k+1,⟨by omega,by rw[G2 _ _ _ (aO (.sl .u8)) hb0,hall];simpa using ck⟩,by omega,?_⟩
   rw[cX _ k rfl (by omega)]
   try rfl
 ·try simp only[bW]at hb0
  exact bn (aF X [2] rfl (ay (ah rfl ⟨by rw[aB hb0]at hall;unfold eB;rw[hall];simp,⟨⟩⟩)))
theorem oN(a:mj):So 67 [.agg (fY a)] [aL (eC a)]:=by
 refine aD X call67 func67 ntmps67 rfl rfl ?_
 intro zb
 refine dn 0 1 rfl rfl (fun oc=>(aF X [1] rfl (af (aF X [1,6] rfl ?_))))
 refine az rfl ?_ ?_<;>intro hb0
 ·try simp only[bW]at hb0
  exact aF X [2] rfl (ay (ah rfl ⟨by rw[eC,if_pos (by omega)],⟨⟩⟩))
 ·try simp only[bW]at hb0
  exact aE (aS X [2] rfl (by and_intros<;>first|exact⟨⟩| ((try simp only[bW]at*);(simp(disch:=omega) only[dA]);omega)) (ay (ah rfl ⟨by rw[eC,if_neg (by omega),dA (by omega)];congr 4;omega,⟨⟩⟩)))
theorem oO(a:mj):So 53 [.agg (fY a)] [aL (eC a)]:=by
 refine aD X call53 func53 ntmps53 rfl rfl ?_
 intro zb
 refine dn 0 1 rfl rfl (fun oc=>(aF X [1] rfl (af (aF X [1,6] rfl ?_))))
 refine az rfl ?_ ?_<;>intro hb0
 ·try simp only[bW]at hb0
  exact aF X [2] rfl (ay (ah rfl ⟨by rw[eC,if_pos (by omega)],⟨⟩⟩))
 ·try simp only[bW]at hb0
  exact aE (aS X [2] rfl (by and_intros<;>first|exact⟨⟩| ((try simp only[bW]at*);(simp(disch:=omega) only[dA]);omega)) (ay (ah rfl ⟨by rw[eC,if_neg (by omega),dA (by omega)];congr 4;omega,⟨⟩⟩)))
theorem fm(s:cg):So 69 [.agg (dr s)] [bl (dL s)]:=by
 refine aD X call69 func69 ntmps69 rfl rfl ?_
 intro zb
 refine dn 0 3 rfl rfl (fun oc=>(aF X [1] rfl (af (aQ X [] [(7,⟨false,[bl (inr s.id 0 3)]⟩),(12,⟨false,[bl (inr s.rows 1 64)]⟩),(18,⟨false,[bl (inr s.behavior 0 3)]⟩),(24,⟨false,[bl (inr s.round 0 100000)]⟩)] [1,32] [] rfl (by(with_reducible and_intros);(iterate 4 all_goals try first|exact⟨⟩|exact(bB s.id 0 3)|exact fun _=>(bB s.rows 1 64)|exact fun _=>(bB s.behavior 0 3)|exact fun _=>(bB s.round 0 100000))) ?_))))
 refine az rfl ?_ ?_<;>intro hb0
 ·exact aF X [2] rfl (ay (ah rfl ⟨by rw[show dL s=false from ag6 hb0 (by simp only[zM,bD]<;>first|rfl|ac_rfl)],⟨⟩⟩))
 ·have hh:zM s=true:=dy hb0 (by simp only[zM,bD]<;>first|rfl|ac_rfl)
  refine aE (af (aF X [1,34,35,36] rfl ?_))
  refine aG (aV (fun k=>k≤s.received.length∧(bA k).all (rP s.rows s.received)=true) (fun k:Nat=> [(36, .one ((aL k)))]) (fun k=> []) (fun k=>s.received.length-k) 0 (fun k=>rfl) ⟨aA _,rfl⟩ rfl ?_)
  rintro k ⟨hk,hall⟩
  have hw:(an.wrap ((k:Int)-1)).toNat=k-1:=by rw[dA (by omega)];omega
  refine aF X [1,34,35,36,37] rfl ?_
  refine af (az rfl ?_ ?_)<;>intro ck
  ·try simp only[bW]at ck
   refine aE (af (aG (aS X [1,3,4,34,35,36] rfl (by and_intros<;>first|exact⟨⟩| (intros;omega)) (af (aZ X [] [(43,⟨false,[bl (inr ((s.received.getD k (aO .bC)).client) 0 7)]⟩),(64,⟨false,[bl (eB ((s.received.getD k (aO .bC)).share))]⟩)] [1,34,35,36,75] [] 34359738367 0 MO (by kernel_rfl) rfl (by kernel_rfl) (by(with_reducible and_intros);(iterate 2 all_goals try first|exact⟨⟩|exact(bB ((s.received.getD k (aO .bC)).client) 0 7)|exact fun _=>(fF ((s.received.getD k (aO .bC)).share)));all_goals first| ((intro h1;first| (intro h2;first| (intro h3;refine aT ?_ ?_)|refine aT ?_ ?_)|refine aT ?_ ?_)<;>first|omega| ((try simp only[bW]at*);(try simp(disch:=omega) only[dA]);omega))) ?_)))))
   refine az rfl ?_ ?_<;>intro dS
   ·have hk2:rP s.rows s.received k=false:=dB dS (by simp only[hw,rP,bD]<;>first|rfl|ac_rfl)
    exact aF X [2] rfl (ay (ah rfl ⟨by rw[show dL s=false by unfold dL;rw[pV ck hk2];simp],⟨⟩⟩))
   ·have hk2:rP s.rows s.received k=true:=dy dS (by simp only[hw,rP,bD]<;>first|rfl|ac_rfl)
    refine aE (cN X [1,34,35,36] rfl ?_)
    refine⟨k+1,⟨by omega,mW hall hk2⟩,by omega,?_⟩
    rw[cX _ k rfl (by omega)]
    try rfl
  ·try simp only[bW]at ck
   have uk:(bA s.received.length).all (rP s.rows s.received)=true:=by rw[show s.received.length=k by omega];exact hall
   exact bn (aF X [2] rfl (ay (ah rfl ⟨by rw[show dL s=true by unfold dL;rw[hh,uk];rfl],⟨⟩⟩)))
theorem oy(a:mj):So 66 [.agg (fY a)] [bl (iD a)]:=by
 refine aD X call66 func66 ntmps66 rfl rfl ?_
 intro zb
 refine dn 0 1 rfl rfl (fun oc=>(aF X [1] rfl (af (aF X [1,6,7,8] rfl ?_))))
 refine aG (aV (fun k=>k≤a.rounds.length∧(bA k).all (vr a.rows a.rounds)=true) (fun k:Nat=> [(8, .one ((aL k)))]) (fun k=> []) (fun k=>a.rounds.length-k) 0 (fun k=>rfl) ⟨aA _,rfl⟩ rfl ?_)
 rintro k ⟨hk,hall⟩
 have hw:(an.wrap ((k:Int)-1)).toNat=k-1:=by rw[dA (by omega)];omega
 refine aF X [1,6,7,8,9] rfl ?_
 refine af (az rfl ?_ ?_)<;>intro hb0
 ·try simp only[bW]at hb0
  refine aE (af (aG (aS X [1,3,4,6,7,8] rfl (by and_intros<;>first|exact⟨⟩| (intros;omega)) (af ?_))))
  have t1:=(bB ((a.rounds.getD k (aO .bt)).round) 0 100000)
  refine aZ X [] [(15,⟨false,dw t1⟩),(36,⟨false,[bl (eB ((a.rounds.getD k (aO .bt)).db))]⟩)] [1,6,7,8,47] [] 34359738367 0 MO (by kernel_rfl) rfl (by kernel_rfl) (by(with_reducible and_intros);(iterate 2 all_goals try first|exact⟨⟩|exact t1|exact fun _=>(fF ((a.rounds.getD k (aO .bt)).db)));all_goals first| ((intro h1;first| (intro h2;first| (intro h3;refine aT ?_ ?_)|refine aT ?_ ?_)|refine aT ?_ ?_)<;>first|omega| ((try simp only[bW]at*);(try simp(disch:=omega) only[dA]);omega))) ?_
  refine az rfl ?_ ?_<;>intro ck
  ·have hk2:vr a.rows a.rounds k=false:=dB ck (by simp only[hw,vr,bD]<;>first|rfl|ac_rfl)
   exact aF X [2] rfl (ay (ah rfl ⟨by rw[show iD a=false by unfold iD;rw[pV hb0 hk2];simp],⟨⟩⟩))
  ·have hk2:vr a.rows a.rounds k=true:=dy ck (by simp only[hw,vr,bD]<;>first|rfl|ac_rfl)
   refine aE (cN X [1,6,7,8] rfl ?_)
   refine⟨k+1,⟨by omega,mW hall hk2⟩,by omega,?_⟩
   rw[cX _ k rfl (by omega)]
   try rfl
 ·try simp only[bW]at hb0
  have uk:(bA a.rounds.length).all (vr a.rows a.rounds)=true:=by rw[show a.rounds.length=k by omega];exact hall
  exact bn (aQ X [] [(51,⟨false,[bl (inr a.rows 1 64)]⟩)] [2] [] rfl (by(with_reducible and_intros)<;>first|exact⟨⟩|exact(bB a.rows 1 64)) (ay (ah rfl ⟨(congrArg dO (by simp only[iD,Hf,uk,bD]<;>first|rfl|ac_rfl)),⟨⟩⟩)))
theorem fu(s:cg):So 95 [.agg (dr s)] [bl (dL s)]:=by
 refine aD X call95 func95 ntmps95 rfl rfl ?_
 intro zb
 refine dn 0 3 rfl rfl (fun oc=>(aF X [1] rfl (af (aF X [1,3] rfl ?_))))
 refine aG (aV (fun k=>k≤s.received.length∧(bA k).all (rP s.rows s.received)=true) (fun k:Nat=> [(3, .one ((aL k)))]) (fun k=> []) (fun k=>s.received.length-k) 0 (fun k=>rfl) ⟨aA _,rfl⟩ rfl ?_)
 rintro k ⟨hk,hall⟩
 have hw:(an.wrap ((k:Int)-1)).toNat=k-1:=by rw[dA (by omega)];omega
 refine af (aF X [1,3,9] rfl ?_)
 refine az rfl ?_ ?_<;>intro hb0
 ·try simp only[bW]at hb0
  refine aE (af (aG (aS X [1,3,4] rfl (by and_intros<;>first|exact⟨⟩| (intros;omega)) (af (aZ X [] [(19,⟨false,[bl (inr ((s.received.getD k (aO .bC)).client) 0 7)]⟩),(40,⟨false,[bl (eB ((s.received.getD k (aO .bC)).share))]⟩)] [1,3,51] [] 34359738367 0 MO (by kernel_rfl) rfl (by kernel_rfl) (by(with_reducible and_intros);(iterate 2 all_goals try first|exact⟨⟩|exact(bU ((s.received.getD k (aO .bC)).client) 0 7)|exact fun _=>(eR ((s.received.getD k (aO .bC)).share)));all_goals first| ((intro h1;first| (intro h2;first| (intro h3;refine aT ?_ ?_)|refine aT ?_ ?_)|refine aT ?_ ?_)<;>first|omega| ((try simp only[bW]at*);(try simp(disch:=omega) only[dA]);omega))) ?_)))))
  refine az rfl ?_ ?_<;>intro ck
  ·have hk2:rP s.rows s.received k=false:=dB ck (by simp only[hw,rP,bD]<;>first|rfl|ac_rfl)
   exact aF X [2] rfl (ay (ah rfl ⟨by rw[show dL s=false by unfold dL;rw[pV hb0 hk2];simp],⟨⟩⟩))
  ·have hk2:rP s.rows s.received k=true:=dy ck (by simp only[hw,rP,bD]<;>first|rfl|ac_rfl)
   refine aE (cN X [1,3] rfl ?_)
   refine⟨k+1,⟨by omega,mW hall hk2⟩,by omega,?_⟩
   rw[cX _ k rfl (by omega)]
   try rfl
 ·try simp only[bW]at hb0
  have uk:(bA s.received.length).all (rP s.rows s.received)=true:=by rw[show s.received.length=k by omega];exact hall
  exact bn (aQ X [] [(54,⟨false,[bl (inr s.id 0 3)]⟩),(58,⟨false,[bl (inr s.rows 1 64)]⟩),(63,⟨false,[bl (inr s.behavior 0 3)]⟩),(68,⟨false,[bl (inr s.round 0 100000)]⟩)] [2] [] rfl (by(with_reducible and_intros);(iterate 4 all_goals try first|exact⟨⟩|exact(bU s.id 0 3)|exact fun _=>(bU s.rows 1 64)|exact fun _=>(bU s.behavior 0 3)|exact fun _=>(bU s.round 0 100000))) (ay (ah rfl ⟨(congrArg dO (by simp only[dL,zM,uk,bD]<;>first|rfl|ac_rfl)),⟨⟩⟩)))
theorem oz(a:mj):So 52 [.agg (fY a)] [bl (iD a)]:=by
 refine aD X call52 func52 ntmps52 rfl rfl ?_
 intro zb
 refine dn 0 1 rfl rfl (fun oc=>(aF X [1] rfl (af (aF X [1,3] rfl ?_))))
 refine aG (aV (fun k=>k≤a.rounds.length∧(bA k).all (vr a.rows a.rounds)=true) (fun k:Nat=> [(3, .one ((aL k)))]) (fun k=> []) (fun k=>a.rounds.length-k) 0 (fun k=>rfl) ⟨aA _,rfl⟩ rfl ?_)
 rintro k ⟨hk,hall⟩
 have hw:(an.wrap ((k:Int)-1)).toNat=k-1:=by rw[dA (by omega)];omega
 refine af (aF X [1,3,9] rfl ?_)
 refine az rfl ?_ ?_<;>intro hb0
 ·try simp only[bW]at hb0
  refine aE (af (aG (aS X [1,3,4] rfl (by and_intros<;>first|exact⟨⟩| (intros;omega)) (af ?_))))
  have t1:=(bU ((a.rounds.getD k (aO .bt)).round) 0 100000)
  refine aZ X [] [(19,⟨false,dw t1⟩),(40,⟨false,[bl (eB ((a.rounds.getD k (aO .bt)).db))]⟩)] [1,3,51] [] 34359738367 0 MO (by kernel_rfl) rfl (by kernel_rfl) (by(with_reducible and_intros);(iterate 2 all_goals try first|exact⟨⟩|exact t1|exact fun _=>(eR ((a.rounds.getD k (aO .bt)).db)));all_goals first| ((intro h1;first| (intro h2;first| (intro h3;refine aT ?_ ?_)|refine aT ?_ ?_)|refine aT ?_ ?_)<;>first|omega| ((try simp only[bW]at*);(try simp(disch:=omega) only[dA]);omega))) ?_
  refine az rfl ?_ ?_<;>intro ck
  ·have hk2:vr a.rows a.rounds k=false:=dB ck (by simp only[hw,vr,bD]<;>first|rfl|ac_rfl)
   exact aF X [2] rfl (ay (ah rfl ⟨by rw[show iD a=false by unfold iD;rw[pV hb0 hk2];simp],⟨⟩⟩))
  ·have hk2:vr a.rows a.rounds k=true:=dy ck (by simp only[hw,vr,bD]<;>first|rfl|ac_rfl)
   refine aE (cN X [1,3] rfl ?_)
   refine⟨k+1,⟨by omega,mW hall hk2⟩,by omega,?_⟩
   rw[cX _ k rfl (by omega)]
   try rfl
 ·try simp only[bW]at hb0
  have uk:(bA a.rounds.length).all (vr a.rows a.rounds)=true:=by rw[show a.rounds.length=k by omega];exact hall
  exact bn (aQ X [] [(54,⟨false,[bl (inr a.rows 1 64)]⟩)] [2] [] rfl (by(with_reducible and_intros)<;>first|exact⟨⟩|exact(bU a.rows 1 64)) (ay (ah rfl ⟨(congrArg dO (by simp only[iD,Hf,uk,bD]<;>first|rfl|ac_rfl)),⟨⟩⟩)))
theorem Eo(a:List UInt8):(IB a).toList=a:=by
 rw[ByteArray.toList_eq];rfl
theorem nH(a b:List UInt8):So 152 [.a (.sl .u8 a), .a (.sl .u8 b)] [bl (a==b)]:=by
 refine aD X call152 func152 ntmps152 rfl rfl ?_
 intro zb
 exact aF X [0,1] rfl (aF X [4] rfl (ay (ah rfl ⟨by rw[Eo,Eo],⟨⟩⟩)))
theorem l8(a b:List UInt8):So 227 [.a (.sl .u8 a), .a (.sl .u8 b)] [bl (a==b)]:=by
 refine aD X call227 func227 ntmps227 rfl rfl ?_
 intro zb
 refine eO 0 rfl (fun hl1=> ?_)
 refine eO 1 rfl (fun qN=>(aF X [0,1] rfl (af (aF X [0,1,10] rfl ?_))))
 refine az rfl ?_ ?_<;>intro hb0
 ·try simp only[bW]at hb0
  exact aF X [4] rfl (ay (ah rfl ⟨by rw[C2 a b hb0],⟨⟩⟩))
 ·try simp only[bW]at hb0
  refine aE (af (aF X [0,1,12,13] rfl ?_))
  refine aG (aV (fun k=>k≤a.length∧a.take k=b.take k) (fun k:Nat=> [(13, .one ((aL k)))]) (fun k=> []) (fun k=>a.length-k) 0 (fun k=>rfl) ⟨aA _,rfl⟩ rfl ?_)
  rintro k ⟨hk,hall⟩
  refine aF X [0,1,12,13,14] rfl ?_
  refine af (az rfl ?_ ?_)<;>intro ck
  ·try simp only[bW]at ck
   refine aE (af (aG (aF X [0,1,5,12,13] rfl (af (aZ X [] [] [0,1,12,13,24] [] 511 0 MO (by kernel_rfl) rfl (by kernel_rfl) (by and_intros<;>first|exact⟨⟩| (intros;omega)) ?_)))))
   refine az rfl ?_ ?_<;>intro dS
   ·try simp only[bW]at dS
    have hne:=Aj a b (aO .u8) k (fun h=>dS (by rw[h]))
    exact aF X [4] rfl (ay (ah rfl ⟨by rw[hne],⟨⟩⟩))
   ·try simp only[bW]at dS
    have he:a.getD k (aO .u8)=b.getD k (aO .u8):=W7 dS
    refine aE (cN X [0,1,12,13] rfl ?_)
    refine⟨k+1,⟨by omega,vl a b (aO .u8) k ck (by omega) hall he⟩,by omega,?_⟩
    rw[cX _ k rfl (by omega)]
    try rfl
  ·try simp only[bW]at ck
   exact bn (aF X [4] rfl (ay (ah rfl ⟨by rw[Ak a b k (by omega) (by omega) hall],⟨⟩⟩)))
theorem nI(a b:List (List UInt8)):So 98 [.a (.sl (.sl .u8) a), .a (.sl (.sl .u8) b)] [bl (a==b)]:=by
 refine aD X call98 func98 ntmps98 rfl rfl ?_
 intro zb
 refine eO 0 rfl (fun hl1=> ?_)
 refine eO 1 rfl (fun qN=>(aF X [0,1] rfl (af (aF X [0,1,10] rfl ?_))))
 refine az rfl ?_ ?_<;>intro hb0
 ·try simp only[bW]at hb0
  exact aF X [4] rfl (ay (ah rfl ⟨by rw[C2 a b hb0],⟨⟩⟩))
 ·try simp only[bW]at hb0
  refine aE (af (aF X [0,1,5] rfl ?_))
  refine aG (aV (fun k=>k≤a.length∧a.take k=b.take k) (fun k:Nat=> [(5, .one ((aL k)))]) (fun k=> []) (fun k=>a.length-k) 0 (fun k=>rfl) ⟨aA _,rfl⟩ rfl ?_)
  rintro k ⟨hk,hall⟩
  refine af (aF X [0,1,5,14] rfl ?_)
  refine az rfl ?_ ?_<;>intro ck
  ·try simp only[bW]at ck
   refine aE (af (aG (af (aZ X [] [(25,⟨false,[bl _]⟩)] [0,1,5,26] [] 1023 0 MO (by kernel_rfl) rfl (by kernel_rfl) (by(with_reducible and_intros)<;>first|exact⟨⟩|exact(nH _ _)| (intros;omega)) ?_))))
   refine az rfl ?_ ?_<;>intro dS
   ·try simp only[bW]at dS
    have hne:=Aj a b (aO (.sl .u8)) k (fun h=>dS (by rw[h]))
    exact aF X [4] rfl (ay (ah rfl ⟨by rw[hne],⟨⟩⟩))
   ·try simp only[bW]at dS
    have he:a.getD k (aO (.sl .u8))=b.getD k (aO (.sl .u8)):=dS
    refine aE (cN X [0,1,5] rfl ?_)
    refine⟨k+1,⟨by omega,vl a b (aO (.sl .u8)) k ck (by omega) hall he⟩,by omega,?_⟩
    rw[cX _ k rfl (by omega)]
    try rfl
  ·try simp only[bW]at ck
   exact bn (aF X [4] rfl (ay (ah rfl ⟨by rw[Ak a b k (by omega) (by omega) hall],⟨⟩⟩)))
theorem nJ(a b:List UInt8):So 173 [.a (.sl .u8 a), .a (.sl .u8 b)] [bl (a==b)]:=by
 refine aD X call173 func173 ntmps173 rfl rfl ?_
 intro zb
 exact aF X [0,1] rfl (aQ X [] [(7,⟨false,[bl _]⟩)] [4] [] rfl (by(with_reducible and_intros)<;>first|exact⟨⟩|exact(l8 _ _)) (ay (ah rfl ⟨rfl,⟨⟩⟩)))
theorem kS(a b:List (List UInt8)):So 230 [.a (.sl (.sl .u8) a), .a (.sl (.sl .u8) b), .a (.lit (.func (.func 173) #[] #[]))] [bl (a==b)]:=by
 refine aD X call230 func230 ntmps230 rfl rfl ?_
 intro zb
 refine eO 0 rfl (fun hl1=> ?_)
 refine eO 1 rfl (fun qN=>(aF X [0,1,2] rfl (af (aF X [0,1,2,14] rfl ?_))))
 refine az rfl ?_ ?_<;>intro hb0
 ·try simp only[bW]at hb0
  exact aF X [6] rfl (ay (ah rfl ⟨by rw[C2 a b hb0],⟨⟩⟩))
 ·try simp only[bW]at hb0
  refine aE (af (aF X [1,2,15,16,17] rfl ?_))
  refine aG (aV (fun k=>k≤a.length∧a.take k=b.take k) (fun k:Nat=> [(17, .one ((aL k)))]) (fun k=> []) (fun k=>a.length-k) 0 (fun k=>rfl) ⟨aA _,rfl⟩ rfl ?_)
  rintro k ⟨hk,hall⟩
  refine aF X [1,2,15,16,17,18] rfl ?_
  refine af (az rfl ?_ ?_)<;>intro ck
  ·try simp only[bW]at ck
   refine aE (af (aG (aS X [1,2,7,8,15,16,17] rfl (by and_intros<;>first|exact⟨⟩| (intros;omega)) (aS X [1,2,8,9,15,16,17] rfl (by and_intros<;>first|exact⟨⟩| (intros;omega)) (aQ X [] [(29,⟨false,[bl (a.getD k (aO (.sl .u8))==b.getD k (aO (.sl .u8)))]⟩)] [1,2,15,16,17,30] [] rfl (by(with_reducible and_intros)<;>first|exact⟨⟩|exact(nJ _ _)) ?_)))))
   refine az rfl ?_ ?_<;>intro dS
   ·try simp only[bW]at dS
    have hne:=Aj a b (aO (.sl .u8)) k (fun h=>dS (by rw[h]))
    exact aF X [6] rfl (ay (ah rfl ⟨by rw[hne],⟨⟩⟩))
   ·try simp only[bW]at dS
    have he:a.getD k (aO (.sl .u8))=b.getD k (aO (.sl .u8)):=dS
    refine aE (cN X [1,2,15,16,17] rfl ?_)
    refine⟨k+1,⟨by omega,vl a b (aO (.sl .u8)) k ck (by omega) hall he⟩,by omega,?_⟩
    rw[cX _ k rfl (by omega)]
    try rfl
  ·try simp only[bW]at ck
   exact bn (aF X [6] rfl (ay (ah rfl ⟨by rw[Ak a b k (by omega) (by omega) hall],⟨⟩⟩)))
theorem nK(a b:List (List UInt8)):So 181 [.a (.sl (.sl .u8) a), .a (.sl (.sl .u8) b)] [bl (a==b)]:=by
 refine aD X call181 func181 ntmps181 rfl rfl ?_
 intro zb
 exact aF X [0,1] rfl (aQ X [] [(7,⟨false,[bl _]⟩)] [4] [] rfl (by(with_reducible and_intros)<;>first|exact⟨⟩|exact(kS _ _)) (ay (ah rfl ⟨rfl,⟨⟩⟩)))
theorem vu(b:List UInt8):So 120 [.a (.sl .u8 b)] [bl (long b)]:=by
 refine aD X call120 func120 ntmps120 rfl rfl ?_
 intro zb
 exact aF X [0] rfl (aF X [2] rfl (ay (ah rfl ⟨rfl,⟨⟩⟩)))
theorem gP(n:Int):So 65 [aL n] [bl (eA n)]:=by
 refine aD X call65 func65 ntmps65 rfl rfl ?_
 intro zb
 exact aF X [0] rfl (aQ X [] [(4,⟨false,[bl _]⟩)] [2] [] rfl (by(with_reducible and_intros)<;>first|exact⟨⟩|exact(bB _ _ _)) (ay (ah rfl ⟨rfl,⟨⟩⟩)))
theorem jG(n:Int):So 22 [aL n] [bl (eA n)]:=by
 refine aD X call22 func22 ntmps22 rfl rfl ?_
 intro zb
 exact aF X [0] rfl (aQ X [] [(4,⟨false,[bl _]⟩)] [2] [] rfl (by(with_reducible and_intros)<;>first|exact⟨⟩|exact(bU _ _ _)) (ay (ah rfl ⟨rfl,⟨⟩⟩)))
theorem jo(c:gS):So 71 [.agg (c9 c)] [bl (fG c)]:=by
 refine aD X call71 func71 ntmps71 rfl rfl ?_
 intro zb
 exact aF X [1] rfl (aF X [1,3] rfl (aQ X [] [(6,⟨false,[bl (inr c.id 0 7)]⟩),(10,⟨false,[bl (inr c.gZ 0 7)]⟩),(22,⟨false,[bl (iC c.key)]⟩),(40,⟨false,[bl (c.bz.any long)]⟩),(47,⟨false,[bl (c.inbox.any long)]⟩),(56,⟨false,[bl (inr c.sent 0 (c.bz.length:Int))]⟩),(61,⟨false,[bl (inr c.next 0 100000)]⟩)] [2] [] rfl (by(with_reducible and_intros);(iterate 7 all_goals try first|exact⟨⟩|exact(bB c.id 0 7)|exact fun _=>(bB c.gZ 0 7)|exact fun _=>(kA c.key)|exact fun _=>(gw _ _ _ vu)|exact fun _=>(bB c.sent 0 (c.bz.length:Int))|exact fun _=>(bB c.next 0 100000))) (ay (ah rfl ⟨(congrArg dO (by simp only[fG,bD]<;>first|rfl|ac_rfl)),⟨⟩⟩))))
theorem BI(i f k:Int):So 46 [aL i,aL f,aL k] [bl (inr i 0 7&&inr f 0 7&& !(i==f)&&iC k)]:=by
 refine aD X call46 func46 ntmps46 rfl rfl ?_
 intro zb
 exact aF X [0,1,2] rfl (aQ X [] [(8,⟨false,[bl (inr i 0 7)]⟩),(11,⟨false,[bl (inr f 0 7)]⟩),(20,⟨false,[bl (iC k)]⟩)] [6] [] rfl (by(with_reducible and_intros);(iterate 3 all_goals try first|exact⟨⟩|exact(bU i 0 7)|exact fun _=>(bU f 0 7)|exact fun _=>(kB k))) (ay (ah rfl ⟨(congrArg dO (by simp only[bD]<;>first|rfl|ac_rfl)),⟨⟩⟩)))
theorem um(l:List (List UInt8)):So 151 [.a (.sl (.sl .u8) l)] [bl (decide ((l.length:Int)≤16)&& !l.any long)]:=by
 refine aD X call151 func151 ntmps151 rfl rfl ?_
 intro zb
 refine eO 0 rfl (fun oc=>(aF X [0] rfl (af (aF X [0,3] rfl ?_))))
 refine aG (aV (fun k=>k≤l.length∧(l.take k).any long=false) (fun k:Nat=> [(3, .one ((aL k)))]) (fun k=> []) (fun k=>l.length-k) 0 (fun k=>rfl) ⟨aA _,rfl⟩ rfl ?_)
 rintro k ⟨hk,hall⟩
 refine af (aF X [0,3,7] rfl ?_)
 refine az rfl ?_ ?_<;>intro hb0
 ·try simp only[bW]at hb0
  refine aE (af (aG (aS X [0,3,15] rfl (by and_intros<;>first|exact⟨⟩| (intros;omega)) ?_)))
  refine az rfl ?_ ?_<;>intro ck
  ·exact aF X [2] rfl (ay (ah rfl ⟨by rw[Fw l long (aO (.sl .u8)) k hb0 ck];simp,⟨⟩⟩))
  ·refine aE (cN X [0,3] rfl ?_)
   refine⟨k+1,⟨by omega,An (aO (.sl .u8)) hb0 hall ck⟩,by omega,?_⟩
   rw[cX _ k rfl (by omega)]
   try rfl
 ·try simp only[bW]at hb0
  have uk:l.any long=false:=by rw[←hall,aB hb0]
  exact bn (aF X [2] rfl (ay (ah rfl ⟨by rw[uk];simp,⟨⟩⟩)))
theorem fX(c:gS):So 97 [.agg (c9 c)] [bl (fG c)]:=by
 refine aD X call97 func97 ntmps97 rfl rfl ?_
 intro zb
 refine aF X [1] rfl (af ?_)
 have t1:=(BI c.id c.gZ c.key)
 have t2:=(um c.bz)
 have t3:=(um c.inbox)
 exact bE X [] [(9,⟨false,dw t1⟩),(13,⟨false,dw t2⟩),(18,⟨false,dw t3⟩),(26,⟨false,[bl (inr c.sent 0 (c.bz.length:Int))]⟩),(31,⟨false,[bl (inr c.next 0 100000)]⟩)] [2] [] rfl (by(with_reducible and_intros);(iterate 5 all_goals try first|exact⟨⟩|exact t1|exact fun _=>t2|exact fun _=>t3|exact fun _=>(bU c.sent 0 (c.bz.length:Int))|exact fun _=>(bU c.next 0 100000))) (ay (ah rfl ⟨(congrArg dO (by simp only[fG,bD]<;>first|rfl|ac_rfl)),⟨⟩⟩))
theorem C9(a b:gS):So 118 [.agg (c9 a), .agg (c9 b)] [bl (nG a b)]:=by
 refine aD X call118 func118 ntmps118 rfl rfl ?_
 intro zb
 exact aF X [2,3] rfl (aQ X [] [(36,⟨false,[bl (a.bz==b.bz)]⟩)] [4] [] rfl (by(with_reducible and_intros)<;>first|exact⟨⟩|exact fun _=>(nK a.bz b.bz)) (ay (ah rfl ⟨(congrArg dO (by simp only[nG,bD]<;>first|rfl|ac_rfl)),⟨⟩⟩)))
theorem EY(a b:List (List UInt8)):So 119 [.a (.sl (.sl .u8) a), .a (.sl (.sl .u8) b)] [bl (C8 a b)]:=by
 refine aD X call119 func119 ntmps119 rfl rfl ?_
 intro zb
 refine aF X [0,1] rfl (af ?_)
 have t1:=(nK a ((b.take (a.length:Int).toNat).drop (0:Int).toNat))
 refine bE X [] [(16,⟨false,dw t1⟩)] [4] [] rfl (by(with_reducible and_intros)<;>first|exact⟨⟩|exact fun _=>t1| ((intro h1;first| (intro h2;first| (intro h3;refine aT ?_ ?_)|refine aT ?_ ?_)|refine aT ?_ ?_)<;>first|omega| ((try simp only[bW]at*);(try simp(disch:=omega) only[dA]);omega))) ?_
 exact ay (ah rfl ⟨(congrArg dO (by simp only[C8,eV,IN,bD]<;>first|rfl|ac_rfl)),⟨⟩⟩)
theorem jq(d:cD):So 70 [.agg (dZ d)] [bl (fJ d)]:=by
 refine aD X call70 func70 ntmps70 rfl rfl ?_
 intro zb
 exact aF X [1] rfl (aQ X [] [(5,⟨false,[bl (fG d.live)]⟩),(9,⟨false,[bl (fG d.saved)]⟩),(16,⟨false,[bl (nG d.live d.saved)]⟩),(43,⟨false,[bl (C8 d.saved.inbox d.live.inbox)]⟩)] [2] [] rfl (by(with_reducible and_intros);(iterate 4 all_goals try first|exact⟨⟩|exact(jo d.live)|exact fun _=>(jo d.saved)|exact fun _=>(C9 d.live d.saved)|exact fun _=>(EY d.saved.inbox d.live.inbox))) (ay (ah rfl ⟨(congrArg dO (by simp only[fJ,bD]<;>first|rfl|ac_rfl)),⟨⟩⟩)))
theorem gQ(d:cD):So 56 [.agg (dZ d)] [bl (fJ d)]:=by
 refine aD X call56 func56 ntmps56 rfl rfl ?_
 intro zb
 refine aF X [1] rfl (aF X [1,3] rfl (aF X [3,4] rfl (af (aQ X [] [(10,⟨false,[bl (fG d.live)]⟩),(14,⟨false,[bl (fG d.saved)]⟩),(50,⟨false,[bl (d.live.bz==d.saved.bz)]⟩)] [3,4,52] [] rfl (by(with_reducible and_intros);(iterate 3 all_goals try first|exact⟨⟩|exact(fX d.live)|exact fun _=>(fX d.saved)|exact fun _=>(nI d.live.bz d.saved.bz))) ?_))))
 refine az rfl ?_ ?_<;>intro hb0
 ·exact aF X [2] rfl (ay (ah rfl ⟨by rw[show fJ d=false from by rw[fJ,dB (R:=fG d.live&&fG d.saved&&nG d.live d.saved) hb0 (by simp only[nG,bD]<;>first|rfl|ac_rfl)];rfl],⟨⟩⟩))
 ·have hh:(fG d.live&&fG d.saved&&nG d.live d.saved)=true:=dy hb0 (by simp only[nG,bD]<;>first|rfl|ac_rfl)
  refine aE (af ?_)
  have t1:=(nI d.saved.inbox ((d.live.inbox.take (d.saved.inbox.length:Int).toNat).drop (0:Int).toNat))
  refine aZ X [] [(83,⟨false,dw t1⟩)] [2] [] 8589934591 0 MO (by kernel_rfl) rfl (by kernel_rfl) (by(with_reducible and_intros)<;>first|exact⟨⟩|exact fun _=>t1| ((intro h1;first| (intro h2;first| (intro h3;refine aT ?_ ?_)|refine aT ?_ ?_)|refine aT ?_ ?_)<;>first|omega| ((try simp only[bW]at*);(try simp(disch:=omega) only[dA]);omega))) ?_
  exact ay (ah rfl ⟨(congrArg dO (by simp only[fJ,hh,C8,eV,IN,bD]<;>first|rfl|ac_rfl)),⟨⟩⟩)
end
section
set_option maxRecDepth 100000
theorem eX(x:cm):So 35 [.agg (cq x)] [bl (okW x)]:=by
 refine aD X call35 func35 ntmps35 rfl rfl ?_
 intro zb
 refine dn 0 1 rfl rfl (fun hl1=> ?_)
 refine dn 0 2 rfl rfl (fun qN=>(aF X [1] rfl (af (af (aZ X [] [(10,⟨false,[bl (inr x.rows 1 64)]⟩),(16,⟨false,[bl (eA (x.aC.length:Int))]⟩),(23,⟨false,[bl (inr (x.aq.length:Int) 2 8)]⟩),(36,⟨false,[bl (iD x.aN)]⟩),(50,⟨false,[aL (eC x.aN)]⟩),(58,⟨false,[bl (iC x.bZ)]⟩),(64,⟨false,[bl (inr x.round 0 100000)]⟩)] [1,71] [] 18446744073709551615 0 MO (by kernel_rfl) rfl (by kernel_rfl) (by(with_reducible and_intros);(iterate 7 all_goals try first|exact⟨⟩|exact(bB x.rows 1 64)|exact fun _=>(gP (x.aC.length:Int))|exact fun _=>(bB (x.aq.length:Int) 2 8)|exact fun _=>(oy x.aN)|exact fun _=>(oN x.aN)|exact fun _=>(kA x.bZ)|exact fun _=>(bB x.round 0 100000));all_goals first| (refine fun _=> ?_;dsimp only[hyps,rq];omega)) ?_)))))
 refine az rfl ?_ ?_<;>intro hb0
 ·exact aF X [2] rfl (ay (ah rfl ⟨by rw[show okW x=false from by rw[okW,dB (R:=L6 x) hb0 (by simp only[L6,bD]<;>first|rfl|ac_rfl)];rfl],⟨⟩⟩))
 ·have hh:L6 x=true:=dy hb0 (by simp only[L6,bD]<;>first|rfl|ac_rfl)
  obtain⟨TA,hd8,_⟩:=sY hh
  refine aE (af (aF X [1,73,74,75] rfl ?_))
  refine aG (aV (fun k=>k≤x.aC.length∧(bA k).all (JD x)=true) (fun k:Nat=> [(75, .one ((aL k)))]) (fun k=> []) (fun k=>x.aC.length-k) 0 (fun k=>rfl) ⟨aA _,rfl⟩ rfl ?_)
  rintro k ⟨hk,hall⟩
  refine aF X [1,73,74,75,76] rfl ?_
  refine af (az rfl ?_ ?_)<;>intro ck
  ·try simp only[bW]at ck
   refine aE (af (aG (aS X [1,3,4,73,74,75] rfl (by and_intros<;>first|exact⟨⟩| (intros;omega)) (aQ X [] [(81,⟨false,[bl (dL (x.aC.getD k (aO .cg)))]⟩)] [1,73,74,75,108] [] rfl (by(with_reducible and_intros)<;>first|exact⟨⟩|exact(fm (x.aC.getD k (aO .cg)))) ?_))))
   refine az rfl ?_ ?_<;>intro dS
   ·have hk2:JD x k=false:=dB dS (by simp only[JD,bD]<;>first|rfl|ac_rfl)
    exact aF X [2] rfl (ay (ah rfl ⟨by rw[show okW x=false from by rw[okW,pV ck hk2];simp],⟨⟩⟩))
   ·have hk2:JD x k=true:=dy dS (by simp only[JD,bD]<;>first|rfl|ac_rfl)
    refine aE (cN X [1,73,74,75] rfl ?_)
    refine⟨k+1,⟨by omega,mW hall hk2⟩,by omega,?_⟩
    rw[cX _ k rfl (by omega)]
    try rfl
  ·try simp only[bW]at ck
   have uk:(bA x.aC.length).all (JD x)=true:=by rw[show x.aC.length=k by omega];exact hall
   refine bn (af (aF X [1,111,112,113] rfl ?_))
   refine aG (aV (fun k1=>k1≤x.aq.length∧(bA k1).all (okD x)=true) (fun k1:Nat=> [(113, .one ((aL k1)))]) (fun k1=> []) (fun k1=>x.aq.length-k1) 0 (fun k1=>rfl) ⟨aA _,rfl⟩ rfl ?_)
   rintro k1 ⟨hk1,acP⟩
   refine aF X [1,111,112,113,114] rfl ?_
   refine af (az rfl ?_ ?_)<;>intro BJ
   ·try simp only[bW]at BJ
    have hx:=Xk k1 (by omega)
    have hlt:=Ao k1 x.aq.length BJ TA
    refine aE (af (aG (aS X [1,5,6,111,112,113] rfl (by and_intros<;>first|exact⟨⟩| (intros;omega)) (aF X [1,5,6,7,111,112,113] rfl (af (aZ X [] [(121,⟨false,[bl (fJ (x.aq.getD k1 (aO .cD)))]⟩)] [1,111,112,113,155] [] 68719476735 0 MO (by kernel_rfl) rfl (by kernel_rfl) (by(with_reducible and_intros)<;>first|exact⟨⟩|exact(jq (x.aq.getD k1 (aO .cD)))| ((intro h1;first| (intro h2;first| (intro h3;refine aT ?_ ?_)|refine aT ?_ ?_)|refine aT ?_ ?_)<;>first|omega| ((try simp only[bW]at*);(try simp(disch:=omega) only[dA]);omega))) ?_))))))
    refine az rfl ?_ ?_<;>intro hb4
    ·have V4:okD x k1=false:=dB hb4 (by simp only[okD,hx,bD]<;>first|rfl|ac_rfl)
     exact aF X [2] rfl (ay (ah rfl ⟨by rw[show okW x=false from by rw[okW,pV BJ V4];simp],⟨⟩⟩))
    ·have V4:okD x k1=true:=dy hb4 (by simp only[okD,hx,bD]<;>first|rfl|ac_rfl)
     refine aE (cN X [1,111,112,113] rfl ?_)
     refine⟨k1+1,⟨by omega,mW acP V4⟩,by omega,?_⟩
     rw[cX _ k1 rfl (by omega)]
     try rfl
   ·try simp only[bW]at BJ
    have Xl:(bA x.aq.length).all (okD x)=true:=by rw[show x.aq.length=k1 by omega];exact acP
    exact bn (aF X [2] rfl (ay (ah rfl ⟨by rw[okW,hh,uk,Xl];rfl,⟨⟩⟩)))
theorem BK(x:cm):So 50 [.agg (cq x)] [bl (svW x)]:=by
 refine aD X call50 func50 ntmps50 rfl rfl ?_
 intro zb
 refine dn 0 1 rfl rfl (fun hl1=> ?_)
 refine dn 0 2 rfl rfl (fun qN=>(aF X [1] rfl (af (aF X [1,3] rfl ?_))))
 refine aG (aV (fun k=>k≤x.aC.length∧(bA k).all (JD x)=true) (fun k:Nat=> [(3, .one ((aL k)))]) (fun k=> []) (fun k=>x.aC.length-k) 0 (fun k=>rfl) ⟨aA _,rfl⟩ rfl ?_)
 rintro k ⟨hk,hall⟩
 refine af (aF X [1,3,9] rfl ?_)
 refine az rfl ?_ ?_<;>intro hb0
 ·try simp only[bW]at hb0
  refine aE (af (aG (aS X [1,3,4] rfl (by and_intros<;>first|exact⟨⟩| (intros;omega)) (aQ X [] [(18,⟨false,[bl (dL (x.aC.getD k (aO .cg)))]⟩)] [1,3,45] [] rfl (by(with_reducible and_intros)<;>first|exact⟨⟩|exact(fu (x.aC.getD k (aO .cg)))) ?_))))
  refine az rfl ?_ ?_<;>intro ck
  ·have hk2:JD x k=false:=dB ck (by simp only[JD,bD]<;>first|rfl|ac_rfl)
   exact aF X [2] rfl (ay (ah rfl ⟨by rw[show svW x=false from by rw[svW,pV hb0 hk2];simp],⟨⟩⟩))
  ·have hk2:JD x k=true:=dy ck (by simp only[JD,bD]<;>first|rfl|ac_rfl)
   refine aE (cN X [1,3] rfl ?_)
   refine⟨k+1,⟨by omega,mW hall hk2⟩,by omega,?_⟩
   rw[cX _ k rfl (by omega)]
   try rfl
 ·try simp only[bW]at hb0
  have uk:(bA x.aC.length).all (JD x)=true:=by rw[show x.aC.length=k by omega];exact hall
  exact bn (aQ X [] [(49,⟨false,[bl _]⟩)] [2] [] rfl (by(with_reducible and_intros)<;>first|exact⟨⟩|exact(jG _)) (ay (ah rfl ⟨by rw[svW,uk];rfl,⟨⟩⟩)))
theorem BL(x:cm):So 51 [.agg (cq x)] [bl (dvW x)]:=by
 refine aD X call51 func51 ntmps51 rfl rfl ?_
 intro zb
 refine dn 0 1 rfl rfl (fun hl1=> ?_)
 refine dn 0 2 rfl rfl (fun qN=>(aF X [1] rfl (aF X [1,3] rfl (af (aQ X [] [(14,⟨false,[bl (inr (x.aq.length:Int) 2 8)]⟩)] [1,3,16] [] rfl (by(with_reducible and_intros)<;>first|exact⟨⟩|exact fun _=>(bU (x.aq.length:Int) 2 8)| (intros;omega)) ?_)))))
 refine az rfl ?_ ?_<;>intro hb0
 ·exact aF X [2] rfl (ay (ah rfl ⟨by rw[show dvW x=false from by rw[dvW,dB (R:=((x.aq.length:Int).tmod 2==0)&&inr x.aq.length 2 8) hb0 (by simp only[bD]<;>first|rfl|ac_rfl)];rfl],⟨⟩⟩))
 ·have hh:(((x.aq.length:Int).tmod 2==0)&&inr x.aq.length 2 8)=true:=dy hb0 (by simp only[bD]<;>first|rfl|ac_rfl)
  have TA:x.aq.length % 2=0:=by simp only[aj,beq_iff_eq]at hh;have:=hh.1;rw[gh (by omega)]at this;omega
  have hd8:x.aq.length≤8:=by simp only[aj,dD]at hh;omega
  refine aE (af (aF X [1,3,4] rfl ?_))
  refine aG (aV (fun k=>k≤x.aq.length∧(bA k).all (okD x)=true) (fun k:Nat=> [(4, .one ((aL k)))]) (fun k=> []) (fun k=>x.aq.length-k) 0 (fun k=>rfl) ⟨aA _,rfl⟩ rfl ?_)
  rintro k ⟨hk,hall⟩
  refine af (aF X [1,3,4,19] rfl ?_)
  refine az rfl ?_ ?_<;>intro ck
  ·try simp only[bW]at ck
   have hx:=Xk k (by omega)
   have hlt:=Ao k x.aq.length ck TA
   refine aE (af (aG (aS X [1,3,4,5] rfl (by and_intros<;>first|exact⟨⟩| (intros;omega)) (af (aZ X [] [(28,⟨false,[bl (fJ (x.aq.getD k (aO .cD)))]⟩)] [1,3,4,66] [] 1099511627775 0 MO (by kernel_rfl) rfl (by kernel_rfl) (by(with_reducible and_intros)<;>first|exact⟨⟩|exact(gQ (x.aq.getD k (aO .cD)))| ((intro h1;first| (intro h2;first| (intro h3;refine aT ?_ ?_)|refine aT ?_ ?_)|refine aT ?_ ?_)<;>first|omega| ((try simp only[bW]at*);(try simp(disch:=omega) only[dA]);omega))) ?_)))))
   refine az rfl ?_ ?_<;>intro dS
   ·have V4:okD x k=false:=dB dS (by simp only[okD,hx,bD]<;>first|rfl|ac_rfl)
    exact aF X [2] rfl (ay (ah rfl ⟨by rw[show dvW x=false from by rw[dvW,pV ck V4];simp],⟨⟩⟩))
   ·have V4:okD x k=true:=dy dS (by simp only[okD,hx,bD]<;>first|rfl|ac_rfl)
    refine aE (cN X [1,3,4] rfl ?_)
    refine⟨k+1,⟨by omega,mW hall V4⟩,by omega,?_⟩
    rw[cX _ k rfl (by omega)]
    try rfl
  ·try simp only[bW]at ck
   have Xl:(bA x.aq.length).all (okD x)=true:=by rw[show x.aq.length=k by omega];exact hall
   exact bn (aF X [2] rfl (ay (ah rfl ⟨by rw[dvW,hh,Xl];rfl,⟨⟩⟩)))
theorem gq(x:cm):So 30 [.agg (cq x)] [bl (okW x)]:=by
 refine aD X call30 func30 ntmps30 rfl rfl ?_
 intro zb
 exact aF X [1] rfl (af (aZ X [] [(5,⟨false,[bl (inr x.rows 1 64)]⟩),(9,⟨false,[bl (inr x.round 0 100000)]⟩),(13,⟨false,[bl (svW x)]⟩),(17,⟨false,[bl (dvW x)]⟩),(22,⟨false,[bl (iD x.aN)]⟩),(35,⟨false,[aL (eC x.aN)]⟩),(43,⟨false,[bl (iC x.bZ)]⟩)] [2] [] 281474976710655 0 MO (by kernel_rfl) rfl (by kernel_rfl) (by(with_reducible and_intros);(iterate 7 all_goals try first|exact⟨⟩|exact(bU x.rows 1 64)|exact fun _=>(bU x.round 0 100000)|exact fun _=>(BK x)|exact fun _=>(BL x)|exact fun _=>(oz x.aN)|exact fun _=>(oO x.aN)|exact fun _=>(kB x.bZ))) (ay (ah rfl ⟨(congrArg dO (by simp only[okW,L6,svW,dvW,bD]<;>first|rfl|ac_rfl)),⟨⟩⟩))))
theorem E0(key c:Int)(p:Plain):So 123 [aL key,aL c, .agg (lz p)] [.a (.sl .u8 (jN key c p)),bl (iY key c p)]:=by
 refine aD X call123 func123 ntmps123 rfl rfl ?_
 intro zb
 refine aF X [0,1,5] rfl (af (aQ X [] [(11,⟨false,[bl (iC key)]⟩),(15,⟨false,[bl (inr c 0 1000000000000)]⟩),(20,⟨false,[bl (jz p)]⟩)] [0,1,5,22] [] rfl (by(with_reducible and_intros);(iterate 3 all_goals try first|exact⟨⟩|exact(kA key)|exact fun _=>(bB c 0 1000000000000)|exact fun _=>(qw p))) ?_))
 refine az rfl ?_ ?_<;>intro hb0
 ·have hk:iY key c p=false:=dB hb0 (by simp only[iY,bD]<;>first|rfl|ac_rfl)
  exact aF X [6,7] rfl (ay (ah rfl ⟨by rw[jN,if_neg (by rw[hk];decide)],by rw[hk],⟨⟩⟩))
 ·have hk:iY key c p=true:=dy hb0 (by simp only[iY,bD]<;>first|rfl|ac_rfl)
  have hp:=sZ hk
  have hst:(stream (kh key [61,c]) (18:Int).toNat).length=18:=gE _ _
  have rz:(fU key c p).length≤100:=by unfold fU;simp only[aX,bM,bY,gf,gE];omega
  have hf4:(four (kR key c (kQ (nh key c) (fU key c p)))).length=4:=rfl
  have hel:(kQ (nh key c) (fU key c p)).length≤100:=by rw[gz];exact rz
  refine aE (aQ X [(33,30)] [] [0,1,5,8] [] rfl (by and_intros<;>first|exact⟨⟩|exact rfl|exact(qo _).1|exact(qo _).2| (simp only[gl,maxLen,lens];omega)) (af (aZ X [(44,30)] [(38,⟨false,[aL (kh key [61,c])]⟩),(39,⟨true,[.a (.sl .u8 (stream (kh key [61,c]) (18:Int).toNat))]⟩)] [0,1,8] [] 1023 0 MO (by kernel_rfl) rfl (by kernel_rfl) (by(repeat' with_reducible first|exact bF|refine bS ?_ ?_|apply aT);(iterate 2 all_goals try first|exact(cV key [61,c] (by first|assumption|omega| (simp;done)| (simp;omega)))|exact(mH (kh key [61,c]) 18 (by first|assumption|omega| (simp;done)| (simp;omega)) (by first|assumption|omega| (simp;done)| (simp;omega))));all_goals first| (intros;omega)|exact rfl|exact⟨rfl,cB _ (by decide)⟩| (simp only[gl,maxLen,lens];omega)) ?_)))
  refine aQ X [] [(47,⟨false,[aL (nh key c)]⟩),(49,⟨true,[.a (.sl .u8 (kQ (nh key c) (fU key c p)))]⟩)] [0,1,9] [] rfl (by(with_reducible and_intros);(iterate 2 all_goals try first|exact⟨⟩|exact(xB key c)|exact(G7 (nh key c) (fU key c p) (by first|assumption|omega| (simp;done)| (simp;omega))))) (af ?_)
  have t1:=(sX key c (kQ (nh key c) (fU key c p)) (by first|assumption|omega| (simp;done)| (simp;omega)))
  exact bE X [(55,49)] [(54,⟨true,dw t1⟩)] [6,7] [] rfl (by(with_reducible and_intros)<;>first|exact⟨⟩|exact t1|exact rfl| (simp only[gl,maxLen,lens];omega)) (ay (ah rfl ⟨by rw[jN,if_pos hk],by rw[hk],⟨⟩⟩))
theorem E1(key c:Int)(p:Plain):So 259 [aL key,aL c, .agg (lz p)] [.a (.sl .u8 (jN key c p)),bl (iY key c p)]:=by
 refine aD X call259 func259 ntmps259 rfl rfl ?_
 intro zb
 refine aF X [0,1,5] rfl (af (aQ X [] [(12,⟨false,[bl (iC key)]⟩),(16,⟨false,[bl (inr c 0 1000000000000)]⟩),(21,⟨false,[bl (jz p)]⟩)] [0,1,5,23] [] rfl (by(with_reducible and_intros);(iterate 3 all_goals try first|exact⟨⟩|exact(kB key)|exact fun _=>(bU c 0 1000000000000)|exact fun _=>(zm p))) ?_))
 refine az rfl ?_ ?_<;>intro hb0
 ·have hk:iY key c p=false:=dB hb0 (by simp only[iY,bD]<;>first|rfl|ac_rfl)
  exact aS X [6,7] rfl (by and_intros<;>first|exact⟨⟩|exact rfl) (ay (ah rfl ⟨by rw[jN,if_neg (by rw[hk];decide)],by rw[hk],⟨⟩⟩))
 ·have hk:iY key c p=true:=dy hb0 (by simp only[iY,bD]<;>first|rfl|ac_rfl)
  have hp:=sZ hk
  have hst:(stream (kh key [61,c]) (18:Int).toNat).length=18:=gE _ _
  have rz:(fU key c p).length≤100:=by unfold fU;simp only[aX,bM,bY,gf,gE];omega
  have hf4:(four (kR key c (kQ (nh key c) (fU key c p)))).length=4:=rfl
  have hel:(kQ (nh key c) (fU key c p)).length≤100:=by rw[gz];exact rz
  refine aE (aQ X [(35,32)] [] [0,1,5,8] [] rfl (by and_intros<;>first|exact⟨⟩|exact rfl|exact(qo _).1|exact(qo _).2| (simp only[gl,maxLen,lens];omega)) (af (aZ X [(46,32)] [(40,⟨false,[aL (kh key [61,c])]⟩),(41,⟨true,[.a (.sl .u8 (stream (kh key [61,c]) (18:Int).toNat))]⟩)] [0,1,8] [] 1023 0 MO (by kernel_rfl) rfl (by kernel_rfl) (by(repeat' with_reducible first|exact bF|refine bS ?_ ?_|apply aT);(iterate 2 all_goals try first|exact(cC key [61,c] (by first|assumption|omega| (simp;done)| (simp;omega)))|exact(mI (kh key [61,c]) 18 (by first|assumption|omega| (simp;done)| (simp;omega)) (by first|assumption|omega| (simp;done)| (simp;omega))));all_goals first| (intros;omega)|exact rfl|exact⟨rfl,cB _ (by decide)⟩| (simp only[gl,maxLen,lens];omega)) ?_)))
  refine aQ X [] [(49,⟨false,[aL (nh key c)]⟩),(51,⟨true,[.a (.sl .u8 (kQ (nh key c) (fU key c p)))]⟩)] [0,1,9] [] rfl (by(with_reducible and_intros);(iterate 2 all_goals try first|exact⟨⟩|exact(uj key c)|exact(G9 (nh key c) (fU key c p) (by first|assumption|omega| (simp;done)| (simp;omega))))) (af ?_)
  have t1:=(uh key c (kQ (nh key c) (fU key c p)) (by first|assumption|omega| (simp;done)| (simp;omega)))
  exact bE X [] [(55,⟨false,dw t1⟩)] [9,10] [] rfl (by(with_reducible and_intros)<;>first|exact⟨⟩|exact t1) (aQ X [(69,51)] [] [6,7] [] rfl (by and_intros<;>first|exact⟨⟩| (intros;omega)|exact rfl|exact(qo _).1|exact(qo _).2| (simp only[gl,maxLen,lens];omega)) (ay (ah rfl ⟨(congrArg (fun z=>kQ (nh key c) (fU key c p)++z) (RM _)).trans (by rw[jN,if_pos hk]),by rw[hk],⟨⟩⟩)))
theorem oP(x:cm)(c:Int):So 42 [.agg (cq x),aL c] [bl (vv x c)]:=by
 refine aD X call42 func42 ntmps42 rfl rfl ?_
 intro zb
 exact dn 0 2 rfl rfl (fun qN=>(aF X [1,2] rfl (aQ X [] [(10,⟨false,[bl _]⟩)] [4] [] rfl (by(with_reducible and_intros)<;>first|exact⟨⟩|exact(bB _ _ _)) (ay (ah rfl ⟨by rw[dA (by omega)];rfl,⟨⟩⟩)))))
theorem Hh(x:cm)(c:Int)(hd:x.aq.length≤1048576):So 64 [.agg (cq x),aL c] [bl (Ap x c)]:=by
 refine aD X call64 func64 ntmps64 rfl rfl ?_
 intro zb
 refine aF X [1,2] rfl (af ?_)
 have t1:=(oP x (an.wrap (BitVec.ofInt an.bits c^^^BitVec.ofInt an.bits 1).toNat))
 exact bE X [] [(7,⟨false,[bl (vv x c)]⟩),(12,⟨false,dw t1⟩)] [4] [] rfl (by(with_reducible and_intros);(iterate 2 all_goals try first|exact⟨⟩|exact(oP x c)|exact fun _=>t1)) (ay (ah rfl ⟨by rw[Xi,Uc hd],⟨⟩⟩))
theorem jI(c:gS):So 73 [.agg (c9 c)] [aL (eK c)]:=by
 refine aD X call73 func73 ntmps73 rfl rfl ?_
 intro zb
 refine aF X [1] rfl (af (aF X [7] rfl ?_))
 refine az rfl ?_ ?_<;>intro hb0
 ·try simp only[bW]at hb0
  exact aF X [2] rfl (ay (ah rfl ⟨by rw[eK,if_pos hb0],⟨⟩⟩))
 ·try simp only[bW]at hb0
  exact aE (aF X [2] rfl (ay (ah rfl ⟨by rw[eK,if_neg (by omega)],⟨⟩⟩)))
theorem rT(c:gS)(a:Int)(h0:0≤a)(h1:a<c.bz.length):So 74 [.agg (c9 c),aL a] [.a (.sl .u8 (rR c a))]:=by
 refine aD X call74 func74 ntmps74 rfl rfl ?_
 intro zb
 refine aF X [1,2] rfl (af ?_)
 have t1:=(E0 (mJ c.key (eK c)) a (⟨1,(c.bz.getD (a).toNat (aO (.sl .u8)))⟩:Plain))
 exact aZ X [] [(11,⟨false,[aL (eK c)]⟩),(12,⟨false,[aL (mJ c.key (eK c))]⟩),(20,⟨true,dw t1⟩)] [5] [] 262143 0 MO (by kernel_rfl) rfl (by kernel_rfl) (by(with_reducible and_intros);(iterate 3 all_goals try first|exact⟨⟩|exact(jI c)|exact(lS c.key (eK c))|exact t1);all_goals first| (intros;omega)) (aF X [4] rfl (ay (ah rfl ⟨rfl,⟨⟩⟩)))
theorem rU(c:gS)(r n:Int):So 36 [.agg (c9 c),aL r,aL n] [aL (jH c r n), .a (.sl .u8 (gF c r n)),bl (rS c r n)]:=by
 refine aD X call36 func36 ntmps36 rfl rfl ?_
 intro zb
 refine dn 0 4 rfl rfl (fun oc=>(aF X [1,2,3] rfl (af (aQ X [] [(10,⟨false,[bl (fG c)]⟩),(14,⟨false,[bl (inr r 0 100000)]⟩),(19,⟨false,[bl (inr n 1 64)]⟩)] [1,2,3,21] [] rfl (by(with_reducible and_intros);(iterate 3 all_goals try first|exact⟨⟩|exact(jo c)|exact fun _=>(bB r 0 100000)|exact fun _=>(bB n 1 64))) ?_))))
 refine az rfl ?_ ?_<;>intro hb0
 ·have hk:rS c r n=false:=dB hb0 (by simp only[rS,bD]<;>first|rfl|ac_rfl)
  exact aF X [6,7,8] rfl (ay (ah rfl ⟨by rw[jH,if_neg (by rw[hk];decide)],by rw[gF,if_neg (by rw[hk];decide)],by rw[hk],⟨⟩⟩))
 ·have hk:rS c r n=true:=dy hb0 (by simp only[rS,bD]<;>first|rfl|ac_rfl)
  have hs:=Da hk
  refine aE (af (aF X [1,2,3,27] rfl ?_))
  refine az rfl ?_ ?_<;>intro ck
  ·try simp only[bW]at ck
   exact af (aZ X [] [(32,⟨false,[aL (eK c)]⟩),(34,⟨false,[aL (iw c.key r (eK c) n)]⟩),(38,⟨true,[.a (.sl .u8 (rR c c.sent))]⟩)] [6,7,8] [] 16383 0 MO (by kernel_rfl) rfl (by kernel_rfl) (by(with_reducible and_intros);(iterate 3 all_goals try first|exact⟨⟩|exact(jI c)|exact(nE c.key r (eK c) n)|exact(rT c c.sent (by first|assumption|omega| (simp;done)| (simp;omega)) (by first|assumption|omega| (simp;done)| (simp;omega))))) (ay (ah rfl ⟨by rw[jH,if_pos hk,if_pos ck],by rw[gF,if_pos hk,if_pos ck],by rw[hk],⟨⟩⟩)))
  ·try simp only[bW]at ck
   refine aE (af (aZ X [] [(43,⟨false,[aL (Am c.seed r n)]⟩),(48,⟨false,[aL (kh c.seed [r])]⟩),(49,⟨true,[.a (.sl .u8 (cover (kh c.seed [r])))]⟩)] [6,7,8] [] 16383 0 MO (by kernel_rfl) rfl (by kernel_rfl) (by(repeat' with_reducible first|exact bF|refine bS ?_ ?_|apply aT);(iterate 3 all_goals try first|exact(EW c.seed r n)|exact(cV c.seed [r] (by first|assumption|omega| (simp;done)| (simp;omega)))|exact(C6 (kh c.seed [r])));all_goals first|exact⟨rfl,cB _ (by decide)⟩) ?_))
   exact ay (ah rfl ⟨by rw[jH,if_pos hk,if_neg (by omega)],by rw[gF,if_pos hk,if_neg (by omega)],by rw[hk],⟨⟩⟩)
theorem ig(c:gS):So 196 [.agg (c9 c)] [aL (eK c)]:=by
 refine aD X call196 func196 ntmps196 rfl rfl ?_
 intro zb
 refine aF X [1] rfl (af (aF X [7] rfl ?_))
 refine az rfl ?_ ?_<;>intro hb0
 ·try simp only[bW]at hb0
  exact aF X [2] rfl (ay (ah rfl ⟨by rw[eK,if_pos hb0],⟨⟩⟩))
 ·try simp only[bW]at hb0
  exact aE (aF X [2] rfl (ay (ah rfl ⟨by rw[eK,if_neg (by omega)],⟨⟩⟩)))
theorem xE(c:gS)(h0:0≤c.sent)(h1:c.sent<c.bz.length):So 233 [.agg (c9 c)] [.a (.sl .u8 (rR c c.sent))]:=by
 refine aD X call233 func233 ntmps233 rfl rfl ?_
 intro zb
 refine aF X [1] rfl (af ?_)
 have t1:=(E1 (mJ c.key (eK c)) c.sent (⟨1,(c.bz.getD (c.sent).toNat (aO (.sl .u8)))⟩:Plain))
 exact aZ X [] [(9,⟨false,[aL (eK c)]⟩),(10,⟨false,[aL (mJ c.key (eK c))]⟩),(20,⟨true,dw t1⟩)] [3] [] 1048575 0 MO (by kernel_rfl) rfl (by kernel_rfl) (by(with_reducible and_intros);(iterate 3 all_goals try first|exact⟨⟩|exact(ig c)|exact(lT c.key (eK c))|exact t1);all_goals first| (intros;omega)) (aF X [2] rfl (ay (ah rfl ⟨rfl,⟨⟩⟩)))
theorem Aq(c:gS)(r n:Int):So 189 [.agg (c9 c),aL r,aL n] [aL (jH c r n), .a (.sl .u8 (gF c r n)),bl (rS c r n)]:=by
 refine aD X call189 func189 ntmps189 rfl rfl ?_
 intro zb
 refine dn 0 4 rfl rfl (fun oc=>(aF X [1,2,3] rfl (af (aQ X [] [(10,⟨false,[bl (fG c)]⟩),(14,⟨false,[bl (inr r 0 100000)]⟩),(19,⟨false,[bl (inr n 1 64)]⟩)] [1,2,3,21] [] rfl (by(with_reducible and_intros);(iterate 3 all_goals try first|exact⟨⟩|exact(fX c)|exact fun _=>(bU r 0 100000)|exact fun _=>(bU n 1 64))) ?_))))
 refine az rfl ?_ ?_<;>intro hb0
 ·have hk:rS c r n=false:=dB hb0 (by simp only[rS,bD]<;>first|rfl|ac_rfl)
  exact aS X [6,7,8] rfl (by and_intros<;>first|exact⟨⟩|exact rfl) (ay (ah rfl ⟨by rw[jH,if_neg (by rw[hk];decide)],by rw[gF,if_neg (by rw[hk];decide)],by rw[hk],⟨⟩⟩))
 ·have hk:rS c r n=true:=dy hb0 (by simp only[rS,bD]<;>first|rfl|ac_rfl)
  have hs:=Da hk
  refine aE (af (aF X [1,2,3,28] rfl ?_))
  refine az rfl ?_ ?_<;>intro ck
  ·try simp only[bW]at ck
   exact af (aZ X [] [(33,⟨false,[aL (eK c)]⟩),(35,⟨false,[aL (iw c.key r (eK c) n)]⟩),(37,⟨true,[.a (.sl .u8 (rR c c.sent))]⟩)] [6,7,8] [] 4095 0 MO (by kernel_rfl) rfl (by kernel_rfl) (by(with_reducible and_intros);(iterate 3 all_goals try first|exact⟨⟩|exact(ig c)|exact(nF c.key r (eK c) n)|exact(xE c (by first|assumption|omega| (simp;done)| (simp;omega)) (by first|assumption|omega| (simp;done)| (simp;omega))))) (ay (ah rfl ⟨by rw[jH,if_pos hk,if_pos ck],by rw[gF,if_pos hk,if_pos ck],by rw[hk],⟨⟩⟩)))
  ·try simp only[bW]at ck
   refine aE (af (aZ X [] [(42,⟨false,[aL (Am c.seed r n)]⟩),(47,⟨false,[aL (kh c.seed [r])]⟩),(48,⟨true,[.a (.sl .u8 (cover (kh c.seed [r])))]⟩)] [6,7,8] [] 16383 0 MO (by kernel_rfl) rfl (by kernel_rfl) (by(repeat' with_reducible first|exact bF|refine bS ?_ ?_|apply aT);(iterate 3 all_goals try first|exact(EX c.seed r n)|exact(cC c.seed [r] (by first|assumption|omega| (simp;done)| (simp;omega)))|exact(C7 (kh c.seed [r])));all_goals first|exact⟨rfl,cB _ (by decide)⟩) ?_))
   exact ay (ah rfl ⟨by rw[jH,if_pos hk,if_neg (by omega)],by rw[gF,if_pos hk,if_neg (by omega)],by rw[hk],⟨⟩⟩)
end
section
set_option maxRecDepth 100000
theorem xG(x:Int):So 258 [aL x] [bl (!inr x 0 1)]:=by
 refine aD X call258 func258 ntmps258 rfl rfl ?_
 intro zb
 exact aF X [0] rfl (aQ X [] [(4,⟨false,[bl _]⟩)] [2] [] rfl (by(with_reducible and_intros)<;>first|exact⟨⟩|exact(bB _ _ _)) (ay (ah rfl ⟨rfl,⟨⟩⟩)))
theorem mK(v:List Int)(rows:Int):So 228 [.a (.sl .int v),aL rows] [bl (ff v rows)]:=by
 refine aD X call228 func228 ntmps228 rfl rfl ?_
 intro zb
 exact aF X [0,1] rfl (aQ X [] [(6,⟨false,[bl (inr rows 0 64)]⟩),(15,⟨false,[bl (v.any fun x=> !inr x 0 1)]⟩)] [4] [] rfl (by(with_reducible and_intros);(iterate 2 all_goals try first|exact⟨⟩|exact(bB rows 0 64)|exact fun _=>(pW _ _ _ xG))) (ay (ah rfl ⟨by rw[P1];exact(congrArg dO (by simp only[bD]<;>first|rfl|ac_rfl)),⟨⟩⟩)))
theorem mL(v:List Int)(rows:Int):So 249 [.a (.sl .int v),aL rows] [bl (ff v rows)]:=by
 refine aD X call249 func249 ntmps249 rfl rfl ?_
 intro zb
 refine eO 0 rfl (fun oc=>(aF X [0,1] rfl (af (aF X [0,1,5] rfl ?_))))
 refine aG (aV (fun k=>k≤v.length∧(v.take k).all (fun x=>inr x 0 1)=true) (fun k:Nat=> [(5, .one ((aL k)))]) (fun k=> []) (fun k=>v.length-k) 0 (fun k=>rfl) ⟨aA _,rfl⟩ rfl ?_)
 rintro k ⟨hk,hall⟩
 refine af (aF X [0,1,5,9] rfl ?_)
 refine az rfl ?_ ?_<;>intro hb0
 ·try simp only[bW]at hb0
  refine aE (af (aG (aQ X [] [(16,⟨false,[bl (inr (v.getD k (aO .int)) 0 1)]⟩)] [0,1,5,17] [] rfl (by(with_reducible and_intros)<;>first|exact⟨⟩|exact(bU (v.getD k (aO .int)) 0 1)| (intros;omega)) ?_)))
  refine az rfl ?_ ?_<;>intro ck
  ·exact aF X [4] rfl (ay (ah rfl ⟨by rw[ff,PW _ _ (aO .int) k hb0 (by simpa using ck)];simp,⟨⟩⟩))
  ·refine aE (cN X [0,1,5] rfl ?_)
   refine⟨k+1,⟨by omega,by rw[G2 _ _ _ (aO .int) hb0,hall];simpa using ck⟩,by omega,?_⟩
   rw[cX _ k rfl (by omega)]
   try rfl
 ·try simp only[bW]at hb0
  exact bn (aF X [4] rfl (ay (ah rfl ⟨by rw[aB hb0]at hall;rw[ff,hall];exact(congrArg dO (by simp only[bD]<;>first|rfl|ac_rfl)),⟨⟩⟩)))
theorem nN(sd rows:Int):So 111 [aL sd,aL rows] [.a (.sl .int (cR sd rows))]:=by
 refine aD X call111 func111 ntmps111 rfl rfl ?_
 intro zb
 refine aF X [0,1] rfl (af (aQ X [] [(9,⟨false,[bl (inr rows 0 64)]⟩)] [0,1,10] [] rfl (by(with_reducible and_intros)<;>first|exact⟨⟩|exact(bB rows 0 64)) ?_))
 refine az rfl ?_ ?_<;>intro hb0
 ·try simp only[bW]at hb0
  exact aF X [4] rfl (ay (ah rfl ⟨by rw[cR,if_neg (by omega)],⟨⟩⟩))
 ·try simp only[bW]at hb0
  refine aE (aS X [0,1,5] rfl (by and_intros<;>first|exact⟨⟩|exact rfl) (af (aF X [0,5,12,13] rfl ?_)))
  refine aG (aV (fun k=>k≤rows.toNat) (fun k:Nat=> [(13, .one ((aL k)))]) (fun k=> [(11, .arr .int ((cR sd rows).take k))]) (fun k=>rows.toNat-k) 0 (fun k=>rfl) (aA _) rfl ?_)
  intro k hk
  have hle:=ct (cR sd rows) k
  have hrl:=kU sd rows
  refine aF X [0,5,12,13,14] rfl ?_
  refine af (az rfl ?_ ?_)<;>intro ck
  ·try simp only[bW]at ck
   have hs:=BM sd rows k (by omega) (by omega)
   refine aE (af (aG (aF X [0,5,6,12,13] rfl (aQ X [] [(19,⟨false,[aL (kh sd [(k:Int),41])]⟩)] [0,5,7,12,13] [] rfl (by(repeat' with_reducible first|exact bF|refine bS ?_ ?_|apply aT)<;>first|exact(cV sd [(k:Int),41] (by first|assumption|omega| (simp;done)| (simp;omega)))|exact⟨rfl,cB _ (by decide)⟩) ?_))))
   refine bE X [(28,11)] [] [0,5,12,13] [] rfl (by and_intros<;>first|exact⟨⟩| (intros;omega)|exact rfl| (simp only[gl,maxLen,lens];omega)) (cN X [0,5,12,13] rfl ?_)
   refine⟨k+1,by omega,by omega,?_⟩
   rw[cX _ k rfl (by omega),hs]
   try rfl
  ·try simp only[bW]at ck
   exact bn (aF X [4] rfl (ay (ah rfl ⟨by rw[Ep _ _ _ (by omega)],⟨⟩⟩)))
theorem xH(rows i:Int):So 221 [aL rows,aL i] [.a (.sl .int (qx rows i))]:=by
 refine aD X call221 func221 ntmps221 rfl rfl ?_
 intro zb
 refine aF X [0,1] rfl (af (aQ X [] [(7,⟨false,[bl (inr rows 1 64)]⟩),(13,⟨false,[bl (inr i 0 (an.wrap (rows-1)))]⟩)] [0,1,15] [] rfl (by(with_reducible and_intros);(iterate 2 all_goals try first|exact⟨⟩|exact(bB rows 1 64)|exact fun _=>(bB i 0 (an.wrap (rows-1))))) ?_))
 refine az rfl ?_ ?_<;>intro hb0
 ·have hk:jR rows i=false:=dB hb0 (by simp only[jR,bD]<;>first|rfl|ac_rfl)
  exact aF X [4] rfl (ay (ah rfl ⟨by rw[Db hk],⟨⟩⟩))
 ·have hk:jR rows i=true:=dy hb0 (by simp only[jR,bD]<;>first|rfl|ac_rfl)
  have hu:=uo hk
  exact aE (aS X [1,5] rfl (by and_intros<;>first|exact⟨⟩| (intros;omega)|exact rfl| (simp only[gl,maxLen,lens];omega)) (aS X [5] rfl (by and_intros<;>first|exact⟨⟩| (intros;omega)| (simp only[gl,maxLen,lens];omega)) (aF X [4] rfl (ay (ah rfl ⟨by rw[qQ hk],⟨⟩⟩)))))
theorem xI(a b:List Int)(ha:a.length≤1048576)(hb:b.length≤1048576):So 222 [.a (.sl .int a), .a (.sl .int b)] [.a (.sl .int (oQ a b))]:=by
 refine aD X call222 func222 ntmps222 rfl rfl ?_
 intro zb
 refine aF X [0,1] rfl (af (aQ X [] [(11,⟨false,[bl (ff a (a.length:Int))]⟩),(17,⟨false,[bl (ff b (a.length:Int))]⟩)] [0,1,19] [] rfl (by(with_reducible and_intros);(iterate 2 all_goals try first|exact⟨⟩|exact(mK a (a.length:Int))|exact fun _=>(mK b (a.length:Int)))) ?_))
 refine az rfl ?_ ?_<;>intro hb0
 ·have zN:nM a b=false:=dB hb0 (by simp only[nM,bD]<;>first|rfl|ac_rfl)
  exact aF X [4] rfl (ay (ah rfl ⟨by rw[oQ,if_neg (by rw[zN];decide)],⟨⟩⟩))
 ·have zN:nM a b=true:=dy hb0 (by simp only[nM,bD]<;>first|rfl|ac_rfl)
  have Ix:=qP zN
  have hzl:=BN zN
  refine aE (aQ X [] [(21,⟨true,[.a (.sl .int _)]⟩)] [1,5] [] rfl (by(with_reducible and_intros)<;>first|exact⟨⟩|exact(jQ _ (by first|assumption|omega| (simp;done)| (simp;omega)))) (af (aF X [5,22,23,24] rfl ?_)))
  refine aG (aV (fun k=>k≤b.length) (fun k:Nat=> [(24, .one ((aL k)))]) (fun k=> [(21, .arr .int ((dm xb a b).take k++a.drop k))]) (fun k=>b.length-k) 0 (fun k=>rfl) (aA _) rfl ?_)
  intro k hk
  have hle:=nD (dm xb a b) a k hzl (by omega)
  refine aF X [5,22,23,24,25] rfl ?_
  refine af (az rfl ?_ ?_)<;>intro ck
  ·try simp only[bW]at ck
   have hs:=No zN k ck
   refine aE (af (aG (aS X [5,6,7,22,23,24] rfl (by and_intros<;>first|exact⟨⟩| (intros;omega)) (mU X [5,22,23,24] rfl (by and_intros<;>first|exact⟨⟩| (intros;omega)) (cN X [5,22,23,24] rfl ?_)))))
   refine⟨k+1,by omega,by omega,?_⟩
   rw[cX _ k rfl (by omega),hs]
   try rfl
  ·try simp only[bW]at ck
   exact bn (aF X [4] rfl (ay (ah rfl ⟨by rw[qJ _ _ _ hzl (by omega),vA zN],⟨⟩⟩)))
theorem Dg(rows i:Int)(sd:List Int)(By:sd.length≤1048576):So 164 [aL rows,aL i, .a (.sl .int sd)] [.a (.sl (.sl .int) (lN rows i sd))]:=by
 refine aD X call164 func164 ntmps164 rfl rfl ?_
 intro zb
 have hun:=Dc rows i
 refine aF X [0,1,2] rfl (aQ X [] [(14,⟨true,[.a (.sl .int _)]⟩)] [0,2,7] [] rfl (by(with_reducible and_intros)<;>first|exact⟨⟩|exact(xH _ _)) (af (aQ X [] [(22,⟨false,[bl (eA (an.wrap ((sd.length:Int)+1)))]⟩)] [0,2,7,24] [] rfl (by(with_reducible and_intros)<;>first|exact⟨⟩|exact fun _=>(gP (an.wrap ((sd.length:Int)+1)))) ?_)))
 refine az rfl ?_ ?_<;>intro hb0
 ·have hmk:BO rows i sd=false:=dB hb0 (by simp only[BO,bD]<;>first|rfl|ac_rfl)
  exact aF X [6] rfl (ay (ah rfl ⟨by rw[lN,if_neg (by rw[hmk];decide)],⟨⟩⟩))
 ·have hmk:BO rows i sd=true:=dy hb0 (by simp only[BO,bD]<;>first|rfl|ac_rfl)
  have Ix:=Ns hmk By
  refine aE (aS X [0,2,7,8] rfl (by and_intros<;>first|exact⟨⟩|exact rfl) (af (aF X [0,7,8,26,27,28] rfl ?_)))
  refine aG (aV (fun k=>k≤sd.length) (fun k:Nat=> [(28, .one ((aL k)))]) (fun k=> [(25, .arr (.sl .int) ((sd.take k).map fun s=>cR s rows)),(14, .arr .int (xF rows i (sd.take k)))]) (fun k=>sd.length-k) 0 (fun k=>rfl) (aA _) rfl ?_)
  intro k hk
  have hle:=ct sd k
  have hql:=Dd rows i (sd.take k)
  refine aF X [0,7,8,26,27,28,29] rfl ?_
  refine af (az rfl ?_ ?_)<;>intro ck
  ·try simp only[bW]at ck
   have hs:=pT (fun s=>cR s rows) sd k (aO .int) ck
   have zI:=Hj rows i sd k ck
   have hrl:=kU (sd.getD k (aO .int)) rows
   refine aE (af (aG (aS X [0,7,8,10,26,27,28] rfl (by and_intros<;>first|exact⟨⟩| (intros;omega)) (aQ X [] [(34,⟨true,[.a (.sl .int (cR (sd.getD k (aO .int)) rows))]⟩)] [0,7,8,11,26,27,28] [] rfl (by(with_reducible and_intros)<;>first|exact⟨⟩|exact(nN (sd.getD k (aO .int)) rows)) (af (RS X [(38,25)] [] [0,7,8,11,26,27,28] 2 25 rfl (by and_intros<;>first|exact⟨⟩|exact rfl| (simp only[gl,maxLen,lens];omega)) ?_))))))
   have t1:=(xI (xF rows i (sd.take k)) (cR (sd.getD k (aO .int)) rows) (by first|assumption|omega| (simp;done)| (simp;omega)) (by first|assumption|omega| (simp;done)| (simp;omega)))
   refine bE X [] [(41,⟨true,dw t1⟩)] [0,7,8,26,27,28] [] rfl (by(with_reducible and_intros)<;>first|exact⟨⟩|exact t1) (qR 7 14 rfl (cN X [0,7,8,26,27,28] rfl ?_))
   refine⟨k+1,by omega,by omega,?_⟩
   rw[cX _ k rfl (by omega),hs,zI]
   try rfl
  ·try simp only[bW]at ck
   exact bn (aQ X [(46,25)] [] [6] [] rfl (by and_intros<;>first|exact⟨⟩|exact rfl| (simp only[gl,maxLen,lens];omega)) (ay (ah rfl ⟨by rw[aB ck,lN,if_pos hmk],⟨⟩⟩)))
theorem nO(sd rows:Int):So 140 [aL sd,aL rows] [.a (.sl .int (cR sd rows))]:=by
 refine aD X call140 func140 ntmps140 rfl rfl ?_
 intro zb
 refine aF X [0,1] rfl (aS X [0,1,5] rfl (by and_intros<;>first|exact⟨⟩|exact rfl) (af (aF X [0,1,5,6] rfl ?_)))
 refine aG (aV (fun k=>k≤(cR sd rows).length) (fun k:Nat=> [(6, .one ((aL k)))]) (fun k=> [(8, .arr .int ((cR sd rows).take k))]) (fun k=>(cR sd rows).length-k) 0 (fun k=>rfl) (aA _) rfl ?_)
 intro k hk
 have hle:=ct (cR sd rows) k
 have hrl:=kU sd rows
 refine af (aF X [0,1,5,6,15] rfl ?_)
 refine az rfl ?_ ?_<;>intro hb0
 ·try simp only[bW]at hb0
  have hin:=Hi sd rows k (by omega) (by omega)
  have hs:=BM sd rows k (by omega) (by omega)
  refine aE (af (aG (aQ X [] [(21,⟨false,[aL (kh sd [(k:Int),41])]⟩)] [0,1,5,6,7] [] rfl (by(repeat' with_reducible first|exact bF|refine bS ?_ ?_|apply aT)<;>first|exact(cC sd [(k:Int),41] (by first|assumption|omega| (simp;done)| (simp;omega)))|exact⟨rfl,cB _ (by decide)⟩) ?_)))
  refine bE X [(30,8)] [] [0,1,5,6] [] rfl (by and_intros<;>first|exact⟨⟩| (intros;omega)|exact rfl| (simp only[gl,maxLen,lens];omega)) (cN X [0,1,5,6] rfl ?_)
  refine⟨k+1,by omega,by omega,?_⟩
  rw[cX _ k rfl (by omega),hs]
  try rfl
 ·try simp only[bW]at hb0
  exact bn (aF X [4] rfl (ay (ah rfl ⟨by rw[Ep _ _ _ (by omega)],⟨⟩⟩)))
theorem xJ(rows i:Int):So 243 [aL rows,aL i] [.a (.sl .int (qx rows i))]:=by
 refine aD X call243 func243 ntmps243 rfl rfl ?_
 intro zb
 refine aF X [0,1] rfl (af (aQ X [] [(7,⟨false,[bl (inr rows 1 64)]⟩),(13,⟨false,[bl (inr i 0 (an.wrap (rows-1)))]⟩)] [0,1,15] [] rfl (by(with_reducible and_intros);(iterate 2 all_goals try first|exact⟨⟩|exact(bU rows 1 64)|exact fun _=>(bU i 0 (an.wrap (rows-1))))) ?_))
 refine az rfl ?_ ?_<;>intro hb0
 ·have hk:jR rows i=false:=dB hb0 (by simp only[jR,bD]<;>first|rfl|ac_rfl)
  exact aS X [4] rfl (by and_intros<;>first|exact⟨⟩|exact rfl) (ay (ah rfl ⟨by rw[Db hk],⟨⟩⟩))
 ·have hk:jR rows i=true:=dy hb0 (by simp only[jR,bD]<;>first|rfl|ac_rfl)
  have hu:=uo hk
  exact aE (aS X [1,5] rfl (by and_intros<;>first|exact⟨⟩| (intros;omega)|exact rfl| (simp only[gl,maxLen,lens];omega)) (aS X [5] rfl (by and_intros<;>first|exact⟨⟩| (intros;omega)| (simp only[gl,maxLen,lens];omega)) (aF X [4] rfl (ay (ah rfl ⟨by rw[qQ hk],⟨⟩⟩)))))
theorem xK(a b:List Int)(ha:a.length≤1048576)(hb:b.length≤1048576):So 244 [.a (.sl .int a), .a (.sl .int b)] [.a (.sl .int (oQ a b))]:=by
 refine aD X call244 func244 ntmps244 rfl rfl ?_
 intro zb
 refine aF X [0,1] rfl (aS X [0,1,5] rfl (by and_intros<;>first|exact⟨⟩|exact rfl) (af (aQ X [] [(11,⟨false,[bl (ff a (a.length:Int))]⟩),(17,⟨false,[bl (ff b (a.length:Int))]⟩)] [0,1,5,19] [] rfl (by(with_reducible and_intros);(iterate 2 all_goals try first|exact⟨⟩|exact(mL a (a.length:Int))|exact fun _=>(mL b (a.length:Int)))) ?_)))
 refine az rfl ?_ ?_<;>intro hb0
 ·have zN:nM a b=false:=dB hb0 (by simp only[nM,bD]<;>first|rfl|ac_rfl)
  exact aF X [4] rfl (ay (ah rfl ⟨by rw[oQ,if_neg (by rw[zN];decide)],⟨⟩⟩))
 ·have zN:nM a b=true:=dy hb0 (by simp only[nM,bD]<;>first|rfl|ac_rfl)
  have Ix:=qP zN
  have hzl:=BN zN
  refine aE (af (aF X [0,1,5,6] rfl ?_))
  refine aG (aV (fun k=>k≤a.length) (fun k:Nat=> [(6, .one ((aL k)))]) (fun k=> [(7, .arr .int ((dm xb a b).take k))]) (fun k=>a.length-k) 0 (fun k=>rfl) (aA _) rfl ?_)
  intro k hk
  have hle:=ct (dm xb a b) k
  refine af (aF X [0,1,5,6,24] rfl ?_)
  refine az rfl ?_ ?_<;>intro ck
  ·try simp only[bW]at ck
   have hs:=Np zN k ck
   refine aE (af (aG (aZ X [(38,7)] [] [0,1,5,6] [] 2047 0 MO (by kernel_rfl) rfl (by kernel_rfl) (by and_intros<;>first|exact⟨⟩| (intros;omega)|exact rfl| (simp only[gl,maxLen,lens];omega)) (cN X [0,1,5,6] rfl ?_))))
   refine⟨k+1,by omega,by omega,?_⟩
   rw[cX _ k rfl (by omega),hs]
   try rfl
  ·try simp only[bW]at ck
   exact bn (aF X [4] rfl (ay (ah rfl ⟨by rw[aB (by omega),vA zN],⟨⟩⟩)))
theorem Dh(rows i:Int)(sd:List Int)(By:sd.length≤1048576):So 198 [aL rows,aL i, .a (.sl .int sd)] [.a (.sl (.sl .int) (lN rows i sd))]:=by
 refine aD X call198 func198 ntmps198 rfl rfl ?_
 intro zb
 have hun:=Dc rows i
 refine aF X [0,1,2] rfl (aS X [0,1,2,7] rfl (by and_intros<;>first|exact⟨⟩|exact rfl) (aQ X [] [(14,⟨true,[.a (.sl .int _)]⟩)] [0,2,7,8] [] rfl (by(with_reducible and_intros)<;>first|exact⟨⟩|exact(xJ _ _)) (af (aQ X [] [(22,⟨false,[bl (eA (an.wrap ((sd.length:Int)+1)))]⟩)] [0,2,7,8,24] [] rfl (by(with_reducible and_intros)<;>first|exact⟨⟩|exact fun _=>(jG (an.wrap ((sd.length:Int)+1)))) ?_))))
 refine az rfl ?_ ?_<;>intro hb0
 ·have hmk:BO rows i sd=false:=dB hb0 (by simp only[BO,bD]<;>first|rfl|ac_rfl)
  exact aF X [6] rfl (ay (ah rfl ⟨by rw[lN,if_neg (by rw[hmk];decide)],⟨⟩⟩))
 ·have hmk:BO rows i sd=true:=dy hb0 (by simp only[BO,bD]<;>first|rfl|ac_rfl)
  have Ix:=Ns hmk By
  refine aE (af (aF X [0,2,7,8,9] rfl ?_))
  refine aG (aV (fun k=>k≤sd.length) (fun k:Nat=> [(9, .one ((aL k)))]) (fun k=> [(11, .arr (.sl .int) ((sd.take k).map fun s=>cR s rows)),(14, .arr .int (xF rows i (sd.take k)))]) (fun k=>sd.length-k) 0 (fun k=>rfl) (aA _) rfl ?_)
  intro k hk
  have hle:=ct sd k
  have hql:=Dd rows i (sd.take k)
  refine af (aF X [0,2,7,8,9,29] rfl ?_)
  refine az rfl ?_ ?_<;>intro ck
  ·try simp only[bW]at ck
   have hs:=pT (fun s=>cR s rows) sd k (aO .int) ck
   have zI:=Hj rows i sd k ck
   have hrl:=kU (sd.getD k (aO .int)) rows
   refine aE (af (aG (aQ X [] [(37,⟨true,[.a (.sl .int (cR (sd.getD k (aO .int)) rows))]⟩)] [0,2,7,8,9,10] [] rfl (by(with_reducible and_intros)<;>first|exact⟨⟩|exact(nO (sd.getD k (aO .int)) rows)| (intros;omega)) (af ?_))))
   have t1:=(xK (xF rows i (sd.take k)) (cR (sd.getD k (aO .int)) rows) (by first|assumption|omega| (simp;done)| (simp;omega)) (by first|assumption|omega| (simp;done)| (simp;omega)))
   refine bE X [] [(40,⟨true,dw t1⟩)] [0,2,7,8,9,10] [] rfl (by(with_reducible and_intros)<;>first|exact⟨⟩|exact t1) (qR 8 14 rfl (bE X [(44,11)] [] [0,2,7,8,9] [] rfl (by and_intros<;>first|exact⟨⟩|exact rfl| (simp only[gl,maxLen,lens];omega)) (cN X [0,2,7,8,9] rfl ?_)))
   refine⟨k+1,by omega,by omega,?_⟩
   rw[cX _ k rfl (by omega),hs,zI]
   try rfl
  ·try simp only[bW]at ck
   exact bn (aQ X [(48,11)] [] [6] [] rfl (by and_intros<;>first|exact⟨⟩|exact rfl| (simp only[gl,maxLen,lens];omega)) (ay (ah rfl ⟨by rw[aB ck,lN,if_pos hmk],⟨⟩⟩)))
end
section
set_option maxRecDepth 100000
theorem Di(x:cm)(r row s:Int)(tI:x.aC.length≤1048576):So 165 [.agg (cq x),aL r,aL row,aL s] [.a (.sl .int (jv x.aC.length r row s))]:=by
 refine aD X call165 func165 ntmps165 rfl rfl ?_
 intro zb
 have hw:an.wrap ((x.aC.length:Int)-1)=(x.aC.length:Int)-1:=dA (by omega)
 refine aF X [1,2,3,4] rfl (aS X [1,2,3,4,9] rfl (by and_intros<;>first|exact⟨⟩|exact rfl) (af (aF X [1,2,3,9,16,17] rfl ?_)))
 refine aG (aV (fun k=>k≤(x.aC.length-1)) (fun k:Nat=> [(17, .one ((aL k)))]) (fun k=> [(11, .arr .int ((jv x.aC.length r row s).take k))]) (fun k=>(x.aC.length-1)-k) 0 (fun k=>rfl) (aA _) rfl ?_)
 intro k hk
 have hle:=ct (jv x.aC.length r row s) k
 have hrl:=oR x.aC.length r row s
 refine aF X [1,2,3,9,16,17,18] rfl ?_
 refine af (az rfl ?_ ?_)<;>intro hb0
 ·try simp only[bW]at hb0
  rw[RR _ tI]at hb0
  have hs:=Er x.aC.length r row s k (by omega)
  refine aE (af (aG (aF X [1,2,3,9,10,16,17] rfl (bE X [(28,11)] [(26,⟨false,[aL (kh s [229,r,row,(k:Int)])]⟩)] [1,2,3,9,16,17] [] rfl (by(repeat' with_reducible first|exact bF|refine bS ?_ ?_|apply aT)<;>first|exact(cV s [229,r,row,(k:Int)] (by first|assumption|omega| (simp;done)| (simp;omega)))|exact rfl|exact⟨rfl,cB _ (by decide)⟩| (simp only[gl,maxLen,lens];omega)) ?_))))
  refine cN X [1,2,3,9,16,17] rfl ?_
  refine⟨k+1,by omega,by omega,?_⟩
  rw[cX _ k rfl (by omega),hs]
  try rfl
 ·try simp only[bW]at hb0
  rw[RR _ tI]at hb0
  exact bn (aF X [8] rfl (ay (ah rfl ⟨by rw[aB (by omega)],⟨⟩⟩)))
end
section
set_option maxRecDepth 100000
theorem eH(d:DB)(hs0:ga aR d.rows≤1048576):So 148 [.agg (bJ d)] [.agg (bJ d)]:=by
 refine aD X call148 func148 ntmps148 rfl rfl ?_
 intro zb
 exact aF X [1,2] rfl (aQ X [] [(5,⟨true,[.a (.sl (.sl .u8) d.rows)]⟩)] [2] [] rfl (by(with_reducible and_intros)<;>first|exact⟨⟩|exact(oM d.rows (by first|assumption|omega| (simp;done)| (simp;omega)))) (ay (ah rfl ⟨rfl,⟨⟩⟩)))
theorem gJ(d:DB)(hs0:ga aR d.rows≤1048576):So 94 [.agg (bJ d)] [.agg (bJ d)]:=by
 refine aD X call94 func94 ntmps94 rfl rfl ?_
 intro zb
 exact aF X [1,2] rfl (aQ X [] [(5,⟨true,[.a (.sl (.sl .u8) d.rows)]⟩)] [2] [] rfl (by(with_reducible and_intros)<;>first|exact⟨⟩|exact(tK d.rows (by first|assumption|omega| (simp;done)| (simp;omega)))) (ay (ah rfl ⟨rfl,⟨⟩⟩)))
theorem rW(rows:Int):So 219 [aL rows] [.agg (bJ (fA rows))]:=by
 refine aD X call219 func219 ntmps219 rfl rfl ?_
 intro zb
 refine aF X [0,2] rfl (aF X [0,2,3] rfl (lE 3 0 60 (.sl .u8) rfl (af (aQ X [] [(6,⟨false,[bl (inr rows 0 64)]⟩)] [0,2,3,6] [] rfl (by(with_reducible and_intros)<;>first|exact⟨⟩|exact(bB rows 0 64)) ?_))))
 refine az rfl ?_ ?_<;>intro hb0
 ·try simp only[bW]at hb0
  refine aF X [2,3,7,8] rfl ?_
  refine aG (aV (fun k=>k≤rows.toNat) (fun k:Nat=> [(8, .one ((aL k)))]) (fun k=> [(60, .arr (.sl .u8) ((fA rows).rows.take k))]) (fun k=>rows.toNat-k) 0 (fun k=>rfl) (aA _) rfl ?_)
  intro k hk
  have hle:=ct (fA rows).rows k
  have hnl:=qS rows
  refine aF X [2,3,7,8,9] rfl ?_
  refine af (az rfl ?_ ?_)<;>intro ck
  ·try simp only[bW]at ck
   have hs:=Hr rows k (by omega) (by omega)
   refine aE (af (aG (aZ X [(14,60)] [(500013,⟨true,[]⟩)] [2,3,7,8] [] 15 0 MO (by kernel_rfl) rfl (by kernel_rfl) (by and_intros<;>first|exact⟨⟩| (intros;omega)|exact rfl| (simp only[gl,maxLen,lens];omega)) (cN X [2,3,7,8] rfl ?_))))
   refine⟨k+1,by omega,by omega,?_⟩
   rw[cX _ k rfl (by omega),hs]
   try rfl
  ·try simp only[bW]at ck
   exact bn (aS X [2] rfl (by trivial) (ay (ah rfl ⟨by rw[JG _ _ (by omega)],⟨⟩⟩)))
 ·try simp only[bW]at hb0
  exact aE (aS X [2] rfl (by trivial) (ay (ah rfl ⟨by unfold fA;dsimp only;rw[if_neg (by omega)],⟨⟩⟩)))
theorem BR(d:DB)(i:Int)(c:List UInt8)(hs0:ga aR d.rows≤1048576)(hc:c.length≤1048576):So 251 [.agg (bJ d),aL i, .a (.sl .u8 c)] [.agg (bJ (Et d i c)),bl (nP d i c)]:=by
 refine aD X call251 func251 ntmps251 rfl rfl ?_
 intro zb
 have oc:d.rows.length≤1048576:=gd hs0
 refine aF X [1,2,3,6] rfl (aQ X [] [(10,⟨true,[.agg (bJ d)]⟩)] [1,2,3,6,8] [] rfl (by(with_reducible and_intros)<;>first|exact⟨⟩|exact(eH d (by first|assumption|omega| (simp;done)| (simp;omega)))) (af (af ?_)))
 have t1:=(bB i 0 (an.wrap ((d.rows.length:Int)-1)))
 refine bE X [] [(16,⟨false,dw t1⟩)] [1,2,6,8,22] [] rfl (by(with_reducible and_intros)<;>first|exact⟨⟩|exact t1) ?_
 refine az rfl ?_ ?_<;>intro hb0
 ·have IQ:nP d i c=false:=dB hb0 (by simp only[nP,bD]<;>first|rfl|ac_rfl)
  exact aS X [6,7] rfl (by trivial) (ay (ah rfl ⟨by rw[JH IQ],by rw[IQ],⟨⟩⟩))
 ·have IQ:nP d i c=true:=dy hb0 (by simp only[nP,bD]<;>first|rfl|ac_rfl)
  have hrb:=Fx oc IQ
  exact aE (af (aZ X [] [(28,⟨true,[.a (.sl .u8 _)]⟩)] [6,8] [] 63 0 MO (by kernel_rfl) rfl (by kernel_rfl) (by(with_reducible and_intros)<;>first|exact⟨⟩|exact(ez _ (by first|assumption|omega| (simp;done)| (simp;omega)))| (intros;omega)) (aS X [6,7] rfl (by trivial) (ay (ah rfl ⟨by rw[uq IQ],by rw[IQ],⟨⟩⟩)))))
theorem lU(a b:DB)(hs0:ga aR a.rows≤1048576)(hs1:ga aR b.rows≤1048576):So 163 [.agg (bJ a), .agg (bJ b)] [.agg (bJ (iU a b)),bl (kV a b)]:=by
 refine aD X call163 func163 ntmps163 rfl rfl ?_
 intro zb
 have hla:a.rows.length≤1048576:=gd hs0
 have hlb:b.rows.length≤1048576:=gd hs1
 refine aF X [2,3,4] rfl (aQ X [] [(10,⟨true,[.agg (bJ a)]⟩)] [2,3,4,6] [] rfl (by(with_reducible and_intros)<;>first|exact⟨⟩|exact(eH a (by first|assumption|omega| (simp;done)| (simp;omega)))) (af (aQ X [] [(12,⟨false,[bl (eB a)]⟩),(16,⟨false,[bl (eB b)]⟩)] [3,4,6,27] [] rfl (by(with_reducible and_intros);(iterate 2 all_goals try first|exact⟨⟩|exact(fF a)|exact fun _=>(fF b))) ?_)))
 refine az rfl ?_ ?_<;>intro hb0
 ·have zN:kV a b=false:=dB hb0 (by simp only[kV,bD]<;>first|rfl|ac_rfl)
  exact aS X [4,5] rfl (by trivial) (ay (ah rfl ⟨by rw[ur zN],by rw[zN],⟨⟩⟩))
 ·have zN:kV a b=true:=dy hb0 (by simp only[kV,bD]<;>first|rfl|ac_rfl)
  have hxb:=vB zN
  have hxl:=kW zN
  refine aE (af (aF X [4,6,30,31,32] rfl ?_))
  refine aG (aV (fun k=>k≤b.rows.length) (fun k:Nat=> [(32, .one ((aL k)))]) (fun k=> [(10, .arr (.sl .u8) ((iZ a b).take k++a.rows.drop k))]) (fun k=>b.rows.length-k) 0 (fun k=>rfl) (aA _) rfl ?_)
  intro k hk
  have hle:=nD (iZ a b) a.rows k hxl (by omega)
  refine aF X [4,6,30,31,32,33] rfl ?_
  refine af (az rfl ?_ ?_)<;>intro ck
  ·try simp only[bW]at ck
   have hs:=Nv zN k ck
   have ahl:(a.rows.getD k (aO (.sl .u8))).length≤1048576:=by rw[pe hxb.1 k (by omega)];decide
   have ajK:(b.rows.getD k (aO (.sl .u8))).length≤1048576:=by rw[pe hxb.2.1 k (by omega)];decide
   have hel:(((iZ a b).take k++a.rows.drop k).getD k (aO (.sl .u8))).length≤1048576:=by rw[aa7 zN k ck];exact ahl
   refine aE (af (aG (aS X [4,6,7,8,30,31,32] rfl (by and_intros<;>first|exact⟨⟩| (intros;omega)) ?_)))
   have t1:=(mu (((iZ a b).take k++a.rows.drop k).getD k (aO (.sl .u8))) (b.rows.getD k (aO (.sl .u8))) (by first|assumption|omega| (simp;done)| (simp;omega)) (by first|assumption|omega| (simp;done)| (simp;omega)))
   refine aZ X [] [(46,⟨true,dw t1⟩)] [4,6,30,31,32] [] 2047 0 MO (by kernel_rfl) rfl (by kernel_rfl) (by(with_reducible and_intros)<;>first|exact⟨⟩|exact t1| (intros;omega)) (cN X [4,6,30,31,32] rfl ?_)
   refine⟨k+1,by omega,by omega,?_⟩
   rw[cX _ k rfl (by omega),hs]
   try rfl
  ·try simp only[bW]at ck
   exact bn (aS X [4,5] rfl (by trivial) (ay (ah rfl ⟨by rw[qJ _ _ _ hxl (by omega),qU zN],by rw[zN],⟨⟩⟩)))
theorem BS(x:cm)(c:Int)(tI:x.aC.length≤1048576):So 154 [.agg (cq x),aL c] [.a (.sl .int (kX x c))]:=by
 refine aD X call154 func154 ntmps154 rfl rfl ?_
 intro zb
 have hw:an.wrap ((x.aC.length:Int)-1)=(x.aC.length:Int)-1:=dA (by omega)
 refine aF X [1,2] rfl (aS X [1,2,5] rfl (by and_intros<;>first|exact⟨⟩|exact rfl) (af (aF X [1,2,5,12,13] rfl ?_)))
 refine aG (aV (fun k=>k≤(x.aC.length-1)) (fun k:Nat=> [(13, .one ((aL k)))]) (fun k=> [(7, .arr .int ((kX x c).take k))]) (fun k=>(x.aC.length-1)-k) 0 (fun k=>rfl) (aA _) rfl ?_)
 intro k hk
 have hle:=ct (kX x c) k
 have hrl:=mM x c
 refine aF X [1,2,5,12,13,14] rfl ?_
 refine af (az rfl ?_ ?_)<;>intro hb0
 ·try simp only[bW]at hb0
  rw[RR _ tI]at hb0
  have hs:=Eu x c k (by omega)
  refine aE (af (aG (aF X [1,2,5,6,12,13] rfl (bE X [(26,7)] [(24,⟨false,[aL (kh x.seed [223,x.round,c,(k:Int)])]⟩)] [1,2,5,12,13] [] rfl (by(repeat' with_reducible first|exact bF|refine bS ?_ ?_|apply aT)<;>first|exact(cV x.seed [223,x.round,c,(k:Int)] (by first|assumption|omega| (simp;done)| (simp;omega)))|exact rfl|exact⟨rfl,cB _ (by decide)⟩| (simp only[gl,maxLen,lens];omega)) ?_))))
  refine cN X [1,2,5,12,13] rfl ?_
  refine⟨k+1,by omega,by omega,?_⟩
  rw[cX _ k rfl (by omega),hs]
  try rfl
 ·try simp only[bW]at hb0
  rw[RR _ tI]at hb0
  exact bn (aF X [4] rfl (ay (ah rfl ⟨by rw[aB (by omega)],⟨⟩⟩)))
theorem rX(rows:Int):So 238 [aL rows] [.agg (bJ (fA rows))]:=by
 refine aD X call238 func238 ntmps238 rfl rfl ?_
 intro zb
 refine aF X [0,2] rfl (aF X [0,2,3] rfl (lE 3 0 60 (.sl .u8) rfl (af (aF X [0,2,3,4] rfl ?_))))
 refine aG (aV (fun k=>k≤(fA rows).rows.length) (fun k:Nat=> [(4, .one ((aL k)))]) (fun k=> [(60, .arr (.sl .u8) ((fA rows).rows.take k))]) (fun k=>(fA rows).rows.length-k) 0 (fun k=>rfl) (aA _) rfl ?_)
 intro k hk
 have hle:=ct (fA rows).rows k
 have hnl:=qS rows
 refine af (aF X [0,2,3,4,12] rfl ?_)
 refine az rfl ?_ ?_<;>intro hb0
 ·try simp only[bW]at hb0
  have hin:=Xr rows k (by omega) (by omega)
  have hs:=Hr rows k (by omega) (by omega)
  refine aE (af (aG (aZ X [(19,60)] [(500018,⟨true,[]⟩)] [0,2,3,4] [] 15 0 MO (by kernel_rfl) rfl (by kernel_rfl) (by and_intros<;>first|exact⟨⟩| (intros;omega)|exact rfl| (simp only[gl,maxLen,lens];omega)) (cN X [0,2,3,4] rfl ?_))))
  refine⟨k+1,by omega,by omega,?_⟩
  rw[cX _ k rfl (by omega),hs]
  try rfl
 ·try simp only[bW]at hb0
  exact bn (aS X [2] rfl (by trivial) (ay (ah rfl ⟨by rw[JG _ _ (by omega)],⟨⟩⟩)))
theorem BT(d:DB)(i:Int)(c:List UInt8)(hs0:ga aR d.rows≤1048576)(hc:c.length≤1048576):So 237 [.agg (bJ d),aL i, .a (.sl .u8 c)] [.agg (bJ (Et d i c)),bl (nP d i c)]:=by
 refine aD X call237 func237 ntmps237 rfl rfl ?_
 intro zb
 have oc:d.rows.length≤1048576:=gd hs0
 refine aF X [1,2,3,6] rfl (aQ X [] [(10,⟨true,[.agg (bJ d)]⟩)] [1,2,3,6,8] [] rfl (by(with_reducible and_intros)<;>first|exact⟨⟩|exact(gJ d (by first|assumption|omega| (simp;done)| (simp;omega)))) (af (af ?_)))
 have t1:=(bU i 0 (an.wrap ((d.rows.length:Int)-1)))
 refine bE X [] [(16,⟨false,dw t1⟩)] [1,2,6,8,22] [] rfl (by(with_reducible and_intros)<;>first|exact⟨⟩|exact t1) ?_
 refine az rfl ?_ ?_<;>intro hb0
 ·have IQ:nP d i c=false:=dB hb0 (by simp only[nP,bD]<;>first|rfl|ac_rfl)
  exact aS X [6,7] rfl (by trivial) (ay (ah rfl ⟨by rw[JH IQ],by rw[IQ],⟨⟩⟩))
 ·have IQ:nP d i c=true:=dy hb0 (by simp only[nP,bD]<;>first|rfl|ac_rfl)
  have hrb:=Fx oc IQ
  exact aE (af (aZ X [(29,27)] [] [6,8] [] 95 5 MO (by kernel_rfl) rfl (by kernel_rfl) (by and_intros<;>first|exact⟨⟩| (intros;omega)|exact rfl| (simp only[gl,maxLen,lens];omega)) (aS X [6,7] rfl (by trivial) (ay (ah rfl ⟨by rw[uq IQ];rfl,by rw[IQ],⟨⟩⟩)))))
theorem lV(a b:DB)(hs0:ga aR a.rows≤1048576)(hs1:ga aR b.rows≤1048576):So 195 [.agg (bJ a), .agg (bJ b)] [.agg (bJ (iU a b)),bl (kV a b)]:=by
 refine aD X call195 func195 ntmps195 rfl rfl ?_
 intro zb
 have hla:a.rows.length≤1048576:=gd hs0
 have hlb:b.rows.length≤1048576:=gd hs1
 refine aF X [2,3,4] rfl (af (aQ X [] [(9,⟨false,[bl (eB a)]⟩),(13,⟨false,[bl (eB b)]⟩)] [2,3,4,24] [] rfl (by(with_reducible and_intros);(iterate 2 all_goals try first|exact⟨⟩|exact(eR a)|exact fun _=>(eR b))) ?_))
 refine az rfl ?_ ?_<;>intro hb0
 ·have zN:kV a b=false:=dB hb0 (by simp only[kV,bD]<;>first|rfl|ac_rfl)
  exact aQ X [] [(26,⟨true,[.agg (bJ a)]⟩)] [4,5] [] rfl (by(with_reducible and_intros)<;>first|exact⟨⟩|exact(gJ a (by first|assumption|omega| (simp;done)| (simp;omega)))) (ay (ah rfl ⟨by rw[ur zN],by rw[zN],⟨⟩⟩))
 ·have zN:kV a b=true:=dy hb0 (by simp only[kV,bD]<;>first|rfl|ac_rfl)
  have hxb:=vB zN
  have hxl:=kW zN
  refine aE (aF X [2,3,4,6] rfl (lE 6 0 60 (.sl .u8) rfl (af (aF X [2,3,4,6,7] rfl ?_))))
  refine aG (aV (fun k=>k≤a.rows.length) (fun k:Nat=> [(7, .one ((aL k)))]) (fun k=> [(60, .arr (.sl .u8) ((iZ a b).take k))]) (fun k=>a.rows.length-k) 0 (fun k=>rfl) (aA _) rfl ?_)
  intro k hk
  have hle:=ct (iZ a b) k
  refine af (aF X [2,3,4,6,7,32] rfl ?_)
  refine az rfl ?_ ?_<;>intro ck
  ·try simp only[bW]at ck
   have hs:=Nu zN k ck
   have ahl:(a.rows.getD k (aO (.sl .u8))).length≤1048576:=by rw[pe hxb.1 k (by omega)];decide
   have ajK:(b.rows.getD k (aO (.sl .u8))).length≤1048576:=by rw[pe hxb.2.1 k (by omega)];decide
   refine aE (af (aG ?_))
   have t1:=(mw (a.rows.getD k (aO (.sl .u8))) (b.rows.getD k (aO (.sl .u8))) (by first|assumption|omega| (simp;done)| (simp;omega)) (by first|assumption|omega| (simp;done)| (simp;omega)))
   refine aZ X [(49,60)] [(47,⟨true,dw t1⟩),(500048,⟨true,[]⟩)] [2,3,4,6,7] [] 16383 0 MO (by kernel_rfl) rfl (by kernel_rfl) (by(repeat' with_reducible first|exact bF|refine bS ?_ ?_|apply aT)<;>first|exact t1| (intros;omega)|exact rfl|exact⟨rfl,cB _ (by decide)⟩| (simp only[gl,maxLen,lens];omega)) ?_
   refine cN X [2,3,4,6,7] rfl ?_
   refine⟨k+1,by omega,by omega,?_⟩
   rw[cX _ k rfl (by omega),hs]
   try rfl
  ·try simp only[bW]at ck
   exact bn (aS X [4,5] rfl (by trivial) (ay (ah rfl ⟨by rw[aB (by omega),qU zN],by rw[zN],⟨⟩⟩)))
theorem BU(x:cm)(c:Int)(tI:x.aC.length≤1048576):So 191 [.agg (cq x),aL c] [.a (.sl .int (kX x c))]:=by
 refine aD X call191 func191 ntmps191 rfl rfl ?_
 intro zb
 have hw:an.wrap ((x.aC.length:Int)-1)=(x.aC.length:Int)-1:=dA (by omega)
 refine aF X [1,2] rfl (aS X [1,2,5] rfl (by and_intros<;>first|exact⟨⟩|exact rfl) (af (aF X [1,2,5,6] rfl ?_)))
 refine aG (aV (fun k=>k≤(x.aC.length-1)) (fun k:Nat=> [(6, .one ((aL k)))]) (fun k=> [(7, .arr .int ((kX x c).take k))]) (fun k=>(x.aC.length-1)-k) 0 (fun k=>rfl) (aA _) rfl ?_)
 intro k hk
 have hle:=ct (kX x c) k
 have hrl:=mM x c
 refine af (aF X [1,2,5,6,13] rfl ?_)
 refine az rfl ?_ ?_<;>intro hb0
 ·try simp only[bW]at hb0
  rw[hw]at hb0
  have hs:=Eu x c k (by omega)
  refine aE (af (aG (bE X [(26,7)] [(24,⟨false,[aL (kh x.seed [223,x.round,c,(k:Int)])]⟩)] [1,2,5,6] [] rfl (by(repeat' with_reducible first|exact bF|refine bS ?_ ?_|apply aT)<;>first|exact(cC x.seed [223,x.round,c,(k:Int)] (by first|assumption|omega| (simp;done)| (simp;omega)))|exact rfl|exact⟨rfl,cB _ (by decide)⟩| (simp only[gl,maxLen,lens];omega)) ?_)))
  refine cN X [1,2,5,6] rfl ?_
  refine⟨k+1,by omega,by omega,?_⟩
  rw[cX _ k rfl (by omega),hs]
  try rfl
 ·try simp only[bW]at hb0
  rw[hw]at hb0
  exact bn (aF X [4] rfl (ay (ah rfl ⟨by rw[aB (by omega)],⟨⟩⟩)))
theorem Dm(rows i:Int)(c:List UInt8)(hc:c.length≤1048576):So 215 [aL rows,aL i, .a (.sl .u8 c)] [.agg (bJ (Nw rows i c)),bl (qt rows i c)]:=by
 refine aD X call215 func215 ntmps215 rfl rfl ?_
 intro zb
 have hz:=JI rows
 refine aF X [0,1,2,6] rfl (af (aQ X [] [(9,⟨false,[bl (inr rows 1 64)]⟩)] [0,1,2,6,10] [] rfl (by(with_reducible and_intros)<;>first|exact⟨⟩|exact(bB rows 1 64)) ?_))
 refine az rfl ?_ ?_<;>intro hb0
 ·have hk:inr rows 1 64=false:=by simpa using hb0
  exact aS X [6,7] rfl (by trivial) (ay (ah rfl ⟨by rw[Nw,hk];rfl,by rw[qt,hk];rfl,⟨⟩⟩))
 ·have hk:inr rows 1 64=true:=by simpa using hb0
  refine aE (af ?_)
  have t1:=(BR (fA rows) i c (by first|assumption|omega| (simp;done)| (simp;omega)) (by first|assumption|omega| (simp;done)| (simp;omega)))
  exact bE X [] [(13,⟨true,[.agg (bJ (fA rows))]⟩),(16,⟨true,dw t1⟩)] [6,7] [] rfl (by(with_reducible and_intros);(iterate 2 all_goals try first|exact⟨⟩|exact(rW rows)|exact t1)) (ay (ah rfl ⟨by rw[Nw,if_pos hk],by rw[qt,hk];rfl,⟨⟩⟩))
end
section
set_option maxRecDepth 100000
theorem Dn(rows i:Int)(c:List UInt8)(sd:List Int)(hc:c.length≤1048576)(By:sd.length≤1048576):So 153 [aL rows,aL i, .a (.sl .u8 c), .a (.sl .int sd)] [.a (.sl .DB (rY rows i c sd))]:=by
 refine aD X call153 func153 ntmps153 rfl rfl ?_
 intro zb
 refine aF X [0,1,2,3] rfl (aQ X [] [(20,⟨true,[.agg (bJ (Nw rows i c)),bl (qt rows i c)]⟩)] [0,3,9,10] [] rfl (by(with_reducible and_intros)<;>first|exact⟨⟩|exact(Dm rows i c (by first|assumption|omega| (simp;done)| (simp;omega)))) (af (aQ X [] [(29,⟨false,[bl (eA (an.wrap ((sd.length:Int)+1)))]⟩)] [0,3,9,31] [] rfl (by(with_reducible and_intros)<;>first|exact⟨⟩|exact fun _=>(gP (an.wrap ((sd.length:Int)+1)))) ?_)))
 refine az rfl ?_ ?_<;>intro hb0
 ·have hmk:tM rows i c sd=false:=dB hb0 (by simp only[tM,bD]<;>first|rfl|ac_rfl)
  exact aF X [8] rfl (ay (ah rfl ⟨by rw[rY,if_neg (by rw[hmk];decide)],⟨⟩⟩))
 ·have hmk:tM rows i c sd=true:=dy hb0 (by simp only[tM,bD]<;>first|rfl|ac_rfl)
  have hml:=NG hmk By
  have hun:=Au hml.1
  refine aE (aS X [0,3,9,11] rfl (by and_intros<;>first|exact⟨⟩|exact rfl) (af (aF X [0,9,11,33,34,35] rfl ?_)))
  refine aG (aV (fun k=>k≤sd.length) (fun k:Nat=> [(35, .one ((aL k)))]) (fun k=> [(32, .arr .DB ((sd.take k).map fun s=>Qe s rows)),(20, .arr (.sl .u8) (vU rows i c (sd.take k)).rows)]) (fun k=>sd.length-k) 0 (fun k=>rfl) (aA _) rfl ?_)
  intro k hk
  have hle:=ct sd k
  have hlo:=HA hml.1 (sd.take k)
  have hlz:=gk hlo
  refine aF X [0,9,11,33,34,35,36] rfl ?_
  refine af (az rfl ?_ ?_)<;>intro ck
  ·try simp only[bW]at ck
   have hs:=pT (fun s=>Qe s rows) sd k (aO .int) ck
   have zI:=Hz rows i c sd k ck
   have hmo:=Hy (sd.getD k (aO .int)) rows hun.2.2
   have hmz:=gk hmo
   refine aE (af (aG (aS X [0,9,11,13,33,34,35] rfl (by and_intros<;>first|exact⟨⟩| (intros;omega)) (aF X [0,9,11,13,14,33,34,35] rfl (lE 14 0 60 (.sl .u8) rfl (af (aF X [0,9,11,13,14,33,34,35,40,41] rfl ?_)))))))
   refine aG (aV (fun k1=>k1≤rows.toNat) (fun k1:Nat=> [(41, .one ((aL k1)))]) (fun k1=> [(60, .arr (.sl .u8) ((jT (sd.getD k (aO .int)) rows).take k1))]) (fun k1=>rows.toNat-k1) 0 (fun k1=>rfl) (aA _) rfl ?_)
   intro k1 hk1
   have aa2:=ct (jT (sd.getD k (aO .int)) rows) k1
   refine aF X [0,9,11,13,14,33,34,35,40,41,42] rfl ?_
   refine af (az rfl ?_ ?_)<;>intro dS
   ·try simp only[bW]at dS
    have hs1:=BV (sd.getD k (aO .int)) rows k1 (by omega)
    refine aE (af (aG (aF X [0,9,11,13,14,15,33,34,35,40,41] rfl ?_)))
    have t1:=(mH (an.wrap ((sd.getD k (aO .int))+an.wrap (1000*(k1:Int)))) 24 (by first|assumption|omega| (simp;done)| (simp;omega)) (by first|assumption|omega| (simp;done)| (simp;omega)))
    refine aZ X [(52,60)] [(50,⟨true,dw t1⟩),(500051,⟨true,[]⟩)] [0,9,11,13,14,33,34,35,40,41] [] 255 0 MO (by kernel_rfl) rfl (by kernel_rfl) (by(repeat' with_reducible first|exact bF|refine bS ?_ ?_|apply aT)<;>first|exact t1|exact rfl|exact⟨rfl,cB _ (by decide)⟩| (simp only[gl,maxLen,lens];omega)) ?_
    refine cN X [0,9,11,13,14,33,34,35,40,41] rfl ?_
    refine⟨k1+1,by omega,by omega,?_⟩
    rw[cX _ k1 rfl (by omega),hs1]
    try rfl
   ·try simp only[bW]at dS
    rw[aB (show(jT (sd.getD k (aO .int)) rows).length≤k1 by rw[mZ];omega)]
    refine bn (af (RS X [(58,32)] [] [0,9,11,14,33,34,35] 2 32 rfl (by and_intros<;>first|exact⟨⟩|exact rfl| (simp only[gl,maxLen,lens];omega)) ?_))
    have t1:=(lU (vU rows i c (sd.take k)) (Qe (sd.getD k (aO .int)) rows) (by first|assumption|omega| (simp;done)| (simp;omega)) (by first|assumption|omega| (simp;done)| (simp;omega)))
    refine bE X [] [(62,⟨true,dw t1⟩)] [0,9,11,33,34,35] [] rfl (by(with_reducible and_intros)<;>first|exact⟨⟩|exact t1) (oS 9 0 20 rfl (cN X [0,9,11,33,34,35] rfl ?_))
    refine⟨k+1,by omega,by omega,?_⟩
    rw[cX _ k rfl (by omega),hs,zI]
    try rfl
  ·try simp only[bW]at ck
   exact bn (aQ X [(69,32)] [] [8] [] rfl (by and_intros<;>first|exact⟨⟩|exact rfl| (simp only[gl,maxLen,lens];omega)) (ay (ah rfl ⟨by rw[aB ck,rY,if_pos hmk],⟨⟩⟩)))
theorem IS(rows i:Int)(c:List UInt8):So 236 [aL rows,aL i, .a (.sl .u8 c)] [bl (qt rows i c)]:=by
 refine aD X call236 func236 ntmps236 rfl rfl ?_
 intro zb
 exact aF X [0,1,2] rfl (aQ X [] [(8,⟨false,[bl (inr rows 1 64)]⟩),(13,⟨false,[bl (inr i 0 (an.wrap (rows-1)))]⟩)] [6] [] rfl (by(with_reducible and_intros);(iterate 2 all_goals try first|exact⟨⟩|exact(bU rows 1 64)|exact fun _=>(bU i 0 (an.wrap (rows-1))))) (ay (ah rfl ⟨by rw[HB];exact(congrArg dO (by simp only[bD]<;>first|rfl|ac_rfl)),⟨⟩⟩)))
theorem Dp(rows i:Int)(c:List UInt8)(sd:List Int)(hc:c.length≤1048576)(By:sd.length≤1048576):So 190 [aL rows,aL i, .a (.sl .u8 c), .a (.sl .int sd)] [.a (.sl .DB (rY rows i c sd))]:=by
 refine aD X call190 func190 ntmps190 rfl rfl ?_
 intro zb
 have hz:=JI rows
 refine aF X [0,1,2,3] rfl (aS X [0,1,2,3,9] rfl (by and_intros<;>first|exact⟨⟩|exact rfl) (af (aQ X [] [(19,⟨false,[bl (qt rows i c)]⟩),(25,⟨false,[bl (eA (an.wrap ((sd.length:Int)+1)))]⟩)] [0,1,2,3,9,27] [] rfl (by(with_reducible and_intros);(iterate 2 all_goals try first|exact⟨⟩|exact(IS rows i c)|exact fun _=>(jG (an.wrap ((sd.length:Int)+1))))) ?_)))
 refine az rfl ?_ ?_<;>intro hb0
 ·have hmk:tM rows i c sd=false:=dB hb0 (by simp only[tM,bD]<;>first|rfl|ac_rfl)
  exact aF X [8] rfl (ay (ah rfl ⟨by rw[rY,if_neg (by rw[hmk];decide)],⟨⟩⟩))
 ·have hmk:tM rows i c sd=true:=dy hb0 (by simp only[tM,bD]<;>first|rfl|ac_rfl)
  have hml:=NG hmk By
  have hun:=Au hml.1
  refine aE (af ?_)
  have t1:=(BT (fA rows) i c (by first|assumption|omega| (simp;done)| (simp;omega)) (by first|assumption|omega| (simp;done)| (simp;omega)))
  refine bE X [] [(31,⟨true,[.agg (bJ (fA rows))]⟩),(34,⟨true,dw t1⟩)] [0,3,9,10] [] rfl (by(with_reducible and_intros);(iterate 2 all_goals try first|exact⟨⟩|exact(rX rows)|exact t1)) ?_
  rw[abd hmk]
  refine af (aF X [0,3,9,10,12] rfl ?_)
  refine aG (aV (fun k=>k≤sd.length) (fun k:Nat=> [(12, .one ((aL k)))]) (fun k=> [(15, .arr .DB ((sd.take k).map fun s=>Qe s rows)),(34, .arr (.sl .u8) (vU rows i c (sd.take k)).rows)]) (fun k=>sd.length-k) 0 (fun k=>rfl) (aA _) rfl ?_)
  intro k hk
  have hle:=ct sd k
  have hlo:=HA hml.1 (sd.take k)
  have hlz:=gk hlo
  refine af (aF X [0,3,9,10,12,40] rfl ?_)
  refine az rfl ?_ ?_<;>intro ck
  ·try simp only[bW]at ck
   have hs:=pT (fun s=>Qe s rows) sd k (aO .int) ck
   have zI:=Hz rows i c sd k ck
   have hmo:=Hy (sd.getD k (aO .int)) rows hun.2.2
   have hmz:=gk hmo
   refine aE (af (aG (aF X [0,3,9,10,12,13] rfl (lE 13 0 60 (.sl .u8) rfl (af (aF X [0,3,9,10,12,13,14] rfl ?_))))))
   refine aG (aV (fun k1=>k1≤rows.toNat) (fun k1:Nat=> [(14, .one ((aL k1)))]) (fun k1=> [(60, .arr (.sl .u8) ((jT (sd.getD k (aO .int)) rows).take k1))]) (fun k1=>rows.toNat-k1) 0 (fun k1=>rfl) (aA _) rfl ?_)
   intro k1 hk1
   have aa2:=ct (jT (sd.getD k (aO .int)) rows) k1
   refine af (aF X [0,3,9,10,12,13,14,46] rfl ?_)
   refine az rfl ?_ ?_<;>intro dS
   ·try simp only[bW]at dS
    have hs1:=BV (sd.getD k (aO .int)) rows k1 (by omega)
    refine aE (af (aG ?_))
    have t1:=(mI (an.wrap ((sd.getD k (aO .int))+an.wrap (1000*(k1:Int)))) 24 (by first|assumption|omega| (simp;done)| (simp;omega)) (by first|assumption|omega| (simp;done)| (simp;omega)))
    refine aZ X [(60,60)] [(58,⟨true,dw t1⟩),(500059,⟨true,[]⟩)] [0,3,9,10,12,13,14] [] 2047 0 MO (by kernel_rfl) rfl (by kernel_rfl) (by(repeat' with_reducible first|exact bF|refine bS ?_ ?_|apply aT)<;>first|exact t1| (intros;omega)|exact rfl|exact⟨rfl,cB _ (by decide)⟩| (simp only[gl,maxLen,lens];omega)) ?_
    refine cN X [0,3,9,10,12,13,14] rfl ?_
    refine⟨k1+1,by omega,by omega,?_⟩
    rw[cX _ k1 rfl (by omega),hs1]
    try rfl
   ·try simp only[bW]at dS
    rw[aB (show(jT (sd.getD k (aO .int)) rows).length≤k1 by rw[mZ];omega)]
    refine bn (af ?_)
    have t1:=(lV (vU rows i c (sd.take k)) (Qe (sd.getD k (aO .int)) rows) (by first|assumption|omega| (simp;done)| (simp;omega)) (by first|assumption|omega| (simp;done)| (simp;omega)))
    refine bE X [] [(65,⟨true,dw t1⟩)] [0,3,9,10,12,13] [] rfl (by(with_reducible and_intros)<;>first|exact⟨⟩|exact t1) (oS 10 0 34 rfl (bE X [(71,15)] [] [0,3,9,10,12] [] rfl (by and_intros<;>first|exact⟨⟩|exact rfl| (simp only[gl,maxLen,lens];omega)) (cN X [0,3,9,10,12] rfl ?_)))
    refine⟨k+1,by omega,by omega,?_⟩
    rw[cX _ k rfl (by omega),hs,zI]
    try rfl
  ·try simp only[bW]at ck
   exact bn (aQ X [(75,15)] [] [8] [] rfl (by and_intros<;>first|exact⟨⟩|exact rfl| (simp only[gl,maxLen,lens];omega)) (ay (ah rfl ⟨by rw[aB ck,rY,if_pos hmk],⟨⟩⟩)))
end
section
set_option maxRecDepth 100000
theorem Aw(x:cm)(c:Int)(tI:x.aC.length≤1048576):So 99 [.agg (cq x),aL c] [.a (.sl .DB (nS x c))]:=by
 refine aD X call99 func99 ntmps99 rfl rfl ?_
 intro zb
 refine dn 0 2 rfl rfl (fun qN=> ?_)
 have zZ:=HC (m6 x c) x.round x.rows
 have hwl:=mM x c
 refine aF X [1,2] rfl (af (aQ X [] [(9,⟨false,[bl (okW x)]⟩),(14,⟨false,[bl (vv x c)]⟩)] [1,2,16] [] rfl (by(with_reducible and_intros);(iterate 2 all_goals try first|exact⟨⟩|exact(eX x)|exact fun _=>(oP x c))) ?_))
 refine az rfl ?_ ?_<;>intro hb0
 ·have hk:NI x c=false:=dB hb0 (by simp only[NI,bD]<;>first|rfl|ac_rfl)
  exact aF X [4] rfl (ay (ah rfl ⟨by rw[nS,if_neg (by rw[hk];decide)],⟨⟩⟩))
 ·have hk:NI x c=true:=dy hb0 (by simp only[NI,bD]<;>first|rfl|ac_rfl)
  have hkc:=aeO hk
  refine aE (af ?_)
  have t1:=(rU (m6 x c) x.round x.rows)
  refine aZ X [] [(28,⟨true,dw t1⟩)] [1,2,5,6,7] [] 262143 0 MO (by kernel_rfl) rfl (by kernel_rfl) (by(with_reducible and_intros)<;>first|exact⟨⟩|exact t1| (intros;omega)) (af (aF X [1,2,5,6,33] rfl ?_))
  refine az rfl ?_ ?_<;>intro ck
  ·have hw:rS (m6 x c) x.round x.rows=false:=by simpa using ck
   exact aF X [4] rfl (ay (ah rfl ⟨by rw[nS,if_pos hk,NH hw],⟨⟩⟩))
  ·refine aE (af ?_)
   have t1:=(Dn x.rows (jH (m6 x c) x.round x.rows) (gF (m6 x c) x.round x.rows) (kX x c) (by first|assumption|omega| (simp;done)| (simp;omega)) (by first|assumption|omega| (simp;done)| (simp;omega)))
   exact aZ X [] [(40,⟨true,[.a (.sl .int (kX x c))]⟩),(41,⟨true,dw t1⟩)] [4] [] 511 0 MO (by kernel_rfl) rfl (by kernel_rfl) (by(with_reducible and_intros);(iterate 2 all_goals try first|exact⟨⟩|exact(BS x c (by first|assumption|omega| (simp;done)| (simp;omega)))|exact t1)) (ay (ah rfl ⟨by rw[nS,if_pos hk];rfl,⟨⟩⟩))
theorem Dq(x:cm)(c:Int)(tI:x.aC.length≤1048576)(hc:0≤c∧c<x.aq.length):So 128 [.agg (cq x),aL c] [.a (.sl .DB (e9 x c))]:=by
 refine aD X call128 func128 ntmps128 rfl rfl ?_
 intro zb
 refine dn 0 2 rfl rfl (fun qN=> ?_)
 have zZ:=HC (m6 x c) x.round x.rows
 have hwl:=mM x c
 refine aF X [1,2] rfl (af ?_)
 have t1:=(Aq (m6 x c) x.round x.rows)
 refine aZ X [] [(19,⟨true,dw t1⟩)] [1,2,5,6] [] 262143 0 MO (by kernel_rfl) rfl (by kernel_rfl) (by(with_reducible and_intros)<;>first|exact⟨⟩|exact t1| (intros;omega)) (af ?_)
 have t1:=(Dp x.rows (jH (m6 x c) x.round x.rows) (gF (m6 x c) x.round x.rows) (kX x c) (by first|assumption|omega| (simp;done)| (simp;omega)) (by first|assumption|omega| (simp;done)| (simp;omega)))
 exact aZ X [] [(29,⟨true,[.a (.sl .int (kX x c))]⟩),(30,⟨true,dw t1⟩)] [4] [] 511 0 MO (by kernel_rfl) rfl (by kernel_rfl) (by(with_reducible and_intros);(iterate 2 all_goals try first|exact⟨⟩|exact(BU x c (by first|assumption|omega| (simp;done)| (simp;omega)))|exact t1)) (ay (ah rfl ⟨rfl,⟨⟩⟩))
end
section
set_option maxRecDepth 100000
theorem lH(m s:Int):So 102 [aL m,aL s] [aL (j6 m s)]:=by
 refine aD X call102 func102 ntmps102 rfl rfl ?_
 intro zb
 refine aF X [0,1] rfl (aQ X [] [(8,⟨false,[aL (kh m [173,s])]⟩),(9,⟨false,[aL (Ej (kh m [173,s]))]⟩)] [4] [] rfl (by(repeat' with_reducible first|exact bF|refine bS ?_ ?_|apply aT);(iterate 2 all_goals try first|exact(cV m [173,s] (by first|assumption|omega| (simp;done)| (simp;omega)))|exact(vo (kh m [173,s])));all_goals first|exact⟨rfl,cB _ (by decide)⟩) ?_)
 exact ay (ah rfl ⟨rfl,⟨⟩⟩)
theorem wu(d:DB)(hs0:ga aR d.rows≤1048576):So 218 [.agg (bJ d)] [aL (Ll d)]:=by
 refine aD X call218 func218 ntmps218 rfl rfl ?_
 intro zb
 have oc:d.rows.length≤1048576:=gd hs0
 refine aF X [1] rfl (aS X [1,3] rfl (by and_intros<;>first|exact⟨⟩|exact rfl) (af (aF X [3,11,12,13] rfl ?_)))
 refine aG (aV (fun k=>k≤d.rows.length) (fun k:Nat=> [(13, .one ((aL k)))]) (fun k=> [(9, .arr .int ((d.rows.length:Int)::(d.rows.take k).flatMap Iw))]) (fun k=>d.rows.length-k) 0 (fun k=>rfl) (aA _) rfl ?_)
 intro k hk
 have zi:=Xz d.rows k
 refine aF X [3,11,12,13,14] rfl ?_
 refine af (az rfl ?_ ?_)<;>intro hb0
 ·try simp only[bW]at hb0
  have hs:=R2 d.rows k hb0
  have hel:(d.rows.getD k (aO (.sl .u8))).length≤1048576:=o7 (f:=aR) hs0 (getD_some d.rows _ k hb0)
  have Gi:=vE (d.rows.getD k (aO (.sl .u8)))
  refine aE (af (aG (aS X [3,5,11,12,13] rfl (by and_intros<;>first|exact⟨⟩| (intros;omega)) (bE X [(20,9)] [(19,⟨true,[.a (.sl .int (Iw (d.rows.getD k (aO (.sl .u8)))))]⟩)] [3,11,12,13] [] rfl (by(with_reducible and_intros)<;>first|exact⟨⟩|exact(rN (d.rows.getD k (aO (.sl .u8))) (by first|assumption|omega| (simp;done)| (simp;omega)))|exact rfl| (simp only[gl,maxLen,lens];omega)) (cN X [3,11,12,13] rfl ?_)))))
  refine⟨k+1,by omega,by omega,?_⟩
  rw[cX _ k rfl (by omega),hs]
  try rfl
 ·try simp only[bW]at hb0
  refine bn (af ?_)
  have t1:=(xz ((d.rows.length:Int)::(d.rows.take k).flatMap Iw) (by simp only[bY];omega))
  exact bE X [] [(23,⟨false,dw t1⟩)] [2] [] rfl (by(with_reducible and_intros)<;>first|exact⟨⟩|exact t1) (ay (ah rfl ⟨by rw[aB hb0];rfl,⟨⟩⟩))
theorem so(c r:Int)(d:DB)(hs0:ga aR d.rows≤1048576):So 159 [aL c,aL r, .agg (bJ d)] [aL (HH c r d)]:=by
 refine aD X call159 func159 ntmps159 rfl rfl ?_
 intro zb
 refine aF X [0,1,5] rfl (aQ X [] [(10,⟨false,[aL (Ll d)]⟩),(12,⟨false,[aL (hsh [179,c,r,Ll d])]⟩)] [6] [] rfl (by(repeat' with_reducible first|exact bF|refine bS ?_ ?_|apply aT);(iterate 2 all_goals try first|exact(wu d (by first|assumption|omega| (simp;done)| (simp;omega)))|exact(xz [179,c,r,Ll d] (by first|assumption|omega| (simp;done)| (simp;omega))));all_goals first|exact⟨rfl,cB _ (by decide)⟩) ?_)
 exact ay (ah rfl ⟨rfl,⟨⟩⟩)
theorem td(key:Int)(r:gB):So 160 [aL key, .agg (nk r)] [aL (Uj key r.server r.client r.round r.qZ)]:=by
 refine aD X call160 func160 ntmps160 rfl rfl ?_
 intro zb
 refine aF X [0,3] rfl (af ?_)
 have t1:=(cV key [181,r.server,r.client,r.round,r.qZ] (by first|assumption|omega| (simp;done)| (simp;omega)))
 refine bE X [] [(15,⟨false,dw t1⟩)] [4] [] rfl (by(repeat' with_reducible first|exact bF|refine bS ?_ ?_|apply aT)<;>first|exact t1|exact⟨rfl,cB _ (by decide)⟩) ?_
 exact ay (ah rfl ⟨rfl,⟨⟩⟩)
theorem Az(key s c r:Int)(d:DB)(hs0:ga aR d.rows≤1048576):So 101 [aL key,aL s,aL c,aL r, .agg (bJ d)] [.agg (nk (mkR key s c r d))]:=by
 refine aD X call101 func101 ntmps101 rfl rfl ?_
 intro zb
 refine aF X [0,1,2,3,9,10] rfl (aQ X [] [(18,⟨false,[aL (HH c r d)]⟩)] [0,10,11] [] rfl (by(with_reducible and_intros)<;>first|exact⟨⟩|exact(so c r d (by first|assumption|omega| (simp;done)| (simp;omega)))) (af ?_))
 have t1:=(td key (⟨s,c,r,HH c r d,0⟩:gB))
 exact bE X [] [(22,⟨false,dw t1⟩)] [10,11] [] rfl (by(with_reducible and_intros)<;>first|exact⟨⟩|exact t1) (aS X [10] rfl (by trivial) (ay (ah rfl ⟨rfl,rfl,rfl,rfl,rfl,⟨⟩⟩)))
theorem kC(s:cg)(hz:s.received.length≤1048576∧ ∀r,r∈s.received→ga aR r.share.rows≤1048576):So 147 [.agg (dr s)] [.agg (dr s)]:=by
 refine aD X call147 func147 ntmps147 rfl rfl ?_
 intro zb
 refine aF X [1,2] rfl (aS X [1,2,3] rfl (by and_intros<;>first|exact⟨⟩|exact rfl) (af (aF X [1,2,3,8,9,10] rfl ?_)))
 refine aG (aV (fun k=>k≤s.received.length) (fun k:Nat=> [(10, .one ((aL k)))]) (fun k=> [(6, .arr .bC (s.received.take k))]) (fun k=>s.received.length-k) 0 (fun k=>rfl) (aA _) rfl ?_)
 intro k hk
 have hle:=ct s.received k
 refine aF X [1,2,3,8,9,10,11] rfl ?_
 refine af (az rfl ?_ ?_)<;>intro hb0
 ·try simp only[bW]at hb0
  have hs:=cI s.received k (aO .bC) hb0
  refine aE (af (aG (aS X [1,2,3,5,8,9,10] rfl (by and_intros<;>first|exact⟨⟩| (intros;omega)) (aZ X [(22,6)] [(19,⟨true,[.agg (bJ ((s.received.getD k (aO .bC)).share))]⟩),(500021,⟨true,[]⟩)] [1,2,3,8,9,10] [] 255 0 MO (by kernel_rfl) rfl (by kernel_rfl) (by(repeat' with_reducible first|exact bF|refine bS ?_ ?_|apply aT)<;>first|exact(eH ((s.received.getD k (aO .bC)).share) (hz.2 _ (getD_in _ hb0)))|exact rfl|exact⟨rfl,cB _ (by decide)⟩| (simp only[gl,maxLen,lens];omega)) ?_))))
  refine cN X [1,2,3,8,9,10] rfl ?_
  refine⟨k+1,by omega,by omega,?_⟩
  rw[cX _ k rfl (by omega),hs]
  try rfl
 ·try simp only[bW]at hb0
  exact bn (aF X [1,2] rfl (aS X [2] rfl (by trivial) (ay (ah rfl ⟨rfl,rfl,rfl,by rw[aB hb0],rfl,⟨⟩⟩))))
theorem sq(l:List cg)(hl:l.length≤1048576)(hz: ∀s,s∈l→sj s):So 86 [.a (.sl .cg l)] [.a (.sl .cg l)]:=by
 refine aD X call86 func86 ntmps86 rfl rfl ?_
 intro zb
 refine aF X [0] rfl (aS X [0,3] rfl (by and_intros<;>first|exact⟨⟩|exact rfl) (af (aF X [3,7,8,9] rfl ?_)))
 refine aG (aV (fun k=>k≤l.length) (fun k:Nat=> [(9, .one ((aL k)))]) (fun k=> [(6, .arr .cg (l.take k))]) (fun k=>l.length-k) 0 (fun k=>rfl) (aA _) rfl ?_)
 intro k hk
 have hle:=ct l k
 refine aF X [3,7,8,9,10] rfl ?_
 refine af (az rfl ?_ ?_)<;>intro hb0
 ·try simp only[bW]at hb0
  have hs:=cI l k (aO .cg) hb0
  refine aE (af (aG (aS X [3,5,7,8,9] rfl (by and_intros<;>first|exact⟨⟩| (intros;omega)) (bE X [(17,6)] [(15,⟨true,[.agg (dr (l.getD k (aO .cg)))]⟩)] [3,7,8,9] [] rfl (by(with_reducible and_intros)<;>first|exact⟨⟩|exact(kC (l.getD k (aO .cg)) (hz _ (getD_in _ hb0)))|exact rfl| (simp only[gl,maxLen,lens];omega)) (cN X [3,7,8,9] rfl ?_)))))
  refine⟨k+1,by omega,by omega,?_⟩
  rw[cX _ k rfl (by omega),hs]
  try rfl
 ·try simp only[bW]at hb0
  exact bn (aF X [2] rfl (ay (ah rfl ⟨by rw[aB hb0],⟨⟩⟩)))
theorem lI(m s:Int):So 131 [aL m,aL s] [aL (j6 m s)]:=by
 refine aD X call131 func131 ntmps131 rfl rfl ?_
 intro zb
 refine aF X [0,1] rfl (af ?_)
 have t1:=(rM 1 (kh m [173,s]))
 refine bE X [] [(8,⟨false,[aL (kh m [173,s])]⟩),(9,⟨false,dw t1⟩)] [4] [] rfl (by(repeat' with_reducible first|exact bF|refine bS ?_ ?_|apply aT);(iterate 2 all_goals try first|exact(cC m [173,s] (by first|assumption|omega| (simp;done)| (simp;omega)))|exact t1);all_goals first|exact⟨rfl,cB _ (by decide)⟩) ?_
 exact ay (ah rfl ⟨by rw[XA],⟨⟩⟩)
theorem wv(d:DB)(hs0:ga aR d.rows≤1048576):So 240 [.agg (bJ d)] [aL (Ll d)]:=by
 refine aD X call240 func240 ntmps240 rfl rfl ?_
 intro zb
 have oc:d.rows.length≤1048576:=gd hs0
 refine aF X [1] rfl (aS X [1,3] rfl (by and_intros<;>first|exact⟨⟩|exact rfl) (af (aF X [1,3,4] rfl ?_)))
 refine aG (aV (fun k=>k≤d.rows.length) (fun k:Nat=> [(4, .one ((aL k)))]) (fun k=> [(8, .arr .int ((d.rows.length:Int)::(d.rows.take k).flatMap Iw))]) (fun k=>d.rows.length-k) 0 (fun k=>rfl) (aA _) rfl ?_)
 intro k hk
 have zi:=Xz d.rows k
 refine af (aF X [1,3,4,13] rfl ?_)
 refine az rfl ?_ ?_<;>intro hb0
 ·try simp only[bW]at hb0
  have hs:=R2 d.rows k hb0
  have hel:(d.rows.getD k (aO (.sl .u8))).length≤1048576:=o7 (f:=aR) hs0 (getD_some d.rows _ k hb0)
  have Gi:=vE (d.rows.getD k (aO (.sl .u8)))
  refine aE (af (aG (bE X [(23,8)] [(22,⟨true,[.a (.sl .int (Iw (d.rows.getD k (aO (.sl .u8)))))]⟩)] [1,3,4] [] rfl (by(with_reducible and_intros)<;>first|exact⟨⟩|exact(rO (d.rows.getD k (aO (.sl .u8))) (by first|assumption|omega| (simp;done)| (simp;omega)))| (intros;omega)|exact rfl| (simp only[gl,maxLen,lens];omega)) (cN X [1,3,4] rfl ?_))))
  refine⟨k+1,by omega,by omega,?_⟩
  rw[cX _ k rfl (by omega),hs]
  try rfl
 ·try simp only[bW]at hb0
  refine bn (af ?_)
  have t1:=(xA ((d.rows.length:Int)::(d.rows.take k).flatMap Iw) (by simp only[bY];omega))
  exact bE X [] [(25,⟨false,dw t1⟩)] [2] [] rfl (by(with_reducible and_intros)<;>first|exact⟨⟩|exact t1) (ay (ah rfl ⟨by rw[aB hb0];rfl,⟨⟩⟩))
theorem sr(c r:Int)(d:DB)(hs0:ga aR d.rows≤1048576):So 192 [aL c,aL r, .agg (bJ d)] [aL (HH c r d)]:=by
 refine aD X call192 func192 ntmps192 rfl rfl ?_
 intro zb
 refine aF X [0,1,5] rfl (aQ X [] [(10,⟨false,[aL (Ll d)]⟩),(12,⟨false,[aL (hsh [179,c,r,Ll d])]⟩)] [6] [] rfl (by(repeat' with_reducible first|exact bF|refine bS ?_ ?_|apply aT);(iterate 2 all_goals try first|exact(wv d (by first|assumption|omega| (simp;done)| (simp;omega)))|exact(xA [179,c,r,Ll d] (by first|assumption|omega| (simp;done)| (simp;omega))));all_goals first|exact⟨rfl,cB _ (by decide)⟩) ?_)
 exact ay (ah rfl ⟨rfl,⟨⟩⟩)
theorem th(key:Int)(r:gB):So 193 [aL key, .agg (nk r)] [aL (Uj key r.server r.client r.round r.qZ)]:=by
 refine aD X call193 func193 ntmps193 rfl rfl ?_
 intro zb
 refine aF X [0,3] rfl (af ?_)
 have t1:=(cC key [181,r.server,r.client,r.round,r.qZ] (by first|assumption|omega| (simp;done)| (simp;omega)))
 refine bE X [] [(15,⟨false,dw t1⟩)] [4] [] rfl (by(repeat' with_reducible first|exact bF|refine bS ?_ ?_|apply aT)<;>first|exact t1|exact⟨rfl,cB _ (by decide)⟩) ?_
 exact ay (ah rfl ⟨rfl,⟨⟩⟩)
theorem AA(key s c r:Int)(d:DB)(hs0:ga aR d.rows≤1048576):So 130 [aL key,aL s,aL c,aL r, .agg (bJ d)] [.agg (nk (mkR key s c r d))]:=by
 refine aD X call130 func130 ntmps130 rfl rfl ?_
 intro zb
 refine aF X [0,1,2,3,9,10] rfl (aQ X [] [(18,⟨false,[aL (HH c r d)]⟩)] [0,10,11] [] rfl (by(with_reducible and_intros)<;>first|exact⟨⟩|exact(sr c r d (by first|assumption|omega| (simp;done)| (simp;omega)))) (af ?_))
 have t1:=(th key (⟨s,c,r,HH c r d,0⟩:gB))
 exact bE X [] [(22,⟨false,dw t1⟩)] [10,11] [] rfl (by(with_reducible and_intros)<;>first|exact⟨⟩|exact t1) (aS X [10] rfl (by trivial) (ay (ah rfl ⟨rfl,rfl,rfl,rfl,rfl,⟨⟩⟩)))
theorem nW(s:cg)(hz:s.received.length≤1048576∧ ∀r,r∈s.received→ga aR r.share.rows≤1048576):So 47 [.agg (dr s)] [.agg (dr s)]:=by
 refine aD X call47 func47 ntmps47 rfl rfl ?_
 intro zb
 refine aF X [1,2] rfl (aS X [1,2,3] rfl (by trivial) (aS X [1,2,3] rfl (by and_intros<;>first|exact⟨⟩|exact rfl) (af (aF X [1,2,3,4] rfl ?_))))
 refine aG (aV (fun k=>k≤s.received.length) (fun k:Nat=> [(4, .one ((aL k)))]) (fun k=> [(6, .arr .bC (s.received.take k))]) (fun k=>s.received.length-k) 0 (fun k=>rfl) (aA _) rfl ?_)
 intro k hk
 have hle:=ct s.received k
 refine af (aF X [1,2,3,4,12] rfl ?_)
 refine az rfl ?_ ?_<;>intro hb0
 ·try simp only[bW]at hb0
  have hs:=cI s.received k (aO .bC) hb0
  refine aE (af (aG (aZ X [(32,6)] [(29,⟨true,[.agg (bJ ((s.received.getD k (aO .bC)).share))]⟩),(500031,⟨true,[]⟩)] [1,2,3,4] [] 131071 0 MO (by kernel_rfl) rfl (by kernel_rfl) (by(repeat' with_reducible first|exact bF|refine bS ?_ ?_|apply aT)<;>first|exact(gJ ((s.received.getD k (aO .bC)).share) (hz.2 _ (getD_in _ hb0)))| (intros;omega)|exact rfl|exact⟨rfl,cB _ (by decide)⟩| (simp only[gl,maxLen,lens];omega)) ?_)))
  refine cN X [1,2,3,4] rfl ?_
  refine⟨k+1,by omega,by omega,?_⟩
  rw[cX _ k rfl (by omega),hs]
  try rfl
 ·try simp only[bW]at hb0
  exact bn (aS X [2] rfl (by trivial) (ay (ah rfl ⟨rfl,rfl,rfl,by rw[aB hb0],rfl,⟨⟩⟩)))
end
section
set_option maxRecDepth 100000
theorem iQ(c:gS)(h0:ga aR c.bz≤1048576∧ga aR c.inbox≤1048576):So 45 [.agg (c9 c)] [.agg (c9 c)]:=by
 refine aD X call45 func45 ntmps45 rfl rfl ?_
 intro zb
 exact aF X [1,2] rfl (aS X [1,2,3] rfl (by trivial) (aQ X [] [(7,⟨true,[.a (.sl (.sl .u8) c.bz)]⟩)] [1,2,3] [] rfl (by(with_reducible and_intros)<;>first|exact⟨⟩|exact(tK c.bz h0.1)) (aQ X [] [(11,⟨true,[.a (.sl (.sl .u8) c.inbox)]⟩)] [2,3] [] rfl (by(with_reducible and_intros)<;>first|exact⟨⟩|exact(tK c.inbox h0.2)) (aS X [2] rfl (by trivial) (ay (ah rfl ⟨rfl,rfl,rfl,rfl,rfl,rfl,rfl,rfl,⟨⟩⟩))))))
theorem nX(d:cD)(h0:dH d≤1048576):So 48 [.agg (dZ d)] [.agg (dZ d)]:=by
 refine aD X call48 func48 ntmps48 rfl rfl ?_
 intro zb
 have Ad:eT d.live≤1048576∧eT d.saved≤1048576:=by unfold dH at h0;omega
 unfold eT at Ad
 exact aF X [1,2] rfl (af (aZ X [] [(5,⟨true,[.agg (c9 d.live)]⟩),(8,⟨true,[.agg (c9 d.saved)]⟩)] [2] [] 127 0 MO (by kernel_rfl) rfl (by kernel_rfl) (by(with_reducible and_intros);(iterate 2 all_goals try first|exact⟨⟩|exact(iQ d.live ⟨by omega,by omega⟩)|exact(iQ d.saved ⟨by omega,by omega⟩))) (ay (ah rfl ⟨rfl,rfl,rfl,rfl,rfl,rfl,rfl,rfl,rfl,rfl,rfl,rfl,rfl,rfl,rfl,rfl,⟨⟩⟩))))
theorem xQ(a:mj)(h0:jr a≤1048576):So 49 [.agg (fY a)] [.agg (fY a)]:=by
 refine aD X call49 func49 ntmps49 rfl rfl ?_
 intro zb
 have hls:ga iE a.rounds≤1048576:=h0
 have oc:=gd hls
 refine aF X [1,2] rfl (aF X [1,2,3] rfl (lE 3 1 60 .bt rfl (af (aF X [1,2,3,4] rfl ?_))))
 refine aG (aV (fun k=>k≤a.rounds.length) (fun k:Nat=> [(4, .one ((aL k)))]) (fun k=> [(60, .arr .bt (a.rounds.take k))]) (fun k=>a.rounds.length-k) 0 (fun k=>rfl) (aA _) rfl ?_)
 intro k hk
 have hle:=ct a.rounds k
 refine af (aF X [1,2,3,4,12] rfl ?_)
 refine az rfl ?_ ?_<;>intro hb0
 ·try simp only[bW]at hb0
  have hs:=cI a.rounds k (aO .bt) hb0
  refine aE (af (aG (aZ X [(32,60)] [(29,⟨true,[.agg (bJ ((a.rounds.getD k (aO .bt)).db))]⟩),(500031,⟨true,[]⟩)] [1,2,3,4] [] 131071 0 MO (by kernel_rfl) rfl (by kernel_rfl) (by(repeat' with_reducible first|exact bF|refine bS ?_ ?_|apply aT)<;>first|exact(gJ ((a.rounds.getD k (aO .bt)).db) (o7 hls (getD_some a.rounds _ k hb0)))| (intros;omega)|exact rfl|exact⟨rfl,cB _ (by decide)⟩| (simp only[gl,maxLen,lens];omega)) ?_)))
  refine cN X [1,2,3,4] rfl ?_
  refine⟨k+1,by omega,by omega,?_⟩
  rw[cX _ k rfl (by omega),hs]
  try rfl
 ·try simp only[bW]at hb0
  exact bn (aS X [2] rfl (by trivial) (ay (ah rfl ⟨rfl,by rw[aB hb0],⟨⟩⟩)))
theorem iR(x:cm)(h0:wB x):So 29 [.agg (cq x)] [.agg (cq x)]:=by
 refine aD X call29 func29 ntmps29 rfl rfl ?_
 intro zb
 have hls:ga iP x.aC≤1048576∧ga dH x.aq≤1048576∧jr x.aN≤1048576∧x.replaced.length≤4194304:=h0
 have hl1:=gd hls.1
 have qN:=gd hls.2.1
 refine aF X [1,2] rfl (aS X [1,2,3] rfl (by trivial) (aS X [1,2,3] rfl (by and_intros<;>first|exact⟨⟩|exact rfl) (af (aF X [1,2,3,4] rfl ?_))))
 refine aG (aV (fun k=>k≤x.aC.length) (fun k:Nat=> [(4, .one ((aL k)))]) (fun k=> [(7, .arr .cg (x.aC.take k))]) (fun k=>x.aC.length-k) 0 (fun k=>rfl) (aA _) rfl ?_)
 intro k hk
 have hle:=ct x.aC k
 refine af (aF X [1,2,3,4,13] rfl ?_)
 refine az rfl ?_ ?_<;>intro hb0
 ·try simp only[bW]at hb0
  have hs:=cI x.aC k (aO .cg) hb0
  have hss:=JO hls.1 (getD_some x.aC (aO .cg) k hb0)
  refine aE (af (aG (aZ X [(25,7)] [(23,⟨true,[.agg (dr (x.aC.getD k (aO .cg)))]⟩),(500024,⟨true,[]⟩)] [1,2,3,4] [] 511 0 MO (by kernel_rfl) rfl (by kernel_rfl) (by(repeat' with_reducible first|exact bF|refine bS ?_ ?_|apply aT)<;>first|exact(nW (x.aC.getD k (aO .cg)) hss)| (intros;omega)|exact rfl|exact⟨rfl,cB _ (by decide)⟩| (simp only[gl,maxLen,lens];omega)) ?_)))
  refine cN X [1,2,3,4] rfl ?_
  refine⟨k+1,by omega,by omega,?_⟩
  rw[cX _ k rfl (by omega),hs]
  try rfl
 ·try simp only[bW]at hb0
  refine bn (aS X [1,2,3] rfl (by and_intros<;>first|exact⟨⟩|exact rfl) (af (aF X [1,2,3,5] rfl ?_)))
  refine aG (aV (fun k1=>k1≤x.aq.length) (fun k1:Nat=> [(5, .one ((aL k1)))]) (fun k1=> [(27, .arr .cD (x.aq.take k1))]) (fun k1=>x.aq.length-k1) 0 (fun k1=>rfl) (aA _) rfl ?_)
  intro k1 hk1
  have aa2:=ct x.aq k1
  refine af (aF X [1,2,3,5,33] rfl ?_)
  refine az rfl ?_ ?_<;>intro ck
  ·try simp only[bW]at ck
   have hs1:=cI x.aq k1 (aO .cD) ck
   refine aE (af (aG (aZ X [(45,27)] [(43,⟨true,[.agg (dZ (x.aq.getD k1 (aO .cD)))]⟩)] [1,2,3,5] [] 1279 2 MO (by kernel_rfl) rfl (by kernel_rfl) (by(with_reducible and_intros)<;>first|exact⟨⟩|exact(nX (x.aq.getD k1 (aO .cD)) (o7 hls.2.1 (getD_some x.aq _ k1 ck)))| (intros;omega)|exact rfl| (simp only[gl,maxLen,lens];omega)) (cN X [1,2,3,5] rfl ?_))))
   refine⟨k1+1,by omega,by omega,?_⟩
   rw[cX _ k1 rfl (by omega),hs1]
   try rfl
  ·try simp only[bW]at ck
   exact bn (aQ X [] [(49,⟨true,[.agg (fY x.aN)]⟩)] [1,2,3] [] rfl (by(with_reducible and_intros)<;>first|exact⟨⟩|exact(xQ x.aN hls.2.2.1)) (aQ X [(54,51)] [] [2,3] [] rfl (by and_intros<;>first|exact⟨⟩|exact rfl| (simp only[gl,maxLen,lens];omega)) (aS X [2] rfl (by trivial) (ay (ah rfl ⟨rfl,by rw[aB hb0],by rw[aB ck],rfl,rfl,rfl,rfl,rfl,rfl,rfl,⟨⟩⟩)))))
end
section
set_option maxRecDepth 100000
theorem AD(a:mj)(f:Int)(hal:a.rounds.length≤1048576):So 105 [.agg (fY a),aL f] [.a (.sl .int (jx a.rounds f))]:=by
 refine aD X call105 func105 ntmps105 rfl rfl ?_
 intro zb
 refine aF X [1,2] rfl (aS X [1,2,5] rfl (by and_intros<;>first|exact⟨⟩|exact rfl) (af (aF X [1,5,10,11,12] rfl ?_)))
 refine aG (aV (fun k=>k≤a.rounds.length) (fun k:Nat=> [(12, .one ((aL k)))]) (fun k=> [(8, .arr .int (jx (a.rounds.take k) f))]) (fun k=>a.rounds.length-k) 0 (fun k=>rfl) (aA _) rfl ?_)
 intro k hk
 have hle:=Ez a.rounds f k
 refine aF X [1,5,10,11,12,13] rfl ?_
 refine af (az rfl ?_ ?_)<;>intro hb0
 ·try simp only[bW]at hb0
  refine aE (af (aG (aS X [1,5,7,10,11,12] rfl (by and_intros<;>first|exact⟨⟩| (intros;omega)) (aF X [1,5,7,10,11,12,19] rfl ?_))))
  refine az rfl ?_ ?_<;>intro ck
  ·try simp only[bW]at ck
   have hs:=HN a.rounds f k hb0 (by omega)
   refine bE X [(24,8)] [] [1,5,10,11,12] [] rfl (by and_intros<;>first|exact⟨⟩|exact rfl| (simp only[gl,maxLen,lens];omega)) (cN X [1,5,10,11,12] rfl ?_)
   refine⟨k+1,by omega,by omega,?_⟩
   rw[cX _ k rfl (by omega),hs]
   try rfl
  ·try simp only[bW]at ck
   have hs:=Ey a.rounds f k hb0 (by omega)
   refine aE (cN X [1,5,10,11,12] rfl ?_)
   refine⟨k+1,by omega,by omega,?_⟩
   rw[cX _ k rfl (by omega),hs]
   try rfl
 ·try simp only[bW]at hb0
  exact bn (aF X [4] rfl (ay (ah rfl ⟨by rw[aB hb0],⟨⟩⟩)))
theorem AE(a:mj)(f:Int)(hal:a.rounds.length≤1048576):So 134 [.agg (fY a),aL f] [.a (.sl .int (jx a.rounds f))]:=by
 refine aD X call134 func134 ntmps134 rfl rfl ?_
 intro zb
 refine aF X [1,2] rfl (aS X [1,2,5] rfl (by and_intros<;>first|exact⟨⟩|exact rfl) (af (aF X [1,2,5,6] rfl ?_)))
 refine aG (aV (fun k=>k≤a.rounds.length) (fun k:Nat=> [(6, .one ((aL k)))]) (fun k=> [(7, .arr .int (jx (a.rounds.take k) f))]) (fun k=>a.rounds.length-k) 0 (fun k=>rfl) (aA _) rfl ?_)
 intro k hk
 have hle:=Ez a.rounds f k
 refine af (aF X [1,2,5,6,12] rfl ?_)
 refine az rfl ?_ ?_<;>intro hb0
 ·try simp only[bW]at hb0
  refine aE (af (aG (aS X [1,2,5,6,22] rfl (by and_intros<;>first|exact⟨⟩| (intros;omega)) ?_)))
  refine az rfl ?_ ?_<;>intro ck
  ·try simp only[bW]at ck
   have hs:=HN a.rounds f k hb0 (by omega)
   refine bE X [(31,7)] [] [1,2,5,6] [] rfl (by and_intros<;>first|exact⟨⟩| (intros;omega)|exact rfl| (simp only[gl,maxLen,lens];omega)) (cN X [1,2,5,6] rfl ?_)
   refine⟨k+1,by omega,by omega,?_⟩
   rw[cX _ k rfl (by omega),hs]
   try rfl
  ·try simp only[bW]at ck
   have hs:=Ey a.rounds f k hb0 (by omega)
   refine aE (cN X [1,2,5,6] rfl ?_)
   refine⟨k+1,by omega,by omega,?_⟩
   rw[cX _ k rfl (by omega),hs]
   try rfl
 ·try simp only[bW]at hb0
  exact bn (aF X [4] rfl (ay (ah rfl ⟨by rw[aB hb0],⟨⟩⟩)))
end
section
set_option maxRecDepth 100000
theorem vY(key c:Int)(cell:List UInt8):So 224 [aL key,aL c, .a (.sl .u8 cell)] [.agg (lz (NT key c cell)),bl (pZ key c cell)]:=by
 refine aD X call224 func224 ntmps224 rfl rfl ?_
 intro zb
 refine eO 2 rfl (fun oc=>(aF X [0,1,2,6] rfl (af (af ?_))))
 have t1:=(sX key c ((cell.take (20:Int).toNat).drop (0:Int).toNat) (by rw[bM,bL];omega))
 have t2:=(l8 ((cell.take (cell.length:Int).toNat).drop (20:Int).toNat) (four (kR key c ((cell.take (20:Int).toNat).drop (0:Int).toNat))))
 refine aZ X [] [(11,⟨false,[bl (iC key)]⟩),(15,⟨false,[bl (inr c 0 1000000000000)]⟩),(30,⟨false,dw t1⟩),(31,⟨false,dw t2⟩)] [0,1,2,6,33] [] 16777215 0 MO (by kernel_rfl) rfl (by kernel_rfl) (by(with_reducible and_intros);(iterate 4 all_goals try first|exact⟨⟩|exact(kA key)|exact fun _=>(bB c 0 1000000000000)|exact fun _=>t1|exact fun _=>t2);all_goals first| ((intro h1;first| (intro h2;first| (intro h3;refine aT ?_ ?_)|refine aT ?_ ?_)|refine aT ?_ ?_)<;>first|omega| ((try simp only[bW]at*);(try simp(disch:=omega) only[dA]);omega))) ?_
 refine az rfl ?_ ?_<;>intro hb0
 ·have hA:IT key c cell=false:=dB hb0 (by simp only[IT,eV,HR,mz,bD]<;>first|rfl|ac_rfl)
  have hk:=Lt hA
  exact aS X [6,7] rfl (by trivial) (ay (ah rfl ⟨by rw[qu hk],by rw[qu hk],by rw[hk],⟨⟩⟩))
 ·have hA:IT key c cell=true:=dy hb0 (by simp only[IT,eV,HR,mz,bD]<;>first|rfl|ac_rfl)
  obtain⟨hol,zZ⟩:=Lo hA
  refine aE (af ?_)
  have t1:=(G8 (nh key c) ((cell.take (20:Int).toNat).drop (0:Int).toNat) (by rw[bM,bL];omega))
  refine aZ X [] [(37,⟨false,[aL (nh key c)]⟩),(40,⟨true,dw t1⟩)] [6,8] [] 127 0 MO (by kernel_rfl) rfl (by kernel_rfl) (by(with_reducible and_intros);(iterate 2 all_goals try first|exact⟨⟩|exact(xB key c)|exact t1);all_goals first| (intros;omega)) ?_
  rw[XL]
  refine af (aS X [6,8,45] rfl (by and_intros<;>first|exact⟨⟩| (intros;omega)) ?_)
  refine az rfl ?_ ?_<;>intro ck
  ·try simp only[bW]at ck
   rw[Uo]at ck
   have h14:14<FC key c cell:=by have h:(14:Int)<(FC key c cell:Int):=ck;omega
   have hk:=acY h14
   exact aS X [6,7] rfl (by trivial) (ay (ah rfl ⟨by rw[qu hk],by rw[qu hk],by rw[hk],⟨⟩⟩))
  ·try simp only[bW]at ck
   rw[Uo]at ck
   have h14:FC key c cell≤14:=by have h:(FC key c cell:Int)≤14:=ck;omega
   have hu1:((Iy key c cell).getD (cP 1) (aO .u8)).toNat≤14:=h14
   have Gi:=Lu hA h14
   have hpk:=ahq hA h14
   have Tz:=Ql key c cell
   refine aE (af ?_)
   have t1:=(ez (((Iy key c cell).take (an.wrap (2+an.wrap (((Iy key c cell).getD (cP 1) (aO .u8)).toNat:Int))).toNat).drop (cP 2)) (by rw[Tz,Gi];omega))
   refine aZ X [] [(58,⟨true,dw t1⟩)] [6,9] [] 16383 0 MO (by kernel_rfl) rfl (by kernel_rfl) (by(with_reducible and_intros)<;>first|exact⟨⟩|exact t1| (intros;omega)| ((try simp only[bW]at*);(simp(disch:=omega) only[dA]);omega)) ?_
   rw[Ql,Uo]
   refine af (aQ X [] [(61,⟨false,[bl (jz (⟨Vb key c cell,ZH key c cell⟩:Plain))]⟩)] [6,9,62] [] rfl (by(with_reducible and_intros)<;>first|exact⟨⟩|exact(qw (⟨Vb key c cell,ZH key c cell⟩:Plain))) ?_)
   refine az rfl ?_ ?_<;>intro dS
   ·have hk:pZ key c cell=false:=by rw[←hpk];simpa using dS
    exact aS X [6,7] rfl (by trivial) (ay (ah rfl ⟨by rw[qu hk],by rw[qu hk],by rw[hk],⟨⟩⟩))
   ·have hk:pZ key c cell=true:=by rw[←hpk];simpa using dS
    exact aE (aS X [6,7] rfl (by trivial) (ay (ah rfl ⟨by rw[B0 hk];rfl,by rw[B0 hk],by rw[hk],⟨⟩⟩)))
theorem vZ(key c:Int)(cell:List UInt8):So 246 [aL key,aL c, .a (.sl .u8 cell)] [.agg (lz (NT key c cell)),bl (pZ key c cell)]:=by
 refine aD X call246 func246 ntmps246 rfl rfl ?_
 intro zb
 refine eO 2 rfl (fun oc=>(aF X [0,1,2,6] rfl (af (aQ X [] [(11,⟨false,[bl (iC key)]⟩),(15,⟨false,[bl (inr c 0 1000000000000)]⟩)] [0,1,2,6,22] [] rfl (by(with_reducible and_intros);(iterate 2 all_goals try first|exact⟨⟩|exact(kB key)|exact fun _=>(bU c 0 1000000000000))) ?_))))
 refine az rfl ?_ ?_<;>intro hb0
 ·have hH:opH key c cell=false:=dB hb0 (by simp only[opH,bD]<;>first|rfl|ac_rfl)
  have hk:=ae0 hH
  exact aS X [6,7] rfl (by trivial) (ay (ah rfl ⟨by rw[qu hk],by rw[qu hk],by rw[hk],⟨⟩⟩))
 ·have hH:opH key c cell=true:=dy hb0 (by simp only[opH,bD]<;>first|rfl|ac_rfl)
  obtain⟨hk1,hk2,zZ⟩:=ahr hH
  have ahs:=Sa hk1 hk2 zZ
  refine aE (af (aZ X [] [] [0,1,2,6,8] [] 8388607 0 MO (by kernel_rfl) rfl (by kernel_rfl) (by and_intros<;>first|exact⟨⟩| (intros;omega)) ?_))
  rw[abi]
  refine af (af ?_)
  have t1:=(uh key c ((cell.take (20:Int).toNat).drop (0:Int).toNat) (by rw[bM,bL];omega))
  refine bE X [] [(51,⟨false,dw t1⟩)] [0,1,2,6,52] [] rfl (by(with_reducible and_intros)<;>first|exact⟨⟩|exact t1| (intros;omega)) ?_
  refine az rfl ?_ ?_<;>intro ck
  ·try simp only[bW]at ck
   have hA:IT key c cell=false:=by rw[ahs,decide_eq_false_iff_not];intro h;exact ck (by rw[h];simp)
   have hk:=Lt hA
   exact aS X [6,7] rfl (by trivial) (ay (ah rfl ⟨by rw[qu hk],by rw[qu hk],by rw[hk],⟨⟩⟩))
  ·try simp only[bW]at ck
   have hA:IT key c cell=true:=by rw[ahs,decide_eq_true_eq,ck];simp
   obtain⟨hol,_⟩:=Lo hA
   refine aE (af ?_)
   have t1:=(He (nh key c) ((cell.take (20:Int).toNat).drop (0:Int).toNat) (by rw[bM,bL];omega))
   refine aZ X [] [(56,⟨false,[aL (nh key c)]⟩),(59,⟨true,dw t1⟩)] [6,9] [] 127 0 MO (by kernel_rfl) rfl (by kernel_rfl) (by(with_reducible and_intros);(iterate 2 all_goals try first|exact⟨⟩|exact(uj key c)|exact t1);all_goals first| (intros;omega)) ?_
   rw[XL]
   refine af (aS X [6,9,71] rfl (by and_intros<;>first|exact⟨⟩| (intros;omega)| ((intro h1;first| (intro h2;first| (intro h3;refine aT ?_ ?_)|refine aT ?_ ?_)|refine aT ?_ ?_)<;>first|omega| ((try simp only[bW]at*);(try simp(disch:=omega) only[dA]);omega))| (refine fun _=> ?_;dsimp only[hyps,rq];omega)) ?_)
   refine az rfl ?_ ?_<;>intro dS
   ·try simp only[bW]at dS
    rw[Uo,Uo]at dS
    have hk:pZ key c cell=false:=by
     rcases dS with h|h
     ·exact aeW h
     ·exact acY (by have h:(14:Int)<(FC key c cell:Int):=h;omega)
    exact aS X [6,7] rfl (by trivial) (ay (ah rfl ⟨by rw[qu hk],by rw[qu hk],by rw[hk],⟨⟩⟩))
   ·try simp only[bW]at dS
    rw[Uo,Uo]at dS
    have h14:FC key c cell≤14:=by have h:(FC key c cell:Int)≤14:=dS.2;omega
    have hu1:((Iy key c cell).getD (cP 1) (aO .u8)).toNat≤14:=h14
    have Gi:=Lu hA h14
    have hk:pZ key c cell=true:=acZ hA h14 dS.1
    have Tz:=Ql key c cell
    exact aE (af (aZ X [(85,77)] [] [6,7] [] 45055 4 MO (by kernel_rfl) rfl (by kernel_rfl) (by and_intros<;>first|exact⟨⟩| (intros;omega)|exact rfl| ((try simp only[bW]at*);(simp(disch:=omega) only[dA]);omega)| (simp only[gl,maxLen,lens];omega)) (ay (ah rfl ⟨by rw[B0 hk];exact congrArg (Value.int an) (Uo _),by rw[B0 hk];exact Tz,by rw[hk],⟨⟩⟩))))
theorem m7(a:mj)(r:Int)(hz:a.rounds.length≤1048576∧ ∀y,y∈a.rounds→ga aR y.db.rows≤1048576):So 109 [.agg (fY a),aL r] [.agg (bJ (jJ a.rounds r)),bl (k7 a.rounds r)]:=by
 refine aD X call109 func109 ntmps109 rfl rfl ?_
 intro zb
 refine dn 0 1 rfl rfl (fun Wc=>(aF X [1,2,4] rfl (af (aF X [1,4,9,10,11] rfl ?_))))
 refine aG (aV (fun k=>k≤a.rounds.length∧(a.rounds.take k).any (Ul r)=false) (fun k:Nat=> [(11, .one ((aL k)))]) (fun k=> []) (fun k=>a.rounds.length-k) 0 (fun k=>rfl) ⟨aA _,rfl⟩ rfl ?_)
 rintro k ⟨hk,hall⟩
 refine aF X [1,4,9,10,11,12] rfl ?_
 refine af (az rfl ?_ ?_)<;>intro hb0
 ·try simp only[bW]at hb0
  refine aE (af (aG (aS X [1,4,7,9,10,11] rfl (by and_intros<;>first|exact⟨⟩| (intros;omega)) (aF X [1,4,7,9,10,11,18] rfl ?_))))
  refine az rfl ?_ ?_<;>intro ck
  ·have hh:=Qj hb0 hall ck
   exact aQ X [] [(21,⟨true,[.agg (bJ ((a.rounds.getD k (aO .bt)).db))]⟩)] [4,5] [] rfl (by(with_reducible and_intros)<;>first|exact⟨⟩|exact(eH ((a.rounds.getD k (aO .bt)).db) (hz.2 _ (getD_in _ hb0)))) (ay (ah rfl ⟨by rw[hh.2],by rw[hh.1],⟨⟩⟩))
  ·refine aE (cN X [1,4,9,10,11] rfl ?_)
   refine⟨k+1,⟨by omega,An (aO .bt) hb0 hall ck⟩,by omega,?_⟩
   rw[cX _ k rfl (by omega)]
   try rfl
 ·try simp only[bW]at hb0
  exact bn (aS X [4,5] rfl (by trivial) (ay (ah rfl ⟨by rw[(FA (by rw[←hall,aB hb0])).2],by rw[(FA (by rw[←hall,aB hb0])).1],⟨⟩⟩)))
theorem Dx(rows:List (List UInt8))(v:List Int)(hr: ∀r,r∈rows→r.length≤1048576):So 229 [.a (.sl (.sl .u8) rows), .a (.sl .int v)] [.a (.sl .u8 (AF rows v))]:=by
 refine aD X call229 func229 ntmps229 rfl rfl ?_
 intro zb
 refine eO 0 rfl (fun hl0=> ?_)
 refine eO 1 rfl (fun hl1=>(aF X [0,1] rfl (aS X [0,1,5] rfl (by and_intros<;>first|exact⟨⟩|exact rfl) (af (aF X [1,5,9,10,11] rfl ?_)))))
 refine aG (aV (fun k=>k≤rows.length) (fun k:Nat=> [(11, .one ((aL k)))]) (fun k=> [(8, .arr .u8 (uA rows v k))]) (fun k=>rows.length-k) 0 (fun k=>rfl) (aA _) rfl ?_)
 intro k hk
 have hle:=xS v hr k hk
 refine aF X [1,5,9,10,11,12] rfl ?_
 refine af (az rfl ?_ ?_)<;>intro hb0
 ·try simp only[bW]at hb0
  have hel:=hr _ (getD_in (aO (.sl .u8)) hb0)
  refine aE (af (aG (aS X [1,5,6,7,9,10,11] rfl (by and_intros<;>first|exact⟨⟩| (intros;omega)) (aS X [1,5,7,9,10,11,26] rfl (by and_intros<;>first|exact⟨⟩| ((intro h1;first| (intro h2;first| (intro h3;refine aT ?_ ?_)|refine aT ?_ ?_)|refine aT ?_ ?_)<;>first|omega| ((try simp only[bW]at*);(try simp(disch:=omega) only[dA]);omega))) ?_))))
  refine az rfl ?_ ?_<;>intro ck
  ·try simp only[bW]at ck
   have hs:=xR (rows:=rows) ck.1 ck.2
   refine bE X [] [(29,⟨true,[.a (.sl .u8 (fk (uA rows v k) (rows.getD k (aO (.sl .u8)))))]⟩)] [1,5,9,10,11] [] rfl (by(with_reducible and_intros)<;>first|exact⟨⟩|exact(mu (uA rows v k) (rows.getD k (aO (.sl .u8))) (by first|assumption|omega| (simp;done)| (simp;omega)) (by first|assumption|omega| (simp;done)| (simp;omega)))) (qR 5 8 rfl (cN X [1,5,9,10,11] rfl ?_))
   refine⟨k+1,by omega,by omega,?_⟩
   rw[cX _ k rfl (by omega),hs]
   try rfl
  ·try simp only[bW]at ck
   have hs:=qV (rows:=rows) (v:=v) (k:=k) (by omega)
   refine aE (cN X [1,5,9,10,11] rfl ?_)
   refine⟨k+1,by omega,by omega,?_⟩
   rw[cX _ k rfl (by omega),hs]
   try rfl
 ·try simp only[bW]at hb0
  exact bn (aF X [4] rfl (ay (ah rfl ⟨by rw[NU hk (Or.inl hb0)],⟨⟩⟩)))
theorem su(d:DB)(v:List Int):So 174 [.agg (bJ d), .a (.sl .int v)] [.a (.sl .u8 (hJ d v))]:=by
 refine aD X call174 func174 ntmps174 rfl rfl ?_
 intro zb
 refine aF X [1,2] rfl (af (aQ X [] [(6,⟨false,[bl (eB d)]⟩),(13,⟨false,[bl (ff v (d.rows.length:Int))]⟩)] [1,2,15] [] rfl (by(with_reducible and_intros);(iterate 2 all_goals try first|exact⟨⟩|exact(fF d)|exact fun _=>(mK v (d.rows.length:Int)))) ?_))
 refine az rfl ?_ ?_<;>intro hb0
 ·have hk:(eB d&&ff v d.rows.length)=false:=dB hb0 (by simp only[bD]<;>first|rfl|ac_rfl)
  exact aF X [4] rfl (ay (ah rfl ⟨by rw[hJ,hk];rfl,⟨⟩⟩))
 ·have hk:(eB d&&ff v d.rows.length)=true:=dy hb0 (by simp only[bD]<;>first|rfl|ac_rfl)
  have hkk:=hk
  rw[aj]at hkk
  have Ur: ∀r,r∈d.rows→r.length≤1048576:=fun r hr=>by rw[(nR.1 hkk.1).2 r hr];decide
  have hxl:(AF d.rows v).length≤1048576:=xS v Ur d.rows.length (bh _)
  exact aE (af (aZ X [] [(20,⟨true,[.a (.sl .u8 (AF d.rows v))]⟩),(21,⟨true,[.a (.sl .u8 (fk L7 (AF d.rows v)))]⟩)] [4] [] 127 0 MO (by kernel_rfl) rfl (by kernel_rfl) ⟨mu L7 (AF d.rows v) (by rw[nQ];decide) hxl,Dx d.rows v Ur,⟨rfl,cB _ (by decide)⟩,rfl,by omega,⟨by decide,by decide⟩,⟨⟩⟩ (ay (ah rfl ⟨by rw[hJ,if_pos hk],⟨⟩⟩))))
theorem uC(key:Int)(a:eN)(h1:a.selection.length≤262144)(h2:a.data.length≤262144):So 226 [aL key, .agg (iM a)] [aL (HO key a.server a.round a.selection a.data)]:=by
 refine aD X call226 func226 ntmps226 rfl rfl ?_
 intro zb
 refine aF X [0,3] rfl (af ?_)
 have t1:=(mV [[191,a.server,a.round,(a.selection.length:Int)],a.selection,Iw a.data] (by simp) (by simp[vE];omega))
 have t2:=(cV key ([[191,a.server,a.round,(a.selection.length:Int)],a.selection,Iw a.data].flatten) (by simp[vE];omega))
 refine aZ X [] [(18,⟨true,[.a (.sl .int (Iw a.data))]⟩),(20,⟨true,dw t1⟩),(21,⟨false,dw t2⟩)] [4] [] 245759 1 MO (by kernel_rfl) rfl (by kernel_rfl) (by(repeat' with_reducible first|exact bF|refine bS ?_ ?_|apply aT);(iterate 3 all_goals try first|exact(rN a.data (by omega))|exact t1|exact t2);all_goals first|exact rfl|exact⟨rfl,cB _ (by decide)⟩) ?_
 exact ay (ah rfl ⟨by simp[HO],⟨⟩⟩)
theorem m8(a:mj)(r:Int)(hz:a.rounds.length≤1048576∧ ∀y,y∈a.rounds→ga aR y.db.rows≤1048576):So 138 [.agg (fY a),aL r] [.agg (bJ (jJ a.rounds r)),bl (k7 a.rounds r)]:=by
 refine aD X call138 func138 ntmps138 rfl rfl ?_
 intro zb
 refine dn 0 1 rfl rfl (fun Wc=>(aF X [1,2,4] rfl (af (aF X [1,2,4,6] rfl ?_))))
 refine aG (aV (fun k=>k≤a.rounds.length∧(a.rounds.take k).any (Ul r)=false) (fun k:Nat=> [(6, .one ((aL k)))]) (fun k=> []) (fun k=>a.rounds.length-k) 0 (fun k=>rfl) ⟨aA _,rfl⟩ rfl ?_)
 rintro k ⟨hk,hall⟩
 refine af (aF X [1,2,4,6,11] rfl ?_)
 refine az rfl ?_ ?_<;>intro hb0
 ·try simp only[bW]at hb0
  refine aE (af (aG (aS X [1,2,4,6,21] rfl (by and_intros<;>first|exact⟨⟩| (intros;omega)) ?_)))
  refine az rfl ?_ ?_<;>intro ck
  ·have hh:=Qj hb0 hall ck
   exact aQ X [] [(28,⟨true,[.agg (bJ ((a.rounds.getD k (aO .bt)).db))]⟩)] [4,5] [] rfl (by(with_reducible and_intros)<;>first|exact⟨⟩|exact(gJ ((a.rounds.getD k (aO .bt)).db) (hz.2 _ (getD_in _ hb0)))| (intros;omega)) (ay (ah rfl ⟨by rw[hh.2],by rw[hh.1],⟨⟩⟩))
  ·refine aE (cN X [1,2,4,6] rfl ?_)
   refine⟨k+1,⟨by omega,An (aO .bt) hb0 hall ck⟩,by omega,?_⟩
   rw[cX _ k rfl (by omega)]
   try rfl
 ·try simp only[bW]at hb0
  exact bn (aS X [4,5] rfl (by trivial) (ay (ah rfl ⟨by rw[(FA (by rw[←hall,aB hb0])).2],by rw[(FA (by rw[←hall,aB hb0])).1],⟨⟩⟩)))
theorem Dy(rows:List (List UInt8))(v:List Int)(hr: ∀r,r∈rows→r.length≤1048576):So 250 [.a (.sl (.sl .u8) rows), .a (.sl .int v)] [.a (.sl .u8 (AF rows v))]:=by
 refine aD X call250 func250 ntmps250 rfl rfl ?_
 intro zb
 refine eO 0 rfl (fun hl0=> ?_)
 refine eO 1 rfl (fun hl1=>(aF X [0,1] rfl (aS X [0,1,5] rfl (by and_intros<;>first|exact⟨⟩|exact rfl) (af (aF X [0,1,5,6] rfl ?_)))))
 refine aG (aV (fun k=>k≤rows.length) (fun k:Nat=> [(6, .one ((aL k)))]) (fun k=> [(7, .arr .u8 (uA rows v k))]) (fun k=>rows.length-k) 0 (fun k=>rfl) (aA _) rfl ?_)
 intro k hk
 have hle:=xS v hr k hk
 refine af (aF X [0,1,5,6,17] rfl ?_)
 refine az rfl ?_ ?_<;>intro hb0
 ·try simp only[bW]at hb0
  have hel:=hr _ (getD_in (aO (.sl .u8)) hb0.1)
  refine aE (af (aG (aS X [0,1,5,6,24] rfl (by and_intros<;>first|exact⟨⟩| (intros;omega)) ?_)))
  refine az rfl ?_ ?_<;>intro ck
  ·try simp only[bW]at ck
   have hs:=xR (rows:=rows) hb0.2 ck
   refine bE X [] [(30,⟨true,[.a (.sl .u8 (fk (uA rows v k) (rows.getD k (aO (.sl .u8)))))]⟩)] [0,1,5,6] [] rfl (by(with_reducible and_intros)<;>first|exact⟨⟩|exact(mw (uA rows v k) (rows.getD k (aO (.sl .u8))) (by first|assumption|omega| (simp;done)| (simp;omega)) (by first|assumption|omega| (simp;done)| (simp;omega)))| (intros;omega)) (qR 5 7 rfl (cN X [0,1,5,6] rfl ?_))
   refine⟨k+1,by omega,by omega,?_⟩
   rw[cX _ k rfl (by omega),hs]
   try rfl
  ·try simp only[bW]at ck
   have hs:=qV (rows:=rows) (v:=v) (k:=k) (fun h=>ck h.2)
   refine aE (cN X [0,1,5,6] rfl ?_)
   refine⟨k+1,by omega,by omega,?_⟩
   rw[cX _ k rfl (by omega),hs]
   try rfl
 ·try simp only[bW]at hb0
  exact bn (aF X [4] rfl (ay (ah rfl ⟨by rw[NU hk (by omega)],⟨⟩⟩)))
theorem sy(d:DB)(v:List Int):So 206 [.agg (bJ d), .a (.sl .int v)] [.a (.sl .u8 (hJ d v))]:=by
 refine aD X call206 func206 ntmps206 rfl rfl ?_
 intro zb
 refine aF X [1,2] rfl (af (aQ X [] [(6,⟨false,[bl (eB d)]⟩),(13,⟨false,[bl (ff v (d.rows.length:Int))]⟩)] [1,2,15] [] rfl (by(with_reducible and_intros);(iterate 2 all_goals try first|exact⟨⟩|exact(eR d)|exact fun _=>(mL v (d.rows.length:Int)))) ?_))
 refine az rfl ?_ ?_<;>intro hb0
 ·have hk:(eB d&&ff v d.rows.length)=false:=dB hb0 (by simp only[bD]<;>first|rfl|ac_rfl)
  exact aS X [4] rfl (by and_intros<;>first|exact⟨⟩|exact rfl) (ay (ah rfl ⟨by rw[hJ,hk];rfl,⟨⟩⟩))
 ·have hk:(eB d&&ff v d.rows.length)=true:=dy hb0 (by simp only[bD]<;>first|rfl|ac_rfl)
  have hkk:=hk
  rw[aj]at hkk
  have Ur: ∀r,r∈d.rows→r.length≤1048576:=fun r hr=>by rw[(nR.1 hkk.1).2 r hr];decide
  have hxl:(AF d.rows v).length≤1048576:=xS v Ur d.rows.length (bh _)
  exact aE (af (aZ X [] [(21,⟨true,[.a (.sl .u8 (AF d.rows v))]⟩),(22,⟨true,[.a (.sl .u8 (fk L7 (AF d.rows v)))]⟩)] [4] [] 127 0 MO (by kernel_rfl) rfl (by kernel_rfl) ⟨mw L7 (AF d.rows v) (by rw[nQ];decide) hxl,Dy d.rows v Ur,⟨rfl,cB _ (by decide)⟩,rfl,by omega,⟨by decide,by decide⟩,⟨⟩⟩ (ay (ah rfl ⟨by rw[hJ,if_pos hk],⟨⟩⟩))))
theorem oW(key:Int)(a:eN)(h1:a.selection.length≤262144)(h2:a.data.length≤262144):So 204 [aL key, .agg (iM a)] [aL (HO key a.server a.round a.selection a.data)]:=by
 refine aD X call204 func204 ntmps204 rfl rfl ?_
 intro zb
 have Gi:=vE a.data
 refine aF X [0,3] rfl (aQ X [(16,13)] [] [0,3,5] [] rfl (by and_intros<;>first|exact⟨⟩|exact rfl| (simp only[gl,maxLen,lens];omega)) (af ?_))
 have t1:=(cC key ([191,a.server,a.round,(a.selection.length:Int)]++a.selection++Iw a.data) (by simp[vE];omega))
 exact bE X [(22,13)] [(21,⟨true,[.a (.sl .int (Iw a.data))]⟩),(23,⟨false,dw t1⟩)] [4] [] rfl (by(with_reducible and_intros);(iterate 2 all_goals try first|exact⟨⟩|exact(rO a.data (by omega))|exact t1);all_goals first|exact rfl| (simp only[gl,maxLen,lens];omega)) (ay (ah rfl ⟨rfl,⟨⟩⟩))
theorem zQ(key:Int)(a:eN)(h1:a.selection.length≤262144)(h2:a.data.length≤262144):rG ty bu 171 [(5, .arr .int a.selection),(6, .arr .u8 a.data)] [aL key, .agg [fZ a.server,fZ a.round, .own 5, .own 6,fZ a.OJ]] [(5, .arr .int a.selection),(6, .arr .u8 a.data)] [.agg [fZ a.server,fZ a.round, .own 5, .own 6,fZ (HO key a.server a.round a.selection a.data)]]:=by
 refine oU X call171 func171 rfl rfl (by decide) ntmps171 (by simp) rfl ?_
 intro zb
 exact aF X [0,3,4] rfl (aQ X [] [(7,⟨false,[aL (HO key a.server a.round a.selection a.data)]⟩)] [3,4] [] rfl (by(with_reducible and_intros)<;>first|exact⟨⟩|exact(uC key a h1 h2)) (aS X [4] rfl (by trivial) (ay (uz rfl ⟨rfl,rfl,rfl,rfl,rfl,⟨⟩⟩))))
theorem B3(key sv r:Int)(d:DB)(v:List Int)(hv:v.length≤262144):So 170 [aL key,aL sv,aL r, .agg (bJ d), .a (.sl .int v)] [.agg (iM (sH key sv r d v)),bl (ni d v)]:=by
 refine aD X call170 func170 ntmps170 rfl rfl ?_
 intro zb
 have hal:=xT d v
 refine aF X [0,1,2,4,8,10] rfl (aQ X [] [(15,⟨true,[.a (.sl .u8 (hJ d v))]⟩)] [0,1,2,4,10,12] [] rfl (by(with_reducible and_intros)<;>first|exact⟨⟩|exact(su d v)) (af (aF X [0,1,2,4,10,12,18] rfl ?_)))
 refine az rfl ?_ ?_<;>intro hb0
 ·try simp only[bW]at hb0
  have hk:=Sb (d:=d) (v:=v) (by omega)
  have hg:=XP (key:=key) (sv:=sv) (r:=r) hk
  exact aS X [10,11] rfl (by trivial) (ay (ah rfl (by and_intros<;>first|exact⟨⟩| (rw[hg];rfl;done)| (rw[hk];done))))
 ·try simp only[bW]at hb0
  have hk:=B1 (d:=d) (v:=v) (by omega)
  have hg:=FD (key:=key) (sv:=sv) (r:=r) hk
  have h24:=B2 hk
  refine aE (af ?_)
  have t1:=(zQ key (⟨sv,r,v,hJ d v,0⟩:eN) (by show v.length≤_;omega) (by show(hJ d v).length≤_;omega))
  exact bE X [] [(24,⟨true,[.a (.sl .int v)]⟩),(800027,⟨true,KN t1⟩),(700027,⟨true, .agg [.ptr 5 24, .ptr 6 15]:: .agg []::KO t1⟩)] [10,11] [] rfl (by(with_reducible and_intros);(iterate 2 all_goals try first|exact⟨⟩|exact(jQ v (by omega))|exact t1)) (ay (ah rfl (by and_intros<;>first|exact⟨⟩| (rw[hg];rfl;done)| (rw[hk];done))))
theorem v7(s:cg)(key r:Int)(d:DB)(v:List Int)(hv:v.length≤262144):So 110 [.agg (dr s),aL key,aL r, .agg (bJ d), .a (.sl .int v)] [.agg (iM (L9 s key r d v)),bl (ni d v)]:=by
 refine aD X call110 func110 ntmps110 rfl rfl ?_
 intro zb
 refine aF X [1,2,4,5,8,10] rfl (aQ X [] [(21,⟨true,[.agg (iM (sH key s.id r d v)),bl (ni d v)]⟩)] [1,5,10,12,13] [] rfl (by(with_reducible and_intros)<;>first|exact⟨⟩|exact(B3 key s.id r d v (by first|assumption|omega| (simp;done)| (simp;omega)))) (af (aF X [1,10,12,13,29] rfl ?_)))
 refine az rfl ?_ ?_<;>intro hb0
 ·have hq:(ni d v&&(s.behavior==3))=true:=lG hb0 (by simp only[bD]<;>first|rfl|ac_rfl)
  obtain⟨hk,ha⟩:=Sc (key:=key) (r:=r) hq
  have hg:=FD (key:=key) (sv:=s.id) (r:=r) hk
  have zi:(sH key s.id r d v).data.length=24:=by rw[hg];exact B2 hk
  refine aS X [1,10,12,13] rfl (by and_intros<;>first|exact⟨⟩| (intros;omega)|exact(qo _).1|exact(qo _).2) ?_
  rw[XO]
  have t1:=(zQ key (⟨(sH key s.id r d v).server,(sH key s.id r d v).round,(sH key s.id r d v).selection,OU (sH key s.id r d v).data,(sH key s.id r d v).OJ⟩:eN) (by show(sH key s.id r d v).selection.length≤_;rw[hg];exact hv) (by show(OU (sH key s.id r d v).data).length≤_;rw[Lv,zi];decide))
  exact bE X [] [(800038,⟨true,KN t1⟩),(700038,⟨true, .agg [.ptr 5 23, .ptr 6 24]:: .agg []::KO t1⟩)] [10,12,13] [] rfl (by(with_reducible and_intros)<;>first|exact⟨⟩|exact t1) (aS X [10,11] rfl (by trivial) (ay (ah rfl (by and_intros<;>first|exact⟨⟩| (rw[ha];simp only[hg];rfl;done)| (rw[hk];done)))))
 ·have hq:(ni d v&&(s.behavior==3))=false:=oT hb0 (by simp only[bD]<;>first|rfl|ac_rfl)
  have ha:=XQ (key:=key) (r:=r) hq
  exact aE (aS X [10,11] rfl (by trivial) (ay (ah rfl (by and_intros<;>first|exact⟨⟩|rfl| (rw[ha];done)))))
theorem B4(key sv r:Int)(d:DB)(v:List Int)(hv:v.length≤262144):So 203 [aL key,aL sv,aL r, .agg (bJ d), .a (.sl .int v)] [.agg (iM (sH key sv r d v)),bl (ni d v)]:=by
 refine aD X call203 func203 ntmps203 rfl rfl ?_
 intro zb
 have hal:=xT d v
 refine aF X [0,1,2,4,8,10] rfl (aQ X [] [(16,⟨true,[.a (.sl .u8 (hJ d v))]⟩)] [0,1,2,4,10,12] [] rfl (by(with_reducible and_intros)<;>first|exact⟨⟩|exact(sy d v)) (af (aF X [0,1,2,4,10,12,19] rfl ?_)))
 refine az rfl ?_ ?_<;>intro hb0
 ·try simp only[bW]at hb0
  have hk:=Sb (d:=d) (v:=v) (by omega)
  have hg:=XP (key:=key) (sv:=sv) (r:=r) hk
  exact aS X [10,11] rfl (by trivial) (ay (ah rfl (by and_intros<;>first|exact⟨⟩| (rw[hg];rfl;done)| (rw[hk];done))))
 ·try simp only[bW]at hb0
  have hk:=B1 (d:=d) (v:=v) (by omega)
  have hg:=FD (key:=key) (sv:=sv) (r:=r) hk
  have h24:=B2 hk
  exact aE (aQ X [(25,23)] [] [0,10,13] [] rfl (by and_intros<;>first|exact⟨⟩|exact rfl| (simp only[gl,maxLen,lens];omega)) (aQ X [] [(30,⟨false,[aL (HO key (⟨sv,r,v,hJ d v,0⟩:eN).server (⟨sv,r,v,hJ d v,0⟩:eN).round (⟨sv,r,v,hJ d v,0⟩:eN).selection (⟨sv,r,v,hJ d v,0⟩:eN).data)]⟩)] [10,13] [] rfl (by(with_reducible and_intros)<;>first|exact⟨⟩|exact(oW key (⟨sv,r,v,hJ d v,0⟩:eN) (by show v.length≤_;omega) (by show(hJ d v).length≤_;omega))) (aS X [10,11] rfl (by trivial) (ay (ah rfl (by and_intros<;>first|exact⟨⟩| (rw[hg];rfl;done)| (rw[hk];done)))))))
theorem v8(s:cg)(key r:Int)(d:DB)(v:List Int)(hv:v.length≤262144):So 139 [.agg (dr s),aL key,aL r, .agg (bJ d), .a (.sl .int v)] [.agg (iM (L9 s key r d v)),bl (ni d v)]:=by
 refine aD X call139 func139 ntmps139 rfl rfl ?_
 intro zb
 refine aF X [1,2,4,5,8,10] rfl (aQ X [] [(21,⟨true,[.agg (iM (sH key s.id r d v)),bl (ni d v)]⟩)] [1,5,10,12,13] [] rfl (by(with_reducible and_intros)<;>first|exact⟨⟩|exact(B4 key s.id r d v (by first|assumption|omega| (simp;done)| (simp;omega)))) (af (aF X [1,10,12,13,29] rfl ?_)))
 refine az rfl ?_ ?_<;>intro hb0
 ·have hq:(ni d v&&(s.behavior==3))=true:=lG hb0 (by simp only[bD]<;>first|rfl|ac_rfl)
  obtain⟨hk,ha⟩:=Sc (key:=key) (r:=r) hq
  have hg:=FD (key:=key) (sv:=s.id) (r:=r) hk
  have zi:(sH key s.id r d v).data.length=24:=by rw[hg];exact B2 hk
  refine af (aZ X [] [] [1,10,12,13] [] 255 0 MO (by kernel_rfl) rfl (by kernel_rfl) (by and_intros<;>first|exact⟨⟩| (intros;omega)|exact(qo _).1|exact(qo _).2) ?_)
  rw[XO]
  exact bE X [] [(40,⟨false,[aL (HO key (⟨(sH key s.id r d v).server,(sH key s.id r d v).round,(sH key s.id r d v).selection,OU (sH key s.id r d v).data,(sH key s.id r d v).OJ⟩:eN).server (⟨(sH key s.id r d v).server,(sH key s.id r d v).round,(sH key s.id r d v).selection,OU (sH key s.id r d v).data,(sH key s.id r d v).OJ⟩:eN).round (⟨(sH key s.id r d v).server,(sH key s.id r d v).round,(sH key s.id r d v).selection,OU (sH key s.id r d v).data,(sH key s.id r d v).OJ⟩:eN).selection (⟨(sH key s.id r d v).server,(sH key s.id r d v).round,(sH key s.id r d v).selection,OU (sH key s.id r d v).data,(sH key s.id r d v).OJ⟩:eN).data)]⟩)] [10,12,13] [] rfl (by(with_reducible and_intros)<;>first|exact⟨⟩|exact(oW key (⟨(sH key s.id r d v).server,(sH key s.id r d v).round,(sH key s.id r d v).selection,OU (sH key s.id r d v).data,(sH key s.id r d v).OJ⟩:eN) (by show(sH key s.id r d v).selection.length≤_;rw[hg];exact hv) (by show(OU (sH key s.id r d v).data).length≤_;rw[Lv,zi];decide))) (aS X [10,11] rfl (by trivial) (ay (ah rfl (by and_intros<;>first|exact⟨⟩| (rw[ha];simp only[hg];rfl;done)| (rw[hk];done)))))
 ·have hq:(ni d v&&(s.behavior==3))=false:=oT hb0 (by simp only[bD]<;>first|rfl|ac_rfl)
  have ha:=XQ (key:=key) (r:=r) hq
  exact aE (aS X [10,11] rfl (by trivial) (ay (ah rfl (by and_intros<;>first|exact⟨⟩|rfl| (rw[ha];done)))))
theorem uD(b:List UInt8):So 254 [.a (.sl .u8 b)] [bl (!decide ((b.length:Int)=24))]:=by
 refine aD X call254 func254 ntmps254 rfl rfl ?_
 intro zb
 exact aF X [0] rfl (aF X [2] rfl (ay (ah rfl ⟨(congrArg dO (by simp only[bD]<;>first|rfl|ac_rfl)),⟨⟩⟩)))
theorem IU(l:List (List UInt8))(hr: ∀a,a∈l→a.length≤1048576):So 255 [.a (.sl (.sl .u8) l)] [.a (.sl .u8 (xU l))]:=by
 refine aD X call255 func255 ntmps255 rfl rfl ?_
 intro zb
 refine eO 0 rfl (fun oc=>(aF X [0] rfl (aS X [0,3] rfl (by and_intros<;>first|exact⟨⟩|exact rfl) (af (aF X [3,7,8,9] rfl ?_)))))
 refine aG (aV (fun k=>k≤l.length) (fun k:Nat=> [(9, .one ((aL k)))]) (fun k=> [(6, .arr .u8 (xU (l.take k)))]) (fun k=>l.length-k) 0 (fun k=>rfl) (aA _) rfl ?_)
 intro k hk
 have hle:=NV hr k
 refine aF X [3,7,8,9,10] rfl ?_
 refine af (az rfl ?_ ?_)<;>intro hb0
 ·try simp only[bW]at hb0
  have hel:=hr _ (getD_in (aO (.sl .u8)) hb0)
  have hs:=Dv l k hb0
  refine aE (af (aG (aS X [3,5,7,8,9] rfl (by and_intros<;>first|exact⟨⟩| (intros;omega)) (bE X [] [(15,⟨true,[.a (.sl .u8 (fk (xU (l.take k)) (l.getD k (aO (.sl .u8)))))]⟩)] [3,7,8,9] [] rfl (by(with_reducible and_intros)<;>first|exact⟨⟩|exact(mu (xU (l.take k)) (l.getD k (aO (.sl .u8))) (by first|assumption|omega| (simp;done)| (simp;omega)) (by first|assumption|omega| (simp;done)| (simp;omega)))) (qR 3 6 rfl (cN X [3,7,8,9] rfl ?_))))))
  refine⟨k+1,by omega,by omega,?_⟩
  rw[cX _ k rfl (by omega),hs]
  try rfl
 ·try simp only[bW]at hb0
  exact bn (aF X [2] rfl (ay (ah rfl ⟨by rw[aB hb0],⟨⟩⟩)))
theorem IV(l:List (List UInt8))(hr: ∀a,a∈l→a.length≤1048576):So 260 [.a (.sl (.sl .u8) l)] [.a (.sl .u8 (xU l))]:=by
 refine aD X call260 func260 ntmps260 rfl rfl ?_
 intro zb
 refine eO 0 rfl (fun oc=>(aF X [0] rfl (aS X [0,3] rfl (by and_intros<;>first|exact⟨⟩|exact rfl) (af (aF X [0,3,4] rfl ?_)))))
 refine aG (aV (fun k=>k≤l.length) (fun k:Nat=> [(4, .one ((aL k)))]) (fun k=> [(5, .arr .u8 (xU (l.take k)))]) (fun k=>l.length-k) 0 (fun k=>rfl) (aA _) rfl ?_)
 intro k hk
 have hle:=NV hr k
 refine af (aF X [0,3,4,9] rfl ?_)
 refine az rfl ?_ ?_<;>intro hb0
 ·try simp only[bW]at hb0
  have hel:=hr _ (getD_in (aO (.sl .u8)) hb0)
  have hs:=Dv l k hb0
  refine aE (af (aG (bE X [] [(17,⟨true,[.a (.sl .u8 (fk (xU (l.take k)) (l.getD k (aO (.sl .u8)))))]⟩)] [0,3,4] [] rfl (by(with_reducible and_intros)<;>first|exact⟨⟩|exact(mw (xU (l.take k)) (l.getD k (aO (.sl .u8))) (by first|assumption|omega| (simp;done)| (simp;omega)) (by first|assumption|omega| (simp;done)| (simp;omega)))| (intros;omega)) (qR 3 5 rfl (cN X [0,3,4] rfl ?_)))))
  refine⟨k+1,by omega,by omega,?_⟩
  rw[cX _ k rfl (by omega),hs]
  try rfl
 ·try simp only[bW]at hb0
  exact bn (aF X [2] rfl (ay (ah rfl ⟨by rw[aB hb0],⟨⟩⟩)))
theorem wz(l:List (List UInt8)):So 223 [.a (.sl (.sl .u8) l)] [.a (.sl .u8 (ZG l)),bl (j7 l)]:=by
 refine aD X call223 func223 ntmps223 rfl rfl ?_
 intro zb
 refine eO 0 rfl (fun oc=>(aF X [0] rfl (af (aQ X [] [(6,⟨false,[bl (eA (l.length:Int))]⟩),(10,⟨false,[bl (l.any fun b=> !decide ((b.length:Int)=24))]⟩)] [0,11] [] rfl (by(with_reducible and_intros);(iterate 2 all_goals try first|exact⟨⟩|exact(gP (l.length:Int))|exact fun _=>(gw _ _ _ uD))) ?_))))
 refine az rfl ?_ ?_<;>intro hb0
 ·have hk:j7 l=false:=by rw[j7,xC];exact dB hb0 (by simp only[bD]<;>first|rfl|ac_rfl)
  exact aF X [2,3] rfl (ay (ah rfl ⟨by rw[FE hk],by rw[hk],⟨⟩⟩))
 ·have hk:j7 l=true:=by rw[j7,xC];exact dy hb0 (by simp only[bD]<;>first|rfl|ac_rfl)
  have hel:=NY hk
  exact aE (aQ X [] [(13,⟨true,[.a (.sl .u8 (xU l))]⟩)] [2,3] [] rfl (by(with_reducible and_intros)<;>first|exact⟨⟩|exact(IU l hel)) (ay (ah rfl ⟨by rw[Lw hk],by rw[hk],⟨⟩⟩)))
theorem wA(l:List (List UInt8)):So 245 [.a (.sl (.sl .u8) l)] [.a (.sl .u8 (ZG l)),bl (j7 l)]:=by
 refine aD X call245 func245 ntmps245 rfl rfl ?_
 intro zb
 refine eO 0 rfl (fun oc=>(aF X [0] rfl (af (aF X [0,4] rfl ?_))))
 refine aG (aV (fun k=>k≤l.length∧(l.take k).all (fun a=>decide ((a.length:Int)=24))=true) (fun k:Nat=> [(4, .one ((aL k)))]) (fun k=> []) (fun k=>l.length-k) 0 (fun k=>rfl) ⟨aA _,rfl⟩ rfl ?_)
 rintro k ⟨hk0,hall⟩
 refine af (aF X [0,4,8] rfl ?_)
 refine az rfl ?_ ?_<;>intro hb0
 ·try simp only[bW]at hb0
  refine aE (af (aG (aS X [0,4,16] rfl (by and_intros<;>first|exact⟨⟩| (intros;omega)) ?_)))
  refine az rfl ?_ ?_<;>intro ck
  ·try simp only[bW]at ck
   have hk:=abj hb0 (fun h=>ck (by rw[h];rfl))
   exact aS X [2,3] rfl (by and_intros<;>first|exact⟨⟩|exact rfl) (ay (ah rfl ⟨by rw[FE hk],by rw[hk],⟨⟩⟩))
  ·try simp only[bW]at ck
   refine aE (cN X [0,4] rfl ?_)
   refine⟨k+1,⟨by omega,by rw[G2 _ _ _ (aO (.sl .u8)) hb0,hall,Bool.true_and];exact decide_eq_true ck⟩,by omega,?_⟩
   rw[cX _ k rfl (by omega)]
   try rfl
 ·try simp only[bW]at hb0
  rw[aB hb0]at hall
  refine bn (af (aQ X [] [(20,⟨false,[bl (eA (l.length:Int))]⟩)] [0,21] [] rfl (by(with_reducible and_intros)<;>first|exact⟨⟩|exact(jG (l.length:Int))) ?_))
  refine az rfl ?_ ?_<;>intro dS
  ·have hk:j7 l=false:=by rw[j7,hall];simpa using dS
   exact aS X [2,3] rfl (by and_intros<;>first|exact⟨⟩|exact rfl) (ay (ah rfl ⟨by rw[FE hk],by rw[hk],⟨⟩⟩))
  ·have hk:j7 l=true:=by rw[j7,hall];simpa using dS
   have hel:=NY hk
   exact aE (aQ X [] [(24,⟨true,[.a (.sl .u8 (xU l))]⟩)] [2,3] [] rfl (by(with_reducible and_intros)<;>first|exact⟨⟩|exact(IV l hel)) (ay (ah rfl ⟨by rw[Lw hk],by rw[hk],⟨⟩⟩)))
theorem xX(l:List eN)(hl:l.length≤1048576):So 166 [.a (.sl .eN l)] [.a (.sl .u8 (ZG (l.map eN.data))),bl (j7 (l.map eN.data))]:=by
 refine aD X call166 func166 ntmps166 rfl rfl ?_
 intro zb
 refine aF X [0] rfl (aS X [0,4] rfl (by and_intros<;>first|exact⟨⟩|exact rfl) (NZ 4 60 rfl (af (aF X [4,8,9,10] rfl ?_))))
 refine aG (aV (fun k=>k≤l.length) (fun k:Nat=> [(10, .one ((aL k)))]) (fun k=> [(60, .jc (.sl .u8) ((l.take k).map eN.data) .rm)]) (fun k=>l.length-k) 0 (fun k=>rfl) (aA _) rfl ?_)
 intro k hk
 have hle:=ct l k
 refine aF X [4,8,9,10,11] rfl ?_
 refine af (az rfl ?_ ?_)<;>intro hb0
 ·try simp only[bW]at hb0
  have hs:=pT eN.data l k (aO .eN) hb0
  have hml:((l.take k).map eN.data).length=(l.take k).length:=bw ..
  refine aE (af (aG (aS X [4,6,8,9,10] rfl (by and_intros<;>first|exact⟨⟩| (intros;omega)) (bE X [(18,60)] [] [4,8,9,10] [] rfl (by and_intros<;>first|exact⟨⟩|exact rfl| (simp only[gl,maxLen,lens];omega)) (cN X [4,8,9,10] rfl ?_)))))
  refine⟨k+1,by omega,by omega,?_⟩
  rw[cX _ k rfl (by omega),hs]
  try rfl
 ·try simp only[bW]at hb0
  rw[aB hb0]
  refine bn (af ?_)
  have t1:=(wz (l.map eN.data))
  exact bE X [] [(21,⟨true,dw t1⟩)] [2,3] [] rfl (by(with_reducible and_intros)<;>first|exact⟨⟩|exact t1) (ay (ah rfl ⟨rfl,rfl,⟨⟩⟩))
theorem xY(l:List eN)(hl:l.length≤1048576):So 199 [.a (.sl .eN l)] [.a (.sl .u8 (ZG (l.map eN.data))),bl (j7 (l.map eN.data))]:=by
 refine aD X call199 func199 ntmps199 rfl rfl ?_
 intro zb
 refine aF X [0] rfl (aS X [0,4] rfl (by and_intros<;>first|exact⟨⟩|exact rfl) (NZ 4 60 rfl (af (aF X [0,4,5] rfl ?_))))
 refine aG (aV (fun k=>k≤l.length) (fun k:Nat=> [(5, .one ((aL k)))]) (fun k=> [(60, .jc (.sl .u8) ((l.take k).map eN.data) .rm)]) (fun k=>l.length-k) 0 (fun k=>rfl) (aA _) rfl ?_)
 intro k hk
 have hle:=ct l k
 refine af (aF X [0,4,5,10] rfl ?_)
 refine az rfl ?_ ?_<;>intro hb0
 ·try simp only[bW]at hb0
  have hs:=pT eN.data l k (aO .eN) hb0
  have hml:((l.take k).map eN.data).length=(l.take k).length:=bw ..
  refine aE (af (aG (bE X [(20,60)] [] [0,4,5] [] rfl (by and_intros<;>first|exact⟨⟩| (intros;omega)|exact rfl| (simp only[gl,maxLen,lens];omega)) (cN X [0,4,5] rfl ?_))))
  refine⟨k+1,by omega,by omega,?_⟩
  rw[cX _ k rfl (by omega),hs]
  try rfl
 ·try simp only[bW]at hb0
  rw[aB hb0]
  refine bn (af ?_)
  have t1:=(wA (l.map eN.data))
  exact bE X [] [(22,⟨true,dw t1⟩)] [2,3] [] rfl (by(with_reducible and_intros)<;>first|exact⟨⟩|exact t1) (ay (ah rfl ⟨rfl,rfl,⟨⟩⟩))
theorem sA(x:cm)(r row s:Int)(hk:okW x=true):So 107 [.agg (cq x),aL r,aL row,aL s] [.a (.sl .u8 (Lp x r row s)),bl (EA x r row s)]:=by
 refine aD X call107 func107 ntmps107 rfl rfl ?_
 intro zb
 have har:=Ly hk
 have hql:=Sd r row s hk
 have hs4:=gy hk
 have hrl:=oR x.aC.length r row s
 refine aF X [1,2,3,4] rfl (af ?_)
 have t1:=(m7 x.aN r ⟨by omega,har.2⟩)
 refine bE X [] [(21,⟨true,dw t1⟩)] [1,2,3,4,10,11] [] rfl (by(with_reducible and_intros)<;>first|exact⟨⟩|exact t1) (af (aQ X [] [(25,⟨false,[bl (okW x)]⟩)] [1,2,3,4,10,30] [] rfl (by(with_reducible and_intros)<;>first|exact⟨⟩|exact(eX x)) ?_))
 refine az rfl ?_ ?_<;>intro hb0
 ·have hh:k7 x.aN.rounds r=false:=by rw[hk]at hb0;simpa using hb0
  exact aF X [8,9] rfl (ay (ah rfl ⟨by rw[(Lx hh).1],by rw[(Lx hh).2],⟨⟩⟩))
 ·have hh:k7 x.aN.rounds r=true:=by rw[hk]at hb0;simpa using hb0
  have hpy:=Se (row:=row) (s:=s) hh
  refine aE (aS X [1,2,3,4,10,12] rfl (by and_intros<;>first|exact⟨⟩|exact rfl) (af (af ?_)))
  have t1:=(Dg x.rows row (jv x.aC.length r row s) (by omega))
  refine aZ X [] [(39,⟨true,[.a (.sl .int (jv x.aC.length r row s))]⟩),(40,⟨true,dw t1⟩)] [1,4,10,12,40,41,42] [] 2047 0 MO (by kernel_rfl) rfl (by kernel_rfl) (by(with_reducible and_intros);(iterate 2 all_goals try first|exact⟨⟩|exact(Di x r row s (by omega))|exact t1)) ?_
  refine aG (aV (fun k=>k≤(query' x r row s).length) (fun k:Nat=> [(42, .one ((aL k)))]) (fun k=> [(31, .arr .eN (vV x r (jJ x.aN.rounds r) (query' x r row s) k))]) (fun k=>(query' x r row s).length-k) 0 (fun k=>rfl) (aA _) rfl ?_)
  intro k hk
  have hal:=JT x r (jJ x.aN.rounds r) (query' x r row s) k
  have hqy:(lN x.rows row (jv x.aC.length r row s)).length=(query' x r row s).length:=rfl
  refine aF X [1,4,10,12,40,41,42,43] rfl ?_
  refine af (az rfl ?_ ?_)<;>intro ck
  ·try simp only[bW]at ck
   have hqe:=XT x r row s k
   have hs:=HP x r (jJ x.aN.rounds r) (query' x r row s) k
   refine aE (af (aG (aS X [1,4,10,12,13,14,40,41,42] rfl (by and_intros<;>first|exact⟨⟩| (intros;omega)) (af ?_))))
   have t1:=(v7 (x.aC.getD k (aO .cg)) (j6 x.bZ (k:Int)) r (jJ x.aN.rounds r) ((query' x r row s).getD k (aO (.sl .int))) (by omega))
   refine aZ X [] [(56,⟨false,[aL (j6 x.bZ (k:Int))]⟩),(60,⟨true,dw t1⟩)] [1,4,10,12,15,16,40,41,42] [] 393215 1 MO (by kernel_rfl) rfl (by kernel_rfl) (by(with_reducible and_intros);(iterate 2 all_goals try first|exact⟨⟩|exact(lH x.bZ (k:Int))|exact t1);all_goals first| (intros;omega)) (af (aF X [1,4,10,12,15,40,41,42,64] rfl ?_))
   refine az rfl ?_ ?_<;>intro dS
   ·have hno:=XJ ck (by simpa using dS)
    exact aF X [8,9] rfl (ay (ah rfl ⟨by rw[hpy.1,FE hno],by rw[hpy.2,hno],⟨⟩⟩))
   ·refine aE (bE X [(68,31)] [] [1,4,10,12,40,41,42] [] rfl (by and_intros<;>first|exact⟨⟩|exact rfl| (simp only[gl,maxLen,lens];omega)) (cN X [1,4,10,12,40,41,42] rfl ?_))
    refine⟨k+1,by omega,by omega,?_⟩
    rw[cX _ k rfl (by omega),hs]
    try rfl
  ·try simp only[bW]at ck
   refine bn (af ?_)
   have t1:=(xX (vV x r (jJ x.aN.rounds r) (query' x r row s) k) (by omega))
   exact bE X [] [(71,⟨true,dw t1⟩)] [8,9] [] rfl (by(with_reducible and_intros)<;>first|exact⟨⟩|exact t1) (ay (ah rfl ⟨by rw[hpy.1,show k=(query' x r row s).length by omega];rfl,by rw[hpy.2,show k=(query' x r row s).length by omega];rfl,⟨⟩⟩))
theorem xZ(x:cm)(r row s:Int)(hk:okW x=true):So 136 [.agg (cq x),aL r,aL row,aL s] [.a (.sl .u8 (Lp x r row s)),bl (EA x r row s)]:=by
 refine aD X call136 func136 ntmps136 rfl rfl ?_
 intro zb
 have har:=Ly hk
 have hql:=Sd r row s hk
 have hs4:=gy hk
 have hrl:=oR x.aC.length r row s
 have hw:an.wrap ((x.aC.length:Int)-1)=(x.aC.length:Int)-1:=dA (by omega)
 refine aF X [1,2,3,4] rfl (af ?_)
 have t1:=(m8 x.aN r ⟨by omega,har.2⟩)
 refine bE X [] [(23,⟨true,dw t1⟩)] [1,2,3,4,10,11] [] rfl (by(with_reducible and_intros)<;>first|exact⟨⟩|exact t1) (af (aF X [1,2,3,4,10,27] rfl ?_))
 refine az rfl ?_ ?_<;>intro hb0
 ·have hh:k7 x.aN.rounds r=false:=by simpa using hb0
  exact aS X [8,9] rfl (by and_intros<;>first|exact⟨⟩|exact rfl) (ay (ah rfl ⟨by rw[(Lx hh).1],by rw[(Lx hh).2],⟨⟩⟩))
 ·have hh:k7 x.aN.rounds r=true:=by simpa using hb0
  have hpy:=Se (row:=row) (s:=s) hh
  refine aE (aS X [1,2,3,4,10,12] rfl (by and_intros<;>first|exact⟨⟩|exact rfl) (af (aF X [1,2,3,4,10,12,13] rfl ?_)))
  refine aG (aV (fun k=>k≤(x.aC.length-1)) (fun k:Nat=> [(13, .one ((aL k)))]) (fun k=> [(29, .arr .int ((jv x.aC.length r row s).take k))]) (fun k=>(x.aC.length-1)-k) 0 (fun k=>rfl) (aA _) rfl ?_)
  intro k hk
  have hle:=ct (jv x.aC.length r row s) k
  refine af (aF X [1,2,3,4,10,12,13,35] rfl ?_)
  refine az rfl ?_ ?_<;>intro ck
  ·try simp only[bW]at ck
   rw[hw]at ck
   have hs:=Er x.aC.length r row s k (by omega)
   refine aE (af (aG (bE X [(46,29)] [(44,⟨false,[aL (kh s [229,r,row,(k:Int)])]⟩)] [1,2,3,4,10,12,13] [] rfl (by(repeat' with_reducible first|exact bF|refine bS ?_ ?_|apply aT)<;>first|exact(cC s [229,r,row,(k:Int)] (by first|assumption|omega| (simp;done)| (simp;omega)))|exact rfl|exact⟨rfl,cB _ (by decide)⟩| (simp only[gl,maxLen,lens];omega)) ?_)))
   refine cN X [1,2,3,4,10,12,13] rfl ?_
   refine⟨k+1,by omega,by omega,?_⟩
   rw[cX _ k rfl (by omega),hs]
   try rfl
  ·try simp only[bW]at ck
   rw[hw]at ck
   refine bn (af ?_)
   rw[aB (show(jv x.aC.length r row s).length≤k by omega)]
   have t1:=(Dh x.rows row (jv x.aC.length r row s) (by omega))
   refine bE X [] [(51,⟨true,dw t1⟩)] [1,4,10,14] [] rfl (by(with_reducible and_intros)<;>first|exact⟨⟩|exact t1) (aS X [1,4,10,14,15] rfl (by and_intros<;>first|exact⟨⟩|exact rfl) (af (aF X [1,4,10,14,15,16] rfl ?_)))
   refine aG (aV (fun k1=>k1≤(query' x r row s).length) (fun k1:Nat=> [(16, .one ((aL k1)))]) (fun k1=> [(52, .arr .eN (vV x r (jJ x.aN.rounds r) (query' x r row s) k1))]) (fun k1=>(query' x r row s).length-k1) 0 (fun k1=>rfl) (aA _) rfl ?_)
   intro k1 hk1
   have hal:=JT x r (jJ x.aN.rounds r) (query' x r row s) k1
   have hqy:(lN x.rows row (jv x.aC.length r row s)).length=(query' x r row s).length:=rfl
   refine af (aF X [1,4,10,14,15,16,56] rfl ?_)
   refine az rfl ?_ ?_<;>intro dS
   ·try simp only[bW]at dS
    have hqe:=XT x r row s k1
    have hs1:=HP x r (jJ x.aN.rounds r) (query' x r row s) k1
    refine aE (af (aG (af ?_)))
    have t1:=(v8 (x.aC.getD k1 (aO .cg)) (j6 x.bZ (k1:Int)) r (jJ x.aN.rounds r) ((query' x r row s).getD k1 (aO (.sl .int))) (by omega))
    refine aZ X [] [(68,⟨false,[aL (j6 x.bZ (k1:Int))]⟩),(75,⟨true,dw t1⟩)] [1,4,10,14,15,16,17] [] 3145727 1 MO (by kernel_rfl) rfl (by kernel_rfl) (by(with_reducible and_intros);(iterate 2 all_goals try first|exact⟨⟩|exact(lI x.bZ (k1:Int))|exact t1);all_goals first| (intros;omega)) (bE X [(81,52)] [] [1,4,10,14,15,16] [] rfl (by and_intros<;>first|exact⟨⟩|exact rfl| (simp only[gl,maxLen,lens];omega)) (cN X [1,4,10,14,15,16] rfl ?_))
    refine⟨k1+1,by omega,by omega,?_⟩
    rw[cX _ k1 rfl (by omega),hs1]
    try rfl
   ·try simp only[bW]at dS
    refine bn (af ?_)
    have t1:=(xY (vV x r (jJ x.aN.rounds r) (query' x r row s) k1) (by omega))
    exact bE X [] [(83,⟨true,dw t1⟩)] [8,9] [] rfl (by(with_reducible and_intros)<;>first|exact⟨⟩|exact t1) (ay (ah rfl ⟨by rw[hpy.1,show k1=(query' x r row s).length by omega];rfl,by rw[hpy.2,show k1=(query' x r row s).length by omega];rfl,⟨⟩⟩))
end
section
set_option maxRecDepth 100000
theorem jt(c:gS)(h0:ga aR c.bz≤1048576∧ga aR c.inbox≤1048576):So 146 [.agg (c9 c)] [.agg (c9 c)]:=by
 refine aD X call146 func146 ntmps146 rfl rfl ?_
 intro zb
 exact aF X [1,2] rfl (aQ X [] [(5,⟨true,[.a (.sl (.sl .u8) c.bz)]⟩)] [1,2] [] rfl (by(with_reducible and_intros)<;>first|exact⟨⟩|exact(oM c.bz h0.1)) (aQ X [] [(9,⟨true,[.a (.sl (.sl .u8) c.inbox)]⟩)] [1,2] [] rfl (by(with_reducible and_intros)<;>first|exact⟨⟩|exact(oM c.inbox h0.2)) (aS X [2] rfl (by trivial) (ay (ah rfl ⟨rfl,rfl,rfl,rfl,rfl,rfl,rfl,rfl,⟨⟩⟩)))))
theorem n7(d:cD)(h0:dH d≤1048576):So 85 [.agg (dZ d)] [.agg (dZ d)]:=by
 refine aD X call85 func85 ntmps85 rfl rfl ?_
 intro zb
 have Ad:eT d.live≤1048576∧eT d.saved≤1048576:=by unfold dH at h0;omega
 unfold eT at Ad
 exact aF X [1,2] rfl (af (aZ X [] [(5,⟨true,[.agg (c9 d.live)]⟩),(8,⟨true,[.agg (c9 d.saved)]⟩)] [2] [] 127 0 MO (by kernel_rfl) rfl (by kernel_rfl) (by(with_reducible and_intros);(iterate 2 all_goals try first|exact⟨⟩|exact(jt d.live ⟨by omega,by omega⟩)|exact(jt d.saved ⟨by omega,by omega⟩))) (ay (ah rfl ⟨rfl,rfl,rfl,rfl,rfl,rfl,rfl,rfl,rfl,rfl,rfl,rfl,rfl,rfl,rfl,rfl,⟨⟩⟩))))
theorem sD(a:mj)(h0:jr a≤1048576):So 87 [.agg (fY a)] [.agg (fY a)]:=by
 refine aD X call87 func87 ntmps87 rfl rfl ?_
 intro zb
 have hls:ga iE a.rounds≤1048576:=h0
 have oc:=gd hls
 refine aF X [1,2] rfl (aF X [1,2,3] rfl (lE 3 1 60 .bt rfl (af (aF X [2,3,10,11,12] rfl ?_))))
 refine aG (aV (fun k=>k≤a.rounds.length) (fun k:Nat=> [(12, .one ((aL k)))]) (fun k=> [(60, .arr .bt (a.rounds.take k))]) (fun k=>a.rounds.length-k) 0 (fun k=>rfl) (aA _) rfl ?_)
 intro k hk
 have hle:=ct a.rounds k
 refine aF X [2,3,10,11,12,13] rfl ?_
 refine af (az rfl ?_ ?_)<;>intro hb0
 ·try simp only[bW]at hb0
  have hs:=cI a.rounds k (aO .bt) hb0
  refine aE (af (aG (aS X [2,3,5,10,11,12] rfl (by and_intros<;>first|exact⟨⟩| (intros;omega)) (aZ X [(25,60)] [(22,⟨true,[.agg (bJ ((a.rounds.getD k (aO .bt)).db))]⟩),(500024,⟨true,[]⟩)] [2,3,10,11,12] [] 511 0 MO (by kernel_rfl) rfl (by kernel_rfl) (by(repeat' with_reducible first|exact bF|refine bS ?_ ?_|apply aT)<;>first|exact(eH ((a.rounds.getD k (aO .bt)).db) (o7 hls (getD_some a.rounds _ k hb0)))|exact rfl|exact⟨rfl,cB _ (by decide)⟩| (simp only[gl,maxLen,lens];omega)) ?_))))
  refine cN X [2,3,10,11,12] rfl ?_
  refine⟨k+1,by omega,by omega,?_⟩
  rw[cX _ k rfl (by omega),hs]
  try rfl
 ·try simp only[bW]at hb0
  exact bn (aS X [2] rfl (by trivial) (ay (ah rfl ⟨rfl,by rw[aB hb0],⟨⟩⟩)))
theorem lJ(x:cm)(h0:wB x):So 39 [.agg (cq x)] [.agg (cq x)]:=by
 refine aD X call39 func39 ntmps39 rfl rfl ?_
 intro zb
 have hls:ga iP x.aC≤1048576∧ga dH x.aq≤1048576∧jr x.aN≤1048576∧x.replaced.length≤4194304:=h0
 have hl1:=gd hls.1
 have qN:=gd hls.2.1
 refine aF X [1,2] rfl (aS X [1,2,3] rfl (by and_intros<;>first|exact⟨⟩|exact rfl) (af (aF X [1,2,3,8,9,10] rfl ?_)))
 refine aG (aV (fun k=>k≤x.aq.length) (fun k:Nat=> [(10, .one ((aL k)))]) (fun k=> [(6, .arr .cD (x.aq.take k))]) (fun k=>x.aq.length-k) 0 (fun k=>rfl) (aA _) rfl ?_)
 intro k hk
 have hle:=ct x.aq k
 refine aF X [1,2,3,8,9,10,11] rfl ?_
 refine af (az rfl ?_ ?_)<;>intro hb0
 ·try simp only[bW]at hb0
  have hs:=cI x.aq k (aO .cD) hb0
  refine aE (af (aG (aS X [1,2,3,5,8,9,10] rfl (by and_intros<;>first|exact⟨⟩| (intros;omega)) (bE X [(18,6)] [(16,⟨true,[.agg (dZ (x.aq.getD k (aO .cD)))]⟩)] [1,2,3,8,9,10] [] rfl (by(with_reducible and_intros)<;>first|exact⟨⟩|exact(n7 (x.aq.getD k (aO .cD)) (o7 hls.2.1 (getD_some x.aq _ k hb0)))|exact rfl| (simp only[gl,maxLen,lens];omega)) (cN X [1,2,3,8,9,10] rfl ?_)))))
  refine⟨k+1,by omega,by omega,?_⟩
  rw[cX _ k rfl (by omega),hs]
  try rfl
 ·try simp only[bW]at hb0
  exact bn (aQ X [] [(22,⟨true,[.a (.sl .cg x.aC)]⟩)] [1,2,3] [] rfl (by(with_reducible and_intros)<;>first|exact⟨⟩|exact(sq x.aC hl1 (fun s hs=>by obtain⟨i,hi⟩:=List.mem_iff_getElem?.1 hs;exact JO hls.1 hi))) (aF X [1,2] rfl (aQ X [] [(28,⟨true,[.agg (fY x.aN)]⟩)] [1,2] [] rfl (by(with_reducible and_intros)<;>first|exact⟨⟩|exact(sD x.aN hls.2.2.1)) (aQ X [] [(32,⟨true,[.a (.sl .int x.replaced)]⟩)] [1,2] [] rfl (by(with_reducible and_intros)<;>first|exact⟨⟩|exact(jQ x.replaced hls.2.2.2)) (aS X [2] rfl (by trivial) (ay (ah rfl (by and_intros<;>first|exact⟨⟩|rfl| (rw[aB hb0];done)))))))))
theorem DJ(c:gS)(h0:ga aR c.bz≤1048576∧ga aR c.inbox≤1048576):So 225 [.agg (c9 c)] [.agg (dZ (⟨c,c⟩:cD))]:=by
 refine aD X call225 func225 ntmps225 rfl rfl ?_
 intro zb
 exact aF X [1,2] rfl (af (aZ X [(6,40)] [(4,⟨true,[.agg (c9 c)]⟩),(6,⟨true,[.agg (c9 c)]⟩)] [2] [] 31 0 MO (by kernel_rfl) rfl (by kernel_rfl) (by(with_reducible and_intros);(iterate 2 all_goals try first|exact⟨⟩|exact(jt c h0))) (ay (ah rfl ⟨rfl,rfl,rfl,rfl,rfl,rfl,rfl,rfl,rfl,rfl,rfl,rfl,rfl,rfl,rfl,rfl,⟨⟩⟩))))
theorem Cd(d:cD)(h0:dH d≤1048576):So 169 [.agg (dZ d)] [.agg (dZ (OX d))]:=by
 refine aD X call169 func169 ntmps169 rfl rfl ?_
 intro zb
 have Ad:eT d.live≤1048576∧eT d.saved≤1048576:=by unfold dH at h0;omega
 unfold eT at Ad
 refine aF X [1,2] rfl (af (aQ X [] [(4,⟨false,[bl (fJ d)]⟩)] [1,2,5] [] rfl (by(with_reducible and_intros)<;>first|exact⟨⟩|exact(jq d)) ?_))
 refine az rfl ?_ ?_<;>intro hb0
 ·have hk:fJ d=false:=by simpa using hb0
  have hd:OX d=d:=by rw[OX,hk];rfl
  exact aQ X [] [(7,⟨true,[.agg (dZ d)]⟩)] [2] [] rfl (by(with_reducible and_intros)<;>first|exact⟨⟩|exact(n7 d h0)) (ay (ah rfl (by and_intros<;>first|exact⟨⟩| (rw[hd];done))))
 ·have hk:fJ d=true:=by simpa using hb0
  have hd:OX d=⟨d.live,d.live⟩:=by rw[OX,if_pos hk]
  exact aE (aQ X [] [(10,⟨true,[.agg (dZ (⟨d.live,d.live⟩:cD))]⟩)] [2] [] rfl (by(with_reducible and_intros)<;>first|exact⟨⟩|exact(DJ d.live ⟨by omega,by omega⟩)) (ay (ah rfl (by and_intros<;>first|exact⟨⟩| (rw[hd];done)))))
theorem DK(d:cD):So 168 [.agg (dZ d)] [bl (zO d)]:=by
 refine aD X call168 func168 ntmps168 rfl rfl ?_
 intro zb
 exact aF X [1] rfl (aQ X [] [(4,⟨false,[bl (fJ d)]⟩)] [2] [] rfl (by(with_reducible and_intros)<;>first|exact⟨⟩|exact(jq d)) (ay (ah rfl ⟨(congrArg dO (by simp only[zO,bD]<;>first|rfl|ac_rfl)),⟨⟩⟩)))
theorem Ce(c:gS)(r n:Int):So 106 [.agg (c9 c),aL r,aL n] [aL (iw c.key r (eK c) n),aL (iw c.key r (1-eK c) n)]:=by
 refine aD X call106 func106 ntmps106 rfl rfl ?_
 intro zb
 have hdw:=Ym c
 exact aF X [1,2,3] rfl (af (aZ X [] [(12,⟨false,[aL (eK c)]⟩),(14,⟨false,[aL (iw c.key r (eK c) n)]⟩),(19,⟨false,[aL (eK c)]⟩),(22,⟨false,[aL (iw c.key r (an.wrap (1-eK c)) n)]⟩)] [6,7] [] 131071 0 MO (by kernel_rfl) rfl (by kernel_rfl) (by(with_reducible and_intros);(iterate 4 all_goals try first|exact⟨⟩|exact(jI c)|exact(nE c.key r (eK c) n)|exact(nE c.key r (an.wrap (1-eK c)) n))) (ay (ah rfl ⟨rfl,by rw[hdw],⟨⟩⟩))))
theorem Cf(c:gS)(r:Int)(own other:List UInt8)(h0:ga aR c.bz≤1048576∧ga aR c.inbox≤1048576):So 167 [.agg (c9 c),aL r, .a (.sl .u8 own), .a (.sl .u8 other)] [.agg (c9 (gG c r own other)),bl (p7 c r)]:=by
 refine aD X call167 func167 ntmps167 rfl rfl ?_
 intro zb
 refine aF X [1,2,3,4,8] rfl (aQ X [] [(14,⟨true,[.agg (c9 c)]⟩)] [1,2,3,4,8,10] [] rfl (by(with_reducible and_intros)<;>first|exact⟨⟩|exact(jt c h0)) (af (aQ X [] [(16,⟨false,[bl (fG c)]⟩),(22,⟨false,[bl (inr r c.next 99999)]⟩)] [1,2,3,4,8,10,24] [] rfl (by(with_reducible and_intros);(iterate 2 all_goals try first|exact⟨⟩|exact(jo c)|exact fun _=>(bB r c.next 99999))) ?_)))
 refine az rfl ?_ ?_<;>intro hb0
 ·have hk:p7 c r=false:=dB hb0 (by simp only[p7,bD]<;>first|rfl|ac_rfl)
  have hc:=N7 (own:=own) (other:=other) hk
  exact aS X [8,9] rfl (by trivial) (ay (ah rfl (by and_intros<;>first|exact⟨⟩| (rw[hc];done)| (rw[hk];done))))
 ·have hk:p7 c r=true:=dy hb0 (by simp only[p7,bD]<;>first|rfl|ac_rfl)
  obtain⟨hok,hn1,hn2,Zu⟩:=Yh hk
  obtain⟨hu1,UW,_,_,hs0,hs9,_,_⟩:=uy hok
  have hc:gG c r own other=⟨c.id,c.gZ,c.key,c.seed,c.bz,if lO c own then c.sent+1 else c.sent,if jK c other then c.inbox++ [(NT (xV c) (c.inbox.length:Int) other).body]else c.inbox,r+1⟩:=by rw[gG,if_pos hk]
  refine aE (af (aQ X [] [(37,⟨false,[.a (.sl .u8 (rR c c.sent))]⟩),(38,⟨false,[bl (own==(rR c c.sent))]⟩)] [1,3,4,8,10,39] [] rfl ⟨fun _=>nJ own (rR c c.sent),fun h=>rT c c.sent hs0 (of_decide_eq_true h),⟨⟩⟩ ?_))
  refine az rfl ?_ ?_<;>intro ck
  ·have hh:lO c own=true:=lG ck (by simp only[lO,bD]<;>first|rfl|ac_rfl)
   refine cN X [1,3,4,8,10] rfl ?_
   rw[dA (a:=c.sent+1) (by omega)]
   refine af ?_
   have t1:=(vY (mJ c.key (an.wrap (1-eK c))) (c.inbox.length:Int) other)
   refine aZ X [] [(48,⟨false,[aL (eK c)]⟩),(50,⟨false,[aL (mJ c.key (an.wrap (1-eK c)))]⟩),(55,⟨true,dw t1⟩)] [1,4,8,10,11,12] [] 98303 1 MO (by kernel_rfl) rfl (by kernel_rfl) (by(with_reducible and_intros);(iterate 3 all_goals try first|exact⟨⟩|exact(jI c)|exact(lS c.key (an.wrap (1-eK c)))|exact t1)) ?_
   rw[Cc]
   refine af (aF X [1,8,10,11,69] rfl ?_)
   refine az rfl ?_ ?_<;>intro dS
   ·have hg:jK c other=true:=lG dS (by simp only[jK,bD]<;>first|rfl|ac_rfl)
    refine mU X [1,8,10] rfl (by and_intros<;>first|exact⟨⟩|exact rfl| (simp only[gl,maxLen,lens];omega)) (aF X [8,10] rfl ?_)
    rw[dA (a:=r+1) (by omega)]
    exact aS X [8,9] rfl (by trivial) (ay (ah rfl (by and_intros<;>first|exact⟨⟩| (rw[hc];done)| (rw[hc];simp only[hh,if_true];done)| (rw[hc];simp only[hg,if_true];done)| (rw[hk];done))))
   ·have hg:jK c other=false:=oT dS (by simp only[jK,bD]<;>first|rfl|ac_rfl)
    refine aE (aF X [8,10] rfl ?_)
    rw[dA (a:=r+1) (by omega)]
    exact aS X [8,9] rfl (by trivial) (ay (ah rfl (by and_intros<;>first|exact⟨⟩| (rw[hc];done)| (rw[hc];simp only[hh,if_true];done)| (rw[hc];simp[hg];done)| (rw[hk];done))))
  ·have hh:lO c own=false:=oT ck (by simp only[lO,bD]<;>first|rfl|ac_rfl)
   refine aE (af ?_)
   have t1:=(vY (mJ c.key (an.wrap (1-eK c))) (c.inbox.length:Int) other)
   refine aZ X [] [(48,⟨false,[aL (eK c)]⟩),(50,⟨false,[aL (mJ c.key (an.wrap (1-eK c)))]⟩),(55,⟨true,dw t1⟩)] [1,4,8,10,11,12] [] 98303 1 MO (by kernel_rfl) rfl (by kernel_rfl) (by(with_reducible and_intros);(iterate 3 all_goals try first|exact⟨⟩|exact(jI c)|exact(lS c.key (an.wrap (1-eK c)))|exact t1)) ?_
   rw[Cc]
   refine af (aF X [1,8,10,11,69] rfl ?_)
   refine az rfl ?_ ?_<;>intro dS
   ·have hg:jK c other=true:=lG dS (by simp only[jK,bD]<;>first|rfl|ac_rfl)
    refine mU X [1,8,10] rfl (by and_intros<;>first|exact⟨⟩|exact rfl| (simp only[gl,maxLen,lens];omega)) (aF X [8,10] rfl ?_)
    rw[dA (a:=r+1) (by omega)]
    exact aS X [8,9] rfl (by trivial) (ay (ah rfl (by and_intros<;>first|exact⟨⟩| (rw[hc];done)| (rw[hc];simp[hh];done)| (rw[hc];simp only[hg,if_true];done)| (rw[hk];done))))
   ·have hg:jK c other=false:=oT dS (by simp only[jK,bD]<;>first|rfl|ac_rfl)
    refine aE (aF X [8,10] rfl ?_)
    rw[dA (a:=r+1) (by omega)]
    exact aS X [8,9] rfl (by trivial) (ay (ah rfl (by and_intros<;>first|exact⟨⟩| (rw[hc];done)| (rw[hc];simp[hh];done)| (rw[hc];simp[hg];done)| (rw[hk];done))))
theorem zu(d:cD)(r:Int)(own other:List UInt8)(h0:dH d≤1048576):So 108 [.agg (dZ d),aL r, .a (.sl .u8 own), .a (.sl .u8 other)] [.agg (dZ (rdev d r own other)),bl (vG d r)]:=by
 refine aD X call108 func108 ntmps108 rfl rfl ?_
 intro zb
 have Ad:eT d.live≤1048576∧eT d.saved≤1048576:=by unfold dH at h0;omega
 unfold eT at Ad
 refine aF X [1,2,3,4,8] rfl (af ?_)
 have t1:=(Cf d.live r own other ⟨by omega,by omega⟩)
 refine bE X [] [(19,⟨true,dw t1⟩)] [4,8,10,11] [] rfl (by(with_reducible and_intros)<;>first|exact⟨⟩|exact t1) (af (aQ X [] [(26,⟨false,[bl (fJ d)]⟩)] [4,8,10,28] [] rfl (by(with_reducible and_intros)<;>first|exact⟨⟩|exact fun _=>(jq d)) ?_))
 refine az rfl ?_ ?_<;>intro hb0
 ·have hk:vG d r=false:=dB hb0 (by simp only[vG,bD]<;>first|rfl|ac_rfl)
  have hd:=Sv (own:=own) (other:=other) hk
  exact aQ X [] [(30,⟨true,[.agg (dZ d)]⟩)] [8,9] [] rfl (by(with_reducible and_intros)<;>first|exact⟨⟩|exact(n7 d h0)) (ay (ah rfl (by and_intros<;>first|exact⟨⟩| (rw[hd];done)| (rw[hk];done))))
 ·have hk:vG d r=true:=dy hb0 (by simp only[vG,bD]<;>first|rfl|ac_rfl)
  have hz:=N8 (own:=own) (other:=other) hk
  refine aE (af (aZ X [] [(34,⟨true,[.agg (c9 d.saved)]⟩)] [8,12] [] 63 0 MO (by kernel_rfl) rfl (by kernel_rfl) (by(with_reducible and_intros)<;>first|exact⟨⟩|exact(jt d.saved ⟨by omega,by omega⟩)) (af (aQ X [] [(37,⟨false,[bl (zO (p8 d r own other))]⟩)] [8,12,37] [] rfl (by(with_reducible and_intros)<;>first|exact⟨⟩|exact(DK (p8 d r own other))) ?_))))
  refine az rfl ?_ ?_<;>intro ck
  ·have hd:=Sw hk ck
   exact bE X [] [(39,⟨true,[.agg (dZ (OX (p8 d r own other)))]⟩)] [8,12] [] rfl (by(with_reducible and_intros)<;>first|exact⟨⟩|exact(Cd (p8 d r own other) hz)) (aS X [8,9] rfl (by trivial) (ay (ah rfl (by and_intros<;>first|exact⟨⟩| (rw[hd];done)| (rw[hk];done)))))
  ·have hd:=Sx hk ck
   exact aE (aS X [8,9] rfl (by trivial) (ay (ah rfl (by and_intros<;>first|exact⟨⟩| (rw[hd];rfl;done)| (rw[hk];done)))))
theorem DL(x:cm)(h0:wB x):So 60 [.agg (cq x)] [.agg (cq (NX x))]:=by
 refine aD X call60 func60 ntmps60 rfl rfl ?_
 intro zb
 have hls:ga iP x.aC≤1048576∧ga dH x.aq≤1048576∧jr x.aN≤1048576∧x.replaced.length≤4194304:=h0
 have qN:=gd hls.2.1
 refine aF X [1,2] rfl (aQ X [] [(15,⟨true,[.agg (cq x)]⟩)] [1,2,3] [] rfl (by(with_reducible and_intros)<;>first|exact⟨⟩|exact(lJ x h0)) (af (aQ X [] [(17,⟨false,[bl (okW x)]⟩)] [1,2,3,18] [] rfl (by(with_reducible and_intros)<;>first|exact⟨⟩|exact(eX x)) ?_)))
 refine az rfl ?_ ?_<;>intro hb0
 ·have hk0:okW x=false:=by simpa using hb0
  have hw:=Yl hk0
  exact aS X [2] rfl (by trivial) (ay (ah rfl (by and_intros<;>first|exact⟨⟩| (rw[hw];done))))
 ·have hk0:okW x=true:=by simpa using hb0
  have hw:=FH hk0
  have har:=Ly hk0
  have hd8:=(sY (nL hk0)).2.1
  refine aE (af (aF X [1,2,3,21,22,23] rfl ?_))
  refine aG (aV (fun k=>k≤x.aq.length) (fun k:Nat=> [(23, .one ((aL k)))]) (fun k=> [(17, .arr .cD (Va x k))]) (fun k=>x.aq.length-k) 0 (fun k=>rfl) (aA _) rfl ?_)
  intro k hk
  have Ix:=R8 x k hk
  refine aF X [1,2,3,21,22,23,24] rfl ?_
  refine af (az rfl ?_ ?_)<;>intro ck
  ·try simp only[bW]at ck
   have hrg:=R7 x k ck
   have h00:=XK x k ck
   have Fq:=AB x.aN.rounds (x.aq.getD k (aO .cD)).live.next
   have ajT:(tP x (x.aq.getD k (aO .cD))).length≤x.aN.rounds.length:=Fq
   have hrq:(jx x.aN.rounds (x.aq.getD k (aO .cD)).live.next).length=(tP x (x.aq.getD k (aO .cD))).length:=rfl
   refine aE (af (aG (aS X [1,2,3,4,5,21,22,23] rfl (by and_intros<;>first|exact⟨⟩| (intros;omega)) (af ?_))))
   have t1:=(AD x.aN ((x.aq.getD k (aO .cD)).live.next) (by omega))
   refine bE X [] [(33,⟨true,dw t1⟩)] [1,2,3,4,5,21,22,23,33,34,35] [] rfl (by(with_reducible and_intros)<;>first|exact⟨⟩|exact t1) ?_
   refine aG (aV (fun k1=>k1≤(tP x (x.aq.getD k (aO .cD))).length) (fun k1:Nat=> [(35, .one ((aL k1)))]) (fun k1=> [(17, .arr .cD (uO x k k1))]) (fun k1=>(tP x (x.aq.getD k (aO .cD))).length-k1) 0 (fun k1=>rfl) (aA _) (by rw[h00];rfl) ?_)
   intro k1 hk1
   have rz:=R5 x k k1 ck
   refine aF X [1,2,3,4,5,21,22,23,33,34,35,36] rfl ?_
   refine af (az rfl ?_ ?_)<;>intro dS
   ·try simp only[bW]at dS
    have hs:=NW x k k1 ck dS
    have hsz:=Yi hk0 ck k1
    refine aE (af (aG (aS X [1,2,3,4,5,7,21,22,23,33,34,35] rfl (by and_intros<;>first|exact⟨⟩| (intros;omega)) (af ?_))))
    have t1:=(Ce ((x.aq.getD k (aO .cD)).live) ((tP x (x.aq.getD k (aO .cD))).getD k1 (aO .int)) x.rows)
    refine bE X [] [(45,⟨false,dw t1⟩)] [1,2,3,4,5,7,8,9,21,22,23,33,34,35] [] rfl (by(with_reducible and_intros)<;>first|exact⟨⟩|exact t1) (af ?_)
    have t1:=(sA x ((tP x (x.aq.getD k (aO .cD))).getD k1 (aO .int)) (iw (x.aq.getD k (aO .cD)).live.key ((tP x (x.aq.getD k (aO .cD))).getD k1 (aO .int)) (eK (x.aq.getD k (aO .cD)).live) x.rows) ((x.aq.getD k (aO .cD)).live.seed) hk0)
    refine bE X [] [(55,⟨true,dw t1⟩)] [1,2,3,4,5,7,9,10,21,22,23,33,34,35] [] rfl (by(with_reducible and_intros)<;>first|exact⟨⟩|exact t1) (af ?_)
    have t1:=(sA x ((tP x (x.aq.getD k (aO .cD))).getD k1 (aO .int)) (iw (x.aq.getD k (aO .cD)).live.key ((tP x (x.aq.getD k (aO .cD))).getD k1 (aO .int)) (1-eK (x.aq.getD k (aO .cD)).live) x.rows) ((x.aq.getD k (aO .cD)).live.seed) hk0)
    refine bE X [] [(65,⟨true,dw t1⟩)] [1,2,3,4,5,7,10,12,21,22,23,33,34,35] [] rfl (by(with_reducible and_intros)<;>first|exact⟨⟩|exact t1) ?_
    have t1:=(zu ((uO x k k1).getD k (aO .cD)) ((tP x (x.aq.getD k (aO .cD))).getD k1 (aO .int)) (Lp x ((tP x (x.aq.getD k (aO .cD))).getD k1 (aO .int)) (iw (x.aq.getD k (aO .cD)).live.key ((tP x (x.aq.getD k (aO .cD))).getD k1 (aO .int)) (eK (x.aq.getD k (aO .cD)).live) x.rows) (x.aq.getD k (aO .cD)).live.seed) (Lp x ((tP x (x.aq.getD k (aO .cD))).getD k1 (aO .int)) (iw (x.aq.getD k (aO .cD)).live.key ((tP x (x.aq.getD k (aO .cD))).getD k1 (aO .int)) (1-eK (x.aq.getD k (aO .cD)).live) x.rows) (x.aq.getD k (aO .cD)).live.seed) hsz)
    refine aZ X [] [(80,⟨true,dw t1⟩)] [1,2,3,4,5,21,22,23,33,34,35] [] 65535 1 MO (by kernel_rfl) rfl (by kernel_rfl) (by(with_reducible and_intros)<;>first|exact⟨⟩|exact t1| (intros;omega)) (cN X [1,2,3,4,5,21,22,23,33,34,35] rfl ?_)
    refine⟨k1+1,by omega,by omega,?_⟩
    rw[cX _ k1 rfl (by omega), ←hs]
    try rfl
   ·try simp only[bW]at dS
    rw[R6 x k k1 ck dS]
    refine bn (cN X [1,2,3,21,22,23] rfl ?_)
    refine⟨k+1,by omega,by omega,?_⟩
    rw[cX _ k rfl (by omega)]
    try rfl
  ·try simp only[bW]at ck
   exact bn (aS X [2] rfl (by trivial) (ay (ah rfl (by and_intros<;>first|exact⟨⟩| (rw[hw];done)| (rw[hw,R9 x k (by omega) (by omega)];done)))))
theorem uH(c:gS)(h0:ga aR c.bz≤1048576∧ga aR c.inbox≤1048576):So 27 [.agg (c9 c)] [.agg (dZ (⟨c,c⟩:cD))]:=by
 refine aD X call27 func27 ntmps27 rfl rfl ?_
 intro zb
 exact aF X [1,2] rfl (af (aZ X [(6,40)] [(4,⟨true,[.agg (c9 c)]⟩),(6,⟨true,[.agg (c9 c)]⟩)] [2] [] 31 0 MO (by kernel_rfl) rfl (by kernel_rfl) (by(with_reducible and_intros);(iterate 2 all_goals try first|exact⟨⟩|exact(iQ c h0))) (ay (ah rfl ⟨rfl,rfl,rfl,rfl,rfl,rfl,rfl,rfl,rfl,rfl,rfl,rfl,rfl,rfl,rfl,rfl,⟨⟩⟩))))
theorem Cg(d:cD)(h0:dH d≤1048576):So 202 [.agg (dZ d)] [.agg (dZ (OX d))]:=by
 refine aD X call202 func202 ntmps202 rfl rfl ?_
 intro zb
 have Ad:eT d.live≤1048576∧eT d.saved≤1048576:=by unfold dH at h0;omega
 unfold eT at Ad
 refine aF X [1,2] rfl (af (aQ X [] [(4,⟨false,[bl (fJ d)]⟩)] [1,2,5] [] rfl (by(with_reducible and_intros)<;>first|exact⟨⟩|exact(gQ d)) ?_))
 refine az rfl ?_ ?_<;>intro hb0
 ·have hk:fJ d=false:=by simpa using hb0
  have hd:OX d=d:=by rw[OX,hk];rfl
  exact aQ X [] [(7,⟨true,[.agg (dZ d)]⟩)] [2] [] rfl (by(with_reducible and_intros)<;>first|exact⟨⟩|exact(nX d h0)) (ay (ah rfl (by and_intros<;>first|exact⟨⟩| (rw[hd];done))))
 ·have hk:fJ d=true:=by simpa using hb0
  have hd:OX d=⟨d.live,d.live⟩:=by rw[OX,if_pos hk]
  exact aE (aQ X [] [(10,⟨true,[.agg (dZ (⟨d.live,d.live⟩:cD))]⟩)] [2] [] rfl (by(with_reducible and_intros)<;>first|exact⟨⟩|exact(uH d.live ⟨by omega,by omega⟩)) (ay (ah rfl (by and_intros<;>first|exact⟨⟩| (rw[hd];done)))))
theorem DM(d:cD):So 201 [.agg (dZ d)] [bl (zO d)]:=by
 refine aD X call201 func201 ntmps201 rfl rfl ?_
 intro zb
 exact aF X [1] rfl (aQ X [] [(4,⟨false,[bl (fJ d)]⟩)] [2] [] rfl (by(with_reducible and_intros)<;>first|exact⟨⟩|exact(gQ d)) (ay (ah rfl ⟨(congrArg dO (by simp only[zO,bD]<;>first|rfl|ac_rfl)),⟨⟩⟩)))
theorem Ch(c:gS)(r n:Int):So 135 [.agg (c9 c),aL r,aL n] [aL (iw c.key r (eK c) n),aL (iw c.key r (1-eK c) n)]:=by
 refine aD X call135 func135 ntmps135 rfl rfl ?_
 intro zb
 have hdw:=Ym c
 exact aF X [1,2,3] rfl (aQ X [] [(10,⟨false,[aL (eK c)]⟩)] [1,2,3,8] [] rfl (by(with_reducible and_intros)<;>first|exact⟨⟩|exact(ig c)) (af (aZ X [] [(16,⟨false,[aL (iw c.key r (eK c) n)]⟩),(23,⟨false,[aL (iw c.key r (an.wrap (1-eK c)) n)]⟩)] [6,7] [] 32767 0 MO (by kernel_rfl) rfl (by kernel_rfl) (by(with_reducible and_intros);(iterate 2 all_goals try first|exact⟨⟩|exact(nF c.key r (eK c) n)|exact(nF c.key r (an.wrap (1-eK c)) n))) (ay (ah rfl ⟨rfl,by rw[hdw],⟨⟩⟩)))))
theorem Ci(c:gS)(r:Int)(own other:List UInt8)(h0:ga aR c.bz≤1048576∧ga aR c.inbox≤1048576):So 200 [.agg (c9 c),aL r, .a (.sl .u8 own), .a (.sl .u8 other)] [.agg (c9 (gG c r own other)),bl (p7 c r)]:=by
 refine aD X call200 func200 ntmps200 rfl rfl ?_
 intro zb
 refine aF X [1,2,3,4,8] rfl (aQ X [] [(14,⟨true,[.agg (c9 c)]⟩)] [1,2,3,4,8,10] [] rfl (by(with_reducible and_intros)<;>first|exact⟨⟩|exact(iQ c h0)) (af (aQ X [] [(16,⟨false,[bl (fG c)]⟩),(22,⟨false,[bl (inr r c.next 99999)]⟩)] [1,2,3,4,8,10,24] [] rfl (by(with_reducible and_intros);(iterate 2 all_goals try first|exact⟨⟩|exact(fX c)|exact fun _=>(bU r c.next 99999))) ?_)))
 refine az rfl ?_ ?_<;>intro hb0
 ·have hk:p7 c r=false:=dB hb0 (by simp only[p7,bD]<;>first|rfl|ac_rfl)
  have hc:=N7 (own:=own) (other:=other) hk
  exact aS X [8,9] rfl (by trivial) (ay (ah rfl (by and_intros<;>first|exact⟨⟩| (rw[hc];done)| (rw[hk];done))))
 ·have hk:p7 c r=true:=dy hb0 (by simp only[p7,bD]<;>first|rfl|ac_rfl)
  obtain⟨hok,hn1,hn2,Zu⟩:=Yh hk
  obtain⟨hu1,UW,_,_,hs0,hs9,_,_⟩:=uy hok
  have hc:gG c r own other=⟨c.id,c.gZ,c.key,c.seed,c.bz,if lO c own then c.sent+1 else c.sent,if jK c other then c.inbox++ [(NT (xV c) (c.inbox.length:Int) other).body]else c.inbox,r+1⟩:=by rw[gG,if_pos hk]
  refine aE (af (aQ X [] [(35,⟨false,[.a (.sl .u8 (rR c c.sent))]⟩),(36,⟨false,[bl (own==(rR c c.sent))]⟩)] [1,3,4,8,10,37] [] rfl ⟨fun _=>nH own (rR c c.sent),fun h=>xE c hs0 (of_decide_eq_true h),⟨⟩⟩ ?_))
  refine az rfl ?_ ?_<;>intro ck
  ·have hh:lO c own=true:=lG ck (by simp only[lO,bD]<;>first|rfl|ac_rfl)
   refine cN X [1,3,4,8,10] rfl ?_
   rw[dA (a:=c.sent+1) (by omega)]
   refine af ?_
   have t1:=(vZ (mJ c.key (an.wrap (1-eK c))) (c.inbox.length:Int) other)
   refine aZ X [] [(46,⟨false,[aL (eK c)]⟩),(48,⟨false,[aL (mJ c.key (an.wrap (1-eK c)))]⟩),(53,⟨true,dw t1⟩)] [1,4,8,10,11,12] [] 98303 1 MO (by kernel_rfl) rfl (by kernel_rfl) (by(with_reducible and_intros);(iterate 3 all_goals try first|exact⟨⟩|exact(ig c)|exact(lT c.key (an.wrap (1-eK c)))|exact t1)) ?_
   rw[Cc]
   refine af (aF X [1,8,10,11,67] rfl ?_)
   refine az rfl ?_ ?_<;>intro dS
   ·have hg:jK c other=true:=lG dS (by simp only[jK,bD]<;>first|rfl|ac_rfl)
    refine mU X [1,8,10] rfl (by and_intros<;>first|exact⟨⟩|exact rfl| (simp only[gl,maxLen,lens];omega)) (aF X [8,10] rfl ?_)
    rw[dA (a:=r+1) (by omega)]
    exact aS X [8,9] rfl (by trivial) (ay (ah rfl (by and_intros<;>first|exact⟨⟩| (rw[hc];done)| (rw[hc];simp only[hh,if_true];done)| (rw[hc];simp only[hg,if_true];done)| (rw[hk];done))))
   ·have hg:jK c other=false:=oT dS (by simp only[jK,bD]<;>first|rfl|ac_rfl)
    refine aE (aF X [8,10] rfl ?_)
    rw[dA (a:=r+1) (by omega)]
    exact aS X [8,9] rfl (by trivial) (ay (ah rfl (by and_intros<;>first|exact⟨⟩| (rw[hc];done)| (rw[hc];simp only[hh,if_true];done)| (rw[hc];simp[hg];done)| (rw[hk];done))))
  ·have hh:lO c own=false:=oT ck (by simp only[lO,bD]<;>first|rfl|ac_rfl)
   refine aE (af ?_)
   have t1:=(vZ (mJ c.key (an.wrap (1-eK c))) (c.inbox.length:Int) other)
   refine aZ X [] [(46,⟨false,[aL (eK c)]⟩),(48,⟨false,[aL (mJ c.key (an.wrap (1-eK c)))]⟩),(53,⟨true,dw t1⟩)] [1,4,8,10,11,12] [] 98303 1 MO (by kernel_rfl) rfl (by kernel_rfl) (by(with_reducible and_intros);(iterate 3 all_goals try first|exact⟨⟩|exact(ig c)|exact(lT c.key (an.wrap (1-eK c)))|exact t1)) ?_
   rw[Cc]
   refine af (aF X [1,8,10,11,67] rfl ?_)
   refine az rfl ?_ ?_<;>intro dS
   ·have hg:jK c other=true:=lG dS (by simp only[jK,bD]<;>first|rfl|ac_rfl)
    refine mU X [1,8,10] rfl (by and_intros<;>first|exact⟨⟩|exact rfl| (simp only[gl,maxLen,lens];omega)) (aF X [8,10] rfl ?_)
    rw[dA (a:=r+1) (by omega)]
    exact aS X [8,9] rfl (by trivial) (ay (ah rfl (by and_intros<;>first|exact⟨⟩| (rw[hc];done)| (rw[hc];simp[hh];done)| (rw[hc];simp only[hg,if_true];done)| (rw[hk];done))))
   ·have hg:jK c other=false:=oT dS (by simp only[jK,bD]<;>first|rfl|ac_rfl)
    refine aE (aF X [8,10] rfl ?_)
    rw[dA (a:=r+1) (by omega)]
    exact aS X [8,9] rfl (by trivial) (ay (ah rfl (by and_intros<;>first|exact⟨⟩| (rw[hc];done)| (rw[hc];simp[hh];done)| (rw[hc];simp[hg];done)| (rw[hk];done))))
theorem zv(d:cD)(r:Int)(own other:List UInt8)(h0:dH d≤1048576):So 137 [.agg (dZ d),aL r, .a (.sl .u8 own), .a (.sl .u8 other)] [.agg (dZ (rdev d r own other)),bl (vG d r)]:=by
 refine aD X call137 func137 ntmps137 rfl rfl ?_
 intro zb
 have Ad:eT d.live≤1048576∧eT d.saved≤1048576:=by unfold dH at h0;omega
 unfold eT at Ad
 refine aF X [1,2,3,4,8] rfl (af ?_)
 have t1:=(Ci d.live r own other ⟨by omega,by omega⟩)
 refine bE X [] [(19,⟨true,dw t1⟩)] [4,8,10,11] [] rfl (by(with_reducible and_intros)<;>first|exact⟨⟩|exact t1) (af (aQ X [] [(23,⟨false,[bl (fJ d)]⟩)] [4,8,10,28] [] rfl (by(with_reducible and_intros)<;>first|exact⟨⟩|exact(gQ d)) ?_))
 refine az rfl ?_ ?_<;>intro hb0
 ·have hk:vG d r=false:=dB hb0 (by simp only[vG,bD]<;>first|rfl|ac_rfl)
  have hd:=Sv (own:=own) (other:=other) hk
  exact aQ X [] [(30,⟨true,[.agg (dZ d)]⟩)] [8,9] [] rfl (by(with_reducible and_intros)<;>first|exact⟨⟩|exact(nX d h0)) (ay (ah rfl (by and_intros<;>first|exact⟨⟩| (rw[hd];done)| (rw[hk];done))))
 ·have hk:vG d r=true:=dy hb0 (by simp only[vG,bD]<;>first|rfl|ac_rfl)
  have hz:=N8 (own:=own) (other:=other) hk
  refine aE (af (aZ X [] [(34,⟨true,[.agg (c9 d.saved)]⟩)] [8,12] [] 63 0 MO (by kernel_rfl) rfl (by kernel_rfl) (by(with_reducible and_intros)<;>first|exact⟨⟩|exact(iQ d.saved ⟨by omega,by omega⟩)) (af (aQ X [] [(37,⟨false,[bl (zO (p8 d r own other))]⟩)] [8,12,37] [] rfl (by(with_reducible and_intros)<;>first|exact⟨⟩|exact(DM (p8 d r own other))) ?_))))
  refine az rfl ?_ ?_<;>intro ck
  ·have hd:=Sw hk ck
   exact aQ X [] [(39,⟨true,[.agg (dZ (OX (p8 d r own other)))]⟩)] [8,9] [] rfl (by(with_reducible and_intros)<;>first|exact⟨⟩|exact(Cg (p8 d r own other) hz)) (ay (ah rfl (by and_intros<;>first|exact⟨⟩| (rw[hd];done)| (rw[hk];done))))
  ·have hd:=Sx hk ck
   exact aE (aS X [8,9] rfl (by trivial) (ay (ah rfl (by and_intros<;>first|exact⟨⟩| (rw[hd];rfl;done)| (rw[hk];done)))))
theorem DN(x:cm)(h0:wB x):So 81 [.agg (cq x)] [.agg (cq (NX x))]:=by
 refine aD X call81 func81 ntmps81 rfl rfl ?_
 intro zb
 have hls:ga iP x.aC≤1048576∧ga dH x.aq≤1048576∧jr x.aN≤1048576∧x.replaced.length≤4194304:=h0
 have qN:=gd hls.2.1
 refine aF X [1,2] rfl (aQ X [] [(17,⟨true,[.agg (cq x)]⟩)] [1,2,3] [] rfl (by(with_reducible and_intros)<;>first|exact⟨⟩|exact(iR x h0)) (af (aQ X [] [(19,⟨false,[bl (okW x)]⟩)] [1,2,3,20] [] rfl (by(with_reducible and_intros)<;>first|exact⟨⟩|exact(gq x)) ?_)))
 refine az rfl ?_ ?_<;>intro hb0
 ·have hk0:okW x=false:=by simpa using hb0
  have hw:=Yl hk0
  exact aS X [2] rfl (by trivial) (ay (ah rfl (by and_intros<;>first|exact⟨⟩| (rw[hw];done))))
 ·have hk0:okW x=true:=by simpa using hb0
  have hw:=FH hk0
  have har:=Ly hk0
  have hd8:=(sY (nL hk0)).2.1
  refine aE (af (aF X [1,2,3,4] rfl ?_))
  refine aG (aV (fun k=>k≤x.aq.length) (fun k:Nat=> [(4, .one ((aL k)))]) (fun k=> [(19, .arr .cD (Va x k))]) (fun k=>x.aq.length-k) 0 (fun k=>rfl) (aA _) rfl ?_)
  intro k hk
  have Ix:=R8 x k hk
  refine af (aF X [1,2,3,4,26] rfl ?_)
  refine az rfl ?_ ?_<;>intro ck
  ·try simp only[bW]at ck
   rw[Ix]at ck
   have hrg:=R7 x k ck
   have h00:=XK x k ck
   have Fq:=AB x.aN.rounds (x.aq.getD k (aO .cD)).live.next
   have ajT:(tP x (x.aq.getD k (aO .cD))).length≤x.aN.rounds.length:=Fq
   have hrq:(jx x.aN.rounds (x.aq.getD k (aO .cD)).live.next).length=(tP x (x.aq.getD k (aO .cD))).length:=rfl
   refine aE (af (aG (af ?_)))
   have t1:=(AE x.aN (((Va x k).getD k (aO .cD)).live.next) (by omega))
   refine aZ X [] [(38,⟨true,dw t1⟩)] [1,2,3,4,5] [] 2047 0 MO (by kernel_rfl) rfl (by kernel_rfl) (by(with_reducible and_intros)<;>first|exact⟨⟩|exact t1| (intros;omega)) ?_
   rw[hrg]
   refine aF X [1,2,3,4,5,6] rfl ?_
   refine aG (aV (fun k1=>k1≤(tP x (x.aq.getD k (aO .cD))).length) (fun k1:Nat=> [(6, .one ((aL k1)))]) (fun k1=> [(19, .arr .cD (uO x k k1))]) (fun k1=>(tP x (x.aq.getD k (aO .cD))).length-k1) 0 (fun k1=>rfl) (aA _) (by rw[h00];rfl) ?_)
   intro k1 hk1
   have rz:=R5 x k k1 ck
   refine af (aF X [1,2,3,4,5,6,42] rfl ?_)
   refine az rfl ?_ ?_<;>intro dS
   ·try simp only[bW]at dS
    have hs:=Yk x k k1 ck dS
    have hsz:=Yi hk0 ck k1
    refine aE (af (aG (aS X [1,2,3,4,5,6,7] rfl (by and_intros<;>first|exact⟨⟩| (intros;omega)) (af ?_))))
    have t1:=(Ch (((uO x k k1).getD k (aO .cD)).live) ((tP x (x.aq.getD k (aO .cD))).getD k1 (aO .int)) x.rows)
    refine aZ X [] [(59,⟨false,dw t1⟩)] [1,2,3,4,5,6,7,8,9] [] 8191 0 MO (by kernel_rfl) rfl (by kernel_rfl) (by(with_reducible and_intros)<;>first|exact⟨⟩|exact t1| (intros;omega)) (af ?_)
    have t1:=(xZ x ((tP x (x.aq.getD k (aO .cD))).getD k1 (aO .int)) (iw ((uO x k k1).getD k (aO .cD)).live.key ((tP x (x.aq.getD k (aO .cD))).getD k1 (aO .int)) (eK ((uO x k k1).getD k (aO .cD)).live) x.rows) (((uO x k k1).getD k (aO .cD)).live.seed) hk0)
    refine aZ X [] [(71,⟨true,dw t1⟩)] [1,2,3,4,5,6,7,9,10] [] 16383 0 MO (by kernel_rfl) rfl (by kernel_rfl) (by(with_reducible and_intros)<;>first|exact⟨⟩|exact t1| (intros;omega)) (af ?_)
    have t1:=(xZ x ((tP x (x.aq.getD k (aO .cD))).getD k1 (aO .int)) (iw ((uO x k k1).getD k (aO .cD)).live.key ((tP x (x.aq.getD k (aO .cD))).getD k1 (aO .int)) (1-eK ((uO x k k1).getD k (aO .cD)).live) x.rows) (((uO x k k1).getD k (aO .cD)).live.seed) hk0)
    refine aZ X [] [(83,⟨true,dw t1⟩)] [1,2,3,4,5,6,10,12] [] 16383 0 MO (by kernel_rfl) rfl (by kernel_rfl) (by(with_reducible and_intros)<;>first|exact⟨⟩|exact t1| (intros;omega)) (af ?_)
    have t1:=(zv ((uO x k k1).getD k (aO .cD)) ((tP x (x.aq.getD k (aO .cD))).getD k1 (aO .int)) (Lp x ((tP x (x.aq.getD k (aO .cD))).getD k1 (aO .int)) (iw ((uO x k k1).getD k (aO .cD)).live.key ((tP x (x.aq.getD k (aO .cD))).getD k1 (aO .int)) (eK ((uO x k k1).getD k (aO .cD)).live) x.rows) ((uO x k k1).getD k (aO .cD)).live.seed) (Lp x ((tP x (x.aq.getD k (aO .cD))).getD k1 (aO .int)) (iw ((uO x k k1).getD k (aO .cD)).live.key ((tP x (x.aq.getD k (aO .cD))).getD k1 (aO .int)) (1-eK ((uO x k k1).getD k (aO .cD)).live) x.rows) ((uO x k k1).getD k (aO .cD)).live.seed) hsz)
    refine aZ X [] [(98,⟨true,dw t1⟩)] [1,2,3,4,5,6,14] [] 196607 1 MO (by kernel_rfl) rfl (by kernel_rfl) (by(with_reducible and_intros)<;>first|exact⟨⟩|exact t1| (intros;omega)) (mU X [1,2,3,4,5,6] rfl (by and_intros<;>first|exact⟨⟩| (intros;omega)) (cN X [1,2,3,4,5,6] rfl ?_))
    refine⟨k1+1,by omega,by omega,?_⟩
    rw[cX _ k1 rfl (by omega), ←hs]
    try rfl
   ·try simp only[bW]at dS
    rw[R6 x k k1 ck dS]
    refine bn (cN X [1,2,3,4] rfl ?_)
    refine⟨k+1,by omega,by omega,?_⟩
    rw[cX _ k rfl (by omega)]
    try rfl
  ·try simp only[bW]at ck
   rw[Ix]at ck
   exact bn (aS X [2] rfl (by trivial) (ay (ah rfl (by and_intros<;>first|exact⟨⟩| (rw[hw];done)| (rw[hw,R9 x k (by omega) (by omega)];done)))))
end
section
set_option maxRecDepth 100000
theorem yf(s:cg)(c:Int)(hz:s.received.length≤1048576∧ ∀r,r∈s.received→ga aR r.share.rows≤1048576):So 155 [.agg (dr s),aL c] [.agg (bJ (Ax s.received c)),bl (oA s.received c)]:=by
 refine aD X call155 func155 ntmps155 rfl rfl ?_
 intro zb
 refine dn 0 3 rfl rfl (fun Wc=>(aF X [1,2,4] rfl (af (aF X [1,4,9,10,11] rfl ?_))))
 refine aG (aV (fun k=>k≤s.received.length∧(s.received.take k).any (U9 c)=false) (fun k:Nat=> [(11, .one ((aL k)))]) (fun k=> []) (fun k=>s.received.length-k) 0 (fun k=>rfl) ⟨aA _,rfl⟩ rfl ?_)
 rintro k ⟨hk,hall⟩
 refine aF X [1,4,9,10,11,12] rfl ?_
 refine af (az rfl ?_ ?_)<;>intro hb0
 ·try simp only[bW]at hb0
  refine aE (af (aG (aS X [1,4,7,9,10,11] rfl (by and_intros<;>first|exact⟨⟩| (intros;omega)) (aF X [1,4,7,9,10,11,18] rfl ?_))))
  refine az rfl ?_ ?_<;>intro ck
  ·have hh:=Qh hb0 hall ck
   exact aQ X [] [(21,⟨true,[.agg (bJ ((s.received.getD k (aO .bC)).share))]⟩)] [4,5] [] rfl (by(with_reducible and_intros)<;>first|exact⟨⟩|exact(eH ((s.received.getD k (aO .bC)).share) (hz.2 _ (getD_in _ hb0)))) (ay (ah rfl ⟨by rw[hh.2],by rw[hh.1],⟨⟩⟩))
  ·refine aE (cN X [1,4,9,10,11] rfl ?_)
   refine⟨k+1,⟨by omega,An (aO .bC) hb0 hall ck⟩,by omega,?_⟩
   rw[cX _ k rfl (by omega)]
   try rfl
 ·try simp only[bW]at hb0
  exact bn (aS X [4,5] rfl (by trivial) (ay (ah rfl ⟨by rw[(Fz (by rw[←hall,aB hb0])).2],by rw[(Fz (by rw[←hall,aB hb0])).1],⟨⟩⟩)))
theorem H7(s:cg)(c:Int)(hz:s.received.length≤1048576∧ ∀r,r∈s.received→ga aR r.share.rows≤1048576):So 208 [.agg (dr s),aL c] [.agg (bJ (Ax s.received c)),bl (oA s.received c)]:=by
 refine aD X call208 func208 ntmps208 rfl rfl ?_
 intro zb
 refine dn 0 3 rfl rfl (fun Wc=>(aF X [1,2,4] rfl (af (aF X [1,2,4,6] rfl ?_))))
 refine aG (aV (fun k=>k≤s.received.length∧(s.received.take k).any (U9 c)=false) (fun k:Nat=> [(6, .one ((aL k)))]) (fun k=> []) (fun k=>s.received.length-k) 0 (fun k=>rfl) ⟨aA _,rfl⟩ rfl ?_)
 rintro k ⟨hk,hall⟩
 refine af (aF X [1,2,4,6,11] rfl ?_)
 refine az rfl ?_ ?_<;>intro hb0
 ·try simp only[bW]at hb0
  refine aE (af (aG (aS X [1,2,4,6,21] rfl (by and_intros<;>first|exact⟨⟩| (intros;omega)) ?_)))
  refine az rfl ?_ ?_<;>intro ck
  ·have hh:=Qh hb0 hall ck
   exact aQ X [] [(28,⟨true,[.agg (bJ ((s.received.getD k (aO .bC)).share))]⟩)] [4,5] [] rfl (by(with_reducible and_intros)<;>first|exact⟨⟩|exact(gJ ((s.received.getD k (aO .bC)).share) (hz.2 _ (getD_in _ hb0)))| (intros;omega)) (ay (ah rfl ⟨by rw[hh.2],by rw[hh.1],⟨⟩⟩))
  ·refine aE (cN X [1,2,4,6] rfl ?_)
   refine⟨k+1,⟨by omega,An (aO .bC) hb0 hall ck⟩,by omega,?_⟩
   rw[cX _ k rfl (by omega)]
   try rfl
 ·try simp only[bW]at hb0
  exact bn (aS X [4,5] rfl (by trivial) (ay (ah rfl ⟨by rw[(Fz (by rw[←hall,aB hb0])).2],by rw[(Fz (by rw[←hall,aB hb0])).1],⟨⟩⟩)))
theorem wD(r:bC)(c:Int):rG ty bu 157 [(1000, .box [fZ c])] [.agg (uS r), .a (.ptr 1000 0)] [(1000, .box [fZ c])] [bl (decide (r.client>c))]:=by
 refine oU X call157 func157 rfl rfl (by decide) ntmps157 (by simp) rfl ?_
 intro zb
 exact aF X [1,2] rfl (aS X [3] rfl (by trivial) (ay (uz rfl ⟨rfl,rfl,⟨⟩⟩)))
theorem gR(l:List bC)(c:Int)(hl: ∀r,r∈l→r.client<c):rG ty bu 156 [(1000, .box [fZ c])] [.a (.sl .bC l), .a (.Fi 157 1000)] [(1000, .box [fZ c])] [aL (-1)]:=by
 refine oU X call156 func156 rfl rfl (by decide) ntmps156 (by simp) rfl ?_
 intro zb
 refine eO 0 rfl (fun oc=>(aF X [0,1] rfl (af (aF X [0,1,7,8] rfl ?_))))
 refine aG (aV (fun k=>k≤l.length) (fun k:Nat=> [(8, .one ((aL k)))]) (fun k=> []) (fun k=>l.length-k) 0 (fun k=>rfl) (aA _) rfl ?_)
 intro k hk
 refine aF X [0,1,7,8,9] rfl ?_
 refine af (az rfl ?_ ?_)<;>intro hb0
 ·try simp only[bW]at hb0
  have hlt:=hl _ (getD_in (aO .bC) hb0)
  refine aE (af (aG (aF X [0,1,5,7,8] rfl (af ?_))))
  have t1:=(wD (l.getD k (aO .bC)) c)
  refine bE X [] [(800016,⟨true,KN t1⟩),(700016,⟨true, .agg [.ptr 1000 1000]:: .agg []::KO t1⟩)] [0,1,5,7,8,16] [] rfl (by(with_reducible and_intros)<;>first|exact⟨⟩|exact t1| (intros;omega)) ?_
  refine az rfl ?_ ?_<;>intro ck
  ·try simp only[bW]at ck
   omega
  ·try simp only[bW]at ck
   refine aE (cN X [0,1,7,8] rfl ?_)
   refine⟨k+1,by omega,by omega,?_⟩
   rw[cX _ k rfl (by omega)]
   try rfl
 ·try simp only[bW]at hb0
  exact bn (aF X [4] rfl (ay (uz rfl ⟨rfl,rfl,⟨⟩⟩)))
theorem ij(l:List bC)(y:bC)(hl:l.length≤1048576):rG ty bu 158 [(5, .arr .bC l),(6, .arr .bC [y])] [.a (.own 5),aL (l.length:Int), .a (.own 6)] [(5, .arr .bC (l++ [y]))] [.a (.own 5)]:=by
 refine oU X call158 func158 rfl rfl (by decide) ntmps158 (by simp) rfl ?_
 intro zb
 refine aF X [0,1,2] rfl (aS X [0,1,2] rfl (by and_intros<;>first|exact⟨⟩| (intros;omega)) (aF X [0,1,2,7] rfl (af (aF X [0,1,2,7,16] rfl ?_))))
 refine az rfl ?_ ?_<;>intro hb0
 ·try simp only[bW]at hb0
  simp at hb0
 ·try simp only[bW]at hb0
  refine aE (aF X [0,1,2,7,8] rfl (af (aF X [0,1,2,7,8,22] rfl ?_)))
  refine az rfl ?_ ?_<;>intro ck
  ·try simp only[bW]at ck
   exact aQ X [(25,5)] [] [6] [] rfl (by and_intros<;>first|exact⟨⟩|exact rfl| (simp only[gl,maxLen,lens];omega)) (ay (uz rfl ⟨rfl,⟨⟩⟩))
  ·try simp only[bW]at ck
   simp at ck
theorem zw(s:cg)(c:Int)(d:DB)(hz:s.received.length≤1048576∧ ∀r,r∈s.received→ga aR r.share.rows≤1048576)(hb: ∀r,r∈s.received→r.client<c)(hd:ga aR d.rows≤1048576):So 100 [.agg (dr s),aL c, .agg (bJ d)] [.agg (dr (Qg s c d)),bl (nU s c d)]:=by
 refine aD X call100 func100 ntmps100 rfl rfl ?_
 intro zb
 have hsn:=Xy (s:=s) hb
 have oc:=hz.1
 refine aQ X [(4,904)] [] [3,4,5,6] [] rfl ⟨⟩ (aQ X [] [(13,⟨true,[.agg (dr s)]⟩)] [3,4,5,6,8] [] rfl (by(with_reducible and_intros)<;>first|exact⟨⟩|exact(kC s hz)) (af (af ?_)))
 have t1:=(yf s c hz)
 refine bE X [] [(17,⟨true,dw t1⟩)] [3,4,5,6,8,10] [] rfl (by(with_reducible and_intros)<;>first|exact⟨⟩|exact t1) (aQ X [] [(23,⟨false,[bl (dL s)]⟩)] [3,4,5,6,8,25] [] rfl (by(with_reducible and_intros)<;>first|exact⟨⟩|exact fun _=>(fm s)) ?_)
 refine az rfl ?_ ?_<;>intro hb0
 ·have hk:dL s=false:=by rw[hsn]at hb0;simpa using hb0
  have hr:nU s c d=false:=by rw[nU,hk];rfl
  exact aS X [6,7] rfl (by trivial) (ay (ah rfl (by and_intros<;>first|exact⟨⟩| (rw[Qi hr];done)| (rw[hr];done))))
 ·have hk:dL s=true:=by rw[hsn]at hb0;simpa using hb0
  refine aE (af ?_)
  have t1:=(gR s.received c hb)
  refine bE X [] [(800030,⟨true,KN t1⟩),(700030,⟨true, .agg [.ptr 1000 904]:: .agg []::KO t1⟩)] [3,4,5,6,8,11] [] rfl (by(with_reducible and_intros)<;>first|exact⟨⟩|exact t1) (af (aF X [3,4,5,6,8,11,32] rfl ?_))
  refine az rfl ?_ ?_<;>intro ck
  ·try simp only[bW]at ck
   refine cN X [3,4,5,6,8,11] rfl (af ?_)
   have t1:=(ij s.received (⟨c,d⟩:bC) (by first|assumption|omega| (simp;done)| (simp;omega)))
   refine aZ X [] [(41,⟨true,[.agg (bJ d)]⟩),(800044,⟨true,KN t1⟩),(700044,⟨true, .agg [.ptr 5 16, .ptr 6 43]:: .agg []::KO t1⟩)] [3,6,8] [] 639 5 MO (by kernel_rfl) rfl (by kernel_rfl) (by(with_reducible and_intros);(iterate 2 all_goals try first|exact⟨⟩|exact(eH d hd)|exact t1);all_goals first|exact rfl) (af (aQ X [] [(47,⟨false,[bl (dL (nT s c d))]⟩)] [3,6,8,48] [] rfl (by(with_reducible and_intros)<;>first|exact⟨⟩|exact(fm (nT s c d))) ?_))
   refine az rfl ?_ ?_<;>intro dS
   ·have hr:nU s c d=false:=by rw[nU,hk];simpa using dS
    exact aQ X [] [(50,⟨true,[.agg (dr s)]⟩)] [6,7] [] rfl (by(with_reducible and_intros)<;>first|exact⟨⟩|exact(kC s hz)) (ay (ah rfl (by and_intros<;>first|exact⟨⟩| (rw[Qi hr];done)| (rw[hr];done))))
   ·have hr:nU s c d=true:=by rw[nU,hk];simpa using dS
    exact aE (aS X [6,7] rfl (by trivial) (ay (ah rfl (by and_intros<;>first|exact⟨⟩| (rw[Lj hr];rfl;done)| (rw[hr];done)))))
  ·try simp only[bW]at ck
   omega
theorem zx(s:cg)(c:Int)(d:DB)(hz:s.received.length≤1048576∧ ∀r,r∈s.received→ga aR r.share.rows≤1048576)(hb: ∀r,r∈s.received→r.client<c)(hd:ga aR d.rows≤1048576):So 129 [.agg (dr s),aL c, .agg (bJ d)] [.agg (dr (Qg s c d)),bl (nU s c d)]:=by
 refine aD X call129 func129 ntmps129 rfl rfl ?_
 intro zb
 have oc:=hz.1
 refine aF X [1,3,5,6] rfl (aQ X [] [(11,⟨true,[.agg (dr s)]⟩)] [1,3,5,6,8] [] rfl (by(with_reducible and_intros)<;>first|exact⟨⟩|exact(nW s hz)) (aF X [1,3,5,6,8,9] rfl ?_))
 refine af (aG (aV (fun k=>k≤s.received.length) (fun k:Nat=> [(9, .one ((aL k)))]) (fun k=> []) (fun k=>s.received.length-k) 0 (fun k=>rfl) (aA _) rfl ?_))
 intro k hk
 refine af (aS X [1,3,5,6,8,9,26] rfl (by refine⟨fun hzz=> ?_,fun hzz=> ?_,⟨⟩⟩<;>(have hz2:decide ((k:Int)<(s.received.length:Int))=true:=hzz;rw[decide_eq_true_eq]at hz2;dsimp only[hyps,rq];omega)) ?_)
 refine az rfl ?_ ?_<;>intro hb0
 ·have Ix:k<s.received.length:=by simp only[nb]at hb0;omega
  have hlt:=hb _ (getD_in (aO .bC) Ix)
  refine aE (aG (cN X [1,3,5,6,8,9] rfl ?_))
  refine⟨k+1,by omega,by omega,?_⟩
  rw[cX _ k rfl (by omega)]
  try rfl
 ·have Ix:k=s.received.length:=abf hb hk hb0
  subst Ix
  refine XE 8 3 rfl (bn (af (aZ X [(34,29),(40,29),(45,29)] [(37,⟨true,[.agg (bJ d)]⟩),(600044,⟨true,[]⟩)] [3,6,8] [] 193503 259 MO (by kernel_rfl) rfl (by kernel_rfl) (by(repeat' with_reducible first|exact bF|refine bS ?_ ?_|apply aT)<;>first|exact(gJ d hd)| (intros;omega)|exact rfl|exact⟨rfl,cB _ (by decide)⟩| (simp only[gl,maxLen,lens];omega)) ?_)))
  rw[ins_eq]
  refine af (aQ X [] [(48,⟨false,[bl (dL s)]⟩),(52,⟨false,[bl (dL (nT s c d))]⟩)] [3,6,8,54] [] rfl (by(with_reducible and_intros);(iterate 2 all_goals try first|exact⟨⟩|exact(fu s)|exact fun _=>(fu (nT s c d)))) ?_)
  refine az rfl ?_ ?_<;>intro ck
  ·have hr:nU s c d=false:=ahm ck
   exact aQ X [] [(56,⟨true,[.agg (dr s)]⟩)] [6,7] [] rfl (by(with_reducible and_intros)<;>first|exact⟨⟩|exact(nW s hz)) (ay (ah rfl (by and_intros<;>first|exact⟨⟩| (rw[Qi hr];done)| (rw[hr];done))))
  ·have hr:nU s c d=true:=ahn ck
   exact aE (aS X [6,7] rfl (by trivial) (ay (ah rfl (by and_intros<;>first|exact⟨⟩| (rw[Lj hr];rfl;done)| (rw[hr];done)))))
end
section
set_option maxRecDepth 100000
theorem yg(x:cm)(h0:wB x):So 57 [.agg (cq x)] [.a (.sl .cg (cS x)), .a (.sl .gB (ko x))]:=by
 refine aD X call57 func57 ntmps57 rfl rfl ?_
 intro zb
 refine dn 0 1 rfl rfl (fun hl1=> ?_)
 refine dn 0 2 rfl rfl (fun qN=> ?_)
 have tI:=NK h0
 refine aF X [1] rfl (af (aQ X [] [(10,⟨false,[bl (okW x)]⟩)] [1,11] [] rfl (by(with_reducible and_intros)<;>first|exact⟨⟩|exact(eX x)) ?_))
 refine az rfl ?_ ?_<;>intro hb0
 ·have hk0:okW x=false:=by simpa using hb0
  exact aF X [2,3] rfl (ay (ah rfl ⟨by rw[cS,if_neg (by rw[hk0];decide)],by rw[ko,if_neg (by rw[hk0];decide)],⟨⟩⟩))
 ·have hk0:okW x=true:=by simpa using hb0
  have ajU:=gy hk0
  have hdv:=(sY (nL hk0)).2.1
  have hc0:=(col hk0 0 (aA _)).sml
  refine aE (aQ X [] [(14,⟨true,[.a (.sl .cg x.aC)]⟩)] [1,4] [] rfl (by(with_reducible and_intros)<;>first|exact⟨⟩|exact(sq x.aC (by omega) hc0)) (aS X [1,4,5] rfl (by and_intros<;>first|exact⟨⟩|exact rfl) (af (aF X [1,4,5,18,19] rfl ?_))))
  refine aG (aV (fun k=>k≤x.aq.length) (fun k:Nat=> [(19, .one ((aL k)))]) (fun k=> [(14, .arr .cg (zn x k)),(15, .arr .gB (HJ x k))]) (fun k=>x.aq.length-k) 0 (fun k=>rfl) (aA _) rfl ?_)
  intro k hk
  refine aF X [1,4,5,18,19,20] rfl ?_
  refine af (az rfl ?_ ?_)<;>intro ck
  ·try simp only[bW]at ck
   have Qt:k<x.aq.length:=by omega
   have hwl:(nS x (k:Int)).length=x.aC.length:=by rw[HE hk0 (by omega)];exact kY hk0 (by omega)
   have hw:nS x (k:Int)=e9 x (k:Int):=HE hk0 (by omega)
   refine aE (af (aG (aF X [1,4,5,6,18,19] rfl (aQ X [] [(24,⟨true,[.a (.sl .DB (nS x (k:Int)))]⟩)] [1,4,5,6,18,19,24,25,26] [] rfl (by(with_reducible and_intros)<;>first|exact⟨⟩|exact(Aw x (k:Int) (by first|assumption|omega| (simp;done)| (simp;omega)))) ?_))))
   refine aG (aV (fun k1=>k1≤x.aC.length) (fun k1:Nat=> [(26, .one ((aL k1)))]) (fun k1=> [(14, .arr .cg (zo x k k1)),(15, .arr .gB (HJ x k++HI x k k1))]) (fun k1=>x.aC.length-k1) 0 (fun k1=>rfl) (aA _) (by simp[zo,HI]) ?_)
   intro k1 hk1
   have rz:=NO hk0 Qt hk1
   refine aF X [1,4,5,6,18,19,24,25,26,27] rfl ?_
   refine af (az rfl ?_ ?_)<;>intro dS
   ·try simp only[bW]at dS
    have IY:=NR hk0 Qt (by omega:k1<x.aC.length)
    have hs1:=JP hk0 Qt (by omega:k1<x.aC.length)
    have zI:=Dr x k k1
    have hrl:=HK x k
    have Yn:=BY x k k1
    have UT:k*x.aC.length≤8*4:=zL (by omega) (by omega)
    refine aE (af (aG (aS X [1,4,5,6,7,8,18,19,24,25,26] rfl (by and_intros<;>first|exact⟨⟩| (intros;omega)) (af ?_))))
    have t1:=(zw ((zo x k k1).getD k1 (aO .cg)) (k:Int) ((nS x (k:Int)).getD k1 (aO .DB)) IY.2.1 IY.1 (by rw[hw];exact IY.2.2))
    refine aZ X [] [(40,⟨true,dw t1⟩)] [1,4,5,6,7,8,18,19,24,25,26] [] 8191 1 MO (by kernel_rfl) rfl (by kernel_rfl) (by(with_reducible and_intros)<;>first|exact⟨⟩|exact t1| (intros;omega)) ?_
    have t1:=(Az (j6 x.bZ (k1:Int)) (k1:Int) (k:Int) x.round ((nS x (k:Int)).getD k1 (aO .DB)) (by rw[hw];exact IY.2.2))
    refine aZ X [(56,15)] [(48,⟨false,[aL (j6 x.bZ (k1:Int))]⟩),(54,⟨false,dw t1⟩)] [1,4,5,6,18,19,24,25,26] [] 4095 0 MO (by kernel_rfl) rfl (by kernel_rfl) (by(repeat' with_reducible first|exact bF|refine bS ?_ ?_|apply aT);(iterate 2 all_goals try first|exact(lH x.bZ (k1:Int))|exact t1);all_goals first|exact rfl|exact⟨rfl,cB _ (by decide)⟩| (simp only[gl,maxLen,lens];omega)) ?_
    refine cN X [1,4,5,6,18,19,24,25,26] rfl ?_
    refine⟨k1+1,by omega,by omega,?_⟩
    rw[cX _ k1 rfl (by omega),hw, ←hs1,zI, ←b7]
    try rfl
   ·try simp only[bW]at dS
    rw[NQ hk0 Qt (by omega),show k1=x.aC.length by omega, ←Ds]
    refine bn (cN X [1,4,5,18,19] rfl ?_)
    refine⟨k+1,by omega,by omega,?_⟩
    rw[cX _ k rfl (by omega)]
    try rfl
  ·try simp only[bW]at ck
   exact bn (aF X [2,3] rfl (ay (ah rfl ⟨by rw[cS,if_pos hk0,show x.aq.length=k by omega],by rw[ko,if_pos hk0,show x.aq.length=k by omega],⟨⟩⟩)))
theorem yh(x:cm)(h0:wB x):So 78 [.agg (cq x)] [.a (.sl .cg (cS x)), .a (.sl .gB (ko x))]:=by
 refine aD X call78 func78 ntmps78 rfl rfl ?_
 intro zb
 refine dn 0 1 rfl rfl (fun hl1=> ?_)
 refine dn 0 2 rfl rfl (fun qN=> ?_)
 have tI:=NK h0
 refine aF X [1] rfl (aS X [1,4] rfl (by and_intros<;>first|exact⟨⟩|exact rfl) (af (aQ X [] [(13,⟨false,[bl (okW x)]⟩)] [1,4,14] [] rfl (by(with_reducible and_intros)<;>first|exact⟨⟩|exact(gq x)) ?_)))
 refine az rfl ?_ ?_<;>intro hb0
 ·have hk0:okW x=false:=by simpa using hb0
  exact aS X [2,3] rfl (by and_intros<;>first|exact⟨⟩|exact rfl) (ay (ah rfl ⟨by rw[cS,if_neg (by rw[hk0];decide)],by rw[ko,if_neg (by rw[hk0];decide)],⟨⟩⟩))
 ·have hk0:okW x=true:=by simpa using hb0
  have ajU:=gy hk0
  have hdv:=(sY (nL hk0)).2.1
  have hc0:=(col hk0 0 (aA _)).sml
  refine aE (aQ X [] [(18,⟨true,[.agg (cq x)]⟩)] [1,4,5] [] rfl ⟨⟨_,_,_,Tryz.underlying31,rfl,rfl,Tryz.underlying24,rfl⟩,iR x h0,⟨⟩⟩ (af (aF X [1,4,5,6] rfl ?_)))
  refine aG (aV (fun k=>k≤x.aq.length) (fun k:Nat=> [(6, .one ((aL k)))]) (fun k=> [(19, .arr .cg (zn x k)),(11, .arr .gB (HJ x k))]) (fun k=>x.aq.length-k) 0 (fun k=>rfl) (aA _) rfl ?_)
  intro k hk
  refine af (aF X [1,4,5,6,24] rfl ?_)
  refine az rfl ?_ ?_<;>intro ck
  ·try simp only[bW]at ck
   have Qt:k<x.aq.length:=by omega
   have hwl:(e9 x (k:Int)).length=x.aC.length:=kY hk0 (by omega)
   refine aE (af (aG (aQ X [] [(29,⟨true,[.a (.sl .DB (e9 x (k:Int)))]⟩)] [1,4,5,6,7] [] rfl (by(with_reducible and_intros)<;>first|exact⟨⟩|exact(Dq x (k:Int) (by first|assumption|omega| (simp;done)| (simp;omega)) (by first|assumption|omega| (simp;done)| (simp;omega)))) (aF X [1,4,5,6,7,8] rfl ?_))))
   refine aG (aV (fun k1=>k1≤x.aC.length) (fun k1:Nat=> [(8, .one ((aL k1)))]) (fun k1=> [(19, .arr .cg (zo x k k1)),(11, .arr .gB (HJ x k++HI x k k1))]) (fun k1=>x.aC.length-k1) 0 (fun k1=>rfl) (aA _) (by simp[zo,HI]) ?_)
   intro k1 hk1
   have rz:=NO hk0 Qt hk1
   refine af (aF X [1,4,5,6,7,8,33] rfl ?_)
   refine az rfl ?_ ?_<;>intro dS
   ·try simp only[bW]at dS
    rw[rz]at dS
    have IY:=NR hk0 Qt (by omega:k1<x.aC.length)
    have hs1:=JP hk0 Qt (by omega:k1<x.aC.length)
    have zI:=Dr x k k1
    have hrl:=HK x k
    have Yn:=BY x k k1
    have UT:k*x.aC.length≤8*4:=zL (by omega) (by omega)
    refine aE (af (aG (af ?_)))
    have t1:=(zx ((zo x k k1).getD k1 (aO .cg)) (k:Int) ((e9 x (k:Int)).getD k1 (aO .DB)) IY.2.1 IY.1 IY.2.2)
    refine aZ X [] [(46,⟨true,dw t1⟩)] [1,4,5,6,7,8,9] [] 49151 1 MO (by kernel_rfl) rfl (by kernel_rfl) (by(with_reducible and_intros)<;>first|exact⟨⟩|exact t1| (intros;omega)) (aS X [1,4,5,6,7,8] rfl (by and_intros<;>first|exact⟨⟩| (intros;omega)) ?_)
    have t1:=(AA (j6 x.bZ (k1:Int)) (k1:Int) (k:Int) x.round ((e9 x (k:Int)).getD k1 (aO .DB)) IY.2.2)
    refine aZ X [(68,11)] [(57,⟨false,[aL (j6 x.bZ (k1:Int))]⟩),(66,⟨false,dw t1⟩)] [1,4,5,6,7,8] [] 32767 0 MO (by kernel_rfl) rfl (by kernel_rfl) (by(repeat' with_reducible first|exact bF|refine bS ?_ ?_|apply aT);(iterate 2 all_goals try first|exact(lI x.bZ (k1:Int))|exact t1);all_goals first| (intros;omega)|exact rfl|exact⟨rfl,cB _ (by decide)⟩| (simp only[gl,maxLen,lens];omega)) ?_
    refine cN X [1,4,5,6,7,8] rfl ?_
    refine⟨k1+1,by omega,by omega,?_⟩
    rw[cX _ k1 rfl (by omega), ←hs1,zI, ←b7]
    try rfl
   ·try simp only[bW]at dS
    rw[rz]at dS
    rw[NQ hk0 Qt (by omega),show k1=x.aC.length by omega, ←Ds]
    refine bn (cN X [1,4,5,6] rfl ?_)
    refine⟨k+1,by omega,by omega,?_⟩
    rw[cX _ k rfl (by omega)]
    try rfl
  ·try simp only[bW]at ck
   exact bn (aF X [2,3] rfl (ay (ah rfl ⟨by rw[cS,if_pos hk0,show x.aq.length=k by omega],by rw[ko,if_pos hk0,show x.aq.length=k by omega],⟨⟩⟩)))
end
section
set_option maxRecDepth 100000
theorem vJ(rows:Int)(l:List bC)(hz: ∀r,r∈l→ga aR r.share.rows≤1048576):So 162 [aL rows, .a (.sl .bC l)] [.agg (bJ (jL rows l))]:=by
 refine aD X call162 func162 ntmps162 rfl rfl ?_
 intro zb
 refine eO 1 rfl (fun oc=>(aF X [0,1,4] rfl (aQ X [] [(9,⟨true,[.agg (bJ (fA rows))]⟩)] [1,4,5] [] rfl (by(with_reducible and_intros)<;>first|exact⟨⟩|exact(rW rows)) (af (aF X [4,5,10,11,12] rfl ?_)))))
 refine aG (aV (fun k=>k≤l.length) (fun k:Nat=> [(12, .one ((aL k)))]) (fun k=> [(9, .arr (.sl .u8) (jL rows (l.take k)).rows)]) (fun k=>l.length-k) 0 (fun k=>rfl) (aA _) rfl ?_)
 intro k hk
 refine aF X [4,5,10,11,12,13] rfl ?_
 refine af (az rfl ?_ ?_)<;>intro hb0
 ·try simp only[bW]at hb0
  have hs:=JU rows l k hb0
  refine aE (af (aG (aS X [4,5,7,10,11,12] rfl (by and_intros<;>first|exact⟨⟩| (intros;omega)) (bE X [] [(20,⟨true,[.agg (bJ (iU (jL rows (l.take k)) ((l.getD k (aO .bC)).share))),bl (kV (jL rows (l.take k)) ((l.getD k (aO .bC)).share))]⟩)] [4,5,10,11,12] [] rfl (by(with_reducible and_intros)<;>first|exact⟨⟩|exact(lU (jL rows (l.take k)) ((l.getD k (aO .bC)).share) (Sh _ _) (hz _ (getD_in _ hb0)))) (oS 5 0 9 rfl (cN X [4,5,10,11,12] rfl ?_))))))
  refine⟨k+1,by omega,by omega,?_⟩
  rw[cX _ k rfl (by omega),hs]
  try rfl
 ·try simp only[bW]at hb0
  exact bn (aS X [4] rfl (by trivial) (ay (ah rfl ⟨by rw[aB hb0],⟨⟩⟩)))
theorem pz(s:cg)(f:Nat)(hf:f≤8)(hz: ∀r,r∈s.received→ga aR r.share.rows≤1048576):So 194 [.agg (dr s),aL ((f:Nat):Int)] [.agg (bJ (jL s.rows (s.received.drop f)))]:=by
 refine aD X call194 func194 ntmps194 rfl rfl ?_
 intro zb
 refine dn 0 3 rfl rfl (fun oc=>(aF X [1,2,4] rfl (aQ X [] [(11,⟨true,[.agg (bJ (fA s.rows))]⟩)] [1,2,4,5] [] rfl (by(with_reducible and_intros)<;>first|exact⟨⟩|exact(rX s.rows)) (af (aF X [2,4,5,6] rfl ?_)))))
 refine aG (aV (fun k=>f≤k∧(k≤s.received.length∨k=f)) (fun k:Nat=> [(6, .one ((aL k)))]) (fun k=> [(11, .arr (.sl .u8) (jL s.rows ((s.received.drop f).take (k-f))).rows)]) (fun k=>s.received.length-k) f (fun k=>rfl) ⟨bh _,Or.inr rfl⟩ (by simp[jL]) ?_)
 rintro k ⟨hk,hk2⟩
 refine af (aF X [2,4,5,6,17] rfl ?_)
 refine az rfl ?_ ?_<;>intro hb0
 ·try simp only[bW]at hb0
  have hs:=Ut s.rows s.received f k hb0 hk
  refine aE (af (aG (af (aZ X [] [(28,⟨true,[.agg (bJ (iU (jL s.rows ((s.received.drop f).take (k-f))) ((s.received.getD k (aO .bC)).share))),bl (kV (jL s.rows ((s.received.drop f).take (k-f))) ((s.received.getD k (aO .bC)).share))]⟩)] [2,4,5,6,7] [] 12287 1 MO (by kernel_rfl) rfl (by kernel_rfl) (by(with_reducible and_intros)<;>first|exact⟨⟩|exact(lV (jL s.rows ((s.received.drop f).take (k-f))) ((s.received.getD k (aO .bC)).share) (Sh _ _) (hz _ (getD_in _ hb0)))| (intros;omega)) (mU X [2,4,5,6] rfl (by trivial) (oS 5 0 11 rfl (cN X [2,4,5,6] rfl ?_)))))))
  refine⟨k+1,by omega,by omega,?_⟩
  rw[cX _ k rfl (by omega),hs]
  try rfl
 ·try simp only[bW]at hb0
  exact bn (aS X [4] rfl (by trivial) (ay (ah rfl ⟨by rw[XY _ _ _ _ hb0],⟨⟩⟩)))
theorem AJ(s:cg):So 179 [.agg (dr s)] [.agg (bJ (uE s))]:=by
 refine aD X call179 func179 ntmps179 rfl rfl ?_
 intro zb
 refine aF X [1,2] rfl (af (aQ X [] [(4,⟨false,[bl (dL s)]⟩)] [1,2,5] [] rfl (by(with_reducible and_intros)<;>first|exact⟨⟩|exact(fm s)) ?_))
 refine az rfl ?_ ?_<;>intro hb0
 ·have hk:dL s=false:=by simpa using hb0
  exact aS X [2] rfl (by trivial) (ay (ah rfl ⟨by rw[uE,hk];rfl,⟨⟩⟩))
 ·have hk:dL s=true:=by simpa using hb0
  have hsz:=B5 hk
  exact aE (aQ X [] [(11,⟨true,[.agg (bJ (jL s.rows s.received))]⟩)] [2] [] rfl (by(with_reducible and_intros)<;>first|exact⟨⟩|exact(vJ s.rows s.received hsz)) (ay (ah rfl ⟨by rw[uE,if_pos hk],⟨⟩⟩)))
theorem AK(s:cg):So 211 [.agg (dr s)] [.agg (bJ (uE s))]:=by
 refine aD X call211 func211 ntmps211 rfl rfl ?_
 intro zb
 refine aF X [1,2] rfl (af (aQ X [] [(4,⟨false,[bl (dL s)]⟩)] [1,2,5] [] rfl (by(with_reducible and_intros)<;>first|exact⟨⟩|exact(fu s)) ?_))
 refine az rfl ?_ ?_<;>intro hb0
 ·have hk:dL s=false:=by simpa using hb0
  exact aS X [2] rfl (by trivial) (ay (ah rfl ⟨by rw[uE,hk];rfl,⟨⟩⟩))
 ·have hk:dL s=true:=by simpa using hb0
  have hsz:=B5 hk
  exact aE (aQ X [] [(8,⟨true,[.agg (bJ (jL s.rows (s.received.drop 0)))]⟩)] [2] [] rfl (by(with_reducible and_intros)<;>first|exact⟨⟩|exact(pz s 0 (by decide) hsz)) (ay (ah rfl ⟨by rw[uE,if_pos hk];rfl,⟨⟩⟩)))
theorem zy(s:cg):So 103 [.agg (dr s)] [.agg (bJ (oq s))]:=by
 refine aD X call103 func103 ntmps103 rfl rfl ?_
 intro zb
 refine aF X [1,2] rfl (af (aQ X [] [(6,⟨false,[bl (dL s)]⟩)] [1,2,7] [] rfl (by(with_reducible and_intros)<;>first|exact⟨⟩|exact(fm s)) ?_))
 refine az rfl ?_ ?_<;>intro hb0
 ·have hk:dL s=false:=by simpa using hb0
  exact aS X [2] rfl (by trivial) (ay (ah rfl ⟨by rw[oq,hk];rfl,⟨⟩⟩))
 ·have hk:dL s=true:=by simpa using hb0
  have hsz:=B5 hk
  have hin:=X1 hk
  refine aE (aF X [1,2,3] rfl (af (aF X [1,2,3,13] rfl ?_)))
  refine az rfl ?_ ?_<;>intro ck
  ·try simp only[bW]at ck
   have hr:=JV s (by omega)
   have oc:=(Si hk).2
   have hmi:=XZ 1 (s.received.length:Int)
   refine mU X [1,2,3] rfl (by and_intros<;>first|exact⟨⟩| (intros;omega)) ?_
   rw[show List.take ((s.received.length:Int)).toNat s.received=s.received by simp,X0, ←hr]
   refine aQ X [] [(22,⟨true,[.agg (bJ (jL s.rows (rcvd s)))]⟩)] [1,2,4] [] rfl (by(with_reducible and_intros)<;>first|exact⟨⟩|exact(vJ s.rows (rcvd s) (fun r Kc=>hsz r (X4 s r Kc)))) (af (aF X [2,4,25] rfl ?_))
   refine az rfl ?_ ?_<;>intro dS
   ·try simp only[bW]at dS
    omega
   ·try simp only[bW]at dS
    exact aE (aS X [2] rfl (by trivial) (ay (ah rfl ⟨by rw[oq,if_pos hk,if_neg (by omega)],⟨⟩⟩)))
  ·try simp only[bW]at ck
   have hr:=N1 s (by omega)
   rw[hr]at hin
   have ajV:0<((jL s.rows s.received).rows.getD (cP 0) (aO (.sl .u8))).length:=hin.2
   refine aE (aQ X [] [(22,⟨true,[.agg (bJ (jL s.rows s.received))]⟩)] [1,2,4] [] rfl (by(with_reducible and_intros)<;>first|exact⟨⟩|exact(vJ s.rows s.received hsz)) (af (aF X [2,4,25] rfl ?_)))
   refine az rfl ?_ ?_<;>intro dS
   ·try simp only[bW]at dS
    have amD:s.behavior=2:=by omega
    exact mU X [2,4] rfl (by and_intros<;>first|exact⟨⟩| (intros;omega)|exact(qo _).1|exact(qo _).2) (aS X [2] rfl (by trivial) (ay (ah rfl ⟨by rw[oq,if_pos hk,if_pos (by omega),hr];exact alt_eq _,⟨⟩⟩)))
   ·try simp only[bW]at dS
    exact aE (aS X [2] rfl (by trivial) (ay (ah rfl ⟨by rw[oq,if_pos hk,if_neg (by omega),hr],⟨⟩⟩)))
theorem zz(s:cg):So 132 [.agg (dr s)] [.agg (bJ (oq s))]:=by
 refine aD X call132 func132 ntmps132 rfl rfl ?_
 intro zb
 refine aF X [1,2] rfl (af (aQ X [] [(5,⟨false,[bl (dL s)]⟩)] [1,2,6] [] rfl (by(with_reducible and_intros)<;>first|exact⟨⟩|exact(fu s)) ?_))
 refine az rfl ?_ ?_<;>intro hb0
 ·have hk:dL s=false:=by simpa using hb0
  exact aS X [2] rfl (by trivial) (ay (ah rfl ⟨by rw[oq,hk];rfl,⟨⟩⟩))
 ·have hk:dL s=true:=by simpa using hb0
  have hsz:=B5 hk
  have hin:=X1 hk
  refine aE (af (aF X [1,2,9] rfl (aG (aF X [1,2,9,10] rfl ?_))))
  refine az rfl ?_ ?_<;>intro ck
  ·try simp only[bW]at ck
   have hr:=JV s (by omega)
   exact aQ X [] [(13,⟨true,[.agg (bJ (jL s.rows (s.received.drop 1)))]⟩)] [2] [] rfl (by(with_reducible and_intros)<;>first|exact⟨⟩|exact(pz s 1 (by decide) hsz)) (ay (ah rfl ⟨by rw[oq,if_pos hk,if_neg (by omega),hr],⟨⟩⟩))
  ·try simp only[bW]at ck
   have hr:=N1 s (by omega)
   rw[hr]at hin
   have ajV:0<((jL s.rows s.received).rows.getD (cP 0) (aO (.sl .u8))).length:=hin.2
   have amE:0<((jL s.rows (NL 0 s.received)).rows.getD (cP 0) (aO (.sl .u8))).length:=hin.2
   have amF:0<(jL s.rows (NL 0 s.received)).rows.length:=hin.1
   refine aF X [1,2,14] rfl ?_
   refine az rfl ?_ ?_<;>intro dS
   ·try simp only[bW]at dS
    exact aQ X [] [(17,⟨true,[.agg (bJ (jL s.rows (s.received.drop 0)))]⟩)] [2,3] [] rfl (by(with_reducible and_intros)<;>first|exact⟨⟩|exact(pz s 0 (by decide) hsz)) (af (aZ X [] [] [2,3] [] 4095 0 MO (by kernel_rfl) rfl (by kernel_rfl) (by and_intros<;>first|exact⟨⟩| (intros;omega)|exact(qo _).1|exact(qo _).2) (aS X [2] rfl (by trivial) (ay (ah rfl ⟨by rw[oq,if_pos hk,if_pos (by omega),hr];exact alt_eq _,⟨⟩⟩)))))
   ·try simp only[bW]at dS
    exact aE (aQ X [] [(32,⟨true,[.agg (bJ (jL s.rows (s.received.drop 0)))]⟩)] [2] [] rfl (by(with_reducible and_intros)<;>first|exact⟨⟩|exact(pz s 0 (by decide) hsz)) (ay (ah rfl ⟨by rw[oq,if_pos hk,if_neg (by omega),hr];rfl,⟨⟩⟩)))
theorem wE(a b:DB):So 178 [.agg (bJ a), .agg (bJ b)] [bl (a.rows==b.rows)]:=by
 refine aD X call178 func178 ntmps178 rfl rfl ?_
 intro zb
 exact aF X [2,3] rfl (aQ X [] [(9,⟨false,[bl (a.rows==b.rows)]⟩)] [4] [] rfl (by(with_reducible and_intros)<;>first|exact⟨⟩|exact(nK a.rows b.rows)) (ay (ah rfl ⟨rfl,⟨⟩⟩)))
theorem wF(a b:DB):So 210 [.agg (bJ a), .agg (bJ b)] [bl (a.rows==b.rows)]:=by
 refine aD X call210 func210 ntmps210 rfl rfl ?_
 intro zb
 exact aF X [2,3] rfl (aQ X [] [(9,⟨false,[bl (a.rows==b.rows)]⟩)] [4] [] rfl (by(with_reducible and_intros)<;>first|exact⟨⟩|exact(nI a.rows b.rows)) (ay (ah rfl ⟨rfl,⟨⟩⟩)))
theorem yj(key:Int)(r:gB):So 176 [aL key, .agg (nk r)] [bl (Qn key r)]:=by
 refine aD X call176 func176 ntmps176 rfl rfl ?_
 intro zb
 exact aF X [0,3] rfl (af (aZ X [] [(9,⟨false,[aL (Uj key r.server r.client r.round r.qZ)]⟩)] [4] [] 127 0 MO (by kernel_rfl) rfl (by kernel_rfl) (by(with_reducible and_intros)<;>first|exact⟨⟩|exact(td key r)) (ay (ah rfl ⟨(congrArg dO (by simp only[Qn,bD]<;>first|rfl|ac_rfl)),⟨⟩⟩))))
theorem wG(r:gB)(d:DB)(hd:ga aR d.rows≤1048576):So 177 [.agg (nk r), .agg (bJ d)] [bl (Lz r d)]:=by
 refine aD X call177 func177 ntmps177 rfl rfl ?_
 intro zb
 exact aF X [2,3] rfl (af (aZ X [] [(12,⟨false,[aL (HH r.client r.round d)]⟩)] [4] [] 1023 0 MO (by kernel_rfl) rfl (by kernel_rfl) (by(with_reducible and_intros)<;>first|exact⟨⟩|exact(so r.client r.round d hd)) (ay (ah rfl ⟨(congrArg dO (by simp only[Lz,bD]<;>first|rfl|ac_rfl)),⟨⟩⟩))))
theorem AL(key:Int)(s:cg)(p:DB)(l:List gB)(hz:s.received.length≤1048576∧ ∀r,r∈s.received→ga aR r.share.rows≤1048576)(hp:ga aR p.rows≤1048576):So 116 [aL key, .agg (dr s), .agg (bJ p), .a (.sl .gB l)] [aL (DC key s p l)]:=by
 refine aD X call116 func116 ntmps116 rfl rfl ?_
 intro zb
 refine eO 3 rfl (fun oc=>(aF X [0,3,5,6] rfl (af (aF X [0,5,6,13,14,15] rfl ?_))))
 refine aG (aV (fun k=>k≤l.length∧ ∀j,j<k→k9 key s (l.getD j (aO .gB))=0) (fun k:Nat=> [(15, .one ((aL k)))]) (fun k=> []) (fun k=>l.length-k) 0 (fun k=>rfl) ⟨aA _,fun j hj=>absurd hj (sE _)⟩ rfl ?_)
 rintro k ⟨hk,hall⟩
 refine aF X [0,5,6,13,14,15,16] rfl ?_
 refine af (az rfl ?_ ?_)<;>intro hb0
 ·try simp only[bW]at hb0
  refine aE (af (aG (aS X [0,5,6,10,13,14,15] rfl (by and_intros<;>first|exact⟨⟩| (intros;omega)) (af (aQ X [] [(34,⟨false,[bl (Qn key (l.getD k (aO .gB)))]⟩)] [0,5,6,10,13,14,15,36] [] rfl (by(with_reducible and_intros)<;>first|exact⟨⟩|exact fun _=>(yj key (l.getD k (aO .gB)))) ?_)))))
  refine az rfl ?_ ?_<;>intro ck
  ·have Yo:sB key s (l.getD k (aO .gB))=true:=lG ck (by simp only[sB,bD]<;>first|rfl|ac_rfl)
   refine bn (cN X [0,5,6,13,14,15] rfl ?_)
   refine⟨k+1,⟨by omega,vI hall (ae3 Yo)⟩,by omega,?_⟩
   rw[cX _ k rfl (by omega)]
   try rfl
  ·have Yo:sB key s (l.getD k (aO .gB))=false:=oT ck (by simp only[sB,bD]<;>first|rfl|ac_rfl)
   refine aE (af ?_)
   have t1:=(yf s ((l.getD k (aO .gB)).client) hz)
   refine bE X [] [(41,⟨true,dw t1⟩)] [0,5,6,10,11,12,13,14,15] [] rfl (by(with_reducible and_intros)<;>first|exact⟨⟩|exact t1) (af (aF X [0,5,6,10,11,13,14,15,45] rfl ?_))
   refine az rfl ?_ ?_<;>intro dS
   ·have hsh:oA s.received (l.getD k (aO .gB)).client=false:=by simpa using dS
    have hf:=aht Yo hsh
    exact aF X [8] rfl (ay (ah rfl ⟨by rw[B6 hall hb0 (by rw[hf];decide),hf],⟨⟩⟩))
   ·have hsh:oA s.received (l.getD k (aO .gB)).client=true:=by simpa using dS
    have hsd:=HG (c:=(l.getD k (aO .gB)).client) hz.2
    refine aE (af ?_)
    have t1:=(wG (l.getD k (aO .gB)) (Ax s.received (l.getD k (aO .gB)).client) hsd)
    refine bE X [] [(48,⟨false,dw t1⟩)] [0,5,6,13,14,15,49] [] rfl (by(with_reducible and_intros)<;>first|exact⟨⟩|exact t1) ?_
    refine az rfl ?_ ?_<;>intro BJ
    ·have hf:=ahu Yo hsh (by simpa using BJ)
     exact aF X [8] rfl (ay (ah rfl ⟨by rw[B6 hall hb0 (by rw[hf];decide),hf],⟨⟩⟩))
    ·have hf:=ae2 Yo hsh (by simpa using BJ)
     refine aE (cN X [0,5,6,13,14,15] rfl ?_)
     refine⟨k+1,⟨by omega,vI hall hf⟩,by omega,?_⟩
     rw[cX _ k rfl (by omega)]
     try rfl
 ·try simp only[bW]at hb0
  refine bn (af (af (aZ X [] [(52,⟨false,[bl (dL s)]⟩),(57,⟨false,[.agg (bJ (uE s))]⟩),(58,⟨false,[bl (p.rows==(uE s).rows)]⟩)] [60] [] 1023 0 MO (by kernel_rfl) rfl (by kernel_rfl) (by(with_reducible and_intros);(iterate 3 all_goals try first|exact⟨⟩|exact(fm s)|exact fun _=>(AJ s)|exact fun _=>(wE p (uE s)))) ?_)))
  refine az rfl ?_ ?_<;>intro hb4
  ·have hq:(dL s&&(p.rows==(uE s).rows))=false:=dB hb4 (by simp only[bD]<;>first|rfl|ac_rfl)
   exact aF X [8] rfl (ay (ah rfl ⟨by rw[ya hall hb0,hq];rfl,⟨⟩⟩))
  ·have hq:(dL s&&(p.rows==(uE s).rows))=true:=dy hb4 (by simp only[bD]<;>first|rfl|ac_rfl)
   exact aE (aF X [8] rfl (ay (ah rfl ⟨by rw[ya hall hb0,hq];rfl,⟨⟩⟩)))
theorem Cj(m:Int)(sv:List cg)(pb:List DB)(rc:List gB)(hl:sv.length≤1048576)(hs: ∀s,s∈sv→sj s)(hp: ∀d,d∈pb→ga aR d.rows≤1048576):So 63 [aL m, .a (.sl .cg sv), .a (.sl .DB pb), .a (.sl .gB rc)] [.a (.sl .int (ot m sv pb rc sv.length))]:=by
 refine aD X call63 func63 ntmps63 rfl rfl ?_
 intro zb
 refine eO 2 rfl (fun oc=>(aF X [0,1,2,3] rfl (aS X [0,1,2,3,9] rfl (by and_intros<;>first|exact⟨⟩|exact rfl) (af (aF X [0,2,3,9,13,14,15] rfl ?_)))))
 refine aG (aV (fun k=>k≤sv.length) (fun k:Nat=> [(15, .one ((aL k)))]) (fun k=> [(12, .arr .int (ot m sv pb rc k))]) (fun k=>sv.length-k) 0 (fun k=>rfl) (aA _) rfl ?_)
 intro k hk
 have hle:=sC m sv pb rc k
 refine aF X [0,2,3,9,13,14,15,16] rfl ?_
 refine af (az rfl ?_ ?_)<;>intro hb0
 ·try simp only[bW]at hb0
  refine aE (af (aG (aS X [0,2,3,9,10,11,13,14,15] rfl (by and_intros<;>first|exact⟨⟩| (intros;omega)) (af (aZ X [] [(28,⟨false,[aL (j6 m ((sv.getD k (aO .cg)).id))]⟩),(35,⟨false,[aL (DC (j6 m (sv.getD k (aO .cg)).id) (sv.getD k (aO .cg)) (pb.getD k (aO .DB)) rc)]⟩)] [0,2,3,9,11,13,14,15,37] [] 262143 0 MO (by kernel_rfl) rfl (by kernel_rfl) (by(with_reducible and_intros);(iterate 3 all_goals try first|exact⟨⟩|exact fun _=>(lH m ((sv.getD k (aO .cg)).id))|exact fun _=>(AL (j6 m (sv.getD k (aO .cg)).id) (sv.getD k (aO .cg)) (pb.getD k (aO .DB)) rc (hs _ (getD_in _ hb0)) (N2 hp k))|exact(by refine fun hzz=> ?_;have hz2:decide ((k:Int)≥(pb.length:Int))=false:=hzz;rw[decide_eq_false_iff_not]at hz2;dsimp only[hyps,rq];omega))) ?_)))))
  refine az rfl ?_ ?_<;>intro ck
  ·have hbd:B7 m sv pb rc k=true:=lG ck (by simp only[B7,bD]<;>first|rfl|ac_rfl)
   have zI:=HS hbd
   refine bE X [(42,12)] [] [0,2,3,9,13,14,15] [] rfl (by and_intros<;>first|exact⟨⟩|exact rfl| (simp only[gl,maxLen,lens];omega)) (cN X [0,2,3,9,13,14,15] rfl ?_)
   refine⟨k+1,by omega,by omega,?_⟩
   rw[cX _ k rfl (by omega),zI]
   try rfl
  ·have hbd:B7 m sv pb rc k=false:=oT ck (by simp only[B7,bD]<;>first|rfl|ac_rfl)
   have zI:=DE hbd
   refine aE (cN X [0,2,3,9,13,14,15] rfl ?_)
   refine⟨k+1,by omega,by omega,?_⟩
   rw[cX _ k rfl (by omega),zI]
   try rfl
 ·try simp only[bW]at hb0
  exact bn (aF X [8] rfl (ay (ah rfl ⟨by rw[show k=sv.length by omega],⟨⟩⟩)))
theorem Ck(sv:List cg)(hl:sv.length≤1048576):So 58 [.a (.sl .cg sv)] [.a (.sl .DB (eD sv))]:=by
 refine aD X call58 func58 ntmps58 rfl rfl ?_
 intro zb
 refine aF X [0] rfl (aS X [0,3] rfl (by and_intros<;>first|exact⟨⟩|exact rfl) (af (aF X [3,7,8,9] rfl ?_)))
 refine aG (aV (fun k=>k≤sv.length) (fun k:Nat=> [(9, .one ((aL k)))]) (fun k=> [(6, .arr .DB ((eD sv).take k))]) (fun k=>sv.length-k) 0 (fun k=>rfl) (aA _) rfl ?_)
 intro k hk
 have hle:=ct (eD sv) k
 refine aF X [3,7,8,9,10] rfl ?_
 refine af (az rfl ?_ ?_)<;>intro hb0
 ·try simp only[bW]at hb0
  have hs:=JW sv k hb0
  refine aE (af (aG (aS X [3,5,7,8,9] rfl (by and_intros<;>first|exact⟨⟩| (intros;omega)) (bE X [(17,6)] [(15,⟨true,[.agg (bJ (oq (sv.getD k (aO .cg))))]⟩)] [3,7,8,9] [] rfl (by(with_reducible and_intros)<;>first|exact⟨⟩|exact(zy (sv.getD k (aO .cg)))|exact rfl| (simp only[gl,maxLen,lens];omega)) (cN X [3,7,8,9] rfl ?_)))))
  refine⟨k+1,by omega,by omega,?_⟩
  rw[cX _ k rfl (by omega),hs]
  try rfl
 ·try simp only[bW]at hb0
  exact bn (aF X [2] rfl (ay (ah rfl ⟨by rw[aB (by unfold eD;rw[bw];exact hb0)],⟨⟩⟩)))
theorem yl(key:Int)(r:gB):So 207 [aL key, .agg (nk r)] [bl (Qn key r)]:=by
 refine aD X call207 func207 ntmps207 rfl rfl ?_
 intro zb
 exact aF X [0,3] rfl (af (aZ X [] [(9,⟨false,[aL (Uj key r.server r.client r.round r.qZ)]⟩)] [4] [] 127 0 MO (by kernel_rfl) rfl (by kernel_rfl) (by(with_reducible and_intros)<;>first|exact⟨⟩|exact(th key r)) (ay (ah rfl ⟨(congrArg dO (by simp only[Qn,bD]<;>first|rfl|ac_rfl)),⟨⟩⟩))))
theorem wH(r:gB)(d:DB)(hd:ga aR d.rows≤1048576):So 209 [.agg (nk r), .agg (bJ d)] [bl (Lz r d)]:=by
 refine aD X call209 func209 ntmps209 rfl rfl ?_
 intro zb
 exact aF X [2,3] rfl (af (aZ X [] [(12,⟨false,[aL (HH r.client r.round d)]⟩)] [4] [] 1023 0 MO (by kernel_rfl) rfl (by kernel_rfl) (by(with_reducible and_intros)<;>first|exact⟨⟩|exact(sr r.client r.round d hd)) (ay (ah rfl ⟨(congrArg dO (by simp only[Lz,bD]<;>first|rfl|ac_rfl)),⟨⟩⟩))))
theorem AM(key:Int)(s:cg)(p:DB)(l:List gB)(hz:s.received.length≤1048576∧ ∀r,r∈s.received→ga aR r.share.rows≤1048576)(hp:ga aR p.rows≤1048576):So 145 [aL key, .agg (dr s), .agg (bJ p), .a (.sl .gB l)] [aL (DC key s p l)]:=by
 refine aD X call145 func145 ntmps145 rfl rfl ?_
 intro zb
 refine eO 3 rfl (fun oc=>(aF X [0,3,5,6] rfl (af (aF X [0,3,5,6,9] rfl ?_))))
 refine aG (aV (fun k=>k≤l.length∧ ∀j,j<k→k9 key s (l.getD j (aO .gB))=0) (fun k:Nat=> [(9, .one ((aL k)))]) (fun k=> []) (fun k=>l.length-k) 0 (fun k=>rfl) ⟨aA _,fun j hj=>absurd hj (sE _)⟩ rfl ?_)
 rintro k ⟨hk,hall⟩
 refine af (aF X [0,3,5,6,9,16] rfl ?_)
 refine az rfl ?_ ?_<;>intro hb0
 ·try simp only[bW]at hb0
  refine aE (af (aG (aS X [0,3,5,6,9,10] rfl (by and_intros<;>first|exact⟨⟩| (intros;omega)) (af (aQ X [] [(38,⟨false,[bl (Qn key (l.getD k (aO .gB)))]⟩)] [0,3,5,6,9,10,40] [] rfl (by(with_reducible and_intros)<;>first|exact⟨⟩|exact fun _=>(yl key (l.getD k (aO .gB)))) ?_)))))
  refine az rfl ?_ ?_<;>intro ck
  ·have Yo:sB key s (l.getD k (aO .gB))=true:=lG ck (by simp only[sB,bD]<;>first|rfl|ac_rfl)
   refine bn (cN X [0,3,5,6,9] rfl ?_)
   refine⟨k+1,⟨by omega,vI hall (ae3 Yo)⟩,by omega,?_⟩
   rw[cX _ k rfl (by omega)]
   try rfl
  ·have Yo:sB key s (l.getD k (aO .gB))=false:=oT ck (by simp only[sB,bD]<;>first|rfl|ac_rfl)
   refine aE (af ?_)
   have t1:=(H7 s ((l.getD k (aO .gB)).client) hz)
   refine bE X [] [(45,⟨true,dw t1⟩)] [0,3,5,6,9,10,11,12] [] rfl (by(with_reducible and_intros)<;>first|exact⟨⟩|exact t1) (af (aF X [0,3,5,6,9,10,11,49] rfl ?_))
   refine az rfl ?_ ?_<;>intro dS
   ·have hsh:oA s.received (l.getD k (aO .gB)).client=false:=by simpa using dS
    have hf:=aht Yo hsh
    exact aF X [8] rfl (ay (ah rfl ⟨by rw[B6 hall hb0 (by rw[hf];decide),hf],⟨⟩⟩))
   ·have hsh:oA s.received (l.getD k (aO .gB)).client=true:=by simpa using dS
    have hsd:=HG (c:=(l.getD k (aO .gB)).client) hz.2
    refine aE (af ?_)
    have t1:=(wH (l.getD k (aO .gB)) (Ax s.received (l.getD k (aO .gB)).client) hsd)
    refine bE X [] [(52,⟨false,dw t1⟩)] [0,3,5,6,9,53] [] rfl (by(with_reducible and_intros)<;>first|exact⟨⟩|exact t1) ?_
    refine az rfl ?_ ?_<;>intro BJ
    ·have hf:=ahu Yo hsh (by simpa using BJ)
     exact aF X [8] rfl (ay (ah rfl ⟨by rw[B6 hall hb0 (by rw[hf];decide),hf],⟨⟩⟩))
    ·have hf:=ae2 Yo hsh (by simpa using BJ)
     refine aE (cN X [0,3,5,6,9] rfl ?_)
     refine⟨k+1,⟨by omega,vI hall hf⟩,by omega,?_⟩
     rw[cX _ k rfl (by omega)]
     try rfl
 ·try simp only[bW]at hb0
  refine bn (af (af (aZ X [] [(55,⟨false,[bl (dL s)]⟩),(60,⟨false,[.agg (bJ (uE s))]⟩),(61,⟨false,[bl (p.rows==(uE s).rows)]⟩)] [63] [] 1023 0 MO (by kernel_rfl) rfl (by kernel_rfl) (by(with_reducible and_intros);(iterate 3 all_goals try first|exact⟨⟩|exact(fu s)|exact fun _=>(AK s)|exact fun _=>(wF p (uE s)))) ?_)))
  refine az rfl ?_ ?_<;>intro hb4
  ·have hq:(dL s&&(p.rows==(uE s).rows))=false:=dB hb4 (by simp only[bD]<;>first|rfl|ac_rfl)
   exact aF X [8] rfl (ay (ah rfl ⟨by rw[ya hall hb0,hq];rfl,⟨⟩⟩))
  ·have hq:(dL s&&(p.rows==(uE s).rows))=true:=dy hb4 (by simp only[bD]<;>first|rfl|ac_rfl)
   exact aE (aF X [8] rfl (ay (ah rfl ⟨by rw[ya hall hb0,hq];rfl,⟨⟩⟩)))
theorem Cl(m:Int)(sv:List cg)(pb:List DB)(rc:List gB)(hl:sv.length≤1048576)(hs: ∀s,s∈sv→sj s)(hp: ∀d,d∈pb→ga aR d.rows≤1048576):So 84 [aL m, .a (.sl .cg sv), .a (.sl .DB pb), .a (.sl .gB rc)] [.a (.sl .int (ot m sv pb rc sv.length))]:=by
 refine aD X call84 func84 ntmps84 rfl rfl ?_
 intro zb
 refine eO 2 rfl (fun oc=>(aF X [0,1,2,3] rfl (aS X [0,1,2,3,9] rfl (by and_intros<;>first|exact⟨⟩|exact rfl) (af (aF X [0,1,2,3,9,10] rfl ?_)))))
 refine aG (aV (fun k=>k≤sv.length) (fun k:Nat=> [(10, .one ((aL k)))]) (fun k=> [(11, .arr .int (ot m sv pb rc k))]) (fun k=>sv.length-k) 0 (fun k=>rfl) (aA _) rfl ?_)
 intro k hk
 have hle:=sC m sv pb rc k
 refine af (aF X [0,1,2,3,9,10,15] rfl ?_)
 refine az rfl ?_ ?_<;>intro hb0
 ·try simp only[bW]at hb0
  refine aE (af (aG (af (aZ X [] [(29,⟨false,[aL (j6 m ((sv.getD k (aO .cg)).id))]⟩),(39,⟨false,[aL (DC (j6 m (sv.getD k (aO .cg)).id) (sv.getD k (aO .cg)) (pb.getD k (aO .DB)) rc)]⟩)] [0,1,2,3,9,10,41] [] 16777215 0 MO (by kernel_rfl) rfl (by kernel_rfl) (by(with_reducible and_intros);(iterate 3 all_goals try first|exact⟨⟩|exact fun _=>(lI m ((sv.getD k (aO .cg)).id))|exact fun _=>(AM (j6 m (sv.getD k (aO .cg)).id) (sv.getD k (aO .cg)) (pb.getD k (aO .DB)) rc (hs _ (getD_in _ hb0)) (N2 hp k))|exact(by refine fun hzz=> ?_;have hz2:decide ((k:Int)≥(pb.length:Int))=false:=hzz;rw[decide_eq_false_iff_not]at hz2;dsimp only[hyps,rq];omega))) ?_))))
  refine az rfl ?_ ?_<;>intro ck
  ·have hbd:B7 m sv pb rc k=true:=lG ck (by simp only[B7,bD]<;>first|rfl|ac_rfl)
   have zI:=HS hbd
   refine bE X [(49,11)] [] [0,1,2,3,9,10] [] rfl (by and_intros<;>first|exact⟨⟩| (intros;omega)|exact rfl| (simp only[gl,maxLen,lens];omega)) (cN X [0,1,2,3,9,10] rfl ?_)
   refine⟨k+1,by omega,by omega,?_⟩
   rw[cX _ k rfl (by omega),zI]
   try rfl
  ·have hbd:B7 m sv pb rc k=false:=oT ck (by simp only[B7,bD]<;>first|rfl|ac_rfl)
   have zI:=DE hbd
   refine aE (cN X [0,1,2,3,9,10] rfl ?_)
   refine⟨k+1,by omega,by omega,?_⟩
   rw[cX _ k rfl (by omega),zI]
   try rfl
 ·try simp only[bW]at hb0
  exact bn (aF X [8] rfl (ay (ah rfl ⟨by rw[show k=sv.length by omega],⟨⟩⟩)))
theorem Cm(sv:List cg)(hl:sv.length≤1048576):So 79 [.a (.sl .cg sv)] [.a (.sl .DB (eD sv))]:=by
 refine aD X call79 func79 ntmps79 rfl rfl ?_
 intro zb
 refine aF X [0] rfl (aS X [0,3] rfl (by and_intros<;>first|exact⟨⟩|exact rfl) (af (aF X [0,3,4] rfl ?_)))
 refine aG (aV (fun k=>k≤sv.length) (fun k:Nat=> [(4, .one ((aL k)))]) (fun k=> [(5, .arr .DB ((eD sv).take k))]) (fun k=>sv.length-k) 0 (fun k=>rfl) (aA _) rfl ?_)
 intro k hk
 have hle:=ct (eD sv) k
 refine af (aF X [0,3,4,9] rfl ?_)
 refine az rfl ?_ ?_<;>intro hb0
 ·try simp only[bW]at hb0
  have hs:=JW sv k hb0
  refine aE (af (aG (bE X [(19,5)] [(17,⟨true,[.agg (bJ (oq (sv.getD k (aO .cg))))]⟩)] [0,3,4] [] rfl (by(with_reducible and_intros)<;>first|exact⟨⟩|exact(zz (sv.getD k (aO .cg)))| (intros;omega)|exact rfl| (simp only[gl,maxLen,lens];omega)) (cN X [0,3,4] rfl ?_))))
  refine⟨k+1,by omega,by omega,?_⟩
  rw[cX _ k rfl (by omega),hs]
  try rfl
 ·try simp only[bW]at hb0
  exact bn (aF X [2] rfl (ay (ah rfl ⟨by rw[aB (by unfold eD;rw[bw];exact hb0)],⟨⟩⟩)))
end
end Go.Proofs.YtkcegdacbddipaaGreat.G
