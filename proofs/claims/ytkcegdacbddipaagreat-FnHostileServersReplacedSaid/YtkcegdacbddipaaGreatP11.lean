/-
  What servers publish, and who is guilty.
-/
import Derived.Lib.AppendZeros
import Derived.Test.YtkcegdacbddipaaGreatP10
open And renaming intro→aO
open Bool renaming and_eq_true→ak
open Go.IntKind renaming i64→aq
open Go.Proofs.Tryz renaming prog→bC
open Go.Value renaming bool→dS
open Int renaming reduceToNat→IV,toNat→cL,toNat_zero→JT
open List renaming append_assoc→ct,drop→OX,drop_zero→eS,length→aQ,length_append→aY,length_cons→b9,length_drop→bW,length_map→bg,length_nil→fF,length_take→bV,range→bD,take_length→mV,take_of_length_le→aB,zipWith→dz
open Nat renaming le_refl→aZ,mul_le_mul→Ay,not_lt_zero→lU,zero_le→aD
namespace Go.Proofs.YtkcegdacbddipaaGreat.G
set_option linter.all false
open Go.RowKit L D Tryz
section
set_option maxRecDepth 100000
theorem YL{w w':World}{t:Tag}{g n:Nat}{c:Array Value}(hg:g=w.heap.size)(hb:Below w.heap.size w w')(hc:w'.heap[g]? =some (.cells c (ty t) (0,0)))(hs:c.size=n*kk t)(hn:n≤maxLen):
  Ret ty w [.a (.sl t [])] (.returned (.slice (some ⟨g,0,none⟩) 0 n)) w':=by
 have hown:Own w.heap.size w' (g::([]:List (List Nat)).flatten):=⟨by simp,fun b JL=>by simp at JL;omega,fun b JL=>by simp at JL;subst JL;exact⟨_,_,hc⟩⟩
 have hB:=nv (gh t) (l:=([]:List (T t))) (cB:= []) (o:=0) (n:=n) hc (by omega) (aD _) hn ⟨rfl,by simp⟩ hown
 exact⟨_,_,rfl,hb,hown,_,[],hB,rfl,by simp⟩
theorem acV{w:World}{t:Tag}:Ret ty w [.a (.sl t [])] (.returned Lu) w:=by
 refine⟨_,[],rfl,Below.refl _ _,Own.nil _ _,[],[],⟨[],[],?_,rfl,by simp,rfl,Own.nil _ _⟩,rfl,rfl⟩
 exact⟨by simp,Or.inl ⟨rfl,rfl⟩⟩
theorem YM(w:World)(n:Nat)(h1:n≤1099511627776):Calls bC 188 #[Lu, .int .i64 n] w (Ret ty w [.a (.sl .int [])]):=by
 have wL:El bC ty .int:=bM _ (by decide)
 cases hq:bC.info? (ty .int)with
 |none=>simp[El,hq]at wL
 |some inf=>
  simp[El,hq]at wL
  obtain⟨z1,z2,z3⟩:=wL
  by_cases h0:n=0
  ·subst h0
   go_enter func188,ntmps188
   go_wp2
   go_ret
   exact acV
  ·have hsz:inf.size=1:=z2
   have hby:inf.bytes≤8:=by rw[z3];decide
   have hmul:n*inf.bytes≤8796093022208:=Nat.le_trans (Ay (show n≤1099511627776 from h1) hby) (by decide)
   have hrun:=Lib.run_append_nil_zeros (P:=bC) w 29 3 29 (ty .int) inf (iX .int) .i64 .i64 (X.kind 29).1 (X.kind 3) hq z1 n (by omega) (by omega) (by omega) (by omega)
   have hge:=grownCap_ge w n 0 (ty .int)
   have Wp:=grownCap_le_maxLen w n 0 (ty .int) (by unfold maxLen;omega)
   generalize grownCap w n 0 (ty .int)=g at hrun hge Wp
   go_enter func188,ntmps188
   go_wp2_with (at_builtin;refine Lib.wpList_append_run _ rfl _ _ _ _ rfl _ _ rfl rfl _ _ hrun ?_)
   go_ret
   refine YL (t:= .int) rfl ((Below.refl _ _).drew.alloc (aZ _) _) (uH rfl) ?_ Wp
   rw[Array.size_append,size_zeroCells,size_zeroCells, ←Nat.add_mul,show n+(g-n)=g by omega]
   rfl
theorem xe(n:Nat)(h1:n≤1099511627776):So 188 [.a (.lit Lu), .a (.lit (.int .i64 n))] [.a (.sl .int [])]:=by
 refine⟨fun args w=>call188 args w,fun w us _ ha=> ?_⟩
 match us,ha with
 | [u1,u2],⟨⟨_,e1⟩,⟨_,e2⟩,_⟩=>
   obtain⟨e1,_⟩:=e1
   obtain⟨e2,_⟩:=e2
   rw[e1,e2]
   exact YM w n h1
end
section
set_option maxRecDepth 100000
theorem bB(x lo hi:Int):So 40 [aM x,aM lo,aM hi] [bl (inr x lo hi)]:=by
 refine aC X call40 func40 ntmps40 rfl rfl ?_
 intro zb
 exact aF X [0,1,2] rfl (aF X [6] rfl (az (aj rfl ⟨rfl,⟨⟩⟩)))
theorem bY(x lo hi:Int):So 21 [aM x,aM lo,aM hi] [bl (inr x lo hi)]:=by
 refine aC X call21 func21 ntmps21 rfl rfl ?_
 intro zb
 exact aF X [0,1,2] rfl (aF X [6] rfl (az (aj rfl ⟨rfl,⟨⟩⟩)))
theorem Q9(p q:Int)(h1:1≤q)(h2:q≤1000000000000):So 187 [aM p,aM q] [aM (p % q)]:=by
 refine aC X call187 func187 ntmps187 rfl rfl ?_
 intro zb
 refine aF X [0,1] rfl (ah (aS X [] [(6,⟨false,[bl _]⟩)] [0,1,7] [] rfl (by(with_reducible and_intros)<;>first|exact⟨⟩|exact(bB _ _ _)) ?_))
 refine aA rfl ?_ ?_<;>intro hb0
 ·try simp only[bO]at hb0
  omega
 ·try simp only[bO]at hb0
  exact aE (aT X [4] rfl (by and_intros<;>first|exact⟨⟩| (intros;omega)) (az (aj rfl ⟨by rw[md_eq p q h1 h2],⟨⟩⟩)))
theorem yl(l:List Int)(hl:l.length≤16777216):So 126 [.a (.sl .int l)] [aM (hsh l)]:=by
 refine aC X call126 func126 ntmps126 rfl rfl ?_
 intro zb
 refine aF X [0] rfl (aF X [0,3] rfl (ah (aF X [3,6,7,8] rfl ?_)))
 refine aG (aW (fun k=>k≤l.length) (fun k:Nat=> [(3, .one ((aM (hsh (l.take k))))),(8, .one ((aM k)))]) (fun k=> []) (fun k=>l.length-k) 0 (fun k=>rfl) (aD _) rfl ?_)
 intro k hk
 refine aF X [3,6,7,8,9] rfl ?_
 refine ah (aA rfl ?_ ?_)<;>intro hb0
 ·try simp only[bO]at hb0
  have hs:=On l k hb0
  refine aE (ah (aG (aT X [3,5,6,7,8] rfl (by and_intros<;>first|exact⟨⟩| (intros;omega)) (bH X [] [(15,⟨false,[aM _]⟩)] [3,6,7,8] [] rfl (by(with_reducible and_intros)<;>first|exact⟨⟩|exact(Q9 _ _ (by first|assumption|omega| (simp;done)| (simp;omega)) (by first|assumption|omega| (simp;done)| (simp;omega)))| (intros;omega)) (cW X [3,6,7,8] rfl ?_)))))
  refine⟨k+1,by omega,by omega,?_⟩
  rw[dh _ k rfl (by omega),hs]
  try rfl
 ·try simp only[bO]at hb0
  exact bp (aF X [2] rfl (az (aj rfl ⟨by rw[aB hb0],⟨⟩⟩)))
theorem H8(p q:Int)(h1:1≤q)(h2:q≤1000000000000):So 92 [aM p,aM q] [aM (p % q)]:=by
 refine aC X call92 func92 ntmps92 rfl rfl ?_
 intro zb
 refine aF X [0,1] rfl (ah (aS X [] [(6,⟨false,[bl _]⟩)] [0,1,7] [] rfl (by(with_reducible and_intros)<;>first|exact⟨⟩|exact(bY _ _ _)) ?_))
 refine aA rfl ?_ ?_<;>intro hb0
 ·try simp only[bO]at hb0
  omega
 ·try simp only[bO]at hb0
  exact aE (aT X [4] rfl (by and_intros<;>first|exact⟨⟩| (intros;omega)) (az (aj rfl ⟨by rw[md_eq p q h1 h2],⟨⟩⟩)))
theorem ym(l:List Int)(hl:l.length≤16777216):So 44 [.a (.sl .int l)] [aM (hsh l)]:=by
 refine aC X call44 func44 ntmps44 rfl rfl ?_
 intro zb
 refine aF X [0] rfl (aF X [0,3] rfl (ah (aF X [0,3,4] rfl ?_)))
 refine aG (aW (fun k=>k≤l.length) (fun k:Nat=> [(3, .one ((aM (hsh (l.take k))))),(4, .one ((aM k)))]) (fun k=> []) (fun k=>l.length-k) 0 (fun k=>rfl) (aD _) rfl ?_)
 intro k hk
 refine ah (aF X [0,3,4,8] rfl ?_)
 refine aA rfl ?_ ?_<;>intro hb0
 ·try simp only[bO]at hb0
  have hs:=On l k hb0
  refine aE (ah (aG (bH X [] [(17,⟨false,[aM _]⟩)] [0,3,4] [] rfl (by(with_reducible and_intros)<;>first|exact⟨⟩|exact(H8 _ _ (by first|assumption|omega| (simp;done)| (simp;omega)) (by first|assumption|omega| (simp;done)| (simp;omega)))| (intros;omega)) (cW X [0,3,4] rfl ?_))))
  refine⟨k+1,by omega,by omega,?_⟩
  rw[dh _ k rfl (by omega),hs]
  try rfl
 ·try simp only[bO]at hb0
  exact bp (aF X [2] rfl (az (aj rfl ⟨by rw[aB hb0],⟨⟩⟩)))
theorem nB(l:List (List Int))(hl:l.length≤1048576)(hs0:(l.map aQ).sum≤1099511627776):So 127 [.a (.sl (.sl .int) l)] [.a (.sl .int l.flatten)]:=by
 refine aC X call127 func127 ntmps127 rfl rfl ?_
 intro zb
 refine aF X [0] rfl (aF X [0,3] rfl (ah (aF X [0,3,9,10,11] rfl ?_)))
 refine aG (aW (fun k=>k≤l.length) (fun k:Nat=> [(3, .one ((aM ((l.take k).map aQ).sum))),(11, .one ((aM k)))]) (fun k=> []) (fun k=>l.length-k) 0 (fun k=>rfl) (aD _) rfl ?_)
 intro k hk
 have hle:=qd l aQ k
 refine aF X [0,3,9,10,11,12] rfl ?_
 refine ah (aA rfl ?_ ?_)<;>intro hb0
 ·try simp only[bO]at hb0
  have hs:=Oq l (aP (.sl .int)) k hb0
  have agV:=qd l aQ (k+1)
  rw[hs]at agV
  refine aE (ah (aG (aT X [0,3,5,9,10,11] rfl (by and_intros<;>first|exact⟨⟩| (intros;omega)) (aT X [0,3,9,10,11] rfl (by trivial) (aF X [0,3,9,10,11,20] rfl ?_)))))
  refine aA rfl ?_ ?_<;>intro cx
  ·try simp only[bO]at cx
   rw[cV (by omega)]at cx
   omega
  ·try simp only[bO]at cx
   refine aE (cW X [0,3,9,10,11] rfl ?_)
   refine⟨k+1,by omega,by omega,?_⟩
   rw[dh _ k rfl (by omega),hs]
   rw[cV (by simp only[Int.toNat_natCast];omega)]
   try rfl
 ·try simp only[bO]at hb0
  rw[aB hb0]
  refine bp (aS X [] [(24,⟨true,[.a (.sl .int [])]⟩),(300024,⟨true,[]⟩)] [0,6] [] rfl (by(with_reducible and_intros)<;>first|exact⟨⟩|exact(xe _ hs0)) (ah (aF X [6,25,26,27] rfl ?_)))
  refine aG (aW (fun k1=>k1≤l.length) (fun k1:Nat=> [(27, .one ((aM k1)))]) (fun k1=> [(24, .arr .int (l.take k1).flatten)]) (fun k1=>l.length-k1) 0 (fun k1=>rfl) (aD _) rfl ?_)
  intro k1 hk1
  have acW:=Fo l k1
  refine aF X [6,25,26,27,28] rfl ?_
  refine ah (aA rfl ?_ ?_)<;>intro dY
  ·try simp only[bO]at dY
   have hs1:=Md l (aP (.sl .int)) k1 dY
   have agV:=Fo l (k1+1)
   rw[hs1,aY]at agV
   refine aE (ah (aG (aT X [6,8,25,26,27] rfl (by and_intros<;>first|exact⟨⟩| (intros;omega)) (bH X [(33,24)] [] [6,25,26,27] [] rfl (by and_intros<;>first|exact⟨⟩|exact rfl| (simp only[gb,maxLen,lens];omega)) (cW X [6,25,26,27] rfl ?_)))))
   refine⟨k1+1,by omega,by omega,?_⟩
   rw[dh _ k1 rfl (by omega),hs1]
   try rfl
  ·try simp only[bO]at dY
   exact bp (aF X [2] rfl (az (aj rfl ⟨by rw[aB dY],⟨⟩⟩)))
theorem cZ(k:Int)(l:List Int)(hl:l.length≤1048576):So 77 [aM k, .a (.sl .int l)] [aM (kh k l)]:=by
 refine aC X call77 func77 ntmps77 rfl rfl ?_
 intro zb
 refine aF X [0,1] rfl (aS X [] [(11,⟨true,[.a (.sl .int [[k],l,[k]].flatten)]⟩),(12,⟨false,[aM (hsh [[k],l,[k]].flatten)]⟩)] [4] [] rfl (by(repeat' with_reducible first|exact bF|refine bJ ?_ ?_|apply aO);(iterate 2 all_goals try first|exact(nB _ (by simp) (by simp;omega))|exact(yl _ (by simp;omega)));all_goals first|exact rfl|exact⟨rfl,bM _ (by decide)⟩) ?_)
 exact az (aj rfl ⟨rfl,⟨⟩⟩)
theorem cF(k:Int)(l:List Int)(hl:l.length≤1048576):So 25 [aM k, .a (.sl .int l)] [aM (kh k l)]:=by
 refine aC X call25 func25 ntmps25 rfl rfl ?_
 intro zb
 refine aF X [0,1] rfl (aS X [(8,6),(11,6)] [(12,⟨false,[aM (hsh ([k]++l++ [k]))]⟩)] [4] [] rfl (by(repeat' with_reducible first|exact bF|refine bJ ?_ ?_|apply aO)<;>first|exact(ym _ (by simp;omega))|exact rfl|exact⟨rfl,bM _ (by decide)⟩| (simp only[gb,maxLen,lens];omega)) ?_)
 exact az (aj rfl ⟨rfl,⟨⟩⟩)
theorem vX(n:Int):So 161 [aM n] [aM (Fl n)]:=by
 refine aC X call161 func161 ntmps161 rfl rfl ?_
 intro zb
 refine aF X [0] rfl (ah (aF X [0,4] rfl ?_))
 refine aA rfl ?_ ?_<;>intro hb0
 ·try simp only[bO]at hb0
  exact aF X [2] rfl (az (aj rfl ⟨by rw[Fl,if_pos hb0],⟨⟩⟩))
 ·try simp only[bO]at hb0
  exact aE (aF X [2] rfl (az (aj rfl ⟨by rw[Fl,if_neg (by simpa using hb0)],⟨⟩⟩)))
theorem sJ(a b:Int):So 24 [aM a,aM b] [aM (if b>a then b else a)]:=by
 refine aC X call24 func24 ntmps24 rfl rfl ?_
 intro zb
 refine aF X [0,1] rfl (ah (aF X [0,1,7] rfl ?_))
 refine aA rfl ?_ ?_<;>intro hb0
 ·try simp only[bO]at hb0
  exact aF X [4] rfl (az (aj rfl ⟨by rw[if_pos (by omega)],⟨⟩⟩))
 ·try simp only[bO]at hb0
  exact aE (aF X [4] rfl (az (aj rfl ⟨by rw[if_neg (by omega)],⟨⟩⟩)))
theorem pG(s k:Int):So 122 [aM s,aM k] [aM (cs s k)]:=by
 refine aC X call122 func122 ntmps122 rfl rfl ?_
 intro zb
 refine aF X [0,1] rfl (aS X [] [(9,⟨false,[aM _]⟩)] [5] [] rfl (by(repeat' with_reducible first|exact bF|refine bJ ?_ ?_|apply aO)<;>first|exact(cZ _ _ (by first|assumption|omega| (simp;done)| (simp;omega)))|exact⟨rfl,bM _ (by decide)⟩) ?_)
 exact aT X [4] rfl (by and_intros<;>first|exact⟨⟩| (intros;omega)) (az (aj rfl ⟨by rw[cs_eq (gm _ _).1 (gm _ _).2];rfl,⟨⟩⟩))
theorem m8(s n:Int)(h0:0≤n)(h1:n≤400):So 125 [aM s,aM n] [.a (.sl .u8 (stream s n.toNat))]:=by
 refine aC X call125 func125 ntmps125 rfl rfl ?_
 intro zb
 refine aF X [0,1] rfl (ah (aS X [] [(8,⟨false,[bl _]⟩)] [0,1,9] [] rfl (by(with_reducible and_intros)<;>first|exact⟨⟩|exact(bB _ _ _)) ?_))
 refine aA rfl ?_ ?_<;>intro hb0
 ·try simp only[bO]at hb0
  omega
 ·try simp only[bO]at hb0
  refine aE (aT X [0,1,5] rfl (by and_intros<;>first|exact⟨⟩|exact rfl) (ah (aF X [0,5,11,12] rfl ?_)))
  refine aG (aW (fun k=>k≤n.toNat) (fun k:Nat=> [(12, .one ((aM k)))]) (fun k=> [(10, .arr .u8 (stream s k))]) (fun k=>n.toNat-k) 0 (fun k=>rfl) (aD _) rfl ?_)
  intro k hk
  have hle:=gN s k
  refine aF X [0,5,11,12,13] rfl ?_
  refine ah (aA rfl ?_ ?_)<;>intro cx
  ·try simp only[bO]at cx
   have hs:=Fm s k (by omega)
   refine aE (ah (aG (aF X [0,5,6,11,12] rfl (bH X [(23,10)] [(19,⟨false,[aM _]⟩)] [0,5,11,12] [] rfl (by(repeat' with_reducible first|exact bF|refine bJ ?_ ?_|apply aO)<;>first|exact(pG _ _)| (intros;omega)|exact rfl|exact⟨rfl,bM _ (by decide)⟩|exact(kA _).1|exact(kA _).2| (simp only[gb,maxLen,lens];omega)) ?_))))
   refine cW X [0,5,11,12] rfl ?_
   refine⟨k+1,by omega,by omega,?_⟩
   rw[dh _ k rfl (by omega),hs]
   try rfl
  ·try simp only[bO]at cx
   exact bp (aF X [4] rfl (az (aj rfl ⟨by rw[show k=n.toNat by omega],⟨⟩⟩)))
theorem sK(l:List UInt8)(hl:l.length≤1048576):So 253 [.a (.sl .u8 l)] [.a (.sl .int (JC l))]:=by
 refine aC X call253 func253 ntmps253 rfl rfl ?_
 intro zb
 refine aF X [0] rfl (aT X [0,3] rfl (by and_intros<;>first|exact⟨⟩|exact rfl) (ah (aF X [3,9,10,11] rfl ?_)))
 refine aG (aW (fun k=>k≤l.length) (fun k:Nat=> [(11, .one ((aM k)))]) (fun k=> [(8, .arr .int ((l.length:Int)::(l.take k).map (fun c=>(c.toNat:Int))))]) (fun k=>l.length-k) 0 (fun k=>rfl) (aD _) rfl ?_)
 intro k hk
 refine aF X [3,9,10,11,12] rfl ?_
 refine ah (aA rfl ?_ ?_)<;>intro hb0
 ·try simp only[bO]at hb0
  have hs:=Oo l k hb0
  refine aE (ah (aG (aT X [3,5,9,10,11] rfl (by and_intros<;>first|exact⟨⟩| (intros;omega)) (bH X [(19,8)] [] [3,9,10,11] [] rfl (by and_intros<;>first|exact⟨⟩|exact rfl| (simp only[gb,maxLen,lens];omega)) (cW X [3,9,10,11] rfl ?_)))))
  refine⟨k+1,by omega,by omega,?_⟩
  rw[dh _ k rfl (by omega),hs]
  try rfl
 ·try simp only[bO]at hb0
  exact bp (aF X [2] rfl (az (aj rfl ⟨by rw[aB hb0];rfl,⟨⟩⟩)))
theorem pH(s k:Int):So 242 [aM s,aM k] [aM (cs s k)]:=by
 refine aC X call242 func242 ntmps242 rfl rfl ?_
 intro zb
 refine aF X [0,1] rfl (aS X [] [(9,⟨false,[aM _]⟩)] [5] [] rfl (by(repeat' with_reducible first|exact bF|refine bJ ?_ ?_|apply aO)<;>first|exact(cF _ _ (by first|assumption|omega| (simp;done)| (simp;omega)))|exact⟨rfl,bM _ (by decide)⟩) ?_)
 exact aT X [4] rfl (by and_intros<;>first|exact⟨⟩| (intros;omega)) (az (aj rfl ⟨by rw[cs_eq (gm _ _).1 (gm _ _).2];rfl,⟨⟩⟩))
theorem ng(s n:Int)(h0:0≤n)(h1:n≤400):So 239 [aM s,aM n] [.a (.sl .u8 (stream s n.toNat))]:=by
 refine aC X call239 func239 ntmps239 rfl rfl ?_
 intro zb
 refine aF X [0,1] rfl (aT X [0,1,5] rfl (by and_intros<;>first|exact⟨⟩|exact rfl) (ah (aF X [0,1,5,6] rfl ?_)))
 refine aG (aW (fun k=>k≤n.toNat) (fun k:Nat=> [(6, .one ((aM k)))]) (fun k=> [(7, .arr .u8 (stream s k))]) (fun k=>n.toNat-k) 0 (fun k=>rfl) (aD _) rfl ?_)
 intro k hk
 have hle:=gN s k
 refine ah (aF X [0,1,5,6,14] rfl ?_)
 refine aA rfl ?_ ?_<;>intro hb0
 ·try simp only[bO]at hb0
  have hs:=Fm s k (by omega)
  refine aE (ah (aG (bH X [(25,7)] [(21,⟨false,[aM _]⟩)] [0,1,5,6] [] rfl (by(repeat' with_reducible first|exact bF|refine bJ ?_ ?_|apply aO)<;>first|exact(pH _ _)| (intros;omega)|exact rfl|exact⟨rfl,bM _ (by decide)⟩|exact(kA _).1|exact(kA _).2| (simp only[gb,maxLen,lens];omega)) ?_)))
  refine cW X [0,1,5,6] rfl ?_
  refine⟨k+1,by omega,by omega,?_⟩
  rw[dh _ k rfl (by omega),hs]
  try rfl
 ·try simp only[bO]at hb0
  exact bp (aF X [4] rfl (az (aj rfl ⟨by rw[show k=n.toNat by omega],⟨⟩⟩)))
theorem sL(l:List UInt8)(hl:l.length≤1048576):So 248 [.a (.sl .u8 l)] [.a (.sl .int (JC l))]:=by
 refine aC X call248 func248 ntmps248 rfl rfl ?_
 intro zb
 refine aF X [0] rfl (aT X [0,3] rfl (by and_intros<;>first|exact⟨⟩|exact rfl) (ah (aF X [0,3,4] rfl ?_)))
 refine aG (aW (fun k=>k≤l.length) (fun k:Nat=> [(4, .one ((aM k)))]) (fun k=> [(7, .arr .int ((l.length:Int)::(l.take k).map (fun c=>(c.toNat:Int))))]) (fun k=>l.length-k) 0 (fun k=>rfl) (aD _) rfl ?_)
 intro k hk
 refine ah (aF X [0,3,4,11] rfl ?_)
 refine aA rfl ?_ ?_<;>intro hb0
 ·try simp only[bO]at hb0
  have hs:=Oo l k hb0
  refine aE (ah (aG (bH X [(21,7)] [] [0,3,4] [] rfl (by and_intros<;>first|exact⟨⟩| (intros;omega)|exact rfl| (simp only[gb,maxLen,lens];omega)) (cW X [0,3,4] rfl ?_))))
  refine⟨k+1,by omega,by omega,?_⟩
  rw[dh _ k rfl (by omega),hs]
  try rfl
 ·try simp only[bO]at hb0
  exact bp (aF X [2] rfl (az (aj rfl ⟨by rw[aB hb0];rfl,⟨⟩⟩)))
end
section
set_option maxRecDepth 100000
theorem kC(l:List Int)(hl:l.length≤4194304):So 88 [.a (.sl .int l)] [.a (.sl .int l)]:=by
 refine aC X call88 func88 ntmps88 rfl rfl ?_
 intro zb
 refine aF X [0] rfl (ah (ah (Ox X [] [] [0,4] rfl (by trivial) (fun hn1=> ?_) ?_)))
 ·refine aA rfl (fun _=> ?_) (fun hb=>absurd hb (by decide))
  exact aF X [2] rfl (az (aj rfl ⟨hn1,⟨⟩⟩))
 ·exact aA rfl (fun hb=>absurd hb (by decide)) (fun _=>(aE (aS X [(7,5)] [] [2] [] rfl (by and_intros<;>first|exact⟨⟩|exact rfl| (simp only[gb,maxLen,lens];omega)) (az (aj rfl ⟨rfl,⟨⟩⟩)))))
theorem eH(l:List UInt8)(hl:l.length≤1048576):So 231 [.a (.sl .u8 l)] [.a (.sl .u8 l)]:=by
 refine aC X call231 func231 ntmps231 rfl rfl ?_
 intro zb
 refine aF X [0] rfl (ah (ah (Ox X [] [] [0,4] rfl (by trivial) (fun hn1=> ?_) ?_)))
 ·refine aA rfl (fun _=> ?_) (fun hb=>absurd hb (by decide))
  exact aF X [2] rfl (az (aj rfl ⟨hn1,⟨⟩⟩))
 ·exact aA rfl (fun hb=>absurd hb (by decide)) (fun _=>(aE (aS X [(7,5)] [] [2] [] rfl (by and_intros<;>first|exact⟨⟩|exact rfl| (simp only[gb,maxLen,lens];omega)) (az (aj rfl ⟨rfl,⟨⟩⟩)))))
theorem mT(a b:List UInt8)(ha:a.length≤1048576)(hb:b.length≤1048576):So 220 [.a (.sl .u8 a), .a (.sl .u8 b)] [.a (.sl .u8 (fG a b))]:=by
 refine aC X call220 func220 ntmps220 rfl rfl ?_
 intro zb
 refine aF X [0,1] rfl (ah (aF X [0,1,12] rfl ?_))
 refine aA rfl ?_ ?_<;>intro hb0
 ·try simp only[bO]at hb0
  rw[KC a b]
  have YQ:a.length≤b.length:=by omega
  obtain⟨p,hp⟩: ∃p,p=b:=⟨_,rfl⟩
  obtain⟨q,hq⟩: ∃q,q=a:=⟨_,rfl⟩
  subst hp;subst hq
  refine cW X [0,1] rfl (aS X [] [(16,⟨true,[.a (.sl .u8 _)]⟩)] [1,5] [] rfl (by(with_reducible and_intros)<;>first|exact⟨⟩|exact(eH _ (by first|assumption|omega| (simp;done)| (simp;omega)))) (ah (aF X [5,17,18,19] rfl ?_)))
  refine aG (aW (fun k=>k≤q.length) (fun k:Nat=> [(19, .one ((aM k)))]) (fun k=> [(16, .arr .u8 ((fG p q).take k++p.drop k))]) (fun k=>q.length-k) 0 (fun k=>rfl) (aD _) rfl ?_)
  intro k hk
  have hle:=nX (fG p q) p k (by rw[eI];omega) (by omega)
  refine aF X [5,17,18,19,20] rfl ?_
  refine ah (aA rfl ?_ ?_)<;>intro cx
  ·try simp only[bO]at cx
   have hs:=Oz p q k cx YQ
   refine aE (ah (aG (aT X [5,6,7,17,18,19] rfl (by and_intros<;>first|exact⟨⟩| (intros;omega)) (ny X [5,17,18,19] rfl (by and_intros<;>first|exact⟨⟩| (intros;omega)|exact(kA _).1|exact(kA _).2) (cW X [5,17,18,19] rfl ?_)))))
   refine⟨k+1,by omega,by omega,?_⟩
   rw[dh _ k rfl (by omega),hs]
   try rfl
  ·try simp only[bO]at cx
   exact bp (aF X [4] rfl (az (aj rfl ⟨by rw[OA p q k cx YQ hk],⟨⟩⟩)))
 ·try simp only[bO]at hb0
  have YQ:b.length≤a.length:=by omega
  obtain⟨p,hp⟩: ∃p,p=a:=⟨_,rfl⟩
  obtain⟨q,hq⟩: ∃q,q=b:=⟨_,rfl⟩
  subst hp;subst hq
  refine aE (aS X [] [(16,⟨true,[.a (.sl .u8 _)]⟩)] [1,5] [] rfl (by(with_reducible and_intros)<;>first|exact⟨⟩|exact(eH _ (by first|assumption|omega| (simp;done)| (simp;omega)))) (ah (aF X [5,17,18,19] rfl ?_)))
  refine aG (aW (fun k=>k≤q.length) (fun k:Nat=> [(19, .one ((aM k)))]) (fun k=> [(16, .arr .u8 ((fG p q).take k++p.drop k))]) (fun k=>q.length-k) 0 (fun k=>rfl) (aD _) rfl ?_)
  intro k hk
  have hle:=nX (fG p q) p k (by rw[eI];omega) (by omega)
  refine aF X [5,17,18,19,20] rfl ?_
  refine ah (aA rfl ?_ ?_)<;>intro cx
  ·try simp only[bO]at cx
   have hs:=Oz p q k cx YQ
   refine aE (ah (aG (aT X [5,6,7,17,18,19] rfl (by and_intros<;>first|exact⟨⟩| (intros;omega)) (ny X [5,17,18,19] rfl (by and_intros<;>first|exact⟨⟩| (intros;omega)|exact(kA _).1|exact(kA _).2) (cW X [5,17,18,19] rfl ?_)))))
   refine⟨k+1,by omega,by omega,?_⟩
   rw[dh _ k rfl (by omega),hs]
   try rfl
  ·try simp only[bO]at cx
   exact bp (aF X [4] rfl (az (aj rfl ⟨by rw[OA p q k cx YQ hk],⟨⟩⟩)))
theorem mU(a b:List UInt8)(ha:a.length≤1048576)(hb:b.length≤1048576):So 241 [.a (.sl .u8 a), .a (.sl .u8 b)] [.a (.sl .u8 (fG a b))]:=by
 refine aC X call241 func241 ntmps241 rfl rfl ?_
 intro zb
 refine aF X [0,1] rfl (aT X [0,1,5] rfl (by and_intros<;>first|exact⟨⟩|exact rfl) (ah (aF X [0,1,5,6] rfl ?_)))
 refine aG (aW (fun k=>k≤max a.length b.length) (fun k:Nat=> [(6, .one ((aM k)))]) (fun k=> [(8, .arr .u8 ((fG a b).take k))]) (fun k=>max a.length b.length-k) 0 (fun k=>rfl) (aD _) rfl ?_)
 intro k hk
 have hle:=cG (fG a b) k
 refine ah (aF X [0,1,5,6,18] rfl ?_)
 refine aA rfl ?_ ?_<;>intro hb0
 ·try simp only[bO]at hb0
  refine aE (ah (aG (aF X [0,1,5,6,7] rfl (ah (aF X [0,1,5,6,7,24] rfl ?_)))))
  refine aA rfl ?_ ?_<;>intro cx
  ·try simp only[bO]at cx
   refine ny X [0,1,5,6,7] rfl (by and_intros<;>first|exact⟨⟩| (intros;omega)) (ah (aF X [0,1,5,6,7,32] rfl ?_))
   refine aA rfl ?_ ?_<;>intro dY
   ·try simp only[bO]at dY
    have hs:=agW a b k cx dY
    refine ny X [0,1,5,6,7] rfl (by and_intros<;>first|exact⟨⟩| (intros;omega)) (bH X [(42,8)] [] [0,1,5,6] [] rfl (by and_intros<;>first|exact⟨⟩|exact rfl|exact(kA _).1|exact(kA _).2| (simp only[gb,maxLen,lens];omega)) (cW X [0,1,5,6] rfl ?_))
    refine⟨k+1,by omega,by omega,?_⟩
    rw[dh _ k rfl (by omega),hs]
    try rfl
   ·try simp only[bO]at dY
    have hs:=ajB a b k cx dY
    refine aE (bH X [(42,8)] [] [0,1,5,6] [] rfl (by and_intros<;>first|exact⟨⟩| (intros;omega)|exact rfl|exact(uA _).2| (simp only[gb,maxLen,lens];omega)) (cW X [0,1,5,6] rfl ?_))
    refine⟨k+1,by omega,by omega,?_⟩
    rw[dh _ k rfl (by omega),hs]
    try rfl
  ·try simp only[bO]at cx
   refine aE (ah (aF X [0,1,5,6,7,32] rfl ?_))
   refine aA rfl ?_ ?_<;>intro dY
   ·try simp only[bO]at dY
    have hs:=ajC a b k cx dY
    refine ny X [0,1,5,6,7] rfl (by and_intros<;>first|exact⟨⟩| (intros;omega)) (bH X [(42,8)] [] [0,1,5,6] [] rfl (by and_intros<;>first|exact⟨⟩|exact rfl|exact(kA _).1|exact(kA _).2| (simp only[gb,maxLen,lens];omega)) (cW X [0,1,5,6] rfl ?_))
    refine⟨k+1,by omega,by omega,?_⟩
    rw[dh _ k rfl (by omega),hs]
    try rfl
   ·try simp only[bO]at dY
    omega
 ·try simp only[bO]at hb0
  exact bp (aF X [4] rfl (az (aj rfl ⟨by rw[aB (by rw[eI];omega)],⟨⟩⟩)))
theorem pJ(l:List (List UInt8))(hs0:fU aQ l≤1048576):So 212 [.a (.sl (.sl .u8) l)] [.a (.sl (.sl .u8) l)]:=by
 refine aC X call212 func212 ntmps212 rfl rfl ?_
 intro zb
 have oO:l.length≤1048576:=gr hs0
 refine aF X [0] rfl (aT X [0,3] rfl (by and_intros<;>first|exact⟨⟩|exact rfl) (ah (aF X [3,7,8,9] rfl ?_)))
 refine aG (aW (fun k=>k≤l.length) (fun k:Nat=> [(9, .one ((aM k)))]) (fun k=> [(6, .arr (.sl .u8) (l.take k))]) (fun k=>l.length-k) 0 (fun k=>rfl) (aD _) rfl ?_)
 intro k hk
 have hle:=cG l k
 refine aF X [3,7,8,9,10] rfl ?_
 refine ah (aA rfl ?_ ?_)<;>intro hb0
 ·try simp only[bO]at hb0
  have hs:=cM l k (aP (.sl .u8)) hb0
  have hel:=YP hs0 k hb0
  refine aE (ah (aG (aT X [3,5,7,8,9] rfl (by and_intros<;>first|exact⟨⟩| (intros;omega)) (bH X [(17,6)] [(15,⟨true,[.a (.sl .u8 _)]⟩)] [3,7,8,9] [] rfl (by(with_reducible and_intros)<;>first|exact⟨⟩|exact(eH _ (by first|assumption|omega| (simp;done)| (simp;omega)))|exact rfl| (simp only[gb,maxLen,lens];omega)) (cW X [3,7,8,9] rfl ?_)))))
  refine⟨k+1,by omega,by omega,?_⟩
  rw[dh _ k rfl (by omega),hs]
  try rfl
 ·try simp only[bO]at hb0
  exact bp (aF X [2] rfl (az (aj rfl ⟨by rw[aB hb0],⟨⟩⟩)))
theorem uC(l:List (List UInt8))(hs0:fU aQ l≤1048576):So 93 [.a (.sl (.sl .u8) l)] [.a (.sl (.sl .u8) l)]:=by
 refine aC X call93 func93 ntmps93 rfl rfl ?_
 intro zb
 have oO:l.length≤1048576:=gr hs0
 refine aF X [0] rfl (aT X [0,3] rfl (by and_intros<;>first|exact⟨⟩|exact rfl) (ah (aF X [0,3,4] rfl ?_)))
 refine aG (aW (fun k=>k≤l.length) (fun k:Nat=> [(4, .one ((aM k)))]) (fun k=> [(5, .arr (.sl .u8) (l.take k))]) (fun k=>l.length-k) 0 (fun k=>rfl) (aD _) rfl ?_)
 intro k hk
 have hle:=cG l k
 refine ah (aF X [0,3,4,9] rfl ?_)
 refine aA rfl ?_ ?_<;>intro hb0
 ·try simp only[bO]at hb0
  have hs:=cM l k (aP (.sl .u8)) hb0
  have hel:=YP hs0 k hb0
  refine aE (ah (aG (bH X [(18,13),(20,5)] [] [0,3,4] [] rfl (by and_intros<;>first|exact⟨⟩| (intros;omega)|exact rfl| (simp only[gb,maxLen,lens];omega)) (cW X [0,3,4] rfl ?_))))
  refine⟨k+1,by omega,by omega,?_⟩
  rw[dh _ k rfl (by omega),hs]
  try rfl
 ·try simp only[bO]at hb0
  exact bp (aF X [2] rfl (az (aj rfl ⟨by rw[aB hb0],⟨⟩⟩)))
theorem Ib(s:Int)(l:List UInt8)(hl:l.length≤1048576):So 184 [aM s, .a (.sl .u8 l)] [.a (.sl .u8 (lM s l))]:=by
 refine aC X call184 func184 ntmps184 rfl rfl ?_
 intro zb
 refine aF X [0,1] rfl (aS X [] [(8,⟨true,[.a (.sl .u8 _)]⟩)] [0,5] [] rfl (by(with_reducible and_intros)<;>first|exact⟨⟩|exact(eH _ (by first|assumption|omega| (simp;done)| (simp;omega)))) (ah (aF X [0,5,10,11] rfl ?_)))
 refine aG (aW (fun k=>k≤l.length) (fun k:Nat=> [(11, .one ((aM k)))]) (fun k=> [(8, .arr .u8 ((lM s l).take k++l.drop k))]) (fun k=>l.length-k) 0 (fun k=>rfl) (aD _) rfl ?_)
 intro k hk
 have hle:=nX (lM s l) l k (gI s l) hk
 refine aF X [0,5,10,11,12] rfl ?_
 refine ah (aA rfl ?_ ?_)<;>intro hb0
 ·try simp only[bO]at hb0
  have hs:=Vx s l k hb0
  refine aE (ah (aG (aF X [0,5,6,10,11] rfl (aX X [] [(21,⟨false,[aM _]⟩)] [0,5,10,11] [] 4095 0 MO (by kernel_rfl) rfl (by kernel_rfl) (by(repeat' with_reducible first|exact bF|refine bJ ?_ ?_|apply aO)<;>first|exact(cZ _ _ (by first|assumption|omega| (simp;done)| (simp;omega)))| (intros;omega)|exact⟨rfl,bM _ (by decide)⟩|exact(kA _).1|exact(kA _).2) ?_))))
  refine cW X [0,5,10,11] rfl ?_
  refine⟨k+1,by omega,by omega,?_⟩
  rw[dh _ k rfl (by omega),hs]
  try rfl
 ·try simp only[bO]at hb0
  exact bp (aF X [4] rfl (az (aj rfl ⟨by rw[rE _ _ _ (gI s l) hb0],⟨⟩⟩)))
theorem Ic(s:Int)(l:List UInt8)(hl:l.length≤1048576):So 256 [aM s, .a (.sl .u8 l)] [.a (.sl .u8 (decr s l))]:=by
 refine aC X call256 func256 ntmps256 rfl rfl ?_
 intro zb
 refine aF X [0,1] rfl (aS X [] [(8,⟨true,[.a (.sl .u8 _)]⟩)] [0,5] [] rfl (by(with_reducible and_intros)<;>first|exact⟨⟩|exact(eH _ (by first|assumption|omega| (simp;done)| (simp;omega)))) (ah (aF X [0,5,10,11] rfl ?_)))
 refine aG (aW (fun k=>k≤l.length) (fun k:Nat=> [(11, .one ((aM k)))]) (fun k=> [(8, .arr .u8 ((decr s l).take k++l.drop k))]) (fun k=>l.length-k) 0 (fun k=>rfl) (aD _) rfl ?_)
 intro k hk
 have hle:=nX (decr s l) l k (qx s l) hk
 refine aF X [0,5,10,11,12] rfl ?_
 refine ah (aA rfl ?_ ?_)<;>intro hb0
 ·try simp only[bO]at hb0
  have hs:=Vz s l k hb0
  refine aE (ah (aG (aF X [0,5,6,10,11] rfl (aX X [] [(21,⟨false,[aM _]⟩)] [0,5,10,11] [] 4095 0 MO (by kernel_rfl) rfl (by kernel_rfl) (by(repeat' with_reducible first|exact bF|refine bJ ?_ ?_|apply aO)<;>first|exact(cZ _ _ (by first|assumption|omega| (simp;done)| (simp;omega)))| (intros;omega)|exact⟨rfl,bM _ (by decide)⟩|exact(kA _).1|exact(kA _).2) ?_))))
  refine cW X [0,5,10,11] rfl ?_
  refine⟨k+1,by omega,by omega,?_⟩
  rw[dh _ k rfl (by omega),hs]
  try rfl
 ·try simp only[bO]at hb0
  exact bp (aF X [4] rfl (az (aj rfl ⟨by rw[rE _ _ _ (qx s l) hb0],⟨⟩⟩)))
theorem lg(k:Int):So 68 [aM k] [bl (iT k)]:=by
 refine aC X call68 func68 ntmps68 rfl rfl ?_
 intro zb
 exact aF X [0] rfl (aS X [] [(4,⟨false,[bl _]⟩)] [2] [] rfl (by(with_reducible and_intros)<;>first|exact⟨⟩|exact(bB _ _ _)) (az (aj rfl ⟨rfl,⟨⟩⟩)))
theorem qU(p:Plain):So 183 [.agg (lY p)] [bl (jY p)]:=by
 refine aC X call183 func183 ntmps183 rfl rfl ?_
 intro zb
 exact aF X [1] rfl (aS X [] [(5,⟨false,[bl _]⟩)] [2] [] rfl (by(with_reducible and_intros)<;>first|exact⟨⟩|exact(bB _ _ _)) (az (aj rfl ⟨by unfold jY;cases inr p.kind 0 3<;>rfl,⟨⟩⟩)))
theorem D3(key c:Int)(l:List UInt8)(hl:l.length≤65536):So 232 [aM key,aM c, .a (.sl .u8 l)] [aM (lN key c l)]:=by
 refine aC X call232 func232 ntmps232 rfl rfl ?_
 intro zb
 refine aF X [0,1,2] rfl (aT X [0,2,7] rfl (by and_intros<;>first|exact⟨⟩|exact rfl) (ah (aF X [0,7,12,13,14] rfl ?_)))
 refine aG (aW (fun k=>k≤l.length) (fun k:Nat=> [(14, .one ((aM k)))]) (fun k=> [(11, .arr .int ([71,c]++(l.take k).map (fun x=>(x.toNat:Int))))]) (fun k=>l.length-k) 0 (fun k=>rfl) (aD _) rfl ?_)
 intro k hk
 refine aF X [0,7,12,13,14,15] rfl ?_
 refine ah (aA rfl ?_ ?_)<;>intro hb0
 ·try simp only[bO]at hb0
  have hs:=S8 l c k hb0
  refine aE (ah (aG (aT X [0,7,9,12,13,14] rfl (by and_intros<;>first|exact⟨⟩| (intros;omega)) (bH X [(22,11)] [] [0,7,12,13,14] [] rfl (by and_intros<;>first|exact⟨⟩|exact rfl| (simp only[gb,maxLen,lens];omega)) (cW X [0,7,12,13,14] rfl ?_)))))
  refine⟨k+1,by omega,by omega,?_⟩
  rw[dh _ k rfl (by omega),hs]
  try rfl
 ·try simp only[bO]at hb0
  exact bp (aS X [] [(26,⟨false,[aM _]⟩)] [6] [] rfl (by(with_reducible and_intros)<;>first|exact⟨⟩|exact(cZ _ _ (by first|assumption|omega| (simp;done)| (simp;omega)))) (az (aj rfl ⟨by rw[aB hb0];rfl,⟨⟩⟩)))
theorem nY(key r d n:Int):So 72 [aM key,aM r,aM d,aM n] [aM (iQ key r d n)]:=by
 refine aC X call72 func72 ntmps72 rfl rfl ?_
 intro zb
 refine aF X [0,1,2,3] rfl (ah (aS X [] [(10,⟨false,[bl _]⟩),(14,⟨false,[bl _]⟩)] [0,1,2,3,16] [] rfl (by(with_reducible and_intros)<;>first|exact⟨⟩|exact(bB _ _ _)|exact fun _=>(bB _ _ _)) ?_))
 refine aA rfl ?_ ?_<;>intro hb0
 ·try simp only[bO]at hb0
  exact aF X [8] rfl (az (aj rfl ⟨by rw[iQ,if_neg (by omega)],⟨⟩⟩))
 ·try simp only[bO]at hb0
  have hcs:=yg (kh key [79,r,d]) 0
  refine aE (aS X [] [(21,⟨false,[aM _]⟩),(22,⟨false,[aM _]⟩)] [8] [] rfl (by(repeat' with_reducible first|exact bF|refine bJ ?_ ?_|apply aO);(iterate 2 all_goals try first|exact(cZ _ _ (by first|assumption|omega| (simp;done)| (simp;omega)))|exact(pG _ _));all_goals first| (intros;omega)|exact⟨rfl,bM _ (by decide)⟩) ?_)
  exact az (aj rfl ⟨by rw[iQ,if_pos (by omega),gx hcs.1],⟨⟩⟩)
theorem FZ(s r n:Int):So 75 [aM s,aM r,aM n] [aM (A3 s r n)]:=by
 refine aC X call75 func75 ntmps75 rfl rfl ?_
 intro zb
 refine aF X [0,1,2] rfl (ah (aS X [] [(8,⟨false,[bl _]⟩)] [0,1,2,9] [] rfl (by(with_reducible and_intros)<;>first|exact⟨⟩|exact(bB _ _ _)) ?_))
 refine aA rfl ?_ ?_<;>intro hb0
 ·try simp only[bO]at hb0
  exact aF X [6] rfl (az (aj rfl ⟨by rw[A3,if_neg (by omega)],⟨⟩⟩))
 ·try simp only[bO]at hb0
  have hcs:=yg (kh s [157,r]) 0
  refine aE (aS X [] [(13,⟨false,[aM _]⟩),(14,⟨false,[aM _]⟩)] [6] [] rfl (by(repeat' with_reducible first|exact bF|refine bJ ?_ ?_|apply aO);(iterate 2 all_goals try first|exact(cZ _ _ (by first|assumption|omega| (simp;done)| (simp;omega)))|exact(pG _ _));all_goals first| (intros;omega)|exact⟨rfl,bM _ (by decide)⟩) ?_)
  exact az (aj rfl ⟨by rw[A3,if_pos (by omega),gx hcs.1],⟨⟩⟩)
theorem D4(s:Int):So 76 [aM s] [.a (.sl .u8 (cover s))]:=by
 refine aC X call76 func76 ntmps76 rfl rfl ?_
 intro zb
 refine aF X [0] rfl (aS X [] [(5,⟨false,[aM _]⟩),(6,⟨true,[.a (.sl .u8 _)]⟩)] [2] [] rfl (by(repeat' with_reducible first|exact bF|refine bJ ?_ ?_|apply aO);(iterate 2 all_goals try first|exact(cZ _ _ (by first|assumption|omega| (simp;done)| (simp;omega)))|exact(m8 _ _ (by first|assumption|omega| (simp;done)| (simp;omega)) (by first|assumption|omega| (simp;done)| (simp;omega))));all_goals first|exact⟨rfl,bM _ (by decide)⟩) ?_)
 exact az (aj rfl ⟨rfl,⟨⟩⟩)
theorem Ie(s:Int)(l:List UInt8)(hl:l.length≤1048576):So 267 [aM s, .a (.sl .u8 l)] [.a (.sl .u8 (lM s l))]:=by
 refine aC X call267 func267 ntmps267 rfl rfl ?_
 intro zb
 refine aF X [0,1] rfl (aT X [0,1,5] rfl (by and_intros<;>first|exact⟨⟩|exact rfl) (ah (aF X [0,1,5,6] rfl ?_)))
 refine aG (aW (fun k=>k≤l.length) (fun k:Nat=> [(6, .one ((aM k)))]) (fun k=> [(7, .arr .u8 ((lM s l).take k))]) (fun k=>l.length-k) 0 (fun k=>rfl) (aD _) rfl ?_)
 intro k hk
 have hle:=cG (lM s l) k
 refine ah (aF X [0,1,5,6,11] rfl ?_)
 refine aA rfl ?_ ?_<;>intro hb0
 ·try simp only[bO]at hb0
  have hs:=Vy s l k hb0
  refine aE (ah (aG (aX X [(29,7)] [(23,⟨false,[aM _]⟩)] [0,1,5,6] [] 32767 0 MO (by kernel_rfl) rfl (by kernel_rfl) (by(repeat' with_reducible first|exact bF|refine bJ ?_ ?_|apply aO)<;>first|exact(cF _ _ (by first|assumption|omega| (simp;done)| (simp;omega)))| (intros;omega)|exact rfl|exact⟨rfl,bM _ (by decide)⟩|exact(kA _).1|exact(kA _).2| (simp only[gb,maxLen,lens];omega)) ?_)))
  refine cW X [0,1,5,6] rfl ?_
  refine⟨k+1,by omega,by omega,?_⟩
  rw[dh _ k rfl (by omega),hs]
  try rfl
 ·try simp only[bO]at hb0
  exact bp (aF X [4] rfl (az (aj rfl ⟨by rw[aB (by rw[gI];exact hb0)],⟨⟩⟩)))
theorem Ig(s:Int)(l:List UInt8)(hl:l.length≤1048576):So 262 [aM s, .a (.sl .u8 l)] [.a (.sl .u8 (decr s l))]:=by
 refine aC X call262 func262 ntmps262 rfl rfl ?_
 intro zb
 refine aF X [0,1] rfl (aT X [0,1,5] rfl (by and_intros<;>first|exact⟨⟩|exact rfl) (ah (aF X [0,1,5,6] rfl ?_)))
 refine aG (aW (fun k=>k≤l.length) (fun k:Nat=> [(6, .one ((aM k)))]) (fun k=> [(7, .arr .u8 ((decr s l).take k))]) (fun k=>l.length-k) 0 (fun k=>rfl) (aD _) rfl ?_)
 intro k hk
 have hle:=cG (decr s l) k
 refine ah (aF X [0,1,5,6,11] rfl ?_)
 refine aA rfl ?_ ?_<;>intro hb0
 ·try simp only[bO]at hb0
  have hs:=VA s l k hb0
  refine aE (ah (aG (aX X [(29,7)] [(23,⟨false,[aM _]⟩),(26,⟨false,[aM _]⟩)] [0,1,5,6] [] 32767 0 MO (by kernel_rfl) rfl (by kernel_rfl) (by(repeat' with_reducible first|exact bF|refine bJ ?_ ?_|apply aO);(iterate 2 all_goals try first|exact(cF _ _ (by first|assumption|omega| (simp;done)| (simp;omega)))|exact(H8 _ _ (by first|assumption|omega| (simp;done)| (simp;omega)) (by first|assumption|omega| (simp;done)| (simp;omega))));all_goals first| (intros;omega)|exact rfl|exact⟨rfl,bM _ (by decide)⟩|exact(kA _).1|exact(kA _).2| (simp only[gb,maxLen,lens];omega)) ?_)))
  refine cW X [0,1,5,6] rfl ?_
  refine⟨k+1,by omega,by omega,?_⟩
  rw[dh _ k rfl (by omega),hs]
  try rfl
 ·try simp only[bO]at hb0
  exact bp (aF X [4] rfl (az (aj rfl ⟨by rw[aB (by rw[qx];exact hb0)],⟨⟩⟩)))
theorem lp(k:Int):So 54 [aM k] [bl (iT k)]:=by
 refine aC X call54 func54 ntmps54 rfl rfl ?_
 intro zb
 exact aF X [0] rfl (aS X [] [(4,⟨false,[bl _]⟩)] [2] [] rfl (by(with_reducible and_intros)<;>first|exact⟨⟩|exact(bY _ _ _)) (az (aj rfl ⟨rfl,⟨⟩⟩)))
theorem Aa(p:Plain):So 266 [.agg (lY p)] [bl (jY p)]:=by
 refine aC X call266 func266 ntmps266 rfl rfl ?_
 intro zb
 exact aF X [1] rfl (aS X [] [(5,⟨false,[bl _]⟩)] [2] [] rfl (by(with_reducible and_intros)<;>first|exact⟨⟩|exact(bY _ _ _)) (az (aj rfl ⟨by unfold jY;cases inr p.kind 0 3<;>rfl,⟨⟩⟩)))
theorem uU(key c:Int)(l:List UInt8)(hl:l.length≤65536):So 261 [aM key,aM c, .a (.sl .u8 l)] [aM (lN key c l)]:=by
 refine aC X call261 func261 ntmps261 rfl rfl ?_
 intro zb
 refine aF X [0,1,2] rfl (aT X [0,2,7] rfl (by and_intros<;>first|exact⟨⟩|exact rfl) (ah (aF X [0,2,7,8] rfl ?_)))
 refine aG (aW (fun k=>k≤l.length) (fun k:Nat=> [(8, .one ((aM k)))]) (fun k=> [(10, .arr .int ([71,c]++(l.take k).map (fun x=>(x.toNat:Int))))]) (fun k=>l.length-k) 0 (fun k=>rfl) (aD _) rfl ?_)
 intro k hk
 refine ah (aF X [0,2,7,8,14] rfl ?_)
 refine aA rfl ?_ ?_<;>intro hb0
 ·try simp only[bO]at hb0
  have hs:=S8 l c k hb0
  refine aE (ah (aG (bH X [(24,10)] [] [0,2,7,8] [] rfl (by and_intros<;>first|exact⟨⟩| (intros;omega)|exact rfl| (simp only[gb,maxLen,lens];omega)) (cW X [0,2,7,8] rfl ?_))))
  refine⟨k+1,by omega,by omega,?_⟩
  rw[dh _ k rfl (by omega),hs]
  try rfl
 ·try simp only[bO]at hb0
  exact bp (aS X [] [(27,⟨false,[aM _]⟩)] [6] [] rfl (by(with_reducible and_intros)<;>first|exact⟨⟩|exact(cF _ _ (by first|assumption|omega| (simp;done)| (simp;omega)))) (az (aj rfl ⟨by rw[aB hb0];rfl,⟨⟩⟩)))
theorem nZ(key r d n:Int):So 197 [aM key,aM r,aM d,aM n] [aM (iQ key r d n)]:=by
 refine aC X call197 func197 ntmps197 rfl rfl ?_
 intro zb
 refine aF X [0,1,2,3] rfl (ah (aS X [] [(10,⟨false,[bl _]⟩),(14,⟨false,[bl _]⟩)] [0,1,2,3,16] [] rfl (by(with_reducible and_intros)<;>first|exact⟨⟩|exact(bY _ _ _)|exact fun _=>(bY _ _ _)) ?_))
 refine aA rfl ?_ ?_<;>intro hb0
 ·try simp only[bO]at hb0
  exact aF X [8] rfl (az (aj rfl ⟨by rw[iQ,if_neg (by omega)],⟨⟩⟩))
 ·try simp only[bO]at hb0
  have hcs:=yg (kh key [79,r,d]) 0
  refine aE (aS X [] [(21,⟨false,[aM _]⟩),(22,⟨false,[aM _]⟩)] [8] [] rfl (by(repeat' with_reducible first|exact bF|refine bJ ?_ ?_|apply aO);(iterate 2 all_goals try first|exact(cF _ _ (by first|assumption|omega| (simp;done)| (simp;omega)))|exact(pH _ _));all_goals first| (intros;omega)|exact⟨rfl,bM _ (by decide)⟩) ?_)
  exact az (aj rfl ⟨by rw[iQ,if_pos (by omega),gx hcs.1],⟨⟩⟩)
theorem F0(s r n:Int):So 234 [aM s,aM r,aM n] [aM (A3 s r n)]:=by
 refine aC X call234 func234 ntmps234 rfl rfl ?_
 intro zb
 refine aF X [0,1,2] rfl (ah (aS X [] [(8,⟨false,[bl _]⟩)] [0,1,2,9] [] rfl (by(with_reducible and_intros)<;>first|exact⟨⟩|exact(bY _ _ _)) ?_))
 refine aA rfl ?_ ?_<;>intro hb0
 ·try simp only[bO]at hb0
  exact aF X [6] rfl (az (aj rfl ⟨by rw[A3,if_neg (by omega)],⟨⟩⟩))
 ·try simp only[bO]at hb0
  have hcs:=yg (kh s [157,r]) 0
  refine aE (aS X [] [(13,⟨false,[aM _]⟩),(14,⟨false,[aM _]⟩)] [6] [] rfl (by(repeat' with_reducible first|exact bF|refine bJ ?_ ?_|apply aO);(iterate 2 all_goals try first|exact(cF _ _ (by first|assumption|omega| (simp;done)| (simp;omega)))|exact(pH _ _));all_goals first| (intros;omega)|exact⟨rfl,bM _ (by decide)⟩) ?_)
  exact az (aj rfl ⟨by rw[A3,if_pos (by omega),gx hcs.1],⟨⟩⟩)
theorem D5(s:Int):So 235 [aM s] [.a (.sl .u8 (cover s))]:=by
 refine aC X call235 func235 ntmps235 rfl rfl ?_
 intro zb
 refine aF X [0] rfl (aS X [] [(5,⟨false,[aM _]⟩),(6,⟨true,[.a (.sl .u8 _)]⟩)] [2] [] rfl (by(repeat' with_reducible first|exact bF|refine bJ ?_ ?_|apply aO);(iterate 2 all_goals try first|exact(cF _ _ (by first|assumption|omega| (simp;done)| (simp;omega)))|exact(ng _ _ (by first|assumption|omega| (simp;done)| (simp;omega)) (by first|assumption|omega| (simp;done)| (simp;omega))));all_goals first|exact⟨rfl,bM _ (by decide)⟩) ?_)
 exact az (aj rfl ⟨rfl,⟨⟩⟩)
theorem yp(k c:Int):So 185 [aM k,aM c] [aM (nJ k c)]:=by
 refine aC X call185 func185 ntmps185 rfl rfl ?_
 intro zb
 refine aF X [0,1] rfl (aS X [] [(8,⟨false,[aM _]⟩),(9,⟨false,[aM _]⟩)] [4] [] rfl (by(repeat' with_reducible first|exact bF|refine bJ ?_ ?_|apply aO);(iterate 2 all_goals try first|exact(cZ _ _ (by first|assumption|omega| (simp;done)| (simp;omega)))|exact(vX _));all_goals first|exact⟨rfl,bM _ (by decide)⟩) ?_)
 exact az (aj rfl ⟨rfl,⟨⟩⟩)
theorem mw(k c:Int):So 124 [aM k,aM c] [aM (mK k c)]:=by
 refine aC X call124 func124 ntmps124 rfl rfl ?_
 intro zb
 refine aF X [0,1] rfl (aS X [] [(8,⟨false,[aM _]⟩),(9,⟨false,[aM _]⟩)] [4] [] rfl (by(repeat' with_reducible first|exact bF|refine bJ ?_ ?_|apply aO);(iterate 2 all_goals try first|exact(cZ _ _ (by first|assumption|omega| (simp;done)| (simp;omega)))|exact(vX _));all_goals first|exact⟨rfl,bM _ (by decide)⟩) ?_)
 exact az (aj rfl ⟨rfl,⟨⟩⟩)
theorem uV(k c:Int):So 263 [aM k,aM c] [aM (nJ k c)]:=by
 refine aC X call263 func263 ntmps263 rfl rfl ?_
 intro zb
 refine aF X [0,1] rfl (aS X [] [(8,⟨false,[aM _]⟩),(9,⟨false,[aM _]⟩)] [4] [] rfl (by(repeat' with_reducible first|exact bF|refine bJ ?_ ?_|apply aO);(iterate 2 all_goals try first|exact(cF _ _ (by first|assumption|omega| (simp;done)| (simp;omega)))|exact(sJ _ _));all_goals first|exact⟨rfl,bM _ (by decide)⟩) ?_)
 exact az (aj rfl ⟨by rw[Gt (gm _ _).1];rfl,⟨⟩⟩)
theorem mz(k c:Int):So 247 [aM k,aM c] [aM (mK k c)]:=by
 refine aC X call247 func247 ntmps247 rfl rfl ?_
 intro zb
 refine aF X [0,1] rfl (aS X [] [(8,⟨false,[aM _]⟩),(9,⟨false,[aM _]⟩)] [4] [] rfl (by(repeat' with_reducible first|exact bF|refine bJ ?_ ?_|apply aO);(iterate 2 all_goals try first|exact(cF _ _ (by first|assumption|omega| (simp;done)| (simp;omega)))|exact(sJ _ _));all_goals first|exact⟨rfl,bM _ (by decide)⟩) ?_)
 exact az (aj rfl ⟨by rw[Gt (gm _ _).1];rfl,⟨⟩⟩)
theorem tS(k c:Int)(l:List UInt8)(hl:l.length≤65536):So 186 [aM k,aM c, .a (.sl .u8 l)] [.a (.sl .u8 (four (lN k c l)))]:=by
 refine aC X call186 func186 ntmps186 rfl rfl ?_
 intro zb
 exact aF X [0,1,2] rfl (aS X [] [(11,⟨false,[aM _]⟩)] [7] [] rfl (by(with_reducible and_intros)<;>first|exact⟨⟩|exact(D3 _ _ _ (by first|assumption|omega| (simp;done)| (simp;omega)))) (aT X [6] rfl (by and_intros<;>first|exact⟨⟩| (intros;omega)|exact rfl|exact(kA _).1|exact(kA _).2) (az (aj rfl ⟨S9 _,⟨⟩⟩))))
end
section
set_option maxRecDepth 100000
theorem qM(l:List (List UInt8))(f:FuncId)(p:(List UInt8)→Bool)(hf: ∀b,So f [.a (.sl .u8 b)] [bl (p b)]):So 182 [.a (.sl (.sl .u8) l), .a (.lit (.func (.func f) #[] #[]))] [aM (fidx p l)]:=by
 refine aC X call182 func182 ntmps182 rfl rfl ?_
 intro zb
 refine eV 0 rfl (fun oO=>(aF X [0,1] rfl (ah (aF X [0,1,7,8] rfl ?_))))
 refine aG (aW (fun k=>k≤l.length∧(l.take k).any p=false) (fun k:Nat=> [(8, .one ((aM k)))]) (fun k=> []) (fun k=>l.length-k) 0 (fun k=>rfl) ⟨aD _,rfl⟩ rfl ?_)
 rintro k ⟨hk,hall⟩
 refine aF X [0,1,7,8,9] rfl ?_
 refine ah (aA rfl ?_ ?_)<;>intro hb0
 ·try simp only[bO]at hb0
  refine aE (ah (aG (aF X [0,1,5,7,8] rfl (aS X [] [(16,⟨false,[bl (p (l.getD k (aP (.sl .u8))))]⟩)] [0,1,5,7,8,16] [] rfl (by(with_reducible and_intros)<;>first|exact⟨⟩|exact(hf _)| (intros;omega)) ?_))))
  refine aA rfl ?_ ?_<;>intro cx
  ·exact aF X [4] rfl (az (aj rfl ⟨by rw[Cl (aP (.sl .u8)) hb0 hall cx],⟨⟩⟩))
  ·refine aE (cW X [0,1,7,8] rfl ?_)
   refine⟨k+1,⟨by omega,A4 (aP (.sl .u8)) hb0 hall cx⟩,by omega,?_⟩
   rw[dh _ k rfl (by omega)]
   try rfl
 ·try simp only[bO]at hb0
  exact bp (aF X [4] rfl (az (aj rfl ⟨by rw[KF (by rw[←hall,aB hb0])],⟨⟩⟩)))
theorem gH(l:List (List UInt8))(f:FuncId)(p:(List UInt8)→Bool)(hf: ∀b,So f [.a (.sl .u8 b)] [bl (p b)]):So 121 [.a (.sl (.sl .u8) l), .a (.lit (.func (.func f) #[] #[]))] [bl (l.any p)]:=by
 refine aC X call121 func121 ntmps121 rfl rfl ?_
 intro zb
 exact aF X [0,1] rfl (aS X [] [(7,⟨false,[aM (fidx p l)]⟩)] [4] [] rfl (by(with_reducible and_intros)<;>first|exact⟨⟩|exact(qM l f p hf)) (az (aj rfl ⟨congrArg dS (Ta p l),⟨⟩⟩)))
theorem sO(l:List Int)(f:FuncId)(p:Int→Bool)(hf: ∀b,So f [aM b] [bl (p b)]):So 265 [.a (.sl .int l), .a (.lit (.func (.func f) #[] #[]))] [aM (fidx p l)]:=by
 refine aC X call265 func265 ntmps265 rfl rfl ?_
 intro zb
 refine eV 0 rfl (fun oO=>(aF X [0,1] rfl (ah (aF X [0,1,7,8] rfl ?_))))
 refine aG (aW (fun k=>k≤l.length∧(l.take k).any p=false) (fun k:Nat=> [(8, .one ((aM k)))]) (fun k=> []) (fun k=>l.length-k) 0 (fun k=>rfl) ⟨aD _,rfl⟩ rfl ?_)
 rintro k ⟨hk,hall⟩
 refine aF X [0,1,7,8,9] rfl ?_
 refine ah (aA rfl ?_ ?_)<;>intro hb0
 ·try simp only[bO]at hb0
  refine aE (ah (aG (aF X [0,1,5,7,8] rfl (aS X [] [(16,⟨false,[bl (p (l.getD k (aP .int)))]⟩)] [0,1,5,7,8,16] [] rfl (by(with_reducible and_intros)<;>first|exact⟨⟩|exact(hf _)| (intros;omega)) ?_))))
  refine aA rfl ?_ ?_<;>intro cx
  ·exact aF X [4] rfl (az (aj rfl ⟨by rw[Cl (aP .int) hb0 hall cx],⟨⟩⟩))
  ·refine aE (cW X [0,1,7,8] rfl ?_)
   refine⟨k+1,⟨by omega,A4 (aP .int) hb0 hall cx⟩,by omega,?_⟩
   rw[dh _ k rfl (by omega)]
   try rfl
 ·try simp only[bO]at hb0
  exact bp (aF X [4] rfl (az (aj rfl ⟨by rw[KF (by rw[←hall,aB hb0])],⟨⟩⟩)))
theorem qz(l:List Int)(f:FuncId)(p:Int→Bool)(hf: ∀b,So f [aM b] [bl (p b)]):So 257 [.a (.sl .int l), .a (.lit (.func (.func f) #[] #[]))] [bl (l.any p)]:=by
 refine aC X call257 func257 ntmps257 rfl rfl ?_
 intro zb
 exact aF X [0,1] rfl (aS X [] [(7,⟨false,[aM (fidx p l)]⟩)] [4] [] rfl (by(with_reducible and_intros)<;>first|exact⟨⟩|exact(sO l f p hf)) (az (aj rfl ⟨congrArg dS (Ta p l),⟨⟩⟩)))
theorem uD(b:List UInt8):So 180 [.a (.sl .u8 b)] [bl (!decide ((b.length:Int)=24))]:=by
 refine aC X call180 func180 ntmps180 rfl rfl ?_
 intro zb
 exact aF X [0] rfl (aF X [2] rfl (az (aj rfl ⟨(congrArg dS (by simp only[bG]<;>first|rfl|ac_rfl)),⟨⟩⟩)))
theorem fN(d:DB):So 117 [.agg (bL d)] [bl (eC d)]:=by
 refine aC X call117 func117 ntmps117 rfl rfl ?_
 intro zb
 exact aF X [1] rfl (aS X [] [(10,⟨false,[bl (d.rows.any fun b=> !decide ((b.length:Int)=24))]⟩)] [2] [] rfl (by(with_reducible and_intros)<;>first|exact⟨⟩|exact fun _=>(gH _ _ _ uD)) (az (aj rfl ⟨by unfold eC;rw[yq];by_cases h:(d.rows.length:Int)≤64<;>simp[h],⟨⟩⟩)))
theorem eX(d:DB):So 96 [.agg (bL d)] [bl (eC d)]:=by
 refine aC X call96 func96 ntmps96 rfl rfl ?_
 intro zb
 refine dn 0 0 rfl rfl (fun oO=>(aF X [1] rfl (ah (aF X [1,3] rfl ?_))))
 refine aG (aW (fun k=>k≤d.rows.length∧(d.rows.take k).all (fun r=>decide ((r.length:Int)=24))=true) (fun k:Nat=> [(3, .one ((aM k)))]) (fun k=> []) (fun k=>d.rows.length-k) 0 (fun k=>rfl) ⟨aD _,rfl⟩ rfl ?_)
 rintro k ⟨hk,hall⟩
 refine ah (aF X [1,3,8] rfl ?_)
 refine aA rfl ?_ ?_<;>intro hb0
 ·try simp only[bO]at hb0
  refine aE (ah (aG (aT X [1,3,17] rfl (by and_intros<;>first|exact⟨⟩| (intros;omega)) ?_)))
  refine aA rfl ?_ ?_<;>intro cx
  ·try simp only[bO]at cx
   exact aF X [2] rfl (az (aj rfl ⟨by unfold eC;rw[Q6 _ _ (aP (.sl .u8)) k hb0 (by simpa using cx)];simp,⟨⟩⟩))
  ·try simp only[bO]at cx
   refine aE (cW X [1,3] rfl ?_)
   refine⟨k+1,⟨by omega,by rw[H6 _ _ _ (aP (.sl .u8)) hb0,hall];simpa using cx⟩,by omega,?_⟩
   rw[dh _ k rfl (by omega)]
   try rfl
 ·try simp only[bO]at hb0
  exact bp (aF X [2] rfl (az (aj rfl ⟨by rw[aB hb0]at hall;unfold eC;rw[hall];simp,⟨⟩⟩)))
theorem pK(a:mE):So 67 [.agg (gu a)] [aM (dK a)]:=by
 refine aC X call67 func67 ntmps67 rfl rfl ?_
 intro zb
 refine dn 0 1 rfl rfl (fun oO=>(aF X [1] rfl (ah (aF X [1,6] rfl ?_))))
 refine aA rfl ?_ ?_<;>intro hb0
 ·try simp only[bO]at hb0
  exact aF X [2] rfl (az (aj rfl ⟨by rw[dK,if_pos (by omega)],⟨⟩⟩))
 ·try simp only[bO]at hb0
  exact aE (aT X [2] rfl (by and_intros<;>first|exact⟨⟩| ((try simp only[bO]at*);(simp(disch:=omega) only[cV]);omega)) (az (aj rfl ⟨by rw[dK,if_neg (by omega),cV (by omega)];congr 4;omega,⟨⟩⟩)))
theorem pL(a:mE):So 53 [.agg (gu a)] [aM (dK a)]:=by
 refine aC X call53 func53 ntmps53 rfl rfl ?_
 intro zb
 refine dn 0 1 rfl rfl (fun oO=>(aF X [1] rfl (ah (aF X [1,6] rfl ?_))))
 refine aA rfl ?_ ?_<;>intro hb0
 ·try simp only[bO]at hb0
  exact aF X [2] rfl (az (aj rfl ⟨by rw[dK,if_pos (by omega)],⟨⟩⟩))
 ·try simp only[bO]at hb0
  exact aE (aT X [2] rfl (by and_intros<;>first|exact⟨⟩| ((try simp only[bO]at*);(simp(disch:=omega) only[cV]);omega)) (az (aj rfl ⟨by rw[dK,if_neg (by omega),cV (by omega)];congr 4;omega,⟨⟩⟩)))
theorem fH(s:bZ):So 69 [.agg (dB s)] [bl (dN s)]:=by
 refine aC X call69 func69 ntmps69 rfl rfl ?_
 intro zb
 refine dn 0 3 rfl rfl (fun oO=>(aF X [1] rfl (ah (aS X [] [(7,⟨false,[bl (inr s.id 0 3)]⟩),(12,⟨false,[bl (inr s.rows 1 64)]⟩),(18,⟨false,[bl (inr s.behavior 0 3)]⟩),(24,⟨false,[bl (inr s.round 0 100000)]⟩)] [1,32] [] rfl (by(with_reducible and_intros);(iterate 4 all_goals try first|exact⟨⟩|exact(bB s.id 0 3)|exact fun _=>(bB s.rows 1 64)|exact fun _=>(bB s.behavior 0 3)|exact fun _=>(bB s.round 0 100000))) ?_))))
 refine aA rfl ?_ ?_<;>intro hb0
 ·exact aF X [2] rfl (az (aj rfl ⟨by rw[show dN s=false from ajD hb0 (by simp only[Az,bG]<;>first|rfl|ac_rfl)],⟨⟩⟩))
 ·have hh:Az s=true:=dF hb0 (by simp only[Az,bG]<;>first|rfl|ac_rfl)
  refine aE (ah (aF X [1,34,35,36] rfl ?_))
  refine aG (aW (fun k=>k≤s.received.length∧(bD k).all (sM s.rows s.received)=true) (fun k:Nat=> [(36, .one ((aM k)))]) (fun k=> []) (fun k=>s.received.length-k) 0 (fun k=>rfl) ⟨aD _,rfl⟩ rfl ?_)
  rintro k ⟨hk,hall⟩
  have hw:(aq.wrap ((k:Int)-1)).toNat=k-1:=by rw[cV (by omega)];omega
  refine aF X [1,34,35,36,37] rfl ?_
  refine ah (aA rfl ?_ ?_)<;>intro cx
  ·try simp only[bO]at cx
   refine aE (ah (aG (aT X [1,3,4,34,35,36] rfl (by and_intros<;>first|exact⟨⟩| (intros;omega)) (ah (aX X [] [(43,⟨false,[bl (inr ((s.received.getD k (aP .bE)).client) 0 7)]⟩),(64,⟨false,[bl (eC ((s.received.getD k (aP .bE)).share))]⟩)] [1,34,35,36,75] [] 34359738367 0 MO (by kernel_rfl) rfl (by kernel_rfl) (by(with_reducible and_intros);(iterate 2 all_goals try first|exact⟨⟩|exact(bB ((s.received.getD k (aP .bE)).client) 0 7)|exact fun _=>(fN ((s.received.getD k (aP .bE)).share)));all_goals first| ((intro h1;first| (intro h2;first| (intro h3;refine aO ?_ ?_)|refine aO ?_ ?_)|refine aO ?_ ?_)<;>first|omega| ((try simp only[bO]at*);(try simp(disch:=omega) only[cV]);omega))) ?_)))))
   refine aA rfl ?_ ?_<;>intro dY
   ·have hk2:sM s.rows s.received k=false:=dG dY (by simp only[hw,sM,bG]<;>first|rfl|ac_rfl)
    exact aF X [2] rfl (az (aj rfl ⟨by rw[show dN s=false by unfold dN;rw[qy cx hk2];simp],⟨⟩⟩))
   ·have hk2:sM s.rows s.received k=true:=dF dY (by simp only[hw,sM,bG]<;>first|rfl|ac_rfl)
    refine aE (cW X [1,34,35,36] rfl ?_)
    refine⟨k+1,⟨by omega,nC hall hk2⟩,by omega,?_⟩
    rw[dh _ k rfl (by omega)]
    try rfl
  ·try simp only[bO]at cx
   have uW:(bD s.received.length).all (sM s.rows s.received)=true:=by rw[show s.received.length=k by omega];exact hall
   exact bp (aF X [2] rfl (az (aj rfl ⟨by rw[show dN s=true by unfold dN;rw[hh,uW];rfl],⟨⟩⟩)))
theorem oT(a:mE):So 66 [.agg (gu a)] [bl (iU a)]:=by
 refine aC X call66 func66 ntmps66 rfl rfl ?_
 intro zb
 refine dn 0 1 rfl rfl (fun oO=>(aF X [1] rfl (ah (aF X [1,6,7,8] rfl ?_))))
 refine aG (aW (fun k=>k≤a.rounds.length∧(bD k).all (vZ a.rows a.rounds)=true) (fun k:Nat=> [(8, .one ((aM k)))]) (fun k=> []) (fun k=>a.rounds.length-k) 0 (fun k=>rfl) ⟨aD _,rfl⟩ rfl ?_)
 rintro k ⟨hk,hall⟩
 have hw:(aq.wrap ((k:Int)-1)).toNat=k-1:=by rw[cV (by omega)];omega
 refine aF X [1,6,7,8,9] rfl ?_
 refine ah (aA rfl ?_ ?_)<;>intro hb0
 ·try simp only[bO]at hb0
  refine aE (ah (aG (aT X [1,3,4,6,7,8] rfl (by and_intros<;>first|exact⟨⟩| (intros;omega)) (ah ?_))))
  have t1:=(bB ((a.rounds.getD k (aP .bz)).round) 0 100000)
  refine aX X [] [(15,⟨false,dH t1⟩),(36,⟨false,[bl (eC ((a.rounds.getD k (aP .bz)).db))]⟩)] [1,6,7,8,47] [] 34359738367 0 MO (by kernel_rfl) rfl (by kernel_rfl) (by(with_reducible and_intros);(iterate 2 all_goals try first|exact⟨⟩|exact t1|exact fun _=>(fN ((a.rounds.getD k (aP .bz)).db)));all_goals first| ((intro h1;first| (intro h2;first| (intro h3;refine aO ?_ ?_)|refine aO ?_ ?_)|refine aO ?_ ?_)<;>first|omega| ((try simp only[bO]at*);(try simp(disch:=omega) only[cV]);omega))) ?_
  refine aA rfl ?_ ?_<;>intro cx
  ·have hk2:vZ a.rows a.rounds k=false:=dG cx (by simp only[hw,vZ,bG]<;>first|rfl|ac_rfl)
   exact aF X [2] rfl (az (aj rfl ⟨by rw[show iU a=false by unfold iU;rw[qy hb0 hk2];simp],⟨⟩⟩))
  ·have hk2:vZ a.rows a.rounds k=true:=dF cx (by simp only[hw,vZ,bG]<;>first|rfl|ac_rfl)
   refine aE (cW X [1,6,7,8] rfl ?_)
   refine⟨k+1,⟨by omega,nC hall hk2⟩,by omega,?_⟩
   rw[dh _ k rfl (by omega)]
   try rfl
 ·try simp only[bO]at hb0
  have uW:(bD a.rounds.length).all (vZ a.rows a.rounds)=true:=by rw[show a.rounds.length=k by omega];exact hall
  exact bp (aS X [] [(51,⟨false,[bl (inr a.rows 1 64)]⟩)] [2] [] rfl (by(with_reducible and_intros)<;>first|exact⟨⟩|exact(bB a.rows 1 64)) (az (aj rfl ⟨(congrArg dS (by simp only[iU,Ih,uW,bG]<;>first|rfl|ac_rfl)),⟨⟩⟩)))
theorem fI(s:bZ):So 95 [.agg (dB s)] [bl (dN s)]:=by
 refine aC X call95 func95 ntmps95 rfl rfl ?_
 intro zb
 refine dn 0 3 rfl rfl (fun oO=>(aF X [1] rfl (ah (aF X [1,3] rfl ?_))))
 refine aG (aW (fun k=>k≤s.received.length∧(bD k).all (sM s.rows s.received)=true) (fun k:Nat=> [(3, .one ((aM k)))]) (fun k=> []) (fun k=>s.received.length-k) 0 (fun k=>rfl) ⟨aD _,rfl⟩ rfl ?_)
 rintro k ⟨hk,hall⟩
 have hw:(aq.wrap ((k:Int)-1)).toNat=k-1:=by rw[cV (by omega)];omega
 refine ah (aF X [1,3,9] rfl ?_)
 refine aA rfl ?_ ?_<;>intro hb0
 ·try simp only[bO]at hb0
  refine aE (ah (aG (aT X [1,3,4] rfl (by and_intros<;>first|exact⟨⟩| (intros;omega)) (ah (aX X [] [(19,⟨false,[bl (inr ((s.received.getD k (aP .bE)).client) 0 7)]⟩),(40,⟨false,[bl (eC ((s.received.getD k (aP .bE)).share))]⟩)] [1,3,51] [] 34359738367 0 MO (by kernel_rfl) rfl (by kernel_rfl) (by(with_reducible and_intros);(iterate 2 all_goals try first|exact⟨⟩|exact(bY ((s.received.getD k (aP .bE)).client) 0 7)|exact fun _=>(eX ((s.received.getD k (aP .bE)).share)));all_goals first| ((intro h1;first| (intro h2;first| (intro h3;refine aO ?_ ?_)|refine aO ?_ ?_)|refine aO ?_ ?_)<;>first|omega| ((try simp only[bO]at*);(try simp(disch:=omega) only[cV]);omega))) ?_)))))
  refine aA rfl ?_ ?_<;>intro cx
  ·have hk2:sM s.rows s.received k=false:=dG cx (by simp only[hw,sM,bG]<;>first|rfl|ac_rfl)
   exact aF X [2] rfl (az (aj rfl ⟨by rw[show dN s=false by unfold dN;rw[qy hb0 hk2];simp],⟨⟩⟩))
  ·have hk2:sM s.rows s.received k=true:=dF cx (by simp only[hw,sM,bG]<;>first|rfl|ac_rfl)
   refine aE (cW X [1,3] rfl ?_)
   refine⟨k+1,⟨by omega,nC hall hk2⟩,by omega,?_⟩
   rw[dh _ k rfl (by omega)]
   try rfl
 ·try simp only[bO]at hb0
  have uW:(bD s.received.length).all (sM s.rows s.received)=true:=by rw[show s.received.length=k by omega];exact hall
  exact bp (aS X [] [(54,⟨false,[bl (inr s.id 0 3)]⟩),(58,⟨false,[bl (inr s.rows 1 64)]⟩),(63,⟨false,[bl (inr s.behavior 0 3)]⟩),(68,⟨false,[bl (inr s.round 0 100000)]⟩)] [2] [] rfl (by(with_reducible and_intros);(iterate 4 all_goals try first|exact⟨⟩|exact(bY s.id 0 3)|exact fun _=>(bY s.rows 1 64)|exact fun _=>(bY s.behavior 0 3)|exact fun _=>(bY s.round 0 100000))) (az (aj rfl ⟨(congrArg dS (by simp only[dN,Az,uW,bG]<;>first|rfl|ac_rfl)),⟨⟩⟩)))
theorem oU(a:mE):So 52 [.agg (gu a)] [bl (iU a)]:=by
 refine aC X call52 func52 ntmps52 rfl rfl ?_
 intro zb
 refine dn 0 1 rfl rfl (fun oO=>(aF X [1] rfl (ah (aF X [1,3] rfl ?_))))
 refine aG (aW (fun k=>k≤a.rounds.length∧(bD k).all (vZ a.rows a.rounds)=true) (fun k:Nat=> [(3, .one ((aM k)))]) (fun k=> []) (fun k=>a.rounds.length-k) 0 (fun k=>rfl) ⟨aD _,rfl⟩ rfl ?_)
 rintro k ⟨hk,hall⟩
 have hw:(aq.wrap ((k:Int)-1)).toNat=k-1:=by rw[cV (by omega)];omega
 refine ah (aF X [1,3,9] rfl ?_)
 refine aA rfl ?_ ?_<;>intro hb0
 ·try simp only[bO]at hb0
  refine aE (ah (aG (aT X [1,3,4] rfl (by and_intros<;>first|exact⟨⟩| (intros;omega)) (ah ?_))))
  have t1:=(bY ((a.rounds.getD k (aP .bz)).round) 0 100000)
  refine aX X [] [(19,⟨false,dH t1⟩),(40,⟨false,[bl (eC ((a.rounds.getD k (aP .bz)).db))]⟩)] [1,3,51] [] 34359738367 0 MO (by kernel_rfl) rfl (by kernel_rfl) (by(with_reducible and_intros);(iterate 2 all_goals try first|exact⟨⟩|exact t1|exact fun _=>(eX ((a.rounds.getD k (aP .bz)).db)));all_goals first| ((intro h1;first| (intro h2;first| (intro h3;refine aO ?_ ?_)|refine aO ?_ ?_)|refine aO ?_ ?_)<;>first|omega| ((try simp only[bO]at*);(try simp(disch:=omega) only[cV]);omega))) ?_
  refine aA rfl ?_ ?_<;>intro cx
  ·have hk2:vZ a.rows a.rounds k=false:=dG cx (by simp only[hw,vZ,bG]<;>first|rfl|ac_rfl)
   exact aF X [2] rfl (az (aj rfl ⟨by rw[show iU a=false by unfold iU;rw[qy hb0 hk2];simp],⟨⟩⟩))
  ·have hk2:vZ a.rows a.rounds k=true:=dF cx (by simp only[hw,vZ,bG]<;>first|rfl|ac_rfl)
   refine aE (cW X [1,3] rfl ?_)
   refine⟨k+1,⟨by omega,nC hall hk2⟩,by omega,?_⟩
   rw[dh _ k rfl (by omega)]
   try rfl
 ·try simp only[bO]at hb0
  have uW:(bD a.rounds.length).all (vZ a.rows a.rounds)=true:=by rw[show a.rounds.length=k by omega];exact hall
  exact bp (aS X [] [(54,⟨false,[bl (inr a.rows 1 64)]⟩)] [2] [] rfl (by(with_reducible and_intros)<;>first|exact⟨⟩|exact(bY a.rows 1 64)) (az (aj rfl ⟨(congrArg dS (by simp only[iU,Ih,uW,bG]<;>first|rfl|ac_rfl)),⟨⟩⟩)))
theorem Fq(a:List UInt8):(sk a).toList=a:=by
 rw[ByteArray.toList_eq];rfl
theorem n8(a b:List UInt8):So 152 [.a (.sl .u8 a), .a (.sl .u8 b)] [bl (a==b)]:=by
 refine aC X call152 func152 ntmps152 rfl rfl ?_
 intro zb
 exact aF X [0,1] rfl (aF X [4] rfl (az (aj rfl ⟨by rw[Fq,Fq],⟨⟩⟩)))
theorem mL(a b:List UInt8):So 227 [.a (.sl .u8 a), .a (.sl .u8 b)] [bl (a==b)]:=by
 refine aC X call227 func227 ntmps227 rfl rfl ?_
 intro zb
 refine eV 0 rfl (fun hl1=> ?_)
 refine eV 1 rfl (fun ru=>(aF X [0,1] rfl (ah (aF X [0,1,10] rfl ?_))))
 refine aA rfl ?_ ?_<;>intro hb0
 ·try simp only[bO]at hb0
  exact aF X [4] rfl (az (aj rfl ⟨by rw[DZ a b hb0],⟨⟩⟩))
 ·try simp only[bO]at hb0
  refine aE (ah (aF X [0,1,12,13] rfl ?_))
  refine aG (aW (fun k=>k≤a.length∧a.take k=b.take k) (fun k:Nat=> [(13, .one ((aM k)))]) (fun k=> []) (fun k=>a.length-k) 0 (fun k=>rfl) ⟨aD _,rfl⟩ rfl ?_)
  rintro k ⟨hk,hall⟩
  refine aF X [0,1,12,13,14] rfl ?_
  refine ah (aA rfl ?_ ?_)<;>intro cx
  ·try simp only[bO]at cx
   refine aE (ah (aG (aF X [0,1,5,12,13] rfl (ah (aX X [] [] [0,1,12,13,24] [] 511 0 MO (by kernel_rfl) rfl (by kernel_rfl) (by and_intros<;>first|exact⟨⟩| (intros;omega)) ?_)))))
   refine aA rfl ?_ ?_<;>intro dY
   ·try simp only[bO]at dY
    have hne:=AW a b (aP .u8) k (fun h=>dY (by rw[h]))
    exact aF X [4] rfl (az (aj rfl ⟨by rw[hne],⟨⟩⟩))
   ·try simp only[bO]at dY
    have he:a.getD k (aP .u8)=b.getD k (aP .u8):=YG dY
    refine aE (cW X [0,1,12,13] rfl ?_)
    refine⟨k+1,⟨by omega,rD a b (aP .u8) k cx (by omega) hall he⟩,by omega,?_⟩
    rw[dh _ k rfl (by omega)]
    try rfl
  ·try simp only[bO]at cx
   exact bp (aF X [4] rfl (az (aj rfl ⟨by rw[vV a b k (by omega) (by omega) hall],⟨⟩⟩)))
theorem n9(a b:List (List UInt8)):So 98 [.a (.sl (.sl .u8) a), .a (.sl (.sl .u8) b)] [bl (a==b)]:=by
 refine aC X call98 func98 ntmps98 rfl rfl ?_
 intro zb
 refine eV 0 rfl (fun hl1=> ?_)
 refine eV 1 rfl (fun ru=>(aF X [0,1] rfl (ah (aF X [0,1,10] rfl ?_))))
 refine aA rfl ?_ ?_<;>intro hb0
 ·try simp only[bO]at hb0
  exact aF X [4] rfl (az (aj rfl ⟨by rw[DZ a b hb0],⟨⟩⟩))
 ·try simp only[bO]at hb0
  refine aE (ah (aF X [0,1,5] rfl ?_))
  refine aG (aW (fun k=>k≤a.length∧a.take k=b.take k) (fun k:Nat=> [(5, .one ((aM k)))]) (fun k=> []) (fun k=>a.length-k) 0 (fun k=>rfl) ⟨aD _,rfl⟩ rfl ?_)
  rintro k ⟨hk,hall⟩
  refine ah (aF X [0,1,5,14] rfl ?_)
  refine aA rfl ?_ ?_<;>intro cx
  ·try simp only[bO]at cx
   refine aE (ah (aG (ah (aX X [] [(25,⟨false,[bl _]⟩)] [0,1,5,26] [] 1023 0 MO (by kernel_rfl) rfl (by kernel_rfl) (by(with_reducible and_intros)<;>first|exact⟨⟩|exact(n8 _ _)| (intros;omega)) ?_))))
   refine aA rfl ?_ ?_<;>intro dY
   ·try simp only[bO]at dY
    have hne:=AW a b (aP (.sl .u8)) k (fun h=>dY (by rw[h]))
    exact aF X [4] rfl (az (aj rfl ⟨by rw[hne],⟨⟩⟩))
   ·try simp only[bO]at dY
    have he:a.getD k (aP (.sl .u8))=b.getD k (aP (.sl .u8)):=dY
    refine aE (cW X [0,1,5] rfl ?_)
    refine⟨k+1,⟨by omega,rD a b (aP (.sl .u8)) k cx (by omega) hall he⟩,by omega,?_⟩
    rw[dh _ k rfl (by omega)]
    try rfl
  ·try simp only[bO]at cx
   exact bp (aF X [4] rfl (az (aj rfl ⟨by rw[vV a b k (by omega) (by omega) hall],⟨⟩⟩)))
theorem oc(a b:List UInt8):So 173 [.a (.sl .u8 a), .a (.sl .u8 b)] [bl (a==b)]:=by
 refine aC X call173 func173 ntmps173 rfl rfl ?_
 intro zb
 exact aF X [0,1] rfl (aS X [] [(7,⟨false,[bl _]⟩)] [4] [] rfl (by(with_reducible and_intros)<;>first|exact⟨⟩|exact(mL _ _)) (az (aj rfl ⟨rfl,⟨⟩⟩)))
theorem lO(a b:List (List UInt8)):So 230 [.a (.sl (.sl .u8) a), .a (.sl (.sl .u8) b), .a (.lit (.func (.func 173) #[] #[]))] [bl (a==b)]:=by
 refine aC X call230 func230 ntmps230 rfl rfl ?_
 intro zb
 refine eV 0 rfl (fun hl1=> ?_)
 refine eV 1 rfl (fun ru=>(aF X [0,1,2] rfl (ah (aF X [0,1,2,14] rfl ?_))))
 refine aA rfl ?_ ?_<;>intro hb0
 ·try simp only[bO]at hb0
  exact aF X [6] rfl (az (aj rfl ⟨by rw[DZ a b hb0],⟨⟩⟩))
 ·try simp only[bO]at hb0
  refine aE (ah (aF X [1,2,15,16,17] rfl ?_))
  refine aG (aW (fun k=>k≤a.length∧a.take k=b.take k) (fun k:Nat=> [(17, .one ((aM k)))]) (fun k=> []) (fun k=>a.length-k) 0 (fun k=>rfl) ⟨aD _,rfl⟩ rfl ?_)
  rintro k ⟨hk,hall⟩
  refine aF X [1,2,15,16,17,18] rfl ?_
  refine ah (aA rfl ?_ ?_)<;>intro cx
  ·try simp only[bO]at cx
   refine aE (ah (aG (aT X [1,2,7,8,15,16,17] rfl (by and_intros<;>first|exact⟨⟩| (intros;omega)) (aT X [1,2,8,9,15,16,17] rfl (by and_intros<;>first|exact⟨⟩| (intros;omega)) (aS X [] [(29,⟨false,[bl (a.getD k (aP (.sl .u8))==b.getD k (aP (.sl .u8)))]⟩)] [1,2,15,16,17,30] [] rfl (by(with_reducible and_intros)<;>first|exact⟨⟩|exact(oc _ _)) ?_)))))
   refine aA rfl ?_ ?_<;>intro dY
   ·try simp only[bO]at dY
    have hne:=AW a b (aP (.sl .u8)) k (fun h=>dY (by rw[h]))
    exact aF X [6] rfl (az (aj rfl ⟨by rw[hne],⟨⟩⟩))
   ·try simp only[bO]at dY
    have he:a.getD k (aP (.sl .u8))=b.getD k (aP (.sl .u8)):=dY
    refine aE (cW X [1,2,15,16,17] rfl ?_)
    refine⟨k+1,⟨by omega,rD a b (aP (.sl .u8)) k cx (by omega) hall he⟩,by omega,?_⟩
    rw[dh _ k rfl (by omega)]
    try rfl
  ·try simp only[bO]at cx
   exact bp (aF X [6] rfl (az (aj rfl ⟨by rw[vV a b k (by omega) (by omega) hall],⟨⟩⟩)))
theorem og(a b:List (List UInt8)):So 181 [.a (.sl (.sl .u8) a), .a (.sl (.sl .u8) b)] [bl (a==b)]:=by
 refine aC X call181 func181 ntmps181 rfl rfl ?_
 intro zb
 exact aF X [0,1] rfl (aS X [] [(7,⟨false,[bl _]⟩)] [4] [] rfl (by(with_reducible and_intros)<;>first|exact⟨⟩|exact(lO _ _)) (az (aj rfl ⟨rfl,⟨⟩⟩)))
theorem v7(b:List UInt8):So 120 [.a (.sl .u8 b)] [bl (long b)]:=by
 refine aC X call120 func120 ntmps120 rfl rfl ?_
 intro zb
 exact aF X [0] rfl (aF X [2] rfl (az (aj rfl ⟨rfl,⟨⟩⟩)))
theorem ia(n:Int):So 65 [aM n] [bl (eA n)]:=by
 refine aC X call65 func65 ntmps65 rfl rfl ?_
 intro zb
 exact aF X [0] rfl (aS X [] [(4,⟨false,[bl _]⟩)] [2] [] rfl (by(with_reducible and_intros)<;>first|exact⟨⟩|exact(bB _ _ _)) (az (aj rfl ⟨rfl,⟨⟩⟩)))
theorem ke(n:Int):So 22 [aM n] [bl (eA n)]:=by
 refine aC X call22 func22 ntmps22 rfl rfl ?_
 intro zb
 exact aF X [0] rfl (aS X [] [(4,⟨false,[bl _]⟩)] [2] [] rfl (by(with_reducible and_intros)<;>first|exact⟨⟩|exact(bY _ _ _)) (az (aj rfl ⟨rfl,⟨⟩⟩)))
theorem jM(c:gQ):So 71 [.agg (dw c)] [bl (fP c)]:=by
 refine aC X call71 func71 ntmps71 rfl rfl ?_
 intro zb
 exact aF X [1] rfl (aF X [1,3] rfl (aS X [] [(6,⟨false,[bl (inr c.id 0 7)]⟩),(10,⟨false,[bl (inr c.gE 0 7)]⟩),(22,⟨false,[bl (iT c.key)]⟩),(40,⟨false,[bl (c.bu.any long)]⟩),(47,⟨false,[bl (c.inbox.any long)]⟩),(56,⟨false,[bl (inr c.sent 0 (c.bu.length:Int))]⟩),(61,⟨false,[bl (inr c.next 0 100000)]⟩)] [2] [] rfl (by(with_reducible and_intros);(iterate 7 all_goals try first|exact⟨⟩|exact(bB c.id 0 7)|exact fun _=>(bB c.gE 0 7)|exact fun _=>(lg c.key)|exact fun _=>(gH _ _ _ v7)|exact fun _=>(bB c.sent 0 (c.bu.length:Int))|exact fun _=>(bB c.next 0 100000))) (az (aj rfl ⟨(congrArg dS (by simp only[fP,bG]<;>first|rfl|ac_rfl)),⟨⟩⟩))))
theorem Cm(i f k:Int):So 46 [aM i,aM f,aM k] [bl (inr i 0 7&&inr f 0 7&& !(i==f)&&iT k)]:=by
 refine aC X call46 func46 ntmps46 rfl rfl ?_
 intro zb
 exact aF X [0,1,2] rfl (aS X [] [(8,⟨false,[bl (inr i 0 7)]⟩),(11,⟨false,[bl (inr f 0 7)]⟩),(20,⟨false,[bl (iT k)]⟩)] [6] [] rfl (by(with_reducible and_intros);(iterate 3 all_goals try first|exact⟨⟩|exact(bY i 0 7)|exact fun _=>(bY f 0 7)|exact fun _=>(lp k))) (az (aj rfl ⟨(congrArg dS (by simp only[bG]<;>first|rfl|ac_rfl)),⟨⟩⟩)))
theorem uX(l:List (List UInt8)):So 151 [.a (.sl (.sl .u8) l)] [bl (decide ((l.length:Int)≤16)&& !l.any long)]:=by
 refine aC X call151 func151 ntmps151 rfl rfl ?_
 intro zb
 refine eV 0 rfl (fun oO=>(aF X [0] rfl (ah (aF X [0,3] rfl ?_))))
 refine aG (aW (fun k=>k≤l.length∧(l.take k).any long=false) (fun k:Nat=> [(3, .one ((aM k)))]) (fun k=> []) (fun k=>l.length-k) 0 (fun k=>rfl) ⟨aD _,rfl⟩ rfl ?_)
 rintro k ⟨hk,hall⟩
 refine ah (aF X [0,3,7] rfl ?_)
 refine aA rfl ?_ ?_<;>intro hb0
 ·try simp only[bO]at hb0
  refine aE (ah (aG (aT X [0,3,15] rfl (by and_intros<;>first|exact⟨⟩| (intros;omega)) ?_)))
  refine aA rfl ?_ ?_<;>intro cx
  ·exact aF X [2] rfl (az (aj rfl ⟨by rw[Gu l long (aP (.sl .u8)) k hb0 cx];simp,⟨⟩⟩))
  ·refine aE (cW X [0,3] rfl ?_)
   refine⟨k+1,⟨by omega,A4 (aP (.sl .u8)) hb0 hall cx⟩,by omega,?_⟩
   rw[dh _ k rfl (by omega)]
   try rfl
 ·try simp only[bO]at hb0
  have uW:l.any long=false:=by rw[←hall,aB hb0]
  exact bp (aF X [2] rfl (az (aj rfl ⟨by rw[uW];simp,⟨⟩⟩)))
theorem gq(c:gQ):So 97 [.agg (dw c)] [bl (fP c)]:=by
 refine aC X call97 func97 ntmps97 rfl rfl ?_
 intro zb
 refine aF X [1] rfl (ah ?_)
 have t1:=(Cm c.id c.gE c.key)
 have t2:=(uX c.bu)
 have t3:=(uX c.inbox)
 exact bH X [] [(9,⟨false,dH t1⟩),(13,⟨false,dH t2⟩),(18,⟨false,dH t3⟩),(26,⟨false,[bl (inr c.sent 0 (c.bu.length:Int))]⟩),(31,⟨false,[bl (inr c.next 0 100000)]⟩)] [2] [] rfl (by(with_reducible and_intros);(iterate 5 all_goals try first|exact⟨⟩|exact t1|exact fun _=>t2|exact fun _=>t3|exact fun _=>(bY c.sent 0 (c.bu.length:Int))|exact fun _=>(bY c.next 0 100000))) (az (aj rfl ⟨(congrArg dS (by simp only[fP,bG]<;>first|rfl|ac_rfl)),⟨⟩⟩))
theorem D7(a b:gQ):So 118 [.agg (dw a), .agg (dw b)] [bl (n7 a b)]:=by
 refine aC X call118 func118 ntmps118 rfl rfl ?_
 intro zb
 exact aF X [2,3] rfl (aS X [] [(36,⟨false,[bl (a.bu==b.bu)]⟩)] [4] [] rfl (by(with_reducible and_intros)<;>first|exact⟨⟩|exact fun _=>(og a.bu b.bu)) (az (aj rfl ⟨(congrArg dS (by simp only[n7,bG]<;>first|rfl|ac_rfl)),⟨⟩⟩)))
theorem F1(a b:List (List UInt8)):So 119 [.a (.sl (.sl .u8) a), .a (.sl (.sl .u8) b)] [bl (D6 a b)]:=by
 refine aC X call119 func119 ntmps119 rfl rfl ?_
 intro zb
 refine aF X [0,1] rfl (ah ?_)
 have t1:=(og a ((b.take (a.length:Int).toNat).drop (0:Int).toNat))
 refine bH X [] [(16,⟨false,dH t1⟩)] [4] [] rfl (by(with_reducible and_intros)<;>first|exact⟨⟩|exact fun _=>t1| ((intro h1;first| (intro h2;first| (intro h3;refine aO ?_ ?_)|refine aO ?_ ?_)|refine aO ?_ ?_)<;>first|omega| ((try simp only[bO]at*);(try simp(disch:=omega) only[cV]);omega))) ?_
 exact az (aj rfl ⟨(congrArg dS (by simp only[D6,eS,JT,bG]<;>first|rfl|ac_rfl)),⟨⟩⟩)
theorem jN(d:cz):So 70 [.agg (ew d)] [bl (fX d)]:=by
 refine aC X call70 func70 ntmps70 rfl rfl ?_
 intro zb
 exact aF X [1] rfl (aS X [] [(5,⟨false,[bl (fP d.live)]⟩),(9,⟨false,[bl (fP d.saved)]⟩),(16,⟨false,[bl (n7 d.live d.saved)]⟩),(43,⟨false,[bl (D6 d.saved.inbox d.live.inbox)]⟩)] [2] [] rfl (by(with_reducible and_intros);(iterate 4 all_goals try first|exact⟨⟩|exact(jM d.live)|exact fun _=>(jM d.saved)|exact fun _=>(D7 d.live d.saved)|exact fun _=>(F1 d.saved.inbox d.live.inbox))) (az (aj rfl ⟨(congrArg dS (by simp only[fX,bG]<;>first|rfl|ac_rfl)),⟨⟩⟩)))
theorem ig(d:cz):So 56 [.agg (ew d)] [bl (fX d)]:=by
 refine aC X call56 func56 ntmps56 rfl rfl ?_
 intro zb
 refine aF X [1] rfl (aF X [1,3] rfl (aF X [3,4] rfl (ah (aS X [] [(10,⟨false,[bl (fP d.live)]⟩),(14,⟨false,[bl (fP d.saved)]⟩),(50,⟨false,[bl (d.live.bu==d.saved.bu)]⟩)] [3,4,52] [] rfl (by(with_reducible and_intros);(iterate 3 all_goals try first|exact⟨⟩|exact(gq d.live)|exact fun _=>(gq d.saved)|exact fun _=>(n9 d.live.bu d.saved.bu))) ?_))))
 refine aA rfl ?_ ?_<;>intro hb0
 ·exact aF X [2] rfl (az (aj rfl ⟨by rw[show fX d=false from by rw[fX,dG (R:=fP d.live&&fP d.saved&&n7 d.live d.saved) hb0 (by simp only[n7,bG]<;>first|rfl|ac_rfl)];rfl],⟨⟩⟩))
 ·have hh:(fP d.live&&fP d.saved&&n7 d.live d.saved)=true:=dF hb0 (by simp only[n7,bG]<;>first|rfl|ac_rfl)
  refine aE (ah ?_)
  have t1:=(n9 d.saved.inbox ((d.live.inbox.take (d.saved.inbox.length:Int).toNat).drop (0:Int).toNat))
  refine aX X [] [(83,⟨false,dH t1⟩)] [2] [] 8589934591 0 MO (by kernel_rfl) rfl (by kernel_rfl) (by(with_reducible and_intros)<;>first|exact⟨⟩|exact fun _=>t1| ((intro h1;first| (intro h2;first| (intro h3;refine aO ?_ ?_)|refine aO ?_ ?_)|refine aO ?_ ?_)<;>first|omega| ((try simp only[bO]at*);(try simp(disch:=omega) only[cV]);omega))) ?_
  exact az (aj rfl ⟨(congrArg dS (by simp only[fX,hh,D6,eS,JT,bG]<;>first|rfl|ac_rfl)),⟨⟩⟩)
end
section
set_option maxRecDepth 100000
theorem fj(x:ck):So 35 [.agg (b7 x)] [bl (okW x)]:=by
 refine aC X call35 func35 ntmps35 rfl rfl ?_
 intro zb
 refine dn 0 1 rfl rfl (fun hl1=> ?_)
 refine dn 0 2 rfl rfl (fun ru=>(aF X [1] rfl (ah (ah (aX X [] [(10,⟨false,[bl (inr x.rows 1 64)]⟩),(16,⟨false,[bl (eA (x.av.length:Int))]⟩),(23,⟨false,[bl (inr (x.af.length:Int) 2 8)]⟩),(36,⟨false,[bl (iU x.aJ)]⟩),(50,⟨false,[aM (dK x.aJ)]⟩),(58,⟨false,[bl (iT x.bS)]⟩),(64,⟨false,[bl (inr x.round 0 100000)]⟩)] [1,71] [] 18446744073709551615 0 MO (by kernel_rfl) rfl (by kernel_rfl) (by(with_reducible and_intros);(iterate 7 all_goals try first|exact⟨⟩|exact(bB x.rows 1 64)|exact fun _=>(ia (x.av.length:Int))|exact fun _=>(bB (x.af.length:Int) 2 8)|exact fun _=>(oT x.aJ)|exact fun _=>(pK x.aJ)|exact fun _=>(lg x.bS)|exact fun _=>(bB x.round 0 100000));all_goals first| (refine fun _=> ?_;dsimp only[hyps,iH];omega)) ?_)))))
 refine aA rfl ?_ ?_<;>intro hb0
 ·exact aF X [2] rfl (az (aj rfl ⟨by rw[show okW x=false from by rw[okW,dG (R:=Nd x) hb0 (by simp only[Nd,bG]<;>first|rfl|ac_rfl)];rfl],⟨⟩⟩))
 ·have hh:Nd x=true:=dF hb0 (by simp only[Nd,bG]<;>first|rfl|ac_rfl)
  obtain⟨UZ,hd8,_⟩:=v8 hh
  refine aE (ah (aF X [1,73,74,75] rfl ?_))
  refine aG (aW (fun k=>k≤x.av.length∧(bD k).all (KE x)=true) (fun k:Nat=> [(75, .one ((aM k)))]) (fun k=> []) (fun k=>x.av.length-k) 0 (fun k=>rfl) ⟨aD _,rfl⟩ rfl ?_)
  rintro k ⟨hk,hall⟩
  refine aF X [1,73,74,75,76] rfl ?_
  refine ah (aA rfl ?_ ?_)<;>intro cx
  ·try simp only[bO]at cx
   refine aE (ah (aG (aT X [1,3,4,73,74,75] rfl (by and_intros<;>first|exact⟨⟩| (intros;omega)) (aS X [] [(81,⟨false,[bl (dN (x.av.getD k (aP .bZ)))]⟩)] [1,73,74,75,108] [] rfl (by(with_reducible and_intros)<;>first|exact⟨⟩|exact(fH (x.av.getD k (aP .bZ)))) ?_))))
   refine aA rfl ?_ ?_<;>intro dY
   ·have hk2:KE x k=false:=dG dY (by simp only[KE,bG]<;>first|rfl|ac_rfl)
    exact aF X [2] rfl (az (aj rfl ⟨by rw[show okW x=false from by rw[okW,qy cx hk2];simp],⟨⟩⟩))
   ·have hk2:KE x k=true:=dF dY (by simp only[KE,bG]<;>first|rfl|ac_rfl)
    refine aE (cW X [1,73,74,75] rfl ?_)
    refine⟨k+1,⟨by omega,nC hall hk2⟩,by omega,?_⟩
    rw[dh _ k rfl (by omega)]
    try rfl
  ·try simp only[bO]at cx
   have uW:(bD x.av.length).all (KE x)=true:=by rw[show x.av.length=k by omega];exact hall
   refine bp (ah (aF X [1,111,112,113] rfl ?_))
   refine aG (aW (fun k1=>k1≤x.af.length∧(bD k1).all (okD x)=true) (fun k1:Nat=> [(113, .one ((aM k1)))]) (fun k1=> []) (fun k1=>x.af.length-k1) 0 (fun k1=>rfl) ⟨aD _,rfl⟩ rfl ?_)
   rintro k1 ⟨hk1,ae1⟩
   refine aF X [1,111,112,113,114] rfl ?_
   refine ah (aA rfl ?_ ?_)<;>intro Ft
   ·try simp only[bO]at Ft
    have hx:=YT k1 (by omega)
    have hlt:=yt k1 x.af.length Ft UZ
    refine aE (ah (aG (aT X [1,5,6,111,112,113] rfl (by and_intros<;>first|exact⟨⟩| (intros;omega)) (aF X [1,5,6,7,111,112,113] rfl (ah (aX X [] [(121,⟨false,[bl (fX (x.af.getD k1 (aP .cz)))]⟩)] [1,111,112,113,155] [] 68719476735 0 MO (by kernel_rfl) rfl (by kernel_rfl) (by(with_reducible and_intros)<;>first|exact⟨⟩|exact(jN (x.af.getD k1 (aP .cz)))| ((intro h1;first| (intro h2;first| (intro h3;refine aO ?_ ?_)|refine aO ?_ ?_)|refine aO ?_ ?_)<;>first|omega| ((try simp only[bO]at*);(try simp(disch:=omega) only[cV]);omega))) ?_))))))
    refine aA rfl ?_ ?_<;>intro hb4
    ·have Qx:okD x k1=false:=dG hb4 (by simp only[okD,hx,bG]<;>first|rfl|ac_rfl)
     exact aF X [2] rfl (az (aj rfl ⟨by rw[show okW x=false from by rw[okW,qy Ft Qx];simp],⟨⟩⟩))
    ·have Qx:okD x k1=true:=dF hb4 (by simp only[okD,hx,bG]<;>first|rfl|ac_rfl)
     refine aE (cW X [1,111,112,113] rfl ?_)
     refine⟨k1+1,⟨by omega,nC ae1 Qx⟩,by omega,?_⟩
     rw[dh _ k1 rfl (by omega)]
     try rfl
   ·try simp only[bO]at Ft
    have YU:(bD x.af.length).all (okD x)=true:=by rw[show x.af.length=k1 by omega];exact ae1
    exact bp (aF X [2] rfl (az (aj rfl ⟨by rw[okW,hh,uW,YU];rfl,⟨⟩⟩)))
theorem Cn(x:ck):So 50 [.agg (b7 x)] [bl (svW x)]:=by
 refine aC X call50 func50 ntmps50 rfl rfl ?_
 intro zb
 refine dn 0 1 rfl rfl (fun hl1=> ?_)
 refine dn 0 2 rfl rfl (fun ru=>(aF X [1] rfl (ah (aF X [1,3] rfl ?_))))
 refine aG (aW (fun k=>k≤x.av.length∧(bD k).all (KE x)=true) (fun k:Nat=> [(3, .one ((aM k)))]) (fun k=> []) (fun k=>x.av.length-k) 0 (fun k=>rfl) ⟨aD _,rfl⟩ rfl ?_)
 rintro k ⟨hk,hall⟩
 refine ah (aF X [1,3,9] rfl ?_)
 refine aA rfl ?_ ?_<;>intro hb0
 ·try simp only[bO]at hb0
  refine aE (ah (aG (aT X [1,3,4] rfl (by and_intros<;>first|exact⟨⟩| (intros;omega)) (aS X [] [(18,⟨false,[bl (dN (x.av.getD k (aP .bZ)))]⟩)] [1,3,45] [] rfl (by(with_reducible and_intros)<;>first|exact⟨⟩|exact(fI (x.av.getD k (aP .bZ)))) ?_))))
  refine aA rfl ?_ ?_<;>intro cx
  ·have hk2:KE x k=false:=dG cx (by simp only[KE,bG]<;>first|rfl|ac_rfl)
   exact aF X [2] rfl (az (aj rfl ⟨by rw[show svW x=false from by rw[svW,qy hb0 hk2];simp],⟨⟩⟩))
  ·have hk2:KE x k=true:=dF cx (by simp only[KE,bG]<;>first|rfl|ac_rfl)
   refine aE (cW X [1,3] rfl ?_)
   refine⟨k+1,⟨by omega,nC hall hk2⟩,by omega,?_⟩
   rw[dh _ k rfl (by omega)]
   try rfl
 ·try simp only[bO]at hb0
  have uW:(bD x.av.length).all (KE x)=true:=by rw[show x.av.length=k by omega];exact hall
  exact bp (aS X [] [(49,⟨false,[bl _]⟩)] [2] [] rfl (by(with_reducible and_intros)<;>first|exact⟨⟩|exact(ke _)) (az (aj rfl ⟨by rw[svW,uW];rfl,⟨⟩⟩)))
theorem Co(x:ck):So 51 [.agg (b7 x)] [bl (dvW x)]:=by
 refine aC X call51 func51 ntmps51 rfl rfl ?_
 intro zb
 refine dn 0 1 rfl rfl (fun hl1=> ?_)
 refine dn 0 2 rfl rfl (fun ru=>(aF X [1] rfl (aF X [1,3] rfl (ah (aS X [] [(14,⟨false,[bl (inr (x.af.length:Int) 2 8)]⟩)] [1,3,16] [] rfl (by(with_reducible and_intros)<;>first|exact⟨⟩|exact fun _=>(bY (x.af.length:Int) 2 8)| (intros;omega)) ?_)))))
 refine aA rfl ?_ ?_<;>intro hb0
 ·exact aF X [2] rfl (az (aj rfl ⟨by rw[show dvW x=false from by rw[dvW,dG (R:=((x.af.length:Int).tmod 2==0)&&inr x.af.length 2 8) hb0 (by simp only[bG]<;>first|rfl|ac_rfl)];rfl],⟨⟩⟩))
 ·have hh:(((x.af.length:Int).tmod 2==0)&&inr x.af.length 2 8)=true:=dF hb0 (by simp only[bG]<;>first|rfl|ac_rfl)
  have UZ:x.af.length % 2=0:=by simp only[ak,beq_iff_eq]at hh;have:=hh.1;rw[gx (by omega)]at this;omega
  have hd8:x.af.length≤8:=by simp only[ak,dD]at hh;omega
  refine aE (ah (aF X [1,3,4] rfl ?_))
  refine aG (aW (fun k=>k≤x.af.length∧(bD k).all (okD x)=true) (fun k:Nat=> [(4, .one ((aM k)))]) (fun k=> []) (fun k=>x.af.length-k) 0 (fun k=>rfl) ⟨aD _,rfl⟩ rfl ?_)
  rintro k ⟨hk,hall⟩
  refine ah (aF X [1,3,4,19] rfl ?_)
  refine aA rfl ?_ ?_<;>intro cx
  ·try simp only[bO]at cx
   have hx:=YT k (by omega)
   have hlt:=yt k x.af.length cx UZ
   refine aE (ah (aG (aT X [1,3,4,5] rfl (by and_intros<;>first|exact⟨⟩| (intros;omega)) (ah (aX X [] [(28,⟨false,[bl (fX (x.af.getD k (aP .cz)))]⟩)] [1,3,4,66] [] 1099511627775 0 MO (by kernel_rfl) rfl (by kernel_rfl) (by(with_reducible and_intros)<;>first|exact⟨⟩|exact(ig (x.af.getD k (aP .cz)))| ((intro h1;first| (intro h2;first| (intro h3;refine aO ?_ ?_)|refine aO ?_ ?_)|refine aO ?_ ?_)<;>first|omega| ((try simp only[bO]at*);(try simp(disch:=omega) only[cV]);omega))) ?_)))))
   refine aA rfl ?_ ?_<;>intro dY
   ·have Qx:okD x k=false:=dG dY (by simp only[okD,hx,bG]<;>first|rfl|ac_rfl)
    exact aF X [2] rfl (az (aj rfl ⟨by rw[show dvW x=false from by rw[dvW,qy cx Qx];simp],⟨⟩⟩))
   ·have Qx:okD x k=true:=dF dY (by simp only[okD,hx,bG]<;>first|rfl|ac_rfl)
    refine aE (cW X [1,3,4] rfl ?_)
    refine⟨k+1,⟨by omega,nC hall Qx⟩,by omega,?_⟩
    rw[dh _ k rfl (by omega)]
    try rfl
  ·try simp only[bO]at cx
   have YU:(bD x.af.length).all (okD x)=true:=by rw[show x.af.length=k by omega];exact hall
   exact bp (aF X [2] rfl (az (aj rfl ⟨by rw[dvW,hh,YU];rfl,⟨⟩⟩)))
theorem gC(x:ck):So 30 [.agg (b7 x)] [bl (okW x)]:=by
 refine aC X call30 func30 ntmps30 rfl rfl ?_
 intro zb
 exact aF X [1] rfl (ah (aX X [] [(5,⟨false,[bl (inr x.rows 1 64)]⟩),(9,⟨false,[bl (inr x.round 0 100000)]⟩),(13,⟨false,[bl (svW x)]⟩),(17,⟨false,[bl (dvW x)]⟩),(22,⟨false,[bl (iU x.aJ)]⟩),(35,⟨false,[aM (dK x.aJ)]⟩),(43,⟨false,[bl (iT x.bS)]⟩)] [2] [] 281474976710655 0 MO (by kernel_rfl) rfl (by kernel_rfl) (by(with_reducible and_intros);(iterate 7 all_goals try first|exact⟨⟩|exact(bY x.rows 1 64)|exact fun _=>(bY x.round 0 100000)|exact fun _=>(Cn x)|exact fun _=>(Co x)|exact fun _=>(oU x.aJ)|exact fun _=>(pL x.aJ)|exact fun _=>(lp x.bS))) (az (aj rfl ⟨(congrArg dS (by simp only[okW,Nd,svW,dvW,bG]<;>first|rfl|ac_rfl)),⟨⟩⟩))))
theorem F3(key c:Int)(p:Plain):So 123 [aM key,aM c, .agg (lY p)] [.a (.sl .u8 (kr key c p)),bl (jx key c p)]:=by
 refine aC X call123 func123 ntmps123 rfl rfl ?_
 intro zb
 refine aF X [0,1,5] rfl (ah (aS X [] [(11,⟨false,[bl (iT key)]⟩),(15,⟨false,[bl (inr c 0 1000000000000)]⟩),(20,⟨false,[bl (jY p)]⟩)] [0,1,5,22] [] rfl (by(with_reducible and_intros);(iterate 3 all_goals try first|exact⟨⟩|exact(lg key)|exact fun _=>(bB c 0 1000000000000)|exact fun _=>(qU p))) ?_))
 refine aA rfl ?_ ?_<;>intro hb0
 ·have hk:jx key c p=false:=dG hb0 (by simp only[jx,bG]<;>first|rfl|ac_rfl)
  exact aF X [6,7] rfl (az (aj rfl ⟨by rw[kr,if_neg (by rw[hk];decide)],by rw[hk],⟨⟩⟩))
 ·have hk:jx key c p=true:=dF hb0 (by simp only[jx,bG]<;>first|rfl|ac_rfl)
  have hp:=tT hk
  have hst:(stream (kh key [61,c]) (18:Int).toNat).length=18:=gN _ _
  have sr:(gj key c p).length≤100:=by unfold gj;simp only[aY,bW,b9,fF,gN];omega
  have hf4:(four (lN key c (lM (nJ key c) (gj key c p)))).length=4:=rfl
  have hel:(lM (nJ key c) (gj key c p)).length≤100:=by rw[gI];exact sr
  refine aE (aS X [(33,30)] [] [0,1,5,8] [] rfl (by and_intros<;>first|exact⟨⟩|exact rfl|exact(kA _).1|exact(kA _).2| (simp only[gb,maxLen,lens];omega)) (ah (aX X [(44,30)] [(38,⟨false,[aM (kh key [61,c])]⟩),(39,⟨true,[.a (.sl .u8 (stream (kh key [61,c]) (18:Int).toNat))]⟩)] [0,1,8] [] 1023 0 MO (by kernel_rfl) rfl (by kernel_rfl) (by(repeat' with_reducible first|exact bF|refine bJ ?_ ?_|apply aO);(iterate 2 all_goals try first|exact(cZ key [61,c] (by first|assumption|omega| (simp;done)| (simp;omega)))|exact(m8 (kh key [61,c]) 18 (by first|assumption|omega| (simp;done)| (simp;omega)) (by first|assumption|omega| (simp;done)| (simp;omega))));all_goals first| (intros;omega)|exact rfl|exact⟨rfl,bM _ (by decide)⟩| (simp only[gb,maxLen,lens];omega)) ?_)))
  refine aS X [] [(47,⟨false,[aM (nJ key c)]⟩),(49,⟨true,[.a (.sl .u8 (lM (nJ key c) (gj key c p)))]⟩)] [0,1,9] [] rfl (by(with_reducible and_intros);(iterate 2 all_goals try first|exact⟨⟩|exact(yp key c)|exact(Ib (nJ key c) (gj key c p) (by first|assumption|omega| (simp;done)| (simp;omega))))) (ah ?_)
  have t1:=(tS key c (lM (nJ key c) (gj key c p)) (by first|assumption|omega| (simp;done)| (simp;omega)))
  exact bH X [(55,49)] [(54,⟨true,dH t1⟩)] [6,7] [] rfl (by(with_reducible and_intros)<;>first|exact⟨⟩|exact t1|exact rfl| (simp only[gb,maxLen,lens];omega)) (az (aj rfl ⟨by rw[kr,if_pos hk],by rw[hk],⟨⟩⟩))
theorem F4(key c:Int)(p:Plain):So 259 [aM key,aM c, .agg (lY p)] [.a (.sl .u8 (kr key c p)),bl (jx key c p)]:=by
 refine aC X call259 func259 ntmps259 rfl rfl ?_
 intro zb
 refine aF X [0,1,5] rfl (ah (aS X [] [(12,⟨false,[bl (iT key)]⟩),(16,⟨false,[bl (inr c 0 1000000000000)]⟩),(21,⟨false,[bl (jY p)]⟩)] [0,1,5,23] [] rfl (by(with_reducible and_intros);(iterate 3 all_goals try first|exact⟨⟩|exact(lp key)|exact fun _=>(bY c 0 1000000000000)|exact fun _=>(Aa p))) ?_))
 refine aA rfl ?_ ?_<;>intro hb0
 ·have hk:jx key c p=false:=dG hb0 (by simp only[jx,bG]<;>first|rfl|ac_rfl)
  exact aT X [6,7] rfl (by and_intros<;>first|exact⟨⟩|exact rfl) (az (aj rfl ⟨by rw[kr,if_neg (by rw[hk];decide)],by rw[hk],⟨⟩⟩))
 ·have hk:jx key c p=true:=dF hb0 (by simp only[jx,bG]<;>first|rfl|ac_rfl)
  have hp:=tT hk
  have hst:(stream (kh key [61,c]) (18:Int).toNat).length=18:=gN _ _
  have sr:(gj key c p).length≤100:=by unfold gj;simp only[aY,bW,b9,fF,gN];omega
  have hf4:(four (lN key c (lM (nJ key c) (gj key c p)))).length=4:=rfl
  have hel:(lM (nJ key c) (gj key c p)).length≤100:=by rw[gI];exact sr
  refine aE (aS X [(35,32)] [] [0,1,5,8] [] rfl (by and_intros<;>first|exact⟨⟩|exact rfl|exact(kA _).1|exact(kA _).2| (simp only[gb,maxLen,lens];omega)) (ah (aX X [(46,32)] [(40,⟨false,[aM (kh key [61,c])]⟩),(41,⟨true,[.a (.sl .u8 (stream (kh key [61,c]) (18:Int).toNat))]⟩)] [0,1,8] [] 1023 0 MO (by kernel_rfl) rfl (by kernel_rfl) (by(repeat' with_reducible first|exact bF|refine bJ ?_ ?_|apply aO);(iterate 2 all_goals try first|exact(cF key [61,c] (by first|assumption|omega| (simp;done)| (simp;omega)))|exact(ng (kh key [61,c]) 18 (by first|assumption|omega| (simp;done)| (simp;omega)) (by first|assumption|omega| (simp;done)| (simp;omega))));all_goals first| (intros;omega)|exact rfl|exact⟨rfl,bM _ (by decide)⟩| (simp only[gb,maxLen,lens];omega)) ?_)))
  refine aS X [] [(49,⟨false,[aM (nJ key c)]⟩),(51,⟨true,[.a (.sl .u8 (lM (nJ key c) (gj key c p)))]⟩)] [0,1,9] [] rfl (by(with_reducible and_intros);(iterate 2 all_goals try first|exact⟨⟩|exact(uV key c)|exact(Ie (nJ key c) (gj key c p) (by first|assumption|omega| (simp;done)| (simp;omega))))) (ah ?_)
  have t1:=(uU key c (lM (nJ key c) (gj key c p)) (by first|assumption|omega| (simp;done)| (simp;omega)))
  exact bH X [] [(55,⟨false,dH t1⟩)] [9,10] [] rfl (by(with_reducible and_intros)<;>first|exact⟨⟩|exact t1) (aS X [(69,51)] [] [6,7] [] rfl (by and_intros<;>first|exact⟨⟩| (intros;omega)|exact rfl|exact(kA _).1|exact(kA _).2| (simp only[gb,maxLen,lens];omega)) (az (aj rfl ⟨(congrArg (fun z=>lM (nJ key c) (gj key c p)++z) (S9 _)).trans (by rw[kr,if_pos hk]),by rw[hk],⟨⟩⟩)))
theorem jd(x:ck)(c:Int):So 42 [.agg (b7 x),aM c] [bl (rF x c)]:=by
 refine aC X call42 func42 ntmps42 rfl rfl ?_
 intro zb
 exact dn 0 2 rfl rfl (fun ru=>(aF X [1,2] rfl (aS X [] [(10,⟨false,[bl _]⟩)] [4] [] rfl (by(with_reducible and_intros)<;>first|exact⟨⟩|exact(bB _ _ _)) (az (aj rfl ⟨by rw[cV (by omega)];rfl,⟨⟩⟩)))))
theorem Ik(x:ck)(c:Int)(hd:x.af.length≤1048576):So 64 [.agg (b7 x),aM c] [bl (A5 x c)]:=by
 refine aC X call64 func64 ntmps64 rfl rfl ?_
 intro zb
 refine aF X [1,2] rfl (ah ?_)
 have t1:=(jd x (aq.wrap (BitVec.ofInt aq.bits c^^^BitVec.ofInt aq.bits 1).toNat))
 exact bH X [] [(7,⟨false,[bl (rF x c)]⟩),(12,⟨false,dH t1⟩)] [4] [] rfl (by(with_reducible and_intros);(iterate 2 all_goals try first|exact⟨⟩|exact(jd x c)|exact fun _=>t1)) (az (aj rfl ⟨by rw[YR,VB hd],⟨⟩⟩))
theorem kf(c:gQ):So 73 [.agg (dw c)] [aM (eP c)]:=by
 refine aC X call73 func73 ntmps73 rfl rfl ?_
 intro zb
 refine aF X [1] rfl (ah (aF X [7] rfl ?_))
 refine aA rfl ?_ ?_<;>intro hb0
 ·try simp only[bO]at hb0
  exact aF X [2] rfl (az (aj rfl ⟨by rw[eP,if_pos hb0],⟨⟩⟩))
 ·try simp only[bO]at hb0
  exact aE (aF X [2] rfl (az (aj rfl ⟨by rw[eP,if_neg (by omega)],⟨⟩⟩)))
theorem sR(c:gQ)(a:Int)(h0:0≤a)(h1:a<c.bu.length):So 74 [.agg (dw c),aM a] [.a (.sl .u8 (sP c a))]:=by
 refine aC X call74 func74 ntmps74 rfl rfl ?_
 intro zb
 refine aF X [1,2] rfl (ah ?_)
 have t1:=(F3 (mK c.key (eP c)) a (⟨1,(c.bu.getD (a).toNat (aP (.sl .u8)))⟩:Plain))
 exact aX X [] [(11,⟨false,[aM (eP c)]⟩),(12,⟨false,[aM (mK c.key (eP c))]⟩),(20,⟨true,dH t1⟩)] [5] [] 262143 0 MO (by kernel_rfl) rfl (by kernel_rfl) (by(with_reducible and_intros);(iterate 3 all_goals try first|exact⟨⟩|exact(kf c)|exact(mw c.key (eP c))|exact t1);all_goals first| (intros;omega)) (aF X [4] rfl (az (aj rfl ⟨rfl,⟨⟩⟩)))
theorem A6(c:gQ)(r n:Int):So 36 [.agg (dw c),aM r,aM n] [aM (jq c r n), .a (.sl .u8 (gl c r n)),bl (sQ c r n)]:=by
 refine aC X call36 func36 ntmps36 rfl rfl ?_
 intro zb
 refine dn 0 4 rfl rfl (fun oO=>(aF X [1,2,3] rfl (ah (aS X [] [(10,⟨false,[bl (fP c)]⟩),(14,⟨false,[bl (inr r 0 100000)]⟩),(19,⟨false,[bl (inr n 1 64)]⟩)] [1,2,3,21] [] rfl (by(with_reducible and_intros);(iterate 3 all_goals try first|exact⟨⟩|exact(jM c)|exact fun _=>(bB r 0 100000)|exact fun _=>(bB n 1 64))) ?_))))
 refine aA rfl ?_ ?_<;>intro hb0
 ·have hk:sQ c r n=false:=dG hb0 (by simp only[sQ,bG]<;>first|rfl|ac_rfl)
  exact aF X [6,7,8] rfl (az (aj rfl ⟨by rw[jq,if_neg (by rw[hk];decide)],by rw[gl,if_neg (by rw[hk];decide)],by rw[hk],⟨⟩⟩))
 ·have hk:sQ c r n=true:=dF hb0 (by simp only[sQ,bG]<;>first|rfl|ac_rfl)
  have hs:=D8 hk
  refine aE (ah (aF X [1,2,3,27] rfl ?_))
  refine aA rfl ?_ ?_<;>intro cx
  ·try simp only[bO]at cx
   exact ah (aX X [] [(32,⟨false,[aM (eP c)]⟩),(34,⟨false,[aM (iQ c.key r (eP c) n)]⟩),(38,⟨true,[.a (.sl .u8 (sP c c.sent))]⟩)] [6,7,8] [] 16383 0 MO (by kernel_rfl) rfl (by kernel_rfl) (by(with_reducible and_intros);(iterate 3 all_goals try first|exact⟨⟩|exact(kf c)|exact(nY c.key r (eP c) n)|exact(sR c c.sent (by first|assumption|omega| (simp;done)| (simp;omega)) (by first|assumption|omega| (simp;done)| (simp;omega))))) (az (aj rfl ⟨by rw[jq,if_pos hk,if_pos cx],by rw[gl,if_pos hk,if_pos cx],by rw[hk],⟨⟩⟩)))
  ·try simp only[bO]at cx
   refine aE (ah (aX X [] [(43,⟨false,[aM (A3 c.seed r n)]⟩),(48,⟨false,[aM (kh c.seed [r])]⟩),(49,⟨true,[.a (.sl .u8 (cover (kh c.seed [r])))]⟩)] [6,7,8] [] 16383 0 MO (by kernel_rfl) rfl (by kernel_rfl) (by(repeat' with_reducible first|exact bF|refine bJ ?_ ?_|apply aO);(iterate 3 all_goals try first|exact(FZ c.seed r n)|exact(cZ c.seed [r] (by first|assumption|omega| (simp;done)| (simp;omega)))|exact(D4 (kh c.seed [r])));all_goals first|exact⟨rfl,bM _ (by decide)⟩) ?_))
   exact az (aj rfl ⟨by rw[jq,if_pos hk,if_neg (by omega)],by rw[gl,if_pos hk,if_neg (by omega)],by rw[hk],⟨⟩⟩)
theorem iK(c:gQ):So 196 [.agg (dw c)] [aM (eP c)]:=by
 refine aC X call196 func196 ntmps196 rfl rfl ?_
 intro zb
 refine aF X [1] rfl (ah (aF X [7] rfl ?_))
 refine aA rfl ?_ ?_<;>intro hb0
 ·try simp only[bO]at hb0
  exact aF X [2] rfl (az (aj rfl ⟨by rw[eP,if_pos hb0],⟨⟩⟩))
 ·try simp only[bO]at hb0
  exact aE (aF X [2] rfl (az (aj rfl ⟨by rw[eP,if_neg (by omega)],⟨⟩⟩)))
theorem yu(c:gQ)(h0:0≤c.sent)(h1:c.sent<c.bu.length):So 233 [.agg (dw c)] [.a (.sl .u8 (sP c c.sent))]:=by
 refine aC X call233 func233 ntmps233 rfl rfl ?_
 intro zb
 refine aF X [1] rfl (ah ?_)
 have t1:=(F4 (mK c.key (eP c)) c.sent (⟨1,(c.bu.getD (c.sent).toNat (aP (.sl .u8)))⟩:Plain))
 exact aX X [] [(9,⟨false,[aM (eP c)]⟩),(10,⟨false,[aM (mK c.key (eP c))]⟩),(20,⟨true,dH t1⟩)] [3] [] 1048575 0 MO (by kernel_rfl) rfl (by kernel_rfl) (by(with_reducible and_intros);(iterate 3 all_goals try first|exact⟨⟩|exact(iK c)|exact(mz c.key (eP c))|exact t1);all_goals first| (intros;omega)) (aF X [2] rfl (az (aj rfl ⟨rfl,⟨⟩⟩)))
theorem A7(c:gQ)(r n:Int):So 189 [.agg (dw c),aM r,aM n] [aM (jq c r n), .a (.sl .u8 (gl c r n)),bl (sQ c r n)]:=by
 refine aC X call189 func189 ntmps189 rfl rfl ?_
 intro zb
 refine dn 0 4 rfl rfl (fun oO=>(aF X [1,2,3] rfl (ah (aS X [] [(10,⟨false,[bl (fP c)]⟩),(14,⟨false,[bl (inr r 0 100000)]⟩),(19,⟨false,[bl (inr n 1 64)]⟩)] [1,2,3,21] [] rfl (by(with_reducible and_intros);(iterate 3 all_goals try first|exact⟨⟩|exact(gq c)|exact fun _=>(bY r 0 100000)|exact fun _=>(bY n 1 64))) ?_))))
 refine aA rfl ?_ ?_<;>intro hb0
 ·have hk:sQ c r n=false:=dG hb0 (by simp only[sQ,bG]<;>first|rfl|ac_rfl)
  exact aT X [6,7,8] rfl (by and_intros<;>first|exact⟨⟩|exact rfl) (az (aj rfl ⟨by rw[jq,if_neg (by rw[hk];decide)],by rw[gl,if_neg (by rw[hk];decide)],by rw[hk],⟨⟩⟩))
 ·have hk:sQ c r n=true:=dF hb0 (by simp only[sQ,bG]<;>first|rfl|ac_rfl)
  have hs:=D8 hk
  refine aE (ah (aF X [1,2,3,28] rfl ?_))
  refine aA rfl ?_ ?_<;>intro cx
  ·try simp only[bO]at cx
   exact ah (aX X [] [(33,⟨false,[aM (eP c)]⟩),(35,⟨false,[aM (iQ c.key r (eP c) n)]⟩),(37,⟨true,[.a (.sl .u8 (sP c c.sent))]⟩)] [6,7,8] [] 4095 0 MO (by kernel_rfl) rfl (by kernel_rfl) (by(with_reducible and_intros);(iterate 3 all_goals try first|exact⟨⟩|exact(iK c)|exact(nZ c.key r (eP c) n)|exact(yu c (by first|assumption|omega| (simp;done)| (simp;omega)) (by first|assumption|omega| (simp;done)| (simp;omega))))) (az (aj rfl ⟨by rw[jq,if_pos hk,if_pos cx],by rw[gl,if_pos hk,if_pos cx],by rw[hk],⟨⟩⟩)))
  ·try simp only[bO]at cx
   refine aE (ah (aX X [] [(42,⟨false,[aM (A3 c.seed r n)]⟩),(47,⟨false,[aM (kh c.seed [r])]⟩),(48,⟨true,[.a (.sl .u8 (cover (kh c.seed [r])))]⟩)] [6,7,8] [] 16383 0 MO (by kernel_rfl) rfl (by kernel_rfl) (by(repeat' with_reducible first|exact bF|refine bJ ?_ ?_|apply aO);(iterate 3 all_goals try first|exact(F0 c.seed r n)|exact(cF c.seed [r] (by first|assumption|omega| (simp;done)| (simp;omega)))|exact(D5 (kh c.seed [r])));all_goals first|exact⟨rfl,bM _ (by decide)⟩) ?_))
   exact az (aj rfl ⟨by rw[jq,if_pos hk,if_neg (by omega)],by rw[gl,if_pos hk,if_neg (by omega)],by rw[hk],⟨⟩⟩)
end
section
set_option maxRecDepth 100000
theorem yx(x:Int):So 258 [aM x] [bl (!inr x 0 1)]:=by
 refine aC X call258 func258 ntmps258 rfl rfl ?_
 intro zb
 exact aF X [0] rfl (aS X [] [(4,⟨false,[bl _]⟩)] [2] [] rfl (by(with_reducible and_intros)<;>first|exact⟨⟩|exact(bB _ _ _)) (az (aj rfl ⟨rfl,⟨⟩⟩)))
theorem nh(v:List Int)(rows:Int):So 228 [.a (.sl .int v),aM rows] [bl (fB v rows)]:=by
 refine aC X call228 func228 ntmps228 rfl rfl ?_
 intro zb
 exact aF X [0,1] rfl (aS X [] [(6,⟨false,[bl (inr rows 0 64)]⟩),(15,⟨false,[bl (v.any fun x=> !inr x 0 1)]⟩)] [4] [] rfl (by(with_reducible and_intros);(iterate 2 all_goals try first|exact⟨⟩|exact(bB rows 0 64)|exact fun _=>(qz _ _ _ yx))) (az (aj rfl ⟨by rw[Rb];exact(congrArg dS (by simp only[bG]<;>first|rfl|ac_rfl)),⟨⟩⟩)))
theorem ni(v:List Int)(rows:Int):So 249 [.a (.sl .int v),aM rows] [bl (fB v rows)]:=by
 refine aC X call249 func249 ntmps249 rfl rfl ?_
 intro zb
 refine eV 0 rfl (fun oO=>(aF X [0,1] rfl (ah (aF X [0,1,5] rfl ?_))))
 refine aG (aW (fun k=>k≤v.length∧(v.take k).all (fun x=>inr x 0 1)=true) (fun k:Nat=> [(5, .one ((aM k)))]) (fun k=> []) (fun k=>v.length-k) 0 (fun k=>rfl) ⟨aD _,rfl⟩ rfl ?_)
 rintro k ⟨hk,hall⟩
 refine ah (aF X [0,1,5,9] rfl ?_)
 refine aA rfl ?_ ?_<;>intro hb0
 ·try simp only[bO]at hb0
  refine aE (ah (aG (aS X [] [(16,⟨false,[bl (inr (v.getD k (aP .int)) 0 1)]⟩)] [0,1,5,17] [] rfl (by(with_reducible and_intros)<;>first|exact⟨⟩|exact(bY (v.getD k (aP .int)) 0 1)| (intros;omega)) ?_)))
  refine aA rfl ?_ ?_<;>intro cx
  ·exact aF X [4] rfl (az (aj rfl ⟨by rw[fB,Q6 _ _ (aP .int) k hb0 (by simpa using cx)];simp,⟨⟩⟩))
  ·refine aE (cW X [0,1,5] rfl ?_)
   refine⟨k+1,⟨by omega,by rw[H6 _ _ _ (aP .int) hb0,hall];simpa using cx⟩,by omega,?_⟩
   rw[dh _ k rfl (by omega)]
   try rfl
 ·try simp only[bO]at hb0
  exact bp (aF X [4] rfl (az (aj rfl ⟨by rw[aB hb0]at hall;rw[fB,hall];exact(congrArg dS (by simp only[bG]<;>first|rfl|ac_rfl)),⟨⟩⟩)))
theorem oq(sd rows:Int):So 111 [aM sd,aM rows] [.a (.sl .int (cO sd rows))]:=by
 refine aC X call111 func111 ntmps111 rfl rfl ?_
 intro zb
 refine aF X [0,1] rfl (ah (aS X [] [(9,⟨false,[bl (inr rows 0 64)]⟩)] [0,1,10] [] rfl (by(with_reducible and_intros)<;>first|exact⟨⟩|exact(bB rows 0 64)) ?_))
 refine aA rfl ?_ ?_<;>intro hb0
 ·try simp only[bO]at hb0
  exact aF X [4] rfl (az (aj rfl ⟨by rw[cO,if_neg (by omega)],⟨⟩⟩))
 ·try simp only[bO]at hb0
  refine aE (aT X [0,1,5] rfl (by and_intros<;>first|exact⟨⟩|exact rfl) (ah (aF X [0,5,12,13] rfl ?_)))
  refine aG (aW (fun k=>k≤rows.toNat) (fun k:Nat=> [(13, .one ((aM k)))]) (fun k=> [(11, .arr .int ((cO sd rows).take k))]) (fun k=>rows.toNat-k) 0 (fun k=>rfl) (aD _) rfl ?_)
  intro k hk
  have hle:=cG (cO sd rows) k
  have hrl:=lP sd rows
  refine aF X [0,5,12,13,14] rfl ?_
  refine ah (aA rfl ?_ ?_)<;>intro cx
  ·try simp only[bO]at cx
   have hs:=Cp sd rows k (by omega) (by omega)
   refine aE (ah (aG (aF X [0,5,6,12,13] rfl (aS X [] [(19,⟨false,[aM (kh sd [(k:Int),41])]⟩)] [0,5,7,12,13] [] rfl (by(repeat' with_reducible first|exact bF|refine bJ ?_ ?_|apply aO)<;>first|exact(cZ sd [(k:Int),41] (by first|assumption|omega| (simp;done)| (simp;omega)))|exact⟨rfl,bM _ (by decide)⟩) ?_))))
   refine bH X [(28,11)] [] [0,5,12,13] [] rfl (by and_intros<;>first|exact⟨⟩| (intros;omega)|exact rfl| (simp only[gb,maxLen,lens];omega)) (cW X [0,5,12,13] rfl ?_)
   refine⟨k+1,by omega,by omega,?_⟩
   rw[dh _ k rfl (by omega),hs]
   try rfl
  ·try simp only[bO]at cx
   exact bp (aF X [4] rfl (az (aj rfl ⟨by rw[Fu _ _ _ (by omega)],⟨⟩⟩)))
theorem yy(rows i:Int):So 221 [aM rows,aM i] [.a (.sl .int (qV rows i))]:=by
 refine aC X call221 func221 ntmps221 rfl rfl ?_
 intro zb
 refine aF X [0,1] rfl (ah (aS X [] [(7,⟨false,[bl (inr rows 1 64)]⟩),(13,⟨false,[bl (inr i 0 (aq.wrap (rows-1)))]⟩)] [0,1,15] [] rfl (by(with_reducible and_intros);(iterate 2 all_goals try first|exact⟨⟩|exact(bB rows 1 64)|exact fun _=>(bB i 0 (aq.wrap (rows-1))))) ?_))
 refine aA rfl ?_ ?_<;>intro hb0
 ·have hk:kD rows i=false:=dG hb0 (by simp only[kD,bG]<;>first|rfl|ac_rfl)
  exact aF X [4] rfl (az (aj rfl ⟨by rw[D9 hk],⟨⟩⟩))
 ·have hk:kD rows i=true:=dF hb0 (by simp only[kD,bG]<;>first|rfl|ac_rfl)
  have hu:=uY hk
  exact aE (aT X [1,5] rfl (by and_intros<;>first|exact⟨⟩| (intros;omega)|exact rfl| (simp only[gb,maxLen,lens];omega)) (aT X [5] rfl (by and_intros<;>first|exact⟨⟩| (intros;omega)| (simp only[gb,maxLen,lens];omega)) (aF X [4] rfl (az (aj rfl ⟨by rw[rP hk],⟨⟩⟩)))))
theorem yz(a b:List Int)(ha:a.length≤1048576)(hb:b.length≤1048576):So 222 [.a (.sl .int a), .a (.sl .int b)] [.a (.sl .int (pN a b))]:=by
 refine aC X call222 func222 ntmps222 rfl rfl ?_
 intro zb
 refine aF X [0,1] rfl (ah (aS X [] [(11,⟨false,[bl (fB a (a.length:Int))]⟩),(17,⟨false,[bl (fB b (a.length:Int))]⟩)] [0,1,19] [] rfl (by(with_reducible and_intros);(iterate 2 all_goals try first|exact⟨⟩|exact(nh a (a.length:Int))|exact fun _=>(nh b (a.length:Int)))) ?_))
 refine aA rfl ?_ ?_<;>intro hb0
 ·have AA:oo a b=false:=dG hb0 (by simp only[oo,bG]<;>first|rfl|ac_rfl)
  exact aF X [4] rfl (az (aj rfl ⟨by rw[pN,if_neg (by rw[AA];decide)],⟨⟩⟩))
 ·have AA:oo a b=true:=dF hb0 (by simp only[oo,bG]<;>first|rfl|ac_rfl)
  have JU:=rO AA
  have hzl:=Cq AA
  refine aE (aS X [] [(21,⟨true,[.a (.sl .int _)]⟩)] [1,5] [] rfl (by(with_reducible and_intros)<;>first|exact⟨⟩|exact(kC _ (by first|assumption|omega| (simp;done)| (simp;omega)))) (ah (aF X [5,22,23,24] rfl ?_)))
  refine aG (aW (fun k=>k≤b.length) (fun k:Nat=> [(24, .one ((aM k)))]) (fun k=> [(21, .arr .int ((dz xb a b).take k++a.drop k))]) (fun k=>b.length-k) 0 (fun k=>rfl) (aD _) rfl ?_)
  intro k hk
  have hle:=nX (dz xb a b) a k hzl (by omega)
  refine aF X [5,22,23,24,25] rfl ?_
  refine ah (aA rfl ?_ ?_)<;>intro cx
  ·try simp only[bO]at cx
   have hs:=OC AA k cx
   refine aE (ah (aG (aT X [5,6,7,22,23,24] rfl (by and_intros<;>first|exact⟨⟩| (intros;omega)) (ny X [5,22,23,24] rfl (by and_intros<;>first|exact⟨⟩| (intros;omega)) (cW X [5,22,23,24] rfl ?_)))))
   refine⟨k+1,by omega,by omega,?_⟩
   rw[dh _ k rfl (by omega),hs]
   try rfl
  ·try simp only[bO]at cx
   exact bp (aF X [4] rfl (az (aj rfl ⟨by rw[rE _ _ _ hzl (by omega),we AA],⟨⟩⟩)))
theorem Ee(rows i:Int)(sd:List Int)(Cd:sd.length≤1048576):So 164 [aM rows,aM i, .a (.sl .int sd)] [.a (.sl (.sl .int) (mm rows i sd))]:=by
 refine aC X call164 func164 ntmps164 rfl rfl ?_
 intro zb
 have hun:=Ea rows i
 refine aF X [0,1,2] rfl (aS X [] [(14,⟨true,[.a (.sl .int _)]⟩)] [0,2,7] [] rfl (by(with_reducible and_intros)<;>first|exact⟨⟩|exact(yy _ _)) (ah (aS X [] [(22,⟨false,[bl (eA (aq.wrap ((sd.length:Int)+1)))]⟩)] [0,2,7,24] [] rfl (by(with_reducible and_intros)<;>first|exact⟨⟩|exact fun _=>(ia (aq.wrap ((sd.length:Int)+1)))) ?_)))
 refine aA rfl ?_ ?_<;>intro hb0
 ·have hmk:Cr rows i sd=false:=dG hb0 (by simp only[Cr,bG]<;>first|rfl|ac_rfl)
  exact aF X [6] rfl (az (aj rfl ⟨by rw[mm,if_neg (by rw[hmk];decide)],⟨⟩⟩))
 ·have hmk:Cr rows i sd=true:=dF hb0 (by simp only[Cr,bG]<;>first|rfl|ac_rfl)
  have JU:=OG hmk Cd
  refine aE (aT X [0,2,7,8] rfl (by and_intros<;>first|exact⟨⟩|exact rfl) (ah (aF X [0,7,8,26,27,28] rfl ?_)))
  refine aG (aW (fun k=>k≤sd.length) (fun k:Nat=> [(28, .one ((aM k)))]) (fun k=> [(25, .arr (.sl .int) ((sd.take k).map fun s=>cO s rows)),(14, .arr .int (yw rows i (sd.take k)))]) (fun k=>sd.length-k) 0 (fun k=>rfl) (aD _) rfl ?_)
  intro k hk
  have hle:=cG sd k
  have hql:=Eb rows i (sd.take k)
  refine aF X [0,7,8,26,27,28,29] rfl ?_
  refine ah (aA rfl ?_ ?_)<;>intro cx
  ·try simp only[bO]at cx
   have hs:=qw (fun s=>cO s rows) sd k (aP .int) cx
   have xB:=Im rows i sd k cx
   have hrl:=lP (sd.getD k (aP .int)) rows
   refine aE (ah (aG (aT X [0,7,8,10,26,27,28] rfl (by and_intros<;>first|exact⟨⟩| (intros;omega)) (aS X [] [(34,⟨true,[.a (.sl .int (cO (sd.getD k (aP .int)) rows))]⟩)] [0,7,8,11,26,27,28] [] rfl (by(with_reducible and_intros)<;>first|exact⟨⟩|exact(oq (sd.getD k (aP .int)) rows)) (ah (Te X [(38,25)] [] [0,7,8,11,26,27,28] 2 25 rfl (by and_intros<;>first|exact⟨⟩|exact rfl| (simp only[gb,maxLen,lens];omega)) ?_))))))
   have t1:=(yz (yw rows i (sd.take k)) (cO (sd.getD k (aP .int)) rows) (by first|assumption|omega| (simp;done)| (simp;omega)) (by first|assumption|omega| (simp;done)| (simp;omega)))
   refine bH X [] [(41,⟨true,dH t1⟩)] [0,7,8,26,27,28] [] rfl (by(with_reducible and_intros)<;>first|exact⟨⟩|exact t1) (rQ 7 14 rfl (cW X [0,7,8,26,27,28] rfl ?_))
   refine⟨k+1,by omega,by omega,?_⟩
   rw[dh _ k rfl (by omega),hs,xB]
   try rfl
  ·try simp only[bO]at cx
   exact bp (aS X [(46,25)] [] [6] [] rfl (by and_intros<;>first|exact⟨⟩|exact rfl| (simp only[gb,maxLen,lens];omega)) (az (aj rfl ⟨by rw[aB cx,mm,if_pos hmk],⟨⟩⟩)))
theorem ot(sd rows:Int):So 140 [aM sd,aM rows] [.a (.sl .int (cO sd rows))]:=by
 refine aC X call140 func140 ntmps140 rfl rfl ?_
 intro zb
 refine aF X [0,1] rfl (aT X [0,1,5] rfl (by and_intros<;>first|exact⟨⟩|exact rfl) (ah (aF X [0,1,5,6] rfl ?_)))
 refine aG (aW (fun k=>k≤(cO sd rows).length) (fun k:Nat=> [(6, .one ((aM k)))]) (fun k=> [(8, .arr .int ((cO sd rows).take k))]) (fun k=>(cO sd rows).length-k) 0 (fun k=>rfl) (aD _) rfl ?_)
 intro k hk
 have hle:=cG (cO sd rows) k
 have hrl:=lP sd rows
 refine ah (aF X [0,1,5,6,15] rfl ?_)
 refine aA rfl ?_ ?_<;>intro hb0
 ·try simp only[bO]at hb0
  have hin:=Il sd rows k (by omega) (by omega)
  have hs:=Cp sd rows k (by omega) (by omega)
  refine aE (ah (aG (aS X [] [(21,⟨false,[aM (kh sd [(k:Int),41])]⟩)] [0,1,5,6,7] [] rfl (by(repeat' with_reducible first|exact bF|refine bJ ?_ ?_|apply aO)<;>first|exact(cF sd [(k:Int),41] (by first|assumption|omega| (simp;done)| (simp;omega)))|exact⟨rfl,bM _ (by decide)⟩) ?_)))
  refine bH X [(30,8)] [] [0,1,5,6] [] rfl (by and_intros<;>first|exact⟨⟩| (intros;omega)|exact rfl| (simp only[gb,maxLen,lens];omega)) (cW X [0,1,5,6] rfl ?_)
  refine⟨k+1,by omega,by omega,?_⟩
  rw[dh _ k rfl (by omega),hs]
  try rfl
 ·try simp only[bO]at hb0
  exact bp (aF X [4] rfl (az (aj rfl ⟨by rw[Fu _ _ _ (by omega)],⟨⟩⟩)))
theorem yA(rows i:Int):So 243 [aM rows,aM i] [.a (.sl .int (qV rows i))]:=by
 refine aC X call243 func243 ntmps243 rfl rfl ?_
 intro zb
 refine aF X [0,1] rfl (ah (aS X [] [(7,⟨false,[bl (inr rows 1 64)]⟩),(13,⟨false,[bl (inr i 0 (aq.wrap (rows-1)))]⟩)] [0,1,15] [] rfl (by(with_reducible and_intros);(iterate 2 all_goals try first|exact⟨⟩|exact(bY rows 1 64)|exact fun _=>(bY i 0 (aq.wrap (rows-1))))) ?_))
 refine aA rfl ?_ ?_<;>intro hb0
 ·have hk:kD rows i=false:=dG hb0 (by simp only[kD,bG]<;>first|rfl|ac_rfl)
  exact aT X [4] rfl (by and_intros<;>first|exact⟨⟩|exact rfl) (az (aj rfl ⟨by rw[D9 hk],⟨⟩⟩))
 ·have hk:kD rows i=true:=dF hb0 (by simp only[kD,bG]<;>first|rfl|ac_rfl)
  have hu:=uY hk
  exact aE (aT X [1,5] rfl (by and_intros<;>first|exact⟨⟩| (intros;omega)|exact rfl| (simp only[gb,maxLen,lens];omega)) (aT X [5] rfl (by and_intros<;>first|exact⟨⟩| (intros;omega)| (simp only[gb,maxLen,lens];omega)) (aF X [4] rfl (az (aj rfl ⟨by rw[rP hk],⟨⟩⟩)))))
theorem yB(a b:List Int)(ha:a.length≤1048576)(hb:b.length≤1048576):So 244 [.a (.sl .int a), .a (.sl .int b)] [.a (.sl .int (pN a b))]:=by
 refine aC X call244 func244 ntmps244 rfl rfl ?_
 intro zb
 refine aF X [0,1] rfl (aT X [0,1,5] rfl (by and_intros<;>first|exact⟨⟩|exact rfl) (ah (aS X [] [(11,⟨false,[bl (fB a (a.length:Int))]⟩),(17,⟨false,[bl (fB b (a.length:Int))]⟩)] [0,1,5,19] [] rfl (by(with_reducible and_intros);(iterate 2 all_goals try first|exact⟨⟩|exact(ni a (a.length:Int))|exact fun _=>(ni b (a.length:Int)))) ?_)))
 refine aA rfl ?_ ?_<;>intro hb0
 ·have AA:oo a b=false:=dG hb0 (by simp only[oo,bG]<;>first|rfl|ac_rfl)
  exact aF X [4] rfl (az (aj rfl ⟨by rw[pN,if_neg (by rw[AA];decide)],⟨⟩⟩))
 ·have AA:oo a b=true:=dF hb0 (by simp only[oo,bG]<;>first|rfl|ac_rfl)
  have JU:=rO AA
  have hzl:=Cq AA
  refine aE (ah (aF X [0,1,5,6] rfl ?_))
  refine aG (aW (fun k=>k≤a.length) (fun k:Nat=> [(6, .one ((aM k)))]) (fun k=> [(7, .arr .int ((dz xb a b).take k))]) (fun k=>a.length-k) 0 (fun k=>rfl) (aD _) rfl ?_)
  intro k hk
  have hle:=cG (dz xb a b) k
  refine ah (aF X [0,1,5,6,24] rfl ?_)
  refine aA rfl ?_ ?_<;>intro cx
  ·try simp only[bO]at cx
   have hs:=OD AA k cx
   refine aE (ah (aG (aX X [(38,7)] [] [0,1,5,6] [] 2047 0 MO (by kernel_rfl) rfl (by kernel_rfl) (by and_intros<;>first|exact⟨⟩| (intros;omega)|exact rfl| (simp only[gb,maxLen,lens];omega)) (cW X [0,1,5,6] rfl ?_))))
   refine⟨k+1,by omega,by omega,?_⟩
   rw[dh _ k rfl (by omega),hs]
   try rfl
  ·try simp only[bO]at cx
   exact bp (aF X [4] rfl (az (aj rfl ⟨by rw[aB (by omega),we AA],⟨⟩⟩)))
theorem Ef(rows i:Int)(sd:List Int)(Cd:sd.length≤1048576):So 198 [aM rows,aM i, .a (.sl .int sd)] [.a (.sl (.sl .int) (mm rows i sd))]:=by
 refine aC X call198 func198 ntmps198 rfl rfl ?_
 intro zb
 have hun:=Ea rows i
 refine aF X [0,1,2] rfl (aT X [0,1,2,7] rfl (by and_intros<;>first|exact⟨⟩|exact rfl) (aS X [] [(14,⟨true,[.a (.sl .int _)]⟩)] [0,2,7,8] [] rfl (by(with_reducible and_intros)<;>first|exact⟨⟩|exact(yA _ _)) (ah (aS X [] [(22,⟨false,[bl (eA (aq.wrap ((sd.length:Int)+1)))]⟩)] [0,2,7,8,24] [] rfl (by(with_reducible and_intros)<;>first|exact⟨⟩|exact fun _=>(ke (aq.wrap ((sd.length:Int)+1)))) ?_))))
 refine aA rfl ?_ ?_<;>intro hb0
 ·have hmk:Cr rows i sd=false:=dG hb0 (by simp only[Cr,bG]<;>first|rfl|ac_rfl)
  exact aF X [6] rfl (az (aj rfl ⟨by rw[mm,if_neg (by rw[hmk];decide)],⟨⟩⟩))
 ·have hmk:Cr rows i sd=true:=dF hb0 (by simp only[Cr,bG]<;>first|rfl|ac_rfl)
  have JU:=OG hmk Cd
  refine aE (ah (aF X [0,2,7,8,9] rfl ?_))
  refine aG (aW (fun k=>k≤sd.length) (fun k:Nat=> [(9, .one ((aM k)))]) (fun k=> [(11, .arr (.sl .int) ((sd.take k).map fun s=>cO s rows)),(14, .arr .int (yw rows i (sd.take k)))]) (fun k=>sd.length-k) 0 (fun k=>rfl) (aD _) rfl ?_)
  intro k hk
  have hle:=cG sd k
  have hql:=Eb rows i (sd.take k)
  refine ah (aF X [0,2,7,8,9,29] rfl ?_)
  refine aA rfl ?_ ?_<;>intro cx
  ·try simp only[bO]at cx
   have hs:=qw (fun s=>cO s rows) sd k (aP .int) cx
   have xB:=Im rows i sd k cx
   have hrl:=lP (sd.getD k (aP .int)) rows
   refine aE (ah (aG (aS X [] [(37,⟨true,[.a (.sl .int (cO (sd.getD k (aP .int)) rows))]⟩)] [0,2,7,8,9,10] [] rfl (by(with_reducible and_intros)<;>first|exact⟨⟩|exact(ot (sd.getD k (aP .int)) rows)| (intros;omega)) (ah ?_))))
   have t1:=(yB (yw rows i (sd.take k)) (cO (sd.getD k (aP .int)) rows) (by first|assumption|omega| (simp;done)| (simp;omega)) (by first|assumption|omega| (simp;done)| (simp;omega)))
   refine bH X [] [(40,⟨true,dH t1⟩)] [0,2,7,8,9,10] [] rfl (by(with_reducible and_intros)<;>first|exact⟨⟩|exact t1) (rQ 8 14 rfl (bH X [(44,11)] [] [0,2,7,8,9] [] rfl (by and_intros<;>first|exact⟨⟩|exact rfl| (simp only[gb,maxLen,lens];omega)) (cW X [0,2,7,8,9] rfl ?_)))
   refine⟨k+1,by omega,by omega,?_⟩
   rw[dh _ k rfl (by omega),hs,xB]
   try rfl
  ·try simp only[bO]at cx
   exact bp (aS X [(48,11)] [] [6] [] rfl (by and_intros<;>first|exact⟨⟩|exact rfl| (simp only[gb,maxLen,lens];omega)) (az (aj rfl ⟨by rw[aB cx,mm,if_pos hmk],⟨⟩⟩)))
end
section
set_option maxRecDepth 100000
theorem Eg(x:ck)(r row s:Int)(qT:x.av.length≤1048576):So 165 [.agg (b7 x),aM r,aM row,aM s] [.a (.sl .int (jS x.av.length r row s))]:=by
 refine aC X call165 func165 ntmps165 rfl rfl ?_
 intro zb
 have hw:aq.wrap ((x.av.length:Int)-1)=(x.av.length:Int)-1:=cV (by omega)
 refine aF X [1,2,3,4] rfl (aT X [1,2,3,4,9] rfl (by and_intros<;>first|exact⟨⟩|exact rfl) (ah (aF X [1,2,3,9,16,17] rfl ?_)))
 refine aG (aW (fun k=>k≤(x.av.length-1)) (fun k:Nat=> [(17, .one ((aM k)))]) (fun k=> [(11, .arr .int ((jS x.av.length r row s).take k))]) (fun k=>(x.av.length-1)-k) 0 (fun k=>rfl) (aD _) rfl ?_)
 intro k hk
 have hle:=cG (jS x.av.length r row s) k
 have hrl:=pO x.av.length r row s
 refine aF X [1,2,3,9,16,17,18] rfl ?_
 refine ah (aA rfl ?_ ?_)<;>intro hb0
 ·try simp only[bO]at hb0
  rw[Td _ qT]at hb0
  have hs:=Fv x.av.length r row s k (by omega)
  refine aE (ah (aG (aF X [1,2,3,9,10,16,17] rfl (bH X [(28,11)] [(26,⟨false,[aM (kh s [229,r,row,(k:Int)])]⟩)] [1,2,3,9,16,17] [] rfl (by(repeat' with_reducible first|exact bF|refine bJ ?_ ?_|apply aO)<;>first|exact(cZ s [229,r,row,(k:Int)] (by first|assumption|omega| (simp;done)| (simp;omega)))|exact rfl|exact⟨rfl,bM _ (by decide)⟩| (simp only[gb,maxLen,lens];omega)) ?_))))
  refine cW X [1,2,3,9,16,17] rfl ?_
  refine⟨k+1,by omega,by omega,?_⟩
  rw[dh _ k rfl (by omega),hs]
  try rfl
 ·try simp only[bO]at hb0
  rw[Td _ qT]at hb0
  exact bp (aF X [8] rfl (az (aj rfl ⟨by rw[aB (by omega)],⟨⟩⟩)))
end
section
set_option maxRecDepth 100000
theorem eL(d:DB)(hs0:fU aQ d.rows≤1048576):So 148 [.agg (bL d)] [.agg (bL d)]:=by
 refine aC X call148 func148 ntmps148 rfl rfl ?_
 intro zb
 exact aF X [1,2] rfl (aS X [] [(5,⟨true,[.a (.sl (.sl .u8) d.rows)]⟩)] [2] [] rfl (by(with_reducible and_intros)<;>first|exact⟨⟩|exact(pJ d.rows (by first|assumption|omega| (simp;done)| (simp;omega)))) (az (aj rfl ⟨rfl,⟨⟩⟩)))
theorem gW(d:DB)(hs0:fU aQ d.rows≤1048576):So 94 [.agg (bL d)] [.agg (bL d)]:=by
 refine aC X call94 func94 ntmps94 rfl rfl ?_
 intro zb
 exact aF X [1,2] rfl (aS X [] [(5,⟨true,[.a (.sl (.sl .u8) d.rows)]⟩)] [2] [] rfl (by(with_reducible and_intros)<;>first|exact⟨⟩|exact(uC d.rows (by first|assumption|omega| (simp;done)| (simp;omega)))) (az (aj rfl ⟨rfl,⟨⟩⟩)))
theorem sU(rows:Int):So 219 [aM rows] [.agg (bL (fk rows))]:=by
 refine aC X call219 func219 ntmps219 rfl rfl ?_
 intro zb
 refine aF X [0,2] rfl (aF X [0,2,3] rfl (l6 3 0 60 (.sl .u8) rfl (ah (aS X [] [(6,⟨false,[bl (inr rows 0 64)]⟩)] [0,2,3,6] [] rfl (by(with_reducible and_intros)<;>first|exact⟨⟩|exact(bB rows 0 64)) ?_))))
 refine aA rfl ?_ ?_<;>intro hb0
 ·try simp only[bO]at hb0
  refine aF X [2,3,7,8] rfl ?_
  refine aG (aW (fun k=>k≤rows.toNat) (fun k:Nat=> [(8, .one ((aM k)))]) (fun k=> [(60, .arr (.sl .u8) ((fk rows).rows.take k))]) (fun k=>rows.toNat-k) 0 (fun k=>rfl) (aD _) rfl ?_)
  intro k hk
  have hle:=cG (fk rows).rows k
  have hnl:=rR rows
  refine aF X [2,3,7,8,9] rfl ?_
  refine ah (aA rfl ?_ ?_)<;>intro cx
  ·try simp only[bO]at cx
   have hs:=Is rows k (by omega) (by omega)
   refine aE (ah (aG (aX X [(14,60)] [(500013,⟨true,[]⟩)] [2,3,7,8] [] 15 0 MO (by kernel_rfl) rfl (by kernel_rfl) (by and_intros<;>first|exact⟨⟩| (intros;omega)|exact rfl| (simp only[gb,maxLen,lens];omega)) (cW X [2,3,7,8] rfl ?_))))
   refine⟨k+1,by omega,by omega,?_⟩
   rw[dh _ k rfl (by omega),hs]
   try rfl
  ·try simp only[bO]at cx
   exact bp (aT X [2] rfl (by trivial) (az (aj rfl ⟨by rw[KH _ _ (by omega)],⟨⟩⟩)))
 ·try simp only[bO]at hb0
  exact aE (aT X [2] rfl (by trivial) (az (aj rfl ⟨by unfold fk;dsimp only;rw[if_neg (by omega)],⟨⟩⟩)))
theorem Cv(d:DB)(i:Int)(c:List UInt8)(hs0:fU aQ d.rows≤1048576)(hc:c.length≤1048576):So 251 [.agg (bL d),aM i, .a (.sl .u8 c)] [.agg (bL (Fx d i c)),bl (ou d i c)]:=by
 refine aC X call251 func251 ntmps251 rfl rfl ?_
 intro zb
 have oO:d.rows.length≤1048576:=gr hs0
 refine aF X [1,2,3,6] rfl (aS X [] [(10,⟨true,[.agg (bL d)]⟩)] [1,2,3,6,8] [] rfl (by(with_reducible and_intros)<;>first|exact⟨⟩|exact(eL d (by first|assumption|omega| (simp;done)| (simp;omega)))) (ah (ah ?_)))
 have t1:=(bB i 0 (aq.wrap ((d.rows.length:Int)-1)))
 refine bH X [] [(16,⟨false,dH t1⟩)] [1,2,6,8,22] [] rfl (by(with_reducible and_intros)<;>first|exact⟨⟩|exact t1) ?_
 refine aA rfl ?_ ?_<;>intro hb0
 ·have JW:ou d i c=false:=dG hb0 (by simp only[ou,bG]<;>first|rfl|ac_rfl)
  exact aT X [6,7] rfl (by trivial) (az (aj rfl ⟨by rw[KI JW],by rw[JW],⟨⟩⟩))
 ·have JW:ou d i c=true:=dF hb0 (by simp only[ou,bG]<;>first|rfl|ac_rfl)
  have hrb:=Gv oO JW
  exact aE (ah (aX X [] [(28,⟨true,[.a (.sl .u8 _)]⟩)] [6,8] [] 63 0 MO (by kernel_rfl) rfl (by kernel_rfl) (by(with_reducible and_intros)<;>first|exact⟨⟩|exact(eH _ (by first|assumption|omega| (simp;done)| (simp;omega)))| (intros;omega)) (aT X [6,7] rfl (by trivial) (az (aj rfl ⟨by rw[uZ JW],by rw[JW],⟨⟩⟩)))))
theorem mA(a b:DB)(hs0:fU aQ a.rows≤1048576)(hs1:fU aQ b.rows≤1048576):So 163 [.agg (bL a), .agg (bL b)] [.agg (bL (jl a b)),bl (k7 a b)]:=by
 refine aC X call163 func163 ntmps163 rfl rfl ?_
 intro zb
 have hla:a.rows.length≤1048576:=gr hs0
 have hlb:b.rows.length≤1048576:=gr hs1
 refine aF X [2,3,4] rfl (aS X [] [(10,⟨true,[.agg (bL a)]⟩)] [2,3,4,6] [] rfl (by(with_reducible and_intros)<;>first|exact⟨⟩|exact(eL a (by first|assumption|omega| (simp;done)| (simp;omega)))) (ah (aS X [] [(12,⟨false,[bl (eC a)]⟩),(16,⟨false,[bl (eC b)]⟩)] [3,4,6,27] [] rfl (by(with_reducible and_intros);(iterate 2 all_goals try first|exact⟨⟩|exact(fN a)|exact fun _=>(fN b))) ?_)))
 refine aA rfl ?_ ?_<;>intro hb0
 ·have AA:k7 a b=false:=dG hb0 (by simp only[k7,bG]<;>first|rfl|ac_rfl)
  exact aT X [4,5] rfl (by trivial) (az (aj rfl ⟨by rw[va AA],by rw[AA],⟨⟩⟩))
 ·have AA:k7 a b=true:=dF hb0 (by simp only[k7,bG]<;>first|rfl|ac_rfl)
  have hxb:=wg AA
  have hxl:=lQ AA
  refine aE (ah (aF X [4,6,30,31,32] rfl ?_))
  refine aG (aW (fun k=>k≤b.rows.length) (fun k:Nat=> [(32, .one ((aM k)))]) (fun k=> [(10, .arr (.sl .u8) ((jy a b).take k++a.rows.drop k))]) (fun k=>b.rows.length-k) 0 (fun k=>rfl) (aD _) rfl ?_)
  intro k hk
  have hle:=nX (jy a b) a.rows k hxl (by omega)
  refine aF X [4,6,30,31,32,33] rfl ?_
  refine ah (aA rfl ?_ ?_)<;>intro cx
  ·try simp only[bO]at cx
   have hs:=OJ AA k cx
   have ajU:(a.rows.getD k (aP (.sl .u8))).length≤1048576:=by rw[p9 hxb.1 k (by omega)];decide
   have amt:(b.rows.getD k (aP (.sl .u8))).length≤1048576:=by rw[p9 hxb.2.1 k (by omega)];decide
   have hel:(((jy a b).take k++a.rows.drop k).getD k (aP (.sl .u8))).length≤1048576:=by rw[ac1 AA k cx];exact ajU
   refine aE (ah (aG (aT X [4,6,7,8,30,31,32] rfl (by and_intros<;>first|exact⟨⟩| (intros;omega)) ?_)))
   have t1:=(mT (((jy a b).take k++a.rows.drop k).getD k (aP (.sl .u8))) (b.rows.getD k (aP (.sl .u8))) (by first|assumption|omega| (simp;done)| (simp;omega)) (by first|assumption|omega| (simp;done)| (simp;omega)))
   refine aX X [] [(46,⟨true,dH t1⟩)] [4,6,30,31,32] [] 2047 0 MO (by kernel_rfl) rfl (by kernel_rfl) (by(with_reducible and_intros)<;>first|exact⟨⟩|exact t1| (intros;omega)) (cW X [4,6,30,31,32] rfl ?_)
   refine⟨k+1,by omega,by omega,?_⟩
   rw[dh _ k rfl (by omega),hs]
   try rfl
  ·try simp only[bO]at cx
   exact bp (aT X [4,5] rfl (by trivial) (az (aj rfl ⟨by rw[rE _ _ _ hxl (by omega),rT AA],by rw[AA],⟨⟩⟩)))
theorem Cw(x:ck)(c:Int)(qT:x.av.length≤1048576):So 154 [.agg (b7 x),aM c] [.a (.sl .int (jz x c))]:=by
 refine aC X call154 func154 ntmps154 rfl rfl ?_
 intro zb
 have hw:aq.wrap ((x.av.length:Int)-1)=(x.av.length:Int)-1:=cV (by omega)
 refine aF X [1,2] rfl (aT X [1,2,5] rfl (by and_intros<;>first|exact⟨⟩|exact rfl) (ah (aF X [1,2,5,12,13] rfl ?_)))
 refine aG (aW (fun k=>k≤(x.av.length-1)) (fun k:Nat=> [(13, .one ((aM k)))]) (fun k=> [(7, .arr .int ((jz x c).take k))]) (fun k=>(x.av.length-1)-k) 0 (fun k=>rfl) (aD _) rfl ?_)
 intro k hk
 have hle:=cG (jz x c) k
 have hrl:=nj x c
 refine aF X [1,2,5,12,13,14] rfl ?_
 refine ah (aA rfl ?_ ?_)<;>intro hb0
 ·try simp only[bO]at hb0
  rw[Td _ qT]at hb0
  have hs:=Fy x c k (by omega)
  refine aE (ah (aG (aF X [1,2,5,6,12,13] rfl (bH X [(26,7)] [(24,⟨false,[aM (kh x.seed [223,x.round,c,(k:Int)])]⟩)] [1,2,5,12,13] [] rfl (by(repeat' with_reducible first|exact bF|refine bJ ?_ ?_|apply aO)<;>first|exact(cZ x.seed [223,x.round,c,(k:Int)] (by first|assumption|omega| (simp;done)| (simp;omega)))|exact rfl|exact⟨rfl,bM _ (by decide)⟩| (simp only[gb,maxLen,lens];omega)) ?_))))
  refine cW X [1,2,5,12,13] rfl ?_
  refine⟨k+1,by omega,by omega,?_⟩
  rw[dh _ k rfl (by omega),hs]
  try rfl
 ·try simp only[bO]at hb0
  rw[Td _ qT]at hb0
  exact bp (aF X [4] rfl (az (aj rfl ⟨by rw[aB (by omega)],⟨⟩⟩)))
theorem sV(rows:Int):So 238 [aM rows] [.agg (bL (fk rows))]:=by
 refine aC X call238 func238 ntmps238 rfl rfl ?_
 intro zb
 refine aF X [0,2] rfl (aF X [0,2,3] rfl (l6 3 0 60 (.sl .u8) rfl (ah (aF X [0,2,3,4] rfl ?_))))
 refine aG (aW (fun k=>k≤(fk rows).rows.length) (fun k:Nat=> [(4, .one ((aM k)))]) (fun k=> [(60, .arr (.sl .u8) ((fk rows).rows.take k))]) (fun k=>(fk rows).rows.length-k) 0 (fun k=>rfl) (aD _) rfl ?_)
 intro k hk
 have hle:=cG (fk rows).rows k
 have hnl:=rR rows
 refine ah (aF X [0,2,3,4,12] rfl ?_)
 refine aA rfl ?_ ?_<;>intro hb0
 ·try simp only[bO]at hb0
  have hin:=YZ rows k (by omega) (by omega)
  have hs:=Is rows k (by omega) (by omega)
  refine aE (ah (aG (aX X [(19,60)] [(500018,⟨true,[]⟩)] [0,2,3,4] [] 15 0 MO (by kernel_rfl) rfl (by kernel_rfl) (by and_intros<;>first|exact⟨⟩| (intros;omega)|exact rfl| (simp only[gb,maxLen,lens];omega)) (cW X [0,2,3,4] rfl ?_))))
  refine⟨k+1,by omega,by omega,?_⟩
  rw[dh _ k rfl (by omega),hs]
  try rfl
 ·try simp only[bO]at hb0
  exact bp (aT X [2] rfl (by trivial) (az (aj rfl ⟨by rw[KH _ _ (by omega)],⟨⟩⟩)))
theorem Cx(d:DB)(i:Int)(c:List UInt8)(hs0:fU aQ d.rows≤1048576)(hc:c.length≤1048576):So 237 [.agg (bL d),aM i, .a (.sl .u8 c)] [.agg (bL (Fx d i c)),bl (ou d i c)]:=by
 refine aC X call237 func237 ntmps237 rfl rfl ?_
 intro zb
 have oO:d.rows.length≤1048576:=gr hs0
 refine aF X [1,2,3,6] rfl (aS X [] [(10,⟨true,[.agg (bL d)]⟩)] [1,2,3,6,8] [] rfl (by(with_reducible and_intros)<;>first|exact⟨⟩|exact(gW d (by first|assumption|omega| (simp;done)| (simp;omega)))) (ah (ah ?_)))
 have t1:=(bY i 0 (aq.wrap ((d.rows.length:Int)-1)))
 refine bH X [] [(16,⟨false,dH t1⟩)] [1,2,6,8,22] [] rfl (by(with_reducible and_intros)<;>first|exact⟨⟩|exact t1) ?_
 refine aA rfl ?_ ?_<;>intro hb0
 ·have JW:ou d i c=false:=dG hb0 (by simp only[ou,bG]<;>first|rfl|ac_rfl)
  exact aT X [6,7] rfl (by trivial) (az (aj rfl ⟨by rw[KI JW],by rw[JW],⟨⟩⟩))
 ·have JW:ou d i c=true:=dF hb0 (by simp only[ou,bG]<;>first|rfl|ac_rfl)
  have hrb:=Gv oO JW
  exact aE (ah (aX X [(29,27)] [] [6,8] [] 95 5 MO (by kernel_rfl) rfl (by kernel_rfl) (by and_intros<;>first|exact⟨⟩| (intros;omega)|exact rfl| (simp only[gb,maxLen,lens];omega)) (aT X [6,7] rfl (by trivial) (az (aj rfl ⟨by rw[uZ JW];rfl,by rw[JW],⟨⟩⟩)))))
theorem mC(a b:DB)(hs0:fU aQ a.rows≤1048576)(hs1:fU aQ b.rows≤1048576):So 195 [.agg (bL a), .agg (bL b)] [.agg (bL (jl a b)),bl (k7 a b)]:=by
 refine aC X call195 func195 ntmps195 rfl rfl ?_
 intro zb
 have hla:a.rows.length≤1048576:=gr hs0
 have hlb:b.rows.length≤1048576:=gr hs1
 refine aF X [2,3,4] rfl (ah (aS X [] [(9,⟨false,[bl (eC a)]⟩),(13,⟨false,[bl (eC b)]⟩)] [2,3,4,24] [] rfl (by(with_reducible and_intros);(iterate 2 all_goals try first|exact⟨⟩|exact(eX a)|exact fun _=>(eX b))) ?_))
 refine aA rfl ?_ ?_<;>intro hb0
 ·have AA:k7 a b=false:=dG hb0 (by simp only[k7,bG]<;>first|rfl|ac_rfl)
  exact aS X [] [(26,⟨true,[.agg (bL a)]⟩)] [4,5] [] rfl (by(with_reducible and_intros)<;>first|exact⟨⟩|exact(gW a (by first|assumption|omega| (simp;done)| (simp;omega)))) (az (aj rfl ⟨by rw[va AA],by rw[AA],⟨⟩⟩))
 ·have AA:k7 a b=true:=dF hb0 (by simp only[k7,bG]<;>first|rfl|ac_rfl)
  have hxb:=wg AA
  have hxl:=lQ AA
  refine aE (aF X [2,3,4,6] rfl (l6 6 0 60 (.sl .u8) rfl (ah (aF X [2,3,4,6,7] rfl ?_))))
  refine aG (aW (fun k=>k≤a.rows.length) (fun k:Nat=> [(7, .one ((aM k)))]) (fun k=> [(60, .arr (.sl .u8) ((jy a b).take k))]) (fun k=>a.rows.length-k) 0 (fun k=>rfl) (aD _) rfl ?_)
  intro k hk
  have hle:=cG (jy a b) k
  refine ah (aF X [2,3,4,6,7,32] rfl ?_)
  refine aA rfl ?_ ?_<;>intro cx
  ·try simp only[bO]at cx
   have hs:=OI AA k cx
   have ajU:(a.rows.getD k (aP (.sl .u8))).length≤1048576:=by rw[p9 hxb.1 k (by omega)];decide
   have amt:(b.rows.getD k (aP (.sl .u8))).length≤1048576:=by rw[p9 hxb.2.1 k (by omega)];decide
   refine aE (ah (aG ?_))
   have t1:=(mU (a.rows.getD k (aP (.sl .u8))) (b.rows.getD k (aP (.sl .u8))) (by first|assumption|omega| (simp;done)| (simp;omega)) (by first|assumption|omega| (simp;done)| (simp;omega)))
   refine aX X [(49,60)] [(47,⟨true,dH t1⟩),(500048,⟨true,[]⟩)] [2,3,4,6,7] [] 16383 0 MO (by kernel_rfl) rfl (by kernel_rfl) (by(repeat' with_reducible first|exact bF|refine bJ ?_ ?_|apply aO)<;>first|exact t1| (intros;omega)|exact rfl|exact⟨rfl,bM _ (by decide)⟩| (simp only[gb,maxLen,lens];omega)) ?_
   refine cW X [2,3,4,6,7] rfl ?_
   refine⟨k+1,by omega,by omega,?_⟩
   rw[dh _ k rfl (by omega),hs]
   try rfl
  ·try simp only[bO]at cx
   exact bp (aT X [4,5] rfl (by trivial) (az (aj rfl ⟨by rw[aB (by omega),rT AA],by rw[AA],⟨⟩⟩)))
theorem Cy(x:ck)(c:Int)(qT:x.av.length≤1048576):So 191 [.agg (b7 x),aM c] [.a (.sl .int (jz x c))]:=by
 refine aC X call191 func191 ntmps191 rfl rfl ?_
 intro zb
 have hw:aq.wrap ((x.av.length:Int)-1)=(x.av.length:Int)-1:=cV (by omega)
 refine aF X [1,2] rfl (aT X [1,2,5] rfl (by and_intros<;>first|exact⟨⟩|exact rfl) (ah (aF X [1,2,5,6] rfl ?_)))
 refine aG (aW (fun k=>k≤(x.av.length-1)) (fun k:Nat=> [(6, .one ((aM k)))]) (fun k=> [(7, .arr .int ((jz x c).take k))]) (fun k=>(x.av.length-1)-k) 0 (fun k=>rfl) (aD _) rfl ?_)
 intro k hk
 have hle:=cG (jz x c) k
 have hrl:=nj x c
 refine ah (aF X [1,2,5,6,13] rfl ?_)
 refine aA rfl ?_ ?_<;>intro hb0
 ·try simp only[bO]at hb0
  rw[hw]at hb0
  have hs:=Fy x c k (by omega)
  refine aE (ah (aG (bH X [(26,7)] [(24,⟨false,[aM (kh x.seed [223,x.round,c,(k:Int)])]⟩)] [1,2,5,6] [] rfl (by(repeat' with_reducible first|exact bF|refine bJ ?_ ?_|apply aO)<;>first|exact(cF x.seed [223,x.round,c,(k:Int)] (by first|assumption|omega| (simp;done)| (simp;omega)))|exact rfl|exact⟨rfl,bM _ (by decide)⟩| (simp only[gb,maxLen,lens];omega)) ?_)))
  refine cW X [1,2,5,6] rfl ?_
  refine⟨k+1,by omega,by omega,?_⟩
  rw[dh _ k rfl (by omega),hs]
  try rfl
 ·try simp only[bO]at hb0
  rw[hw]at hb0
  exact bp (aF X [4] rfl (az (aj rfl ⟨by rw[aB (by omega)],⟨⟩⟩)))
theorem Ek(rows i:Int)(c:List UInt8)(hc:c.length≤1048576):So 215 [aM rows,aM i, .a (.sl .u8 c)] [.agg (bL (Ng rows i c)),bl (qB rows i c)]:=by
 refine aC X call215 func215 ntmps215 rfl rfl ?_
 intro zb
 have hz:=KJ rows
 refine aF X [0,1,2,6] rfl (ah (aS X [] [(9,⟨false,[bl (inr rows 1 64)]⟩)] [0,1,2,6,10] [] rfl (by(with_reducible and_intros)<;>first|exact⟨⟩|exact(bB rows 1 64)) ?_))
 refine aA rfl ?_ ?_<;>intro hb0
 ·have hk:inr rows 1 64=false:=by simpa using hb0
  exact aT X [6,7] rfl (by trivial) (az (aj rfl ⟨by rw[Ng,hk];rfl,by rw[qB,hk];rfl,⟨⟩⟩))
 ·have hk:inr rows 1 64=true:=by simpa using hb0
  refine aE (ah ?_)
  have t1:=(Cv (fk rows) i c (by first|assumption|omega| (simp;done)| (simp;omega)) (by first|assumption|omega| (simp;done)| (simp;omega)))
  exact bH X [] [(13,⟨true,[.agg (bL (fk rows))]⟩),(16,⟨true,dH t1⟩)] [6,7] [] rfl (by(with_reducible and_intros);(iterate 2 all_goals try first|exact⟨⟩|exact(sU rows)|exact t1)) (az (aj rfl ⟨by rw[Ng,if_pos hk],by rw[qB,hk];rfl,⟨⟩⟩))
end
section
set_option maxRecDepth 100000
theorem Em(rows i:Int)(c:List UInt8)(sd:List Int)(hc:c.length≤1048576)(Cd:sd.length≤1048576):So 153 [aM rows,aM i, .a (.sl .u8 c), .a (.sl .int sd)] [.a (.sl .DB (qX rows i c sd))]:=by
 refine aC X call153 func153 ntmps153 rfl rfl ?_
 intro zb
 refine aF X [0,1,2,3] rfl (aS X [] [(20,⟨true,[.agg (bL (Ng rows i c)),bl (qB rows i c)]⟩)] [0,3,9,10] [] rfl (by(with_reducible and_intros)<;>first|exact⟨⟩|exact(Ek rows i c (by first|assumption|omega| (simp;done)| (simp;omega)))) (ah (aS X [] [(29,⟨false,[bl (eA (aq.wrap ((sd.length:Int)+1)))]⟩)] [0,3,9,31] [] rfl (by(with_reducible and_intros)<;>first|exact⟨⟩|exact fun _=>(ia (aq.wrap ((sd.length:Int)+1)))) ?_)))
 refine aA rfl ?_ ?_<;>intro hb0
 ·have hmk:tI rows i c sd=false:=dG hb0 (by simp only[tI,bG]<;>first|rfl|ac_rfl)
  exact aF X [8] rfl (az (aj rfl ⟨by rw[qX,if_neg (by rw[hmk];decide)],⟨⟩⟩))
 ·have hmk:tI rows i c sd=true:=dF hb0 (by simp only[tI,bG]<;>first|rfl|ac_rfl)
  have hml:=OS hmk Cd
  have hun:=Ba hml.1
  refine aE (aT X [0,3,9,11] rfl (by and_intros<;>first|exact⟨⟩|exact rfl) (ah (aF X [0,9,11,33,34,35] rfl ?_)))
  refine aG (aW (fun k=>k≤sd.length) (fun k:Nat=> [(35, .one ((aM k)))]) (fun k=> [(32, .arr .DB ((sd.take k).map fun s=>JX s rows)),(20, .arr (.sl .u8) (qW rows i c (sd.take k)).rows)]) (fun k=>sd.length-k) 0 (fun k=>rfl) (aD _) rfl ?_)
  intro k hk
  have hle:=cG sd k
  have hlo:=IB hml.1 (sd.take k)
  have hlz:=gz hlo
  refine aF X [0,9,11,33,34,35,36] rfl ?_
  refine ah (aA rfl ?_ ?_)<;>intro cx
  ·try simp only[bO]at cx
   have hs:=qw (fun s=>JX s rows) sd k (aP .int) cx
   have xB:=IA rows i c sd k cx
   have hmo:=Iz (sd.getD k (aP .int)) rows hun.2.2
   have hmz:=gz hmo
   refine aE (ah (aG (aT X [0,9,11,13,33,34,35] rfl (by and_intros<;>first|exact⟨⟩| (intros;omega)) (aF X [0,9,11,13,14,33,34,35] rfl (l6 14 0 60 (.sl .u8) rfl (ah (aF X [0,9,11,13,14,33,34,35,40,41] rfl ?_)))))))
   refine aG (aW (fun k1=>k1≤rows.toNat) (fun k1:Nat=> [(41, .one ((aM k1)))]) (fun k1=> [(60, .arr (.sl .u8) ((jZ (sd.getD k (aP .int)) rows).take k1))]) (fun k1=>rows.toNat-k1) 0 (fun k1=>rfl) (aD _) rfl ?_)
   intro k1 hk1
   have acW:=cG (jZ (sd.getD k (aP .int)) rows) k1
   refine aF X [0,9,11,13,14,33,34,35,40,41,42] rfl ?_
   refine ah (aA rfl ?_ ?_)<;>intro dY
   ·try simp only[bO]at dY
    have hs1:=Cz (sd.getD k (aP .int)) rows k1 (by omega)
    refine aE (ah (aG (aF X [0,9,11,13,14,15,33,34,35,40,41] rfl ?_)))
    have t1:=(m8 (aq.wrap ((sd.getD k (aP .int))+aq.wrap (1000*(k1:Int)))) 24 (by first|assumption|omega| (simp;done)| (simp;omega)) (by first|assumption|omega| (simp;done)| (simp;omega)))
    refine aX X [(52,60)] [(50,⟨true,dH t1⟩),(500051,⟨true,[]⟩)] [0,9,11,13,14,33,34,35,40,41] [] 255 0 MO (by kernel_rfl) rfl (by kernel_rfl) (by(repeat' with_reducible first|exact bF|refine bJ ?_ ?_|apply aO)<;>first|exact t1|exact rfl|exact⟨rfl,bM _ (by decide)⟩| (simp only[gb,maxLen,lens];omega)) ?_
    refine cW X [0,9,11,13,14,33,34,35,40,41] rfl ?_
    refine⟨k1+1,by omega,by omega,?_⟩
    rw[dh _ k1 rfl (by omega),hs1]
    try rfl
   ·try simp only[bO]at dY
    rw[aB (show(jZ (sd.getD k (aP .int)) rows).length≤k1 by rw[nF];omega)]
    refine bp (ah (Te X [(58,32)] [] [0,9,11,14,33,34,35] 2 32 rfl (by and_intros<;>first|exact⟨⟩|exact rfl| (simp only[gb,maxLen,lens];omega)) ?_))
    have t1:=(mA (qW rows i c (sd.take k)) (JX (sd.getD k (aP .int)) rows) (by first|assumption|omega| (simp;done)| (simp;omega)) (by first|assumption|omega| (simp;done)| (simp;omega)))
    refine bH X [] [(62,⟨true,dH t1⟩)] [0,9,11,33,34,35] [] rfl (by(with_reducible and_intros)<;>first|exact⟨⟩|exact t1) (pP 9 0 20 rfl (cW X [0,9,11,33,34,35] rfl ?_))
    refine⟨k+1,by omega,by omega,?_⟩
    rw[dh _ k rfl (by omega),hs,xB]
    try rfl
  ·try simp only[bO]at cx
   exact bp (aS X [(69,32)] [] [8] [] rfl (by and_intros<;>first|exact⟨⟩|exact rfl| (simp only[gb,maxLen,lens];omega)) (az (aj rfl ⟨by rw[aB cx,qX,if_pos hmk],⟨⟩⟩)))
theorem JY(rows i:Int)(c:List UInt8):So 236 [aM rows,aM i, .a (.sl .u8 c)] [bl (qB rows i c)]:=by
 refine aC X call236 func236 ntmps236 rfl rfl ?_
 intro zb
 exact aF X [0,1,2] rfl (aS X [] [(8,⟨false,[bl (inr rows 1 64)]⟩),(13,⟨false,[bl (inr i 0 (aq.wrap (rows-1)))]⟩)] [6] [] rfl (by(with_reducible and_intros);(iterate 2 all_goals try first|exact⟨⟩|exact(bY rows 1 64)|exact fun _=>(bY i 0 (aq.wrap (rows-1))))) (az (aj rfl ⟨by rw[IC];exact(congrArg dS (by simp only[bG]<;>first|rfl|ac_rfl)),⟨⟩⟩)))
theorem En(rows i:Int)(c:List UInt8)(sd:List Int)(hc:c.length≤1048576)(Cd:sd.length≤1048576):So 190 [aM rows,aM i, .a (.sl .u8 c), .a (.sl .int sd)] [.a (.sl .DB (qX rows i c sd))]:=by
 refine aC X call190 func190 ntmps190 rfl rfl ?_
 intro zb
 have hz:=KJ rows
 refine aF X [0,1,2,3] rfl (aT X [0,1,2,3,9] rfl (by and_intros<;>first|exact⟨⟩|exact rfl) (ah (aS X [] [(19,⟨false,[bl (qB rows i c)]⟩),(25,⟨false,[bl (eA (aq.wrap ((sd.length:Int)+1)))]⟩)] [0,1,2,3,9,27] [] rfl (by(with_reducible and_intros);(iterate 2 all_goals try first|exact⟨⟩|exact(JY rows i c)|exact fun _=>(ke (aq.wrap ((sd.length:Int)+1))))) ?_)))
 refine aA rfl ?_ ?_<;>intro hb0
 ·have hmk:tI rows i c sd=false:=dG hb0 (by simp only[tI,bG]<;>first|rfl|ac_rfl)
  exact aF X [8] rfl (az (aj rfl ⟨by rw[qX,if_neg (by rw[hmk];decide)],⟨⟩⟩))
 ·have hmk:tI rows i c sd=true:=dF hb0 (by simp only[tI,bG]<;>first|rfl|ac_rfl)
  have hml:=OS hmk Cd
  have hun:=Ba hml.1
  refine aE (ah ?_)
  have t1:=(Cx (fk rows) i c (by first|assumption|omega| (simp;done)| (simp;omega)) (by first|assumption|omega| (simp;done)| (simp;omega)))
  refine bH X [] [(31,⟨true,[.agg (bL (fk rows))]⟩),(34,⟨true,dH t1⟩)] [0,3,9,10] [] rfl (by(with_reducible and_intros);(iterate 2 all_goals try first|exact⟨⟩|exact(sV rows)|exact t1)) ?_
  rw[ac7 hmk]
  refine ah (aF X [0,3,9,10,12] rfl ?_)
  refine aG (aW (fun k=>k≤sd.length) (fun k:Nat=> [(12, .one ((aM k)))]) (fun k=> [(15, .arr .DB ((sd.take k).map fun s=>JX s rows)),(34, .arr (.sl .u8) (qW rows i c (sd.take k)).rows)]) (fun k=>sd.length-k) 0 (fun k=>rfl) (aD _) rfl ?_)
  intro k hk
  have hle:=cG sd k
  have hlo:=IB hml.1 (sd.take k)
  have hlz:=gz hlo
  refine ah (aF X [0,3,9,10,12,40] rfl ?_)
  refine aA rfl ?_ ?_<;>intro cx
  ·try simp only[bO]at cx
   have hs:=qw (fun s=>JX s rows) sd k (aP .int) cx
   have xB:=IA rows i c sd k cx
   have hmo:=Iz (sd.getD k (aP .int)) rows hun.2.2
   have hmz:=gz hmo
   refine aE (ah (aG (aF X [0,3,9,10,12,13] rfl (l6 13 0 60 (.sl .u8) rfl (ah (aF X [0,3,9,10,12,13,14] rfl ?_))))))
   refine aG (aW (fun k1=>k1≤rows.toNat) (fun k1:Nat=> [(14, .one ((aM k1)))]) (fun k1=> [(60, .arr (.sl .u8) ((jZ (sd.getD k (aP .int)) rows).take k1))]) (fun k1=>rows.toNat-k1) 0 (fun k1=>rfl) (aD _) rfl ?_)
   intro k1 hk1
   have acW:=cG (jZ (sd.getD k (aP .int)) rows) k1
   refine ah (aF X [0,3,9,10,12,13,14,46] rfl ?_)
   refine aA rfl ?_ ?_<;>intro dY
   ·try simp only[bO]at dY
    have hs1:=Cz (sd.getD k (aP .int)) rows k1 (by omega)
    refine aE (ah (aG ?_))
    have t1:=(ng (aq.wrap ((sd.getD k (aP .int))+aq.wrap (1000*(k1:Int)))) 24 (by first|assumption|omega| (simp;done)| (simp;omega)) (by first|assumption|omega| (simp;done)| (simp;omega)))
    refine aX X [(60,60)] [(58,⟨true,dH t1⟩),(500059,⟨true,[]⟩)] [0,3,9,10,12,13,14] [] 2047 0 MO (by kernel_rfl) rfl (by kernel_rfl) (by(repeat' with_reducible first|exact bF|refine bJ ?_ ?_|apply aO)<;>first|exact t1| (intros;omega)|exact rfl|exact⟨rfl,bM _ (by decide)⟩| (simp only[gb,maxLen,lens];omega)) ?_
    refine cW X [0,3,9,10,12,13,14] rfl ?_
    refine⟨k1+1,by omega,by omega,?_⟩
    rw[dh _ k1 rfl (by omega),hs1]
    try rfl
   ·try simp only[bO]at dY
    rw[aB (show(jZ (sd.getD k (aP .int)) rows).length≤k1 by rw[nF];omega)]
    refine bp (ah ?_)
    have t1:=(mC (qW rows i c (sd.take k)) (JX (sd.getD k (aP .int)) rows) (by first|assumption|omega| (simp;done)| (simp;omega)) (by first|assumption|omega| (simp;done)| (simp;omega)))
    refine bH X [] [(65,⟨true,dH t1⟩)] [0,3,9,10,12,13] [] rfl (by(with_reducible and_intros)<;>first|exact⟨⟩|exact t1) (pP 10 0 34 rfl (bH X [(71,15)] [] [0,3,9,10,12] [] rfl (by and_intros<;>first|exact⟨⟩|exact rfl| (simp only[gb,maxLen,lens];omega)) (cW X [0,3,9,10,12] rfl ?_)))
    refine⟨k+1,by omega,by omega,?_⟩
    rw[dh _ k rfl (by omega),hs,xB]
    try rfl
  ·try simp only[bO]at cx
   exact bp (aS X [(75,15)] [] [8] [] rfl (by and_intros<;>first|exact⟨⟩|exact rfl| (simp only[gb,maxLen,lens];omega)) (az (aj rfl ⟨by rw[aB cx,qX,if_pos hmk],⟨⟩⟩)))
end
section
set_option maxRecDepth 100000
theorem Bc(x:ck)(c:Int)(qT:x.av.length≤1048576):So 99 [.agg (b7 x),aM c] [.a (.sl .DB (oz x c))]:=by
 refine aC X call99 func99 ntmps99 rfl rfl ?_
 intro zb
 refine dn 0 2 rfl rfl (fun ru=> ?_)
 have xA:=ID (jV x c) x.round x.rows
 have hwl:=nj x c
 refine aF X [1,2] rfl (ah (aS X [] [(9,⟨false,[bl (okW x)]⟩),(14,⟨false,[bl (rF x c)]⟩)] [1,2,16] [] rfl (by(with_reducible and_intros);(iterate 2 all_goals try first|exact⟨⟩|exact(fj x)|exact fun _=>(jd x c))) ?_))
 refine aA rfl ?_ ?_<;>intro hb0
 ·have hk:OU x c=false:=dG hb0 (by simp only[OU,bG]<;>first|rfl|ac_rfl)
  exact aF X [4] rfl (az (aj rfl ⟨by rw[oz,if_neg (by rw[hk];decide)],⟨⟩⟩))
 ·have hk:OU x c=true:=dF hb0 (by simp only[OU,bG]<;>first|rfl|ac_rfl)
  have hkc:=ahe hk
  refine aE (ah ?_)
  have t1:=(A6 (jV x c) x.round x.rows)
  refine aX X [] [(28,⟨true,dH t1⟩)] [1,2,5,6,7] [] 262143 0 MO (by kernel_rfl) rfl (by kernel_rfl) (by(with_reducible and_intros)<;>first|exact⟨⟩|exact t1| (intros;omega)) (ah (aF X [1,2,5,6,33] rfl ?_))
  refine aA rfl ?_ ?_<;>intro cx
  ·have hw:sQ (jV x c) x.round x.rows=false:=by simpa using cx
   exact aF X [4] rfl (az (aj rfl ⟨by rw[oz,if_pos hk,OT hw],⟨⟩⟩))
  ·refine aE (ah ?_)
   have t1:=(Em x.rows (jq (jV x c) x.round x.rows) (gl (jV x c) x.round x.rows) (jz x c) (by first|assumption|omega| (simp;done)| (simp;omega)) (by first|assumption|omega| (simp;done)| (simp;omega)))
   exact aX X [] [(40,⟨true,[.a (.sl .int (jz x c))]⟩),(41,⟨true,dH t1⟩)] [4] [] 511 0 MO (by kernel_rfl) rfl (by kernel_rfl) (by(with_reducible and_intros);(iterate 2 all_goals try first|exact⟨⟩|exact(Cw x c (by first|assumption|omega| (simp;done)| (simp;omega)))|exact t1)) (az (aj rfl ⟨by rw[oz,if_pos hk];rfl,⟨⟩⟩))
theorem Ep(x:ck)(c:Int)(qT:x.av.length≤1048576)(hc:0≤c∧c<x.af.length):So 128 [.agg (b7 x),aM c] [.a (.sl .DB (eY x c))]:=by
 refine aC X call128 func128 ntmps128 rfl rfl ?_
 intro zb
 refine dn 0 2 rfl rfl (fun ru=> ?_)
 have xA:=ID (jV x c) x.round x.rows
 have hwl:=nj x c
 refine aF X [1,2] rfl (ah ?_)
 have t1:=(A7 (jV x c) x.round x.rows)
 refine aX X [] [(19,⟨true,dH t1⟩)] [1,2,5,6] [] 262143 0 MO (by kernel_rfl) rfl (by kernel_rfl) (by(with_reducible and_intros)<;>first|exact⟨⟩|exact t1| (intros;omega)) (ah ?_)
 have t1:=(En x.rows (jq (jV x c) x.round x.rows) (gl (jV x c) x.round x.rows) (jz x c) (by first|assumption|omega| (simp;done)| (simp;omega)) (by first|assumption|omega| (simp;done)| (simp;omega)))
 exact aX X [] [(29,⟨true,[.a (.sl .int (jz x c))]⟩),(30,⟨true,dH t1⟩)] [4] [] 511 0 MO (by kernel_rfl) rfl (by kernel_rfl) (by(with_reducible and_intros);(iterate 2 all_goals try first|exact⟨⟩|exact(Cy x c (by first|assumption|omega| (simp;done)| (simp;omega)))|exact t1)) (az (aj rfl ⟨rfl,⟨⟩⟩))
end
section
set_option maxRecDepth 100000
theorem l9(m s:Int):So 102 [aM m,aM s] [aM (kG m s)]:=by
 refine aC X call102 func102 ntmps102 rfl rfl ?_
 intro zb
 refine aF X [0,1] rfl (aS X [] [(8,⟨false,[aM (kh m [173,s])]⟩),(9,⟨false,[aM (Fl (kh m [173,s]))]⟩)] [4] [] rfl (by(repeat' with_reducible first|exact bF|refine bJ ?_ ?_|apply aO);(iterate 2 all_goals try first|exact(cZ m [173,s] (by first|assumption|omega| (simp;done)| (simp;omega)))|exact(vX (kh m [173,s])));all_goals first|exact⟨rfl,bM _ (by decide)⟩) ?_)
 exact az (aj rfl ⟨rfl,⟨⟩⟩)
theorem xg(d:DB)(hs0:fU aQ d.rows≤1048576):So 218 [.agg (bL d)] [aM (Mo d)]:=by
 refine aC X call218 func218 ntmps218 rfl rfl ?_
 intro zb
 have oO:d.rows.length≤1048576:=gr hs0
 refine aF X [1] rfl (aT X [1,3] rfl (by and_intros<;>first|exact⟨⟩|exact rfl) (ah (aF X [3,11,12,13] rfl ?_)))
 refine aG (aW (fun k=>k≤d.rows.length) (fun k:Nat=> [(13, .one ((aM k)))]) (fun k=> [(9, .arr .int ((d.rows.length:Int)::(d.rows.take k).flatMap JC))]) (fun k=>d.rows.length-k) 0 (fun k=>rfl) (aD _) rfl ?_)
 intro k hk
 have Fa:=Y7 d.rows k
 refine aF X [3,11,12,13,14] rfl ?_
 refine ah (aA rfl ?_ ?_)<;>intro hb0
 ·try simp only[bO]at hb0
  have hs:=Tm d.rows k hb0
  have hel:(d.rows.getD k (aP (.sl .u8))).length≤1048576:=nN (f:=aQ) hs0 (getD_some d.rows _ k hb0)
  have Hg:=wj (d.rows.getD k (aP (.sl .u8)))
  refine aE (ah (aG (aT X [3,5,11,12,13] rfl (by and_intros<;>first|exact⟨⟩| (intros;omega)) (bH X [(20,9)] [(19,⟨true,[.a (.sl .int (JC (d.rows.getD k (aP (.sl .u8)))))]⟩)] [3,11,12,13] [] rfl (by(with_reducible and_intros)<;>first|exact⟨⟩|exact(sK (d.rows.getD k (aP (.sl .u8))) (by first|assumption|omega| (simp;done)| (simp;omega)))|exact rfl| (simp only[gb,maxLen,lens];omega)) (cW X [3,11,12,13] rfl ?_)))))
  refine⟨k+1,by omega,by omega,?_⟩
  rw[dh _ k rfl (by omega),hs]
  try rfl
 ·try simp only[bO]at hb0
  refine bp (ah ?_)
  have t1:=(yl ((d.rows.length:Int)::(d.rows.take k).flatMap JC) (by simp only[b9];omega))
  exact bH X [] [(23,⟨false,dH t1⟩)] [2] [] rfl (by(with_reducible and_intros)<;>first|exact⟨⟩|exact t1) (az (aj rfl ⟨by rw[aB hb0];rfl,⟨⟩⟩))
theorem sY(c r:Int)(d:DB)(hs0:fU aQ d.rows≤1048576):So 159 [aM c,aM r, .agg (bL d)] [aM (II c r d)]:=by
 refine aC X call159 func159 ntmps159 rfl rfl ?_
 intro zb
 refine aF X [0,1,5] rfl (aS X [] [(10,⟨false,[aM (Mo d)]⟩),(12,⟨false,[aM (hsh [179,c,r,Mo d])]⟩)] [6] [] rfl (by(repeat' with_reducible first|exact bF|refine bJ ?_ ?_|apply aO);(iterate 2 all_goals try first|exact(xg d (by first|assumption|omega| (simp;done)| (simp;omega)))|exact(yl [179,c,r,Mo d] (by first|assumption|omega| (simp;done)| (simp;omega))));all_goals first|exact⟨rfl,bM _ (by decide)⟩) ?_)
 exact az (aj rfl ⟨rfl,⟨⟩⟩)
theorem tY(key:Int)(r:gK):So 160 [aM key, .agg (nO r)] [aM (VI key r.server r.client r.round r.rY)]:=by
 refine aC X call160 func160 ntmps160 rfl rfl ?_
 intro zb
 refine aF X [0,3] rfl (ah ?_)
 have t1:=(cZ key [181,r.server,r.client,r.round,r.rY] (by first|assumption|omega| (simp;done)| (simp;omega)))
 refine bH X [] [(15,⟨false,dH t1⟩)] [4] [] rfl (by(repeat' with_reducible first|exact bF|refine bJ ?_ ?_|apply aO)<;>first|exact t1|exact⟨rfl,bM _ (by decide)⟩) ?_
 exact az (aj rfl ⟨rfl,⟨⟩⟩)
theorem Bf(key s c r:Int)(d:DB)(hs0:fU aQ d.rows≤1048576):So 101 [aM key,aM s,aM c,aM r, .agg (bL d)] [.agg (nO (mkR key s c r d))]:=by
 refine aC X call101 func101 ntmps101 rfl rfl ?_
 intro zb
 refine aF X [0,1,2,3,9,10] rfl (aS X [] [(18,⟨false,[aM (II c r d)]⟩)] [0,10,11] [] rfl (by(with_reducible and_intros)<;>first|exact⟨⟩|exact(sY c r d (by first|assumption|omega| (simp;done)| (simp;omega)))) (ah ?_))
 have t1:=(tY key (⟨s,c,r,II c r d,0⟩:gK))
 exact bH X [] [(22,⟨false,dH t1⟩)] [10,11] [] rfl (by(with_reducible and_intros)<;>first|exact⟨⟩|exact t1) (aT X [10] rfl (by trivial) (az (aj rfl ⟨rfl,rfl,rfl,rfl,rfl,⟨⟩⟩)))
theorem lq(s:bZ)(hz:s.received.length≤1048576∧ ∀r,r∈s.received→fU aQ r.share.rows≤1048576):So 147 [.agg (dB s)] [.agg (dB s)]:=by
 refine aC X call147 func147 ntmps147 rfl rfl ?_
 intro zb
 refine aF X [1,2] rfl (aT X [1,2,3] rfl (by and_intros<;>first|exact⟨⟩|exact rfl) (ah (aF X [1,2,3,8,9,10] rfl ?_)))
 refine aG (aW (fun k=>k≤s.received.length) (fun k:Nat=> [(10, .one ((aM k)))]) (fun k=> [(6, .arr .bE (s.received.take k))]) (fun k=>s.received.length-k) 0 (fun k=>rfl) (aD _) rfl ?_)
 intro k hk
 have hle:=cG s.received k
 refine aF X [1,2,3,8,9,10,11] rfl ?_
 refine ah (aA rfl ?_ ?_)<;>intro hb0
 ·try simp only[bO]at hb0
  have hs:=cM s.received k (aP .bE) hb0
  refine aE (ah (aG (aT X [1,2,3,5,8,9,10] rfl (by and_intros<;>first|exact⟨⟩| (intros;omega)) (aX X [(22,6)] [(19,⟨true,[.agg (bL ((s.received.getD k (aP .bE)).share))]⟩),(500021,⟨true,[]⟩)] [1,2,3,8,9,10] [] 255 0 MO (by kernel_rfl) rfl (by kernel_rfl) (by(repeat' with_reducible first|exact bF|refine bJ ?_ ?_|apply aO)<;>first|exact(eL ((s.received.getD k (aP .bE)).share) (hz.2 _ (getD_in _ hb0)))|exact rfl|exact⟨rfl,bM _ (by decide)⟩| (simp only[gb,maxLen,lens];omega)) ?_))))
  refine cW X [1,2,3,8,9,10] rfl ?_
  refine⟨k+1,by omega,by omega,?_⟩
  rw[dh _ k rfl (by omega),hs]
  try rfl
 ·try simp only[bO]at hb0
  exact bp (aF X [1,2] rfl (aT X [2] rfl (by trivial) (az (aj rfl ⟨rfl,rfl,rfl,by rw[aB hb0],rfl,⟨⟩⟩))))
theorem sZ(l:List bZ)(hl:l.length≤1048576)(hz: ∀s,s∈l→sW s):So 86 [.a (.sl .bZ l)] [.a (.sl .bZ l)]:=by
 refine aC X call86 func86 ntmps86 rfl rfl ?_
 intro zb
 refine aF X [0] rfl (aT X [0,3] rfl (by and_intros<;>first|exact⟨⟩|exact rfl) (ah (aF X [3,7,8,9] rfl ?_)))
 refine aG (aW (fun k=>k≤l.length) (fun k:Nat=> [(9, .one ((aM k)))]) (fun k=> [(6, .arr .bZ (l.take k))]) (fun k=>l.length-k) 0 (fun k=>rfl) (aD _) rfl ?_)
 intro k hk
 have hle:=cG l k
 refine aF X [3,7,8,9,10] rfl ?_
 refine ah (aA rfl ?_ ?_)<;>intro hb0
 ·try simp only[bO]at hb0
  have hs:=cM l k (aP .bZ) hb0
  refine aE (ah (aG (aT X [3,5,7,8,9] rfl (by and_intros<;>first|exact⟨⟩| (intros;omega)) (bH X [(17,6)] [(15,⟨true,[.agg (dB (l.getD k (aP .bZ)))]⟩)] [3,7,8,9] [] rfl (by(with_reducible and_intros)<;>first|exact⟨⟩|exact(lq (l.getD k (aP .bZ)) (hz _ (getD_in _ hb0)))|exact rfl| (simp only[gb,maxLen,lens];omega)) (cW X [3,7,8,9] rfl ?_)))))
  refine⟨k+1,by omega,by omega,?_⟩
  rw[dh _ k rfl (by omega),hs]
  try rfl
 ·try simp only[bO]at hb0
  exact bp (aF X [2] rfl (az (aj rfl ⟨by rw[aB hb0],⟨⟩⟩)))
theorem mg(m s:Int):So 131 [aM m,aM s] [aM (kG m s)]:=by
 refine aC X call131 func131 ntmps131 rfl rfl ?_
 intro zb
 refine aF X [0,1] rfl (ah ?_)
 have t1:=(sJ 1 (kh m [173,s]))
 refine bH X [] [(8,⟨false,[aM (kh m [173,s])]⟩),(9,⟨false,dH t1⟩)] [4] [] rfl (by(repeat' with_reducible first|exact bF|refine bJ ?_ ?_|apply aO);(iterate 2 all_goals try first|exact(cF m [173,s] (by first|assumption|omega| (simp;done)| (simp;omega)))|exact t1);all_goals first|exact⟨rfl,bM _ (by decide)⟩) ?_
 exact az (aj rfl ⟨by rw[Y8],⟨⟩⟩)
theorem xh(d:DB)(hs0:fU aQ d.rows≤1048576):So 240 [.agg (bL d)] [aM (Mo d)]:=by
 refine aC X call240 func240 ntmps240 rfl rfl ?_
 intro zb
 have oO:d.rows.length≤1048576:=gr hs0
 refine aF X [1] rfl (aT X [1,3] rfl (by and_intros<;>first|exact⟨⟩|exact rfl) (ah (aF X [1,3,4] rfl ?_)))
 refine aG (aW (fun k=>k≤d.rows.length) (fun k:Nat=> [(4, .one ((aM k)))]) (fun k=> [(8, .arr .int ((d.rows.length:Int)::(d.rows.take k).flatMap JC))]) (fun k=>d.rows.length-k) 0 (fun k=>rfl) (aD _) rfl ?_)
 intro k hk
 have Fa:=Y7 d.rows k
 refine ah (aF X [1,3,4,13] rfl ?_)
 refine aA rfl ?_ ?_<;>intro hb0
 ·try simp only[bO]at hb0
  have hs:=Tm d.rows k hb0
  have hel:(d.rows.getD k (aP (.sl .u8))).length≤1048576:=nN (f:=aQ) hs0 (getD_some d.rows _ k hb0)
  have Hg:=wj (d.rows.getD k (aP (.sl .u8)))
  refine aE (ah (aG (bH X [(23,8)] [(22,⟨true,[.a (.sl .int (JC (d.rows.getD k (aP (.sl .u8)))))]⟩)] [1,3,4] [] rfl (by(with_reducible and_intros)<;>first|exact⟨⟩|exact(sL (d.rows.getD k (aP (.sl .u8))) (by first|assumption|omega| (simp;done)| (simp;omega)))| (intros;omega)|exact rfl| (simp only[gb,maxLen,lens];omega)) (cW X [1,3,4] rfl ?_))))
  refine⟨k+1,by omega,by omega,?_⟩
  rw[dh _ k rfl (by omega),hs]
  try rfl
 ·try simp only[bO]at hb0
  refine bp (ah ?_)
  have t1:=(ym ((d.rows.length:Int)::(d.rows.take k).flatMap JC) (by simp only[b9];omega))
  exact bH X [] [(25,⟨false,dH t1⟩)] [2] [] rfl (by(with_reducible and_intros)<;>first|exact⟨⟩|exact t1) (az (aj rfl ⟨by rw[aB hb0];rfl,⟨⟩⟩))
theorem s6(c r:Int)(d:DB)(hs0:fU aQ d.rows≤1048576):So 192 [aM c,aM r, .agg (bL d)] [aM (II c r d)]:=by
 refine aC X call192 func192 ntmps192 rfl rfl ?_
 intro zb
 refine aF X [0,1,5] rfl (aS X [] [(10,⟨false,[aM (Mo d)]⟩),(12,⟨false,[aM (hsh [179,c,r,Mo d])]⟩)] [6] [] rfl (by(repeat' with_reducible first|exact bF|refine bJ ?_ ?_|apply aO);(iterate 2 all_goals try first|exact(xh d (by first|assumption|omega| (simp;done)| (simp;omega)))|exact(ym [179,c,r,Mo d] (by first|assumption|omega| (simp;done)| (simp;omega))));all_goals first|exact⟨rfl,bM _ (by decide)⟩) ?_)
 exact az (aj rfl ⟨rfl,⟨⟩⟩)
theorem tZ(key:Int)(r:gK):So 193 [aM key, .agg (nO r)] [aM (VI key r.server r.client r.round r.rY)]:=by
 refine aC X call193 func193 ntmps193 rfl rfl ?_
 intro zb
 refine aF X [0,3] rfl (ah ?_)
 have t1:=(cF key [181,r.server,r.client,r.round,r.rY] (by first|assumption|omega| (simp;done)| (simp;omega)))
 refine bH X [] [(15,⟨false,dH t1⟩)] [4] [] rfl (by(repeat' with_reducible first|exact bF|refine bJ ?_ ?_|apply aO)<;>first|exact t1|exact⟨rfl,bM _ (by decide)⟩) ?_
 exact az (aj rfl ⟨rfl,⟨⟩⟩)
theorem Bg(key s c r:Int)(d:DB)(hs0:fU aQ d.rows≤1048576):So 130 [aM key,aM s,aM c,aM r, .agg (bL d)] [.agg (nO (mkR key s c r d))]:=by
 refine aC X call130 func130 ntmps130 rfl rfl ?_
 intro zb
 refine aF X [0,1,2,3,9,10] rfl (aS X [] [(18,⟨false,[aM (II c r d)]⟩)] [0,10,11] [] rfl (by(with_reducible and_intros)<;>first|exact⟨⟩|exact(s6 c r d (by first|assumption|omega| (simp;done)| (simp;omega)))) (ah ?_))
 have t1:=(tZ key (⟨s,c,r,II c r d,0⟩:gK))
 exact bH X [] [(22,⟨false,dH t1⟩)] [10,11] [] rfl (by(with_reducible and_intros)<;>first|exact⟨⟩|exact t1) (aT X [10] rfl (by trivial) (az (aj rfl ⟨rfl,rfl,rfl,rfl,rfl,⟨⟩⟩)))
theorem oD(s:bZ)(hz:s.received.length≤1048576∧ ∀r,r∈s.received→fU aQ r.share.rows≤1048576):So 47 [.agg (dB s)] [.agg (dB s)]:=by
 refine aC X call47 func47 ntmps47 rfl rfl ?_
 intro zb
 refine aF X [1,2] rfl (aT X [1,2,3] rfl (by trivial) (aT X [1,2,3] rfl (by and_intros<;>first|exact⟨⟩|exact rfl) (ah (aF X [1,2,3,4] rfl ?_))))
 refine aG (aW (fun k=>k≤s.received.length) (fun k:Nat=> [(4, .one ((aM k)))]) (fun k=> [(6, .arr .bE (s.received.take k))]) (fun k=>s.received.length-k) 0 (fun k=>rfl) (aD _) rfl ?_)
 intro k hk
 have hle:=cG s.received k
 refine ah (aF X [1,2,3,4,12] rfl ?_)
 refine aA rfl ?_ ?_<;>intro hb0
 ·try simp only[bO]at hb0
  have hs:=cM s.received k (aP .bE) hb0
  refine aE (ah (aG (aX X [(32,6)] [(29,⟨true,[.agg (bL ((s.received.getD k (aP .bE)).share))]⟩),(500031,⟨true,[]⟩)] [1,2,3,4] [] 131071 0 MO (by kernel_rfl) rfl (by kernel_rfl) (by(repeat' with_reducible first|exact bF|refine bJ ?_ ?_|apply aO)<;>first|exact(gW ((s.received.getD k (aP .bE)).share) (hz.2 _ (getD_in _ hb0)))| (intros;omega)|exact rfl|exact⟨rfl,bM _ (by decide)⟩| (simp only[gb,maxLen,lens];omega)) ?_)))
  refine cW X [1,2,3,4] rfl ?_
  refine⟨k+1,by omega,by omega,?_⟩
  rw[dh _ k rfl (by omega),hs]
  try rfl
 ·try simp only[bO]at hb0
  exact bp (aT X [2] rfl (by trivial) (az (aj rfl ⟨rfl,rfl,rfl,by rw[aB hb0],rfl,⟨⟩⟩)))
end
section
set_option maxRecDepth 100000
theorem jm(c:gQ)(h0:fU aQ c.bu≤1048576∧fU aQ c.inbox≤1048576):So 45 [.agg (dw c)] [.agg (dw c)]:=by
 refine aC X call45 func45 ntmps45 rfl rfl ?_
 intro zb
 exact aF X [1,2] rfl (aT X [1,2,3] rfl (by trivial) (aS X [] [(7,⟨true,[.a (.sl (.sl .u8) c.bu)]⟩)] [1,2,3] [] rfl (by(with_reducible and_intros)<;>first|exact⟨⟩|exact(uC c.bu h0.1)) (aS X [] [(11,⟨true,[.a (.sl (.sl .u8) c.inbox)]⟩)] [2,3] [] rfl (by(with_reducible and_intros)<;>first|exact⟨⟩|exact(uC c.inbox h0.2)) (aT X [2] rfl (by trivial) (az (aj rfl ⟨rfl,rfl,rfl,rfl,rfl,rfl,rfl,rfl,⟨⟩⟩))))))
theorem oF(d:cz)(h0:cX d≤1048576):So 48 [.agg (ew d)] [.agg (ew d)]:=by
 refine aC X call48 func48 ntmps48 rfl rfl ?_
 intro zb
 have AQ:eO d.live≤1048576∧eO d.saved≤1048576:=by unfold cX at h0;omega
 unfold eO at AQ
 exact aF X [1,2] rfl (ah (aX X [] [(5,⟨true,[.agg (dw d.live)]⟩),(8,⟨true,[.agg (dw d.saved)]⟩)] [2] [] 127 0 MO (by kernel_rfl) rfl (by kernel_rfl) (by(with_reducible and_intros);(iterate 2 all_goals try first|exact⟨⟩|exact(jm d.live ⟨by omega,by omega⟩)|exact(jm d.saved ⟨by omega,by omega⟩))) (az (aj rfl ⟨rfl,rfl,rfl,rfl,rfl,rfl,rfl,rfl,rfl,rfl,rfl,rfl,rfl,rfl,rfl,rfl,⟨⟩⟩))))
theorem yH(a:mE)(h0:iL a≤1048576):So 49 [.agg (gu a)] [.agg (gu a)]:=by
 refine aC X call49 func49 ntmps49 rfl rfl ?_
 intro zb
 have hls:fU ij a.rounds≤1048576:=h0
 have oO:=gr hls
 refine aF X [1,2] rfl (aF X [1,2,3] rfl (l6 3 1 60 .bz rfl (ah (aF X [1,2,3,4] rfl ?_))))
 refine aG (aW (fun k=>k≤a.rounds.length) (fun k:Nat=> [(4, .one ((aM k)))]) (fun k=> [(60, .arr .bz (a.rounds.take k))]) (fun k=>a.rounds.length-k) 0 (fun k=>rfl) (aD _) rfl ?_)
 intro k hk
 have hle:=cG a.rounds k
 refine ah (aF X [1,2,3,4,12] rfl ?_)
 refine aA rfl ?_ ?_<;>intro hb0
 ·try simp only[bO]at hb0
  have hs:=cM a.rounds k (aP .bz) hb0
  refine aE (ah (aG (aX X [(32,60)] [(29,⟨true,[.agg (bL ((a.rounds.getD k (aP .bz)).db))]⟩),(500031,⟨true,[]⟩)] [1,2,3,4] [] 131071 0 MO (by kernel_rfl) rfl (by kernel_rfl) (by(repeat' with_reducible first|exact bF|refine bJ ?_ ?_|apply aO)<;>first|exact(gW ((a.rounds.getD k (aP .bz)).db) (nN hls (getD_some a.rounds _ k hb0)))| (intros;omega)|exact rfl|exact⟨rfl,bM _ (by decide)⟩| (simp only[gb,maxLen,lens];omega)) ?_)))
  refine cW X [1,2,3,4] rfl ?_
  refine⟨k+1,by omega,by omega,?_⟩
  rw[dh _ k rfl (by omega),hs]
  try rfl
 ·try simp only[bO]at hb0
  exact bp (aT X [2] rfl (by trivial) (az (aj rfl ⟨rfl,by rw[aB hb0],⟨⟩⟩)))
theorem kg(x:ck)(h0:wB x):So 29 [.agg (b7 x)] [.agg (b7 x)]:=by
 refine aC X call29 func29 ntmps29 rfl rfl ?_
 intro zb
 have hls:fU gy x.av≤1048576∧fU cX x.af≤1048576∧iL x.aJ≤1048576∧x.replaced.length≤4194304:=h0
 have hl1:=gr hls.1
 have ru:=gr hls.2.1
 refine aF X [1,2] rfl (aT X [1,2,3] rfl (by trivial) (aT X [1,2,3] rfl (by and_intros<;>first|exact⟨⟩|exact rfl) (ah (aF X [1,2,3,4] rfl ?_))))
 refine aG (aW (fun k=>k≤x.av.length) (fun k:Nat=> [(4, .one ((aM k)))]) (fun k=> [(7, .arr .bZ (x.av.take k))]) (fun k=>x.av.length-k) 0 (fun k=>rfl) (aD _) rfl ?_)
 intro k hk
 have hle:=cG x.av k
 refine ah (aF X [1,2,3,4,13] rfl ?_)
 refine aA rfl ?_ ?_<;>intro hb0
 ·try simp only[bO]at hb0
  have hs:=cM x.av k (aP .bZ) hb0
  have hss:=KO hls.1 (getD_some x.av (aP .bZ) k hb0)
  refine aE (ah (aG (aX X [(25,7)] [(23,⟨true,[.agg (dB (x.av.getD k (aP .bZ)))]⟩),(500024,⟨true,[]⟩)] [1,2,3,4] [] 511 0 MO (by kernel_rfl) rfl (by kernel_rfl) (by(repeat' with_reducible first|exact bF|refine bJ ?_ ?_|apply aO)<;>first|exact(oD (x.av.getD k (aP .bZ)) hss)| (intros;omega)|exact rfl|exact⟨rfl,bM _ (by decide)⟩| (simp only[gb,maxLen,lens];omega)) ?_)))
  refine cW X [1,2,3,4] rfl ?_
  refine⟨k+1,by omega,by omega,?_⟩
  rw[dh _ k rfl (by omega),hs]
  try rfl
 ·try simp only[bO]at hb0
  refine bp (aT X [1,2,3] rfl (by and_intros<;>first|exact⟨⟩|exact rfl) (ah (aF X [1,2,3,5] rfl ?_)))
  refine aG (aW (fun k1=>k1≤x.af.length) (fun k1:Nat=> [(5, .one ((aM k1)))]) (fun k1=> [(27, .arr .cz (x.af.take k1))]) (fun k1=>x.af.length-k1) 0 (fun k1=>rfl) (aD _) rfl ?_)
  intro k1 hk1
  have acW:=cG x.af k1
  refine ah (aF X [1,2,3,5,33] rfl ?_)
  refine aA rfl ?_ ?_<;>intro cx
  ·try simp only[bO]at cx
   have hs1:=cM x.af k1 (aP .cz) cx
   refine aE (ah (aG (aX X [(45,27)] [(43,⟨true,[.agg (ew (x.af.getD k1 (aP .cz)))]⟩)] [1,2,3,5] [] 1279 2 MO (by kernel_rfl) rfl (by kernel_rfl) (by(with_reducible and_intros)<;>first|exact⟨⟩|exact(oF (x.af.getD k1 (aP .cz)) (nN hls.2.1 (getD_some x.af _ k1 cx)))| (intros;omega)|exact rfl| (simp only[gb,maxLen,lens];omega)) (cW X [1,2,3,5] rfl ?_))))
   refine⟨k1+1,by omega,by omega,?_⟩
   rw[dh _ k1 rfl (by omega),hs1]
   try rfl
  ·try simp only[bO]at cx
   exact bp (aS X [] [(49,⟨true,[.agg (gu x.aJ)]⟩)] [1,2,3] [] rfl (by(with_reducible and_intros)<;>first|exact⟨⟩|exact(yH x.aJ hls.2.2.1)) (aS X [(54,51)] [] [2,3] [] rfl (by and_intros<;>first|exact⟨⟩|exact rfl| (simp only[gb,maxLen,lens];omega)) (aT X [2] rfl (by trivial) (az (aj rfl ⟨rfl,by rw[aB hb0],by rw[aB cx],rfl,rfl,rfl,rfl,rfl,rfl,rfl,⟨⟩⟩)))))
end
section
set_option maxRecDepth 100000
theorem Bi(a:mE)(f:Int)(hal:a.rounds.length≤1048576):So 105 [.agg (gu a),aM f] [.a (.sl .int (jB a.rounds f))]:=by
 refine aC X call105 func105 ntmps105 rfl rfl ?_
 intro zb
 refine aF X [1,2] rfl (aT X [1,2,5] rfl (by and_intros<;>first|exact⟨⟩|exact rfl) (ah (aF X [1,5,10,11,12] rfl ?_)))
 refine aG (aW (fun k=>k≤a.rounds.length) (fun k:Nat=> [(12, .one ((aM k)))]) (fun k=> [(8, .arr .int (jB (a.rounds.take k) f))]) (fun k=>a.rounds.length-k) 0 (fun k=>rfl) (aD _) rfl ?_)
 intro k hk
 have hle:=FD a.rounds f k
 refine aF X [1,5,10,11,12,13] rfl ?_
 refine ah (aA rfl ?_ ?_)<;>intro hb0
 ·try simp only[bO]at hb0
  refine aE (ah (aG (aT X [1,5,7,10,11,12] rfl (by and_intros<;>first|exact⟨⟩| (intros;omega)) (aF X [1,5,7,10,11,12,19] rfl ?_))))
  refine aA rfl ?_ ?_<;>intro cx
  ·try simp only[bO]at cx
   have hs:=IP a.rounds f k hb0 (by omega)
   refine bH X [(24,8)] [] [1,5,10,11,12] [] rfl (by and_intros<;>first|exact⟨⟩|exact rfl| (simp only[gb,maxLen,lens];omega)) (cW X [1,5,10,11,12] rfl ?_)
   refine⟨k+1,by omega,by omega,?_⟩
   rw[dh _ k rfl (by omega),hs]
   try rfl
  ·try simp only[bO]at cx
   have hs:=FC a.rounds f k hb0 (by omega)
   refine aE (cW X [1,5,10,11,12] rfl ?_)
   refine⟨k+1,by omega,by omega,?_⟩
   rw[dh _ k rfl (by omega),hs]
   try rfl
 ·try simp only[bO]at hb0
  exact bp (aF X [4] rfl (az (aj rfl ⟨by rw[aB hb0],⟨⟩⟩)))
theorem Bj(a:mE)(f:Int)(hal:a.rounds.length≤1048576):So 134 [.agg (gu a),aM f] [.a (.sl .int (jB a.rounds f))]:=by
 refine aC X call134 func134 ntmps134 rfl rfl ?_
 intro zb
 refine aF X [1,2] rfl (aT X [1,2,5] rfl (by and_intros<;>first|exact⟨⟩|exact rfl) (ah (aF X [1,2,5,6] rfl ?_)))
 refine aG (aW (fun k=>k≤a.rounds.length) (fun k:Nat=> [(6, .one ((aM k)))]) (fun k=> [(7, .arr .int (jB (a.rounds.take k) f))]) (fun k=>a.rounds.length-k) 0 (fun k=>rfl) (aD _) rfl ?_)
 intro k hk
 have hle:=FD a.rounds f k
 refine ah (aF X [1,2,5,6,12] rfl ?_)
 refine aA rfl ?_ ?_<;>intro hb0
 ·try simp only[bO]at hb0
  refine aE (ah (aG (aT X [1,2,5,6,22] rfl (by and_intros<;>first|exact⟨⟩| (intros;omega)) ?_)))
  refine aA rfl ?_ ?_<;>intro cx
  ·try simp only[bO]at cx
   have hs:=IP a.rounds f k hb0 (by omega)
   refine bH X [(31,7)] [] [1,2,5,6] [] rfl (by and_intros<;>first|exact⟨⟩| (intros;omega)|exact rfl| (simp only[gb,maxLen,lens];omega)) (cW X [1,2,5,6] rfl ?_)
   refine⟨k+1,by omega,by omega,?_⟩
   rw[dh _ k rfl (by omega),hs]
   try rfl
  ·try simp only[bO]at cx
   have hs:=FC a.rounds f k hb0 (by omega)
   refine aE (cW X [1,2,5,6] rfl ?_)
   refine⟨k+1,by omega,by omega,?_⟩
   rw[dh _ k rfl (by omega),hs]
   try rfl
 ·try simp only[bO]at hb0
  exact bp (aF X [4] rfl (az (aj rfl ⟨by rw[aB hb0],⟨⟩⟩)))
end
section
set_option maxRecDepth 100000
theorem wW(key c:Int)(cell:List UInt8):So 224 [aM key,aM c, .a (.sl .u8 cell)] [.agg (lY (O5 key c cell)),bl (pS key c cell)]:=by
 refine aC X call224 func224 ntmps224 rfl rfl ?_
 intro zb
 refine eV 2 rfl (fun oO=>(aF X [0,1,2,6] rfl (ah (ah ?_))))
 have t1:=(tS key c ((cell.take (20:Int).toNat).drop (0:Int).toNat) (by rw[bW,bV];omega))
 have t2:=(mL ((cell.take (cell.length:Int).toNat).drop (20:Int).toNat) (four (lN key c ((cell.take (20:Int).toNat).drop (0:Int).toNat))))
 refine aX X [] [(11,⟨false,[bl (iT key)]⟩),(15,⟨false,[bl (inr c 0 1000000000000)]⟩),(30,⟨false,dH t1⟩),(31,⟨false,dH t2⟩)] [0,1,2,6,33] [] 16777215 0 MO (by kernel_rfl) rfl (by kernel_rfl) (by(with_reducible and_intros);(iterate 4 all_goals try first|exact⟨⟩|exact(lg key)|exact fun _=>(bB c 0 1000000000000)|exact fun _=>t1|exact fun _=>t2);all_goals first| ((intro h1;first| (intro h2;first| (intro h3;refine aO ?_ ?_)|refine aO ?_ ?_)|refine aO ?_ ?_)<;>first|omega| ((try simp only[bO]at*);(try simp(disch:=omega) only[cV]);omega))) ?_
 refine aA rfl ?_ ?_<;>intro hb0
 ·have hA:JE key c cell=false:=dG hb0 (by simp only[JE,eS,IV,mV,bG]<;>first|rfl|ac_rfl)
  have hk:=IT hA
  exact aT X [6,7] rfl (by trivial) (az (aj rfl ⟨by rw[qO hk],by rw[qO hk],by rw[hk],⟨⟩⟩))
 ·have hA:JE key c cell=true:=dF hb0 (by simp only[JE,eS,IV,mV,bG]<;>first|rfl|ac_rfl)
  obtain⟨hol,xA⟩:=Mr hA
  refine aE (ah ?_)
  have t1:=(Ic (nJ key c) ((cell.take (20:Int).toNat).drop (0:Int).toNat) (by rw[bW,bV];omega))
  refine aX X [] [(37,⟨false,[aM (nJ key c)]⟩),(40,⟨true,dH t1⟩)] [6,8] [] 127 0 MO (by kernel_rfl) rfl (by kernel_rfl) (by(with_reducible and_intros);(iterate 2 all_goals try first|exact⟨⟩|exact(yp key c)|exact t1);all_goals first| (intros;omega)) ?_
  rw[Zj]
  refine ah (aT X [6,8,45] rfl (by and_intros<;>first|exact⟨⟩| (intros;omega)) ?_)
  refine aA rfl ?_ ?_<;>intro cx
  ·try simp only[bO]at cx
   rw[VM]at cx
   have h14:14<GA key c cell:=by have h:(14:Int)<(GA key c cell:Int):=cx;omega
   have hk:=ae8 h14
   exact aT X [6,7] rfl (by trivial) (az (aj rfl ⟨by rw[qO hk],by rw[qO hk],by rw[hk],⟨⟩⟩))
  ·try simp only[bO]at cx
   rw[VM]at cx
   have h14:GA key c cell≤14:=by have h:(GA key c cell:Int)≤14:=cx;omega
   have hu1:((JD key c cell).getD (cL 1) (aP .u8)).toNat≤14:=h14
   have Hg:=Mw hA h14
   have hpk:=ajZ hA h14
   have NW:=Rt key c cell
   refine aE (ah ?_)
   have t1:=(eH (((JD key c cell).take (aq.wrap (2+aq.wrap (((JD key c cell).getD (cL 1) (aP .u8)).toNat:Int))).toNat).drop (cL 2)) (by rw[NW,Hg];omega))
   refine aX X [] [(58,⟨true,dH t1⟩)] [6,9] [] 16383 0 MO (by kernel_rfl) rfl (by kernel_rfl) (by(with_reducible and_intros)<;>first|exact⟨⟩|exact t1| (intros;omega)| ((try simp only[bO]at*);(simp(disch:=omega) only[cV]);omega)) ?_
   rw[Rt,VM]
   refine ah (aS X [] [(61,⟨false,[bl (jY (⟨WH key c cell,opb key c cell⟩:Plain))]⟩)] [6,9,62] [] rfl (by(with_reducible and_intros)<;>first|exact⟨⟩|exact(qU (⟨WH key c cell,opb key c cell⟩:Plain))) ?_)
   refine aA rfl ?_ ?_<;>intro dY
   ·have hk:pS key c cell=false:=by rw[←hpk];simpa using dY
    exact aT X [6,7] rfl (by trivial) (az (aj rfl ⟨by rw[qO hk],by rw[qO hk],by rw[hk],⟨⟩⟩))
   ·have hk:pS key c cell=true:=by rw[←hpk];simpa using dY
    exact aE (aT X [6,7] rfl (by trivial) (az (aj rfl ⟨by rw[CE hk];rfl,by rw[CE hk],by rw[hk],⟨⟩⟩)))
theorem wX(key c:Int)(cell:List UInt8):So 246 [aM key,aM c, .a (.sl .u8 cell)] [.agg (lY (O5 key c cell)),bl (pS key c cell)]:=by
 refine aC X call246 func246 ntmps246 rfl rfl ?_
 intro zb
 refine eV 2 rfl (fun oO=>(aF X [0,1,2,6] rfl (ah (aS X [] [(11,⟨false,[bl (iT key)]⟩),(15,⟨false,[bl (inr c 0 1000000000000)]⟩)] [0,1,2,6,22] [] rfl (by(with_reducible and_intros);(iterate 2 all_goals try first|exact⟨⟩|exact(lp key)|exact fun _=>(bY c 0 1000000000000))) ?_))))
 refine aA rfl ?_ ?_<;>intro hb0
 ·have hH:opH key c cell=false:=dG hb0 (by simp only[opH,bG]<;>first|rfl|ac_rfl)
  have hk:=ahp hH
  exact aT X [6,7] rfl (by trivial) (az (aj rfl ⟨by rw[qO hk],by rw[qO hk],by rw[hk],⟨⟩⟩))
 ·have hH:opH key c cell=true:=dF hb0 (by simp only[opH,bG]<;>first|rfl|ac_rfl)
  obtain⟨hk1,hk2,xA⟩:=aj0 hH
  have aj1:=Tw hk1 hk2 xA
  refine aE (ah (aX X [] [] [0,1,2,6,8] [] 8388607 0 MO (by kernel_rfl) rfl (by kernel_rfl) (by and_intros<;>first|exact⟨⟩| (intros;omega)) ?_))
  rw[adf]
  refine ah (ah ?_)
  have t1:=(uU key c ((cell.take (20:Int).toNat).drop (0:Int).toNat) (by rw[bW,bV];omega))
  refine bH X [] [(51,⟨false,dH t1⟩)] [0,1,2,6,52] [] rfl (by(with_reducible and_intros)<;>first|exact⟨⟩|exact t1| (intros;omega)) ?_
  refine aA rfl ?_ ?_<;>intro cx
  ·try simp only[bO]at cx
   have hA:JE key c cell=false:=by rw[aj1,decide_eq_false_iff_not];intro h;exact cx (by rw[h];simp)
   have hk:=IT hA
   exact aT X [6,7] rfl (by trivial) (az (aj rfl ⟨by rw[qO hk],by rw[qO hk],by rw[hk],⟨⟩⟩))
  ·try simp only[bO]at cx
   have hA:JE key c cell=true:=by rw[aj1,decide_eq_true_eq,cx];simp
   obtain⟨hol,_⟩:=Mr hA
   refine aE (ah ?_)
   have t1:=(Ig (nJ key c) ((cell.take (20:Int).toNat).drop (0:Int).toNat) (by rw[bW,bV];omega))
   refine aX X [] [(56,⟨false,[aM (nJ key c)]⟩),(59,⟨true,dH t1⟩)] [6,9] [] 127 0 MO (by kernel_rfl) rfl (by kernel_rfl) (by(with_reducible and_intros);(iterate 2 all_goals try first|exact⟨⟩|exact(uV key c)|exact t1);all_goals first| (intros;omega)) ?_
   rw[Zj]
   refine ah (aT X [6,9,71] rfl (by and_intros<;>first|exact⟨⟩| (intros;omega)| ((intro h1;first| (intro h2;first| (intro h3;refine aO ?_ ?_)|refine aO ?_ ?_)|refine aO ?_ ?_)<;>first|omega| ((try simp only[bO]at*);(try simp(disch:=omega) only[cV]);omega))| (refine fun _=> ?_;dsimp only[hyps,iH];omega)) ?_)
   refine aA rfl ?_ ?_<;>intro dY
   ·try simp only[bO]at dY
    rw[VM,VM]at dY
    have hk:pS key c cell=false:=by
     rcases dY with h|h
     ·exact ahl h
     ·exact ae8 (by have h:(14:Int)<(GA key c cell:Int):=h;omega)
    exact aT X [6,7] rfl (by trivial) (az (aj rfl ⟨by rw[qO hk],by rw[qO hk],by rw[hk],⟨⟩⟩))
   ·try simp only[bO]at dY
    rw[VM,VM]at dY
    have h14:GA key c cell≤14:=by have h:(GA key c cell:Int)≤14:=dY.2;omega
    have hu1:((JD key c cell).getD (cL 1) (aP .u8)).toNat≤14:=h14
    have Hg:=Mw hA h14
    have hk:pS key c cell=true:=ae9 hA h14 dY.1
    have NW:=Rt key c cell
    exact aE (ah (aX X [(85,77)] [] [6,7] [] 45055 4 MO (by kernel_rfl) rfl (by kernel_rfl) (by and_intros<;>first|exact⟨⟩| (intros;omega)|exact rfl| ((try simp only[bO]at*);(simp(disch:=omega) only[cV]);omega)| (simp only[gb,maxLen,lens];omega)) (az (aj rfl ⟨by rw[CE hk];exact congrArg (Value.int aq) (VM _),by rw[CE hk];exact NW,by rw[hk],⟨⟩⟩))))
theorem nG(a:mE)(r:Int)(hz:a.rounds.length≤1048576∧ ∀y,y∈a.rounds→fU aQ y.db.rows≤1048576):So 109 [.agg (gu a),aM r] [.agg (bL (jW a.rounds r)),bl (kQ a.rounds r)]:=by
 refine aC X call109 func109 ntmps109 rfl rfl ?_
 intro zb
 refine dn 0 1 rfl rfl (fun XO=>(aF X [1,2,4] rfl (ah (aF X [1,4,9,10,11] rfl ?_))))
 refine aG (aW (fun k=>k≤a.rounds.length∧(a.rounds.take k).any (Tp r)=false) (fun k:Nat=> [(11, .one ((aM k)))]) (fun k=> []) (fun k=>a.rounds.length-k) 0 (fun k=>rfl) ⟨aD _,rfl⟩ rfl ?_)
 rintro k ⟨hk,hall⟩
 refine aF X [1,4,9,10,11,12] rfl ?_
 refine ah (aA rfl ?_ ?_)<;>intro hb0
 ·try simp only[bO]at hb0
  refine aE (ah (aG (aT X [1,4,7,9,10,11] rfl (by and_intros<;>first|exact⟨⟩| (intros;omega)) (aF X [1,4,7,9,10,11,18] rfl ?_))))
  refine aA rfl ?_ ?_<;>intro cx
  ·have hh:=Rr hb0 hall cx
   exact aS X [] [(21,⟨true,[.agg (bL ((a.rounds.getD k (aP .bz)).db))]⟩)] [4,5] [] rfl (by(with_reducible and_intros)<;>first|exact⟨⟩|exact(eL ((a.rounds.getD k (aP .bz)).db) (hz.2 _ (getD_in _ hb0)))) (az (aj rfl ⟨by rw[hh.2],by rw[hh.1],⟨⟩⟩))
  ·refine aE (cW X [1,4,9,10,11] rfl ?_)
   refine⟨k+1,⟨by omega,A4 (aP .bz) hb0 hall cx⟩,by omega,?_⟩
   rw[dh _ k rfl (by omega)]
   try rfl
 ·try simp only[bO]at hb0
  exact bp (aT X [4,5] rfl (by trivial) (az (aj rfl ⟨by rw[(Gy (by rw[←hall,aB hb0])).2],by rw[(Gy (by rw[←hall,aB hb0])).1],⟨⟩⟩)))
theorem Ex(rows:List (List UInt8))(v:List Int)(hr: ∀r,r∈rows→r.length≤1048576):So 229 [.a (.sl (.sl .u8) rows), .a (.sl .int v)] [.a (.sl .u8 (Bk rows v))]:=by
 refine aC X call229 func229 ntmps229 rfl rfl ?_
 intro zb
 refine eV 0 rfl (fun hl0=> ?_)
 refine eV 1 rfl (fun hl1=>(aF X [0,1] rfl (aT X [0,1,5] rfl (by and_intros<;>first|exact⟨⟩|exact rfl) (ah (aF X [1,5,9,10,11] rfl ?_)))))
 refine aG (aW (fun k=>k≤rows.length) (fun k:Nat=> [(11, .one ((aM k)))]) (fun k=> [(8, .arr .u8 (vi rows v k))]) (fun k=>rows.length-k) 0 (fun k=>rfl) (aD _) rfl ?_)
 intro k hk
 have hle:=yJ v hr k hk
 refine aF X [1,5,9,10,11,12] rfl ?_
 refine ah (aA rfl ?_ ?_)<;>intro hb0
 ·try simp only[bO]at hb0
  have hel:=hr _ (getD_in (aP (.sl .u8)) hb0)
  refine aE (ah (aG (aT X [1,5,6,7,9,10,11] rfl (by and_intros<;>first|exact⟨⟩| (intros;omega)) (aT X [1,5,7,9,10,11,26] rfl (by and_intros<;>first|exact⟨⟩| ((intro h1;first| (intro h2;first| (intro h3;refine aO ?_ ?_)|refine aO ?_ ?_)|refine aO ?_ ?_)<;>first|omega| ((try simp only[bO]at*);(try simp(disch:=omega) only[cV]);omega))) ?_))))
  refine aA rfl ?_ ?_<;>intro cx
  ·try simp only[bO]at cx
   have hs:=yI (rows:=rows) cx.1 cx.2
   refine bH X [] [(29,⟨true,[.a (.sl .u8 (fG (vi rows v k) (rows.getD k (aP (.sl .u8)))))]⟩)] [1,5,9,10,11] [] rfl (by(with_reducible and_intros)<;>first|exact⟨⟩|exact(mT (vi rows v k) (rows.getD k (aP (.sl .u8))) (by first|assumption|omega| (simp;done)| (simp;omega)) (by first|assumption|omega| (simp;done)| (simp;omega)))) (rQ 5 8 rfl (cW X [1,5,9,10,11] rfl ?_))
   refine⟨k+1,by omega,by omega,?_⟩
   rw[dh _ k rfl (by omega),hs]
   try rfl
  ·try simp only[bO]at cx
   have hs:=rU (rows:=rows) (v:=v) (k:=k) (by omega)
   refine aE (cW X [1,5,9,10,11] rfl ?_)
   refine⟨k+1,by omega,by omega,?_⟩
   rw[dh _ k rfl (by omega),hs]
   try rfl
 ·try simp only[bO]at hb0
  exact bp (aF X [4] rfl (az (aj rfl ⟨by rw[O6 hk (Or.inl hb0)],⟨⟩⟩)))
theorem s7(d:DB)(v:List Int):So 174 [.agg (bL d), .a (.sl .int v)] [.a (.sl .u8 (iz d v))]:=by
 refine aC X call174 func174 ntmps174 rfl rfl ?_
 intro zb
 refine aF X [1,2] rfl (ah (aS X [] [(6,⟨false,[bl (eC d)]⟩),(13,⟨false,[bl (fB v (d.rows.length:Int))]⟩)] [1,2,15] [] rfl (by(with_reducible and_intros);(iterate 2 all_goals try first|exact⟨⟩|exact(fN d)|exact fun _=>(nh v (d.rows.length:Int)))) ?_))
 refine aA rfl ?_ ?_<;>intro hb0
 ·have hk:(eC d&&fB v d.rows.length)=false:=dG hb0 (by simp only[bG]<;>first|rfl|ac_rfl)
  exact aF X [4] rfl (az (aj rfl ⟨by rw[iz,hk];rfl,⟨⟩⟩))
 ·have hk:(eC d&&fB v d.rows.length)=true:=dF hb0 (by simp only[bG]<;>first|rfl|ac_rfl)
  have hkk:=hk
  rw[ak]at hkk
  have VP: ∀r,r∈d.rows→r.length≤1048576:=fun r hr=>by rw[(oy.1 hkk.1).2 r hr];decide
  have hxl:(Bk d.rows v).length≤1048576:=yJ v VP d.rows.length (aZ _)
  exact aE (ah (aX X [] [(20,⟨true,[.a (.sl .u8 (Bk d.rows v))]⟩),(21,⟨true,[.a (.sl .u8 (fG Nf (Bk d.rows v)))]⟩)] [4] [] 127 0 MO (by kernel_rfl) rfl (by kernel_rfl) ⟨mT Nf (Bk d.rows v) (by rw[ox];decide) hxl,Ex d.rows v VP,⟨rfl,bM _ (by decide)⟩,rfl,by omega,⟨by decide,by decide⟩,⟨⟩⟩ (az (aj rfl ⟨by rw[iz,if_pos hk],⟨⟩⟩))))
theorem vl(key:Int)(a:eU)(h1:a.selection.length≤262144)(h2:a.data.length≤262144):So 226 [aM key, .agg (jh a)] [aM (IQ key a.server a.round a.selection a.data)]:=by
 refine aC X call226 func226 ntmps226 rfl rfl ?_
 intro zb
 refine aF X [0,3] rfl (ah ?_)
 have t1:=(nB [[191,a.server,a.round,(a.selection.length:Int)],a.selection,JC a.data] (by simp) (by simp[wj];omega))
 have t2:=(cZ key ([[191,a.server,a.round,(a.selection.length:Int)],a.selection,JC a.data].flatten) (by simp[wj];omega))
 refine aX X [] [(18,⟨true,[.a (.sl .int (JC a.data))]⟩),(20,⟨true,dH t1⟩),(21,⟨false,dH t2⟩)] [4] [] 245759 1 MO (by kernel_rfl) rfl (by kernel_rfl) (by(repeat' with_reducible first|exact bF|refine bJ ?_ ?_|apply aO);(iterate 3 all_goals try first|exact(sK a.data (by omega))|exact t1|exact t2);all_goals first|exact rfl|exact⟨rfl,bM _ (by decide)⟩) ?_
 exact az (aj rfl ⟨by simp[IQ],⟨⟩⟩)
theorem nH(a:mE)(r:Int)(hz:a.rounds.length≤1048576∧ ∀y,y∈a.rounds→fU aQ y.db.rows≤1048576):So 138 [.agg (gu a),aM r] [.agg (bL (jW a.rounds r)),bl (kQ a.rounds r)]:=by
 refine aC X call138 func138 ntmps138 rfl rfl ?_
 intro zb
 refine dn 0 1 rfl rfl (fun XO=>(aF X [1,2,4] rfl (ah (aF X [1,2,4,6] rfl ?_))))
 refine aG (aW (fun k=>k≤a.rounds.length∧(a.rounds.take k).any (Tp r)=false) (fun k:Nat=> [(6, .one ((aM k)))]) (fun k=> []) (fun k=>a.rounds.length-k) 0 (fun k=>rfl) ⟨aD _,rfl⟩ rfl ?_)
 rintro k ⟨hk,hall⟩
 refine ah (aF X [1,2,4,6,11] rfl ?_)
 refine aA rfl ?_ ?_<;>intro hb0
 ·try simp only[bO]at hb0
  refine aE (ah (aG (aT X [1,2,4,6,21] rfl (by and_intros<;>first|exact⟨⟩| (intros;omega)) ?_)))
  refine aA rfl ?_ ?_<;>intro cx
  ·have hh:=Rr hb0 hall cx
   exact aS X [] [(28,⟨true,[.agg (bL ((a.rounds.getD k (aP .bz)).db))]⟩)] [4,5] [] rfl (by(with_reducible and_intros)<;>first|exact⟨⟩|exact(gW ((a.rounds.getD k (aP .bz)).db) (hz.2 _ (getD_in _ hb0)))| (intros;omega)) (az (aj rfl ⟨by rw[hh.2],by rw[hh.1],⟨⟩⟩))
  ·refine aE (cW X [1,2,4,6] rfl ?_)
   refine⟨k+1,⟨by omega,A4 (aP .bz) hb0 hall cx⟩,by omega,?_⟩
   rw[dh _ k rfl (by omega)]
   try rfl
 ·try simp only[bO]at hb0
  exact bp (aT X [4,5] rfl (by trivial) (az (aj rfl ⟨by rw[(Gy (by rw[←hall,aB hb0])).2],by rw[(Gy (by rw[←hall,aB hb0])).1],⟨⟩⟩)))
theorem Ey(rows:List (List UInt8))(v:List Int)(hr: ∀r,r∈rows→r.length≤1048576):So 250 [.a (.sl (.sl .u8) rows), .a (.sl .int v)] [.a (.sl .u8 (Bk rows v))]:=by
 refine aC X call250 func250 ntmps250 rfl rfl ?_
 intro zb
 refine eV 0 rfl (fun hl0=> ?_)
 refine eV 1 rfl (fun hl1=>(aF X [0,1] rfl (aT X [0,1,5] rfl (by and_intros<;>first|exact⟨⟩|exact rfl) (ah (aF X [0,1,5,6] rfl ?_)))))
 refine aG (aW (fun k=>k≤rows.length) (fun k:Nat=> [(6, .one ((aM k)))]) (fun k=> [(7, .arr .u8 (vi rows v k))]) (fun k=>rows.length-k) 0 (fun k=>rfl) (aD _) rfl ?_)
 intro k hk
 have hle:=yJ v hr k hk
 refine ah (aF X [0,1,5,6,17] rfl ?_)
 refine aA rfl ?_ ?_<;>intro hb0
 ·try simp only[bO]at hb0
  have hel:=hr _ (getD_in (aP (.sl .u8)) hb0.1)
  refine aE (ah (aG (aT X [0,1,5,6,24] rfl (by and_intros<;>first|exact⟨⟩| (intros;omega)) ?_)))
  refine aA rfl ?_ ?_<;>intro cx
  ·try simp only[bO]at cx
   have hs:=yI (rows:=rows) hb0.2 cx
   refine bH X [] [(30,⟨true,[.a (.sl .u8 (fG (vi rows v k) (rows.getD k (aP (.sl .u8)))))]⟩)] [0,1,5,6] [] rfl (by(with_reducible and_intros)<;>first|exact⟨⟩|exact(mU (vi rows v k) (rows.getD k (aP (.sl .u8))) (by first|assumption|omega| (simp;done)| (simp;omega)) (by first|assumption|omega| (simp;done)| (simp;omega)))| (intros;omega)) (rQ 5 7 rfl (cW X [0,1,5,6] rfl ?_))
   refine⟨k+1,by omega,by omega,?_⟩
   rw[dh _ k rfl (by omega),hs]
   try rfl
  ·try simp only[bO]at cx
   have hs:=rU (rows:=rows) (v:=v) (k:=k) (fun h=>cx h.2)
   refine aE (cW X [0,1,5,6] rfl ?_)
   refine⟨k+1,by omega,by omega,?_⟩
   rw[dh _ k rfl (by omega),hs]
   try rfl
 ·try simp only[bO]at hb0
  exact bp (aF X [4] rfl (az (aj rfl ⟨by rw[O6 hk (by omega)],⟨⟩⟩)))
theorem s8(d:DB)(v:List Int):So 206 [.agg (bL d), .a (.sl .int v)] [.a (.sl .u8 (iz d v))]:=by
 refine aC X call206 func206 ntmps206 rfl rfl ?_
 intro zb
 refine aF X [1,2] rfl (ah (aS X [] [(6,⟨false,[bl (eC d)]⟩),(13,⟨false,[bl (fB v (d.rows.length:Int))]⟩)] [1,2,15] [] rfl (by(with_reducible and_intros);(iterate 2 all_goals try first|exact⟨⟩|exact(eX d)|exact fun _=>(ni v (d.rows.length:Int)))) ?_))
 refine aA rfl ?_ ?_<;>intro hb0
 ·have hk:(eC d&&fB v d.rows.length)=false:=dG hb0 (by simp only[bG]<;>first|rfl|ac_rfl)
  exact aT X [4] rfl (by and_intros<;>first|exact⟨⟩|exact rfl) (az (aj rfl ⟨by rw[iz,hk];rfl,⟨⟩⟩))
 ·have hk:(eC d&&fB v d.rows.length)=true:=dF hb0 (by simp only[bG]<;>first|rfl|ac_rfl)
  have hkk:=hk
  rw[ak]at hkk
  have VP: ∀r,r∈d.rows→r.length≤1048576:=fun r hr=>by rw[(oy.1 hkk.1).2 r hr];decide
  have hxl:(Bk d.rows v).length≤1048576:=yJ v VP d.rows.length (aZ _)
  exact aE (ah (aX X [] [(21,⟨true,[.a (.sl .u8 (Bk d.rows v))]⟩),(22,⟨true,[.a (.sl .u8 (fG Nf (Bk d.rows v)))]⟩)] [4] [] 127 0 MO (by kernel_rfl) rfl (by kernel_rfl) ⟨mU Nf (Bk d.rows v) (by rw[ox];decide) hxl,Ey d.rows v VP,⟨rfl,bM _ (by decide)⟩,rfl,by omega,⟨by decide,by decide⟩,⟨⟩⟩ (az (aj rfl ⟨by rw[iz,if_pos hk],⟨⟩⟩))))
theorem pV(key:Int)(a:eU)(h1:a.selection.length≤262144)(h2:a.data.length≤262144):So 204 [aM key, .agg (jh a)] [aM (IQ key a.server a.round a.selection a.data)]:=by
 refine aC X call204 func204 ntmps204 rfl rfl ?_
 intro zb
 have Hg:=wj a.data
 refine aF X [0,3] rfl (aS X [(16,13)] [] [0,3,5] [] rfl (by and_intros<;>first|exact⟨⟩|exact rfl| (simp only[gb,maxLen,lens];omega)) (ah ?_))
 have t1:=(cF key ([191,a.server,a.round,(a.selection.length:Int)]++a.selection++JC a.data) (by simp[wj];omega))
 exact bH X [(22,13)] [(21,⟨true,[.a (.sl .int (JC a.data))]⟩),(23,⟨false,dH t1⟩)] [4] [] rfl (by(with_reducible and_intros);(iterate 2 all_goals try first|exact⟨⟩|exact(sL a.data (by omega))|exact t1);all_goals first|exact rfl| (simp only[gb,maxLen,lens];omega)) (az (aj rfl ⟨rfl,⟨⟩⟩))
theorem AE(key:Int)(a:eU)(h1:a.selection.length≤262144)(h2:a.data.length≤262144):sE ty bC 171 [(5, .arr .int a.selection),(6, .arr .u8 a.data)] [aM key, .agg [gT a.server,gT a.round, .own 5, .own 6,gT a.P5]] [(5, .arr .int a.selection),(6, .arr .u8 a.data)] [.agg [gT a.server,gT a.round, .own 5, .own 6,gT (IQ key a.server a.round a.selection a.data)]]:=by
 refine pR X call171 func171 rfl rfl (by decide) ntmps171 (by simp) rfl ?_
 intro zb
 exact aF X [0,3,4] rfl (aS X [] [(7,⟨false,[aM (IQ key a.server a.round a.selection a.data)]⟩)] [3,4] [] rfl (by(with_reducible and_intros)<;>first|exact⟨⟩|exact(vl key a h1 h2)) (aT X [4] rfl (by trivial) (az (vh rfl ⟨rfl,rfl,rfl,rfl,rfl,⟨⟩⟩))))
theorem CG(key sv r:Int)(d:DB)(v:List Int)(hv:v.length≤262144):So 170 [aM key,aM sv,aM r, .agg (bL d), .a (.sl .int v)] [.agg (jh (tD key sv r d v)),bl (nK d v)]:=by
 refine aC X call170 func170 ntmps170 rfl rfl ?_
 intro zb
 have hal:=yK d v
 refine aF X [0,1,2,4,8,10] rfl (aS X [] [(15,⟨true,[.a (.sl .u8 (iz d v))]⟩)] [0,1,2,4,10,12] [] rfl (by(with_reducible and_intros)<;>first|exact⟨⟩|exact(s7 d v)) (ah (aF X [0,1,2,4,10,12,18] rfl ?_)))
 refine aA rfl ?_ ?_<;>intro hb0
 ·try simp only[bO]at hb0
  have hk:=Tx (d:=d) (v:=v) (by omega)
  have hg:=Zn (key:=key) (sv:=sv) (r:=r) hk
  exact aT X [10,11] rfl (by trivial) (az (aj rfl (by and_intros<;>first|exact⟨⟩| (rw[hg];rfl;done)| (rw[hk];done))))
 ·try simp only[bO]at hb0
  have hk:=CF (d:=d) (v:=v) (by omega)
  have hg:=GB (key:=key) (sv:=sv) (r:=r) hk
  have h24:=zN hk
  refine aE (ah ?_)
  have t1:=(AE key (⟨sv,r,v,iz d v,0⟩:eU) (by show v.length≤_;omega) (by show(iz d v).length≤_;omega))
  exact bH X [] [(24,⟨true,[.a (.sl .int v)]⟩),(800027,⟨true,LU t1⟩),(700027,⟨true, .agg [.ptr 5 24, .ptr 6 15]:: .agg []::LV t1⟩)] [10,11] [] rfl (by(with_reducible and_intros);(iterate 2 all_goals try first|exact⟨⟩|exact(kC v (by omega))|exact t1)) (az (aj rfl (by and_intros<;>first|exact⟨⟩| (rw[hg];rfl;done)| (rw[hk];done))))
theorem wY(s:bZ)(key r:Int)(d:DB)(v:List Int)(hv:v.length≤262144):So 110 [.agg (dB s),aM key,aM r, .agg (bL d), .a (.sl .int v)] [.agg (jh (Ms s key r d v)),bl (nK d v)]:=by
 refine aC X call110 func110 ntmps110 rfl rfl ?_
 intro zb
 refine aF X [1,2,4,5,8,10] rfl (aS X [] [(21,⟨true,[.agg (jh (tD key s.id r d v)),bl (nK d v)]⟩)] [1,5,10,12,13] [] rfl (by(with_reducible and_intros)<;>first|exact⟨⟩|exact(CG key s.id r d v (by first|assumption|omega| (simp;done)| (simp;omega)))) (ah (aF X [1,10,12,13,29] rfl ?_)))
 refine aA rfl ?_ ?_<;>intro hb0
 ·have hq:(nK d v&&(s.behavior==3))=true:=l8 hb0 (by simp only[bG]<;>first|rfl|ac_rfl)
  obtain⟨hk,ha⟩:=Ty (key:=key) (r:=r) hq
  have hg:=GB (key:=key) (sv:=s.id) (r:=r) hk
  have Fa:(tD key s.id r d v).data.length=24:=by rw[hg];exact zN hk
  refine aT X [1,10,12,13] rfl (by and_intros<;>first|exact⟨⟩| (intros;omega)|exact(kA _).1|exact(kA _).2) ?_
  rw[Zm]
  have t1:=(AE key (⟨(tD key s.id r d v).server,(tD key s.id r d v).round,(tD key s.id r d v).selection,KT (tD key s.id r d v).data,(tD key s.id r d v).P5⟩:eU) (by show(tD key s.id r d v).selection.length≤_;rw[hg];exact hv) (by show(KT (tD key s.id r d v).data).length≤_;rw[Mx,Fa];decide))
  exact bH X [] [(800038,⟨true,LU t1⟩),(700038,⟨true, .agg [.ptr 5 23, .ptr 6 24]:: .agg []::LV t1⟩)] [10,12,13] [] rfl (by(with_reducible and_intros)<;>first|exact⟨⟩|exact t1) (aT X [10,11] rfl (by trivial) (az (aj rfl (by and_intros<;>first|exact⟨⟩| (rw[ha];simp only[hg];rfl;done)| (rw[hk];done)))))
 ·have hq:(nK d v&&(s.behavior==3))=false:=pQ hb0 (by simp only[bG]<;>first|rfl|ac_rfl)
  have ha:=Zo (key:=key) (r:=r) hq
  exact aE (aT X [10,11] rfl (by trivial) (az (aj rfl (by and_intros<;>first|exact⟨⟩|rfl| (rw[ha];done)))))
theorem CH(key sv r:Int)(d:DB)(v:List Int)(hv:v.length≤262144):So 203 [aM key,aM sv,aM r, .agg (bL d), .a (.sl .int v)] [.agg (jh (tD key sv r d v)),bl (nK d v)]:=by
 refine aC X call203 func203 ntmps203 rfl rfl ?_
 intro zb
 have hal:=yK d v
 refine aF X [0,1,2,4,8,10] rfl (aS X [] [(16,⟨true,[.a (.sl .u8 (iz d v))]⟩)] [0,1,2,4,10,12] [] rfl (by(with_reducible and_intros)<;>first|exact⟨⟩|exact(s8 d v)) (ah (aF X [0,1,2,4,10,12,19] rfl ?_)))
 refine aA rfl ?_ ?_<;>intro hb0
 ·try simp only[bO]at hb0
  have hk:=Tx (d:=d) (v:=v) (by omega)
  have hg:=Zn (key:=key) (sv:=sv) (r:=r) hk
  exact aT X [10,11] rfl (by trivial) (az (aj rfl (by and_intros<;>first|exact⟨⟩| (rw[hg];rfl;done)| (rw[hk];done))))
 ·try simp only[bO]at hb0
  have hk:=CF (d:=d) (v:=v) (by omega)
  have hg:=GB (key:=key) (sv:=sv) (r:=r) hk
  have h24:=zN hk
  exact aE (aS X [(25,23)] [] [0,10,13] [] rfl (by and_intros<;>first|exact⟨⟩|exact rfl| (simp only[gb,maxLen,lens];omega)) (aS X [] [(30,⟨false,[aM (IQ key (⟨sv,r,v,iz d v,0⟩:eU).server (⟨sv,r,v,iz d v,0⟩:eU).round (⟨sv,r,v,iz d v,0⟩:eU).selection (⟨sv,r,v,iz d v,0⟩:eU).data)]⟩)] [10,13] [] rfl (by(with_reducible and_intros)<;>first|exact⟨⟩|exact(pV key (⟨sv,r,v,iz d v,0⟩:eU) (by show v.length≤_;omega) (by show(iz d v).length≤_;omega))) (aT X [10,11] rfl (by trivial) (az (aj rfl (by and_intros<;>first|exact⟨⟩| (rw[hg];rfl;done)| (rw[hk];done)))))))
theorem wZ(s:bZ)(key r:Int)(d:DB)(v:List Int)(hv:v.length≤262144):So 139 [.agg (dB s),aM key,aM r, .agg (bL d), .a (.sl .int v)] [.agg (jh (Ms s key r d v)),bl (nK d v)]:=by
 refine aC X call139 func139 ntmps139 rfl rfl ?_
 intro zb
 refine aF X [1,2,4,5,8,10] rfl (aS X [] [(21,⟨true,[.agg (jh (tD key s.id r d v)),bl (nK d v)]⟩)] [1,5,10,12,13] [] rfl (by(with_reducible and_intros)<;>first|exact⟨⟩|exact(CH key s.id r d v (by first|assumption|omega| (simp;done)| (simp;omega)))) (ah (aF X [1,10,12,13,29] rfl ?_)))
 refine aA rfl ?_ ?_<;>intro hb0
 ·have hq:(nK d v&&(s.behavior==3))=true:=l8 hb0 (by simp only[bG]<;>first|rfl|ac_rfl)
  obtain⟨hk,ha⟩:=Ty (key:=key) (r:=r) hq
  have hg:=GB (key:=key) (sv:=s.id) (r:=r) hk
  have Fa:(tD key s.id r d v).data.length=24:=by rw[hg];exact zN hk
  refine ah (aX X [] [] [1,10,12,13] [] 255 0 MO (by kernel_rfl) rfl (by kernel_rfl) (by and_intros<;>first|exact⟨⟩| (intros;omega)|exact(kA _).1|exact(kA _).2) ?_)
  rw[Zm]
  exact bH X [] [(40,⟨false,[aM (IQ key (⟨(tD key s.id r d v).server,(tD key s.id r d v).round,(tD key s.id r d v).selection,KT (tD key s.id r d v).data,(tD key s.id r d v).P5⟩:eU).server (⟨(tD key s.id r d v).server,(tD key s.id r d v).round,(tD key s.id r d v).selection,KT (tD key s.id r d v).data,(tD key s.id r d v).P5⟩:eU).round (⟨(tD key s.id r d v).server,(tD key s.id r d v).round,(tD key s.id r d v).selection,KT (tD key s.id r d v).data,(tD key s.id r d v).P5⟩:eU).selection (⟨(tD key s.id r d v).server,(tD key s.id r d v).round,(tD key s.id r d v).selection,KT (tD key s.id r d v).data,(tD key s.id r d v).P5⟩:eU).data)]⟩)] [10,12,13] [] rfl (by(with_reducible and_intros)<;>first|exact⟨⟩|exact(pV key (⟨(tD key s.id r d v).server,(tD key s.id r d v).round,(tD key s.id r d v).selection,KT (tD key s.id r d v).data,(tD key s.id r d v).P5⟩:eU) (by show(tD key s.id r d v).selection.length≤_;rw[hg];exact hv) (by show(KT (tD key s.id r d v).data).length≤_;rw[Mx,Fa];decide))) (aT X [10,11] rfl (by trivial) (az (aj rfl (by and_intros<;>first|exact⟨⟩| (rw[ha];simp only[hg];rfl;done)| (rw[hk];done)))))
 ·have hq:(nK d v&&(s.behavior==3))=false:=pQ hb0 (by simp only[bG]<;>first|rfl|ac_rfl)
  have ha:=Zo (key:=key) (r:=r) hq
  exact aE (aT X [10,11] rfl (by trivial) (az (aj rfl (by and_intros<;>first|exact⟨⟩|rfl| (rw[ha];done)))))
theorem vm(b:List UInt8):So 254 [.a (.sl .u8 b)] [bl (!decide ((b.length:Int)=24))]:=by
 refine aC X call254 func254 ntmps254 rfl rfl ?_
 intro zb
 exact aF X [0] rfl (aF X [2] rfl (az (aj rfl ⟨(congrArg dS (by simp only[bG]<;>first|rfl|ac_rfl)),⟨⟩⟩)))
theorem JZ(l:List (List UInt8))(hr: ∀a,a∈l→a.length≤1048576):So 255 [.a (.sl (.sl .u8) l)] [.a (.sl .u8 (yL l))]:=by
 refine aC X call255 func255 ntmps255 rfl rfl ?_
 intro zb
 refine eV 0 rfl (fun oO=>(aF X [0] rfl (aT X [0,3] rfl (by and_intros<;>first|exact⟨⟩|exact rfl) (ah (aF X [3,7,8,9] rfl ?_)))))
 refine aG (aW (fun k=>k≤l.length) (fun k:Nat=> [(9, .one ((aM k)))]) (fun k=> [(6, .arr .u8 (yL (l.take k)))]) (fun k=>l.length-k) 0 (fun k=>rfl) (aD _) rfl ?_)
 intro k hk
 have hle:=O7 hr k
 refine aF X [3,7,8,9,10] rfl ?_
 refine ah (aA rfl ?_ ?_)<;>intro hb0
 ·try simp only[bO]at hb0
  have hel:=hr _ (getD_in (aP (.sl .u8)) hb0)
  have hs:=Eu l k hb0
  refine aE (ah (aG (aT X [3,5,7,8,9] rfl (by and_intros<;>first|exact⟨⟩| (intros;omega)) (bH X [] [(15,⟨true,[.a (.sl .u8 (fG (yL (l.take k)) (l.getD k (aP (.sl .u8)))))]⟩)] [3,7,8,9] [] rfl (by(with_reducible and_intros)<;>first|exact⟨⟩|exact(mT (yL (l.take k)) (l.getD k (aP (.sl .u8))) (by first|assumption|omega| (simp;done)| (simp;omega)) (by first|assumption|omega| (simp;done)| (simp;omega)))) (rQ 3 6 rfl (cW X [3,7,8,9] rfl ?_))))))
  refine⟨k+1,by omega,by omega,?_⟩
  rw[dh _ k rfl (by omega),hs]
  try rfl
 ·try simp only[bO]at hb0
  exact bp (aF X [2] rfl (az (aj rfl ⟨by rw[aB hb0],⟨⟩⟩)))
theorem J0(l:List (List UInt8))(hr: ∀a,a∈l→a.length≤1048576):So 260 [.a (.sl (.sl .u8) l)] [.a (.sl .u8 (yL l))]:=by
 refine aC X call260 func260 ntmps260 rfl rfl ?_
 intro zb
 refine eV 0 rfl (fun oO=>(aF X [0] rfl (aT X [0,3] rfl (by and_intros<;>first|exact⟨⟩|exact rfl) (ah (aF X [0,3,4] rfl ?_)))))
 refine aG (aW (fun k=>k≤l.length) (fun k:Nat=> [(4, .one ((aM k)))]) (fun k=> [(5, .arr .u8 (yL (l.take k)))]) (fun k=>l.length-k) 0 (fun k=>rfl) (aD _) rfl ?_)
 intro k hk
 have hle:=O7 hr k
 refine ah (aF X [0,3,4,9] rfl ?_)
 refine aA rfl ?_ ?_<;>intro hb0
 ·try simp only[bO]at hb0
  have hel:=hr _ (getD_in (aP (.sl .u8)) hb0)
  have hs:=Eu l k hb0
  refine aE (ah (aG (bH X [] [(17,⟨true,[.a (.sl .u8 (fG (yL (l.take k)) (l.getD k (aP (.sl .u8)))))]⟩)] [0,3,4] [] rfl (by(with_reducible and_intros)<;>first|exact⟨⟩|exact(mU (yL (l.take k)) (l.getD k (aP (.sl .u8))) (by first|assumption|omega| (simp;done)| (simp;omega)) (by first|assumption|omega| (simp;done)| (simp;omega)))| (intros;omega)) (rQ 3 5 rfl (cW X [0,3,4] rfl ?_)))))
  refine⟨k+1,by omega,by omega,?_⟩
  rw[dh _ k rfl (by omega),hs]
  try rfl
 ·try simp only[bO]at hb0
  exact bp (aF X [2] rfl (az (aj rfl ⟨by rw[aB hb0],⟨⟩⟩)))
theorem xj(l:List (List UInt8)):So 223 [.a (.sl (.sl .u8) l)] [.a (.sl .u8 (cmb l)),bl (kR l)]:=by
 refine aC X call223 func223 ntmps223 rfl rfl ?_
 intro zb
 refine eV 0 rfl (fun oO=>(aF X [0] rfl (ah (aS X [] [(6,⟨false,[bl (eA (l.length:Int))]⟩),(10,⟨false,[bl (l.any fun b=> !decide ((b.length:Int)=24))]⟩)] [0,11] [] rfl (by(with_reducible and_intros);(iterate 2 all_goals try first|exact⟨⟩|exact(ia (l.length:Int))|exact fun _=>(gH _ _ _ vm))) ?_))))
 refine aA rfl ?_ ?_<;>intro hb0
 ·have hk:kR l=false:=by rw[kR,yq];exact dG hb0 (by simp only[bG]<;>first|rfl|ac_rfl)
  exact aF X [2,3] rfl (az (aj rfl ⟨by rw[GC hk],by rw[hk],⟨⟩⟩))
 ·have hk:kR l=true:=by rw[kR,yq];exact dF hb0 (by simp only[bG]<;>first|rfl|ac_rfl)
  have hel:=O9 hk
  exact aE (aS X [] [(13,⟨true,[.a (.sl .u8 (yL l))]⟩)] [2,3] [] rfl (by(with_reducible and_intros)<;>first|exact⟨⟩|exact(JZ l hel)) (az (aj rfl ⟨by rw[My hk],by rw[hk],⟨⟩⟩)))
theorem xk(l:List (List UInt8)):So 245 [.a (.sl (.sl .u8) l)] [.a (.sl .u8 (cmb l)),bl (kR l)]:=by
 refine aC X call245 func245 ntmps245 rfl rfl ?_
 intro zb
 refine eV 0 rfl (fun oO=>(aF X [0] rfl (ah (aF X [0,4] rfl ?_))))
 refine aG (aW (fun k=>k≤l.length∧(l.take k).all (fun a=>decide ((a.length:Int)=24))=true) (fun k:Nat=> [(4, .one ((aM k)))]) (fun k=> []) (fun k=>l.length-k) 0 (fun k=>rfl) ⟨aD _,rfl⟩ rfl ?_)
 rintro k ⟨hk0,hall⟩
 refine ah (aF X [0,4,8] rfl ?_)
 refine aA rfl ?_ ?_<;>intro hb0
 ·try simp only[bO]at hb0
  refine aE (ah (aG (aT X [0,4,16] rfl (by and_intros<;>first|exact⟨⟩| (intros;omega)) ?_)))
  refine aA rfl ?_ ?_<;>intro cx
  ·try simp only[bO]at cx
   have hk:=adg hb0 (fun h=>cx (by rw[h];rfl))
   exact aT X [2,3] rfl (by and_intros<;>first|exact⟨⟩|exact rfl) (az (aj rfl ⟨by rw[GC hk],by rw[hk],⟨⟩⟩))
  ·try simp only[bO]at cx
   refine aE (cW X [0,4] rfl ?_)
   refine⟨k+1,⟨by omega,by rw[H6 _ _ _ (aP (.sl .u8)) hb0,hall,Bool.true_and];exact decide_eq_true cx⟩,by omega,?_⟩
   rw[dh _ k rfl (by omega)]
   try rfl
 ·try simp only[bO]at hb0
  rw[aB hb0]at hall
  refine bp (ah (aS X [] [(20,⟨false,[bl (eA (l.length:Int))]⟩)] [0,21] [] rfl (by(with_reducible and_intros)<;>first|exact⟨⟩|exact(ke (l.length:Int))) ?_))
  refine aA rfl ?_ ?_<;>intro dY
  ·have hk:kR l=false:=by rw[kR,hall];simpa using dY
   exact aT X [2,3] rfl (by and_intros<;>first|exact⟨⟩|exact rfl) (az (aj rfl ⟨by rw[GC hk],by rw[hk],⟨⟩⟩))
  ·have hk:kR l=true:=by rw[kR,hall];simpa using dY
   have hel:=O9 hk
   exact aE (aS X [] [(24,⟨true,[.a (.sl .u8 (yL l))]⟩)] [2,3] [] rfl (by(with_reducible and_intros)<;>first|exact⟨⟩|exact(J0 l hel)) (az (aj rfl ⟨by rw[My hk],by rw[hk],⟨⟩⟩)))
theorem yN(l:List eU)(hl:l.length≤1048576):So 166 [.a (.sl .eU l)] [.a (.sl .u8 (cmb (l.map eU.data))),bl (kR (l.map eU.data))]:=by
 refine aC X call166 func166 ntmps166 rfl rfl ?_
 intro zb
 refine aF X [0] rfl (aT X [0,4] rfl (by and_intros<;>first|exact⟨⟩|exact rfl) (Pa 4 60 rfl (ah (aF X [4,8,9,10] rfl ?_))))
 refine aG (aW (fun k=>k≤l.length) (fun k:Nat=> [(10, .one ((aM k)))]) (fun k=> [(60, .jG (.sl .u8) ((l.take k).map eU.data) .sj)]) (fun k=>l.length-k) 0 (fun k=>rfl) (aD _) rfl ?_)
 intro k hk
 have hle:=cG l k
 refine aF X [4,8,9,10,11] rfl ?_
 refine ah (aA rfl ?_ ?_)<;>intro hb0
 ·try simp only[bO]at hb0
  have hs:=qw eU.data l k (aP .eU) hb0
  have hml:((l.take k).map eU.data).length=(l.take k).length:=bg ..
  refine aE (ah (aG (aT X [4,6,8,9,10] rfl (by and_intros<;>first|exact⟨⟩| (intros;omega)) (bH X [(18,60)] [] [4,8,9,10] [] rfl (by and_intros<;>first|exact⟨⟩|exact rfl| (simp only[gb,maxLen,lens];omega)) (cW X [4,8,9,10] rfl ?_)))))
  refine⟨k+1,by omega,by omega,?_⟩
  rw[dh _ k rfl (by omega),hs]
  try rfl
 ·try simp only[bO]at hb0
  rw[aB hb0]
  refine bp (ah ?_)
  have t1:=(xj (l.map eU.data))
  exact bH X [] [(21,⟨true,dH t1⟩)] [2,3] [] rfl (by(with_reducible and_intros)<;>first|exact⟨⟩|exact t1) (az (aj rfl ⟨rfl,rfl,⟨⟩⟩))
theorem yO(l:List eU)(hl:l.length≤1048576):So 199 [.a (.sl .eU l)] [.a (.sl .u8 (cmb (l.map eU.data))),bl (kR (l.map eU.data))]:=by
 refine aC X call199 func199 ntmps199 rfl rfl ?_
 intro zb
 refine aF X [0] rfl (aT X [0,4] rfl (by and_intros<;>first|exact⟨⟩|exact rfl) (Pa 4 60 rfl (ah (aF X [0,4,5] rfl ?_))))
 refine aG (aW (fun k=>k≤l.length) (fun k:Nat=> [(5, .one ((aM k)))]) (fun k=> [(60, .jG (.sl .u8) ((l.take k).map eU.data) .sj)]) (fun k=>l.length-k) 0 (fun k=>rfl) (aD _) rfl ?_)
 intro k hk
 have hle:=cG l k
 refine ah (aF X [0,4,5,10] rfl ?_)
 refine aA rfl ?_ ?_<;>intro hb0
 ·try simp only[bO]at hb0
  have hs:=qw eU.data l k (aP .eU) hb0
  have hml:((l.take k).map eU.data).length=(l.take k).length:=bg ..
  refine aE (ah (aG (bH X [(20,60)] [] [0,4,5] [] rfl (by and_intros<;>first|exact⟨⟩| (intros;omega)|exact rfl| (simp only[gb,maxLen,lens];omega)) (cW X [0,4,5] rfl ?_))))
  refine⟨k+1,by omega,by omega,?_⟩
  rw[dh _ k rfl (by omega),hs]
  try rfl
 ·try simp only[bO]at hb0
  rw[aB hb0]
  refine bp (ah ?_)
  have t1:=(xk (l.map eU.data))
  exact bH X [] [(22,⟨true,dH t1⟩)] [2,3] [] rfl (by(with_reducible and_intros)<;>first|exact⟨⟩|exact t1) (az (aj rfl ⟨rfl,rfl,⟨⟩⟩))
theorem s9(x:ck)(r row s:Int)(hk:okW x=true):So 107 [.agg (b7 x),aM r,aM row,aM s] [.a (.sl .u8 (Mt x r row s)),bl (FE x r row s)]:=by
 refine aC X call107 func107 ntmps107 rfl rfl ?_
 intro zb
 have har:=MA hk
 have hql:=Tz r row s hk
 have hs4:=gw hk
 have hrl:=pO x.av.length r row s
 refine aF X [1,2,3,4] rfl (ah ?_)
 have t1:=(nG x.aJ r ⟨by omega,har.2⟩)
 refine bH X [] [(21,⟨true,dH t1⟩)] [1,2,3,4,10,11] [] rfl (by(with_reducible and_intros)<;>first|exact⟨⟩|exact t1) (ah (aS X [] [(25,⟨false,[bl (okW x)]⟩)] [1,2,3,4,10,30] [] rfl (by(with_reducible and_intros)<;>first|exact⟨⟩|exact(fj x)) ?_))
 refine aA rfl ?_ ?_<;>intro hb0
 ·have hh:kQ x.aJ.rounds r=false:=by rw[hk]at hb0;simpa using hb0
  exact aF X [8,9] rfl (az (aj rfl ⟨by rw[(Mz hh).1],by rw[(Mz hh).2],⟨⟩⟩))
 ·have hh:kQ x.aJ.rounds r=true:=by rw[hk]at hb0;simpa using hb0
  have hpy:=TA (row:=row) (s:=s) hh
  refine aE (aT X [1,2,3,4,10,12] rfl (by and_intros<;>first|exact⟨⟩|exact rfl) (ah (ah ?_)))
  have t1:=(Ee x.rows row (jS x.av.length r row s) (by omega))
  refine aX X [] [(39,⟨true,[.a (.sl .int (jS x.av.length r row s))]⟩),(40,⟨true,dH t1⟩)] [1,4,10,12,40,41,42] [] 2047 0 MO (by kernel_rfl) rfl (by kernel_rfl) (by(with_reducible and_intros);(iterate 2 all_goals try first|exact⟨⟩|exact(Eg x r row s (by omega))|exact t1)) ?_
  refine aG (aW (fun k=>k≤(query' x r row s).length) (fun k:Nat=> [(42, .one ((aM k)))]) (fun k=> [(31, .arr .eU (wS x r (jW x.aJ.rounds r) (query' x r row s) k))]) (fun k=>(query' x r row s).length-k) 0 (fun k=>rfl) (aD _) rfl ?_)
  intro k hk
  have hal:=KU x r (jW x.aJ.rounds r) (query' x r row s) k
  have hqy:(mm x.rows row (jS x.av.length r row s)).length=(query' x r row s).length:=rfl
  refine aF X [1,4,10,12,40,41,42,43] rfl ?_
  refine ah (aA rfl ?_ ?_)<;>intro cx
  ·try simp only[bO]at cx
   have hqe:=Zr x r row s k
   have hs:=IS x r (jW x.aJ.rounds r) (query' x r row s) k
   refine aE (ah (aG (aT X [1,4,10,12,13,14,40,41,42] rfl (by and_intros<;>first|exact⟨⟩| (intros;omega)) (ah ?_))))
   have t1:=(wY (x.av.getD k (aP .bZ)) (kG x.bS (k:Int)) r (jW x.aJ.rounds r) ((query' x r row s).getD k (aP (.sl .int))) (by omega))
   refine aX X [] [(56,⟨false,[aM (kG x.bS (k:Int))]⟩),(60,⟨true,dH t1⟩)] [1,4,10,12,15,16,40,41,42] [] 393215 1 MO (by kernel_rfl) rfl (by kernel_rfl) (by(with_reducible and_intros);(iterate 2 all_goals try first|exact⟨⟩|exact(l9 x.bS (k:Int))|exact t1);all_goals first| (intros;omega)) (ah (aF X [1,4,10,12,15,40,41,42,64] rfl ?_))
   refine aA rfl ?_ ?_<;>intro dY
   ·have hno:=Zh cx (by simpa using dY)
    exact aF X [8,9] rfl (az (aj rfl ⟨by rw[hpy.1,GC hno],by rw[hpy.2,hno],⟨⟩⟩))
   ·refine aE (bH X [(68,31)] [] [1,4,10,12,40,41,42] [] rfl (by and_intros<;>first|exact⟨⟩|exact rfl| (simp only[gb,maxLen,lens];omega)) (cW X [1,4,10,12,40,41,42] rfl ?_))
    refine⟨k+1,by omega,by omega,?_⟩
    rw[dh _ k rfl (by omega),hs]
    try rfl
  ·try simp only[bO]at cx
   refine bp (ah ?_)
   have t1:=(yN (wS x r (jW x.aJ.rounds r) (query' x r row s) k) (by omega))
   exact bH X [] [(71,⟨true,dH t1⟩)] [8,9] [] rfl (by(with_reducible and_intros)<;>first|exact⟨⟩|exact t1) (az (aj rfl ⟨by rw[hpy.1,show k=(query' x r row s).length by omega];rfl,by rw[hpy.2,show k=(query' x r row s).length by omega];rfl,⟨⟩⟩))
theorem yP(x:ck)(r row s:Int)(hk:okW x=true):So 136 [.agg (b7 x),aM r,aM row,aM s] [.a (.sl .u8 (Mt x r row s)),bl (FE x r row s)]:=by
 refine aC X call136 func136 ntmps136 rfl rfl ?_
 intro zb
 have har:=MA hk
 have hql:=Tz r row s hk
 have hs4:=gw hk
 have hrl:=pO x.av.length r row s
 have hw:aq.wrap ((x.av.length:Int)-1)=(x.av.length:Int)-1:=cV (by omega)
 refine aF X [1,2,3,4] rfl (ah ?_)
 have t1:=(nH x.aJ r ⟨by omega,har.2⟩)
 refine bH X [] [(23,⟨true,dH t1⟩)] [1,2,3,4,10,11] [] rfl (by(with_reducible and_intros)<;>first|exact⟨⟩|exact t1) (ah (aF X [1,2,3,4,10,27] rfl ?_))
 refine aA rfl ?_ ?_<;>intro hb0
 ·have hh:kQ x.aJ.rounds r=false:=by simpa using hb0
  exact aT X [8,9] rfl (by and_intros<;>first|exact⟨⟩|exact rfl) (az (aj rfl ⟨by rw[(Mz hh).1],by rw[(Mz hh).2],⟨⟩⟩))
 ·have hh:kQ x.aJ.rounds r=true:=by simpa using hb0
  have hpy:=TA (row:=row) (s:=s) hh
  refine aE (aT X [1,2,3,4,10,12] rfl (by and_intros<;>first|exact⟨⟩|exact rfl) (ah (aF X [1,2,3,4,10,12,13] rfl ?_)))
  refine aG (aW (fun k=>k≤(x.av.length-1)) (fun k:Nat=> [(13, .one ((aM k)))]) (fun k=> [(29, .arr .int ((jS x.av.length r row s).take k))]) (fun k=>(x.av.length-1)-k) 0 (fun k=>rfl) (aD _) rfl ?_)
  intro k hk
  have hle:=cG (jS x.av.length r row s) k
  refine ah (aF X [1,2,3,4,10,12,13,35] rfl ?_)
  refine aA rfl ?_ ?_<;>intro cx
  ·try simp only[bO]at cx
   rw[hw]at cx
   have hs:=Fv x.av.length r row s k (by omega)
   refine aE (ah (aG (bH X [(46,29)] [(44,⟨false,[aM (kh s [229,r,row,(k:Int)])]⟩)] [1,2,3,4,10,12,13] [] rfl (by(repeat' with_reducible first|exact bF|refine bJ ?_ ?_|apply aO)<;>first|exact(cF s [229,r,row,(k:Int)] (by first|assumption|omega| (simp;done)| (simp;omega)))|exact rfl|exact⟨rfl,bM _ (by decide)⟩| (simp only[gb,maxLen,lens];omega)) ?_)))
   refine cW X [1,2,3,4,10,12,13] rfl ?_
   refine⟨k+1,by omega,by omega,?_⟩
   rw[dh _ k rfl (by omega),hs]
   try rfl
  ·try simp only[bO]at cx
   rw[hw]at cx
   refine bp (ah ?_)
   rw[aB (show(jS x.av.length r row s).length≤k by omega)]
   have t1:=(Ef x.rows row (jS x.av.length r row s) (by omega))
   refine bH X [] [(51,⟨true,dH t1⟩)] [1,4,10,14] [] rfl (by(with_reducible and_intros)<;>first|exact⟨⟩|exact t1) (aT X [1,4,10,14,15] rfl (by and_intros<;>first|exact⟨⟩|exact rfl) (ah (aF X [1,4,10,14,15,16] rfl ?_)))
   refine aG (aW (fun k1=>k1≤(query' x r row s).length) (fun k1:Nat=> [(16, .one ((aM k1)))]) (fun k1=> [(52, .arr .eU (wS x r (jW x.aJ.rounds r) (query' x r row s) k1))]) (fun k1=>(query' x r row s).length-k1) 0 (fun k1=>rfl) (aD _) rfl ?_)
   intro k1 hk1
   have hal:=KU x r (jW x.aJ.rounds r) (query' x r row s) k1
   have hqy:(mm x.rows row (jS x.av.length r row s)).length=(query' x r row s).length:=rfl
   refine ah (aF X [1,4,10,14,15,16,56] rfl ?_)
   refine aA rfl ?_ ?_<;>intro dY
   ·try simp only[bO]at dY
    have hqe:=Zr x r row s k1
    have hs1:=IS x r (jW x.aJ.rounds r) (query' x r row s) k1
    refine aE (ah (aG (ah ?_)))
    have t1:=(wZ (x.av.getD k1 (aP .bZ)) (kG x.bS (k1:Int)) r (jW x.aJ.rounds r) ((query' x r row s).getD k1 (aP (.sl .int))) (by omega))
    refine aX X [] [(68,⟨false,[aM (kG x.bS (k1:Int))]⟩),(75,⟨true,dH t1⟩)] [1,4,10,14,15,16,17] [] 3145727 1 MO (by kernel_rfl) rfl (by kernel_rfl) (by(with_reducible and_intros);(iterate 2 all_goals try first|exact⟨⟩|exact(mg x.bS (k1:Int))|exact t1);all_goals first| (intros;omega)) (bH X [(81,52)] [] [1,4,10,14,15,16] [] rfl (by and_intros<;>first|exact⟨⟩|exact rfl| (simp only[gb,maxLen,lens];omega)) (cW X [1,4,10,14,15,16] rfl ?_))
    refine⟨k1+1,by omega,by omega,?_⟩
    rw[dh _ k1 rfl (by omega),hs1]
    try rfl
   ·try simp only[bO]at dY
    refine bp (ah ?_)
    have t1:=(yO (wS x r (jW x.aJ.rounds r) (query' x r row s) k1) (by omega))
    exact bH X [] [(83,⟨true,dH t1⟩)] [8,9] [] rfl (by(with_reducible and_intros)<;>first|exact⟨⟩|exact t1) (az (aj rfl ⟨by rw[hpy.1,show k1=(query' x r row s).length by omega];rfl,by rw[hpy.2,show k1=(query' x r row s).length by omega];rfl,⟨⟩⟩))
end
section
set_option maxRecDepth 100000
theorem jQ(c:gQ)(h0:fU aQ c.bu≤1048576∧fU aQ c.inbox≤1048576):So 146 [.agg (dw c)] [.agg (dw c)]:=by
 refine aC X call146 func146 ntmps146 rfl rfl ?_
 intro zb
 exact aF X [1,2] rfl (aS X [] [(5,⟨true,[.a (.sl (.sl .u8) c.bu)]⟩)] [1,2] [] rfl (by(with_reducible and_intros)<;>first|exact⟨⟩|exact(pJ c.bu h0.1)) (aS X [] [(9,⟨true,[.a (.sl (.sl .u8) c.inbox)]⟩)] [1,2] [] rfl (by(with_reducible and_intros)<;>first|exact⟨⟩|exact(pJ c.inbox h0.2)) (aT X [2] rfl (by trivial) (az (aj rfl ⟨rfl,rfl,rfl,rfl,rfl,rfl,rfl,rfl,⟨⟩⟩)))))
theorem oK(d:cz)(h0:cX d≤1048576):So 85 [.agg (ew d)] [.agg (ew d)]:=by
 refine aC X call85 func85 ntmps85 rfl rfl ?_
 intro zb
 have AQ:eO d.live≤1048576∧eO d.saved≤1048576:=by unfold cX at h0;omega
 unfold eO at AQ
 exact aF X [1,2] rfl (ah (aX X [] [(5,⟨true,[.agg (dw d.live)]⟩),(8,⟨true,[.agg (dw d.saved)]⟩)] [2] [] 127 0 MO (by kernel_rfl) rfl (by kernel_rfl) (by(with_reducible and_intros);(iterate 2 all_goals try first|exact⟨⟩|exact(jQ d.live ⟨by omega,by omega⟩)|exact(jQ d.saved ⟨by omega,by omega⟩))) (az (aj rfl ⟨rfl,rfl,rfl,rfl,rfl,rfl,rfl,rfl,rfl,rfl,rfl,rfl,rfl,rfl,rfl,rfl,⟨⟩⟩))))
theorem tj(a:mE)(h0:iL a≤1048576):So 87 [.agg (gu a)] [.agg (gu a)]:=by
 refine aC X call87 func87 ntmps87 rfl rfl ?_
 intro zb
 have hls:fU ij a.rounds≤1048576:=h0
 have oO:=gr hls
 refine aF X [1,2] rfl (aF X [1,2,3] rfl (l6 3 1 60 .bz rfl (ah (aF X [2,3,10,11,12] rfl ?_))))
 refine aG (aW (fun k=>k≤a.rounds.length) (fun k:Nat=> [(12, .one ((aM k)))]) (fun k=> [(60, .arr .bz (a.rounds.take k))]) (fun k=>a.rounds.length-k) 0 (fun k=>rfl) (aD _) rfl ?_)
 intro k hk
 have hle:=cG a.rounds k
 refine aF X [2,3,10,11,12,13] rfl ?_
 refine ah (aA rfl ?_ ?_)<;>intro hb0
 ·try simp only[bO]at hb0
  have hs:=cM a.rounds k (aP .bz) hb0
  refine aE (ah (aG (aT X [2,3,5,10,11,12] rfl (by and_intros<;>first|exact⟨⟩| (intros;omega)) (aX X [(25,60)] [(22,⟨true,[.agg (bL ((a.rounds.getD k (aP .bz)).db))]⟩),(500024,⟨true,[]⟩)] [2,3,10,11,12] [] 511 0 MO (by kernel_rfl) rfl (by kernel_rfl) (by(repeat' with_reducible first|exact bF|refine bJ ?_ ?_|apply aO)<;>first|exact(eL ((a.rounds.getD k (aP .bz)).db) (nN hls (getD_some a.rounds _ k hb0)))|exact rfl|exact⟨rfl,bM _ (by decide)⟩| (simp only[gb,maxLen,lens];omega)) ?_))))
  refine cW X [2,3,10,11,12] rfl ?_
  refine⟨k+1,by omega,by omega,?_⟩
  rw[dh _ k rfl (by omega),hs]
  try rfl
 ·try simp only[bO]at hb0
  exact bp (aT X [2] rfl (by trivial) (az (aj rfl ⟨rfl,by rw[aB hb0],⟨⟩⟩)))
theorem je(x:ck)(h0:wB x):So 39 [.agg (b7 x)] [.agg (b7 x)]:=by
 refine aC X call39 func39 ntmps39 rfl rfl ?_
 intro zb
 have hls:fU gy x.av≤1048576∧fU cX x.af≤1048576∧iL x.aJ≤1048576∧x.replaced.length≤4194304:=h0
 have hl1:=gr hls.1
 have ru:=gr hls.2.1
 refine aF X [1,2] rfl (aT X [1,2,3] rfl (by and_intros<;>first|exact⟨⟩|exact rfl) (ah (aF X [1,2,3,8,9,10] rfl ?_)))
 refine aG (aW (fun k=>k≤x.af.length) (fun k:Nat=> [(10, .one ((aM k)))]) (fun k=> [(6, .arr .cz (x.af.take k))]) (fun k=>x.af.length-k) 0 (fun k=>rfl) (aD _) rfl ?_)
 intro k hk
 have hle:=cG x.af k
 refine aF X [1,2,3,8,9,10,11] rfl ?_
 refine ah (aA rfl ?_ ?_)<;>intro hb0
 ·try simp only[bO]at hb0
  have hs:=cM x.af k (aP .cz) hb0
  refine aE (ah (aG (aT X [1,2,3,5,8,9,10] rfl (by and_intros<;>first|exact⟨⟩| (intros;omega)) (bH X [(18,6)] [(16,⟨true,[.agg (ew (x.af.getD k (aP .cz)))]⟩)] [1,2,3,8,9,10] [] rfl (by(with_reducible and_intros)<;>first|exact⟨⟩|exact(oK (x.af.getD k (aP .cz)) (nN hls.2.1 (getD_some x.af _ k hb0)))|exact rfl| (simp only[gb,maxLen,lens];omega)) (cW X [1,2,3,8,9,10] rfl ?_)))))
  refine⟨k+1,by omega,by omega,?_⟩
  rw[dh _ k rfl (by omega),hs]
  try rfl
 ·try simp only[bO]at hb0
  exact bp (aS X [] [(22,⟨true,[.a (.sl .bZ x.av)]⟩)] [1,2,3] [] rfl (by(with_reducible and_intros)<;>first|exact⟨⟩|exact(sZ x.av hl1 (fun s hs=>by obtain⟨i,hi⟩:=List.mem_iff_getElem?.1 hs;exact KO hls.1 hi))) (aF X [1,2] rfl (aS X [] [(28,⟨true,[.agg (gu x.aJ)]⟩)] [1,2] [] rfl (by(with_reducible and_intros)<;>first|exact⟨⟩|exact(tj x.aJ hls.2.2.1)) (aS X [] [(32,⟨true,[.a (.sl .int x.replaced)]⟩)] [1,2] [] rfl (by(with_reducible and_intros)<;>first|exact⟨⟩|exact(kC x.replaced hls.2.2.2)) (aT X [2] rfl (by trivial) (az (aj rfl (by and_intros<;>first|exact⟨⟩|rfl| (rw[aB hb0];done)))))))))
theorem EH(c:gQ)(h0:fU aQ c.bu≤1048576∧fU aQ c.inbox≤1048576):So 225 [.agg (dw c)] [.agg (ew (⟨c,c⟩:cz))]:=by
 refine aC X call225 func225 ntmps225 rfl rfl ?_
 intro zb
 exact aF X [1,2] rfl (ah (aX X [(6,40)] [(4,⟨true,[.agg (dw c)]⟩),(6,⟨true,[.agg (dw c)]⟩)] [2] [] 31 0 MO (by kernel_rfl) rfl (by kernel_rfl) (by(with_reducible and_intros);(iterate 2 all_goals try first|exact⟨⟩|exact(jQ c h0))) (az (aj rfl ⟨rfl,rfl,rfl,rfl,rfl,rfl,rfl,rfl,rfl,rfl,rfl,rfl,rfl,rfl,rfl,rfl,⟨⟩⟩))))
theorem CT(d:cz)(h0:cX d≤1048576):So 169 [.agg (ew d)] [.agg (ew (Qg d))]:=by
 refine aC X call169 func169 ntmps169 rfl rfl ?_
 intro zb
 have AQ:eO d.live≤1048576∧eO d.saved≤1048576:=by unfold cX at h0;omega
 unfold eO at AQ
 refine aF X [1,2] rfl (ah (aS X [] [(4,⟨false,[bl (fX d)]⟩)] [1,2,5] [] rfl (by(with_reducible and_intros)<;>first|exact⟨⟩|exact(jN d)) ?_))
 refine aA rfl ?_ ?_<;>intro hb0
 ·have hk:fX d=false:=by simpa using hb0
  have hd:Qg d=d:=by rw[Qg,hk];rfl
  exact aS X [] [(7,⟨true,[.agg (ew d)]⟩)] [2] [] rfl (by(with_reducible and_intros)<;>first|exact⟨⟩|exact(oK d h0)) (az (aj rfl (by and_intros<;>first|exact⟨⟩| (rw[hd];done))))
 ·have hk:fX d=true:=by simpa using hb0
  have hd:Qg d=⟨d.live,d.live⟩:=by rw[Qg,if_pos hk]
  exact aE (aS X [] [(10,⟨true,[.agg (ew (⟨d.live,d.live⟩:cz))]⟩)] [2] [] rfl (by(with_reducible and_intros)<;>first|exact⟨⟩|exact(EH d.live ⟨by omega,by omega⟩)) (az (aj rfl (by and_intros<;>first|exact⟨⟩| (rw[hd];done)))))
theorem EI(d:cz):So 168 [.agg (ew d)] [bl (AB d)]:=by
 refine aC X call168 func168 ntmps168 rfl rfl ?_
 intro zb
 exact aF X [1] rfl (aS X [] [(4,⟨false,[bl (fX d)]⟩)] [2] [] rfl (by(with_reducible and_intros)<;>first|exact⟨⟩|exact(jN d)) (az (aj rfl ⟨(congrArg dS (by simp only[AB,bG]<;>first|rfl|ac_rfl)),⟨⟩⟩)))
theorem CU(c:gQ)(r n:Int):So 106 [.agg (dw c),aM r,aM n] [aM (iQ c.key r (eP c) n),aM (iQ c.key r (1-eP c) n)]:=by
 refine aC X call106 func106 ntmps106 rfl rfl ?_
 intro zb
 have hdw:=ZO c
 exact aF X [1,2,3] rfl (ah (aX X [] [(12,⟨false,[aM (eP c)]⟩),(14,⟨false,[aM (iQ c.key r (eP c) n)]⟩),(19,⟨false,[aM (eP c)]⟩),(22,⟨false,[aM (iQ c.key r (aq.wrap (1-eP c)) n)]⟩)] [6,7] [] 131071 0 MO (by kernel_rfl) rfl (by kernel_rfl) (by(with_reducible and_intros);(iterate 4 all_goals try first|exact⟨⟩|exact(kf c)|exact(nY c.key r (eP c) n)|exact(nY c.key r (aq.wrap (1-eP c)) n))) (az (aj rfl ⟨rfl,by rw[hdw],⟨⟩⟩))))
theorem CV(c:gQ)(r:Int)(own other:List UInt8)(h0:fU aQ c.bu≤1048576∧fU aQ c.inbox≤1048576):So 167 [.agg (dw c),aM r, .a (.sl .u8 own), .a (.sl .u8 other)] [.agg (dw (gR c r own other)),bl (pT c r)]:=by
 refine aC X call167 func167 ntmps167 rfl rfl ?_
 intro zb
 refine aF X [1,2,3,4,8] rfl (aS X [] [(14,⟨true,[.agg (dw c)]⟩)] [1,2,3,4,8,10] [] rfl (by(with_reducible and_intros)<;>first|exact⟨⟩|exact(jQ c h0)) (ah (aS X [] [(16,⟨false,[bl (fP c)]⟩),(22,⟨false,[bl (inr r c.next 99999)]⟩)] [1,2,3,4,8,10,24] [] rfl (by(with_reducible and_intros);(iterate 2 all_goals try first|exact⟨⟩|exact(jM c)|exact fun _=>(bB r c.next 99999))) ?_)))
 refine aA rfl ?_ ?_<;>intro hb0
 ·have hk:pT c r=false:=dG hb0 (by simp only[pT,bG]<;>first|rfl|ac_rfl)
  have hc:=Pn (own:=own) (other:=other) hk
  exact aT X [8,9] rfl (by trivial) (az (aj rfl (by and_intros<;>first|exact⟨⟩| (rw[hc];done)| (rw[hk];done))))
 ·have hk:pT c r=true:=dF hb0 (by simp only[pT,bG]<;>first|rfl|ac_rfl)
  obtain⟨hok,hn1,hn2,hn3⟩:=ZJ hk
  obtain⟨hu1,Wr,_,_,hs0,hs9,_,_⟩:=vg hok
  have hc:gR c r own other=⟨c.id,c.gE,c.key,c.seed,c.bu,if lu c own then c.sent+1 else c.sent,if jP c other then c.inbox++ [(O5 (wU c) (c.inbox.length:Int) other).body]else c.inbox,r+1⟩:=by rw[gR,if_pos hk]
  refine aE (ah (aS X [] [(37,⟨false,[.a (.sl .u8 (sP c c.sent))]⟩),(38,⟨false,[bl (own==(sP c c.sent))]⟩)] [1,3,4,8,10,39] [] rfl ⟨fun _=>oc own (sP c c.sent),fun h=>sR c c.sent hs0 (of_decide_eq_true h),⟨⟩⟩ ?_))
  refine aA rfl ?_ ?_<;>intro cx
  ·have hh:lu c own=true:=l8 cx (by simp only[lu,bG]<;>first|rfl|ac_rfl)
   refine cW X [1,3,4,8,10] rfl ?_
   rw[cV (a:=c.sent+1) (by omega)]
   refine ah ?_
   have t1:=(wW (mK c.key (aq.wrap (1-eP c))) (c.inbox.length:Int) other)
   refine aX X [] [(48,⟨false,[aM (eP c)]⟩),(50,⟨false,[aM (mK c.key (aq.wrap (1-eP c)))]⟩),(55,⟨true,dH t1⟩)] [1,4,8,10,11,12] [] 98303 1 MO (by kernel_rfl) rfl (by kernel_rfl) (by(with_reducible and_intros);(iterate 3 all_goals try first|exact⟨⟩|exact(kf c)|exact(mw c.key (aq.wrap (1-eP c)))|exact t1)) ?_
   rw[CS]
   refine ah (aF X [1,8,10,11,69] rfl ?_)
   refine aA rfl ?_ ?_<;>intro dY
   ·have hg:jP c other=true:=l8 dY (by simp only[jP,bG]<;>first|rfl|ac_rfl)
    refine ny X [1,8,10] rfl (by and_intros<;>first|exact⟨⟩|exact rfl| (simp only[gb,maxLen,lens];omega)) (aF X [8,10] rfl ?_)
    rw[cV (a:=r+1) (by omega)]
    exact aT X [8,9] rfl (by trivial) (az (aj rfl (by and_intros<;>first|exact⟨⟩| (rw[hc];done)| (rw[hc];simp only[hh,if_true];done)| (rw[hc];simp only[hg,if_true];done)| (rw[hk];done))))
   ·have hg:jP c other=false:=pQ dY (by simp only[jP,bG]<;>first|rfl|ac_rfl)
    refine aE (aF X [8,10] rfl ?_)
    rw[cV (a:=r+1) (by omega)]
    exact aT X [8,9] rfl (by trivial) (az (aj rfl (by and_intros<;>first|exact⟨⟩| (rw[hc];done)| (rw[hc];simp only[hh,if_true];done)| (rw[hc];simp[hg];done)| (rw[hk];done))))
  ·have hh:lu c own=false:=pQ cx (by simp only[lu,bG]<;>first|rfl|ac_rfl)
   refine aE (ah ?_)
   have t1:=(wW (mK c.key (aq.wrap (1-eP c))) (c.inbox.length:Int) other)
   refine aX X [] [(48,⟨false,[aM (eP c)]⟩),(50,⟨false,[aM (mK c.key (aq.wrap (1-eP c)))]⟩),(55,⟨true,dH t1⟩)] [1,4,8,10,11,12] [] 98303 1 MO (by kernel_rfl) rfl (by kernel_rfl) (by(with_reducible and_intros);(iterate 3 all_goals try first|exact⟨⟩|exact(kf c)|exact(mw c.key (aq.wrap (1-eP c)))|exact t1)) ?_
   rw[CS]
   refine ah (aF X [1,8,10,11,69] rfl ?_)
   refine aA rfl ?_ ?_<;>intro dY
   ·have hg:jP c other=true:=l8 dY (by simp only[jP,bG]<;>first|rfl|ac_rfl)
    refine ny X [1,8,10] rfl (by and_intros<;>first|exact⟨⟩|exact rfl| (simp only[gb,maxLen,lens];omega)) (aF X [8,10] rfl ?_)
    rw[cV (a:=r+1) (by omega)]
    exact aT X [8,9] rfl (by trivial) (az (aj rfl (by and_intros<;>first|exact⟨⟩| (rw[hc];done)| (rw[hc];simp[hh];done)| (rw[hc];simp only[hg,if_true];done)| (rw[hk];done))))
   ·have hg:jP c other=false:=pQ dY (by simp only[jP,bG]<;>first|rfl|ac_rfl)
    refine aE (aF X [8,10] rfl ?_)
    rw[cV (a:=r+1) (by omega)]
    exact aT X [8,9] rfl (by trivial) (az (aj rfl (by and_intros<;>first|exact⟨⟩| (rw[hc];done)| (rw[hc];simp[hh];done)| (rw[hc];simp[hg];done)| (rw[hk];done))))
theorem Af(d:cz)(r:Int)(own other:List UInt8)(h0:cX d≤1048576):So 108 [.agg (ew d),aM r, .a (.sl .u8 own), .a (.sl .u8 other)] [.agg (ew (rdev d r own other)),bl (wm d r)]:=by
 refine aC X call108 func108 ntmps108 rfl rfl ?_
 intro zb
 have AQ:eO d.live≤1048576∧eO d.saved≤1048576:=by unfold cX at h0;omega
 unfold eO at AQ
 refine aF X [1,2,3,4,8] rfl (ah ?_)
 have t1:=(CV d.live r own other ⟨by omega,by omega⟩)
 refine bH X [] [(19,⟨true,dH t1⟩)] [4,8,10,11] [] rfl (by(with_reducible and_intros)<;>first|exact⟨⟩|exact t1) (ah (aS X [] [(26,⟨false,[bl (fX d)]⟩)] [4,8,10,28] [] rfl (by(with_reducible and_intros)<;>first|exact⟨⟩|exact fun _=>(jN d)) ?_))
 refine aA rfl ?_ ?_<;>intro hb0
 ·have hk:wm d r=false:=dG hb0 (by simp only[wm,bG]<;>first|rfl|ac_rfl)
  have hd:=TO (own:=own) (other:=other) hk
  exact aS X [] [(30,⟨true,[.agg (ew d)]⟩)] [8,9] [] rfl (by(with_reducible and_intros)<;>first|exact⟨⟩|exact(oK d h0)) (az (aj rfl (by and_intros<;>first|exact⟨⟩| (rw[hd];done)| (rw[hk];done))))
 ·have hk:wm d r=true:=dF hb0 (by simp only[wm,bG]<;>first|rfl|ac_rfl)
  have hz:=Po (own:=own) (other:=other) hk
  refine aE (ah (aX X [] [(34,⟨true,[.agg (dw d.saved)]⟩)] [8,12] [] 63 0 MO (by kernel_rfl) rfl (by kernel_rfl) (by(with_reducible and_intros)<;>first|exact⟨⟩|exact(jQ d.saved ⟨by omega,by omega⟩)) (ah (aS X [] [(37,⟨false,[bl (AB (qD d r own other))]⟩)] [8,12,37] [] rfl (by(with_reducible and_intros)<;>first|exact⟨⟩|exact(EI (qD d r own other))) ?_))))
  refine aA rfl ?_ ?_<;>intro cx
  ·have hd:=TP hk cx
   exact bH X [] [(39,⟨true,[.agg (ew (Qg (qD d r own other)))]⟩)] [8,12] [] rfl (by(with_reducible and_intros)<;>first|exact⟨⟩|exact(CT (qD d r own other) hz)) (aT X [8,9] rfl (by trivial) (az (aj rfl (by and_intros<;>first|exact⟨⟩| (rw[hd];done)| (rw[hk];done)))))
  ·have hd:=TQ hk cx
   exact aE (aT X [8,9] rfl (by trivial) (az (aj rfl (by and_intros<;>first|exact⟨⟩| (rw[hd];rfl;done)| (rw[hk];done)))))
theorem EJ(x:ck)(h0:wB x):So 60 [.agg (b7 x)] [.agg (b7 (Dt x))]:=by
 refine aC X call60 func60 ntmps60 rfl rfl ?_
 intro zb
 have hls:fU gy x.av≤1048576∧fU cX x.af≤1048576∧iL x.aJ≤1048576∧x.replaced.length≤4194304:=h0
 have ru:=gr hls.2.1
 refine aF X [1,2] rfl (aS X [] [(15,⟨true,[.agg (b7 x)]⟩)] [1,2,3] [] rfl (by(with_reducible and_intros)<;>first|exact⟨⟩|exact(je x h0)) (ah (aS X [] [(17,⟨false,[bl (okW x)]⟩)] [1,2,3,18] [] rfl (by(with_reducible and_intros)<;>first|exact⟨⟩|exact(fj x)) ?_)))
 refine aA rfl ?_ ?_<;>intro hb0
 ·have hk0:okW x=false:=by simpa using hb0
  have hw:=ZN hk0
  exact aT X [2] rfl (by trivial) (az (aj rfl (by and_intros<;>first|exact⟨⟩| (rw[hw];done))))
 ·have hk0:okW x=true:=by simpa using hb0
  have hw:=zP hk0
  have har:=MA hk0
  have hd8:=(v8 (pM hk0)).2.1
  refine aE (ah (aF X [1,2,3,21,22,23] rfl ?_))
  refine aG (aW (fun k=>k≤x.af.length) (fun k:Nat=> [(23, .one ((aM k)))]) (fun k=> [(17, .arr .cz (WG x k))]) (fun k=>x.af.length-k) 0 (fun k=>rfl) (aD _) rfl ?_)
  intro k hk
  have JU:=Tu x k hk
  refine aF X [1,2,3,21,22,23,24] rfl ?_
  refine ah (aA rfl ?_ ?_)<;>intro cx
  ·try simp only[bO]at cx
   have hrg:=Tt x k cx
   have h00:=Zi x k cx
   have E9:=Bh x.aJ.rounds (x.af.getD k (aP .cz)).live.next
   have amC:(uc x (x.af.getD k (aP .cz))).length≤x.aJ.rounds.length:=E9
   have hrq:(jB x.aJ.rounds (x.af.getD k (aP .cz)).live.next).length=(uc x (x.af.getD k (aP .cz))).length:=rfl
   refine aE (ah (aG (aT X [1,2,3,4,5,21,22,23] rfl (by and_intros<;>first|exact⟨⟩| (intros;omega)) (ah ?_))))
   have t1:=(Bi x.aJ ((x.af.getD k (aP .cz)).live.next) (by omega))
   refine bH X [] [(33,⟨true,dH t1⟩)] [1,2,3,4,5,21,22,23,33,34,35] [] rfl (by(with_reducible and_intros)<;>first|exact⟨⟩|exact t1) ?_
   refine aG (aW (fun k1=>k1≤(uc x (x.af.getD k (aP .cz))).length) (fun k1:Nat=> [(35, .one ((aM k1)))]) (fun k1=> [(17, .arr .cz (vB x k k1))]) (fun k1=>(uc x (x.af.getD k (aP .cz))).length-k1) 0 (fun k1=>rfl) (aD _) (by rw[h00];rfl) ?_)
   intro k1 hk1
   have sr:=Tq x k k1 cx
   refine aF X [1,2,3,4,5,21,22,23,33,34,35,36] rfl ?_
   refine ah (aA rfl ?_ ?_)<;>intro dY
   ·try simp only[bO]at dY
    have hs:=O8 x k k1 cx dY
    have hsz:=ZK hk0 cx k1
    refine aE (ah (aG (aT X [1,2,3,4,5,7,21,22,23,33,34,35] rfl (by and_intros<;>first|exact⟨⟩| (intros;omega)) (ah ?_))))
    have t1:=(CU ((x.af.getD k (aP .cz)).live) ((uc x (x.af.getD k (aP .cz))).getD k1 (aP .int)) x.rows)
    refine bH X [] [(45,⟨false,dH t1⟩)] [1,2,3,4,5,7,8,9,21,22,23,33,34,35] [] rfl (by(with_reducible and_intros)<;>first|exact⟨⟩|exact t1) (ah ?_)
    have t1:=(s9 x ((uc x (x.af.getD k (aP .cz))).getD k1 (aP .int)) (iQ (x.af.getD k (aP .cz)).live.key ((uc x (x.af.getD k (aP .cz))).getD k1 (aP .int)) (eP (x.af.getD k (aP .cz)).live) x.rows) ((x.af.getD k (aP .cz)).live.seed) hk0)
    refine bH X [] [(55,⟨true,dH t1⟩)] [1,2,3,4,5,7,9,10,21,22,23,33,34,35] [] rfl (by(with_reducible and_intros)<;>first|exact⟨⟩|exact t1) (ah ?_)
    have t1:=(s9 x ((uc x (x.af.getD k (aP .cz))).getD k1 (aP .int)) (iQ (x.af.getD k (aP .cz)).live.key ((uc x (x.af.getD k (aP .cz))).getD k1 (aP .int)) (1-eP (x.af.getD k (aP .cz)).live) x.rows) ((x.af.getD k (aP .cz)).live.seed) hk0)
    refine bH X [] [(65,⟨true,dH t1⟩)] [1,2,3,4,5,7,10,12,21,22,23,33,34,35] [] rfl (by(with_reducible and_intros)<;>first|exact⟨⟩|exact t1) ?_
    have t1:=(Af ((vB x k k1).getD k (aP .cz)) ((uc x (x.af.getD k (aP .cz))).getD k1 (aP .int)) (Mt x ((uc x (x.af.getD k (aP .cz))).getD k1 (aP .int)) (iQ (x.af.getD k (aP .cz)).live.key ((uc x (x.af.getD k (aP .cz))).getD k1 (aP .int)) (eP (x.af.getD k (aP .cz)).live) x.rows) (x.af.getD k (aP .cz)).live.seed) (Mt x ((uc x (x.af.getD k (aP .cz))).getD k1 (aP .int)) (iQ (x.af.getD k (aP .cz)).live.key ((uc x (x.af.getD k (aP .cz))).getD k1 (aP .int)) (1-eP (x.af.getD k (aP .cz)).live) x.rows) (x.af.getD k (aP .cz)).live.seed) hsz)
    refine aX X [] [(80,⟨true,dH t1⟩)] [1,2,3,4,5,21,22,23,33,34,35] [] 65535 1 MO (by kernel_rfl) rfl (by kernel_rfl) (by(with_reducible and_intros)<;>first|exact⟨⟩|exact t1| (intros;omega)) (cW X [1,2,3,4,5,21,22,23,33,34,35] rfl ?_)
    refine⟨k1+1,by omega,by omega,?_⟩
    rw[dh _ k1 rfl (by omega), ←hs]
    try rfl
   ·try simp only[bO]at dY
    rw[Tr x k k1 cx dY]
    refine bp (cW X [1,2,3,21,22,23] rfl ?_)
    refine⟨k+1,by omega,by omega,?_⟩
    rw[dh _ k rfl (by omega)]
    try rfl
  ·try simp only[bO]at cx
   exact bp (aT X [2] rfl (by trivial) (az (aj rfl (by and_intros<;>first|exact⟨⟩| (rw[hw];done)| (rw[hw,Tv x k (by omega) (by omega)];done)))))
theorem vp(c:gQ)(h0:fU aQ c.bu≤1048576∧fU aQ c.inbox≤1048576):So 27 [.agg (dw c)] [.agg (ew (⟨c,c⟩:cz))]:=by
 refine aC X call27 func27 ntmps27 rfl rfl ?_
 intro zb
 exact aF X [1,2] rfl (ah (aX X [(6,40)] [(4,⟨true,[.agg (dw c)]⟩),(6,⟨true,[.agg (dw c)]⟩)] [2] [] 31 0 MO (by kernel_rfl) rfl (by kernel_rfl) (by(with_reducible and_intros);(iterate 2 all_goals try first|exact⟨⟩|exact(jm c h0))) (az (aj rfl ⟨rfl,rfl,rfl,rfl,rfl,rfl,rfl,rfl,rfl,rfl,rfl,rfl,rfl,rfl,rfl,rfl,⟨⟩⟩))))
theorem CW(d:cz)(h0:cX d≤1048576):So 202 [.agg (ew d)] [.agg (ew (Qg d))]:=by
 refine aC X call202 func202 ntmps202 rfl rfl ?_
 intro zb
 have AQ:eO d.live≤1048576∧eO d.saved≤1048576:=by unfold cX at h0;omega
 unfold eO at AQ
 refine aF X [1,2] rfl (ah (aS X [] [(4,⟨false,[bl (fX d)]⟩)] [1,2,5] [] rfl (by(with_reducible and_intros)<;>first|exact⟨⟩|exact(ig d)) ?_))
 refine aA rfl ?_ ?_<;>intro hb0
 ·have hk:fX d=false:=by simpa using hb0
  have hd:Qg d=d:=by rw[Qg,hk];rfl
  exact aS X [] [(7,⟨true,[.agg (ew d)]⟩)] [2] [] rfl (by(with_reducible and_intros)<;>first|exact⟨⟩|exact(oF d h0)) (az (aj rfl (by and_intros<;>first|exact⟨⟩| (rw[hd];done))))
 ·have hk:fX d=true:=by simpa using hb0
  have hd:Qg d=⟨d.live,d.live⟩:=by rw[Qg,if_pos hk]
  exact aE (aS X [] [(10,⟨true,[.agg (ew (⟨d.live,d.live⟩:cz))]⟩)] [2] [] rfl (by(with_reducible and_intros)<;>first|exact⟨⟩|exact(vp d.live ⟨by omega,by omega⟩)) (az (aj rfl (by and_intros<;>first|exact⟨⟩| (rw[hd];done)))))
theorem EK(d:cz):So 201 [.agg (ew d)] [bl (AB d)]:=by
 refine aC X call201 func201 ntmps201 rfl rfl ?_
 intro zb
 exact aF X [1] rfl (aS X [] [(4,⟨false,[bl (fX d)]⟩)] [2] [] rfl (by(with_reducible and_intros)<;>first|exact⟨⟩|exact(ig d)) (az (aj rfl ⟨(congrArg dS (by simp only[AB,bG]<;>first|rfl|ac_rfl)),⟨⟩⟩)))
theorem CX(c:gQ)(r n:Int):So 135 [.agg (dw c),aM r,aM n] [aM (iQ c.key r (eP c) n),aM (iQ c.key r (1-eP c) n)]:=by
 refine aC X call135 func135 ntmps135 rfl rfl ?_
 intro zb
 have hdw:=ZO c
 exact aF X [1,2,3] rfl (aS X [] [(10,⟨false,[aM (eP c)]⟩)] [1,2,3,8] [] rfl (by(with_reducible and_intros)<;>first|exact⟨⟩|exact(iK c)) (ah (aX X [] [(16,⟨false,[aM (iQ c.key r (eP c) n)]⟩),(23,⟨false,[aM (iQ c.key r (aq.wrap (1-eP c)) n)]⟩)] [6,7] [] 32767 0 MO (by kernel_rfl) rfl (by kernel_rfl) (by(with_reducible and_intros);(iterate 2 all_goals try first|exact⟨⟩|exact(nZ c.key r (eP c) n)|exact(nZ c.key r (aq.wrap (1-eP c)) n))) (az (aj rfl ⟨rfl,by rw[hdw],⟨⟩⟩)))))
theorem CY(c:gQ)(r:Int)(own other:List UInt8)(h0:fU aQ c.bu≤1048576∧fU aQ c.inbox≤1048576):So 200 [.agg (dw c),aM r, .a (.sl .u8 own), .a (.sl .u8 other)] [.agg (dw (gR c r own other)),bl (pT c r)]:=by
 refine aC X call200 func200 ntmps200 rfl rfl ?_
 intro zb
 refine aF X [1,2,3,4,8] rfl (aS X [] [(14,⟨true,[.agg (dw c)]⟩)] [1,2,3,4,8,10] [] rfl (by(with_reducible and_intros)<;>first|exact⟨⟩|exact(jm c h0)) (ah (aS X [] [(16,⟨false,[bl (fP c)]⟩),(22,⟨false,[bl (inr r c.next 99999)]⟩)] [1,2,3,4,8,10,24] [] rfl (by(with_reducible and_intros);(iterate 2 all_goals try first|exact⟨⟩|exact(gq c)|exact fun _=>(bY r c.next 99999))) ?_)))
 refine aA rfl ?_ ?_<;>intro hb0
 ·have hk:pT c r=false:=dG hb0 (by simp only[pT,bG]<;>first|rfl|ac_rfl)
  have hc:=Pn (own:=own) (other:=other) hk
  exact aT X [8,9] rfl (by trivial) (az (aj rfl (by and_intros<;>first|exact⟨⟩| (rw[hc];done)| (rw[hk];done))))
 ·have hk:pT c r=true:=dF hb0 (by simp only[pT,bG]<;>first|rfl|ac_rfl)
  obtain⟨hok,hn1,hn2,hn3⟩:=ZJ hk
  obtain⟨hu1,Wr,_,_,hs0,hs9,_,_⟩:=vg hok
  have hc:gR c r own other=⟨c.id,c.gE,c.key,c.seed,c.bu,if lu c own then c.sent+1 else c.sent,if jP c other then c.inbox++ [(O5 (wU c) (c.inbox.length:Int) other).body]else c.inbox,r+1⟩:=by rw[gR,if_pos hk]
  refine aE (ah (aS X [] [(35,⟨false,[.a (.sl .u8 (sP c c.sent))]⟩),(36,⟨false,[bl (own==(sP c c.sent))]⟩)] [1,3,4,8,10,37] [] rfl ⟨fun _=>n8 own (sP c c.sent),fun h=>yu c hs0 (of_decide_eq_true h),⟨⟩⟩ ?_))
  refine aA rfl ?_ ?_<;>intro cx
  ·have hh:lu c own=true:=l8 cx (by simp only[lu,bG]<;>first|rfl|ac_rfl)
   refine cW X [1,3,4,8,10] rfl ?_
   rw[cV (a:=c.sent+1) (by omega)]
   refine ah ?_
   have t1:=(wX (mK c.key (aq.wrap (1-eP c))) (c.inbox.length:Int) other)
   refine aX X [] [(46,⟨false,[aM (eP c)]⟩),(48,⟨false,[aM (mK c.key (aq.wrap (1-eP c)))]⟩),(53,⟨true,dH t1⟩)] [1,4,8,10,11,12] [] 98303 1 MO (by kernel_rfl) rfl (by kernel_rfl) (by(with_reducible and_intros);(iterate 3 all_goals try first|exact⟨⟩|exact(iK c)|exact(mz c.key (aq.wrap (1-eP c)))|exact t1)) ?_
   rw[CS]
   refine ah (aF X [1,8,10,11,67] rfl ?_)
   refine aA rfl ?_ ?_<;>intro dY
   ·have hg:jP c other=true:=l8 dY (by simp only[jP,bG]<;>first|rfl|ac_rfl)
    refine ny X [1,8,10] rfl (by and_intros<;>first|exact⟨⟩|exact rfl| (simp only[gb,maxLen,lens];omega)) (aF X [8,10] rfl ?_)
    rw[cV (a:=r+1) (by omega)]
    exact aT X [8,9] rfl (by trivial) (az (aj rfl (by and_intros<;>first|exact⟨⟩| (rw[hc];done)| (rw[hc];simp only[hh,if_true];done)| (rw[hc];simp only[hg,if_true];done)| (rw[hk];done))))
   ·have hg:jP c other=false:=pQ dY (by simp only[jP,bG]<;>first|rfl|ac_rfl)
    refine aE (aF X [8,10] rfl ?_)
    rw[cV (a:=r+1) (by omega)]
    exact aT X [8,9] rfl (by trivial) (az (aj rfl (by and_intros<;>first|exact⟨⟩| (rw[hc];done)| (rw[hc];simp only[hh,if_true];done)| (rw[hc];simp[hg];done)| (rw[hk];done))))
  ·have hh:lu c own=false:=pQ cx (by simp only[lu,bG]<;>first|rfl|ac_rfl)
   refine aE (ah ?_)
   have t1:=(wX (mK c.key (aq.wrap (1-eP c))) (c.inbox.length:Int) other)
   refine aX X [] [(46,⟨false,[aM (eP c)]⟩),(48,⟨false,[aM (mK c.key (aq.wrap (1-eP c)))]⟩),(53,⟨true,dH t1⟩)] [1,4,8,10,11,12] [] 98303 1 MO (by kernel_rfl) rfl (by kernel_rfl) (by(with_reducible and_intros);(iterate 3 all_goals try first|exact⟨⟩|exact(iK c)|exact(mz c.key (aq.wrap (1-eP c)))|exact t1)) ?_
   rw[CS]
   refine ah (aF X [1,8,10,11,67] rfl ?_)
   refine aA rfl ?_ ?_<;>intro dY
   ·have hg:jP c other=true:=l8 dY (by simp only[jP,bG]<;>first|rfl|ac_rfl)
    refine ny X [1,8,10] rfl (by and_intros<;>first|exact⟨⟩|exact rfl| (simp only[gb,maxLen,lens];omega)) (aF X [8,10] rfl ?_)
    rw[cV (a:=r+1) (by omega)]
    exact aT X [8,9] rfl (by trivial) (az (aj rfl (by and_intros<;>first|exact⟨⟩| (rw[hc];done)| (rw[hc];simp[hh];done)| (rw[hc];simp only[hg,if_true];done)| (rw[hk];done))))
   ·have hg:jP c other=false:=pQ dY (by simp only[jP,bG]<;>first|rfl|ac_rfl)
    refine aE (aF X [8,10] rfl ?_)
    rw[cV (a:=r+1) (by omega)]
    exact aT X [8,9] rfl (by trivial) (az (aj rfl (by and_intros<;>first|exact⟨⟩| (rw[hc];done)| (rw[hc];simp[hh];done)| (rw[hc];simp[hg];done)| (rw[hk];done))))
theorem Ag(d:cz)(r:Int)(own other:List UInt8)(h0:cX d≤1048576):So 137 [.agg (ew d),aM r, .a (.sl .u8 own), .a (.sl .u8 other)] [.agg (ew (rdev d r own other)),bl (wm d r)]:=by
 refine aC X call137 func137 ntmps137 rfl rfl ?_
 intro zb
 have AQ:eO d.live≤1048576∧eO d.saved≤1048576:=by unfold cX at h0;omega
 unfold eO at AQ
 refine aF X [1,2,3,4,8] rfl (ah ?_)
 have t1:=(CY d.live r own other ⟨by omega,by omega⟩)
 refine bH X [] [(19,⟨true,dH t1⟩)] [4,8,10,11] [] rfl (by(with_reducible and_intros)<;>first|exact⟨⟩|exact t1) (ah (aS X [] [(23,⟨false,[bl (fX d)]⟩)] [4,8,10,28] [] rfl (by(with_reducible and_intros)<;>first|exact⟨⟩|exact(ig d)) ?_))
 refine aA rfl ?_ ?_<;>intro hb0
 ·have hk:wm d r=false:=dG hb0 (by simp only[wm,bG]<;>first|rfl|ac_rfl)
  have hd:=TO (own:=own) (other:=other) hk
  exact aS X [] [(30,⟨true,[.agg (ew d)]⟩)] [8,9] [] rfl (by(with_reducible and_intros)<;>first|exact⟨⟩|exact(oF d h0)) (az (aj rfl (by and_intros<;>first|exact⟨⟩| (rw[hd];done)| (rw[hk];done))))
 ·have hk:wm d r=true:=dF hb0 (by simp only[wm,bG]<;>first|rfl|ac_rfl)
  have hz:=Po (own:=own) (other:=other) hk
  refine aE (ah (aX X [] [(34,⟨true,[.agg (dw d.saved)]⟩)] [8,12] [] 63 0 MO (by kernel_rfl) rfl (by kernel_rfl) (by(with_reducible and_intros)<;>first|exact⟨⟩|exact(jm d.saved ⟨by omega,by omega⟩)) (ah (aS X [] [(37,⟨false,[bl (AB (qD d r own other))]⟩)] [8,12,37] [] rfl (by(with_reducible and_intros)<;>first|exact⟨⟩|exact(EK (qD d r own other))) ?_))))
  refine aA rfl ?_ ?_<;>intro cx
  ·have hd:=TP hk cx
   exact aS X [] [(39,⟨true,[.agg (ew (Qg (qD d r own other)))]⟩)] [8,9] [] rfl (by(with_reducible and_intros)<;>first|exact⟨⟩|exact(CW (qD d r own other) hz)) (az (aj rfl (by and_intros<;>first|exact⟨⟩| (rw[hd];done)| (rw[hk];done))))
  ·have hd:=TQ hk cx
   exact aE (aT X [8,9] rfl (by trivial) (az (aj rfl (by and_intros<;>first|exact⟨⟩| (rw[hd];rfl;done)| (rw[hk];done)))))
theorem EL(x:ck)(h0:wB x):So 81 [.agg (b7 x)] [.agg (b7 (Dt x))]:=by
 refine aC X call81 func81 ntmps81 rfl rfl ?_
 intro zb
 have hls:fU gy x.av≤1048576∧fU cX x.af≤1048576∧iL x.aJ≤1048576∧x.replaced.length≤4194304:=h0
 have ru:=gr hls.2.1
 refine aF X [1,2] rfl (aS X [] [(17,⟨true,[.agg (b7 x)]⟩)] [1,2,3] [] rfl (by(with_reducible and_intros)<;>first|exact⟨⟩|exact(kg x h0)) (ah (aS X [] [(19,⟨false,[bl (okW x)]⟩)] [1,2,3,20] [] rfl (by(with_reducible and_intros)<;>first|exact⟨⟩|exact(gC x)) ?_)))
 refine aA rfl ?_ ?_<;>intro hb0
 ·have hk0:okW x=false:=by simpa using hb0
  have hw:=ZN hk0
  exact aT X [2] rfl (by trivial) (az (aj rfl (by and_intros<;>first|exact⟨⟩| (rw[hw];done))))
 ·have hk0:okW x=true:=by simpa using hb0
  have hw:=zP hk0
  have har:=MA hk0
  have hd8:=(v8 (pM hk0)).2.1
  refine aE (ah (aF X [1,2,3,4] rfl ?_))
  refine aG (aW (fun k=>k≤x.af.length) (fun k:Nat=> [(4, .one ((aM k)))]) (fun k=> [(19, .arr .cz (WG x k))]) (fun k=>x.af.length-k) 0 (fun k=>rfl) (aD _) rfl ?_)
  intro k hk
  have JU:=Tu x k hk
  refine ah (aF X [1,2,3,4,26] rfl ?_)
  refine aA rfl ?_ ?_<;>intro cx
  ·try simp only[bO]at cx
   rw[JU]at cx
   have hrg:=Tt x k cx
   have h00:=Zi x k cx
   have E9:=Bh x.aJ.rounds (x.af.getD k (aP .cz)).live.next
   have amC:(uc x (x.af.getD k (aP .cz))).length≤x.aJ.rounds.length:=E9
   have hrq:(jB x.aJ.rounds (x.af.getD k (aP .cz)).live.next).length=(uc x (x.af.getD k (aP .cz))).length:=rfl
   refine aE (ah (aG (ah ?_)))
   have t1:=(Bj x.aJ (((WG x k).getD k (aP .cz)).live.next) (by omega))
   refine aX X [] [(38,⟨true,dH t1⟩)] [1,2,3,4,5] [] 2047 0 MO (by kernel_rfl) rfl (by kernel_rfl) (by(with_reducible and_intros)<;>first|exact⟨⟩|exact t1| (intros;omega)) ?_
   rw[hrg]
   refine aF X [1,2,3,4,5,6] rfl ?_
   refine aG (aW (fun k1=>k1≤(uc x (x.af.getD k (aP .cz))).length) (fun k1:Nat=> [(6, .one ((aM k1)))]) (fun k1=> [(19, .arr .cz (vB x k k1))]) (fun k1=>(uc x (x.af.getD k (aP .cz))).length-k1) 0 (fun k1=>rfl) (aD _) (by rw[h00];rfl) ?_)
   intro k1 hk1
   have sr:=Tq x k k1 cx
   refine ah (aF X [1,2,3,4,5,6,42] rfl ?_)
   refine aA rfl ?_ ?_<;>intro dY
   ·try simp only[bO]at dY
    have hs:=ZM x k k1 cx dY
    have hsz:=ZK hk0 cx k1
    refine aE (ah (aG (aT X [1,2,3,4,5,6,7] rfl (by and_intros<;>first|exact⟨⟩| (intros;omega)) (ah ?_))))
    have t1:=(CX (((vB x k k1).getD k (aP .cz)).live) ((uc x (x.af.getD k (aP .cz))).getD k1 (aP .int)) x.rows)
    refine aX X [] [(59,⟨false,dH t1⟩)] [1,2,3,4,5,6,7,8,9] [] 8191 0 MO (by kernel_rfl) rfl (by kernel_rfl) (by(with_reducible and_intros)<;>first|exact⟨⟩|exact t1| (intros;omega)) (ah ?_)
    have t1:=(yP x ((uc x (x.af.getD k (aP .cz))).getD k1 (aP .int)) (iQ ((vB x k k1).getD k (aP .cz)).live.key ((uc x (x.af.getD k (aP .cz))).getD k1 (aP .int)) (eP ((vB x k k1).getD k (aP .cz)).live) x.rows) (((vB x k k1).getD k (aP .cz)).live.seed) hk0)
    refine aX X [] [(71,⟨true,dH t1⟩)] [1,2,3,4,5,6,7,9,10] [] 16383 0 MO (by kernel_rfl) rfl (by kernel_rfl) (by(with_reducible and_intros)<;>first|exact⟨⟩|exact t1| (intros;omega)) (ah ?_)
    have t1:=(yP x ((uc x (x.af.getD k (aP .cz))).getD k1 (aP .int)) (iQ ((vB x k k1).getD k (aP .cz)).live.key ((uc x (x.af.getD k (aP .cz))).getD k1 (aP .int)) (1-eP ((vB x k k1).getD k (aP .cz)).live) x.rows) (((vB x k k1).getD k (aP .cz)).live.seed) hk0)
    refine aX X [] [(83,⟨true,dH t1⟩)] [1,2,3,4,5,6,10,12] [] 16383 0 MO (by kernel_rfl) rfl (by kernel_rfl) (by(with_reducible and_intros)<;>first|exact⟨⟩|exact t1| (intros;omega)) (ah ?_)
    have t1:=(Ag ((vB x k k1).getD k (aP .cz)) ((uc x (x.af.getD k (aP .cz))).getD k1 (aP .int)) (Mt x ((uc x (x.af.getD k (aP .cz))).getD k1 (aP .int)) (iQ ((vB x k k1).getD k (aP .cz)).live.key ((uc x (x.af.getD k (aP .cz))).getD k1 (aP .int)) (eP ((vB x k k1).getD k (aP .cz)).live) x.rows) ((vB x k k1).getD k (aP .cz)).live.seed) (Mt x ((uc x (x.af.getD k (aP .cz))).getD k1 (aP .int)) (iQ ((vB x k k1).getD k (aP .cz)).live.key ((uc x (x.af.getD k (aP .cz))).getD k1 (aP .int)) (1-eP ((vB x k k1).getD k (aP .cz)).live) x.rows) ((vB x k k1).getD k (aP .cz)).live.seed) hsz)
    refine aX X [] [(98,⟨true,dH t1⟩)] [1,2,3,4,5,6,14] [] 196607 1 MO (by kernel_rfl) rfl (by kernel_rfl) (by(with_reducible and_intros)<;>first|exact⟨⟩|exact t1| (intros;omega)) (ny X [1,2,3,4,5,6] rfl (by and_intros<;>first|exact⟨⟩| (intros;omega)) (cW X [1,2,3,4,5,6] rfl ?_))
    refine⟨k1+1,by omega,by omega,?_⟩
    rw[dh _ k1 rfl (by omega), ←hs]
    try rfl
   ·try simp only[bO]at dY
    rw[Tr x k k1 cx dY]
    refine bp (cW X [1,2,3,4] rfl ?_)
    refine⟨k+1,by omega,by omega,?_⟩
    rw[dh _ k rfl (by omega)]
    try rfl
  ·try simp only[bO]at cx
   rw[JU]at cx
   exact bp (aT X [2] rfl (by trivial) (az (aj rfl (by and_intros<;>first|exact⟨⟩| (rw[hw];done)| (rw[hw,Tv x k (by omega) (by omega)];done)))))
end
section
set_option maxRecDepth 100000
theorem yS(s:bZ)(c:Int)(hz:s.received.length≤1048576∧ ∀r,r∈s.received→fU aQ r.share.rows≤1048576):So 155 [.agg (dB s),aM c] [.agg (bL (Bd s.received c)),bl (oV s.received c)]:=by
 refine aC X call155 func155 ntmps155 rfl rfl ?_
 intro zb
 refine dn 0 3 rfl rfl (fun XO=>(aF X [1,2,4] rfl (ah (aF X [1,4,9,10,11] rfl ?_))))
 refine aG (aW (fun k=>k≤s.received.length∧(s.received.take k).any (WE c)=false) (fun k:Nat=> [(11, .one ((aM k)))]) (fun k=> []) (fun k=>s.received.length-k) 0 (fun k=>rfl) ⟨aD _,rfl⟩ rfl ?_)
 rintro k ⟨hk,hall⟩
 refine aF X [1,4,9,10,11,12] rfl ?_
 refine ah (aA rfl ?_ ?_)<;>intro hb0
 ·try simp only[bO]at hb0
  refine aE (ah (aG (aT X [1,4,7,9,10,11] rfl (by and_intros<;>first|exact⟨⟩| (intros;omega)) (aF X [1,4,7,9,10,11,18] rfl ?_))))
  refine aA rfl ?_ ?_<;>intro cx
  ·have hh:=Rp hb0 hall cx
   exact aS X [] [(21,⟨true,[.agg (bL ((s.received.getD k (aP .bE)).share))]⟩)] [4,5] [] rfl (by(with_reducible and_intros)<;>first|exact⟨⟩|exact(eL ((s.received.getD k (aP .bE)).share) (hz.2 _ (getD_in _ hb0)))) (az (aj rfl ⟨by rw[hh.2],by rw[hh.1],⟨⟩⟩))
  ·refine aE (cW X [1,4,9,10,11] rfl ?_)
   refine⟨k+1,⟨by omega,A4 (aP .bE) hb0 hall cx⟩,by omega,?_⟩
   rw[dh _ k rfl (by omega)]
   try rfl
 ·try simp only[bO]at hb0
  exact bp (aT X [4,5] rfl (by trivial) (az (aj rfl ⟨by rw[(Gx (by rw[←hall,aB hb0])).2],by rw[(Gx (by rw[←hall,aB hb0])).1],⟨⟩⟩)))
theorem I8(s:bZ)(c:Int)(hz:s.received.length≤1048576∧ ∀r,r∈s.received→fU aQ r.share.rows≤1048576):So 208 [.agg (dB s),aM c] [.agg (bL (Bd s.received c)),bl (oV s.received c)]:=by
 refine aC X call208 func208 ntmps208 rfl rfl ?_
 intro zb
 refine dn 0 3 rfl rfl (fun XO=>(aF X [1,2,4] rfl (ah (aF X [1,2,4,6] rfl ?_))))
 refine aG (aW (fun k=>k≤s.received.length∧(s.received.take k).any (WE c)=false) (fun k:Nat=> [(6, .one ((aM k)))]) (fun k=> []) (fun k=>s.received.length-k) 0 (fun k=>rfl) ⟨aD _,rfl⟩ rfl ?_)
 rintro k ⟨hk,hall⟩
 refine ah (aF X [1,2,4,6,11] rfl ?_)
 refine aA rfl ?_ ?_<;>intro hb0
 ·try simp only[bO]at hb0
  refine aE (ah (aG (aT X [1,2,4,6,21] rfl (by and_intros<;>first|exact⟨⟩| (intros;omega)) ?_)))
  refine aA rfl ?_ ?_<;>intro cx
  ·have hh:=Rp hb0 hall cx
   exact aS X [] [(28,⟨true,[.agg (bL ((s.received.getD k (aP .bE)).share))]⟩)] [4,5] [] rfl (by(with_reducible and_intros)<;>first|exact⟨⟩|exact(gW ((s.received.getD k (aP .bE)).share) (hz.2 _ (getD_in _ hb0)))| (intros;omega)) (az (aj rfl ⟨by rw[hh.2],by rw[hh.1],⟨⟩⟩))
  ·refine aE (cW X [1,2,4,6] rfl ?_)
   refine⟨k+1,⟨by omega,A4 (aP .bE) hb0 hall cx⟩,by omega,?_⟩
   rw[dh _ k rfl (by omega)]
   try rfl
 ·try simp only[bO]at hb0
  exact bp (aT X [4,5] rfl (by trivial) (az (aj rfl ⟨by rw[(Gx (by rw[←hall,aB hb0])).2],by rw[(Gx (by rw[←hall,aB hb0])).1],⟨⟩⟩)))
theorem xm(r:bE)(c:Int):sE ty bC 157 [(1000, .box [gT c])] [.agg (vF r), .a (.ptr 1000 0)] [(1000, .box [gT c])] [bl (decide (r.client>c))]:=by
 refine pR X call157 func157 rfl rfl (by decide) ntmps157 (by simp) rfl ?_
 intro zb
 exact aF X [1,2] rfl (aT X [3] rfl (by trivial) (az (vh rfl ⟨rfl,rfl,⟨⟩⟩)))
theorem iw(l:List bE)(c:Int)(hl: ∀r,r∈l→r.client<c):sE ty bC 156 [(1000, .box [gT c])] [.a (.sl .bE l), .a (.Gi 157 1000)] [(1000, .box [gT c])] [aM (-1)]:=by
 refine pR X call156 func156 rfl rfl (by decide) ntmps156 (by simp) rfl ?_
 intro zb
 refine eV 0 rfl (fun oO=>(aF X [0,1] rfl (ah (aF X [0,1,7,8] rfl ?_))))
 refine aG (aW (fun k=>k≤l.length) (fun k:Nat=> [(8, .one ((aM k)))]) (fun k=> []) (fun k=>l.length-k) 0 (fun k=>rfl) (aD _) rfl ?_)
 intro k hk
 refine aF X [0,1,7,8,9] rfl ?_
 refine ah (aA rfl ?_ ?_)<;>intro hb0
 ·try simp only[bO]at hb0
  have hlt:=hl _ (getD_in (aP .bE) hb0)
  refine aE (ah (aG (aF X [0,1,5,7,8] rfl (ah ?_))))
  have t1:=(xm (l.getD k (aP .bE)) c)
  refine bH X [] [(800016,⟨true,LU t1⟩),(700016,⟨true, .agg [.ptr 1000 1000]:: .agg []::LV t1⟩)] [0,1,5,7,8,16] [] rfl (by(with_reducible and_intros)<;>first|exact⟨⟩|exact t1| (intros;omega)) ?_
  refine aA rfl ?_ ?_<;>intro cx
  ·try simp only[bO]at cx
   omega
  ·try simp only[bO]at cx
   refine aE (cW X [0,1,7,8] rfl ?_)
   refine⟨k+1,by omega,by omega,?_⟩
   rw[dh _ k rfl (by omega)]
   try rfl
 ·try simp only[bO]at hb0
  exact bp (aF X [4] rfl (az (vh rfl ⟨rfl,rfl,⟨⟩⟩)))
theorem iN(l:List bE)(y:bE)(hl:l.length≤1048576):sE ty bC 158 [(5, .arr .bE l),(6, .arr .bE [y])] [.a (.own 5),aM (l.length:Int), .a (.own 6)] [(5, .arr .bE (l++ [y]))] [.a (.own 5)]:=by
 refine pR X call158 func158 rfl rfl (by decide) ntmps158 (by simp) rfl ?_
 intro zb
 refine aF X [0,1,2] rfl (aT X [0,1,2] rfl (by and_intros<;>first|exact⟨⟩| (intros;omega)) (aF X [0,1,2,7] rfl (ah (aF X [0,1,2,7,16] rfl ?_))))
 refine aA rfl ?_ ?_<;>intro hb0
 ·try simp only[bO]at hb0
  simp at hb0
 ·try simp only[bO]at hb0
  refine aE (aF X [0,1,2,7,8] rfl (ah (aF X [0,1,2,7,8,22] rfl ?_)))
  refine aA rfl ?_ ?_<;>intro cx
  ·try simp only[bO]at cx
   exact aS X [(25,5)] [] [6] [] rfl (by and_intros<;>first|exact⟨⟩|exact rfl| (simp only[gb,maxLen,lens];omega)) (az (vh rfl ⟨rfl,⟨⟩⟩))
  ·try simp only[bO]at cx
   simp at cx
theorem Ah(s:bZ)(c:Int)(d:DB)(hz:s.received.length≤1048576∧ ∀r,r∈s.received→fU aQ r.share.rows≤1048576)(hb: ∀r,r∈s.received→r.client<c)(hd:fU aQ d.rows≤1048576):So 100 [.agg (dB s),aM c, .agg (bL d)] [.agg (dB (Ro s c d)),bl (oB s c d)]:=by
 refine aC X call100 func100 ntmps100 rfl rfl ?_
 intro zb
 have hsn:=Y6 (s:=s) hb
 have oO:=hz.1
 refine aS X [(4,904)] [] [3,4,5,6] [] rfl ⟨⟩ (aS X [] [(13,⟨true,[.agg (dB s)]⟩)] [3,4,5,6,8] [] rfl (by(with_reducible and_intros)<;>first|exact⟨⟩|exact(lq s hz)) (ah (ah ?_)))
 have t1:=(yS s c hz)
 refine bH X [] [(17,⟨true,dH t1⟩)] [3,4,5,6,8,10] [] rfl (by(with_reducible and_intros)<;>first|exact⟨⟩|exact t1) (aS X [] [(23,⟨false,[bl (dN s)]⟩)] [3,4,5,6,8,25] [] rfl (by(with_reducible and_intros)<;>first|exact⟨⟩|exact fun _=>(fH s)) ?_)
 refine aA rfl ?_ ?_<;>intro hb0
 ·have hk:dN s=false:=by rw[hsn]at hb0;simpa using hb0
  have hr:oB s c d=false:=by rw[oB,hk];rfl
  exact aT X [6,7] rfl (by trivial) (az (aj rfl (by and_intros<;>first|exact⟨⟩| (rw[Rq hr];done)| (rw[hr];done))))
 ·have hk:dN s=true:=by rw[hsn]at hb0;simpa using hb0
  refine aE (ah ?_)
  have t1:=(iw s.received c hb)
  refine bH X [] [(800030,⟨true,LU t1⟩),(700030,⟨true, .agg [.ptr 1000 904]:: .agg []::LV t1⟩)] [3,4,5,6,8,11] [] rfl (by(with_reducible and_intros)<;>first|exact⟨⟩|exact t1) (ah (aF X [3,4,5,6,8,11,32] rfl ?_))
  refine aA rfl ?_ ?_<;>intro cx
  ·try simp only[bO]at cx
   refine cW X [3,4,5,6,8,11] rfl (ah ?_)
   have t1:=(iN s.received (⟨c,d⟩:bE) (by first|assumption|omega| (simp;done)| (simp;omega)))
   refine aX X [] [(41,⟨true,[.agg (bL d)]⟩),(800044,⟨true,LU t1⟩),(700044,⟨true, .agg [.ptr 5 16, .ptr 6 43]:: .agg []::LV t1⟩)] [3,6,8] [] 639 5 MO (by kernel_rfl) rfl (by kernel_rfl) (by(with_reducible and_intros);(iterate 2 all_goals try first|exact⟨⟩|exact(eL d hd)|exact t1);all_goals first|exact rfl) (ah (aS X [] [(47,⟨false,[bl (dN (oA s c d))]⟩)] [3,6,8,48] [] rfl (by(with_reducible and_intros)<;>first|exact⟨⟩|exact(fH (oA s c d))) ?_))
   refine aA rfl ?_ ?_<;>intro dY
   ·have hr:oB s c d=false:=by rw[oB,hk];simpa using dY
    exact aS X [] [(50,⟨true,[.agg (dB s)]⟩)] [6,7] [] rfl (by(with_reducible and_intros)<;>first|exact⟨⟩|exact(lq s hz)) (az (aj rfl (by and_intros<;>first|exact⟨⟩| (rw[Rq hr];done)| (rw[hr];done))))
   ·have hr:oB s c d=true:=by rw[oB,hk];simpa using dY
    exact aE (aT X [6,7] rfl (by trivial) (az (aj rfl (by and_intros<;>first|exact⟨⟩| (rw[Mn hr];rfl;done)| (rw[hr];done)))))
  ·try simp only[bO]at cx
   omega
theorem Ai(s:bZ)(c:Int)(d:DB)(hz:s.received.length≤1048576∧ ∀r,r∈s.received→fU aQ r.share.rows≤1048576)(hb: ∀r,r∈s.received→r.client<c)(hd:fU aQ d.rows≤1048576):So 129 [.agg (dB s),aM c, .agg (bL d)] [.agg (dB (Ro s c d)),bl (oB s c d)]:=by
 refine aC X call129 func129 ntmps129 rfl rfl ?_
 intro zb
 have oO:=hz.1
 refine aF X [1,3,5,6] rfl (aS X [] [(11,⟨true,[.agg (dB s)]⟩)] [1,3,5,6,8] [] rfl (by(with_reducible and_intros)<;>first|exact⟨⟩|exact(oD s hz)) (aF X [1,3,5,6,8,9] rfl ?_))
 refine ah (aG (aW (fun k=>k≤s.received.length) (fun k:Nat=> [(9, .one ((aM k)))]) (fun k=> []) (fun k=>s.received.length-k) 0 (fun k=>rfl) (aD _) rfl ?_))
 intro k hk
 refine ah (aT X [1,3,5,6,8,9,26] rfl (by refine⟨fun hzz=> ?_,fun hzz=> ?_,⟨⟩⟩<;>(have hz2:decide ((k:Int)<(s.received.length:Int))=true:=hzz;rw[decide_eq_true_eq]at hz2;dsimp only[hyps,iH];omega)) ?_)
 refine aA rfl ?_ ?_<;>intro hb0
 ·have JU:k<s.received.length:=by simp only[nb]at hb0;omega
  have hlt:=hb _ (getD_in (aP .bE) JU)
  refine aE (aG (cW X [1,3,5,6,8,9] rfl ?_))
  refine⟨k+1,by omega,by omega,?_⟩
  rw[dh _ k rfl (by omega)]
  try rfl
 ·have JU:k=s.received.length:=ac9 hb hk hb0
  subst JU
  refine Zc 8 3 rfl (bp (ah (aX X [(34,29),(40,29),(45,29)] [(37,⟨true,[.agg (bL d)]⟩),(600044,⟨true,[]⟩)] [3,6,8] [] 193503 259 MO (by kernel_rfl) rfl (by kernel_rfl) (by(repeat' with_reducible first|exact bF|refine bJ ?_ ?_|apply aO)<;>first|exact(gW d hd)| (intros;omega)|exact rfl|exact⟨rfl,bM _ (by decide)⟩| (simp only[gb,maxLen,lens];omega)) ?_)))
  rw[ins_eq]
  refine ah (aS X [] [(48,⟨false,[bl (dN s)]⟩),(52,⟨false,[bl (dN (oA s c d))]⟩)] [3,6,8,54] [] rfl (by(with_reducible and_intros);(iterate 2 all_goals try first|exact⟨⟩|exact(fI s)|exact fun _=>(fI (oA s c d)))) ?_)
  refine aA rfl ?_ ?_<;>intro cx
  ·have hr:oB s c d=false:=ajV cx
   exact aS X [] [(56,⟨true,[.agg (dB s)]⟩)] [6,7] [] rfl (by(with_reducible and_intros)<;>first|exact⟨⟩|exact(oD s hz)) (az (aj rfl (by and_intros<;>first|exact⟨⟩| (rw[Rq hr];done)| (rw[hr];done))))
  ·have hr:oB s c d=true:=ajW cx
   exact aE (aT X [6,7] rfl (by trivial) (az (aj rfl (by and_intros<;>first|exact⟨⟩| (rw[Mn hr];rfl;done)| (rw[hr];done)))))
end
section
set_option maxRecDepth 100000
theorem yT(x:ck)(h0:wB x):So 57 [.agg (b7 x)] [.a (.sl .bZ (cg x)), .a (.sl .gK (jA x))]:=by
 refine aC X call57 func57 ntmps57 rfl rfl ?_
 intro zb
 refine dn 0 1 rfl rfl (fun hl1=> ?_)
 refine dn 0 2 rfl rfl (fun ru=> ?_)
 have qT:=FB h0
 refine aF X [1] rfl (ah (aS X [] [(10,⟨false,[bl (okW x)]⟩)] [1,11] [] rfl (by(with_reducible and_intros)<;>first|exact⟨⟩|exact(fj x)) ?_))
 refine aA rfl ?_ ?_<;>intro hb0
 ·have hk0:okW x=false:=by simpa using hb0
  exact aF X [2,3] rfl (az (aj rfl ⟨by rw[cg,if_neg (by rw[hk0];decide)],by rw[jA,if_neg (by rw[hk0];decide)],⟨⟩⟩))
 ·have hk0:okW x=true:=by simpa using hb0
  have amD:=gw hk0
  have VT:=(v8 (pM hk0)).2.1
  have hc0:=(col hk0 0 (aD _)).sml
  refine aE (aS X [] [(14,⟨true,[.a (.sl .bZ x.av)]⟩)] [1,4] [] rfl (by(with_reducible and_intros)<;>first|exact⟨⟩|exact(sZ x.av (by omega) hc0)) (aT X [1,4,5] rfl (by and_intros<;>first|exact⟨⟩|exact rfl) (ah (aF X [1,4,5,18,19] rfl ?_))))
  refine aG (aW (fun k=>k≤x.af.length) (fun k:Nat=> [(19, .one ((aM k)))]) (fun k=> [(14, .arr .bZ (Ab x k)),(15, .arr .gK (IK x k))]) (fun k=>x.af.length-k) 0 (fun k=>rfl) (aD _) rfl ?_)
  intro k hk
  refine aF X [1,4,5,18,19,20] rfl ?_
  refine ah (aA rfl ?_ ?_)<;>intro cx
  ·try simp only[bO]at cx
   have RD:k<x.af.length:=by omega
   have hwl:(oz x (k:Int)).length=x.av.length:=by rw[IF hk0 (by omega)];exact lR hk0 (by omega)
   have hw:oz x (k:Int)=eY x (k:Int):=IF hk0 (by omega)
   refine aE (ah (aG (aF X [1,4,5,6,18,19] rfl (aS X [] [(24,⟨true,[.a (.sl .DB (oz x (k:Int)))]⟩)] [1,4,5,6,18,19,24,25,26] [] rfl (by(with_reducible and_intros)<;>first|exact⟨⟩|exact(Bc x (k:Int) (by first|assumption|omega| (simp;done)| (simp;omega)))) ?_))))
   refine aG (aW (fun k1=>k1≤x.av.length) (fun k1:Nat=> [(26, .one ((aM k1)))]) (fun k1=> [(14, .arr .bZ (Ac x k k1)),(15, .arr .gK (IK x k++IJ x k k1))]) (fun k1=>x.av.length-k1) 0 (fun k1=>rfl) (aD _) (by simp[Ac,IJ]) ?_)
   intro k1 hk1
   have sr:=O0 hk0 RD hk1
   refine aF X [1,4,5,6,18,19,24,25,26,27] rfl ?_
   refine ah (aA rfl ?_ ?_)<;>intro dY
   ·try simp only[bO]at dY
    have J2:=O3 hk0 RD (by omega:k1<x.av.length)
    have hs1:=KP hk0 RD (by omega:k1<x.av.length)
    have xB:=Er x k k1
    have hrl:=IL x k
    have VU:=CC x k k1
    have Wp:k*x.av.length≤8*4:=Ay (by omega) (by omega)
    refine aE (ah (aG (aT X [1,4,5,6,7,8,18,19,24,25,26] rfl (by and_intros<;>first|exact⟨⟩| (intros;omega)) (ah ?_))))
    have t1:=(Ah ((Ac x k k1).getD k1 (aP .bZ)) (k:Int) ((oz x (k:Int)).getD k1 (aP .DB)) J2.2.1 J2.1 (by rw[hw];exact J2.2.2))
    refine aX X [] [(40,⟨true,dH t1⟩)] [1,4,5,6,7,8,18,19,24,25,26] [] 8191 1 MO (by kernel_rfl) rfl (by kernel_rfl) (by(with_reducible and_intros)<;>first|exact⟨⟩|exact t1| (intros;omega)) ?_
    have t1:=(Bf (kG x.bS (k1:Int)) (k1:Int) (k:Int) x.round ((oz x (k:Int)).getD k1 (aP .DB)) (by rw[hw];exact J2.2.2))
    refine aX X [(56,15)] [(48,⟨false,[aM (kG x.bS (k1:Int))]⟩),(54,⟨false,dH t1⟩)] [1,4,5,6,18,19,24,25,26] [] 4095 0 MO (by kernel_rfl) rfl (by kernel_rfl) (by(repeat' with_reducible first|exact bF|refine bJ ?_ ?_|apply aO);(iterate 2 all_goals try first|exact(l9 x.bS (k1:Int))|exact t1);all_goals first|exact rfl|exact⟨rfl,bM _ (by decide)⟩| (simp only[gb,maxLen,lens];omega)) ?_
    refine cW X [1,4,5,6,18,19,24,25,26] rfl ?_
    refine⟨k1+1,by omega,by omega,?_⟩
    rw[dh _ k1 rfl (by omega),hw, ←hs1,xB, ←ct]
    try rfl
   ·try simp only[bO]at dY
    rw[O2 hk0 RD (by omega),show k1=x.av.length by omega, ←Es]
    refine bp (cW X [1,4,5,18,19] rfl ?_)
    refine⟨k+1,by omega,by omega,?_⟩
    rw[dh _ k rfl (by omega)]
    try rfl
  ·try simp only[bO]at cx
   exact bp (aF X [2,3] rfl (az (aj rfl ⟨by rw[cg,if_pos hk0,show x.af.length=k by omega],by rw[jA,if_pos hk0,show x.af.length=k by omega],⟨⟩⟩)))
theorem yU(x:ck)(h0:wB x):So 78 [.agg (b7 x)] [.a (.sl .bZ (cg x)), .a (.sl .gK (jA x))]:=by
 refine aC X call78 func78 ntmps78 rfl rfl ?_
 intro zb
 refine dn 0 1 rfl rfl (fun hl1=> ?_)
 refine dn 0 2 rfl rfl (fun ru=> ?_)
 have qT:=FB h0
 refine aF X [1] rfl (aT X [1,4] rfl (by and_intros<;>first|exact⟨⟩|exact rfl) (ah (aS X [] [(13,⟨false,[bl (okW x)]⟩)] [1,4,14] [] rfl (by(with_reducible and_intros)<;>first|exact⟨⟩|exact(gC x)) ?_)))
 refine aA rfl ?_ ?_<;>intro hb0
 ·have hk0:okW x=false:=by simpa using hb0
  exact aT X [2,3] rfl (by and_intros<;>first|exact⟨⟩|exact rfl) (az (aj rfl ⟨by rw[cg,if_neg (by rw[hk0];decide)],by rw[jA,if_neg (by rw[hk0];decide)],⟨⟩⟩))
 ·have hk0:okW x=true:=by simpa using hb0
  have amD:=gw hk0
  have VT:=(v8 (pM hk0)).2.1
  have hc0:=(col hk0 0 (aD _)).sml
  refine aE (aS X [] [(18,⟨true,[.agg (b7 x)]⟩)] [1,4,5] [] rfl ⟨⟨_,_,_,Tryz.underlying31,rfl,rfl,Tryz.underlying24,rfl⟩,kg x h0,⟨⟩⟩ (ah (aF X [1,4,5,6] rfl ?_)))
  refine aG (aW (fun k=>k≤x.af.length) (fun k:Nat=> [(6, .one ((aM k)))]) (fun k=> [(19, .arr .bZ (Ab x k)),(11, .arr .gK (IK x k))]) (fun k=>x.af.length-k) 0 (fun k=>rfl) (aD _) rfl ?_)
  intro k hk
  refine ah (aF X [1,4,5,6,24] rfl ?_)
  refine aA rfl ?_ ?_<;>intro cx
  ·try simp only[bO]at cx
   have RD:k<x.af.length:=by omega
   have hwl:(eY x (k:Int)).length=x.av.length:=lR hk0 (by omega)
   refine aE (ah (aG (aS X [] [(29,⟨true,[.a (.sl .DB (eY x (k:Int)))]⟩)] [1,4,5,6,7] [] rfl (by(with_reducible and_intros)<;>first|exact⟨⟩|exact(Ep x (k:Int) (by first|assumption|omega| (simp;done)| (simp;omega)) (by first|assumption|omega| (simp;done)| (simp;omega)))) (aF X [1,4,5,6,7,8] rfl ?_))))
   refine aG (aW (fun k1=>k1≤x.av.length) (fun k1:Nat=> [(8, .one ((aM k1)))]) (fun k1=> [(19, .arr .bZ (Ac x k k1)),(11, .arr .gK (IK x k++IJ x k k1))]) (fun k1=>x.av.length-k1) 0 (fun k1=>rfl) (aD _) (by simp[Ac,IJ]) ?_)
   intro k1 hk1
   have sr:=O0 hk0 RD hk1
   refine ah (aF X [1,4,5,6,7,8,33] rfl ?_)
   refine aA rfl ?_ ?_<;>intro dY
   ·try simp only[bO]at dY
    rw[sr]at dY
    have J2:=O3 hk0 RD (by omega:k1<x.av.length)
    have hs1:=KP hk0 RD (by omega:k1<x.av.length)
    have xB:=Er x k k1
    have hrl:=IL x k
    have VU:=CC x k k1
    have Wp:k*x.av.length≤8*4:=Ay (by omega) (by omega)
    refine aE (ah (aG (ah ?_)))
    have t1:=(Ai ((Ac x k k1).getD k1 (aP .bZ)) (k:Int) ((eY x (k:Int)).getD k1 (aP .DB)) J2.2.1 J2.1 J2.2.2)
    refine aX X [] [(46,⟨true,dH t1⟩)] [1,4,5,6,7,8,9] [] 49151 1 MO (by kernel_rfl) rfl (by kernel_rfl) (by(with_reducible and_intros)<;>first|exact⟨⟩|exact t1| (intros;omega)) (aT X [1,4,5,6,7,8] rfl (by and_intros<;>first|exact⟨⟩| (intros;omega)) ?_)
    have t1:=(Bg (kG x.bS (k1:Int)) (k1:Int) (k:Int) x.round ((eY x (k:Int)).getD k1 (aP .DB)) J2.2.2)
    refine aX X [(68,11)] [(57,⟨false,[aM (kG x.bS (k1:Int))]⟩),(66,⟨false,dH t1⟩)] [1,4,5,6,7,8] [] 32767 0 MO (by kernel_rfl) rfl (by kernel_rfl) (by(repeat' with_reducible first|exact bF|refine bJ ?_ ?_|apply aO);(iterate 2 all_goals try first|exact(mg x.bS (k1:Int))|exact t1);all_goals first| (intros;omega)|exact rfl|exact⟨rfl,bM _ (by decide)⟩| (simp only[gb,maxLen,lens];omega)) ?_
    refine cW X [1,4,5,6,7,8] rfl ?_
    refine⟨k1+1,by omega,by omega,?_⟩
    rw[dh _ k1 rfl (by omega), ←hs1,xB, ←ct]
    try rfl
   ·try simp only[bO]at dY
    rw[sr]at dY
    rw[O2 hk0 RD (by omega),show k1=x.av.length by omega, ←Es]
    refine bp (cW X [1,4,5,6] rfl ?_)
    refine⟨k+1,by omega,by omega,?_⟩
    rw[dh _ k rfl (by omega)]
    try rfl
  ·try simp only[bO]at cx
   exact bp (aF X [2,3] rfl (az (aj rfl ⟨by rw[cg,if_pos hk0,show x.af.length=k by omega],by rw[jA,if_pos hk0,show x.af.length=k by omega],⟨⟩⟩)))
end
section
set_option maxRecDepth 100000
theorem wz(rows:Int)(l:List bE)(hz: ∀r,r∈l→fU aQ r.share.rows≤1048576):So 162 [aM rows, .a (.sl .bE l)] [.agg (bL (iq rows l))]:=by
 refine aC X call162 func162 ntmps162 rfl rfl ?_
 intro zb
 refine eV 1 rfl (fun oO=>(aF X [0,1,4] rfl (aS X [] [(9,⟨true,[.agg (bL (fk rows))]⟩)] [1,4,5] [] rfl (by(with_reducible and_intros)<;>first|exact⟨⟩|exact(sU rows)) (ah (aF X [4,5,10,11,12] rfl ?_)))))
 refine aG (aW (fun k=>k≤l.length) (fun k:Nat=> [(12, .one ((aM k)))]) (fun k=> [(9, .arr (.sl .u8) (iq rows (l.take k)).rows)]) (fun k=>l.length-k) 0 (fun k=>rfl) (aD _) rfl ?_)
 intro k hk
 refine aF X [4,5,10,11,12,13] rfl ?_
 refine ah (aA rfl ?_ ?_)<;>intro hb0
 ·try simp only[bO]at hb0
  have hs:=KW rows l k hb0
  refine aE (ah (aG (aT X [4,5,7,10,11,12] rfl (by and_intros<;>first|exact⟨⟩| (intros;omega)) (bH X [] [(20,⟨true,[.agg (bL (jl (iq rows (l.take k)) ((l.getD k (aP .bE)).share))),bl (k7 (iq rows (l.take k)) ((l.getD k (aP .bE)).share))]⟩)] [4,5,10,11,12] [] rfl (by(with_reducible and_intros)<;>first|exact⟨⟩|exact(mA (iq rows (l.take k)) ((l.getD k (aP .bE)).share) (TD _ _) (hz _ (getD_in _ hb0)))) (pP 5 0 9 rfl (cW X [4,5,10,11,12] rfl ?_))))))
  refine⟨k+1,by omega,by omega,?_⟩
  rw[dh _ k rfl (by omega),hs]
  try rfl
 ·try simp only[bO]at hb0
  exact bp (aT X [4] rfl (by trivial) (az (aj rfl ⟨by rw[aB hb0],⟨⟩⟩)))
theorem qb(s:bZ)(f:Nat)(hf:f≤8)(hz: ∀r,r∈s.received→fU aQ r.share.rows≤1048576):So 194 [.agg (dB s),aM ((f:Nat):Int)] [.agg (bL (iq s.rows (s.received.drop f)))]:=by
 refine aC X call194 func194 ntmps194 rfl rfl ?_
 intro zb
 refine dn 0 3 rfl rfl (fun oO=>(aF X [1,2,4] rfl (aS X [] [(11,⟨true,[.agg (bL (fk s.rows))]⟩)] [1,2,4,5] [] rfl (by(with_reducible and_intros)<;>first|exact⟨⟩|exact(sV s.rows)) (ah (aF X [2,4,5,6] rfl ?_)))))
 refine aG (aW (fun k=>f≤k∧(k≤s.received.length∨k=f)) (fun k:Nat=> [(6, .one ((aM k)))]) (fun k=> [(11, .arr (.sl .u8) (iq s.rows ((s.received.drop f).take (k-f))).rows)]) (fun k=>s.received.length-k) f (fun k=>rfl) ⟨aZ _,Or.inr rfl⟩ (by simp[iq]) ?_)
 rintro k ⟨hk,hk2⟩
 refine ah (aF X [2,4,5,6,17] rfl ?_)
 refine aA rfl ?_ ?_<;>intro hb0
 ·try simp only[bO]at hb0
  have hs:=VQ s.rows s.received f k hb0 hk
  refine aE (ah (aG (ah (aX X [] [(28,⟨true,[.agg (bL (jl (iq s.rows ((s.received.drop f).take (k-f))) ((s.received.getD k (aP .bE)).share))),bl (k7 (iq s.rows ((s.received.drop f).take (k-f))) ((s.received.getD k (aP .bE)).share))]⟩)] [2,4,5,6,7] [] 12287 1 MO (by kernel_rfl) rfl (by kernel_rfl) (by(with_reducible and_intros)<;>first|exact⟨⟩|exact(mC (iq s.rows ((s.received.drop f).take (k-f))) ((s.received.getD k (aP .bE)).share) (TD _ _) (hz _ (getD_in _ hb0)))| (intros;omega)) (ny X [2,4,5,6] rfl (by trivial) (pP 5 0 11 rfl (cW X [2,4,5,6] rfl ?_)))))))
  refine⟨k+1,by omega,by omega,?_⟩
  rw[dh _ k rfl (by omega),hs]
  try rfl
 ·try simp only[bO]at hb0
  exact bp (aT X [4] rfl (by trivial) (az (aj rfl ⟨by rw[Zw _ _ _ _ hb0],⟨⟩⟩)))
theorem Bn(s:bZ):So 179 [.agg (dB s)] [.agg (bL (oR s))]:=by
 refine aC X call179 func179 ntmps179 rfl rfl ?_
 intro zb
 refine aF X [1,2] rfl (ah (aS X [] [(4,⟨false,[bl (dN s)]⟩)] [1,2,5] [] rfl (by(with_reducible and_intros)<;>first|exact⟨⟩|exact(fH s)) ?_))
 refine aA rfl ?_ ?_<;>intro hb0
 ·have hk:dN s=false:=by simpa using hb0
  exact aT X [2] rfl (by trivial) (az (aj rfl ⟨by rw[oR,hk];rfl,⟨⟩⟩))
 ·have hk:dN s=true:=by simpa using hb0
  have hsz:=CI hk
  exact aE (aS X [] [(11,⟨true,[.agg (bL (iq s.rows s.received))]⟩)] [2] [] rfl (by(with_reducible and_intros)<;>first|exact⟨⟩|exact(wz s.rows s.received hsz)) (az (aj rfl ⟨by rw[oR,if_pos hk],⟨⟩⟩)))
theorem Bo(s:bZ):So 211 [.agg (dB s)] [.agg (bL (oR s))]:=by
 refine aC X call211 func211 ntmps211 rfl rfl ?_
 intro zb
 refine aF X [1,2] rfl (ah (aS X [] [(4,⟨false,[bl (dN s)]⟩)] [1,2,5] [] rfl (by(with_reducible and_intros)<;>first|exact⟨⟩|exact(fI s)) ?_))
 refine aA rfl ?_ ?_<;>intro hb0
 ·have hk:dN s=false:=by simpa using hb0
  exact aT X [2] rfl (by trivial) (az (aj rfl ⟨by rw[oR,hk];rfl,⟨⟩⟩))
 ·have hk:dN s=true:=by simpa using hb0
  have hsz:=CI hk
  exact aE (aS X [] [(8,⟨true,[.agg (bL (iq s.rows (s.received.drop 0)))]⟩)] [2] [] rfl (by(with_reducible and_intros)<;>first|exact⟨⟩|exact(qb s 0 (by decide) hsz)) (az (aj rfl ⟨by rw[oR,if_pos hk];rfl,⟨⟩⟩)))
theorem Aj(s:bZ):So 103 [.agg (dB s)] [.agg (bL (kq s))]:=by
 refine aC X call103 func103 ntmps103 rfl rfl ?_
 intro zb
 refine aF X [1,2] rfl (ah (aS X [] [(6,⟨false,[bl (dN s)]⟩)] [1,2,7] [] rfl (by(with_reducible and_intros)<;>first|exact⟨⟩|exact(fH s)) ?_))
 refine aA rfl ?_ ?_<;>intro hb0
 ·have hk:dN s=false:=by simpa using hb0
  exact aT X [2] rfl (by trivial) (az (aj rfl ⟨by rw[kq,hk];rfl,⟨⟩⟩))
 ·have hk:dN s=true:=by simpa using hb0
  have hsz:=CI hk
  have hin:=Rv hk
  refine aE (aF X [1,2,3] rfl (ah (aF X [1,2,3,13] rfl ?_)))
  refine aA rfl ?_ ?_<;>intro cx
  ·try simp only[bO]at cx
   have hr:=EA s (by omega)
   have oO:=(TF hk).2
   have hmi:=Zx 1 (s.received.length:Int)
   refine ny X [1,2,3] rfl (by and_intros<;>first|exact⟨⟩| (intros;omega)) ?_
   rw[show List.take ((s.received.length:Int)).toNat s.received=s.received by simp,Zy, ←hr]
   refine aS X [] [(22,⟨true,[.agg (bL (iq s.rows (rcvd s)))]⟩)] [1,2,4] [] rfl (by(with_reducible and_intros)<;>first|exact⟨⟩|exact(wz s.rows (rcvd s) (fun r FL=>hsz r (ZA s r FL)))) (ah (aF X [2,4,25] rfl ?_))
   refine aA rfl ?_ ?_<;>intro dY
   ·try simp only[bO]at dY
    omega
   ·try simp only[bO]at dY
    exact aE (aT X [2] rfl (by trivial) (az (aj rfl ⟨by rw[kq,if_pos hk,if_neg (by omega)],⟨⟩⟩)))
  ·try simp only[bO]at cx
   have hr:=IW s (by omega)
   rw[hr]at hin
   have RE:0<((iq s.rows s.received).rows.getD (cL 0) (aP (.sl .u8))).length:=hin.2
   refine aE (aS X [] [(22,⟨true,[.agg (bL (iq s.rows s.received))]⟩)] [1,2,4] [] rfl (by(with_reducible and_intros)<;>first|exact⟨⟩|exact(wz s.rows s.received hsz)) (ah (aF X [2,4,25] rfl ?_)))
   refine aA rfl ?_ ?_<;>intro dY
   ·try simp only[bO]at dY
    have apr:s.behavior=2:=by omega
    exact ny X [2,4] rfl (by and_intros<;>first|exact⟨⟩| (intros;omega)|exact(kA _).1|exact(kA _).2) (aT X [2] rfl (by trivial) (az (aj rfl ⟨by rw[kq,if_pos hk,if_pos (by omega),hr];exact alt_eq _,⟨⟩⟩)))
   ·try simp only[bO]at dY
    exact aE (aT X [2] rfl (by trivial) (az (aj rfl ⟨by rw[kq,if_pos hk,if_neg (by omega),hr],⟨⟩⟩)))
theorem Ak(s:bZ):So 132 [.agg (dB s)] [.agg (bL (kq s))]:=by
 refine aC X call132 func132 ntmps132 rfl rfl ?_
 intro zb
 refine aF X [1,2] rfl (ah (aS X [] [(5,⟨false,[bl (dN s)]⟩)] [1,2,6] [] rfl (by(with_reducible and_intros)<;>first|exact⟨⟩|exact(fI s)) ?_))
 refine aA rfl ?_ ?_<;>intro hb0
 ·have hk:dN s=false:=by simpa using hb0
  exact aT X [2] rfl (by trivial) (az (aj rfl ⟨by rw[kq,hk];rfl,⟨⟩⟩))
 ·have hk:dN s=true:=by simpa using hb0
  have hsz:=CI hk
  have hin:=Rv hk
  refine aE (ah (aF X [1,2,9] rfl (aG (aF X [1,2,9,10] rfl ?_))))
  refine aA rfl ?_ ?_<;>intro cx
  ·try simp only[bO]at cx
   have hr:=EA s (by omega)
   exact aS X [] [(13,⟨true,[.agg (bL (iq s.rows (s.received.drop 1)))]⟩)] [2] [] rfl (by(with_reducible and_intros)<;>first|exact⟨⟩|exact(qb s 1 (by decide) hsz)) (az (aj rfl ⟨by rw[kq,if_pos hk,if_neg (by omega),hr],⟨⟩⟩))
  ·try simp only[bO]at cx
   have hr:=IW s (by omega)
   rw[hr]at hin
   have RE:0<((iq s.rows s.received).rows.getD (cL 0) (aP (.sl .u8))).length:=hin.2
   have aps:0<((iq s.rows (OX 0 s.received)).rows.getD (cL 0) (aP (.sl .u8))).length:=hin.2
   have apt:0<(iq s.rows (OX 0 s.received)).rows.length:=hin.1
   refine aF X [1,2,14] rfl ?_
   refine aA rfl ?_ ?_<;>intro dY
   ·try simp only[bO]at dY
    exact aS X [] [(17,⟨true,[.agg (bL (iq s.rows (s.received.drop 0)))]⟩)] [2,3] [] rfl (by(with_reducible and_intros)<;>first|exact⟨⟩|exact(qb s 0 (by decide) hsz)) (ah (aX X [] [] [2,3] [] 4095 0 MO (by kernel_rfl) rfl (by kernel_rfl) (by and_intros<;>first|exact⟨⟩| (intros;omega)|exact(kA _).1|exact(kA _).2) (aT X [2] rfl (by trivial) (az (aj rfl ⟨by rw[kq,if_pos hk,if_pos (by omega),hr];exact alt_eq _,⟨⟩⟩)))))
   ·try simp only[bO]at dY
    exact aE (aS X [] [(32,⟨true,[.agg (bL (iq s.rows (s.received.drop 0)))]⟩)] [2] [] rfl (by(with_reducible and_intros)<;>first|exact⟨⟩|exact(qb s 0 (by decide) hsz)) (az (aj rfl ⟨by rw[kq,if_pos hk,if_neg (by omega),hr];rfl,⟨⟩⟩)))
theorem xp(a b:DB):So 178 [.agg (bL a), .agg (bL b)] [bl (a.rows==b.rows)]:=by
 refine aC X call178 func178 ntmps178 rfl rfl ?_
 intro zb
 exact aF X [2,3] rfl (aS X [] [(9,⟨false,[bl (a.rows==b.rows)]⟩)] [4] [] rfl (by(with_reducible and_intros)<;>first|exact⟨⟩|exact(og a.rows b.rows)) (az (aj rfl ⟨rfl,⟨⟩⟩)))
theorem xq(a b:DB):So 210 [.agg (bL a), .agg (bL b)] [bl (a.rows==b.rows)]:=by
 refine aC X call210 func210 ntmps210 rfl rfl ?_
 intro zb
 exact aF X [2,3] rfl (aS X [] [(9,⟨false,[bl (a.rows==b.rows)]⟩)] [4] [] rfl (by(with_reducible and_intros)<;>first|exact⟨⟩|exact(n9 a.rows b.rows)) (az (aj rfl ⟨rfl,⟨⟩⟩)))
theorem yV(key:Int)(r:gK):So 176 [aM key, .agg (nO r)] [bl (Rw key r)]:=by
 refine aC X call176 func176 ntmps176 rfl rfl ?_
 intro zb
 exact aF X [0,3] rfl (ah (aX X [] [(9,⟨false,[aM (VI key r.server r.client r.round r.rY)]⟩)] [4] [] 127 0 MO (by kernel_rfl) rfl (by kernel_rfl) (by(with_reducible and_intros)<;>first|exact⟨⟩|exact(tY key r)) (az (aj rfl ⟨(congrArg dS (by simp only[Rw,bG]<;>first|rfl|ac_rfl)),⟨⟩⟩))))
theorem xu(r:gK)(d:DB)(hd:fU aQ d.rows≤1048576):So 177 [.agg (nO r), .agg (bL d)] [bl (MB r d)]:=by
 refine aC X call177 func177 ntmps177 rfl rfl ?_
 intro zb
 exact aF X [2,3] rfl (ah (aX X [] [(12,⟨false,[aM (II r.client r.round d)]⟩)] [4] [] 1023 0 MO (by kernel_rfl) rfl (by kernel_rfl) (by(with_reducible and_intros)<;>first|exact⟨⟩|exact(sY r.client r.round d hd)) (az (aj rfl ⟨(congrArg dS (by simp only[MB,bG]<;>first|rfl|ac_rfl)),⟨⟩⟩))))
theorem Bp(key:Int)(s:bZ)(p:DB)(l:List gK)(hz:s.received.length≤1048576∧ ∀r,r∈s.received→fU aQ r.share.rows≤1048576)(hp:fU aQ p.rows≤1048576):So 116 [aM key, .agg (dB s), .agg (bL p), .a (.sl .gK l)] [aM (CJ key s p l)]:=by
 refine aC X call116 func116 ntmps116 rfl rfl ?_
 intro zb
 refine eV 3 rfl (fun oO=>(aF X [0,3,5,6] rfl (ah (aF X [0,5,6,13,14,15] rfl ?_))))
 refine aG (aW (fun k=>k≤l.length∧ ∀j,j<k→lT key s (l.getD j (aP .gK))=0) (fun k:Nat=> [(15, .one ((aM k)))]) (fun k=> []) (fun k=>l.length-k) 0 (fun k=>rfl) ⟨aD _,fun j hj=>absurd hj (lU _)⟩ rfl ?_)
 rintro k ⟨hk,hall⟩
 refine aF X [0,5,6,13,14,15,16] rfl ?_
 refine ah (aA rfl ?_ ?_)<;>intro hb0
 ·try simp only[bO]at hb0
  refine aE (ah (aG (aT X [0,5,6,10,13,14,15] rfl (by and_intros<;>first|exact⟨⟩| (intros;omega)) (ah (aS X [] [(34,⟨false,[bl (Rw key (l.getD k (aP .gK)))]⟩)] [0,5,6,10,13,14,15,36] [] rfl (by(with_reducible and_intros)<;>first|exact⟨⟩|exact fun _=>(yV key (l.getD k (aP .gK)))) ?_)))))
  refine aA rfl ?_ ?_<;>intro cx
  ·have ZP:td key s (l.getD k (aP .gK))=true:=l8 cx (by simp only[td,bG]<;>first|rfl|ac_rfl)
   refine bp (cW X [0,5,6,13,14,15] rfl ?_)
   refine⟨k+1,⟨by omega,wu hall (ahs ZP)⟩,by omega,?_⟩
   rw[dh _ k rfl (by omega)]
   try rfl
  ·have ZP:td key s (l.getD k (aP .gK))=false:=pQ cx (by simp only[td,bG]<;>first|rfl|ac_rfl)
   refine aE (ah ?_)
   have t1:=(yS s ((l.getD k (aP .gK)).client) hz)
   refine bH X [] [(41,⟨true,dH t1⟩)] [0,5,6,10,11,12,13,14,15] [] rfl (by(with_reducible and_intros)<;>first|exact⟨⟩|exact t1) (ah (aF X [0,5,6,10,11,13,14,15,45] rfl ?_))
   refine aA rfl ?_ ?_<;>intro dY
   ·have hsh:oV s.received (l.getD k (aP .gK)).client=false:=by simpa using dY
    have hf:=aj2 ZP hsh
    exact aF X [8] rfl (az (aj rfl ⟨by rw[CK hall hb0 (by rw[hf];decide),hf],⟨⟩⟩))
   ·have hsh:oV s.received (l.getD k (aP .gK)).client=true:=by simpa using dY
    have hsd:=IG (c:=(l.getD k (aP .gK)).client) hz.2
    refine aE (ah ?_)
    have t1:=(xu (l.getD k (aP .gK)) (Bd s.received (l.getD k (aP .gK)).client) hsd)
    refine bH X [] [(48,⟨false,dH t1⟩)] [0,5,6,13,14,15,49] [] rfl (by(with_reducible and_intros)<;>first|exact⟨⟩|exact t1) ?_
    refine aA rfl ?_ ?_<;>intro Ft
    ·have hf:=aj3 ZP hsh (by simpa using Ft)
     exact aF X [8] rfl (az (aj rfl ⟨by rw[CK hall hb0 (by rw[hf];decide),hf],⟨⟩⟩))
    ·have hf:=ahr ZP hsh (by simpa using Ft)
     refine aE (cW X [0,5,6,13,14,15] rfl ?_)
     refine⟨k+1,⟨by omega,wu hall hf⟩,by omega,?_⟩
     rw[dh _ k rfl (by omega)]
     try rfl
 ·try simp only[bO]at hb0
  refine bp (ah (ah (aX X [] [(52,⟨false,[bl (dN s)]⟩),(57,⟨false,[.agg (bL (oR s))]⟩),(58,⟨false,[bl (p.rows==(oR s).rows)]⟩)] [60] [] 1023 0 MO (by kernel_rfl) rfl (by kernel_rfl) (by(with_reducible and_intros);(iterate 3 all_goals try first|exact⟨⟩|exact(fH s)|exact fun _=>(Bn s)|exact fun _=>(xp p (oR s)))) ?_)))
  refine aA rfl ?_ ?_<;>intro hb4
  ·have hq:(dN s&&(p.rows==(oR s).rows))=false:=dG hb4 (by simp only[bG]<;>first|rfl|ac_rfl)
   exact aF X [8] rfl (az (aj rfl ⟨by rw[vn hall hb0,hq];rfl,⟨⟩⟩))
  ·have hq:(dN s&&(p.rows==(oR s).rows))=true:=dF hb4 (by simp only[bG]<;>first|rfl|ac_rfl)
   exact aE (aF X [8] rfl (az (aj rfl ⟨by rw[vn hall hb0,hq];rfl,⟨⟩⟩)))
theorem CZ(m:Int)(sv:List bZ)(pb:List DB)(rc:List gK)(hl:sv.length≤1048576)(hs: ∀s,s∈sv→sW s)(hp: ∀d,d∈pb→fU aQ d.rows≤1048576):So 63 [aM m, .a (.sl .bZ sv), .a (.sl .DB pb), .a (.sl .gK rc)] [.a (.sl .int (mh m sv pb rc sv.length))]:=by
 refine aC X call63 func63 ntmps63 rfl rfl ?_
 intro zb
 refine eV 2 rfl (fun oO=>(aF X [0,1,2,3] rfl (aT X [0,1,2,3,9] rfl (by and_intros<;>first|exact⟨⟩|exact rfl) (ah (aF X [0,2,3,9,13,14,15] rfl ?_)))))
 refine aG (aW (fun k=>k≤sv.length) (fun k:Nat=> [(15, .one ((aM k)))]) (fun k=> [(12, .arr .int (mh m sv pb rc k))]) (fun k=>sv.length-k) 0 (fun k=>rfl) (aD _) rfl ?_)
 intro k hk
 have hle:=th m sv pb rc k
 refine aF X [0,2,3,9,13,14,15,16] rfl ?_
 refine ah (aA rfl ?_ ?_)<;>intro hb0
 ·try simp only[bO]at hb0
  refine aE (ah (aG (aT X [0,2,3,9,10,11,13,14,15] rfl (by and_intros<;>first|exact⟨⟩| (intros;omega)) (ah (aX X [] [(28,⟨false,[aM (kG m ((sv.getD k (aP .bZ)).id))]⟩),(35,⟨false,[aM (CJ (kG m (sv.getD k (aP .bZ)).id) (sv.getD k (aP .bZ)) (pb.getD k (aP .DB)) rc)]⟩)] [0,2,3,9,11,13,14,15,37] [] 262143 0 MO (by kernel_rfl) rfl (by kernel_rfl) (by(with_reducible and_intros);(iterate 3 all_goals try first|exact⟨⟩|exact fun _=>(l9 m ((sv.getD k (aP .bZ)).id))|exact fun _=>(Bp (kG m (sv.getD k (aP .bZ)).id) (sv.getD k (aP .bZ)) (pb.getD k (aP .DB)) rc (hs _ (getD_in _ hb0)) (Pd hp k))|exact(by refine fun hzz=> ?_;have hz2:decide ((k:Int)≥(pb.length:Int))=false:=hzz;rw[decide_eq_false_iff_not]at hz2;dsimp only[hyps,iH];omega))) ?_)))))
  refine aA rfl ?_ ?_<;>intro cx
  ·have hbd:Ad m sv pb rc k=true:=l8 cx (by simp only[Ad,bG]<;>first|rfl|ac_rfl)
   have xB:=IX hbd
   refine bH X [(42,12)] [] [0,2,3,9,13,14,15] [] rfl (by and_intros<;>first|exact⟨⟩|exact rfl| (simp only[gb,maxLen,lens];omega)) (cW X [0,2,3,9,13,14,15] rfl ?_)
   refine⟨k+1,by omega,by omega,?_⟩
   rw[dh _ k rfl (by omega),xB]
   try rfl
  ·have hbd:Ad m sv pb rc k=false:=pQ cx (by simp only[Ad,bG]<;>first|rfl|ac_rfl)
   have xB:=EC hbd
   refine aE (cW X [0,2,3,9,13,14,15] rfl ?_)
   refine⟨k+1,by omega,by omega,?_⟩
   rw[dh _ k rfl (by omega),xB]
   try rfl
 ·try simp only[bO]at hb0
  exact bp (aF X [8] rfl (az (aj rfl ⟨by rw[show k=sv.length by omega],⟨⟩⟩)))
theorem C0(sv:List bZ)(hl:sv.length≤1048576):So 58 [.a (.sl .bZ sv)] [.a (.sl .DB (dA sv))]:=by
 refine aC X call58 func58 ntmps58 rfl rfl ?_
 intro zb
 refine aF X [0] rfl (aT X [0,3] rfl (by and_intros<;>first|exact⟨⟩|exact rfl) (ah (aF X [3,7,8,9] rfl ?_)))
 refine aG (aW (fun k=>k≤sv.length) (fun k:Nat=> [(9, .one ((aM k)))]) (fun k=> [(6, .arr .DB ((dA sv).take k))]) (fun k=>sv.length-k) 0 (fun k=>rfl) (aD _) rfl ?_)
 intro k hk
 have hle:=cG (dA sv) k
 refine aF X [3,7,8,9,10] rfl ?_
 refine ah (aA rfl ?_ ?_)<;>intro hb0
 ·try simp only[bO]at hb0
  have hs:=KX sv k hb0
  refine aE (ah (aG (aT X [3,5,7,8,9] rfl (by and_intros<;>first|exact⟨⟩| (intros;omega)) (bH X [(17,6)] [(15,⟨true,[.agg (bL (kq (sv.getD k (aP .bZ))))]⟩)] [3,7,8,9] [] rfl (by(with_reducible and_intros)<;>first|exact⟨⟩|exact(Aj (sv.getD k (aP .bZ)))|exact rfl| (simp only[gb,maxLen,lens];omega)) (cW X [3,7,8,9] rfl ?_)))))
  refine⟨k+1,by omega,by omega,?_⟩
  rw[dh _ k rfl (by omega),hs]
  try rfl
 ·try simp only[bO]at hb0
  exact bp (aF X [2] rfl (az (aj rfl ⟨by rw[aB (by unfold dA;rw[bg];exact hb0)],⟨⟩⟩)))
theorem yW(key:Int)(r:gK):So 207 [aM key, .agg (nO r)] [bl (Rw key r)]:=by
 refine aC X call207 func207 ntmps207 rfl rfl ?_
 intro zb
 exact aF X [0,3] rfl (ah (aX X [] [(9,⟨false,[aM (VI key r.server r.client r.round r.rY)]⟩)] [4] [] 127 0 MO (by kernel_rfl) rfl (by kernel_rfl) (by(with_reducible and_intros)<;>first|exact⟨⟩|exact(tZ key r)) (az (aj rfl ⟨(congrArg dS (by simp only[Rw,bG]<;>first|rfl|ac_rfl)),⟨⟩⟩))))
theorem xw(r:gK)(d:DB)(hd:fU aQ d.rows≤1048576):So 209 [.agg (nO r), .agg (bL d)] [bl (MB r d)]:=by
 refine aC X call209 func209 ntmps209 rfl rfl ?_
 intro zb
 exact aF X [2,3] rfl (ah (aX X [] [(12,⟨false,[aM (II r.client r.round d)]⟩)] [4] [] 1023 0 MO (by kernel_rfl) rfl (by kernel_rfl) (by(with_reducible and_intros)<;>first|exact⟨⟩|exact(s6 r.client r.round d hd)) (az (aj rfl ⟨(congrArg dS (by simp only[MB,bG]<;>first|rfl|ac_rfl)),⟨⟩⟩))))
theorem Bq(key:Int)(s:bZ)(p:DB)(l:List gK)(hz:s.received.length≤1048576∧ ∀r,r∈s.received→fU aQ r.share.rows≤1048576)(hp:fU aQ p.rows≤1048576):So 145 [aM key, .agg (dB s), .agg (bL p), .a (.sl .gK l)] [aM (CJ key s p l)]:=by
 refine aC X call145 func145 ntmps145 rfl rfl ?_
 intro zb
 refine eV 3 rfl (fun oO=>(aF X [0,3,5,6] rfl (ah (aF X [0,3,5,6,9] rfl ?_))))
 refine aG (aW (fun k=>k≤l.length∧ ∀j,j<k→lT key s (l.getD j (aP .gK))=0) (fun k:Nat=> [(9, .one ((aM k)))]) (fun k=> []) (fun k=>l.length-k) 0 (fun k=>rfl) ⟨aD _,fun j hj=>absurd hj (lU _)⟩ rfl ?_)
 rintro k ⟨hk,hall⟩
 refine ah (aF X [0,3,5,6,9,16] rfl ?_)
 refine aA rfl ?_ ?_<;>intro hb0
 ·try simp only[bO]at hb0
  refine aE (ah (aG (aT X [0,3,5,6,9,10] rfl (by and_intros<;>first|exact⟨⟩| (intros;omega)) (ah (aS X [] [(38,⟨false,[bl (Rw key (l.getD k (aP .gK)))]⟩)] [0,3,5,6,9,10,40] [] rfl (by(with_reducible and_intros)<;>first|exact⟨⟩|exact fun _=>(yW key (l.getD k (aP .gK)))) ?_)))))
  refine aA rfl ?_ ?_<;>intro cx
  ·have ZP:td key s (l.getD k (aP .gK))=true:=l8 cx (by simp only[td,bG]<;>first|rfl|ac_rfl)
   refine bp (cW X [0,3,5,6,9] rfl ?_)
   refine⟨k+1,⟨by omega,wu hall (ahs ZP)⟩,by omega,?_⟩
   rw[dh _ k rfl (by omega)]
   try rfl
  ·have ZP:td key s (l.getD k (aP .gK))=false:=pQ cx (by simp only[td,bG]<;>first|rfl|ac_rfl)
   refine aE (ah ?_)
   have t1:=(I8 s ((l.getD k (aP .gK)).client) hz)
   refine bH X [] [(45,⟨true,dH t1⟩)] [0,3,5,6,9,10,11,12] [] rfl (by(with_reducible and_intros)<;>first|exact⟨⟩|exact t1) (ah (aF X [0,3,5,6,9,10,11,49] rfl ?_))
   refine aA rfl ?_ ?_<;>intro dY
   ·have hsh:oV s.received (l.getD k (aP .gK)).client=false:=by simpa using dY
    have hf:=aj2 ZP hsh
    exact aF X [8] rfl (az (aj rfl ⟨by rw[CK hall hb0 (by rw[hf];decide),hf],⟨⟩⟩))
   ·have hsh:oV s.received (l.getD k (aP .gK)).client=true:=by simpa using dY
    have hsd:=IG (c:=(l.getD k (aP .gK)).client) hz.2
    refine aE (ah ?_)
    have t1:=(xw (l.getD k (aP .gK)) (Bd s.received (l.getD k (aP .gK)).client) hsd)
    refine bH X [] [(52,⟨false,dH t1⟩)] [0,3,5,6,9,53] [] rfl (by(with_reducible and_intros)<;>first|exact⟨⟩|exact t1) ?_
    refine aA rfl ?_ ?_<;>intro Ft
    ·have hf:=aj3 ZP hsh (by simpa using Ft)
     exact aF X [8] rfl (az (aj rfl ⟨by rw[CK hall hb0 (by rw[hf];decide),hf],⟨⟩⟩))
    ·have hf:=ahr ZP hsh (by simpa using Ft)
     refine aE (cW X [0,3,5,6,9] rfl ?_)
     refine⟨k+1,⟨by omega,wu hall hf⟩,by omega,?_⟩
     rw[dh _ k rfl (by omega)]
     try rfl
 ·try simp only[bO]at hb0
  refine bp (ah (ah (aX X [] [(55,⟨false,[bl (dN s)]⟩),(60,⟨false,[.agg (bL (oR s))]⟩),(61,⟨false,[bl (p.rows==(oR s).rows)]⟩)] [63] [] 1023 0 MO (by kernel_rfl) rfl (by kernel_rfl) (by(with_reducible and_intros);(iterate 3 all_goals try first|exact⟨⟩|exact(fI s)|exact fun _=>(Bo s)|exact fun _=>(xq p (oR s)))) ?_)))
  refine aA rfl ?_ ?_<;>intro hb4
  ·have hq:(dN s&&(p.rows==(oR s).rows))=false:=dG hb4 (by simp only[bG]<;>first|rfl|ac_rfl)
   exact aF X [8] rfl (az (aj rfl ⟨by rw[vn hall hb0,hq];rfl,⟨⟩⟩))
  ·have hq:(dN s&&(p.rows==(oR s).rows))=true:=dF hb4 (by simp only[bG]<;>first|rfl|ac_rfl)
   exact aE (aF X [8] rfl (az (aj rfl ⟨by rw[vn hall hb0,hq];rfl,⟨⟩⟩)))
theorem C1(m:Int)(sv:List bZ)(pb:List DB)(rc:List gK)(hl:sv.length≤1048576)(hs: ∀s,s∈sv→sW s)(hp: ∀d,d∈pb→fU aQ d.rows≤1048576):So 84 [aM m, .a (.sl .bZ sv), .a (.sl .DB pb), .a (.sl .gK rc)] [.a (.sl .int (mh m sv pb rc sv.length))]:=by
 refine aC X call84 func84 ntmps84 rfl rfl ?_
 intro zb
 refine eV 2 rfl (fun oO=>(aF X [0,1,2,3] rfl (aT X [0,1,2,3,9] rfl (by and_intros<;>first|exact⟨⟩|exact rfl) (ah (aF X [0,1,2,3,9,10] rfl ?_)))))
 refine aG (aW (fun k=>k≤sv.length) (fun k:Nat=> [(10, .one ((aM k)))]) (fun k=> [(11, .arr .int (mh m sv pb rc k))]) (fun k=>sv.length-k) 0 (fun k=>rfl) (aD _) rfl ?_)
 intro k hk
 have hle:=th m sv pb rc k
 refine ah (aF X [0,1,2,3,9,10,15] rfl ?_)
 refine aA rfl ?_ ?_<;>intro hb0
 ·try simp only[bO]at hb0
  refine aE (ah (aG (ah (aX X [] [(29,⟨false,[aM (kG m ((sv.getD k (aP .bZ)).id))]⟩),(39,⟨false,[aM (CJ (kG m (sv.getD k (aP .bZ)).id) (sv.getD k (aP .bZ)) (pb.getD k (aP .DB)) rc)]⟩)] [0,1,2,3,9,10,41] [] 16777215 0 MO (by kernel_rfl) rfl (by kernel_rfl) (by(with_reducible and_intros);(iterate 3 all_goals try first|exact⟨⟩|exact fun _=>(mg m ((sv.getD k (aP .bZ)).id))|exact fun _=>(Bq (kG m (sv.getD k (aP .bZ)).id) (sv.getD k (aP .bZ)) (pb.getD k (aP .DB)) rc (hs _ (getD_in _ hb0)) (Pd hp k))|exact(by refine fun hzz=> ?_;have hz2:decide ((k:Int)≥(pb.length:Int))=false:=hzz;rw[decide_eq_false_iff_not]at hz2;dsimp only[hyps,iH];omega))) ?_))))
  refine aA rfl ?_ ?_<;>intro cx
  ·have hbd:Ad m sv pb rc k=true:=l8 cx (by simp only[Ad,bG]<;>first|rfl|ac_rfl)
   have xB:=IX hbd
   refine bH X [(49,11)] [] [0,1,2,3,9,10] [] rfl (by and_intros<;>first|exact⟨⟩| (intros;omega)|exact rfl| (simp only[gb,maxLen,lens];omega)) (cW X [0,1,2,3,9,10] rfl ?_)
   refine⟨k+1,by omega,by omega,?_⟩
   rw[dh _ k rfl (by omega),xB]
   try rfl
  ·have hbd:Ad m sv pb rc k=false:=pQ cx (by simp only[Ad,bG]<;>first|rfl|ac_rfl)
   have xB:=EC hbd
   refine aE (cW X [0,1,2,3,9,10] rfl ?_)
   refine⟨k+1,by omega,by omega,?_⟩
   rw[dh _ k rfl (by omega),xB]
   try rfl
 ·try simp only[bO]at hb0
  exact bp (aF X [8] rfl (az (aj rfl ⟨by rw[show k=sv.length by omega],⟨⟩⟩)))
theorem C2(sv:List bZ)(hl:sv.length≤1048576):So 79 [.a (.sl .bZ sv)] [.a (.sl .DB (dA sv))]:=by
 refine aC X call79 func79 ntmps79 rfl rfl ?_
 intro zb
 refine aF X [0] rfl (aT X [0,3] rfl (by and_intros<;>first|exact⟨⟩|exact rfl) (ah (aF X [0,3,4] rfl ?_)))
 refine aG (aW (fun k=>k≤sv.length) (fun k:Nat=> [(4, .one ((aM k)))]) (fun k=> [(5, .arr .DB ((dA sv).take k))]) (fun k=>sv.length-k) 0 (fun k=>rfl) (aD _) rfl ?_)
 intro k hk
 have hle:=cG (dA sv) k
 refine ah (aF X [0,3,4,9] rfl ?_)
 refine aA rfl ?_ ?_<;>intro hb0
 ·try simp only[bO]at hb0
  have hs:=KX sv k hb0
  refine aE (ah (aG (bH X [(19,5)] [(17,⟨true,[.agg (bL (kq (sv.getD k (aP .bZ))))]⟩)] [0,3,4] [] rfl (by(with_reducible and_intros)<;>first|exact⟨⟩|exact(Ak (sv.getD k (aP .bZ)))| (intros;omega)|exact rfl| (simp only[gb,maxLen,lens];omega)) (cW X [0,3,4] rfl ?_))))
  refine⟨k+1,by omega,by omega,?_⟩
  rw[dh _ k rfl (by omega),hs]
  try rfl
 ·try simp only[bO]at hb0
  exact bp (aF X [2] rfl (az (aj rfl ⟨by rw[aB (by unfold dA;rw[bg];exact hb0)],⟨⟩⟩)))
end
end Go.Proofs.YtkcegdacbddipaaGreat.G
