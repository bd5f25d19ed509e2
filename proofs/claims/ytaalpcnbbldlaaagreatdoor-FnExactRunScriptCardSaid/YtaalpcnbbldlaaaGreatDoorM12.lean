/-
  Room for transfers, as the library makes it.
-/
import Derived.Lib.AppendZeros
import Derived.Test.YtaalpcnbbldlaaaGreatDoorM11
open And renaming intro→bh
open BitVec renaming ofInt→aH
open Bool renaming and_eq_true→az,and_true→xP,true_and→dn
open Go.IntKind renaming i64→af
open Go.Lib renaming run_append_nil_zeros→wj,wpList_append_run→Ao
open Go.Proofs.Tryz renaming prog→aN
open Go.Value renaming bool→dO
open Int renaming reduceToNat→Lx,toNat→cQ,toNat_zero→lB
open List renaming append_assoc→bO,drop_zero→iE,length→aL,length_append→bf,length_cons→bF,length_drop→b9,length_map→bt,length_nil→c8,length_take→bV,range→bT,take_length→lg,take_of_length_le→aD,zipWith→fI
open Nat renaming add_mul→dr,le_refl→bq,le_trans→dH,mul_le_mul→vI,zero_le→aE
namespace Go.Proofs.YtaalpcnbbldlaaaGreatDoor.G
set_option linter.all false
open Go.RowKit L D Tryz
section
set_option maxRecDepth 100000
theorem RT{w w':World}{t:Tag}{g n:Nat}{c:Array Value}(hg:g=w.heap.size)(hb:Below w.heap.size w w')(hc:w'.heap[g]? =some (.cells c (ty t) (0,0)))(hs:c.size=n*kk t)(hn:n≤maxLen):
  Zd ty w [.a (.sl t [])] (.returned (.slice (some ⟨g,0,none⟩) 0 n)) w':=by
 have hown:Own w.heap.size w' (g::([]:List (List Nat)).flatten):=⟨by simp,fun b No=>by simp at No;omega,fun b No=>by simp at No;subst No;exact⟨_,_,hc⟩⟩
 have hB:=vZ (iL t) (l:=([]:List (T t))) (dN:= []) (o:=0) (n:=n) hc (by omega) (aE _) hn ⟨rfl,by simp⟩ hown
 exact⟨_,_,rfl,hb,hown,_,[],hB,rfl,by simp⟩
theorem Xk{w:World}{t:Tag}:Zd ty w [.a (.sl t [])] (.returned Kb) w:=by
 refine⟨_,[],rfl,Below.refl _ _,Own.nil _ _,[],[],⟨[],[],?_,rfl,by simp,rfl,Own.nil _ _⟩,rfl,rfl⟩
 exact⟨by simp,Or.inl ⟨rfl,rfl⟩⟩
theorem ac1(w:World)(n:Nat)(h1:n≤1099511627776):Calls aN 284 #[Kb, .int .i64 n] w (Zd ty w [.a (.sl .int [])]):=by
 have yG:El aN ty .int:=cE _ (by decide)
 cases hq:aN.info? (ty .int)with
 |none=>simp[El,hq]at yG
 |some inf=>
  simp[El,hq]at yG
  obtain⟨z1,z2,z3⟩:=yG
  by_cases h0:n=0
  ·subst h0
   go_enter func284,ntmps284
   go_wp2
   go_ret
   exact Xk
  ·have hsz:inf.size=1:=z2
   have hby:inf.bytes≤8:=by rw[z3];decide
   have hmul:n*inf.bytes≤8796093022208:=dH (vI (show n≤1099511627776 from h1) hby) (by decide)
   have hrun:=wj (P:=aN) w 37 3 37 (ty .int) inf (jv .int) .i64 .i64 (X.kind 37).1 (X.kind 3) hq z1 n (by omega) (by omega) (by omega) (by omega)
   have hge:=grownCap_ge w n 0 (ty .int)
   have QD:=grownCap_le_maxLen w n 0 (ty .int) (by unfold maxLen;omega)
   generalize grownCap w n 0 (ty .int)=g at hrun hge QD
   go_enter func284,ntmps284
   go_wp2_with (at_builtin;refine Ao _ rfl _ _ _ _ rfl _ _ rfl rfl _ _ hrun ?_)
   go_ret
   refine RT (t:= .int) rfl ((Below.refl _ _).drew.alloc (bq _) _) (ql rfl) ?_ QD
   rw[Array.size_append,size_zeroCells,size_zeroCells, ←dr,show n+(g-n)=g by omega]
   rfl
theorem zc(n:Nat)(h1:n≤1099511627776):So 284 [.a (.lit Kb), .a (.lit (.int .i64 n))] [.a (.sl .int [])]:=by
 refine⟨fun args w=>call284 args w,fun w us _ ha=> ?_⟩
 match us,ha with
 | [u1,u2],⟨⟨_,e1⟩,⟨_,e2⟩,_⟩=>
   obtain⟨e1,_⟩:=e1
   obtain⟨e2,_⟩:=e2
   rw[e1,e2]
   exact ac1 w n h1
end
section
set_option maxRecDepth 100000
theorem bl(x lo hi:Int):So 69 [aI x,aI lo,aI hi] [aU (inr x lo hi)]:=by
 refine aF X call69 func69 ntmps69 rfl rfl ?_
 intro zb
 exact av X [0,1,2] rfl (av X [6] rfl (aq (aj rfl ⟨rfl,⟨⟩⟩)))
theorem bD(x lo hi:Int):So 48 [aI x,aI lo,aI hi] [aU (inr x lo hi)]:=by
 refine aF X call48 func48 ntmps48 rfl rfl ?_
 intro zb
 exact av X [0,1,2] rfl (av X [6] rfl (aq (aj rfl ⟨rfl,⟨⟩⟩)))
theorem Vf(p q:Int)(h1:1≤q)(h2:q≤1000000000000):So 283 [aI p,aI q] [aI (p % q)]:=by
 refine aF X call283 func283 ntmps283 rfl rfl ?_
 intro zb
 refine av X [0,1] rfl (aa (aM X [] [(6,⟨false,[aU _]⟩)] [0,1,7] [] rfl (by(with_reducible and_intros)<;>first|exact⟨⟩|exact(bl _ _ _)) ?_))
 refine an rfl ?_ ?_<;>intro hb0
 ·try simp only[bG]at hb0
  omega
 ·try simp only[bG]at hb0
  exact au (aO X [4] rfl (by and_intros<;>first|exact⟨⟩| (intros;omega)) (aq (aj rfl ⟨by rw[md_eq p q h1 h2],⟨⟩⟩)))
theorem Ap(l:List Int)(hl:l.length≤16777216):So 217 [.a (.sl .int l)] [aI (hsh l)]:=by
 refine aF X call217 func217 ntmps217 rfl rfl ?_
 intro zb
 refine av X [0] rfl (av X [0,3] rfl (aa (av X [3,6,7,8] rfl ?_)))
 refine aB (aP (fun k=>k≤l.length) (fun k:Nat=> [(3, .one ((aI (hsh (l.take k))))),(8, .one ((aI k)))]) (fun k=> []) (fun k=>l.length-k) 0 (fun k=>rfl) (aE _) rfl ?_)
 intro k hk
 refine av X [3,6,7,8,9] rfl ?_
 refine aa (an rfl ?_ ?_)<;>intro hb0
 ·try simp only[bG]at hb0
  have hs:=RR l k hb0
  refine au (aa (aB (aO X [3,5,6,7,8] rfl (by and_intros<;>first|exact⟨⟩| (intros;omega)) (bn X [] [(15,⟨false,[aI _]⟩)] [3,6,7,8] [] rfl (by(with_reducible and_intros)<;>first|exact⟨⟩|exact(Vf _ _ (by first|assumption|omega| (simp;done)| (simp;omega)) (by first|assumption|omega| (simp;done)| (simp;omega)))| (intros;omega)) (bU X [3,6,7,8] rfl ?_)))))
  refine⟨k+1,by omega,by omega,?_⟩
  rw[bZ _ k rfl (by omega),hs]
  try rfl
 ·try simp only[bG]at hb0
  exact aW (av X [2] rfl (aq (aj rfl ⟨by rw[aD hb0],⟨⟩⟩)))
theorem KL(p q:Int)(h1:1≤q)(h2:q≤1000000000000):So 243 [aI p,aI q] [aI (p % q)]:=by
 refine aF X call243 func243 ntmps243 rfl rfl ?_
 intro zb
 refine av X [0,1] rfl (aa (aM X [] [(6,⟨false,[aU _]⟩)] [0,1,7] [] rfl (by(with_reducible and_intros)<;>first|exact⟨⟩|exact(bD _ _ _)) ?_))
 refine an rfl ?_ ?_<;>intro hb0
 ·try simp only[bG]at hb0
  omega
 ·try simp only[bG]at hb0
  exact au (aO X [4] rfl (by and_intros<;>first|exact⟨⟩| (intros;omega)) (aq (aj rfl ⟨by rw[md_eq p q h1 h2],⟨⟩⟩)))
theorem Aq(l:List Int)(hl:l.length≤16777216):So 164 [.a (.sl .int l)] [aI (hsh l)]:=by
 refine aF X call164 func164 ntmps164 rfl rfl ?_
 intro zb
 refine av X [0] rfl (av X [0,3] rfl (aa (av X [0,3,4] rfl ?_)))
 refine aB (aP (fun k=>k≤l.length) (fun k:Nat=> [(3, .one ((aI (hsh (l.take k))))),(4, .one ((aI k)))]) (fun k=> []) (fun k=>l.length-k) 0 (fun k=>rfl) (aE _) rfl ?_)
 intro k hk
 refine aa (av X [0,3,4,8] rfl ?_)
 refine an rfl ?_ ?_<;>intro hb0
 ·try simp only[bG]at hb0
  have hs:=RR l k hb0
  refine au (aa (aB (bn X [] [(17,⟨false,[aI _]⟩)] [0,3,4] [] rfl (by(with_reducible and_intros)<;>first|exact⟨⟩|exact(KL _ _ (by first|assumption|omega| (simp;done)| (simp;omega)) (by first|assumption|omega| (simp;done)| (simp;omega)))| (intros;omega)) (bU X [0,3,4] rfl ?_))))
  refine⟨k+1,by omega,by omega,?_⟩
  rw[bZ _ k rfl (by omega),hs]
  try rfl
 ·try simp only[bG]at hb0
  exact aW (av X [2] rfl (aq (aj rfl ⟨by rw[aD hb0],⟨⟩⟩)))
theorem oJ(l:List (List Int))(hl:l.length≤1048576)(hs0:(l.map aL).sum≤1099511627776):So 218 [.a (.sl (.sl .int) l)] [.a (.sl .int l.flatten)]:=by
 refine aF X call218 func218 ntmps218 rfl rfl ?_
 intro zb
 refine av X [0] rfl (av X [0,3] rfl (aa (av X [0,3,9,10,11] rfl ?_)))
 refine aB (aP (fun k=>k≤l.length) (fun k:Nat=> [(3, .one ((aI ((l.take k).map aL).sum))),(11, .one ((aI k)))]) (fun k=> []) (fun k=>l.length-k) 0 (fun k=>rfl) (aE _) rfl ?_)
 intro k hk
 have hle:=kE l aL k
 refine av X [0,3,9,10,11,12] rfl ?_
 refine aa (an rfl ?_ ?_)<;>intro hb0
 ·try simp only[bG]at hb0
  have hs:=Ih l (aR (.sl .int)) k hb0
  have Pd:=kE l aL (k+1)
  rw[hs]at Pd
  refine au (aa (aB (aO X [0,3,5,9,10,11] rfl (by and_intros<;>first|exact⟨⟩| (intros;omega)) (aO X [0,3,9,10,11] rfl (by trivial) (av X [0,3,9,10,11,20] rfl ?_)))))
  refine an rfl ?_ ?_<;>intro bM
  ·try simp only[bG]at bM
   rw[dm (by omega)]at bM
   omega
  ·try simp only[bG]at bM
   refine au (bU X [0,3,9,10,11] rfl ?_)
   refine⟨k+1,by omega,by omega,?_⟩
   rw[bZ _ k rfl (by omega),hs]
   rw[dm (by simp only[Int.toNat_natCast];omega)]
   try rfl
 ·try simp only[bG]at hb0
  rw[aD hb0]
  refine aW (aM X [] [(24,⟨true,[.a (.sl .int [])]⟩),(300024,⟨true,[]⟩)] [0,6] [] rfl (by(with_reducible and_intros)<;>first|exact⟨⟩|exact(zc _ hs0)) (aa (av X [6,25,26,27] rfl ?_)))
  refine aB (aP (fun k1=>k1≤l.length) (fun k1:Nat=> [(27, .one ((aI k1)))]) (fun k1=> [(24, .arr .int (l.take k1).flatten)]) (fun k1=>l.length-k1) 0 (fun k1=>rfl) (aE _) rfl ?_)
  intro k1 hk1
  have IX:=uR l k1
  refine av X [6,25,26,27,28] rfl ?_
  refine aa (an rfl ?_ ?_)<;>intro cS
  ·try simp only[bG]at cS
   have hs1:=Ex l (aR (.sl .int)) k1 cS
   have Pd:=uR l (k1+1)
   rw[hs1,bf]at Pd
   refine au (aa (aB (aO X [6,8,25,26,27] rfl (by and_intros<;>first|exact⟨⟩| (intros;omega)) (bn X [(33,24)] [] [6,25,26,27] [] rfl (by and_intros<;>first|exact⟨⟩|exact rfl| (simp only[gR,maxLen,lens];omega)) (bU X [6,25,26,27] rfl ?_)))))
   refine⟨k1+1,by omega,by omega,?_⟩
   rw[bZ _ k1 rfl (by omega),hs1]
   try rfl
  ·try simp only[bG]at cS
   exact aW (av X [2] rfl (aq (aj rfl ⟨by rw[aD cS],⟨⟩⟩)))
theorem cI(k:Int)(l:List Int)(hl:l.length≤1048576):So 132 [aI k, .a (.sl .int l)] [aI (kh k l)]:=by
 refine aF X call132 func132 ntmps132 rfl rfl ?_
 intro zb
 refine av X [0,1] rfl (aM X [] [(11,⟨true,[.a (.sl .int [[k],l,[k]].flatten)]⟩),(12,⟨false,[aI (hsh [[k],l,[k]].flatten)]⟩)] [4] [] rfl (by(repeat' with_reducible first|exact bH|refine bS ?_ ?_|apply bh);(iterate 2 all_goals try first|exact(oJ _ (by simp) (by simp;omega))|exact(Ap _ (by simp;omega)));all_goals first|exact rfl|exact⟨rfl,cE _ (by decide)⟩) ?_)
 exact aq (aj rfl ⟨rfl,⟨⟩⟩)
theorem cJ(k:Int)(l:List Int)(hl:l.length≤1048576):So 94 [aI k, .a (.sl .int l)] [aI (kh k l)]:=by
 refine aF X call94 func94 ntmps94 rfl rfl ?_
 intro zb
 refine av X [0,1] rfl (aM X [(8,6),(11,6)] [(12,⟨false,[aI (hsh ([k]++l++ [k]))]⟩)] [4] [] rfl (by(repeat' with_reducible first|exact bH|refine bS ?_ ?_|apply bh)<;>first|exact(Aq _ (by simp;omega))|exact rfl|exact⟨rfl,cE _ (by decide)⟩| (simp only[gR,maxLen,lens];omega)) ?_)
 exact aq (aj rfl ⟨rfl,⟨⟩⟩)
theorem pz(n:Int):So 131 [aI n] [aI (F6 n)]:=by
 refine aF X call131 func131 ntmps131 rfl rfl ?_
 intro zb
 refine av X [0] rfl (aa (av X [0,4] rfl ?_))
 refine an rfl ?_ ?_<;>intro hb0
 ·try simp only[bG]at hb0
  exact av X [2] rfl (aq (aj rfl ⟨by rw[F6,if_pos hb0],⟨⟩⟩))
 ·try simp only[bG]at hb0
  exact au (av X [2] rfl (aq (aj rfl ⟨by rw[F6,if_neg (by simpa using hb0)],⟨⟩⟩)))
theorem oc(a b:Int):So 82 [aI a,aI b] [aI (if b>a then b else a)]:=by
 refine aF X call82 func82 ntmps82 rfl rfl ?_
 intro zb
 refine av X [0,1] rfl (aa (av X [0,1,7] rfl ?_))
 refine an rfl ?_ ?_<;>intro hb0
 ·try simp only[bG]at hb0
  exact av X [4] rfl (aq (aj rfl ⟨by rw[if_pos (by omega)],⟨⟩⟩))
 ·try simp only[bG]at hb0
  exact au (av X [4] rfl (aq (aj rfl ⟨by rw[if_neg (by omega)],⟨⟩⟩)))
theorem qy(s k:Int):So 275 [aI s,aI k] [aI (cs s k)]:=by
 refine aF X call275 func275 ntmps275 rfl rfl ?_
 intro zb
 refine av X [0,1] rfl (aM X [] [(9,⟨false,[aI _]⟩)] [5] [] rfl (by(repeat' with_reducible first|exact bH|refine bS ?_ ?_|apply bh)<;>first|exact(cI _ _ (by first|assumption|omega| (simp;done)| (simp;omega)))|exact⟨rfl,cE _ (by decide)⟩) ?_)
 exact aO X [4] rfl (by and_intros<;>first|exact⟨⟩| (intros;omega)) (aq (aj rfl ⟨by rw[cs_eq (gB _ _).1 (gB _ _).2];rfl,⟨⟩⟩))
theorem og(s n:Int)(h0:0≤n)(h1:n≤400):So 339 [aI s,aI n] [.a (.sl .u8 (stream s n.toNat))]:=by
 refine aF X call339 func339 ntmps339 rfl rfl ?_
 intro zb
 refine av X [0,1] rfl (aa (aM X [] [(8,⟨false,[aU _]⟩)] [0,1,9] [] rfl (by(with_reducible and_intros)<;>first|exact⟨⟩|exact(bl _ _ _)) ?_))
 refine an rfl ?_ ?_<;>intro hb0
 ·try simp only[bG]at hb0
  omega
 ·try simp only[bG]at hb0
  refine au (aO X [0,1,5] rfl (by and_intros<;>first|exact⟨⟩|exact rfl) (aa (av X [0,5,11,12] rfl ?_)))
  refine aB (aP (fun k=>k≤n.toNat) (fun k:Nat=> [(12, .one ((aI k)))]) (fun k=> [(10, .arr .u8 (stream s k))]) (fun k=>n.toNat-k) 0 (fun k=>rfl) (aE _) rfl ?_)
  intro k hk
  have hle:=jy s k
  refine av X [0,5,11,12,13] rfl ?_
  refine aa (an rfl ?_ ?_)<;>intro bM
  ·try simp only[bG]at bM
   have hs:=Ig s k (by omega)
   refine au (aa (aB (av X [0,5,6,11,12] rfl (bn X [(23,10)] [(19,⟨false,[aI _]⟩)] [0,5,11,12] [] rfl (by(repeat' with_reducible first|exact bH|refine bS ?_ ?_|apply bh)<;>first|exact(qy _ _)| (intros;omega)|exact rfl|exact⟨rfl,cE _ (by decide)⟩|exact(we _).1|exact(we _).2| (simp only[gR,maxLen,lens];omega)) ?_))))
   refine bU X [0,5,11,12] rfl ?_
   refine⟨k+1,by omega,by omega,?_⟩
   rw[bZ _ k rfl (by omega),hs]
   try rfl
  ·try simp only[bG]at bM
   exact aW (av X [4] rfl (aq (aj rfl ⟨by rw[show k=n.toNat by omega],⟨⟩⟩)))
theorem tI(l:List UInt8)(hl:l.length≤1048576):So 350 [.a (.sl .u8 l)] [.a (.sl .int (Mk l))]:=by
 refine aF X call350 func350 ntmps350 rfl rfl ?_
 intro zb
 refine av X [0] rfl (aO X [0,3] rfl (by and_intros<;>first|exact⟨⟩|exact rfl) (aa (av X [3,9,10,11] rfl ?_)))
 refine aB (aP (fun k=>k≤l.length) (fun k:Nat=> [(11, .one ((aI k)))]) (fun k=> [(8, .arr .int ((l.length:Int)::(l.take k).map (fun c=>(c.toNat:Int))))]) (fun k=>l.length-k) 0 (fun k=>rfl) (aE _) rfl ?_)
 intro k hk
 refine av X [3,9,10,11,12] rfl ?_
 refine aa (an rfl ?_ ?_)<;>intro hb0
 ·try simp only[bG]at hb0
  have hs:=RS l k hb0
  refine au (aa (aB (aO X [3,5,9,10,11] rfl (by and_intros<;>first|exact⟨⟩| (intros;omega)) (bn X [(19,8)] [] [3,9,10,11] [] rfl (by and_intros<;>first|exact⟨⟩|exact rfl| (simp only[gR,maxLen,lens];omega)) (bU X [3,9,10,11] rfl ?_)))))
  refine⟨k+1,by omega,by omega,?_⟩
  rw[bZ _ k rfl (by omega),hs]
  try rfl
 ·try simp only[bG]at hb0
  exact aW (av X [2] rfl (aq (aj rfl ⟨by rw[aD hb0];rfl,⟨⟩⟩)))
theorem qz(s k:Int):So 240 [aI s,aI k] [aI (cs s k)]:=by
 refine aF X call240 func240 ntmps240 rfl rfl ?_
 intro zb
 refine av X [0,1] rfl (aM X [] [(9,⟨false,[aI _]⟩)] [5] [] rfl (by(repeat' with_reducible first|exact bH|refine bS ?_ ?_|apply bh)<;>first|exact(cJ _ _ (by first|assumption|omega| (simp;done)| (simp;omega)))|exact⟨rfl,cE _ (by decide)⟩) ?_)
 exact aO X [4] rfl (by and_intros<;>first|exact⟨⟩| (intros;omega)) (aq (aj rfl ⟨by rw[cs_eq (gB _ _).1 (gB _ _).2];rfl,⟨⟩⟩))
theorem oo(s n:Int)(h0:0≤n)(h1:n≤400):So 304 [aI s,aI n] [.a (.sl .u8 (stream s n.toNat))]:=by
 refine aF X call304 func304 ntmps304 rfl rfl ?_
 intro zb
 refine av X [0,1] rfl (aO X [0,1,5] rfl (by and_intros<;>first|exact⟨⟩|exact rfl) (aa (av X [0,1,5,6] rfl ?_)))
 refine aB (aP (fun k=>k≤n.toNat) (fun k:Nat=> [(6, .one ((aI k)))]) (fun k=> [(7, .arr .u8 (stream s k))]) (fun k=>n.toNat-k) 0 (fun k=>rfl) (aE _) rfl ?_)
 intro k hk
 have hle:=jy s k
 refine aa (av X [0,1,5,6,14] rfl ?_)
 refine an rfl ?_ ?_<;>intro hb0
 ·try simp only[bG]at hb0
  have hs:=Ig s k (by omega)
  refine au (aa (aB (bn X [(25,7)] [(21,⟨false,[aI _]⟩)] [0,1,5,6] [] rfl (by(repeat' with_reducible first|exact bH|refine bS ?_ ?_|apply bh)<;>first|exact(qz _ _)| (intros;omega)|exact rfl|exact⟨rfl,cE _ (by decide)⟩|exact(we _).1|exact(we _).2| (simp only[gR,maxLen,lens];omega)) ?_)))
  refine bU X [0,1,5,6] rfl ?_
  refine⟨k+1,by omega,by omega,?_⟩
  rw[bZ _ k rfl (by omega),hs]
  try rfl
 ·try simp only[bG]at hb0
  exact aW (av X [4] rfl (aq (aj rfl ⟨by rw[show k=n.toNat by omega],⟨⟩⟩)))
theorem tJ(l:List UInt8)(hl:l.length≤1048576):So 312 [.a (.sl .u8 l)] [.a (.sl .int (Mk l))]:=by
 refine aF X call312 func312 ntmps312 rfl rfl ?_
 intro zb
 refine av X [0] rfl (aO X [0,3] rfl (by and_intros<;>first|exact⟨⟩|exact rfl) (aa (av X [0,3,4] rfl ?_)))
 refine aB (aP (fun k=>k≤l.length) (fun k:Nat=> [(4, .one ((aI k)))]) (fun k=> [(7, .arr .int ((l.length:Int)::(l.take k).map (fun c=>(c.toNat:Int))))]) (fun k=>l.length-k) 0 (fun k=>rfl) (aE _) rfl ?_)
 intro k hk
 refine aa (av X [0,3,4,11] rfl ?_)
 refine an rfl ?_ ?_<;>intro hb0
 ·try simp only[bG]at hb0
  have hs:=RS l k hb0
  refine au (aa (aB (bn X [(21,7)] [] [0,3,4] [] rfl (by and_intros<;>first|exact⟨⟩| (intros;omega)|exact rfl| (simp only[gR,maxLen,lens];omega)) (bU X [0,3,4] rfl ?_))))
  refine⟨k+1,by omega,by omega,?_⟩
  rw[bZ _ k rfl (by omega),hs]
  try rfl
 ·try simp only[bG]at hb0
  exact aW (av X [2] rfl (aq (aj rfl ⟨by rw[aD hb0];rfl,⟨⟩⟩)))
end
section
set_option maxRecDepth 100000
theorem kP(l:List Int)(hl:l.length≤4194304):So 189 [.a (.sl .int l)] [.a (.sl .int l)]:=by
 refine aF X call189 func189 ntmps189 rfl rfl ?_
 intro zb
 refine av X [0] rfl (aa (aa (RX X [] [] [0,4] rfl (by trivial) (fun hn1=> ?_) ?_)))
 ·refine an rfl (fun _=> ?_) (fun hb=>absurd hb (by decide))
  exact av X [2] rfl (aq (aj rfl ⟨hn1,⟨⟩⟩))
 ·exact an rfl (fun hb=>absurd hb (by decide)) (fun _=>(au (aM X [(7,5)] [] [2] [] rfl (by and_intros<;>first|exact⟨⟩|exact rfl| (simp only[gR,maxLen,lens];omega)) (aq (aj rfl ⟨rfl,⟨⟩⟩)))))
theorem dW(l:List UInt8)(hl:l.length≤1048576):So 274 [.a (.sl .u8 l)] [.a (.sl .u8 l)]:=by
 refine aF X call274 func274 ntmps274 rfl rfl ?_
 intro zb
 refine av X [0] rfl (aa (aa (RX X [] [] [0,4] rfl (by trivial) (fun hn1=> ?_) ?_)))
 ·refine an rfl (fun _=> ?_) (fun hb=>absurd hb (by decide))
  exact av X [2] rfl (aq (aj rfl ⟨hn1,⟨⟩⟩))
 ·exact an rfl (fun hb=>absurd hb (by decide)) (fun _=>(au (aM X [(7,5)] [] [2] [] rfl (by and_intros<;>first|exact⟨⟩|exact rfl| (simp only[gR,maxLen,lens];omega)) (aq (aj rfl ⟨rfl,⟨⟩⟩)))))
theorem nP(a b:List UInt8)(ha:a.length≤1048576)(hb:b.length≤1048576):So 348 [.a (.sl .u8 a), .a (.sl .u8 b)] [.a (.sl .u8 (iG a b))]:=by
 refine aF X call348 func348 ntmps348 rfl rfl ?_
 intro zb
 refine av X [0,1] rfl (aa (av X [0,1,12] rfl ?_))
 refine an rfl ?_ ?_<;>intro hb0
 ·try simp only[bG]at hb0
  rw[Nx a b]
  have hle0:a.length≤b.length:=by omega
  obtain⟨p,hp⟩: ∃p,p=b:=⟨_,rfl⟩
  obtain⟨q,hq⟩: ∃q,q=a:=⟨_,rfl⟩
  subst hp;subst hq
  refine bU X [0,1] rfl (aM X [] [(16,⟨true,[.a (.sl .u8 _)]⟩)] [1,5] [] rfl (by(with_reducible and_intros)<;>first|exact⟨⟩|exact(dW _ (by first|assumption|omega| (simp;done)| (simp;omega)))) (aa (av X [5,17,18,19] rfl ?_)))
  refine aB (aP (fun k=>k≤q.length) (fun k:Nat=> [(19, .one ((aI k)))]) (fun k=> [(16, .arr .u8 ((iG p q).take k++p.drop k))]) (fun k=>q.length-k) 0 (fun k=>rfl) (aE _) rfl ?_)
  intro k hk
  have hle:=pg (iG p q) p k (by rw[gK];omega) (by omega)
  refine av X [5,17,18,19,20] rfl ?_
  refine aa (an rfl ?_ ?_)<;>intro bM
  ·try simp only[bG]at bM
   have hs:=R2 p q k bM hle0
   refine au (aa (aB (aO X [5,6,7,17,18,19] rfl (by and_intros<;>first|exact⟨⟩| (intros;omega)) (gA X [5,17,18,19] rfl (by and_intros<;>first|exact⟨⟩| (intros;omega)|exact(we _).1|exact(we _).2) (bU X [5,17,18,19] rfl ?_)))))
   refine⟨k+1,by omega,by omega,?_⟩
   rw[bZ _ k rfl (by omega),hs]
   try rfl
  ·try simp only[bG]at bM
   exact aW (av X [4] rfl (aq (aj rfl ⟨by rw[R3 p q k bM hle0 hk],⟨⟩⟩)))
 ·try simp only[bG]at hb0
  have hle0:b.length≤a.length:=by omega
  obtain⟨p,hp⟩: ∃p,p=a:=⟨_,rfl⟩
  obtain⟨q,hq⟩: ∃q,q=b:=⟨_,rfl⟩
  subst hp;subst hq
  refine au (aM X [] [(16,⟨true,[.a (.sl .u8 _)]⟩)] [1,5] [] rfl (by(with_reducible and_intros)<;>first|exact⟨⟩|exact(dW _ (by first|assumption|omega| (simp;done)| (simp;omega)))) (aa (av X [5,17,18,19] rfl ?_)))
  refine aB (aP (fun k=>k≤q.length) (fun k:Nat=> [(19, .one ((aI k)))]) (fun k=> [(16, .arr .u8 ((iG p q).take k++p.drop k))]) (fun k=>q.length-k) 0 (fun k=>rfl) (aE _) rfl ?_)
  intro k hk
  have hle:=pg (iG p q) p k (by rw[gK];omega) (by omega)
  refine av X [5,17,18,19,20] rfl ?_
  refine aa (an rfl ?_ ?_)<;>intro bM
  ·try simp only[bG]at bM
   have hs:=R2 p q k bM hle0
   refine au (aa (aB (aO X [5,6,7,17,18,19] rfl (by and_intros<;>first|exact⟨⟩| (intros;omega)) (gA X [5,17,18,19] rfl (by and_intros<;>first|exact⟨⟩| (intros;omega)|exact(we _).1|exact(we _).2) (bU X [5,17,18,19] rfl ?_)))))
   refine⟨k+1,by omega,by omega,?_⟩
   rw[bZ _ k rfl (by omega),hs]
   try rfl
  ·try simp only[bG]at bM
   exact aW (av X [4] rfl (aq (aj rfl ⟨by rw[R3 p q k bM hle0 hk],⟨⟩⟩)))
theorem nQ(a b:List UInt8)(ha:a.length≤1048576)(hb:b.length≤1048576):So 365 [.a (.sl .u8 a), .a (.sl .u8 b)] [.a (.sl .u8 (iG a b))]:=by
 refine aF X call365 func365 ntmps365 rfl rfl ?_
 intro zb
 refine av X [0,1] rfl (aO X [0,1,5] rfl (by and_intros<;>first|exact⟨⟩|exact rfl) (aa (av X [0,1,5,6] rfl ?_)))
 refine aB (aP (fun k=>k≤max a.length b.length) (fun k:Nat=> [(6, .one ((aI k)))]) (fun k=> [(8, .arr .u8 ((iG a b).take k))]) (fun k=>max a.length b.length-k) 0 (fun k=>rfl) (aE _) rfl ?_)
 intro k hk
 have hle:=cG (iG a b) k
 refine aa (av X [0,1,5,6,18] rfl ?_)
 refine an rfl ?_ ?_<;>intro hb0
 ·try simp only[bG]at hb0
  refine au (aa (aB (av X [0,1,5,6,7] rfl (aa (av X [0,1,5,6,7,24] rfl ?_)))))
  refine an rfl ?_ ?_<;>intro bM
  ·try simp only[bG]at bM
   refine gA X [0,1,5,6,7] rfl (by and_intros<;>first|exact⟨⟩| (intros;omega)) (aa (av X [0,1,5,6,7,32] rfl ?_))
   refine an rfl ?_ ?_<;>intro cS
   ·try simp only[bG]at cS
    have hs:=alO a b k bM cS
    refine gA X [0,1,5,6,7] rfl (by and_intros<;>first|exact⟨⟩| (intros;omega)) (bn X [(42,8)] [] [0,1,5,6] [] rfl (by and_intros<;>first|exact⟨⟩|exact rfl|exact(we _).1|exact(we _).2| (simp only[gR,maxLen,lens];omega)) (bU X [0,1,5,6] rfl ?_))
    refine⟨k+1,by omega,by omega,?_⟩
    rw[bZ _ k rfl (by omega),hs]
    try rfl
   ·try simp only[bG]at cS
    have hs:=aor a b k bM cS
    refine au (bn X [(42,8)] [] [0,1,5,6] [] rfl (by and_intros<;>first|exact⟨⟩| (intros;omega)|exact rfl|exact(u8n _).2| (simp only[gR,maxLen,lens];omega)) (bU X [0,1,5,6] rfl ?_))
    refine⟨k+1,by omega,by omega,?_⟩
    rw[bZ _ k rfl (by omega),hs]
    try rfl
  ·try simp only[bG]at bM
   refine au (aa (av X [0,1,5,6,7,32] rfl ?_))
   refine an rfl ?_ ?_<;>intro cS
   ·try simp only[bG]at cS
    have hs:=aos a b k bM cS
    refine gA X [0,1,5,6,7] rfl (by and_intros<;>first|exact⟨⟩| (intros;omega)) (bn X [(42,8)] [] [0,1,5,6] [] rfl (by and_intros<;>first|exact⟨⟩|exact rfl|exact(we _).1|exact(we _).2| (simp only[gR,maxLen,lens];omega)) (bU X [0,1,5,6] rfl ?_))
    refine⟨k+1,by omega,by omega,?_⟩
    rw[bZ _ k rfl (by omega),hs]
    try rfl
   ·try simp only[bG]at cS
    omega
 ·try simp only[bG]at hb0
  exact aW (av X [4] rfl (aq (aj rfl ⟨by rw[aD (by rw[gK];omega)],⟨⟩⟩)))
theorem qA(l:List (List UInt8))(hs0:eN aL l≤1048576):So 285 [.a (.sl (.sl .u8) l)] [.a (.sl (.sl .u8) l)]:=by
 refine aF X call285 func285 ntmps285 rfl rfl ?_
 intro zb
 have mK:l.length≤1048576:=eF hs0
 refine av X [0] rfl (aO X [0,3] rfl (by and_intros<;>first|exact⟨⟩|exact rfl) (aa (av X [3,7,8,9] rfl ?_)))
 refine aB (aP (fun k=>k≤l.length) (fun k:Nat=> [(9, .one ((aI k)))]) (fun k=> [(6, .arr (.sl .u8) (l.take k))]) (fun k=>l.length-k) 0 (fun k=>rfl) (aE _) rfl ?_)
 intro k hk
 have hle:=cG l k
 refine av X [3,7,8,9,10] rfl ?_
 refine aa (an rfl ?_ ?_)<;>intro hb0
 ·try simp only[bG]at hb0
  have hs:=cB l k (aR (.sl .u8)) hb0
  have hel:=Pe hs0 k hb0
  refine au (aa (aB (aO X [3,5,7,8,9] rfl (by and_intros<;>first|exact⟨⟩| (intros;omega)) (bn X [(17,6)] [(15,⟨true,[.a (.sl .u8 _)]⟩)] [3,7,8,9] [] rfl (by(with_reducible and_intros)<;>first|exact⟨⟩|exact(dW _ (by first|assumption|omega| (simp;done)| (simp;omega)))|exact rfl| (simp only[gR,maxLen,lens];omega)) (bU X [3,7,8,9] rfl ?_)))))
  refine⟨k+1,by omega,by omega,?_⟩
  rw[bZ _ k rfl (by omega),hs]
  try rfl
 ·try simp only[bG]at hb0
  exact aW (av X [2] rfl (aq (aj rfl ⟨by rw[aD hb0],⟨⟩⟩)))
theorem vJ(l:List (List UInt8))(hs0:eN aL l≤1048576):So 244 [.a (.sl (.sl .u8) l)] [.a (.sl (.sl .u8) l)]:=by
 refine aF X call244 func244 ntmps244 rfl rfl ?_
 intro zb
 have mK:l.length≤1048576:=eF hs0
 refine av X [0] rfl (aO X [0,3] rfl (by and_intros<;>first|exact⟨⟩|exact rfl) (aa (av X [0,3,4] rfl ?_)))
 refine aB (aP (fun k=>k≤l.length) (fun k:Nat=> [(4, .one ((aI k)))]) (fun k=> [(5, .arr (.sl .u8) (l.take k))]) (fun k=>l.length-k) 0 (fun k=>rfl) (aE _) rfl ?_)
 intro k hk
 have hle:=cG l k
 refine aa (av X [0,3,4,9] rfl ?_)
 refine an rfl ?_ ?_<;>intro hb0
 ·try simp only[bG]at hb0
  have hs:=cB l k (aR (.sl .u8)) hb0
  have hel:=Pe hs0 k hb0
  refine au (aa (aB (bn X [(18,13),(20,5)] [] [0,3,4] [] rfl (by and_intros<;>first|exact⟨⟩| (intros;omega)|exact rfl| (simp only[gR,maxLen,lens];omega)) (bU X [0,3,4] rfl ?_))))
  refine⟨k+1,by omega,by omega,?_⟩
  rw[bZ _ k rfl (by omega),hs]
  try rfl
 ·try simp only[bG]at hb0
  exact aW (av X [2] rfl (aq (aj rfl ⟨by rw[aD hb0],⟨⟩⟩)))
theorem KM(s:Int)(l:List UInt8)(hl:l.length≤1048576):So 340 [aI s, .a (.sl .u8 l)] [.a (.sl .u8 (so s l))]:=by
 refine aF X call340 func340 ntmps340 rfl rfl ?_
 intro zb
 refine av X [0,1] rfl (aM X [] [(8,⟨true,[.a (.sl .u8 _)]⟩)] [0,5] [] rfl (by(with_reducible and_intros)<;>first|exact⟨⟩|exact(dW _ (by first|assumption|omega| (simp;done)| (simp;omega)))) (aa (av X [0,5,10,11] rfl ?_)))
 refine aB (aP (fun k=>k≤l.length) (fun k:Nat=> [(11, .one ((aI k)))]) (fun k=> [(8, .arr .u8 ((so s l).take k++l.drop k))]) (fun k=>l.length-k) 0 (fun k=>rfl) (aE _) rfl ?_)
 intro k hk
 have hle:=pg (so s l) l k (nB s l) hk
 refine av X [0,5,10,11,12] rfl ?_
 refine aa (an rfl ?_ ?_)<;>intro hb0
 ·try simp only[bG]at hb0
  have hs:=ZQ s l k hb0
  refine au (aa (aB (av X [0,5,6,10,11] rfl (aQ X [] [(21,⟨false,[aI _]⟩)] [0,5,10,11] [] 4095 0 MO (by kernel_rfl) rfl (by kernel_rfl) (by(repeat' with_reducible first|exact bH|refine bS ?_ ?_|apply bh)<;>first|exact(cI _ _ (by first|assumption|omega| (simp;done)| (simp;omega)))| (intros;omega)|exact⟨rfl,cE _ (by decide)⟩|exact(we _).1|exact(we _).2) ?_))))
  refine bU X [0,5,10,11] rfl ?_
  refine⟨k+1,by omega,by omega,?_⟩
  rw[bZ _ k rfl (by omega),hs]
  try rfl
 ·try simp only[bG]at hb0
  exact aW (av X [4] rfl (aq (aj rfl ⟨by rw[sR _ _ _ (nB s l) hb0],⟨⟩⟩)))
theorem KN(s:Int)(l:List UInt8)(hl:l.length≤1048576):So 399 [aI s, .a (.sl .u8 l)] [.a (.sl .u8 (decr s l))]:=by
 refine aF X call399 func399 ntmps399 rfl rfl ?_
 intro zb
 refine av X [0,1] rfl (aM X [] [(8,⟨true,[.a (.sl .u8 _)]⟩)] [0,5] [] rfl (by(with_reducible and_intros)<;>first|exact⟨⟩|exact(dW _ (by first|assumption|omega| (simp;done)| (simp;omega)))) (aa (av X [0,5,10,11] rfl ?_)))
 refine aB (aP (fun k=>k≤l.length) (fun k:Nat=> [(11, .one ((aI k)))]) (fun k=> [(8, .arr .u8 ((decr s l).take k++l.drop k))]) (fun k=>l.length-k) 0 (fun k=>rfl) (aE _) rfl ?_)
 intro k hk
 have hle:=pg (decr s l) l k (tK s l) hk
 refine av X [0,5,10,11,12] rfl ?_
 refine aa (an rfl ?_ ?_)<;>intro hb0
 ·try simp only[bG]at hb0
  have hs:=ZS s l k hb0
  refine au (aa (aB (av X [0,5,6,10,11] rfl (aQ X [] [(21,⟨false,[aI _]⟩)] [0,5,10,11] [] 4095 0 MO (by kernel_rfl) rfl (by kernel_rfl) (by(repeat' with_reducible first|exact bH|refine bS ?_ ?_|apply bh)<;>first|exact(cI _ _ (by first|assumption|omega| (simp;done)| (simp;omega)))| (intros;omega)|exact⟨rfl,cE _ (by decide)⟩|exact(we _).1|exact(we _).2) ?_))))
  refine bU X [0,5,10,11] rfl ?_
  refine⟨k+1,by omega,by omega,?_⟩
  rw[bZ _ k rfl (by omega),hs]
  try rfl
 ·try simp only[bG]at hb0
  exact aW (av X [4] rfl (aq (aj rfl ⟨by rw[sR _ _ _ (tK s l) hb0],⟨⟩⟩)))
theorem jR(k:Int):So 138 [aI k] [aU (jl k)]:=by
 refine aF X call138 func138 ntmps138 rfl rfl ?_
 intro zb
 exact av X [0] rfl (aM X [] [(4,⟨false,[aU _]⟩)] [2] [] rfl (by(with_reducible and_intros)<;>first|exact⟨⟩|exact(bl _ _ _)) (aq (aj rfl ⟨rfl,⟨⟩⟩)))
theorem sJ(p:Plain):So 338 [.agg (mH p)] [aU (nO p)]:=by
 refine aF X call338 func338 ntmps338 rfl rfl ?_
 intro zb
 exact av X [1] rfl (aM X [] [(5,⟨false,[aU _]⟩)] [2] [] rfl (by(with_reducible and_intros)<;>first|exact⟨⟩|exact(bl _ _ _)) (aq (aj rfl ⟨by unfold nO;cases inr p.kind 0 3<;>rfl,⟨⟩⟩)))
theorem GF(key c:Int)(l:List UInt8)(hl:l.length≤65536):So 380 [aI key,aI c, .a (.sl .u8 l)] [aI (tL key c l)]:=by
 refine aF X call380 func380 ntmps380 rfl rfl ?_
 intro zb
 refine av X [0,1,2] rfl (aO X [0,2,7] rfl (by and_intros<;>first|exact⟨⟩|exact rfl) (aa (av X [0,7,12,13,14] rfl ?_)))
 refine aB (aP (fun k=>k≤l.length) (fun k:Nat=> [(14, .one ((aI k)))]) (fun k=> [(11, .arr .int ([71,c]++(l.take k).map (fun x=>(x.toNat:Int))))]) (fun k=>l.length-k) 0 (fun k=>rfl) (aE _) rfl ?_)
 intro k hk
 refine av X [0,7,12,13,14,15] rfl ?_
 refine aa (an rfl ?_ ?_)<;>intro hb0
 ·try simp only[bG]at hb0
  have hs:=Xn l c k hb0
  refine au (aa (aB (aO X [0,7,9,12,13,14] rfl (by and_intros<;>first|exact⟨⟩| (intros;omega)) (bn X [(22,11)] [] [0,7,12,13,14] [] rfl (by and_intros<;>first|exact⟨⟩|exact rfl| (simp only[gR,maxLen,lens];omega)) (bU X [0,7,12,13,14] rfl ?_)))))
  refine⟨k+1,by omega,by omega,?_⟩
  rw[bZ _ k rfl (by omega),hs]
  try rfl
 ·try simp only[bG]at hb0
  exact aW (aM X [] [(26,⟨false,[aI _]⟩)] [6] [] rfl (by(with_reducible and_intros)<;>first|exact⟨⟩|exact(cI _ _ (by first|assumption|omega| (simp;done)| (simp;omega)))) (aq (aj rfl ⟨by rw[aD hb0];rfl,⟨⟩⟩)))
theorem lO(key r d n:Int):So 206 [aI key,aI r,aI d,aI n] [aI (jQ key r d n)]:=by
 refine aF X call206 func206 ntmps206 rfl rfl ?_
 intro zb
 refine av X [0,1,2,3] rfl (aa (aM X [] [(10,⟨false,[aU _]⟩),(14,⟨false,[aU _]⟩)] [0,1,2,3,16] [] rfl (by(with_reducible and_intros)<;>first|exact⟨⟩|exact(bl _ _ _)|exact fun _=>(bl _ _ _)) ?_))
 refine an rfl ?_ ?_<;>intro hb0
 ·try simp only[bG]at hb0
  exact av X [8] rfl (aq (aj rfl ⟨by rw[jQ,if_neg (by omega)],⟨⟩⟩))
 ·try simp only[bG]at hb0
  have hcs:=Ak (kh key [79,r,d]) 0
  refine au (aM X [] [(21,⟨false,[aI _]⟩),(22,⟨false,[aI _]⟩)] [8] [] rfl (by(repeat' with_reducible first|exact bH|refine bS ?_ ?_|apply bh);(iterate 2 all_goals try first|exact(cI _ _ (by first|assumption|omega| (simp;done)| (simp;omega)))|exact(qy _ _));all_goals first| (intros;omega)|exact⟨rfl,cE _ (by decide)⟩) ?_)
  exact aq (aj rfl ⟨by rw[jQ,if_pos (by omega),iP hcs.1],⟨⟩⟩)
theorem IZ(s r n:Int):So 367 [aI s,aI r,aI n] [aI (IY s r n)]:=by
 refine aF X call367 func367 ntmps367 rfl rfl ?_
 intro zb
 refine av X [0,1,2] rfl (aa (aM X [] [(8,⟨false,[aU _]⟩)] [0,1,2,9] [] rfl (by(with_reducible and_intros)<;>first|exact⟨⟩|exact(bl _ _ _)) ?_))
 refine an rfl ?_ ?_<;>intro hb0
 ·try simp only[bG]at hb0
  exact av X [6] rfl (aq (aj rfl ⟨by rw[IY,if_neg (by omega)],⟨⟩⟩))
 ·try simp only[bG]at hb0
  have hcs:=Ak (kh s [157,r]) 0
  refine au (aM X [] [(13,⟨false,[aI _]⟩),(14,⟨false,[aI _]⟩)] [6] [] rfl (by(repeat' with_reducible first|exact bH|refine bS ?_ ?_|apply bh);(iterate 2 all_goals try first|exact(cI _ _ (by first|assumption|omega| (simp;done)| (simp;omega)))|exact(qy _ _));all_goals first| (intros;omega)|exact⟨rfl,cE _ (by decide)⟩) ?_)
  exact aq (aj rfl ⟨by rw[IY,if_pos (by omega),iP hcs.1],⟨⟩⟩)
theorem GG(s:Int):So 368 [aI s] [.a (.sl .u8 (cover s))]:=by
 refine aF X call368 func368 ntmps368 rfl rfl ?_
 intro zb
 refine av X [0] rfl (aM X [] [(5,⟨false,[aI _]⟩),(6,⟨true,[.a (.sl .u8 _)]⟩)] [2] [] rfl (by(repeat' with_reducible first|exact bH|refine bS ?_ ?_|apply bh);(iterate 2 all_goals try first|exact(cI _ _ (by first|assumption|omega| (simp;done)| (simp;omega)))|exact(og _ _ (by first|assumption|omega| (simp;done)| (simp;omega)) (by first|assumption|omega| (simp;done)| (simp;omega))));all_goals first|exact⟨rfl,cE _ (by decide)⟩) ?_)
 exact aq (aj rfl ⟨rfl,⟨⟩⟩)
theorem KO(s:Int)(l:List UInt8)(hl:l.length≤1048576):So 305 [aI s, .a (.sl .u8 l)] [.a (.sl .u8 (so s l))]:=by
 refine aF X call305 func305 ntmps305 rfl rfl ?_
 intro zb
 refine av X [0,1] rfl (aO X [0,1,5] rfl (by and_intros<;>first|exact⟨⟩|exact rfl) (aa (av X [0,1,5,6] rfl ?_)))
 refine aB (aP (fun k=>k≤l.length) (fun k:Nat=> [(6, .one ((aI k)))]) (fun k=> [(7, .arr .u8 ((so s l).take k))]) (fun k=>l.length-k) 0 (fun k=>rfl) (aE _) rfl ?_)
 intro k hk
 have hle:=cG (so s l) k
 refine aa (av X [0,1,5,6,11] rfl ?_)
 refine an rfl ?_ ?_<;>intro hb0
 ·try simp only[bG]at hb0
  have hs:=ZR s l k hb0
  refine au (aa (aB (aQ X [(29,7)] [(23,⟨false,[aI _]⟩)] [0,1,5,6] [] 32767 0 MO (by kernel_rfl) rfl (by kernel_rfl) (by(repeat' with_reducible first|exact bH|refine bS ?_ ?_|apply bh)<;>first|exact(cJ _ _ (by first|assumption|omega| (simp;done)| (simp;omega)))| (intros;omega)|exact rfl|exact⟨rfl,cE _ (by decide)⟩|exact(we _).1|exact(we _).2| (simp only[gR,maxLen,lens];omega)) ?_)))
  refine bU X [0,1,5,6] rfl ?_
  refine⟨k+1,by omega,by omega,?_⟩
  rw[bZ _ k rfl (by omega),hs]
  try rfl
 ·try simp only[bG]at hb0
  exact aW (av X [4] rfl (aq (aj rfl ⟨by rw[aD (by rw[nB];exact hb0)],⟨⟩⟩)))
theorem KP(s:Int)(l:List UInt8)(hl:l.length≤1048576):So 410 [aI s, .a (.sl .u8 l)] [.a (.sl .u8 (decr s l))]:=by
 refine aF X call410 func410 ntmps410 rfl rfl ?_
 intro zb
 refine av X [0,1] rfl (aO X [0,1,5] rfl (by and_intros<;>first|exact⟨⟩|exact rfl) (aa (av X [0,1,5,6] rfl ?_)))
 refine aB (aP (fun k=>k≤l.length) (fun k:Nat=> [(6, .one ((aI k)))]) (fun k=> [(7, .arr .u8 ((decr s l).take k))]) (fun k=>l.length-k) 0 (fun k=>rfl) (aE _) rfl ?_)
 intro k hk
 have hle:=cG (decr s l) k
 refine aa (av X [0,1,5,6,11] rfl ?_)
 refine an rfl ?_ ?_<;>intro hb0
 ·try simp only[bG]at hb0
  have hs:=ZT s l k hb0
  refine au (aa (aB (aQ X [(29,7)] [(23,⟨false,[aI _]⟩),(26,⟨false,[aI _]⟩)] [0,1,5,6] [] 32767 0 MO (by kernel_rfl) rfl (by kernel_rfl) (by(repeat' with_reducible first|exact bH|refine bS ?_ ?_|apply bh);(iterate 2 all_goals try first|exact(cJ _ _ (by first|assumption|omega| (simp;done)| (simp;omega)))|exact(KL _ _ (by first|assumption|omega| (simp;done)| (simp;omega)) (by first|assumption|omega| (simp;done)| (simp;omega))));all_goals first| (intros;omega)|exact rfl|exact⟨rfl,cE _ (by decide)⟩|exact(we _).1|exact(we _).2| (simp only[gR,maxLen,lens];omega)) ?_)))
  refine bU X [0,1,5,6] rfl ?_
  refine⟨k+1,by omega,by omega,?_⟩
  rw[bZ _ k rfl (by omega),hs]
  try rfl
 ·try simp only[bG]at hb0
  exact aW (av X [4] rfl (aq (aj rfl ⟨by rw[aD (by rw[tK];exact hb0)],⟨⟩⟩)))
theorem lP(k:Int):So 102 [aI k] [aU (jl k)]:=by
 refine aF X call102 func102 ntmps102 rfl rfl ?_
 intro zb
 exact av X [0] rfl (aM X [] [(4,⟨false,[aU _]⟩)] [2] [] rfl (by(with_reducible and_intros)<;>first|exact⟨⟩|exact(bD _ _ _)) (aq (aj rfl ⟨rfl,⟨⟩⟩)))
theorem Ce(p:Plain):So 303 [.agg (mH p)] [aU (nO p)]:=by
 refine aF X call303 func303 ntmps303 rfl rfl ?_
 intro zb
 exact av X [1] rfl (aM X [] [(5,⟨false,[aU _]⟩)] [2] [] rfl (by(with_reducible and_intros)<;>first|exact⟨⟩|exact(bD _ _ _)) (aq (aj rfl ⟨by unfold nO;cases inr p.kind 0 3<;>rfl,⟨⟩⟩)))
theorem wm(key c:Int)(l:List UInt8)(hl:l.length≤65536):So 307 [aI key,aI c, .a (.sl .u8 l)] [aI (tL key c l)]:=by
 refine aF X call307 func307 ntmps307 rfl rfl ?_
 intro zb
 refine av X [0,1,2] rfl (aO X [0,2,7] rfl (by and_intros<;>first|exact⟨⟩|exact rfl) (aa (av X [0,2,7,8] rfl ?_)))
 refine aB (aP (fun k=>k≤l.length) (fun k:Nat=> [(8, .one ((aI k)))]) (fun k=> [(10, .arr .int ([71,c]++(l.take k).map (fun x=>(x.toNat:Int))))]) (fun k=>l.length-k) 0 (fun k=>rfl) (aE _) rfl ?_)
 intro k hk
 refine aa (av X [0,2,7,8,14] rfl ?_)
 refine an rfl ?_ ?_<;>intro hb0
 ·try simp only[bG]at hb0
  have hs:=Xn l c k hb0
  refine au (aa (aB (bn X [(24,10)] [] [0,2,7,8] [] rfl (by and_intros<;>first|exact⟨⟩| (intros;omega)|exact rfl| (simp only[gR,maxLen,lens];omega)) (bU X [0,2,7,8] rfl ?_))))
  refine⟨k+1,by omega,by omega,?_⟩
  rw[bZ _ k rfl (by omega),hs]
  try rfl
 ·try simp only[bG]at hb0
  exact aW (aM X [] [(27,⟨false,[aI _]⟩)] [6] [] rfl (by(with_reducible and_intros)<;>first|exact⟨⟩|exact(cJ _ _ (by first|assumption|omega| (simp;done)| (simp;omega)))) (aq (aj rfl ⟨by rw[aD hb0];rfl,⟨⟩⟩)))
theorem lQ(key r d n:Int):So 158 [aI key,aI r,aI d,aI n] [aI (jQ key r d n)]:=by
 refine aF X call158 func158 ntmps158 rfl rfl ?_
 intro zb
 refine av X [0,1,2,3] rfl (aa (aM X [] [(10,⟨false,[aU _]⟩),(14,⟨false,[aU _]⟩)] [0,1,2,3,16] [] rfl (by(with_reducible and_intros)<;>first|exact⟨⟩|exact(bD _ _ _)|exact fun _=>(bD _ _ _)) ?_))
 refine an rfl ?_ ?_<;>intro hb0
 ·try simp only[bG]at hb0
  exact av X [8] rfl (aq (aj rfl ⟨by rw[jQ,if_neg (by omega)],⟨⟩⟩))
 ·try simp only[bG]at hb0
  have hcs:=Ak (kh key [79,r,d]) 0
  refine au (aM X [] [(21,⟨false,[aI _]⟩),(22,⟨false,[aI _]⟩)] [8] [] rfl (by(repeat' with_reducible first|exact bH|refine bS ?_ ?_|apply bh);(iterate 2 all_goals try first|exact(cJ _ _ (by first|assumption|omega| (simp;done)| (simp;omega)))|exact(qz _ _));all_goals first| (intros;omega)|exact⟨rfl,cE _ (by decide)⟩) ?_)
  exact aq (aj rfl ⟨by rw[jQ,if_pos (by omega),iP hcs.1],⟨⟩⟩)
theorem I0(s r n:Int):So 402 [aI s,aI r,aI n] [aI (IY s r n)]:=by
 refine aF X call402 func402 ntmps402 rfl rfl ?_
 intro zb
 refine av X [0,1,2] rfl (aa (aM X [] [(8,⟨false,[aU _]⟩)] [0,1,2,9] [] rfl (by(with_reducible and_intros)<;>first|exact⟨⟩|exact(bD _ _ _)) ?_))
 refine an rfl ?_ ?_<;>intro hb0
 ·try simp only[bG]at hb0
  exact av X [6] rfl (aq (aj rfl ⟨by rw[IY,if_neg (by omega)],⟨⟩⟩))
 ·try simp only[bG]at hb0
  have hcs:=Ak (kh s [157,r]) 0
  refine au (aM X [] [(13,⟨false,[aI _]⟩),(14,⟨false,[aI _]⟩)] [6] [] rfl (by(repeat' with_reducible first|exact bH|refine bS ?_ ?_|apply bh);(iterate 2 all_goals try first|exact(cJ _ _ (by first|assumption|omega| (simp;done)| (simp;omega)))|exact(qz _ _));all_goals first| (intros;omega)|exact⟨rfl,cE _ (by decide)⟩) ?_)
  exact aq (aj rfl ⟨by rw[IY,if_pos (by omega),iP hcs.1],⟨⟩⟩)
theorem GH(s:Int):So 403 [aI s] [.a (.sl .u8 (cover s))]:=by
 refine aF X call403 func403 ntmps403 rfl rfl ?_
 intro zb
 refine av X [0] rfl (aM X [] [(5,⟨false,[aI _]⟩),(6,⟨true,[.a (.sl .u8 _)]⟩)] [2] [] rfl (by(repeat' with_reducible first|exact bH|refine bS ?_ ?_|apply bh);(iterate 2 all_goals try first|exact(cJ _ _ (by first|assumption|omega| (simp;done)| (simp;omega)))|exact(oo _ _ (by first|assumption|omega| (simp;done)| (simp;omega)) (by first|assumption|omega| (simp;done)| (simp;omega))));all_goals first|exact⟨rfl,cE _ (by decide)⟩) ?_)
 exact aq (aj rfl ⟨rfl,⟨⟩⟩)
theorem As(k c:Int):So 341 [aI k,aI c] [aI (tM k c)]:=by
 refine aF X call341 func341 ntmps341 rfl rfl ?_
 intro zb
 refine av X [0,1] rfl (aM X [] [(8,⟨false,[aI _]⟩),(9,⟨false,[aI _]⟩)] [4] [] rfl (by(repeat' with_reducible first|exact bH|refine bS ?_ ?_|apply bh);(iterate 2 all_goals try first|exact(cI _ _ (by first|assumption|omega| (simp;done)| (simp;omega)))|exact(pz _));all_goals first|exact⟨rfl,cE _ (by decide)⟩) ?_)
 exact aq (aj rfl ⟨rfl,⟨⟩⟩)
theorem mY(k c:Int):So 278 [aI k,aI c] [aI (xO k c)]:=by
 refine aF X call278 func278 ntmps278 rfl rfl ?_
 intro zb
 refine av X [0,1] rfl (aM X [] [(8,⟨false,[aI _]⟩),(9,⟨false,[aI _]⟩)] [4] [] rfl (by(repeat' with_reducible first|exact bH|refine bS ?_ ?_|apply bh);(iterate 2 all_goals try first|exact(cI _ _ (by first|assumption|omega| (simp;done)| (simp;omega)))|exact(pz _));all_goals first|exact⟨rfl,cE _ (by decide)⟩) ?_)
 exact aq (aj rfl ⟨rfl,⟨⟩⟩)
theorem wo(k c:Int):So 306 [aI k,aI c] [aI (tM k c)]:=by
 refine aF X call306 func306 ntmps306 rfl rfl ?_
 intro zb
 refine av X [0,1] rfl (aM X [] [(8,⟨false,[aI _]⟩),(9,⟨false,[aI _]⟩)] [4] [] rfl (by(repeat' with_reducible first|exact bH|refine bS ?_ ?_|apply bh);(iterate 2 all_goals try first|exact(cJ _ _ (by first|assumption|omega| (simp;done)| (simp;omega)))|exact(oc _ _));all_goals first|exact⟨rfl,cE _ (by decide)⟩) ?_)
 exact aq (aj rfl ⟨by rw[Jy (gB _ _).1];rfl,⟨⟩⟩)
theorem mZ(k c:Int):So 242 [aI k,aI c] [aI (xO k c)]:=by
 refine aF X call242 func242 ntmps242 rfl rfl ?_
 intro zb
 refine av X [0,1] rfl (aM X [] [(8,⟨false,[aI _]⟩),(9,⟨false,[aI _]⟩)] [4] [] rfl (by(repeat' with_reducible first|exact bH|refine bS ?_ ?_|apply bh);(iterate 2 all_goals try first|exact(cJ _ _ (by first|assumption|omega| (simp;done)| (simp;omega)))|exact(oc _ _));all_goals first|exact⟨rfl,cE _ (by decide)⟩) ?_)
 exact aq (aj rfl ⟨by rw[Jy (gB _ _).1];rfl,⟨⟩⟩)
theorem uS(k c:Int)(l:List UInt8)(hl:l.length≤65536):So 342 [aI k,aI c, .a (.sl .u8 l)] [.a (.sl .u8 (four (tL k c l)))]:=by
 refine aF X call342 func342 ntmps342 rfl rfl ?_
 intro zb
 exact av X [0,1,2] rfl (aM X [] [(11,⟨false,[aI _]⟩)] [7] [] rfl (by(with_reducible and_intros)<;>first|exact⟨⟩|exact(GF _ _ _ (by first|assumption|omega| (simp;done)| (simp;omega)))) (aO X [6] rfl (by and_intros<;>first|exact⟨⟩| (intros;omega)|exact rfl|exact(we _).1|exact(we _).2) (aq (aj rfl ⟨Xo _,⟨⟩⟩))))
end
section
set_option maxRecDepth 100000
theorem sr(l:List (List UInt8))(f:FuncId)(p:(List UInt8)→Bool)(hf: ∀b,So f [.a (.sl .u8 b)] [aU (p b)]):So 345 [.a (.sl (.sl .u8) l), .a (.lit (.func (.func f) #[] #[]))] [aI (fidx p l)]:=by
 refine aF X call345 func345 ntmps345 rfl rfl ?_
 intro zb
 refine eu 0 rfl (fun mK=>(av X [0,1] rfl (aa (av X [0,1,7,8] rfl ?_))))
 refine aB (aP (fun k=>k≤l.length∧(l.take k).any p=false) (fun k:Nat=> [(8, .one ((aI k)))]) (fun k=> []) (fun k=>l.length-k) 0 (fun k=>rfl) ⟨aE _,rfl⟩ rfl ?_)
 rintro k ⟨hk,hall⟩
 refine av X [0,1,7,8,9] rfl ?_
 refine aa (an rfl ?_ ?_)<;>intro hb0
 ·try simp only[bG]at hb0
  refine au (aa (aB (av X [0,1,5,7,8] rfl (aM X [] [(16,⟨false,[aU (p (l.getD k (aR (.sl .u8))))]⟩)] [0,1,5,7,8,16] [] rfl (by(with_reducible and_intros)<;>first|exact⟨⟩|exact(hf _)| (intros;omega)) ?_))))
  refine an rfl ?_ ?_<;>intro bM
  ·exact av X [4] rfl (aq (aj rfl ⟨by rw[Av (aR (.sl .u8)) hb0 hall bM],⟨⟩⟩))
  ·refine au (bU X [0,1,7,8] rfl ?_)
   refine⟨k+1,⟨by omega,xR (aR (.sl .u8)) hb0 hall bM⟩,by omega,?_⟩
   rw[bZ _ k rfl (by omega)]
   try rfl
 ·try simp only[bG]at hb0
  exact aW (av X [4] rfl (aq (aj rfl ⟨by rw[GI (by rw[←hall,aD hb0])],⟨⟩⟩)))
theorem ig(l:List (List UInt8))(f:FuncId)(p:(List UInt8)→Bool)(hf: ∀b,So f [.a (.sl .u8 b)] [aU (p b)]):So 286 [.a (.sl (.sl .u8) l), .a (.lit (.func (.func f) #[] #[]))] [aU (l.any p)]:=by
 refine aF X call286 func286 ntmps286 rfl rfl ?_
 intro zb
 exact av X [0,1] rfl (aM X [] [(7,⟨false,[aI (fidx p l)]⟩)] [4] [] rfl (by(with_reducible and_intros)<;>first|exact⟨⟩|exact(sr l f p hf)) (aq (aj rfl ⟨congrArg dO (Pg p l),⟨⟩⟩)))
theorem tO(l:List Int)(f:FuncId)(p:Int→Bool)(hf: ∀b,So f [aI b] [aU (p b)]):So 381 [.a (.sl .int l), .a (.lit (.func (.func f) #[] #[]))] [aI (fidx p l)]:=by
 refine aF X call381 func381 ntmps381 rfl rfl ?_
 intro zb
 refine eu 0 rfl (fun mK=>(av X [0,1] rfl (aa (av X [0,1,7,8] rfl ?_))))
 refine aB (aP (fun k=>k≤l.length∧(l.take k).any p=false) (fun k:Nat=> [(8, .one ((aI k)))]) (fun k=> []) (fun k=>l.length-k) 0 (fun k=>rfl) ⟨aE _,rfl⟩ rfl ?_)
 rintro k ⟨hk,hall⟩
 refine av X [0,1,7,8,9] rfl ?_
 refine aa (an rfl ?_ ?_)<;>intro hb0
 ·try simp only[bG]at hb0
  refine au (aa (aB (av X [0,1,5,7,8] rfl (aM X [] [(16,⟨false,[aU (p (l.getD k (aR .int)))]⟩)] [0,1,5,7,8,16] [] rfl (by(with_reducible and_intros)<;>first|exact⟨⟩|exact(hf _)| (intros;omega)) ?_))))
  refine an rfl ?_ ?_<;>intro bM
  ·exact av X [4] rfl (aq (aj rfl ⟨by rw[Av (aR .int) hb0 hall bM],⟨⟩⟩))
  ·refine au (bU X [0,1,7,8] rfl ?_)
   refine⟨k+1,⟨by omega,xR (aR .int) hb0 hall bM⟩,by omega,?_⟩
   rw[bZ _ k rfl (by omega)]
   try rfl
 ·try simp only[bG]at hb0
  exact aW (av X [4] rfl (aq (aj rfl ⟨by rw[GI (by rw[←hall,aD hb0])],⟨⟩⟩)))
theorem rD(l:List Int)(f:FuncId)(p:Int→Bool)(hf: ∀b,So f [aI b] [aU (p b)]):So 346 [.a (.sl .int l), .a (.lit (.func (.func f) #[] #[]))] [aU (l.any p)]:=by
 refine aF X call346 func346 ntmps346 rfl rfl ?_
 intro zb
 exact av X [0,1] rfl (aM X [] [(7,⟨false,[aI (fidx p l)]⟩)] [4] [] rfl (by(with_reducible and_intros)<;>first|exact⟨⟩|exact(tO l f p hf)) (aq (aj rfl ⟨congrArg dO (Pg p l),⟨⟩⟩)))
theorem vL(b:List UInt8):So 287 [.a (.sl .u8 b)] [aU (!decide ((b.length:Int)=24))]:=by
 refine aF X call287 func287 ntmps287 rfl rfl ?_
 intro zb
 exact av X [0] rfl (av X [2] rfl (aq (aj rfl ⟨(congrArg dO (by simp only[bC]<;>first|rfl|ac_rfl)),⟨⟩⟩)))
theorem gh(d:DB):So 220 [.agg (bQ d)] [aU (eZ d)]:=by
 refine aF X call220 func220 ntmps220 rfl rfl ?_
 intro zb
 exact av X [1] rfl (aM X [] [(10,⟨false,[aU (d.rows.any fun b=> !decide ((b.length:Int)=24))]⟩)] [2] [] rfl (by(with_reducible and_intros)<;>first|exact⟨⟩|exact fun _=>(ig _ _ _ vL)) (aq (aj rfl ⟨by unfold eZ;rw[Aw];by_cases h:(d.rows.length:Int)≤64<;>simp[h],⟨⟩⟩)))
theorem fk(d:DB):So 169 [.agg (bQ d)] [aU (eZ d)]:=by
 refine aF X call169 func169 ntmps169 rfl rfl ?_
 intro zb
 refine b7 0 0 rfl rfl (fun mK=>(av X [1] rfl (aa (av X [1,3] rfl ?_))))
 refine aB (aP (fun k=>k≤d.rows.length∧(d.rows.take k).all (fun r=>decide ((r.length:Int)=24))=true) (fun k:Nat=> [(3, .one ((aI k)))]) (fun k=> []) (fun k=>d.rows.length-k) 0 (fun k=>rfl) ⟨aE _,rfl⟩ rfl ?_)
 rintro k ⟨hk,hall⟩
 refine aa (av X [1,3,8] rfl ?_)
 refine an rfl ?_ ?_<;>intro hb0
 ·try simp only[bG]at hb0
  refine au (aa (aB (aO X [1,3,17] rfl (by and_intros<;>first|exact⟨⟩| (intros;omega)) ?_)))
  refine an rfl ?_ ?_<;>intro bM
  ·try simp only[bG]at bM
   exact av X [2] rfl (aq (aj rfl ⟨by unfold eZ;rw[KK _ _ (aR (.sl .u8)) k hb0 (by simpa using bM)];simp,⟨⟩⟩))
  ·try simp only[bG]at bM
   refine au (bU X [1,3] rfl ?_)
   refine⟨k+1,⟨by omega,by rw[An _ _ _ (aR (.sl .u8)) hb0,hall];simpa using bM⟩,by omega,?_⟩
   rw[bZ _ k rfl (by omega)]
   try rfl
 ·try simp only[bG]at hb0
  exact aW (av X [2] rfl (aq (aj rfl ⟨by rw[aD hb0]at hall;unfold eZ;rw[hall];simp,⟨⟩⟩)))
theorem qB(a:mD):So 137 [.agg (fK a)] [aI (gx a)]:=by
 refine aF X call137 func137 ntmps137 rfl rfl ?_
 intro zb
 refine b7 0 1 rfl rfl (fun mK=>(av X [1] rfl (aa (av X [1,6] rfl ?_))))
 refine an rfl ?_ ?_<;>intro hb0
 ·try simp only[bG]at hb0
  exact av X [2] rfl (aq (aj rfl ⟨by rw[gx,if_pos (by omega)],⟨⟩⟩))
 ·try simp only[bG]at hb0
  exact au (aO X [2] rfl (by and_intros<;>first|exact⟨⟩| ((try simp only[bG]at*);(simp(disch:=omega) only[dm]);omega)) (aq (aj rfl ⟨by rw[gx,if_neg (by omega),dm (by omega)];congr 4;omega,⟨⟩⟩)))
theorem qC(a:mD):So 101 [.agg (fK a)] [aI (gx a)]:=by
 refine aF X call101 func101 ntmps101 rfl rfl ?_
 intro zb
 refine b7 0 1 rfl rfl (fun mK=>(av X [1] rfl (aa (av X [1,6] rfl ?_))))
 refine an rfl ?_ ?_<;>intro hb0
 ·try simp only[bG]at hb0
  exact av X [2] rfl (aq (aj rfl ⟨by rw[gx,if_pos (by omega)],⟨⟩⟩))
 ·try simp only[bG]at hb0
  exact au (aO X [2] rfl (by and_intros<;>first|exact⟨⟩| ((try simp only[bG]at*);(simp(disch:=omega) only[dm]);omega)) (aq (aj rfl ⟨by rw[gx,if_neg (by omega),dm (by omega)];congr 4;omega,⟨⟩⟩)))
theorem fQ(s:cu):So 139 [.agg (dF s)] [aU (ec s)]:=by
 refine aF X call139 func139 ntmps139 rfl rfl ?_
 intro zb
 refine b7 0 3 rfl rfl (fun mK=>(av X [1] rfl (aa (aM X [] [(7,⟨false,[aU (inr s.id 0 3)]⟩),(12,⟨false,[aU (inr s.rows 1 64)]⟩),(18,⟨false,[aU (inr s.behavior 0 3)]⟩),(24,⟨false,[aU (inr s.round 0 100000)]⟩)] [1,32] [] rfl (by(with_reducible and_intros);(iterate 4 all_goals try first|exact⟨⟩|exact(bl s.id 0 3)|exact fun _=>(bl s.rows 1 64)|exact fun _=>(bl s.behavior 0 3)|exact fun _=>(bl s.round 0 100000))) ?_))))
 refine an rfl ?_ ?_<;>intro hb0
 ·exact av X [2] rfl (aq (aj rfl ⟨by rw[show ec s=false from aot hb0 (by simp only[Au,bC]<;>first|rfl|ac_rfl)],⟨⟩⟩))
 ·have hh:Au s=true:=cL hb0 (by simp only[Au,bC]<;>first|rfl|ac_rfl)
  refine au (aa (av X [1,34,35,36] rfl ?_))
  refine aB (aP (fun k=>k≤s.received.length∧(bT k).all (tN s.rows s.received)=true) (fun k:Nat=> [(36, .one ((aI k)))]) (fun k=> []) (fun k=>s.received.length-k) 0 (fun k=>rfl) ⟨aE _,rfl⟩ rfl ?_)
  rintro k ⟨hk,hall⟩
  have hw:(af.wrap ((k:Int)-1)).toNat=k-1:=by rw[dm (by omega)];omega
  refine av X [1,34,35,36,37] rfl ?_
  refine aa (an rfl ?_ ?_)<;>intro bM
  ·try simp only[bG]at bM
   refine au (aa (aB (aO X [1,3,4,34,35,36] rfl (by and_intros<;>first|exact⟨⟩| (intros;omega)) (aa (aQ X [] [(43,⟨false,[aU (inr ((s.received.getD k (aR .bJ)).client) 0 7)]⟩),(64,⟨false,[aU (eZ ((s.received.getD k (aR .bJ)).share))]⟩)] [1,34,35,36,75] [] 34359738367 0 MO (by kernel_rfl) rfl (by kernel_rfl) (by(with_reducible and_intros);(iterate 2 all_goals try first|exact⟨⟩|exact(bl ((s.received.getD k (aR .bJ)).client) 0 7)|exact fun _=>(gh ((s.received.getD k (aR .bJ)).share)));all_goals first| ((intro h1;first| (intro h2;first| (intro h3;refine bh ?_ ?_)|refine bh ?_ ?_)|refine bh ?_ ?_)<;>first|omega| ((try simp only[bG]at*);(try simp(disch:=omega) only[dm]);omega))) ?_)))))
   refine an rfl ?_ ?_<;>intro cS
   ·have hk2:tN s.rows s.received k=false:=cR cS (by simp only[hw,tN,bC]<;>first|rfl|ac_rfl)
    exact av X [2] rfl (aq (aj rfl ⟨by rw[show ec s=false by unfold ec;rw[nC bM hk2];simp],⟨⟩⟩))
   ·have hk2:tN s.rows s.received k=true:=cL cS (by simp only[hw,tN,bC]<;>first|rfl|ac_rfl)
    refine au (bU X [1,34,35,36] rfl ?_)
    refine⟨k+1,⟨by omega,lz hall hk2⟩,by omega,?_⟩
    rw[bZ _ k rfl (by omega)]
    try rfl
  ·try simp only[bG]at bM
   have rE:(bT s.received.length).all (tN s.rows s.received)=true:=by rw[show s.received.length=k by omega];exact hall
   exact aW (av X [2] rfl (aq (aj rfl ⟨by rw[show ec s=true by unfold ec;rw[hh,rE];rfl],⟨⟩⟩)))
theorem qc(a:mD):So 136 [.agg (fK a)] [aU (jz a)]:=by
 refine aF X call136 func136 ntmps136 rfl rfl ?_
 intro zb
 refine b7 0 1 rfl rfl (fun mK=>(av X [1] rfl (aa (av X [1,6,7,8] rfl ?_))))
 refine aB (aP (fun k=>k≤a.rounds.length∧(bT k).all (vK a.rows a.rounds)=true) (fun k:Nat=> [(8, .one ((aI k)))]) (fun k=> []) (fun k=>a.rounds.length-k) 0 (fun k=>rfl) ⟨aE _,rfl⟩ rfl ?_)
 rintro k ⟨hk,hall⟩
 have hw:(af.wrap ((k:Int)-1)).toNat=k-1:=by rw[dm (by omega)];omega
 refine av X [1,6,7,8,9] rfl ?_
 refine aa (an rfl ?_ ?_)<;>intro hb0
 ·try simp only[bG]at hb0
  refine au (aa (aB (aO X [1,3,4,6,7,8] rfl (by and_intros<;>first|exact⟨⟩| (intros;omega)) (aa ?_))))
  have t1:=(bl ((a.rounds.getD k (aR .aX)).round) 0 100000)
  refine aQ X [] [(15,⟨false,cx t1⟩),(36,⟨false,[aU (eZ ((a.rounds.getD k (aR .aX)).db))]⟩)] [1,6,7,8,47] [] 34359738367 0 MO (by kernel_rfl) rfl (by kernel_rfl) (by(with_reducible and_intros);(iterate 2 all_goals try first|exact⟨⟩|exact t1|exact fun _=>(gh ((a.rounds.getD k (aR .aX)).db)));all_goals first| ((intro h1;first| (intro h2;first| (intro h3;refine bh ?_ ?_)|refine bh ?_ ?_)|refine bh ?_ ?_)<;>first|omega| ((try simp only[bG]at*);(try simp(disch:=omega) only[dm]);omega))) ?_
  refine an rfl ?_ ?_<;>intro bM
  ·have hk2:vK a.rows a.rounds k=false:=cR bM (by simp only[hw,vK,bC]<;>first|rfl|ac_rfl)
   exact av X [2] rfl (aq (aj rfl ⟨by rw[show jz a=false by unfold jz;rw[nC hb0 hk2];simp],⟨⟩⟩))
  ·have hk2:vK a.rows a.rounds k=true:=cL bM (by simp only[hw,vK,bC]<;>first|rfl|ac_rfl)
   refine au (bU X [1,6,7,8] rfl ?_)
   refine⟨k+1,⟨by omega,lz hall hk2⟩,by omega,?_⟩
   rw[bZ _ k rfl (by omega)]
   try rfl
 ·try simp only[bG]at hb0
  have rE:(bT a.rounds.length).all (vK a.rows a.rounds)=true:=by rw[show a.rounds.length=k by omega];exact hall
  exact aW (aM X [] [(51,⟨false,[aU (inr a.rows 1 64)]⟩)] [2] [] rfl (by(with_reducible and_intros)<;>first|exact⟨⟩|exact(bl a.rows 1 64)) (aq (aj rfl ⟨(congrArg dO (by simp only[jz,KQ,rE,bC]<;>first|rfl|ac_rfl)),⟨⟩⟩)))
theorem fT(s:cu):So 167 [.agg (dF s)] [aU (ec s)]:=by
 refine aF X call167 func167 ntmps167 rfl rfl ?_
 intro zb
 refine b7 0 3 rfl rfl (fun mK=>(av X [1] rfl (aa (av X [1,3] rfl ?_))))
 refine aB (aP (fun k=>k≤s.received.length∧(bT k).all (tN s.rows s.received)=true) (fun k:Nat=> [(3, .one ((aI k)))]) (fun k=> []) (fun k=>s.received.length-k) 0 (fun k=>rfl) ⟨aE _,rfl⟩ rfl ?_)
 rintro k ⟨hk,hall⟩
 have hw:(af.wrap ((k:Int)-1)).toNat=k-1:=by rw[dm (by omega)];omega
 refine aa (av X [1,3,9] rfl ?_)
 refine an rfl ?_ ?_<;>intro hb0
 ·try simp only[bG]at hb0
  refine au (aa (aB (aO X [1,3,4] rfl (by and_intros<;>first|exact⟨⟩| (intros;omega)) (aa (aQ X [] [(19,⟨false,[aU (inr ((s.received.getD k (aR .bJ)).client) 0 7)]⟩),(40,⟨false,[aU (eZ ((s.received.getD k (aR .bJ)).share))]⟩)] [1,3,51] [] 34359738367 0 MO (by kernel_rfl) rfl (by kernel_rfl) (by(with_reducible and_intros);(iterate 2 all_goals try first|exact⟨⟩|exact(bD ((s.received.getD k (aR .bJ)).client) 0 7)|exact fun _=>(fk ((s.received.getD k (aR .bJ)).share)));all_goals first| ((intro h1;first| (intro h2;first| (intro h3;refine bh ?_ ?_)|refine bh ?_ ?_)|refine bh ?_ ?_)<;>first|omega| ((try simp only[bG]at*);(try simp(disch:=omega) only[dm]);omega))) ?_)))))
  refine an rfl ?_ ?_<;>intro bM
  ·have hk2:tN s.rows s.received k=false:=cR bM (by simp only[hw,tN,bC]<;>first|rfl|ac_rfl)
   exact av X [2] rfl (aq (aj rfl ⟨by rw[show ec s=false by unfold ec;rw[nC hb0 hk2];simp],⟨⟩⟩))
  ·have hk2:tN s.rows s.received k=true:=cL bM (by simp only[hw,tN,bC]<;>first|rfl|ac_rfl)
   refine au (bU X [1,3] rfl ?_)
   refine⟨k+1,⟨by omega,lz hall hk2⟩,by omega,?_⟩
   rw[bZ _ k rfl (by omega)]
   try rfl
 ·try simp only[bG]at hb0
  have rE:(bT s.received.length).all (tN s.rows s.received)=true:=by rw[show s.received.length=k by omega];exact hall
  exact aW (aM X [] [(54,⟨false,[aU (inr s.id 0 3)]⟩),(58,⟨false,[aU (inr s.rows 1 64)]⟩),(63,⟨false,[aU (inr s.behavior 0 3)]⟩),(68,⟨false,[aU (inr s.round 0 100000)]⟩)] [2] [] rfl (by(with_reducible and_intros);(iterate 4 all_goals try first|exact⟨⟩|exact(bD s.id 0 3)|exact fun _=>(bD s.rows 1 64)|exact fun _=>(bD s.behavior 0 3)|exact fun _=>(bD s.round 0 100000))) (aq (aj rfl ⟨(congrArg dO (by simp only[ec,Au,rE,bC]<;>first|rfl|ac_rfl)),⟨⟩⟩)))
theorem qd(a:mD):So 100 [.agg (fK a)] [aU (jz a)]:=by
 refine aF X call100 func100 ntmps100 rfl rfl ?_
 intro zb
 refine b7 0 1 rfl rfl (fun mK=>(av X [1] rfl (aa (av X [1,3] rfl ?_))))
 refine aB (aP (fun k=>k≤a.rounds.length∧(bT k).all (vK a.rows a.rounds)=true) (fun k:Nat=> [(3, .one ((aI k)))]) (fun k=> []) (fun k=>a.rounds.length-k) 0 (fun k=>rfl) ⟨aE _,rfl⟩ rfl ?_)
 rintro k ⟨hk,hall⟩
 have hw:(af.wrap ((k:Int)-1)).toNat=k-1:=by rw[dm (by omega)];omega
 refine aa (av X [1,3,9] rfl ?_)
 refine an rfl ?_ ?_<;>intro hb0
 ·try simp only[bG]at hb0
  refine au (aa (aB (aO X [1,3,4] rfl (by and_intros<;>first|exact⟨⟩| (intros;omega)) (aa ?_))))
  have t1:=(bD ((a.rounds.getD k (aR .aX)).round) 0 100000)
  refine aQ X [] [(19,⟨false,cx t1⟩),(40,⟨false,[aU (eZ ((a.rounds.getD k (aR .aX)).db))]⟩)] [1,3,51] [] 34359738367 0 MO (by kernel_rfl) rfl (by kernel_rfl) (by(with_reducible and_intros);(iterate 2 all_goals try first|exact⟨⟩|exact t1|exact fun _=>(fk ((a.rounds.getD k (aR .aX)).db)));all_goals first| ((intro h1;first| (intro h2;first| (intro h3;refine bh ?_ ?_)|refine bh ?_ ?_)|refine bh ?_ ?_)<;>first|omega| ((try simp only[bG]at*);(try simp(disch:=omega) only[dm]);omega))) ?_
  refine an rfl ?_ ?_<;>intro bM
  ·have hk2:vK a.rows a.rounds k=false:=cR bM (by simp only[hw,vK,bC]<;>first|rfl|ac_rfl)
   exact av X [2] rfl (aq (aj rfl ⟨by rw[show jz a=false by unfold jz;rw[nC hb0 hk2];simp],⟨⟩⟩))
  ·have hk2:vK a.rows a.rounds k=true:=cL bM (by simp only[hw,vK,bC]<;>first|rfl|ac_rfl)
   refine au (bU X [1,3] rfl ?_)
   refine⟨k+1,⟨by omega,lz hall hk2⟩,by omega,?_⟩
   rw[bZ _ k rfl (by omega)]
   try rfl
 ·try simp only[bG]at hb0
  have rE:(bT a.rounds.length).all (vK a.rows a.rounds)=true:=by rw[show a.rounds.length=k by omega];exact hall
  exact aW (aM X [] [(54,⟨false,[aU (inr a.rows 1 64)]⟩)] [2] [] rfl (by(with_reducible and_intros)<;>first|exact⟨⟩|exact(bD a.rows 1 64)) (aq (aj rfl ⟨(congrArg dO (by simp only[jz,KQ,rE,bC]<;>first|rfl|ac_rfl)),⟨⟩⟩)))
theorem Ij(a:List UInt8):(bP a).toList=a:=by
 rw[ByteArray.toList_eq];rfl
theorem lR(a b:List UInt8):So 161 [.a (.sl .u8 a), .a (.sl .u8 b)] [aU (a==b)]:=by
 refine aF X call161 func161 ntmps161 rfl rfl ?_
 intro zb
 exact av X [0,1] rfl (av X [4] rfl (aq (aj rfl ⟨by rw[Ij,Ij],⟨⟩⟩)))
theorem nD(a b:List UInt8):So 276 [.a (.sl .u8 a), .a (.sl .u8 b)] [aU (a==b)]:=by
 refine aF X call276 func276 ntmps276 rfl rfl ?_
 intro zb
 refine eu 0 rfl (fun hl1=> ?_)
 refine eu 1 rfl (fun qS=>(av X [0,1] rfl (aa (av X [0,1,10] rfl ?_))))
 refine an rfl ?_ ?_<;>intro hb0
 ·try simp only[bG]at hb0
  exact av X [4] rfl (aq (aj rfl ⟨by rw[Gz a b hb0],⟨⟩⟩))
 ·try simp only[bG]at hb0
  refine au (aa (av X [0,1,12,13] rfl ?_))
  refine aB (aP (fun k=>k≤a.length∧a.take k=b.take k) (fun k:Nat=> [(13, .one ((aI k)))]) (fun k=> []) (fun k=>a.length-k) 0 (fun k=>rfl) ⟨aE _,rfl⟩ rfl ?_)
  rintro k ⟨hk,hall⟩
  refine av X [0,1,12,13,14] rfl ?_
  refine aa (an rfl ?_ ?_)<;>intro bM
  ·try simp only[bG]at bM
   refine au (aa (aB (av X [0,1,5,12,13] rfl (aa (aQ X [] [] [0,1,12,13,24] [] 511 0 MO (by kernel_rfl) rfl (by kernel_rfl) (by and_intros<;>first|exact⟨⟩| (intros;omega)) ?_)))))
   refine an rfl ?_ ?_<;>intro cS
   ·try simp only[bG]at cS
    have hne:=Dc a b (aR .u8) k (fun h=>cS (by rw[h]))
    exact av X [4] rfl (aq (aj rfl ⟨by rw[hne],⟨⟩⟩))
   ·try simp only[bG]at cS
    have he:a.getD k (aR .u8)=b.getD k (aR .u8):=acW cS
    refine au (bU X [0,1,12,13] rfl ?_)
    refine⟨k+1,⟨by omega,xL a b (aR .u8) k bM (by omega) hall he⟩,by omega,?_⟩
    rw[bZ _ k rfl (by omega)]
    try rfl
  ·try simp only[bG]at bM
   exact aW (av X [4] rfl (aq (aj rfl ⟨by rw[Dd a b k (by omega) (by omega) hall],⟨⟩⟩)))
theorem lS(a b:List (List UInt8)):So 157 [.a (.sl (.sl .u8) a), .a (.sl (.sl .u8) b)] [aU (a==b)]:=by
 refine aF X call157 func157 ntmps157 rfl rfl ?_
 intro zb
 refine eu 0 rfl (fun hl1=> ?_)
 refine eu 1 rfl (fun qS=>(av X [0,1] rfl (aa (av X [0,1,10] rfl ?_))))
 refine an rfl ?_ ?_<;>intro hb0
 ·try simp only[bG]at hb0
  exact av X [4] rfl (aq (aj rfl ⟨by rw[Gz a b hb0],⟨⟩⟩))
 ·try simp only[bG]at hb0
  refine au (aa (av X [0,1,5] rfl ?_))
  refine aB (aP (fun k=>k≤a.length∧a.take k=b.take k) (fun k:Nat=> [(5, .one ((aI k)))]) (fun k=> []) (fun k=>a.length-k) 0 (fun k=>rfl) ⟨aE _,rfl⟩ rfl ?_)
  rintro k ⟨hk,hall⟩
  refine aa (av X [0,1,5,14] rfl ?_)
  refine an rfl ?_ ?_<;>intro bM
  ·try simp only[bG]at bM
   refine au (aa (aB (aa (aQ X [] [(25,⟨false,[aU _]⟩)] [0,1,5,26] [] 1023 0 MO (by kernel_rfl) rfl (by kernel_rfl) (by(with_reducible and_intros)<;>first|exact⟨⟩|exact(lR _ _)| (intros;omega)) ?_))))
   refine an rfl ?_ ?_<;>intro cS
   ·try simp only[bG]at cS
    have hne:=Dc a b (aR (.sl .u8)) k (fun h=>cS (by rw[h]))
    exact av X [4] rfl (aq (aj rfl ⟨by rw[hne],⟨⟩⟩))
   ·try simp only[bG]at cS
    have he:a.getD k (aR (.sl .u8))=b.getD k (aR (.sl .u8)):=cS
    refine au (bU X [0,1,5] rfl ?_)
    refine⟨k+1,⟨by omega,xL a b (aR (.sl .u8)) k bM (by omega) hall he⟩,by omega,?_⟩
    rw[bZ _ k rfl (by omega)]
    try rfl
  ·try simp only[bG]at bM
   exact aW (av X [4] rfl (aq (aj rfl ⟨by rw[Dd a b k (by omega) (by omega) hall],⟨⟩⟩)))
theorem lT(a b:List UInt8):So 208 [.a (.sl .u8 a), .a (.sl .u8 b)] [aU (a==b)]:=by
 refine aF X call208 func208 ntmps208 rfl rfl ?_
 intro zb
 exact av X [0,1] rfl (aM X [] [(7,⟨false,[aU _]⟩)] [4] [] rfl (by(with_reducible and_intros)<;>first|exact⟨⟩|exact(nD _ _)) (aq (aj rfl ⟨rfl,⟨⟩⟩)))
theorem mh(a b:List (List UInt8)):So 337 [.a (.sl (.sl .u8) a), .a (.sl (.sl .u8) b), .a (.lit (.func (.func 208) #[] #[]))] [aU (a==b)]:=by
 refine aF X call337 func337 ntmps337 rfl rfl ?_
 intro zb
 refine eu 0 rfl (fun hl1=> ?_)
 refine eu 1 rfl (fun qS=>(av X [0,1,2] rfl (aa (av X [0,1,2,14] rfl ?_))))
 refine an rfl ?_ ?_<;>intro hb0
 ·try simp only[bG]at hb0
  exact av X [6] rfl (aq (aj rfl ⟨by rw[Gz a b hb0],⟨⟩⟩))
 ·try simp only[bG]at hb0
  refine au (aa (av X [1,2,15,16,17] rfl ?_))
  refine aB (aP (fun k=>k≤a.length∧a.take k=b.take k) (fun k:Nat=> [(17, .one ((aI k)))]) (fun k=> []) (fun k=>a.length-k) 0 (fun k=>rfl) ⟨aE _,rfl⟩ rfl ?_)
  rintro k ⟨hk,hall⟩
  refine av X [1,2,15,16,17,18] rfl ?_
  refine aa (an rfl ?_ ?_)<;>intro bM
  ·try simp only[bG]at bM
   refine au (aa (aB (aO X [1,2,7,8,15,16,17] rfl (by and_intros<;>first|exact⟨⟩| (intros;omega)) (aO X [1,2,8,9,15,16,17] rfl (by and_intros<;>first|exact⟨⟩| (intros;omega)) (aM X [] [(29,⟨false,[aU (a.getD k (aR (.sl .u8))==b.getD k (aR (.sl .u8)))]⟩)] [1,2,15,16,17,30] [] rfl (by(with_reducible and_intros)<;>first|exact⟨⟩|exact(lT _ _)) ?_)))))
   refine an rfl ?_ ?_<;>intro cS
   ·try simp only[bG]at cS
    have hne:=Dc a b (aR (.sl .u8)) k (fun h=>cS (by rw[h]))
    exact av X [6] rfl (aq (aj rfl ⟨by rw[hne],⟨⟩⟩))
   ·try simp only[bG]at cS
    have he:a.getD k (aR (.sl .u8))=b.getD k (aR (.sl .u8)):=cS
    refine au (bU X [1,2,15,16,17] rfl ?_)
    refine⟨k+1,⟨by omega,xL a b (aR (.sl .u8)) k bM (by omega) hall he⟩,by omega,?_⟩
    rw[bZ _ k rfl (by omega)]
    try rfl
  ·try simp only[bG]at bM
   exact aW (av X [6] rfl (aq (aj rfl ⟨by rw[Dd a b k (by omega) (by omega) hall],⟨⟩⟩)))
theorem pF(a b:List (List UInt8)):So 273 [.a (.sl (.sl .u8) a), .a (.sl (.sl .u8) b)] [aU (a==b)]:=by
 refine aF X call273 func273 ntmps273 rfl rfl ?_
 intro zb
 exact av X [0,1] rfl (aM X [] [(7,⟨false,[aU _]⟩)] [4] [] rfl (by(with_reducible and_intros)<;>first|exact⟨⟩|exact(mh _ _)) (aq (aj rfl ⟨rfl,⟨⟩⟩)))
theorem xS(b:List UInt8):So 288 [.a (.sl .u8 b)] [aU (long b)]:=by
 refine aF X call288 func288 ntmps288 rfl rfl ?_
 intro zb
 exact av X [0] rfl (av X [2] rfl (aq (aj rfl ⟨rfl,⟨⟩⟩)))
theorem ff(n:Int):So 129 [aI n] [aU (dG n)]:=by
 refine aF X call129 func129 ntmps129 rfl rfl ?_
 intro zb
 exact av X [0] rfl (aM X [] [(4,⟨false,[aU _]⟩)] [2] [] rfl (by(with_reducible and_intros)<;>first|exact⟨⟩|exact(bl _ _ _)) (aq (aj rfl ⟨rfl,⟨⟩⟩)))
theorem iQ(n:Int):So 92 [aI n] [aU (dG n)]:=by
 refine aF X call92 func92 ntmps92 rfl rfl ?_
 intro zb
 exact av X [0] rfl (aM X [] [(4,⟨false,[aU _]⟩)] [2] [] rfl (by(with_reducible and_intros)<;>first|exact⟨⟩|exact(bD _ _ _)) (aq (aj rfl ⟨rfl,⟨⟩⟩)))
theorem gL(c:gI):So 221 [.agg (cM c)] [aU (ga c)]:=by
 refine aF X call221 func221 ntmps221 rfl rfl ?_
 intro zb
 exact av X [1] rfl (av X [1,3] rfl (aM X [] [(6,⟨false,[aU (inr c.id 0 7)]⟩),(10,⟨false,[aU (inr c.fJ 0 7)]⟩),(22,⟨false,[aU (jl c.key)]⟩),(40,⟨false,[aU (c.bp.any long)]⟩),(47,⟨false,[aU (c.inbox.any long)]⟩),(56,⟨false,[aU (inr c.sent 0 (c.bp.length:Int))]⟩),(61,⟨false,[aU (inr c.next 0 100000)]⟩)] [2] [] rfl (by(with_reducible and_intros);(iterate 7 all_goals try first|exact⟨⟩|exact(bl c.id 0 7)|exact fun _=>(bl c.fJ 0 7)|exact fun _=>(jR c.key)|exact fun _=>(ig _ _ _ xS)|exact fun _=>(bl c.sent 0 (c.bp.length:Int))|exact fun _=>(bl c.next 0 100000))) (aq (aj rfl ⟨(congrArg dO (by simp only[ga,bC]<;>first|rfl|ac_rfl)),⟨⟩⟩))))
theorem Ey(i f k:Int):So 166 [aI i,aI f,aI k] [aU (inr i 0 7&&inr f 0 7&& !(i==f)&&jl k)]:=by
 refine aF X call166 func166 ntmps166 rfl rfl ?_
 intro zb
 exact av X [0,1,2] rfl (aM X [] [(8,⟨false,[aU (inr i 0 7)]⟩),(11,⟨false,[aU (inr f 0 7)]⟩),(20,⟨false,[aU (jl k)]⟩)] [6] [] rfl (by(with_reducible and_intros);(iterate 3 all_goals try first|exact⟨⟩|exact(bD i 0 7)|exact fun _=>(bD f 0 7)|exact fun _=>(lP k))) (aq (aj rfl ⟨(congrArg dO (by simp only[bC]<;>first|rfl|ac_rfl)),⟨⟩⟩)))
theorem wq(l:List (List UInt8)):So 308 [.a (.sl (.sl .u8) l)] [aU (decide ((l.length:Int)≤16)&& !l.any long)]:=by
 refine aF X call308 func308 ntmps308 rfl rfl ?_
 intro zb
 refine eu 0 rfl (fun mK=>(av X [0] rfl (aa (av X [0,3] rfl ?_))))
 refine aB (aP (fun k=>k≤l.length∧(l.take k).any long=false) (fun k:Nat=> [(3, .one ((aI k)))]) (fun k=> []) (fun k=>l.length-k) 0 (fun k=>rfl) ⟨aE _,rfl⟩ rfl ?_)
 rintro k ⟨hk,hall⟩
 refine aa (av X [0,3,7] rfl ?_)
 refine an rfl ?_ ?_<;>intro hb0
 ·try simp only[bG]at hb0
  refine au (aa (aB (aO X [0,3,15] rfl (by and_intros<;>first|exact⟨⟩| (intros;omega)) ?_)))
  refine an rfl ?_ ?_<;>intro bM
  ·exact av X [2] rfl (aq (aj rfl ⟨by rw[Ew l long (aR (.sl .u8)) k hb0 bM];simp,⟨⟩⟩))
  ·refine au (bU X [0,3] rfl ?_)
   refine⟨k+1,⟨by omega,xR (aR (.sl .u8)) hb0 hall bM⟩,by omega,?_⟩
   rw[bZ _ k rfl (by omega)]
   try rfl
 ·try simp only[bG]at hb0
  have rE:l.any long=false:=by rw[←hall,aD hb0]
  exact aW (av X [2] rfl (aq (aj rfl ⟨by rw[rE];simp,⟨⟩⟩)))
theorem gM(c:gI):So 245 [.agg (cM c)] [aU (ga c)]:=by
 refine aF X call245 func245 ntmps245 rfl rfl ?_
 intro zb
 refine av X [1] rfl (aa ?_)
 have t1:=(Ey c.id c.fJ c.key)
 have t2:=(wq c.bp)
 have t3:=(wq c.inbox)
 exact bn X [] [(9,⟨false,cx t1⟩),(13,⟨false,cx t2⟩),(18,⟨false,cx t3⟩),(26,⟨false,[aU (inr c.sent 0 (c.bp.length:Int))]⟩),(31,⟨false,[aU (inr c.next 0 100000)]⟩)] [2] [] rfl (by(with_reducible and_intros);(iterate 5 all_goals try first|exact⟨⟩|exact t1|exact fun _=>t2|exact fun _=>t3|exact fun _=>(bD c.sent 0 (c.bp.length:Int))|exact fun _=>(bD c.next 0 100000))) (aq (aj rfl ⟨(congrArg dO (by simp only[ga,bC]<;>first|rfl|ac_rfl)),⟨⟩⟩))
theorem GJ(a b:gI):So 222 [.agg (cM a), .agg (cM b)] [aU (pE a b)]:=by
 refine aF X call222 func222 ntmps222 rfl rfl ?_
 intro zb
 exact av X [2,3] rfl (aM X [] [(36,⟨false,[aU (a.bp==b.bp)]⟩)] [4] [] rfl (by(with_reducible and_intros)<;>first|exact⟨⟩|exact fun _=>(pF a.bp b.bp)) (aq (aj rfl ⟨(congrArg dO (by simp only[pE,bC]<;>first|rfl|ac_rfl)),⟨⟩⟩)))
theorem su(a b:List (List UInt8)):So 204 [.a (.sl (.sl .u8) a), .a (.sl (.sl .u8) b)] [aU (Cf a b)]:=by
 refine aF X call204 func204 ntmps204 rfl rfl ?_
 intro zb
 refine av X [0,1] rfl (aa ?_)
 have t1:=(pF a ((b.take (a.length:Int).toNat).drop (0:Int).toNat))
 refine bn X [] [(16,⟨false,cx t1⟩)] [4] [] rfl (by(with_reducible and_intros)<;>first|exact⟨⟩|exact fun _=>t1| ((intro h1;first| (intro h2;first| (intro h3;refine bh ?_ ?_)|refine bh ?_ ?_)|refine bh ?_ ?_)<;>first|omega| ((try simp only[bG]at*);(try simp(disch:=omega) only[dm]);omega))) ?_
 exact aq (aj rfl ⟨(congrArg dO (by simp only[Cf,iE,lB,bC]<;>first|rfl|ac_rfl)),⟨⟩⟩)
theorem gN(d:bR):So 140 [.agg (dj d)] [aU (fu d)]:=by
 refine aF X call140 func140 ntmps140 rfl rfl ?_
 intro zb
 exact av X [1] rfl (aM X [] [(5,⟨false,[aU (ga d.live)]⟩),(9,⟨false,[aU (ga d.saved)]⟩),(16,⟨false,[aU (pE d.live d.saved)]⟩),(43,⟨false,[aU (Cf d.saved.inbox d.live.inbox)]⟩)] [2] [] rfl (by(with_reducible and_intros);(iterate 4 all_goals try first|exact⟨⟩|exact(gL d.live)|exact fun _=>(gL d.saved)|exact fun _=>(GJ d.live d.saved)|exact fun _=>(su d.saved.inbox d.live.inbox))) (aq (aj rfl ⟨(congrArg dO (by simp only[fu,bC]<;>first|rfl|ac_rfl)),⟨⟩⟩)))
theorem gO(d:bR):So 168 [.agg (dj d)] [aU (fu d)]:=by
 refine aF X call168 func168 ntmps168 rfl rfl ?_
 intro zb
 refine av X [1] rfl (av X [1,3] rfl (av X [3,4] rfl (aa (aM X [] [(10,⟨false,[aU (ga d.live)]⟩),(14,⟨false,[aU (ga d.saved)]⟩),(50,⟨false,[aU (d.live.bp==d.saved.bp)]⟩)] [3,4,52] [] rfl (by(with_reducible and_intros);(iterate 3 all_goals try first|exact⟨⟩|exact(gM d.live)|exact fun _=>(gM d.saved)|exact fun _=>(lS d.live.bp d.saved.bp))) ?_))))
 refine an rfl ?_ ?_<;>intro hb0
 ·exact av X [2] rfl (aq (aj rfl ⟨by rw[show fu d=false from by rw[fu,cR (R:=ga d.live&&ga d.saved&&pE d.live d.saved) hb0 (by simp only[pE,bC]<;>first|rfl|ac_rfl)];rfl],⟨⟩⟩))
 ·have hh:(ga d.live&&ga d.saved&&pE d.live d.saved)=true:=cL hb0 (by simp only[pE,bC]<;>first|rfl|ac_rfl)
  refine au (aa ?_)
  have t1:=(lS d.saved.inbox ((d.live.inbox.take (d.saved.inbox.length:Int).toNat).drop (0:Int).toNat))
  refine aQ X [] [(83,⟨false,cx t1⟩)] [2] [] 8589934591 0 MO (by kernel_rfl) rfl (by kernel_rfl) (by(with_reducible and_intros)<;>first|exact⟨⟩|exact fun _=>t1| ((intro h1;first| (intro h2;first| (intro h3;refine bh ?_ ?_)|refine bh ?_ ?_)|refine bh ?_ ?_)<;>first|omega| ((try simp only[bG]at*);(try simp(disch:=omega) only[dm]);omega))) ?_
  exact aq (aj rfl ⟨(congrArg dO (by simp only[fu,hh,Cf,iE,lB,bC]<;>first|rfl|ac_rfl)),⟨⟩⟩)
end
section
set_option maxRecDepth 100000
theorem dy(x:bN):So 73 [.agg (bw x)] [aU (okW x)]:=by
 refine aF X call73 func73 ntmps73 rfl rfl ?_
 intro zb
 refine b7 0 1 rfl rfl (fun hl1=> ?_)
 refine b7 0 2 rfl rfl (fun qS=>(av X [1] rfl (aa (aa (aQ X [] [(10,⟨false,[aU (inr x.rows 1 64)]⟩),(16,⟨false,[aU (dG (x.aG.length:Int))]⟩),(23,⟨false,[aU (inr (x.ah.length:Int) 2 8)]⟩),(36,⟨false,[aU (jz x.aK)]⟩),(50,⟨false,[aI (gx x.aK)]⟩),(58,⟨false,[aU (jl x.ck)]⟩),(64,⟨false,[aU (inr x.round 0 100000)]⟩)] [1,71] [] 18446744073709551615 0 MO (by kernel_rfl) rfl (by kernel_rfl) (by(with_reducible and_intros);(iterate 7 all_goals try first|exact⟨⟩|exact(bl x.rows 1 64)|exact fun _=>(ff (x.aG.length:Int))|exact fun _=>(bl (x.ah.length:Int) 2 8)|exact fun _=>(qc x.aK)|exact fun _=>(qB x.aK)|exact fun _=>(jR x.ck)|exact fun _=>(bl x.round 0 100000));all_goals first| (refine fun _=> ?_;dsimp only[hyps,QZ];omega)) ?_)))))
 refine an rfl ?_ ?_<;>intro hb0
 ·exact av X [2] rfl (aq (aj rfl ⟨by rw[show okW x=false from by rw[okW,cR (R:=R5 x) hb0 (by simp only[R5,bC]<;>first|rfl|ac_rfl)];rfl],⟨⟩⟩))
 ·have hh:R5 x=true:=cL hb0 (by simp only[R5,bC]<;>first|rfl|ac_rfl)
  obtain⟨hev,hd8,_⟩:=xT hh
  refine au (aa (av X [1,73,74,75] rfl ?_))
  refine aB (aP (fun k=>k≤x.aG.length∧(bT k).all (Mv x)=true) (fun k:Nat=> [(75, .one ((aI k)))]) (fun k=> []) (fun k=>x.aG.length-k) 0 (fun k=>rfl) ⟨aE _,rfl⟩ rfl ?_)
  rintro k ⟨hk,hall⟩
  refine av X [1,73,74,75,76] rfl ?_
  refine aa (an rfl ?_ ?_)<;>intro bM
  ·try simp only[bG]at bM
   refine au (aa (aB (aO X [1,3,4,73,74,75] rfl (by and_intros<;>first|exact⟨⟩| (intros;omega)) (aM X [] [(81,⟨false,[aU (ec (x.aG.getD k (aR .cu)))]⟩)] [1,73,74,75,108] [] rfl (by(with_reducible and_intros)<;>first|exact⟨⟩|exact(fQ (x.aG.getD k (aR .cu)))) ?_))))
   refine an rfl ?_ ?_<;>intro cS
   ·have hk2:Mv x k=false:=cR cS (by simp only[Mv,bC]<;>first|rfl|ac_rfl)
    exact av X [2] rfl (aq (aj rfl ⟨by rw[show okW x=false from by rw[okW,nC bM hk2];simp],⟨⟩⟩))
   ·have hk2:Mv x k=true:=cL cS (by simp only[Mv,bC]<;>first|rfl|ac_rfl)
    refine au (bU X [1,73,74,75] rfl ?_)
    refine⟨k+1,⟨by omega,lz hall hk2⟩,by omega,?_⟩
    rw[bZ _ k rfl (by omega)]
    try rfl
  ·try simp only[bG]at bM
   have rE:(bT x.aG.length).all (Mv x)=true:=by rw[show x.aG.length=k by omega];exact hall
   refine aW (aa (av X [1,111,112,113] rfl ?_))
   refine aB (aP (fun k1=>k1≤x.ah.length∧(bT k1).all (okD x)=true) (fun k1:Nat=> [(113, .one ((aI k1)))]) (fun k1=> []) (fun k1=>x.ah.length-k1) 0 (fun k1=>rfl) ⟨aE _,rfl⟩ rfl ?_)
   rintro k1 ⟨hk1,ajG⟩
   refine av X [1,111,112,113,114] rfl ?_
   refine aa (an rfl ?_ ?_)<;>intro iZ
   ·try simp only[bG]at iZ
    have hx:=I1 k1 (by omega)
    have hlt:=Ax k1 x.ah.length iZ hev
    refine au (aa (aB (aO X [1,5,6,111,112,113] rfl (by and_intros<;>first|exact⟨⟩| (intros;omega)) (av X [1,5,6,7,111,112,113] rfl (aa (aQ X [] [(121,⟨false,[aU (fu (x.ah.getD k1 (aR .bR)))]⟩)] [1,111,112,113,155] [] 68719476735 0 MO (by kernel_rfl) rfl (by kernel_rfl) (by(with_reducible and_intros)<;>first|exact⟨⟩|exact(gN (x.ah.getD k1 (aR .bR)))| ((intro h1;first| (intro h2;first| (intro h3;refine bh ?_ ?_)|refine bh ?_ ?_)|refine bh ?_ ?_)<;>first|omega| ((try simp only[bG]at*);(try simp(disch:=omega) only[dm]);omega))) ?_))))))
    refine an rfl ?_ ?_<;>intro qD
    ·have Zj:okD x k1=false:=cR qD (by simp only[okD,hx,bC]<;>first|rfl|ac_rfl)
     exact av X [2] rfl (aq (aj rfl ⟨by rw[show okW x=false from by rw[okW,nC iZ Zj];simp],⟨⟩⟩))
    ·have Zj:okD x k1=true:=cL qD (by simp only[okD,hx,bC]<;>first|rfl|ac_rfl)
     refine au (bU X [1,111,112,113] rfl ?_)
     refine⟨k1+1,⟨by omega,lz ajG Zj⟩,by omega,?_⟩
     rw[bZ _ k1 rfl (by omega)]
     try rfl
   ·try simp only[bG]at iZ
    have ac5:(bT x.ah.length).all (okD x)=true:=by rw[show x.ah.length=k1 by omega];exact ajG
    exact aW (av X [2] rfl (aq (aj rfl ⟨by rw[okW,hh,rE,ac5];rfl,⟨⟩⟩)))
theorem Ez(x:bN):So 98 [.agg (bw x)] [aU (svW x)]:=by
 refine aF X call98 func98 ntmps98 rfl rfl ?_
 intro zb
 refine b7 0 1 rfl rfl (fun hl1=> ?_)
 refine b7 0 2 rfl rfl (fun qS=>(av X [1] rfl (aa (av X [1,3] rfl ?_))))
 refine aB (aP (fun k=>k≤x.aG.length∧(bT k).all (Mv x)=true) (fun k:Nat=> [(3, .one ((aI k)))]) (fun k=> []) (fun k=>x.aG.length-k) 0 (fun k=>rfl) ⟨aE _,rfl⟩ rfl ?_)
 rintro k ⟨hk,hall⟩
 refine aa (av X [1,3,9] rfl ?_)
 refine an rfl ?_ ?_<;>intro hb0
 ·try simp only[bG]at hb0
  refine au (aa (aB (aO X [1,3,4] rfl (by and_intros<;>first|exact⟨⟩| (intros;omega)) (aM X [] [(18,⟨false,[aU (ec (x.aG.getD k (aR .cu)))]⟩)] [1,3,45] [] rfl (by(with_reducible and_intros)<;>first|exact⟨⟩|exact(fT (x.aG.getD k (aR .cu)))) ?_))))
  refine an rfl ?_ ?_<;>intro bM
  ·have hk2:Mv x k=false:=cR bM (by simp only[Mv,bC]<;>first|rfl|ac_rfl)
   exact av X [2] rfl (aq (aj rfl ⟨by rw[show svW x=false from by rw[svW,nC hb0 hk2];simp],⟨⟩⟩))
  ·have hk2:Mv x k=true:=cL bM (by simp only[Mv,bC]<;>first|rfl|ac_rfl)
   refine au (bU X [1,3] rfl ?_)
   refine⟨k+1,⟨by omega,lz hall hk2⟩,by omega,?_⟩
   rw[bZ _ k rfl (by omega)]
   try rfl
 ·try simp only[bG]at hb0
  have rE:(bT x.aG.length).all (Mv x)=true:=by rw[show x.aG.length=k by omega];exact hall
  exact aW (aM X [] [(49,⟨false,[aU _]⟩)] [2] [] rfl (by(with_reducible and_intros)<;>first|exact⟨⟩|exact(iQ _)) (aq (aj rfl ⟨by rw[svW,rE];rfl,⟨⟩⟩)))
theorem EA(x:bN):So 99 [.agg (bw x)] [aU (dvW x)]:=by
 refine aF X call99 func99 ntmps99 rfl rfl ?_
 intro zb
 refine b7 0 1 rfl rfl (fun hl1=> ?_)
 refine b7 0 2 rfl rfl (fun qS=>(av X [1] rfl (av X [1,3] rfl (aa (aM X [] [(14,⟨false,[aU (inr (x.ah.length:Int) 2 8)]⟩)] [1,3,16] [] rfl (by(with_reducible and_intros)<;>first|exact⟨⟩|exact fun _=>(bD (x.ah.length:Int) 2 8)| (intros;omega)) ?_)))))
 refine an rfl ?_ ?_<;>intro hb0
 ·exact av X [2] rfl (aq (aj rfl ⟨by rw[show dvW x=false from by rw[dvW,cR (R:=((x.ah.length:Int).tmod 2==0)&&inr x.ah.length 2 8) hb0 (by simp only[bC]<;>first|rfl|ac_rfl)];rfl],⟨⟩⟩))
 ·have hh:(((x.ah.length:Int).tmod 2==0)&&inr x.ah.length 2 8)=true:=cL hb0 (by simp only[bC]<;>first|rfl|ac_rfl)
  have hev:x.ah.length % 2=0:=by simp only[az,beq_iff_eq]at hh;have:=hh.1;rw[iP (by omega)]at this;omega
  have hd8:x.ah.length≤8:=by simp only[az,dS]at hh;omega
  refine au (aa (av X [1,3,4] rfl ?_))
  refine aB (aP (fun k=>k≤x.ah.length∧(bT k).all (okD x)=true) (fun k:Nat=> [(4, .one ((aI k)))]) (fun k=> []) (fun k=>x.ah.length-k) 0 (fun k=>rfl) ⟨aE _,rfl⟩ rfl ?_)
  rintro k ⟨hk,hall⟩
  refine aa (av X [1,3,4,19] rfl ?_)
  refine an rfl ?_ ?_<;>intro bM
  ·try simp only[bG]at bM
   have hx:=I1 k (by omega)
   have hlt:=Ax k x.ah.length bM hev
   refine au (aa (aB (aO X [1,3,4,5] rfl (by and_intros<;>first|exact⟨⟩| (intros;omega)) (aa (aQ X [] [(28,⟨false,[aU (fu (x.ah.getD k (aR .bR)))]⟩)] [1,3,4,66] [] 1099511627775 0 MO (by kernel_rfl) rfl (by kernel_rfl) (by(with_reducible and_intros)<;>first|exact⟨⟩|exact(gO (x.ah.getD k (aR .bR)))| ((intro h1;first| (intro h2;first| (intro h3;refine bh ?_ ?_)|refine bh ?_ ?_)|refine bh ?_ ?_)<;>first|omega| ((try simp only[bG]at*);(try simp(disch:=omega) only[dm]);omega))) ?_)))))
   refine an rfl ?_ ?_<;>intro cS
   ·have Zj:okD x k=false:=cR cS (by simp only[okD,hx,bC]<;>first|rfl|ac_rfl)
    exact av X [2] rfl (aq (aj rfl ⟨by rw[show dvW x=false from by rw[dvW,nC bM Zj];simp],⟨⟩⟩))
   ·have Zj:okD x k=true:=cL cS (by simp only[okD,hx,bC]<;>first|rfl|ac_rfl)
    refine au (bU X [1,3,4] rfl ?_)
    refine⟨k+1,⟨by omega,lz hall Zj⟩,by omega,?_⟩
    rw[bZ _ k rfl (by omega)]
    try rfl
  ·try simp only[bG]at bM
   have ac5:(bT x.ah.length).all (okD x)=true:=by rw[show x.ah.length=k by omega];exact hall
   exact aW (av X [2] rfl (aq (aj rfl ⟨by rw[dvW,hh,ac5];rfl,⟨⟩⟩)))
theorem dL(x:bN):So 47 [.agg (bw x)] [aU (okW x)]:=by
 refine aF X call47 func47 ntmps47 rfl rfl ?_
 intro zb
 exact av X [1] rfl (aa (aQ X [] [(5,⟨false,[aU (inr x.rows 1 64)]⟩),(9,⟨false,[aU (inr x.round 0 100000)]⟩),(13,⟨false,[aU (svW x)]⟩),(17,⟨false,[aU (dvW x)]⟩),(22,⟨false,[aU (jz x.aK)]⟩),(35,⟨false,[aI (gx x.aK)]⟩),(43,⟨false,[aU (jl x.ck)]⟩)] [2] [] 281474976710655 0 MO (by kernel_rfl) rfl (by kernel_rfl) (by(with_reducible and_intros);(iterate 7 all_goals try first|exact⟨⟩|exact(bD x.rows 1 64)|exact fun _=>(bD x.round 0 100000)|exact fun _=>(Ez x)|exact fun _=>(EA x)|exact fun _=>(qd x.aK)|exact fun _=>(qC x.aK)|exact fun _=>(lP x.ck))) (aq (aj rfl ⟨(congrArg dO (by simp only[okW,R5,svW,dvW,bC]<;>first|rfl|ac_rfl)),⟨⟩⟩))))
theorem I2(key c:Int)(p:Plain):So 277 [aI key,aI c, .agg (mH p)] [.a (.sl .u8 (Ar key c p)),aU (oq key c p)]:=by
 refine aF X call277 func277 ntmps277 rfl rfl ?_
 intro zb
 refine av X [0,1,5] rfl (aa (aM X [] [(11,⟨false,[aU (jl key)]⟩),(15,⟨false,[aU (inr c 0 1000000000000)]⟩),(20,⟨false,[aU (nO p)]⟩)] [0,1,5,22] [] rfl (by(with_reducible and_intros);(iterate 3 all_goals try first|exact⟨⟩|exact(jR key)|exact fun _=>(bl c 0 1000000000000)|exact fun _=>(sJ p))) ?_))
 refine an rfl ?_ ?_<;>intro hb0
 ·have hk:oq key c p=false:=cR hb0 (by simp only[oq,bC]<;>first|rfl|ac_rfl)
  exact av X [6,7] rfl (aq (aj rfl ⟨by rw[Ar,if_neg (by rw[hk];decide)],by rw[hk],⟨⟩⟩))
 ·have hk:oq key c p=true:=cL hb0 (by simp only[oq,bC]<;>first|rfl|ac_rfl)
  have hp:=uT hk
  have hst:(stream (kh key [61,c]) (18:Int).toNat).length=18:=jy _ _
  have hpl:(ke key c p).length≤100:=by unfold ke;simp only[bf,b9,bF,c8,jy];omega
  have hf4:(four (tL key c (so (tM key c) (ke key c p)))).length=4:=rfl
  have hel:(so (tM key c) (ke key c p)).length≤100:=by rw[nB];exact hpl
  refine au (aM X [(33,30)] [] [0,1,5,8] [] rfl (by and_intros<;>first|exact⟨⟩|exact rfl|exact(we _).1|exact(we _).2| (simp only[gR,maxLen,lens];omega)) (aa (aQ X [(44,30)] [(38,⟨false,[aI (kh key [61,c])]⟩),(39,⟨true,[.a (.sl .u8 (stream (kh key [61,c]) (18:Int).toNat))]⟩)] [0,1,8] [] 1023 0 MO (by kernel_rfl) rfl (by kernel_rfl) (by(repeat' with_reducible first|exact bH|refine bS ?_ ?_|apply bh);(iterate 2 all_goals try first|exact(cI key [61,c] (by first|assumption|omega| (simp;done)| (simp;omega)))|exact(og (kh key [61,c]) 18 (by first|assumption|omega| (simp;done)| (simp;omega)) (by first|assumption|omega| (simp;done)| (simp;omega))));all_goals first| (intros;omega)|exact rfl|exact⟨rfl,cE _ (by decide)⟩| (simp only[gR,maxLen,lens];omega)) ?_)))
  refine aM X [] [(47,⟨false,[aI (tM key c)]⟩),(49,⟨true,[.a (.sl .u8 (so (tM key c) (ke key c p)))]⟩)] [0,1,9] [] rfl (by(with_reducible and_intros);(iterate 2 all_goals try first|exact⟨⟩|exact(As key c)|exact(KM (tM key c) (ke key c p) (by first|assumption|omega| (simp;done)| (simp;omega))))) (aa ?_)
  have t1:=(uS key c (so (tM key c) (ke key c p)) (by first|assumption|omega| (simp;done)| (simp;omega)))
  exact bn X [(55,49)] [(54,⟨true,cx t1⟩)] [6,7] [] rfl (by(with_reducible and_intros)<;>first|exact⟨⟩|exact t1|exact rfl| (simp only[gR,maxLen,lens];omega)) (aq (aj rfl ⟨by rw[Ar,if_pos hk],by rw[hk],⟨⟩⟩))
theorem I3(key c:Int)(p:Plain):So 241 [aI key,aI c, .agg (mH p)] [.a (.sl .u8 (Ar key c p)),aU (oq key c p)]:=by
 refine aF X call241 func241 ntmps241 rfl rfl ?_
 intro zb
 refine av X [0,1,5] rfl (aa (aM X [] [(12,⟨false,[aU (jl key)]⟩),(16,⟨false,[aU (inr c 0 1000000000000)]⟩),(21,⟨false,[aU (nO p)]⟩)] [0,1,5,23] [] rfl (by(with_reducible and_intros);(iterate 3 all_goals try first|exact⟨⟩|exact(lP key)|exact fun _=>(bD c 0 1000000000000)|exact fun _=>(Ce p))) ?_))
 refine an rfl ?_ ?_<;>intro hb0
 ·have hk:oq key c p=false:=cR hb0 (by simp only[oq,bC]<;>first|rfl|ac_rfl)
  exact aO X [6,7] rfl (by and_intros<;>first|exact⟨⟩|exact rfl) (aq (aj rfl ⟨by rw[Ar,if_neg (by rw[hk];decide)],by rw[hk],⟨⟩⟩))
 ·have hk:oq key c p=true:=cL hb0 (by simp only[oq,bC]<;>first|rfl|ac_rfl)
  have hp:=uT hk
  have hst:(stream (kh key [61,c]) (18:Int).toNat).length=18:=jy _ _
  have hpl:(ke key c p).length≤100:=by unfold ke;simp only[bf,b9,bF,c8,jy];omega
  have hf4:(four (tL key c (so (tM key c) (ke key c p)))).length=4:=rfl
  have hel:(so (tM key c) (ke key c p)).length≤100:=by rw[nB];exact hpl
  refine au (aM X [(35,32)] [] [0,1,5,8] [] rfl (by and_intros<;>first|exact⟨⟩|exact rfl|exact(we _).1|exact(we _).2| (simp only[gR,maxLen,lens];omega)) (aa (aQ X [(46,32)] [(40,⟨false,[aI (kh key [61,c])]⟩),(41,⟨true,[.a (.sl .u8 (stream (kh key [61,c]) (18:Int).toNat))]⟩)] [0,1,8] [] 1023 0 MO (by kernel_rfl) rfl (by kernel_rfl) (by(repeat' with_reducible first|exact bH|refine bS ?_ ?_|apply bh);(iterate 2 all_goals try first|exact(cJ key [61,c] (by first|assumption|omega| (simp;done)| (simp;omega)))|exact(oo (kh key [61,c]) 18 (by first|assumption|omega| (simp;done)| (simp;omega)) (by first|assumption|omega| (simp;done)| (simp;omega))));all_goals first| (intros;omega)|exact rfl|exact⟨rfl,cE _ (by decide)⟩| (simp only[gR,maxLen,lens];omega)) ?_)))
  refine aM X [] [(49,⟨false,[aI (tM key c)]⟩),(51,⟨true,[.a (.sl .u8 (so (tM key c) (ke key c p)))]⟩)] [0,1,9] [] rfl (by(with_reducible and_intros);(iterate 2 all_goals try first|exact⟨⟩|exact(wo key c)|exact(KO (tM key c) (ke key c p) (by first|assumption|omega| (simp;done)| (simp;omega))))) (aa ?_)
  have t1:=(wm key c (so (tM key c) (ke key c p)) (by first|assumption|omega| (simp;done)| (simp;omega)))
  exact bn X [] [(55,⟨false,cx t1⟩)] [9,10] [] rfl (by(with_reducible and_intros)<;>first|exact⟨⟩|exact t1) (aM X [(69,51)] [] [6,7] [] rfl (by and_intros<;>first|exact⟨⟩| (intros;omega)|exact rfl|exact(we _).1|exact(we _).2| (simp only[gR,maxLen,lens];omega)) (aq (aj rfl ⟨(congrArg (fun z=>so (tM key c) (ke key c p)++z) (Xo _)).trans (by rw[Ar,if_pos hk]),by rw[hk],⟨⟩⟩)))
theorem gj(x:bN)(c:Int):So 76 [.agg (bw x),aI c] [aU (kA x c)]:=by
 refine aF X call76 func76 ntmps76 rfl rfl ?_
 intro zb
 exact b7 0 2 rfl rfl (fun qS=>(av X [1,2] rfl (aM X [] [(10,⟨false,[aU _]⟩)] [4] [] rfl (by(with_reducible and_intros)<;>first|exact⟨⟩|exact(bl _ _ _)) (aq (aj rfl ⟨by rw[dm (by omega)];rfl,⟨⟩⟩)))))
theorem tQ(x:bN)(c:Int)(hd:x.ah.length≤1048576):So 185 [.agg (bw x),aI c] [aU (iy x c)]:=by
 refine aF X call185 func185 ntmps185 rfl rfl ?_
 intro zb
 refine av X [1,2] rfl (aa ?_)
 have t1:=(gj x (af.wrap (aH af.bits c^^^aH af.bits 1).toNat))
 exact bn X [] [(7,⟨false,[aU (kA x c)]⟩),(12,⟨false,cx t1⟩)] [4] [] rfl (by(with_reducible and_intros);(iterate 2 all_goals try first|exact⟨⟩|exact(gj x c)|exact fun _=>t1)) (aq (aj rfl ⟨by rw[At,ZU hd],⟨⟩⟩))
theorem Az(x:bN)(c:Int)(hd:x.ah.length≤1048576):So 156 [.agg (bw x),aI c] [aU (iy x c)]:=by
 refine aF X call156 func156 ntmps156 rfl rfl ?_
 intro zb
 refine av X [1,2] rfl (aa ?_)
 have t1:=(bD c 0 (af.wrap ((x.ah.length:Int)-1)))
 exact bn X [] [(10,⟨false,cx t1⟩)] [4] [] rfl (by(with_reducible and_intros)<;>first|exact⟨⟩|exact t1) (aq (aj rfl ⟨by rw[dm (by omega),At,ZV hd],⟨⟩⟩))
theorem jt(c:gI):So 207 [.agg (cM c)] [aI (eI c)]:=by
 refine aF X call207 func207 ntmps207 rfl rfl ?_
 intro zb
 refine av X [1] rfl (aa (av X [7] rfl ?_))
 refine an rfl ?_ ?_<;>intro hb0
 ·try simp only[bG]at hb0
  exact av X [2] rfl (aq (aj rfl ⟨by rw[eI,if_pos hb0],⟨⟩⟩))
 ·try simp only[bG]at hb0
  exact au (av X [2] rfl (aq (aj rfl ⟨by rw[eI,if_neg (by omega)],⟨⟩⟩)))
theorem ot(c:gI)(a:Int)(h0:0≤a)(h1:a<c.bp.length):So 209 [.agg (cM c),aI a] [.a (.sl .u8 (qg c a))]:=by
 refine aF X call209 func209 ntmps209 rfl rfl ?_
 intro zb
 refine av X [1,2] rfl (aa ?_)
 have t1:=(I2 (xO c.key (eI c)) a (⟨1,(c.bp.getD (a).toNat (aR (.sl .u8)))⟩:Plain))
 exact aQ X [] [(11,⟨false,[aI (eI c)]⟩),(12,⟨false,[aI (xO c.key (eI c))]⟩),(20,⟨true,cx t1⟩)] [5] [] 262143 0 MO (by kernel_rfl) rfl (by kernel_rfl) (by(with_reducible and_intros);(iterate 3 all_goals try first|exact⟨⟩|exact(jt c)|exact(mY c.key (eI c))|exact t1);all_goals first| (intros;omega)) (av X [4] rfl (aq (aj rfl ⟨rfl,⟨⟩⟩)))
theorem Dg(c:gI)(r n:Int):So 314 [.agg (cM c),aI r,aI n] [aI (tP c r n), .a (.sl .u8 (lD c r n)),aU (uF c r n)]:=by
 refine aF X call314 func314 ntmps314 rfl rfl ?_
 intro zb
 refine b7 0 4 rfl rfl (fun mK=>(av X [1,2,3] rfl (aa (aM X [] [(10,⟨false,[aU (ga c)]⟩),(14,⟨false,[aU (inr r 0 100000)]⟩),(19,⟨false,[aU (inr n 1 64)]⟩)] [1,2,3,21] [] rfl (by(with_reducible and_intros);(iterate 3 all_goals try first|exact⟨⟩|exact(gL c)|exact fun _=>(bl r 0 100000)|exact fun _=>(bl n 1 64))) ?_))))
 refine an rfl ?_ ?_<;>intro hb0
 ·have hk:uF c r n=false:=cR hb0 (by simp only[uF,bC]<;>first|rfl|ac_rfl)
  exact av X [6,7,8] rfl (aq (aj rfl ⟨by rw[tP,if_neg (by rw[hk];decide)],by rw[lD,if_neg (by rw[hk];decide)],by rw[hk],⟨⟩⟩))
 ·have hk:uF c r n=true:=cL hb0 (by simp only[uF,bC]<;>first|rfl|ac_rfl)
  have hs:=GK hk
  refine au (aa (av X [1,2,3,27] rfl ?_))
  refine an rfl ?_ ?_<;>intro bM
  ·try simp only[bG]at bM
   exact aa (aQ X [] [(32,⟨false,[aI (eI c)]⟩),(34,⟨false,[aI (jQ c.key r (eI c) n)]⟩),(38,⟨true,[.a (.sl .u8 (qg c c.sent))]⟩)] [6,7,8] [] 16383 0 MO (by kernel_rfl) rfl (by kernel_rfl) (by(with_reducible and_intros);(iterate 3 all_goals try first|exact⟨⟩|exact(jt c)|exact(lO c.key r (eI c) n)|exact(ot c c.sent (by first|assumption|omega| (simp;done)| (simp;omega)) (by first|assumption|omega| (simp;done)| (simp;omega))))) (aq (aj rfl ⟨by rw[tP,if_pos hk,if_pos bM],by rw[lD,if_pos hk,if_pos bM],by rw[hk],⟨⟩⟩)))
  ·try simp only[bG]at bM
   refine au (aa (aQ X [] [(43,⟨false,[aI (IY c.seed r n)]⟩),(48,⟨false,[aI (kh c.seed [r])]⟩),(49,⟨true,[.a (.sl .u8 (cover (kh c.seed [r])))]⟩)] [6,7,8] [] 16383 0 MO (by kernel_rfl) rfl (by kernel_rfl) (by(repeat' with_reducible first|exact bH|refine bS ?_ ?_|apply bh);(iterate 3 all_goals try first|exact(IZ c.seed r n)|exact(cI c.seed [r] (by first|assumption|omega| (simp;done)| (simp;omega)))|exact(GG (kh c.seed [r])));all_goals first|exact⟨rfl,cE _ (by decide)⟩) ?_))
   exact aq (aj rfl ⟨by rw[tP,if_pos hk,if_neg (by omega)],by rw[lD,if_pos hk,if_neg (by omega)],by rw[hk],⟨⟩⟩)
theorem KS(d:DB)(i:Int)(hs0:eN aL d.rows≤1048576):So 205 [.agg (bQ d),aI i] [.a (.sl .u8 (rowAt d i)),aU (yK d i)]:=by
 refine aF X call205 func205 ntmps205 rfl rfl ?_
 intro zb
 have mK:d.rows.length≤1048576:=eF hs0
 refine av X [1,2] rfl (aa (aa ?_))
 have t1:=(bl i 0 (af.wrap ((d.rows.length:Int)-1)))
 refine bn X [] [(11,⟨false,cx t1⟩)] [1,2,12] [] rfl (by(with_reducible and_intros)<;>first|exact⟨⟩|exact t1) ?_
 refine an rfl ?_ ?_<;>intro hb0
 ·rw[dm (by omega)]at hb0
  have hk:yK d i=false:=cR hb0 rfl
  exact av X [4,5] rfl (aq (aj rfl ⟨by rw[rowAt,if_neg (by rw[hk];decide)],by rw[hk],⟨⟩⟩))
 ·rw[dm (by omega)]at hb0
  have hk:yK d i=true:=cL hb0 rfl
  have hk2:=hk
  simp only[yK,dS]at hk2
  have hel:=Pe hs0 i.toNat (by omega)
  exact au (aM X [] [(18,⟨true,[.a (.sl .u8 _)]⟩)] [4,5] [] rfl (by(with_reducible and_intros)<;>first|exact⟨⟩|exact(dW _ (by first|assumption|omega| (simp;done)| (simp;omega)))| (intros;omega)) (aq (aj rfl ⟨by rw[rowAt,if_pos hk],by rw[hk],⟨⟩⟩)))
theorem ia(c:gI):So 159 [.agg (cM c)] [aI (eI c)]:=by
 refine aF X call159 func159 ntmps159 rfl rfl ?_
 intro zb
 refine av X [1] rfl (aa (av X [7] rfl ?_))
 refine an rfl ?_ ?_<;>intro hb0
 ·try simp only[bG]at hb0
  exact av X [2] rfl (aq (aj rfl ⟨by rw[eI,if_pos hb0],⟨⟩⟩))
 ·try simp only[bG]at hb0
  exact au (av X [2] rfl (aq (aj rfl ⟨by rw[eI,if_neg (by omega)],⟨⟩⟩)))
theorem tR(c:gI)(h0:0≤c.sent)(h1:c.sent<c.bp.length):So 162 [.agg (cM c)] [.a (.sl .u8 (qg c c.sent))]:=by
 refine aF X call162 func162 ntmps162 rfl rfl ?_
 intro zb
 refine av X [1] rfl (aa ?_)
 have t1:=(I3 (xO c.key (eI c)) c.sent (⟨1,(c.bp.getD (c.sent).toNat (aR (.sl .u8)))⟩:Plain))
 exact aQ X [] [(9,⟨false,[aI (eI c)]⟩),(10,⟨false,[aI (xO c.key (eI c))]⟩),(20,⟨true,cx t1⟩)] [3] [] 1048575 0 MO (by kernel_rfl) rfl (by kernel_rfl) (by(with_reducible and_intros);(iterate 3 all_goals try first|exact⟨⟩|exact(ia c)|exact(mZ c.key (eI c))|exact t1);all_goals first| (intros;omega)) (av X [2] rfl (aq (aj rfl ⟨rfl,⟨⟩⟩)))
theorem Dh(c:gI)(r n:Int):So 382 [.agg (cM c),aI r,aI n] [aI (tP c r n), .a (.sl .u8 (lD c r n)),aU (uF c r n)]:=by
 refine aF X call382 func382 ntmps382 rfl rfl ?_
 intro zb
 refine b7 0 4 rfl rfl (fun mK=>(av X [1,2,3] rfl (aa (aM X [] [(10,⟨false,[aU (ga c)]⟩),(14,⟨false,[aU (inr r 0 100000)]⟩),(19,⟨false,[aU (inr n 1 64)]⟩)] [1,2,3,21] [] rfl (by(with_reducible and_intros);(iterate 3 all_goals try first|exact⟨⟩|exact(gM c)|exact fun _=>(bD r 0 100000)|exact fun _=>(bD n 1 64))) ?_))))
 refine an rfl ?_ ?_<;>intro hb0
 ·have hk:uF c r n=false:=cR hb0 (by simp only[uF,bC]<;>first|rfl|ac_rfl)
  exact aO X [6,7,8] rfl (by and_intros<;>first|exact⟨⟩|exact rfl) (aq (aj rfl ⟨by rw[tP,if_neg (by rw[hk];decide)],by rw[lD,if_neg (by rw[hk];decide)],by rw[hk],⟨⟩⟩))
 ·have hk:uF c r n=true:=cL hb0 (by simp only[uF,bC]<;>first|rfl|ac_rfl)
  have hs:=GK hk
  refine au (aa (av X [1,2,3,28] rfl ?_))
  refine an rfl ?_ ?_<;>intro bM
  ·try simp only[bG]at bM
   exact aa (aQ X [] [(33,⟨false,[aI (eI c)]⟩),(35,⟨false,[aI (jQ c.key r (eI c) n)]⟩),(37,⟨true,[.a (.sl .u8 (qg c c.sent))]⟩)] [6,7,8] [] 4095 0 MO (by kernel_rfl) rfl (by kernel_rfl) (by(with_reducible and_intros);(iterate 3 all_goals try first|exact⟨⟩|exact(ia c)|exact(lQ c.key r (eI c) n)|exact(tR c (by first|assumption|omega| (simp;done)| (simp;omega)) (by first|assumption|omega| (simp;done)| (simp;omega))))) (aq (aj rfl ⟨by rw[tP,if_pos hk,if_pos bM],by rw[lD,if_pos hk,if_pos bM],by rw[hk],⟨⟩⟩)))
  ·try simp only[bG]at bM
   refine au (aa (aQ X [] [(42,⟨false,[aI (IY c.seed r n)]⟩),(47,⟨false,[aI (kh c.seed [r])]⟩),(48,⟨true,[.a (.sl .u8 (cover (kh c.seed [r])))]⟩)] [6,7,8] [] 16383 0 MO (by kernel_rfl) rfl (by kernel_rfl) (by(repeat' with_reducible first|exact bH|refine bS ?_ ?_|apply bh);(iterate 3 all_goals try first|exact(I0 c.seed r n)|exact(cJ c.seed [r] (by first|assumption|omega| (simp;done)| (simp;omega)))|exact(GH (kh c.seed [r])));all_goals first|exact⟨rfl,cE _ (by decide)⟩) ?_))
   exact aq (aj rfl ⟨by rw[tP,if_pos hk,if_neg (by omega)],by rw[lD,if_pos hk,if_neg (by omega)],by rw[hk],⟨⟩⟩)
theorem KT(d:DB)(i:Int)(hs0:eN aL d.rows≤1048576):So 160 [.agg (bQ d),aI i] [.a (.sl .u8 (rowAt d i)),aU (yK d i)]:=by
 refine aF X call160 func160 ntmps160 rfl rfl ?_
 intro zb
 have mK:d.rows.length≤1048576:=eF hs0
 refine av X [1,2] rfl (aa (aa ?_))
 have t1:=(bD i 0 (af.wrap ((d.rows.length:Int)-1)))
 refine bn X [] [(11,⟨false,cx t1⟩)] [1,2,12] [] rfl (by(with_reducible and_intros)<;>first|exact⟨⟩|exact t1) ?_
 refine an rfl ?_ ?_<;>intro hb0
 ·rw[dm (by omega)]at hb0
  have hk:yK d i=false:=cR hb0 rfl
  exact aO X [4,5] rfl (by and_intros<;>first|exact⟨⟩|exact rfl) (aq (aj rfl ⟨by rw[rowAt,if_neg (by rw[hk];decide)],by rw[hk],⟨⟩⟩))
 ·rw[dm (by omega)]at hb0
  have hk:yK d i=true:=cL hb0 rfl
  have hk2:=hk
  simp only[yK,dS]at hk2
  have hel:=Pe hs0 i.toNat (by omega)
  exact au (aM X [(20,14)] [] [4,5] [] rfl (by and_intros<;>first|exact⟨⟩| (intros;omega)|exact rfl| (simp only[gR,maxLen,lens];omega)) (aq (aj rfl ⟨by rw[rowAt,if_pos hk];rfl,by rw[hk],⟨⟩⟩)))
end
section
set_option maxRecDepth 100000
theorem AA(x:Int):So 347 [aI x] [aU (!inr x 0 1)]:=by
 refine aF X call347 func347 ntmps347 rfl rfl ?_
 intro zb
 exact av X [0] rfl (aM X [] [(4,⟨false,[aU _]⟩)] [2] [] rfl (by(with_reducible and_intros)<;>first|exact⟨⟩|exact(bl _ _ _)) (aq (aj rfl ⟨rfl,⟨⟩⟩)))
theorem ou(v:List Int)(rows:Int):So 289 [.a (.sl .int v),aI rows] [aU (kG v rows)]:=by
 refine aF X call289 func289 ntmps289 rfl rfl ?_
 intro zb
 exact av X [0,1] rfl (aM X [] [(6,⟨false,[aU (inr rows 0 64)]⟩),(15,⟨false,[aU (v.any fun x=> !inr x 0 1)]⟩)] [4] [] rfl (by(with_reducible and_intros);(iterate 2 all_goals try first|exact⟨⟩|exact(bl rows 0 64)|exact fun _=>(rD _ _ _ AA))) (aq (aj rfl ⟨by rw[Vg];exact(congrArg dO (by simp only[bC]<;>first|rfl|ac_rfl)),⟨⟩⟩)))
theorem ox(v:List Int)(rows:Int):So 310 [.a (.sl .int v),aI rows] [aU (kG v rows)]:=by
 refine aF X call310 func310 ntmps310 rfl rfl ?_
 intro zb
 refine eu 0 rfl (fun mK=>(av X [0,1] rfl (aa (av X [0,1,5] rfl ?_))))
 refine aB (aP (fun k=>k≤v.length∧(v.take k).all (fun x=>inr x 0 1)=true) (fun k:Nat=> [(5, .one ((aI k)))]) (fun k=> []) (fun k=>v.length-k) 0 (fun k=>rfl) ⟨aE _,rfl⟩ rfl ?_)
 rintro k ⟨hk,hall⟩
 refine aa (av X [0,1,5,9] rfl ?_)
 refine an rfl ?_ ?_<;>intro hb0
 ·try simp only[bG]at hb0
  refine au (aa (aB (aM X [] [(16,⟨false,[aU (inr (v.getD k (aR .int)) 0 1)]⟩)] [0,1,5,17] [] rfl (by(with_reducible and_intros)<;>first|exact⟨⟩|exact(bD (v.getD k (aR .int)) 0 1)| (intros;omega)) ?_)))
  refine an rfl ?_ ?_<;>intro bM
  ·exact av X [4] rfl (aq (aj rfl ⟨by rw[kG,KK _ _ (aR .int) k hb0 (by simpa using bM)];simp,⟨⟩⟩))
  ·refine au (bU X [0,1,5] rfl ?_)
   refine⟨k+1,⟨by omega,by rw[An _ _ _ (aR .int) hb0,hall];simpa using bM⟩,by omega,?_⟩
   rw[bZ _ k rfl (by omega)]
   try rfl
 ·try simp only[bG]at hb0
  exact aW (av X [4] rfl (aq (aj rfl ⟨by rw[aD hb0]at hall;rw[kG,hall];exact(congrArg dO (by simp only[bC]<;>first|rfl|ac_rfl)),⟨⟩⟩)))
theorem pJ(sd rows:Int):So 225 [aI sd,aI rows] [.a (.sl .int (dX sd rows))]:=by
 refine aF X call225 func225 ntmps225 rfl rfl ?_
 intro zb
 refine av X [0,1] rfl (aa (aM X [] [(9,⟨false,[aU (inr rows 0 64)]⟩)] [0,1,10] [] rfl (by(with_reducible and_intros)<;>first|exact⟨⟩|exact(bl rows 0 64)) ?_))
 refine an rfl ?_ ?_<;>intro hb0
 ·try simp only[bG]at hb0
  exact av X [4] rfl (aq (aj rfl ⟨by rw[dX,if_neg (by omega)],⟨⟩⟩))
 ·try simp only[bG]at hb0
  refine au (aO X [0,1,5] rfl (by and_intros<;>first|exact⟨⟩|exact rfl) (aa (av X [0,5,12,13] rfl ?_)))
  refine aB (aP (fun k=>k≤rows.toNat) (fun k:Nat=> [(13, .one ((aI k)))]) (fun k=> [(11, .arr .int ((dX sd rows).take k))]) (fun k=>rows.toNat-k) 0 (fun k=>rfl) (aE _) rfl ?_)
  intro k hk
  have hle:=cG (dX sd rows) k
  have hrl:=mj sd rows
  refine av X [0,5,12,13,14] rfl ?_
  refine aa (an rfl ?_ ?_)<;>intro bM
  ·try simp only[bG]at bM
   have hs:=EB sd rows k (by omega) (by omega)
   refine au (aa (aB (av X [0,5,6,12,13] rfl (aM X [] [(19,⟨false,[aI (kh sd [(k:Int),41])]⟩)] [0,5,7,12,13] [] rfl (by(repeat' with_reducible first|exact bH|refine bS ?_ ?_|apply bh)<;>first|exact(cI sd [(k:Int),41] (by first|assumption|omega| (simp;done)| (simp;omega)))|exact⟨rfl,cE _ (by decide)⟩) ?_))))
   refine bn X [(28,11)] [] [0,5,12,13] [] rfl (by and_intros<;>first|exact⟨⟩| (intros;omega)|exact rfl| (simp only[gR,maxLen,lens];omega)) (bU X [0,5,12,13] rfl ?_)
   refine⟨k+1,by omega,by omega,?_⟩
   rw[bZ _ k rfl (by omega),hs]
   try rfl
  ·try simp only[bG]at bM
   exact aW (av X [4] rfl (aq (aj rfl ⟨by rw[Im _ _ _ (by omega)],⟨⟩⟩)))
theorem AB(rows i:Int):So 224 [aI rows,aI i] [.a (.sl .int (ED rows i))]:=by
 refine aF X call224 func224 ntmps224 rfl rfl ?_
 intro zb
 refine av X [0,1] rfl (aa (aM X [] [(7,⟨false,[aU (inr rows 1 64)]⟩),(13,⟨false,[aU (inr i 0 (af.wrap (rows-1)))]⟩)] [0,1,15] [] rfl (by(with_reducible and_intros);(iterate 2 all_goals try first|exact⟨⟩|exact(bl rows 1 64)|exact fun _=>(bl i 0 (af.wrap (rows-1))))) ?_))
 refine an rfl ?_ ?_<;>intro hb0
 ·have hk:pH rows i=false:=cR hb0 (by simp only[pH,bC]<;>first|rfl|ac_rfl)
  exact av X [4] rfl (aq (aj rfl ⟨by rw[GM hk],⟨⟩⟩))
 ·have hk:pH rows i=true:=cL hb0 (by simp only[pH,bC]<;>first|rfl|ac_rfl)
  have hu:=KW hk
  exact au (aO X [1,5] rfl (by and_intros<;>first|exact⟨⟩| (intros;omega)|exact rfl| (simp only[gR,maxLen,lens];omega)) (aO X [5] rfl (by and_intros<;>first|exact⟨⟩| (intros;omega)| (simp only[gR,maxLen,lens];omega)) (av X [4] rfl (aq (aj rfl ⟨by rw[GL hk],⟨⟩⟩)))))
theorem AD(a b:List Int)(ha:a.length≤1048576)(hb:b.length≤1048576):So 226 [.a (.sl .int a), .a (.sl .int b)] [.a (.sl .int (vM a b))]:=by
 refine aF X call226 func226 ntmps226 rfl rfl ?_
 intro zb
 refine av X [0,1] rfl (aa (aM X [] [(11,⟨false,[aU (kG a (a.length:Int))]⟩),(17,⟨false,[aU (kG b (a.length:Int))]⟩)] [0,1,19] [] rfl (by(with_reducible and_intros);(iterate 2 all_goals try first|exact⟨⟩|exact(ou a (a.length:Int))|exact fun _=>(ou b (a.length:Int)))) ?_))
 refine an rfl ?_ ?_<;>intro hb0
 ·have CM:qh a b=false:=cR hb0 (by simp only[qh,bC]<;>first|rfl|ac_rfl)
  exact av X [4] rfl (aq (aj rfl ⟨by rw[vM,if_neg (by rw[CM];decide)],⟨⟩⟩))
 ·have CM:qh a b=true:=cL hb0 (by simp only[qh,bC]<;>first|rfl|ac_rfl)
  have EF:=sY CM
  have hzl:=EC CM
  refine au (aM X [] [(21,⟨true,[.a (.sl .int _)]⟩)] [1,5] [] rfl (by(with_reducible and_intros)<;>first|exact⟨⟩|exact(kP _ (by first|assumption|omega| (simp;done)| (simp;omega)))) (aa (av X [5,22,23,24] rfl ?_)))
  refine aB (aP (fun k=>k≤b.length) (fun k:Nat=> [(24, .one ((aI k)))]) (fun k=> [(21, .arr .int ((fI xb a b).take k++a.drop k))]) (fun k=>b.length-k) 0 (fun k=>rfl) (aE _) rfl ?_)
  intro k hk
  have hle:=pg (fI xb a b) a k hzl (by omega)
  refine av X [5,22,23,24,25] rfl ?_
  refine aa (an rfl ?_ ?_)<;>intro bM
  ·try simp only[bG]at bM
   have hs:=R7 CM k bM
   refine au (aa (aB (aO X [5,6,7,22,23,24] rfl (by and_intros<;>first|exact⟨⟩| (intros;omega)) (gA X [5,22,23,24] rfl (by and_intros<;>first|exact⟨⟩| (intros;omega)) (bU X [5,22,23,24] rfl ?_)))))
   refine⟨k+1,by omega,by omega,?_⟩
   rw[bZ _ k rfl (by omega),hs]
   try rfl
  ·try simp only[bG]at bM
   exact aW (av X [4] rfl (aq (aj rfl ⟨by rw[sR _ _ _ hzl (by omega),Di CM],⟨⟩⟩)))
theorem GR(rows i:Int)(sd:List Int)(En:sd.length≤1048576):So 142 [aI rows,aI i, .a (.sl .int sd)] [.a (.sl (.sl .int) (wz rows i sd))]:=by
 refine aF X call142 func142 ntmps142 rfl rfl ?_
 intro zb
 have hun:=GN rows i
 refine av X [0,1,2] rfl (aM X [] [(14,⟨true,[.a (.sl .int _)]⟩)] [0,2,7] [] rfl (by(with_reducible and_intros)<;>first|exact⟨⟩|exact(AB _ _)) (aa (aM X [] [(22,⟨false,[aU (dG (af.wrap ((sd.length:Int)+1)))]⟩)] [0,2,7,24] [] rfl (by(with_reducible and_intros)<;>first|exact⟨⟩|exact fun _=>(ff (af.wrap ((sd.length:Int)+1)))) ?_)))
 refine an rfl ?_ ?_<;>intro hb0
 ·have hmk:KX rows i sd=false:=cR hb0 (by simp only[KX,bC]<;>first|rfl|ac_rfl)
  exact av X [6] rfl (aq (aj rfl ⟨by rw[wz,if_neg (by rw[hmk];decide)],⟨⟩⟩))
 ·have hmk:KX rows i sd=true:=cL hb0 (by simp only[KX,bC]<;>first|rfl|ac_rfl)
  have EF:=Sb hmk En
  refine au (aO X [0,2,7,8] rfl (by and_intros<;>first|exact⟨⟩|exact rfl) (aa (av X [0,7,8,26,27,28] rfl ?_)))
  refine aB (aP (fun k=>k≤sd.length) (fun k:Nat=> [(28, .one ((aI k)))]) (fun k=> [(25, .arr (.sl .int) ((sd.take k).map fun s=>dX s rows)),(14, .arr .int (EE rows i (sd.take k)))]) (fun k=>sd.length-k) 0 (fun k=>rfl) (aE _) rfl ?_)
  intro k hk
  have hle:=cG sd k
  have hql:=GO rows i (sd.take k)
  refine av X [0,7,8,26,27,28,29] rfl ?_
  refine aa (an rfl ?_ ?_)<;>intro bM
  ·try simp only[bG]at bM
   have hs:=rC (fun s=>dX s rows) sd k (aR .int) bM
   have hs2:=KY rows i sd k bM
   have hrl:=mj (sd.getD k (aR .int)) rows
   refine au (aa (aB (aO X [0,7,8,10,26,27,28] rfl (by and_intros<;>first|exact⟨⟩| (intros;omega)) (aM X [] [(34,⟨true,[.a (.sl .int (dX (sd.getD k (aR .int)) rows))]⟩)] [0,7,8,11,26,27,28] [] rfl (by(with_reducible and_intros)<;>first|exact⟨⟩|exact(pJ (sd.getD k (aR .int)) rows)) (aa (Xs X [(38,25)] [] [0,7,8,11,26,27,28] 2 25 rfl (by and_intros<;>first|exact⟨⟩|exact rfl| (simp only[gR,maxLen,lens];omega)) ?_))))))
   have t1:=(AD (EE rows i (sd.take k)) (dX (sd.getD k (aR .int)) rows) (by first|assumption|omega| (simp;done)| (simp;omega)) (by first|assumption|omega| (simp;done)| (simp;omega)))
   refine bn X [] [(41,⟨true,cx t1⟩)] [0,7,8,26,27,28] [] rfl (by(with_reducible and_intros)<;>first|exact⟨⟩|exact t1) (sZ 7 14 rfl (bU X [0,7,8,26,27,28] rfl ?_))
   refine⟨k+1,by omega,by omega,?_⟩
   rw[bZ _ k rfl (by omega),hs,hs2]
   try rfl
  ·try simp only[bG]at bM
   exact aW (aM X [(46,25)] [] [6] [] rfl (by and_intros<;>first|exact⟨⟩|exact rfl| (simp only[gR,maxLen,lens];omega)) (aq (aj rfl ⟨by rw[aD bM,wz,if_pos hmk],⟨⟩⟩)))
theorem pK(sd rows:Int):So 250 [aI sd,aI rows] [.a (.sl .int (dX sd rows))]:=by
 refine aF X call250 func250 ntmps250 rfl rfl ?_
 intro zb
 refine av X [0,1] rfl (aO X [0,1,5] rfl (by and_intros<;>first|exact⟨⟩|exact rfl) (aa (av X [0,1,5,6] rfl ?_)))
 refine aB (aP (fun k=>k≤(dX sd rows).length) (fun k:Nat=> [(6, .one ((aI k)))]) (fun k=> [(8, .arr .int ((dX sd rows).take k))]) (fun k=>(dX sd rows).length-k) 0 (fun k=>rfl) (aE _) rfl ?_)
 intro k hk
 have hle:=cG (dX sd rows) k
 have hrl:=mj sd rows
 refine aa (av X [0,1,5,6,15] rfl ?_)
 refine an rfl ?_ ?_<;>intro hb0
 ·try simp only[bG]at hb0
  have hin:=KU sd rows k (by omega) (by omega)
  have hs:=EB sd rows k (by omega) (by omega)
  refine au (aa (aB (aM X [] [(21,⟨false,[aI (kh sd [(k:Int),41])]⟩)] [0,1,5,6,7] [] rfl (by(repeat' with_reducible first|exact bH|refine bS ?_ ?_|apply bh)<;>first|exact(cJ sd [(k:Int),41] (by first|assumption|omega| (simp;done)| (simp;omega)))|exact⟨rfl,cE _ (by decide)⟩) ?_)))
  refine bn X [(30,8)] [] [0,1,5,6] [] rfl (by and_intros<;>first|exact⟨⟩| (intros;omega)|exact rfl| (simp only[gR,maxLen,lens];omega)) (bU X [0,1,5,6] rfl ?_)
  refine⟨k+1,by omega,by omega,?_⟩
  rw[bZ _ k rfl (by omega),hs]
  try rfl
 ·try simp only[bG]at hb0
  exact aW (av X [4] rfl (aq (aj rfl ⟨by rw[Im _ _ _ (by omega)],⟨⟩⟩)))
theorem AE(rows i:Int):So 249 [aI rows,aI i] [.a (.sl .int (ED rows i))]:=by
 refine aF X call249 func249 ntmps249 rfl rfl ?_
 intro zb
 refine av X [0,1] rfl (aa (aM X [] [(7,⟨false,[aU (inr rows 1 64)]⟩),(13,⟨false,[aU (inr i 0 (af.wrap (rows-1)))]⟩)] [0,1,15] [] rfl (by(with_reducible and_intros);(iterate 2 all_goals try first|exact⟨⟩|exact(bD rows 1 64)|exact fun _=>(bD i 0 (af.wrap (rows-1))))) ?_))
 refine an rfl ?_ ?_<;>intro hb0
 ·have hk:pH rows i=false:=cR hb0 (by simp only[pH,bC]<;>first|rfl|ac_rfl)
  exact aO X [4] rfl (by and_intros<;>first|exact⟨⟩|exact rfl) (aq (aj rfl ⟨by rw[GM hk],⟨⟩⟩))
 ·have hk:pH rows i=true:=cL hb0 (by simp only[pH,bC]<;>first|rfl|ac_rfl)
  have hu:=KW hk
  exact au (aO X [1,5] rfl (by and_intros<;>first|exact⟨⟩| (intros;omega)|exact rfl| (simp only[gR,maxLen,lens];omega)) (aO X [5] rfl (by and_intros<;>first|exact⟨⟩| (intros;omega)| (simp only[gR,maxLen,lens];omega)) (av X [4] rfl (aq (aj rfl ⟨by rw[GL hk],⟨⟩⟩)))))
theorem AF(a b:List Int)(ha:a.length≤1048576)(hb:b.length≤1048576):So 251 [.a (.sl .int a), .a (.sl .int b)] [.a (.sl .int (vM a b))]:=by
 refine aF X call251 func251 ntmps251 rfl rfl ?_
 intro zb
 refine av X [0,1] rfl (aO X [0,1,5] rfl (by and_intros<;>first|exact⟨⟩|exact rfl) (aa (aM X [] [(11,⟨false,[aU (kG a (a.length:Int))]⟩),(17,⟨false,[aU (kG b (a.length:Int))]⟩)] [0,1,5,19] [] rfl (by(with_reducible and_intros);(iterate 2 all_goals try first|exact⟨⟩|exact(ox a (a.length:Int))|exact fun _=>(ox b (a.length:Int)))) ?_)))
 refine an rfl ?_ ?_<;>intro hb0
 ·have CM:qh a b=false:=cR hb0 (by simp only[qh,bC]<;>first|rfl|ac_rfl)
  exact av X [4] rfl (aq (aj rfl ⟨by rw[vM,if_neg (by rw[CM];decide)],⟨⟩⟩))
 ·have CM:qh a b=true:=cL hb0 (by simp only[qh,bC]<;>first|rfl|ac_rfl)
  have EF:=sY CM
  have hzl:=EC CM
  refine au (aa (av X [0,1,5,6] rfl ?_))
  refine aB (aP (fun k=>k≤a.length) (fun k:Nat=> [(6, .one ((aI k)))]) (fun k=> [(7, .arr .int ((fI xb a b).take k))]) (fun k=>a.length-k) 0 (fun k=>rfl) (aE _) rfl ?_)
  intro k hk
  have hle:=cG (fI xb a b) k
  refine aa (av X [0,1,5,6,24] rfl ?_)
  refine an rfl ?_ ?_<;>intro bM
  ·try simp only[bG]at bM
   have hs:=R8 CM k bM
   refine au (aa (aB (aQ X [(38,7)] [] [0,1,5,6] [] 2047 0 MO (by kernel_rfl) rfl (by kernel_rfl) (by and_intros<;>first|exact⟨⟩| (intros;omega)|exact rfl| (simp only[gR,maxLen,lens];omega)) (bU X [0,1,5,6] rfl ?_))))
   refine⟨k+1,by omega,by omega,?_⟩
   rw[bZ _ k rfl (by omega),hs]
   try rfl
  ·try simp only[bG]at bM
   exact aW (av X [4] rfl (aq (aj rfl ⟨by rw[aD (by omega),Di CM],⟨⟩⟩)))
theorem GS(rows i:Int)(sd:List Int)(En:sd.length≤1048576):So 175 [aI rows,aI i, .a (.sl .int sd)] [.a (.sl (.sl .int) (wz rows i sd))]:=by
 refine aF X call175 func175 ntmps175 rfl rfl ?_
 intro zb
 have hun:=GN rows i
 refine av X [0,1,2] rfl (aO X [0,1,2,7] rfl (by and_intros<;>first|exact⟨⟩|exact rfl) (aM X [] [(14,⟨true,[.a (.sl .int _)]⟩)] [0,2,7,8] [] rfl (by(with_reducible and_intros)<;>first|exact⟨⟩|exact(AE _ _)) (aa (aM X [] [(22,⟨false,[aU (dG (af.wrap ((sd.length:Int)+1)))]⟩)] [0,2,7,8,24] [] rfl (by(with_reducible and_intros)<;>first|exact⟨⟩|exact fun _=>(iQ (af.wrap ((sd.length:Int)+1)))) ?_))))
 refine an rfl ?_ ?_<;>intro hb0
 ·have hmk:KX rows i sd=false:=cR hb0 (by simp only[KX,bC]<;>first|rfl|ac_rfl)
  exact av X [6] rfl (aq (aj rfl ⟨by rw[wz,if_neg (by rw[hmk];decide)],⟨⟩⟩))
 ·have hmk:KX rows i sd=true:=cL hb0 (by simp only[KX,bC]<;>first|rfl|ac_rfl)
  have EF:=Sb hmk En
  refine au (aa (av X [0,2,7,8,9] rfl ?_))
  refine aB (aP (fun k=>k≤sd.length) (fun k:Nat=> [(9, .one ((aI k)))]) (fun k=> [(11, .arr (.sl .int) ((sd.take k).map fun s=>dX s rows)),(14, .arr .int (EE rows i (sd.take k)))]) (fun k=>sd.length-k) 0 (fun k=>rfl) (aE _) rfl ?_)
  intro k hk
  have hle:=cG sd k
  have hql:=GO rows i (sd.take k)
  refine aa (av X [0,2,7,8,9,29] rfl ?_)
  refine an rfl ?_ ?_<;>intro bM
  ·try simp only[bG]at bM
   have hs:=rC (fun s=>dX s rows) sd k (aR .int) bM
   have hs2:=KY rows i sd k bM
   have hrl:=mj (sd.getD k (aR .int)) rows
   refine au (aa (aB (aM X [] [(37,⟨true,[.a (.sl .int (dX (sd.getD k (aR .int)) rows))]⟩)] [0,2,7,8,9,10] [] rfl (by(with_reducible and_intros)<;>first|exact⟨⟩|exact(pK (sd.getD k (aR .int)) rows)| (intros;omega)) (aa ?_))))
   have t1:=(AF (EE rows i (sd.take k)) (dX (sd.getD k (aR .int)) rows) (by first|assumption|omega| (simp;done)| (simp;omega)) (by first|assumption|omega| (simp;done)| (simp;omega)))
   refine bn X [] [(40,⟨true,cx t1⟩)] [0,2,7,8,9,10] [] rfl (by(with_reducible and_intros)<;>first|exact⟨⟩|exact t1) (sZ 8 14 rfl (bn X [(44,11)] [] [0,2,7,8,9] [] rfl (by and_intros<;>first|exact⟨⟩|exact rfl| (simp only[gR,maxLen,lens];omega)) (bU X [0,2,7,8,9] rfl ?_)))
   refine⟨k+1,by omega,by omega,?_⟩
   rw[bZ _ k rfl (by omega),hs,hs2]
   try rfl
  ·try simp only[bG]at bM
   exact aW (aM X [(48,11)] [] [6] [] rfl (by and_intros<;>first|exact⟨⟩|exact rfl| (simp only[gR,maxLen,lens];omega)) (aq (aj rfl ⟨by rw[aD bM,wz,if_pos hmk],⟨⟩⟩)))
end
section
set_option maxRecDepth 100000
theorem GU(x:bN)(r row s:Int)(hsv:x.aG.length≤1048576):So 143 [.agg (bw x),aI r,aI row,aI s] [.a (.sl .int (lE x.aG.length r row s))]:=by
 refine aF X call143 func143 ntmps143 rfl rfl ?_
 intro zb
 have hw:af.wrap ((x.aG.length:Int)-1)=(x.aG.length:Int)-1:=dm (by omega)
 refine av X [1,2,3,4] rfl (aO X [1,2,3,4,9] rfl (by and_intros<;>first|exact⟨⟩|exact rfl) (aa (av X [1,2,3,9,16,17] rfl ?_)))
 refine aB (aP (fun k=>k≤(x.aG.length-1)) (fun k:Nat=> [(17, .one ((aI k)))]) (fun k=> [(11, .arr .int ((lE x.aG.length r row s).take k))]) (fun k=>(x.aG.length-1)-k) 0 (fun k=>rfl) (aE _) rfl ?_)
 intro k hk
 have hle:=cG (lE x.aG.length r row s) k
 have hrl:=tT x.aG.length r row s
 refine av X [1,2,3,9,16,17,18] rfl ?_
 refine aa (an rfl ?_ ?_)<;>intro hb0
 ·try simp only[bG]at hb0
  rw[Xr _ hsv]at hb0
  have hs:=Io x.aG.length r row s k (by omega)
  refine au (aa (aB (av X [1,2,3,9,10,16,17] rfl (bn X [(28,11)] [(26,⟨false,[aI (kh s [229,r,row,(k:Int)])]⟩)] [1,2,3,9,16,17] [] rfl (by(repeat' with_reducible first|exact bH|refine bS ?_ ?_|apply bh)<;>first|exact(cI s [229,r,row,(k:Int)] (by first|assumption|omega| (simp;done)| (simp;omega)))|exact rfl|exact⟨rfl,cE _ (by decide)⟩| (simp only[gR,maxLen,lens];omega)) ?_))))
  refine bU X [1,2,3,9,16,17] rfl ?_
  refine⟨k+1,by omega,by omega,?_⟩
  rw[bZ _ k rfl (by omega),hs]
  try rfl
 ·try simp only[bG]at hb0
  rw[Xr _ hsv]at hb0
  exact aW (av X [8] rfl (aq (aj rfl ⟨by rw[aD (by omega)],⟨⟩⟩)))
end
section
set_option maxRecDepth 100000
theorem eP(d:DB)(hs0:eN aL d.rows≤1048576):So 223 [.agg (bQ d)] [.agg (bQ d)]:=by
 refine aF X call223 func223 ntmps223 rfl rfl ?_
 intro zb
 exact av X [1,2] rfl (aM X [] [(5,⟨true,[.a (.sl (.sl .u8) d.rows)]⟩)] [2] [] rfl (by(with_reducible and_intros)<;>first|exact⟨⟩|exact(qA d.rows (by first|assumption|omega| (simp;done)| (simp;omega)))) (aq (aj rfl ⟨rfl,⟨⟩⟩)))
theorem iH(d:DB)(hs0:eN aL d.rows≤1048576):So 248 [.agg (bQ d)] [.agg (bQ d)]:=by
 refine aF X call248 func248 ntmps248 rfl rfl ?_
 intro zb
 exact av X [1,2] rfl (aM X [] [(5,⟨true,[.a (.sl (.sl .u8) d.rows)]⟩)] [2] [] rfl (by(with_reducible and_intros)<;>first|exact⟨⟩|exact(vJ d.rows (by first|assumption|omega| (simp;done)| (simp;omega)))) (aq (aj rfl ⟨rfl,⟨⟩⟩)))
theorem tV(rows:Int):So 373 [aI rows] [.agg (bQ (gG rows))]:=by
 refine aF X call373 func373 ntmps373 rfl rfl ?_
 intro zb
 refine av X [0,2] rfl (av X [0,2,3] rfl (eo 3 0 60 (.sl .u8) rfl (aa (aM X [] [(6,⟨false,[aU (inr rows 0 64)]⟩)] [0,2,3,6] [] rfl (by(with_reducible and_intros)<;>first|exact⟨⟩|exact(bl rows 0 64)) ?_))))
 refine an rfl ?_ ?_<;>intro hb0
 ·try simp only[bG]at hb0
  refine av X [2,3,7,8] rfl ?_
  refine aB (aP (fun k=>k≤rows.toNat) (fun k:Nat=> [(8, .one ((aI k)))]) (fun k=> [(60, .arr (.sl .u8) ((gG rows).rows.take k))]) (fun k=>rows.toNat-k) 0 (fun k=>rfl) (aE _) rfl ?_)
  intro k hk
  have hle:=cG (gG rows).rows k
  have hnl:=wA rows
  refine av X [2,3,7,8,9] rfl ?_
  refine aa (an rfl ?_ ?_)<;>intro bM
  ·try simp only[bG]at bM
   have hs:=K3 rows k (by omega) (by omega)
   refine au (aa (aB (aQ X [(14,60)] [(500013,⟨true,[]⟩)] [2,3,7,8] [] 15 0 MO (by kernel_rfl) rfl (by kernel_rfl) (by and_intros<;>first|exact⟨⟩| (intros;omega)|exact rfl| (simp only[gR,maxLen,lens];omega)) (bU X [2,3,7,8] rfl ?_))))
   refine⟨k+1,by omega,by omega,?_⟩
   rw[bZ _ k rfl (by omega),hs]
   try rfl
  ·try simp only[bG]at bM
   exact aW (aO X [2] rfl (by trivial) (aq (aj rfl ⟨by rw[ND _ _ (by omega)],⟨⟩⟩)))
 ·try simp only[bG]at hb0
  exact au (aO X [2] rfl (by trivial) (aq (aj rfl ⟨by unfold gG;dsimp only;rw[if_neg (by omega)],⟨⟩⟩)))
theorem EI(d:DB)(i:Int)(c:List UInt8)(hs0:eN aL d.rows≤1048576)(hc:c.length≤1048576):So 397 [.agg (bQ d),aI i, .a (.sl .u8 c)] [.agg (bQ (Iq d i c)),aU (qi d i c)]:=by
 refine aF X call397 func397 ntmps397 rfl rfl ?_
 intro zb
 have mK:d.rows.length≤1048576:=eF hs0
 refine av X [1,2,3,6] rfl (aM X [] [(10,⟨true,[.agg (bQ d)]⟩)] [1,2,3,6,8] [] rfl (by(with_reducible and_intros)<;>first|exact⟨⟩|exact(eP d (by first|assumption|omega| (simp;done)| (simp;omega)))) (aa (aa ?_)))
 have t1:=(bl i 0 (af.wrap ((d.rows.length:Int)-1)))
 refine bn X [] [(16,⟨false,cx t1⟩)] [1,2,6,8,22] [] rfl (by(with_reducible and_intros)<;>first|exact⟨⟩|exact t1) ?_
 refine an rfl ?_ ?_<;>intro hb0
 ·have My:qi d i c=false:=cR hb0 (by simp only[qi,bC]<;>first|rfl|ac_rfl)
  exact aO X [6,7] rfl (by trivial) (aq (aj rfl ⟨by rw[NF My],by rw[My],⟨⟩⟩))
 ·have My:qi d i c=true:=cL hb0 (by simp only[qi,bC]<;>first|rfl|ac_rfl)
  have hrb:=Po mK My
  exact au (aa (aQ X [] [(28,⟨true,[.a (.sl .u8 _)]⟩)] [6,8] [] 63 0 MO (by kernel_rfl) rfl (by kernel_rfl) (by(with_reducible and_intros)<;>first|exact⟨⟩|exact(dW _ (by first|assumption|omega| (simp;done)| (simp;omega)))| (intros;omega)) (aO X [6,7] rfl (by trivial) (aq (aj rfl ⟨by rw[BU My],by rw[My],⟨⟩⟩)))))
theorem ng(a b:DB)(hs0:eN aL a.rows≤1048576)(hs1:eN aL b.rows≤1048576):So 324 [.agg (bQ a), .agg (bQ b)] [.agg (bQ (lf a b)),aU (mO a b)]:=by
 refine aF X call324 func324 ntmps324 rfl rfl ?_
 intro zb
 have hla:a.rows.length≤1048576:=eF hs0
 have hlb:b.rows.length≤1048576:=eF hs1
 refine av X [2,3,4] rfl (aM X [] [(10,⟨true,[.agg (bQ a)]⟩)] [2,3,4,6] [] rfl (by(with_reducible and_intros)<;>first|exact⟨⟩|exact(eP a (by first|assumption|omega| (simp;done)| (simp;omega)))) (aa (aM X [] [(12,⟨false,[aU (eZ a)]⟩),(16,⟨false,[aU (eZ b)]⟩)] [3,4,6,27] [] rfl (by(with_reducible and_intros);(iterate 2 all_goals try first|exact⟨⟩|exact(gh a)|exact fun _=>(gh b))) ?_)))
 refine an rfl ?_ ?_<;>intro hb0
 ·have CM:mO a b=false:=cR hb0 (by simp only[mO,bC]<;>first|rfl|ac_rfl)
  exact aO X [4,5] rfl (by trivial) (aq (aj rfl ⟨by rw[wD CM],by rw[CM],⟨⟩⟩))
 ·have CM:mO a b=true:=cL hb0 (by simp only[mO,bC]<;>first|rfl|ac_rfl)
  have hxb:=AG CM
  have hxl:=oy CM
  refine au (aa (av X [4,6,30,31,32] rfl ?_))
  refine aB (aP (fun k=>k≤b.rows.length) (fun k:Nat=> [(32, .one ((aI k)))]) (fun k=> [(10, .arr (.sl .u8) ((kf a b).take k++a.rows.drop k))]) (fun k=>b.rows.length-k) 0 (fun k=>rfl) (aE _) rfl ?_)
  intro k hk
  have hle:=pg (kf a b) a.rows k hxl (by omega)
  refine av X [4,6,30,31,32,33] rfl ?_
  refine aa (an rfl ?_ ?_)<;>intro bM
  ·try simp only[bG]at bM
   have hs:=Se CM k bM
   have aoK:(a.rows.getD k (aR (.sl .u8))).length≤1048576:=by rw[uU hxb.1 k (by omega)];decide
   have aq5:(b.rows.getD k (aR (.sl .u8))).length≤1048576:=by rw[uU hxb.2.1 k (by omega)];decide
   have hel:(((kf a b).take k++a.rows.drop k).getD k (aR (.sl .u8))).length≤1048576:=by rw[ahy CM k bM];exact aoK
   refine au (aa (aB (aO X [4,6,7,8,30,31,32] rfl (by and_intros<;>first|exact⟨⟩| (intros;omega)) ?_)))
   have t1:=(nP (((kf a b).take k++a.rows.drop k).getD k (aR (.sl .u8))) (b.rows.getD k (aR (.sl .u8))) (by first|assumption|omega| (simp;done)| (simp;omega)) (by first|assumption|omega| (simp;done)| (simp;omega)))
   refine aQ X [] [(46,⟨true,cx t1⟩)] [4,6,30,31,32] [] 2047 0 MO (by kernel_rfl) rfl (by kernel_rfl) (by(with_reducible and_intros)<;>first|exact⟨⟩|exact t1| (intros;omega)) (bU X [4,6,30,31,32] rfl ?_)
   refine⟨k+1,by omega,by omega,?_⟩
   rw[bZ _ k rfl (by omega),hs]
   try rfl
  ·try simp only[bG]at bM
   exact aW (aO X [4,5] rfl (by trivial) (aq (aj rfl ⟨by rw[sR _ _ _ hxl (by omega),BV CM],by rw[CM],⟨⟩⟩)))
theorem EJ(x:bN)(c:Int)(hsv:x.aG.length≤1048576):So 316 [.agg (bw x),aI c] [.a (.sl .int (mm x c))]:=by
 refine aF X call316 func316 ntmps316 rfl rfl ?_
 intro zb
 have hw:af.wrap ((x.aG.length:Int)-1)=(x.aG.length:Int)-1:=dm (by omega)
 refine av X [1,2] rfl (aO X [1,2,5] rfl (by and_intros<;>first|exact⟨⟩|exact rfl) (aa (av X [1,2,5,12,13] rfl ?_)))
 refine aB (aP (fun k=>k≤(x.aG.length-1)) (fun k:Nat=> [(13, .one ((aI k)))]) (fun k=> [(7, .arr .int ((mm x c).take k))]) (fun k=>(x.aG.length-1)-k) 0 (fun k=>rfl) (aE _) rfl ?_)
 intro k hk
 have hle:=cG (mm x c) k
 have hrl:=oz x c
 refine av X [1,2,5,12,13,14] rfl ?_
 refine aa (an rfl ?_ ?_)<;>intro hb0
 ·try simp only[bG]at hb0
  rw[Xr _ hsv]at hb0
  have hs:=Ir x c k (by omega)
  refine au (aa (aB (av X [1,2,5,6,12,13] rfl (bn X [(26,7)] [(24,⟨false,[aI (kh x.seed [223,x.round,c,(k:Int)])]⟩)] [1,2,5,12,13] [] rfl (by(repeat' with_reducible first|exact bH|refine bS ?_ ?_|apply bh)<;>first|exact(cI x.seed [223,x.round,c,(k:Int)] (by first|assumption|omega| (simp;done)| (simp;omega)))|exact rfl|exact⟨rfl,cE _ (by decide)⟩| (simp only[gR,maxLen,lens];omega)) ?_))))
  refine bU X [1,2,5,12,13] rfl ?_
  refine⟨k+1,by omega,by omega,?_⟩
  rw[bZ _ k rfl (by omega),hs]
  try rfl
 ·try simp only[bG]at hb0
  rw[Xr _ hsv]at hb0
  exact aW (av X [4] rfl (aq (aj rfl ⟨by rw[aD (by omega)],⟨⟩⟩)))
theorem tW(rows:Int):So 406 [aI rows] [.agg (bQ (gG rows))]:=by
 refine aF X call406 func406 ntmps406 rfl rfl ?_
 intro zb
 refine av X [0,2] rfl (av X [0,2,3] rfl (eo 3 0 60 (.sl .u8) rfl (aa (av X [0,2,3,4] rfl ?_))))
 refine aB (aP (fun k=>k≤(gG rows).rows.length) (fun k:Nat=> [(4, .one ((aI k)))]) (fun k=> [(60, .arr (.sl .u8) ((gG rows).rows.take k))]) (fun k=>(gG rows).rows.length-k) 0 (fun k=>rfl) (aE _) rfl ?_)
 intro k hk
 have hle:=cG (gG rows).rows k
 have hnl:=wA rows
 refine aa (av X [0,2,3,4,12] rfl ?_)
 refine an rfl ?_ ?_<;>intro hb0
 ·try simp only[bG]at hb0
  have hin:=ac9 rows k (by omega) (by omega)
  have hs:=K3 rows k (by omega) (by omega)
  refine au (aa (aB (aQ X [(19,60)] [(500018,⟨true,[]⟩)] [0,2,3,4] [] 15 0 MO (by kernel_rfl) rfl (by kernel_rfl) (by and_intros<;>first|exact⟨⟩| (intros;omega)|exact rfl| (simp only[gR,maxLen,lens];omega)) (bU X [0,2,3,4] rfl ?_))))
  refine⟨k+1,by omega,by omega,?_⟩
  rw[bZ _ k rfl (by omega),hs]
  try rfl
 ·try simp only[bG]at hb0
  exact aW (aO X [2] rfl (by trivial) (aq (aj rfl ⟨by rw[ND _ _ (by omega)],⟨⟩⟩)))
theorem EK(d:DB)(i:Int)(c:List UInt8)(hs0:eN aL d.rows≤1048576)(hc:c.length≤1048576):So 405 [.agg (bQ d),aI i, .a (.sl .u8 c)] [.agg (bQ (Iq d i c)),aU (qi d i c)]:=by
 refine aF X call405 func405 ntmps405 rfl rfl ?_
 intro zb
 have mK:d.rows.length≤1048576:=eF hs0
 refine av X [1,2,3,6] rfl (aM X [] [(10,⟨true,[.agg (bQ d)]⟩)] [1,2,3,6,8] [] rfl (by(with_reducible and_intros)<;>first|exact⟨⟩|exact(iH d (by first|assumption|omega| (simp;done)| (simp;omega)))) (aa (aa ?_)))
 have t1:=(bD i 0 (af.wrap ((d.rows.length:Int)-1)))
 refine bn X [] [(16,⟨false,cx t1⟩)] [1,2,6,8,22] [] rfl (by(with_reducible and_intros)<;>first|exact⟨⟩|exact t1) ?_
 refine an rfl ?_ ?_<;>intro hb0
 ·have My:qi d i c=false:=cR hb0 (by simp only[qi,bC]<;>first|rfl|ac_rfl)
  exact aO X [6,7] rfl (by trivial) (aq (aj rfl ⟨by rw[NF My],by rw[My],⟨⟩⟩))
 ·have My:qi d i c=true:=cL hb0 (by simp only[qi,bC]<;>first|rfl|ac_rfl)
  have hrb:=Po mK My
  exact au (aa (aQ X [(29,27)] [] [6,8] [] 95 5 MO (by kernel_rfl) rfl (by kernel_rfl) (by and_intros<;>first|exact⟨⟩| (intros;omega)|exact rfl| (simp only[gR,maxLen,lens];omega)) (aO X [6,7] rfl (by trivial) (aq (aj rfl ⟨by rw[BU My];rfl,by rw[My],⟨⟩⟩)))))
theorem nh(a b:DB)(hs0:eN aL a.rows≤1048576)(hs1:eN aL b.rows≤1048576):So 388 [.agg (bQ a), .agg (bQ b)] [.agg (bQ (lf a b)),aU (mO a b)]:=by
 refine aF X call388 func388 ntmps388 rfl rfl ?_
 intro zb
 have hla:a.rows.length≤1048576:=eF hs0
 have hlb:b.rows.length≤1048576:=eF hs1
 refine av X [2,3,4] rfl (aa (aM X [] [(9,⟨false,[aU (eZ a)]⟩),(13,⟨false,[aU (eZ b)]⟩)] [2,3,4,24] [] rfl (by(with_reducible and_intros);(iterate 2 all_goals try first|exact⟨⟩|exact(fk a)|exact fun _=>(fk b))) ?_))
 refine an rfl ?_ ?_<;>intro hb0
 ·have CM:mO a b=false:=cR hb0 (by simp only[mO,bC]<;>first|rfl|ac_rfl)
  exact aM X [] [(26,⟨true,[.agg (bQ a)]⟩)] [4,5] [] rfl (by(with_reducible and_intros)<;>first|exact⟨⟩|exact(iH a (by first|assumption|omega| (simp;done)| (simp;omega)))) (aq (aj rfl ⟨by rw[wD CM],by rw[CM],⟨⟩⟩))
 ·have CM:mO a b=true:=cL hb0 (by simp only[mO,bC]<;>first|rfl|ac_rfl)
  have hxb:=AG CM
  have hxl:=oy CM
  refine au (av X [2,3,4,6] rfl (eo 6 0 60 (.sl .u8) rfl (aa (av X [2,3,4,6,7] rfl ?_))))
  refine aB (aP (fun k=>k≤a.rows.length) (fun k:Nat=> [(7, .one ((aI k)))]) (fun k=> [(60, .arr (.sl .u8) ((kf a b).take k))]) (fun k=>a.rows.length-k) 0 (fun k=>rfl) (aE _) rfl ?_)
  intro k hk
  have hle:=cG (kf a b) k
  refine aa (av X [2,3,4,6,7,32] rfl ?_)
  refine an rfl ?_ ?_<;>intro bM
  ·try simp only[bG]at bM
   have hs:=Sd CM k bM
   have aoK:(a.rows.getD k (aR (.sl .u8))).length≤1048576:=by rw[uU hxb.1 k (by omega)];decide
   have aq5:(b.rows.getD k (aR (.sl .u8))).length≤1048576:=by rw[uU hxb.2.1 k (by omega)];decide
   refine au (aa (aB ?_))
   have t1:=(nQ (a.rows.getD k (aR (.sl .u8))) (b.rows.getD k (aR (.sl .u8))) (by first|assumption|omega| (simp;done)| (simp;omega)) (by first|assumption|omega| (simp;done)| (simp;omega)))
   refine aQ X [(49,60)] [(47,⟨true,cx t1⟩),(500048,⟨true,[]⟩)] [2,3,4,6,7] [] 16383 0 MO (by kernel_rfl) rfl (by kernel_rfl) (by(repeat' with_reducible first|exact bH|refine bS ?_ ?_|apply bh)<;>first|exact t1| (intros;omega)|exact rfl|exact⟨rfl,cE _ (by decide)⟩| (simp only[gR,maxLen,lens];omega)) ?_
   refine bU X [2,3,4,6,7] rfl ?_
   refine⟨k+1,by omega,by omega,?_⟩
   rw[bZ _ k rfl (by omega),hs]
   try rfl
  ·try simp only[bG]at bM
   exact aW (aO X [4,5] rfl (by trivial) (aq (aj rfl ⟨by rw[aD (by omega),BV CM],by rw[CM],⟨⟩⟩)))
theorem EL(x:bN)(c:Int)(hsv:x.aG.length≤1048576):So 384 [.agg (bw x),aI c] [.a (.sl .int (mm x c))]:=by
 refine aF X call384 func384 ntmps384 rfl rfl ?_
 intro zb
 have hw:af.wrap ((x.aG.length:Int)-1)=(x.aG.length:Int)-1:=dm (by omega)
 refine av X [1,2] rfl (aO X [1,2,5] rfl (by and_intros<;>first|exact⟨⟩|exact rfl) (aa (av X [1,2,5,6] rfl ?_)))
 refine aB (aP (fun k=>k≤(x.aG.length-1)) (fun k:Nat=> [(6, .one ((aI k)))]) (fun k=> [(7, .arr .int ((mm x c).take k))]) (fun k=>(x.aG.length-1)-k) 0 (fun k=>rfl) (aE _) rfl ?_)
 intro k hk
 have hle:=cG (mm x c) k
 have hrl:=oz x c
 refine aa (av X [1,2,5,6,13] rfl ?_)
 refine an rfl ?_ ?_<;>intro hb0
 ·try simp only[bG]at hb0
  rw[hw]at hb0
  have hs:=Ir x c k (by omega)
  refine au (aa (aB (bn X [(26,7)] [(24,⟨false,[aI (kh x.seed [223,x.round,c,(k:Int)])]⟩)] [1,2,5,6] [] rfl (by(repeat' with_reducible first|exact bH|refine bS ?_ ?_|apply bh)<;>first|exact(cJ x.seed [223,x.round,c,(k:Int)] (by first|assumption|omega| (simp;done)| (simp;omega)))|exact rfl|exact⟨rfl,cE _ (by decide)⟩| (simp only[gR,maxLen,lens];omega)) ?_)))
  refine bU X [1,2,5,6] rfl ?_
  refine⟨k+1,by omega,by omega,?_⟩
  rw[bZ _ k rfl (by omega),hs]
  try rfl
 ·try simp only[bG]at hb0
  rw[hw]at hb0
  exact aW (av X [4] rfl (aq (aj rfl ⟨by rw[aD (by omega)],⟨⟩⟩)))
theorem GY(rows i:Int)(c:List UInt8)(hc:c.length≤1048576):So 369 [aI rows,aI i, .a (.sl .u8 c)] [.agg (bQ (unW rows i c)),aU (wE rows i c)]:=by
 refine aF X call369 func369 ntmps369 rfl rfl ?_
 intro zb
 have hz:=NG rows
 refine av X [0,1,2,6] rfl (aa (aM X [] [(9,⟨false,[aU (inr rows 1 64)]⟩)] [0,1,2,6,10] [] rfl (by(with_reducible and_intros)<;>first|exact⟨⟩|exact(bl rows 1 64)) ?_))
 refine an rfl ?_ ?_<;>intro hb0
 ·have hk:inr rows 1 64=false:=by simpa using hb0
  exact aO X [6,7] rfl (by trivial) (aq (aj rfl ⟨by rw[unW,hk];rfl,by rw[wE,hk];rfl,⟨⟩⟩))
 ·have hk:inr rows 1 64=true:=by simpa using hb0
  refine au (aa ?_)
  have t1:=(EI (gG rows) i c (by first|assumption|omega| (simp;done)| (simp;omega)) (by first|assumption|omega| (simp;done)| (simp;omega)))
  exact bn X [] [(13,⟨true,[.agg (bQ (gG rows))]⟩),(16,⟨true,cx t1⟩)] [6,7] [] rfl (by(with_reducible and_intros);(iterate 2 all_goals try first|exact⟨⟩|exact(tV rows)|exact t1)) (aq (aj rfl ⟨by rw[unW,if_pos hk],by rw[wE,hk];rfl,⟨⟩⟩))
end
section
set_option maxRecDepth 100000
theorem GZ(rows i:Int)(c:List UInt8)(sd:List Int)(hc:c.length≤1048576)(En:sd.length≤1048576):So 315 [aI rows,aI i, .a (.sl .u8 c), .a (.sl .int sd)] [.a (.sl .DB (wH rows i c sd))]:=by
 refine aF X call315 func315 ntmps315 rfl rfl ?_
 intro zb
 refine av X [0,1,2,3] rfl (aM X [] [(20,⟨true,[.agg (bQ (unW rows i c)),aU (wE rows i c)]⟩)] [0,3,9,10] [] rfl (by(with_reducible and_intros)<;>first|exact⟨⟩|exact(GY rows i c (by first|assumption|omega| (simp;done)| (simp;omega)))) (aa (aM X [] [(29,⟨false,[aU (dG (af.wrap ((sd.length:Int)+1)))]⟩)] [0,3,9,31] [] rfl (by(with_reducible and_intros)<;>first|exact⟨⟩|exact fun _=>(ff (af.wrap ((sd.length:Int)+1)))) ?_)))
 refine an rfl ?_ ?_<;>intro hb0
 ·have hmk:ze rows i c sd=false:=cR hb0 (by simp only[ze,bC]<;>first|rfl|ac_rfl)
  exact av X [8] rfl (aq (aj rfl ⟨by rw[wH,if_neg (by rw[hmk];decide)],⟨⟩⟩))
 ·have hmk:ze rows i c sd=true:=cL hb0 (by simp only[ze,bC]<;>first|rfl|ac_rfl)
  have hml:=Sq hmk En
  have hun:=Pu hml.1
  refine au (aO X [0,3,9,11] rfl (by and_intros<;>first|exact⟨⟩|exact rfl) (aa (av X [0,9,11,33,34,35] rfl ?_)))
  refine aB (aP (fun k=>k≤sd.length) (fun k:Nat=> [(35, .one ((aI k)))]) (fun k=> [(32, .arr .DB ((sd.take k).map fun s=>mdb s rows)),(20, .arr (.sl .u8) (CN rows i c (sd.take k)).rows)]) (fun k=>sd.length-k) 0 (fun k=>rfl) (aE _) rfl ?_)
  intro k hk
  have hle:=cG sd k
  have hlo:=La hml.1 (sd.take k)
  have hlz:=gX hlo
  refine av X [0,9,11,33,34,35,36] rfl ?_
  refine aa (an rfl ?_ ?_)<;>intro bM
  ·try simp only[bG]at bM
   have hs:=rC (fun s=>mdb s rows) sd k (aR .int) bM
   have hs2:=K9 rows i c sd k bM
   have hmo:=Pt (sd.getD k (aR .int)) rows hun.2.2
   have hmz:=gX hmo
   refine au (aa (aB (aO X [0,9,11,13,33,34,35] rfl (by and_intros<;>first|exact⟨⟩| (intros;omega)) (av X [0,9,11,13,14,33,34,35] rfl (eo 14 0 60 (.sl .u8) rfl (aa (av X [0,9,11,13,14,33,34,35,40,41] rfl ?_)))))))
   refine aB (aP (fun k1=>k1≤rows.toNat) (fun k1:Nat=> [(41, .one ((aI k1)))]) (fun k1=> [(60, .arr (.sl .u8) ((kR (sd.getD k (aR .int)) rows).take k1))]) (fun k1=>rows.toNat-k1) 0 (fun k1=>rfl) (aE _) rfl ?_)
   intro k1 hk1
   have IX:=cG (kR (sd.getD k (aR .int)) rows) k1
   refine av X [0,9,11,13,14,33,34,35,40,41,42] rfl ?_
   refine aa (an rfl ?_ ?_)<;>intro cS
   ·try simp only[bG]at cS
    have hs1:=EM (sd.getD k (aR .int)) rows k1 (by omega)
    refine au (aa (aB (av X [0,9,11,13,14,15,33,34,35,40,41] rfl ?_)))
    have t1:=(og (af.wrap ((sd.getD k (aR .int))+af.wrap (1000*(k1:Int)))) 24 (by first|assumption|omega| (simp;done)| (simp;omega)) (by first|assumption|omega| (simp;done)| (simp;omega)))
    refine aQ X [(52,60)] [(50,⟨true,cx t1⟩),(500051,⟨true,[]⟩)] [0,9,11,13,14,33,34,35,40,41] [] 255 0 MO (by kernel_rfl) rfl (by kernel_rfl) (by(repeat' with_reducible first|exact bH|refine bS ?_ ?_|apply bh)<;>first|exact t1|exact rfl|exact⟨rfl,cE _ (by decide)⟩| (simp only[gR,maxLen,lens];omega)) ?_
    refine bU X [0,9,11,13,14,33,34,35,40,41] rfl ?_
    refine⟨k1+1,by omega,by omega,?_⟩
    rw[bZ _ k1 rfl (by omega),hs1]
    try rfl
   ·try simp only[bG]at cS
    rw[aD (show(kR (sd.getD k (aR .int)) rows).length≤k1 by rw[rG];omega)]
    refine aW (aa (Xs X [(58,32)] [] [0,9,11,14,33,34,35] 2 32 rfl (by and_intros<;>first|exact⟨⟩|exact rfl| (simp only[gR,maxLen,lens];omega)) ?_))
    have t1:=(ng (CN rows i c (sd.take k)) (mdb (sd.getD k (aR .int)) rows) (by first|assumption|omega| (simp;done)| (simp;omega)) (by first|assumption|omega| (simp;done)| (simp;omega)))
    refine bn X [] [(62,⟨true,cx t1⟩)] [0,9,11,33,34,35] [] rfl (by(with_reducible and_intros)<;>first|exact⟨⟩|exact t1) (qE 9 0 20 rfl (bU X [0,9,11,33,34,35] rfl ?_))
    refine⟨k+1,by omega,by omega,?_⟩
    rw[bZ _ k rfl (by omega),hs,hs2]
    try rfl
  ·try simp only[bG]at bM
   exact aW (aM X [(69,32)] [] [8] [] rfl (by and_intros<;>first|exact⟨⟩|exact rfl| (simp only[gR,maxLen,lens];omega)) (aq (aj rfl ⟨by rw[aD bM,wH,if_pos hmk],⟨⟩⟩)))
theorem Mz(rows i:Int)(c:List UInt8):So 404 [aI rows,aI i, .a (.sl .u8 c)] [aU (wE rows i c)]:=by
 refine aF X call404 func404 ntmps404 rfl rfl ?_
 intro zb
 exact av X [0,1,2] rfl (aM X [] [(8,⟨false,[aU (inr rows 1 64)]⟩),(13,⟨false,[aU (inr i 0 (af.wrap (rows-1)))]⟩)] [6] [] rfl (by(with_reducible and_intros);(iterate 2 all_goals try first|exact⟨⟩|exact(bD rows 1 64)|exact fun _=>(bD i 0 (af.wrap (rows-1))))) (aq (aj rfl ⟨by rw[Sr];exact(congrArg dO (by simp only[bC]<;>first|rfl|ac_rfl)),⟨⟩⟩)))
theorem G0(rows i:Int)(c:List UInt8)(sd:List Int)(hc:c.length≤1048576)(En:sd.length≤1048576):So 383 [aI rows,aI i, .a (.sl .u8 c), .a (.sl .int sd)] [.a (.sl .DB (wH rows i c sd))]:=by
 refine aF X call383 func383 ntmps383 rfl rfl ?_
 intro zb
 have hz:=NG rows
 refine av X [0,1,2,3] rfl (aO X [0,1,2,3,9] rfl (by and_intros<;>first|exact⟨⟩|exact rfl) (aa (aM X [] [(19,⟨false,[aU (wE rows i c)]⟩),(25,⟨false,[aU (dG (af.wrap ((sd.length:Int)+1)))]⟩)] [0,1,2,3,9,27] [] rfl (by(with_reducible and_intros);(iterate 2 all_goals try first|exact⟨⟩|exact(Mz rows i c)|exact fun _=>(iQ (af.wrap ((sd.length:Int)+1))))) ?_)))
 refine an rfl ?_ ?_<;>intro hb0
 ·have hmk:ze rows i c sd=false:=cR hb0 (by simp only[ze,bC]<;>first|rfl|ac_rfl)
  exact av X [8] rfl (aq (aj rfl ⟨by rw[wH,if_neg (by rw[hmk];decide)],⟨⟩⟩))
 ·have hmk:ze rows i c sd=true:=cL hb0 (by simp only[ze,bC]<;>first|rfl|ac_rfl)
  have hml:=Sq hmk En
  have hun:=Pu hml.1
  refine au (aa ?_)
  have t1:=(EK (gG rows) i c (by first|assumption|omega| (simp;done)| (simp;omega)) (by first|assumption|omega| (simp;done)| (simp;omega)))
  refine bn X [] [(31,⟨true,[.agg (bQ (gG rows))]⟩),(34,⟨true,cx t1⟩)] [0,3,9,10] [] rfl (by(with_reducible and_intros);(iterate 2 all_goals try first|exact⟨⟩|exact(tW rows)|exact t1)) ?_
  rw[ahF hmk]
  refine aa (av X [0,3,9,10,12] rfl ?_)
  refine aB (aP (fun k=>k≤sd.length) (fun k:Nat=> [(12, .one ((aI k)))]) (fun k=> [(15, .arr .DB ((sd.take k).map fun s=>mdb s rows)),(34, .arr (.sl .u8) (CN rows i c (sd.take k)).rows)]) (fun k=>sd.length-k) 0 (fun k=>rfl) (aE _) rfl ?_)
  intro k hk
  have hle:=cG sd k
  have hlo:=La hml.1 (sd.take k)
  have hlz:=gX hlo
  refine aa (av X [0,3,9,10,12,40] rfl ?_)
  refine an rfl ?_ ?_<;>intro bM
  ·try simp only[bG]at bM
   have hs:=rC (fun s=>mdb s rows) sd k (aR .int) bM
   have hs2:=K9 rows i c sd k bM
   have hmo:=Pt (sd.getD k (aR .int)) rows hun.2.2
   have hmz:=gX hmo
   refine au (aa (aB (av X [0,3,9,10,12,13] rfl (eo 13 0 60 (.sl .u8) rfl (aa (av X [0,3,9,10,12,13,14] rfl ?_))))))
   refine aB (aP (fun k1=>k1≤rows.toNat) (fun k1:Nat=> [(14, .one ((aI k1)))]) (fun k1=> [(60, .arr (.sl .u8) ((kR (sd.getD k (aR .int)) rows).take k1))]) (fun k1=>rows.toNat-k1) 0 (fun k1=>rfl) (aE _) rfl ?_)
   intro k1 hk1
   have IX:=cG (kR (sd.getD k (aR .int)) rows) k1
   refine aa (av X [0,3,9,10,12,13,14,46] rfl ?_)
   refine an rfl ?_ ?_<;>intro cS
   ·try simp only[bG]at cS
    have hs1:=EM (sd.getD k (aR .int)) rows k1 (by omega)
    refine au (aa (aB ?_))
    have t1:=(oo (af.wrap ((sd.getD k (aR .int))+af.wrap (1000*(k1:Int)))) 24 (by first|assumption|omega| (simp;done)| (simp;omega)) (by first|assumption|omega| (simp;done)| (simp;omega)))
    refine aQ X [(60,60)] [(58,⟨true,cx t1⟩),(500059,⟨true,[]⟩)] [0,3,9,10,12,13,14] [] 2047 0 MO (by kernel_rfl) rfl (by kernel_rfl) (by(repeat' with_reducible first|exact bH|refine bS ?_ ?_|apply bh)<;>first|exact t1| (intros;omega)|exact rfl|exact⟨rfl,cE _ (by decide)⟩| (simp only[gR,maxLen,lens];omega)) ?_
    refine bU X [0,3,9,10,12,13,14] rfl ?_
    refine⟨k1+1,by omega,by omega,?_⟩
    rw[bZ _ k1 rfl (by omega),hs1]
    try rfl
   ·try simp only[bG]at cS
    rw[aD (show(kR (sd.getD k (aR .int)) rows).length≤k1 by rw[rG];omega)]
    refine aW (aa ?_)
    have t1:=(nh (CN rows i c (sd.take k)) (mdb (sd.getD k (aR .int)) rows) (by first|assumption|omega| (simp;done)| (simp;omega)) (by first|assumption|omega| (simp;done)| (simp;omega)))
    refine bn X [] [(65,⟨true,cx t1⟩)] [0,3,9,10,12,13] [] rfl (by(with_reducible and_intros)<;>first|exact⟨⟩|exact t1) (qE 10 0 34 rfl (bn X [(71,15)] [] [0,3,9,10,12] [] rfl (by and_intros<;>first|exact⟨⟩|exact rfl| (simp only[gR,maxLen,lens];omega)) (bU X [0,3,9,10,12] rfl ?_)))
    refine⟨k+1,by omega,by omega,?_⟩
    rw[bZ _ k rfl (by omega),hs,hs2]
    try rfl
  ·try simp only[bG]at bM
   exact aW (aM X [(75,15)] [] [8] [] rfl (by and_intros<;>first|exact⟨⟩|exact rfl| (simp only[gR,maxLen,lens];omega)) (aq (aj rfl ⟨by rw[aD bM,wH,if_pos hmk],⟨⟩⟩)))
end
section
set_option maxRecDepth 100000
theorem Dm(x:bN)(c:Int)(hsv:x.aG.length≤1048576):So 258 [.agg (bw x),aI c] [.a (.sl .DB (pL x c))]:=by
 refine aF X call258 func258 ntmps258 rfl rfl ?_
 intro zb
 refine b7 0 2 rfl rfl (fun qS=> ?_)
 have hcl:=Lb (Ss x c) x.round x.rows
 have hwl:=oz x c
 refine av X [1,2] rfl (aa (aM X [] [(9,⟨false,[aU (okW x)]⟩),(14,⟨false,[aU (kA x c)]⟩)] [1,2,16] [] rfl (by(with_reducible and_intros);(iterate 2 all_goals try first|exact⟨⟩|exact(dy x)|exact fun _=>(gj x c))) ?_))
 refine an rfl ?_ ?_<;>intro hb0
 ·have hk:Sv x c=false:=cR hb0 (by simp only[Sv,bC]<;>first|rfl|ac_rfl)
  exact av X [4] rfl (aq (aj rfl ⟨by rw[pL,if_neg (by rw[hk];decide)],⟨⟩⟩))
 ·have hk:Sv x c=true:=cL hb0 (by simp only[Sv,bC]<;>first|rfl|ac_rfl)
  have hkc:=al2 hk
  refine au (aa ?_)
  have t1:=(Dg (Ss x c) x.round x.rows)
  refine aQ X [] [(28,⟨true,cx t1⟩)] [1,2,5,6,7] [] 262143 0 MO (by kernel_rfl) rfl (by kernel_rfl) (by(with_reducible and_intros)<;>first|exact⟨⟩|exact t1| (intros;omega)) (aa (av X [1,2,5,6,33] rfl ?_))
  refine an rfl ?_ ?_<;>intro bM
  ·have hw:uF (Ss x c) x.round x.rows=false:=by simpa using bM
   exact av X [4] rfl (aq (aj rfl ⟨by rw[pL,if_pos hk,Su hw],⟨⟩⟩))
  ·refine au (aa ?_)
   have t1:=(GZ x.rows (tP (Ss x c) x.round x.rows) (lD (Ss x c) x.round x.rows) (mm x c) (by first|assumption|omega| (simp;done)| (simp;omega)) (by first|assumption|omega| (simp;done)| (simp;omega)))
   exact aQ X [] [(40,⟨true,[.a (.sl .int (mm x c))]⟩),(41,⟨true,cx t1⟩)] [4] [] 511 0 MO (by kernel_rfl) rfl (by kernel_rfl) (by(with_reducible and_intros);(iterate 2 all_goals try first|exact⟨⟩|exact(EJ x c (by first|assumption|omega| (simp;done)| (simp;omega)))|exact t1)) (aq (aj rfl ⟨by rw[pL,if_pos hk];rfl,⟨⟩⟩))
theorem G1(x:bN)(c:Int)(hsv:x.aG.length≤1048576)(hc:0≤c∧c<x.ah.length):So 353 [.agg (bw x),aI c] [.a (.sl .DB (gy x c))]:=by
 refine aF X call353 func353 ntmps353 rfl rfl ?_
 intro zb
 refine b7 0 2 rfl rfl (fun qS=> ?_)
 have hcl:=Lb (Ss x c) x.round x.rows
 have hwl:=oz x c
 refine av X [1,2] rfl (aa ?_)
 have t1:=(Dh (Ss x c) x.round x.rows)
 refine aQ X [] [(19,⟨true,cx t1⟩)] [1,2,5,6] [] 262143 0 MO (by kernel_rfl) rfl (by kernel_rfl) (by(with_reducible and_intros)<;>first|exact⟨⟩|exact t1| (intros;omega)) (aa ?_)
 have t1:=(G0 x.rows (tP (Ss x c) x.round x.rows) (lD (Ss x c) x.round x.rows) (mm x c) (by first|assumption|omega| (simp;done)| (simp;omega)) (by first|assumption|omega| (simp;done)| (simp;omega)))
 exact aQ X [] [(29,⟨true,[.a (.sl .int (mm x c))]⟩),(30,⟨true,cx t1⟩)] [4] [] 511 0 MO (by kernel_rfl) rfl (by kernel_rfl) (by(with_reducible and_intros);(iterate 2 all_goals try first|exact⟨⟩|exact(EL x c (by first|assumption|omega| (simp;done)| (simp;omega)))|exact t1)) (aq (aj rfl ⟨rfl,⟨⟩⟩))
end
section
set_option maxRecDepth 100000
theorem mR(m s:Int):So 145 [aI m,aI s] [aI (nF m s)]:=by
 refine aF X call145 func145 ntmps145 rfl rfl ?_
 intro zb
 refine av X [0,1] rfl (aM X [] [(8,⟨false,[aI (kh m [173,s])]⟩),(9,⟨false,[aI (F6 (kh m [173,s]))]⟩)] [4] [] rfl (by(repeat' with_reducible first|exact bH|refine bS ?_ ?_|apply bh);(iterate 2 all_goals try first|exact(cI m [173,s] (by first|assumption|omega| (simp;done)| (simp;omega)))|exact(pz (kh m [173,s])));all_goals first|exact⟨rfl,cE _ (by decide)⟩) ?_)
 exact aq (aj rfl ⟨rfl,⟨⟩⟩)
theorem zf(d:DB)(hs0:eN aL d.rows≤1048576):So 372 [.agg (bQ d)] [aI (Px d)]:=by
 refine aF X call372 func372 ntmps372 rfl rfl ?_
 intro zb
 have mK:d.rows.length≤1048576:=eF hs0
 refine av X [1] rfl (aO X [1,3] rfl (by and_intros<;>first|exact⟨⟩|exact rfl) (aa (av X [3,11,12,13] rfl ?_)))
 refine aB (aP (fun k=>k≤d.rows.length) (fun k:Nat=> [(13, .one ((aI k)))]) (fun k=> [(9, .arr .int ((d.rows.length:Int)::(d.rows.take k).flatMap Mk))]) (fun k=>d.rows.length-k) 0 (fun k=>rfl) (aE _) rfl ?_)
 intro k hk
 have hdl:=adk d.rows k
 refine av X [3,11,12,13,14] rfl ?_
 refine aa (an rfl ?_ ?_)<;>intro hb0
 ·try simp only[bG]at hb0
  have hs:=Xz d.rows k hb0
  have hel:(d.rows.getD k (aR (.sl .u8))).length≤1048576:=mG (f:=aL) hs0 (getD_some d.rows _ k hb0)
  have Kc:=xW (d.rows.getD k (aR (.sl .u8)))
  refine au (aa (aB (aO X [3,5,11,12,13] rfl (by and_intros<;>first|exact⟨⟩| (intros;omega)) (bn X [(20,9)] [(19,⟨true,[.a (.sl .int (Mk (d.rows.getD k (aR (.sl .u8)))))]⟩)] [3,11,12,13] [] rfl (by(with_reducible and_intros)<;>first|exact⟨⟩|exact(tI (d.rows.getD k (aR (.sl .u8))) (by first|assumption|omega| (simp;done)| (simp;omega)))|exact rfl| (simp only[gR,maxLen,lens];omega)) (bU X [3,11,12,13] rfl ?_)))))
  refine⟨k+1,by omega,by omega,?_⟩
  rw[bZ _ k rfl (by omega),hs]
  try rfl
 ·try simp only[bG]at hb0
  refine aW (aa ?_)
  have t1:=(Ap ((d.rows.length:Int)::(d.rows.take k).flatMap Mk) (by simp only[bF];omega))
  exact bn X [] [(23,⟨false,cx t1⟩)] [2] [] rfl (by(with_reducible and_intros)<;>first|exact⟨⟩|exact t1) (aq (aj rfl ⟨by rw[aD hb0];rfl,⟨⟩⟩))
theorem uc(c r:Int)(d:DB)(hs0:eN aL d.rows≤1048576):So 321 [aI c,aI r, .agg (bQ d)] [aI (Lf c r d)]:=by
 refine aF X call321 func321 ntmps321 rfl rfl ?_
 intro zb
 refine av X [0,1,5] rfl (aM X [] [(10,⟨false,[aI (Px d)]⟩),(12,⟨false,[aI (hsh [179,c,r,Px d])]⟩)] [6] [] rfl (by(repeat' with_reducible first|exact bH|refine bS ?_ ?_|apply bh);(iterate 2 all_goals try first|exact(zf d (by first|assumption|omega| (simp;done)| (simp;omega)))|exact(Ap [179,c,r,Px d] (by first|assumption|omega| (simp;done)| (simp;omega))));all_goals first|exact⟨rfl,cE _ (by decide)⟩) ?_)
 exact aq (aj rfl ⟨rfl,⟨⟩⟩)
theorem uX(key:Int)(r:iA):So 322 [aI key, .agg (oU r)] [aI (Z3 key r.server r.client r.round r.s8)]:=by
 refine aF X call322 func322 ntmps322 rfl rfl ?_
 intro zb
 refine av X [0,3] rfl (aa ?_)
 have t1:=(cI key [181,r.server,r.client,r.round,r.s8] (by first|assumption|omega| (simp;done)| (simp;omega)))
 refine bn X [] [(15,⟨false,cx t1⟩)] [4] [] rfl (by(repeat' with_reducible first|exact bH|refine bS ?_ ?_|apply bh)<;>first|exact t1|exact⟨rfl,cE _ (by decide)⟩) ?_
 exact aq (aj rfl ⟨rfl,⟨⟩⟩)
theorem Dq(key s c r:Int)(d:DB)(hs0:eN aL d.rows≤1048576):So 260 [aI key,aI s,aI c,aI r, .agg (bQ d)] [.agg (oU (mkR key s c r d))]:=by
 refine aF X call260 func260 ntmps260 rfl rfl ?_
 intro zb
 refine av X [0,1,2,3,9,10] rfl (aM X [] [(18,⟨false,[aI (Lf c r d)]⟩)] [0,10,11] [] rfl (by(with_reducible and_intros)<;>first|exact⟨⟩|exact(uc c r d (by first|assumption|omega| (simp;done)| (simp;omega)))) (aa ?_))
 have t1:=(uX key (⟨s,c,r,Lf c r d,0⟩:iA))
 exact bn X [] [(22,⟨false,cx t1⟩)] [10,11] [] rfl (by(with_reducible and_intros)<;>first|exact⟨⟩|exact t1) (aO X [10] rfl (by trivial) (aq (aj rfl ⟨rfl,rfl,rfl,rfl,rfl,⟨⟩⟩)))
theorem lU(s:cu)(hz:s.received.length≤1048576∧ ∀r,r∈s.received→eN aL r.share.rows≤1048576):So 257 [.agg (dF s)] [.agg (dF s)]:=by
 refine aF X call257 func257 ntmps257 rfl rfl ?_
 intro zb
 refine av X [1,2] rfl (aO X [1,2,3] rfl (by and_intros<;>first|exact⟨⟩|exact rfl) (aa (av X [1,2,3,8,9,10] rfl ?_)))
 refine aB (aP (fun k=>k≤s.received.length) (fun k:Nat=> [(10, .one ((aI k)))]) (fun k=> [(6, .arr .bJ (s.received.take k))]) (fun k=>s.received.length-k) 0 (fun k=>rfl) (aE _) rfl ?_)
 intro k hk
 have hle:=cG s.received k
 refine av X [1,2,3,8,9,10,11] rfl ?_
 refine aa (an rfl ?_ ?_)<;>intro hb0
 ·try simp only[bG]at hb0
  have hs:=cB s.received k (aR .bJ) hb0
  refine au (aa (aB (aO X [1,2,3,5,8,9,10] rfl (by and_intros<;>first|exact⟨⟩| (intros;omega)) (aQ X [(22,6)] [(19,⟨true,[.agg (bQ ((s.received.getD k (aR .bJ)).share))]⟩),(500021,⟨true,[]⟩)] [1,2,3,8,9,10] [] 255 0 MO (by kernel_rfl) rfl (by kernel_rfl) (by(repeat' with_reducible first|exact bH|refine bS ?_ ?_|apply bh)<;>first|exact(eP ((s.received.getD k (aR .bJ)).share) (hz.2 _ (getD_in _ hb0)))|exact rfl|exact⟨rfl,cE _ (by decide)⟩| (simp only[gR,maxLen,lens];omega)) ?_))))
  refine bU X [1,2,3,8,9,10] rfl ?_
  refine⟨k+1,by omega,by omega,?_⟩
  rw[bZ _ k rfl (by omega),hs]
  try rfl
 ·try simp only[bG]at hb0
  exact aW (av X [1,2] rfl (aO X [2] rfl (by trivial) (aq (aj rfl ⟨rfl,rfl,rfl,by rw[aD hb0],rfl,⟨⟩⟩))))
theorem ud(l:List cu)(hl:l.length≤1048576)(hz: ∀s,s∈l→tY s):So 187 [.a (.sl .cu l)] [.a (.sl .cu l)]:=by
 refine aF X call187 func187 ntmps187 rfl rfl ?_
 intro zb
 refine av X [0] rfl (aO X [0,3] rfl (by and_intros<;>first|exact⟨⟩|exact rfl) (aa (av X [3,7,8,9] rfl ?_)))
 refine aB (aP (fun k=>k≤l.length) (fun k:Nat=> [(9, .one ((aI k)))]) (fun k=> [(6, .arr .cu (l.take k))]) (fun k=>l.length-k) 0 (fun k=>rfl) (aE _) rfl ?_)
 intro k hk
 have hle:=cG l k
 refine av X [3,7,8,9,10] rfl ?_
 refine aa (an rfl ?_ ?_)<;>intro hb0
 ·try simp only[bG]at hb0
  have hs:=cB l k (aR .cu) hb0
  refine au (aa (aB (aO X [3,5,7,8,9] rfl (by and_intros<;>first|exact⟨⟩| (intros;omega)) (bn X [(17,6)] [(15,⟨true,[.agg (dF (l.getD k (aR .cu)))]⟩)] [3,7,8,9] [] rfl (by(with_reducible and_intros)<;>first|exact⟨⟩|exact(lU (l.getD k (aR .cu)) (hz _ (getD_in _ hb0)))|exact rfl| (simp only[gR,maxLen,lens];omega)) (bU X [3,7,8,9] rfl ?_)))))
  refine⟨k+1,by omega,by omega,?_⟩
  rw[bZ _ k rfl (by omega),hs]
  try rfl
 ·try simp only[bG]at hb0
  exact aW (av X [2] rfl (aq (aj rfl ⟨by rw[aD hb0],⟨⟩⟩)))
theorem mS(m s:Int):So 177 [aI m,aI s] [aI (nF m s)]:=by
 refine aF X call177 func177 ntmps177 rfl rfl ?_
 intro zb
 refine av X [0,1] rfl (aa ?_)
 have t1:=(oc 1 (kh m [173,s]))
 refine bn X [] [(8,⟨false,[aI (kh m [173,s])]⟩),(9,⟨false,cx t1⟩)] [4] [] rfl (by(repeat' with_reducible first|exact bH|refine bS ?_ ?_|apply bh);(iterate 2 all_goals try first|exact(cJ m [173,s] (by first|assumption|omega| (simp;done)| (simp;omega)))|exact t1);all_goals first|exact⟨rfl,cE _ (by decide)⟩) ?_
 exact aq (aj rfl ⟨by rw[adl],⟨⟩⟩)
theorem zg(d:DB)(hs0:eN aL d.rows≤1048576):So 407 [.agg (bQ d)] [aI (Px d)]:=by
 refine aF X call407 func407 ntmps407 rfl rfl ?_
 intro zb
 have mK:d.rows.length≤1048576:=eF hs0
 refine av X [1] rfl (aO X [1,3] rfl (by and_intros<;>first|exact⟨⟩|exact rfl) (aa (av X [1,3,4] rfl ?_)))
 refine aB (aP (fun k=>k≤d.rows.length) (fun k:Nat=> [(4, .one ((aI k)))]) (fun k=> [(8, .arr .int ((d.rows.length:Int)::(d.rows.take k).flatMap Mk))]) (fun k=>d.rows.length-k) 0 (fun k=>rfl) (aE _) rfl ?_)
 intro k hk
 have hdl:=adk d.rows k
 refine aa (av X [1,3,4,13] rfl ?_)
 refine an rfl ?_ ?_<;>intro hb0
 ·try simp only[bG]at hb0
  have hs:=Xz d.rows k hb0
  have hel:(d.rows.getD k (aR (.sl .u8))).length≤1048576:=mG (f:=aL) hs0 (getD_some d.rows _ k hb0)
  have Kc:=xW (d.rows.getD k (aR (.sl .u8)))
  refine au (aa (aB (bn X [(23,8)] [(22,⟨true,[.a (.sl .int (Mk (d.rows.getD k (aR (.sl .u8)))))]⟩)] [1,3,4] [] rfl (by(with_reducible and_intros)<;>first|exact⟨⟩|exact(tJ (d.rows.getD k (aR (.sl .u8))) (by first|assumption|omega| (simp;done)| (simp;omega)))| (intros;omega)|exact rfl| (simp only[gR,maxLen,lens];omega)) (bU X [1,3,4] rfl ?_))))
  refine⟨k+1,by omega,by omega,?_⟩
  rw[bZ _ k rfl (by omega),hs]
  try rfl
 ·try simp only[bG]at hb0
  refine aW (aa ?_)
  have t1:=(Aq ((d.rows.length:Int)::(d.rows.take k).flatMap Mk) (by simp only[bF];omega))
  exact bn X [] [(25,⟨false,cx t1⟩)] [2] [] rfl (by(with_reducible and_intros)<;>first|exact⟨⟩|exact t1) (aq (aj rfl ⟨by rw[aD hb0];rfl,⟨⟩⟩))
theorem ue(c r:Int)(d:DB)(hs0:eN aL d.rows≤1048576):So 385 [aI c,aI r, .agg (bQ d)] [aI (Lf c r d)]:=by
 refine aF X call385 func385 ntmps385 rfl rfl ?_
 intro zb
 refine av X [0,1,5] rfl (aM X [] [(10,⟨false,[aI (Px d)]⟩),(12,⟨false,[aI (hsh [179,c,r,Px d])]⟩)] [6] [] rfl (by(repeat' with_reducible first|exact bH|refine bS ?_ ?_|apply bh);(iterate 2 all_goals try first|exact(zg d (by first|assumption|omega| (simp;done)| (simp;omega)))|exact(Aq [179,c,r,Px d] (by first|assumption|omega| (simp;done)| (simp;omega))));all_goals first|exact⟨rfl,cE _ (by decide)⟩) ?_)
 exact aq (aj rfl ⟨rfl,⟨⟩⟩)
theorem uY(key:Int)(r:iA):So 386 [aI key, .agg (oU r)] [aI (Z3 key r.server r.client r.round r.s8)]:=by
 refine aF X call386 func386 ntmps386 rfl rfl ?_
 intro zb
 refine av X [0,3] rfl (aa ?_)
 have t1:=(cJ key [181,r.server,r.client,r.round,r.s8] (by first|assumption|omega| (simp;done)| (simp;omega)))
 refine bn X [] [(15,⟨false,cx t1⟩)] [4] [] rfl (by(repeat' with_reducible first|exact bH|refine bS ?_ ?_|apply bh)<;>first|exact t1|exact⟨rfl,cE _ (by decide)⟩) ?_
 exact aq (aj rfl ⟨rfl,⟨⟩⟩)
theorem Dr(key s c r:Int)(d:DB)(hs0:eN aL d.rows≤1048576):So 355 [aI key,aI s,aI c,aI r, .agg (bQ d)] [.agg (oU (mkR key s c r d))]:=by
 refine aF X call355 func355 ntmps355 rfl rfl ?_
 intro zb
 refine av X [0,1,2,3,9,10] rfl (aM X [] [(18,⟨false,[aI (Lf c r d)]⟩)] [0,10,11] [] rfl (by(with_reducible and_intros)<;>first|exact⟨⟩|exact(ue c r d (by first|assumption|omega| (simp;done)| (simp;omega)))) (aa ?_))
 have t1:=(uY key (⟨s,c,r,Lf c r d,0⟩:iA))
 exact bn X [] [(22,⟨false,cx t1⟩)] [10,11] [] rfl (by(with_reducible and_intros)<;>first|exact⟨⟩|exact t1) (aO X [10] rfl (by trivial) (aq (aj rfl ⟨rfl,rfl,rfl,rfl,rfl,⟨⟩⟩)))
theorem pP(s:cu)(hz:s.received.length≤1048576∧ ∀r,r∈s.received→eN aL r.share.rows≤1048576):So 235 [.agg (dF s)] [.agg (dF s)]:=by
 refine aF X call235 func235 ntmps235 rfl rfl ?_
 intro zb
 refine av X [1,2] rfl (aO X [1,2,3] rfl (by trivial) (aO X [1,2,3] rfl (by and_intros<;>first|exact⟨⟩|exact rfl) (aa (av X [1,2,3,4] rfl ?_))))
 refine aB (aP (fun k=>k≤s.received.length) (fun k:Nat=> [(4, .one ((aI k)))]) (fun k=> [(6, .arr .bJ (s.received.take k))]) (fun k=>s.received.length-k) 0 (fun k=>rfl) (aE _) rfl ?_)
 intro k hk
 have hle:=cG s.received k
 refine aa (av X [1,2,3,4,12] rfl ?_)
 refine an rfl ?_ ?_<;>intro hb0
 ·try simp only[bG]at hb0
  have hs:=cB s.received k (aR .bJ) hb0
  refine au (aa (aB (aQ X [(32,6)] [(29,⟨true,[.agg (bQ ((s.received.getD k (aR .bJ)).share))]⟩),(500031,⟨true,[]⟩)] [1,2,3,4] [] 131071 0 MO (by kernel_rfl) rfl (by kernel_rfl) (by(repeat' with_reducible first|exact bH|refine bS ?_ ?_|apply bh)<;>first|exact(iH ((s.received.getD k (aR .bJ)).share) (hz.2 _ (getD_in _ hb0)))| (intros;omega)|exact rfl|exact⟨rfl,cE _ (by decide)⟩| (simp only[gR,maxLen,lens];omega)) ?_)))
  refine bU X [1,2,3,4] rfl ?_
  refine⟨k+1,by omega,by omega,?_⟩
  rw[bZ _ k rfl (by omega),hs]
  try rfl
 ·try simp only[bG]at hb0
  exact aW (aO X [2] rfl (by trivial) (aq (aj rfl ⟨rfl,rfl,rfl,by rw[aD hb0],rfl,⟨⟩⟩)))
end
section
set_option maxRecDepth 100000
theorem jA(c:gI)(h0:eN aL c.bp≤1048576∧eN aL c.inbox≤1048576):So 165 [.agg (cM c)] [.agg (cM c)]:=by
 refine aF X call165 func165 ntmps165 rfl rfl ?_
 intro zb
 exact av X [1,2] rfl (aO X [1,2,3] rfl (by trivial) (aM X [] [(7,⟨true,[.a (.sl (.sl .u8) c.bp)]⟩)] [1,2,3] [] rfl (by(with_reducible and_intros)<;>first|exact⟨⟩|exact(vJ c.bp h0.1)) (aM X [] [(11,⟨true,[.a (.sl (.sl .u8) c.inbox)]⟩)] [2,3] [] rfl (by(with_reducible and_intros)<;>first|exact⟨⟩|exact(vJ c.inbox h0.2)) (aO X [2] rfl (by trivial) (aq (aj rfl ⟨rfl,rfl,rfl,rfl,rfl,rfl,rfl,rfl,⟨⟩⟩))))))
theorem mq(d:bR)(h0:cz d≤1048576):So 236 [.agg (dj d)] [.agg (dj d)]:=by
 refine aF X call236 func236 ntmps236 rfl rfl ?_
 intro zb
 have hc1:dQ d.live≤1048576∧dQ d.saved≤1048576:=by unfold cz at h0;omega
 unfold dQ at hc1
 exact av X [1,2] rfl (aa (aQ X [] [(5,⟨true,[.agg (cM d.live)]⟩),(8,⟨true,[.agg (cM d.saved)]⟩)] [2] [] 127 0 MO (by kernel_rfl) rfl (by kernel_rfl) (by(with_reducible and_intros);(iterate 2 all_goals try first|exact⟨⟩|exact(jA d.live ⟨by omega,by omega⟩)|exact(jA d.saved ⟨by omega,by omega⟩))) (aq (aj rfl ⟨rfl,rfl,rfl,rfl,rfl,rfl,rfl,rfl,rfl,rfl,rfl,rfl,rfl,rfl,rfl,rfl,⟨⟩⟩))))
theorem AN(a:mD)(h0:gC a≤1048576):So 237 [.agg (fK a)] [.agg (fK a)]:=by
 refine aF X call237 func237 ntmps237 rfl rfl ?_
 intro zb
 have hls:eN gQ a.rounds≤1048576:=h0
 have mK:=eF hls
 refine av X [1,2] rfl (av X [1,2,3] rfl (eo 3 1 60 .aX rfl (aa (av X [1,2,3,4] rfl ?_))))
 refine aB (aP (fun k=>k≤a.rounds.length) (fun k:Nat=> [(4, .one ((aI k)))]) (fun k=> [(60, .arr .aX (a.rounds.take k))]) (fun k=>a.rounds.length-k) 0 (fun k=>rfl) (aE _) rfl ?_)
 intro k hk
 have hle:=cG a.rounds k
 refine aa (av X [1,2,3,4,12] rfl ?_)
 refine an rfl ?_ ?_<;>intro hb0
 ·try simp only[bG]at hb0
  have hs:=cB a.rounds k (aR .aX) hb0
  refine au (aa (aB (aQ X [(32,60)] [(29,⟨true,[.agg (bQ ((a.rounds.getD k (aR .aX)).db))]⟩),(500031,⟨true,[]⟩)] [1,2,3,4] [] 131071 0 MO (by kernel_rfl) rfl (by kernel_rfl) (by(repeat' with_reducible first|exact bH|refine bS ?_ ?_|apply bh)<;>first|exact(iH ((a.rounds.getD k (aR .aX)).db) (mG hls (getD_some a.rounds _ k hb0)))| (intros;omega)|exact rfl|exact⟨rfl,cE _ (by decide)⟩| (simp only[gR,maxLen,lens];omega)) ?_)))
  refine bU X [1,2,3,4] rfl ?_
  refine⟨k+1,by omega,by omega,?_⟩
  rw[bZ _ k rfl (by omega),hs]
  try rfl
 ·try simp only[bG]at hb0
  exact aW (aO X [2] rfl (by trivial) (aq (aj rfl ⟨rfl,by rw[aD hb0],⟨⟩⟩)))
theorem fC(x:bN)(h0:wB x):So 149 [.agg (bw x)] [.agg (bw x)]:=by
 refine aF X call149 func149 ntmps149 rfl rfl ?_
 intro zb
 have hls:eN gP x.aG≤1048576∧eN cz x.ah≤1048576∧gC x.aK≤1048576∧x.replaced.length≤4194304:=h0
 have hl1:=eF hls.1
 have qS:=eF hls.2.1
 refine av X [1,2] rfl (aO X [1,2,3] rfl (by trivial) (aO X [1,2,3] rfl (by and_intros<;>first|exact⟨⟩|exact rfl) (aa (av X [1,2,3,4] rfl ?_))))
 refine aB (aP (fun k=>k≤x.aG.length) (fun k:Nat=> [(4, .one ((aI k)))]) (fun k=> [(7, .arr .cu (x.aG.take k))]) (fun k=>x.aG.length-k) 0 (fun k=>rfl) (aE _) rfl ?_)
 intro k hk
 have hle:=cG x.aG k
 refine aa (av X [1,2,3,4,13] rfl ?_)
 refine an rfl ?_ ?_<;>intro hb0
 ·try simp only[bG]at hb0
  have hs:=cB x.aG k (aR .cu) hb0
  have hss:=NL hls.1 (getD_some x.aG (aR .cu) k hb0)
  refine au (aa (aB (aQ X [(25,7)] [(23,⟨true,[.agg (dF (x.aG.getD k (aR .cu)))]⟩),(500024,⟨true,[]⟩)] [1,2,3,4] [] 511 0 MO (by kernel_rfl) rfl (by kernel_rfl) (by(repeat' with_reducible first|exact bH|refine bS ?_ ?_|apply bh)<;>first|exact(pP (x.aG.getD k (aR .cu)) hss)| (intros;omega)|exact rfl|exact⟨rfl,cE _ (by decide)⟩| (simp only[gR,maxLen,lens];omega)) ?_)))
  refine bU X [1,2,3,4] rfl ?_
  refine⟨k+1,by omega,by omega,?_⟩
  rw[bZ _ k rfl (by omega),hs]
  try rfl
 ·try simp only[bG]at hb0
  refine aW (aO X [1,2,3] rfl (by and_intros<;>first|exact⟨⟩|exact rfl) (aa (av X [1,2,3,5] rfl ?_)))
  refine aB (aP (fun k1=>k1≤x.ah.length) (fun k1:Nat=> [(5, .one ((aI k1)))]) (fun k1=> [(27, .arr .bR (x.ah.take k1))]) (fun k1=>x.ah.length-k1) 0 (fun k1=>rfl) (aE _) rfl ?_)
  intro k1 hk1
  have IX:=cG x.ah k1
  refine aa (av X [1,2,3,5,33] rfl ?_)
  refine an rfl ?_ ?_<;>intro bM
  ·try simp only[bG]at bM
   have hs1:=cB x.ah k1 (aR .bR) bM
   refine au (aa (aB (aQ X [(45,27)] [(43,⟨true,[.agg (dj (x.ah.getD k1 (aR .bR)))]⟩)] [1,2,3,5] [] 1279 2 MO (by kernel_rfl) rfl (by kernel_rfl) (by(with_reducible and_intros)<;>first|exact⟨⟩|exact(mq (x.ah.getD k1 (aR .bR)) (mG hls.2.1 (getD_some x.ah _ k1 bM)))| (intros;omega)|exact rfl| (simp only[gR,maxLen,lens];omega)) (bU X [1,2,3,5] rfl ?_))))
   refine⟨k1+1,by omega,by omega,?_⟩
   rw[bZ _ k1 rfl (by omega),hs1]
   try rfl
  ·try simp only[bG]at bM
   exact aW (aM X [] [(49,⟨true,[.agg (fK x.aK)]⟩)] [1,2,3] [] rfl (by(with_reducible and_intros)<;>first|exact⟨⟩|exact(AN x.aK hls.2.2.1)) (aM X [(54,51)] [] [2,3] [] rfl (by and_intros<;>first|exact⟨⟩|exact rfl| (simp only[gR,maxLen,lens];omega)) (aO X [2] rfl (by trivial) (aq (aj rfl ⟨rfl,by rw[aD hb0],by rw[aD bM],rfl,rfl,rfl,rfl,rfl,rfl,rfl,⟨⟩⟩)))))
end
section
set_option maxRecDepth 100000
theorem zh(x:bN)(i:Int)(hsz:gW x≤1048576):So 122 [.agg (bw x),aI i] [aU (pG x i)]:=by
 refine aF X call122 func122 ntmps122 rfl rfl ?_
 intro zb
 have hd:x.ah.length≤1048576:=Pn hsz
 have hrl:x.aK.rounds.length≤1048576:=BT hsz
 refine av X [1,2] rfl (aa (aM X [] [(14,⟨false,[aU (iy x i)]⟩)] [1,2,15] [] rfl (by(with_reducible and_intros)<;>first|exact⟨⟩|exact(tQ x i (by first|assumption|omega| (simp;done)| (simp;omega)))) ?_))
 refine an rfl ?_ ?_<;>intro hb0
 ·have hpk:iy x i=false:=by simpa using hb0
  exact av X [4] rfl (aq (aj rfl ⟨by rw[pG,if_neg (by rw[hpk];decide)],⟨⟩⟩))
 ·have hpk:iy x i=true:=by simpa using hb0
  obtain⟨hi0,hi1,hi2,hi3⟩:=Ph hpk
  have hx:=I1 i.toNat (by omega)
  rw[←hi3]at hx
  have hx2:(af.wrap (aH af.bits i^^^aH af.bits 1).toNat).toNat=i.toNat^^^1:=by rw[hx];rfl
  have hin:=SG hsz (k:=(af.wrap (aH af.bits i^^^aH af.bits 1).toNat).toNat) (by rw[hx2];exact hi2)
  have hsb:=eF (ET (ES hsz hi1)).1
  refine au (aa (aQ X [] [] [2,5,6] [] 32767 11 MO (by kernel_rfl) rfl (by kernel_rfl) (by and_intros<;>first|exact⟨⟩| (intros;omega)) (av X [2,5,6,7] rfl (aa (av X [2,5,6,7,34,35,36] rfl ?_)))))
  refine aB (aP (fun k=>k≤x.aK.rounds.length) (fun k:Nat=> [(7, .one ((aI ((jh x (x.ah.getD i.toNat (aR .bR)).live (x.ah.getD (af.wrap (aH af.bits i^^^aH af.bits 1).toNat).toNat (aR .bR)).live (x.aK.rounds.take k):Nat):Int)))),(36, .one ((aI k)))]) (fun k=> []) (fun k=>x.aK.rounds.length-k) 0 (fun k=>rfl) (aE _) rfl ?_)
  intro k hk
  refine av X [2,5,6,7,34,35,36,37] rfl ?_
  refine aa (an rfl ?_ ?_)<;>intro bM
  ·try simp only[bG]at bM
   have EF:=bM
   have hs:=Il x (x.ah.getD i.toNat (aR .bR)).live (x.ah.getD (af.wrap (aH af.bits i^^^aH af.bits 1).toNat).toNat (aR .bR)).live x.aK.rounds k EF
   have hle:=Nz x (x.ah.getD i.toNat (aR .bR)).live (x.ah.getD (af.wrap (aH af.bits i^^^aH af.bits 1).toNat).toNat (aR .bR)).live x.aK.rounds k
   have har:=adq hsz k EF
   refine au (aa (aB (aO X [2,5,6,7,9,34,35,36] rfl (by and_intros<;>first|exact⟨⟩| (intros;omega)) (aa (av X [2,5,6,7,9,34,35,36,51] rfl ?_)))))
   refine an rfl ?_ ?_<;>intro cS
   ·try simp only[bG]at cS
    rw[Lj cS]at hs
    refine aW (bU X [2,5,6,7,34,35,36] rfl ?_)
    refine⟨k+1,by omega,by omega,?_⟩
    rw[bZ _ k rfl (by omega),hs]
    try rfl
   ·try simp only[bG]at cS
    have hns: ¬((x.aK.rounds.getD k (aR .aX)).round<(x.ah.getD (af.wrap (aH af.bits i^^^aH af.bits 1).toNat).toNat (aR .bR)).live.next∨(x.ah.getD i.toNat (aR .bR)).live.bp.length≤jh x (x.ah.getD i.toNat (aR .bR)).live (x.ah.getD (af.wrap (aH af.bits i^^^aH af.bits 1).toNat).toNat (aR .bR)).live (x.aK.rounds.take k)):=by omega
    refine au (aa ?_)
    have t1:=(jt ((x.ah.getD i.toNat (aR .bR)).live))
    have t2:=(lO ((x.ah.getD i.toNat (aR .bR)).live.key) ((x.aK.rounds.getD k (aR .aX)).round) (eI (x.ah.getD i.toNat (aR .bR)).live) x.rows)
    have t3:=(KS ((x.aK.rounds.getD k (aR .aX)).db) (jQ (x.ah.getD i.toNat (aR .bR)).live.key (x.aK.rounds.getD k (aR .aX)).round (eI (x.ah.getD i.toNat (aR .bR)).live) x.rows) (by first|assumption|omega| (simp;done)| (simp;omega)))
    refine aQ X [] [(60,⟨false,cx t1⟩),(63,⟨false,cx t2⟩),(64,⟨true,cx t3⟩)] [2,5,6,7,10,11,34,35,36] [] 131071 0 MO (by kernel_rfl) rfl (by kernel_rfl) (by(with_reducible and_intros);(iterate 3 all_goals try first|exact⟨⟩|exact t1|exact t2|exact t3)) (aa ?_)
    have t1:=(ot ((x.ah.getD i.toNat (aR .bR)).live) ((jh x (x.ah.getD i.toNat (aR .bR)).live (x.ah.getD (af.wrap (aH af.bits i^^^aH af.bits 1).toNat).toNat (aR .bR)).live (x.aK.rounds.take k):Nat):Int) (by first|assumption|omega| (simp;done)| (simp;omega)) (by first|assumption|omega| (simp;done)| (simp;omega)))
    have t2:=(lT (rowAt (x.aK.rounds.getD k (aR .aX)).db (jQ (x.ah.getD i.toNat (aR .bR)).live.key (x.aK.rounds.getD k (aR .aX)).round (eI (x.ah.getD i.toNat (aR .bR)).live) x.rows)) (qg (x.ah.getD i.toNat (aR .bR)).live ((jh x (x.ah.getD i.toNat (aR .bR)).live (x.ah.getD (af.wrap (aH af.bits i^^^aH af.bits 1).toNat).toNat (aR .bR)).live (x.aK.rounds.take k):Nat):Int)))
    refine bn X [] [(72,⟨false,cx t1⟩),(73,⟨false,cx t2⟩)] [2,5,6,7,34,35,36,74] [] rfl (by(with_reducible and_intros);(iterate 2 all_goals try first|exact⟨⟩|exact fun _=>t1|exact fun _=>t2)) ?_
    refine an rfl ?_ ?_<;>intro iZ
    ·rw[At]at iZ
     rw[NO hns iZ]at hs
     refine bU X [2,5,6,7,34,35,36] rfl (bU X [2,5,6,7,34,35,36] rfl ?_)
     refine⟨k+1,by omega,by omega,?_⟩
     rw[bZ _ k rfl (by omega),bZ _ (jh x (x.ah.getD i.toNat (aR .bR)).live (x.ah.getD (af.wrap (aH af.bits i^^^aH af.bits 1).toNat).toNat (aR .bR)).live (x.aK.rounds.take k)) rfl (by omega),hs]
     try rfl
    ·rw[At]at iZ
     rw[Ll hns iZ]at hs
     refine au (bU X [2,5,6,7,34,35,36] rfl ?_)
     refine⟨k+1,by omega,by omega,?_⟩
     rw[bZ _ k rfl (by omega),hs]
     try rfl
  ·try simp only[bG]at bM
   exact aW (av X [4] rfl (aq (aj rfl ⟨by rw[aD bM,pG,if_pos hpk,hx2],⟨⟩⟩)))
theorem zi(x:bN)(i:Int)(hsz:gW x≤1048576):So 90 [.agg (bw x),aI i] [aU (pG x i)]:=by
 refine aF X call90 func90 ntmps90 rfl rfl ?_
 intro zb
 have hd:x.ah.length≤1048576:=Pn hsz
 have hrl:x.aK.rounds.length≤1048576:=BT hsz
 refine av X [1,2] rfl (aa (aM X [] [(15,⟨false,[aU (iy x i)]⟩)] [1,2,16] [] rfl (by(with_reducible and_intros)<;>first|exact⟨⟩|exact(Az x i (by first|assumption|omega| (simp;done)| (simp;omega)))) ?_))
 refine an rfl ?_ ?_<;>intro hb0
 ·have hpk:iy x i=false:=by simpa using hb0
  exact av X [4] rfl (aq (aj rfl ⟨by rw[pG,if_neg (by rw[hpk];decide)],⟨⟩⟩))
 ·have hpk:iy x i=true:=by simpa using hb0
  obtain⟨hi0,hi1,hi2,hi3⟩:=Ph hpk
  have hx:=I1 i.toNat (by omega)
  rw[←hi3]at hx
  have hx2:(af.wrap (aH af.bits i^^^aH af.bits 1).toNat).toNat=i.toNat^^^1:=by rw[hx];rfl
  have hin:=SG hsz (k:=(af.wrap (aH af.bits i^^^aH af.bits 1).toNat).toNat) (by rw[hx2];exact hi2)
  have hsb:=eF (ET (ES hsz hi1)).1
  refine au (aO X [1,2,5] rfl (by and_intros<;>first|exact⟨⟩| (intros;omega)) (aO X [1,2,5,6] rfl (by and_intros<;>first|exact⟨⟩| (intros;omega)) (aa (av X [1,2,5,6,7] rfl ?_))))
  refine aB (aP (fun k=>k≤x.aK.rounds.length) (fun k:Nat=> [(6, .one ((aI ((jh x (x.ah.getD i.toNat (aR .bR)).live (x.ah.getD (af.wrap (aH af.bits i^^^aH af.bits 1).toNat).toNat (aR .bR)).live (x.aK.rounds.take k):Nat):Int)))),(7, .one ((aI k)))]) (fun k=> []) (fun k=>x.aK.rounds.length-k) 0 (fun k=>rfl) (aE _) rfl ?_)
  intro k hk
  refine aa (av X [1,2,5,6,7,44] rfl ?_)
  refine an rfl ?_ ?_<;>intro bM
  ·try simp only[bG]at bM
   have EF:=bM.1
   have hs:=Il x (x.ah.getD i.toNat (aR .bR)).live (x.ah.getD (af.wrap (aH af.bits i^^^aH af.bits 1).toNat).toNat (aR .bR)).live x.aK.rounds k EF
   have hle:=Nz x (x.ah.getD i.toNat (aR .bR)).live (x.ah.getD (af.wrap (aH af.bits i^^^aH af.bits 1).toNat).toNat (aR .bR)).live x.aK.rounds k
   have har:=adq hsz k EF
   refine au (aa (aB (aO X [1,2,5,6,7,8] rfl (by and_intros<;>first|exact⟨⟩| (intros;omega)) (aa (aa (aQ X [] [] [1,2,5,6,7,8,63] [] 2047 0 MO (by kernel_rfl) rfl (by kernel_rfl) (by and_intros<;>first|exact⟨⟩| (intros;omega)) ?_))))))
   refine an rfl ?_ ?_<;>intro cS
   ·try simp only[bG]at cS
    rw[Lj (Or.inl cS)]at hs
    refine aW (bU X [1,2,5,6,7] rfl ?_)
    refine⟨k+1,by omega,by omega,?_⟩
    rw[bZ _ k rfl (by omega),hs]
    try rfl
   ·try simp only[bG]at cS
    have hns: ¬((x.aK.rounds.getD k (aR .aX)).round<(x.ah.getD (af.wrap (aH af.bits i^^^aH af.bits 1).toNat).toNat (aR .bR)).live.next∨(x.ah.getD i.toNat (aR .bR)).live.bp.length≤jh x (x.ah.getD i.toNat (aR .bR)).live (x.ah.getD (af.wrap (aH af.bits i^^^aH af.bits 1).toNat).toNat (aR .bR)).live (x.aK.rounds.take k)):=by omega
    refine au (aa ?_)
    have t1:=(ia ((x.ah.getD i.toNat (aR .bR)).live))
    have t2:=(lQ ((x.ah.getD i.toNat (aR .bR)).live.key) ((x.aK.rounds.getD k (aR .aX)).round) (eI (x.ah.getD i.toNat (aR .bR)).live) x.rows)
    refine aQ X [] [(69,⟨false,cx t1⟩),(72,⟨false,cx t2⟩)] [1,2,5,6,7,8,9] [] 1023 0 MO (by kernel_rfl) rfl (by kernel_rfl) (by(with_reducible and_intros);(iterate 2 all_goals try first|exact⟨⟩|exact t1|exact t2)) (aO X [1,2,5,6,7,8,9,10] rfl (by trivial) (av X [1,2,5,6,7,8,9,10] rfl (aa ?_)))
    have t1:=(KT ((x.aK.rounds.getD k (aR .aX)).db) (jQ (x.ah.getD i.toNat (aR .bR)).live.key (x.aK.rounds.getD k (aR .aX)).round (eI (x.ah.getD i.toNat (aR .bR)).live) x.rows) (by first|assumption|omega| (simp;done)| (simp;omega)))
    refine bn X [] [(80,⟨true,cx t1⟩)] [1,2,5,6,7,10,11,12] [] rfl (by(with_reducible and_intros)<;>first|exact⟨⟩|exact t1) (aa ?_)
    have t1:=(tR ({(x.ah.getD i.toNat (aR .bR)).live with sent:=((jh x (x.ah.getD i.toNat (aR .bR)).live (x.ah.getD (af.wrap (aH af.bits i^^^aH af.bits 1).toNat).toNat (aR .bR)).live (x.aK.rounds.take k):Nat):Int)}:gI) (by show(0:Int)≤((jh x (x.ah.getD i.toNat (aR .bR)).live (x.ah.getD (af.wrap (aH af.bits i^^^aH af.bits 1).toNat).toNat (aR .bR)).live (x.aK.rounds.take k):Nat):Int);omega) (by show((jh x (x.ah.getD i.toNat (aR .bR)).live (x.ah.getD (af.wrap (aH af.bits i^^^aH af.bits 1).toNat).toNat (aR .bR)).live (x.aK.rounds.take k):Nat):Int)<((x.ah.getD i.toNat (aR .bR)).live.bp.length:Int);omega))
    have t2:=(lR (rowAt (x.aK.rounds.getD k (aR .aX)).db (jQ (x.ah.getD i.toNat (aR .bR)).live.key (x.aK.rounds.getD k (aR .aX)).round (eI (x.ah.getD i.toNat (aR .bR)).live) x.rows)) (qg ({(x.ah.getD i.toNat (aR .bR)).live with sent:=((jh x (x.ah.getD i.toNat (aR .bR)).live (x.ah.getD (af.wrap (aH af.bits i^^^aH af.bits 1).toNat).toNat (aR .bR)).live (x.aK.rounds.take k):Nat):Int)}:gI) ((jh x (x.ah.getD i.toNat (aR .bR)).live (x.ah.getD (af.wrap (aH af.bits i^^^aH af.bits 1).toNat).toNat (aR .bR)).live (x.aK.rounds.take k):Nat):Int)))
    refine bn X [] [(87,⟨false,cx t1⟩),(88,⟨false,cx t2⟩)] [1,2,5,6,7,89] [] rfl (by(with_reducible and_intros);(iterate 2 all_goals try first|exact⟨⟩|exact fun _=>t1|exact fun _=>t2)) ?_
    refine an rfl ?_ ?_<;>intro iZ
    ·rw[At]at iZ
     rw[NO hns iZ]at hs
     refine bU X [1,2,5,6,7] rfl (bU X [1,2,5,6,7] rfl ?_)
     refine⟨k+1,by omega,by omega,?_⟩
     rw[bZ _ k rfl (by omega),bZ _ (jh x (x.ah.getD i.toNat (aR .bR)).live (x.ah.getD (af.wrap (aH af.bits i^^^aH af.bits 1).toNat).toNat (aR .bR)).live (x.aK.rounds.take k)) rfl (by omega),hs]
     try rfl
    ·rw[At]at iZ
     rw[Ll hns iZ]at hs
     refine au (bU X [1,2,5,6,7] rfl ?_)
     refine⟨k+1,by omega,by omega,?_⟩
     rw[bZ _ k rfl (by omega),hs]
     try rfl
  ·try simp only[bG]at bM
   have ab0:jh x (x.ah.getD i.toNat (aR .bR)).live (x.ah.getD (af.wrap (aH af.bits i^^^aH af.bits 1).toNat).toNat (aR .bR)).live x.aK.rounds=jh x (x.ah.getD i.toNat (aR .bR)).live (x.ah.getD (af.wrap (aH af.bits i^^^aH af.bits 1).toNat).toNat (aR .bR)).live (x.aK.rounds.take k):=by
    rcases Nat.lt_or_ge k x.aK.rounds.length with h|h
    ·exact R6 _ _ _ _ _ (by omega)
    ·rw[aD h]
   exact aW (av X [4] rfl (aq (aj rfl ⟨by rw[pG,if_pos hpk, ←hx2,ab0],⟨⟩⟩)))
end
section
set_option maxRecDepth 100000
theorem uh(a:mD)(f:Int)(hal:a.rounds.length≤1048576):So 203 [.agg (fK a),aI f] [.a (.sl .int (kS a.rounds f))]:=by
 refine aF X call203 func203 ntmps203 rfl rfl ?_
 intro zb
 refine av X [1,2] rfl (aO X [1,2,5] rfl (by and_intros<;>first|exact⟨⟩|exact rfl) (aa (av X [1,5,10,11,12] rfl ?_)))
 refine aB (aP (fun k=>k≤a.rounds.length) (fun k:Nat=> [(12, .one ((aI k)))]) (fun k=> [(8, .arr .int (kS (a.rounds.take k) f))]) (fun k=>a.rounds.length-k) 0 (fun k=>rfl) (aE _) rfl ?_)
 intro k hk
 have hle:=Iv a.rounds f k
 refine av X [1,5,10,11,12,13] rfl ?_
 refine aa (an rfl ?_ ?_)<;>intro hb0
 ·try simp only[bG]at hb0
  refine au (aa (aB (aO X [1,5,7,10,11,12] rfl (by and_intros<;>first|exact⟨⟩| (intros;omega)) (av X [1,5,7,10,11,12,19] rfl ?_))))
  refine an rfl ?_ ?_<;>intro bM
  ·try simp only[bG]at bM
   have hs:=Lm a.rounds f k hb0 (by omega)
   refine bn X [(24,8)] [] [1,5,10,11,12] [] rfl (by and_intros<;>first|exact⟨⟩|exact rfl| (simp only[gR,maxLen,lens];omega)) (bU X [1,5,10,11,12] rfl ?_)
   refine⟨k+1,by omega,by omega,?_⟩
   rw[bZ _ k rfl (by omega),hs]
   try rfl
  ·try simp only[bG]at bM
   have hs:=Iu a.rounds f k hb0 (by omega)
   refine au (bU X [1,5,10,11,12] rfl ?_)
   refine⟨k+1,by omega,by omega,?_⟩
   rw[bZ _ k rfl (by omega),hs]
   try rfl
 ·try simp only[bG]at hb0
  exact aW (av X [4] rfl (aq (aj rfl ⟨by rw[aD hb0],⟨⟩⟩)))
theorem xY(x:bN)(hal:x.aK.rounds.length≤1048576):So 120 [.agg (bw x)] [aU (ug x)]:=by
 refine aF X call120 func120 ntmps120 rfl rfl ?_
 intro zb
 refine b7 0 2 rfl rfl (fun qS=>(av X [1] rfl (av X [1,3] rfl (aa (av X [1,3,10,11,12] rfl ?_)))))
 refine aB (aP (fun k=>k≤x.ah.length∧(x.ah.take k).all (uf x)=true) (fun k:Nat=> [(12, .one ((aI k)))]) (fun k=> []) (fun k=>x.ah.length-k) 0 (fun k=>rfl) ⟨aE _,rfl⟩ rfl ?_)
 rintro k ⟨hk,hall⟩
 refine av X [1,3,10,11,12,13] rfl ?_
 refine aa (an rfl ?_ ?_)<;>intro hb0
 ·try simp only[bG]at hb0
  refine au (aa (aB (aO X [1,3,5,10,11,12] rfl (by and_intros<;>first|exact⟨⟩| (intros;omega)) (aa ?_))))
  have t1:=(uh x.aK ((x.ah.getD k (aR .bR)).saved.next) (by first|assumption|omega| (simp;done)| (simp;omega)))
  refine aQ X [] [(21,⟨true,cx t1⟩)] [1,3,10,11,12,38] [] 8388607 0 MO (by kernel_rfl) rfl (by kernel_rfl) (by(with_reducible and_intros)<;>first|exact⟨⟩|exact t1| ((intro h1;first| (intro h2;first| (intro h3;refine bh ?_ ?_)|refine bh ?_ ?_)|refine bh ?_ ?_)<;>first|omega| ((try simp only[bG]at*);(try simp(disch:=omega) only[dm]);omega))) ?_
  refine an rfl ?_ ?_<;>intro bM
  ·have hne:uf x (x.ah.getD k (aR .bR))=false:=cR bM (by simp only[uf,lB,bC]<;>first|rfl|ac_rfl)
   exact av X [2] rfl (aq (aj rfl ⟨by rw[ug,KK _ _ (aR .bR) k hb0 hne],⟨⟩⟩))
  ·have hee:uf x (x.ah.getD k (aR .bR))=true:=cL bM (by simp only[uf,lB,bC]<;>first|rfl|ac_rfl)
   refine au (bU X [1,3,10,11,12] rfl ?_)
   refine⟨k+1,⟨by omega,by rw[An _ _ _ (aR .bR) hb0,hall,dn];exact hee⟩,by omega,?_⟩
   rw[bZ _ k rfl (by omega)]
   try rfl
 ·try simp only[bG]at hb0
  exact aW (av X [2] rfl (aq (aj rfl ⟨by rw[aD hb0]at hall;rw[ug,hall],⟨⟩⟩)))
theorem uj(a:mD)(f:Int)(hal:a.rounds.length≤1048576):So 163 [.agg (fK a),aI f] [.a (.sl .int (kS a.rounds f))]:=by
 refine aF X call163 func163 ntmps163 rfl rfl ?_
 intro zb
 refine av X [1,2] rfl (aO X [1,2,5] rfl (by and_intros<;>first|exact⟨⟩|exact rfl) (aa (av X [1,2,5,6] rfl ?_)))
 refine aB (aP (fun k=>k≤a.rounds.length) (fun k:Nat=> [(6, .one ((aI k)))]) (fun k=> [(7, .arr .int (kS (a.rounds.take k) f))]) (fun k=>a.rounds.length-k) 0 (fun k=>rfl) (aE _) rfl ?_)
 intro k hk
 have hle:=Iv a.rounds f k
 refine aa (av X [1,2,5,6,12] rfl ?_)
 refine an rfl ?_ ?_<;>intro hb0
 ·try simp only[bG]at hb0
  refine au (aa (aB (aO X [1,2,5,6,22] rfl (by and_intros<;>first|exact⟨⟩| (intros;omega)) ?_)))
  refine an rfl ?_ ?_<;>intro bM
  ·try simp only[bG]at bM
   have hs:=Lm a.rounds f k hb0 (by omega)
   refine bn X [(31,7)] [] [1,2,5,6] [] rfl (by and_intros<;>first|exact⟨⟩| (intros;omega)|exact rfl| (simp only[gR,maxLen,lens];omega)) (bU X [1,2,5,6] rfl ?_)
   refine⟨k+1,by omega,by omega,?_⟩
   rw[bZ _ k rfl (by omega),hs]
   try rfl
  ·try simp only[bG]at bM
   have hs:=Iu a.rounds f k hb0 (by omega)
   refine au (bU X [1,2,5,6] rfl ?_)
   refine⟨k+1,by omega,by omega,?_⟩
   rw[bZ _ k rfl (by omega),hs]
   try rfl
 ·try simp only[bG]at hb0
  exact aW (av X [4] rfl (aq (aj rfl ⟨by rw[aD hb0],⟨⟩⟩)))
theorem xZ(x:bN)(hal:x.aK.rounds.length≤1048576):So 91 [.agg (bw x)] [aU (ug x)]:=by
 refine aF X call91 func91 ntmps91 rfl rfl ?_
 intro zb
 refine b7 0 2 rfl rfl (fun qS=>(av X [1] rfl (aa (av X [1,3] rfl ?_))))
 refine aB (aP (fun k=>k≤x.ah.length∧(x.ah.take k).all (uf x)=true) (fun k:Nat=> [(3, .one ((aI k)))]) (fun k=> []) (fun k=>x.ah.length-k) 0 (fun k=>rfl) ⟨aE _,rfl⟩ rfl ?_)
 rintro k ⟨hk,hall⟩
 refine aa (av X [1,3,9] rfl ?_)
 refine an rfl ?_ ?_<;>intro hb0
 ·try simp only[bG]at hb0
  refine au (aa (aB (aO X [1,3,4] rfl (by and_intros<;>first|exact⟨⟩| (intros;omega)) (aa ?_))))
  have t1:=(uj x.aK ((x.ah.getD k (aR .bR)).saved.next) (by first|assumption|omega| (simp;done)| (simp;omega)))
  refine bn X [] [(22,⟨true,cx t1⟩)] [1,3,41] [] rfl (by(with_reducible and_intros)<;>first|exact⟨⟩|exact t1| ((intro h1;first| (intro h2;first| (intro h3;refine bh ?_ ?_)|refine bh ?_ ?_)|refine bh ?_ ?_)<;>first|omega| ((try simp only[bG]at*);(try simp(disch:=omega) only[dm]);omega))) ?_
  refine an rfl ?_ ?_<;>intro bM
  ·have hne:uf x (x.ah.getD k (aR .bR))=false:=cR bM (by simp only[uf,lB,bC]<;>first|rfl|ac_rfl)
   exact av X [2] rfl (aq (aj rfl ⟨by rw[ug,KK _ _ (aR .bR) k hb0 hne],⟨⟩⟩))
  ·have hee:uf x (x.ah.getD k (aR .bR))=true:=cL bM (by simp only[uf,lB,bC]<;>first|rfl|ac_rfl)
   refine au (bU X [1,3] rfl ?_)
   refine⟨k+1,⟨by omega,by rw[An _ _ _ (aR .bR) hb0,hall,dn];exact hee⟩,by omega,?_⟩
   rw[bZ _ k rfl (by omega)]
   try rfl
 ·try simp only[bG]at hb0
  exact aW (av X [2] rfl (aq (aj rfl ⟨by rw[aD hb0]at hall;rw[ug,hall],⟨⟩⟩)))
theorem AO(x:bN)(i:Int)(hd:x.ah.length≤1048576):So 121 [.agg (bw x),aI i] [aU (Iw x i)]:=by
 refine aF X call121 func121 ntmps121 rfl rfl ?_
 intro zb
 have hf:=fun h=>PA (i:=i) hd h
 refine av X [1,2] rfl (aa ?_)
 have t1:=(su ((x.ah.getD i.toNat (aR .bR)).live.inbox) ((x.ah.getD (af.wrap (aH af.bits i^^^aH af.bits 1).toNat).toNat (aR .bR)).live.bp))
 exact aQ X [] [(7,⟨false,[aU (iy x i)]⟩),(24,⟨false,cx t1⟩)] [4] [] 4194303 0 MO (by kernel_rfl) rfl (by kernel_rfl) ⟨fun _=>su _ _,fun h=>(hf h).2.1,fun h=>(hf h).1,tQ x i hd,⟨⟩⟩ (aq (aj rfl ⟨by rw[At,SH hd],⟨⟩⟩))
theorem AP(x:bN)(i:Int)(hd:x.ah.length≤1048576):So 89 [.agg (bw x),aI i] [aU (Iw x i)]:=by
 refine aF X call89 func89 ntmps89 rfl rfl ?_
 intro zb
 refine av X [1,2] rfl (aa (aM X [] [(9,⟨false,[aU (iy x i)]⟩)] [1,2,10] [] rfl (by(with_reducible and_intros)<;>first|exact⟨⟩|exact(Az x i (by first|assumption|omega| (simp;done)| (simp;omega)))) ?_))
 refine an rfl ?_ ?_<;>intro hb0
 ·have hpk:iy x i=false:=by simpa using hb0
  exact av X [4] rfl (aq (aj rfl ⟨by rw[Iw,hpk];rfl,⟨⟩⟩))
 ·have hpk:iy x i=true:=by simpa using hb0
  have hf:=PA hd hpk
  refine au (aO X [1,2,5] rfl (by and_intros<;>first|exact⟨⟩| (intros;omega)) (aO X [5,6] rfl (by and_intros<;>first|exact⟨⟩| (intros;omega)) (aa ?_)))
  have t1:=(lS ((x.ah.getD i.toNat (aR .bR)).live.inbox) (((x.ah.getD (af.wrap (aH af.bits i^^^aH af.bits 1).toNat).toNat (aR .bR)).live.bp.take ((x.ah.getD i.toNat (aR .bR)).live.inbox.length:Int).toNat).drop (0:Int).toNat))
  refine bn X [] [(37,⟨false,cx t1⟩)] [4] [] rfl (by(with_reducible and_intros)<;>first|exact⟨⟩|exact fun _=>t1| ((intro h1;first| (intro h2;first| (intro h3;refine bh ?_ ?_)|refine bh ?_ ?_)|refine bh ?_ ?_)<;>first|omega| ((try simp only[bG]at*);(try simp(disch:=omega) only[dm]);omega))) ?_
  exact aq (aj rfl ⟨by rw[←SH hd,hpk];exact(congrArg dO (by simp only[Cf,iE,lB,bC]<;>first|rfl|ac_rfl)),⟨⟩⟩)
theorem EV(x:bN)(hsz:gW x≤1048576):So 66 [.agg (bw x)] [aU (sK x)]:=by
 refine aF X call66 func66 ntmps66 rfl rfl ?_
 intro zb
 have hd:x.ah.length≤1048576:=Pn hsz
 have hrl:x.aK.rounds.length≤1048576:=BT hsz
 refine av X [1] rfl (aa (aM X [] [(5,⟨false,[aU (okW x)]⟩),(9,⟨false,[aU (ug x)]⟩)] [1,11] [] rfl (by(with_reducible and_intros);(iterate 2 all_goals try first|exact⟨⟩|exact(dy x)|exact fun _=>(xY x (by first|assumption|omega| (simp;done)| (simp;omega))))) ?_))
 refine an rfl ?_ ?_<;>intro hb0
 ·have hh:(okW x&&ug x)=false:=cR hb0 (by simp only[bC]<;>first|rfl|ac_rfl)
  exact av X [2] rfl (aq (aj rfl ⟨by rw[sK,hh];rfl,⟨⟩⟩))
 ·have hh:(okW x&&ug x)=true:=cL hb0 (by simp only[bC]<;>first|rfl|ac_rfl)
  refine au (aa (av X [1,14,15] rfl ?_))
  refine aB (aP (fun k=>k≤x.ah.length∧(bT k).all (auP x)=true) (fun k:Nat=> [(15, .one ((aI k)))]) (fun k=> []) (fun k=>x.ah.length-k) 0 (fun k=>rfl) ⟨aE _,rfl⟩ rfl ?_)
  rintro k ⟨hk,hall⟩
  refine av X [1,14,15,16] rfl ?_
  refine aa (an rfl ?_ ?_)<;>intro bM
  ·try simp only[bG]at bM
   refine au (aa (aB (av X [1,3,14,15] rfl (aM X [] [(20,⟨false,[aU (Iw x (k:Int))]⟩),(25,⟨false,[aU (pG x (k:Int))]⟩)] [1,14,15,27] [] rfl (by(with_reducible and_intros);(iterate 2 all_goals try first|exact⟨⟩|exact(AO x (k:Int) (by first|assumption|omega| (simp;done)| (simp;omega)))|exact fun _=>(zh x (k:Int) (by first|assumption|omega| (simp;done)| (simp;omega))))) ?_))))
   refine an rfl ?_ ?_<;>intro cS
   ·have hk2:auP x k=false:=cR cS (by simp only[auP,bC]<;>first|rfl|ac_rfl)
    exact av X [2] rfl (aq (aj rfl ⟨by rw[sK,nC bM hk2];simp,⟨⟩⟩))
   ·have hk2:auP x k=true:=cL cS (by simp only[auP,bC]<;>first|rfl|ac_rfl)
    refine au (bU X [1,14,15] rfl ?_)
    refine⟨k+1,⟨by omega,lz hall hk2⟩,by omega,?_⟩
    rw[bZ _ k rfl (by omega)]
    try rfl
  ·try simp only[bG]at bM
   exact aW (av X [2] rfl (aq (aj rfl ⟨by rw[sK,hh,show x.ah.length=k by omega,hall];rfl,⟨⟩⟩)))
theorem EW(x:bN)(hsz:gW x≤1048576):So 43 [.agg (bw x)] [aU (sK x)]:=by
 refine aF X call43 func43 ntmps43 rfl rfl ?_
 intro zb
 have hd:x.ah.length≤1048576:=Pn hsz
 have hrl:x.aK.rounds.length≤1048576:=BT hsz
 refine av X [1] rfl (aa (av X [1,3] rfl ?_))
 refine aB (aP (fun k=>k≤x.ah.length∧(bT k).all (auP x)=true) (fun k:Nat=> [(3, .one ((aI k)))]) (fun k=> []) (fun k=>x.ah.length-k) 0 (fun k=>rfl) ⟨aE _,rfl⟩ rfl ?_)
 rintro k ⟨hk,hall⟩
 refine aa (av X [1,3,8] rfl ?_)
 refine an rfl ?_ ?_<;>intro hb0
 ·try simp only[bG]at hb0
  refine au (aa (aB (aM X [] [(13,⟨false,[aU (Iw x (k:Int))]⟩),(18,⟨false,[aU (pG x (k:Int))]⟩)] [1,3,20] [] rfl (by(with_reducible and_intros);(iterate 2 all_goals try first|exact⟨⟩|exact(AP x (k:Int) (by first|assumption|omega| (simp;done)| (simp;omega)))|exact fun _=>(zi x (k:Int) (by first|assumption|omega| (simp;done)| (simp;omega))))) ?_)))
  refine an rfl ?_ ?_<;>intro bM
  ·have hk2:auP x k=false:=cR bM (by simp only[auP,bC]<;>first|rfl|ac_rfl)
   exact av X [2] rfl (aq (aj rfl ⟨by rw[sK,nC hb0 hk2];simp,⟨⟩⟩))
  ·have hk2:auP x k=true:=cL bM (by simp only[auP,bC]<;>first|rfl|ac_rfl)
   refine au (bU X [1,3] rfl ?_)
   refine⟨k+1,⟨by omega,lz hall hk2⟩,by omega,?_⟩
   rw[bZ _ k rfl (by omega)]
   try rfl
 ·try simp only[bG]at hb0
  exact aW (aM X [] [(22,⟨false,[aU (okW x)]⟩),(25,⟨false,[aU (ug x)]⟩)] [2] [] rfl (by(with_reducible and_intros);(iterate 2 all_goals try first|exact⟨⟩|exact(dL x)|exact fun _=>(xZ x (by first|assumption|omega| (simp;done)| (simp;omega))))) (aq (aj rfl ⟨by rw[sK,show x.ah.length=k by omega,hall];exact(congrArg dO (by simp only[bC]<;>first|rfl|ac_rfl)),⟨⟩⟩)))
end
section
set_option maxRecDepth 100000
theorem yP(key c:Int)(cell:List UInt8):So 374 [aI key,aI c, .a (.sl .u8 cell)] [.agg (mH (opP key c cell)),aU (uG key c cell)]:=by
 refine aF X call374 func374 ntmps374 rfl rfl ?_
 intro zb
 refine eu 2 rfl (fun mK=>(av X [0,1,2,6] rfl (aa (aa ?_))))
 have t1:=(uS key c ((cell.take (20:Int).toNat).drop (0:Int).toNat) (by rw[b9,bV];omega))
 have t2:=(nD ((cell.take (cell.length:Int).toNat).drop (20:Int).toNat) (four (tL key c ((cell.take (20:Int).toNat).drop (0:Int).toNat))))
 refine aQ X [] [(11,⟨false,[aU (jl key)]⟩),(15,⟨false,[aU (inr c 0 1000000000000)]⟩),(30,⟨false,cx t1⟩),(31,⟨false,cx t2⟩)] [0,1,2,6,33] [] 16777215 0 MO (by kernel_rfl) rfl (by kernel_rfl) (by(with_reducible and_intros);(iterate 4 all_goals try first|exact⟨⟩|exact(jR key)|exact fun _=>(bl c 0 1000000000000)|exact fun _=>t1|exact fun _=>t2);all_goals first| ((intro h1;first| (intro h2;first| (intro h3;refine bh ?_ ?_)|refine bh ?_ ?_)|refine bh ?_ ?_)<;>first|omega| ((try simp only[bG]at*);(try simp(disch:=omega) only[dm]);omega))) ?_
 refine an rfl ?_ ?_<;>intro hb0
 ·have hA:Uf key c cell=false:=cR hb0 (by simp only[Uf,iE,Lx,lg,bC]<;>first|rfl|ac_rfl)
  have hk:=VA hA
  exact aO X [6,7] rfl (by trivial) (aq (aj rfl ⟨by rw[sB hk],by rw[sB hk],by rw[hk],⟨⟩⟩))
 ·have hA:Uf key c cell=true:=cL hb0 (by simp only[Uf,iE,Lx,lg,bC]<;>first|rfl|ac_rfl)
  obtain⟨hol,hcl⟩:=PB hA
  refine au (aa ?_)
  have t1:=(KN (tM key c) ((cell.take (20:Int).toNat).drop (0:Int).toNat) (by rw[b9,bV];omega))
  refine aQ X [] [(37,⟨false,[aI (tM key c)]⟩),(40,⟨true,cx t1⟩)] [6,8] [] 127 0 MO (by kernel_rfl) rfl (by kernel_rfl) (by(with_reducible and_intros);(iterate 2 all_goals try first|exact⟨⟩|exact(As key c)|exact t1);all_goals first| (intros;omega)) ?_
  rw[adA]
  refine aa (aO X [6,8,45] rfl (by and_intros<;>first|exact⟨⟩| (intros;omega)) ?_)
  refine an rfl ?_ ?_<;>intro bM
  ·try simp only[bG]at bM
   rw[Z7]at bM
   have h14:14<Ml key c cell:=by have h:(14:Int)<(Ml key c cell:Int):=bM;omega
   have hk:=ajP h14
   exact aO X [6,7] rfl (by trivial) (aq (aj rfl ⟨by rw[sB hk],by rw[sB hk],by rw[hk],⟨⟩⟩))
  ·try simp only[bG]at bM
   rw[Z7]at bM
   have h14:Ml key c cell≤14:=by have h:(Ml key c cell:Int)≤14:=bM;omega
   have hu1:((NP key c cell).getD (cQ 1) (aR .u8)).toNat≤14:=h14
   have Kc:=PC hA h14
   have hpk:=aoR hA h14
   have hbe:=Vz key c cell
   refine au (aa ?_)
   have t1:=(dW (((NP key c cell).take (af.wrap (2+af.wrap (((NP key c cell).getD (cQ 1) (aR .u8)).toNat:Int))).toNat).drop (cQ 2)) (by rw[hbe,Kc];omega))
   refine aQ X [] [(58,⟨true,cx t1⟩)] [6,9] [] 16383 0 MO (by kernel_rfl) rfl (by kernel_rfl) (by(with_reducible and_intros)<;>first|exact⟨⟩|exact t1| (intros;omega)| ((try simp only[bG]at*);(simp(disch:=omega) only[dm]);omega)) ?_
   rw[Vz,Z7]
   refine aa (aM X [] [(61,⟨false,[aU (nO (⟨opk key c cell,opb key c cell⟩:Plain))]⟩)] [6,9,62] [] rfl (by(with_reducible and_intros)<;>first|exact⟨⟩|exact(sJ (⟨opk key c cell,opb key c cell⟩:Plain))) ?_)
   refine an rfl ?_ ?_<;>intro cS
   ·have hk:uG key c cell=false:=by rw[←hpk];simpa using cS
    exact aO X [6,7] rfl (by trivial) (aq (aj rfl ⟨by rw[sB hk],by rw[sB hk],by rw[hk],⟨⟩⟩))
   ·have hk:uG key c cell=true:=by rw[←hpk];simpa using cS
    exact au (aO X [6,7] rfl (by trivial) (aq (aj rfl ⟨by rw[JE hk];rfl,by rw[JE hk],by rw[hk],⟨⟩⟩)))
theorem yQ(key c:Int)(cell:List UInt8):So 408 [aI key,aI c, .a (.sl .u8 cell)] [.agg (mH (opP key c cell)),aU (uG key c cell)]:=by
 refine aF X call408 func408 ntmps408 rfl rfl ?_
 intro zb
 refine eu 2 rfl (fun mK=>(av X [0,1,2,6] rfl (aa (aM X [] [(11,⟨false,[aU (jl key)]⟩),(15,⟨false,[aU (inr c 0 1000000000000)]⟩)] [0,1,2,6,22] [] rfl (by(with_reducible and_intros);(iterate 2 all_goals try first|exact⟨⟩|exact(lP key)|exact fun _=>(bD c 0 1000000000000))) ?_))))
 refine an rfl ?_ ?_<;>intro hb0
 ·have hH:opH key c cell=false:=cR hb0 (by simp only[opH,bC]<;>first|rfl|ac_rfl)
  have hk:=amg hH
  exact aO X [6,7] rfl (by trivial) (aq (aj rfl ⟨by rw[sB hk],by rw[sB hk],by rw[hk],⟨⟩⟩))
 ·have hH:opH key c cell=true:=cL hb0 (by simp only[opH,bC]<;>first|rfl|ac_rfl)
  obtain⟨hk1,hk2,hcl⟩:=aoT hH
  have aoU:=ahL hk1 hk2 hcl
  refine au (aa (aQ X [] [] [0,1,2,6,8] [] 8388607 0 MO (by kernel_rfl) rfl (by kernel_rfl) (by and_intros<;>first|exact⟨⟩| (intros;omega)) ?_))
  rw[ahK]
  refine aa (aa ?_)
  have t1:=(wm key c ((cell.take (20:Int).toNat).drop (0:Int).toNat) (by rw[b9,bV];omega))
  refine bn X [] [(51,⟨false,cx t1⟩)] [0,1,2,6,52] [] rfl (by(with_reducible and_intros)<;>first|exact⟨⟩|exact t1| (intros;omega)) ?_
  refine an rfl ?_ ?_<;>intro bM
  ·try simp only[bG]at bM
   have hA:Uf key c cell=false:=by rw[aoU,decide_eq_false_iff_not];intro h;exact bM (by rw[h];simp)
   have hk:=VA hA
   exact aO X [6,7] rfl (by trivial) (aq (aj rfl ⟨by rw[sB hk],by rw[sB hk],by rw[hk],⟨⟩⟩))
  ·try simp only[bG]at bM
   have hA:Uf key c cell=true:=by rw[aoU,decide_eq_true_eq,bM];simp
   obtain⟨hol,_⟩:=PB hA
   refine au (aa ?_)
   have t1:=(KP (tM key c) ((cell.take (20:Int).toNat).drop (0:Int).toNat) (by rw[b9,bV];omega))
   refine aQ X [] [(56,⟨false,[aI (tM key c)]⟩),(59,⟨true,cx t1⟩)] [6,9] [] 127 0 MO (by kernel_rfl) rfl (by kernel_rfl) (by(with_reducible and_intros);(iterate 2 all_goals try first|exact⟨⟩|exact(wo key c)|exact t1);all_goals first| (intros;omega)) ?_
   rw[adA]
   refine aa (aO X [6,9,71] rfl (by and_intros<;>first|exact⟨⟩| (intros;omega)| ((intro h1;first| (intro h2;first| (intro h3;refine bh ?_ ?_)|refine bh ?_ ?_)|refine bh ?_ ?_)<;>first|omega| ((try simp only[bG]at*);(try simp(disch:=omega) only[dm]);omega))| (refine fun _=> ?_;dsimp only[hyps,QZ];omega)) ?_)
   refine an rfl ?_ ?_<;>intro cS
   ·try simp only[bG]at cS
    rw[Z7,Z7]at cS
    have hk:uG key c cell=false:=by
     rcases cS with h|h
     ·exact al9 h
     ·exact ajP (by have h:(14:Int)<(Ml key c cell:Int):=h;omega)
    exact aO X [6,7] rfl (by trivial) (aq (aj rfl ⟨by rw[sB hk],by rw[sB hk],by rw[hk],⟨⟩⟩))
   ·try simp only[bG]at cS
    rw[Z7,Z7]at cS
    have h14:Ml key c cell≤14:=by have h:(Ml key c cell:Int)≤14:=cS.2;omega
    have hu1:((NP key c cell).getD (cQ 1) (aR .u8)).toNat≤14:=h14
    have Kc:=PC hA h14
    have hk:uG key c cell=true:=aoS hA h14 cS.1
    have hbe:=Vz key c cell
    exact au (aa (aQ X [(85,77)] [] [6,7] [] 45055 4 MO (by kernel_rfl) rfl (by kernel_rfl) (by and_intros<;>first|exact⟨⟩| (intros;omega)|exact rfl| ((try simp only[bG]at*);(simp(disch:=omega) only[dm]);omega)| (simp only[gR,maxLen,lens];omega)) (aq (aj rfl ⟨by rw[JE hk];exact congrArg (Value.int af) (Z7 _),by rw[JE hk];exact hbe,by rw[hk],⟨⟩⟩))))
theorem kj(a:mD)(r:Int)(hz:a.rounds.length≤1048576∧ ∀y,y∈a.rounds→eN aL y.db.rows≤1048576):So 141 [.agg (fK a),aI r] [.agg (bQ (lY a.rounds r)),aU (oM a.rounds r)]:=by
 refine aF X call141 func141 ntmps141 rfl rfl ?_
 intro zb
 refine b7 0 1 rfl rfl (fun hl3=>(av X [1,2,4] rfl (aa (av X [1,4,9,10,11] rfl ?_))))
 refine aB (aP (fun k=>k≤a.rounds.length∧(a.rounds.take k).any (isR r)=false) (fun k:Nat=> [(11, .one ((aI k)))]) (fun k=> []) (fun k=>a.rounds.length-k) 0 (fun k=>rfl) ⟨aE _,rfl⟩ rfl ?_)
 rintro k ⟨hk,hall⟩
 refine av X [1,4,9,10,11,12] rfl ?_
 refine aa (an rfl ?_ ?_)<;>intro hb0
 ·try simp only[bG]at hb0
  refine au (aa (aB (aO X [1,4,7,9,10,11] rfl (by and_intros<;>first|exact⟨⟩| (intros;omega)) (av X [1,4,7,9,10,11,18] rfl ?_))))
  refine an rfl ?_ ?_<;>intro bM
  ·have hh:=adv hb0 hall bM
   exact aM X [] [(21,⟨true,[.agg (bQ ((a.rounds.getD k (aR .aX)).db))]⟩)] [4,5] [] rfl (by(with_reducible and_intros)<;>first|exact⟨⟩|exact(eP ((a.rounds.getD k (aR .aX)).db) (hz.2 _ (getD_in _ hb0)))) (aq (aj rfl ⟨by rw[hh.2],by rw[hh.1],⟨⟩⟩))
  ·refine au (bU X [1,4,9,10,11] rfl ?_)
   refine⟨k+1,⟨by omega,xR (aR .aX) hb0 hall bM⟩,by omega,?_⟩
   rw[bZ _ k rfl (by omega)]
   try rfl
 ·try simp only[bG]at hb0
  exact aW (aO X [4,5] rfl (by trivial) (aq (aj rfl ⟨by rw[(JC (by rw[←hall,aD hb0])).2],by rw[(JC (by rw[←hall,aD hb0])).1],⟨⟩⟩)))
theorem G8(rows:List (List UInt8))(v:List Int)(hr: ∀r,r∈rows→r.length≤1048576):So 349 [.a (.sl (.sl .u8) rows), .a (.sl .int v)] [.a (.sl .u8 (EX rows v))]:=by
 refine aF X call349 func349 ntmps349 rfl rfl ?_
 intro zb
 refine eu 0 rfl (fun hl0=> ?_)
 refine eu 1 rfl (fun hl1=>(av X [0,1] rfl (aO X [0,1,5] rfl (by and_intros<;>first|exact⟨⟩|exact rfl) (aa (av X [1,5,9,10,11] rfl ?_)))))
 refine aB (aP (fun k=>k≤rows.length) (fun k:Nat=> [(11, .one ((aI k)))]) (fun k=> [(8, .arr .u8 (ya rows v k))]) (fun k=>rows.length-k) 0 (fun k=>rfl) (aE _) rfl ?_)
 intro k hk
 have hle:=AQ v hr k hk
 refine av X [1,5,9,10,11,12] rfl ?_
 refine aa (an rfl ?_ ?_)<;>intro hb0
 ·try simp only[bG]at hb0
  have hel:=hr _ (getD_in (aR (.sl .u8)) hb0)
  refine au (aa (aB (aO X [1,5,6,7,9,10,11] rfl (by and_intros<;>first|exact⟨⟩| (intros;omega)) (aO X [1,5,7,9,10,11,26] rfl (by and_intros<;>first|exact⟨⟩| ((intro h1;first| (intro h2;first| (intro h3;refine bh ?_ ?_)|refine bh ?_ ?_)|refine bh ?_ ?_)<;>first|omega| ((try simp only[bG]at*);(try simp(disch:=omega) only[dm]);omega))) ?_))))
  refine an rfl ?_ ?_<;>intro bM
  ·try simp only[bG]at bM
   have hs:=EY (rows:=rows) bM.1 bM.2
   refine bn X [] [(29,⟨true,[.a (.sl .u8 (iG (ya rows v k) (rows.getD k (aR (.sl .u8)))))]⟩)] [1,5,9,10,11] [] rfl (by(with_reducible and_intros)<;>first|exact⟨⟩|exact(nP (ya rows v k) (rows.getD k (aR (.sl .u8))) (by first|assumption|omega| (simp;done)| (simp;omega)) (by first|assumption|omega| (simp;done)| (simp;omega)))) (sZ 5 8 rfl (bU X [1,5,9,10,11] rfl ?_))
   refine⟨k+1,by omega,by omega,?_⟩
   rw[bZ _ k rfl (by omega),hs]
   try rfl
  ·try simp only[bG]at bM
   have hs:=wJ (rows:=rows) (v:=v) (k:=k) (by omega)
   refine au (bU X [1,5,9,10,11] rfl ?_)
   refine⟨k+1,by omega,by omega,?_⟩
   rw[bZ _ k rfl (by omega),hs]
   try rfl
 ·try simp only[bG]at hb0
  exact aW (av X [4] rfl (aq (aj rfl ⟨by rw[SI hk (Or.inl hb0)],⟨⟩⟩)))
theorem um(d:DB)(v:List Int):So 290 [.agg (bQ d), .a (.sl .int v)] [.a (.sl .u8 (kB d v))]:=by
 refine aF X call290 func290 ntmps290 rfl rfl ?_
 intro zb
 refine av X [1,2] rfl (aa (aM X [] [(6,⟨false,[aU (eZ d)]⟩),(13,⟨false,[aU (kG v (d.rows.length:Int))]⟩)] [1,2,15] [] rfl (by(with_reducible and_intros);(iterate 2 all_goals try first|exact⟨⟩|exact(gh d)|exact fun _=>(ou v (d.rows.length:Int)))) ?_))
 refine an rfl ?_ ?_<;>intro hb0
 ·have hk:(eZ d&&kG v d.rows.length)=false:=cR hb0 (by simp only[bC]<;>first|rfl|ac_rfl)
  exact av X [4] rfl (aq (aj rfl ⟨by rw[kB,hk];rfl,⟨⟩⟩))
 ·have hk:(eZ d&&kG v d.rows.length)=true:=cL hb0 (by simp only[bC]<;>first|rfl|ac_rfl)
  have hkk:=hk
  rw[az]at hkk
  have Z8: ∀r,r∈d.rows→r.length≤1048576:=fun r hr=>by rw[(nE.1 hkk.1).2 r hr];decide
  have hxl:(EX d.rows v).length≤1048576:=AQ v Z8 d.rows.length (bq _)
  exact au (aa (aQ X [] [(20,⟨true,[.a (.sl .u8 (EX d.rows v))]⟩),(21,⟨true,[.a (.sl .u8 (iG zer (EX d.rows v)))]⟩)] [4] [] 127 0 MO (by kernel_rfl) rfl (by kernel_rfl) ⟨nP zer (EX d.rows v) (by rw[xU];decide) hxl,G8 d.rows v Z8,⟨rfl,cE _ (by decide)⟩,rfl,by omega,⟨by decide,by decide⟩,⟨⟩⟩ (aq (aj rfl ⟨by rw[kB,if_pos hk],⟨⟩⟩))))
theorem wM(key:Int)(a:e9)(h1:a.selection.length≤262144)(h2:a.data.length≤262144):So 291 [aI key, .agg (ju a)] [aI (Ln key a.server a.round a.selection a.data)]:=by
 refine aF X call291 func291 ntmps291 rfl rfl ?_
 intro zb
 refine av X [0,3] rfl (aa ?_)
 have t1:=(oJ [[191,a.server,a.round,(a.selection.length:Int)],a.selection,Mk a.data] (by simp) (by simp[xW];omega))
 have t2:=(cI key ([[191,a.server,a.round,(a.selection.length:Int)],a.selection,Mk a.data].flatten) (by simp[xW];omega))
 refine aQ X [] [(18,⟨true,[.a (.sl .int (Mk a.data))]⟩),(20,⟨true,cx t1⟩),(21,⟨false,cx t2⟩)] [4] [] 245759 1 MO (by kernel_rfl) rfl (by kernel_rfl) (by(repeat' with_reducible first|exact bH|refine bS ?_ ?_|apply bh);(iterate 3 all_goals try first|exact(tI a.data (by omega))|exact t1|exact t2);all_goals first|exact rfl|exact⟨rfl,cE _ (by decide)⟩) ?_
 exact aq (aj rfl ⟨by simp[Ln],⟨⟩⟩)
theorem oO(a:mD)(r:Int)(hz:a.rounds.length≤1048576∧ ∀y,y∈a.rounds→eN aL y.db.rows≤1048576):So 174 [.agg (fK a),aI r] [.agg (bQ (lY a.rounds r)),aU (oM a.rounds r)]:=by
 refine aF X call174 func174 ntmps174 rfl rfl ?_
 intro zb
 refine b7 0 1 rfl rfl (fun hl3=>(av X [1,2,4] rfl (aa (av X [1,2,4,6] rfl ?_))))
 refine aB (aP (fun k=>k≤a.rounds.length∧(a.rounds.take k).any (isR r)=false) (fun k:Nat=> [(6, .one ((aI k)))]) (fun k=> []) (fun k=>a.rounds.length-k) 0 (fun k=>rfl) ⟨aE _,rfl⟩ rfl ?_)
 rintro k ⟨hk,hall⟩
 refine aa (av X [1,2,4,6,11] rfl ?_)
 refine an rfl ?_ ?_<;>intro hb0
 ·try simp only[bG]at hb0
  refine au (aa (aB (aO X [1,2,4,6,21] rfl (by and_intros<;>first|exact⟨⟩| (intros;omega)) ?_)))
  refine an rfl ?_ ?_<;>intro bM
  ·have hh:=adv hb0 hall bM
   exact aM X [] [(28,⟨true,[.agg (bQ ((a.rounds.getD k (aR .aX)).db))]⟩)] [4,5] [] rfl (by(with_reducible and_intros)<;>first|exact⟨⟩|exact(iH ((a.rounds.getD k (aR .aX)).db) (hz.2 _ (getD_in _ hb0)))| (intros;omega)) (aq (aj rfl ⟨by rw[hh.2],by rw[hh.1],⟨⟩⟩))
  ·refine au (bU X [1,2,4,6] rfl ?_)
   refine⟨k+1,⟨by omega,xR (aR .aX) hb0 hall bM⟩,by omega,?_⟩
   rw[bZ _ k rfl (by omega)]
   try rfl
 ·try simp only[bG]at hb0
  exact aW (aO X [4,5] rfl (by trivial) (aq (aj rfl ⟨by rw[(JC (by rw[←hall,aD hb0])).2],by rw[(JC (by rw[←hall,aD hb0])).1],⟨⟩⟩)))
theorem G9(rows:List (List UInt8))(v:List Int)(hr: ∀r,r∈rows→r.length≤1048576):So 366 [.a (.sl (.sl .u8) rows), .a (.sl .int v)] [.a (.sl .u8 (EX rows v))]:=by
 refine aF X call366 func366 ntmps366 rfl rfl ?_
 intro zb
 refine eu 0 rfl (fun hl0=> ?_)
 refine eu 1 rfl (fun hl1=>(av X [0,1] rfl (aO X [0,1,5] rfl (by and_intros<;>first|exact⟨⟩|exact rfl) (aa (av X [0,1,5,6] rfl ?_)))))
 refine aB (aP (fun k=>k≤rows.length) (fun k:Nat=> [(6, .one ((aI k)))]) (fun k=> [(7, .arr .u8 (ya rows v k))]) (fun k=>rows.length-k) 0 (fun k=>rfl) (aE _) rfl ?_)
 intro k hk
 have hle:=AQ v hr k hk
 refine aa (av X [0,1,5,6,17] rfl ?_)
 refine an rfl ?_ ?_<;>intro hb0
 ·try simp only[bG]at hb0
  have hel:=hr _ (getD_in (aR (.sl .u8)) hb0.1)
  refine au (aa (aB (aO X [0,1,5,6,24] rfl (by and_intros<;>first|exact⟨⟩| (intros;omega)) ?_)))
  refine an rfl ?_ ?_<;>intro bM
  ·try simp only[bG]at bM
   have hs:=EY (rows:=rows) hb0.2 bM
   refine bn X [] [(30,⟨true,[.a (.sl .u8 (iG (ya rows v k) (rows.getD k (aR (.sl .u8)))))]⟩)] [0,1,5,6] [] rfl (by(with_reducible and_intros)<;>first|exact⟨⟩|exact(nQ (ya rows v k) (rows.getD k (aR (.sl .u8))) (by first|assumption|omega| (simp;done)| (simp;omega)) (by first|assumption|omega| (simp;done)| (simp;omega)))| (intros;omega)) (sZ 5 7 rfl (bU X [0,1,5,6] rfl ?_))
   refine⟨k+1,by omega,by omega,?_⟩
   rw[bZ _ k rfl (by omega),hs]
   try rfl
  ·try simp only[bG]at bM
   have hs:=wJ (rows:=rows) (v:=v) (k:=k) (fun h=>bM h.2)
   refine au (bU X [0,1,5,6] rfl ?_)
   refine⟨k+1,by omega,by omega,?_⟩
   rw[bZ _ k rfl (by omega),hs]
   try rfl
 ·try simp only[bG]at hb0
  exact aW (av X [4] rfl (aq (aj rfl ⟨by rw[SI hk (by omega)],⟨⟩⟩)))
theorem uo(d:DB)(v:List Int):So 311 [.agg (bQ d), .a (.sl .int v)] [.a (.sl .u8 (kB d v))]:=by
 refine aF X call311 func311 ntmps311 rfl rfl ?_
 intro zb
 refine av X [1,2] rfl (aa (aM X [] [(6,⟨false,[aU (eZ d)]⟩),(13,⟨false,[aU (kG v (d.rows.length:Int))]⟩)] [1,2,15] [] rfl (by(with_reducible and_intros);(iterate 2 all_goals try first|exact⟨⟩|exact(fk d)|exact fun _=>(ox v (d.rows.length:Int)))) ?_))
 refine an rfl ?_ ?_<;>intro hb0
 ·have hk:(eZ d&&kG v d.rows.length)=false:=cR hb0 (by simp only[bC]<;>first|rfl|ac_rfl)
  exact aO X [4] rfl (by and_intros<;>first|exact⟨⟩|exact rfl) (aq (aj rfl ⟨by rw[kB,hk];rfl,⟨⟩⟩))
 ·have hk:(eZ d&&kG v d.rows.length)=true:=cL hb0 (by simp only[bC]<;>first|rfl|ac_rfl)
  have hkk:=hk
  rw[az]at hkk
  have Z8: ∀r,r∈d.rows→r.length≤1048576:=fun r hr=>by rw[(nE.1 hkk.1).2 r hr];decide
  have hxl:(EX d.rows v).length≤1048576:=AQ v Z8 d.rows.length (bq _)
  exact au (aa (aQ X [] [(21,⟨true,[.a (.sl .u8 (EX d.rows v))]⟩),(22,⟨true,[.a (.sl .u8 (iG zer (EX d.rows v)))]⟩)] [4] [] 127 0 MO (by kernel_rfl) rfl (by kernel_rfl) ⟨nQ zer (EX d.rows v) (by rw[xU];decide) hxl,G9 d.rows v Z8,⟨rfl,cE _ (by decide)⟩,rfl,by omega,⟨by decide,by decide⟩,⟨⟩⟩ (aq (aj rfl ⟨by rw[kB,if_pos hk],⟨⟩⟩))))
theorem qI(key:Int)(a:e9)(h1:a.selection.length≤262144)(h2:a.data.length≤262144):So 253 [aI key, .agg (ju a)] [aI (Ln key a.server a.round a.selection a.data)]:=by
 refine aF X call253 func253 ntmps253 rfl rfl ?_
 intro zb
 have Kc:=xW a.data
 refine av X [0,3] rfl (aM X [(16,13)] [] [0,3,5] [] rfl (by and_intros<;>first|exact⟨⟩|exact rfl| (simp only[gR,maxLen,lens];omega)) (aa ?_))
 have t1:=(cJ key ([191,a.server,a.round,(a.selection.length:Int)]++a.selection++Mk a.data) (by simp[xW];omega))
 exact bn X [(22,13)] [(21,⟨true,[.a (.sl .int (Mk a.data))]⟩),(23,⟨false,cx t1⟩)] [4] [] rfl (by(with_reducible and_intros);(iterate 2 all_goals try first|exact⟨⟩|exact(tJ a.data (by omega))|exact t1);all_goals first|exact rfl| (simp only[gR,maxLen,lens];omega)) (aq (aj rfl ⟨rfl,⟨⟩⟩))
theorem CT(key:Int)(a:e9)(h1:a.selection.length≤262144)(h2:a.data.length≤262144):jG ty aN 228 [(5, .arr .int a.selection),(6, .arr .u8 a.data)] [aI key, .agg [eO a.server,eO a.round, .own 5, .own 6,eO a.T8]] [(5, .arr .int a.selection),(6, .arr .u8 a.data)] [.agg [eO a.server,eO a.round, .own 5, .own 6,eO (Ln key a.server a.round a.selection a.data)]]:=by
 refine fW X call228 func228 rfl rfl (by decide) ntmps228 (by simp) rfl ?_
 intro zb
 exact av X [0,3,4] rfl (aM X [] [(7,⟨false,[aI (Ln key a.server a.round a.selection a.data)]⟩)] [3,4] [] rfl (by(with_reducible and_intros)<;>first|exact⟨⟩|exact(wM key a h1 h2)) (aO X [4] rfl (by trivial) (aq (bI rfl ⟨rfl,rfl,rfl,rfl,rfl,⟨⟩⟩))))
theorem E2(key sv r:Int)(d:DB)(v:List Int)(hv:v.length≤262144):So 227 [aI key,aI sv,aI r, .agg (bQ d), .a (.sl .int v)] [.agg (ju (uC key sv r d v)),aU (pQ d v)]:=by
 refine aF X call227 func227 ntmps227 rfl rfl ?_
 intro zb
 have hal:=AR d v
 refine av X [0,1,2,4,8,10] rfl (aM X [] [(15,⟨true,[.a (.sl .u8 (kB d v))]⟩)] [0,1,2,4,10,12] [] rfl (by(with_reducible and_intros)<;>first|exact⟨⟩|exact(um d v)) (aa (av X [0,1,2,4,10,12,18] rfl ?_)))
 refine an rfl ?_ ?_<;>intro hb0
 ·try simp only[bG]at hb0
  have hk:=XH (d:=d) (v:=v) (by omega)
  have hg:=adF (key:=key) (sv:=sv) (r:=r) hk
  exact aO X [10,11] rfl (by trivial) (aq (aj rfl (by and_intros<;>first|exact⟨⟩| (rw[hg];rfl;done)| (rw[hk];done))))
 ·try simp only[bG]at hb0
  have hk:=Lu (d:=d) (v:=v) (by omega)
  have hg:=JG (key:=key) (sv:=sv) (r:=r) hk
  have h24:=JH hk
  refine au (aa ?_)
  have t1:=(CT key (⟨sv,r,v,kB d v,0⟩:e9) (by show v.length≤_;omega) (by show(kB d v).length≤_;omega))
  exact bn X [] [(24,⟨true,[.a (.sl .int v)]⟩),(800027,⟨true,nX t1⟩),(700027,⟨true, .agg [.ptr 5 24, .ptr 6 15]:: .agg []::nY t1⟩)] [10,11] [] rfl (by(with_reducible and_intros);(iterate 2 all_goals try first|exact⟨⟩|exact(kP v (by omega))|exact t1)) (aq (aj rfl (by and_intros<;>first|exact⟨⟩| (rw[hg];rfl;done)| (rw[hk];done))))
theorem yR(s:cu)(key r:Int)(d:DB)(v:List Int)(hv:v.length≤262144):So 144 [.agg (dF s),aI key,aI r, .agg (bQ d), .a (.sl .int v)] [.agg (ju (Vw s key r d v)),aU (pQ d v)]:=by
 refine aF X call144 func144 ntmps144 rfl rfl ?_
 intro zb
 refine av X [1,2,4,5,8,10] rfl (aM X [] [(21,⟨true,[.agg (ju (uC key s.id r d v)),aU (pQ d v)]⟩)] [1,5,10,12,13] [] rfl (by(with_reducible and_intros)<;>first|exact⟨⟩|exact(E2 key s.id r d v (by first|assumption|omega| (simp;done)| (simp;omega)))) (aa (av X [1,10,12,13,29] rfl ?_)))
 refine an rfl ?_ ?_<;>intro hb0
 ·have hq:(pQ d v&&(s.behavior==3))=true:=mQ hb0 (by simp only[bC]<;>first|rfl|ac_rfl)
  obtain⟨hk,ha⟩:=XI (key:=key) (r:=r) hq
  have hg:=JG (key:=key) (sv:=s.id) (r:=r) hk
  have hdl:(uC key s.id r d v).data.length=24:=by rw[hg];exact JH hk
  refine aO X [1,10,12,13] rfl (by and_intros<;>first|exact⟨⟩| (intros;omega)|exact(we _).1|exact(we _).2) ?_
  rw[adE]
  have t1:=(CT key (⟨(uC key s.id r d v).server,(uC key s.id r d v).round,(uC key s.id r d v).selection,Ug (uC key s.id r d v).data,(uC key s.id r d v).T8⟩:e9) (by show(uC key s.id r d v).selection.length≤_;rw[hg];exact hv) (by show(Ug (uC key s.id r d v).data).length≤_;rw[PD,hdl];decide))
  exact bn X [] [(800038,⟨true,nX t1⟩),(700038,⟨true, .agg [.ptr 5 23, .ptr 6 24]:: .agg []::nY t1⟩)] [10,12,13] [] rfl (by(with_reducible and_intros)<;>first|exact⟨⟩|exact t1) (aO X [10,11] rfl (by trivial) (aq (aj rfl (by and_intros<;>first|exact⟨⟩| (rw[ha];simp only[hg];rfl;done)| (rw[hk];done)))))
 ·have hq:(pQ d v&&(s.behavior==3))=false:=qG hb0 (by simp only[bC]<;>first|rfl|ac_rfl)
  have ha:=adG (key:=key) (r:=r) hq
  exact au (aO X [10,11] rfl (by trivial) (aq (aj rfl (by and_intros<;>first|exact⟨⟩|rfl| (rw[ha];done)))))
theorem E3(key sv r:Int)(d:DB)(v:List Int)(hv:v.length≤262144):So 252 [aI key,aI sv,aI r, .agg (bQ d), .a (.sl .int v)] [.agg (ju (uC key sv r d v)),aU (pQ d v)]:=by
 refine aF X call252 func252 ntmps252 rfl rfl ?_
 intro zb
 have hal:=AR d v
 refine av X [0,1,2,4,8,10] rfl (aM X [] [(16,⟨true,[.a (.sl .u8 (kB d v))]⟩)] [0,1,2,4,10,12] [] rfl (by(with_reducible and_intros)<;>first|exact⟨⟩|exact(uo d v)) (aa (av X [0,1,2,4,10,12,19] rfl ?_)))
 refine an rfl ?_ ?_<;>intro hb0
 ·try simp only[bG]at hb0
  have hk:=XH (d:=d) (v:=v) (by omega)
  have hg:=adF (key:=key) (sv:=sv) (r:=r) hk
  exact aO X [10,11] rfl (by trivial) (aq (aj rfl (by and_intros<;>first|exact⟨⟩| (rw[hg];rfl;done)| (rw[hk];done))))
 ·try simp only[bG]at hb0
  have hk:=Lu (d:=d) (v:=v) (by omega)
  have hg:=JG (key:=key) (sv:=sv) (r:=r) hk
  have h24:=JH hk
  exact au (aM X [(25,23)] [] [0,10,13] [] rfl (by and_intros<;>first|exact⟨⟩|exact rfl| (simp only[gR,maxLen,lens];omega)) (aM X [] [(30,⟨false,[aI (Ln key (⟨sv,r,v,kB d v,0⟩:e9).server (⟨sv,r,v,kB d v,0⟩:e9).round (⟨sv,r,v,kB d v,0⟩:e9).selection (⟨sv,r,v,kB d v,0⟩:e9).data)]⟩)] [10,13] [] rfl (by(with_reducible and_intros)<;>first|exact⟨⟩|exact(qI key (⟨sv,r,v,kB d v,0⟩:e9) (by show v.length≤_;omega) (by show(kB d v).length≤_;omega))) (aO X [10,11] rfl (by trivial) (aq (aj rfl (by and_intros<;>first|exact⟨⟩| (rw[hg];rfl;done)| (rw[hk];done)))))))
theorem yS(s:cu)(key r:Int)(d:DB)(v:List Int)(hv:v.length≤262144):So 176 [.agg (dF s),aI key,aI r, .agg (bQ d), .a (.sl .int v)] [.agg (ju (Vw s key r d v)),aU (pQ d v)]:=by
 refine aF X call176 func176 ntmps176 rfl rfl ?_
 intro zb
 refine av X [1,2,4,5,8,10] rfl (aM X [] [(21,⟨true,[.agg (ju (uC key s.id r d v)),aU (pQ d v)]⟩)] [1,5,10,12,13] [] rfl (by(with_reducible and_intros)<;>first|exact⟨⟩|exact(E3 key s.id r d v (by first|assumption|omega| (simp;done)| (simp;omega)))) (aa (av X [1,10,12,13,29] rfl ?_)))
 refine an rfl ?_ ?_<;>intro hb0
 ·have hq:(pQ d v&&(s.behavior==3))=true:=mQ hb0 (by simp only[bC]<;>first|rfl|ac_rfl)
  obtain⟨hk,ha⟩:=XI (key:=key) (r:=r) hq
  have hg:=JG (key:=key) (sv:=s.id) (r:=r) hk
  have hdl:(uC key s.id r d v).data.length=24:=by rw[hg];exact JH hk
  refine aa (aQ X [] [] [1,10,12,13] [] 255 0 MO (by kernel_rfl) rfl (by kernel_rfl) (by and_intros<;>first|exact⟨⟩| (intros;omega)|exact(we _).1|exact(we _).2) ?_)
  rw[adE]
  exact bn X [] [(40,⟨false,[aI (Ln key (⟨(uC key s.id r d v).server,(uC key s.id r d v).round,(uC key s.id r d v).selection,Ug (uC key s.id r d v).data,(uC key s.id r d v).T8⟩:e9).server (⟨(uC key s.id r d v).server,(uC key s.id r d v).round,(uC key s.id r d v).selection,Ug (uC key s.id r d v).data,(uC key s.id r d v).T8⟩:e9).round (⟨(uC key s.id r d v).server,(uC key s.id r d v).round,(uC key s.id r d v).selection,Ug (uC key s.id r d v).data,(uC key s.id r d v).T8⟩:e9).selection (⟨(uC key s.id r d v).server,(uC key s.id r d v).round,(uC key s.id r d v).selection,Ug (uC key s.id r d v).data,(uC key s.id r d v).T8⟩:e9).data)]⟩)] [10,12,13] [] rfl (by(with_reducible and_intros)<;>first|exact⟨⟩|exact(qI key (⟨(uC key s.id r d v).server,(uC key s.id r d v).round,(uC key s.id r d v).selection,Ug (uC key s.id r d v).data,(uC key s.id r d v).T8⟩:e9) (by show(uC key s.id r d v).selection.length≤_;rw[hg];exact hv) (by show(Ug (uC key s.id r d v).data).length≤_;rw[PD,hdl];decide))) (aO X [10,11] rfl (by trivial) (aq (aj rfl (by and_intros<;>first|exact⟨⟩| (rw[ha];simp only[hg];rfl;done)| (rw[hk];done)))))
 ·have hq:(pQ d v&&(s.behavior==3))=false:=qG hb0 (by simp only[bC]<;>first|rfl|ac_rfl)
  have ha:=adG (key:=key) (r:=r) hq
  exact au (aO X [10,11] rfl (by trivial) (aq (aj rfl (by and_intros<;>first|exact⟨⟩|rfl| (rw[ha];done)))))
theorem wN(b:List UInt8):So 292 [.a (.sl .u8 b)] [aU (!decide ((b.length:Int)=24))]:=by
 refine aF X call292 func292 ntmps292 rfl rfl ?_
 intro zb
 exact av X [0] rfl (av X [2] rfl (aq (aj rfl ⟨(congrArg dO (by simp only[bC]<;>first|rfl|ac_rfl)),⟨⟩⟩)))
theorem MC(l:List (List UInt8))(hr: ∀a,a∈l→a.length≤1048576):So 293 [.a (.sl (.sl .u8) l)] [.a (.sl .u8 (Cj l))]:=by
 refine aF X call293 func293 ntmps293 rfl rfl ?_
 intro zb
 refine eu 0 rfl (fun mK=>(av X [0] rfl (aO X [0,3] rfl (by and_intros<;>first|exact⟨⟩|exact rfl) (aa (av X [3,7,8,9] rfl ?_)))))
 refine aB (aP (fun k=>k≤l.length) (fun k:Nat=> [(9, .one ((aI k)))]) (fun k=> [(6, .arr .u8 (Cj (l.take k)))]) (fun k=>l.length-k) 0 (fun k=>rfl) (aE _) rfl ?_)
 intro k hk
 have hle:=Lo hr k
 refine av X [3,7,8,9,10] rfl ?_
 refine aa (an rfl ?_ ?_)<;>intro hb0
 ·try simp only[bG]at hb0
  have hel:=hr _ (getD_in (aR (.sl .u8)) hb0)
  have hs:=G6 l k hb0
  refine au (aa (aB (aO X [3,5,7,8,9] rfl (by and_intros<;>first|exact⟨⟩| (intros;omega)) (bn X [] [(15,⟨true,[.a (.sl .u8 (iG (Cj (l.take k)) (l.getD k (aR (.sl .u8)))))]⟩)] [3,7,8,9] [] rfl (by(with_reducible and_intros)<;>first|exact⟨⟩|exact(nP (Cj (l.take k)) (l.getD k (aR (.sl .u8))) (by first|assumption|omega| (simp;done)| (simp;omega)) (by first|assumption|omega| (simp;done)| (simp;omega)))) (sZ 3 6 rfl (bU X [3,7,8,9] rfl ?_))))))
  refine⟨k+1,by omega,by omega,?_⟩
  rw[bZ _ k rfl (by omega),hs]
  try rfl
 ·try simp only[bG]at hb0
  exact aW (av X [2] rfl (aq (aj rfl ⟨by rw[aD hb0],⟨⟩⟩)))
theorem MD(l:List (List UInt8))(hr: ∀a,a∈l→a.length≤1048576):So 313 [.a (.sl (.sl .u8) l)] [.a (.sl .u8 (Cj l))]:=by
 refine aF X call313 func313 ntmps313 rfl rfl ?_
 intro zb
 refine eu 0 rfl (fun mK=>(av X [0] rfl (aO X [0,3] rfl (by and_intros<;>first|exact⟨⟩|exact rfl) (aa (av X [0,3,4] rfl ?_)))))
 refine aB (aP (fun k=>k≤l.length) (fun k:Nat=> [(4, .one ((aI k)))]) (fun k=> [(5, .arr .u8 (Cj (l.take k)))]) (fun k=>l.length-k) 0 (fun k=>rfl) (aE _) rfl ?_)
 intro k hk
 have hle:=Lo hr k
 refine aa (av X [0,3,4,9] rfl ?_)
 refine an rfl ?_ ?_<;>intro hb0
 ·try simp only[bG]at hb0
  have hel:=hr _ (getD_in (aR (.sl .u8)) hb0)
  have hs:=G6 l k hb0
  refine au (aa (aB (bn X [] [(17,⟨true,[.a (.sl .u8 (iG (Cj (l.take k)) (l.getD k (aR (.sl .u8)))))]⟩)] [0,3,4] [] rfl (by(with_reducible and_intros)<;>first|exact⟨⟩|exact(nQ (Cj (l.take k)) (l.getD k (aR (.sl .u8))) (by first|assumption|omega| (simp;done)| (simp;omega)) (by first|assumption|omega| (simp;done)| (simp;omega)))| (intros;omega)) (sZ 3 5 rfl (bU X [0,3,4] rfl ?_)))))
  refine⟨k+1,by omega,by omega,?_⟩
  rw[bZ _ k rfl (by omega),hs]
  try rfl
 ·try simp only[bG]at hb0
  exact aW (av X [2] rfl (aq (aj rfl ⟨by rw[aD hb0],⟨⟩⟩)))
theorem zk(l:List (List UInt8)):So 229 [.a (.sl (.sl .u8) l)] [.a (.sl .u8 (cmb l)),aU (lV l)]:=by
 refine aF X call229 func229 ntmps229 rfl rfl ?_
 intro zb
 refine eu 0 rfl (fun mK=>(av X [0] rfl (aa (aM X [] [(6,⟨false,[aU (dG (l.length:Int))]⟩),(10,⟨false,[aU (l.any fun b=> !decide ((b.length:Int)=24))]⟩)] [0,11] [] rfl (by(with_reducible and_intros);(iterate 2 all_goals try first|exact⟨⟩|exact(ff (l.length:Int))|exact fun _=>(ig _ _ _ wN))) ?_))))
 refine an rfl ?_ ?_<;>intro hb0
 ·have hk:lV l=false:=by rw[lV,Aw];exact cR hb0 (by simp only[bC]<;>first|rfl|ac_rfl)
  exact av X [2,3] rfl (aq (aj rfl ⟨by rw[E1 hk],by rw[hk],⟨⟩⟩))
 ·have hk:lV l=true:=by rw[lV,Aw];exact cL hb0 (by simp only[bC]<;>first|rfl|ac_rfl)
  have hel:=Lv hk
  exact au (aM X [] [(13,⟨true,[.a (.sl .u8 (Cj l))]⟩)] [2,3] [] rfl (by(with_reducible and_intros)<;>first|exact⟨⟩|exact(MC l hel)) (aq (aj rfl ⟨by rw[PE hk],by rw[hk],⟨⟩⟩)))
theorem zl(l:List (List UInt8)):So 254 [.a (.sl (.sl .u8) l)] [.a (.sl .u8 (cmb l)),aU (lV l)]:=by
 refine aF X call254 func254 ntmps254 rfl rfl ?_
 intro zb
 refine eu 0 rfl (fun mK=>(av X [0] rfl (aa (av X [0,4] rfl ?_))))
 refine aB (aP (fun k=>k≤l.length∧(l.take k).all (fun a=>decide ((a.length:Int)=24))=true) (fun k:Nat=> [(4, .one ((aI k)))]) (fun k=> []) (fun k=>l.length-k) 0 (fun k=>rfl) ⟨aE _,rfl⟩ rfl ?_)
 rintro k ⟨hk0,hall⟩
 refine aa (av X [0,4,8] rfl ?_)
 refine an rfl ?_ ?_<;>intro hb0
 ·try simp only[bG]at hb0
  refine au (aa (aB (aO X [0,4,16] rfl (by and_intros<;>first|exact⟨⟩| (intros;omega)) ?_)))
  refine an rfl ?_ ?_<;>intro bM
  ·try simp only[bG]at bM
   have hk:=ahM hb0 (fun h=>bM (by rw[h];rfl))
   exact aO X [2,3] rfl (by and_intros<;>first|exact⟨⟩|exact rfl) (aq (aj rfl ⟨by rw[E1 hk],by rw[hk],⟨⟩⟩))
  ·try simp only[bG]at bM
   refine au (bU X [0,4] rfl ?_)
   refine⟨k+1,⟨by omega,by rw[An _ _ _ (aR (.sl .u8)) hb0,hall,dn];exact decide_eq_true bM⟩,by omega,?_⟩
   rw[bZ _ k rfl (by omega)]
   try rfl
 ·try simp only[bG]at hb0
  rw[aD hb0]at hall
  refine aW (aa (aM X [] [(20,⟨false,[aU (dG (l.length:Int))]⟩)] [0,21] [] rfl (by(with_reducible and_intros)<;>first|exact⟨⟩|exact(iQ (l.length:Int))) ?_))
  refine an rfl ?_ ?_<;>intro cS
  ·have hk:lV l=false:=by rw[lV,hall];simpa using cS
   exact aO X [2,3] rfl (by and_intros<;>first|exact⟨⟩|exact rfl) (aq (aj rfl ⟨by rw[E1 hk],by rw[hk],⟨⟩⟩))
  ·have hk:lV l=true:=by rw[lV,hall];simpa using cS
   have hel:=Lv hk
   exact au (aM X [] [(24,⟨true,[.a (.sl .u8 (Cj l))]⟩)] [2,3] [] rfl (by(with_reducible and_intros)<;>first|exact⟨⟩|exact(MD l hel)) (aq (aj rfl ⟨by rw[PE hk],by rw[hk],⟨⟩⟩)))
theorem AV(l:List e9)(hl:l.length≤1048576):So 146 [.a (.sl .e9 l)] [.a (.sl .u8 (cmb (l.map e9.data))),aU (lV (l.map e9.data))]:=by
 refine aF X call146 func146 ntmps146 rfl rfl ?_
 intro zb
 refine av X [0] rfl (aO X [0,4] rfl (by and_intros<;>first|exact⟨⟩|exact rfl) (SL 4 60 rfl (aa (av X [4,8,9,10] rfl ?_))))
 refine aB (aP (fun k=>k≤l.length) (fun k:Nat=> [(10, .one ((aI k)))]) (fun k=> [(60, .mI (.sl .u8) ((l.take k).map e9.data) .td)]) (fun k=>l.length-k) 0 (fun k=>rfl) (aE _) rfl ?_)
 intro k hk
 have hle:=cG l k
 refine av X [4,8,9,10,11] rfl ?_
 refine aa (an rfl ?_ ?_)<;>intro hb0
 ·try simp only[bG]at hb0
  have hs:=rC e9.data l k (aR .e9) hb0
  have hml:((l.take k).map e9.data).length=(l.take k).length:=bt ..
  refine au (aa (aB (aO X [4,6,8,9,10] rfl (by and_intros<;>first|exact⟨⟩| (intros;omega)) (bn X [(18,60)] [] [4,8,9,10] [] rfl (by and_intros<;>first|exact⟨⟩|exact rfl| (simp only[gR,maxLen,lens];omega)) (bU X [4,8,9,10] rfl ?_)))))
  refine⟨k+1,by omega,by omega,?_⟩
  rw[bZ _ k rfl (by omega),hs]
  try rfl
 ·try simp only[bG]at hb0
  rw[aD hb0]
  refine aW (aa ?_)
  have t1:=(zk (l.map e9.data))
  exact bn X [] [(21,⟨true,cx t1⟩)] [2,3] [] rfl (by(with_reducible and_intros)<;>first|exact⟨⟩|exact t1) (aq (aj rfl ⟨rfl,rfl,⟨⟩⟩))
theorem AW(l:List e9)(hl:l.length≤1048576):So 178 [.a (.sl .e9 l)] [.a (.sl .u8 (cmb (l.map e9.data))),aU (lV (l.map e9.data))]:=by
 refine aF X call178 func178 ntmps178 rfl rfl ?_
 intro zb
 refine av X [0] rfl (aO X [0,4] rfl (by and_intros<;>first|exact⟨⟩|exact rfl) (SL 4 60 rfl (aa (av X [0,4,5] rfl ?_))))
 refine aB (aP (fun k=>k≤l.length) (fun k:Nat=> [(5, .one ((aI k)))]) (fun k=> [(60, .mI (.sl .u8) ((l.take k).map e9.data) .td)]) (fun k=>l.length-k) 0 (fun k=>rfl) (aE _) rfl ?_)
 intro k hk
 have hle:=cG l k
 refine aa (av X [0,4,5,10] rfl ?_)
 refine an rfl ?_ ?_<;>intro hb0
 ·try simp only[bG]at hb0
  have hs:=rC e9.data l k (aR .e9) hb0
  have hml:((l.take k).map e9.data).length=(l.take k).length:=bt ..
  refine au (aa (aB (bn X [(20,60)] [] [0,4,5] [] rfl (by and_intros<;>first|exact⟨⟩| (intros;omega)|exact rfl| (simp only[gR,maxLen,lens];omega)) (bU X [0,4,5] rfl ?_))))
  refine⟨k+1,by omega,by omega,?_⟩
  rw[bZ _ k rfl (by omega),hs]
  try rfl
 ·try simp only[bG]at hb0
  rw[aD hb0]
  refine aW (aa ?_)
  have t1:=(zl (l.map e9.data))
  exact bn X [] [(22,⟨true,cx t1⟩)] [2,3] [] rfl (by(with_reducible and_intros)<;>first|exact⟨⟩|exact t1) (aq (aj rfl ⟨rfl,rfl,⟨⟩⟩))
theorem oA(x:bN)(r row s:Int)(hk:okW x=true):So 74 [.agg (bw x),aI r,aI row,aI s] [.a (.sl .u8 (EZ x r row s)),aU (AT x r row s)]:=by
 refine aF X call74 func74 ntmps74 rfl rfl ?_
 intro zb
 have har:=PG hk
 have hql:=XJ r row s hk
 have hs4:=ij hk
 have hrl:=tT x.aG.length r row s
 refine av X [1,2,3,4] rfl (aa ?_)
 have t1:=(kj x.aK r ⟨by omega,har.2⟩)
 refine bn X [] [(21,⟨true,cx t1⟩)] [1,2,3,4,10,11] [] rfl (by(with_reducible and_intros)<;>first|exact⟨⟩|exact t1) (aa (aM X [] [(25,⟨false,[aU (okW x)]⟩)] [1,2,3,4,10,30] [] rfl (by(with_reducible and_intros)<;>first|exact⟨⟩|exact(dy x)) ?_))
 refine an rfl ?_ ?_<;>intro hb0
 ·have hh:oM x.aK.rounds r=false:=by rw[hk]at hb0;simpa using hb0
  exact av X [8,9] rfl (aq (aj rfl ⟨by rw[(Lw hh).1],by rw[(Lw hh).2],⟨⟩⟩))
 ·have hh:oM x.aK.rounds r=true:=by rw[hk]at hb0;simpa using hb0
  have Z9:=PF (row:=row) (s:=s) hh
  refine au (aO X [1,2,3,4,10,12] rfl (by and_intros<;>first|exact⟨⟩|exact rfl) (aa (aa ?_)))
  have t1:=(GR x.rows row (lE x.aG.length r row s) (by omega))
  refine aQ X [] [(39,⟨true,[.a (.sl .int (lE x.aG.length r row s))]⟩),(40,⟨true,cx t1⟩)] [1,4,10,12,40,41,42] [] 2047 0 MO (by kernel_rfl) rfl (by kernel_rfl) (by(with_reducible and_intros);(iterate 2 all_goals try first|exact⟨⟩|exact(GU x r row s (by omega))|exact t1)) ?_
  refine aB (aP (fun k=>k≤(query' x r row s).length) (fun k:Nat=> [(42, .one ((aI k)))]) (fun k=> [(31, .arr .e9 (AS x r (lY x.aK.rounds r) (query' x r row s) k))]) (fun k=>(query' x r row s).length-k) 0 (fun k=>rfl) (aE _) rfl ?_)
  intro k hk
  have hal:=NS x r (lY x.aK.rounds r) (query' x r row s) k
  have hqy:(wz x.rows row (lE x.aG.length r row s)).length=(query' x r row s).length:=rfl
  refine av X [1,4,10,12,40,41,42,43] rfl ?_
  refine aa (an rfl ?_ ?_)<;>intro bM
  ·try simp only[bG]at bM
   have hqe:=adJ x r row s k
   have hs:=Lp x r (lY x.aK.rounds r) (query' x r row s) k
   refine au (aa (aB (aO X [1,4,10,12,13,14,40,41,42] rfl (by and_intros<;>first|exact⟨⟩| (intros;omega)) (aa ?_))))
   have t1:=(yR (x.aG.getD k (aR .cu)) (nF x.ck (k:Int)) r (lY x.aK.rounds r) ((query' x r row s).getD k (aR (.sl .int))) (by omega))
   refine aQ X [] [(56,⟨false,[aI (nF x.ck (k:Int))]⟩),(60,⟨true,cx t1⟩)] [1,4,10,12,15,16,40,41,42] [] 393215 1 MO (by kernel_rfl) rfl (by kernel_rfl) (by(with_reducible and_intros);(iterate 2 all_goals try first|exact⟨⟩|exact(mR x.ck (k:Int))|exact t1);all_goals first| (intros;omega)) (aa (av X [1,4,10,12,15,40,41,42,64] rfl ?_))
   refine an rfl ?_ ?_<;>intro cS
   ·have hno:=ady bM (by simpa using cS)
    exact av X [8,9] rfl (aq (aj rfl ⟨by rw[Z9.1,E1 hno],by rw[Z9.2,hno],⟨⟩⟩))
   ·refine au (bn X [(68,31)] [] [1,4,10,12,40,41,42] [] rfl (by and_intros<;>first|exact⟨⟩|exact rfl| (simp only[gR,maxLen,lens];omega)) (bU X [1,4,10,12,40,41,42] rfl ?_))
    refine⟨k+1,by omega,by omega,?_⟩
    rw[bZ _ k rfl (by omega),hs]
    try rfl
  ·try simp only[bG]at bM
   refine aW (aa ?_)
   have t1:=(AV (AS x r (lY x.aK.rounds r) (query' x r row s) k) (by omega))
   exact bn X [] [(71,⟨true,cx t1⟩)] [8,9] [] rfl (by(with_reducible and_intros)<;>first|exact⟨⟩|exact t1) (aq (aj rfl ⟨by rw[Z9.1,show k=(query' x r row s).length by omega];rfl,by rw[Z9.2,show k=(query' x r row s).length by omega];rfl,⟨⟩⟩))
theorem uq(x:bN)(r row s:Int)(hk:okW x=true):So 104 [.agg (bw x),aI r,aI row,aI s] [.a (.sl .u8 (EZ x r row s)),aU (AT x r row s)]:=by
 refine aF X call104 func104 ntmps104 rfl rfl ?_
 intro zb
 have har:=PG hk
 have hql:=XJ r row s hk
 have hs4:=ij hk
 have hrl:=tT x.aG.length r row s
 have hw:af.wrap ((x.aG.length:Int)-1)=(x.aG.length:Int)-1:=dm (by omega)
 refine av X [1,2,3,4] rfl (aa ?_)
 have t1:=(oO x.aK r ⟨by omega,har.2⟩)
 refine bn X [] [(23,⟨true,cx t1⟩)] [1,2,3,4,10,11] [] rfl (by(with_reducible and_intros)<;>first|exact⟨⟩|exact t1) (aa (av X [1,2,3,4,10,27] rfl ?_))
 refine an rfl ?_ ?_<;>intro hb0
 ·have hh:oM x.aK.rounds r=false:=by simpa using hb0
  exact aO X [8,9] rfl (by and_intros<;>first|exact⟨⟩|exact rfl) (aq (aj rfl ⟨by rw[(Lw hh).1],by rw[(Lw hh).2],⟨⟩⟩))
 ·have hh:oM x.aK.rounds r=true:=by simpa using hb0
  have Z9:=PF (row:=row) (s:=s) hh
  refine au (aO X [1,2,3,4,10,12] rfl (by and_intros<;>first|exact⟨⟩|exact rfl) (aa (av X [1,2,3,4,10,12,13] rfl ?_)))
  refine aB (aP (fun k=>k≤(x.aG.length-1)) (fun k:Nat=> [(13, .one ((aI k)))]) (fun k=> [(29, .arr .int ((lE x.aG.length r row s).take k))]) (fun k=>(x.aG.length-1)-k) 0 (fun k=>rfl) (aE _) rfl ?_)
  intro k hk
  have hle:=cG (lE x.aG.length r row s) k
  refine aa (av X [1,2,3,4,10,12,13,35] rfl ?_)
  refine an rfl ?_ ?_<;>intro bM
  ·try simp only[bG]at bM
   rw[hw]at bM
   have hs:=Io x.aG.length r row s k (by omega)
   refine au (aa (aB (bn X [(46,29)] [(44,⟨false,[aI (kh s [229,r,row,(k:Int)])]⟩)] [1,2,3,4,10,12,13] [] rfl (by(repeat' with_reducible first|exact bH|refine bS ?_ ?_|apply bh)<;>first|exact(cJ s [229,r,row,(k:Int)] (by first|assumption|omega| (simp;done)| (simp;omega)))|exact rfl|exact⟨rfl,cE _ (by decide)⟩| (simp only[gR,maxLen,lens];omega)) ?_)))
   refine bU X [1,2,3,4,10,12,13] rfl ?_
   refine⟨k+1,by omega,by omega,?_⟩
   rw[bZ _ k rfl (by omega),hs]
   try rfl
  ·try simp only[bG]at bM
   rw[hw]at bM
   refine aW (aa ?_)
   rw[aD (show(lE x.aG.length r row s).length≤k by omega)]
   have t1:=(GS x.rows row (lE x.aG.length r row s) (by omega))
   refine bn X [] [(51,⟨true,cx t1⟩)] [1,4,10,14] [] rfl (by(with_reducible and_intros)<;>first|exact⟨⟩|exact t1) (aO X [1,4,10,14,15] rfl (by and_intros<;>first|exact⟨⟩|exact rfl) (aa (av X [1,4,10,14,15,16] rfl ?_)))
   refine aB (aP (fun k1=>k1≤(query' x r row s).length) (fun k1:Nat=> [(16, .one ((aI k1)))]) (fun k1=> [(52, .arr .e9 (AS x r (lY x.aK.rounds r) (query' x r row s) k1))]) (fun k1=>(query' x r row s).length-k1) 0 (fun k1=>rfl) (aE _) rfl ?_)
   intro k1 hk1
   have hal:=NS x r (lY x.aK.rounds r) (query' x r row s) k1
   have hqy:(wz x.rows row (lE x.aG.length r row s)).length=(query' x r row s).length:=rfl
   refine aa (av X [1,4,10,14,15,16,56] rfl ?_)
   refine an rfl ?_ ?_<;>intro cS
   ·try simp only[bG]at cS
    have hqe:=adJ x r row s k1
    have hs1:=Lp x r (lY x.aK.rounds r) (query' x r row s) k1
    refine au (aa (aB (aa ?_)))
    have t1:=(yS (x.aG.getD k1 (aR .cu)) (nF x.ck (k1:Int)) r (lY x.aK.rounds r) ((query' x r row s).getD k1 (aR (.sl .int))) (by omega))
    refine aQ X [] [(68,⟨false,[aI (nF x.ck (k1:Int))]⟩),(75,⟨true,cx t1⟩)] [1,4,10,14,15,16,17] [] 3145727 1 MO (by kernel_rfl) rfl (by kernel_rfl) (by(with_reducible and_intros);(iterate 2 all_goals try first|exact⟨⟩|exact(mS x.ck (k1:Int))|exact t1);all_goals first| (intros;omega)) (bn X [(81,52)] [] [1,4,10,14,15,16] [] rfl (by and_intros<;>first|exact⟨⟩|exact rfl| (simp only[gR,maxLen,lens];omega)) (bU X [1,4,10,14,15,16] rfl ?_))
    refine⟨k1+1,by omega,by omega,?_⟩
    rw[bZ _ k1 rfl (by omega),hs1]
    try rfl
   ·try simp only[bG]at cS
    refine aW (aa ?_)
    have t1:=(AW (AS x r (lY x.aK.rounds r) (query' x r row s) k1) (by omega))
    exact bn X [] [(83,⟨true,cx t1⟩)] [8,9] [] rfl (by(with_reducible and_intros)<;>first|exact⟨⟩|exact t1) (aq (aj rfl ⟨by rw[Z9.1,show k1=(query' x r row s).length by omega];rfl,by rw[Z9.2,show k1=(query' x r row s).length by omega];rfl,⟨⟩⟩))
end
section
set_option maxRecDepth 100000
theorem gY(c:gI)(h0:eN aL c.bp≤1048576∧eN aL c.inbox≤1048576):So 219 [.agg (cM c)] [.agg (cM c)]:=by
 refine aF X call219 func219 ntmps219 rfl rfl ?_
 intro zb
 exact av X [1,2] rfl (aM X [] [(5,⟨true,[.a (.sl (.sl .u8) c.bp)]⟩)] [1,2] [] rfl (by(with_reducible and_intros)<;>first|exact⟨⟩|exact(qA c.bp h0.1)) (aM X [] [(9,⟨true,[.a (.sl (.sl .u8) c.inbox)]⟩)] [1,2] [] rfl (by(with_reducible and_intros)<;>first|exact⟨⟩|exact(qA c.inbox h0.2)) (aO X [2] rfl (by trivial) (aq (aj rfl ⟨rfl,rfl,rfl,rfl,rfl,rfl,rfl,rfl,⟨⟩⟩)))))
theorem jS(d:bR)(h0:cz d≤1048576):So 186 [.agg (dj d)] [.agg (dj d)]:=by
 refine aF X call186 func186 ntmps186 rfl rfl ?_
 intro zb
 have hc1:dQ d.live≤1048576∧dQ d.saved≤1048576:=by unfold cz at h0;omega
 unfold dQ at hc1
 exact av X [1,2] rfl (aa (aQ X [] [(5,⟨true,[.agg (cM d.live)]⟩),(8,⟨true,[.agg (cM d.saved)]⟩)] [2] [] 127 0 MO (by kernel_rfl) rfl (by kernel_rfl) (by(with_reducible and_intros);(iterate 2 all_goals try first|exact⟨⟩|exact(gY d.live ⟨by omega,by omega⟩)|exact(gY d.saved ⟨by omega,by omega⟩))) (aq (aj rfl ⟨rfl,rfl,rfl,rfl,rfl,rfl,rfl,rfl,rfl,rfl,rfl,rfl,rfl,rfl,rfl,rfl,⟨⟩⟩))))
theorem uu(a:mD)(h0:gC a≤1048576):So 188 [.agg (fK a)] [.agg (fK a)]:=by
 refine aF X call188 func188 ntmps188 rfl rfl ?_
 intro zb
 have hls:eN gQ a.rounds≤1048576:=h0
 have mK:=eF hls
 refine av X [1,2] rfl (av X [1,2,3] rfl (eo 3 1 60 .aX rfl (aa (av X [2,3,10,11,12] rfl ?_))))
 refine aB (aP (fun k=>k≤a.rounds.length) (fun k:Nat=> [(12, .one ((aI k)))]) (fun k=> [(60, .arr .aX (a.rounds.take k))]) (fun k=>a.rounds.length-k) 0 (fun k=>rfl) (aE _) rfl ?_)
 intro k hk
 have hle:=cG a.rounds k
 refine av X [2,3,10,11,12,13] rfl ?_
 refine aa (an rfl ?_ ?_)<;>intro hb0
 ·try simp only[bG]at hb0
  have hs:=cB a.rounds k (aR .aX) hb0
  refine au (aa (aB (aO X [2,3,5,10,11,12] rfl (by and_intros<;>first|exact⟨⟩| (intros;omega)) (aQ X [(25,60)] [(22,⟨true,[.agg (bQ ((a.rounds.getD k (aR .aX)).db))]⟩),(500024,⟨true,[]⟩)] [2,3,10,11,12] [] 511 0 MO (by kernel_rfl) rfl (by kernel_rfl) (by(repeat' with_reducible first|exact bH|refine bS ?_ ?_|apply bh)<;>first|exact(eP ((a.rounds.getD k (aR .aX)).db) (mG hls (getD_some a.rounds _ k hb0)))|exact rfl|exact⟨rfl,cE _ (by decide)⟩| (simp only[gR,maxLen,lens];omega)) ?_))))
  refine bU X [2,3,10,11,12] rfl ?_
  refine⟨k+1,by omega,by omega,?_⟩
  rw[bZ _ k rfl (by omega),hs]
  try rfl
 ·try simp only[bG]at hb0
  exact aW (aO X [2] rfl (by trivial) (aq (aj rfl ⟨rfl,by rw[aD hb0],⟨⟩⟩)))
theorem gl(x:bN)(h0:wB x):So 112 [.agg (bw x)] [.agg (bw x)]:=by
 refine aF X call112 func112 ntmps112 rfl rfl ?_
 intro zb
 have hls:eN gP x.aG≤1048576∧eN cz x.ah≤1048576∧gC x.aK≤1048576∧x.replaced.length≤4194304:=h0
 have hl1:=eF hls.1
 have qS:=eF hls.2.1
 refine av X [1,2] rfl (aO X [1,2,3] rfl (by and_intros<;>first|exact⟨⟩|exact rfl) (aa (av X [1,2,3,8,9,10] rfl ?_)))
 refine aB (aP (fun k=>k≤x.ah.length) (fun k:Nat=> [(10, .one ((aI k)))]) (fun k=> [(6, .arr .bR (x.ah.take k))]) (fun k=>x.ah.length-k) 0 (fun k=>rfl) (aE _) rfl ?_)
 intro k hk
 have hle:=cG x.ah k
 refine av X [1,2,3,8,9,10,11] rfl ?_
 refine aa (an rfl ?_ ?_)<;>intro hb0
 ·try simp only[bG]at hb0
  have hs:=cB x.ah k (aR .bR) hb0
  refine au (aa (aB (aO X [1,2,3,5,8,9,10] rfl (by and_intros<;>first|exact⟨⟩| (intros;omega)) (bn X [(18,6)] [(16,⟨true,[.agg (dj (x.ah.getD k (aR .bR)))]⟩)] [1,2,3,8,9,10] [] rfl (by(with_reducible and_intros)<;>first|exact⟨⟩|exact(jS (x.ah.getD k (aR .bR)) (mG hls.2.1 (getD_some x.ah _ k hb0)))|exact rfl| (simp only[gR,maxLen,lens];omega)) (bU X [1,2,3,8,9,10] rfl ?_)))))
  refine⟨k+1,by omega,by omega,?_⟩
  rw[bZ _ k rfl (by omega),hs]
  try rfl
 ·try simp only[bG]at hb0
  exact aW (aM X [] [(22,⟨true,[.a (.sl .cu x.aG)]⟩)] [1,2,3] [] rfl (by(with_reducible and_intros)<;>first|exact⟨⟩|exact(ud x.aG hl1 (fun s hs=>by obtain⟨i,hi⟩:=List.mem_iff_getElem?.1 hs;exact NL hls.1 hi))) (av X [1,2] rfl (aM X [] [(28,⟨true,[.agg (fK x.aK)]⟩)] [1,2] [] rfl (by(with_reducible and_intros)<;>first|exact⟨⟩|exact(uu x.aK hls.2.2.1)) (aM X [] [(32,⟨true,[.a (.sl .int x.replaced)]⟩)] [1,2] [] rfl (by(with_reducible and_intros)<;>first|exact⟨⟩|exact(kP x.replaced hls.2.2.2)) (aO X [2] rfl (by trivial) (aq (aj rfl (by and_intros<;>first|exact⟨⟩|rfl| (rw[aD hb0];done)))))))))
theorem qL(c:gI)(h0:eN aL c.bp≤1048576∧eN aL c.inbox≤1048576):So 134 [.agg (cM c)] [.agg (dj (⟨c,c⟩:bR))]:=by
 refine aF X call134 func134 ntmps134 rfl rfl ?_
 intro zb
 exact av X [1,2] rfl (aa (aQ X [(6,40)] [(4,⟨true,[.agg (cM c)]⟩),(6,⟨true,[.agg (cM c)]⟩)] [2] [] 31 0 MO (by kernel_rfl) rfl (by kernel_rfl) (by(with_reducible and_intros);(iterate 2 all_goals try first|exact⟨⟩|exact(gY c h0))) (aq (aj rfl ⟨rfl,rfl,rfl,rfl,rfl,rfl,rfl,rfl,rfl,rfl,rfl,rfl,rfl,rfl,rfl,rfl,⟨⟩⟩))))
theorem vf(d:bR)(h0:cz d≤1048576):So 128 [.agg (dj d)] [.agg (dj (PO d))]:=by
 refine aF X call128 func128 ntmps128 rfl rfl ?_
 intro zb
 have hc1:dQ d.live≤1048576∧dQ d.saved≤1048576:=by unfold cz at h0;omega
 unfold dQ at hc1
 refine av X [1,2] rfl (aa (aM X [] [(4,⟨false,[aU (fu d)]⟩)] [1,2,5] [] rfl (by(with_reducible and_intros)<;>first|exact⟨⟩|exact(gN d)) ?_))
 refine an rfl ?_ ?_<;>intro hb0
 ·have hk:fu d=false:=by simpa using hb0
  have hd:PO d=d:=by rw[PO,hk];rfl
  exact aM X [] [(7,⟨true,[.agg (dj d)]⟩)] [2] [] rfl (by(with_reducible and_intros)<;>first|exact⟨⟩|exact(jS d h0)) (aq (aj rfl (by and_intros<;>first|exact⟨⟩| (rw[hd];done))))
 ·have hk:fu d=true:=by simpa using hb0
  have hd:PO d=⟨d.live,d.live⟩:=by rw[PO,if_pos hk]
  exact au (aM X [] [(10,⟨true,[.agg (dj (⟨d.live,d.live⟩:bR))]⟩)] [2] [] rfl (by(with_reducible and_intros)<;>first|exact⟨⟩|exact(qL d.live ⟨by omega,by omega⟩)) (aq (aj rfl (by and_intros<;>first|exact⟨⟩| (rw[hd];done)))))
theorem Hh(d:bR):So 326 [.agg (dj d)] [aU (CQ d)]:=by
 refine aF X call326 func326 ntmps326 rfl rfl ?_
 intro zb
 exact av X [1] rfl (aM X [] [(4,⟨false,[aU (fu d)]⟩)] [2] [] rfl (by(with_reducible and_intros)<;>first|exact⟨⟩|exact(gN d)) (aq (aj rfl ⟨(congrArg dO (by simp only[CQ,bC]<;>first|rfl|ac_rfl)),⟨⟩⟩)))
theorem Fe(c:gI)(r n:Int):So 263 [.agg (cM c),aI r,aI n] [aI (jQ c.key r (eI c) n),aI (jQ c.key r (1-eI c) n)]:=by
 refine aF X call263 func263 ntmps263 rfl rfl ?_
 intro zb
 have hdw:=aec c
 exact av X [1,2,3] rfl (aa (aQ X [] [(12,⟨false,[aI (eI c)]⟩),(14,⟨false,[aI (jQ c.key r (eI c) n)]⟩),(19,⟨false,[aI (eI c)]⟩),(22,⟨false,[aI (jQ c.key r (af.wrap (1-eI c)) n)]⟩)] [6,7] [] 131071 0 MO (by kernel_rfl) rfl (by kernel_rfl) (by(with_reducible and_intros);(iterate 4 all_goals try first|exact⟨⟩|exact(jt c)|exact(lO c.key r (eI c) n)|exact(lO c.key r (af.wrap (1-eI c)) n))) (aq (aj rfl ⟨rfl,by rw[hdw],⟨⟩⟩))))
theorem Ff(c:gI)(r:Int)(own other:List UInt8)(h0:eN aL c.bp≤1048576∧eN aL c.inbox≤1048576):So 325 [.agg (cM c),aI r, .a (.sl .u8 own), .a (.sl .u8 other)] [.agg (cM (kg c r own other)),aU (zj c r)]:=by
 refine aF X call325 func325 ntmps325 rfl rfl ?_
 intro zb
 refine av X [1,2,3,4,8] rfl (aM X [] [(14,⟨true,[.agg (cM c)]⟩)] [1,2,3,4,8,10] [] rfl (by(with_reducible and_intros)<;>first|exact⟨⟩|exact(gY c h0)) (aa (aM X [] [(16,⟨false,[aU (ga c)]⟩),(22,⟨false,[aU (inr r c.next 99999)]⟩)] [1,2,3,4,8,10,24] [] rfl (by(with_reducible and_intros);(iterate 2 all_goals try first|exact⟨⟩|exact(gL c)|exact fun _=>(bl r c.next 99999))) ?_)))
 refine an rfl ?_ ?_<;>intro hb0
 ·have hk:zj c r=false:=cR hb0 (by simp only[zj,bC]<;>first|rfl|ac_rfl)
  have hc:=SZ (own:=own) (other:=other) hk
  exact aO X [8,9] rfl (by trivial) (aq (aj rfl (by and_intros<;>first|exact⟨⟩| (rw[hc];done)| (rw[hk];done))))
 ·have hk:zj c r=true:=cL hb0 (by simp only[zj,bC]<;>first|rfl|ac_rfl)
  obtain⟨hok,hn1,hn2,hn3⟩:=ad7 hk
  obtain⟨hu1,hu2,_,_,hs0,hs9,_,_⟩:=wI hok
  have hc:kg c r own other=⟨c.id,c.fJ,c.key,c.seed,c.bp,if yN c own then c.sent+1 else c.sent,if oN c other then c.inbox++ [(opP (Lr c) (c.inbox.length:Int) other).body]else c.inbox,r+1⟩:=by rw[kg,if_pos hk]
  refine au (aa (aM X [] [(37,⟨false,[.a (.sl .u8 (qg c c.sent))]⟩),(38,⟨false,[aU (own==(qg c c.sent))]⟩)] [1,3,4,8,10,39] [] rfl ⟨fun _=>lT own (qg c c.sent),fun h=>ot c c.sent hs0 (of_decide_eq_true h),⟨⟩⟩ ?_))
  refine an rfl ?_ ?_<;>intro bM
  ·have hh:yN c own=true:=mQ bM (by simp only[yN,bC]<;>first|rfl|ac_rfl)
   refine bU X [1,3,4,8,10] rfl ?_
   rw[dm (a:=c.sent+1) (by omega)]
   refine aa ?_
   have t1:=(yP (xO c.key (af.wrap (1-eI c))) (c.inbox.length:Int) other)
   refine aQ X [] [(48,⟨false,[aI (eI c)]⟩),(50,⟨false,[aI (xO c.key (af.wrap (1-eI c)))]⟩),(55,⟨true,cx t1⟩)] [1,4,8,10,11,12] [] 98303 1 MO (by kernel_rfl) rfl (by kernel_rfl) (by(with_reducible and_intros);(iterate 3 all_goals try first|exact⟨⟩|exact(jt c)|exact(mY c.key (af.wrap (1-eI c)))|exact t1)) ?_
   rw[Fc]
   refine aa (av X [1,8,10,11,69] rfl ?_)
   refine an rfl ?_ ?_<;>intro cS
   ·have hg:oN c other=true:=mQ cS (by simp only[oN,bC]<;>first|rfl|ac_rfl)
    refine gA X [1,8,10] rfl (by and_intros<;>first|exact⟨⟩|exact rfl| (simp only[gR,maxLen,lens];omega)) (av X [8,10] rfl ?_)
    rw[dm (a:=r+1) (by omega)]
    exact aO X [8,9] rfl (by trivial) (aq (aj rfl (by and_intros<;>first|exact⟨⟩| (rw[hc];done)| (rw[hc];simp only[hh,if_true];done)| (rw[hc];simp only[hg,if_true];done)| (rw[hk];done))))
   ·have hg:oN c other=false:=qG cS (by simp only[oN,bC]<;>first|rfl|ac_rfl)
    refine au (av X [8,10] rfl ?_)
    rw[dm (a:=r+1) (by omega)]
    exact aO X [8,9] rfl (by trivial) (aq (aj rfl (by and_intros<;>first|exact⟨⟩| (rw[hc];done)| (rw[hc];simp only[hh,if_true];done)| (rw[hc];simp[hg];done)| (rw[hk];done))))
  ·have hh:yN c own=false:=qG bM (by simp only[yN,bC]<;>first|rfl|ac_rfl)
   refine au (aa ?_)
   have t1:=(yP (xO c.key (af.wrap (1-eI c))) (c.inbox.length:Int) other)
   refine aQ X [] [(48,⟨false,[aI (eI c)]⟩),(50,⟨false,[aI (xO c.key (af.wrap (1-eI c)))]⟩),(55,⟨true,cx t1⟩)] [1,4,8,10,11,12] [] 98303 1 MO (by kernel_rfl) rfl (by kernel_rfl) (by(with_reducible and_intros);(iterate 3 all_goals try first|exact⟨⟩|exact(jt c)|exact(mY c.key (af.wrap (1-eI c)))|exact t1)) ?_
   rw[Fc]
   refine aa (av X [1,8,10,11,69] rfl ?_)
   refine an rfl ?_ ?_<;>intro cS
   ·have hg:oN c other=true:=mQ cS (by simp only[oN,bC]<;>first|rfl|ac_rfl)
    refine gA X [1,8,10] rfl (by and_intros<;>first|exact⟨⟩|exact rfl| (simp only[gR,maxLen,lens];omega)) (av X [8,10] rfl ?_)
    rw[dm (a:=r+1) (by omega)]
    exact aO X [8,9] rfl (by trivial) (aq (aj rfl (by and_intros<;>first|exact⟨⟩| (rw[hc];done)| (rw[hc];simp[hh];done)| (rw[hc];simp only[hg,if_true];done)| (rw[hk];done))))
   ·have hg:oN c other=false:=qG cS (by simp only[oN,bC]<;>first|rfl|ac_rfl)
    refine au (av X [8,10] rfl ?_)
    rw[dm (a:=r+1) (by omega)]
    exact aO X [8,9] rfl (by trivial) (aq (aj rfl (by and_intros<;>first|exact⟨⟩| (rw[hc];done)| (rw[hc];simp[hh];done)| (rw[hc];simp[hg];done)| (rw[hk];done))))
theorem Cl(d:bR)(r:Int)(own other:List UInt8)(h0:cz d≤1048576):So 264 [.agg (dj d),aI r, .a (.sl .u8 own), .a (.sl .u8 other)] [.agg (dj (rdev d r own other)),aU (Ck d r)]:=by
 refine aF X call264 func264 ntmps264 rfl rfl ?_
 intro zb
 have hc1:dQ d.live≤1048576∧dQ d.saved≤1048576:=by unfold cz at h0;omega
 unfold dQ at hc1
 refine av X [1,2,3,4,8] rfl (aa ?_)
 have t1:=(Ff d.live r own other ⟨by omega,by omega⟩)
 refine bn X [] [(19,⟨true,cx t1⟩)] [4,8,10,11] [] rfl (by(with_reducible and_intros)<;>first|exact⟨⟩|exact t1) (aa (aM X [] [(26,⟨false,[aU (fu d)]⟩)] [4,8,10,28] [] rfl (by(with_reducible and_intros)<;>first|exact⟨⟩|exact fun _=>(gN d)) ?_))
 refine an rfl ?_ ?_<;>intro hb0
 ·have hk:Ck d r=false:=cR hb0 (by simp only[Ck,bC]<;>first|rfl|ac_rfl)
  have hd:=XW (own:=own) (other:=other) hk
  exact aM X [] [(30,⟨true,[.agg (dj d)]⟩)] [8,9] [] rfl (by(with_reducible and_intros)<;>first|exact⟨⟩|exact(jS d h0)) (aq (aj rfl (by and_intros<;>first|exact⟨⟩| (rw[hd];done)| (rw[hk];done))))
 ·have hk:Ck d r=true:=cL hb0 (by simp only[Ck,bC]<;>first|rfl|ac_rfl)
  have hz:=S0 (own:=own) (other:=other) hk
  refine au (aa (aQ X [] [(34,⟨true,[.agg (cM d.saved)]⟩)] [8,12] [] 63 0 MO (by kernel_rfl) rfl (by kernel_rfl) (by(with_reducible and_intros)<;>first|exact⟨⟩|exact(gY d.saved ⟨by omega,by omega⟩)) (aa (aM X [] [(37,⟨false,[aU (CQ (rI d r own other))]⟩)] [8,12,37] [] rfl (by(with_reducible and_intros)<;>first|exact⟨⟩|exact(Hh (rI d r own other))) ?_))))
  refine an rfl ?_ ?_<;>intro bM
  ·have hd:=XX hk bM
   exact bn X [] [(39,⟨true,[.agg (dj (PO (rI d r own other)))]⟩)] [8,12] [] rfl (by(with_reducible and_intros)<;>first|exact⟨⟩|exact(vf (rI d r own other) hz)) (aO X [8,9] rfl (by trivial) (aq (aj rfl (by and_intros<;>first|exact⟨⟩| (rw[hd];done)| (rw[hk];done)))))
  ·have hd:=XY hk bM
   exact au (aO X [8,9] rfl (by trivial) (aq (aj rfl (by and_intros<;>first|exact⟨⟩| (rw[hd];rfl;done)| (rw[hk];done)))))
theorem Hi(x:bN)(h0:wB x):So 193 [.agg (bw x)] [.agg (bw (Ls x))]:=by
 refine aF X call193 func193 ntmps193 rfl rfl ?_
 intro zb
 have hls:eN gP x.aG≤1048576∧eN cz x.ah≤1048576∧gC x.aK≤1048576∧x.replaced.length≤4194304:=h0
 have qS:=eF hls.2.1
 refine av X [1,2] rfl (aM X [] [(15,⟨true,[.agg (bw x)]⟩)] [1,2,3] [] rfl (by(with_reducible and_intros)<;>first|exact⟨⟩|exact(gl x h0)) (aa (aM X [] [(17,⟨false,[aU (okW x)]⟩)] [1,2,3,18] [] rfl (by(with_reducible and_intros)<;>first|exact⟨⟩|exact(dy x)) ?_)))
 refine an rfl ?_ ?_<;>intro hb0
 ·have hk0:okW x=false:=by simpa using hb0
  have hw:=aeb hk0
  exact aO X [2] rfl (by trivial) (aq (aj rfl (by and_intros<;>first|exact⟨⟩| (rw[hw];done))))
 ·have hk0:okW x=true:=by simpa using hb0
  have hw:=XZ hk0
  have har:=PG hk0
  have hd8:=(xT (sA hk0)).2.1
  refine au (aa (av X [1,2,3,21,22,23] rfl ?_))
  refine aB (aP (fun k=>k≤x.ah.length) (fun k:Nat=> [(23, .one ((aI k)))]) (fun k=> [(17, .arr .bR (rdK x k))]) (fun k=>x.ah.length-k) 0 (fun k=>rfl) (aE _) rfl ?_)
  intro k hk
  have EF:=XF x k hk
  refine av X [1,2,3,21,22,23,24] rfl ?_
  refine aa (an rfl ?_ ?_)<;>intro bM
  ·try simp only[bG]at bM
   have hrg:=XE x k bM
   have h00:=adz x k bM
   have hrs:=Ds x.aK.rounds (x.ah.getD k (aR .bR)).live.next
   have are:(wK x (x.ah.getD k (aR .bR))).length≤x.aK.rounds.length:=hrs
   have hrq:(kS x.aK.rounds (x.ah.getD k (aR .bR)).live.next).length=(wK x (x.ah.getD k (aR .bR))).length:=rfl
   refine au (aa (aB (aO X [1,2,3,4,5,21,22,23] rfl (by and_intros<;>first|exact⟨⟩| (intros;omega)) (aa ?_))))
   have t1:=(uh x.aK ((x.ah.getD k (aR .bR)).live.next) (by omega))
   refine bn X [] [(33,⟨true,cx t1⟩)] [1,2,3,4,5,21,22,23,33,34,35] [] rfl (by(with_reducible and_intros)<;>first|exact⟨⟩|exact t1) ?_
   refine aB (aP (fun k1=>k1≤(wK x (x.ah.getD k (aR .bR))).length) (fun k1:Nat=> [(35, .one ((aI k1)))]) (fun k1=> [(17, .arr .bR (xe x k k1))]) (fun k1=>(wK x (x.ah.getD k (aR .bR))).length-k1) 0 (fun k1=>rfl) (aE _) (by rw[h00];rfl) ?_)
   intro k1 hk1
   have hpl:=XC x k k1 bM
   refine av X [1,2,3,4,5,21,22,23,33,34,35,36] rfl ?_
   refine aa (an rfl ?_ ?_)<;>intro cS
   ·try simp only[bG]at cS
    have hs:=SK x k k1 bM cS
    have hsz:=ad8 hk0 bM k1
    refine au (aa (aB (aO X [1,2,3,4,5,7,21,22,23,33,34,35] rfl (by and_intros<;>first|exact⟨⟩| (intros;omega)) (aa ?_))))
    have t1:=(Fe ((x.ah.getD k (aR .bR)).live) ((wK x (x.ah.getD k (aR .bR))).getD k1 (aR .int)) x.rows)
    refine bn X [] [(45,⟨false,cx t1⟩)] [1,2,3,4,5,7,8,9,21,22,23,33,34,35] [] rfl (by(with_reducible and_intros)<;>first|exact⟨⟩|exact t1) (aa ?_)
    have t1:=(oA x ((wK x (x.ah.getD k (aR .bR))).getD k1 (aR .int)) (jQ (x.ah.getD k (aR .bR)).live.key ((wK x (x.ah.getD k (aR .bR))).getD k1 (aR .int)) (eI (x.ah.getD k (aR .bR)).live) x.rows) ((x.ah.getD k (aR .bR)).live.seed) hk0)
    refine bn X [] [(55,⟨true,cx t1⟩)] [1,2,3,4,5,7,9,10,21,22,23,33,34,35] [] rfl (by(with_reducible and_intros)<;>first|exact⟨⟩|exact t1) (aa ?_)
    have t1:=(oA x ((wK x (x.ah.getD k (aR .bR))).getD k1 (aR .int)) (jQ (x.ah.getD k (aR .bR)).live.key ((wK x (x.ah.getD k (aR .bR))).getD k1 (aR .int)) (1-eI (x.ah.getD k (aR .bR)).live) x.rows) ((x.ah.getD k (aR .bR)).live.seed) hk0)
    refine bn X [] [(65,⟨true,cx t1⟩)] [1,2,3,4,5,7,10,12,21,22,23,33,34,35] [] rfl (by(with_reducible and_intros)<;>first|exact⟨⟩|exact t1) ?_
    have t1:=(Cl ((xe x k k1).getD k (aR .bR)) ((wK x (x.ah.getD k (aR .bR))).getD k1 (aR .int)) (EZ x ((wK x (x.ah.getD k (aR .bR))).getD k1 (aR .int)) (jQ (x.ah.getD k (aR .bR)).live.key ((wK x (x.ah.getD k (aR .bR))).getD k1 (aR .int)) (eI (x.ah.getD k (aR .bR)).live) x.rows) (x.ah.getD k (aR .bR)).live.seed) (EZ x ((wK x (x.ah.getD k (aR .bR))).getD k1 (aR .int)) (jQ (x.ah.getD k (aR .bR)).live.key ((wK x (x.ah.getD k (aR .bR))).getD k1 (aR .int)) (1-eI (x.ah.getD k (aR .bR)).live) x.rows) (x.ah.getD k (aR .bR)).live.seed) hsz)
    refine aQ X [] [(80,⟨true,cx t1⟩)] [1,2,3,4,5,21,22,23,33,34,35] [] 65535 1 MO (by kernel_rfl) rfl (by kernel_rfl) (by(with_reducible and_intros)<;>first|exact⟨⟩|exact t1| (intros;omega)) (bU X [1,2,3,4,5,21,22,23,33,34,35] rfl ?_)
    refine⟨k1+1,by omega,by omega,?_⟩
    rw[bZ _ k1 rfl (by omega), ←hs]
    try rfl
   ·try simp only[bG]at cS
    rw[XD x k k1 bM cS]
    refine aW (bU X [1,2,3,21,22,23] rfl ?_)
    refine⟨k+1,by omega,by omega,?_⟩
    rw[bZ _ k rfl (by omega)]
    try rfl
  ·try simp only[bG]at bM
   exact aW (aO X [2] rfl (by trivial) (aq (aj rfl (by and_intros<;>first|exact⟨⟩| (rw[hw];done)| (rw[hw,XG x k (by omega) (by omega)];done)))))
theorem qM(c:gI)(h0:eN aL c.bp≤1048576∧eN aL c.inbox≤1048576):So 96 [.agg (cM c)] [.agg (dj (⟨c,c⟩:bR))]:=by
 refine aF X call96 func96 ntmps96 rfl rfl ?_
 intro zb
 exact av X [1,2] rfl (aa (aQ X [(6,40)] [(4,⟨true,[.agg (cM c)]⟩),(6,⟨true,[.agg (cM c)]⟩)] [2] [] 31 0 MO (by kernel_rfl) rfl (by kernel_rfl) (by(with_reducible and_intros);(iterate 2 all_goals try first|exact⟨⟩|exact(jA c h0))) (aq (aj rfl ⟨rfl,rfl,rfl,rfl,rfl,rfl,rfl,rfl,rfl,rfl,rfl,rfl,rfl,rfl,rfl,rfl,⟨⟩⟩))))
theorem vg(d:bR)(h0:cz d≤1048576):So 173 [.agg (dj d)] [.agg (dj (PO d))]:=by
 refine aF X call173 func173 ntmps173 rfl rfl ?_
 intro zb
 have hc1:dQ d.live≤1048576∧dQ d.saved≤1048576:=by unfold cz at h0;omega
 unfold dQ at hc1
 refine av X [1,2] rfl (aa (aM X [] [(4,⟨false,[aU (fu d)]⟩)] [1,2,5] [] rfl (by(with_reducible and_intros)<;>first|exact⟨⟩|exact(gO d)) ?_))
 refine an rfl ?_ ?_<;>intro hb0
 ·have hk:fu d=false:=by simpa using hb0
  have hd:PO d=d:=by rw[PO,hk];rfl
  exact aM X [] [(7,⟨true,[.agg (dj d)]⟩)] [2] [] rfl (by(with_reducible and_intros)<;>first|exact⟨⟩|exact(mq d h0)) (aq (aj rfl (by and_intros<;>first|exact⟨⟩| (rw[hd];done))))
 ·have hk:fu d=true:=by simpa using hb0
  have hd:PO d=⟨d.live,d.live⟩:=by rw[PO,if_pos hk]
  exact au (aM X [] [(10,⟨true,[.agg (dj (⟨d.live,d.live⟩:bR))]⟩)] [2] [] rfl (by(with_reducible and_intros)<;>first|exact⟨⟩|exact(qM d.live ⟨by omega,by omega⟩)) (aq (aj rfl (by and_intros<;>first|exact⟨⟩| (rw[hd];done)))))
theorem Hj(d:bR):So 390 [.agg (dj d)] [aU (CQ d)]:=by
 refine aF X call390 func390 ntmps390 rfl rfl ?_
 intro zb
 exact av X [1] rfl (aM X [] [(4,⟨false,[aU (fu d)]⟩)] [2] [] rfl (by(with_reducible and_intros)<;>first|exact⟨⟩|exact(gO d)) (aq (aj rfl ⟨(congrArg dO (by simp only[CQ,bC]<;>first|rfl|ac_rfl)),⟨⟩⟩)))
theorem Fg(c:gI)(r n:Int):So 358 [.agg (cM c),aI r,aI n] [aI (jQ c.key r (eI c) n),aI (jQ c.key r (1-eI c) n)]:=by
 refine aF X call358 func358 ntmps358 rfl rfl ?_
 intro zb
 have hdw:=aec c
 exact av X [1,2,3] rfl (aM X [] [(10,⟨false,[aI (eI c)]⟩)] [1,2,3,8] [] rfl (by(with_reducible and_intros)<;>first|exact⟨⟩|exact(ia c)) (aa (aQ X [] [(16,⟨false,[aI (jQ c.key r (eI c) n)]⟩),(23,⟨false,[aI (jQ c.key r (af.wrap (1-eI c)) n)]⟩)] [6,7] [] 32767 0 MO (by kernel_rfl) rfl (by kernel_rfl) (by(with_reducible and_intros);(iterate 2 all_goals try first|exact⟨⟩|exact(lQ c.key r (eI c) n)|exact(lQ c.key r (af.wrap (1-eI c)) n))) (aq (aj rfl ⟨rfl,by rw[hdw],⟨⟩⟩)))))
theorem Fh(c:gI)(r:Int)(own other:List UInt8)(h0:eN aL c.bp≤1048576∧eN aL c.inbox≤1048576):So 389 [.agg (cM c),aI r, .a (.sl .u8 own), .a (.sl .u8 other)] [.agg (cM (kg c r own other)),aU (zj c r)]:=by
 refine aF X call389 func389 ntmps389 rfl rfl ?_
 intro zb
 refine av X [1,2,3,4,8] rfl (aM X [] [(14,⟨true,[.agg (cM c)]⟩)] [1,2,3,4,8,10] [] rfl (by(with_reducible and_intros)<;>first|exact⟨⟩|exact(jA c h0)) (aa (aM X [] [(16,⟨false,[aU (ga c)]⟩),(22,⟨false,[aU (inr r c.next 99999)]⟩)] [1,2,3,4,8,10,24] [] rfl (by(with_reducible and_intros);(iterate 2 all_goals try first|exact⟨⟩|exact(gM c)|exact fun _=>(bD r c.next 99999))) ?_)))
 refine an rfl ?_ ?_<;>intro hb0
 ·have hk:zj c r=false:=cR hb0 (by simp only[zj,bC]<;>first|rfl|ac_rfl)
  have hc:=SZ (own:=own) (other:=other) hk
  exact aO X [8,9] rfl (by trivial) (aq (aj rfl (by and_intros<;>first|exact⟨⟩| (rw[hc];done)| (rw[hk];done))))
 ·have hk:zj c r=true:=cL hb0 (by simp only[zj,bC]<;>first|rfl|ac_rfl)
  obtain⟨hok,hn1,hn2,hn3⟩:=ad7 hk
  obtain⟨hu1,hu2,_,_,hs0,hs9,_,_⟩:=wI hok
  have hc:kg c r own other=⟨c.id,c.fJ,c.key,c.seed,c.bp,if yN c own then c.sent+1 else c.sent,if oN c other then c.inbox++ [(opP (Lr c) (c.inbox.length:Int) other).body]else c.inbox,r+1⟩:=by rw[kg,if_pos hk]
  refine au (aa (aM X [] [(35,⟨false,[.a (.sl .u8 (qg c c.sent))]⟩),(36,⟨false,[aU (own==(qg c c.sent))]⟩)] [1,3,4,8,10,37] [] rfl ⟨fun _=>lR own (qg c c.sent),fun h=>tR c hs0 (of_decide_eq_true h),⟨⟩⟩ ?_))
  refine an rfl ?_ ?_<;>intro bM
  ·have hh:yN c own=true:=mQ bM (by simp only[yN,bC]<;>first|rfl|ac_rfl)
   refine bU X [1,3,4,8,10] rfl ?_
   rw[dm (a:=c.sent+1) (by omega)]
   refine aa ?_
   have t1:=(yQ (xO c.key (af.wrap (1-eI c))) (c.inbox.length:Int) other)
   refine aQ X [] [(46,⟨false,[aI (eI c)]⟩),(48,⟨false,[aI (xO c.key (af.wrap (1-eI c)))]⟩),(53,⟨true,cx t1⟩)] [1,4,8,10,11,12] [] 98303 1 MO (by kernel_rfl) rfl (by kernel_rfl) (by(with_reducible and_intros);(iterate 3 all_goals try first|exact⟨⟩|exact(ia c)|exact(mZ c.key (af.wrap (1-eI c)))|exact t1)) ?_
   rw[Fc]
   refine aa (av X [1,8,10,11,67] rfl ?_)
   refine an rfl ?_ ?_<;>intro cS
   ·have hg:oN c other=true:=mQ cS (by simp only[oN,bC]<;>first|rfl|ac_rfl)
    refine gA X [1,8,10] rfl (by and_intros<;>first|exact⟨⟩|exact rfl| (simp only[gR,maxLen,lens];omega)) (av X [8,10] rfl ?_)
    rw[dm (a:=r+1) (by omega)]
    exact aO X [8,9] rfl (by trivial) (aq (aj rfl (by and_intros<;>first|exact⟨⟩| (rw[hc];done)| (rw[hc];simp only[hh,if_true];done)| (rw[hc];simp only[hg,if_true];done)| (rw[hk];done))))
   ·have hg:oN c other=false:=qG cS (by simp only[oN,bC]<;>first|rfl|ac_rfl)
    refine au (av X [8,10] rfl ?_)
    rw[dm (a:=r+1) (by omega)]
    exact aO X [8,9] rfl (by trivial) (aq (aj rfl (by and_intros<;>first|exact⟨⟩| (rw[hc];done)| (rw[hc];simp only[hh,if_true];done)| (rw[hc];simp[hg];done)| (rw[hk];done))))
  ·have hh:yN c own=false:=qG bM (by simp only[yN,bC]<;>first|rfl|ac_rfl)
   refine au (aa ?_)
   have t1:=(yQ (xO c.key (af.wrap (1-eI c))) (c.inbox.length:Int) other)
   refine aQ X [] [(46,⟨false,[aI (eI c)]⟩),(48,⟨false,[aI (xO c.key (af.wrap (1-eI c)))]⟩),(53,⟨true,cx t1⟩)] [1,4,8,10,11,12] [] 98303 1 MO (by kernel_rfl) rfl (by kernel_rfl) (by(with_reducible and_intros);(iterate 3 all_goals try first|exact⟨⟩|exact(ia c)|exact(mZ c.key (af.wrap (1-eI c)))|exact t1)) ?_
   rw[Fc]
   refine aa (av X [1,8,10,11,67] rfl ?_)
   refine an rfl ?_ ?_<;>intro cS
   ·have hg:oN c other=true:=mQ cS (by simp only[oN,bC]<;>first|rfl|ac_rfl)
    refine gA X [1,8,10] rfl (by and_intros<;>first|exact⟨⟩|exact rfl| (simp only[gR,maxLen,lens];omega)) (av X [8,10] rfl ?_)
    rw[dm (a:=r+1) (by omega)]
    exact aO X [8,9] rfl (by trivial) (aq (aj rfl (by and_intros<;>first|exact⟨⟩| (rw[hc];done)| (rw[hc];simp[hh];done)| (rw[hc];simp only[hg,if_true];done)| (rw[hk];done))))
   ·have hg:oN c other=false:=qG cS (by simp only[oN,bC]<;>first|rfl|ac_rfl)
    refine au (av X [8,10] rfl ?_)
    rw[dm (a:=r+1) (by omega)]
    exact aO X [8,9] rfl (by trivial) (aq (aj rfl (by and_intros<;>first|exact⟨⟩| (rw[hc];done)| (rw[hc];simp[hh];done)| (rw[hc];simp[hg];done)| (rw[hk];done))))
theorem Cm(d:bR)(r:Int)(own other:List UInt8)(h0:cz d≤1048576):So 359 [.agg (dj d),aI r, .a (.sl .u8 own), .a (.sl .u8 other)] [.agg (dj (rdev d r own other)),aU (Ck d r)]:=by
 refine aF X call359 func359 ntmps359 rfl rfl ?_
 intro zb
 have hc1:dQ d.live≤1048576∧dQ d.saved≤1048576:=by unfold cz at h0;omega
 unfold dQ at hc1
 refine av X [1,2,3,4,8] rfl (aa ?_)
 have t1:=(Fh d.live r own other ⟨by omega,by omega⟩)
 refine bn X [] [(19,⟨true,cx t1⟩)] [4,8,10,11] [] rfl (by(with_reducible and_intros)<;>first|exact⟨⟩|exact t1) (aa (aM X [] [(23,⟨false,[aU (fu d)]⟩)] [4,8,10,28] [] rfl (by(with_reducible and_intros)<;>first|exact⟨⟩|exact(gO d)) ?_))
 refine an rfl ?_ ?_<;>intro hb0
 ·have hk:Ck d r=false:=cR hb0 (by simp only[Ck,bC]<;>first|rfl|ac_rfl)
  have hd:=XW (own:=own) (other:=other) hk
  exact aM X [] [(30,⟨true,[.agg (dj d)]⟩)] [8,9] [] rfl (by(with_reducible and_intros)<;>first|exact⟨⟩|exact(mq d h0)) (aq (aj rfl (by and_intros<;>first|exact⟨⟩| (rw[hd];done)| (rw[hk];done))))
 ·have hk:Ck d r=true:=cL hb0 (by simp only[Ck,bC]<;>first|rfl|ac_rfl)
  have hz:=S0 (own:=own) (other:=other) hk
  refine au (aa (aQ X [] [(34,⟨true,[.agg (cM d.saved)]⟩)] [8,12] [] 63 0 MO (by kernel_rfl) rfl (by kernel_rfl) (by(with_reducible and_intros)<;>first|exact⟨⟩|exact(jA d.saved ⟨by omega,by omega⟩)) (aa (aM X [] [(37,⟨false,[aU (CQ (rI d r own other))]⟩)] [8,12,37] [] rfl (by(with_reducible and_intros)<;>first|exact⟨⟩|exact(Hj (rI d r own other))) ?_))))
  refine an rfl ?_ ?_<;>intro bM
  ·have hd:=XX hk bM
   exact aM X [] [(39,⟨true,[.agg (dj (PO (rI d r own other)))]⟩)] [8,9] [] rfl (by(with_reducible and_intros)<;>first|exact⟨⟩|exact(vg (rI d r own other) hz)) (aq (aj rfl (by and_intros<;>first|exact⟨⟩| (rw[hd];done)| (rw[hk];done))))
  ·have hd:=XY hk bM
   exact au (aO X [8,9] rfl (by trivial) (aq (aj rfl (by and_intros<;>first|exact⟨⟩| (rw[hd];rfl;done)| (rw[hk];done)))))
theorem Hl(x:bN)(h0:wB x):So 299 [.agg (bw x)] [.agg (bw (Ls x))]:=by
 refine aF X call299 func299 ntmps299 rfl rfl ?_
 intro zb
 have hls:eN gP x.aG≤1048576∧eN cz x.ah≤1048576∧gC x.aK≤1048576∧x.replaced.length≤4194304:=h0
 have qS:=eF hls.2.1
 refine av X [1,2] rfl (aM X [] [(17,⟨true,[.agg (bw x)]⟩)] [1,2,3] [] rfl (by(with_reducible and_intros)<;>first|exact⟨⟩|exact(fC x h0)) (aa (aM X [] [(19,⟨false,[aU (okW x)]⟩)] [1,2,3,20] [] rfl (by(with_reducible and_intros)<;>first|exact⟨⟩|exact(dL x)) ?_)))
 refine an rfl ?_ ?_<;>intro hb0
 ·have hk0:okW x=false:=by simpa using hb0
  have hw:=aeb hk0
  exact aO X [2] rfl (by trivial) (aq (aj rfl (by and_intros<;>first|exact⟨⟩| (rw[hw];done))))
 ·have hk0:okW x=true:=by simpa using hb0
  have hw:=XZ hk0
  have har:=PG hk0
  have hd8:=(xT (sA hk0)).2.1
  refine au (aa (av X [1,2,3,4] rfl ?_))
  refine aB (aP (fun k=>k≤x.ah.length) (fun k:Nat=> [(4, .one ((aI k)))]) (fun k=> [(19, .arr .bR (rdK x k))]) (fun k=>x.ah.length-k) 0 (fun k=>rfl) (aE _) rfl ?_)
  intro k hk
  have EF:=XF x k hk
  refine aa (av X [1,2,3,4,26] rfl ?_)
  refine an rfl ?_ ?_<;>intro bM
  ·try simp only[bG]at bM
   rw[EF]at bM
   have hrg:=XE x k bM
   have h00:=adz x k bM
   have hrs:=Ds x.aK.rounds (x.ah.getD k (aR .bR)).live.next
   have are:(wK x (x.ah.getD k (aR .bR))).length≤x.aK.rounds.length:=hrs
   have hrq:(kS x.aK.rounds (x.ah.getD k (aR .bR)).live.next).length=(wK x (x.ah.getD k (aR .bR))).length:=rfl
   refine au (aa (aB (aa ?_)))
   have t1:=(uj x.aK (((rdK x k).getD k (aR .bR)).live.next) (by omega))
   refine aQ X [] [(38,⟨true,cx t1⟩)] [1,2,3,4,5] [] 2047 0 MO (by kernel_rfl) rfl (by kernel_rfl) (by(with_reducible and_intros)<;>first|exact⟨⟩|exact t1| (intros;omega)) ?_
   rw[hrg]
   refine av X [1,2,3,4,5,6] rfl ?_
   refine aB (aP (fun k1=>k1≤(wK x (x.ah.getD k (aR .bR))).length) (fun k1:Nat=> [(6, .one ((aI k1)))]) (fun k1=> [(19, .arr .bR (xe x k k1))]) (fun k1=>(wK x (x.ah.getD k (aR .bR))).length-k1) 0 (fun k1=>rfl) (aE _) (by rw[h00];rfl) ?_)
   intro k1 hk1
   have hpl:=XC x k k1 bM
   refine aa (av X [1,2,3,4,5,6,42] rfl ?_)
   refine an rfl ?_ ?_<;>intro cS
   ·try simp only[bG]at cS
    have hs:=aea x k k1 bM cS
    have hsz:=ad8 hk0 bM k1
    refine au (aa (aB (aO X [1,2,3,4,5,6,7] rfl (by and_intros<;>first|exact⟨⟩| (intros;omega)) (aa ?_))))
    have t1:=(Fg (((xe x k k1).getD k (aR .bR)).live) ((wK x (x.ah.getD k (aR .bR))).getD k1 (aR .int)) x.rows)
    refine aQ X [] [(59,⟨false,cx t1⟩)] [1,2,3,4,5,6,7,8,9] [] 8191 0 MO (by kernel_rfl) rfl (by kernel_rfl) (by(with_reducible and_intros)<;>first|exact⟨⟩|exact t1| (intros;omega)) (aa ?_)
    have t1:=(uq x ((wK x (x.ah.getD k (aR .bR))).getD k1 (aR .int)) (jQ ((xe x k k1).getD k (aR .bR)).live.key ((wK x (x.ah.getD k (aR .bR))).getD k1 (aR .int)) (eI ((xe x k k1).getD k (aR .bR)).live) x.rows) (((xe x k k1).getD k (aR .bR)).live.seed) hk0)
    refine aQ X [] [(71,⟨true,cx t1⟩)] [1,2,3,4,5,6,7,9,10] [] 16383 0 MO (by kernel_rfl) rfl (by kernel_rfl) (by(with_reducible and_intros)<;>first|exact⟨⟩|exact t1| (intros;omega)) (aa ?_)
    have t1:=(uq x ((wK x (x.ah.getD k (aR .bR))).getD k1 (aR .int)) (jQ ((xe x k k1).getD k (aR .bR)).live.key ((wK x (x.ah.getD k (aR .bR))).getD k1 (aR .int)) (1-eI ((xe x k k1).getD k (aR .bR)).live) x.rows) (((xe x k k1).getD k (aR .bR)).live.seed) hk0)
    refine aQ X [] [(83,⟨true,cx t1⟩)] [1,2,3,4,5,6,10,12] [] 16383 0 MO (by kernel_rfl) rfl (by kernel_rfl) (by(with_reducible and_intros)<;>first|exact⟨⟩|exact t1| (intros;omega)) (aa ?_)
    have t1:=(Cm ((xe x k k1).getD k (aR .bR)) ((wK x (x.ah.getD k (aR .bR))).getD k1 (aR .int)) (EZ x ((wK x (x.ah.getD k (aR .bR))).getD k1 (aR .int)) (jQ ((xe x k k1).getD k (aR .bR)).live.key ((wK x (x.ah.getD k (aR .bR))).getD k1 (aR .int)) (eI ((xe x k k1).getD k (aR .bR)).live) x.rows) ((xe x k k1).getD k (aR .bR)).live.seed) (EZ x ((wK x (x.ah.getD k (aR .bR))).getD k1 (aR .int)) (jQ ((xe x k k1).getD k (aR .bR)).live.key ((wK x (x.ah.getD k (aR .bR))).getD k1 (aR .int)) (1-eI ((xe x k k1).getD k (aR .bR)).live) x.rows) ((xe x k k1).getD k (aR .bR)).live.seed) hsz)
    refine aQ X [] [(98,⟨true,cx t1⟩)] [1,2,3,4,5,6,14] [] 196607 1 MO (by kernel_rfl) rfl (by kernel_rfl) (by(with_reducible and_intros)<;>first|exact⟨⟩|exact t1| (intros;omega)) (gA X [1,2,3,4,5,6] rfl (by and_intros<;>first|exact⟨⟩| (intros;omega)) (bU X [1,2,3,4,5,6] rfl ?_))
    refine⟨k1+1,by omega,by omega,?_⟩
    rw[bZ _ k1 rfl (by omega), ←hs]
    try rfl
   ·try simp only[bG]at cS
    rw[XD x k k1 bM cS]
    refine aW (bU X [1,2,3,4] rfl ?_)
    refine⟨k+1,by omega,by omega,?_⟩
    rw[bZ _ k rfl (by omega)]
    try rfl
  ·try simp only[bG]at bM
   rw[EF]at bM
   exact aW (aO X [2] rfl (by trivial) (aq (aj rfl (by and_intros<;>first|exact⟨⟩| (rw[hw];done)| (rw[hw,XG x k (by omega) (by omega)];done)))))
end
section
set_option maxRecDepth 100000
theorem A2(s:cu)(c:Int)(hz:s.received.length≤1048576∧ ∀r,r∈s.received→eN aL r.share.rows≤1048576):So 317 [.agg (dF s),aI c] [.agg (bQ (G2 s.received c)),aU (rH s.received c)]:=by
 refine aF X call317 func317 ntmps317 rfl rfl ?_
 intro zb
 refine b7 0 3 rfl rfl (fun hl3=>(av X [1,2,4] rfl (aa (av X [1,4,9,10,11] rfl ?_))))
 refine aB (aP (fun k=>k≤s.received.length∧(s.received.take k).any (isC c)=false) (fun k:Nat=> [(11, .one ((aI k)))]) (fun k=> []) (fun k=>s.received.length-k) 0 (fun k=>rfl) ⟨aE _,rfl⟩ rfl ?_)
 rintro k ⟨hk,hall⟩
 refine av X [1,4,9,10,11,12] rfl ?_
 refine aa (an rfl ?_ ?_)<;>intro hb0
 ·try simp only[bG]at hb0
  refine au (aa (aB (aO X [1,4,7,9,10,11] rfl (by and_intros<;>first|exact⟨⟩| (intros;omega)) (av X [1,4,7,9,10,11,18] rfl ?_))))
  refine an rfl ?_ ?_<;>intro bM
  ·have hh:=adi hb0 hall bM
   exact aM X [] [(21,⟨true,[.agg (bQ ((s.received.getD k (aR .bJ)).share))]⟩)] [4,5] [] rfl (by(with_reducible and_intros)<;>first|exact⟨⟩|exact(eP ((s.received.getD k (aR .bJ)).share) (hz.2 _ (getD_in _ hb0)))) (aq (aj rfl ⟨by rw[hh.2],by rw[hh.1],⟨⟩⟩))
  ·refine au (bU X [1,4,9,10,11] rfl ?_)
   refine⟨k+1,⟨by omega,xR (aR .bJ) hb0 hall bM⟩,by omega,?_⟩
   rw[bZ _ k rfl (by omega)]
   try rfl
 ·try simp only[bG]at hb0
  exact aW (aO X [4,5] rfl (by trivial) (aq (aj rfl ⟨by rw[(JB (by rw[←hall,aD hb0])).2],by rw[(JB (by rw[←hall,aD hb0])).1],⟨⟩⟩)))
theorem LJ(s:cu)(c:Int)(hz:s.received.length≤1048576∧ ∀r,r∈s.received→eN aL r.share.rows≤1048576):So 393 [.agg (dF s),aI c] [.agg (bQ (G2 s.received c)),aU (rH s.received c)]:=by
 refine aF X call393 func393 ntmps393 rfl rfl ?_
 intro zb
 refine b7 0 3 rfl rfl (fun hl3=>(av X [1,2,4] rfl (aa (av X [1,2,4,6] rfl ?_))))
 refine aB (aP (fun k=>k≤s.received.length∧(s.received.take k).any (isC c)=false) (fun k:Nat=> [(6, .one ((aI k)))]) (fun k=> []) (fun k=>s.received.length-k) 0 (fun k=>rfl) ⟨aE _,rfl⟩ rfl ?_)
 rintro k ⟨hk,hall⟩
 refine aa (av X [1,2,4,6,11] rfl ?_)
 refine an rfl ?_ ?_<;>intro hb0
 ·try simp only[bG]at hb0
  refine au (aa (aB (aO X [1,2,4,6,21] rfl (by and_intros<;>first|exact⟨⟩| (intros;omega)) ?_)))
  refine an rfl ?_ ?_<;>intro bM
  ·have hh:=adi hb0 hall bM
   exact aM X [] [(28,⟨true,[.agg (bQ ((s.received.getD k (aR .bJ)).share))]⟩)] [4,5] [] rfl (by(with_reducible and_intros)<;>first|exact⟨⟩|exact(iH ((s.received.getD k (aR .bJ)).share) (hz.2 _ (getD_in _ hb0)))| (intros;omega)) (aq (aj rfl ⟨by rw[hh.2],by rw[hh.1],⟨⟩⟩))
  ·refine au (bU X [1,2,4,6] rfl ?_)
   refine⟨k+1,⟨by omega,xR (aR .bJ) hb0 hall bM⟩,by omega,?_⟩
   rw[bZ _ k rfl (by omega)]
   try rfl
 ·try simp only[bG]at hb0
  exact aW (aO X [4,5] rfl (by trivial) (aq (aj rfl ⟨by rw[(JB (by rw[←hall,aD hb0])).2],by rw[(JB (by rw[←hall,aD hb0])).1],⟨⟩⟩)))
theorem zo(r:bJ)(c:Int):jG ty aN 319 [(1000, .box [eO c])] [.agg (xk r), .a (.ptr 1000 0)] [(1000, .box [eO c])] [aU (decide (r.client>c))]:=by
 refine fW X call319 func319 rfl rfl (by decide) ntmps319 (by simp) rfl ?_
 intro zb
 exact av X [1,2] rfl (aO X [3] rfl (by trivial) (aq (bI rfl ⟨rfl,rfl,⟨⟩⟩)))
theorem iR(l:List bJ)(c:Int)(hl: ∀r,r∈l→r.client<c):jG ty aN 318 [(1000, .box [eO c])] [.a (.sl .bJ l), .a (.M7 319 1000)] [(1000, .box [eO c])] [aI (-1)]:=by
 refine fW X call318 func318 rfl rfl (by decide) ntmps318 (by simp) rfl ?_
 intro zb
 refine eu 0 rfl (fun mK=>(av X [0,1] rfl (aa (av X [0,1,7,8] rfl ?_))))
 refine aB (aP (fun k=>k≤l.length) (fun k:Nat=> [(8, .one ((aI k)))]) (fun k=> []) (fun k=>l.length-k) 0 (fun k=>rfl) (aE _) rfl ?_)
 intro k hk
 refine av X [0,1,7,8,9] rfl ?_
 refine aa (an rfl ?_ ?_)<;>intro hb0
 ·try simp only[bG]at hb0
  have hlt:=hl _ (getD_in (aR .bJ) hb0)
  refine au (aa (aB (av X [0,1,5,7,8] rfl (aa ?_))))
  have t1:=(zo (l.getD k (aR .bJ)) c)
  refine bn X [] [(800016,⟨true,nX t1⟩),(700016,⟨true, .agg [.ptr 1000 1000]:: .agg []::nY t1⟩)] [0,1,5,7,8,16] [] rfl (by(with_reducible and_intros)<;>first|exact⟨⟩|exact t1| (intros;omega)) ?_
  refine an rfl ?_ ?_<;>intro bM
  ·try simp only[bG]at bM
   omega
  ·try simp only[bG]at bM
   refine au (bU X [0,1,7,8] rfl ?_)
   refine⟨k+1,by omega,by omega,?_⟩
   rw[bZ _ k rfl (by omega)]
   try rfl
 ·try simp only[bG]at hb0
  exact aW (av X [4] rfl (aq (bI rfl ⟨rfl,rfl,⟨⟩⟩)))
theorem jc(l:List bJ)(y:bJ)(hl:l.length≤1048576):jG ty aN 320 [(5, .arr .bJ l),(6, .arr .bJ [y])] [.a (.own 5),aI (l.length:Int), .a (.own 6)] [(5, .arr .bJ (l++ [y]))] [.a (.own 5)]:=by
 refine fW X call320 func320 rfl rfl (by decide) ntmps320 (by simp) rfl ?_
 intro zb
 refine av X [0,1,2] rfl (aO X [0,1,2] rfl (by and_intros<;>first|exact⟨⟩| (intros;omega)) (av X [0,1,2,7] rfl (aa (av X [0,1,2,7,16] rfl ?_))))
 refine an rfl ?_ ?_<;>intro hb0
 ·try simp only[bG]at hb0
  simp at hb0
 ·try simp only[bG]at hb0
  refine au (av X [0,1,2,7,8] rfl (aa (av X [0,1,2,7,8,22] rfl ?_)))
  refine an rfl ?_ ?_<;>intro bM
  ·try simp only[bG]at bM
   exact aM X [(25,5)] [] [6] [] rfl (by and_intros<;>first|exact⟨⟩|exact rfl| (simp only[gR,maxLen,lens];omega)) (aq (bI rfl ⟨rfl,⟨⟩⟩))
  ·try simp only[bG]at bM
   simp at bM
theorem Cn(s:cu)(c:Int)(d:DB)(hz:s.received.length≤1048576∧ ∀r,r∈s.received→eN aL r.share.rows≤1048576)(hb: ∀r,r∈s.received→r.client<c)(hd:eN aL d.rows≤1048576):So 259 [.agg (dF s),aI c, .agg (bQ d)] [.agg (dF (Vu s c d)),aU (pN s c d)]:=by
 refine aF X call259 func259 ntmps259 rfl rfl ?_
 intro zb
 have hsn:=adj (s:=s) hb
 have mK:=hz.1
 refine aM X [(4,904)] [] [3,4,5,6] [] rfl ⟨⟩ (aM X [] [(13,⟨true,[.agg (dF s)]⟩)] [3,4,5,6,8] [] rfl (by(with_reducible and_intros)<;>first|exact⟨⟩|exact(lU s hz)) (aa (aa ?_)))
 have t1:=(A2 s c hz)
 refine bn X [] [(17,⟨true,cx t1⟩)] [3,4,5,6,8,10] [] rfl (by(with_reducible and_intros)<;>first|exact⟨⟩|exact t1) (aM X [] [(23,⟨false,[aU (ec s)]⟩)] [3,4,5,6,8,25] [] rfl (by(with_reducible and_intros)<;>first|exact⟨⟩|exact fun _=>(fQ s)) ?_)
 refine an rfl ?_ ?_<;>intro hb0
 ·have hk:ec s=false:=by rw[hsn]at hb0;simpa using hb0
  have hr:pN s c d=false:=by rw[pN,hk];rfl
  exact aO X [6,7] rfl (by trivial) (aq (aj rfl (by and_intros<;>first|exact⟨⟩| (rw[Vv hr];done)| (rw[hr];done))))
 ·have hk:ec s=true:=by rw[hsn]at hb0;simpa using hb0
  refine au (aa ?_)
  have t1:=(iR s.received c hb)
  refine bn X [] [(800030,⟨true,nX t1⟩),(700030,⟨true, .agg [.ptr 1000 904]:: .agg []::nY t1⟩)] [3,4,5,6,8,11] [] rfl (by(with_reducible and_intros)<;>first|exact⟨⟩|exact t1) (aa (av X [3,4,5,6,8,11,32] rfl ?_))
  refine an rfl ?_ ?_<;>intro bM
  ·try simp only[bG]at bM
   refine bU X [3,4,5,6,8,11] rfl (aa ?_)
   have t1:=(jc s.received (⟨c,d⟩:bJ) (by first|assumption|omega| (simp;done)| (simp;omega)))
   refine aQ X [] [(41,⟨true,[.agg (bQ d)]⟩),(800044,⟨true,nX t1⟩),(700044,⟨true, .agg [.ptr 5 16, .ptr 6 43]:: .agg []::nY t1⟩)] [3,6,8] [] 639 5 MO (by kernel_rfl) rfl (by kernel_rfl) (by(with_reducible and_intros);(iterate 2 all_goals try first|exact⟨⟩|exact(eP d hd)|exact t1);all_goals first|exact rfl) (aa (aM X [] [(47,⟨false,[aU (ec (pM s c d))]⟩)] [3,6,8,48] [] rfl (by(with_reducible and_intros)<;>first|exact⟨⟩|exact(fQ (pM s c d))) ?_))
   refine an rfl ?_ ?_<;>intro cS
   ·have hr:pN s c d=false:=by rw[pN,hk];simpa using cS
    exact aM X [] [(50,⟨true,[.agg (dF s)]⟩)] [6,7] [] rfl (by(with_reducible and_intros)<;>first|exact⟨⟩|exact(lU s hz)) (aq (aj rfl (by and_intros<;>first|exact⟨⟩| (rw[Vv hr];done)| (rw[hr];done))))
   ·have hr:pN s c d=true:=by rw[pN,hk];simpa using cS
    exact au (aO X [6,7] rfl (by trivial) (aq (aj rfl (by and_intros<;>first|exact⟨⟩| (rw[Pw hr];rfl;done)| (rw[hr];done)))))
  ·try simp only[bG]at bM
   omega
theorem Co(s:cu)(c:Int)(d:DB)(hz:s.received.length≤1048576∧ ∀r,r∈s.received→eN aL r.share.rows≤1048576)(hb: ∀r,r∈s.received→r.client<c)(hd:eN aL d.rows≤1048576):So 354 [.agg (dF s),aI c, .agg (bQ d)] [.agg (dF (Vu s c d)),aU (pN s c d)]:=by
 refine aF X call354 func354 ntmps354 rfl rfl ?_
 intro zb
 have mK:=hz.1
 refine av X [1,3,5,6] rfl (aM X [] [(11,⟨true,[.agg (dF s)]⟩)] [1,3,5,6,8] [] rfl (by(with_reducible and_intros)<;>first|exact⟨⟩|exact(pP s hz)) (av X [1,3,5,6,8,9] rfl ?_))
 refine aa (aB (aP (fun k=>k≤s.received.length) (fun k:Nat=> [(9, .one ((aI k)))]) (fun k=> []) (fun k=>s.received.length-k) 0 (fun k=>rfl) (aE _) rfl ?_))
 intro k hk
 refine aa (aO X [1,3,5,6,8,9,26] rfl (by refine⟨fun hzz=> ?_,fun hzz=> ?_,⟨⟩⟩<;>(have hz2:decide ((k:Int)<(s.received.length:Int))=true:=hzz;rw[decide_eq_true_eq]at hz2;dsimp only[hyps,QZ];omega)) ?_)
 refine an rfl ?_ ?_<;>intro hb0
 ·have EF:k<s.received.length:=by simp only[nb]at hb0;omega
  have hlt:=hb _ (getD_in (aR .bJ) EF)
  refine au (aB (bU X [1,3,5,6,8,9] rfl ?_))
  refine⟨k+1,by omega,by omega,?_⟩
  rw[bZ _ k rfl (by omega)]
  try rfl
 ·have EF:k=s.received.length:=ahI hb hk hb0
  subst EF
  refine adp 8 3 rfl (aW (aa (aQ X [(34,29),(40,29),(45,29)] [(37,⟨true,[.agg (bQ d)]⟩),(600044,⟨true,[]⟩)] [3,6,8] [] 193503 259 MO (by kernel_rfl) rfl (by kernel_rfl) (by(repeat' with_reducible first|exact bH|refine bS ?_ ?_|apply bh)<;>first|exact(iH d hd)| (intros;omega)|exact rfl|exact⟨rfl,cE _ (by decide)⟩| (simp only[gR,maxLen,lens];omega)) ?_)))
  rw[ins_eq]
  refine aa (aM X [] [(48,⟨false,[aU (ec s)]⟩),(52,⟨false,[aU (ec (pM s c d))]⟩)] [3,6,8,54] [] rfl (by(with_reducible and_intros);(iterate 2 all_goals try first|exact⟨⟩|exact(fT s)|exact fun _=>(fT (pM s c d)))) ?_)
  refine an rfl ?_ ?_<;>intro bM
  ·have hr:pN s c d=false:=aoL bM
   exact aM X [] [(56,⟨true,[.agg (dF s)]⟩)] [6,7] [] rfl (by(with_reducible and_intros)<;>first|exact⟨⟩|exact(pP s hz)) (aq (aj rfl (by and_intros<;>first|exact⟨⟩| (rw[Vv hr];done)| (rw[hr];done))))
  ·have hr:pN s c d=true:=aoM bM
   exact au (aO X [6,7] rfl (by trivial) (aq (aj rfl (by and_intros<;>first|exact⟨⟩| (rw[Pw hr];rfl;done)| (rw[hr];done)))))
end
section
set_option maxRecDepth 100000
theorem A3(x:bN)(h0:wB x):So 190 [.agg (bw x)] [.a (.sl .cu (dw x)), .a (.sl .iA (ni x))]:=by
 refine aF X call190 func190 ntmps190 rfl rfl ?_
 intro zb
 refine b7 0 1 rfl rfl (fun hl1=> ?_)
 refine b7 0 2 rfl rfl (fun qS=> ?_)
 have hsv:=yM h0
 refine av X [1] rfl (aa (aM X [] [(10,⟨false,[aU (okW x)]⟩)] [1,11] [] rfl (by(with_reducible and_intros)<;>first|exact⟨⟩|exact(dy x)) ?_))
 refine an rfl ?_ ?_<;>intro hb0
 ·have hk0:okW x=false:=by simpa using hb0
  exact av X [2,3] rfl (aq (aj rfl ⟨by rw[dw,if_neg (by rw[hk0];decide)],by rw[ni,if_neg (by rw[hk0];decide)],⟨⟩⟩))
 ·have hk0:okW x=true:=by simpa using hb0
  have arf:=ij hk0
  have hdv:=(xT (sA hk0)).2.1
  have hc0:=(col hk0 0 (aE _)).sml
  refine au (aM X [] [(14,⟨true,[.a (.sl .cu x.aG)]⟩)] [1,4] [] rfl (by(with_reducible and_intros)<;>first|exact⟨⟩|exact(ud x.aG (by omega) hc0)) (aO X [1,4,5] rfl (by and_intros<;>first|exact⟨⟩|exact rfl) (aa (av X [1,4,5,18,19] rfl ?_))))
  refine aB (aP (fun k=>k≤x.ah.length) (fun k:Nat=> [(19, .one ((aI k)))]) (fun k=> [(14, .arr .cu (Ch x k)),(15, .arr .iA (MB x k))]) (fun k=>x.ah.length-k) 0 (fun k=>rfl) (aE _) rfl ?_)
  intro k hk
  refine av X [1,4,5,18,19,20] rfl ?_
  refine aa (an rfl ?_ ?_)<;>intro bM
  ·try simp only[bG]at bM
   have S2:k<x.ah.length:=by omega
   have hwl:(pL x (k:Int)).length=x.aG.length:=by rw[Ld hk0 (by omega)];exact oL hk0 (by omega)
   have hw:pL x (k:Int)=gy x (k:Int):=Ld hk0 (by omega)
   refine au (aa (aB (av X [1,4,5,6,18,19] rfl (aM X [] [(24,⟨true,[.a (.sl .DB (pL x (k:Int)))]⟩)] [1,4,5,6,18,19,24,25,26] [] rfl (by(with_reducible and_intros)<;>first|exact⟨⟩|exact(Dm x (k:Int) (by first|assumption|omega| (simp;done)| (simp;omega)))) ?_))))
   refine aB (aP (fun k1=>k1≤x.aG.length) (fun k1:Nat=> [(26, .one ((aI k1)))]) (fun k1=> [(14, .arr .cu (Ci x k k1)),(15, .arr .iA (MB x k++MA x k k1))]) (fun k1=>x.aG.length-k1) 0 (fun k1=>rfl) (aE _) (by simp[Ci,MA]) ?_)
   intro k1 hk1
   have hpl:=SB hk0 S2 hk1
   refine av X [1,4,5,6,18,19,24,25,26,27] rfl ?_
   refine aa (an rfl ?_ ?_)<;>intro cS
   ·try simp only[bG]at cS
    have ME:=SE hk0 S2 (by omega:k1<x.aG.length)
    have hs1:=NM hk0 S2 (by omega:k1<x.aG.length)
    have hs2:=G3 x k k1
    have hrl:=Lg x k
    have hrp:=EP x k k1
    have QD:k*x.aG.length≤8*4:=vI (by omega) (by omega)
    refine au (aa (aB (aO X [1,4,5,6,7,8,18,19,24,25,26] rfl (by and_intros<;>first|exact⟨⟩| (intros;omega)) (aa ?_))))
    have t1:=(Cn ((Ci x k k1).getD k1 (aR .cu)) (k:Int) ((pL x (k:Int)).getD k1 (aR .DB)) ME.2.1 ME.1 (by rw[hw];exact ME.2.2))
    refine aQ X [] [(40,⟨true,cx t1⟩)] [1,4,5,6,7,8,18,19,24,25,26] [] 8191 1 MO (by kernel_rfl) rfl (by kernel_rfl) (by(with_reducible and_intros)<;>first|exact⟨⟩|exact t1| (intros;omega)) ?_
    have t1:=(Dq (nF x.ck (k1:Int)) (k1:Int) (k:Int) x.round ((pL x (k:Int)).getD k1 (aR .DB)) (by rw[hw];exact ME.2.2))
    refine aQ X [(56,15)] [(48,⟨false,[aI (nF x.ck (k1:Int))]⟩),(54,⟨false,cx t1⟩)] [1,4,5,6,18,19,24,25,26] [] 4095 0 MO (by kernel_rfl) rfl (by kernel_rfl) (by(repeat' with_reducible first|exact bH|refine bS ?_ ?_|apply bh);(iterate 2 all_goals try first|exact(mR x.ck (k1:Int))|exact t1);all_goals first|exact rfl|exact⟨rfl,cE _ (by decide)⟩| (simp only[gR,maxLen,lens];omega)) ?_
    refine bU X [1,4,5,6,18,19,24,25,26] rfl ?_
    refine⟨k1+1,by omega,by omega,?_⟩
    rw[bZ _ k1 rfl (by omega),hw, ←hs1,hs2, ←bO]
    try rfl
   ·try simp only[bG]at cS
    rw[SD hk0 S2 (by omega),show k1=x.aG.length by omega, ←G4]
    refine aW (bU X [1,4,5,18,19] rfl ?_)
    refine⟨k+1,by omega,by omega,?_⟩
    rw[bZ _ k rfl (by omega)]
    try rfl
  ·try simp only[bG]at bM
   exact aW (av X [2,3] rfl (aq (aj rfl ⟨by rw[dw,if_pos hk0,show x.ah.length=k by omega],by rw[ni,if_pos hk0,show x.ah.length=k by omega],⟨⟩⟩)))
theorem A4(x:bN)(h0:wB x):So 296 [.agg (bw x)] [.a (.sl .cu (dw x)), .a (.sl .iA (ni x))]:=by
 refine aF X call296 func296 ntmps296 rfl rfl ?_
 intro zb
 refine b7 0 1 rfl rfl (fun hl1=> ?_)
 refine b7 0 2 rfl rfl (fun qS=> ?_)
 have hsv:=yM h0
 refine av X [1] rfl (aO X [1,4] rfl (by and_intros<;>first|exact⟨⟩|exact rfl) (aa (aM X [] [(13,⟨false,[aU (okW x)]⟩)] [1,4,14] [] rfl (by(with_reducible and_intros)<;>first|exact⟨⟩|exact(dL x)) ?_)))
 refine an rfl ?_ ?_<;>intro hb0
 ·have hk0:okW x=false:=by simpa using hb0
  exact aO X [2,3] rfl (by and_intros<;>first|exact⟨⟩|exact rfl) (aq (aj rfl ⟨by rw[dw,if_neg (by rw[hk0];decide)],by rw[ni,if_neg (by rw[hk0];decide)],⟨⟩⟩))
 ·have hk0:okW x=true:=by simpa using hb0
  have arf:=ij hk0
  have hdv:=(xT (sA hk0)).2.1
  have hc0:=(col hk0 0 (aE _)).sml
  refine au (aM X [] [(18,⟨true,[.agg (bw x)]⟩)] [1,4,5] [] rfl ⟨⟨_,_,_,Tryz.underlying39,rfl,rfl,Tryz.underlying32,rfl⟩,fC x h0,⟨⟩⟩ (aa (av X [1,4,5,6] rfl ?_)))
  refine aB (aP (fun k=>k≤x.ah.length) (fun k:Nat=> [(6, .one ((aI k)))]) (fun k=> [(19, .arr .cu (Ch x k)),(11, .arr .iA (MB x k))]) (fun k=>x.ah.length-k) 0 (fun k=>rfl) (aE _) rfl ?_)
  intro k hk
  refine aa (av X [1,4,5,6,24] rfl ?_)
  refine an rfl ?_ ?_<;>intro bM
  ·try simp only[bG]at bM
   have S2:k<x.ah.length:=by omega
   have hwl:(gy x (k:Int)).length=x.aG.length:=oL hk0 (by omega)
   refine au (aa (aB (aM X [] [(29,⟨true,[.a (.sl .DB (gy x (k:Int)))]⟩)] [1,4,5,6,7] [] rfl (by(with_reducible and_intros)<;>first|exact⟨⟩|exact(G1 x (k:Int) (by first|assumption|omega| (simp;done)| (simp;omega)) (by first|assumption|omega| (simp;done)| (simp;omega)))) (av X [1,4,5,6,7,8] rfl ?_))))
   refine aB (aP (fun k1=>k1≤x.aG.length) (fun k1:Nat=> [(8, .one ((aI k1)))]) (fun k1=> [(19, .arr .cu (Ci x k k1)),(11, .arr .iA (MB x k++MA x k k1))]) (fun k1=>x.aG.length-k1) 0 (fun k1=>rfl) (aE _) (by simp[Ci,MA]) ?_)
   intro k1 hk1
   have hpl:=SB hk0 S2 hk1
   refine aa (av X [1,4,5,6,7,8,33] rfl ?_)
   refine an rfl ?_ ?_<;>intro cS
   ·try simp only[bG]at cS
    rw[hpl]at cS
    have ME:=SE hk0 S2 (by omega:k1<x.aG.length)
    have hs1:=NM hk0 S2 (by omega:k1<x.aG.length)
    have hs2:=G3 x k k1
    have hrl:=Lg x k
    have hrp:=EP x k k1
    have QD:k*x.aG.length≤8*4:=vI (by omega) (by omega)
    refine au (aa (aB (aa ?_)))
    have t1:=(Co ((Ci x k k1).getD k1 (aR .cu)) (k:Int) ((gy x (k:Int)).getD k1 (aR .DB)) ME.2.1 ME.1 ME.2.2)
    refine aQ X [] [(46,⟨true,cx t1⟩)] [1,4,5,6,7,8,9] [] 49151 1 MO (by kernel_rfl) rfl (by kernel_rfl) (by(with_reducible and_intros)<;>first|exact⟨⟩|exact t1| (intros;omega)) (aO X [1,4,5,6,7,8] rfl (by and_intros<;>first|exact⟨⟩| (intros;omega)) ?_)
    have t1:=(Dr (nF x.ck (k1:Int)) (k1:Int) (k:Int) x.round ((gy x (k:Int)).getD k1 (aR .DB)) ME.2.2)
    refine aQ X [(68,11)] [(57,⟨false,[aI (nF x.ck (k1:Int))]⟩),(66,⟨false,cx t1⟩)] [1,4,5,6,7,8] [] 32767 0 MO (by kernel_rfl) rfl (by kernel_rfl) (by(repeat' with_reducible first|exact bH|refine bS ?_ ?_|apply bh);(iterate 2 all_goals try first|exact(mS x.ck (k1:Int))|exact t1);all_goals first| (intros;omega)|exact rfl|exact⟨rfl,cE _ (by decide)⟩| (simp only[gR,maxLen,lens];omega)) ?_
    refine bU X [1,4,5,6,7,8] rfl ?_
    refine⟨k1+1,by omega,by omega,?_⟩
    rw[bZ _ k1 rfl (by omega), ←hs1,hs2, ←bO]
    try rfl
   ·try simp only[bG]at cS
    rw[hpl]at cS
    rw[SD hk0 S2 (by omega),show k1=x.aG.length by omega, ←G4]
    refine aW (bU X [1,4,5,6] rfl ?_)
    refine⟨k+1,by omega,by omega,?_⟩
    rw[bZ _ k rfl (by omega)]
    try rfl
  ·try simp only[bG]at bM
   exact aW (av X [2,3] rfl (aq (aj rfl ⟨by rw[dw,if_pos hk0,show x.ah.length=k by omega],by rw[ni,if_pos hk0,show x.ah.length=k by omega],⟨⟩⟩)))
end
end Go.Proofs.YtaalpcnbbldlaaaGreatDoor.G
namespace Go.Proofs.YtaalpcnbbldlaaaGreatDoor.G
set_option linter.all false
open Go.RowKit L D
section
set_option maxRecDepth 100000
def fm{α:Type}(f:Nat→List α)(k:Nat):List α:=(bT k).flatMap f
theorem jT{α:Type}(f:Nat→List α)(k:Nat):fm f (k+1)=fm f k++f k:=by
 unfold fm;rw[List.range_succ,List.flatMap_append];simp
theorem vu{α:Type}(f:Nat→List α):fm f 0= []:=rfl
theorem DQ{α:Type}{f:Nat→List α}{C K k:Nat}(h: ∀i,(f i).length≤C)(hk:k≤K):(fm f k).length≤K*C:=by
 have: ∀k,(fm f k).length≤k*C:=by
  intro k
  induction k with
  |zero=>simp[fm]
  |succ k ih=>rw[jT,bf,dr];have:=h k;omega
 exact dH (this k) (Nat.mul_le_mul_right C hk)
def nJ(c s r:Int):Bool:=inr c 0 8&&dG s&&inr r 1 64
theorem yy{c s r:Int}(h:nJ c s r=true):(0≤c∧c≤8)∧(2≤s∧s≤4)∧1≤r∧r≤64:=by
 simp only[nJ,dG,az,dS]at h;omega
def nk(r:Int):Int:=if 1≤r∧r≤64 then r*24 else 0
def nR(r:Int):Int:=if 1≤r∧r≤64 then 1+(r+7)/8 else 0
def MR(r:Int)(a:Nat)(k:Nat):List jE:= [⟨(a:Int),100+(k:Int),nk r⟩]
def wT(c s r:Int):List jE:=if nJ c s r then fm (fun a=>fm (MR r a) s.toNat) c.toNat else []
def FQ(r:Int)(a:Nat)(b:Nat):List jE:=if a=b then []else [⟨100+(a:Int),100+(b:Int),nk r⟩]
def pT(s r:Int):List jE:=if nJ 0 s r then fm (fun a=>fm (FQ r a) s.toNat) s.toNat else []
def rEl(r:Int)(a:Nat)(k:Nat):List jE:= [⟨(a:Int),100+(k:Int),nR r⟩,⟨100+(k:Int),(a:Int),24⟩]
def mC(s r:Int)(a:Nat)(_:Nat):List jE:=fm (rEl r a) s.toNat
def YB(c s r n:Int):Bool:=nJ c s r&&inr n 0 8
def rT(c s r n:Int):List jE:=if YB c s r n then fm (fun a=>fm (mC s r a) (2*n).toNat) c.toNat else []
theorem V2{r s:Int}(hs:s≤4)(a:Nat){k:Nat}(hk:k≤s.toNat):(fm (MR r a) k).length≤4:=DQ (C:=1) (K:=4) (fun i=>by simp[MR]) (by omega)
theorem V3{r s:Int}(hs:s≤4){k:Nat}(hk:k≤8):(fm (fun a=>fm (MR r a) s.toNat) k).length≤32:=DQ (C:=4) (K:=8) (fun i=>V2 hs i (bq _)) hk
theorem V4{r s:Int}(hs:s≤4)(a:Nat){k:Nat}(hk:k≤s.toNat):(fm (FQ r a) k).length≤4:=DQ (C:=1) (K:=4) (fun i=>by unfold FQ;split<;>simp) (by omega)
theorem V5{r s:Int}(hs:s≤4){k:Nat}(hk:k≤s.toNat):(fm (fun a=>fm (FQ r a) s.toNat) k).length≤16:=DQ (C:=4) (K:=4) (fun i=>V4 hs i (bq _)) (by omega)
theorem V6{r s:Int}(hs:s≤4)(a:Nat){k:Nat}(hk:k≤s.toNat):(fm (rEl r a) k).length≤8:=DQ (C:=2) (K:=4) (fun i=>by simp[rEl]) (by omega)
theorem V7{r s:Int}(hs:s≤4)(a:Nat){k:Nat}(hk:k≤16):(fm (mC s r a) k).length≤128:=DQ (C:=8) (K:=16) (fun i=>V6 hs a (bq _)) hk
theorem V8{r s n:Int}(hs:s≤4)(hn:n≤8){k:Nat}(hk:k≤8):(fm (fun a=>fm (mC s r a) (2*n).toNat) k).length≤1024:=DQ (C:=128) (K:=8) (fun i=>V7 hs i (by omega)) hk
theorem ae1(c s r:Int):(wT c s r).length≤32:=by
 unfold wT;split
 ·rename_i h;have:=yy h;exact V3 (by omega) (by omega)
 ·simp
theorem ae2(s r:Int):(pT s r).length≤16:=by
 unfold pT;split
 ·rename_i h;have:=yy h;exact V5 (by omega) (bq _)
 ·simp
theorem ae3(c s r n:Int):(rT c s r n).length≤1024:=by
 unfold rT;split
 ·rename_i h
  simp only[YB,az,dS]at h
  have:=yy h.1;exact V8 (by omega) (by omega) (by omega)
 ·simp
theorem TM{E R:Bool}(h:E=true)(he:E=R):R=true:=by rw[←he];exact h
theorem YC{E R:Bool}(h:E=false)(he:E=R):R=false:=by rw[←he];exact h
theorem akF{c s r n:Int}(h:YB c s r n=true):nJ c s r=true:=by simp only[YB,az]at h;exact h.1
theorem akG{c s r n:Int}(h:YB c s r n=true):0≤n∧n≤8:=by simp only[YB,az,dS]at h;exact h.2
theorem aiz{c s r:Int}{k:Nat}(hk:k≤c.toNat)(hks:k=0∨nJ c s r=true)(h:(decide ((k:Int)<c)&&nJ c s r)=false):fm (fun a=>fm (MR r a) s.toNat) k=wT c s r:=by
 unfold wT
 cases hs:nJ c s r with
 |true=>rw[hs,xP,decide_eq_false_iff_not]at h;rw[if_pos rfl,show k=c.toNat by omega]
 |false=>
  rw[hs]at hks
  have:k=0:=by simpa using hks
  subst this;rfl
theorem aiA{s r:Int}{k:Nat}(hk:k≤s.toNat)(hks:k=0∨nJ 0 s r=true)(h:(decide ((k:Int)<s)&&nJ 0 s r)=false):fm (fun a=>fm (FQ r a) s.toNat) k=pT s r:=by
 unfold pT
 cases hs:nJ 0 s r with
 |true=>rw[hs,xP,decide_eq_false_iff_not]at h;rw[if_pos rfl,show k=s.toNat by omega]
 |false=>
  rw[hs]at hks
  have:k=0:=by simpa using hks
  subst this;rfl
def HK(x:bN):List jE:=wT x.ah.length x.aG.length x.rows++pT x.aG.length x.rows++rT x.ah.length x.aG.length x.rows 1
theorem aiB{r:Int}(h:1≤r∧r≤64):af.wrap (1+af.wrap ((af.wrap (r+7)).tdiv 8))=nR r:=by
 unfold nR
 rw[if_pos h,dm (a:=r+7) (by omega),tH (by omega),dm (a:=(r+7)/8) (by omega),dm (by omega)]
def YD(a:Int):Int:=(a+7)/8
end
end Go.Proofs.YtaalpcnbbldlaaaGreatDoor.G
namespace Go.Proofs.YtaalpcnbbldlaaaGreatDoor.G
set_option linter.all false
open Go.RowKit L D Tryz
section
set_option maxRecDepth 100000
theorem afh(w:World)(n:Nat)(h1:n≤1099511627776):Calls aN 199 #[Kb, .int .i64 n] w (Zd ty w [.a (.sl .jE [])]):=by
 have yG:El aN ty .jE:=cE _ (by decide)
 cases hq:aN.info? (ty .jE)with
 |none=>simp[El,hq]at yG
 |some inf=>
  simp[El,hq]at yG
  obtain⟨z1,z2,z3⟩:=yG
  by_cases h0:n=0
  ·subst h0
   go_enter func199,ntmps199
   go_wp2
   go_ret
   exact Xk
  ·have hsz:inf.size=3:=z2
   have hby:inf.bytes≤24:=by rw[z3];decide
   have hmul:n*inf.bytes≤26388279066624:=dH (vI (show n≤1099511627776 from h1) hby) (by decide)
   have hrun:=wj (P:=aN) w 78 3 78 (ty .jE) inf (jv .jE) .i64 .i64 (X.kind 78).1 (X.kind 3) hq z1 n (by omega) (by omega) (by omega) (by omega)
   have hge:=grownCap_ge w n 0 (ty .jE)
   have QD:=grownCap_le_maxLen w n 0 (ty .jE) (by unfold maxLen;omega)
   generalize grownCap w n 0 (ty .jE)=g at hrun hge QD
   go_enter func199,ntmps199
   go_wp2_with (at_builtin;refine Ao _ rfl _ _ _ _ rfl _ _ rfl rfl _ _ hrun ?_)
   go_ret
   refine RT (t:= .jE) rfl ((Below.refl _ _).drew.alloc (bq _) _) (ql rfl) ?_ QD
   rw[Array.size_append,size_zeroCells,size_zeroCells, ←dr,show n+(g-n)=g by omega]
   all_goals first
    |rfl
    | (rename_i heq;injection heq with heq;subst heq;rfl)
    | (rename_i heq;exact absurd rfl (heq _))
theorem lq(n:Nat)(h1:n≤1099511627776):So 199 [.a (.lit Kb), .a (.lit (.int .i64 n))] [.a (.sl .jE [])]:=by
 refine⟨fun args w=>call199 args w,fun w us _ ha=> ?_⟩
 match us,ha with
 | [u1,u2],⟨⟨_,e1⟩,⟨_,e2⟩,_⟩=>
   obtain⟨e1,_⟩:=e1
   obtain⟨e2,_⟩:=e2
   rw[e1,e2]
   exact afh w n h1
end
end Go.Proofs.YtaalpcnbbldlaaaGreatDoor.G
