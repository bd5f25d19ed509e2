/-
  Audits of a world.
-/
import Derived.Test.YtjcojocjlglglaaGreatZReadPhaseM8
import Derived.ProofKit
import Derived.Lib.AppendZeros
import Derived.Test.YtjcojocjlglglaaGreatZReadPhaseM7
namespace Go.Proofs.YtjcojocjlglglaaGreat.G
set_option linter.all false
open Go.RowKit L D
set_option maxRecDepth 100000
theorem Hr{w w':World}{t:Tag}{g n:Nat}{c:Array Value}(hg:g=w.heap.size)(hb:Below w.heap.size w w')(hc:w'.heap[g]? =some (.cells c (ty t) (0,0)))(hs:c.size=n*kk t)(hn:n≤maxLen):
  Mp ty w [.a (.sl t [])] (.returned (.slice (some ⟨g,0,none⟩) 0 n)) w':=by
 have hown:Own w.heap.size w' (g::([]:List (List Nat)).flatten):=⟨by simp,fun b Ay=>by simp at Ay;omega,fun b Ay=>by simp at Ay;subst Ay;exact⟨_,_,hc⟩⟩
 have hp:Part (kk t) (rd t) w.heap.size (ty t) w' g n ([]:List (T t)) []:=⟨⟨c,hc,hs⟩,⟨rfl,by simp⟩,hown,hn⟩
 have hB:=Part.Ek (cY t) hp (Nat.zero_le _)
 exact⟨_,_,rfl,hb,hown,_,[],hB,rfl,by simp⟩
theorem Jx{w:World}{t:Tag}:Mp ty w [.a (.sl t [])] (.returned yM) w:=by
 refine⟨_,[],rfl,Below.refl _ _,Own.nil _ _,[],[],⟨[],[],?_,rfl,by simp,rfl,Own.nil _ _⟩,rfl,rfl⟩
 exact⟨by simp,Or.inl ⟨rfl,rfl⟩⟩
theorem Hs(w:World)(n:Nat)(h1:n≤1099511627776):Calls Tryz.prog 358 #[yM, .int .i64 n] w (Mp ty w [.a (.sl .int [])]):=by
 have nX:El Tryz.prog ty .int:=bS _ (by decide)
 cases hq:Tryz.prog.info? (ty .int)with
 |none=>simp[El,hq]at nX
 |some inf=>
  simp[El,hq]at nX
  obtain⟨z1,z2,z3⟩:=nX
  by_cases h0:n=0
  ·subst h0
   go_enter Tryz.func358,Tryz.ntmps358
   go_wp2
   go_ret
   exact Jx
  ·have hsz:inf.size=1:=z2
   have hby:inf.bytes≤8:=by rw[z3];decide
   have hmul:n*inf.bytes≤8796093022208:=Nat.le_trans (Nat.mul_le_mul (show n≤1099511627776 from h1) hby) (by decide)
   have hrun:=Lib.run_append_nil_zeros (P:=Tryz.prog) w 27 3 27 (ty .int) inf (cT .int) .i64 .i64 (X.kind 27).1 (X.kind 3) hq z1 n (by omega) (by omega) (by omega) (by omega)
   have hge:=grownCap_ge w n 0 (ty .int)
   have JS:=grownCap_le_maxLen w n 0 (ty .int) (by unfold maxLen;omega)
   generalize grownCap w n 0 (ty .int)=g at hrun hge JS
   go_enter Tryz.func358,Tryz.ntmps358
   go_wp2_with (at_builtin;refine Lib.wpList_append_run _ rfl _ _ _ _ rfl _ _ rfl rfl _ _ hrun ?_)
   go_ret
   refine Hr (t:= .int) rfl ((Below.refl _ _).drew.alloc (Nat.le_refl _) _) (jU rfl) ?_ JS
   rw[Array.size_append,size_zeroCells,size_zeroCells, ←Nat.add_mul,show n+(g-n)=g by omega]
   rfl
theorem lM(n:Nat)(h1:n≤1099511627776):Sound ty Tryz.prog 358 [.a (.lit yM), .a (.lit (.int .i64 n))] [.a (.sl .int [])]:=by
 refine⟨fun args w=>Tryz.call358 args w,fun w us _ ha=> ?_⟩
 match us,ha with
 | [u1,u2],⟨⟨_,e1⟩,⟨_,e2⟩,_⟩=>
   obtain⟨e1,_⟩:=e1
   obtain⟨e2,_⟩:=e2
   rw[e1,e2]
   exact Hs w n h1
end Go.Proofs.YtjcojocjlglglaaGreat.G
namespace Go.Proofs.YtjcojocjlglglaaGreat.G
set_option linter.all false
open Go.RowKit L D
set_option maxRecDepth 100000
theorem aK(x lo hi:Int):Sound ty Tryz.prog 97 [.a (.lit (.int .i64 x)), .a (.lit (.int .i64 lo)), .a (.lit (.int .i64 hi))] [.a (.lit (.bool (inr x lo hi)))]:=by
 refine Sound.of X Tryz.call97 Tryz.func97 rfl rfl (by decide) Tryz.ntmps97 (by simp) ?_
 intro zb
 refine W.seq ?_
 refine W.af X [] [] [0,1,2] [] rfl ⟨⟩ ?_
 refine W.seq ?_
 refine W.af X [] [] [6] [] rfl ⟨⟩ ?_
 refine W.ret ?_
 exact Fin.ret rfl ⟨rfl,⟨⟩⟩
theorem aX(x lo hi:Int):Sound ty Tryz.prog 108 [.a (.lit (.int .i64 x)), .a (.lit (.int .i64 lo)), .a (.lit (.int .i64 hi))] [.a (.lit (.bool (inr x lo hi)))]:=by
 refine Sound.of X Tryz.call108 Tryz.func108 rfl rfl (by decide) Tryz.ntmps108 (by simp) ?_
 intro zb
 refine W.seq ?_
 refine W.af X [] [] [0,1,2] [] rfl ⟨⟩ ?_
 refine W.seq ?_
 refine W.af X [] [] [6] [] rfl ⟨⟩ ?_
 refine W.ret ?_
 exact Fin.ret rfl ⟨rfl,⟨⟩⟩
theorem CF(p q:Int)(h1:1≤q)(h2:q≤1000000000000):Sound ty Tryz.prog 357 [.a (.lit (.int .i64 p)), .a (.lit (.int .i64 q))] [.a (.lit (.int .i64 (p % q)))]:=by
 refine Sound.of X Tryz.call357 Tryz.func357 rfl rfl (by decide) Tryz.ntmps357 (by simp) ?_
 intro zb
 refine W.seq ?_
 refine W.af X [] [] [0,1] [] rfl ⟨⟩ ?_
 refine W.seq ?_
 refine W.seq ?_
 refine W.af X [] [(6,⟨false,[.a (.lit (.bool _))]⟩)] [0,1,7] [] rfl (by(repeat' (first|with_reducible exact ak.nil|with_reducible refine ak.mk ?_ ?_|with_reducible apply And.intro))<;>skip;(iterate 1 (all_goals try (first|exact(aK _ _ _))))) ?_
 refine W.cond rfl (fun hb0=> ?_) (fun hb0=> ?_)
 ·try simp only[nb,an,av,aa]at hb0
  omega
 ·try simp only[nb,an,av,aa]at hb0
  refine W.skip ?_
  refine W.seq ?_
  refine W.af X [] [] [4] [] rfl (by(repeat' (first|exact True.intro|apply And.intro))<;>first| (intros;omega)) ?_
  refine W.ret ?_
  exact Fin.ret rfl ⟨by rw[md_eq p q h1 h2],⟨⟩⟩
theorem A6(l:List Int)(hl:l.length≤16777216):Sound ty Tryz.prog 293 [.a (.sl .int l)] [.a (.lit (.int .i64 (hsh l)))]:=by
 refine Sound.of X Tryz.call293 Tryz.func293 rfl rfl (by decide) Tryz.ntmps293 (by simp) ?_
 intro zb
 refine W.seq ?_
 refine W.af X [] [] [0] [] rfl ⟨⟩ ?_
 refine W.seq ?_
 refine W.af X [] [] [0,3] [] rfl ⟨⟩ ?_
 refine W.seq ?_
 refine W.seq ?_
 refine W.af X [] [] [3,6,7,8] [] rfl ⟨⟩ ?_
 refine W.block ?_
 refine W.aP (fun k=>k≤l.length) (fun k:Nat=> [(3, .one (.a (.lit (.int .i64 (hsh (l.take k)))))),(8, .one (.a (.lit (.int .i64 k))))]) (fun k=> []) (fun k=>l.length-k) 0 (fun k=>rfl) (Nat.zero_le _) rfl ?_
 intro k hk
 refine W.seq ?_
 refine W.af X [] [] [3,6,7,8,9] [] rfl ⟨⟩ ?_
 refine W.seq ?_
 refine W.cond rfl (fun hb0=> ?_) (fun hb0=> ?_)
 ·try simp only[nb,an,av,aa]at hb0
  have hs:=A1 l k hb0
  refine W.skip ?_
  refine W.seq ?_
  refine W.block ?_
  refine W.seq ?_
  refine W.af X [] [] [3,5,6,7,8] [] rfl (by(repeat' (first|exact True.intro|apply And.intro))<;>first| (intros;omega)) ?_
  refine W.af X [] [(15,⟨false,[.a (.lit (.int .i64 _))]⟩)] [3,6,7,8] [] rfl (by(repeat' (first|with_reducible exact ak.nil|with_reducible refine ak.mk ?_ ?_|with_reducible apply And.intro))<;>skip;(iterate 1 (all_goals try (first|exact(CF _ _ (by first|assumption|omega| (simp;done)| (simp;omega)) (by first|assumption|omega| (simp;done)| (simp;omega))))));all_goals (first| (intros;omega))) ?_
  refine W.af X [] [] [3,6,7,8] [] rfl ⟨⟩ ?_
  refine⟨k+1,by omega,by omega,?_⟩
  rw[bn _ k rfl (by omega),hs]
  try rfl
 ·try simp only[nb,an,av,aa]at hb0
  refine W.exit ?_
  refine W.seq ?_
  refine W.af X [] [] [2] [] rfl ⟨⟩ ?_
  refine W.ret ?_
  exact Fin.ret rfl ⟨by rw[List.take_of_length_le hb0],⟨⟩⟩
theorem vR(p q:Int)(h1:1≤q)(h2:q≤1000000000000):Sound ty Tryz.prog 322 [.a (.lit (.int .i64 p)), .a (.lit (.int .i64 q))] [.a (.lit (.int .i64 (p % q)))]:=by
 refine Sound.of X Tryz.call322 Tryz.func322 rfl rfl (by decide) Tryz.ntmps322 (by simp) ?_
 intro zb
 refine W.seq ?_
 refine W.af X [] [] [0,1] [] rfl ⟨⟩ ?_
 refine W.seq ?_
 refine W.seq ?_
 refine W.af X [] [(6,⟨false,[.a (.lit (.bool _))]⟩)] [0,1,7] [] rfl (by(repeat' (first|with_reducible exact ak.nil|with_reducible refine ak.mk ?_ ?_|with_reducible apply And.intro))<;>skip;(iterate 1 (all_goals try (first|exact(aX _ _ _))))) ?_
 refine W.cond rfl (fun hb0=> ?_) (fun hb0=> ?_)
 ·try simp only[nb,an,av,aa]at hb0
  omega
 ·try simp only[nb,an,av,aa]at hb0
  refine W.skip ?_
  refine W.seq ?_
  refine W.af X [] [] [4] [] rfl (by(repeat' (first|exact True.intro|apply And.intro))<;>first| (intros;omega)) ?_
  refine W.ret ?_
  exact Fin.ret rfl ⟨by rw[md_eq p q h1 h2],⟨⟩⟩
theorem A7(l:List Int)(hl:l.length≤16777216):Sound ty Tryz.prog 247 [.a (.sl .int l)] [.a (.lit (.int .i64 (hsh l)))]:=by
 refine Sound.of X Tryz.call247 Tryz.func247 rfl rfl (by decide) Tryz.ntmps247 (by simp) ?_
 intro zb
 refine W.seq ?_
 refine W.af X [] [] [0] [] rfl ⟨⟩ ?_
 refine W.seq ?_
 refine W.af X [] [] [0,3] [] rfl ⟨⟩ ?_
 refine W.seq ?_
 refine W.seq ?_
 refine W.af X [] [] [0,3,4] [] rfl ⟨⟩ ?_
 refine W.block ?_
 refine W.aP (fun k=>k≤l.length) (fun k:Nat=> [(3, .one (.a (.lit (.int .i64 (hsh (l.take k)))))),(4, .one (.a (.lit (.int .i64 k))))]) (fun k=> []) (fun k=>l.length-k) 0 (fun k=>rfl) (Nat.zero_le _) rfl ?_
 intro k hk
 refine W.seq ?_
 refine W.seq ?_
 refine W.af X [] [] [0,3,4,8] [] rfl ⟨⟩ ?_
 refine W.cond rfl (fun hb0=> ?_) (fun hb0=> ?_)
 ·try simp only[nb,an,av,aa]at hb0
  have hs:=A1 l k hb0
  refine W.skip ?_
  refine W.seq ?_
  refine W.block ?_
  refine W.af X [] [(17,⟨false,[.a (.lit (.int .i64 _))]⟩)] [0,3,4] [] rfl (by(repeat' (first|with_reducible exact ak.nil|with_reducible refine ak.mk ?_ ?_|with_reducible apply And.intro))<;>skip;(iterate 1 (all_goals try (first|exact(vR _ _ (by first|assumption|omega| (simp;done)| (simp;omega)) (by first|assumption|omega| (simp;done)| (simp;omega))))));all_goals (first| (intros;omega))) ?_
  refine W.af X [] [] [0,3,4] [] rfl ⟨⟩ ?_
  refine⟨k+1,by omega,by omega,?_⟩
  rw[bn _ k rfl (by omega),hs]
  try rfl
 ·try simp only[nb,an,av,aa]at hb0
  refine W.exit ?_
  refine W.seq ?_
  refine W.af X [] [] [2] [] rfl ⟨⟩ ?_
  refine W.ret ?_
  exact Fin.ret rfl ⟨by rw[List.take_of_length_le hb0],⟨⟩⟩
theorem fU(l:List (List Int))(hl:l.length≤1048576)(hs0:(l.map List.length).sum≤1099511627776):Sound ty Tryz.prog 294 [.a (.sl (.sl .int) l)] [.a (.sl .int l.flatten)]:=by
 refine Sound.of X Tryz.call294 Tryz.func294 rfl rfl (by decide) Tryz.ntmps294 (by simp) ?_
 intro zb
 refine W.seq ?_
 refine W.af X [] [] [0] [] rfl ⟨⟩ ?_
 refine W.seq ?_
 refine W.af X [] [] [0,3] [] rfl ⟨⟩ ?_
 refine W.seq ?_
 refine W.seq ?_
 refine W.af X [] [] [0,3,9,10,11] [] rfl ⟨⟩ ?_
 refine W.block ?_
 refine W.aP (fun k=>k≤l.length) (fun k:Nat=> [(3, .one (.a (.lit (.int .i64 ((l.take k).map List.length).sum)))),(11, .one (.a (.lit (.int .i64 k))))]) (fun k=> []) (fun k=>l.length-k) 0 (fun k=>rfl) (Nat.zero_le _) rfl ?_
 intro k hk
 have hle:=cM l List.length k
 refine W.seq ?_
 refine W.af X [] [] [0,3,9,10,11,12] [] rfl ⟨⟩ ?_
 refine W.seq ?_
 refine W.cond rfl (fun hb0=> ?_) (fun hb0=> ?_)
 ·try simp only[nb,an,av,aa]at hb0
  have hs:=A3 l (au (.sl .int)) k hb0
  have Lx:=cM l List.length (k+1)
  rw[hs]at Lx
  refine W.skip ?_
  refine W.seq ?_
  refine W.block ?_
  refine W.seq ?_
  refine W.af X [] [] [0,3,5,9,10,11] [] rfl (by(repeat' (first|exact True.intro|apply And.intro))<;>first| (intros;omega)) ?_
  refine W.seq ?_
  refine W.af X [] [] [0,3,9,10,11] [] rfl (by(repeat' (first|exact True.intro|apply And.intro))) ?_
  refine W.seq ?_
  refine W.af X [] [] [0,3,9,10,11,20] [] rfl ⟨⟩ ?_
  refine W.cond rfl (fun aH=> ?_) (fun aH=> ?_)
  ·try simp only[nb,an,av,aa]at aH
   rw[bZ (by omega)]at aH
   omega
  ·try simp only[nb,an,av,aa]at aH
   refine W.skip ?_
   refine W.af X [] [] [0,3,9,10,11] [] rfl ⟨⟩ ?_
   refine⟨k+1,by omega,by omega,?_⟩
   rw[bn _ k rfl (by omega),hs]
   rw[bZ (by simp only[Int.toNat_natCast];omega)]
   try rfl
 ·try simp only[nb,an,av,aa]at hb0
  rw[List.take_of_length_le hb0]
  refine W.exit ?_
  refine W.seq ?_
  refine W.af X [] [(24,⟨true,[.a (.sl .int [])]⟩),(300024,⟨true,[]⟩)] [0,6] [] rfl (by(repeat' (first|with_reducible exact ak.nil|with_reducible refine ak.mk ?_ ?_|with_reducible apply And.intro))<;>skip;(iterate 1 (all_goals try (first|exact(lM _ hs0))))) ?_
  refine W.seq ?_
  refine W.seq ?_
  refine W.af X [] [] [6,25,26,27] [] rfl ⟨⟩ ?_
  refine W.block ?_
  refine W.aP (fun k1=>k1≤l.length) (fun k1:Nat=> [(27, .one (.a (.lit (.int .i64 k1))))]) (fun k1=> [(24, .arr .int (l.take k1).flatten)]) (fun k1=>l.length-k1) 0 (fun k1=>rfl) (Nat.zero_le _) rfl ?_
  intro k1 hk1
  have OP:=sR l k1
  refine W.seq ?_
  refine W.af X [] [] [6,25,26,27,28] [] rfl ⟨⟩ ?_
  refine W.seq ?_
  refine W.cond rfl (fun bk=> ?_) (fun bk=> ?_)
  ·try simp only[nb,an,av,aa]at bk
   have hs1:=zD l (au (.sl .int)) k1 bk
   have Lx:=sR l (k1+1)
   rw[hs1,List.length_append]at Lx
   refine W.skip ?_
   refine W.seq ?_
   refine W.block ?_
   refine W.seq ?_
   refine W.af X [] [] [6,8,25,26,27] [] rfl (by(repeat' (first|exact True.intro|apply And.intro))<;>first| (intros;omega)) ?_
   refine W.af X [(33,24)] [] [6,25,26,27] [] rfl (by(repeat' (first|exact True.intro|apply And.intro))<;>first|exact rfl| (simp only[cE,maxLen,lens];omega)) ?_
   refine W.af X [] [] [6,25,26,27] [] rfl ⟨⟩ ?_
   refine⟨k1+1,by omega,by omega,?_⟩
   rw[bn _ k1 rfl (by omega),hs1]
   try rfl
  ·try simp only[nb,an,av,aa]at bk
   refine W.exit ?_
   refine W.seq ?_
   refine W.af X [] [] [2] [] rfl ⟨⟩ ?_
   refine W.ret ?_
   exact Fin.ret rfl ⟨by rw[List.take_of_length_le bk],⟨⟩⟩
theorem bB(k:Int)(l:List Int)(hl:l.length≤1048576):Sound ty Tryz.prog 197 [.a (.lit (.int .i64 k)), .a (.sl .int l)] [.a (.lit (.int .i64 (kh k l)))]:=by
 refine Sound.of X Tryz.call197 Tryz.func197 rfl rfl (by decide) Tryz.ntmps197 (by simp) ?_
 intro zb
 refine W.seq ?_
 refine W.af X [] [] [0,1] [] rfl ⟨⟩ ?_
 refine W.seq ?_
 refine W.af X [] [(11,⟨true,[.a (.sl .int [[k],l,[k]].flatten)]⟩),(12,⟨false,[.a (.lit (.int .i64 (hsh [[k],l,[k]].flatten)))]⟩)] [4] [] rfl (by(repeat' (first|with_reducible exact ak.nil|with_reducible refine ak.mk ?_ ?_|with_reducible apply And.intro))<;>skip;(iterate 2 (all_goals try (first|exact(fU _ (by simp) (by simp;omega))|exact(A6 _ (by simp;omega)))));all_goals (first|exact rfl|exact⟨rfl,bS _ (by decide)⟩)) ?_
 refine W.ret ?_
 exact Fin.ret rfl ⟨rfl,⟨⟩⟩
theorem bC(k:Int)(l:List Int)(hl:l.length≤1048576):Sound ty Tryz.prog 148 [.a (.lit (.int .i64 k)), .a (.sl .int l)] [.a (.lit (.int .i64 (kh k l)))]:=by
 refine Sound.of X Tryz.call148 Tryz.func148 rfl rfl (by decide) Tryz.ntmps148 (by simp) ?_
 intro zb
 refine W.seq ?_
 refine W.af X [] [] [0,1] [] rfl ⟨⟩ ?_
 refine W.seq ?_
 refine W.af X [(8,6),(11,6)] [(12,⟨false,[.a (.lit (.int .i64 (hsh ([k]++l++ [k]))))]⟩)] [4] [] rfl (by(repeat' (first|with_reducible exact ak.nil|with_reducible refine ak.mk ?_ ?_|with_reducible apply And.intro))<;>skip;(iterate 1 (all_goals try (first|exact(A7 _ (by simp;omega)))));all_goals (first|exact rfl|exact⟨rfl,bS _ (by decide)⟩| (simp only[cE,maxLen,lens];omega))) ?_
 refine W.ret ?_
 exact Fin.ret rfl ⟨rfl,⟨⟩⟩
theorem lz(n:Int):Sound ty Tryz.prog 268 [.a (.lit (.int .i64 n))] [.a (.lit (.int .i64 (Ie n)))]:=by
 refine Sound.of X Tryz.call268 Tryz.func268 rfl rfl (by decide) Tryz.ntmps268 (by simp) ?_
 intro zb
 refine W.seq ?_
 refine W.af X [] [] [0] [] rfl ⟨⟩ ?_
 refine W.seq ?_
 refine W.seq ?_
 refine W.af X [] [] [0,4] [] rfl ⟨⟩ ?_
 refine W.cond rfl (fun hb0=> ?_) (fun hb0=> ?_)
 ·try simp only[nb,an,av,aa]at hb0
  refine W.seq ?_
  refine W.af X [] [] [2] [] rfl ⟨⟩ ?_
  refine W.ret ?_
  exact Fin.ret rfl ⟨by rw[Ie,if_pos hb0],⟨⟩⟩
 ·try simp only[nb,an,av,aa]at hb0
  refine W.skip ?_
  refine W.seq ?_
  refine W.af X [] [] [2] [] rfl ⟨⟩ ?_
  refine W.ret ?_
  exact Fin.ret rfl ⟨by rw[Ie,if_neg (by simpa using hb0)],⟨⟩⟩
theorem oO(a b:Int):Sound ty Tryz.prog 100 [.a (.lit (.int .i64 a)), .a (.lit (.int .i64 b))] [.a (.lit (.int .i64 (if b>a then b else a)))]:=by
 refine Sound.of X Tryz.call100 Tryz.func100 rfl rfl (by decide) Tryz.ntmps100 (by simp) ?_
 intro zb
 refine W.seq ?_
 refine W.af X [] [] [0,1] [] rfl ⟨⟩ ?_
 refine W.seq ?_
 refine W.seq ?_
 refine W.af X [] [] [0,1,7] [] rfl ⟨⟩ ?_
 refine W.cond rfl (fun hb0=> ?_) (fun hb0=> ?_)
 ·try simp only[nb,an,av,aa]at hb0
  refine W.seq ?_
  refine W.af X [] [] [4] [] rfl ⟨⟩ ?_
  refine W.ret ?_
  exact Fin.ret rfl ⟨by rw[if_pos (by omega)],⟨⟩⟩
 ·try simp only[nb,an,av,aa]at hb0
  refine W.skip ?_
  refine W.seq ?_
  refine W.af X [] [] [4] [] rfl ⟨⟩ ?_
  refine W.ret ?_
  exact Fin.ret rfl ⟨by rw[if_neg (by omega)],⟨⟩⟩
theorem ke(s k:Int):Sound ty Tryz.prog 265 [.a (.lit (.int .i64 s)), .a (.lit (.int .i64 k))] [.a (.lit (.int .i64 (cs s k)))]:=by
 refine Sound.of X Tryz.call265 Tryz.func265 rfl rfl (by decide) Tryz.ntmps265 (by simp) ?_
 intro zb
 refine W.seq ?_
 refine W.af X [] [] [0,1] [] rfl ⟨⟩ ?_
 refine W.seq ?_
 refine W.af X [] [(9,⟨false,[.a (.lit (.int .i64 _))]⟩)] [5] [] rfl (by(repeat' (first|with_reducible exact ak.nil|with_reducible refine ak.mk ?_ ?_|with_reducible apply And.intro))<;>skip;(iterate 1 (all_goals try (first|exact(bB _ _ (by first|assumption|omega| (simp;done)| (simp;omega))))));all_goals (first|exact⟨rfl,bS _ (by decide)⟩)) ?_
 refine W.seq ?_
 refine W.af X [] [] [4] [] rfl (by(repeat' (first|exact True.intro|apply And.intro))<;>first| (intros;omega)) ?_
 refine W.ret ?_
 exact Fin.ret rfl ⟨by rw[cs_eq (dm _ _).1 (dm _ _).2];rfl,⟨⟩⟩
theorem oP(s n:Int)(h0:0≤n)(h1:n≤400):Sound ty Tryz.prog 312 [.a (.lit (.int .i64 s)), .a (.lit (.int .i64 n))] [.a (.sl .u8 (stream s n.toNat))]:=by
 refine Sound.of X Tryz.call312 Tryz.func312 rfl rfl (by decide) Tryz.ntmps312 (by simp) ?_
 intro zb
 refine W.seq ?_
 refine W.af X [] [] [0,1] [] rfl ⟨⟩ ?_
 refine W.seq ?_
 refine W.seq ?_
 refine W.af X [] [(8,⟨false,[.a (.lit (.bool _))]⟩)] [0,1,9] [] rfl (by(repeat' (first|with_reducible exact ak.nil|with_reducible refine ak.mk ?_ ?_|with_reducible apply And.intro))<;>skip;(iterate 1 (all_goals try (first|exact(aK _ _ _))))) ?_
 refine W.cond rfl (fun hb0=> ?_) (fun hb0=> ?_)
 ·try simp only[nb,an,av,aa]at hb0
  omega
 ·try simp only[nb,an,av,aa]at hb0
  refine W.skip ?_
  refine W.seq ?_
  refine W.af X [] [] [0,1,5] [] rfl (by(repeat' (first|exact True.intro|apply And.intro))<;>first|exact rfl) ?_
  refine W.seq ?_
  refine W.seq ?_
  refine W.af X [] [] [0,5,11,12] [] rfl ⟨⟩ ?_
  refine W.block ?_
  refine W.aP (fun k=>k≤n.toNat) (fun k:Nat=> [(12, .one (.a (.lit (.int .i64 k))))]) (fun k=> [(10, .arr .u8 (stream s k))]) (fun k=>n.toNat-k) 0 (fun k=>rfl) (Nat.zero_le _) rfl ?_
  intro k hk
  have hle:=gE s k
  refine W.seq ?_
  refine W.af X [] [] [0,5,11,12,13] [] rfl ⟨⟩ ?_
  refine W.seq ?_
  refine W.cond rfl (fun aH=> ?_) (fun aH=> ?_)
  ·try simp only[nb,an,av,aa]at aH
   have hs:=sQ s k (by omega)
   refine W.skip ?_
   refine W.seq ?_
   refine W.block ?_
   refine W.seq ?_
   refine W.af X [] [] [0,5,6,11,12] [] rfl ⟨⟩ ?_
   refine W.af X [(23,10)] [(19,⟨false,[.a (.lit (.int .i64 _))]⟩)] [0,5,11,12] [] rfl (by(repeat' (first|with_reducible exact ak.nil|with_reducible refine ak.mk ?_ ?_|with_reducible apply And.intro))<;>skip;(iterate 1 (all_goals try (first|exact(ke _ _))));all_goals (first| (intros;omega)|exact rfl|exact⟨rfl,bS _ (by decide)⟩|exact(mE _).1|exact(mE _).2| (simp only[cE,maxLen,lens];omega))) ?_
   refine W.af X [] [] [0,5,11,12] [] rfl ⟨⟩ ?_
   refine⟨k+1,by omega,by omega,?_⟩
   rw[bn _ k rfl (by omega),hs]
   try rfl
  ·try simp only[nb,an,av,aa]at aH
   refine W.exit ?_
   refine W.seq ?_
   refine W.af X [] [] [4] [] rfl ⟨⟩ ?_
   refine W.ret ?_
   exact Fin.ret rfl ⟨by rw[show k=n.toNat by omega],⟨⟩⟩
theorem oQ(l:List UInt8)(hl:l.length≤1048576):Sound ty Tryz.prog 367 [.a (.sl .u8 l)] [.a (.sl .int (ES l))]:=by
 refine Sound.of X Tryz.call367 Tryz.func367 rfl rfl (by decide) Tryz.ntmps367 (by simp) ?_
 intro zb
 refine W.seq ?_
 refine W.af X [] [] [0] [] rfl ⟨⟩ ?_
 refine W.seq ?_
 refine W.af X [] [] [0,3] [] rfl (by(repeat' (first|exact True.intro|apply And.intro))<;>first|exact rfl) ?_
 refine W.seq ?_
 refine W.seq ?_
 refine W.af X [] [] [3,9,10,11] [] rfl ⟨⟩ ?_
 refine W.block ?_
 refine W.aP (fun k=>k≤l.length) (fun k:Nat=> [(11, .one (.a (.lit (.int .i64 k))))]) (fun k=> [(8, .arr .int ((l.length:Int)::(l.take k).map (fun c=>(c.toNat:Int))))]) (fun k=>l.length-k) 0 (fun k=>rfl) (Nat.zero_le _) rfl ?_
 intro k hk
 refine W.seq ?_
 refine W.af X [] [] [3,9,10,11,12] [] rfl ⟨⟩ ?_
 refine W.seq ?_
 refine W.cond rfl (fun hb0=> ?_) (fun hb0=> ?_)
 ·try simp only[nb,an,av,aa]at hb0
  have hs:=A2 l k hb0
  refine W.skip ?_
  refine W.seq ?_
  refine W.block ?_
  refine W.seq ?_
  refine W.af X [] [] [3,5,9,10,11] [] rfl (by(repeat' (first|exact True.intro|apply And.intro))<;>first| (intros;omega)) ?_
  refine W.af X [(19,8)] [] [3,9,10,11] [] rfl (by(repeat' (first|exact True.intro|apply And.intro))<;>first|exact rfl| (simp only[cE,maxLen,lens];omega)) ?_
  refine W.af X [] [] [3,9,10,11] [] rfl ⟨⟩ ?_
  refine⟨k+1,by omega,by omega,?_⟩
  rw[bn _ k rfl (by omega),hs]
  try rfl
 ·try simp only[nb,an,av,aa]at hb0
  refine W.exit ?_
  refine W.seq ?_
  refine W.af X [] [] [2] [] rfl ⟨⟩ ?_
  refine W.ret ?_
  exact Fin.ret rfl ⟨by rw[List.take_of_length_le hb0];rfl,⟨⟩⟩
theorem kf(s k:Int):Sound ty Tryz.prog 246 [.a (.lit (.int .i64 s)), .a (.lit (.int .i64 k))] [.a (.lit (.int .i64 (cs s k)))]:=by
 refine Sound.of X Tryz.call246 Tryz.func246 rfl rfl (by decide) Tryz.ntmps246 (by simp) ?_
 intro zb
 refine W.seq ?_
 refine W.af X [] [] [0,1] [] rfl ⟨⟩ ?_
 refine W.seq ?_
 refine W.af X [] [(9,⟨false,[.a (.lit (.int .i64 _))]⟩)] [5] [] rfl (by(repeat' (first|with_reducible exact ak.nil|with_reducible refine ak.mk ?_ ?_|with_reducible apply And.intro))<;>skip;(iterate 1 (all_goals try (first|exact(bC _ _ (by first|assumption|omega| (simp;done)| (simp;omega))))));all_goals (first|exact⟨rfl,bS _ (by decide)⟩)) ?_
 refine W.seq ?_
 refine W.af X [] [] [4] [] rfl (by(repeat' (first|exact True.intro|apply And.intro))<;>first| (intros;omega)) ?_
 refine W.ret ?_
 exact Fin.ret rfl ⟨by rw[cs_eq (dm _ _).1 (dm _ _).2];rfl,⟨⟩⟩
theorem oR(s n:Int)(h0:0≤n)(h1:n≤400):Sound ty Tryz.prog 308 [.a (.lit (.int .i64 s)), .a (.lit (.int .i64 n))] [.a (.sl .u8 (stream s n.toNat))]:=by
 refine Sound.of X Tryz.call308 Tryz.func308 rfl rfl (by decide) Tryz.ntmps308 (by simp) ?_
 intro zb
 refine W.seq ?_
 refine W.af X [] [] [0,1] [] rfl ⟨⟩ ?_
 refine W.seq ?_
 refine W.af X [] [] [0,1,5] [] rfl (by(repeat' (first|exact True.intro|apply And.intro))<;>first|exact rfl) ?_
 refine W.seq ?_
 refine W.seq ?_
 refine W.af X [] [] [0,1,5,6] [] rfl ⟨⟩ ?_
 refine W.block ?_
 refine W.aP (fun k=>k≤n.toNat) (fun k:Nat=> [(6, .one (.a (.lit (.int .i64 k))))]) (fun k=> [(7, .arr .u8 (stream s k))]) (fun k=>n.toNat-k) 0 (fun k=>rfl) (Nat.zero_le _) rfl ?_
 intro k hk
 have hle:=gE s k
 refine W.seq ?_
 refine W.seq ?_
 refine W.af X [] [] [0,1,5,6,14] [] rfl ⟨⟩ ?_
 refine W.cond rfl (fun hb0=> ?_) (fun hb0=> ?_)
 ·try simp only[nb,an,av,aa]at hb0
  have hs:=sQ s k (by omega)
  refine W.skip ?_
  refine W.seq ?_
  refine W.block ?_
  refine W.af X [(25,7)] [(21,⟨false,[.a (.lit (.int .i64 _))]⟩)] [0,1,5,6] [] rfl (by(repeat' (first|with_reducible exact ak.nil|with_reducible refine ak.mk ?_ ?_|with_reducible apply And.intro))<;>skip;(iterate 1 (all_goals try (first|exact(kf _ _))));all_goals (first| (intros;omega)|exact rfl|exact⟨rfl,bS _ (by decide)⟩|exact(mE _).1|exact(mE _).2| (simp only[cE,maxLen,lens];omega))) ?_
  refine W.af X [] [] [0,1,5,6] [] rfl ⟨⟩ ?_
  refine⟨k+1,by omega,by omega,?_⟩
  rw[bn _ k rfl (by omega),hs]
  try rfl
 ·try simp only[nb,an,av,aa]at hb0
  refine W.exit ?_
  refine W.seq ?_
  refine W.af X [] [] [4] [] rfl ⟨⟩ ?_
  refine W.ret ?_
  exact Fin.ret rfl ⟨by rw[show k=n.toNat by omega],⟨⟩⟩
theorem oS(l:List UInt8)(hl:l.length≤1048576):Sound ty Tryz.prog 324 [.a (.sl .u8 l)] [.a (.sl .int (ES l))]:=by
 refine Sound.of X Tryz.call324 Tryz.func324 rfl rfl (by decide) Tryz.ntmps324 (by simp) ?_
 intro zb
 refine W.seq ?_
 refine W.af X [] [] [0] [] rfl ⟨⟩ ?_
 refine W.seq ?_
 refine W.af X [] [] [0,3] [] rfl (by(repeat' (first|exact True.intro|apply And.intro))<;>first|exact rfl) ?_
 refine W.seq ?_
 refine W.seq ?_
 refine W.af X [] [] [0,3,4] [] rfl ⟨⟩ ?_
 refine W.block ?_
 refine W.aP (fun k=>k≤l.length) (fun k:Nat=> [(4, .one (.a (.lit (.int .i64 k))))]) (fun k=> [(7, .arr .int ((l.length:Int)::(l.take k).map (fun c=>(c.toNat:Int))))]) (fun k=>l.length-k) 0 (fun k=>rfl) (Nat.zero_le _) rfl ?_
 intro k hk
 refine W.seq ?_
 refine W.seq ?_
 refine W.af X [] [] [0,3,4,11] [] rfl ⟨⟩ ?_
 refine W.cond rfl (fun hb0=> ?_) (fun hb0=> ?_)
 ·try simp only[nb,an,av,aa]at hb0
  have hs:=A2 l k hb0
  refine W.skip ?_
  refine W.seq ?_
  refine W.block ?_
  refine W.af X [(21,7)] [] [0,3,4] [] rfl (by(repeat' (first|exact True.intro|apply And.intro))<;>first| (intros;omega)|exact rfl| (simp only[cE,maxLen,lens];omega)) ?_
  refine W.af X [] [] [0,3,4] [] rfl ⟨⟩ ?_
  refine⟨k+1,by omega,by omega,?_⟩
  rw[bn _ k rfl (by omega),hs]
  try rfl
 ·try simp only[nb,an,av,aa]at hb0
  refine W.exit ?_
  refine W.seq ?_
  refine W.af X [] [] [2] [] rfl ⟨⟩ ?_
  refine W.ret ?_
  exact Fin.ret rfl ⟨by rw[List.take_of_length_le hb0];rfl,⟨⟩⟩
end Go.Proofs.YtjcojocjlglglaaGreat.G
namespace Go.Proofs.YtjcojocjlglglaaGreat.G
set_option linter.all false
open Go.RowKit L D
set_option maxRecDepth 100000
theorem dU(l:List Int)(hl:l.length≤4194304):Sound ty Tryz.prog 163 [.a (.sl .int l)] [.a (.sl .int l)]:=by
 refine Sound.of X Tryz.call163 Tryz.func163 rfl rfl (by decide) Tryz.ntmps163 (by simp) ?_
 intro zb
 refine W.seq ?_
 refine W.af X [] [] [0] [] rfl ⟨⟩ ?_
 refine W.seq ?_
 refine W.seq ?_
 refine W.isNil X [] [] [0,4] rfl (by(repeat' (first|exact True.intro|apply And.intro))) (fun hn1=> ?_) ?_
 ·skip
  refine W.cond rfl (fun _=> ?_) (fun hb=>absurd hb (by decide))
  refine W.seq ?_
  refine W.af X [] [] [2] [] rfl ⟨⟩ ?_
  refine W.ret ?_
  exact Fin.ret rfl ⟨hn1,⟨⟩⟩
 ·skip
  refine W.cond rfl (fun hb=>absurd hb (by decide)) (fun _=> ?_)
  refine W.skip ?_
  refine W.seq ?_
  refine W.af X [(7,5)] [] [2] [] rfl (by(repeat' (first|exact True.intro|apply And.intro))<;>first|exact rfl| (simp only[cE,maxLen,lens];omega)) ?_
  refine W.ret ?_
  exact Fin.ret rfl ⟨rfl,⟨⟩⟩
theorem bI(l:List UInt8)(hl:l.length≤1048576):Sound ty Tryz.prog 341 [.a (.sl .u8 l)] [.a (.sl .u8 l)]:=by
 refine Sound.of X Tryz.call341 Tryz.func341 rfl rfl (by decide) Tryz.ntmps341 (by simp) ?_
 intro zb
 refine W.seq ?_
 refine W.af X [] [] [0] [] rfl ⟨⟩ ?_
 refine W.seq ?_
 refine W.seq ?_
 refine W.isNil X [] [] [0,4] rfl (by(repeat' (first|exact True.intro|apply And.intro))) (fun hn1=> ?_) ?_
 ·skip
  refine W.cond rfl (fun _=> ?_) (fun hb=>absurd hb (by decide))
  refine W.seq ?_
  refine W.af X [] [] [2] [] rfl ⟨⟩ ?_
  refine W.ret ?_
  exact Fin.ret rfl ⟨hn1,⟨⟩⟩
 ·skip
  refine W.cond rfl (fun hb=>absurd hb (by decide)) (fun _=> ?_)
  refine W.skip ?_
  refine W.seq ?_
  refine W.af X [(7,5)] [] [2] [] rfl (by(repeat' (first|exact True.intro|apply And.intro))<;>first|exact rfl| (simp only[cE,maxLen,lens];omega)) ?_
  refine W.ret ?_
  exact Fin.ret rfl ⟨rfl,⟨⟩⟩
theorem iw(a b:List UInt8)(ha:a.length≤1048576)(hb:b.length≤1048576):Sound ty Tryz.prog 318 [.a (.sl .u8 a), .a (.sl .u8 b)] [.a (.sl .u8 (cC a b))]:=by
 refine Sound.of X Tryz.call318 Tryz.func318 rfl rfl (by decide) Tryz.ntmps318 (by simp) ?_
 intro zb
 refine W.seq ?_
 refine W.af X [] [] [0,1] [] rfl ⟨⟩ ?_
 refine W.seq ?_
 refine W.seq ?_
 refine W.af X [] [] [0,1,12] [] rfl ⟨⟩ ?_
 refine W.cond rfl (fun hb0=> ?_) (fun hb0=> ?_)
 ·try simp only[nb,an,av,aa]at hb0
  rw[ya a b]
  have Hw:a.length≤b.length:=by omega
  obtain⟨p,hp⟩: ∃p,p=b:=⟨_,rfl⟩
  obtain⟨q,hq⟩: ∃q,q=a:=⟨_,rfl⟩
  subst hp;subst hq
  refine W.af X [] [] [0,1] [] rfl ⟨⟩ ?_
  refine W.seq ?_
  refine W.af X [] [(16,⟨true,[.a (.sl .u8 _)]⟩)] [1,5] [] rfl (by(repeat' (first|with_reducible exact ak.nil|with_reducible refine ak.mk ?_ ?_|with_reducible apply And.intro))<;>skip;(iterate 1 (all_goals try (first|exact(bI _ (by first|assumption|omega| (simp;done)| (simp;omega))))))) ?_
  refine W.seq ?_
  refine W.seq ?_
  refine W.af X [] [] [5,17,18,19] [] rfl ⟨⟩ ?_
  refine W.block ?_
  refine W.aP (fun k=>k≤q.length) (fun k:Nat=> [(19, .one (.a (.lit (.int .i64 k))))]) (fun k=> [(16, .arr .u8 ((cC p q).take k++p.drop k))]) (fun k=>q.length-k) 0 (fun k=>rfl) (Nat.zero_le _) rfl ?_
  intro k hk
  have hle:=j8 (cC p q) p k (by rw[cu];omega) (by omega)
  refine W.seq ?_
  refine W.af X [] [] [5,17,18,19,20] [] rfl ⟨⟩ ?_
  refine W.seq ?_
  refine W.cond rfl (fun aH=> ?_) (fun aH=> ?_)
  ·try simp only[nb,an,av,aa]at aH
   have hs:=Ba p q k aH Hw
   refine W.skip ?_
   refine W.seq ?_
   refine W.block ?_
   refine W.seq ?_
   refine W.af X [] [] [5,6,7,17,18,19] [] rfl (by(repeat' (first|exact True.intro|apply And.intro))<;>first| (intros;omega)) ?_
   refine W.af X [] [] [5,17,18,19] [] rfl (by(repeat' (first|exact True.intro|apply And.intro))<;>first| (intros;omega)|exact(mE _).1|exact(mE _).2) ?_
   refine W.af X [] [] [5,17,18,19] [] rfl ⟨⟩ ?_
   refine⟨k+1,by omega,by omega,?_⟩
   rw[bn _ k rfl (by omega),hs]
   try rfl
  ·try simp only[nb,an,av,aa]at aH
   refine W.exit ?_
   refine W.seq ?_
   refine W.af X [] [] [4] [] rfl ⟨⟩ ?_
   refine W.ret ?_
   exact Fin.ret rfl ⟨by rw[Bb p q k aH Hw hk],⟨⟩⟩
 ·try simp only[nb,an,av,aa]at hb0
  have Hw:b.length≤a.length:=by omega
  obtain⟨p,hp⟩: ∃p,p=a:=⟨_,rfl⟩
  obtain⟨q,hq⟩: ∃q,q=b:=⟨_,rfl⟩
  subst hp;subst hq
  refine W.skip ?_
  refine W.seq ?_
  refine W.af X [] [(16,⟨true,[.a (.sl .u8 _)]⟩)] [1,5] [] rfl (by(repeat' (first|with_reducible exact ak.nil|with_reducible refine ak.mk ?_ ?_|with_reducible apply And.intro))<;>skip;(iterate 1 (all_goals try (first|exact(bI _ (by first|assumption|omega| (simp;done)| (simp;omega))))))) ?_
  refine W.seq ?_
  refine W.seq ?_
  refine W.af X [] [] [5,17,18,19] [] rfl ⟨⟩ ?_
  refine W.block ?_
  refine W.aP (fun k=>k≤q.length) (fun k:Nat=> [(19, .one (.a (.lit (.int .i64 k))))]) (fun k=> [(16, .arr .u8 ((cC p q).take k++p.drop k))]) (fun k=>q.length-k) 0 (fun k=>rfl) (Nat.zero_le _) rfl ?_
  intro k hk
  have hle:=j8 (cC p q) p k (by rw[cu];omega) (by omega)
  refine W.seq ?_
  refine W.af X [] [] [5,17,18,19,20] [] rfl ⟨⟩ ?_
  refine W.seq ?_
  refine W.cond rfl (fun aH=> ?_) (fun aH=> ?_)
  ·try simp only[nb,an,av,aa]at aH
   have hs:=Ba p q k aH Hw
   refine W.skip ?_
   refine W.seq ?_
   refine W.block ?_
   refine W.seq ?_
   refine W.af X [] [] [5,6,7,17,18,19] [] rfl (by(repeat' (first|exact True.intro|apply And.intro))<;>first| (intros;omega)) ?_
   refine W.af X [] [] [5,17,18,19] [] rfl (by(repeat' (first|exact True.intro|apply And.intro))<;>first| (intros;omega)|exact(mE _).1|exact(mE _).2) ?_
   refine W.af X [] [] [5,17,18,19] [] rfl ⟨⟩ ?_
   refine⟨k+1,by omega,by omega,?_⟩
   rw[bn _ k rfl (by omega),hs]
   try rfl
  ·try simp only[nb,an,av,aa]at aH
   refine W.exit ?_
   refine W.seq ?_
   refine W.af X [] [] [4] [] rfl ⟨⟩ ?_
   refine W.ret ?_
   exact Fin.ret rfl ⟨by rw[Bb p q k aH Hw hk],⟨⟩⟩
theorem iy(a b:List UInt8)(ha:a.length≤1048576)(hb:b.length≤1048576):Sound ty Tryz.prog 315 [.a (.sl .u8 a), .a (.sl .u8 b)] [.a (.sl .u8 (cC a b))]:=by
 refine Sound.of X Tryz.call315 Tryz.func315 rfl rfl (by decide) Tryz.ntmps315 (by simp) ?_
 intro zb
 refine W.seq ?_
 refine W.af X [] [] [0,1] [] rfl ⟨⟩ ?_
 refine W.seq ?_
 refine W.af X [] [] [0,1,5] [] rfl (by(repeat' (first|exact True.intro|apply And.intro))<;>first|exact rfl) ?_
 refine W.seq ?_
 refine W.seq ?_
 refine W.af X [] [] [0,1,5,6] [] rfl ⟨⟩ ?_
 refine W.block ?_
 refine W.aP (fun k=>k≤max a.length b.length) (fun k:Nat=> [(6, .one (.a (.lit (.int .i64 k))))]) (fun k=> [(8, .arr .u8 ((cC a b).take k))]) (fun k=>max a.length b.length-k) 0 (fun k=>rfl) (Nat.zero_le _) rfl ?_
 intro k hk
 have hle:=bp (cC a b) k
 refine W.seq ?_
 refine W.seq ?_
 refine W.af X [] [] [0,1,5,6,18] [] rfl ⟨⟩ ?_
 refine W.cond rfl (fun hb0=> ?_) (fun hb0=> ?_)
 ·try simp only[nb,an,av,aa]at hb0
  refine W.skip ?_
  refine W.seq ?_
  refine W.block ?_
  refine W.seq ?_
  refine W.af X [] [] [0,1,5,6,7] [] rfl ⟨⟩ ?_
  refine W.seq ?_
  refine W.seq ?_
  refine W.af X [] [] [0,1,5,6,7,24] [] rfl ⟨⟩ ?_
  refine W.cond rfl (fun aH=> ?_) (fun aH=> ?_)
  ·try simp only[nb,an,av,aa]at aH
   refine W.af X [] [] [0,1,5,6,7] [] rfl (by(repeat' (first|exact True.intro|apply And.intro))<;>first| (intros;omega)) ?_
   refine W.seq ?_
   refine W.seq ?_
   refine W.af X [] [] [0,1,5,6,7,32] [] rfl ⟨⟩ ?_
   refine W.cond rfl (fun bk=> ?_) (fun bk=> ?_)
   ·try simp only[nb,an,av,aa]at bk
    have hs:=Ly a b k aH bk
    refine W.af X [] [] [0,1,5,6,7] [] rfl (by(repeat' (first|exact True.intro|apply And.intro))<;>first| (intros;omega)) ?_
    refine W.af X [(42,8)] [] [0,1,5,6] [] rfl (by(repeat' (first|exact True.intro|apply And.intro))<;>first|exact rfl|exact(mE _).1|exact(mE _).2| (simp only[cE,maxLen,lens];omega)) ?_
    refine W.af X [] [] [0,1,5,6] [] rfl ⟨⟩ ?_
    refine⟨k+1,by omega,by omega,?_⟩
    rw[bn _ k rfl (by omega),hs]
    try rfl
   ·try simp only[nb,an,av,aa]at bk
    have hs:=M8 a b k aH bk
    refine W.skip ?_
    refine W.af X [(42,8)] [] [0,1,5,6] [] rfl (by(repeat' (first|exact True.intro|apply And.intro))<;>first| (intros;omega)|exact rfl|exact(PM _).2| (simp only[cE,maxLen,lens];omega)) ?_
    refine W.af X [] [] [0,1,5,6] [] rfl ⟨⟩ ?_
    refine⟨k+1,by omega,by omega,?_⟩
    rw[bn _ k rfl (by omega),hs]
    try rfl
  ·try simp only[nb,an,av,aa]at aH
   refine W.skip ?_
   refine W.seq ?_
   refine W.seq ?_
   refine W.af X [] [] [0,1,5,6,7,32] [] rfl ⟨⟩ ?_
   refine W.cond rfl (fun bk=> ?_) (fun bk=> ?_)
   ·try simp only[nb,an,av,aa]at bk
    have hs:=M9 a b k aH bk
    refine W.af X [] [] [0,1,5,6,7] [] rfl (by(repeat' (first|exact True.intro|apply And.intro))<;>first| (intros;omega)) ?_
    refine W.af X [(42,8)] [] [0,1,5,6] [] rfl (by(repeat' (first|exact True.intro|apply And.intro))<;>first|exact rfl|exact(mE _).1|exact(mE _).2| (simp only[cE,maxLen,lens];omega)) ?_
    refine W.af X [] [] [0,1,5,6] [] rfl ⟨⟩ ?_
    refine⟨k+1,by omega,by omega,?_⟩
    rw[bn _ k rfl (by omega),hs]
    try rfl
   ·try simp only[nb,an,av,aa]at bk
    omega
 ·try simp only[nb,an,av,aa]at hb0
  refine W.exit ?_
  refine W.seq ?_
  refine W.af X [] [] [4] [] rfl ⟨⟩ ?_
  refine W.ret ?_
  exact Fin.ret rfl ⟨by rw[List.take_of_length_le (by rw[cu];omega)],⟨⟩⟩
theorem gH(l:List (List UInt8))(hs0:bY List.length l≤1048576):Sound ty Tryz.prog 273 [.a (.sl (.sl .u8) l)] [.a (.sl (.sl .u8) l)]:=by
 refine Sound.of X Tryz.call273 Tryz.func273 rfl rfl (by decide) Tryz.ntmps273 (by simp) ?_
 intro zb
 have nq:l.length≤1048576:=cR hs0
 refine W.seq ?_
 refine W.af X [] [] [0] [] rfl ⟨⟩ ?_
 refine W.seq ?_
 refine W.af X [] [] [0,3] [] rfl (by(repeat' (first|exact True.intro|apply And.intro))<;>first|exact rfl) ?_
 refine W.seq ?_
 refine W.seq ?_
 refine W.af X [] [] [3,7,8,9] [] rfl ⟨⟩ ?_
 refine W.block ?_
 refine W.aP (fun k=>k≤l.length) (fun k:Nat=> [(9, .one (.a (.lit (.int .i64 k))))]) (fun k=> [(6, .arr (.sl .u8) (l.take k))]) (fun k=>l.length-k) 0 (fun k=>rfl) (Nat.zero_le _) rfl ?_
 intro k hk
 have hle:=bp l k
 refine W.seq ?_
 refine W.af X [] [] [3,7,8,9,10] [] rfl ⟨⟩ ?_
 refine W.seq ?_
 refine W.cond rfl (fun hb0=> ?_) (fun hb0=> ?_)
 ·try simp only[nb,an,av,aa]at hb0
  have hs:=bg l k (au (.sl .u8)) hb0
  have hel:=Hv hs0 k hb0
  refine W.skip ?_
  refine W.seq ?_
  refine W.block ?_
  refine W.seq ?_
  refine W.af X [] [] [3,5,7,8,9] [] rfl (by(repeat' (first|exact True.intro|apply And.intro))<;>first| (intros;omega)) ?_
  refine W.af X [(17,6)] [(15,⟨true,[.a (.sl .u8 _)]⟩)] [3,7,8,9] [] rfl (by(repeat' (first|with_reducible exact ak.nil|with_reducible refine ak.mk ?_ ?_|with_reducible apply And.intro))<;>skip;(iterate 1 (all_goals try (first|exact(bI _ (by first|assumption|omega| (simp;done)| (simp;omega))))));all_goals (first|exact rfl| (simp only[cE,maxLen,lens];omega))) ?_
  refine W.af X [] [] [3,7,8,9] [] rfl ⟨⟩ ?_
  refine⟨k+1,by omega,by omega,?_⟩
  rw[bn _ k rfl (by omega),hs]
  try rfl
 ·try simp only[nb,an,av,aa]at hb0
  refine W.exit ?_
  refine W.seq ?_
  refine W.af X [] [] [2] [] rfl ⟨⟩ ?_
  refine W.ret ?_
  exact Fin.ret rfl ⟨by rw[List.take_of_length_le hb0],⟨⟩⟩
theorem jQ(l:List (List UInt8))(hs0:bY List.length l≤1048576):Sound ty Tryz.prog 256 [.a (.sl (.sl .u8) l)] [.a (.sl (.sl .u8) l)]:=by
 refine Sound.of X Tryz.call256 Tryz.func256 rfl rfl (by decide) Tryz.ntmps256 (by simp) ?_
 intro zb
 have nq:l.length≤1048576:=cR hs0
 refine W.seq ?_
 refine W.af X [] [] [0] [] rfl ⟨⟩ ?_
 refine W.seq ?_
 refine W.af X [] [] [0,3] [] rfl (by(repeat' (first|exact True.intro|apply And.intro))<;>first|exact rfl) ?_
 refine W.seq ?_
 refine W.seq ?_
 refine W.af X [] [] [0,3,4] [] rfl ⟨⟩ ?_
 refine W.block ?_
 refine W.aP (fun k=>k≤l.length) (fun k:Nat=> [(4, .one (.a (.lit (.int .i64 k))))]) (fun k=> [(5, .arr (.sl .u8) (l.take k))]) (fun k=>l.length-k) 0 (fun k=>rfl) (Nat.zero_le _) rfl ?_
 intro k hk
 have hle:=bp l k
 refine W.seq ?_
 refine W.seq ?_
 refine W.af X [] [] [0,3,4,9] [] rfl ⟨⟩ ?_
 refine W.cond rfl (fun hb0=> ?_) (fun hb0=> ?_)
 ·try simp only[nb,an,av,aa]at hb0
  have hs:=bg l k (au (.sl .u8)) hb0
  have hel:=Hv hs0 k hb0
  refine W.skip ?_
  refine W.seq ?_
  refine W.block ?_
  refine W.af X [(18,13),(20,5)] [] [0,3,4] [] rfl (by(repeat' (first|exact True.intro|apply And.intro))<;>first| (intros;omega)|exact rfl| (simp only[cE,maxLen,lens];omega)) ?_
  refine W.af X [] [] [0,3,4] [] rfl ⟨⟩ ?_
  refine⟨k+1,by omega,by omega,?_⟩
  rw[bn _ k rfl (by omega),hs]
  try rfl
 ·try simp only[nb,an,av,aa]at hb0
  refine W.exit ?_
  refine W.seq ?_
  refine W.af X [] [] [2] [] rfl ⟨⟩ ?_
  refine W.ret ?_
  exact Fin.ret rfl ⟨by rw[List.take_of_length_le hb0],⟨⟩⟩
theorem vS(s:Int)(l:List UInt8)(hl:l.length≤1048576):Sound ty Tryz.prog 363 [.a (.lit (.int .i64 s)), .a (.sl .u8 l)] [.a (.sl .u8 (gF s l))]:=by
 refine Sound.of X Tryz.call363 Tryz.func363 rfl rfl (by decide) Tryz.ntmps363 (by simp) ?_
 intro zb
 refine W.seq ?_
 refine W.af X [] [] [0,1] [] rfl ⟨⟩ ?_
 refine W.seq ?_
 refine W.af X [] [(8,⟨true,[.a (.sl .u8 _)]⟩)] [0,5] [] rfl (by(repeat' (first|with_reducible exact ak.nil|with_reducible refine ak.mk ?_ ?_|with_reducible apply And.intro))<;>skip;(iterate 1 (all_goals try (first|exact(bI _ (by first|assumption|omega| (simp;done)| (simp;omega))))))) ?_
 refine W.seq ?_
 refine W.seq ?_
 refine W.af X [] [] [0,5,10,11] [] rfl ⟨⟩ ?_
 refine W.block ?_
 refine W.aP (fun k=>k≤l.length) (fun k:Nat=> [(11, .one (.a (.lit (.int .i64 k))))]) (fun k=> [(8, .arr .u8 ((gF s l).take k++l.drop k))]) (fun k=>l.length-k) 0 (fun k=>rfl) (Nat.zero_le _) rfl ?_
 intro k hk
 have hle:=j8 (gF s l) l k (gW s l) hk
 refine W.seq ?_
 refine W.af X [] [] [0,5,10,11,12] [] rfl ⟨⟩ ?_
 refine W.seq ?_
 refine W.cond rfl (fun hb0=> ?_) (fun hb0=> ?_)
 ·try simp only[nb,an,av,aa]at hb0
  have hs:=ET s l k hb0
  refine W.skip ?_
  refine W.seq ?_
  refine W.block ?_
  refine W.seq ?_
  refine W.af X [] [] [0,5,6,10,11] [] rfl ⟨⟩ ?_
  refine W.draw X [] [(21,⟨false,[.a (.lit (.int .i64 _))]⟩)] [0,5,10,11] [] 12 MO (by kernel_rfl) rfl (by(repeat' (first|with_reducible exact ak.nil|with_reducible refine ak.mk ?_ ?_|with_reducible apply And.intro))<;>skip;(iterate 1 (all_goals try (first|exact(bB _ _ (by first|assumption|omega| (simp;done)| (simp;omega))))));all_goals (first| (intros;omega)|exact⟨rfl,bS _ (by decide)⟩|exact(mE _).1|exact(mE _).2)) ?_
  refine W.af X [] [] [0,5,10,11] [] rfl ⟨⟩ ?_
  refine⟨k+1,by omega,by omega,?_⟩
  rw[bn _ k rfl (by omega),hs]
  try rfl
 ·try simp only[nb,an,av,aa]at hb0
  refine W.exit ?_
  refine W.seq ?_
  refine W.af X [] [] [4] [] rfl ⟨⟩ ?_
  refine W.ret ?_
  exact Fin.ret rfl ⟨by rw[lC _ _ _ (gW s l) hb0],⟨⟩⟩
theorem vT(s:Int)(l:List UInt8)(hl:l.length≤1048576):Sound ty Tryz.prog 339 [.a (.lit (.int .i64 s)), .a (.sl .u8 l)] [.a (.sl .u8 (decr s l))]:=by
 refine Sound.of X Tryz.call339 Tryz.func339 rfl rfl (by decide) Tryz.ntmps339 (by simp) ?_
 intro zb
 refine W.seq ?_
 refine W.af X [] [] [0,1] [] rfl ⟨⟩ ?_
 refine W.seq ?_
 refine W.af X [] [(8,⟨true,[.a (.sl .u8 _)]⟩)] [0,5] [] rfl (by(repeat' (first|with_reducible exact ak.nil|with_reducible refine ak.mk ?_ ?_|with_reducible apply And.intro))<;>skip;(iterate 1 (all_goals try (first|exact(bI _ (by first|assumption|omega| (simp;done)| (simp;omega))))))) ?_
 refine W.seq ?_
 refine W.seq ?_
 refine W.af X [] [] [0,5,10,11] [] rfl ⟨⟩ ?_
 refine W.block ?_
 refine W.aP (fun k=>k≤l.length) (fun k:Nat=> [(11, .one (.a (.lit (.int .i64 k))))]) (fun k=> [(8, .arr .u8 ((decr s l).take k++l.drop k))]) (fun k=>l.length-k) 0 (fun k=>rfl) (Nat.zero_le _) rfl ?_
 intro k hk
 have hle:=j8 (decr s l) l k (jc s l) hk
 refine W.seq ?_
 refine W.af X [] [] [0,5,10,11,12] [] rfl ⟨⟩ ?_
 refine W.seq ?_
 refine W.cond rfl (fun hb0=> ?_) (fun hb0=> ?_)
 ·try simp only[nb,an,av,aa]at hb0
  have hs:=EV s l k hb0
  refine W.skip ?_
  refine W.seq ?_
  refine W.block ?_
  refine W.seq ?_
  refine W.af X [] [] [0,5,6,10,11] [] rfl ⟨⟩ ?_
  refine W.draw X [] [(21,⟨false,[.a (.lit (.int .i64 _))]⟩)] [0,5,10,11] [] 12 MO (by kernel_rfl) rfl (by(repeat' (first|with_reducible exact ak.nil|with_reducible refine ak.mk ?_ ?_|with_reducible apply And.intro))<;>skip;(iterate 1 (all_goals try (first|exact(bB _ _ (by first|assumption|omega| (simp;done)| (simp;omega))))));all_goals (first| (intros;omega)|exact⟨rfl,bS _ (by decide)⟩|exact(mE _).1|exact(mE _).2)) ?_
  refine W.af X [] [] [0,5,10,11] [] rfl ⟨⟩ ?_
  refine⟨k+1,by omega,by omega,?_⟩
  rw[bn _ k rfl (by omega),hs]
  try rfl
 ·try simp only[nb,an,av,aa]at hb0
  refine W.exit ?_
  refine W.seq ?_
  refine W.af X [] [] [4] [] rfl ⟨⟩ ?_
  refine W.ret ?_
  exact Fin.ret rfl ⟨by rw[lC _ _ _ (jc s l) hb0],⟨⟩⟩
theorem eu(k:Int):Sound ty Tryz.prog 167 [.a (.lit (.int .i64 k))] [.a (.lit (.bool (gm k)))]:=by
 refine Sound.of X Tryz.call167 Tryz.func167 rfl rfl (by decide) Tryz.ntmps167 (by simp) ?_
 intro zb
 refine W.seq ?_
 refine W.af X [] [] [0] [] rfl ⟨⟩ ?_
 refine W.seq ?_
 refine W.af X [] [(4,⟨false,[.a (.lit (.bool _))]⟩)] [2] [] rfl (by(repeat' (first|with_reducible exact ak.nil|with_reducible refine ak.mk ?_ ?_|with_reducible apply And.intro))<;>skip;(iterate 1 (all_goals try (first|exact(aK _ _ _))))) ?_
 refine W.ret ?_
 exact Fin.ret rfl ⟨rfl,⟨⟩⟩
theorem iD(p:Plain):Sound ty Tryz.prog 342 [.agg (cO p)] [.a (.lit (.bool (gk p)))]:=by
 refine Sound.of X Tryz.call342 Tryz.func342 rfl rfl (by decide) Tryz.ntmps342 (by simp) ?_
 intro zb
 refine W.seq ?_
 refine W.af X [] [] [1] [] rfl ⟨⟩ ?_
 refine W.seq ?_
 refine W.af X [] [(5,⟨false,[.a (.lit (.bool _))]⟩)] [2] [] rfl (by(repeat' (first|with_reducible exact ak.nil|with_reducible refine ak.mk ?_ ?_|with_reducible apply And.intro))<;>skip;(iterate 1 (all_goals try (first|exact(aK _ _ _))))) ?_
 refine W.ret ?_
 exact Fin.ret rfl ⟨by unfold gk;cases inr p.kind 0 3<;>rfl,⟨⟩⟩
theorem rE(key c:Int)(l:List UInt8)(hl:l.length≤65536):Sound ty Tryz.prog 368 [.a (.lit (.int .i64 key)), .a (.lit (.int .i64 c)), .a (.sl .u8 l)] [.a (.lit (.int .i64 (eV key c l)))]:=by
 refine Sound.of X Tryz.call368 Tryz.func368 rfl rfl (by decide) Tryz.ntmps368 (by simp) ?_
 intro zb
 refine W.seq ?_
 refine W.af X [] [] [0,1,2] [] rfl ⟨⟩ ?_
 refine W.seq ?_
 refine W.af X [] [] [0,2,7] [] rfl (by(repeat' (first|exact True.intro|apply And.intro))<;>first|exact rfl) ?_
 refine W.seq ?_
 refine W.seq ?_
 refine W.af X [] [] [0,7,12,13,14] [] rfl ⟨⟩ ?_
 refine W.block ?_
 refine W.aP (fun k=>k≤l.length) (fun k:Nat=> [(14, .one (.a (.lit (.int .i64 k))))]) (fun k=> [(11, .arr .int ([71,c]++(l.take k).map (fun x=>(x.toNat:Int))))]) (fun k=>l.length-k) 0 (fun k=>rfl) (Nat.zero_le _) rfl ?_
 intro k hk
 refine W.seq ?_
 refine W.af X [] [] [0,7,12,13,14,15] [] rfl ⟨⟩ ?_
 refine W.seq ?_
 refine W.cond rfl (fun hb0=> ?_) (fun hb0=> ?_)
 ·try simp only[nb,an,av,aa]at hb0
  have hs:=DG l c k hb0
  refine W.skip ?_
  refine W.seq ?_
  refine W.block ?_
  refine W.seq ?_
  refine W.af X [] [] [0,7,9,12,13,14] [] rfl (by(repeat' (first|exact True.intro|apply And.intro))<;>first| (intros;omega)) ?_
  refine W.af X [(22,11)] [] [0,7,12,13,14] [] rfl (by(repeat' (first|exact True.intro|apply And.intro))<;>first|exact rfl| (simp only[cE,maxLen,lens];omega)) ?_
  refine W.af X [] [] [0,7,12,13,14] [] rfl ⟨⟩ ?_
  refine⟨k+1,by omega,by omega,?_⟩
  rw[bn _ k rfl (by omega),hs]
  try rfl
 ·try simp only[nb,an,av,aa]at hb0
  refine W.exit ?_
  refine W.seq ?_
  refine W.af X [] [(26,⟨false,[.a (.lit (.int .i64 _))]⟩)] [6] [] rfl (by(repeat' (first|with_reducible exact ak.nil|with_reducible refine ak.mk ?_ ?_|with_reducible apply And.intro))<;>skip;(iterate 1 (all_goals try (first|exact(bB _ _ (by first|assumption|omega| (simp;done)| (simp;omega))))))) ?_
  refine W.ret ?_
  exact Fin.ret rfl ⟨by rw[List.take_of_length_le hb0];rfl,⟨⟩⟩
theorem jy(key r d n:Int):Sound ty Tryz.prog 170 [.a (.lit (.int .i64 key)), .a (.lit (.int .i64 r)), .a (.lit (.int .i64 d)), .a (.lit (.int .i64 n))] [.a (.lit (.int .i64 (cW key r d n)))]:=by
 refine Sound.of X Tryz.call170 Tryz.func170 rfl rfl (by decide) Tryz.ntmps170 (by simp) ?_
 intro zb
 refine W.seq ?_
 refine W.af X [] [] [0,1,2,3] [] rfl ⟨⟩ ?_
 refine W.seq ?_
 refine W.seq ?_
 refine W.af X [] [(10,⟨false,[.a (.lit (.bool _))]⟩),(14,⟨false,[.a (.lit (.bool _))]⟩)] [0,1,2,3,16] [] rfl (by(repeat' (first|with_reducible exact ak.nil|with_reducible refine ak.mk ?_ ?_|with_reducible apply And.intro))<;>skip;(iterate 1 (all_goals try (first|exact(aK _ _ _)|exact fun _=>(aK _ _ _))))) ?_
 refine W.cond rfl (fun hb0=> ?_) (fun hb0=> ?_)
 ·try simp only[nb,an,av,aa]at hb0
  refine W.seq ?_
  refine W.af X [] [] [8] [] rfl ⟨⟩ ?_
  refine W.ret ?_
  exact Fin.ret rfl ⟨by rw[cW,if_neg (by omega)],⟨⟩⟩
 ·try simp only[nb,an,av,aa]at hb0
  have hcs:=vP (kh key [79,r,d]) 0
  refine W.skip ?_
  refine W.seq ?_
  refine W.af X [] [(21,⟨false,[.a (.lit (.int .i64 _))]⟩),(22,⟨false,[.a (.lit (.int .i64 _))]⟩)] [8] [] rfl (by(repeat' (first|with_reducible exact ak.nil|with_reducible refine ak.mk ?_ ?_|with_reducible apply And.intro))<;>skip;(iterate 2 (all_goals try (first|exact(bB _ _ (by first|assumption|omega| (simp;done)| (simp;omega)))|exact(ke _ _))));all_goals (first| (intros;omega)|exact⟨rfl,bS _ (by decide)⟩)) ?_
  refine W.ret ?_
  exact Fin.ret rfl ⟨by rw[cW,if_pos (by omega),dj hcs.1],⟨⟩⟩
theorem vU(s:Int)(l:List UInt8)(hl:l.length≤1048576):Sound ty Tryz.prog 361 [.a (.lit (.int .i64 s)), .a (.sl .u8 l)] [.a (.sl .u8 (gF s l))]:=by
 refine Sound.of X Tryz.call361 Tryz.func361 rfl rfl (by decide) Tryz.ntmps361 (by simp) ?_
 intro zb
 refine W.seq ?_
 refine W.af X [] [] [0,1] [] rfl ⟨⟩ ?_
 refine W.seq ?_
 refine W.af X [] [] [0,1,5] [] rfl (by(repeat' (first|exact True.intro|apply And.intro))<;>first|exact rfl) ?_
 refine W.seq ?_
 refine W.seq ?_
 refine W.af X [] [] [0,1,5,6] [] rfl ⟨⟩ ?_
 refine W.block ?_
 refine W.aP (fun k=>k≤l.length) (fun k:Nat=> [(6, .one (.a (.lit (.int .i64 k))))]) (fun k=> [(7, .arr .u8 ((gF s l).take k))]) (fun k=>l.length-k) 0 (fun k=>rfl) (Nat.zero_le _) rfl ?_
 intro k hk
 have hle:=bp (gF s l) k
 refine W.seq ?_
 refine W.seq ?_
 refine W.af X [] [] [0,1,5,6,11] [] rfl ⟨⟩ ?_
 refine W.cond rfl (fun hb0=> ?_) (fun hb0=> ?_)
 ·try simp only[nb,an,av,aa]at hb0
  have hs:=EU s l k hb0
  refine W.skip ?_
  refine W.seq ?_
  refine W.block ?_
  refine W.draw X [(29,7)] [(23,⟨false,[.a (.lit (.int .i64 _))]⟩)] [0,1,5,6] [] 15 MO (by kernel_rfl) rfl (by(repeat' (first|with_reducible exact ak.nil|with_reducible refine ak.mk ?_ ?_|with_reducible apply And.intro))<;>skip;(iterate 1 (all_goals try (first|exact(bC _ _ (by first|assumption|omega| (simp;done)| (simp;omega))))));all_goals (first| (intros;omega)|exact rfl|exact⟨rfl,bS _ (by decide)⟩|exact(mE _).1|exact(mE _).2| (simp only[cE,maxLen,lens];omega))) ?_
  refine W.af X [] [] [0,1,5,6] [] rfl ⟨⟩ ?_
  refine⟨k+1,by omega,by omega,?_⟩
  rw[bn _ k rfl (by omega),hs]
  try rfl
 ·try simp only[nb,an,av,aa]at hb0
  refine W.exit ?_
  refine W.seq ?_
  refine W.af X [] [] [4] [] rfl ⟨⟩ ?_
  refine W.ret ?_
  exact Fin.ret rfl ⟨by rw[List.take_of_length_le (by rw[gW];exact hb0)],⟨⟩⟩
theorem vV(s:Int)(l:List UInt8)(hl:l.length≤1048576):Sound ty Tryz.prog 327 [.a (.lit (.int .i64 s)), .a (.sl .u8 l)] [.a (.sl .u8 (decr s l))]:=by
 refine Sound.of X Tryz.call327 Tryz.func327 rfl rfl (by decide) Tryz.ntmps327 (by simp) ?_
 intro zb
 refine W.seq ?_
 refine W.af X [] [] [0,1] [] rfl ⟨⟩ ?_
 refine W.seq ?_
 refine W.af X [] [] [0,1,5] [] rfl (by(repeat' (first|exact True.intro|apply And.intro))<;>first|exact rfl) ?_
 refine W.seq ?_
 refine W.seq ?_
 refine W.af X [] [] [0,1,5,6] [] rfl ⟨⟩ ?_
 refine W.block ?_
 refine W.aP (fun k=>k≤l.length) (fun k:Nat=> [(6, .one (.a (.lit (.int .i64 k))))]) (fun k=> [(7, .arr .u8 ((decr s l).take k))]) (fun k=>l.length-k) 0 (fun k=>rfl) (Nat.zero_le _) rfl ?_
 intro k hk
 have hle:=bp (decr s l) k
 refine W.seq ?_
 refine W.seq ?_
 refine W.af X [] [] [0,1,5,6,11] [] rfl ⟨⟩ ?_
 refine W.cond rfl (fun hb0=> ?_) (fun hb0=> ?_)
 ·try simp only[nb,an,av,aa]at hb0
  have hs:=EW s l k hb0
  refine W.skip ?_
  refine W.seq ?_
  refine W.block ?_
  refine W.draw X [(29,7)] [(23,⟨false,[.a (.lit (.int .i64 _))]⟩),(26,⟨false,[.a (.lit (.int .i64 _))]⟩)] [0,1,5,6] [] 15 MO (by kernel_rfl) rfl (by(repeat' (first|with_reducible exact ak.nil|with_reducible refine ak.mk ?_ ?_|with_reducible apply And.intro))<;>skip;(iterate 2 (all_goals try (first|exact(bC _ _ (by first|assumption|omega| (simp;done)| (simp;omega)))|exact(vR _ _ (by first|assumption|omega| (simp;done)| (simp;omega)) (by first|assumption|omega| (simp;done)| (simp;omega))))));all_goals (first| (intros;omega)|exact rfl|exact⟨rfl,bS _ (by decide)⟩|exact(mE _).1|exact(mE _).2| (simp only[cE,maxLen,lens];omega))) ?_
  refine W.af X [] [] [0,1,5,6] [] rfl ⟨⟩ ?_
  refine⟨k+1,by omega,by omega,?_⟩
  rw[bn _ k rfl (by omega),hs]
  try rfl
 ·try simp only[nb,an,av,aa]at hb0
  refine W.exit ?_
  refine W.seq ?_
  refine W.af X [] [] [4] [] rfl ⟨⟩ ?_
  refine W.ret ?_
  exact Fin.ret rfl ⟨by rw[List.take_of_length_le (by rw[jc];exact hb0)],⟨⟩⟩
theorem ew(k:Int):Sound ty Tryz.prog 144 [.a (.lit (.int .i64 k))] [.a (.lit (.bool (gm k)))]:=by
 refine Sound.of X Tryz.call144 Tryz.func144 rfl rfl (by decide) Tryz.ntmps144 (by simp) ?_
 intro zb
 refine W.seq ?_
 refine W.af X [] [] [0] [] rfl ⟨⟩ ?_
 refine W.seq ?_
 refine W.af X [] [(4,⟨false,[.a (.lit (.bool _))]⟩)] [2] [] rfl (by(repeat' (first|with_reducible exact ak.nil|with_reducible refine ak.mk ?_ ?_|with_reducible apply And.intro))<;>skip;(iterate 1 (all_goals try (first|exact(aX _ _ _))))) ?_
 refine W.ret ?_
 exact Fin.ret rfl ⟨rfl,⟨⟩⟩
theorem nN(p:Plain):Sound ty Tryz.prog 360 [.agg (cO p)] [.a (.lit (.bool (gk p)))]:=by
 refine Sound.of X Tryz.call360 Tryz.func360 rfl rfl (by decide) Tryz.ntmps360 (by simp) ?_
 intro zb
 refine W.seq ?_
 refine W.af X [] [] [1] [] rfl ⟨⟩ ?_
 refine W.seq ?_
 refine W.af X [] [(5,⟨false,[.a (.lit (.bool _))]⟩)] [2] [] rfl (by(repeat' (first|with_reducible exact ak.nil|with_reducible refine ak.mk ?_ ?_|with_reducible apply And.intro))<;>skip;(iterate 1 (all_goals try (first|exact(aX _ _ _))))) ?_
 refine W.ret ?_
 exact Fin.ret rfl ⟨by unfold gk;cases inr p.kind 0 3<;>rfl,⟨⟩⟩
theorem kg(key c:Int)(l:List UInt8)(hl:l.length≤65536):Sound ty Tryz.prog 326 [.a (.lit (.int .i64 key)), .a (.lit (.int .i64 c)), .a (.sl .u8 l)] [.a (.lit (.int .i64 (eV key c l)))]:=by
 refine Sound.of X Tryz.call326 Tryz.func326 rfl rfl (by decide) Tryz.ntmps326 (by simp) ?_
 intro zb
 refine W.seq ?_
 refine W.af X [] [] [0,1,2] [] rfl ⟨⟩ ?_
 refine W.seq ?_
 refine W.af X [] [] [0,2,7] [] rfl (by(repeat' (first|exact True.intro|apply And.intro))<;>first|exact rfl) ?_
 refine W.seq ?_
 refine W.seq ?_
 refine W.af X [] [] [0,2,7,8] [] rfl ⟨⟩ ?_
 refine W.block ?_
 refine W.aP (fun k=>k≤l.length) (fun k:Nat=> [(8, .one (.a (.lit (.int .i64 k))))]) (fun k=> [(10, .arr .int ([71,c]++(l.take k).map (fun x=>(x.toNat:Int))))]) (fun k=>l.length-k) 0 (fun k=>rfl) (Nat.zero_le _) rfl ?_
 intro k hk
 refine W.seq ?_
 refine W.seq ?_
 refine W.af X [] [] [0,2,7,8,14] [] rfl ⟨⟩ ?_
 refine W.cond rfl (fun hb0=> ?_) (fun hb0=> ?_)
 ·try simp only[nb,an,av,aa]at hb0
  have hs:=DG l c k hb0
  refine W.skip ?_
  refine W.seq ?_
  refine W.block ?_
  refine W.af X [(24,10)] [] [0,2,7,8] [] rfl (by(repeat' (first|exact True.intro|apply And.intro))<;>first| (intros;omega)|exact rfl| (simp only[cE,maxLen,lens];omega)) ?_
  refine W.af X [] [] [0,2,7,8] [] rfl ⟨⟩ ?_
  refine⟨k+1,by omega,by omega,?_⟩
  rw[bn _ k rfl (by omega),hs]
  try rfl
 ·try simp only[nb,an,av,aa]at hb0
  refine W.exit ?_
  refine W.seq ?_
  refine W.af X [] [(27,⟨false,[.a (.lit (.int .i64 _))]⟩)] [6] [] rfl (by(repeat' (first|with_reducible exact ak.nil|with_reducible refine ak.mk ?_ ?_|with_reducible apply And.intro))<;>skip;(iterate 1 (all_goals try (first|exact(bC _ _ (by first|assumption|omega| (simp;done)| (simp;omega))))))) ?_
  refine W.ret ?_
  exact Fin.ret rfl ⟨by rw[List.take_of_length_le hb0];rfl,⟨⟩⟩
theorem jz(key r d n:Int):Sound ty Tryz.prog 146 [.a (.lit (.int .i64 key)), .a (.lit (.int .i64 r)), .a (.lit (.int .i64 d)), .a (.lit (.int .i64 n))] [.a (.lit (.int .i64 (cW key r d n)))]:=by
 refine Sound.of X Tryz.call146 Tryz.func146 rfl rfl (by decide) Tryz.ntmps146 (by simp) ?_
 intro zb
 refine W.seq ?_
 refine W.af X [] [] [0,1,2,3] [] rfl ⟨⟩ ?_
 refine W.seq ?_
 refine W.seq ?_
 refine W.af X [] [(10,⟨false,[.a (.lit (.bool _))]⟩),(14,⟨false,[.a (.lit (.bool _))]⟩)] [0,1,2,3,16] [] rfl (by(repeat' (first|with_reducible exact ak.nil|with_reducible refine ak.mk ?_ ?_|with_reducible apply And.intro))<;>skip;(iterate 1 (all_goals try (first|exact(aX _ _ _)|exact fun _=>(aX _ _ _))))) ?_
 refine W.cond rfl (fun hb0=> ?_) (fun hb0=> ?_)
 ·try simp only[nb,an,av,aa]at hb0
  refine W.seq ?_
  refine W.af X [] [] [8] [] rfl ⟨⟩ ?_
  refine W.ret ?_
  exact Fin.ret rfl ⟨by rw[cW,if_neg (by omega)],⟨⟩⟩
 ·try simp only[nb,an,av,aa]at hb0
  have hcs:=vP (kh key [79,r,d]) 0
  refine W.skip ?_
  refine W.seq ?_
  refine W.af X [] [(21,⟨false,[.a (.lit (.int .i64 _))]⟩),(22,⟨false,[.a (.lit (.int .i64 _))]⟩)] [8] [] rfl (by(repeat' (first|with_reducible exact ak.nil|with_reducible refine ak.mk ?_ ?_|with_reducible apply And.intro))<;>skip;(iterate 2 (all_goals try (first|exact(bC _ _ (by first|assumption|omega| (simp;done)| (simp;omega)))|exact(kf _ _))));all_goals (first| (intros;omega)|exact⟨rfl,bS _ (by decide)⟩)) ?_
  refine W.ret ?_
  exact Fin.ret rfl ⟨by rw[cW,if_pos (by omega),dj hcs.1],⟨⟩⟩
theorem mI(k c:Int):Sound ty Tryz.prog 340 [.a (.lit (.int .i64 k)), .a (.lit (.int .i64 c))] [.a (.lit (.int .i64 (gG k c)))]:=by
 refine Sound.of X Tryz.call340 Tryz.func340 rfl rfl (by decide) Tryz.ntmps340 (by simp) ?_
 intro zb
 refine W.seq ?_
 refine W.af X [] [] [0,1] [] rfl ⟨⟩ ?_
 refine W.seq ?_
 refine W.af X [] [(8,⟨false,[.a (.lit (.int .i64 _))]⟩),(9,⟨false,[.a (.lit (.int .i64 _))]⟩)] [4] [] rfl (by(repeat' (first|with_reducible exact ak.nil|with_reducible refine ak.mk ?_ ?_|with_reducible apply And.intro))<;>skip;(iterate 2 (all_goals try (first|exact(bB _ _ (by first|assumption|omega| (simp;done)| (simp;omega)))|exact(lz _))));all_goals (first|exact⟨rfl,bS _ (by decide)⟩)) ?_
 refine W.ret ?_
 exact Fin.ret rfl ⟨rfl,⟨⟩⟩
theorem eW(k c:Int):Sound ty Tryz.prog 272 [.a (.lit (.int .i64 k)), .a (.lit (.int .i64 c))] [.a (.lit (.int .i64 (gn k c)))]:=by
 refine Sound.of X Tryz.call272 Tryz.func272 rfl rfl (by decide) Tryz.ntmps272 (by simp) ?_
 intro zb
 refine W.seq ?_
 refine W.af X [] [] [0,1] [] rfl ⟨⟩ ?_
 refine W.seq ?_
 refine W.af X [] [(8,⟨false,[.a (.lit (.int .i64 _))]⟩),(9,⟨false,[.a (.lit (.int .i64 _))]⟩)] [4] [] rfl (by(repeat' (first|with_reducible exact ak.nil|with_reducible refine ak.mk ?_ ?_|with_reducible apply And.intro))<;>skip;(iterate 2 (all_goals try (first|exact(bB _ _ (by first|assumption|omega| (simp;done)| (simp;omega)))|exact(lz _))));all_goals (first|exact⟨rfl,bS _ (by decide)⟩)) ?_
 refine W.ret ?_
 exact Fin.ret rfl ⟨rfl,⟨⟩⟩
theorem kj(k c:Int):Sound ty Tryz.prog 328 [.a (.lit (.int .i64 k)), .a (.lit (.int .i64 c))] [.a (.lit (.int .i64 (gG k c)))]:=by
 refine Sound.of X Tryz.call328 Tryz.func328 rfl rfl (by decide) Tryz.ntmps328 (by simp) ?_
 intro zb
 refine W.seq ?_
 refine W.af X [] [] [0,1] [] rfl ⟨⟩ ?_
 refine W.seq ?_
 refine W.af X [] [(8,⟨false,[.a (.lit (.int .i64 _))]⟩),(9,⟨false,[.a (.lit (.int .i64 _))]⟩)] [4] [] rfl (by(repeat' (first|with_reducible exact ak.nil|with_reducible refine ak.mk ?_ ?_|with_reducible apply And.intro))<;>skip;(iterate 2 (all_goals try (first|exact(bC _ _ (by first|assumption|omega| (simp;done)| (simp;omega)))|exact(oO _ _))));all_goals (first|exact⟨rfl,bS _ (by decide)⟩)) ?_
 refine W.ret ?_
 exact Fin.ret rfl ⟨by rw[DC (dm _ _).1];rfl,⟨⟩⟩
theorem eX(k c:Int):Sound ty Tryz.prog 254 [.a (.lit (.int .i64 k)), .a (.lit (.int .i64 c))] [.a (.lit (.int .i64 (gn k c)))]:=by
 refine Sound.of X Tryz.call254 Tryz.func254 rfl rfl (by decide) Tryz.ntmps254 (by simp) ?_
 intro zb
 refine W.seq ?_
 refine W.af X [] [] [0,1] [] rfl ⟨⟩ ?_
 refine W.seq ?_
 refine W.af X [] [(8,⟨false,[.a (.lit (.int .i64 _))]⟩),(9,⟨false,[.a (.lit (.int .i64 _))]⟩)] [4] [] rfl (by(repeat' (first|with_reducible exact ak.nil|with_reducible refine ak.mk ?_ ?_|with_reducible apply And.intro))<;>skip;(iterate 2 (all_goals try (first|exact(bC _ _ (by first|assumption|omega| (simp;done)| (simp;omega)))|exact(oO _ _))));all_goals (first|exact⟨rfl,bS _ (by decide)⟩)) ?_
 refine W.ret ?_
 exact Fin.ret rfl ⟨by rw[DC (dm _ _).1];rfl,⟨⟩⟩
theorem jA(k c:Int)(l:List UInt8)(hl:l.length≤65536):Sound ty Tryz.prog 338 [.a (.lit (.int .i64 k)), .a (.lit (.int .i64 c)), .a (.sl .u8 l)] [.a (.sl .u8 (four (eV k c l)))]:=by
 refine Sound.of X Tryz.call338 Tryz.func338 rfl rfl (by decide) Tryz.ntmps338 (by simp) ?_
 intro zb
 refine W.seq ?_
 refine W.af X [] [] [0,1,2] [] rfl ⟨⟩ ?_
 refine W.seq ?_
 refine W.af X [] [(11,⟨false,[.a (.lit (.int .i64 _))]⟩)] [7] [] rfl (by(repeat' (first|with_reducible exact ak.nil|with_reducible refine ak.mk ?_ ?_|with_reducible apply And.intro))<;>skip;(iterate 1 (all_goals try (first|exact(rE _ _ _ (by first|assumption|omega| (simp;done)| (simp;omega))))))) ?_
 refine W.seq ?_
 refine W.af X [] [] [6] [] rfl (by(repeat' (first|exact True.intro|apply And.intro))<;>first| (intros;omega)|exact rfl|exact(mE _).1|exact(mE _).2) ?_
 refine W.ret ?_
 exact Fin.ret rfl ⟨DH _,⟨⟩⟩
end Go.Proofs.YtjcojocjlglglaaGreat.G
namespace Go.Proofs.YtjcojocjlglglaaGreat.G
set_option linter.all false
open Go.RowKit L D
set_option maxRecDepth 100000
theorem iA(l:List (List UInt8))(f:FuncId)(p:(List UInt8)→Bool)(hf: ∀b,Sound ty Tryz.prog f [.a (.sl .u8 b)] [.a (.lit (.bool (p b)))]):Sound ty Tryz.prog 362 [.a (.sl (.sl .u8) l), .a (.lit (.func (.func f) #[] #[]))] [.a (.lit (.int .i64 (fidx p l)))]:=by
 refine Sound.of X Tryz.call362 Tryz.func362 rfl rfl (by decide) Tryz.ntmps362 (by simp) ?_
 intro zb
 refine W.bound 0 rfl (fun nq=> ?_)
 refine W.seq ?_
 refine W.af X [] [] [0,1] [] rfl ⟨⟩ ?_
 refine W.seq ?_
 refine W.seq ?_
 refine W.af X [] [] [0,1,7,8] [] rfl ⟨⟩ ?_
 refine W.block ?_
 refine W.aP (fun k=>k≤l.length∧(l.take k).any p=false) (fun k:Nat=> [(8, .one (.a (.lit (.int .i64 k))))]) (fun k=> []) (fun k=>l.length-k) 0 (fun k=>rfl) ⟨Nat.zero_le _,rfl⟩ rfl ?_
 rintro k ⟨hk,hall⟩
 refine W.seq ?_
 refine W.af X [] [] [0,1,7,8,9] [] rfl ⟨⟩ ?_
 refine W.seq ?_
 refine W.cond rfl (fun hb0=> ?_) (fun hb0=> ?_)
 ·try simp only[nb,an,av,aa]at hb0
  refine W.skip ?_
  refine W.seq ?_
  refine W.block ?_
  refine W.seq ?_
  refine W.af X [] [] [0,1,5,7,8] [] rfl ⟨⟩ ?_
  refine W.seq ?_
  refine W.af X [] [(16,⟨false,[.a (.lit (.bool (p (l.getD k (au (.sl .u8))))))]⟩)] [0,1,5,7,8,16] [] rfl (by(repeat' (first|with_reducible exact ak.nil|with_reducible refine ak.mk ?_ ?_|with_reducible apply And.intro))<;>skip;(iterate 1 (all_goals try (first|exact(hf _))));all_goals (first| (intros;omega))) ?_
  refine W.cond rfl (fun aH=> ?_) (fun aH=> ?_)
  ·skip
   refine W.seq ?_
   refine W.af X [] [] [4] [] rfl ⟨⟩ ?_
   refine W.ret ?_
   exact Fin.ret rfl ⟨by rw[vW (au (.sl .u8)) hb0 hall aH],⟨⟩⟩
  ·skip
   refine W.skip ?_
   refine W.af X [] [] [0,1,7,8] [] rfl ⟨⟩ ?_
   refine⟨k+1,⟨by omega,vX (au (.sl .u8)) hb0 hall aH⟩,by omega,?_⟩
   rw[bn _ k rfl (by omega)]
   try rfl
 ·try simp only[nb,an,av,aa]at hb0
  refine W.exit ?_
  refine W.seq ?_
  refine W.af X [] [] [4] [] rfl ⟨⟩ ?_
  refine W.ret ?_
  exact Fin.ret rfl ⟨by rw[yc (by rw[←hall,List.take_of_length_le hb0])],⟨⟩⟩
theorem ck(l:List (List UInt8))(f:FuncId)(p:(List UInt8)→Bool)(hf: ∀b,Sound ty Tryz.prog f [.a (.sl .u8 b)] [.a (.lit (.bool (p b)))]):Sound ty Tryz.prog 310 [.a (.sl (.sl .u8) l), .a (.lit (.func (.func f) #[] #[]))] [.a (.lit (.bool (l.any p)))]:=by
 refine Sound.of X Tryz.call310 Tryz.func310 rfl rfl (by decide) Tryz.ntmps310 (by simp) ?_
 intro zb
 refine W.seq ?_
 refine W.af X [] [] [0,1] [] rfl ⟨⟩ ?_
 refine W.seq ?_
 refine W.af X [] [(7,⟨false,[.a (.lit (.int .i64 (fidx p l)))]⟩)] [4] [] rfl (by(repeat' (first|with_reducible exact ak.nil|with_reducible refine ak.mk ?_ ?_|with_reducible apply And.intro))<;>skip;(iterate 1 (all_goals try (first|exact(iA l f p hf))))) ?_
 refine W.ret ?_
 exact Fin.ret rfl ⟨congrArg Value.bool (DK p l),⟨⟩⟩
theorem je(l:List Int)(f:FuncId)(p:Int→Bool)(hf: ∀b,Sound ty Tryz.prog f [.a (.lit (.int .i64 b))] [.a (.lit (.bool (p b)))]):Sound ty Tryz.prog 364 [.a (.sl .int l), .a (.lit (.func (.func f) #[] #[]))] [.a (.lit (.int .i64 (fidx p l)))]:=by
 refine Sound.of X Tryz.call364 Tryz.func364 rfl rfl (by decide) Tryz.ntmps364 (by simp) ?_
 intro zb
 refine W.bound 0 rfl (fun nq=> ?_)
 refine W.seq ?_
 refine W.af X [] [] [0,1] [] rfl ⟨⟩ ?_
 refine W.seq ?_
 refine W.seq ?_
 refine W.af X [] [] [0,1,7,8] [] rfl ⟨⟩ ?_
 refine W.block ?_
 refine W.aP (fun k=>k≤l.length∧(l.take k).any p=false) (fun k:Nat=> [(8, .one (.a (.lit (.int .i64 k))))]) (fun k=> []) (fun k=>l.length-k) 0 (fun k=>rfl) ⟨Nat.zero_le _,rfl⟩ rfl ?_
 rintro k ⟨hk,hall⟩
 refine W.seq ?_
 refine W.af X [] [] [0,1,7,8,9] [] rfl ⟨⟩ ?_
 refine W.seq ?_
 refine W.cond rfl (fun hb0=> ?_) (fun hb0=> ?_)
 ·try simp only[nb,an,av,aa]at hb0
  refine W.skip ?_
  refine W.seq ?_
  refine W.block ?_
  refine W.seq ?_
  refine W.af X [] [] [0,1,5,7,8] [] rfl ⟨⟩ ?_
  refine W.seq ?_
  refine W.af X [] [(16,⟨false,[.a (.lit (.bool (p (l.getD k (au .int)))))]⟩)] [0,1,5,7,8,16] [] rfl (by(repeat' (first|with_reducible exact ak.nil|with_reducible refine ak.mk ?_ ?_|with_reducible apply And.intro))<;>skip;(iterate 1 (all_goals try (first|exact(hf _))));all_goals (first| (intros;omega))) ?_
  refine W.cond rfl (fun aH=> ?_) (fun aH=> ?_)
  ·skip
   refine W.seq ?_
   refine W.af X [] [] [4] [] rfl ⟨⟩ ?_
   refine W.ret ?_
   exact Fin.ret rfl ⟨by rw[vW (au .int) hb0 hall aH],⟨⟩⟩
  ·skip
   refine W.skip ?_
   refine W.af X [] [] [0,1,7,8] [] rfl ⟨⟩ ?_
   refine⟨k+1,⟨by omega,vX (au .int) hb0 hall aH⟩,by omega,?_⟩
   rw[bn _ k rfl (by omega)]
   try rfl
 ·try simp only[nb,an,av,aa]at hb0
  refine W.exit ?_
  refine W.seq ?_
  refine W.af X [] [] [4] [] rfl ⟨⟩ ?_
  refine W.ret ?_
  exact Fin.ret rfl ⟨by rw[yc (by rw[←hall,List.take_of_length_le hb0])],⟨⟩⟩
theorem gY(l:List Int)(f:FuncId)(p:Int→Bool)(hf: ∀b,Sound ty Tryz.prog f [.a (.lit (.int .i64 b))] [.a (.lit (.bool (p b)))]):Sound ty Tryz.prog 313 [.a (.sl .int l), .a (.lit (.func (.func f) #[] #[]))] [.a (.lit (.bool (l.any p)))]:=by
 refine Sound.of X Tryz.call313 Tryz.func313 rfl rfl (by decide) Tryz.ntmps313 (by simp) ?_
 intro zb
 refine W.seq ?_
 refine W.af X [] [] [0,1] [] rfl ⟨⟩ ?_
 refine W.seq ?_
 refine W.af X [] [(7,⟨false,[.a (.lit (.int .i64 (fidx p l)))]⟩)] [4] [] rfl (by(repeat' (first|with_reducible exact ak.nil|with_reducible refine ak.mk ?_ ?_|with_reducible apply And.intro))<;>skip;(iterate 1 (all_goals try (first|exact(je l f p hf))))) ?_
 refine W.ret ?_
 exact Fin.ret rfl ⟨congrArg Value.bool (DK p l),⟨⟩⟩
theorem jR(b:List UInt8):Sound ty Tryz.prog 332 [.a (.sl .u8 b)] [.a (.lit (.bool (!decide ((b.length:Int)=24))))]:=by
 refine Sound.of X Tryz.call332 Tryz.func332 rfl rfl (by decide) Tryz.ntmps332 (by simp) ?_
 intro zb
 refine W.seq ?_
 refine W.af X [] [] [0] [] rfl ⟨⟩ ?_
 refine W.seq ?_
 refine W.af X [] [] [2] [] rfl ⟨⟩ ?_
 refine W.ret ?_
 exact Fin.ret rfl ⟨(congrArg Value.bool (by simp only[aI,aJ,gt_iff_lt,ge_iff_le,aC,aD,bne_not,cX,decide_not,ne_eq,Bool.not_and,Bool.not_or,Bool.not_not,Bool.and_true,Bool.true_and,Bool.or_false,Bool.false_or,Int.toNat_natCast]<;>first|rfl|ac_rfl)),⟨⟩⟩
theorem dV(d:DB):Sound ty Tryz.prog 262 [.agg (bR d)] [.a (.lit (.bool (iz d)))]:=by
 refine Sound.of X Tryz.call262 Tryz.func262 rfl rfl (by decide) Tryz.ntmps262 (by simp) ?_
 intro zb
 refine W.seq ?_
 refine W.af X [] [] [1] [] rfl ⟨⟩ ?_
 refine W.seq ?_
 refine W.af X [] [(10,⟨false,[.a (.lit (.bool (d.rows.any fun b=> !decide ((b.length:Int)=24))))]⟩)] [2] [] rfl (by(repeat' (first|with_reducible exact ak.nil|with_reducible refine ak.mk ?_ ?_|with_reducible apply And.intro))<;>skip;(iterate 1 (all_goals try (first|exact fun _=>(ck _ _ _ jR))))) ?_
 refine W.ret ?_
 exact Fin.ret rfl ⟨by unfold iz;rw[mJ];by_cases h:(d.rows.length:Int)≤64<;>simp[h],⟨⟩⟩
theorem dW(d:DB):Sound ty Tryz.prog 245 [.agg (bR d)] [.a (.lit (.bool (iz d)))]:=by
 refine Sound.of X Tryz.call245 Tryz.func245 rfl rfl (by decide) Tryz.ntmps245 (by simp) ?_
 intro zb
 refine W.fI 0 0 rfl rfl (fun nq=> ?_)
 refine W.seq ?_
 refine W.af X [] [] [1] [] rfl ⟨⟩ ?_
 refine W.seq ?_
 refine W.seq ?_
 refine W.af X [] [] [1,3] [] rfl ⟨⟩ ?_
 refine W.block ?_
 refine W.aP (fun k=>k≤d.rows.length∧(d.rows.take k).all (fun r=>decide ((r.length:Int)=24))=true) (fun k:Nat=> [(3, .one (.a (.lit (.int .i64 k))))]) (fun k=> []) (fun k=>d.rows.length-k) 0 (fun k=>rfl) ⟨Nat.zero_le _,rfl⟩ rfl ?_
 rintro k ⟨hk,hall⟩
 refine W.seq ?_
 refine W.seq ?_
 refine W.af X [] [] [1,3,8] [] rfl ⟨⟩ ?_
 refine W.cond rfl (fun hb0=> ?_) (fun hb0=> ?_)
 ·try simp only[nb,an,av,aa]at hb0
  refine W.skip ?_
  refine W.seq ?_
  refine W.block ?_
  refine W.seq ?_
  refine W.af X [] [] [1,3,17] [] rfl (by(repeat' (first|exact True.intro|apply And.intro))<;>first| (intros;omega)) ?_
  refine W.cond rfl (fun aH=> ?_) (fun aH=> ?_)
  ·try simp only[nb,an,av,aa]at aH
   refine W.seq ?_
   refine W.af X [] [] [2] [] rfl ⟨⟩ ?_
   refine W.ret ?_
   exact Fin.ret rfl ⟨by unfold iz;rw[CD _ _ (au (.sl .u8)) k hb0 (by simpa using aH)];simp,⟨⟩⟩
  ·try simp only[nb,an,av,aa]at aH
   refine W.skip ?_
   refine W.af X [] [] [1,3] [] rfl ⟨⟩ ?_
   refine⟨k+1,⟨by omega,by rw[vQ _ _ _ (au (.sl .u8)) hb0,hall];simpa using aH⟩,by omega,?_⟩
   rw[bn _ k rfl (by omega)]
   try rfl
 ·try simp only[nb,an,av,aa]at hb0
  refine W.exit ?_
  refine W.seq ?_
  refine W.af X [] [] [2] [] rfl ⟨⟩ ?_
  refine W.ret ?_
  exact Fin.ret rfl ⟨by rw[List.take_of_length_le hb0]at hall;unfold iz;rw[hall];simp,⟨⟩⟩
theorem rG(a:gJ):Sound ty Tryz.prog 166 [.agg (bN a)] [.a (.lit (.int .i64 (qp a)))]:=by
 refine Sound.of X Tryz.call166 Tryz.func166 rfl rfl (by decide) Tryz.ntmps166 (by simp) ?_
 intro zb
 refine W.fI 0 1 rfl rfl (fun nq=> ?_)
 refine W.seq ?_
 refine W.af X [] [] [1] [] rfl ⟨⟩ ?_
 refine W.seq ?_
 refine W.seq ?_
 refine W.af X [] [] [1,6] [] rfl ⟨⟩ ?_
 refine W.cond rfl (fun hb0=> ?_) (fun hb0=> ?_)
 ·try simp only[nb,an,av,aa]at hb0
  refine W.seq ?_
  refine W.af X [] [] [2] [] rfl ⟨⟩ ?_
  refine W.ret ?_
  exact Fin.ret rfl ⟨by rw[qp,if_pos (by omega)],⟨⟩⟩
 ·try simp only[nb,an,av,aa]at hb0
  refine W.skip ?_
  refine W.seq ?_
  refine W.af X [] [] [2] [] rfl (by(repeat' (first|exact True.intro|apply And.intro))<;>first| ((try simp only[nb,an,av]at*);(simp(disch:=omega) only[bZ]);omega)) ?_
  refine W.ret ?_
  exact Fin.ret rfl ⟨by rw[qp,if_neg (by omega),bZ (by omega)];congr 4;omega,⟨⟩⟩
theorem rH(a:gJ):Sound ty Tryz.prog 143 [.agg (bN a)] [.a (.lit (.int .i64 (qp a)))]:=by
 refine Sound.of X Tryz.call143 Tryz.func143 rfl rfl (by decide) Tryz.ntmps143 (by simp) ?_
 intro zb
 refine W.fI 0 1 rfl rfl (fun nq=> ?_)
 refine W.seq ?_
 refine W.af X [] [] [1] [] rfl ⟨⟩ ?_
 refine W.seq ?_
 refine W.seq ?_
 refine W.af X [] [] [1,6] [] rfl ⟨⟩ ?_
 refine W.cond rfl (fun hb0=> ?_) (fun hb0=> ?_)
 ·try simp only[nb,an,av,aa]at hb0
  refine W.seq ?_
  refine W.af X [] [] [2] [] rfl ⟨⟩ ?_
  refine W.ret ?_
  exact Fin.ret rfl ⟨by rw[qp,if_pos (by omega)],⟨⟩⟩
 ·try simp only[nb,an,av,aa]at hb0
  refine W.skip ?_
  refine W.seq ?_
  refine W.af X [] [] [2] [] rfl (by(repeat' (first|exact True.intro|apply And.intro))<;>first| ((try simp only[nb,an,av]at*);(simp(disch:=omega) only[bZ]);omega)) ?_
  refine W.ret ?_
  exact Fin.ret rfl ⟨by rw[qp,if_neg (by omega),bZ (by omega)];congr 4;omega,⟨⟩⟩
theorem mK(s:bO):Sound ty Tryz.prog 168 [.agg (cG s)] [.a (.lit (.bool (jd s)))]:=by
 refine Sound.of X Tryz.call168 Tryz.func168 rfl rfl (by decide) Tryz.ntmps168 (by simp) ?_
 intro zb
 refine W.fI 0 3 rfl rfl (fun nq=> ?_)
 refine W.seq ?_
 refine W.af X [] [] [1] [] rfl ⟨⟩ ?_
 refine W.seq ?_
 refine W.seq ?_
 refine W.af X [] [(7,⟨false,[.a (.lit (.bool (inr s.id 0 3)))]⟩),(12,⟨false,[.a (.lit (.bool (inr s.rows 1 64)))]⟩),(18,⟨false,[.a (.lit (.bool (inr s.behavior 0 3)))]⟩),(24,⟨false,[.a (.lit (.bool (inr s.round 0 100000)))]⟩)] [1,32] [] rfl (by(repeat' (first|with_reducible exact ak.nil|with_reducible refine ak.mk ?_ ?_|with_reducible apply And.intro))<;>skip;(iterate 4 (all_goals try (first|exact(aK s.id 0 3)|exact fun _=>(aK s.rows 1 64)|exact fun _=>(aK s.behavior 0 3)|exact fun _=>(aK s.round 0 100000))))) ?_
 refine W.cond rfl (fun hb0=> ?_) (fun hb0=> ?_)
 ·skip
  refine W.seq ?_
  refine W.af X [] [] [2] [] rfl ⟨⟩ ?_
  refine W.ret ?_
  exact Fin.ret rfl ⟨by rw[show jd s=false from Na hb0 (by simp only[Bd,aI,aJ,gt_iff_lt,ge_iff_le,aC,aD,bne_not,cX,decide_not,ne_eq,Bool.not_and,Bool.not_or,Bool.not_not,Bool.and_true,Bool.true_and,Bool.or_false,Bool.false_or,Int.toNat_natCast]<;>first|rfl|ac_rfl)],⟨⟩⟩
 ·have hh:Bd s=true:=cg hb0 (by simp only[Bd,aI,aJ,gt_iff_lt,ge_iff_le,aC,aD,bne_not,cX,decide_not,ne_eq,Bool.not_and,Bool.not_or,Bool.not_not,Bool.and_true,Bool.true_and,Bool.or_false,Bool.false_or,Int.toNat_natCast]<;>first|rfl|ac_rfl)
  refine W.skip ?_
  refine W.seq ?_
  refine W.seq ?_
  refine W.af X [] [] [1,34,35,36] [] rfl ⟨⟩ ?_
  refine W.block ?_
  refine W.aP (fun k=>k≤s.received.length∧(List.range k).all (ko s.rows s.received)=true) (fun k:Nat=> [(36, .one (.a (.lit (.int .i64 k))))]) (fun k=> []) (fun k=>s.received.length-k) 0 (fun k=>rfl) ⟨Nat.zero_le _,rfl⟩ rfl ?_
  rintro k ⟨hk,hall⟩
  have hw:(IntKind.i64.wrap ((k:Int)-1)).toNat=k-1:=by rw[bZ (by omega)];omega
  refine W.seq ?_
  refine W.af X [] [] [1,34,35,36,37] [] rfl ⟨⟩ ?_
  refine W.seq ?_
  refine W.cond rfl (fun aH=> ?_) (fun aH=> ?_)
  ·try simp only[nb,an,av,aa]at aH
   refine W.skip ?_
   refine W.seq ?_
   refine W.block ?_
   refine W.seq ?_
   refine W.af X [] [] [1,3,4,34,35,36] [] rfl (by(repeat' (first|exact True.intro|apply And.intro))<;>first| (intros;omega)) ?_
   refine W.seq ?_
   refine W.draw X [] [(43,⟨false,[.a (.lit (.bool (inr ((s.received.getD k (au .aE)).client) 0 7)))]⟩),(64,⟨false,[.a (.lit (.bool (iz ((s.received.getD k (au .aE)).share))))]⟩)] [1,34,35,36,75] [] 35 MO (by kernel_rfl) rfl (by(repeat' (first|with_reducible exact ak.nil|with_reducible refine ak.mk ?_ ?_|with_reducible apply And.intro))<;>skip;(iterate 2 (all_goals try (first|exact(aK ((s.received.getD k (au .aE)).client) 0 7)|exact fun _=>(dV ((s.received.getD k (au .aE)).share)))));all_goals (first| ((intro h1;first| (intro h2;first| (intro h3;refine And.intro ?_ ?_)|refine And.intro ?_ ?_)|refine And.intro ?_ ?_)<;>first|omega| ((try simp only[nb,an,av]at*);(try simp(disch:=omega) only[bZ]);omega)))) ?_
   refine W.cond rfl (fun bk=> ?_) (fun bk=> ?_)
   ·have hk2:ko s.rows s.received k=false:=cj bk (by simp only[hw,ko,aI,aJ,gt_iff_lt,ge_iff_le,aC,aD,bne_not,cX,decide_not,ne_eq,Bool.not_and,Bool.not_or,Bool.not_not,Bool.and_true,Bool.true_and,Bool.or_false,Bool.false_or,Int.toNat_natCast]<;>first|rfl|ac_rfl)
    refine W.seq ?_
    refine W.af X [] [] [2] [] rfl ⟨⟩ ?_
    refine W.ret ?_
    exact Fin.ret rfl ⟨by rw[show jd s=false by unfold jd;rw[gX aH hk2];simp],⟨⟩⟩
   ·have hk2:ko s.rows s.received k=true:=cg bk (by simp only[hw,ko,aI,aJ,gt_iff_lt,ge_iff_le,aC,aD,bne_not,cX,decide_not,ne_eq,Bool.not_and,Bool.not_or,Bool.not_not,Bool.and_true,Bool.true_and,Bool.or_false,Bool.false_or,Int.toNat_natCast]<;>first|rfl|ac_rfl)
    refine W.skip ?_
    refine W.af X [] [] [1,34,35,36] [] rfl ⟨⟩ ?_
    refine⟨k+1,⟨by omega,fW hall hk2⟩,by omega,?_⟩
    rw[bn _ k rfl (by omega)]
    try rfl
  ·try simp only[nb,an,av,aa]at aH
   have kr:(List.range s.received.length).all (ko s.rows s.received)=true:=by rw[show s.received.length=k by omega];exact hall
   refine W.exit ?_
   refine W.seq ?_
   refine W.af X [] [] [2] [] rfl ⟨⟩ ?_
   refine W.ret ?_
   exact Fin.ret rfl ⟨by rw[show jd s=true by unfold jd;rw[hh,kr];rfl],⟨⟩⟩
theorem lN(a:gJ):Sound ty Tryz.prog 165 [.agg (bN a)] [.a (.lit (.bool (kq a)))]:=by
 refine Sound.of X Tryz.call165 Tryz.func165 rfl rfl (by decide) Tryz.ntmps165 (by simp) ?_
 intro zb
 refine W.fI 0 1 rfl rfl (fun nq=> ?_)
 refine W.seq ?_
 refine W.af X [] [] [1] [] rfl ⟨⟩ ?_
 refine W.seq ?_
 refine W.seq ?_
 refine W.af X [] [] [1,6,7,8] [] rfl ⟨⟩ ?_
 refine W.block ?_
 refine W.aP (fun k=>k≤a.rounds.length∧(List.range k).all (qo a.rows a.rounds)=true) (fun k:Nat=> [(8, .one (.a (.lit (.int .i64 k))))]) (fun k=> []) (fun k=>a.rounds.length-k) 0 (fun k=>rfl) ⟨Nat.zero_le _,rfl⟩ rfl ?_
 rintro k ⟨hk,hall⟩
 have hw:(IntKind.i64.wrap ((k:Int)-1)).toNat=k-1:=by rw[bZ (by omega)];omega
 refine W.seq ?_
 refine W.af X [] [] [1,6,7,8,9] [] rfl ⟨⟩ ?_
 refine W.seq ?_
 refine W.cond rfl (fun hb0=> ?_) (fun hb0=> ?_)
 ·try simp only[nb,an,av,aa]at hb0
  refine W.skip ?_
  refine W.seq ?_
  refine W.block ?_
  refine W.seq ?_
  refine W.af X [] [] [1,3,4,6,7,8] [] rfl (by(repeat' (first|exact True.intro|apply And.intro))<;>first| (intros;omega)) ?_
  refine W.seq ?_
  refine W.draw X [] [(15,⟨false,[.a (.lit (.bool (inr ((a.rounds.getD k (au .az)).round) 0 100000)))]⟩),(36,⟨false,[.a (.lit (.bool (iz ((a.rounds.getD k (au .az)).db))))]⟩)] [1,6,7,8,47] [] 35 MO (by kernel_rfl) rfl (by(repeat' (first|with_reducible exact ak.nil|with_reducible refine ak.mk ?_ ?_|with_reducible apply And.intro))<;>skip;(iterate 2 (all_goals try (first|exact(aK ((a.rounds.getD k (au .az)).round) 0 100000)|exact fun _=>(dV ((a.rounds.getD k (au .az)).db)))));all_goals (first| ((intro h1;first| (intro h2;first| (intro h3;refine And.intro ?_ ?_)|refine And.intro ?_ ?_)|refine And.intro ?_ ?_)<;>first|omega| ((try simp only[nb,an,av]at*);(try simp(disch:=omega) only[bZ]);omega)))) ?_
  refine W.cond rfl (fun aH=> ?_) (fun aH=> ?_)
  ·have hk2:qo a.rows a.rounds k=false:=cj aH (by simp only[hw,qo,aI,aJ,gt_iff_lt,ge_iff_le,aC,aD,bne_not,cX,decide_not,ne_eq,Bool.not_and,Bool.not_or,Bool.not_not,Bool.and_true,Bool.true_and,Bool.or_false,Bool.false_or,Int.toNat_natCast]<;>first|rfl|ac_rfl)
   refine W.seq ?_
   refine W.af X [] [] [2] [] rfl ⟨⟩ ?_
   refine W.ret ?_
   exact Fin.ret rfl ⟨by rw[show kq a=false by unfold kq;rw[gX hb0 hk2];simp],⟨⟩⟩
  ·have hk2:qo a.rows a.rounds k=true:=cg aH (by simp only[hw,qo,aI,aJ,gt_iff_lt,ge_iff_le,aC,aD,bne_not,cX,decide_not,ne_eq,Bool.not_and,Bool.not_or,Bool.not_not,Bool.and_true,Bool.true_and,Bool.or_false,Bool.false_or,Int.toNat_natCast]<;>first|rfl|ac_rfl)
   refine W.skip ?_
   refine W.af X [] [] [1,6,7,8] [] rfl ⟨⟩ ?_
   refine⟨k+1,⟨by omega,fW hall hk2⟩,by omega,?_⟩
   rw[bn _ k rfl (by omega)]
   try rfl
 ·try simp only[nb,an,av,aa]at hb0
  have kr:(List.range a.rounds.length).all (qo a.rows a.rounds)=true:=by rw[show a.rounds.length=k by omega];exact hall
  refine W.exit ?_
  refine W.seq ?_
  refine W.af X [] [(51,⟨false,[.a (.lit (.bool (inr a.rows 1 64)))]⟩)] [2] [] rfl (by(repeat' (first|with_reducible exact ak.nil|with_reducible refine ak.mk ?_ ?_|with_reducible apply And.intro))<;>skip;(iterate 1 (all_goals try (first|exact(aK a.rows 1 64))))) ?_
  refine W.ret ?_
  exact Fin.ret rfl ⟨(congrArg Value.bool (by simp only[kq,DI,kr,aI,aJ,gt_iff_lt,ge_iff_le,aC,aD,bne_not,cX,decide_not,ne_eq,Bool.not_and,Bool.not_or,Bool.not_not,Bool.and_true,Bool.true_and,Bool.or_false,Bool.false_or,Int.toNat_natCast]<;>first|rfl|ac_rfl)),⟨⟩⟩
theorem mL(s:bO):Sound ty Tryz.prog 243 [.agg (cG s)] [.a (.lit (.bool (jd s)))]:=by
 refine Sound.of X Tryz.call243 Tryz.func243 rfl rfl (by decide) Tryz.ntmps243 (by simp) ?_
 intro zb
 refine W.fI 0 3 rfl rfl (fun nq=> ?_)
 refine W.seq ?_
 refine W.af X [] [] [1] [] rfl ⟨⟩ ?_
 refine W.seq ?_
 refine W.seq ?_
 refine W.af X [] [] [1,3] [] rfl ⟨⟩ ?_
 refine W.block ?_
 refine W.aP (fun k=>k≤s.received.length∧(List.range k).all (ko s.rows s.received)=true) (fun k:Nat=> [(3, .one (.a (.lit (.int .i64 k))))]) (fun k=> []) (fun k=>s.received.length-k) 0 (fun k=>rfl) ⟨Nat.zero_le _,rfl⟩ rfl ?_
 rintro k ⟨hk,hall⟩
 have hw:(IntKind.i64.wrap ((k:Int)-1)).toNat=k-1:=by rw[bZ (by omega)];omega
 refine W.seq ?_
 refine W.seq ?_
 refine W.af X [] [] [1,3,9] [] rfl ⟨⟩ ?_
 refine W.cond rfl (fun hb0=> ?_) (fun hb0=> ?_)
 ·try simp only[nb,an,av,aa]at hb0
  refine W.skip ?_
  refine W.seq ?_
  refine W.block ?_
  refine W.seq ?_
  refine W.af X [] [] [1,3,4] [] rfl (by(repeat' (first|exact True.intro|apply And.intro))<;>first| (intros;omega)) ?_
  refine W.seq ?_
  refine W.draw X [] [(19,⟨false,[.a (.lit (.bool (inr ((s.received.getD k (au .aE)).client) 0 7)))]⟩),(40,⟨false,[.a (.lit (.bool (iz ((s.received.getD k (au .aE)).share))))]⟩)] [1,3,51] [] 35 MO (by kernel_rfl) rfl (by(repeat' (first|with_reducible exact ak.nil|with_reducible refine ak.mk ?_ ?_|with_reducible apply And.intro))<;>skip;(iterate 2 (all_goals try (first|exact(aX ((s.received.getD k (au .aE)).client) 0 7)|exact fun _=>(dW ((s.received.getD k (au .aE)).share)))));all_goals (first| ((intro h1;first| (intro h2;first| (intro h3;refine And.intro ?_ ?_)|refine And.intro ?_ ?_)|refine And.intro ?_ ?_)<;>first|omega| ((try simp only[nb,an,av]at*);(try simp(disch:=omega) only[bZ]);omega)))) ?_
  refine W.cond rfl (fun aH=> ?_) (fun aH=> ?_)
  ·have hk2:ko s.rows s.received k=false:=cj aH (by simp only[hw,ko,aI,aJ,gt_iff_lt,ge_iff_le,aC,aD,bne_not,cX,decide_not,ne_eq,Bool.not_and,Bool.not_or,Bool.not_not,Bool.and_true,Bool.true_and,Bool.or_false,Bool.false_or,Int.toNat_natCast]<;>first|rfl|ac_rfl)
   refine W.seq ?_
   refine W.af X [] [] [2] [] rfl ⟨⟩ ?_
   refine W.ret ?_
   exact Fin.ret rfl ⟨by rw[show jd s=false by unfold jd;rw[gX hb0 hk2];simp],⟨⟩⟩
  ·have hk2:ko s.rows s.received k=true:=cg aH (by simp only[hw,ko,aI,aJ,gt_iff_lt,ge_iff_le,aC,aD,bne_not,cX,decide_not,ne_eq,Bool.not_and,Bool.not_or,Bool.not_not,Bool.and_true,Bool.true_and,Bool.or_false,Bool.false_or,Int.toNat_natCast]<;>first|rfl|ac_rfl)
   refine W.skip ?_
   refine W.af X [] [] [1,3] [] rfl ⟨⟩ ?_
   refine⟨k+1,⟨by omega,fW hall hk2⟩,by omega,?_⟩
   rw[bn _ k rfl (by omega)]
   try rfl
 ·try simp only[nb,an,av,aa]at hb0
  have kr:(List.range s.received.length).all (ko s.rows s.received)=true:=by rw[show s.received.length=k by omega];exact hall
  refine W.exit ?_
  refine W.seq ?_
  refine W.af X [] [(54,⟨false,[.a (.lit (.bool (inr s.id 0 3)))]⟩),(58,⟨false,[.a (.lit (.bool (inr s.rows 1 64)))]⟩),(63,⟨false,[.a (.lit (.bool (inr s.behavior 0 3)))]⟩),(68,⟨false,[.a (.lit (.bool (inr s.round 0 100000)))]⟩)] [2] [] rfl (by(repeat' (first|with_reducible exact ak.nil|with_reducible refine ak.mk ?_ ?_|with_reducible apply And.intro))<;>skip;(iterate 4 (all_goals try (first|exact(aX s.id 0 3)|exact fun _=>(aX s.rows 1 64)|exact fun _=>(aX s.behavior 0 3)|exact fun _=>(aX s.round 0 100000))))) ?_
  refine W.ret ?_
  exact Fin.ret rfl ⟨(congrArg Value.bool (by simp only[jd,Bd,kr,aI,aJ,gt_iff_lt,ge_iff_le,aC,aD,bne_not,cX,decide_not,ne_eq,Bool.not_and,Bool.not_or,Bool.not_not,Bool.and_true,Bool.true_and,Bool.or_false,Bool.false_or,Int.toNat_natCast]<;>first|rfl|ac_rfl)),⟨⟩⟩
theorem lO(a:gJ):Sound ty Tryz.prog 142 [.agg (bN a)] [.a (.lit (.bool (kq a)))]:=by
 refine Sound.of X Tryz.call142 Tryz.func142 rfl rfl (by decide) Tryz.ntmps142 (by simp) ?_
 intro zb
 refine W.fI 0 1 rfl rfl (fun nq=> ?_)
 refine W.seq ?_
 refine W.af X [] [] [1] [] rfl ⟨⟩ ?_
 refine W.seq ?_
 refine W.seq ?_
 refine W.af X [] [] [1,3] [] rfl ⟨⟩ ?_
 refine W.block ?_
 refine W.aP (fun k=>k≤a.rounds.length∧(List.range k).all (qo a.rows a.rounds)=true) (fun k:Nat=> [(3, .one (.a (.lit (.int .i64 k))))]) (fun k=> []) (fun k=>a.rounds.length-k) 0 (fun k=>rfl) ⟨Nat.zero_le _,rfl⟩ rfl ?_
 rintro k ⟨hk,hall⟩
 have hw:(IntKind.i64.wrap ((k:Int)-1)).toNat=k-1:=by rw[bZ (by omega)];omega
 refine W.seq ?_
 refine W.seq ?_
 refine W.af X [] [] [1,3,9] [] rfl ⟨⟩ ?_
 refine W.cond rfl (fun hb0=> ?_) (fun hb0=> ?_)
 ·try simp only[nb,an,av,aa]at hb0
  refine W.skip ?_
  refine W.seq ?_
  refine W.block ?_
  refine W.seq ?_
  refine W.af X [] [] [1,3,4] [] rfl (by(repeat' (first|exact True.intro|apply And.intro))<;>first| (intros;omega)) ?_
  refine W.seq ?_
  refine W.draw X [] [(19,⟨false,[.a (.lit (.bool (inr ((a.rounds.getD k (au .az)).round) 0 100000)))]⟩),(40,⟨false,[.a (.lit (.bool (iz ((a.rounds.getD k (au .az)).db))))]⟩)] [1,3,51] [] 35 MO (by kernel_rfl) rfl (by(repeat' (first|with_reducible exact ak.nil|with_reducible refine ak.mk ?_ ?_|with_reducible apply And.intro))<;>skip;(iterate 2 (all_goals try (first|exact(aX ((a.rounds.getD k (au .az)).round) 0 100000)|exact fun _=>(dW ((a.rounds.getD k (au .az)).db)))));all_goals (first| ((intro h1;first| (intro h2;first| (intro h3;refine And.intro ?_ ?_)|refine And.intro ?_ ?_)|refine And.intro ?_ ?_)<;>first|omega| ((try simp only[nb,an,av]at*);(try simp(disch:=omega) only[bZ]);omega)))) ?_
  refine W.cond rfl (fun aH=> ?_) (fun aH=> ?_)
  ·have hk2:qo a.rows a.rounds k=false:=cj aH (by simp only[hw,qo,aI,aJ,gt_iff_lt,ge_iff_le,aC,aD,bne_not,cX,decide_not,ne_eq,Bool.not_and,Bool.not_or,Bool.not_not,Bool.and_true,Bool.true_and,Bool.or_false,Bool.false_or,Int.toNat_natCast]<;>first|rfl|ac_rfl)
   refine W.seq ?_
   refine W.af X [] [] [2] [] rfl ⟨⟩ ?_
   refine W.ret ?_
   exact Fin.ret rfl ⟨by rw[show kq a=false by unfold kq;rw[gX hb0 hk2];simp],⟨⟩⟩
  ·have hk2:qo a.rows a.rounds k=true:=cg aH (by simp only[hw,qo,aI,aJ,gt_iff_lt,ge_iff_le,aC,aD,bne_not,cX,decide_not,ne_eq,Bool.not_and,Bool.not_or,Bool.not_not,Bool.and_true,Bool.true_and,Bool.or_false,Bool.false_or,Int.toNat_natCast]<;>first|rfl|ac_rfl)
   refine W.skip ?_
   refine W.af X [] [] [1,3] [] rfl ⟨⟩ ?_
   refine⟨k+1,⟨by omega,fW hall hk2⟩,by omega,?_⟩
   rw[bn _ k rfl (by omega)]
   try rfl
 ·try simp only[nb,an,av,aa]at hb0
  have kr:(List.range a.rounds.length).all (qo a.rows a.rounds)=true:=by rw[show a.rounds.length=k by omega];exact hall
  refine W.exit ?_
  refine W.seq ?_
  refine W.af X [] [(54,⟨false,[.a (.lit (.bool (inr a.rows 1 64)))]⟩)] [2] [] rfl (by(repeat' (first|with_reducible exact ak.nil|with_reducible refine ak.mk ?_ ?_|with_reducible apply And.intro))<;>skip;(iterate 1 (all_goals try (first|exact(aX a.rows 1 64))))) ?_
  refine W.ret ?_
  exact Fin.ret rfl ⟨(congrArg Value.bool (by simp only[kq,DI,kr,aI,aJ,gt_iff_lt,ge_iff_le,aC,aD,bne_not,cX,decide_not,ne_eq,Bool.not_and,Bool.not_or,Bool.not_not,Bool.and_true,Bool.true_and,Bool.or_false,Bool.false_or,Int.toNat_natCast]<;>first|rfl|ac_rfl)),⟨⟩⟩
theorem sU(a:List UInt8):(wR a).toList=a:=by
 rw[ByteArray.toList_eq];rfl
theorem jC(a b:List UInt8):Sound ty Tryz.prog 252 [.a (.sl .u8 a), .a (.sl .u8 b)] [.a (.lit (.bool (a==b)))]:=by
 refine Sound.of X Tryz.call252 Tryz.func252 rfl rfl (by decide) Tryz.ntmps252 (by simp) ?_
 intro zb
 refine W.seq ?_
 refine W.af X [] [] [0,1] [] rfl ⟨⟩ ?_
 refine W.seq ?_
 refine W.af X [] [] [4] [] rfl ⟨⟩ ?_
 refine W.ret ?_
 exact Fin.ret rfl ⟨by rw[sU,sU],⟨⟩⟩
theorem fm(a b:List UInt8):Sound ty Tryz.prog 337 [.a (.sl .u8 a), .a (.sl .u8 b)] [.a (.lit (.bool (a==b)))]:=by
 refine Sound.of X Tryz.call337 Tryz.func337 rfl rfl (by decide) Tryz.ntmps337 (by simp) ?_
 intro zb
 refine W.bound 0 rfl (fun lU=> ?_)
 refine W.bound 1 rfl (fun jq=> ?_)
 refine W.seq ?_
 refine W.af X [] [] [0,1] [] rfl ⟨⟩ ?_
 refine W.seq ?_
 refine W.seq ?_
 refine W.af X [] [] [0,1,10] [] rfl ⟨⟩ ?_
 refine W.cond rfl (fun hb0=> ?_) (fun hb0=> ?_)
 ·try simp only[nb,an,av,aa]at hb0
  refine W.seq ?_
  refine W.af X [] [] [4] [] rfl ⟨⟩ ?_
  refine W.ret ?_
  exact Fin.ret rfl ⟨by rw[rA a b hb0],⟨⟩⟩
 ·try simp only[nb,an,av,aa]at hb0
  refine W.skip ?_
  refine W.seq ?_
  refine W.seq ?_
  refine W.af X [] [] [0,1,12,13] [] rfl ⟨⟩ ?_
  refine W.block ?_
  refine W.aP (fun k=>k≤a.length∧a.take k=b.take k) (fun k:Nat=> [(13, .one (.a (.lit (.int .i64 k))))]) (fun k=> []) (fun k=>a.length-k) 0 (fun k=>rfl) ⟨Nat.zero_le _,rfl⟩ rfl ?_
  rintro k ⟨hk,hall⟩
  refine W.seq ?_
  refine W.af X [] [] [0,1,12,13,14] [] rfl ⟨⟩ ?_
  refine W.seq ?_
  refine W.cond rfl (fun aH=> ?_) (fun aH=> ?_)
  ·try simp only[nb,an,av,aa]at aH
   refine W.skip ?_
   refine W.seq ?_
   refine W.block ?_
   refine W.seq ?_
   refine W.af X [] [] [0,1,5,12,13] [] rfl ⟨⟩ ?_
   refine W.seq ?_
   refine W.draw X [] [] [0,1,12,13,24] [] 9 MO (by kernel_rfl) rfl (by(repeat' (first|exact True.intro|apply And.intro))<;>first| (intros;omega)) ?_
   refine W.cond rfl (fun bk=> ?_) (fun bk=> ?_)
   ·try simp only[nb,an,av,aa]at bk
    have hne:=oB a b (au .u8) k (fun h=>bk (by rw[h]))
    refine W.seq ?_
    refine W.af X [] [] [4] [] rfl ⟨⟩ ?_
    refine W.ret ?_
    exact Fin.ret rfl ⟨by rw[hne],⟨⟩⟩
   ·try simp only[nb,an,av,aa]at bk
    have he:a.getD k (au .u8)=b.getD k (au .u8):=Hf bk
    refine W.skip ?_
    refine W.af X [] [] [0,1,12,13] [] rfl ⟨⟩ ?_
    refine⟨k+1,⟨by omega,lf a b (au .u8) k aH (by omega) hall he⟩,by omega,?_⟩
    rw[bn _ k rfl (by omega)]
    try rfl
  ·try simp only[nb,an,av,aa]at aH
   refine W.exit ?_
   refine W.seq ?_
   refine W.af X [] [] [4] [] rfl ⟨⟩ ?_
   refine W.ret ?_
   exact Fin.ret rfl ⟨by rw[oC a b k (by omega) (by omega) hall],⟨⟩⟩
theorem jD(a b:List (List UInt8)):Sound ty Tryz.prog 255 [.a (.sl (.sl .u8) a), .a (.sl (.sl .u8) b)] [.a (.lit (.bool (a==b)))]:=by
 refine Sound.of X Tryz.call255 Tryz.func255 rfl rfl (by decide) Tryz.ntmps255 (by simp) ?_
 intro zb
 refine W.bound 0 rfl (fun lU=> ?_)
 refine W.bound 1 rfl (fun jq=> ?_)
 refine W.seq ?_
 refine W.af X [] [] [0,1] [] rfl ⟨⟩ ?_
 refine W.seq ?_
 refine W.seq ?_
 refine W.af X [] [] [0,1,10] [] rfl ⟨⟩ ?_
 refine W.cond rfl (fun hb0=> ?_) (fun hb0=> ?_)
 ·try simp only[nb,an,av,aa]at hb0
  refine W.seq ?_
  refine W.af X [] [] [4] [] rfl ⟨⟩ ?_
  refine W.ret ?_
  exact Fin.ret rfl ⟨by rw[rA a b hb0],⟨⟩⟩
 ·try simp only[nb,an,av,aa]at hb0
  refine W.skip ?_
  refine W.seq ?_
  refine W.seq ?_
  refine W.af X [] [] [0,1,5] [] rfl ⟨⟩ ?_
  refine W.block ?_
  refine W.aP (fun k=>k≤a.length∧a.take k=b.take k) (fun k:Nat=> [(5, .one (.a (.lit (.int .i64 k))))]) (fun k=> []) (fun k=>a.length-k) 0 (fun k=>rfl) ⟨Nat.zero_le _,rfl⟩ rfl ?_
  rintro k ⟨hk,hall⟩
  refine W.seq ?_
  refine W.seq ?_
  refine W.af X [] [] [0,1,5,14] [] rfl ⟨⟩ ?_
  refine W.cond rfl (fun aH=> ?_) (fun aH=> ?_)
  ·try simp only[nb,an,av,aa]at aH
   refine W.skip ?_
   refine W.seq ?_
   refine W.block ?_
   refine W.seq ?_
   refine W.draw X [] [(25,⟨false,[.a (.lit (.bool _))]⟩)] [0,1,5,26] [] 10 MO (by kernel_rfl) rfl (by(repeat' (first|with_reducible exact ak.nil|with_reducible refine ak.mk ?_ ?_|with_reducible apply And.intro))<;>skip;(iterate 1 (all_goals try (first|exact(jC _ _))));all_goals (first| (intros;omega))) ?_
   refine W.cond rfl (fun bk=> ?_) (fun bk=> ?_)
   ·try simp only[nb,an,av,aa]at bk
    have hne:=oB a b (au (.sl .u8)) k (fun h=>bk (by rw[h]))
    refine W.seq ?_
    refine W.af X [] [] [4] [] rfl ⟨⟩ ?_
    refine W.ret ?_
    exact Fin.ret rfl ⟨by rw[hne],⟨⟩⟩
   ·try simp only[nb,an,av,aa]at bk
    have he:a.getD k (au (.sl .u8))=b.getD k (au (.sl .u8)):=bk
    refine W.skip ?_
    refine W.af X [] [] [0,1,5] [] rfl ⟨⟩ ?_
    refine⟨k+1,⟨by omega,lf a b (au (.sl .u8)) k aH (by omega) hall he⟩,by omega,?_⟩
    rw[bn _ k rfl (by omega)]
    try rfl
  ·try simp only[nb,an,av,aa]at aH
   refine W.exit ?_
   refine W.seq ?_
   refine W.af X [] [] [4] [] rfl ⟨⟩ ?_
   refine W.ret ?_
   exact Fin.ret rfl ⟨by rw[oC a b k (by omega) (by omega) hall],⟨⟩⟩
theorem jE(a b:List UInt8):Sound ty Tryz.prog 270 [.a (.sl .u8 a), .a (.sl .u8 b)] [.a (.lit (.bool (a==b)))]:=by
 refine Sound.of X Tryz.call270 Tryz.func270 rfl rfl (by decide) Tryz.ntmps270 (by simp) ?_
 intro zb
 refine W.seq ?_
 refine W.af X [] [] [0,1] [] rfl ⟨⟩ ?_
 refine W.seq ?_
 refine W.af X [] [(7,⟨false,[.a (.lit (.bool _))]⟩)] [4] [] rfl (by(repeat' (first|with_reducible exact ak.nil|with_reducible refine ak.mk ?_ ?_|with_reducible apply And.intro))<;>skip;(iterate 1 (all_goals try (first|exact(fm _ _))))) ?_
 refine W.ret ?_
 exact Fin.ret rfl ⟨rfl,⟨⟩⟩
theorem eE(a b:List (List UInt8)):Sound ty Tryz.prog 366 [.a (.sl (.sl .u8) a), .a (.sl (.sl .u8) b), .a (.lit (.func (.func 270) #[] #[]))] [.a (.lit (.bool (a==b)))]:=by
 refine Sound.of X Tryz.call366 Tryz.func366 rfl rfl (by decide) Tryz.ntmps366 (by simp) ?_
 intro zb
 refine W.bound 0 rfl (fun lU=> ?_)
 refine W.bound 1 rfl (fun jq=> ?_)
 refine W.seq ?_
 refine W.af X [] [] [0,1,2] [] rfl ⟨⟩ ?_
 refine W.seq ?_
 refine W.seq ?_
 refine W.af X [] [] [0,1,2,14] [] rfl ⟨⟩ ?_
 refine W.cond rfl (fun hb0=> ?_) (fun hb0=> ?_)
 ·try simp only[nb,an,av,aa]at hb0
  refine W.seq ?_
  refine W.af X [] [] [6] [] rfl ⟨⟩ ?_
  refine W.ret ?_
  exact Fin.ret rfl ⟨by rw[rA a b hb0],⟨⟩⟩
 ·try simp only[nb,an,av,aa]at hb0
  refine W.skip ?_
  refine W.seq ?_
  refine W.seq ?_
  refine W.af X [] [] [1,2,15,16,17] [] rfl ⟨⟩ ?_
  refine W.block ?_
  refine W.aP (fun k=>k≤a.length∧a.take k=b.take k) (fun k:Nat=> [(17, .one (.a (.lit (.int .i64 k))))]) (fun k=> []) (fun k=>a.length-k) 0 (fun k=>rfl) ⟨Nat.zero_le _,rfl⟩ rfl ?_
  rintro k ⟨hk,hall⟩
  refine W.seq ?_
  refine W.af X [] [] [1,2,15,16,17,18] [] rfl ⟨⟩ ?_
  refine W.seq ?_
  refine W.cond rfl (fun aH=> ?_) (fun aH=> ?_)
  ·try simp only[nb,an,av,aa]at aH
   refine W.skip ?_
   refine W.seq ?_
   refine W.block ?_
   refine W.seq ?_
   refine W.af X [] [] [1,2,7,8,15,16,17] [] rfl (by(repeat' (first|exact True.intro|apply And.intro))<;>first| (intros;omega)) ?_
   refine W.seq ?_
   refine W.af X [] [] [1,2,8,9,15,16,17] [] rfl (by(repeat' (first|exact True.intro|apply And.intro))<;>first| (intros;omega)) ?_
   refine W.seq ?_
   refine W.af X [] [(29,⟨false,[.a (.lit (.bool (a.getD k (au (.sl .u8))==b.getD k (au (.sl .u8)))))]⟩)] [1,2,15,16,17,30] [] rfl (by(repeat' (first|with_reducible exact ak.nil|with_reducible refine ak.mk ?_ ?_|with_reducible apply And.intro))<;>skip;(iterate 1 (all_goals try (first|exact(jE _ _))))) ?_
   refine W.cond rfl (fun bk=> ?_) (fun bk=> ?_)
   ·try simp only[nb,an,av,aa]at bk
    have hne:=oB a b (au (.sl .u8)) k (fun h=>bk (by rw[h]))
    refine W.seq ?_
    refine W.af X [] [] [6] [] rfl ⟨⟩ ?_
    refine W.ret ?_
    exact Fin.ret rfl ⟨by rw[hne],⟨⟩⟩
   ·try simp only[nb,an,av,aa]at bk
    have he:a.getD k (au (.sl .u8))=b.getD k (au (.sl .u8)):=bk
    refine W.skip ?_
    refine W.af X [] [] [1,2,15,16,17] [] rfl ⟨⟩ ?_
    refine⟨k+1,⟨by omega,lf a b (au (.sl .u8)) k aH (by omega) hall he⟩,by omega,?_⟩
    rw[bn _ k rfl (by omega)]
    try rfl
  ·try simp only[nb,an,av,aa]at aH
   refine W.exit ?_
   refine W.seq ?_
   refine W.af X [] [] [6] [] rfl ⟨⟩ ?_
   refine W.ret ?_
   exact Fin.ret rfl ⟨by rw[oC a b k (by omega) (by omega) hall],⟨⟩⟩
theorem jF(a b:List (List UInt8)):Sound ty Tryz.prog 333 [.a (.sl (.sl .u8) a), .a (.sl (.sl .u8) b)] [.a (.lit (.bool (a==b)))]:=by
 refine Sound.of X Tryz.call333 Tryz.func333 rfl rfl (by decide) Tryz.ntmps333 (by simp) ?_
 intro zb
 refine W.seq ?_
 refine W.af X [] [] [0,1] [] rfl ⟨⟩ ?_
 refine W.seq ?_
 refine W.af X [] [(7,⟨false,[.a (.lit (.bool _))]⟩)] [4] [] rfl (by(repeat' (first|with_reducible exact ak.nil|with_reducible refine ak.mk ?_ ?_|with_reducible apply And.intro))<;>skip;(iterate 1 (all_goals try (first|exact(eE _ _))))) ?_
 refine W.ret ?_
 exact Fin.ret rfl ⟨rfl,⟨⟩⟩
theorem lD(b:List UInt8):Sound ty Tryz.prog 309 [.a (.sl .u8 b)] [.a (.lit (.bool (rF b)))]:=by
 refine Sound.of X Tryz.call309 Tryz.func309 rfl rfl (by decide) Tryz.ntmps309 (by simp) ?_
 intro zb
 refine W.seq ?_
 refine W.af X [] [] [0] [] rfl ⟨⟩ ?_
 refine W.seq ?_
 refine W.af X [] [] [2] [] rfl ⟨⟩ ?_
 refine W.ret ?_
 exact Fin.ret rfl ⟨rfl,⟨⟩⟩
theorem eF(n:Int):Sound ty Tryz.prog 164 [.a (.lit (.int .i64 n))] [.a (.lit (.bool (gq n)))]:=by
 refine Sound.of X Tryz.call164 Tryz.func164 rfl rfl (by decide) Tryz.ntmps164 (by simp) ?_
 intro zb
 refine W.seq ?_
 refine W.af X [] [] [0] [] rfl ⟨⟩ ?_
 refine W.seq ?_
 refine W.af X [] [(4,⟨false,[.a (.lit (.bool _))]⟩)] [2] [] rfl (by(repeat' (first|with_reducible exact ak.nil|with_reducible refine ak.mk ?_ ?_|with_reducible apply And.intro))<;>skip;(iterate 1 (all_goals try (first|exact(aK _ _ _))))) ?_
 refine W.ret ?_
 exact Fin.ret rfl ⟨rfl,⟨⟩⟩
theorem jf(n:Int):Sound ty Tryz.prog 244 [.a (.lit (.int .i64 n))] [.a (.lit (.bool (gq n)))]:=by
 refine Sound.of X Tryz.call244 Tryz.func244 rfl rfl (by decide) Tryz.ntmps244 (by simp) ?_
 intro zb
 refine W.seq ?_
 refine W.af X [] [] [0] [] rfl ⟨⟩ ?_
 refine W.seq ?_
 refine W.af X [] [(4,⟨false,[.a (.lit (.bool _))]⟩)] [2] [] rfl (by(repeat' (first|with_reducible exact ak.nil|with_reducible refine ak.mk ?_ ?_|with_reducible apply And.intro))<;>skip;(iterate 1 (all_goals try (first|exact(aX _ _ _))))) ?_
 refine W.ret ?_
 exact Fin.ret rfl ⟨rfl,⟨⟩⟩
theorem eG(c:dL):Sound ty Tryz.prog 217 [.agg (bf c)] [.a (.lit (.bool (eT c)))]:=by
 refine Sound.of X Tryz.call217 Tryz.func217 rfl rfl (by decide) Tryz.ntmps217 (by simp) ?_
 intro zb
 refine W.seq ?_
 refine W.af X [] [] [1] [] rfl ⟨⟩ ?_
 refine W.seq ?_
 refine W.af X [] [] [1,3] [] rfl ⟨⟩ ?_
 refine W.seq ?_
 refine W.af X [] [(6,⟨false,[.a (.lit (.bool (inr c.id 0 7)))]⟩),(10,⟨false,[.a (.lit (.bool (inr c.dD 0 7)))]⟩),(22,⟨false,[.a (.lit (.bool (gm c.key)))]⟩),(40,⟨false,[.a (.lit (.bool (c.aj.any rF)))]⟩),(47,⟨false,[.a (.lit (.bool (c.inbox.any rF)))]⟩),(56,⟨false,[.a (.lit (.bool (inr c.sent 0 (c.aj.length:Int))))]⟩),(61,⟨false,[.a (.lit (.bool (inr c.next 0 100000)))]⟩)] [2] [] rfl (by(repeat' (first|with_reducible exact ak.nil|with_reducible refine ak.mk ?_ ?_|with_reducible apply And.intro))<;>skip;(iterate 7 (all_goals try (first|exact(aK c.id 0 7)|exact fun _=>(aK c.dD 0 7)|exact fun _=>(eu c.key)|exact fun _=>(ck _ _ _ lD)|exact fun _=>(aK c.sent 0 (c.aj.length:Int))|exact fun _=>(aK c.next 0 100000))))) ?_
 refine W.ret ?_
 exact Fin.ret rfl ⟨(congrArg Value.bool (by simp only[eT,aI,aJ,gt_iff_lt,ge_iff_le,aC,aD,bne_not,cX,decide_not,ne_eq,Bool.not_and,Bool.not_or,Bool.not_not,Bool.and_true,Bool.true_and,Bool.or_false,Bool.false_or,Int.toNat_natCast]<;>first|rfl|ac_rfl)),⟨⟩⟩
theorem zG(i f k:Int):Sound ty Tryz.prog 305 [.a (.lit (.int .i64 i)), .a (.lit (.int .i64 f)), .a (.lit (.int .i64 k))] [.a (.lit (.bool (inr i 0 7&&inr f 0 7&& !(i==f)&&gm k)))]:=by
 refine Sound.of X Tryz.call305 Tryz.func305 rfl rfl (by decide) Tryz.ntmps305 (by simp) ?_
 intro zb
 refine W.seq ?_
 refine W.af X [] [] [0,1,2] [] rfl ⟨⟩ ?_
 refine W.seq ?_
 refine W.af X [] [(8,⟨false,[.a (.lit (.bool (inr i 0 7)))]⟩),(11,⟨false,[.a (.lit (.bool (inr f 0 7)))]⟩),(20,⟨false,[.a (.lit (.bool (gm k)))]⟩)] [6] [] rfl (by(repeat' (first|with_reducible exact ak.nil|with_reducible refine ak.mk ?_ ?_|with_reducible apply And.intro))<;>skip;(iterate 3 (all_goals try (first|exact(aX i 0 7)|exact fun _=>(aX f 0 7)|exact fun _=>(ew k))))) ?_
 refine W.ret ?_
 exact Fin.ret rfl ⟨(congrArg Value.bool (by simp only[aI,aJ,gt_iff_lt,ge_iff_le,aC,aD,bne_not,cX,decide_not,ne_eq,Bool.not_and,Bool.not_or,Bool.not_not,Bool.and_true,Bool.true_and,Bool.or_false,Bool.false_or,Int.toNat_natCast]<;>first|rfl|ac_rfl)),⟨⟩⟩
theorem ku(l:List (List UInt8)):Sound ty Tryz.prog 306 [.a (.sl (.sl .u8) l)] [.a (.lit (.bool (decide ((l.length:Int)≤16)&& !l.any rF)))]:=by
 refine Sound.of X Tryz.call306 Tryz.func306 rfl rfl (by decide) Tryz.ntmps306 (by simp) ?_
 intro zb
 refine W.bound 0 rfl (fun nq=> ?_)
 refine W.seq ?_
 refine W.af X [] [] [0] [] rfl ⟨⟩ ?_
 refine W.seq ?_
 refine W.seq ?_
 refine W.af X [] [] [0,3] [] rfl ⟨⟩ ?_
 refine W.block ?_
 refine W.aP (fun k=>k≤l.length∧(l.take k).any rF=false) (fun k:Nat=> [(3, .one (.a (.lit (.int .i64 k))))]) (fun k=> []) (fun k=>l.length-k) 0 (fun k=>rfl) ⟨Nat.zero_le _,rfl⟩ rfl ?_
 rintro k ⟨hk,hall⟩
 refine W.seq ?_
 refine W.seq ?_
 refine W.af X [] [] [0,3,7] [] rfl ⟨⟩ ?_
 refine W.cond rfl (fun hb0=> ?_) (fun hb0=> ?_)
 ·try simp only[nb,an,av,aa]at hb0
  refine W.skip ?_
  refine W.seq ?_
  refine W.block ?_
  refine W.seq ?_
  refine W.af X [] [] [0,3,15] [] rfl (by(repeat' (first|exact True.intro|apply And.intro))<;>first| (intros;omega)) ?_
  refine W.cond rfl (fun aH=> ?_) (fun aH=> ?_)
  ·skip
   refine W.seq ?_
   refine W.af X [] [] [2] [] rfl ⟨⟩ ?_
   refine W.ret ?_
   exact Fin.ret rfl ⟨by rw[zC l rF (au (.sl .u8)) k hb0 aH];simp,⟨⟩⟩
  ·skip
   refine W.skip ?_
   refine W.af X [] [] [0,3] [] rfl ⟨⟩ ?_
   refine⟨k+1,⟨by omega,vX (au (.sl .u8)) hb0 hall aH⟩,by omega,?_⟩
   rw[bn _ k rfl (by omega)]
   try rfl
 ·try simp only[nb,an,av,aa]at hb0
  have kr:l.any rF=false:=by rw[←hall,List.take_of_length_le hb0]
  refine W.exit ?_
  refine W.seq ?_
  refine W.af X [] [] [2] [] rfl ⟨⟩ ?_
  refine W.ret ?_
  exact Fin.ret rfl ⟨by rw[kr];simp,⟨⟩⟩
theorem eH(c:dL):Sound ty Tryz.prog 213 [.agg (bf c)] [.a (.lit (.bool (eT c)))]:=by
 refine Sound.of X Tryz.call213 Tryz.func213 rfl rfl (by decide) Tryz.ntmps213 (by simp) ?_
 intro zb
 refine W.seq ?_
 refine W.af X [] [] [1] [] rfl ⟨⟩ ?_
 refine W.seq ?_
 refine W.af X [] [(9,⟨false,[.a (.lit (.bool (inr c.id 0 7&&inr c.dD 0 7&& !(c.id==c.dD)&&gm c.key)))]⟩),(13,⟨false,[.a (.lit (.bool (decide ((c.aj.length:Int)≤16)&& !c.aj.any rF)))]⟩),(18,⟨false,[.a (.lit (.bool (decide ((c.inbox.length:Int)≤16)&& !c.inbox.any rF)))]⟩),(26,⟨false,[.a (.lit (.bool (inr c.sent 0 (c.aj.length:Int))))]⟩),(31,⟨false,[.a (.lit (.bool (inr c.next 0 100000)))]⟩)] [2] [] rfl (by(repeat' (first|with_reducible exact ak.nil|with_reducible refine ak.mk ?_ ?_|with_reducible apply And.intro))<;>skip;(iterate 5 (all_goals try (first|exact(zG c.id c.dD c.key)|exact fun _=>(ku c.aj)|exact fun _=>(ku c.inbox)|exact fun _=>(aX c.sent 0 (c.aj.length:Int))|exact fun _=>(aX c.next 0 100000))))) ?_
 refine W.ret ?_
 exact Fin.ret rfl ⟨(congrArg Value.bool (by simp only[eT,aI,aJ,gt_iff_lt,ge_iff_le,aC,aD,bne_not,cX,decide_not,ne_eq,Bool.not_and,Bool.not_or,Bool.not_not,Bool.and_true,Bool.true_and,Bool.or_false,Bool.false_or,Int.toNat_natCast]<;>first|rfl|ac_rfl)),⟨⟩⟩
theorem rI(a b:dL):Sound ty Tryz.prog 263 [.agg (bf a), .agg (bf b)] [.a (.lit (.bool (jB a b)))]:=by
 refine Sound.of X Tryz.call263 Tryz.func263 rfl rfl (by decide) Tryz.ntmps263 (by simp) ?_
 intro zb
 refine W.seq ?_
 refine W.af X [] [] [2,3] [] rfl ⟨⟩ ?_
 refine W.seq ?_
 refine W.af X [] [(36,⟨false,[.a (.lit (.bool (a.aj==b.aj)))]⟩)] [4] [] rfl (by(repeat' (first|with_reducible exact ak.nil|with_reducible refine ak.mk ?_ ?_|with_reducible apply And.intro))<;>skip;(iterate 1 (all_goals try (first|exact fun _=>(jF a.aj b.aj))))) ?_
 refine W.ret ?_
 exact Fin.ret rfl ⟨(congrArg Value.bool (by simp only[jB,aI,aJ,gt_iff_lt,ge_iff_le,aC,aD,bne_not,cX,decide_not,ne_eq,Bool.not_and,Bool.not_or,Bool.not_not,Bool.and_true,Bool.true_and,Bool.or_false,Bool.false_or,Int.toNat_natCast]<;>first|rfl|ac_rfl)),⟨⟩⟩
theorem tw(a b:List (List UInt8)):Sound ty Tryz.prog 264 [.a (.sl (.sl .u8) a), .a (.sl (.sl .u8) b)] [.a (.lit (.bool (Hx a b)))]:=by
 refine Sound.of X Tryz.call264 Tryz.func264 rfl rfl (by decide) Tryz.ntmps264 (by simp) ?_
 intro zb
 refine W.seq ?_
 refine W.af X [] [] [0,1] [] rfl ⟨⟩ ?_
 refine W.seq ?_
 refine W.af X [] [(16,⟨false,[.a (.lit (.bool (a==((b.take (a.length:Int).toNat).drop (0:Int).toNat))))]⟩)] [4] [] rfl (by(repeat' (first|with_reducible exact ak.nil|with_reducible refine ak.mk ?_ ?_|with_reducible apply And.intro))<;>skip;(iterate 1 (all_goals try (first|exact fun _=>(jF a ((b.take (a.length:Int).toNat).drop (0:Int).toNat)))));all_goals (first| ((intro h1;first| (intro h2;first| (intro h3;refine And.intro ?_ ?_)|refine And.intro ?_ ?_)|refine And.intro ?_ ?_)<;>first|omega| ((try simp only[nb,an,av]at*);(try simp(disch:=omega) only[bZ]);omega)))) ?_
 refine W.ret ?_
 exact Fin.ret rfl ⟨(congrArg Value.bool (by simp only[Hx,List.drop_zero,Int.toNat_zero,aI,aJ,gt_iff_lt,ge_iff_le,aC,aD,bne_not,cX,decide_not,ne_eq,Bool.not_and,Bool.not_or,Bool.not_not,Bool.and_true,Bool.true_and,Bool.or_false,Bool.false_or,Int.toNat_natCast]<;>first|rfl|ac_rfl)),⟨⟩⟩
theorem dn(d:aO):Sound ty Tryz.prog 169 [.agg (bq d)] [.a (.lit (.bool (dX d)))]:=by
 refine Sound.of X Tryz.call169 Tryz.func169 rfl rfl (by decide) Tryz.ntmps169 (by simp) ?_
 intro zb
 refine W.seq ?_
 refine W.af X [] [] [1] [] rfl ⟨⟩ ?_
 refine W.seq ?_
 refine W.af X [] [(5,⟨false,[.a (.lit (.bool (eT d.live)))]⟩),(9,⟨false,[.a (.lit (.bool (eT d.saved)))]⟩),(16,⟨false,[.a (.lit (.bool (jB d.live d.saved)))]⟩),(43,⟨false,[.a (.lit (.bool (Hx d.saved.inbox d.live.inbox)))]⟩)] [2] [] rfl (by(repeat' (first|with_reducible exact ak.nil|with_reducible refine ak.mk ?_ ?_|with_reducible apply And.intro))<;>skip;(iterate 4 (all_goals try (first|exact(eG d.live)|exact fun _=>(eG d.saved)|exact fun _=>(rI d.live d.saved)|exact fun _=>(tw d.saved.inbox d.live.inbox))))) ?_
 refine W.ret ?_
 exact Fin.ret rfl ⟨(congrArg Value.bool (by simp only[dX,aI,aJ,gt_iff_lt,ge_iff_le,aC,aD,bne_not,cX,decide_not,ne_eq,Bool.not_and,Bool.not_or,Bool.not_not,Bool.and_true,Bool.true_and,Bool.or_false,Bool.false_or,Int.toNat_natCast]<;>first|rfl|ac_rfl)),⟨⟩⟩
theorem dr(d:aO):Sound ty Tryz.prog 154 [.agg (bq d)] [.a (.lit (.bool (dX d)))]:=by
 refine Sound.of X Tryz.call154 Tryz.func154 rfl rfl (by decide) Tryz.ntmps154 (by simp) ?_
 intro zb
 refine W.seq ?_
 refine W.af X [] [] [1] [] rfl ⟨⟩ ?_
 refine W.seq ?_
 refine W.af X [] [] [1,3] [] rfl ⟨⟩ ?_
 refine W.seq ?_
 refine W.af X [] [] [3,4] [] rfl ⟨⟩ ?_
 refine W.seq ?_
 refine W.seq ?_
 refine W.af X [] [(10,⟨false,[.a (.lit (.bool (eT d.live)))]⟩),(14,⟨false,[.a (.lit (.bool (eT d.saved)))]⟩),(50,⟨false,[.a (.lit (.bool (d.live.aj==d.saved.aj)))]⟩)] [3,4,52] [] rfl (by(repeat' (first|with_reducible exact ak.nil|with_reducible refine ak.mk ?_ ?_|with_reducible apply And.intro))<;>skip;(iterate 3 (all_goals try (first|exact(eH d.live)|exact fun _=>(eH d.saved)|exact fun _=>(jD d.live.aj d.saved.aj))))) ?_
 refine W.cond rfl (fun hb0=> ?_) (fun hb0=> ?_)
 ·skip
  refine W.seq ?_
  refine W.af X [] [] [2] [] rfl ⟨⟩ ?_
  refine W.ret ?_
  exact Fin.ret rfl ⟨by rw[show dX d=false from by rw[dX,cj (R:=eT d.live&&eT d.saved&&jB d.live d.saved) hb0 (by simp only[jB,aI,aJ,gt_iff_lt,ge_iff_le,aC,aD,bne_not,cX,decide_not,ne_eq,Bool.not_and,Bool.not_or,Bool.not_not,Bool.and_true,Bool.true_and,Bool.or_false,Bool.false_or,Int.toNat_natCast]<;>first|rfl|ac_rfl)];rfl],⟨⟩⟩
 ·have hh:(eT d.live&&eT d.saved&&jB d.live d.saved)=true:=cg hb0 (by simp only[jB,aI,aJ,gt_iff_lt,ge_iff_le,aC,aD,bne_not,cX,decide_not,ne_eq,Bool.not_and,Bool.not_or,Bool.not_not,Bool.and_true,Bool.true_and,Bool.or_false,Bool.false_or,Int.toNat_natCast]<;>first|rfl|ac_rfl)
  refine W.skip ?_
  refine W.seq ?_
  refine W.draw X [] [(83,⟨false,[.a (.lit (.bool (d.saved.inbox==((d.live.inbox.take (d.saved.inbox.length:Int).toNat).drop (0:Int).toNat))))]⟩)] [2] [] 33 MO (by kernel_rfl) rfl (by(repeat' (first|with_reducible exact ak.nil|with_reducible refine ak.mk ?_ ?_|with_reducible apply And.intro))<;>skip;(iterate 1 (all_goals try (first|exact fun _=>(jD d.saved.inbox ((d.live.inbox.take (d.saved.inbox.length:Int).toNat).drop (0:Int).toNat)))));all_goals (first| ((intro h1;first| (intro h2;first| (intro h3;refine And.intro ?_ ?_)|refine And.intro ?_ ?_)|refine And.intro ?_ ?_)<;>first|omega| ((try simp only[nb,an,av]at*);(try simp(disch:=omega) only[bZ]);omega)))) ?_
  refine W.ret ?_
  exact Fin.ret rfl ⟨(congrArg Value.bool (by simp only[dX,hh,Hx,List.drop_zero,Int.toNat_zero,aI,aJ,gt_iff_lt,ge_iff_le,aC,aD,bne_not,cX,decide_not,ne_eq,Bool.not_and,Bool.not_or,Bool.not_not,Bool.and_true,Bool.true_and,Bool.or_false,Bool.false_or,Int.toNat_natCast]<;>first|rfl|ac_rfl)),⟨⟩⟩
end Go.Proofs.YtjcojocjlglglaaGreat.G
namespace Go.Proofs.YtjcojocjlglglaaGreat.G
set_option linter.all false
open Go.RowKit L D
set_option maxRecDepth 100000
theorem iE(x:b7):Sound ty Tryz.prog 73 [.agg (bz x)] [.a (.lit (.bool (okW x)))]:=by
 refine Sound.of X Tryz.call73 Tryz.func73 rfl rfl (by decide) Tryz.ntmps73 (by simp) ?_
 intro zb
 refine W.fI 0 1 rfl rfl (fun lU=> ?_)
 refine W.fI 0 2 rfl rfl (fun jq=> ?_)
 refine W.seq ?_
 refine W.af X [] [] [1] [] rfl ⟨⟩ ?_
 refine W.seq ?_
 refine W.seq ?_
 refine W.draw X [] [(10,⟨false,[.a (.lit (.bool (inr x.rows 1 64)))]⟩),(16,⟨false,[.a (.lit (.bool (gq (x.aq.length:Int))))]⟩),(23,⟨false,[.a (.lit (.bool (inr (x.ah.length:Int) 2 8)))]⟩),(36,⟨false,[.a (.lit (.bool (kq x.aA)))]⟩),(50,⟨false,[.a (.lit (.int .i64 (qp x.aA)))]⟩),(58,⟨false,[.a (.lit (.bool (gm x.cU)))]⟩),(64,⟨false,[.a (.lit (.bool (inr x.round 0 100000)))]⟩)] [1,71] [] 64 MO (by kernel_rfl) rfl (by(repeat' (first|with_reducible exact ak.nil|with_reducible refine ak.mk ?_ ?_|with_reducible apply And.intro))<;>skip;(iterate 7 (all_goals try (first|exact(aK x.rows 1 64)|exact fun _=>(eF (x.aq.length:Int))|exact fun _=>(aK (x.ah.length:Int) 2 8)|exact fun _=>(lN x.aA)|exact fun _=>(rG x.aA)|exact fun _=>(eu x.cU)|exact fun _=>(aK x.round 0 100000))));all_goals (first| (refine fun _=> ?_;dsimp only[hyps,FI];omega))) ?_
 refine W.cond rfl (fun hb0=> ?_) (fun hb0=> ?_)
 ·skip
  refine W.seq ?_
  refine W.af X [] [] [2] [] rfl ⟨⟩ ?_
  refine W.ret ?_
  exact Fin.ret rfl ⟨by rw[show okW x=false from by rw[okW,cj (R:=Hy x) hb0 (by simp only[Hy,aI,aJ,gt_iff_lt,ge_iff_le,aC,aD,bne_not,cX,decide_not,ne_eq,Bool.not_and,Bool.not_or,Bool.not_not,Bool.and_true,Bool.true_and,Bool.or_false,Bool.false_or,Int.toNat_natCast]<;>first|rfl|ac_rfl)];rfl],⟨⟩⟩
 ·have hh:Hy x=true:=cg hb0 (by simp only[Hy,aI,aJ,gt_iff_lt,ge_iff_le,aC,aD,bne_not,cX,decide_not,ne_eq,Bool.not_and,Bool.not_or,Bool.not_not,Bool.and_true,Bool.true_and,Bool.or_false,Bool.false_or,Int.toNat_natCast]<;>first|rfl|ac_rfl)
  obtain⟨KR,OR,_⟩:=tW hh
  refine W.skip ?_
  refine W.seq ?_
  refine W.seq ?_
  refine W.af X [] [] [1,73,74,75] [] rfl ⟨⟩ ?_
  refine W.block ?_
  refine W.aP (fun k=>k≤x.aq.length∧(List.range k).all (DJ x)=true) (fun k:Nat=> [(75, .one (.a (.lit (.int .i64 k))))]) (fun k=> []) (fun k=>x.aq.length-k) 0 (fun k=>rfl) ⟨Nat.zero_le _,rfl⟩ rfl ?_
  rintro k ⟨hk,hall⟩
  refine W.seq ?_
  refine W.af X [] [] [1,73,74,75,76] [] rfl ⟨⟩ ?_
  refine W.seq ?_
  refine W.cond rfl (fun aH=> ?_) (fun aH=> ?_)
  ·try simp only[nb,an,av,aa]at aH
   refine W.skip ?_
   refine W.seq ?_
   refine W.block ?_
   refine W.seq ?_
   refine W.af X [] [] [1,3,4,73,74,75] [] rfl (by(repeat' (first|exact True.intro|apply And.intro))<;>first| (intros;omega)) ?_
   refine W.seq ?_
   refine W.af X [] [(81,⟨false,[.a (.lit (.bool (jd (x.aq.getD k (au .bO)))))]⟩)] [1,73,74,75,108] [] rfl (by(repeat' (first|with_reducible exact ak.nil|with_reducible refine ak.mk ?_ ?_|with_reducible apply And.intro))<;>skip;(iterate 1 (all_goals try (first|exact(mK (x.aq.getD k (au .bO))))))) ?_
   refine W.cond rfl (fun bk=> ?_) (fun bk=> ?_)
   ·have hk2:DJ x k=false:=cj bk (by simp only[DJ,aI,aJ,gt_iff_lt,ge_iff_le,aC,aD,bne_not,cX,decide_not,ne_eq,Bool.not_and,Bool.not_or,Bool.not_not,Bool.and_true,Bool.true_and,Bool.or_false,Bool.false_or,Int.toNat_natCast]<;>first|rfl|ac_rfl)
    refine W.seq ?_
    refine W.af X [] [] [2] [] rfl ⟨⟩ ?_
    refine W.ret ?_
    exact Fin.ret rfl ⟨by rw[show okW x=false from by rw[okW,gX aH hk2];simp],⟨⟩⟩
   ·have hk2:DJ x k=true:=cg bk (by simp only[DJ,aI,aJ,gt_iff_lt,ge_iff_le,aC,aD,bne_not,cX,decide_not,ne_eq,Bool.not_and,Bool.not_or,Bool.not_not,Bool.and_true,Bool.true_and,Bool.or_false,Bool.false_or,Int.toNat_natCast]<;>first|rfl|ac_rfl)
    refine W.skip ?_
    refine W.af X [] [] [1,73,74,75] [] rfl ⟨⟩ ?_
    refine⟨k+1,⟨by omega,fW hall hk2⟩,by omega,?_⟩
    rw[bn _ k rfl (by omega)]
    try rfl
  ·try simp only[nb,an,av,aa]at aH
   have kr:(List.range x.aq.length).all (DJ x)=true:=by rw[show x.aq.length=k by omega];exact hall
   refine W.exit ?_
   refine W.seq ?_
   refine W.seq ?_
   refine W.af X [] [] [1,111,112,113] [] rfl ⟨⟩ ?_
   refine W.block ?_
   refine W.aP (fun k1=>k1≤x.ah.length∧(List.range k1).all (Be x)=true) (fun k1:Nat=> [(113, .one (.a (.lit (.int .i64 k1))))]) (fun k1=> []) (fun k1=>x.ah.length-k1) 0 (fun k1=>rfl) ⟨Nat.zero_le _,rfl⟩ rfl ?_
   rintro k1 ⟨hk1,Ka⟩
   refine W.seq ?_
   refine W.af X [] [] [1,111,112,113,114] [] rfl ⟨⟩ ?_
   refine W.seq ?_
   refine W.cond rfl (fun lu=> ?_) (fun lu=> ?_)
   ·try simp only[nb,an,av,aa]at lu
    have hx:=Nb k1 (by omega)
    have hlt:=Hz k1 x.ah.length lu KR
    refine W.skip ?_
    refine W.seq ?_
    refine W.block ?_
    refine W.seq ?_
    refine W.af X [] [] [1,5,6,111,112,113] [] rfl (by(repeat' (first|exact True.intro|apply And.intro))<;>first| (intros;omega)) ?_
    refine W.seq ?_
    refine W.af X [] [] [1,5,6,7,111,112,113] [] rfl ⟨⟩ ?_
    refine W.seq ?_
    refine W.draw X [] [(121,⟨false,[.a (.lit (.bool (dX (x.ah.getD k1 (au .aO)))))]⟩)] [1,111,112,113,155] [] 36 MO (by kernel_rfl) rfl (by(repeat' (first|with_reducible exact ak.nil|with_reducible refine ak.mk ?_ ?_|with_reducible apply And.intro))<;>skip;(iterate 1 (all_goals try (first|exact(dn (x.ah.getD k1 (au .aO))))));all_goals (first| ((intro h1;first| (intro h2;first| (intro h3;refine And.intro ?_ ?_)|refine And.intro ?_ ?_)|refine And.intro ?_ ?_)<;>first|omega| ((try simp only[nb,an,av]at*);(try simp(disch:=omega) only[bZ]);omega)))) ?_
    refine W.cond rfl (fun rB=> ?_) (fun rB=> ?_)
    ·have F3:Be x k1=false:=cj rB (by simp only[Be,hx,aI,aJ,gt_iff_lt,ge_iff_le,aC,aD,bne_not,cX,decide_not,ne_eq,Bool.not_and,Bool.not_or,Bool.not_not,Bool.and_true,Bool.true_and,Bool.or_false,Bool.false_or,Int.toNat_natCast]<;>first|rfl|ac_rfl)
     refine W.seq ?_
     refine W.af X [] [] [2] [] rfl ⟨⟩ ?_
     refine W.ret ?_
     exact Fin.ret rfl ⟨by rw[show okW x=false from by rw[okW,gX lu F3];simp],⟨⟩⟩
    ·have F3:Be x k1=true:=cg rB (by simp only[Be,hx,aI,aJ,gt_iff_lt,ge_iff_le,aC,aD,bne_not,cX,decide_not,ne_eq,Bool.not_and,Bool.not_or,Bool.not_not,Bool.and_true,Bool.true_and,Bool.or_false,Bool.false_or,Int.toNat_natCast]<;>first|rfl|ac_rfl)
     refine W.skip ?_
     refine W.af X [] [] [1,111,112,113] [] rfl ⟨⟩ ?_
     refine⟨k1+1,⟨by omega,fW Ka F3⟩,by omega,?_⟩
     rw[bn _ k1 rfl (by omega)]
     try rfl
   ·try simp only[nb,an,av,aa]at lu
    have HA:(List.range x.ah.length).all (Be x)=true:=by rw[show x.ah.length=k1 by omega];exact Ka
    refine W.exit ?_
    refine W.seq ?_
    refine W.af X [] [] [2] [] rfl ⟨⟩ ?_
    refine W.ret ?_
    exact Fin.ret rfl ⟨by rw[okW,hh,kr,HA];rfl,⟨⟩⟩
theorem qt(x:b7):Sound ty Tryz.prog 140 [.agg (bz x)] [.a (.lit (.bool (Mg x)))]:=by
 refine Sound.of X Tryz.call140 Tryz.func140 rfl rfl (by decide) Tryz.ntmps140 (by simp) ?_
 intro zb
 refine W.fI 0 1 rfl rfl (fun lU=> ?_)
 refine W.fI 0 2 rfl rfl (fun jq=> ?_)
 refine W.seq ?_
 refine W.af X [] [] [1] [] rfl ⟨⟩ ?_
 refine W.seq ?_
 refine W.seq ?_
 refine W.af X [] [] [1,3] [] rfl ⟨⟩ ?_
 refine W.block ?_
 refine W.aP (fun k=>k≤x.aq.length∧(List.range k).all (DJ x)=true) (fun k:Nat=> [(3, .one (.a (.lit (.int .i64 k))))]) (fun k=> []) (fun k=>x.aq.length-k) 0 (fun k=>rfl) ⟨Nat.zero_le _,rfl⟩ rfl ?_
 rintro k ⟨hk,hall⟩
 refine W.seq ?_
 refine W.seq ?_
 refine W.af X [] [] [1,3,9] [] rfl ⟨⟩ ?_
 refine W.cond rfl (fun hb0=> ?_) (fun hb0=> ?_)
 ·try simp only[nb,an,av,aa]at hb0
  refine W.skip ?_
  refine W.seq ?_
  refine W.block ?_
  refine W.seq ?_
  refine W.af X [] [] [1,3,4] [] rfl (by(repeat' (first|exact True.intro|apply And.intro))<;>first| (intros;omega)) ?_
  refine W.seq ?_
  refine W.af X [] [(18,⟨false,[.a (.lit (.bool (jd (x.aq.getD k (au .bO)))))]⟩)] [1,3,45] [] rfl (by(repeat' (first|with_reducible exact ak.nil|with_reducible refine ak.mk ?_ ?_|with_reducible apply And.intro))<;>skip;(iterate 1 (all_goals try (first|exact(mL (x.aq.getD k (au .bO))))))) ?_
  refine W.cond rfl (fun aH=> ?_) (fun aH=> ?_)
  ·have hk2:DJ x k=false:=cj aH (by simp only[DJ,aI,aJ,gt_iff_lt,ge_iff_le,aC,aD,bne_not,cX,decide_not,ne_eq,Bool.not_and,Bool.not_or,Bool.not_not,Bool.and_true,Bool.true_and,Bool.or_false,Bool.false_or,Int.toNat_natCast]<;>first|rfl|ac_rfl)
   refine W.seq ?_
   refine W.af X [] [] [2] [] rfl ⟨⟩ ?_
   refine W.ret ?_
   exact Fin.ret rfl ⟨by rw[show Mg x=false from by rw[Mg,gX hb0 hk2];simp],⟨⟩⟩
  ·have hk2:DJ x k=true:=cg aH (by simp only[DJ,aI,aJ,gt_iff_lt,ge_iff_le,aC,aD,bne_not,cX,decide_not,ne_eq,Bool.not_and,Bool.not_or,Bool.not_not,Bool.and_true,Bool.true_and,Bool.or_false,Bool.false_or,Int.toNat_natCast]<;>first|rfl|ac_rfl)
   refine W.skip ?_
   refine W.af X [] [] [1,3] [] rfl ⟨⟩ ?_
   refine⟨k+1,⟨by omega,fW hall hk2⟩,by omega,?_⟩
   rw[bn _ k rfl (by omega)]
   try rfl
 ·try simp only[nb,an,av,aa]at hb0
  have kr:(List.range x.aq.length).all (DJ x)=true:=by rw[show x.aq.length=k by omega];exact hall
  refine W.exit ?_
  refine W.seq ?_
  refine W.af X [] [(49,⟨false,[.a (.lit (.bool _))]⟩)] [2] [] rfl (by(repeat' (first|with_reducible exact ak.nil|with_reducible refine ak.mk ?_ ?_|with_reducible apply And.intro))<;>skip;(iterate 1 (all_goals try (first|exact(jf _))))) ?_
  refine W.ret ?_
  exact Fin.ret rfl ⟨by rw[Mg,kr];rfl,⟨⟩⟩
theorem qu(x:b7):Sound ty Tryz.prog 141 [.agg (bz x)] [.a (.lit (.bool (J9 x)))]:=by
 refine Sound.of X Tryz.call141 Tryz.func141 rfl rfl (by decide) Tryz.ntmps141 (by simp) ?_
 intro zb
 refine W.fI 0 1 rfl rfl (fun lU=> ?_)
 refine W.fI 0 2 rfl rfl (fun jq=> ?_)
 refine W.seq ?_
 refine W.af X [] [] [1] [] rfl ⟨⟩ ?_
 refine W.seq ?_
 refine W.af X [] [] [1,3] [] rfl ⟨⟩ ?_
 refine W.seq ?_
 refine W.seq ?_
 refine W.af X [] [(14,⟨false,[.a (.lit (.bool (inr (x.ah.length:Int) 2 8)))]⟩)] [1,3,16] [] rfl (by(repeat' (first|with_reducible exact ak.nil|with_reducible refine ak.mk ?_ ?_|with_reducible apply And.intro))<;>skip;(iterate 1 (all_goals try (first|exact fun _=>(aX (x.ah.length:Int) 2 8))));all_goals (first| (intros;omega))) ?_
 refine W.cond rfl (fun hb0=> ?_) (fun hb0=> ?_)
 ·skip
  refine W.seq ?_
  refine W.af X [] [] [2] [] rfl ⟨⟩ ?_
  refine W.ret ?_
  exact Fin.ret rfl ⟨by rw[show J9 x=false from by rw[J9,cj (R:=((x.ah.length:Int).tmod 2==0)&&inr x.ah.length 2 8) hb0 (by simp only[aI,aJ,gt_iff_lt,ge_iff_le,aC,aD,bne_not,cX,decide_not,ne_eq,Bool.not_and,Bool.not_or,Bool.not_not,Bool.and_true,Bool.true_and,Bool.or_false,Bool.false_or,Int.toNat_natCast]<;>first|rfl|ac_rfl)];rfl],⟨⟩⟩
 ·have hh:(((x.ah.length:Int).tmod 2==0)&&inr x.ah.length 2 8)=true:=cg hb0 (by simp only[aI,aJ,gt_iff_lt,ge_iff_le,aC,aD,bne_not,cX,decide_not,ne_eq,Bool.not_and,Bool.not_or,Bool.not_not,Bool.and_true,Bool.true_and,Bool.or_false,Bool.false_or,Int.toNat_natCast]<;>first|rfl|ac_rfl)
  have KR:x.ah.length % 2=0:=by simp only[Bool.and_eq_true,beq_iff_eq]at hh;have:=hh.1;rw[dj (by omega)]at this;omega
  have OR:x.ah.length≤8:=by simp only[Bool.and_eq_true,an]at hh;omega
  refine W.skip ?_
  refine W.seq ?_
  refine W.seq ?_
  refine W.af X [] [] [1,3,4] [] rfl ⟨⟩ ?_
  refine W.block ?_
  refine W.aP (fun k=>k≤x.ah.length∧(List.range k).all (Be x)=true) (fun k:Nat=> [(4, .one (.a (.lit (.int .i64 k))))]) (fun k=> []) (fun k=>x.ah.length-k) 0 (fun k=>rfl) ⟨Nat.zero_le _,rfl⟩ rfl ?_
  rintro k ⟨hk,hall⟩
  refine W.seq ?_
  refine W.seq ?_
  refine W.af X [] [] [1,3,4,19] [] rfl ⟨⟩ ?_
  refine W.cond rfl (fun aH=> ?_) (fun aH=> ?_)
  ·try simp only[nb,an,av,aa]at aH
   have hx:=Nb k (by omega)
   have hlt:=Hz k x.ah.length aH KR
   refine W.skip ?_
   refine W.seq ?_
   refine W.block ?_
   refine W.seq ?_
   refine W.af X [] [] [1,3,4,5] [] rfl (by(repeat' (first|exact True.intro|apply And.intro))<;>first| (intros;omega)) ?_
   refine W.seq ?_
   refine W.draw X [] [(28,⟨false,[.a (.lit (.bool (dX (x.ah.getD k (au .aO)))))]⟩)] [1,3,4,66] [] 40 MO (by kernel_rfl) rfl (by(repeat' (first|with_reducible exact ak.nil|with_reducible refine ak.mk ?_ ?_|with_reducible apply And.intro))<;>skip;(iterate 1 (all_goals try (first|exact(dr (x.ah.getD k (au .aO))))));all_goals (first| ((intro h1;first| (intro h2;first| (intro h3;refine And.intro ?_ ?_)|refine And.intro ?_ ?_)|refine And.intro ?_ ?_)<;>first|omega| ((try simp only[nb,an,av]at*);(try simp(disch:=omega) only[bZ]);omega)))) ?_
   refine W.cond rfl (fun bk=> ?_) (fun bk=> ?_)
   ·have F3:Be x k=false:=cj bk (by simp only[Be,hx,aI,aJ,gt_iff_lt,ge_iff_le,aC,aD,bne_not,cX,decide_not,ne_eq,Bool.not_and,Bool.not_or,Bool.not_not,Bool.and_true,Bool.true_and,Bool.or_false,Bool.false_or,Int.toNat_natCast]<;>first|rfl|ac_rfl)
    refine W.seq ?_
    refine W.af X [] [] [2] [] rfl ⟨⟩ ?_
    refine W.ret ?_
    exact Fin.ret rfl ⟨by rw[show J9 x=false from by rw[J9,gX aH F3];simp],⟨⟩⟩
   ·have F3:Be x k=true:=cg bk (by simp only[Be,hx,aI,aJ,gt_iff_lt,ge_iff_le,aC,aD,bne_not,cX,decide_not,ne_eq,Bool.not_and,Bool.not_or,Bool.not_not,Bool.and_true,Bool.true_and,Bool.or_false,Bool.false_or,Int.toNat_natCast]<;>first|rfl|ac_rfl)
    refine W.skip ?_
    refine W.af X [] [] [1,3,4] [] rfl ⟨⟩ ?_
    refine⟨k+1,⟨by omega,fW hall F3⟩,by omega,?_⟩
    rw[bn _ k rfl (by omega)]
    try rfl
  ·try simp only[nb,an,av,aa]at aH
   have HA:(List.range x.ah.length).all (Be x)=true:=by rw[show x.ah.length=k by omega];exact hall
   refine W.exit ?_
   refine W.seq ?_
   refine W.af X [] [] [2] [] rfl ⟨⟩ ?_
   refine W.ret ?_
   exact Fin.ret rfl ⟨by rw[J9,hh,HA];rfl,⟨⟩⟩
theorem nO(x:b7):Sound ty Tryz.prog 63 [.agg (bz x)] [.a (.lit (.bool (okW x)))]:=by
 refine Sound.of X Tryz.call63 Tryz.func63 rfl rfl (by decide) Tryz.ntmps63 (by simp) ?_
 intro zb
 refine W.seq ?_
 refine W.af X [] [] [1] [] rfl ⟨⟩ ?_
 refine W.seq ?_
 refine W.draw X [] [(5,⟨false,[.a (.lit (.bool (inr x.rows 1 64)))]⟩),(9,⟨false,[.a (.lit (.bool (inr x.round 0 100000)))]⟩),(13,⟨false,[.a (.lit (.bool (Mg x)))]⟩),(17,⟨false,[.a (.lit (.bool (J9 x)))]⟩),(22,⟨false,[.a (.lit (.bool (kq x.aA)))]⟩),(35,⟨false,[.a (.lit (.int .i64 (qp x.aA)))]⟩),(43,⟨false,[.a (.lit (.bool (gm x.cU)))]⟩)] [2] [] 48 MO (by kernel_rfl) rfl (by(repeat' (first|with_reducible exact ak.nil|with_reducible refine ak.mk ?_ ?_|with_reducible apply And.intro))<;>skip;(iterate 7 (all_goals try (first|exact(aX x.rows 1 64)|exact fun _=>(aX x.round 0 100000)|exact fun _=>(qt x)|exact fun _=>(qu x)|exact fun _=>(lO x.aA)|exact fun _=>(rH x.aA)|exact fun _=>(ew x.cU))))) ?_
 refine W.ret ?_
 exact Fin.ret rfl ⟨(congrArg Value.bool (by simp only[okW,Hy,Mg,J9,aI,aJ,gt_iff_lt,ge_iff_le,aC,aD,bne_not,cX,decide_not,ne_eq,Bool.not_and,Bool.not_or,Bool.not_not,Bool.and_true,Bool.true_and,Bool.or_false,Bool.false_or,Int.toNat_natCast]<;>first|rfl|ac_rfl)),⟨⟩⟩
theorem tB(key c:Int)(p:Plain):Sound ty Tryz.prog 311 [.a (.lit (.int .i64 key)), .a (.lit (.int .i64 c)), .agg (cO p)] [.a (.sl .u8 (qn key c p)), .a (.lit (.bool (fK key c p)))]:=by
 refine Sound.of X Tryz.call311 Tryz.func311 rfl rfl (by decide) Tryz.ntmps311 (by simp) ?_
 intro zb
 refine W.seq ?_
 refine W.af X [] [] [0,1,5] [] rfl ⟨⟩ ?_
 refine W.seq ?_
 refine W.seq ?_
 refine W.af X [] [(11,⟨false,[.a (.lit (.bool (gm key)))]⟩),(15,⟨false,[.a (.lit (.bool (inr c 0 1000000000000)))]⟩),(20,⟨false,[.a (.lit (.bool (gk p)))]⟩)] [0,1,5,22] [] rfl (by(repeat' (first|with_reducible exact ak.nil|with_reducible refine ak.mk ?_ ?_|with_reducible apply And.intro))<;>skip;(iterate 3 (all_goals try (first|exact(eu key)|exact fun _=>(aK c 0 1000000000000)|exact fun _=>(iD p))))) ?_
 refine W.cond rfl (fun hb0=> ?_) (fun hb0=> ?_)
 ·have hk:fK key c p=false:=cj hb0 (by simp only[fK,aI,aJ,gt_iff_lt,ge_iff_le,aC,aD,bne_not,cX,decide_not,ne_eq,Bool.not_and,Bool.not_or,Bool.not_not,Bool.and_true,Bool.true_and,Bool.or_false,Bool.false_or,Int.toNat_natCast]<;>first|rfl|ac_rfl)
  refine W.seq ?_
  refine W.af X [] [] [6,7] [] rfl ⟨⟩ ?_
  refine W.ret ?_
  exact Fin.ret rfl ⟨by rw[qn,if_neg (by rw[hk];decide)],by rw[hk],⟨⟩⟩
 ·have hk:fK key c p=true:=cg hb0 (by simp only[fK,aI,aJ,gt_iff_lt,ge_iff_le,aC,aD,bne_not,cX,decide_not,ne_eq,Bool.not_and,Bool.not_or,Bool.not_not,Bool.and_true,Bool.true_and,Bool.or_false,Bool.false_or,Int.toNat_natCast]<;>first|rfl|ac_rfl)
  have hp:=sV hk
  have hst:(stream (kh key [61,c]) (18:Int).toNat).length=18:=gE _ _
  have lT:(dS key c p).length≤100:=by unfold dS;simp only[List.length_append,List.length_drop,List.length_cons,List.length_nil,gE];omega
  have QL:(four (eV key c (gF (gG key c) (dS key c p)))).length=4:=rfl
  have hel:(gF (gG key c) (dS key c p)).length≤100:=by rw[gW];exact lT
  refine W.skip ?_
  refine W.seq ?_
  refine W.af X [(33,30)] [] [0,1,5,8] [] rfl (by(repeat' (first|exact True.intro|apply And.intro))<;>first|exact rfl|exact(mE _).1|exact(mE _).2| (simp only[cE,maxLen,lens];omega)) ?_
  refine W.seq ?_
  refine W.draw X [(44,30)] [(38,⟨false,[.a (.lit (.int .i64 (kh key [61,c])))]⟩),(39,⟨true,[.a (.sl .u8 (stream (kh key [61,c]) (18:Int).toNat))]⟩)] [0,1,8] [] 10 MO (by kernel_rfl) rfl (by(repeat' (first|with_reducible exact ak.nil|with_reducible refine ak.mk ?_ ?_|with_reducible apply And.intro))<;>skip;(iterate 2 (all_goals try (first|exact(bB key [61,c] (by first|assumption|omega| (simp;done)| (simp;omega)))|exact(oP (kh key [61,c]) 18 (by first|assumption|omega| (simp;done)| (simp;omega)) (by first|assumption|omega| (simp;done)| (simp;omega))))));all_goals (first| (intros;omega)|exact rfl|exact⟨rfl,bS _ (by decide)⟩| (simp only[cE,maxLen,lens];omega))) ?_
  refine W.seq ?_
  refine W.af X [] [(47,⟨false,[.a (.lit (.int .i64 (gG key c)))]⟩),(49,⟨true,[.a (.sl .u8 (gF (gG key c) (dS key c p)))]⟩)] [0,1,9] [] rfl (by(repeat' (first|with_reducible exact ak.nil|with_reducible refine ak.mk ?_ ?_|with_reducible apply And.intro))<;>skip;(iterate 2 (all_goals try (first|exact(mI key c)|exact(vS (gG key c) (dS key c p) (by first|assumption|omega| (simp;done)| (simp;omega))))))) ?_
  refine W.seq ?_
  refine W.af X [(55,49)] [(54,⟨true,[.a (.sl .u8 (four (eV key c (gF (gG key c) (dS key c p)))))]⟩)] [6,7] [] rfl (by(repeat' (first|with_reducible exact ak.nil|with_reducible refine ak.mk ?_ ?_|with_reducible apply And.intro))<;>skip;(iterate 1 (all_goals try (first|exact(jA key c (gF (gG key c) (dS key c p)) (by first|assumption|omega| (simp;done)| (simp;omega))))));all_goals (first|exact rfl| (simp only[cE,maxLen,lens];omega))) ?_
  refine W.ret ?_
  exact Fin.ret rfl ⟨by rw[qn,if_pos hk],by rw[hk],⟨⟩⟩
theorem tC(key c:Int)(p:Plain):Sound ty Tryz.prog 307 [.a (.lit (.int .i64 key)), .a (.lit (.int .i64 c)), .agg (cO p)] [.a (.sl .u8 (qn key c p)), .a (.lit (.bool (fK key c p)))]:=by
 refine Sound.of X Tryz.call307 Tryz.func307 rfl rfl (by decide) Tryz.ntmps307 (by simp) ?_
 intro zb
 refine W.seq ?_
 refine W.af X [] [] [0,1,5] [] rfl ⟨⟩ ?_
 refine W.seq ?_
 refine W.seq ?_
 refine W.af X [] [(12,⟨false,[.a (.lit (.bool (gm key)))]⟩),(16,⟨false,[.a (.lit (.bool (inr c 0 1000000000000)))]⟩),(21,⟨false,[.a (.lit (.bool (gk p)))]⟩)] [0,1,5,23] [] rfl (by(repeat' (first|with_reducible exact ak.nil|with_reducible refine ak.mk ?_ ?_|with_reducible apply And.intro))<;>skip;(iterate 3 (all_goals try (first|exact(ew key)|exact fun _=>(aX c 0 1000000000000)|exact fun _=>(nN p))))) ?_
 refine W.cond rfl (fun hb0=> ?_) (fun hb0=> ?_)
 ·have hk:fK key c p=false:=cj hb0 (by simp only[fK,aI,aJ,gt_iff_lt,ge_iff_le,aC,aD,bne_not,cX,decide_not,ne_eq,Bool.not_and,Bool.not_or,Bool.not_not,Bool.and_true,Bool.true_and,Bool.or_false,Bool.false_or,Int.toNat_natCast]<;>first|rfl|ac_rfl)
  refine W.seq ?_
  refine W.af X [] [] [6,7] [] rfl (by(repeat' (first|exact True.intro|apply And.intro))<;>first|exact rfl) ?_
  refine W.ret ?_
  exact Fin.ret rfl ⟨by rw[qn,if_neg (by rw[hk];decide)],by rw[hk],⟨⟩⟩
 ·have hk:fK key c p=true:=cg hb0 (by simp only[fK,aI,aJ,gt_iff_lt,ge_iff_le,aC,aD,bne_not,cX,decide_not,ne_eq,Bool.not_and,Bool.not_or,Bool.not_not,Bool.and_true,Bool.true_and,Bool.or_false,Bool.false_or,Int.toNat_natCast]<;>first|rfl|ac_rfl)
  have hp:=sV hk
  have hst:(stream (kh key [61,c]) (18:Int).toNat).length=18:=gE _ _
  have lT:(dS key c p).length≤100:=by unfold dS;simp only[List.length_append,List.length_drop,List.length_cons,List.length_nil,gE];omega
  have QL:(four (eV key c (gF (gG key c) (dS key c p)))).length=4:=rfl
  have hel:(gF (gG key c) (dS key c p)).length≤100:=by rw[gW];exact lT
  refine W.skip ?_
  refine W.seq ?_
  refine W.af X [(35,32)] [] [0,1,5,8] [] rfl (by(repeat' (first|exact True.intro|apply And.intro))<;>first|exact rfl|exact(mE _).1|exact(mE _).2| (simp only[cE,maxLen,lens];omega)) ?_
  refine W.seq ?_
  refine W.draw X [(46,32)] [(40,⟨false,[.a (.lit (.int .i64 (kh key [61,c])))]⟩),(41,⟨true,[.a (.sl .u8 (stream (kh key [61,c]) (18:Int).toNat))]⟩)] [0,1,8] [] 10 MO (by kernel_rfl) rfl (by(repeat' (first|with_reducible exact ak.nil|with_reducible refine ak.mk ?_ ?_|with_reducible apply And.intro))<;>skip;(iterate 2 (all_goals try (first|exact(bC key [61,c] (by first|assumption|omega| (simp;done)| (simp;omega)))|exact(oR (kh key [61,c]) 18 (by first|assumption|omega| (simp;done)| (simp;omega)) (by first|assumption|omega| (simp;done)| (simp;omega))))));all_goals (first| (intros;omega)|exact rfl|exact⟨rfl,bS _ (by decide)⟩| (simp only[cE,maxLen,lens];omega))) ?_
  refine W.seq ?_
  refine W.af X [] [(49,⟨false,[.a (.lit (.int .i64 (gG key c)))]⟩),(51,⟨true,[.a (.sl .u8 (gF (gG key c) (dS key c p)))]⟩)] [0,1,9] [] rfl (by(repeat' (first|with_reducible exact ak.nil|with_reducible refine ak.mk ?_ ?_|with_reducible apply And.intro))<;>skip;(iterate 2 (all_goals try (first|exact(kj key c)|exact(vU (gG key c) (dS key c p) (by first|assumption|omega| (simp;done)| (simp;omega))))))) ?_
  refine W.seq ?_
  refine W.af X [] [(55,⟨false,[.a (.lit (.int .i64 (eV key c (gF (gG key c) (dS key c p)))))]⟩)] [9,10] [] rfl (by(repeat' (first|with_reducible exact ak.nil|with_reducible refine ak.mk ?_ ?_|with_reducible apply And.intro))<;>skip;(iterate 1 (all_goals try (first|exact(kg key c (gF (gG key c) (dS key c p)) (by first|assumption|omega| (simp;done)| (simp;omega))))))) ?_
  refine W.seq ?_
  refine W.af X [(69,51)] [] [6,7] [] rfl (by(repeat' (first|exact True.intro|apply And.intro))<;>first| (intros;omega)|exact rfl|exact(mE _).1|exact(mE _).2| (simp only[cE,maxLen,lens];omega)) ?_
  refine W.ret ?_
  exact Fin.ret rfl ⟨(congrArg (fun z=>gF (gG key c) (dS key c p)++z) (DH _)).trans (by rw[qn,if_pos hk]),by rw[hk],⟨⟩⟩
theorem eR(c:dL):Sound ty Tryz.prog 171 [.agg (bf c)] [.a (.lit (.int .i64 (bu c)))]:=by
 refine Sound.of X Tryz.call171 Tryz.func171 rfl rfl (by decide) Tryz.ntmps171 (by simp) ?_
 intro zb
 refine W.seq ?_
 refine W.af X [] [] [1] [] rfl ⟨⟩ ?_
 refine W.seq ?_
 refine W.seq ?_
 refine W.af X [] [] [7] [] rfl ⟨⟩ ?_
 refine W.cond rfl (fun hb0=> ?_) (fun hb0=> ?_)
 ·try simp only[nb,an,av,aa]at hb0
  refine W.seq ?_
  refine W.af X [] [] [2] [] rfl ⟨⟩ ?_
  refine W.ret ?_
  exact Fin.ret rfl ⟨by rw[bu,if_pos hb0],⟨⟩⟩
 ·try simp only[nb,an,av,aa]at hb0
  refine W.skip ?_
  refine W.seq ?_
  refine W.af X [] [] [2] [] rfl ⟨⟩ ?_
  refine W.ret ?_
  exact Fin.ret rfl ⟨by rw[bu,if_neg (by omega)],⟨⟩⟩
theorem oT(c:dL)(a:Int)(h0:0≤a)(h1:a<c.aj.length):Sound ty Tryz.prog 218 [.agg (bf c), .a (.lit (.int .i64 a))] [.a (.sl .u8 (n7 c a))]:=by
 refine Sound.of X Tryz.call218 Tryz.func218 rfl rfl (by decide) Tryz.ntmps218 (by simp) ?_
 intro zb
 refine W.seq ?_
 refine W.af X [] [] [1,2] [] rfl ⟨⟩ ?_
 refine W.seq ?_
 refine W.draw X [] [(11,⟨false,[.a (.lit (.int .i64 (bu c)))]⟩),(12,⟨false,[.a (.lit (.int .i64 (gn c.key (bu c))))]⟩),(20,⟨true,[.a (.sl .u8 (qn (gn c.key (bu c)) a (⟨1,(c.aj.getD (a).toNat (au (.sl .u8)))⟩:Plain))), .a (.lit (.bool (fK (gn c.key (bu c)) a (⟨1,(c.aj.getD (a).toNat (au (.sl .u8)))⟩:Plain))))]⟩)] [5] [] 18 MO (by kernel_rfl) rfl (by(repeat' (first|with_reducible exact ak.nil|with_reducible refine ak.mk ?_ ?_|with_reducible apply And.intro))<;>skip;(iterate 3 (all_goals try (first|exact(eR c)|exact(eW c.key (bu c))|exact(tB (gn c.key (bu c)) a (⟨1,(c.aj.getD (a).toNat (au (.sl .u8)))⟩:Plain)))));all_goals (first| (intros;omega))) ?_
 refine W.seq ?_
 refine W.af X [] [] [4] [] rfl ⟨⟩ ?_
 refine W.ret ?_
 exact Fin.ret rfl ⟨rfl,⟨⟩⟩
theorem dB(c:dL):Sound ty Tryz.prog 145 [.agg (bf c)] [.a (.lit (.int .i64 (bu c)))]:=by
 refine Sound.of X Tryz.call145 Tryz.func145 rfl rfl (by decide) Tryz.ntmps145 (by simp) ?_
 intro zb
 refine W.seq ?_
 refine W.af X [] [] [1] [] rfl ⟨⟩ ?_
 refine W.seq ?_
 refine W.seq ?_
 refine W.af X [] [] [7] [] rfl ⟨⟩ ?_
 refine W.cond rfl (fun hb0=> ?_) (fun hb0=> ?_)
 ·try simp only[nb,an,av,aa]at hb0
  refine W.seq ?_
  refine W.af X [] [] [2] [] rfl ⟨⟩ ?_
  refine W.ret ?_
  exact Fin.ret rfl ⟨by rw[bu,if_pos hb0],⟨⟩⟩
 ·try simp only[nb,an,av,aa]at hb0
  refine W.skip ?_
  refine W.seq ?_
  refine W.af X [] [] [2] [] rfl ⟨⟩ ?_
  refine W.ret ?_
  exact Fin.ret rfl ⟨by rw[bu,if_neg (by omega)],⟨⟩⟩
theorem vZ(c:dL)(h0:0≤c.sent)(h1:c.sent<c.aj.length):Sound ty Tryz.prog 214 [.agg (bf c)] [.a (.sl .u8 (n7 c c.sent))]:=by
 refine Sound.of X Tryz.call214 Tryz.func214 rfl rfl (by decide) Tryz.ntmps214 (by simp) ?_
 intro zb
 refine W.seq ?_
 refine W.af X [] [] [1] [] rfl ⟨⟩ ?_
 refine W.seq ?_
 refine W.draw X [] [(9,⟨false,[.a (.lit (.int .i64 (bu c)))]⟩),(10,⟨false,[.a (.lit (.int .i64 (gn c.key (bu c))))]⟩),(20,⟨true,[.a (.sl .u8 (qn (gn c.key (bu c)) c.sent (⟨1,(c.aj.getD (c.sent).toNat (au (.sl .u8)))⟩:Plain))), .a (.lit (.bool (fK (gn c.key (bu c)) c.sent (⟨1,(c.aj.getD (c.sent).toNat (au (.sl .u8)))⟩:Plain))))]⟩)] [3] [] 20 MO (by kernel_rfl) rfl (by(repeat' (first|with_reducible exact ak.nil|with_reducible refine ak.mk ?_ ?_|with_reducible apply And.intro))<;>skip;(iterate 3 (all_goals try (first|exact(dB c)|exact(eX c.key (bu c))|exact(tC (gn c.key (bu c)) c.sent (⟨1,(c.aj.getD (c.sent).toNat (au (.sl .u8)))⟩:Plain)))));all_goals (first| (intros;omega))) ?_
 refine W.seq ?_
 refine W.af X [] [] [2] [] rfl ⟨⟩ ?_
 refine W.ret ?_
 exact Fin.ret rfl ⟨rfl,⟨⟩⟩
end Go.Proofs.YtjcojocjlglglaaGreat.G
namespace Go.Proofs.YtjcojocjlglglaaGreat.G
set_option linter.all false
open Go.RowKit L D
set_option maxRecDepth 100000
theorem mN(x:Int):Sound ty Tryz.prog 314 [.a (.lit (.int .i64 x))] [.a (.lit (.bool (!inr x 0 1)))]:=by
 refine Sound.of X Tryz.call314 Tryz.func314 rfl rfl (by decide) Tryz.ntmps314 (by simp) ?_
 intro zb
 refine W.seq ?_
 refine W.af X [] [] [0] [] rfl ⟨⟩ ?_
 refine W.seq ?_
 refine W.af X [] [(4,⟨false,[.a (.lit (.bool _))]⟩)] [2] [] rfl (by(repeat' (first|with_reducible exact ak.nil|with_reducible refine ak.mk ?_ ?_|with_reducible apply And.intro))<;>skip;(iterate 1 (all_goals try (first|exact(aK _ _ _))))) ?_
 refine W.ret ?_
 exact Fin.ret rfl ⟨rfl,⟨⟩⟩
theorem fL(v:List Int)(rows:Int):Sound ty Tryz.prog 226 [.a (.sl .int v), .a (.lit (.int .i64 rows))] [.a (.lit (.bool (eI v rows)))]:=by
 refine Sound.of X Tryz.call226 Tryz.func226 rfl rfl (by decide) Tryz.ntmps226 (by simp) ?_
 intro zb
 refine W.seq ?_
 refine W.af X [] [] [0,1] [] rfl ⟨⟩ ?_
 refine W.seq ?_
 refine W.af X [] [(6,⟨false,[.a (.lit (.bool (inr rows 0 64)))]⟩),(15,⟨false,[.a (.lit (.bool (v.any fun x=> !inr x 0 1)))]⟩)] [4] [] rfl (by(repeat' (first|with_reducible exact ak.nil|with_reducible refine ak.mk ?_ ?_|with_reducible apply And.intro))<;>skip;(iterate 2 (all_goals try (first|exact(aK rows 0 64)|exact fun _=>(gY _ _ _ mN))))) ?_
 refine W.ret ?_
 exact Fin.ret rfl ⟨by rw[CG];exact(congrArg Value.bool (by simp only[aI,aJ,gt_iff_lt,ge_iff_le,aC,aD,bne_not,cX,decide_not,ne_eq,Bool.not_and,Bool.not_or,Bool.not_not,Bool.and_true,Bool.true_and,Bool.or_false,Bool.false_or,Int.toNat_natCast]<;>first|rfl|ac_rfl)),⟨⟩⟩
theorem fM(v:List Int)(rows:Int):Sound ty Tryz.prog 222 [.a (.sl .int v), .a (.lit (.int .i64 rows))] [.a (.lit (.bool (eI v rows)))]:=by
 refine Sound.of X Tryz.call222 Tryz.func222 rfl rfl (by decide) Tryz.ntmps222 (by simp) ?_
 intro zb
 refine W.bound 0 rfl (fun nq=> ?_)
 refine W.seq ?_
 refine W.af X [] [] [0,1] [] rfl ⟨⟩ ?_
 refine W.seq ?_
 refine W.seq ?_
 refine W.af X [] [] [0,1,5] [] rfl ⟨⟩ ?_
 refine W.block ?_
 refine W.aP (fun k=>k≤v.length∧(v.take k).all (fun x=>inr x 0 1)=true) (fun k:Nat=> [(5, .one (.a (.lit (.int .i64 k))))]) (fun k=> []) (fun k=>v.length-k) 0 (fun k=>rfl) ⟨Nat.zero_le _,rfl⟩ rfl ?_
 rintro k ⟨hk,hall⟩
 refine W.seq ?_
 refine W.seq ?_
 refine W.af X [] [] [0,1,5,9] [] rfl ⟨⟩ ?_
 refine W.cond rfl (fun hb0=> ?_) (fun hb0=> ?_)
 ·try simp only[nb,an,av,aa]at hb0
  refine W.skip ?_
  refine W.seq ?_
  refine W.block ?_
  refine W.seq ?_
  refine W.af X [] [(16,⟨false,[.a (.lit (.bool (inr (v.getD k (au .int)) 0 1)))]⟩)] [0,1,5,17] [] rfl (by(repeat' (first|with_reducible exact ak.nil|with_reducible refine ak.mk ?_ ?_|with_reducible apply And.intro))<;>skip;(iterate 1 (all_goals try (first|exact(aX (v.getD k (au .int)) 0 1))));all_goals (first| (intros;omega))) ?_
  refine W.cond rfl (fun aH=> ?_) (fun aH=> ?_)
  ·skip
   refine W.seq ?_
   refine W.af X [] [] [4] [] rfl ⟨⟩ ?_
   refine W.ret ?_
   exact Fin.ret rfl ⟨by rw[eI,CD _ _ (au .int) k hb0 (by simpa using aH)];simp,⟨⟩⟩
  ·skip
   refine W.skip ?_
   refine W.af X [] [] [0,1,5] [] rfl ⟨⟩ ?_
   refine⟨k+1,⟨by omega,by rw[vQ _ _ _ (au .int) hb0,hall];simpa using aH⟩,by omega,?_⟩
   rw[bn _ k rfl (by omega)]
   try rfl
 ·try simp only[nb,an,av,aa]at hb0
  refine W.exit ?_
  refine W.seq ?_
  refine W.af X [] [] [4] [] rfl ⟨⟩ ?_
  refine W.ret ?_
  exact Fin.ret rfl ⟨by rw[List.take_of_length_le hb0]at hall;rw[eI,hall];exact(congrArg Value.bool (by simp only[aI,aJ,gt_iff_lt,ge_iff_le,aC,aD,bne_not,cX,decide_not,ne_eq,Bool.not_and,Bool.not_or,Bool.not_not,Bool.and_true,Bool.true_and,Bool.or_false,Bool.false_or,Int.toNat_natCast]<;>first|rfl|ac_rfl)),⟨⟩⟩
theorem lE(sd rows:Int):Sound ty Tryz.prog 196 [.a (.lit (.int .i64 sd)), .a (.lit (.int .i64 rows))] [.a (.sl .int (bF sd rows))]:=by
 refine Sound.of X Tryz.call196 Tryz.func196 rfl rfl (by decide) Tryz.ntmps196 (by simp) ?_
 intro zb
 refine W.seq ?_
 refine W.af X [] [] [0,1] [] rfl ⟨⟩ ?_
 refine W.seq ?_
 refine W.seq ?_
 refine W.af X [] [(9,⟨false,[.a (.lit (.bool (inr rows 0 64)))]⟩)] [0,1,10] [] rfl (by(repeat' (first|with_reducible exact ak.nil|with_reducible refine ak.mk ?_ ?_|with_reducible apply And.intro))<;>skip;(iterate 1 (all_goals try (first|exact(aK rows 0 64))))) ?_
 refine W.cond rfl (fun hb0=> ?_) (fun hb0=> ?_)
 ·try simp only[nb,an,av,aa]at hb0
  refine W.seq ?_
  refine W.af X [] [] [4] [] rfl ⟨⟩ ?_
  refine W.ret ?_
  exact Fin.ret rfl ⟨by rw[bF,if_neg (by omega)],⟨⟩⟩
 ·try simp only[nb,an,av,aa]at hb0
  refine W.skip ?_
  refine W.seq ?_
  refine W.af X [] [] [0,1,5] [] rfl (by(repeat' (first|exact True.intro|apply And.intro))<;>first|exact rfl) ?_
  refine W.seq ?_
  refine W.seq ?_
  refine W.af X [] [] [0,5,12,13] [] rfl ⟨⟩ ?_
  refine W.block ?_
  refine W.aP (fun k=>k≤rows.toNat) (fun k:Nat=> [(13, .one (.a (.lit (.int .i64 k))))]) (fun k=> [(11, .arr .int ((bF sd rows).take k))]) (fun k=>rows.toNat-k) 0 (fun k=>rfl) (Nat.zero_le _) rfl ?_
  intro k hk
  have hle:=bp (bF sd rows) k
  have hrl:=gZ sd rows
  refine W.seq ?_
  refine W.af X [] [] [0,5,12,13,14] [] rfl ⟨⟩ ?_
  refine W.seq ?_
  refine W.cond rfl (fun aH=> ?_) (fun aH=> ?_)
  ·try simp only[nb,an,av,aa]at aH
   have hs:=qv sd rows k (by omega) (by omega)
   refine W.skip ?_
   refine W.seq ?_
   refine W.block ?_
   refine W.seq ?_
   refine W.af X [] [] [0,5,6,12,13] [] rfl ⟨⟩ ?_
   refine W.seq ?_
   refine W.af X [] [(19,⟨false,[.a (.lit (.int .i64 (kh sd [(k:Int),41])))]⟩)] [0,5,7,12,13] [] rfl (by(repeat' (first|with_reducible exact ak.nil|with_reducible refine ak.mk ?_ ?_|with_reducible apply And.intro))<;>skip;(iterate 1 (all_goals try (first|exact(bB sd [(k:Int),41] (by first|assumption|omega| (simp;done)| (simp;omega))))));all_goals (first|exact⟨rfl,bS _ (by decide)⟩)) ?_
   refine W.af X [(28,11)] [] [0,5,12,13] [] rfl (by(repeat' (first|exact True.intro|apply And.intro))<;>first| (intros;omega)|exact rfl| (simp only[cE,maxLen,lens];omega)) ?_
   refine W.af X [] [] [0,5,12,13] [] rfl ⟨⟩ ?_
   refine⟨k+1,by omega,by omega,?_⟩
   rw[bn _ k rfl (by omega),hs]
   try rfl
  ·try simp only[nb,an,av,aa]at aH
   refine W.exit ?_
   refine W.seq ?_
   refine W.af X [] [] [4] [] rfl ⟨⟩ ?_
   refine W.ret ?_
   exact Fin.ret rfl ⟨by rw[sW _ _ _ (by omega)],⟨⟩⟩
theorem mO(rows i:Int):Sound ty Tryz.prog 224 [.a (.lit (.int .i64 rows)), .a (.lit (.int .i64 i))] [.a (.sl .int (qx rows i))]:=by
 refine Sound.of X Tryz.call224 Tryz.func224 rfl rfl (by decide) Tryz.ntmps224 (by simp) ?_
 intro zb
 refine W.seq ?_
 refine W.af X [] [] [0,1] [] rfl ⟨⟩ ?_
 refine W.seq ?_
 refine W.seq ?_
 refine W.af X [] [(7,⟨false,[.a (.lit (.bool (inr rows 1 64)))]⟩),(13,⟨false,[.a (.lit (.bool (inr i 0 (IntKind.i64.wrap (rows-1)))))]⟩)] [0,1,15] [] rfl (by(repeat' (first|with_reducible exact ak.nil|with_reducible refine ak.mk ?_ ?_|with_reducible apply And.intro))<;>skip;(iterate 2 (all_goals try (first|exact(aK rows 1 64)|exact fun _=>(aK i 0 (IntKind.i64.wrap (rows-1))))))) ?_
 refine W.cond rfl (fun hb0=> ?_) (fun hb0=> ?_)
 ·have hk:gr rows i=false:=cj hb0 (by simp only[gr,aI,aJ,gt_iff_lt,ge_iff_le,aC,aD,bne_not,cX,decide_not,ne_eq,Bool.not_and,Bool.not_or,Bool.not_not,Bool.and_true,Bool.true_and,Bool.or_false,Bool.false_or,Int.toNat_natCast]<;>first|rfl|ac_rfl)
  refine W.seq ?_
  refine W.af X [] [] [4] [] rfl ⟨⟩ ?_
  refine W.ret ?_
  exact Fin.ret rfl ⟨by rw[rK hk],⟨⟩⟩
 ·have hk:gr rows i=true:=cg hb0 (by simp only[gr,aI,aJ,gt_iff_lt,ge_iff_le,aC,aD,bne_not,cX,decide_not,ne_eq,Bool.not_and,Bool.not_or,Bool.not_not,Bool.and_true,Bool.true_and,Bool.or_false,Bool.false_or,Int.toNat_natCast]<;>first|rfl|ac_rfl)
  have hu:=v8 hk
  refine W.skip ?_
  refine W.seq ?_
  refine W.af X [] [] [1,5] [] rfl (by(repeat' (first|exact True.intro|apply And.intro))<;>first| (intros;omega)|exact rfl| (simp only[cE,maxLen,lens];omega)) ?_
  refine W.seq ?_
  refine W.af X [] [] [5] [] rfl (by(repeat' (first|exact True.intro|apply And.intro))<;>first| (intros;omega)| (simp only[cE,maxLen,lens];omega)) ?_
  refine W.seq ?_
  refine W.af X [] [] [4] [] rfl ⟨⟩ ?_
  refine W.ret ?_
  exact Fin.ret rfl ⟨by rw[rJ hk],⟨⟩⟩
theorem mP(a b:List Int)(ha:a.length≤1048576)(hb:b.length≤1048576):Sound ty Tryz.prog 225 [.a (.sl .int a), .a (.sl .int b)] [.a (.sl .int (iB a b))]:=by
 refine Sound.of X Tryz.call225 Tryz.func225 rfl rfl (by decide) Tryz.ntmps225 (by simp) ?_
 intro zb
 refine W.seq ?_
 refine W.af X [] [] [0,1] [] rfl ⟨⟩ ?_
 refine W.seq ?_
 refine W.seq ?_
 refine W.af X [] [(11,⟨false,[.a (.lit (.bool (eI a (a.length:Int))))]⟩),(17,⟨false,[.a (.lit (.bool (eI b (a.length:Int))))]⟩)] [0,1,19] [] rfl (by(repeat' (first|with_reducible exact ak.nil|with_reducible refine ak.mk ?_ ?_|with_reducible apply And.intro))<;>skip;(iterate 2 (all_goals try (first|exact(fL a (a.length:Int))|exact fun _=>(fL b (a.length:Int)))))) ?_
 refine W.cond rfl (fun hb0=> ?_) (fun hb0=> ?_)
 ·have EZ:gz a b=false:=cj hb0 (by simp only[gz,aI,aJ,gt_iff_lt,ge_iff_le,aC,aD,bne_not,cX,decide_not,ne_eq,Bool.not_and,Bool.not_or,Bool.not_not,Bool.and_true,Bool.true_and,Bool.or_false,Bool.false_or,Int.toNat_natCast]<;>first|rfl|ac_rfl)
  refine W.seq ?_
  refine W.af X [] [] [4] [] rfl ⟨⟩ ?_
  refine W.ret ?_
  exact Fin.ret rfl ⟨by rw[iB,if_neg (by rw[EZ];decide)],⟨⟩⟩
 ·have EZ:gz a b=true:=cg hb0 (by simp only[gz,aI,aJ,gt_iff_lt,ge_iff_le,aC,aD,bne_not,cX,decide_not,ne_eq,Bool.not_and,Bool.not_or,Bool.not_not,Bool.and_true,Bool.true_and,Bool.or_false,Bool.false_or,Int.toNat_natCast]<;>first|rfl|ac_rfl)
  have E0:=iQ EZ
  have hzl:=qw EZ
  refine W.skip ?_
  refine W.seq ?_
  refine W.af X [] [(21,⟨true,[.a (.sl .int _)]⟩)] [1,5] [] rfl (by(repeat' (first|with_reducible exact ak.nil|with_reducible refine ak.mk ?_ ?_|with_reducible apply And.intro))<;>skip;(iterate 1 (all_goals try (first|exact(dU _ (by first|assumption|omega| (simp;done)| (simp;omega))))))) ?_
  refine W.seq ?_
  refine W.seq ?_
  refine W.af X [] [] [5,22,23,24] [] rfl ⟨⟩ ?_
  refine W.block ?_
  refine W.aP (fun k=>k≤b.length) (fun k:Nat=> [(24, .one (.a (.lit (.int .i64 k))))]) (fun k=> [(21, .arr .int ((List.zipWith xb a b).take k++a.drop k))]) (fun k=>b.length-k) 0 (fun k=>rfl) (Nat.zero_le _) rfl ?_
  intro k hk
  have hle:=j8 (List.zipWith xb a b) a k hzl (by omega)
  refine W.seq ?_
  refine W.af X [] [] [5,22,23,24,25] [] rfl ⟨⟩ ?_
  refine W.seq ?_
  refine W.cond rfl (fun aH=> ?_) (fun aH=> ?_)
  ·try simp only[nb,an,av,aa]at aH
   have hs:=Bf EZ k aH
   refine W.skip ?_
   refine W.seq ?_
   refine W.block ?_
   refine W.seq ?_
   refine W.af X [] [] [5,6,7,22,23,24] [] rfl (by(repeat' (first|exact True.intro|apply And.intro))<;>first| (intros;omega)) ?_
   refine W.af X [] [] [5,22,23,24] [] rfl (by(repeat' (first|exact True.intro|apply And.intro))<;>first| (intros;omega)) ?_
   refine W.af X [] [] [5,22,23,24] [] rfl ⟨⟩ ?_
   refine⟨k+1,by omega,by omega,?_⟩
   rw[bn _ k rfl (by omega),hs]
   try rfl
  ·try simp only[nb,an,av,aa]at aH
   refine W.exit ?_
   refine W.seq ?_
   refine W.af X [] [] [4] [] rfl ⟨⟩ ?_
   refine W.ret ?_
   exact Fin.ret rfl ⟨by rw[lC _ _ _ hzl (by omega),oU EZ],⟨⟩⟩
theorem rQ(rows i:Int)(sd:List Int)(qP:sd.length≤1048576):Sound ty Tryz.prog 123 [.a (.lit (.int .i64 rows)), .a (.lit (.int .i64 i)), .a (.sl .int sd)] [.a (.sl (.sl .int) (jg rows i sd))]:=by
 refine Sound.of X Tryz.call123 Tryz.func123 rfl rfl (by decide) Tryz.ntmps123 (by simp) ?_
 intro zb
 have hun:=rL rows i
 refine W.seq ?_
 refine W.af X [] [] [0,1,2] [] rfl ⟨⟩ ?_
 refine W.seq ?_
 refine W.af X [] [(14,⟨true,[.a (.sl .int _)]⟩)] [0,2,7] [] rfl (by(repeat' (first|with_reducible exact ak.nil|with_reducible refine ak.mk ?_ ?_|with_reducible apply And.intro))<;>skip;(iterate 1 (all_goals try (first|exact(mO _ _))))) ?_
 refine W.seq ?_
 refine W.seq ?_
 refine W.af X [] [(22,⟨false,[.a (.lit (.bool (gq (IntKind.i64.wrap ((sd.length:Int)+1)))))]⟩)] [0,2,7,24] [] rfl (by(repeat' (first|with_reducible exact ak.nil|with_reducible refine ak.mk ?_ ?_|with_reducible apply And.intro))<;>skip;(iterate 1 (all_goals try (first|exact fun _=>(eF (IntKind.i64.wrap ((sd.length:Int)+1))))))) ?_
 refine W.cond rfl (fun hb0=> ?_) (fun hb0=> ?_)
 ·have hmk:v9 rows i sd=false:=cj hb0 (by simp only[v9,aI,aJ,gt_iff_lt,ge_iff_le,aC,aD,bne_not,cX,decide_not,ne_eq,Bool.not_and,Bool.not_or,Bool.not_not,Bool.and_true,Bool.true_and,Bool.or_false,Bool.false_or,Int.toNat_natCast]<;>first|rfl|ac_rfl)
  refine W.seq ?_
  refine W.af X [] [] [6] [] rfl ⟨⟩ ?_
  refine W.ret ?_
  exact Fin.ret rfl ⟨by rw[jg,if_neg (by rw[hmk];decide)],⟨⟩⟩
 ·have hmk:v9 rows i sd=true:=cg hb0 (by simp only[v9,aI,aJ,gt_iff_lt,ge_iff_le,aC,aD,bne_not,cX,decide_not,ne_eq,Bool.not_and,Bool.not_or,Bool.not_not,Bool.and_true,Bool.true_and,Bool.or_false,Bool.false_or,Int.toNat_natCast]<;>first|rfl|ac_rfl)
  have E0:=Bh hmk qP
  refine W.skip ?_
  refine W.seq ?_
  refine W.af X [] [] [0,2,7,8] [] rfl (by(repeat' (first|exact True.intro|apply And.intro))<;>first|exact rfl) ?_
  refine W.seq ?_
  refine W.seq ?_
  refine W.af X [] [] [0,7,8,26,27,28] [] rfl ⟨⟩ ?_
  refine W.block ?_
  refine W.aP (fun k=>k≤sd.length) (fun k:Nat=> [(28, .one (.a (.lit (.int .i64 k))))]) (fun k=> [(25, .arr (.sl .int) ((sd.take k).map fun s=>bF s rows)),(14, .arr .int (mM rows i (sd.take k)))]) (fun k=>sd.length-k) 0 (fun k=>rfl) (Nat.zero_le _) rfl ?_
  intro k hk
  have hle:=bp sd k
  have OV:=rM rows i (sd.take k)
  refine W.seq ?_
  refine W.af X [] [] [0,7,8,26,27,28,29] [] rfl ⟨⟩ ?_
  refine W.seq ?_
  refine W.cond rfl (fun aH=> ?_) (fun aH=> ?_)
  ·try simp only[nb,an,av,aa]at aH
   have hs:=j9 (fun s=>bF s rows) sd k (au .int) aH
   have Ij:=we rows i sd k aH
   have hrl:=gZ (sd.getD k (au .int)) rows
   refine W.skip ?_
   refine W.seq ?_
   refine W.block ?_
   refine W.seq ?_
   refine W.af X [] [] [0,7,8,10,26,27,28] [] rfl (by(repeat' (first|exact True.intro|apply And.intro))<;>first| (intros;omega)) ?_
   refine W.seq ?_
   refine W.af X [] [(34,⟨true,[.a (.sl .int (bF (sd.getD k (au .int)) rows))]⟩)] [0,7,8,11,26,27,28] [] rfl (by(repeat' (first|with_reducible exact ak.nil|with_reducible refine ak.mk ?_ ?_|with_reducible apply And.intro))<;>skip;(iterate 1 (all_goals try (first|exact(lE (sd.getD k (au .int)) rows))))) ?_
   refine W.seq ?_
   refine W.JA X [(38,25)] [] [0,7,8,11,26,27,28] 2 25 rfl (by(repeat' (first|exact True.intro|apply And.intro))<;>first|exact rfl| (simp only[cE,maxLen,lens];omega)) ?_
   refine W.af X [] [(41,⟨true,[.a (.sl .int (iB (mM rows i (sd.take k)) (bF (sd.getD k (au .int)) rows)))]⟩)] [0,7,8,26,27,28] [] rfl (by(repeat' (first|with_reducible exact ak.nil|with_reducible refine ak.mk ?_ ?_|with_reducible apply And.intro))<;>skip;(iterate 1 (all_goals try (first|exact(mP (mM rows i (sd.take k)) (bF (sd.getD k (au .int)) rows) (by first|assumption|omega| (simp;done)| (simp;omega)) (by first|assumption|omega| (simp;done)| (simp;omega))))))) ?_
   refine W.rename 7 14 rfl ?_
   refine W.af X [] [] [0,7,8,26,27,28] [] rfl ⟨⟩ ?_
   refine⟨k+1,by omega,by omega,?_⟩
   rw[bn _ k rfl (by omega),hs,Ij]
   try rfl
  ·try simp only[nb,an,av,aa]at aH
   refine W.exit ?_
   refine W.seq ?_
   refine W.af X [(46,25)] [] [6] [] rfl (by(repeat' (first|exact True.intro|apply And.intro))<;>first|exact rfl| (simp only[cE,maxLen,lens];omega)) ?_
   refine W.ret ?_
   exact Fin.ret rfl ⟨by rw[List.take_of_length_le aH,jg,if_pos hmk],⟨⟩⟩
theorem lF(sd rows:Int):Sound ty Tryz.prog 248 [.a (.lit (.int .i64 sd)), .a (.lit (.int .i64 rows))] [.a (.sl .int (bF sd rows))]:=by
 refine Sound.of X Tryz.call248 Tryz.func248 rfl rfl (by decide) Tryz.ntmps248 (by simp) ?_
 intro zb
 refine W.seq ?_
 refine W.af X [] [] [0,1] [] rfl ⟨⟩ ?_
 refine W.seq ?_
 refine W.af X [] [] [0,1,5] [] rfl (by(repeat' (first|exact True.intro|apply And.intro))<;>first|exact rfl) ?_
 refine W.seq ?_
 refine W.seq ?_
 refine W.af X [] [] [0,1,5,6] [] rfl ⟨⟩ ?_
 refine W.block ?_
 refine W.aP (fun k=>k≤(bF sd rows).length) (fun k:Nat=> [(6, .one (.a (.lit (.int .i64 k))))]) (fun k=> [(8, .arr .int ((bF sd rows).take k))]) (fun k=>(bF sd rows).length-k) 0 (fun k=>rfl) (Nat.zero_le _) rfl ?_
 intro k hk
 have hle:=bp (bF sd rows) k
 have hrl:=gZ sd rows
 refine W.seq ?_
 refine W.seq ?_
 refine W.af X [] [] [0,1,5,6,15] [] rfl ⟨⟩ ?_
 refine W.cond rfl (fun hb0=> ?_) (fun hb0=> ?_)
 ·try simp only[nb,an,av,aa]at hb0
  have hin:=v5 sd rows k (by omega) (by omega)
  have hs:=qv sd rows k (by omega) (by omega)
  refine W.skip ?_
  refine W.seq ?_
  refine W.block ?_
  refine W.seq ?_
  refine W.af X [] [(21,⟨false,[.a (.lit (.int .i64 (kh sd [(k:Int),41])))]⟩)] [0,1,5,6,7] [] rfl (by(repeat' (first|with_reducible exact ak.nil|with_reducible refine ak.mk ?_ ?_|with_reducible apply And.intro))<;>skip;(iterate 1 (all_goals try (first|exact(bC sd [(k:Int),41] (by first|assumption|omega| (simp;done)| (simp;omega))))));all_goals (first|exact⟨rfl,bS _ (by decide)⟩)) ?_
  refine W.af X [(30,8)] [] [0,1,5,6] [] rfl (by(repeat' (first|exact True.intro|apply And.intro))<;>first| (intros;omega)|exact rfl| (simp only[cE,maxLen,lens];omega)) ?_
  refine W.af X [] [] [0,1,5,6] [] rfl ⟨⟩ ?_
  refine⟨k+1,by omega,by omega,?_⟩
  rw[bn _ k rfl (by omega),hs]
  try rfl
 ·try simp only[nb,an,av,aa]at hb0
  refine W.exit ?_
  refine W.seq ?_
  refine W.af X [] [] [4] [] rfl ⟨⟩ ?_
  refine W.ret ?_
  exact Fin.ret rfl ⟨by rw[sW _ _ _ (by omega)],⟨⟩⟩
theorem mQ(rows i:Int):Sound ty Tryz.prog 221 [.a (.lit (.int .i64 rows)), .a (.lit (.int .i64 i))] [.a (.sl .int (qx rows i))]:=by
 refine Sound.of X Tryz.call221 Tryz.func221 rfl rfl (by decide) Tryz.ntmps221 (by simp) ?_
 intro zb
 refine W.seq ?_
 refine W.af X [] [] [0,1] [] rfl ⟨⟩ ?_
 refine W.seq ?_
 refine W.seq ?_
 refine W.af X [] [(7,⟨false,[.a (.lit (.bool (inr rows 1 64)))]⟩),(13,⟨false,[.a (.lit (.bool (inr i 0 (IntKind.i64.wrap (rows-1)))))]⟩)] [0,1,15] [] rfl (by(repeat' (first|with_reducible exact ak.nil|with_reducible refine ak.mk ?_ ?_|with_reducible apply And.intro))<;>skip;(iterate 2 (all_goals try (first|exact(aX rows 1 64)|exact fun _=>(aX i 0 (IntKind.i64.wrap (rows-1))))))) ?_
 refine W.cond rfl (fun hb0=> ?_) (fun hb0=> ?_)
 ·have hk:gr rows i=false:=cj hb0 (by simp only[gr,aI,aJ,gt_iff_lt,ge_iff_le,aC,aD,bne_not,cX,decide_not,ne_eq,Bool.not_and,Bool.not_or,Bool.not_not,Bool.and_true,Bool.true_and,Bool.or_false,Bool.false_or,Int.toNat_natCast]<;>first|rfl|ac_rfl)
  refine W.seq ?_
  refine W.af X [] [] [4] [] rfl (by(repeat' (first|exact True.intro|apply And.intro))<;>first|exact rfl) ?_
  refine W.ret ?_
  exact Fin.ret rfl ⟨by rw[rK hk],⟨⟩⟩
 ·have hk:gr rows i=true:=cg hb0 (by simp only[gr,aI,aJ,gt_iff_lt,ge_iff_le,aC,aD,bne_not,cX,decide_not,ne_eq,Bool.not_and,Bool.not_or,Bool.not_not,Bool.and_true,Bool.true_and,Bool.or_false,Bool.false_or,Int.toNat_natCast]<;>first|rfl|ac_rfl)
  have hu:=v8 hk
  refine W.skip ?_
  refine W.seq ?_
  refine W.af X [] [] [1,5] [] rfl (by(repeat' (first|exact True.intro|apply And.intro))<;>first| (intros;omega)|exact rfl| (simp only[cE,maxLen,lens];omega)) ?_
  refine W.seq ?_
  refine W.af X [] [] [5] [] rfl (by(repeat' (first|exact True.intro|apply And.intro))<;>first| (intros;omega)| (simp only[cE,maxLen,lens];omega)) ?_
  refine W.seq ?_
  refine W.af X [] [] [4] [] rfl ⟨⟩ ?_
  refine W.ret ?_
  exact Fin.ret rfl ⟨by rw[rJ hk],⟨⟩⟩
theorem mR(a b:List Int)(ha:a.length≤1048576)(hb:b.length≤1048576):Sound ty Tryz.prog 223 [.a (.sl .int a), .a (.sl .int b)] [.a (.sl .int (iB a b))]:=by
 refine Sound.of X Tryz.call223 Tryz.func223 rfl rfl (by decide) Tryz.ntmps223 (by simp) ?_
 intro zb
 refine W.seq ?_
 refine W.af X [] [] [0,1] [] rfl ⟨⟩ ?_
 refine W.seq ?_
 refine W.af X [] [] [0,1,5] [] rfl (by(repeat' (first|exact True.intro|apply And.intro))<;>first|exact rfl) ?_
 refine W.seq ?_
 refine W.seq ?_
 refine W.af X [] [(11,⟨false,[.a (.lit (.bool (eI a (a.length:Int))))]⟩),(17,⟨false,[.a (.lit (.bool (eI b (a.length:Int))))]⟩)] [0,1,5,19] [] rfl (by(repeat' (first|with_reducible exact ak.nil|with_reducible refine ak.mk ?_ ?_|with_reducible apply And.intro))<;>skip;(iterate 2 (all_goals try (first|exact(fM a (a.length:Int))|exact fun _=>(fM b (a.length:Int)))))) ?_
 refine W.cond rfl (fun hb0=> ?_) (fun hb0=> ?_)
 ·have EZ:gz a b=false:=cj hb0 (by simp only[gz,aI,aJ,gt_iff_lt,ge_iff_le,aC,aD,bne_not,cX,decide_not,ne_eq,Bool.not_and,Bool.not_or,Bool.not_not,Bool.and_true,Bool.true_and,Bool.or_false,Bool.false_or,Int.toNat_natCast]<;>first|rfl|ac_rfl)
  refine W.seq ?_
  refine W.af X [] [] [4] [] rfl ⟨⟩ ?_
  refine W.ret ?_
  exact Fin.ret rfl ⟨by rw[iB,if_neg (by rw[EZ];decide)],⟨⟩⟩
 ·have EZ:gz a b=true:=cg hb0 (by simp only[gz,aI,aJ,gt_iff_lt,ge_iff_le,aC,aD,bne_not,cX,decide_not,ne_eq,Bool.not_and,Bool.not_or,Bool.not_not,Bool.and_true,Bool.true_and,Bool.or_false,Bool.false_or,Int.toNat_natCast]<;>first|rfl|ac_rfl)
  have E0:=iQ EZ
  have hzl:=qw EZ
  refine W.skip ?_
  refine W.seq ?_
  refine W.seq ?_
  refine W.af X [] [] [0,1,5,6] [] rfl ⟨⟩ ?_
  refine W.block ?_
  refine W.aP (fun k=>k≤a.length) (fun k:Nat=> [(6, .one (.a (.lit (.int .i64 k))))]) (fun k=> [(7, .arr .int ((List.zipWith xb a b).take k))]) (fun k=>a.length-k) 0 (fun k=>rfl) (Nat.zero_le _) rfl ?_
  intro k hk
  have hle:=bp (List.zipWith xb a b) k
  refine W.seq ?_
  refine W.seq ?_
  refine W.af X [] [] [0,1,5,6,24] [] rfl ⟨⟩ ?_
  refine W.cond rfl (fun aH=> ?_) (fun aH=> ?_)
  ·try simp only[nb,an,av,aa]at aH
   have hs:=Bg EZ k aH
   refine W.skip ?_
   refine W.seq ?_
   refine W.block ?_
   refine W.draw X [(38,7)] [] [0,1,5,6] [] 11 MO (by kernel_rfl) rfl (by(repeat' (first|exact True.intro|apply And.intro))<;>first| (intros;omega)|exact rfl| (simp only[cE,maxLen,lens];omega)) ?_
   refine W.af X [] [] [0,1,5,6] [] rfl ⟨⟩ ?_
   refine⟨k+1,by omega,by omega,?_⟩
   rw[bn _ k rfl (by omega),hs]
   try rfl
  ·try simp only[nb,an,av,aa]at aH
   refine W.exit ?_
   refine W.seq ?_
   refine W.af X [] [] [4] [] rfl ⟨⟩ ?_
   refine W.ret ?_
   exact Fin.ret rfl ⟨by rw[List.take_of_length_le (by omega),oU EZ],⟨⟩⟩
theorem rR(rows i:Int)(sd:List Int)(qP:sd.length≤1048576):Sound ty Tryz.prog 149 [.a (.lit (.int .i64 rows)), .a (.lit (.int .i64 i)), .a (.sl .int sd)] [.a (.sl (.sl .int) (jg rows i sd))]:=by
 refine Sound.of X Tryz.call149 Tryz.func149 rfl rfl (by decide) Tryz.ntmps149 (by simp) ?_
 intro zb
 have hun:=rL rows i
 refine W.seq ?_
 refine W.af X [] [] [0,1,2] [] rfl ⟨⟩ ?_
 refine W.seq ?_
 refine W.af X [] [] [0,1,2,7] [] rfl (by(repeat' (first|exact True.intro|apply And.intro))<;>first|exact rfl) ?_
 refine W.seq ?_
 refine W.af X [] [(14,⟨true,[.a (.sl .int _)]⟩)] [0,2,7,8] [] rfl (by(repeat' (first|with_reducible exact ak.nil|with_reducible refine ak.mk ?_ ?_|with_reducible apply And.intro))<;>skip;(iterate 1 (all_goals try (first|exact(mQ _ _))))) ?_
 refine W.seq ?_
 refine W.seq ?_
 refine W.af X [] [(22,⟨false,[.a (.lit (.bool (gq (IntKind.i64.wrap ((sd.length:Int)+1)))))]⟩)] [0,2,7,8,24] [] rfl (by(repeat' (first|with_reducible exact ak.nil|with_reducible refine ak.mk ?_ ?_|with_reducible apply And.intro))<;>skip;(iterate 1 (all_goals try (first|exact fun _=>(jf (IntKind.i64.wrap ((sd.length:Int)+1))))))) ?_
 refine W.cond rfl (fun hb0=> ?_) (fun hb0=> ?_)
 ·have hmk:v9 rows i sd=false:=cj hb0 (by simp only[v9,aI,aJ,gt_iff_lt,ge_iff_le,aC,aD,bne_not,cX,decide_not,ne_eq,Bool.not_and,Bool.not_or,Bool.not_not,Bool.and_true,Bool.true_and,Bool.or_false,Bool.false_or,Int.toNat_natCast]<;>first|rfl|ac_rfl)
  refine W.seq ?_
  refine W.af X [] [] [6] [] rfl ⟨⟩ ?_
  refine W.ret ?_
  exact Fin.ret rfl ⟨by rw[jg,if_neg (by rw[hmk];decide)],⟨⟩⟩
 ·have hmk:v9 rows i sd=true:=cg hb0 (by simp only[v9,aI,aJ,gt_iff_lt,ge_iff_le,aC,aD,bne_not,cX,decide_not,ne_eq,Bool.not_and,Bool.not_or,Bool.not_not,Bool.and_true,Bool.true_and,Bool.or_false,Bool.false_or,Int.toNat_natCast]<;>first|rfl|ac_rfl)
  have E0:=Bh hmk qP
  refine W.skip ?_
  refine W.seq ?_
  refine W.seq ?_
  refine W.af X [] [] [0,2,7,8,9] [] rfl ⟨⟩ ?_
  refine W.block ?_
  refine W.aP (fun k=>k≤sd.length) (fun k:Nat=> [(9, .one (.a (.lit (.int .i64 k))))]) (fun k=> [(11, .arr (.sl .int) ((sd.take k).map fun s=>bF s rows)),(14, .arr .int (mM rows i (sd.take k)))]) (fun k=>sd.length-k) 0 (fun k=>rfl) (Nat.zero_le _) rfl ?_
  intro k hk
  have hle:=bp sd k
  have OV:=rM rows i (sd.take k)
  refine W.seq ?_
  refine W.seq ?_
  refine W.af X [] [] [0,2,7,8,9,29] [] rfl ⟨⟩ ?_
  refine W.cond rfl (fun aH=> ?_) (fun aH=> ?_)
  ·try simp only[nb,an,av,aa]at aH
   have hs:=j9 (fun s=>bF s rows) sd k (au .int) aH
   have Ij:=we rows i sd k aH
   have hrl:=gZ (sd.getD k (au .int)) rows
   refine W.skip ?_
   refine W.seq ?_
   refine W.block ?_
   refine W.seq ?_
   refine W.af X [] [(37,⟨true,[.a (.sl .int (bF (sd.getD k (au .int)) rows))]⟩)] [0,2,7,8,9,10] [] rfl (by(repeat' (first|with_reducible exact ak.nil|with_reducible refine ak.mk ?_ ?_|with_reducible apply And.intro))<;>skip;(iterate 1 (all_goals try (first|exact(lF (sd.getD k (au .int)) rows))));all_goals (first| (intros;omega))) ?_
   refine W.seq ?_
   refine W.af X [] [(40,⟨true,[.a (.sl .int (iB (mM rows i (sd.take k)) (bF (sd.getD k (au .int)) rows)))]⟩)] [0,2,7,8,9,10] [] rfl (by(repeat' (first|with_reducible exact ak.nil|with_reducible refine ak.mk ?_ ?_|with_reducible apply And.intro))<;>skip;(iterate 1 (all_goals try (first|exact(mR (mM rows i (sd.take k)) (bF (sd.getD k (au .int)) rows) (by first|assumption|omega| (simp;done)| (simp;omega)) (by first|assumption|omega| (simp;done)| (simp;omega))))))) ?_
   refine W.rename 8 14 rfl ?_
   refine W.af X [(44,11)] [] [0,2,7,8,9] [] rfl (by(repeat' (first|exact True.intro|apply And.intro))<;>first|exact rfl| (simp only[cE,maxLen,lens];omega)) ?_
   refine W.af X [] [] [0,2,7,8,9] [] rfl ⟨⟩ ?_
   refine⟨k+1,by omega,by omega,?_⟩
   rw[bn _ k rfl (by omega),hs,Ij]
   try rfl
  ·try simp only[nb,an,av,aa]at aH
   refine W.exit ?_
   refine W.seq ?_
   refine W.af X [(48,11)] [] [6] [] rfl (by(repeat' (first|exact True.intro|apply And.intro))<;>first|exact rfl| (simp only[cE,maxLen,lens];omega)) ?_
   refine W.ret ?_
   exact Fin.ret rfl ⟨by rw[List.take_of_length_le aH,jg,if_pos hmk],⟨⟩⟩
end Go.Proofs.YtjcojocjlglglaaGreat.G
namespace Go.Proofs.YtjcojocjlglglaaGreat.G
set_option linter.all false
open Go.RowKit L D
set_option maxRecDepth 100000
theorem rS(x:b7)(r row s:Int)(BI:x.aq.length≤1048576):Sound ty Tryz.prog 124 [.agg (bz x), .a (.lit (.int .i64 r)), .a (.lit (.int .i64 row)), .a (.lit (.int .i64 s))] [.a (.sl .int (dI x.aq.length r row s))]:=by
 refine Sound.of X Tryz.call124 Tryz.func124 rfl rfl (by decide) Tryz.ntmps124 (by simp) ?_
 intro zb
 have hw:IntKind.i64.wrap ((x.aq.length:Int)-1)=(x.aq.length:Int)-1:=bZ (by omega)
 refine W.seq ?_
 refine W.af X [] [] [1,2,3,4] [] rfl ⟨⟩ ?_
 refine W.seq ?_
 refine W.af X [] [] [1,2,3,4,9] [] rfl (by(repeat' (first|exact True.intro|apply And.intro))<;>first|exact rfl) ?_
 refine W.seq ?_
 refine W.seq ?_
 refine W.af X [] [] [1,2,3,9,16,17] [] rfl ⟨⟩ ?_
 refine W.block ?_
 refine W.aP (fun k=>k≤(x.aq.length-1)) (fun k:Nat=> [(17, .one (.a (.lit (.int .i64 k))))]) (fun k=> [(11, .arr .int ((dI x.aq.length r row s).take k))]) (fun k=>(x.aq.length-1)-k) 0 (fun k=>rfl) (Nat.zero_le _) rfl ?_
 intro k hk
 have hle:=bp (dI x.aq.length r row s) k
 have hrl:=jh x.aq.length r row s
 refine W.seq ?_
 refine W.af X [] [] [1,2,3,9,16,17,18] [] rfl ⟨⟩ ?_
 refine W.seq ?_
 refine W.cond rfl (fun hb0=> ?_) (fun hb0=> ?_)
 ·try simp only[nb,an,av,aa]at hb0
  rw[Kb _ BI]at hb0
  have hs:=sX x.aq.length r row s k (by omega)
  refine W.skip ?_
  refine W.seq ?_
  refine W.block ?_
  refine W.seq ?_
  refine W.af X [] [] [1,2,3,9,10,16,17] [] rfl ⟨⟩ ?_
  refine W.af X [(28,11)] [(26,⟨false,[.a (.lit (.int .i64 (kh s [229,r,row,(k:Int)])))]⟩)] [1,2,3,9,16,17] [] rfl (by(repeat' (first|with_reducible exact ak.nil|with_reducible refine ak.mk ?_ ?_|with_reducible apply And.intro))<;>skip;(iterate 1 (all_goals try (first|exact(bB s [229,r,row,(k:Int)] (by first|assumption|omega| (simp;done)| (simp;omega))))));all_goals (first|exact rfl|exact⟨rfl,bS _ (by decide)⟩| (simp only[cE,maxLen,lens];omega))) ?_
  refine W.af X [] [] [1,2,3,9,16,17] [] rfl ⟨⟩ ?_
  refine⟨k+1,by omega,by omega,?_⟩
  rw[bn _ k rfl (by omega),hs]
  try rfl
 ·try simp only[nb,an,av,aa]at hb0
  rw[Kb _ BI]at hb0
  refine W.exit ?_
  refine W.seq ?_
  refine W.af X [] [] [8] [] rfl ⟨⟩ ?_
  refine W.ret ?_
  exact Fin.ret rfl ⟨by rw[List.take_of_length_le (by omega)],⟨⟩⟩
end Go.Proofs.YtjcojocjlglglaaGreat.G
namespace Go.Proofs.YtjcojocjlglglaaGreat.G
set_option linter.all false
open Go.RowKit L D
set_option maxRecDepth 100000
theorem eY(d:DB)(hs0:bY List.length d.rows≤1048576):Sound ty Tryz.prog 261 [.agg (bR d)] [.agg (bR d)]:=by
 refine Sound.of X Tryz.call261 Tryz.func261 rfl rfl (by decide) Tryz.ntmps261 (by simp) ?_
 intro zb
 refine W.seq ?_
 refine W.af X [] [] [1,2] [] rfl ⟨⟩ ?_
 refine W.seq ?_
 refine W.af X [] [(5,⟨true,[.a (.sl (.sl .u8) d.rows)]⟩)] [2] [] rfl (by(repeat' (first|with_reducible exact ak.nil|with_reducible refine ak.mk ?_ ?_|with_reducible apply And.intro))<;>skip;(iterate 1 (all_goals try (first|exact(gH d.rows (by first|assumption|omega| (simp;done)| (simp;omega))))))) ?_
 refine W.ret ?_
 exact Fin.ret rfl ⟨rfl,⟨⟩⟩
theorem jS(d:DB)(hs0:bY List.length d.rows≤1048576):Sound ty Tryz.prog 242 [.agg (bR d)] [.agg (bR d)]:=by
 refine Sound.of X Tryz.call242 Tryz.func242 rfl rfl (by decide) Tryz.ntmps242 (by simp) ?_
 intro zb
 refine W.seq ?_
 refine W.af X [] [] [1,2] [] rfl ⟨⟩ ?_
 refine W.seq ?_
 refine W.af X [] [(5,⟨true,[.a (.sl (.sl .u8) d.rows)]⟩)] [2] [] rfl (by(repeat' (first|with_reducible exact ak.nil|with_reducible refine ak.mk ?_ ?_|with_reducible apply And.intro))<;>skip;(iterate 1 (all_goals try (first|exact(jQ d.rows (by first|assumption|omega| (simp;done)| (simp;omega))))))) ?_
 refine W.ret ?_
 exact Fin.ret rfl ⟨rfl,⟨⟩⟩
end Go.Proofs.YtjcojocjlglglaaGreat.G
namespace Go.Proofs.YtjcojocjlglglaaGreat.G
set_option linter.all false
open Go.RowKit L D
set_option maxRecDepth 100000
end Go.Proofs.YtjcojocjlglglaaGreat.G
namespace Go.Proofs.YtjcojocjlglglaaGreat.G
set_option linter.all false
open Go.RowKit L D
set_option maxRecDepth 100000
end Go.Proofs.YtjcojocjlglglaaGreat.G
namespace Go.Proofs.YtjcojocjlglglaaGreat.G
set_option linter.all false
open Go.RowKit L D
set_option maxRecDepth 100000
theorem rX(m s:Int):Sound ty Tryz.prog 174 [.a (.lit (.int .i64 m)), .a (.lit (.int .i64 s))] [.a (.lit (.int .i64 (tD m s)))]:=by
 refine Sound.of X Tryz.call174 Tryz.func174 rfl rfl (by decide) Tryz.ntmps174 (by simp) ?_
 intro zb
 refine W.seq ?_
 refine W.af X [] [] [0,1] [] rfl ⟨⟩ ?_
 refine W.seq ?_
 refine W.af X [] [(8,⟨false,[.a (.lit (.int .i64 (kh m [173,s])))]⟩),(9,⟨false,[.a (.lit (.int .i64 (Ie (kh m [173,s]))))]⟩)] [4] [] rfl (by(repeat' (first|with_reducible exact ak.nil|with_reducible refine ak.mk ?_ ?_|with_reducible apply And.intro))<;>skip;(iterate 2 (all_goals try (first|exact(bB m [173,s] (by first|assumption|omega| (simp;done)| (simp;omega)))|exact(lz (kh m [173,s])))));all_goals (first|exact⟨rfl,bS _ (by decide)⟩)) ?_
 refine W.ret ?_
 exact Fin.ret rfl ⟨rfl,⟨⟩⟩
theorem qA(s:bO)(hz:s.received.length≤1048576∧ ∀r,r∈s.received→bY List.length r.share.rows≤1048576):Sound ty Tryz.prog 260 [.agg (cG s)] [.agg (cG s)]:=by
 refine Sound.of X Tryz.call260 Tryz.func260 rfl rfl (by decide) Tryz.ntmps260 (by simp) ?_
 intro zb
 refine W.seq ?_
 refine W.af X [] [] [1,2] [] rfl ⟨⟩ ?_
 refine W.seq ?_
 refine W.af X [] [] [1,2,3] [] rfl (by(repeat' (first|exact True.intro|apply And.intro))<;>first|exact rfl) ?_
 refine W.seq ?_
 refine W.seq ?_
 refine W.af X [] [] [1,2,3,8,9,10] [] rfl ⟨⟩ ?_
 refine W.block ?_
 refine W.aP (fun k=>k≤s.received.length) (fun k:Nat=> [(10, .one (.a (.lit (.int .i64 k))))]) (fun k=> [(6, .arr .aE (s.received.take k))]) (fun k=>s.received.length-k) 0 (fun k=>rfl) (Nat.zero_le _) rfl ?_
 intro k hk
 have hle:=bp s.received k
 refine W.seq ?_
 refine W.af X [] [] [1,2,3,8,9,10,11] [] rfl ⟨⟩ ?_
 refine W.seq ?_
 refine W.cond rfl (fun hb0=> ?_) (fun hb0=> ?_)
 ·try simp only[nb,an,av,aa]at hb0
  have hs:=bg s.received k (au .aE) hb0
  refine W.skip ?_
  refine W.seq ?_
  refine W.block ?_
  refine W.seq ?_
  refine W.af X [] [] [1,2,3,5,8,9,10] [] rfl (by(repeat' (first|exact True.intro|apply And.intro))<;>first| (intros;omega)) ?_
  refine W.draw X [(22,6)] [(19,⟨true,[.agg (bR ((s.received.getD k (au .aE)).share))]⟩),(500021,⟨true,[]⟩)] [1,2,3,8,9,10] [] 8 MO (by kernel_rfl) rfl (by(repeat' (first|with_reducible exact ak.nil|with_reducible refine ak.mk ?_ ?_|with_reducible apply And.intro))<;>skip;(iterate 1 (all_goals try (first|exact(eY ((s.received.getD k (au .aE)).share) (hz.2 _ (getD_in _ hb0))))));all_goals (first|exact rfl|exact⟨rfl,bS _ (by decide)⟩| (simp only[cE,maxLen,lens];omega))) ?_
  refine W.af X [] [] [1,2,3,8,9,10] [] rfl ⟨⟩ ?_
  refine⟨k+1,by omega,by omega,?_⟩
  rw[bn _ k rfl (by omega),hs]
  try rfl
 ·try simp only[nb,an,av,aa]at hb0
  refine W.exit ?_
  refine W.seq ?_
  refine W.af X [] [] [1,2] [] rfl ⟨⟩ ?_
  refine W.seq ?_
  refine W.af X [] [] [2] [] rfl (by(repeat' (first|exact True.intro|apply And.intro))) ?_
  refine W.ret ?_
  exact Fin.ret rfl ⟨rfl,rfl,rfl,by rw[List.take_of_length_le hb0],rfl,⟨⟩⟩
theorem oW(l:List bO)(hl:l.length≤1048576)(hz: ∀s,s∈l→CM s):Sound ty Tryz.prog 161 [.a (.sl .bO l)] [.a (.sl .bO l)]:=by
 refine Sound.of X Tryz.call161 Tryz.func161 rfl rfl (by decide) Tryz.ntmps161 (by simp) ?_
 intro zb
 refine W.seq ?_
 refine W.af X [] [] [0] [] rfl ⟨⟩ ?_
 refine W.seq ?_
 refine W.af X [] [] [0,3] [] rfl (by(repeat' (first|exact True.intro|apply And.intro))<;>first|exact rfl) ?_
 refine W.seq ?_
 refine W.seq ?_
 refine W.af X [] [] [3,7,8,9] [] rfl ⟨⟩ ?_
 refine W.block ?_
 refine W.aP (fun k=>k≤l.length) (fun k:Nat=> [(9, .one (.a (.lit (.int .i64 k))))]) (fun k=> [(6, .arr .bO (l.take k))]) (fun k=>l.length-k) 0 (fun k=>rfl) (Nat.zero_le _) rfl ?_
 intro k hk
 have hle:=bp l k
 refine W.seq ?_
 refine W.af X [] [] [3,7,8,9,10] [] rfl ⟨⟩ ?_
 refine W.seq ?_
 refine W.cond rfl (fun hb0=> ?_) (fun hb0=> ?_)
 ·try simp only[nb,an,av,aa]at hb0
  have hs:=bg l k (au .bO) hb0
  refine W.skip ?_
  refine W.seq ?_
  refine W.block ?_
  refine W.seq ?_
  refine W.af X [] [] [3,5,7,8,9] [] rfl (by(repeat' (first|exact True.intro|apply And.intro))<;>first| (intros;omega)) ?_
  refine W.af X [(17,6)] [(15,⟨true,[.agg (cG (l.getD k (au .bO)))]⟩)] [3,7,8,9] [] rfl (by(repeat' (first|with_reducible exact ak.nil|with_reducible refine ak.mk ?_ ?_|with_reducible apply And.intro))<;>skip;(iterate 1 (all_goals try (first|exact(qA (l.getD k (au .bO)) (hz _ (getD_in _ hb0))))));all_goals (first|exact rfl| (simp only[cE,maxLen,lens];omega))) ?_
  refine W.af X [] [] [3,7,8,9] [] rfl ⟨⟩ ?_
  refine⟨k+1,by omega,by omega,?_⟩
  rw[bn _ k rfl (by omega),hs]
  try rfl
 ·try simp only[nb,an,av,aa]at hb0
  refine W.exit ?_
  refine W.seq ?_
  refine W.af X [] [] [2] [] rfl ⟨⟩ ?_
  refine W.ret ?_
  exact Fin.ret rfl ⟨by rw[List.take_of_length_le hb0],⟨⟩⟩
theorem rY(m s:Int):Sound ty Tryz.prog 151 [.a (.lit (.int .i64 m)), .a (.lit (.int .i64 s))] [.a (.lit (.int .i64 (tD m s)))]:=by
 refine Sound.of X Tryz.call151 Tryz.func151 rfl rfl (by decide) Tryz.ntmps151 (by simp) ?_
 intro zb
 refine W.seq ?_
 refine W.af X [] [] [0,1] [] rfl ⟨⟩ ?_
 refine W.seq ?_
 refine W.af X [] [(8,⟨false,[.a (.lit (.int .i64 (kh m [173,s])))]⟩),(9,⟨false,[.a (.lit (.int .i64 (if(kh m [173,s])>1 then(kh m [173,s])else 1)))]⟩)] [4] [] rfl (by(repeat' (first|with_reducible exact ak.nil|with_reducible refine ak.mk ?_ ?_|with_reducible apply And.intro))<;>skip;(iterate 2 (all_goals try (first|exact(bC m [173,s] (by first|assumption|omega| (simp;done)| (simp;omega)))|exact(oO 1 (kh m [173,s])))));all_goals (first|exact⟨rfl,bS _ (by decide)⟩)) ?_
 refine W.ret ?_
 exact Fin.ret rfl ⟨by rw[HH],⟨⟩⟩
theorem wz(s:bO)(hz:s.received.length≤1048576∧ ∀r,r∈s.received→bY List.length r.share.rows≤1048576):Sound ty Tryz.prog 137 [.agg (cG s)] [.agg (cG s)]:=by
 refine Sound.of X Tryz.call137 Tryz.func137 rfl rfl (by decide) Tryz.ntmps137 (by simp) ?_
 intro zb
 refine W.seq ?_
 refine W.af X [] [] [1,2] [] rfl ⟨⟩ ?_
 refine W.seq ?_
 refine W.af X [] [] [1,2,3] [] rfl (by(repeat' (first|exact True.intro|apply And.intro))) ?_
 refine W.seq ?_
 refine W.af X [] [] [1,2,3] [] rfl (by(repeat' (first|exact True.intro|apply And.intro))<;>first|exact rfl) ?_
 refine W.seq ?_
 refine W.seq ?_
 refine W.af X [] [] [1,2,3,4] [] rfl ⟨⟩ ?_
 refine W.block ?_
 refine W.aP (fun k=>k≤s.received.length) (fun k:Nat=> [(4, .one (.a (.lit (.int .i64 k))))]) (fun k=> [(6, .arr .aE (s.received.take k))]) (fun k=>s.received.length-k) 0 (fun k=>rfl) (Nat.zero_le _) rfl ?_
 intro k hk
 have hle:=bp s.received k
 refine W.seq ?_
 refine W.seq ?_
 refine W.af X [] [] [1,2,3,4,12] [] rfl ⟨⟩ ?_
 refine W.cond rfl (fun hb0=> ?_) (fun hb0=> ?_)
 ·try simp only[nb,an,av,aa]at hb0
  have hs:=bg s.received k (au .aE) hb0
  refine W.skip ?_
  refine W.seq ?_
  refine W.block ?_
  refine W.draw X [(32,6)] [(29,⟨true,[.agg (bR ((s.received.getD k (au .aE)).share))]⟩),(500031,⟨true,[]⟩)] [1,2,3,4] [] 17 MO (by kernel_rfl) rfl (by(repeat' (first|with_reducible exact ak.nil|with_reducible refine ak.mk ?_ ?_|with_reducible apply And.intro))<;>skip;(iterate 1 (all_goals try (first|exact(jS ((s.received.getD k (au .aE)).share) (hz.2 _ (getD_in _ hb0))))));all_goals (first| (intros;omega)|exact rfl|exact⟨rfl,bS _ (by decide)⟩| (simp only[cE,maxLen,lens];omega))) ?_
  refine W.af X [] [] [1,2,3,4] [] rfl ⟨⟩ ?_
  refine⟨k+1,by omega,by omega,?_⟩
  rw[bn _ k rfl (by omega),hs]
  try rfl
 ·try simp only[nb,an,av,aa]at hb0
  refine W.exit ?_
  refine W.seq ?_
  refine W.af X [] [] [2] [] rfl (by(repeat' (first|exact True.intro|apply And.intro))) ?_
  refine W.ret ?_
  exact Fin.ret rfl ⟨rfl,rfl,rfl,by rw[List.take_of_length_le hb0],rfl,⟨⟩⟩
end Go.Proofs.YtjcojocjlglglaaGreat.G
namespace Go.Proofs.YtjcojocjlglglaaGreat.G
set_option linter.all false
open Go.RowKit L D
set_option maxRecDepth 100000
theorem eK(c:dL)(h0:bY List.length c.aj≤1048576∧bY List.length c.inbox≤1048576):Sound ty Tryz.prog 155 [.agg (bf c)] [.agg (bf c)]:=by
 refine Sound.of X Tryz.call155 Tryz.func155 rfl rfl (by decide) Tryz.ntmps155 (by simp) ?_
 intro zb
 refine W.seq ?_
 refine W.af X [] [] [1,2] [] rfl ⟨⟩ ?_
 refine W.seq ?_
 refine W.af X [] [] [1,2,3] [] rfl (by(repeat' (first|exact True.intro|apply And.intro))) ?_
 refine W.seq ?_
 refine W.af X [] [(7,⟨true,[.a (.sl (.sl .u8) c.aj)]⟩)] [1,2,3] [] rfl (by(repeat' (first|with_reducible exact ak.nil|with_reducible refine ak.mk ?_ ?_|with_reducible apply And.intro))<;>skip;(iterate 1 (all_goals try (first|exact(jQ c.aj h0.1))))) ?_
 refine W.seq ?_
 refine W.af X [] [(11,⟨true,[.a (.sl (.sl .u8) c.inbox)]⟩)] [2,3] [] rfl (by(repeat' (first|with_reducible exact ak.nil|with_reducible refine ak.mk ?_ ?_|with_reducible apply And.intro))<;>skip;(iterate 1 (all_goals try (first|exact(jQ c.inbox h0.2))))) ?_
 refine W.seq ?_
 refine W.af X [] [] [2] [] rfl (by(repeat' (first|exact True.intro|apply And.intro))) ?_
 refine W.ret ?_
 exact Fin.ret rfl ⟨rfl,rfl,rfl,rfl,rfl,rfl,rfl,rfl,⟨⟩⟩
theorem jj(d:aO)(h0:aN d≤1048576):Sound ty Tryz.prog 138 [.agg (bq d)] [.agg (bq d)]:=by
 refine Sound.of X Tryz.call138 Tryz.func138 rfl rfl (by decide) Tryz.ntmps138 (by simp) ?_
 intro zb
 have tj:bh d.live≤1048576∧bh d.saved≤1048576:=by unfold aN at h0;omega
 unfold bh at tj
 refine W.seq ?_
 refine W.af X [] [] [1,2] [] rfl ⟨⟩ ?_
 refine W.seq ?_
 refine W.draw X [] [(5,⟨true,[.agg (bf d.live)]⟩),(8,⟨true,[.agg (bf d.saved)]⟩)] [2] [] 7 MO (by kernel_rfl) rfl (by(repeat' (first|with_reducible exact ak.nil|with_reducible refine ak.mk ?_ ?_|with_reducible apply And.intro))<;>skip;(iterate 2 (all_goals try (first|exact(eK d.live ⟨by omega,by omega⟩)|exact(eK d.saved ⟨by omega,by omega⟩))))) ?_
 refine W.ret ?_
 exact Fin.ret rfl ⟨rfl,rfl,rfl,rfl,rfl,rfl,rfl,rfl,rfl,rfl,rfl,rfl,rfl,rfl,rfl,rfl,⟨⟩⟩
theorem wA(a:gJ)(h0:bU a≤1048576):Sound ty Tryz.prog 139 [.agg (bN a)] [.agg (bN a)]:=by
 refine Sound.of X Tryz.call139 Tryz.func139 rfl rfl (by decide) Tryz.ntmps139 (by simp) ?_
 intro zb
 have hls:bY aV a.rounds≤1048576:=h0
 have nq:=cR hls
 refine W.seq ?_
 refine W.af X [] [] [1,2] [] rfl ⟨⟩ ?_
 refine W.seq ?_
 refine W.af X [] [] [1,2,3] [] rfl ⟨⟩ ?_
 refine W.rP 3 1 60 .az rfl ?_
 refine W.seq ?_
 refine W.seq ?_
 refine W.af X [] [] [1,2,3,4] [] rfl ⟨⟩ ?_
 refine W.block ?_
 refine W.aP (fun k=>k≤a.rounds.length) (fun k:Nat=> [(4, .one (.a (.lit (.int .i64 k))))]) (fun k=> [(60, .arr .az (a.rounds.take k))]) (fun k=>a.rounds.length-k) 0 (fun k=>rfl) (Nat.zero_le _) rfl ?_
 intro k hk
 have hle:=bp a.rounds k
 refine W.seq ?_
 refine W.seq ?_
 refine W.af X [] [] [1,2,3,4,12] [] rfl ⟨⟩ ?_
 refine W.cond rfl (fun hb0=> ?_) (fun hb0=> ?_)
 ·try simp only[nb,an,av,aa]at hb0
  have hs:=bg a.rounds k (au .az) hb0
  refine W.skip ?_
  refine W.seq ?_
  refine W.block ?_
  refine W.draw X [(32,60)] [(29,⟨true,[.agg (bR ((a.rounds.getD k (au .az)).db))]⟩),(500031,⟨true,[]⟩)] [1,2,3,4] [] 17 MO (by kernel_rfl) rfl (by(repeat' (first|with_reducible exact ak.nil|with_reducible refine ak.mk ?_ ?_|with_reducible apply And.intro))<;>skip;(iterate 1 (all_goals try (first|exact(jS ((a.rounds.getD k (au .az)).db) (fu hls (getD_some a.rounds _ k hb0))))));all_goals (first| (intros;omega)|exact rfl|exact⟨rfl,bS _ (by decide)⟩| (simp only[cE,maxLen,lens];omega))) ?_
  refine W.af X [] [] [1,2,3,4] [] rfl ⟨⟩ ?_
  refine⟨k+1,by omega,by omega,?_⟩
  rw[bn _ k rfl (by omega),hs]
  try rfl
 ·try simp only[nb,an,av,aa]at hb0
  refine W.exit ?_
  refine W.seq ?_
  refine W.af X [] [] [2] [] rfl (by(repeat' (first|exact True.intro|apply And.intro))) ?_
  refine W.ret ?_
  exact Fin.ret rfl ⟨rfl,by rw[List.take_of_length_le hb0],⟨⟩⟩
theorem wD(x:b7)(h0:wB x):Sound ty Tryz.prog 62 [.agg (bz x)] [.agg (bz x)]:=by
 refine Sound.of X Tryz.call62 Tryz.func62 rfl rfl (by decide) Tryz.ntmps62 (by simp) ?_
 intro zb
 have hls:bY aZ x.aq≤1048576∧bY aN x.ah≤1048576∧bU x.aA≤1048576∧x.replaced.length≤4194304:=h0
 have lU:=cR hls.1
 have jq:=cR hls.2.1
 refine W.seq ?_
 refine W.af X [] [] [1,2] [] rfl ⟨⟩ ?_
 refine W.seq ?_
 refine W.af X [] [] [1,2,3] [] rfl (by(repeat' (first|exact True.intro|apply And.intro))) ?_
 refine W.seq ?_
 refine W.af X [] [] [1,2,3] [] rfl (by(repeat' (first|exact True.intro|apply And.intro))<;>first|exact rfl) ?_
 refine W.seq ?_
 refine W.seq ?_
 refine W.af X [] [] [1,2,3,4] [] rfl ⟨⟩ ?_
 refine W.block ?_
 refine W.aP (fun k=>k≤x.aq.length) (fun k:Nat=> [(4, .one (.a (.lit (.int .i64 k))))]) (fun k=> [(7, .arr .bO (x.aq.take k))]) (fun k=>x.aq.length-k) 0 (fun k=>rfl) (Nat.zero_le _) rfl ?_
 intro k hk
 have hle:=bp x.aq k
 refine W.seq ?_
 refine W.seq ?_
 refine W.af X [] [] [1,2,3,4,13] [] rfl ⟨⟩ ?_
 refine W.cond rfl (fun hb0=> ?_) (fun hb0=> ?_)
 ·try simp only[nb,an,av,aa]at hb0
  have hs:=bg x.aq k (au .bO) hb0
  have hss:=ym hls.1 (getD_some x.aq (au .bO) k hb0)
  refine W.skip ?_
  refine W.seq ?_
  refine W.block ?_
  refine W.draw X [(25,7)] [(23,⟨true,[.agg (cG (x.aq.getD k (au .bO)))]⟩),(500024,⟨true,[]⟩)] [1,2,3,4] [] 9 MO (by kernel_rfl) rfl (by(repeat' (first|with_reducible exact ak.nil|with_reducible refine ak.mk ?_ ?_|with_reducible apply And.intro))<;>skip;(iterate 1 (all_goals try (first|exact(wz (x.aq.getD k (au .bO)) hss))));all_goals (first| (intros;omega)|exact rfl|exact⟨rfl,bS _ (by decide)⟩| (simp only[cE,maxLen,lens];omega))) ?_
  refine W.af X [] [] [1,2,3,4] [] rfl ⟨⟩ ?_
  refine⟨k+1,by omega,by omega,?_⟩
  rw[bn _ k rfl (by omega),hs]
  try rfl
 ·try simp only[nb,an,av,aa]at hb0
  refine W.exit ?_
  refine W.seq ?_
  refine W.af X [] [] [1,2,3] [] rfl (by(repeat' (first|exact True.intro|apply And.intro))<;>first|exact rfl) ?_
  refine W.seq ?_
  refine W.seq ?_
  refine W.af X [] [] [1,2,3,5] [] rfl ⟨⟩ ?_
  refine W.block ?_
  refine W.aP (fun k1=>k1≤x.ah.length) (fun k1:Nat=> [(5, .one (.a (.lit (.int .i64 k1))))]) (fun k1=> [(27, .arr .aO (x.ah.take k1))]) (fun k1=>x.ah.length-k1) 0 (fun k1=>rfl) (Nat.zero_le _) rfl ?_
  intro k1 hk1
  have OP:=bp x.ah k1
  refine W.seq ?_
  refine W.seq ?_
  refine W.af X [] [] [1,2,3,5,33] [] rfl ⟨⟩ ?_
  refine W.cond rfl (fun aH=> ?_) (fun aH=> ?_)
  ·try simp only[nb,an,av,aa]at aH
   have hs1:=bg x.ah k1 (au .aO) aH
   refine W.skip ?_
   refine W.seq ?_
   refine W.block ?_
   refine W.mU X [(45,27)] [(43,⟨true,[.agg (bq (x.ah.getD k1 (au .aO)))]⟩)] [1,2,3,5] [] 1279 (.ph 255 (.br 255 8 (.ph 0 (.br 0 9 (.ph 1024 (.br 1024 11 (.last 0) (.nil))) (.nil))) (.br 253 8 (.ph 2 (.br 2 9 (.ph 1024 (.br 1024 11 (.last 0) (.nil))) (.nil))) (.br 252 8 (.ph 3 (.br 3 9 (.ph 1024 (.br 1024 11 (.last 0) (.nil))) (.nil))) (.nil))))) 2 MO (by kernel_rfl) rfl (by kernel_rfl) (by(repeat' (first|with_reducible exact ak.nil|with_reducible refine ak.mk ?_ ?_|with_reducible apply And.intro))<;>skip;(iterate 1 (all_goals try (first|exact(jj (x.ah.getD k1 (au .aO)) (fu hls.2.1 (getD_some x.ah _ k1 aH))))));all_goals (first| (intros;omega)|exact rfl| (simp only[cE,maxLen,lens];omega))) ?_
   refine W.af X [] [] [1,2,3,5] [] rfl ⟨⟩ ?_
   refine⟨k1+1,by omega,by omega,?_⟩
   rw[bn _ k1 rfl (by omega),hs1]
   try rfl
  ·try simp only[nb,an,av,aa]at aH
   refine W.exit ?_
   refine W.seq ?_
   refine W.af X [] [(49,⟨true,[.agg (bN x.aA)]⟩)] [1,2,3] [] rfl (by(repeat' (first|with_reducible exact ak.nil|with_reducible refine ak.mk ?_ ?_|with_reducible apply And.intro))<;>skip;(iterate 1 (all_goals try (first|exact(wA x.aA hls.2.2.1))))) ?_
   refine W.seq ?_
   refine W.af X [(54,51)] [] [2,3] [] rfl (by(repeat' (first|exact True.intro|apply And.intro))<;>first|exact rfl| (simp only[cE,maxLen,lens];omega)) ?_
   refine W.seq ?_
   refine W.af X [] [] [2] [] rfl (by(repeat' (first|exact True.intro|apply And.intro))) ?_
   refine W.ret ?_
   exact Fin.ret rfl ⟨rfl,by rw[List.take_of_length_le hb0],by rw[List.take_of_length_le aH],rfl,rfl,rfl,rfl,rfl,rfl,rfl,⟨⟩⟩
end Go.Proofs.YtjcojocjlglglaaGreat.G
namespace Go.Proofs.YtjcojocjlglglaaGreat.G
set_option linter.all false
open Go.RowKit L D
set_option maxRecDepth 100000
end Go.Proofs.YtjcojocjlglglaaGreat.G
namespace Go.Proofs.YtjcojocjlglglaaGreat.G
set_option linter.all false
open Go.RowKit L D
set_option maxRecDepth 100000
theorem oY(a:gJ)(f:Int)(LO:a.rounds.length≤1048576):Sound ty Tryz.prog 74 [.agg (bN a), .a (.lit (.int .i64 f))] [.a (.sl .int (eo a.rounds f))]:=by
 refine Sound.of X Tryz.call74 Tryz.func74 rfl rfl (by decide) Tryz.ntmps74 (by simp) ?_
 intro zb
 refine W.seq ?_
 refine W.af X [] [] [1,2] [] rfl ⟨⟩ ?_
 refine W.seq ?_
 refine W.af X [] [] [1,2,5] [] rfl (by(repeat' (first|exact True.intro|apply And.intro))<;>first|exact rfl) ?_
 refine W.seq ?_
 refine W.seq ?_
 refine W.af X [] [] [1,5,10,11,12] [] rfl ⟨⟩ ?_
 refine W.block ?_
 refine W.aP (fun k=>k≤a.rounds.length) (fun k:Nat=> [(12, .one (.a (.lit (.int .i64 k))))]) (fun k=> [(8, .arr .int (eo (a.rounds.take k) f))]) (fun k=>a.rounds.length-k) 0 (fun k=>rfl) (Nat.zero_le _) rfl ?_
 intro k hk
 have hle:=s6 a.rounds f k
 refine W.seq ?_
 refine W.af X [] [] [1,5,10,11,12,13] [] rfl ⟨⟩ ?_
 refine W.seq ?_
 refine W.cond rfl (fun hb0=> ?_) (fun hb0=> ?_)
 ·try simp only[nb,an,av,aa]at hb0
  refine W.skip ?_
  refine W.seq ?_
  refine W.block ?_
  refine W.seq ?_
  refine W.af X [] [] [1,5,7,10,11,12] [] rfl (by(repeat' (first|exact True.intro|apply And.intro))<;>first| (intros;omega)) ?_
  refine W.seq ?_
  refine W.af X [] [] [1,5,7,10,11,12,19] [] rfl ⟨⟩ ?_
  refine W.cond rfl (fun aH=> ?_) (fun aH=> ?_)
  ·try simp only[nb,an,av,aa]at aH
   have hs:=wE a.rounds f k hb0 (by omega)
   refine W.af X [(24,8)] [] [1,5,10,11,12] [] rfl (by(repeat' (first|exact True.intro|apply And.intro))<;>first|exact rfl| (simp only[cE,maxLen,lens];omega)) ?_
   refine W.af X [] [] [1,5,10,11,12] [] rfl ⟨⟩ ?_
   refine⟨k+1,by omega,by omega,?_⟩
   rw[bn _ k rfl (by omega),hs]
   try rfl
  ·try simp only[nb,an,av,aa]at aH
   have hs:=sZ a.rounds f k hb0 (by omega)
   refine W.skip ?_
   refine W.af X [] [] [1,5,10,11,12] [] rfl ⟨⟩ ?_
   refine⟨k+1,by omega,by omega,?_⟩
   rw[bn _ k rfl (by omega),hs]
   try rfl
 ·try simp only[nb,an,av,aa]at hb0
  refine W.exit ?_
  refine W.seq ?_
  refine W.af X [] [] [4] [] rfl ⟨⟩ ?_
  refine W.ret ?_
  exact Fin.ret rfl ⟨by rw[List.take_of_length_le hb0],⟨⟩⟩
theorem oZ(a:gJ)(f:Int)(LO:a.rounds.length≤1048576):Sound ty Tryz.prog 64 [.agg (bN a), .a (.lit (.int .i64 f))] [.a (.sl .int (eo a.rounds f))]:=by
 refine Sound.of X Tryz.call64 Tryz.func64 rfl rfl (by decide) Tryz.ntmps64 (by simp) ?_
 intro zb
 refine W.seq ?_
 refine W.af X [] [] [1,2] [] rfl ⟨⟩ ?_
 refine W.seq ?_
 refine W.af X [] [] [1,2,5] [] rfl (by(repeat' (first|exact True.intro|apply And.intro))<;>first|exact rfl) ?_
 refine W.seq ?_
 refine W.seq ?_
 refine W.af X [] [] [1,2,5,6] [] rfl ⟨⟩ ?_
 refine W.block ?_
 refine W.aP (fun k=>k≤a.rounds.length) (fun k:Nat=> [(6, .one (.a (.lit (.int .i64 k))))]) (fun k=> [(7, .arr .int (eo (a.rounds.take k) f))]) (fun k=>a.rounds.length-k) 0 (fun k=>rfl) (Nat.zero_le _) rfl ?_
 intro k hk
 have hle:=s6 a.rounds f k
 refine W.seq ?_
 refine W.seq ?_
 refine W.af X [] [] [1,2,5,6,12] [] rfl ⟨⟩ ?_
 refine W.cond rfl (fun hb0=> ?_) (fun hb0=> ?_)
 ·try simp only[nb,an,av,aa]at hb0
  refine W.skip ?_
  refine W.seq ?_
  refine W.block ?_
  refine W.seq ?_
  refine W.af X [] [] [1,2,5,6,22] [] rfl (by(repeat' (first|exact True.intro|apply And.intro))<;>first| (intros;omega)) ?_
  refine W.cond rfl (fun aH=> ?_) (fun aH=> ?_)
  ·try simp only[nb,an,av,aa]at aH
   have hs:=wE a.rounds f k hb0 (by omega)
   refine W.af X [(31,7)] [] [1,2,5,6] [] rfl (by(repeat' (first|exact True.intro|apply And.intro))<;>first| (intros;omega)|exact rfl| (simp only[cE,maxLen,lens];omega)) ?_
   refine W.af X [] [] [1,2,5,6] [] rfl ⟨⟩ ?_
   refine⟨k+1,by omega,by omega,?_⟩
   rw[bn _ k rfl (by omega),hs]
   try rfl
  ·try simp only[nb,an,av,aa]at aH
   have hs:=sZ a.rounds f k hb0 (by omega)
   refine W.skip ?_
   refine W.af X [] [] [1,2,5,6] [] rfl ⟨⟩ ?_
   refine⟨k+1,by omega,by omega,?_⟩
   rw[bn _ k rfl (by omega),hs]
   try rfl
 ·try simp only[nb,an,av,aa]at hb0
  refine W.exit ?_
  refine W.seq ?_
  refine W.af X [] [] [4] [] rfl ⟨⟩ ?_
  refine W.ret ?_
  exact Fin.ret rfl ⟨by rw[List.take_of_length_le hb0],⟨⟩⟩
end Go.Proofs.YtjcojocjlglglaaGreat.G
