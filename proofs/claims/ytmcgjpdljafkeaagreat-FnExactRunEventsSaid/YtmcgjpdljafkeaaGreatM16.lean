/-
  All shares of a round, handed out.
-/
import Derived.Lib.AppendZeros
import Derived.Test.YtmcgjpdljafkeaaGreatM9
namespace Go.Proofs.YtmcgjpdljafkeaaGreat.G
set_option linter.all false
open Go.RowKit L D
section
set_option maxRecDepth 100000
theorem PV{w w':World}{t:Tag}{g n:Nat}{c:Array Value}(hg:g=w.heap.size)(hb:Below w.heap.size w w')(hc:w'.heap[g]? =some (.cells c (ty t) (0,0)))(hs:c.size=n*kk t)(hn:n≤maxLen):
  V8 ty w [.a (.sl t [])] (.returned (.slice (some ⟨g,0,none⟩) 0 n)) w':=by
 have hown:Own w.heap.size w' (g::([]:List (List Nat)).flatten):=⟨by simp,fun b Ej=>by simp at Ej;omega,fun b Ej=>by simp at Ej;subst Ej;exact⟨_,_,hc⟩⟩
 have hp:Part (kk t) (rd t) w.heap.size (ty t) w' g n ([]:List (T t)) []:=⟨⟨c,hc,hs⟩,⟨rfl,by simp⟩,hown,hn⟩
 have hB:=Part.KN (eT t) hp (Nat.zero_le _)
 exact⟨_,_,rfl,hb,hown,_,[],hB,rfl,by simp⟩
theorem SG{w:World}{t:Tag}:V8 ty w [.a (.sl t [])] (.returned Fm) w:=by
 refine⟨_,[],rfl,Below.refl _ _,Own.nil _ _,[],[],⟨[],[],?_,rfl,by simp,rfl,Own.nil _ _⟩,rfl,rfl⟩
 exact⟨by simp,Or.inl ⟨rfl,rfl⟩⟩
theorem PW(w:World)(n:Nat)(h1:n≤1099511627776):Calls Tryz.prog 294 #[Fm, .int .i64 n] w (V8 ty w [.a (.sl .int [])]):=by
 have uJ:El Tryz.prog ty .int:=bH _ (by decide)
 cases hq:Tryz.prog.info? (ty .int)with
 |none=>simp[El,hq]at uJ
 |some inf=>
  simp[El,hq]at uJ
  obtain⟨z1,z2,z3⟩:=uJ
  by_cases h0:n=0
  ·subst h0
   go_enter Tryz.func294,Tryz.ntmps294
   go_wp2
   go_ret
   exact SG
  ·have hsz:inf.size=1:=z2
   have hby:inf.bytes≤8:=by rw[z3];decide
   have hmul:n*inf.bytes≤8796093022208:=Nat.le_trans (Nat.mul_le_mul (show n≤1099511627776 from h1) hby) (by decide)
   have hrun:=Lib.run_append_nil_zeros (P:=Tryz.prog) w 27 3 27 (ty .int) inf (eM .int) .i64 .i64 (X.kind 27).1 (X.kind 3) hq z1 n (by omega) (by omega) (by omega) (by omega)
   have hge:=grownCap_ge w n 0 (ty .int)
   have Jd:=grownCap_le_maxLen w n 0 (ty .int) (by unfold maxLen;omega)
   generalize grownCap w n 0 (ty .int)=g at hrun hge Jd
   go_enter Tryz.func294,Tryz.ntmps294
   go_wp2_with (at_builtin;refine Lib.wpList_append_run _ rfl _ _ _ _ rfl _ _ rfl rfl _ _ hrun ?_)
   go_ret
   refine PV (t:= .int) rfl ((Below.refl _ _).drew.alloc (Nat.le_refl _) _) (oz rfl) ?_ Jd
   rw[Array.size_append,size_zeroCells,size_zeroCells, ←Nat.add_mul,show n+(g-n)=g by omega]
   rfl
theorem qJ(n:Nat)(h1:n≤1099511627776):Sound ty Tryz.prog 294 [.a (.lit Fm), .a (.lit (.int .i64 n))] [.a (.sl .int [])]:=by
 refine⟨fun args w=>Tryz.call294 args w,fun w us _ ha=> ?_⟩
 match us,ha with
 | [u1,u2],⟨⟨_,e1⟩,⟨_,e2⟩,_⟩=>
   obtain⟨e1,_⟩:=e1
   obtain⟨e2,_⟩:=e2
   rw[e1,e2]
   exact PW w n h1
end
section
set_option maxRecDepth 100000
theorem aE(x lo hi:Int):Sound ty Tryz.prog 69 [.a (.lit (.int .i64 x)), .a (.lit (.int .i64 lo)), .a (.lit (.int .i64 hi))] [.a (.lit (.bool (inr x lo hi)))]:=by
 refine Sound.o X Tryz.call69 Tryz.func69 Tryz.ntmps69 rfl rfl ?_
 intro zb
 refine W.s0 X [0,1,2] rfl ⟨⟩ ?_
 refine W.s0 X [6] rfl ⟨⟩ ?_
 refine W.ret ?_
 exact Fin.ret rfl ⟨rfl,⟨⟩⟩
theorem aP(x lo hi:Int):Sound ty Tryz.prog 80 [.a (.lit (.int .i64 x)), .a (.lit (.int .i64 lo)), .a (.lit (.int .i64 hi))] [.a (.lit (.bool (inr x lo hi)))]:=by
 refine Sound.o X Tryz.call80 Tryz.func80 Tryz.ntmps80 rfl rfl ?_
 intro zb
 refine W.s0 X [0,1,2] rfl ⟨⟩ ?_
 refine W.s0 X [6] rfl ⟨⟩ ?_
 refine W.ret ?_
 exact Fin.ret rfl ⟨rfl,⟨⟩⟩
theorem Kb(p q:Int)(h1:1≤q)(h2:q≤1000000000000):Sound ty Tryz.prog 293 [.a (.lit (.int .i64 p)), .a (.lit (.int .i64 q))] [.a (.lit (.int .i64 (p % q)))]:=by
 refine Sound.o X Tryz.call293 Tryz.func293 Tryz.ntmps293 rfl rfl ?_
 intro zb
 refine W.s0 X [0,1] rfl ⟨⟩ ?_
 refine W.seq ?_
 refine W.sr X [] [(6,⟨false,[.a (.lit (.bool _))]⟩)] [0,1,7] [] rfl (by(repeat' with_reducible first|exact ah.nil|refine ah.mk ?_ ?_|apply And.intro)<;>first|exact(aE _ _ _)) ?_
 refine W.cond rfl (fun hb0=> ?_) (fun hb0=> ?_)
 ·try simp only[nb,an,au,af]at hb0
  omega
 ·try simp only[nb,an,au,af]at hb0
  refine W.skip ?_
  refine W.s0 X [4] rfl (by and_intros<;>first|exact⟨⟩| (intros;omega)) ?_
  refine W.ret ?_
  exact Fin.ret rfl ⟨by rw[md_eq p q h1 h2],⟨⟩⟩
theorem sj(l:List Int)(hl:l.length≤16777216):Sound ty Tryz.prog 218 [.a (.sl .int l)] [.a (.lit (.int .i64 (hsh l)))]:=by
 refine Sound.o X Tryz.call218 Tryz.func218 Tryz.ntmps218 rfl rfl ?_
 intro zb
 refine W.s0 X [0] rfl ⟨⟩ ?_
 refine W.s0 X [0,3] rfl ⟨⟩ ?_
 refine W.seq ?_
 refine W.s0 X [3,6,7,8] rfl ⟨⟩ ?_
 refine W.block ?_
 refine W.aI (fun k=>k≤l.length) (fun k:Nat=> [(3, .one (.a (.lit (.int .i64 (hsh (l.take k)))))),(8, .one (.a (.lit (.int .i64 k))))]) (fun k=> []) (fun k=>l.length-k) 0 (fun k=>rfl) (Nat.zero_le _) rfl ?_
 intro k hk
 refine W.s0 X [3,6,7,8,9] rfl ⟨⟩ ?_
 refine W.seq ?_
 refine W.cond rfl (fun hb0=> ?_) (fun hb0=> ?_)
 ·try simp only[nb,an,au,af]at hb0
  have hs:=HO l k hb0
  refine W.skip ?_
  refine W.seq ?_
  refine W.block ?_
  refine W.s0 X [3,5,6,7,8] rfl (by and_intros<;>first|exact⟨⟩| (intros;omega)) ?_
  refine W.fH X [] [(15,⟨false,[.a (.lit (.int .i64 _))]⟩)] [3,6,7,8] [] rfl (by(repeat' with_reducible first|exact ah.nil|refine ah.mk ?_ ?_|apply And.intro)<;>first|exact(Kb _ _ (by first|assumption|omega| (simp;done)| (simp;omega)) (by first|assumption|omega| (simp;done)| (simp;omega)))| (intros;omega)) ?_
  refine W.r0 X [3,6,7,8] rfl ⟨⟩ ?_
  refine⟨k+1,by omega,by omega,?_⟩
  rw[aV _ k rfl (by omega),hs]
  try rfl
 ·try simp only[nb,an,au,af]at hb0
  refine W.exit ?_
  refine W.s0 X [2] rfl ⟨⟩ ?_
  refine W.ret ?_
  exact Fin.ret rfl ⟨by rw[List.take_of_length_le hb0],⟨⟩⟩
theorem CD(p q:Int)(h1:1≤q)(h2:q≤1000000000000):Sound ty Tryz.prog 320 [.a (.lit (.int .i64 p)), .a (.lit (.int .i64 q))] [.a (.lit (.int .i64 (p % q)))]:=by
 refine Sound.o X Tryz.call320 Tryz.func320 Tryz.ntmps320 rfl rfl ?_
 intro zb
 refine W.s0 X [0,1] rfl ⟨⟩ ?_
 refine W.seq ?_
 refine W.sr X [] [(6,⟨false,[.a (.lit (.bool _))]⟩)] [0,1,7] [] rfl (by(repeat' with_reducible first|exact ah.nil|refine ah.mk ?_ ?_|apply And.intro)<;>first|exact(aP _ _ _)) ?_
 refine W.cond rfl (fun hb0=> ?_) (fun hb0=> ?_)
 ·try simp only[nb,an,au,af]at hb0
  omega
 ·try simp only[nb,an,au,af]at hb0
  refine W.skip ?_
  refine W.s0 X [4] rfl (by and_intros<;>first|exact⟨⟩| (intros;omega)) ?_
  refine W.ret ?_
  exact Fin.ret rfl ⟨by rw[md_eq p q h1 h2],⟨⟩⟩
theorem sk(l:List Int)(hl:l.length≤16777216):Sound ty Tryz.prog 258 [.a (.sl .int l)] [.a (.lit (.int .i64 (hsh l)))]:=by
 refine Sound.o X Tryz.call258 Tryz.func258 Tryz.ntmps258 rfl rfl ?_
 intro zb
 refine W.s0 X [0] rfl ⟨⟩ ?_
 refine W.s0 X [0,3] rfl ⟨⟩ ?_
 refine W.seq ?_
 refine W.s0 X [0,3,4] rfl ⟨⟩ ?_
 refine W.block ?_
 refine W.aI (fun k=>k≤l.length) (fun k:Nat=> [(3, .one (.a (.lit (.int .i64 (hsh (l.take k)))))),(4, .one (.a (.lit (.int .i64 k))))]) (fun k=> []) (fun k=>l.length-k) 0 (fun k=>rfl) (Nat.zero_le _) rfl ?_
 intro k hk
 refine W.seq ?_
 refine W.s0 X [0,3,4,8] rfl ⟨⟩ ?_
 refine W.cond rfl (fun hb0=> ?_) (fun hb0=> ?_)
 ·try simp only[nb,an,au,af]at hb0
  have hs:=HO l k hb0
  refine W.skip ?_
  refine W.seq ?_
  refine W.block ?_
  refine W.fH X [] [(17,⟨false,[.a (.lit (.int .i64 _))]⟩)] [0,3,4] [] rfl (by(repeat' with_reducible first|exact ah.nil|refine ah.mk ?_ ?_|apply And.intro)<;>first|exact(CD _ _ (by first|assumption|omega| (simp;done)| (simp;omega)) (by first|assumption|omega| (simp;done)| (simp;omega)))| (intros;omega)) ?_
  refine W.r0 X [0,3,4] rfl ⟨⟩ ?_
  refine⟨k+1,by omega,by omega,?_⟩
  rw[aV _ k rfl (by omega),hs]
  try rfl
 ·try simp only[nb,an,au,af]at hb0
  refine W.exit ?_
  refine W.s0 X [2] rfl ⟨⟩ ?_
  refine W.ret ?_
  exact Fin.ret rfl ⟨by rw[List.take_of_length_le hb0],⟨⟩⟩
theorem jv(l:List (List Int))(hl:l.length≤1048576)(hs0:(l.map List.length).sum≤1099511627776):Sound ty Tryz.prog 219 [.a (.sl (.sl .int) l)] [.a (.sl .int l.flatten)]:=by
 refine Sound.o X Tryz.call219 Tryz.func219 Tryz.ntmps219 rfl rfl ?_
 intro zb
 refine W.s0 X [0] rfl ⟨⟩ ?_
 refine W.s0 X [0,3] rfl ⟨⟩ ?_
 refine W.seq ?_
 refine W.s0 X [0,3,9,10,11] rfl ⟨⟩ ?_
 refine W.block ?_
 refine W.aI (fun k=>k≤l.length) (fun k:Nat=> [(3, .one (.a (.lit (.int .i64 ((l.take k).map List.length).sum)))),(11, .one (.a (.lit (.int .i64 k))))]) (fun k=> []) (fun k=>l.length-k) 0 (fun k=>rfl) (Nat.zero_le _) rfl ?_
 intro k hk
 have hle:=dn l List.length k
 refine W.s0 X [0,3,9,10,11,12] rfl ⟨⟩ ?_
 refine W.seq ?_
 refine W.cond rfl (fun hb0=> ?_) (fun hb0=> ?_)
 ·try simp only[nb,an,au,af]at hb0
  have hs:=HQ l (av (.sl .int)) k hb0
  have U1:=dn l List.length (k+1)
  rw[hs]at U1
  refine W.skip ?_
  refine W.seq ?_
  refine W.block ?_
  refine W.s0 X [0,3,5,9,10,11] rfl (by and_intros<;>first|exact⟨⟩| (intros;omega)) ?_
  refine W.s0 X [0,3,9,10,11] rfl (by and_intros<;>exact⟨⟩) ?_
  refine W.s0 X [0,3,9,10,11,20] rfl ⟨⟩ ?_
  refine W.cond rfl (fun aD=> ?_) (fun aD=> ?_)
  ·try simp only[nb,an,au,af]at aD
   rw[cC (by omega)]at aD
   omega
  ·try simp only[nb,an,au,af]at aD
   refine W.skip ?_
   refine W.r0 X [0,3,9,10,11] rfl ⟨⟩ ?_
   refine⟨k+1,by omega,by omega,?_⟩
   rw[aV _ k rfl (by omega),hs]
   rw[cC (by simp only[Int.toNat_natCast];omega)]
   try rfl
 ·try simp only[nb,an,au,af]at hb0
  rw[List.take_of_length_le hb0]
  refine W.exit ?_
  refine W.sr X [] [(24,⟨true,[.a (.sl .int [])]⟩),(300024,⟨true,[]⟩)] [0,6] [] rfl (by(repeat' with_reducible first|exact ah.nil|refine ah.mk ?_ ?_|apply And.intro)<;>first|exact(qJ _ hs0)) ?_
  refine W.seq ?_
  refine W.s0 X [6,25,26,27] rfl ⟨⟩ ?_
  refine W.block ?_
  refine W.aI (fun k1=>k1≤l.length) (fun k1:Nat=> [(27, .one (.a (.lit (.int .i64 k1))))]) (fun k1=> [(24, .arr .int (l.take k1).flatten)]) (fun k1=>l.length-k1) 0 (fun k1=>rfl) (Nat.zero_le _) rfl ?_
  intro k1 hk1
  have U2:=Ai l k1
  refine W.s0 X [6,25,26,27,28] rfl ⟨⟩ ?_
  refine W.seq ?_
  refine W.cond rfl (fun aR=> ?_) (fun aR=> ?_)
  ·try simp only[nb,an,au,af]at aR
   have hs1:=F1 l (av (.sl .int)) k1 aR
   have U1:=Ai l (k1+1)
   rw[hs1,List.length_append]at U1
   refine W.skip ?_
   refine W.seq ?_
   refine W.block ?_
   refine W.s0 X [6,8,25,26,27] rfl (by and_intros<;>first|exact⟨⟩| (intros;omega)) ?_
   refine W.fH X [(33,24)] [] [6,25,26,27] [] rfl (by and_intros<;>first|exact⟨⟩|exact rfl| (simp only[cN,maxLen,lens];omega)) ?_
   refine W.r0 X [6,25,26,27] rfl ⟨⟩ ?_
   refine⟨k1+1,by omega,by omega,?_⟩
   rw[aV _ k1 rfl (by omega),hs1]
   try rfl
  ·try simp only[nb,an,au,af]at aR
   refine W.exit ?_
   refine W.s0 X [2] rfl ⟨⟩ ?_
   refine W.ret ?_
   exact Fin.ret rfl ⟨by rw[List.take_of_length_le aR],⟨⟩⟩
theorem bt(k:Int)(l:List Int)(hl:l.length≤1048576):Sound ty Tryz.prog 134 [.a (.lit (.int .i64 k)), .a (.sl .int l)] [.a (.lit (.int .i64 (kh k l)))]:=by
 refine Sound.o X Tryz.call134 Tryz.func134 Tryz.ntmps134 rfl rfl ?_
 intro zb
 refine W.s0 X [0,1] rfl ⟨⟩ ?_
 refine W.sr X [] [(11,⟨true,[.a (.sl .int [[k],l,[k]].flatten)]⟩),(12,⟨false,[.a (.lit (.int .i64 (hsh [[k],l,[k]].flatten)))]⟩)] [4] [] rfl (by(repeat' with_reducible first|exact ah.nil|refine ah.mk ?_ ?_|apply And.intro);(iterate 2 all_goals try first|exact(jv _ (by simp) (by simp;omega))|exact(sj _ (by simp;omega)));all_goals first|exact rfl|exact⟨rfl,bH _ (by decide)⟩) ?_
 refine W.ret ?_
 exact Fin.ret rfl ⟨rfl,⟨⟩⟩
theorem bu(k:Int)(l:List Int)(hl:l.length≤1048576):Sound ty Tryz.prog 181 [.a (.lit (.int .i64 k)), .a (.sl .int l)] [.a (.lit (.int .i64 (kh k l)))]:=by
 refine Sound.o X Tryz.call181 Tryz.func181 Tryz.ntmps181 rfl rfl ?_
 intro zb
 refine W.s0 X [0,1] rfl ⟨⟩ ?_
 refine W.sr X [(8,6),(11,6)] [(12,⟨false,[.a (.lit (.int .i64 (hsh ([k]++l++ [k]))))]⟩)] [4] [] rfl (by(repeat' with_reducible first|exact ah.nil|refine ah.mk ?_ ?_|apply And.intro)<;>first|exact(sk _ (by simp;omega))|exact rfl|exact⟨rfl,bH _ (by decide)⟩| (simp only[cN,maxLen,lens];omega)) ?_
 refine W.ret ?_
 exact Fin.ret rfl ⟨rfl,⟨⟩⟩
theorem qd(n:Int):Sound ty Tryz.prog 206 [.a (.lit (.int .i64 n))] [.a (.lit (.int .i64 (M8 n)))]:=by
 refine Sound.o X Tryz.call206 Tryz.func206 Tryz.ntmps206 rfl rfl ?_
 intro zb
 refine W.s0 X [0] rfl ⟨⟩ ?_
 refine W.seq ?_
 refine W.s0 X [0,4] rfl ⟨⟩ ?_
 refine W.cond rfl (fun hb0=> ?_) (fun hb0=> ?_)
 ·try simp only[nb,an,au,af]at hb0
  refine W.s0 X [2] rfl ⟨⟩ ?_
  refine W.ret ?_
  exact Fin.ret rfl ⟨by rw[M8,if_pos hb0],⟨⟩⟩
 ·try simp only[nb,an,au,af]at hb0
  refine W.skip ?_
  refine W.s0 X [2] rfl ⟨⟩ ?_
  refine W.ret ?_
  exact Fin.ret rfl ⟨by rw[M8,if_neg (by simpa using hb0)],⟨⟩⟩
theorem kH(a b:Int):Sound ty Tryz.prog 72 [.a (.lit (.int .i64 a)), .a (.lit (.int .i64 b))] [.a (.lit (.int .i64 (if b>a then b else a)))]:=by
 refine Sound.o X Tryz.call72 Tryz.func72 Tryz.ntmps72 rfl rfl ?_
 intro zb
 refine W.s0 X [0,1] rfl ⟨⟩ ?_
 refine W.seq ?_
 refine W.s0 X [0,1,7] rfl ⟨⟩ ?_
 refine W.cond rfl (fun hb0=> ?_) (fun hb0=> ?_)
 ·try simp only[nb,an,au,af]at hb0
  refine W.s0 X [4] rfl ⟨⟩ ?_
  refine W.ret ?_
  exact Fin.ret rfl ⟨by rw[if_pos (by omega)],⟨⟩⟩
 ·try simp only[nb,an,au,af]at hb0
  refine W.skip ?_
  refine W.s0 X [4] rfl ⟨⟩ ?_
  refine W.ret ?_
  exact Fin.ret rfl ⟨by rw[if_neg (by omega)],⟨⟩⟩
theorem kI(s k:Int):Sound ty Tryz.prog 286 [.a (.lit (.int .i64 s)), .a (.lit (.int .i64 k))] [.a (.lit (.int .i64 (cs s k)))]:=by
 refine Sound.o X Tryz.call286 Tryz.func286 Tryz.ntmps286 rfl rfl ?_
 intro zb
 refine W.s0 X [0,1] rfl ⟨⟩ ?_
 refine W.sr X [] [(9,⟨false,[.a (.lit (.int .i64 _))]⟩)] [5] [] rfl (by(repeat' with_reducible first|exact ah.nil|refine ah.mk ?_ ?_|apply And.intro)<;>first|exact(bt _ _ (by first|assumption|omega| (simp;done)| (simp;omega)))|exact⟨rfl,bH _ (by decide)⟩) ?_
 refine W.s0 X [4] rfl (by and_intros<;>first|exact⟨⟩| (intros;omega)) ?_
 refine W.ret ?_
 exact Fin.ret rfl ⟨by rw[cs_eq (eI _ _).1 (eI _ _).2];rfl,⟨⟩⟩
theorem je(s n:Int)(h0:0≤n)(h1:n≤400):Sound ty Tryz.prog 280 [.a (.lit (.int .i64 s)), .a (.lit (.int .i64 n))] [.a (.sl .u8 (stream s n.toNat))]:=by
 refine Sound.o X Tryz.call280 Tryz.func280 Tryz.ntmps280 rfl rfl ?_
 intro zb
 refine W.s0 X [0,1] rfl ⟨⟩ ?_
 refine W.seq ?_
 refine W.sr X [] [(8,⟨false,[.a (.lit (.bool _))]⟩)] [0,1,9] [] rfl (by(repeat' with_reducible first|exact ah.nil|refine ah.mk ?_ ?_|apply And.intro)<;>first|exact(aE _ _ _)) ?_
 refine W.cond rfl (fun hb0=> ?_) (fun hb0=> ?_)
 ·try simp only[nb,an,au,af]at hb0
  omega
 ·try simp only[nb,an,au,af]at hb0
  refine W.skip ?_
  refine W.s0 X [0,1,5] rfl (by and_intros<;>first|exact⟨⟩|exact rfl) ?_
  refine W.seq ?_
  refine W.s0 X [0,5,11,12] rfl ⟨⟩ ?_
  refine W.block ?_
  refine W.aI (fun k=>k≤n.toNat) (fun k:Nat=> [(12, .one (.a (.lit (.int .i64 k))))]) (fun k=> [(10, .arr .u8 (stream s k))]) (fun k=>n.toNat-k) 0 (fun k=>rfl) (Nat.zero_le _) rfl ?_
  intro k hk
  have hle:=eJ s k
  refine W.s0 X [0,5,11,12,13] rfl ⟨⟩ ?_
  refine W.seq ?_
  refine W.cond rfl (fun aD=> ?_) (fun aD=> ?_)
  ·try simp only[nb,an,au,af]at aD
   have hs:=Ah s k (by omega)
   refine W.skip ?_
   refine W.seq ?_
   refine W.block ?_
   refine W.s0 X [0,5,6,11,12] rfl ⟨⟩ ?_
   refine W.fH X [(23,10)] [(19,⟨false,[.a (.lit (.int .i64 _))]⟩)] [0,5,11,12] [] rfl (by(repeat' with_reducible first|exact ah.nil|refine ah.mk ?_ ?_|apply And.intro)<;>first|exact(kI _ _)| (intros;omega)|exact rfl|exact⟨rfl,bH _ (by decide)⟩|exact(qc _).1|exact(qc _).2| (simp only[cN,maxLen,lens];omega)) ?_
   refine W.r0 X [0,5,11,12] rfl ⟨⟩ ?_
   refine⟨k+1,by omega,by omega,?_⟩
   rw[aV _ k rfl (by omega),hs]
   try rfl
  ·try simp only[nb,an,au,af]at aD
   refine W.exit ?_
   refine W.s0 X [4] rfl ⟨⟩ ?_
   refine W.ret ?_
   exact Fin.ret rfl ⟨by rw[show k=n.toNat by omega],⟨⟩⟩
theorem mP(l:List UInt8)(hl:l.length≤1048576):Sound ty Tryz.prog 328 [.a (.sl .u8 l)] [.a (.sl .int (yR l))]:=by
 refine Sound.o X Tryz.call328 Tryz.func328 Tryz.ntmps328 rfl rfl ?_
 intro zb
 refine W.s0 X [0] rfl ⟨⟩ ?_
 refine W.s0 X [0,3] rfl (by and_intros<;>first|exact⟨⟩|exact rfl) ?_
 refine W.seq ?_
 refine W.s0 X [3,9,10,11] rfl ⟨⟩ ?_
 refine W.block ?_
 refine W.aI (fun k=>k≤l.length) (fun k:Nat=> [(11, .one (.a (.lit (.int .i64 k))))]) (fun k=> [(8, .arr .int ((l.length:Int)::(l.take k).map (fun c=>(c.toNat:Int))))]) (fun k=>l.length-k) 0 (fun k=>rfl) (Nat.zero_le _) rfl ?_
 intro k hk
 refine W.s0 X [3,9,10,11,12] rfl ⟨⟩ ?_
 refine W.seq ?_
 refine W.cond rfl (fun hb0=> ?_) (fun hb0=> ?_)
 ·try simp only[nb,an,au,af]at hb0
  have hs:=HP l k hb0
  refine W.skip ?_
  refine W.seq ?_
  refine W.block ?_
  refine W.s0 X [3,5,9,10,11] rfl (by and_intros<;>first|exact⟨⟩| (intros;omega)) ?_
  refine W.fH X [(19,8)] [] [3,9,10,11] [] rfl (by and_intros<;>first|exact⟨⟩|exact rfl| (simp only[cN,maxLen,lens];omega)) ?_
  refine W.r0 X [3,9,10,11] rfl ⟨⟩ ?_
  refine⟨k+1,by omega,by omega,?_⟩
  rw[aV _ k rfl (by omega),hs]
  try rfl
 ·try simp only[nb,an,au,af]at hb0
  refine W.exit ?_
  refine W.s0 X [2] rfl ⟨⟩ ?_
  refine W.ret ?_
  exact Fin.ret rfl ⟨by rw[List.take_of_length_le hb0];rfl,⟨⟩⟩
theorem kJ(s k:Int):Sound ty Tryz.prog 313 [.a (.lit (.int .i64 s)), .a (.lit (.int .i64 k))] [.a (.lit (.int .i64 (cs s k)))]:=by
 refine Sound.o X Tryz.call313 Tryz.func313 Tryz.ntmps313 rfl rfl ?_
 intro zb
 refine W.s0 X [0,1] rfl ⟨⟩ ?_
 refine W.sr X [] [(9,⟨false,[.a (.lit (.int .i64 _))]⟩)] [5] [] rfl (by(repeat' with_reducible first|exact ah.nil|refine ah.mk ?_ ?_|apply And.intro)<;>first|exact(bu _ _ (by first|assumption|omega| (simp;done)| (simp;omega)))|exact⟨rfl,bH _ (by decide)⟩) ?_
 refine W.s0 X [4] rfl (by and_intros<;>first|exact⟨⟩| (intros;omega)) ?_
 refine W.ret ?_
 exact Fin.ret rfl ⟨by rw[cs_eq (eI _ _).1 (eI _ _).2];rfl,⟨⟩⟩
theorem jf(s n:Int)(h0:0≤n)(h1:n≤400):Sound ty Tryz.prog 310 [.a (.lit (.int .i64 s)), .a (.lit (.int .i64 n))] [.a (.sl .u8 (stream s n.toNat))]:=by
 refine Sound.o X Tryz.call310 Tryz.func310 Tryz.ntmps310 rfl rfl ?_
 intro zb
 refine W.s0 X [0,1] rfl ⟨⟩ ?_
 refine W.s0 X [0,1,5] rfl (by and_intros<;>first|exact⟨⟩|exact rfl) ?_
 refine W.seq ?_
 refine W.s0 X [0,1,5,6] rfl ⟨⟩ ?_
 refine W.block ?_
 refine W.aI (fun k=>k≤n.toNat) (fun k:Nat=> [(6, .one (.a (.lit (.int .i64 k))))]) (fun k=> [(7, .arr .u8 (stream s k))]) (fun k=>n.toNat-k) 0 (fun k=>rfl) (Nat.zero_le _) rfl ?_
 intro k hk
 have hle:=eJ s k
 refine W.seq ?_
 refine W.s0 X [0,1,5,6,14] rfl ⟨⟩ ?_
 refine W.cond rfl (fun hb0=> ?_) (fun hb0=> ?_)
 ·try simp only[nb,an,au,af]at hb0
  have hs:=Ah s k (by omega)
  refine W.skip ?_
  refine W.seq ?_
  refine W.block ?_
  refine W.fH X [(25,7)] [(21,⟨false,[.a (.lit (.int .i64 _))]⟩)] [0,1,5,6] [] rfl (by(repeat' with_reducible first|exact ah.nil|refine ah.mk ?_ ?_|apply And.intro)<;>first|exact(kJ _ _)| (intros;omega)|exact rfl|exact⟨rfl,bH _ (by decide)⟩|exact(qc _).1|exact(qc _).2| (simp only[cN,maxLen,lens];omega)) ?_
  refine W.r0 X [0,1,5,6] rfl ⟨⟩ ?_
  refine⟨k+1,by omega,by omega,?_⟩
  rw[aV _ k rfl (by omega),hs]
  try rfl
 ·try simp only[nb,an,au,af]at hb0
  refine W.exit ?_
  refine W.s0 X [4] rfl ⟨⟩ ?_
  refine W.ret ?_
  exact Fin.ret rfl ⟨by rw[show k=n.toNat by omega],⟨⟩⟩
theorem mQ(l:List UInt8)(hl:l.length≤1048576):Sound ty Tryz.prog 319 [.a (.sl .u8 l)] [.a (.sl .int (yR l))]:=by
 refine Sound.o X Tryz.call319 Tryz.func319 Tryz.ntmps319 rfl rfl ?_
 intro zb
 refine W.s0 X [0] rfl ⟨⟩ ?_
 refine W.s0 X [0,3] rfl (by and_intros<;>first|exact⟨⟩|exact rfl) ?_
 refine W.seq ?_
 refine W.s0 X [0,3,4] rfl ⟨⟩ ?_
 refine W.block ?_
 refine W.aI (fun k=>k≤l.length) (fun k:Nat=> [(4, .one (.a (.lit (.int .i64 k))))]) (fun k=> [(7, .arr .int ((l.length:Int)::(l.take k).map (fun c=>(c.toNat:Int))))]) (fun k=>l.length-k) 0 (fun k=>rfl) (Nat.zero_le _) rfl ?_
 intro k hk
 refine W.seq ?_
 refine W.s0 X [0,3,4,11] rfl ⟨⟩ ?_
 refine W.cond rfl (fun hb0=> ?_) (fun hb0=> ?_)
 ·try simp only[nb,an,au,af]at hb0
  have hs:=HP l k hb0
  refine W.skip ?_
  refine W.seq ?_
  refine W.block ?_
  refine W.fH X [(21,7)] [] [0,3,4] [] rfl (by and_intros<;>first|exact⟨⟩| (intros;omega)|exact rfl| (simp only[cN,maxLen,lens];omega)) ?_
  refine W.r0 X [0,3,4] rfl ⟨⟩ ?_
  refine⟨k+1,by omega,by omega,?_⟩
  rw[aV _ k rfl (by omega),hs]
  try rfl
 ·try simp only[nb,an,au,af]at hb0
  refine W.exit ?_
  refine W.s0 X [2] rfl ⟨⟩ ?_
  refine W.ret ?_
  exact Fin.ret rfl ⟨by rw[List.take_of_length_le hb0];rfl,⟨⟩⟩
end
section
set_option maxRecDepth 100000
theorem fU(l:List Int)(hl:l.length≤4194304):Sound ty Tryz.prog 120 [.a (.sl .int l)] [.a (.sl .int l)]:=by
 refine Sound.o X Tryz.call120 Tryz.func120 Tryz.ntmps120 rfl rfl ?_
 intro zb
 refine W.s0 X [0] rfl ⟨⟩ ?_
 refine W.seq ?_
 refine W.seq ?_
 refine W.isNil X [] [] [0,4] rfl (by and_intros<;>exact⟨⟩) (fun hn1=> ?_) ?_
 ·skip
  refine W.cond rfl (fun _=> ?_) (fun hb=>absurd hb (by decide))
  refine W.s0 X [2] rfl ⟨⟩ ?_
  refine W.ret ?_
  exact Fin.ret rfl ⟨hn1,⟨⟩⟩
 ·skip
  refine W.cond rfl (fun hb=>absurd hb (by decide)) (fun _=> ?_)
  refine W.skip ?_
  refine W.sr X [(7,5)] [] [2] [] rfl (by and_intros<;>first|exact⟨⟩|exact rfl| (simp only[cN,maxLen,lens];omega)) ?_
  refine W.ret ?_
  exact Fin.ret rfl ⟨rfl,⟨⟩⟩
theorem bQ(l:List UInt8)(hl:l.length≤1048576):Sound ty Tryz.prog 303 [.a (.sl .u8 l)] [.a (.sl .u8 l)]:=by
 refine Sound.o X Tryz.call303 Tryz.func303 Tryz.ntmps303 rfl rfl ?_
 intro zb
 refine W.s0 X [0] rfl ⟨⟩ ?_
 refine W.seq ?_
 refine W.seq ?_
 refine W.isNil X [] [] [0,4] rfl (by and_intros<;>exact⟨⟩) (fun hn1=> ?_) ?_
 ·skip
  refine W.cond rfl (fun _=> ?_) (fun hb=>absurd hb (by decide))
  refine W.s0 X [2] rfl ⟨⟩ ?_
  refine W.ret ?_
  exact Fin.ret rfl ⟨hn1,⟨⟩⟩
 ·skip
  refine W.cond rfl (fun hb=>absurd hb (by decide)) (fun _=> ?_)
  refine W.skip ?_
  refine W.sr X [(7,5)] [] [2] [] rfl (by and_intros<;>first|exact⟨⟩|exact rfl| (simp only[cN,maxLen,lens];omega)) ?_
  refine W.ret ?_
  exact Fin.ret rfl ⟨rfl,⟨⟩⟩
theorem iO(a b:List UInt8)(ha:a.length≤1048576)(hb:b.length≤1048576):Sound ty Tryz.prog 285 [.a (.sl .u8 a), .a (.sl .u8 b)] [.a (.sl .u8 (dz a b))]:=by
 refine Sound.o X Tryz.call285 Tryz.func285 Tryz.ntmps285 rfl rfl ?_
 intro zb
 refine W.s0 X [0,1] rfl ⟨⟩ ?_
 refine W.seq ?_
 refine W.s0 X [0,1,12] rfl ⟨⟩ ?_
 refine W.cond rfl (fun hb0=> ?_) (fun hb0=> ?_)
 ·try simp only[nb,an,au,af]at hb0
  rw[EB a b]
  have P0:a.length≤b.length:=by omega
  obtain⟨p,hp⟩: ∃p,p=b:=⟨_,rfl⟩
  obtain⟨q,hq⟩: ∃q,q=a:=⟨_,rfl⟩
  subst hp;subst hq
  refine W.r0 X [0,1] rfl ⟨⟩ ?_
  refine W.sr X [] [(16,⟨true,[.a (.sl .u8 _)]⟩)] [1,5] [] rfl (by(repeat' with_reducible first|exact ah.nil|refine ah.mk ?_ ?_|apply And.intro)<;>first|exact(bQ _ (by first|assumption|omega| (simp;done)| (simp;omega)))) ?_
  refine W.seq ?_
  refine W.s0 X [5,17,18,19] rfl ⟨⟩ ?_
  refine W.block ?_
  refine W.aI (fun k=>k≤q.length) (fun k:Nat=> [(19, .one (.a (.lit (.int .i64 k))))]) (fun k=> [(16, .arr .u8 ((dz p q).take k++p.drop k))]) (fun k=>q.length-k) 0 (fun k=>rfl) (Nat.zero_le _) rfl ?_
  intro k hk
  have hle:=jL (dz p q) p k (by rw[cV];omega) (by omega)
  refine W.s0 X [5,17,18,19,20] rfl ⟨⟩ ?_
  refine W.seq ?_
  refine W.cond rfl (fun aD=> ?_) (fun aD=> ?_)
  ·try simp only[nb,an,au,af]at aD
   have hs:=HV p q k aD P0
   refine W.skip ?_
   refine W.seq ?_
   refine W.block ?_
   refine W.s0 X [5,6,7,17,18,19] rfl (by and_intros<;>first|exact⟨⟩| (intros;omega)) ?_
   refine W.r0 X [5,17,18,19] rfl (by and_intros<;>first|exact⟨⟩| (intros;omega)|exact(qc _).1|exact(qc _).2) ?_
   refine W.r0 X [5,17,18,19] rfl ⟨⟩ ?_
   refine⟨k+1,by omega,by omega,?_⟩
   rw[aV _ k rfl (by omega),hs]
   try rfl
  ·try simp only[nb,an,au,af]at aD
   refine W.exit ?_
   refine W.s0 X [4] rfl ⟨⟩ ?_
   refine W.ret ?_
   exact Fin.ret rfl ⟨by rw[HW p q k aD P0 hk],⟨⟩⟩
 ·try simp only[nb,an,au,af]at hb0
  have P0:b.length≤a.length:=by omega
  obtain⟨p,hp⟩: ∃p,p=a:=⟨_,rfl⟩
  obtain⟨q,hq⟩: ∃q,q=b:=⟨_,rfl⟩
  subst hp;subst hq
  refine W.skip ?_
  refine W.sr X [] [(16,⟨true,[.a (.sl .u8 _)]⟩)] [1,5] [] rfl (by(repeat' with_reducible first|exact ah.nil|refine ah.mk ?_ ?_|apply And.intro)<;>first|exact(bQ _ (by first|assumption|omega| (simp;done)| (simp;omega)))) ?_
  refine W.seq ?_
  refine W.s0 X [5,17,18,19] rfl ⟨⟩ ?_
  refine W.block ?_
  refine W.aI (fun k=>k≤q.length) (fun k:Nat=> [(19, .one (.a (.lit (.int .i64 k))))]) (fun k=> [(16, .arr .u8 ((dz p q).take k++p.drop k))]) (fun k=>q.length-k) 0 (fun k=>rfl) (Nat.zero_le _) rfl ?_
  intro k hk
  have hle:=jL (dz p q) p k (by rw[cV];omega) (by omega)
  refine W.s0 X [5,17,18,19,20] rfl ⟨⟩ ?_
  refine W.seq ?_
  refine W.cond rfl (fun aD=> ?_) (fun aD=> ?_)
  ·try simp only[nb,an,au,af]at aD
   have hs:=HV p q k aD P0
   refine W.skip ?_
   refine W.seq ?_
   refine W.block ?_
   refine W.s0 X [5,6,7,17,18,19] rfl (by and_intros<;>first|exact⟨⟩| (intros;omega)) ?_
   refine W.r0 X [5,17,18,19] rfl (by and_intros<;>first|exact⟨⟩| (intros;omega)|exact(qc _).1|exact(qc _).2) ?_
   refine W.r0 X [5,17,18,19] rfl ⟨⟩ ?_
   refine⟨k+1,by omega,by omega,?_⟩
   rw[aV _ k rfl (by omega),hs]
   try rfl
  ·try simp only[nb,an,au,af]at aD
   refine W.exit ?_
   refine W.s0 X [4] rfl ⟨⟩ ?_
   refine W.ret ?_
   exact Fin.ret rfl ⟨by rw[HW p q k aD P0 hk],⟨⟩⟩
theorem iP(a b:List UInt8)(ha:a.length≤1048576)(hb:b.length≤1048576):Sound ty Tryz.prog 312 [.a (.sl .u8 a), .a (.sl .u8 b)] [.a (.sl .u8 (dz a b))]:=by
 refine Sound.o X Tryz.call312 Tryz.func312 Tryz.ntmps312 rfl rfl ?_
 intro zb
 refine W.s0 X [0,1] rfl ⟨⟩ ?_
 refine W.s0 X [0,1,5] rfl (by and_intros<;>first|exact⟨⟩|exact rfl) ?_
 refine W.seq ?_
 refine W.s0 X [0,1,5,6] rfl ⟨⟩ ?_
 refine W.block ?_
 refine W.aI (fun k=>k≤max a.length b.length) (fun k:Nat=> [(6, .one (.a (.lit (.int .i64 k))))]) (fun k=> [(8, .arr .u8 ((dz a b).take k))]) (fun k=>max a.length b.length-k) 0 (fun k=>rfl) (Nat.zero_le _) rfl ?_
 intro k hk
 have hle:=aZ (dz a b) k
 refine W.seq ?_
 refine W.s0 X [0,1,5,6,18] rfl ⟨⟩ ?_
 refine W.cond rfl (fun hb0=> ?_) (fun hb0=> ?_)
 ·try simp only[nb,an,au,af]at hb0
  refine W.skip ?_
  refine W.seq ?_
  refine W.block ?_
  refine W.s0 X [0,1,5,6,7] rfl ⟨⟩ ?_
  refine W.seq ?_
  refine W.s0 X [0,1,5,6,7,24] rfl ⟨⟩ ?_
  refine W.cond rfl (fun aD=> ?_) (fun aD=> ?_)
  ·try simp only[nb,an,au,af]at aD
   refine W.r0 X [0,1,5,6,7] rfl (by and_intros<;>first|exact⟨⟩| (intros;omega)) ?_
   refine W.seq ?_
   refine W.s0 X [0,1,5,6,7,32] rfl ⟨⟩ ?_
   refine W.cond rfl (fun aR=> ?_) (fun aR=> ?_)
   ·try simp only[nb,an,au,af]at aR
    have hs:=U3 a b k aD aR
    refine W.r0 X [0,1,5,6,7] rfl (by and_intros<;>first|exact⟨⟩| (intros;omega)) ?_
    refine W.fH X [(42,8)] [] [0,1,5,6] [] rfl (by and_intros<;>first|exact⟨⟩|exact rfl|exact(qc _).1|exact(qc _).2| (simp only[cN,maxLen,lens];omega)) ?_
    refine W.r0 X [0,1,5,6] rfl ⟨⟩ ?_
    refine⟨k+1,by omega,by omega,?_⟩
    rw[aV _ k rfl (by omega),hs]
    try rfl
   ·try simp only[nb,an,au,af]at aR
    have hs:=WR a b k aD aR
    refine W.skip ?_
    refine W.fH X [(42,8)] [] [0,1,5,6] [] rfl (by and_intros<;>first|exact⟨⟩| (intros;omega)|exact rfl|exact(ZQ _).2| (simp only[cN,maxLen,lens];omega)) ?_
    refine W.r0 X [0,1,5,6] rfl ⟨⟩ ?_
    refine⟨k+1,by omega,by omega,?_⟩
    rw[aV _ k rfl (by omega),hs]
    try rfl
  ·try simp only[nb,an,au,af]at aD
   refine W.skip ?_
   refine W.seq ?_
   refine W.s0 X [0,1,5,6,7,32] rfl ⟨⟩ ?_
   refine W.cond rfl (fun aR=> ?_) (fun aR=> ?_)
   ·try simp only[nb,an,au,af]at aR
    have hs:=WS a b k aD aR
    refine W.r0 X [0,1,5,6,7] rfl (by and_intros<;>first|exact⟨⟩| (intros;omega)) ?_
    refine W.fH X [(42,8)] [] [0,1,5,6] [] rfl (by and_intros<;>first|exact⟨⟩|exact rfl|exact(qc _).1|exact(qc _).2| (simp only[cN,maxLen,lens];omega)) ?_
    refine W.r0 X [0,1,5,6] rfl ⟨⟩ ?_
    refine⟨k+1,by omega,by omega,?_⟩
    rw[aV _ k rfl (by omega),hs]
    try rfl
   ·try simp only[nb,an,au,af]at aR
    omega
 ·try simp only[nb,an,au,af]at hb0
  refine W.exit ?_
  refine W.s0 X [4] rfl ⟨⟩ ?_
  refine W.ret ?_
  exact Fin.ret rfl ⟨by rw[List.take_of_length_le (by rw[cV];omega)],⟨⟩⟩
theorem kM(l:List (List UInt8))(hs0:bL List.length l≤1048576):Sound ty Tryz.prog 275 [.a (.sl (.sl .u8) l)] [.a (.sl (.sl .u8) l)]:=by
 refine Sound.o X Tryz.call275 Tryz.func275 Tryz.ntmps275 rfl rfl ?_
 intro zb
 have jr:l.length≤1048576:=cg hs0
 refine W.s0 X [0] rfl ⟨⟩ ?_
 refine W.s0 X [0,3] rfl (by and_intros<;>first|exact⟨⟩|exact rfl) ?_
 refine W.seq ?_
 refine W.s0 X [3,7,8,9] rfl ⟨⟩ ?_
 refine W.block ?_
 refine W.aI (fun k=>k≤l.length) (fun k:Nat=> [(9, .one (.a (.lit (.int .i64 k))))]) (fun k=> [(6, .arr (.sl .u8) (l.take k))]) (fun k=>l.length-k) 0 (fun k=>rfl) (Nat.zero_le _) rfl ?_
 intro k hk
 have hle:=aZ l k
 refine W.s0 X [3,7,8,9,10] rfl ⟨⟩ ?_
 refine W.seq ?_
 refine W.cond rfl (fun hb0=> ?_) (fun hb0=> ?_)
 ·try simp only[nb,an,au,af]at hb0
  have hs:=bf l k (av (.sl .u8)) hb0
  have hel:=PZ hs0 k hb0
  refine W.skip ?_
  refine W.seq ?_
  refine W.block ?_
  refine W.s0 X [3,5,7,8,9] rfl (by and_intros<;>first|exact⟨⟩| (intros;omega)) ?_
  refine W.fH X [(17,6)] [(15,⟨true,[.a (.sl .u8 _)]⟩)] [3,7,8,9] [] rfl (by(repeat' with_reducible first|exact ah.nil|refine ah.mk ?_ ?_|apply And.intro)<;>first|exact(bQ _ (by first|assumption|omega| (simp;done)| (simp;omega)))|exact rfl| (simp only[cN,maxLen,lens];omega)) ?_
  refine W.r0 X [3,7,8,9] rfl ⟨⟩ ?_
  refine⟨k+1,by omega,by omega,?_⟩
  rw[aV _ k rfl (by omega),hs]
  try rfl
 ·try simp only[nb,an,au,af]at hb0
  refine W.exit ?_
  refine W.s0 X [2] rfl ⟨⟩ ?_
  refine W.ret ?_
  exact Fin.ret rfl ⟨by rw[List.take_of_length_le hb0],⟨⟩⟩
theorem ou(l:List (List UInt8))(hs0:bL List.length l≤1048576):Sound ty Tryz.prog 242 [.a (.sl (.sl .u8) l)] [.a (.sl (.sl .u8) l)]:=by
 refine Sound.o X Tryz.call242 Tryz.func242 Tryz.ntmps242 rfl rfl ?_
 intro zb
 have jr:l.length≤1048576:=cg hs0
 refine W.s0 X [0] rfl ⟨⟩ ?_
 refine W.s0 X [0,3] rfl (by and_intros<;>first|exact⟨⟩|exact rfl) ?_
 refine W.seq ?_
 refine W.s0 X [0,3,4] rfl ⟨⟩ ?_
 refine W.block ?_
 refine W.aI (fun k=>k≤l.length) (fun k:Nat=> [(4, .one (.a (.lit (.int .i64 k))))]) (fun k=> [(5, .arr (.sl .u8) (l.take k))]) (fun k=>l.length-k) 0 (fun k=>rfl) (Nat.zero_le _) rfl ?_
 intro k hk
 have hle:=aZ l k
 refine W.seq ?_
 refine W.s0 X [0,3,4,9] rfl ⟨⟩ ?_
 refine W.cond rfl (fun hb0=> ?_) (fun hb0=> ?_)
 ·try simp only[nb,an,au,af]at hb0
  have hs:=bf l k (av (.sl .u8)) hb0
  have hel:=PZ hs0 k hb0
  refine W.skip ?_
  refine W.seq ?_
  refine W.block ?_
  refine W.fH X [(18,13),(20,5)] [] [0,3,4] [] rfl (by and_intros<;>first|exact⟨⟩| (intros;omega)|exact rfl| (simp only[cN,maxLen,lens];omega)) ?_
  refine W.r0 X [0,3,4] rfl ⟨⟩ ?_
  refine⟨k+1,by omega,by omega,?_⟩
  rw[aV _ k rfl (by omega),hs]
  try rfl
 ·try simp only[nb,an,au,af]at hb0
  refine W.exit ?_
  refine W.s0 X [2] rfl ⟨⟩ ?_
  refine W.ret ?_
  exact Fin.ret rfl ⟨by rw[List.take_of_length_le hb0],⟨⟩⟩
theorem CE(s:Int)(l:List UInt8)(hl:l.length≤1048576):Sound ty Tryz.prog 342 [.a (.lit (.int .i64 s)), .a (.sl .u8 l)] [.a (.sl .u8 (kK s l))]:=by
 refine Sound.o X Tryz.call342 Tryz.func342 Tryz.ntmps342 rfl rfl ?_
 intro zb
 refine W.s0 X [0,1] rfl ⟨⟩ ?_
 refine W.sr X [] [(8,⟨true,[.a (.sl .u8 _)]⟩)] [0,5] [] rfl (by(repeat' with_reducible first|exact ah.nil|refine ah.mk ?_ ?_|apply And.intro)<;>first|exact(bQ _ (by first|assumption|omega| (simp;done)| (simp;omega)))) ?_
 refine W.seq ?_
 refine W.s0 X [0,5,10,11] rfl ⟨⟩ ?_
 refine W.block ?_
 refine W.aI (fun k=>k≤l.length) (fun k:Nat=> [(11, .one (.a (.lit (.int .i64 k))))]) (fun k=> [(8, .arr .u8 ((kK s l).take k++l.drop k))]) (fun k=>l.length-k) 0 (fun k=>rfl) (Nat.zero_le _) rfl ?_
 intro k hk
 have hle:=jL (kK s l) l k (iF s l) hk
 refine W.s0 X [0,5,10,11,12] rfl ⟨⟩ ?_
 refine W.seq ?_
 refine W.cond rfl (fun hb0=> ?_) (fun hb0=> ?_)
 ·try simp only[nb,an,au,af]at hb0
  have hs:=Nb s l k hb0
  refine W.skip ?_
  refine W.seq ?_
  refine W.block ?_
  refine W.s0 X [0,5,6,10,11] rfl ⟨⟩ ?_
  refine W.draw X [] [(21,⟨false,[.a (.lit (.int .i64 _))]⟩)] [0,5,10,11] [] 12 MO (by kernel_rfl) rfl (by(repeat' with_reducible first|exact ah.nil|refine ah.mk ?_ ?_|apply And.intro)<;>first|exact(bt _ _ (by first|assumption|omega| (simp;done)| (simp;omega)))| (intros;omega)|exact⟨rfl,bH _ (by decide)⟩|exact(qc _).1|exact(qc _).2) ?_
  refine W.r0 X [0,5,10,11] rfl ⟨⟩ ?_
  refine⟨k+1,by omega,by omega,?_⟩
  rw[aV _ k rfl (by omega),hs]
  try rfl
 ·try simp only[nb,an,au,af]at hb0
  refine W.exit ?_
  refine W.s0 X [4] rfl ⟨⟩ ?_
  refine W.ret ?_
  exact Fin.ret rfl ⟨by rw[mu _ _ _ (iF s l) hb0],⟨⟩⟩
theorem CF(s:Int)(l:List UInt8)(hl:l.length≤1048576):Sound ty Tryz.prog 332 [.a (.lit (.int .i64 s)), .a (.sl .u8 l)] [.a (.sl .u8 (decr s l))]:=by
 refine Sound.o X Tryz.call332 Tryz.func332 Tryz.ntmps332 rfl rfl ?_
 intro zb
 refine W.s0 X [0,1] rfl ⟨⟩ ?_
 refine W.sr X [] [(8,⟨true,[.a (.sl .u8 _)]⟩)] [0,5] [] rfl (by(repeat' with_reducible first|exact ah.nil|refine ah.mk ?_ ?_|apply And.intro)<;>first|exact(bQ _ (by first|assumption|omega| (simp;done)| (simp;omega)))) ?_
 refine W.seq ?_
 refine W.s0 X [0,5,10,11] rfl ⟨⟩ ?_
 refine W.block ?_
 refine W.aI (fun k=>k≤l.length) (fun k:Nat=> [(11, .one (.a (.lit (.int .i64 k))))]) (fun k=> [(8, .arr .u8 ((decr s l).take k++l.drop k))]) (fun k=>l.length-k) 0 (fun k=>rfl) (Nat.zero_le _) rfl ?_
 intro k hk
 have hle:=jL (decr s l) l k (mR s l) hk
 refine W.s0 X [0,5,10,11,12] rfl ⟨⟩ ?_
 refine W.seq ?_
 refine W.cond rfl (fun hb0=> ?_) (fun hb0=> ?_)
 ·try simp only[nb,an,au,af]at hb0
  have hs:=Nd s l k hb0
  refine W.skip ?_
  refine W.seq ?_
  refine W.block ?_
  refine W.s0 X [0,5,6,10,11] rfl ⟨⟩ ?_
  refine W.draw X [] [(21,⟨false,[.a (.lit (.int .i64 _))]⟩)] [0,5,10,11] [] 12 MO (by kernel_rfl) rfl (by(repeat' with_reducible first|exact ah.nil|refine ah.mk ?_ ?_|apply And.intro)<;>first|exact(bt _ _ (by first|assumption|omega| (simp;done)| (simp;omega)))| (intros;omega)|exact⟨rfl,bH _ (by decide)⟩|exact(qc _).1|exact(qc _).2) ?_
  refine W.r0 X [0,5,10,11] rfl ⟨⟩ ?_
  refine⟨k+1,by omega,by omega,?_⟩
  rw[aV _ k rfl (by omega),hs]
  try rfl
 ·try simp only[nb,an,au,af]at hb0
  refine W.exit ?_
  refine W.s0 X [4] rfl ⟨⟩ ?_
  refine W.ret ?_
  exact Fin.ret rfl ⟨by rw[mu _ _ _ (mR s l) hb0],⟨⟩⟩
theorem gh(k:Int):Sound ty Tryz.prog 114 [.a (.lit (.int .i64 k))] [.a (.lit (.bool (iG k)))]:=by
 refine Sound.o X Tryz.call114 Tryz.func114 Tryz.ntmps114 rfl rfl ?_
 intro zb
 refine W.s0 X [0] rfl ⟨⟩ ?_
 refine W.sr X [] [(4,⟨false,[.a (.lit (.bool _))]⟩)] [2] [] rfl (by(repeat' with_reducible first|exact ah.nil|refine ah.mk ?_ ?_|apply And.intro)<;>first|exact(aE _ _ _)) ?_
 refine W.ret ?_
 exact Fin.ret rfl ⟨rfl,⟨⟩⟩
theorem l6(p:Plain):Sound ty Tryz.prog 334 [.agg (eB p)] [.a (.lit (.bool (iN p)))]:=by
 refine Sound.o X Tryz.call334 Tryz.func334 Tryz.ntmps334 rfl rfl ?_
 intro zb
 refine W.s0 X [1] rfl ⟨⟩ ?_
 refine W.sr X [] [(5,⟨false,[.a (.lit (.bool _))]⟩)] [2] [] rfl (by(repeat' with_reducible first|exact ah.nil|refine ah.mk ?_ ?_|apply And.intro)<;>first|exact(aE _ _ _)) ?_
 refine W.ret ?_
 exact Fin.ret rfl ⟨by unfold iN;cases inr p.kind 0 3<;>rfl,⟨⟩⟩
theorem yT(key c:Int)(l:List UInt8)(hl:l.length≤65536):Sound ty Tryz.prog 344 [.a (.lit (.int .i64 key)), .a (.lit (.int .i64 c)), .a (.sl .u8 l)] [.a (.lit (.int .i64 (ia key c l)))]:=by
 refine Sound.o X Tryz.call344 Tryz.func344 Tryz.ntmps344 rfl rfl ?_
 intro zb
 refine W.s0 X [0,1,2] rfl ⟨⟩ ?_
 refine W.s0 X [0,2,7] rfl (by and_intros<;>first|exact⟨⟩|exact rfl) ?_
 refine W.seq ?_
 refine W.s0 X [0,7,12,13,14] rfl ⟨⟩ ?_
 refine W.block ?_
 refine W.aI (fun k=>k≤l.length) (fun k:Nat=> [(14, .one (.a (.lit (.int .i64 k))))]) (fun k=> [(11, .arr .int ([71,c]++(l.take k).map (fun x=>(x.toNat:Int))))]) (fun k=>l.length-k) 0 (fun k=>rfl) (Nat.zero_le _) rfl ?_
 intro k hk
 refine W.s0 X [0,7,12,13,14,15] rfl ⟨⟩ ?_
 refine W.seq ?_
 refine W.cond rfl (fun hb0=> ?_) (fun hb0=> ?_)
 ·try simp only[nb,an,au,af]at hb0
  have hs:=Lt l c k hb0
  refine W.skip ?_
  refine W.seq ?_
  refine W.block ?_
  refine W.s0 X [0,7,9,12,13,14] rfl (by and_intros<;>first|exact⟨⟩| (intros;omega)) ?_
  refine W.fH X [(22,11)] [] [0,7,12,13,14] [] rfl (by and_intros<;>first|exact⟨⟩|exact rfl| (simp only[cN,maxLen,lens];omega)) ?_
  refine W.r0 X [0,7,12,13,14] rfl ⟨⟩ ?_
  refine⟨k+1,by omega,by omega,?_⟩
  rw[aV _ k rfl (by omega),hs]
  try rfl
 ·try simp only[nb,an,au,af]at hb0
  refine W.exit ?_
  refine W.sr X [] [(26,⟨false,[.a (.lit (.int .i64 _))]⟩)] [6] [] rfl (by(repeat' with_reducible first|exact ah.nil|refine ah.mk ?_ ?_|apply And.intro)<;>first|exact(bt _ _ (by first|assumption|omega| (simp;done)| (simp;omega)))) ?_
  refine W.ret ?_
  exact Fin.ret rfl ⟨by rw[List.take_of_length_le hb0];rfl,⟨⟩⟩
theorem jM(key r d n:Int):Sound ty Tryz.prog 209 [.a (.lit (.int .i64 key)), .a (.lit (.int .i64 r)), .a (.lit (.int .i64 d)), .a (.lit (.int .i64 n))] [.a (.lit (.int .i64 (dY key r d n)))]:=by
 refine Sound.o X Tryz.call209 Tryz.func209 Tryz.ntmps209 rfl rfl ?_
 intro zb
 refine W.s0 X [0,1,2,3] rfl ⟨⟩ ?_
 refine W.seq ?_
 refine W.sr X [] [(10,⟨false,[.a (.lit (.bool _))]⟩),(14,⟨false,[.a (.lit (.bool _))]⟩)] [0,1,2,3,16] [] rfl (by(repeat' with_reducible first|exact ah.nil|refine ah.mk ?_ ?_|apply And.intro)<;>first|exact(aE _ _ _)|exact fun _=>(aE _ _ _)) ?_
 refine W.cond rfl (fun hb0=> ?_) (fun hb0=> ?_)
 ·try simp only[nb,an,au,af]at hb0
  refine W.s0 X [8] rfl ⟨⟩ ?_
  refine W.ret ?_
  exact Fin.ret rfl ⟨by rw[dY,if_neg (by omega)],⟨⟩⟩
 ·try simp only[nb,an,au,af]at hb0
  have hcs:=rY (kh key [79,r,d]) 0
  refine W.skip ?_
  refine W.sr X [] [(21,⟨false,[.a (.lit (.int .i64 _))]⟩),(22,⟨false,[.a (.lit (.int .i64 _))]⟩)] [8] [] rfl (by(repeat' with_reducible first|exact ah.nil|refine ah.mk ?_ ?_|apply And.intro);(iterate 2 all_goals try first|exact(bt _ _ (by first|assumption|omega| (simp;done)| (simp;omega)))|exact(kI _ _));all_goals first| (intros;omega)|exact⟨rfl,bH _ (by decide)⟩) ?_
  refine W.ret ?_
  exact Fin.ret rfl ⟨by rw[dY,if_pos (by omega),dX hcs.1],⟨⟩⟩
theorem AF(s r n:Int):Sound ty Tryz.prog 277 [.a (.lit (.int .i64 s)), .a (.lit (.int .i64 r)), .a (.lit (.int .i64 n))] [.a (.lit (.int .i64 (AE s r n)))]:=by
 refine Sound.o X Tryz.call277 Tryz.func277 Tryz.ntmps277 rfl rfl ?_
 intro zb
 refine W.s0 X [0,1,2] rfl ⟨⟩ ?_
 refine W.seq ?_
 refine W.sr X [] [(8,⟨false,[.a (.lit (.bool _))]⟩)] [0,1,2,9] [] rfl (by(repeat' with_reducible first|exact ah.nil|refine ah.mk ?_ ?_|apply And.intro)<;>first|exact(aE _ _ _)) ?_
 refine W.cond rfl (fun hb0=> ?_) (fun hb0=> ?_)
 ·try simp only[nb,an,au,af]at hb0
  refine W.s0 X [6] rfl ⟨⟩ ?_
  refine W.ret ?_
  exact Fin.ret rfl ⟨by rw[AE,if_neg (by omega)],⟨⟩⟩
 ·try simp only[nb,an,au,af]at hb0
  have hcs:=rY (kh s [157,r]) 0
  refine W.skip ?_
  refine W.sr X [] [(13,⟨false,[.a (.lit (.int .i64 _))]⟩),(14,⟨false,[.a (.lit (.int .i64 _))]⟩)] [6] [] rfl (by(repeat' with_reducible first|exact ah.nil|refine ah.mk ?_ ?_|apply And.intro);(iterate 2 all_goals try first|exact(bt _ _ (by first|assumption|omega| (simp;done)| (simp;omega)))|exact(kI _ _));all_goals first| (intros;omega)|exact⟨rfl,bH _ (by decide)⟩) ?_
  refine W.ret ?_
  exact Fin.ret rfl ⟨by rw[AE,if_pos (by omega),dX hcs.1],⟨⟩⟩
theorem yU(s:Int):Sound ty Tryz.prog 278 [.a (.lit (.int .i64 s))] [.a (.sl .u8 (cover s))]:=by
 refine Sound.o X Tryz.call278 Tryz.func278 Tryz.ntmps278 rfl rfl ?_
 intro zb
 refine W.s0 X [0] rfl ⟨⟩ ?_
 refine W.sr X [] [(5,⟨false,[.a (.lit (.int .i64 _))]⟩),(6,⟨true,[.a (.sl .u8 _)]⟩)] [2] [] rfl (by(repeat' with_reducible first|exact ah.nil|refine ah.mk ?_ ?_|apply And.intro);(iterate 2 all_goals try first|exact(bt _ _ (by first|assumption|omega| (simp;done)| (simp;omega)))|exact(je _ _ (by first|assumption|omega| (simp;done)| (simp;omega)) (by first|assumption|omega| (simp;done)| (simp;omega))));all_goals first|exact⟨rfl,bH _ (by decide)⟩) ?_
 refine W.ret ?_
 exact Fin.ret rfl ⟨rfl,⟨⟩⟩
theorem CG(s:Int)(l:List UInt8)(hl:l.length≤1048576):Sound ty Tryz.prog 347 [.a (.lit (.int .i64 s)), .a (.sl .u8 l)] [.a (.sl .u8 (kK s l))]:=by
 refine Sound.o X Tryz.call347 Tryz.func347 Tryz.ntmps347 rfl rfl ?_
 intro zb
 refine W.s0 X [0,1] rfl ⟨⟩ ?_
 refine W.s0 X [0,1,5] rfl (by and_intros<;>first|exact⟨⟩|exact rfl) ?_
 refine W.seq ?_
 refine W.s0 X [0,1,5,6] rfl ⟨⟩ ?_
 refine W.block ?_
 refine W.aI (fun k=>k≤l.length) (fun k:Nat=> [(6, .one (.a (.lit (.int .i64 k))))]) (fun k=> [(7, .arr .u8 ((kK s l).take k))]) (fun k=>l.length-k) 0 (fun k=>rfl) (Nat.zero_le _) rfl ?_
 intro k hk
 have hle:=aZ (kK s l) k
 refine W.seq ?_
 refine W.s0 X [0,1,5,6,11] rfl ⟨⟩ ?_
 refine W.cond rfl (fun hb0=> ?_) (fun hb0=> ?_)
 ·try simp only[nb,an,au,af]at hb0
  have hs:=Nc s l k hb0
  refine W.skip ?_
  refine W.seq ?_
  refine W.block ?_
  refine W.draw X [(29,7)] [(23,⟨false,[.a (.lit (.int .i64 _))]⟩)] [0,1,5,6] [] 15 MO (by kernel_rfl) rfl (by(repeat' with_reducible first|exact ah.nil|refine ah.mk ?_ ?_|apply And.intro)<;>first|exact(bu _ _ (by first|assumption|omega| (simp;done)| (simp;omega)))| (intros;omega)|exact rfl|exact⟨rfl,bH _ (by decide)⟩|exact(qc _).1|exact(qc _).2| (simp only[cN,maxLen,lens];omega)) ?_
  refine W.r0 X [0,1,5,6] rfl ⟨⟩ ?_
  refine⟨k+1,by omega,by omega,?_⟩
  rw[aV _ k rfl (by omega),hs]
  try rfl
 ·try simp only[nb,an,au,af]at hb0
  refine W.exit ?_
  refine W.s0 X [4] rfl ⟨⟩ ?_
  refine W.ret ?_
  exact Fin.ret rfl ⟨by rw[List.take_of_length_le (by rw[iF];exact hb0)],⟨⟩⟩
theorem CH(s:Int)(l:List UInt8)(hl:l.length≤1048576):Sound ty Tryz.prog 340 [.a (.lit (.int .i64 s)), .a (.sl .u8 l)] [.a (.sl .u8 (decr s l))]:=by
 refine Sound.o X Tryz.call340 Tryz.func340 Tryz.ntmps340 rfl rfl ?_
 intro zb
 refine W.s0 X [0,1] rfl ⟨⟩ ?_
 refine W.s0 X [0,1,5] rfl (by and_intros<;>first|exact⟨⟩|exact rfl) ?_
 refine W.seq ?_
 refine W.s0 X [0,1,5,6] rfl ⟨⟩ ?_
 refine W.block ?_
 refine W.aI (fun k=>k≤l.length) (fun k:Nat=> [(6, .one (.a (.lit (.int .i64 k))))]) (fun k=> [(7, .arr .u8 ((decr s l).take k))]) (fun k=>l.length-k) 0 (fun k=>rfl) (Nat.zero_le _) rfl ?_
 intro k hk
 have hle:=aZ (decr s l) k
 refine W.seq ?_
 refine W.s0 X [0,1,5,6,11] rfl ⟨⟩ ?_
 refine W.cond rfl (fun hb0=> ?_) (fun hb0=> ?_)
 ·try simp only[nb,an,au,af]at hb0
  have hs:=Nf s l k hb0
  refine W.skip ?_
  refine W.seq ?_
  refine W.block ?_
  refine W.draw X [(29,7)] [(23,⟨false,[.a (.lit (.int .i64 _))]⟩),(26,⟨false,[.a (.lit (.int .i64 _))]⟩)] [0,1,5,6] [] 15 MO (by kernel_rfl) rfl (by(repeat' with_reducible first|exact ah.nil|refine ah.mk ?_ ?_|apply And.intro);(iterate 2 all_goals try first|exact(bu _ _ (by first|assumption|omega| (simp;done)| (simp;omega)))|exact(CD _ _ (by first|assumption|omega| (simp;done)| (simp;omega)) (by first|assumption|omega| (simp;done)| (simp;omega))));all_goals first| (intros;omega)|exact rfl|exact⟨rfl,bH _ (by decide)⟩|exact(qc _).1|exact(qc _).2| (simp only[cN,maxLen,lens];omega)) ?_
  refine W.r0 X [0,1,5,6] rfl ⟨⟩ ?_
  refine⟨k+1,by omega,by omega,?_⟩
  rw[aV _ k rfl (by omega),hs]
  try rfl
 ·try simp only[nb,an,au,af]at hb0
  refine W.exit ?_
  refine W.s0 X [4] rfl ⟨⟩ ?_
  refine W.ret ?_
  exact Fin.ret rfl ⟨by rw[List.take_of_length_le (by rw[mR];exact hb0)],⟨⟩⟩
theorem gj(k:Int):Sound ty Tryz.prog 97 [.a (.lit (.int .i64 k))] [.a (.lit (.bool (iG k)))]:=by
 refine Sound.o X Tryz.call97 Tryz.func97 Tryz.ntmps97 rfl rfl ?_
 intro zb
 refine W.s0 X [0] rfl ⟨⟩ ?_
 refine W.sr X [] [(4,⟨false,[.a (.lit (.bool _))]⟩)] [2] [] rfl (by(repeat' with_reducible first|exact ah.nil|refine ah.mk ?_ ?_|apply And.intro)<;>first|exact(aP _ _ _)) ?_
 refine W.ret ?_
 exact Fin.ret rfl ⟨rfl,⟨⟩⟩
theorem ud(p:Plain):Sound ty Tryz.prog 346 [.agg (eB p)] [.a (.lit (.bool (iN p)))]:=by
 refine Sound.o X Tryz.call346 Tryz.func346 Tryz.ntmps346 rfl rfl ?_
 intro zb
 refine W.s0 X [1] rfl ⟨⟩ ?_
 refine W.sr X [] [(5,⟨false,[.a (.lit (.bool _))]⟩)] [2] [] rfl (by(repeat' with_reducible first|exact ah.nil|refine ah.mk ?_ ?_|apply And.intro)<;>first|exact(aP _ _ _)) ?_
 refine W.ret ?_
 exact Fin.ret rfl ⟨by unfold iN;cases inr p.kind 0 3<;>rfl,⟨⟩⟩
theorem oN(key c:Int)(l:List UInt8)(hl:l.length≤65536):Sound ty Tryz.prog 339 [.a (.lit (.int .i64 key)), .a (.lit (.int .i64 c)), .a (.sl .u8 l)] [.a (.lit (.int .i64 (ia key c l)))]:=by
 refine Sound.o X Tryz.call339 Tryz.func339 Tryz.ntmps339 rfl rfl ?_
 intro zb
 refine W.s0 X [0,1,2] rfl ⟨⟩ ?_
 refine W.s0 X [0,2,7] rfl (by and_intros<;>first|exact⟨⟩|exact rfl) ?_
 refine W.seq ?_
 refine W.s0 X [0,2,7,8] rfl ⟨⟩ ?_
 refine W.block ?_
 refine W.aI (fun k=>k≤l.length) (fun k:Nat=> [(8, .one (.a (.lit (.int .i64 k))))]) (fun k=> [(10, .arr .int ([71,c]++(l.take k).map (fun x=>(x.toNat:Int))))]) (fun k=>l.length-k) 0 (fun k=>rfl) (Nat.zero_le _) rfl ?_
 intro k hk
 refine W.seq ?_
 refine W.s0 X [0,2,7,8,14] rfl ⟨⟩ ?_
 refine W.cond rfl (fun hb0=> ?_) (fun hb0=> ?_)
 ·try simp only[nb,an,au,af]at hb0
  have hs:=Lt l c k hb0
  refine W.skip ?_
  refine W.seq ?_
  refine W.block ?_
  refine W.fH X [(24,10)] [] [0,2,7,8] [] rfl (by and_intros<;>first|exact⟨⟩| (intros;omega)|exact rfl| (simp only[cN,maxLen,lens];omega)) ?_
  refine W.r0 X [0,2,7,8] rfl ⟨⟩ ?_
  refine⟨k+1,by omega,by omega,?_⟩
  rw[aV _ k rfl (by omega),hs]
  try rfl
 ·try simp only[nb,an,au,af]at hb0
  refine W.exit ?_
  refine W.sr X [] [(27,⟨false,[.a (.lit (.int .i64 _))]⟩)] [6] [] rfl (by(repeat' with_reducible first|exact ah.nil|refine ah.mk ?_ ?_|apply And.intro)<;>first|exact(bu _ _ (by first|assumption|omega| (simp;done)| (simp;omega)))) ?_
  refine W.ret ?_
  exact Fin.ret rfl ⟨by rw[List.take_of_length_le hb0];rfl,⟨⟩⟩
theorem jN(key r d n:Int):Sound ty Tryz.prog 251 [.a (.lit (.int .i64 key)), .a (.lit (.int .i64 r)), .a (.lit (.int .i64 d)), .a (.lit (.int .i64 n))] [.a (.lit (.int .i64 (dY key r d n)))]:=by
 refine Sound.o X Tryz.call251 Tryz.func251 Tryz.ntmps251 rfl rfl ?_
 intro zb
 refine W.s0 X [0,1,2,3] rfl ⟨⟩ ?_
 refine W.seq ?_
 refine W.sr X [] [(10,⟨false,[.a (.lit (.bool _))]⟩),(14,⟨false,[.a (.lit (.bool _))]⟩)] [0,1,2,3,16] [] rfl (by(repeat' with_reducible first|exact ah.nil|refine ah.mk ?_ ?_|apply And.intro)<;>first|exact(aP _ _ _)|exact fun _=>(aP _ _ _)) ?_
 refine W.cond rfl (fun hb0=> ?_) (fun hb0=> ?_)
 ·try simp only[nb,an,au,af]at hb0
  refine W.s0 X [8] rfl ⟨⟩ ?_
  refine W.ret ?_
  exact Fin.ret rfl ⟨by rw[dY,if_neg (by omega)],⟨⟩⟩
 ·try simp only[nb,an,au,af]at hb0
  have hcs:=rY (kh key [79,r,d]) 0
  refine W.skip ?_
  refine W.sr X [] [(21,⟨false,[.a (.lit (.int .i64 _))]⟩),(22,⟨false,[.a (.lit (.int .i64 _))]⟩)] [8] [] rfl (by(repeat' with_reducible first|exact ah.nil|refine ah.mk ?_ ?_|apply And.intro);(iterate 2 all_goals try first|exact(bu _ _ (by first|assumption|omega| (simp;done)| (simp;omega)))|exact(kJ _ _));all_goals first| (intros;omega)|exact⟨rfl,bH _ (by decide)⟩) ?_
  refine W.ret ?_
  exact Fin.ret rfl ⟨by rw[dY,if_pos (by omega),dX hcs.1],⟨⟩⟩
theorem AG(s r n:Int):Sound ty Tryz.prog 305 [.a (.lit (.int .i64 s)), .a (.lit (.int .i64 r)), .a (.lit (.int .i64 n))] [.a (.lit (.int .i64 (AE s r n)))]:=by
 refine Sound.o X Tryz.call305 Tryz.func305 Tryz.ntmps305 rfl rfl ?_
 intro zb
 refine W.s0 X [0,1,2] rfl ⟨⟩ ?_
 refine W.seq ?_
 refine W.sr X [] [(8,⟨false,[.a (.lit (.bool _))]⟩)] [0,1,2,9] [] rfl (by(repeat' with_reducible first|exact ah.nil|refine ah.mk ?_ ?_|apply And.intro)<;>first|exact(aP _ _ _)) ?_
 refine W.cond rfl (fun hb0=> ?_) (fun hb0=> ?_)
 ·try simp only[nb,an,au,af]at hb0
  refine W.s0 X [6] rfl ⟨⟩ ?_
  refine W.ret ?_
  exact Fin.ret rfl ⟨by rw[AE,if_neg (by omega)],⟨⟩⟩
 ·try simp only[nb,an,au,af]at hb0
  have hcs:=rY (kh s [157,r]) 0
  refine W.skip ?_
  refine W.sr X [] [(13,⟨false,[.a (.lit (.int .i64 _))]⟩),(14,⟨false,[.a (.lit (.int .i64 _))]⟩)] [6] [] rfl (by(repeat' with_reducible first|exact ah.nil|refine ah.mk ?_ ?_|apply And.intro);(iterate 2 all_goals try first|exact(bu _ _ (by first|assumption|omega| (simp;done)| (simp;omega)))|exact(kJ _ _));all_goals first| (intros;omega)|exact⟨rfl,bH _ (by decide)⟩) ?_
  refine W.ret ?_
  exact Fin.ret rfl ⟨by rw[AE,if_pos (by omega),dX hcs.1],⟨⟩⟩
theorem yV(s:Int):Sound ty Tryz.prog 306 [.a (.lit (.int .i64 s))] [.a (.sl .u8 (cover s))]:=by
 refine Sound.o X Tryz.call306 Tryz.func306 Tryz.ntmps306 rfl rfl ?_
 intro zb
 refine W.s0 X [0] rfl ⟨⟩ ?_
 refine W.sr X [] [(5,⟨false,[.a (.lit (.int .i64 _))]⟩),(6,⟨true,[.a (.sl .u8 _)]⟩)] [2] [] rfl (by(repeat' with_reducible first|exact ah.nil|refine ah.mk ?_ ?_|apply And.intro);(iterate 2 all_goals try first|exact(bu _ _ (by first|assumption|omega| (simp;done)| (simp;omega)))|exact(jf _ _ (by first|assumption|omega| (simp;done)| (simp;omega)) (by first|assumption|omega| (simp;done)| (simp;omega))));all_goals first|exact⟨rfl,bH _ (by decide)⟩) ?_
 refine W.ret ?_
 exact Fin.ret rfl ⟨rfl,⟨⟩⟩
theorem sn(k c:Int):Sound ty Tryz.prog 333 [.a (.lit (.int .i64 k)), .a (.lit (.int .i64 c))] [.a (.lit (.int .i64 (kL k c)))]:=by
 refine Sound.o X Tryz.call333 Tryz.func333 Tryz.ntmps333 rfl rfl ?_
 intro zb
 refine W.s0 X [0,1] rfl ⟨⟩ ?_
 refine W.sr X [] [(8,⟨false,[.a (.lit (.int .i64 _))]⟩),(9,⟨false,[.a (.lit (.int .i64 _))]⟩)] [4] [] rfl (by(repeat' with_reducible first|exact ah.nil|refine ah.mk ?_ ?_|apply And.intro);(iterate 2 all_goals try first|exact(bt _ _ (by first|assumption|omega| (simp;done)| (simp;omega)))|exact(qd _));all_goals first|exact⟨rfl,bH _ (by decide)⟩) ?_
 refine W.ret ?_
 exact Fin.ret rfl ⟨rfl,⟨⟩⟩
theorem ig(k c:Int):Sound ty Tryz.prog 291 [.a (.lit (.int .i64 k)), .a (.lit (.int .i64 c))] [.a (.lit (.int .i64 (jg k c)))]:=by
 refine Sound.o X Tryz.call291 Tryz.func291 Tryz.ntmps291 rfl rfl ?_
 intro zb
 refine W.s0 X [0,1] rfl ⟨⟩ ?_
 refine W.sr X [] [(8,⟨false,[.a (.lit (.int .i64 _))]⟩),(9,⟨false,[.a (.lit (.int .i64 _))]⟩)] [4] [] rfl (by(repeat' with_reducible first|exact ah.nil|refine ah.mk ?_ ?_|apply And.intro);(iterate 2 all_goals try first|exact(bt _ _ (by first|assumption|omega| (simp;done)| (simp;omega)))|exact(qd _));all_goals first|exact⟨rfl,bH _ (by decide)⟩) ?_
 refine W.ret ?_
 exact Fin.ret rfl ⟨rfl,⟨⟩⟩
theorem oO(k c:Int):Sound ty Tryz.prog 341 [.a (.lit (.int .i64 k)), .a (.lit (.int .i64 c))] [.a (.lit (.int .i64 (kL k c)))]:=by
 refine Sound.o X Tryz.call341 Tryz.func341 Tryz.ntmps341 rfl rfl ?_
 intro zb
 refine W.s0 X [0,1] rfl ⟨⟩ ?_
 refine W.sr X [] [(8,⟨false,[.a (.lit (.int .i64 _))]⟩),(9,⟨false,[.a (.lit (.int .i64 _))]⟩)] [4] [] rfl (by(repeat' with_reducible first|exact ah.nil|refine ah.mk ?_ ?_|apply And.intro);(iterate 2 all_goals try first|exact(bu _ _ (by first|assumption|omega| (simp;done)| (simp;omega)))|exact(kH _ _));all_goals first|exact⟨rfl,bH _ (by decide)⟩) ?_
 refine W.ret ?_
 exact Fin.ret rfl ⟨by rw[Lo (eI _ _).1];rfl,⟨⟩⟩
theorem ij(k c:Int):Sound ty Tryz.prog 318 [.a (.lit (.int .i64 k)), .a (.lit (.int .i64 c))] [.a (.lit (.int .i64 (jg k c)))]:=by
 refine Sound.o X Tryz.call318 Tryz.func318 Tryz.ntmps318 rfl rfl ?_
 intro zb
 refine W.s0 X [0,1] rfl ⟨⟩ ?_
 refine W.sr X [] [(8,⟨false,[.a (.lit (.int .i64 _))]⟩),(9,⟨false,[.a (.lit (.int .i64 _))]⟩)] [4] [] rfl (by(repeat' with_reducible first|exact ah.nil|refine ah.mk ?_ ?_|apply And.intro);(iterate 2 all_goals try first|exact(bu _ _ (by first|assumption|omega| (simp;done)| (simp;omega)))|exact(kH _ _));all_goals first|exact⟨rfl,bH _ (by decide)⟩) ?_
 refine W.ret ?_
 exact Fin.ret rfl ⟨by rw[Lo (eI _ _).1];rfl,⟨⟩⟩
theorem nI(k c:Int)(l:List UInt8)(hl:l.length≤65536):Sound ty Tryz.prog 331 [.a (.lit (.int .i64 k)), .a (.lit (.int .i64 c)), .a (.sl .u8 l)] [.a (.sl .u8 (four (ia k c l)))]:=by
 refine Sound.o X Tryz.call331 Tryz.func331 Tryz.ntmps331 rfl rfl ?_
 intro zb
 refine W.s0 X [0,1,2] rfl ⟨⟩ ?_
 refine W.sr X [] [(11,⟨false,[.a (.lit (.int .i64 _))]⟩)] [7] [] rfl (by(repeat' with_reducible first|exact ah.nil|refine ah.mk ?_ ?_|apply And.intro)<;>first|exact(yT _ _ _ (by first|assumption|omega| (simp;done)| (simp;omega)))) ?_
 refine W.s0 X [6] rfl (by and_intros<;>first|exact⟨⟩| (intros;omega)|exact rfl|exact(qc _).1|exact(qc _).2) ?_
 refine W.ret ?_
 exact Fin.ret rfl ⟨Lu _,⟨⟩⟩
end
section
set_option maxRecDepth 100000
theorem lW(l:List (List UInt8))(f:FuncId)(p:(List UInt8)→Bool)(hf: ∀b,Sound ty Tryz.prog f [.a (.sl .u8 b)] [.a (.lit (.bool (p b)))]):Sound ty Tryz.prog 323 [.a (.sl (.sl .u8) l), .a (.lit (.func (.func f) #[] #[]))] [.a (.lit (.int .i64 (fidx p l)))]:=by
 refine Sound.o X Tryz.call323 Tryz.func323 Tryz.ntmps323 rfl rfl ?_
 intro zb
 refine W.bound 0 rfl (fun jr=> ?_)
 refine W.s0 X [0,1] rfl ⟨⟩ ?_
 refine W.seq ?_
 refine W.s0 X [0,1,7,8] rfl ⟨⟩ ?_
 refine W.block ?_
 refine W.aI (fun k=>k≤l.length∧(l.take k).any p=false) (fun k:Nat=> [(8, .one (.a (.lit (.int .i64 k))))]) (fun k=> []) (fun k=>l.length-k) 0 (fun k=>rfl) ⟨Nat.zero_le _,rfl⟩ rfl ?_
 rintro k ⟨hk,hall⟩
 refine W.s0 X [0,1,7,8,9] rfl ⟨⟩ ?_
 refine W.seq ?_
 refine W.cond rfl (fun hb0=> ?_) (fun hb0=> ?_)
 ·try simp only[nb,an,au,af]at hb0
  refine W.skip ?_
  refine W.seq ?_
  refine W.block ?_
  refine W.s0 X [0,1,5,7,8] rfl ⟨⟩ ?_
  refine W.sr X [] [(16,⟨false,[.a (.lit (.bool (p (l.getD k (av (.sl .u8))))))]⟩)] [0,1,5,7,8,16] [] rfl (by(repeat' with_reducible first|exact ah.nil|refine ah.mk ?_ ?_|apply And.intro)<;>first|exact(hf _)| (intros;omega)) ?_
  refine W.cond rfl (fun aD=> ?_) (fun aD=> ?_)
  ·skip
   refine W.s0 X [4] rfl ⟨⟩ ?_
   refine W.ret ?_
   exact Fin.ret rfl ⟨by rw[xl (av (.sl .u8)) hb0 hall aD],⟨⟩⟩
  ·skip
   refine W.skip ?_
   refine W.r0 X [0,1,7,8] rfl ⟨⟩ ?_
   refine⟨k+1,⟨by omega,vv (av (.sl .u8)) hb0 hall aD⟩,by omega,?_⟩
   rw[aV _ k rfl (by omega)]
   try rfl
 ·try simp only[nb,an,au,af]at hb0
  refine W.exit ?_
  refine W.s0 X [4] rfl ⟨⟩ ?_
  refine W.ret ?_
  exact Fin.ret rfl ⟨by rw[ED (by rw[←hall,List.take_of_length_le hb0])],⟨⟩⟩
theorem dy(l:List (List UInt8))(f:FuncId)(p:(List UInt8)→Bool)(hf: ∀b,Sound ty Tryz.prog f [.a (.sl .u8 b)] [.a (.lit (.bool (p b)))]):Sound ty Tryz.prog 271 [.a (.sl (.sl .u8) l), .a (.lit (.func (.func f) #[] #[]))] [.a (.lit (.bool (l.any p)))]:=by
 refine Sound.o X Tryz.call271 Tryz.func271 Tryz.ntmps271 rfl rfl ?_
 intro zb
 refine W.s0 X [0,1] rfl ⟨⟩ ?_
 refine W.sr X [] [(7,⟨false,[.a (.lit (.int .i64 (fidx p l)))]⟩)] [4] [] rfl (by(repeat' with_reducible first|exact ah.nil|refine ah.mk ?_ ?_|apply And.intro)<;>first|exact(lW l f p hf)) ?_
 refine W.ret ?_
 exact Fin.ret rfl ⟨congrArg Value.bool (Lw p l),⟨⟩⟩
theorem mS(l:List Int)(f:FuncId)(p:Int→Bool)(hf: ∀b,Sound ty Tryz.prog f [.a (.lit (.int .i64 b))] [.a (.lit (.bool (p b)))]):Sound ty Tryz.prog 345 [.a (.sl .int l), .a (.lit (.func (.func f) #[] #[]))] [.a (.lit (.int .i64 (fidx p l)))]:=by
 refine Sound.o X Tryz.call345 Tryz.func345 Tryz.ntmps345 rfl rfl ?_
 intro zb
 refine W.bound 0 rfl (fun jr=> ?_)
 refine W.s0 X [0,1] rfl ⟨⟩ ?_
 refine W.seq ?_
 refine W.s0 X [0,1,7,8] rfl ⟨⟩ ?_
 refine W.block ?_
 refine W.aI (fun k=>k≤l.length∧(l.take k).any p=false) (fun k:Nat=> [(8, .one (.a (.lit (.int .i64 k))))]) (fun k=> []) (fun k=>l.length-k) 0 (fun k=>rfl) ⟨Nat.zero_le _,rfl⟩ rfl ?_
 rintro k ⟨hk,hall⟩
 refine W.s0 X [0,1,7,8,9] rfl ⟨⟩ ?_
 refine W.seq ?_
 refine W.cond rfl (fun hb0=> ?_) (fun hb0=> ?_)
 ·try simp only[nb,an,au,af]at hb0
  refine W.skip ?_
  refine W.seq ?_
  refine W.block ?_
  refine W.s0 X [0,1,5,7,8] rfl ⟨⟩ ?_
  refine W.sr X [] [(16,⟨false,[.a (.lit (.bool (p (l.getD k (av .int)))))]⟩)] [0,1,5,7,8,16] [] rfl (by(repeat' with_reducible first|exact ah.nil|refine ah.mk ?_ ?_|apply And.intro)<;>first|exact(hf _)| (intros;omega)) ?_
  refine W.cond rfl (fun aD=> ?_) (fun aD=> ?_)
  ·skip
   refine W.s0 X [4] rfl ⟨⟩ ?_
   refine W.ret ?_
   exact Fin.ret rfl ⟨by rw[xl (av .int) hb0 hall aD],⟨⟩⟩
  ·skip
   refine W.skip ?_
   refine W.r0 X [0,1,7,8] rfl ⟨⟩ ?_
   refine⟨k+1,⟨by omega,vv (av .int) hb0 hall aD⟩,by omega,?_⟩
   rw[aV _ k rfl (by omega)]
   try rfl
 ·try simp only[nb,an,au,af]at hb0
  refine W.exit ?_
  refine W.s0 X [4] rfl ⟨⟩ ?_
  refine W.ret ?_
  exact Fin.ret rfl ⟨by rw[ED (by rw[←hall,List.take_of_length_le hb0])],⟨⟩⟩
theorem lI(l:List Int)(f:FuncId)(p:Int→Bool)(hf: ∀b,Sound ty Tryz.prog f [.a (.lit (.int .i64 b))] [.a (.lit (.bool (p b)))]):Sound ty Tryz.prog 335 [.a (.sl .int l), .a (.lit (.func (.func f) #[] #[]))] [.a (.lit (.bool (l.any p)))]:=by
 refine Sound.o X Tryz.call335 Tryz.func335 Tryz.ntmps335 rfl rfl ?_
 intro zb
 refine W.s0 X [0,1] rfl ⟨⟩ ?_
 refine W.sr X [] [(7,⟨false,[.a (.lit (.int .i64 (fidx p l)))]⟩)] [4] [] rfl (by(repeat' with_reducible first|exact ah.nil|refine ah.mk ?_ ?_|apply And.intro)<;>first|exact(mS l f p hf)) ?_
 refine W.ret ?_
 exact Fin.ret rfl ⟨congrArg Value.bool (Lw p l),⟨⟩⟩
theorem ox(b:List UInt8):Sound ty Tryz.prog 272 [.a (.sl .u8 b)] [.a (.lit (.bool (!decide ((b.length:Int)=24))))]:=by
 refine Sound.o X Tryz.call272 Tryz.func272 Tryz.ntmps272 rfl rfl ?_
 intro zb
 refine W.s0 X [0] rfl ⟨⟩ ?_
 refine W.s0 X [2] rfl ⟨⟩ ?_
 refine W.ret ?_
 exact Fin.ret rfl ⟨(congrArg Value.bool (by simp only[aF]<;>first|rfl|ac_rfl)),⟨⟩⟩
theorem cL(d:DB):Sound ty Tryz.prog 190 [.agg (aH d)] [.a (.lit (.bool (cG d)))]:=by
 refine Sound.o X Tryz.call190 Tryz.func190 Tryz.ntmps190 rfl rfl ?_
 intro zb
 refine W.s0 X [1] rfl ⟨⟩ ?_
 refine W.sr X [] [(10,⟨false,[.a (.lit (.bool (d.rows.any fun b=> !decide ((b.length:Int)=24))))]⟩)] [2] [] rfl (by(repeat' with_reducible first|exact ah.nil|refine ah.mk ?_ ?_|apply And.intro)<;>first|exact fun _=>(dy _ _ _ ox)) ?_
 refine W.ret ?_
 exact Fin.ret rfl ⟨by unfold cG;rw[so];by_cases h:(d.rows.length:Int)≤64<;>simp[h],⟨⟩⟩
theorem cx(d:DB):Sound ty Tryz.prog 165 [.agg (aH d)] [.a (.lit (.bool (cG d)))]:=by
 refine Sound.o X Tryz.call165 Tryz.func165 Tryz.ntmps165 rfl rfl ?_
 intro zb
 refine W.bS 0 0 rfl rfl (fun jr=> ?_)
 refine W.s0 X [1] rfl ⟨⟩ ?_
 refine W.seq ?_
 refine W.s0 X [1,3] rfl ⟨⟩ ?_
 refine W.block ?_
 refine W.aI (fun k=>k≤d.rows.length∧(d.rows.take k).all (fun r=>decide ((r.length:Int)=24))=true) (fun k:Nat=> [(3, .one (.a (.lit (.int .i64 k))))]) (fun k=> []) (fun k=>d.rows.length-k) 0 (fun k=>rfl) ⟨Nat.zero_le _,rfl⟩ rfl ?_
 rintro k ⟨hk,hall⟩
 refine W.seq ?_
 refine W.s0 X [1,3,8] rfl ⟨⟩ ?_
 refine W.cond rfl (fun hb0=> ?_) (fun hb0=> ?_)
 ·try simp only[nb,an,au,af]at hb0
  refine W.skip ?_
  refine W.seq ?_
  refine W.block ?_
  refine W.s0 X [1,3,17] rfl (by and_intros<;>first|exact⟨⟩| (intros;omega)) ?_
  refine W.cond rfl (fun aD=> ?_) (fun aD=> ?_)
  ·try simp only[nb,an,au,af]at aD
   refine W.s0 X [2] rfl ⟨⟩ ?_
   refine W.ret ?_
   exact Fin.ret rfl ⟨by unfold cG;rw[J9 _ _ (av (.sl .u8)) k hb0 (by simpa using aD)];simp,⟨⟩⟩
  ·try simp only[nb,an,au,af]at aD
   refine W.skip ?_
   refine W.r0 X [1,3] rfl ⟨⟩ ?_
   refine⟨k+1,⟨by omega,by rw[CC _ _ _ (av (.sl .u8)) hb0,hall];simpa using aD⟩,by omega,?_⟩
   rw[aV _ k rfl (by omega)]
   try rfl
 ·try simp only[nb,an,au,af]at hb0
  refine W.exit ?_
  refine W.s0 X [2] rfl ⟨⟩ ?_
  refine W.ret ?_
  exact Fin.ret rfl ⟨by rw[List.take_of_length_le hb0]at hall;unfold cG;rw[hall];simp,⟨⟩⟩
theorem kN(a:iS):Sound ty Tryz.prog 113 [.agg (cj a)] [.a (.lit (.int .i64 (cS a)))]:=by
 refine Sound.o X Tryz.call113 Tryz.func113 Tryz.ntmps113 rfl rfl ?_
 intro zb
 refine W.bS 0 1 rfl rfl (fun jr=> ?_)
 refine W.s0 X [1] rfl ⟨⟩ ?_
 refine W.seq ?_
 refine W.s0 X [1,6] rfl ⟨⟩ ?_
 refine W.cond rfl (fun hb0=> ?_) (fun hb0=> ?_)
 ·try simp only[nb,an,au,af]at hb0
  refine W.s0 X [2] rfl ⟨⟩ ?_
  refine W.ret ?_
  exact Fin.ret rfl ⟨by rw[cS,if_pos (by omega)],⟨⟩⟩
 ·try simp only[nb,an,au,af]at hb0
  refine W.skip ?_
  refine W.s0 X [2] rfl (by and_intros<;>first|exact⟨⟩| ((try simp only[nb,an,au]at*);(simp(disch:=omega) only[cC]);omega)) ?_
  refine W.ret ?_
  exact Fin.ret rfl ⟨by rw[cS,if_neg (by omega),cC (by omega)];congr 4;omega,⟨⟩⟩
theorem kO(a:iS):Sound ty Tryz.prog 96 [.agg (cj a)] [.a (.lit (.int .i64 (cS a)))]:=by
 refine Sound.o X Tryz.call96 Tryz.func96 Tryz.ntmps96 rfl rfl ?_
 intro zb
 refine W.bS 0 1 rfl rfl (fun jr=> ?_)
 refine W.s0 X [1] rfl ⟨⟩ ?_
 refine W.seq ?_
 refine W.s0 X [1,6] rfl ⟨⟩ ?_
 refine W.cond rfl (fun hb0=> ?_) (fun hb0=> ?_)
 ·try simp only[nb,an,au,af]at hb0
  refine W.s0 X [2] rfl ⟨⟩ ?_
  refine W.ret ?_
  exact Fin.ret rfl ⟨by rw[cS,if_pos (by omega)],⟨⟩⟩
 ·try simp only[nb,an,au,af]at hb0
  refine W.skip ?_
  refine W.s0 X [2] rfl (by and_intros<;>first|exact⟨⟩| ((try simp only[nb,an,au]at*);(simp(disch:=omega) only[cC]);omega)) ?_
  refine W.ret ?_
  exact Fin.ret rfl ⟨by rw[cS,if_neg (by omega),cC (by omega)];congr 4;omega,⟨⟩⟩
theorem cI(s:aU):Sound ty Tryz.prog 115 [.agg (bw s)] [.a (.lit (.bool (bW s)))]:=by
 refine Sound.o X Tryz.call115 Tryz.func115 Tryz.ntmps115 rfl rfl ?_
 intro zb
 refine W.bS 0 3 rfl rfl (fun jr=> ?_)
 refine W.s0 X [1] rfl ⟨⟩ ?_
 refine W.seq ?_
 refine W.sr X [] [(7,⟨false,[.a (.lit (.bool (inr s.id 0 3)))]⟩),(12,⟨false,[.a (.lit (.bool (inr s.rows 1 64)))]⟩),(18,⟨false,[.a (.lit (.bool (inr s.behavior 0 3)))]⟩),(24,⟨false,[.a (.lit (.bool (inr s.round 0 100000)))]⟩)] [1,32] [] rfl (by(repeat' with_reducible first|exact ah.nil|refine ah.mk ?_ ?_|apply And.intro);(iterate 4 all_goals try first|exact(aE s.id 0 3)|exact fun _=>(aE s.rows 1 64)|exact fun _=>(aE s.behavior 0 3)|exact fun _=>(aE s.round 0 100000))) ?_
 refine W.cond rfl (fun hb0=> ?_) (fun hb0=> ?_)
 ·skip
  refine W.s0 X [2] rfl ⟨⟩ ?_
  refine W.ret ?_
  exact Fin.ret rfl ⟨by rw[show bW s=false from WT hb0 (by simp only[CI,aF]<;>first|rfl|ac_rfl)],⟨⟩⟩
 ·have hh:CI s=true:=bA hb0 (by simp only[CI,aF]<;>first|rfl|ac_rfl)
  refine W.skip ?_
  refine W.seq ?_
  refine W.s0 X [1,34,35,36] rfl ⟨⟩ ?_
  refine W.block ?_
  refine W.aI (fun k=>k≤s.received.length∧(List.range k).all (nJ s.rows s.received)=true) (fun k:Nat=> [(36, .one (.a (.lit (.int .i64 k))))]) (fun k=> []) (fun k=>s.received.length-k) 0 (fun k=>rfl) ⟨Nat.zero_le _,rfl⟩ rfl ?_
  rintro k ⟨hk,hall⟩
  have hw:(IntKind.i64.wrap ((k:Int)-1)).toNat=k-1:=by rw[cC (by omega)];omega
  refine W.s0 X [1,34,35,36,37] rfl ⟨⟩ ?_
  refine W.seq ?_
  refine W.cond rfl (fun aD=> ?_) (fun aD=> ?_)
  ·try simp only[nb,an,au,af]at aD
   refine W.skip ?_
   refine W.seq ?_
   refine W.block ?_
   refine W.s0 X [1,3,4,34,35,36] rfl (by and_intros<;>first|exact⟨⟩| (intros;omega)) ?_
   refine W.sd X [] [(43,⟨false,[.a (.lit (.bool (inr ((s.received.getD k (av .aB)).client) 0 7)))]⟩),(64,⟨false,[.a (.lit (.bool (cG ((s.received.getD k (av .aB)).share))))]⟩)] [1,34,35,36,75] [] 35 MO (by kernel_rfl) rfl (by(repeat' with_reducible first|exact ah.nil|refine ah.mk ?_ ?_|apply And.intro);(iterate 2 all_goals try first|exact(aE ((s.received.getD k (av .aB)).client) 0 7)|exact fun _=>(cL ((s.received.getD k (av .aB)).share)));all_goals first| ((intro h1;first| (intro h2;first| (intro h3;refine And.intro ?_ ?_)|refine And.intro ?_ ?_)|refine And.intro ?_ ?_)<;>first|omega| ((try simp only[nb,an,au]at*);(try simp(disch:=omega) only[cC]);omega))) ?_
   refine W.cond rfl (fun aR=> ?_) (fun aR=> ?_)
   ·have hk2:nJ s.rows s.received k=false:=bD aR (by simp only[hw,nJ,aF]<;>first|rfl|ac_rfl)
    refine W.s0 X [2] rfl ⟨⟩ ?_
    refine W.ret ?_
    exact Fin.ret rfl ⟨by rw[show bW s=false by unfold bW;rw[lH aD hk2];simp],⟨⟩⟩
   ·have hk2:nJ s.rows s.received k=true:=bA aR (by simp only[hw,nJ,aF]<;>first|rfl|ac_rfl)
    refine W.skip ?_
    refine W.r0 X [1,34,35,36] rfl ⟨⟩ ?_
    refine⟨k+1,⟨by omega,jx hall hk2⟩,by omega,?_⟩
    rw[aV _ k rfl (by omega)]
    try rfl
  ·try simp only[nb,an,au,af]at aD
   have oP:(List.range s.received.length).all (nJ s.rows s.received)=true:=by rw[show s.received.length=k by omega];exact hall
   refine W.exit ?_
   refine W.s0 X [2] rfl ⟨⟩ ?_
   refine W.ret ?_
   exact Fin.ret rfl ⟨by rw[show bW s=true by unfold bW;rw[hh,oP];rfl],⟨⟩⟩
theorem ko(a:iS):Sound ty Tryz.prog 112 [.agg (cj a)] [.a (.lit (.bool (gG a)))]:=by
 refine Sound.o X Tryz.call112 Tryz.func112 Tryz.ntmps112 rfl rfl ?_
 intro zb
 refine W.bS 0 1 rfl rfl (fun jr=> ?_)
 refine W.s0 X [1] rfl ⟨⟩ ?_
 refine W.seq ?_
 refine W.s0 X [1,6,7,8] rfl ⟨⟩ ?_
 refine W.block ?_
 refine W.aI (fun k=>k≤a.rounds.length∧(List.range k).all (ue a.rows a.rounds)=true) (fun k:Nat=> [(8, .one (.a (.lit (.int .i64 k))))]) (fun k=> []) (fun k=>a.rounds.length-k) 0 (fun k=>rfl) ⟨Nat.zero_le _,rfl⟩ rfl ?_
 rintro k ⟨hk,hall⟩
 have hw:(IntKind.i64.wrap ((k:Int)-1)).toNat=k-1:=by rw[cC (by omega)];omega
 refine W.s0 X [1,6,7,8,9] rfl ⟨⟩ ?_
 refine W.seq ?_
 refine W.cond rfl (fun hb0=> ?_) (fun hb0=> ?_)
 ·try simp only[nb,an,au,af]at hb0
  refine W.skip ?_
  refine W.seq ?_
  refine W.block ?_
  refine W.s0 X [1,3,4,6,7,8] rfl (by and_intros<;>first|exact⟨⟩| (intros;omega)) ?_
  refine W.sd X [] [(15,⟨false,[.a (.lit (.bool (inr ((a.rounds.getD k (av .aA)).round) 0 100000)))]⟩),(36,⟨false,[.a (.lit (.bool (cG ((a.rounds.getD k (av .aA)).db))))]⟩)] [1,6,7,8,47] [] 35 MO (by kernel_rfl) rfl (by(repeat' with_reducible first|exact ah.nil|refine ah.mk ?_ ?_|apply And.intro);(iterate 2 all_goals try first|exact(aE ((a.rounds.getD k (av .aA)).round) 0 100000)|exact fun _=>(cL ((a.rounds.getD k (av .aA)).db)));all_goals first| ((intro h1;first| (intro h2;first| (intro h3;refine And.intro ?_ ?_)|refine And.intro ?_ ?_)|refine And.intro ?_ ?_)<;>first|omega| ((try simp only[nb,an,au]at*);(try simp(disch:=omega) only[cC]);omega))) ?_
  refine W.cond rfl (fun aD=> ?_) (fun aD=> ?_)
  ·have hk2:ue a.rows a.rounds k=false:=bD aD (by simp only[hw,ue,aF]<;>first|rfl|ac_rfl)
   refine W.s0 X [2] rfl ⟨⟩ ?_
   refine W.ret ?_
   exact Fin.ret rfl ⟨by rw[show gG a=false by unfold gG;rw[lH hb0 hk2];simp],⟨⟩⟩
  ·have hk2:ue a.rows a.rounds k=true:=bA aD (by simp only[hw,ue,aF]<;>first|rfl|ac_rfl)
   refine W.skip ?_
   refine W.r0 X [1,6,7,8] rfl ⟨⟩ ?_
   refine⟨k+1,⟨by omega,jx hall hk2⟩,by omega,?_⟩
   rw[aV _ k rfl (by omega)]
   try rfl
 ·try simp only[nb,an,au,af]at hb0
  have oP:(List.range a.rounds.length).all (ue a.rows a.rounds)=true:=by rw[show a.rounds.length=k by omega];exact hall
  refine W.exit ?_
  refine W.sr X [] [(51,⟨false,[.a (.lit (.bool (inr a.rows 1 64)))]⟩)] [2] [] rfl (by(repeat' with_reducible first|exact ah.nil|refine ah.mk ?_ ?_|apply And.intro)<;>first|exact(aE a.rows 1 64)) ?_
  refine W.ret ?_
  exact Fin.ret rfl ⟨(congrArg Value.bool (by simp only[gG,EC,oP,aF]<;>first|rfl|ac_rfl)),⟨⟩⟩
theorem cJ(s:aU):Sound ty Tryz.prog 163 [.agg (bw s)] [.a (.lit (.bool (bW s)))]:=by
 refine Sound.o X Tryz.call163 Tryz.func163 Tryz.ntmps163 rfl rfl ?_
 intro zb
 refine W.bS 0 3 rfl rfl (fun jr=> ?_)
 refine W.s0 X [1] rfl ⟨⟩ ?_
 refine W.seq ?_
 refine W.s0 X [1,3] rfl ⟨⟩ ?_
 refine W.block ?_
 refine W.aI (fun k=>k≤s.received.length∧(List.range k).all (nJ s.rows s.received)=true) (fun k:Nat=> [(3, .one (.a (.lit (.int .i64 k))))]) (fun k=> []) (fun k=>s.received.length-k) 0 (fun k=>rfl) ⟨Nat.zero_le _,rfl⟩ rfl ?_
 rintro k ⟨hk,hall⟩
 have hw:(IntKind.i64.wrap ((k:Int)-1)).toNat=k-1:=by rw[cC (by omega)];omega
 refine W.seq ?_
 refine W.s0 X [1,3,9] rfl ⟨⟩ ?_
 refine W.cond rfl (fun hb0=> ?_) (fun hb0=> ?_)
 ·try simp only[nb,an,au,af]at hb0
  refine W.skip ?_
  refine W.seq ?_
  refine W.block ?_
  refine W.s0 X [1,3,4] rfl (by and_intros<;>first|exact⟨⟩| (intros;omega)) ?_
  refine W.sd X [] [(19,⟨false,[.a (.lit (.bool (inr ((s.received.getD k (av .aB)).client) 0 7)))]⟩),(40,⟨false,[.a (.lit (.bool (cG ((s.received.getD k (av .aB)).share))))]⟩)] [1,3,51] [] 35 MO (by kernel_rfl) rfl (by(repeat' with_reducible first|exact ah.nil|refine ah.mk ?_ ?_|apply And.intro);(iterate 2 all_goals try first|exact(aP ((s.received.getD k (av .aB)).client) 0 7)|exact fun _=>(cx ((s.received.getD k (av .aB)).share)));all_goals first| ((intro h1;first| (intro h2;first| (intro h3;refine And.intro ?_ ?_)|refine And.intro ?_ ?_)|refine And.intro ?_ ?_)<;>first|omega| ((try simp only[nb,an,au]at*);(try simp(disch:=omega) only[cC]);omega))) ?_
  refine W.cond rfl (fun aD=> ?_) (fun aD=> ?_)
  ·have hk2:nJ s.rows s.received k=false:=bD aD (by simp only[hw,nJ,aF]<;>first|rfl|ac_rfl)
   refine W.s0 X [2] rfl ⟨⟩ ?_
   refine W.ret ?_
   exact Fin.ret rfl ⟨by rw[show bW s=false by unfold bW;rw[lH hb0 hk2];simp],⟨⟩⟩
  ·have hk2:nJ s.rows s.received k=true:=bA aD (by simp only[hw,nJ,aF]<;>first|rfl|ac_rfl)
   refine W.skip ?_
   refine W.r0 X [1,3] rfl ⟨⟩ ?_
   refine⟨k+1,⟨by omega,jx hall hk2⟩,by omega,?_⟩
   rw[aV _ k rfl (by omega)]
   try rfl
 ·try simp only[nb,an,au,af]at hb0
  have oP:(List.range s.received.length).all (nJ s.rows s.received)=true:=by rw[show s.received.length=k by omega];exact hall
  refine W.exit ?_
  refine W.sr X [] [(54,⟨false,[.a (.lit (.bool (inr s.id 0 3)))]⟩),(58,⟨false,[.a (.lit (.bool (inr s.rows 1 64)))]⟩),(63,⟨false,[.a (.lit (.bool (inr s.behavior 0 3)))]⟩),(68,⟨false,[.a (.lit (.bool (inr s.round 0 100000)))]⟩)] [2] [] rfl (by(repeat' with_reducible first|exact ah.nil|refine ah.mk ?_ ?_|apply And.intro);(iterate 4 all_goals try first|exact(aP s.id 0 3)|exact fun _=>(aP s.rows 1 64)|exact fun _=>(aP s.behavior 0 3)|exact fun _=>(aP s.round 0 100000))) ?_
  refine W.ret ?_
  exact Fin.ret rfl ⟨(congrArg Value.bool (by simp only[bW,CI,oP,aF]<;>first|rfl|ac_rfl)),⟨⟩⟩
theorem kq(a:iS):Sound ty Tryz.prog 95 [.agg (cj a)] [.a (.lit (.bool (gG a)))]:=by
 refine Sound.o X Tryz.call95 Tryz.func95 Tryz.ntmps95 rfl rfl ?_
 intro zb
 refine W.bS 0 1 rfl rfl (fun jr=> ?_)
 refine W.s0 X [1] rfl ⟨⟩ ?_
 refine W.seq ?_
 refine W.s0 X [1,3] rfl ⟨⟩ ?_
 refine W.block ?_
 refine W.aI (fun k=>k≤a.rounds.length∧(List.range k).all (ue a.rows a.rounds)=true) (fun k:Nat=> [(3, .one (.a (.lit (.int .i64 k))))]) (fun k=> []) (fun k=>a.rounds.length-k) 0 (fun k=>rfl) ⟨Nat.zero_le _,rfl⟩ rfl ?_
 rintro k ⟨hk,hall⟩
 have hw:(IntKind.i64.wrap ((k:Int)-1)).toNat=k-1:=by rw[cC (by omega)];omega
 refine W.seq ?_
 refine W.s0 X [1,3,9] rfl ⟨⟩ ?_
 refine W.cond rfl (fun hb0=> ?_) (fun hb0=> ?_)
 ·try simp only[nb,an,au,af]at hb0
  refine W.skip ?_
  refine W.seq ?_
  refine W.block ?_
  refine W.s0 X [1,3,4] rfl (by and_intros<;>first|exact⟨⟩| (intros;omega)) ?_
  refine W.sd X [] [(19,⟨false,[.a (.lit (.bool (inr ((a.rounds.getD k (av .aA)).round) 0 100000)))]⟩),(40,⟨false,[.a (.lit (.bool (cG ((a.rounds.getD k (av .aA)).db))))]⟩)] [1,3,51] [] 35 MO (by kernel_rfl) rfl (by(repeat' with_reducible first|exact ah.nil|refine ah.mk ?_ ?_|apply And.intro);(iterate 2 all_goals try first|exact(aP ((a.rounds.getD k (av .aA)).round) 0 100000)|exact fun _=>(cx ((a.rounds.getD k (av .aA)).db)));all_goals first| ((intro h1;first| (intro h2;first| (intro h3;refine And.intro ?_ ?_)|refine And.intro ?_ ?_)|refine And.intro ?_ ?_)<;>first|omega| ((try simp only[nb,an,au]at*);(try simp(disch:=omega) only[cC]);omega))) ?_
  refine W.cond rfl (fun aD=> ?_) (fun aD=> ?_)
  ·have hk2:ue a.rows a.rounds k=false:=bD aD (by simp only[hw,ue,aF]<;>first|rfl|ac_rfl)
   refine W.s0 X [2] rfl ⟨⟩ ?_
   refine W.ret ?_
   exact Fin.ret rfl ⟨by rw[show gG a=false by unfold gG;rw[lH hb0 hk2];simp],⟨⟩⟩
  ·have hk2:ue a.rows a.rounds k=true:=bA aD (by simp only[hw,ue,aF]<;>first|rfl|ac_rfl)
   refine W.skip ?_
   refine W.r0 X [1,3] rfl ⟨⟩ ?_
   refine⟨k+1,⟨by omega,jx hall hk2⟩,by omega,?_⟩
   rw[aV _ k rfl (by omega)]
   try rfl
 ·try simp only[nb,an,au,af]at hb0
  have oP:(List.range a.rounds.length).all (ue a.rows a.rounds)=true:=by rw[show a.rounds.length=k by omega];exact hall
  refine W.exit ?_
  refine W.sr X [] [(54,⟨false,[.a (.lit (.bool (inr a.rows 1 64)))]⟩)] [2] [] rfl (by(repeat' with_reducible first|exact ah.nil|refine ah.mk ?_ ?_|apply And.intro)<;>first|exact(aP a.rows 1 64)) ?_
  refine W.ret ?_
  exact Fin.ret rfl ⟨(congrArg Value.bool (by simp only[gG,EC,oP,aF]<;>first|rfl|ac_rfl)),⟨⟩⟩
theorem Ak(a:List UInt8):(Dz a).toList=a:=by
 rw[ByteArray.toList_eq];rfl
theorem jO(a b:List UInt8):Sound ty Tryz.prog 260 [.a (.sl .u8 a), .a (.sl .u8 b)] [.a (.lit (.bool (a==b)))]:=by
 refine Sound.o X Tryz.call260 Tryz.func260 Tryz.ntmps260 rfl rfl ?_
 intro zb
 refine W.s0 X [0,1] rfl ⟨⟩ ?_
 refine W.s0 X [4] rfl ⟨⟩ ?_
 refine W.ret ?_
 exact Fin.ret rfl ⟨by rw[Ak,Ak],⟨⟩⟩
theorem iH(a b:List UInt8):Sound ty Tryz.prog 295 [.a (.sl .u8 a), .a (.sl .u8 b)] [.a (.lit (.bool (a==b)))]:=by
 refine Sound.o X Tryz.call295 Tryz.func295 Tryz.ntmps295 rfl rfl ?_
 intro zb
 refine W.bound 0 rfl (fun nr=> ?_)
 refine W.bound 1 rfl (fun iI=> ?_)
 refine W.s0 X [0,1] rfl ⟨⟩ ?_
 refine W.seq ?_
 refine W.s0 X [0,1,10] rfl ⟨⟩ ?_
 refine W.cond rfl (fun hb0=> ?_) (fun hb0=> ?_)
 ·try simp only[nb,an,au,af]at hb0
  refine W.s0 X [4] rfl ⟨⟩ ?_
  refine W.ret ?_
  exact Fin.ret rfl ⟨by rw[yN a b hb0],⟨⟩⟩
 ·try simp only[nb,an,au,af]at hb0
  refine W.skip ?_
  refine W.seq ?_
  refine W.s0 X [0,1,12,13] rfl ⟨⟩ ?_
  refine W.block ?_
  refine W.aI (fun k=>k≤a.length∧a.take k=b.take k) (fun k:Nat=> [(13, .one (.a (.lit (.int .i64 k))))]) (fun k=> []) (fun k=>a.length-k) 0 (fun k=>rfl) ⟨Nat.zero_le _,rfl⟩ rfl ?_
  rintro k ⟨hk,hall⟩
  refine W.s0 X [0,1,12,13,14] rfl ⟨⟩ ?_
  refine W.seq ?_
  refine W.cond rfl (fun aD=> ?_) (fun aD=> ?_)
  ·try simp only[nb,an,au,af]at aD
   refine W.skip ?_
   refine W.seq ?_
   refine W.block ?_
   refine W.s0 X [0,1,5,12,13] rfl ⟨⟩ ?_
   refine W.sd X [] [] [0,1,12,13,24] [] 9 MO (by kernel_rfl) rfl (by and_intros<;>first|exact⟨⟩| (intros;omega)) ?_
   refine W.cond rfl (fun aR=> ?_) (fun aR=> ?_)
   ·try simp only[nb,an,au,af]at aR
    have hne:=va a b (av .u8) k (fun h=>aR (by rw[h]))
    refine W.s0 X [4] rfl ⟨⟩ ?_
    refine W.ret ?_
    exact Fin.ret rfl ⟨by rw[hne],⟨⟩⟩
   ·try simp only[nb,an,au,af]at aR
    have he:a.getD k (av .u8)=b.getD k (av .u8):=PI aR
    refine W.skip ?_
    refine W.r0 X [0,1,12,13] rfl ⟨⟩ ?_
    refine⟨k+1,⟨by omega,qb a b (av .u8) k aD (by omega) hall he⟩,by omega,?_⟩
    rw[aV _ k rfl (by omega)]
    try rfl
  ·try simp only[nb,an,au,af]at aD
   refine W.exit ?_
   refine W.s0 X [4] rfl ⟨⟩ ?_
   refine W.ret ?_
   exact Fin.ret rfl ⟨by rw[ve a b k (by omega) (by omega) hall],⟨⟩⟩
theorem jP(a b:List (List UInt8)):Sound ty Tryz.prog 237 [.a (.sl (.sl .u8) a), .a (.sl (.sl .u8) b)] [.a (.lit (.bool (a==b)))]:=by
 refine Sound.o X Tryz.call237 Tryz.func237 Tryz.ntmps237 rfl rfl ?_
 intro zb
 refine W.bound 0 rfl (fun nr=> ?_)
 refine W.bound 1 rfl (fun iI=> ?_)
 refine W.s0 X [0,1] rfl ⟨⟩ ?_
 refine W.seq ?_
 refine W.s0 X [0,1,10] rfl ⟨⟩ ?_
 refine W.cond rfl (fun hb0=> ?_) (fun hb0=> ?_)
 ·try simp only[nb,an,au,af]at hb0
  refine W.s0 X [4] rfl ⟨⟩ ?_
  refine W.ret ?_
  exact Fin.ret rfl ⟨by rw[yN a b hb0],⟨⟩⟩
 ·try simp only[nb,an,au,af]at hb0
  refine W.skip ?_
  refine W.seq ?_
  refine W.s0 X [0,1,5] rfl ⟨⟩ ?_
  refine W.block ?_
  refine W.aI (fun k=>k≤a.length∧a.take k=b.take k) (fun k:Nat=> [(5, .one (.a (.lit (.int .i64 k))))]) (fun k=> []) (fun k=>a.length-k) 0 (fun k=>rfl) ⟨Nat.zero_le _,rfl⟩ rfl ?_
  rintro k ⟨hk,hall⟩
  refine W.seq ?_
  refine W.s0 X [0,1,5,14] rfl ⟨⟩ ?_
  refine W.cond rfl (fun aD=> ?_) (fun aD=> ?_)
  ·try simp only[nb,an,au,af]at aD
   refine W.skip ?_
   refine W.seq ?_
   refine W.block ?_
   refine W.sd X [] [(25,⟨false,[.a (.lit (.bool _))]⟩)] [0,1,5,26] [] 10 MO (by kernel_rfl) rfl (by(repeat' with_reducible first|exact ah.nil|refine ah.mk ?_ ?_|apply And.intro)<;>first|exact(jO _ _)| (intros;omega)) ?_
   refine W.cond rfl (fun aR=> ?_) (fun aR=> ?_)
   ·try simp only[nb,an,au,af]at aR
    have hne:=va a b (av (.sl .u8)) k (fun h=>aR (by rw[h]))
    refine W.s0 X [4] rfl ⟨⟩ ?_
    refine W.ret ?_
    exact Fin.ret rfl ⟨by rw[hne],⟨⟩⟩
   ·try simp only[nb,an,au,af]at aR
    have he:a.getD k (av (.sl .u8))=b.getD k (av (.sl .u8)):=aR
    refine W.skip ?_
    refine W.r0 X [0,1,5] rfl ⟨⟩ ?_
    refine⟨k+1,⟨by omega,qb a b (av (.sl .u8)) k aD (by omega) hall he⟩,by omega,?_⟩
    rw[aV _ k rfl (by omega)]
    try rfl
  ·try simp only[nb,an,au,af]at aD
   refine W.exit ?_
   refine W.s0 X [4] rfl ⟨⟩ ?_
   refine W.ret ?_
   exact Fin.ret rfl ⟨by rw[ve a b k (by omega) (by omega) hall],⟨⟩⟩
theorem jQ(a b:List UInt8):Sound ty Tryz.prog 221 [.a (.sl .u8 a), .a (.sl .u8 b)] [.a (.lit (.bool (a==b)))]:=by
 refine Sound.o X Tryz.call221 Tryz.func221 Tryz.ntmps221 rfl rfl ?_
 intro zb
 refine W.s0 X [0,1] rfl ⟨⟩ ?_
 refine W.sr X [] [(7,⟨false,[.a (.lit (.bool _))]⟩)] [4] [] rfl (by(repeat' with_reducible first|exact ah.nil|refine ah.mk ?_ ?_|apply And.intro)<;>first|exact(iH _ _)) ?_
 refine W.ret ?_
 exact Fin.ret rfl ⟨rfl,⟨⟩⟩
theorem gH(a b:List (List UInt8)):Sound ty Tryz.prog 324 [.a (.sl (.sl .u8) a), .a (.sl (.sl .u8) b), .a (.lit (.func (.func 221) #[] #[]))] [.a (.lit (.bool (a==b)))]:=by
 refine Sound.o X Tryz.call324 Tryz.func324 Tryz.ntmps324 rfl rfl ?_
 intro zb
 refine W.bound 0 rfl (fun nr=> ?_)
 refine W.bound 1 rfl (fun iI=> ?_)
 refine W.s0 X [0,1,2] rfl ⟨⟩ ?_
 refine W.seq ?_
 refine W.s0 X [0,1,2,14] rfl ⟨⟩ ?_
 refine W.cond rfl (fun hb0=> ?_) (fun hb0=> ?_)
 ·try simp only[nb,an,au,af]at hb0
  refine W.s0 X [6] rfl ⟨⟩ ?_
  refine W.ret ?_
  exact Fin.ret rfl ⟨by rw[yN a b hb0],⟨⟩⟩
 ·try simp only[nb,an,au,af]at hb0
  refine W.skip ?_
  refine W.seq ?_
  refine W.s0 X [1,2,15,16,17] rfl ⟨⟩ ?_
  refine W.block ?_
  refine W.aI (fun k=>k≤a.length∧a.take k=b.take k) (fun k:Nat=> [(17, .one (.a (.lit (.int .i64 k))))]) (fun k=> []) (fun k=>a.length-k) 0 (fun k=>rfl) ⟨Nat.zero_le _,rfl⟩ rfl ?_
  rintro k ⟨hk,hall⟩
  refine W.s0 X [1,2,15,16,17,18] rfl ⟨⟩ ?_
  refine W.seq ?_
  refine W.cond rfl (fun aD=> ?_) (fun aD=> ?_)
  ·try simp only[nb,an,au,af]at aD
   refine W.skip ?_
   refine W.seq ?_
   refine W.block ?_
   refine W.s0 X [1,2,7,8,15,16,17] rfl (by and_intros<;>first|exact⟨⟩| (intros;omega)) ?_
   refine W.s0 X [1,2,8,9,15,16,17] rfl (by and_intros<;>first|exact⟨⟩| (intros;omega)) ?_
   refine W.sr X [] [(29,⟨false,[.a (.lit (.bool (a.getD k (av (.sl .u8))==b.getD k (av (.sl .u8)))))]⟩)] [1,2,15,16,17,30] [] rfl (by(repeat' with_reducible first|exact ah.nil|refine ah.mk ?_ ?_|apply And.intro)<;>first|exact(jQ _ _)) ?_
   refine W.cond rfl (fun aR=> ?_) (fun aR=> ?_)
   ·try simp only[nb,an,au,af]at aR
    have hne:=va a b (av (.sl .u8)) k (fun h=>aR (by rw[h]))
    refine W.s0 X [6] rfl ⟨⟩ ?_
    refine W.ret ?_
    exact Fin.ret rfl ⟨by rw[hne],⟨⟩⟩
   ·try simp only[nb,an,au,af]at aR
    have he:a.getD k (av (.sl .u8))=b.getD k (av (.sl .u8)):=aR
    refine W.skip ?_
    refine W.r0 X [1,2,15,16,17] rfl ⟨⟩ ?_
    refine⟨k+1,⟨by omega,qb a b (av (.sl .u8)) k aD (by omega) hall he⟩,by omega,?_⟩
    rw[aV _ k rfl (by omega)]
    try rfl
  ·try simp only[nb,an,au,af]at aD
   refine W.exit ?_
   refine W.s0 X [6] rfl ⟨⟩ ?_
   refine W.ret ?_
   exact Fin.ret rfl ⟨by rw[ve a b k (by omega) (by omega) hall],⟨⟩⟩
theorem jR(a b:List (List UInt8)):Sound ty Tryz.prog 274 [.a (.sl (.sl .u8) a), .a (.sl (.sl .u8) b)] [.a (.lit (.bool (a==b)))]:=by
 refine Sound.o X Tryz.call274 Tryz.func274 Tryz.ntmps274 rfl rfl ?_
 intro zb
 refine W.s0 X [0,1] rfl ⟨⟩ ?_
 refine W.sr X [] [(7,⟨false,[.a (.lit (.bool _))]⟩)] [4] [] rfl (by(repeat' with_reducible first|exact ah.nil|refine ah.mk ?_ ?_|apply And.intro)<;>first|exact(gH _ _)) ?_
 refine W.ret ?_
 exact Fin.ret rfl ⟨rfl,⟨⟩⟩
theorem qh(b:List UInt8):Sound ty Tryz.prog 273 [.a (.sl .u8 b)] [.a (.lit (.bool (yW b)))]:=by
 refine Sound.o X Tryz.call273 Tryz.func273 Tryz.ntmps273 rfl rfl ?_
 intro zb
 refine W.s0 X [0] rfl ⟨⟩ ?_
 refine W.s0 X [2] rfl ⟨⟩ ?_
 refine W.ret ?_
 exact Fin.ret rfl ⟨rfl,⟨⟩⟩
theorem dI(n:Int):Sound ty Tryz.prog 111 [.a (.lit (.int .i64 n))] [.a (.lit (.bool (cE n)))]:=by
 refine Sound.o X Tryz.call111 Tryz.func111 Tryz.ntmps111 rfl rfl ?_
 intro zb
 refine W.s0 X [0] rfl ⟨⟩ ?_
 refine W.sr X [] [(4,⟨false,[.a (.lit (.bool _))]⟩)] [2] [] rfl (by(repeat' with_reducible first|exact ah.nil|refine ah.mk ?_ ?_|apply And.intro)<;>first|exact(aE _ _ _)) ?_
 refine W.ret ?_
 exact Fin.ret rfl ⟨rfl,⟨⟩⟩
theorem gI(n:Int):Sound ty Tryz.prog 164 [.a (.lit (.int .i64 n))] [.a (.lit (.bool (cE n)))]:=by
 refine Sound.o X Tryz.call164 Tryz.func164 Tryz.ntmps164 rfl rfl ?_
 intro zb
 refine W.s0 X [0] rfl ⟨⟩ ?_
 refine W.sr X [] [(4,⟨false,[.a (.lit (.bool _))]⟩)] [2] [] rfl (by(repeat' with_reducible first|exact ah.nil|refine ah.mk ?_ ?_|apply And.intro)<;>first|exact(aP _ _ _)) ?_
 refine W.ret ?_
 exact Fin.ret rfl ⟨rfl,⟨⟩⟩
theorem cW(c:dV):Sound ty Tryz.prog 191 [.agg (aX c)] [.a (.lit (.bool (dH c)))]:=by
 refine Sound.o X Tryz.call191 Tryz.func191 Tryz.ntmps191 rfl rfl ?_
 intro zb
 refine W.s0 X [1] rfl ⟨⟩ ?_
 refine W.s0 X [1,3] rfl ⟨⟩ ?_
 refine W.sr X [] [(6,⟨false,[.a (.lit (.bool (inr c.id 0 7)))]⟩),(10,⟨false,[.a (.lit (.bool (inr c.e9 0 7)))]⟩),(22,⟨false,[.a (.lit (.bool (iG c.key)))]⟩),(40,⟨false,[.a (.lit (.bool (c.aq.any yW)))]⟩),(47,⟨false,[.a (.lit (.bool (c.inbox.any yW)))]⟩),(56,⟨false,[.a (.lit (.bool (inr c.sent 0 (c.aq.length:Int))))]⟩),(61,⟨false,[.a (.lit (.bool (inr c.next 0 100000)))]⟩)] [2] [] rfl (by(repeat' with_reducible first|exact ah.nil|refine ah.mk ?_ ?_|apply And.intro);(iterate 7 all_goals try first|exact(aE c.id 0 7)|exact fun _=>(aE c.e9 0 7)|exact fun _=>(gh c.key)|exact fun _=>(dy _ _ _ qh)|exact fun _=>(aE c.sent 0 (c.aq.length:Int))|exact fun _=>(aE c.next 0 100000))) ?_
 refine W.ret ?_
 exact Fin.ret rfl ⟨(congrArg Value.bool (by simp only[dH,aF]<;>first|rfl|ac_rfl)),⟨⟩⟩
theorem F4(i f k:Int):Sound ty Tryz.prog 301 [.a (.lit (.int .i64 i)), .a (.lit (.int .i64 f)), .a (.lit (.int .i64 k))] [.a (.lit (.bool (inr i 0 7&&inr f 0 7&& !(i==f)&&iG k)))]:=by
 refine Sound.o X Tryz.call301 Tryz.func301 Tryz.ntmps301 rfl rfl ?_
 intro zb
 refine W.s0 X [0,1,2] rfl ⟨⟩ ?_
 refine W.sr X [] [(8,⟨false,[.a (.lit (.bool (inr i 0 7)))]⟩),(11,⟨false,[.a (.lit (.bool (inr f 0 7)))]⟩),(20,⟨false,[.a (.lit (.bool (iG k)))]⟩)] [6] [] rfl (by(repeat' with_reducible first|exact ah.nil|refine ah.mk ?_ ?_|apply And.intro);(iterate 3 all_goals try first|exact(aP i 0 7)|exact fun _=>(aP f 0 7)|exact fun _=>(gj k))) ?_
 refine W.ret ?_
 exact Fin.ret rfl ⟨(congrArg Value.bool (by simp only[aF]<;>first|rfl|ac_rfl)),⟨⟩⟩
theorem oQ(l:List (List UInt8)):Sound ty Tryz.prog 302 [.a (.sl (.sl .u8) l)] [.a (.lit (.bool (decide ((l.length:Int)≤16)&& !l.any yW)))]:=by
 refine Sound.o X Tryz.call302 Tryz.func302 Tryz.ntmps302 rfl rfl ?_
 intro zb
 refine W.bound 0 rfl (fun jr=> ?_)
 refine W.s0 X [0] rfl ⟨⟩ ?_
 refine W.seq ?_
 refine W.s0 X [0,3] rfl ⟨⟩ ?_
 refine W.block ?_
 refine W.aI (fun k=>k≤l.length∧(l.take k).any yW=false) (fun k:Nat=> [(3, .one (.a (.lit (.int .i64 k))))]) (fun k=> []) (fun k=>l.length-k) 0 (fun k=>rfl) ⟨Nat.zero_le _,rfl⟩ rfl ?_
 rintro k ⟨hk,hall⟩
 refine W.seq ?_
 refine W.s0 X [0,3,7] rfl ⟨⟩ ?_
 refine W.cond rfl (fun hb0=> ?_) (fun hb0=> ?_)
 ·try simp only[nb,an,au,af]at hb0
  refine W.skip ?_
  refine W.seq ?_
  refine W.block ?_
  refine W.s0 X [0,3,15] rfl (by and_intros<;>first|exact⟨⟩| (intros;omega)) ?_
  refine W.cond rfl (fun aD=> ?_) (fun aD=> ?_)
  ·skip
   refine W.s0 X [2] rfl ⟨⟩ ?_
   refine W.ret ?_
   exact Fin.ret rfl ⟨by rw[Be l yW (av (.sl .u8)) k hb0 aD];simp,⟨⟩⟩
  ·skip
   refine W.skip ?_
   refine W.r0 X [0,3] rfl ⟨⟩ ?_
   refine⟨k+1,⟨by omega,vv (av (.sl .u8)) hb0 hall aD⟩,by omega,?_⟩
   rw[aV _ k rfl (by omega)]
   try rfl
 ·try simp only[nb,an,au,af]at hb0
  have oP:l.any yW=false:=by rw[←hall,List.take_of_length_le hb0]
  refine W.exit ?_
  refine W.s0 X [2] rfl ⟨⟩ ?_
  refine W.ret ?_
  exact Fin.ret rfl ⟨by rw[oP];simp,⟨⟩⟩
theorem cX(c:dV):Sound ty Tryz.prog 236 [.agg (aX c)] [.a (.lit (.bool (dH c)))]:=by
 refine Sound.o X Tryz.call236 Tryz.func236 Tryz.ntmps236 rfl rfl ?_
 intro zb
 refine W.s0 X [1] rfl ⟨⟩ ?_
 refine W.sr X [] [(9,⟨false,[.a (.lit (.bool (inr c.id 0 7&&inr c.e9 0 7&& !(c.id==c.e9)&&iG c.key)))]⟩),(13,⟨false,[.a (.lit (.bool (decide ((c.aq.length:Int)≤16)&& !c.aq.any yW)))]⟩),(18,⟨false,[.a (.lit (.bool (decide ((c.inbox.length:Int)≤16)&& !c.inbox.any yW)))]⟩),(26,⟨false,[.a (.lit (.bool (inr c.sent 0 (c.aq.length:Int))))]⟩),(31,⟨false,[.a (.lit (.bool (inr c.next 0 100000)))]⟩)] [2] [] rfl (by(repeat' with_reducible first|exact ah.nil|refine ah.mk ?_ ?_|apply And.intro);(iterate 5 all_goals try first|exact(F4 c.id c.e9 c.key)|exact fun _=>(oQ c.aq)|exact fun _=>(oQ c.inbox)|exact fun _=>(aP c.sent 0 (c.aq.length:Int))|exact fun _=>(aP c.next 0 100000))) ?_
 refine W.ret ?_
 exact Fin.ret rfl ⟨(congrArg Value.bool (by simp only[dH,aF]<;>first|rfl|ac_rfl)),⟨⟩⟩
theorem yX(a b:dV):Sound ty Tryz.prog 192 [.agg (aX a), .agg (aX b)] [.a (.lit (.bool (nK a b)))]:=by
 refine Sound.o X Tryz.call192 Tryz.func192 Tryz.ntmps192 rfl rfl ?_
 intro zb
 refine W.s0 X [2,3] rfl ⟨⟩ ?_
 refine W.sr X [] [(36,⟨false,[.a (.lit (.bool (a.aq==b.aq)))]⟩)] [4] [] rfl (by(repeat' with_reducible first|exact ah.nil|refine ah.mk ?_ ?_|apply And.intro)<;>first|exact fun _=>(jR a.aq b.aq)) ?_
 refine W.ret ?_
 exact Fin.ret rfl ⟨(congrArg Value.bool (by simp only[nK,aF]<;>first|rfl|ac_rfl)),⟨⟩⟩
theorem AH(a b:List (List UInt8)):Sound ty Tryz.prog 193 [.a (.sl (.sl .u8) a), .a (.sl (.sl .u8) b)] [.a (.lit (.bool (P2 a b)))]:=by
 refine Sound.o X Tryz.call193 Tryz.func193 Tryz.ntmps193 rfl rfl ?_
 intro zb
 refine W.s0 X [0,1] rfl ⟨⟩ ?_
 refine W.sr X [] [(16,⟨false,[.a (.lit (.bool (a==((b.take (a.length:Int).toNat).drop (0:Int).toNat))))]⟩)] [4] [] rfl (by(repeat' with_reducible first|exact ah.nil|refine ah.mk ?_ ?_|apply And.intro)<;>first|exact fun _=>(jR a ((b.take (a.length:Int).toNat).drop (0:Int).toNat))| ((intro h1;first| (intro h2;first| (intro h3;refine And.intro ?_ ?_)|refine And.intro ?_ ?_)|refine And.intro ?_ ?_)<;>first|omega| ((try simp only[nb,an,au]at*);(try simp(disch:=omega) only[cC]);omega))) ?_
 refine W.ret ?_
 exact Fin.ret rfl ⟨(congrArg Value.bool (by simp only[P2,List.drop_zero,Int.toNat_zero,aF]<;>first|rfl|ac_rfl)),⟨⟩⟩
theorem cY(d:aL):Sound ty Tryz.prog 116 [.agg (bg d)] [.a (.lit (.bool (dB d)))]:=by
 refine Sound.o X Tryz.call116 Tryz.func116 Tryz.ntmps116 rfl rfl ?_
 intro zb
 refine W.s0 X [1] rfl ⟨⟩ ?_
 refine W.sr X [] [(5,⟨false,[.a (.lit (.bool (dH d.live)))]⟩),(9,⟨false,[.a (.lit (.bool (dH d.saved)))]⟩),(16,⟨false,[.a (.lit (.bool (nK d.live d.saved)))]⟩),(43,⟨false,[.a (.lit (.bool (P2 d.saved.inbox d.live.inbox)))]⟩)] [2] [] rfl (by(repeat' with_reducible first|exact ah.nil|refine ah.mk ?_ ?_|apply And.intro);(iterate 4 all_goals try first|exact(cW d.live)|exact fun _=>(cW d.saved)|exact fun _=>(yX d.live d.saved)|exact fun _=>(AH d.saved.inbox d.live.inbox))) ?_
 refine W.ret ?_
 exact Fin.ret rfl ⟨(congrArg Value.bool (by simp only[dB,aF]<;>first|rfl|ac_rfl)),⟨⟩⟩
theorem cZ(d:aL):Sound ty Tryz.prog 155 [.agg (bg d)] [.a (.lit (.bool (dB d)))]:=by
 refine Sound.o X Tryz.call155 Tryz.func155 Tryz.ntmps155 rfl rfl ?_
 intro zb
 refine W.s0 X [1] rfl ⟨⟩ ?_
 refine W.s0 X [1,3] rfl ⟨⟩ ?_
 refine W.s0 X [3,4] rfl ⟨⟩ ?_
 refine W.seq ?_
 refine W.sr X [] [(10,⟨false,[.a (.lit (.bool (dH d.live)))]⟩),(14,⟨false,[.a (.lit (.bool (dH d.saved)))]⟩),(50,⟨false,[.a (.lit (.bool (d.live.aq==d.saved.aq)))]⟩)] [3,4,52] [] rfl (by(repeat' with_reducible first|exact ah.nil|refine ah.mk ?_ ?_|apply And.intro);(iterate 3 all_goals try first|exact(cX d.live)|exact fun _=>(cX d.saved)|exact fun _=>(jP d.live.aq d.saved.aq))) ?_
 refine W.cond rfl (fun hb0=> ?_) (fun hb0=> ?_)
 ·skip
  refine W.s0 X [2] rfl ⟨⟩ ?_
  refine W.ret ?_
  exact Fin.ret rfl ⟨by rw[show dB d=false from by rw[dB,bD (R:=dH d.live&&dH d.saved&&nK d.live d.saved) hb0 (by simp only[nK,aF]<;>first|rfl|ac_rfl)];rfl],⟨⟩⟩
 ·have hh:(dH d.live&&dH d.saved&&nK d.live d.saved)=true:=bA hb0 (by simp only[nK,aF]<;>first|rfl|ac_rfl)
  refine W.skip ?_
  refine W.sd X [] [(83,⟨false,[.a (.lit (.bool (d.saved.inbox==((d.live.inbox.take (d.saved.inbox.length:Int).toNat).drop (0:Int).toNat))))]⟩)] [2] [] 33 MO (by kernel_rfl) rfl (by(repeat' with_reducible first|exact ah.nil|refine ah.mk ?_ ?_|apply And.intro)<;>first|exact fun _=>(jP d.saved.inbox ((d.live.inbox.take (d.saved.inbox.length:Int).toNat).drop (0:Int).toNat))| ((intro h1;first| (intro h2;first| (intro h3;refine And.intro ?_ ?_)|refine And.intro ?_ ?_)|refine And.intro ?_ ?_)<;>first|omega| ((try simp only[nb,an,au]at*);(try simp(disch:=omega) only[cC]);omega))) ?_
  refine W.ret ?_
  exact Fin.ret rfl ⟨(congrArg Value.bool (by simp only[dB,hh,P2,List.drop_zero,Int.toNat_zero,aF]<;>first|rfl|ac_rfl)),⟨⟩⟩
end
section
set_option maxRecDepth 100000
theorem bM(x:aN):Sound ty Tryz.prog 48 [.agg (ay x)] [.a (.lit (.bool (okW x)))]:=by
 refine Sound.o X Tryz.call48 Tryz.func48 Tryz.ntmps48 rfl rfl ?_
 intro zb
 refine W.bS 0 1 rfl rfl (fun nr=> ?_)
 refine W.bS 0 2 rfl rfl (fun iI=> ?_)
 refine W.s0 X [1] rfl ⟨⟩ ?_
 refine W.seq ?_
 refine W.sd X [] [(10,⟨false,[.a (.lit (.bool (inr x.rows 1 64)))]⟩),(16,⟨false,[.a (.lit (.bool (cE (x.aj.length:Int))))]⟩),(23,⟨false,[.a (.lit (.bool (inr (x.aa.length:Int) 2 8)))]⟩),(36,⟨false,[.a (.lit (.bool (gG x.ak)))]⟩),(50,⟨false,[.a (.lit (.int .i64 (cS x.ak)))]⟩),(58,⟨false,[.a (.lit (.bool (iG x.az)))]⟩),(64,⟨false,[.a (.lit (.bool (inr x.round 0 100000)))]⟩)] [1,71] [] 64 MO (by kernel_rfl) rfl (by(repeat' with_reducible first|exact ah.nil|refine ah.mk ?_ ?_|apply And.intro);(iterate 7 all_goals try first|exact(aE x.rows 1 64)|exact fun _=>(dI (x.aj.length:Int))|exact fun _=>(aE (x.aa.length:Int) 2 8)|exact fun _=>(ko x.ak)|exact fun _=>(kN x.ak)|exact fun _=>(gh x.az)|exact fun _=>(aE x.round 0 100000));all_goals first| (refine fun _=> ?_;dsimp only[hyps,GW];omega)) ?_
 refine W.cond rfl (fun hb0=> ?_) (fun hb0=> ?_)
 ·skip
  refine W.s0 X [2] rfl ⟨⟩ ?_
  refine W.ret ?_
  exact Fin.ret rfl ⟨by rw[show okW x=false from by rw[okW,bD (R:=Lv x) hb0 (by simp only[Lv,aF]<;>first|rfl|ac_rfl)];rfl],⟨⟩⟩
 ·have hh:Lv x=true:=bA hb0 (by simp only[Lv,aF]<;>first|rfl|ac_rfl)
  obtain⟨Un,YR,_⟩:=qi hh
  refine W.skip ?_
  refine W.seq ?_
  refine W.s0 X [1,73,74,75] rfl ⟨⟩ ?_
  refine W.block ?_
  refine W.aI (fun k=>k≤x.aj.length∧(List.range k).all (HY x)=true) (fun k:Nat=> [(75, .one (.a (.lit (.int .i64 k))))]) (fun k=> []) (fun k=>x.aj.length-k) 0 (fun k=>rfl) ⟨Nat.zero_le _,rfl⟩ rfl ?_
  rintro k ⟨hk,hall⟩
  refine W.s0 X [1,73,74,75,76] rfl ⟨⟩ ?_
  refine W.seq ?_
  refine W.cond rfl (fun aD=> ?_) (fun aD=> ?_)
  ·try simp only[nb,an,au,af]at aD
   refine W.skip ?_
   refine W.seq ?_
   refine W.block ?_
   refine W.s0 X [1,3,4,73,74,75] rfl (by and_intros<;>first|exact⟨⟩| (intros;omega)) ?_
   refine W.sr X [] [(81,⟨false,[.a (.lit (.bool (bW (x.aj.getD k (av .aU)))))]⟩)] [1,73,74,75,108] [] rfl (by(repeat' with_reducible first|exact ah.nil|refine ah.mk ?_ ?_|apply And.intro)<;>first|exact(cI (x.aj.getD k (av .aU)))) ?_
   refine W.cond rfl (fun aR=> ?_) (fun aR=> ?_)
   ·have hk2:HY x k=false:=bD aR (by simp only[HY,aF]<;>first|rfl|ac_rfl)
    refine W.s0 X [2] rfl ⟨⟩ ?_
    refine W.ret ?_
    exact Fin.ret rfl ⟨by rw[show okW x=false from by rw[okW,lH aD hk2];simp],⟨⟩⟩
   ·have hk2:HY x k=true:=bA aR (by simp only[HY,aF]<;>first|rfl|ac_rfl)
    refine W.skip ?_
    refine W.r0 X [1,73,74,75] rfl ⟨⟩ ?_
    refine⟨k+1,⟨by omega,jx hall hk2⟩,by omega,?_⟩
    rw[aV _ k rfl (by omega)]
    try rfl
  ·try simp only[nb,an,au,af]at aD
   have oP:(List.range x.aj.length).all (HY x)=true:=by rw[show x.aj.length=k by omega];exact hall
   refine W.exit ?_
   refine W.seq ?_
   refine W.s0 X [1,111,112,113] rfl ⟨⟩ ?_
   refine W.block ?_
   refine W.aI (fun k1=>k1≤x.aa.length∧(List.range k1).all (okD x)=true) (fun k1:Nat=> [(113, .one (.a (.lit (.int .i64 k1))))]) (fun k1=> []) (fun k1=>x.aa.length-k1) 0 (fun k1=>rfl) ⟨Nat.zero_le _,rfl⟩ rfl ?_
   rintro k1 ⟨hk1,Tz⟩
   refine W.s0 X [1,111,112,113,114] rfl ⟨⟩ ?_
   refine W.seq ?_
   refine W.cond rfl (fun dS=> ?_) (fun dS=> ?_)
   ·try simp only[nb,an,au,af]at dS
    have hx:=Ng k1 (by omega)
    have hlt:=P3 k1 x.aa.length dS Un
    refine W.skip ?_
    refine W.seq ?_
    refine W.block ?_
    refine W.s0 X [1,5,6,111,112,113] rfl (by and_intros<;>first|exact⟨⟩| (intros;omega)) ?_
    refine W.s0 X [1,5,6,7,111,112,113] rfl ⟨⟩ ?_
    refine W.sd X [] [(121,⟨false,[.a (.lit (.bool (dB (x.aa.getD k1 (av .aL)))))]⟩)] [1,111,112,113,155] [] 36 MO (by kernel_rfl) rfl (by(repeat' with_reducible first|exact ah.nil|refine ah.mk ?_ ?_|apply And.intro)<;>first|exact(cY (x.aa.getD k1 (av .aL)))| ((intro h1;first| (intro h2;first| (intro h3;refine And.intro ?_ ?_)|refine And.intro ?_ ?_)|refine And.intro ?_ ?_)<;>first|omega| ((try simp only[nb,an,au]at*);(try simp(disch:=omega) only[cC]);omega))) ?_
    refine W.cond rfl (fun hY=> ?_) (fun hY=> ?_)
    ·have Oz:okD x k1=false:=bD hY (by simp only[okD,hx,aF]<;>first|rfl|ac_rfl)
     refine W.s0 X [2] rfl ⟨⟩ ?_
     refine W.ret ?_
     exact Fin.ret rfl ⟨by rw[show okW x=false from by rw[okW,lH dS Oz];simp],⟨⟩⟩
    ·have Oz:okD x k1=true:=bA hY (by simp only[okD,hx,aF]<;>first|rfl|ac_rfl)
     refine W.skip ?_
     refine W.r0 X [1,111,112,113] rfl ⟨⟩ ?_
     refine⟨k1+1,⟨by omega,jx Tz Oz⟩,by omega,?_⟩
     rw[aV _ k1 rfl (by omega)]
     try rfl
   ·try simp only[nb,an,au,af]at dS
    have P4:(List.range x.aa.length).all (okD x)=true:=by rw[show x.aa.length=k1 by omega];exact Tz
    refine W.exit ?_
    refine W.s0 X [2] rfl ⟨⟩ ?_
    refine W.ret ?_
    exact Fin.ret rfl ⟨by rw[okW,hh,oP,P4];rfl,⟨⟩⟩
theorem xm(x:aN):Sound ty Tryz.prog 93 [.agg (ay x)] [.a (.lit (.bool (VW x)))]:=by
 refine Sound.o X Tryz.call93 Tryz.func93 Tryz.ntmps93 rfl rfl ?_
 intro zb
 refine W.bS 0 1 rfl rfl (fun nr=> ?_)
 refine W.bS 0 2 rfl rfl (fun iI=> ?_)
 refine W.s0 X [1] rfl ⟨⟩ ?_
 refine W.seq ?_
 refine W.s0 X [1,3] rfl ⟨⟩ ?_
 refine W.block ?_
 refine W.aI (fun k=>k≤x.aj.length∧(List.range k).all (HY x)=true) (fun k:Nat=> [(3, .one (.a (.lit (.int .i64 k))))]) (fun k=> []) (fun k=>x.aj.length-k) 0 (fun k=>rfl) ⟨Nat.zero_le _,rfl⟩ rfl ?_
 rintro k ⟨hk,hall⟩
 refine W.seq ?_
 refine W.s0 X [1,3,9] rfl ⟨⟩ ?_
 refine W.cond rfl (fun hb0=> ?_) (fun hb0=> ?_)
 ·try simp only[nb,an,au,af]at hb0
  refine W.skip ?_
  refine W.seq ?_
  refine W.block ?_
  refine W.s0 X [1,3,4] rfl (by and_intros<;>first|exact⟨⟩| (intros;omega)) ?_
  refine W.sr X [] [(18,⟨false,[.a (.lit (.bool (bW (x.aj.getD k (av .aU)))))]⟩)] [1,3,45] [] rfl (by(repeat' with_reducible first|exact ah.nil|refine ah.mk ?_ ?_|apply And.intro)<;>first|exact(cJ (x.aj.getD k (av .aU)))) ?_
  refine W.cond rfl (fun aD=> ?_) (fun aD=> ?_)
  ·have hk2:HY x k=false:=bD aD (by simp only[HY,aF]<;>first|rfl|ac_rfl)
   refine W.s0 X [2] rfl ⟨⟩ ?_
   refine W.ret ?_
   exact Fin.ret rfl ⟨by rw[show VW x=false from by rw[VW,lH hb0 hk2];simp],⟨⟩⟩
  ·have hk2:HY x k=true:=bA aD (by simp only[HY,aF]<;>first|rfl|ac_rfl)
   refine W.skip ?_
   refine W.r0 X [1,3] rfl ⟨⟩ ?_
   refine⟨k+1,⟨by omega,jx hall hk2⟩,by omega,?_⟩
   rw[aV _ k rfl (by omega)]
   try rfl
 ·try simp only[nb,an,au,af]at hb0
  have oP:(List.range x.aj.length).all (HY x)=true:=by rw[show x.aj.length=k by omega];exact hall
  refine W.exit ?_
  refine W.sr X [] [(49,⟨false,[.a (.lit (.bool _))]⟩)] [2] [] rfl (by(repeat' with_reducible first|exact ah.nil|refine ah.mk ?_ ?_|apply And.intro)<;>first|exact(gI _)) ?_
  refine W.ret ?_
  exact Fin.ret rfl ⟨by rw[VW,oP];rfl,⟨⟩⟩
theorem xp(x:aN):Sound ty Tryz.prog 94 [.agg (ay x)] [.a (.lit (.bool (Ty x)))]:=by
 refine Sound.o X Tryz.call94 Tryz.func94 Tryz.ntmps94 rfl rfl ?_
 intro zb
 refine W.bS 0 1 rfl rfl (fun nr=> ?_)
 refine W.bS 0 2 rfl rfl (fun iI=> ?_)
 refine W.s0 X [1] rfl ⟨⟩ ?_
 refine W.s0 X [1,3] rfl ⟨⟩ ?_
 refine W.seq ?_
 refine W.sr X [] [(14,⟨false,[.a (.lit (.bool (inr (x.aa.length:Int) 2 8)))]⟩)] [1,3,16] [] rfl (by(repeat' with_reducible first|exact ah.nil|refine ah.mk ?_ ?_|apply And.intro)<;>first|exact fun _=>(aP (x.aa.length:Int) 2 8)| (intros;omega)) ?_
 refine W.cond rfl (fun hb0=> ?_) (fun hb0=> ?_)
 ·skip
  refine W.s0 X [2] rfl ⟨⟩ ?_
  refine W.ret ?_
  exact Fin.ret rfl ⟨by rw[show Ty x=false from by rw[Ty,bD (R:=((x.aa.length:Int).tmod 2==0)&&inr x.aa.length 2 8) hb0 (by simp only[aF]<;>first|rfl|ac_rfl)];rfl],⟨⟩⟩
 ·have hh:(((x.aa.length:Int).tmod 2==0)&&inr x.aa.length 2 8)=true:=bA hb0 (by simp only[aF]<;>first|rfl|ac_rfl)
  have Un:x.aa.length % 2=0:=by simp only[Bool.and_eq_true,beq_iff_eq]at hh;have:=hh.1;rw[dX (by omega)]at this;omega
  have YR:x.aa.length≤8:=by simp only[Bool.and_eq_true,an]at hh;omega
  refine W.skip ?_
  refine W.seq ?_
  refine W.s0 X [1,3,4] rfl ⟨⟩ ?_
  refine W.block ?_
  refine W.aI (fun k=>k≤x.aa.length∧(List.range k).all (okD x)=true) (fun k:Nat=> [(4, .one (.a (.lit (.int .i64 k))))]) (fun k=> []) (fun k=>x.aa.length-k) 0 (fun k=>rfl) ⟨Nat.zero_le _,rfl⟩ rfl ?_
  rintro k ⟨hk,hall⟩
  refine W.seq ?_
  refine W.s0 X [1,3,4,19] rfl ⟨⟩ ?_
  refine W.cond rfl (fun aD=> ?_) (fun aD=> ?_)
  ·try simp only[nb,an,au,af]at aD
   have hx:=Ng k (by omega)
   have hlt:=P3 k x.aa.length aD Un
   refine W.skip ?_
   refine W.seq ?_
   refine W.block ?_
   refine W.s0 X [1,3,4,5] rfl (by and_intros<;>first|exact⟨⟩| (intros;omega)) ?_
   refine W.sd X [] [(28,⟨false,[.a (.lit (.bool (dB (x.aa.getD k (av .aL)))))]⟩)] [1,3,4,66] [] 40 MO (by kernel_rfl) rfl (by(repeat' with_reducible first|exact ah.nil|refine ah.mk ?_ ?_|apply And.intro)<;>first|exact(cZ (x.aa.getD k (av .aL)))| ((intro h1;first| (intro h2;first| (intro h3;refine And.intro ?_ ?_)|refine And.intro ?_ ?_)|refine And.intro ?_ ?_)<;>first|omega| ((try simp only[nb,an,au]at*);(try simp(disch:=omega) only[cC]);omega))) ?_
   refine W.cond rfl (fun aR=> ?_) (fun aR=> ?_)
   ·have Oz:okD x k=false:=bD aR (by simp only[okD,hx,aF]<;>first|rfl|ac_rfl)
    refine W.s0 X [2] rfl ⟨⟩ ?_
    refine W.ret ?_
    exact Fin.ret rfl ⟨by rw[show Ty x=false from by rw[Ty,lH aD Oz];simp],⟨⟩⟩
   ·have Oz:okD x k=true:=bA aR (by simp only[okD,hx,aF]<;>first|rfl|ac_rfl)
    refine W.skip ?_
    refine W.r0 X [1,3,4] rfl ⟨⟩ ?_
    refine⟨k+1,⟨by omega,jx hall Oz⟩,by omega,?_⟩
    rw[aV _ k rfl (by omega)]
    try rfl
  ·try simp only[nb,an,au,af]at aD
   have P4:(List.range x.aa.length).all (okD x)=true:=by rw[show x.aa.length=k by omega];exact hall
   refine W.exit ?_
   refine W.s0 X [2] rfl ⟨⟩ ?_
   refine W.ret ?_
   exact Fin.ret rfl ⟨by rw[Ty,hh,P4];rfl,⟨⟩⟩
theorem bY(x:aN):Sound ty Tryz.prog 41 [.agg (ay x)] [.a (.lit (.bool (okW x)))]:=by
 refine Sound.o X Tryz.call41 Tryz.func41 Tryz.ntmps41 rfl rfl ?_
 intro zb
 refine W.s0 X [1] rfl ⟨⟩ ?_
 refine W.sd X [] [(5,⟨false,[.a (.lit (.bool (inr x.rows 1 64)))]⟩),(9,⟨false,[.a (.lit (.bool (inr x.round 0 100000)))]⟩),(13,⟨false,[.a (.lit (.bool (VW x)))]⟩),(17,⟨false,[.a (.lit (.bool (Ty x)))]⟩),(22,⟨false,[.a (.lit (.bool (gG x.ak)))]⟩),(35,⟨false,[.a (.lit (.int .i64 (cS x.ak)))]⟩),(43,⟨false,[.a (.lit (.bool (iG x.az)))]⟩)] [2] [] 48 MO (by kernel_rfl) rfl (by(repeat' with_reducible first|exact ah.nil|refine ah.mk ?_ ?_|apply And.intro);(iterate 7 all_goals try first|exact(aP x.rows 1 64)|exact fun _=>(aP x.round 0 100000)|exact fun _=>(xm x)|exact fun _=>(xp x)|exact fun _=>(kq x.ak)|exact fun _=>(kO x.ak)|exact fun _=>(gj x.az))) ?_
 refine W.ret ?_
 exact Fin.ret rfl ⟨(congrArg Value.bool (by simp only[okW,Lv,VW,Ty,aF]<;>first|rfl|ac_rfl)),⟨⟩⟩
theorem AI(key c:Int)(p:Plain):Sound ty Tryz.prog 325 [.a (.lit (.int .i64 key)), .a (.lit (.int .i64 c)), .agg (eB p)] [.a (.sl .u8 (oM key c p)), .a (.lit (.bool (gF key c p)))]:=by
 refine Sound.o X Tryz.call325 Tryz.func325 Tryz.ntmps325 rfl rfl ?_
 intro zb
 refine W.s0 X [0,1,5] rfl ⟨⟩ ?_
 refine W.seq ?_
 refine W.sr X [] [(11,⟨false,[.a (.lit (.bool (iG key)))]⟩),(15,⟨false,[.a (.lit (.bool (inr c 0 1000000000000)))]⟩),(20,⟨false,[.a (.lit (.bool (iN p)))]⟩)] [0,1,5,22] [] rfl (by(repeat' with_reducible first|exact ah.nil|refine ah.mk ?_ ?_|apply And.intro);(iterate 3 all_goals try first|exact(gh key)|exact fun _=>(aE c 0 1000000000000)|exact fun _=>(l6 p))) ?_
 refine W.cond rfl (fun hb0=> ?_) (fun hb0=> ?_)
 ·have hk:gF key c p=false:=bD hb0 (by simp only[gF,aF]<;>first|rfl|ac_rfl)
  refine W.s0 X [6,7] rfl ⟨⟩ ?_
  refine W.ret ?_
  exact Fin.ret rfl ⟨by rw[oM,if_neg (by rw[hk];decide)],by rw[hk],⟨⟩⟩
 ·have hk:gF key c p=true:=bA hb0 (by simp only[gF,aF]<;>first|rfl|ac_rfl)
  have hp:=nL hk
  have hst:(stream (kh key [61,c]) (18:Int).toNat).length=18:=eJ _ _
  have oy:(eO key c p).length≤100:=by unfold eO;simp only[List.length_append,List.length_drop,List.length_cons,List.length_nil,eJ];omega
  have hf4:(four (ia key c (kK (kL key c) (eO key c p)))).length=4:=rfl
  have hel:(kK (kL key c) (eO key c p)).length≤100:=by rw[iF];exact oy
  refine W.skip ?_
  refine W.sr X [(33,30)] [] [0,1,5,8] [] rfl (by and_intros<;>first|exact⟨⟩|exact rfl|exact(qc _).1|exact(qc _).2| (simp only[cN,maxLen,lens];omega)) ?_
  refine W.sd X [(44,30)] [(38,⟨false,[.a (.lit (.int .i64 (kh key [61,c])))]⟩),(39,⟨true,[.a (.sl .u8 (stream (kh key [61,c]) (18:Int).toNat))]⟩)] [0,1,8] [] 10 MO (by kernel_rfl) rfl (by(repeat' with_reducible first|exact ah.nil|refine ah.mk ?_ ?_|apply And.intro);(iterate 2 all_goals try first|exact(bt key [61,c] (by first|assumption|omega| (simp;done)| (simp;omega)))|exact(je (kh key [61,c]) 18 (by first|assumption|omega| (simp;done)| (simp;omega)) (by first|assumption|omega| (simp;done)| (simp;omega))));all_goals first| (intros;omega)|exact rfl|exact⟨rfl,bH _ (by decide)⟩| (simp only[cN,maxLen,lens];omega)) ?_
  refine W.sr X [] [(47,⟨false,[.a (.lit (.int .i64 (kL key c)))]⟩),(49,⟨true,[.a (.sl .u8 (kK (kL key c) (eO key c p)))]⟩)] [0,1,9] [] rfl (by(repeat' with_reducible first|exact ah.nil|refine ah.mk ?_ ?_|apply And.intro);(iterate 2 all_goals try first|exact(sn key c)|exact(CE (kL key c) (eO key c p) (by first|assumption|omega| (simp;done)| (simp;omega))))) ?_
  refine W.sr X [(55,49)] [(54,⟨true,[.a (.sl .u8 (four (ia key c (kK (kL key c) (eO key c p)))))]⟩)] [6,7] [] rfl (by(repeat' with_reducible first|exact ah.nil|refine ah.mk ?_ ?_|apply And.intro)<;>first|exact(nI key c (kK (kL key c) (eO key c p)) (by first|assumption|omega| (simp;done)| (simp;omega)))|exact rfl| (simp only[cN,maxLen,lens];omega)) ?_
  refine W.ret ?_
  exact Fin.ret rfl ⟨by rw[oM,if_pos hk],by rw[hk],⟨⟩⟩
theorem AJ(key c:Int)(p:Plain):Sound ty Tryz.prog 337 [.a (.lit (.int .i64 key)), .a (.lit (.int .i64 c)), .agg (eB p)] [.a (.sl .u8 (oM key c p)), .a (.lit (.bool (gF key c p)))]:=by
 refine Sound.o X Tryz.call337 Tryz.func337 Tryz.ntmps337 rfl rfl ?_
 intro zb
 refine W.s0 X [0,1,5] rfl ⟨⟩ ?_
 refine W.seq ?_
 refine W.sr X [] [(12,⟨false,[.a (.lit (.bool (iG key)))]⟩),(16,⟨false,[.a (.lit (.bool (inr c 0 1000000000000)))]⟩),(21,⟨false,[.a (.lit (.bool (iN p)))]⟩)] [0,1,5,23] [] rfl (by(repeat' with_reducible first|exact ah.nil|refine ah.mk ?_ ?_|apply And.intro);(iterate 3 all_goals try first|exact(gj key)|exact fun _=>(aP c 0 1000000000000)|exact fun _=>(ud p))) ?_
 refine W.cond rfl (fun hb0=> ?_) (fun hb0=> ?_)
 ·have hk:gF key c p=false:=bD hb0 (by simp only[gF,aF]<;>first|rfl|ac_rfl)
  refine W.s0 X [6,7] rfl (by and_intros<;>first|exact⟨⟩|exact rfl) ?_
  refine W.ret ?_
  exact Fin.ret rfl ⟨by rw[oM,if_neg (by rw[hk];decide)],by rw[hk],⟨⟩⟩
 ·have hk:gF key c p=true:=bA hb0 (by simp only[gF,aF]<;>first|rfl|ac_rfl)
  have hp:=nL hk
  have hst:(stream (kh key [61,c]) (18:Int).toNat).length=18:=eJ _ _
  have oy:(eO key c p).length≤100:=by unfold eO;simp only[List.length_append,List.length_drop,List.length_cons,List.length_nil,eJ];omega
  have hf4:(four (ia key c (kK (kL key c) (eO key c p)))).length=4:=rfl
  have hel:(kK (kL key c) (eO key c p)).length≤100:=by rw[iF];exact oy
  refine W.skip ?_
  refine W.sr X [(35,32)] [] [0,1,5,8] [] rfl (by and_intros<;>first|exact⟨⟩|exact rfl|exact(qc _).1|exact(qc _).2| (simp only[cN,maxLen,lens];omega)) ?_
  refine W.sd X [(46,32)] [(40,⟨false,[.a (.lit (.int .i64 (kh key [61,c])))]⟩),(41,⟨true,[.a (.sl .u8 (stream (kh key [61,c]) (18:Int).toNat))]⟩)] [0,1,8] [] 10 MO (by kernel_rfl) rfl (by(repeat' with_reducible first|exact ah.nil|refine ah.mk ?_ ?_|apply And.intro);(iterate 2 all_goals try first|exact(bu key [61,c] (by first|assumption|omega| (simp;done)| (simp;omega)))|exact(jf (kh key [61,c]) 18 (by first|assumption|omega| (simp;done)| (simp;omega)) (by first|assumption|omega| (simp;done)| (simp;omega))));all_goals first| (intros;omega)|exact rfl|exact⟨rfl,bH _ (by decide)⟩| (simp only[cN,maxLen,lens];omega)) ?_
  refine W.sr X [] [(49,⟨false,[.a (.lit (.int .i64 (kL key c)))]⟩),(51,⟨true,[.a (.sl .u8 (kK (kL key c) (eO key c p)))]⟩)] [0,1,9] [] rfl (by(repeat' with_reducible first|exact ah.nil|refine ah.mk ?_ ?_|apply And.intro);(iterate 2 all_goals try first|exact(oO key c)|exact(CG (kL key c) (eO key c p) (by first|assumption|omega| (simp;done)| (simp;omega))))) ?_
  refine W.sr X [] [(55,⟨false,[.a (.lit (.int .i64 (ia key c (kK (kL key c) (eO key c p)))))]⟩)] [9,10] [] rfl (by(repeat' with_reducible first|exact ah.nil|refine ah.mk ?_ ?_|apply And.intro)<;>first|exact(oN key c (kK (kL key c) (eO key c p)) (by first|assumption|omega| (simp;done)| (simp;omega)))) ?_
  refine W.sr X [(69,51)] [] [6,7] [] rfl (by and_intros<;>first|exact⟨⟩| (intros;omega)|exact rfl|exact(qc _).1|exact(qc _).2| (simp only[cN,maxLen,lens];omega)) ?_
  refine W.ret ?_
  exact Fin.ret rfl ⟨(congrArg (fun z=>kK (kL key c) (eO key c p)++z) (Lu _)).trans (by rw[oM,if_pos hk]),by rw[hk],⟨⟩⟩
theorem eF(x:aN)(c:Int):Sound ty Tryz.prog 86 [.agg (ay x), .a (.lit (.int .i64 c))] [.a (.lit (.bool (jh x c)))]:=by
 refine Sound.o X Tryz.call86 Tryz.func86 Tryz.ntmps86 rfl rfl ?_
 intro zb
 refine W.bS 0 2 rfl rfl (fun iI=> ?_)
 refine W.s0 X [1,2] rfl ⟨⟩ ?_
 refine W.sr X [] [(10,⟨false,[.a (.lit (.bool _))]⟩)] [4] [] rfl (by(repeat' with_reducible first|exact ah.nil|refine ah.mk ?_ ?_|apply And.intro)<;>first|exact(aE _ _ _)) ?_
 refine W.ret ?_
 exact Fin.ret rfl ⟨by rw[cC (by omega)];rfl,⟨⟩⟩
theorem fA(c:dV):Sound ty Tryz.prog 210 [.agg (aX c)] [.a (.lit (.int .i64 (bK c)))]:=by
 refine Sound.o X Tryz.call210 Tryz.func210 Tryz.ntmps210 rfl rfl ?_
 intro zb
 refine W.s0 X [1] rfl ⟨⟩ ?_
 refine W.seq ?_
 refine W.s0 X [7] rfl ⟨⟩ ?_
 refine W.cond rfl (fun hb0=> ?_) (fun hb0=> ?_)
 ·try simp only[nb,an,au,af]at hb0
  refine W.s0 X [2] rfl ⟨⟩ ?_
  refine W.ret ?_
  exact Fin.ret rfl ⟨by rw[bK,if_pos hb0],⟨⟩⟩
 ·try simp only[nb,an,au,af]at hb0
  refine W.skip ?_
  refine W.s0 X [2] rfl ⟨⟩ ?_
  refine W.ret ?_
  exact Fin.ret rfl ⟨by rw[bK,if_neg (by omega)],⟨⟩⟩
theorem mU(c:dV)(a:Int)(h0:0≤a)(h1:a<c.aq.length):Sound ty Tryz.prog 276 [.agg (aX c), .a (.lit (.int .i64 a))] [.a (.sl .u8 (oR c a))]:=by
 refine Sound.o X Tryz.call276 Tryz.func276 Tryz.ntmps276 rfl rfl ?_
 intro zb
 refine W.s0 X [1,2] rfl ⟨⟩ ?_
 refine W.sd X [] [(11,⟨false,[.a (.lit (.int .i64 (bK c)))]⟩),(12,⟨false,[.a (.lit (.int .i64 (jg c.key (bK c))))]⟩),(20,⟨true,[.a (.sl .u8 (oM (jg c.key (bK c)) a (⟨1,(c.aq.getD (a).toNat (av (.sl .u8)))⟩:Plain))), .a (.lit (.bool (gF (jg c.key (bK c)) a (⟨1,(c.aq.getD (a).toNat (av (.sl .u8)))⟩:Plain))))]⟩)] [5] [] 18 MO (by kernel_rfl) rfl (by(repeat' with_reducible first|exact ah.nil|refine ah.mk ?_ ?_|apply And.intro);(iterate 3 all_goals try first|exact(fA c)|exact(ig c.key (bK c))|exact(AI (jg c.key (bK c)) a (⟨1,(c.aq.getD (a).toNat (av (.sl .u8)))⟩:Plain)));all_goals first| (intros;omega)) ?_
 refine W.s0 X [4] rfl ⟨⟩ ?_
 refine W.ret ?_
 exact Fin.ret rfl ⟨rfl,⟨⟩⟩
theorem vB(c:dV)(r n:Int):Sound ty Tryz.prog 197 [.agg (aX c), .a (.lit (.int .i64 r)), .a (.lit (.int .i64 n))] [.a (.lit (.int .i64 (jS c r n))), .a (.sl .u8 (eP c r n)), .a (.lit (.bool (mw c r n)))]:=by
 refine Sound.o X Tryz.call197 Tryz.func197 Tryz.ntmps197 rfl rfl ?_
 intro zb
 refine W.bS 0 4 rfl rfl (fun jr=> ?_)
 refine W.s0 X [1,2,3] rfl ⟨⟩ ?_
 refine W.seq ?_
 refine W.sr X [] [(10,⟨false,[.a (.lit (.bool (dH c)))]⟩),(14,⟨false,[.a (.lit (.bool (inr r 0 100000)))]⟩),(19,⟨false,[.a (.lit (.bool (inr n 1 64)))]⟩)] [1,2,3,21] [] rfl (by(repeat' with_reducible first|exact ah.nil|refine ah.mk ?_ ?_|apply And.intro);(iterate 3 all_goals try first|exact(cW c)|exact fun _=>(aE r 0 100000)|exact fun _=>(aE n 1 64))) ?_
 refine W.cond rfl (fun hb0=> ?_) (fun hb0=> ?_)
 ·have hk:mw c r n=false:=bD hb0 (by simp only[mw,aF]<;>first|rfl|ac_rfl)
  refine W.s0 X [6,7,8] rfl ⟨⟩ ?_
  refine W.ret ?_
  exact Fin.ret rfl ⟨by rw[jS,if_neg (by rw[hk];decide)],by rw[eP,if_neg (by rw[hk];decide)],by rw[hk],⟨⟩⟩
 ·have hk:mw c r n=true:=bA hb0 (by simp only[mw,aF]<;>first|rfl|ac_rfl)
  have hs:=yY hk
  refine W.skip ?_
  refine W.seq ?_
  refine W.s0 X [1,2,3,27] rfl ⟨⟩ ?_
  refine W.cond rfl (fun aD=> ?_) (fun aD=> ?_)
  ·try simp only[nb,an,au,af]at aD
   refine W.sd X [] [(32,⟨false,[.a (.lit (.int .i64 (bK c)))]⟩),(34,⟨false,[.a (.lit (.int .i64 (dY c.key r (bK c) n)))]⟩),(38,⟨true,[.a (.sl .u8 (oR c c.sent))]⟩)] [6,7,8] [] 14 MO (by kernel_rfl) rfl (by(repeat' with_reducible first|exact ah.nil|refine ah.mk ?_ ?_|apply And.intro);(iterate 3 all_goals try first|exact(fA c)|exact(jM c.key r (bK c) n)|exact(mU c c.sent (by first|assumption|omega| (simp;done)| (simp;omega)) (by first|assumption|omega| (simp;done)| (simp;omega))))) ?_
   refine W.ret ?_
   exact Fin.ret rfl ⟨by rw[jS,if_pos hk,if_pos aD],by rw[eP,if_pos hk,if_pos aD],by rw[hk],⟨⟩⟩
  ·try simp only[nb,an,au,af]at aD
   refine W.skip ?_
   refine W.sd X [] [(43,⟨false,[.a (.lit (.int .i64 (AE c.seed r n)))]⟩),(48,⟨false,[.a (.lit (.int .i64 (kh c.seed [r])))]⟩),(49,⟨true,[.a (.sl .u8 (cover (kh c.seed [r])))]⟩)] [6,7,8] [] 14 MO (by kernel_rfl) rfl (by(repeat' with_reducible first|exact ah.nil|refine ah.mk ?_ ?_|apply And.intro);(iterate 3 all_goals try first|exact(AF c.seed r n)|exact(bt c.seed [r] (by first|assumption|omega| (simp;done)| (simp;omega)))|exact(yU (kh c.seed [r])));all_goals first|exact⟨rfl,bH _ (by decide)⟩) ?_
   refine W.ret ?_
   exact Fin.ret rfl ⟨by rw[jS,if_pos hk,if_neg (by omega)],by rw[eP,if_pos hk,if_neg (by omega)],by rw[hk],⟨⟩⟩
theorem dZ(c:dV):Sound ty Tryz.prog 250 [.agg (aX c)] [.a (.lit (.int .i64 (bK c)))]:=by
 refine Sound.o X Tryz.call250 Tryz.func250 Tryz.ntmps250 rfl rfl ?_
 intro zb
 refine W.s0 X [1] rfl ⟨⟩ ?_
 refine W.seq ?_
 refine W.s0 X [7] rfl ⟨⟩ ?_
 refine W.cond rfl (fun hb0=> ?_) (fun hb0=> ?_)
 ·try simp only[nb,an,au,af]at hb0
  refine W.s0 X [2] rfl ⟨⟩ ?_
  refine W.ret ?_
  exact Fin.ret rfl ⟨by rw[bK,if_pos hb0],⟨⟩⟩
 ·try simp only[nb,an,au,af]at hb0
  refine W.skip ?_
  refine W.s0 X [2] rfl ⟨⟩ ?_
  refine W.ret ?_
  exact Fin.ret rfl ⟨by rw[bK,if_neg (by omega)],⟨⟩⟩
theorem sq(c:dV)(h0:0≤c.sent)(h1:c.sent<c.aq.length):Sound ty Tryz.prog 304 [.agg (aX c)] [.a (.sl .u8 (oR c c.sent))]:=by
 refine Sound.o X Tryz.call304 Tryz.func304 Tryz.ntmps304 rfl rfl ?_
 intro zb
 refine W.s0 X [1] rfl ⟨⟩ ?_
 refine W.sd X [] [(9,⟨false,[.a (.lit (.int .i64 (bK c)))]⟩),(10,⟨false,[.a (.lit (.int .i64 (jg c.key (bK c))))]⟩),(20,⟨true,[.a (.sl .u8 (oM (jg c.key (bK c)) c.sent (⟨1,(c.aq.getD (c.sent).toNat (av (.sl .u8)))⟩:Plain))), .a (.lit (.bool (gF (jg c.key (bK c)) c.sent (⟨1,(c.aq.getD (c.sent).toNat (av (.sl .u8)))⟩:Plain))))]⟩)] [3] [] 20 MO (by kernel_rfl) rfl (by(repeat' with_reducible first|exact ah.nil|refine ah.mk ?_ ?_|apply And.intro);(iterate 3 all_goals try first|exact(dZ c)|exact(ij c.key (bK c))|exact(AJ (jg c.key (bK c)) c.sent (⟨1,(c.aq.getD (c.sent).toNat (av (.sl .u8)))⟩:Plain)));all_goals first| (intros;omega)) ?_
 refine W.s0 X [2] rfl ⟨⟩ ?_
 refine W.ret ?_
 exact Fin.ret rfl ⟨rfl,⟨⟩⟩
theorem vC(c:dV)(r n:Int):Sound ty Tryz.prog 243 [.agg (aX c), .a (.lit (.int .i64 r)), .a (.lit (.int .i64 n))] [.a (.lit (.int .i64 (jS c r n))), .a (.sl .u8 (eP c r n)), .a (.lit (.bool (mw c r n)))]:=by
 refine Sound.o X Tryz.call243 Tryz.func243 Tryz.ntmps243 rfl rfl ?_
 intro zb
 refine W.bS 0 4 rfl rfl (fun jr=> ?_)
 refine W.s0 X [1,2,3] rfl ⟨⟩ ?_
 refine W.seq ?_
 refine W.sr X [] [(10,⟨false,[.a (.lit (.bool (dH c)))]⟩),(14,⟨false,[.a (.lit (.bool (inr r 0 100000)))]⟩),(19,⟨false,[.a (.lit (.bool (inr n 1 64)))]⟩)] [1,2,3,21] [] rfl (by(repeat' with_reducible first|exact ah.nil|refine ah.mk ?_ ?_|apply And.intro);(iterate 3 all_goals try first|exact(cX c)|exact fun _=>(aP r 0 100000)|exact fun _=>(aP n 1 64))) ?_
 refine W.cond rfl (fun hb0=> ?_) (fun hb0=> ?_)
 ·have hk:mw c r n=false:=bD hb0 (by simp only[mw,aF]<;>first|rfl|ac_rfl)
  refine W.s0 X [6,7,8] rfl (by and_intros<;>first|exact⟨⟩|exact rfl) ?_
  refine W.ret ?_
  exact Fin.ret rfl ⟨by rw[jS,if_neg (by rw[hk];decide)],by rw[eP,if_neg (by rw[hk];decide)],by rw[hk],⟨⟩⟩
 ·have hk:mw c r n=true:=bA hb0 (by simp only[mw,aF]<;>first|rfl|ac_rfl)
  have hs:=yY hk
  refine W.skip ?_
  refine W.seq ?_
  refine W.s0 X [1,2,3,28] rfl ⟨⟩ ?_
  refine W.cond rfl (fun aD=> ?_) (fun aD=> ?_)
  ·try simp only[nb,an,au,af]at aD
   refine W.sd X [] [(33,⟨false,[.a (.lit (.int .i64 (bK c)))]⟩),(35,⟨false,[.a (.lit (.int .i64 (dY c.key r (bK c) n)))]⟩),(37,⟨true,[.a (.sl .u8 (oR c c.sent))]⟩)] [6,7,8] [] 12 MO (by kernel_rfl) rfl (by(repeat' with_reducible first|exact ah.nil|refine ah.mk ?_ ?_|apply And.intro);(iterate 3 all_goals try first|exact(dZ c)|exact(jN c.key r (bK c) n)|exact(sq c (by first|assumption|omega| (simp;done)| (simp;omega)) (by first|assumption|omega| (simp;done)| (simp;omega))))) ?_
   refine W.ret ?_
   exact Fin.ret rfl ⟨by rw[jS,if_pos hk,if_pos aD],by rw[eP,if_pos hk,if_pos aD],by rw[hk],⟨⟩⟩
  ·try simp only[nb,an,au,af]at aD
   refine W.skip ?_
   refine W.sd X [] [(42,⟨false,[.a (.lit (.int .i64 (AE c.seed r n)))]⟩),(47,⟨false,[.a (.lit (.int .i64 (kh c.seed [r])))]⟩),(48,⟨true,[.a (.sl .u8 (cover (kh c.seed [r])))]⟩)] [6,7,8] [] 14 MO (by kernel_rfl) rfl (by(repeat' with_reducible first|exact ah.nil|refine ah.mk ?_ ?_|apply And.intro);(iterate 3 all_goals try first|exact(AG c.seed r n)|exact(bu c.seed [r] (by first|assumption|omega| (simp;done)| (simp;omega)))|exact(yV (kh c.seed [r])));all_goals first|exact⟨rfl,bH _ (by decide)⟩) ?_
   refine W.ret ?_
   exact Fin.ret rfl ⟨by rw[jS,if_pos hk,if_neg (by omega)],by rw[eP,if_pos hk,if_neg (by omega)],by rw[hk],⟨⟩⟩
end
section
set_option maxRecDepth 100000
theorem sx(x:Int):Sound ty Tryz.prog 336 [.a (.lit (.int .i64 x))] [.a (.lit (.bool (!inr x 0 1)))]:=by
 refine Sound.o X Tryz.call336 Tryz.func336 Tryz.ntmps336 rfl rfl ?_
 intro zb
 refine W.s0 X [0] rfl ⟨⟩ ?_
 refine W.sr X [] [(4,⟨false,[.a (.lit (.bool _))]⟩)] [2] [] rfl (by(repeat' with_reducible first|exact ah.nil|refine ah.mk ?_ ?_|apply And.intro)<;>first|exact(aE _ _ _)) ?_
 refine W.ret ?_
 exact Fin.ret rfl ⟨rfl,⟨⟩⟩
theorem ji(v:List Int)(rows:Int):Sound ty Tryz.prog 296 [.a (.sl .int v), .a (.lit (.int .i64 rows))] [.a (.lit (.bool (fM v rows)))]:=by
 refine Sound.o X Tryz.call296 Tryz.func296 Tryz.ntmps296 rfl rfl ?_
 intro zb
 refine W.s0 X [0,1] rfl ⟨⟩ ?_
 refine W.sr X [] [(6,⟨false,[.a (.lit (.bool (inr rows 0 64)))]⟩),(15,⟨false,[.a (.lit (.bool (v.any fun x=> !inr x 0 1)))]⟩)] [4] [] rfl (by(repeat' with_reducible first|exact ah.nil|refine ah.mk ?_ ?_|apply And.intro);(iterate 2 all_goals try first|exact(aE rows 0 64)|exact fun _=>(lI _ _ _ sx))) ?_
 refine W.ret ?_
 exact Fin.ret rfl ⟨by rw[Kc];exact(congrArg Value.bool (by simp only[aF]<;>first|rfl|ac_rfl)),⟨⟩⟩
theorem jj(v:List Int)(rows:Int):Sound ty Tryz.prog 321 [.a (.sl .int v), .a (.lit (.int .i64 rows))] [.a (.lit (.bool (fM v rows)))]:=by
 refine Sound.o X Tryz.call321 Tryz.func321 Tryz.ntmps321 rfl rfl ?_
 intro zb
 refine W.bound 0 rfl (fun jr=> ?_)
 refine W.s0 X [0,1] rfl ⟨⟩ ?_
 refine W.seq ?_
 refine W.s0 X [0,1,5] rfl ⟨⟩ ?_
 refine W.block ?_
 refine W.aI (fun k=>k≤v.length∧(v.take k).all (fun x=>inr x 0 1)=true) (fun k:Nat=> [(5, .one (.a (.lit (.int .i64 k))))]) (fun k=> []) (fun k=>v.length-k) 0 (fun k=>rfl) ⟨Nat.zero_le _,rfl⟩ rfl ?_
 rintro k ⟨hk,hall⟩
 refine W.seq ?_
 refine W.s0 X [0,1,5,9] rfl ⟨⟩ ?_
 refine W.cond rfl (fun hb0=> ?_) (fun hb0=> ?_)
 ·try simp only[nb,an,au,af]at hb0
  refine W.skip ?_
  refine W.seq ?_
  refine W.block ?_
  refine W.sr X [] [(16,⟨false,[.a (.lit (.bool (inr (v.getD k (av .int)) 0 1)))]⟩)] [0,1,5,17] [] rfl (by(repeat' with_reducible first|exact ah.nil|refine ah.mk ?_ ?_|apply And.intro)<;>first|exact(aP (v.getD k (av .int)) 0 1)| (intros;omega)) ?_
  refine W.cond rfl (fun aD=> ?_) (fun aD=> ?_)
  ·skip
   refine W.s0 X [4] rfl ⟨⟩ ?_
   refine W.ret ?_
   exact Fin.ret rfl ⟨by rw[fM,J9 _ _ (av .int) k hb0 (by simpa using aD)];simp,⟨⟩⟩
  ·skip
   refine W.skip ?_
   refine W.r0 X [0,1,5] rfl ⟨⟩ ?_
   refine⟨k+1,⟨by omega,by rw[CC _ _ _ (av .int) hb0,hall];simpa using aD⟩,by omega,?_⟩
   rw[aV _ k rfl (by omega)]
   try rfl
 ·try simp only[nb,an,au,af]at hb0
  refine W.exit ?_
  refine W.s0 X [4] rfl ⟨⟩ ?_
  refine W.ret ?_
  exact Fin.ret rfl ⟨by rw[List.take_of_length_le hb0]at hall;rw[fM,hall];exact(congrArg Value.bool (by simp only[aF]<;>first|rfl|ac_rfl)),⟨⟩⟩
theorem jU(sd rows:Int):Sound ty Tryz.prog 133 [.a (.lit (.int .i64 sd)), .a (.lit (.int .i64 rows))] [.a (.sl .int (bC sd rows))]:=by
 refine Sound.o X Tryz.call133 Tryz.func133 Tryz.ntmps133 rfl rfl ?_
 intro zb
 refine W.s0 X [0,1] rfl ⟨⟩ ?_
 refine W.seq ?_
 refine W.sr X [] [(9,⟨false,[.a (.lit (.bool (inr rows 0 64)))]⟩)] [0,1,10] [] rfl (by(repeat' with_reducible first|exact ah.nil|refine ah.mk ?_ ?_|apply And.intro)<;>first|exact(aE rows 0 64)) ?_
 refine W.cond rfl (fun hb0=> ?_) (fun hb0=> ?_)
 ·try simp only[nb,an,au,af]at hb0
  refine W.s0 X [4] rfl ⟨⟩ ?_
  refine W.ret ?_
  exact Fin.ret rfl ⟨by rw[bC,if_neg (by omega)],⟨⟩⟩
 ·try simp only[nb,an,au,af]at hb0
  refine W.skip ?_
  refine W.s0 X [0,1,5] rfl (by and_intros<;>first|exact⟨⟩|exact rfl) ?_
  refine W.seq ?_
  refine W.s0 X [0,5,12,13] rfl ⟨⟩ ?_
  refine W.block ?_
  refine W.aI (fun k=>k≤rows.toNat) (fun k:Nat=> [(13, .one (.a (.lit (.int .i64 k))))]) (fun k=> [(11, .arr .int ((bC sd rows).take k))]) (fun k=>rows.toNat-k) 0 (fun k=>rfl) (Nat.zero_le _) rfl ?_
  intro k hk
  have hle:=aZ (bC sd rows) k
  have hrl:=gJ sd rows
  refine W.s0 X [0,5,12,13,14] rfl ⟨⟩ ?_
  refine W.seq ?_
  refine W.cond rfl (fun aD=> ?_) (fun aD=> ?_)
  ·try simp only[nb,an,au,af]at aD
   have hs:=xq sd rows k (by omega) (by omega)
   refine W.skip ?_
   refine W.seq ?_
   refine W.block ?_
   refine W.s0 X [0,5,6,12,13] rfl ⟨⟩ ?_
   refine W.sr X [] [(19,⟨false,[.a (.lit (.int .i64 (kh sd [(k:Int),41])))]⟩)] [0,5,7,12,13] [] rfl (by(repeat' with_reducible first|exact ah.nil|refine ah.mk ?_ ?_|apply And.intro)<;>first|exact(bt sd [(k:Int),41] (by first|assumption|omega| (simp;done)| (simp;omega)))|exact⟨rfl,bH _ (by decide)⟩) ?_
   refine W.fH X [(28,11)] [] [0,5,12,13] [] rfl (by and_intros<;>first|exact⟨⟩| (intros;omega)|exact rfl| (simp only[cN,maxLen,lens];omega)) ?_
   refine W.r0 X [0,5,12,13] rfl ⟨⟩ ?_
   refine⟨k+1,by omega,by omega,?_⟩
   rw[aV _ k rfl (by omega),hs]
   try rfl
  ·try simp only[nb,an,au,af]at aD
   refine W.exit ?_
   refine W.s0 X [4] rfl ⟨⟩ ?_
   refine W.ret ?_
   exact Fin.ret rfl ⟨by rw[Al _ _ _ (by omega)],⟨⟩⟩
theorem sy(rows i:Int):Sound ty Tryz.prog 287 [.a (.lit (.int .i64 rows)), .a (.lit (.int .i64 i))] [.a (.sl .int (xw rows i))]:=by
 refine Sound.o X Tryz.call287 Tryz.func287 Tryz.ntmps287 rfl rfl ?_
 intro zb
 refine W.s0 X [0,1] rfl ⟨⟩ ?_
 refine W.seq ?_
 refine W.sr X [] [(7,⟨false,[.a (.lit (.bool (inr rows 1 64)))]⟩),(13,⟨false,[.a (.lit (.bool (inr i 0 (IntKind.i64.wrap (rows-1)))))]⟩)] [0,1,15] [] rfl (by(repeat' with_reducible first|exact ah.nil|refine ah.mk ?_ ?_|apply And.intro);(iterate 2 all_goals try first|exact(aE rows 1 64)|exact fun _=>(aE i 0 (IntKind.i64.wrap (rows-1))))) ?_
 refine W.cond rfl (fun hb0=> ?_) (fun hb0=> ?_)
 ·have hk:jT rows i=false:=bD hb0 (by simp only[jT,aF]<;>first|rfl|ac_rfl)
  refine W.s0 X [4] rfl ⟨⟩ ?_
  refine W.ret ?_
  exact Fin.ret rfl ⟨by rw[za hk],⟨⟩⟩
 ·have hk:jT rows i=true:=bA hb0 (by simp only[jT,aF]<;>first|rfl|ac_rfl)
  have hu:=CL hk
  refine W.skip ?_
  refine W.s0 X [1,5] rfl (by and_intros<;>first|exact⟨⟩| (intros;omega)|exact rfl| (simp only[cN,maxLen,lens];omega)) ?_
  refine W.s0 X [5] rfl (by and_intros<;>first|exact⟨⟩| (intros;omega)| (simp only[cN,maxLen,lens];omega)) ?_
  refine W.s0 X [4] rfl ⟨⟩ ?_
  refine W.ret ?_
  exact Fin.ret rfl ⟨by rw[yZ hk],⟨⟩⟩
theorem sA(a b:List Int)(ha:a.length≤1048576)(hb:b.length≤1048576):Sound ty Tryz.prog 288 [.a (.sl .int a), .a (.sl .int b)] [.a (.sl .int (lX a b))]:=by
 refine Sound.o X Tryz.call288 Tryz.func288 Tryz.ntmps288 rfl rfl ?_
 intro zb
 refine W.s0 X [0,1] rfl ⟨⟩ ?_
 refine W.seq ?_
 refine W.sr X [] [(11,⟨false,[.a (.lit (.bool (fM a (a.length:Int))))]⟩),(17,⟨false,[.a (.lit (.bool (fM b (a.length:Int))))]⟩)] [0,1,19] [] rfl (by(repeat' with_reducible first|exact ah.nil|refine ah.mk ?_ ?_|apply And.intro);(iterate 2 all_goals try first|exact(ji a (a.length:Int))|exact fun _=>(ji b (a.length:Int)))) ?_
 refine W.cond rfl (fun hb0=> ?_) (fun hb0=> ?_)
 ·have uM:kr a b=false:=bD hb0 (by simp only[kr,aF]<;>first|rfl|ac_rfl)
  refine W.s0 X [4] rfl ⟨⟩ ?_
  refine W.ret ?_
  exact Fin.ret rfl ⟨by rw[lX,if_neg (by rw[uM];decide)],⟨⟩⟩
 ·have uM:kr a b=true:=bA hb0 (by simp only[kr,aF]<;>first|rfl|ac_rfl)
  have qA:=mE uM
  have hzl:=xu uM
  refine W.skip ?_
  refine W.sr X [] [(21,⟨true,[.a (.sl .int _)]⟩)] [1,5] [] rfl (by(repeat' with_reducible first|exact ah.nil|refine ah.mk ?_ ?_|apply And.intro)<;>first|exact(fU _ (by first|assumption|omega| (simp;done)| (simp;omega)))) ?_
  refine W.seq ?_
  refine W.s0 X [5,22,23,24] rfl ⟨⟩ ?_
  refine W.block ?_
  refine W.aI (fun k=>k≤b.length) (fun k:Nat=> [(24, .one (.a (.lit (.int .i64 k))))]) (fun k=> [(21, .arr .int ((List.zipWith xb a b).take k++a.drop k))]) (fun k=>b.length-k) 0 (fun k=>rfl) (Nat.zero_le _) rfl ?_
  intro k hk
  have hle:=jL (List.zipWith xb a b) a k hzl (by omega)
  refine W.s0 X [5,22,23,24,25] rfl ⟨⟩ ?_
  refine W.seq ?_
  refine W.cond rfl (fun aD=> ?_) (fun aD=> ?_)
  ·try simp only[nb,an,au,af]at aD
   have hs:=HZ uM k aD
   refine W.skip ?_
   refine W.seq ?_
   refine W.block ?_
   refine W.s0 X [5,6,7,22,23,24] rfl (by and_intros<;>first|exact⟨⟩| (intros;omega)) ?_
   refine W.r0 X [5,22,23,24] rfl (by and_intros<;>first|exact⟨⟩| (intros;omega)) ?_
   refine W.r0 X [5,22,23,24] rfl ⟨⟩ ?_
   refine⟨k+1,by omega,by omega,?_⟩
   rw[aV _ k rfl (by omega),hs]
   try rfl
  ·try simp only[nb,an,au,af]at aD
   refine W.exit ?_
   refine W.s0 X [4] rfl ⟨⟩ ?_
   refine W.ret ?_
   exact Fin.ret rfl ⟨by rw[mu _ _ _ hzl (by omega),vD uM],⟨⟩⟩
theorem zh(rows i:Int)(sd:List Int)(rM:sd.length≤1048576):Sound ty Tryz.prog 211 [.a (.lit (.int .i64 rows)), .a (.lit (.int .i64 i)), .a (.sl .int sd)] [.a (.sl (.sl .int) (mV rows i sd))]:=by
 refine Sound.o X Tryz.call211 Tryz.func211 Tryz.ntmps211 rfl rfl ?_
 intro zb
 have hun:=zc rows i
 refine W.s0 X [0,1,2] rfl ⟨⟩ ?_
 refine W.sr X [] [(14,⟨true,[.a (.sl .int _)]⟩)] [0,2,7] [] rfl (by(repeat' with_reducible first|exact ah.nil|refine ah.mk ?_ ?_|apply And.intro)<;>first|exact(sy _ _)) ?_
 refine W.seq ?_
 refine W.sr X [] [(22,⟨false,[.a (.lit (.bool (cE (IntKind.i64.wrap ((sd.length:Int)+1)))))]⟩)] [0,2,7,24] [] rfl (by(repeat' with_reducible first|exact ah.nil|refine ah.mk ?_ ?_|apply And.intro)<;>first|exact fun _=>(dI (IntKind.i64.wrap ((sd.length:Int)+1)))) ?_
 refine W.cond rfl (fun hb0=> ?_) (fun hb0=> ?_)
 ·have hmk:CM rows i sd=false:=bD hb0 (by simp only[CM,aF]<;>first|rfl|ac_rfl)
  refine W.s0 X [6] rfl ⟨⟩ ?_
  refine W.ret ?_
  exact Fin.ret rfl ⟨by rw[mV,if_neg (by rw[hmk];decide)],⟨⟩⟩
 ·have hmk:CM rows i sd=true:=bA hb0 (by simp only[CM,aF]<;>first|rfl|ac_rfl)
  have qA:=H7 hmk rM
  refine W.skip ?_
  refine W.s0 X [0,2,7,8] rfl (by and_intros<;>first|exact⟨⟩|exact rfl) ?_
  refine W.seq ?_
  refine W.s0 X [0,7,8,26,27,28] rfl ⟨⟩ ?_
  refine W.block ?_
  refine W.aI (fun k=>k≤sd.length) (fun k:Nat=> [(28, .one (.a (.lit (.int .i64 k))))]) (fun k=> [(25, .arr (.sl .int) ((sd.take k).map fun s=>bC s rows)),(14, .arr .int (su rows i (sd.take k)))]) (fun k=>sd.length-k) 0 (fun k=>rfl) (Nat.zero_le _) rfl ?_
  intro k hk
  have hle:=aZ sd k
  have YW:=ze rows i (sd.take k)
  refine W.s0 X [0,7,8,26,27,28,29] rfl ⟨⟩ ?_
  refine W.seq ?_
  refine W.cond rfl (fun aD=> ?_) (fun aD=> ?_)
  ·try simp only[nb,an,au,af]at aD
   have hs:=lG (fun s=>bC s rows) sd k (av .int) aD
   have Av:=CN rows i sd k aD
   have hrl:=gJ (sd.getD k (av .int)) rows
   refine W.skip ?_
   refine W.seq ?_
   refine W.block ?_
   refine W.s0 X [0,7,8,10,26,27,28] rfl (by and_intros<;>first|exact⟨⟩| (intros;omega)) ?_
   refine W.sr X [] [(34,⟨true,[.a (.sl .int (bC (sd.getD k (av .int)) rows))]⟩)] [0,7,8,11,26,27,28] [] rfl (by(repeat' with_reducible first|exact ah.nil|refine ah.mk ?_ ?_|apply And.intro)<;>first|exact(jU (sd.getD k (av .int)) rows)) ?_
   refine W.seq ?_
   refine W.P6 X [(38,25)] [] [0,7,8,11,26,27,28] 2 25 rfl (by and_intros<;>first|exact⟨⟩|exact rfl| (simp only[cN,maxLen,lens];omega)) ?_
   refine W.fH X [] [(41,⟨true,[.a (.sl .int (lX (su rows i (sd.take k)) (bC (sd.getD k (av .int)) rows)))]⟩)] [0,7,8,26,27,28] [] rfl (by(repeat' with_reducible first|exact ah.nil|refine ah.mk ?_ ?_|apply And.intro)<;>first|exact(sA (su rows i (sd.take k)) (bC (sd.getD k (av .int)) rows) (by first|assumption|omega| (simp;done)| (simp;omega)) (by first|assumption|omega| (simp;done)| (simp;omega)))) ?_
   refine W.rename 7 14 rfl ?_
   refine W.r0 X [0,7,8,26,27,28] rfl ⟨⟩ ?_
   refine⟨k+1,by omega,by omega,?_⟩
   rw[aV _ k rfl (by omega),hs,Av]
   try rfl
  ·try simp only[nb,an,au,af]at aD
   refine W.exit ?_
   refine W.sr X [(46,25)] [] [6] [] rfl (by and_intros<;>first|exact⟨⟩|exact rfl| (simp only[cN,maxLen,lens];omega)) ?_
   refine W.ret ?_
   exact Fin.ret rfl ⟨by rw[List.take_of_length_le aD,mV,if_pos hmk],⟨⟩⟩
theorem jV(sd rows:Int):Sound ty Tryz.prog 180 [.a (.lit (.int .i64 sd)), .a (.lit (.int .i64 rows))] [.a (.sl .int (bC sd rows))]:=by
 refine Sound.o X Tryz.call180 Tryz.func180 Tryz.ntmps180 rfl rfl ?_
 intro zb
 refine W.s0 X [0,1] rfl ⟨⟩ ?_
 refine W.s0 X [0,1,5] rfl (by and_intros<;>first|exact⟨⟩|exact rfl) ?_
 refine W.seq ?_
 refine W.s0 X [0,1,5,6] rfl ⟨⟩ ?_
 refine W.block ?_
 refine W.aI (fun k=>k≤(bC sd rows).length) (fun k:Nat=> [(6, .one (.a (.lit (.int .i64 k))))]) (fun k=> [(8, .arr .int ((bC sd rows).take k))]) (fun k=>(bC sd rows).length-k) 0 (fun k=>rfl) (Nat.zero_le _) rfl ?_
 intro k hk
 have hle:=aZ (bC sd rows) k
 have hrl:=gJ sd rows
 refine W.seq ?_
 refine W.s0 X [0,1,5,6,15] rfl ⟨⟩ ?_
 refine W.cond rfl (fun hb0=> ?_) (fun hb0=> ?_)
 ·try simp only[nb,an,au,af]at hb0
  have hin:=CK sd rows k (by omega) (by omega)
  have hs:=xq sd rows k (by omega) (by omega)
  refine W.skip ?_
  refine W.seq ?_
  refine W.block ?_
  refine W.sr X [] [(21,⟨false,[.a (.lit (.int .i64 (kh sd [(k:Int),41])))]⟩)] [0,1,5,6,7] [] rfl (by(repeat' with_reducible first|exact ah.nil|refine ah.mk ?_ ?_|apply And.intro)<;>first|exact(bu sd [(k:Int),41] (by first|assumption|omega| (simp;done)| (simp;omega)))|exact⟨rfl,bH _ (by decide)⟩) ?_
  refine W.fH X [(30,8)] [] [0,1,5,6] [] rfl (by and_intros<;>first|exact⟨⟩| (intros;omega)|exact rfl| (simp only[cN,maxLen,lens];omega)) ?_
  refine W.r0 X [0,1,5,6] rfl ⟨⟩ ?_
  refine⟨k+1,by omega,by omega,?_⟩
  rw[aV _ k rfl (by omega),hs]
  try rfl
 ·try simp only[nb,an,au,af]at hb0
  refine W.exit ?_
  refine W.s0 X [4] rfl ⟨⟩ ?_
  refine W.ret ?_
  exact Fin.ret rfl ⟨by rw[Al _ _ _ (by omega)],⟨⟩⟩
theorem sB(rows i:Int):Sound ty Tryz.prog 314 [.a (.lit (.int .i64 rows)), .a (.lit (.int .i64 i))] [.a (.sl .int (xw rows i))]:=by
 refine Sound.o X Tryz.call314 Tryz.func314 Tryz.ntmps314 rfl rfl ?_
 intro zb
 refine W.s0 X [0,1] rfl ⟨⟩ ?_
 refine W.seq ?_
 refine W.sr X [] [(7,⟨false,[.a (.lit (.bool (inr rows 1 64)))]⟩),(13,⟨false,[.a (.lit (.bool (inr i 0 (IntKind.i64.wrap (rows-1)))))]⟩)] [0,1,15] [] rfl (by(repeat' with_reducible first|exact ah.nil|refine ah.mk ?_ ?_|apply And.intro);(iterate 2 all_goals try first|exact(aP rows 1 64)|exact fun _=>(aP i 0 (IntKind.i64.wrap (rows-1))))) ?_
 refine W.cond rfl (fun hb0=> ?_) (fun hb0=> ?_)
 ·have hk:jT rows i=false:=bD hb0 (by simp only[jT,aF]<;>first|rfl|ac_rfl)
  refine W.s0 X [4] rfl (by and_intros<;>first|exact⟨⟩|exact rfl) ?_
  refine W.ret ?_
  exact Fin.ret rfl ⟨by rw[za hk],⟨⟩⟩
 ·have hk:jT rows i=true:=bA hb0 (by simp only[jT,aF]<;>first|rfl|ac_rfl)
  have hu:=CL hk
  refine W.skip ?_
  refine W.s0 X [1,5] rfl (by and_intros<;>first|exact⟨⟩| (intros;omega)|exact rfl| (simp only[cN,maxLen,lens];omega)) ?_
  refine W.s0 X [5] rfl (by and_intros<;>first|exact⟨⟩| (intros;omega)| (simp only[cN,maxLen,lens];omega)) ?_
  refine W.s0 X [4] rfl ⟨⟩ ?_
  refine W.ret ?_
  exact Fin.ret rfl ⟨by rw[yZ hk],⟨⟩⟩
theorem sC(a b:List Int)(ha:a.length≤1048576)(hb:b.length≤1048576):Sound ty Tryz.prog 315 [.a (.sl .int a), .a (.sl .int b)] [.a (.sl .int (lX a b))]:=by
 refine Sound.o X Tryz.call315 Tryz.func315 Tryz.ntmps315 rfl rfl ?_
 intro zb
 refine W.s0 X [0,1] rfl ⟨⟩ ?_
 refine W.s0 X [0,1,5] rfl (by and_intros<;>first|exact⟨⟩|exact rfl) ?_
 refine W.seq ?_
 refine W.sr X [] [(11,⟨false,[.a (.lit (.bool (fM a (a.length:Int))))]⟩),(17,⟨false,[.a (.lit (.bool (fM b (a.length:Int))))]⟩)] [0,1,5,19] [] rfl (by(repeat' with_reducible first|exact ah.nil|refine ah.mk ?_ ?_|apply And.intro);(iterate 2 all_goals try first|exact(jj a (a.length:Int))|exact fun _=>(jj b (a.length:Int)))) ?_
 refine W.cond rfl (fun hb0=> ?_) (fun hb0=> ?_)
 ·have uM:kr a b=false:=bD hb0 (by simp only[kr,aF]<;>first|rfl|ac_rfl)
  refine W.s0 X [4] rfl ⟨⟩ ?_
  refine W.ret ?_
  exact Fin.ret rfl ⟨by rw[lX,if_neg (by rw[uM];decide)],⟨⟩⟩
 ·have uM:kr a b=true:=bA hb0 (by simp only[kr,aF]<;>first|rfl|ac_rfl)
  have qA:=mE uM
  have hzl:=xu uM
  refine W.skip ?_
  refine W.seq ?_
  refine W.s0 X [0,1,5,6] rfl ⟨⟩ ?_
  refine W.block ?_
  refine W.aI (fun k=>k≤a.length) (fun k:Nat=> [(6, .one (.a (.lit (.int .i64 k))))]) (fun k=> [(7, .arr .int ((List.zipWith xb a b).take k))]) (fun k=>a.length-k) 0 (fun k=>rfl) (Nat.zero_le _) rfl ?_
  intro k hk
  have hle:=aZ (List.zipWith xb a b) k
  refine W.seq ?_
  refine W.s0 X [0,1,5,6,24] rfl ⟨⟩ ?_
  refine W.cond rfl (fun aD=> ?_) (fun aD=> ?_)
  ·try simp only[nb,an,au,af]at aD
   have hs:=H6 uM k aD
   refine W.skip ?_
   refine W.seq ?_
   refine W.block ?_
   refine W.draw X [(38,7)] [] [0,1,5,6] [] 11 MO (by kernel_rfl) rfl (by and_intros<;>first|exact⟨⟩| (intros;omega)|exact rfl| (simp only[cN,maxLen,lens];omega)) ?_
   refine W.r0 X [0,1,5,6] rfl ⟨⟩ ?_
   refine⟨k+1,by omega,by omega,?_⟩
   rw[aV _ k rfl (by omega),hs]
   try rfl
  ·try simp only[nb,an,au,af]at aD
   refine W.exit ?_
   refine W.s0 X [4] rfl ⟨⟩ ?_
   refine W.ret ?_
   exact Fin.ret rfl ⟨by rw[List.take_of_length_le (by omega),vD uM],⟨⟩⟩
theorem zi(rows i:Int)(sd:List Int)(rM:sd.length≤1048576):Sound ty Tryz.prog 252 [.a (.lit (.int .i64 rows)), .a (.lit (.int .i64 i)), .a (.sl .int sd)] [.a (.sl (.sl .int) (mV rows i sd))]:=by
 refine Sound.o X Tryz.call252 Tryz.func252 Tryz.ntmps252 rfl rfl ?_
 intro zb
 have hun:=zc rows i
 refine W.s0 X [0,1,2] rfl ⟨⟩ ?_
 refine W.s0 X [0,1,2,7] rfl (by and_intros<;>first|exact⟨⟩|exact rfl) ?_
 refine W.sr X [] [(14,⟨true,[.a (.sl .int _)]⟩)] [0,2,7,8] [] rfl (by(repeat' with_reducible first|exact ah.nil|refine ah.mk ?_ ?_|apply And.intro)<;>first|exact(sB _ _)) ?_
 refine W.seq ?_
 refine W.sr X [] [(22,⟨false,[.a (.lit (.bool (cE (IntKind.i64.wrap ((sd.length:Int)+1)))))]⟩)] [0,2,7,8,24] [] rfl (by(repeat' with_reducible first|exact ah.nil|refine ah.mk ?_ ?_|apply And.intro)<;>first|exact fun _=>(gI (IntKind.i64.wrap ((sd.length:Int)+1)))) ?_
 refine W.cond rfl (fun hb0=> ?_) (fun hb0=> ?_)
 ·have hmk:CM rows i sd=false:=bD hb0 (by simp only[CM,aF]<;>first|rfl|ac_rfl)
  refine W.s0 X [6] rfl ⟨⟩ ?_
  refine W.ret ?_
  exact Fin.ret rfl ⟨by rw[mV,if_neg (by rw[hmk];decide)],⟨⟩⟩
 ·have hmk:CM rows i sd=true:=bA hb0 (by simp only[CM,aF]<;>first|rfl|ac_rfl)
  have qA:=H7 hmk rM
  refine W.skip ?_
  refine W.seq ?_
  refine W.s0 X [0,2,7,8,9] rfl ⟨⟩ ?_
  refine W.block ?_
  refine W.aI (fun k=>k≤sd.length) (fun k:Nat=> [(9, .one (.a (.lit (.int .i64 k))))]) (fun k=> [(11, .arr (.sl .int) ((sd.take k).map fun s=>bC s rows)),(14, .arr .int (su rows i (sd.take k)))]) (fun k=>sd.length-k) 0 (fun k=>rfl) (Nat.zero_le _) rfl ?_
  intro k hk
  have hle:=aZ sd k
  have YW:=ze rows i (sd.take k)
  refine W.seq ?_
  refine W.s0 X [0,2,7,8,9,29] rfl ⟨⟩ ?_
  refine W.cond rfl (fun aD=> ?_) (fun aD=> ?_)
  ·try simp only[nb,an,au,af]at aD
   have hs:=lG (fun s=>bC s rows) sd k (av .int) aD
   have Av:=CN rows i sd k aD
   have hrl:=gJ (sd.getD k (av .int)) rows
   refine W.skip ?_
   refine W.seq ?_
   refine W.block ?_
   refine W.sr X [] [(37,⟨true,[.a (.sl .int (bC (sd.getD k (av .int)) rows))]⟩)] [0,2,7,8,9,10] [] rfl (by(repeat' with_reducible first|exact ah.nil|refine ah.mk ?_ ?_|apply And.intro)<;>first|exact(jV (sd.getD k (av .int)) rows)| (intros;omega)) ?_
   refine W.sr X [] [(40,⟨true,[.a (.sl .int (lX (su rows i (sd.take k)) (bC (sd.getD k (av .int)) rows)))]⟩)] [0,2,7,8,9,10] [] rfl (by(repeat' with_reducible first|exact ah.nil|refine ah.mk ?_ ?_|apply And.intro)<;>first|exact(sC (su rows i (sd.take k)) (bC (sd.getD k (av .int)) rows) (by first|assumption|omega| (simp;done)| (simp;omega)) (by first|assumption|omega| (simp;done)| (simp;omega)))) ?_
   refine W.rename 8 14 rfl ?_
   refine W.fH X [(44,11)] [] [0,2,7,8,9] [] rfl (by and_intros<;>first|exact⟨⟩|exact rfl| (simp only[cN,maxLen,lens];omega)) ?_
   refine W.r0 X [0,2,7,8,9] rfl ⟨⟩ ?_
   refine⟨k+1,by omega,by omega,?_⟩
   rw[aV _ k rfl (by omega),hs,Av]
   try rfl
  ·try simp only[nb,an,au,af]at aD
   refine W.exit ?_
   refine W.sr X [(48,11)] [] [6] [] rfl (by and_intros<;>first|exact⟨⟩|exact rfl| (simp only[cN,maxLen,lens];omega)) ?_
   refine W.ret ?_
   exact Fin.ret rfl ⟨by rw[List.take_of_length_le aD,mV,if_pos hmk],⟨⟩⟩
end
section
set_option maxRecDepth 100000
theorem zj(x:aN)(r row s:Int)(qy:x.aj.length≤1048576):Sound ty Tryz.prog 212 [.agg (ay x), .a (.lit (.int .i64 r)), .a (.lit (.int .i64 row)), .a (.lit (.int .i64 s))] [.a (.sl .int (fB x.aj.length r row s))]:=by
 refine Sound.o X Tryz.call212 Tryz.func212 Tryz.ntmps212 rfl rfl ?_
 intro zb
 have hw:IntKind.i64.wrap ((x.aj.length:Int)-1)=(x.aj.length:Int)-1:=cC (by omega)
 refine W.s0 X [1,2,3,4] rfl ⟨⟩ ?_
 refine W.s0 X [1,2,3,4,9] rfl (by and_intros<;>first|exact⟨⟩|exact rfl) ?_
 refine W.seq ?_
 refine W.s0 X [1,2,3,9,16,17] rfl ⟨⟩ ?_
 refine W.block ?_
 refine W.aI (fun k=>k≤(x.aj.length-1)) (fun k:Nat=> [(17, .one (.a (.lit (.int .i64 k))))]) (fun k=> [(11, .arr .int ((fB x.aj.length r row s).take k))]) (fun k=>(x.aj.length-1)-k) 0 (fun k=>rfl) (Nat.zero_le _) rfl ?_
 intro k hk
 have hle:=aZ (fB x.aj.length r row s) k
 have hrl:=mW x.aj.length r row s
 refine W.s0 X [1,2,3,9,16,17,18] rfl ⟨⟩ ?_
 refine W.seq ?_
 refine W.cond rfl (fun hb0=> ?_) (fun hb0=> ?_)
 ·try simp only[nb,an,au,af]at hb0
  rw[Ly _ qy]at hb0
  have hs:=Am x.aj.length r row s k (by omega)
  refine W.skip ?_
  refine W.seq ?_
  refine W.block ?_
  refine W.s0 X [1,2,3,9,10,16,17] rfl ⟨⟩ ?_
  refine W.fH X [(28,11)] [(26,⟨false,[.a (.lit (.int .i64 (kh s [229,r,row,(k:Int)])))]⟩)] [1,2,3,9,16,17] [] rfl (by(repeat' with_reducible first|exact ah.nil|refine ah.mk ?_ ?_|apply And.intro)<;>first|exact(bt s [229,r,row,(k:Int)] (by first|assumption|omega| (simp;done)| (simp;omega)))|exact rfl|exact⟨rfl,bH _ (by decide)⟩| (simp only[cN,maxLen,lens];omega)) ?_
  refine W.r0 X [1,2,3,9,16,17] rfl ⟨⟩ ?_
  refine⟨k+1,by omega,by omega,?_⟩
  rw[aV _ k rfl (by omega),hs]
  try rfl
 ·try simp only[nb,an,au,af]at hb0
  rw[Ly _ qy]at hb0
  refine W.exit ?_
  refine W.s0 X [8] rfl ⟨⟩ ?_
  refine W.ret ?_
  exact Fin.ret rfl ⟨by rw[List.take_of_length_le (by omega)],⟨⟩⟩
end
section
set_option maxRecDepth 100000
theorem bZ(d:DB)(hs0:bL List.length d.rows≤1048576):Sound ty Tryz.prog 196 [.agg (aH d)] [.agg (aH d)]:=by
 refine Sound.o X Tryz.call196 Tryz.func196 Tryz.ntmps196 rfl rfl ?_
 intro zb
 refine W.s0 X [1,2] rfl ⟨⟩ ?_
 refine W.sr X [] [(5,⟨true,[.a (.sl (.sl .u8) d.rows)]⟩)] [2] [] rfl (by(repeat' with_reducible first|exact ah.nil|refine ah.mk ?_ ?_|apply And.intro)<;>first|exact(kM d.rows (by first|assumption|omega| (simp;done)| (simp;omega)))) ?_
 refine W.ret ?_
 exact Fin.ret rfl ⟨rfl,⟨⟩⟩
theorem dD(d:DB)(hs0:bL List.length d.rows≤1048576):Sound ty Tryz.prog 166 [.agg (aH d)] [.agg (aH d)]:=by
 refine Sound.o X Tryz.call166 Tryz.func166 Tryz.ntmps166 rfl rfl ?_
 intro zb
 refine W.s0 X [1,2] rfl ⟨⟩ ?_
 refine W.sr X [] [(5,⟨true,[.a (.sl (.sl .u8) d.rows)]⟩)] [2] [] rfl (by(repeat' with_reducible first|exact ah.nil|refine ah.mk ?_ ?_|apply And.intro)<;>first|exact(ou d.rows (by first|assumption|omega| (simp;done)| (simp;omega)))) ?_
 refine W.ret ?_
 exact Fin.ret rfl ⟨rfl,⟨⟩⟩
theorem mY(rows:Int):Sound ty Tryz.prog 284 [.a (.lit (.int .i64 rows))] [.agg (aH (cT rows))]:=by
 refine Sound.o X Tryz.call284 Tryz.func284 Tryz.ntmps284 rfl rfl ?_
 intro zb
 refine W.s0 X [0,2] rfl ⟨⟩ ?_
 refine W.s0 X [0,2,3] rfl ⟨⟩ ?_
 refine W.mX 3 0 60 (.sl .u8) rfl ?_
 refine W.seq ?_
 refine W.sr X [] [(6,⟨false,[.a (.lit (.bool (inr rows 0 64)))]⟩)] [0,2,3,6] [] rfl (by(repeat' with_reducible first|exact ah.nil|refine ah.mk ?_ ?_|apply And.intro)<;>first|exact(aE rows 0 64)) ?_
 refine W.cond rfl (fun hb0=> ?_) (fun hb0=> ?_)
 ·try simp only[nb,an,au,af]at hb0
  refine W.s0 X [2,3,7,8] rfl ⟨⟩ ?_
  refine W.block ?_
  refine W.aI (fun k=>k≤rows.toNat) (fun k:Nat=> [(8, .one (.a (.lit (.int .i64 k))))]) (fun k=> [(60, .arr (.sl .u8) ((cT rows).rows.take k))]) (fun k=>rows.toNat-k) 0 (fun k=>rfl) (Nat.zero_le _) rfl ?_
  intro k hk
  have hle:=aZ (cT rows).rows k
  have hnl:=oS rows
  refine W.s0 X [2,3,7,8,9] rfl ⟨⟩ ?_
  refine W.seq ?_
  refine W.cond rfl (fun aD=> ?_) (fun aD=> ?_)
  ·try simp only[nb,an,au,af]at aD
   have hs:=CS rows k (by omega) (by omega)
   refine W.skip ?_
   refine W.seq ?_
   refine W.block ?_
   refine W.draw X [(14,60)] [(500013,⟨true,[]⟩)] [2,3,7,8] [] 4 MO (by kernel_rfl) rfl (by and_intros<;>first|exact⟨⟩| (intros;omega)|exact rfl| (simp only[cN,maxLen,lens];omega)) ?_
   refine W.r0 X [2,3,7,8] rfl ⟨⟩ ?_
   refine⟨k+1,by omega,by omega,?_⟩
   rw[aV _ k rfl (by omega),hs]
   try rfl
  ·try simp only[nb,an,au,af]at aD
   refine W.exit ?_
   refine W.s0 X [2] rfl (by and_intros<;>exact⟨⟩) ?_
   refine W.ret ?_
   exact Fin.ret rfl ⟨by rw[EH _ _ (by omega)],⟨⟩⟩
 ·try simp only[nb,an,au,af]at hb0
  refine W.skip ?_
  refine W.s0 X [2] rfl (by and_intros<;>exact⟨⟩) ?_
  refine W.ret ?_
  exact Fin.ret rfl ⟨by unfold cT;dsimp only;rw[if_neg (by omega)],⟨⟩⟩
theorem xA(d:DB)(i:Int)(c:List UInt8)(hs0:bL List.length d.rows≤1048576)(hc:c.length≤1048576):Sound ty Tryz.prog 326 [.agg (aH d), .a (.lit (.int .i64 i)), .a (.sl .u8 c)] [.agg (aH (uN d i c)), .a (.lit (.bool (jy d i c)))]:=by
 refine Sound.o X Tryz.call326 Tryz.func326 Tryz.ntmps326 rfl rfl ?_
 intro zb
 have jr:d.rows.length≤1048576:=cg hs0
 refine W.s0 X [1,2,3,6] rfl ⟨⟩ ?_
 refine W.sr X [] [(10,⟨true,[.agg (aH d)]⟩)] [1,2,3,6,8] [] rfl (by(repeat' with_reducible first|exact ah.nil|refine ah.mk ?_ ?_|apply And.intro)<;>first|exact(bZ d (by first|assumption|omega| (simp;done)| (simp;omega)))) ?_
 refine W.seq ?_
 refine W.sr X [] [(16,⟨false,[.a (.lit (.bool (inr i 0 (IntKind.i64.wrap ((d.rows.length:Int)-1)))))]⟩)] [1,2,6,8,22] [] rfl (by(repeat' with_reducible first|exact ah.nil|refine ah.mk ?_ ?_|apply And.intro)<;>first|exact(aE i 0 (IntKind.i64.wrap ((d.rows.length:Int)-1)))) ?_
 refine W.cond rfl (fun hb0=> ?_) (fun hb0=> ?_)
 ·have DN:jy d i c=false:=bD hb0 (by simp only[jy,aF]<;>first|rfl|ac_rfl)
  refine W.s0 X [6,7] rfl (by and_intros<;>exact⟨⟩) ?_
  refine W.ret ?_
  exact Fin.ret rfl ⟨by rw[EI DN],by rw[DN],⟨⟩⟩
 ·have DN:jy d i c=true:=bA hb0 (by simp only[jy,aF]<;>first|rfl|ac_rfl)
  have hrb:=F5 jr DN
  refine W.skip ?_
  refine W.sd X [] [(28,⟨true,[.a (.sl .u8 _)]⟩)] [6,8] [] 6 MO (by kernel_rfl) rfl (by(repeat' with_reducible first|exact ah.nil|refine ah.mk ?_ ?_|apply And.intro)<;>first|exact(bQ _ (by first|assumption|omega| (simp;done)| (simp;omega)))| (intros;omega)) ?_
  refine W.s0 X [6,7] rfl (by and_intros<;>exact⟨⟩) ?_
  refine W.ret ?_
  exact Fin.ret rfl ⟨by rw[zk DN],by rw[DN],⟨⟩⟩
theorem iq(a b:DB)(hs0:bL List.length a.rows≤1048576)(hs1:bL List.length b.rows≤1048576):Sound ty Tryz.prog 208 [.agg (aH a), .agg (aH b)] [.agg (aH (fC a b)), .a (.lit (.bool (gw a b)))]:=by
 refine Sound.o X Tryz.call208 Tryz.func208 Tryz.ntmps208 rfl rfl ?_
 intro zb
 have hla:a.rows.length≤1048576:=cg hs0
 have hlb:b.rows.length≤1048576:=cg hs1
 refine W.s0 X [2,3,4] rfl ⟨⟩ ?_
 refine W.sr X [] [(10,⟨true,[.agg (aH a)]⟩)] [2,3,4,6] [] rfl (by(repeat' with_reducible first|exact ah.nil|refine ah.mk ?_ ?_|apply And.intro)<;>first|exact(bZ a (by first|assumption|omega| (simp;done)| (simp;omega)))) ?_
 refine W.seq ?_
 refine W.sr X [] [(12,⟨false,[.a (.lit (.bool (cG a)))]⟩),(16,⟨false,[.a (.lit (.bool (cG b)))]⟩)] [3,4,6,27] [] rfl (by(repeat' with_reducible first|exact ah.nil|refine ah.mk ?_ ?_|apply And.intro);(iterate 2 all_goals try first|exact(cL a)|exact fun _=>(cL b))) ?_
 refine W.cond rfl (fun hb0=> ?_) (fun hb0=> ?_)
 ·have uM:gw a b=false:=bD hb0 (by simp only[gw,aF]<;>first|rfl|ac_rfl)
  refine W.s0 X [4,5] rfl (by and_intros<;>exact⟨⟩) ?_
  refine W.ret ?_
  exact Fin.ret rfl ⟨by rw[oU uM],by rw[uM],⟨⟩⟩
 ·have uM:gw a b=true:=bA hb0 (by simp only[gw,aF]<;>first|rfl|ac_rfl)
  have Tj:=sD uM
  have hxl:=jk uM
  refine W.skip ?_
  refine W.seq ?_
  refine W.s0 X [4,6,30,31,32] rfl ⟨⟩ ?_
  refine W.block ?_
  refine W.aI (fun k=>k≤b.rows.length) (fun k:Nat=> [(32, .one (.a (.lit (.int .i64 k))))]) (fun k=> [(10, .arr (.sl .u8) ((fj a b).take k++a.rows.drop k))]) (fun k=>b.rows.length-k) 0 (fun k=>rfl) (Nat.zero_le _) rfl ?_
  intro k hk
  have hle:=jL (fj a b) a.rows k hxl (by omega)
  refine W.s0 X [4,6,30,31,32,33] rfl ⟨⟩ ?_
  refine W.seq ?_
  refine W.cond rfl (fun aD=> ?_) (fun aD=> ?_)
  ·try simp only[nb,an,au,af]at aD
   have hs:=Ia uM k aD
   have W7:(a.rows.getD k (av (.sl .u8))).length≤1048576:=by rw[nM Tj.1 k (by omega)];decide
   have Y2:(b.rows.getD k (av (.sl .u8))).length≤1048576:=by rw[nM Tj.2.1 k (by omega)];decide
   have hel:(((fj a b).take k++a.rows.drop k).getD k (av (.sl .u8))).length≤1048576:=by rw[SL uM k aD];exact W7
   refine W.skip ?_
   refine W.seq ?_
   refine W.block ?_
   refine W.s0 X [4,6,7,8,30,31,32] rfl (by and_intros<;>first|exact⟨⟩| (intros;omega)) ?_
   refine W.draw X [] [(46,⟨true,[.a (.sl .u8 (dz (((fj a b).take k++a.rows.drop k).getD k (av (.sl .u8))) (b.rows.getD k (av (.sl .u8)))))]⟩)] [4,6,30,31,32] [] 11 MO (by kernel_rfl) rfl (by(repeat' with_reducible first|exact ah.nil|refine ah.mk ?_ ?_|apply And.intro)<;>first|exact(iO (((fj a b).take k++a.rows.drop k).getD k (av (.sl .u8))) (b.rows.getD k (av (.sl .u8))) (by first|assumption|omega| (simp;done)| (simp;omega)) (by first|assumption|omega| (simp;done)| (simp;omega)))| (intros;omega)) ?_
   refine W.r0 X [4,6,30,31,32] rfl ⟨⟩ ?_
   refine⟨k+1,by omega,by omega,?_⟩
   rw[aV _ k rfl (by omega),hs]
   try rfl
  ·try simp only[nb,an,au,af]at aD
   refine W.exit ?_
   refine W.s0 X [4,5] rfl (by and_intros<;>exact⟨⟩) ?_
   refine W.ret ?_
   exact Fin.ret rfl ⟨by rw[mu _ _ _ hxl (by omega),tP uM],by rw[uM],⟨⟩⟩
theorem xB(x:aN)(c:Int)(qy:x.aj.length≤1048576):Sound ty Tryz.prog 199 [.agg (ay x), .a (.lit (.int .i64 c))] [.a (.sl .int (fW x c))]:=by
 refine Sound.o X Tryz.call199 Tryz.func199 Tryz.ntmps199 rfl rfl ?_
 intro zb
 have hw:IntKind.i64.wrap ((x.aj.length:Int)-1)=(x.aj.length:Int)-1:=cC (by omega)
 refine W.s0 X [1,2] rfl ⟨⟩ ?_
 refine W.s0 X [1,2,5] rfl (by and_intros<;>first|exact⟨⟩|exact rfl) ?_
 refine W.seq ?_
 refine W.s0 X [1,2,5,12,13] rfl ⟨⟩ ?_
 refine W.block ?_
 refine W.aI (fun k=>k≤(x.aj.length-1)) (fun k:Nat=> [(13, .one (.a (.lit (.int .i64 k))))]) (fun k=> [(7, .arr .int ((fW x c).take k))]) (fun k=>(x.aj.length-1)-k) 0 (fun k=>rfl) (Nat.zero_le _) rfl ?_
 intro k hk
 have hle:=aZ (fW x c) k
 have hrl:=jl x c
 refine W.s0 X [1,2,5,12,13,14] rfl ⟨⟩ ?_
 refine W.seq ?_
 refine W.cond rfl (fun hb0=> ?_) (fun hb0=> ?_)
 ·try simp only[nb,an,au,af]at hb0
  rw[Ly _ qy]at hb0
  have hs:=An x c k (by omega)
  refine W.skip ?_
  refine W.seq ?_
  refine W.block ?_
  refine W.s0 X [1,2,5,6,12,13] rfl ⟨⟩ ?_
  refine W.fH X [(26,7)] [(24,⟨false,[.a (.lit (.int .i64 (kh x.seed [223,x.round,c,(k:Int)])))]⟩)] [1,2,5,12,13] [] rfl (by(repeat' with_reducible first|exact ah.nil|refine ah.mk ?_ ?_|apply And.intro)<;>first|exact(bt x.seed [223,x.round,c,(k:Int)] (by first|assumption|omega| (simp;done)| (simp;omega)))|exact rfl|exact⟨rfl,bH _ (by decide)⟩| (simp only[cN,maxLen,lens];omega)) ?_
  refine W.r0 X [1,2,5,12,13] rfl ⟨⟩ ?_
  refine⟨k+1,by omega,by omega,?_⟩
  rw[aV _ k rfl (by omega),hs]
  try rfl
 ·try simp only[nb,an,au,af]at hb0
  rw[Ly _ qy]at hb0
  refine W.exit ?_
  refine W.s0 X [4] rfl ⟨⟩ ?_
  refine W.ret ?_
  exact Fin.ret rfl ⟨by rw[List.take_of_length_le (by omega)],⟨⟩⟩
theorem mZ(rows:Int):Sound ty Tryz.prog 309 [.a (.lit (.int .i64 rows))] [.agg (aH (cT rows))]:=by
 refine Sound.o X Tryz.call309 Tryz.func309 Tryz.ntmps309 rfl rfl ?_
 intro zb
 refine W.s0 X [0,2] rfl ⟨⟩ ?_
 refine W.s0 X [0,2,3] rfl ⟨⟩ ?_
 refine W.mX 3 0 60 (.sl .u8) rfl ?_
 refine W.seq ?_
 refine W.s0 X [0,2,3,4] rfl ⟨⟩ ?_
 refine W.block ?_
 refine W.aI (fun k=>k≤(cT rows).rows.length) (fun k:Nat=> [(4, .one (.a (.lit (.int .i64 k))))]) (fun k=> [(60, .arr (.sl .u8) ((cT rows).rows.take k))]) (fun k=>(cT rows).rows.length-k) 0 (fun k=>rfl) (Nat.zero_le _) rfl ?_
 intro k hk
 have hle:=aZ (cT rows).rows k
 have hnl:=oS rows
 refine W.seq ?_
 refine W.s0 X [0,2,3,4,12] rfl ⟨⟩ ?_
 refine W.cond rfl (fun hb0=> ?_) (fun hb0=> ?_)
 ·try simp only[nb,an,au,af]at hb0
  have hin:=P9 rows k (by omega) (by omega)
  have hs:=CS rows k (by omega) (by omega)
  refine W.skip ?_
  refine W.seq ?_
  refine W.block ?_
  refine W.draw X [(19,60)] [(500018,⟨true,[]⟩)] [0,2,3,4] [] 4 MO (by kernel_rfl) rfl (by and_intros<;>first|exact⟨⟩| (intros;omega)|exact rfl| (simp only[cN,maxLen,lens];omega)) ?_
  refine W.r0 X [0,2,3,4] rfl ⟨⟩ ?_
  refine⟨k+1,by omega,by omega,?_⟩
  rw[aV _ k rfl (by omega),hs]
  try rfl
 ·try simp only[nb,an,au,af]at hb0
  refine W.exit ?_
  refine W.s0 X [2] rfl (by and_intros<;>exact⟨⟩) ?_
  refine W.ret ?_
  exact Fin.ret rfl ⟨by rw[EH _ _ (by omega)],⟨⟩⟩
theorem xC(d:DB)(i:Int)(c:List UInt8)(hs0:bL List.length d.rows≤1048576)(hc:c.length≤1048576):Sound ty Tryz.prog 308 [.agg (aH d), .a (.lit (.int .i64 i)), .a (.sl .u8 c)] [.agg (aH (uN d i c)), .a (.lit (.bool (jy d i c)))]:=by
 refine Sound.o X Tryz.call308 Tryz.func308 Tryz.ntmps308 rfl rfl ?_
 intro zb
 have jr:d.rows.length≤1048576:=cg hs0
 refine W.s0 X [1,2,3,6] rfl ⟨⟩ ?_
 refine W.sr X [] [(10,⟨true,[.agg (aH d)]⟩)] [1,2,3,6,8] [] rfl (by(repeat' with_reducible first|exact ah.nil|refine ah.mk ?_ ?_|apply And.intro)<;>first|exact(dD d (by first|assumption|omega| (simp;done)| (simp;omega)))) ?_
 refine W.seq ?_
 refine W.sr X [] [(16,⟨false,[.a (.lit (.bool (inr i 0 (IntKind.i64.wrap ((d.rows.length:Int)-1)))))]⟩)] [1,2,6,8,22] [] rfl (by(repeat' with_reducible first|exact ah.nil|refine ah.mk ?_ ?_|apply And.intro)<;>first|exact(aP i 0 (IntKind.i64.wrap ((d.rows.length:Int)-1)))) ?_
 refine W.cond rfl (fun hb0=> ?_) (fun hb0=> ?_)
 ·have DN:jy d i c=false:=bD hb0 (by simp only[jy,aF]<;>first|rfl|ac_rfl)
  refine W.s0 X [6,7] rfl (by and_intros<;>exact⟨⟩) ?_
  refine W.ret ?_
  exact Fin.ret rfl ⟨by rw[EI DN],by rw[DN],⟨⟩⟩
 ·have DN:jy d i c=true:=bA hb0 (by simp only[jy,aF]<;>first|rfl|ac_rfl)
  have hrb:=F5 jr DN
  refine W.skip ?_
  refine W.seq ?_
  refine W.fD X [(29,27)] [] [6,8] [] 95 (.ph 31 (.br 31 5 (.ph 64 (.br 64 7 (.last 0) (.nil))) (.br 27 5 (.ph 68 (.br 68 7 (.last 0) (.nil))) (.br 29 5 (.ph 66 (.br 66 7 (.last 0) (.nil))) (.br 25 5 (.ph 70 (.br 70 7 (.last 0) (.nil))) (.br 28 5 (.ph 67 (.br 67 7 (.last 0) (.nil))) (.br 24 5 (.ph 71 (.br 71 7 (.last 0) (.nil))) (.nil)))))))) 5 MO (by kernel_rfl) rfl (by kernel_rfl) (by and_intros<;>first|exact⟨⟩| (intros;omega)|exact rfl| (simp only[cN,maxLen,lens];omega)) ?_
  refine W.s0 X [6,7] rfl (by and_intros<;>exact⟨⟩) ?_
  refine W.ret ?_
  exact Fin.ret rfl ⟨by rw[zk DN];rfl,by rw[DN],⟨⟩⟩
theorem ir(a b:DB)(hs0:bL List.length a.rows≤1048576)(hs1:bL List.length b.rows≤1048576):Sound ty Tryz.prog 249 [.agg (aH a), .agg (aH b)] [.agg (aH (fC a b)), .a (.lit (.bool (gw a b)))]:=by
 refine Sound.o X Tryz.call249 Tryz.func249 Tryz.ntmps249 rfl rfl ?_
 intro zb
 have hla:a.rows.length≤1048576:=cg hs0
 have hlb:b.rows.length≤1048576:=cg hs1
 refine W.s0 X [2,3,4] rfl ⟨⟩ ?_
 refine W.seq ?_
 refine W.sr X [] [(9,⟨false,[.a (.lit (.bool (cG a)))]⟩),(13,⟨false,[.a (.lit (.bool (cG b)))]⟩)] [2,3,4,24] [] rfl (by(repeat' with_reducible first|exact ah.nil|refine ah.mk ?_ ?_|apply And.intro);(iterate 2 all_goals try first|exact(cx a)|exact fun _=>(cx b))) ?_
 refine W.cond rfl (fun hb0=> ?_) (fun hb0=> ?_)
 ·have uM:gw a b=false:=bD hb0 (by simp only[gw,aF]<;>first|rfl|ac_rfl)
  refine W.sr X [] [(26,⟨true,[.agg (aH a)]⟩)] [4,5] [] rfl (by(repeat' with_reducible first|exact ah.nil|refine ah.mk ?_ ?_|apply And.intro)<;>first|exact(dD a (by first|assumption|omega| (simp;done)| (simp;omega)))) ?_
  refine W.ret ?_
  exact Fin.ret rfl ⟨by rw[oU uM],by rw[uM],⟨⟩⟩
 ·have uM:gw a b=true:=bA hb0 (by simp only[gw,aF]<;>first|rfl|ac_rfl)
  have Tj:=sD uM
  have hxl:=jk uM
  refine W.skip ?_
  refine W.s0 X [2,3,4,6] rfl ⟨⟩ ?_
  refine W.mX 6 0 60 (.sl .u8) rfl ?_
  refine W.seq ?_
  refine W.s0 X [2,3,4,6,7] rfl ⟨⟩ ?_
  refine W.block ?_
  refine W.aI (fun k=>k≤a.rows.length) (fun k:Nat=> [(7, .one (.a (.lit (.int .i64 k))))]) (fun k=> [(60, .arr (.sl .u8) ((fj a b).take k))]) (fun k=>a.rows.length-k) 0 (fun k=>rfl) (Nat.zero_le _) rfl ?_
  intro k hk
  have hle:=aZ (fj a b) k
  refine W.seq ?_
  refine W.s0 X [2,3,4,6,7,32] rfl ⟨⟩ ?_
  refine W.cond rfl (fun aD=> ?_) (fun aD=> ?_)
  ·try simp only[nb,an,au,af]at aD
   have hs:=H9 uM k aD
   have W7:(a.rows.getD k (av (.sl .u8))).length≤1048576:=by rw[nM Tj.1 k (by omega)];decide
   have Y2:(b.rows.getD k (av (.sl .u8))).length≤1048576:=by rw[nM Tj.2.1 k (by omega)];decide
   refine W.skip ?_
   refine W.seq ?_
   refine W.block ?_
   refine W.draw X [(49,60)] [(47,⟨true,[.a (.sl .u8 (dz (a.rows.getD k (av (.sl .u8))) (b.rows.getD k (av (.sl .u8)))))]⟩),(500048,⟨true,[]⟩)] [2,3,4,6,7] [] 14 MO (by kernel_rfl) rfl (by(repeat' with_reducible first|exact ah.nil|refine ah.mk ?_ ?_|apply And.intro)<;>first|exact(iP (a.rows.getD k (av (.sl .u8))) (b.rows.getD k (av (.sl .u8))) (by first|assumption|omega| (simp;done)| (simp;omega)) (by first|assumption|omega| (simp;done)| (simp;omega)))| (intros;omega)|exact rfl|exact⟨rfl,bH _ (by decide)⟩| (simp only[cN,maxLen,lens];omega)) ?_
   refine W.r0 X [2,3,4,6,7] rfl ⟨⟩ ?_
   refine⟨k+1,by omega,by omega,?_⟩
   rw[aV _ k rfl (by omega),hs]
   try rfl
  ·try simp only[nb,an,au,af]at aD
   refine W.exit ?_
   refine W.s0 X [4,5] rfl (by and_intros<;>exact⟨⟩) ?_
   refine W.ret ?_
   exact Fin.ret rfl ⟨by rw[List.take_of_length_le (by omega),tP uM],by rw[uM],⟨⟩⟩
theorem xD(x:aN)(c:Int)(qy:x.aj.length≤1048576):Sound ty Tryz.prog 245 [.agg (ay x), .a (.lit (.int .i64 c))] [.a (.sl .int (fW x c))]:=by
 refine Sound.o X Tryz.call245 Tryz.func245 Tryz.ntmps245 rfl rfl ?_
 intro zb
 have hw:IntKind.i64.wrap ((x.aj.length:Int)-1)=(x.aj.length:Int)-1:=cC (by omega)
 refine W.s0 X [1,2] rfl ⟨⟩ ?_
 refine W.s0 X [1,2,5] rfl (by and_intros<;>first|exact⟨⟩|exact rfl) ?_
 refine W.seq ?_
 refine W.s0 X [1,2,5,6] rfl ⟨⟩ ?_
 refine W.block ?_
 refine W.aI (fun k=>k≤(x.aj.length-1)) (fun k:Nat=> [(6, .one (.a (.lit (.int .i64 k))))]) (fun k=> [(7, .arr .int ((fW x c).take k))]) (fun k=>(x.aj.length-1)-k) 0 (fun k=>rfl) (Nat.zero_le _) rfl ?_
 intro k hk
 have hle:=aZ (fW x c) k
 have hrl:=jl x c
 refine W.seq ?_
 refine W.s0 X [1,2,5,6,13] rfl ⟨⟩ ?_
 refine W.cond rfl (fun hb0=> ?_) (fun hb0=> ?_)
 ·try simp only[nb,an,au,af]at hb0
  rw[hw]at hb0
  have hs:=An x c k (by omega)
  refine W.skip ?_
  refine W.seq ?_
  refine W.block ?_
  refine W.fH X [(26,7)] [(24,⟨false,[.a (.lit (.int .i64 (kh x.seed [223,x.round,c,(k:Int)])))]⟩)] [1,2,5,6] [] rfl (by(repeat' with_reducible first|exact ah.nil|refine ah.mk ?_ ?_|apply And.intro)<;>first|exact(bu x.seed [223,x.round,c,(k:Int)] (by first|assumption|omega| (simp;done)| (simp;omega)))|exact rfl|exact⟨rfl,bH _ (by decide)⟩| (simp only[cN,maxLen,lens];omega)) ?_
  refine W.r0 X [1,2,5,6] rfl ⟨⟩ ?_
  refine⟨k+1,by omega,by omega,?_⟩
  rw[aV _ k rfl (by omega),hs]
  try rfl
 ·try simp only[nb,an,au,af]at hb0
  rw[hw]at hb0
  refine W.exit ?_
  refine W.s0 X [4] rfl ⟨⟩ ?_
  refine W.ret ?_
  exact Fin.ret rfl ⟨by rw[List.take_of_length_le (by omega)],⟨⟩⟩
theorem zo(rows i:Int)(c:List UInt8)(hc:c.length≤1048576):Sound ty Tryz.prog 279 [.a (.lit (.int .i64 rows)), .a (.lit (.int .i64 i)), .a (.sl .u8 c)] [.agg (aH (SM rows i c)), .a (.lit (.bool (uf rows i c)))]:=by
 refine Sound.o X Tryz.call279 Tryz.func279 Tryz.ntmps279 rfl rfl ?_
 intro zb
 have hz:=EJ rows
 refine W.s0 X [0,1,2,6] rfl ⟨⟩ ?_
 refine W.seq ?_
 refine W.sr X [] [(9,⟨false,[.a (.lit (.bool (inr rows 1 64)))]⟩)] [0,1,2,6,10] [] rfl (by(repeat' with_reducible first|exact ah.nil|refine ah.mk ?_ ?_|apply And.intro)<;>first|exact(aE rows 1 64)) ?_
 refine W.cond rfl (fun hb0=> ?_) (fun hb0=> ?_)
 ·have hk:inr rows 1 64=false:=by simpa using hb0
  refine W.s0 X [6,7] rfl (by and_intros<;>exact⟨⟩) ?_
  refine W.ret ?_
  exact Fin.ret rfl ⟨by rw[SM,hk];rfl,by rw[uf,hk];rfl,⟨⟩⟩
 ·have hk:inr rows 1 64=true:=by simpa using hb0
  refine W.skip ?_
  refine W.sr X [] [(13,⟨true,[.agg (aH (cT rows))]⟩),(16,⟨true,[.agg (aH (uN (cT rows) i c)), .a (.lit (.bool (jy (cT rows) i c)))]⟩)] [6,7] [] rfl (by(repeat' with_reducible first|exact ah.nil|refine ah.mk ?_ ?_|apply And.intro);(iterate 2 all_goals try first|exact(mY rows)|exact(xA (cT rows) i c (by first|assumption|omega| (simp;done)| (simp;omega)) (by first|assumption|omega| (simp;done)| (simp;omega))))) ?_
  refine W.ret ?_
  exact Fin.ret rfl ⟨by rw[SM,if_pos hk],by rw[uf,hk];rfl,⟨⟩⟩
end
section
set_option maxRecDepth 100000
theorem zq(rows i:Int)(c:List UInt8)(sd:List Int)(hc:c.length≤1048576)(rM:sd.length≤1048576):Sound ty Tryz.prog 198 [.a (.lit (.int .i64 rows)), .a (.lit (.int .i64 i)), .a (.sl .u8 c), .a (.sl .int sd)] [.a (.sl .DB (oX rows i c sd))]:=by
 refine Sound.o X Tryz.call198 Tryz.func198 Tryz.ntmps198 rfl rfl ?_
 intro zb
 refine W.s0 X [0,1,2,3] rfl ⟨⟩ ?_
 refine W.sr X [] [(20,⟨true,[.agg (aH (SM rows i c)), .a (.lit (.bool (uf rows i c)))]⟩)] [0,3,9,10] [] rfl (by(repeat' with_reducible first|exact ah.nil|refine ah.mk ?_ ?_|apply And.intro)<;>first|exact(zo rows i c (by first|assumption|omega| (simp;done)| (simp;omega)))) ?_
 refine W.seq ?_
 refine W.sr X [] [(29,⟨false,[.a (.lit (.bool (cE (IntKind.i64.wrap ((sd.length:Int)+1)))))]⟩)] [0,3,9,31] [] rfl (by(repeat' with_reducible first|exact ah.nil|refine ah.mk ?_ ?_|apply And.intro)<;>first|exact fun _=>(dI (IntKind.i64.wrap ((sd.length:Int)+1)))) ?_
 refine W.cond rfl (fun hb0=> ?_) (fun hb0=> ?_)
 ·have hmk:sH rows i c sd=false:=bD hb0 (by simp only[sH,aF]<;>first|rfl|ac_rfl)
  refine W.s0 X [8] rfl ⟨⟩ ?_
  refine W.ret ?_
  exact Fin.ret rfl ⟨by rw[oX,if_neg (by rw[hmk];decide)],⟨⟩⟩
 ·have hmk:sH rows i c sd=true:=bA hb0 (by simp only[sH,aF]<;>first|rfl|ac_rfl)
  have hml:=Ik hmk rM
  have hun:=Kl hml.1
  refine W.skip ?_
  refine W.s0 X [0,3,9,11] rfl (by and_intros<;>first|exact⟨⟩|exact rfl) ?_
  refine W.seq ?_
  refine W.s0 X [0,9,11,33,34,35] rfl ⟨⟩ ?_
  refine W.block ?_
  refine W.aI (fun k=>k≤sd.length) (fun k:Nat=> [(35, .one (.a (.lit (.int .i64 k))))]) (fun k=> [(32, .arr .DB ((sd.take k).map fun s=>Kk s rows)),(20, .arr (.sl .u8) (qB rows i c (sd.take k)).rows)]) (fun k=>sd.length-k) 0 (fun k=>rfl) (Nat.zero_le _) rfl ?_
  intro k hk
  have hle:=aZ sd k
  have hlo:=CZ hml.1 (sd.take k)
  have hlz:=dj hlo
  refine W.s0 X [0,9,11,33,34,35,36] rfl ⟨⟩ ?_
  refine W.seq ?_
  refine W.cond rfl (fun aD=> ?_) (fun aD=> ?_)
  ·try simp only[nb,an,au,af]at aD
   have hs:=lG (fun s=>Kk s rows) sd k (av .int) aD
   have Av:=CY rows i c sd k aD
   have hmo:=F9 (sd.getD k (av .int)) rows hun.2.2
   have hmz:=dj hmo
   refine W.skip ?_
   refine W.seq ?_
   refine W.block ?_
   refine W.s0 X [0,9,11,13,33,34,35] rfl (by and_intros<;>first|exact⟨⟩| (intros;omega)) ?_
   refine W.s0 X [0,9,11,13,14,33,34,35] rfl ⟨⟩ ?_
   refine W.mX 14 0 60 (.sl .u8) rfl ?_
   refine W.seq ?_
   refine W.s0 X [0,9,11,13,14,33,34,35,40,41] rfl ⟨⟩ ?_
   refine W.block ?_
   refine W.aI (fun k1=>k1≤rows.toNat) (fun k1:Nat=> [(41, .one (.a (.lit (.int .i64 k1))))]) (fun k1=> [(60, .arr (.sl .u8) ((gk (sd.getD k (av .int)) rows).take k1))]) (fun k1=>rows.toNat-k1) 0 (fun k1=>rfl) (Nat.zero_le _) rfl ?_
   intro k1 hk1
   have U2:=aZ (gk (sd.getD k (av .int)) rows) k1
   refine W.s0 X [0,9,11,13,14,33,34,35,40,41,42] rfl ⟨⟩ ?_
   refine W.seq ?_
   refine W.cond rfl (fun aR=> ?_) (fun aR=> ?_)
   ·try simp only[nb,an,au,af]at aR
    have hs1:=xE (sd.getD k (av .int)) rows k1 (by omega)
    refine W.skip ?_
    refine W.seq ?_
    refine W.block ?_
    refine W.s0 X [0,9,11,13,14,15,33,34,35,40,41] rfl ⟨⟩ ?_
    refine W.draw X [(52,60)] [(50,⟨true,[.a (.sl .u8 (stream (IntKind.i64.wrap ((sd.getD k (av .int))+IntKind.i64.wrap (1000*(k1:Int)))) (24:Int).toNat))]⟩),(500051,⟨true,[]⟩)] [0,9,11,13,14,33,34,35,40,41] [] 8 MO (by kernel_rfl) rfl (by(repeat' with_reducible first|exact ah.nil|refine ah.mk ?_ ?_|apply And.intro)<;>first|exact(je (IntKind.i64.wrap ((sd.getD k (av .int))+IntKind.i64.wrap (1000*(k1:Int)))) 24 (by first|assumption|omega| (simp;done)| (simp;omega)) (by first|assumption|omega| (simp;done)| (simp;omega)))|exact rfl|exact⟨rfl,bH _ (by decide)⟩| (simp only[cN,maxLen,lens];omega)) ?_
    refine W.r0 X [0,9,11,13,14,33,34,35,40,41] rfl ⟨⟩ ?_
    refine⟨k1+1,by omega,by omega,?_⟩
    rw[aV _ k1 rfl (by omega),hs1]
    try rfl
   ·try simp only[nb,an,au,af]at aR
    rw[List.take_of_length_le (show(gk (sd.getD k (av .int)) rows).length≤k1 by rw[nP];omega)]
    refine W.exit ?_
    refine W.seq ?_
    refine W.P6 X [(58,32)] [] [0,9,11,14,33,34,35] 2 32 rfl (by and_intros<;>first|exact⟨⟩|exact rfl| (simp only[cN,maxLen,lens];omega)) ?_
    refine W.fH X [] [(62,⟨true,[.agg (aH (fC (qB rows i c (sd.take k)) (Kk (sd.getD k (av .int)) rows))), .a (.lit (.bool (gw (qB rows i c (sd.take k)) (Kk (sd.getD k (av .int)) rows))))]⟩)] [0,9,11,33,34,35] [] rfl (by(repeat' with_reducible first|exact ah.nil|refine ah.mk ?_ ?_|apply And.intro)<;>first|exact(iq (qB rows i c (sd.take k)) (Kk (sd.getD k (av .int)) rows) (by first|assumption|omega| (simp;done)| (simp;omega)) (by first|assumption|omega| (simp;done)| (simp;omega)))) ?_
    refine W.kY 9 0 20 rfl ?_
    refine W.r0 X [0,9,11,33,34,35] rfl ⟨⟩ ?_
    refine⟨k+1,by omega,by omega,?_⟩
    rw[aV _ k rfl (by omega),hs,Av]
    try rfl
  ·try simp only[nb,an,au,af]at aD
   refine W.exit ?_
   refine W.sr X [(69,32)] [] [8] [] rfl (by and_intros<;>first|exact⟨⟩|exact rfl| (simp only[cN,maxLen,lens];omega)) ?_
   refine W.ret ?_
   exact Fin.ret rfl ⟨by rw[List.take_of_length_le aD,oX,if_pos hmk],⟨⟩⟩
theorem DO(rows i:Int)(c:List UInt8):Sound ty Tryz.prog 307 [.a (.lit (.int .i64 rows)), .a (.lit (.int .i64 i)), .a (.sl .u8 c)] [.a (.lit (.bool (uf rows i c)))]:=by
 refine Sound.o X Tryz.call307 Tryz.func307 Tryz.ntmps307 rfl rfl ?_
 intro zb
 refine W.s0 X [0,1,2] rfl ⟨⟩ ?_
 refine W.sr X [] [(8,⟨false,[.a (.lit (.bool (inr rows 1 64)))]⟩),(13,⟨false,[.a (.lit (.bool (inr i 0 (IntKind.i64.wrap (rows-1)))))]⟩)] [6] [] rfl (by(repeat' with_reducible first|exact ah.nil|refine ah.mk ?_ ?_|apply And.intro);(iterate 2 all_goals try first|exact(aP rows 1 64)|exact fun _=>(aP i 0 (IntKind.i64.wrap (rows-1))))) ?_
 refine W.ret ?_
 exact Fin.ret rfl ⟨by rw[Il];exact(congrArg Value.bool (by simp only[aF]<;>first|rfl|ac_rfl)),⟨⟩⟩
theorem zu(rows i:Int)(c:List UInt8)(sd:List Int)(hc:c.length≤1048576)(rM:sd.length≤1048576):Sound ty Tryz.prog 244 [.a (.lit (.int .i64 rows)), .a (.lit (.int .i64 i)), .a (.sl .u8 c), .a (.sl .int sd)] [.a (.sl .DB (oX rows i c sd))]:=by
 refine Sound.o X Tryz.call244 Tryz.func244 Tryz.ntmps244 rfl rfl ?_
 intro zb
 have hz:=EJ rows
 refine W.s0 X [0,1,2,3] rfl ⟨⟩ ?_
 refine W.s0 X [0,1,2,3,9] rfl (by and_intros<;>first|exact⟨⟩|exact rfl) ?_
 refine W.seq ?_
 refine W.sr X [] [(19,⟨false,[.a (.lit (.bool (uf rows i c)))]⟩),(25,⟨false,[.a (.lit (.bool (cE (IntKind.i64.wrap ((sd.length:Int)+1)))))]⟩)] [0,1,2,3,9,27] [] rfl (by(repeat' with_reducible first|exact ah.nil|refine ah.mk ?_ ?_|apply And.intro);(iterate 2 all_goals try first|exact(DO rows i c)|exact fun _=>(gI (IntKind.i64.wrap ((sd.length:Int)+1))))) ?_
 refine W.cond rfl (fun hb0=> ?_) (fun hb0=> ?_)
 ·have hmk:sH rows i c sd=false:=bD hb0 (by simp only[sH,aF]<;>first|rfl|ac_rfl)
  refine W.s0 X [8] rfl ⟨⟩ ?_
  refine W.ret ?_
  exact Fin.ret rfl ⟨by rw[oX,if_neg (by rw[hmk];decide)],⟨⟩⟩
 ·have hmk:sH rows i c sd=true:=bA hb0 (by simp only[sH,aF]<;>first|rfl|ac_rfl)
  have hml:=Ik hmk rM
  have hun:=Kl hml.1
  refine W.skip ?_
  refine W.sr X [] [(31,⟨true,[.agg (aH (cT rows))]⟩),(34,⟨true,[.agg (aH (uN (cT rows) i c)), .a (.lit (.bool (jy (cT rows) i c)))]⟩)] [0,3,9,10] [] rfl (by(repeat' with_reducible first|exact ah.nil|refine ah.mk ?_ ?_|apply And.intro);(iterate 2 all_goals try first|exact(mZ rows)|exact(xC (cT rows) i c (by first|assumption|omega| (simp;done)| (simp;omega)) (by first|assumption|omega| (simp;done)| (simp;omega))))) ?_
  rw[SP hmk]
  refine W.seq ?_
  refine W.s0 X [0,3,9,10,12] rfl ⟨⟩ ?_
  refine W.block ?_
  refine W.aI (fun k=>k≤sd.length) (fun k:Nat=> [(12, .one (.a (.lit (.int .i64 k))))]) (fun k=> [(15, .arr .DB ((sd.take k).map fun s=>Kk s rows)),(34, .arr (.sl .u8) (qB rows i c (sd.take k)).rows)]) (fun k=>sd.length-k) 0 (fun k=>rfl) (Nat.zero_le _) rfl ?_
  intro k hk
  have hle:=aZ sd k
  have hlo:=CZ hml.1 (sd.take k)
  have hlz:=dj hlo
  refine W.seq ?_
  refine W.s0 X [0,3,9,10,12,40] rfl ⟨⟩ ?_
  refine W.cond rfl (fun aD=> ?_) (fun aD=> ?_)
  ·try simp only[nb,an,au,af]at aD
   have hs:=lG (fun s=>Kk s rows) sd k (av .int) aD
   have Av:=CY rows i c sd k aD
   have hmo:=F9 (sd.getD k (av .int)) rows hun.2.2
   have hmz:=dj hmo
   refine W.skip ?_
   refine W.seq ?_
   refine W.block ?_
   refine W.s0 X [0,3,9,10,12,13] rfl ⟨⟩ ?_
   refine W.mX 13 0 60 (.sl .u8) rfl ?_
   refine W.seq ?_
   refine W.s0 X [0,3,9,10,12,13,14] rfl ⟨⟩ ?_
   refine W.block ?_
   refine W.aI (fun k1=>k1≤rows.toNat) (fun k1:Nat=> [(14, .one (.a (.lit (.int .i64 k1))))]) (fun k1=> [(60, .arr (.sl .u8) ((gk (sd.getD k (av .int)) rows).take k1))]) (fun k1=>rows.toNat-k1) 0 (fun k1=>rfl) (Nat.zero_le _) rfl ?_
   intro k1 hk1
   have U2:=aZ (gk (sd.getD k (av .int)) rows) k1
   refine W.seq ?_
   refine W.s0 X [0,3,9,10,12,13,14,46] rfl ⟨⟩ ?_
   refine W.cond rfl (fun aR=> ?_) (fun aR=> ?_)
   ·try simp only[nb,an,au,af]at aR
    have hs1:=xE (sd.getD k (av .int)) rows k1 (by omega)
    refine W.skip ?_
    refine W.seq ?_
    refine W.block ?_
    refine W.draw X [(60,60)] [(58,⟨true,[.a (.sl .u8 (stream (IntKind.i64.wrap ((sd.getD k (av .int))+IntKind.i64.wrap (1000*(k1:Int)))) (24:Int).toNat))]⟩),(500059,⟨true,[]⟩)] [0,3,9,10,12,13,14] [] 11 MO (by kernel_rfl) rfl (by(repeat' with_reducible first|exact ah.nil|refine ah.mk ?_ ?_|apply And.intro)<;>first|exact(jf (IntKind.i64.wrap ((sd.getD k (av .int))+IntKind.i64.wrap (1000*(k1:Int)))) 24 (by first|assumption|omega| (simp;done)| (simp;omega)) (by first|assumption|omega| (simp;done)| (simp;omega)))| (intros;omega)|exact rfl|exact⟨rfl,bH _ (by decide)⟩| (simp only[cN,maxLen,lens];omega)) ?_
    refine W.r0 X [0,3,9,10,12,13,14] rfl ⟨⟩ ?_
    refine⟨k1+1,by omega,by omega,?_⟩
    rw[aV _ k1 rfl (by omega),hs1]
    try rfl
   ·try simp only[nb,an,au,af]at aR
    rw[List.take_of_length_le (show(gk (sd.getD k (av .int)) rows).length≤k1 by rw[nP];omega)]
    refine W.exit ?_
    refine W.sr X [] [(65,⟨true,[.agg (aH (fC (qB rows i c (sd.take k)) (Kk (sd.getD k (av .int)) rows))), .a (.lit (.bool (gw (qB rows i c (sd.take k)) (Kk (sd.getD k (av .int)) rows))))]⟩)] [0,3,9,10,12,13] [] rfl (by(repeat' with_reducible first|exact ah.nil|refine ah.mk ?_ ?_|apply And.intro)<;>first|exact(ir (qB rows i c (sd.take k)) (Kk (sd.getD k (av .int)) rows) (by first|assumption|omega| (simp;done)| (simp;omega)) (by first|assumption|omega| (simp;done)| (simp;omega)))) ?_
    refine W.kY 10 0 34 rfl ?_
    refine W.fH X [(71,15)] [] [0,3,9,10,12] [] rfl (by and_intros<;>first|exact⟨⟩|exact rfl| (simp only[cN,maxLen,lens];omega)) ?_
    refine W.r0 X [0,3,9,10,12] rfl ⟨⟩ ?_
    refine⟨k+1,by omega,by omega,?_⟩
    rw[aV _ k rfl (by omega),hs,Av]
    try rfl
  ·try simp only[nb,an,au,af]at aD
   refine W.exit ?_
   refine W.sr X [(75,15)] [] [8] [] rfl (by and_intros<;>first|exact⟨⟩|exact rfl| (simp only[cN,maxLen,lens];omega)) ?_
   refine W.ret ?_
   exact Fin.ret rfl ⟨by rw[List.take_of_length_le aD,oX,if_pos hmk],⟨⟩⟩
end
section
set_option maxRecDepth 100000
theorem vI(x:aN)(c:Int)(qy:x.aj.length≤1048576):Sound ty Tryz.prog 121 [.agg (ay x), .a (.lit (.int .i64 c))] [.a (.sl .DB (gm x c))]:=by
 refine Sound.o X Tryz.call121 Tryz.func121 Tryz.ntmps121 rfl rfl ?_
 intro zb
 refine W.bS 0 2 rfl rfl (fun iI=> ?_)
 have zZ:=C0 (zv x c) x.round x.rows
 have Y3:=jl x c
 refine W.s0 X [1,2] rfl ⟨⟩ ?_
 refine W.seq ?_
 refine W.sr X [] [(9,⟨false,[.a (.lit (.bool (okW x)))]⟩),(14,⟨false,[.a (.lit (.bool (jh x c)))]⟩)] [1,2,16] [] rfl (by(repeat' with_reducible first|exact ah.nil|refine ah.mk ?_ ?_|apply And.intro);(iterate 2 all_goals try first|exact(bM x)|exact fun _=>(eF x c))) ?_
 refine W.cond rfl (fun hb0=> ?_) (fun hb0=> ?_)
 ·have hk:Io x c=false:=bD hb0 (by simp only[Io,aF]<;>first|rfl|ac_rfl)
  refine W.s0 X [4] rfl ⟨⟩ ?_
  refine W.ret ?_
  exact Fin.ret rfl ⟨by rw[gm,if_neg (by rw[hk];decide)],⟨⟩⟩
 ·have hk:Io x c=true:=bA hb0 (by simp only[Io,aF]<;>first|rfl|ac_rfl)
  have hkc:=Vf hk
  refine W.skip ?_
  refine W.sd X [] [(28,⟨true,[.a (.lit (.int .i64 (jS (zv x c) x.round x.rows))), .a (.sl .u8 (eP (zv x c) x.round x.rows)), .a (.lit (.bool (mw (zv x c) x.round x.rows)))]⟩)] [1,2,5,6,7] [] 18 MO (by kernel_rfl) rfl (by(repeat' with_reducible first|exact ah.nil|refine ah.mk ?_ ?_|apply And.intro)<;>first|exact(vB (zv x c) x.round x.rows)| (intros;omega)) ?_
  refine W.seq ?_
  refine W.s0 X [1,2,5,6,33] rfl ⟨⟩ ?_
  refine W.cond rfl (fun aD=> ?_) (fun aD=> ?_)
  ·have hw:mw (zv x c) x.round x.rows=false:=by simpa using aD
   refine W.s0 X [4] rfl ⟨⟩ ?_
   refine W.ret ?_
   exact Fin.ret rfl ⟨by rw[gm,if_pos hk,Im hw],⟨⟩⟩
  ·skip
   refine W.skip ?_
   refine W.sd X [] [(40,⟨true,[.a (.sl .int (fW x c))]⟩),(41,⟨true,[.a (.sl .DB (oX x.rows (jS (zv x c) x.round x.rows) (eP (zv x c) x.round x.rows) (fW x c)))]⟩)] [4] [] 9 MO (by kernel_rfl) rfl (by(repeat' with_reducible first|exact ah.nil|refine ah.mk ?_ ?_|apply And.intro);(iterate 2 all_goals try first|exact(xB x c (by first|assumption|omega| (simp;done)| (simp;omega)))|exact(zq x.rows (jS (zv x c) x.round x.rows) (eP (zv x c) x.round x.rows) (fW x c) (by first|assumption|omega| (simp;done)| (simp;omega)) (by first|assumption|omega| (simp;done)| (simp;omega))))) ?_
   refine W.ret ?_
   exact Fin.ret rfl ⟨by rw[gm,if_pos hk];rfl,⟨⟩⟩
theorem zw(x:aN)(c:Int)(qy:x.aj.length≤1048576)(hc:0≤c∧c<x.aa.length):Sound ty Tryz.prog 168 [.agg (ay x), .a (.lit (.int .i64 c))] [.a (.sl .DB (cM x c))]:=by
 refine Sound.o X Tryz.call168 Tryz.func168 Tryz.ntmps168 rfl rfl ?_
 intro zb
 refine W.bS 0 2 rfl rfl (fun iI=> ?_)
 have zZ:=C0 (zv x c) x.round x.rows
 have Y3:=jl x c
 refine W.s0 X [1,2] rfl ⟨⟩ ?_
 refine W.sd X [] [(19,⟨true,[.a (.lit (.int .i64 (jS (zv x c) x.round x.rows))), .a (.sl .u8 (eP (zv x c) x.round x.rows)), .a (.lit (.bool (mw (zv x c) x.round x.rows)))]⟩)] [1,2,5,6] [] 18 MO (by kernel_rfl) rfl (by(repeat' with_reducible first|exact ah.nil|refine ah.mk ?_ ?_|apply And.intro)<;>first|exact(vC (zv x c) x.round x.rows)| (intros;omega)) ?_
 refine W.sd X [] [(29,⟨true,[.a (.sl .int (fW x c))]⟩),(30,⟨true,[.a (.sl .DB (oX x.rows (jS (zv x c) x.round x.rows) (eP (zv x c) x.round x.rows) (fW x c)))]⟩)] [4] [] 9 MO (by kernel_rfl) rfl (by(repeat' with_reducible first|exact ah.nil|refine ah.mk ?_ ?_|apply And.intro);(iterate 2 all_goals try first|exact(xD x c (by first|assumption|omega| (simp;done)| (simp;omega)))|exact(zu x.rows (jS (zv x c) x.round x.rows) (eP (zv x c) x.round x.rows) (fW x c) (by first|assumption|omega| (simp;done)| (simp;omega)) (by first|assumption|omega| (simp;done)| (simp;omega))))) ?_
 refine W.ret ?_
 exact Fin.ret rfl ⟨rfl,⟨⟩⟩
end
section
set_option maxRecDepth 100000
theorem gT(m s:Int):Sound ty Tryz.prog 124 [.a (.lit (.int .i64 m)), .a (.lit (.int .i64 s))] [.a (.lit (.int .i64 (fI m s)))]:=by
 refine Sound.o X Tryz.call124 Tryz.func124 Tryz.ntmps124 rfl rfl ?_
 intro zb
 refine W.s0 X [0,1] rfl ⟨⟩ ?_
 refine W.sr X [] [(8,⟨false,[.a (.lit (.int .i64 (kh m [173,s])))]⟩),(9,⟨false,[.a (.lit (.int .i64 (M8 (kh m [173,s]))))]⟩)] [4] [] rfl (by(repeat' with_reducible first|exact ah.nil|refine ah.mk ?_ ?_|apply And.intro);(iterate 2 all_goals try first|exact(bt m [173,s] (by first|assumption|omega| (simp;done)| (simp;omega)))|exact(qd (kh m [173,s])));all_goals first|exact⟨rfl,bH _ (by decide)⟩) ?_
 refine W.ret ?_
 exact Fin.ret rfl ⟨rfl,⟨⟩⟩
theorem qL(d:DB)(hs0:bL List.length d.rows≤1048576):Sound ty Tryz.prog 283 [.agg (aH d)] [.a (.lit (.int .i64 (Gb d)))]:=by
 refine Sound.o X Tryz.call283 Tryz.func283 Tryz.ntmps283 rfl rfl ?_
 intro zb
 have jr:d.rows.length≤1048576:=cg hs0
 refine W.s0 X [1] rfl ⟨⟩ ?_
 refine W.s0 X [1,3] rfl (by and_intros<;>first|exact⟨⟩|exact rfl) ?_
 refine W.seq ?_
 refine W.s0 X [3,11,12,13] rfl ⟨⟩ ?_
 refine W.block ?_
 refine W.aI (fun k=>k≤d.rows.length) (fun k:Nat=> [(13, .one (.a (.lit (.int .i64 k))))]) (fun k=> [(9, .arr .int ((d.rows.length:Int)::(d.rows.take k).flatMap yR))]) (fun k=>d.rows.length-k) 0 (fun k=>rfl) (Nat.zero_le _) rfl ?_
 intro k hk
 have wE:=Qh d.rows k
 refine W.s0 X [3,11,12,13,14] rfl ⟨⟩ ?_
 refine W.seq ?_
 refine W.cond rfl (fun hb0=> ?_) (fun hb0=> ?_)
 ·try simp only[nb,an,au,af]at hb0
  have hs:=LG d.rows k hb0
  have hel:(d.rows.getD k (av (.sl .u8))).length≤1048576:=eL (f:=List.length) hs0 (getD_some d.rows _ k hb0)
  have DA:=qm (d.rows.getD k (av (.sl .u8)))
  refine W.skip ?_
  refine W.seq ?_
  refine W.block ?_
  refine W.s0 X [3,5,11,12,13] rfl (by and_intros<;>first|exact⟨⟩| (intros;omega)) ?_
  refine W.fH X [(20,9)] [(19,⟨true,[.a (.sl .int (yR (d.rows.getD k (av (.sl .u8)))))]⟩)] [3,11,12,13] [] rfl (by(repeat' with_reducible first|exact ah.nil|refine ah.mk ?_ ?_|apply And.intro)<;>first|exact(mP (d.rows.getD k (av (.sl .u8))) (by first|assumption|omega| (simp;done)| (simp;omega)))|exact rfl| (simp only[cN,maxLen,lens];omega)) ?_
  refine W.r0 X [3,11,12,13] rfl ⟨⟩ ?_
  refine⟨k+1,by omega,by omega,?_⟩
  rw[aV _ k rfl (by omega),hs]
  try rfl
 ·try simp only[nb,an,au,af]at hb0
  refine W.exit ?_
  refine W.sr X [] [(23,⟨false,[.a (.lit (.int .i64 (hsh ((d.rows.length:Int)::(d.rows.take k).flatMap yR))))]⟩)] [2] [] rfl (by(repeat' with_reducible first|exact ah.nil|refine ah.mk ?_ ?_|apply And.intro)<;>first|exact(sj ((d.rows.length:Int)::(d.rows.take k).flatMap yR) (by simp only[List.length_cons];omega))) ?_
  refine W.ret ?_
  exact Fin.ret rfl ⟨by rw[List.take_of_length_le hb0];rfl,⟨⟩⟩
theorem m5(c r:Int)(d:DB)(hs0:bL List.length d.rows≤1048576):Sound ty Tryz.prog 204 [.a (.lit (.int .i64 c)), .a (.lit (.int .i64 r)), .agg (aH d)] [.a (.lit (.int .i64 (qn c r d)))]:=by
 refine Sound.o X Tryz.call204 Tryz.func204 Tryz.ntmps204 rfl rfl ?_
 intro zb
 refine W.s0 X [0,1,5] rfl ⟨⟩ ?_
 refine W.sr X [] [(10,⟨false,[.a (.lit (.int .i64 (Gb d)))]⟩),(12,⟨false,[.a (.lit (.int .i64 (hsh [179,c,r,Gb d])))]⟩)] [6] [] rfl (by(repeat' with_reducible first|exact ah.nil|refine ah.mk ?_ ?_|apply And.intro);(iterate 2 all_goals try first|exact(qL d (by first|assumption|omega| (simp;done)| (simp;omega)))|exact(sj [179,c,r,Gb d] (by first|assumption|omega| (simp;done)| (simp;omega))));all_goals first|exact⟨rfl,bH _ (by decide)⟩) ?_
 refine W.ret ?_
 exact Fin.ret rfl ⟨rfl,⟨⟩⟩
theorem nQ(key:Int)(r:cU):Sound ty Tryz.prog 205 [.a (.lit (.int .i64 key)), .agg (gN r)] [.a (.lit (.int .i64 (Ir key r.server r.client r.round r.iU)))]:=by
 refine Sound.o X Tryz.call205 Tryz.func205 Tryz.ntmps205 rfl rfl ?_
 intro zb
 refine W.s0 X [0,3] rfl ⟨⟩ ?_
 refine W.sr X [] [(15,⟨false,[.a (.lit (.int .i64 (kh key [181,r.server,r.client,r.round,r.iU])))]⟩)] [4] [] rfl (by(repeat' with_reducible first|exact ah.nil|refine ah.mk ?_ ?_|apply And.intro)<;>first|exact(bt key [181,r.server,r.client,r.round,r.iU] (by first|assumption|omega| (simp;done)| (simp;omega)))|exact⟨rfl,bH _ (by decide)⟩) ?_
 refine W.ret ?_
 exact Fin.ret rfl ⟨rfl,⟨⟩⟩
theorem vK(key s c r:Int)(d:DB)(hs0:bL List.length d.rows≤1048576):Sound ty Tryz.prog 123 [.a (.lit (.int .i64 key)), .a (.lit (.int .i64 s)), .a (.lit (.int .i64 c)), .a (.lit (.int .i64 r)), .agg (aH d)] [.agg (gN (VY key s c r d))]:=by
 refine Sound.o X Tryz.call123 Tryz.func123 Tryz.ntmps123 rfl rfl ?_
 intro zb
 refine W.s0 X [0,1,2,3,9,10] rfl ⟨⟩ ?_
 refine W.sr X [] [(18,⟨false,[.a (.lit (.int .i64 (qn c r d)))]⟩)] [0,10,11] [] rfl (by(repeat' with_reducible first|exact ah.nil|refine ah.mk ?_ ?_|apply And.intro)<;>first|exact(m5 c r d (by first|assumption|omega| (simp;done)| (simp;omega)))) ?_
 refine W.sr X [] [(22,⟨false,[.a (.lit (.int .i64 (Ir key (⟨s,c,r,qn c r d,0⟩:cU).server (⟨s,c,r,qn c r d,0⟩:cU).client (⟨s,c,r,qn c r d,0⟩:cU).round (⟨s,c,r,qn c r d,0⟩:cU).iU)))]⟩)] [10,11] [] rfl (by(repeat' with_reducible first|exact ah.nil|refine ah.mk ?_ ?_|apply And.intro)<;>first|exact(nQ key (⟨s,c,r,qn c r d,0⟩:cU))) ?_
 refine W.s0 X [10] rfl (by and_intros<;>exact⟨⟩) ?_
 refine W.ret ?_
 exact Fin.ret rfl ⟨rfl,rfl,rfl,rfl,rfl,⟨⟩⟩
theorem gq(s:aU)(hz:s.received.length≤1048576∧ ∀r,r∈s.received→bL List.length r.share.rows≤1048576):Sound ty Tryz.prog 195 [.agg (bw s)] [.agg (bw s)]:=by
 refine Sound.o X Tryz.call195 Tryz.func195 Tryz.ntmps195 rfl rfl ?_
 intro zb
 refine W.s0 X [1,2] rfl ⟨⟩ ?_
 refine W.s0 X [1,2,3] rfl (by and_intros<;>first|exact⟨⟩|exact rfl) ?_
 refine W.seq ?_
 refine W.s0 X [1,2,3,8,9,10] rfl ⟨⟩ ?_
 refine W.block ?_
 refine W.aI (fun k=>k≤s.received.length) (fun k:Nat=> [(10, .one (.a (.lit (.int .i64 k))))]) (fun k=> [(6, .arr .aB (s.received.take k))]) (fun k=>s.received.length-k) 0 (fun k=>rfl) (Nat.zero_le _) rfl ?_
 intro k hk
 have hle:=aZ s.received k
 refine W.s0 X [1,2,3,8,9,10,11] rfl ⟨⟩ ?_
 refine W.seq ?_
 refine W.cond rfl (fun hb0=> ?_) (fun hb0=> ?_)
 ·try simp only[nb,an,au,af]at hb0
  have hs:=bf s.received k (av .aB) hb0
  refine W.skip ?_
  refine W.seq ?_
  refine W.block ?_
  refine W.s0 X [1,2,3,5,8,9,10] rfl (by and_intros<;>first|exact⟨⟩| (intros;omega)) ?_
  refine W.draw X [(22,6)] [(19,⟨true,[.agg (aH ((s.received.getD k (av .aB)).share))]⟩),(500021,⟨true,[]⟩)] [1,2,3,8,9,10] [] 8 MO (by kernel_rfl) rfl (by(repeat' with_reducible first|exact ah.nil|refine ah.mk ?_ ?_|apply And.intro)<;>first|exact(bZ ((s.received.getD k (av .aB)).share) (hz.2 _ (getD_in _ hb0)))|exact rfl|exact⟨rfl,bH _ (by decide)⟩| (simp only[cN,maxLen,lens];omega)) ?_
  refine W.r0 X [1,2,3,8,9,10] rfl ⟨⟩ ?_
  refine⟨k+1,by omega,by omega,?_⟩
  rw[aV _ k rfl (by omega),hs]
  try rfl
 ·try simp only[nb,an,au,af]at hb0
  refine W.exit ?_
  refine W.s0 X [1,2] rfl ⟨⟩ ?_
  refine W.s0 X [2] rfl (by and_intros<;>exact⟨⟩) ?_
  refine W.ret ?_
  exact Fin.ret rfl ⟨rfl,rfl,rfl,by rw[List.take_of_length_le hb0],rfl,⟨⟩⟩
theorem m6(l:List aU)(hl:l.length≤1048576)(hz: ∀s,s∈l→m3 s):Sound ty Tryz.prog 118 [.a (.sl .aU l)] [.a (.sl .aU l)]:=by
 refine Sound.o X Tryz.call118 Tryz.func118 Tryz.ntmps118 rfl rfl ?_
 intro zb
 refine W.s0 X [0] rfl ⟨⟩ ?_
 refine W.s0 X [0,3] rfl (by and_intros<;>first|exact⟨⟩|exact rfl) ?_
 refine W.seq ?_
 refine W.s0 X [3,7,8,9] rfl ⟨⟩ ?_
 refine W.block ?_
 refine W.aI (fun k=>k≤l.length) (fun k:Nat=> [(9, .one (.a (.lit (.int .i64 k))))]) (fun k=> [(6, .arr .aU (l.take k))]) (fun k=>l.length-k) 0 (fun k=>rfl) (Nat.zero_le _) rfl ?_
 intro k hk
 have hle:=aZ l k
 refine W.s0 X [3,7,8,9,10] rfl ⟨⟩ ?_
 refine W.seq ?_
 refine W.cond rfl (fun hb0=> ?_) (fun hb0=> ?_)
 ·try simp only[nb,an,au,af]at hb0
  have hs:=bf l k (av .aU) hb0
  refine W.skip ?_
  refine W.seq ?_
  refine W.block ?_
  refine W.s0 X [3,5,7,8,9] rfl (by and_intros<;>first|exact⟨⟩| (intros;omega)) ?_
  refine W.fH X [(17,6)] [(15,⟨true,[.agg (bw (l.getD k (av .aU)))]⟩)] [3,7,8,9] [] rfl (by(repeat' with_reducible first|exact ah.nil|refine ah.mk ?_ ?_|apply And.intro)<;>first|exact(gq (l.getD k (av .aU)) (hz _ (getD_in _ hb0)))|exact rfl| (simp only[cN,maxLen,lens];omega)) ?_
  refine W.r0 X [3,7,8,9] rfl ⟨⟩ ?_
  refine⟨k+1,by omega,by omega,?_⟩
  rw[aV _ k rfl (by omega),hs]
  try rfl
 ·try simp only[nb,an,au,af]at hb0
  refine W.exit ?_
  refine W.s0 X [2] rfl ⟨⟩ ?_
  refine W.ret ?_
  exact Fin.ret rfl ⟨by rw[List.take_of_length_le hb0],⟨⟩⟩
theorem gU(m s:Int):Sound ty Tryz.prog 171 [.a (.lit (.int .i64 m)), .a (.lit (.int .i64 s))] [.a (.lit (.int .i64 (fI m s)))]:=by
 refine Sound.o X Tryz.call171 Tryz.func171 Tryz.ntmps171 rfl rfl ?_
 intro zb
 refine W.s0 X [0,1] rfl ⟨⟩ ?_
 refine W.sr X [] [(8,⟨false,[.a (.lit (.int .i64 (kh m [173,s])))]⟩),(9,⟨false,[.a (.lit (.int .i64 (if(kh m [173,s])>1 then(kh m [173,s])else 1)))]⟩)] [4] [] rfl (by(repeat' with_reducible first|exact ah.nil|refine ah.mk ?_ ?_|apply And.intro);(iterate 2 all_goals try first|exact(bu m [173,s] (by first|assumption|omega| (simp;done)| (simp;omega)))|exact(kH 1 (kh m [173,s])));all_goals first|exact⟨rfl,bH _ (by decide)⟩) ?_
 refine W.ret ?_
 exact Fin.ret rfl ⟨by rw[Qi],⟨⟩⟩
theorem qM(d:DB)(hs0:bL List.length d.rows≤1048576):Sound ty Tryz.prog 311 [.agg (aH d)] [.a (.lit (.int .i64 (Gb d)))]:=by
 refine Sound.o X Tryz.call311 Tryz.func311 Tryz.ntmps311 rfl rfl ?_
 intro zb
 have jr:d.rows.length≤1048576:=cg hs0
 refine W.s0 X [1] rfl ⟨⟩ ?_
 refine W.s0 X [1,3] rfl (by and_intros<;>first|exact⟨⟩|exact rfl) ?_
 refine W.seq ?_
 refine W.s0 X [1,3,4] rfl ⟨⟩ ?_
 refine W.block ?_
 refine W.aI (fun k=>k≤d.rows.length) (fun k:Nat=> [(4, .one (.a (.lit (.int .i64 k))))]) (fun k=> [(8, .arr .int ((d.rows.length:Int)::(d.rows.take k).flatMap yR))]) (fun k=>d.rows.length-k) 0 (fun k=>rfl) (Nat.zero_le _) rfl ?_
 intro k hk
 have wE:=Qh d.rows k
 refine W.seq ?_
 refine W.s0 X [1,3,4,13] rfl ⟨⟩ ?_
 refine W.cond rfl (fun hb0=> ?_) (fun hb0=> ?_)
 ·try simp only[nb,an,au,af]at hb0
  have hs:=LG d.rows k hb0
  have hel:(d.rows.getD k (av (.sl .u8))).length≤1048576:=eL (f:=List.length) hs0 (getD_some d.rows _ k hb0)
  have DA:=qm (d.rows.getD k (av (.sl .u8)))
  refine W.skip ?_
  refine W.seq ?_
  refine W.block ?_
  refine W.fH X [(23,8)] [(22,⟨true,[.a (.sl .int (yR (d.rows.getD k (av (.sl .u8)))))]⟩)] [1,3,4] [] rfl (by(repeat' with_reducible first|exact ah.nil|refine ah.mk ?_ ?_|apply And.intro)<;>first|exact(mQ (d.rows.getD k (av (.sl .u8))) (by first|assumption|omega| (simp;done)| (simp;omega)))| (intros;omega)|exact rfl| (simp only[cN,maxLen,lens];omega)) ?_
  refine W.r0 X [1,3,4] rfl ⟨⟩ ?_
  refine⟨k+1,by omega,by omega,?_⟩
  rw[aV _ k rfl (by omega),hs]
  try rfl
 ·try simp only[nb,an,au,af]at hb0
  refine W.exit ?_
  refine W.sr X [] [(25,⟨false,[.a (.lit (.int .i64 (hsh ((d.rows.length:Int)::(d.rows.take k).flatMap yR))))]⟩)] [2] [] rfl (by(repeat' with_reducible first|exact ah.nil|refine ah.mk ?_ ?_|apply And.intro)<;>first|exact(sk ((d.rows.length:Int)::(d.rows.take k).flatMap yR) (by simp only[List.length_cons];omega))) ?_
  refine W.ret ?_
  exact Fin.ret rfl ⟨by rw[List.take_of_length_le hb0];rfl,⟨⟩⟩
theorem m7(c r:Int)(d:DB)(hs0:bL List.length d.rows≤1048576):Sound ty Tryz.prog 246 [.a (.lit (.int .i64 c)), .a (.lit (.int .i64 r)), .agg (aH d)] [.a (.lit (.int .i64 (qn c r d)))]:=by
 refine Sound.o X Tryz.call246 Tryz.func246 Tryz.ntmps246 rfl rfl ?_
 intro zb
 refine W.s0 X [0,1,5] rfl ⟨⟩ ?_
 refine W.sr X [] [(10,⟨false,[.a (.lit (.int .i64 (Gb d)))]⟩),(12,⟨false,[.a (.lit (.int .i64 (hsh [179,c,r,Gb d])))]⟩)] [6] [] rfl (by(repeat' with_reducible first|exact ah.nil|refine ah.mk ?_ ?_|apply And.intro);(iterate 2 all_goals try first|exact(qM d (by first|assumption|omega| (simp;done)| (simp;omega)))|exact(sk [179,c,r,Gb d] (by first|assumption|omega| (simp;done)| (simp;omega))));all_goals first|exact⟨rfl,bH _ (by decide)⟩) ?_
 refine W.ret ?_
 exact Fin.ret rfl ⟨rfl,⟨⟩⟩
theorem nR(key:Int)(r:cU):Sound ty Tryz.prog 247 [.a (.lit (.int .i64 key)), .agg (gN r)] [.a (.lit (.int .i64 (Ir key r.server r.client r.round r.iU)))]:=by
 refine Sound.o X Tryz.call247 Tryz.func247 Tryz.ntmps247 rfl rfl ?_
 intro zb
 refine W.s0 X [0,3] rfl ⟨⟩ ?_
 refine W.sr X [] [(15,⟨false,[.a (.lit (.int .i64 (kh key [181,r.server,r.client,r.round,r.iU])))]⟩)] [4] [] rfl (by(repeat' with_reducible first|exact ah.nil|refine ah.mk ?_ ?_|apply And.intro)<;>first|exact(bu key [181,r.server,r.client,r.round,r.iU] (by first|assumption|omega| (simp;done)| (simp;omega)))|exact⟨rfl,bH _ (by decide)⟩) ?_
 refine W.ret ?_
 exact Fin.ret rfl ⟨rfl,⟨⟩⟩
theorem vL(key s c r:Int)(d:DB)(hs0:bL List.length d.rows≤1048576):Sound ty Tryz.prog 170 [.a (.lit (.int .i64 key)), .a (.lit (.int .i64 s)), .a (.lit (.int .i64 c)), .a (.lit (.int .i64 r)), .agg (aH d)] [.agg (gN (VY key s c r d))]:=by
 refine Sound.o X Tryz.call170 Tryz.func170 Tryz.ntmps170 rfl rfl ?_
 intro zb
 refine W.s0 X [0,1,2,3,9,10] rfl ⟨⟩ ?_
 refine W.sr X [] [(18,⟨false,[.a (.lit (.int .i64 (qn c r d)))]⟩)] [0,10,11] [] rfl (by(repeat' with_reducible first|exact ah.nil|refine ah.mk ?_ ?_|apply And.intro)<;>first|exact(m7 c r d (by first|assumption|omega| (simp;done)| (simp;omega)))) ?_
 refine W.sr X [] [(22,⟨false,[.a (.lit (.int .i64 (Ir key (⟨s,c,r,qn c r d,0⟩:cU).server (⟨s,c,r,qn c r d,0⟩:cU).client (⟨s,c,r,qn c r d,0⟩:cU).round (⟨s,c,r,qn c r d,0⟩:cU).iU)))]⟩)] [10,11] [] rfl (by(repeat' with_reducible first|exact ah.nil|refine ah.mk ?_ ?_|apply And.intro)<;>first|exact(nR key (⟨s,c,r,qn c r d,0⟩:cU))) ?_
 refine W.s0 X [10] rfl (by and_intros<;>exact⟨⟩) ?_
 refine W.ret ?_
 exact Fin.ret rfl ⟨rfl,rfl,rfl,rfl,rfl,⟨⟩⟩
theorem jZ(s:aU)(hz:s.received.length≤1048576∧ ∀r,r∈s.received→bL List.length r.share.rows≤1048576):Sound ty Tryz.prog 98 [.agg (bw s)] [.agg (bw s)]:=by
 refine Sound.o X Tryz.call98 Tryz.func98 Tryz.ntmps98 rfl rfl ?_
 intro zb
 refine W.s0 X [1,2] rfl ⟨⟩ ?_
 refine W.s0 X [1,2,3] rfl (by and_intros<;>exact⟨⟩) ?_
 refine W.s0 X [1,2,3] rfl (by and_intros<;>first|exact⟨⟩|exact rfl) ?_
 refine W.seq ?_
 refine W.s0 X [1,2,3,4] rfl ⟨⟩ ?_
 refine W.block ?_
 refine W.aI (fun k=>k≤s.received.length) (fun k:Nat=> [(4, .one (.a (.lit (.int .i64 k))))]) (fun k=> [(6, .arr .aB (s.received.take k))]) (fun k=>s.received.length-k) 0 (fun k=>rfl) (Nat.zero_le _) rfl ?_
 intro k hk
 have hle:=aZ s.received k
 refine W.seq ?_
 refine W.s0 X [1,2,3,4,12] rfl ⟨⟩ ?_
 refine W.cond rfl (fun hb0=> ?_) (fun hb0=> ?_)
 ·try simp only[nb,an,au,af]at hb0
  have hs:=bf s.received k (av .aB) hb0
  refine W.skip ?_
  refine W.seq ?_
  refine W.block ?_
  refine W.draw X [(32,6)] [(29,⟨true,[.agg (aH ((s.received.getD k (av .aB)).share))]⟩),(500031,⟨true,[]⟩)] [1,2,3,4] [] 17 MO (by kernel_rfl) rfl (by(repeat' with_reducible first|exact ah.nil|refine ah.mk ?_ ?_|apply And.intro)<;>first|exact(dD ((s.received.getD k (av .aB)).share) (hz.2 _ (getD_in _ hb0)))| (intros;omega)|exact rfl|exact⟨rfl,bH _ (by decide)⟩| (simp only[cN,maxLen,lens];omega)) ?_
  refine W.r0 X [1,2,3,4] rfl ⟨⟩ ?_
  refine⟨k+1,by omega,by omega,?_⟩
  rw[aV _ k rfl (by omega),hs]
  try rfl
 ·try simp only[nb,an,au,af]at hb0
  refine W.exit ?_
  refine W.s0 X [2] rfl (by and_intros<;>exact⟨⟩) ?_
  refine W.ret ?_
  exact Fin.ret rfl ⟨rfl,rfl,rfl,by rw[List.take_of_length_le hb0],rfl,⟨⟩⟩
end
section
set_option maxRecDepth 100000
theorem eK(c:dV)(h0:bL List.length c.aq≤1048576∧bL List.length c.inbox≤1048576):Sound ty Tryz.prog 167 [.agg (aX c)] [.agg (aX c)]:=by
 refine Sound.o X Tryz.call167 Tryz.func167 Tryz.ntmps167 rfl rfl ?_
 intro zb
 refine W.s0 X [1,2] rfl ⟨⟩ ?_
 refine W.s0 X [1,2,3] rfl (by and_intros<;>exact⟨⟩) ?_
 refine W.sr X [] [(7,⟨true,[.a (.sl (.sl .u8) c.aq)]⟩)] [1,2,3] [] rfl (by(repeat' with_reducible first|exact ah.nil|refine ah.mk ?_ ?_|apply And.intro)<;>first|exact(ou c.aq h0.1)) ?_
 refine W.sr X [] [(11,⟨true,[.a (.sl (.sl .u8) c.inbox)]⟩)] [2,3] [] rfl (by(repeat' with_reducible first|exact ah.nil|refine ah.mk ?_ ?_|apply And.intro)<;>first|exact(ou c.inbox h0.2)) ?_
 refine W.s0 X [2] rfl (by and_intros<;>exact⟨⟩) ?_
 refine W.ret ?_
 exact Fin.ret rfl ⟨rfl,rfl,rfl,rfl,rfl,rfl,rfl,rfl,⟨⟩⟩
theorem gK(d:aL)(h0:aJ d≤1048576):Sound ty Tryz.prog 99 [.agg (bg d)] [.agg (bg d)]:=by
 refine Sound.o X Tryz.call99 Tryz.func99 Tryz.ntmps99 rfl rfl ?_
 intro zb
 have pX:bh d.live≤1048576∧bh d.saved≤1048576:=by unfold aJ at h0;omega
 unfold bh at pX
 refine W.s0 X [1,2] rfl ⟨⟩ ?_
 refine W.sd X [] [(5,⟨true,[.agg (aX d.live)]⟩),(8,⟨true,[.agg (aX d.saved)]⟩)] [2] [] 7 MO (by kernel_rfl) rfl (by(repeat' with_reducible first|exact ah.nil|refine ah.mk ?_ ?_|apply And.intro);(iterate 2 all_goals try first|exact(eK d.live ⟨by omega,by omega⟩)|exact(eK d.saved ⟨by omega,by omega⟩))) ?_
 refine W.ret ?_
 exact Fin.ret rfl ⟨rfl,rfl,rfl,rfl,rfl,rfl,rfl,rfl,rfl,rfl,rfl,rfl,rfl,rfl,rfl,rfl,⟨⟩⟩
theorem sM(a:iS)(h0:b7 a≤1048576):Sound ty Tryz.prog 100 [.agg (cj a)] [.agg (cj a)]:=by
 refine Sound.o X Tryz.call100 Tryz.func100 Tryz.ntmps100 rfl rfl ?_
 intro zb
 have hls:bL aY a.rounds≤1048576:=h0
 have jr:=cg hls
 refine W.s0 X [1,2] rfl ⟨⟩ ?_
 refine W.s0 X [1,2,3] rfl ⟨⟩ ?_
 refine W.mX 3 1 60 .aA rfl ?_
 refine W.seq ?_
 refine W.s0 X [1,2,3,4] rfl ⟨⟩ ?_
 refine W.block ?_
 refine W.aI (fun k=>k≤a.rounds.length) (fun k:Nat=> [(4, .one (.a (.lit (.int .i64 k))))]) (fun k=> [(60, .arr .aA (a.rounds.take k))]) (fun k=>a.rounds.length-k) 0 (fun k=>rfl) (Nat.zero_le _) rfl ?_
 intro k hk
 have hle:=aZ a.rounds k
 refine W.seq ?_
 refine W.s0 X [1,2,3,4,12] rfl ⟨⟩ ?_
 refine W.cond rfl (fun hb0=> ?_) (fun hb0=> ?_)
 ·try simp only[nb,an,au,af]at hb0
  have hs:=bf a.rounds k (av .aA) hb0
  refine W.skip ?_
  refine W.seq ?_
  refine W.block ?_
  refine W.draw X [(32,60)] [(29,⟨true,[.agg (aH ((a.rounds.getD k (av .aA)).db))]⟩),(500031,⟨true,[]⟩)] [1,2,3,4] [] 17 MO (by kernel_rfl) rfl (by(repeat' with_reducible first|exact ah.nil|refine ah.mk ?_ ?_|apply And.intro)<;>first|exact(dD ((a.rounds.getD k (av .aA)).db) (eL hls (getD_some a.rounds _ k hb0)))| (intros;omega)|exact rfl|exact⟨rfl,bH _ (by decide)⟩| (simp only[cN,maxLen,lens];omega)) ?_
  refine W.r0 X [1,2,3,4] rfl ⟨⟩ ?_
  refine⟨k+1,by omega,by omega,?_⟩
  rw[aV _ k rfl (by omega),hs]
  try rfl
 ·try simp only[nb,an,au,af]at hb0
  refine W.exit ?_
  refine W.s0 X [2] rfl (by and_intros<;>exact⟨⟩) ?_
  refine W.ret ?_
  exact Fin.ret rfl ⟨rfl,by rw[List.take_of_length_le hb0],⟨⟩⟩
def Vk:eR:=(.ph 1024 (.br 1024 11 (.last 0) (.nil)))
theorem bT(x:aN)(h0:wB x):Sound ty Tryz.prog 42 [.agg (ay x)] [.agg (ay x)]:=by
 refine Sound.o X Tryz.call42 Tryz.func42 Tryz.ntmps42 rfl rfl ?_
 intro zb
 have hls:bL bl x.aj≤1048576∧bL aJ x.aa≤1048576∧b7 x.ak≤1048576∧x.replaced.length≤4194304:=h0
 have nr:=cg hls.1
 have iI:=cg hls.2.1
 refine W.s0 X [1,2] rfl ⟨⟩ ?_
 refine W.s0 X [1,2,3] rfl (by and_intros<;>exact⟨⟩) ?_
 refine W.s0 X [1,2,3] rfl (by and_intros<;>first|exact⟨⟩|exact rfl) ?_
 refine W.seq ?_
 refine W.s0 X [1,2,3,4] rfl ⟨⟩ ?_
 refine W.block ?_
 refine W.aI (fun k=>k≤x.aj.length) (fun k:Nat=> [(4, .one (.a (.lit (.int .i64 k))))]) (fun k=> [(7, .arr .aU (x.aj.take k))]) (fun k=>x.aj.length-k) 0 (fun k=>rfl) (Nat.zero_le _) rfl ?_
 intro k hk
 have hle:=aZ x.aj k
 refine W.seq ?_
 refine W.s0 X [1,2,3,4,13] rfl ⟨⟩ ?_
 refine W.cond rfl (fun hb0=> ?_) (fun hb0=> ?_)
 ·try simp only[nb,an,au,af]at hb0
  have hs:=bf x.aj k (av .aU) hb0
  have hss:=EN hls.1 (getD_some x.aj (av .aU) k hb0)
  refine W.skip ?_
  refine W.seq ?_
  refine W.block ?_
  refine W.draw X [(25,7)] [(23,⟨true,[.agg (bw (x.aj.getD k (av .aU)))]⟩),(500024,⟨true,[]⟩)] [1,2,3,4] [] 9 MO (by kernel_rfl) rfl (by(repeat' with_reducible first|exact ah.nil|refine ah.mk ?_ ?_|apply And.intro)<;>first|exact(jZ (x.aj.getD k (av .aU)) hss)| (intros;omega)|exact rfl|exact⟨rfl,bH _ (by decide)⟩| (simp only[cN,maxLen,lens];omega)) ?_
  refine W.r0 X [1,2,3,4] rfl ⟨⟩ ?_
  refine⟨k+1,by omega,by omega,?_⟩
  rw[aV _ k rfl (by omega),hs]
  try rfl
 ·try simp only[nb,an,au,af]at hb0
  refine W.exit ?_
  refine W.s0 X [1,2,3] rfl (by and_intros<;>first|exact⟨⟩|exact rfl) ?_
  refine W.seq ?_
  refine W.s0 X [1,2,3,5] rfl ⟨⟩ ?_
  refine W.block ?_
  refine W.aI (fun k1=>k1≤x.aa.length) (fun k1:Nat=> [(5, .one (.a (.lit (.int .i64 k1))))]) (fun k1=> [(27, .arr .aL (x.aa.take k1))]) (fun k1=>x.aa.length-k1) 0 (fun k1=>rfl) (Nat.zero_le _) rfl ?_
  intro k1 hk1
  have U2:=aZ x.aa k1
  refine W.seq ?_
  refine W.s0 X [1,2,3,5,33] rfl ⟨⟩ ?_
  refine W.cond rfl (fun aD=> ?_) (fun aD=> ?_)
  ·try simp only[nb,an,au,af]at aD
   have hs1:=bf x.aa k1 (av .aL) aD
   refine W.skip ?_
   refine W.seq ?_
   refine W.block ?_
   refine W.fD X [(45,27)] [(43,⟨true,[.agg (bg (x.aa.getD k1 (av .aL)))]⟩)] [1,2,3,5] [] 1279 (.ph 255 (.br 255 8 (.ph 0 (.br 0 9 Vk (.nil))) (.br 253 8 (.ph 2 (.br 2 9 Vk (.nil))) (.br 252 8 (.ph 3 (.br 3 9 Vk (.nil))) (.nil))))) 2 MO (by kernel_rfl) rfl (by kernel_rfl) (by(repeat' with_reducible first|exact ah.nil|refine ah.mk ?_ ?_|apply And.intro)<;>first|exact(gK (x.aa.getD k1 (av .aL)) (eL hls.2.1 (getD_some x.aa _ k1 aD)))| (intros;omega)|exact rfl| (simp only[cN,maxLen,lens];omega)) ?_
   refine W.r0 X [1,2,3,5] rfl ⟨⟩ ?_
   refine⟨k1+1,by omega,by omega,?_⟩
   rw[aV _ k1 rfl (by omega),hs1]
   try rfl
  ·try simp only[nb,an,au,af]at aD
   refine W.exit ?_
   refine W.sr X [] [(49,⟨true,[.agg (cj x.ak)]⟩)] [1,2,3] [] rfl (by(repeat' with_reducible first|exact ah.nil|refine ah.mk ?_ ?_|apply And.intro)<;>first|exact(sM x.ak hls.2.2.1)) ?_
   refine W.sr X [(54,51)] [] [2,3] [] rfl (by and_intros<;>first|exact⟨⟩|exact rfl| (simp only[cN,maxLen,lens];omega)) ?_
   refine W.s0 X [2] rfl (by and_intros<;>exact⟨⟩) ?_
   refine W.ret ?_
   exact Fin.ret rfl ⟨rfl,by rw[List.take_of_length_le hb0],by rw[List.take_of_length_le aD],rfl,rfl,rfl,rfl,rfl,rfl,rfl,⟨⟩⟩
end
section
set_option maxRecDepth 100000
theorem vN(a:iS)(f:Int)(hal:a.rounds.length≤1048576):Sound ty Tryz.prog 127 [.agg (cj a), .a (.lit (.int .i64 f))] [.a (.sl .int (gd a.rounds f))]:=by
 refine Sound.o X Tryz.call127 Tryz.func127 Tryz.ntmps127 rfl rfl ?_
 intro zb
 refine W.s0 X [1,2] rfl ⟨⟩ ?_
 refine W.s0 X [1,2,5] rfl (by and_intros<;>first|exact⟨⟩|exact rfl) ?_
 refine W.seq ?_
 refine W.s0 X [1,5,10,11,12] rfl ⟨⟩ ?_
 refine W.block ?_
 refine W.aI (fun k=>k≤a.rounds.length) (fun k:Nat=> [(12, .one (.a (.lit (.int .i64 k))))]) (fun k=> [(8, .arr .int (gd (a.rounds.take k) f))]) (fun k=>a.rounds.length-k) 0 (fun k=>rfl) (Nat.zero_le _) rfl ?_
 intro k hk
 have hle:=Ar a.rounds f k
 refine W.s0 X [1,5,10,11,12,13] rfl ⟨⟩ ?_
 refine W.seq ?_
 refine W.cond rfl (fun hb0=> ?_) (fun hb0=> ?_)
 ·try simp only[nb,an,au,af]at hb0
  refine W.skip ?_
  refine W.seq ?_
  refine W.block ?_
  refine W.s0 X [1,5,7,10,11,12] rfl (by and_intros<;>first|exact⟨⟩| (intros;omega)) ?_
  refine W.s0 X [1,5,7,10,11,12,19] rfl ⟨⟩ ?_
  refine W.cond rfl (fun aD=> ?_) (fun aD=> ?_)
  ·try simp only[nb,an,au,af]at aD
   have hs:=C8 a.rounds f k hb0 (by omega)
   refine W.fH X [(24,8)] [] [1,5,10,11,12] [] rfl (by and_intros<;>first|exact⟨⟩|exact rfl| (simp only[cN,maxLen,lens];omega)) ?_
   refine W.r0 X [1,5,10,11,12] rfl ⟨⟩ ?_
   refine⟨k+1,by omega,by omega,?_⟩
   rw[aV _ k rfl (by omega),hs]
   try rfl
  ·try simp only[nb,an,au,af]at aD
   have hs:=Aq a.rounds f k hb0 (by omega)
   refine W.skip ?_
   refine W.r0 X [1,5,10,11,12] rfl ⟨⟩ ?_
   refine⟨k+1,by omega,by omega,?_⟩
   rw[aV _ k rfl (by omega),hs]
   try rfl
 ·try simp only[nb,an,au,af]at hb0
  refine W.exit ?_
  refine W.s0 X [4] rfl ⟨⟩ ?_
  refine W.ret ?_
  exact Fin.ret rfl ⟨by rw[List.take_of_length_le hb0],⟨⟩⟩
theorem vO(a:iS)(f:Int)(hal:a.rounds.length≤1048576):Sound ty Tryz.prog 174 [.agg (cj a), .a (.lit (.int .i64 f))] [.a (.sl .int (gd a.rounds f))]:=by
 refine Sound.o X Tryz.call174 Tryz.func174 Tryz.ntmps174 rfl rfl ?_
 intro zb
 refine W.s0 X [1,2] rfl ⟨⟩ ?_
 refine W.s0 X [1,2,5] rfl (by and_intros<;>first|exact⟨⟩|exact rfl) ?_
 refine W.seq ?_
 refine W.s0 X [1,2,5,6] rfl ⟨⟩ ?_
 refine W.block ?_
 refine W.aI (fun k=>k≤a.rounds.length) (fun k:Nat=> [(6, .one (.a (.lit (.int .i64 k))))]) (fun k=> [(7, .arr .int (gd (a.rounds.take k) f))]) (fun k=>a.rounds.length-k) 0 (fun k=>rfl) (Nat.zero_le _) rfl ?_
 intro k hk
 have hle:=Ar a.rounds f k
 refine W.seq ?_
 refine W.s0 X [1,2,5,6,12] rfl ⟨⟩ ?_
 refine W.cond rfl (fun hb0=> ?_) (fun hb0=> ?_)
 ·try simp only[nb,an,au,af]at hb0
  refine W.skip ?_
  refine W.seq ?_
  refine W.block ?_
  refine W.s0 X [1,2,5,6,22] rfl (by and_intros<;>first|exact⟨⟩| (intros;omega)) ?_
  refine W.cond rfl (fun aD=> ?_) (fun aD=> ?_)
  ·try simp only[nb,an,au,af]at aD
   have hs:=C8 a.rounds f k hb0 (by omega)
   refine W.fH X [(31,7)] [] [1,2,5,6] [] rfl (by and_intros<;>first|exact⟨⟩| (intros;omega)|exact rfl| (simp only[cN,maxLen,lens];omega)) ?_
   refine W.r0 X [1,2,5,6] rfl ⟨⟩ ?_
   refine⟨k+1,by omega,by omega,?_⟩
   rw[aV _ k rfl (by omega),hs]
   try rfl
  ·try simp only[nb,an,au,af]at aD
   have hs:=Aq a.rounds f k hb0 (by omega)
   refine W.skip ?_
   refine W.r0 X [1,2,5,6] rfl ⟨⟩ ?_
   refine⟨k+1,by omega,by omega,?_⟩
   rw[aV _ k rfl (by omega),hs]
   try rfl
 ·try simp only[nb,an,au,af]at hb0
  refine W.exit ?_
  refine W.s0 X [4] rfl ⟨⟩ ?_
  refine W.ret ?_
  exact Fin.ret rfl ⟨by rw[List.take_of_length_le hb0],⟨⟩⟩
end
section
set_option maxRecDepth 100000
theorem sY(s:aU)(c:Int)(hz:s.received.length≤1048576∧ ∀r,r∈s.received→bL List.length r.share.rows≤1048576):Sound ty Tryz.prog 200 [.agg (bw s), .a (.lit (.int .i64 c))] [.agg (aH (qK s.received c)), .a (.lit (.bool (jA s.received c)))]:=by
 refine Sound.o X Tryz.call200 Tryz.func200 Tryz.ntmps200 rfl rfl ?_
 intro zb
 refine W.bS 0 3 rfl rfl (fun OG=> ?_)
 refine W.s0 X [1,2,4] rfl ⟨⟩ ?_
 refine W.seq ?_
 refine W.s0 X [1,4,9,10,11] rfl ⟨⟩ ?_
 refine W.block ?_
 refine W.aI (fun k=>k≤s.received.length∧(s.received.take k).any (Ro c)=false) (fun k:Nat=> [(11, .one (.a (.lit (.int .i64 k))))]) (fun k=> []) (fun k=>s.received.length-k) 0 (fun k=>rfl) ⟨Nat.zero_le _,rfl⟩ rfl ?_
 rintro k ⟨hk,hall⟩
 refine W.s0 X [1,4,9,10,11,12] rfl ⟨⟩ ?_
 refine W.seq ?_
 refine W.cond rfl (fun hb0=> ?_) (fun hb0=> ?_)
 ·try simp only[nb,an,au,af]at hb0
  refine W.skip ?_
  refine W.seq ?_
  refine W.block ?_
  refine W.s0 X [1,4,7,9,10,11] rfl (by and_intros<;>first|exact⟨⟩| (intros;omega)) ?_
  refine W.s0 X [1,4,7,9,10,11,18] rfl ⟨⟩ ?_
  refine W.cond rfl (fun aD=> ?_) (fun aD=> ?_)
  ·have hh:=Qf hb0 hall aD
   refine W.sr X [] [(21,⟨true,[.agg (aH ((s.received.getD k (av .aB)).share))]⟩)] [4,5] [] rfl (by(repeat' with_reducible first|exact ah.nil|refine ah.mk ?_ ?_|apply And.intro)<;>first|exact(bZ ((s.received.getD k (av .aB)).share) (hz.2 _ (getD_in _ hb0)))) ?_
   refine W.ret ?_
   exact Fin.ret rfl ⟨by rw[hh.2],by rw[hh.1],⟨⟩⟩
  ·skip
   refine W.skip ?_
   refine W.r0 X [1,4,9,10,11] rfl ⟨⟩ ?_
   refine⟨k+1,⟨by omega,vv (av .aB) hb0 hall aD⟩,by omega,?_⟩
   rw[aV _ k rfl (by omega)]
   try rfl
 ·try simp only[nb,an,au,af]at hb0
  refine W.exit ?_
  refine W.s0 X [4,5] rfl (by and_intros<;>exact⟨⟩) ?_
  refine W.ret ?_
  exact Fin.ret rfl ⟨by rw[(Bg (by rw[←hall,List.take_of_length_le hb0])).2],by rw[(Bg (by rw[←hall,List.take_of_length_le hb0])).1],⟨⟩⟩
theorem Dl(s:aU)(c:Int)(hz:s.received.length≤1048576∧ ∀r,r∈s.received→bL List.length r.share.rows≤1048576):Sound ty Tryz.prog 264 [.agg (bw s), .a (.lit (.int .i64 c))] [.agg (aH (qK s.received c)), .a (.lit (.bool (jA s.received c)))]:=by
 refine Sound.o X Tryz.call264 Tryz.func264 Tryz.ntmps264 rfl rfl ?_
 intro zb
 refine W.bS 0 3 rfl rfl (fun OG=> ?_)
 refine W.s0 X [1,2,4] rfl ⟨⟩ ?_
 refine W.seq ?_
 refine W.s0 X [1,2,4,6] rfl ⟨⟩ ?_
 refine W.block ?_
 refine W.aI (fun k=>k≤s.received.length∧(s.received.take k).any (Ro c)=false) (fun k:Nat=> [(6, .one (.a (.lit (.int .i64 k))))]) (fun k=> []) (fun k=>s.received.length-k) 0 (fun k=>rfl) ⟨Nat.zero_le _,rfl⟩ rfl ?_
 rintro k ⟨hk,hall⟩
 refine W.seq ?_
 refine W.s0 X [1,2,4,6,11] rfl ⟨⟩ ?_
 refine W.cond rfl (fun hb0=> ?_) (fun hb0=> ?_)
 ·try simp only[nb,an,au,af]at hb0
  refine W.skip ?_
  refine W.seq ?_
  refine W.block ?_
  refine W.s0 X [1,2,4,6,21] rfl (by and_intros<;>first|exact⟨⟩| (intros;omega)) ?_
  refine W.cond rfl (fun aD=> ?_) (fun aD=> ?_)
  ·have hh:=Qf hb0 hall aD
   refine W.sr X [] [(28,⟨true,[.agg (aH ((s.received.getD k (av .aB)).share))]⟩)] [4,5] [] rfl (by(repeat' with_reducible first|exact ah.nil|refine ah.mk ?_ ?_|apply And.intro)<;>first|exact(dD ((s.received.getD k (av .aB)).share) (hz.2 _ (getD_in _ hb0)))| (intros;omega)) ?_
   refine W.ret ?_
   exact Fin.ret rfl ⟨by rw[hh.2],by rw[hh.1],⟨⟩⟩
  ·skip
   refine W.skip ?_
   refine W.r0 X [1,2,4,6] rfl ⟨⟩ ?_
   refine⟨k+1,⟨by omega,vv (av .aB) hb0 hall aD⟩,by omega,?_⟩
   rw[aV _ k rfl (by omega)]
   try rfl
 ·try simp only[nb,an,au,af]at hb0
  refine W.exit ?_
  refine W.s0 X [4,5] rfl (by and_intros<;>exact⟨⟩) ?_
  refine W.ret ?_
  exact Fin.ret rfl ⟨by rw[(Bg (by rw[←hall,List.take_of_length_le hb0])).2],by rw[(Bg (by rw[←hall,List.take_of_length_le hb0])).1],⟨⟩⟩
theorem qT(r:aB)(c:Int):gZ ty Tryz.prog 202 [(1000, .box [.lit (.int .i64 c)])] [.agg (ff r), .a (.ptr 1000 0)] [(1000, .box [.lit (.int .i64 c)])] [.a (.lit (.bool (decide (r.client>c))))]:=by
 refine gZ.of X Tryz.call202 Tryz.func202 rfl rfl (by decide) Tryz.ntmps202 (by simp) rfl ?_
 intro zb
 refine W.s0 X [1,2] rfl ⟨⟩ ?_
 refine W.s0 X [3] rfl (by and_intros<;>exact⟨⟩) ?_
 refine W.ret ?_
 exact zA.ret rfl ⟨rfl,rfl,⟨⟩⟩
theorem dK(l:List aB)(c:Int)(hl: ∀r,r∈l→r.client<c):gZ ty Tryz.prog 201 [(1000, .box [.lit (.int .i64 c)])] [.a (.sl .aB l), .a (.yx 202 1000)] [(1000, .box [.lit (.int .i64 c)])] [.a (.lit (.int .i64 (-1)))]:=by
 refine gZ.of X Tryz.call201 Tryz.func201 rfl rfl (by decide) Tryz.ntmps201 (by simp) rfl ?_
 intro zb
 refine W.bound 0 rfl (fun jr=> ?_)
 refine W.s0 X [0,1] rfl ⟨⟩ ?_
 refine W.seq ?_
 refine W.s0 X [0,1,7,8] rfl ⟨⟩ ?_
 refine W.block ?_
 refine W.aI (fun k=>k≤l.length) (fun k:Nat=> [(8, .one (.a (.lit (.int .i64 k))))]) (fun k=> []) (fun k=>l.length-k) 0 (fun k=>rfl) (Nat.zero_le _) rfl ?_
 intro k hk
 refine W.s0 X [0,1,7,8,9] rfl ⟨⟩ ?_
 refine W.seq ?_
 refine W.cond rfl (fun hb0=> ?_) (fun hb0=> ?_)
 ·try simp only[nb,an,au,af]at hb0
  have hlt:=hl _ (getD_in (av .aB) hb0)
  refine W.skip ?_
  refine W.seq ?_
  refine W.block ?_
  refine W.s0 X [0,1,5,7,8] rfl ⟨⟩ ?_
  refine W.sr X [] [(800016,⟨true,[.a (.lit (.bool (decide ((l.getD k (av .aB)).client>c))))]⟩),(700016,⟨true,[.agg [.ptr 1000 1000], .agg [], .agg [.own 1000], .agg [.lit (.int .i64 c)]]⟩)] [0,1,5,7,8,16] [] rfl (by(repeat' with_reducible first|exact ah.nil|refine ah.mk ?_ ?_|apply And.intro)<;>first|exact(qT (l.getD k (av .aB)) c)| (intros;omega)) ?_
  refine W.cond rfl (fun aD=> ?_) (fun aD=> ?_)
  ·try simp only[nb,an,au,af]at aD
   omega
  ·try simp only[nb,an,au,af]at aD
   refine W.skip ?_
   refine W.r0 X [0,1,7,8] rfl ⟨⟩ ?_
   refine⟨k+1,by omega,by omega,?_⟩
   rw[aV _ k rfl (by omega)]
   try rfl
 ·try simp only[nb,an,au,af]at hb0
  refine W.exit ?_
  refine W.s0 X [4] rfl ⟨⟩ ?_
  refine W.ret ?_
  exact zA.ret rfl ⟨rfl,rfl,⟨⟩⟩
theorem ec(l:List aB)(y:aB)(hl:l.length≤1048576):gZ ty Tryz.prog 203 [(5, .arr .aB l),(6, .arr .aB [y])] [.a (.own 5), .a (.lit (.int .i64 (l.length:Int))), .a (.own 6)] [(5, .arr .aB (l++ [y]))] [.a (.own 5)]:=by
 refine gZ.of X Tryz.call203 Tryz.func203 rfl rfl (by decide) Tryz.ntmps203 (by simp) rfl ?_
 intro zb
 refine W.s0 X [0,1,2] rfl ⟨⟩ ?_
 refine W.s0 X [0,1,2] rfl (by and_intros<;>first|exact⟨⟩| (intros;omega)) ?_
 refine W.s0 X [0,1,2,7] rfl ⟨⟩ ?_
 refine W.seq ?_
 refine W.s0 X [0,1,2,7,16] rfl ⟨⟩ ?_
 refine W.cond rfl (fun hb0=> ?_) (fun hb0=> ?_)
 ·try simp only[nb,an,au,af]at hb0
  simp at hb0
 ·try simp only[nb,an,au,af]at hb0
  refine W.skip ?_
  refine W.s0 X [0,1,2,7,8] rfl ⟨⟩ ?_
  refine W.seq ?_
  refine W.s0 X [0,1,2,7,8,22] rfl ⟨⟩ ?_
  refine W.cond rfl (fun aD=> ?_) (fun aD=> ?_)
  ·try simp only[nb,an,au,af]at aD
   refine W.sr X [(25,5)] [] [6] [] rfl (by and_intros<;>first|exact⟨⟩|exact rfl| (simp only[cN,maxLen,lens];omega)) ?_
   refine W.ret ?_
   exact zA.ret rfl ⟨rfl,⟨⟩⟩
  ·try simp only[nb,an,au,af]at aD
   simp at aD
def NA:eR:=(.ph 512 (.br 512 10 (.last 0) (.nil)))
theorem uq(s:aU)(c:Int)(d:DB)(hz:s.received.length≤1048576∧ ∀r,r∈s.received→bL List.length r.share.rows≤1048576)(hb: ∀r,r∈s.received→r.client<c)(hd:bL List.length d.rows≤1048576):Sound ty Tryz.prog 122 [.agg (bw s), .a (.lit (.int .i64 c)), .agg (aH d)] [.agg (bw (Jj s c d)), .a (.lit (.bool (jz s c d)))]:=by
 refine Sound.o X Tryz.call122 Tryz.func122 Tryz.ntmps122 rfl rfl ?_
 intro zb
 have Z1:=Qg (s:=s) hb
 have jr:=hz.1
 refine W.sr X [(4,904)] [] [3,4,5,6] [] rfl ⟨⟩ ?_
 refine W.sr X [] [(13,⟨true,[.agg (bw s)]⟩)] [3,4,5,6,8] [] rfl (by(repeat' with_reducible first|exact ah.nil|refine ah.mk ?_ ?_|apply And.intro)<;>first|exact(gq s hz)) ?_
 refine W.seq ?_
 refine W.sr X [] [(17,⟨true,[.agg (aH (qK s.received c)), .a (.lit (.bool (jA s.received c)))]⟩)] [3,4,5,6,8,10] [] rfl (by(repeat' with_reducible first|exact ah.nil|refine ah.mk ?_ ?_|apply And.intro)<;>first|exact(sY s c hz)) ?_
 refine W.sr X [] [(23,⟨false,[.a (.lit (.bool (bW s)))]⟩)] [3,4,5,6,8,25] [] rfl (by(repeat' with_reducible first|exact ah.nil|refine ah.mk ?_ ?_|apply And.intro)<;>first|exact fun _=>(cI s)) ?_
 refine W.cond rfl (fun hb0=> ?_) (fun hb0=> ?_)
 ·have hk:bW s=false:=by rw[Z1]at hb0;simpa using hb0
  have hr:jz s c d=false:=by rw[jz,hk];rfl
  refine W.s0 X [6,7] rfl (by and_intros<;>exact⟨⟩) ?_
  refine W.ret ?_
  exact Fin.ret rfl (by and_intros<;>first|exact⟨⟩| (rw[Ko hr];done)| (rw[hr];done))
 ·have hk:bW s=true:=by rw[Z1]at hb0;simpa using hb0
  refine W.skip ?_
  refine W.sr X [] [(800030,⟨true,[.a (.lit (.int .i64 (-1)))]⟩),(700030,⟨true,[.agg [.ptr 1000 904], .agg [], .agg [.own 1000], .agg [.lit (.int .i64 c)]]⟩)] [3,4,5,6,8,11] [] rfl (by(repeat' with_reducible first|exact ah.nil|refine ah.mk ?_ ?_|apply And.intro)<;>first|exact(dK s.received c hb)) ?_
  refine W.seq ?_
  refine W.s0 X [3,4,5,6,8,11,32] rfl ⟨⟩ ?_
  refine W.cond rfl (fun aD=> ?_) (fun aD=> ?_)
  ·try simp only[nb,an,au,af]at aD
   refine W.r0 X [3,4,5,6,8,11] rfl ⟨⟩ ?_
   refine W.seq ?_
   refine W.fD X [] [(41,⟨true,[.agg (aH d)]⟩),(800044,⟨true,[.a (.own 5)]⟩),(700044,⟨true,[.agg [.ptr 5 16, .ptr 6 43], .agg [], .agg [.own 5], .a (.sl .aB (s.received++ [(⟨c,d⟩:aB)]))]⟩)] [3,6,8] [] 639 (.ph 127 (.br 127 7 (.ph 0 (.br 0 8 NA (.nil))) (.br 123 7 (.ph 4 (.br 4 8 NA (.nil))) (.br 125 7 (.ph 2 (.br 2 8 NA (.nil))) (.br 121 7 (.ph 6 (.br 6 8 NA (.nil))) (.br 124 7 (.ph 3 (.br 3 8 NA (.nil))) (.br 120 7 (.ph 7 (.br 7 8 NA (.nil))) (.nil)))))))) 5 MO (by kernel_rfl) rfl (by kernel_rfl) (by(repeat' with_reducible first|exact ah.nil|refine ah.mk ?_ ?_|apply And.intro);(iterate 2 all_goals try first|exact(bZ d hd)|exact(ec s.received (⟨c,d⟩:aB) (by first|assumption|omega| (simp;done)| (simp;omega))));all_goals first|exact rfl) ?_
   refine W.seq ?_
   refine W.sr X [] [(47,⟨false,[.a (.lit (.bool (bW (lY s c d))))]⟩)] [3,6,8,48] [] rfl (by(repeat' with_reducible first|exact ah.nil|refine ah.mk ?_ ?_|apply And.intro)<;>first|exact(cI (lY s c d))) ?_
   refine W.cond rfl (fun aR=> ?_) (fun aR=> ?_)
   ·have hr:jz s c d=false:=by rw[jz,hk];simpa using aR
    refine W.sr X [] [(50,⟨true,[.agg (bw s)]⟩)] [6,7] [] rfl (by(repeat' with_reducible first|exact ah.nil|refine ah.mk ?_ ?_|apply And.intro)<;>first|exact(gq s hz)) ?_
    refine W.ret ?_
    exact Fin.ret rfl (by and_intros<;>first|exact⟨⟩| (rw[Ko hr];done)| (rw[hr];done))
   ·have hr:jz s c d=true:=by rw[jz,hk];simpa using aR
    refine W.skip ?_
    refine W.s0 X [6,7] rfl (by and_intros<;>exact⟨⟩) ?_
    refine W.ret ?_
    exact Fin.ret rfl (by and_intros<;>first|exact⟨⟩| (rw[LF hr];rfl;done)| (rw[hr];done))
  ·try simp only[nb,an,au,af]at aD
   omega
def l5:eR:=(.ph 131072 (.br 131072 18 (.last 0) (.nil)))
def mA:eR:=(.ph 32768 (.br 32768 11 (.ph 0 (.br 0 16 l5 (.nil))) (.br 0 11 (.ph 32768 (.br 32768 16 l5 (.nil))) (.nil))))
def ur:eR:=(.ph 40960 (.br 40960 11 (.ph 0 (.br 0 16 l5 (.nil))) (.br 8192 11 (.ph 32768 (.br 32768 16 l5 (.nil))) (.br 0 11 (.ph 40960 (.br 40960 16 l5 (.nil))) (.nil)))))
def IT:eR:=(.ph 57344 (.br 57344 11 (.ph 0 (.br 0 16 l5 (.nil))) (.br 24576 11 (.ph 32768 (.br 32768 16 l5 (.nil))) (.br 8192 11 (.ph 49152 (.br 49152 16 l5 (.nil))) (.br 16384 11 (.ph 40960 (.br 40960 16 l5 (.nil))) (.br 0 11 (.ph 57344 (.br 57344 16 l5 (.nil))) (.nil)))))))
def AQ:eR:=(.ph 49152 (.br 49152 11 (.ph 0 (.br 0 16 l5 (.nil))) (.br 16384 11 (.ph 32768 (.br 32768 16 l5 (.nil))) (.br 0 11 (.ph 49152 (.br 49152 16 l5 (.nil))) (.nil)))))
def IU:eR:=(.ph 45056 (.br 45056 11 (.ph 0 (.br 0 16 l5 (.nil))) (.br 12288 11 (.ph 32768 (.br 32768 16 l5 (.nil))) (.br 4096 11 (.ph 40960 (.br 40960 16 l5 (.nil))) (.br 0 11 (.ph 45056 (.br 45056 16 l5 (.nil))) (.nil))))))
def kf:eR:=(.ph 0 (.br 0 11 (.ph 0 (.br 0 16 l5 (.nil))) (.nil)))
def S8:eR:=(.ph 61440 (.br 61440 11 (.ph 0 (.br 0 16 l5 (.nil))) (.br 28672 11 (.ph 32768 (.br 32768 16 l5 (.nil))) (.br 12288 11 (.ph 49152 (.br 49152 16 l5 (.nil))) (.br 20480 11 (.ph 40960 (.br 40960 16 l5 (.nil))) (.br 4096 11 (.ph 57344 (.br 57344 16 l5 (.nil))) (.br 16384 11 (.ph 45056 (.br 45056 16 l5 (.nil))) (.br 0 11 (.ph 61440 (.br 61440 16 l5 (.nil))) (.nil)))))))))
theorem uu(s:aU)(c:Int)(d:DB)(hz:s.received.length≤1048576∧ ∀r,r∈s.received→bL List.length r.share.rows≤1048576)(hb: ∀r,r∈s.received→r.client<c)(hd:bL List.length d.rows≤1048576):Sound ty Tryz.prog 169 [.agg (bw s), .a (.lit (.int .i64 c)), .agg (aH d)] [.agg (bw (Jj s c d)), .a (.lit (.bool (jz s c d)))]:=by
 refine Sound.o X Tryz.call169 Tryz.func169 Tryz.ntmps169 rfl rfl ?_
 intro zb
 have jr:=hz.1
 refine W.s0 X [1,3,5,6] rfl ⟨⟩ ?_
 refine W.sr X [] [(11,⟨true,[.agg (bw s)]⟩)] [1,3,5,6,8] [] rfl (by(repeat' with_reducible first|exact ah.nil|refine ah.mk ?_ ?_|apply And.intro)<;>first|exact(jZ s hz)) ?_
 refine W.s0 X [1,3,5,6,8,9] rfl ⟨⟩ ?_
 refine W.seq ?_
 refine W.block ?_
 refine W.aI (fun k=>k≤s.received.length) (fun k:Nat=> [(9, .one (.a (.lit (.int .i64 k))))]) (fun k=> []) (fun k=>s.received.length-k) 0 (fun k=>rfl) (Nat.zero_le _) rfl ?_
 intro k hk
 refine W.seq ?_
 refine W.s0 X [1,3,5,6,8,9,26] rfl (by refine⟨fun VZ=> ?_,fun VZ=> ?_,⟨⟩⟩<;>(have NP:decide ((k:Int)<(s.received.length:Int))=true:=VZ;rw[decide_eq_true_eq]at NP;dsimp only[hyps,GW];omega)) ?_
 refine W.cond rfl (fun hb0=> ?_) (fun hb0=> ?_)
 ·have qA:k<s.received.length:=by simp only[nb]at hb0;omega
  have hlt:=hb _ (getD_in (av .aB) qA)
  refine W.skip ?_
  refine W.block ?_
  refine W.r0 X [1,3,5,6,8,9] rfl ⟨⟩ ?_
  refine⟨k+1,by omega,by omega,?_⟩
  rw[aV _ k rfl (by omega)]
  try rfl
 ·have qA:k=s.received.length:=SS hb hk hb0
  subst qA
  refine W.C7 8 3 rfl ?_
  refine W.exit ?_
  refine W.seq ?_
  refine W.fD X [(34,29),(40,29),(45,29)] [(37,⟨true,[.agg (aH d)]⟩),(600044,⟨true,[]⟩)] [3,6,8] [] 193503 (.ph 61663 (.br 61663 5 (.ph 768 (.br 768 10 kf (.nil))) (.br 28895 5 (.ph 33536 (.br 33536 10 kf (.br 768 10 mA (.nil)))) (.br 12511 5 (.ph 49920 (.br 49920 10 kf (.br 17152 10 mA (.br 768 10 AQ (.nil))))) (.br 20703 5 (.ph 41728 (.br 41728 10 kf (.br 8960 10 mA (.br 768 10 ur (.nil))))) (.br 4319 5 (.ph 58112 (.br 58112 10 kf (.br 25344 10 mA (.br 8960 10 AQ (.br 17152 10 ur (.br 768 10 IT (.nil))))))) (.br 16607 5 (.ph 45824 (.br 45824 10 kf (.br 13056 10 mA (.br 4864 10 ur (.br 768 10 IU (.nil)))))) (.br 223 5 (.ph 62208 (.br 62208 10 kf (.br 29440 10 mA (.br 13056 10 AQ (.br 21248 10 ur (.br 4864 10 IT (.br 17152 10 IU (.br 768 10 S8 (.nil))))))))) (.br 61535 5 (.ph 896 (.br 896 10 kf (.nil))) (.br 28767 5 (.ph 33664 (.br 33664 10 kf (.br 896 10 mA (.nil)))) (.br 12383 5 (.ph 50048 (.br 50048 10 kf (.br 17280 10 mA (.br 896 10 AQ (.nil))))) (.br 20575 5 (.ph 41856 (.br 41856 10 kf (.br 9088 10 mA (.br 896 10 ur (.nil))))) (.br 4191 5 (.ph 58240 (.br 58240 10 kf (.br 25472 10 mA (.br 9088 10 AQ (.br 17280 10 ur (.br 896 10 IT (.nil))))))) (.br 16479 5 (.ph 45952 (.br 45952 10 kf (.br 13184 10 mA (.br 4992 10 ur (.br 896 10 IU (.nil)))))) (.br 95 5 (.ph 62336 (.br 62336 10 kf (.br 29568 10 mA (.br 13184 10 AQ (.br 21376 10 ur (.br 4992 10 IT (.br 17280 10 IU (.br 896 10 S8 (.nil))))))))) (.br 61599 5 (.ph 832 (.br 832 10 kf (.nil))) (.br 28831 5 (.ph 33600 (.br 33600 10 kf (.br 832 10 mA (.nil)))) (.br 12447 5 (.ph 49984 (.br 49984 10 kf (.br 17216 10 mA (.br 832 10 AQ (.nil))))) (.br 20639 5 (.ph 41792 (.br 41792 10 kf (.br 9024 10 mA (.br 832 10 ur (.nil))))) (.br 4255 5 (.ph 58176 (.br 58176 10 kf (.br 25408 10 mA (.br 9024 10 AQ (.br 17216 10 ur (.br 832 10 IT (.nil))))))) (.br 16543 5 (.ph 45888 (.br 45888 10 kf (.br 13120 10 mA (.br 4928 10 ur (.br 832 10 IU (.nil)))))) (.br 159 5 (.ph 62272 (.br 62272 10 kf (.br 29504 10 mA (.br 13120 10 AQ (.br 21312 10 ur (.br 4928 10 IT (.br 17216 10 IU (.br 832 10 S8 (.nil))))))))) (.br 61471 5 (.ph 960 (.br 960 10 kf (.nil))) (.br 28703 5 (.ph 33728 (.br 33728 10 kf (.br 960 10 mA (.nil)))) (.br 12319 5 (.ph 50112 (.br 50112 10 kf (.br 17344 10 mA (.br 960 10 AQ (.nil))))) (.br 20511 5 (.ph 41920 (.br 41920 10 kf (.br 9152 10 mA (.br 960 10 ur (.nil))))) (.br 4127 5 (.ph 58304 (.br 58304 10 kf (.br 25536 10 mA (.br 9152 10 AQ (.br 17344 10 ur (.br 960 10 IT (.nil))))))) (.br 16415 5 (.ph 46016 (.br 46016 10 kf (.br 13248 10 mA (.br 5056 10 ur (.br 960 10 IU (.nil)))))) (.br 31 5 (.ph 62400 (.br 62400 10 kf (.br 29632 10 mA (.br 13248 10 AQ (.br 21440 10 ur (.br 5056 10 IT (.br 17344 10 IU (.br 960 10 S8 (.nil))))))))) (.nil)))))))))))))))))))))))))))))) 259 MO (by kernel_rfl) rfl (by kernel_rfl) (by(repeat' with_reducible first|exact ah.nil|refine ah.mk ?_ ?_|apply And.intro)<;>first|exact(dD d hd)| (intros;omega)|exact rfl|exact⟨rfl,bH _ (by decide)⟩| (simp only[cN,maxLen,lens];omega)) ?_
  rw[ins_eq]
  refine W.seq ?_
  refine W.sr X [] [(48,⟨false,[.a (.lit (.bool (bW s)))]⟩),(52,⟨false,[.a (.lit (.bool (bW (lY s c d))))]⟩)] [3,6,8,54] [] rfl (by(repeat' with_reducible first|exact ah.nil|refine ah.mk ?_ ?_|apply And.intro);(iterate 2 all_goals try first|exact(cJ s)|exact fun _=>(cJ (lY s c d)))) ?_
  refine W.cond rfl (fun aD=> ?_) (fun aD=> ?_)
  ·have hr:jz s c d=false:=W8 aD
   refine W.sr X [] [(56,⟨true,[.agg (bw s)]⟩)] [6,7] [] rfl (by(repeat' with_reducible first|exact ah.nil|refine ah.mk ?_ ?_|apply And.intro)<;>first|exact(jZ s hz)) ?_
   refine W.ret ?_
   exact Fin.ret rfl (by and_intros<;>first|exact⟨⟩| (rw[Ko hr];done)| (rw[hr];done))
  ·have hr:jz s c d=true:=W9 aD
   refine W.skip ?_
   refine W.s0 X [6,7] rfl (by and_intros<;>exact⟨⟩) ?_
   refine W.ret ?_
   exact Fin.ret rfl (by and_intros<;>first|exact⟨⟩| (rw[LF hr];rfl;done)| (rw[hr];done))
end
section
set_option maxRecDepth 100000
theorem sZ(x:aN)(h0:wB x):Sound ty Tryz.prog 50 [.agg (ay x)] [.a (.sl .aU (aM x)), .a (.sl .cU (dF x))]:=by
 refine Sound.o X Tryz.call50 Tryz.func50 Tryz.ntmps50 rfl rfl ?_
 intro zb
 refine W.bS 0 1 rfl rfl (fun nr=> ?_)
 refine W.bS 0 2 rfl rfl (fun iI=> ?_)
 have qy:=qC h0
 refine W.s0 X [1] rfl ⟨⟩ ?_
 refine W.seq ?_
 refine W.sr X [] [(10,⟨false,[.a (.lit (.bool (okW x)))]⟩)] [1,11] [] rfl (by(repeat' with_reducible first|exact ah.nil|refine ah.mk ?_ ?_|apply And.intro)<;>first|exact(bM x)) ?_
 refine W.cond rfl (fun hb0=> ?_) (fun hb0=> ?_)
 ·have gO:okW x=false:=by simpa using hb0
  refine W.s0 X [2,3] rfl ⟨⟩ ?_
  refine W.ret ?_
  exact Fin.ret rfl ⟨by rw[aM,if_neg (by rw[gO];decide)],by rw[dF,if_neg (by rw[gO];decide)],⟨⟩⟩
 ·have gO:okW x=true:=by simpa using hb0
  have Za:=eu gO
  have S9:=(qi (mT gO)).2.1
  have hc0:=(col gO 0 (Nat.zero_le _)).Xb
  refine W.skip ?_
  refine W.sr X [] [(14,⟨true,[.a (.sl .aU x.aj)]⟩)] [1,4] [] rfl (by(repeat' with_reducible first|exact ah.nil|refine ah.mk ?_ ?_|apply And.intro)<;>first|exact(m6 x.aj (by omega) hc0)) ?_
  refine W.s0 X [1,4,5] rfl (by and_intros<;>first|exact⟨⟩|exact rfl) ?_
  refine W.seq ?_
  refine W.s0 X [1,4,5,18,19] rfl ⟨⟩ ?_
  refine W.block ?_
  refine W.aI (fun k=>k≤x.aa.length) (fun k:Nat=> [(19, .one (.a (.lit (.int .i64 k))))]) (fun k=> [(14, .arr .aU (vJ x k)),(15, .arr .cU (DQ x k))]) (fun k=>x.aa.length-k) 0 (fun k=>rfl) (Nat.zero_le _) rfl ?_
  intro k hk
  refine W.s0 X [1,4,5,18,19,20] rfl ⟨⟩ ?_
  refine W.seq ?_
  refine W.cond rfl (fun aD=> ?_) (fun aD=> ?_)
  ·try simp only[nb,an,au,af]at aD
   have NB:k<x.aa.length:=by omega
   have Y3:(gm x (k:Int)).length=x.aj.length:=by rw[C1 gO (by omega)];exact lJ gO (by omega)
   have hw:gm x (k:Int)=cM x (k:Int):=C1 gO (by omega)
   refine W.skip ?_
   refine W.seq ?_
   refine W.block ?_
   refine W.s0 X [1,4,5,6,18,19] rfl ⟨⟩ ?_
   refine W.sr X [] [(24,⟨true,[.a (.sl .DB (gm x (k:Int)))]⟩)] [1,4,5,6,18,19,24,25,26] [] rfl (by(repeat' with_reducible first|exact ah.nil|refine ah.mk ?_ ?_|apply And.intro)<;>first|exact(vI x (k:Int) (by first|assumption|omega| (simp;done)| (simp;omega)))) ?_
   refine W.block ?_
   refine W.aI (fun k1=>k1≤x.aj.length) (fun k1:Nat=> [(26, .one (.a (.lit (.int .i64 k1))))]) (fun k1=> [(14, .arr .aU (o7 x k k1)),(15, .arr .cU (DQ x k++DP x k k1))]) (fun k1=>x.aj.length-k1) 0 (fun k1=>rfl) (Nat.zero_le _) (by simp[o7,DP]) ?_
   intro k1 hk1
   have oy:=It gO NB hk1
   refine W.s0 X [1,4,5,6,18,19,24,25,26,27] rfl ⟨⟩ ?_
   refine W.seq ?_
   refine W.cond rfl (fun aR=> ?_) (fun aR=> ?_)
   ·try simp only[nb,an,au,af]at aR
    have DU:=Iw gO NB (by omega:k1<x.aj.length)
    have hs1:=EO gO NB (by omega:k1<x.aj.length)
    have Av:=zx x k k1
    have hrl:=C3 x k
    have Ta:=xF x k k1
    have Jd:k*x.aj.length≤8*4:=Nat.mul_le_mul (by omega) (by omega)
    refine W.skip ?_
    refine W.seq ?_
    refine W.block ?_
    refine W.s0 X [1,4,5,6,7,8,18,19,24,25,26] rfl (by and_intros<;>first|exact⟨⟩| (intros;omega)) ?_
    refine W.seq ?_
    refine W.fD X [] [(40,⟨true,[.agg (bw (Jj ((o7 x k k1).getD k1 (av .aU)) (k:Int) ((gm x (k:Int)).getD k1 (av .DB)))), .a (.lit (.bool (jz ((o7 x k k1).getD k1 (av .aU)) (k:Int) ((gm x (k:Int)).getD k1 (av .DB)))))]⟩)] [1,4,5,6,7,8,18,19,24,25,26] [] 8191 (.ph 8191 (.br 8191 13 (.last 0) (.br 6143 13 (.last 2048) (.nil)))) 1 MO (by kernel_rfl) rfl (by kernel_rfl) (by(repeat' with_reducible first|exact ah.nil|refine ah.mk ?_ ?_|apply And.intro)<;>first|exact(uq ((o7 x k k1).getD k1 (av .aU)) (k:Int) ((gm x (k:Int)).getD k1 (av .DB)) DU.2.1 DU.1 (by rw[hw];exact DU.2.2))| (intros;omega)) ?_
    refine W.draw X [(56,15)] [(48,⟨false,[.a (.lit (.int .i64 (fI x.az (k1:Int))))]⟩),(54,⟨false,[.agg (gN (VY (fI x.az (k1:Int)) (k1:Int) (k:Int) x.round ((gm x (k:Int)).getD k1 (av .DB))))]⟩)] [1,4,5,6,18,19,24,25,26] [] 12 MO (by kernel_rfl) rfl (by(repeat' with_reducible first|exact ah.nil|refine ah.mk ?_ ?_|apply And.intro);(iterate 2 all_goals try first|exact(gT x.az (k1:Int))|exact(vK (fI x.az (k1:Int)) (k1:Int) (k:Int) x.round ((gm x (k:Int)).getD k1 (av .DB)) (by rw[hw];exact DU.2.2)));all_goals first|exact rfl|exact⟨rfl,bH _ (by decide)⟩| (simp only[cN,maxLen,lens];omega)) ?_
    refine W.r0 X [1,4,5,6,18,19,24,25,26] rfl ⟨⟩ ?_
    refine⟨k1+1,by omega,by omega,?_⟩
    rw[aV _ k1 rfl (by omega),hw, ←hs1,Av, ←List.append_assoc]
    try rfl
   ·try simp only[nb,an,au,af]at aR
    rw[Iv gO NB (by omega),show k1=x.aj.length by omega, ←zy]
    refine W.exit ?_
    refine W.r0 X [1,4,5,18,19] rfl ⟨⟩ ?_
    refine⟨k+1,by omega,by omega,?_⟩
    rw[aV _ k rfl (by omega)]
    try rfl
  ·try simp only[nb,an,au,af]at aD
   refine W.exit ?_
   refine W.s0 X [2,3] rfl ⟨⟩ ?_
   refine W.ret ?_
   exact Fin.ret rfl ⟨by rw[aM,if_pos gO,show x.aa.length=k by omega],by rw[dF,if_pos gO,show x.aa.length=k by omega],⟨⟩⟩
theorem s6(x:aN)(h0:wB x):Sound ty Tryz.prog 101 [.agg (ay x)] [.a (.sl .aU (aM x)), .a (.sl .cU (dF x))]:=by
 refine Sound.o X Tryz.call101 Tryz.func101 Tryz.ntmps101 rfl rfl ?_
 intro zb
 refine W.bS 0 1 rfl rfl (fun nr=> ?_)
 refine W.bS 0 2 rfl rfl (fun iI=> ?_)
 have qy:=qC h0
 refine W.s0 X [1] rfl ⟨⟩ ?_
 refine W.s0 X [1,4] rfl (by and_intros<;>first|exact⟨⟩|exact rfl) ?_
 refine W.seq ?_
 refine W.sr X [] [(13,⟨false,[.a (.lit (.bool (okW x)))]⟩)] [1,4,14] [] rfl (by(repeat' with_reducible first|exact ah.nil|refine ah.mk ?_ ?_|apply And.intro)<;>first|exact(bY x)) ?_
 refine W.cond rfl (fun hb0=> ?_) (fun hb0=> ?_)
 ·have gO:okW x=false:=by simpa using hb0
  refine W.s0 X [2,3] rfl (by and_intros<;>first|exact⟨⟩|exact rfl) ?_
  refine W.ret ?_
  exact Fin.ret rfl ⟨by rw[aM,if_neg (by rw[gO];decide)],by rw[dF,if_neg (by rw[gO];decide)],⟨⟩⟩
 ·have gO:okW x=true:=by simpa using hb0
  have Za:=eu gO
  have S9:=(qi (mT gO)).2.1
  have hc0:=(col gO 0 (Nat.zero_le _)).Xb
  refine W.skip ?_
  refine W.sr X [] [(18,⟨true,[.agg (ay x)]⟩)] [1,4,5] [] rfl ⟨⟨_,_,_,Tryz.underlying37,rfl,rfl,Tryz.underlying31,rfl⟩,bT x h0,⟨⟩⟩ ?_
  refine W.seq ?_
  refine W.s0 X [1,4,5,6] rfl ⟨⟩ ?_
  refine W.block ?_
  refine W.aI (fun k=>k≤x.aa.length) (fun k:Nat=> [(6, .one (.a (.lit (.int .i64 k))))]) (fun k=> [(19, .arr .aU (vJ x k)),(11, .arr .cU (DQ x k))]) (fun k=>x.aa.length-k) 0 (fun k=>rfl) (Nat.zero_le _) rfl ?_
  intro k hk
  refine W.seq ?_
  refine W.s0 X [1,4,5,6,24] rfl ⟨⟩ ?_
  refine W.cond rfl (fun aD=> ?_) (fun aD=> ?_)
  ·try simp only[nb,an,au,af]at aD
   have NB:k<x.aa.length:=by omega
   have Y3:(cM x (k:Int)).length=x.aj.length:=lJ gO (by omega)
   refine W.skip ?_
   refine W.seq ?_
   refine W.block ?_
   refine W.sr X [] [(29,⟨true,[.a (.sl .DB (cM x (k:Int)))]⟩)] [1,4,5,6,7] [] rfl (by(repeat' with_reducible first|exact ah.nil|refine ah.mk ?_ ?_|apply And.intro)<;>first|exact(zw x (k:Int) (by first|assumption|omega| (simp;done)| (simp;omega)) (by first|assumption|omega| (simp;done)| (simp;omega)))) ?_
   refine W.s0 X [1,4,5,6,7,8] rfl ⟨⟩ ?_
   refine W.block ?_
   refine W.aI (fun k1=>k1≤x.aj.length) (fun k1:Nat=> [(8, .one (.a (.lit (.int .i64 k1))))]) (fun k1=> [(19, .arr .aU (o7 x k k1)),(11, .arr .cU (DQ x k++DP x k k1))]) (fun k1=>x.aj.length-k1) 0 (fun k1=>rfl) (Nat.zero_le _) (by simp[o7,DP]) ?_
   intro k1 hk1
   have oy:=It gO NB hk1
   refine W.seq ?_
   refine W.s0 X [1,4,5,6,7,8,33] rfl ⟨⟩ ?_
   refine W.cond rfl (fun aR=> ?_) (fun aR=> ?_)
   ·try simp only[nb,an,au,af]at aR
    rw[oy]at aR
    have DU:=Iw gO NB (by omega:k1<x.aj.length)
    have hs1:=EO gO NB (by omega:k1<x.aj.length)
    have Av:=zx x k k1
    have hrl:=C3 x k
    have Ta:=xF x k k1
    have Jd:k*x.aj.length≤8*4:=Nat.mul_le_mul (by omega) (by omega)
    refine W.skip ?_
    refine W.seq ?_
    refine W.block ?_
    refine W.seq ?_
    refine W.fD X [] [(46,⟨true,[.agg (bw (Jj ((o7 x k k1).getD k1 (av .aU)) (k:Int) ((cM x (k:Int)).getD k1 (av .DB)))), .a (.lit (.bool (jz ((o7 x k k1).getD k1 (av .aU)) (k:Int) ((cM x (k:Int)).getD k1 (av .DB)))))]⟩)] [1,4,5,6,7,8,9] [] 49151 (.ph 16383 (.br 16383 14 (.last 32768) (.br 12287 14 (.last 36864) (.nil)))) 1 MO (by kernel_rfl) rfl (by kernel_rfl) (by(repeat' with_reducible first|exact ah.nil|refine ah.mk ?_ ?_|apply And.intro)<;>first|exact(uu ((o7 x k k1).getD k1 (av .aU)) (k:Int) ((cM x (k:Int)).getD k1 (av .DB)) DU.2.1 DU.1 DU.2.2)| (intros;omega)) ?_
    refine W.s0 X [1,4,5,6,7,8] rfl (by and_intros<;>first|exact⟨⟩| (intros;omega)) ?_
    refine W.draw X [(68,11)] [(57,⟨false,[.a (.lit (.int .i64 (fI x.az (k1:Int))))]⟩),(66,⟨false,[.agg (gN (VY (fI x.az (k1:Int)) (k1:Int) (k:Int) x.round ((cM x (k:Int)).getD k1 (av .DB))))]⟩)] [1,4,5,6,7,8] [] 15 MO (by kernel_rfl) rfl (by(repeat' with_reducible first|exact ah.nil|refine ah.mk ?_ ?_|apply And.intro);(iterate 2 all_goals try first|exact(gU x.az (k1:Int))|exact(vL (fI x.az (k1:Int)) (k1:Int) (k:Int) x.round ((cM x (k:Int)).getD k1 (av .DB)) DU.2.2));all_goals first| (intros;omega)|exact rfl|exact⟨rfl,bH _ (by decide)⟩| (simp only[cN,maxLen,lens];omega)) ?_
    refine W.r0 X [1,4,5,6,7,8] rfl ⟨⟩ ?_
    refine⟨k1+1,by omega,by omega,?_⟩
    rw[aV _ k1 rfl (by omega), ←hs1,Av, ←List.append_assoc]
    try rfl
   ·try simp only[nb,an,au,af]at aR
    rw[oy]at aR
    rw[Iv gO NB (by omega),show k1=x.aj.length by omega, ←zy]
    refine W.exit ?_
    refine W.r0 X [1,4,5,6] rfl ⟨⟩ ?_
    refine⟨k+1,by omega,by omega,?_⟩
    rw[aV _ k rfl (by omega)]
    try rfl
  ·try simp only[nb,an,au,af]at aD
   refine W.exit ?_
   refine W.s0 X [2,3] rfl ⟨⟩ ?_
   refine W.ret ?_
   exact Fin.ret rfl ⟨by rw[aM,if_pos gO,show x.aa.length=k by omega],by rw[dF,if_pos gO,show x.aa.length=k by omega],⟨⟩⟩
end
end Go.Proofs.YtmcgjpdljafkeaaGreat.G
