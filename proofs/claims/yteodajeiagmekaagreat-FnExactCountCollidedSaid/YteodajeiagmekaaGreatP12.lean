/-
  FnExactCountCollided, walked by the symbolic machine: it returns true.
-/
import Derived.Lib.AppendZeros
import Derived.Test.YteodajeiagmekaaGreatP11
namespace Go.Proofs.YteodajeiagmekaaGreat.G
set_option linter.all false
open Go.RowKit L D
section
set_option maxRecDepth 100000
theorem BT{w w':World}{t:Tag}{g n:Nat}{c:Array Value}(hg:g=w.heap.size)(hb:Below w.heap.size w w')(hc:w'.heap[g]? =some (.cells c (ty t) (0,0)))(hs:c.size=n*kk t)(hn:n≤maxLen):
  F2 ty w [.a (.sl t [])] (.returned (.slice (some ⟨g,0,none⟩) 0 n)) w':=by
 have hown:Own w.heap.size w' (g::([]:List (List Nat)).flatten):=⟨by simp,fun b ud=>by simp at ud;omega,fun b ud=>by simp at ud;subst ud;exact⟨_,_,hc⟩⟩
 have hp:Part (kk t) (rd t) w.heap.size (ty t) w' g n ([]:List (T t)) []:=⟨⟨c,hc,hs⟩,⟨rfl,by simp⟩,hown,hn⟩
 have hB:=Part.Ab (bI t) hp (Nat.zero_le _)
 exact⟨_,_,rfl,hb,hown,_,[],hB,rfl,by simp⟩
theorem Dz{w:World}{t:Tag}:F2 ty w [.a (.sl t [])] (.returned tB) w:=by
 refine⟨_,[],rfl,Below.refl _ _,Own.nil _ _,[],[],⟨[],[],?_,rfl,by simp,rfl,Own.nil _ _⟩,rfl,rfl⟩
 exact⟨by simp,Or.inl ⟨rfl,rfl⟩⟩
theorem BU(w:World)(n:Nat)(h1:n≤1099511627776):Calls Tryz.prog 339 #[tB, .int .i64 n] w (F2 ty w [.a (.sl .int [])]):=by
 have j6:El Tryz.prog ty .int:=bL _ (by decide)
 cases hq:Tryz.prog.info? (ty .int)with
 |none=>simp[El,hq]at j6
 |some inf=>
  simp[El,hq]at j6
  obtain⟨z1,z2,z3⟩:=j6
  by_cases h0:n=0
  ·subst h0
   go_enter Tryz.func339,Tryz.ntmps339
   go_wp2
   go_ret
   exact Dz
  ·have hsz:inf.size=1:=z2
   have hby:inf.bytes≤8:=by rw[z3];decide
   have hmul:n*inf.bytes≤8796093022208:=Nat.le_trans (Nat.mul_le_mul (show n≤1099511627776 from h1) hby) (by decide)
   have hrun:=Lib.run_append_nil_zeros (P:=Tryz.prog) w 29 3 29 (ty .int) inf (bP .int) .i64 .i64 (X.kind 29).1 (X.kind 3) hq z1 n (by omega) (by omega) (by omega) (by omega)
   have hge:=grownCap_ge w n 0 (ty .int)
   have Cd:=grownCap_le_maxLen w n 0 (ty .int) (by unfold maxLen;omega)
   generalize grownCap w n 0 (ty .int)=g at hrun hge Cd
   go_enter Tryz.func339,Tryz.ntmps339
   go_wp2_with (at_builtin;refine Lib.wpList_append_run _ rfl _ _ _ _ rfl _ _ rfl rfl _ _ hrun ?_)
   go_ret
   refine BT (t:= .int) rfl ((Below.refl _ _).drew.alloc (Nat.le_refl _) _) (ga rfl) ?_ Cd
   rw[Array.size_append,size_zeroCells,size_zeroCells, ←Nat.add_mul,show n+(g-n)=g by omega]
   rfl
theorem iw(n:Nat)(h1:n≤1099511627776):Sound ty Tryz.prog 339 [.a (.lit tB), .a (.lit (.int .i64 n))] [.a (.sl .int [])]:=by
 refine⟨fun args w=>Tryz.call339 args w,fun w us _ ha=> ?_⟩
 match us,ha with
 | [u1,u2],⟨⟨_,e1⟩,⟨_,e2⟩,_⟩=>
   obtain⟨e1,_⟩:=e1
   obtain⟨e2,_⟩:=e2
   rw[e1,e2]
   exact BU w n h1
end
section
set_option maxRecDepth 100000
theorem ay(x lo hi:Int):Sound ty Tryz.prog 112 [.a (.lit (.int .i64 x)), .a (.lit (.int .i64 lo)), .a (.lit (.int .i64 hi))] [.a (.lit (.bool (inr x lo hi)))]:=by
 refine Sound.o X Tryz.call112 Tryz.func112 Tryz.ntmps112 rfl rfl ?_
 intro zb
 refine W.s0 X [0,1,2] rfl ⟨⟩ ?_
 refine W.s0 X [6] rfl ⟨⟩ ?_
 refine W.ret ?_
 exact Fin.ret rfl ⟨rfl,⟨⟩⟩
theorem aH(x lo hi:Int):Sound ty Tryz.prog 142 [.a (.lit (.int .i64 x)), .a (.lit (.int .i64 lo)), .a (.lit (.int .i64 hi))] [.a (.lit (.bool (inr x lo hi)))]:=by
 refine Sound.o X Tryz.call142 Tryz.func142 Tryz.ntmps142 rfl rfl ?_
 intro zb
 refine W.s0 X [0,1,2] rfl ⟨⟩ ?_
 refine W.s0 X [6] rfl ⟨⟩ ?_
 refine W.ret ?_
 exact Fin.ret rfl ⟨rfl,⟨⟩⟩
theorem wU(p q:Int)(h1:1≤q)(h2:q≤1000000000000):Sound ty Tryz.prog 338 [.a (.lit (.int .i64 p)), .a (.lit (.int .i64 q))] [.a (.lit (.int .i64 (p % q)))]:=by
 refine Sound.o X Tryz.call338 Tryz.func338 Tryz.ntmps338 rfl rfl ?_
 intro zb
 refine W.s0 X [0,1] rfl ⟨⟩ ?_
 refine W.seq ?_
 refine W.sr X [] [(6,⟨false,[.a (.lit (.bool _))]⟩)] [0,1,7] [] rfl (by(repeat' with_reducible first|exact ah.nil|refine ah.mk ?_ ?_|apply And.intro)<;>first|exact(ay _ _ _)) ?_
 refine W.cond rfl (fun hb0=> ?_) (fun hb0=> ?_)
 ·try simp only[nb,ak,aq,aa]at hb0
  omega
 ·try simp only[nb,ak,aq,aa]at hb0
  refine W.skip ?_
  refine W.s0 X [4] rfl (by and_intros<;>first|exact⟨⟩| (intros;omega)) ?_
  refine W.ret ?_
  exact Fin.ret rfl ⟨by rw[md_eq p q h1 h2],⟨⟩⟩
theorem uX(l:List Int)(hl:l.length≤16777216):Sound ty Tryz.prog 248 [.a (.sl .int l)] [.a (.lit (.int .i64 (hsh l)))]:=by
 refine Sound.o X Tryz.call248 Tryz.func248 Tryz.ntmps248 rfl rfl ?_
 intro zb
 refine W.s0 X [0] rfl ⟨⟩ ?_
 refine W.s0 X [0,3] rfl ⟨⟩ ?_
 refine W.seq ?_
 refine W.s0 X [3,6,7,8] rfl ⟨⟩ ?_
 refine W.block ?_
 refine W.aV (fun k=>k≤l.length) (fun k:Nat=> [(3, .one (.a (.lit (.int .i64 (hsh (l.take k)))))),(8, .one (.a (.lit (.int .i64 k))))]) (fun k=> []) (fun k=>l.length-k) 0 (fun k=>rfl) (Nat.zero_le _) rfl ?_
 intro k hk
 refine W.s0 X [3,6,7,8,9] rfl ⟨⟩ ?_
 refine W.seq ?_
 refine W.cond rfl (fun hb0=> ?_) (fun hb0=> ?_)
 ·try simp only[nb,ak,aq,aa]at hb0
  have hs:=uT l k hb0
  refine W.skip ?_
  refine W.seq ?_
  refine W.block ?_
  refine W.s0 X [3,5,6,7,8] rfl (by and_intros<;>first|exact⟨⟩| (intros;omega)) ?_
  refine W.cV X [] [(15,⟨false,[.a (.lit (.int .i64 _))]⟩)] [3,6,7,8] [] rfl (by(repeat' with_reducible first|exact ah.nil|refine ah.mk ?_ ?_|apply And.intro)<;>first|exact(wU _ _ (by first|assumption|omega| (simp;done)| (simp;omega)) (by first|assumption|omega| (simp;done)| (simp;omega)))| (intros;omega)) ?_
  refine W.r0 X [3,6,7,8] rfl ⟨⟩ ?_
  refine⟨k+1,by omega,by omega,?_⟩
  rw[bw _ k rfl (by omega),hs]
  try rfl
 ·try simp only[nb,ak,aq,aa]at hb0
  refine W.exit ?_
  refine W.s0 X [2] rfl ⟨⟩ ?_
  refine W.ret ?_
  exact Fin.ret rfl ⟨by rw[List.take_of_length_le hb0],⟨⟩⟩
theorem wV(p q:Int)(h1:1≤q)(h2:q≤1000000000000):Sound ty Tryz.prog 335 [.a (.lit (.int .i64 p)), .a (.lit (.int .i64 q))] [.a (.lit (.int .i64 (p % q)))]:=by
 refine Sound.o X Tryz.call335 Tryz.func335 Tryz.ntmps335 rfl rfl ?_
 intro zb
 refine W.s0 X [0,1] rfl ⟨⟩ ?_
 refine W.seq ?_
 refine W.sr X [] [(6,⟨false,[.a (.lit (.bool _))]⟩)] [0,1,7] [] rfl (by(repeat' with_reducible first|exact ah.nil|refine ah.mk ?_ ?_|apply And.intro)<;>first|exact(aH _ _ _)) ?_
 refine W.cond rfl (fun hb0=> ?_) (fun hb0=> ?_)
 ·try simp only[nb,ak,aq,aa]at hb0
  omega
 ·try simp only[nb,ak,aq,aa]at hb0
  refine W.skip ?_
  refine W.s0 X [4] rfl (by and_intros<;>first|exact⟨⟩| (intros;omega)) ?_
  refine W.ret ?_
  exact Fin.ret rfl ⟨by rw[md_eq p q h1 h2],⟨⟩⟩
theorem uY(l:List Int)(hl:l.length≤16777216):Sound ty Tryz.prog 238 [.a (.sl .int l)] [.a (.lit (.int .i64 (hsh l)))]:=by
 refine Sound.o X Tryz.call238 Tryz.func238 Tryz.ntmps238 rfl rfl ?_
 intro zb
 refine W.s0 X [0] rfl ⟨⟩ ?_
 refine W.s0 X [0,3] rfl ⟨⟩ ?_
 refine W.seq ?_
 refine W.s0 X [0,3,4] rfl ⟨⟩ ?_
 refine W.block ?_
 refine W.aV (fun k=>k≤l.length) (fun k:Nat=> [(3, .one (.a (.lit (.int .i64 (hsh (l.take k)))))),(4, .one (.a (.lit (.int .i64 k))))]) (fun k=> []) (fun k=>l.length-k) 0 (fun k=>rfl) (Nat.zero_le _) rfl ?_
 intro k hk
 refine W.seq ?_
 refine W.s0 X [0,3,4,8] rfl ⟨⟩ ?_
 refine W.cond rfl (fun hb0=> ?_) (fun hb0=> ?_)
 ·try simp only[nb,ak,aq,aa]at hb0
  have hs:=uT l k hb0
  refine W.skip ?_
  refine W.seq ?_
  refine W.block ?_
  refine W.cV X [] [(17,⟨false,[.a (.lit (.int .i64 _))]⟩)] [0,3,4] [] rfl (by(repeat' with_reducible first|exact ah.nil|refine ah.mk ?_ ?_|apply And.intro)<;>first|exact(wV _ _ (by first|assumption|omega| (simp;done)| (simp;omega)) (by first|assumption|omega| (simp;done)| (simp;omega)))| (intros;omega)) ?_
  refine W.r0 X [0,3,4] rfl ⟨⟩ ?_
  refine⟨k+1,by omega,by omega,?_⟩
  rw[bw _ k rfl (by omega),hs]
  try rfl
 ·try simp only[nb,ak,aq,aa]at hb0
  refine W.exit ?_
  refine W.s0 X [2] rfl ⟨⟩ ?_
  refine W.ret ?_
  exact Fin.ret rfl ⟨by rw[List.take_of_length_le hb0],⟨⟩⟩
theorem gm(l:List (List Int))(hl:l.length≤1048576)(hs0:(l.map List.length).sum≤1099511627776):Sound ty Tryz.prog 249 [.a (.sl (.sl .int) l)] [.a (.sl .int l.flatten)]:=by
 refine Sound.o X Tryz.call249 Tryz.func249 Tryz.ntmps249 rfl rfl ?_
 intro zb
 refine W.s0 X [0] rfl ⟨⟩ ?_
 refine W.s0 X [0,3] rfl ⟨⟩ ?_
 refine W.seq ?_
 refine W.s0 X [0,3,9,10,11] rfl ⟨⟩ ?_
 refine W.block ?_
 refine W.aV (fun k=>k≤l.length) (fun k:Nat=> [(3, .one (.a (.lit (.int .i64 ((l.take k).map List.length).sum)))),(11, .one (.a (.lit (.int .i64 k))))]) (fun k=> []) (fun k=>l.length-k) 0 (fun k=>rfl) (Nat.zero_le _) rfl ?_
 intro k hk
 have hle:=bS l List.length k
 refine W.s0 X [0,3,9,10,11,12] rfl ⟨⟩ ?_
 refine W.seq ?_
 refine W.cond rfl (fun hb0=> ?_) (fun hb0=> ?_)
 ·try simp only[nb,ak,aq,aa]at hb0
  have hs:=uU l (aK (.sl .int)) k hb0
  have Fj:=bS l List.length (k+1)
  rw[hs]at Fj
  refine W.skip ?_
  refine W.seq ?_
  refine W.block ?_
  refine W.s0 X [0,3,5,9,10,11] rfl (by and_intros<;>first|exact⟨⟩| (intros;omega)) ?_
  refine W.s0 X [0,3,9,10,11] rfl (by and_intros<;>exact⟨⟩) ?_
  refine W.s0 X [0,3,9,10,11,20] rfl ⟨⟩ ?_
  refine W.cond rfl (fun aL=> ?_) (fun aL=> ?_)
  ·try simp only[nb,ak,aq,aa]at aL
   rw[cQ (by omega)]at aL
   omega
  ·try simp only[nb,ak,aq,aa]at aL
   refine W.skip ?_
   refine W.r0 X [0,3,9,10,11] rfl ⟨⟩ ?_
   refine⟨k+1,by omega,by omega,?_⟩
   rw[bw _ k rfl (by omega),hs]
   rw[cQ (by simp only[Int.toNat_natCast];omega)]
   try rfl
 ·try simp only[nb,ak,aq,aa]at hb0
  rw[List.take_of_length_le hb0]
  refine W.exit ?_
  refine W.sr X [] [(24,⟨true,[.a (.sl .int [])]⟩),(300024,⟨true,[]⟩)] [0,6] [] rfl (by(repeat' with_reducible first|exact ah.nil|refine ah.mk ?_ ?_|apply And.intro)<;>first|exact(iw _ hs0)) ?_
  refine W.seq ?_
  refine W.s0 X [6,25,26,27] rfl ⟨⟩ ?_
  refine W.block ?_
  refine W.aV (fun k1=>k1≤l.length) (fun k1:Nat=> [(27, .one (.a (.lit (.int .i64 k1))))]) (fun k1=> [(24, .arr .int (l.take k1).flatten)]) (fun k1=>l.length-k1) 0 (fun k1=>rfl) (Nat.zero_le _) rfl ?_
  intro k1 hk1
  have Kc:=nu l k1
  refine W.s0 X [6,25,26,27,28] rfl ⟨⟩ ?_
  refine W.seq ?_
  refine W.cond rfl (fun aU=> ?_) (fun aU=> ?_)
  ·try simp only[nb,ak,aq,aa]at aU
   have hs1:=sN l (aK (.sl .int)) k1 aU
   have Fj:=nu l (k1+1)
   rw[hs1,List.length_append]at Fj
   refine W.skip ?_
   refine W.seq ?_
   refine W.block ?_
   refine W.s0 X [6,8,25,26,27] rfl (by and_intros<;>first|exact⟨⟩| (intros;omega)) ?_
   refine W.cV X [(33,24)] [] [6,25,26,27] [] rfl (by and_intros<;>first|exact⟨⟩|exact rfl| (simp only[iA,maxLen,lens];omega)) ?_
   refine W.r0 X [6,25,26,27] rfl ⟨⟩ ?_
   refine⟨k1+1,by omega,by omega,?_⟩
   rw[bw _ k1 rfl (by omega),hs1]
   try rfl
  ·try simp only[nb,ak,aq,aa]at aU
   refine W.exit ?_
   refine W.s0 X [2] rfl ⟨⟩ ?_
   refine W.ret ?_
   exact Fin.ret rfl ⟨by rw[List.take_of_length_le aU],⟨⟩⟩
theorem aS(k:Int)(l:List Int)(hl:l.length≤1048576):Sound ty Tryz.prog 122 [.a (.lit (.int .i64 k)), .a (.sl .int l)] [.a (.lit (.int .i64 (kh k l)))]:=by
 refine Sound.o X Tryz.call122 Tryz.func122 Tryz.ntmps122 rfl rfl ?_
 intro zb
 refine W.s0 X [0,1] rfl ⟨⟩ ?_
 refine W.sr X [] [(11,⟨true,[.a (.sl .int [[k],l,[k]].flatten)]⟩),(12,⟨false,[.a (.lit (.int .i64 (hsh [[k],l,[k]].flatten)))]⟩)] [4] [] rfl (by(repeat' with_reducible first|exact ah.nil|refine ah.mk ?_ ?_|apply And.intro);(iterate 2 all_goals try first|exact(gm _ (by simp) (by simp;omega))|exact(uX _ (by simp;omega)));all_goals first|exact rfl|exact⟨rfl,bL _ (by decide)⟩) ?_
 refine W.ret ?_
 exact Fin.ret rfl ⟨rfl,⟨⟩⟩
theorem aT(k:Int)(l:List Int)(hl:l.length≤1048576):Sound ty Tryz.prog 106 [.a (.lit (.int .i64 k)), .a (.sl .int l)] [.a (.lit (.int .i64 (kh k l)))]:=by
 refine Sound.o X Tryz.call106 Tryz.func106 Tryz.ntmps106 rfl rfl ?_
 intro zb
 refine W.s0 X [0,1] rfl ⟨⟩ ?_
 refine W.sr X [(8,6),(11,6)] [(12,⟨false,[.a (.lit (.int .i64 (hsh ([k]++l++ [k]))))]⟩)] [4] [] rfl (by(repeat' with_reducible first|exact ah.nil|refine ah.mk ?_ ?_|apply And.intro)<;>first|exact(uY _ (by simp;omega))|exact rfl|exact⟨rfl,bL _ (by decide)⟩| (simp only[iA,maxLen,lens];omega)) ?_
 refine W.ret ?_
 exact Fin.ret rfl ⟨rfl,⟨⟩⟩
theorem lP(n:Int):Sound ty Tryz.prog 230 [.a (.lit (.int .i64 n))] [.a (.lit (.int .i64 (Fg n)))]:=by
 refine Sound.o X Tryz.call230 Tryz.func230 Tryz.ntmps230 rfl rfl ?_
 intro zb
 refine W.s0 X [0] rfl ⟨⟩ ?_
 refine W.seq ?_
 refine W.s0 X [0,4] rfl ⟨⟩ ?_
 refine W.cond rfl (fun hb0=> ?_) (fun hb0=> ?_)
 ·try simp only[nb,ak,aq,aa]at hb0
  refine W.s0 X [2] rfl ⟨⟩ ?_
  refine W.ret ?_
  exact Fin.ret rfl ⟨by rw[Fg,if_pos hb0],⟨⟩⟩
 ·try simp only[nb,ak,aq,aa]at hb0
  refine W.skip ?_
  refine W.s0 X [2] rfl ⟨⟩ ?_
  refine W.ret ?_
  exact Fin.ret rfl ⟨by rw[Fg,if_neg (by simpa using hb0)],⟨⟩⟩
theorem pW(a b:Int):Sound ty Tryz.prog 105 [.a (.lit (.int .i64 a)), .a (.lit (.int .i64 b))] [.a (.lit (.int .i64 (if b>a then b else a)))]:=by
 refine Sound.o X Tryz.call105 Tryz.func105 Tryz.ntmps105 rfl rfl ?_
 intro zb
 refine W.s0 X [0,1] rfl ⟨⟩ ?_
 refine W.seq ?_
 refine W.s0 X [0,1,7] rfl ⟨⟩ ?_
 refine W.cond rfl (fun hb0=> ?_) (fun hb0=> ?_)
 ·try simp only[nb,ak,aq,aa]at hb0
  refine W.s0 X [4] rfl ⟨⟩ ?_
  refine W.ret ?_
  exact Fin.ret rfl ⟨by rw[if_pos (by omega)],⟨⟩⟩
 ·try simp only[nb,ak,aq,aa]at hb0
  refine W.skip ?_
  refine W.s0 X [4] rfl ⟨⟩ ?_
  refine W.ret ?_
  exact Fin.ret rfl ⟨by rw[if_neg (by omega)],⟨⟩⟩
theorem dW(s k:Int):Sound ty Tryz.prog 270 [.a (.lit (.int .i64 s)), .a (.lit (.int .i64 k))] [.a (.lit (.int .i64 (cs s k)))]:=by
 refine Sound.o X Tryz.call270 Tryz.func270 Tryz.ntmps270 rfl rfl ?_
 intro zb
 refine W.s0 X [0,1] rfl ⟨⟩ ?_
 refine W.sr X [] [(9,⟨false,[.a (.lit (.int .i64 _))]⟩)] [5] [] rfl (by(repeat' with_reducible first|exact ah.nil|refine ah.mk ?_ ?_|apply And.intro)<;>first|exact(aS _ _ (by first|assumption|omega| (simp;done)| (simp;omega)))|exact⟨rfl,bL _ (by decide)⟩) ?_
 refine W.s0 X [4] rfl (by and_intros<;>first|exact⟨⟩| (intros;omega)) ?_
 refine W.ret ?_
 exact Fin.ret rfl ⟨by rw[cs_eq (eA _ _).1 (eA _ _).2];rfl,⟨⟩⟩
theorem fk(s n:Int)(h0:0≤n)(h1:n≤400):Sound ty Tryz.prog 235 [.a (.lit (.int .i64 s)), .a (.lit (.int .i64 n))] [.a (.sl .u8 (stream s n.toNat))]:=by
 refine Sound.o X Tryz.call235 Tryz.func235 Tryz.ntmps235 rfl rfl ?_
 intro zb
 refine W.s0 X [0,1] rfl ⟨⟩ ?_
 refine W.seq ?_
 refine W.sr X [] [(8,⟨false,[.a (.lit (.bool _))]⟩)] [0,1,9] [] rfl (by(repeat' with_reducible first|exact ah.nil|refine ah.mk ?_ ?_|apply And.intro)<;>first|exact(ay _ _ _)) ?_
 refine W.cond rfl (fun hb0=> ?_) (fun hb0=> ?_)
 ·try simp only[nb,ak,aq,aa]at hb0
  omega
 ·try simp only[nb,ak,aq,aa]at hb0
  refine W.skip ?_
  refine W.s0 X [0,1,5] rfl (by and_intros<;>first|exact⟨⟩|exact rfl) ?_
  refine W.seq ?_
  refine W.s0 X [0,5,11,12] rfl ⟨⟩ ?_
  refine W.block ?_
  refine W.aV (fun k=>k≤n.toNat) (fun k:Nat=> [(12, .one (.a (.lit (.int .i64 k))))]) (fun k=> [(10, .arr .u8 (stream s k))]) (fun k=>n.toNat-k) 0 (fun k=>rfl) (Nat.zero_le _) rfl ?_
  intro k hk
  have hle:=dV s k
  refine W.s0 X [0,5,11,12,13] rfl ⟨⟩ ?_
  refine W.seq ?_
  refine W.cond rfl (fun aL=> ?_) (fun aL=> ?_)
  ·try simp only[nb,ak,aq,aa]at aL
   have hs:=nr s k (by omega)
   refine W.skip ?_
   refine W.seq ?_
   refine W.block ?_
   refine W.s0 X [0,5,6,11,12] rfl ⟨⟩ ?_
   refine W.cV X [(23,10)] [(19,⟨false,[.a (.lit (.int .i64 _))]⟩)] [0,5,11,12] [] rfl (by(repeat' with_reducible first|exact ah.nil|refine ah.mk ?_ ?_|apply And.intro)<;>first|exact(dW _ _)| (intros;omega)|exact rfl|exact⟨rfl,bL _ (by decide)⟩|exact(uH _).1|exact(uH _).2| (simp only[iA,maxLen,lens];omega)) ?_
   refine W.r0 X [0,5,11,12] rfl ⟨⟩ ?_
   refine⟨k+1,by omega,by omega,?_⟩
   rw[bw _ k rfl (by omega),hs]
   try rfl
  ·try simp only[nb,ak,aq,aa]at aL
   refine W.exit ?_
   refine W.s0 X [4] rfl ⟨⟩ ?_
   refine W.ret ?_
   exact Fin.ret rfl ⟨by rw[show k=n.toNat by omega],⟨⟩⟩
theorem dX(s k:Int):Sound ty Tryz.prog 274 [.a (.lit (.int .i64 s)), .a (.lit (.int .i64 k))] [.a (.lit (.int .i64 (cs s k)))]:=by
 refine Sound.o X Tryz.call274 Tryz.func274 Tryz.ntmps274 rfl rfl ?_
 intro zb
 refine W.s0 X [0,1] rfl ⟨⟩ ?_
 refine W.sr X [] [(9,⟨false,[.a (.lit (.int .i64 _))]⟩)] [5] [] rfl (by(repeat' with_reducible first|exact ah.nil|refine ah.mk ?_ ?_|apply And.intro)<;>first|exact(aT _ _ (by first|assumption|omega| (simp;done)| (simp;omega)))|exact⟨rfl,bL _ (by decide)⟩) ?_
 refine W.s0 X [4] rfl (by and_intros<;>first|exact⟨⟩| (intros;omega)) ?_
 refine W.ret ?_
 exact Fin.ret rfl ⟨by rw[cs_eq (eA _ _).1 (eA _ _).2];rfl,⟨⟩⟩
theorem fm(s n:Int)(h0:0≤n)(h1:n≤400):Sound ty Tryz.prog 184 [.a (.lit (.int .i64 s)), .a (.lit (.int .i64 n))] [.a (.sl .u8 (stream s n.toNat))]:=by
 refine Sound.o X Tryz.call184 Tryz.func184 Tryz.ntmps184 rfl rfl ?_
 intro zb
 refine W.s0 X [0,1] rfl ⟨⟩ ?_
 refine W.s0 X [0,1,5] rfl (by and_intros<;>first|exact⟨⟩|exact rfl) ?_
 refine W.seq ?_
 refine W.s0 X [0,1,5,6] rfl ⟨⟩ ?_
 refine W.block ?_
 refine W.aV (fun k=>k≤n.toNat) (fun k:Nat=> [(6, .one (.a (.lit (.int .i64 k))))]) (fun k=> [(7, .arr .u8 (stream s k))]) (fun k=>n.toNat-k) 0 (fun k=>rfl) (Nat.zero_le _) rfl ?_
 intro k hk
 have hle:=dV s k
 refine W.seq ?_
 refine W.s0 X [0,1,5,6,14] rfl ⟨⟩ ?_
 refine W.cond rfl (fun hb0=> ?_) (fun hb0=> ?_)
 ·try simp only[nb,ak,aq,aa]at hb0
  have hs:=nr s k (by omega)
  refine W.skip ?_
  refine W.seq ?_
  refine W.block ?_
  refine W.cV X [(25,7)] [(21,⟨false,[.a (.lit (.int .i64 _))]⟩)] [0,1,5,6] [] rfl (by(repeat' with_reducible first|exact ah.nil|refine ah.mk ?_ ?_|apply And.intro)<;>first|exact(dX _ _)| (intros;omega)|exact rfl|exact⟨rfl,bL _ (by decide)⟩|exact(uH _).1|exact(uH _).2| (simp only[iA,maxLen,lens];omega)) ?_
  refine W.r0 X [0,1,5,6] rfl ⟨⟩ ?_
  refine⟨k+1,by omega,by omega,?_⟩
  rw[bw _ k rfl (by omega),hs]
  try rfl
 ·try simp only[nb,ak,aq,aa]at hb0
  refine W.exit ?_
  refine W.s0 X [4] rfl ⟨⟩ ?_
  refine W.ret ?_
  exact Fin.ret rfl ⟨by rw[show k=n.toNat by omega],⟨⟩⟩
end
section
set_option maxRecDepth 100000
theorem fU(l:List UInt8)(hl:l.length≤1048576):Sound ty Tryz.prog 269 [.a (.sl .u8 l)] [.a (.sl .u8 l)]:=by
 refine Sound.o X Tryz.call269 Tryz.func269 Tryz.ntmps269 rfl rfl ?_
 intro zb
 refine W.s0 X [0] rfl ⟨⟩ ?_
 refine W.seq ?_
 refine W.seq ?_
 refine W.isNil X [] [] [0,4] rfl (by and_intros<;>exact⟨⟩) (fun hn1=> ?_) ?_
 ·skip
  refine W.cond rfl (fun _=> ?_) (fun hb=>absurd hb (by decide))
  refine W.s0 X [2] rfl ⟨⟩ ?_
  refine W.ret ?_
  exact Fin.ret rfl ⟨hn1,⟨⟩⟩
 ·skip
  refine W.cond rfl (fun hb=>absurd hb (by decide)) (fun _=> ?_)
  refine W.skip ?_
  refine W.sr X [(7,5)] [] [2] [] rfl (by and_intros<;>first|exact⟨⟩|exact rfl| (simp only[iA,maxLen,lens];omega)) ?_
  refine W.ret ?_
  exact Fin.ret rfl ⟨rfl,⟨⟩⟩
theorem pY(s:Int)(l:List UInt8)(hl:l.length≤1048576):Sound ty Tryz.prog 347 [.a (.lit (.int .i64 s)), .a (.sl .u8 l)] [.a (.sl .u8 (dY s l))]:=by
 refine Sound.o X Tryz.call347 Tryz.func347 Tryz.ntmps347 rfl rfl ?_
 intro zb
 refine W.s0 X [0,1] rfl ⟨⟩ ?_
 refine W.sr X [] [(8,⟨true,[.a (.sl .u8 _)]⟩)] [0,5] [] rfl (by(repeat' with_reducible first|exact ah.nil|refine ah.mk ?_ ?_|apply And.intro)<;>first|exact(fU _ (by first|assumption|omega| (simp;done)| (simp;omega)))) ?_
 refine W.seq ?_
 refine W.s0 X [0,5,10,11] rfl ⟨⟩ ?_
 refine W.block ?_
 refine W.aV (fun k=>k≤l.length) (fun k:Nat=> [(11, .one (.a (.lit (.int .i64 k))))]) (fun k=> [(8, .arr .u8 ((dY s l).take k++l.drop k))]) (fun k=>l.length-k) 0 (fun k=>rfl) (Nat.zero_le _) rfl ?_
 intro k hk
 have hle:=BP (dY s l) l k (eB s l) hk
 refine W.s0 X [0,5,10,11,12] rfl ⟨⟩ ?_
 refine W.seq ?_
 refine W.cond rfl (fun hb0=> ?_) (fun hb0=> ?_)
 ·try simp only[nb,ak,aq,aa]at hb0
  have hs:=zk s l k hb0
  refine W.skip ?_
  refine W.seq ?_
  refine W.block ?_
  refine W.s0 X [0,5,6,10,11] rfl ⟨⟩ ?_
  refine W.draw X [] [(21,⟨false,[.a (.lit (.int .i64 _))]⟩)] [0,5,10,11] [] 12 MO (by kernel_rfl) rfl (by(repeat' with_reducible first|exact ah.nil|refine ah.mk ?_ ?_|apply And.intro)<;>first|exact(aS _ _ (by first|assumption|omega| (simp;done)| (simp;omega)))| (intros;omega)|exact⟨rfl,bL _ (by decide)⟩|exact(uH _).1|exact(uH _).2) ?_
  refine W.r0 X [0,5,10,11] rfl ⟨⟩ ?_
  refine⟨k+1,by omega,by omega,?_⟩
  rw[bw _ k rfl (by omega),hs]
  try rfl
 ·try simp only[nb,ak,aq,aa]at hb0
  refine W.exit ?_
  refine W.s0 X [4] rfl ⟨⟩ ?_
  refine W.ret ?_
  exact Fin.ret rfl ⟨by rw[sQ _ _ _ (eB s l) hb0],⟨⟩⟩
theorem dH(k:Int):Sound ty Tryz.prog 116 [.a (.lit (.int .i64 k))] [.a (.lit (.bool (gp k)))]:=by
 refine Sound.o X Tryz.call116 Tryz.func116 Tryz.ntmps116 rfl rfl ?_
 intro zb
 refine W.s0 X [0] rfl ⟨⟩ ?_
 refine W.sr X [] [(4,⟨false,[.a (.lit (.bool _))]⟩)] [2] [] rfl (by(repeat' with_reducible first|exact ah.nil|refine ah.mk ?_ ?_|apply And.intro)<;>first|exact(ay _ _ _)) ?_
 refine W.ret ?_
 exact Fin.ret rfl ⟨rfl,⟨⟩⟩
theorem jJ(p:Plain):Sound ty Tryz.prog 346 [.agg (dP p)] [.a (.lit (.bool (fI p)))]:=by
 refine Sound.o X Tryz.call346 Tryz.func346 Tryz.ntmps346 rfl rfl ?_
 intro zb
 refine W.s0 X [1] rfl ⟨⟩ ?_
 refine W.sr X [] [(5,⟨false,[.a (.lit (.bool _))]⟩)] [2] [] rfl (by(repeat' with_reducible first|exact ah.nil|refine ah.mk ?_ ?_|apply And.intro)<;>first|exact(ay _ _ _)) ?_
 refine W.ret ?_
 exact Fin.ret rfl ⟨by unfold fI;cases inr p.kind 0 3<;>rfl,⟨⟩⟩
theorem mJ(key c:Int)(l:List UInt8)(hl:l.length≤65536):Sound ty Tryz.prog 398 [.a (.lit (.int .i64 key)), .a (.lit (.int .i64 c)), .a (.sl .u8 l)] [.a (.lit (.int .i64 (iY key c l)))]:=by
 refine Sound.o X Tryz.call398 Tryz.func398 Tryz.ntmps398 rfl rfl ?_
 intro zb
 refine W.s0 X [0,1,2] rfl ⟨⟩ ?_
 refine W.s0 X [0,2,7] rfl (by and_intros<;>first|exact⟨⟩|exact rfl) ?_
 refine W.seq ?_
 refine W.s0 X [0,7,12,13,14] rfl ⟨⟩ ?_
 refine W.block ?_
 refine W.aV (fun k=>k≤l.length) (fun k:Nat=> [(14, .one (.a (.lit (.int .i64 k))))]) (fun k=> [(11, .arr .int ([71,c]++(l.take k).map (fun x=>(x.toNat:Int))))]) (fun k=>l.length-k) 0 (fun k=>rfl) (Nat.zero_le _) rfl ?_
 intro k hk
 refine W.s0 X [0,7,12,13,14,15] rfl ⟨⟩ ?_
 refine W.seq ?_
 refine W.cond rfl (fun hb0=> ?_) (fun hb0=> ?_)
 ·try simp only[nb,ak,aq,aa]at hb0
  have hs:=yc l c k hb0
  refine W.skip ?_
  refine W.seq ?_
  refine W.block ?_
  refine W.s0 X [0,7,9,12,13,14] rfl (by and_intros<;>first|exact⟨⟩| (intros;omega)) ?_
  refine W.cV X [(22,11)] [] [0,7,12,13,14] [] rfl (by and_intros<;>first|exact⟨⟩|exact rfl| (simp only[iA,maxLen,lens];omega)) ?_
  refine W.r0 X [0,7,12,13,14] rfl ⟨⟩ ?_
  refine⟨k+1,by omega,by omega,?_⟩
  rw[bw _ k rfl (by omega),hs]
  try rfl
 ·try simp only[nb,ak,aq,aa]at hb0
  refine W.exit ?_
  refine W.sr X [] [(26,⟨false,[.a (.lit (.int .i64 _))]⟩)] [6] [] rfl (by(repeat' with_reducible first|exact ah.nil|refine ah.mk ?_ ?_|apply And.intro)<;>first|exact(aS _ _ (by first|assumption|omega| (simp;done)| (simp;omega)))) ?_
  refine W.ret ?_
  exact Fin.ret rfl ⟨by rw[List.take_of_length_le hb0];rfl,⟨⟩⟩
theorem lR(key r d n:Int):Sound ty Tryz.prog 145 [.a (.lit (.int .i64 key)), .a (.lit (.int .i64 r)), .a (.lit (.int .i64 d)), .a (.lit (.int .i64 n))] [.a (.lit (.int .i64 (sS key r d n)))]:=by
 refine Sound.o X Tryz.call145 Tryz.func145 Tryz.ntmps145 rfl rfl ?_
 intro zb
 refine W.s0 X [0,1,2,3] rfl ⟨⟩ ?_
 refine W.seq ?_
 refine W.sr X [] [(10,⟨false,[.a (.lit (.bool _))]⟩),(14,⟨false,[.a (.lit (.bool _))]⟩)] [0,1,2,3,16] [] rfl (by(repeat' with_reducible first|exact ah.nil|refine ah.mk ?_ ?_|apply And.intro)<;>first|exact(ay _ _ _)|exact fun _=>(ay _ _ _)) ?_
 refine W.cond rfl (fun hb0=> ?_) (fun hb0=> ?_)
 ·try simp only[nb,ak,aq,aa]at hb0
  refine W.s0 X [8] rfl ⟨⟩ ?_
  refine W.ret ?_
  exact Fin.ret rfl ⟨by rw[sS,if_neg (by omega)],⟨⟩⟩
 ·try simp only[nb,ak,aq,aa]at hb0
  have hcs:=iW (kh key [79,r,d]) 0
  refine W.skip ?_
  refine W.sr X [] [(21,⟨false,[.a (.lit (.int .i64 _))]⟩),(22,⟨false,[.a (.lit (.int .i64 _))]⟩)] [8] [] rfl (by(repeat' with_reducible first|exact ah.nil|refine ah.mk ?_ ?_|apply And.intro);(iterate 2 all_goals try first|exact(aS _ _ (by first|assumption|omega| (simp;done)| (simp;omega)))|exact(dW _ _));all_goals first| (intros;omega)|exact⟨rfl,bL _ (by decide)⟩) ?_
  refine W.ret ?_
  exact Fin.ret rfl ⟨by rw[sS,if_pos (by omega),b7 hcs.1],⟨⟩⟩
theorem nF(s r n:Int):Sound ty Tryz.prog 232 [.a (.lit (.int .i64 s)), .a (.lit (.int .i64 r)), .a (.lit (.int .i64 n))] [.a (.lit (.int .i64 (sU s r n)))]:=by
 refine Sound.o X Tryz.call232 Tryz.func232 Tryz.ntmps232 rfl rfl ?_
 intro zb
 refine W.s0 X [0,1,2] rfl ⟨⟩ ?_
 refine W.seq ?_
 refine W.sr X [] [(8,⟨false,[.a (.lit (.bool _))]⟩)] [0,1,2,9] [] rfl (by(repeat' with_reducible first|exact ah.nil|refine ah.mk ?_ ?_|apply And.intro)<;>first|exact(ay _ _ _)) ?_
 refine W.cond rfl (fun hb0=> ?_) (fun hb0=> ?_)
 ·try simp only[nb,ak,aq,aa]at hb0
  refine W.s0 X [6] rfl ⟨⟩ ?_
  refine W.ret ?_
  exact Fin.ret rfl ⟨by rw[sU,if_neg (by omega)],⟨⟩⟩
 ·try simp only[nb,ak,aq,aa]at hb0
  have hcs:=iW (kh s [157,r]) 0
  refine W.skip ?_
  refine W.sr X [] [(13,⟨false,[.a (.lit (.int .i64 _))]⟩),(14,⟨false,[.a (.lit (.int .i64 _))]⟩)] [6] [] rfl (by(repeat' with_reducible first|exact ah.nil|refine ah.mk ?_ ?_|apply And.intro);(iterate 2 all_goals try first|exact(aS _ _ (by first|assumption|omega| (simp;done)| (simp;omega)))|exact(dW _ _));all_goals first| (intros;omega)|exact⟨rfl,bL _ (by decide)⟩) ?_
  refine W.ret ?_
  exact Fin.ret rfl ⟨by rw[sU,if_pos (by omega),b7 hcs.1],⟨⟩⟩
theorem mK(s:Int):Sound ty Tryz.prog 233 [.a (.lit (.int .i64 s))] [.a (.sl .u8 (cover s))]:=by
 refine Sound.o X Tryz.call233 Tryz.func233 Tryz.ntmps233 rfl rfl ?_
 intro zb
 refine W.s0 X [0] rfl ⟨⟩ ?_
 refine W.sr X [] [(5,⟨false,[.a (.lit (.int .i64 _))]⟩),(6,⟨true,[.a (.sl .u8 _)]⟩)] [2] [] rfl (by(repeat' with_reducible first|exact ah.nil|refine ah.mk ?_ ?_|apply And.intro);(iterate 2 all_goals try first|exact(aS _ _ (by first|assumption|omega| (simp;done)| (simp;omega)))|exact(fk _ _ (by first|assumption|omega| (simp;done)| (simp;omega)) (by first|assumption|omega| (simp;done)| (simp;omega))));all_goals first|exact⟨rfl,bL _ (by decide)⟩) ?_
 refine W.ret ?_
 exact Fin.ret rfl ⟨rfl,⟨⟩⟩
theorem pZ(s:Int)(l:List UInt8)(hl:l.length≤1048576):Sound ty Tryz.prog 351 [.a (.lit (.int .i64 s)), .a (.sl .u8 l)] [.a (.sl .u8 (dY s l))]:=by
 refine Sound.o X Tryz.call351 Tryz.func351 Tryz.ntmps351 rfl rfl ?_
 intro zb
 refine W.s0 X [0,1] rfl ⟨⟩ ?_
 refine W.s0 X [0,1,5] rfl (by and_intros<;>first|exact⟨⟩|exact rfl) ?_
 refine W.seq ?_
 refine W.s0 X [0,1,5,6] rfl ⟨⟩ ?_
 refine W.block ?_
 refine W.aV (fun k=>k≤l.length) (fun k:Nat=> [(6, .one (.a (.lit (.int .i64 k))))]) (fun k=> [(7, .arr .u8 ((dY s l).take k))]) (fun k=>l.length-k) 0 (fun k=>rfl) (Nat.zero_le _) rfl ?_
 intro k hk
 have hle:=iX (dY s l) k
 refine W.seq ?_
 refine W.s0 X [0,1,5,6,11] rfl ⟨⟩ ?_
 refine W.cond rfl (fun hb0=> ?_) (fun hb0=> ?_)
 ·try simp only[nb,ak,aq,aa]at hb0
  have hs:=zl s l k hb0
  refine W.skip ?_
  refine W.seq ?_
  refine W.block ?_
  refine W.draw X [(29,7)] [(23,⟨false,[.a (.lit (.int .i64 _))]⟩)] [0,1,5,6] [] 15 MO (by kernel_rfl) rfl (by(repeat' with_reducible first|exact ah.nil|refine ah.mk ?_ ?_|apply And.intro)<;>first|exact(aT _ _ (by first|assumption|omega| (simp;done)| (simp;omega)))| (intros;omega)|exact rfl|exact⟨rfl,bL _ (by decide)⟩|exact(uH _).1|exact(uH _).2| (simp only[iA,maxLen,lens];omega)) ?_
  refine W.r0 X [0,1,5,6] rfl ⟨⟩ ?_
  refine⟨k+1,by omega,by omega,?_⟩
  rw[bw _ k rfl (by omega),hs]
  try rfl
 ·try simp only[nb,ak,aq,aa]at hb0
  refine W.exit ?_
  refine W.s0 X [4] rfl ⟨⟩ ?_
  refine W.ret ?_
  exact Fin.ret rfl ⟨by rw[List.take_of_length_le (by rw[eB];exact hb0)],⟨⟩⟩
theorem dI(k:Int):Sound ty Tryz.prog 162 [.a (.lit (.int .i64 k))] [.a (.lit (.bool (gp k)))]:=by
 refine Sound.o X Tryz.call162 Tryz.func162 Tryz.ntmps162 rfl rfl ?_
 intro zb
 refine W.s0 X [0] rfl ⟨⟩ ?_
 refine W.sr X [] [(4,⟨false,[.a (.lit (.bool _))]⟩)] [2] [] rfl (by(repeat' with_reducible first|exact ah.nil|refine ah.mk ?_ ?_|apply And.intro)<;>first|exact(aH _ _ _)) ?_
 refine W.ret ?_
 exact Fin.ret rfl ⟨rfl,⟨⟩⟩
theorem jK(p:Plain):Sound ty Tryz.prog 350 [.agg (dP p)] [.a (.lit (.bool (fI p)))]:=by
 refine Sound.o X Tryz.call350 Tryz.func350 Tryz.ntmps350 rfl rfl ?_
 intro zb
 refine W.s0 X [1] rfl ⟨⟩ ?_
 refine W.sr X [] [(5,⟨false,[.a (.lit (.bool _))]⟩)] [2] [] rfl (by(repeat' with_reducible first|exact ah.nil|refine ah.mk ?_ ?_|apply And.intro)<;>first|exact(aH _ _ _)) ?_
 refine W.ret ?_
 exact Fin.ret rfl ⟨by unfold fI;cases inr p.kind 0 3<;>rfl,⟨⟩⟩
theorem mL(key c:Int)(l:List UInt8)(hl:l.length≤65536):Sound ty Tryz.prog 353 [.a (.lit (.int .i64 key)), .a (.lit (.int .i64 c)), .a (.sl .u8 l)] [.a (.lit (.int .i64 (iY key c l)))]:=by
 refine Sound.o X Tryz.call353 Tryz.func353 Tryz.ntmps353 rfl rfl ?_
 intro zb
 refine W.s0 X [0,1,2] rfl ⟨⟩ ?_
 refine W.s0 X [0,2,7] rfl (by and_intros<;>first|exact⟨⟩|exact rfl) ?_
 refine W.seq ?_
 refine W.s0 X [0,2,7,8] rfl ⟨⟩ ?_
 refine W.block ?_
 refine W.aV (fun k=>k≤l.length) (fun k:Nat=> [(8, .one (.a (.lit (.int .i64 k))))]) (fun k=> [(10, .arr .int ([71,c]++(l.take k).map (fun x=>(x.toNat:Int))))]) (fun k=>l.length-k) 0 (fun k=>rfl) (Nat.zero_le _) rfl ?_
 intro k hk
 refine W.seq ?_
 refine W.s0 X [0,2,7,8,14] rfl ⟨⟩ ?_
 refine W.cond rfl (fun hb0=> ?_) (fun hb0=> ?_)
 ·try simp only[nb,ak,aq,aa]at hb0
  have hs:=yc l c k hb0
  refine W.skip ?_
  refine W.seq ?_
  refine W.block ?_
  refine W.cV X [(24,10)] [] [0,2,7,8] [] rfl (by and_intros<;>first|exact⟨⟩| (intros;omega)|exact rfl| (simp only[iA,maxLen,lens];omega)) ?_
  refine W.r0 X [0,2,7,8] rfl ⟨⟩ ?_
  refine⟨k+1,by omega,by omega,?_⟩
  rw[bw _ k rfl (by omega),hs]
  try rfl
 ·try simp only[nb,ak,aq,aa]at hb0
  refine W.exit ?_
  refine W.sr X [] [(27,⟨false,[.a (.lit (.int .i64 _))]⟩)] [6] [] rfl (by(repeat' with_reducible first|exact ah.nil|refine ah.mk ?_ ?_|apply And.intro)<;>first|exact(aT _ _ (by first|assumption|omega| (simp;done)| (simp;omega)))) ?_
  refine W.ret ?_
  exact Fin.ret rfl ⟨by rw[List.take_of_length_le hb0];rfl,⟨⟩⟩
theorem lS(key r d n:Int):Sound ty Tryz.prog 149 [.a (.lit (.int .i64 key)), .a (.lit (.int .i64 r)), .a (.lit (.int .i64 d)), .a (.lit (.int .i64 n))] [.a (.lit (.int .i64 (sS key r d n)))]:=by
 refine Sound.o X Tryz.call149 Tryz.func149 Tryz.ntmps149 rfl rfl ?_
 intro zb
 refine W.s0 X [0,1,2,3] rfl ⟨⟩ ?_
 refine W.seq ?_
 refine W.sr X [] [(10,⟨false,[.a (.lit (.bool _))]⟩),(14,⟨false,[.a (.lit (.bool _))]⟩)] [0,1,2,3,16] [] rfl (by(repeat' with_reducible first|exact ah.nil|refine ah.mk ?_ ?_|apply And.intro)<;>first|exact(aH _ _ _)|exact fun _=>(aH _ _ _)) ?_
 refine W.cond rfl (fun hb0=> ?_) (fun hb0=> ?_)
 ·try simp only[nb,ak,aq,aa]at hb0
  refine W.s0 X [8] rfl ⟨⟩ ?_
  refine W.ret ?_
  exact Fin.ret rfl ⟨by rw[sS,if_neg (by omega)],⟨⟩⟩
 ·try simp only[nb,ak,aq,aa]at hb0
  have hcs:=iW (kh key [79,r,d]) 0
  refine W.skip ?_
  refine W.sr X [] [(21,⟨false,[.a (.lit (.int .i64 _))]⟩),(22,⟨false,[.a (.lit (.int .i64 _))]⟩)] [8] [] rfl (by(repeat' with_reducible first|exact ah.nil|refine ah.mk ?_ ?_|apply And.intro);(iterate 2 all_goals try first|exact(aT _ _ (by first|assumption|omega| (simp;done)| (simp;omega)))|exact(dX _ _));all_goals first| (intros;omega)|exact⟨rfl,bL _ (by decide)⟩) ?_
  refine W.ret ?_
  exact Fin.ret rfl ⟨by rw[sS,if_pos (by omega),b7 hcs.1],⟨⟩⟩
theorem nG(s r n:Int):Sound ty Tryz.prog 318 [.a (.lit (.int .i64 s)), .a (.lit (.int .i64 r)), .a (.lit (.int .i64 n))] [.a (.lit (.int .i64 (sU s r n)))]:=by
 refine Sound.o X Tryz.call318 Tryz.func318 Tryz.ntmps318 rfl rfl ?_
 intro zb
 refine W.s0 X [0,1,2] rfl ⟨⟩ ?_
 refine W.seq ?_
 refine W.sr X [] [(8,⟨false,[.a (.lit (.bool _))]⟩)] [0,1,2,9] [] rfl (by(repeat' with_reducible first|exact ah.nil|refine ah.mk ?_ ?_|apply And.intro)<;>first|exact(aH _ _ _)) ?_
 refine W.cond rfl (fun hb0=> ?_) (fun hb0=> ?_)
 ·try simp only[nb,ak,aq,aa]at hb0
  refine W.s0 X [6] rfl ⟨⟩ ?_
  refine W.ret ?_
  exact Fin.ret rfl ⟨by rw[sU,if_neg (by omega)],⟨⟩⟩
 ·try simp only[nb,ak,aq,aa]at hb0
  have hcs:=iW (kh s [157,r]) 0
  refine W.skip ?_
  refine W.sr X [] [(13,⟨false,[.a (.lit (.int .i64 _))]⟩),(14,⟨false,[.a (.lit (.int .i64 _))]⟩)] [6] [] rfl (by(repeat' with_reducible first|exact ah.nil|refine ah.mk ?_ ?_|apply And.intro);(iterate 2 all_goals try first|exact(aT _ _ (by first|assumption|omega| (simp;done)| (simp;omega)))|exact(dX _ _));all_goals first| (intros;omega)|exact⟨rfl,bL _ (by decide)⟩) ?_
  refine W.ret ?_
  exact Fin.ret rfl ⟨by rw[sU,if_pos (by omega),b7 hcs.1],⟨⟩⟩
theorem mM(s:Int):Sound ty Tryz.prog 68 [.a (.lit (.int .i64 s))] [.a (.sl .u8 (cover s))]:=by
 refine Sound.o X Tryz.call68 Tryz.func68 Tryz.ntmps68 rfl rfl ?_
 intro zb
 refine W.s0 X [0] rfl ⟨⟩ ?_
 refine W.sr X [] [(5,⟨false,[.a (.lit (.int .i64 _))]⟩),(6,⟨true,[.a (.sl .u8 _)]⟩)] [2] [] rfl (by(repeat' with_reducible first|exact ah.nil|refine ah.mk ?_ ?_|apply And.intro);(iterate 2 all_goals try first|exact(aT _ _ (by first|assumption|omega| (simp;done)| (simp;omega)))|exact(fm _ _ (by first|assumption|omega| (simp;done)| (simp;omega)) (by first|assumption|omega| (simp;done)| (simp;omega))));all_goals first|exact⟨rfl,bL _ (by decide)⟩) ?_
 refine W.ret ?_
 exact Fin.ret rfl ⟨rfl,⟨⟩⟩
theorem p7(k c:Int):Sound ty Tryz.prog 348 [.a (.lit (.int .i64 k)), .a (.lit (.int .i64 c))] [.a (.lit (.int .i64 (gZ k c)))]:=by
 refine Sound.o X Tryz.call348 Tryz.func348 Tryz.ntmps348 rfl rfl ?_
 intro zb
 refine W.s0 X [0,1] rfl ⟨⟩ ?_
 refine W.sr X [] [(8,⟨false,[.a (.lit (.int .i64 _))]⟩),(9,⟨false,[.a (.lit (.int .i64 _))]⟩)] [4] [] rfl (by(repeat' with_reducible first|exact ah.nil|refine ah.mk ?_ ?_|apply And.intro);(iterate 2 all_goals try first|exact(aS _ _ (by first|assumption|omega| (simp;done)| (simp;omega)))|exact(lP _));all_goals first|exact⟨rfl,bL _ (by decide)⟩) ?_
 refine W.ret ?_
 exact Fin.ret rfl ⟨rfl,⟨⟩⟩
theorem jL(k c:Int):Sound ty Tryz.prog 273 [.a (.lit (.int .i64 k)), .a (.lit (.int .i64 c))] [.a (.lit (.int .i64 (pX k c)))]:=by
 refine Sound.o X Tryz.call273 Tryz.func273 Tryz.ntmps273 rfl rfl ?_
 intro zb
 refine W.s0 X [0,1] rfl ⟨⟩ ?_
 refine W.sr X [] [(8,⟨false,[.a (.lit (.int .i64 _))]⟩),(9,⟨false,[.a (.lit (.int .i64 _))]⟩)] [4] [] rfl (by(repeat' with_reducible first|exact ah.nil|refine ah.mk ?_ ?_|apply And.intro);(iterate 2 all_goals try first|exact(aS _ _ (by first|assumption|omega| (simp;done)| (simp;omega)))|exact(lP _));all_goals first|exact⟨rfl,bL _ (by decide)⟩) ?_
 refine W.ret ?_
 exact Fin.ret rfl ⟨rfl,⟨⟩⟩
theorem mN(k c:Int):Sound ty Tryz.prog 352 [.a (.lit (.int .i64 k)), .a (.lit (.int .i64 c))] [.a (.lit (.int .i64 (gZ k c)))]:=by
 refine Sound.o X Tryz.call352 Tryz.func352 Tryz.ntmps352 rfl rfl ?_
 intro zb
 refine W.s0 X [0,1] rfl ⟨⟩ ?_
 refine W.sr X [] [(8,⟨false,[.a (.lit (.int .i64 _))]⟩),(9,⟨false,[.a (.lit (.int .i64 _))]⟩)] [4] [] rfl (by(repeat' with_reducible first|exact ah.nil|refine ah.mk ?_ ?_|apply And.intro);(iterate 2 all_goals try first|exact(aT _ _ (by first|assumption|omega| (simp;done)| (simp;omega)))|exact(pW _ _));all_goals first|exact⟨rfl,bL _ (by decide)⟩) ?_
 refine W.ret ?_
 exact Fin.ret rfl ⟨by rw[xW (eA _ _).1];rfl,⟨⟩⟩
theorem jM(k c:Int):Sound ty Tryz.prog 276 [.a (.lit (.int .i64 k)), .a (.lit (.int .i64 c))] [.a (.lit (.int .i64 (pX k c)))]:=by
 refine Sound.o X Tryz.call276 Tryz.func276 Tryz.ntmps276 rfl rfl ?_
 intro zb
 refine W.s0 X [0,1] rfl ⟨⟩ ?_
 refine W.sr X [] [(8,⟨false,[.a (.lit (.int .i64 _))]⟩),(9,⟨false,[.a (.lit (.int .i64 _))]⟩)] [4] [] rfl (by(repeat' with_reducible first|exact ah.nil|refine ah.mk ?_ ?_|apply And.intro);(iterate 2 all_goals try first|exact(aT _ _ (by first|assumption|omega| (simp;done)| (simp;omega)))|exact(pW _ _));all_goals first|exact⟨rfl,bL _ (by decide)⟩) ?_
 refine W.ret ?_
 exact Fin.ret rfl ⟨by rw[xW (eA _ _).1];rfl,⟨⟩⟩
theorem lT(k c:Int)(l:List UInt8)(hl:l.length≤65536):Sound ty Tryz.prog 349 [.a (.lit (.int .i64 k)), .a (.lit (.int .i64 c)), .a (.sl .u8 l)] [.a (.sl .u8 (four (iY k c l)))]:=by
 refine Sound.o X Tryz.call349 Tryz.func349 Tryz.ntmps349 rfl rfl ?_
 intro zb
 refine W.s0 X [0,1,2] rfl ⟨⟩ ?_
 refine W.sr X [] [(11,⟨false,[.a (.lit (.int .i64 _))]⟩)] [7] [] rfl (by(repeat' with_reducible first|exact ah.nil|refine ah.mk ?_ ?_|apply And.intro)<;>first|exact(mJ _ _ _ (by first|assumption|omega| (simp;done)| (simp;omega)))) ?_
 refine W.s0 X [6] rfl (by and_intros<;>first|exact⟨⟩| (intros;omega)|exact rfl|exact(uH _).1|exact(uH _).2) ?_
 refine W.ret ?_
 exact Fin.ret rfl ⟨yd _,⟨⟩⟩
end
section
set_option maxRecDepth 100000
theorem eI(l:List (List UInt8))(f:FuncId)(p:(List UInt8)→Bool)(hf: ∀b,Sound ty Tryz.prog f [.a (.sl .u8 b)] [.a (.lit (.bool (p b)))]):Sound ty Tryz.prog 396 [.a (.sl (.sl .u8) l), .a (.lit (.func (.func f) #[] #[]))] [.a (.lit (.int .i64 (fidx p l)))]:=by
 refine Sound.o X Tryz.call396 Tryz.func396 Tryz.ntmps396 rfl rfl ?_
 intro zb
 refine W.bound 0 rfl (fun nR=> ?_)
 refine W.s0 X [0,1] rfl ⟨⟩ ?_
 refine W.seq ?_
 refine W.s0 X [0,1,7,8] rfl ⟨⟩ ?_
 refine W.block ?_
 refine W.aV (fun k=>k≤l.length∧(l.take k).any p=false) (fun k:Nat=> [(8, .one (.a (.lit (.int .i64 k))))]) (fun k=> []) (fun k=>l.length-k) 0 (fun k=>rfl) ⟨Nat.zero_le _,rfl⟩ rfl ?_
 rintro k ⟨hk,hall⟩
 refine W.s0 X [0,1,7,8,9] rfl ⟨⟩ ?_
 refine W.seq ?_
 refine W.cond rfl (fun hb0=> ?_) (fun hb0=> ?_)
 ·try simp only[nb,ak,aq,aa]at hb0
  refine W.skip ?_
  refine W.seq ?_
  refine W.block ?_
  refine W.s0 X [0,1,5,7,8] rfl ⟨⟩ ?_
  refine W.sr X [] [(16,⟨false,[.a (.lit (.bool (p (l.getD k (aK (.sl .u8))))))]⟩)] [0,1,5,7,8,16] [] rfl (by(repeat' with_reducible first|exact ah.nil|refine ah.mk ?_ ?_|apply And.intro)<;>first|exact(hf _)| (intros;omega)) ?_
  refine W.cond rfl (fun aL=> ?_) (fun aL=> ?_)
  ·skip
   refine W.s0 X [4] rfl ⟨⟩ ?_
   refine W.ret ?_
   exact Fin.ret rfl ⟨by rw[BY (aK (.sl .u8)) hb0 hall aL],⟨⟩⟩
  ·skip
   refine W.skip ?_
   refine W.r0 X [0,1,7,8] rfl ⟨⟩ ?_
   refine⟨k+1,⟨by omega,BZ (aK (.sl .u8)) hb0 hall aL⟩,by omega,?_⟩
   rw[bw _ k rfl (by omega)]
   try rfl
 ·try simp only[nb,ak,aq,aa]at hb0
  refine W.exit ?_
  refine W.s0 X [4] rfl ⟨⟩ ?_
  refine W.ret ?_
  exact Fin.ret rfl ⟨by rw[zm (by rw[←hall,List.take_of_length_le hb0])],⟨⟩⟩
theorem bT(l:List (List UInt8))(f:FuncId)(p:(List UInt8)→Bool)(hf: ∀b,Sound ty Tryz.prog f [.a (.sl .u8 b)] [.a (.lit (.bool (p b)))]):Sound ty Tryz.prog 331 [.a (.sl (.sl .u8) l), .a (.lit (.func (.func f) #[] #[]))] [.a (.lit (.bool (l.any p)))]:=by
 refine Sound.o X Tryz.call331 Tryz.func331 Tryz.ntmps331 rfl rfl ?_
 intro zb
 refine W.s0 X [0,1] rfl ⟨⟩ ?_
 refine W.sr X [] [(7,⟨false,[.a (.lit (.int .i64 (fidx p l)))]⟩)] [4] [] rfl (by(repeat' with_reducible first|exact ah.nil|refine ah.mk ?_ ?_|apply And.intro)<;>first|exact(eI l f p hf)) ?_
 refine W.ret ?_
 exact Fin.ret rfl ⟨congrArg Value.bool (DE p l),⟨⟩⟩
theorem fW(b:List UInt8):Sound ty Tryz.prog 336 [.a (.sl .u8 b)] [.a (.lit (.bool (!decide ((b.length:Int)=24))))]:=by
 refine Sound.o X Tryz.call336 Tryz.func336 Tryz.ntmps336 rfl rfl ?_
 intro zb
 refine W.s0 X [0] rfl ⟨⟩ ?_
 refine W.s0 X [2] rfl ⟨⟩ ?_
 refine W.ret ?_
 exact Fin.ret rfl ⟨(congrArg Value.bool (by simp only[bf]<;>first|rfl|ac_rfl)),⟨⟩⟩
theorem dJ(d:DB):Sound ty Tryz.prog 243 [.agg (dA d)] [.a (.lit (.bool (p8 d)))]:=by
 refine Sound.o X Tryz.call243 Tryz.func243 Tryz.ntmps243 rfl rfl ?_
 intro zb
 refine W.s0 X [1] rfl ⟨⟩ ?_
 refine W.sr X [] [(10,⟨false,[.a (.lit (.bool (d.rows.any fun b=> !decide ((b.length:Int)=24))))]⟩)] [2] [] rfl (by(repeat' with_reducible first|exact ah.nil|refine ah.mk ?_ ?_|apply And.intro)<;>first|exact fun _=>(bT _ _ _ fW)) ?_
 refine W.ret ?_
 exact Fin.ret rfl ⟨by unfold p8;rw[vf];by_cases h:(d.rows.length:Int)≤64<;>simp[h],⟨⟩⟩
theorem dK(d:DB):Sound ty Tryz.prog 187 [.agg (dA d)] [.a (.lit (.bool (p8 d)))]:=by
 refine Sound.o X Tryz.call187 Tryz.func187 Tryz.ntmps187 rfl rfl ?_
 intro zb
 refine W.cH 0 0 rfl rfl (fun nR=> ?_)
 refine W.s0 X [1] rfl ⟨⟩ ?_
 refine W.seq ?_
 refine W.s0 X [1,3] rfl ⟨⟩ ?_
 refine W.block ?_
 refine W.aV (fun k=>k≤d.rows.length∧(d.rows.take k).all (fun r=>decide ((r.length:Int)=24))=true) (fun k:Nat=> [(3, .one (.a (.lit (.int .i64 k))))]) (fun k=> []) (fun k=>d.rows.length-k) 0 (fun k=>rfl) ⟨Nat.zero_le _,rfl⟩ rfl ?_
 rintro k ⟨hk,hall⟩
 refine W.seq ?_
 refine W.s0 X [1,3,8] rfl ⟨⟩ ?_
 refine W.cond rfl (fun hb0=> ?_) (fun hb0=> ?_)
 ·try simp only[nb,ak,aq,aa]at hb0
  refine W.skip ?_
  refine W.seq ?_
  refine W.block ?_
  refine W.s0 X [1,3,17] rfl (by and_intros<;>first|exact⟨⟩| (intros;omega)) ?_
  refine W.cond rfl (fun aL=> ?_) (fun aL=> ?_)
  ·try simp only[nb,ak,aq,aa]at aL
   refine W.s0 X [2] rfl ⟨⟩ ?_
   refine W.ret ?_
   exact Fin.ret rfl ⟨by unfold p8;rw[Fh _ _ (aK (.sl .u8)) k hb0 (by simpa using aL)];simp,⟨⟩⟩
  ·try simp only[nb,ak,aq,aa]at aL
   refine W.skip ?_
   refine W.r0 X [1,3] rfl ⟨⟩ ?_
   refine⟨k+1,⟨by omega,by rw[BR _ _ _ (aK (.sl .u8)) hb0,hall];simpa using aL⟩,by omega,?_⟩
   rw[bw _ k rfl (by omega)]
   try rfl
 ·try simp only[nb,ak,aq,aa]at hb0
  refine W.exit ?_
  refine W.s0 X [2] rfl ⟨⟩ ?_
  refine W.ret ?_
  exact Fin.ret rfl ⟨by rw[List.take_of_length_le hb0]at hall;unfold p8;rw[hall];simp,⟨⟩⟩
theorem mP(a:fD):Sound ty Tryz.prog 115 [.agg (cA a)] [.a (.lit (.int .i64 (lU a)))]:=by
 refine Sound.o X Tryz.call115 Tryz.func115 Tryz.ntmps115 rfl rfl ?_
 intro zb
 refine W.cH 0 1 rfl rfl (fun nR=> ?_)
 refine W.s0 X [1] rfl ⟨⟩ ?_
 refine W.seq ?_
 refine W.s0 X [1,6] rfl ⟨⟩ ?_
 refine W.cond rfl (fun hb0=> ?_) (fun hb0=> ?_)
 ·try simp only[nb,ak,aq,aa]at hb0
  refine W.s0 X [2] rfl ⟨⟩ ?_
  refine W.ret ?_
  exact Fin.ret rfl ⟨by rw[lU,if_pos (by omega)],⟨⟩⟩
 ·try simp only[nb,ak,aq,aa]at hb0
  refine W.skip ?_
  refine W.s0 X [2] rfl (by and_intros<;>first|exact⟨⟩| ((try simp only[nb,ak,aq]at*);(simp(disch:=omega) only[cQ]);omega)) ?_
  refine W.ret ?_
  exact Fin.ret rfl ⟨by rw[lU,if_neg (by omega),cQ (by omega)];congr 4;omega,⟨⟩⟩
theorem mQ(a:fD):Sound ty Tryz.prog 25 [.agg (cA a)] [.a (.lit (.int .i64 (lU a)))]:=by
 refine Sound.o X Tryz.call25 Tryz.func25 Tryz.ntmps25 rfl rfl ?_
 intro zb
 refine W.cH 0 1 rfl rfl (fun nR=> ?_)
 refine W.s0 X [1] rfl ⟨⟩ ?_
 refine W.seq ?_
 refine W.s0 X [1,6] rfl ⟨⟩ ?_
 refine W.cond rfl (fun hb0=> ?_) (fun hb0=> ?_)
 ·try simp only[nb,ak,aq,aa]at hb0
  refine W.s0 X [2] rfl ⟨⟩ ?_
  refine W.ret ?_
  exact Fin.ret rfl ⟨by rw[lU,if_pos (by omega)],⟨⟩⟩
 ·try simp only[nb,ak,aq,aa]at hb0
  refine W.skip ?_
  refine W.s0 X [2] rfl (by and_intros<;>first|exact⟨⟩| ((try simp only[nb,ak,aq]at*);(simp(disch:=omega) only[cQ]);omega)) ?_
  refine W.ret ?_
  exact Fin.ret rfl ⟨by rw[lU,if_neg (by omega),cQ (by omega)];congr 4;omega,⟨⟩⟩
theorem jc(s:b9):Sound ty Tryz.prog 117 [.agg (dB s)] [.a (.lit (.bool (gr s)))]:=by
 refine Sound.o X Tryz.call117 Tryz.func117 Tryz.ntmps117 rfl rfl ?_
 intro zb
 refine W.cH 0 3 rfl rfl (fun nR=> ?_)
 refine W.s0 X [1] rfl ⟨⟩ ?_
 refine W.seq ?_
 refine W.sr X [] [(7,⟨false,[.a (.lit (.bool (inr s.id 0 3)))]⟩),(12,⟨false,[.a (.lit (.bool (inr s.rows 1 64)))]⟩),(18,⟨false,[.a (.lit (.bool (inr s.behavior 0 3)))]⟩),(24,⟨false,[.a (.lit (.bool (inr s.round 0 100000)))]⟩)] [1,32] [] rfl (by(repeat' with_reducible first|exact ah.nil|refine ah.mk ?_ ?_|apply And.intro);(iterate 4 all_goals try first|exact(ay s.id 0 3)|exact fun _=>(ay s.rows 1 64)|exact fun _=>(ay s.behavior 0 3)|exact fun _=>(ay s.round 0 100000))) ?_
 refine W.cond rfl (fun hb0=> ?_) (fun hb0=> ?_)
 ·skip
  refine W.s0 X [2] rfl ⟨⟩ ?_
  refine W.ret ?_
  exact Fin.ret rfl ⟨by rw[show gr s=false from G1 hb0 (by simp only[ve,bf]<;>first|rfl|ac_rfl)],⟨⟩⟩
 ·have hh:ve s=true:=cU hb0 (by simp only[ve,bf]<;>first|rfl|ac_rfl)
  refine W.skip ?_
  refine W.seq ?_
  refine W.s0 X [1,34,35,36] rfl ⟨⟩ ?_
  refine W.block ?_
  refine W.aV (fun k=>k≤s.received.length∧(List.range k).all (gq s.rows s.received)=true) (fun k:Nat=> [(36, .one (.a (.lit (.int .i64 k))))]) (fun k=> []) (fun k=>s.received.length-k) 0 (fun k=>rfl) ⟨Nat.zero_le _,rfl⟩ rfl ?_
  rintro k ⟨hk,hall⟩
  have hw:(IntKind.i64.wrap ((k:Int)-1)).toNat=k-1:=by rw[cQ (by omega)];omega
  refine W.s0 X [1,34,35,36,37] rfl ⟨⟩ ?_
  refine W.seq ?_
  refine W.cond rfl (fun aL=> ?_) (fun aL=> ?_)
  ·try simp only[nb,ak,aq,aa]at aL
   refine W.skip ?_
   refine W.seq ?_
   refine W.block ?_
   refine W.s0 X [1,3,4,34,35,36] rfl (by and_intros<;>first|exact⟨⟩| (intros;omega)) ?_
   refine W.sd X [] [(43,⟨false,[.a (.lit (.bool (inr ((s.received.getD k (aK .au)).client) 0 7)))]⟩),(64,⟨false,[.a (.lit (.bool (p8 ((s.received.getD k (aK .au)).share))))]⟩)] [1,34,35,36,75] [] 35 MO (by kernel_rfl) rfl (by(repeat' with_reducible first|exact ah.nil|refine ah.mk ?_ ?_|apply And.intro);(iterate 2 all_goals try first|exact(ay ((s.received.getD k (aK .au)).client) 0 7)|exact fun _=>(dJ ((s.received.getD k (aK .au)).share)));all_goals first| ((intro h1;first| (intro h2;first| (intro h3;refine And.intro ?_ ?_)|refine And.intro ?_ ?_)|refine And.intro ?_ ?_)<;>first|omega| ((try simp only[nb,ak,aq]at*);(try simp(disch:=omega) only[cQ]);omega))) ?_
   refine W.cond rfl (fun aU=> ?_) (fun aU=> ?_)
   ·have hk2:gq s.rows s.received k=false:=dr aU (by simp only[hw,gq,bf]<;>first|rfl|ac_rfl)
    refine W.s0 X [2] rfl ⟨⟩ ?_
    refine W.ret ?_
    exact Fin.ret rfl ⟨by rw[show gr s=false by unfold gr;rw[eC aL hk2];simp],⟨⟩⟩
   ·have hk2:gq s.rows s.received k=true:=cU aU (by simp only[hw,gq,bf]<;>first|rfl|ac_rfl)
    refine W.skip ?_
    refine W.r0 X [1,34,35,36] rfl ⟨⟩ ?_
    refine⟨k+1,⟨by omega,dx hall hk2⟩,by omega,?_⟩
    rw[bw _ k rfl (by omega)]
    try rfl
  ·try simp only[nb,ak,aq,aa]at aL
   have gu:(List.range s.received.length).all (gq s.rows s.received)=true:=by rw[show s.received.length=k by omega];exact hall
   refine W.exit ?_
   refine W.s0 X [2] rfl ⟨⟩ ?_
   refine W.ret ?_
   exact Fin.ret rfl ⟨by rw[show gr s=true by unfold gr;rw[hh,gu];rfl],⟨⟩⟩
theorem iy(a:fD):Sound ty Tryz.prog 114 [.agg (cA a)] [.a (.lit (.bool (iZ a)))]:=by
 refine Sound.o X Tryz.call114 Tryz.func114 Tryz.ntmps114 rfl rfl ?_
 intro zb
 refine W.cH 0 1 rfl rfl (fun nR=> ?_)
 refine W.s0 X [1] rfl ⟨⟩ ?_
 refine W.seq ?_
 refine W.s0 X [1,6,7,8] rfl ⟨⟩ ?_
 refine W.block ?_
 refine W.aV (fun k=>k≤a.rounds.length∧(List.range k).all (mO a.rows a.rounds)=true) (fun k:Nat=> [(8, .one (.a (.lit (.int .i64 k))))]) (fun k=> []) (fun k=>a.rounds.length-k) 0 (fun k=>rfl) ⟨Nat.zero_le _,rfl⟩ rfl ?_
 rintro k ⟨hk,hall⟩
 have hw:(IntKind.i64.wrap ((k:Int)-1)).toNat=k-1:=by rw[cQ (by omega)];omega
 refine W.s0 X [1,6,7,8,9] rfl ⟨⟩ ?_
 refine W.seq ?_
 refine W.cond rfl (fun hb0=> ?_) (fun hb0=> ?_)
 ·try simp only[nb,ak,aq,aa]at hb0
  refine W.skip ?_
  refine W.seq ?_
  refine W.block ?_
  refine W.s0 X [1,3,4,6,7,8] rfl (by and_intros<;>first|exact⟨⟩| (intros;omega)) ?_
  refine W.sd X [] [(15,⟨false,[.a (.lit (.bool (inr ((a.rounds.getD k (aK .an)).round) 0 100000)))]⟩),(36,⟨false,[.a (.lit (.bool (p8 ((a.rounds.getD k (aK .an)).db))))]⟩)] [1,6,7,8,47] [] 35 MO (by kernel_rfl) rfl (by(repeat' with_reducible first|exact ah.nil|refine ah.mk ?_ ?_|apply And.intro);(iterate 2 all_goals try first|exact(ay ((a.rounds.getD k (aK .an)).round) 0 100000)|exact fun _=>(dJ ((a.rounds.getD k (aK .an)).db)));all_goals first| ((intro h1;first| (intro h2;first| (intro h3;refine And.intro ?_ ?_)|refine And.intro ?_ ?_)|refine And.intro ?_ ?_)<;>first|omega| ((try simp only[nb,ak,aq]at*);(try simp(disch:=omega) only[cQ]);omega))) ?_
  refine W.cond rfl (fun aL=> ?_) (fun aL=> ?_)
  ·have hk2:mO a.rows a.rounds k=false:=dr aL (by simp only[hw,mO,bf]<;>first|rfl|ac_rfl)
   refine W.s0 X [2] rfl ⟨⟩ ?_
   refine W.ret ?_
   exact Fin.ret rfl ⟨by rw[show iZ a=false by unfold iZ;rw[eC hb0 hk2];simp],⟨⟩⟩
  ·have hk2:mO a.rows a.rounds k=true:=cU aL (by simp only[hw,mO,bf]<;>first|rfl|ac_rfl)
   refine W.skip ?_
   refine W.r0 X [1,6,7,8] rfl ⟨⟩ ?_
   refine⟨k+1,⟨by omega,dx hall hk2⟩,by omega,?_⟩
   rw[bw _ k rfl (by omega)]
   try rfl
 ·try simp only[nb,ak,aq,aa]at hb0
  have gu:(List.range a.rounds.length).all (mO a.rows a.rounds)=true:=by rw[show a.rounds.length=k by omega];exact hall
  refine W.exit ?_
  refine W.sr X [] [(51,⟨false,[.a (.lit (.bool (inr a.rows 1 64)))]⟩)] [2] [] rfl (by(repeat' with_reducible first|exact ah.nil|refine ah.mk ?_ ?_|apply And.intro)<;>first|exact(ay a.rows 1 64)) ?_
  refine W.ret ?_
  exact Fin.ret rfl ⟨(congrArg Value.bool (by simp only[iZ,BW,gu,bf]<;>first|rfl|ac_rfl)),⟨⟩⟩
theorem jd(s:b9):Sound ty Tryz.prog 284 [.agg (dB s)] [.a (.lit (.bool (gr s)))]:=by
 refine Sound.o X Tryz.call284 Tryz.func284 Tryz.ntmps284 rfl rfl ?_
 intro zb
 refine W.cH 0 3 rfl rfl (fun nR=> ?_)
 refine W.s0 X [1] rfl ⟨⟩ ?_
 refine W.seq ?_
 refine W.s0 X [1,3] rfl ⟨⟩ ?_
 refine W.block ?_
 refine W.aV (fun k=>k≤s.received.length∧(List.range k).all (gq s.rows s.received)=true) (fun k:Nat=> [(3, .one (.a (.lit (.int .i64 k))))]) (fun k=> []) (fun k=>s.received.length-k) 0 (fun k=>rfl) ⟨Nat.zero_le _,rfl⟩ rfl ?_
 rintro k ⟨hk,hall⟩
 have hw:(IntKind.i64.wrap ((k:Int)-1)).toNat=k-1:=by rw[cQ (by omega)];omega
 refine W.seq ?_
 refine W.s0 X [1,3,9] rfl ⟨⟩ ?_
 refine W.cond rfl (fun hb0=> ?_) (fun hb0=> ?_)
 ·try simp only[nb,ak,aq,aa]at hb0
  refine W.skip ?_
  refine W.seq ?_
  refine W.block ?_
  refine W.s0 X [1,3,4] rfl (by and_intros<;>first|exact⟨⟩| (intros;omega)) ?_
  refine W.sd X [] [(19,⟨false,[.a (.lit (.bool (inr ((s.received.getD k (aK .au)).client) 0 7)))]⟩),(40,⟨false,[.a (.lit (.bool (p8 ((s.received.getD k (aK .au)).share))))]⟩)] [1,3,51] [] 35 MO (by kernel_rfl) rfl (by(repeat' with_reducible first|exact ah.nil|refine ah.mk ?_ ?_|apply And.intro);(iterate 2 all_goals try first|exact(aH ((s.received.getD k (aK .au)).client) 0 7)|exact fun _=>(dK ((s.received.getD k (aK .au)).share)));all_goals first| ((intro h1;first| (intro h2;first| (intro h3;refine And.intro ?_ ?_)|refine And.intro ?_ ?_)|refine And.intro ?_ ?_)<;>first|omega| ((try simp only[nb,ak,aq]at*);(try simp(disch:=omega) only[cQ]);omega))) ?_
  refine W.cond rfl (fun aL=> ?_) (fun aL=> ?_)
  ·have hk2:gq s.rows s.received k=false:=dr aL (by simp only[hw,gq,bf]<;>first|rfl|ac_rfl)
   refine W.s0 X [2] rfl ⟨⟩ ?_
   refine W.ret ?_
   exact Fin.ret rfl ⟨by rw[show gr s=false by unfold gr;rw[eC hb0 hk2];simp],⟨⟩⟩
  ·have hk2:gq s.rows s.received k=true:=cU aL (by simp only[hw,gq,bf]<;>first|rfl|ac_rfl)
   refine W.skip ?_
   refine W.r0 X [1,3] rfl ⟨⟩ ?_
   refine⟨k+1,⟨by omega,dx hall hk2⟩,by omega,?_⟩
   rw[bw _ k rfl (by omega)]
   try rfl
 ·try simp only[nb,ak,aq,aa]at hb0
  have gu:(List.range s.received.length).all (gq s.rows s.received)=true:=by rw[show s.received.length=k by omega];exact hall
  refine W.exit ?_
  refine W.sr X [] [(54,⟨false,[.a (.lit (.bool (inr s.id 0 3)))]⟩),(58,⟨false,[.a (.lit (.bool (inr s.rows 1 64)))]⟩),(63,⟨false,[.a (.lit (.bool (inr s.behavior 0 3)))]⟩),(68,⟨false,[.a (.lit (.bool (inr s.round 0 100000)))]⟩)] [2] [] rfl (by(repeat' with_reducible first|exact ah.nil|refine ah.mk ?_ ?_|apply And.intro);(iterate 4 all_goals try first|exact(aH s.id 0 3)|exact fun _=>(aH s.rows 1 64)|exact fun _=>(aH s.behavior 0 3)|exact fun _=>(aH s.round 0 100000))) ?_
  refine W.ret ?_
  exact Fin.ret rfl ⟨(congrArg Value.bool (by simp only[gr,ve,gu,bf]<;>first|rfl|ac_rfl)),⟨⟩⟩
theorem iz(a:fD):Sound ty Tryz.prog 161 [.agg (cA a)] [.a (.lit (.bool (iZ a)))]:=by
 refine Sound.o X Tryz.call161 Tryz.func161 Tryz.ntmps161 rfl rfl ?_
 intro zb
 refine W.cH 0 1 rfl rfl (fun nR=> ?_)
 refine W.s0 X [1] rfl ⟨⟩ ?_
 refine W.seq ?_
 refine W.s0 X [1,3] rfl ⟨⟩ ?_
 refine W.block ?_
 refine W.aV (fun k=>k≤a.rounds.length∧(List.range k).all (mO a.rows a.rounds)=true) (fun k:Nat=> [(3, .one (.a (.lit (.int .i64 k))))]) (fun k=> []) (fun k=>a.rounds.length-k) 0 (fun k=>rfl) ⟨Nat.zero_le _,rfl⟩ rfl ?_
 rintro k ⟨hk,hall⟩
 have hw:(IntKind.i64.wrap ((k:Int)-1)).toNat=k-1:=by rw[cQ (by omega)];omega
 refine W.seq ?_
 refine W.s0 X [1,3,9] rfl ⟨⟩ ?_
 refine W.cond rfl (fun hb0=> ?_) (fun hb0=> ?_)
 ·try simp only[nb,ak,aq,aa]at hb0
  refine W.skip ?_
  refine W.seq ?_
  refine W.block ?_
  refine W.s0 X [1,3,4] rfl (by and_intros<;>first|exact⟨⟩| (intros;omega)) ?_
  refine W.sd X [] [(19,⟨false,[.a (.lit (.bool (inr ((a.rounds.getD k (aK .an)).round) 0 100000)))]⟩),(40,⟨false,[.a (.lit (.bool (p8 ((a.rounds.getD k (aK .an)).db))))]⟩)] [1,3,51] [] 35 MO (by kernel_rfl) rfl (by(repeat' with_reducible first|exact ah.nil|refine ah.mk ?_ ?_|apply And.intro);(iterate 2 all_goals try first|exact(aH ((a.rounds.getD k (aK .an)).round) 0 100000)|exact fun _=>(dK ((a.rounds.getD k (aK .an)).db)));all_goals first| ((intro h1;first| (intro h2;first| (intro h3;refine And.intro ?_ ?_)|refine And.intro ?_ ?_)|refine And.intro ?_ ?_)<;>first|omega| ((try simp only[nb,ak,aq]at*);(try simp(disch:=omega) only[cQ]);omega))) ?_
  refine W.cond rfl (fun aL=> ?_) (fun aL=> ?_)
  ·have hk2:mO a.rows a.rounds k=false:=dr aL (by simp only[hw,mO,bf]<;>first|rfl|ac_rfl)
   refine W.s0 X [2] rfl ⟨⟩ ?_
   refine W.ret ?_
   exact Fin.ret rfl ⟨by rw[show iZ a=false by unfold iZ;rw[eC hb0 hk2];simp],⟨⟩⟩
  ·have hk2:mO a.rows a.rounds k=true:=cU aL (by simp only[hw,mO,bf]<;>first|rfl|ac_rfl)
   refine W.skip ?_
   refine W.r0 X [1,3] rfl ⟨⟩ ?_
   refine⟨k+1,⟨by omega,dx hall hk2⟩,by omega,?_⟩
   rw[bw _ k rfl (by omega)]
   try rfl
 ·try simp only[nb,ak,aq,aa]at hb0
  have gu:(List.range a.rounds.length).all (mO a.rows a.rounds)=true:=by rw[show a.rounds.length=k by omega];exact hall
  refine W.exit ?_
  refine W.sr X [] [(54,⟨false,[.a (.lit (.bool (inr a.rows 1 64)))]⟩)] [2] [] rfl (by(repeat' with_reducible first|exact ah.nil|refine ah.mk ?_ ?_|apply And.intro)<;>first|exact(aH a.rows 1 64)) ?_
  refine W.ret ?_
  exact Fin.ret rfl ⟨(congrArg Value.bool (by simp only[iZ,BW,gu,bf]<;>first|rfl|ac_rfl)),⟨⟩⟩
theorem nv(a:List UInt8):(qq a).toList=a:=by
 rw[ByteArray.toList_eq];rfl
theorem lW(a b:List UInt8):Sound ty Tryz.prog 152 [.a (.sl .u8 a), .a (.sl .u8 b)] [.a (.lit (.bool (a==b)))]:=by
 refine Sound.o X Tryz.call152 Tryz.func152 Tryz.ntmps152 rfl rfl ?_
 intro zb
 refine W.s0 X [0,1] rfl ⟨⟩ ?_
 refine W.s0 X [4] rfl ⟨⟩ ?_
 refine W.ret ?_
 exact Fin.ret rfl ⟨by rw[nv,nv],⟨⟩⟩
theorem fX(a b:List UInt8):Sound ty Tryz.prog 271 [.a (.sl .u8 a), .a (.sl .u8 b)] [.a (.lit (.bool (a==b)))]:=by
 refine Sound.o X Tryz.call271 Tryz.func271 Tryz.ntmps271 rfl rfl ?_
 intro zb
 refine W.bound 0 rfl (fun ng=> ?_)
 refine W.bound 1 rfl (fun fP=> ?_)
 refine W.s0 X [0,1] rfl ⟨⟩ ?_
 refine W.seq ?_
 refine W.s0 X [0,1,10] rfl ⟨⟩ ?_
 refine W.cond rfl (fun hb0=> ?_) (fun hb0=> ?_)
 ·try simp only[nb,ak,aq,aa]at hb0
  refine W.s0 X [4] rfl ⟨⟩ ?_
  refine W.ret ?_
  exact Fin.ret rfl ⟨by rw[mF a b hb0],⟨⟩⟩
 ·try simp only[nb,ak,aq,aa]at hb0
  refine W.skip ?_
  refine W.seq ?_
  refine W.s0 X [0,1,12,13] rfl ⟨⟩ ?_
  refine W.block ?_
  refine W.aV (fun k=>k≤a.length∧a.take k=b.take k) (fun k:Nat=> [(13, .one (.a (.lit (.int .i64 k))))]) (fun k=> []) (fun k=>a.length-k) 0 (fun k=>rfl) ⟨Nat.zero_le _,rfl⟩ rfl ?_
  rintro k ⟨hk,hall⟩
  refine W.s0 X [0,1,12,13,14] rfl ⟨⟩ ?_
  refine W.seq ?_
  refine W.cond rfl (fun aL=> ?_) (fun aL=> ?_)
  ·try simp only[nb,ak,aq,aa]at aL
   refine W.skip ?_
   refine W.seq ?_
   refine W.block ?_
   refine W.s0 X [0,1,5,12,13] rfl ⟨⟩ ?_
   refine W.sd X [] [] [0,1,12,13,24] [] 9 MO (by kernel_rfl) rfl (by and_intros<;>first|exact⟨⟩| (intros;omega)) ?_
   refine W.cond rfl (fun aU=> ?_) (fun aU=> ?_)
   ·try simp only[nb,ak,aq,aa]at aU
    have hne:=kj a b (aK .u8) k (fun h=>aU (by rw[h]))
    refine W.s0 X [4] rfl ⟨⟩ ?_
    refine W.ret ?_
    exact Fin.ret rfl ⟨by rw[hne],⟨⟩⟩
   ·try simp only[nb,ak,aq,aa]at aU
    have he:a.getD k (aK .u8)=b.getD k (aK .u8):=BG aU
    refine W.skip ?_
    refine W.r0 X [0,1,12,13] rfl ⟨⟩ ?_
    refine⟨k+1,⟨by omega,gU a b (aK .u8) k aL (by omega) hall he⟩,by omega,?_⟩
    rw[bw _ k rfl (by omega)]
    try rfl
  ·try simp only[nb,ak,aq,aa]at aL
   refine W.exit ?_
   refine W.s0 X [4] rfl ⟨⟩ ?_
   refine W.ret ?_
   exact Fin.ret rfl ⟨by rw[ko a b k (by omega) (by omega) hall],⟨⟩⟩
theorem fK(a b:List (List UInt8)):Sound ty Tryz.prog 103 [.a (.sl (.sl .u8) a), .a (.sl (.sl .u8) b)] [.a (.lit (.bool (a==b)))]:=by
 refine Sound.o X Tryz.call103 Tryz.func103 Tryz.ntmps103 rfl rfl ?_
 intro zb
 refine W.bound 0 rfl (fun ng=> ?_)
 refine W.bound 1 rfl (fun fP=> ?_)
 refine W.s0 X [0,1] rfl ⟨⟩ ?_
 refine W.seq ?_
 refine W.s0 X [0,1,10] rfl ⟨⟩ ?_
 refine W.cond rfl (fun hb0=> ?_) (fun hb0=> ?_)
 ·try simp only[nb,ak,aq,aa]at hb0
  refine W.s0 X [4] rfl ⟨⟩ ?_
  refine W.ret ?_
  exact Fin.ret rfl ⟨by rw[mF a b hb0],⟨⟩⟩
 ·try simp only[nb,ak,aq,aa]at hb0
  refine W.skip ?_
  refine W.seq ?_
  refine W.s0 X [0,1,5] rfl ⟨⟩ ?_
  refine W.block ?_
  refine W.aV (fun k=>k≤a.length∧a.take k=b.take k) (fun k:Nat=> [(5, .one (.a (.lit (.int .i64 k))))]) (fun k=> []) (fun k=>a.length-k) 0 (fun k=>rfl) ⟨Nat.zero_le _,rfl⟩ rfl ?_
  rintro k ⟨hk,hall⟩
  refine W.seq ?_
  refine W.s0 X [0,1,5,14] rfl ⟨⟩ ?_
  refine W.cond rfl (fun aL=> ?_) (fun aL=> ?_)
  ·try simp only[nb,ak,aq,aa]at aL
   refine W.skip ?_
   refine W.seq ?_
   refine W.block ?_
   refine W.sd X [] [(25,⟨false,[.a (.lit (.bool _))]⟩)] [0,1,5,26] [] 10 MO (by kernel_rfl) rfl (by(repeat' with_reducible first|exact ah.nil|refine ah.mk ?_ ?_|apply And.intro)<;>first|exact(lW _ _)| (intros;omega)) ?_
   refine W.cond rfl (fun aU=> ?_) (fun aU=> ?_)
   ·try simp only[nb,ak,aq,aa]at aU
    have hne:=kj a b (aK (.sl .u8)) k (fun h=>aU (by rw[h]))
    refine W.s0 X [4] rfl ⟨⟩ ?_
    refine W.ret ?_
    exact Fin.ret rfl ⟨by rw[hne],⟨⟩⟩
   ·try simp only[nb,ak,aq,aa]at aU
    have he:a.getD k (aK (.sl .u8))=b.getD k (aK (.sl .u8)):=aU
    refine W.skip ?_
    refine W.r0 X [0,1,5] rfl ⟨⟩ ?_
    refine⟨k+1,⟨by omega,gU a b (aK (.sl .u8)) k aL (by omega) hall he⟩,by omega,?_⟩
    rw[bw _ k rfl (by omega)]
    try rfl
  ·try simp only[nb,ak,aq,aa]at aL
   refine W.exit ?_
   refine W.s0 X [4] rfl ⟨⟩ ?_
   refine W.ret ?_
   exact Fin.ret rfl ⟨by rw[ko a b k (by omega) (by omega) hall],⟨⟩⟩
theorem lX(a b:List UInt8):Sound ty Tryz.prog 147 [.a (.sl .u8 a), .a (.sl .u8 b)] [.a (.lit (.bool (a==b)))]:=by
 refine Sound.o X Tryz.call147 Tryz.func147 Tryz.ntmps147 rfl rfl ?_
 intro zb
 refine W.s0 X [0,1] rfl ⟨⟩ ?_
 refine W.sr X [] [(7,⟨false,[.a (.lit (.bool _))]⟩)] [4] [] rfl (by(repeat' with_reducible first|exact ah.nil|refine ah.mk ?_ ?_|apply And.intro)<;>first|exact(fX _ _)) ?_
 refine W.ret ?_
 exact Fin.ret rfl ⟨rfl,⟨⟩⟩
theorem cI(a b:List (List UInt8)):Sound ty Tryz.prog 345 [.a (.sl (.sl .u8) a), .a (.sl (.sl .u8) b), .a (.lit (.func (.func 147) #[] #[]))] [.a (.lit (.bool (a==b)))]:=by
 refine Sound.o X Tryz.call345 Tryz.func345 Tryz.ntmps345 rfl rfl ?_
 intro zb
 refine W.bound 0 rfl (fun ng=> ?_)
 refine W.bound 1 rfl (fun fP=> ?_)
 refine W.s0 X [0,1,2] rfl ⟨⟩ ?_
 refine W.seq ?_
 refine W.s0 X [0,1,2,14] rfl ⟨⟩ ?_
 refine W.cond rfl (fun hb0=> ?_) (fun hb0=> ?_)
 ·try simp only[nb,ak,aq,aa]at hb0
  refine W.s0 X [6] rfl ⟨⟩ ?_
  refine W.ret ?_
  exact Fin.ret rfl ⟨by rw[mF a b hb0],⟨⟩⟩
 ·try simp only[nb,ak,aq,aa]at hb0
  refine W.skip ?_
  refine W.seq ?_
  refine W.s0 X [1,2,15,16,17] rfl ⟨⟩ ?_
  refine W.block ?_
  refine W.aV (fun k=>k≤a.length∧a.take k=b.take k) (fun k:Nat=> [(17, .one (.a (.lit (.int .i64 k))))]) (fun k=> []) (fun k=>a.length-k) 0 (fun k=>rfl) ⟨Nat.zero_le _,rfl⟩ rfl ?_
  rintro k ⟨hk,hall⟩
  refine W.s0 X [1,2,15,16,17,18] rfl ⟨⟩ ?_
  refine W.seq ?_
  refine W.cond rfl (fun aL=> ?_) (fun aL=> ?_)
  ·try simp only[nb,ak,aq,aa]at aL
   refine W.skip ?_
   refine W.seq ?_
   refine W.block ?_
   refine W.s0 X [1,2,7,8,15,16,17] rfl (by and_intros<;>first|exact⟨⟩| (intros;omega)) ?_
   refine W.s0 X [1,2,8,9,15,16,17] rfl (by and_intros<;>first|exact⟨⟩| (intros;omega)) ?_
   refine W.sr X [] [(29,⟨false,[.a (.lit (.bool (a.getD k (aK (.sl .u8))==b.getD k (aK (.sl .u8)))))]⟩)] [1,2,15,16,17,30] [] rfl (by(repeat' with_reducible first|exact ah.nil|refine ah.mk ?_ ?_|apply And.intro)<;>first|exact(lX _ _)) ?_
   refine W.cond rfl (fun aU=> ?_) (fun aU=> ?_)
   ·try simp only[nb,ak,aq,aa]at aU
    have hne:=kj a b (aK (.sl .u8)) k (fun h=>aU (by rw[h]))
    refine W.s0 X [6] rfl ⟨⟩ ?_
    refine W.ret ?_
    exact Fin.ret rfl ⟨by rw[hne],⟨⟩⟩
   ·try simp only[nb,ak,aq,aa]at aU
    have he:a.getD k (aK (.sl .u8))=b.getD k (aK (.sl .u8)):=aU
    refine W.skip ?_
    refine W.r0 X [1,2,15,16,17] rfl ⟨⟩ ?_
    refine⟨k+1,⟨by omega,gU a b (aK (.sl .u8)) k aL (by omega) hall he⟩,by omega,?_⟩
    rw[bw _ k rfl (by omega)]
    try rfl
  ·try simp only[nb,ak,aq,aa]at aL
   refine W.exit ?_
   refine W.s0 X [6] rfl ⟨⟩ ?_
   refine W.ret ?_
   exact Fin.ret rfl ⟨by rw[ko a b k (by omega) (by omega) hall],⟨⟩⟩
theorem fL(a b:List (List UInt8)):Sound ty Tryz.prog 266 [.a (.sl (.sl .u8) a), .a (.sl (.sl .u8) b)] [.a (.lit (.bool (a==b)))]:=by
 refine Sound.o X Tryz.call266 Tryz.func266 Tryz.ntmps266 rfl rfl ?_
 intro zb
 refine W.s0 X [0,1] rfl ⟨⟩ ?_
 refine W.sr X [] [(7,⟨false,[.a (.lit (.bool _))]⟩)] [4] [] rfl (by(repeat' with_reducible first|exact ah.nil|refine ah.mk ?_ ?_|apply And.intro)<;>first|exact(cI _ _)) ?_
 refine W.ret ?_
 exact Fin.ret rfl ⟨rfl,⟨⟩⟩
theorem hH(b:List UInt8):Sound ty Tryz.prog 330 [.a (.sl .u8 b)] [.a (.lit (.bool (p9 b)))]:=by
 refine Sound.o X Tryz.call330 Tryz.func330 Tryz.ntmps330 rfl rfl ?_
 intro zb
 refine W.s0 X [0] rfl ⟨⟩ ?_
 refine W.s0 X [2] rfl ⟨⟩ ?_
 refine W.ret ?_
 exact Fin.ret rfl ⟨rfl,⟨⟩⟩
theorem je(n:Int):Sound ty Tryz.prog 113 [.a (.lit (.int .i64 n))] [.a (.lit (.bool (qa n)))]:=by
 refine Sound.o X Tryz.call113 Tryz.func113 Tryz.ntmps113 rfl rfl ?_
 intro zb
 refine W.s0 X [0] rfl ⟨⟩ ?_
 refine W.sr X [] [(4,⟨false,[.a (.lit (.bool _))]⟩)] [2] [] rfl (by(repeat' with_reducible first|exact ah.nil|refine ah.mk ?_ ?_|apply And.intro)<;>first|exact(ay _ _ _)) ?_
 refine W.ret ?_
 exact Fin.ret rfl ⟨rfl,⟨⟩⟩
theorem qb(n:Int):Sound ty Tryz.prog 186 [.a (.lit (.int .i64 n))] [.a (.lit (.bool (qa n)))]:=by
 refine Sound.o X Tryz.call186 Tryz.func186 Tryz.ntmps186 rfl rfl ?_
 intro zb
 refine W.s0 X [0] rfl ⟨⟩ ?_
 refine W.sr X [] [(4,⟨false,[.a (.lit (.bool _))]⟩)] [2] [] rfl (by(repeat' with_reducible first|exact ah.nil|refine ah.mk ?_ ?_|apply And.intro)<;>first|exact(aH _ _ _)) ?_
 refine W.ret ?_
 exact Fin.ret rfl ⟨rfl,⟨⟩⟩
theorem cJ(c:dL):Sound ty Tryz.prog 231 [.agg (bl c)] [.a (.lit (.bool (dO c)))]:=by
 refine Sound.o X Tryz.call231 Tryz.func231 Tryz.ntmps231 rfl rfl ?_
 intro zb
 refine W.s0 X [1] rfl ⟨⟩ ?_
 refine W.s0 X [1,3] rfl ⟨⟩ ?_
 refine W.sr X [] [(6,⟨false,[.a (.lit (.bool (inr c.id 0 7)))]⟩),(10,⟨false,[.a (.lit (.bool (inr c.dc 0 7)))]⟩),(22,⟨false,[.a (.lit (.bool (gp c.key)))]⟩),(40,⟨false,[.a (.lit (.bool (c.aj.any p9)))]⟩),(47,⟨false,[.a (.lit (.bool (c.inbox.any p9)))]⟩),(56,⟨false,[.a (.lit (.bool (inr c.sent 0 (c.aj.length:Int))))]⟩),(61,⟨false,[.a (.lit (.bool (inr c.next 0 100000)))]⟩)] [2] [] rfl (by(repeat' with_reducible first|exact ah.nil|refine ah.mk ?_ ?_|apply And.intro);(iterate 7 all_goals try first|exact(ay c.id 0 7)|exact fun _=>(ay c.dc 0 7)|exact fun _=>(dH c.key)|exact fun _=>(bT _ _ _ hH)|exact fun _=>(ay c.sent 0 (c.aj.length:Int))|exact fun _=>(ay c.next 0 100000))) ?_
 refine W.ret ?_
 exact Fin.ret rfl ⟨(congrArg Value.bool (by simp only[dO,bf]<;>first|rfl|ac_rfl)),⟨⟩⟩
theorem sV(i f k:Int):Sound ty Tryz.prog 377 [.a (.lit (.int .i64 i)), .a (.lit (.int .i64 f)), .a (.lit (.int .i64 k))] [.a (.lit (.bool (inr i 0 7&&inr f 0 7&& !(i==f)&&gp k)))]:=by
 refine Sound.o X Tryz.call377 Tryz.func377 Tryz.ntmps377 rfl rfl ?_
 intro zb
 refine W.s0 X [0,1,2] rfl ⟨⟩ ?_
 refine W.sr X [] [(8,⟨false,[.a (.lit (.bool (inr i 0 7)))]⟩),(11,⟨false,[.a (.lit (.bool (inr f 0 7)))]⟩),(20,⟨false,[.a (.lit (.bool (gp k)))]⟩)] [6] [] rfl (by(repeat' with_reducible first|exact ah.nil|refine ah.mk ?_ ?_|apply And.intro);(iterate 3 all_goals try first|exact(aH i 0 7)|exact fun _=>(aH f 0 7)|exact fun _=>(dI k))) ?_
 refine W.ret ?_
 exact Fin.ret rfl ⟨(congrArg Value.bool (by simp only[bf]<;>first|rfl|ac_rfl)),⟨⟩⟩
theorem gw(l:List (List UInt8)):Sound ty Tryz.prog 378 [.a (.sl (.sl .u8) l)] [.a (.lit (.bool (decide ((l.length:Int)≤16)&& !l.any p9)))]:=by
 refine Sound.o X Tryz.call378 Tryz.func378 Tryz.ntmps378 rfl rfl ?_
 intro zb
 refine W.bound 0 rfl (fun nR=> ?_)
 refine W.s0 X [0] rfl ⟨⟩ ?_
 refine W.seq ?_
 refine W.s0 X [0,3] rfl ⟨⟩ ?_
 refine W.block ?_
 refine W.aV (fun k=>k≤l.length∧(l.take k).any p9=false) (fun k:Nat=> [(3, .one (.a (.lit (.int .i64 k))))]) (fun k=> []) (fun k=>l.length-k) 0 (fun k=>rfl) ⟨Nat.zero_le _,rfl⟩ rfl ?_
 rintro k ⟨hk,hall⟩
 refine W.seq ?_
 refine W.s0 X [0,3,7] rfl ⟨⟩ ?_
 refine W.cond rfl (fun hb0=> ?_) (fun hb0=> ?_)
 ·try simp only[nb,ak,aq,aa]at hb0
  refine W.skip ?_
  refine W.seq ?_
  refine W.block ?_
  refine W.s0 X [0,3,15] rfl (by and_intros<;>first|exact⟨⟩| (intros;omega)) ?_
  refine W.cond rfl (fun aL=> ?_) (fun aL=> ?_)
  ·skip
   refine W.s0 X [2] rfl ⟨⟩ ?_
   refine W.ret ?_
   exact Fin.ret rfl ⟨by rw[xX l p9 (aK (.sl .u8)) k hb0 aL];simp,⟨⟩⟩
  ·skip
   refine W.skip ?_
   refine W.r0 X [0,3] rfl ⟨⟩ ?_
   refine⟨k+1,⟨by omega,BZ (aK (.sl .u8)) hb0 hall aL⟩,by omega,?_⟩
   rw[bw _ k rfl (by omega)]
   try rfl
 ·try simp only[nb,ak,aq,aa]at hb0
  have gu:l.any p9=false:=by rw[←hall,List.take_of_length_le hb0]
  refine W.exit ?_
  refine W.s0 X [2] rfl ⟨⟩ ?_
  refine W.ret ?_
  exact Fin.ret rfl ⟨by rw[gu];simp,⟨⟩⟩
theorem cK(c:dL):Sound ty Tryz.prog 317 [.agg (bl c)] [.a (.lit (.bool (dO c)))]:=by
 refine Sound.o X Tryz.call317 Tryz.func317 Tryz.ntmps317 rfl rfl ?_
 intro zb
 refine W.s0 X [1] rfl ⟨⟩ ?_
 refine W.sr X [] [(9,⟨false,[.a (.lit (.bool (inr c.id 0 7&&inr c.dc 0 7&& !(c.id==c.dc)&&gp c.key)))]⟩),(13,⟨false,[.a (.lit (.bool (decide ((c.aj.length:Int)≤16)&& !c.aj.any p9)))]⟩),(18,⟨false,[.a (.lit (.bool (decide ((c.inbox.length:Int)≤16)&& !c.inbox.any p9)))]⟩),(26,⟨false,[.a (.lit (.bool (inr c.sent 0 (c.aj.length:Int))))]⟩),(31,⟨false,[.a (.lit (.bool (inr c.next 0 100000)))]⟩)] [2] [] rfl (by(repeat' with_reducible first|exact ah.nil|refine ah.mk ?_ ?_|apply And.intro);(iterate 5 all_goals try first|exact(sV c.id c.dc c.key)|exact fun _=>(gw c.aj)|exact fun _=>(gw c.inbox)|exact fun _=>(aH c.sent 0 (c.aj.length:Int))|exact fun _=>(aH c.next 0 100000))) ?_
 refine W.ret ?_
 exact Fin.ret rfl ⟨(congrArg Value.bool (by simp only[dO,bf]<;>first|rfl|ac_rfl)),⟨⟩⟩
theorem mR(a b:dL):Sound ty Tryz.prog 245 [.agg (bl a), .agg (bl b)] [.a (.lit (.bool (fJ a b)))]:=by
 refine Sound.o X Tryz.call245 Tryz.func245 Tryz.ntmps245 rfl rfl ?_
 intro zb
 refine W.s0 X [2,3] rfl ⟨⟩ ?_
 refine W.sr X [] [(36,⟨false,[.a (.lit (.bool (a.aj==b.aj)))]⟩)] [4] [] rfl (by(repeat' with_reducible first|exact ah.nil|refine ah.mk ?_ ?_|apply And.intro)<;>first|exact fun _=>(fL a.aj b.aj)) ?_
 refine W.ret ?_
 exact Fin.ret rfl ⟨(congrArg Value.bool (by simp only[fJ,bf]<;>first|rfl|ac_rfl)),⟨⟩⟩
theorem nH(a b:List (List UInt8)):Sound ty Tryz.prog 140 [.a (.sl (.sl .u8) a), .a (.sl (.sl .u8) b)] [.a (.lit (.bool (BX a b)))]:=by
 refine Sound.o X Tryz.call140 Tryz.func140 Tryz.ntmps140 rfl rfl ?_
 intro zb
 refine W.s0 X [0,1] rfl ⟨⟩ ?_
 refine W.sr X [] [(16,⟨false,[.a (.lit (.bool (a==((b.take (a.length:Int).toNat).drop (0:Int).toNat))))]⟩)] [4] [] rfl (by(repeat' with_reducible first|exact ah.nil|refine ah.mk ?_ ?_|apply And.intro)<;>first|exact fun _=>(fL a ((b.take (a.length:Int).toNat).drop (0:Int).toNat))| ((intro h1;first| (intro h2;first| (intro h3;refine And.intro ?_ ?_)|refine And.intro ?_ ?_)|refine And.intro ?_ ?_)<;>first|omega| ((try simp only[nb,ak,aq]at*);(try simp(disch:=omega) only[cQ]);omega))) ?_
 refine W.ret ?_
 exact Fin.ret rfl ⟨(congrArg Value.bool (by simp only[BX,List.drop_zero,Int.toNat_zero,bf]<;>first|rfl|ac_rfl)),⟨⟩⟩
theorem jf(d:bH):Sound ty Tryz.prog 118 [.agg (dD d)] [.a (.lit (.bool (lV d)))]:=by
 refine Sound.o X Tryz.call118 Tryz.func118 Tryz.ntmps118 rfl rfl ?_
 intro zb
 refine W.s0 X [1] rfl ⟨⟩ ?_
 refine W.sr X [] [(5,⟨false,[.a (.lit (.bool (dO d.live)))]⟩),(9,⟨false,[.a (.lit (.bool (dO d.saved)))]⟩),(16,⟨false,[.a (.lit (.bool (fJ d.live d.saved)))]⟩),(43,⟨false,[.a (.lit (.bool (BX d.saved.inbox d.live.inbox)))]⟩)] [2] [] rfl (by(repeat' with_reducible first|exact ah.nil|refine ah.mk ?_ ?_|apply And.intro);(iterate 4 all_goals try first|exact(cJ d.live)|exact fun _=>(cJ d.saved)|exact fun _=>(mR d.live d.saved)|exact fun _=>(nH d.saved.inbox d.live.inbox))) ?_
 refine W.ret ?_
 exact Fin.ret rfl ⟨(congrArg Value.bool (by simp only[lV,bf]<;>first|rfl|ac_rfl)),⟨⟩⟩
theorem jg(d:bH):Sound ty Tryz.prog 268 [.agg (dD d)] [.a (.lit (.bool (lV d)))]:=by
 refine Sound.o X Tryz.call268 Tryz.func268 Tryz.ntmps268 rfl rfl ?_
 intro zb
 refine W.s0 X [1] rfl ⟨⟩ ?_
 refine W.s0 X [1,3] rfl ⟨⟩ ?_
 refine W.s0 X [3,4] rfl ⟨⟩ ?_
 refine W.seq ?_
 refine W.sr X [] [(10,⟨false,[.a (.lit (.bool (dO d.live)))]⟩),(14,⟨false,[.a (.lit (.bool (dO d.saved)))]⟩),(50,⟨false,[.a (.lit (.bool (d.live.aj==d.saved.aj)))]⟩)] [3,4,52] [] rfl (by(repeat' with_reducible first|exact ah.nil|refine ah.mk ?_ ?_|apply And.intro);(iterate 3 all_goals try first|exact(cK d.live)|exact fun _=>(cK d.saved)|exact fun _=>(fK d.live.aj d.saved.aj))) ?_
 refine W.cond rfl (fun hb0=> ?_) (fun hb0=> ?_)
 ·skip
  refine W.s0 X [2] rfl ⟨⟩ ?_
  refine W.ret ?_
  exact Fin.ret rfl ⟨by rw[show lV d=false from by rw[lV,dr (R:=dO d.live&&dO d.saved&&fJ d.live d.saved) hb0 (by simp only[fJ,bf]<;>first|rfl|ac_rfl)];rfl],⟨⟩⟩
 ·have hh:(dO d.live&&dO d.saved&&fJ d.live d.saved)=true:=cU hb0 (by simp only[fJ,bf]<;>first|rfl|ac_rfl)
  refine W.skip ?_
  refine W.sd X [] [(83,⟨false,[.a (.lit (.bool (d.saved.inbox==((d.live.inbox.take (d.saved.inbox.length:Int).toNat).drop (0:Int).toNat))))]⟩)] [2] [] 33 MO (by kernel_rfl) rfl (by(repeat' with_reducible first|exact ah.nil|refine ah.mk ?_ ?_|apply And.intro)<;>first|exact fun _=>(fK d.saved.inbox ((d.live.inbox.take (d.saved.inbox.length:Int).toNat).drop (0:Int).toNat))| ((intro h1;first| (intro h2;first| (intro h3;refine And.intro ?_ ?_)|refine And.intro ?_ ?_)|refine And.intro ?_ ?_)<;>first|omega| ((try simp only[nb,ak,aq]at*);(try simp(disch:=omega) only[cQ]);omega))) ?_
  refine W.ret ?_
  exact Fin.ret rfl ⟨(congrArg Value.bool (by simp only[lV,hh,BX,List.drop_zero,Int.toNat_zero,bf]<;>first|rfl|ac_rfl)),⟨⟩⟩
end
section
set_option maxRecDepth 100000
theorem jO(x:cX):Sound ty Tryz.prog 24 [.agg (bM x)] [.a (.lit (.bool (okW x)))]:=by
 refine Sound.o X Tryz.call24 Tryz.func24 Tryz.ntmps24 rfl rfl ?_
 intro zb
 refine W.cH 0 1 rfl rfl (fun ng=> ?_)
 refine W.cH 0 2 rfl rfl (fun fP=> ?_)
 refine W.s0 X [1] rfl ⟨⟩ ?_
 refine W.seq ?_
 refine W.sd X [] [(10,⟨false,[.a (.lit (.bool (inr x.rows 1 64)))]⟩),(16,⟨false,[.a (.lit (.bool (qa (x.aG.length:Int))))]⟩),(23,⟨false,[.a (.lit (.bool (inr (x.af.length:Int) 2 8)))]⟩),(36,⟨false,[.a (.lit (.bool (iZ x.aW)))]⟩),(50,⟨false,[.a (.lit (.int .i64 (lU x.aW)))]⟩),(58,⟨false,[.a (.lit (.bool (gp x.gC)))]⟩),(64,⟨false,[.a (.lit (.bool (inr x.round 0 100000)))]⟩)] [1,71] [] 64 MO (by kernel_rfl) rfl (by(repeat' with_reducible first|exact ah.nil|refine ah.mk ?_ ?_|apply And.intro);(iterate 7 all_goals try first|exact(ay x.rows 1 64)|exact fun _=>(je (x.aG.length:Int))|exact fun _=>(ay (x.af.length:Int) 2 8)|exact fun _=>(iy x.aW)|exact fun _=>(mP x.aW)|exact fun _=>(dH x.gC)|exact fun _=>(ay x.round 0 100000));all_goals first| (refine fun _=> ?_;dsimp only[hyps,yA];omega)) ?_
 refine W.cond rfl (fun hb0=> ?_) (fun hb0=> ?_)
 ·skip
  refine W.s0 X [2] rfl ⟨⟩ ?_
  refine W.ret ?_
  exact Fin.ret rfl ⟨by rw[show okW x=false from by rw[okW,dr (R:=DD x) hb0 (by simp only[DD,bf]<;>first|rfl|ac_rfl)];rfl],⟨⟩⟩
 ·have hh:DD x=true:=cU hb0 (by simp only[DD,bf]<;>first|rfl|ac_rfl)
  obtain⟨EH,Kf,_⟩:=sW hh
  refine W.skip ?_
  refine W.seq ?_
  refine W.s0 X [1,73,74,75] rfl ⟨⟩ ?_
  refine W.block ?_
  refine W.aV (fun k=>k≤x.aG.length∧(List.range k).all (yf x)=true) (fun k:Nat=> [(75, .one (.a (.lit (.int .i64 k))))]) (fun k=> []) (fun k=>x.aG.length-k) 0 (fun k=>rfl) ⟨Nat.zero_le _,rfl⟩ rfl ?_
  rintro k ⟨hk,hall⟩
  refine W.s0 X [1,73,74,75,76] rfl ⟨⟩ ?_
  refine W.seq ?_
  refine W.cond rfl (fun aL=> ?_) (fun aL=> ?_)
  ·try simp only[nb,ak,aq,aa]at aL
   refine W.skip ?_
   refine W.seq ?_
   refine W.block ?_
   refine W.s0 X [1,3,4,73,74,75] rfl (by and_intros<;>first|exact⟨⟩| (intros;omega)) ?_
   refine W.sr X [] [(81,⟨false,[.a (.lit (.bool (gr (x.aG.getD k (aK .b9)))))]⟩)] [1,73,74,75,108] [] rfl (by(repeat' with_reducible first|exact ah.nil|refine ah.mk ?_ ?_|apply And.intro)<;>first|exact(jc (x.aG.getD k (aK .b9)))) ?_
   refine W.cond rfl (fun aU=> ?_) (fun aU=> ?_)
   ·have hk2:yf x k=false:=dr aU (by simp only[yf,bf]<;>first|rfl|ac_rfl)
    refine W.s0 X [2] rfl ⟨⟩ ?_
    refine W.ret ?_
    exact Fin.ret rfl ⟨by rw[show okW x=false from by rw[okW,eC aL hk2];simp],⟨⟩⟩
   ·have hk2:yf x k=true:=cU aU (by simp only[yf,bf]<;>first|rfl|ac_rfl)
    refine W.skip ?_
    refine W.r0 X [1,73,74,75] rfl ⟨⟩ ?_
    refine⟨k+1,⟨by omega,dx hall hk2⟩,by omega,?_⟩
    rw[bw _ k rfl (by omega)]
    try rfl
  ·try simp only[nb,ak,aq,aa]at aL
   have gu:(List.range x.aG.length).all (yf x)=true:=by rw[show x.aG.length=k by omega];exact hall
   refine W.exit ?_
   refine W.seq ?_
   refine W.s0 X [1,111,112,113] rfl ⟨⟩ ?_
   refine W.block ?_
   refine W.aV (fun k1=>k1≤x.af.length∧(List.range k1).all (okD x)=true) (fun k1:Nat=> [(113, .one (.a (.lit (.int .i64 k1))))]) (fun k1=> []) (fun k1=>x.af.length-k1) 0 (fun k1=>rfl) ⟨Nat.zero_le _,rfl⟩ rfl ?_
   rintro k1 ⟨hk1,D6⟩
   refine W.s0 X [1,111,112,113,114] rfl ⟨⟩ ?_
   refine W.seq ?_
   refine W.cond rfl (fun kA=> ?_) (fun kA=> ?_)
   ·try simp only[nb,ak,aq,aa]at kA
    have hx:=G2 k1 (by omega)
    have hlt:=B0 k1 x.af.length kA EH
    refine W.skip ?_
    refine W.seq ?_
    refine W.block ?_
    refine W.s0 X [1,5,6,111,112,113] rfl (by and_intros<;>first|exact⟨⟩| (intros;omega)) ?_
    refine W.s0 X [1,5,6,7,111,112,113] rfl ⟨⟩ ?_
    refine W.sd X [] [(121,⟨false,[.a (.lit (.bool (lV (x.af.getD k1 (aK .bH)))))]⟩)] [1,111,112,113,155] [] 36 MO (by kernel_rfl) rfl (by(repeat' with_reducible first|exact ah.nil|refine ah.mk ?_ ?_|apply And.intro)<;>first|exact(jf (x.af.getD k1 (aK .bH)))| ((intro h1;first| (intro h2;first| (intro h3;refine And.intro ?_ ?_)|refine And.intro ?_ ?_)|refine And.intro ?_ ?_)<;>first|omega| ((try simp only[nb,ak,aq]at*);(try simp(disch:=omega) only[cQ]);omega))) ?_
    refine W.cond rfl (fun sM=> ?_) (fun sM=> ?_)
    ·have Ar:okD x k1=false:=dr sM (by simp only[okD,hx,bf]<;>first|rfl|ac_rfl)
     refine W.s0 X [2] rfl ⟨⟩ ?_
     refine W.ret ?_
     exact Fin.ret rfl ⟨by rw[show okW x=false from by rw[okW,eC kA Ar];simp],⟨⟩⟩
    ·have Ar:okD x k1=true:=cU sM (by simp only[okD,hx,bf]<;>first|rfl|ac_rfl)
     refine W.skip ?_
     refine W.r0 X [1,111,112,113] rfl ⟨⟩ ?_
     refine⟨k1+1,⟨by omega,dx D6 Ar⟩,by omega,?_⟩
     rw[bw _ k1 rfl (by omega)]
     try rfl
   ·try simp only[nb,ak,aq,aa]at kA
    have B2:(List.range x.af.length).all (okD x)=true:=by rw[show x.af.length=k1 by omega];exact D6
    refine W.exit ?_
    refine W.s0 X [2] rfl ⟨⟩ ?_
    refine W.ret ?_
    exact Fin.ret rfl ⟨by rw[okW,hh,gu,B2];rfl,⟨⟩⟩
theorem lY(x:cX):Sound ty Tryz.prog 159 [.agg (bM x)] [.a (.lit (.bool (FQ x)))]:=by
 refine Sound.o X Tryz.call159 Tryz.func159 Tryz.ntmps159 rfl rfl ?_
 intro zb
 refine W.cH 0 1 rfl rfl (fun ng=> ?_)
 refine W.cH 0 2 rfl rfl (fun fP=> ?_)
 refine W.s0 X [1] rfl ⟨⟩ ?_
 refine W.seq ?_
 refine W.s0 X [1,3] rfl ⟨⟩ ?_
 refine W.block ?_
 refine W.aV (fun k=>k≤x.aG.length∧(List.range k).all (yf x)=true) (fun k:Nat=> [(3, .one (.a (.lit (.int .i64 k))))]) (fun k=> []) (fun k=>x.aG.length-k) 0 (fun k=>rfl) ⟨Nat.zero_le _,rfl⟩ rfl ?_
 rintro k ⟨hk,hall⟩
 refine W.seq ?_
 refine W.s0 X [1,3,9] rfl ⟨⟩ ?_
 refine W.cond rfl (fun hb0=> ?_) (fun hb0=> ?_)
 ·try simp only[nb,ak,aq,aa]at hb0
  refine W.skip ?_
  refine W.seq ?_
  refine W.block ?_
  refine W.s0 X [1,3,4] rfl (by and_intros<;>first|exact⟨⟩| (intros;omega)) ?_
  refine W.sr X [] [(18,⟨false,[.a (.lit (.bool (gr (x.aG.getD k (aK .b9)))))]⟩)] [1,3,45] [] rfl (by(repeat' with_reducible first|exact ah.nil|refine ah.mk ?_ ?_|apply And.intro)<;>first|exact(jd (x.aG.getD k (aK .b9)))) ?_
  refine W.cond rfl (fun aL=> ?_) (fun aL=> ?_)
  ·have hk2:yf x k=false:=dr aL (by simp only[yf,bf]<;>first|rfl|ac_rfl)
   refine W.s0 X [2] rfl ⟨⟩ ?_
   refine W.ret ?_
   exact Fin.ret rfl ⟨by rw[show FQ x=false from by rw[FQ,eC hb0 hk2];simp],⟨⟩⟩
  ·have hk2:yf x k=true:=cU aL (by simp only[yf,bf]<;>first|rfl|ac_rfl)
   refine W.skip ?_
   refine W.r0 X [1,3] rfl ⟨⟩ ?_
   refine⟨k+1,⟨by omega,dx hall hk2⟩,by omega,?_⟩
   rw[bw _ k rfl (by omega)]
   try rfl
 ·try simp only[nb,ak,aq,aa]at hb0
  have gu:(List.range x.aG.length).all (yf x)=true:=by rw[show x.aG.length=k by omega];exact hall
  refine W.exit ?_
  refine W.sr X [] [(49,⟨false,[.a (.lit (.bool _))]⟩)] [2] [] rfl (by(repeat' with_reducible first|exact ah.nil|refine ah.mk ?_ ?_|apply And.intro)<;>first|exact(qb _)) ?_
  refine W.ret ?_
  exact Fin.ret rfl ⟨by rw[FQ,gu];rfl,⟨⟩⟩
theorem lZ(x:cX):Sound ty Tryz.prog 160 [.agg (bM x)] [.a (.lit (.bool (D5 x)))]:=by
 refine Sound.o X Tryz.call160 Tryz.func160 Tryz.ntmps160 rfl rfl ?_
 intro zb
 refine W.cH 0 1 rfl rfl (fun ng=> ?_)
 refine W.cH 0 2 rfl rfl (fun fP=> ?_)
 refine W.s0 X [1] rfl ⟨⟩ ?_
 refine W.s0 X [1,3] rfl ⟨⟩ ?_
 refine W.seq ?_
 refine W.sr X [] [(14,⟨false,[.a (.lit (.bool (inr (x.af.length:Int) 2 8)))]⟩)] [1,3,16] [] rfl (by(repeat' with_reducible first|exact ah.nil|refine ah.mk ?_ ?_|apply And.intro)<;>first|exact fun _=>(aH (x.af.length:Int) 2 8)| (intros;omega)) ?_
 refine W.cond rfl (fun hb0=> ?_) (fun hb0=> ?_)
 ·skip
  refine W.s0 X [2] rfl ⟨⟩ ?_
  refine W.ret ?_
  exact Fin.ret rfl ⟨by rw[show D5 x=false from by rw[D5,dr (R:=((x.af.length:Int).tmod 2==0)&&inr x.af.length 2 8) hb0 (by simp only[bf]<;>first|rfl|ac_rfl)];rfl],⟨⟩⟩
 ·have hh:(((x.af.length:Int).tmod 2==0)&&inr x.af.length 2 8)=true:=cU hb0 (by simp only[bf]<;>first|rfl|ac_rfl)
  have EH:x.af.length % 2=0:=by simp only[Bool.and_eq_true,beq_iff_eq]at hh;have:=hh.1;rw[b7 (by omega)]at this;omega
  have Kf:x.af.length≤8:=by simp only[Bool.and_eq_true,ak]at hh;omega
  refine W.skip ?_
  refine W.seq ?_
  refine W.s0 X [1,3,4] rfl ⟨⟩ ?_
  refine W.block ?_
  refine W.aV (fun k=>k≤x.af.length∧(List.range k).all (okD x)=true) (fun k:Nat=> [(4, .one (.a (.lit (.int .i64 k))))]) (fun k=> []) (fun k=>x.af.length-k) 0 (fun k=>rfl) ⟨Nat.zero_le _,rfl⟩ rfl ?_
  rintro k ⟨hk,hall⟩
  refine W.seq ?_
  refine W.s0 X [1,3,4,19] rfl ⟨⟩ ?_
  refine W.cond rfl (fun aL=> ?_) (fun aL=> ?_)
  ·try simp only[nb,ak,aq,aa]at aL
   have hx:=G2 k (by omega)
   have hlt:=B0 k x.af.length aL EH
   refine W.skip ?_
   refine W.seq ?_
   refine W.block ?_
   refine W.s0 X [1,3,4,5] rfl (by and_intros<;>first|exact⟨⟩| (intros;omega)) ?_
   refine W.sd X [] [(28,⟨false,[.a (.lit (.bool (lV (x.af.getD k (aK .bH)))))]⟩)] [1,3,4,66] [] 40 MO (by kernel_rfl) rfl (by(repeat' with_reducible first|exact ah.nil|refine ah.mk ?_ ?_|apply And.intro)<;>first|exact(jg (x.af.getD k (aK .bH)))| ((intro h1;first| (intro h2;first| (intro h3;refine And.intro ?_ ?_)|refine And.intro ?_ ?_)|refine And.intro ?_ ?_)<;>first|omega| ((try simp only[nb,ak,aq]at*);(try simp(disch:=omega) only[cQ]);omega))) ?_
   refine W.cond rfl (fun aU=> ?_) (fun aU=> ?_)
   ·have Ar:okD x k=false:=dr aU (by simp only[okD,hx,bf]<;>first|rfl|ac_rfl)
    refine W.s0 X [2] rfl ⟨⟩ ?_
    refine W.ret ?_
    exact Fin.ret rfl ⟨by rw[show D5 x=false from by rw[D5,eC aL Ar];simp],⟨⟩⟩
   ·have Ar:okD x k=true:=cU aU (by simp only[okD,hx,bf]<;>first|rfl|ac_rfl)
    refine W.skip ?_
    refine W.r0 X [1,3,4] rfl ⟨⟩ ?_
    refine⟨k+1,⟨by omega,dx hall Ar⟩,by omega,?_⟩
    rw[bw _ k rfl (by omega)]
    try rfl
  ·try simp only[nb,ak,aq,aa]at aL
   have B2:(List.range x.af.length).all (okD x)=true:=by rw[show x.af.length=k by omega];exact hall
   refine W.exit ?_
   refine W.s0 X [2] rfl ⟨⟩ ?_
   refine W.ret ?_
   exact Fin.ret rfl ⟨by rw[D5,hh,B2];rfl,⟨⟩⟩
theorem jP(x:cX):Sound ty Tryz.prog 45 [.agg (bM x)] [.a (.lit (.bool (okW x)))]:=by
 refine Sound.o X Tryz.call45 Tryz.func45 Tryz.ntmps45 rfl rfl ?_
 intro zb
 refine W.s0 X [1] rfl ⟨⟩ ?_
 refine W.sd X [] [(5,⟨false,[.a (.lit (.bool (inr x.rows 1 64)))]⟩),(9,⟨false,[.a (.lit (.bool (inr x.round 0 100000)))]⟩),(13,⟨false,[.a (.lit (.bool (FQ x)))]⟩),(17,⟨false,[.a (.lit (.bool (D5 x)))]⟩),(22,⟨false,[.a (.lit (.bool (iZ x.aW)))]⟩),(35,⟨false,[.a (.lit (.int .i64 (lU x.aW)))]⟩),(43,⟨false,[.a (.lit (.bool (gp x.gC)))]⟩)] [2] [] 48 MO (by kernel_rfl) rfl (by(repeat' with_reducible first|exact ah.nil|refine ah.mk ?_ ?_|apply And.intro);(iterate 7 all_goals try first|exact(aH x.rows 1 64)|exact fun _=>(aH x.round 0 100000)|exact fun _=>(lY x)|exact fun _=>(lZ x)|exact fun _=>(iz x.aW)|exact fun _=>(mQ x.aW)|exact fun _=>(dI x.gC))) ?_
 refine W.ret ?_
 exact Fin.ret rfl ⟨(congrArg Value.bool (by simp only[okW,DD,FQ,D5,bf]<;>first|rfl|ac_rfl)),⟨⟩⟩
theorem nI(key c:Int)(p:Plain):Sound ty Tryz.prog 272 [.a (.lit (.int .i64 key)), .a (.lit (.int .i64 c)), .agg (dP p)] [.a (.sl .u8 (lQ key c p)), .a (.lit (.bool (dn key c p)))]:=by
 refine Sound.o X Tryz.call272 Tryz.func272 Tryz.ntmps272 rfl rfl ?_
 intro zb
 refine W.s0 X [0,1,5] rfl ⟨⟩ ?_
 refine W.seq ?_
 refine W.sr X [] [(11,⟨false,[.a (.lit (.bool (gp key)))]⟩),(15,⟨false,[.a (.lit (.bool (inr c 0 1000000000000)))]⟩),(20,⟨false,[.a (.lit (.bool (fI p)))]⟩)] [0,1,5,22] [] rfl (by(repeat' with_reducible first|exact ah.nil|refine ah.mk ?_ ?_|apply And.intro);(iterate 3 all_goals try first|exact(dH key)|exact fun _=>(ay c 0 1000000000000)|exact fun _=>(jJ p))) ?_
 refine W.cond rfl (fun hb0=> ?_) (fun hb0=> ?_)
 ·have hk:dn key c p=false:=dr hb0 (by simp only[dn,bf]<;>first|rfl|ac_rfl)
  refine W.s0 X [6,7] rfl ⟨⟩ ?_
  refine W.ret ?_
  exact Fin.ret rfl ⟨by rw[lQ,if_neg (by rw[hk];decide)],by rw[hk],⟨⟩⟩
 ·have hk:dn key c p=true:=cU hb0 (by simp only[dn,bf]<;>first|rfl|ac_rfl)
  have hp:=nw hk
  have hst:(stream (kh key [61,c]) (18:Int).toNat).length=18:=dV _ _
  have iq:(cu key c p).length≤100:=by unfold cu;simp only[List.length_append,List.length_drop,List.length_cons,List.length_nil,dV];omega
  have Kg:(four (iY key c (dY (gZ key c) (cu key c p)))).length=4:=rfl
  have hel:(dY (gZ key c) (cu key c p)).length≤100:=by rw[eB];exact iq
  refine W.skip ?_
  refine W.sr X [(33,30)] [] [0,1,5,8] [] rfl (by and_intros<;>first|exact⟨⟩|exact rfl|exact(uH _).1|exact(uH _).2| (simp only[iA,maxLen,lens];omega)) ?_
  refine W.sd X [(44,30)] [(38,⟨false,[.a (.lit (.int .i64 (kh key [61,c])))]⟩),(39,⟨true,[.a (.sl .u8 (stream (kh key [61,c]) (18:Int).toNat))]⟩)] [0,1,8] [] 10 MO (by kernel_rfl) rfl (by(repeat' with_reducible first|exact ah.nil|refine ah.mk ?_ ?_|apply And.intro);(iterate 2 all_goals try first|exact(aS key [61,c] (by first|assumption|omega| (simp;done)| (simp;omega)))|exact(fk (kh key [61,c]) 18 (by first|assumption|omega| (simp;done)| (simp;omega)) (by first|assumption|omega| (simp;done)| (simp;omega))));all_goals first| (intros;omega)|exact rfl|exact⟨rfl,bL _ (by decide)⟩| (simp only[iA,maxLen,lens];omega)) ?_
  refine W.sr X [] [(47,⟨false,[.a (.lit (.int .i64 (gZ key c)))]⟩),(49,⟨true,[.a (.sl .u8 (dY (gZ key c) (cu key c p)))]⟩)] [0,1,9] [] rfl (by(repeat' with_reducible first|exact ah.nil|refine ah.mk ?_ ?_|apply And.intro);(iterate 2 all_goals try first|exact(p7 key c)|exact(pY (gZ key c) (cu key c p) (by first|assumption|omega| (simp;done)| (simp;omega))))) ?_
  refine W.sr X [(55,49)] [(54,⟨true,[.a (.sl .u8 (four (iY key c (dY (gZ key c) (cu key c p)))))]⟩)] [6,7] [] rfl (by(repeat' with_reducible first|exact ah.nil|refine ah.mk ?_ ?_|apply And.intro)<;>first|exact(lT key c (dY (gZ key c) (cu key c p)) (by first|assumption|omega| (simp;done)| (simp;omega)))|exact rfl| (simp only[iA,maxLen,lens];omega)) ?_
  refine W.ret ?_
  exact Fin.ret rfl ⟨by rw[lQ,if_pos hk],by rw[hk],⟨⟩⟩
theorem nJ(key c:Int)(p:Plain):Sound ty Tryz.prog 275 [.a (.lit (.int .i64 key)), .a (.lit (.int .i64 c)), .agg (dP p)] [.a (.sl .u8 (lQ key c p)), .a (.lit (.bool (dn key c p)))]:=by
 refine Sound.o X Tryz.call275 Tryz.func275 Tryz.ntmps275 rfl rfl ?_
 intro zb
 refine W.s0 X [0,1,5] rfl ⟨⟩ ?_
 refine W.seq ?_
 refine W.sr X [] [(12,⟨false,[.a (.lit (.bool (gp key)))]⟩),(16,⟨false,[.a (.lit (.bool (inr c 0 1000000000000)))]⟩),(21,⟨false,[.a (.lit (.bool (fI p)))]⟩)] [0,1,5,23] [] rfl (by(repeat' with_reducible first|exact ah.nil|refine ah.mk ?_ ?_|apply And.intro);(iterate 3 all_goals try first|exact(dI key)|exact fun _=>(aH c 0 1000000000000)|exact fun _=>(jK p))) ?_
 refine W.cond rfl (fun hb0=> ?_) (fun hb0=> ?_)
 ·have hk:dn key c p=false:=dr hb0 (by simp only[dn,bf]<;>first|rfl|ac_rfl)
  refine W.s0 X [6,7] rfl (by and_intros<;>first|exact⟨⟩|exact rfl) ?_
  refine W.ret ?_
  exact Fin.ret rfl ⟨by rw[lQ,if_neg (by rw[hk];decide)],by rw[hk],⟨⟩⟩
 ·have hk:dn key c p=true:=cU hb0 (by simp only[dn,bf]<;>first|rfl|ac_rfl)
  have hp:=nw hk
  have hst:(stream (kh key [61,c]) (18:Int).toNat).length=18:=dV _ _
  have iq:(cu key c p).length≤100:=by unfold cu;simp only[List.length_append,List.length_drop,List.length_cons,List.length_nil,dV];omega
  have Kg:(four (iY key c (dY (gZ key c) (cu key c p)))).length=4:=rfl
  have hel:(dY (gZ key c) (cu key c p)).length≤100:=by rw[eB];exact iq
  refine W.skip ?_
  refine W.sr X [(35,32)] [] [0,1,5,8] [] rfl (by and_intros<;>first|exact⟨⟩|exact rfl|exact(uH _).1|exact(uH _).2| (simp only[iA,maxLen,lens];omega)) ?_
  refine W.sd X [(46,32)] [(40,⟨false,[.a (.lit (.int .i64 (kh key [61,c])))]⟩),(41,⟨true,[.a (.sl .u8 (stream (kh key [61,c]) (18:Int).toNat))]⟩)] [0,1,8] [] 10 MO (by kernel_rfl) rfl (by(repeat' with_reducible first|exact ah.nil|refine ah.mk ?_ ?_|apply And.intro);(iterate 2 all_goals try first|exact(aT key [61,c] (by first|assumption|omega| (simp;done)| (simp;omega)))|exact(fm (kh key [61,c]) 18 (by first|assumption|omega| (simp;done)| (simp;omega)) (by first|assumption|omega| (simp;done)| (simp;omega))));all_goals first| (intros;omega)|exact rfl|exact⟨rfl,bL _ (by decide)⟩| (simp only[iA,maxLen,lens];omega)) ?_
  refine W.sr X [] [(49,⟨false,[.a (.lit (.int .i64 (gZ key c)))]⟩),(51,⟨true,[.a (.sl .u8 (dY (gZ key c) (cu key c p)))]⟩)] [0,1,9] [] rfl (by(repeat' with_reducible first|exact ah.nil|refine ah.mk ?_ ?_|apply And.intro);(iterate 2 all_goals try first|exact(mN key c)|exact(pZ (gZ key c) (cu key c p) (by first|assumption|omega| (simp;done)| (simp;omega))))) ?_
  refine W.sr X [] [(55,⟨false,[.a (.lit (.int .i64 (iY key c (dY (gZ key c) (cu key c p)))))]⟩)] [9,10] [] rfl (by(repeat' with_reducible first|exact ah.nil|refine ah.mk ?_ ?_|apply And.intro)<;>first|exact(mL key c (dY (gZ key c) (cu key c p)) (by first|assumption|omega| (simp;done)| (simp;omega)))) ?_
  refine W.sr X [(69,51)] [] [6,7] [] rfl (by and_intros<;>first|exact⟨⟩| (intros;omega)|exact rfl|exact(uH _).1|exact(uH _).2| (simp only[iA,maxLen,lens];omega)) ?_
  refine W.ret ?_
  exact Fin.ret rfl ⟨(congrArg (fun z=>dY (gZ key c) (cu key c p)++z) (yd _)).trans (by rw[lQ,if_pos hk]),by rw[hk],⟨⟩⟩
theorem gy(c:dL):Sound ty Tryz.prog 146 [.agg (bl c)] [.a (.lit (.int .i64 (eD c)))]:=by
 refine Sound.o X Tryz.call146 Tryz.func146 Tryz.ntmps146 rfl rfl ?_
 intro zb
 refine W.s0 X [1] rfl ⟨⟩ ?_
 refine W.seq ?_
 refine W.s0 X [7] rfl ⟨⟩ ?_
 refine W.cond rfl (fun hb0=> ?_) (fun hb0=> ?_)
 ·try simp only[nb,ak,aq,aa]at hb0
  refine W.s0 X [2] rfl ⟨⟩ ?_
  refine W.ret ?_
  exact Fin.ret rfl ⟨by rw[eD,if_pos hb0],⟨⟩⟩
 ·try simp only[nb,ak,aq,aa]at hb0
  refine W.skip ?_
  refine W.s0 X [2] rfl ⟨⟩ ?_
  refine W.ret ?_
  exact Fin.ret rfl ⟨by rw[eD,if_neg (by omega)],⟨⟩⟩
theorem kI(c:dL)(a:Int)(h0:0≤a)(h1:a<c.aj.length):Sound ty Tryz.prog 148 [.agg (bl c), .a (.lit (.int .i64 a))] [.a (.sl .u8 (vg c a))]:=by
 refine Sound.o X Tryz.call148 Tryz.func148 Tryz.ntmps148 rfl rfl ?_
 intro zb
 refine W.s0 X [1,2] rfl ⟨⟩ ?_
 refine W.sd X [] [(11,⟨false,[.a (.lit (.int .i64 (eD c)))]⟩),(12,⟨false,[.a (.lit (.int .i64 (pX c.key (eD c))))]⟩),(20,⟨true,[.a (.sl .u8 (lQ (pX c.key (eD c)) a (⟨1,(c.aj.getD (a).toNat (aK (.sl .u8)))⟩:Plain))), .a (.lit (.bool (dn (pX c.key (eD c)) a (⟨1,(c.aj.getD (a).toNat (aK (.sl .u8)))⟩:Plain))))]⟩)] [5] [] 18 MO (by kernel_rfl) rfl (by(repeat' with_reducible first|exact ah.nil|refine ah.mk ?_ ?_|apply And.intro);(iterate 3 all_goals try first|exact(gy c)|exact(jL c.key (eD c))|exact(nI (pX c.key (eD c)) a (⟨1,(c.aj.getD (a).toNat (aK (.sl .u8)))⟩:Plain)));all_goals first| (intros;omega)) ?_
 refine W.s0 X [4] rfl ⟨⟩ ?_
 refine W.ret ?_
 exact Fin.ret rfl ⟨rfl,⟨⟩⟩
theorem kJ(c:dL)(r n:Int):Sound ty Tryz.prog 99 [.agg (bl c), .a (.lit (.int .i64 r)), .a (.lit (.int .i64 n))] [.a (.lit (.int .i64 (gx c r n))), .a (.sl .u8 (fY c r n)), .a (.lit (.bool (jN c r n)))]:=by
 refine Sound.o X Tryz.call99 Tryz.func99 Tryz.ntmps99 rfl rfl ?_
 intro zb
 refine W.cH 0 4 rfl rfl (fun nR=> ?_)
 refine W.s0 X [1,2,3] rfl ⟨⟩ ?_
 refine W.seq ?_
 refine W.sr X [] [(10,⟨false,[.a (.lit (.bool (dO c)))]⟩),(14,⟨false,[.a (.lit (.bool (inr r 0 100000)))]⟩),(19,⟨false,[.a (.lit (.bool (inr n 1 64)))]⟩)] [1,2,3,21] [] rfl (by(repeat' with_reducible first|exact ah.nil|refine ah.mk ?_ ?_|apply And.intro);(iterate 3 all_goals try first|exact(cJ c)|exact fun _=>(ay r 0 100000)|exact fun _=>(ay n 1 64))) ?_
 refine W.cond rfl (fun hb0=> ?_) (fun hb0=> ?_)
 ·have hk:jN c r n=false:=dr hb0 (by simp only[jN,bf]<;>first|rfl|ac_rfl)
  refine W.s0 X [6,7,8] rfl ⟨⟩ ?_
  refine W.ret ?_
  exact Fin.ret rfl ⟨by rw[gx,if_neg (by rw[hk];decide)],by rw[fY,if_neg (by rw[hk];decide)],by rw[hk],⟨⟩⟩
 ·have hk:jN c r n=true:=cU hb0 (by simp only[jN,bf]<;>first|rfl|ac_rfl)
  have hs:=rz hk
  refine W.skip ?_
  refine W.seq ?_
  refine W.s0 X [1,2,3,27] rfl ⟨⟩ ?_
  refine W.cond rfl (fun aL=> ?_) (fun aL=> ?_)
  ·try simp only[nb,ak,aq,aa]at aL
   refine W.sd X [] [(32,⟨false,[.a (.lit (.int .i64 (eD c)))]⟩),(34,⟨false,[.a (.lit (.int .i64 (sS c.key r (eD c) n)))]⟩),(38,⟨true,[.a (.sl .u8 (vg c c.sent))]⟩)] [6,7,8] [] 14 MO (by kernel_rfl) rfl (by(repeat' with_reducible first|exact ah.nil|refine ah.mk ?_ ?_|apply And.intro);(iterate 3 all_goals try first|exact(gy c)|exact(lR c.key r (eD c) n)|exact(kI c c.sent (by first|assumption|omega| (simp;done)| (simp;omega)) (by first|assumption|omega| (simp;done)| (simp;omega))))) ?_
   refine W.ret ?_
   exact Fin.ret rfl ⟨by rw[gx,if_pos hk,if_pos aL],by rw[fY,if_pos hk,if_pos aL],by rw[hk],⟨⟩⟩
  ·try simp only[nb,ak,aq,aa]at aL
   refine W.skip ?_
   refine W.sd X [] [(43,⟨false,[.a (.lit (.int .i64 (sU c.seed r n)))]⟩),(48,⟨false,[.a (.lit (.int .i64 (kh c.seed [r])))]⟩),(49,⟨true,[.a (.sl .u8 (cover (kh c.seed [r])))]⟩)] [6,7,8] [] 14 MO (by kernel_rfl) rfl (by(repeat' with_reducible first|exact ah.nil|refine ah.mk ?_ ?_|apply And.intro);(iterate 3 all_goals try first|exact(nF c.seed r n)|exact(aS c.seed [r] (by first|assumption|omega| (simp;done)| (simp;omega)))|exact(mK (kh c.seed [r])));all_goals first|exact⟨rfl,bL _ (by decide)⟩) ?_
   refine W.ret ?_
   exact Fin.ret rfl ⟨by rw[gx,if_pos hk,if_neg (by omega)],by rw[fY,if_pos hk,if_neg (by omega)],by rw[hk],⟨⟩⟩
theorem eL(c:dL):Sound ty Tryz.prog 150 [.agg (bl c)] [.a (.lit (.int .i64 (eD c)))]:=by
 refine Sound.o X Tryz.call150 Tryz.func150 Tryz.ntmps150 rfl rfl ?_
 intro zb
 refine W.s0 X [1] rfl ⟨⟩ ?_
 refine W.seq ?_
 refine W.s0 X [7] rfl ⟨⟩ ?_
 refine W.cond rfl (fun hb0=> ?_) (fun hb0=> ?_)
 ·try simp only[nb,ak,aq,aa]at hb0
  refine W.s0 X [2] rfl ⟨⟩ ?_
  refine W.ret ?_
  exact Fin.ret rfl ⟨by rw[eD,if_pos hb0],⟨⟩⟩
 ·try simp only[nb,ak,aq,aa]at hb0
  refine W.skip ?_
  refine W.s0 X [2] rfl ⟨⟩ ?_
  refine W.ret ?_
  exact Fin.ret rfl ⟨by rw[eD,if_neg (by omega)],⟨⟩⟩
theorem qc(c:dL)(h0:0≤c.sent)(h1:c.sent<c.aj.length):Sound ty Tryz.prog 153 [.agg (bl c)] [.a (.sl .u8 (vg c c.sent))]:=by
 refine Sound.o X Tryz.call153 Tryz.func153 Tryz.ntmps153 rfl rfl ?_
 intro zb
 refine W.s0 X [1] rfl ⟨⟩ ?_
 refine W.sd X [] [(9,⟨false,[.a (.lit (.int .i64 (eD c)))]⟩),(10,⟨false,[.a (.lit (.int .i64 (pX c.key (eD c))))]⟩),(20,⟨true,[.a (.sl .u8 (lQ (pX c.key (eD c)) c.sent (⟨1,(c.aj.getD (c.sent).toNat (aK (.sl .u8)))⟩:Plain))), .a (.lit (.bool (dn (pX c.key (eD c)) c.sent (⟨1,(c.aj.getD (c.sent).toNat (aK (.sl .u8)))⟩:Plain))))]⟩)] [3] [] 20 MO (by kernel_rfl) rfl (by(repeat' with_reducible first|exact ah.nil|refine ah.mk ?_ ?_|apply And.intro);(iterate 3 all_goals try first|exact(eL c)|exact(jM c.key (eD c))|exact(nJ (pX c.key (eD c)) c.sent (⟨1,(c.aj.getD (c.sent).toNat (aK (.sl .u8)))⟩:Plain)));all_goals first| (intros;omega)) ?_
 refine W.s0 X [2] rfl ⟨⟩ ?_
 refine W.ret ?_
 exact Fin.ret rfl ⟨rfl,⟨⟩⟩
theorem kK(c:dL)(r n:Int):Sound ty Tryz.prog 217 [.agg (bl c), .a (.lit (.int .i64 r)), .a (.lit (.int .i64 n))] [.a (.lit (.int .i64 (gx c r n))), .a (.sl .u8 (fY c r n)), .a (.lit (.bool (jN c r n)))]:=by
 refine Sound.o X Tryz.call217 Tryz.func217 Tryz.ntmps217 rfl rfl ?_
 intro zb
 refine W.cH 0 4 rfl rfl (fun nR=> ?_)
 refine W.s0 X [1,2,3] rfl ⟨⟩ ?_
 refine W.seq ?_
 refine W.sr X [] [(10,⟨false,[.a (.lit (.bool (dO c)))]⟩),(14,⟨false,[.a (.lit (.bool (inr r 0 100000)))]⟩),(19,⟨false,[.a (.lit (.bool (inr n 1 64)))]⟩)] [1,2,3,21] [] rfl (by(repeat' with_reducible first|exact ah.nil|refine ah.mk ?_ ?_|apply And.intro);(iterate 3 all_goals try first|exact(cK c)|exact fun _=>(aH r 0 100000)|exact fun _=>(aH n 1 64))) ?_
 refine W.cond rfl (fun hb0=> ?_) (fun hb0=> ?_)
 ·have hk:jN c r n=false:=dr hb0 (by simp only[jN,bf]<;>first|rfl|ac_rfl)
  refine W.s0 X [6,7,8] rfl (by and_intros<;>first|exact⟨⟩|exact rfl) ?_
  refine W.ret ?_
  exact Fin.ret rfl ⟨by rw[gx,if_neg (by rw[hk];decide)],by rw[fY,if_neg (by rw[hk];decide)],by rw[hk],⟨⟩⟩
 ·have hk:jN c r n=true:=cU hb0 (by simp only[jN,bf]<;>first|rfl|ac_rfl)
  have hs:=rz hk
  refine W.skip ?_
  refine W.seq ?_
  refine W.s0 X [1,2,3,28] rfl ⟨⟩ ?_
  refine W.cond rfl (fun aL=> ?_) (fun aL=> ?_)
  ·try simp only[nb,ak,aq,aa]at aL
   refine W.sd X [] [(33,⟨false,[.a (.lit (.int .i64 (eD c)))]⟩),(35,⟨false,[.a (.lit (.int .i64 (sS c.key r (eD c) n)))]⟩),(37,⟨true,[.a (.sl .u8 (vg c c.sent))]⟩)] [6,7,8] [] 12 MO (by kernel_rfl) rfl (by(repeat' with_reducible first|exact ah.nil|refine ah.mk ?_ ?_|apply And.intro);(iterate 3 all_goals try first|exact(eL c)|exact(lS c.key r (eD c) n)|exact(qc c (by first|assumption|omega| (simp;done)| (simp;omega)) (by first|assumption|omega| (simp;done)| (simp;omega))))) ?_
   refine W.ret ?_
   exact Fin.ret rfl ⟨by rw[gx,if_pos hk,if_pos aL],by rw[fY,if_pos hk,if_pos aL],by rw[hk],⟨⟩⟩
  ·try simp only[nb,ak,aq,aa]at aL
   refine W.skip ?_
   refine W.sd X [] [(42,⟨false,[.a (.lit (.int .i64 (sU c.seed r n)))]⟩),(47,⟨false,[.a (.lit (.int .i64 (kh c.seed [r])))]⟩),(48,⟨true,[.a (.sl .u8 (cover (kh c.seed [r])))]⟩)] [6,7,8] [] 14 MO (by kernel_rfl) rfl (by(repeat' with_reducible first|exact ah.nil|refine ah.mk ?_ ?_|apply And.intro);(iterate 3 all_goals try first|exact(nG c.seed r n)|exact(aT c.seed [r] (by first|assumption|omega| (simp;done)| (simp;omega)))|exact(mM (kh c.seed [r])));all_goals first|exact⟨rfl,bL _ (by decide)⟩) ?_
   refine W.ret ?_
   exact Fin.ret rfl ⟨by rw[gx,if_pos hk,if_neg (by omega)],by rw[fY,if_pos hk,if_neg (by omega)],by rw[hk],⟨⟩⟩
end
section
set_option maxRecDepth 100000
theorem hU(c:dL):Sound ty Tryz.prog 168 [.agg (bl c)] [.a (.lit (.int .i64 (waiting c)))]:=by
 refine Sound.of X3 Tryz.call168 Tryz.func168 rfl rfl (by decide) Tryz.ntmps168 (by simp) ?_
 intro zb
 refine W.seq ?_
 refine W.cV X3 [] [] [1] [] rfl ⟨⟩ ?_
 refine W.seq ?_
 refine W.cV X3 [] [] [2] [] rfl ⟨⟩ ?_
 refine W.ret ?_
 exact Fin.ret rfl ⟨rfl,⟨⟩⟩
theorem hY(c:dL):Sound ty Tryz.prog 218 [.agg (bl c)] [.a (.lit (.int .i64 (waiting c)))]:=by
 refine Sound.of X3 Tryz.call218 Tryz.func218 rfl rfl (by decide) Tryz.ntmps218 (by simp) ?_
 intro zb
 refine W.seq ?_
 refine W.cV X3 [] [] [1] [] rfl ⟨⟩ ?_
 refine W.seq ?_
 refine W.cV X3 [] [] [2] [] rfl ⟨⟩ ?_
 refine W.ret ?_
 exact Fin.ret rfl ⟨rfl,⟨⟩⟩
theorem jj(x:cX):Sound ty Tryz.prog 90 [.agg (bM x)] [.a (.lit (.int .i64 (coll x)))]:=by
 refine Sound.of X3 Tryz.call90 Tryz.func90 rfl rfl (by decide) Tryz.ntmps90 (by simp) ?_
 intro zb
 refine W.cH 0 2 rfl rfl (fun fP=> ?_)
 have hrl:=mS x
 refine W.seq ?_
 refine W.cV X3 [] [] [1] [] rfl ⟨⟩ ?_
 refine W.seq ?_
 refine W.seq ?_
 refine W.cV X3 [] [(14,⟨false,[.a (.lit (.bool (okW x)))]⟩)] [1,15] [] rfl (by(repeat' with_reducible first|exact ah.nil|refine ah.mk ?_ ?_|apply And.intro)<;>first|exact(jO x)) ?_
 refine W.cond rfl (fun hb0=> ?_) (fun hb0=> ?_)
 ·have hok:okW x=false:=by simpa using hb0
  refine W.seq ?_
  refine W.cV X3 [] [] [2] [] rfl ⟨⟩ ?_
  refine W.ret ?_
  exact Fin.ret rfl ⟨by rw[coll,hok];rfl,⟨⟩⟩
 ·have hok:okW x=true:=by simpa using hb0
  have Ko:=(sW (B1 hok)).2.1
  refine W.skip ?_
  refine W.seq ?_
  refine W.cV X3 [] [] [1,3] [] rfl ⟨⟩ ?_
  refine W.seq ?_
  refine W.cV X3 [] [] [1,3,4] [] rfl (by and_intros<;>first|exact⟨⟩|exact rfl) ?_
  refine W.seq ?_
  refine W.seq ?_
  refine W.cV X3 [] [] [1,3,4,19,20,21] [] rfl ⟨⟩ ?_
  refine W.block ?_
  refine W.aV (fun k=>k≤x.af.length) (fun k:Nat=> [(21, .one (.a (.lit (.int .i64 k))))]) (fun k=> [(16, .dh .int (zo ((cw x).take k)) .mp),(17, .arr .int ((cw x).take k))]) (fun k=>x.af.length-k) 0 (fun k=>rfl) (Nat.zero_le _) rfl ?_
  intro k hk
  have hle:=iX (cw x) k
  refine W.seq ?_
  refine W.cV X3 [] [] [1,3,4,19,20,21,22] [] rfl ⟨⟩ ?_
  refine W.seq ?_
  refine W.cond rfl (fun aL=> ?_) (fun aL=> ?_)
  ·try simp only[nb,ak,aq,aa]at aL
   have hs:=qd (x:=x) (k:=k) (by omega)
   have B8:=rB (cw x) k (by omega)
   rw[rC (by omega)]at B8
   refine W.skip ?_
   refine W.seq ?_
   refine W.block ?_
   refine W.seq ?_
   refine W.cV X3 [] [] [1,3,4,6,19,20,21] [] rfl (by and_intros<;>first|exact⟨⟩| (intros;omega)) ?_
   refine W.seq ?_
   refine W.cV X3 [] [(32,⟨true,[.a (.lit (.int .i64 (gx ((x.af.getD k (aK .bH)).live) x.round x.rows))), .a (.sl .u8 (fY ((x.af.getD k (aK .bH)).live) x.round x.rows)), .a (.lit (.bool (jN ((x.af.getD k (aK .bH)).live) x.round x.rows)))]⟩)] [1,3,4,7,19,20,21] [] rfl (by(repeat' with_reducible first|exact ah.nil|refine ah.mk ?_ ?_|apply And.intro)<;>first|exact(kJ ((x.af.getD k (aK .bH)).live) x.round x.rows)) ?_
   refine W.seq ?_
   refine W.cV X3 [(39,17)] [] [1,3,4,7,19,20,21] [] rfl (by and_intros<;>first|exact⟨⟩|exact rfl| (simp only[iA,maxLen,lens];omega)) ?_
   refine W.cV X3 [] [] [1,3,4,19,20,21] [] rfl ⟨⟩ ?_
   refine W.cV X3 [] [] [1,3,4,19,20,21] [] rfl ⟨⟩ ?_
   refine⟨k+1,by omega,by omega,?_⟩
   rw[bw _ k rfl (by omega),B8,hs]
   try rfl
  ·try simp only[nb,ak,aq,aa]at aL
   have Iq:(cw x).take k=(cw x):=List.take_of_length_le (by omega)
   refine W.exit ?_
   refine W.seq ?_
   rw[Iq]
   refine W.cV X3 [] [] [1,3,4,10] [] rfl ⟨⟩ ?_
   refine W.seq ?_
   refine W.seq ?_
   refine W.cV X3 [] [] [3,4,10,46,47,48] [] rfl ⟨⟩ ?_
   refine W.block ?_
   refine W.aV (fun k1=>k1≤x.af.length) (fun k1:Nat=> [(10, .one (.a (.lit (.int .i64 ((mT x k1:Nat):Int))))),(48, .one (.a (.lit (.int .i64 k1))))]) (fun k1=> []) (fun k1=>x.af.length-k1) 0 (fun k1=>rfl) (Nat.zero_le _) rfl ?_
   intro k1 hk1
   have tL:=yh x k1
   refine W.seq ?_
   refine W.cV X3 [] [] [3,4,10,46,47,48,49] [] rfl ⟨⟩ ?_
   refine W.seq ?_
   refine W.cond rfl (fun aU=> ?_) (fun aU=> ?_)
   ·try simp only[nb,ak,aq,aa]at aU
    have hh:=Fx (l:=(cw x)) (i:=k1) (by omega) (by omega)
    refine W.skip ?_
    refine W.seq ?_
    refine W.block ?_
    refine W.seq ?_
    refine W.cV X3 [] [] [3,4,10,11,12,46,47,48] [] rfl (by and_intros<;>first|exact⟨⟩| (intros;omega)) ?_
    refine W.seq ?_
    refine W.cV X3 [] [(55,⟨false,[.a (.lit (.int .i64 (waiting ((x.af.getD k1 (aK .bH)).live))))]⟩)] [3,4,10,46,47,48,65] [] rfl (by(repeat' with_reducible first|exact ah.nil|refine ah.mk ?_ ?_|apply And.intro)<;>first|exact(hU ((x.af.getD k1 (aK .bH)).live))| ((intro h1;first| (intro h2;first| (intro h3;refine And.intro ?_ ?_)|refine And.intro ?_ ?_)|refine And.intro ?_ ?_)<;>first|omega| ((try simp only[nb,ak,aq]at*);(try simp(disch:=omega) only[cQ]);omega))| (refine fun _=> ?_;dsimp only[hyps,yA];omega)) ?_
    refine W.cond rfl (fun kA=> ?_) (fun kA=> ?_)
    ·have hc:qg x k1=true:=by unfold qg;rw[←hh];simpa using kA
     have hs:=vh hc
     refine W.cV X3 [] [] [3,4,10,46,47,48] [] rfl ⟨⟩ ?_
     refine W.cV X3 [] [] [3,4,10,46,47,48] [] rfl ⟨⟩ ?_
     refine⟨k1+1,by omega,by omega,?_⟩
     rw[bw _ k1 rfl (by omega),bw _ (mT x k1) rfl (by omega),hs]
     try rfl
    ·have hc:qg x k1=false:=by unfold qg;rw[←hh];simpa using kA
     have hs:=rD hc
     refine W.skip ?_
     refine W.cV X3 [] [] [3,4,10,46,47,48] [] rfl ⟨⟩ ?_
     refine⟨k1+1,by omega,by omega,?_⟩
     rw[bw _ k1 rfl (by omega),hs]
     try rfl
   ·try simp only[nb,ak,aq,aa]at aU
    refine W.exit ?_
    refine W.seq ?_
    refine W.cV X3 [] [] [2] [] rfl ⟨⟩ ?_
    refine W.ret ?_
    exact Fin.ret rfl ⟨by rw[coll,if_pos hok,show x.af.length=k1 by omega],⟨⟩⟩
theorem jk(x:cX):Sound ty Tryz.prog 89 [.agg (bM x)] [.a (.lit (.int .i64 (coll x)))]:=by
 refine Sound.of X3 Tryz.call89 Tryz.func89 rfl rfl (by decide) Tryz.ntmps89 (by simp) ?_
 intro zb
 refine W.cH 0 2 rfl rfl (fun fP=> ?_)
 have hrl:=mS x
 refine W.seq ?_
 refine W.cV X3 [] [] [1] [] rfl ⟨⟩ ?_
 refine W.seq ?_
 refine W.cV X3 [] [] [1,3] [] rfl ⟨⟩ ?_
 refine W.seq ?_
 refine W.seq ?_
 refine W.cV X3 [] [(13,⟨false,[.a (.lit (.bool (okW x)))]⟩)] [1,3,14] [] rfl (by(repeat' with_reducible first|exact ah.nil|refine ah.mk ?_ ?_|apply And.intro)<;>first|exact(jP x)) ?_
 refine W.cond rfl (fun hb0=> ?_) (fun hb0=> ?_)
 ·have hok:okW x=false:=by simpa using hb0
  refine W.seq ?_
  refine W.cV X3 [] [] [2] [] rfl ⟨⟩ ?_
  refine W.ret ?_
  exact Fin.ret rfl ⟨by rw[coll,hok];rfl,⟨⟩⟩
 ·have hok:okW x=true:=by simpa using hb0
  have Ko:=(sW (B1 hok)).2.1
  refine W.skip ?_
  refine W.seq ?_
  refine W.cV X3 [] [] [1,3,4] [] rfl (by and_intros<;>first|exact⟨⟩|exact rfl) ?_
  refine W.seq ?_
  refine W.seq ?_
  refine W.cV X3 [] [] [1,3,4,5] [] rfl ⟨⟩ ?_
  refine W.block ?_
  refine W.aV (fun k=>k≤x.af.length) (fun k:Nat=> [(5, .one (.a (.lit (.int .i64 k))))]) (fun k=> [(15, .arr .int ((cw x).take k))]) (fun k=>x.af.length-k) 0 (fun k=>rfl) (Nat.zero_le _) rfl ?_
  intro k hk
  have hle:=iX (cw x) k
  refine W.seq ?_
  refine W.seq ?_
  refine W.cV X3 [] [] [1,3,4,5,20] [] rfl ⟨⟩ ?_
  refine W.cond rfl (fun aL=> ?_) (fun aL=> ?_)
  ·try simp only[nb,ak,aq,aa]at aL
   have hs:=qd (x:=x) (k:=k) (by omega)
   refine W.skip ?_
   refine W.seq ?_
   refine W.block ?_
   refine W.seq ?_
   refine W.draw X3 [] [(34,⟨true,[.a (.lit (.int .i64 (gx ((x.af.getD k (aK .bH)).live) x.round x.rows))), .a (.sl .u8 (fY ((x.af.getD k (aK .bH)).live) x.round x.rows)), .a (.lit (.bool (jN ((x.af.getD k (aK .bH)).live) x.round x.rows)))]⟩)] [1,3,4,5,6] [] 18 MO (by kernel_rfl) rfl (by(repeat' with_reducible first|exact ah.nil|refine ah.mk ?_ ?_|apply And.intro)<;>first|exact(kK ((x.af.getD k (aK .bH)).live) x.round x.rows)| (intros;omega)) ?_
   refine W.cV X3 [(41,15)] [] [1,3,4,5] [] rfl (by and_intros<;>first|exact⟨⟩|exact rfl| (simp only[iA,maxLen,lens];omega)) ?_
   refine W.cV X3 [] [] [1,3,4,5] [] rfl ⟨⟩ ?_
   refine⟨k+1,by omega,by omega,?_⟩
   rw[bw _ k rfl (by omega),hs]
   try rfl
  ·try simp only[nb,ak,aq,aa]at aL
   have Iq:(cw x).take k=(cw x):=List.take_of_length_le (by omega)
   refine W.exit ?_
   refine W.seq ?_
   refine W.seq ?_
   rw[Iq]
   refine W.cV X3 [] [] [1,3,4,9] [] rfl ⟨⟩ ?_
   refine W.block ?_
   refine W.aV (fun k1=>k1≤(cw x).length) (fun k1:Nat=> [(3, .one (.a (.lit (.int .i64 ((mT x k1:Nat):Int))))),(9, .one (.a (.lit (.int .i64 k1))))]) (fun k1=> []) (fun k1=>(cw x).length-k1) 0 (fun k1=>rfl) (Nat.zero_le _) rfl ?_
   intro k1 hk1
   have tL:=yh x k1
   refine W.seq ?_
   refine W.seq ?_
   refine W.cV X3 [] [] [1,3,4,9,45] [] rfl ⟨⟩ ?_
   refine W.cond rfl (fun aU=> ?_) (fun aU=> ?_)
   ·try simp only[nb,ak,aq,aa]at aU
    refine W.skip ?_
    refine W.seq ?_
    refine W.block ?_
    refine W.seq ?_
    refine W.cV X3 [] [] [1,3,4,9,10] [] rfl ⟨⟩ ?_
    refine W.seq ?_
    refine W.seq ?_
    refine W.cV X3 [] [] [1,3,4,9,10,11] [] rfl ⟨⟩ ?_
    refine W.block ?_
    refine W.aV (fun k2=>k2≤(cw x).length) (fun k2:Nat=> [(10, .one (.a (.lit (.bool (sX (cw x) k1 k2))))),(11, .one (.a (.lit (.int .i64 k2))))]) (fun k2=> []) (fun k2=>(cw x).length-k2) 0 (fun k2=>rfl) (Nat.zero_le _) rfl ?_
    intro k2 hk2
    refine W.seq ?_
    refine W.seq ?_
    refine W.cV X3 [] [] [1,3,4,9,10,11,51] [] rfl ⟨⟩ ?_
    refine W.cond rfl (fun kA=> ?_) (fun kA=> ?_)
    ·try simp only[nb,ak,aq,aa]at kA
     have hs:=wW (cw x) k1 k2
     refine W.skip ?_
     refine W.seq ?_
     refine W.block ?_
     refine W.draw X3 [] [] [1,3,4,9,10,11] [] 18 MO (by kernel_rfl) rfl (by and_intros<;>first|exact⟨⟩| ((intro h1;first| (intro h2;first| (intro h3;refine And.intro ?_ ?_)|refine And.intro ?_ ?_)|refine And.intro ?_ ?_)<;>first|omega| ((try simp only[nb,ak,aq]at*);(try simp(disch:=omega) only[cQ]);omega))| (refine fun _ _=> ?_;dsimp only[hyps,yA];omega)) ?_
     refine W.cV X3 [] [] [1,3,4,9,10,11] [] rfl ⟨⟩ ?_
     refine⟨k2+1,by omega,by omega,?_⟩
     rw[bw _ k2 rfl (by omega),hs]
     try rfl
    ·try simp only[nb,ak,aq,aa]at kA
     have Ir:k2=(cw x).length:=by omega
     refine W.exit ?_
     refine W.seq ?_
     subst Ir
     refine W.cV X3 [] [(79,⟨false,[.a (.lit (.int .i64 (waiting ((x.af.getD k1 (aK .bH)).live))))]⟩)] [1,3,4,9,81] [] rfl (by(repeat' with_reducible first|exact ah.nil|refine ah.mk ?_ ?_|apply And.intro)<;>first|exact fun _=>(hY ((x.af.getD k1 (aK .bH)).live))| ((intro h1;first| (intro h2;first| (intro h3;refine And.intro ?_ ?_)|refine And.intro ?_ ?_)|refine And.intro ?_ ?_)<;>first|omega| ((try simp only[nb,ak,aq]at*);(try simp(disch:=omega) only[cQ]);omega))) ?_
     refine W.cond rfl (fun sM=> ?_) (fun sM=> ?_)
     ·have hc:qg x k1=true:=by unfold qg;simpa[and_comm]using sM
      have hs:=vh hc
      refine W.cV X3 [] [] [1,3,4,9] [] rfl ⟨⟩ ?_
      refine W.cV X3 [] [] [1,3,4,9] [] rfl ⟨⟩ ?_
      refine⟨k1+1,by omega,by omega,?_⟩
      rw[bw _ k1 rfl (by omega),bw _ (mT x k1) rfl (by omega),hs]
      try rfl
     ·have hc:qg x k1=false:=DF sM rfl
      have hs:=rD hc
      refine W.skip ?_
      refine W.cV X3 [] [] [1,3,4,9] [] rfl ⟨⟩ ?_
      refine⟨k1+1,by omega,by omega,?_⟩
      rw[bw _ k1 rfl (by omega),hs]
      try rfl
   ·try simp only[nb,ak,aq,aa]at aU
    refine W.exit ?_
    refine W.seq ?_
    refine W.cV X3 [] [] [2] [] rfl ⟨⟩ ?_
    refine W.ret ?_
    exact Fin.ret rfl ⟨by rw[coll,if_pos hok,show x.af.length=k1 by omega],⟨⟩⟩
end
section
set_option maxRecDepth 100000
theorem ia(x0:cX)(Kp:(vE) x0):Sound ty Tryz.prog 12 [.agg (bM x0)] [.a (.lit (.bool true))]:=by
 refine Sound.o X Tryz.call12 Tryz.func12 Tryz.ntmps12 rfl rfl ?_
 intro zb
 refine W.s0 X [1] rfl ⟨⟩ ?_
 refine W.s0 X [1,3] rfl ⟨⟩ ?_
 refine W.sr X [] [(9,⟨false,[.a (.lit (.int .i64 (szr (1048576) (bq x0))))]⟩)] [1,3] [] rfl ⟨zf x0 (1048576) (by omega) (by omega),⟨⟩⟩ ?_
 refine W.seq ?_
 refine W.s0 X [1,11] rfl ⟨⟩ ?_
 refine W.cond rfl (fun hb0=> ?_) (fun hb0=> ?_)
 ·try simp only[nb]at hb0
  refine W.s0 X [2] rfl ⟨⟩ ?_
  refine W.ret ?_
  exact Fin.ret rfl ⟨rfl,⟨⟩⟩
 ·try simp only[nb]at hb0
  obtain⟨e0,D3⟩:=bE hb0
  rw[e0]
  have hsz:bq x0≤1048576:=by omega
  have Cd:=wM x0
  have Kq:=Fm hsz
  have Kr:=Fo hsz
  refine W.skip ?_
  refine W.sr X [(13,225)] [(13,⟨true,[.agg (bM x0)]⟩),(14,⟨false,[.a (.lit (.int .i64 (coll x0)))]⟩)] [1,4] [] rfl ⟨jk x0,mG x0 (by omega),⟨⟩⟩ ?_
  refine W.sr X [(16,275)] [(16,⟨true,[.agg (bM x0)]⟩)] [1,4,5] [] rfl ⟨mG x0 (by omega),⟨⟩⟩ ?_
  refine W.sr X [] [(18,⟨false,[.a (.lit (.int .i64 (coll x0)))]⟩)] [1,4,5,6] [] rfl ⟨jj x0,⟨⟩⟩ ?_
  refine W.seq ?_
  refine W.s0 X [1,5,21] rfl ⟨⟩ ?_
  refine W.cond rfl (fun aL=> ?_) (fun aL=> ?_)
  ·exact absurd aL (by first| (simp;done)| (simp;omega))
  ·clear aL
   refine W.skip ?_
   refine W.seq ?_
   refine W.sd X [(24,325)] [(24,⟨true,[.agg (bM x0)]⟩),(25,⟨false,[.a (.lit (.bool true))]⟩)] [26] [] 5 MO (by kernel_rfl) rfl ⟨zi x0,mG x0 (by omega),⟨⟩⟩ ?_
   refine W.cond rfl (fun aU=> ?_) (fun aU=> ?_)
   ·exact absurd aU (by first| (simp;done)| (simp;omega))
   ·clear aU
    refine W.skip ?_
    refine W.s0 X [2] rfl ⟨⟩ ?_
    refine W.ret ?_
    exact Fin.ret rfl ⟨rfl,⟨⟩⟩
end
end Go.Proofs.YteodajeiagmekaaGreat.G
