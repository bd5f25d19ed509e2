/-
  Valid worlds; cells that clients write.
-/
import Derived.Lib.AppendZeros
import Derived.Test.YteodajeiagmekaaGreatM11
namespace Go.Proofs.YteodajeiagmekaaGreat.G
set_option linter.all false
open Go.RowKit L D
section
set_option maxRecDepth 100000
theorem JE{w w':World}{t:Tag}{g n:Nat}{c:Array Value}(hg:g=w.heap.size)(hb:Below w.heap.size w w')(hc:w'.heap[g]? =some (.cells c (ty t) (0,0)))(hs:c.size=n*kk t)(hn:n≤maxLen):
  Ret ty w [.a (.sl t [])] (.returned (.slice (some ⟨g,0,none⟩) 0 n)) w':=by
 have hown:Own w.heap.size w' (g::([]:List (List Nat)).flatten):=⟨by simp,fun b Ga=>by simp at Ga;omega,fun b Ga=>by simp at Ga;subst Ga;exact⟨_,_,hc⟩⟩
 have hp:Part (kk t) (rd t) w.heap.size (ty t) w' g n ([]:List (T t)) []:=⟨⟨c,hc,hs⟩,⟨rfl,by simp⟩,hown,hn⟩
 have hB:=Part.Nk (eK t) hp (Nat.zero_le _)
 exact⟨_,_,rfl,hb,hown,_,[],hB,rfl,by simp⟩
theorem NU{w:World}{t:Tag}:Ret ty w [.a (.sl t [])] (.returned Dv) w:=by
 refine⟨_,[],rfl,Below.refl _ _,Own.nil _ _,[],[],⟨[],[],?_,rfl,by simp,rfl,Own.nil _ _⟩,rfl,rfl⟩
 exact⟨by simp,Or.inl ⟨rfl,rfl⟩⟩
theorem SK(w:World)(n:Nat)(h1:n≤1099511627776):Calls Tryz.prog 339 #[Dv, .int .i64 n] w (Ret ty w [.a (.sl .int [])]):=by
 have sH:El Tryz.prog ty .int:=bA _ (by decide)
 cases hq:Tryz.prog.info? (ty .int)with
 |none=>simp[El,hq]at sH
 |some inf=>
  simp[El,hq]at sH
  obtain⟨z1,z2,z3⟩:=sH
  by_cases h0:n=0
  ·subst h0
   go_enter Tryz.func339,Tryz.ntmps339
   go_wp2
   go_ret
   exact NU
  ·have hsz:inf.size=1:=z2
   have hby:inf.bytes≤8:=by rw[z3];decide
   have hmul:n*inf.bytes≤8796093022208:=Nat.le_trans (Nat.mul_le_mul (show n≤1099511627776 from h1) hby) (by decide)
   have hrun:=Lib.run_append_nil_zeros (P:=Tryz.prog) w 29 3 29 (ty .int) inf (eZ .int) .i64 .i64 (X.kind 29).1 (X.kind 3) hq z1 n (by omega) (by omega) (by omega) (by omega)
   have hge:=grownCap_ge w n 0 (ty .int)
   have Lo:=grownCap_le_maxLen w n 0 (ty .int) (by unfold maxLen;omega)
   generalize grownCap w n 0 (ty .int)=g at hrun hge Lo
   go_enter Tryz.func339,Tryz.ntmps339
   go_wp2_with (at_builtin;refine Lib.wpList_append_run _ rfl _ _ _ _ rfl _ _ rfl rfl _ _ hrun ?_)
   go_ret
   refine JE (t:= .int) rfl ((Below.refl _ _).drew.alloc (Nat.le_refl _) _) (nB rfl) ?_ Lo
   rw[Array.size_append,size_zeroCells,size_zeroCells, ←Nat.add_mul,show n+(g-n)=g by omega]
   rfl
theorem sV(n:Nat)(h1:n≤1099511627776):Sound ty Tryz.prog 339 [.a (.lit Dv), .a (.lit (.int .i64 n))] [.a (.sl .int [])]:=by
 refine⟨fun args w=>Tryz.call339 args w,fun w us _ ha=> ?_⟩
 match us,ha with
 | [u1,u2],⟨⟨_,e1⟩,⟨_,e2⟩,_⟩=>
   obtain⟨e1,_⟩:=e1
   obtain⟨e2,_⟩:=e2
   rw[e1,e2]
   exact SK w n h1
end
section
set_option maxRecDepth 100000
theorem aC(x lo hi:Int):Sound ty Tryz.prog 112 [.a (.lit (.int .i64 x)), .a (.lit (.int .i64 lo)), .a (.lit (.int .i64 hi))] [.a (.lit (.bool (inr x lo hi)))]:=by
 refine Sound.o X Tryz.call112 Tryz.func112 Tryz.ntmps112 rfl rfl ?_
 intro zb
 refine W.s0 X [0,1,2] rfl ⟨⟩ ?_
 refine W.s0 X [6] rfl ⟨⟩ ?_
 refine W.ret ?_
 exact Fin.ret rfl ⟨rfl,⟨⟩⟩
theorem aK(x lo hi:Int):Sound ty Tryz.prog 142 [.a (.lit (.int .i64 x)), .a (.lit (.int .i64 lo)), .a (.lit (.int .i64 hi))] [.a (.lit (.bool (inr x lo hi)))]:=by
 refine Sound.o X Tryz.call142 Tryz.func142 Tryz.ntmps142 rfl rfl ?_
 intro zb
 refine W.s0 X [0,1,2] rfl ⟨⟩ ?_
 refine W.s0 X [6] rfl ⟨⟩ ?_
 refine W.ret ?_
 exact Fin.ret rfl ⟨rfl,⟨⟩⟩
theorem Mi(p q:Int)(h1:1≤q)(h2:q≤1000000000000):Sound ty Tryz.prog 338 [.a (.lit (.int .i64 p)), .a (.lit (.int .i64 q))] [.a (.lit (.int .i64 (p % q)))]:=by
 refine Sound.o X Tryz.call338 Tryz.func338 Tryz.ntmps338 rfl rfl ?_
 intro zb
 refine W.s0 X [0,1] rfl ⟨⟩ ?_
 refine W.seq ?_
 refine W.sr X [] [(6,⟨false,[.a (.lit (.bool _))]⟩)] [0,1,7] [] rfl (by(repeat' with_reducible first|exact aj.nil|refine aj.mk ?_ ?_|apply And.intro)<;>first|exact(aC _ _ _)) ?_
 refine W.cond rfl (fun hb0=> ?_) (fun hb0=> ?_)
 ·try simp only[nb,an,aq,aa]at hb0
  omega
 ·try simp only[nb,an,aq,aa]at hb0
  refine W.skip ?_
  refine W.s0 X [4] rfl (by and_intros<;>first|exact⟨⟩| (intros;omega)) ?_
  refine W.ret ?_
  exact Fin.ret rfl ⟨by rw[md_eq p q h1 h2],⟨⟩⟩
theorem ug(l:List Int)(hl:l.length≤16777216):Sound ty Tryz.prog 248 [.a (.sl .int l)] [.a (.lit (.int .i64 (hsh l)))]:=by
 refine Sound.o X Tryz.call248 Tryz.func248 Tryz.ntmps248 rfl rfl ?_
 intro zb
 refine W.s0 X [0] rfl ⟨⟩ ?_
 refine W.s0 X [0,3] rfl ⟨⟩ ?_
 refine W.seq ?_
 refine W.s0 X [3,6,7,8] rfl ⟨⟩ ?_
 refine W.block ?_
 refine W.aE (fun k=>k≤l.length) (fun k:Nat=> [(3, .one (.a (.lit (.int .i64 (hsh (l.take k)))))),(8, .one (.a (.lit (.int .i64 k))))]) (fun k=> []) (fun k=>l.length-k) 0 (fun k=>rfl) (Nat.zero_le _) rfl ?_
 intro k hk
 refine W.s0 X [3,6,7,8,9] rfl ⟨⟩ ?_
 refine W.seq ?_
 refine W.cond rfl (fun hb0=> ?_) (fun hb0=> ?_)
 ·try simp only[nb,an,aq,aa]at hb0
  have hs:=JC l k hb0
  refine W.skip ?_
  refine W.seq ?_
  refine W.block ?_
  refine W.s0 X [3,5,6,7,8] rfl (by and_intros<;>first|exact⟨⟩| (intros;omega)) ?_
  refine W.cD X [] [(15,⟨false,[.a (.lit (.int .i64 _))]⟩)] [3,6,7,8] [] rfl (by(repeat' with_reducible first|exact aj.nil|refine aj.mk ?_ ?_|apply And.intro)<;>first|exact(Mi _ _ (by first|assumption|omega| (simp;done)| (simp;omega)) (by first|assumption|omega| (simp;done)| (simp;omega)))| (intros;omega)) ?_
  refine W.r0 X [3,6,7,8] rfl ⟨⟩ ?_
  refine⟨k+1,by omega,by omega,?_⟩
  rw[aR _ k rfl (by omega),hs]
  try rfl
 ·try simp only[nb,an,aq,aa]at hb0
  refine W.exit ?_
  refine W.s0 X [2] rfl ⟨⟩ ?_
  refine W.ret ?_
  exact Fin.ret rfl ⟨by rw[List.take_of_length_le hb0],⟨⟩⟩
theorem Eg(p q:Int)(h1:1≤q)(h2:q≤1000000000000):Sound ty Tryz.prog 335 [.a (.lit (.int .i64 p)), .a (.lit (.int .i64 q))] [.a (.lit (.int .i64 (p % q)))]:=by
 refine Sound.o X Tryz.call335 Tryz.func335 Tryz.ntmps335 rfl rfl ?_
 intro zb
 refine W.s0 X [0,1] rfl ⟨⟩ ?_
 refine W.seq ?_
 refine W.sr X [] [(6,⟨false,[.a (.lit (.bool _))]⟩)] [0,1,7] [] rfl (by(repeat' with_reducible first|exact aj.nil|refine aj.mk ?_ ?_|apply And.intro)<;>first|exact(aK _ _ _)) ?_
 refine W.cond rfl (fun hb0=> ?_) (fun hb0=> ?_)
 ·try simp only[nb,an,aq,aa]at hb0
  omega
 ·try simp only[nb,an,aq,aa]at hb0
  refine W.skip ?_
  refine W.s0 X [4] rfl (by and_intros<;>first|exact⟨⟩| (intros;omega)) ?_
  refine W.ret ?_
  exact Fin.ret rfl ⟨by rw[md_eq p q h1 h2],⟨⟩⟩
theorem uh(l:List Int)(hl:l.length≤16777216):Sound ty Tryz.prog 238 [.a (.sl .int l)] [.a (.lit (.int .i64 (hsh l)))]:=by
 refine Sound.o X Tryz.call238 Tryz.func238 Tryz.ntmps238 rfl rfl ?_
 intro zb
 refine W.s0 X [0] rfl ⟨⟩ ?_
 refine W.s0 X [0,3] rfl ⟨⟩ ?_
 refine W.seq ?_
 refine W.s0 X [0,3,4] rfl ⟨⟩ ?_
 refine W.block ?_
 refine W.aE (fun k=>k≤l.length) (fun k:Nat=> [(3, .one (.a (.lit (.int .i64 (hsh (l.take k)))))),(4, .one (.a (.lit (.int .i64 k))))]) (fun k=> []) (fun k=>l.length-k) 0 (fun k=>rfl) (Nat.zero_le _) rfl ?_
 intro k hk
 refine W.seq ?_
 refine W.s0 X [0,3,4,8] rfl ⟨⟩ ?_
 refine W.cond rfl (fun hb0=> ?_) (fun hb0=> ?_)
 ·try simp only[nb,an,aq,aa]at hb0
  have hs:=JC l k hb0
  refine W.skip ?_
  refine W.seq ?_
  refine W.block ?_
  refine W.cD X [] [(17,⟨false,[.a (.lit (.int .i64 _))]⟩)] [0,3,4] [] rfl (by(repeat' with_reducible first|exact aj.nil|refine aj.mk ?_ ?_|apply And.intro)<;>first|exact(Eg _ _ (by first|assumption|omega| (simp;done)| (simp;omega)) (by first|assumption|omega| (simp;done)| (simp;omega)))| (intros;omega)) ?_
  refine W.r0 X [0,3,4] rfl ⟨⟩ ?_
  refine⟨k+1,by omega,by omega,?_⟩
  rw[aR _ k rfl (by omega),hs]
  try rfl
 ·try simp only[nb,an,aq,aa]at hb0
  refine W.exit ?_
  refine W.s0 X [2] rfl ⟨⟩ ?_
  refine W.ret ?_
  exact Fin.ret rfl ⟨by rw[List.take_of_length_le hb0],⟨⟩⟩
theorem jU(l:List (List Int))(hl:l.length≤1048576)(hs0:(l.map List.length).sum≤1099511627776):Sound ty Tryz.prog 249 [.a (.sl (.sl .int) l)] [.a (.sl .int l.flatten)]:=by
 refine Sound.o X Tryz.call249 Tryz.func249 Tryz.ntmps249 rfl rfl ?_
 intro zb
 refine W.s0 X [0] rfl ⟨⟩ ?_
 refine W.s0 X [0,3] rfl ⟨⟩ ?_
 refine W.seq ?_
 refine W.s0 X [0,3,9,10,11] rfl ⟨⟩ ?_
 refine W.block ?_
 refine W.aE (fun k=>k≤l.length) (fun k:Nat=> [(3, .one (.a (.lit (.int .i64 ((l.take k).map List.length).sum)))),(11, .one (.a (.lit (.int .i64 k))))]) (fun k=> []) (fun k=>l.length-k) 0 (fun k=>rfl) (Nat.zero_le _) rfl ?_
 intro k hk
 have hle:=dx l List.length k
 refine W.s0 X [0,3,9,10,11,12] rfl ⟨⟩ ?_
 refine W.seq ?_
 refine W.cond rfl (fun hb0=> ?_) (fun hb0=> ?_)
 ·try simp only[nb,an,aq,aa]at hb0
  have hs:=BC l (au (.sl .int)) k hb0
  have JH:=dx l List.length (k+1)
  rw[hs]at JH
  refine W.skip ?_
  refine W.seq ?_
  refine W.block ?_
  refine W.s0 X [0,3,5,9,10,11] rfl (by and_intros<;>first|exact⟨⟩| (intros;omega)) ?_
  refine W.s0 X [0,3,9,10,11] rfl (by and_intros<;>exact⟨⟩) ?_
  refine W.s0 X [0,3,9,10,11,20] rfl ⟨⟩ ?_
  refine W.cond rfl (fun aB=> ?_) (fun aB=> ?_)
  ·try simp only[nb,an,aq,aa]at aB
   rw[bl (by omega)]at aB
   omega
  ·try simp only[nb,an,aq,aa]at aB
   refine W.skip ?_
   refine W.r0 X [0,3,9,10,11] rfl ⟨⟩ ?_
   refine⟨k+1,by omega,by omega,?_⟩
   rw[aR _ k rfl (by omega),hs]
   rw[bl (by simp only[Int.toNat_natCast];omega)]
   try rfl
 ·try simp only[nb,an,aq,aa]at hb0
  rw[List.take_of_length_le hb0]
  refine W.exit ?_
  refine W.sr X [] [(24,⟨true,[.a (.sl .int [])]⟩),(300024,⟨true,[]⟩)] [0,6] [] rfl (by(repeat' with_reducible first|exact aj.nil|refine aj.mk ?_ ?_|apply And.intro)<;>first|exact(sV _ hs0)) ?_
  refine W.seq ?_
  refine W.s0 X [6,25,26,27] rfl ⟨⟩ ?_
  refine W.block ?_
  refine W.aE (fun k1=>k1≤l.length) (fun k1:Nat=> [(27, .one (.a (.lit (.int .i64 k1))))]) (fun k1=> [(24, .arr .int (l.take k1).flatten)]) (fun k1=>l.length-k1) 0 (fun k1=>rfl) (Nat.zero_le _) rfl ?_
  intro k1 hk1
  have SM:=oQ l k1
  refine W.s0 X [6,25,26,27,28] rfl ⟨⟩ ?_
  refine W.seq ?_
  refine W.cond rfl (fun aM=> ?_) (fun aM=> ?_)
  ·try simp only[nb,an,aq,aa]at aM
   have hs1:=yS l (au (.sl .int)) k1 aM
   have JH:=oQ l (k1+1)
   rw[hs1,List.length_append]at JH
   refine W.skip ?_
   refine W.seq ?_
   refine W.block ?_
   refine W.s0 X [6,8,25,26,27] rfl (by and_intros<;>first|exact⟨⟩| (intros;omega)) ?_
   refine W.cD X [(33,24)] [] [6,25,26,27] [] rfl (by and_intros<;>first|exact⟨⟩|exact rfl| (simp only[cT,maxLen,lens];omega)) ?_
   refine W.r0 X [6,25,26,27] rfl ⟨⟩ ?_
   refine⟨k1+1,by omega,by omega,?_⟩
   rw[aR _ k1 rfl (by omega),hs1]
   try rfl
  ·try simp only[nb,an,aq,aa]at aM
   refine W.exit ?_
   refine W.s0 X [2] rfl ⟨⟩ ?_
   refine W.ret ?_
   exact Fin.ret rfl ⟨by rw[List.take_of_length_le aM],⟨⟩⟩
theorem bC(k:Int)(l:List Int)(hl:l.length≤1048576):Sound ty Tryz.prog 122 [.a (.lit (.int .i64 k)), .a (.sl .int l)] [.a (.lit (.int .i64 (kh k l)))]:=by
 refine Sound.o X Tryz.call122 Tryz.func122 Tryz.ntmps122 rfl rfl ?_
 intro zb
 refine W.s0 X [0,1] rfl ⟨⟩ ?_
 refine W.sr X [] [(11,⟨true,[.a (.sl .int [[k],l,[k]].flatten)]⟩),(12,⟨false,[.a (.lit (.int .i64 (hsh [[k],l,[k]].flatten)))]⟩)] [4] [] rfl (by(repeat' with_reducible first|exact aj.nil|refine aj.mk ?_ ?_|apply And.intro);(iterate 2 all_goals try first|exact(jU _ (by simp) (by simp;omega))|exact(ug _ (by simp;omega)));all_goals first|exact rfl|exact⟨rfl,bA _ (by decide)⟩) ?_
 refine W.ret ?_
 exact Fin.ret rfl ⟨rfl,⟨⟩⟩
theorem aW(k:Int)(l:List Int)(hl:l.length≤1048576):Sound ty Tryz.prog 106 [.a (.lit (.int .i64 k)), .a (.sl .int l)] [.a (.lit (.int .i64 (kh k l)))]:=by
 refine Sound.o X Tryz.call106 Tryz.func106 Tryz.ntmps106 rfl rfl ?_
 intro zb
 refine W.s0 X [0,1] rfl ⟨⟩ ?_
 refine W.sr X [(8,6),(11,6)] [(12,⟨false,[.a (.lit (.int .i64 (hsh ([k]++l++ [k]))))]⟩)] [4] [] rfl (by(repeat' with_reducible first|exact aj.nil|refine aj.mk ?_ ?_|apply And.intro)<;>first|exact(uh _ (by simp;omega))|exact rfl|exact⟨rfl,bA _ (by decide)⟩| (simp only[cT,maxLen,lens];omega)) ?_
 refine W.ret ?_
 exact Fin.ret rfl ⟨rfl,⟨⟩⟩
end
section
set_option maxRecDepth 100000
theorem gX(k:Int):Sound ty Tryz.prog 116 [.a (.lit (.int .i64 k))] [.a (.lit (.bool (fA k)))]:=by
 refine Sound.o X Tryz.call116 Tryz.func116 Tryz.ntmps116 rfl rfl ?_
 intro zb
 refine W.s0 X [0] rfl ⟨⟩ ?_
 refine W.sr X [] [(4,⟨false,[.a (.lit (.bool _))]⟩)] [2] [] rfl (by(repeat' with_reducible first|exact aj.nil|refine aj.mk ?_ ?_|apply And.intro)<;>first|exact(aC _ _ _)) ?_
 refine W.ret ?_
 exact Fin.ret rfl ⟨rfl,⟨⟩⟩
theorem gY(k:Int):Sound ty Tryz.prog 162 [.a (.lit (.int .i64 k))] [.a (.lit (.bool (fA k)))]:=by
 refine Sound.o X Tryz.call162 Tryz.func162 Tryz.ntmps162 rfl rfl ?_
 intro zb
 refine W.s0 X [0] rfl ⟨⟩ ?_
 refine W.sr X [] [(4,⟨false,[.a (.lit (.bool _))]⟩)] [2] [] rfl (by(repeat' with_reducible first|exact aj.nil|refine aj.mk ?_ ?_|apply And.intro)<;>first|exact(aK _ _ _)) ?_
 refine W.ret ?_
 exact Fin.ret rfl ⟨rfl,⟨⟩⟩
end
section
set_option maxRecDepth 100000
theorem mS(l:List (List UInt8))(f:FuncId)(p:(List UInt8)→Bool)(hf: ∀b,Sound ty Tryz.prog f [.a (.sl .u8 b)] [.a (.lit (.bool (p b)))]):Sound ty Tryz.prog 396 [.a (.sl (.sl .u8) l), .a (.lit (.func (.func f) #[] #[]))] [.a (.lit (.int .i64 (fidx p l)))]:=by
 refine Sound.o X Tryz.call396 Tryz.func396 Tryz.ntmps396 rfl rfl ?_
 intro zb
 refine W.bound 0 rfl (fun kZ=> ?_)
 refine W.s0 X [0,1] rfl ⟨⟩ ?_
 refine W.seq ?_
 refine W.s0 X [0,1,7,8] rfl ⟨⟩ ?_
 refine W.block ?_
 refine W.aE (fun k=>k≤l.length∧(l.take k).any p=false) (fun k:Nat=> [(8, .one (.a (.lit (.int .i64 k))))]) (fun k=> []) (fun k=>l.length-k) 0 (fun k=>rfl) ⟨Nat.zero_le _,rfl⟩ rfl ?_
 rintro k ⟨hk,hall⟩
 refine W.s0 X [0,1,7,8,9] rfl ⟨⟩ ?_
 refine W.seq ?_
 refine W.cond rfl (fun hb0=> ?_) (fun hb0=> ?_)
 ·try simp only[nb,an,aq,aa]at hb0
  refine W.skip ?_
  refine W.seq ?_
  refine W.block ?_
  refine W.s0 X [0,1,5,7,8] rfl ⟨⟩ ?_
  refine W.sr X [] [(16,⟨false,[.a (.lit (.bool (p (l.getD k (au (.sl .u8))))))]⟩)] [0,1,5,7,8,16] [] rfl (by(repeat' with_reducible first|exact aj.nil|refine aj.mk ?_ ?_|apply And.intro)<;>first|exact(hf _)| (intros;omega)) ?_
  refine W.cond rfl (fun aB=> ?_) (fun aB=> ?_)
  ·skip
   refine W.s0 X [4] rfl ⟨⟩ ?_
   refine W.ret ?_
   exact Fin.ret rfl ⟨by rw[yV (au (.sl .u8)) hb0 hall aB],⟨⟩⟩
  ·skip
   refine W.skip ?_
   refine W.r0 X [0,1,7,8] rfl ⟨⟩ ?_
   refine⟨k+1,⟨by omega,uk (au (.sl .u8)) hb0 hall aB⟩,by omega,?_⟩
   rw[aR _ k rfl (by omega)]
   try rfl
 ·try simp only[nb,an,aq,aa]at hb0
  refine W.exit ?_
  refine W.s0 X [4] rfl ⟨⟩ ?_
  refine W.ret ?_
  exact Fin.ret rfl ⟨by rw[Gk (by rw[←hall,List.take_of_length_le hb0])],⟨⟩⟩
theorem dS(l:List (List UInt8))(f:FuncId)(p:(List UInt8)→Bool)(hf: ∀b,Sound ty Tryz.prog f [.a (.sl .u8 b)] [.a (.lit (.bool (p b)))]):Sound ty Tryz.prog 331 [.a (.sl (.sl .u8) l), .a (.lit (.func (.func f) #[] #[]))] [.a (.lit (.bool (l.any p)))]:=by
 refine Sound.o X Tryz.call331 Tryz.func331 Tryz.ntmps331 rfl rfl ?_
 intro zb
 refine W.s0 X [0,1] rfl ⟨⟩ ?_
 refine W.sr X [] [(7,⟨false,[.a (.lit (.int .i64 (fidx p l)))]⟩)] [4] [] rfl (by(repeat' with_reducible first|exact aj.nil|refine aj.mk ?_ ?_|apply And.intro)<;>first|exact(mS l f p hf)) ?_
 refine W.ret ?_
 exact Fin.ret rfl ⟨congrArg Value.bool (N0 p l),⟨⟩⟩
theorem pT(b:List UInt8):Sound ty Tryz.prog 336 [.a (.sl .u8 b)] [.a (.lit (.bool (!decide ((b.length:Int)=24))))]:=by
 refine Sound.o X Tryz.call336 Tryz.func336 Tryz.ntmps336 rfl rfl ?_
 intro zb
 refine W.s0 X [0] rfl ⟨⟩ ?_
 refine W.s0 X [2] rfl ⟨⟩ ?_
 refine W.ret ?_
 exact Fin.ret rfl ⟨(congrArg Value.bool (by simp only[aH]<;>first|rfl|ac_rfl)),⟨⟩⟩
theorem cW(d:DB):Sound ty Tryz.prog 243 [.agg (aF d)] [.a (.lit (.bool (bV d)))]:=by
 refine Sound.o X Tryz.call243 Tryz.func243 Tryz.ntmps243 rfl rfl ?_
 intro zb
 refine W.s0 X [1] rfl ⟨⟩ ?_
 refine W.sr X [] [(10,⟨false,[.a (.lit (.bool (d.rows.any fun b=> !decide ((b.length:Int)=24))))]⟩)] [2] [] rfl (by(repeat' with_reducible first|exact aj.nil|refine aj.mk ?_ ?_|apply And.intro)<;>first|exact fun _=>(dS _ _ _ pT)) ?_
 refine W.ret ?_
 exact Fin.ret rfl ⟨by unfold bV;rw[um];by_cases h:(d.rows.length:Int)≤64<;>simp[h],⟨⟩⟩
theorem cF(d:DB):Sound ty Tryz.prog 187 [.agg (aF d)] [.a (.lit (.bool (bV d)))]:=by
 refine Sound.o X Tryz.call187 Tryz.func187 Tryz.ntmps187 rfl rfl ?_
 intro zb
 refine W.b7 0 0 rfl rfl (fun kZ=> ?_)
 refine W.s0 X [1] rfl ⟨⟩ ?_
 refine W.seq ?_
 refine W.s0 X [1,3] rfl ⟨⟩ ?_
 refine W.block ?_
 refine W.aE (fun k=>k≤d.rows.length∧(d.rows.take k).all (fun r=>decide ((r.length:Int)=24))=true) (fun k:Nat=> [(3, .one (.a (.lit (.int .i64 k))))]) (fun k=> []) (fun k=>d.rows.length-k) 0 (fun k=>rfl) ⟨Nat.zero_le _,rfl⟩ rfl ?_
 rintro k ⟨hk,hall⟩
 refine W.seq ?_
 refine W.s0 X [1,3,8] rfl ⟨⟩ ?_
 refine W.cond rfl (fun hb0=> ?_) (fun hb0=> ?_)
 ·try simp only[nb,an,aq,aa]at hb0
  refine W.skip ?_
  refine W.seq ?_
  refine W.block ?_
  refine W.s0 X [1,3,17] rfl (by and_intros<;>first|exact⟨⟩| (intros;omega)) ?_
  refine W.cond rfl (fun aB=> ?_) (fun aB=> ?_)
  ·try simp only[nb,an,aq,aa]at aB
   refine W.s0 X [2] rfl ⟨⟩ ?_
   refine W.ret ?_
   exact Fin.ret rfl ⟨by unfold bV;rw[Ef _ _ (au (.sl .u8)) k hb0 (by simpa using aB)];simp,⟨⟩⟩
  ·try simp only[nb,an,aq,aa]at aB
   refine W.skip ?_
   refine W.r0 X [1,3] rfl ⟨⟩ ?_
   refine⟨k+1,⟨by omega,by rw[qi _ _ _ (au (.sl .u8)) hb0,hall];simpa using aB⟩,by omega,?_⟩
   rw[aR _ k rfl (by omega)]
   try rfl
 ·try simp only[nb,an,aq,aa]at hb0
  refine W.exit ?_
  refine W.s0 X [2] rfl ⟨⟩ ?_
  refine W.ret ?_
  exact Fin.ret rfl ⟨by rw[List.take_of_length_le hb0]at hall;unfold bV;rw[hall];simp,⟨⟩⟩
theorem lD(a:gW):Sound ty Tryz.prog 115 [.agg (ck a)] [.a (.lit (.int .i64 (bR a)))]:=by
 refine Sound.o X Tryz.call115 Tryz.func115 Tryz.ntmps115 rfl rfl ?_
 intro zb
 refine W.b7 0 1 rfl rfl (fun kZ=> ?_)
 refine W.s0 X [1] rfl ⟨⟩ ?_
 refine W.seq ?_
 refine W.s0 X [1,6] rfl ⟨⟩ ?_
 refine W.cond rfl (fun hb0=> ?_) (fun hb0=> ?_)
 ·try simp only[nb,an,aq,aa]at hb0
  refine W.s0 X [2] rfl ⟨⟩ ?_
  refine W.ret ?_
  exact Fin.ret rfl ⟨by rw[bR,if_pos (by omega)],⟨⟩⟩
 ·try simp only[nb,an,aq,aa]at hb0
  refine W.skip ?_
  refine W.s0 X [2] rfl (by and_intros<;>first|exact⟨⟩| ((try simp only[nb,an,aq]at*);(simp(disch:=omega) only[bl]);omega)) ?_
  refine W.ret ?_
  exact Fin.ret rfl ⟨by rw[bR,if_neg (by omega),bl (by omega)];congr 4;omega,⟨⟩⟩
theorem gj(a:gW):Sound ty Tryz.prog 25 [.agg (ck a)] [.a (.lit (.int .i64 (bR a)))]:=by
 refine Sound.o X Tryz.call25 Tryz.func25 Tryz.ntmps25 rfl rfl ?_
 intro zb
 refine W.b7 0 1 rfl rfl (fun kZ=> ?_)
 refine W.s0 X [1] rfl ⟨⟩ ?_
 refine W.seq ?_
 refine W.s0 X [1,6] rfl ⟨⟩ ?_
 refine W.cond rfl (fun hb0=> ?_) (fun hb0=> ?_)
 ·try simp only[nb,an,aq,aa]at hb0
  refine W.s0 X [2] rfl ⟨⟩ ?_
  refine W.ret ?_
  exact Fin.ret rfl ⟨by rw[bR,if_pos (by omega)],⟨⟩⟩
 ·try simp only[nb,an,aq,aa]at hb0
  refine W.skip ?_
  refine W.s0 X [2] rfl (by and_intros<;>first|exact⟨⟩| ((try simp only[nb,an,aq]at*);(simp(disch:=omega) only[bl]);omega)) ?_
  refine W.ret ?_
  exact Fin.ret rfl ⟨by rw[bR,if_neg (by omega),bl (by omega)];congr 4;omega,⟨⟩⟩
theorem ez(s:aO):Sound ty Tryz.prog 117 [.agg (bq s)] [.a (.lit (.bool (cj s)))]:=by
 refine Sound.o X Tryz.call117 Tryz.func117 Tryz.ntmps117 rfl rfl ?_
 intro zb
 refine W.b7 0 3 rfl rfl (fun kZ=> ?_)
 refine W.s0 X [1] rfl ⟨⟩ ?_
 refine W.seq ?_
 refine W.sr X [] [(7,⟨false,[.a (.lit (.bool (inr s.id 0 3)))]⟩),(12,⟨false,[.a (.lit (.bool (inr s.rows 1 64)))]⟩),(18,⟨false,[.a (.lit (.bool (inr s.behavior 0 3)))]⟩),(24,⟨false,[.a (.lit (.bool (inr s.round 0 100000)))]⟩)] [1,32] [] rfl (by(repeat' with_reducible first|exact aj.nil|refine aj.mk ?_ ?_|apply And.intro);(iterate 4 all_goals try first|exact(aC s.id 0 3)|exact fun _=>(aC s.rows 1 64)|exact fun _=>(aC s.behavior 0 3)|exact fun _=>(aC s.round 0 100000))) ?_
 refine W.cond rfl (fun hb0=> ?_) (fun hb0=> ?_)
 ·skip
  refine W.s0 X [2] rfl ⟨⟩ ?_
  refine W.ret ?_
  exact Fin.ret rfl ⟨by rw[show cj s=false from abO hb0 (by simp only[wI,aH]<;>first|rfl|ac_rfl)],⟨⟩⟩
 ·have hh:wI s=true:=bG hb0 (by simp only[wI,aH]<;>first|rfl|ac_rfl)
  refine W.skip ?_
  refine W.seq ?_
  refine W.s0 X [1,34,35,36] rfl ⟨⟩ ?_
  refine W.block ?_
  refine W.aE (fun k=>k≤s.received.length∧(List.range k).all (nW s.rows s.received)=true) (fun k:Nat=> [(36, .one (.a (.lit (.int .i64 k))))]) (fun k=> []) (fun k=>s.received.length-k) 0 (fun k=>rfl) ⟨Nat.zero_le _,rfl⟩ rfl ?_
  rintro k ⟨hk,hall⟩
  have hw:(IntKind.i64.wrap ((k:Int)-1)).toNat=k-1:=by rw[bl (by omega)];omega
  refine W.s0 X [1,34,35,36,37] rfl ⟨⟩ ?_
  refine W.seq ?_
  refine W.cond rfl (fun aB=> ?_) (fun aB=> ?_)
  ·try simp only[nb,an,aq,aa]at aB
   refine W.skip ?_
   refine W.seq ?_
   refine W.block ?_
   refine W.s0 X [1,3,4,34,35,36] rfl (by and_intros<;>first|exact⟨⟩| (intros;omega)) ?_
   refine W.sd X [] [(43,⟨false,[.a (.lit (.bool (inr ((s.received.getD k (au .aA)).client) 0 7)))]⟩),(64,⟨false,[.a (.lit (.bool (bV ((s.received.getD k (au .aA)).share))))]⟩)] [1,34,35,36,75] [] 35 MO (by kernel_rfl) rfl (by(repeat' with_reducible first|exact aj.nil|refine aj.mk ?_ ?_|apply And.intro);(iterate 2 all_goals try first|exact(aC ((s.received.getD k (au .aA)).client) 0 7)|exact fun _=>(cW ((s.received.getD k (au .aA)).share)));all_goals first| ((intro h1;first| (intro h2;first| (intro h3;refine And.intro ?_ ?_)|refine And.intro ?_ ?_)|refine And.intro ?_ ?_)<;>first|omega| ((try simp only[nb,an,aq]at*);(try simp(disch:=omega) only[bl]);omega))) ?_
   refine W.cond rfl (fun aM=> ?_) (fun aM=> ?_)
   ·have hk2:nW s.rows s.received k=false:=bK aM (by simp only[hw,nW,aH]<;>first|rfl|ac_rfl)
    refine W.s0 X [2] rfl ⟨⟩ ?_
    refine W.ret ?_
    exact Fin.ret rfl ⟨by rw[show cj s=false by unfold cj;rw[mg aB hk2];simp],⟨⟩⟩
   ·have hk2:nW s.rows s.received k=true:=bG aM (by simp only[hw,nW,aH]<;>first|rfl|ac_rfl)
    refine W.skip ?_
    refine W.r0 X [1,34,35,36] rfl ⟨⟩ ?_
    refine⟨k+1,⟨by omega,jV hall hk2⟩,by omega,?_⟩
    rw[aR _ k rfl (by omega)]
    try rfl
  ·try simp only[nb,an,aq,aa]at aB
   have qv:(List.range s.received.length).all (nW s.rows s.received)=true:=by rw[show s.received.length=k by omega];exact hall
   refine W.exit ?_
   refine W.s0 X [2] rfl ⟨⟩ ?_
   refine W.ret ?_
   exact Fin.ret rfl ⟨by rw[show cj s=true by unfold cj;rw[hh,qv];rfl],⟨⟩⟩
theorem k8(a:gW):Sound ty Tryz.prog 114 [.agg (ck a)] [.a (.lit (.bool (e9 a)))]:=by
 refine Sound.o X Tryz.call114 Tryz.func114 Tryz.ntmps114 rfl rfl ?_
 intro zb
 refine W.b7 0 1 rfl rfl (fun kZ=> ?_)
 refine W.s0 X [1] rfl ⟨⟩ ?_
 refine W.seq ?_
 refine W.s0 X [1,6,7,8] rfl ⟨⟩ ?_
 refine W.block ?_
 refine W.aE (fun k=>k≤a.rounds.length∧(List.range k).all (rY a.rows a.rounds)=true) (fun k:Nat=> [(8, .one (.a (.lit (.int .i64 k))))]) (fun k=> []) (fun k=>a.rounds.length-k) 0 (fun k=>rfl) ⟨Nat.zero_le _,rfl⟩ rfl ?_
 rintro k ⟨hk,hall⟩
 have hw:(IntKind.i64.wrap ((k:Int)-1)).toNat=k-1:=by rw[bl (by omega)];omega
 refine W.s0 X [1,6,7,8,9] rfl ⟨⟩ ?_
 refine W.seq ?_
 refine W.cond rfl (fun hb0=> ?_) (fun hb0=> ?_)
 ·try simp only[nb,an,aq,aa]at hb0
  refine W.skip ?_
  refine W.seq ?_
  refine W.block ?_
  refine W.s0 X [1,3,4,6,7,8] rfl (by and_intros<;>first|exact⟨⟩| (intros;omega)) ?_
  refine W.sd X [] [(15,⟨false,[.a (.lit (.bool (inr ((a.rounds.getD k (au .ay)).round) 0 100000)))]⟩),(36,⟨false,[.a (.lit (.bool (bV ((a.rounds.getD k (au .ay)).db))))]⟩)] [1,6,7,8,47] [] 35 MO (by kernel_rfl) rfl (by(repeat' with_reducible first|exact aj.nil|refine aj.mk ?_ ?_|apply And.intro);(iterate 2 all_goals try first|exact(aC ((a.rounds.getD k (au .ay)).round) 0 100000)|exact fun _=>(cW ((a.rounds.getD k (au .ay)).db)));all_goals first| ((intro h1;first| (intro h2;first| (intro h3;refine And.intro ?_ ?_)|refine And.intro ?_ ?_)|refine And.intro ?_ ?_)<;>first|omega| ((try simp only[nb,an,aq]at*);(try simp(disch:=omega) only[bl]);omega))) ?_
  refine W.cond rfl (fun aB=> ?_) (fun aB=> ?_)
  ·have hk2:rY a.rows a.rounds k=false:=bK aB (by simp only[hw,rY,aH]<;>first|rfl|ac_rfl)
   refine W.s0 X [2] rfl ⟨⟩ ?_
   refine W.ret ?_
   exact Fin.ret rfl ⟨by rw[show e9 a=false by unfold e9;rw[mg hb0 hk2];simp],⟨⟩⟩
  ·have hk2:rY a.rows a.rounds k=true:=bG aB (by simp only[hw,rY,aH]<;>first|rfl|ac_rfl)
   refine W.skip ?_
   refine W.r0 X [1,6,7,8] rfl ⟨⟩ ?_
   refine⟨k+1,⟨by omega,jV hall hk2⟩,by omega,?_⟩
   rw[aR _ k rfl (by omega)]
   try rfl
 ·try simp only[nb,an,aq,aa]at hb0
  have qv:(List.range a.rounds.length).all (rY a.rows a.rounds)=true:=by rw[show a.rounds.length=k by omega];exact hall
  refine W.exit ?_
  refine W.sr X [] [(51,⟨false,[.a (.lit (.bool (inr a.rows 1 64)))]⟩)] [2] [] rfl (by(repeat' with_reducible first|exact aj.nil|refine aj.mk ?_ ?_|apply And.intro)<;>first|exact(aC a.rows 1 64)) ?_
  refine W.ret ?_
  exact Fin.ret rfl ⟨(congrArg Value.bool (by simp only[e9,Em,qv,aH]<;>first|rfl|ac_rfl)),⟨⟩⟩
theorem cQ(s:aO):Sound ty Tryz.prog 284 [.agg (bq s)] [.a (.lit (.bool (cj s)))]:=by
 refine Sound.o X Tryz.call284 Tryz.func284 Tryz.ntmps284 rfl rfl ?_
 intro zb
 refine W.b7 0 3 rfl rfl (fun kZ=> ?_)
 refine W.s0 X [1] rfl ⟨⟩ ?_
 refine W.seq ?_
 refine W.s0 X [1,3] rfl ⟨⟩ ?_
 refine W.block ?_
 refine W.aE (fun k=>k≤s.received.length∧(List.range k).all (nW s.rows s.received)=true) (fun k:Nat=> [(3, .one (.a (.lit (.int .i64 k))))]) (fun k=> []) (fun k=>s.received.length-k) 0 (fun k=>rfl) ⟨Nat.zero_le _,rfl⟩ rfl ?_
 rintro k ⟨hk,hall⟩
 have hw:(IntKind.i64.wrap ((k:Int)-1)).toNat=k-1:=by rw[bl (by omega)];omega
 refine W.seq ?_
 refine W.s0 X [1,3,9] rfl ⟨⟩ ?_
 refine W.cond rfl (fun hb0=> ?_) (fun hb0=> ?_)
 ·try simp only[nb,an,aq,aa]at hb0
  refine W.skip ?_
  refine W.seq ?_
  refine W.block ?_
  refine W.s0 X [1,3,4] rfl (by and_intros<;>first|exact⟨⟩| (intros;omega)) ?_
  refine W.sd X [] [(19,⟨false,[.a (.lit (.bool (inr ((s.received.getD k (au .aA)).client) 0 7)))]⟩),(40,⟨false,[.a (.lit (.bool (bV ((s.received.getD k (au .aA)).share))))]⟩)] [1,3,51] [] 35 MO (by kernel_rfl) rfl (by(repeat' with_reducible first|exact aj.nil|refine aj.mk ?_ ?_|apply And.intro);(iterate 2 all_goals try first|exact(aK ((s.received.getD k (au .aA)).client) 0 7)|exact fun _=>(cF ((s.received.getD k (au .aA)).share)));all_goals first| ((intro h1;first| (intro h2;first| (intro h3;refine And.intro ?_ ?_)|refine And.intro ?_ ?_)|refine And.intro ?_ ?_)<;>first|omega| ((try simp only[nb,an,aq]at*);(try simp(disch:=omega) only[bl]);omega))) ?_
  refine W.cond rfl (fun aB=> ?_) (fun aB=> ?_)
  ·have hk2:nW s.rows s.received k=false:=bK aB (by simp only[hw,nW,aH]<;>first|rfl|ac_rfl)
   refine W.s0 X [2] rfl ⟨⟩ ?_
   refine W.ret ?_
   exact Fin.ret rfl ⟨by rw[show cj s=false by unfold cj;rw[mg hb0 hk2];simp],⟨⟩⟩
  ·have hk2:nW s.rows s.received k=true:=bG aB (by simp only[hw,nW,aH]<;>first|rfl|ac_rfl)
   refine W.skip ?_
   refine W.r0 X [1,3] rfl ⟨⟩ ?_
   refine⟨k+1,⟨by omega,jV hall hk2⟩,by omega,?_⟩
   rw[aR _ k rfl (by omega)]
   try rfl
 ·try simp only[nb,an,aq,aa]at hb0
  have qv:(List.range s.received.length).all (nW s.rows s.received)=true:=by rw[show s.received.length=k by omega];exact hall
  refine W.exit ?_
  refine W.sr X [] [(54,⟨false,[.a (.lit (.bool (inr s.id 0 3)))]⟩),(58,⟨false,[.a (.lit (.bool (inr s.rows 1 64)))]⟩),(63,⟨false,[.a (.lit (.bool (inr s.behavior 0 3)))]⟩),(68,⟨false,[.a (.lit (.bool (inr s.round 0 100000)))]⟩)] [2] [] rfl (by(repeat' with_reducible first|exact aj.nil|refine aj.mk ?_ ?_|apply And.intro);(iterate 4 all_goals try first|exact(aK s.id 0 3)|exact fun _=>(aK s.rows 1 64)|exact fun _=>(aK s.behavior 0 3)|exact fun _=>(aK s.round 0 100000))) ?_
  refine W.ret ?_
  exact Fin.ret rfl ⟨(congrArg Value.bool (by simp only[cj,wI,qv,aH]<;>first|rfl|ac_rfl)),⟨⟩⟩
theorem k9(a:gW):Sound ty Tryz.prog 161 [.agg (ck a)] [.a (.lit (.bool (e9 a)))]:=by
 refine Sound.o X Tryz.call161 Tryz.func161 Tryz.ntmps161 rfl rfl ?_
 intro zb
 refine W.b7 0 1 rfl rfl (fun kZ=> ?_)
 refine W.s0 X [1] rfl ⟨⟩ ?_
 refine W.seq ?_
 refine W.s0 X [1,3] rfl ⟨⟩ ?_
 refine W.block ?_
 refine W.aE (fun k=>k≤a.rounds.length∧(List.range k).all (rY a.rows a.rounds)=true) (fun k:Nat=> [(3, .one (.a (.lit (.int .i64 k))))]) (fun k=> []) (fun k=>a.rounds.length-k) 0 (fun k=>rfl) ⟨Nat.zero_le _,rfl⟩ rfl ?_
 rintro k ⟨hk,hall⟩
 have hw:(IntKind.i64.wrap ((k:Int)-1)).toNat=k-1:=by rw[bl (by omega)];omega
 refine W.seq ?_
 refine W.s0 X [1,3,9] rfl ⟨⟩ ?_
 refine W.cond rfl (fun hb0=> ?_) (fun hb0=> ?_)
 ·try simp only[nb,an,aq,aa]at hb0
  refine W.skip ?_
  refine W.seq ?_
  refine W.block ?_
  refine W.s0 X [1,3,4] rfl (by and_intros<;>first|exact⟨⟩| (intros;omega)) ?_
  refine W.sd X [] [(19,⟨false,[.a (.lit (.bool (inr ((a.rounds.getD k (au .ay)).round) 0 100000)))]⟩),(40,⟨false,[.a (.lit (.bool (bV ((a.rounds.getD k (au .ay)).db))))]⟩)] [1,3,51] [] 35 MO (by kernel_rfl) rfl (by(repeat' with_reducible first|exact aj.nil|refine aj.mk ?_ ?_|apply And.intro);(iterate 2 all_goals try first|exact(aK ((a.rounds.getD k (au .ay)).round) 0 100000)|exact fun _=>(cF ((a.rounds.getD k (au .ay)).db)));all_goals first| ((intro h1;first| (intro h2;first| (intro h3;refine And.intro ?_ ?_)|refine And.intro ?_ ?_)|refine And.intro ?_ ?_)<;>first|omega| ((try simp only[nb,an,aq]at*);(try simp(disch:=omega) only[bl]);omega))) ?_
  refine W.cond rfl (fun aB=> ?_) (fun aB=> ?_)
  ·have hk2:rY a.rows a.rounds k=false:=bK aB (by simp only[hw,rY,aH]<;>first|rfl|ac_rfl)
   refine W.s0 X [2] rfl ⟨⟩ ?_
   refine W.ret ?_
   exact Fin.ret rfl ⟨by rw[show e9 a=false by unfold e9;rw[mg hb0 hk2];simp],⟨⟩⟩
  ·have hk2:rY a.rows a.rounds k=true:=bG aB (by simp only[hw,rY,aH]<;>first|rfl|ac_rfl)
   refine W.skip ?_
   refine W.r0 X [1,3] rfl ⟨⟩ ?_
   refine⟨k+1,⟨by omega,jV hall hk2⟩,by omega,?_⟩
   rw[aR _ k rfl (by omega)]
   try rfl
 ·try simp only[nb,an,aq,aa]at hb0
  have qv:(List.range a.rounds.length).all (rY a.rows a.rounds)=true:=by rw[show a.rounds.length=k by omega];exact hall
  refine W.exit ?_
  refine W.sr X [] [(54,⟨false,[.a (.lit (.bool (inr a.rows 1 64)))]⟩)] [2] [] rfl (by(repeat' with_reducible first|exact aj.nil|refine aj.mk ?_ ?_|apply And.intro)<;>first|exact(aK a.rows 1 64)) ?_
  refine W.ret ?_
  exact Fin.ret rfl ⟨(congrArg Value.bool (by simp only[e9,Em,qv,aH]<;>first|rfl|ac_rfl)),⟨⟩⟩
theorem BG(a:List UInt8):(Fv a).toList=a:=by
 rw[ByteArray.toList_eq];rfl
theorem kA(a b:List UInt8):Sound ty Tryz.prog 152 [.a (.sl .u8 a), .a (.sl .u8 b)] [.a (.lit (.bool (a==b)))]:=by
 refine Sound.o X Tryz.call152 Tryz.func152 Tryz.ntmps152 rfl rfl ?_
 intro zb
 refine W.s0 X [0,1] rfl ⟨⟩ ?_
 refine W.s0 X [4] rfl ⟨⟩ ?_
 refine W.ret ?_
 exact Fin.ret rfl ⟨by rw[BG,BG],⟨⟩⟩
theorem jr(a b:List UInt8):Sound ty Tryz.prog 271 [.a (.sl .u8 a), .a (.sl .u8 b)] [.a (.lit (.bool (a==b)))]:=by
 refine Sound.o X Tryz.call271 Tryz.func271 Tryz.ntmps271 rfl rfl ?_
 intro zb
 refine W.bound 0 rfl (fun nj=> ?_)
 refine W.bound 1 rfl (fun j0=> ?_)
 refine W.s0 X [0,1] rfl ⟨⟩ ?_
 refine W.seq ?_
 refine W.s0 X [0,1,10] rfl ⟨⟩ ?_
 refine W.cond rfl (fun hb0=> ?_) (fun hb0=> ?_)
 ·try simp only[nb,an,aq,aa]at hb0
  refine W.s0 X [4] rfl ⟨⟩ ?_
  refine W.ret ?_
  exact Fin.ret rfl ⟨by rw[AD a b hb0],⟨⟩⟩
 ·try simp only[nb,an,aq,aa]at hb0
  refine W.skip ?_
  refine W.seq ?_
  refine W.s0 X [0,1,12,13] rfl ⟨⟩ ?_
  refine W.block ?_
  refine W.aE (fun k=>k≤a.length∧a.take k=b.take k) (fun k:Nat=> [(13, .one (.a (.lit (.int .i64 k))))]) (fun k=> []) (fun k=>a.length-k) 0 (fun k=>rfl) ⟨Nat.zero_le _,rfl⟩ rfl ?_
  rintro k ⟨hk,hall⟩
  refine W.s0 X [0,1,12,13,14] rfl ⟨⟩ ?_
  refine W.seq ?_
  refine W.cond rfl (fun aB=> ?_) (fun aB=> ?_)
  ·try simp only[nb,an,aq,aa]at aB
   refine W.skip ?_
   refine W.seq ?_
   refine W.block ?_
   refine W.s0 X [0,1,5,12,13] rfl ⟨⟩ ?_
   refine W.sd X [] [] [0,1,12,13,24] [] 9 MO (by kernel_rfl) rfl (by and_intros<;>first|exact⟨⟩| (intros;omega)) ?_
   refine W.cond rfl (fun aM=> ?_) (fun aM=> ?_)
   ·try simp only[nb,an,aq,aa]at aM
    have hne:=wZ a b (au .u8) k (fun h=>aM (by rw[h]))
    refine W.s0 X [4] rfl ⟨⟩ ?_
    refine W.ret ?_
    exact Fin.ret rfl ⟨by rw[hne],⟨⟩⟩
   ·try simp only[nb,an,aq,aa]at aM
    have he:a.getD k (au .u8)=b.getD k (au .u8):=SH aM
    refine W.skip ?_
    refine W.r0 X [0,1,12,13] rfl ⟨⟩ ?_
    refine⟨k+1,⟨by omega,kg a b (au .u8) k aB (by omega) hall he⟩,by omega,?_⟩
    rw[aR _ k rfl (by omega)]
    try rfl
  ·try simp only[nb,an,aq,aa]at aB
   refine W.exit ?_
   refine W.s0 X [4] rfl ⟨⟩ ?_
   refine W.ret ?_
   exact Fin.ret rfl ⟨by rw[nP a b k (by omega) (by omega) hall],⟨⟩⟩
theorem kB(a b:List (List UInt8)):Sound ty Tryz.prog 103 [.a (.sl (.sl .u8) a), .a (.sl (.sl .u8) b)] [.a (.lit (.bool (a==b)))]:=by
 refine Sound.o X Tryz.call103 Tryz.func103 Tryz.ntmps103 rfl rfl ?_
 intro zb
 refine W.bound 0 rfl (fun nj=> ?_)
 refine W.bound 1 rfl (fun j0=> ?_)
 refine W.s0 X [0,1] rfl ⟨⟩ ?_
 refine W.seq ?_
 refine W.s0 X [0,1,10] rfl ⟨⟩ ?_
 refine W.cond rfl (fun hb0=> ?_) (fun hb0=> ?_)
 ·try simp only[nb,an,aq,aa]at hb0
  refine W.s0 X [4] rfl ⟨⟩ ?_
  refine W.ret ?_
  exact Fin.ret rfl ⟨by rw[AD a b hb0],⟨⟩⟩
 ·try simp only[nb,an,aq,aa]at hb0
  refine W.skip ?_
  refine W.seq ?_
  refine W.s0 X [0,1,5] rfl ⟨⟩ ?_
  refine W.block ?_
  refine W.aE (fun k=>k≤a.length∧a.take k=b.take k) (fun k:Nat=> [(5, .one (.a (.lit (.int .i64 k))))]) (fun k=> []) (fun k=>a.length-k) 0 (fun k=>rfl) ⟨Nat.zero_le _,rfl⟩ rfl ?_
  rintro k ⟨hk,hall⟩
  refine W.seq ?_
  refine W.s0 X [0,1,5,14] rfl ⟨⟩ ?_
  refine W.cond rfl (fun aB=> ?_) (fun aB=> ?_)
  ·try simp only[nb,an,aq,aa]at aB
   refine W.skip ?_
   refine W.seq ?_
   refine W.block ?_
   refine W.sd X [] [(25,⟨false,[.a (.lit (.bool _))]⟩)] [0,1,5,26] [] 10 MO (by kernel_rfl) rfl (by(repeat' with_reducible first|exact aj.nil|refine aj.mk ?_ ?_|apply And.intro)<;>first|exact(kA _ _)| (intros;omega)) ?_
   refine W.cond rfl (fun aM=> ?_) (fun aM=> ?_)
   ·try simp only[nb,an,aq,aa]at aM
    have hne:=wZ a b (au (.sl .u8)) k (fun h=>aM (by rw[h]))
    refine W.s0 X [4] rfl ⟨⟩ ?_
    refine W.ret ?_
    exact Fin.ret rfl ⟨by rw[hne],⟨⟩⟩
   ·try simp only[nb,an,aq,aa]at aM
    have he:a.getD k (au (.sl .u8))=b.getD k (au (.sl .u8)):=aM
    refine W.skip ?_
    refine W.r0 X [0,1,5] rfl ⟨⟩ ?_
    refine⟨k+1,⟨by omega,kg a b (au (.sl .u8)) k aB (by omega) hall he⟩,by omega,?_⟩
    rw[aR _ k rfl (by omega)]
    try rfl
  ·try simp only[nb,an,aq,aa]at aB
   refine W.exit ?_
   refine W.s0 X [4] rfl ⟨⟩ ?_
   refine W.ret ?_
   exact Fin.ret rfl ⟨by rw[nP a b k (by omega) (by omega) hall],⟨⟩⟩
theorem kC(a b:List UInt8):Sound ty Tryz.prog 147 [.a (.sl .u8 a), .a (.sl .u8 b)] [.a (.lit (.bool (a==b)))]:=by
 refine Sound.o X Tryz.call147 Tryz.func147 Tryz.ntmps147 rfl rfl ?_
 intro zb
 refine W.s0 X [0,1] rfl ⟨⟩ ?_
 refine W.sr X [] [(7,⟨false,[.a (.lit (.bool _))]⟩)] [4] [] rfl (by(repeat' with_reducible first|exact aj.nil|refine aj.mk ?_ ?_|apply And.intro)<;>first|exact(jr _ _)) ?_
 refine W.ret ?_
 exact Fin.ret rfl ⟨rfl,⟨⟩⟩
theorem iy(a b:List (List UInt8)):Sound ty Tryz.prog 345 [.a (.sl (.sl .u8) a), .a (.sl (.sl .u8) b), .a (.lit (.func (.func 147) #[] #[]))] [.a (.lit (.bool (a==b)))]:=by
 refine Sound.o X Tryz.call345 Tryz.func345 Tryz.ntmps345 rfl rfl ?_
 intro zb
 refine W.bound 0 rfl (fun nj=> ?_)
 refine W.bound 1 rfl (fun j0=> ?_)
 refine W.s0 X [0,1,2] rfl ⟨⟩ ?_
 refine W.seq ?_
 refine W.s0 X [0,1,2,14] rfl ⟨⟩ ?_
 refine W.cond rfl (fun hb0=> ?_) (fun hb0=> ?_)
 ·try simp only[nb,an,aq,aa]at hb0
  refine W.s0 X [6] rfl ⟨⟩ ?_
  refine W.ret ?_
  exact Fin.ret rfl ⟨by rw[AD a b hb0],⟨⟩⟩
 ·try simp only[nb,an,aq,aa]at hb0
  refine W.skip ?_
  refine W.seq ?_
  refine W.s0 X [1,2,15,16,17] rfl ⟨⟩ ?_
  refine W.block ?_
  refine W.aE (fun k=>k≤a.length∧a.take k=b.take k) (fun k:Nat=> [(17, .one (.a (.lit (.int .i64 k))))]) (fun k=> []) (fun k=>a.length-k) 0 (fun k=>rfl) ⟨Nat.zero_le _,rfl⟩ rfl ?_
  rintro k ⟨hk,hall⟩
  refine W.s0 X [1,2,15,16,17,18] rfl ⟨⟩ ?_
  refine W.seq ?_
  refine W.cond rfl (fun aB=> ?_) (fun aB=> ?_)
  ·try simp only[nb,an,aq,aa]at aB
   refine W.skip ?_
   refine W.seq ?_
   refine W.block ?_
   refine W.s0 X [1,2,7,8,15,16,17] rfl (by and_intros<;>first|exact⟨⟩| (intros;omega)) ?_
   refine W.s0 X [1,2,8,9,15,16,17] rfl (by and_intros<;>first|exact⟨⟩| (intros;omega)) ?_
   refine W.sr X [] [(29,⟨false,[.a (.lit (.bool (a.getD k (au (.sl .u8))==b.getD k (au (.sl .u8)))))]⟩)] [1,2,15,16,17,30] [] rfl (by(repeat' with_reducible first|exact aj.nil|refine aj.mk ?_ ?_|apply And.intro)<;>first|exact(kC _ _)) ?_
   refine W.cond rfl (fun aM=> ?_) (fun aM=> ?_)
   ·try simp only[nb,an,aq,aa]at aM
    have hne:=wZ a b (au (.sl .u8)) k (fun h=>aM (by rw[h]))
    refine W.s0 X [6] rfl ⟨⟩ ?_
    refine W.ret ?_
    exact Fin.ret rfl ⟨by rw[hne],⟨⟩⟩
   ·try simp only[nb,an,aq,aa]at aM
    have he:a.getD k (au (.sl .u8))=b.getD k (au (.sl .u8)):=aM
    refine W.skip ?_
    refine W.r0 X [1,2,15,16,17] rfl ⟨⟩ ?_
    refine⟨k+1,⟨by omega,kg a b (au (.sl .u8)) k aB (by omega) hall he⟩,by omega,?_⟩
    rw[aR _ k rfl (by omega)]
    try rfl
  ·try simp only[nb,an,aq,aa]at aB
   refine W.exit ?_
   refine W.s0 X [6] rfl ⟨⟩ ?_
   refine W.ret ?_
   exact Fin.ret rfl ⟨by rw[nP a b k (by omega) (by omega) hall],⟨⟩⟩
theorem gZ(a b:List (List UInt8)):Sound ty Tryz.prog 266 [.a (.sl (.sl .u8) a), .a (.sl (.sl .u8) b)] [.a (.lit (.bool (a==b)))]:=by
 refine Sound.o X Tryz.call266 Tryz.func266 Tryz.ntmps266 rfl rfl ?_
 intro zb
 refine W.s0 X [0,1] rfl ⟨⟩ ?_
 refine W.sr X [] [(7,⟨false,[.a (.lit (.bool _))]⟩)] [4] [] rfl (by(repeat' with_reducible first|exact aj.nil|refine aj.mk ?_ ?_|apply And.intro)<;>first|exact(iy _ _)) ?_
 refine W.ret ?_
 exact Fin.ret rfl ⟨rfl,⟨⟩⟩
theorem rZ(b:List UInt8):Sound ty Tryz.prog 330 [.a (.sl .u8 b)] [.a (.lit (.bool (w9 b)))]:=by
 refine Sound.o X Tryz.call330 Tryz.func330 Tryz.ntmps330 rfl rfl ?_
 intro zb
 refine W.s0 X [0] rfl ⟨⟩ ?_
 refine W.s0 X [2] rfl ⟨⟩ ?_
 refine W.ret ?_
 exact Fin.ret rfl ⟨rfl,⟨⟩⟩
theorem fI(n:Int):Sound ty Tryz.prog 113 [.a (.lit (.int .i64 n))] [.a (.lit (.bool (cq n)))]:=by
 refine Sound.o X Tryz.call113 Tryz.func113 Tryz.ntmps113 rfl rfl ?_
 intro zb
 refine W.s0 X [0] rfl ⟨⟩ ?_
 refine W.sr X [] [(4,⟨false,[.a (.lit (.bool _))]⟩)] [2] [] rfl (by(repeat' with_reducible first|exact aj.nil|refine aj.mk ?_ ?_|apply And.intro)<;>first|exact(aC _ _ _)) ?_
 refine W.ret ?_
 exact Fin.ret rfl ⟨rfl,⟨⟩⟩
theorem gk(n:Int):Sound ty Tryz.prog 186 [.a (.lit (.int .i64 n))] [.a (.lit (.bool (cq n)))]:=by
 refine Sound.o X Tryz.call186 Tryz.func186 Tryz.ntmps186 rfl rfl ?_
 intro zb
 refine W.s0 X [0] rfl ⟨⟩ ?_
 refine W.sr X [] [(4,⟨false,[.a (.lit (.bool _))]⟩)] [2] [] rfl (by(repeat' with_reducible first|exact aj.nil|refine aj.mk ?_ ?_|apply And.intro)<;>first|exact(aK _ _ _)) ?_
 refine W.ret ?_
 exact Fin.ret rfl ⟨rfl,⟨⟩⟩
theorem fJ(c:ep):Sound ty Tryz.prog 231 [.agg (bn c)] [.a (.lit (.bool (dh c)))]:=by
 refine Sound.o X Tryz.call231 Tryz.func231 Tryz.ntmps231 rfl rfl ?_
 intro zb
 refine W.s0 X [1] rfl ⟨⟩ ?_
 refine W.s0 X [1,3] rfl ⟨⟩ ?_
 refine W.sr X [] [(6,⟨false,[.a (.lit (.bool (inr c.id 0 7)))]⟩),(10,⟨false,[.a (.lit (.bool (inr c.eu 0 7)))]⟩),(22,⟨false,[.a (.lit (.bool (fA c.key)))]⟩),(40,⟨false,[.a (.lit (.bool (c.av.any w9)))]⟩),(47,⟨false,[.a (.lit (.bool (c.inbox.any w9)))]⟩),(56,⟨false,[.a (.lit (.bool (inr c.sent 0 (c.av.length:Int))))]⟩),(61,⟨false,[.a (.lit (.bool (inr c.next 0 100000)))]⟩)] [2] [] rfl (by(repeat' with_reducible first|exact aj.nil|refine aj.mk ?_ ?_|apply And.intro);(iterate 7 all_goals try first|exact(aC c.id 0 7)|exact fun _=>(aC c.eu 0 7)|exact fun _=>(gX c.key)|exact fun _=>(dS _ _ _ rZ)|exact fun _=>(aC c.sent 0 (c.av.length:Int))|exact fun _=>(aC c.next 0 100000))) ?_
 refine W.ret ?_
 exact Fin.ret rfl ⟨(congrArg Value.bool (by simp only[dh,aH]<;>first|rfl|ac_rfl)),⟨⟩⟩
theorem yW(i f k:Int):Sound ty Tryz.prog 377 [.a (.lit (.int .i64 i)), .a (.lit (.int .i64 f)), .a (.lit (.int .i64 k))] [.a (.lit (.bool (inr i 0 7&&inr f 0 7&& !(i==f)&&fA k)))]:=by
 refine Sound.o X Tryz.call377 Tryz.func377 Tryz.ntmps377 rfl rfl ?_
 intro zb
 refine W.s0 X [0,1,2] rfl ⟨⟩ ?_
 refine W.sr X [] [(8,⟨false,[.a (.lit (.bool (inr i 0 7)))]⟩),(11,⟨false,[.a (.lit (.bool (inr f 0 7)))]⟩),(20,⟨false,[.a (.lit (.bool (fA k)))]⟩)] [6] [] rfl (by(repeat' with_reducible first|exact aj.nil|refine aj.mk ?_ ?_|apply And.intro);(iterate 3 all_goals try first|exact(aK i 0 7)|exact fun _=>(aK f 0 7)|exact fun _=>(gY k))) ?_
 refine W.ret ?_
 exact Fin.ret rfl ⟨(congrArg Value.bool (by simp only[aH]<;>first|rfl|ac_rfl)),⟨⟩⟩
theorem qw(l:List (List UInt8)):Sound ty Tryz.prog 378 [.a (.sl (.sl .u8) l)] [.a (.lit (.bool (decide ((l.length:Int)≤16)&& !l.any w9)))]:=by
 refine Sound.o X Tryz.call378 Tryz.func378 Tryz.ntmps378 rfl rfl ?_
 intro zb
 refine W.bound 0 rfl (fun kZ=> ?_)
 refine W.s0 X [0] rfl ⟨⟩ ?_
 refine W.seq ?_
 refine W.s0 X [0,3] rfl ⟨⟩ ?_
 refine W.block ?_
 refine W.aE (fun k=>k≤l.length∧(l.take k).any w9=false) (fun k:Nat=> [(3, .one (.a (.lit (.int .i64 k))))]) (fun k=> []) (fun k=>l.length-k) 0 (fun k=>rfl) ⟨Nat.zero_le _,rfl⟩ rfl ?_
 rintro k ⟨hk,hall⟩
 refine W.seq ?_
 refine W.s0 X [0,3,7] rfl ⟨⟩ ?_
 refine W.cond rfl (fun hb0=> ?_) (fun hb0=> ?_)
 ·try simp only[nb,an,aq,aa]at hb0
  refine W.skip ?_
  refine W.seq ?_
  refine W.block ?_
  refine W.s0 X [0,3,15] rfl (by and_intros<;>first|exact⟨⟩| (intros;omega)) ?_
  refine W.cond rfl (fun aB=> ?_) (fun aB=> ?_)
  ·skip
   refine W.s0 X [2] rfl ⟨⟩ ?_
   refine W.ret ?_
   exact Fin.ret rfl ⟨by rw[yR l w9 (au (.sl .u8)) k hb0 aB];simp,⟨⟩⟩
  ·skip
   refine W.skip ?_
   refine W.r0 X [0,3] rfl ⟨⟩ ?_
   refine⟨k+1,⟨by omega,uk (au (.sl .u8)) hb0 hall aB⟩,by omega,?_⟩
   rw[aR _ k rfl (by omega)]
   try rfl
 ·try simp only[nb,an,aq,aa]at hb0
  have qv:l.any w9=false:=by rw[←hall,List.take_of_length_le hb0]
  refine W.exit ?_
  refine W.s0 X [2] rfl ⟨⟩ ?_
  refine W.ret ?_
  exact Fin.ret rfl ⟨by rw[qv];simp,⟨⟩⟩
theorem dz(c:ep):Sound ty Tryz.prog 317 [.agg (bn c)] [.a (.lit (.bool (dh c)))]:=by
 refine Sound.o X Tryz.call317 Tryz.func317 Tryz.ntmps317 rfl rfl ?_
 intro zb
 refine W.s0 X [1] rfl ⟨⟩ ?_
 refine W.sr X [] [(9,⟨false,[.a (.lit (.bool (inr c.id 0 7&&inr c.eu 0 7&& !(c.id==c.eu)&&fA c.key)))]⟩),(13,⟨false,[.a (.lit (.bool (decide ((c.av.length:Int)≤16)&& !c.av.any w9)))]⟩),(18,⟨false,[.a (.lit (.bool (decide ((c.inbox.length:Int)≤16)&& !c.inbox.any w9)))]⟩),(26,⟨false,[.a (.lit (.bool (inr c.sent 0 (c.av.length:Int))))]⟩),(31,⟨false,[.a (.lit (.bool (inr c.next 0 100000)))]⟩)] [2] [] rfl (by(repeat' with_reducible first|exact aj.nil|refine aj.mk ?_ ?_|apply And.intro);(iterate 5 all_goals try first|exact(yW c.id c.eu c.key)|exact fun _=>(qw c.av)|exact fun _=>(qw c.inbox)|exact fun _=>(aK c.sent 0 (c.av.length:Int))|exact fun _=>(aK c.next 0 100000))) ?_
 refine W.ret ?_
 exact Fin.ret rfl ⟨(congrArg Value.bool (by simp only[dh,aH]<;>first|rfl|ac_rfl)),⟨⟩⟩
theorem qx(a b:ep):Sound ty Tryz.prog 245 [.agg (bn a), .agg (bn b)] [.a (.lit (.bool (iR a b)))]:=by
 refine Sound.o X Tryz.call245 Tryz.func245 Tryz.ntmps245 rfl rfl ?_
 intro zb
 refine W.s0 X [2,3] rfl ⟨⟩ ?_
 refine W.sr X [] [(36,⟨false,[.a (.lit (.bool (a.av==b.av)))]⟩)] [4] [] rfl (by(repeat' with_reducible first|exact aj.nil|refine aj.mk ?_ ?_|apply And.intro)<;>first|exact fun _=>(gZ a.av b.av)) ?_
 refine W.ret ?_
 exact Fin.ret rfl ⟨(congrArg Value.bool (by simp only[iR,aH]<;>first|rfl|ac_rfl)),⟨⟩⟩
theorem Cc(a b:List (List UInt8)):Sound ty Tryz.prog 140 [.a (.sl (.sl .u8) a), .a (.sl (.sl .u8) b)] [.a (.lit (.bool (AK a b)))]:=by
 refine Sound.o X Tryz.call140 Tryz.func140 Tryz.ntmps140 rfl rfl ?_
 intro zb
 refine W.s0 X [0,1] rfl ⟨⟩ ?_
 refine W.sr X [] [(16,⟨false,[.a (.lit (.bool (a==((b.take (a.length:Int).toNat).drop (0:Int).toNat))))]⟩)] [4] [] rfl (by(repeat' with_reducible first|exact aj.nil|refine aj.mk ?_ ?_|apply And.intro)<;>first|exact fun _=>(gZ a ((b.take (a.length:Int).toNat).drop (0:Int).toNat))| ((intro h1;first| (intro h2;first| (intro h3;refine And.intro ?_ ?_)|refine And.intro ?_ ?_)|refine And.intro ?_ ?_)<;>first|omega| ((try simp only[nb,an,aq]at*);(try simp(disch:=omega) only[bl]);omega))) ?_
 refine W.ret ?_
 exact Fin.ret rfl ⟨(congrArg Value.bool (by simp only[AK,List.drop_zero,Int.toNat_zero,aH]<;>first|rfl|ac_rfl)),⟨⟩⟩
theorem fK(d:aL):Sound ty Tryz.prog 118 [.agg (bz d)] [.a (.lit (.bool (cL d)))]:=by
 refine Sound.o X Tryz.call118 Tryz.func118 Tryz.ntmps118 rfl rfl ?_
 intro zb
 refine W.s0 X [1] rfl ⟨⟩ ?_
 refine W.sr X [] [(5,⟨false,[.a (.lit (.bool (dh d.live)))]⟩),(9,⟨false,[.a (.lit (.bool (dh d.saved)))]⟩),(16,⟨false,[.a (.lit (.bool (iR d.live d.saved)))]⟩),(43,⟨false,[.a (.lit (.bool (AK d.saved.inbox d.live.inbox)))]⟩)] [2] [] rfl (by(repeat' with_reducible first|exact aj.nil|refine aj.mk ?_ ?_|apply And.intro);(iterate 4 all_goals try first|exact(fJ d.live)|exact fun _=>(fJ d.saved)|exact fun _=>(qx d.live d.saved)|exact fun _=>(Cc d.saved.inbox d.live.inbox))) ?_
 refine W.ret ?_
 exact Fin.ret rfl ⟨(congrArg Value.bool (by simp only[cL,aH]<;>first|rfl|ac_rfl)),⟨⟩⟩
theorem dA(d:aL):Sound ty Tryz.prog 268 [.agg (bz d)] [.a (.lit (.bool (cL d)))]:=by
 refine Sound.o X Tryz.call268 Tryz.func268 Tryz.ntmps268 rfl rfl ?_
 intro zb
 refine W.s0 X [1] rfl ⟨⟩ ?_
 refine W.s0 X [1,3] rfl ⟨⟩ ?_
 refine W.s0 X [3,4] rfl ⟨⟩ ?_
 refine W.seq ?_
 refine W.sr X [] [(10,⟨false,[.a (.lit (.bool (dh d.live)))]⟩),(14,⟨false,[.a (.lit (.bool (dh d.saved)))]⟩),(50,⟨false,[.a (.lit (.bool (d.live.av==d.saved.av)))]⟩)] [3,4,52] [] rfl (by(repeat' with_reducible first|exact aj.nil|refine aj.mk ?_ ?_|apply And.intro);(iterate 3 all_goals try first|exact(dz d.live)|exact fun _=>(dz d.saved)|exact fun _=>(kB d.live.av d.saved.av))) ?_
 refine W.cond rfl (fun hb0=> ?_) (fun hb0=> ?_)
 ·skip
  refine W.s0 X [2] rfl ⟨⟩ ?_
  refine W.ret ?_
  exact Fin.ret rfl ⟨by rw[show cL d=false from by rw[cL,bK (R:=dh d.live&&dh d.saved&&iR d.live d.saved) hb0 (by simp only[iR,aH]<;>first|rfl|ac_rfl)];rfl],⟨⟩⟩
 ·have hh:(dh d.live&&dh d.saved&&iR d.live d.saved)=true:=bG hb0 (by simp only[iR,aH]<;>first|rfl|ac_rfl)
  refine W.skip ?_
  refine W.sd X [] [(83,⟨false,[.a (.lit (.bool (d.saved.inbox==((d.live.inbox.take (d.saved.inbox.length:Int).toNat).drop (0:Int).toNat))))]⟩)] [2] [] 33 MO (by kernel_rfl) rfl (by(repeat' with_reducible first|exact aj.nil|refine aj.mk ?_ ?_|apply And.intro)<;>first|exact fun _=>(kB d.saved.inbox ((d.live.inbox.take (d.saved.inbox.length:Int).toNat).drop (0:Int).toNat))| ((intro h1;first| (intro h2;first| (intro h3;refine And.intro ?_ ?_)|refine And.intro ?_ ?_)|refine And.intro ?_ ?_)<;>first|omega| ((try simp only[nb,an,aq]at*);(try simp(disch:=omega) only[bl]);omega))) ?_
  refine W.ret ?_
  exact Fin.ret rfl ⟨(congrArg Value.bool (by simp only[cL,hh,AK,List.drop_zero,Int.toNat_zero,aH]<;>first|rfl|ac_rfl)),⟨⟩⟩
end
section
set_option maxRecDepth 100000
theorem bw(x:aJ):Sound ty Tryz.prog 24 [.agg (aG x)] [.a (.lit (.bool (okW x)))]:=by
 refine Sound.o X Tryz.call24 Tryz.func24 Tryz.ntmps24 rfl rfl ?_
 intro zb
 refine W.b7 0 1 rfl rfl (fun nj=> ?_)
 refine W.b7 0 2 rfl rfl (fun j0=> ?_)
 refine W.s0 X [1] rfl ⟨⟩ ?_
 refine W.seq ?_
 refine W.sd X [] [(10,⟨false,[.a (.lit (.bool (inr x.rows 1 64)))]⟩),(16,⟨false,[.a (.lit (.bool (cq (x.ah.length:Int))))]⟩),(23,⟨false,[.a (.lit (.bool (inr (x.af.length:Int) 2 8)))]⟩),(36,⟨false,[.a (.lit (.bool (e9 x.ak)))]⟩),(50,⟨false,[.a (.lit (.int .i64 (bR x.ak)))]⟩),(58,⟨false,[.a (.lit (.bool (fA x.az)))]⟩),(64,⟨false,[.a (.lit (.bool (inr x.round 0 100000)))]⟩)] [1,71] [] 64 MO (by kernel_rfl) rfl (by(repeat' with_reducible first|exact aj.nil|refine aj.mk ?_ ?_|apply And.intro);(iterate 7 all_goals try first|exact(aC x.rows 1 64)|exact fun _=>(fI (x.ah.length:Int))|exact fun _=>(aC (x.af.length:Int) 2 8)|exact fun _=>(k8 x.ak)|exact fun _=>(lD x.ak)|exact fun _=>(gX x.az)|exact fun _=>(aC x.round 0 100000));all_goals first| (refine fun _=> ?_;dsimp only[hyps,G8];omega)) ?_
 refine W.cond rfl (fun hb0=> ?_) (fun hb0=> ?_)
 ·skip
  refine W.s0 X [2] rfl ⟨⟩ ?_
  refine W.ret ?_
  exact Fin.ret rfl ⟨by rw[show okW x=false from by rw[okW,bK (R:=IN x) hb0 (by simp only[IN,aH]<;>first|rfl|ac_rfl)];rfl],⟨⟩⟩
 ·have hh:IN x=true:=bG hb0 (by simp only[IN,aH]<;>first|rfl|ac_rfl)
  obtain⟨YY,hd8,_⟩:=oS hh
  refine W.skip ?_
  refine W.seq ?_
  refine W.s0 X [1,73,74,75] rfl ⟨⟩ ?_
  refine W.block ?_
  refine W.aE (fun k=>k≤x.ah.length∧(List.range k).all (Gj x)=true) (fun k:Nat=> [(75, .one (.a (.lit (.int .i64 k))))]) (fun k=> []) (fun k=>x.ah.length-k) 0 (fun k=>rfl) ⟨Nat.zero_le _,rfl⟩ rfl ?_
  rintro k ⟨hk,hall⟩
  refine W.s0 X [1,73,74,75,76] rfl ⟨⟩ ?_
  refine W.seq ?_
  refine W.cond rfl (fun aB=> ?_) (fun aB=> ?_)
  ·try simp only[nb,an,aq,aa]at aB
   refine W.skip ?_
   refine W.seq ?_
   refine W.block ?_
   refine W.s0 X [1,3,4,73,74,75] rfl (by and_intros<;>first|exact⟨⟩| (intros;omega)) ?_
   refine W.sr X [] [(81,⟨false,[.a (.lit (.bool (cj (x.ah.getD k (au .aO)))))]⟩)] [1,73,74,75,108] [] rfl (by(repeat' with_reducible first|exact aj.nil|refine aj.mk ?_ ?_|apply And.intro)<;>first|exact(ez (x.ah.getD k (au .aO)))) ?_
   refine W.cond rfl (fun aM=> ?_) (fun aM=> ?_)
   ·have hk2:Gj x k=false:=bK aM (by simp only[Gj,aH]<;>first|rfl|ac_rfl)
    refine W.s0 X [2] rfl ⟨⟩ ?_
    refine W.ret ?_
    exact Fin.ret rfl ⟨by rw[show okW x=false from by rw[okW,mg aB hk2];simp],⟨⟩⟩
   ·have hk2:Gj x k=true:=bG aM (by simp only[Gj,aH]<;>first|rfl|ac_rfl)
    refine W.skip ?_
    refine W.r0 X [1,73,74,75] rfl ⟨⟩ ?_
    refine⟨k+1,⟨by omega,jV hall hk2⟩,by omega,?_⟩
    rw[aR _ k rfl (by omega)]
    try rfl
  ·try simp only[nb,an,aq,aa]at aB
   have qv:(List.range x.ah.length).all (Gj x)=true:=by rw[show x.ah.length=k by omega];exact hall
   refine W.exit ?_
   refine W.seq ?_
   refine W.s0 X [1,111,112,113] rfl ⟨⟩ ?_
   refine W.block ?_
   refine W.aE (fun k1=>k1≤x.af.length∧(List.range k1).all (okD x)=true) (fun k1:Nat=> [(113, .one (.a (.lit (.int .i64 k1))))]) (fun k1=> []) (fun k1=>x.af.length-k1) 0 (fun k1=>rfl) ⟨Nat.zero_le _,rfl⟩ rfl ?_
   rintro k1 ⟨hk1,XY⟩
   refine W.s0 X [1,111,112,113,114] rfl ⟨⟩ ?_
   refine W.seq ?_
   refine W.cond rfl (fun gB=> ?_) (fun gB=> ?_)
   ·try simp only[nb,an,aq,aa]at gB
    have hx:=Zx k1 (by omega)
    have hlt:=xd k1 x.af.length gB YY
    refine W.skip ?_
    refine W.seq ?_
    refine W.block ?_
    refine W.s0 X [1,5,6,111,112,113] rfl (by and_intros<;>first|exact⟨⟩| (intros;omega)) ?_
    refine W.s0 X [1,5,6,7,111,112,113] rfl ⟨⟩ ?_
    refine W.sd X [] [(121,⟨false,[.a (.lit (.bool (cL (x.af.getD k1 (au .aL)))))]⟩)] [1,111,112,113,155] [] 36 MO (by kernel_rfl) rfl (by(repeat' with_reducible first|exact aj.nil|refine aj.mk ?_ ?_|apply And.intro)<;>first|exact(fK (x.af.getD k1 (au .aL)))| ((intro h1;first| (intro h2;first| (intro h3;refine And.intro ?_ ?_)|refine And.intro ?_ ?_)|refine And.intro ?_ ?_)<;>first|omega| ((try simp only[nb,an,aq]at*);(try simp(disch:=omega) only[bl]);omega))) ?_
    refine W.cond rfl (fun rz=> ?_) (fun rz=> ?_)
    ·have Rp:okD x k1=false:=bK rz (by simp only[okD,hx,aH]<;>first|rfl|ac_rfl)
     refine W.s0 X [2] rfl ⟨⟩ ?_
     refine W.ret ?_
     exact Fin.ret rfl ⟨by rw[show okW x=false from by rw[okW,mg gB Rp];simp],⟨⟩⟩
    ·have Rp:okD x k1=true:=bG rz (by simp only[okD,hx,aH]<;>first|rfl|ac_rfl)
     refine W.skip ?_
     refine W.r0 X [1,111,112,113] rfl ⟨⟩ ?_
     refine⟨k1+1,⟨by omega,jV XY Rp⟩,by omega,?_⟩
     rw[aR _ k1 rfl (by omega)]
     try rfl
   ·try simp only[nb,an,aq,aa]at gB
    have SQ:(List.range x.af.length).all (okD x)=true:=by rw[show x.af.length=k1 by omega];exact XY
    refine W.exit ?_
    refine W.s0 X [2] rfl ⟨⟩ ?_
    refine W.ret ?_
    exact Fin.ret rfl ⟨by rw[okW,hh,qv,SQ];rfl,⟨⟩⟩
theorem yX(x:aJ):Sound ty Tryz.prog 159 [.agg (aG x)] [.a (.lit (.bool (svW x)))]:=by
 refine Sound.o X Tryz.call159 Tryz.func159 Tryz.ntmps159 rfl rfl ?_
 intro zb
 refine W.b7 0 1 rfl rfl (fun nj=> ?_)
 refine W.b7 0 2 rfl rfl (fun j0=> ?_)
 refine W.s0 X [1] rfl ⟨⟩ ?_
 refine W.seq ?_
 refine W.s0 X [1,3] rfl ⟨⟩ ?_
 refine W.block ?_
 refine W.aE (fun k=>k≤x.ah.length∧(List.range k).all (Gj x)=true) (fun k:Nat=> [(3, .one (.a (.lit (.int .i64 k))))]) (fun k=> []) (fun k=>x.ah.length-k) 0 (fun k=>rfl) ⟨Nat.zero_le _,rfl⟩ rfl ?_
 rintro k ⟨hk,hall⟩
 refine W.seq ?_
 refine W.s0 X [1,3,9] rfl ⟨⟩ ?_
 refine W.cond rfl (fun hb0=> ?_) (fun hb0=> ?_)
 ·try simp only[nb,an,aq,aa]at hb0
  refine W.skip ?_
  refine W.seq ?_
  refine W.block ?_
  refine W.s0 X [1,3,4] rfl (by and_intros<;>first|exact⟨⟩| (intros;omega)) ?_
  refine W.sr X [] [(18,⟨false,[.a (.lit (.bool (cj (x.ah.getD k (au .aO)))))]⟩)] [1,3,45] [] rfl (by(repeat' with_reducible first|exact aj.nil|refine aj.mk ?_ ?_|apply And.intro)<;>first|exact(cQ (x.ah.getD k (au .aO)))) ?_
  refine W.cond rfl (fun aB=> ?_) (fun aB=> ?_)
  ·have hk2:Gj x k=false:=bK aB (by simp only[Gj,aH]<;>first|rfl|ac_rfl)
   refine W.s0 X [2] rfl ⟨⟩ ?_
   refine W.ret ?_
   exact Fin.ret rfl ⟨by rw[show svW x=false from by rw[svW,mg hb0 hk2];simp],⟨⟩⟩
  ·have hk2:Gj x k=true:=bG aB (by simp only[Gj,aH]<;>first|rfl|ac_rfl)
   refine W.skip ?_
   refine W.r0 X [1,3] rfl ⟨⟩ ?_
   refine⟨k+1,⟨by omega,jV hall hk2⟩,by omega,?_⟩
   rw[aR _ k rfl (by omega)]
   try rfl
 ·try simp only[nb,an,aq,aa]at hb0
  have qv:(List.range x.ah.length).all (Gj x)=true:=by rw[show x.ah.length=k by omega];exact hall
  refine W.exit ?_
  refine W.sr X [] [(49,⟨false,[.a (.lit (.bool _))]⟩)] [2] [] rfl (by(repeat' with_reducible first|exact aj.nil|refine aj.mk ?_ ?_|apply And.intro)<;>first|exact(gk _)) ?_
  refine W.ret ?_
  exact Fin.ret rfl ⟨by rw[svW,qv];rfl,⟨⟩⟩
theorem yY(x:aJ):Sound ty Tryz.prog 160 [.agg (aG x)] [.a (.lit (.bool (XX x)))]:=by
 refine Sound.o X Tryz.call160 Tryz.func160 Tryz.ntmps160 rfl rfl ?_
 intro zb
 refine W.b7 0 1 rfl rfl (fun nj=> ?_)
 refine W.b7 0 2 rfl rfl (fun j0=> ?_)
 refine W.s0 X [1] rfl ⟨⟩ ?_
 refine W.s0 X [1,3] rfl ⟨⟩ ?_
 refine W.seq ?_
 refine W.sr X [] [(14,⟨false,[.a (.lit (.bool (inr (x.af.length:Int) 2 8)))]⟩)] [1,3,16] [] rfl (by(repeat' with_reducible first|exact aj.nil|refine aj.mk ?_ ?_|apply And.intro)<;>first|exact fun _=>(aK (x.af.length:Int) 2 8)| (intros;omega)) ?_
 refine W.cond rfl (fun hb0=> ?_) (fun hb0=> ?_)
 ·skip
  refine W.s0 X [2] rfl ⟨⟩ ?_
  refine W.ret ?_
  exact Fin.ret rfl ⟨by rw[show XX x=false from by rw[XX,bK (R:=((x.af.length:Int).tmod 2==0)&&inr x.af.length 2 8) hb0 (by simp only[aH]<;>first|rfl|ac_rfl)];rfl],⟨⟩⟩
 ·have hh:(((x.af.length:Int).tmod 2==0)&&inr x.af.length 2 8)=true:=bG hb0 (by simp only[aH]<;>first|rfl|ac_rfl)
  have YY:x.af.length % 2=0:=by simp only[Bool.and_eq_true,beq_iff_eq]at hh;have:=hh.1;rw[dj (by omega)]at this;omega
  have hd8:x.af.length≤8:=by simp only[Bool.and_eq_true,an]at hh;omega
  refine W.skip ?_
  refine W.seq ?_
  refine W.s0 X [1,3,4] rfl ⟨⟩ ?_
  refine W.block ?_
  refine W.aE (fun k=>k≤x.af.length∧(List.range k).all (okD x)=true) (fun k:Nat=> [(4, .one (.a (.lit (.int .i64 k))))]) (fun k=> []) (fun k=>x.af.length-k) 0 (fun k=>rfl) ⟨Nat.zero_le _,rfl⟩ rfl ?_
  rintro k ⟨hk,hall⟩
  refine W.seq ?_
  refine W.s0 X [1,3,4,19] rfl ⟨⟩ ?_
  refine W.cond rfl (fun aB=> ?_) (fun aB=> ?_)
  ·try simp only[nb,an,aq,aa]at aB
   have hx:=Zx k (by omega)
   have hlt:=xd k x.af.length aB YY
   refine W.skip ?_
   refine W.seq ?_
   refine W.block ?_
   refine W.s0 X [1,3,4,5] rfl (by and_intros<;>first|exact⟨⟩| (intros;omega)) ?_
   refine W.sd X [] [(28,⟨false,[.a (.lit (.bool (cL (x.af.getD k (au .aL)))))]⟩)] [1,3,4,66] [] 40 MO (by kernel_rfl) rfl (by(repeat' with_reducible first|exact aj.nil|refine aj.mk ?_ ?_|apply And.intro)<;>first|exact(dA (x.af.getD k (au .aL)))| ((intro h1;first| (intro h2;first| (intro h3;refine And.intro ?_ ?_)|refine And.intro ?_ ?_)|refine And.intro ?_ ?_)<;>first|omega| ((try simp only[nb,an,aq]at*);(try simp(disch:=omega) only[bl]);omega))) ?_
   refine W.cond rfl (fun aM=> ?_) (fun aM=> ?_)
   ·have Rp:okD x k=false:=bK aM (by simp only[okD,hx,aH]<;>first|rfl|ac_rfl)
    refine W.s0 X [2] rfl ⟨⟩ ?_
    refine W.ret ?_
    exact Fin.ret rfl ⟨by rw[show XX x=false from by rw[XX,mg aB Rp];simp],⟨⟩⟩
   ·have Rp:okD x k=true:=bG aM (by simp only[okD,hx,aH]<;>first|rfl|ac_rfl)
    refine W.skip ?_
    refine W.r0 X [1,3,4] rfl ⟨⟩ ?_
    refine⟨k+1,⟨by omega,jV hall Rp⟩,by omega,?_⟩
    rw[aR _ k rfl (by omega)]
    try rfl
  ·try simp only[nb,an,aq,aa]at aB
   have SQ:(List.range x.af.length).all (okD x)=true:=by rw[show x.af.length=k by omega];exact hall
   refine W.exit ?_
   refine W.s0 X [2] rfl ⟨⟩ ?_
   refine W.ret ?_
   exact Fin.ret rfl ⟨by rw[XX,hh,SQ];rfl,⟨⟩⟩
theorem cz(x:aJ):Sound ty Tryz.prog 45 [.agg (aG x)] [.a (.lit (.bool (okW x)))]:=by
 refine Sound.o X Tryz.call45 Tryz.func45 Tryz.ntmps45 rfl rfl ?_
 intro zb
 refine W.s0 X [1] rfl ⟨⟩ ?_
 refine W.sd X [] [(5,⟨false,[.a (.lit (.bool (inr x.rows 1 64)))]⟩),(9,⟨false,[.a (.lit (.bool (inr x.round 0 100000)))]⟩),(13,⟨false,[.a (.lit (.bool (svW x)))]⟩),(17,⟨false,[.a (.lit (.bool (XX x)))]⟩),(22,⟨false,[.a (.lit (.bool (e9 x.ak)))]⟩),(35,⟨false,[.a (.lit (.int .i64 (bR x.ak)))]⟩),(43,⟨false,[.a (.lit (.bool (fA x.az)))]⟩)] [2] [] 48 MO (by kernel_rfl) rfl (by(repeat' with_reducible first|exact aj.nil|refine aj.mk ?_ ?_|apply And.intro);(iterate 7 all_goals try first|exact(aK x.rows 1 64)|exact fun _=>(aK x.round 0 100000)|exact fun _=>(yX x)|exact fun _=>(yY x)|exact fun _=>(k9 x.ak)|exact fun _=>(gj x.ak)|exact fun _=>(gY x.az))) ?_
 refine W.ret ?_
 exact Fin.ret rfl ⟨(congrArg Value.bool (by simp only[okW,IN,svW,XX,aH]<;>first|rfl|ac_rfl)),⟨⟩⟩
end
end Go.Proofs.YteodajeiagmekaaGreat.G
