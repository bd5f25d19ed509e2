/-
  Selections and queries.
-/
import Derived.Test.YteodajeiagmekaaGreatM14
import Derived.Test.YteodajeiagmekaaGreatM17
import Derived.Test.YteodajeiagmekaaGreatM35
namespace Go.Proofs.YteodajeiagmekaaGreat.G
set_option linter.all false
open Go.RowKit L D
section
set_option maxRecDepth 100000
theorem ec(v:List Int)(rows:Int):Sound ty Tryz.prog 65 [.a (.sl .int v), .a (.lit (.int .i64 rows))] [.a (.lit (.bool (bN v rows)))]:=by
 refine Sound.o X Tryz.call65 Tryz.func65 Tryz.ntmps65 rfl rfl ?_
 intro zb
 refine W.bound 0 rfl (fun kZ=> ?_)
 refine W.s0 X [0,1] rfl ⟨⟩ ?_
 refine W.seq ?_
 refine W.s0 X [0,1,5] rfl ⟨⟩ ?_
 refine W.block ?_
 refine W.aE (fun k=>k≤v.length∧(v.take k).all (fun x=>inr x 0 1)=true) (fun k:Nat=> [(5, .one (.a (.lit (.int .i64 k))))]) (fun k=> []) (fun k=>v.length-k) 0 (fun k=>rfl) ⟨Nat.zero_le _,rfl⟩ rfl ?_
 rintro k ⟨hk,hall⟩
 refine W.seq ?_
 refine W.s0 X [0,1,5,9] rfl ⟨⟩ ?_
 refine W.cond rfl (fun hb0=> ?_) (fun hb0=> ?_)
 ·try simp only[nb,an,aq,aa]at hb0
  refine W.skip ?_
  refine W.seq ?_
  refine W.block ?_
  refine W.sr X [] [(16,⟨false,[.a (.lit (.bool (inr (v.getD k (au .int)) 0 1)))]⟩)] [0,1,5,17] [] rfl (by(repeat' with_reducible first|exact aj.nil|refine aj.mk ?_ ?_|apply And.intro)<;>first|exact(aK (v.getD k (au .int)) 0 1)| (intros;omega)) ?_
  refine W.cond rfl (fun aB=> ?_) (fun aB=> ?_)
  ·skip
   refine W.s0 X [4] rfl ⟨⟩ ?_
   refine W.ret ?_
   exact Fin.ret rfl ⟨by rw[bN,Ef _ _ (au .int) k hb0 (by simpa using aB)];simp,⟨⟩⟩
  ·skip
   refine W.skip ?_
   refine W.r0 X [0,1,5] rfl ⟨⟩ ?_
   refine⟨k+1,⟨by omega,by rw[qi _ _ _ (au .int) hb0,hall];simpa using aB⟩,by omega,?_⟩
   rw[aR _ k rfl (by omega)]
   try rfl
 ·try simp only[nb,an,aq,aa]at hb0
  refine W.exit ?_
  refine W.s0 X [4] rfl ⟨⟩ ?_
  refine W.ret ?_
  exact Fin.ret rfl ⟨by rw[List.take_of_length_le hb0]at hall;rw[bN,hall];exact(congrArg Value.bool (by simp only[aH]<;>first|rfl|ac_rfl)),⟨⟩⟩
theorem kI(sd rows:Int):Sound ty Tryz.prog 370 [.a (.lit (.int .i64 sd)), .a (.lit (.int .i64 rows))] [.a (.sl .int (bg sd rows))]:=by
 refine Sound.o X Tryz.call370 Tryz.func370 Tryz.ntmps370 rfl rfl ?_
 intro zb
 refine W.s0 X [0,1] rfl ⟨⟩ ?_
 refine W.s0 X [0,1,5] rfl (by and_intros<;>first|exact⟨⟩|exact rfl) ?_
 refine W.seq ?_
 refine W.s0 X [0,1,5,6] rfl ⟨⟩ ?_
 refine W.block ?_
 refine W.aE (fun k=>k≤(bg sd rows).length) (fun k:Nat=> [(6, .one (.a (.lit (.int .i64 k))))]) (fun k=> [(8, .arr .int ((bg sd rows).take k))]) (fun k=>(bg sd rows).length-k) 0 (fun k=>rfl) (Nat.zero_le _) rfl ?_
 intro k hk
 have hle:=aY (bg sd rows) k
 have hrl:=iz sd rows
 refine W.seq ?_
 refine W.s0 X [0,1,5,6,15] rfl ⟨⟩ ?_
 refine W.cond rfl (fun hb0=> ?_) (fun hb0=> ?_)
 ·try simp only[nb,an,aq,aa]at hb0
  have hin:=En sd rows k (by omega) (by omega)
  have hs:=yZ sd rows k (by omega) (by omega)
  refine W.skip ?_
  refine W.seq ?_
  refine W.block ?_
  refine W.sr X [] [(21,⟨false,[.a (.lit (.int .i64 (kh sd [(k:Int),41])))]⟩)] [0,1,5,6,7] [] rfl (by(repeat' with_reducible first|exact aj.nil|refine aj.mk ?_ ?_|apply And.intro)<;>first|exact(aW sd [(k:Int),41] (by first|assumption|omega| (simp;done)| (simp;omega)))|exact⟨rfl,bA _ (by decide)⟩) ?_
  refine W.cD X [(30,8)] [] [0,1,5,6] [] rfl (by and_intros<;>first|exact⟨⟩| (intros;omega)|exact rfl| (simp only[cT,maxLen,lens];omega)) ?_
  refine W.r0 X [0,1,5,6] rfl ⟨⟩ ?_
  refine⟨k+1,by omega,by omega,?_⟩
  rw[aR _ k rfl (by omega),hs]
  try rfl
 ·try simp only[nb,an,aq,aa]at hb0
  refine W.exit ?_
  refine W.s0 X [4] rfl ⟨⟩ ?_
  refine W.ret ?_
  exact Fin.ret rfl ⟨by rw[BH _ _ _ (by omega)],⟨⟩⟩
theorem iA(rows i:Int):Sound ty Tryz.prog 64 [.a (.lit (.int .i64 rows)), .a (.lit (.int .i64 i))] [.a (.sl .int (gD rows i))]:=by
 refine Sound.o X Tryz.call64 Tryz.func64 Tryz.ntmps64 rfl rfl ?_
 intro zb
 refine W.s0 X [0,1] rfl ⟨⟩ ?_
 refine W.seq ?_
 refine W.sr X [] [(7,⟨false,[.a (.lit (.bool (inr rows 1 64)))]⟩),(13,⟨false,[.a (.lit (.bool (inr i 0 (IntKind.i64.wrap (rows-1)))))]⟩)] [0,1,15] [] rfl (by(repeat' with_reducible first|exact aj.nil|refine aj.mk ?_ ?_|apply And.intro);(iterate 2 all_goals try first|exact(aK rows 1 64)|exact fun _=>(aK i 0 (IntKind.i64.wrap (rows-1))))) ?_
 refine W.cond rfl (fun hb0=> ?_) (fun hb0=> ?_)
 ·have hk:cX rows i=false:=bK hb0 (by simp only[cX,aH]<;>first|rfl|ac_rfl)
  refine W.s0 X [4] rfl (by and_intros<;>first|exact⟨⟩|exact rfl) ?_
  refine W.ret ?_
  exact Fin.ret rfl ⟨by rw[vF hk],⟨⟩⟩
 ·have hk:cX rows i=true:=bG hb0 (by simp only[cX,aH]<;>first|rfl|ac_rfl)
  have hu:=mj hk
  refine W.skip ?_
  refine W.s0 X [1,5] rfl (by and_intros<;>first|exact⟨⟩| (intros;omega)|exact rfl| (simp only[cT,maxLen,lens];omega)) ?_
  refine W.s0 X [5] rfl (by and_intros<;>first|exact⟨⟩| (intros;omega)| (simp only[cT,maxLen,lens];omega)) ?_
  refine W.s0 X [4] rfl ⟨⟩ ?_
  refine W.ret ?_
  exact Fin.ret rfl ⟨by rw[iS hk],⟨⟩⟩
theorem iB(a b:List Int)(ha:a.length≤1048576)(hb:b.length≤1048576):Sound ty Tryz.prog 181 [.a (.sl .int a), .a (.sl .int b)] [.a (.sl .int (eA a b))]:=by
 refine Sound.o X Tryz.call181 Tryz.func181 Tryz.ntmps181 rfl rfl ?_
 intro zb
 refine W.s0 X [0,1] rfl ⟨⟩ ?_
 refine W.s0 X [0,1,5] rfl (by and_intros<;>first|exact⟨⟩|exact rfl) ?_
 refine W.seq ?_
 refine W.sr X [] [(11,⟨false,[.a (.lit (.bool (bN a (a.length:Int))))]⟩),(17,⟨false,[.a (.lit (.bool (bN b (a.length:Int))))]⟩)] [0,1,5,19] [] rfl (by(repeat' with_reducible first|exact aj.nil|refine aj.mk ?_ ?_|apply And.intro);(iterate 2 all_goals try first|exact(ec a (a.length:Int))|exact fun _=>(ec b (a.length:Int)))) ?_
 refine W.cond rfl (fun hb0=> ?_) (fun hb0=> ?_)
 ·have wJ:kG a b=false:=bK hb0 (by simp only[kG,aH]<;>first|rfl|ac_rfl)
  refine W.s0 X [4] rfl ⟨⟩ ?_
  refine W.ret ?_
  exact Fin.ret rfl ⟨by rw[eA,if_neg (by rw[wJ];decide)],⟨⟩⟩
 ·have wJ:kG a b=true:=bG hb0 (by simp only[kG,aH]<;>first|rfl|ac_rfl)
  have nG:=nF wJ
  have hzl:=za wJ
  refine W.skip ?_
  refine W.seq ?_
  refine W.s0 X [0,1,5,6] rfl ⟨⟩ ?_
  refine W.block ?_
  refine W.aE (fun k=>k≤a.length) (fun k:Nat=> [(6, .one (.a (.lit (.int .i64 k))))]) (fun k=> [(7, .arr .int ((List.zipWith xb a b).take k))]) (fun k=>a.length-k) 0 (fun k=>rfl) (Nat.zero_le _) rfl ?_
  intro k hk
  have hle:=aY (List.zipWith xb a b) k
  refine W.seq ?_
  refine W.s0 X [0,1,5,6,24] rfl ⟨⟩ ?_
  refine W.cond rfl (fun aB=> ?_) (fun aB=> ?_)
  ·try simp only[nb,an,aq,aa]at aB
   have hs:=JN wJ k aB
   refine W.skip ?_
   refine W.seq ?_
   refine W.block ?_
   refine W.draw X [(38,7)] [] [0,1,5,6] [] 11 MO (by kernel_rfl) rfl (by and_intros<;>first|exact⟨⟩| (intros;omega)|exact rfl| (simp only[cT,maxLen,lens];omega)) ?_
   refine W.r0 X [0,1,5,6] rfl ⟨⟩ ?_
   refine⟨k+1,by omega,by omega,?_⟩
   rw[aR _ k rfl (by omega),hs]
   try rfl
  ·try simp only[nb,an,aq,aa]at aB
   refine W.exit ?_
   refine W.s0 X [4] rfl ⟨⟩ ?_
   refine W.ret ?_
   exact Fin.ret rfl ⟨by rw[List.take_of_length_le (by omega),sj wJ],⟨⟩⟩
theorem qC(rows i:Int)(sd:List Int)(rN:sd.length≤1048576):Sound ty Tryz.prog 301 [.a (.lit (.int .i64 rows)), .a (.lit (.int .i64 i)), .a (.sl .int sd)] [.a (.sl (.sl .int) (eM rows i sd))]:=by
 refine Sound.o X Tryz.call301 Tryz.func301 Tryz.ntmps301 rfl rfl ?_
 intro zb
 have hun:=lF rows i
 refine W.s0 X [0,1,2] rfl ⟨⟩ ?_
 refine W.s0 X [0,1,2,7] rfl (by and_intros<;>first|exact⟨⟩|exact rfl) ?_
 refine W.sr X [] [(14,⟨true,[.a (.sl .int _)]⟩)] [0,2,7,8] [] rfl (by(repeat' with_reducible first|exact aj.nil|refine aj.mk ?_ ?_|apply And.intro)<;>first|exact(iA _ _)) ?_
 refine W.seq ?_
 refine W.sr X [] [(22,⟨false,[.a (.lit (.bool (cq (IntKind.i64.wrap ((sd.length:Int)+1)))))]⟩)] [0,2,7,8,24] [] rfl (by(repeat' with_reducible first|exact aj.nil|refine aj.mk ?_ ?_|apply And.intro)<;>first|exact fun _=>(gk (IntKind.i64.wrap ((sd.length:Int)+1)))) ?_
 refine W.cond rfl (fun hb0=> ?_) (fun hb0=> ?_)
 ·have hmk:sk rows i sd=false:=bK hb0 (by simp only[sk,aH]<;>first|rfl|ac_rfl)
  refine W.s0 X [6] rfl ⟨⟩ ?_
  refine W.ret ?_
  exact Fin.ret rfl ⟨by rw[eM,if_neg (by rw[hmk];decide)],⟨⟩⟩
 ·have hmk:sk rows i sd=true:=bG hb0 (by simp only[sk,aH]<;>first|rfl|ac_rfl)
  have nG:=JO hmk rN
  refine W.skip ?_
  refine W.seq ?_
  refine W.s0 X [0,2,7,8,9] rfl ⟨⟩ ?_
  refine W.block ?_
  refine W.aE (fun k=>k≤sd.length) (fun k:Nat=> [(9, .one (.a (.lit (.int .i64 k))))]) (fun k=> [(11, .arr (.sl .int) ((sd.take k).map fun s=>bg s rows)),(14, .arr .int (qB rows i (sd.take k)))]) (fun k=>sd.length-k) 0 (fun k=>rfl) (Nat.zero_le _) rfl ?_
  intro k hk
  have hle:=aY sd k
  have hql:=AM rows i (sd.take k)
  refine W.seq ?_
  refine W.s0 X [0,2,7,8,9,29] rfl ⟨⟩ ?_
  refine W.cond rfl (fun aB=> ?_) (fun aB=> ?_)
  ·try simp only[nb,an,aq,aa]at aB
   have hs:=l9 (fun s=>bg s rows) sd k (au .int) aB
   have Da:=Eo rows i sd k aB
   have hrl:=iz (sd.getD k (au .int)) rows
   refine W.skip ?_
   refine W.seq ?_
   refine W.block ?_
   refine W.sr X [] [(37,⟨true,[.a (.sl .int (bg (sd.getD k (au .int)) rows))]⟩)] [0,2,7,8,9,10] [] rfl (by(repeat' with_reducible first|exact aj.nil|refine aj.mk ?_ ?_|apply And.intro)<;>first|exact(kI (sd.getD k (au .int)) rows)| (intros;omega)) ?_
   refine W.sr X [] [(40,⟨true,[.a (.sl .int (eA (qB rows i (sd.take k)) (bg (sd.getD k (au .int)) rows)))]⟩)] [0,2,7,8,9,10] [] rfl (by(repeat' with_reducible first|exact aj.nil|refine aj.mk ?_ ?_|apply And.intro)<;>first|exact(iB (qB rows i (sd.take k)) (bg (sd.getD k (au .int)) rows) (by first|assumption|omega| (simp;done)| (simp;omega)) (by first|assumption|omega| (simp;done)| (simp;omega)))) ?_
   refine W.rename 8 14 rfl ?_
   refine W.cD X [(44,11)] [] [0,2,7,8,9] [] rfl (by and_intros<;>first|exact⟨⟩|exact rfl| (simp only[cT,maxLen,lens];omega)) ?_
   refine W.r0 X [0,2,7,8,9] rfl ⟨⟩ ?_
   refine⟨k+1,by omega,by omega,?_⟩
   rw[aR _ k rfl (by omega),hs,Da]
   try rfl
  ·try simp only[nb,an,aq,aa]at aB
   refine W.exit ?_
   refine W.sr X [(48,11)] [] [6] [] rfl (by and_intros<;>first|exact⟨⟩|exact rfl| (simp only[cT,maxLen,lens];omega)) ?_
   refine W.ret ?_
   exact Fin.ret rfl ⟨by rw[List.take_of_length_le aB,eM,if_pos hmk],⟨⟩⟩
end
end Go.Proofs.YteodajeiagmekaaGreat.G
