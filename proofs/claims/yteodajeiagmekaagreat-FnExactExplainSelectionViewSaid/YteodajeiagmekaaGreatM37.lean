/-
  What one server sees of a read.
-/
import Derived.Test.YteodajeiagmekaaGreatM28
import Derived.Test.YteodajeiagmekaaGreatM32
import Derived.Test.YteodajeiagmekaaGreatM36
namespace Go.Proofs.YteodajeiagmekaaGreat.G
set_option linter.all false
open Go.RowKit L D
section
set_option maxRecDepth 100000
theorem ur(x:Int):Sound ty Tryz.prog 365 [.a (.lit (.int .i64 x))] [.a (.lit (.bool (!inr x 0 1)))]:=by
 refine Sound.o X Tryz.call365 Tryz.func365 Tryz.ntmps365 rfl rfl ?_
 intro zb
 refine W.s0 X [0] rfl ⟨⟩ ?_
 refine W.sr X [] [(4,⟨false,[.a (.lit (.bool _))]⟩)] [2] [] rfl (by(repeat' with_reducible first|exact aj.nil|refine aj.mk ?_ ?_|apply And.intro)<;>first|exact(aC _ _ _)) ?_
 refine W.ret ?_
 exact Fin.ret rfl ⟨rfl,⟨⟩⟩
theorem gI(v:List Int)(rows:Int):Sound ty Tryz.prog 295 [.a (.sl .int v), .a (.lit (.int .i64 rows))] [.a (.lit (.bool (bN v rows)))]:=by
 refine Sound.o X Tryz.call295 Tryz.func295 Tryz.ntmps295 rfl rfl ?_
 intro zb
 refine W.s0 X [0,1] rfl ⟨⟩ ?_
 refine W.sr X [] [(6,⟨false,[.a (.lit (.bool (inr rows 0 64)))]⟩),(15,⟨false,[.a (.lit (.bool (v.any fun x=> !inr x 0 1)))]⟩)] [4] [] rfl (by(repeat' with_reducible first|exact aj.nil|refine aj.mk ?_ ?_|apply And.intro);(iterate 2 all_goals try first|exact(aC rows 0 64)|exact fun _=>(mh _ _ _ ur))) ?_
 refine W.ret ?_
 exact Fin.ret rfl ⟨by rw[Mj];exact(congrArg Value.bool (by simp only[aH]<;>first|rfl|ac_rfl)),⟨⟩⟩
theorem kJ(sd rows:Int):Sound ty Tryz.prog 121 [.a (.lit (.int .i64 sd)), .a (.lit (.int .i64 rows))] [.a (.sl .int (bg sd rows))]:=by
 refine Sound.o X Tryz.call121 Tryz.func121 Tryz.ntmps121 rfl rfl ?_
 intro zb
 refine W.s0 X [0,1] rfl ⟨⟩ ?_
 refine W.seq ?_
 refine W.sr X [] [(9,⟨false,[.a (.lit (.bool (inr rows 0 64)))]⟩)] [0,1,10] [] rfl (by(repeat' with_reducible first|exact aj.nil|refine aj.mk ?_ ?_|apply And.intro)<;>first|exact(aC rows 0 64)) ?_
 refine W.cond rfl (fun hb0=> ?_) (fun hb0=> ?_)
 ·try simp only[nb,an,aq,aa]at hb0
  refine W.s0 X [4] rfl ⟨⟩ ?_
  refine W.ret ?_
  exact Fin.ret rfl ⟨by rw[bg,if_neg (by omega)],⟨⟩⟩
 ·try simp only[nb,an,aq,aa]at hb0
  refine W.skip ?_
  refine W.s0 X [0,1,5] rfl (by and_intros<;>first|exact⟨⟩|exact rfl) ?_
  refine W.seq ?_
  refine W.s0 X [0,5,12,13] rfl ⟨⟩ ?_
  refine W.block ?_
  refine W.aE (fun k=>k≤rows.toNat) (fun k:Nat=> [(13, .one (.a (.lit (.int .i64 k))))]) (fun k=> [(11, .arr .int ((bg sd rows).take k))]) (fun k=>rows.toNat-k) 0 (fun k=>rfl) (Nat.zero_le _) rfl ?_
  intro k hk
  have hle:=aY (bg sd rows) k
  have hrl:=iz sd rows
  refine W.s0 X [0,5,12,13,14] rfl ⟨⟩ ?_
  refine W.seq ?_
  refine W.cond rfl (fun aB=> ?_) (fun aB=> ?_)
  ·try simp only[nb,an,aq,aa]at aB
   have hs:=yZ sd rows k (by omega) (by omega)
   refine W.skip ?_
   refine W.seq ?_
   refine W.block ?_
   refine W.s0 X [0,5,6,12,13] rfl ⟨⟩ ?_
   refine W.sr X [] [(19,⟨false,[.a (.lit (.int .i64 (kh sd [(k:Int),41])))]⟩)] [0,5,7,12,13] [] rfl (by(repeat' with_reducible first|exact aj.nil|refine aj.mk ?_ ?_|apply And.intro)<;>first|exact(bC sd [(k:Int),41] (by first|assumption|omega| (simp;done)| (simp;omega)))|exact⟨rfl,bA _ (by decide)⟩) ?_
   refine W.cD X [(28,11)] [] [0,5,12,13] [] rfl (by and_intros<;>first|exact⟨⟩| (intros;omega)|exact rfl| (simp only[cT,maxLen,lens];omega)) ?_
   refine W.r0 X [0,5,12,13] rfl ⟨⟩ ?_
   refine⟨k+1,by omega,by omega,?_⟩
   rw[aR _ k rfl (by omega),hs]
   try rfl
  ·try simp only[nb,an,aq,aa]at aB
   refine W.exit ?_
   refine W.s0 X [4] rfl ⟨⟩ ?_
   refine W.ret ?_
   exact Fin.ret rfl ⟨by rw[BH _ _ _ (by omega)],⟨⟩⟩
theorem mm(rows i:Int):Sound ty Tryz.prog 257 [.a (.lit (.int .i64 rows)), .a (.lit (.int .i64 i))] [.a (.sl .int (gD rows i))]:=by
 refine Sound.o X Tryz.call257 Tryz.func257 Tryz.ntmps257 rfl rfl ?_
 intro zb
 refine W.s0 X [0,1] rfl ⟨⟩ ?_
 refine W.seq ?_
 refine W.sr X [] [(7,⟨false,[.a (.lit (.bool (inr rows 1 64)))]⟩),(13,⟨false,[.a (.lit (.bool (inr i 0 (IntKind.i64.wrap (rows-1)))))]⟩)] [0,1,15] [] rfl (by(repeat' with_reducible first|exact aj.nil|refine aj.mk ?_ ?_|apply And.intro);(iterate 2 all_goals try first|exact(aC rows 1 64)|exact fun _=>(aC i 0 (IntKind.i64.wrap (rows-1))))) ?_
 refine W.cond rfl (fun hb0=> ?_) (fun hb0=> ?_)
 ·have hk:cX rows i=false:=bK hb0 (by simp only[cX,aH]<;>first|rfl|ac_rfl)
  refine W.s0 X [4] rfl ⟨⟩ ?_
  refine W.ret ?_
  exact Fin.ret rfl ⟨by rw[vF hk],⟨⟩⟩
 ·have hk:cX rows i=true:=bG hb0 (by simp only[cX,aH]<;>first|rfl|ac_rfl)
  have hu:=mj hk
  refine W.skip ?_
  refine W.s0 X [1,5] rfl (by and_intros<;>first|exact⟨⟩| (intros;omega)|exact rfl| (simp only[cT,maxLen,lens];omega)) ?_
  refine W.s0 X [5] rfl (by and_intros<;>first|exact⟨⟩| (intros;omega)| (simp only[cT,maxLen,lens];omega)) ?_
  refine W.s0 X [4] rfl ⟨⟩ ?_
  refine W.ret ?_
  exact Fin.ret rfl ⟨by rw[iS hk],⟨⟩⟩
theorem mo(a b:List Int)(ha:a.length≤1048576)(hb:b.length≤1048576):Sound ty Tryz.prog 258 [.a (.sl .int a), .a (.sl .int b)] [.a (.sl .int (eA a b))]:=by
 refine Sound.o X Tryz.call258 Tryz.func258 Tryz.ntmps258 rfl rfl ?_
 intro zb
 refine W.s0 X [0,1] rfl ⟨⟩ ?_
 refine W.seq ?_
 refine W.sr X [] [(11,⟨false,[.a (.lit (.bool (bN a (a.length:Int))))]⟩),(17,⟨false,[.a (.lit (.bool (bN b (a.length:Int))))]⟩)] [0,1,19] [] rfl (by(repeat' with_reducible first|exact aj.nil|refine aj.mk ?_ ?_|apply And.intro);(iterate 2 all_goals try first|exact(gI a (a.length:Int))|exact fun _=>(gI b (a.length:Int)))) ?_
 refine W.cond rfl (fun hb0=> ?_) (fun hb0=> ?_)
 ·have wJ:kG a b=false:=bK hb0 (by simp only[kG,aH]<;>first|rfl|ac_rfl)
  refine W.s0 X [4] rfl ⟨⟩ ?_
  refine W.ret ?_
  exact Fin.ret rfl ⟨by rw[eA,if_neg (by rw[wJ];decide)],⟨⟩⟩
 ·have wJ:kG a b=true:=bG hb0 (by simp only[kG,aH]<;>first|rfl|ac_rfl)
  have nG:=nF wJ
  have hzl:=za wJ
  refine W.skip ?_
  refine W.sr X [] [(21,⟨true,[.a (.sl .int _)]⟩)] [1,5] [] rfl (by(repeat' with_reducible first|exact aj.nil|refine aj.mk ?_ ?_|apply And.intro)<;>first|exact(gH _ (by first|assumption|omega| (simp;done)| (simp;omega)))) ?_
  refine W.seq ?_
  refine W.s0 X [5,22,23,24] rfl ⟨⟩ ?_
  refine W.block ?_
  refine W.aE (fun k=>k≤b.length) (fun k:Nat=> [(24, .one (.a (.lit (.int .i64 k))))]) (fun k=> [(21, .arr .int ((List.zipWith xb a b).take k++a.drop k))]) (fun k=>b.length-k) 0 (fun k=>rfl) (Nat.zero_le _) rfl ?_
  intro k hk
  have hle:=kr (List.zipWith xb a b) a k hzl (by omega)
  refine W.s0 X [5,22,23,24,25] rfl ⟨⟩ ?_
  refine W.seq ?_
  refine W.cond rfl (fun aB=> ?_) (fun aB=> ?_)
  ·try simp only[nb,an,aq,aa]at aB
   have hs:=JQ wJ k aB
   refine W.skip ?_
   refine W.seq ?_
   refine W.block ?_
   refine W.s0 X [5,6,7,22,23,24] rfl (by and_intros<;>first|exact⟨⟩| (intros;omega)) ?_
   refine W.r0 X [5,22,23,24] rfl (by and_intros<;>first|exact⟨⟩| (intros;omega)) ?_
   refine W.r0 X [5,22,23,24] rfl ⟨⟩ ?_
   refine⟨k+1,by omega,by omega,?_⟩
   rw[aR _ k rfl (by omega),hs]
   try rfl
  ·try simp only[nb,an,aq,aa]at aB
   refine W.exit ?_
   refine W.s0 X [4] rfl ⟨⟩ ?_
   refine W.ret ?_
   exact Fin.ret rfl ⟨by rw[nr _ _ _ hzl (by omega),sj wJ],⟨⟩⟩
theorem lH(rows i:Int)(sd:List Int)(rN:sd.length≤1048576):Sound ty Tryz.prog 130 [.a (.lit (.int .i64 rows)), .a (.lit (.int .i64 i)), .a (.sl .int sd)] [.a (.sl (.sl .int) (eM rows i sd))]:=by
 refine Sound.o X Tryz.call130 Tryz.func130 Tryz.ntmps130 rfl rfl ?_
 intro zb
 have hun:=lF rows i
 refine W.s0 X [0,1,2] rfl ⟨⟩ ?_
 refine W.sr X [] [(14,⟨true,[.a (.sl .int _)]⟩)] [0,2,7] [] rfl (by(repeat' with_reducible first|exact aj.nil|refine aj.mk ?_ ?_|apply And.intro)<;>first|exact(mm _ _)) ?_
 refine W.seq ?_
 refine W.sr X [] [(22,⟨false,[.a (.lit (.bool (cq (IntKind.i64.wrap ((sd.length:Int)+1)))))]⟩)] [0,2,7,24] [] rfl (by(repeat' with_reducible first|exact aj.nil|refine aj.mk ?_ ?_|apply And.intro)<;>first|exact fun _=>(fI (IntKind.i64.wrap ((sd.length:Int)+1)))) ?_
 refine W.cond rfl (fun hb0=> ?_) (fun hb0=> ?_)
 ·have hmk:sk rows i sd=false:=bK hb0 (by simp only[sk,aH]<;>first|rfl|ac_rfl)
  refine W.s0 X [6] rfl ⟨⟩ ?_
  refine W.ret ?_
  exact Fin.ret rfl ⟨by rw[eM,if_neg (by rw[hmk];decide)],⟨⟩⟩
 ·have hmk:sk rows i sd=true:=bG hb0 (by simp only[sk,aH]<;>first|rfl|ac_rfl)
  have nG:=JO hmk rN
  refine W.skip ?_
  refine W.s0 X [0,2,7,8] rfl (by and_intros<;>first|exact⟨⟩|exact rfl) ?_
  refine W.seq ?_
  refine W.s0 X [0,7,8,26,27,28] rfl ⟨⟩ ?_
  refine W.block ?_
  refine W.aE (fun k=>k≤sd.length) (fun k:Nat=> [(28, .one (.a (.lit (.int .i64 k))))]) (fun k=> [(25, .arr (.sl .int) ((sd.take k).map fun s=>bg s rows)),(14, .arr .int (qB rows i (sd.take k)))]) (fun k=>sd.length-k) 0 (fun k=>rfl) (Nat.zero_le _) rfl ?_
  intro k hk
  have hle:=aY sd k
  have hql:=AM rows i (sd.take k)
  refine W.s0 X [0,7,8,26,27,28,29] rfl ⟨⟩ ?_
  refine W.seq ?_
  refine W.cond rfl (fun aB=> ?_) (fun aB=> ?_)
  ·try simp only[nb,an,aq,aa]at aB
   have hs:=l9 (fun s=>bg s rows) sd k (au .int) aB
   have Da:=Eo rows i sd k aB
   have hrl:=iz (sd.getD k (au .int)) rows
   refine W.skip ?_
   refine W.seq ?_
   refine W.block ?_
   refine W.s0 X [0,7,8,10,26,27,28] rfl (by and_intros<;>first|exact⟨⟩| (intros;omega)) ?_
   refine W.sr X [] [(34,⟨true,[.a (.sl .int (bg (sd.getD k (au .int)) rows))]⟩)] [0,7,8,11,26,27,28] [] rfl (by(repeat' with_reducible first|exact aj.nil|refine aj.mk ?_ ?_|apply And.intro)<;>first|exact(kJ (sd.getD k (au .int)) rows)) ?_
   refine W.seq ?_
   refine W.SS X [(38,25)] [] [0,7,8,11,26,27,28] 2 25 rfl (by and_intros<;>first|exact⟨⟩|exact rfl| (simp only[cT,maxLen,lens];omega)) ?_
   refine W.cD X [] [(41,⟨true,[.a (.sl .int (eA (qB rows i (sd.take k)) (bg (sd.getD k (au .int)) rows)))]⟩)] [0,7,8,26,27,28] [] rfl (by(repeat' with_reducible first|exact aj.nil|refine aj.mk ?_ ?_|apply And.intro)<;>first|exact(mo (qB rows i (sd.take k)) (bg (sd.getD k (au .int)) rows) (by first|assumption|omega| (simp;done)| (simp;omega)) (by first|assumption|omega| (simp;done)| (simp;omega)))) ?_
   refine W.rename 7 14 rfl ?_
   refine W.r0 X [0,7,8,26,27,28] rfl ⟨⟩ ?_
   refine⟨k+1,by omega,by omega,?_⟩
   rw[aR _ k rfl (by omega),hs,Da]
   try rfl
  ·try simp only[nb,an,aq,aa]at aB
   refine W.exit ?_
   refine W.sr X [(46,25)] [] [6] [] rfl (by and_intros<;>first|exact⟨⟩|exact rfl| (simp only[cT,maxLen,lens];omega)) ?_
   refine W.ret ?_
   exact Fin.ret rfl ⟨by rw[List.take_of_length_le aB,eM,if_pos hmk],⟨⟩⟩
end
section
set_option maxRecDepth 100000
theorem lI(x:aJ)(r row s:Int)(oK:x.ah.length≤1048576):Sound ty Tryz.prog 131 [.agg (aG x), .a (.lit (.int .i64 r)), .a (.lit (.int .i64 row)), .a (.lit (.int .i64 s))] [.a (.sl .int (cG x.ah.length r row s))]:=by
 refine Sound.o X Tryz.call131 Tryz.func131 Tryz.ntmps131 rfl rfl ?_
 intro zb
 have hw:IntKind.i64.wrap ((x.ah.length:Int)-1)=(x.ah.length:Int)-1:=bl (by omega)
 refine W.s0 X [1,2,3,4] rfl ⟨⟩ ?_
 refine W.s0 X [1,2,3,4,9] rfl (by and_intros<;>first|exact⟨⟩|exact rfl) ?_
 refine W.seq ?_
 refine W.s0 X [1,2,3,9,16,17] rfl ⟨⟩ ?_
 refine W.block ?_
 refine W.aE (fun k=>k≤(x.ah.length-1)) (fun k:Nat=> [(17, .one (.a (.lit (.int .i64 k))))]) (fun k=> [(11, .arr .int ((cG x.ah.length r row s).take k))]) (fun k=>(x.ah.length-1)-k) 0 (fun k=>rfl) (Nat.zero_le _) rfl ?_
 intro k hk
 have hle:=aY (cG x.ah.length r row s) k
 have hrl:=dL x.ah.length r row s
 refine W.s0 X [1,2,3,9,16,17,18] rfl ⟨⟩ ?_
 refine W.seq ?_
 refine W.cond rfl (fun hb0=> ?_) (fun hb0=> ?_)
 ·try simp only[nb,an,aq,aa]at hb0
  rw[N1 _ oK]at hb0
  have hs:=uq x.ah.length r row s k (by omega)
  refine W.skip ?_
  refine W.seq ?_
  refine W.block ?_
  refine W.s0 X [1,2,3,9,10,16,17] rfl ⟨⟩ ?_
  refine W.cD X [(28,11)] [(26,⟨false,[.a (.lit (.int .i64 (kh s [229,r,row,(k:Int)])))]⟩)] [1,2,3,9,16,17] [] rfl (by(repeat' with_reducible first|exact aj.nil|refine aj.mk ?_ ?_|apply And.intro)<;>first|exact(bC s [229,r,row,(k:Int)] (by first|assumption|omega| (simp;done)| (simp;omega)))|exact rfl|exact⟨rfl,bA _ (by decide)⟩| (simp only[cT,maxLen,lens];omega)) ?_
  refine W.r0 X [1,2,3,9,16,17] rfl ⟨⟩ ?_
  refine⟨k+1,by omega,by omega,?_⟩
  rw[aR _ k rfl (by omega),hs]
  try rfl
 ·try simp only[nb,an,aq,aa]at hb0
  rw[N1 _ oK]at hb0
  refine W.exit ?_
  refine W.s0 X [8] rfl ⟨⟩ ?_
  refine W.ret ?_
  exact Fin.ret rfl ⟨by rw[List.take_of_length_le (by omega)],⟨⟩⟩
end
end Go.Proofs.YteodajeiagmekaaGreat.G
