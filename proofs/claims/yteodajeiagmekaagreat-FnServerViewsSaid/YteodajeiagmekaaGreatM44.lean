/-
  Shares of a write.
-/
import Derived.Test.YteodajeiagmekaaGreatM30
import Derived.Test.YteodajeiagmekaaGreatM41
import Derived.Test.YteodajeiagmekaaGreatM43
namespace Go.Proofs.YteodajeiagmekaaGreat.G
set_option linter.all false
open Go.RowKit L D
section
set_option maxRecDepth 100000
theorem n7(rows:Int):Sound ty Tryz.prog 333 [.a (.lit (.int .i64 rows))] [.agg (aF (cw rows))]:=by
 refine Sound.o X Tryz.call333 Tryz.func333 Tryz.ntmps333 rfl rfl ?_
 intro zb
 refine W.s0 X [0,2] rfl ⟨⟩ ?_
 refine W.s0 X [0,2,3] rfl ⟨⟩ ?_
 refine W.lG 3 0 60 (.sl .u8) rfl ?_
 refine W.seq ?_
 refine W.sr X [] [(6,⟨false,[.a (.lit (.bool (inr rows 0 64)))]⟩)] [0,2,3,6] [] rfl (by(repeat' with_reducible first|exact aj.nil|refine aj.mk ?_ ?_|apply And.intro)<;>first|exact(aC rows 0 64)) ?_
 refine W.cond rfl (fun hb0=> ?_) (fun hb0=> ?_)
 ·try simp only[nb,an,aq,aa]at hb0
  refine W.s0 X [2,3,7,8] rfl ⟨⟩ ?_
  refine W.block ?_
  refine W.aE (fun k=>k≤rows.toNat) (fun k:Nat=> [(8, .one (.a (.lit (.int .i64 k))))]) (fun k=> [(60, .arr (.sl .u8) ((cw rows).rows.take k))]) (fun k=>rows.toNat-k) 0 (fun k=>rfl) (Nat.zero_le _) rfl ?_
  intro k hk
  have hle:=aY (cw rows).rows k
  have hnl:=qD rows
  refine W.s0 X [2,3,7,8,9] rfl ⟨⟩ ?_
  refine W.seq ?_
  refine W.cond rfl (fun aB=> ?_) (fun aB=> ?_)
  ·try simp only[nb,an,aq,aa]at aB
   have hs:=Et rows k (by omega) (by omega)
   refine W.skip ?_
   refine W.seq ?_
   refine W.block ?_
   refine W.draw X [(14,60)] [(500013,⟨true,[]⟩)] [2,3,7,8] [] 4 MO (by kernel_rfl) rfl (by and_intros<;>first|exact⟨⟩| (intros;omega)|exact rfl| (simp only[cT,maxLen,lens];omega)) ?_
   refine W.r0 X [2,3,7,8] rfl ⟨⟩ ?_
   refine⟨k+1,by omega,by omega,?_⟩
   rw[aR _ k rfl (by omega),hs]
   try rfl
  ·try simp only[nb,an,aq,aa]at aB
   refine W.exit ?_
   refine W.s0 X [2] rfl (by and_intros<;>exact⟨⟩) ?_
   refine W.ret ?_
   exact Fin.ret rfl ⟨by rw[Gm _ _ (by omega)],⟨⟩⟩
 ·try simp only[nb,an,aq,aa]at hb0
  refine W.skip ?_
  refine W.s0 X [2] rfl (by and_intros<;>exact⟨⟩) ?_
  refine W.ret ?_
  exact Fin.ret rfl ⟨by unfold cw;dsimp only;rw[if_neg (by omega)],⟨⟩⟩
theorem zh(d:DB)(i:Int)(c:List UInt8)(hs0:bX List.length d.rows≤1048576)(hc:c.length≤1048576):Sound ty Tryz.prog 332 [.agg (aF d), .a (.lit (.int .i64 i)), .a (.sl .u8 c)] [.agg (aF (qE d i c)), .a (.lit (.bool (jt d i c)))]:=by
 refine Sound.o X Tryz.call332 Tryz.func332 Tryz.ntmps332 rfl rfl ?_
 intro zb
 have kZ:d.rows.length≤1048576:=cI hs0
 refine W.s0 X [1,2,3,6] rfl ⟨⟩ ?_
 refine W.sr X [] [(10,⟨true,[.agg (aF d)]⟩)] [1,2,3,6,8] [] rfl (by(repeat' with_reducible first|exact aj.nil|refine aj.mk ?_ ?_|apply And.intro)<;>first|exact(cK d (by first|assumption|omega| (simp;done)| (simp;omega)))) ?_
 refine W.seq ?_
 refine W.sr X [] [(16,⟨false,[.a (.lit (.bool (inr i 0 (IntKind.i64.wrap ((d.rows.length:Int)-1)))))]⟩)] [1,2,6,8,22] [] rfl (by(repeat' with_reducible first|exact aj.nil|refine aj.mk ?_ ?_|apply And.intro)<;>first|exact(aC i 0 (IntKind.i64.wrap ((d.rows.length:Int)-1)))) ?_
 refine W.cond rfl (fun hb0=> ?_) (fun hb0=> ?_)
 ·have J0:jt d i c=false:=bK hb0 (by simp only[jt,aH]<;>first|rfl|ac_rfl)
  refine W.s0 X [6,7] rfl (by and_intros<;>exact⟨⟩) ?_
  refine W.ret ?_
  exact Fin.ret rfl ⟨by rw[Gn J0],by rw[J0],⟨⟩⟩
 ·have J0:jt d i c=true:=bG hb0 (by simp only[jt,aH]<;>first|rfl|ac_rfl)
  have hrb:=HS kZ J0
  refine W.skip ?_
  refine W.sd X [] [(28,⟨true,[.a (.sl .u8 _)]⟩)] [6,8] [] 6 MO (by kernel_rfl) rfl (by(repeat' with_reducible first|exact aj.nil|refine aj.mk ?_ ?_|apply And.intro)<;>first|exact(cu _ (by first|assumption|omega| (simp;done)| (simp;omega)))| (intros;omega)) ?_
  refine W.s0 X [6,7] rfl (by and_intros<;>exact⟨⟩) ?_
  refine W.ret ?_
  exact Fin.ret rfl ⟨by rw[qF J0],by rw[J0],⟨⟩⟩
theorem jg(a b:DB)(hs0:bX List.length a.rows≤1048576)(hs1:bX List.length b.rows≤1048576):Sound ty Tryz.prog 236 [.agg (aF a), .agg (aF b)] [.agg (aF (dD a b)), .a (.lit (.bool (gq a b)))]:=by
 refine Sound.o X Tryz.call236 Tryz.func236 Tryz.ntmps236 rfl rfl ?_
 intro zb
 have hla:a.rows.length≤1048576:=cI hs0
 have hlb:b.rows.length≤1048576:=cI hs1
 refine W.s0 X [2,3,4] rfl ⟨⟩ ?_
 refine W.sr X [] [(10,⟨true,[.agg (aF a)]⟩)] [2,3,4,6] [] rfl (by(repeat' with_reducible first|exact aj.nil|refine aj.mk ?_ ?_|apply And.intro)<;>first|exact(cK a (by first|assumption|omega| (simp;done)| (simp;omega)))) ?_
 refine W.seq ?_
 refine W.sr X [] [(12,⟨false,[.a (.lit (.bool (bV a)))]⟩),(16,⟨false,[.a (.lit (.bool (bV b)))]⟩)] [3,4,6,27] [] rfl (by(repeat' with_reducible first|exact aj.nil|refine aj.mk ?_ ?_|apply And.intro);(iterate 2 all_goals try first|exact(cW a)|exact fun _=>(cW b))) ?_
 refine W.cond rfl (fun hb0=> ?_) (fun hb0=> ?_)
 ·have wJ:gq a b=false:=bK hb0 (by simp only[gq,aH]<;>first|rfl|ac_rfl)
  refine W.s0 X [4,5] rfl (by and_intros<;>exact⟨⟩) ?_
  refine W.ret ?_
  exact Fin.ret rfl ⟨by rw[qH wJ],by rw[wJ],⟨⟩⟩
 ·have wJ:gq a b=true:=bG hb0 (by simp only[gq,aH]<;>first|rfl|ac_rfl)
  have XH:=ux wJ
  have hxl:=jO wJ
  refine W.skip ?_
  refine W.seq ?_
  refine W.s0 X [4,6,30,31,32] rfl ⟨⟩ ?_
  refine W.block ?_
  refine W.aE (fun k=>k≤b.rows.length) (fun k:Nat=> [(32, .one (.a (.lit (.int .i64 k))))]) (fun k=> [(10, .arr (.sl .u8) ((fQ a b).take k++a.rows.drop k))]) (fun k=>b.rows.length-k) 0 (fun k=>rfl) (Nat.zero_le _) rfl ?_
  intro k hk
  have hle:=kr (fQ a b) a.rows k hxl (by omega)
  refine W.s0 X [4,6,30,31,32,33] rfl ⟨⟩ ?_
  refine W.seq ?_
  refine W.cond rfl (fun aB=> ?_) (fun aB=> ?_)
  ·try simp only[nb,an,aq,aa]at aB
   have hs:=JT wJ k aB
   have ab1:(a.rows.getD k (au (.sl .u8))).length≤1048576:=by rw[lV XH.1 k (by omega)];decide
   have aem:(b.rows.getD k (au (.sl .u8))).length≤1048576:=by rw[lV XH.2.1 k (by omega)];decide
   have hel:(((fQ a b).take k++a.rows.drop k).getD k (au (.sl .u8))).length≤1048576:=by rw[Wp wJ k aB];exact ab1
   refine W.skip ?_
   refine W.seq ?_
   refine W.block ?_
   refine W.s0 X [4,6,7,8,30,31,32] rfl (by and_intros<;>first|exact⟨⟩| (intros;omega)) ?_
   refine W.draw X [] [(46,⟨true,[.a (.sl .u8 (cJ (((fQ a b).take k++a.rows.drop k).getD k (au (.sl .u8))) (b.rows.getD k (au (.sl .u8)))))]⟩)] [4,6,30,31,32] [] 11 MO (by kernel_rfl) rfl (by(repeat' with_reducible first|exact aj.nil|refine aj.mk ?_ ?_|apply And.intro)<;>first|exact(jC (((fQ a b).take k++a.rows.drop k).getD k (au (.sl .u8))) (b.rows.getD k (au (.sl .u8))) (by first|assumption|omega| (simp;done)| (simp;omega)) (by first|assumption|omega| (simp;done)| (simp;omega)))| (intros;omega)) ?_
   refine W.r0 X [4,6,30,31,32] rfl ⟨⟩ ?_
   refine⟨k+1,by omega,by omega,?_⟩
   rw[aR _ k rfl (by omega),hs]
   try rfl
  ·try simp only[nb,an,aq,aa]at aB
   refine W.exit ?_
   refine W.s0 X [4,5] rfl (by and_intros<;>exact⟨⟩) ?_
   refine W.ret ?_
   exact Fin.ret rfl ⟨by rw[nr _ _ _ hxl (by omega),qG wJ],by rw[wJ],⟨⟩⟩
theorem zi(x:aJ)(c:Int)(oK:x.ah.length≤1048576):Sound ty Tryz.prog 101 [.agg (aG x), .a (.lit (.int .i64 c))] [.a (.sl .int (gr x c))]:=by
 refine Sound.o X Tryz.call101 Tryz.func101 Tryz.ntmps101 rfl rfl ?_
 intro zb
 have hw:IntKind.i64.wrap ((x.ah.length:Int)-1)=(x.ah.length:Int)-1:=bl (by omega)
 refine W.s0 X [1,2] rfl ⟨⟩ ?_
 refine W.s0 X [1,2,5] rfl (by and_intros<;>first|exact⟨⟩|exact rfl) ?_
 refine W.seq ?_
 refine W.s0 X [1,2,5,12,13] rfl ⟨⟩ ?_
 refine W.block ?_
 refine W.aE (fun k=>k≤(x.ah.length-1)) (fun k:Nat=> [(13, .one (.a (.lit (.int .i64 k))))]) (fun k=> [(7, .arr .int ((gr x c).take k))]) (fun k=>(x.ah.length-1)-k) 0 (fun k=>rfl) (Nat.zero_le _) rfl ?_
 intro k hk
 have hle:=aY (gr x c) k
 have hrl:=iE x c
 refine W.s0 X [1,2,5,12,13,14] rfl ⟨⟩ ?_
 refine W.seq ?_
 refine W.cond rfl (fun hb0=> ?_) (fun hb0=> ?_)
 ·try simp only[nb,an,aq,aa]at hb0
  rw[N1 _ oK]at hb0
  have hs:=BI x c k (by omega)
  refine W.skip ?_
  refine W.seq ?_
  refine W.block ?_
  refine W.s0 X [1,2,5,6,12,13] rfl ⟨⟩ ?_
  refine W.cD X [(26,7)] [(24,⟨false,[.a (.lit (.int .i64 (kh x.seed [223,x.round,c,(k:Int)])))]⟩)] [1,2,5,12,13] [] rfl (by(repeat' with_reducible first|exact aj.nil|refine aj.mk ?_ ?_|apply And.intro)<;>first|exact(bC x.seed [223,x.round,c,(k:Int)] (by first|assumption|omega| (simp;done)| (simp;omega)))|exact rfl|exact⟨rfl,bA _ (by decide)⟩| (simp only[cT,maxLen,lens];omega)) ?_
  refine W.r0 X [1,2,5,12,13] rfl ⟨⟩ ?_
  refine⟨k+1,by omega,by omega,?_⟩
  rw[aR _ k rfl (by omega),hs]
  try rfl
 ·try simp only[nb,an,aq,aa]at hb0
  rw[N1 _ oK]at hb0
  refine W.exit ?_
  refine W.s0 X [4] rfl ⟨⟩ ?_
  refine W.ret ?_
  exact Fin.ret rfl ⟨by rw[List.take_of_length_le (by omega)],⟨⟩⟩
theorem qK(rows i:Int)(c:List UInt8)(hc:c.length≤1048576):Sound ty Tryz.prog 234 [.a (.lit (.int .i64 rows)), .a (.lit (.int .i64 i)), .a (.sl .u8 c)] [.agg (aF (Ah rows i c)), .a (.lit (.bool (fT rows i c)))]:=by
 refine Sound.o X Tryz.call234 Tryz.func234 Tryz.ntmps234 rfl rfl ?_
 intro zb
 have hz:=vG rows
 refine W.s0 X [0,1,2,6] rfl ⟨⟩ ?_
 refine W.seq ?_
 refine W.sr X [] [(9,⟨false,[.a (.lit (.bool (inr rows 1 64)))]⟩)] [0,1,2,6,10] [] rfl (by(repeat' with_reducible first|exact aj.nil|refine aj.mk ?_ ?_|apply And.intro)<;>first|exact(aC rows 1 64)) ?_
 refine W.cond rfl (fun hb0=> ?_) (fun hb0=> ?_)
 ·have hk:inr rows 1 64=false:=by simpa using hb0
  refine W.s0 X [6,7] rfl (by and_intros<;>exact⟨⟩) ?_
  refine W.ret ?_
  exact Fin.ret rfl ⟨by rw[Ah,hk];rfl,by rw[fT,hk];rfl,⟨⟩⟩
 ·have hk:inr rows 1 64=true:=by simpa using hb0
  refine W.skip ?_
  refine W.sr X [] [(13,⟨true,[.agg (aF (cw rows))]⟩),(16,⟨true,[.agg (aF (qE (cw rows) i c)), .a (.lit (.bool (jt (cw rows) i c)))]⟩)] [6,7] [] rfl (by(repeat' with_reducible first|exact aj.nil|refine aj.mk ?_ ?_|apply And.intro);(iterate 2 all_goals try first|exact(n7 rows)|exact(zh (cw rows) i c (by first|assumption|omega| (simp;done)| (simp;omega)) (by first|assumption|omega| (simp;done)| (simp;omega))))) ?_
  refine W.ret ?_
  exact Fin.ret rfl ⟨by rw[Ah,if_pos hk],by rw[fT,hk];rfl,⟨⟩⟩
end
section
set_option maxRecDepth 100000
theorem AU(rows i:Int)(c:List UInt8)(sd:List Int)(hc:c.length≤1048576)(rN:sd.length≤1048576):Sound ty Tryz.prog 100 [.a (.lit (.int .i64 rows)), .a (.lit (.int .i64 i)), .a (.sl .u8 c), .a (.sl .int sd)] [.a (.sl .DB (mY rows i c sd))]:=by
 refine Sound.o X Tryz.call100 Tryz.func100 Tryz.ntmps100 rfl rfl ?_
 intro zb
 refine W.s0 X [0,1,2,3] rfl ⟨⟩ ?_
 refine W.sr X [] [(20,⟨true,[.agg (aF (Ah rows i c)), .a (.lit (.bool (fT rows i c)))]⟩)] [0,3,9,10] [] rfl (by(repeat' with_reducible first|exact aj.nil|refine aj.mk ?_ ?_|apply And.intro)<;>first|exact(qK rows i c (by first|assumption|omega| (simp;done)| (simp;omega)))) ?_
 refine W.seq ?_
 refine W.sr X [] [(29,⟨false,[.a (.lit (.bool (cq (IntKind.i64.wrap ((sd.length:Int)+1)))))]⟩)] [0,3,9,31] [] rfl (by(repeat' with_reducible first|exact aj.nil|refine aj.mk ?_ ?_|apply And.intro)<;>first|exact fun _=>(fI (IntKind.i64.wrap ((sd.length:Int)+1)))) ?_
 refine W.cond rfl (fun hb0=> ?_) (fun hb0=> ?_)
 ·have hmk:sW rows i c sd=false:=bK hb0 (by simp only[sW,aH]<;>first|rfl|ac_rfl)
  refine W.s0 X [8] rfl ⟨⟩ ?_
  refine W.ret ?_
  exact Fin.ret rfl ⟨by rw[mY,if_neg (by rw[hmk];decide)],⟨⟩⟩
 ·have hmk:sW rows i c sd=true:=bG hb0 (by simp only[sW,aH]<;>first|rfl|ac_rfl)
  have hml:=J3 hmk rN
  have hun:=xl hml.1
  refine W.skip ?_
  refine W.s0 X [0,3,9,11] rfl (by and_intros<;>first|exact⟨⟩|exact rfl) ?_
  refine W.seq ?_
  refine W.s0 X [0,9,11,33,34,35] rfl ⟨⟩ ?_
  refine W.block ?_
  refine W.aE (fun k=>k≤sd.length) (fun k:Nat=> [(35, .one (.a (.lit (.int .i64 k))))]) (fun k=> [(32, .arr .DB ((sd.take k).map fun s=>J2 s rows)),(20, .arr (.sl .u8) (o8 rows i c (sd.take k)).rows)]) (fun k=>sd.length-k) 0 (fun k=>rfl) (Nat.zero_le _) rfl ?_
  intro k hk
  have hle:=aY sd k
  have hlo:=Ez hml.1 (sd.take k)
  have hlz:=cZ hlo
  refine W.s0 X [0,9,11,33,34,35,36] rfl ⟨⟩ ?_
  refine W.seq ?_
  refine W.cond rfl (fun aB=> ?_) (fun aB=> ?_)
  ·try simp only[nb,an,aq,aa]at aB
   have hs:=l9 (fun s=>J2 s rows) sd k (au .int) aB
   have Da:=EA rows i c sd k aB
   have hmo:=HW (sd.getD k (au .int)) rows hun.2.2
   have hmz:=cZ hmo
   refine W.skip ?_
   refine W.seq ?_
   refine W.block ?_
   refine W.s0 X [0,9,11,13,33,34,35] rfl (by and_intros<;>first|exact⟨⟩| (intros;omega)) ?_
   refine W.s0 X [0,9,11,13,14,33,34,35] rfl ⟨⟩ ?_
   refine W.lG 14 0 60 (.sl .u8) rfl ?_
   refine W.seq ?_
   refine W.s0 X [0,9,11,13,14,33,34,35,40,41] rfl ⟨⟩ ?_
   refine W.block ?_
   refine W.aE (fun k1=>k1≤rows.toNat) (fun k1:Nat=> [(41, .one (.a (.lit (.int .i64 k1))))]) (fun k1=> [(60, .arr (.sl .u8) ((gK (sd.getD k (au .int)) rows).take k1))]) (fun k1=>rows.toNat-k1) 0 (fun k1=>rfl) (Nat.zero_le _) rfl ?_
   intro k1 hk1
   have SM:=aY (gK (sd.getD k (au .int)) rows) k1
   refine W.s0 X [0,9,11,13,14,33,34,35,40,41,42] rfl ⟨⟩ ?_
   refine W.seq ?_
   refine W.cond rfl (fun aM=> ?_) (fun aM=> ?_)
   ·try simp only[nb,an,aq,aa]at aM
    have hs1:=zk (sd.getD k (au .int)) rows k1 (by omega)
    refine W.skip ?_
    refine W.seq ?_
    refine W.block ?_
    refine W.s0 X [0,9,11,13,14,15,33,34,35,40,41] rfl ⟨⟩ ?_
    refine W.draw X [(52,60)] [(50,⟨true,[.a (.sl .u8 (stream (IntKind.i64.wrap ((sd.getD k (au .int))+IntKind.i64.wrap (1000*(k1:Int)))) (24:Int).toNat))]⟩),(500051,⟨true,[]⟩)] [0,9,11,13,14,33,34,35,40,41] [] 8 MO (by kernel_rfl) rfl (by(repeat' with_reducible first|exact aj.nil|refine aj.mk ?_ ?_|apply And.intro)<;>first|exact(jM (IntKind.i64.wrap ((sd.getD k (au .int))+IntKind.i64.wrap (1000*(k1:Int)))) 24 (by first|assumption|omega| (simp;done)| (simp;omega)) (by first|assumption|omega| (simp;done)| (simp;omega)))|exact rfl|exact⟨rfl,bA _ (by decide)⟩| (simp only[cT,maxLen,lens];omega)) ?_
    refine W.r0 X [0,9,11,13,14,33,34,35,40,41] rfl ⟨⟩ ?_
    refine⟨k1+1,by omega,by omega,?_⟩
    rw[aR _ k1 rfl (by omega),hs1]
    try rfl
   ·try simp only[nb,an,aq,aa]at aM
    rw[List.take_of_length_le (show(gK (sd.getD k (au .int)) rows).length≤k1 by rw[mq];omega)]
    refine W.exit ?_
    refine W.seq ?_
    refine W.SS X [(58,32)] [] [0,9,11,14,33,34,35] 2 32 rfl (by and_intros<;>first|exact⟨⟩|exact rfl| (simp only[cT,maxLen,lens];omega)) ?_
    refine W.cD X [] [(62,⟨true,[.agg (aF (dD (o8 rows i c (sd.take k)) (J2 (sd.getD k (au .int)) rows))), .a (.lit (.bool (gq (o8 rows i c (sd.take k)) (J2 (sd.getD k (au .int)) rows))))]⟩)] [0,9,11,33,34,35] [] rfl (by(repeat' with_reducible first|exact aj.nil|refine aj.mk ?_ ?_|apply And.intro)<;>first|exact(jg (o8 rows i c (sd.take k)) (J2 (sd.getD k (au .int)) rows) (by first|assumption|omega| (simp;done)| (simp;omega)) (by first|assumption|omega| (simp;done)| (simp;omega)))) ?_
    refine W.kH 9 0 20 rfl ?_
    refine W.r0 X [0,9,11,33,34,35] rfl ⟨⟩ ?_
    refine⟨k+1,by omega,by omega,?_⟩
    rw[aR _ k rfl (by omega),hs,Da]
    try rfl
  ·try simp only[nb,an,aq,aa]at aB
   refine W.exit ?_
   refine W.sr X [(69,32)] [] [8] [] rfl (by and_intros<;>first|exact⟨⟩|exact rfl| (simp only[cT,maxLen,lens];omega)) ?_
   refine W.ret ?_
   exact Fin.ret rfl ⟨by rw[List.take_of_length_le aB,mY,if_pos hmk],⟨⟩⟩
end
section
set_option maxRecDepth 100000
theorem gL(x:aJ)(c:Int)(oK:x.ah.length≤1048576):Sound ty Tryz.prog 16 [.agg (aG x), .a (.lit (.int .i64 c))] [.a (.sl .DB (cO x c))]:=by
 refine Sound.o X Tryz.call16 Tryz.func16 Tryz.ntmps16 rfl rfl ?_
 intro zb
 refine W.b7 0 2 rfl rfl (fun j0=> ?_)
 have Ar:=EB (AV x c) x.round x.rows
 have hwl:=iE x c
 refine W.s0 X [1,2] rfl ⟨⟩ ?_
 refine W.seq ?_
 refine W.sr X [] [(9,⟨false,[.a (.lit (.bool (okW x)))]⟩),(14,⟨false,[.a (.lit (.bool (qy x c)))]⟩)] [1,2,16] [] rfl (by(repeat' with_reducible first|exact aj.nil|refine aj.mk ?_ ?_|apply And.intro);(iterate 2 all_goals try first|exact(bw x)|exact fun _=>(lE x c))) ?_
 refine W.cond rfl (fun hb0=> ?_) (fun hb0=> ?_)
 ·have hk:J5 x c=false:=bK hb0 (by simp only[J5,aH]<;>first|rfl|ac_rfl)
  refine W.s0 X [4] rfl ⟨⟩ ?_
  refine W.ret ?_
  exact Fin.ret rfl ⟨by rw[cO,if_neg (by rw[hk];decide)],⟨⟩⟩
 ·have hk:J5 x c=true:=bG hb0 (by simp only[J5,aH]<;>first|rfl|ac_rfl)
  have hkc:=ZJ hk
  refine W.skip ?_
  refine W.sd X [] [(28,⟨true,[.a (.lit (.int .i64 (kE (AV x c) x.round x.rows))), .a (.sl .u8 (fE (AV x c) x.round x.rows)), .a (.lit (.bool (nu (AV x c) x.round x.rows)))]⟩)] [1,2,5,6,7] [] 18 MO (by kernel_rfl) rfl (by(repeat' with_reducible first|exact aj.nil|refine aj.mk ?_ ?_|apply And.intro)<;>first|exact(xg (AV x c) x.round x.rows)| (intros;omega)) ?_
  refine W.seq ?_
  refine W.s0 X [1,2,5,6,33] rfl ⟨⟩ ?_
  refine W.cond rfl (fun aB=> ?_) (fun aB=> ?_)
  ·have hw:nu (AV x c) x.round x.rows=false:=by simpa using aB
   refine W.s0 X [4] rfl ⟨⟩ ?_
   refine W.ret ?_
   exact Fin.ret rfl ⟨by rw[cO,if_pos hk,J4 hw],⟨⟩⟩
  ·skip
   refine W.skip ?_
   refine W.sd X [] [(40,⟨true,[.a (.sl .int (gr x c))]⟩),(41,⟨true,[.a (.sl .DB (mY x.rows (kE (AV x c) x.round x.rows) (fE (AV x c) x.round x.rows) (gr x c)))]⟩)] [4] [] 9 MO (by kernel_rfl) rfl (by(repeat' with_reducible first|exact aj.nil|refine aj.mk ?_ ?_|apply And.intro);(iterate 2 all_goals try first|exact(zi x c (by first|assumption|omega| (simp;done)| (simp;omega)))|exact(AU x.rows (kE (AV x c) x.round x.rows) (fE (AV x c) x.round x.rows) (gr x c) (by first|assumption|omega| (simp;done)| (simp;omega)) (by first|assumption|omega| (simp;done)| (simp;omega))))) ?_
   refine W.ret ?_
   exact Fin.ret rfl ⟨by rw[cO,if_pos hk];rfl,⟨⟩⟩
end
end Go.Proofs.YteodajeiagmekaaGreat.G
