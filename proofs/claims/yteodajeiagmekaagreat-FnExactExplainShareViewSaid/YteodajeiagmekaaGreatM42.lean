/-
  Shares of a write.
-/
import Derived.Test.YteodajeiagmekaaGreatM19
import Derived.Test.YteodajeiagmekaaGreatM34
namespace Go.Proofs.YteodajeiagmekaaGreat.G
set_option linter.all false
open Go.RowKit L D
section
set_option maxRecDepth 100000
theorem eo(d:DB)(hs0:bX List.length d.rows≤1048576):Sound ty Tryz.prog 102 [.agg (aF d)] [.agg (aF d)]:=by
 refine Sound.o X Tryz.call102 Tryz.func102 Tryz.ntmps102 rfl rfl ?_
 intro zb
 refine W.s0 X [1,2] rfl ⟨⟩ ?_
 refine W.sr X [] [(5,⟨true,[.a (.sl (.sl .u8) d.rows)]⟩)] [2] [] rfl (by(repeat' with_reducible first|exact aj.nil|refine aj.mk ?_ ?_|apply And.intro)<;>first|exact(pS d.rows (by first|assumption|omega| (simp;done)| (simp;omega)))) ?_
 refine W.ret ?_
 exact Fin.ret rfl ⟨rfl,⟨⟩⟩
theorem jP(rows:Int):Sound ty Tryz.prog 314 [.a (.lit (.int .i64 rows))] [.agg (aF (cw rows))]:=by
 refine Sound.o X Tryz.call314 Tryz.func314 Tryz.ntmps314 rfl rfl ?_
 intro zb
 refine W.s0 X [0,2] rfl ⟨⟩ ?_
 refine W.s0 X [0,2,3] rfl ⟨⟩ ?_
 refine W.lG 3 0 60 (.sl .u8) rfl ?_
 refine W.seq ?_
 refine W.s0 X [0,2,3,4] rfl ⟨⟩ ?_
 refine W.block ?_
 refine W.aE (fun k=>k≤(cw rows).rows.length) (fun k:Nat=> [(4, .one (.a (.lit (.int .i64 k))))]) (fun k=> [(60, .arr (.sl .u8) ((cw rows).rows.take k))]) (fun k=>(cw rows).rows.length-k) 0 (fun k=>rfl) (Nat.zero_le _) rfl ?_
 intro k hk
 have hle:=aY (cw rows).rows k
 have hnl:=qD rows
 refine W.seq ?_
 refine W.s0 X [0,2,3,4,12] rfl ⟨⟩ ?_
 refine W.cond rfl (fun hb0=> ?_) (fun hb0=> ?_)
 ·try simp only[nb,an,aq,aa]at hb0
  have hin:=SZ rows k (by omega) (by omega)
  have hs:=Et rows k (by omega) (by omega)
  refine W.skip ?_
  refine W.seq ?_
  refine W.block ?_
  refine W.draw X [(19,60)] [(500018,⟨true,[]⟩)] [0,2,3,4] [] 4 MO (by kernel_rfl) rfl (by and_intros<;>first|exact⟨⟩| (intros;omega)|exact rfl| (simp only[cT,maxLen,lens];omega)) ?_
  refine W.r0 X [0,2,3,4] rfl ⟨⟩ ?_
  refine⟨k+1,by omega,by omega,?_⟩
  rw[aR _ k rfl (by omega),hs]
  try rfl
 ·try simp only[nb,an,aq,aa]at hb0
  refine W.exit ?_
  refine W.s0 X [2] rfl (by and_intros<;>exact⟨⟩) ?_
  refine W.ret ?_
  exact Fin.ret rfl ⟨by rw[Gm _ _ (by omega)],⟨⟩⟩
theorem o7(d:DB)(i:Int)(c:List UInt8)(hs0:bX List.length d.rows≤1048576)(hc:c.length≤1048576):Sound ty Tryz.prog 313 [.agg (aF d), .a (.lit (.int .i64 i)), .a (.sl .u8 c)] [.agg (aF (qE d i c)), .a (.lit (.bool (jt d i c)))]:=by
 refine Sound.o X Tryz.call313 Tryz.func313 Tryz.ntmps313 rfl rfl ?_
 intro zb
 have kZ:d.rows.length≤1048576:=cI hs0
 refine W.s0 X [1,2,3,6] rfl ⟨⟩ ?_
 refine W.sr X [] [(10,⟨true,[.agg (aF d)]⟩)] [1,2,3,6,8] [] rfl (by(repeat' with_reducible first|exact aj.nil|refine aj.mk ?_ ?_|apply And.intro)<;>first|exact(eo d (by first|assumption|omega| (simp;done)| (simp;omega)))) ?_
 refine W.seq ?_
 refine W.sr X [] [(16,⟨false,[.a (.lit (.bool (inr i 0 (IntKind.i64.wrap ((d.rows.length:Int)-1)))))]⟩)] [1,2,6,8,22] [] rfl (by(repeat' with_reducible first|exact aj.nil|refine aj.mk ?_ ?_|apply And.intro)<;>first|exact(aK i 0 (IntKind.i64.wrap ((d.rows.length:Int)-1)))) ?_
 refine W.cond rfl (fun hb0=> ?_) (fun hb0=> ?_)
 ·have J0:jt d i c=false:=bK hb0 (by simp only[jt,aH]<;>first|rfl|ac_rfl)
  refine W.s0 X [6,7] rfl (by and_intros<;>exact⟨⟩) ?_
  refine W.ret ?_
  exact Fin.ret rfl ⟨by rw[Gn J0],by rw[J0],⟨⟩⟩
 ·have J0:jt d i c=true:=bG hb0 (by simp only[jt,aH]<;>first|rfl|ac_rfl)
  have hrb:=HS kZ J0
  refine W.skip ?_
  refine W.seq ?_
  refine W.fZ X [(29,27)] [] [6,8] [] 95 (.ph 31 (.br 31 5 (.ph 64 (.br 64 7 (.last 0) (.nil))) (.br 27 5 (.ph 68 (.br 68 7 (.last 0) (.nil))) (.br 29 5 (.ph 66 (.br 66 7 (.last 0) (.nil))) (.br 25 5 (.ph 70 (.br 70 7 (.last 0) (.nil))) (.br 28 5 (.ph 67 (.br 67 7 (.last 0) (.nil))) (.br 24 5 (.ph 71 (.br 71 7 (.last 0) (.nil))) (.nil)))))))) 5 MO (by kernel_rfl) rfl (by kernel_rfl) (by and_intros<;>first|exact⟨⟩| (intros;omega)|exact rfl| (simp only[cT,maxLen,lens];omega)) ?_
  refine W.s0 X [6,7] rfl (by and_intros<;>exact⟨⟩) ?_
  refine W.ret ?_
  exact Fin.ret rfl ⟨by rw[qF J0];rfl,by rw[J0],⟨⟩⟩
theorem gb(a b:DB)(hs0:bX List.length a.rows≤1048576)(hs1:bX List.length b.rows≤1048576):Sound ty Tryz.prog 188 [.agg (aF a), .agg (aF b)] [.agg (aF (dD a b)), .a (.lit (.bool (gq a b)))]:=by
 refine Sound.o X Tryz.call188 Tryz.func188 Tryz.ntmps188 rfl rfl ?_
 intro zb
 have hla:a.rows.length≤1048576:=cI hs0
 have hlb:b.rows.length≤1048576:=cI hs1
 refine W.s0 X [2,3,4] rfl ⟨⟩ ?_
 refine W.seq ?_
 refine W.sr X [] [(9,⟨false,[.a (.lit (.bool (bV a)))]⟩),(13,⟨false,[.a (.lit (.bool (bV b)))]⟩)] [2,3,4,24] [] rfl (by(repeat' with_reducible first|exact aj.nil|refine aj.mk ?_ ?_|apply And.intro);(iterate 2 all_goals try first|exact(cF a)|exact fun _=>(cF b))) ?_
 refine W.cond rfl (fun hb0=> ?_) (fun hb0=> ?_)
 ·have wJ:gq a b=false:=bK hb0 (by simp only[gq,aH]<;>first|rfl|ac_rfl)
  refine W.sr X [] [(26,⟨true,[.agg (aF a)]⟩)] [4,5] [] rfl (by(repeat' with_reducible first|exact aj.nil|refine aj.mk ?_ ?_|apply And.intro)<;>first|exact(eo a (by first|assumption|omega| (simp;done)| (simp;omega)))) ?_
  refine W.ret ?_
  exact Fin.ret rfl ⟨by rw[qH wJ],by rw[wJ],⟨⟩⟩
 ·have wJ:gq a b=true:=bG hb0 (by simp only[gq,aH]<;>first|rfl|ac_rfl)
  have XH:=ux wJ
  have hxl:=jO wJ
  refine W.skip ?_
  refine W.s0 X [2,3,4,6] rfl ⟨⟩ ?_
  refine W.lG 6 0 60 (.sl .u8) rfl ?_
  refine W.seq ?_
  refine W.s0 X [2,3,4,6,7] rfl ⟨⟩ ?_
  refine W.block ?_
  refine W.aE (fun k=>k≤a.rows.length) (fun k:Nat=> [(7, .one (.a (.lit (.int .i64 k))))]) (fun k=> [(60, .arr (.sl .u8) ((fQ a b).take k))]) (fun k=>a.rows.length-k) 0 (fun k=>rfl) (Nat.zero_le _) rfl ?_
  intro k hk
  have hle:=aY (fQ a b) k
  refine W.seq ?_
  refine W.s0 X [2,3,4,6,7,32] rfl ⟨⟩ ?_
  refine W.cond rfl (fun aB=> ?_) (fun aB=> ?_)
  ·try simp only[nb,an,aq,aa]at aB
   have hs:=JS wJ k aB
   have ab1:(a.rows.getD k (au (.sl .u8))).length≤1048576:=by rw[lV XH.1 k (by omega)];decide
   have aem:(b.rows.getD k (au (.sl .u8))).length≤1048576:=by rw[lV XH.2.1 k (by omega)];decide
   refine W.skip ?_
   refine W.seq ?_
   refine W.block ?_
   refine W.draw X [(49,60)] [(47,⟨true,[.a (.sl .u8 (cJ (a.rows.getD k (au (.sl .u8))) (b.rows.getD k (au (.sl .u8)))))]⟩),(500048,⟨true,[]⟩)] [2,3,4,6,7] [] 14 MO (by kernel_rfl) rfl (by(repeat' with_reducible first|exact aj.nil|refine aj.mk ?_ ?_|apply And.intro)<;>first|exact(jB (a.rows.getD k (au (.sl .u8))) (b.rows.getD k (au (.sl .u8))) (by first|assumption|omega| (simp;done)| (simp;omega)) (by first|assumption|omega| (simp;done)| (simp;omega)))| (intros;omega)|exact rfl|exact⟨rfl,bA _ (by decide)⟩| (simp only[cT,maxLen,lens];omega)) ?_
   refine W.r0 X [2,3,4,6,7] rfl ⟨⟩ ?_
   refine⟨k+1,by omega,by omega,?_⟩
   rw[aR _ k rfl (by omega),hs]
   try rfl
  ·try simp only[nb,an,aq,aa]at aB
   refine W.exit ?_
   refine W.s0 X [4,5] rfl (by and_intros<;>exact⟨⟩) ?_
   refine W.ret ?_
   exact Fin.ret rfl ⟨by rw[List.take_of_length_le (by omega),qG wJ],by rw[wJ],⟨⟩⟩
theorem zg(x:aJ)(c:Int)(oK:x.ah.length≤1048576):Sound ty Tryz.prog 311 [.agg (aG x), .a (.lit (.int .i64 c))] [.a (.sl .int (gr x c))]:=by
 refine Sound.o X Tryz.call311 Tryz.func311 Tryz.ntmps311 rfl rfl ?_
 intro zb
 have hw:IntKind.i64.wrap ((x.ah.length:Int)-1)=(x.ah.length:Int)-1:=bl (by omega)
 refine W.s0 X [1,2] rfl ⟨⟩ ?_
 refine W.s0 X [1,2,5] rfl (by and_intros<;>first|exact⟨⟩|exact rfl) ?_
 refine W.seq ?_
 refine W.s0 X [1,2,5,6] rfl ⟨⟩ ?_
 refine W.block ?_
 refine W.aE (fun k=>k≤(x.ah.length-1)) (fun k:Nat=> [(6, .one (.a (.lit (.int .i64 k))))]) (fun k=> [(7, .arr .int ((gr x c).take k))]) (fun k=>(x.ah.length-1)-k) 0 (fun k=>rfl) (Nat.zero_le _) rfl ?_
 intro k hk
 have hle:=aY (gr x c) k
 have hrl:=iE x c
 refine W.seq ?_
 refine W.s0 X [1,2,5,6,13] rfl ⟨⟩ ?_
 refine W.cond rfl (fun hb0=> ?_) (fun hb0=> ?_)
 ·try simp only[nb,an,aq,aa]at hb0
  rw[hw]at hb0
  have hs:=BI x c k (by omega)
  refine W.skip ?_
  refine W.seq ?_
  refine W.block ?_
  refine W.cD X [(26,7)] [(24,⟨false,[.a (.lit (.int .i64 (kh x.seed [223,x.round,c,(k:Int)])))]⟩)] [1,2,5,6] [] rfl (by(repeat' with_reducible first|exact aj.nil|refine aj.mk ?_ ?_|apply And.intro)<;>first|exact(aW x.seed [223,x.round,c,(k:Int)] (by first|assumption|omega| (simp;done)| (simp;omega)))|exact rfl|exact⟨rfl,bA _ (by decide)⟩| (simp only[cT,maxLen,lens];omega)) ?_
  refine W.r0 X [1,2,5,6] rfl ⟨⟩ ?_
  refine⟨k+1,by omega,by omega,?_⟩
  rw[aR _ k rfl (by omega),hs]
  try rfl
 ·try simp only[nb,an,aq,aa]at hb0
  rw[hw]at hb0
  refine W.exit ?_
  refine W.s0 X [4] rfl ⟨⟩ ?_
  refine W.ret ?_
  exact Fin.ret rfl ⟨by rw[List.take_of_length_le (by omega)],⟨⟩⟩
end
section
set_option maxRecDepth 100000
theorem wK(rows i:Int)(c:List UInt8):Sound ty Tryz.prog 312 [.a (.lit (.int .i64 rows)), .a (.lit (.int .i64 i)), .a (.sl .u8 c)] [.a (.lit (.bool (fT rows i c)))]:=by
 refine Sound.o X Tryz.call312 Tryz.func312 Tryz.ntmps312 rfl rfl ?_
 intro zb
 refine W.s0 X [0,1,2] rfl ⟨⟩ ?_
 refine W.sr X [] [(8,⟨false,[.a (.lit (.bool (inr rows 1 64)))]⟩),(13,⟨false,[.a (.lit (.bool (inr i 0 (IntKind.i64.wrap (rows-1)))))]⟩)] [6] [] rfl (by(repeat' with_reducible first|exact aj.nil|refine aj.mk ?_ ?_|apply And.intro);(iterate 2 all_goals try first|exact(aK rows 1 64)|exact fun _=>(aK i 0 (IntKind.i64.wrap (rows-1))))) ?_
 refine W.ret ?_
 exact Fin.ret rfl ⟨by rw[zj];exact(congrArg Value.bool (by simp only[aH]<;>first|rfl|ac_rfl)),⟨⟩⟩
theorem AT(rows i:Int)(c:List UInt8)(sd:List Int)(hc:c.length≤1048576)(rN:sd.length≤1048576):Sound ty Tryz.prog 310 [.a (.lit (.int .i64 rows)), .a (.lit (.int .i64 i)), .a (.sl .u8 c), .a (.sl .int sd)] [.a (.sl .DB (mY rows i c sd))]:=by
 refine Sound.o X Tryz.call310 Tryz.func310 Tryz.ntmps310 rfl rfl ?_
 intro zb
 have hz:=vG rows
 refine W.s0 X [0,1,2,3] rfl ⟨⟩ ?_
 refine W.s0 X [0,1,2,3,9] rfl (by and_intros<;>first|exact⟨⟩|exact rfl) ?_
 refine W.seq ?_
 refine W.sr X [] [(19,⟨false,[.a (.lit (.bool (fT rows i c)))]⟩),(25,⟨false,[.a (.lit (.bool (cq (IntKind.i64.wrap ((sd.length:Int)+1)))))]⟩)] [0,1,2,3,9,27] [] rfl (by(repeat' with_reducible first|exact aj.nil|refine aj.mk ?_ ?_|apply And.intro);(iterate 2 all_goals try first|exact(wK rows i c)|exact fun _=>(gk (IntKind.i64.wrap ((sd.length:Int)+1))))) ?_
 refine W.cond rfl (fun hb0=> ?_) (fun hb0=> ?_)
 ·have hmk:sW rows i c sd=false:=bK hb0 (by simp only[sW,aH]<;>first|rfl|ac_rfl)
  refine W.s0 X [8] rfl ⟨⟩ ?_
  refine W.ret ?_
  exact Fin.ret rfl ⟨by rw[mY,if_neg (by rw[hmk];decide)],⟨⟩⟩
 ·have hmk:sW rows i c sd=true:=bG hb0 (by simp only[sW,aH]<;>first|rfl|ac_rfl)
  have hml:=J3 hmk rN
  have hun:=xl hml.1
  refine W.skip ?_
  refine W.sr X [] [(31,⟨true,[.agg (aF (cw rows))]⟩),(34,⟨true,[.agg (aF (qE (cw rows) i c)), .a (.lit (.bool (jt (cw rows) i c)))]⟩)] [0,3,9,10] [] rfl (by(repeat' with_reducible first|exact aj.nil|refine aj.mk ?_ ?_|apply And.intro);(iterate 2 all_goals try first|exact(jP rows)|exact(o7 (cw rows) i c (by first|assumption|omega| (simp;done)| (simp;omega)) (by first|assumption|omega| (simp;done)| (simp;omega))))) ?_
  rw[Ws hmk]
  refine W.seq ?_
  refine W.s0 X [0,3,9,10,12] rfl ⟨⟩ ?_
  refine W.block ?_
  refine W.aE (fun k=>k≤sd.length) (fun k:Nat=> [(12, .one (.a (.lit (.int .i64 k))))]) (fun k=> [(15, .arr .DB ((sd.take k).map fun s=>J2 s rows)),(34, .arr (.sl .u8) (o8 rows i c (sd.take k)).rows)]) (fun k=>sd.length-k) 0 (fun k=>rfl) (Nat.zero_le _) rfl ?_
  intro k hk
  have hle:=aY sd k
  have hlo:=Ez hml.1 (sd.take k)
  have hlz:=cZ hlo
  refine W.seq ?_
  refine W.s0 X [0,3,9,10,12,40] rfl ⟨⟩ ?_
  refine W.cond rfl (fun aB=> ?_) (fun aB=> ?_)
  ·try simp only[nb,an,aq,aa]at aB
   have hs:=l9 (fun s=>J2 s rows) sd k (au .int) aB
   have Da:=EA rows i c sd k aB
   have hmo:=HW (sd.getD k (au .int)) rows hun.2.2
   have hmz:=cZ hmo
   refine W.skip ?_
   refine W.seq ?_
   refine W.block ?_
   refine W.s0 X [0,3,9,10,12,13] rfl ⟨⟩ ?_
   refine W.lG 13 0 60 (.sl .u8) rfl ?_
   refine W.seq ?_
   refine W.s0 X [0,3,9,10,12,13,14] rfl ⟨⟩ ?_
   refine W.block ?_
   refine W.aE (fun k1=>k1≤rows.toNat) (fun k1:Nat=> [(14, .one (.a (.lit (.int .i64 k1))))]) (fun k1=> [(60, .arr (.sl .u8) ((gK (sd.getD k (au .int)) rows).take k1))]) (fun k1=>rows.toNat-k1) 0 (fun k1=>rfl) (Nat.zero_le _) rfl ?_
   intro k1 hk1
   have SM:=aY (gK (sd.getD k (au .int)) rows) k1
   refine W.seq ?_
   refine W.s0 X [0,3,9,10,12,13,14,46] rfl ⟨⟩ ?_
   refine W.cond rfl (fun aM=> ?_) (fun aM=> ?_)
   ·try simp only[nb,an,aq,aa]at aM
    have hs1:=zk (sd.getD k (au .int)) rows k1 (by omega)
    refine W.skip ?_
    refine W.seq ?_
    refine W.block ?_
    refine W.draw X [(60,60)] [(58,⟨true,[.a (.sl .u8 (stream (IntKind.i64.wrap ((sd.getD k (au .int))+IntKind.i64.wrap (1000*(k1:Int)))) (24:Int).toNat))]⟩),(500059,⟨true,[]⟩)] [0,3,9,10,12,13,14] [] 11 MO (by kernel_rfl) rfl (by(repeat' with_reducible first|exact aj.nil|refine aj.mk ?_ ?_|apply And.intro)<;>first|exact(jL (IntKind.i64.wrap ((sd.getD k (au .int))+IntKind.i64.wrap (1000*(k1:Int)))) 24 (by first|assumption|omega| (simp;done)| (simp;omega)) (by first|assumption|omega| (simp;done)| (simp;omega)))| (intros;omega)|exact rfl|exact⟨rfl,bA _ (by decide)⟩| (simp only[cT,maxLen,lens];omega)) ?_
    refine W.r0 X [0,3,9,10,12,13,14] rfl ⟨⟩ ?_
    refine⟨k1+1,by omega,by omega,?_⟩
    rw[aR _ k1 rfl (by omega),hs1]
    try rfl
   ·try simp only[nb,an,aq,aa]at aM
    rw[List.take_of_length_le (show(gK (sd.getD k (au .int)) rows).length≤k1 by rw[mq];omega)]
    refine W.exit ?_
    refine W.sr X [] [(65,⟨true,[.agg (aF (dD (o8 rows i c (sd.take k)) (J2 (sd.getD k (au .int)) rows))), .a (.lit (.bool (gq (o8 rows i c (sd.take k)) (J2 (sd.getD k (au .int)) rows))))]⟩)] [0,3,9,10,12,13] [] rfl (by(repeat' with_reducible first|exact aj.nil|refine aj.mk ?_ ?_|apply And.intro)<;>first|exact(gb (o8 rows i c (sd.take k)) (J2 (sd.getD k (au .int)) rows) (by first|assumption|omega| (simp;done)| (simp;omega)) (by first|assumption|omega| (simp;done)| (simp;omega)))) ?_
    refine W.kH 10 0 34 rfl ?_
    refine W.cD X [(71,15)] [] [0,3,9,10,12] [] rfl (by and_intros<;>first|exact⟨⟩|exact rfl| (simp only[cT,maxLen,lens];omega)) ?_
    refine W.r0 X [0,3,9,10,12] rfl ⟨⟩ ?_
    refine⟨k+1,by omega,by omega,?_⟩
    rw[aR _ k rfl (by omega),hs,Da]
    try rfl
  ·try simp only[nb,an,aq,aa]at aB
   refine W.exit ?_
   refine W.sr X [(75,15)] [] [8] [] rfl (by and_intros<;>first|exact⟨⟩|exact rfl| (simp only[cT,maxLen,lens];omega)) ?_
   refine W.ret ?_
   exact Fin.ret rfl ⟨by rw[List.take_of_length_le aB,mY,if_pos hmk],⟨⟩⟩
end
section
set_option maxRecDepth 100000
theorem qM(x:aJ)(c:Int)(oK:x.ah.length≤1048576)(hc:0≤c∧c<x.af.length):Sound ty Tryz.prog 212 [.agg (aG x), .a (.lit (.int .i64 c))] [.a (.sl .DB (bk x c))]:=by
 refine Sound.o X Tryz.call212 Tryz.func212 Tryz.ntmps212 rfl rfl ?_
 intro zb
 refine W.b7 0 2 rfl rfl (fun j0=> ?_)
 have Ar:=EB (AV x c) x.round x.rows
 have hwl:=iE x c
 refine W.s0 X [1,2] rfl ⟨⟩ ?_
 refine W.sd X [] [(19,⟨true,[.a (.lit (.int .i64 (kE (AV x c) x.round x.rows))), .a (.sl .u8 (fE (AV x c) x.round x.rows)), .a (.lit (.bool (nu (AV x c) x.round x.rows)))]⟩)] [1,2,5,6] [] 18 MO (by kernel_rfl) rfl (by(repeat' with_reducible first|exact aj.nil|refine aj.mk ?_ ?_|apply And.intro)<;>first|exact(xe (AV x c) x.round x.rows)| (intros;omega)) ?_
 refine W.sd X [] [(29,⟨true,[.a (.sl .int (gr x c))]⟩),(30,⟨true,[.a (.sl .DB (mY x.rows (kE (AV x c) x.round x.rows) (fE (AV x c) x.round x.rows) (gr x c)))]⟩)] [4] [] 9 MO (by kernel_rfl) rfl (by(repeat' with_reducible first|exact aj.nil|refine aj.mk ?_ ?_|apply And.intro);(iterate 2 all_goals try first|exact(zg x c (by first|assumption|omega| (simp;done)| (simp;omega)))|exact(AT x.rows (kE (AV x c) x.round x.rows) (fE (AV x c) x.round x.rows) (gr x c) (by first|assumption|omega| (simp;done)| (simp;omega)) (by first|assumption|omega| (simp;done)| (simp;omega))))) ?_
 refine W.ret ?_
 exact Fin.ret rfl ⟨rfl,⟨⟩⟩
end
end Go.Proofs.YteodajeiagmekaaGreat.G
