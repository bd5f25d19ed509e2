/-
  FnRounds: the law, walked by the symbolic machine: it returns true. No condition.
-/
import Derived.Test.YtcnomgcfijjkmaaGreatM13
import Derived.Test.YtcnomgcfijjkmaaGreatM15
namespace Go.Proofs.YtcnomgcfijjkmaaGreat.G
set_option linter.all false
open Go.RowKit L D Tryz
section
set_option maxRecDepth 100000
theorem sE(c:eg):So 71 [.agg (bP c)] [az (waiting c)]:=by
 refine ay X call71 func71 ntmps71 rfl rfl ?_
 intro zb
 exact aq X [1] rfl (aq X [2] rfl (aj (af rfl ⟨rfl,⟨⟩⟩)))
theorem lg(x:bp):So 18 [.agg (aT x)] [az (MS x.ak x.ak.length)]:=by
 refine ay X call18 func18 ntmps18 rfl rfl ?_
 intro zb
 refine bB 0 2 rfl rfl (fun mo=>(aq X [1] rfl (aq X [1,3] rfl (aa (aq X [3,7,8,9] rfl ?_)))))
 refine au (aG (fun k=>k≤x.ak.length) (fun k:Nat=> [(3, .one ((az (MS x.ak k)))),(9, .one ((az k)))]) (fun k=> []) (fun k=>x.ak.length-k) 0 (fun k=>rfl) (Nat.zero_le _) rfl ?_)
 intro k hk
 refine aq X [3,7,8,9,10] rfl ?_
 refine aa (ah rfl ?_ ?_)<;>intro hb0
 ·try simp only[aP]at hb0
  refine an (aa (au (aC X [3,5,7,8,9] rfl (by and_intros<;>first|exact⟨⟩| (intros;omega)) (aE X [] [(16,⟨false,[az (waiting ((x.ak.getD k (aI .bC)).live))]⟩)] [3,7,8,9] [] rfl (by(with_reducible and_intros)<;>first|exact⟨⟩|exact(sE ((x.ak.getD k (aI .bC)).live))) (bt X [3,7,8,9] rfl ?_)))))
  refine⟨k+1,by omega,by omega,?_⟩
  rw[bH _ k rfl (by omega)]
  try rfl
 ·try simp only[aP]at hb0
  exact aK (aq X [2] rfl (aj (af rfl ⟨by rw[show k=x.ak.length by omega],⟨⟩⟩)))
theorem lI(x:bp)(hd:x.ak.length≤1048576):So 19 [.agg (aT x)] [az (QF x.ak x.ak.length)]:=by
 refine ay X call19 func19 ntmps19 rfl rfl ?_
 intro zb
 refine bB 0 2 rfl rfl (fun mo=>(aq X [1] rfl (aq X [1,3] rfl (aa (aq X [1,3,7,8,9] rfl ?_)))))
 refine au (aG (fun k=>k≤x.ak.length) (fun k:Nat=> [(3, .one ((az (QF x.ak k)))),(9, .one ((az k)))]) (fun k=> []) (fun k=>x.ak.length-k) 0 (fun k=>rfl) (Nat.zero_le _) rfl ?_)
 intro k hk
 refine aq X [1,3,7,8,9,10] rfl ?_
 refine aa (ah rfl ?_ ?_)<;>intro hb0
 ·try simp only[aP]at hb0
  refine an (aa (au (aC X [1,3,4,5,7,8,9] rfl (by and_intros<;>first|exact⟨⟩| (intros;omega)) (aD X [] [(16,⟨false,[aH (xB x (k:Int))]⟩)] [1,3,4,5,7,8,9,16] [] rfl (by(with_reducible and_intros)<;>first|exact⟨⟩|exact(ED x (k:Int) (by first|assumption|omega| (simp;done)| (simp;omega)))) ?_))))
  refine ah rfl ?_ ?_<;>intro aW
  ·rw[Fi hb0,decide_eq_true_eq]at aW
   have hx:(IntKind.i64.wrap (BitVec.ofInt IntKind.i64.bits (k:Int)^^^BitVec.ofInt IntKind.i64.bits 1).toNat)=((k^^^1:Nat):Int):=SQ k (by omega)
   have hx0:0≤(IntKind.i64.wrap (BitVec.ofInt IntKind.i64.bits (k:Int)^^^BitVec.ofInt IntKind.i64.bits 1).toNat)∧(IntKind.i64.wrap (BitVec.ofInt IntKind.i64.bits (k:Int)^^^BitVec.ofInt IntKind.i64.bits 1).toNat)<(x.ak.length:Int):=by rw[hx];omega
   refine bZ X [] [] [1,3,7,8,9] [] 17 MO (by kernel_rfl) rfl (by and_intros<;>first|exact⟨⟩| (intros;omega)) (bt X [1,3,7,8,9] rfl ?_)
   refine⟨k+1,by omega,by omega,?_⟩
   rw[bH _ k rfl (by omega),Xf aW,hx,TZ]
   try rfl
  ·rw[Fi hb0,decide_eq_false_iff_not]at aW
   refine an (bt X [1,3,7,8,9] rfl ?_)
   refine⟨k+1,by omega,by omega,?_⟩
   rw[bH _ k rfl (by omega),T0 aW]
   try rfl
 ·try simp only[aP]at hb0
  exact aK (aq X [2] rfl (aj (af rfl ⟨by rw[show k=x.ak.length by omega],⟨⟩⟩)))
theorem Fj(x:bp)(hd:x.ak.length≤1048576):So 17 [.agg (aT x)] [aH (IK x)]:=by
 refine ay X call17 func17 ntmps17 rfl rfl ?_
 intro zb
 exact aq X [1] rfl (aD X [] [(4,⟨false,[az (MS x.ak x.ak.length)]⟩),(8,⟨false,[az (QF x.ak x.ak.length)]⟩)] [2] [] rfl (by(with_reducible and_intros);(iterate 2 all_goals try first|exact⟨⟩|exact(lg x)|exact fun _=>(lI x hd))) (aj (af rfl ⟨(congrArg Value.bool (by simp only[IK,aU]<;>first|rfl|ac_rfl)),⟨⟩⟩)))
theorem qY(x:bp)(c:Int)(hC:wC x 4100000):So 15 [.agg (aT x),az c] [.agg (aT (lZ x (K9 c)))]:=by
 refine ay X call15 func15 ntmps15 rfl rfl ?_
 intro zb
 have h0:wB x:=Fe hC (by decide)
 refine aq X [1,2,4] rfl (aD X [] [(7,⟨true,[.agg (aT x)]⟩)] [1,4,5] [] rfl (by(with_reducible and_intros)<;>first|exact⟨⟩|exact(dg x h0)) (aa (aD X [] [(9,⟨false,[aH (inr c 0 400)]⟩)] [1,4,5,9] [] rfl (by(with_reducible and_intros)<;>first|exact⟨⟩|exact(aM c 0 400)) ?_)))
 refine ah rfl ?_ ?_<;>intro hb0
 ·try simp only[aP]at hb0
  have hin:=aam hb0
  have hrn:=aal c
  refine aq X [4,5,10,11] rfl ?_
  refine au (aG (fun k=>k≤K9 c) (fun k:Nat=> [(11, .one ((az k)))]) (fun k=> [(8, .arr .bw (lZ x k).av),(9, .arr .bC (lZ x k).ak),(11, .arr .aN (lZ x k).aB.rounds),(15, .arr .int (lZ x k).replaced),(5, .box [aO (lZ x k).rows, .own 8, .own 9,aO (lZ x k).aB.rows, .own 11,aO (lZ x k).aX,aO (lZ x k).seed,aO (lZ x k).round, .own 15,aO (lZ x k).cancelled])]) (fun k=>K9 c-k) 0 (fun k=>rfl) (Nat.zero_le _) rfl ?_)
  intro k hk
  have hrb:=aan hC (k:=k) (by omega)
  refine aq X [4,5,10,11,12] rfl ?_
  refine aa (ah rfl ?_ ?_)<;>intro aW
  ·try simp only[aP]at aW
   refine an (aa (au (aE X [(14,150)] [(14,⟨true,[.agg (aT (cR (lZ x k)))]⟩)] [4,5,10,11] [] rfl (by(with_reducible and_intros)<;>first|exact⟨⟩|exact(mR (lZ x k) hrb.1)) (bl 151 8 rfl (bl 152 9 rfl (bl 154 11 rfl (bl 158 15 rfl (bt X [4,5,10,11] rfl ?_))))))))
   refine⟨k+1,by omega,by omega,?_⟩
   rw[bH _ k rfl (by omega)]
   try rfl
  ·try simp only[aP]at aW
   have hkk:K9 c=k:=by omega
   exact aK (aC X [4] rfl (by trivial) (aj (af rfl (by and_intros<;>first|exact⟨⟩| (rw[hkk];done)))))
 ·try simp only[aP]at hb0
  have hkk:=Xg hb0
  exact an (aC X [4] rfl (by trivial) (aj (af rfl (by and_intros<;>first|exact⟨⟩| (rw[hkk];rfl;done)))))
end
section
set_option maxRecDepth 100000
theorem wH(l:List UInt8)(hl:l.length≤1048576):So 7 [.a (.sl .u8 l)] [.agg (aT (Nf (Fq l) 4))]:=by
 refine j7 X2 call7 func7 rfl rfl (by decide) ntmps7 (by simp) ?_
 intro zb
 refine UA 0 (fun v=>rfl) (fun v=>(aq X2 [0,2] rfl (aa ?_)))
 have t1:=(Ah v l)
 refine aE X2 [] [(800005,⟨true,bF t1⟩),(700005,⟨true, .agg []:: .agg [.ptr 907 907]::bG t1⟩)] [2,3] [] rfl (by(with_reducible and_intros)<;>first|exact⟨⟩|exact t1|exact rfl) (aa ?_)
 have t1:=(xg v (Fq l) 4 l rfl hl (by decide))
 exact aE X2 [] [(800007,⟨true,bF t1⟩),(700007,⟨true, .agg [.ptr 1000 907]:: .agg [.ptr 61 61, .ptr 62 62, .ptr 64 64, .ptr 68 68]::bG t1⟩)] [2] [] rfl (by(with_reducible and_intros)<;>first|exact⟨⟩|exact t1|exact rfl) (aj (af rfl ⟨rfl,rfl,rfl,rfl,rfl,rfl,rfl,rfl,rfl,rfl,⟨⟩⟩))
end
section
set_option maxRecDepth 100000
set_option maxHeartbeats 1000000 in
theorem Ni(x0:List UInt8)(afR:(fun l=> ∀x,x∈l→(fun _=>True) x) x0):So 3 [.a (.sl .u8 x0)] [aH true]:=by
 refine ay X call3 func3 ntmps3 rfl rfl ?_
 intro zb
 refine aq X [0] rfl (aa (aD X [] [(9,⟨false,[aH (decide ((1048576:Int)<(x0.length:Int)))]⟩)] [0,9] [] rfl (by(with_reducible and_intros)<;>first|exact⟨⟩|exact(YK x0)) ?_))
 refine ah rfl ?_ ?_<;>intro hb0
 ·try simp only[aP]at hb0
  exact aq X [2] rfl (aj (af rfl ⟨rfl,⟨⟩⟩))
 ·try simp only[aP]at hb0
  have hl:x0.length≤1048576:=by omega
  have PE:=U5 (Fq x0) (s:=4) (by decide)
  have IU:=ady PE
  have Yy:=adx PE
  have hC:=PE.1
  have BO:=wY IU
  refine an (aD X [(11,20)] [(11,⟨true,[.agg (aT (Nf (Fq x0) 4))]⟩)] [3] [] rfl (by(with_reducible and_intros)<;>first|exact⟨⟩|exact(wH x0 hl)) ?_)
  generalize Nf (Fq x0) 4=x at PE IU Yy hC BO ⊢
  refine aD X [(13,40)] [(13,⟨true,[.agg (aT (cR x))]⟩)] [3,4] [] rfl (by(with_reducible and_intros)<;>first|exact⟨⟩|exact(mR x Yy)) (aa (aD X [] [(15,⟨false,[aH (okW x)]⟩)] [3,4,21] [] rfl (by(with_reducible and_intros)<;>first|exact⟨⟩|exact(cB x)) ?_))
  refine ah rfl ?_ ?_<;>intro aW
  ·have hno:gI x=false:=by(unfold gI;cases hk:okW x with|false=>rfl|true=>rw[hk]at aW;simp at aW;simp;omega)
   have hrw:cR x=x:=v5 hno
   refine aa ?_
   rw[hrw]
   exact aE X [] [(24,⟨false,[aH true]⟩),(27,⟨false,[.a (.sl .int (oH x))]⟩),(33,⟨false,[aH (okW x)]⟩)] [2] [] rfl (by(with_reducible and_intros);(iterate 3 all_goals try first|exact⟨⟩|exact(dR x IU)|exact fun _=>(mE x IU)|exact fun _=>(cB x))) (aj (af rfl ⟨by cases hk:okW x<;>simp[oH,hk],⟨⟩⟩))
  ·have hok:okW x=true:=by(cases hk:okW x with|true=>rfl|false=>rw[hk]at aW;simp at aW)
   have hrd:x.round<99999:=by(rw[hok]at aW;simp at aW;omega)
   have XN:x.cancelled≤1000:=PE.2
   obtain⟨f1,f2,f3,f4,f5⟩:=Lh hok hrd (by omega)
   have o7:=Qp hok
   have Cl:=BF hok (by omega)
   have w:=G6.of hok
   have w5:=w.yh
   have w6:=w.last
   have w7:=w.round
   have hC2:=zO hC
   have aid:=Fe hC2 (by decide)
   have hg:oH x=jf x.aX (bM x) (cZ (bM x)) (gG x) (bM x).length:=if_pos hok
   rw[←hg]at f2 f5
   have z1:IntKind.i64.wrap (x.round+1)=x.round+1:=bV (by omega)
   have z2:IntKind.i64.wrap (x.cancelled+1)=x.cancelled+1:=bV (by omega)
   have hrt:YI x=YI (cR x):=by unfold YI;rw[f3,f4,o7]
   have MG:lZ x (K9 3)=lZ (cR x) (K9 2):=by(show lZ x 3=lZ (cR x) 2;simp only[lZ])
   have hl6: ¬dh x.aB=x.round:=by omega
   have hbad: ¬(if(if(if(!okW (cR x))=true then true else(cR x).round !=IntKind.i64.wrap (x.round+1))=true then true else(dh (cR x).aB==x.round) !=(((oH x).length:Int)==0))=true then true else((cR x).cancelled==IntKind.i64.wrap (x.cancelled+1))==(dh (cR x).aB==x.round))=true:=by
    rw[Cl,f1,z1,z2,f2,f5]
    by_cases hz:(oH x).length=0
    ·rw[if_pos hz,if_pos hz,show(((oH x).length:Int)==0)=true from by rw[hz];rfl,show(x.cancelled==x.cancelled+1)=false from by rw[beq_eq_false_iff_ne];omega]
     simp
    ·rw[if_neg hz,if_neg hz,show(((oH x).length:Int)==0)=false from by rw[beq_eq_false_iff_ne];omega,show(dh x.aB==x.round)=false from by rw[beq_eq_false_iff_ne];exact hl6]
     simp
   have hC3:wC (lZ x (K9 3)) 1100:=jK (MM hC (K9 3)) (by decide)
   have Qv:=Fe hC3 (by decide)
   refine an (aD X [] [(36,⟨false,[.a (.sl .int (oH x))]⟩)] [3,4,5] [] rfl (by(with_reducible and_intros)<;>first|exact⟨⟩|exact(mE x IU)) (cQ X [] [(39,⟨false,[az (dh ((cR x).aB))]⟩)] [3,4,5,6] [] 7 MO (by kernel_rfl) rfl (by(with_reducible and_intros)<;>first|exact⟨⟩|exact(gd ((cR x).aB))) (aa (aD X [] [(44,⟨false,[aH (okW (cR x))]⟩)] [3,4,70] [] rfl (by(with_reducible and_intros)<;>first|exact⟨⟩|exact(b7 (cR x))) ?_))))
   refine ah rfl ?_ ?_<;>intro bz
   ·exact(hbad bz).elim
   ·exact an (aD X [] [(72,⟨false,[.a (.sl .gB (YI x))]⟩)] [3,4,7] [] rfl (by(with_reducible and_intros)<;>first|exact⟨⟩|exact(lJ x)) (cQ X [] [(74,⟨false,[.agg (aT (lZ x (K9 3)))]⟩),(76,⟨false,[.agg (aT (lZ x (K9 3)))]⟩),(77,⟨false,[aH true]⟩),(81,⟨false,[.a (.sl .gB (YI x))]⟩),(82,⟨false,[aH true]⟩),(86,⟨false,[aH (IK x)]⟩),(88,⟨false,[az (MS x.ak x.ak.length)]⟩),(92,⟨false,[az (QF x.ak x.ak.length)]⟩)] [2] [] 25 MO (by kernel_rfl) rfl (by(with_reducible and_intros);(iterate 8 all_goals try first|exact⟨⟩|exact(qY x 3 (jK hC (by decide)))|exact(by rw[MG];exact qY (cR x) 2 (jK hC2 (by decide)))|exact(dR (lZ x (K9 3)) Qv)|exact fun _=>(by rw[hrt];exact lJ (cR x))|exact fun _=>(tO (YI x))|exact fun _=>(Fj x BO)|exact fun _=>(lg x)|exact fun _ _=>(lI x BO))) (aj (af rfl ⟨by simp only[IK];cases(MS x.ak x.ak.length==0)<;>cases(QF x.ak x.ak.length==0)<;>rfl,⟨⟩⟩))))
end
end Go.Proofs.YtcnomgcfijjkmaaGreat.G
