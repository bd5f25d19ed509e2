/-
  FnExactDelay, walked by the symbolic machine: it returns true.
-/
import Derived.Test.YtmcgjpdljafkeaaGreatM34
import Derived.Test.YtmcgjpdljafkeaaGreatM36
namespace Go.Proofs.YtmcgjpdljafkeaaGreat.G
set_option linter.all false
open Go.RowKit L D
section
set_option maxRecDepth 100000
theorem Ds(x:aN)(hd:x.aa.length≤1048576):Sound ty Tryz.prog 75 [.agg (ay x)] [.a (.lit (.bool (jm x)))]:=by
 refine Sound.o X Tryz.call75 Tryz.func75 Tryz.ntmps75 rfl rfl ?_
 intro zb
 refine W.s0 X [1] rfl ⟨⟩ ?_
 refine W.sr X [] [(4,⟨false,[.a (.lit (.int .i64 (qu x.aa x.aa.length)))]⟩),(8,⟨false,[.a (.lit (.int .i64 (Bu x.aa x.aa.length)))]⟩)] [2] [] rfl (by(repeat' with_reducible first|exact ah.nil|refine ah.mk ?_ ?_|apply And.intro);(iterate 2 all_goals try first|exact(j6 x)|exact fun _=>(ku x hd))) ?_
 refine W.ret ?_
 exact Fin.ret rfl ⟨(congrArg Value.bool (by simp only[jm,aF]<;>first|rfl|ac_rfl)),⟨⟩⟩
theorem GB(x:aN)(l:Int)(hC:wC x 4100000):Sound ty Tryz.prog 22 [.agg (ay x), .a (.lit (.int .i64 l))] [.a (.lit (.int .i64 (delay x l)))]:=by
 refine Sound.o X Tryz.call22 Tryz.func22 Tryz.ntmps22 rfl rfl ?_
 intro zb
 have VQ:=Mo l
 have hlt:((nq l:Nat):Int)=k9 l 400∨(k9 l 400<0∧nq l=0):=by unfold nq;omega
 refine W.s0 X [1,2] rfl ⟨⟩ ?_
 refine W.s0 X [1,2,5] rfl ⟨⟩ ?_
 refine W.block ?_
 refine W.aI (fun k=>k≤nq l∧delay x l=Q9 x k (nq l-k)) (fun k:Nat=> [(5, .one (.a (.lit (.int .i64 k))))]) (fun k=> [(2, .box [.lit (.int .i64 (bN x k).rows), .sl .aU (bN x k).aj, .sl .aL (bN x k).aa, .lit (.int .i64 (bN x k).ak.rows), .sl .aA (bN x k).ak.rounds, .lit (.int .i64 (bN x k).az), .lit (.int .i64 (bN x k).seed), .lit (.int .i64 (bN x k).round), .sl .int (bN x k).replaced, .lit (.int .i64 (bN x k).cancelled)])]) (fun k=>nq l-k) 0 (fun k=>rfl) ⟨Nat.zero_le _,rfl⟩ rfl ?_
 rintro k ⟨hk,wE⟩
 have hrb:=Gz hC (k:=k) (by omega)
 refine W.seq ?_
 refine W.block ?_
 refine W.seq ?_
 refine W.sr X [] [(9,⟨false,[.a (.lit (.bool (jm (bN x k))))]⟩)] [1,2,5,9] [] rfl (by(repeat' with_reducible first|exact ah.nil|refine ah.mk ?_ ?_|apply And.intro)<;>first|exact(Ds (bN x k) hrb.2)) ?_
 refine W.cond rfl (fun hb0=> ?_) (fun hb0=> ?_)
 ·have hq:jm (bN x k)=true:=hb0
  refine W.s0 X [4] rfl ⟨⟩ ?_
  refine W.ret ?_
  exact Fin.ret rfl ⟨by rw[wE,Mp hq],⟨⟩⟩
 ·have hq:jm (bN x k)=false:=hb0
  refine W.skip ?_
  refine W.seq ?_
  refine W.s0 X [1,2,5,14] rfl ⟨⟩ ?_
  refine W.cond rfl (fun aD=> ?_) (fun aD=> ?_)
  ·try simp only[nb,an,au,af]at aD
   have Td:nq l-k=0:=by omega
   rw[Td,Mq hq]at wE
   refine W.s0 X [4] rfl ⟨⟩ ?_
   refine W.ret ?_
   exact Fin.ret rfl ⟨by rw[wE],⟨⟩⟩
  ·try simp only[nb,an,au,af]at aD
   have qA:k<nq l:=by omega
   rw[Ra hq (by omega),show nq l-k-1=nq l-(k+1)by omega]at wE
   refine W.skip ?_
   refine W.fH X [] [(16,⟨false,[.agg (ay (cP (bN x k)))]⟩)] [1,2,5] [] rfl (by(repeat' with_reducible first|exact ah.nil|refine ah.mk ?_ ?_|apply And.intro)<;>first|exact(fZ (bN x k) hrb.1)) ?_
   refine W.r0 X [1,2,5] rfl ⟨⟩ ?_
   refine⟨k+1,⟨by omega,wE⟩,by omega,?_⟩
   rw[aV _ k rfl (by omega)]
   try rfl
theorem Dt(x:aN)(hd:x.aa.length≤1048576):Sound ty Tryz.prog 74 [.agg (ay x)] [.a (.lit (.bool (jm x)))]:=by
 refine Sound.o X Tryz.call74 Tryz.func74 Tryz.ntmps74 rfl rfl ?_
 intro zb
 refine W.s0 X [1] rfl ⟨⟩ ?_
 refine W.sr X [] [(4,⟨false,[.a (.lit (.int .i64 (qu x.aa x.aa.length)))]⟩),(8,⟨false,[.a (.lit (.int .i64 (Bu x.aa x.aa.length)))]⟩)] [2] [] rfl (by(repeat' with_reducible first|exact ah.nil|refine ah.mk ?_ ?_|apply And.intro);(iterate 2 all_goals try first|exact(j7 x)|exact fun _=>(kA x hd))) ?_
 refine W.ret ?_
 exact Fin.ret rfl ⟨(congrArg Value.bool (by simp only[jm,aF]<;>first|rfl|ac_rfl)),⟨⟩⟩
theorem GC(x:aN)(l:Int)(hC:wC x 4100000):Sound ty Tryz.prog 21 [.agg (ay x), .a (.lit (.int .i64 l))] [.a (.lit (.int .i64 (delay x l)))]:=by
 refine Sound.o X Tryz.call21 Tryz.func21 Tryz.ntmps21 rfl rfl ?_
 intro zb
 have VQ:=Mo l
 have h0:wB x:=AN hC (by decide)
 refine W.s0 X [1,2] rfl ⟨⟩ ?_
 refine W.sr X [] [(8,⟨false,[.a (.lit (.int .i64 (k9 l 400)))]⟩),(9,⟨false,[.a (.lit (.int .i64 (if(k9 l 400)>0 then(k9 l 400)else 0)))]⟩)] [1,2] [] rfl (by(repeat' with_reducible first|exact ah.nil|refine ah.mk ?_ ?_|apply And.intro);(iterate 2 all_goals try first|exact(Dr l 400)|exact(kH 0 (k9 l 400)))) ?_
 rw[VM]
 refine W.sr X [] [(11,⟨false,[.agg (ay x)]⟩)] [1,5] [] rfl (by(repeat' with_reducible first|exact ah.nil|refine ah.mk ?_ ?_|apply And.intro)<;>first|exact(bT x h0)) ?_
 refine W.seq ?_
 refine W.s0 X [1,5,6] rfl ⟨⟩ ?_
 refine W.block ?_
 refine W.aI (fun k=>k≤nq l+1∧(k≤nq l→delay x l=Q9 x k (nq l-k))∧(k=nq l+1→delay x l= -1)) (fun k:Nat=> [(6, .one (.a (.lit (.int .i64 k))))]) (fun k=> [(5, .box [.lit (.int .i64 (bN x k).rows), .sl .aU (bN x k).aj, .sl .aL (bN x k).aa, .lit (.int .i64 (bN x k).ak.rows), .sl .aA (bN x k).ak.rounds, .lit (.int .i64 (bN x k).az), .lit (.int .i64 (bN x k).seed), .lit (.int .i64 (bN x k).round), .sl .int (bN x k).replaced, .lit (.int .i64 (bN x k).cancelled)])]) (fun k=>(nq l+1)-k) 0 (fun k=>rfl) ⟨Nat.zero_le _,fun _=>rfl,fun h=>by omega⟩ rfl ?_
 rintro k ⟨hk,wE,hde⟩
 have hrb:=Gz hC (k:=k) (by omega)
 refine W.seq ?_
 refine W.s0 X [1,5,6,14] rfl ⟨⟩ ?_
 refine W.cond rfl (fun hb0=> ?_) (fun hb0=> ?_)
 ·try simp only[nb,an,au,af]at hb0
  have Pa:=wE (by omega)
  refine W.skip ?_
  refine W.seq ?_
  refine W.block ?_
  refine W.seq ?_
  refine W.sr X [] [(18,⟨false,[.a (.lit (.bool (jm (bN x k))))]⟩)] [1,5,6,18] [] rfl (by(repeat' with_reducible first|exact ah.nil|refine ah.mk ?_ ?_|apply And.intro)<;>first|exact(Dt (bN x k) hrb.2)) ?_
  refine W.cond rfl (fun aD=> ?_) (fun aD=> ?_)
  ·have hq:jm (bN x k)=true:=aD
   refine W.s0 X [4] rfl ⟨⟩ ?_
   refine W.ret ?_
   exact Fin.ret rfl ⟨by rw[Pa,Mp hq],⟨⟩⟩
  ·have hq:jm (bN x k)=false:=aD
   refine W.skip ?_
   refine W.fH X [] [(21,⟨false,[.agg (ay (cP (bN x k)))]⟩)] [1,5,6] [] rfl (by(repeat' with_reducible first|exact ah.nil|refine ah.mk ?_ ?_|apply And.intro)<;>first|exact(iQ (bN x k) hrb.1)) ?_
   refine W.r0 X [1,5,6] rfl ⟨⟩ ?_
   refine⟨k+1,⟨by omega,fun h=>by rw[Pa,Ra hq (by omega),show nq l-k-1=nq l-(k+1)by omega],fun h=>by rw[Pa,show nq l-k=0 by omega,Mq hq]⟩,by omega,?_⟩
   rw[aV _ k rfl (by omega)]
   try rfl
 ·try simp only[nb,an,au,af]at hb0
  refine W.exit ?_
  refine W.s0 X [4] rfl ⟨⟩ ?_
  refine W.ret ?_
  exact Fin.ret rfl ⟨by rw[hde (by omega)],⟨⟩⟩
end
section
set_option maxRecDepth 100000
theorem Du(x0:aN)(NC:(iT) x0)(x1:Int)(Zr:we x1):Sound ty Tryz.prog 6 [.agg (ay x0), .a (.lit (.int .i64 x1))] [.a (.lit (.bool true))]:=by
 refine Sound.o X Tryz.call6 Tryz.func6 Tryz.ntmps6 rfl rfl ?_
 intro zb
 refine W.s0 X [1,2] rfl ⟨⟩ ?_
 refine W.s0 X [1,2,5] rfl ⟨⟩ ?_
 refine W.sr X [] [(11,⟨false,[.a (.lit (.int .i64 (szr (1048576) (bB x0))))]⟩)] [1,2,5] [] rfl ⟨kG x0 (1048576) (by omega) (by omega),⟨⟩⟩ ?_
 refine W.seq ?_
 refine W.s0 X [1,2,13] rfl ⟨⟩ ?_
 refine W.cond rfl (fun hb0=> ?_) (fun hb0=> ?_)
 ·try simp only[nb]at hb0
  refine W.s0 X [4] rfl ⟨⟩ ?_
  refine W.ret ?_
  exact Fin.ret rfl ⟨rfl,⟨⟩⟩
 ·try simp only[nb]at hb0
  obtain⟨e0,JY⟩:=cB hb0
  rw[e0]
  have hsz:bB x0≤1048576:=by omega
  have Jd:=dP x0
  have ND:=vE hsz
  have NF:=vF hsz
  refine W.skip ?_
  refine W.sr X [(15,225)] [(15,⟨true,[.agg (ay x0)]⟩),(17,⟨false,[.a (.lit (.int .i64 (delay x0 x1)))]⟩)] [1,2,6] [] rfl ⟨GC x0 x1 (dO (gr hsz) (by decide)),bU x0 (by omega),⟨⟩⟩ ?_
  refine W.sr X [(19,275)] [(19,⟨true,[.agg (ay x0)]⟩)] [1,2,6,7] [] rfl ⟨bU x0 (by omega),⟨⟩⟩ ?_
  refine W.sr X [] [(22,⟨false,[.a (.lit (.int .i64 (delay x0 x1)))]⟩)] [2,6,7,8] [] rfl ⟨GB x0 x1 (dO (gr hsz) (by decide)),⟨⟩⟩ ?_
  refine W.seq ?_
  refine W.s0 X [2,7,25] rfl ⟨⟩ ?_
  refine W.cond rfl (fun aD=> ?_) (fun aD=> ?_)
  ·exact absurd aD (by first| (simp;done)| (simp;omega))
  ·clear aD
   refine W.skip ?_
   refine W.seq ?_
   refine W.sd X [(28,325)] [(28,⟨true,[.agg (ay x0)]⟩),(29,⟨false,[.a (.lit (.bool true))]⟩)] [30] [] 5 MO (by kernel_rfl) rfl ⟨cu x0,bU x0 (by omega),⟨⟩⟩ ?_
   refine W.cond rfl (fun aR=> ?_) (fun aR=> ?_)
   ·exact absurd aR (by first| (simp;done)| (simp;omega))
   ·clear aR
    refine W.skip ?_
    refine W.s0 X [4] rfl ⟨⟩ ?_
    refine W.ret ?_
    exact Fin.ret rfl ⟨rfl,⟨⟩⟩
end
end Go.Proofs.YtmcgjpdljafkeaaGreat.G
