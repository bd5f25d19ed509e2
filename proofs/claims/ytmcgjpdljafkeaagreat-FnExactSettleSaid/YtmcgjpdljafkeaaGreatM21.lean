/-
  Rounds.
-/
import Derived.Test.YtmcgjpdljafkeaaGreatM16
namespace Go.Proofs.YtmcgjpdljafkeaaGreat.G
set_option linter.all false
open Go.RowKit L D
section
set_option maxRecDepth 100000
theorem qD(key c:Int)(cell:List UInt8):Sound ty Tryz.prog 290 [.a (.lit (.int .i64 key)), .a (.lit (.int .i64 c)), .a (.sl .u8 cell)] [.agg (eB (Jl key c cell)), .a (.lit (.bool (lK key c cell)))]:=by
 refine Sound.o X Tryz.call290 Tryz.func290 Tryz.ntmps290 rfl rfl ?_
 intro zb
 refine W.bound 2 rfl (fun jr=> ?_)
 refine W.s0 X [0,1,2,6] rfl ⟨⟩ ?_
 refine W.seq ?_
 refine W.sd X [] [(11,⟨false,[.a (.lit (.bool (iG key)))]⟩),(15,⟨false,[.a (.lit (.bool (inr c 0 1000000000000)))]⟩),(30,⟨false,[.a (.sl .u8 (four (ia key c ((cell.take (20:Int).toNat).drop (0:Int).toNat))))]⟩),(31,⟨false,[.a (.lit (.bool (((cell.take (cell.length:Int).toNat).drop (20:Int).toNat)==(four (ia key c ((cell.take (20:Int).toNat).drop (0:Int).toNat))))))]⟩)] [0,1,2,6,33] [] 24 MO (by kernel_rfl) rfl (by(repeat' with_reducible first|exact ah.nil|refine ah.mk ?_ ?_|apply And.intro);(iterate 4 all_goals try first|exact(gh key)|exact fun _=>(aE c 0 1000000000000)|exact fun _=>(nI key c ((cell.take (20:Int).toNat).drop (0:Int).toNat) (by rw[List.length_drop,List.length_take];omega))|exact fun _=>(iH ((cell.take (cell.length:Int).toNat).drop (20:Int).toNat) (four (ia key c ((cell.take (20:Int).toNat).drop (0:Int).toNat)))));all_goals first| ((intro h1;first| (intro h2;first| (intro h3;refine And.intro ?_ ?_)|refine And.intro ?_ ?_)|refine And.intro ?_ ?_)<;>first|omega| ((try simp only[nb,an,au]at*);(try simp(disch:=omega) only[cC]);omega))) ?_
 refine W.cond rfl (fun hb0=> ?_) (fun hb0=> ?_)
 ·have hA:Jk key c cell=false:=bD hb0 (by simp only[Jk,List.drop_zero,Int.reduceToNat,List.take_length,aF]<;>first|rfl|ac_rfl)
  have hk:=Kr hA
  refine W.s0 X [6,7] rfl (by and_intros<;>exact⟨⟩) ?_
  refine W.ret ?_
  exact Fin.ret rfl ⟨by rw[lZ hk],by rw[lZ hk],by rw[hk],⟨⟩⟩
 ·have hA:Jk key c cell=true:=bA hb0 (by simp only[Jk,List.drop_zero,Int.reduceToNat,List.take_length,aF]<;>first|rfl|ac_rfl)
  obtain⟨hol,zZ⟩:=Ge hA
  refine W.skip ?_
  refine W.sd X [] [(37,⟨false,[.a (.lit (.int .i64 (kL key c)))]⟩),(40,⟨true,[.a (.sl .u8 (decr (kL key c) ((cell.take (20:Int).toNat).drop (0:Int).toNat)))]⟩)] [6,8] [] 7 MO (by kernel_rfl) rfl (by(repeat' with_reducible first|exact ah.nil|refine ah.mk ?_ ?_|apply And.intro);(iterate 2 all_goals try first|exact(sn key c)|exact(CF (kL key c) ((cell.take (20:Int).toNat).drop (0:Int).toNat) (by rw[List.length_drop,List.length_take];omega)));all_goals first| (intros;omega)) ?_
  rw[Qv]
  refine W.seq ?_
  refine W.s0 X [6,8,45] rfl (by and_intros<;>first|exact⟨⟩| (intros;omega)) ?_
  refine W.cond rfl (fun aD=> ?_) (fun aD=> ?_)
  ·try simp only[nb,an,au,af]at aD
   rw[Nt]at aD
   have S2:14<Dy key c cell:=by have h:(14:Int)<(Dy key c cell:Int):=aD;omega
   have hk:=TF S2
   refine W.s0 X [6,7] rfl (by and_intros<;>exact⟨⟩) ?_
   refine W.ret ?_
   exact Fin.ret rfl ⟨by rw[lZ hk],by rw[lZ hk],by rw[hk],⟨⟩⟩
  ·try simp only[nb,an,au,af]at aD
   rw[Nt]at aD
   have S2:Dy key c cell≤14:=by have h:(Dy key c cell:Int)≤14:=aD;omega
   have S3:((Dx key c cell).getD (Int.toNat 1) (av .u8)).toNat≤14:=S2
   have DA:=Gg hA S2
   have hpk:=Xd hA S2
   have DD:=Kq key c cell
   refine W.skip ?_
   refine W.sd X [] [(58,⟨true,[.a (.sl .u8 (((Dx key c cell).take (IntKind.i64.wrap (2+IntKind.i64.wrap (((Dx key c cell).getD (Int.toNat 1) (av .u8)).toNat:Int))).toNat).drop (Int.toNat 2)))]⟩)] [6,9] [] 14 MO (by kernel_rfl) rfl (by(repeat' with_reducible first|exact ah.nil|refine ah.mk ?_ ?_|apply And.intro)<;>first|exact(bQ (((Dx key c cell).take (IntKind.i64.wrap (2+IntKind.i64.wrap (((Dx key c cell).getD (Int.toNat 1) (av .u8)).toNat:Int))).toNat).drop (Int.toNat 2)) (by rw[DD,DA];omega))| (intros;omega)| ((try simp only[nb,an,au]at*);(simp(disch:=omega) only[cC]);omega)) ?_
   rw[Kq,Nt]
   refine W.seq ?_
   refine W.sr X [] [(61,⟨false,[.a (.lit (.bool (iN (⟨Rp key c cell,TD key c cell⟩:Plain))))]⟩)] [6,9,62] [] rfl (by(repeat' with_reducible first|exact ah.nil|refine ah.mk ?_ ?_|apply And.intro)<;>first|exact(l6 (⟨Rp key c cell,TD key c cell⟩:Plain))) ?_
   refine W.cond rfl (fun aR=> ?_) (fun aR=> ?_)
   ·have hk:lK key c cell=false:=by rw[←hpk];simpa using aR
    refine W.s0 X [6,7] rfl (by and_intros<;>exact⟨⟩) ?_
    refine W.ret ?_
    exact Fin.ret rfl ⟨by rw[lZ hk],by rw[lZ hk],by rw[hk],⟨⟩⟩
   ·have hk:lK key c cell=true:=by rw[←hpk];simpa using aR
    refine W.skip ?_
    refine W.s0 X [6,7] rfl (by and_intros<;>exact⟨⟩) ?_
    refine W.ret ?_
    exact Fin.ret rfl ⟨by rw[Bl hk];rfl,by rw[Bl hk],by rw[hk],⟨⟩⟩
theorem qE(key c:Int)(cell:List UInt8):Sound ty Tryz.prog 317 [.a (.lit (.int .i64 key)), .a (.lit (.int .i64 c)), .a (.sl .u8 cell)] [.agg (eB (Jl key c cell)), .a (.lit (.bool (lK key c cell)))]:=by
 refine Sound.o X Tryz.call317 Tryz.func317 Tryz.ntmps317 rfl rfl ?_
 intro zb
 refine W.bound 2 rfl (fun jr=> ?_)
 refine W.s0 X [0,1,2,6] rfl ⟨⟩ ?_
 refine W.seq ?_
 refine W.sr X [] [(11,⟨false,[.a (.lit (.bool (iG key)))]⟩),(15,⟨false,[.a (.lit (.bool (inr c 0 1000000000000)))]⟩)] [0,1,2,6,22] [] rfl (by(repeat' with_reducible first|exact ah.nil|refine ah.mk ?_ ?_|apply And.intro);(iterate 2 all_goals try first|exact(gj key)|exact fun _=>(aP c 0 1000000000000))) ?_
 refine W.cond rfl (fun hb0=> ?_) (fun hb0=> ?_)
 ·have hH:TG key c cell=false:=bD hb0 (by simp only[TG,aF]<;>first|rfl|ac_rfl)
  have hk:=Vr hH
  refine W.s0 X [6,7] rfl (by and_intros<;>exact⟨⟩) ?_
  refine W.ret ?_
  exact Fin.ret rfl ⟨by rw[lZ hk],by rw[lZ hk],by rw[hk],⟨⟩⟩
 ·have hH:TG key c cell=true:=bA hb0 (by simp only[TG,aF]<;>first|rfl|ac_rfl)
  obtain⟨hk1,hk2,zZ⟩:=Xf hH
  have Xg:=SX hk1 hk2 zZ
  refine W.skip ?_
  refine W.sd X [] [] [0,1,2,6,8] [] 23 MO (by kernel_rfl) rfl (by and_intros<;>first|exact⟨⟩| (intros;omega)) ?_
  rw[SW]
  refine W.seq ?_
  refine W.sr X [] [(51,⟨false,[.a (.lit (.int .i64 (ia key c ((cell.take (20:Int).toNat).drop (0:Int).toNat))))]⟩)] [0,1,2,6,52] [] rfl (by(repeat' with_reducible first|exact ah.nil|refine ah.mk ?_ ?_|apply And.intro)<;>first|exact(oN key c ((cell.take (20:Int).toNat).drop (0:Int).toNat) (by rw[List.length_drop,List.length_take];omega))| (intros;omega)) ?_
  refine W.cond rfl (fun aD=> ?_) (fun aD=> ?_)
  ·try simp only[nb,an,au,af]at aD
   have hA:Jk key c cell=false:=by rw[Xg,decide_eq_false_iff_not];intro h;exact aD (by rw[h];simp)
   have hk:=Kr hA
   refine W.s0 X [6,7] rfl (by and_intros<;>exact⟨⟩) ?_
   refine W.ret ?_
   exact Fin.ret rfl ⟨by rw[lZ hk],by rw[lZ hk],by rw[hk],⟨⟩⟩
  ·try simp only[nb,an,au,af]at aD
   have hA:Jk key c cell=true:=by rw[Xg,decide_eq_true_eq,aD];simp
   obtain⟨hol,_⟩:=Ge hA
   refine W.skip ?_
   refine W.sd X [] [(56,⟨false,[.a (.lit (.int .i64 (kL key c)))]⟩),(59,⟨true,[.a (.sl .u8 (decr (kL key c) ((cell.take (20:Int).toNat).drop (0:Int).toNat)))]⟩)] [6,9] [] 7 MO (by kernel_rfl) rfl (by(repeat' with_reducible first|exact ah.nil|refine ah.mk ?_ ?_|apply And.intro);(iterate 2 all_goals try first|exact(oO key c)|exact(CH (kL key c) ((cell.take (20:Int).toNat).drop (0:Int).toNat) (by rw[List.length_drop,List.length_take];omega)));all_goals first| (intros;omega)) ?_
   rw[Qv]
   refine W.seq ?_
   refine W.s0 X [6,9,71] rfl (by and_intros<;>first|exact⟨⟩| (intros;omega)| ((intro h1;first| (intro h2;first| (intro h3;refine And.intro ?_ ?_)|refine And.intro ?_ ?_)|refine And.intro ?_ ?_)<;>first|omega| ((try simp only[nb,an,au]at*);(try simp(disch:=omega) only[cC]);omega))| (refine fun _=> ?_;dsimp only[hyps,GW];omega)) ?_
   refine W.cond rfl (fun aR=> ?_) (fun aR=> ?_)
   ·try simp only[nb,an,au,af]at aR
    rw[Nt,Nt]at aR
    have hk:lK key c cell=false:=by
     rcases aR with h|h
     ·exact Vm h
     ·exact TF (by have h:(14:Int)<(Dy key c cell:Int):=h;omega)
    refine W.s0 X [6,7] rfl (by and_intros<;>exact⟨⟩) ?_
    refine W.ret ?_
    exact Fin.ret rfl ⟨by rw[lZ hk],by rw[lZ hk],by rw[hk],⟨⟩⟩
   ·try simp only[nb,an,au,af]at aR
    rw[Nt,Nt]at aR
    have S2:Dy key c cell≤14:=by have h:(Dy key c cell:Int)≤14:=aR.2;omega
    have S3:((Dx key c cell).getD (Int.toNat 1) (av .u8)).toNat≤14:=S2
    have DA:=Gg hA S2
    have hk:lK key c cell=true:=Xe hA S2 aR.1
    have DD:=Kq key c cell
    refine W.skip ?_
    refine W.seq ?_
    refine W.fD X [(85,77)] [] [6,7] [] 45055 (.ph 4095 (.br 4095 12 (.ph 8192 (.br 8192 14 (.last 32768) (.nil))) (.br 4087 12 (.ph 8200 (.br 8200 14 (.last 32768) (.nil))) (.br 4083 12 (.ph 8204 (.br 8204 14 (.last 32768) (.nil))) (.br 4081 12 (.ph 8206 (.br 8206 14 (.last 32768) (.nil))) (.br 4080 12 (.ph 8207 (.br 8207 14 (.last 32768) (.nil))) (.nil))))))) 4 MO (by kernel_rfl) rfl (by kernel_rfl) (by and_intros<;>first|exact⟨⟩| (intros;omega)|exact rfl| ((try simp only[nb,an,au]at*);(simp(disch:=omega) only[cC]);omega)| (simp only[cN,maxLen,lens];omega)) ?_
    refine W.ret ?_
    exact Fin.ret rfl ⟨by rw[Bl hk];exact congrArg (Value.int IntKind.i64) (Nt _),by rw[Bl hk];exact DD,by rw[hk],⟨⟩⟩
theorem jC(a:iS)(r:Int)(hz:a.rounds.length≤1048576∧ ∀y,y∈a.rounds→bL List.length y.db.rows≤1048576):Sound ty Tryz.prog 131 [.agg (cj a), .a (.lit (.int .i64 r))] [.agg (aH (dJ a.rounds r)), .a (.lit (.bool (gX a.rounds r)))]:=by
 refine Sound.o X Tryz.call131 Tryz.func131 Tryz.ntmps131 rfl rfl ?_
 intro zb
 refine W.bS 0 1 rfl rfl (fun OG=> ?_)
 refine W.s0 X [1,2,4] rfl ⟨⟩ ?_
 refine W.seq ?_
 refine W.s0 X [1,4,9,10,11] rfl ⟨⟩ ?_
 refine W.block ?_
 refine W.aI (fun k=>k≤a.rounds.length∧(a.rounds.take k).any (Qo r)=false) (fun k:Nat=> [(11, .one (.a (.lit (.int .i64 k))))]) (fun k=> []) (fun k=>a.rounds.length-k) 0 (fun k=>rfl) ⟨Nat.zero_le _,rfl⟩ rfl ?_
 rintro k ⟨hk,hall⟩
 refine W.s0 X [1,4,9,10,11,12] rfl ⟨⟩ ?_
 refine W.seq ?_
 refine W.cond rfl (fun hb0=> ?_) (fun hb0=> ?_)
 ·try simp only[nb,an,au,af]at hb0
  refine W.skip ?_
  refine W.seq ?_
  refine W.block ?_
  refine W.s0 X [1,4,7,9,10,11] rfl (by and_intros<;>first|exact⟨⟩| (intros;omega)) ?_
  refine W.s0 X [1,4,7,9,10,11,18] rfl ⟨⟩ ?_
  refine W.cond rfl (fun aD=> ?_) (fun aD=> ?_)
  ·have hh:=Qp hb0 hall aD
   refine W.sr X [] [(21,⟨true,[.agg (aH ((a.rounds.getD k (av .aA)).db))]⟩)] [4,5] [] rfl (by(repeat' with_reducible first|exact ah.nil|refine ah.mk ?_ ?_|apply And.intro)<;>first|exact(bZ ((a.rounds.getD k (av .aA)).db) (hz.2 _ (getD_in _ hb0)))) ?_
   refine W.ret ?_
   exact Fin.ret rfl ⟨by rw[hh.2],by rw[hh.1],⟨⟩⟩
  ·skip
   refine W.skip ?_
   refine W.r0 X [1,4,9,10,11] rfl ⟨⟩ ?_
   refine⟨k+1,⟨by omega,vv (av .aA) hb0 hall aD⟩,by omega,?_⟩
   rw[aV _ k rfl (by omega)]
   try rfl
 ·try simp only[nb,an,au,af]at hb0
  refine W.exit ?_
  refine W.s0 X [4,5] rfl (by and_intros<;>exact⟨⟩) ?_
  refine W.ret ?_
  exact Fin.ret rfl ⟨by rw[(Bh (by rw[←hall,List.take_of_length_le hb0])).2],by rw[(Bh (by rw[←hall,List.take_of_length_le hb0])).1],⟨⟩⟩
theorem zD(rows:List (List UInt8))(v:List Int)(hr: ∀r,r∈rows→r.length≤1048576):Sound ty Tryz.prog 297 [.a (.sl (.sl .u8) rows), .a (.sl .int v)] [.a (.sl .u8 (xG rows v))]:=by
 refine Sound.o X Tryz.call297 Tryz.func297 Tryz.ntmps297 rfl rfl ?_
 intro zb
 refine W.bound 0 rfl (fun Yp=> ?_)
 refine W.bound 1 rfl (fun nr=> ?_)
 refine W.s0 X [0,1] rfl ⟨⟩ ?_
 refine W.s0 X [0,1,5] rfl (by and_intros<;>first|exact⟨⟩|exact rfl) ?_
 refine W.seq ?_
 refine W.s0 X [1,5,9,10,11] rfl ⟨⟩ ?_
 refine W.block ?_
 refine W.aI (fun k=>k≤rows.length) (fun k:Nat=> [(11, .one (.a (.lit (.int .i64 k))))]) (fun k=> [(8, .arr .u8 (qo rows v k))]) (fun k=>rows.length-k) 0 (fun k=>rfl) (Nat.zero_le _) rfl ?_
 intro k hk
 have hle:=sN v hr k hk
 refine W.s0 X [1,5,9,10,11,12] rfl ⟨⟩ ?_
 refine W.seq ?_
 refine W.cond rfl (fun hb0=> ?_) (fun hb0=> ?_)
 ·try simp only[nb,an,au,af]at hb0
  have hel:=hr _ (getD_in (av (.sl .u8)) hb0)
  refine W.skip ?_
  refine W.seq ?_
  refine W.block ?_
  refine W.s0 X [1,5,6,7,9,10,11] rfl (by and_intros<;>first|exact⟨⟩| (intros;omega)) ?_
  refine W.s0 X [1,5,7,9,10,11,26] rfl (by and_intros<;>first|exact⟨⟩| ((intro h1;first| (intro h2;first| (intro h3;refine And.intro ?_ ?_)|refine And.intro ?_ ?_)|refine And.intro ?_ ?_)<;>first|omega| ((try simp only[nb,an,au]at*);(try simp(disch:=omega) only[cC]);omega))) ?_
  refine W.cond rfl (fun aD=> ?_) (fun aD=> ?_)
  ·try simp only[nb,an,au,af]at aD
   have hs:=xH (rows:=rows) aD.1 aD.2
   refine W.fH X [] [(29,⟨true,[.a (.sl .u8 (dz (qo rows v k) (rows.getD k (av (.sl .u8)))))]⟩)] [1,5,9,10,11] [] rfl (by(repeat' with_reducible first|exact ah.nil|refine ah.mk ?_ ?_|apply And.intro)<;>first|exact(iO (qo rows v k) (rows.getD k (av (.sl .u8))) (by first|assumption|omega| (simp;done)| (simp;omega)) (by first|assumption|omega| (simp;done)| (simp;omega)))) ?_
   refine W.rename 5 8 rfl ?_
   refine W.r0 X [1,5,9,10,11] rfl ⟨⟩ ?_
   refine⟨k+1,by omega,by omega,?_⟩
   rw[aV _ k rfl (by omega),hs]
   try rfl
  ·try simp only[nb,an,au,af]at aD
   have hs:=o8 (rows:=rows) (v:=v) (k:=k) (by omega)
   refine W.skip ?_
   refine W.r0 X [1,5,9,10,11] rfl ⟨⟩ ?_
   refine⟨k+1,by omega,by omega,?_⟩
   rw[aV _ k rfl (by omega),hs]
   try rfl
 ·try simp only[nb,an,au,af]at hb0
  refine W.exit ?_
  refine W.s0 X [4] rfl ⟨⟩ ?_
  refine W.ret ?_
  exact Fin.ret rfl ⟨by rw[Ix hk (Or.inl hb0)],⟨⟩⟩
theorem ng(d:DB)(v:List Int):Sound ty Tryz.prog 222 [.agg (aH d), .a (.sl .int v)] [.a (.sl .u8 (eG d v))]:=by
 refine Sound.o X Tryz.call222 Tryz.func222 Tryz.ntmps222 rfl rfl ?_
 intro zb
 refine W.s0 X [1,2] rfl ⟨⟩ ?_
 refine W.seq ?_
 refine W.sr X [] [(6,⟨false,[.a (.lit (.bool (cG d)))]⟩),(13,⟨false,[.a (.lit (.bool (fM v (d.rows.length:Int))))]⟩)] [1,2,15] [] rfl (by(repeat' with_reducible first|exact ah.nil|refine ah.mk ?_ ?_|apply And.intro);(iterate 2 all_goals try first|exact(cL d)|exact fun _=>(ji v (d.rows.length:Int)))) ?_
 refine W.cond rfl (fun hb0=> ?_) (fun hb0=> ?_)
 ·have hk:(cG d&&fM v d.rows.length)=false:=bD hb0 (by simp only[aF]<;>first|rfl|ac_rfl)
  refine W.s0 X [4] rfl ⟨⟩ ?_
  refine W.ret ?_
  exact Fin.ret rfl ⟨by rw[eG,hk];rfl,⟨⟩⟩
 ·have hk:(cG d&&fM v d.rows.length)=true:=bA hb0 (by simp only[aF]<;>first|rfl|ac_rfl)
  have hkk:=hk
  rw[Bool.and_eq_true]at hkk
  have Nv: ∀r,r∈d.rows→r.length≤1048576:=fun r hr=>by rw[(jX.1 hkk.1).2 r hr];decide
  have hxl:(xG d.rows v).length≤1048576:=sN v Nv d.rows.length (Nat.le_refl _)
  refine W.skip ?_
  refine W.sd X [] [(20,⟨true,[.a (.sl .u8 (xG d.rows v))]⟩),(21,⟨true,[.a (.sl .u8 (dz Rm (xG d.rows v)))]⟩)] [4] [] 7 MO (by kernel_rfl) rfl ⟨iO Rm (xG d.rows v) (by rw[ql];decide) hxl,zD d.rows v Nv,⟨rfl,bH _ (by decide)⟩,rfl,by omega,⟨by decide,by decide⟩,⟨⟩⟩ ?_
  refine W.ret ?_
  exact Fin.ret rfl ⟨by rw[eG,if_pos hk],⟨⟩⟩
theorem pe(key:Int)(a:bJ)(h1:a.selection.length≤262144)(h2:a.data.length≤262144):Sound ty Tryz.prog 292 [.a (.lit (.int .i64 key)), .agg (dg a)] [.a (.lit (.int .i64 (zB key a.server a.round a.selection a.data)))]:=by
 refine Sound.o X Tryz.call292 Tryz.func292 Tryz.ntmps292 rfl rfl ?_
 intro zb
 refine W.s0 X [0,3] rfl ⟨⟩ ?_
 refine W.seq ?_
 refine W.fD X [] [(18,⟨true,[.a (.sl .int (yR a.data))]⟩),(20,⟨true,[.a (.sl .int [[191,a.server,a.round,(a.selection.length:Int)],a.selection,yR a.data].flatten)]⟩),(21,⟨false,[.a (.lit (.int .i64 (kh key ([[191,a.server,a.round,(a.selection.length:Int)],a.selection,yR a.data].flatten))))]⟩)] [4] [] 245759 (.ph 16383 (.br 16383 14 (.last 229376) (.br 16382 14 (.last 229377) (.nil)))) 1 MO (by kernel_rfl) rfl (by kernel_rfl) (by(repeat' with_reducible first|exact ah.nil|refine ah.mk ?_ ?_|apply And.intro);(iterate 3 all_goals try first|exact(mP a.data (by omega))|exact(jv [[191,a.server,a.round,(a.selection.length:Int)],a.selection,yR a.data] (by simp) (by simp[qm];omega))|exact(bt key ([[191,a.server,a.round,(a.selection.length:Int)],a.selection,yR a.data].flatten) (by simp[qm];omega)));all_goals first|exact rfl|exact⟨rfl,bH _ (by decide)⟩) ?_
 refine W.ret ?_
 exact Fin.ret rfl ⟨by simp[zB],⟨⟩⟩
theorem jD(a:iS)(r:Int)(hz:a.rounds.length≤1048576∧ ∀y,y∈a.rounds→bL List.length y.db.rows≤1048576):Sound ty Tryz.prog 178 [.agg (cj a), .a (.lit (.int .i64 r))] [.agg (aH (dJ a.rounds r)), .a (.lit (.bool (gX a.rounds r)))]:=by
 refine Sound.o X Tryz.call178 Tryz.func178 Tryz.ntmps178 rfl rfl ?_
 intro zb
 refine W.bS 0 1 rfl rfl (fun OG=> ?_)
 refine W.s0 X [1,2,4] rfl ⟨⟩ ?_
 refine W.seq ?_
 refine W.s0 X [1,2,4,6] rfl ⟨⟩ ?_
 refine W.block ?_
 refine W.aI (fun k=>k≤a.rounds.length∧(a.rounds.take k).any (Qo r)=false) (fun k:Nat=> [(6, .one (.a (.lit (.int .i64 k))))]) (fun k=> []) (fun k=>a.rounds.length-k) 0 (fun k=>rfl) ⟨Nat.zero_le _,rfl⟩ rfl ?_
 rintro k ⟨hk,hall⟩
 refine W.seq ?_
 refine W.s0 X [1,2,4,6,11] rfl ⟨⟩ ?_
 refine W.cond rfl (fun hb0=> ?_) (fun hb0=> ?_)
 ·try simp only[nb,an,au,af]at hb0
  refine W.skip ?_
  refine W.seq ?_
  refine W.block ?_
  refine W.s0 X [1,2,4,6,21] rfl (by and_intros<;>first|exact⟨⟩| (intros;omega)) ?_
  refine W.cond rfl (fun aD=> ?_) (fun aD=> ?_)
  ·have hh:=Qp hb0 hall aD
   refine W.sr X [] [(28,⟨true,[.agg (aH ((a.rounds.getD k (av .aA)).db))]⟩)] [4,5] [] rfl (by(repeat' with_reducible first|exact ah.nil|refine ah.mk ?_ ?_|apply And.intro)<;>first|exact(dD ((a.rounds.getD k (av .aA)).db) (hz.2 _ (getD_in _ hb0)))| (intros;omega)) ?_
   refine W.ret ?_
   exact Fin.ret rfl ⟨by rw[hh.2],by rw[hh.1],⟨⟩⟩
  ·skip
   refine W.skip ?_
   refine W.r0 X [1,2,4,6] rfl ⟨⟩ ?_
   refine⟨k+1,⟨by omega,vv (av .aA) hb0 hall aD⟩,by omega,?_⟩
   rw[aV _ k rfl (by omega)]
   try rfl
 ·try simp only[nb,an,au,af]at hb0
  refine W.exit ?_
  refine W.s0 X [4,5] rfl (by and_intros<;>exact⟨⟩) ?_
  refine W.ret ?_
  exact Fin.ret rfl ⟨by rw[(Bh (by rw[←hall,List.take_of_length_le hb0])).2],by rw[(Bh (by rw[←hall,List.take_of_length_le hb0])).1],⟨⟩⟩
theorem zE(rows:List (List UInt8))(v:List Int)(hr: ∀r,r∈rows→r.length≤1048576):Sound ty Tryz.prog 322 [.a (.sl (.sl .u8) rows), .a (.sl .int v)] [.a (.sl .u8 (xG rows v))]:=by
 refine Sound.o X Tryz.call322 Tryz.func322 Tryz.ntmps322 rfl rfl ?_
 intro zb
 refine W.bound 0 rfl (fun Yp=> ?_)
 refine W.bound 1 rfl (fun nr=> ?_)
 refine W.s0 X [0,1] rfl ⟨⟩ ?_
 refine W.s0 X [0,1,5] rfl (by and_intros<;>first|exact⟨⟩|exact rfl) ?_
 refine W.seq ?_
 refine W.s0 X [0,1,5,6] rfl ⟨⟩ ?_
 refine W.block ?_
 refine W.aI (fun k=>k≤rows.length) (fun k:Nat=> [(6, .one (.a (.lit (.int .i64 k))))]) (fun k=> [(7, .arr .u8 (qo rows v k))]) (fun k=>rows.length-k) 0 (fun k=>rfl) (Nat.zero_le _) rfl ?_
 intro k hk
 have hle:=sN v hr k hk
 refine W.seq ?_
 refine W.s0 X [0,1,5,6,17] rfl ⟨⟩ ?_
 refine W.cond rfl (fun hb0=> ?_) (fun hb0=> ?_)
 ·try simp only[nb,an,au,af]at hb0
  have hel:=hr _ (getD_in (av (.sl .u8)) hb0.1)
  refine W.skip ?_
  refine W.seq ?_
  refine W.block ?_
  refine W.s0 X [0,1,5,6,24] rfl (by and_intros<;>first|exact⟨⟩| (intros;omega)) ?_
  refine W.cond rfl (fun aD=> ?_) (fun aD=> ?_)
  ·try simp only[nb,an,au,af]at aD
   have hs:=xH (rows:=rows) hb0.2 aD
   refine W.fH X [] [(30,⟨true,[.a (.sl .u8 (dz (qo rows v k) (rows.getD k (av (.sl .u8)))))]⟩)] [0,1,5,6] [] rfl (by(repeat' with_reducible first|exact ah.nil|refine ah.mk ?_ ?_|apply And.intro)<;>first|exact(iP (qo rows v k) (rows.getD k (av (.sl .u8))) (by first|assumption|omega| (simp;done)| (simp;omega)) (by first|assumption|omega| (simp;done)| (simp;omega)))| (intros;omega)) ?_
   refine W.rename 5 7 rfl ?_
   refine W.r0 X [0,1,5,6] rfl ⟨⟩ ?_
   refine⟨k+1,by omega,by omega,?_⟩
   rw[aV _ k rfl (by omega),hs]
   try rfl
  ·try simp only[nb,an,au,af]at aD
   have hs:=o8 (rows:=rows) (v:=v) (k:=k) (fun h=>aD h.2)
   refine W.skip ?_
   refine W.r0 X [0,1,5,6] rfl ⟨⟩ ?_
   refine⟨k+1,by omega,by omega,?_⟩
   rw[aV _ k rfl (by omega),hs]
   try rfl
 ·try simp only[nb,an,au,af]at hb0
  refine W.exit ?_
  refine W.s0 X [4] rfl ⟨⟩ ?_
  refine W.ret ?_
  exact Fin.ret rfl ⟨by rw[Ix hk (by omega)],⟨⟩⟩
theorem nh(d:DB)(v:List Int):Sound ty Tryz.prog 261 [.agg (aH d), .a (.sl .int v)] [.a (.sl .u8 (eG d v))]:=by
 refine Sound.o X Tryz.call261 Tryz.func261 Tryz.ntmps261 rfl rfl ?_
 intro zb
 refine W.s0 X [1,2] rfl ⟨⟩ ?_
 refine W.seq ?_
 refine W.sr X [] [(6,⟨false,[.a (.lit (.bool (cG d)))]⟩),(13,⟨false,[.a (.lit (.bool (fM v (d.rows.length:Int))))]⟩)] [1,2,15] [] rfl (by(repeat' with_reducible first|exact ah.nil|refine ah.mk ?_ ?_|apply And.intro);(iterate 2 all_goals try first|exact(cx d)|exact fun _=>(jj v (d.rows.length:Int)))) ?_
 refine W.cond rfl (fun hb0=> ?_) (fun hb0=> ?_)
 ·have hk:(cG d&&fM v d.rows.length)=false:=bD hb0 (by simp only[aF]<;>first|rfl|ac_rfl)
  refine W.s0 X [4] rfl (by and_intros<;>first|exact⟨⟩|exact rfl) ?_
  refine W.ret ?_
  exact Fin.ret rfl ⟨by rw[eG,hk];rfl,⟨⟩⟩
 ·have hk:(cG d&&fM v d.rows.length)=true:=bA hb0 (by simp only[aF]<;>first|rfl|ac_rfl)
  have hkk:=hk
  rw[Bool.and_eq_true]at hkk
  have Nv: ∀r,r∈d.rows→r.length≤1048576:=fun r hr=>by rw[(jX.1 hkk.1).2 r hr];decide
  have hxl:(xG d.rows v).length≤1048576:=sN v Nv d.rows.length (Nat.le_refl _)
  refine W.skip ?_
  refine W.sd X [] [(21,⟨true,[.a (.sl .u8 (xG d.rows v))]⟩),(22,⟨true,[.a (.sl .u8 (dz Rm (xG d.rows v)))]⟩)] [4] [] 7 MO (by kernel_rfl) rfl ⟨iP Rm (xG d.rows v) (by rw[ql];decide) hxl,zE d.rows v Nv,⟨rfl,bH _ (by decide)⟩,rfl,by omega,⟨by decide,by decide⟩,⟨⟩⟩ ?_
  refine W.ret ?_
  exact Fin.ret rfl ⟨by rw[eG,if_pos hk],⟨⟩⟩
theorem kR(key:Int)(a:bJ)(h1:a.selection.length≤262144)(h2:a.data.length≤262144):Sound ty Tryz.prog 257 [.a (.lit (.int .i64 key)), .agg (dg a)] [.a (.lit (.int .i64 (zB key a.server a.round a.selection a.data)))]:=by
 refine Sound.o X Tryz.call257 Tryz.func257 Tryz.ntmps257 rfl rfl ?_
 intro zb
 have DA:=qm a.data
 refine W.s0 X [0,3] rfl ⟨⟩ ?_
 refine W.sr X [(16,13)] [] [0,3,5] [] rfl (by and_intros<;>first|exact⟨⟩|exact rfl| (simp only[cN,maxLen,lens];omega)) ?_
 refine W.sr X [(22,13)] [(21,⟨true,[.a (.sl .int (yR a.data))]⟩),(23,⟨false,[.a (.lit (.int .i64 (kh key ([191,a.server,a.round,(a.selection.length:Int)]++a.selection++yR a.data))))]⟩)] [4] [] rfl (by(repeat' with_reducible first|exact ah.nil|refine ah.mk ?_ ?_|apply And.intro);(iterate 2 all_goals try first|exact(mQ a.data (by omega))|exact(bu key ([191,a.server,a.round,(a.selection.length:Int)]++a.selection++yR a.data) (by simp[qm];omega)));all_goals first|exact rfl| (simp only[cN,maxLen,lens];omega)) ?_
 refine W.ret ?_
 exact Fin.ret rfl ⟨rfl,⟨⟩⟩
theorem uS(key:Int)(a:bJ)(h1:a.selection.length≤262144)(h2:a.data.length≤262144):gZ ty Tryz.prog 217 [(5, .arr .int a.selection),(6, .arr .u8 a.data)] [.a (.lit (.int .i64 key)), .agg [.lit (.int .i64 a.server), .lit (.int .i64 a.round), .own 5, .own 6, .lit (.int .i64 a.AW)]] [(5, .arr .int a.selection),(6, .arr .u8 a.data)] [.agg [.lit (.int .i64 a.server), .lit (.int .i64 a.round), .own 5, .own 6, .lit (.int .i64 (zB key a.server a.round a.selection a.data))]]:=by
 refine gZ.of X Tryz.call217 Tryz.func217 rfl rfl (by decide) Tryz.ntmps217 (by simp) rfl ?_
 intro zb
 refine W.s0 X [0,3,4] rfl ⟨⟩ ?_
 refine W.sr X [] [(7,⟨false,[.a (.lit (.int .i64 (zB key a.server a.round a.selection a.data)))]⟩)] [3,4] [] rfl (by(repeat' with_reducible first|exact ah.nil|refine ah.mk ?_ ?_|apply And.intro)<;>first|exact(pe key a h1 h2)) ?_
 refine W.s0 X [4] rfl (by and_intros<;>exact⟨⟩) ?_
 refine W.ret ?_
 exact zA.ret rfl ⟨rfl,rfl,rfl,rfl,rfl,⟨⟩⟩
theorem xJ(key sv r:Int)(d:DB)(v:List Int)(hv:v.length≤262144):Sound ty Tryz.prog 216 [.a (.lit (.int .i64 key)), .a (.lit (.int .i64 sv)), .a (.lit (.int .i64 r)), .agg (aH d), .a (.sl .int v)] [.agg (dg (fk key sv r d v)), .a (.lit (.bool (iw d v)))]:=by
 refine Sound.o X Tryz.call216 Tryz.func216 Tryz.ntmps216 rfl rfl ?_
 intro zb
 have hal:=sO d v
 refine W.s0 X [0,1,2,4,8,10] rfl ⟨⟩ ?_
 refine W.sr X [] [(15,⟨true,[.a (.sl .u8 (eG d v))]⟩)] [0,1,2,4,10,12] [] rfl (by(repeat' with_reducible first|exact ah.nil|refine ah.mk ?_ ?_|apply And.intro)<;>first|exact(ng d v)) ?_
 refine W.seq ?_
 refine W.s0 X [0,1,2,4,10,12,18] rfl ⟨⟩ ?_
 refine W.cond rfl (fun hb0=> ?_) (fun hb0=> ?_)
 ·try simp only[nb,an,au,af]at hb0
  have hk:=LQ (d:=d) (v:=v) (by omega)
  have hg:=Qx (key:=key) (sv:=sv) (r:=r) hk
  refine W.s0 X [10,11] rfl (by and_intros<;>exact⟨⟩) ?_
  refine W.ret ?_
  exact Fin.ret rfl (by and_intros<;>first|exact⟨⟩| (rw[hg];rfl;done)| (rw[hk];done))
 ·try simp only[nb,an,au,af]at hb0
  have hk:=Dc (d:=d) (v:=v) (by omega)
  have hg:=Bm (key:=key) (sv:=sv) (r:=r) hk
  have h24:=Bn hk
  refine W.skip ?_
  refine W.sr X [] [(24,⟨true,[.a (.sl .int v)]⟩),(800027,⟨true,[.agg [.lit (.int .i64 (⟨sv,r,v,eG d v,0⟩:bJ).server), .lit (.int .i64 (⟨sv,r,v,eG d v,0⟩:bJ).round), .own 5, .own 6, .lit (.int .i64 (zB key (⟨sv,r,v,eG d v,0⟩:bJ).server (⟨sv,r,v,eG d v,0⟩:bJ).round (⟨sv,r,v,eG d v,0⟩:bJ).selection (⟨sv,r,v,eG d v,0⟩:bJ).data))]]⟩),(700027,⟨true,[.agg [.ptr 5 24, .ptr 6 15], .agg [], .agg [.own 5, .own 6], .a (.sl .int ((⟨sv,r,v,eG d v,0⟩:bJ).selection)), .a (.sl .u8 ((⟨sv,r,v,eG d v,0⟩:bJ).data))]⟩)] [10,11] [] rfl (by(repeat' with_reducible first|exact ah.nil|refine ah.mk ?_ ?_|apply And.intro);(iterate 2 all_goals try first|exact(fU v (by omega))|exact(uS key (⟨sv,r,v,eG d v,0⟩:bJ) (by show v.length≤_;omega) (by show(eG d v).length≤_;omega)))) ?_
  refine W.ret ?_
  exact Fin.ret rfl (by and_intros<;>first|exact⟨⟩| (rw[hg];rfl;done)| (rw[hk];done))
theorem qF(s:aU)(key r:Int)(d:DB)(v:List Int)(hv:v.length≤262144):Sound ty Tryz.prog 132 [.agg (bw s), .a (.lit (.int .i64 key)), .a (.lit (.int .i64 r)), .agg (aH d), .a (.sl .int v)] [.agg (dg (Gf s key r d v)), .a (.lit (.bool (iw d v)))]:=by
 refine Sound.o X Tryz.call132 Tryz.func132 Tryz.ntmps132 rfl rfl ?_
 intro zb
 refine W.s0 X [1,2,4,5,8,10] rfl ⟨⟩ ?_
 refine W.sr X [] [(21,⟨true,[.agg (dg (fk key s.id r d v)), .a (.lit (.bool (iw d v)))]⟩)] [1,5,10,12,13] [] rfl (by(repeat' with_reducible first|exact ah.nil|refine ah.mk ?_ ?_|apply And.intro)<;>first|exact(xJ key s.id r d v (by first|assumption|omega| (simp;done)| (simp;omega)))) ?_
 refine W.seq ?_
 refine W.s0 X [1,10,12,13,29] rfl ⟨⟩ ?_
 refine W.cond rfl (fun hb0=> ?_) (fun hb0=> ?_)
 ·have hq:(iw d v&&(s.behavior==3))=true:=gS hb0 (by simp only[aF]<;>first|rfl|ac_rfl)
  obtain⟨hk,ha⟩:=LR (key:=key) (r:=r) hq
  have hg:=Bm (key:=key) (sv:=s.id) (r:=r) hk
  have wE:(fk key s.id r d v).data.length=24:=by rw[hg];exact Bn hk
  refine W.s0 X [1,10,12,13] rfl (by and_intros<;>first|exact⟨⟩| (intros;omega)|exact(qc _).1|exact(qc _).2) ?_
  rw[Qw]
  refine W.fH X [] [(800038,⟨true,[.agg [.lit (.int .i64 (⟨(fk key s.id r d v).server,(fk key s.id r d v).round,(fk key s.id r d v).selection,Bi (fk key s.id r d v).data,(fk key s.id r d v).AW⟩:bJ).server), .lit (.int .i64 (⟨(fk key s.id r d v).server,(fk key s.id r d v).round,(fk key s.id r d v).selection,Bi (fk key s.id r d v).data,(fk key s.id r d v).AW⟩:bJ).round), .own 5, .own 6, .lit (.int .i64 (zB key (⟨(fk key s.id r d v).server,(fk key s.id r d v).round,(fk key s.id r d v).selection,Bi (fk key s.id r d v).data,(fk key s.id r d v).AW⟩:bJ).server (⟨(fk key s.id r d v).server,(fk key s.id r d v).round,(fk key s.id r d v).selection,Bi (fk key s.id r d v).data,(fk key s.id r d v).AW⟩:bJ).round (⟨(fk key s.id r d v).server,(fk key s.id r d v).round,(fk key s.id r d v).selection,Bi (fk key s.id r d v).data,(fk key s.id r d v).AW⟩:bJ).selection (⟨(fk key s.id r d v).server,(fk key s.id r d v).round,(fk key s.id r d v).selection,Bi (fk key s.id r d v).data,(fk key s.id r d v).AW⟩:bJ).data))]]⟩),(700038,⟨true,[.agg [.ptr 5 23, .ptr 6 24], .agg [], .agg [.own 5, .own 6], .a (.sl .int ((⟨(fk key s.id r d v).server,(fk key s.id r d v).round,(fk key s.id r d v).selection,Bi (fk key s.id r d v).data,(fk key s.id r d v).AW⟩:bJ).selection)), .a (.sl .u8 ((⟨(fk key s.id r d v).server,(fk key s.id r d v).round,(fk key s.id r d v).selection,Bi (fk key s.id r d v).data,(fk key s.id r d v).AW⟩:bJ).data))]⟩)] [10,12,13] [] rfl (by(repeat' with_reducible first|exact ah.nil|refine ah.mk ?_ ?_|apply And.intro)<;>first|exact(uS key (⟨(fk key s.id r d v).server,(fk key s.id r d v).round,(fk key s.id r d v).selection,Bi (fk key s.id r d v).data,(fk key s.id r d v).AW⟩:bJ) (by show(fk key s.id r d v).selection.length≤_;rw[hg];exact hv) (by show(Bi (fk key s.id r d v).data).length≤_;rw[Gh,wE];decide))) ?_
  refine W.s0 X [10,11] rfl (by and_intros<;>exact⟨⟩) ?_
  refine W.ret ?_
  exact Fin.ret rfl (by and_intros<;>first|exact⟨⟩| (rw[ha];simp only[hg];rfl;done)| (rw[hk];done))
 ·have hq:(iw d v&&(s.behavior==3))=false:=kP hb0 (by simp only[aF]<;>first|rfl|ac_rfl)
  have ha:=Qy (key:=key) (r:=r) hq
  refine W.skip ?_
  refine W.s0 X [10,11] rfl (by and_intros<;>exact⟨⟩) ?_
  refine W.ret ?_
  exact Fin.ret rfl (by and_intros<;>first|exact⟨⟩|rfl| (rw[ha];done))
theorem xK(key sv r:Int)(d:DB)(v:List Int)(hv:v.length≤262144):Sound ty Tryz.prog 256 [.a (.lit (.int .i64 key)), .a (.lit (.int .i64 sv)), .a (.lit (.int .i64 r)), .agg (aH d), .a (.sl .int v)] [.agg (dg (fk key sv r d v)), .a (.lit (.bool (iw d v)))]:=by
 refine Sound.o X Tryz.call256 Tryz.func256 Tryz.ntmps256 rfl rfl ?_
 intro zb
 have hal:=sO d v
 refine W.s0 X [0,1,2,4,8,10] rfl ⟨⟩ ?_
 refine W.sr X [] [(16,⟨true,[.a (.sl .u8 (eG d v))]⟩)] [0,1,2,4,10,12] [] rfl (by(repeat' with_reducible first|exact ah.nil|refine ah.mk ?_ ?_|apply And.intro)<;>first|exact(nh d v)) ?_
 refine W.seq ?_
 refine W.s0 X [0,1,2,4,10,12,19] rfl ⟨⟩ ?_
 refine W.cond rfl (fun hb0=> ?_) (fun hb0=> ?_)
 ·try simp only[nb,an,au,af]at hb0
  have hk:=LQ (d:=d) (v:=v) (by omega)
  have hg:=Qx (key:=key) (sv:=sv) (r:=r) hk
  refine W.s0 X [10,11] rfl (by and_intros<;>exact⟨⟩) ?_
  refine W.ret ?_
  exact Fin.ret rfl (by and_intros<;>first|exact⟨⟩| (rw[hg];rfl;done)| (rw[hk];done))
 ·try simp only[nb,an,au,af]at hb0
  have hk:=Dc (d:=d) (v:=v) (by omega)
  have hg:=Bm (key:=key) (sv:=sv) (r:=r) hk
  have h24:=Bn hk
  refine W.skip ?_
  refine W.sr X [(25,23)] [] [0,10,13] [] rfl (by and_intros<;>first|exact⟨⟩|exact rfl| (simp only[cN,maxLen,lens];omega)) ?_
  refine W.sr X [] [(30,⟨false,[.a (.lit (.int .i64 (zB key (⟨sv,r,v,eG d v,0⟩:bJ).server (⟨sv,r,v,eG d v,0⟩:bJ).round (⟨sv,r,v,eG d v,0⟩:bJ).selection (⟨sv,r,v,eG d v,0⟩:bJ).data)))]⟩)] [10,13] [] rfl (by(repeat' with_reducible first|exact ah.nil|refine ah.mk ?_ ?_|apply And.intro)<;>first|exact(kR key (⟨sv,r,v,eG d v,0⟩:bJ) (by show v.length≤_;omega) (by show(eG d v).length≤_;omega))) ?_
  refine W.s0 X [10,11] rfl (by and_intros<;>exact⟨⟩) ?_
  refine W.ret ?_
  exact Fin.ret rfl (by and_intros<;>first|exact⟨⟩| (rw[hg];rfl;done)| (rw[hk];done))
theorem qG(s:aU)(key r:Int)(d:DB)(v:List Int)(hv:v.length≤262144):Sound ty Tryz.prog 179 [.agg (bw s), .a (.lit (.int .i64 key)), .a (.lit (.int .i64 r)), .agg (aH d), .a (.sl .int v)] [.agg (dg (Gf s key r d v)), .a (.lit (.bool (iw d v)))]:=by
 refine Sound.o X Tryz.call179 Tryz.func179 Tryz.ntmps179 rfl rfl ?_
 intro zb
 refine W.s0 X [1,2,4,5,8,10] rfl ⟨⟩ ?_
 refine W.sr X [] [(21,⟨true,[.agg (dg (fk key s.id r d v)), .a (.lit (.bool (iw d v)))]⟩)] [1,5,10,12,13] [] rfl (by(repeat' with_reducible first|exact ah.nil|refine ah.mk ?_ ?_|apply And.intro)<;>first|exact(xK key s.id r d v (by first|assumption|omega| (simp;done)| (simp;omega)))) ?_
 refine W.seq ?_
 refine W.s0 X [1,10,12,13,29] rfl ⟨⟩ ?_
 refine W.cond rfl (fun hb0=> ?_) (fun hb0=> ?_)
 ·have hq:(iw d v&&(s.behavior==3))=true:=gS hb0 (by simp only[aF]<;>first|rfl|ac_rfl)
  obtain⟨hk,ha⟩:=LR (key:=key) (r:=r) hq
  have hg:=Bm (key:=key) (sv:=s.id) (r:=r) hk
  have wE:(fk key s.id r d v).data.length=24:=by rw[hg];exact Bn hk
  refine W.sd X [] [] [1,10,12,13] [] 8 MO (by kernel_rfl) rfl (by and_intros<;>first|exact⟨⟩| (intros;omega)|exact(qc _).1|exact(qc _).2) ?_
  rw[Qw]
  refine W.fH X [] [(40,⟨false,[.a (.lit (.int .i64 (zB key (⟨(fk key s.id r d v).server,(fk key s.id r d v).round,(fk key s.id r d v).selection,Bi (fk key s.id r d v).data,(fk key s.id r d v).AW⟩:bJ).server (⟨(fk key s.id r d v).server,(fk key s.id r d v).round,(fk key s.id r d v).selection,Bi (fk key s.id r d v).data,(fk key s.id r d v).AW⟩:bJ).round (⟨(fk key s.id r d v).server,(fk key s.id r d v).round,(fk key s.id r d v).selection,Bi (fk key s.id r d v).data,(fk key s.id r d v).AW⟩:bJ).selection (⟨(fk key s.id r d v).server,(fk key s.id r d v).round,(fk key s.id r d v).selection,Bi (fk key s.id r d v).data,(fk key s.id r d v).AW⟩:bJ).data)))]⟩)] [10,12,13] [] rfl (by(repeat' with_reducible first|exact ah.nil|refine ah.mk ?_ ?_|apply And.intro)<;>first|exact(kR key (⟨(fk key s.id r d v).server,(fk key s.id r d v).round,(fk key s.id r d v).selection,Bi (fk key s.id r d v).data,(fk key s.id r d v).AW⟩:bJ) (by show(fk key s.id r d v).selection.length≤_;rw[hg];exact hv) (by show(Bi (fk key s.id r d v).data).length≤_;rw[Gh,wE];decide))) ?_
  refine W.s0 X [10,11] rfl (by and_intros<;>exact⟨⟩) ?_
  refine W.ret ?_
  exact Fin.ret rfl (by and_intros<;>first|exact⟨⟩| (rw[ha];simp only[hg];rfl;done)| (rw[hk];done))
 ·have hq:(iw d v&&(s.behavior==3))=false:=kP hb0 (by simp only[aF]<;>first|rfl|ac_rfl)
  have ha:=Qy (key:=key) (r:=r) hq
  refine W.skip ?_
  refine W.s0 X [10,11] rfl (by and_intros<;>exact⟨⟩) ?_
  refine W.ret ?_
  exact Fin.ret rfl (by and_intros<;>first|exact⟨⟩|rfl| (rw[ha];done))
theorem pg(b:List UInt8):Sound ty Tryz.prog 329 [.a (.sl .u8 b)] [.a (.lit (.bool (!decide ((b.length:Int)=24))))]:=by
 refine Sound.o X Tryz.call329 Tryz.func329 Tryz.ntmps329 rfl rfl ?_
 intro zb
 refine W.s0 X [0] rfl ⟨⟩ ?_
 refine W.s0 X [2] rfl ⟨⟩ ?_
 refine W.ret ?_
 exact Fin.ret rfl ⟨(congrArg Value.bool (by simp only[aF]<;>first|rfl|ac_rfl)),⟨⟩⟩
theorem DR(l:List (List UInt8))(hr: ∀a,a∈l→a.length≤1048576):Sound ty Tryz.prog 330 [.a (.sl (.sl .u8) l)] [.a (.sl .u8 (ug l))]:=by
 refine Sound.o X Tryz.call330 Tryz.func330 Tryz.ntmps330 rfl rfl ?_
 intro zb
 refine W.bound 0 rfl (fun jr=> ?_)
 refine W.s0 X [0] rfl ⟨⟩ ?_
 refine W.s0 X [0,3] rfl (by and_intros<;>first|exact⟨⟩|exact rfl) ?_
 refine W.seq ?_
 refine W.s0 X [3,7,8,9] rfl ⟨⟩ ?_
 refine W.block ?_
 refine W.aI (fun k=>k≤l.length) (fun k:Nat=> [(9, .one (.a (.lit (.int .i64 k))))]) (fun k=> [(6, .arr .u8 (ug (l.take k)))]) (fun k=>l.length-k) 0 (fun k=>rfl) (Nat.zero_le _) rfl ?_
 intro k hk
 have hle:=Iy hr k
 refine W.s0 X [3,7,8,9,10] rfl ⟨⟩ ?_
 refine W.seq ?_
 refine W.cond rfl (fun hb0=> ?_) (fun hb0=> ?_)
 ·try simp only[nb,an,au,af]at hb0
  have hel:=hr _ (getD_in (av (.sl .u8)) hb0)
  have hs:=zC l k hb0
  refine W.skip ?_
  refine W.seq ?_
  refine W.block ?_
  refine W.s0 X [3,5,7,8,9] rfl (by and_intros<;>first|exact⟨⟩| (intros;omega)) ?_
  refine W.fH X [] [(15,⟨true,[.a (.sl .u8 (dz (ug (l.take k)) (l.getD k (av (.sl .u8)))))]⟩)] [3,7,8,9] [] rfl (by(repeat' with_reducible first|exact ah.nil|refine ah.mk ?_ ?_|apply And.intro)<;>first|exact(iO (ug (l.take k)) (l.getD k (av (.sl .u8))) (by first|assumption|omega| (simp;done)| (simp;omega)) (by first|assumption|omega| (simp;done)| (simp;omega)))) ?_
  refine W.rename 3 6 rfl ?_
  refine W.r0 X [3,7,8,9] rfl ⟨⟩ ?_
  refine⟨k+1,by omega,by omega,?_⟩
  rw[aV _ k rfl (by omega),hs]
  try rfl
 ·try simp only[nb,an,au,af]at hb0
  refine W.exit ?_
  refine W.s0 X [2] rfl ⟨⟩ ?_
  refine W.ret ?_
  exact Fin.ret rfl ⟨by rw[List.take_of_length_le hb0],⟨⟩⟩
theorem DS(l:List (List UInt8))(hr: ∀a,a∈l→a.length≤1048576):Sound ty Tryz.prog 338 [.a (.sl (.sl .u8) l)] [.a (.sl .u8 (ug l))]:=by
 refine Sound.o X Tryz.call338 Tryz.func338 Tryz.ntmps338 rfl rfl ?_
 intro zb
 refine W.bound 0 rfl (fun jr=> ?_)
 refine W.s0 X [0] rfl ⟨⟩ ?_
 refine W.s0 X [0,3] rfl (by and_intros<;>first|exact⟨⟩|exact rfl) ?_
 refine W.seq ?_
 refine W.s0 X [0,3,4] rfl ⟨⟩ ?_
 refine W.block ?_
 refine W.aI (fun k=>k≤l.length) (fun k:Nat=> [(4, .one (.a (.lit (.int .i64 k))))]) (fun k=> [(5, .arr .u8 (ug (l.take k)))]) (fun k=>l.length-k) 0 (fun k=>rfl) (Nat.zero_le _) rfl ?_
 intro k hk
 have hle:=Iy hr k
 refine W.seq ?_
 refine W.s0 X [0,3,4,9] rfl ⟨⟩ ?_
 refine W.cond rfl (fun hb0=> ?_) (fun hb0=> ?_)
 ·try simp only[nb,an,au,af]at hb0
  have hel:=hr _ (getD_in (av (.sl .u8)) hb0)
  have hs:=zC l k hb0
  refine W.skip ?_
  refine W.seq ?_
  refine W.block ?_
  refine W.fH X [] [(17,⟨true,[.a (.sl .u8 (dz (ug (l.take k)) (l.getD k (av (.sl .u8)))))]⟩)] [0,3,4] [] rfl (by(repeat' with_reducible first|exact ah.nil|refine ah.mk ?_ ?_|apply And.intro)<;>first|exact(iP (ug (l.take k)) (l.getD k (av (.sl .u8))) (by first|assumption|omega| (simp;done)| (simp;omega)) (by first|assumption|omega| (simp;done)| (simp;omega)))| (intros;omega)) ?_
  refine W.rename 3 5 rfl ?_
  refine W.r0 X [0,3,4] rfl ⟨⟩ ?_
  refine⟨k+1,by omega,by omega,?_⟩
  rw[aV _ k rfl (by omega),hs]
  try rfl
 ·try simp only[nb,an,au,af]at hb0
  refine W.exit ?_
  refine W.s0 X [2] rfl ⟨⟩ ?_
  refine W.ret ?_
  exact Fin.ret rfl ⟨by rw[List.take_of_length_le hb0],⟨⟩⟩
theorem qO(l:List (List UInt8)):Sound ty Tryz.prog 289 [.a (.sl (.sl .u8) l)] [.a (.sl .u8 (LJ l)), .a (.lit (.bool (fE l)))]:=by
 refine Sound.o X Tryz.call289 Tryz.func289 Tryz.ntmps289 rfl rfl ?_
 intro zb
 refine W.bound 0 rfl (fun jr=> ?_)
 refine W.s0 X [0] rfl ⟨⟩ ?_
 refine W.seq ?_
 refine W.sr X [] [(6,⟨false,[.a (.lit (.bool (cE (l.length:Int))))]⟩),(10,⟨false,[.a (.lit (.bool (l.any fun b=> !decide ((b.length:Int)=24))))]⟩)] [0,11] [] rfl (by(repeat' with_reducible first|exact ah.nil|refine ah.mk ?_ ?_|apply And.intro);(iterate 2 all_goals try first|exact(dI (l.length:Int))|exact fun _=>(dy _ _ _ pg))) ?_
 refine W.cond rfl (fun hb0=> ?_) (fun hb0=> ?_)
 ·have hk:fE l=false:=by rw[fE,so];exact bD hb0 (by simp only[aF]<;>first|rfl|ac_rfl)
  refine W.s0 X [2,3] rfl ⟨⟩ ?_
  refine W.ret ?_
  exact Fin.ret rfl ⟨by rw[Bo hk],by rw[hk],⟨⟩⟩
 ·have hk:fE l=true:=by rw[fE,so];exact bA hb0 (by simp only[aF]<;>first|rfl|ac_rfl)
  have hel:=IB hk
  refine W.skip ?_
  refine W.sr X [] [(13,⟨true,[.a (.sl .u8 (ug l))]⟩)] [2,3] [] rfl (by(repeat' with_reducible first|exact ah.nil|refine ah.mk ?_ ?_|apply And.intro)<;>first|exact(DR l hel)) ?_
  refine W.ret ?_
  exact Fin.ret rfl ⟨by rw[LS hk],by rw[hk],⟨⟩⟩
theorem qP(l:List (List UInt8)):Sound ty Tryz.prog 316 [.a (.sl (.sl .u8) l)] [.a (.sl .u8 (LJ l)), .a (.lit (.bool (fE l)))]:=by
 refine Sound.o X Tryz.call316 Tryz.func316 Tryz.ntmps316 rfl rfl ?_
 intro zb
 refine W.bound 0 rfl (fun jr=> ?_)
 refine W.s0 X [0] rfl ⟨⟩ ?_
 refine W.seq ?_
 refine W.s0 X [0,4] rfl ⟨⟩ ?_
 refine W.block ?_
 refine W.aI (fun k=>k≤l.length∧(l.take k).all (fun a=>decide ((a.length:Int)=24))=true) (fun k:Nat=> [(4, .one (.a (.lit (.int .i64 k))))]) (fun k=> []) (fun k=>l.length-k) 0 (fun k=>rfl) ⟨Nat.zero_le _,rfl⟩ rfl ?_
 rintro k ⟨gO,hall⟩
 refine W.seq ?_
 refine W.s0 X [0,4,8] rfl ⟨⟩ ?_
 refine W.cond rfl (fun hb0=> ?_) (fun hb0=> ?_)
 ·try simp only[nb,an,au,af]at hb0
  refine W.skip ?_
  refine W.seq ?_
  refine W.block ?_
  refine W.s0 X [0,4,16] rfl (by and_intros<;>first|exact⟨⟩| (intros;omega)) ?_
  refine W.cond rfl (fun aD=> ?_) (fun aD=> ?_)
  ·try simp only[nb,an,au,af]at aD
   have hk:=SY hb0 (fun h=>aD (by rw[h];rfl))
   refine W.s0 X [2,3] rfl (by and_intros<;>first|exact⟨⟩|exact rfl) ?_
   refine W.ret ?_
   exact Fin.ret rfl ⟨by rw[Bo hk],by rw[hk],⟨⟩⟩
  ·try simp only[nb,an,au,af]at aD
   refine W.skip ?_
   refine W.r0 X [0,4] rfl ⟨⟩ ?_
   refine⟨k+1,⟨by omega,by rw[CC _ _ _ (av (.sl .u8)) hb0,hall,Bool.true_and];exact decide_eq_true aD⟩,by omega,?_⟩
   rw[aV _ k rfl (by omega)]
   try rfl
 ·try simp only[nb,an,au,af]at hb0
  rw[List.take_of_length_le hb0]at hall
  refine W.exit ?_
  refine W.seq ?_
  refine W.sr X [] [(20,⟨false,[.a (.lit (.bool (cE (l.length:Int))))]⟩)] [0,21] [] rfl (by(repeat' with_reducible first|exact ah.nil|refine ah.mk ?_ ?_|apply And.intro)<;>first|exact(gI (l.length:Int))) ?_
  refine W.cond rfl (fun aR=> ?_) (fun aR=> ?_)
  ·have hk:fE l=false:=by rw[fE,hall];simpa using aR
   refine W.s0 X [2,3] rfl (by and_intros<;>first|exact⟨⟩|exact rfl) ?_
   refine W.ret ?_
   exact Fin.ret rfl ⟨by rw[Bo hk],by rw[hk],⟨⟩⟩
  ·have hk:fE l=true:=by rw[fE,hall];simpa using aR
   have hel:=IB hk
   refine W.skip ?_
   refine W.sr X [] [(24,⟨true,[.a (.sl .u8 (ug l))]⟩)] [2,3] [] rfl (by(repeat' with_reducible first|exact ah.nil|refine ah.mk ?_ ?_|apply And.intro)<;>first|exact(DS l hel)) ?_
   refine W.ret ?_
   exact Fin.ret rfl ⟨by rw[LS hk],by rw[hk],⟨⟩⟩
theorem sR(l:List bJ)(hl:l.length≤1048576):Sound ty Tryz.prog 213 [.a (.sl .bJ l)] [.a (.sl .u8 (LJ (l.map bJ.data))), .a (.lit (.bool (fE (l.map bJ.data))))]:=by
 refine Sound.o X Tryz.call213 Tryz.func213 Tryz.ntmps213 rfl rfl ?_
 intro zb
 refine W.s0 X [0] rfl ⟨⟩ ?_
 refine W.s0 X [0,4] rfl (by and_intros<;>first|exact⟨⟩|exact rfl) ?_
 refine W.toBrr 4 60 rfl ?_
 refine W.seq ?_
 refine W.s0 X [4,8,9,10] rfl ⟨⟩ ?_
 refine W.block ?_
 refine W.aI (fun k=>k≤l.length) (fun k:Nat=> [(10, .one (.a (.lit (.int .i64 k))))]) (fun k=> [(60, .lT (.sl .u8) ((l.take k).map bJ.data) .nZ)]) (fun k=>l.length-k) 0 (fun k=>rfl) (Nat.zero_le _) rfl ?_
 intro k hk
 have hle:=aZ l k
 refine W.s0 X [4,8,9,10,11] rfl ⟨⟩ ?_
 refine W.seq ?_
 refine W.cond rfl (fun hb0=> ?_) (fun hb0=> ?_)
 ·try simp only[nb,an,au,af]at hb0
  have hs:=lG bJ.data l k (av .bJ) hb0
  have hml:((l.take k).map bJ.data).length=(l.take k).length:=List.length_map ..
  refine W.skip ?_
  refine W.seq ?_
  refine W.block ?_
  refine W.s0 X [4,6,8,9,10] rfl (by and_intros<;>first|exact⟨⟩| (intros;omega)) ?_
  refine W.fH X [(18,60)] [] [4,8,9,10] [] rfl (by and_intros<;>first|exact⟨⟩|exact rfl| (simp only[cN,maxLen,lens];omega)) ?_
  refine W.r0 X [4,8,9,10] rfl ⟨⟩ ?_
  refine⟨k+1,by omega,by omega,?_⟩
  rw[aV _ k rfl (by omega),hs]
  try rfl
 ·try simp only[nb,an,au,af]at hb0
  rw[List.take_of_length_le hb0]
  refine W.exit ?_
  refine W.sr X [] [(21,⟨true,[.a (.sl .u8 (LJ (l.map bJ.data))), .a (.lit (.bool (fE (l.map bJ.data))))]⟩)] [2,3] [] rfl (by(repeat' with_reducible first|exact ah.nil|refine ah.mk ?_ ?_|apply And.intro)<;>first|exact(qO (l.map bJ.data))) ?_
  refine W.ret ?_
  exact Fin.ret rfl ⟨rfl,rfl,⟨⟩⟩
theorem sS(l:List bJ)(hl:l.length≤1048576):Sound ty Tryz.prog 253 [.a (.sl .bJ l)] [.a (.sl .u8 (LJ (l.map bJ.data))), .a (.lit (.bool (fE (l.map bJ.data))))]:=by
 refine Sound.o X Tryz.call253 Tryz.func253 Tryz.ntmps253 rfl rfl ?_
 intro zb
 refine W.s0 X [0] rfl ⟨⟩ ?_
 refine W.s0 X [0,4] rfl (by and_intros<;>first|exact⟨⟩|exact rfl) ?_
 refine W.toBrr 4 60 rfl ?_
 refine W.seq ?_
 refine W.s0 X [0,4,5] rfl ⟨⟩ ?_
 refine W.block ?_
 refine W.aI (fun k=>k≤l.length) (fun k:Nat=> [(5, .one (.a (.lit (.int .i64 k))))]) (fun k=> [(60, .lT (.sl .u8) ((l.take k).map bJ.data) .nZ)]) (fun k=>l.length-k) 0 (fun k=>rfl) (Nat.zero_le _) rfl ?_
 intro k hk
 have hle:=aZ l k
 refine W.seq ?_
 refine W.s0 X [0,4,5,10] rfl ⟨⟩ ?_
 refine W.cond rfl (fun hb0=> ?_) (fun hb0=> ?_)
 ·try simp only[nb,an,au,af]at hb0
  have hs:=lG bJ.data l k (av .bJ) hb0
  have hml:((l.take k).map bJ.data).length=(l.take k).length:=List.length_map ..
  refine W.skip ?_
  refine W.seq ?_
  refine W.block ?_
  refine W.fH X [(20,60)] [] [0,4,5] [] rfl (by and_intros<;>first|exact⟨⟩| (intros;omega)|exact rfl| (simp only[cN,maxLen,lens];omega)) ?_
  refine W.r0 X [0,4,5] rfl ⟨⟩ ?_
  refine⟨k+1,by omega,by omega,?_⟩
  rw[aV _ k rfl (by omega),hs]
  try rfl
 ·try simp only[nb,an,au,af]at hb0
  rw[List.take_of_length_le hb0]
  refine W.exit ?_
  refine W.sr X [] [(22,⟨true,[.a (.sl .u8 (LJ (l.map bJ.data))), .a (.lit (.bool (fE (l.map bJ.data))))]⟩)] [2,3] [] rfl (by(repeat' with_reducible first|exact ah.nil|refine ah.mk ?_ ?_|apply And.intro)<;>first|exact(qP (l.map bJ.data))) ?_
  refine W.ret ?_
  exact Fin.ret rfl ⟨rfl,rfl,⟨⟩⟩
theorem ni(x:aN)(r row s:Int)(hk:okW x=true):Sound ty Tryz.prog 129 [.agg (ay x), .a (.lit (.int .i64 r)), .a (.lit (.int .i64 row)), .a (.lit (.int .i64 s))] [.a (.sl .u8 (Bj x r row s)), .a (.lit (.bool (uO x r row s)))]:=by
 refine Sound.o X Tryz.call129 Tryz.func129 Tryz.ntmps129 rfl rfl ?_
 intro zb
 have har:=Gj hk
 have YW:=LU r row s hk
 have Y5:=eu hk
 have hrl:=mW x.aj.length r row s
 refine W.s0 X [1,2,3,4] rfl ⟨⟩ ?_
 refine W.sr X [] [(21,⟨true,[.agg (aH (dJ x.ak.rounds r)), .a (.lit (.bool (gX x.ak.rounds r)))]⟩)] [1,2,3,4,10,11] [] rfl (by(repeat' with_reducible first|exact ah.nil|refine ah.mk ?_ ?_|apply And.intro)<;>first|exact(jC x.ak r ⟨by omega,har.2⟩)) ?_
 refine W.seq ?_
 refine W.sr X [] [(25,⟨false,[.a (.lit (.bool (okW x)))]⟩)] [1,2,3,4,10,30] [] rfl (by(repeat' with_reducible first|exact ah.nil|refine ah.mk ?_ ?_|apply And.intro)<;>first|exact(bM x)) ?_
 refine W.cond rfl (fun hb0=> ?_) (fun hb0=> ?_)
 ·have hh:gX x.ak.rounds r=false:=by rw[hk]at hb0;simpa using hb0
  refine W.s0 X [8,9] rfl ⟨⟩ ?_
  refine W.ret ?_
  exact Fin.ret rfl ⟨by rw[(Gi hh).1],by rw[(Gi hh).2],⟨⟩⟩
 ·have hh:gX x.ak.rounds r=true:=by rw[hk]at hb0;simpa using hb0
  have Vt:=LV (row:=row) (s:=s) hh
  refine W.skip ?_
  refine W.s0 X [1,2,3,4,10,12] rfl (by and_intros<;>first|exact⟨⟩|exact rfl) ?_
  refine W.seq ?_
  refine W.sd X [] [(39,⟨true,[.a (.sl .int (fB x.aj.length r row s))]⟩),(40,⟨true,[.a (.sl (.sl .int) (mV x.rows row (fB x.aj.length r row s)))]⟩)] [1,4,10,12,40,41,42] [] 11 MO (by kernel_rfl) rfl (by(repeat' with_reducible first|exact ah.nil|refine ah.mk ?_ ?_|apply And.intro);(iterate 2 all_goals try first|exact(zj x r row s (by omega))|exact(zh x.rows row (fB x.aj.length r row s) (by omega)))) ?_
  refine W.block ?_
  refine W.aI (fun k=>k≤(query' x r row s).length) (fun k:Nat=> [(42, .one (.a (.lit (.int .i64 k))))]) (fun k=> [(31, .arr .bJ (m8 x r (dJ x.ak.rounds r) (query' x r row s) k))]) (fun k=>(query' x r row s).length-k) 0 (fun k=>rfl) (Nat.zero_le _) rfl ?_
  intro k hk
  have hal:=EU x r (dJ x.ak.rounds r) (query' x r row s) k
  have hqy:(mV x.rows row (fB x.aj.length r row s)).length=(query' x r row s).length:=rfl
  refine W.s0 X [1,4,10,12,40,41,42,43] rfl ⟨⟩ ?_
  refine W.seq ?_
  refine W.cond rfl (fun aD=> ?_) (fun aD=> ?_)
  ·try simp only[nb,an,au,af]at aD
   have hqe:=QB x r row s k
   have hs:=C9 x r (dJ x.ak.rounds r) (query' x r row s) k
   refine W.skip ?_
   refine W.seq ?_
   refine W.block ?_
   refine W.s0 X [1,4,10,12,13,14,40,41,42] rfl (by and_intros<;>first|exact⟨⟩| (intros;omega)) ?_
   refine W.seq ?_
   refine W.fD X [] [(56,⟨false,[.a (.lit (.int .i64 (fI x.az (k:Int))))]⟩),(60,⟨true,[.agg (dg (Gf (x.aj.getD k (av .aU)) (fI x.az (k:Int)) r (dJ x.ak.rounds r) ((query' x r row s).getD k (av (.sl .int))))), .a (.lit (.bool (iw (dJ x.ak.rounds r) ((query' x r row s).getD k (av (.sl .int))))))]⟩)] [1,4,10,12,15,16,40,41,42] [] 393215 (.ph 131071 (.br 131071 17 (.last 262144) (.br 98303 17 (.last 294912) (.nil)))) 1 MO (by kernel_rfl) rfl (by kernel_rfl) (by(repeat' with_reducible first|exact ah.nil|refine ah.mk ?_ ?_|apply And.intro);(iterate 2 all_goals try first|exact(gT x.az (k:Int))|exact(qF (x.aj.getD k (av .aU)) (fI x.az (k:Int)) r (dJ x.ak.rounds r) ((query' x r row s).getD k (av (.sl .int))) (by omega)));all_goals first| (intros;omega)) ?_
   refine W.seq ?_
   refine W.s0 X [1,4,10,12,15,40,41,42,64] rfl ⟨⟩ ?_
   refine W.cond rfl (fun aR=> ?_) (fun aR=> ?_)
   ·have hno:=Qs aD (by simpa using aR)
    refine W.s0 X [8,9] rfl ⟨⟩ ?_
    refine W.ret ?_
    exact Fin.ret rfl ⟨by rw[Vt.1,Bo hno],by rw[Vt.2,hno],⟨⟩⟩
   ·skip
    refine W.skip ?_
    refine W.fH X [(68,31)] [] [1,4,10,12,40,41,42] [] rfl (by and_intros<;>first|exact⟨⟩|exact rfl| (simp only[cN,maxLen,lens];omega)) ?_
    refine W.r0 X [1,4,10,12,40,41,42] rfl ⟨⟩ ?_
    refine⟨k+1,by omega,by omega,?_⟩
    rw[aV _ k rfl (by omega),hs]
    try rfl
  ·try simp only[nb,an,au,af]at aD
   refine W.exit ?_
   refine W.sr X [] [(71,⟨true,[.a (.sl .u8 (LJ ((m8 x r (dJ x.ak.rounds r) (query' x r row s) k).map bJ.data))), .a (.lit (.bool (fE ((m8 x r (dJ x.ak.rounds r) (query' x r row s) k).map bJ.data))))]⟩)] [8,9] [] rfl (by(repeat' with_reducible first|exact ah.nil|refine ah.mk ?_ ?_|apply And.intro)<;>first|exact(sR (m8 x r (dJ x.ak.rounds r) (query' x r row s) k) (by omega))) ?_
   refine W.ret ?_
   exact Fin.ret rfl ⟨by rw[Vt.1,show k=(query' x r row s).length by omega];rfl,by rw[Vt.2,show k=(query' x r row s).length by omega];rfl,⟨⟩⟩
theorem sU(x:aN)(r row s:Int)(hk:okW x=true):Sound ty Tryz.prog 176 [.agg (ay x), .a (.lit (.int .i64 r)), .a (.lit (.int .i64 row)), .a (.lit (.int .i64 s))] [.a (.sl .u8 (Bj x r row s)), .a (.lit (.bool (uO x r row s)))]:=by
 refine Sound.o X Tryz.call176 Tryz.func176 Tryz.ntmps176 rfl rfl ?_
 intro zb
 have har:=Gj hk
 have YW:=LU r row s hk
 have Y5:=eu hk
 have hrl:=mW x.aj.length r row s
 have hw:IntKind.i64.wrap ((x.aj.length:Int)-1)=(x.aj.length:Int)-1:=cC (by omega)
 refine W.s0 X [1,2,3,4] rfl ⟨⟩ ?_
 refine W.sr X [] [(23,⟨true,[.agg (aH (dJ x.ak.rounds r)), .a (.lit (.bool (gX x.ak.rounds r)))]⟩)] [1,2,3,4,10,11] [] rfl (by(repeat' with_reducible first|exact ah.nil|refine ah.mk ?_ ?_|apply And.intro)<;>first|exact(jD x.ak r ⟨by omega,har.2⟩)) ?_
 refine W.seq ?_
 refine W.s0 X [1,2,3,4,10,27] rfl ⟨⟩ ?_
 refine W.cond rfl (fun hb0=> ?_) (fun hb0=> ?_)
 ·have hh:gX x.ak.rounds r=false:=by simpa using hb0
  refine W.s0 X [8,9] rfl (by and_intros<;>first|exact⟨⟩|exact rfl) ?_
  refine W.ret ?_
  exact Fin.ret rfl ⟨by rw[(Gi hh).1],by rw[(Gi hh).2],⟨⟩⟩
 ·have hh:gX x.ak.rounds r=true:=by simpa using hb0
  have Vt:=LV (row:=row) (s:=s) hh
  refine W.skip ?_
  refine W.s0 X [1,2,3,4,10,12] rfl (by and_intros<;>first|exact⟨⟩|exact rfl) ?_
  refine W.seq ?_
  refine W.s0 X [1,2,3,4,10,12,13] rfl ⟨⟩ ?_
  refine W.block ?_
  refine W.aI (fun k=>k≤(x.aj.length-1)) (fun k:Nat=> [(13, .one (.a (.lit (.int .i64 k))))]) (fun k=> [(29, .arr .int ((fB x.aj.length r row s).take k))]) (fun k=>(x.aj.length-1)-k) 0 (fun k=>rfl) (Nat.zero_le _) rfl ?_
  intro k hk
  have hle:=aZ (fB x.aj.length r row s) k
  refine W.seq ?_
  refine W.s0 X [1,2,3,4,10,12,13,35] rfl ⟨⟩ ?_
  refine W.cond rfl (fun aD=> ?_) (fun aD=> ?_)
  ·try simp only[nb,an,au,af]at aD
   rw[hw]at aD
   have hs:=Am x.aj.length r row s k (by omega)
   refine W.skip ?_
   refine W.seq ?_
   refine W.block ?_
   refine W.fH X [(46,29)] [(44,⟨false,[.a (.lit (.int .i64 (kh s [229,r,row,(k:Int)])))]⟩)] [1,2,3,4,10,12,13] [] rfl (by(repeat' with_reducible first|exact ah.nil|refine ah.mk ?_ ?_|apply And.intro)<;>first|exact(bu s [229,r,row,(k:Int)] (by first|assumption|omega| (simp;done)| (simp;omega)))|exact rfl|exact⟨rfl,bH _ (by decide)⟩| (simp only[cN,maxLen,lens];omega)) ?_
   refine W.r0 X [1,2,3,4,10,12,13] rfl ⟨⟩ ?_
   refine⟨k+1,by omega,by omega,?_⟩
   rw[aV _ k rfl (by omega),hs]
   try rfl
  ·try simp only[nb,an,au,af]at aD
   rw[hw]at aD
   refine W.exit ?_
   refine W.seq ?_
   rw[List.take_of_length_le (show(fB x.aj.length r row s).length≤k by omega)]
   refine W.fH X [] [(51,⟨true,[.a (.sl (.sl .int) (mV x.rows row (fB x.aj.length r row s)))]⟩)] [1,4,10,14] [] rfl (by(repeat' with_reducible first|exact ah.nil|refine ah.mk ?_ ?_|apply And.intro)<;>first|exact(zi x.rows row (fB x.aj.length r row s) (by omega))) ?_
   refine W.s0 X [1,4,10,14,15] rfl (by and_intros<;>first|exact⟨⟩|exact rfl) ?_
   refine W.seq ?_
   refine W.s0 X [1,4,10,14,15,16] rfl ⟨⟩ ?_
   refine W.block ?_
   refine W.aI (fun k1=>k1≤(query' x r row s).length) (fun k1:Nat=> [(16, .one (.a (.lit (.int .i64 k1))))]) (fun k1=> [(52, .arr .bJ (m8 x r (dJ x.ak.rounds r) (query' x r row s) k1))]) (fun k1=>(query' x r row s).length-k1) 0 (fun k1=>rfl) (Nat.zero_le _) rfl ?_
   intro k1 hk1
   have hal:=EU x r (dJ x.ak.rounds r) (query' x r row s) k1
   have hqy:(mV x.rows row (fB x.aj.length r row s)).length=(query' x r row s).length:=rfl
   refine W.seq ?_
   refine W.s0 X [1,4,10,14,15,16,56] rfl ⟨⟩ ?_
   refine W.cond rfl (fun aR=> ?_) (fun aR=> ?_)
   ·try simp only[nb,an,au,af]at aR
    have hqe:=QB x r row s k1
    have hs1:=C9 x r (dJ x.ak.rounds r) (query' x r row s) k1
    refine W.skip ?_
    refine W.seq ?_
    refine W.block ?_
    refine W.seq ?_
    refine W.fD X [] [(68,⟨false,[.a (.lit (.int .i64 (fI x.az (k1:Int))))]⟩),(75,⟨true,[.agg (dg (Gf (x.aj.getD k1 (av .aU)) (fI x.az (k1:Int)) r (dJ x.ak.rounds r) ((query' x r row s).getD k1 (av (.sl .int))))), .a (.lit (.bool (iw (dJ x.ak.rounds r) ((query' x r row s).getD k1 (av (.sl .int))))))]⟩)] [1,4,10,14,15,16,17] [] 3145727 (.ph 1048575 (.br 1048575 20 (.last 2097152) (.br 786431 20 (.last 2359296) (.nil)))) 1 MO (by kernel_rfl) rfl (by kernel_rfl) (by(repeat' with_reducible first|exact ah.nil|refine ah.mk ?_ ?_|apply And.intro);(iterate 2 all_goals try first|exact(gU x.az (k1:Int))|exact(qG (x.aj.getD k1 (av .aU)) (fI x.az (k1:Int)) r (dJ x.ak.rounds r) ((query' x r row s).getD k1 (av (.sl .int))) (by omega)));all_goals first| (intros;omega)) ?_
    refine W.fH X [(81,52)] [] [1,4,10,14,15,16] [] rfl (by and_intros<;>first|exact⟨⟩|exact rfl| (simp only[cN,maxLen,lens];omega)) ?_
    refine W.r0 X [1,4,10,14,15,16] rfl ⟨⟩ ?_
    refine⟨k1+1,by omega,by omega,?_⟩
    rw[aV _ k1 rfl (by omega),hs1]
    try rfl
   ·try simp only[nb,an,au,af]at aR
    refine W.exit ?_
    refine W.sr X [] [(83,⟨true,[.a (.sl .u8 (LJ ((m8 x r (dJ x.ak.rounds r) (query' x r row s) k1).map bJ.data))), .a (.lit (.bool (fE ((m8 x r (dJ x.ak.rounds r) (query' x r row s) k1).map bJ.data))))]⟩)] [8,9] [] rfl (by(repeat' with_reducible first|exact ah.nil|refine ah.mk ?_ ?_|apply And.intro)<;>first|exact(sS (m8 x r (dJ x.ak.rounds r) (query' x r row s) k1) (by omega))) ?_
    refine W.ret ?_
    exact Fin.ret rfl ⟨by rw[Vt.1,show k1=(query' x r row s).length by omega];rfl,by rw[Vt.2,show k1=(query' x r row s).length by omega];rfl,⟨⟩⟩
end
section
set_option maxRecDepth 100000
theorem dm(c:dV)(h0:bL List.length c.aq≤1048576∧bL List.length c.inbox≤1048576):Sound ty Tryz.prog 194 [.agg (aX c)] [.agg (aX c)]:=by
 refine Sound.o X Tryz.call194 Tryz.func194 Tryz.ntmps194 rfl rfl ?_
 intro zb
 refine W.s0 X [1,2] rfl ⟨⟩ ?_
 refine W.sr X [] [(5,⟨true,[.a (.sl (.sl .u8) c.aq)]⟩)] [1,2] [] rfl (by(repeat' with_reducible first|exact ah.nil|refine ah.mk ?_ ?_|apply And.intro)<;>first|exact(kM c.aq h0.1)) ?_
 refine W.sr X [] [(9,⟨true,[.a (.sl (.sl .u8) c.inbox)]⟩)] [1,2] [] rfl (by(repeat' with_reducible first|exact ah.nil|refine ah.mk ?_ ?_|apply And.intro)<;>first|exact(kM c.inbox h0.2)) ?_
 refine W.s0 X [2] rfl (by and_intros<;>exact⟨⟩) ?_
 refine W.ret ?_
 exact Fin.ret rfl ⟨rfl,rfl,rfl,rfl,rfl,rfl,rfl,rfl,⟨⟩⟩
theorem eX(d:aL)(h0:aJ d≤1048576):Sound ty Tryz.prog 117 [.agg (bg d)] [.agg (bg d)]:=by
 refine Sound.o X Tryz.call117 Tryz.func117 Tryz.ntmps117 rfl rfl ?_
 intro zb
 have pX:bh d.live≤1048576∧bh d.saved≤1048576:=by unfold aJ at h0;omega
 unfold bh at pX
 refine W.s0 X [1,2] rfl ⟨⟩ ?_
 refine W.sd X [] [(5,⟨true,[.agg (aX d.live)]⟩),(8,⟨true,[.agg (aX d.saved)]⟩)] [2] [] 7 MO (by kernel_rfl) rfl (by(repeat' with_reducible first|exact ah.nil|refine ah.mk ?_ ?_|apply And.intro);(iterate 2 all_goals try first|exact(dm d.live ⟨by omega,by omega⟩)|exact(dm d.saved ⟨by omega,by omega⟩))) ?_
 refine W.ret ?_
 exact Fin.ret rfl ⟨rfl,rfl,rfl,rfl,rfl,rfl,rfl,rfl,rfl,rfl,rfl,rfl,rfl,rfl,rfl,rfl,⟨⟩⟩
theorem nk(a:iS)(h0:b7 a≤1048576):Sound ty Tryz.prog 119 [.agg (cj a)] [.agg (cj a)]:=by
 refine Sound.o X Tryz.call119 Tryz.func119 Tryz.ntmps119 rfl rfl ?_
 intro zb
 have hls:bL aY a.rounds≤1048576:=h0
 have jr:=cg hls
 refine W.s0 X [1,2] rfl ⟨⟩ ?_
 refine W.s0 X [1,2,3] rfl ⟨⟩ ?_
 refine W.mX 3 1 60 .aA rfl ?_
 refine W.seq ?_
 refine W.s0 X [2,3,10,11,12] rfl ⟨⟩ ?_
 refine W.block ?_
 refine W.aI (fun k=>k≤a.rounds.length) (fun k:Nat=> [(12, .one (.a (.lit (.int .i64 k))))]) (fun k=> [(60, .arr .aA (a.rounds.take k))]) (fun k=>a.rounds.length-k) 0 (fun k=>rfl) (Nat.zero_le _) rfl ?_
 intro k hk
 have hle:=aZ a.rounds k
 refine W.s0 X [2,3,10,11,12,13] rfl ⟨⟩ ?_
 refine W.seq ?_
 refine W.cond rfl (fun hb0=> ?_) (fun hb0=> ?_)
 ·try simp only[nb,an,au,af]at hb0
  have hs:=bf a.rounds k (av .aA) hb0
  refine W.skip ?_
  refine W.seq ?_
  refine W.block ?_
  refine W.s0 X [2,3,5,10,11,12] rfl (by and_intros<;>first|exact⟨⟩| (intros;omega)) ?_
  refine W.draw X [(25,60)] [(22,⟨true,[.agg (aH ((a.rounds.getD k (av .aA)).db))]⟩),(500024,⟨true,[]⟩)] [2,3,10,11,12] [] 9 MO (by kernel_rfl) rfl (by(repeat' with_reducible first|exact ah.nil|refine ah.mk ?_ ?_|apply And.intro)<;>first|exact(bZ ((a.rounds.getD k (av .aA)).db) (eL hls (getD_some a.rounds _ k hb0)))|exact rfl|exact⟨rfl,bH _ (by decide)⟩| (simp only[cN,maxLen,lens];omega)) ?_
  refine W.r0 X [2,3,10,11,12] rfl ⟨⟩ ?_
  refine⟨k+1,by omega,by omega,?_⟩
  rw[aV _ k rfl (by omega),hs]
  try rfl
 ·try simp only[nb,an,au,af]at hb0
  refine W.exit ?_
  refine W.s0 X [2] rfl (by and_intros<;>exact⟨⟩) ?_
  refine W.ret ?_
  exact Fin.ret rfl ⟨rfl,by rw[List.take_of_length_le hb0],⟨⟩⟩
theorem cD(x:aN)(h0:wB x):Sound ty Tryz.prog 49 [.agg (ay x)] [.agg (ay x)]:=by
 refine Sound.o X Tryz.call49 Tryz.func49 Tryz.ntmps49 rfl rfl ?_
 intro zb
 have hls:bL bl x.aj≤1048576∧bL aJ x.aa≤1048576∧b7 x.ak≤1048576∧x.replaced.length≤4194304:=h0
 have nr:=cg hls.1
 have iI:=cg hls.2.1
 refine W.s0 X [1,2] rfl ⟨⟩ ?_
 refine W.s0 X [1,2,3] rfl (by and_intros<;>first|exact⟨⟩|exact rfl) ?_
 refine W.seq ?_
 refine W.s0 X [1,2,3,8,9,10] rfl ⟨⟩ ?_
 refine W.block ?_
 refine W.aI (fun k=>k≤x.aa.length) (fun k:Nat=> [(10, .one (.a (.lit (.int .i64 k))))]) (fun k=> [(6, .arr .aL (x.aa.take k))]) (fun k=>x.aa.length-k) 0 (fun k=>rfl) (Nat.zero_le _) rfl ?_
 intro k hk
 have hle:=aZ x.aa k
 refine W.s0 X [1,2,3,8,9,10,11] rfl ⟨⟩ ?_
 refine W.seq ?_
 refine W.cond rfl (fun hb0=> ?_) (fun hb0=> ?_)
 ·try simp only[nb,an,au,af]at hb0
  have hs:=bf x.aa k (av .aL) hb0
  refine W.skip ?_
  refine W.seq ?_
  refine W.block ?_
  refine W.s0 X [1,2,3,5,8,9,10] rfl (by and_intros<;>first|exact⟨⟩| (intros;omega)) ?_
  refine W.fH X [(18,6)] [(16,⟨true,[.agg (bg (x.aa.getD k (av .aL)))]⟩)] [1,2,3,8,9,10] [] rfl (by(repeat' with_reducible first|exact ah.nil|refine ah.mk ?_ ?_|apply And.intro)<;>first|exact(eX (x.aa.getD k (av .aL)) (eL hls.2.1 (getD_some x.aa _ k hb0)))|exact rfl| (simp only[cN,maxLen,lens];omega)) ?_
  refine W.r0 X [1,2,3,8,9,10] rfl ⟨⟩ ?_
  refine⟨k+1,by omega,by omega,?_⟩
  rw[aV _ k rfl (by omega),hs]
  try rfl
 ·try simp only[nb,an,au,af]at hb0
  refine W.exit ?_
  refine W.sr X [] [(22,⟨true,[.a (.sl .aU x.aj)]⟩)] [1,2,3] [] rfl (by(repeat' with_reducible first|exact ah.nil|refine ah.mk ?_ ?_|apply And.intro)<;>first|exact(m6 x.aj nr (fun s hs=>by obtain⟨i,hi⟩:=List.mem_iff_getElem?.1 hs;exact EN hls.1 hi))) ?_
  refine W.s0 X [1,2] rfl ⟨⟩ ?_
  refine W.sr X [] [(28,⟨true,[.agg (cj x.ak)]⟩)] [1,2] [] rfl (by(repeat' with_reducible first|exact ah.nil|refine ah.mk ?_ ?_|apply And.intro)<;>first|exact(nk x.ak hls.2.2.1)) ?_
  refine W.sr X [] [(32,⟨true,[.a (.sl .int x.replaced)]⟩)] [1,2] [] rfl (by(repeat' with_reducible first|exact ah.nil|refine ah.mk ?_ ?_|apply And.intro)<;>first|exact(fU x.replaced hls.2.2.2)) ?_
  refine W.s0 X [2] rfl (by and_intros<;>exact⟨⟩) ?_
  refine W.ret ?_
  exact Fin.ret rfl (by and_intros<;>first|exact⟨⟩|rfl| (rw[List.take_of_length_le hb0];done))
theorem pF(c:dV)(h0:bL List.length c.aq≤1048576∧bL List.length c.inbox≤1048576):Sound ty Tryz.prog 159 [.agg (aX c)] [.agg (bg (⟨c,c⟩:aL))]:=by
 refine Sound.o X Tryz.call159 Tryz.func159 Tryz.ntmps159 rfl rfl ?_
 intro zb
 refine W.s0 X [1,2] rfl ⟨⟩ ?_
 refine W.sd X [(6,40)] [(4,⟨true,[.agg (aX c)]⟩),(6,⟨true,[.agg (aX c)]⟩)] [2] [] 5 MO (by kernel_rfl) rfl (by(repeat' with_reducible first|exact ah.nil|refine ah.mk ?_ ?_|apply And.intro);(iterate 2 all_goals try first|exact(dm c h0))) ?_
 refine W.ret ?_
 exact Fin.ret rfl ⟨rfl,rfl,rfl,rfl,rfl,rfl,rfl,rfl,rfl,rfl,rfl,rfl,rfl,rfl,rfl,rfl,⟨⟩⟩
theorem nU(d:aL)(h0:aJ d≤1048576):Sound ty Tryz.prog 87 [.agg (bg d)] [.agg (bg (E1 d))]:=by
 refine Sound.o X Tryz.call87 Tryz.func87 Tryz.ntmps87 rfl rfl ?_
 intro zb
 have pX:bh d.live≤1048576∧bh d.saved≤1048576:=by unfold aJ at h0;omega
 unfold bh at pX
 refine W.s0 X [1,2] rfl ⟨⟩ ?_
 refine W.seq ?_
 refine W.sr X [] [(4,⟨false,[.a (.lit (.bool (dB d)))]⟩)] [1,2,5] [] rfl (by(repeat' with_reducible first|exact ah.nil|refine ah.mk ?_ ?_|apply And.intro)<;>first|exact(cY d)) ?_
 refine W.cond rfl (fun hb0=> ?_) (fun hb0=> ?_)
 ·have hk:dB d=false:=by simpa using hb0
  have hd:E1 d=d:=by rw[E1,hk];rfl
  refine W.sr X [] [(7,⟨true,[.agg (bg d)]⟩)] [2] [] rfl (by(repeat' with_reducible first|exact ah.nil|refine ah.mk ?_ ?_|apply And.intro)<;>first|exact(eX d h0)) ?_
  refine W.ret ?_
  exact Fin.ret rfl (by and_intros<;>first|exact⟨⟩| (rw[hd];done))
 ·have hk:dB d=true:=by simpa using hb0
  have hd:E1 d=⟨d.live,d.live⟩:=by rw[E1,if_pos hk]
  refine W.skip ?_
  refine W.sr X [] [(10,⟨true,[.agg (bg (⟨d.live,d.live⟩:aL))]⟩)] [2] [] rfl (by(repeat' with_reducible first|exact ah.nil|refine ah.mk ?_ ?_|apply And.intro)<;>first|exact(pF d.live ⟨by omega,by omega⟩)) ?_
  refine W.ret ?_
  exact Fin.ret rfl (by and_intros<;>first|exact⟨⟩| (rw[hd];done))
theorem zK(d:aL):Sound ty Tryz.prog 215 [.agg (bg d)] [.a (.lit (.bool (uP d)))]:=by
 refine Sound.o X Tryz.call215 Tryz.func215 Tryz.ntmps215 rfl rfl ?_
 intro zb
 refine W.s0 X [1] rfl ⟨⟩ ?_
 refine W.sr X [] [(4,⟨false,[.a (.lit (.bool (dB d)))]⟩)] [2] [] rfl (by(repeat' with_reducible first|exact ah.nil|refine ah.mk ?_ ?_|apply And.intro)<;>first|exact(cY d)) ?_
 refine W.ret ?_
 exact Fin.ret rfl ⟨(congrArg Value.bool (by simp only[uP,aF]<;>first|rfl|ac_rfl)),⟨⟩⟩
theorem xU(c:dV)(r n:Int):Sound ty Tryz.prog 128 [.agg (aX c), .a (.lit (.int .i64 r)), .a (.lit (.int .i64 n))] [.a (.lit (.int .i64 (dY c.key r (bK c) n))), .a (.lit (.int .i64 (dY c.key r (1-bK c) n)))]:=by
 refine Sound.o X Tryz.call128 Tryz.func128 Tryz.ntmps128 rfl rfl ?_
 intro zb
 have Y7:=Q2 c
 refine W.s0 X [1,2,3] rfl ⟨⟩ ?_
 refine W.sd X [] [(12,⟨false,[.a (.lit (.int .i64 (bK c)))]⟩),(14,⟨false,[.a (.lit (.int .i64 (dY c.key r (bK c) n)))]⟩),(19,⟨false,[.a (.lit (.int .i64 (bK c)))]⟩),(22,⟨false,[.a (.lit (.int .i64 (dY c.key r (IntKind.i64.wrap (1-bK c)) n)))]⟩)] [6,7] [] 17 MO (by kernel_rfl) rfl (by(repeat' with_reducible first|exact ah.nil|refine ah.mk ?_ ?_|apply And.intro);(iterate 4 all_goals try first|exact(fA c)|exact(jM c.key r (bK c) n)|exact(jM c.key r (IntKind.i64.wrap (1-bK c)) n))) ?_
 refine W.ret ?_
 exact Fin.ret rfl ⟨rfl,by rw[Y7],⟨⟩⟩
theorem xV(c:dV)(r:Int)(own other:List UInt8)(h0:bL List.length c.aq≤1048576∧bL List.length c.inbox≤1048576):Sound ty Tryz.prog 214 [.agg (aX c), .a (.lit (.int .i64 r)), .a (.sl .u8 own), .a (.sl .u8 other)] [.agg (aX (lM c r own other)), .a (.lit (.bool (sP c r)))]:=by
 refine Sound.o X Tryz.call214 Tryz.func214 Tryz.ntmps214 rfl rfl ?_
 intro zb
 refine W.s0 X [1,2,3,4,8] rfl ⟨⟩ ?_
 refine W.sr X [] [(14,⟨true,[.agg (aX c)]⟩)] [1,2,3,4,8,10] [] rfl (by(repeat' with_reducible first|exact ah.nil|refine ah.mk ?_ ?_|apply And.intro)<;>first|exact(dm c h0)) ?_
 refine W.seq ?_
 refine W.sr X [] [(16,⟨false,[.a (.lit (.bool (dH c)))]⟩),(22,⟨false,[.a (.lit (.bool (inr r c.next 99999)))]⟩)] [1,2,3,4,8,10,24] [] rfl (by(repeat' with_reducible first|exact ah.nil|refine ah.mk ?_ ?_|apply And.intro);(iterate 2 all_goals try first|exact(cW c)|exact fun _=>(aE r c.next 99999))) ?_
 refine W.cond rfl (fun hb0=> ?_) (fun hb0=> ?_)
 ·have hk:sP c r=false:=bD hb0 (by simp only[sP,aF]<;>first|rfl|ac_rfl)
  have hc:=IQ (own:=own) (other:=other) hk
  refine W.s0 X [8,9] rfl (by and_intros<;>exact⟨⟩) ?_
  refine W.ret ?_
  exact Fin.ret rfl (by and_intros<;>first|exact⟨⟩| (rw[hc];done)| (rw[hk];done))
 ·have hk:sP c r=true:=bA hb0 (by simp only[sP,aF]<;>first|rfl|ac_rfl)
  obtain⟨hok,hn1,hn2,RM⟩:=QX hk
  obtain⟨S3,Tm,_,_,hs0,hs9,_,_⟩:=oY hok
  have hc:lM c r own other=⟨c.id,c.e9,c.key,c.seed,c.aq,if sQ c own then c.sent+1 else c.sent,if jB c other then c.inbox++ [(Jl (Da c) (c.inbox.length:Int) other).body]else c.inbox,r+1⟩:=by rw[lM,if_pos hk]
  refine W.skip ?_
  refine W.seq ?_
  refine W.sr X [] [(37,⟨false,[.a (.sl .u8 (oR c c.sent))]⟩),(38,⟨false,[.a (.lit (.bool (own==(oR c c.sent))))]⟩)] [1,3,4,8,10,39] [] rfl ⟨fun _=>jQ own (oR c c.sent),fun h=>mU c c.sent hs0 (of_decide_eq_true h),⟨⟩⟩ ?_
  refine W.cond rfl (fun aD=> ?_) (fun aD=> ?_)
  ·have hh:sQ c own=true:=gS aD (by simp only[sQ,aF]<;>first|rfl|ac_rfl)
   refine W.r0 X [1,3,4,8,10] rfl ⟨⟩ ?_
   rw[cC (a:=c.sent+1) (by omega)]
   refine W.seq ?_
   refine W.fD X [] [(48,⟨false,[.a (.lit (.int .i64 (bK c)))]⟩),(50,⟨false,[.a (.lit (.int .i64 (jg c.key (IntKind.i64.wrap (1-bK c)))))]⟩),(55,⟨true,[.agg (eB (Jl (jg c.key (IntKind.i64.wrap (1-bK c))) (c.inbox.length:Int) other)), .a (.lit (.bool (lK (jg c.key (IntKind.i64.wrap (1-bK c))) (c.inbox.length:Int) other)))]⟩)] [1,4,8,10,11,12] [] 98303 (.ph 32767 (.br 32767 15 (.last 65536) (.br 24575 15 (.last 73728) (.nil)))) 1 MO (by kernel_rfl) rfl (by kernel_rfl) (by(repeat' with_reducible first|exact ah.nil|refine ah.mk ?_ ?_|apply And.intro);(iterate 3 all_goals try first|exact(fA c)|exact(ig c.key (IntKind.i64.wrap (1-bK c)))|exact(qD (jg c.key (IntKind.i64.wrap (1-bK c))) (c.inbox.length:Int) other))) ?_
   rw[xT]
   refine W.seq ?_
   refine W.s0 X [1,8,10,11,69] rfl ⟨⟩ ?_
   refine W.cond rfl (fun aR=> ?_) (fun aR=> ?_)
   ·have hg:jB c other=true:=gS aR (by simp only[jB,aF]<;>first|rfl|ac_rfl)
    refine W.r0 X [1,8,10] rfl (by and_intros<;>first|exact⟨⟩|exact rfl| (simp only[cN,maxLen,lens];omega)) ?_
    refine W.s0 X [8,10] rfl ⟨⟩ ?_
    rw[cC (a:=r+1) (by omega)]
    refine W.s0 X [8,9] rfl (by and_intros<;>exact⟨⟩) ?_
    refine W.ret ?_
    exact Fin.ret rfl (by and_intros<;>first|exact⟨⟩| (rw[hc];done)| (rw[hc];simp only[hh,if_true];done)| (rw[hc];simp only[hg,if_true];done)| (rw[hk];done))
   ·have hg:jB c other=false:=kP aR (by simp only[jB,aF]<;>first|rfl|ac_rfl)
    refine W.skip ?_
    refine W.s0 X [8,10] rfl ⟨⟩ ?_
    rw[cC (a:=r+1) (by omega)]
    refine W.s0 X [8,9] rfl (by and_intros<;>exact⟨⟩) ?_
    refine W.ret ?_
    exact Fin.ret rfl (by and_intros<;>first|exact⟨⟩| (rw[hc];done)| (rw[hc];simp only[hh,if_true];done)| (rw[hc];simp[hg];done)| (rw[hk];done))
  ·have hh:sQ c own=false:=kP aD (by simp only[sQ,aF]<;>first|rfl|ac_rfl)
   refine W.skip ?_
   refine W.seq ?_
   refine W.fD X [] [(48,⟨false,[.a (.lit (.int .i64 (bK c)))]⟩),(50,⟨false,[.a (.lit (.int .i64 (jg c.key (IntKind.i64.wrap (1-bK c)))))]⟩),(55,⟨true,[.agg (eB (Jl (jg c.key (IntKind.i64.wrap (1-bK c))) (c.inbox.length:Int) other)), .a (.lit (.bool (lK (jg c.key (IntKind.i64.wrap (1-bK c))) (c.inbox.length:Int) other)))]⟩)] [1,4,8,10,11,12] [] 98303 (.ph 32767 (.br 32767 15 (.last 65536) (.br 24575 15 (.last 73728) (.nil)))) 1 MO (by kernel_rfl) rfl (by kernel_rfl) (by(repeat' with_reducible first|exact ah.nil|refine ah.mk ?_ ?_|apply And.intro);(iterate 3 all_goals try first|exact(fA c)|exact(ig c.key (IntKind.i64.wrap (1-bK c)))|exact(qD (jg c.key (IntKind.i64.wrap (1-bK c))) (c.inbox.length:Int) other))) ?_
   rw[xT]
   refine W.seq ?_
   refine W.s0 X [1,8,10,11,69] rfl ⟨⟩ ?_
   refine W.cond rfl (fun aR=> ?_) (fun aR=> ?_)
   ·have hg:jB c other=true:=gS aR (by simp only[jB,aF]<;>first|rfl|ac_rfl)
    refine W.r0 X [1,8,10] rfl (by and_intros<;>first|exact⟨⟩|exact rfl| (simp only[cN,maxLen,lens];omega)) ?_
    refine W.s0 X [8,10] rfl ⟨⟩ ?_
    rw[cC (a:=r+1) (by omega)]
    refine W.s0 X [8,9] rfl (by and_intros<;>exact⟨⟩) ?_
    refine W.ret ?_
    exact Fin.ret rfl (by and_intros<;>first|exact⟨⟩| (rw[hc];done)| (rw[hc];simp[hh];done)| (rw[hc];simp only[hg,if_true];done)| (rw[hk];done))
   ·have hg:jB c other=false:=kP aR (by simp only[jB,aF]<;>first|rfl|ac_rfl)
    refine W.skip ?_
    refine W.s0 X [8,10] rfl ⟨⟩ ?_
    rw[cC (a:=r+1) (by omega)]
    refine W.s0 X [8,9] rfl (by and_intros<;>exact⟨⟩) ?_
    refine W.ret ?_
    exact Fin.ret rfl (by and_intros<;>first|exact⟨⟩| (rw[hc];done)| (rw[hc];simp[hh];done)| (rw[hc];simp[hg];done)| (rw[hk];done))
theorem um(d:aL)(r:Int)(own other:List UInt8)(h0:aJ d≤1048576):Sound ty Tryz.prog 130 [.agg (bg d), .a (.lit (.int .i64 r)), .a (.sl .u8 own), .a (.sl .u8 other)] [.agg (bg (rdev d r own other)), .a (.lit (.bool (qN d r)))]:=by
 refine Sound.o X Tryz.call130 Tryz.func130 Tryz.ntmps130 rfl rfl ?_
 intro zb
 have pX:bh d.live≤1048576∧bh d.saved≤1048576:=by unfold aJ at h0;omega
 unfold bh at pX
 refine W.s0 X [1,2,3,4,8] rfl ⟨⟩ ?_
 refine W.sr X [] [(19,⟨true,[.agg (aX (lM d.live r own other)), .a (.lit (.bool (sP d.live r)))]⟩)] [4,8,10,11] [] rfl (by(repeat' with_reducible first|exact ah.nil|refine ah.mk ?_ ?_|apply And.intro)<;>first|exact(xV d.live r own other ⟨by omega,by omega⟩)) ?_
 refine W.seq ?_
 refine W.sr X [] [(26,⟨false,[.a (.lit (.bool (dB d)))]⟩)] [4,8,10,28] [] rfl (by(repeat' with_reducible first|exact ah.nil|refine ah.mk ?_ ?_|apply And.intro)<;>first|exact fun _=>(cY d)) ?_
 refine W.cond rfl (fun hb0=> ?_) (fun hb0=> ?_)
 ·have hk:qN d r=false:=bD hb0 (by simp only[qN,aF]<;>first|rfl|ac_rfl)
  have hd:=Mc (own:=own) (other:=other) hk
  refine W.sr X [] [(30,⟨true,[.agg (bg d)]⟩)] [8,9] [] rfl (by(repeat' with_reducible first|exact ah.nil|refine ah.mk ?_ ?_|apply And.intro)<;>first|exact(eX d h0)) ?_
  refine W.ret ?_
  exact Fin.ret rfl (by and_intros<;>first|exact⟨⟩| (rw[hd];done)| (rw[hk];done))
 ·have hk:qN d r=true:=bA hb0 (by simp only[qN,aF]<;>first|rfl|ac_rfl)
  have hz:=IS (own:=own) (other:=other) hk
  refine W.skip ?_
  refine W.sd X [] [(34,⟨true,[.agg (aX d.saved)]⟩)] [8,12] [] 6 MO (by kernel_rfl) rfl (by(repeat' with_reducible first|exact ah.nil|refine ah.mk ?_ ?_|apply And.intro)<;>first|exact(dm d.saved ⟨by omega,by omega⟩)) ?_
  refine W.seq ?_
  refine W.sr X [] [(37,⟨false,[.a (.lit (.bool (uP (lN d r own other))))]⟩)] [8,12,37] [] rfl (by(repeat' with_reducible first|exact ah.nil|refine ah.mk ?_ ?_|apply And.intro)<;>first|exact(zK (lN d r own other))) ?_
  refine W.cond rfl (fun aD=> ?_) (fun aD=> ?_)
  ·have hd:=Md hk aD
   refine W.fH X [] [(39,⟨true,[.agg (bg (E1 (lN d r own other)))]⟩)] [8,12] [] rfl (by(repeat' with_reducible first|exact ah.nil|refine ah.mk ?_ ?_|apply And.intro)<;>first|exact(nU (lN d r own other) hz)) ?_
   refine W.s0 X [8,9] rfl (by and_intros<;>exact⟨⟩) ?_
   refine W.ret ?_
   exact Fin.ret rfl (by and_intros<;>first|exact⟨⟩| (rw[hd];done)| (rw[hk];done))
  ·have hd:=Me hk aD
   refine W.skip ?_
   refine W.s0 X [8,9] rfl (by and_intros<;>exact⟨⟩) ?_
   refine W.ret ?_
   exact Fin.ret rfl (by and_intros<;>first|exact⟨⟩| (rw[hd];rfl;done)| (rw[hk];done))
theorem zL(x:aN)(h0:wB x):Sound ty Tryz.prog 53 [.agg (ay x)] [.agg (ay (LO x))]:=by
 refine Sound.o X Tryz.call53 Tryz.func53 Tryz.ntmps53 rfl rfl ?_
 intro zb
 have hls:bL bl x.aj≤1048576∧bL aJ x.aa≤1048576∧b7 x.ak≤1048576∧x.replaced.length≤4194304:=h0
 have iI:=cg hls.2.1
 refine W.s0 X [1,2] rfl ⟨⟩ ?_
 refine W.sr X [] [(15,⟨true,[.agg (ay x)]⟩)] [1,2,3] [] rfl (by(repeat' with_reducible first|exact ah.nil|refine ah.mk ?_ ?_|apply And.intro)<;>first|exact(cD x h0)) ?_
 refine W.seq ?_
 refine W.sr X [] [(17,⟨false,[.a (.lit (.bool (okW x)))]⟩)] [1,2,3,18] [] rfl (by(repeat' with_reducible first|exact ah.nil|refine ah.mk ?_ ?_|apply And.intro)<;>first|exact(bM x)) ?_
 refine W.cond rfl (fun hb0=> ?_) (fun hb0=> ?_)
 ·have gO:okW x=false:=by simpa using hb0
  have hw:=Q1 gO
  refine W.s0 X [2] rfl (by and_intros<;>exact⟨⟩) ?_
  refine W.ret ?_
  exact Fin.ret rfl (by and_intros<;>first|exact⟨⟩| (rw[hw];done))
 ·have gO:okW x=true:=by simpa using hb0
  have hw:=Mf gO
  have har:=Gj gO
  have YR:=(qi (mT gO)).2.1
  refine W.skip ?_
  refine W.seq ?_
  refine W.s0 X [1,2,3,21,22,23] rfl ⟨⟩ ?_
  refine W.block ?_
  refine W.aI (fun k=>k≤x.aa.length) (fun k:Nat=> [(23, .one (.a (.lit (.int .i64 k))))]) (fun k=> [(17, .arr .aL (Ns x k))]) (fun k=>x.aa.length-k) 0 (fun k=>rfl) (Nat.zero_le _) rfl ?_
  intro k hk
  have qA:=LN x k hk
  refine W.s0 X [1,2,3,21,22,23,24] rfl ⟨⟩ ?_
  refine W.seq ?_
  refine W.cond rfl (fun aD=> ?_) (fun aD=> ?_)
  ·try simp only[nb,an,au,af]at aD
   have Wn:=LM x k aD
   have Y8:=Qu x k aD
   have A6:=vM x.ak.rounds (x.aa.getD k (av .aL)).live.next
   have Y9:(gy x (x.aa.getD k (av .aL))).length≤x.ak.rounds.length:=A6
   have hrq:(gd x.ak.rounds (x.aa.getD k (av .aL)).live.next).length=(gy x (x.aa.getD k (av .aL))).length:=rfl
   refine W.skip ?_
   refine W.seq ?_
   refine W.block ?_
   refine W.s0 X [1,2,3,4,5,21,22,23] rfl (by and_intros<;>first|exact⟨⟩| (intros;omega)) ?_
   refine W.sr X [] [(33,⟨true,[.a (.sl .int (gd x.ak.rounds ((x.aa.getD k (av .aL)).live.next)))]⟩)] [1,2,3,4,5,21,22,23,33,34,35] [] rfl (by(repeat' with_reducible first|exact ah.nil|refine ah.mk ?_ ?_|apply And.intro)<;>first|exact(vN x.ak ((x.aa.getD k (av .aL)).live.next) (by omega))) ?_
   refine W.block ?_
   refine W.aI (fun k1=>k1≤(gy x (x.aa.getD k (av .aL))).length) (fun k1:Nat=> [(35, .one (.a (.lit (.int .i64 k1))))]) (fun k1=> [(17, .arr .aL (iy x k k1))]) (fun k1=>(gy x (x.aa.getD k (av .aL))).length-k1) 0 (fun k1=>rfl) (Nat.zero_le _) (by rw[Y8];rfl) ?_
   intro k1 hk1
   have oy:=LK x k k1 aD
   refine W.s0 X [1,2,3,4,5,21,22,23,33,34,35,36] rfl ⟨⟩ ?_
   refine W.seq ?_
   refine W.cond rfl (fun aR=> ?_) (fun aR=> ?_)
   ·try simp only[nb,an,au,af]at aR
    have hs:=IA x k k1 aD aR
    have hsz:=QY gO aD k1
    refine W.skip ?_
    refine W.seq ?_
    refine W.block ?_
    refine W.s0 X [1,2,3,4,5,7,21,22,23,33,34,35] rfl (by and_intros<;>first|exact⟨⟩| (intros;omega)) ?_
    refine W.sr X [] [(45,⟨false,[.a (.lit (.int .i64 (dY ((x.aa.getD k (av .aL)).live).key ((gy x (x.aa.getD k (av .aL))).getD k1 (av .int)) (bK ((x.aa.getD k (av .aL)).live)) x.rows))), .a (.lit (.int .i64 (dY ((x.aa.getD k (av .aL)).live).key ((gy x (x.aa.getD k (av .aL))).getD k1 (av .int)) (1-bK ((x.aa.getD k (av .aL)).live)) x.rows)))]⟩)] [1,2,3,4,5,7,8,9,21,22,23,33,34,35] [] rfl (by(repeat' with_reducible first|exact ah.nil|refine ah.mk ?_ ?_|apply And.intro)<;>first|exact(xU ((x.aa.getD k (av .aL)).live) ((gy x (x.aa.getD k (av .aL))).getD k1 (av .int)) x.rows)) ?_
    refine W.sr X [] [(55,⟨true,[.a (.sl .u8 (Bj x ((gy x (x.aa.getD k (av .aL))).getD k1 (av .int)) (dY (x.aa.getD k (av .aL)).live.key ((gy x (x.aa.getD k (av .aL))).getD k1 (av .int)) (bK (x.aa.getD k (av .aL)).live) x.rows) ((x.aa.getD k (av .aL)).live.seed))), .a (.lit (.bool (uO x ((gy x (x.aa.getD k (av .aL))).getD k1 (av .int)) (dY (x.aa.getD k (av .aL)).live.key ((gy x (x.aa.getD k (av .aL))).getD k1 (av .int)) (bK (x.aa.getD k (av .aL)).live) x.rows) ((x.aa.getD k (av .aL)).live.seed))))]⟩)] [1,2,3,4,5,7,9,10,21,22,23,33,34,35] [] rfl (by(repeat' with_reducible first|exact ah.nil|refine ah.mk ?_ ?_|apply And.intro)<;>first|exact(ni x ((gy x (x.aa.getD k (av .aL))).getD k1 (av .int)) (dY (x.aa.getD k (av .aL)).live.key ((gy x (x.aa.getD k (av .aL))).getD k1 (av .int)) (bK (x.aa.getD k (av .aL)).live) x.rows) ((x.aa.getD k (av .aL)).live.seed) gO)) ?_
    refine W.sr X [] [(65,⟨true,[.a (.sl .u8 (Bj x ((gy x (x.aa.getD k (av .aL))).getD k1 (av .int)) (dY (x.aa.getD k (av .aL)).live.key ((gy x (x.aa.getD k (av .aL))).getD k1 (av .int)) (1-bK (x.aa.getD k (av .aL)).live) x.rows) ((x.aa.getD k (av .aL)).live.seed))), .a (.lit (.bool (uO x ((gy x (x.aa.getD k (av .aL))).getD k1 (av .int)) (dY (x.aa.getD k (av .aL)).live.key ((gy x (x.aa.getD k (av .aL))).getD k1 (av .int)) (1-bK (x.aa.getD k (av .aL)).live) x.rows) ((x.aa.getD k (av .aL)).live.seed))))]⟩)] [1,2,3,4,5,7,10,12,21,22,23,33,34,35] [] rfl (by(repeat' with_reducible first|exact ah.nil|refine ah.mk ?_ ?_|apply And.intro)<;>first|exact(ni x ((gy x (x.aa.getD k (av .aL))).getD k1 (av .int)) (dY (x.aa.getD k (av .aL)).live.key ((gy x (x.aa.getD k (av .aL))).getD k1 (av .int)) (1-bK (x.aa.getD k (av .aL)).live) x.rows) ((x.aa.getD k (av .aL)).live.seed) gO)) ?_
    refine W.fD X [] [(80,⟨true,[.agg (bg (rdev ((iy x k k1).getD k (av .aL)) ((gy x (x.aa.getD k (av .aL))).getD k1 (av .int)) (Bj x ((gy x (x.aa.getD k (av .aL))).getD k1 (av .int)) (dY (x.aa.getD k (av .aL)).live.key ((gy x (x.aa.getD k (av .aL))).getD k1 (av .int)) (bK (x.aa.getD k (av .aL)).live) x.rows) (x.aa.getD k (av .aL)).live.seed) (Bj x ((gy x (x.aa.getD k (av .aL))).getD k1 (av .int)) (dY (x.aa.getD k (av .aL)).live.key ((gy x (x.aa.getD k (av .aL))).getD k1 (av .int)) (1-bK (x.aa.getD k (av .aL)).live) x.rows) (x.aa.getD k (av .aL)).live.seed))), .a (.lit (.bool (qN ((iy x k k1).getD k (av .aL)) ((gy x (x.aa.getD k (av .aL))).getD k1 (av .int)))))]⟩)] [1,2,3,4,5,21,22,23,33,34,35] [] 65535 (.ph 65535 (.br 65535 16 (.last 0) (.br 49151 16 (.last 16384) (.nil)))) 1 MO (by kernel_rfl) rfl (by kernel_rfl) (by(repeat' with_reducible first|exact ah.nil|refine ah.mk ?_ ?_|apply And.intro)<;>first|exact(um ((iy x k k1).getD k (av .aL)) ((gy x (x.aa.getD k (av .aL))).getD k1 (av .int)) (Bj x ((gy x (x.aa.getD k (av .aL))).getD k1 (av .int)) (dY (x.aa.getD k (av .aL)).live.key ((gy x (x.aa.getD k (av .aL))).getD k1 (av .int)) (bK (x.aa.getD k (av .aL)).live) x.rows) (x.aa.getD k (av .aL)).live.seed) (Bj x ((gy x (x.aa.getD k (av .aL))).getD k1 (av .int)) (dY (x.aa.getD k (av .aL)).live.key ((gy x (x.aa.getD k (av .aL))).getD k1 (av .int)) (1-bK (x.aa.getD k (av .aL)).live) x.rows) (x.aa.getD k (av .aL)).live.seed) hsz)| (intros;omega)) ?_
    refine W.r0 X [1,2,3,4,5,21,22,23,33,34,35] rfl ⟨⟩ ?_
    refine⟨k1+1,by omega,by omega,?_⟩
    rw[aV _ k1 rfl (by omega), ←hs]
    try rfl
   ·try simp only[nb,an,au,af]at aR
    rw[LL x k k1 aD aR]
    refine W.exit ?_
    refine W.r0 X [1,2,3,21,22,23] rfl ⟨⟩ ?_
    refine⟨k+1,by omega,by omega,?_⟩
    rw[aV _ k rfl (by omega)]
    try rfl
  ·try simp only[nb,an,au,af]at aD
   refine W.exit ?_
   refine W.s0 X [2] rfl (by and_intros<;>exact⟨⟩) ?_
   refine W.ret ?_
   exact Fin.ret rfl (by and_intros<;>first|exact⟨⟩| (rw[hw];done)| (rw[hw,LP x k (by omega) (by omega)];done))
theorem pG(c:dV)(h0:bL List.length c.aq≤1048576∧bL List.length c.inbox≤1048576):Sound ty Tryz.prog 156 [.agg (aX c)] [.agg (bg (⟨c,c⟩:aL))]:=by
 refine Sound.o X Tryz.call156 Tryz.func156 Tryz.ntmps156 rfl rfl ?_
 intro zb
 refine W.s0 X [1,2] rfl ⟨⟩ ?_
 refine W.sd X [(6,40)] [(4,⟨true,[.agg (aX c)]⟩),(6,⟨true,[.agg (aX c)]⟩)] [2] [] 5 MO (by kernel_rfl) rfl (by(repeat' with_reducible first|exact ah.nil|refine ah.mk ?_ ?_|apply And.intro);(iterate 2 all_goals try first|exact(eK c h0))) ?_
 refine W.ret ?_
 exact Fin.ret rfl ⟨rfl,rfl,rfl,rfl,rfl,rfl,rfl,rfl,rfl,rfl,rfl,rfl,rfl,rfl,rfl,rfl,⟨⟩⟩
theorem nV(d:aL)(h0:aJ d≤1048576):Sound ty Tryz.prog 81 [.agg (bg d)] [.agg (bg (E1 d))]:=by
 refine Sound.o X Tryz.call81 Tryz.func81 Tryz.ntmps81 rfl rfl ?_
 intro zb
 have pX:bh d.live≤1048576∧bh d.saved≤1048576:=by unfold aJ at h0;omega
 unfold bh at pX
 refine W.s0 X [1,2] rfl ⟨⟩ ?_
 refine W.seq ?_
 refine W.sr X [] [(4,⟨false,[.a (.lit (.bool (dB d)))]⟩)] [1,2,5] [] rfl (by(repeat' with_reducible first|exact ah.nil|refine ah.mk ?_ ?_|apply And.intro)<;>first|exact(cZ d)) ?_
 refine W.cond rfl (fun hb0=> ?_) (fun hb0=> ?_)
 ·have hk:dB d=false:=by simpa using hb0
  have hd:E1 d=d:=by rw[E1,hk];rfl
  refine W.sr X [] [(7,⟨true,[.agg (bg d)]⟩)] [2] [] rfl (by(repeat' with_reducible first|exact ah.nil|refine ah.mk ?_ ?_|apply And.intro)<;>first|exact(gK d h0)) ?_
  refine W.ret ?_
  exact Fin.ret rfl (by and_intros<;>first|exact⟨⟩| (rw[hd];done))
 ·have hk:dB d=true:=by simpa using hb0
  have hd:E1 d=⟨d.live,d.live⟩:=by rw[E1,if_pos hk]
  refine W.skip ?_
  refine W.sr X [] [(10,⟨true,[.agg (bg (⟨d.live,d.live⟩:aL))]⟩)] [2] [] rfl (by(repeat' with_reducible first|exact ah.nil|refine ah.mk ?_ ?_|apply And.intro)<;>first|exact(pG d.live ⟨by omega,by omega⟩)) ?_
  refine W.ret ?_
  exact Fin.ret rfl (by and_intros<;>first|exact⟨⟩| (rw[hd];done))
theorem zM(d:aL):Sound ty Tryz.prog 255 [.agg (bg d)] [.a (.lit (.bool (uP d)))]:=by
 refine Sound.o X Tryz.call255 Tryz.func255 Tryz.ntmps255 rfl rfl ?_
 intro zb
 refine W.s0 X [1] rfl ⟨⟩ ?_
 refine W.sr X [] [(4,⟨false,[.a (.lit (.bool (dB d)))]⟩)] [2] [] rfl (by(repeat' with_reducible first|exact ah.nil|refine ah.mk ?_ ?_|apply And.intro)<;>first|exact(cZ d)) ?_
 refine W.ret ?_
 exact Fin.ret rfl ⟨(congrArg Value.bool (by simp only[uP,aF]<;>first|rfl|ac_rfl)),⟨⟩⟩
theorem xW(c:dV)(r n:Int):Sound ty Tryz.prog 175 [.agg (aX c), .a (.lit (.int .i64 r)), .a (.lit (.int .i64 n))] [.a (.lit (.int .i64 (dY c.key r (bK c) n))), .a (.lit (.int .i64 (dY c.key r (1-bK c) n)))]:=by
 refine Sound.o X Tryz.call175 Tryz.func175 Tryz.ntmps175 rfl rfl ?_
 intro zb
 have Y7:=Q2 c
 refine W.s0 X [1,2,3] rfl ⟨⟩ ?_
 refine W.sr X [] [(10,⟨false,[.a (.lit (.int .i64 (bK c)))]⟩)] [1,2,3,8] [] rfl (by(repeat' with_reducible first|exact ah.nil|refine ah.mk ?_ ?_|apply And.intro)<;>first|exact(dZ c)) ?_
 refine W.sd X [] [(16,⟨false,[.a (.lit (.int .i64 (dY c.key r (bK c) n)))]⟩),(23,⟨false,[.a (.lit (.int .i64 (dY c.key r (IntKind.i64.wrap (1-bK c)) n)))]⟩)] [6,7] [] 15 MO (by kernel_rfl) rfl (by(repeat' with_reducible first|exact ah.nil|refine ah.mk ?_ ?_|apply And.intro);(iterate 2 all_goals try first|exact(jN c.key r (bK c) n)|exact(jN c.key r (IntKind.i64.wrap (1-bK c)) n))) ?_
 refine W.ret ?_
 exact Fin.ret rfl ⟨rfl,by rw[Y7],⟨⟩⟩
theorem xX(c:dV)(r:Int)(own other:List UInt8)(h0:bL List.length c.aq≤1048576∧bL List.length c.inbox≤1048576):Sound ty Tryz.prog 254 [.agg (aX c), .a (.lit (.int .i64 r)), .a (.sl .u8 own), .a (.sl .u8 other)] [.agg (aX (lM c r own other)), .a (.lit (.bool (sP c r)))]:=by
 refine Sound.o X Tryz.call254 Tryz.func254 Tryz.ntmps254 rfl rfl ?_
 intro zb
 refine W.s0 X [1,2,3,4,8] rfl ⟨⟩ ?_
 refine W.sr X [] [(14,⟨true,[.agg (aX c)]⟩)] [1,2,3,4,8,10] [] rfl (by(repeat' with_reducible first|exact ah.nil|refine ah.mk ?_ ?_|apply And.intro)<;>first|exact(eK c h0)) ?_
 refine W.seq ?_
 refine W.sr X [] [(16,⟨false,[.a (.lit (.bool (dH c)))]⟩),(22,⟨false,[.a (.lit (.bool (inr r c.next 99999)))]⟩)] [1,2,3,4,8,10,24] [] rfl (by(repeat' with_reducible first|exact ah.nil|refine ah.mk ?_ ?_|apply And.intro);(iterate 2 all_goals try first|exact(cX c)|exact fun _=>(aP r c.next 99999))) ?_
 refine W.cond rfl (fun hb0=> ?_) (fun hb0=> ?_)
 ·have hk:sP c r=false:=bD hb0 (by simp only[sP,aF]<;>first|rfl|ac_rfl)
  have hc:=IQ (own:=own) (other:=other) hk
  refine W.s0 X [8,9] rfl (by and_intros<;>exact⟨⟩) ?_
  refine W.ret ?_
  exact Fin.ret rfl (by and_intros<;>first|exact⟨⟩| (rw[hc];done)| (rw[hk];done))
 ·have hk:sP c r=true:=bA hb0 (by simp only[sP,aF]<;>first|rfl|ac_rfl)
  obtain⟨hok,hn1,hn2,RM⟩:=QX hk
  obtain⟨S3,Tm,_,_,hs0,hs9,_,_⟩:=oY hok
  have hc:lM c r own other=⟨c.id,c.e9,c.key,c.seed,c.aq,if sQ c own then c.sent+1 else c.sent,if jB c other then c.inbox++ [(Jl (Da c) (c.inbox.length:Int) other).body]else c.inbox,r+1⟩:=by rw[lM,if_pos hk]
  refine W.skip ?_
  refine W.seq ?_
  refine W.sr X [] [(35,⟨false,[.a (.sl .u8 (oR c c.sent))]⟩),(36,⟨false,[.a (.lit (.bool (own==(oR c c.sent))))]⟩)] [1,3,4,8,10,37] [] rfl ⟨fun _=>jO own (oR c c.sent),fun h=>sq c hs0 (of_decide_eq_true h),⟨⟩⟩ ?_
  refine W.cond rfl (fun aD=> ?_) (fun aD=> ?_)
  ·have hh:sQ c own=true:=gS aD (by simp only[sQ,aF]<;>first|rfl|ac_rfl)
   refine W.r0 X [1,3,4,8,10] rfl ⟨⟩ ?_
   rw[cC (a:=c.sent+1) (by omega)]
   refine W.seq ?_
   refine W.fD X [] [(46,⟨false,[.a (.lit (.int .i64 (bK c)))]⟩),(48,⟨false,[.a (.lit (.int .i64 (jg c.key (IntKind.i64.wrap (1-bK c)))))]⟩),(53,⟨true,[.agg (eB (Jl (jg c.key (IntKind.i64.wrap (1-bK c))) (c.inbox.length:Int) other)), .a (.lit (.bool (lK (jg c.key (IntKind.i64.wrap (1-bK c))) (c.inbox.length:Int) other)))]⟩)] [1,4,8,10,11,12] [] 98303 (.ph 32767 (.br 32767 15 (.last 65536) (.br 24575 15 (.last 73728) (.nil)))) 1 MO (by kernel_rfl) rfl (by kernel_rfl) (by(repeat' with_reducible first|exact ah.nil|refine ah.mk ?_ ?_|apply And.intro);(iterate 3 all_goals try first|exact(dZ c)|exact(ij c.key (IntKind.i64.wrap (1-bK c)))|exact(qE (jg c.key (IntKind.i64.wrap (1-bK c))) (c.inbox.length:Int) other))) ?_
   rw[xT]
   refine W.seq ?_
   refine W.s0 X [1,8,10,11,67] rfl ⟨⟩ ?_
   refine W.cond rfl (fun aR=> ?_) (fun aR=> ?_)
   ·have hg:jB c other=true:=gS aR (by simp only[jB,aF]<;>first|rfl|ac_rfl)
    refine W.r0 X [1,8,10] rfl (by and_intros<;>first|exact⟨⟩|exact rfl| (simp only[cN,maxLen,lens];omega)) ?_
    refine W.s0 X [8,10] rfl ⟨⟩ ?_
    rw[cC (a:=r+1) (by omega)]
    refine W.s0 X [8,9] rfl (by and_intros<;>exact⟨⟩) ?_
    refine W.ret ?_
    exact Fin.ret rfl (by and_intros<;>first|exact⟨⟩| (rw[hc];done)| (rw[hc];simp only[hh,if_true];done)| (rw[hc];simp only[hg,if_true];done)| (rw[hk];done))
   ·have hg:jB c other=false:=kP aR (by simp only[jB,aF]<;>first|rfl|ac_rfl)
    refine W.skip ?_
    refine W.s0 X [8,10] rfl ⟨⟩ ?_
    rw[cC (a:=r+1) (by omega)]
    refine W.s0 X [8,9] rfl (by and_intros<;>exact⟨⟩) ?_
    refine W.ret ?_
    exact Fin.ret rfl (by and_intros<;>first|exact⟨⟩| (rw[hc];done)| (rw[hc];simp only[hh,if_true];done)| (rw[hc];simp[hg];done)| (rw[hk];done))
  ·have hh:sQ c own=false:=kP aD (by simp only[sQ,aF]<;>first|rfl|ac_rfl)
   refine W.skip ?_
   refine W.seq ?_
   refine W.fD X [] [(46,⟨false,[.a (.lit (.int .i64 (bK c)))]⟩),(48,⟨false,[.a (.lit (.int .i64 (jg c.key (IntKind.i64.wrap (1-bK c)))))]⟩),(53,⟨true,[.agg (eB (Jl (jg c.key (IntKind.i64.wrap (1-bK c))) (c.inbox.length:Int) other)), .a (.lit (.bool (lK (jg c.key (IntKind.i64.wrap (1-bK c))) (c.inbox.length:Int) other)))]⟩)] [1,4,8,10,11,12] [] 98303 (.ph 32767 (.br 32767 15 (.last 65536) (.br 24575 15 (.last 73728) (.nil)))) 1 MO (by kernel_rfl) rfl (by kernel_rfl) (by(repeat' with_reducible first|exact ah.nil|refine ah.mk ?_ ?_|apply And.intro);(iterate 3 all_goals try first|exact(dZ c)|exact(ij c.key (IntKind.i64.wrap (1-bK c)))|exact(qE (jg c.key (IntKind.i64.wrap (1-bK c))) (c.inbox.length:Int) other))) ?_
   rw[xT]
   refine W.seq ?_
   refine W.s0 X [1,8,10,11,67] rfl ⟨⟩ ?_
   refine W.cond rfl (fun aR=> ?_) (fun aR=> ?_)
   ·have hg:jB c other=true:=gS aR (by simp only[jB,aF]<;>first|rfl|ac_rfl)
    refine W.r0 X [1,8,10] rfl (by and_intros<;>first|exact⟨⟩|exact rfl| (simp only[cN,maxLen,lens];omega)) ?_
    refine W.s0 X [8,10] rfl ⟨⟩ ?_
    rw[cC (a:=r+1) (by omega)]
    refine W.s0 X [8,9] rfl (by and_intros<;>exact⟨⟩) ?_
    refine W.ret ?_
    exact Fin.ret rfl (by and_intros<;>first|exact⟨⟩| (rw[hc];done)| (rw[hc];simp[hh];done)| (rw[hc];simp only[hg,if_true];done)| (rw[hk];done))
   ·have hg:jB c other=false:=kP aR (by simp only[jB,aF]<;>first|rfl|ac_rfl)
    refine W.skip ?_
    refine W.s0 X [8,10] rfl ⟨⟩ ?_
    rw[cC (a:=r+1) (by omega)]
    refine W.s0 X [8,9] rfl (by and_intros<;>exact⟨⟩) ?_
    refine W.ret ?_
    exact Fin.ret rfl (by and_intros<;>first|exact⟨⟩| (rw[hc];done)| (rw[hc];simp[hh];done)| (rw[hc];simp[hg];done)| (rw[hk];done))
theorem uo(d:aL)(r:Int)(own other:List UInt8)(h0:aJ d≤1048576):Sound ty Tryz.prog 177 [.agg (bg d), .a (.lit (.int .i64 r)), .a (.sl .u8 own), .a (.sl .u8 other)] [.agg (bg (rdev d r own other)), .a (.lit (.bool (qN d r)))]:=by
 refine Sound.o X Tryz.call177 Tryz.func177 Tryz.ntmps177 rfl rfl ?_
 intro zb
 have pX:bh d.live≤1048576∧bh d.saved≤1048576:=by unfold aJ at h0;omega
 unfold bh at pX
 refine W.s0 X [1,2,3,4,8] rfl ⟨⟩ ?_
 refine W.sr X [] [(19,⟨true,[.agg (aX (lM d.live r own other)), .a (.lit (.bool (sP d.live r)))]⟩)] [4,8,10,11] [] rfl (by(repeat' with_reducible first|exact ah.nil|refine ah.mk ?_ ?_|apply And.intro)<;>first|exact(xX d.live r own other ⟨by omega,by omega⟩)) ?_
 refine W.seq ?_
 refine W.sr X [] [(23,⟨false,[.a (.lit (.bool (dB d)))]⟩)] [4,8,10,28] [] rfl (by(repeat' with_reducible first|exact ah.nil|refine ah.mk ?_ ?_|apply And.intro)<;>first|exact(cZ d)) ?_
 refine W.cond rfl (fun hb0=> ?_) (fun hb0=> ?_)
 ·have hk:qN d r=false:=bD hb0 (by simp only[qN,aF]<;>first|rfl|ac_rfl)
  have hd:=Mc (own:=own) (other:=other) hk
  refine W.sr X [] [(30,⟨true,[.agg (bg d)]⟩)] [8,9] [] rfl (by(repeat' with_reducible first|exact ah.nil|refine ah.mk ?_ ?_|apply And.intro)<;>first|exact(gK d h0)) ?_
  refine W.ret ?_
  exact Fin.ret rfl (by and_intros<;>first|exact⟨⟩| (rw[hd];done)| (rw[hk];done))
 ·have hk:qN d r=true:=bA hb0 (by simp only[qN,aF]<;>first|rfl|ac_rfl)
  have hz:=IS (own:=own) (other:=other) hk
  refine W.skip ?_
  refine W.sd X [] [(34,⟨true,[.agg (aX d.saved)]⟩)] [8,12] [] 6 MO (by kernel_rfl) rfl (by(repeat' with_reducible first|exact ah.nil|refine ah.mk ?_ ?_|apply And.intro)<;>first|exact(eK d.saved ⟨by omega,by omega⟩)) ?_
  refine W.seq ?_
  refine W.sr X [] [(37,⟨false,[.a (.lit (.bool (uP (lN d r own other))))]⟩)] [8,12,37] [] rfl (by(repeat' with_reducible first|exact ah.nil|refine ah.mk ?_ ?_|apply And.intro)<;>first|exact(zM (lN d r own other))) ?_
  refine W.cond rfl (fun aD=> ?_) (fun aD=> ?_)
  ·have hd:=Md hk aD
   refine W.sr X [] [(39,⟨true,[.agg (bg (E1 (lN d r own other)))]⟩)] [8,9] [] rfl (by(repeat' with_reducible first|exact ah.nil|refine ah.mk ?_ ?_|apply And.intro)<;>first|exact(nV (lN d r own other) hz)) ?_
   refine W.ret ?_
   exact Fin.ret rfl (by and_intros<;>first|exact⟨⟩| (rw[hd];done)| (rw[hk];done))
  ·have hd:=Me hk aD
   refine W.skip ?_
   refine W.s0 X [8,9] rfl (by and_intros<;>exact⟨⟩) ?_
   refine W.ret ?_
   exact Fin.ret rfl (by and_intros<;>first|exact⟨⟩| (rw[hd];rfl;done)| (rw[hk];done))
theorem zN(x:aN)(h0:wB x):Sound ty Tryz.prog 104 [.agg (ay x)] [.agg (ay (LO x))]:=by
 refine Sound.o X Tryz.call104 Tryz.func104 Tryz.ntmps104 rfl rfl ?_
 intro zb
 have hls:bL bl x.aj≤1048576∧bL aJ x.aa≤1048576∧b7 x.ak≤1048576∧x.replaced.length≤4194304:=h0
 have iI:=cg hls.2.1
 refine W.s0 X [1,2] rfl ⟨⟩ ?_
 refine W.sr X [] [(17,⟨true,[.agg (ay x)]⟩)] [1,2,3] [] rfl (by(repeat' with_reducible first|exact ah.nil|refine ah.mk ?_ ?_|apply And.intro)<;>first|exact(bT x h0)) ?_
 refine W.seq ?_
 refine W.sr X [] [(19,⟨false,[.a (.lit (.bool (okW x)))]⟩)] [1,2,3,20] [] rfl (by(repeat' with_reducible first|exact ah.nil|refine ah.mk ?_ ?_|apply And.intro)<;>first|exact(bY x)) ?_
 refine W.cond rfl (fun hb0=> ?_) (fun hb0=> ?_)
 ·have gO:okW x=false:=by simpa using hb0
  have hw:=Q1 gO
  refine W.s0 X [2] rfl (by and_intros<;>exact⟨⟩) ?_
  refine W.ret ?_
  exact Fin.ret rfl (by and_intros<;>first|exact⟨⟩| (rw[hw];done))
 ·have gO:okW x=true:=by simpa using hb0
  have hw:=Mf gO
  have har:=Gj gO
  have YR:=(qi (mT gO)).2.1
  refine W.skip ?_
  refine W.seq ?_
  refine W.s0 X [1,2,3,4] rfl ⟨⟩ ?_
  refine W.block ?_
  refine W.aI (fun k=>k≤x.aa.length) (fun k:Nat=> [(4, .one (.a (.lit (.int .i64 k))))]) (fun k=> [(19, .arr .aL (Ns x k))]) (fun k=>x.aa.length-k) 0 (fun k=>rfl) (Nat.zero_le _) rfl ?_
  intro k hk
  have qA:=LN x k hk
  refine W.seq ?_
  refine W.s0 X [1,2,3,4,26] rfl ⟨⟩ ?_
  refine W.cond rfl (fun aD=> ?_) (fun aD=> ?_)
  ·try simp only[nb,an,au,af]at aD
   rw[qA]at aD
   have Wn:=LM x k aD
   have Y8:=Qu x k aD
   have A6:=vM x.ak.rounds (x.aa.getD k (av .aL)).live.next
   have Y9:(gy x (x.aa.getD k (av .aL))).length≤x.ak.rounds.length:=A6
   have hrq:(gd x.ak.rounds (x.aa.getD k (av .aL)).live.next).length=(gy x (x.aa.getD k (av .aL))).length:=rfl
   refine W.skip ?_
   refine W.seq ?_
   refine W.block ?_
   refine W.sd X [] [(38,⟨true,[.a (.sl .int (gd x.ak.rounds (((Ns x k).getD k (av .aL)).live.next)))]⟩)] [1,2,3,4,5] [] 11 MO (by kernel_rfl) rfl (by(repeat' with_reducible first|exact ah.nil|refine ah.mk ?_ ?_|apply And.intro)<;>first|exact(vO x.ak (((Ns x k).getD k (av .aL)).live.next) (by omega))| (intros;omega)) ?_
   rw[Wn]
   refine W.s0 X [1,2,3,4,5,6] rfl ⟨⟩ ?_
   refine W.block ?_
   refine W.aI (fun k1=>k1≤(gy x (x.aa.getD k (av .aL))).length) (fun k1:Nat=> [(6, .one (.a (.lit (.int .i64 k1))))]) (fun k1=> [(19, .arr .aL (iy x k k1))]) (fun k1=>(gy x (x.aa.getD k (av .aL))).length-k1) 0 (fun k1=>rfl) (Nat.zero_le _) (by rw[Y8];rfl) ?_
   intro k1 hk1
   have oy:=LK x k k1 aD
   refine W.seq ?_
   refine W.s0 X [1,2,3,4,5,6,42] rfl ⟨⟩ ?_
   refine W.cond rfl (fun aR=> ?_) (fun aR=> ?_)
   ·try simp only[nb,an,au,af]at aR
    have hs:=Q0 x k k1 aD aR
    have hsz:=QY gO aD k1
    refine W.skip ?_
    refine W.seq ?_
    refine W.block ?_
    refine W.s0 X [1,2,3,4,5,6,7] rfl (by and_intros<;>first|exact⟨⟩| (intros;omega)) ?_
    refine W.sd X [] [(59,⟨false,[.a (.lit (.int .i64 (dY (((iy x k k1).getD k (av .aL)).live).key ((gy x (x.aa.getD k (av .aL))).getD k1 (av .int)) (bK (((iy x k k1).getD k (av .aL)).live)) x.rows))), .a (.lit (.int .i64 (dY (((iy x k k1).getD k (av .aL)).live).key ((gy x (x.aa.getD k (av .aL))).getD k1 (av .int)) (1-bK (((iy x k k1).getD k (av .aL)).live)) x.rows)))]⟩)] [1,2,3,4,5,6,7,8,9] [] 13 MO (by kernel_rfl) rfl (by(repeat' with_reducible first|exact ah.nil|refine ah.mk ?_ ?_|apply And.intro)<;>first|exact(xW (((iy x k k1).getD k (av .aL)).live) ((gy x (x.aa.getD k (av .aL))).getD k1 (av .int)) x.rows)| (intros;omega)) ?_
    refine W.sd X [] [(71,⟨true,[.a (.sl .u8 (Bj x ((gy x (x.aa.getD k (av .aL))).getD k1 (av .int)) (dY ((iy x k k1).getD k (av .aL)).live.key ((gy x (x.aa.getD k (av .aL))).getD k1 (av .int)) (bK ((iy x k k1).getD k (av .aL)).live) x.rows) (((iy x k k1).getD k (av .aL)).live.seed))), .a (.lit (.bool (uO x ((gy x (x.aa.getD k (av .aL))).getD k1 (av .int)) (dY ((iy x k k1).getD k (av .aL)).live.key ((gy x (x.aa.getD k (av .aL))).getD k1 (av .int)) (bK ((iy x k k1).getD k (av .aL)).live) x.rows) (((iy x k k1).getD k (av .aL)).live.seed))))]⟩)] [1,2,3,4,5,6,7,9,10] [] 14 MO (by kernel_rfl) rfl (by(repeat' with_reducible first|exact ah.nil|refine ah.mk ?_ ?_|apply And.intro)<;>first|exact(sU x ((gy x (x.aa.getD k (av .aL))).getD k1 (av .int)) (dY ((iy x k k1).getD k (av .aL)).live.key ((gy x (x.aa.getD k (av .aL))).getD k1 (av .int)) (bK ((iy x k k1).getD k (av .aL)).live) x.rows) (((iy x k k1).getD k (av .aL)).live.seed) gO)| (intros;omega)) ?_
    refine W.sd X [] [(83,⟨true,[.a (.sl .u8 (Bj x ((gy x (x.aa.getD k (av .aL))).getD k1 (av .int)) (dY ((iy x k k1).getD k (av .aL)).live.key ((gy x (x.aa.getD k (av .aL))).getD k1 (av .int)) (1-bK ((iy x k k1).getD k (av .aL)).live) x.rows) (((iy x k k1).getD k (av .aL)).live.seed))), .a (.lit (.bool (uO x ((gy x (x.aa.getD k (av .aL))).getD k1 (av .int)) (dY ((iy x k k1).getD k (av .aL)).live.key ((gy x (x.aa.getD k (av .aL))).getD k1 (av .int)) (1-bK ((iy x k k1).getD k (av .aL)).live) x.rows) (((iy x k k1).getD k (av .aL)).live.seed))))]⟩)] [1,2,3,4,5,6,10,12] [] 14 MO (by kernel_rfl) rfl (by(repeat' with_reducible first|exact ah.nil|refine ah.mk ?_ ?_|apply And.intro)<;>first|exact(sU x ((gy x (x.aa.getD k (av .aL))).getD k1 (av .int)) (dY ((iy x k k1).getD k (av .aL)).live.key ((gy x (x.aa.getD k (av .aL))).getD k1 (av .int)) (1-bK ((iy x k k1).getD k (av .aL)).live) x.rows) (((iy x k k1).getD k (av .aL)).live.seed) gO)| (intros;omega)) ?_
    refine W.seq ?_
    refine W.fD X [] [(98,⟨true,[.agg (bg (rdev ((iy x k k1).getD k (av .aL)) ((gy x (x.aa.getD k (av .aL))).getD k1 (av .int)) (Bj x ((gy x (x.aa.getD k (av .aL))).getD k1 (av .int)) (dY ((iy x k k1).getD k (av .aL)).live.key ((gy x (x.aa.getD k (av .aL))).getD k1 (av .int)) (bK ((iy x k k1).getD k (av .aL)).live) x.rows) ((iy x k k1).getD k (av .aL)).live.seed) (Bj x ((gy x (x.aa.getD k (av .aL))).getD k1 (av .int)) (dY ((iy x k k1).getD k (av .aL)).live.key ((gy x (x.aa.getD k (av .aL))).getD k1 (av .int)) (1-bK ((iy x k k1).getD k (av .aL)).live) x.rows) ((iy x k k1).getD k (av .aL)).live.seed))), .a (.lit (.bool (qN ((iy x k k1).getD k (av .aL)) ((gy x (x.aa.getD k (av .aL))).getD k1 (av .int)))))]⟩)] [1,2,3,4,5,6,14] [] 196607 (.ph 65535 (.br 65535 16 (.last 131072) (.br 49151 16 (.last 147456) (.nil)))) 1 MO (by kernel_rfl) rfl (by kernel_rfl) (by(repeat' with_reducible first|exact ah.nil|refine ah.mk ?_ ?_|apply And.intro)<;>first|exact(uo ((iy x k k1).getD k (av .aL)) ((gy x (x.aa.getD k (av .aL))).getD k1 (av .int)) (Bj x ((gy x (x.aa.getD k (av .aL))).getD k1 (av .int)) (dY ((iy x k k1).getD k (av .aL)).live.key ((gy x (x.aa.getD k (av .aL))).getD k1 (av .int)) (bK ((iy x k k1).getD k (av .aL)).live) x.rows) ((iy x k k1).getD k (av .aL)).live.seed) (Bj x ((gy x (x.aa.getD k (av .aL))).getD k1 (av .int)) (dY ((iy x k k1).getD k (av .aL)).live.key ((gy x (x.aa.getD k (av .aL))).getD k1 (av .int)) (1-bK ((iy x k k1).getD k (av .aL)).live) x.rows) ((iy x k k1).getD k (av .aL)).live.seed) hsz)| (intros;omega)) ?_
    refine W.r0 X [1,2,3,4,5,6] rfl (by and_intros<;>first|exact⟨⟩| (intros;omega)) ?_
    refine W.r0 X [1,2,3,4,5,6] rfl ⟨⟩ ?_
    refine⟨k1+1,by omega,by omega,?_⟩
    rw[aV _ k1 rfl (by omega), ←hs]
    try rfl
   ·try simp only[nb,an,au,af]at aR
    rw[LL x k k1 aD aR]
    refine W.exit ?_
    refine W.r0 X [1,2,3,4] rfl ⟨⟩ ?_
    refine⟨k+1,by omega,by omega,?_⟩
    rw[aV _ k rfl (by omega)]
    try rfl
  ·try simp only[nb,an,au,af]at aD
   rw[qA]at aD
   refine W.exit ?_
   refine W.s0 X [2] rfl (by and_intros<;>exact⟨⟩) ?_
   refine W.ret ?_
   exact Fin.ret rfl (by and_intros<;>first|exact⟨⟩| (rw[hw];done)| (rw[hw,LP x k (by omega) (by omega)];done))
end
section
set_option maxRecDepth 100000
theorem qt(rows:Int)(l:List aB)(hz: ∀r,r∈l→bL List.length r.share.rows≤1048576):Sound ty Tryz.prog 207 [.a (.lit (.int .i64 rows)), .a (.sl .aB l)] [.agg (aH (fY rows l))]:=by
 refine Sound.o X Tryz.call207 Tryz.func207 Tryz.ntmps207 rfl rfl ?_
 intro zb
 refine W.bound 1 rfl (fun jr=> ?_)
 refine W.s0 X [0,1,4] rfl ⟨⟩ ?_
 refine W.sr X [] [(9,⟨true,[.agg (aH (cT rows))]⟩)] [1,4,5] [] rfl (by(repeat' with_reducible first|exact ah.nil|refine ah.mk ?_ ?_|apply And.intro)<;>first|exact(mY rows)) ?_
 refine W.seq ?_
 refine W.s0 X [4,5,10,11,12] rfl ⟨⟩ ?_
 refine W.block ?_
 refine W.aI (fun k=>k≤l.length) (fun k:Nat=> [(12, .one (.a (.lit (.int .i64 k))))]) (fun k=> [(9, .arr (.sl .u8) (fY rows (l.take k)).rows)]) (fun k=>l.length-k) 0 (fun k=>rfl) (Nat.zero_le _) rfl ?_
 intro k hk
 refine W.s0 X [4,5,10,11,12,13] rfl ⟨⟩ ?_
 refine W.seq ?_
 refine W.cond rfl (fun hb0=> ?_) (fun hb0=> ?_)
 ·try simp only[nb,an,au,af]at hb0
  have hs:=EX rows l k hb0
  refine W.skip ?_
  refine W.seq ?_
  refine W.block ?_
  refine W.s0 X [4,5,7,10,11,12] rfl (by and_intros<;>first|exact⟨⟩| (intros;omega)) ?_
  refine W.fH X [] [(20,⟨true,[.agg (aH (fC (fY rows (l.take k)) ((l.getD k (av .aB)).share))), .a (.lit (.bool (gw (fY rows (l.take k)) ((l.getD k (av .aB)).share))))]⟩)] [4,5,10,11,12] [] rfl (by(repeat' with_reducible first|exact ah.nil|refine ah.mk ?_ ?_|apply And.intro)<;>first|exact(iq (fY rows (l.take k)) ((l.getD k (av .aB)).share) (LY _ _) (hz _ (getD_in _ hb0)))) ?_
  refine W.kY 5 0 9 rfl ?_
  refine W.r0 X [4,5,10,11,12] rfl ⟨⟩ ?_
  refine⟨k+1,by omega,by omega,?_⟩
  rw[aV _ k rfl (by omega),hs]
  try rfl
 ·try simp only[nb,an,au,af]at hb0
  refine W.exit ?_
  refine W.s0 X [4] rfl (by and_intros<;>exact⟨⟩) ?_
  refine W.ret ?_
  exact Fin.ret rfl ⟨by rw[List.take_of_length_le hb0],⟨⟩⟩
theorem kZ(s:aU)(f:Nat)(hf:f≤8)(hz: ∀r,r∈s.received→bL List.length r.share.rows≤1048576):Sound ty Tryz.prog 248 [.agg (bw s), .a (.lit (.int .i64 ((f:Nat):Int)))] [.agg (aH (fY s.rows (s.received.drop f)))]:=by
 refine Sound.o X Tryz.call248 Tryz.func248 Tryz.ntmps248 rfl rfl ?_
 intro zb
 refine W.bS 0 3 rfl rfl (fun jr=> ?_)
 refine W.s0 X [1,2,4] rfl ⟨⟩ ?_
 refine W.sr X [] [(11,⟨true,[.agg (aH (cT s.rows))]⟩)] [1,2,4,5] [] rfl (by(repeat' with_reducible first|exact ah.nil|refine ah.mk ?_ ?_|apply And.intro)<;>first|exact(mZ s.rows)) ?_
 refine W.seq ?_
 refine W.s0 X [2,4,5,6] rfl ⟨⟩ ?_
 refine W.block ?_
 refine W.aI (fun k=>f≤k∧(k≤s.received.length∨k=f)) (fun k:Nat=> [(6, .one (.a (.lit (.int .i64 k))))]) (fun k=> [(11, .arr (.sl .u8) (fY s.rows ((s.received.drop f).take (k-f))).rows)]) (fun k=>s.received.length-k) f (fun k=>rfl) ⟨Nat.le_refl _,Or.inr rfl⟩ (by simp[fY]) ?_
 rintro k ⟨hk,hk2⟩
 refine W.seq ?_
 refine W.s0 X [2,4,5,6,17] rfl ⟨⟩ ?_
 refine W.cond rfl (fun hb0=> ?_) (fun hb0=> ?_)
 ·try simp only[nb,an,au,af]at hb0
  have hs:=Nw s.rows s.received f k hb0 hk
  refine W.skip ?_
  refine W.seq ?_
  refine W.block ?_
  refine W.seq ?_
  refine W.fD X [] [(28,⟨true,[.agg (aH (fC (fY s.rows ((s.received.drop f).take (k-f))) ((s.received.getD k (av .aB)).share))), .a (.lit (.bool (gw (fY s.rows ((s.received.drop f).take (k-f))) ((s.received.getD k (av .aB)).share))))]⟩)] [2,4,5,6,7] [] 12287 (.ph 4095 (.br 4095 12 (.last 8192) (.br 3071 12 (.last 9216) (.nil)))) 1 MO (by kernel_rfl) rfl (by kernel_rfl) (by(repeat' with_reducible first|exact ah.nil|refine ah.mk ?_ ?_|apply And.intro)<;>first|exact(ir (fY s.rows ((s.received.drop f).take (k-f))) ((s.received.getD k (av .aB)).share) (LY _ _) (hz _ (getD_in _ hb0)))| (intros;omega)) ?_
  refine W.r0 X [2,4,5,6] rfl (by and_intros<;>exact⟨⟩) ?_
  refine W.kY 5 0 11 rfl ?_
  refine W.r0 X [2,4,5,6] rfl ⟨⟩ ?_
  refine⟨k+1,by omega,by omega,?_⟩
  rw[aV _ k rfl (by omega),hs]
  try rfl
 ·try simp only[nb,an,au,af]at hb0
  refine W.exit ?_
  refine W.s0 X [4] rfl (by and_intros<;>exact⟨⟩) ?_
  refine W.ret ?_
  exact Fin.ret rfl ⟨by rw[QH _ _ _ _ hb0],⟨⟩⟩
theorem vR(s:aU):Sound ty Tryz.prog 227 [.agg (bw s)] [.agg (aH (qQ s))]:=by
 refine Sound.o X Tryz.call227 Tryz.func227 Tryz.ntmps227 rfl rfl ?_
 intro zb
 refine W.s0 X [1,2] rfl ⟨⟩ ?_
 refine W.seq ?_
 refine W.sr X [] [(4,⟨false,[.a (.lit (.bool (bW s)))]⟩)] [1,2,5] [] rfl (by(repeat' with_reducible first|exact ah.nil|refine ah.mk ?_ ?_|apply And.intro)<;>first|exact(cI s)) ?_
 refine W.cond rfl (fun hb0=> ?_) (fun hb0=> ?_)
 ·have hk:bW s=false:=by simpa using hb0
  refine W.s0 X [2] rfl (by and_intros<;>exact⟨⟩) ?_
  refine W.ret ?_
  exact Fin.ret rfl ⟨by rw[qQ,hk];rfl,⟨⟩⟩
 ·have hk:bW s=true:=by simpa using hb0
  have hsz:=xL hk
  refine W.skip ?_
  refine W.sr X [] [(11,⟨true,[.agg (aH (fY s.rows s.received))]⟩)] [2] [] rfl (by(repeat' with_reducible first|exact ah.nil|refine ah.mk ?_ ?_|apply And.intro)<;>first|exact(qt s.rows s.received hsz)) ?_
  refine W.ret ?_
  exact Fin.ret rfl ⟨by rw[qQ,if_pos hk],⟨⟩⟩
theorem vS(s:aU):Sound ty Tryz.prog 267 [.agg (bw s)] [.agg (aH (qQ s))]:=by
 refine Sound.o X Tryz.call267 Tryz.func267 Tryz.ntmps267 rfl rfl ?_
 intro zb
 refine W.s0 X [1,2] rfl ⟨⟩ ?_
 refine W.seq ?_
 refine W.sr X [] [(4,⟨false,[.a (.lit (.bool (bW s)))]⟩)] [1,2,5] [] rfl (by(repeat' with_reducible first|exact ah.nil|refine ah.mk ?_ ?_|apply And.intro)<;>first|exact(cJ s)) ?_
 refine W.cond rfl (fun hb0=> ?_) (fun hb0=> ?_)
 ·have hk:bW s=false:=by simpa using hb0
  refine W.s0 X [2] rfl (by and_intros<;>exact⟨⟩) ?_
  refine W.ret ?_
  exact Fin.ret rfl ⟨by rw[qQ,hk];rfl,⟨⟩⟩
 ·have hk:bW s=true:=by simpa using hb0
  have hsz:=xL hk
  refine W.skip ?_
  refine W.sr X [] [(8,⟨true,[.agg (aH (fY s.rows (s.received.drop 0)))]⟩)] [2] [] rfl (by(repeat' with_reducible first|exact ah.nil|refine ah.mk ?_ ?_|apply And.intro)<;>first|exact(kZ s 0 (by decide) hsz)) ?_
  refine W.ret ?_
  exact Fin.ret rfl ⟨by rw[qQ,if_pos hk];rfl,⟨⟩⟩
theorem uw(s:aU):Sound ty Tryz.prog 125 [.agg (bw s)] [.agg (aH (qR s))]:=by
 refine Sound.o X Tryz.call125 Tryz.func125 Tryz.ntmps125 rfl rfl ?_
 intro zb
 refine W.s0 X [1,2] rfl ⟨⟩ ?_
 refine W.seq ?_
 refine W.sr X [] [(6,⟨false,[.a (.lit (.bool (bW s)))]⟩)] [1,2,7] [] rfl (by(repeat' with_reducible first|exact ah.nil|refine ah.mk ?_ ?_|apply And.intro)<;>first|exact(cI s)) ?_
 refine W.cond rfl (fun hb0=> ?_) (fun hb0=> ?_)
 ·have hk:bW s=false:=by simpa using hb0
  refine W.s0 X [2] rfl (by and_intros<;>exact⟨⟩) ?_
  refine W.ret ?_
  exact Fin.ret rfl ⟨by rw[qR,hk];rfl,⟨⟩⟩
 ·have hk:bW s=true:=by simpa using hb0
  have hsz:=xL hk
  have hin:=QJ hk
  refine W.skip ?_
  refine W.s0 X [1,2,3] rfl ⟨⟩ ?_
  refine W.seq ?_
  refine W.s0 X [1,2,3,13] rfl ⟨⟩ ?_
  refine W.cond rfl (fun aD=> ?_) (fun aD=> ?_)
  ·try simp only[nb,an,au,af]at aD
   have hr:=EY s (by omega)
   have jr:=(LZ hk).2
   have hmi:=Gk 1 (s.received.length:Int)
   refine W.r0 X [1,2,3] rfl (by and_intros<;>first|exact⟨⟩| (intros;omega)) ?_
   rw[show List.take ((s.received.length:Int)).toNat s.received=s.received by simp,QI, ←hr]
   refine W.sr X [] [(22,⟨true,[.agg (aH (fY s.rows (rcvd s)))]⟩)] [1,2,4] [] rfl (by(repeat' with_reducible first|exact ah.nil|refine ah.mk ?_ ?_|apply And.intro)<;>first|exact(qt s.rows (rcvd s) (fun r KE=>hsz r (QL s r KE)))) ?_
   refine W.seq ?_
   refine W.s0 X [2,4,25] rfl ⟨⟩ ?_
   refine W.cond rfl (fun aR=> ?_) (fun aR=> ?_)
   ·try simp only[nb,an,au,af]at aR
    omega
   ·try simp only[nb,an,au,af]at aR
    refine W.skip ?_
    refine W.s0 X [2] rfl (by and_intros<;>exact⟨⟩) ?_
    refine W.ret ?_
    exact Fin.ret rfl ⟨by rw[qR,if_pos hk,if_neg (by omega)],⟨⟩⟩
  ·try simp only[nb,an,au,af]at aD
   have hr:=IC s (by omega)
   rw[hr]at hin
   have Zb:0<((fY s.rows s.received).rows.getD (Int.toNat 0) (av (.sl .u8))).length:=hin.2
   refine W.skip ?_
   refine W.sr X [] [(22,⟨true,[.agg (aH (fY s.rows s.received))]⟩)] [1,2,4] [] rfl (by(repeat' with_reducible first|exact ah.nil|refine ah.mk ?_ ?_|apply And.intro)<;>first|exact(qt s.rows s.received hsz)) ?_
   refine W.seq ?_
   refine W.s0 X [2,4,25] rfl ⟨⟩ ?_
   refine W.cond rfl (fun aR=> ?_) (fun aR=> ?_)
   ·try simp only[nb,an,au,af]at aR
    have abe:s.behavior=2:=by omega
    refine W.r0 X [2,4] rfl (by and_intros<;>first|exact⟨⟩| (intros;omega)|exact(qc _).1|exact(qc _).2) ?_
    refine W.s0 X [2] rfl (by and_intros<;>exact⟨⟩) ?_
    refine W.ret ?_
    exact Fin.ret rfl ⟨by rw[qR,if_pos hk,if_pos (by omega),hr];exact alt_eq _,⟨⟩⟩
   ·try simp only[nb,an,au,af]at aR
    refine W.skip ?_
    refine W.s0 X [2] rfl (by and_intros<;>exact⟨⟩) ?_
    refine W.ret ?_
    exact Fin.ret rfl ⟨by rw[qR,if_pos hk,if_neg (by omega),hr],⟨⟩⟩
theorem ux(s:aU):Sound ty Tryz.prog 172 [.agg (bw s)] [.agg (aH (qR s))]:=by
 refine Sound.o X Tryz.call172 Tryz.func172 Tryz.ntmps172 rfl rfl ?_
 intro zb
 refine W.s0 X [1,2] rfl ⟨⟩ ?_
 refine W.seq ?_
 refine W.sr X [] [(5,⟨false,[.a (.lit (.bool (bW s)))]⟩)] [1,2,6] [] rfl (by(repeat' with_reducible first|exact ah.nil|refine ah.mk ?_ ?_|apply And.intro)<;>first|exact(cJ s)) ?_
 refine W.cond rfl (fun hb0=> ?_) (fun hb0=> ?_)
 ·have hk:bW s=false:=by simpa using hb0
  refine W.s0 X [2] rfl (by and_intros<;>exact⟨⟩) ?_
  refine W.ret ?_
  exact Fin.ret rfl ⟨by rw[qR,hk];rfl,⟨⟩⟩
 ·have hk:bW s=true:=by simpa using hb0
  have hsz:=xL hk
  have hin:=QJ hk
  refine W.skip ?_
  refine W.seq ?_
  refine W.s0 X [1,2,9] rfl ⟨⟩ ?_
  refine W.block ?_
  refine W.s0 X [1,2,9,10] rfl ⟨⟩ ?_
  refine W.cond rfl (fun aD=> ?_) (fun aD=> ?_)
  ·try simp only[nb,an,au,af]at aD
   have hr:=EY s (by omega)
   refine W.sr X [] [(13,⟨true,[.agg (aH (fY s.rows (s.received.drop 1)))]⟩)] [2] [] rfl (by(repeat' with_reducible first|exact ah.nil|refine ah.mk ?_ ?_|apply And.intro)<;>first|exact(kZ s 1 (by decide) hsz)) ?_
   refine W.ret ?_
   exact Fin.ret rfl ⟨by rw[qR,if_pos hk,if_neg (by omega),hr],⟨⟩⟩
  ·try simp only[nb,an,au,af]at aD
   have hr:=IC s (by omega)
   rw[hr]at hin
   have Zb:0<((fY s.rows s.received).rows.getD (Int.toNat 0) (av (.sl .u8))).length:=hin.2
   have abf:0<((fY s.rows (List.drop 0 s.received)).rows.getD (Int.toNat 0) (av (.sl .u8))).length:=hin.2
   have abg:0<(fY s.rows (List.drop 0 s.received)).rows.length:=hin.1
   refine W.s0 X [1,2,14] rfl ⟨⟩ ?_
   refine W.cond rfl (fun aR=> ?_) (fun aR=> ?_)
   ·try simp only[nb,an,au,af]at aR
    refine W.sr X [] [(17,⟨true,[.agg (aH (fY s.rows (s.received.drop 0)))]⟩)] [2,3] [] rfl (by(repeat' with_reducible first|exact ah.nil|refine ah.mk ?_ ?_|apply And.intro)<;>first|exact(kZ s 0 (by decide) hsz)) ?_
    refine W.sd X [] [] [2,3] [] 12 MO (by kernel_rfl) rfl (by and_intros<;>first|exact⟨⟩| (intros;omega)|exact(qc _).1|exact(qc _).2) ?_
    refine W.s0 X [2] rfl (by and_intros<;>exact⟨⟩) ?_
    refine W.ret ?_
    exact Fin.ret rfl ⟨by rw[qR,if_pos hk,if_pos (by omega),hr];exact alt_eq _,⟨⟩⟩
   ·try simp only[nb,an,au,af]at aR
    refine W.skip ?_
    refine W.sr X [] [(32,⟨true,[.agg (aH (fY s.rows (s.received.drop 0)))]⟩)] [2] [] rfl (by(repeat' with_reducible first|exact ah.nil|refine ah.mk ?_ ?_|apply And.intro)<;>first|exact(kZ s 0 (by decide) hsz)) ?_
    refine W.ret ?_
    exact Fin.ret rfl ⟨by rw[qR,if_pos hk,if_neg (by omega),hr];rfl,⟨⟩⟩
theorem qU(a b:DB):Sound ty Tryz.prog 226 [.agg (aH a), .agg (aH b)] [.a (.lit (.bool (a.rows==b.rows)))]:=by
 refine Sound.o X Tryz.call226 Tryz.func226 Tryz.ntmps226 rfl rfl ?_
 intro zb
 refine W.s0 X [2,3] rfl ⟨⟩ ?_
 refine W.sr X [] [(9,⟨false,[.a (.lit (.bool (a.rows==b.rows)))]⟩)] [4] [] rfl (by(repeat' with_reducible first|exact ah.nil|refine ah.mk ?_ ?_|apply And.intro)<;>first|exact(jR a.rows b.rows)) ?_
 refine W.ret ?_
 exact Fin.ret rfl ⟨rfl,⟨⟩⟩
theorem qV(a b:DB):Sound ty Tryz.prog 266 [.agg (aH a), .agg (aH b)] [.a (.lit (.bool (a.rows==b.rows)))]:=by
 refine Sound.o X Tryz.call266 Tryz.func266 Tryz.ntmps266 rfl rfl ?_
 intro zb
 refine W.s0 X [2,3] rfl ⟨⟩ ?_
 refine W.sr X [] [(9,⟨false,[.a (.lit (.bool (a.rows==b.rows)))]⟩)] [4] [] rfl (by(repeat' with_reducible first|exact ah.nil|refine ah.mk ?_ ?_|apply And.intro)<;>first|exact(jP a.rows b.rows)) ?_
 refine W.ret ?_
 exact Fin.ret rfl ⟨rfl,⟨⟩⟩
theorem s7(key:Int)(r:cU):Sound ty Tryz.prog 224 [.a (.lit (.int .i64 key)), .agg (gN r)] [.a (.lit (.bool (Ku key r)))]:=by
 refine Sound.o X Tryz.call224 Tryz.func224 Tryz.ntmps224 rfl rfl ?_
 intro zb
 refine W.s0 X [0,3] rfl ⟨⟩ ?_
 refine W.sd X [] [(9,⟨false,[.a (.lit (.int .i64 (Ir key r.server r.client r.round r.iU)))]⟩)] [4] [] 7 MO (by kernel_rfl) rfl (by(repeat' with_reducible first|exact ah.nil|refine ah.mk ?_ ?_|apply And.intro)<;>first|exact(nQ key r)) ?_
 refine W.ret ?_
 exact Fin.ret rfl ⟨(congrArg Value.bool (by simp only[Ku,aF]<;>first|rfl|ac_rfl)),⟨⟩⟩
theorem qW(r:cU)(d:DB)(hd:bL List.length d.rows≤1048576):Sound ty Tryz.prog 225 [.agg (gN r), .agg (aH d)] [.a (.lit (.bool (Gl r d)))]:=by
 refine Sound.o X Tryz.call225 Tryz.func225 Tryz.ntmps225 rfl rfl ?_
 intro zb
 refine W.s0 X [2,3] rfl ⟨⟩ ?_
 refine W.sd X [] [(12,⟨false,[.a (.lit (.int .i64 (qn r.client r.round d)))]⟩)] [4] [] 10 MO (by kernel_rfl) rfl (by(repeat' with_reducible first|exact ah.nil|refine ah.mk ?_ ?_|apply And.intro)<;>first|exact(m5 r.client r.round d hd)) ?_
 refine W.ret ?_
 exact Fin.ret rfl ⟨(congrArg Value.bool (by simp only[Gl,aF]<;>first|rfl|ac_rfl)),⟨⟩⟩
theorem vT(key:Int)(s:aU)(p:DB)(l:List cU)(hz:s.received.length≤1048576∧ ∀r,r∈s.received→bL List.length r.share.rows≤1048576)(hp:bL List.length p.rows≤1048576):Sound ty Tryz.prog 139 [.a (.lit (.int .i64 key)), .agg (bw s), .agg (aH p), .a (.sl .cU l)] [.a (.lit (.int .i64 (AK key s p l)))]:=by
 refine Sound.o X Tryz.call139 Tryz.func139 Tryz.ntmps139 rfl rfl ?_
 intro zb
 refine W.bound 3 rfl (fun jr=> ?_)
 refine W.s0 X [0,3,5,6] rfl ⟨⟩ ?_
 refine W.seq ?_
 refine W.s0 X [0,5,6,13,14,15] rfl ⟨⟩ ?_
 refine W.block ?_
 refine W.aI (fun k=>k≤l.length∧ ∀j,j<k→gY key s (l.getD j (av .cU))=0) (fun k:Nat=> [(15, .one (.a (.lit (.int .i64 k))))]) (fun k=> []) (fun k=>l.length-k) 0 (fun k=>rfl) ⟨Nat.zero_le _,fun j hj=>absurd hj (Nat.not_lt_zero _)⟩ rfl ?_
 rintro k ⟨hk,hall⟩
 refine W.s0 X [0,5,6,13,14,15,16] rfl ⟨⟩ ?_
 refine W.seq ?_
 refine W.cond rfl (fun hb0=> ?_) (fun hb0=> ?_)
 ·try simp only[nb,an,au,af]at hb0
  refine W.skip ?_
  refine W.seq ?_
  refine W.block ?_
  refine W.s0 X [0,5,6,10,13,14,15] rfl (by and_intros<;>first|exact⟨⟩| (intros;omega)) ?_
  refine W.seq ?_
  refine W.sr X [] [(34,⟨false,[.a (.lit (.bool (Ku key (l.getD k (av .cU)))))]⟩)] [0,5,6,10,13,14,15,36] [] rfl (by(repeat' with_reducible first|exact ah.nil|refine ah.mk ?_ ?_|apply And.intro)<;>first|exact fun _=>(s7 key (l.getD k (av .cU)))) ?_
  refine W.cond rfl (fun aD=> ?_) (fun aD=> ?_)
  ·have Q3:pq key s (l.getD k (av .cU))=true:=gS aD (by simp only[pq,aF]<;>first|rfl|ac_rfl)
   refine W.exit ?_
   refine W.r0 X [0,5,6,13,14,15] rfl ⟨⟩ ?_
   refine⟨k+1,⟨by omega,qp hall (Xk Q3)⟩,by omega,?_⟩
   rw[aV _ k rfl (by omega)]
   try rfl
  ·have Q3:pq key s (l.getD k (av .cU))=false:=kP aD (by simp only[pq,aF]<;>first|rfl|ac_rfl)
   refine W.skip ?_
   refine W.sr X [] [(41,⟨true,[.agg (aH (qK s.received ((l.getD k (av .cU)).client))), .a (.lit (.bool (jA s.received ((l.getD k (av .cU)).client))))]⟩)] [0,5,6,10,11,12,13,14,15] [] rfl (by(repeat' with_reducible first|exact ah.nil|refine ah.mk ?_ ?_|apply And.intro)<;>first|exact(sY s ((l.getD k (av .cU)).client) hz)) ?_
   refine W.seq ?_
   refine W.s0 X [0,5,6,10,11,13,14,15,45] rfl ⟨⟩ ?_
   refine W.cond rfl (fun aR=> ?_) (fun aR=> ?_)
   ·have hsh:jA s.received (l.getD k (av .cU)).client=false:=by simpa using aR
    have hf:=Xh Q3 hsh
    refine W.s0 X [8] rfl ⟨⟩ ?_
    refine W.ret ?_
    exact Fin.ret rfl ⟨by rw[xM hall hb0 (by rw[hf];decide),hf],⟨⟩⟩
   ·have hsh:jA s.received (l.getD k (av .cU)).client=true:=by simpa using aR
    have Zc:=C2 (c:=(l.getD k (av .cU)).client) hz.2
    refine W.skip ?_
    refine W.sr X [] [(48,⟨false,[.a (.lit (.bool (Gl (l.getD k (av .cU)) (qK s.received (l.getD k (av .cU)).client))))]⟩)] [0,5,6,13,14,15,49] [] rfl (by(repeat' with_reducible first|exact ah.nil|refine ah.mk ?_ ?_|apply And.intro)<;>first|exact(qW (l.getD k (av .cU)) (qK s.received (l.getD k (av .cU)).client) Zc)) ?_
    refine W.cond rfl (fun dS=> ?_) (fun dS=> ?_)
    ·have hf:=Xi Q3 hsh (by simpa using dS)
     refine W.s0 X [8] rfl ⟨⟩ ?_
     refine W.ret ?_
     exact Fin.ret rfl ⟨by rw[xM hall hb0 (by rw[hf];decide),hf],⟨⟩⟩
    ·have hf:=Xj Q3 hsh (by simpa using dS)
     refine W.skip ?_
     refine W.r0 X [0,5,6,13,14,15] rfl ⟨⟩ ?_
     refine⟨k+1,⟨by omega,qp hall hf⟩,by omega,?_⟩
     rw[aV _ k rfl (by omega)]
     try rfl
 ·try simp only[nb,an,au,af]at hb0
  refine W.exit ?_
  refine W.seq ?_
  refine W.sd X [] [(52,⟨false,[.a (.lit (.bool (bW s)))]⟩),(57,⟨false,[.agg (aH (qQ s))]⟩),(58,⟨false,[.a (.lit (.bool (p.rows==(qQ s).rows)))]⟩)] [60] [] 10 MO (by kernel_rfl) rfl (by(repeat' with_reducible first|exact ah.nil|refine ah.mk ?_ ?_|apply And.intro);(iterate 3 all_goals try first|exact(cI s)|exact fun _=>(vR s)|exact fun _=>(qU p (qQ s)))) ?_
  refine W.cond rfl (fun hY=> ?_) (fun hY=> ?_)
  ·have hq:(bW s&&(p.rows==(qQ s).rows))=false:=bD hY (by simp only[aF]<;>first|rfl|ac_rfl)
   refine W.s0 X [8] rfl ⟨⟩ ?_
   refine W.ret ?_
   exact Fin.ret rfl ⟨by rw[xN hall hb0,hq];rfl,⟨⟩⟩
  ·have hq:(bW s&&(p.rows==(qQ s).rows))=true:=bA hY (by simp only[aF]<;>first|rfl|ac_rfl)
   refine W.skip ?_
   refine W.s0 X [8] rfl ⟨⟩ ?_
   refine W.ret ?_
   exact Fin.ret rfl ⟨by rw[xN hall hb0,hq];rfl,⟨⟩⟩
theorem xY(m:Int)(sv:List aU)(pb:List DB)(rc:List cU)(hl:sv.length≤1048576)(hs: ∀s,s∈sv→m3 s)(hp: ∀d,d∈pb→bL List.length d.rows≤1048576):Sound ty Tryz.prog 56 [.a (.lit (.int .i64 m)), .a (.sl .aU sv), .a (.sl .DB pb), .a (.sl .cU rc)] [.a (.sl .int (dU m sv pb rc sv.length))]:=by
 refine Sound.o X Tryz.call56 Tryz.func56 Tryz.ntmps56 rfl rfl ?_
 intro zb
 refine W.bound 2 rfl (fun jr=> ?_)
 refine W.s0 X [0,1,2,3] rfl ⟨⟩ ?_
 refine W.s0 X [0,1,2,3,9] rfl (by and_intros<;>first|exact⟨⟩|exact rfl) ?_
 refine W.seq ?_
 refine W.s0 X [0,2,3,9,13,14,15] rfl ⟨⟩ ?_
 refine W.block ?_
 refine W.aI (fun k=>k≤sv.length) (fun k:Nat=> [(15, .one (.a (.lit (.int .i64 k))))]) (fun k=> [(12, .arr .int (dU m sv pb rc k))]) (fun k=>sv.length-k) 0 (fun k=>rfl) (Nat.zero_le _) rfl ?_
 intro k hk
 have hle:=nj m sv pb rc k
 refine W.s0 X [0,2,3,9,13,14,15,16] rfl ⟨⟩ ?_
 refine W.seq ?_
 refine W.cond rfl (fun hb0=> ?_) (fun hb0=> ?_)
 ·try simp only[nb,an,au,af]at hb0
  refine W.skip ?_
  refine W.seq ?_
  refine W.block ?_
  refine W.s0 X [0,2,3,9,10,11,13,14,15] rfl (by and_intros<;>first|exact⟨⟩| (intros;omega)) ?_
  refine W.sd X [] [(28,⟨false,[.a (.lit (.int .i64 (fI m ((sv.getD k (av .aU)).id))))]⟩),(35,⟨false,[.a (.lit (.int .i64 (AK (fI m (sv.getD k (av .aU)).id) (sv.getD k (av .aU)) (pb.getD k (av .DB)) rc)))]⟩)] [0,2,3,9,11,13,14,15,37] [] 18 MO (by kernel_rfl) rfl (by(repeat' with_reducible first|exact ah.nil|refine ah.mk ?_ ?_|apply And.intro);(iterate 3 all_goals try first|exact fun _=>(gT m ((sv.getD k (av .aU)).id))|exact fun _=>(vT (fI m (sv.getD k (av .aU)).id) (sv.getD k (av .aU)) (pb.getD k (av .DB)) rc (hs _ (getD_in _ hb0)) (ID hp k))|exact(by refine fun VZ=> ?_;have NP:decide ((k:Int)≥(pb.length:Int))=false:=VZ;rw[decide_eq_false_iff_not]at NP;dsimp only[hyps,GW];omega))) ?_
  refine W.cond rfl (fun aD=> ?_) (fun aD=> ?_)
  ·have hbd:AL m sv pb rc k=true:=gS aD (by simp only[AL,aF]<;>first|rfl|ac_rfl)
   have Av:=Dd hbd
   refine W.fH X [(42,12)] [] [0,2,3,9,13,14,15] [] rfl (by and_intros<;>first|exact⟨⟩|exact rfl| (simp only[cN,maxLen,lens];omega)) ?_
   refine W.r0 X [0,2,3,9,13,14,15] rfl ⟨⟩ ?_
   refine⟨k+1,by omega,by omega,?_⟩
   rw[aV _ k rfl (by omega),Av]
   try rfl
  ·have hbd:AL m sv pb rc k=false:=kP aD (by simp only[AL,aF]<;>first|rfl|ac_rfl)
   have Av:=zI hbd
   refine W.skip ?_
   refine W.r0 X [0,2,3,9,13,14,15] rfl ⟨⟩ ?_
   refine⟨k+1,by omega,by omega,?_⟩
   rw[aV _ k rfl (by omega),Av]
   try rfl
 ·try simp only[nb,an,au,af]at hb0
  refine W.exit ?_
  refine W.s0 X [8] rfl ⟨⟩ ?_
  refine W.ret ?_
  exact Fin.ret rfl ⟨by rw[show k=sv.length by omega],⟨⟩⟩
theorem xZ(sv:List aU)(hl:sv.length≤1048576):Sound ty Tryz.prog 51 [.a (.sl .aU sv)] [.a (.sl .DB (bI sv))]:=by
 refine Sound.o X Tryz.call51 Tryz.func51 Tryz.ntmps51 rfl rfl ?_
 intro zb
 refine W.s0 X [0] rfl ⟨⟩ ?_
 refine W.s0 X [0,3] rfl (by and_intros<;>first|exact⟨⟩|exact rfl) ?_
 refine W.seq ?_
 refine W.s0 X [3,7,8,9] rfl ⟨⟩ ?_
 refine W.block ?_
 refine W.aI (fun k=>k≤sv.length) (fun k:Nat=> [(9, .one (.a (.lit (.int .i64 k))))]) (fun k=> [(6, .arr .DB ((bI sv).take k))]) (fun k=>sv.length-k) 0 (fun k=>rfl) (Nat.zero_le _) rfl ?_
 intro k hk
 have hle:=aZ (bI sv) k
 refine W.s0 X [3,7,8,9,10] rfl ⟨⟩ ?_
 refine W.seq ?_
 refine W.cond rfl (fun hb0=> ?_) (fun hb0=> ?_)
 ·try simp only[nb,an,au,af]at hb0
  have hs:=EZ sv k hb0
  refine W.skip ?_
  refine W.seq ?_
  refine W.block ?_
  refine W.s0 X [3,5,7,8,9] rfl (by and_intros<;>first|exact⟨⟩| (intros;omega)) ?_
  refine W.fH X [(17,6)] [(15,⟨true,[.agg (aH (qR (sv.getD k (av .aU))))]⟩)] [3,7,8,9] [] rfl (by(repeat' with_reducible first|exact ah.nil|refine ah.mk ?_ ?_|apply And.intro)<;>first|exact(uw (sv.getD k (av .aU)))|exact rfl| (simp only[cN,maxLen,lens];omega)) ?_
  refine W.r0 X [3,7,8,9] rfl ⟨⟩ ?_
  refine⟨k+1,by omega,by omega,?_⟩
  rw[aV _ k rfl (by omega),hs]
  try rfl
 ·try simp only[nb,an,au,af]at hb0
  refine W.exit ?_
  refine W.s0 X [2] rfl ⟨⟩ ?_
  refine W.ret ?_
  exact Fin.ret rfl ⟨by rw[List.take_of_length_le (by unfold bI;rw[List.length_map];exact hb0)],⟨⟩⟩
theorem s8(key:Int)(r:cU):Sound ty Tryz.prog 263 [.a (.lit (.int .i64 key)), .agg (gN r)] [.a (.lit (.bool (Ku key r)))]:=by
 refine Sound.o X Tryz.call263 Tryz.func263 Tryz.ntmps263 rfl rfl ?_
 intro zb
 refine W.s0 X [0,3] rfl ⟨⟩ ?_
 refine W.sd X [] [(9,⟨false,[.a (.lit (.int .i64 (Ir key r.server r.client r.round r.iU)))]⟩)] [4] [] 7 MO (by kernel_rfl) rfl (by(repeat' with_reducible first|exact ah.nil|refine ah.mk ?_ ?_|apply And.intro)<;>first|exact(nR key r)) ?_
 refine W.ret ?_
 exact Fin.ret rfl ⟨(congrArg Value.bool (by simp only[Ku,aF]<;>first|rfl|ac_rfl)),⟨⟩⟩
theorem qX(r:cU)(d:DB)(hd:bL List.length d.rows≤1048576):Sound ty Tryz.prog 265 [.agg (gN r), .agg (aH d)] [.a (.lit (.bool (Gl r d)))]:=by
 refine Sound.o X Tryz.call265 Tryz.func265 Tryz.ntmps265 rfl rfl ?_
 intro zb
 refine W.s0 X [2,3] rfl ⟨⟩ ?_
 refine W.sd X [] [(12,⟨false,[.a (.lit (.int .i64 (qn r.client r.round d)))]⟩)] [4] [] 10 MO (by kernel_rfl) rfl (by(repeat' with_reducible first|exact ah.nil|refine ah.mk ?_ ?_|apply And.intro)<;>first|exact(m7 r.client r.round d hd)) ?_
 refine W.ret ?_
 exact Fin.ret rfl ⟨(congrArg Value.bool (by simp only[Gl,aF]<;>first|rfl|ac_rfl)),⟨⟩⟩
theorem vU(key:Int)(s:aU)(p:DB)(l:List cU)(hz:s.received.length≤1048576∧ ∀r,r∈s.received→bL List.length r.share.rows≤1048576)(hp:bL List.length p.rows≤1048576):Sound ty Tryz.prog 186 [.a (.lit (.int .i64 key)), .agg (bw s), .agg (aH p), .a (.sl .cU l)] [.a (.lit (.int .i64 (AK key s p l)))]:=by
 refine Sound.o X Tryz.call186 Tryz.func186 Tryz.ntmps186 rfl rfl ?_
 intro zb
 refine W.bound 3 rfl (fun jr=> ?_)
 refine W.s0 X [0,3,5,6] rfl ⟨⟩ ?_
 refine W.seq ?_
 refine W.s0 X [0,3,5,6,9] rfl ⟨⟩ ?_
 refine W.block ?_
 refine W.aI (fun k=>k≤l.length∧ ∀j,j<k→gY key s (l.getD j (av .cU))=0) (fun k:Nat=> [(9, .one (.a (.lit (.int .i64 k))))]) (fun k=> []) (fun k=>l.length-k) 0 (fun k=>rfl) ⟨Nat.zero_le _,fun j hj=>absurd hj (Nat.not_lt_zero _)⟩ rfl ?_
 rintro k ⟨hk,hall⟩
 refine W.seq ?_
 refine W.s0 X [0,3,5,6,9,16] rfl ⟨⟩ ?_
 refine W.cond rfl (fun hb0=> ?_) (fun hb0=> ?_)
 ·try simp only[nb,an,au,af]at hb0
  refine W.skip ?_
  refine W.seq ?_
  refine W.block ?_
  refine W.s0 X [0,3,5,6,9,10] rfl (by and_intros<;>first|exact⟨⟩| (intros;omega)) ?_
  refine W.seq ?_
  refine W.sr X [] [(38,⟨false,[.a (.lit (.bool (Ku key (l.getD k (av .cU)))))]⟩)] [0,3,5,6,9,10,40] [] rfl (by(repeat' with_reducible first|exact ah.nil|refine ah.mk ?_ ?_|apply And.intro)<;>first|exact fun _=>(s8 key (l.getD k (av .cU)))) ?_
  refine W.cond rfl (fun aD=> ?_) (fun aD=> ?_)
  ·have Q3:pq key s (l.getD k (av .cU))=true:=gS aD (by simp only[pq,aF]<;>first|rfl|ac_rfl)
   refine W.exit ?_
   refine W.r0 X [0,3,5,6,9] rfl ⟨⟩ ?_
   refine⟨k+1,⟨by omega,qp hall (Xk Q3)⟩,by omega,?_⟩
   rw[aV _ k rfl (by omega)]
   try rfl
  ·have Q3:pq key s (l.getD k (av .cU))=false:=kP aD (by simp only[pq,aF]<;>first|rfl|ac_rfl)
   refine W.skip ?_
   refine W.sr X [] [(45,⟨true,[.agg (aH (qK s.received ((l.getD k (av .cU)).client))), .a (.lit (.bool (jA s.received ((l.getD k (av .cU)).client))))]⟩)] [0,3,5,6,9,10,11,12] [] rfl (by(repeat' with_reducible first|exact ah.nil|refine ah.mk ?_ ?_|apply And.intro)<;>first|exact(Dl s ((l.getD k (av .cU)).client) hz)) ?_
   refine W.seq ?_
   refine W.s0 X [0,3,5,6,9,10,11,49] rfl ⟨⟩ ?_
   refine W.cond rfl (fun aR=> ?_) (fun aR=> ?_)
   ·have hsh:jA s.received (l.getD k (av .cU)).client=false:=by simpa using aR
    have hf:=Xh Q3 hsh
    refine W.s0 X [8] rfl ⟨⟩ ?_
    refine W.ret ?_
    exact Fin.ret rfl ⟨by rw[xM hall hb0 (by rw[hf];decide),hf],⟨⟩⟩
   ·have hsh:jA s.received (l.getD k (av .cU)).client=true:=by simpa using aR
    have Zc:=C2 (c:=(l.getD k (av .cU)).client) hz.2
    refine W.skip ?_
    refine W.sr X [] [(52,⟨false,[.a (.lit (.bool (Gl (l.getD k (av .cU)) (qK s.received (l.getD k (av .cU)).client))))]⟩)] [0,3,5,6,9,53] [] rfl (by(repeat' with_reducible first|exact ah.nil|refine ah.mk ?_ ?_|apply And.intro)<;>first|exact(qX (l.getD k (av .cU)) (qK s.received (l.getD k (av .cU)).client) Zc)) ?_
    refine W.cond rfl (fun dS=> ?_) (fun dS=> ?_)
    ·have hf:=Xi Q3 hsh (by simpa using dS)
     refine W.s0 X [8] rfl ⟨⟩ ?_
     refine W.ret ?_
     exact Fin.ret rfl ⟨by rw[xM hall hb0 (by rw[hf];decide),hf],⟨⟩⟩
    ·have hf:=Xj Q3 hsh (by simpa using dS)
     refine W.skip ?_
     refine W.r0 X [0,3,5,6,9] rfl ⟨⟩ ?_
     refine⟨k+1,⟨by omega,qp hall hf⟩,by omega,?_⟩
     rw[aV _ k rfl (by omega)]
     try rfl
 ·try simp only[nb,an,au,af]at hb0
  refine W.exit ?_
  refine W.seq ?_
  refine W.sd X [] [(55,⟨false,[.a (.lit (.bool (bW s)))]⟩),(60,⟨false,[.agg (aH (qQ s))]⟩),(61,⟨false,[.a (.lit (.bool (p.rows==(qQ s).rows)))]⟩)] [63] [] 10 MO (by kernel_rfl) rfl (by(repeat' with_reducible first|exact ah.nil|refine ah.mk ?_ ?_|apply And.intro);(iterate 3 all_goals try first|exact(cJ s)|exact fun _=>(vS s)|exact fun _=>(qV p (qQ s)))) ?_
  refine W.cond rfl (fun hY=> ?_) (fun hY=> ?_)
  ·have hq:(bW s&&(p.rows==(qQ s).rows))=false:=bD hY (by simp only[aF]<;>first|rfl|ac_rfl)
   refine W.s0 X [8] rfl ⟨⟩ ?_
   refine W.ret ?_
   exact Fin.ret rfl ⟨by rw[xN hall hb0,hq];rfl,⟨⟩⟩
  ·have hq:(bW s&&(p.rows==(qQ s).rows))=true:=bA hY (by simp only[aF]<;>first|rfl|ac_rfl)
   refine W.skip ?_
   refine W.s0 X [8] rfl ⟨⟩ ?_
   refine W.ret ?_
   exact Fin.ret rfl ⟨by rw[xN hall hb0,hq];rfl,⟨⟩⟩
theorem ya(m:Int)(sv:List aU)(pb:List DB)(rc:List cU)(hl:sv.length≤1048576)(hs: ∀s,s∈sv→m3 s)(hp: ∀d,d∈pb→bL List.length d.rows≤1048576):Sound ty Tryz.prog 107 [.a (.lit (.int .i64 m)), .a (.sl .aU sv), .a (.sl .DB pb), .a (.sl .cU rc)] [.a (.sl .int (dU m sv pb rc sv.length))]:=by
 refine Sound.o X Tryz.call107 Tryz.func107 Tryz.ntmps107 rfl rfl ?_
 intro zb
 refine W.bound 2 rfl (fun jr=> ?_)
 refine W.s0 X [0,1,2,3] rfl ⟨⟩ ?_
 refine W.s0 X [0,1,2,3,9] rfl (by and_intros<;>first|exact⟨⟩|exact rfl) ?_
 refine W.seq ?_
 refine W.s0 X [0,1,2,3,9,10] rfl ⟨⟩ ?_
 refine W.block ?_
 refine W.aI (fun k=>k≤sv.length) (fun k:Nat=> [(10, .one (.a (.lit (.int .i64 k))))]) (fun k=> [(11, .arr .int (dU m sv pb rc k))]) (fun k=>sv.length-k) 0 (fun k=>rfl) (Nat.zero_le _) rfl ?_
 intro k hk
 have hle:=nj m sv pb rc k
 refine W.seq ?_
 refine W.s0 X [0,1,2,3,9,10,15] rfl ⟨⟩ ?_
 refine W.cond rfl (fun hb0=> ?_) (fun hb0=> ?_)
 ·try simp only[nb,an,au,af]at hb0
  refine W.skip ?_
  refine W.seq ?_
  refine W.block ?_
  refine W.sd X [] [(29,⟨false,[.a (.lit (.int .i64 (fI m ((sv.getD k (av .aU)).id))))]⟩),(39,⟨false,[.a (.lit (.int .i64 (AK (fI m (sv.getD k (av .aU)).id) (sv.getD k (av .aU)) (pb.getD k (av .DB)) rc)))]⟩)] [0,1,2,3,9,10,41] [] 24 MO (by kernel_rfl) rfl (by(repeat' with_reducible first|exact ah.nil|refine ah.mk ?_ ?_|apply And.intro);(iterate 3 all_goals try first|exact fun _=>(gU m ((sv.getD k (av .aU)).id))|exact fun _=>(vU (fI m (sv.getD k (av .aU)).id) (sv.getD k (av .aU)) (pb.getD k (av .DB)) rc (hs _ (getD_in _ hb0)) (ID hp k))|exact(by refine fun VZ=> ?_;have NP:decide ((k:Int)≥(pb.length:Int))=false:=VZ;rw[decide_eq_false_iff_not]at NP;dsimp only[hyps,GW];omega))) ?_
  refine W.cond rfl (fun aD=> ?_) (fun aD=> ?_)
  ·have hbd:AL m sv pb rc k=true:=gS aD (by simp only[AL,aF]<;>first|rfl|ac_rfl)
   have Av:=Dd hbd
   refine W.fH X [(49,11)] [] [0,1,2,3,9,10] [] rfl (by and_intros<;>first|exact⟨⟩| (intros;omega)|exact rfl| (simp only[cN,maxLen,lens];omega)) ?_
   refine W.r0 X [0,1,2,3,9,10] rfl ⟨⟩ ?_
   refine⟨k+1,by omega,by omega,?_⟩
   rw[aV _ k rfl (by omega),Av]
   try rfl
  ·have hbd:AL m sv pb rc k=false:=kP aD (by simp only[AL,aF]<;>first|rfl|ac_rfl)
   have Av:=zI hbd
   refine W.skip ?_
   refine W.r0 X [0,1,2,3,9,10] rfl ⟨⟩ ?_
   refine⟨k+1,by omega,by omega,?_⟩
   rw[aV _ k rfl (by omega),Av]
   try rfl
 ·try simp only[nb,an,au,af]at hb0
  refine W.exit ?_
  refine W.s0 X [8] rfl ⟨⟩ ?_
  refine W.ret ?_
  exact Fin.ret rfl ⟨by rw[show k=sv.length by omega],⟨⟩⟩
theorem yc(sv:List aU)(hl:sv.length≤1048576):Sound ty Tryz.prog 102 [.a (.sl .aU sv)] [.a (.sl .DB (bI sv))]:=by
 refine Sound.o X Tryz.call102 Tryz.func102 Tryz.ntmps102 rfl rfl ?_
 intro zb
 refine W.s0 X [0] rfl ⟨⟩ ?_
 refine W.s0 X [0,3] rfl (by and_intros<;>first|exact⟨⟩|exact rfl) ?_
 refine W.seq ?_
 refine W.s0 X [0,3,4] rfl ⟨⟩ ?_
 refine W.block ?_
 refine W.aI (fun k=>k≤sv.length) (fun k:Nat=> [(4, .one (.a (.lit (.int .i64 k))))]) (fun k=> [(5, .arr .DB ((bI sv).take k))]) (fun k=>sv.length-k) 0 (fun k=>rfl) (Nat.zero_le _) rfl ?_
 intro k hk
 have hle:=aZ (bI sv) k
 refine W.seq ?_
 refine W.s0 X [0,3,4,9] rfl ⟨⟩ ?_
 refine W.cond rfl (fun hb0=> ?_) (fun hb0=> ?_)
 ·try simp only[nb,an,au,af]at hb0
  have hs:=EZ sv k hb0
  refine W.skip ?_
  refine W.seq ?_
  refine W.block ?_
  refine W.fH X [(19,5)] [(17,⟨true,[.agg (aH (qR (sv.getD k (av .aU))))]⟩)] [0,3,4] [] rfl (by(repeat' with_reducible first|exact ah.nil|refine ah.mk ?_ ?_|apply And.intro)<;>first|exact(ux (sv.getD k (av .aU)))| (intros;omega)|exact rfl| (simp only[cN,maxLen,lens];omega)) ?_
  refine W.r0 X [0,3,4] rfl ⟨⟩ ?_
  refine⟨k+1,by omega,by omega,?_⟩
  rw[aV _ k rfl (by omega),hs]
  try rfl
 ·try simp only[nb,an,au,af]at hb0
  refine W.exit ?_
  refine W.s0 X [2] rfl ⟨⟩ ?_
  refine W.ret ?_
  exact Fin.ret rfl ⟨by rw[List.take_of_length_le (by unfold bI;rw[List.length_map];exact hb0)],⟨⟩⟩
end
section
set_option maxRecDepth 100000
theorem uy(key:Int)(a:bJ)(h1:a.selection.length≤262144)(h2:a.data.length≤262144):Sound ty Tryz.prog 220 [.a (.lit (.int .i64 key)), .agg (dg a)] [.a (.lit (.bool (QT key a)))]:=by
 refine Sound.o X Tryz.call220 Tryz.func220 Tryz.ntmps220 rfl rfl ?_
 intro zb
 refine W.s0 X [0,3] rfl ⟨⟩ ?_
 refine W.sd X [] [(9,⟨false,[.a (.lit (.int .i64 (zB key a.server a.round a.selection a.data)))]⟩)] [4] [] 7 MO (by kernel_rfl) rfl (by(repeat' with_reducible first|exact ah.nil|refine ah.mk ?_ ?_|apply And.intro)<;>first|exact(pe key a h1 h2)) ?_
 refine W.ret ?_
 exact Fin.ret rfl ⟨rfl,⟨⟩⟩
theorem s9(key:Int)(d:DB)(a:bJ)(h1:a.selection.length≤262144)(h2:a.data.length≤262144):Sound ty Tryz.prog 135 [.a (.lit (.int .i64 key)), .agg (aH d), .agg (dg a)] [.a (.lit (.bool (Vv key d a)))]:=by
 refine Sound.o X Tryz.call135 Tryz.func135 Tryz.ntmps135 rfl rfl ?_
 intro zb
 refine W.s0 X [0,4,5] rfl ⟨⟩ ?_
 refine W.sd X [] [(9,⟨false,[.a (.lit (.bool (QT key a)))]⟩),(16,⟨false,[.a (.sl .u8 (eG d a.selection))]⟩),(17,⟨false,[.a (.lit (.bool (a.data==(eG d a.selection))))]⟩)] [6] [] 14 MO (by kernel_rfl) rfl (by(repeat' with_reducible first|exact ah.nil|refine ah.mk ?_ ?_|apply And.intro);(iterate 3 all_goals try first|exact(uy key a h1 h2)|exact fun _=>(ng d a.selection)|exact fun _=>(jQ a.data (eG d a.selection)))) ?_
 refine W.ret ?_
 exact Fin.ret rfl ⟨(congrArg Value.bool (by simp only[Vv,aF]<;>first|rfl|ac_rfl)),⟨⟩⟩
theorem yg(l:List DB)(jr:l.length≤1048576)(ha:sV l):Sound ty Tryz.prog 126 [.a (.sl .DB l)] [.agg (aH (jw l)), .a (.lit (.bool (AM l)))]:=by
 refine Sound.o X Tryz.call126 Tryz.func126 Tryz.ntmps126 rfl rfl ?_
 intro zb
 refine W.s0 X [0,2] rfl ⟨⟩ ?_
 refine W.seq ?_
 refine W.sr X [] [(11,⟨false,[.a (.lit (.bool (cE (l.length:Int))))]⟩)] [0,2,12] [] rfl (by(repeat' with_reducible first|exact ah.nil|refine ah.mk ?_ ?_|apply And.intro)<;>first|exact(dI (l.length:Int))) ?_
 refine W.cond rfl (fun hb0=> ?_) (fun hb0=> ?_)
 ·have hk:cE l.length=false:=by simpa using hb0
  have hj:=Df (L3 hk)
  refine W.s0 X [2,3] rfl (by and_intros<;>exact⟨⟩) ?_
  refine W.ret ?_
  exact Fin.ret rfl ⟨by rw[hj.1],by rw[hj.2],⟨⟩⟩
 ·have hk:cE l.length=true:=by simpa using hb0
  have hcb:=Dg hk
  have Ta:=L4 hk
  have Zf:=dj (kS ha 0)
  have wE:(l.drop 1).length=l.length-1:=List.length_drop ..
  refine W.skip ?_
  refine W.sr X [] [(17,⟨true,[.agg (aH (l.getD (Int.toNat 0) (av .DB)))]⟩)] [0,2,4] [] rfl (by(repeat' with_reducible first|exact ah.nil|refine ah.mk ?_ ?_|apply And.intro)<;>first|exact(bZ (l.getD (Int.toNat 0) (av .DB)) Zf)| (intros;omega)) ?_
  refine W.seq ?_
  refine W.s0 X [2,4,19,20,21] rfl (by and_intros<;>first|exact⟨⟩| (intros;omega)) ?_
  rw[Xy]
  refine W.block ?_
  refine W.aI (fun k=>k≤(l.drop 1).length∧NR l=L1 (xO l k) ((l.drop 1).drop k)) (fun k:Nat=> [(21, .one (.a (.lit (.int .i64 k))))]) (fun k=> [(17, .arr (.sl .u8) (xO l k).rows)]) (fun k=>(l.drop 1).length-k) 0 (fun k=>rfl) ⟨Nat.zero_le _,Ta⟩ rfl ?_
  rintro k ⟨gO,DN⟩
  refine W.s0 X [2,4,19,20,21,22] rfl ⟨⟩ ?_
  refine W.seq ?_
  refine W.cond rfl (fun aD=> ?_) (fun aD=> ?_)
  ·try simp only[nb,an,au,af]at aD
   have Zg:=dj (QN ha k)
   have NP:=dj (kS (Kv ha) k)
   refine W.skip ?_
   refine W.seq ?_
   refine W.block ?_
   refine W.s0 X [2,4,6,19,20,21] rfl (by and_intros<;>first|exact⟨⟩| (intros;omega)) ?_
   refine W.sr X [] [(28,⟨true,[.agg (aH (fC (xO l k) ((l.drop 1).getD k (av .DB)))), .a (.lit (.bool (gw (xO l k) ((l.drop 1).getD k (av .DB)))))]⟩)] [2,4,7,8,19,20,21] [] rfl (by(repeat' with_reducible first|exact ah.nil|refine ah.mk ?_ ?_|apply And.intro)<;>first|exact(iq (xO l k) ((l.drop 1).getD k (av .DB)) Zg NP)) ?_
   refine W.seq ?_
   refine W.s0 X [2,4,7,19,20,21,32] rfl ⟨⟩ ?_
   refine W.cond rfl (fun aR=> ?_) (fun aR=> ?_)
   ·have hx:gw (xO l k) ((l.drop 1).getD k (av .DB))=false:=by simpa using aR
    have hj:=Df (DN.trans (QM l k aD hx))
    refine W.s0 X [2,3] rfl (by and_intros<;>exact⟨⟩) ?_
    refine W.ret ?_
    exact Fin.ret rfl ⟨by rw[hj.1],by rw[hj.2],⟨⟩⟩
   ·have hx:gw (xO l k) ((l.drop 1).getD k (av .DB))=true:=by simpa using aR
    have hs:=xP l k aD
    refine W.skip ?_
    refine W.r0 X [2,4,19,20,21] rfl (by and_intros<;>exact⟨⟩) ?_
    refine W.kY 4 0 17 rfl ?_
    refine W.r0 X [2,4,19,20,21] rfl ⟨⟩ ?_
    refine⟨k+1,⟨by omega,DN.trans (IF l k aD hx)⟩,by omega,?_⟩
    rw[aV _ k rfl (by omega),hs]
    try rfl
  ·try simp only[nb,an,au,af]at aD
   have hj:=Gm (DN.trans (L2 l k aD))
   refine W.exit ?_
   refine W.s0 X [2,3] rfl (by and_intros<;>exact⟨⟩) ?_
   refine W.ret ?_
   exact Fin.ret rfl ⟨by rw[hj.1],by rw[hj.2],⟨⟩⟩
theorem td(l:List DB)(jr:l.length≤1048576)(ha:sV l):Sound ty Tryz.prog 52 [.a (.sl .DB l)] [.agg (aH (jw l)), .a (.lit (.bool (AM l)))]:=by
 refine Sound.o X Tryz.call52 Tryz.func52 Tryz.ntmps52 rfl rfl ?_
 intro zb
 refine W.s0 X [0,2] rfl ⟨⟩ ?_
 refine W.sr X [] [(5,⟨true,[.agg (aH (jw l)), .a (.lit (.bool (AM l)))]⟩)] [2,3] [] rfl (by(repeat' with_reducible first|exact ah.nil|refine ah.mk ?_ ?_|apply And.intro)<;>first|exact(yg l jr ha)) ?_
 refine W.ret ?_
 exact Fin.ret rfl ⟨rfl,rfl,⟨⟩⟩
theorem zO(id rows b:Int):Sound ty Tryz.prog 223 [.a (.lit (.int .i64 id)), .a (.lit (.int .i64 rows)), .a (.lit (.int .i64 b))] [.agg (bw (newS id rows b))]:=by
 refine Sound.o X Tryz.call223 Tryz.func223 Tryz.ntmps223 rfl rfl ?_
 intro zb
 refine W.s0 X [0,1,2,6] rfl ⟨⟩ ?_
 refine W.seq ?_
 refine W.sr X [] [(8,⟨false,[.a (.lit (.bool (inr id 0 3)))]⟩),(12,⟨false,[.a (.lit (.bool (inr rows 1 64)))]⟩),(17,⟨false,[.a (.lit (.bool (inr b 0 3)))]⟩)] [0,1,2,6,19] [] rfl (by(repeat' with_reducible first|exact ah.nil|refine ah.mk ?_ ?_|apply And.intro);(iterate 3 all_goals try first|exact(aE id 0 3)|exact fun _=>(aE rows 1 64)|exact fun _=>(aE b 0 3))) ?_
 refine W.cond rfl (fun hb0=> ?_) (fun hb0=> ?_)
 ·have hk:Dh id rows b=false:=bD hb0 (by simp only[Dh,aF]<;>first|rfl|ac_rfl)
  have hn:newS id rows b=⟨0,0,0,[],0⟩:=by rw[newS,hk];rfl
  refine W.s0 X [6] rfl (by and_intros<;>exact⟨⟩) ?_
  refine W.ret ?_
  exact Fin.ret rfl (by and_intros<;>first|exact⟨⟩| (rw[hn];done))
 ·have hk:Dh id rows b=true:=bA hb0 (by simp only[Dh,aF]<;>first|rfl|ac_rfl)
  have hn:newS id rows b=⟨id,rows,0,[],b⟩:=by rw[newS,if_pos hk]
  refine W.skip ?_
  refine W.s0 X [6] rfl (by and_intros<;>exact⟨⟩) ?_
  refine W.ret ?_
  exact Fin.ret rfl (by and_intros<;>first|exact⟨⟩| (rw[hn];done))
theorem nW(s:aU)(hz:s.received.length≤1048576∧ ∀r,r∈s.received→bL List.length r.share.rows≤1048576):Sound ty Tryz.prog 138 [.agg (bw s)] [.agg (bw (lO s))]:=by
 refine Sound.o X Tryz.call138 Tryz.func138 Tryz.ntmps138 rfl rfl ?_
 intro zb
 refine W.s0 X [1,2] rfl ⟨⟩ ?_
 refine W.sr X [] [(5,⟨true,[.agg (bw s)]⟩)] [1,2,3] [] rfl (by(repeat' with_reducible first|exact ah.nil|refine ah.mk ?_ ?_|apply And.intro)<;>first|exact(gq s hz)) ?_
 refine W.seq ?_
 refine W.sr X [] [(7,⟨false,[.a (.lit (.bool (bW s)))]⟩)] [2,3,12] [] rfl (by(repeat' with_reducible first|exact ah.nil|refine ah.mk ?_ ?_|apply And.intro)<;>first|exact(cI s)) ?_
 refine W.cond rfl (fun hb0=> ?_) (fun hb0=> ?_)
 ·have hk:Gp s=true:=gS hb0 (by simp only[Gp,aF]<;>first|rfl|ac_rfl)
  have hn:lO s=⟨s.id,s.rows,IntKind.i64.wrap (s.round+1),[],s.behavior⟩:=by rw[lO,if_pos hk]
  refine W.s0 X [2,3] rfl ⟨⟩ ?_
  refine W.r0 X [2,3] rfl ⟨⟩ ?_
  refine W.s0 X [2] rfl (by and_intros<;>exact⟨⟩) ?_
  refine W.ret ?_
  exact Fin.ret rfl (by and_intros<;>first|exact⟨⟩| (rw[hn];done))
 ·have hk:Gp s=false:=kP hb0 (by simp only[Gp,aF]<;>first|rfl|ac_rfl)
  have hn:lO s=s:=by rw[lO,hk];rfl
  refine W.skip ?_
  refine W.s0 X [2] rfl (by and_intros<;>exact⟨⟩) ?_
  refine W.ret ?_
  exact Fin.ret rfl (by and_intros<;>first|exact⟨⟩| (rw[hn];done))
theorem uz(key:Int)(a:bJ)(h1:a.selection.length≤262144)(h2:a.data.length≤262144):Sound ty Tryz.prog 259 [.a (.lit (.int .i64 key)), .agg (dg a)] [.a (.lit (.bool (QT key a)))]:=by
 refine Sound.o X Tryz.call259 Tryz.func259 Tryz.ntmps259 rfl rfl ?_
 intro zb
 refine W.s0 X [0,3] rfl ⟨⟩ ?_
 refine W.sd X [] [(9,⟨false,[.a (.lit (.int .i64 (zB key a.server a.round a.selection a.data)))]⟩)] [4] [] 7 MO (by kernel_rfl) rfl (by(repeat' with_reducible first|exact ah.nil|refine ah.mk ?_ ?_|apply And.intro)<;>first|exact(kR key a h1 h2)) ?_
 refine W.ret ?_
 exact Fin.ret rfl ⟨rfl,⟨⟩⟩
theorem th(key:Int)(d:DB)(a:bJ)(h1:a.selection.length≤262144)(h2:a.data.length≤262144):Sound ty Tryz.prog 182 [.a (.lit (.int .i64 key)), .agg (aH d), .agg (dg a)] [.a (.lit (.bool (Vv key d a)))]:=by
 refine Sound.o X Tryz.call182 Tryz.func182 Tryz.ntmps182 rfl rfl ?_
 intro zb
 refine W.s0 X [0,4,5] rfl ⟨⟩ ?_
 refine W.sd X [] [(9,⟨false,[.a (.lit (.bool (QT key a)))]⟩),(16,⟨false,[.a (.sl .u8 (eG d a.selection))]⟩),(17,⟨false,[.a (.lit (.bool (a.data==(eG d a.selection))))]⟩)] [6] [] 14 MO (by kernel_rfl) rfl (by(repeat' with_reducible first|exact ah.nil|refine ah.mk ?_ ?_|apply And.intro);(iterate 3 all_goals try first|exact(uz key a h1 h2)|exact fun _=>(nh d a.selection)|exact fun _=>(jO a.data (eG d a.selection)))) ?_
 refine W.ret ?_
 exact Fin.ret rfl ⟨(congrArg Value.bool (by simp only[Vv,aF]<;>first|rfl|ac_rfl)),⟨⟩⟩
theorem yh(l:List DB)(jr:l.length≤1048576)(ha:sV l):Sound ty Tryz.prog 173 [.a (.sl .DB l)] [.agg (aH (jw l)), .a (.lit (.bool (AM l)))]:=by
 refine Sound.o X Tryz.call173 Tryz.func173 Tryz.ntmps173 rfl rfl ?_
 intro zb
 refine W.s0 X [0,2] rfl ⟨⟩ ?_
 refine W.seq ?_
 refine W.sr X [] [(10,⟨false,[.a (.lit (.bool (cE (l.length:Int))))]⟩),(16,⟨false,[.a (.lit (.bool (cG (l.getD (Int.toNat 0) (av .DB)))))]⟩)] [0,2,18] [] rfl ⟨fun _=>cx _,fun h=>Ze h,gI _,⟨⟩⟩ ?_
 refine W.cond rfl (fun hb0=> ?_) (fun hb0=> ?_)
 ·have hk:cE l.length=false:=Zd ha hb0
  have hj:=Df (L3 hk)
  refine W.s0 X [2,3] rfl (by and_intros<;>exact⟨⟩) ?_
  refine W.ret ?_
  exact Fin.ret rfl ⟨by rw[hj.1],by rw[hj.2],⟨⟩⟩
 ·have hk:cE l.length=true:=Xz hb0
  have hcb:=Dg hk
  have Ta:=L4 hk
  have Zf:=dj (kS ha 0)
  have wE:(l.drop 1).length=l.length-1:=List.length_drop ..
  refine W.skip ?_
  refine W.sr X [] [(23,⟨true,[.agg (aH (l.getD (Int.toNat 0) (av .DB)))]⟩)] [0,2,4] [] rfl (by(repeat' with_reducible first|exact ah.nil|refine ah.mk ?_ ?_|apply And.intro)<;>first|exact(dD (l.getD (Int.toNat 0) (av .DB)) Zf)| (intros;omega)) ?_
  refine W.seq ?_
  refine W.s0 X [0,2,4,5] rfl ⟨⟩ ?_
  refine W.block ?_
  refine W.aI (fun k=>(1≤k∧k≤l.length)∧NR l=L1 (xO l (k-1)) ((l.drop 1).drop (k-1))) (fun k:Nat=> [(5, .one (.a (.lit (.int .i64 k))))]) (fun k=> [(23, .arr (.sl .u8) (xO l (k-1)).rows)]) (fun k=>l.length-k) 1 (fun k=>rfl) ⟨by omega,Ta⟩ rfl ?_
  rintro k ⟨gO,DN⟩
  refine W.seq ?_
  refine W.s0 X [0,2,4,5,27] rfl ⟨⟩ ?_
  refine W.cond rfl (fun aD=> ?_) (fun aD=> ?_)
  ·try simp only[nb,an,au,af]at aD
   have Zg:=dj (QN ha (k-1))
   have NP:=dj (kS ha k)
   have hge:(l.drop 1).getD (k-1) (av .DB)=(l.getD k (av .DB)):=by rw[IV,show k-1+1=k by omega]
   have NB:k-1<(l.drop 1).length:=by omega
   refine W.skip ?_
   refine W.seq ?_
   refine W.block ?_
   refine W.seq ?_
   refine W.fD X [] [(36,⟨true,[.agg (aH (fC (xO l (k-1)) (l.getD k (av .DB)))), .a (.lit (.bool (gw (xO l (k-1)) (l.getD k (av .DB)))))]⟩)] [0,2,4,5,6,7] [] 3071 (.ph 1023 (.br 1023 10 (.last 2048) (.br 767 10 (.last 2304) (.nil)))) 1 MO (by kernel_rfl) rfl (by kernel_rfl) (by(repeat' with_reducible first|exact ah.nil|refine ah.mk ?_ ?_|apply And.intro)<;>first|exact(ir (xO l (k-1)) (l.getD k (av .DB)) Zg NP)| (intros;omega)) ?_
   refine W.seq ?_
   refine W.s0 X [0,2,4,5,6,40] rfl ⟨⟩ ?_
   refine W.cond rfl (fun aR=> ?_) (fun aR=> ?_)
   ·have hx:gw (xO l (k-1)) (l.getD k (av .DB))=false:=by simpa using aR
    have hj:=Df (DN.trans (QM l (k-1) NB (by rw[hge];exact hx)))
    refine W.s0 X [2,3] rfl (by and_intros<;>exact⟨⟩) ?_
    refine W.ret ?_
    exact Fin.ret rfl ⟨by rw[hj.1],by rw[hj.2],⟨⟩⟩
   ·have hx:gw (xO l (k-1)) (l.getD k (av .DB))=true:=by simpa using aR
    have hs:=xP l (k-1) NB
    rw[hge]at hs
    refine W.skip ?_
    refine W.r0 X [0,2,4,5] rfl (by and_intros<;>exact⟨⟩) ?_
    refine W.kY 4 0 23 rfl ?_
    refine W.r0 X [0,2,4,5] rfl ⟨⟩ ?_
    refine⟨k+1,⟨by omega,by rw[DN,IF l (k-1) NB (by rw[hge];exact hx),show k+1-1=k-1+1 by omega]⟩,by omega,?_⟩
    rw[aV _ k rfl (by omega),show k+1-1=k-1+1 by omega,hs]
    try rfl
  ·try simp only[nb,an,au,af]at aD
   have hj:=Gm (DN.trans (L2 l (k-1) (by omega)))
   refine W.exit ?_
   refine W.s0 X [2,3] rfl (by and_intros<;>exact⟨⟩) ?_
   refine W.ret ?_
   exact Fin.ret rfl ⟨by rw[hj.1],by rw[hj.2],⟨⟩⟩
theorem tj(l:List DB)(jr:l.length≤1048576)(ha:sV l):Sound ty Tryz.prog 103 [.a (.sl .DB l)] [.agg (aH (jw l)), .a (.lit (.bool (AM l)))]:=by
 refine Sound.o X Tryz.call103 Tryz.func103 Tryz.ntmps103 rfl rfl ?_
 intro zb
 refine W.s0 X [0,2] rfl ⟨⟩ ?_
 refine W.sr X [] [(5,⟨true,[.agg (aH (jw l)), .a (.lit (.bool (AM l)))]⟩)] [2,3] [] rfl (by(repeat' with_reducible first|exact ah.nil|refine ah.mk ?_ ?_|apply And.intro)<;>first|exact(yh l jr ha)) ?_
 refine W.ret ?_
 exact Fin.ret rfl ⟨rfl,rfl,⟨⟩⟩
theorem zP(id rows b:Int):Sound ty Tryz.prog 262 [.a (.lit (.int .i64 id)), .a (.lit (.int .i64 rows)), .a (.lit (.int .i64 b))] [.agg (bw (newS id rows b))]:=by
 refine Sound.o X Tryz.call262 Tryz.func262 Tryz.ntmps262 rfl rfl ?_
 intro zb
 refine W.s0 X [0,1,2,6] rfl ⟨⟩ ?_
 refine W.seq ?_
 refine W.sr X [] [(8,⟨false,[.a (.lit (.bool (inr id 0 3)))]⟩),(12,⟨false,[.a (.lit (.bool (inr rows 1 64)))]⟩),(17,⟨false,[.a (.lit (.bool (inr b 0 3)))]⟩)] [0,1,2,6,19] [] rfl (by(repeat' with_reducible first|exact ah.nil|refine ah.mk ?_ ?_|apply And.intro);(iterate 3 all_goals try first|exact(aP id 0 3)|exact fun _=>(aP rows 1 64)|exact fun _=>(aP b 0 3))) ?_
 refine W.cond rfl (fun hb0=> ?_) (fun hb0=> ?_)
 ·have hk:Dh id rows b=false:=bD hb0 (by simp only[Dh,aF]<;>first|rfl|ac_rfl)
  have hn:newS id rows b=⟨0,0,0,[],0⟩:=by rw[newS,hk];rfl
  refine W.s0 X [6] rfl (by and_intros<;>exact⟨⟩) ?_
  refine W.ret ?_
  exact Fin.ret rfl (by and_intros<;>first|exact⟨⟩| (rw[hn];done))
 ·have hk:Dh id rows b=true:=bA hb0 (by simp only[Dh,aF]<;>first|rfl|ac_rfl)
  have hn:newS id rows b=⟨id,rows,0,[],b⟩:=by rw[newS,if_pos hk]
  refine W.skip ?_
  refine W.s0 X [6] rfl (by and_intros<;>exact⟨⟩) ?_
  refine W.ret ?_
  exact Fin.ret rfl (by and_intros<;>first|exact⟨⟩| (rw[hn];done))
theorem nX(s:aU)(hz:s.received.length≤1048576∧ ∀r,r∈s.received→bL List.length r.share.rows≤1048576):Sound ty Tryz.prog 185 [.agg (bw s)] [.agg (bw (lO s))]:=by
 refine Sound.o X Tryz.call185 Tryz.func185 Tryz.ntmps185 rfl rfl ?_
 intro zb
 refine W.s0 X [1,2] rfl ⟨⟩ ?_
 refine W.seq ?_
 refine W.sr X [] [(4,⟨false,[.a (.lit (.bool (bW s)))]⟩)] [1,2,10] [] rfl (by(repeat' with_reducible first|exact ah.nil|refine ah.mk ?_ ?_|apply And.intro)<;>first|exact(cJ s)) ?_
 refine W.cond rfl (fun hb0=> ?_) (fun hb0=> ?_)
 ·have hk:Gp s=false:=bD hb0 (by simp only[Gp,aF]<;>first|rfl|ac_rfl)
  have hn:lO s=s:=by rw[lO,hk];rfl
  refine W.sr X [] [(12,⟨true,[.agg (bw s)]⟩)] [2] [] rfl (by(repeat' with_reducible first|exact ah.nil|refine ah.mk ?_ ?_|apply And.intro)<;>first|exact(jZ s hz)) ?_
  refine W.ret ?_
  exact Fin.ret rfl (by and_intros<;>first|exact⟨⟩| (rw[hn];done))
 ·have hk:Gp s=true:=bA hb0 (by simp only[Gp,aF]<;>first|rfl|ac_rfl)
  have hn:lO s=⟨s.id,s.rows,IntKind.i64.wrap (s.round+1),[],s.behavior⟩:=by rw[lO,if_pos hk]
  refine W.skip ?_
  refine W.s0 X [2] rfl (by and_intros<;>exact⟨⟩) ?_
  refine W.ret ?_
  exact Fin.ret rfl (by and_intros<;>first|exact⟨⟩| (rw[hn];done))
end
section
set_option maxRecDepth 100000
theorem AS(a:iS)(r:Int)(d:DB)(h0:b7 a≤1048576)(VB:bL List.length d.rows≤1048576):Sound ty Tryz.prog 137 [.agg (cj a), .a (.lit (.int .i64 r)), .agg (aH d)] [.agg [.lit (.int .i64 a.rows), .vw 0 none .aA (Nx a r d)], .a (.lit (.bool (sW a r d)))]:=by
 refine Sound.o X Tryz.call137 Tryz.func137 Tryz.ntmps137 rfl rfl ?_
 intro zb
 refine W.s0 X [1,3,5,6] rfl ⟨⟩ ?_
 refine W.sr X [] [(10,⟨true,[.agg (cj a)]⟩)] [1,3,5,6,8] [] rfl (by(repeat' with_reducible first|exact ah.nil|refine ah.mk ?_ ?_|apply And.intro)<;>first|exact(nk a h0)) ?_
 refine W.seq ?_
 refine W.sr X [] [(12,⟨false,[.a (.lit (.bool (gG a)))]⟩),(16,⟨false,[.a (.lit (.bool (inr r 0 100000)))]⟩),(22,⟨false,[.a (.lit (.int .i64 (cS a)))]⟩),(27,⟨false,[.a (.lit (.bool (cG d)))]⟩)] [1,5,6,8,37] [] rfl (by(repeat' with_reducible first|exact ah.nil|refine ah.mk ?_ ?_|apply And.intro);(iterate 4 all_goals try first|exact(ko a)|exact fun _=>(aE r 0 100000)|exact fun _=>(kN a)|exact fun _=>(cL d))) ?_
 refine W.cond rfl (fun hb0=> ?_) (fun hb0=> ?_)
 ·have hk:sW a r d=false:=bD hb0 (by simp only[sW,aF]<;>first|rfl|ac_rfl)
  have hn:=Q5 hk
  refine W.s0 X [6,7] rfl (by and_intros<;>exact⟨⟩) ?_
  refine W.ret ?_
  exact Fin.ret rfl ⟨rfl,by rw[hn],by rw[hk],⟨⟩⟩
 ·have hk:sW a r d=true:=bA hb0 (by simp only[sW,aF]<;>first|rfl|ac_rfl)
  have hn:=Mk hk
  have hkb:=Q6 hk
  have hal:(Gn a r d).length=a.rounds.length+1:=by unfold Gn;rw[List.length_append];rfl
  refine W.skip ?_
  refine W.sd X [] [(43,⟨true,[.agg (aH d)]⟩),(500045,⟨true,[]⟩)] [6,8] [] 7 MO (by kernel_rfl) rfl (by(repeat' with_reducible first|exact ah.nil|refine ah.mk ?_ ?_|apply And.intro)<;>first|exact(bZ d VB)|exact rfl|exact⟨rfl,bH _ (by decide)⟩| (simp only[cN,maxLen,lens];omega)) ?_
  rw[show a.rounds++ [(⟨r,d⟩:aA)]=(Gn a r d)from rfl]
  refine W.seq ?_
  refine W.s0 X [6,8,51] rfl ⟨⟩ ?_
  refine W.cond rfl (fun aD=> ?_) (fun aD=> ?_)
  ·try simp only[nb,an,au,af]at aD
   have h8:(8:Int)<((Gn a r d).length:Int):=aD
   rw[if_pos h8]at hn
   refine W.r0 X [6,8] rfl (by and_intros<;>first|exact⟨⟩| (intros;omega)) ?_
   refine W.s0 X [6,7] rfl (by and_intros<;>exact⟨⟩) ?_
   refine W.ret ?_
   exact Fin.ret rfl ⟨rfl,by rw[hn];simp,by rw[hk],⟨⟩⟩
  ·try simp only[nb,an,au,af]at aD
   have h8: ¬(8:Int)<((Gn a r d).length:Int):=by omega
   rw[if_neg h8]at hn
   refine W.skip ?_
   refine W.s0 X [6,7] rfl (by and_intros<;>exact⟨⟩) ?_
   refine W.ret ?_
   exact Fin.ret rfl ⟨rfl,by rw[hn],by rw[hk],⟨⟩⟩
theorem AT(a:iS)(r:Int)(d:DB)(h0:b7 a≤1048576)(VB:bL List.length d.rows≤1048576):Sound ty Tryz.prog 184 [.agg (cj a), .a (.lit (.int .i64 r)), .agg (aH d)] [.agg [.lit (.int .i64 a.rows), .vw 0 none .aA (Nx a r d)], .a (.lit (.bool (sW a r d)))]:=by
 refine Sound.o X Tryz.call184 Tryz.func184 Tryz.ntmps184 rfl rfl ?_
 intro zb
 refine W.s0 X [1,3,5,6] rfl ⟨⟩ ?_
 refine W.sr X [] [(10,⟨true,[.agg (cj a)]⟩)] [1,3,5,6,8] [] rfl (by(repeat' with_reducible first|exact ah.nil|refine ah.mk ?_ ?_|apply And.intro)<;>first|exact(sM a h0)) ?_
 refine W.seq ?_
 refine W.sr X [] [(12,⟨false,[.a (.lit (.bool (gG a)))]⟩),(16,⟨false,[.a (.lit (.bool (inr r 0 100000)))]⟩),(22,⟨false,[.a (.lit (.int .i64 (cS a)))]⟩),(27,⟨false,[.a (.lit (.bool (cG d)))]⟩)] [1,5,6,8,37] [] rfl (by(repeat' with_reducible first|exact ah.nil|refine ah.mk ?_ ?_|apply And.intro);(iterate 4 all_goals try first|exact(kq a)|exact fun _=>(aP r 0 100000)|exact fun _=>(kO a)|exact fun _=>(cx d))) ?_
 refine W.cond rfl (fun hb0=> ?_) (fun hb0=> ?_)
 ·have hk:sW a r d=false:=bD hb0 (by simp only[sW,aF]<;>first|rfl|ac_rfl)
  have hn:=Q5 hk
  refine W.s0 X [6,7] rfl (by and_intros<;>exact⟨⟩) ?_
  refine W.ret ?_
  exact Fin.ret rfl ⟨rfl,by rw[hn],by rw[hk],⟨⟩⟩
 ·have hk:sW a r d=true:=bA hb0 (by simp only[sW,aF]<;>first|rfl|ac_rfl)
  have hn:=Mk hk
  have hkb:=Q6 hk
  have hal:(Gn a r d).length=a.rounds.length+1:=by unfold Gn;rw[List.length_append];rfl
  refine W.skip ?_
  refine W.sd X [] [(43,⟨true,[.agg (aH d)]⟩),(500045,⟨true,[]⟩)] [6,8] [] 7 MO (by kernel_rfl) rfl (by(repeat' with_reducible first|exact ah.nil|refine ah.mk ?_ ?_|apply And.intro)<;>first|exact(dD d VB)|exact rfl|exact⟨rfl,bH _ (by decide)⟩| (simp only[cN,maxLen,lens];omega)) ?_
  rw[show a.rounds++ [(⟨r,d⟩:aA)]=(Gn a r d)from rfl]
  refine W.seq ?_
  refine W.s0 X [6,8,51] rfl ⟨⟩ ?_
  refine W.cond rfl (fun aD=> ?_) (fun aD=> ?_)
  ·try simp only[nb,an,au,af]at aD
   have h8:(8:Int)<((Gn a r d).length:Int):=aD
   rw[if_pos h8]at hn
   refine W.r0 X [6,8] rfl (by and_intros<;>first|exact⟨⟩| (intros;omega)) ?_
   refine W.s0 X [6,7] rfl (by and_intros<;>exact⟨⟩) ?_
   refine W.ret ?_
   exact Fin.ret rfl ⟨rfl,by rw[hn];simp,by rw[hk],⟨⟩⟩
  ·try simp only[nb,an,au,af]at aD
   have h8: ¬(8:Int)<((Gn a r d).length:Int):=by omega
   rw[if_neg h8]at hn
   refine W.skip ?_
   refine W.s0 X [6,7] rfl (by and_intros<;>exact⟨⟩) ?_
   refine W.ret ?_
   exact Fin.ret rfl ⟨rfl,by rw[hn],by rw[hk],⟨⟩⟩
theorem lP(x:aN)(rd id:Int)(hl:x.aj.length≤4)(hw:1≤x.rows∧x.rows≤64)(hU:Dj rd x.aj)(hr:x.replaced.length≤4194400):gZ ty Tryz.prog 136 [(1000, .box [.lit (.int .i64 x.rows), .own 11, .own 12, .lit (.int .i64 x.ak.rows), .own 13, .lit (.int .i64 x.az), .lit (.int .i64 x.seed), .lit (.int .i64 x.round), .own 14, .lit (.int .i64 x.cancelled)]),(11, .arr .aU x.aj),(12, .arr .aL x.aa),(13, .arr .aA x.ak.rounds),(14, .arr .int x.replaced)] [.a (.ptr 1000 0), .a (.lit (.int .i64 id))] [(1000, .box [.lit (.int .i64 x.rows), .own 11, .own 12, .lit (.int .i64 x.ak.rows), .own 13, .lit (.int .i64 x.az), .lit (.int .i64 x.seed), .lit (.int .i64 x.round), .own 14, .lit (.int .i64 x.cancelled)]),(11, .arr .aU (uT x.rows rd (x.aj,x.replaced) id).1),(12, .arr .aL x.aa),(13, .arr .aA x.ak.rounds),(14, .arr .int (uT x.rows rd (x.aj,x.replaced) id).2)] []:=by
 refine gZ.of X Tryz.call136 Tryz.func136 rfl rfl (by decide) Tryz.ntmps136 (by simp) rfl ?_
 intro zb
 refine W.sr X [] [(12,⟨false,[.a (.lit (.bool (inr id 0 (IntKind.i64.wrap ((x.aj.length:Int)-1)))))]⟩)] [0,1,12] [] rfl (by(repeat' with_reducible first|exact ah.nil|refine ah.mk ?_ ?_|apply And.intro)<;>first|exact(aE id 0 (IntKind.i64.wrap ((x.aj.length:Int)-1)))) ?_
 refine W.cond rfl (fun hb0=> ?_) (fun hb0=> ?_)
 ·have hk:zJ x.aj id=true:=by unfold zJ;simpa using hb0
  have hb:=Q4 hl hk
  have hp:(uT x.rows rd (x.aj,x.replaced) id)=_:=Mg (rows:=x.rows) (rd:=rd) (p:=(x.aj,x.replaced)) hk
  have VU:=IW (id:=id) (by omega) hw
  have hrd:=(pH hU (k:=id.toNat) (by omega)).1
  refine W.sr X [] [(18,⟨true,[.agg (bw (newS id x.rows 0))]⟩)] [0,1,4] [] rfl (by(repeat' with_reducible first|exact ah.nil|refine ah.mk ?_ ?_|apply And.intro)<;>first|exact(zO id x.rows 0)) ?_
  rw[VU]
  refine W.s0 X [0,1,4] rfl (by and_intros<;>first|exact⟨⟩| (intros;omega)) ?_
  rw[hrd]
  refine W.sd X [] [] [0,1] [] 7 MO (by kernel_rfl) rfl (by and_intros<;>first|exact⟨⟩| (intros;omega)) ?_
  refine W.fH X [(42,14)] [] [] [] rfl (by and_intros<;>first|exact⟨⟩|exact rfl| (simp only[cN,maxLen,lens];omega)) ?_
  exact zA.normal rfl ⟨rfl,rfl,rfl,rfl,rfl,rfl,by rw[hp],rfl,rfl,by rw[hp],⟨⟩⟩
 ·have hk:zJ x.aj id=false:=by unfold zJ;simpa using hb0
  have hp:(uT x.rows rd (x.aj,x.replaced) id)=_:=Mh (rows:=x.rows) (rd:=rd) (p:=(x.aj,x.replaced)) hk
  refine W.skip ?_
  exact zA.normal rfl ⟨rfl,rfl,rfl,rfl,rfl,rfl,by rw[hp],rfl,rfl,by rw[hp],⟨⟩⟩
theorem nY(x:aN)(rd id:Int)(hl:x.aj.length≤4)(hw:1≤x.rows∧x.rows≤64)(hU:Dj rd x.aj)(hr:x.replaced.length≤4194400)(hxr:x.round=rd):gZ ty Tryz.prog 183 [(1000, .box [.lit (.int .i64 x.rows), .own 11, .own 12, .lit (.int .i64 x.ak.rows), .own 13, .lit (.int .i64 x.az), .lit (.int .i64 x.seed), .lit (.int .i64 x.round), .own 14, .lit (.int .i64 x.cancelled)]),(11, .arr .aU x.aj),(12, .arr .aL x.aa),(13, .arr .aA x.ak.rounds),(14, .arr .int x.replaced)] [.a (.ptr 1000 0), .a (.lit (.int .i64 id))] [(1000, .box [.lit (.int .i64 x.rows), .own 11, .own 12, .lit (.int .i64 x.ak.rows), .own 13, .lit (.int .i64 x.az), .lit (.int .i64 x.seed), .lit (.int .i64 x.round), .own 14, .lit (.int .i64 x.cancelled)]),(11, .arr .aU (uT x.rows rd (x.aj,x.replaced) id).1),(12, .arr .aL x.aa),(13, .arr .aA x.ak.rounds),(14, .arr .int (uT x.rows rd (x.aj,x.replaced) id).2)] []:=by
 refine gZ.of X Tryz.call183 Tryz.func183 rfl rfl (by decide) Tryz.ntmps183 (by simp) rfl ?_
 intro zb
 refine W.seq ?_
 refine W.sr X [] [(12,⟨false,[.a (.lit (.bool (inr id 0 (IntKind.i64.wrap ((x.aj.length:Int)-1)))))]⟩)] [0,1,13] [] rfl (by(repeat' with_reducible first|exact ah.nil|refine ah.mk ?_ ?_|apply And.intro)<;>first|exact(aP id 0 (IntKind.i64.wrap ((x.aj.length:Int)-1)))) ?_
 refine W.cond rfl (fun hb0=> ?_) (fun hb0=> ?_)
 ·have hk:zJ x.aj id=false:=by unfold zJ;simpa using hb0
  have hp:(uT x.rows rd (x.aj,x.replaced) id)=_:=Mh (rows:=x.rows) (rd:=rd) (p:=(x.aj,x.replaced)) hk
  refine W.ret ?_
  exact zA.ret rfl ⟨rfl,rfl,rfl,rfl,rfl,rfl,by rw[hp],rfl,rfl,by rw[hp],⟨⟩⟩
 ·have hk:zJ x.aj id=true:=by unfold zJ;simpa using hb0
  have hb:=Q4 hl hk
  have hp:(uT x.rows rd (x.aj,x.replaced) id)=_:=Mg (rows:=x.rows) (rd:=rd) (p:=(x.aj,x.replaced)) hk
  have VU:=IW (id:=id) (by omega) hw
  have hrd:=(pH hU (k:=id.toNat) (by omega)).1
  refine W.skip ?_
  refine W.sr X [] [(19,⟨true,[.agg (bw (newS id x.rows 0))]⟩)] [0,1,4] [] rfl (by(repeat' with_reducible first|exact ah.nil|refine ah.mk ?_ ?_|apply And.intro)<;>first|exact(zP id x.rows 0)) ?_
  rw[VU]
  refine W.s0 X [0,1,4] rfl (by and_intros<;>exact⟨⟩) ?_
  rw[hxr]
  refine W.sd X [] [] [0,1] [] 7 MO (by kernel_rfl) rfl (by and_intros<;>first|exact⟨⟩| (intros;omega)) ?_
  refine W.fH X [(39,14)] [] [] [] rfl (by and_intros<;>first|exact⟨⟩|exact rfl| (simp only[cN,maxLen,lens];omega)) ?_
  exact zA.normal rfl ⟨rfl,rfl,rfl,rfl,rfl,rfl,by rw[hp],rfl,rfl,by rw[hp],⟨⟩⟩
theorem yj(x:aN)(g:List Int)(d:DB)(h0:wB x)(Zh:g.length≤64)(VB:bL List.length d.rows≤1048576):Sound ty Tryz.prog 55 [.agg (ay x), .a (.sl .int g), .agg (aH d)] [.agg [.lit (.int .i64 (bz x g d).rows), .sl .aU (bz x g d).aj, .sl .aL (bz x g d).aa, .lit (.int .i64 (bz x g d).ak.rows), .vw 0 none .aA (bz x g d).ak.rounds, .lit (.int .i64 (bz x g d).az), .lit (.int .i64 (bz x g d).seed), .lit (.int .i64 (bz x g d).round), .sl .int (bz x g d).replaced, .lit (.int .i64 (bz x g d).cancelled)]]:=by
 refine Sound.o X Tryz.call55 Tryz.func55 Tryz.ntmps55 rfl rfl ?_
 intro zb
 have hls:bL bl x.aj≤1048576∧bL aJ x.aa≤1048576∧b7 x.ak≤1048576∧x.replaced.length≤4194304:=h0
 have XA:=Mi x g
 refine W.s0 X [1,3,5,6] rfl ⟨⟩ ?_
 refine W.sr X [(7,907)] [(13,⟨true,[.agg (ay x)]⟩)] [1,3,5,6,7] [] rfl (by(repeat' with_reducible first|exact ah.nil|refine ah.mk ?_ ?_|apply And.intro)<;>first|exact(cD x h0)) ?_
 refine W.seq ?_
 refine W.sr X [] [(15,⟨false,[.a (.lit (.bool (okW x)))]⟩)] [1,3,5,6,7,21] [] rfl (by(repeat' with_reducible first|exact ah.nil|refine ah.mk ?_ ?_|apply And.intro)<;>first|exact(bM x)) ?_
 refine W.cond rfl (fun hb0=> ?_) (fun hb0=> ?_)
 ·have hk:jF x=false:=bD hb0 (by simp only[jF,aF]<;>first|rfl|ac_rfl)
  have hc:=E3 (g:=g) (d:=d) hk
  refine W.s0 X [6] rfl (by and_intros<;>exact⟨⟩) ?_
  refine W.ret ?_
  exact Fin.ret rfl (by and_intros<;>first|exact⟨⟩| (rw[hc];done))
 ·have hk:jF x=true:=bA hb0 (by simp only[jF,aF]<;>first|rfl|ac_rfl)
  obtain⟨hok,Zi⟩:=Gw hk
  have qy:=eu hok
  have Nv:=(sI hok).1
  have XB:=TN g hok
  refine W.skip ?_
  refine W.seq ?_
  refine W.s0 X [1,3,5,6,7,25] rfl ⟨⟩ ?_
  refine W.cond rfl (fun aD=> ?_) (fun aD=> ?_)
  ·try simp only[nb,an,au,af]at aD
   have Tb:g.length=0:=by omega
   have hc:=IZ (d:=d) hk Tb
   have hgn:g= []:=List.length_eq_zero_iff.1 Tb
   refine W.fH X [] [(32,⟨true,[.agg [.lit (.int .i64 x.ak.rows), .vw 0 none .aA (Nx x.ak x.round d)], .a (.lit (.bool (sW x.ak x.round d)))]⟩)] [1,6,7] [] rfl (by(repeat' with_reducible first|exact ah.nil|refine ah.mk ?_ ?_|apply And.intro)<;>first|exact(AS x.ak x.round d hls.2.2.1 VB)) ?_
   refine W.seq ?_
   refine W.s0 X [6,7,40,41,42] rfl ⟨⟩ ?_
   refine W.block ?_
   refine W.aI (fun k=>k≤g.length) (fun k:Nat=> [(42, .one (.a (.lit (.int .i64 k))))]) (fun k=> [(14, .arr .aU (fX x g k).1),(21, .arr .int (fX x g k).2)]) (fun k=>g.length-k) 0 (fun k=>rfl) (Nat.zero_le _) rfl ?_
   rintro k gO
   have qA:=yd (x:=x) gO
   have hU:=IY hok gO
   refine W.s0 X [6,7,40,41,42,43] rfl ⟨⟩ ?_
   refine W.seq ?_
   refine W.cond rfl (fun aR=> ?_) (fun aR=> ?_)
   ·try simp only[nb,an,au,af]at aR
    omega
   ·try simp only[nb,an,au,af]at aR
    rw[tV aR]
    refine W.exit ?_
    refine W.seq ?_
    refine W.s0 X [6,7,50,51,52] rfl ⟨⟩ ?_
    refine W.block ?_
    refine W.aI (fun k1=>k1≤x.aj.length) (fun k1:Nat=> [(52, .one (.a (.lit (.int .i64 k1))))]) (fun k1=> [(14, .arr .aU (AR (sX x g).1 k1))]) (fun k1=>x.aj.length-k1) 0 (fun k1=>rfl) (Nat.zero_le _) (by rw[Mj];rfl) ?_
    intro k1 hk1
    have DA:(AR (sX x g).1 k1).length=x.aj.length:=by rw[Bs (by omega)];exact XA.1
    refine W.s0 X [6,7,50,51,52,53] rfl ⟨⟩ ?_
    refine W.seq ?_
    refine W.cond rfl (fun dS=> ?_) (fun dS=> ?_)
    ·try simp only[nb,an,au,af]at dS
     have hgt:=Br (l:=(sX x g).1) (k:=k1) (by omega)
     have VC:=pH XB (k:=k1) (by omega)
     have DU:=yf (l:=(sX x g).1) (k:=k1) (by omega)
     refine W.skip ?_
     refine W.seq ?_
     refine W.block ?_
     refine W.s0 X [6,7,10,11,50,51,52] rfl (by and_intros<;>first|exact⟨⟩| (intros;omega)) ?_
     refine W.draw X [] [(61,⟨true,[.agg (bw (lO ((AR (sX x g).1 k1).getD k1 (av .aU))))]⟩)] [6,7,50,51,52] [] 6 MO (by kernel_rfl) rfl (by(repeat' with_reducible first|exact ah.nil|refine ah.mk ?_ ?_|apply And.intro)<;>first|exact(nW ((AR (sX x g).1 k1).getD k1 (av .aU)) (by rw[hgt];exact VC.2))| (intros;omega)) ?_
     refine W.r0 X [6,7,50,51,52] rfl ⟨⟩ ?_
     refine⟨k1+1,by omega,by omega,?_⟩
     rw[aV _ k1 rfl (by omega), ←DU]
     try rfl
    ·try simp only[nb,an,au,af]at dS
     rw[Bt (by omega)]
     refine W.exit ?_
     refine W.s0 X [6,7] rfl ⟨⟩ ?_
     refine W.s0 X [6] rfl (by and_intros<;>exact⟨⟩) ?_
     refine W.ret ?_
     exact Fin.ret rfl (by and_intros<;>first|exact⟨⟩| (rw[hc];done))
  ·try simp only[nb,an,au,af]at aD
   have Tb: ¬g.length=0:=by omega
   have hc:=I0 (d:=d) hk Tb
   refine W.r0 X [1,6,7] rfl ⟨⟩ ?_
   refine W.seq ?_
   refine W.s0 X [6,7,40,41,42] rfl ⟨⟩ ?_
   refine W.block ?_
   refine W.aI (fun k=>k≤g.length) (fun k:Nat=> [(42, .one (.a (.lit (.int .i64 k))))]) (fun k=> [(14, .arr .aU (fX x g k).1),(21, .arr .int (fX x g k).2)]) (fun k=>g.length-k) 0 (fun k=>rfl) (Nat.zero_le _) rfl ?_
   rintro k gO
   have qA:=yd (x:=x) gO
   have hU:=IY hok gO
   refine W.s0 X [6,7,40,41,42,43] rfl ⟨⟩ ?_
   refine W.seq ?_
   refine W.cond rfl (fun aR=> ?_) (fun aR=> ?_)
   ·try simp only[nb,an,au,af]at aR
    have hst:=IX (x:=x) aR
    refine W.skip ?_
    refine W.seq ?_
    refine W.block ?_
    refine W.s0 X [6,7,9,40,41,42] rfl (by and_intros<;>first|exact⟨⟩| (intros;omega)) ?_
    refine W.fH X [] [(800047,⟨true,[]⟩),(700047,⟨true,[.agg [.ptr 1000 907, .ptr 11 14, .ptr 12 15, .ptr 13 17, .ptr 14 21], .agg [], .agg [.own 1000, .own 11, .own 12, .own 13, .own 14], .agg [.lit (.int .i64 (⟨x.rows,(fX x g k).1,x.aa,x.ak,x.az,x.seed,x.round,(fX x g k).2,IntKind.i64.wrap (x.cancelled+1)⟩:aN).rows), .own 11, .own 12, .lit (.int .i64 (⟨x.rows,(fX x g k).1,x.aa,x.ak,x.az,x.seed,x.round,(fX x g k).2,IntKind.i64.wrap (x.cancelled+1)⟩:aN).ak.rows), .own 13, .lit (.int .i64 (⟨x.rows,(fX x g k).1,x.aa,x.ak,x.az,x.seed,x.round,(fX x g k).2,IntKind.i64.wrap (x.cancelled+1)⟩:aN).az), .lit (.int .i64 (⟨x.rows,(fX x g k).1,x.aa,x.ak,x.az,x.seed,x.round,(fX x g k).2,IntKind.i64.wrap (x.cancelled+1)⟩:aN).seed), .lit (.int .i64 (⟨x.rows,(fX x g k).1,x.aa,x.ak,x.az,x.seed,x.round,(fX x g k).2,IntKind.i64.wrap (x.cancelled+1)⟩:aN).round), .own 14, .lit (.int .i64 (⟨x.rows,(fX x g k).1,x.aa,x.ak,x.az,x.seed,x.round,(fX x g k).2,IntKind.i64.wrap (x.cancelled+1)⟩:aN).cancelled)], .a (.sl .aU ((uT (⟨x.rows,(fX x g k).1,x.aa,x.ak,x.az,x.seed,x.round,(fX x g k).2,IntKind.i64.wrap (x.cancelled+1)⟩:aN).rows x.round ((⟨x.rows,(fX x g k).1,x.aa,x.ak,x.az,x.seed,x.round,(fX x g k).2,IntKind.i64.wrap (x.cancelled+1)⟩:aN).aj,(⟨x.rows,(fX x g k).1,x.aa,x.ak,x.az,x.seed,x.round,(fX x g k).2,IntKind.i64.wrap (x.cancelled+1)⟩:aN).replaced) (g.getD k (av .int))).1)), .a (.sl .aL ((⟨x.rows,(fX x g k).1,x.aa,x.ak,x.az,x.seed,x.round,(fX x g k).2,IntKind.i64.wrap (x.cancelled+1)⟩:aN).aa)), .a (.sl .aA ((⟨x.rows,(fX x g k).1,x.aa,x.ak,x.az,x.seed,x.round,(fX x g k).2,IntKind.i64.wrap (x.cancelled+1)⟩:aN).ak.rounds)), .a (.sl .int ((uT (⟨x.rows,(fX x g k).1,x.aa,x.ak,x.az,x.seed,x.round,(fX x g k).2,IntKind.i64.wrap (x.cancelled+1)⟩:aN).rows x.round ((⟨x.rows,(fX x g k).1,x.aa,x.ak,x.az,x.seed,x.round,(fX x g k).2,IntKind.i64.wrap (x.cancelled+1)⟩:aN).aj,(⟨x.rows,(fX x g k).1,x.aa,x.ak,x.az,x.seed,x.round,(fX x g k).2,IntKind.i64.wrap (x.cancelled+1)⟩:aN).replaced) (g.getD k (av .int))).2))]⟩)] [6,7,40,41,42] [] rfl (by(repeat' with_reducible first|exact ah.nil|refine ah.mk ?_ ?_|apply And.intro)<;>first|exact(lP (⟨x.rows,(fX x g k).1,x.aa,x.ak,x.az,x.seed,x.round,(fX x g k).2,IntKind.i64.wrap (x.cancelled+1)⟩:aN) x.round (g.getD k (av .int)) (by show(fX x g k).1.length≤4;omega) Nv hU (by show(fX x g k).2.length≤_;omega))) ?_
    refine W.r0 X [6,7,40,41,42] rfl ⟨⟩ ?_
    refine⟨k+1,by omega,by omega,?_⟩
    rw[aV _ k rfl (by omega), ←hst]
    try rfl
   ·try simp only[nb,an,au,af]at aR
    rw[tV aR]
    refine W.exit ?_
    refine W.seq ?_
    refine W.s0 X [6,7,50,51,52] rfl ⟨⟩ ?_
    refine W.block ?_
    refine W.aI (fun k1=>k1≤x.aj.length) (fun k1:Nat=> [(52, .one (.a (.lit (.int .i64 k1))))]) (fun k1=> [(14, .arr .aU (AR (sX x g).1 k1))]) (fun k1=>x.aj.length-k1) 0 (fun k1=>rfl) (Nat.zero_le _) (by rw[Mj];rfl) ?_
    intro k1 hk1
    have DA:(AR (sX x g).1 k1).length=x.aj.length:=by rw[Bs (by omega)];exact XA.1
    refine W.s0 X [6,7,50,51,52,53] rfl ⟨⟩ ?_
    refine W.seq ?_
    refine W.cond rfl (fun dS=> ?_) (fun dS=> ?_)
    ·try simp only[nb,an,au,af]at dS
     have hgt:=Br (l:=(sX x g).1) (k:=k1) (by omega)
     have VC:=pH XB (k:=k1) (by omega)
     have DU:=yf (l:=(sX x g).1) (k:=k1) (by omega)
     refine W.skip ?_
     refine W.seq ?_
     refine W.block ?_
     refine W.s0 X [6,7,10,11,50,51,52] rfl (by and_intros<;>first|exact⟨⟩| (intros;omega)) ?_
     refine W.draw X [] [(61,⟨true,[.agg (bw (lO ((AR (sX x g).1 k1).getD k1 (av .aU))))]⟩)] [6,7,50,51,52] [] 6 MO (by kernel_rfl) rfl (by(repeat' with_reducible first|exact ah.nil|refine ah.mk ?_ ?_|apply And.intro)<;>first|exact(nW ((AR (sX x g).1 k1).getD k1 (av .aU)) (by rw[hgt];exact VC.2))| (intros;omega)) ?_
     refine W.r0 X [6,7,50,51,52] rfl ⟨⟩ ?_
     refine⟨k1+1,by omega,by omega,?_⟩
     rw[aV _ k1 rfl (by omega), ←DU]
     try rfl
    ·try simp only[nb,an,au,af]at dS
     rw[Bt (by omega)]
     refine W.exit ?_
     refine W.s0 X [6,7] rfl ⟨⟩ ?_
     refine W.s0 X [6] rfl (by and_intros<;>exact⟨⟩) ?_
     refine W.ret ?_
     exact Fin.ret rfl (by and_intros<;>first|exact⟨⟩| (rw[hc];done))
theorem vV(x:aN)(h0:wB x):Sound ty Tryz.prog 54 [.agg (ay x)] [.agg (ay (testW x))]:=by
 refine Sound.o X Tryz.call54 Tryz.func54 Tryz.ntmps54 rfl rfl ?_
 intro zb
 have hls:bL bl x.aj≤1048576∧bL aJ x.aa≤1048576∧b7 x.ak≤1048576∧x.replaced.length≤4194304:=h0
 have DU:=TQ h0
 refine W.s0 X [1,2] rfl ⟨⟩ ?_
 refine W.sr X [(3,903)] [(13,⟨true,[.agg (ay x)]⟩)] [1,2,3] [] rfl (by(repeat' with_reducible first|exact ah.nil|refine ah.mk ?_ ?_|apply And.intro)<;>first|exact(cD x h0)) ?_
 refine W.sr X [] [(16,⟨false,[.a (.lit (.int .i64 (cS x.ak)))]⟩)] [1,2,3,4] [] rfl (by(repeat' with_reducible first|exact ah.nil|refine ah.mk ?_ ?_|apply And.intro)<;>first|exact(kN x.ak)) ?_
 refine W.sr X [(21,80)] [(21,⟨true,[.agg (aH (dJ x.ak.rounds (cS x.ak))), .a (.lit (.bool (gX x.ak.rounds (cS x.ak))))]⟩)] [1,2,3,4,5,6] [] rfl (by(repeat' with_reducible first|exact ah.nil|refine ah.mk ?_ ?_|apply And.intro)<;>first|exact(jC x.ak (cS x.ak) DU)) ?_
 refine W.seq ?_
 refine W.sr X [] [(25,⟨false,[.a (.lit (.bool (okW x)))]⟩)] [1,2,3,4,5,30] [] rfl (by(repeat' with_reducible first|exact ah.nil|refine ah.mk ?_ ?_|apply And.intro)<;>first|exact(bM x)) ?_
 refine W.cond rfl (fun hb0=> ?_) (fun hb0=> ?_)
 ·have hk:xQ x=false:=bD hb0 (by simp only[xQ,aF]<;>first|rfl|ac_rfl)
  have hc:=I2 hk
  refine W.s0 X [2] rfl (by and_intros<;>exact⟨⟩) ?_
  refine W.ret ?_
  exact Fin.ret rfl (by and_intros<;>first|exact⟨⟩| (rw[hc];done))
 ·have hk:xQ x=true:=bA hb0 (by simp only[xQ,aF]<;>first|rfl|ac_rfl)
  have hc:=E4 hk
  have hkk:=hk
  rw[xQ,Bool.and_eq_true]at hkk
  obtain⟨hok,Zj⟩:=hkk
  have qy:=eu hok
  have Nv:=(sI hok).1
  refine W.skip ?_
  refine W.seq ?_
  refine W.s0 X [1,2,3,4,5,33,34,35] rfl ⟨⟩ ?_
  refine W.block ?_
  refine W.aI (fun k=>k≤x.aj.length) (fun k:Nat=> [(35, .one (.a (.lit (.int .i64 k))))]) (fun k=> [(14, .arr .aU (fJ x k).1),(21, .arr .int (fJ x k).2)]) (fun k=>x.aj.length-k) 0 (fun k=>rfl) (Nat.zero_le _) rfl ?_
  rintro k gO
  have htb:=TP hok k gO
  refine W.s0 X [1,2,3,4,5,33,34,35,36] rfl ⟨⟩ ?_
  refine W.seq ?_
  refine W.cond rfl (fun aD=> ?_) (fun aD=> ?_)
  ·try simp only[nb,an,au,af]at aD
   have hrl:=gJ (kh x.seed [227,x.round,(k:Int)]) x.rows
   have hab:=TH (x.aj.getD k (av .aU)) (fI x.az (k:Int)) (cS x.ak) (dJ x.ak.rounds (cS x.ak)) (v:=(bC (kh x.seed [227,x.round,(k:Int)]) x.rows)) (by omega)
   have Zk:=TO hok Zj (kh x.seed [227,x.round,(k:Int)])
   refine W.skip ?_
   refine W.seq ?_
   refine W.block ?_
   refine W.s0 X [1,2,3,4,5,7,8,33,34,35] rfl (by and_intros<;>first|exact⟨⟩| (intros;omega)) ?_
   refine W.sr X [] [(43,⟨false,[.a (.lit (.int .i64 (fI x.az (k:Int))))]⟩)] [1,2,3,4,5,7,8,9,33,34,35] [] rfl (by(repeat' with_reducible first|exact ah.nil|refine ah.mk ?_ ?_|apply And.intro)<;>first|exact(gT x.az (k:Int))) ?_
   refine W.seq ?_
   refine W.fD X [] [(55,⟨false,[.a (.lit (.int .i64 (kh x.seed [227,x.round,(k:Int)])))]⟩),(58,⟨true,[.a (.sl .int (bC (kh x.seed [227,x.round,(k:Int)]) x.rows))]⟩),(59,⟨true,[.agg (dg (Gf (x.aj.getD k (av .aU)) (fI x.az (k:Int)) (cS x.ak) (dJ x.ak.rounds (cS x.ak)) (bC (kh x.seed [227,x.round,(k:Int)]) x.rows))), .a (.lit (.bool (iw (dJ x.ak.rounds (cS x.ak)) (bC (kh x.seed [227,x.round,(k:Int)]) x.rows))))]⟩)] [1,2,3,4,5,7,9,10,33,34,35] [] 1572863 (.ph 524287 (.br 524287 19 (.last 1048576) (.br 393215 19 (.last 1179648) (.nil)))) 1 MO (by kernel_rfl) rfl (by kernel_rfl) (by(repeat' with_reducible first|exact ah.nil|refine ah.mk ?_ ?_|apply And.intro);(iterate 3 all_goals try first|exact(bt x.seed [227,x.round,(k:Int)] (by first|assumption|omega| (simp;done)| (simp;omega)))|exact(jU (kh x.seed [227,x.round,(k:Int)]) x.rows)|exact(qF (x.aj.getD k (av .aU)) (fI x.az (k:Int)) (cS x.ak) (dJ x.ak.rounds (cS x.ak)) (bC (kh x.seed [227,x.round,(k:Int)]) x.rows) (by omega)));all_goals first|exact⟨rfl,bH _ (by decide)⟩) ?_
   refine W.sr X [] [(65,⟨false,[.a (.lit (.bool (Vv (fI x.az (k:Int)) (dJ x.ak.rounds (cS x.ak)) (Xm x k))))]⟩)] [1,2,3,4,5,7,33,34,35,65] [] rfl (by(repeat' with_reducible first|exact ah.nil|refine ah.mk ?_ ?_|apply And.intro)<;>first|exact(s9 (fI x.az (k:Int)) (dJ x.ak.rounds (cS x.ak)) (Xm x k) hab.1 hab.2)) ?_
   refine W.cond rfl (fun aR=> ?_) (fun aR=> ?_)
   ·have hst:=L8 (x:=x) (n:=k) aR
    refine W.fH X [] [(800067,⟨true,[]⟩),(700067,⟨true,[.agg [.ptr 1000 903, .ptr 11 14, .ptr 12 15, .ptr 13 17, .ptr 14 21], .agg [], .agg [.own 1000, .own 11, .own 12, .own 13, .own 14], .agg [.lit (.int .i64 (⟨x.rows,(fJ x k).1,x.aa,x.ak,x.az,x.seed,x.round,(fJ x k).2,x.cancelled⟩:aN).rows), .own 11, .own 12, .lit (.int .i64 (⟨x.rows,(fJ x k).1,x.aa,x.ak,x.az,x.seed,x.round,(fJ x k).2,x.cancelled⟩:aN).ak.rows), .own 13, .lit (.int .i64 (⟨x.rows,(fJ x k).1,x.aa,x.ak,x.az,x.seed,x.round,(fJ x k).2,x.cancelled⟩:aN).az), .lit (.int .i64 (⟨x.rows,(fJ x k).1,x.aa,x.ak,x.az,x.seed,x.round,(fJ x k).2,x.cancelled⟩:aN).seed), .lit (.int .i64 (⟨x.rows,(fJ x k).1,x.aa,x.ak,x.az,x.seed,x.round,(fJ x k).2,x.cancelled⟩:aN).round), .own 14, .lit (.int .i64 (⟨x.rows,(fJ x k).1,x.aa,x.ak,x.az,x.seed,x.round,(fJ x k).2,x.cancelled⟩:aN).cancelled)], .a (.sl .aU ((uT (⟨x.rows,(fJ x k).1,x.aa,x.ak,x.az,x.seed,x.round,(fJ x k).2,x.cancelled⟩:aN).rows x.round ((⟨x.rows,(fJ x k).1,x.aa,x.ak,x.az,x.seed,x.round,(fJ x k).2,x.cancelled⟩:aN).aj,(⟨x.rows,(fJ x k).1,x.aa,x.ak,x.az,x.seed,x.round,(fJ x k).2,x.cancelled⟩:aN).replaced) (k:Int)).1)), .a (.sl .aL ((⟨x.rows,(fJ x k).1,x.aa,x.ak,x.az,x.seed,x.round,(fJ x k).2,x.cancelled⟩:aN).aa)), .a (.sl .aA ((⟨x.rows,(fJ x k).1,x.aa,x.ak,x.az,x.seed,x.round,(fJ x k).2,x.cancelled⟩:aN).ak.rounds)), .a (.sl .int ((uT (⟨x.rows,(fJ x k).1,x.aa,x.ak,x.az,x.seed,x.round,(fJ x k).2,x.cancelled⟩:aN).rows x.round ((⟨x.rows,(fJ x k).1,x.aa,x.ak,x.az,x.seed,x.round,(fJ x k).2,x.cancelled⟩:aN).aj,(⟨x.rows,(fJ x k).1,x.aa,x.ak,x.az,x.seed,x.round,(fJ x k).2,x.cancelled⟩:aN).replaced) (k:Int)).2))]⟩)] [1,2,3,4,5,33,34,35] [] rfl (by(repeat' with_reducible first|exact ah.nil|refine ah.mk ?_ ?_|apply And.intro)<;>first|exact(lP (⟨x.rows,(fJ x k).1,x.aa,x.ak,x.az,x.seed,x.round,(fJ x k).2,x.cancelled⟩:aN) x.round (k:Int) (by show(fJ x k).1.length≤4;omega) Nv htb.1 (by show(fJ x k).2.length≤_;omega))) ?_
    refine W.r0 X [1,2,3,4,5,33,34,35] rfl ⟨⟩ ?_
    refine⟨k+1,by omega,by omega,?_⟩
    rw[aV _ k rfl (by omega), ←hst]
    try rfl
   ·have hst:=IJ (x:=x) (n:=k) aR
    refine W.skip ?_
    refine W.r0 X [1,2,3,4,5,33,34,35] rfl ⟨⟩ ?_
    refine⟨k+1,by omega,by omega,?_⟩
    rw[aV _ k rfl (by omega),hst]
    try rfl
  ·try simp only[nb,an,au,af]at aD
   refine W.exit ?_
   refine W.s0 X [2] rfl (by and_intros<;>exact⟨⟩) ?_
   refine W.ret ?_
   exact Fin.ret rfl (by and_intros<;>first|exact⟨⟩| (rw[hc];done)| (rw[hc,show k=x.aj.length by omega];done))
theorem yl(x:aN)(g:List Int)(d:DB)(h0:wB x)(Zh:g.length≤64)(VB:bL List.length d.rows≤1048576):Sound ty Tryz.prog 106 [.agg (ay x), .a (.sl .int g), .agg (aH d)] [.agg [.lit (.int .i64 (bz x g d).rows), .sl .aU (bz x g d).aj, .sl .aL (bz x g d).aa, .lit (.int .i64 (bz x g d).ak.rows), .vw 0 none .aA (bz x g d).ak.rounds, .lit (.int .i64 (bz x g d).az), .lit (.int .i64 (bz x g d).seed), .lit (.int .i64 (bz x g d).round), .sl .int (bz x g d).replaced, .lit (.int .i64 (bz x g d).cancelled)]]:=by
 refine Sound.o X Tryz.call106 Tryz.func106 Tryz.ntmps106 rfl rfl ?_
 intro zb
 have hls:bL bl x.aj≤1048576∧bL aJ x.aa≤1048576∧b7 x.ak≤1048576∧x.replaced.length≤4194304:=h0
 have XA:=Mi x g
 refine W.s0 X [1,3,5,6] rfl ⟨⟩ ?_
 refine W.sr X [(7,907)] [(13,⟨true,[.agg (ay x)]⟩)] [1,3,5,6,7] [] rfl (by(repeat' with_reducible first|exact ah.nil|refine ah.mk ?_ ?_|apply And.intro)<;>first|exact(bT x h0)) ?_
 refine W.seq ?_
 refine W.sr X [] [(15,⟨false,[.a (.lit (.bool (okW x)))]⟩)] [1,3,5,6,7,21] [] rfl (by(repeat' with_reducible first|exact ah.nil|refine ah.mk ?_ ?_|apply And.intro)<;>first|exact(bY x)) ?_
 refine W.cond rfl (fun hb0=> ?_) (fun hb0=> ?_)
 ·have hk:jF x=false:=bD hb0 (by simp only[jF,aF]<;>first|rfl|ac_rfl)
  have hc:=E3 (g:=g) (d:=d) hk
  refine W.s0 X [6] rfl (by and_intros<;>exact⟨⟩) ?_
  refine W.ret ?_
  exact Fin.ret rfl (by and_intros<;>first|exact⟨⟩| (rw[hc];done))
 ·have hk:jF x=true:=bA hb0 (by simp only[jF,aF]<;>first|rfl|ac_rfl)
  obtain⟨hok,Zi⟩:=Gw hk
  have qy:=eu hok
  have Nv:=(sI hok).1
  have XB:=TN g hok
  refine W.skip ?_
  refine W.seq ?_
  refine W.s0 X [1,3,5,6,7,25] rfl ⟨⟩ ?_
  refine W.cond rfl (fun aD=> ?_) (fun aD=> ?_)
  ·try simp only[nb,an,au,af]at aD
   have Tb:g.length=0:=by omega
   have hc:=IZ (d:=d) hk Tb
   have hgn:g= []:=List.length_eq_zero_iff.1 Tb
   refine W.sr X [] [(32,⟨true,[.agg [.lit (.int .i64 x.ak.rows), .vw 0 none .aA (Nx x.ak x.round d)], .a (.lit (.bool (sW x.ak x.round d)))]⟩)] [1,3,6,7,8] [] rfl (by(repeat' with_reducible first|exact ah.nil|refine ah.mk ?_ ?_|apply And.intro)<;>first|exact(AT x.ak x.round d hls.2.2.1 VB)) ?_
   refine W.r0 X [1,3,6,7] rfl (by and_intros<;>exact⟨⟩) ?_
   refine W.seq ?_
   refine W.s0 X [1,3,6,7,10] rfl ⟨⟩ ?_
   refine W.block ?_
   refine W.aI (fun k=>k≤g.length) (fun k:Nat=> [(10, .one (.a (.lit (.int .i64 k))))]) (fun k=> [(14, .arr .aU (fX x g k).1),(21, .arr .int (fX x g k).2)]) (fun k=>g.length-k) 0 (fun k=>rfl) (Nat.zero_le _) rfl ?_
   rintro k gO
   have qA:=yd (x:=x) gO
   have hU:=IY hok gO
   refine W.seq ?_
   refine W.s0 X [1,3,6,7,10,44] rfl ⟨⟩ ?_
   refine W.cond rfl (fun aR=> ?_) (fun aR=> ?_)
   ·try simp only[nb,an,au,af]at aR
    omega
   ·try simp only[nb,an,au,af]at aR
    rw[tV aR]
    refine W.exit ?_
    refine W.seq ?_
    refine W.s0 X [3,6,7,11] rfl ⟨⟩ ?_
    refine W.block ?_
    refine W.aI (fun k1=>k1≤x.aj.length) (fun k1:Nat=> [(11, .one (.a (.lit (.int .i64 k1))))]) (fun k1=> [(14, .arr .aU (AR (sX x g).1 k1))]) (fun k1=>x.aj.length-k1) 0 (fun k1=>rfl) (Nat.zero_le _) (by rw[Mj];rfl) ?_
    intro k1 hk1
    have DA:(AR (sX x g).1 k1).length=x.aj.length:=by rw[Bs (by omega)];exact XA.1
    refine W.seq ?_
    refine W.s0 X [3,6,7,11,56] rfl ⟨⟩ ?_
    refine W.cond rfl (fun dS=> ?_) (fun dS=> ?_)
    ·try simp only[nb,an,au,af]at dS
     rw[DA]at dS
     have hgt:=Br (l:=(sX x g).1) (k:=k1) (by omega)
     have VC:=pH XB (k:=k1) (by omega)
     have DU:=yf (l:=(sX x g).1) (k:=k1) (by omega)
     refine W.skip ?_
     refine W.seq ?_
     refine W.block ?_
     refine W.draw X [] [(67,⟨true,[.agg (bw (lO ((AR (sX x g).1 k1).getD k1 (av .aU))))]⟩)] [3,6,7,11] [] 10 MO (by kernel_rfl) rfl (by(repeat' with_reducible first|exact ah.nil|refine ah.mk ?_ ?_|apply And.intro)<;>first|exact(nX ((AR (sX x g).1 k1).getD k1 (av .aU)) (by rw[hgt];exact VC.2))| (intros;omega)) ?_
     refine W.r0 X [3,6,7,11] rfl ⟨⟩ ?_
     refine⟨k1+1,by omega,by omega,?_⟩
     rw[aV _ k1 rfl (by omega), ←DU]
     try rfl
    ·try simp only[nb,an,au,af]at dS
     rw[DA]at dS
     rw[Bt (by omega)]
     refine W.exit ?_
     refine W.s0 X [6,7] rfl ⟨⟩ ?_
     refine W.s0 X [6] rfl (by and_intros<;>exact⟨⟩) ?_
     refine W.ret ?_
     exact Fin.ret rfl (by and_intros<;>first|exact⟨⟩| (rw[hc];done))
  ·try simp only[nb,an,au,af]at aD
   have Tb: ¬g.length=0:=by omega
   have hc:=I0 (d:=d) hk Tb
   refine W.r0 X [1,3,6,7] rfl ⟨⟩ ?_
   refine W.seq ?_
   refine W.s0 X [1,3,6,7,10] rfl ⟨⟩ ?_
   refine W.block ?_
   refine W.aI (fun k=>k≤g.length) (fun k:Nat=> [(10, .one (.a (.lit (.int .i64 k))))]) (fun k=> [(14, .arr .aU (fX x g k).1),(21, .arr .int (fX x g k).2)]) (fun k=>g.length-k) 0 (fun k=>rfl) (Nat.zero_le _) rfl ?_
   rintro k gO
   have qA:=yd (x:=x) gO
   have hU:=IY hok gO
   refine W.seq ?_
   refine W.s0 X [1,3,6,7,10,44] rfl ⟨⟩ ?_
   refine W.cond rfl (fun aR=> ?_) (fun aR=> ?_)
   ·try simp only[nb,an,au,af]at aR
    have hst:=IX (x:=x) aR
    refine W.skip ?_
    refine W.seq ?_
    refine W.block ?_
    refine W.fH X [] [(800051,⟨true,[]⟩),(700051,⟨true,[.agg [.ptr 1000 907, .ptr 11 14, .ptr 12 15, .ptr 13 17, .ptr 14 21], .agg [], .agg [.own 1000, .own 11, .own 12, .own 13, .own 14], .agg [.lit (.int .i64 (⟨x.rows,(fX x g k).1,x.aa,x.ak,x.az,x.seed,x.round,(fX x g k).2,IntKind.i64.wrap (x.cancelled+1)⟩:aN).rows), .own 11, .own 12, .lit (.int .i64 (⟨x.rows,(fX x g k).1,x.aa,x.ak,x.az,x.seed,x.round,(fX x g k).2,IntKind.i64.wrap (x.cancelled+1)⟩:aN).ak.rows), .own 13, .lit (.int .i64 (⟨x.rows,(fX x g k).1,x.aa,x.ak,x.az,x.seed,x.round,(fX x g k).2,IntKind.i64.wrap (x.cancelled+1)⟩:aN).az), .lit (.int .i64 (⟨x.rows,(fX x g k).1,x.aa,x.ak,x.az,x.seed,x.round,(fX x g k).2,IntKind.i64.wrap (x.cancelled+1)⟩:aN).seed), .lit (.int .i64 (⟨x.rows,(fX x g k).1,x.aa,x.ak,x.az,x.seed,x.round,(fX x g k).2,IntKind.i64.wrap (x.cancelled+1)⟩:aN).round), .own 14, .lit (.int .i64 (⟨x.rows,(fX x g k).1,x.aa,x.ak,x.az,x.seed,x.round,(fX x g k).2,IntKind.i64.wrap (x.cancelled+1)⟩:aN).cancelled)], .a (.sl .aU ((uT (⟨x.rows,(fX x g k).1,x.aa,x.ak,x.az,x.seed,x.round,(fX x g k).2,IntKind.i64.wrap (x.cancelled+1)⟩:aN).rows x.round ((⟨x.rows,(fX x g k).1,x.aa,x.ak,x.az,x.seed,x.round,(fX x g k).2,IntKind.i64.wrap (x.cancelled+1)⟩:aN).aj,(⟨x.rows,(fX x g k).1,x.aa,x.ak,x.az,x.seed,x.round,(fX x g k).2,IntKind.i64.wrap (x.cancelled+1)⟩:aN).replaced) (g.getD k (av .int))).1)), .a (.sl .aL ((⟨x.rows,(fX x g k).1,x.aa,x.ak,x.az,x.seed,x.round,(fX x g k).2,IntKind.i64.wrap (x.cancelled+1)⟩:aN).aa)), .a (.sl .aA ((⟨x.rows,(fX x g k).1,x.aa,x.ak,x.az,x.seed,x.round,(fX x g k).2,IntKind.i64.wrap (x.cancelled+1)⟩:aN).ak.rounds)), .a (.sl .int ((uT (⟨x.rows,(fX x g k).1,x.aa,x.ak,x.az,x.seed,x.round,(fX x g k).2,IntKind.i64.wrap (x.cancelled+1)⟩:aN).rows x.round ((⟨x.rows,(fX x g k).1,x.aa,x.ak,x.az,x.seed,x.round,(fX x g k).2,IntKind.i64.wrap (x.cancelled+1)⟩:aN).aj,(⟨x.rows,(fX x g k).1,x.aa,x.ak,x.az,x.seed,x.round,(fX x g k).2,IntKind.i64.wrap (x.cancelled+1)⟩:aN).replaced) (g.getD k (av .int))).2))]⟩)] [1,3,6,7,10] [] rfl (by(repeat' with_reducible first|exact ah.nil|refine ah.mk ?_ ?_|apply And.intro)<;>first|exact(nY (⟨x.rows,(fX x g k).1,x.aa,x.ak,x.az,x.seed,x.round,(fX x g k).2,IntKind.i64.wrap (x.cancelled+1)⟩:aN) x.round (g.getD k (av .int)) (by show(fX x g k).1.length≤4;omega) Nv hU (by show(fX x g k).2.length≤_;omega) rfl)| (intros;omega)) ?_
    refine W.r0 X [1,3,6,7,10] rfl ⟨⟩ ?_
    refine⟨k+1,by omega,by omega,?_⟩
    rw[aV _ k rfl (by omega), ←hst]
    try rfl
   ·try simp only[nb,an,au,af]at aR
    rw[tV aR]
    refine W.exit ?_
    refine W.seq ?_
    refine W.s0 X [3,6,7,11] rfl ⟨⟩ ?_
    refine W.block ?_
    refine W.aI (fun k1=>k1≤x.aj.length) (fun k1:Nat=> [(11, .one (.a (.lit (.int .i64 k1))))]) (fun k1=> [(14, .arr .aU (AR (sX x g).1 k1))]) (fun k1=>x.aj.length-k1) 0 (fun k1=>rfl) (Nat.zero_le _) (by rw[Mj];rfl) ?_
    intro k1 hk1
    have DA:(AR (sX x g).1 k1).length=x.aj.length:=by rw[Bs (by omega)];exact XA.1
    refine W.seq ?_
    refine W.s0 X [3,6,7,11,56] rfl ⟨⟩ ?_
    refine W.cond rfl (fun dS=> ?_) (fun dS=> ?_)
    ·try simp only[nb,an,au,af]at dS
     rw[DA]at dS
     have hgt:=Br (l:=(sX x g).1) (k:=k1) (by omega)
     have VC:=pH XB (k:=k1) (by omega)
     have DU:=yf (l:=(sX x g).1) (k:=k1) (by omega)
     refine W.skip ?_
     refine W.seq ?_
     refine W.block ?_
     refine W.draw X [] [(67,⟨true,[.agg (bw (lO ((AR (sX x g).1 k1).getD k1 (av .aU))))]⟩)] [3,6,7,11] [] 10 MO (by kernel_rfl) rfl (by(repeat' with_reducible first|exact ah.nil|refine ah.mk ?_ ?_|apply And.intro)<;>first|exact(nX ((AR (sX x g).1 k1).getD k1 (av .aU)) (by rw[hgt];exact VC.2))| (intros;omega)) ?_
     refine W.r0 X [3,6,7,11] rfl ⟨⟩ ?_
     refine⟨k1+1,by omega,by omega,?_⟩
     rw[aV _ k1 rfl (by omega), ←DU]
     try rfl
    ·try simp only[nb,an,au,af]at dS
     rw[DA]at dS
     rw[Bt (by omega)]
     refine W.exit ?_
     refine W.s0 X [6,7] rfl ⟨⟩ ?_
     refine W.s0 X [6] rfl (by and_intros<;>exact⟨⟩) ?_
     refine W.ret ?_
     exact Fin.ret rfl (by and_intros<;>first|exact⟨⟩| (rw[hc];done))
theorem vW(x:aN)(h0:wB x):Sound ty Tryz.prog 105 [.agg (ay x)] [.agg (ay (testW x))]:=by
 refine Sound.o X Tryz.call105 Tryz.func105 Tryz.ntmps105 rfl rfl ?_
 intro zb
 have hls:bL bl x.aj≤1048576∧bL aJ x.aa≤1048576∧b7 x.ak≤1048576∧x.replaced.length≤4194304:=h0
 have DU:=TQ h0
 refine W.s0 X [1,2] rfl ⟨⟩ ?_
 refine W.sr X [(3,903)] [(12,⟨true,[.agg (ay x)]⟩)] [1,2,3] [] rfl (by(repeat' with_reducible first|exact ah.nil|refine ah.mk ?_ ?_|apply And.intro)<;>first|exact(bT x h0)) ?_
 refine W.sr X [] [(15,⟨false,[.a (.lit (.int .i64 (cS x.ak)))]⟩)] [1,2,3,4] [] rfl (by(repeat' with_reducible first|exact ah.nil|refine ah.mk ?_ ?_|apply And.intro)<;>first|exact(kO x.ak)) ?_
 refine W.sr X [(20,80)] [(20,⟨true,[.agg (aH (dJ x.ak.rounds (cS x.ak))), .a (.lit (.bool (gX x.ak.rounds (cS x.ak))))]⟩)] [1,2,3,4,5,6] [] rfl (by(repeat' with_reducible first|exact ah.nil|refine ah.mk ?_ ?_|apply And.intro)<;>first|exact(jD x.ak (cS x.ak) DU)) ?_
 refine W.seq ?_
 refine W.sr X [] [(24,⟨false,[.a (.lit (.bool (okW x)))]⟩)] [1,2,3,4,5,29] [] rfl (by(repeat' with_reducible first|exact ah.nil|refine ah.mk ?_ ?_|apply And.intro)<;>first|exact(bY x)) ?_
 refine W.cond rfl (fun hb0=> ?_) (fun hb0=> ?_)
 ·have hk:xQ x=false:=bD hb0 (by simp only[xQ,aF]<;>first|rfl|ac_rfl)
  have hc:=I2 hk
  refine W.s0 X [2] rfl (by and_intros<;>exact⟨⟩) ?_
  refine W.ret ?_
  exact Fin.ret rfl (by and_intros<;>first|exact⟨⟩| (rw[hc];done))
 ·have hk:xQ x=true:=bA hb0 (by simp only[xQ,aF]<;>first|rfl|ac_rfl)
  have hc:=E4 hk
  have hkk:=hk
  rw[xQ,Bool.and_eq_true]at hkk
  obtain⟨hok,Zj⟩:=hkk
  have qy:=eu hok
  have Nv:=(sI hok).1
  refine W.skip ?_
  refine W.seq ?_
  refine W.s0 X [1,2,3,4,5,7] rfl ⟨⟩ ?_
  refine W.block ?_
  refine W.aI (fun k=>k≤x.aj.length) (fun k:Nat=> [(7, .one (.a (.lit (.int .i64 k))))]) (fun k=> [(13, .arr .aU (fJ x k).1),(20, .arr .int (fJ x k).2)]) (fun k=>x.aj.length-k) 0 (fun k=>rfl) (Nat.zero_le _) rfl ?_
  rintro k gO
  have htb:=TP hok k gO
  refine W.seq ?_
  refine W.s0 X [1,2,3,4,5,7,35] rfl ⟨⟩ ?_
  refine W.cond rfl (fun aD=> ?_) (fun aD=> ?_)
  ·try simp only[nb,an,au,af]at aD
   have hrl:=gJ (kh x.seed [227,x.round,(k:Int)]) x.rows
   have hab:=TH (x.aj.getD k (av .aU)) (fI x.az (k:Int)) (cS x.ak) (dJ x.ak.rounds (cS x.ak)) (v:=(bC (kh x.seed [227,x.round,(k:Int)]) x.rows)) (by omega)
   have Zk:=TO hok Zj (kh x.seed [227,x.round,(k:Int)])
   refine W.skip ?_
   refine W.seq ?_
   refine W.block ?_
   refine W.sr X [] [(41,⟨false,[.a (.lit (.int .i64 (fI x.az (k:Int))))]⟩)] [1,2,3,4,5,7,8] [] rfl (by(repeat' with_reducible first|exact ah.nil|refine ah.mk ?_ ?_|apply And.intro)<;>first|exact(gU x.az (k:Int))) ?_
   refine W.seq ?_
   refine W.fD X [] [(57,⟨false,[.a (.lit (.int .i64 (kh x.seed [227,x.round,(k:Int)])))]⟩),(60,⟨true,[.a (.sl .int (bC (kh x.seed [227,x.round,(k:Int)]) x.rows))]⟩),(61,⟨true,[.agg (dg (Gf (x.aj.getD k (av .aU)) (fI x.az (k:Int)) (cS x.ak) (dJ x.ak.rounds (cS x.ak)) (bC (kh x.seed [227,x.round,(k:Int)]) x.rows))), .a (.lit (.bool (iw (dJ x.ak.rounds (cS x.ak)) (bC (kh x.seed [227,x.round,(k:Int)]) x.rows))))]⟩)] [1,2,3,4,5,7,8,9,10] [] 25165823 (.ph 8388607 (.br 8388607 23 (.last 16777216) (.br 6291455 23 (.last 18874368) (.nil)))) 1 MO (by kernel_rfl) rfl (by kernel_rfl) (by(repeat' with_reducible first|exact ah.nil|refine ah.mk ?_ ?_|apply And.intro);(iterate 3 all_goals try first|exact(bu x.seed [227,x.round,(k:Int)] (by first|assumption|omega| (simp;done)| (simp;omega)))|exact(jV (kh x.seed [227,x.round,(k:Int)]) x.rows)|exact(qG (x.aj.getD k (av .aU)) (fI x.az (k:Int)) (cS x.ak) (dJ x.ak.rounds (cS x.ak)) (bC (kh x.seed [227,x.round,(k:Int)]) x.rows) (by omega)));all_goals first| (intros;omega)|exact⟨rfl,bH _ (by decide)⟩) ?_
   refine W.sr X [] [(69,⟨false,[.a (.lit (.bool (Vv (fI x.az (k:Int)) (dJ x.ak.rounds (cS x.ak)) (Xm x k))))]⟩)] [1,2,3,4,5,7,70] [] rfl (by(repeat' with_reducible first|exact ah.nil|refine ah.mk ?_ ?_|apply And.intro)<;>first|exact fun _=>(th (fI x.az (k:Int)) (dJ x.ak.rounds (cS x.ak)) (Xm x k) hab.1 hab.2)) ?_
   refine W.cond rfl (fun aR=> ?_) (fun aR=> ?_)
   ·have Zl:TJ x k=true:=by rw[Zk]at aR;exact aR
    have hst:=L8 (x:=x) (n:=k) Zl
    refine W.fH X [] [(800072,⟨true,[]⟩),(700072,⟨true,[.agg [.ptr 1000 903, .ptr 11 13, .ptr 12 14, .ptr 13 16, .ptr 14 20], .agg [], .agg [.own 1000, .own 11, .own 12, .own 13, .own 14], .agg [.lit (.int .i64 (⟨x.rows,(fJ x k).1,x.aa,x.ak,x.az,x.seed,x.round,(fJ x k).2,x.cancelled⟩:aN).rows), .own 11, .own 12, .lit (.int .i64 (⟨x.rows,(fJ x k).1,x.aa,x.ak,x.az,x.seed,x.round,(fJ x k).2,x.cancelled⟩:aN).ak.rows), .own 13, .lit (.int .i64 (⟨x.rows,(fJ x k).1,x.aa,x.ak,x.az,x.seed,x.round,(fJ x k).2,x.cancelled⟩:aN).az), .lit (.int .i64 (⟨x.rows,(fJ x k).1,x.aa,x.ak,x.az,x.seed,x.round,(fJ x k).2,x.cancelled⟩:aN).seed), .lit (.int .i64 (⟨x.rows,(fJ x k).1,x.aa,x.ak,x.az,x.seed,x.round,(fJ x k).2,x.cancelled⟩:aN).round), .own 14, .lit (.int .i64 (⟨x.rows,(fJ x k).1,x.aa,x.ak,x.az,x.seed,x.round,(fJ x k).2,x.cancelled⟩:aN).cancelled)], .a (.sl .aU ((uT (⟨x.rows,(fJ x k).1,x.aa,x.ak,x.az,x.seed,x.round,(fJ x k).2,x.cancelled⟩:aN).rows x.round ((⟨x.rows,(fJ x k).1,x.aa,x.ak,x.az,x.seed,x.round,(fJ x k).2,x.cancelled⟩:aN).aj,(⟨x.rows,(fJ x k).1,x.aa,x.ak,x.az,x.seed,x.round,(fJ x k).2,x.cancelled⟩:aN).replaced) (k:Int)).1)), .a (.sl .aL ((⟨x.rows,(fJ x k).1,x.aa,x.ak,x.az,x.seed,x.round,(fJ x k).2,x.cancelled⟩:aN).aa)), .a (.sl .aA ((⟨x.rows,(fJ x k).1,x.aa,x.ak,x.az,x.seed,x.round,(fJ x k).2,x.cancelled⟩:aN).ak.rounds)), .a (.sl .int ((uT (⟨x.rows,(fJ x k).1,x.aa,x.ak,x.az,x.seed,x.round,(fJ x k).2,x.cancelled⟩:aN).rows x.round ((⟨x.rows,(fJ x k).1,x.aa,x.ak,x.az,x.seed,x.round,(fJ x k).2,x.cancelled⟩:aN).aj,(⟨x.rows,(fJ x k).1,x.aa,x.ak,x.az,x.seed,x.round,(fJ x k).2,x.cancelled⟩:aN).replaced) (k:Int)).2))]⟩)] [1,2,3,4,5,7] [] rfl (by(repeat' with_reducible first|exact ah.nil|refine ah.mk ?_ ?_|apply And.intro)<;>first|exact(nY (⟨x.rows,(fJ x k).1,x.aa,x.ak,x.az,x.seed,x.round,(fJ x k).2,x.cancelled⟩:aN) x.round (k:Int) (by show(fJ x k).1.length≤4;omega) Nv htb.1 (by show(fJ x k).2.length≤_;omega) rfl)) ?_
    refine W.r0 X [1,2,3,4,5,7] rfl ⟨⟩ ?_
    refine⟨k+1,by omega,by omega,?_⟩
    rw[aV _ k rfl (by omega), ←hst]
    try rfl
   ·have Zl:TJ x k=false:=by rw[Zk]at aR;exact aR
    have hst:=IJ (x:=x) (n:=k) Zl
    refine W.skip ?_
    refine W.r0 X [1,2,3,4,5,7] rfl ⟨⟩ ?_
    refine⟨k+1,by omega,by omega,?_⟩
    rw[aV _ k rfl (by omega),hst]
    try rfl
  ·try simp only[nb,an,au,af]at aD
   refine W.exit ?_
   refine W.s0 X [2] rfl (by and_intros<;>exact⟨⟩) ?_
   refine W.ret ?_
   exact Fin.ret rfl (by and_intros<;>first|exact⟨⟩| (rw[hc];done)| (rw[hc,show k=x.aj.length by omega];done))
end
section
set_option maxRecDepth 100000
theorem fZ(x:aN)(hR:wR x):Sound ty Tryz.prog 13 [.agg (ay x)] [.agg (ay (cP x))]:=by
 refine Sound.o X Tryz.call13 Tryz.func13 Tryz.ntmps13 rfl rfl ?_
 intro zb
 obtain⟨h0,Ta⟩:=hR
 have qy:=qC h0
 refine W.s0 X [1,2] rfl ⟨⟩ ?_
 refine W.seq ?_
 refine W.sr X [] [(9,⟨false,[.a (.lit (.bool (okW x)))]⟩)] [1,2,15] [] rfl (by(repeat' with_reducible first|exact ah.nil|refine ah.mk ?_ ?_|apply And.intro)<;>first|exact(bM x)) ?_
 refine W.cond rfl (fun hb0=> ?_) (fun hb0=> ?_)
 ·have hk:jF x=false:=bD hb0 (by simp only[jF,aF]<;>first|rfl|ac_rfl)
  have hc:=E5 hk
  refine W.sr X [] [(17,⟨true,[.agg (ay x)]⟩)] [2] [] rfl (by(repeat' with_reducible first|exact ah.nil|refine ah.mk ?_ ?_|apply And.intro)<;>first|exact(cD x h0)) ?_
  refine W.ret ?_
  exact Fin.ret rfl (by and_intros<;>first|exact⟨⟩| (rw[hc];done))
 ·have hk:jF x=true:=bA hb0 (by simp only[jF,aF]<;>first|rfl|ac_rfl)
  have hc:=Dm hk
  obtain⟨hok,Zi⟩:=Gw hk
  have zZ:=pz hok
  have hcs:=De hok
  have Y5:=eu hok
  have XC:=Bp (aM x)
  have Zm:=dj (L5 _ XC)
  have Zh:=nj x.az (aM x) (bI (aM x)) (dF x) (aM x).length
  have oy:(bI (aM x)).length=(aM x).length:=List.length_map ..
  obtain⟨WV,Wj⟩:=Ml h0 hok Ta
  refine W.skip ?_
  refine W.sr X [] [(20,⟨true,[.a (.sl .aU (aM x)), .a (.sl .cU (dF x))]⟩)] [1,2,3,4] [] rfl (by(repeat' with_reducible first|exact ah.nil|refine ah.mk ?_ ?_|apply And.intro)<;>first|exact(sZ x h0)) ?_
  refine W.sr X [] [(24,⟨true,[.a (.sl .DB (bI (aM x)))]⟩)] [1,2,3,4,5] [] rfl (by(repeat' with_reducible first|exact ah.nil|refine ah.mk ?_ ?_|apply And.intro)<;>first|exact(xZ (aM x) (by omega))) ?_
  refine W.sr X [] [(27,⟨true,[.agg (aH (jw (bI (aM x)))), .a (.lit (.bool (AM (bI (aM x)))))]⟩)] [1,2,3,4,5,6] [] rfl (by(repeat' with_reducible first|exact ah.nil|refine ah.mk ?_ ?_|apply And.intro)<;>first|exact(td (bI (aM x)) (by omega) XC)) ?_
  refine W.sd X [(38,60),(39,100),(40,150)] [(36,⟨true,[.a (.sl .int (dU x.az (aM x) (bI (aM x)) (dF x) (aM x).length))]⟩),(38,⟨true,[.agg [.lit (.int .i64 (bz x (dU x.az (aM x) (bI (aM x)) (dF x) (aM x).length) (jw (bI (aM x)))).rows), .sl .aU (bz x (dU x.az (aM x) (bI (aM x)) (dF x) (aM x).length) (jw (bI (aM x)))).aj, .sl .aL (bz x (dU x.az (aM x) (bI (aM x)) (dF x) (aM x).length) (jw (bI (aM x)))).aa, .lit (.int .i64 (bz x (dU x.az (aM x) (bI (aM x)) (dF x) (aM x).length) (jw (bI (aM x)))).ak.rows), .vw 0 none .aA (bz x (dU x.az (aM x) (bI (aM x)) (dF x) (aM x).length) (jw (bI (aM x)))).ak.rounds, .lit (.int .i64 (bz x (dU x.az (aM x) (bI (aM x)) (dF x) (aM x).length) (jw (bI (aM x)))).az), .lit (.int .i64 (bz x (dU x.az (aM x) (bI (aM x)) (dF x) (aM x).length) (jw (bI (aM x)))).seed), .lit (.int .i64 (bz x (dU x.az (aM x) (bI (aM x)) (dF x) (aM x).length) (jw (bI (aM x)))).round), .sl .int (bz x (dU x.az (aM x) (bI (aM x)) (dF x) (aM x).length) (jw (bI (aM x)))).replaced, .lit (.int .i64 (bz x (dU x.az (aM x) (bI (aM x)) (dF x) (aM x).length) (jw (bI (aM x)))).cancelled)]]⟩),(39,⟨true,[.agg (ay (testW (bz x (dU x.az (aM x) (bI (aM x)) (dF x) (aM x).length) (jw (bI (aM x))))))]⟩),(40,⟨true,[.agg (ay (LO (testW (bz x (dU x.az (aM x) (bI (aM x)) (dF x) (aM x).length) (jw (bI (aM x)))))))]⟩)] [2] [] 11 MO (by kernel_rfl) rfl (by(repeat' with_reducible first|exact ah.nil|refine ah.mk ?_ ?_|apply And.intro);(iterate 4 all_goals try first|exact(xY x.az (aM x) (bI (aM x)) (dF x) (by omega) hcs (L0 _))|exact(yj x (dU x.az (aM x) (bI (aM x)) (dF x) (aM x).length) (jw (bI (aM x))) h0 (by omega) Zm)|exact(vV (bz x (dU x.az (aM x) (bI (aM x)) (dF x) (aM x).length) (jw (bI (aM x)))) WV)|exact(zL (testW (bz x (dU x.az (aM x) (bI (aM x)) (dF x) (aM x).length) (jw (bI (aM x))))) Wj))) ?_
  refine W.ret ?_
  exact Fin.ret rfl (by and_intros<;>first|exact⟨⟩| (rw[hc];done))
theorem AU(x:aN)(hR:wR x)(hok:okW x=true):Sound ty Tryz.prog 43 [.agg (ay x)] [.agg (ay (LO (testW (bz x (dU x.az (aM x) (bI (aM x)) (dF x) (aM x).length) (jw (bI (aM x)))))))]:=by
 refine Sound.o X Tryz.call43 Tryz.func43 Tryz.ntmps43 rfl rfl ?_
 intro zb
 obtain⟨h0,Ta⟩:=hR
 have qy:=qC h0
 have zZ:=pz hok
 have hcs:=De hok
 have Y5:=eu hok
 have XC:=Bp (aM x)
 have Zm:=dj (L5 _ XC)
 have Zh:=nj x.az (aM x) (bI (aM x)) (dF x) (aM x).length
 have oy:(bI (aM x)).length=(aM x).length:=List.length_map ..
 obtain⟨WV,Wj⟩:=Ml h0 hok Ta
 refine W.s0 X [1,2] rfl ⟨⟩ ?_
 refine W.sr X [] [(10,⟨true,[.a (.sl .aU (aM x)), .a (.sl .cU (dF x))]⟩)] [1,2,3,4] [] rfl (by(repeat' with_reducible first|exact ah.nil|refine ah.mk ?_ ?_|apply And.intro)<;>first|exact(s6 x h0)) ?_
 refine W.sr X [] [(14,⟨true,[.a (.sl .DB (bI (aM x)))]⟩)] [1,2,3,4,5] [] rfl (by(repeat' with_reducible first|exact ah.nil|refine ah.mk ?_ ?_|apply And.intro)<;>first|exact(yc (aM x) (by omega))) ?_
 refine W.sr X [] [(17,⟨true,[.agg (aH (jw (bI (aM x)))), .a (.lit (.bool (AM (bI (aM x)))))]⟩)] [1,2,3,4,5,6] [] rfl (by(repeat' with_reducible first|exact ah.nil|refine ah.mk ?_ ?_|apply And.intro)<;>first|exact(tj (bI (aM x)) (by omega) XC)) ?_
 refine W.sd X [(28,60),(29,100),(30,150)] [(26,⟨true,[.a (.sl .int (dU x.az (aM x) (bI (aM x)) (dF x) (aM x).length))]⟩),(28,⟨true,[.agg [.lit (.int .i64 (bz x (dU x.az (aM x) (bI (aM x)) (dF x) (aM x).length) (jw (bI (aM x)))).rows), .sl .aU (bz x (dU x.az (aM x) (bI (aM x)) (dF x) (aM x).length) (jw (bI (aM x)))).aj, .sl .aL (bz x (dU x.az (aM x) (bI (aM x)) (dF x) (aM x).length) (jw (bI (aM x)))).aa, .lit (.int .i64 (bz x (dU x.az (aM x) (bI (aM x)) (dF x) (aM x).length) (jw (bI (aM x)))).ak.rows), .vw 0 none .aA (bz x (dU x.az (aM x) (bI (aM x)) (dF x) (aM x).length) (jw (bI (aM x)))).ak.rounds, .lit (.int .i64 (bz x (dU x.az (aM x) (bI (aM x)) (dF x) (aM x).length) (jw (bI (aM x)))).az), .lit (.int .i64 (bz x (dU x.az (aM x) (bI (aM x)) (dF x) (aM x).length) (jw (bI (aM x)))).seed), .lit (.int .i64 (bz x (dU x.az (aM x) (bI (aM x)) (dF x) (aM x).length) (jw (bI (aM x)))).round), .sl .int (bz x (dU x.az (aM x) (bI (aM x)) (dF x) (aM x).length) (jw (bI (aM x)))).replaced, .lit (.int .i64 (bz x (dU x.az (aM x) (bI (aM x)) (dF x) (aM x).length) (jw (bI (aM x)))).cancelled)]]⟩),(29,⟨true,[.agg (ay (testW (bz x (dU x.az (aM x) (bI (aM x)) (dF x) (aM x).length) (jw (bI (aM x))))))]⟩),(30,⟨true,[.agg (ay (LO (testW (bz x (dU x.az (aM x) (bI (aM x)) (dF x) (aM x).length) (jw (bI (aM x)))))))]⟩)] [2] [] 11 MO (by kernel_rfl) rfl (by(repeat' with_reducible first|exact ah.nil|refine ah.mk ?_ ?_|apply And.intro);(iterate 4 all_goals try first|exact(ya x.az (aM x) (bI (aM x)) (dF x) (by omega) hcs (L0 _))|exact(yl x (dU x.az (aM x) (bI (aM x)) (dF x) (aM x).length) (jw (bI (aM x))) h0 (by omega) Zm)|exact(vW (bz x (dU x.az (aM x) (bI (aM x)) (dF x) (aM x).length) (jw (bI (aM x)))) WV)|exact(zN (testW (bz x (dU x.az (aM x) (bI (aM x)) (dF x) (aM x).length) (jw (bI (aM x))))) Wj))) ?_
 refine W.ret ?_
 exact Fin.ret rfl ⟨rfl,rfl,rfl,rfl,rfl,rfl,rfl,rfl,rfl,rfl,⟨⟩⟩
theorem iQ(x:aN)(hR:wR x):Sound ty Tryz.prog 11 [.agg (ay x)] [.agg (ay (cP x))]:=by
 refine Sound.o X Tryz.call11 Tryz.func11 Tryz.ntmps11 rfl rfl ?_
 intro zb
 have h0:=hR.1
 refine W.s0 X [1,2] rfl ⟨⟩ ?_
 refine W.seq ?_
 refine W.sr X [] [(4,⟨false,[.a (.lit (.bool (okW x)))]⟩)] [1,2,10] [] rfl (by(repeat' with_reducible first|exact ah.nil|refine ah.mk ?_ ?_|apply And.intro)<;>first|exact(bY x)) ?_
 refine W.cond rfl (fun hb0=> ?_) (fun hb0=> ?_)
 ·have hk:jF x=false:=bD hb0 (by simp only[jF,aF]<;>first|rfl|ac_rfl)
  have hc:=E5 hk
  refine W.sr X [] [(12,⟨true,[.agg (ay x)]⟩)] [2] [] rfl (by(repeat' with_reducible first|exact ah.nil|refine ah.mk ?_ ?_|apply And.intro)<;>first|exact(bT x h0)) ?_
  refine W.ret ?_
  exact Fin.ret rfl (by and_intros<;>first|exact⟨⟩| (rw[hc];done))
 ·have hk:jF x=true:=bA hb0 (by simp only[jF,aF]<;>first|rfl|ac_rfl)
  have hc:=Dm hk
  obtain⟨hok,Zi⟩:=Gw hk
  refine W.skip ?_
  refine W.sr X [] [(14,⟨true,[.agg (ay (LO (testW (bz x (dU x.az (aM x) (bI (aM x)) (dF x) (aM x).length) (jw (bI (aM x)))))))]⟩)] [2] [] rfl (by(repeat' with_reducible first|exact ah.nil|refine ah.mk ?_ ?_|apply And.intro)<;>first|exact(AU x hR hok)) ?_
  refine W.ret ?_
  exact Fin.ret rfl (by and_intros<;>first|exact⟨⟩| (rw[hc];done))
end
end Go.Proofs.YtmcgjpdljafkeaaGreat.G
