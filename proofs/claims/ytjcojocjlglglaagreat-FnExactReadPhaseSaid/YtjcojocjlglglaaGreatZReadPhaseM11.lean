/-
  FnExactReadPhase, walked by the symbolic machine: it returns true.
-/
import Derived.Test.YtjcojocjlglglaaGreatZReadPhaseM9
import Derived.Test.YtjcojocjlglglaaGreatZReadPhaseM10
import Derived.Test.YtjcojocjlglglaaGreatZReadPhaseM7
import Derived.Test.YtjcojocjlglglaaGreatZReadPhaseM8
namespace Go.Proofs.YtjcojocjlglglaaGreat.G
set_option linter.all false
open Go.RowKit L D
set_option maxRecDepth 100000
theorem lJ(key c:Int)(cell:List UInt8):Sound ty Tryz.prog 271 [.a (.lit (.int .i64 key)), .a (.lit (.int .i64 c)), .a (.sl .u8 cell)] [.agg (cO (BK key c cell)), .a (.lit (.bool (hJ key c cell)))]:=by
 refine Sound.of X Tryz.call271 Tryz.func271 rfl rfl (by decide) Tryz.ntmps271 (by simp) ?_
 intro zb
 refine W.bound 2 rfl (fun nq=> ?_)
 refine W.seq ?_
 refine W.af X [] [] [0,1,2,6] [] rfl ⟨⟩ ?_
 refine W.seq ?_
 refine W.seq ?_
 refine W.draw X [] [(11,⟨false,[.a (.lit (.bool (gm key)))]⟩),(15,⟨false,[.a (.lit (.bool (inr c 0 1000000000000)))]⟩),(30,⟨false,[.a (.sl .u8 (four (eV key c ((cell.take (20:Int).toNat).drop (0:Int).toNat))))]⟩),(31,⟨false,[.a (.lit (.bool (((cell.take (cell.length:Int).toNat).drop (20:Int).toNat)==(four (eV key c ((cell.take (20:Int).toNat).drop (0:Int).toNat))))))]⟩)] [0,1,2,6,33] [] 24 MO (by kernel_rfl) rfl (by(repeat' (first|with_reducible exact ak.nil|with_reducible refine ak.mk ?_ ?_|with_reducible apply And.intro))<;>skip;(iterate 4 (all_goals try (first|exact(eu key)|exact fun _=>(aK c 0 1000000000000)|exact fun _=>(jA key c ((cell.take (20:Int).toNat).drop (0:Int).toNat) (by rw[List.length_drop,List.length_take];omega))|exact fun _=>(fm ((cell.take (cell.length:Int).toNat).drop (20:Int).toNat) (four (eV key c ((cell.take (20:Int).toNat).drop (0:Int).toNat)))))));all_goals (first| ((intro h1;first| (intro h2;first| (intro h3;refine And.intro ?_ ?_)|refine And.intro ?_ ?_)|refine And.intro ?_ ?_)<;>first|omega| ((try simp only[nb,an,av]at*);(try simp(disch:=omega) only[bZ]);omega)))) ?_
 refine W.cond rfl (fun hb0=> ?_) (fun hb0=> ?_)
 ·have hA:BJ key c cell=false:=cj hb0 (by simp only[BJ,List.drop_zero,Int.reduceToNat,List.take_length,aI,aJ,gt_iff_lt,ge_iff_le,aC,aD,bne_not,cX,decide_not,ne_eq,Bool.not_and,Bool.not_or,Bool.not_not,Bool.and_true,Bool.true_and,Bool.or_false,Bool.false_or,Int.toNat_natCast]<;>first|rfl|ac_rfl)
  have hk:=CQ hA
  refine W.seq ?_
  refine W.af X [] [] [6,7] [] rfl (by(repeat' (first|exact True.intro|apply And.intro))) ?_
  refine W.ret ?_
  exact Fin.ret rfl ⟨by rw[iC hk],by rw[iC hk],by rw[hk],⟨⟩⟩
 ·have hA:BJ key c cell=true:=cg hb0 (by simp only[BJ,List.drop_zero,Int.reduceToNat,List.take_length,aI,aJ,gt_iff_lt,ge_iff_le,aC,aD,bne_not,cX,decide_not,ne_eq,Bool.not_and,Bool.not_or,Bool.not_not,Bool.and_true,Bool.true_and,Bool.or_false,Bool.false_or,Int.toNat_natCast]<;>first|rfl|ac_rfl)
  obtain⟨Q9,xK⟩:=zO hA
  refine W.skip ?_
  refine W.seq ?_
  refine W.draw X [] [(37,⟨false,[.a (.lit (.int .i64 (gG key c)))]⟩),(40,⟨true,[.a (.sl .u8 (decr (gG key c) ((cell.take (20:Int).toNat).drop (0:Int).toNat)))]⟩)] [6,8] [] 7 MO (by kernel_rfl) rfl (by(repeat' (first|with_reducible exact ak.nil|with_reducible refine ak.mk ?_ ?_|with_reducible apply And.intro))<;>skip;(iterate 2 (all_goals try (first|exact(mI key c)|exact(vT (gG key c) ((cell.take (20:Int).toNat).drop (0:Int).toNat) (by rw[List.length_drop,List.length_take];omega)))));all_goals (first| (intros;omega))) ?_
  rw[HS]
  refine W.seq ?_
  refine W.seq ?_
  refine W.af X [] [] [6,8,45] [] rfl (by(repeat' (first|exact True.intro|apply And.intro))<;>first| (intros;omega)) ?_
  refine W.cond rfl (fun aH=> ?_) (fun aH=> ?_)
  ·try simp only[nb,an,av,aa]at aH
   rw[E7]at aH
   have JN:14<wP key c cell:=by have h:(14:Int)<(wP key c cell:Int):=aH;omega
   have hk:=Kl JN
   refine W.seq ?_
   refine W.af X [] [] [6,7] [] rfl (by(repeat' (first|exact True.intro|apply And.intro))) ?_
   refine W.ret ?_
   exact Fin.ret rfl ⟨by rw[iC hk],by rw[iC hk],by rw[hk],⟨⟩⟩
  ·try simp only[nb,an,av,aa]at aH
   rw[E7]at aH
   have JN:wP key c cell≤14:=by have h:(wP key c cell:Int)≤14:=aH;omega
   have O6:((wN key c cell).getD (Int.toNat 1) (au .u8)).toNat≤14:=JN
   have FO:=zP hA JN
   have hpk:=Nw hA JN
   have Ic:=CP key c cell
   refine W.skip ?_
   refine W.seq ?_
   refine W.draw X [] [(58,⟨true,[.a (.sl .u8 (((wN key c cell).take (IntKind.i64.wrap (2+IntKind.i64.wrap (((wN key c cell).getD (Int.toNat 1) (au .u8)).toNat:Int))).toNat).drop (Int.toNat 2)))]⟩)] [6,9] [] 14 MO (by kernel_rfl) rfl (by(repeat' (first|with_reducible exact ak.nil|with_reducible refine ak.mk ?_ ?_|with_reducible apply And.intro))<;>skip;(iterate 1 (all_goals try (first|exact(bI (((wN key c cell).take (IntKind.i64.wrap (2+IntKind.i64.wrap (((wN key c cell).getD (Int.toNat 1) (au .u8)).toNat:Int))).toNat).drop (Int.toNat 2)) (by rw[Ic,FO];omega)))));all_goals (first| (intros;omega)| ((try simp only[nb,an,av]at*);(simp(disch:=omega) only[bZ]);omega))) ?_
   rw[CP,E7]
   refine W.seq ?_
   refine W.seq ?_
   refine W.af X [] [(61,⟨false,[.a (.lit (.bool (gk (⟨Ih key c cell,Kk key c cell⟩:Plain))))]⟩)] [6,9,62] [] rfl (by(repeat' (first|with_reducible exact ak.nil|with_reducible refine ak.mk ?_ ?_|with_reducible apply And.intro))<;>skip;(iterate 1 (all_goals try (first|exact(iD (⟨Ih key c cell,Kk key c cell⟩:Plain)))))) ?_
   refine W.cond rfl (fun bk=> ?_) (fun bk=> ?_)
   ·have hk:hJ key c cell=false:=by rw[←hpk];simpa using bk
    refine W.seq ?_
    refine W.af X [] [] [6,7] [] rfl (by(repeat' (first|exact True.intro|apply And.intro))) ?_
    refine W.ret ?_
    exact Fin.ret rfl ⟨by rw[iC hk],by rw[iC hk],by rw[hk],⟨⟩⟩
   ·have hk:hJ key c cell=true:=by rw[←hpk];simpa using bk
    refine W.skip ?_
    refine W.seq ?_
    refine W.af X [] [] [6,7] [] rfl (by(repeat' (first|exact True.intro|apply And.intro))) ?_
    refine W.ret ?_
    exact Fin.ret rfl ⟨by rw[ue hk];rfl,by rw[ue hk],by rw[hk],⟨⟩⟩
theorem lK(key c:Int)(cell:List UInt8):Sound ty Tryz.prog 253 [.a (.lit (.int .i64 key)), .a (.lit (.int .i64 c)), .a (.sl .u8 cell)] [.agg (cO (BK key c cell)), .a (.lit (.bool (hJ key c cell)))]:=by
 refine Sound.of X Tryz.call253 Tryz.func253 rfl rfl (by decide) Tryz.ntmps253 (by simp) ?_
 intro zb
 refine W.bound 2 rfl (fun nq=> ?_)
 refine W.seq ?_
 refine W.af X [] [] [0,1,2,6] [] rfl ⟨⟩ ?_
 refine W.seq ?_
 refine W.seq ?_
 refine W.af X [] [(11,⟨false,[.a (.lit (.bool (gm key)))]⟩),(15,⟨false,[.a (.lit (.bool (inr c 0 1000000000000)))]⟩)] [0,1,2,6,22] [] rfl (by(repeat' (first|with_reducible exact ak.nil|with_reducible refine ak.mk ?_ ?_|with_reducible apply And.intro))<;>skip;(iterate 2 (all_goals try (first|exact(ew key)|exact fun _=>(aX c 0 1000000000000))))) ?_
 refine W.cond rfl (fun hb0=> ?_) (fun hb0=> ?_)
 ·have hH:Km key c cell=false:=cj hb0 (by simp only[Km,aI,aJ,gt_iff_lt,ge_iff_le,aC,aD,bne_not,cX,decide_not,ne_eq,Bool.not_and,Bool.not_or,Bool.not_not,Bool.and_true,Bool.true_and,Bool.or_false,Bool.false_or,Int.toNat_natCast]<;>first|rfl|ac_rfl)
  have hk:=LX hH
  refine W.seq ?_
  refine W.af X [] [] [6,7] [] rfl (by(repeat' (first|exact True.intro|apply And.intro))) ?_
  refine W.ret ?_
  exact Fin.ret rfl ⟨by rw[iC hk],by rw[iC hk],by rw[hk],⟨⟩⟩
 ·have hH:Km key c cell=true:=cg hb0 (by simp only[Km,aI,aJ,gt_iff_lt,ge_iff_le,aC,aD,bne_not,cX,decide_not,ne_eq,Bool.not_and,Bool.not_or,Bool.not_not,Bool.and_true,Bool.true_and,Bool.or_false,Bool.false_or,Int.toNat_natCast]<;>first|rfl|ac_rfl)
  obtain⟨hk1,hk2,xK⟩:=Ny hH
  have Nz:=JL hk1 hk2 xK
  refine W.skip ?_
  refine W.seq ?_
  refine W.draw X [] [] [0,1,2,6,8] [] 23 MO (by kernel_rfl) rfl (by(repeat' (first|exact True.intro|apply And.intro))<;>first| (intros;omega)) ?_
  rw[JK]
  refine W.seq ?_
  refine W.seq ?_
  refine W.af X [] [(51,⟨false,[.a (.lit (.int .i64 (eV key c ((cell.take (20:Int).toNat).drop (0:Int).toNat))))]⟩)] [0,1,2,6,52] [] rfl (by(repeat' (first|with_reducible exact ak.nil|with_reducible refine ak.mk ?_ ?_|with_reducible apply And.intro))<;>skip;(iterate 1 (all_goals try (first|exact(kg key c ((cell.take (20:Int).toNat).drop (0:Int).toNat) (by rw[List.length_drop,List.length_take];omega)))));all_goals (first| (intros;omega))) ?_
  refine W.cond rfl (fun aH=> ?_) (fun aH=> ?_)
  ·try simp only[nb,an,av,aa]at aH
   have hA:BJ key c cell=false:=by rw[Nz,decide_eq_false_iff_not];intro h;exact aH (by rw[h];simp)
   have hk:=CQ hA
   refine W.seq ?_
   refine W.af X [] [] [6,7] [] rfl (by(repeat' (first|exact True.intro|apply And.intro))) ?_
   refine W.ret ?_
   exact Fin.ret rfl ⟨by rw[iC hk],by rw[iC hk],by rw[hk],⟨⟩⟩
  ·try simp only[nb,an,av,aa]at aH
   have hA:BJ key c cell=true:=by rw[Nz,decide_eq_true_eq,aH];simp
   obtain⟨Q9,_⟩:=zO hA
   refine W.skip ?_
   refine W.seq ?_
   refine W.draw X [] [(56,⟨false,[.a (.lit (.int .i64 (gG key c)))]⟩),(59,⟨true,[.a (.sl .u8 (decr (gG key c) ((cell.take (20:Int).toNat).drop (0:Int).toNat)))]⟩)] [6,9] [] 7 MO (by kernel_rfl) rfl (by(repeat' (first|with_reducible exact ak.nil|with_reducible refine ak.mk ?_ ?_|with_reducible apply And.intro))<;>skip;(iterate 2 (all_goals try (first|exact(kj key c)|exact(vV (gG key c) ((cell.take (20:Int).toNat).drop (0:Int).toNat) (by rw[List.length_drop,List.length_take];omega)))));all_goals (first| (intros;omega))) ?_
   rw[HS]
   refine W.seq ?_
   refine W.seq ?_
   refine W.af X [] [] [6,9,71] [] rfl (by(repeat' (first|exact True.intro|apply And.intro))<;>first| (intros;omega)| ((intro h1;first| (intro h2;first| (intro h3;refine And.intro ?_ ?_)|refine And.intro ?_ ?_)|refine And.intro ?_ ?_)<;>first|omega| ((try simp only[nb,an,av]at*);(try simp(disch:=omega) only[bZ]);omega))| (refine fun _=> ?_;dsimp only[hyps,FI];omega)) ?_
   refine W.cond rfl (fun bk=> ?_) (fun bk=> ?_)
   ·try simp only[nb,an,av,aa]at bk
    rw[E7,E7]at bk
    have hk:hJ key c cell=false:=by
     rcases bk with h|h
     ·exact LR h
     ·exact Kl (by have h:(14:Int)<(wP key c cell:Int):=h;omega)
    refine W.seq ?_
    refine W.af X [] [] [6,7] [] rfl (by(repeat' (first|exact True.intro|apply And.intro))) ?_
    refine W.ret ?_
    exact Fin.ret rfl ⟨by rw[iC hk],by rw[iC hk],by rw[hk],⟨⟩⟩
   ·try simp only[nb,an,av,aa]at bk
    rw[E7,E7]at bk
    have JN:wP key c cell≤14:=by have h:(wP key c cell:Int)≤14:=bk.2;omega
    have O6:((wN key c cell).getD (Int.toNat 1) (au .u8)).toNat≤14:=JN
    have FO:=zP hA JN
    have hk:hJ key c cell=true:=Nx hA JN bk.1
    have Ic:=CP key c cell
    refine W.skip ?_
    refine W.seq ?_
    refine W.mU X [(85,77)] [] [6,7] [] 45055 (.ph 4095 (.br 4095 12 (.ph 8192 (.br 8192 14 (.last 32768) (.nil))) (.br 4087 12 (.ph 8200 (.br 8200 14 (.last 32768) (.nil))) (.br 4083 12 (.ph 8204 (.br 8204 14 (.last 32768) (.nil))) (.br 4081 12 (.ph 8206 (.br 8206 14 (.last 32768) (.nil))) (.br 4080 12 (.ph 8207 (.br 8207 14 (.last 32768) (.nil))) (.nil))))))) 4 MO (by kernel_rfl) rfl (by kernel_rfl) (by(repeat' (first|exact True.intro|apply And.intro))<;>first| (intros;omega)|exact rfl| ((try simp only[nb,an,av]at*);(simp(disch:=omega) only[bZ]);omega)| (simp only[cE,maxLen,lens];omega)) ?_
    refine W.ret ?_
    exact Fin.ret rfl ⟨by rw[ue hk];exact congrArg (Value.int IntKind.i64) (E7 _),by rw[ue hk];exact Ic,by rw[hk],⟨⟩⟩
theorem kD(a:gJ)(r:Int)(hz:a.rounds.length≤1048576∧ ∀y,y∈a.rounds→bY List.length y.db.rows≤1048576):Sound ty Tryz.prog 172 [.agg (bN a), .a (.lit (.int .i64 r))] [.agg (bR (fN a.rounds r)), .a (.lit (.bool (hU a.rounds r)))]:=by
 refine Sound.of X Tryz.call172 Tryz.func172 rfl rfl (by decide) Tryz.ntmps172 (by simp) ?_
 intro zb
 refine W.fI 0 1 rfl rfl (fun IM=> ?_)
 refine W.seq ?_
 refine W.af X [] [] [1,2,4] [] rfl ⟨⟩ ?_
 refine W.seq ?_
 refine W.seq ?_
 refine W.af X [] [] [1,4,9,10,11] [] rfl ⟨⟩ ?_
 refine W.block ?_
 refine W.aP (fun k=>k≤a.rounds.length∧(a.rounds.take k).any (Kj r)=false) (fun k:Nat=> [(11, .one (.a (.lit (.int .i64 k))))]) (fun k=> []) (fun k=>a.rounds.length-k) 0 (fun k=>rfl) ⟨Nat.zero_le _,rfl⟩ rfl ?_
 rintro k ⟨hk,hall⟩
 refine W.seq ?_
 refine W.af X [] [] [1,4,9,10,11,12] [] rfl ⟨⟩ ?_
 refine W.seq ?_
 refine W.cond rfl (fun hb0=> ?_) (fun hb0=> ?_)
 ·try simp only[nb,an,av,aa]at hb0
  refine W.skip ?_
  refine W.seq ?_
  refine W.block ?_
  refine W.seq ?_
  refine W.af X [] [] [1,4,7,9,10,11] [] rfl (by(repeat' (first|exact True.intro|apply And.intro))<;>first| (intros;omega)) ?_
  refine W.seq ?_
  refine W.af X [] [] [1,4,7,9,10,11,18] [] rfl ⟨⟩ ?_
  refine W.cond rfl (fun aH=> ?_) (fun aH=> ?_)
  ·have hh:=HM hb0 hall aH
   refine W.seq ?_
   refine W.af X [] [(21,⟨true,[.agg (bR ((a.rounds.getD k (au .az)).db))]⟩)] [4,5] [] rfl (by(repeat' (first|with_reducible exact ak.nil|with_reducible refine ak.mk ?_ ?_|with_reducible apply And.intro))<;>skip;(iterate 1 (all_goals try (first|exact(eY ((a.rounds.getD k (au .az)).db) (hz.2 _ (getD_in _ hb0))))))) ?_
   refine W.ret ?_
   exact Fin.ret rfl ⟨by rw[hh.2],by rw[hh.1],⟨⟩⟩
  ·skip
   refine W.skip ?_
   refine W.af X [] [] [1,4,9,10,11] [] rfl ⟨⟩ ?_
   refine⟨k+1,⟨by omega,vX (au .az) hb0 hall aH⟩,by omega,?_⟩
   rw[bn _ k rfl (by omega)]
   try rfl
 ·try simp only[nb,an,av,aa]at hb0
  refine W.exit ?_
  refine W.seq ?_
  refine W.af X [] [] [4,5] [] rfl (by(repeat' (first|exact True.intro|apply And.intro))) ?_
  refine W.ret ?_
  exact Fin.ret rfl ⟨by rw[(tZ (by rw[←hall,List.take_of_length_le hb0])).2],by rw[(tZ (by rw[←hall,List.take_of_length_le hb0])).1],⟨⟩⟩
theorem sj(rows:List (List UInt8))(v:List Int)(hr: ∀r,r∈rows→r.length≤1048576):Sound ty Tryz.prog 359 [.a (.sl (.sl .u8) rows), .a (.sl .int v)] [.a (.sl .u8 (qB rows v))]:=by
 refine Sound.of X Tryz.call359 Tryz.func359 rfl rfl (by decide) Tryz.ntmps359 (by simp) ?_
 intro zb
 refine W.bound 0 rfl (fun Of=> ?_)
 refine W.bound 1 rfl (fun lU=> ?_)
 refine W.seq ?_
 refine W.af X [] [] [0,1] [] rfl ⟨⟩ ?_
 refine W.seq ?_
 refine W.af X [] [] [0,1,5] [] rfl (by(repeat' (first|exact True.intro|apply And.intro))<;>first|exact rfl) ?_
 refine W.seq ?_
 refine W.seq ?_
 refine W.af X [] [] [1,5,9,10,11] [] rfl ⟨⟩ ?_
 refine W.block ?_
 refine W.aP (fun k=>k≤rows.length) (fun k:Nat=> [(11, .one (.a (.lit (.int .i64 k))))]) (fun k=> [(8, .arr .u8 (lG rows v k))]) (fun k=>rows.length-k) 0 (fun k=>rfl) (Nat.zero_le _) rfl ?_
 intro k hk
 have hle:=mX v hr k hk
 refine W.seq ?_
 refine W.af X [] [] [1,5,9,10,11,12] [] rfl ⟨⟩ ?_
 refine W.seq ?_
 refine W.cond rfl (fun hb0=> ?_) (fun hb0=> ?_)
 ·try simp only[nb,an,av,aa]at hb0
  have hel:=hr _ (getD_in (au (.sl .u8)) hb0)
  refine W.skip ?_
  refine W.seq ?_
  refine W.block ?_
  refine W.seq ?_
  refine W.af X [] [] [1,5,6,7,9,10,11] [] rfl (by(repeat' (first|exact True.intro|apply And.intro))<;>first| (intros;omega)) ?_
  refine W.seq ?_
  refine W.af X [] [] [1,5,7,9,10,11,26] [] rfl (by(repeat' (first|exact True.intro|apply And.intro))<;>first| ((intro h1;first| (intro h2;first| (intro h3;refine And.intro ?_ ?_)|refine And.intro ?_ ?_)|refine And.intro ?_ ?_)<;>first|omega| ((try simp only[nb,an,av]at*);(try simp(disch:=omega) only[bZ]);omega))) ?_
  refine W.cond rfl (fun aH=> ?_) (fun aH=> ?_)
  ·try simp only[nb,an,av,aa]at aH
   have hs:=qC (rows:=rows) aH.1 aH.2
   refine W.af X [] [(29,⟨true,[.a (.sl .u8 (cC (lG rows v k) (rows.getD k (au (.sl .u8)))))]⟩)] [1,5,9,10,11] [] rfl (by(repeat' (first|with_reducible exact ak.nil|with_reducible refine ak.mk ?_ ?_|with_reducible apply And.intro))<;>skip;(iterate 1 (all_goals try (first|exact(iw (lG rows v k) (rows.getD k (au (.sl .u8))) (by first|assumption|omega| (simp;done)| (simp;omega)) (by first|assumption|omega| (simp;done)| (simp;omega))))))) ?_
   refine W.rename 5 8 rfl ?_
   refine W.af X [] [] [1,5,9,10,11] [] rfl ⟨⟩ ?_
   refine⟨k+1,by omega,by omega,?_⟩
   rw[bn _ k rfl (by omega),hs]
   try rfl
  ·try simp only[nb,an,av,aa]at aH
   have hs:=kC (rows:=rows) (v:=v) (k:=k) (by omega)
   refine W.skip ?_
   refine W.af X [] [] [1,5,9,10,11] [] rfl ⟨⟩ ?_
   refine⟨k+1,by omega,by omega,?_⟩
   rw[bn _ k rfl (by omega),hs]
   try rfl
 ·try simp only[nb,an,av,aa]at hb0
  refine W.exit ?_
  refine W.seq ?_
  refine W.af X [] [] [4] [] rfl ⟨⟩ ?_
  refine W.ret ?_
  exact Fin.ret rfl ⟨by rw[Bp hk (Or.inl hb0)],⟨⟩⟩
theorem o7(d:DB)(v:List Int):Sound ty Tryz.prog 296 [.agg (bR d), .a (.sl .int v)] [.a (.sl .u8 (dY d v))]:=by
 refine Sound.of X Tryz.call296 Tryz.func296 rfl rfl (by decide) Tryz.ntmps296 (by simp) ?_
 intro zb
 refine W.seq ?_
 refine W.af X [] [] [1,2] [] rfl ⟨⟩ ?_
 refine W.seq ?_
 refine W.seq ?_
 refine W.af X [] [(6,⟨false,[.a (.lit (.bool (iz d)))]⟩),(13,⟨false,[.a (.lit (.bool (eI v (d.rows.length:Int))))]⟩)] [1,2,15] [] rfl (by(repeat' (first|with_reducible exact ak.nil|with_reducible refine ak.mk ?_ ?_|with_reducible apply And.intro))<;>skip;(iterate 2 (all_goals try (first|exact(dV d)|exact fun _=>(fL v (d.rows.length:Int)))))) ?_
 refine W.cond rfl (fun hb0=> ?_) (fun hb0=> ?_)
 ·have hk:(iz d&&eI v d.rows.length)=false:=cj hb0 (by simp only[aI,aJ,gt_iff_lt,ge_iff_le,aC,aD,bne_not,cX,decide_not,ne_eq,Bool.not_and,Bool.not_or,Bool.not_not,Bool.and_true,Bool.true_and,Bool.or_false,Bool.false_or,Int.toNat_natCast]<;>first|rfl|ac_rfl)
  refine W.seq ?_
  refine W.af X [] [] [4] [] rfl ⟨⟩ ?_
  refine W.ret ?_
  exact Fin.ret rfl ⟨by rw[dY,hk];rfl,⟨⟩⟩
 ·have hk:(iz d&&eI v d.rows.length)=true:=cg hb0 (by simp only[aI,aJ,gt_iff_lt,ge_iff_le,aC,aD,bne_not,cX,decide_not,ne_eq,Bool.not_and,Bool.not_or,Bool.not_not,Bool.and_true,Bool.true_and,Bool.or_false,Bool.false_or,Int.toNat_natCast]<;>first|rfl|ac_rfl)
  have hkk:=hk
  rw[Bool.and_eq_true]at hkk
  have NA: ∀r,r∈d.rows→r.length≤1048576:=fun r hr=>by rw[(wq.1 hkk.1).2 r hr];decide
  have hxl:(qB d.rows v).length≤1048576:=mX v NA d.rows.length (Nat.le_refl _)
  refine W.skip ?_
  refine W.seq ?_
  refine W.draw X [] [(20,⟨true,[.a (.sl .u8 (qB d.rows v))]⟩),(21,⟨true,[.a (.sl .u8 (cC Kc (qB d.rows v)))]⟩)] [4] [] 7 MO (by kernel_rfl) rfl ⟨iw Kc (qB d.rows v) (by rw[zI];decide) hxl,sj d.rows v NA,⟨rfl,bS _ (by decide)⟩,rfl,by omega,⟨by decide,by decide⟩,⟨⟩⟩ ?_
  refine W.ret ?_
  exact Fin.ret rfl ⟨by rw[dY,if_pos hk],⟨⟩⟩
theorem sk(key:Int)(a:bw)(h1:a.selection.length≤262144)(h2:a.data.length≤262144):Sound ty Tryz.prog 334 [.a (.lit (.int .i64 key)), .agg (dF a)] [.a (.lit (.int .i64 (xj key a.server a.round a.selection a.data)))]:=by
 refine Sound.of X Tryz.call334 Tryz.func334 rfl rfl (by decide) Tryz.ntmps334 (by simp) ?_
 intro zb
 refine W.seq ?_
 refine W.af X [] [] [0,3] [] rfl ⟨⟩ ?_
 refine W.seq ?_
 refine W.mU X [] [(18,⟨true,[.a (.sl .int (ES a.data))]⟩),(20,⟨true,[.a (.sl .int [[191,a.server,a.round,(a.selection.length:Int)],a.selection,ES a.data].flatten)]⟩),(21,⟨false,[.a (.lit (.int .i64 (kh key ([[191,a.server,a.round,(a.selection.length:Int)],a.selection,ES a.data].flatten))))]⟩)] [4] [] 245759 (.ph 16383 (.br 16383 14 (.last 229376) (.br 16382 14 (.last 229377) (.nil)))) 1 MO (by kernel_rfl) rfl (by kernel_rfl) (by(repeat' (first|with_reducible exact ak.nil|with_reducible refine ak.mk ?_ ?_|with_reducible apply And.intro))<;>skip;(iterate 3 (all_goals try (first|exact(oQ a.data (by omega))|exact(fU [[191,a.server,a.round,(a.selection.length:Int)],a.selection,ES a.data] (by simp) (by simp[tY];omega))|exact(bB key ([[191,a.server,a.round,(a.selection.length:Int)],a.selection,ES a.data].flatten) (by simp[tY];omega)))));all_goals (first|exact rfl|exact⟨rfl,bS _ (by decide)⟩)) ?_
 refine W.ret ?_
 exact Fin.ret rfl ⟨by simp[xj],⟨⟩⟩
theorem kE(a:gJ)(r:Int)(hz:a.rounds.length≤1048576∧ ∀y,y∈a.rounds→bY List.length y.db.rows≤1048576):Sound ty Tryz.prog 147 [.agg (bN a), .a (.lit (.int .i64 r))] [.agg (bR (fN a.rounds r)), .a (.lit (.bool (hU a.rounds r)))]:=by
 refine Sound.of X Tryz.call147 Tryz.func147 rfl rfl (by decide) Tryz.ntmps147 (by simp) ?_
 intro zb
 refine W.fI 0 1 rfl rfl (fun IM=> ?_)
 refine W.seq ?_
 refine W.af X [] [] [1,2,4] [] rfl ⟨⟩ ?_
 refine W.seq ?_
 refine W.seq ?_
 refine W.af X [] [] [1,2,4,6] [] rfl ⟨⟩ ?_
 refine W.block ?_
 refine W.aP (fun k=>k≤a.rounds.length∧(a.rounds.take k).any (Kj r)=false) (fun k:Nat=> [(6, .one (.a (.lit (.int .i64 k))))]) (fun k=> []) (fun k=>a.rounds.length-k) 0 (fun k=>rfl) ⟨Nat.zero_le _,rfl⟩ rfl ?_
 rintro k ⟨hk,hall⟩
 refine W.seq ?_
 refine W.seq ?_
 refine W.af X [] [] [1,2,4,6,11] [] rfl ⟨⟩ ?_
 refine W.cond rfl (fun hb0=> ?_) (fun hb0=> ?_)
 ·try simp only[nb,an,av,aa]at hb0
  refine W.skip ?_
  refine W.seq ?_
  refine W.block ?_
  refine W.seq ?_
  refine W.af X [] [] [1,2,4,6,21] [] rfl (by(repeat' (first|exact True.intro|apply And.intro))<;>first| (intros;omega)) ?_
  refine W.cond rfl (fun aH=> ?_) (fun aH=> ?_)
  ·have hh:=HM hb0 hall aH
   refine W.seq ?_
   refine W.af X [] [(28,⟨true,[.agg (bR ((a.rounds.getD k (au .az)).db))]⟩)] [4,5] [] rfl (by(repeat' (first|with_reducible exact ak.nil|with_reducible refine ak.mk ?_ ?_|with_reducible apply And.intro))<;>skip;(iterate 1 (all_goals try (first|exact(jS ((a.rounds.getD k (au .az)).db) (hz.2 _ (getD_in _ hb0))))));all_goals (first| (intros;omega))) ?_
   refine W.ret ?_
   exact Fin.ret rfl ⟨by rw[hh.2],by rw[hh.1],⟨⟩⟩
  ·skip
   refine W.skip ?_
   refine W.af X [] [] [1,2,4,6] [] rfl ⟨⟩ ?_
   refine⟨k+1,⟨by omega,vX (au .az) hb0 hall aH⟩,by omega,?_⟩
   rw[bn _ k rfl (by omega)]
   try rfl
 ·try simp only[nb,an,av,aa]at hb0
  refine W.exit ?_
  refine W.seq ?_
  refine W.af X [] [] [4,5] [] rfl (by(repeat' (first|exact True.intro|apply And.intro))) ?_
  refine W.ret ?_
  exact Fin.ret rfl ⟨by rw[(tZ (by rw[←hall,List.take_of_length_le hb0])).2],by rw[(tZ (by rw[←hall,List.take_of_length_le hb0])).1],⟨⟩⟩
theorem sn(rows:List (List UInt8))(v:List Int)(hr: ∀r,r∈rows→r.length≤1048576):Sound ty Tryz.prog 365 [.a (.sl (.sl .u8) rows), .a (.sl .int v)] [.a (.sl .u8 (qB rows v))]:=by
 refine Sound.of X Tryz.call365 Tryz.func365 rfl rfl (by decide) Tryz.ntmps365 (by simp) ?_
 intro zb
 refine W.bound 0 rfl (fun Of=> ?_)
 refine W.bound 1 rfl (fun lU=> ?_)
 refine W.seq ?_
 refine W.af X [] [] [0,1] [] rfl ⟨⟩ ?_
 refine W.seq ?_
 refine W.af X [] [] [0,1,5] [] rfl (by(repeat' (first|exact True.intro|apply And.intro))<;>first|exact rfl) ?_
 refine W.seq ?_
 refine W.seq ?_
 refine W.af X [] [] [0,1,5,6] [] rfl ⟨⟩ ?_
 refine W.block ?_
 refine W.aP (fun k=>k≤rows.length) (fun k:Nat=> [(6, .one (.a (.lit (.int .i64 k))))]) (fun k=> [(7, .arr .u8 (lG rows v k))]) (fun k=>rows.length-k) 0 (fun k=>rfl) (Nat.zero_le _) rfl ?_
 intro k hk
 have hle:=mX v hr k hk
 refine W.seq ?_
 refine W.seq ?_
 refine W.af X [] [] [0,1,5,6,17] [] rfl ⟨⟩ ?_
 refine W.cond rfl (fun hb0=> ?_) (fun hb0=> ?_)
 ·try simp only[nb,an,av,aa]at hb0
  have hel:=hr _ (getD_in (au (.sl .u8)) hb0.1)
  refine W.skip ?_
  refine W.seq ?_
  refine W.block ?_
  refine W.seq ?_
  refine W.af X [] [] [0,1,5,6,24] [] rfl (by(repeat' (first|exact True.intro|apply And.intro))<;>first| (intros;omega)) ?_
  refine W.cond rfl (fun aH=> ?_) (fun aH=> ?_)
  ·try simp only[nb,an,av,aa]at aH
   have hs:=qC (rows:=rows) hb0.2 aH
   refine W.af X [] [(30,⟨true,[.a (.sl .u8 (cC (lG rows v k) (rows.getD k (au (.sl .u8)))))]⟩)] [0,1,5,6] [] rfl (by(repeat' (first|with_reducible exact ak.nil|with_reducible refine ak.mk ?_ ?_|with_reducible apply And.intro))<;>skip;(iterate 1 (all_goals try (first|exact(iy (lG rows v k) (rows.getD k (au (.sl .u8))) (by first|assumption|omega| (simp;done)| (simp;omega)) (by first|assumption|omega| (simp;done)| (simp;omega))))));all_goals (first| (intros;omega))) ?_
   refine W.rename 5 7 rfl ?_
   refine W.af X [] [] [0,1,5,6] [] rfl ⟨⟩ ?_
   refine⟨k+1,by omega,by omega,?_⟩
   rw[bn _ k rfl (by omega),hs]
   try rfl
  ·try simp only[nb,an,av,aa]at aH
   have hs:=kC (rows:=rows) (v:=v) (k:=k) (fun h=>aH h.2)
   refine W.skip ?_
   refine W.af X [] [] [0,1,5,6] [] rfl ⟨⟩ ?_
   refine⟨k+1,by omega,by omega,?_⟩
   rw[bn _ k rfl (by omega),hs]
   try rfl
 ·try simp only[nb,an,av,aa]at hb0
  refine W.exit ?_
  refine W.seq ?_
  refine W.af X [] [] [4] [] rfl ⟨⟩ ?_
  refine W.ret ?_
  exact Fin.ret rfl ⟨by rw[Bp hk (by omega)],⟨⟩⟩
theorem o8(d:DB)(v:List Int):Sound ty Tryz.prog 323 [.agg (bR d), .a (.sl .int v)] [.a (.sl .u8 (dY d v))]:=by
 refine Sound.of X Tryz.call323 Tryz.func323 rfl rfl (by decide) Tryz.ntmps323 (by simp) ?_
 intro zb
 refine W.seq ?_
 refine W.af X [] [] [1,2] [] rfl ⟨⟩ ?_
 refine W.seq ?_
 refine W.seq ?_
 refine W.af X [] [(6,⟨false,[.a (.lit (.bool (iz d)))]⟩),(13,⟨false,[.a (.lit (.bool (eI v (d.rows.length:Int))))]⟩)] [1,2,15] [] rfl (by(repeat' (first|with_reducible exact ak.nil|with_reducible refine ak.mk ?_ ?_|with_reducible apply And.intro))<;>skip;(iterate 2 (all_goals try (first|exact(dW d)|exact fun _=>(fM v (d.rows.length:Int)))))) ?_
 refine W.cond rfl (fun hb0=> ?_) (fun hb0=> ?_)
 ·have hk:(iz d&&eI v d.rows.length)=false:=cj hb0 (by simp only[aI,aJ,gt_iff_lt,ge_iff_le,aC,aD,bne_not,cX,decide_not,ne_eq,Bool.not_and,Bool.not_or,Bool.not_not,Bool.and_true,Bool.true_and,Bool.or_false,Bool.false_or,Int.toNat_natCast]<;>first|rfl|ac_rfl)
  refine W.seq ?_
  refine W.af X [] [] [4] [] rfl (by(repeat' (first|exact True.intro|apply And.intro))<;>first|exact rfl) ?_
  refine W.ret ?_
  exact Fin.ret rfl ⟨by rw[dY,hk];rfl,⟨⟩⟩
 ·have hk:(iz d&&eI v d.rows.length)=true:=cg hb0 (by simp only[aI,aJ,gt_iff_lt,ge_iff_le,aC,aD,bne_not,cX,decide_not,ne_eq,Bool.not_and,Bool.not_or,Bool.not_not,Bool.and_true,Bool.true_and,Bool.or_false,Bool.false_or,Int.toNat_natCast]<;>first|rfl|ac_rfl)
  have hkk:=hk
  rw[Bool.and_eq_true]at hkk
  have NA: ∀r,r∈d.rows→r.length≤1048576:=fun r hr=>by rw[(wq.1 hkk.1).2 r hr];decide
  have hxl:(qB d.rows v).length≤1048576:=mX v NA d.rows.length (Nat.le_refl _)
  refine W.skip ?_
  refine W.seq ?_
  refine W.draw X [] [(21,⟨true,[.a (.sl .u8 (qB d.rows v))]⟩),(22,⟨true,[.a (.sl .u8 (cC Kc (qB d.rows v)))]⟩)] [4] [] 7 MO (by kernel_rfl) rfl ⟨iy Kc (qB d.rows v) (by rw[zI];decide) hxl,sn d.rows v NA,⟨rfl,bS _ (by decide)⟩,rfl,by omega,⟨by decide,by decide⟩,⟨⟩⟩ ?_
  refine W.ret ?_
  exact Fin.ret rfl ⟨by rw[dY,if_pos hk],⟨⟩⟩
theorem kG(key:Int)(a:bw)(h1:a.selection.length≤262144)(h2:a.data.length≤262144):Sound ty Tryz.prog 250 [.a (.lit (.int .i64 key)), .agg (dF a)] [.a (.lit (.int .i64 (xj key a.server a.round a.selection a.data)))]:=by
 refine Sound.of X Tryz.call250 Tryz.func250 rfl rfl (by decide) Tryz.ntmps250 (by simp) ?_
 intro zb
 have FO:=tY a.data
 refine W.seq ?_
 refine W.af X [] [] [0,3] [] rfl ⟨⟩ ?_
 refine W.seq ?_
 refine W.af X [(16,13)] [] [0,3,5] [] rfl (by(repeat' (first|exact True.intro|apply And.intro))<;>first|exact rfl| (simp only[cE,maxLen,lens];omega)) ?_
 refine W.seq ?_
 refine W.af X [(22,13)] [(21,⟨true,[.a (.sl .int (ES a.data))]⟩),(23,⟨false,[.a (.lit (.int .i64 (kh key ([191,a.server,a.round,(a.selection.length:Int)]++a.selection++ES a.data))))]⟩)] [4] [] rfl (by(repeat' (first|with_reducible exact ak.nil|with_reducible refine ak.mk ?_ ?_|with_reducible apply And.intro))<;>skip;(iterate 2 (all_goals try (first|exact(oS a.data (by omega))|exact(bC key ([191,a.server,a.round,(a.selection.length:Int)]++a.selection++ES a.data) (by simp[tY];omega)))));all_goals (first|exact rfl| (simp only[cE,maxLen,lens];omega))) ?_
 refine W.ret ?_
 exact Fin.ret rfl ⟨rfl,⟨⟩⟩
theorem og(key:Int)(a:bw)(h1:a.selection.length≤262144)(h2:a.data.length≤262144):qZ ty Tryz.prog 267 [(5, .arr .int a.selection),(6, .arr .u8 a.data)] [.a (.lit (.int .i64 key)), .agg [.lit (.int .i64 a.server), .lit (.int .i64 a.round), .own 5, .own 6, .lit (.int .i64 a.wK)]] [(5, .arr .int a.selection),(6, .arr .u8 a.data)] [.agg [.lit (.int .i64 a.server), .lit (.int .i64 a.round), .own 5, .own 6, .lit (.int .i64 (xj key a.server a.round a.selection a.data))]]:=by
 refine qZ.of X Tryz.call267 Tryz.func267 rfl rfl (by decide) Tryz.ntmps267 (by simp) rfl ?_
 intro zb
 refine W.seq ?_
 refine W.af X [] [] [0,3,4] [] rfl ⟨⟩ ?_
 refine W.seq ?_
 refine W.af X [] [(7,⟨false,[.a (.lit (.int .i64 (xj key a.server a.round a.selection a.data)))]⟩)] [3,4] [] rfl (by(repeat' (first|with_reducible exact ak.nil|with_reducible refine ak.mk ?_ ?_|with_reducible apply And.intro))<;>skip;(iterate 1 (all_goals try (first|exact(sk key a h1 h2))))) ?_
 refine W.seq ?_
 refine W.af X [] [] [4] [] rfl (by(repeat' (first|exact True.intro|apply And.intro))) ?_
 refine W.ret ?_
 exact E1.ret rfl ⟨rfl,rfl,rfl,rfl,rfl,⟨⟩⟩
theorem qF(key sv r:Int)(d:DB)(v:List Int)(hv:v.length≤262144):Sound ty Tryz.prog 266 [.a (.lit (.int .i64 key)), .a (.lit (.int .i64 sv)), .a (.lit (.int .i64 r)), .agg (bR d), .a (.sl .int v)] [.agg (dF (dA key sv r d v)), .a (.lit (.bool (ga d v)))]:=by
 refine Sound.of X Tryz.call266 Tryz.func266 rfl rfl (by decide) Tryz.ntmps266 (by simp) ?_
 intro zb
 have LO:=qD d v
 refine W.seq ?_
 refine W.af X [] [] [0,1,2,4,8,10] [] rfl ⟨⟩ ?_
 refine W.seq ?_
 refine W.af X [] [(15,⟨true,[.a (.sl .u8 (dY d v))]⟩)] [0,1,2,4,10,12] [] rfl (by(repeat' (first|with_reducible exact ak.nil|with_reducible refine ak.mk ?_ ?_|with_reducible apply And.intro))<;>skip;(iterate 1 (all_goals try (first|exact(o7 d v))))) ?_
 refine W.seq ?_
 refine W.seq ?_
 refine W.af X [] [] [0,1,2,4,10,12,18] [] rfl ⟨⟩ ?_
 refine W.cond rfl (fun hb0=> ?_) (fun hb0=> ?_)
 ·try simp only[nb,an,av,aa]at hb0
  have hk:=DX (d:=d) (v:=v) (by omega)
  have hg:=HU (key:=key) (sv:=sv) (r:=r) hk
  refine W.seq ?_
  refine W.af X [] [] [10,11] [] rfl (by(repeat' (first|exact True.intro|apply And.intro))) ?_
  refine W.ret ?_
  exact Fin.ret rfl ⟨by rw[hg];rfl,by rw[hg];rfl,by rw[hg];rfl,by rw[hg];rfl,by rw[hg];rfl,by rw[hk],⟨⟩⟩
 ·try simp only[nb,an,av,aa]at hb0
  have hk:=Bt (d:=d) (v:=v) (by omega)
  have hg:=uf (key:=key) (sv:=sv) (r:=r) hk
  have Ra:=ug hk
  refine W.skip ?_
  refine W.seq ?_
  refine W.af X [] [(24,⟨true,[.a (.sl .int v)]⟩),(800027,⟨true,[.agg [.lit (.int .i64 (⟨sv,r,v,dY d v,0⟩:bw).server), .lit (.int .i64 (⟨sv,r,v,dY d v,0⟩:bw).round), .own 5, .own 6, .lit (.int .i64 (xj key (⟨sv,r,v,dY d v,0⟩:bw).server (⟨sv,r,v,dY d v,0⟩:bw).round (⟨sv,r,v,dY d v,0⟩:bw).selection (⟨sv,r,v,dY d v,0⟩:bw).data))]]⟩),(700027,⟨true,[.agg [.ptr 5 24, .ptr 6 15], .agg [], .agg [.own 5, .own 6], .a (.sl .int ((⟨sv,r,v,dY d v,0⟩:bw).selection)), .a (.sl .u8 ((⟨sv,r,v,dY d v,0⟩:bw).data))]⟩)] [10,11] [] rfl (by(repeat' (first|with_reducible exact ak.nil|with_reducible refine ak.mk ?_ ?_|with_reducible apply And.intro))<;>skip;(iterate 2 (all_goals try (first|exact(dU v (by omega))|exact(og key (⟨sv,r,v,dY d v,0⟩:bw) (by show v.length≤_;omega) (by show(dY d v).length≤_;omega)))))) ?_
  refine W.ret ?_
  exact Fin.ret rfl ⟨by rw[hg];rfl,by rw[hg];rfl,by rw[hg];rfl,by rw[hg];rfl,by rw[hg];rfl,by rw[hk],⟨⟩⟩
theorem tE(s:bO)(key r:Int)(d:DB)(v:List Int)(hv:v.length≤262144):Sound ty Tryz.prog 173 [.agg (cG s), .a (.lit (.int .i64 key)), .a (.lit (.int .i64 r)), .agg (bR d), .a (.sl .int v)] [.agg (dF (E3 s key r d v)), .a (.lit (.bool (ga d v)))]:=by
 refine Sound.of X Tryz.call173 Tryz.func173 rfl rfl (by decide) Tryz.ntmps173 (by simp) ?_
 intro zb
 refine W.seq ?_
 refine W.af X [] [] [1,2,4,5,8,10] [] rfl ⟨⟩ ?_
 refine W.seq ?_
 refine W.af X [] [(21,⟨true,[.agg (dF (dA key s.id r d v)), .a (.lit (.bool (ga d v)))]⟩)] [1,5,10,12,13] [] rfl (by(repeat' (first|with_reducible exact ak.nil|with_reducible refine ak.mk ?_ ?_|with_reducible apply And.intro))<;>skip;(iterate 1 (all_goals try (first|exact(qF key s.id r d v (by first|assumption|omega| (simp;done)| (simp;omega))))))) ?_
 refine W.seq ?_
 refine W.seq ?_
 refine W.af X [] [] [1,10,12,13,29] [] rfl ⟨⟩ ?_
 refine W.cond rfl (fun hb0=> ?_) (fun hb0=> ?_)
 ·have hq:(ga d v&&(s.behavior==3))=true:=jI hb0 (by simp only[aI,aJ,gt_iff_lt,ge_iff_le,aC,aD,bne_not,cX,decide_not,ne_eq,Bool.not_and,Bool.not_or,Bool.not_not,Bool.and_true,Bool.true_and,Bool.or_false,Bool.false_or,Int.toNat_natCast]<;>first|rfl|ac_rfl)
  obtain⟨hk,ha⟩:=DY (key:=key) (r:=r) hq
  have hg:=uf (key:=key) (sv:=s.id) (r:=r) hk
  have Ao:(dA key s.id r d v).data.length=24:=by rw[hg];exact ug hk
  refine W.seq ?_
  refine W.af X [] [] [1,10,12,13] [] rfl (by(repeat' (first|exact True.intro|apply And.intro))<;>first| (intros;omega)|exact(mE _).1|exact(mE _).2) ?_
  rw[HT]
  refine W.af X [] [(800038,⟨true,[.agg [.lit (.int .i64 (⟨(dA key s.id r d v).server,(dA key s.id r d v).round,(dA key s.id r d v).selection,wF (dA key s.id r d v).data,(dA key s.id r d v).wK⟩:bw).server), .lit (.int .i64 (⟨(dA key s.id r d v).server,(dA key s.id r d v).round,(dA key s.id r d v).selection,wF (dA key s.id r d v).data,(dA key s.id r d v).wK⟩:bw).round), .own 5, .own 6, .lit (.int .i64 (xj key (⟨(dA key s.id r d v).server,(dA key s.id r d v).round,(dA key s.id r d v).selection,wF (dA key s.id r d v).data,(dA key s.id r d v).wK⟩:bw).server (⟨(dA key s.id r d v).server,(dA key s.id r d v).round,(dA key s.id r d v).selection,wF (dA key s.id r d v).data,(dA key s.id r d v).wK⟩:bw).round (⟨(dA key s.id r d v).server,(dA key s.id r d v).round,(dA key s.id r d v).selection,wF (dA key s.id r d v).data,(dA key s.id r d v).wK⟩:bw).selection (⟨(dA key s.id r d v).server,(dA key s.id r d v).round,(dA key s.id r d v).selection,wF (dA key s.id r d v).data,(dA key s.id r d v).wK⟩:bw).data))]]⟩),(700038,⟨true,[.agg [.ptr 5 23, .ptr 6 24], .agg [], .agg [.own 5, .own 6], .a (.sl .int ((⟨(dA key s.id r d v).server,(dA key s.id r d v).round,(dA key s.id r d v).selection,wF (dA key s.id r d v).data,(dA key s.id r d v).wK⟩:bw).selection)), .a (.sl .u8 ((⟨(dA key s.id r d v).server,(dA key s.id r d v).round,(dA key s.id r d v).selection,wF (dA key s.id r d v).data,(dA key s.id r d v).wK⟩:bw).data))]⟩)] [10,12,13] [] rfl (by(repeat' (first|with_reducible exact ak.nil|with_reducible refine ak.mk ?_ ?_|with_reducible apply And.intro))<;>skip;(iterate 1 (all_goals try (first|exact(og key (⟨(dA key s.id r d v).server,(dA key s.id r d v).round,(dA key s.id r d v).selection,wF (dA key s.id r d v).data,(dA key s.id r d v).wK⟩:bw) (by show(dA key s.id r d v).selection.length≤_;rw[hg];exact hv) (by show(wF (dA key s.id r d v).data).length≤_;rw[DZ,Ao];decide)))))) ?_
  refine W.seq ?_
  refine W.af X [] [] [10,11] [] rfl (by(repeat' (first|exact True.intro|apply And.intro))) ?_
  refine W.ret ?_
  exact Fin.ret rfl ⟨by rw[ha];simp only[hg];rfl,by rw[ha];simp only[hg];rfl,by rw[ha];simp only[hg];rfl,by rw[ha];simp only[hg];rfl,by rw[ha];simp only[hg];rfl,by rw[hk],⟨⟩⟩
 ·have hq:(ga d v&&(s.behavior==3))=false:=mV hb0 (by simp only[aI,aJ,gt_iff_lt,ge_iff_le,aC,aD,bne_not,cX,decide_not,ne_eq,Bool.not_and,Bool.not_or,Bool.not_not,Bool.and_true,Bool.true_and,Bool.or_false,Bool.false_or,Int.toNat_natCast]<;>first|rfl|ac_rfl)
  have ha:=HV (key:=key) (r:=r) hq
  refine W.skip ?_
  refine W.seq ?_
  refine W.af X [] [] [10,11] [] rfl (by(repeat' (first|exact True.intro|apply And.intro))) ?_
  refine W.ret ?_
  exact Fin.ret rfl ⟨by rw[ha],by rw[ha],by rw[ha],by rw[ha],by rw[ha],rfl,⟨⟩⟩
theorem qG(key sv r:Int)(d:DB)(v:List Int)(hv:v.length≤262144):Sound ty Tryz.prog 249 [.a (.lit (.int .i64 key)), .a (.lit (.int .i64 sv)), .a (.lit (.int .i64 r)), .agg (bR d), .a (.sl .int v)] [.agg (dF (dA key sv r d v)), .a (.lit (.bool (ga d v)))]:=by
 refine Sound.of X Tryz.call249 Tryz.func249 rfl rfl (by decide) Tryz.ntmps249 (by simp) ?_
 intro zb
 have LO:=qD d v
 refine W.seq ?_
 refine W.af X [] [] [0,1,2,4,8,10] [] rfl ⟨⟩ ?_
 refine W.seq ?_
 refine W.af X [] [(16,⟨true,[.a (.sl .u8 (dY d v))]⟩)] [0,1,2,4,10,12] [] rfl (by(repeat' (first|with_reducible exact ak.nil|with_reducible refine ak.mk ?_ ?_|with_reducible apply And.intro))<;>skip;(iterate 1 (all_goals try (first|exact(o8 d v))))) ?_
 refine W.seq ?_
 refine W.seq ?_
 refine W.af X [] [] [0,1,2,4,10,12,19] [] rfl ⟨⟩ ?_
 refine W.cond rfl (fun hb0=> ?_) (fun hb0=> ?_)
 ·try simp only[nb,an,av,aa]at hb0
  have hk:=DX (d:=d) (v:=v) (by omega)
  have hg:=HU (key:=key) (sv:=sv) (r:=r) hk
  refine W.seq ?_
  refine W.af X [] [] [10,11] [] rfl (by(repeat' (first|exact True.intro|apply And.intro))) ?_
  refine W.ret ?_
  exact Fin.ret rfl ⟨by rw[hg];rfl,by rw[hg];rfl,by rw[hg];rfl,by rw[hg];rfl,by rw[hg];rfl,by rw[hk],⟨⟩⟩
 ·try simp only[nb,an,av,aa]at hb0
  have hk:=Bt (d:=d) (v:=v) (by omega)
  have hg:=uf (key:=key) (sv:=sv) (r:=r) hk
  have Ra:=ug hk
  refine W.skip ?_
  refine W.seq ?_
  refine W.af X [(25,23)] [] [0,10,13] [] rfl (by(repeat' (first|exact True.intro|apply And.intro))<;>first|exact rfl| (simp only[cE,maxLen,lens];omega)) ?_
  refine W.seq ?_
  refine W.af X [] [(30,⟨false,[.a (.lit (.int .i64 (xj key (⟨sv,r,v,dY d v,0⟩:bw).server (⟨sv,r,v,dY d v,0⟩:bw).round (⟨sv,r,v,dY d v,0⟩:bw).selection (⟨sv,r,v,dY d v,0⟩:bw).data)))]⟩)] [10,13] [] rfl (by(repeat' (first|with_reducible exact ak.nil|with_reducible refine ak.mk ?_ ?_|with_reducible apply And.intro))<;>skip;(iterate 1 (all_goals try (first|exact(kG key (⟨sv,r,v,dY d v,0⟩:bw) (by show v.length≤_;omega) (by show(dY d v).length≤_;omega)))))) ?_
  refine W.seq ?_
  refine W.af X [] [] [10,11] [] rfl (by(repeat' (first|exact True.intro|apply And.intro))) ?_
  refine W.ret ?_
  exact Fin.ret rfl ⟨by rw[hg];rfl,by rw[hg];rfl,by rw[hg];rfl,by rw[hg];rfl,by rw[hg];rfl,by rw[hk],⟨⟩⟩
theorem tF(s:bO)(key r:Int)(d:DB)(v:List Int)(hv:v.length≤262144):Sound ty Tryz.prog 150 [.agg (cG s), .a (.lit (.int .i64 key)), .a (.lit (.int .i64 r)), .agg (bR d), .a (.sl .int v)] [.agg (dF (E3 s key r d v)), .a (.lit (.bool (ga d v)))]:=by
 refine Sound.of X Tryz.call150 Tryz.func150 rfl rfl (by decide) Tryz.ntmps150 (by simp) ?_
 intro zb
 refine W.seq ?_
 refine W.af X [] [] [1,2,4,5,8,10] [] rfl ⟨⟩ ?_
 refine W.seq ?_
 refine W.af X [] [(21,⟨true,[.agg (dF (dA key s.id r d v)), .a (.lit (.bool (ga d v)))]⟩)] [1,5,10,12,13] [] rfl (by(repeat' (first|with_reducible exact ak.nil|with_reducible refine ak.mk ?_ ?_|with_reducible apply And.intro))<;>skip;(iterate 1 (all_goals try (first|exact(qG key s.id r d v (by first|assumption|omega| (simp;done)| (simp;omega))))))) ?_
 refine W.seq ?_
 refine W.seq ?_
 refine W.af X [] [] [1,10,12,13,29] [] rfl ⟨⟩ ?_
 refine W.cond rfl (fun hb0=> ?_) (fun hb0=> ?_)
 ·have hq:(ga d v&&(s.behavior==3))=true:=jI hb0 (by simp only[aI,aJ,gt_iff_lt,ge_iff_le,aC,aD,bne_not,cX,decide_not,ne_eq,Bool.not_and,Bool.not_or,Bool.not_not,Bool.and_true,Bool.true_and,Bool.or_false,Bool.false_or,Int.toNat_natCast]<;>first|rfl|ac_rfl)
  obtain⟨hk,ha⟩:=DY (key:=key) (r:=r) hq
  have hg:=uf (key:=key) (sv:=s.id) (r:=r) hk
  have Ao:(dA key s.id r d v).data.length=24:=by rw[hg];exact ug hk
  refine W.seq ?_
  refine W.draw X [] [] [1,10,12,13] [] 8 MO (by kernel_rfl) rfl (by(repeat' (first|exact True.intro|apply And.intro))<;>first| (intros;omega)|exact(mE _).1|exact(mE _).2) ?_
  rw[HT]
  refine W.af X [] [(40,⟨false,[.a (.lit (.int .i64 (xj key (⟨(dA key s.id r d v).server,(dA key s.id r d v).round,(dA key s.id r d v).selection,wF (dA key s.id r d v).data,(dA key s.id r d v).wK⟩:bw).server (⟨(dA key s.id r d v).server,(dA key s.id r d v).round,(dA key s.id r d v).selection,wF (dA key s.id r d v).data,(dA key s.id r d v).wK⟩:bw).round (⟨(dA key s.id r d v).server,(dA key s.id r d v).round,(dA key s.id r d v).selection,wF (dA key s.id r d v).data,(dA key s.id r d v).wK⟩:bw).selection (⟨(dA key s.id r d v).server,(dA key s.id r d v).round,(dA key s.id r d v).selection,wF (dA key s.id r d v).data,(dA key s.id r d v).wK⟩:bw).data)))]⟩)] [10,12,13] [] rfl (by(repeat' (first|with_reducible exact ak.nil|with_reducible refine ak.mk ?_ ?_|with_reducible apply And.intro))<;>skip;(iterate 1 (all_goals try (first|exact(kG key (⟨(dA key s.id r d v).server,(dA key s.id r d v).round,(dA key s.id r d v).selection,wF (dA key s.id r d v).data,(dA key s.id r d v).wK⟩:bw) (by show(dA key s.id r d v).selection.length≤_;rw[hg];exact hv) (by show(wF (dA key s.id r d v).data).length≤_;rw[DZ,Ao];decide)))))) ?_
  refine W.seq ?_
  refine W.af X [] [] [10,11] [] rfl (by(repeat' (first|exact True.intro|apply And.intro))) ?_
  refine W.ret ?_
  exact Fin.ret rfl ⟨by rw[ha];simp only[hg];rfl,by rw[ha];simp only[hg];rfl,by rw[ha];simp only[hg];rfl,by rw[ha];simp only[hg];rfl,by rw[ha];simp only[hg];rfl,by rw[hk],⟨⟩⟩
 ·have hq:(ga d v&&(s.behavior==3))=false:=mV hb0 (by simp only[aI,aJ,gt_iff_lt,ge_iff_le,aC,aD,bne_not,cX,decide_not,ne_eq,Bool.not_and,Bool.not_or,Bool.not_not,Bool.and_true,Bool.true_and,Bool.or_false,Bool.false_or,Int.toNat_natCast]<;>first|rfl|ac_rfl)
  have ha:=HV (key:=key) (r:=r) hq
  refine W.skip ?_
  refine W.seq ?_
  refine W.af X [] [] [10,11] [] rfl (by(repeat' (first|exact True.intro|apply And.intro))) ?_
  refine W.ret ?_
  exact Fin.ret rfl ⟨by rw[ha],by rw[ha],by rw[ha],by rw[ha],by rw[ha],rfl,⟨⟩⟩
theorem kH(b:List UInt8):Sound ty Tryz.prog 335 [.a (.sl .u8 b)] [.a (.lit (.bool (!decide ((b.length:Int)=24))))]:=by
 refine Sound.of X Tryz.call335 Tryz.func335 rfl rfl (by decide) Tryz.ntmps335 (by simp) ?_
 intro zb
 refine W.seq ?_
 refine W.af X [] [] [0] [] rfl ⟨⟩ ?_
 refine W.seq ?_
 refine W.af X [] [] [2] [] rfl ⟨⟩ ?_
 refine W.ret ?_
 exact Fin.ret rfl ⟨(congrArg Value.bool (by simp only[aI,aJ,gt_iff_lt,ge_iff_le,aC,aD,bne_not,cX,decide_not,ne_eq,Bool.not_and,Bool.not_or,Bool.not_not,Bool.and_true,Bool.true_and,Bool.or_false,Bool.false_or,Int.toNat_natCast]<;>first|rfl|ac_rfl)),⟨⟩⟩
theorem xk(l:List (List UInt8))(hr: ∀a,a∈l→a.length≤1048576):Sound ty Tryz.prog 336 [.a (.sl (.sl .u8) l)] [.a (.sl .u8 (nP l))]:=by
 refine Sound.of X Tryz.call336 Tryz.func336 rfl rfl (by decide) Tryz.ntmps336 (by simp) ?_
 intro zb
 refine W.bound 0 rfl (fun nq=> ?_)
 refine W.seq ?_
 refine W.af X [] [] [0] [] rfl ⟨⟩ ?_
 refine W.seq ?_
 refine W.af X [] [] [0,3] [] rfl (by(repeat' (first|exact True.intro|apply And.intro))<;>first|exact rfl) ?_
 refine W.seq ?_
 refine W.seq ?_
 refine W.af X [] [] [3,7,8,9] [] rfl ⟨⟩ ?_
 refine W.block ?_
 refine W.aP (fun k=>k≤l.length) (fun k:Nat=> [(9, .one (.a (.lit (.int .i64 k))))]) (fun k=> [(6, .arr .u8 (nP (l.take k)))]) (fun k=>l.length-k) 0 (fun k=>rfl) (Nat.zero_le _) rfl ?_
 intro k hk
 have hle:=Bq hr k
 refine W.seq ?_
 refine W.af X [] [] [3,7,8,9,10] [] rfl ⟨⟩ ?_
 refine W.seq ?_
 refine W.cond rfl (fun hb0=> ?_) (fun hb0=> ?_)
 ·try simp only[nb,an,av,aa]at hb0
  have hel:=hr _ (getD_in (au (.sl .u8)) hb0)
  have hs:=rZ l k hb0
  refine W.skip ?_
  refine W.seq ?_
  refine W.block ?_
  refine W.seq ?_
  refine W.af X [] [] [3,5,7,8,9] [] rfl (by(repeat' (first|exact True.intro|apply And.intro))<;>first| (intros;omega)) ?_
  refine W.af X [] [(15,⟨true,[.a (.sl .u8 (cC (nP (l.take k)) (l.getD k (au (.sl .u8)))))]⟩)] [3,7,8,9] [] rfl (by(repeat' (first|with_reducible exact ak.nil|with_reducible refine ak.mk ?_ ?_|with_reducible apply And.intro))<;>skip;(iterate 1 (all_goals try (first|exact(iw (nP (l.take k)) (l.getD k (au (.sl .u8))) (by first|assumption|omega| (simp;done)| (simp;omega)) (by first|assumption|omega| (simp;done)| (simp;omega))))))) ?_
  refine W.rename 3 6 rfl ?_
  refine W.af X [] [] [3,7,8,9] [] rfl ⟨⟩ ?_
  refine⟨k+1,by omega,by omega,?_⟩
  rw[bn _ k rfl (by omega),hs]
  try rfl
 ·try simp only[nb,an,av,aa]at hb0
  refine W.exit ?_
  refine W.seq ?_
  refine W.af X [] [] [2] [] rfl ⟨⟩ ?_
  refine W.ret ?_
  exact Fin.ret rfl ⟨by rw[List.take_of_length_le hb0],⟨⟩⟩
theorem xl(l:List (List UInt8))(hr: ∀a,a∈l→a.length≤1048576):Sound ty Tryz.prog 325 [.a (.sl (.sl .u8) l)] [.a (.sl .u8 (nP l))]:=by
 refine Sound.of X Tryz.call325 Tryz.func325 rfl rfl (by decide) Tryz.ntmps325 (by simp) ?_
 intro zb
 refine W.bound 0 rfl (fun nq=> ?_)
 refine W.seq ?_
 refine W.af X [] [] [0] [] rfl ⟨⟩ ?_
 refine W.seq ?_
 refine W.af X [] [] [0,3] [] rfl (by(repeat' (first|exact True.intro|apply And.intro))<;>first|exact rfl) ?_
 refine W.seq ?_
 refine W.seq ?_
 refine W.af X [] [] [0,3,4] [] rfl ⟨⟩ ?_
 refine W.block ?_
 refine W.aP (fun k=>k≤l.length) (fun k:Nat=> [(4, .one (.a (.lit (.int .i64 k))))]) (fun k=> [(5, .arr .u8 (nP (l.take k)))]) (fun k=>l.length-k) 0 (fun k=>rfl) (Nat.zero_le _) rfl ?_
 intro k hk
 have hle:=Bq hr k
 refine W.seq ?_
 refine W.seq ?_
 refine W.af X [] [] [0,3,4,9] [] rfl ⟨⟩ ?_
 refine W.cond rfl (fun hb0=> ?_) (fun hb0=> ?_)
 ·try simp only[nb,an,av,aa]at hb0
  have hel:=hr _ (getD_in (au (.sl .u8)) hb0)
  have hs:=rZ l k hb0
  refine W.skip ?_
  refine W.seq ?_
  refine W.block ?_
  refine W.af X [] [(17,⟨true,[.a (.sl .u8 (cC (nP (l.take k)) (l.getD k (au (.sl .u8)))))]⟩)] [0,3,4] [] rfl (by(repeat' (first|with_reducible exact ak.nil|with_reducible refine ak.mk ?_ ?_|with_reducible apply And.intro))<;>skip;(iterate 1 (all_goals try (first|exact(iy (nP (l.take k)) (l.getD k (au (.sl .u8))) (by first|assumption|omega| (simp;done)| (simp;omega)) (by first|assumption|omega| (simp;done)| (simp;omega))))));all_goals (first| (intros;omega))) ?_
  refine W.rename 3 5 rfl ?_
  refine W.af X [] [] [0,3,4] [] rfl ⟨⟩ ?_
  refine⟨k+1,by omega,by omega,?_⟩
  rw[bn _ k rfl (by omega),hs]
  try rfl
 ·try simp only[nb,an,av,aa]at hb0
  refine W.exit ?_
  refine W.seq ?_
  refine W.af X [] [] [2] [] rfl ⟨⟩ ?_
  refine W.ret ?_
  exact Fin.ret rfl ⟨by rw[List.take_of_length_le hb0],⟨⟩⟩
theorem lQ(l:List (List UInt8)):Sound ty Tryz.prog 269 [.a (.sl (.sl .u8) l)] [.a (.sl .u8 (DR l)), .a (.lit (.bool (dJ l)))]:=by
 refine Sound.of X Tryz.call269 Tryz.func269 rfl rfl (by decide) Tryz.ntmps269 (by simp) ?_
 intro zb
 refine W.bound 0 rfl (fun nq=> ?_)
 refine W.seq ?_
 refine W.af X [] [] [0] [] rfl ⟨⟩ ?_
 refine W.seq ?_
 refine W.seq ?_
 refine W.af X [] [(6,⟨false,[.a (.lit (.bool (gq (l.length:Int))))]⟩),(10,⟨false,[.a (.lit (.bool (l.any fun b=> !decide ((b.length:Int)=24))))]⟩)] [0,11] [] rfl (by(repeat' (first|with_reducible exact ak.nil|with_reducible refine ak.mk ?_ ?_|with_reducible apply And.intro))<;>skip;(iterate 2 (all_goals try (first|exact(eF (l.length:Int))|exact fun _=>(ck _ _ _ kH))))) ?_
 refine W.cond rfl (fun hb0=> ?_) (fun hb0=> ?_)
 ·have hk:dJ l=false:=by rw[dJ,mJ];exact cj hb0 (by simp only[aI,aJ,gt_iff_lt,ge_iff_le,aC,aD,bne_not,cX,decide_not,ne_eq,Bool.not_and,Bool.not_or,Bool.not_not,Bool.and_true,Bool.true_and,Bool.or_false,Bool.false_or,Int.toNat_natCast]<;>first|rfl|ac_rfl)
  refine W.seq ?_
  refine W.af X [] [] [2,3] [] rfl ⟨⟩ ?_
  refine W.ret ?_
  exact Fin.ret rfl ⟨by rw[uh hk],by rw[hk],⟨⟩⟩
 ·have hk:dJ l=true:=by rw[dJ,mJ];exact cg hb0 (by simp only[aI,aJ,gt_iff_lt,ge_iff_le,aC,aD,bne_not,cX,decide_not,ne_eq,Bool.not_and,Bool.not_or,Bool.not_not,Bool.and_true,Bool.true_and,Bool.or_false,Bool.false_or,Int.toNat_natCast]<;>first|rfl|ac_rfl)
  have hel:=Bu hk
  refine W.skip ?_
  refine W.seq ?_
  refine W.af X [] [(13,⟨true,[.a (.sl .u8 (nP l))]⟩)] [2,3] [] rfl (by(repeat' (first|with_reducible exact ak.nil|with_reducible refine ak.mk ?_ ?_|with_reducible apply And.intro))<;>skip;(iterate 1 (all_goals try (first|exact(xk l hel))))) ?_
  refine W.ret ?_
  exact Fin.ret rfl ⟨by rw[D0 hk],by rw[hk],⟨⟩⟩
theorem lR(l:List (List UInt8)):Sound ty Tryz.prog 251 [.a (.sl (.sl .u8) l)] [.a (.sl .u8 (DR l)), .a (.lit (.bool (dJ l)))]:=by
 refine Sound.of X Tryz.call251 Tryz.func251 rfl rfl (by decide) Tryz.ntmps251 (by simp) ?_
 intro zb
 refine W.bound 0 rfl (fun nq=> ?_)
 refine W.seq ?_
 refine W.af X [] [] [0] [] rfl ⟨⟩ ?_
 refine W.seq ?_
 refine W.seq ?_
 refine W.af X [] [] [0,4] [] rfl ⟨⟩ ?_
 refine W.block ?_
 refine W.aP (fun k=>k≤l.length∧(l.take k).all (fun a=>decide ((a.length:Int)=24))=true) (fun k:Nat=> [(4, .one (.a (.lit (.int .i64 k))))]) (fun k=> []) (fun k=>l.length-k) 0 (fun k=>rfl) ⟨Nat.zero_le _,rfl⟩ rfl ?_
 rintro k ⟨wU,hall⟩
 refine W.seq ?_
 refine W.seq ?_
 refine W.af X [] [] [0,4,8] [] rfl ⟨⟩ ?_
 refine W.cond rfl (fun hb0=> ?_) (fun hb0=> ?_)
 ·try simp only[nb,an,av,aa]at hb0
  refine W.skip ?_
  refine W.seq ?_
  refine W.block ?_
  refine W.seq ?_
  refine W.af X [] [] [0,4,16] [] rfl (by(repeat' (first|exact True.intro|apply And.intro))<;>first| (intros;omega)) ?_
  refine W.cond rfl (fun aH=> ?_) (fun aH=> ?_)
  ·try simp only[nb,an,av,aa]at aH
   have hk:=JM hb0 (fun h=>aH (by rw[h];rfl))
   refine W.seq ?_
   refine W.af X [] [] [2,3] [] rfl (by(repeat' (first|exact True.intro|apply And.intro))<;>first|exact rfl) ?_
   refine W.ret ?_
   exact Fin.ret rfl ⟨by rw[uh hk],by rw[hk],⟨⟩⟩
  ·try simp only[nb,an,av,aa]at aH
   refine W.skip ?_
   refine W.af X [] [] [0,4] [] rfl ⟨⟩ ?_
   refine⟨k+1,⟨by omega,by rw[vQ _ _ _ (au (.sl .u8)) hb0,hall,Bool.true_and];exact decide_eq_true aH⟩,by omega,?_⟩
   rw[bn _ k rfl (by omega)]
   try rfl
 ·try simp only[nb,an,av,aa]at hb0
  rw[List.take_of_length_le hb0]at hall
  refine W.exit ?_
  refine W.seq ?_
  refine W.seq ?_
  refine W.af X [] [(20,⟨false,[.a (.lit (.bool (gq (l.length:Int))))]⟩)] [0,21] [] rfl (by(repeat' (first|with_reducible exact ak.nil|with_reducible refine ak.mk ?_ ?_|with_reducible apply And.intro))<;>skip;(iterate 1 (all_goals try (first|exact(jf (l.length:Int)))))) ?_
  refine W.cond rfl (fun bk=> ?_) (fun bk=> ?_)
  ·have hk:dJ l=false:=by rw[dJ,hall];simpa using bk
   refine W.seq ?_
   refine W.af X [] [] [2,3] [] rfl (by(repeat' (first|exact True.intro|apply And.intro))<;>first|exact rfl) ?_
   refine W.ret ?_
   exact Fin.ret rfl ⟨by rw[uh hk],by rw[hk],⟨⟩⟩
  ·have hk:dJ l=true:=by rw[dJ,hall];simpa using bk
   have hel:=Bu hk
   refine W.skip ?_
   refine W.seq ?_
   refine W.af X [] [(24,⟨true,[.a (.sl .u8 (nP l))]⟩)] [2,3] [] rfl (by(repeat' (first|with_reducible exact ak.nil|with_reducible refine ak.mk ?_ ?_|with_reducible apply And.intro))<;>skip;(iterate 1 (all_goals try (first|exact(xl l hel))))) ?_
   refine W.ret ?_
   exact Fin.ret rfl ⟨by rw[D0 hk],by rw[hk],⟨⟩⟩
theorem m3(l:List bw)(hl:l.length≤1048576):Sound ty Tryz.prog 175 [.a (.sl .bw l)] [.a (.sl .u8 (DR (l.map bw.data))), .a (.lit (.bool (dJ (l.map bw.data))))]:=by
 refine Sound.of X Tryz.call175 Tryz.func175 rfl rfl (by decide) Tryz.ntmps175 (by simp) ?_
 intro zb
 refine W.seq ?_
 refine W.af X [] [] [0] [] rfl ⟨⟩ ?_
 refine W.seq ?_
 refine W.af X [] [] [0,4] [] rfl (by(repeat' (first|exact True.intro|apply And.intro))<;>first|exact rfl) ?_
 refine W.toBrr 4 60 rfl ?_
 refine W.seq ?_
 refine W.seq ?_
 refine W.af X [] [] [4,8,9,10] [] rfl ⟨⟩ ?_
 refine W.block ?_
 refine W.aP (fun k=>k≤l.length) (fun k:Nat=> [(10, .one (.a (.lit (.int .i64 k))))]) (fun k=> [(60, .iM (.sl .u8) ((l.take k).map bw.data) .jT)]) (fun k=>l.length-k) 0 (fun k=>rfl) (Nat.zero_le _) rfl ?_
 intro k hk
 have hle:=bp l k
 refine W.seq ?_
 refine W.af X [] [] [4,8,9,10,11] [] rfl ⟨⟩ ?_
 refine W.seq ?_
 refine W.cond rfl (fun hb0=> ?_) (fun hb0=> ?_)
 ·try simp only[nb,an,av,aa]at hb0
  have hs:=j9 bw.data l k (au .bw) hb0
  have hml:((l.take k).map bw.data).length=(l.take k).length:=List.length_map ..
  refine W.skip ?_
  refine W.seq ?_
  refine W.block ?_
  refine W.seq ?_
  refine W.af X [] [] [4,6,8,9,10] [] rfl (by(repeat' (first|exact True.intro|apply And.intro))<;>first| (intros;omega)) ?_
  refine W.af X [(18,60)] [] [4,8,9,10] [] rfl (by(repeat' (first|exact True.intro|apply And.intro))<;>first|exact rfl| (simp only[cE,maxLen,lens];omega)) ?_
  refine W.af X [] [] [4,8,9,10] [] rfl ⟨⟩ ?_
  refine⟨k+1,by omega,by omega,?_⟩
  rw[bn _ k rfl (by omega),hs]
  try rfl
 ·try simp only[nb,an,av,aa]at hb0
  rw[List.take_of_length_le hb0]
  refine W.exit ?_
  refine W.seq ?_
  refine W.af X [] [(21,⟨true,[.a (.sl .u8 (DR (l.map bw.data))), .a (.lit (.bool (dJ (l.map bw.data))))]⟩)] [2,3] [] rfl (by(repeat' (first|with_reducible exact ak.nil|with_reducible refine ak.mk ?_ ?_|with_reducible apply And.intro))<;>skip;(iterate 1 (all_goals try (first|exact(lQ (l.map bw.data)))))) ?_
  refine W.ret ?_
  exact Fin.ret rfl ⟨rfl,rfl,⟨⟩⟩
theorem m4(l:List bw)(hl:l.length≤1048576):Sound ty Tryz.prog 152 [.a (.sl .bw l)] [.a (.sl .u8 (DR (l.map bw.data))), .a (.lit (.bool (dJ (l.map bw.data))))]:=by
 refine Sound.of X Tryz.call152 Tryz.func152 rfl rfl (by decide) Tryz.ntmps152 (by simp) ?_
 intro zb
 refine W.seq ?_
 refine W.af X [] [] [0] [] rfl ⟨⟩ ?_
 refine W.seq ?_
 refine W.af X [] [] [0,4] [] rfl (by(repeat' (first|exact True.intro|apply And.intro))<;>first|exact rfl) ?_
 refine W.toBrr 4 60 rfl ?_
 refine W.seq ?_
 refine W.seq ?_
 refine W.af X [] [] [0,4,5] [] rfl ⟨⟩ ?_
 refine W.block ?_
 refine W.aP (fun k=>k≤l.length) (fun k:Nat=> [(5, .one (.a (.lit (.int .i64 k))))]) (fun k=> [(60, .iM (.sl .u8) ((l.take k).map bw.data) .jT)]) (fun k=>l.length-k) 0 (fun k=>rfl) (Nat.zero_le _) rfl ?_
 intro k hk
 have hle:=bp l k
 refine W.seq ?_
 refine W.seq ?_
 refine W.af X [] [] [0,4,5,10] [] rfl ⟨⟩ ?_
 refine W.cond rfl (fun hb0=> ?_) (fun hb0=> ?_)
 ·try simp only[nb,an,av,aa]at hb0
  have hs:=j9 bw.data l k (au .bw) hb0
  have hml:((l.take k).map bw.data).length=(l.take k).length:=List.length_map ..
  refine W.skip ?_
  refine W.seq ?_
  refine W.block ?_
  refine W.af X [(20,60)] [] [0,4,5] [] rfl (by(repeat' (first|exact True.intro|apply And.intro))<;>first| (intros;omega)|exact rfl| (simp only[cE,maxLen,lens];omega)) ?_
  refine W.af X [] [] [0,4,5] [] rfl ⟨⟩ ?_
  refine⟨k+1,by omega,by omega,?_⟩
  rw[bn _ k rfl (by omega),hs]
  try rfl
 ·try simp only[nb,an,av,aa]at hb0
  rw[List.take_of_length_le hb0]
  refine W.exit ?_
  refine W.seq ?_
  refine W.af X [] [(22,⟨true,[.a (.sl .u8 (DR (l.map bw.data))), .a (.lit (.bool (dJ (l.map bw.data))))]⟩)] [2,3] [] rfl (by(repeat' (first|with_reducible exact ak.nil|with_reducible refine ak.mk ?_ ?_|with_reducible apply And.intro))<;>skip;(iterate 1 (all_goals try (first|exact(lR (l.map bw.data)))))) ?_
  refine W.ret ?_
  exact Fin.ret rfl ⟨rfl,rfl,⟨⟩⟩
theorem jl(x:b7)(r row s:Int)(hk:okW x=true):Sound ty Tryz.prog 76 [.agg (bz x), .a (.lit (.int .i64 r)), .a (.lit (.int .i64 row)), .a (.lit (.int .i64 s))] [.a (.sl .u8 (uc x r row s)), .a (.lit (.bool (n8 x r row s)))]:=by
 refine Sound.of X Tryz.call76 Tryz.func76 rfl rfl (by decide) Tryz.ntmps76 (by simp) ?_
 intro zb
 have NB:=zR hk
 have OV:=D1 r row s hk
 have Rb:=zH hk
 have hrl:=jh x.aq.length r row s
 refine W.seq ?_
 refine W.af X [] [] [1,2,3,4] [] rfl ⟨⟩ ?_
 refine W.seq ?_
 refine W.af X [] [(21,⟨true,[.agg (bR (fN x.aA.rounds r)), .a (.lit (.bool (hU x.aA.rounds r)))]⟩)] [1,2,3,4,10,11] [] rfl (by(repeat' (first|with_reducible exact ak.nil|with_reducible refine ak.mk ?_ ?_|with_reducible apply And.intro))<;>skip;(iterate 1 (all_goals try (first|exact(kD x.aA r ⟨by omega,NB.2⟩))))) ?_
 refine W.seq ?_
 refine W.seq ?_
 refine W.af X [] [(25,⟨false,[.a (.lit (.bool (okW x)))]⟩)] [1,2,3,4,10,30] [] rfl (by(repeat' (first|with_reducible exact ak.nil|with_reducible refine ak.mk ?_ ?_|with_reducible apply And.intro))<;>skip;(iterate 1 (all_goals try (first|exact(iE x))))) ?_
 refine W.cond rfl (fun hb0=> ?_) (fun hb0=> ?_)
 ·have hh:hU x.aA.rounds r=false:=by rw[hk]at hb0;simpa using hb0
  refine W.seq ?_
  refine W.af X [] [] [8,9] [] rfl ⟨⟩ ?_
  refine W.ret ?_
  exact Fin.ret rfl ⟨by rw[(zQ hh).1],by rw[(zQ hh).2],⟨⟩⟩
 ·have hh:hU x.aA.rounds r=true:=by rw[hk]at hb0;simpa using hb0
  have LY:=D2 (row:=row) (s:=s) hh
  refine W.skip ?_
  refine W.seq ?_
  refine W.af X [] [] [1,2,3,4,10,12] [] rfl (by(repeat' (first|exact True.intro|apply And.intro))<;>first|exact rfl) ?_
  refine W.seq ?_
  refine W.seq ?_
  refine W.draw X [] [(39,⟨true,[.a (.sl .int (dI x.aq.length r row s))]⟩),(40,⟨true,[.a (.sl (.sl .int) (jg x.rows row (dI x.aq.length r row s)))]⟩)] [1,4,10,12,40,41,42] [] 11 MO (by kernel_rfl) rfl (by(repeat' (first|with_reducible exact ak.nil|with_reducible refine ak.mk ?_ ?_|with_reducible apply And.intro))<;>skip;(iterate 2 (all_goals try (first|exact(rS x r row s (by omega))|exact(rQ x.rows row (dI x.aq.length r row s) (by omega)))))) ?_
  refine W.block ?_
  refine W.aP (fun k=>k≤(query' x r row s).length) (fun k:Nat=> [(42, .one (.a (.lit (.int .i64 k))))]) (fun k=> [(31, .arr .bw (jk x r (fN x.aA.rounds r) (query' x r row s) k))]) (fun k=>(query' x r row s).length-k) 0 (fun k=>rfl) (Nat.zero_le _) rfl ?_
  intro k hk
  have LO:=yu x r (fN x.aA.rounds r) (query' x r row s) k
  have Rc:(jg x.rows row (dI x.aq.length r row s)).length=(query' x r row s).length:=rfl
  refine W.seq ?_
  refine W.af X [] [] [1,4,10,12,40,41,42,43] [] rfl ⟨⟩ ?_
  refine W.seq ?_
  refine W.cond rfl (fun aH=> ?_) (fun aH=> ?_)
  ·try simp only[nb,an,av,aa]at aH
   have Rd:=HY x r row s k
   have hs:=wG x r (fN x.aA.rounds r) (query' x r row s) k
   refine W.skip ?_
   refine W.seq ?_
   refine W.block ?_
   refine W.seq ?_
   refine W.af X [] [] [1,4,10,12,13,14,40,41,42] [] rfl (by(repeat' (first|exact True.intro|apply And.intro))<;>first| (intros;omega)) ?_
   refine W.seq ?_
   refine W.mU X [] [(56,⟨false,[.a (.lit (.int .i64 (tD x.cU (k:Int))))]⟩),(60,⟨true,[.agg (dF (E3 (x.aq.getD k (au .bO)) (tD x.cU (k:Int)) r (fN x.aA.rounds r) ((query' x r row s).getD k (au (.sl .int))))), .a (.lit (.bool (ga (fN x.aA.rounds r) ((query' x r row s).getD k (au (.sl .int))))))]⟩)] [1,4,10,12,15,16,40,41,42] [] 393215 (.ph 131071 (.br 131071 17 (.last 262144) (.br 98303 17 (.last 294912) (.nil)))) 1 MO (by kernel_rfl) rfl (by kernel_rfl) (by(repeat' (first|with_reducible exact ak.nil|with_reducible refine ak.mk ?_ ?_|with_reducible apply And.intro))<;>skip;(iterate 2 (all_goals try (first|exact(rX x.cU (k:Int))|exact(tE (x.aq.getD k (au .bO)) (tD x.cU (k:Int)) r (fN x.aA.rounds r) ((query' x r row s).getD k (au (.sl .int))) (by omega)))));all_goals (first| (intros;omega))) ?_
   refine W.seq ?_
   refine W.seq ?_
   refine W.af X [] [] [1,4,10,12,15,40,41,42,64] [] rfl ⟨⟩ ?_
   refine W.cond rfl (fun bk=> ?_) (fun bk=> ?_)
   ·have hno:=HP aH (by simpa using bk)
    refine W.seq ?_
    refine W.af X [] [] [8,9] [] rfl ⟨⟩ ?_
    refine W.ret ?_
    exact Fin.ret rfl ⟨by rw[LY.1,uh hno],by rw[LY.2,hno],⟨⟩⟩
   ·skip
    refine W.skip ?_
    refine W.af X [(68,31)] [] [1,4,10,12,40,41,42] [] rfl (by(repeat' (first|exact True.intro|apply And.intro))<;>first|exact rfl| (simp only[cE,maxLen,lens];omega)) ?_
    refine W.af X [] [] [1,4,10,12,40,41,42] [] rfl ⟨⟩ ?_
    refine⟨k+1,by omega,by omega,?_⟩
    rw[bn _ k rfl (by omega),hs]
    try rfl
  ·try simp only[nb,an,av,aa]at aH
   refine W.exit ?_
   refine W.seq ?_
   refine W.af X [] [(71,⟨true,[.a (.sl .u8 (DR ((jk x r (fN x.aA.rounds r) (query' x r row s) k).map bw.data))), .a (.lit (.bool (dJ ((jk x r (fN x.aA.rounds r) (query' x r row s) k).map bw.data))))]⟩)] [8,9] [] rfl (by(repeat' (first|with_reducible exact ak.nil|with_reducible refine ak.mk ?_ ?_|with_reducible apply And.intro))<;>skip;(iterate 1 (all_goals try (first|exact(m3 (jk x r (fN x.aA.rounds r) (query' x r row s) k) (by omega)))))) ?_
   refine W.ret ?_
   exact Fin.ret rfl ⟨by rw[LY.1,show k=(query' x r row s).length by omega];rfl,by rw[LY.2,show k=(query' x r row s).length by omega];rfl,⟨⟩⟩
theorem m5(x:b7)(r row s:Int)(hk:okW x=true):Sound ty Tryz.prog 66 [.agg (bz x), .a (.lit (.int .i64 r)), .a (.lit (.int .i64 row)), .a (.lit (.int .i64 s))] [.a (.sl .u8 (uc x r row s)), .a (.lit (.bool (n8 x r row s)))]:=by
 refine Sound.of X Tryz.call66 Tryz.func66 rfl rfl (by decide) Tryz.ntmps66 (by simp) ?_
 intro zb
 have NB:=zR hk
 have OV:=D1 r row s hk
 have Rb:=zH hk
 have hrl:=jh x.aq.length r row s
 have hw:IntKind.i64.wrap ((x.aq.length:Int)-1)=(x.aq.length:Int)-1:=bZ (by omega)
 refine W.seq ?_
 refine W.af X [] [] [1,2,3,4] [] rfl ⟨⟩ ?_
 refine W.seq ?_
 refine W.af X [] [(23,⟨true,[.agg (bR (fN x.aA.rounds r)), .a (.lit (.bool (hU x.aA.rounds r)))]⟩)] [1,2,3,4,10,11] [] rfl (by(repeat' (first|with_reducible exact ak.nil|with_reducible refine ak.mk ?_ ?_|with_reducible apply And.intro))<;>skip;(iterate 1 (all_goals try (first|exact(kE x.aA r ⟨by omega,NB.2⟩))))) ?_
 refine W.seq ?_
 refine W.seq ?_
 refine W.af X [] [] [1,2,3,4,10,27] [] rfl ⟨⟩ ?_
 refine W.cond rfl (fun hb0=> ?_) (fun hb0=> ?_)
 ·have hh:hU x.aA.rounds r=false:=by simpa using hb0
  refine W.seq ?_
  refine W.af X [] [] [8,9] [] rfl (by(repeat' (first|exact True.intro|apply And.intro))<;>first|exact rfl) ?_
  refine W.ret ?_
  exact Fin.ret rfl ⟨by rw[(zQ hh).1],by rw[(zQ hh).2],⟨⟩⟩
 ·have hh:hU x.aA.rounds r=true:=by simpa using hb0
  have LY:=D2 (row:=row) (s:=s) hh
  refine W.skip ?_
  refine W.seq ?_
  refine W.af X [] [] [1,2,3,4,10,12] [] rfl (by(repeat' (first|exact True.intro|apply And.intro))<;>first|exact rfl) ?_
  refine W.seq ?_
  refine W.seq ?_
  refine W.af X [] [] [1,2,3,4,10,12,13] [] rfl ⟨⟩ ?_
  refine W.block ?_
  refine W.aP (fun k=>k≤(x.aq.length-1)) (fun k:Nat=> [(13, .one (.a (.lit (.int .i64 k))))]) (fun k=> [(29, .arr .int ((dI x.aq.length r row s).take k))]) (fun k=>(x.aq.length-1)-k) 0 (fun k=>rfl) (Nat.zero_le _) rfl ?_
  intro k hk
  have hle:=bp (dI x.aq.length r row s) k
  refine W.seq ?_
  refine W.seq ?_
  refine W.af X [] [] [1,2,3,4,10,12,13,35] [] rfl ⟨⟩ ?_
  refine W.cond rfl (fun aH=> ?_) (fun aH=> ?_)
  ·try simp only[nb,an,av,aa]at aH
   rw[hw]at aH
   have hs:=sX x.aq.length r row s k (by omega)
   refine W.skip ?_
   refine W.seq ?_
   refine W.block ?_
   refine W.af X [(46,29)] [(44,⟨false,[.a (.lit (.int .i64 (kh s [229,r,row,(k:Int)])))]⟩)] [1,2,3,4,10,12,13] [] rfl (by(repeat' (first|with_reducible exact ak.nil|with_reducible refine ak.mk ?_ ?_|with_reducible apply And.intro))<;>skip;(iterate 1 (all_goals try (first|exact(bC s [229,r,row,(k:Int)] (by first|assumption|omega| (simp;done)| (simp;omega))))));all_goals (first|exact rfl|exact⟨rfl,bS _ (by decide)⟩| (simp only[cE,maxLen,lens];omega))) ?_
   refine W.af X [] [] [1,2,3,4,10,12,13] [] rfl ⟨⟩ ?_
   refine⟨k+1,by omega,by omega,?_⟩
   rw[bn _ k rfl (by omega),hs]
   try rfl
  ·try simp only[nb,an,av,aa]at aH
   rw[hw]at aH
   refine W.exit ?_
   refine W.seq ?_
   rw[List.take_of_length_le (show(dI x.aq.length r row s).length≤k by omega)]
   refine W.af X [] [(51,⟨true,[.a (.sl (.sl .int) (jg x.rows row (dI x.aq.length r row s)))]⟩)] [1,4,10,14] [] rfl (by(repeat' (first|with_reducible exact ak.nil|with_reducible refine ak.mk ?_ ?_|with_reducible apply And.intro))<;>skip;(iterate 1 (all_goals try (first|exact(rR x.rows row (dI x.aq.length r row s) (by omega)))))) ?_
   refine W.seq ?_
   refine W.af X [] [] [1,4,10,14,15] [] rfl (by(repeat' (first|exact True.intro|apply And.intro))<;>first|exact rfl) ?_
   refine W.seq ?_
   refine W.seq ?_
   refine W.af X [] [] [1,4,10,14,15,16] [] rfl ⟨⟩ ?_
   refine W.block ?_
   refine W.aP (fun k1=>k1≤(query' x r row s).length) (fun k1:Nat=> [(16, .one (.a (.lit (.int .i64 k1))))]) (fun k1=> [(52, .arr .bw (jk x r (fN x.aA.rounds r) (query' x r row s) k1))]) (fun k1=>(query' x r row s).length-k1) 0 (fun k1=>rfl) (Nat.zero_le _) rfl ?_
   intro k1 hk1
   have LO:=yu x r (fN x.aA.rounds r) (query' x r row s) k1
   have Rc:(jg x.rows row (dI x.aq.length r row s)).length=(query' x r row s).length:=rfl
   refine W.seq ?_
   refine W.seq ?_
   refine W.af X [] [] [1,4,10,14,15,16,56] [] rfl ⟨⟩ ?_
   refine W.cond rfl (fun bk=> ?_) (fun bk=> ?_)
   ·try simp only[nb,an,av,aa]at bk
    have Rd:=HY x r row s k1
    have hs1:=wG x r (fN x.aA.rounds r) (query' x r row s) k1
    refine W.skip ?_
    refine W.seq ?_
    refine W.block ?_
    refine W.seq ?_
    refine W.mU X [] [(68,⟨false,[.a (.lit (.int .i64 (tD x.cU (k1:Int))))]⟩),(75,⟨true,[.agg (dF (E3 (x.aq.getD k1 (au .bO)) (tD x.cU (k1:Int)) r (fN x.aA.rounds r) ((query' x r row s).getD k1 (au (.sl .int))))), .a (.lit (.bool (ga (fN x.aA.rounds r) ((query' x r row s).getD k1 (au (.sl .int))))))]⟩)] [1,4,10,14,15,16,17] [] 3145727 (.ph 1048575 (.br 1048575 20 (.last 2097152) (.br 786431 20 (.last 2359296) (.nil)))) 1 MO (by kernel_rfl) rfl (by kernel_rfl) (by(repeat' (first|with_reducible exact ak.nil|with_reducible refine ak.mk ?_ ?_|with_reducible apply And.intro))<;>skip;(iterate 2 (all_goals try (first|exact(rY x.cU (k1:Int))|exact(tF (x.aq.getD k1 (au .bO)) (tD x.cU (k1:Int)) r (fN x.aA.rounds r) ((query' x r row s).getD k1 (au (.sl .int))) (by omega)))));all_goals (first| (intros;omega))) ?_
    refine W.af X [(81,52)] [] [1,4,10,14,15,16] [] rfl (by(repeat' (first|exact True.intro|apply And.intro))<;>first|exact rfl| (simp only[cE,maxLen,lens];omega)) ?_
    refine W.af X [] [] [1,4,10,14,15,16] [] rfl ⟨⟩ ?_
    refine⟨k1+1,by omega,by omega,?_⟩
    rw[bn _ k1 rfl (by omega),hs1]
    try rfl
   ·try simp only[nb,an,av,aa]at bk
    refine W.exit ?_
    refine W.seq ?_
    refine W.af X [] [(83,⟨true,[.a (.sl .u8 (DR ((jk x r (fN x.aA.rounds r) (query' x r row s) k1).map bw.data))), .a (.lit (.bool (dJ ((jk x r (fN x.aA.rounds r) (query' x r row s) k1).map bw.data))))]⟩)] [8,9] [] rfl (by(repeat' (first|with_reducible exact ak.nil|with_reducible refine ak.mk ?_ ?_|with_reducible apply And.intro))<;>skip;(iterate 1 (all_goals try (first|exact(m4 (jk x r (fN x.aA.rounds r) (query' x r row s) k1) (by omega)))))) ?_
    refine W.ret ?_
    exact Fin.ret rfl ⟨by rw[LY.1,show k1=(query' x r row s).length by omega];rfl,by rw[LY.2,show k1=(query' x r row s).length by omega];rfl,⟨⟩⟩
end Go.Proofs.YtjcojocjlglglaaGreat.G
namespace Go.Proofs.YtjcojocjlglglaaGreat.G
set_option linter.all false
open Go.RowKit L D
set_option maxRecDepth 100000
theorem dw(c:dL)(h0:bY List.length c.aj≤1048576∧bY List.length c.inbox≤1048576):Sound ty Tryz.prog 177 [.agg (bf c)] [.agg (bf c)]:=by
 refine Sound.of X Tryz.call177 Tryz.func177 rfl rfl (by decide) Tryz.ntmps177 (by simp) ?_
 intro zb
 refine W.seq ?_
 refine W.af X [] [] [1,2] [] rfl ⟨⟩ ?_
 refine W.seq ?_
 refine W.af X [] [(5,⟨true,[.a (.sl (.sl .u8) c.aj)]⟩)] [1,2] [] rfl (by(repeat' (first|with_reducible exact ak.nil|with_reducible refine ak.mk ?_ ?_|with_reducible apply And.intro))<;>skip;(iterate 1 (all_goals try (first|exact(gH c.aj h0.1))))) ?_
 refine W.seq ?_
 refine W.af X [] [(9,⟨true,[.a (.sl (.sl .u8) c.inbox)]⟩)] [1,2] [] rfl (by(repeat' (first|with_reducible exact ak.nil|with_reducible refine ak.mk ?_ ?_|with_reducible apply And.intro))<;>skip;(iterate 1 (all_goals try (first|exact(gH c.inbox h0.2))))) ?_
 refine W.seq ?_
 refine W.af X [] [] [2] [] rfl (by(repeat' (first|exact True.intro|apply And.intro))) ?_
 refine W.ret ?_
 exact Fin.ret rfl ⟨rfl,rfl,rfl,rfl,rfl,rfl,rfl,rfl,⟨⟩⟩
theorem gw(d:aO)(h0:aN d≤1048576):Sound ty Tryz.prog 160 [.agg (bq d)] [.agg (bq d)]:=by
 refine Sound.of X Tryz.call160 Tryz.func160 rfl rfl (by decide) Tryz.ntmps160 (by simp) ?_
 intro zb
 have tj:bh d.live≤1048576∧bh d.saved≤1048576:=by unfold aN at h0;omega
 unfold bh at tj
 refine W.seq ?_
 refine W.af X [] [] [1,2] [] rfl ⟨⟩ ?_
 refine W.seq ?_
 refine W.draw X [] [(5,⟨true,[.agg (bf d.live)]⟩),(8,⟨true,[.agg (bf d.saved)]⟩)] [2] [] 7 MO (by kernel_rfl) rfl (by(repeat' (first|with_reducible exact ak.nil|with_reducible refine ak.mk ?_ ?_|with_reducible apply And.intro))<;>skip;(iterate 2 (all_goals try (first|exact(dw d.live ⟨by omega,by omega⟩)|exact(dw d.saved ⟨by omega,by omega⟩))))) ?_
 refine W.ret ?_
 exact Fin.ret rfl ⟨rfl,rfl,rfl,rfl,rfl,rfl,rfl,rfl,rfl,rfl,rfl,rfl,rfl,rfl,rfl,rfl,⟨⟩⟩
theorem o9(a:gJ)(h0:bU a≤1048576):Sound ty Tryz.prog 162 [.agg (bN a)] [.agg (bN a)]:=by
 refine Sound.of X Tryz.call162 Tryz.func162 rfl rfl (by decide) Tryz.ntmps162 (by simp) ?_
 intro zb
 have hls:bY aV a.rounds≤1048576:=h0
 have nq:=cR hls
 refine W.seq ?_
 refine W.af X [] [] [1,2] [] rfl ⟨⟩ ?_
 refine W.seq ?_
 refine W.af X [] [] [1,2,3] [] rfl ⟨⟩ ?_
 refine W.rP 3 1 60 .az rfl ?_
 refine W.seq ?_
 refine W.seq ?_
 refine W.af X [] [] [2,3,10,11,12] [] rfl ⟨⟩ ?_
 refine W.block ?_
 refine W.aP (fun k=>k≤a.rounds.length) (fun k:Nat=> [(12, .one (.a (.lit (.int .i64 k))))]) (fun k=> [(60, .arr .az (a.rounds.take k))]) (fun k=>a.rounds.length-k) 0 (fun k=>rfl) (Nat.zero_le _) rfl ?_
 intro k hk
 have hle:=bp a.rounds k
 refine W.seq ?_
 refine W.af X [] [] [2,3,10,11,12,13] [] rfl ⟨⟩ ?_
 refine W.seq ?_
 refine W.cond rfl (fun hb0=> ?_) (fun hb0=> ?_)
 ·try simp only[nb,an,av,aa]at hb0
  have hs:=bg a.rounds k (au .az) hb0
  refine W.skip ?_
  refine W.seq ?_
  refine W.block ?_
  refine W.seq ?_
  refine W.af X [] [] [2,3,5,10,11,12] [] rfl (by(repeat' (first|exact True.intro|apply And.intro))<;>first| (intros;omega)) ?_
  refine W.draw X [(25,60)] [(22,⟨true,[.agg (bR ((a.rounds.getD k (au .az)).db))]⟩),(500024,⟨true,[]⟩)] [2,3,10,11,12] [] 9 MO (by kernel_rfl) rfl (by(repeat' (first|with_reducible exact ak.nil|with_reducible refine ak.mk ?_ ?_|with_reducible apply And.intro))<;>skip;(iterate 1 (all_goals try (first|exact(eY ((a.rounds.getD k (au .az)).db) (fu hls (getD_some a.rounds _ k hb0))))));all_goals (first|exact rfl|exact⟨rfl,bS _ (by decide)⟩| (simp only[cE,maxLen,lens];omega))) ?_
  refine W.af X [] [] [2,3,10,11,12] [] rfl ⟨⟩ ?_
  refine⟨k+1,by omega,by omega,?_⟩
  rw[bn _ k rfl (by omega),hs]
  try rfl
 ·try simp only[nb,an,av,aa]at hb0
  refine W.exit ?_
  refine W.seq ?_
  refine W.af X [] [] [2] [] rfl (by(repeat' (first|exact True.intro|apply And.intro))) ?_
  refine W.ret ?_
  exact Fin.ret rfl ⟨rfl,by rw[List.take_of_length_le hb0],⟨⟩⟩
theorem sq(x:b7)(h0:wB x):Sound ty Tryz.prog 72 [.agg (bz x)] [.agg (bz x)]:=by
 refine Sound.of X Tryz.call72 Tryz.func72 rfl rfl (by decide) Tryz.ntmps72 (by simp) ?_
 intro zb
 have hls:bY aZ x.aq≤1048576∧bY aN x.ah≤1048576∧bU x.aA≤1048576∧x.replaced.length≤4194304:=h0
 have lU:=cR hls.1
 have jq:=cR hls.2.1
 refine W.seq ?_
 refine W.af X [] [] [1,2] [] rfl ⟨⟩ ?_
 refine W.seq ?_
 refine W.af X [] [] [1,2,3] [] rfl (by(repeat' (first|exact True.intro|apply And.intro))<;>first|exact rfl) ?_
 refine W.seq ?_
 refine W.seq ?_
 refine W.af X [] [] [1,2,3,8,9,10] [] rfl ⟨⟩ ?_
 refine W.block ?_
 refine W.aP (fun k=>k≤x.ah.length) (fun k:Nat=> [(10, .one (.a (.lit (.int .i64 k))))]) (fun k=> [(6, .arr .aO (x.ah.take k))]) (fun k=>x.ah.length-k) 0 (fun k=>rfl) (Nat.zero_le _) rfl ?_
 intro k hk
 have hle:=bp x.ah k
 refine W.seq ?_
 refine W.af X [] [] [1,2,3,8,9,10,11] [] rfl ⟨⟩ ?_
 refine W.seq ?_
 refine W.cond rfl (fun hb0=> ?_) (fun hb0=> ?_)
 ·try simp only[nb,an,av,aa]at hb0
  have hs:=bg x.ah k (au .aO) hb0
  refine W.skip ?_
  refine W.seq ?_
  refine W.block ?_
  refine W.seq ?_
  refine W.af X [] [] [1,2,3,5,8,9,10] [] rfl (by(repeat' (first|exact True.intro|apply And.intro))<;>first| (intros;omega)) ?_
  refine W.af X [(18,6)] [(16,⟨true,[.agg (bq (x.ah.getD k (au .aO)))]⟩)] [1,2,3,8,9,10] [] rfl (by(repeat' (first|with_reducible exact ak.nil|with_reducible refine ak.mk ?_ ?_|with_reducible apply And.intro))<;>skip;(iterate 1 (all_goals try (first|exact(gw (x.ah.getD k (au .aO)) (fu hls.2.1 (getD_some x.ah _ k hb0))))));all_goals (first|exact rfl| (simp only[cE,maxLen,lens];omega))) ?_
  refine W.af X [] [] [1,2,3,8,9,10] [] rfl ⟨⟩ ?_
  refine⟨k+1,by omega,by omega,?_⟩
  rw[bn _ k rfl (by omega),hs]
  try rfl
 ·try simp only[nb,an,av,aa]at hb0
  refine W.exit ?_
  refine W.seq ?_
  refine W.af X [] [(22,⟨true,[.a (.sl .bO x.aq)]⟩)] [1,2,3] [] rfl (by(repeat' (first|with_reducible exact ak.nil|with_reducible refine ak.mk ?_ ?_|with_reducible apply And.intro))<;>skip;(iterate 1 (all_goals try (first|exact(oW x.aq lU (fun s hs=>by obtain⟨i,hi⟩:=List.mem_iff_getElem?.1 hs;exact ym hls.1 hi)))))) ?_
  refine W.seq ?_
  refine W.af X [] [] [1,2] [] rfl ⟨⟩ ?_
  refine W.seq ?_
  refine W.af X [] [(28,⟨true,[.agg (bN x.aA)]⟩)] [1,2] [] rfl (by(repeat' (first|with_reducible exact ak.nil|with_reducible refine ak.mk ?_ ?_|with_reducible apply And.intro))<;>skip;(iterate 1 (all_goals try (first|exact(o9 x.aA hls.2.2.1))))) ?_
  refine W.seq ?_
  refine W.af X [] [(32,⟨true,[.a (.sl .int x.replaced)]⟩)] [1,2] [] rfl (by(repeat' (first|with_reducible exact ak.nil|with_reducible refine ak.mk ?_ ?_|with_reducible apply And.intro))<;>skip;(iterate 1 (all_goals try (first|exact(dU x.replaced hls.2.2.2))))) ?_
  refine W.seq ?_
  refine W.af X [] [] [2] [] rfl (by(repeat' (first|exact True.intro|apply And.intro))) ?_
  refine W.ret ?_
  exact Fin.ret rfl ⟨rfl,rfl,by rw[List.take_of_length_le hb0],rfl,rfl,rfl,rfl,rfl,rfl,rfl,⟨⟩⟩
theorem sr(c:dL)(h0:bY List.length c.aj≤1048576∧bY List.length c.inbox≤1048576):Sound ty Tryz.prog 212 [.agg (bf c)] [.agg (bq (⟨c,c⟩:aO))]:=by
 refine Sound.of X Tryz.call212 Tryz.func212 rfl rfl (by decide) Tryz.ntmps212 (by simp) ?_
 intro zb
 refine W.seq ?_
 refine W.af X [] [] [1,2] [] rfl ⟨⟩ ?_
 refine W.seq ?_
 refine W.draw X [(6,40)] [(4,⟨true,[.agg (bf c)]⟩),(6,⟨true,[.agg (bf c)]⟩)] [2] [] 5 MO (by kernel_rfl) rfl (by(repeat' (first|with_reducible exact ak.nil|with_reducible refine ak.mk ?_ ?_|with_reducible apply And.intro))<;>skip;(iterate 2 (all_goals try (first|exact(dw c h0))))) ?_
 refine W.ret ?_
 exact Fin.ret rfl ⟨rfl,rfl,rfl,rfl,rfl,rfl,rfl,rfl,rfl,rfl,rfl,rfl,rfl,rfl,rfl,rfl,⟨⟩⟩
theorem qI(d:aO)(h0:aN d≤1048576):Sound ty Tryz.prog 114 [.agg (bq d)] [.agg (bq (D3 d))]:=by
 refine Sound.of X Tryz.call114 Tryz.func114 rfl rfl (by decide) Tryz.ntmps114 (by simp) ?_
 intro zb
 have tj:bh d.live≤1048576∧bh d.saved≤1048576:=by unfold aN at h0;omega
 unfold bh at tj
 refine W.seq ?_
 refine W.af X [] [] [1,2] [] rfl ⟨⟩ ?_
 refine W.seq ?_
 refine W.seq ?_
 refine W.af X [] [(4,⟨false,[.a (.lit (.bool (dX d)))]⟩)] [1,2,5] [] rfl (by(repeat' (first|with_reducible exact ak.nil|with_reducible refine ak.mk ?_ ?_|with_reducible apply And.intro))<;>skip;(iterate 1 (all_goals try (first|exact(dn d))))) ?_
 refine W.cond rfl (fun hb0=> ?_) (fun hb0=> ?_)
 ·have hk:dX d=false:=by simpa using hb0
  have hd:D3 d=d:=by rw[D3,hk];rfl
  refine W.seq ?_
  refine W.af X [] [(7,⟨true,[.agg (bq d)]⟩)] [2] [] rfl (by(repeat' (first|with_reducible exact ak.nil|with_reducible refine ak.mk ?_ ?_|with_reducible apply And.intro))<;>skip;(iterate 1 (all_goals try (first|exact(gw d h0))))) ?_
  refine W.ret ?_
  exact Fin.ret rfl ⟨by rw[hd],by rw[hd],by rw[hd],by rw[hd],by rw[hd],by rw[hd],by rw[hd],by rw[hd],by rw[hd],by rw[hd],by rw[hd],by rw[hd],by rw[hd],by rw[hd],by rw[hd],by rw[hd],⟨⟩⟩
 ·have hk:dX d=true:=by simpa using hb0
  have hd:D3 d=⟨d.live,d.live⟩:=by rw[D3,if_pos hk]
  refine W.skip ?_
  refine W.seq ?_
  refine W.af X [] [(10,⟨true,[.agg (bq (⟨d.live,d.live⟩:aO))]⟩)] [2] [] rfl (by(repeat' (first|with_reducible exact ak.nil|with_reducible refine ak.mk ?_ ?_|with_reducible apply And.intro))<;>skip;(iterate 1 (all_goals try (first|exact(sr d.live ⟨by omega,by omega⟩))))) ?_
  refine W.ret ?_
  exact Fin.ret rfl ⟨by rw[hd],by rw[hd],by rw[hd],by rw[hd],by rw[hd],by rw[hd],by rw[hd],by rw[hd],by rw[hd],by rw[hd],by rw[hd],by rw[hd],by rw[hd],by rw[hd],by rw[hd],by rw[hd],⟨⟩⟩
theorem su(d:aO):Sound ty Tryz.prog 178 [.agg (bq d)] [.a (.lit (.bool (n9 d)))]:=by
 refine Sound.of X Tryz.call178 Tryz.func178 rfl rfl (by decide) Tryz.ntmps178 (by simp) ?_
 intro zb
 refine W.seq ?_
 refine W.af X [] [] [1] [] rfl ⟨⟩ ?_
 refine W.seq ?_
 refine W.af X [] [(4,⟨false,[.a (.lit (.bool (dX d)))]⟩)] [2] [] rfl (by(repeat' (first|with_reducible exact ak.nil|with_reducible refine ak.mk ?_ ?_|with_reducible apply And.intro))<;>skip;(iterate 1 (all_goals try (first|exact(dn d))))) ?_
 refine W.ret ?_
 exact Fin.ret rfl ⟨(congrArg Value.bool (by simp only[n9,aI,aJ,gt_iff_lt,ge_iff_le,aC,aD,bne_not,cX,decide_not,ne_eq,Bool.not_and,Bool.not_or,Bool.not_not,Bool.and_true,Bool.true_and,Bool.or_false,Bool.false_or,Int.toNat_natCast]<;>first|rfl|ac_rfl)),⟨⟩⟩
theorem qJ(c:dL)(r n:Int):Sound ty Tryz.prog 75 [.agg (bf c), .a (.lit (.int .i64 r)), .a (.lit (.int .i64 n))] [.a (.lit (.int .i64 (cW c.key r (bu c) n))), .a (.lit (.int .i64 (cW c.key r (1-bu c) n)))]:=by
 refine Sound.of X Tryz.call75 Tryz.func75 rfl rfl (by decide) Tryz.ntmps75 (by simp) ?_
 intro zb
 have O7:=Ia c
 refine W.seq ?_
 refine W.af X [] [] [1,2,3] [] rfl ⟨⟩ ?_
 refine W.seq ?_
 refine W.draw X [] [(12,⟨false,[.a (.lit (.int .i64 (bu c)))]⟩),(14,⟨false,[.a (.lit (.int .i64 (cW c.key r (bu c) n)))]⟩),(19,⟨false,[.a (.lit (.int .i64 (bu c)))]⟩),(22,⟨false,[.a (.lit (.int .i64 (cW c.key r (IntKind.i64.wrap (1-bu c)) n)))]⟩)] [6,7] [] 17 MO (by kernel_rfl) rfl (by(repeat' (first|with_reducible exact ak.nil|with_reducible refine ak.mk ?_ ?_|with_reducible apply And.intro))<;>skip;(iterate 4 (all_goals try (first|exact(eR c)|exact(jy c.key r (bu c) n)|exact(jy c.key r (IntKind.i64.wrap (1-bu c)) n))))) ?_
 refine W.ret ?_
 exact Fin.ret rfl ⟨rfl,by rw[O7],⟨⟩⟩
theorem qK(c:dL)(r:Int)(own other:List UInt8)(h0:bY List.length c.aj≤1048576∧bY List.length c.inbox≤1048576):Sound ty Tryz.prog 176 [.agg (bf c), .a (.lit (.int .i64 r)), .a (.sl .u8 own), .a (.sl .u8 other)] [.agg (bf (hY c r own other)), .a (.lit (.bool (mY c r)))]:=by
 refine Sound.of X Tryz.call176 Tryz.func176 rfl rfl (by decide) Tryz.ntmps176 (by simp) ?_
 intro zb
 refine W.seq ?_
 refine W.af X [] [] [1,2,3,4,8] [] rfl ⟨⟩ ?_
 refine W.seq ?_
 refine W.af X [] [(14,⟨true,[.agg (bf c)]⟩)] [1,2,3,4,8,10] [] rfl (by(repeat' (first|with_reducible exact ak.nil|with_reducible refine ak.mk ?_ ?_|with_reducible apply And.intro))<;>skip;(iterate 1 (all_goals try (first|exact(dw c h0))))) ?_
 refine W.seq ?_
 refine W.seq ?_
 refine W.af X [] [(16,⟨false,[.a (.lit (.bool (eT c)))]⟩),(22,⟨false,[.a (.lit (.bool (inr r c.next 99999)))]⟩)] [1,2,3,4,8,10,24] [] rfl (by(repeat' (first|with_reducible exact ak.nil|with_reducible refine ak.mk ?_ ?_|with_reducible apply And.intro))<;>skip;(iterate 2 (all_goals try (first|exact(eG c)|exact fun _=>(aK r c.next 99999))))) ?_
 refine W.cond rfl (fun hb0=> ?_) (fun hb0=> ?_)
 ·have hk:mY c r=false:=cj hb0 (by simp only[mY,aI,aJ,gt_iff_lt,ge_iff_le,aC,aD,bne_not,cX,decide_not,ne_eq,Bool.not_and,Bool.not_or,Bool.not_not,Bool.and_true,Bool.true_and,Bool.or_false,Bool.false_or,Int.toNat_natCast]<;>first|rfl|ac_rfl)
  have hc:=Bw (own:=own) (other:=other) hk
  refine W.seq ?_
  refine W.af X [] [] [8,9] [] rfl (by(repeat' (first|exact True.intro|apply And.intro))) ?_
  refine W.ret ?_
  exact Fin.ret rfl ⟨by rw[hc],by rw[hc],by rw[hc],by rw[hc],by rw[hc],by rw[hc],by rw[hc],by rw[hc],by rw[hk],⟨⟩⟩
 ·have hk:mY c r=true:=cg hb0 (by simp only[mY,aI,aJ,gt_iff_lt,ge_iff_le,aC,aD,bne_not,cX,decide_not,ne_eq,Bool.not_and,Bool.not_or,Bool.not_not,Bool.and_true,Bool.true_and,Bool.or_false,Bool.false_or,Int.toNat_natCast]<;>first|rfl|ac_rfl)
  obtain⟨hok,hn1,hn2,IB⟩:=HZ hk
  obtain⟨O6,JW,_,_,hs0,Re,_,_⟩:=nG hok
  have hc:hY c r own other=⟨c.id,c.dD,c.key,c.seed,c.aj,if mZ c own then c.sent+1 else c.sent,if fX c other then c.inbox++ [(BK (wH c) (c.inbox.length:Int) other).body]else c.inbox,r+1⟩:=by rw[hY,if_pos hk]
  refine W.skip ?_
  refine W.seq ?_
  refine W.seq ?_
  refine W.af X [] [(37,⟨false,[.a (.sl .u8 (n7 c c.sent))]⟩),(38,⟨false,[.a (.lit (.bool (own==(n7 c c.sent))))]⟩)] [1,3,4,8,10,39] [] rfl ⟨fun _=>jE own (n7 c c.sent),fun h=>oT c c.sent hs0 (of_decide_eq_true h),⟨⟩⟩ ?_
  refine W.cond rfl (fun aH=> ?_) (fun aH=> ?_)
  ·have hh:mZ c own=true:=jI aH (by simp only[mZ,aI,aJ,gt_iff_lt,ge_iff_le,aC,aD,bne_not,cX,decide_not,ne_eq,Bool.not_and,Bool.not_or,Bool.not_not,Bool.and_true,Bool.true_and,Bool.or_false,Bool.false_or,Int.toNat_natCast]<;>first|rfl|ac_rfl)
   refine W.af X [] [] [1,3,4,8,10] [] rfl ⟨⟩ ?_
   rw[bZ (a:=c.sent+1) (by omega)]
   refine W.seq ?_
   refine W.mU X [] [(48,⟨false,[.a (.lit (.int .i64 (bu c)))]⟩),(50,⟨false,[.a (.lit (.int .i64 (gn c.key (IntKind.i64.wrap (1-bu c)))))]⟩),(55,⟨true,[.agg (cO (BK (gn c.key (IntKind.i64.wrap (1-bu c))) (c.inbox.length:Int) other)), .a (.lit (.bool (hJ (gn c.key (IntKind.i64.wrap (1-bu c))) (c.inbox.length:Int) other)))]⟩)] [1,4,8,10,11,12] [] 98303 (.ph 32767 (.br 32767 15 (.last 65536) (.br 24575 15 (.last 73728) (.nil)))) 1 MO (by kernel_rfl) rfl (by kernel_rfl) (by(repeat' (first|with_reducible exact ak.nil|with_reducible refine ak.mk ?_ ?_|with_reducible apply And.intro))<;>skip;(iterate 3 (all_goals try (first|exact(eR c)|exact(eW c.key (IntKind.i64.wrap (1-bu c)))|exact(lJ (gn c.key (IntKind.i64.wrap (1-bu c))) (c.inbox.length:Int) other))))) ?_
   rw[qH]
   refine W.seq ?_
   refine W.seq ?_
   refine W.af X [] [] [1,8,10,11,69] [] rfl ⟨⟩ ?_
   refine W.cond rfl (fun bk=> ?_) (fun bk=> ?_)
   ·have hg:fX c other=true:=jI bk (by simp only[fX,aI,aJ,gt_iff_lt,ge_iff_le,aC,aD,bne_not,cX,decide_not,ne_eq,Bool.not_and,Bool.not_or,Bool.not_not,Bool.and_true,Bool.true_and,Bool.or_false,Bool.false_or,Int.toNat_natCast]<;>first|rfl|ac_rfl)
    refine W.af X [] [] [1,8,10] [] rfl (by(repeat' (first|exact True.intro|apply And.intro))<;>first|exact rfl| (simp only[cE,maxLen,lens];omega)) ?_
    refine W.seq ?_
    refine W.af X [] [] [8,10] [] rfl ⟨⟩ ?_
    rw[bZ (a:=r+1) (by omega)]
    refine W.seq ?_
    refine W.af X [] [] [8,9] [] rfl (by(repeat' (first|exact True.intro|apply And.intro))) ?_
    refine W.ret ?_
    exact Fin.ret rfl ⟨by rw[hc],by rw[hc],by rw[hc],by rw[hc],by rw[hc],by rw[hc];simp only[hh,if_true],by rw[hc];simp only[hg,if_true],by rw[hc],by rw[hk],⟨⟩⟩
   ·have hg:fX c other=false:=mV bk (by simp only[fX,aI,aJ,gt_iff_lt,ge_iff_le,aC,aD,bne_not,cX,decide_not,ne_eq,Bool.not_and,Bool.not_or,Bool.not_not,Bool.and_true,Bool.true_and,Bool.or_false,Bool.false_or,Int.toNat_natCast]<;>first|rfl|ac_rfl)
    refine W.skip ?_
    refine W.seq ?_
    refine W.af X [] [] [8,10] [] rfl ⟨⟩ ?_
    rw[bZ (a:=r+1) (by omega)]
    refine W.seq ?_
    refine W.af X [] [] [8,9] [] rfl (by(repeat' (first|exact True.intro|apply And.intro))) ?_
    refine W.ret ?_
    exact Fin.ret rfl ⟨by rw[hc],by rw[hc],by rw[hc],by rw[hc],by rw[hc],by rw[hc];simp only[hh,if_true],by rw[hc];simp[hg],by rw[hc],by rw[hk],⟨⟩⟩
  ·have hh:mZ c own=false:=mV aH (by simp only[mZ,aI,aJ,gt_iff_lt,ge_iff_le,aC,aD,bne_not,cX,decide_not,ne_eq,Bool.not_and,Bool.not_or,Bool.not_not,Bool.and_true,Bool.true_and,Bool.or_false,Bool.false_or,Int.toNat_natCast]<;>first|rfl|ac_rfl)
   refine W.skip ?_
   refine W.seq ?_
   refine W.mU X [] [(48,⟨false,[.a (.lit (.int .i64 (bu c)))]⟩),(50,⟨false,[.a (.lit (.int .i64 (gn c.key (IntKind.i64.wrap (1-bu c)))))]⟩),(55,⟨true,[.agg (cO (BK (gn c.key (IntKind.i64.wrap (1-bu c))) (c.inbox.length:Int) other)), .a (.lit (.bool (hJ (gn c.key (IntKind.i64.wrap (1-bu c))) (c.inbox.length:Int) other)))]⟩)] [1,4,8,10,11,12] [] 98303 (.ph 32767 (.br 32767 15 (.last 65536) (.br 24575 15 (.last 73728) (.nil)))) 1 MO (by kernel_rfl) rfl (by kernel_rfl) (by(repeat' (first|with_reducible exact ak.nil|with_reducible refine ak.mk ?_ ?_|with_reducible apply And.intro))<;>skip;(iterate 3 (all_goals try (first|exact(eR c)|exact(eW c.key (IntKind.i64.wrap (1-bu c)))|exact(lJ (gn c.key (IntKind.i64.wrap (1-bu c))) (c.inbox.length:Int) other))))) ?_
   rw[qH]
   refine W.seq ?_
   refine W.seq ?_
   refine W.af X [] [] [1,8,10,11,69] [] rfl ⟨⟩ ?_
   refine W.cond rfl (fun bk=> ?_) (fun bk=> ?_)
   ·have hg:fX c other=true:=jI bk (by simp only[fX,aI,aJ,gt_iff_lt,ge_iff_le,aC,aD,bne_not,cX,decide_not,ne_eq,Bool.not_and,Bool.not_or,Bool.not_not,Bool.and_true,Bool.true_and,Bool.or_false,Bool.false_or,Int.toNat_natCast]<;>first|rfl|ac_rfl)
    refine W.af X [] [] [1,8,10] [] rfl (by(repeat' (first|exact True.intro|apply And.intro))<;>first|exact rfl| (simp only[cE,maxLen,lens];omega)) ?_
    refine W.seq ?_
    refine W.af X [] [] [8,10] [] rfl ⟨⟩ ?_
    rw[bZ (a:=r+1) (by omega)]
    refine W.seq ?_
    refine W.af X [] [] [8,9] [] rfl (by(repeat' (first|exact True.intro|apply And.intro))) ?_
    refine W.ret ?_
    exact Fin.ret rfl ⟨by rw[hc],by rw[hc],by rw[hc],by rw[hc],by rw[hc],by rw[hc];simp[hh],by rw[hc];simp only[hg,if_true],by rw[hc],by rw[hk],⟨⟩⟩
   ·have hg:fX c other=false:=mV bk (by simp only[fX,aI,aJ,gt_iff_lt,ge_iff_le,aC,aD,bne_not,cX,decide_not,ne_eq,Bool.not_and,Bool.not_or,Bool.not_not,Bool.and_true,Bool.true_and,Bool.or_false,Bool.false_or,Int.toNat_natCast]<;>first|rfl|ac_rfl)
    refine W.skip ?_
    refine W.seq ?_
    refine W.af X [] [] [8,10] [] rfl ⟨⟩ ?_
    rw[bZ (a:=r+1) (by omega)]
    refine W.seq ?_
    refine W.af X [] [] [8,9] [] rfl (by(repeat' (first|exact True.intro|apply And.intro))) ?_
    refine W.ret ?_
    exact Fin.ret rfl ⟨by rw[hc],by rw[hc],by rw[hc],by rw[hc],by rw[hc],by rw[hc];simp[hh],by rw[hc];simp[hg],by rw[hc],by rw[hk],⟨⟩⟩
theorem nQ(d:aO)(r:Int)(own other:List UInt8)(h0:aN d≤1048576):Sound ty Tryz.prog 77 [.agg (bq d), .a (.lit (.int .i64 r)), .a (.sl .u8 own), .a (.sl .u8 other)] [.agg (bq (rdev d r own other)), .a (.lit (.bool (lP d r)))]:=by
 refine Sound.of X Tryz.call77 Tryz.func77 rfl rfl (by decide) Tryz.ntmps77 (by simp) ?_
 intro zb
 have tj:bh d.live≤1048576∧bh d.saved≤1048576:=by unfold aN at h0;omega
 unfold bh at tj
 refine W.seq ?_
 refine W.af X [] [] [1,2,3,4,8] [] rfl ⟨⟩ ?_
 refine W.seq ?_
 refine W.af X [] [(19,⟨true,[.agg (bf (hY d.live r own other)), .a (.lit (.bool (mY d.live r)))]⟩)] [4,8,10,11] [] rfl (by(repeat' (first|with_reducible exact ak.nil|with_reducible refine ak.mk ?_ ?_|with_reducible apply And.intro))<;>skip;(iterate 1 (all_goals try (first|exact(qK d.live r own other ⟨by omega,by omega⟩))))) ?_
 refine W.seq ?_
 refine W.seq ?_
 refine W.af X [] [(26,⟨false,[.a (.lit (.bool (dX d)))]⟩)] [4,8,10,28] [] rfl (by(repeat' (first|with_reducible exact ak.nil|with_reducible refine ak.mk ?_ ?_|with_reducible apply And.intro))<;>skip;(iterate 1 (all_goals try (first|exact fun _=>(dn d))))) ?_
 refine W.cond rfl (fun hb0=> ?_) (fun hb0=> ?_)
 ·have hk:lP d r=false:=cj hb0 (by simp only[lP,aI,aJ,gt_iff_lt,ge_iff_le,aC,aD,bne_not,cX,decide_not,ne_eq,Bool.not_and,Bool.not_or,Bool.not_not,Bool.and_true,Bool.true_and,Bool.or_false,Bool.false_or,Int.toNat_natCast]<;>first|rfl|ac_rfl)
  have hd:=D4 (own:=own) (other:=other) hk
  refine W.seq ?_
  refine W.af X [] [(30,⟨true,[.agg (bq d)]⟩)] [8,9] [] rfl (by(repeat' (first|with_reducible exact ak.nil|with_reducible refine ak.mk ?_ ?_|with_reducible apply And.intro))<;>skip;(iterate 1 (all_goals try (first|exact(gw d h0))))) ?_
  refine W.ret ?_
  exact Fin.ret rfl ⟨by rw[hd],by rw[hd],by rw[hd],by rw[hd],by rw[hd],by rw[hd],by rw[hd],by rw[hd],by rw[hd],by rw[hd],by rw[hd],by rw[hd],by rw[hd],by rw[hd],by rw[hd],by rw[hd],by rw[hk],⟨⟩⟩
 ·have hk:lP d r=true:=cg hb0 (by simp only[lP,aI,aJ,gt_iff_lt,ge_iff_le,aC,aD,bne_not,cX,decide_not,ne_eq,Bool.not_and,Bool.not_or,Bool.not_not,Bool.and_true,Bool.true_and,Bool.or_false,Bool.false_or,Int.toNat_natCast]<;>first|rfl|ac_rfl)
  have hz:=Bx (own:=own) (other:=other) hk
  refine W.skip ?_
  refine W.seq ?_
  refine W.draw X [] [(34,⟨true,[.agg (bf d.saved)]⟩)] [8,12] [] 6 MO (by kernel_rfl) rfl (by(repeat' (first|with_reducible exact ak.nil|with_reducible refine ak.mk ?_ ?_|with_reducible apply And.intro))<;>skip;(iterate 1 (all_goals try (first|exact(dw d.saved ⟨by omega,by omega⟩))))) ?_
  refine W.seq ?_
  refine W.seq ?_
  refine W.af X [] [(37,⟨false,[.a (.lit (.bool (n9 (ia d r own other))))]⟩)] [8,12,37] [] rfl (by(repeat' (first|with_reducible exact ak.nil|with_reducible refine ak.mk ?_ ?_|with_reducible apply And.intro))<;>skip;(iterate 1 (all_goals try (first|exact(su (ia d r own other)))))) ?_
  refine W.cond rfl (fun aH=> ?_) (fun aH=> ?_)
  ·have hd:=D5 hk aH
   refine W.af X [] [(39,⟨true,[.agg (bq (D3 (ia d r own other)))]⟩)] [8,12] [] rfl (by(repeat' (first|with_reducible exact ak.nil|with_reducible refine ak.mk ?_ ?_|with_reducible apply And.intro))<;>skip;(iterate 1 (all_goals try (first|exact(qI (ia d r own other) hz))))) ?_
   refine W.seq ?_
   refine W.af X [] [] [8,9] [] rfl (by(repeat' (first|exact True.intro|apply And.intro))) ?_
   refine W.ret ?_
   exact Fin.ret rfl ⟨by rw[hd],by rw[hd],by rw[hd],by rw[hd],by rw[hd],by rw[hd],by rw[hd],by rw[hd],by rw[hd],by rw[hd],by rw[hd],by rw[hd],by rw[hd],by rw[hd],by rw[hd],by rw[hd],by rw[hk],⟨⟩⟩
  ·have hd:=D6 hk aH
   refine W.skip ?_
   refine W.seq ?_
   refine W.af X [] [] [8,9] [] rfl (by(repeat' (first|exact True.intro|apply And.intro))) ?_
   refine W.ret ?_
   exact Fin.ret rfl ⟨by rw[hd];rfl,by rw[hd];rfl,by rw[hd];rfl,by rw[hd];rfl,by rw[hd];rfl,by rw[hd];rfl,by rw[hd];rfl,by rw[hd];rfl,by rw[hd];rfl,by rw[hd];rfl,by rw[hd];rfl,by rw[hd];rfl,by rw[hd];rfl,by rw[hd];rfl,by rw[hd];rfl,by rw[hd];rfl,by rw[hk],⟨⟩⟩
theorem kI(x:b7)(h0:wB x):Sound ty Tryz.prog 17 [.agg (bz x)] [.agg (bz (wO x))]:=by
 refine Sound.of X Tryz.call17 Tryz.func17 rfl rfl (by decide) Tryz.ntmps17 (by simp) ?_
 intro zb
 have hls:bY aZ x.aq≤1048576∧bY aN x.ah≤1048576∧bU x.aA≤1048576∧x.replaced.length≤4194304:=h0
 have jq:=cR hls.2.1
 refine W.seq ?_
 refine W.af X [] [] [1,2] [] rfl ⟨⟩ ?_
 refine W.seq ?_
 refine W.af X [] [(15,⟨true,[.agg (bz x)]⟩)] [1,2,3] [] rfl (by(repeat' (first|with_reducible exact ak.nil|with_reducible refine ak.mk ?_ ?_|with_reducible apply And.intro))<;>skip;(iterate 1 (all_goals try (first|exact(sq x h0))))) ?_
 refine W.seq ?_
 refine W.seq ?_
 refine W.af X [] [(17,⟨false,[.a (.lit (.bool (okW x)))]⟩)] [1,2,3,18] [] rfl (by(repeat' (first|with_reducible exact ak.nil|with_reducible refine ak.mk ?_ ?_|with_reducible apply And.intro))<;>skip;(iterate 1 (all_goals try (first|exact(iE x))))) ?_
 refine W.cond rfl (fun hb0=> ?_) (fun hb0=> ?_)
 ·have wU:okW x=false:=by simpa using hb0
  have hw:=H9 wU
  refine W.seq ?_
  refine W.af X [] [] [2] [] rfl (by(repeat' (first|exact True.intro|apply And.intro))) ?_
  refine W.ret ?_
  exact Fin.ret rfl ⟨by rw[hw],by rw[hw],by rw[hw],by rw[hw],by rw[hw],by rw[hw],by rw[hw],by rw[hw],by rw[hw],by rw[hw],⟨⟩⟩
 ·have wU:okW x=true:=by simpa using hb0
  have hw:=D7 wU
  have NB:=zR wU
  have OR:=(tW (vY wU)).2.1
  refine W.skip ?_
  refine W.seq ?_
  refine W.seq ?_
  refine W.af X [] [] [1,2,3,21,22,23] [] rfl ⟨⟩ ?_
  refine W.block ?_
  refine W.aP (fun k=>k≤x.ah.length) (fun k:Nat=> [(23, .one (.a (.lit (.int .i64 k))))]) (fun k=> [(17, .arr .aO (E6 x k))]) (fun k=>x.ah.length-k) 0 (fun k=>rfl) (Nat.zero_le _) rfl ?_
  intro k hk
  have E0:=DV x k hk
  refine W.seq ?_
  refine W.af X [] [] [1,2,3,21,22,23,24] [] rfl ⟨⟩ ?_
  refine W.seq ?_
  refine W.cond rfl (fun aH=> ?_) (fun aH=> ?_)
  ·try simp only[nb,an,av,aa]at aH
   have MF:=DU x k aH
   have O8:=HR x k aH
   have tN:=oX x.aA.rounds (x.ah.getD k (au .aO)).live.next
   have O9:(ey x (x.ah.getD k (au .aO))).length≤x.aA.rounds.length:=tN
   have Rf:(eo x.aA.rounds (x.ah.getD k (au .aO)).live.next).length=(ey x (x.ah.getD k (au .aO))).length:=rfl
   refine W.skip ?_
   refine W.seq ?_
   refine W.block ?_
   refine W.seq ?_
   refine W.af X [] [] [1,2,3,4,5,21,22,23] [] rfl (by(repeat' (first|exact True.intro|apply And.intro))<;>first| (intros;omega)) ?_
   refine W.seq ?_
   refine W.af X [] [(33,⟨true,[.a (.sl .int (eo x.aA.rounds ((x.ah.getD k (au .aO)).live.next)))]⟩)] [1,2,3,4,5,21,22,23,33,34,35] [] rfl (by(repeat' (first|with_reducible exact ak.nil|with_reducible refine ak.mk ?_ ?_|with_reducible apply And.intro))<;>skip;(iterate 1 (all_goals try (first|exact(oY x.aA ((x.ah.getD k (au .aO)).live.next) (by omega)))))) ?_
   refine W.block ?_
   refine W.aP (fun k1=>k1≤(ey x (x.ah.getD k (au .aO))).length) (fun k1:Nat=> [(35, .one (.a (.lit (.int .i64 k1))))]) (fun k1=> [(17, .arr .aO (eZ x k k1))]) (fun k1=>(ey x (x.ah.getD k (au .aO))).length-k1) 0 (fun k1=>rfl) (Nat.zero_le _) (by rw[O8];rfl) ?_
   intro k1 hk1
   have lT:=DS x k k1 aH
   refine W.seq ?_
   refine W.af X [] [] [1,2,3,4,5,21,22,23,33,34,35,36] [] rfl ⟨⟩ ?_
   refine W.seq ?_
   refine W.cond rfl (fun bk=> ?_) (fun bk=> ?_)
   ·try simp only[nb,an,av,aa]at bk
    have hs:=Bs x k k1 aH bk
    have hsz:=H6 wU aH k1
    refine W.skip ?_
    refine W.seq ?_
    refine W.block ?_
    refine W.seq ?_
    refine W.af X [] [] [1,2,3,4,5,7,21,22,23,33,34,35] [] rfl (by(repeat' (first|exact True.intro|apply And.intro))<;>first| (intros;omega)) ?_
    refine W.seq ?_
    refine W.af X [] [(45,⟨false,[.a (.lit (.int .i64 (cW ((x.ah.getD k (au .aO)).live).key ((ey x (x.ah.getD k (au .aO))).getD k1 (au .int)) (bu ((x.ah.getD k (au .aO)).live)) x.rows))), .a (.lit (.int .i64 (cW ((x.ah.getD k (au .aO)).live).key ((ey x (x.ah.getD k (au .aO))).getD k1 (au .int)) (1-bu ((x.ah.getD k (au .aO)).live)) x.rows)))]⟩)] [1,2,3,4,5,7,8,9,21,22,23,33,34,35] [] rfl (by(repeat' (first|with_reducible exact ak.nil|with_reducible refine ak.mk ?_ ?_|with_reducible apply And.intro))<;>skip;(iterate 1 (all_goals try (first|exact(qJ ((x.ah.getD k (au .aO)).live) ((ey x (x.ah.getD k (au .aO))).getD k1 (au .int)) x.rows))))) ?_
    refine W.seq ?_
    refine W.af X [] [(55,⟨true,[.a (.sl .u8 (uc x ((ey x (x.ah.getD k (au .aO))).getD k1 (au .int)) (cW (x.ah.getD k (au .aO)).live.key ((ey x (x.ah.getD k (au .aO))).getD k1 (au .int)) (bu (x.ah.getD k (au .aO)).live) x.rows) ((x.ah.getD k (au .aO)).live.seed))), .a (.lit (.bool (n8 x ((ey x (x.ah.getD k (au .aO))).getD k1 (au .int)) (cW (x.ah.getD k (au .aO)).live.key ((ey x (x.ah.getD k (au .aO))).getD k1 (au .int)) (bu (x.ah.getD k (au .aO)).live) x.rows) ((x.ah.getD k (au .aO)).live.seed))))]⟩)] [1,2,3,4,5,7,9,10,21,22,23,33,34,35] [] rfl (by(repeat' (first|with_reducible exact ak.nil|with_reducible refine ak.mk ?_ ?_|with_reducible apply And.intro))<;>skip;(iterate 1 (all_goals try (first|exact(jl x ((ey x (x.ah.getD k (au .aO))).getD k1 (au .int)) (cW (x.ah.getD k (au .aO)).live.key ((ey x (x.ah.getD k (au .aO))).getD k1 (au .int)) (bu (x.ah.getD k (au .aO)).live) x.rows) ((x.ah.getD k (au .aO)).live.seed) wU))))) ?_
    refine W.seq ?_
    refine W.af X [] [(65,⟨true,[.a (.sl .u8 (uc x ((ey x (x.ah.getD k (au .aO))).getD k1 (au .int)) (cW (x.ah.getD k (au .aO)).live.key ((ey x (x.ah.getD k (au .aO))).getD k1 (au .int)) (1-bu (x.ah.getD k (au .aO)).live) x.rows) ((x.ah.getD k (au .aO)).live.seed))), .a (.lit (.bool (n8 x ((ey x (x.ah.getD k (au .aO))).getD k1 (au .int)) (cW (x.ah.getD k (au .aO)).live.key ((ey x (x.ah.getD k (au .aO))).getD k1 (au .int)) (1-bu (x.ah.getD k (au .aO)).live) x.rows) ((x.ah.getD k (au .aO)).live.seed))))]⟩)] [1,2,3,4,5,7,10,12,21,22,23,33,34,35] [] rfl (by(repeat' (first|with_reducible exact ak.nil|with_reducible refine ak.mk ?_ ?_|with_reducible apply And.intro))<;>skip;(iterate 1 (all_goals try (first|exact(jl x ((ey x (x.ah.getD k (au .aO))).getD k1 (au .int)) (cW (x.ah.getD k (au .aO)).live.key ((ey x (x.ah.getD k (au .aO))).getD k1 (au .int)) (1-bu (x.ah.getD k (au .aO)).live) x.rows) ((x.ah.getD k (au .aO)).live.seed) wU))))) ?_
    refine W.mU X [] [(80,⟨true,[.agg (bq (rdev ((eZ x k k1).getD k (au .aO)) ((ey x (x.ah.getD k (au .aO))).getD k1 (au .int)) (uc x ((ey x (x.ah.getD k (au .aO))).getD k1 (au .int)) (cW (x.ah.getD k (au .aO)).live.key ((ey x (x.ah.getD k (au .aO))).getD k1 (au .int)) (bu (x.ah.getD k (au .aO)).live) x.rows) (x.ah.getD k (au .aO)).live.seed) (uc x ((ey x (x.ah.getD k (au .aO))).getD k1 (au .int)) (cW (x.ah.getD k (au .aO)).live.key ((ey x (x.ah.getD k (au .aO))).getD k1 (au .int)) (1-bu (x.ah.getD k (au .aO)).live) x.rows) (x.ah.getD k (au .aO)).live.seed))), .a (.lit (.bool (lP ((eZ x k k1).getD k (au .aO)) ((ey x (x.ah.getD k (au .aO))).getD k1 (au .int)))))]⟩)] [1,2,3,4,5,21,22,23,33,34,35] [] 65535 (.ph 65535 (.br 65535 16 (.last 0) (.br 49151 16 (.last 16384) (.nil)))) 1 MO (by kernel_rfl) rfl (by kernel_rfl) (by(repeat' (first|with_reducible exact ak.nil|with_reducible refine ak.mk ?_ ?_|with_reducible apply And.intro))<;>skip;(iterate 1 (all_goals try (first|exact(nQ ((eZ x k k1).getD k (au .aO)) ((ey x (x.ah.getD k (au .aO))).getD k1 (au .int)) (uc x ((ey x (x.ah.getD k (au .aO))).getD k1 (au .int)) (cW (x.ah.getD k (au .aO)).live.key ((ey x (x.ah.getD k (au .aO))).getD k1 (au .int)) (bu (x.ah.getD k (au .aO)).live) x.rows) (x.ah.getD k (au .aO)).live.seed) (uc x ((ey x (x.ah.getD k (au .aO))).getD k1 (au .int)) (cW (x.ah.getD k (au .aO)).live.key ((ey x (x.ah.getD k (au .aO))).getD k1 (au .int)) (1-bu (x.ah.getD k (au .aO)).live) x.rows) (x.ah.getD k (au .aO)).live.seed) hsz))));all_goals (first| (intros;omega))) ?_
    refine W.af X [] [] [1,2,3,4,5,21,22,23,33,34,35] [] rfl ⟨⟩ ?_
    refine⟨k1+1,by omega,by omega,?_⟩
    rw[bn _ k1 rfl (by omega), ←hs]
    try rfl
   ·try simp only[nb,an,av,aa]at bk
    rw[DT x k k1 aH bk]
    refine W.exit ?_
    refine W.af X [] [] [1,2,3,21,22,23] [] rfl ⟨⟩ ?_
    refine⟨k+1,by omega,by omega,?_⟩
    rw[bn _ k rfl (by omega)]
    try rfl
  ·try simp only[nb,an,av,aa]at aH
   refine W.exit ?_
   refine W.seq ?_
   refine W.af X [] [] [2] [] rfl (by(repeat' (first|exact True.intro|apply And.intro))) ?_
   refine W.ret ?_
   exact Fin.ret rfl ⟨by rw[hw],by rw[hw],by rw[hw,DW x k (by omega) (by omega)],by rw[hw],by rw[hw],by rw[hw],by rw[hw],by rw[hw],by rw[hw],by rw[hw],⟨⟩⟩
theorem sw(c:dL)(h0:bY List.length c.aj≤1048576∧bY List.length c.inbox≤1048576):Sound ty Tryz.prog 209 [.agg (bf c)] [.agg (bq (⟨c,c⟩:aO))]:=by
 refine Sound.of X Tryz.call209 Tryz.func209 rfl rfl (by decide) Tryz.ntmps209 (by simp) ?_
 intro zb
 refine W.seq ?_
 refine W.af X [] [] [1,2] [] rfl ⟨⟩ ?_
 refine W.seq ?_
 refine W.draw X [(6,40)] [(4,⟨true,[.agg (bf c)]⟩),(6,⟨true,[.agg (bf c)]⟩)] [2] [] 5 MO (by kernel_rfl) rfl (by(repeat' (first|with_reducible exact ak.nil|with_reducible refine ak.mk ?_ ?_|with_reducible apply And.intro))<;>skip;(iterate 2 (all_goals try (first|exact(eK c h0))))) ?_
 refine W.ret ?_
 exact Fin.ret rfl ⟨rfl,rfl,rfl,rfl,rfl,rfl,rfl,rfl,rfl,rfl,rfl,rfl,rfl,rfl,rfl,rfl,⟨⟩⟩
theorem qL(d:aO)(h0:aN d≤1048576):Sound ty Tryz.prog 109 [.agg (bq d)] [.agg (bq (D3 d))]:=by
 refine Sound.of X Tryz.call109 Tryz.func109 rfl rfl (by decide) Tryz.ntmps109 (by simp) ?_
 intro zb
 have tj:bh d.live≤1048576∧bh d.saved≤1048576:=by unfold aN at h0;omega
 unfold bh at tj
 refine W.seq ?_
 refine W.af X [] [] [1,2] [] rfl ⟨⟩ ?_
 refine W.seq ?_
 refine W.seq ?_
 refine W.af X [] [(4,⟨false,[.a (.lit (.bool (dX d)))]⟩)] [1,2,5] [] rfl (by(repeat' (first|with_reducible exact ak.nil|with_reducible refine ak.mk ?_ ?_|with_reducible apply And.intro))<;>skip;(iterate 1 (all_goals try (first|exact(dr d))))) ?_
 refine W.cond rfl (fun hb0=> ?_) (fun hb0=> ?_)
 ·have hk:dX d=false:=by simpa using hb0
  have hd:D3 d=d:=by rw[D3,hk];rfl
  refine W.seq ?_
  refine W.af X [] [(7,⟨true,[.agg (bq d)]⟩)] [2] [] rfl (by(repeat' (first|with_reducible exact ak.nil|with_reducible refine ak.mk ?_ ?_|with_reducible apply And.intro))<;>skip;(iterate 1 (all_goals try (first|exact(jj d h0))))) ?_
  refine W.ret ?_
  exact Fin.ret rfl ⟨by rw[hd],by rw[hd],by rw[hd],by rw[hd],by rw[hd],by rw[hd],by rw[hd],by rw[hd],by rw[hd],by rw[hd],by rw[hd],by rw[hd],by rw[hd],by rw[hd],by rw[hd],by rw[hd],⟨⟩⟩
 ·have hk:dX d=true:=by simpa using hb0
  have hd:D3 d=⟨d.live,d.live⟩:=by rw[D3,if_pos hk]
  refine W.skip ?_
  refine W.seq ?_
  refine W.af X [] [(10,⟨true,[.agg (bq (⟨d.live,d.live⟩:aO))]⟩)] [2] [] rfl (by(repeat' (first|with_reducible exact ak.nil|with_reducible refine ak.mk ?_ ?_|with_reducible apply And.intro))<;>skip;(iterate 1 (all_goals try (first|exact(sw d.live ⟨by omega,by omega⟩))))) ?_
  refine W.ret ?_
  exact Fin.ret rfl ⟨by rw[hd],by rw[hd],by rw[hd],by rw[hd],by rw[hd],by rw[hd],by rw[hd],by rw[hd],by rw[hd],by rw[hd],by rw[hd],by rw[hd],by rw[hd],by rw[hd],by rw[hd],by rw[hd],⟨⟩⟩
theorem sx(d:aO):Sound ty Tryz.prog 156 [.agg (bq d)] [.a (.lit (.bool (n9 d)))]:=by
 refine Sound.of X Tryz.call156 Tryz.func156 rfl rfl (by decide) Tryz.ntmps156 (by simp) ?_
 intro zb
 refine W.seq ?_
 refine W.af X [] [] [1] [] rfl ⟨⟩ ?_
 refine W.seq ?_
 refine W.af X [] [(4,⟨false,[.a (.lit (.bool (dX d)))]⟩)] [2] [] rfl (by(repeat' (first|with_reducible exact ak.nil|with_reducible refine ak.mk ?_ ?_|with_reducible apply And.intro))<;>skip;(iterate 1 (all_goals try (first|exact(dr d))))) ?_
 refine W.ret ?_
 exact Fin.ret rfl ⟨(congrArg Value.bool (by simp only[n9,aI,aJ,gt_iff_lt,ge_iff_le,aC,aD,bne_not,cX,decide_not,ne_eq,Bool.not_and,Bool.not_or,Bool.not_not,Bool.and_true,Bool.true_and,Bool.or_false,Bool.false_or,Int.toNat_natCast]<;>first|rfl|ac_rfl)),⟨⟩⟩
theorem qM(c:dL)(r n:Int):Sound ty Tryz.prog 65 [.agg (bf c), .a (.lit (.int .i64 r)), .a (.lit (.int .i64 n))] [.a (.lit (.int .i64 (cW c.key r (bu c) n))), .a (.lit (.int .i64 (cW c.key r (1-bu c) n)))]:=by
 refine Sound.of X Tryz.call65 Tryz.func65 rfl rfl (by decide) Tryz.ntmps65 (by simp) ?_
 intro zb
 have O7:=Ia c
 refine W.seq ?_
 refine W.af X [] [] [1,2,3] [] rfl ⟨⟩ ?_
 refine W.seq ?_
 refine W.af X [] [(10,⟨false,[.a (.lit (.int .i64 (bu c)))]⟩)] [1,2,3,8] [] rfl (by(repeat' (first|with_reducible exact ak.nil|with_reducible refine ak.mk ?_ ?_|with_reducible apply And.intro))<;>skip;(iterate 1 (all_goals try (first|exact(dB c))))) ?_
 refine W.seq ?_
 refine W.draw X [] [(16,⟨false,[.a (.lit (.int .i64 (cW c.key r (bu c) n)))]⟩),(23,⟨false,[.a (.lit (.int .i64 (cW c.key r (IntKind.i64.wrap (1-bu c)) n)))]⟩)] [6,7] [] 15 MO (by kernel_rfl) rfl (by(repeat' (first|with_reducible exact ak.nil|with_reducible refine ak.mk ?_ ?_|with_reducible apply And.intro))<;>skip;(iterate 2 (all_goals try (first|exact(jz c.key r (bu c) n)|exact(jz c.key r (IntKind.i64.wrap (1-bu c)) n))))) ?_
 refine W.ret ?_
 exact Fin.ret rfl ⟨rfl,by rw[O7],⟨⟩⟩
theorem qN(c:dL)(r:Int)(own other:List UInt8)(h0:bY List.length c.aj≤1048576∧bY List.length c.inbox≤1048576):Sound ty Tryz.prog 153 [.agg (bf c), .a (.lit (.int .i64 r)), .a (.sl .u8 own), .a (.sl .u8 other)] [.agg (bf (hY c r own other)), .a (.lit (.bool (mY c r)))]:=by
 refine Sound.of X Tryz.call153 Tryz.func153 rfl rfl (by decide) Tryz.ntmps153 (by simp) ?_
 intro zb
 refine W.seq ?_
 refine W.af X [] [] [1,2,3,4,8] [] rfl ⟨⟩ ?_
 refine W.seq ?_
 refine W.af X [] [(14,⟨true,[.agg (bf c)]⟩)] [1,2,3,4,8,10] [] rfl (by(repeat' (first|with_reducible exact ak.nil|with_reducible refine ak.mk ?_ ?_|with_reducible apply And.intro))<;>skip;(iterate 1 (all_goals try (first|exact(eK c h0))))) ?_
 refine W.seq ?_
 refine W.seq ?_
 refine W.af X [] [(16,⟨false,[.a (.lit (.bool (eT c)))]⟩),(22,⟨false,[.a (.lit (.bool (inr r c.next 99999)))]⟩)] [1,2,3,4,8,10,24] [] rfl (by(repeat' (first|with_reducible exact ak.nil|with_reducible refine ak.mk ?_ ?_|with_reducible apply And.intro))<;>skip;(iterate 2 (all_goals try (first|exact(eH c)|exact fun _=>(aX r c.next 99999))))) ?_
 refine W.cond rfl (fun hb0=> ?_) (fun hb0=> ?_)
 ·have hk:mY c r=false:=cj hb0 (by simp only[mY,aI,aJ,gt_iff_lt,ge_iff_le,aC,aD,bne_not,cX,decide_not,ne_eq,Bool.not_and,Bool.not_or,Bool.not_not,Bool.and_true,Bool.true_and,Bool.or_false,Bool.false_or,Int.toNat_natCast]<;>first|rfl|ac_rfl)
  have hc:=Bw (own:=own) (other:=other) hk
  refine W.seq ?_
  refine W.af X [] [] [8,9] [] rfl (by(repeat' (first|exact True.intro|apply And.intro))) ?_
  refine W.ret ?_
  exact Fin.ret rfl ⟨by rw[hc],by rw[hc],by rw[hc],by rw[hc],by rw[hc],by rw[hc],by rw[hc],by rw[hc],by rw[hk],⟨⟩⟩
 ·have hk:mY c r=true:=cg hb0 (by simp only[mY,aI,aJ,gt_iff_lt,ge_iff_le,aC,aD,bne_not,cX,decide_not,ne_eq,Bool.not_and,Bool.not_or,Bool.not_not,Bool.and_true,Bool.true_and,Bool.or_false,Bool.false_or,Int.toNat_natCast]<;>first|rfl|ac_rfl)
  obtain⟨hok,hn1,hn2,IB⟩:=HZ hk
  obtain⟨O6,JW,_,_,hs0,Re,_,_⟩:=nG hok
  have hc:hY c r own other=⟨c.id,c.dD,c.key,c.seed,c.aj,if mZ c own then c.sent+1 else c.sent,if fX c other then c.inbox++ [(BK (wH c) (c.inbox.length:Int) other).body]else c.inbox,r+1⟩:=by rw[hY,if_pos hk]
  refine W.skip ?_
  refine W.seq ?_
  refine W.seq ?_
  refine W.af X [] [(35,⟨false,[.a (.sl .u8 (n7 c c.sent))]⟩),(36,⟨false,[.a (.lit (.bool (own==(n7 c c.sent))))]⟩)] [1,3,4,8,10,37] [] rfl ⟨fun _=>jC own (n7 c c.sent),fun h=>vZ c hs0 (of_decide_eq_true h),⟨⟩⟩ ?_
  refine W.cond rfl (fun aH=> ?_) (fun aH=> ?_)
  ·have hh:mZ c own=true:=jI aH (by simp only[mZ,aI,aJ,gt_iff_lt,ge_iff_le,aC,aD,bne_not,cX,decide_not,ne_eq,Bool.not_and,Bool.not_or,Bool.not_not,Bool.and_true,Bool.true_and,Bool.or_false,Bool.false_or,Int.toNat_natCast]<;>first|rfl|ac_rfl)
   refine W.af X [] [] [1,3,4,8,10] [] rfl ⟨⟩ ?_
   rw[bZ (a:=c.sent+1) (by omega)]
   refine W.seq ?_
   refine W.mU X [] [(46,⟨false,[.a (.lit (.int .i64 (bu c)))]⟩),(48,⟨false,[.a (.lit (.int .i64 (gn c.key (IntKind.i64.wrap (1-bu c)))))]⟩),(53,⟨true,[.agg (cO (BK (gn c.key (IntKind.i64.wrap (1-bu c))) (c.inbox.length:Int) other)), .a (.lit (.bool (hJ (gn c.key (IntKind.i64.wrap (1-bu c))) (c.inbox.length:Int) other)))]⟩)] [1,4,8,10,11,12] [] 98303 (.ph 32767 (.br 32767 15 (.last 65536) (.br 24575 15 (.last 73728) (.nil)))) 1 MO (by kernel_rfl) rfl (by kernel_rfl) (by(repeat' (first|with_reducible exact ak.nil|with_reducible refine ak.mk ?_ ?_|with_reducible apply And.intro))<;>skip;(iterate 3 (all_goals try (first|exact(dB c)|exact(eX c.key (IntKind.i64.wrap (1-bu c)))|exact(lK (gn c.key (IntKind.i64.wrap (1-bu c))) (c.inbox.length:Int) other))))) ?_
   rw[qH]
   refine W.seq ?_
   refine W.seq ?_
   refine W.af X [] [] [1,8,10,11,67] [] rfl ⟨⟩ ?_
   refine W.cond rfl (fun bk=> ?_) (fun bk=> ?_)
   ·have hg:fX c other=true:=jI bk (by simp only[fX,aI,aJ,gt_iff_lt,ge_iff_le,aC,aD,bne_not,cX,decide_not,ne_eq,Bool.not_and,Bool.not_or,Bool.not_not,Bool.and_true,Bool.true_and,Bool.or_false,Bool.false_or,Int.toNat_natCast]<;>first|rfl|ac_rfl)
    refine W.af X [] [] [1,8,10] [] rfl (by(repeat' (first|exact True.intro|apply And.intro))<;>first|exact rfl| (simp only[cE,maxLen,lens];omega)) ?_
    refine W.seq ?_
    refine W.af X [] [] [8,10] [] rfl ⟨⟩ ?_
    rw[bZ (a:=r+1) (by omega)]
    refine W.seq ?_
    refine W.af X [] [] [8,9] [] rfl (by(repeat' (first|exact True.intro|apply And.intro))) ?_
    refine W.ret ?_
    exact Fin.ret rfl ⟨by rw[hc],by rw[hc],by rw[hc],by rw[hc],by rw[hc],by rw[hc];simp only[hh,if_true],by rw[hc];simp only[hg,if_true],by rw[hc],by rw[hk],⟨⟩⟩
   ·have hg:fX c other=false:=mV bk (by simp only[fX,aI,aJ,gt_iff_lt,ge_iff_le,aC,aD,bne_not,cX,decide_not,ne_eq,Bool.not_and,Bool.not_or,Bool.not_not,Bool.and_true,Bool.true_and,Bool.or_false,Bool.false_or,Int.toNat_natCast]<;>first|rfl|ac_rfl)
    refine W.skip ?_
    refine W.seq ?_
    refine W.af X [] [] [8,10] [] rfl ⟨⟩ ?_
    rw[bZ (a:=r+1) (by omega)]
    refine W.seq ?_
    refine W.af X [] [] [8,9] [] rfl (by(repeat' (first|exact True.intro|apply And.intro))) ?_
    refine W.ret ?_
    exact Fin.ret rfl ⟨by rw[hc],by rw[hc],by rw[hc],by rw[hc],by rw[hc],by rw[hc];simp only[hh,if_true],by rw[hc];simp[hg],by rw[hc],by rw[hk],⟨⟩⟩
  ·have hh:mZ c own=false:=mV aH (by simp only[mZ,aI,aJ,gt_iff_lt,ge_iff_le,aC,aD,bne_not,cX,decide_not,ne_eq,Bool.not_and,Bool.not_or,Bool.not_not,Bool.and_true,Bool.true_and,Bool.or_false,Bool.false_or,Int.toNat_natCast]<;>first|rfl|ac_rfl)
   refine W.skip ?_
   refine W.seq ?_
   refine W.mU X [] [(46,⟨false,[.a (.lit (.int .i64 (bu c)))]⟩),(48,⟨false,[.a (.lit (.int .i64 (gn c.key (IntKind.i64.wrap (1-bu c)))))]⟩),(53,⟨true,[.agg (cO (BK (gn c.key (IntKind.i64.wrap (1-bu c))) (c.inbox.length:Int) other)), .a (.lit (.bool (hJ (gn c.key (IntKind.i64.wrap (1-bu c))) (c.inbox.length:Int) other)))]⟩)] [1,4,8,10,11,12] [] 98303 (.ph 32767 (.br 32767 15 (.last 65536) (.br 24575 15 (.last 73728) (.nil)))) 1 MO (by kernel_rfl) rfl (by kernel_rfl) (by(repeat' (first|with_reducible exact ak.nil|with_reducible refine ak.mk ?_ ?_|with_reducible apply And.intro))<;>skip;(iterate 3 (all_goals try (first|exact(dB c)|exact(eX c.key (IntKind.i64.wrap (1-bu c)))|exact(lK (gn c.key (IntKind.i64.wrap (1-bu c))) (c.inbox.length:Int) other))))) ?_
   rw[qH]
   refine W.seq ?_
   refine W.seq ?_
   refine W.af X [] [] [1,8,10,11,67] [] rfl ⟨⟩ ?_
   refine W.cond rfl (fun bk=> ?_) (fun bk=> ?_)
   ·have hg:fX c other=true:=jI bk (by simp only[fX,aI,aJ,gt_iff_lt,ge_iff_le,aC,aD,bne_not,cX,decide_not,ne_eq,Bool.not_and,Bool.not_or,Bool.not_not,Bool.and_true,Bool.true_and,Bool.or_false,Bool.false_or,Int.toNat_natCast]<;>first|rfl|ac_rfl)
    refine W.af X [] [] [1,8,10] [] rfl (by(repeat' (first|exact True.intro|apply And.intro))<;>first|exact rfl| (simp only[cE,maxLen,lens];omega)) ?_
    refine W.seq ?_
    refine W.af X [] [] [8,10] [] rfl ⟨⟩ ?_
    rw[bZ (a:=r+1) (by omega)]
    refine W.seq ?_
    refine W.af X [] [] [8,9] [] rfl (by(repeat' (first|exact True.intro|apply And.intro))) ?_
    refine W.ret ?_
    exact Fin.ret rfl ⟨by rw[hc],by rw[hc],by rw[hc],by rw[hc],by rw[hc],by rw[hc];simp[hh],by rw[hc];simp only[hg,if_true],by rw[hc],by rw[hk],⟨⟩⟩
   ·have hg:fX c other=false:=mV bk (by simp only[fX,aI,aJ,gt_iff_lt,ge_iff_le,aC,aD,bne_not,cX,decide_not,ne_eq,Bool.not_and,Bool.not_or,Bool.not_not,Bool.and_true,Bool.true_and,Bool.or_false,Bool.false_or,Int.toNat_natCast]<;>first|rfl|ac_rfl)
    refine W.skip ?_
    refine W.seq ?_
    refine W.af X [] [] [8,10] [] rfl ⟨⟩ ?_
    rw[bZ (a:=r+1) (by omega)]
    refine W.seq ?_
    refine W.af X [] [] [8,9] [] rfl (by(repeat' (first|exact True.intro|apply And.intro))) ?_
    refine W.ret ?_
    exact Fin.ret rfl ⟨by rw[hc],by rw[hc],by rw[hc],by rw[hc],by rw[hc],by rw[hc];simp[hh],by rw[hc];simp[hg],by rw[hc],by rw[hk],⟨⟩⟩
theorem nR(d:aO)(r:Int)(own other:List UInt8)(h0:aN d≤1048576):Sound ty Tryz.prog 67 [.agg (bq d), .a (.lit (.int .i64 r)), .a (.sl .u8 own), .a (.sl .u8 other)] [.agg (bq (rdev d r own other)), .a (.lit (.bool (lP d r)))]:=by
 refine Sound.of X Tryz.call67 Tryz.func67 rfl rfl (by decide) Tryz.ntmps67 (by simp) ?_
 intro zb
 have tj:bh d.live≤1048576∧bh d.saved≤1048576:=by unfold aN at h0;omega
 unfold bh at tj
 refine W.seq ?_
 refine W.af X [] [] [1,2,3,4,8] [] rfl ⟨⟩ ?_
 refine W.seq ?_
 refine W.af X [] [(19,⟨true,[.agg (bf (hY d.live r own other)), .a (.lit (.bool (mY d.live r)))]⟩)] [4,8,10,11] [] rfl (by(repeat' (first|with_reducible exact ak.nil|with_reducible refine ak.mk ?_ ?_|with_reducible apply And.intro))<;>skip;(iterate 1 (all_goals try (first|exact(qN d.live r own other ⟨by omega,by omega⟩))))) ?_
 refine W.seq ?_
 refine W.seq ?_
 refine W.af X [] [(23,⟨false,[.a (.lit (.bool (dX d)))]⟩)] [4,8,10,28] [] rfl (by(repeat' (first|with_reducible exact ak.nil|with_reducible refine ak.mk ?_ ?_|with_reducible apply And.intro))<;>skip;(iterate 1 (all_goals try (first|exact(dr d))))) ?_
 refine W.cond rfl (fun hb0=> ?_) (fun hb0=> ?_)
 ·have hk:lP d r=false:=cj hb0 (by simp only[lP,aI,aJ,gt_iff_lt,ge_iff_le,aC,aD,bne_not,cX,decide_not,ne_eq,Bool.not_and,Bool.not_or,Bool.not_not,Bool.and_true,Bool.true_and,Bool.or_false,Bool.false_or,Int.toNat_natCast]<;>first|rfl|ac_rfl)
  have hd:=D4 (own:=own) (other:=other) hk
  refine W.seq ?_
  refine W.af X [] [(30,⟨true,[.agg (bq d)]⟩)] [8,9] [] rfl (by(repeat' (first|with_reducible exact ak.nil|with_reducible refine ak.mk ?_ ?_|with_reducible apply And.intro))<;>skip;(iterate 1 (all_goals try (first|exact(jj d h0))))) ?_
  refine W.ret ?_
  exact Fin.ret rfl ⟨by rw[hd],by rw[hd],by rw[hd],by rw[hd],by rw[hd],by rw[hd],by rw[hd],by rw[hd],by rw[hd],by rw[hd],by rw[hd],by rw[hd],by rw[hd],by rw[hd],by rw[hd],by rw[hd],by rw[hk],⟨⟩⟩
 ·have hk:lP d r=true:=cg hb0 (by simp only[lP,aI,aJ,gt_iff_lt,ge_iff_le,aC,aD,bne_not,cX,decide_not,ne_eq,Bool.not_and,Bool.not_or,Bool.not_not,Bool.and_true,Bool.true_and,Bool.or_false,Bool.false_or,Int.toNat_natCast]<;>first|rfl|ac_rfl)
  have hz:=Bx (own:=own) (other:=other) hk
  refine W.skip ?_
  refine W.seq ?_
  refine W.draw X [] [(34,⟨true,[.agg (bf d.saved)]⟩)] [8,12] [] 6 MO (by kernel_rfl) rfl (by(repeat' (first|with_reducible exact ak.nil|with_reducible refine ak.mk ?_ ?_|with_reducible apply And.intro))<;>skip;(iterate 1 (all_goals try (first|exact(eK d.saved ⟨by omega,by omega⟩))))) ?_
  refine W.seq ?_
  refine W.seq ?_
  refine W.af X [] [(37,⟨false,[.a (.lit (.bool (n9 (ia d r own other))))]⟩)] [8,12,37] [] rfl (by(repeat' (first|with_reducible exact ak.nil|with_reducible refine ak.mk ?_ ?_|with_reducible apply And.intro))<;>skip;(iterate 1 (all_goals try (first|exact(sx (ia d r own other)))))) ?_
  refine W.cond rfl (fun aH=> ?_) (fun aH=> ?_)
  ·have hd:=D5 hk aH
   refine W.seq ?_
   refine W.af X [] [(39,⟨true,[.agg (bq (D3 (ia d r own other)))]⟩)] [8,9] [] rfl (by(repeat' (first|with_reducible exact ak.nil|with_reducible refine ak.mk ?_ ?_|with_reducible apply And.intro))<;>skip;(iterate 1 (all_goals try (first|exact(qL (ia d r own other) hz))))) ?_
   refine W.ret ?_
   exact Fin.ret rfl ⟨by rw[hd],by rw[hd],by rw[hd],by rw[hd],by rw[hd],by rw[hd],by rw[hd],by rw[hd],by rw[hd],by rw[hd],by rw[hd],by rw[hd],by rw[hd],by rw[hd],by rw[hd],by rw[hd],by rw[hk],⟨⟩⟩
  ·have hd:=D6 hk aH
   refine W.skip ?_
   refine W.seq ?_
   refine W.af X [] [] [8,9] [] rfl (by(repeat' (first|exact True.intro|apply And.intro))) ?_
   refine W.ret ?_
   exact Fin.ret rfl ⟨by rw[hd];rfl,by rw[hd];rfl,by rw[hd];rfl,by rw[hd];rfl,by rw[hd];rfl,by rw[hd];rfl,by rw[hd];rfl,by rw[hd];rfl,by rw[hd];rfl,by rw[hd];rfl,by rw[hd];rfl,by rw[hd];rfl,by rw[hd];rfl,by rw[hd];rfl,by rw[hd];rfl,by rw[hd];rfl,by rw[hk],⟨⟩⟩
theorem sy(x:b7)(h0:wB x):Sound ty Tryz.prog 15 [.agg (bz x)] [.agg (bz (wO x))]:=by
 refine Sound.of X Tryz.call15 Tryz.func15 rfl rfl (by decide) Tryz.ntmps15 (by simp) ?_
 intro zb
 have hls:bY aZ x.aq≤1048576∧bY aN x.ah≤1048576∧bU x.aA≤1048576∧x.replaced.length≤4194304:=h0
 have jq:=cR hls.2.1
 refine W.seq ?_
 refine W.af X [] [] [1,2] [] rfl ⟨⟩ ?_
 refine W.seq ?_
 refine W.af X [] [(17,⟨true,[.agg (bz x)]⟩)] [1,2,3] [] rfl (by(repeat' (first|with_reducible exact ak.nil|with_reducible refine ak.mk ?_ ?_|with_reducible apply And.intro))<;>skip;(iterate 1 (all_goals try (first|exact(wD x h0))))) ?_
 refine W.seq ?_
 refine W.seq ?_
 refine W.af X [] [(19,⟨false,[.a (.lit (.bool (okW x)))]⟩)] [1,2,3,20] [] rfl (by(repeat' (first|with_reducible exact ak.nil|with_reducible refine ak.mk ?_ ?_|with_reducible apply And.intro))<;>skip;(iterate 1 (all_goals try (first|exact(nO x))))) ?_
 refine W.cond rfl (fun hb0=> ?_) (fun hb0=> ?_)
 ·have wU:okW x=false:=by simpa using hb0
  have hw:=H9 wU
  refine W.seq ?_
  refine W.af X [] [] [2] [] rfl (by(repeat' (first|exact True.intro|apply And.intro))) ?_
  refine W.ret ?_
  exact Fin.ret rfl ⟨by rw[hw],by rw[hw],by rw[hw],by rw[hw],by rw[hw],by rw[hw],by rw[hw],by rw[hw],by rw[hw],by rw[hw],⟨⟩⟩
 ·have wU:okW x=true:=by simpa using hb0
  have hw:=D7 wU
  have NB:=zR wU
  have OR:=(tW (vY wU)).2.1
  refine W.skip ?_
  refine W.seq ?_
  refine W.seq ?_
  refine W.af X [] [] [1,2,3,4] [] rfl ⟨⟩ ?_
  refine W.block ?_
  refine W.aP (fun k=>k≤x.ah.length) (fun k:Nat=> [(4, .one (.a (.lit (.int .i64 k))))]) (fun k=> [(19, .arr .aO (E6 x k))]) (fun k=>x.ah.length-k) 0 (fun k=>rfl) (Nat.zero_le _) rfl ?_
  intro k hk
  have E0:=DV x k hk
  refine W.seq ?_
  refine W.seq ?_
  refine W.af X [] [] [1,2,3,4,26] [] rfl ⟨⟩ ?_
  refine W.cond rfl (fun aH=> ?_) (fun aH=> ?_)
  ·try simp only[nb,an,av,aa]at aH
   rw[E0]at aH
   have MF:=DU x k aH
   have O8:=HR x k aH
   have tN:=oX x.aA.rounds (x.ah.getD k (au .aO)).live.next
   have O9:(ey x (x.ah.getD k (au .aO))).length≤x.aA.rounds.length:=tN
   have Rf:(eo x.aA.rounds (x.ah.getD k (au .aO)).live.next).length=(ey x (x.ah.getD k (au .aO))).length:=rfl
   refine W.skip ?_
   refine W.seq ?_
   refine W.block ?_
   refine W.seq ?_
   refine W.draw X [] [(38,⟨true,[.a (.sl .int (eo x.aA.rounds (((E6 x k).getD k (au .aO)).live.next)))]⟩)] [1,2,3,4,5] [] 11 MO (by kernel_rfl) rfl (by(repeat' (first|with_reducible exact ak.nil|with_reducible refine ak.mk ?_ ?_|with_reducible apply And.intro))<;>skip;(iterate 1 (all_goals try (first|exact(oZ x.aA (((E6 x k).getD k (au .aO)).live.next) (by omega)))));all_goals (first| (intros;omega))) ?_
   rw[MF]
   refine W.seq ?_
   refine W.af X [] [] [1,2,3,4,5,6] [] rfl ⟨⟩ ?_
   refine W.block ?_
   refine W.aP (fun k1=>k1≤(ey x (x.ah.getD k (au .aO))).length) (fun k1:Nat=> [(6, .one (.a (.lit (.int .i64 k1))))]) (fun k1=> [(19, .arr .aO (eZ x k k1))]) (fun k1=>(ey x (x.ah.getD k (au .aO))).length-k1) 0 (fun k1=>rfl) (Nat.zero_le _) (by rw[O8];rfl) ?_
   intro k1 hk1
   have lT:=DS x k k1 aH
   refine W.seq ?_
   refine W.seq ?_
   refine W.af X [] [] [1,2,3,4,5,6,42] [] rfl ⟨⟩ ?_
   refine W.cond rfl (fun bk=> ?_) (fun bk=> ?_)
   ·try simp only[nb,an,av,aa]at bk
    have hs:=H8 x k k1 aH bk
    have hsz:=H6 wU aH k1
    refine W.skip ?_
    refine W.seq ?_
    refine W.block ?_
    refine W.seq ?_
    refine W.af X [] [] [1,2,3,4,5,6,7] [] rfl (by(repeat' (first|exact True.intro|apply And.intro))<;>first| (intros;omega)) ?_
    refine W.seq ?_
    refine W.draw X [] [(59,⟨false,[.a (.lit (.int .i64 (cW (((eZ x k k1).getD k (au .aO)).live).key ((ey x (x.ah.getD k (au .aO))).getD k1 (au .int)) (bu (((eZ x k k1).getD k (au .aO)).live)) x.rows))), .a (.lit (.int .i64 (cW (((eZ x k k1).getD k (au .aO)).live).key ((ey x (x.ah.getD k (au .aO))).getD k1 (au .int)) (1-bu (((eZ x k k1).getD k (au .aO)).live)) x.rows)))]⟩)] [1,2,3,4,5,6,7,8,9] [] 13 MO (by kernel_rfl) rfl (by(repeat' (first|with_reducible exact ak.nil|with_reducible refine ak.mk ?_ ?_|with_reducible apply And.intro))<;>skip;(iterate 1 (all_goals try (first|exact(qM (((eZ x k k1).getD k (au .aO)).live) ((ey x (x.ah.getD k (au .aO))).getD k1 (au .int)) x.rows))));all_goals (first| (intros;omega))) ?_
    refine W.seq ?_
    refine W.draw X [] [(71,⟨true,[.a (.sl .u8 (uc x ((ey x (x.ah.getD k (au .aO))).getD k1 (au .int)) (cW ((eZ x k k1).getD k (au .aO)).live.key ((ey x (x.ah.getD k (au .aO))).getD k1 (au .int)) (bu ((eZ x k k1).getD k (au .aO)).live) x.rows) (((eZ x k k1).getD k (au .aO)).live.seed))), .a (.lit (.bool (n8 x ((ey x (x.ah.getD k (au .aO))).getD k1 (au .int)) (cW ((eZ x k k1).getD k (au .aO)).live.key ((ey x (x.ah.getD k (au .aO))).getD k1 (au .int)) (bu ((eZ x k k1).getD k (au .aO)).live) x.rows) (((eZ x k k1).getD k (au .aO)).live.seed))))]⟩)] [1,2,3,4,5,6,7,9,10] [] 14 MO (by kernel_rfl) rfl (by(repeat' (first|with_reducible exact ak.nil|with_reducible refine ak.mk ?_ ?_|with_reducible apply And.intro))<;>skip;(iterate 1 (all_goals try (first|exact(m5 x ((ey x (x.ah.getD k (au .aO))).getD k1 (au .int)) (cW ((eZ x k k1).getD k (au .aO)).live.key ((ey x (x.ah.getD k (au .aO))).getD k1 (au .int)) (bu ((eZ x k k1).getD k (au .aO)).live) x.rows) (((eZ x k k1).getD k (au .aO)).live.seed) wU))));all_goals (first| (intros;omega))) ?_
    refine W.seq ?_
    refine W.draw X [] [(83,⟨true,[.a (.sl .u8 (uc x ((ey x (x.ah.getD k (au .aO))).getD k1 (au .int)) (cW ((eZ x k k1).getD k (au .aO)).live.key ((ey x (x.ah.getD k (au .aO))).getD k1 (au .int)) (1-bu ((eZ x k k1).getD k (au .aO)).live) x.rows) (((eZ x k k1).getD k (au .aO)).live.seed))), .a (.lit (.bool (n8 x ((ey x (x.ah.getD k (au .aO))).getD k1 (au .int)) (cW ((eZ x k k1).getD k (au .aO)).live.key ((ey x (x.ah.getD k (au .aO))).getD k1 (au .int)) (1-bu ((eZ x k k1).getD k (au .aO)).live) x.rows) (((eZ x k k1).getD k (au .aO)).live.seed))))]⟩)] [1,2,3,4,5,6,10,12] [] 14 MO (by kernel_rfl) rfl (by(repeat' (first|with_reducible exact ak.nil|with_reducible refine ak.mk ?_ ?_|with_reducible apply And.intro))<;>skip;(iterate 1 (all_goals try (first|exact(m5 x ((ey x (x.ah.getD k (au .aO))).getD k1 (au .int)) (cW ((eZ x k k1).getD k (au .aO)).live.key ((ey x (x.ah.getD k (au .aO))).getD k1 (au .int)) (1-bu ((eZ x k k1).getD k (au .aO)).live) x.rows) (((eZ x k k1).getD k (au .aO)).live.seed) wU))));all_goals (first| (intros;omega))) ?_
    refine W.seq ?_
    refine W.mU X [] [(98,⟨true,[.agg (bq (rdev ((eZ x k k1).getD k (au .aO)) ((ey x (x.ah.getD k (au .aO))).getD k1 (au .int)) (uc x ((ey x (x.ah.getD k (au .aO))).getD k1 (au .int)) (cW ((eZ x k k1).getD k (au .aO)).live.key ((ey x (x.ah.getD k (au .aO))).getD k1 (au .int)) (bu ((eZ x k k1).getD k (au .aO)).live) x.rows) ((eZ x k k1).getD k (au .aO)).live.seed) (uc x ((ey x (x.ah.getD k (au .aO))).getD k1 (au .int)) (cW ((eZ x k k1).getD k (au .aO)).live.key ((ey x (x.ah.getD k (au .aO))).getD k1 (au .int)) (1-bu ((eZ x k k1).getD k (au .aO)).live) x.rows) ((eZ x k k1).getD k (au .aO)).live.seed))), .a (.lit (.bool (lP ((eZ x k k1).getD k (au .aO)) ((ey x (x.ah.getD k (au .aO))).getD k1 (au .int)))))]⟩)] [1,2,3,4,5,6,14] [] 196607 (.ph 65535 (.br 65535 16 (.last 131072) (.br 49151 16 (.last 147456) (.nil)))) 1 MO (by kernel_rfl) rfl (by kernel_rfl) (by(repeat' (first|with_reducible exact ak.nil|with_reducible refine ak.mk ?_ ?_|with_reducible apply And.intro))<;>skip;(iterate 1 (all_goals try (first|exact(nR ((eZ x k k1).getD k (au .aO)) ((ey x (x.ah.getD k (au .aO))).getD k1 (au .int)) (uc x ((ey x (x.ah.getD k (au .aO))).getD k1 (au .int)) (cW ((eZ x k k1).getD k (au .aO)).live.key ((ey x (x.ah.getD k (au .aO))).getD k1 (au .int)) (bu ((eZ x k k1).getD k (au .aO)).live) x.rows) ((eZ x k k1).getD k (au .aO)).live.seed) (uc x ((ey x (x.ah.getD k (au .aO))).getD k1 (au .int)) (cW ((eZ x k k1).getD k (au .aO)).live.key ((ey x (x.ah.getD k (au .aO))).getD k1 (au .int)) (1-bu ((eZ x k k1).getD k (au .aO)).live) x.rows) ((eZ x k k1).getD k (au .aO)).live.seed) hsz))));all_goals (first| (intros;omega))) ?_
    refine W.af X [] [] [1,2,3,4,5,6] [] rfl (by(repeat' (first|exact True.intro|apply And.intro))<;>first| (intros;omega)) ?_
    refine W.af X [] [] [1,2,3,4,5,6] [] rfl ⟨⟩ ?_
    refine⟨k1+1,by omega,by omega,?_⟩
    rw[bn _ k1 rfl (by omega), ←hs]
    try rfl
   ·try simp only[nb,an,av,aa]at bk
    rw[DT x k k1 aH bk]
    refine W.exit ?_
    refine W.af X [] [] [1,2,3,4] [] rfl ⟨⟩ ?_
    refine⟨k+1,by omega,by omega,?_⟩
    rw[bn _ k rfl (by omega)]
    try rfl
  ·try simp only[nb,an,av,aa]at aH
   rw[E0]at aH
   refine W.exit ?_
   refine W.seq ?_
   refine W.af X [] [] [2] [] rfl (by(repeat' (first|exact True.intro|apply And.intro))) ?_
   refine W.ret ?_
   exact Fin.ret rfl ⟨by rw[hw],by rw[hw],by rw[hw,DW x k (by omega) (by omega)],by rw[hw],by rw[hw],by rw[hw],by rw[hw],by rw[hw],by rw[hw],by rw[hw],⟨⟩⟩
end Go.Proofs.YtjcojocjlglglaaGreat.G
namespace Go.Proofs.YtjcojocjlglglaaGreat.G
set_option linter.all false
open Go.RowKit L D
set_option maxRecDepth 100000
theorem pe(x0:b7)(Rg:(BQ) x0):Sound ty Tryz.prog 3 [.agg (bz x0)] [.a (.lit (.bool true))]:=by
 refine Sound.of X Tryz.call3 Tryz.func3 rfl rfl (by decide) Tryz.ntmps3 (by simp) ?_
 intro zb
 refine W.seq ?_
 refine W.af X [] [] [1] [] rfl ⟨⟩ ?_
 refine W.seq ?_
 refine W.af X [] [] [1,3] [] rfl ⟨⟩ ?_
 refine W.seq ?_
 refine W.af X [] [(13,⟨false,[.a (.lit (.int .i64 (szr (1048576) (bL x0))))]⟩)] [1,3] [] rfl ⟨EM x0 (1048576) (by omega) (by omega),⟨⟩⟩ ?_
 refine W.seq ?_
 refine W.seq ?_
 refine W.af X [] [] [1,15] [] rfl ⟨⟩ ?_
 refine W.cond rfl (fun hb0=> ?_) (fun hb0=> ?_)
 ·try simp only[nb]at hb0
  refine W.seq ?_
  refine W.af X [] [] [2] [] rfl ⟨⟩ ?_
  refine W.ret ?_
  exact Fin.ret rfl ⟨rfl,⟨⟩⟩
 ·try simp only[nb]at hb0
  obtain⟨e0,J7⟩:=cK hb0
  rw[e0]
  have hsz:bL x0≤1048576:=by omega
  have JS:=vK x0
  have Rh:=LC hsz
  have Ri:=LD hsz
  have RN:=vK (wO x0)
  have RP:=JO (NF (ND hsz)) (by decide)
  refine W.skip ?_
  refine W.seq ?_
  refine W.af X [(17,225),(18,250)] [(17,⟨true,[.agg (bz x0)]⟩),(18,⟨true,[.agg (bz (wO x0))]⟩)] [1,4] [] rfl ⟨sy x0 (HF hsz),nB x0 (by omega),⟨⟩⟩ ?_
  refine W.seq ?_
  refine W.af X [(20,275)] [(20,⟨true,[.agg (bz x0)]⟩)] [1,4,5] [] rfl ⟨nB x0 (by omega),⟨⟩⟩ ?_
  refine W.seq ?_
  refine W.af X [(22,300)] [(22,⟨true,[.agg (bz (wO x0))]⟩)] [1,4,5,6] [] rfl ⟨kI x0 (HF hsz),⟨⟩⟩ ?_
  refine W.seq ?_
  refine W.seq ?_
  refine W.af X [] [(25,⟨false,[.a (.lit (.bool true))]⟩)] [1,4,5,6,26] [] rfl ⟨nC (wO x0),⟨⟩⟩ ?_
  refine W.cond rfl (fun aH=> ?_) (fun aH=> ?_)
  ·exact absurd aH (by first| (simp;done)| (simp;omega))
  ·clear aH
   refine W.skip ?_
   refine W.seq ?_
   refine W.seq ?_
   refine W.draw X [(29,325)] [(29,⟨true,[.agg (bz x0)]⟩),(30,⟨false,[.a (.lit (.bool true))]⟩)] [1,4,5,6,31] [] 5 MO (by kernel_rfl) rfl ⟨nC x0,nB x0 (by omega),⟨⟩⟩ ?_
   refine W.cond rfl (fun bk=> ?_) (fun bk=> ?_)
   ·exact absurd bk (by first| (simp;done)| (simp;omega))
   ·clear bk
    refine W.skip ?_
    refine W.seq ?_
    refine W.af X [] [] [1,4,5,6,7] [] rfl ⟨⟩ ?_
    refine W.seq ?_
    refine W.af X [] [(100034,⟨false,[.a (.lit (.int .i64 (1+(fC x0:Nat)))), .agg (bz (tV (1) x0)), .a (.lit (.int .i64 (1)))]⟩)] [1,4,6,7] [] rfl ⟨sN x0 (1) (by omega) (by omega),⟨⟩⟩ ?_
    refine W.seq ?_
    refine W.seq ?_
    refine W.af X [] [(40,⟨false,[.a (.lit (.bool true))]⟩)] [1,4,6,42] [] rfl ⟨fun _=>nC (wO x0),⟨⟩⟩ ?_
    refine W.cond rfl (fun lu=> ?_) (fun lu=> ?_)
    ·exact absurd lu (by first| (simp;done)| (simp;omega))
    ·clear lu
     refine W.skip ?_
     refine W.seq ?_
     refine W.af X [] [] [1,4,6,8] [] rfl ⟨⟩ ?_
     refine W.seq ?_
     refine W.af X [] [(100045,⟨false,[.a (.lit (.int .i64 (1+(fC (wO x0):Nat)))), .agg (bz (tV (1) (wO x0))), .a (.lit (.int .i64 (1)))]⟩)] [1,4,6,8] [] rfl ⟨sN (wO x0) (1) (by omega) (by omega),⟨⟩⟩ ?_
     refine W.seq ?_
     refine W.af X [] [] [1,4,6,8,9] [] rfl ⟨⟩ ?_
     refine W.seq ?_
     refine W.af X [] [(48,⟨false,[.a (.lit (.int .i64 (1+(fC (wO x0):Nat))))]⟩)] [1,4,6,8,9] [] rfl ⟨sP (wO x0) (1) (by omega) (by omega),⟨⟩⟩ ?_
     refine W.seq ?_
     refine W.seq ?_
     refine W.af X [] [] [1,4,6,8,9,50] [] rfl ⟨⟩ ?_
     refine W.cond rfl (fun rB=> ?_) (fun rB=> ?_)
     ·exact absurd rB (by first| (simp;done)| (simp;omega))
     ·clear rB
      refine W.skip ?_
      refine W.seq ?_
      refine W.seq ?_
      refine W.af X [] [] [1,4,6,8,53] [] rfl ⟨⟩ ?_
      refine W.cond rfl (fun zA=> ?_) (fun zA=> ?_)
      ·exact absurd zA (by first| (simp;done)| (simp;omega))
      ·clear zA
       refine W.skip ?_
       refine W.seq ?_
       refine W.af X [(55,350),(56,375)] [(55,⟨true,[.agg (bz x0)]⟩),(56,⟨true,[.agg (bz (wO x0))]⟩)] [4,6,8,10] [] rfl ⟨kI x0 (HF hsz),nB x0 (by omega),⟨⟩⟩ ?_
       refine W.seq ?_
       refine W.seq ?_
       refine W.af X [] [(59,⟨false,[.a (.lit (.bool true))]⟩)] [6,8,60] [] rfl ⟨nC (wO x0),⟨⟩⟩ ?_
       refine W.cond rfl (fun Cv=> ?_) (fun Cv=> ?_)
       ·exact absurd Cv (by first| (simp;done)| (simp;omega))
       ·clear Cv
        refine W.skip ?_
        refine W.seq ?_
        refine W.af X [] [] [6,8,9] [] rfl ⟨⟩ ?_
        refine W.seq ?_
        refine W.af X [] [(63,⟨false,[.a (.lit (.int .i64 (1+(fC (wO x0):Nat))))]⟩)] [8,9] [] rfl ⟨sP (wO x0) (1) (by omega) (by omega),⟨⟩⟩ ?_
        refine W.seq ?_
        refine W.seq ?_
        refine W.af X [] [] [8,9,65] [] rfl ⟨⟩ ?_
        refine W.cond rfl (fun Cw=> ?_) (fun Cw=> ?_)
        ·exact absurd Cw (by first| (simp;done)| (simp;omega))
        ·clear Cw
         refine W.skip ?_
         refine W.seq ?_
         refine W.seq ?_
         refine W.af X [] [] [68] [] rfl ⟨⟩ ?_
         refine W.cond rfl (fun Hl=> ?_) (fun Hl=> ?_)
         ·exact absurd Hl (by first| (simp;done)| (simp;omega))
         ·clear Hl
          refine W.skip ?_
          refine W.seq ?_
          refine W.af X [] [] [2] [] rfl ⟨⟩ ?_
          refine W.ret ?_
          exact Fin.ret rfl ⟨rfl,⟨⟩⟩
end Go.Proofs.YtjcojocjlglglaaGreat.G
