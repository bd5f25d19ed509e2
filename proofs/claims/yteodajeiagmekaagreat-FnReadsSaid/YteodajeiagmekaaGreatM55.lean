/-
  Copies of worlds (the program); what devices read; the phase of reading.
-/
import Derived.Test.YteodajeiagmekaaGreatM37
import Derived.Test.YteodajeiagmekaaGreatM50
import Derived.Test.YteodajeiagmekaaGreatM52
import Derived.Test.YteodajeiagmekaaGreatM53
namespace Go.Proofs.YteodajeiagmekaaGreat.G
set_option linter.all false
open Go.RowKit L D
section
set_option maxRecDepth 100000
theorem sO(key c:Int)(cell:List UInt8):Sound ty Tryz.prog 343 [.a (.lit (.int .i64 key)), .a (.lit (.int .i64 c)), .a (.sl .u8 cell)] [.agg (eW (Lw key c cell)), .a (.lit (.bool (mu key c cell)))]:=by
 refine Sound.o X Tryz.call343 Tryz.func343 Tryz.ntmps343 rfl rfl ?_
 intro zb
 refine W.bound 2 rfl (fun kZ=> ?_)
 refine W.s0 X [0,1,2,6] rfl ⟨⟩ ?_
 refine W.seq ?_
 refine W.sd X [] [(11,⟨false,[.a (.lit (.bool (fA key)))]⟩),(15,⟨false,[.a (.lit (.bool (inr c 0 1000000000000)))]⟩),(30,⟨false,[.a (.sl .u8 (four (jd key c ((cell.take (20:Int).toNat).drop (0:Int).toNat))))]⟩),(31,⟨false,[.a (.lit (.bool (((cell.take (cell.length:Int).toNat).drop (20:Int).toNat)==(four (jd key c ((cell.take (20:Int).toNat).drop (0:Int).toNat))))))]⟩)] [0,1,2,6,33] [] 24 MO (by kernel_rfl) rfl (by(repeat' with_reducible first|exact aj.nil|refine aj.mk ?_ ?_|apply And.intro);(iterate 4 all_goals try first|exact(gX key)|exact fun _=>(aC c 0 1000000000000)|exact fun _=>(oR key c ((cell.take (20:Int).toNat).drop (0:Int).toNat) (by rw[List.length_drop,List.length_take];omega))|exact fun _=>(jr ((cell.take (cell.length:Int).toNat).drop (20:Int).toNat) (four (jd key c ((cell.take (20:Int).toNat).drop (0:Int).toNat)))));all_goals first| ((intro h1;first| (intro h2;first| (intro h3;refine And.intro ?_ ?_)|refine And.intro ?_ ?_)|refine And.intro ?_ ?_)<;>first|omega| ((try simp only[nb,an,aq]at*);(try simp(disch:=omega) only[bl]);omega))) ?_
 refine W.cond rfl (fun hb0=> ?_) (fun hb0=> ?_)
 ·have hA:Lv key c cell=false:=bK hb0 (by simp only[Lv,List.drop_zero,Int.reduceToNat,List.take_length,aH]<;>first|rfl|ac_rfl)
  have hk:=MD hA
  refine W.s0 X [6,7] rfl (by and_intros<;>exact⟨⟩) ?_
  refine W.ret ?_
  exact Fin.ret rfl ⟨by rw[mU hk],by rw[mU hk],by rw[hk],⟨⟩⟩
 ·have hA:Lv key c cell=true:=bG hb0 (by simp only[Lv,List.drop_zero,Int.reduceToNat,List.take_length,aH]<;>first|rfl|ac_rfl)
  obtain⟨hol,Ar⟩:=Ib hA
  refine W.skip ?_
  refine W.sd X [] [(37,⟨false,[.a (.lit (.int .i64 (lB key c)))]⟩),(40,⟨true,[.a (.sl .u8 (decr (lB key c) ((cell.take (20:Int).toNat).drop (0:Int).toNat)))]⟩)] [6,8] [] 7 MO (by kernel_rfl) rfl (by(repeat' with_reducible first|exact aj.nil|refine aj.mk ?_ ?_|apply And.intro);(iterate 2 all_goals try first|exact(uj key c)|exact(Ek (lB key c) ((cell.take (20:Int).toNat).drop (0:Int).toNat) (by rw[List.length_drop,List.length_take];omega)));all_goals first| (intros;omega)) ?_
  rw[Ti]
  refine W.seq ?_
  refine W.s0 X [6,8,45] rfl (by and_intros<;>first|exact⟨⟩| (intros;omega)) ?_
  refine W.cond rfl (fun aB=> ?_) (fun aB=> ?_)
  ·try simp only[nb,an,aq,aa]at aB
   rw[P8]at aB
   have WC:14<Fp key c cell:=by have h:(14:Int)<(Fp key c cell:Int):=aB;omega
   have hk:=X3 WC
   refine W.s0 X [6,7] rfl (by and_intros<;>exact⟨⟩) ?_
   refine W.ret ?_
   exact Fin.ret rfl ⟨by rw[mU hk],by rw[mU hk],by rw[hk],⟨⟩⟩
  ·try simp only[nb,an,aq,aa]at aB
   rw[P8]at aB
   have WC:Fp key c cell≤14:=by have h:(Fp key c cell:Int)≤14:=aB;omega
   have hu1:((Fm key c cell).getD (Int.toNat 1) (au .u8)).toNat≤14:=WC
   have B1:=Ic hA WC
   have hpk:=acd hA WC
   have QA:=MC key c cell
   refine W.skip ?_
   refine W.sd X [] [(58,⟨true,[.a (.sl .u8 (((Fm key c cell).take (IntKind.i64.wrap (2+IntKind.i64.wrap (((Fm key c cell).getD (Int.toNat 1) (au .u8)).toNat:Int))).toNat).drop (Int.toNat 2)))]⟩)] [6,9] [] 14 MO (by kernel_rfl) rfl (by(repeat' with_reducible first|exact aj.nil|refine aj.mk ?_ ?_|apply And.intro)<;>first|exact(cu (((Fm key c cell).take (IntKind.i64.wrap (2+IntKind.i64.wrap (((Fm key c cell).getD (Int.toNat 1) (au .u8)).toNat:Int))).toNat).drop (Int.toNat 2)) (by rw[QA,B1];omega))| (intros;omega)| ((try simp only[nb,an,aq]at*);(simp(disch:=omega) only[bl]);omega)) ?_
   rw[MC,P8]
   refine W.seq ?_
   refine W.sr X [] [(61,⟨false,[.a (.lit (.bool (jA (⟨U5 key c cell,X1 key c cell⟩:Plain))))]⟩)] [6,9,62] [] rfl (by(repeat' with_reducible first|exact aj.nil|refine aj.mk ?_ ?_|apply And.intro)<;>first|exact(mX (⟨U5 key c cell,X1 key c cell⟩:Plain))) ?_
   refine W.cond rfl (fun aM=> ?_) (fun aM=> ?_)
   ·have hk:mu key c cell=false:=by rw[←hpk];simpa using aM
    refine W.s0 X [6,7] rfl (by and_intros<;>exact⟨⟩) ?_
    refine W.ret ?_
    exact Fin.ret rfl ⟨by rw[mU hk],by rw[mU hk],by rw[hk],⟨⟩⟩
   ·have hk:mu key c cell=true:=by rw[←hpk];simpa using aM
    refine W.skip ?_
    refine W.s0 X [6,7] rfl (by and_intros<;>exact⟨⟩) ?_
    refine W.ret ?_
    exact Fin.ret rfl ⟨by rw[CT hk];rfl,by rw[CT hk],by rw[hk],⟨⟩⟩
theorem jX(a:gW)(r:Int)(hz:a.rounds.length≤1048576∧ ∀y,y∈a.rounds→bX List.length y.db.rows≤1048576):Sound ty Tryz.prog 119 [.agg (ck a), .a (.lit (.int .i64 r))] [.agg (aF (dn a.rounds r)), .a (.lit (.bool (gw a.rounds r)))]:=by
 refine Sound.o X Tryz.call119 Tryz.func119 Tryz.ntmps119 rfl rfl ?_
 intro zb
 refine W.b7 0 1 rfl rfl (fun Rw=> ?_)
 refine W.s0 X [1,2,4] rfl ⟨⟩ ?_
 refine W.seq ?_
 refine W.s0 X [1,4,9,10,11] rfl ⟨⟩ ?_
 refine W.block ?_
 refine W.aE (fun k=>k≤a.rounds.length∧(a.rounds.take k).any (MA r)=false) (fun k:Nat=> [(11, .one (.a (.lit (.int .i64 k))))]) (fun k=> []) (fun k=>a.rounds.length-k) 0 (fun k=>rfl) ⟨Nat.zero_le _,rfl⟩ rfl ?_
 rintro k ⟨hk,hall⟩
 refine W.s0 X [1,4,9,10,11,12] rfl ⟨⟩ ?_
 refine W.seq ?_
 refine W.cond rfl (fun hb0=> ?_) (fun hb0=> ?_)
 ·try simp only[nb,an,aq,aa]at hb0
  refine W.skip ?_
  refine W.seq ?_
  refine W.block ?_
  refine W.s0 X [1,4,7,9,10,11] rfl (by and_intros<;>first|exact⟨⟩| (intros;omega)) ?_
  refine W.s0 X [1,4,7,9,10,11,18] rfl ⟨⟩ ?_
  refine W.cond rfl (fun aB=> ?_) (fun aB=> ?_)
  ·have hh:=Te hb0 hall aB
   refine W.sr X [] [(21,⟨true,[.agg (aF ((a.rounds.getD k (au .ay)).db))]⟩)] [4,5] [] rfl (by(repeat' with_reducible first|exact aj.nil|refine aj.mk ?_ ?_|apply And.intro)<;>first|exact(cK ((a.rounds.getD k (au .ay)).db) (hz.2 _ (getD_in _ hb0)))) ?_
   refine W.ret ?_
   exact Fin.ret rfl ⟨by rw[hh.2],by rw[hh.1],⟨⟩⟩
  ·skip
   refine W.skip ?_
   refine W.r0 X [1,4,9,10,11] rfl ⟨⟩ ?_
   refine⟨k+1,⟨by omega,uk (au .ay) hb0 hall aB⟩,by omega,?_⟩
   rw[aR _ k rfl (by omega)]
   try rfl
 ·try simp only[nb,an,aq,aa]at hb0
  refine W.exit ?_
  refine W.s0 X [4,5] rfl (by and_intros<;>exact⟨⟩) ?_
  refine W.ret ?_
  exact Fin.ret rfl ⟨by rw[(CQ (by rw[←hall,List.take_of_length_le hb0])).2],by rw[(CQ (by rw[←hall,List.take_of_length_le hb0])).1],⟨⟩⟩
theorem A4(rows:List (List UInt8))(v:List Int)(hr: ∀r,r∈rows→r.length≤1048576):Sound ty Tryz.prog 340 [.a (.sl (.sl .u8) rows), .a (.sl .int v)] [.a (.sl .u8 (xB rows v))]:=by
 refine Sound.o X Tryz.call340 Tryz.func340 Tryz.ntmps340 rfl rfl ?_
 intro zb
 refine W.bound 0 rfl (fun hl0=> ?_)
 refine W.bound 1 rfl (fun nj=> ?_)
 refine W.s0 X [0,1] rfl ⟨⟩ ?_
 refine W.s0 X [0,1,5] rfl (by and_intros<;>first|exact⟨⟩|exact rfl) ?_
 refine W.seq ?_
 refine W.s0 X [1,5,9,10,11] rfl ⟨⟩ ?_
 refine W.block ?_
 refine W.aE (fun k=>k≤rows.length) (fun k:Nat=> [(11, .one (.a (.lit (.int .i64 k))))]) (fun k=> [(8, .arr .u8 (qP rows v k))]) (fun k=>rows.length-k) 0 (fun k=>rfl) (Nat.zero_le _) rfl ?_
 intro k hk
 have hle:=uG v hr k hk
 refine W.s0 X [1,5,9,10,11,12] rfl ⟨⟩ ?_
 refine W.seq ?_
 refine W.cond rfl (fun hb0=> ?_) (fun hb0=> ?_)
 ·try simp only[nb,an,aq,aa]at hb0
  have hel:=hr _ (getD_in (au (.sl .u8)) hb0)
  refine W.skip ?_
  refine W.seq ?_
  refine W.block ?_
  refine W.s0 X [1,5,6,7,9,10,11] rfl (by and_intros<;>first|exact⟨⟩| (intros;omega)) ?_
  refine W.s0 X [1,5,7,9,10,11,26] rfl (by and_intros<;>first|exact⟨⟩| ((intro h1;first| (intro h2;first| (intro h3;refine And.intro ?_ ?_)|refine And.intro ?_ ?_)|refine And.intro ?_ ?_)<;>first|omega| ((try simp only[nb,an,aq]at*);(try simp(disch:=omega) only[bl]);omega))) ?_
  refine W.cond rfl (fun aB=> ?_) (fun aB=> ?_)
  ·try simp only[nb,an,aq,aa]at aB
   have hs:=uF (rows:=rows) aB.1 aB.2
   refine W.cD X [] [(29,⟨true,[.a (.sl .u8 (cJ (qP rows v k) (rows.getD k (au (.sl .u8)))))]⟩)] [1,5,9,10,11] [] rfl (by(repeat' with_reducible first|exact aj.nil|refine aj.mk ?_ ?_|apply And.intro)<;>first|exact(jC (qP rows v k) (rows.getD k (au (.sl .u8))) (by first|assumption|omega| (simp;done)| (simp;omega)) (by first|assumption|omega| (simp;done)| (simp;omega)))) ?_
   refine W.rename 5 8 rfl ?_
   refine W.r0 X [1,5,9,10,11] rfl ⟨⟩ ?_
   refine⟨k+1,by omega,by omega,?_⟩
   rw[aR _ k rfl (by omega),hs]
   try rfl
  ·try simp only[nb,an,aq,aa]at aB
   have hs:=nH (rows:=rows) (v:=v) (k:=k) (by omega)
   refine W.skip ?_
   refine W.r0 X [1,5,9,10,11] rfl ⟨⟩ ?_
   refine⟨k+1,by omega,by omega,?_⟩
   rw[aR _ k rfl (by omega),hs]
   try rfl
 ·try simp only[nb,an,aq,aa]at hb0
  refine W.exit ?_
  refine W.s0 X [4] rfl ⟨⟩ ?_
  refine W.ret ?_
  exact Fin.ret rfl ⟨by rw[Kk hk (Or.inl hb0)],⟨⟩⟩
theorem ou(d:DB)(v:List Int):Sound ty Tryz.prog 251 [.agg (aF d), .a (.sl .int v)] [.a (.sl .u8 (dM d v))]:=by
 refine Sound.o X Tryz.call251 Tryz.func251 Tryz.ntmps251 rfl rfl ?_
 intro zb
 refine W.s0 X [1,2] rfl ⟨⟩ ?_
 refine W.seq ?_
 refine W.sr X [] [(6,⟨false,[.a (.lit (.bool (bV d)))]⟩),(13,⟨false,[.a (.lit (.bool (bN v (d.rows.length:Int))))]⟩)] [1,2,15] [] rfl (by(repeat' with_reducible first|exact aj.nil|refine aj.mk ?_ ?_|apply And.intro);(iterate 2 all_goals try first|exact(cW d)|exact fun _=>(gI v (d.rows.length:Int)))) ?_
 refine W.cond rfl (fun hb0=> ?_) (fun hb0=> ?_)
 ·have hk:(bV d&&bN v d.rows.length)=false:=bK hb0 (by simp only[aH]<;>first|rfl|ac_rfl)
  refine W.s0 X [4] rfl ⟨⟩ ?_
  refine W.ret ?_
  exact Fin.ret rfl ⟨by rw[dM,hk];rfl,⟨⟩⟩
 ·have hk:(bV d&&bN v d.rows.length)=true:=bG hb0 (by simp only[aH]<;>first|rfl|ac_rfl)
  have hkk:=hk
  rw[Bool.and_eq_true]at hkk
  have Qa: ∀r,r∈d.rows→r.length≤1048576:=fun r hr=>by rw[(iF.1 hkk.1).2 r hr];decide
  have hxl:(xB d.rows v).length≤1048576:=uG v Qa d.rows.length (Nat.le_refl _)
  refine W.skip ?_
  refine W.sd X [] [(20,⟨true,[.a (.sl .u8 (xB d.rows v))]⟩),(21,⟨true,[.a (.sl .u8 (cJ Mo (xB d.rows v)))]⟩)] [4] [] 7 MO (by kernel_rfl) rfl ⟨jC Mo (xB d.rows v) (by rw[oX];decide) hxl,A4 d.rows v Qa,⟨rfl,bA _ (by decide)⟩,rfl,by omega,⟨by decide,by decide⟩,⟨⟩⟩ ?_
  refine W.ret ?_
  exact Fin.ret rfl ⟨by rw[dM,if_pos hk],⟨⟩⟩
theorem qS(key:Int)(a:bQ)(h1:a.selection.length≤262144)(h2:a.data.length≤262144):Sound ty Tryz.prog 337 [.a (.lit (.int .i64 key)), .agg (dJ a)] [.a (.lit (.int .i64 (A0 key a.server a.round a.selection a.data)))]:=by
 refine Sound.o X Tryz.call337 Tryz.func337 Tryz.ntmps337 rfl rfl ?_
 intro zb
 refine W.s0 X [0,3] rfl ⟨⟩ ?_
 refine W.seq ?_
 refine W.fZ X [] [(18,⟨true,[.a (.sl .int (AF a.data))]⟩),(20,⟨true,[.a (.sl .int [[191,a.server,a.round,(a.selection.length:Int)],a.selection,AF a.data].flatten)]⟩),(21,⟨false,[.a (.lit (.int .i64 (kh key ([[191,a.server,a.round,(a.selection.length:Int)],a.selection,AF a.data].flatten))))]⟩)] [4] [] 245759 (.ph 16383 (.br 16383 14 (.last 229376) (.br 16382 14 (.last 229377) (.nil)))) 1 MO (by kernel_rfl) rfl (by kernel_rfl) (by(repeat' with_reducible first|exact aj.nil|refine aj.mk ?_ ?_|apply And.intro);(iterate 3 all_goals try first|exact(nU a.data (by omega))|exact(jU [[191,a.server,a.round,(a.selection.length:Int)],a.selection,AF a.data] (by simp) (by simp[sn];omega))|exact(bC key ([[191,a.server,a.round,(a.selection.length:Int)],a.selection,AF a.data].flatten) (by simp[sn];omega)));all_goals first|exact rfl|exact⟨rfl,bA _ (by decide)⟩) ?_
 refine W.ret ?_
 exact Fin.ret rfl ⟨by simp[A0],⟨⟩⟩
theorem wP(key:Int)(a:bQ)(h1:a.selection.length≤262144)(h2:a.data.length≤262144):dG ty Tryz.prog 247 [(5, .arr .int a.selection),(6, .arr .u8 a.data)] [.a (.lit (.int .i64 key)), .agg [.lit (.int .i64 a.server), .lit (.int .i64 a.round), .own 5, .own 6, .lit (.int .i64 a.Cv)]] [(5, .arr .int a.selection),(6, .arr .u8 a.data)] [.agg [.lit (.int .i64 a.server), .lit (.int .i64 a.round), .own 5, .own 6, .lit (.int .i64 (A0 key a.server a.round a.selection a.data))]]:=by
 refine dG.of X Tryz.call247 Tryz.func247 rfl rfl (by decide) Tryz.ntmps247 (by simp) rfl ?_
 intro zb
 refine W.s0 X [0,3,4] rfl ⟨⟩ ?_
 refine W.sr X [] [(7,⟨false,[.a (.lit (.int .i64 (A0 key a.server a.round a.selection a.data)))]⟩)] [3,4] [] rfl (by(repeat' with_reducible first|exact aj.nil|refine aj.mk ?_ ?_|apply And.intro)<;>first|exact(qS key a h1 h2)) ?_
 refine W.s0 X [4] rfl (by and_intros<;>exact⟨⟩) ?_
 refine W.ret ?_
 exact og.ret rfl ⟨rfl,rfl,rfl,rfl,rfl,⟨⟩⟩
theorem zw(key sv r:Int)(d:DB)(v:List Int)(hv:v.length≤262144):Sound ty Tryz.prog 246 [.a (.lit (.int .i64 key)), .a (.lit (.int .i64 sv)), .a (.lit (.int .i64 r)), .agg (aF d), .a (.sl .int v)] [.agg (dJ (ga key sv r d v)), .a (.lit (.bool (iV d v)))]:=by
 refine Sound.o X Tryz.call246 Tryz.func246 Tryz.ntmps246 rfl rfl ?_
 intro zb
 have hal:=uH d v
 refine W.s0 X [0,1,2,4,8,10] rfl ⟨⟩ ?_
 refine W.sr X [] [(15,⟨true,[.a (.sl .u8 (dM d v))]⟩)] [0,1,2,4,10,12] [] rfl (by(repeat' with_reducible first|exact aj.nil|refine aj.mk ?_ ?_|apply And.intro)<;>first|exact(ou d v)) ?_
 refine W.seq ?_
 refine W.s0 X [0,1,2,4,10,12,18] rfl ⟨⟩ ?_
 refine W.cond rfl (fun hb0=> ?_) (fun hb0=> ?_)
 ·try simp only[nb,an,aq,aa]at hb0
  have hk:=Oh (d:=d) (v:=v) (by omega)
  have hg:=Tk (key:=key) (sv:=sv) (r:=r) hk
  refine W.s0 X [10,11] rfl (by and_intros<;>exact⟨⟩) ?_
  refine W.ret ?_
  exact Fin.ret rfl (by and_intros<;>first|exact⟨⟩| (rw[hg];rfl;done)| (rw[hk];done))
 ·try simp only[nb,an,aq,aa]at hb0
  have hk:=zu (d:=d) (v:=v) (by omega)
  have hg:=CU (key:=key) (sv:=sv) (r:=r) hk
  have h24:=vL hk
  refine W.skip ?_
  refine W.sr X [] [(24,⟨true,[.a (.sl .int v)]⟩),(800027,⟨true,[.agg [.lit (.int .i64 (⟨sv,r,v,dM d v,0⟩:bQ).server), .lit (.int .i64 (⟨sv,r,v,dM d v,0⟩:bQ).round), .own 5, .own 6, .lit (.int .i64 (A0 key (⟨sv,r,v,dM d v,0⟩:bQ).server (⟨sv,r,v,dM d v,0⟩:bQ).round (⟨sv,r,v,dM d v,0⟩:bQ).selection (⟨sv,r,v,dM d v,0⟩:bQ).data))]]⟩),(700027,⟨true,[.agg [.ptr 5 24, .ptr 6 15], .agg [], .agg [.own 5, .own 6], .a (.sl .int ((⟨sv,r,v,dM d v,0⟩:bQ).selection)), .a (.sl .u8 ((⟨sv,r,v,dM d v,0⟩:bQ).data))]⟩)] [10,11] [] rfl (by(repeat' with_reducible first|exact aj.nil|refine aj.mk ?_ ?_|apply And.intro);(iterate 2 all_goals try first|exact(gH v (by omega))|exact(wP key (⟨sv,r,v,dM d v,0⟩:bQ) (by show v.length≤_;omega) (by show(dM d v).length≤_;omega)))) ?_
  refine W.ret ?_
  exact Fin.ret rfl (by and_intros<;>first|exact⟨⟩| (rw[hg];rfl;done)| (rw[hk];done))
theorem sP(s:aO)(key r:Int)(d:DB)(v:List Int)(hv:v.length≤262144):Sound ty Tryz.prog 120 [.agg (bq s), .a (.lit (.int .i64 key)), .a (.lit (.int .i64 r)), .agg (aF d), .a (.sl .int v)] [.agg (dJ (Fo s key r d v)), .a (.lit (.bool (iV d v)))]:=by
 refine Sound.o X Tryz.call120 Tryz.func120 Tryz.ntmps120 rfl rfl ?_
 intro zb
 refine W.s0 X [1,2,4,5,8,10] rfl ⟨⟩ ?_
 refine W.sr X [] [(21,⟨true,[.agg (dJ (ga key s.id r d v)), .a (.lit (.bool (iV d v)))]⟩)] [1,5,10,12,13] [] rfl (by(repeat' with_reducible first|exact aj.nil|refine aj.mk ?_ ?_|apply And.intro)<;>first|exact(zw key s.id r d v (by first|assumption|omega| (simp;done)| (simp;omega)))) ?_
 refine W.seq ?_
 refine W.s0 X [1,10,12,13,29] rfl ⟨⟩ ?_
 refine W.cond rfl (fun hb0=> ?_) (fun hb0=> ?_)
 ·have hq:(iV d v&&(s.behavior==3))=true:=kN hb0 (by simp only[aH]<;>first|rfl|ac_rfl)
  obtain⟨hk,ha⟩:=Oi (key:=key) (r:=r) hq
  have hg:=CU (key:=key) (sv:=s.id) (r:=r) hk
  have Fw:(ga key s.id r d v).data.length=24:=by rw[hg];exact vL hk
  refine W.s0 X [1,10,12,13] rfl (by and_intros<;>first|exact⟨⟩| (intros;omega)|exact(pR _).1|exact(pR _).2) ?_
  rw[Tj]
  refine W.cD X [] [(800038,⟨true,[.agg [.lit (.int .i64 (⟨(ga key s.id r d v).server,(ga key s.id r d v).round,(ga key s.id r d v).selection,Ai (ga key s.id r d v).data,(ga key s.id r d v).Cv⟩:bQ).server), .lit (.int .i64 (⟨(ga key s.id r d v).server,(ga key s.id r d v).round,(ga key s.id r d v).selection,Ai (ga key s.id r d v).data,(ga key s.id r d v).Cv⟩:bQ).round), .own 5, .own 6, .lit (.int .i64 (A0 key (⟨(ga key s.id r d v).server,(ga key s.id r d v).round,(ga key s.id r d v).selection,Ai (ga key s.id r d v).data,(ga key s.id r d v).Cv⟩:bQ).server (⟨(ga key s.id r d v).server,(ga key s.id r d v).round,(ga key s.id r d v).selection,Ai (ga key s.id r d v).data,(ga key s.id r d v).Cv⟩:bQ).round (⟨(ga key s.id r d v).server,(ga key s.id r d v).round,(ga key s.id r d v).selection,Ai (ga key s.id r d v).data,(ga key s.id r d v).Cv⟩:bQ).selection (⟨(ga key s.id r d v).server,(ga key s.id r d v).round,(ga key s.id r d v).selection,Ai (ga key s.id r d v).data,(ga key s.id r d v).Cv⟩:bQ).data))]]⟩),(700038,⟨true,[.agg [.ptr 5 23, .ptr 6 24], .agg [], .agg [.own 5, .own 6], .a (.sl .int ((⟨(ga key s.id r d v).server,(ga key s.id r d v).round,(ga key s.id r d v).selection,Ai (ga key s.id r d v).data,(ga key s.id r d v).Cv⟩:bQ).selection)), .a (.sl .u8 ((⟨(ga key s.id r d v).server,(ga key s.id r d v).round,(ga key s.id r d v).selection,Ai (ga key s.id r d v).data,(ga key s.id r d v).Cv⟩:bQ).data))]⟩)] [10,12,13] [] rfl (by(repeat' with_reducible first|exact aj.nil|refine aj.mk ?_ ?_|apply And.intro)<;>first|exact(wP key (⟨(ga key s.id r d v).server,(ga key s.id r d v).round,(ga key s.id r d v).selection,Ai (ga key s.id r d v).data,(ga key s.id r d v).Cv⟩:bQ) (by show(ga key s.id r d v).selection.length≤_;rw[hg];exact hv) (by show(Ai (ga key s.id r d v).data).length≤_;rw[Ie,Fw];decide))) ?_
  refine W.s0 X [10,11] rfl (by and_intros<;>exact⟨⟩) ?_
  refine W.ret ?_
  exact Fin.ret rfl (by and_intros<;>first|exact⟨⟩| (rw[ha];simp only[hg];rfl;done)| (rw[hk];done))
 ·have hq:(iV d v&&(s.behavior==3))=false:=n8 hb0 (by simp only[aH]<;>first|rfl|ac_rfl)
  have ha:=Tl (key:=key) (r:=r) hq
  refine W.skip ?_
  refine W.s0 X [10,11] rfl (by and_intros<;>exact⟨⟩) ?_
  refine W.ret ?_
  exact Fin.ret rfl (by and_intros<;>first|exact⟨⟩|rfl| (rw[ha];done))
theorem qT(b:List UInt8):Sound ty Tryz.prog 341 [.a (.sl .u8 b)] [.a (.lit (.bool (!decide ((b.length:Int)=24))))]:=by
 refine Sound.o X Tryz.call341 Tryz.func341 Tryz.ntmps341 rfl rfl ?_
 intro zb
 refine W.s0 X [0] rfl ⟨⟩ ?_
 refine W.s0 X [2] rfl ⟨⟩ ?_
 refine W.ret ?_
 exact Fin.ret rfl ⟨(congrArg Value.bool (by simp only[aH]<;>first|rfl|ac_rfl)),⟨⟩⟩
theorem FD(l:List (List UInt8))(hr: ∀a,a∈l→a.length≤1048576):Sound ty Tryz.prog 342 [.a (.sl (.sl .u8) l)] [.a (.sl .u8 (uE l))]:=by
 refine Sound.o X Tryz.call342 Tryz.func342 Tryz.ntmps342 rfl rfl ?_
 intro zb
 refine W.bound 0 rfl (fun kZ=> ?_)
 refine W.s0 X [0] rfl ⟨⟩ ?_
 refine W.s0 X [0,3] rfl (by and_intros<;>first|exact⟨⟩|exact rfl) ?_
 refine W.seq ?_
 refine W.s0 X [3,7,8,9] rfl ⟨⟩ ?_
 refine W.block ?_
 refine W.aE (fun k=>k≤l.length) (fun k:Nat=> [(9, .one (.a (.lit (.int .i64 k))))]) (fun k=> [(6, .arr .u8 (uE (l.take k)))]) (fun k=>l.length-k) 0 (fun k=>rfl) (Nat.zero_le _) rfl ?_
 intro k hk
 have hle:=Kl hr k
 refine W.s0 X [3,7,8,9,10] rfl ⟨⟩ ?_
 refine W.seq ?_
 refine W.cond rfl (fun hb0=> ?_) (fun hb0=> ?_)
 ·try simp only[nb,an,aq,aa]at hb0
  have hel:=hr _ (getD_in (au (.sl .u8)) hb0)
  have hs:=A2 l k hb0
  refine W.skip ?_
  refine W.seq ?_
  refine W.block ?_
  refine W.s0 X [3,5,7,8,9] rfl (by and_intros<;>first|exact⟨⟩| (intros;omega)) ?_
  refine W.cD X [] [(15,⟨true,[.a (.sl .u8 (cJ (uE (l.take k)) (l.getD k (au (.sl .u8)))))]⟩)] [3,7,8,9] [] rfl (by(repeat' with_reducible first|exact aj.nil|refine aj.mk ?_ ?_|apply And.intro)<;>first|exact(jC (uE (l.take k)) (l.getD k (au (.sl .u8))) (by first|assumption|omega| (simp;done)| (simp;omega)) (by first|assumption|omega| (simp;done)| (simp;omega)))) ?_
  refine W.rename 3 6 rfl ?_
  refine W.r0 X [3,7,8,9] rfl ⟨⟩ ?_
  refine⟨k+1,by omega,by omega,?_⟩
  rw[aR _ k rfl (by omega),hs]
  try rfl
 ·try simp only[nb,an,aq,aa]at hb0
  refine W.exit ?_
  refine W.s0 X [2] rfl ⟨⟩ ?_
  refine W.ret ?_
  exact Fin.ret rfl ⟨by rw[List.take_of_length_le hb0],⟨⟩⟩
theorem s7(l:List (List UInt8)):Sound ty Tryz.prog 259 [.a (.sl (.sl .u8) l)] [.a (.sl .u8 (Ob l)), .a (.lit (.bool (fL l)))]:=by
 refine Sound.o X Tryz.call259 Tryz.func259 Tryz.ntmps259 rfl rfl ?_
 intro zb
 refine W.bound 0 rfl (fun kZ=> ?_)
 refine W.s0 X [0] rfl ⟨⟩ ?_
 refine W.seq ?_
 refine W.sr X [] [(6,⟨false,[.a (.lit (.bool (cq (l.length:Int))))]⟩),(10,⟨false,[.a (.lit (.bool (l.any fun b=> !decide ((b.length:Int)=24))))]⟩)] [0,11] [] rfl (by(repeat' with_reducible first|exact aj.nil|refine aj.mk ?_ ?_|apply And.intro);(iterate 2 all_goals try first|exact(fI (l.length:Int))|exact fun _=>(dS _ _ _ qT))) ?_
 refine W.cond rfl (fun hb0=> ?_) (fun hb0=> ?_)
 ·have hk:fL l=false:=by rw[fL,um];exact bK hb0 (by simp only[aH]<;>first|rfl|ac_rfl)
  refine W.s0 X [2,3] rfl ⟨⟩ ?_
  refine W.ret ?_
  exact Fin.ret rfl ⟨by rw[CV hk],by rw[hk],⟨⟩⟩
 ·have hk:fL l=true:=by rw[fL,um];exact bG hb0 (by simp only[aH]<;>first|rfl|ac_rfl)
  have hel:=Kn hk
  refine W.skip ?_
  refine W.sr X [] [(13,⟨true,[.a (.sl .u8 (uE l))]⟩)] [2,3] [] rfl (by(repeat' with_reducible first|exact aj.nil|refine aj.mk ?_ ?_|apply And.intro)<;>first|exact(FD l hel)) ?_
  refine W.ret ?_
  exact Fin.ret rfl ⟨by rw[Ig hk],by rw[hk],⟨⟩⟩
theorem uL(l:List bQ)(hl:l.length≤1048576):Sound ty Tryz.prog 132 [.a (.sl .bQ l)] [.a (.sl .u8 (Ob (l.map bQ.data))), .a (.lit (.bool (fL (l.map bQ.data))))]:=by
 refine Sound.o X Tryz.call132 Tryz.func132 Tryz.ntmps132 rfl rfl ?_
 intro zb
 refine W.s0 X [0] rfl ⟨⟩ ?_
 refine W.s0 X [0,4] rfl (by and_intros<;>first|exact⟨⟩|exact rfl) ?_
 refine W.toBrr 4 60 rfl ?_
 refine W.seq ?_
 refine W.s0 X [4,8,9,10] rfl ⟨⟩ ?_
 refine W.block ?_
 refine W.aE (fun k=>k≤l.length) (fun k:Nat=> [(10, .one (.a (.lit (.int .i64 k))))]) (fun k=> [(60, .lZ (.sl .u8) ((l.take k).map bQ.data) .oB)]) (fun k=>l.length-k) 0 (fun k=>rfl) (Nat.zero_le _) rfl ?_
 intro k hk
 have hle:=aY l k
 refine W.s0 X [4,8,9,10,11] rfl ⟨⟩ ?_
 refine W.seq ?_
 refine W.cond rfl (fun hb0=> ?_) (fun hb0=> ?_)
 ·try simp only[nb,an,aq,aa]at hb0
  have hs:=l9 bQ.data l k (au .bQ) hb0
  have hml:((l.take k).map bQ.data).length=(l.take k).length:=List.length_map ..
  refine W.skip ?_
  refine W.seq ?_
  refine W.block ?_
  refine W.s0 X [4,6,8,9,10] rfl (by and_intros<;>first|exact⟨⟩| (intros;omega)) ?_
  refine W.cD X [(18,60)] [] [4,8,9,10] [] rfl (by and_intros<;>first|exact⟨⟩|exact rfl| (simp only[cT,maxLen,lens];omega)) ?_
  refine W.r0 X [4,8,9,10] rfl ⟨⟩ ?_
  refine⟨k+1,by omega,by omega,?_⟩
  rw[aR _ k rfl (by omega),hs]
  try rfl
 ·try simp only[nb,an,aq,aa]at hb0
  rw[List.take_of_length_le hb0]
  refine W.exit ?_
  refine W.sr X [] [(21,⟨true,[.a (.sl .u8 (Ob (l.map bQ.data))), .a (.lit (.bool (fL (l.map bQ.data))))]⟩)] [2,3] [] rfl (by(repeat' with_reducible first|exact aj.nil|refine aj.mk ?_ ?_|apply And.intro)<;>first|exact(s7 (l.map bQ.data))) ?_
  refine W.ret ?_
  exact Fin.ret rfl ⟨rfl,rfl,⟨⟩⟩
theorem jQ(x:aJ)(r row s:Int)(hk:okW x=true):Sound ty Tryz.prog 30 [.agg (aG x), .a (.lit (.int .i64 r)), .a (.lit (.int .i64 row)), .a (.lit (.int .i64 s))] [.a (.sl .u8 (xC x r row s)), .a (.lit (.bool (pz x r row s)))]:=by
 refine Sound.o X Tryz.call30 Tryz.func30 Tryz.ntmps30 rfl rfl ?_
 intro zb
 have har:=Ii hk
 have hql:=Oj r row s hk
 have hs4:=cN hk
 have hrl:=dL x.ah.length r row s
 refine W.s0 X [1,2,3,4] rfl ⟨⟩ ?_
 refine W.sr X [] [(21,⟨true,[.agg (aF (dn x.ak.rounds r)), .a (.lit (.bool (gw x.ak.rounds r)))]⟩)] [1,2,3,4,10,11] [] rfl (by(repeat' with_reducible first|exact aj.nil|refine aj.mk ?_ ?_|apply And.intro)<;>first|exact(jX x.ak r ⟨by omega,har.2⟩)) ?_
 refine W.seq ?_
 refine W.sr X [] [(25,⟨false,[.a (.lit (.bool (okW x)))]⟩)] [1,2,3,4,10,30] [] rfl (by(repeat' with_reducible first|exact aj.nil|refine aj.mk ?_ ?_|apply And.intro)<;>first|exact(bw x)) ?_
 refine W.cond rfl (fun hb0=> ?_) (fun hb0=> ?_)
 ·have hh:gw x.ak.rounds r=false:=by rw[hk]at hb0;simpa using hb0
  refine W.s0 X [8,9] rfl ⟨⟩ ?_
  refine W.ret ?_
  exact Fin.ret rfl ⟨by rw[(Ih hh).1],by rw[(Ih hh).2],⟨⟩⟩
 ·have hh:gw x.ak.rounds r=true:=by rw[hk]at hb0;simpa using hb0
  have ZY:=Ok (row:=row) (s:=s) hh
  refine W.skip ?_
  refine W.s0 X [1,2,3,4,10,12] rfl (by and_intros<;>first|exact⟨⟩|exact rfl) ?_
  refine W.seq ?_
  refine W.sd X [] [(39,⟨true,[.a (.sl .int (cG x.ah.length r row s))]⟩),(40,⟨true,[.a (.sl (.sl .int) (eM x.rows row (cG x.ah.length r row s)))]⟩)] [1,4,10,12,40,41,42] [] 11 MO (by kernel_rfl) rfl (by(repeat' with_reducible first|exact aj.nil|refine aj.mk ?_ ?_|apply And.intro);(iterate 2 all_goals try first|exact(lI x r row s (by omega))|exact(lH x.rows row (cG x.ah.length r row s) (by omega)))) ?_
  refine W.block ?_
  refine W.aE (fun k=>k≤(query' x r row s).length) (fun k:Nat=> [(42, .one (.a (.lit (.int .i64 k))))]) (fun k=> [(31, .arr .bQ (mZ x r (dn x.ak.rounds r) (query' x r row s) k))]) (fun k=>(query' x r row s).length-k) 0 (fun k=>rfl) (Nat.zero_le _) rfl ?_
  intro k hk
  have hal:=Gz x r (dn x.ak.rounds r) (query' x r row s) k
  have hqy:(eM x.rows row (cG x.ah.length r row s)).length=(query' x r row s).length:=rfl
  refine W.s0 X [1,4,10,12,40,41,42,43] rfl ⟨⟩ ?_
  refine W.seq ?_
  refine W.cond rfl (fun aB=> ?_) (fun aB=> ?_)
  ·try simp only[nb,an,aq,aa]at aB
   have hqe:=To x r row s k
   have hs:=EI x r (dn x.ak.rounds r) (query' x r row s) k
   refine W.skip ?_
   refine W.seq ?_
   refine W.block ?_
   refine W.s0 X [1,4,10,12,13,14,40,41,42] rfl (by and_intros<;>first|exact⟨⟩| (intros;omega)) ?_
   refine W.seq ?_
   refine W.fZ X [] [(56,⟨false,[.a (.lit (.int .i64 (fU x.az (k:Int))))]⟩),(60,⟨true,[.agg (dJ (Fo (x.ah.getD k (au .aO)) (fU x.az (k:Int)) r (dn x.ak.rounds r) ((query' x r row s).getD k (au (.sl .int))))), .a (.lit (.bool (iV (dn x.ak.rounds r) ((query' x r row s).getD k (au (.sl .int))))))]⟩)] [1,4,10,12,15,16,40,41,42] [] 393215 (.ph 131071 (.br 131071 17 (.last 262144) (.br 98303 17 (.last 294912) (.nil)))) 1 MO (by kernel_rfl) rfl (by kernel_rfl) (by(repeat' with_reducible first|exact aj.nil|refine aj.mk ?_ ?_|apply And.intro);(iterate 2 all_goals try first|exact(lM x.az (k:Int))|exact(sP (x.ah.getD k (au .aO)) (fU x.az (k:Int)) r (dn x.ak.rounds r) ((query' x r row s).getD k (au (.sl .int))) (by omega)));all_goals first| (intros;omega)) ?_
   refine W.seq ?_
   refine W.s0 X [1,4,10,12,15,40,41,42,64] rfl ⟨⟩ ?_
   refine W.cond rfl (fun aM=> ?_) (fun aM=> ?_)
   ·have hno:=Th aB (by simpa using aM)
    refine W.s0 X [8,9] rfl ⟨⟩ ?_
    refine W.ret ?_
    exact Fin.ret rfl ⟨by rw[ZY.1,CV hno],by rw[ZY.2,hno],⟨⟩⟩
   ·skip
    refine W.skip ?_
    refine W.cD X [(68,31)] [] [1,4,10,12,40,41,42] [] rfl (by and_intros<;>first|exact⟨⟩|exact rfl| (simp only[cT,maxLen,lens];omega)) ?_
    refine W.r0 X [1,4,10,12,40,41,42] rfl ⟨⟩ ?_
    refine⟨k+1,by omega,by omega,?_⟩
    rw[aR _ k rfl (by omega),hs]
    try rfl
  ·try simp only[nb,an,aq,aa]at aB
   refine W.exit ?_
   refine W.sr X [] [(71,⟨true,[.a (.sl .u8 (Ob ((mZ x r (dn x.ak.rounds r) (query' x r row s) k).map bQ.data))), .a (.lit (.bool (fL ((mZ x r (dn x.ak.rounds r) (query' x r row s) k).map bQ.data))))]⟩)] [8,9] [] rfl (by(repeat' with_reducible first|exact aj.nil|refine aj.mk ?_ ?_|apply And.intro)<;>first|exact(uL (mZ x r (dn x.ak.rounds r) (query' x r row s) k) (by omega))) ?_
   refine W.ret ?_
   exact Fin.ret rfl ⟨by rw[ZY.1,show k=(query' x r row s).length by omega];rfl,by rw[ZY.2,show k=(query' x r row s).length by omega];rfl,⟨⟩⟩
end
section
set_option maxRecDepth 100000
theorem Bb(c:ep)(h0:bX List.length c.av≤1048576∧bX List.length c.inbox≤1048576):Sound ty Tryz.prog 292 [.agg (bn c)] [.agg (bz (⟨c,c⟩:aL))]:=by
 refine Sound.o X Tryz.call292 Tryz.func292 Tryz.ntmps292 rfl rfl ?_
 intro zb
 refine W.s0 X [1,2] rfl ⟨⟩ ?_
 refine W.sd X [(6,40)] [(4,⟨true,[.agg (bn c)]⟩),(6,⟨true,[.agg (bn c)]⟩)] [2] [] 5 MO (by kernel_rfl) rfl (by(repeat' with_reducible first|exact aj.nil|refine aj.mk ?_ ?_|apply And.intro);(iterate 2 all_goals try first|exact(fM c h0))) ?_
 refine W.ret ?_
 exact Fin.ret rfl ⟨rfl,rfl,rfl,rfl,rfl,rfl,rfl,rfl,rfl,rfl,rfl,rfl,rfl,rfl,rfl,rfl,⟨⟩⟩
theorem zF(d:aL)(h0:aP d≤1048576):Sound ty Tryz.prog 175 [.agg (bz d)] [.agg (bz (Lx d))]:=by
 refine Sound.o X Tryz.call175 Tryz.func175 Tryz.ntmps175 rfl rfl ?_
 intro zb
 have wV:bD d.live≤1048576∧bD d.saved≤1048576:=by unfold aP at h0;omega
 unfold bD at wV
 refine W.s0 X [1,2] rfl ⟨⟩ ?_
 refine W.seq ?_
 refine W.sr X [] [(4,⟨false,[.a (.lit (.bool (cL d)))]⟩)] [1,2,5] [] rfl (by(repeat' with_reducible first|exact aj.nil|refine aj.mk ?_ ?_|apply And.intro)<;>first|exact(fK d)) ?_
 refine W.cond rfl (fun hb0=> ?_) (fun hb0=> ?_)
 ·have hk:cL d=false:=by simpa using hb0
  have hd:Lx d=d:=by rw[Lx,hk];rfl
  refine W.sr X [] [(7,⟨true,[.agg (bz d)]⟩)] [2] [] rfl (by(repeat' with_reducible first|exact aj.nil|refine aj.mk ?_ ?_|apply And.intro)<;>first|exact(kU d h0)) ?_
  refine W.ret ?_
  exact Fin.ret rfl (by and_intros<;>first|exact⟨⟩| (rw[hd];done))
 ·have hk:cL d=true:=by simpa using hb0
  have hd:Lx d=⟨d.live,d.live⟩:=by rw[Lx,if_pos hk]
  refine W.skip ?_
  refine W.sr X [] [(10,⟨true,[.agg (bz (⟨d.live,d.live⟩:aL))]⟩)] [2] [] rfl (by(repeat' with_reducible first|exact aj.nil|refine aj.mk ?_ ?_|apply And.intro)<;>first|exact(Bb d.live ⟨by omega,by omega⟩)) ?_
  refine W.ret ?_
  exact Fin.ret rfl (by and_intros<;>first|exact⟨⟩| (rw[hd];done))
theorem Bc(d:aL):Sound ty Tryz.prog 262 [.agg (bz d)] [.a (.lit (.bool (wM d)))]:=by
 refine Sound.o X Tryz.call262 Tryz.func262 Tryz.ntmps262 rfl rfl ?_
 intro zb
 refine W.s0 X [1] rfl ⟨⟩ ?_
 refine W.sr X [] [(4,⟨false,[.a (.lit (.bool (cL d)))]⟩)] [2] [] rfl (by(repeat' with_reducible first|exact aj.nil|refine aj.mk ?_ ?_|apply And.intro)<;>first|exact(fK d)) ?_
 refine W.ret ?_
 exact Fin.ret rfl ⟨(congrArg Value.bool (by simp only[wM,aH]<;>first|rfl|ac_rfl)),⟨⟩⟩
theorem zG(c:ep)(r n:Int):Sound ty Tryz.prog 134 [.agg (bn c), .a (.lit (.int .i64 r)), .a (.lit (.int .i64 n))] [.a (.lit (.int .i64 (dN c.key r (bS c) n))), .a (.lit (.int .i64 (dN c.key r (1-bS c) n)))]:=by
 refine Sound.o X Tryz.call134 Tryz.func134 Tryz.ntmps134 rfl rfl ?_
 intro zb
 have hdw:=TT c
 refine W.s0 X [1,2,3] rfl ⟨⟩ ?_
 refine W.sd X [] [(12,⟨false,[.a (.lit (.int .i64 (bS c)))]⟩),(14,⟨false,[.a (.lit (.int .i64 (dN c.key r (bS c) n)))]⟩),(19,⟨false,[.a (.lit (.int .i64 (bS c)))]⟩),(22,⟨false,[.a (.lit (.int .i64 (dN c.key r (IntKind.i64.wrap (1-bS c)) n)))]⟩)] [6,7] [] 17 MO (by kernel_rfl) rfl (by(repeat' with_reducible first|exact aj.nil|refine aj.mk ?_ ?_|apply And.intro);(iterate 4 all_goals try first|exact(gm c)|exact(fH c.key r (bS c) n)|exact(fH c.key r (IntKind.i64.wrap (1-bS c)) n))) ?_
 refine W.ret ?_
 exact Fin.ret rfl ⟨rfl,by rw[hdw],⟨⟩⟩
theorem zH(c:ep)(r:Int)(own other:List UInt8)(h0:bX List.length c.av≤1048576∧bX List.length c.inbox≤1048576):Sound ty Tryz.prog 260 [.agg (bn c), .a (.lit (.int .i64 r)), .a (.sl .u8 own), .a (.sl .u8 other)] [.agg (bn (eN c r own other)), .a (.lit (.bool (oF c r)))]:=by
 refine Sound.o X Tryz.call260 Tryz.func260 Tryz.ntmps260 rfl rfl ?_
 intro zb
 refine W.s0 X [1,2,3,4,8] rfl ⟨⟩ ?_
 refine W.sr X [] [(14,⟨true,[.agg (bn c)]⟩)] [1,2,3,4,8,10] [] rfl (by(repeat' with_reducible first|exact aj.nil|refine aj.mk ?_ ?_|apply And.intro)<;>first|exact(fM c h0)) ?_
 refine W.seq ?_
 refine W.sr X [] [(16,⟨false,[.a (.lit (.bool (dh c)))]⟩),(22,⟨false,[.a (.lit (.bool (inr r c.next 99999)))]⟩)] [1,2,3,4,8,10,24] [] rfl (by(repeat' with_reducible first|exact aj.nil|refine aj.mk ?_ ?_|apply And.intro);(iterate 2 all_goals try first|exact(fJ c)|exact fun _=>(aC r c.next 99999))) ?_
 refine W.cond rfl (fun hb0=> ?_) (fun hb0=> ?_)
 ·have hk:oF c r=false:=bK hb0 (by simp only[oF,aH]<;>first|rfl|ac_rfl)
  have hc:=KB (own:=own) (other:=other) hk
  refine W.s0 X [8,9] rfl (by and_intros<;>exact⟨⟩) ?_
  refine W.ret ?_
  exact Fin.ret rfl (by and_intros<;>first|exact⟨⟩| (rw[hc];done)| (rw[hk];done))
 ·have hk:oF c r=true:=bG hb0 (by simp only[oF,aH]<;>first|rfl|ac_rfl)
  obtain⟨hok,hn1,hn2,Vq⟩:=TO hk
  obtain⟨hu1,XM,_,_,hs0,hs9,_,_⟩:=qL hok
  have hc:eN c r own other=⟨c.id,c.eu,c.key,c.seed,c.av,if sK c own then c.sent+1 else c.sent,if jW c other then c.inbox++ [(Lw (EH c) (c.inbox.length:Int) other).body]else c.inbox,r+1⟩:=by rw[eN,if_pos hk]
  refine W.skip ?_
  refine W.seq ?_
  refine W.sr X [] [(37,⟨false,[.a (.sl .u8 (qz c c.sent))]⟩),(38,⟨false,[.a (.lit (.bool (own==(qz c c.sent))))]⟩)] [1,3,4,8,10,39] [] rfl ⟨fun _=>kC own (qz c c.sent),fun h=>nY c c.sent hs0 (of_decide_eq_true h),⟨⟩⟩ ?_
  refine W.cond rfl (fun aB=> ?_) (fun aB=> ?_)
  ·have hh:sK c own=true:=kN aB (by simp only[sK,aH]<;>first|rfl|ac_rfl)
   refine W.r0 X [1,3,4,8,10] rfl ⟨⟩ ?_
   rw[bl (a:=c.sent+1) (by omega)]
   refine W.seq ?_
   refine W.fZ X [] [(48,⟨false,[.a (.lit (.int .i64 (bS c)))]⟩),(50,⟨false,[.a (.lit (.int .i64 (jN c.key (IntKind.i64.wrap (1-bS c)))))]⟩),(55,⟨true,[.agg (eW (Lw (jN c.key (IntKind.i64.wrap (1-bS c))) (c.inbox.length:Int) other)), .a (.lit (.bool (mu (jN c.key (IntKind.i64.wrap (1-bS c))) (c.inbox.length:Int) other)))]⟩)] [1,4,8,10,11,12] [] 98303 (.ph 32767 (.br 32767 15 (.last 65536) (.br 24575 15 (.last 73728) (.nil)))) 1 MO (by kernel_rfl) rfl (by kernel_rfl) (by(repeat' with_reducible first|exact aj.nil|refine aj.mk ?_ ?_|apply And.intro);(iterate 3 all_goals try first|exact(gm c)|exact(jf c.key (IntKind.i64.wrap (1-bS c)))|exact(sO (jN c.key (IntKind.i64.wrap (1-bS c))) (c.inbox.length:Int) other))) ?_
   rw[zB]
   refine W.seq ?_
   refine W.s0 X [1,8,10,11,69] rfl ⟨⟩ ?_
   refine W.cond rfl (fun aM=> ?_) (fun aM=> ?_)
   ·have hg:jW c other=true:=kN aM (by simp only[jW,aH]<;>first|rfl|ac_rfl)
    refine W.r0 X [1,8,10] rfl (by and_intros<;>first|exact⟨⟩|exact rfl| (simp only[cT,maxLen,lens];omega)) ?_
    refine W.s0 X [8,10] rfl ⟨⟩ ?_
    rw[bl (a:=r+1) (by omega)]
    refine W.s0 X [8,9] rfl (by and_intros<;>exact⟨⟩) ?_
    refine W.ret ?_
    exact Fin.ret rfl (by and_intros<;>first|exact⟨⟩| (rw[hc];done)| (rw[hc];simp only[hh,if_true];done)| (rw[hc];simp only[hg,if_true];done)| (rw[hk];done))
   ·have hg:jW c other=false:=n8 aM (by simp only[jW,aH]<;>first|rfl|ac_rfl)
    refine W.skip ?_
    refine W.s0 X [8,10] rfl ⟨⟩ ?_
    rw[bl (a:=r+1) (by omega)]
    refine W.s0 X [8,9] rfl (by and_intros<;>exact⟨⟩) ?_
    refine W.ret ?_
    exact Fin.ret rfl (by and_intros<;>first|exact⟨⟩| (rw[hc];done)| (rw[hc];simp only[hh,if_true];done)| (rw[hc];simp[hg];done)| (rw[hk];done))
  ·have hh:sK c own=false:=n8 aB (by simp only[sK,aH]<;>first|rfl|ac_rfl)
   refine W.skip ?_
   refine W.seq ?_
   refine W.fZ X [] [(48,⟨false,[.a (.lit (.int .i64 (bS c)))]⟩),(50,⟨false,[.a (.lit (.int .i64 (jN c.key (IntKind.i64.wrap (1-bS c)))))]⟩),(55,⟨true,[.agg (eW (Lw (jN c.key (IntKind.i64.wrap (1-bS c))) (c.inbox.length:Int) other)), .a (.lit (.bool (mu (jN c.key (IntKind.i64.wrap (1-bS c))) (c.inbox.length:Int) other)))]⟩)] [1,4,8,10,11,12] [] 98303 (.ph 32767 (.br 32767 15 (.last 65536) (.br 24575 15 (.last 73728) (.nil)))) 1 MO (by kernel_rfl) rfl (by kernel_rfl) (by(repeat' with_reducible first|exact aj.nil|refine aj.mk ?_ ?_|apply And.intro);(iterate 3 all_goals try first|exact(gm c)|exact(jf c.key (IntKind.i64.wrap (1-bS c)))|exact(sO (jN c.key (IntKind.i64.wrap (1-bS c))) (c.inbox.length:Int) other))) ?_
   rw[zB]
   refine W.seq ?_
   refine W.s0 X [1,8,10,11,69] rfl ⟨⟩ ?_
   refine W.cond rfl (fun aM=> ?_) (fun aM=> ?_)
   ·have hg:jW c other=true:=kN aM (by simp only[jW,aH]<;>first|rfl|ac_rfl)
    refine W.r0 X [1,8,10] rfl (by and_intros<;>first|exact⟨⟩|exact rfl| (simp only[cT,maxLen,lens];omega)) ?_
    refine W.s0 X [8,10] rfl ⟨⟩ ?_
    rw[bl (a:=r+1) (by omega)]
    refine W.s0 X [8,9] rfl (by and_intros<;>exact⟨⟩) ?_
    refine W.ret ?_
    exact Fin.ret rfl (by and_intros<;>first|exact⟨⟩| (rw[hc];done)| (rw[hc];simp[hh];done)| (rw[hc];simp only[hg,if_true];done)| (rw[hk];done))
   ·have hg:jW c other=false:=n8 aM (by simp only[jW,aH]<;>first|rfl|ac_rfl)
    refine W.skip ?_
    refine W.s0 X [8,10] rfl ⟨⟩ ?_
    rw[bl (a:=r+1) (by omega)]
    refine W.s0 X [8,9] rfl (by and_intros<;>exact⟨⟩) ?_
    refine W.ret ?_
    exact Fin.ret rfl (by and_intros<;>first|exact⟨⟩| (rw[hc];done)| (rw[hc];simp[hh];done)| (rw[hc];simp[hg];done)| (rw[hk];done))
theorem vY(d:aL)(r:Int)(own other:List UInt8)(h0:aP d≤1048576):Sound ty Tryz.prog 135 [.agg (bz d), .a (.lit (.int .i64 r)), .a (.sl .u8 own), .a (.sl .u8 other)] [.agg (bz (rdev d r own other)), .a (.lit (.bool (qQ d r)))]:=by
 refine Sound.o X Tryz.call135 Tryz.func135 Tryz.ntmps135 rfl rfl ?_
 intro zb
 have wV:bD d.live≤1048576∧bD d.saved≤1048576:=by unfold aP at h0;omega
 unfold bD at wV
 refine W.s0 X [1,2,3,4,8] rfl ⟨⟩ ?_
 refine W.sr X [] [(19,⟨true,[.agg (bn (eN d.live r own other)), .a (.lit (.bool (oF d.live r)))]⟩)] [4,8,10,11] [] rfl (by(repeat' with_reducible first|exact aj.nil|refine aj.mk ?_ ?_|apply And.intro)<;>first|exact(zH d.live r own other ⟨by omega,by omega⟩)) ?_
 refine W.seq ?_
 refine W.sr X [] [(26,⟨false,[.a (.lit (.bool (cL d)))]⟩)] [4,8,10,28] [] rfl (by(repeat' with_reducible first|exact aj.nil|refine aj.mk ?_ ?_|apply And.intro)<;>first|exact fun _=>(fK d)) ?_
 refine W.cond rfl (fun hb0=> ?_) (fun hb0=> ?_)
 ·have hk:qQ d r=false:=bK hb0 (by simp only[qQ,aH]<;>first|rfl|ac_rfl)
  have hd:=Ov (own:=own) (other:=other) hk
  refine W.sr X [] [(30,⟨true,[.agg (bz d)]⟩)] [8,9] [] rfl (by(repeat' with_reducible first|exact aj.nil|refine aj.mk ?_ ?_|apply And.intro)<;>first|exact(kU d h0)) ?_
  refine W.ret ?_
  exact Fin.ret rfl (by and_intros<;>first|exact⟨⟩| (rw[hd];done)| (rw[hk];done))
 ·have hk:qQ d r=true:=bG hb0 (by simp only[qQ,aH]<;>first|rfl|ac_rfl)
  have hz:=KC (own:=own) (other:=other) hk
  refine W.skip ?_
  refine W.sd X [] [(34,⟨true,[.agg (bn d.saved)]⟩)] [8,12] [] 6 MO (by kernel_rfl) rfl (by(repeat' with_reducible first|exact aj.nil|refine aj.mk ?_ ?_|apply And.intro)<;>first|exact(fM d.saved ⟨by omega,by omega⟩)) ?_
  refine W.seq ?_
  refine W.sr X [] [(37,⟨false,[.a (.lit (.bool (wM (mw d r own other))))]⟩)] [8,12,37] [] rfl (by(repeat' with_reducible first|exact aj.nil|refine aj.mk ?_ ?_|apply And.intro)<;>first|exact(Bc (mw d r own other))) ?_
  refine W.cond rfl (fun aB=> ?_) (fun aB=> ?_)
  ·have hd:=Ox hk aB
   refine W.cD X [] [(39,⟨true,[.agg (bz (Lx (mw d r own other)))]⟩)] [8,12] [] rfl (by(repeat' with_reducible first|exact aj.nil|refine aj.mk ?_ ?_|apply And.intro)<;>first|exact(zF (mw d r own other) hz)) ?_
   refine W.s0 X [8,9] rfl (by and_intros<;>exact⟨⟩) ?_
   refine W.ret ?_
   exact Fin.ret rfl (by and_intros<;>first|exact⟨⟩| (rw[hd];done)| (rw[hk];done))
  ·have hd:=Oy hk aB
   refine W.skip ?_
   refine W.s0 X [8,9] rfl (by and_intros<;>exact⟨⟩) ?_
   refine W.ret ?_
   exact Fin.ret rfl (by and_intros<;>first|exact⟨⟩| (rw[hd];rfl;done)| (rw[hk];done))
theorem Bd(x:aJ)(h0:wB x):Sound ty Tryz.prog 31 [.agg (aG x)] [.agg (aG (wN x))]:=by
 refine Sound.o X Tryz.call31 Tryz.func31 Tryz.ntmps31 rfl rfl ?_
 intro zb
 have hls:bX bp x.ah≤1048576∧bX aP x.af≤1048576∧cB x.ak≤1048576∧x.replaced.length≤4194304:=h0
 have j0:=cI hls.2.1
 refine W.s0 X [1,2] rfl ⟨⟩ ?_
 refine W.sr X [] [(15,⟨true,[.agg (aG x)]⟩)] [1,2,3] [] rfl (by(repeat' with_reducible first|exact aj.nil|refine aj.mk ?_ ?_|apply And.intro)<;>first|exact(lQ x h0)) ?_
 refine W.seq ?_
 refine W.sr X [] [(17,⟨false,[.a (.lit (.bool (okW x)))]⟩)] [1,2,3,18] [] rfl (by(repeat' with_reducible first|exact aj.nil|refine aj.mk ?_ ?_|apply And.intro)<;>first|exact(bw x)) ?_
 refine W.cond rfl (fun hb0=> ?_) (fun hb0=> ?_)
 ·have gS:okW x=false:=by simpa using hb0
  have hw:=TS gS
  refine W.s0 X [2] rfl (by and_intros<;>exact⟨⟩) ?_
  refine W.ret ?_
  exact Fin.ret rfl (by and_intros<;>first|exact⟨⟩| (rw[hw];done))
 ·have gS:okW x=true:=by simpa using hb0
  have hw:=Oz gS
  have har:=Ii gS
  have hd8:=(oS (kD gS)).2.1
  refine W.skip ?_
  refine W.seq ?_
  refine W.s0 X [1,2,3,21,22,23] rfl ⟨⟩ ?_
  refine W.block ?_
  refine W.aE (fun k=>k≤x.af.length) (fun k:Nat=> [(23, .one (.a (.lit (.int .i64 k))))]) (fun k=> [(17, .arr .aL (P7 x k))]) (fun k=>x.af.length-k) 0 (fun k=>rfl) (Nat.zero_le _) rfl ?_
  intro k hk
  have nG:=Of x k hk
  refine W.s0 X [1,2,3,21,22,23,24] rfl ⟨⟩ ?_
  refine W.seq ?_
  refine W.cond rfl (fun aB=> ?_) (fun aB=> ?_)
  ·try simp only[nb,an,aq,aa]at aB
   have hrg:=Oe x k aB
   have h00:=Tf x k aB
   have B4:=xy x.ak.rounds (x.af.getD k (au .aL)).live.next
   have aex:(gP x (x.af.getD k (au .aL))).length≤x.ak.rounds.length:=B4
   have hrq:(fk x.ak.rounds (x.af.getD k (au .aL)).live.next).length=(gP x (x.af.getD k (au .aL))).length:=rfl
   refine W.skip ?_
   refine W.seq ?_
   refine W.block ?_
   refine W.s0 X [1,2,3,4,5,21,22,23] rfl (by and_intros<;>first|exact⟨⟩| (intros;omega)) ?_
   refine W.sr X [] [(33,⟨true,[.a (.sl .int (fk x.ak.rounds ((x.af.getD k (au .aL)).live.next)))]⟩)] [1,2,3,4,5,21,22,23,33,34,35] [] rfl (by(repeat' with_reducible first|exact aj.nil|refine aj.mk ?_ ?_|apply And.intro)<;>first|exact(xA x.ak ((x.af.getD k (au .aL)).live.next) (by omega))) ?_
   refine W.block ?_
   refine W.aE (fun k1=>k1≤(gP x (x.af.getD k (au .aL))).length) (fun k1:Nat=> [(35, .one (.a (.lit (.int .i64 k1))))]) (fun k1=> [(17, .arr .aL (jh x k k1))]) (fun k1=>(gP x (x.af.getD k (au .aL))).length-k1) 0 (fun k1=>rfl) (Nat.zero_le _) (by rw[h00];rfl) ?_
   intro k1 hk1
   have oD:=Oc x k k1 aB
   refine W.s0 X [1,2,3,4,5,21,22,23,33,34,35,36] rfl ⟨⟩ ?_
   refine W.seq ?_
   refine W.cond rfl (fun aM=> ?_) (fun aM=> ?_)
   ·try simp only[nb,an,aq,aa]at aM
    have hs:=Km x k k1 aB aM
    have hsz:=TP gS aB k1
    refine W.skip ?_
    refine W.seq ?_
    refine W.block ?_
    refine W.s0 X [1,2,3,4,5,7,21,22,23,33,34,35] rfl (by and_intros<;>first|exact⟨⟩| (intros;omega)) ?_
    refine W.sr X [] [(45,⟨false,[.a (.lit (.int .i64 (dN ((x.af.getD k (au .aL)).live).key ((gP x (x.af.getD k (au .aL))).getD k1 (au .int)) (bS ((x.af.getD k (au .aL)).live)) x.rows))), .a (.lit (.int .i64 (dN ((x.af.getD k (au .aL)).live).key ((gP x (x.af.getD k (au .aL))).getD k1 (au .int)) (1-bS ((x.af.getD k (au .aL)).live)) x.rows)))]⟩)] [1,2,3,4,5,7,8,9,21,22,23,33,34,35] [] rfl (by(repeat' with_reducible first|exact aj.nil|refine aj.mk ?_ ?_|apply And.intro)<;>first|exact(zG ((x.af.getD k (au .aL)).live) ((gP x (x.af.getD k (au .aL))).getD k1 (au .int)) x.rows)) ?_
    refine W.sr X [] [(55,⟨true,[.a (.sl .u8 (xC x ((gP x (x.af.getD k (au .aL))).getD k1 (au .int)) (dN (x.af.getD k (au .aL)).live.key ((gP x (x.af.getD k (au .aL))).getD k1 (au .int)) (bS (x.af.getD k (au .aL)).live) x.rows) ((x.af.getD k (au .aL)).live.seed))), .a (.lit (.bool (pz x ((gP x (x.af.getD k (au .aL))).getD k1 (au .int)) (dN (x.af.getD k (au .aL)).live.key ((gP x (x.af.getD k (au .aL))).getD k1 (au .int)) (bS (x.af.getD k (au .aL)).live) x.rows) ((x.af.getD k (au .aL)).live.seed))))]⟩)] [1,2,3,4,5,7,9,10,21,22,23,33,34,35] [] rfl (by(repeat' with_reducible first|exact aj.nil|refine aj.mk ?_ ?_|apply And.intro)<;>first|exact(jQ x ((gP x (x.af.getD k (au .aL))).getD k1 (au .int)) (dN (x.af.getD k (au .aL)).live.key ((gP x (x.af.getD k (au .aL))).getD k1 (au .int)) (bS (x.af.getD k (au .aL)).live) x.rows) ((x.af.getD k (au .aL)).live.seed) gS)) ?_
    refine W.sr X [] [(65,⟨true,[.a (.sl .u8 (xC x ((gP x (x.af.getD k (au .aL))).getD k1 (au .int)) (dN (x.af.getD k (au .aL)).live.key ((gP x (x.af.getD k (au .aL))).getD k1 (au .int)) (1-bS (x.af.getD k (au .aL)).live) x.rows) ((x.af.getD k (au .aL)).live.seed))), .a (.lit (.bool (pz x ((gP x (x.af.getD k (au .aL))).getD k1 (au .int)) (dN (x.af.getD k (au .aL)).live.key ((gP x (x.af.getD k (au .aL))).getD k1 (au .int)) (1-bS (x.af.getD k (au .aL)).live) x.rows) ((x.af.getD k (au .aL)).live.seed))))]⟩)] [1,2,3,4,5,7,10,12,21,22,23,33,34,35] [] rfl (by(repeat' with_reducible first|exact aj.nil|refine aj.mk ?_ ?_|apply And.intro)<;>first|exact(jQ x ((gP x (x.af.getD k (au .aL))).getD k1 (au .int)) (dN (x.af.getD k (au .aL)).live.key ((gP x (x.af.getD k (au .aL))).getD k1 (au .int)) (1-bS (x.af.getD k (au .aL)).live) x.rows) ((x.af.getD k (au .aL)).live.seed) gS)) ?_
    refine W.fZ X [] [(80,⟨true,[.agg (bz (rdev ((jh x k k1).getD k (au .aL)) ((gP x (x.af.getD k (au .aL))).getD k1 (au .int)) (xC x ((gP x (x.af.getD k (au .aL))).getD k1 (au .int)) (dN (x.af.getD k (au .aL)).live.key ((gP x (x.af.getD k (au .aL))).getD k1 (au .int)) (bS (x.af.getD k (au .aL)).live) x.rows) (x.af.getD k (au .aL)).live.seed) (xC x ((gP x (x.af.getD k (au .aL))).getD k1 (au .int)) (dN (x.af.getD k (au .aL)).live.key ((gP x (x.af.getD k (au .aL))).getD k1 (au .int)) (1-bS (x.af.getD k (au .aL)).live) x.rows) (x.af.getD k (au .aL)).live.seed))), .a (.lit (.bool (qQ ((jh x k k1).getD k (au .aL)) ((gP x (x.af.getD k (au .aL))).getD k1 (au .int)))))]⟩)] [1,2,3,4,5,21,22,23,33,34,35] [] 65535 (.ph 65535 (.br 65535 16 (.last 0) (.br 49151 16 (.last 16384) (.nil)))) 1 MO (by kernel_rfl) rfl (by kernel_rfl) (by(repeat' with_reducible first|exact aj.nil|refine aj.mk ?_ ?_|apply And.intro)<;>first|exact(vY ((jh x k k1).getD k (au .aL)) ((gP x (x.af.getD k (au .aL))).getD k1 (au .int)) (xC x ((gP x (x.af.getD k (au .aL))).getD k1 (au .int)) (dN (x.af.getD k (au .aL)).live.key ((gP x (x.af.getD k (au .aL))).getD k1 (au .int)) (bS (x.af.getD k (au .aL)).live) x.rows) (x.af.getD k (au .aL)).live.seed) (xC x ((gP x (x.af.getD k (au .aL))).getD k1 (au .int)) (dN (x.af.getD k (au .aL)).live.key ((gP x (x.af.getD k (au .aL))).getD k1 (au .int)) (1-bS (x.af.getD k (au .aL)).live) x.rows) (x.af.getD k (au .aL)).live.seed) hsz)| (intros;omega)) ?_
    refine W.r0 X [1,2,3,4,5,21,22,23,33,34,35] rfl ⟨⟩ ?_
    refine⟨k1+1,by omega,by omega,?_⟩
    rw[aR _ k1 rfl (by omega), ←hs]
    try rfl
   ·try simp only[nb,an,aq,aa]at aM
    rw[Od x k k1 aB aM]
    refine W.exit ?_
    refine W.r0 X [1,2,3,21,22,23] rfl ⟨⟩ ?_
    refine⟨k+1,by omega,by omega,?_⟩
    rw[aR _ k rfl (by omega)]
    try rfl
  ·try simp only[nb,an,aq,aa]at aB
   refine W.exit ?_
   refine W.s0 X [2] rfl (by and_intros<;>exact⟨⟩) ?_
   refine W.ret ?_
   exact Fin.ret rfl (by and_intros<;>first|exact⟨⟩| (rw[hw];done)| (rw[hw,Og x k (by omega) (by omega)];done))
end
end Go.Proofs.YteodajeiagmekaaGreat.G
