/-
  FnSelectionViews: the law, walked by the symbolic machine: it returns true. No condition.
-/
import Derived.Test.YteodajeiagmekaaGreatM39
import Derived.Test.YteodajeiagmekaaGreatM63
import Derived.Test.YteodajeiagmekaaGreatM80
import Derived.Test.YteodajeiagmekaaGreatM87
namespace Go.Proofs.YteodajeiagmekaaGreat.G
set_option linter.all false
open Go.RowKit L D
section
set_option maxRecDepth 100000
theorem wu(x:aJ)(c f m:Int)(hm: -9223372036854775808≤m):Sound ty Tryz.prog 66 [.agg (aG x), .a (.lit (.int .i64 c)), .a (.lit (.int .i64 f)), .a (.lit (.int .i64 m))] [.a (.lit (.int .i64 (rq x c f m)))]:=by
 refine Sound.o X Tryz.call66 Tryz.func66 Tryz.ntmps66 rfl rfl ?_
 intro zb
 refine W.b7 0 2 rfl rfl (fun j0=> ?_)
 have hmi:=Xr m 100
 refine W.s0 X [1,2,3,4] rfl ⟨⟩ ?_
 refine W.seq ?_
 refine W.sr X [] [(13,⟨false,[.a (.lit (.bool (okW x)))]⟩),(18,⟨false,[.a (.lit (.bool (qy x c)))]⟩),(23,⟨false,[.a (.lit (.bool (inr f 0 100000)))]⟩)] [1,2,3,4,25] [] rfl (by(repeat' with_reducible first|exact aj.nil|refine aj.mk ?_ ?_|apply And.intro);(iterate 3 all_goals try first|exact(bw x)|exact fun _=>(lE x c)|exact fun _=>(aC f 0 100000))) ?_
 refine W.cond rfl (fun hb0=> ?_) (fun hb0=> ?_)
 ·have gS:M0 x c f=false:=bK hb0 (by simp only[M0,aH]<;>first|rfl|ac_rfl)
  refine W.s0 X [8] rfl ⟨⟩ ?_
  refine W.ret ?_
  exact Fin.ret rfl ⟨by rw[rq,if_neg (by rw[gS];decide)],⟨⟩⟩
 ·have gS:M0 x c f=true:=bG hb0 (by simp only[M0,aH]<;>first|rfl|ac_rfl)
  have hcf:=aaF gS
  refine W.skip ?_
  refine W.s0 X [2,3,4,9] rfl (by and_intros<;>first|exact⟨⟩| (intros;omega)) ?_
  refine W.s0 X [2,3,4,9,10] rfl ⟨⟩ ?_
  refine W.seq ?_
  refine W.s0 X [2,3,4,9,10,11] rfl ⟨⟩ ?_
  refine W.block ?_
  refine W.aE (fun k=>k≤(p7 m 100-1).toNat) (fun k:Nat=> [(10, .one (.a (.lit (.int .i64 ((lk (x.af.getD c.toNat (au .aL)).live.key f x.rows k:Nat):Int))))),(11, .one (.a (.lit (.int .i64 (f+((k+1:Nat):Int))))))]) (fun k=> []) (fun k=>(p7 m 100-1).toNat-k) 0 (fun k=>rfl) (Nat.zero_le _) (by rw[bl (a:=f+1) (by omega)];rfl) ?_
  intro k hk
  have hle:=Yp (x.af.getD c.toNat (au .aL)).live.key f x.rows k
  have hw1:IntKind.i64.wrap (f+((k+1:Nat):Int))=f+((k+1:Nat):Int):=bl (by omega)
  have hw2:IntKind.i64.wrap (f+((k+1:Nat):Int)-1)=f+(k:Int):=by rw[bl (by omega)];omega
  refine W.seq ?_
  refine W.s0 X [2,3,4,9,10,11,40] rfl (by and_intros<;>exact⟨⟩) ?_
  refine W.cond rfl (fun aB=> ?_) (fun aB=> ?_)
  ·try simp only[nb,an,aq,aa]at aB
   rw[bl (by omega)]at aB
   refine W.skip ?_
   refine W.seq ?_
   refine W.block ?_
   refine W.sd X [] [(47,⟨false,[.a (.lit (.int .i64 (dN ((x.af.getD c.toNat (au .aL)).live.key) (f+((k+1:Nat):Int)) 0 x.rows)))]⟩),(53,⟨false,[.a (.lit (.int .i64 (dN ((x.af.getD c.toNat (au .aL)).live.key) (IntKind.i64.wrap ((f+((k+1:Nat):Int))-1)) 0 x.rows)))]⟩)] [2,3,4,9,10,11,54] [] 12 MO (by kernel_rfl) rfl (by(repeat' with_reducible first|exact aj.nil|refine aj.mk ?_ ?_|apply And.intro);(iterate 2 all_goals try first|exact(fH ((x.af.getD c.toNat (au .aL)).live.key) (f+((k+1:Nat):Int)) 0 x.rows)|exact(fH ((x.af.getD c.toNat (au .aL)).live.key) (IntKind.i64.wrap ((f+((k+1:Nat):Int))-1)) 0 x.rows))) ?_
   refine W.cond rfl (fun aM=> ?_) (fun aM=> ?_)
   ·try simp only[nb,an,aq,aa]at aM
    rw[hw2]at aM
    have hs:=aaE aM
    refine W.r0 X [2,3,4,9,10,11] rfl ⟨⟩ ?_
    refine W.r0 X [2,3,4,9,10,11] rfl ⟨⟩ ?_
    refine⟨k+1,by omega,by omega,?_⟩
    rw[bl (a:=f+((k+1:Nat):Int)+1) (by omega),show f+((k+1:Nat):Int)+1=f+((k+1+1:Nat):Int)by omega,aR _ (lk (x.af.getD c.toNat (au .aL)).live.key f x.rows k) rfl (by omega),hs]
    try rfl
   ·try simp only[nb,an,aq,aa]at aM
    rw[hw2]at aM
    have hs:=Xq aM
    refine W.skip ?_
    refine W.r0 X [2,3,4,9,10,11] rfl ⟨⟩ ?_
    refine⟨k+1,by omega,by omega,?_⟩
    rw[bl (a:=f+((k+1:Nat):Int)+1) (by omega),show f+((k+1:Nat):Int)+1=f+((k+1+1:Nat):Int)by omega,hs]
    try rfl
  ·try simp only[nb,an,aq,aa]at aB
   rw[bl (by omega)]at aB
   refine W.exit ?_
   refine W.s0 X [8] rfl ⟨⟩ ?_
   refine W.ret ?_
   exact Fin.ret rfl ⟨by rw[rq,if_pos gS,show k=(p7 m 100-1).toNat by omega],⟨⟩⟩
theorem Bm(l:List (List Int))(n:Int)(hn:1≤n∧n≤64)(hl:l.length≤64)(hl0:0<l.length)(ha: ∀v,v∈l→bN v n=true):Sound ty Tryz.prog 63 [.a (.sl (.sl .int) l)] [.a (.sl .int (zW l))]:=by
 refine Sound.o X Tryz.call63 Tryz.func63 Tryz.ntmps63 rfl rfl ?_
 intro zb
 have h00:((l.getD (Int.toNat 0) (au (.sl .int))).length:Int)=n∧n≤64:=dZ (ha _ (getD_in (au (.sl .int)) hl0))
 refine W.s0 X [0] rfl ⟨⟩ ?_
 refine W.seq ?_
 refine W.s0 X [0,7] rfl ⟨⟩ ?_
 refine W.cond rfl (fun hb0=> ?_) (fun hb0=> ?_)
 ·try simp only[nb,an,aq,aa]at hb0
  omega
 ·try simp only[nb,an,aq,aa]at hb0
  skip
  refine W.skip ?_
  refine W.s0 X [0,3] rfl (by and_intros<;>first|exact⟨⟩| (intros;omega)|exact rfl| (simp only[cT,maxLen,lens];omega)) ?_
  refine W.seq ?_
  refine W.s0 X [0,3,4] rfl ⟨⟩ ?_
  refine W.block ?_
  refine W.aE (fun k=>k≤l.length) (fun k:Nat=> [(4, .one (.a (.lit (.int .i64 k))))]) (fun k=> [(13, .arr .int (Yr l k))]) (fun k=>l.length-k) 0 (fun k=>rfl) (Nat.zero_le _) rfl ?_
  intro k hk
  have hle:=Xv (l:=l) (by show(l.getD (Int.toNat 0) (au (.sl .int))).length≤64;omega) k
  refine W.seq ?_
  refine W.s0 X [0,3,4,17] rfl ⟨⟩ ?_
  refine W.cond rfl (fun aB=> ?_) (fun aB=> ?_)
  ·try simp only[nb,an,aq,aa]at aB
   have nG:k<l.length:=by omega
   have hs:=UR l k nG
   have hsel:=ha _ (getD_in (au (.sl .int)) nG)
   have hln:=dZ hsel
   refine W.skip ?_
   refine W.seq ?_
   refine W.block ?_
   refine W.seq ?_
   refine W.sd X [] [(28,⟨false,[.a (.lit (.bool (bN (l.getD k (au (.sl .int))) ((l.getD (Int.toNat 0) (au (.sl .int))).length:Int))))]⟩)] [0,3,4,29] [] 10 MO (by kernel_rfl) rfl (by(repeat' with_reducible first|exact aj.nil|refine aj.mk ?_ ?_|apply And.intro)<;>first|exact(ec (l.getD k (au (.sl .int))) ((l.getD (Int.toNat 0) (au (.sl .int))).length:Int))| (intros;omega)) ?_
   refine W.cond rfl (fun aM=> ?_) (fun aM=> ?_)
   ·try simp only[nb,an,aq,aa]at aM
    exfalso
    rw[h00.1,hsel]at aM
    simp at aM
   ·try simp only[nb,an,aq,aa]at aM
    skip
    refine W.skip ?_
    refine W.cD X [] [(36,⟨true,[.a (.sl .int (eA (Yr l k) (l.getD k (au (.sl .int)))))]⟩)] [0,3,4] [] rfl (by(repeat' with_reducible first|exact aj.nil|refine aj.mk ?_ ?_|apply And.intro)<;>first|exact(iB (Yr l k) (l.getD k (au (.sl .int))) (by first|assumption|omega| (simp;done)| (simp;omega)) (by first|assumption|omega| (simp;done)| (simp;omega)))| (intros;omega)) ?_
    refine W.rename 3 13 rfl ?_
    refine W.r0 X [0,3,4] rfl ⟨⟩ ?_
    refine⟨k+1,by omega,by omega,?_⟩
    rw[aR _ k rfl (by omega),hs]
    try rfl
  ·try simp only[nb,an,aq,aa]at aB
   refine W.exit ?_
   refine W.s0 X [2] rfl ⟨⟩ ?_
   refine W.ret ?_
   exact Fin.ret rfl ⟨by rw[Xu (by omega)],⟨⟩⟩
theorem Fa(a b:List Int)(hl:a.length≤1048576):Sound ty Tryz.prog 62 [.a (.sl .int a), .a (.sl .int b)] [.a (.lit (.bool (a==b)))]:=by
 refine Sound.o X Tryz.call62 Tryz.func62 Tryz.ntmps62 rfl rfl ?_
 intro zb
 refine W.s0 X [0,1] rfl ⟨⟩ ?_
 refine W.seq ?_
 refine W.s0 X [0,1,10] rfl ⟨⟩ ?_
 refine W.cond rfl (fun hb0=> ?_) (fun hb0=> ?_)
 ·try simp only[nb,an,aq,aa]at hb0
  have hne:(a==b)=false:=by rw[beq_eq_false_iff_ne];intro h;rw[h]at hb0;omega
  refine W.s0 X [4] rfl ⟨⟩ ?_
  refine W.ret ?_
  exact Fin.ret rfl ⟨by rw[hne],⟨⟩⟩
 ·try simp only[nb,an,aq,aa]at hb0
  have hlen:a.length=b.length:=by omega
  refine W.skip ?_
  refine W.seq ?_
  refine W.s0 X [0,1,5] rfl ⟨⟩ ?_
  refine W.block ?_
  refine W.aE (fun k=>k≤a.length∧a.take k=b.take k) (fun k:Nat=> [(5, .one (.a (.lit (.int .i64 k))))]) (fun k=> []) (fun k=>a.length-k) 0 (fun k=>rfl) ⟨Nat.zero_le _,by simp⟩ rfl ?_
  rintro k ⟨hk,hall⟩
  refine W.seq ?_
  refine W.s0 X [0,1,5,14] rfl ⟨⟩ ?_
  refine W.cond rfl (fun aB=> ?_) (fun aB=> ?_)
  ·try simp only[nb,an,aq,aa]at aB
   refine W.skip ?_
   refine W.seq ?_
   refine W.block ?_
   refine W.sd X [] [] [0,1,5,25] [] 9 MO (by kernel_rfl) rfl (by and_intros<;>first|exact⟨⟩| (intros;omega)) ?_
   refine W.cond rfl (fun aM=> ?_) (fun aM=> ?_)
   ·try simp only[nb,an,aq,aa]at aM
    have hne:(a==b)=false:=acR (k:=k) aM
    refine W.s0 X [4] rfl ⟨⟩ ?_
    refine W.ret ?_
    exact Fin.ret rfl ⟨by rw[hne],⟨⟩⟩
   ·try simp only[nb,an,aq,aa]at aM
    have he:a.getD k (au .int)=b.getD k (au .int):=by omega
    refine W.skip ?_
    refine W.r0 X [0,1,5] rfl ⟨⟩ ?_
    refine⟨k+1,⟨by omega,kg a b (au .int) k aB (by omega) hall he⟩,by omega,?_⟩
    rw[aR _ k rfl (by omega)]
    try rfl
  ·try simp only[nb,an,aq,aa]at aB
   refine W.exit ?_
   refine W.s0 X [4] rfl ⟨⟩ ?_
   refine W.ret ?_
   exact Fin.ret rfl ⟨by rw[nP a b k (by omega) (by omega) hall],⟨⟩⟩
theorem xQ(x0:List UInt8)(UC:(fun l=> ∀x,x∈l→(fun _=>True) x) x0):Sound ty Tryz.prog 8 [.a (.sl .u8 x0)] [.a (.lit (.bool true))]:=by
 refine Sound.o X Tryz.call8 Tryz.func8 Tryz.ntmps8 rfl rfl ?_
 intro zb
 refine W.s0 X [0] rfl ⟨⟩ ?_
 refine W.seq ?_
 refine W.sr X [] [(12,⟨false,[.a (.lit (.bool (decide ((1048576:Int)<(x0.length:Int)))))]⟩)] [0,12] [] rfl (by(repeat' with_reducible first|exact aj.nil|refine aj.mk ?_ ?_|apply And.intro)<;>first|exact(O0 x0)) ?_
 refine W.cond rfl (fun hb0=> ?_) (fun hb0=> ?_)
 ·try simp only[nb,an,aq,aa]at hb0
  refine W.s0 X [2] rfl ⟨⟩ ?_
  refine W.ret ?_
  exact Fin.ret rfl ⟨rfl,⟨⟩⟩
 ·try simp only[nb,an,aq,aa]at hb0
  have hl:x0.length≤1048576:=by omega
  have hd:=OQ hl
  have hok:=hd.ok
  have Ly:=hd.B (by decide)
  have w:=yd.of hok
  have w1:=w.rows
  have w2:=w.KL
  have w3:=w.Qh
  have w4:=w.round
  have w5:=w.oA
  have w6:=hd.round
  have w7:=hd.oA
  refine W.skip ?_
  refine W.sr X [(14,20)] [(14,⟨true,[.agg (aG (aT x0))]⟩)] [0,3] [] rfl (by(repeat' with_reducible first|exact aj.nil|refine aj.mk ?_ ?_|apply And.intro)<;>first|exact(iW x0 hl)) ?_
  refine W.seq ?_
  have a0:=BT x0 (i:=0) hl (by decide)
  have a1:=BT x0 (i:=1) hl (by decide)
  have b0:=uY (n:=((aT x0).ah.length:Int)) a0.1 (by omega)
  have b1:=uY (n:=(aT x0).rows) a1.1 (by omega)
  refine W.draw X [] [(16,⟨false,[.a (.lit (.int .i64 (bO x0 0)))]⟩)] [0,3,4] [] 7 MO (by kernel_rfl) rfl (by(repeat' with_reducible first|exact aj.nil|refine aj.mk ?_ ?_|apply And.intro)<;>first|exact(xP x0 0 (by decide))| (intros;omega)) ?_
  refine W.sd X [] [(22,⟨false,[.a (.lit (.int .i64 (bO x0 1)))]⟩)] [0,3,4,5] [] 6 MO (by kernel_rfl) rfl (by(repeat' with_reducible first|exact aj.nil|refine aj.mk ?_ ?_|apply And.intro)<;>first|exact(xP x0 1 (by decide))| (intros;omega)) ?_
  refine W.sd X [] [(29,⟨false,[.a (.lit (.int .i64 (bO x0 2)))]⟩),(32,⟨false,[.a (.lit (.int .i64 (bO x0 3)))]⟩),(33,⟨false,[.a (.vw 0 none .int (eE (aT x0) ((bO x0 0).tmod ((aT x0).ah.length:Int)) (bO x0 2) ((bO x0 1).tmod (aT x0).rows) (bO x0 3)))]⟩)] [0,3,4,5,6] [] 9 MO (by kernel_rfl) rfl (by(repeat' with_reducible first|exact aj.nil|refine aj.mk ?_ ?_|apply And.intro);(iterate 3 all_goals try first|exact(xP x0 2 (by decide))|exact(xP x0 3 (by decide))|exact(uu (aT x0) ((bO x0 0).tmod ((aT x0).ah.length:Int)) (bO x0 2) ((bO x0 1).tmod (aT x0).rows) (bO x0 3) (by first|assumption|omega| (simp;done)| (simp;omega))))) ?_
  refine W.seq ?_
  refine W.s0 X [0,3,4,5,6,7] rfl ⟨⟩ ?_
  refine W.block ?_
  refine W.aE (fun k=>k≤4) (fun k:Nat=> [(7, .one (.a (.lit (.int .i64 k))))]) (fun k=> []) (fun k=>4-k) 0 (fun k=>rfl) (Nat.zero_le _) rfl ?_
  intro k hk
  refine W.seq ?_
  refine W.s0 X [0,3,4,5,6,7,35] rfl ⟨⟩ ?_
  refine W.cond rfl (fun aB=> ?_) (fun aB=> ?_)
  ·try simp only[nb,an,aq,aa]at aB
   have hw4:(IntKind.i64.wrap (4+(k:Int)))=4+(k:Int):=bl (by omega)
   have a4:=BT x0 (i:=(IntKind.i64.wrap (4+(k:Int)))) hl (by omega)
   have b4:=uY (n:=(aT x0).rows) a4.1 (by omega)
   have hes:jZ (aT x0) ((bO x0 0).tmod ((aT x0).ah.length:Int)) ((bO x0 1).tmod (aT x0).rows) ((bO x0 (IntKind.i64.wrap (4+(k:Int)))).tmod (aT x0).rows)=true:=Yq hok b0 b1 b4
   obtain⟨g1,g2,g3,g4,g5⟩:=II (r:=(bO x0 2)) (s:=(bO x0 3)) hes
   have g6:=K1 g5
   have g7:=K1 (g3 _ (getD_in (au (.sl .int)) (k:=((bO x0 0).tmod ((aT x0).ah.length:Int)).toNat) (by omega)))
   have g8:=lF (aT x0).rows ((bO x0 (IntKind.i64.wrap (4+(k:Int)))).tmod (aT x0).rows)
   have g9:(zW (vP (aT x0) ((bO x0 0).tmod ((aT x0).ah.length:Int)) (bO x0 2) ((bO x0 1).tmod (aT x0).rows) (bO x0 3) ((bO x0 (IntKind.i64.wrap (4+(k:Int)))).tmod (aT x0).rows))).length≤64:=by rw[g4];exact g8
   refine W.skip ?_
   refine W.seq ?_
   refine W.block ?_
   refine W.sd X [] [(41,⟨false,[.a (.lit (.int .i64 (bO x0 (IntKind.i64.wrap (4+(k:Int))))))]⟩)] [0,3,4,5,6,7,8] [] 8 MO (by kernel_rfl) rfl (by(repeat' with_reducible first|exact aj.nil|refine aj.mk ?_ ?_|apply And.intro)<;>first|exact(xP x0 (IntKind.i64.wrap (4+(k:Int))) (by omega))| (intros;omega)) ?_
   refine W.sd X [] [(49,⟨false,[.a (.lit (.int .i64 (bO x0 2)))]⟩),(52,⟨false,[.a (.lit (.int .i64 (bO x0 3)))]⟩),(54,⟨false,[.a (.sl (.sl .int) (vP (aT x0) ((bO x0 0).tmod ((aT x0).ah.length:Int)) (bO x0 2) ((bO x0 1).tmod (aT x0).rows) (bO x0 3) ((bO x0 (IntKind.i64.wrap (4+(k:Int)))).tmod (aT x0).rows))), .a (.lit (.bool (jZ (aT x0) ((bO x0 0).tmod ((aT x0).ah.length:Int)) ((bO x0 1).tmod (aT x0).rows) ((bO x0 (IntKind.i64.wrap (4+(k:Int)))).tmod (aT x0).rows))))]⟩)] [0,3,4,5,6,7,8,9,10] [] 14 MO (by kernel_rfl) rfl (by(repeat' with_reducible first|exact aj.nil|refine aj.mk ?_ ?_|apply And.intro);(iterate 3 all_goals try first|exact(xP x0 2 (by decide))|exact(xP x0 3 (by decide))|exact(eR (aT x0) ((bO x0 0).tmod ((aT x0).ah.length:Int)) (bO x0 2) ((bO x0 1).tmod (aT x0).rows) (bO x0 3) ((bO x0 (IntKind.i64.wrap (4+(k:Int)))).tmod (aT x0).rows) (by first|assumption|omega| (simp;done)| (simp;omega))))) ?_
   refine W.sd X [] [(73,⟨false,[.a (.lit (.bool (((vP (aT x0) ((bO x0 0).tmod ((aT x0).ah.length:Int)) (bO x0 2) ((bO x0 1).tmod (aT x0).rows) (bO x0 3) ((bO x0 (IntKind.i64.wrap (4+(k:Int)))).tmod (aT x0).rows)).getD ((bO x0 0).tmod ((aT x0).ah.length:Int)).toNat (au (.sl .int)))==(eE (aT x0) ((bO x0 0).tmod ((aT x0).ah.length:Int)) (bO x0 2) ((bO x0 1).tmod (aT x0).rows) (bO x0 3)))))]⟩),(78,⟨false,[.a (.sl .int (zW (vP (aT x0) ((bO x0 0).tmod ((aT x0).ah.length:Int)) (bO x0 2) ((bO x0 1).tmod (aT x0).rows) (bO x0 3) ((bO x0 (IntKind.i64.wrap (4+(k:Int)))).tmod (aT x0).rows))))]⟩),(82,⟨false,[.a (.sl .int (gD ((aT x0).rows) ((bO x0 (IntKind.i64.wrap (4+(k:Int)))).tmod (aT x0).rows)))]⟩),(83,⟨false,[.a (.lit (.bool ((zW (vP (aT x0) ((bO x0 0).tmod ((aT x0).ah.length:Int)) (bO x0 2) ((bO x0 1).tmod (aT x0).rows) (bO x0 3) ((bO x0 (IntKind.i64.wrap (4+(k:Int)))).tmod (aT x0).rows)))==(gD (aT x0).rows ((bO x0 (IntKind.i64.wrap (4+(k:Int)))).tmod (aT x0).rows)))))]⟩)] [0,3,4,5,6,7,85] [] 29 MO (by kernel_rfl) rfl (by(repeat' with_reducible first|exact aj.nil|refine aj.mk ?_ ?_|apply And.intro);(iterate 4 all_goals try first|exact fun _=>(Fa ((vP (aT x0) ((bO x0 0).tmod ((aT x0).ah.length:Int)) (bO x0 2) ((bO x0 1).tmod (aT x0).rows) (bO x0 3) ((bO x0 (IntKind.i64.wrap (4+(k:Int)))).tmod (aT x0).rows)).getD ((bO x0 0).tmod ((aT x0).ah.length:Int)).toNat (au (.sl .int))) (eE (aT x0) ((bO x0 0).tmod ((aT x0).ah.length:Int)) (bO x0 2) ((bO x0 1).tmod (aT x0).rows) (bO x0 3)) (by first|assumption|omega| (simp;done)| (simp;omega)))|exact fun _=>(Bm (vP (aT x0) ((bO x0 0).tmod ((aT x0).ah.length:Int)) (bO x0 2) ((bO x0 1).tmod (aT x0).rows) (bO x0 3) ((bO x0 (IntKind.i64.wrap (4+(k:Int)))).tmod (aT x0).rows)) ((aT x0).rows) w1 (by omega) (by omega) g3)|exact fun _=>(iA ((aT x0).rows) ((bO x0 (IntKind.i64.wrap (4+(k:Int)))).tmod (aT x0).rows))|exact fun _=>(Fa (zW (vP (aT x0) ((bO x0 0).tmod ((aT x0).ah.length:Int)) (bO x0 2) ((bO x0 1).tmod (aT x0).rows) (bO x0 3) ((bO x0 (IntKind.i64.wrap (4+(k:Int)))).tmod (aT x0).rows))) (gD (aT x0).rows ((bO x0 (IntKind.i64.wrap (4+(k:Int)))).tmod (aT x0).rows)) (by first|assumption|omega| (simp;done)| (simp;omega))));all_goals first| ((intro h1;first| (intro h2;first| (intro h3;refine And.intro ?_ ?_)|refine And.intro ?_ ?_)|refine And.intro ?_ ?_)<;>first|omega| ((try simp only[nb,an,aq]at*);(try simp(disch:=omega) only[bl]);omega))) ?_
   refine W.cond rfl (fun aM=> ?_) (fun aM=> ?_)
   ·try simp only[nb,an,aq,aa]at aM
    exfalso
    simp[-List.getD_eq_getElem?_getD,hes,g1,g2,g4]at aM
   ·try simp only[nb,an,aq,aa]at aM
    skip
    refine W.skip ?_
    refine W.r0 X [0,3,4,5,6,7] rfl ⟨⟩ ?_
    refine⟨k+1,by omega,by omega,?_⟩
    rw[aR _ k rfl (by omega)]
    try rfl
  ·try simp only[nb,an,aq,aa]at aB
   have hes:jZ (aT x0) ((bO x0 0).tmod ((aT x0).ah.length:Int)) ((bO x0 1).tmod (aT x0).rows) 0=true:=Yq hok b0 b1 (by omega)
   obtain⟨g1,g2,g3,g4,g5⟩:=II (r:=(bO x0 2)) (s:=(bO x0 3)) hes
   have hlk:=acQ (x:=(aT x0))
   refine W.exit ?_
   refine W.sr X [] [(89,⟨false,[.a (.lit (.bool (bN (eE (aT x0) ((bO x0 0).tmod ((aT x0).ah.length:Int)) (bO x0 2) ((bO x0 1).tmod (aT x0).rows) (bO x0 3)) ((aT x0).rows))))]⟩),(92,⟨false,[.a (.lit (.int .i64 (rq (aT x0) 0 0 100)))]⟩)] [2] [] rfl (by(repeat' with_reducible first|exact aj.nil|refine aj.mk ?_ ?_|apply And.intro);(iterate 2 all_goals try first|exact(ec (eE (aT x0) ((bO x0 0).tmod ((aT x0).ah.length:Int)) (bO x0 2) ((bO x0 1).tmod (aT x0).rows) (bO x0 3)) ((aT x0).rows))|exact fun _=>(wu (aT x0) 0 0 100 (by decide)))) ?_
   refine W.ret ?_
   exact Fin.ret rfl ⟨by simp[g5,hlk],⟨⟩⟩
end
end Go.Proofs.YteodajeiagmekaaGreat.G
