/-
  FnExactExplainShareView, walked by the symbolic machine: it returns true.
-/
import Derived.Test.YteodajeiagmekaaGreatM76
import Derived.Test.YteodajeiagmekaaGreatM79
import Derived.Test.YteodajeiagmekaaGreatM81
namespace Go.Proofs.YteodajeiagmekaaGreat.G
set_option linter.all false
open Go.RowKit L D
section
set_option maxRecDepth 100000
theorem wq(l:List DB)(rows i:Int)(c:List UInt8)(hl:l.length≤1048576)(h0:0<l.length)(ha: ∀d,d∈l→bV d=true∧(d.rows.length:Int)=rows)(hc:c.length≤1048576):Sound ty Tryz.prog 213 [.a (.sl .DB l), .a (.lit (.int .i64 rows)), .a (.lit (.int .i64 i)), .a (.sl .u8 c)] [.agg (aF (U7 rows i c l)), .a (.lit (.bool (fT rows i c)))]:=by
 refine Sound.o X Tryz.call213 Tryz.func213 Tryz.ntmps213 rfl rfl ?_
 intro zb
 have hz:=vG rows
 refine W.s0 X [0,1,2,3,8] rfl ⟨⟩ ?_
 refine W.seq ?_
 refine W.sr X [] [(18,⟨false,[.a (.lit (.bool (fT rows i c)))]⟩)] [0,1,2,3,8,24] [] rfl (by(repeat' with_reducible first|exact aj.nil|refine aj.mk ?_ ?_|apply And.intro)<;>first|exact(wK rows i c)) ?_
 refine W.cond rfl (fun hb0=> ?_) (fun hb0=> ?_)
 ·have hu:fT rows i c=false:=Xo h0 hb0
  refine W.s0 X [8,9] rfl (by and_intros<;>exact⟨⟩) ?_
  refine W.ret ?_
  exact Fin.ret rfl ⟨by rw[U7,hu];rfl,by rw[hu],⟨⟩⟩
 ·have hu:fT rows i c=true:=Xo h0 hb0
  refine W.skip ?_
  refine W.sr X [] [(28,⟨true,[.agg (aF (cw rows))]⟩),(31,⟨true,[.agg (aF (qE (cw rows) i c)), .a (.lit (.bool (jt (cw rows) i c)))]⟩)] [0,8,10] [] rfl (by(repeat' with_reducible first|exact aj.nil|refine aj.mk ?_ ?_|apply And.intro);(iterate 2 all_goals try first|exact(jP rows)|exact(o7 (cw rows) i c (by first|assumption|omega| (simp;done)| (simp;omega)) (by first|assumption|omega| (simp;done)| (simp;omega))))) ?_
  rw[show qE (cw rows) i c=Ah rows i c from aaD hu]
  refine W.seq ?_
  refine W.s0 X [0,8,10,12] rfl ⟨⟩ ?_
  refine W.block ?_
  refine W.aE (fun k=>k≤l.length) (fun k:Nat=> [(12, .one (.a (.lit (.int .i64 k))))]) (fun k=> [(31, .arr (.sl .u8) (MY rows i c (l.take k)).rows)]) (fun k=>l.length-k) 0 (fun k=>rfl) (Nat.zero_le _) rfl ?_
  intro k hk
  refine W.seq ?_
  refine W.s0 X [0,8,10,12,37] rfl ⟨⟩ ?_
  refine W.cond rfl (fun aB=> ?_) (fun aB=> ?_)
  ·try simp only[nb,an,aq,aa]at aB
   have nG:k<l.length:=by omega
   have hs:=K2 rows i c l k nG
   have hx:=Yo hu ha nG
   have hz1:=cZ (IG hu (l.take k)).1
   have QC:=cZ (ha _ (getD_in (au .DB) nG)).1
   refine W.skip ?_
   refine W.seq ?_
   refine W.block ?_
   refine W.seq ?_
   refine W.fZ X [] [(46,⟨true,[.agg (aF (dD (MY rows i c (l.take k)) (l.getD k (au .DB)))), .a (.lit (.bool (gq (MY rows i c (l.take k)) (l.getD k (au .DB)))))]⟩)] [0,8,10,12,13,14] [] 3071 (.ph 1023 (.br 1023 10 (.last 2048) (.br 767 10 (.last 2304) (.nil)))) 1 MO (by kernel_rfl) rfl (by kernel_rfl) (by(repeat' with_reducible first|exact aj.nil|refine aj.mk ?_ ?_|apply And.intro)<;>first|exact(gb (MY rows i c (l.take k)) (l.getD k (au .DB)) hz1 QC)| (intros;omega)) ?_
   refine W.seq ?_
   refine W.s0 X [0,8,10,12,13,50] rfl ⟨⟩ ?_
   refine W.cond rfl (fun aM=> ?_) (fun aM=> ?_)
   ·try simp only[nb,an,aq,aa]at aM
    rw[hx]at aM
    simp at aM
   ·try simp only[nb,an,aq,aa]at aM
    skip
    refine W.skip ?_
    refine W.r0 X [0,8,10,12] rfl (by and_intros<;>exact⟨⟩) ?_
    refine W.kH 10 0 31 rfl ?_
    refine W.r0 X [0,8,10,12] rfl ⟨⟩ ?_
    refine⟨k+1,by omega,by omega,?_⟩
    rw[aR _ k rfl (by omega),hs]
    try rfl
  ·try simp only[nb,an,aq,aa]at aB
   have htl:l.take k=l:=List.take_of_length_le (by omega)
   refine W.exit ?_
   refine W.s0 X [8,9] rfl (by and_intros<;>exact⟨⟩) ?_
   refine W.ret ?_
   exact Fin.ret rfl ⟨by rw[htl,U7,if_pos hu],by rw[hu],⟨⟩⟩
theorem rm(x:aJ)(sv cl row:Int)(c:List UInt8)(oK:x.ah.length≤1048576)(hc:c.length≤1048576):Sound ty Tryz.prog 82 [.agg (aG x), .a (.lit (.int .i64 sv)), .a (.lit (.int .i64 cl)), .a (.lit (.int .i64 row)), .a (.sl .u8 c)] [.a (.sl .DB (uZ x sv cl row c)), .a (.lit (.bool (kY x sv cl row c)))]:=by
 refine Sound.o X Tryz.call82 Tryz.func82 Tryz.ntmps82 rfl rfl ?_
 intro zb
 refine W.b7 0 1 rfl rfl (fun nj=> ?_)
 refine W.b7 0 2 rfl rfl (fun j0=> ?_)
 have hw:IntKind.i64.wrap ((x.af.length:Int)-1)=(x.af.length:Int)-1:=bl (by omega)
 refine W.s0 X [1,2,3,4,5] rfl ⟨⟩ ?_
 refine W.seq ?_
 refine W.sr X [] [(19,⟨false,[.a (.lit (.bool (okW x)))]⟩),(27,⟨false,[.a (.lit (.bool (inr sv 0 (IntKind.i64.wrap ((x.ah.length:Int)-1)))))]⟩),(36,⟨false,[.a (.lit (.bool (inr cl 0 (IntKind.i64.wrap ((x.af.length:Int)-1)))))]⟩)] [1,2,3,4,5,38] [] rfl (by(repeat' with_reducible first|exact aj.nil|refine aj.mk ?_ ?_|apply And.intro);(iterate 3 all_goals try first|exact(cz x)|exact fun _=>(aK sv 0 (IntKind.i64.wrap ((x.ah.length:Int)-1)))|exact fun _=>(aK cl 0 (IntKind.i64.wrap ((x.af.length:Int)-1))))) ?_
 refine W.cond rfl (fun hb0=> ?_) (fun hb0=> ?_)
 ·have UO:Qw x sv cl=false:=bK hb0 (by simp only[Qw,qy,hw,aH]<;>first|rfl|ac_rfl)
  have he:kY x sv cl row c=false:=by rw[kY,UO];rfl
  refine W.s0 X [10,11] rfl (by and_intros<;>first|exact⟨⟩|exact rfl) ?_
  refine W.ret ?_
  exact Fin.ret rfl ⟨by rw[O3 he],by rw[he],⟨⟩⟩
 ·have UO:Qw x sv cl=true:=bG hb0 (by simp only[Qw,qy,hw,aH]<;>first|rfl|ac_rfl)
  have q:=MX.of UO
  have q1:=q.UN
  have q3:=q.xsv
  have q6:=q.xcl
  have q4:=q.xn
  have q5:=q.Xn
  have ho:=Bl sv
  have hol:=C6 (l:=(bk x cl)) (i:=(dV sv).toNat) (by omega)
  refine W.skip ?_
  refine W.sr X [] [(42,⟨true,[.a (.sl .DB (bk x cl))]⟩)] [1,3,4,5,12] [] rfl (by(repeat' with_reducible first|exact aj.nil|refine aj.mk ?_ ?_|apply And.intro)<;>first|exact(qM x cl oK q6)) ?_
  refine W.sr X [] [(44,⟨false,[.a (.lit (.int .i64 (dV sv)))]⟩)] [3,4,5,12,13] [] rfl (by(repeat' with_reducible first|exact aj.nil|refine aj.mk ?_ ?_|apply And.intro)<;>first|exact(va sv)) ?_
  refine W.s0 X [3,4,5,12,13,14] rfl (by and_intros<;>first|exact⟨⟩|exact rfl) ?_
  refine W.toBrrOf 14 60 42 rfl ?_
  refine W.seq ?_
  refine W.s0 X [3,4,5,12,13,14,15] rfl ⟨⟩ ?_
  refine W.block ?_
  refine W.aE (fun k=>k≤(bk x cl).length) (fun k:Nat=> [(15, .one (.a (.lit (.int .i64 k))))]) (fun k=> [(60, .lZ .DB (tv (bk x cl) (dV sv).toNat k) (.of 42))]) (fun k=>(bk x cl).length-k) 0 (fun k=>rfl) (Nat.zero_le _) (by rw[UH];rfl) ?_
  intro k hk
  have hle:=KZ (bk x cl) (dV sv).toNat k
  refine W.seq ?_
  refine W.s0 X [3,4,5,12,13,14,15,49] rfl ⟨⟩ ?_
  refine W.cond rfl (fun aB=> ?_) (fun aB=> ?_)
  ·try simp only[nb,an,aq,aa]at aB
   have nG:k<(bk x cl).length:=by omega
   refine W.skip ?_
   refine W.seq ?_
   refine W.block ?_
   refine W.s0 X [3,4,5,12,13,14,15,54] rfl ⟨⟩ ?_
   refine W.cond rfl (fun aM=> ?_) (fun aM=> ?_)
   ·try simp only[nb,an,aq,aa]at aM
    have hs:=GR (au .DB) nG (i:=(dV sv).toNat) (by omega)
    refine W.cD X [(61,60)] [(500060,⟨true,[]⟩)] [3,4,5,12,13,14,15] [] rfl (by and_intros<;>first|exact⟨⟩| (intros;omega)|exact rfl| (simp only[cT,maxLen,lens];omega)) ?_
    refine W.r0 X [3,4,5,12,13,14,15] rfl ⟨⟩ ?_
    refine⟨k+1,by omega,by omega,?_⟩
    rw[aR _ k rfl (by omega),hs]
    try rfl
   ·try simp only[nb,an,aq,aa]at aM
    have hkk:(dV sv).toNat=k:=by omega
    have hs:tv (bk x cl) (dV sv).toNat (k+1)=tv (bk x cl) (dV sv).toNat k:=by rw[hkk];exact GQ
    refine W.skip ?_
    refine W.r0 X [3,4,5,12,13,14,15] rfl ⟨⟩ ?_
    refine⟨k+1,by omega,by omega,?_⟩
    rw[aR _ k rfl (by omega),hs]
    try rfl
  ·try simp only[nb,an,aq,aa]at aB
   have hok:=KY (l:=(bk x cl)) (i:=(dV sv).toNat) (k:=k) (by omega)
   refine W.exit ?_
   refine W.seq ?_
   rw[hok]
   refine W.cD X [] [(68,⟨true,[.agg (aF (U7 x.rows row c (yf (bk x cl) (dV sv).toNat))), .a (.lit (.bool (fT x.rows row c)))]⟩)] [12,13,16,17] [] rfl (by(repeat' with_reducible first|exact aj.nil|refine aj.mk ?_ ?_|apply And.intro)<;>first|exact(wq (yf (bk x cl) (dV sv).toNat) x.rows row c (by omega) (by omega) (fun d hd=>q.xel d (zV hd)) hc)) ?_
   refine W.seq ?_
   refine W.s0 X [12,13,16,72] rfl ⟨⟩ ?_
   refine W.cond rfl (fun gB=> ?_) (fun gB=> ?_)
   ·have hx:fT x.rows row c=false:=by simpa using gB
    have he:kY x sv cl row c=false:=by rw[kY,UO,hx];rfl
    refine W.s0 X [10,11] rfl (by and_intros<;>first|exact⟨⟩|exact rfl) ?_
    refine W.ret ?_
    exact Fin.ret rfl ⟨by rw[O3 he],by rw[he],⟨⟩⟩
   ·have hx:fT x.rows row c=true:=by simpa using gB
    have he:kY x sv cl row c=true:=by rw[kY,UO,hx];rfl
    refine W.skip ?_
    refine W.s0 X [12] rfl (by and_intros<;>first|exact⟨⟩| (intros;omega)) ?_
    refine W.s0 X [10,11] rfl ⟨⟩ ?_
    refine W.ret ?_
    exact Fin.ret rfl ⟨by rw[MZ he,Xp,U7,if_pos hx],by rw[he],⟨⟩⟩
end
section
set_option maxRecDepth 100000
theorem oG(x0:aJ)(UC:(Dl) x0)(x1:Int)(aeP:sD x1)(x2:Int)(aeQ:sD x2)(x3:Int)(aeR:sD x3)(x4:(List UInt8))(ahl:(fun l=> ∀x,x∈l→(fun _=>True) x) x4):Sound ty Tryz.prog 11 [.agg (aG x0), .a (.lit (.int .i64 x1)), .a (.lit (.int .i64 x2)), .a (.lit (.int .i64 x3)), .a (.sl .u8 x4)] [.a (.lit (.bool true))]:=by
 refine Sound.o X Tryz.call11 Tryz.func11 Tryz.ntmps11 rfl rfl ?_
 intro zb
 refine W.s0 X [1,2,3,4,5] rfl ⟨⟩ ?_
 refine W.seq ?_
 refine W.s0 X [1,2,3,4,5,25] rfl ⟨⟩ ?_
 refine W.cond rfl (fun hb0=> ?_) (fun hb0=> ?_)
 ·try simp only[nb]at hb0
  refine W.s0 X [10] rfl ⟨⟩ ?_
  refine W.ret ?_
  exact Fin.ret rfl ⟨rfl,⟨⟩⟩
 ·try simp only[nb]at hb0
  refine W.skip ?_
  refine W.s0 X [1,2,3,4,5,11] rfl ⟨⟩ ?_
  refine W.sr X [] [(28,⟨false,[.a (.lit (.int .i64 (szr (1048576) (dB x0))))]⟩)] [1,2,3,4,5,11] [] rfl ⟨GV x0 (1048576) (by omega) (by omega),⟨⟩⟩ ?_
  refine W.seq ?_
  refine W.s0 X [1,2,3,4,5,30] rfl ⟨⟩ ?_
  refine W.cond rfl (fun aB=> ?_) (fun aB=> ?_)
  ·try simp only[nb]at aB
   refine W.s0 X [10] rfl ⟨⟩ ?_
   refine W.ret ?_
   exact Fin.ret rfl ⟨rfl,⟨⟩⟩
  ·try simp only[nb]at aB
   obtain⟨e1,e1'⟩:=eD aB
   rw[e1]
   have hsz:dB x0≤1048576:=by omega
   have Lo:=Es x0
   have aaj:=SW hsz
   have M9:=SX hsz
   have hr:=UQ x0 x1 x2 x3 x4
   have ahm:aD (fun _=>1) x4≤1048576:=by rw[HR];omega
   refine W.skip ?_
   refine W.sr X [(33,225),(38,250),(39,275)] [(33,⟨true,[.agg (aG x0)]⟩),(38,⟨true,[.a (.sl .u8 x4)]⟩),(39,⟨true,[.a (.sl .DB (uZ x0 x1 x2 x3 x4)), .a (.lit (.bool (kY x0 x1 x2 x3 x4)))]⟩)] [1,2,3,4,5,12,13] [] rfl ⟨rm x0 x1 x2 x3 x4 M9 (by omega),ry x4 (by omega),jY x0 (by omega),⟨⟩⟩ ?_
   refine W.sr X [(43,300)] [(43,⟨true,[.agg (aG x0)]⟩)] [1,2,3,4,5,12,13,14] [] rfl ⟨jY x0 (by omega),⟨⟩⟩ ?_
   refine W.sr X [(45,325)] [(45,⟨true,[.a (.sl .u8 x4)]⟩)] [1,2,3,4,5,12,13,14,15] [] rfl ⟨ry x4 (by omega),⟨⟩⟩ ?_
   refine W.sr X [(52,350)] [(52,⟨true,[.a (.sl .DB (uZ x0 x1 x2 x3 x4)), .a (.lit (.bool (kY x0 x1 x2 x3 x4)))]⟩)] [1,2,3,4,5,12,13,14,15,16,17] [] rfl ⟨gy x0 x1 x2 x3 x4 M9 (by omega),⟨⟩⟩ ?_
   refine W.seq ?_
   refine W.sr X [] [(57,⟨false,[.a (.lit (.bool true))]⟩)] [1,2,3,4,5,12,13,14,15,16,17,63] [] rfl ⟨pY (uZ x0 x1 x2 x3 x4),⟨⟩⟩ ?_
   refine W.cond rfl (fun aM=> ?_) (fun aM=> ?_)
   ·exact absurd aM (by first| (simp;done)| (simp;omega))
   ·clear aM
    refine W.skip ?_
    refine W.seq ?_
    refine W.sd X [(66,375)] [(66,⟨true,[.agg (aG x0)]⟩),(67,⟨false,[.a (.lit (.bool true))]⟩)] [1,2,3,4,5,12,13,14,15,16,17,68] [] 5 MO (by kernel_rfl) rfl ⟨GX x0,jY x0 (by omega),⟨⟩⟩ ?_
    refine W.cond rfl (fun gB=> ?_) (fun gB=> ?_)
    ·exact absurd gB (by first| (simp;done)| (simp;omega))
    ·clear gB
     refine W.skip ?_
     refine W.seq ?_
     refine W.sr X [(71,400)] [(71,⟨true,[.a (.sl .u8 x4)]⟩),(72,⟨false,[.a (.lit (.bool true))]⟩)] [1,2,3,4,5,12,13,14,15,16,17,73] [] rfl ⟨GW x4,ry x4 (by omega),⟨⟩⟩ ?_
     refine W.cond rfl (fun rz=> ?_) (fun rz=> ?_)
     ·exact absurd rz (by first| (simp;done)| (simp;omega))
     ·clear rz
      refine W.skip ?_
      refine W.s0 X [1,2,3,4,5,12,13,14,15,16,17,18] rfl ⟨⟩ ?_
      refine W.sr X [] [(100076,⟨false,[.a (.lit (.int .i64 (1+(kL x0:Nat)))), .agg (aG (HQ (1) x0)), .a (.lit (.int .i64 (1)))]⟩)] [1,2,3,4,5,12,13,15,16,17,18] [] rfl ⟨BV x0 (1) (by omega) (by omega),⟨⟩⟩ ?_
      refine W.sr X [] [(100079,⟨false,[.a (.lit (.int .i64 (1+(kL x0:Nat)+((aD (fun _=>1)) x4:Nat)))), .a (.sl .u8 ((dm gJ (fun _=>1)) (1+(kL x0:Nat)) x4)), .a (.lit (.int .i64 (1+(kL x0:Nat))))]⟩)] [1,2,3,4,5,12,13,16,17,18] [] rfl ⟨vf x4 (1+(kL x0:Nat)) (by omega) (by omega),⟨⟩⟩ ?_
      refine W.seq ?_
      refine W.sr X [] [(85,⟨false,[.a (.lit (.bool true))]⟩)] [1,2,3,4,5,12,13,16,92] [] rfl ⟨fun _=>pY (uZ x0 x1 x2 x3 x4),⟨⟩⟩ ?_
      refine W.cond rfl (fun E7=> ?_) (fun E7=> ?_)
      ·exact absurd E7 (by first| (simp;done)| (simp;omega))
      ·clear E7
       refine W.skip ?_
       refine W.s0 X [1,2,3,4,5,12,13,16,19] rfl ⟨⟩ ?_
       refine W.sr X [] [(100095,⟨false,[.a (.lit (.int .i64 (1+((aD cx) (uZ x0 x1 x2 x3 x4):Nat)))), .a (.sl .DB ((dm nZ cx) (1) (uZ x0 x1 x2 x3 x4))), .a (.lit (.int .i64 (1)))]⟩)] [1,2,3,4,5,12,13,16,19] [] rfl ⟨Cu (uZ x0 x1 x2 x3 x4) (1) (by omega) (by omega),⟨⟩⟩ ?_
       refine W.s0 X [1,2,3,4,5,12,13,16,19,20] rfl ⟨⟩ ?_
       refine W.sr X [] [(98,⟨false,[.a (.lit (.int .i64 (1+((aD cx) (uZ x0 x1 x2 x3 x4):Nat))))]⟩)] [1,2,3,4,5,12,13,16,19,20] [] rfl ⟨sR (uZ x0 x1 x2 x3 x4) (1) (by omega) (by omega),⟨⟩⟩ ?_
       refine W.seq ?_
       refine W.s0 X [1,2,3,4,5,12,13,16,19,20,100] rfl ⟨⟩ ?_
       refine W.cond rfl (fun C5=> ?_) (fun C5=> ?_)
       ·exact absurd C5 (by first| (simp;done)| (simp;omega))
       ·clear C5
        refine W.skip ?_
        refine W.seq ?_
        refine W.s0 X [1,2,3,4,5,12,13,16,19,103] rfl ⟨⟩ ?_
        refine W.cond rfl (fun IC=> ?_) (fun IC=> ?_)
        ·exact absurd IC (by first| (simp;done)| (simp;omega))
        ·clear IC
         refine W.skip ?_
         refine W.sr X [(106,425),(111,450),(112,475)] [(106,⟨true,[.agg (aG x0)]⟩),(111,⟨true,[.a (.sl .u8 x4)]⟩),(112,⟨true,[.a (.sl .DB (uZ x0 x1 x2 x3 x4)), .a (.lit (.bool (kY x0 x1 x2 x3 x4)))]⟩)] [12,13,16,19,21,22] [] rfl ⟨gy x0 x1 x2 x3 x4 M9 (by omega),ry x4 (by omega),jY x0 (by omega),⟨⟩⟩ ?_
         refine W.seq ?_
         refine W.sr X [] [(117,⟨false,[.a (.lit (.bool true))]⟩)] [16,19,123] [] rfl ⟨pY (uZ x0 x1 x2 x3 x4),⟨⟩⟩ ?_
         refine W.cond rfl (fun U0=> ?_) (fun U0=> ?_)
         ·exact absurd U0 (by first| (simp;done)| (simp;omega))
         ·clear U0
          refine W.skip ?_
          refine W.s0 X [16,19,20] rfl ⟨⟩ ?_
          refine W.sr X [] [(126,⟨false,[.a (.lit (.int .i64 (1+((aD cx) (uZ x0 x1 x2 x3 x4):Nat))))]⟩)] [19,20] [] rfl ⟨sR (uZ x0 x1 x2 x3 x4) (1) (by omega) (by omega),⟨⟩⟩ ?_
          refine W.seq ?_
          refine W.s0 X [19,20,128] rfl ⟨⟩ ?_
          refine W.cond rfl (fun hb9=> ?_) (fun hb9=> ?_)
          ·exact absurd hb9 (by first| (simp;done)| (simp;omega))
          ·clear hb9
           refine W.skip ?_
           refine W.seq ?_
           refine W.s0 X [131] rfl ⟨⟩ ?_
           refine W.cond rfl (fun aaH=> ?_) (fun aaH=> ?_)
           ·exact absurd aaH (by first| (simp;done)| (simp;omega))
           ·clear aaH
            refine W.skip ?_
            refine W.s0 X [10] rfl ⟨⟩ ?_
            refine W.ret ?_
            exact Fin.ret rfl ⟨rfl,⟨⟩⟩
end
end Go.Proofs.YteodajeiagmekaaGreat.G
