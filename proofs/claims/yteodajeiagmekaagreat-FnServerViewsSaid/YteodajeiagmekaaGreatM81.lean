/-
  What one server sees, explained.
-/
import Derived.Test.YteodajeiagmekaaGreatM44
import Derived.Test.YteodajeiagmekaaGreatM75
import Derived.Test.YteodajeiagmekaaGreatM78
namespace Go.Proofs.YteodajeiagmekaaGreat.G
set_option linter.all false
open Go.RowKit L D
section
set_option maxRecDepth 100000
theorem wo(l:List DB)(rows i:Int)(c:List UInt8)(hl:l.length≤1048576)(h0:0<l.length)(ha: ∀d,d∈l→bV d=true∧(d.rows.length:Int)=rows)(hc:c.length≤1048576):Sound ty Tryz.prog 185 [.a (.sl .DB l), .a (.lit (.int .i64 rows)), .a (.lit (.int .i64 i)), .a (.sl .u8 c)] [.agg (aF (U7 rows i c l)), .a (.lit (.bool (fT rows i c)))]:=by
 refine Sound.o X Tryz.call185 Tryz.func185 Tryz.ntmps185 rfl rfl ?_
 intro zb
 have hz:=vG rows
 refine W.s0 X [0,1,2,3,8] rfl ⟨⟩ ?_
 refine W.sr X [] [(20,⟨true,[.agg (aF (Ah rows i c)), .a (.lit (.bool (fT rows i c)))]⟩)] [0,8,10,11] [] rfl (by(repeat' with_reducible first|exact aj.nil|refine aj.mk ?_ ?_|apply And.intro)<;>first|exact(qK rows i c (by first|assumption|omega| (simp;done)| (simp;omega)))) ?_
 refine W.seq ?_
 refine W.s0 X [0,8,10,29] rfl ⟨⟩ ?_
 refine W.cond rfl (fun hb0=> ?_) (fun hb0=> ?_)
 ·have hu:fT rows i c=false:=Xo h0 hb0
  refine W.s0 X [8,9] rfl (by and_intros<;>exact⟨⟩) ?_
  refine W.ret ?_
  exact Fin.ret rfl ⟨by rw[U7,hu];rfl,by rw[hu],⟨⟩⟩
 ·have hu:fT rows i c=true:=Xo h0 hb0
  refine W.skip ?_
  refine W.seq ?_
  refine W.s0 X [8,10,31,32,33] rfl ⟨⟩ ?_
  refine W.block ?_
  refine W.aE (fun k=>k≤l.length) (fun k:Nat=> [(33, .one (.a (.lit (.int .i64 k))))]) (fun k=> [(20, .arr (.sl .u8) (MY rows i c (l.take k)).rows)]) (fun k=>l.length-k) 0 (fun k=>rfl) (Nat.zero_le _) rfl ?_
  intro k hk
  refine W.s0 X [8,10,31,32,33,34] rfl ⟨⟩ ?_
  refine W.seq ?_
  refine W.cond rfl (fun aB=> ?_) (fun aB=> ?_)
  ·try simp only[nb,an,aq,aa]at aB
   have nG:k<l.length:=by omega
   have hs:=K2 rows i c l k nG
   have hx:=Yo hu ha nG
   have hz1:=cZ (IG hu (l.take k)).1
   have QC:=cZ (ha _ (getD_in (au .DB) nG)).1
   refine W.skip ?_
   refine W.seq ?_
   refine W.block ?_
   refine W.s0 X [8,10,13,31,32,33] rfl (by and_intros<;>first|exact⟨⟩| (intros;omega)) ?_
   refine W.sr X [] [(40,⟨true,[.agg (aF (dD (MY rows i c (l.take k)) (l.getD k (au .DB)))), .a (.lit (.bool (gq (MY rows i c (l.take k)) (l.getD k (au .DB)))))]⟩)] [8,10,14,15,31,32,33] [] rfl (by(repeat' with_reducible first|exact aj.nil|refine aj.mk ?_ ?_|apply And.intro)<;>first|exact(jg (MY rows i c (l.take k)) (l.getD k (au .DB)) hz1 QC)) ?_
   refine W.seq ?_
   refine W.s0 X [8,10,14,31,32,33,44] rfl ⟨⟩ ?_
   refine W.cond rfl (fun aM=> ?_) (fun aM=> ?_)
   ·try simp only[nb,an,aq,aa]at aM
    rw[hx]at aM
    simp at aM
   ·try simp only[nb,an,aq,aa]at aM
    skip
    refine W.skip ?_
    refine W.r0 X [8,10,31,32,33] rfl (by and_intros<;>exact⟨⟩) ?_
    refine W.kH 10 0 20 rfl ?_
    refine W.r0 X [8,10,31,32,33] rfl ⟨⟩ ?_
    refine⟨k+1,by omega,by omega,?_⟩
    rw[aR _ k rfl (by omega),hs]
    try rfl
  ·try simp only[nb,an,aq,aa]at aB
   have htl:l.take k=l:=List.take_of_length_le (by omega)
   refine W.exit ?_
   refine W.s0 X [8,9] rfl (by and_intros<;>exact⟨⟩) ?_
   refine W.ret ?_
   exact Fin.ret rfl ⟨by rw[htl,U7,if_pos hu],by rw[hu],⟨⟩⟩
theorem gy(x:aJ)(sv cl row:Int)(c:List UInt8)(oK:x.ah.length≤1048576)(hc:c.length≤1048576):Sound ty Tryz.prog 69 [.agg (aG x), .a (.lit (.int .i64 sv)), .a (.lit (.int .i64 cl)), .a (.lit (.int .i64 row)), .a (.sl .u8 c)] [.a (.sl .DB (uZ x sv cl row c)), .a (.lit (.bool (kY x sv cl row c)))]:=by
 refine Sound.o X Tryz.call69 Tryz.func69 Tryz.ntmps69 rfl rfl ?_
 intro zb
 refine W.b7 0 1 rfl rfl (fun nj=> ?_)
 refine W.b7 0 2 rfl rfl (fun j0=> ?_)
 have hw:IntKind.i64.wrap ((x.af.length:Int)-1)=(x.af.length:Int)-1:=bl (by omega)
 refine W.s0 X [1,2,3,4,5] rfl ⟨⟩ ?_
 refine W.seq ?_
 refine W.sr X [] [(18,⟨false,[.a (.lit (.bool (okW x)))]⟩),(26,⟨false,[.a (.lit (.bool (inr sv 0 (IntKind.i64.wrap ((x.ah.length:Int)-1)))))]⟩),(32,⟨false,[.a (.lit (.bool (qy x cl)))]⟩)] [1,2,3,4,5,34] [] rfl (by(repeat' with_reducible first|exact aj.nil|refine aj.mk ?_ ?_|apply And.intro);(iterate 3 all_goals try first|exact(bw x)|exact fun _=>(aC sv 0 (IntKind.i64.wrap ((x.ah.length:Int)-1)))|exact fun _=>(lE x cl))) ?_
 refine W.cond rfl (fun hb0=> ?_) (fun hb0=> ?_)
 ·have UO:Qw x sv cl=false:=bK hb0 (by simp only[Qw,aH]<;>first|rfl|ac_rfl)
  have he:kY x sv cl row c=false:=by rw[kY,UO];rfl
  refine W.s0 X [10,11] rfl ⟨⟩ ?_
  refine W.ret ?_
  exact Fin.ret rfl ⟨by rw[O3 he],by rw[he],⟨⟩⟩
 ·have UO:Qw x sv cl=true:=bG hb0 (by simp only[Qw,aH]<;>first|rfl|ac_rfl)
  have q:=MX.of UO
  have q1:=q.UN
  have q3:=q.xsv
  have q6:=q.xcl
  have q4:=q.xn
  have q5:=q.Xn
  have ho:=Bl sv
  have hol:=C6 (l:=(bk x cl)) (i:=(dV sv).toNat) (by omega)
  have hww:=iG q.xok q6
  refine W.skip ?_
  refine W.sr X [] [(37,⟨true,[.a (.sl .DB (cO x cl))]⟩)] [1,3,4,5,12] [] rfl (by(repeat' with_reducible first|exact aj.nil|refine aj.mk ?_ ?_|apply And.intro)<;>first|exact(gL x cl (by first|assumption|omega| (simp;done)| (simp;omega)))) ?_
  rw[hww]
  refine W.sr X [] [(39,⟨false,[.a (.lit (.int .i64 (dV sv)))]⟩)] [3,4,5,12,13] [] rfl (by(repeat' with_reducible first|exact aj.nil|refine aj.mk ?_ ?_|apply And.intro)<;>first|exact(rj sv)) ?_
  refine W.sd X [] [(650048,⟨true,[]⟩)] [3,4,5,12,13,14] [] 8 MO (by kernel_rfl) rfl (by and_intros<;>first|exact⟨⟩| (intros;omega)|exact rfl| ((try simp only[nb,an,aq]at*);(simp(disch:=omega) only[bl]);omega)| (simp only[cT,maxLen,lens];omega)) ?_
  rw[UG _ ho]
  refine W.sr X [] [(55,⟨true,[.agg (aF (U7 x.rows row c (yf (bk x cl) (dV sv).toNat))), .a (.lit (.bool (fT x.rows row c)))]⟩)] [12,13,15,16] [] rfl (by(repeat' with_reducible first|exact aj.nil|refine aj.mk ?_ ?_|apply And.intro)<;>first|exact(wo (yf (bk x cl) (dV sv).toNat) x.rows row c (by omega) (by omega) (fun d hd=>q.xel d (zV hd)) hc)) ?_
  refine W.seq ?_
  refine W.s0 X [12,13,15,59] rfl ⟨⟩ ?_
  refine W.cond rfl (fun aB=> ?_) (fun aB=> ?_)
  ·have hx:fT x.rows row c=false:=by simpa using aB
   have he:kY x sv cl row c=false:=by rw[kY,UO,hx];rfl
   refine W.s0 X [10,11] rfl ⟨⟩ ?_
   refine W.ret ?_
   exact Fin.ret rfl ⟨by rw[O3 he],by rw[he],⟨⟩⟩
  ·have hx:fT x.rows row c=true:=by simpa using aB
   have he:kY x sv cl row c=true:=by rw[kY,UO,hx];rfl
   refine W.skip ?_
   refine W.s0 X [12] rfl (by and_intros<;>first|exact⟨⟩| (intros;omega)) ?_
   refine W.s0 X [10,11] rfl ⟨⟩ ?_
   refine W.ret ?_
   exact Fin.ret rfl ⟨by rw[MZ he,Xp,U7,if_pos hx],by rw[he],⟨⟩⟩
end
end Go.Proofs.YteodajeiagmekaaGreat.G
