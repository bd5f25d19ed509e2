/-
  What one server sees, explained.
-/
import Derived.Test.YteodajeiagmekaaGreatM37
import Derived.Test.YteodajeiagmekaaGreatM74
import Derived.Test.YteodajeiagmekaaGreatM78
namespace Go.Proofs.YteodajeiagmekaaGreat.G
set_option linter.all false
open Go.RowKit L D
section
set_option maxRecDepth 100000
theorem pW(l:List (List Int))(rows i:Int)(hl:l.length≤1048576)(hs0: ∀v,v∈l→v.length≤1048576):Sound ty Tryz.prog 180 [.a (.sl (.sl .int) l), .a (.lit (.int .i64 rows)), .a (.lit (.int .i64 i))] [.a (.sl .int (Yl rows i l)), .a (.lit (.bool (tw rows i l)))]:=by
 refine Sound.o X Tryz.call180 Tryz.func180 Tryz.ntmps180 rfl rfl ?_
 intro zb
 have hun:=lF rows i
 refine W.s0 X [0,1,2] rfl ⟨⟩ ?_
 refine W.sr X [] [(13,⟨true,[.a (.sl .int (gD rows i))]⟩)] [0,1,8] [] rfl (by(repeat' with_reducible first|exact aj.nil|refine aj.mk ?_ ?_|apply And.intro)<;>first|exact(mm rows i)) ?_
 refine W.seq ?_
 refine W.s0 X [0,1,8,16] rfl ⟨⟩ ?_
 refine W.cond rfl (fun hb0=> ?_) (fun hb0=> ?_)
 ·try simp only[nb,an,aq,aa]at hb0
  have hu:=Ym (rows:=rows) (i:=i) (by omega)
  have hk:=UJ (l:=l) hu
  refine W.s0 X [6,7] rfl ⟨⟩ ?_
  refine W.ret ?_
  exact Fin.ret rfl ⟨by rw[IF hk],by rw[hk],⟨⟩⟩
 ·try simp only[nb,an,aq,aa]at hb0
  have hu:=UI (rows:=rows) (i:=i) (by omega)
  refine W.skip ?_
  refine W.seq ?_
  refine W.s0 X [1,8,17,18,19] rfl ⟨⟩ ?_
  refine W.block ?_
  refine W.aE (fun k=>k≤l.length∧((l.take k).all fun v=>bN v rows)=true) (fun k:Nat=> [(19, .one (.a (.lit (.int .i64 k))))]) (fun k=> [(13, .arr .int (QG rows i (l.take k)))]) (fun k=>l.length-k) 0 (fun k=>rfl) ⟨Nat.zero_le _,rfl⟩ rfl ?_
  rintro k ⟨gS,hall⟩
  have hle:=O1 rows i (l.take k)
  refine W.s0 X [1,8,17,18,19,20] rfl ⟨⟩ ?_
  refine W.seq ?_
  refine W.cond rfl (fun aB=> ?_) (fun aB=> ?_)
  ·try simp only[nb,an,aq,aa]at aB
   have nG:k<l.length:=by omega
   have hs:=K0 rows i l k nG
   have hvl:=hs0 _ (getD_in (au (.sl .int)) nG)
   refine W.skip ?_
   refine W.seq ?_
   refine W.block ?_
   refine W.s0 X [1,8,10,17,18,19] rfl (by and_intros<;>first|exact⟨⟩| (intros;omega)) ?_
   refine W.seq ?_
   refine W.sr X [] [(25,⟨false,[.a (.lit (.bool (bN (l.getD k (au (.sl .int))) rows)))]⟩)] [1,8,10,17,18,19,26] [] rfl (by(repeat' with_reducible first|exact aj.nil|refine aj.mk ?_ ?_|apply And.intro)<;>first|exact(gI (l.getD k (au (.sl .int))) rows)) ?_
   refine W.cond rfl (fun aM=> ?_) (fun aM=> ?_)
   ·have hq:bN (l.getD k (au (.sl .int))) rows=false:=by simpa using aM
    have hk:=UK (i:=i) nG hq
    refine W.s0 X [6,7] rfl ⟨⟩ ?_
    refine W.ret ?_
    exact Fin.ret rfl ⟨by rw[IF hk],by rw[hk],⟨⟩⟩
   ·have hq:bN (l.getD k (au (.sl .int))) rows=true:=by simpa using aM
    refine W.skip ?_
    refine W.cD X [] [(29,⟨true,[.a (.sl .int (eA (QG rows i (l.take k)) (l.getD k (au (.sl .int)))))]⟩)] [1,8,17,18,19] [] rfl (by(repeat' with_reducible first|exact aj.nil|refine aj.mk ?_ ?_|apply And.intro)<;>first|exact(mo (QG rows i (l.take k)) (l.getD k (au (.sl .int))) (by first|assumption|omega| (simp;done)| (simp;omega)) (by first|assumption|omega| (simp;done)| (simp;omega)))) ?_
    refine W.rename 8 13 rfl ?_
    refine W.r0 X [1,8,17,18,19] rfl ⟨⟩ ?_
    refine⟨k+1,⟨by omega,by rw[qi _ _ _ (au (.sl .int)) nG,hall,hq];rfl⟩,by omega,?_⟩
    rw[aR _ k rfl (by omega),hs]
    try rfl
  ·try simp only[nb,an,aq,aa]at aB
   have htl:l.take k=l:=List.take_of_length_le (by omega)
   rw[htl]at hall
   have hk:=UL hu hall
   refine W.exit ?_
   refine W.s0 X [6,7] rfl ⟨⟩ ?_
   refine W.ret ?_
   exact Fin.ret rfl ⟨by rw[htl,C7 hk],by rw[hk],⟨⟩⟩
theorem eR(x:aJ)(sv r row s o:Int)(oK:x.ah.length≤1048576):Sound ty Tryz.prog 61 [.agg (aG x), .a (.lit (.int .i64 sv)), .a (.lit (.int .i64 r)), .a (.lit (.int .i64 row)), .a (.lit (.int .i64 s)), .a (.lit (.int .i64 o))] [.a (.sl (.sl .int) (vP x sv r row s o)), .a (.lit (.bool (jZ x sv row o)))]:=by
 refine Sound.o X Tryz.call61 Tryz.func61 Tryz.ntmps61 rfl rfl ?_
 intro zb
 refine W.b7 0 1 rfl rfl (fun nj=> ?_)
 refine W.s0 X [1,2,3,4,5,6] rfl ⟨⟩ ?_
 refine W.seq ?_
 refine W.sr X [] [(20,⟨false,[.a (.lit (.bool (okW x)))]⟩),(28,⟨false,[.a (.lit (.bool (inr sv 0 (IntKind.i64.wrap ((x.ah.length:Int)-1)))))]⟩),(36,⟨false,[.a (.lit (.bool (inr row 0 (IntKind.i64.wrap (x.rows-1)))))]⟩)] [1,2,3,4,5,6,38] [] rfl (by(repeat' with_reducible first|exact aj.nil|refine aj.mk ?_ ?_|apply And.intro);(iterate 3 all_goals try first|exact(bw x)|exact fun _=>(aC sv 0 (IntKind.i64.wrap ((x.ah.length:Int)-1)))|exact fun _=>(aC row 0 (IntKind.i64.wrap (x.rows-1))))) ?_
 refine W.cond rfl (fun hb0=> ?_) (fun hb0=> ?_)
 ·have hk:mT x sv row=false:=bK hb0 (by simp only[mT,aH]<;>first|rfl|ac_rfl)
  have he:jZ x sv row o=false:=by rw[jZ,hk];rfl
  refine W.s0 X [12,13] rfl ⟨⟩ ?_
  refine W.ret ?_
  exact Fin.ret rfl ⟨by rw[O2 he],by rw[he],⟨⟩⟩
 ·have hk:mT x sv row=true:=bG hb0 (by simp only[mT,aH]<;>first|rfl|ac_rfl)
  have q:=Yk.of (r:=r) (s:=s) hk
  have q1:=q.KX
  have q2:=q.acM
  have q3:=q.qsv
  have q4:=q.qn
  have q5:=q.Xl
  have ho:=Bl sv
  have hol:=C6 (l:=(query x r row s)) (i:=(dV sv).toNat) (by omega)
  have hrl:=dL x.ah.length r row s
  refine W.skip ?_
  refine W.sd X [] [(46,⟨true,[.a (.sl .int (cG x.ah.length r row s))]⟩),(47,⟨true,[.a (.sl (.sl .int) (eM x.rows row (cG x.ah.length r row s)))]⟩)] [1,5,6,14] [] 10 MO (by kernel_rfl) rfl (by(repeat' with_reducible first|exact aj.nil|refine aj.mk ?_ ?_|apply And.intro);(iterate 2 all_goals try first|exact(lI x r row s (by first|assumption|omega| (simp;done)| (simp;omega)))|exact(lH x.rows row (cG x.ah.length r row s) (by first|assumption|omega| (simp;done)| (simp;omega))))) ?_
  rw[show eM x.rows row (cG x.ah.length r row s)=(query x r row s)from rfl]
  refine W.sr X [] [(49,⟨false,[.a (.lit (.int .i64 (dV sv)))]⟩)] [5,6,14,15] [] rfl (by(repeat' with_reducible first|exact aj.nil|refine aj.mk ?_ ?_|apply And.intro)<;>first|exact(rj sv)) ?_
  refine W.sd X [] [(650058,⟨true,[]⟩)] [5,6,14,15,16] [] 8 MO (by kernel_rfl) rfl (by and_intros<;>first|exact⟨⟩| (intros;omega)|exact rfl| ((try simp only[nb,an,aq]at*);(simp(disch:=omega) only[bl]);omega)| (simp only[cT,maxLen,lens];omega)) ?_
  rw[UG _ ho]
  refine W.sr X [] [(64,⟨true,[.a (.sl .int (Yl x.rows o (yf (query x r row s) (dV sv).toNat))), .a (.lit (.bool (tw x.rows o (yf (query x r row s) (dV sv).toNat))))]⟩)] [14,15,17,18] [] rfl (by(repeat' with_reducible first|exact aj.nil|refine aj.mk ?_ ?_|apply And.intro)<;>first|exact(pW (yf (query x r row s) (dV sv).toNat) x.rows o (by omega) (fun v hv=>by have:=K1 (q.MV v (zV hv));omega))) ?_
  refine W.seq ?_
  refine W.s0 X [14,15,17,68] rfl ⟨⟩ ?_
  refine W.cond rfl (fun aB=> ?_) (fun aB=> ?_)
  ·have hx:tw x.rows o (yf (query x r row s) (dV sv).toNat)=false:=by simpa using aB
   have he:jZ x sv row o=false:=by rw[jZ,hk, ←UM (r:=r) (s:=s) hk,hx];rfl
   refine W.s0 X [12,13] rfl ⟨⟩ ?_
   refine W.ret ?_
   exact Fin.ret rfl ⟨by rw[O2 he],by rw[he],⟨⟩⟩
  ·have hx:tw x.rows o (yf (query x r row s) (dV sv).toNat)=true:=by simpa using aB
   have he:jZ x sv row o=true:=by rw[jZ,hk, ←UM (r:=r) (s:=s) hk,hx];rfl
   refine W.skip ?_
   refine W.s0 X [14] rfl (by and_intros<;>first|exact⟨⟩| (intros;omega)) ?_
   refine W.s0 X [12,13] rfl ⟨⟩ ?_
   refine W.ret ?_
   exact Fin.ret rfl ⟨by rw[MW he,Xm,C7 hx],by rw[he],⟨⟩⟩
end
end Go.Proofs.YteodajeiagmekaaGreat.G
