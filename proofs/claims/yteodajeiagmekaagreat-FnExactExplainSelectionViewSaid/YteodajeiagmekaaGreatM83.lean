/-
  What one server sees, explained.
-/
import Derived.Test.YteodajeiagmekaaGreatM40
import Derived.Test.YteodajeiagmekaaGreatM77
import Derived.Test.YteodajeiagmekaaGreatM79
import Derived.Test.YteodajeiagmekaaGreatM80
namespace Go.Proofs.YteodajeiagmekaaGreat.G
set_option linter.all false
open Go.RowKit L D
section
set_option maxRecDepth 100000
theorem pX(l:List (List Int))(rows i:Int)(hl:l.length≤1048576)(hs0: ∀v,v∈l→v.length≤1048576):Sound ty Tryz.prog 198 [.a (.sl (.sl .int) l), .a (.lit (.int .i64 rows)), .a (.lit (.int .i64 i))] [.a (.sl .int (Yl rows i l)), .a (.lit (.bool (tw rows i l)))]:=by
 refine Sound.o X Tryz.call198 Tryz.func198 Tryz.ntmps198 rfl rfl ?_
 intro zb
 have hun:=lF rows i
 refine W.s0 X [0,1,2] rfl ⟨⟩ ?_
 refine W.sr X [] [(12,⟨true,[.a (.sl .int (gD rows i))]⟩)] [0,1,8] [] rfl (by(repeat' with_reducible first|exact aj.nil|refine aj.mk ?_ ?_|apply And.intro)<;>first|exact(iA rows i)) ?_
 refine W.seq ?_
 refine W.s0 X [0,1,8,15] rfl ⟨⟩ ?_
 refine W.cond rfl (fun hb0=> ?_) (fun hb0=> ?_)
 ·try simp only[nb,an,aq,aa]at hb0
  have hu:=Ym (rows:=rows) (i:=i) (by omega)
  have hk:=UJ (l:=l) hu
  refine W.s0 X [6,7] rfl (by and_intros<;>first|exact⟨⟩|exact rfl) ?_
  refine W.ret ?_
  exact Fin.ret rfl ⟨by rw[IF hk],by rw[hk],⟨⟩⟩
 ·try simp only[nb,an,aq,aa]at hb0
  have hu:=UI (rows:=rows) (i:=i) (by omega)
  refine W.skip ?_
  refine W.seq ?_
  refine W.s0 X [0,1,8,9] rfl ⟨⟩ ?_
  refine W.block ?_
  refine W.aE (fun k=>k≤l.length∧((l.take k).all fun v=>bN v rows)=true) (fun k:Nat=> [(9, .one (.a (.lit (.int .i64 k))))]) (fun k=> [(12, .arr .int (QG rows i (l.take k)))]) (fun k=>l.length-k) 0 (fun k=>rfl) ⟨Nat.zero_le _,rfl⟩ rfl ?_
  rintro k ⟨gS,hall⟩
  have hle:=O1 rows i (l.take k)
  refine W.seq ?_
  refine W.s0 X [0,1,8,9,20] rfl ⟨⟩ ?_
  refine W.cond rfl (fun aB=> ?_) (fun aB=> ?_)
  ·try simp only[nb,an,aq,aa]at aB
   have nG:k<l.length:=by omega
   have hs:=K0 rows i l k nG
   have hvl:=hs0 _ (getD_in (au (.sl .int)) nG)
   refine W.skip ?_
   refine W.seq ?_
   refine W.block ?_
   refine W.seq ?_
   refine W.sr X [] [(28,⟨false,[.a (.lit (.bool (bN (l.getD k (au (.sl .int))) rows)))]⟩)] [0,1,8,9,29] [] rfl (by(repeat' with_reducible first|exact aj.nil|refine aj.mk ?_ ?_|apply And.intro)<;>first|exact(ec (l.getD k (au (.sl .int))) rows)| (intros;omega)) ?_
   refine W.cond rfl (fun aM=> ?_) (fun aM=> ?_)
   ·have hq:bN (l.getD k (au (.sl .int))) rows=false:=by simpa using aM
    have hk:=UK (i:=i) nG hq
    refine W.s0 X [6,7] rfl (by and_intros<;>first|exact⟨⟩|exact rfl) ?_
    refine W.ret ?_
    exact Fin.ret rfl ⟨by rw[IF hk],by rw[hk],⟨⟩⟩
   ·have hq:bN (l.getD k (au (.sl .int))) rows=true:=by simpa using aM
    refine W.skip ?_
    refine W.cD X [] [(36,⟨true,[.a (.sl .int (eA (QG rows i (l.take k)) (l.getD k (au (.sl .int)))))]⟩)] [0,1,8,9] [] rfl (by(repeat' with_reducible first|exact aj.nil|refine aj.mk ?_ ?_|apply And.intro)<;>first|exact(iB (QG rows i (l.take k)) (l.getD k (au (.sl .int))) (by first|assumption|omega| (simp;done)| (simp;omega)) (by first|assumption|omega| (simp;done)| (simp;omega)))| (intros;omega)) ?_
    refine W.rename 8 12 rfl ?_
    refine W.r0 X [0,1,8,9] rfl ⟨⟩ ?_
    refine⟨k+1,⟨by omega,by rw[qi _ _ _ (au (.sl .int)) nG,hall,hq];rfl⟩,by omega,?_⟩
    rw[aR _ k rfl (by omega),hs]
    try rfl
  ·try simp only[nb,an,aq,aa]at aB
   have htl:l.take k=l:=List.take_of_length_le (by omega)
   rw[htl]at hall
   have hk:=UL hu hall
   refine W.exit ?_
   refine W.s0 X [6,7] rfl ⟨⟩ ?_
   refine W.ret ?_
   exact Fin.ret rfl ⟨by rw[htl,C7 hk],by rw[hk],⟨⟩⟩
theorem ny(x:aJ)(sv r row s o:Int)(oK:x.ah.length≤1048576):Sound ty Tryz.prog 75 [.agg (aG x), .a (.lit (.int .i64 sv)), .a (.lit (.int .i64 r)), .a (.lit (.int .i64 row)), .a (.lit (.int .i64 s)), .a (.lit (.int .i64 o))] [.a (.sl (.sl .int) (vP x sv r row s o)), .a (.lit (.bool (jZ x sv row o)))]:=by
 refine Sound.o X Tryz.call75 Tryz.func75 Tryz.ntmps75 rfl rfl ?_
 intro zb
 refine W.b7 0 1 rfl rfl (fun nj=> ?_)
 refine W.s0 X [1,2,3,4,5,6] rfl ⟨⟩ ?_
 refine W.seq ?_
 refine W.sr X [] [(25,⟨false,[.a (.vw 0 none .int (eE x sv r row s))]⟩),(33,⟨false,[.a (.lit (.bool (inr o 0 (IntKind.i64.wrap (x.rows-1)))))]⟩)] [1,2,3,4,5,6,35] [] rfl (by(repeat' with_reducible first|exact aj.nil|refine aj.mk ?_ ?_|apply And.intro);(iterate 2 all_goals try first|exact(uw x sv r row s (by first|assumption|omega| (simp;done)| (simp;omega)))|exact fun _=>(aK o 0 (IntKind.i64.wrap (x.rows-1))))) ?_
 refine W.cond rfl (fun hb0=> ?_) (fun hb0=> ?_)
 ·have he:jZ x sv row o=false:=acN hb0
  refine W.s0 X [12,13] rfl (by and_intros<;>first|exact⟨⟩|exact rfl) ?_
  refine W.ret ?_
  exact Fin.ret rfl ⟨by rw[O2 he],by rw[he],⟨⟩⟩
 ·have he:jZ x sv row o=true:=acN hb0
  obtain⟨hk,hx⟩:=aaC (r:=r) (s:=s) he
  have q:=Yk.of (r:=r) (s:=s) hk
  have q1:=q.KX
  have q2:=q.acM
  have q3:=q.qsv
  have q4:=q.qn
  have q5:=q.Xl
  have ho:=Bl sv
  have hol:=C6 (l:=(query x r row s)) (i:=(dV sv).toNat) (by omega)
  have hrl:=dL x.ah.length r row s
  refine W.skip ?_
  refine W.sr X [] [(41,⟨true,[.a (.sl (.sl .int) (query x r row s))]⟩)] [1,5,6,14] [] rfl (by(repeat' with_reducible first|exact aj.nil|refine aj.mk ?_ ?_|apply And.intro)<;>first|exact(sI x r row s (by first|assumption|omega| (simp;done)| (simp;omega)))) ?_
  refine W.sr X [] [(43,⟨false,[.a (.lit (.int .i64 (dV sv)))]⟩)] [5,6,14,15] [] rfl (by(repeat' with_reducible first|exact aj.nil|refine aj.mk ?_ ?_|apply And.intro)<;>first|exact(va sv)) ?_
  refine W.s0 X [5,6,14,15,16] rfl (by and_intros<;>first|exact⟨⟩|exact rfl) ?_
  refine W.toBrrOf 16 60 41 rfl ?_
  refine W.seq ?_
  refine W.s0 X [5,6,14,15,16,17] rfl ⟨⟩ ?_
  refine W.block ?_
  refine W.aE (fun k=>k≤(query x r row s).length) (fun k:Nat=> [(17, .one (.a (.lit (.int .i64 k))))]) (fun k=> [(60, .lZ (.sl .int) (tv (query x r row s) (dV sv).toNat k) (.of 41))]) (fun k=>(query x r row s).length-k) 0 (fun k=>rfl) (Nat.zero_le _) (by rw[UH];rfl) ?_
  intro k hk
  have hle:=KZ (query x r row s) (dV sv).toNat k
  refine W.seq ?_
  refine W.s0 X [5,6,14,15,16,17,48] rfl ⟨⟩ ?_
  refine W.cond rfl (fun aB=> ?_) (fun aB=> ?_)
  ·try simp only[nb,an,aq,aa]at aB
   have nG:k<(query x r row s).length:=by omega
   refine W.skip ?_
   refine W.seq ?_
   refine W.block ?_
   refine W.s0 X [5,6,14,15,16,17,53] rfl ⟨⟩ ?_
   refine W.cond rfl (fun aM=> ?_) (fun aM=> ?_)
   ·try simp only[nb,an,aq,aa]at aM
    have hs:=GR (au (.sl .int)) nG (i:=(dV sv).toNat) (by omega)
    refine W.cD X [] [(500059,⟨true,[]⟩)] [5,6,14,15,16,17] [] rfl (by and_intros<;>first|exact⟨⟩| (intros;omega)|exact rfl| (simp only[cT,maxLen,lens];omega)) ?_
    refine W.r0 X [5,6,14,15,16,17] rfl ⟨⟩ ?_
    refine⟨k+1,by omega,by omega,?_⟩
    rw[aR _ k rfl (by omega),hs]
    try rfl
   ·try simp only[nb,an,aq,aa]at aM
    have hkk:(dV sv).toNat=k:=by omega
    have hs:tv (query x r row s) (dV sv).toNat (k+1)=tv (query x r row s) (dV sv).toNat k:=by rw[hkk];exact GQ
    refine W.skip ?_
    refine W.r0 X [5,6,14,15,16,17] rfl ⟨⟩ ?_
    refine⟨k+1,by omega,by omega,?_⟩
    rw[aR _ k rfl (by omega),hs]
    try rfl
  ·try simp only[nb,an,aq,aa]at aB
   have hok:=KY (l:=(query x r row s)) (i:=(dV sv).toNat) (k:=k) (by omega)
   refine W.exit ?_
   refine W.seq ?_
   rw[hok]
   refine W.cD X [] [(66,⟨true,[.a (.sl .int (Yl x.rows o (yf (query x r row s) (dV sv).toNat))), .a (.lit (.bool (tw x.rows o (yf (query x r row s) (dV sv).toNat))))]⟩)] [14,15,18,19] [] rfl (by(repeat' with_reducible first|exact aj.nil|refine aj.mk ?_ ?_|apply And.intro)<;>first|exact(pX (yf (query x r row s) (dV sv).toNat) x.rows o (by omega) (fun v hv=>by have:=K1 (q.MV v (zV hv));omega))) ?_
   refine W.s0 X [14,19] rfl (by and_intros<;>first|exact⟨⟩| (intros;omega)) ?_
   refine W.s0 X [12,13] rfl ⟨⟩ ?_
   refine W.ret ?_
   exact Fin.ret rfl ⟨by rw[MW he,Xm,C7 hx],by rw[he,hx],⟨⟩⟩
end
end Go.Proofs.YteodajeiagmekaaGreat.G
