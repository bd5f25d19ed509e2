/-
  Shares of a write.
-/
import Derived.Test.YteodajeiagmekaaGreatM23
import Derived.Test.YteodajeiagmekaaGreatM36
import Derived.Test.YteodajeiagmekaaGreatM44
import Derived.Test.YteodajeiagmekaaGreatM45
namespace Go.Proofs.YteodajeiagmekaaGreat.G
set_option linter.all false
open Go.RowKit L D
section
set_option maxRecDepth 100000
theorem iU(x:aJ)(sv:Int)(oK:x.ah.length≤1048576):Sound ty Tryz.prog 70 [.agg (aG x), .a (.lit (.int .i64 sv))] [.a (.sl .DB (bf x sv))]:=by
 refine Sound.o X Tryz.call70 Tryz.func70 Tryz.ntmps70 rfl rfl ?_
 intro zb
 refine W.b7 0 1 rfl rfl (fun nj=> ?_)
 refine W.b7 0 2 rfl rfl (fun j0=> ?_)
 refine W.s0 X [1,2] rfl ⟨⟩ ?_
 refine W.seq ?_
 refine W.sr X [] [(9,⟨false,[.a (.lit (.bool (okW x)))]⟩),(17,⟨false,[.a (.lit (.bool (inr sv 0 (IntKind.i64.wrap ((x.ah.length:Int)-1)))))]⟩)] [1,2,19] [] rfl (by(repeat' with_reducible first|exact aj.nil|refine aj.mk ?_ ?_|apply And.intro);(iterate 2 all_goals try first|exact(bw x)|exact fun _=>(aC sv 0 (IntKind.i64.wrap ((x.ah.length:Int)-1))))) ?_
 refine W.cond rfl (fun hb0=> ?_) (fun hb0=> ?_)
 ·have U4:J6 x sv=false:=bK hb0 (by simp only[J6,aH]<;>first|rfl|ac_rfl)
  refine W.s0 X [4] rfl ⟨⟩ ?_
  refine W.ret ?_
  exact Fin.ret rfl ⟨by rw[bf,if_neg (by rw[U4];decide)],⟨⟩⟩
 ·have U4:J6 x sv=true:=bG hb0 (by simp only[J6,aH]<;>first|rfl|ac_rfl)
  have hkb:=Ms U4
  refine W.skip ?_
  refine W.s0 X [1,2,5] rfl (by and_intros<;>first|exact⟨⟩|exact rfl) ?_
  refine W.seq ?_
  refine W.s0 X [1,2,5,23,24] rfl ⟨⟩ ?_
  refine W.block ?_
  refine W.aE (fun k=>k≤x.af.length) (fun k:Nat=> [(24, .one (.a (.lit (.int .i64 k))))]) (fun k=> [(20, .arr .DB (lJ x sv k))]) (fun k=>x.af.length-k) 0 (fun k=>rfl) (Nat.zero_le _) rfl ?_
  intro k hk
  have hle:=xp x sv k
  refine W.s0 X [1,2,5,23,24,25] rfl ⟨⟩ ?_
  refine W.seq ?_
  refine W.cond rfl (fun aB=> ?_) (fun aB=> ?_)
  ·try simp only[nb,an,aq,aa]at aB
   refine W.skip ?_
   refine W.seq ?_
   refine W.block ?_
   refine W.s0 X [1,2,5,6,23,24] rfl ⟨⟩ ?_
   refine W.sr X [] [(29,⟨true,[.a (.sl .DB (cO x (k:Int)))]⟩)] [1,2,5,7,23,24] [] rfl (by(repeat' with_reducible first|exact aj.nil|refine aj.mk ?_ ?_|apply And.intro)<;>first|exact(gL x (k:Int) (by first|assumption|omega| (simp;done)| (simp;omega)))) ?_
   refine W.s0 X [1,2,5,7,23,24,33] rfl ⟨⟩ ?_
   refine W.cond rfl (fun aM=> ?_) (fun aM=> ?_)
   ·try simp only[nb,an,aq,aa]at aM
    have hs:=xm x sv k aM
    refine W.cD X [(40,20)] [] [1,2,5,23,24] [] rfl (by and_intros<;>first|exact⟨⟩| (intros;omega)|exact rfl| (simp only[cT,maxLen,lens];omega)) ?_
    refine W.r0 X [1,2,5,23,24] rfl ⟨⟩ ?_
    refine⟨k+1,by omega,by omega,?_⟩
    rw[aR _ k rfl (by omega),hs]
    try rfl
   ·try simp only[nb,an,aq,aa]at aM
    have hs:=BK x sv k (by omega)
    refine W.skip ?_
    refine W.r0 X [1,2,5,23,24] rfl ⟨⟩ ?_
    refine⟨k+1,by omega,by omega,?_⟩
    rw[aR _ k rfl (by omega),hs]
    try rfl
  ·try simp only[nb,an,aq,aa]at aB
   refine W.exit ?_
   refine W.s0 X [4] rfl ⟨⟩ ?_
   refine W.ret ?_
   exact Fin.ret rfl ⟨by rw[bf,if_pos U4,show x.af.length=k by omega],⟨⟩⟩
end
end Go.Proofs.YteodajeiagmekaaGreat.G
