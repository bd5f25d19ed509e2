/-
  FnPhases, FnReads: the laws, walked by the symbolic machine: they return true. No condition.
-/
import Derived.Test.YteodajeiagmekaaGreatM56
import Derived.Test.YteodajeiagmekaaGreatM61
import Derived.Test.YteodajeiagmekaaGreatM63
namespace Go.Proofs.YteodajeiagmekaaGreat.G
set_option linter.all false
open Go.RowKit L D
section
set_option maxRecDepth 100000
theorem BU(a b:List UInt8)(hl:a.length≤1048576):Sound ty Tryz.prog 32 [.a (.sl .u8 a), .a (.sl .u8 b)] [.a (.lit (.bool (a==b)))]:=by
 refine Sound.o X Tryz.call32 Tryz.func32 Tryz.ntmps32 rfl rfl ?_
 intro zb
 refine W.s0 X [0,1] rfl ⟨⟩ ?_
 refine W.seq ?_
 refine W.s0 X [0,1,10] rfl ⟨⟩ ?_
 refine W.cond rfl (fun hb0=> ?_) (fun hb0=> ?_)
 ·try simp only[nb,an,aq,aa]at hb0
  have hne:(a==b)=false:=by rw[beq_eq_false_iff_ne];intro h;rw[h]at hb0;omega
  refine W.s0 X [4] rfl ⟨⟩ ?_
  refine W.ret ?_
  exact Fin.ret rfl ⟨by rw[hne],⟨⟩⟩
 ·try simp only[nb,an,aq,aa]at hb0
  have hlen:a.length=b.length:=by omega
  refine W.skip ?_
  refine W.seq ?_
  refine W.s0 X [0,1,5] rfl ⟨⟩ ?_
  refine W.block ?_
  refine W.aE (fun k=>k≤a.length∧a.take k=b.take k) (fun k:Nat=> [(5, .one (.a (.lit (.int .i64 k))))]) (fun k=> []) (fun k=>a.length-k) 0 (fun k=>rfl) ⟨Nat.zero_le _,by simp⟩ rfl ?_
  rintro k ⟨hk,hall⟩
  refine W.seq ?_
  refine W.s0 X [0,1,5,14] rfl ⟨⟩ ?_
  refine W.cond rfl (fun aB=> ?_) (fun aB=> ?_)
  ·try simp only[nb,an,aq,aa]at aB
   refine W.skip ?_
   refine W.seq ?_
   refine W.block ?_
   refine W.sd X [] [] [0,1,5,25] [] 9 MO (by kernel_rfl) rfl (by and_intros<;>first|exact⟨⟩| (intros;omega)) ?_
   refine W.cond rfl (fun aM=> ?_) (fun aM=> ?_)
   ·try simp only[nb,an,aq,aa]at aM
    have hne:(a==b)=false:=acE aB (by omega) (by omega)
    refine W.s0 X [4] rfl ⟨⟩ ?_
    refine W.ret ?_
    exact Fin.ret rfl ⟨by rw[hne],⟨⟩⟩
   ·try simp only[nb,an,aq,aa]at aM
    have he:a.getD k (au .u8)=b.getD k (au .u8):=HM (by omega)
    refine W.skip ?_
    refine W.r0 X [0,1,5] rfl ⟨⟩ ?_
    refine⟨k+1,⟨by omega,kg a b (au .u8) k aB (by omega) hall he⟩,by omega,?_⟩
    rw[aR _ k rfl (by omega)]
    try rfl
  ·try simp only[nb,an,aq,aa]at aB
   refine W.exit ?_
   refine W.s0 X [4] rfl ⟨⟩ ?_
   refine W.ret ?_
   exact Fin.ret rfl ⟨by rw[nP a b k (by omega) (by omega) hall],⟨⟩⟩
end
end Go.Proofs.YteodajeiagmekaaGreat.G
