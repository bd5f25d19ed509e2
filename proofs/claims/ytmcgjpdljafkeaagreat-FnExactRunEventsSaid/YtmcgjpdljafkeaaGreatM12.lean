/-
  Contracts of the laws' own functions by the symbolic machine: eq.. of every type.
-/
import Derived.Test.YtmcgjpdljafkeaaGreatM2
import Derived.Test.YtmcgjpdljafkeaaGreatM9
namespace Go.Proofs.YtmcgjpdljafkeaaGreat.G
set_option linter.all false
open Go.RowKit L D
section
set_option maxRecDepth 100000
def ck(x:Ev):Nat:=List.length x.body
end
section
set_option maxRecDepth 100000
theorem Ex(x:Ev)(left:Int)(h0:0≤left)(h1:left≤1048576):Sound ty Tryz.prog 23 [.agg (fP x), .a (.lit (.int .i64 left))] [.a (.lit (.int .i64 (szr left (ck x))))]:=by
 refine Sound.o X Tryz.call23 Tryz.func23 Tryz.ntmps23 rfl rfl ?_
 intro zb
 refine W.s0 X [1,2] rfl ⟨⟩ ?_
 refine W.sr X [] [(8,⟨false,[.a (.lit (.int .i64 (szr (left) (List.length x.body))))]⟩)] [1] [] rfl ⟨Ew x.body (left) (by omega) (by omega),⟨⟩⟩ ?_
 refine W.seq ?_
 refine W.s0 X [1,10] rfl ⟨⟩ ?_
 refine W.cond rfl (fun hb0=> ?_) (fun hb0=> ?_)
 ·try simp only[nb]at hb0
  refine W.s0 X [4] rfl ⟨⟩ ?_
  refine W.ret ?_
  exact Fin.ret rfl ⟨by rw[dw (by have:=dM (by omega) hb0;unfold ck;omega)],⟨⟩⟩
 ·try simp only[nb]at hb0
  obtain⟨e0,JY⟩:=cB hb0
  rw[e0]
  refine W.skip ?_
  refine W.s0 X [4] rfl ⟨⟩ ?_
  refine W.ret ?_
  exact Fin.ret rfl ⟨by rw[gE (by unfold ck;omega)];first|done| (congr 1;done)| (congr 1;unfold ck;omega),⟨⟩⟩
end
section
set_option maxRecDepth 100000
theorem oJ(x:Ev)(hx:ck x≤1048576):Sound ty Tryz.prog 25 [.agg (fP x)] [.agg (fP x)]:=by
 refine Sound.o X Tryz.call25 Tryz.func25 Tryz.ntmps25 rfl rfl ?_
 intro zb
 have rT:=hx
 unfold ck at rT
 refine W.s0 X [1,2] rfl ⟨⟩ ?_
 refine W.s0 X [1,2,3] rfl ⟨⟩ ?_
 refine W.s0 X [1,2,3] rfl ⟨⟩ ?_
 refine W.s0 X [1,2,3] rfl ⟨⟩ ?_
 refine W.s0 X [1,2,3] rfl ⟨⟩ ?_
 refine W.sr X [(15,230)] [(15,⟨true,[.a (.sl .u8 x.body)]⟩)] [2,3] [] rfl ⟨Ey x.body (by omega),⟨⟩⟩ ?_
 refine W.s0 X [2] rfl (by and_intros<;>exact⟨⟩) ?_
 refine W.ret ?_
 exact Fin.ret rfl (by(repeat' (first|exact True.intro|apply And.intro))<;>rfl)
end
section
set_option maxRecDepth 100000
theorem EA(x:Ev):Sound ty Tryz.prog 27 [.agg (fP x), .agg (fP x)] [.a (.lit (.bool true))]:=by
 refine Sound.o X Tryz.call27 Tryz.func27 Tryz.ntmps27 rfl rfl ?_
 intro zb
 refine W.s0 X [2,3] rfl ⟨⟩ ?_
 refine W.seq ?_
 refine W.s0 X [2,3,9] rfl ⟨⟩ ?_
 refine W.cond rfl (fun hb0=> ?_) (fun hb0=> ?_)
 ·exact absurd hb0 (by simp)
 ·clear hb0
  refine W.skip ?_
  refine W.seq ?_
  refine W.s0 X [2,3,14] rfl ⟨⟩ ?_
  refine W.cond rfl (fun aD=> ?_) (fun aD=> ?_)
  ·exact absurd aD (by simp)
  ·clear aD
   refine W.skip ?_
   refine W.seq ?_
   refine W.s0 X [2,3,19] rfl ⟨⟩ ?_
   refine W.cond rfl (fun aR=> ?_) (fun aR=> ?_)
   ·exact absurd aR (by simp)
   ·clear aR
    refine W.skip ?_
    refine W.seq ?_
    refine W.sr X [] [(24,⟨false,[.a (.lit (.bool true))]⟩)] [25] [] rfl ⟨Ez x.body,⟨⟩⟩ ?_
    refine W.cond rfl (fun dS=> ?_) (fun dS=> ?_)
    ·exact absurd dS (by simp)
    ·clear dS
     refine W.skip ?_
     refine W.s0 X [4] rfl ⟨⟩ ?_
     refine W.ret ?_
     exact Fin.ret rfl ⟨rfl,⟨⟩⟩
end
end Go.Proofs.YtmcgjpdljafkeaaGreat.G
