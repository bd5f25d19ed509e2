/-
  FnExactRunRound, walked by the symbolic machine: it returns true.
-/
import Derived.Test.YtmcgjpdljafkeaaGreatM11
import Derived.Test.YtmcgjpdljafkeaaGreatM21
namespace Go.Proofs.YtmcgjpdljafkeaaGreat.G
set_option linter.all false
open Go.RowKit L D
section
set_option maxRecDepth 100000
theorem ym(x0:aN)(NC:(iT) x0):Sound ty Tryz.prog 3 [.agg (ay x0)] [.a (.lit (.bool true))]:=by
 refine Sound.o X Tryz.call3 Tryz.func3 Tryz.ntmps3 rfl rfl ?_
 intro zb
 refine W.s0 X [1] rfl ⟨⟩ ?_
 refine W.s0 X [1,3] rfl ⟨⟩ ?_
 refine W.sr X [] [(13,⟨false,[.a (.lit (.int .i64 (szr (1048576) (bB x0))))]⟩)] [1,3] [] rfl ⟨kG x0 (1048576) (by omega) (by omega),⟨⟩⟩ ?_
 refine W.seq ?_
 refine W.s0 X [1,15] rfl ⟨⟩ ?_
 refine W.cond rfl (fun hb0=> ?_) (fun hb0=> ?_)
 ·try simp only[nb]at hb0
  refine W.s0 X [2] rfl ⟨⟩ ?_
  refine W.ret ?_
  exact Fin.ret rfl ⟨rfl,⟨⟩⟩
 ·try simp only[nb]at hb0
  obtain⟨e0,JY⟩:=cB hb0
  rw[e0]
  have hsz:bB x0≤1048576:=by omega
  have Jd:=dP x0
  have ND:=vE hsz
  have NF:=vF hsz
  have X8:=dP (cP x0)
  have X9:=xS (Dk (gr hsz)) (by decide)
  refine W.skip ?_
  refine W.sr X [(17,225),(18,250)] [(17,⟨true,[.agg (ay x0)]⟩),(18,⟨true,[.agg (ay (cP x0))]⟩)] [1,4] [] rfl ⟨iQ x0 (Au (gr hsz) (by decide)),bU x0 (by omega),⟨⟩⟩ ?_
  refine W.sr X [(20,275)] [(20,⟨true,[.agg (ay x0)]⟩)] [1,4,5] [] rfl ⟨bU x0 (by omega),⟨⟩⟩ ?_
  refine W.sr X [(22,300)] [(22,⟨true,[.agg (ay (cP x0))]⟩)] [1,4,5,6] [] rfl ⟨fZ x0 (Au (gr hsz) (by decide)),⟨⟩⟩ ?_
  refine W.seq ?_
  refine W.sr X [] [(25,⟨false,[.a (.lit (.bool true))]⟩)] [1,4,5,6,26] [] rfl ⟨cu (cP x0),⟨⟩⟩ ?_
  refine W.cond rfl (fun aD=> ?_) (fun aD=> ?_)
  ·exact absurd aD (by first| (simp;done)| (simp;omega))
  ·clear aD
   refine W.skip ?_
   refine W.seq ?_
   refine W.sd X [(29,325)] [(29,⟨true,[.agg (ay x0)]⟩),(30,⟨false,[.a (.lit (.bool true))]⟩)] [1,4,5,6,31] [] 5 MO (by kernel_rfl) rfl ⟨cu x0,bU x0 (by omega),⟨⟩⟩ ?_
   refine W.cond rfl (fun aR=> ?_) (fun aR=> ?_)
   ·exact absurd aR (by first| (simp;done)| (simp;omega))
   ·clear aR
    refine W.skip ?_
    refine W.s0 X [1,4,5,6,7] rfl ⟨⟩ ?_
    refine W.sr X [] [(100034,⟨false,[.a (.lit (.int .i64 (1+(bV x0:Nat)))), .agg (ay (iM (1) x0)), .a (.lit (.int .i64 (1)))]⟩)] [1,4,6,7] [] rfl ⟨ez x0 (1) (by omega) (by omega),⟨⟩⟩ ?_
    refine W.seq ?_
    refine W.sr X [] [(40,⟨false,[.a (.lit (.bool true))]⟩)] [1,4,6,42] [] rfl ⟨fun _=>cu (cP x0),⟨⟩⟩ ?_
    refine W.cond rfl (fun dS=> ?_) (fun dS=> ?_)
    ·exact absurd dS (by first| (simp;done)| (simp;omega))
    ·clear dS
     refine W.skip ?_
     refine W.s0 X [1,4,6,8] rfl ⟨⟩ ?_
     refine W.sr X [] [(100045,⟨false,[.a (.lit (.int .i64 (1+(bV (cP x0):Nat)))), .agg (ay (iM (1) (cP x0))), .a (.lit (.int .i64 (1)))]⟩)] [1,4,6,8] [] rfl ⟨ez (cP x0) (1) (by omega) (by omega),⟨⟩⟩ ?_
     refine W.s0 X [1,4,6,8,9] rfl ⟨⟩ ?_
     refine W.sr X [] [(48,⟨false,[.a (.lit (.int .i64 (1+(bV (cP x0):Nat))))]⟩)] [1,4,6,8,9] [] rfl ⟨eA (cP x0) (1) (by omega) (by omega),⟨⟩⟩ ?_
     refine W.seq ?_
     refine W.s0 X [1,4,6,8,9,50] rfl ⟨⟩ ?_
     refine W.cond rfl (fun hY=> ?_) (fun hY=> ?_)
     ·exact absurd hY (by first| (simp;done)| (simp;omega))
     ·clear hY
      refine W.skip ?_
      refine W.seq ?_
      refine W.s0 X [1,4,6,8,53] rfl ⟨⟩ ?_
      refine W.cond rfl (fun mO=> ?_) (fun mO=> ?_)
      ·exact absurd mO (by first| (simp;done)| (simp;omega))
      ·clear mO
       refine W.skip ?_
       refine W.sr X [(55,350),(56,375)] [(55,⟨true,[.agg (ay x0)]⟩),(56,⟨true,[.agg (ay (cP x0))]⟩)] [4,6,8,10] [] rfl ⟨fZ x0 (Au (gr hsz) (by decide)),bU x0 (by omega),⟨⟩⟩ ?_
       refine W.seq ?_
       refine W.sr X [] [(59,⟨false,[.a (.lit (.bool true))]⟩)] [6,8,60] [] rfl ⟨cu (cP x0),⟨⟩⟩ ?_
       refine W.cond rfl (fun oK=> ?_) (fun oK=> ?_)
       ·exact absurd oK (by first| (simp;done)| (simp;omega))
       ·clear oK
        refine W.skip ?_
        refine W.s0 X [6,8,9] rfl ⟨⟩ ?_
        refine W.sr X [] [(63,⟨false,[.a (.lit (.int .i64 (1+(bV (cP x0):Nat))))]⟩)] [8,9] [] rfl ⟨eA (cP x0) (1) (by omega) (by omega),⟨⟩⟩ ?_
        refine W.seq ?_
        refine W.s0 X [8,9,65] rfl ⟨⟩ ?_
        refine W.cond rfl (fun vp=> ?_) (fun vp=> ?_)
        ·exact absurd vp (by first| (simp;done)| (simp;omega))
        ·clear vp
         refine W.skip ?_
         refine W.seq ?_
         refine W.s0 X [68] rfl ⟨⟩ ?_
         refine W.cond rfl (fun yP=> ?_) (fun yP=> ?_)
         ·exact absurd yP (by first| (simp;done)| (simp;omega))
         ·clear yP
          refine W.skip ?_
          refine W.s0 X [2] rfl ⟨⟩ ?_
          refine W.ret ?_
          exact Fin.ret rfl ⟨rfl,⟨⟩⟩
end
end Go.Proofs.YtmcgjpdljafkeaaGreat.G
