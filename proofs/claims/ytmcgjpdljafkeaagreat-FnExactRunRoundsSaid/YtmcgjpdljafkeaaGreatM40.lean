/-
  FnExactRunRounds, walked by the symbolic machine: it returns true.
-/
import Derived.Test.YtmcgjpdljafkeaaGreatM10
import Derived.Test.YtmcgjpdljafkeaaGreatM37
namespace Go.Proofs.YtmcgjpdljafkeaaGreat.G
set_option linter.all false
open Go.RowKit L D
section
set_option maxRecDepth 100000
theorem vX(x0:aN)(NC:(iT) x0)(x1:Int)(Zr:we x1):Sound ty Tryz.prog 4 [.agg (ay x0), .a (.lit (.int .i64 x1))] [.a (.lit (.bool true))]:=by
 refine Sound.o X Tryz.call4 Tryz.func4 Tryz.ntmps4 rfl rfl ?_
 intro zb
 refine W.s0 X [1,2] rfl ⟨⟩ ?_
 refine W.s0 X [1,2,5] rfl ⟨⟩ ?_
 refine W.sr X [] [(15,⟨false,[.a (.lit (.int .i64 (szr (1048576) (bB x0))))]⟩)] [1,2,5] [] rfl ⟨kG x0 (1048576) (by omega) (by omega),⟨⟩⟩ ?_
 refine W.seq ?_
 refine W.s0 X [1,2,17] rfl ⟨⟩ ?_
 refine W.cond rfl (fun hb0=> ?_) (fun hb0=> ?_)
 ·try simp only[nb]at hb0
  refine W.s0 X [4] rfl ⟨⟩ ?_
  refine W.ret ?_
  exact Fin.ret rfl ⟨rfl,⟨⟩⟩
 ·try simp only[nb]at hb0
  obtain⟨e0,JY⟩:=cB hb0
  rw[e0]
  have hsz:bB x0≤1048576:=by omega
  have Jd:=dP x0
  have ND:=vE hsz
  have NF:=vF hsz
  have X8:=dP (bN x0 (l7 x1))
  have Zq:=GA x1
  have X9:=xS (Gs (gr hsz) (l7 x1)) (by omega)
  refine W.skip ?_
  refine W.sr X [(19,225),(21,250)] [(19,⟨true,[.agg (ay x0)]⟩),(21,⟨true,[.agg (ay (bN x0 (l7 x1)))]⟩)] [1,2,6] [] rfl ⟨pI x0 x1 (dO (gr hsz) (by decide)),bU x0 (by omega),⟨⟩⟩ ?_
  refine W.sr X [(23,275)] [(23,⟨true,[.agg (ay x0)]⟩)] [1,2,6,7] [] rfl ⟨bU x0 (by omega),⟨⟩⟩ ?_
  refine W.sr X [(26,300)] [(26,⟨true,[.agg (ay (bN x0 (l7 x1)))]⟩)] [1,2,6,7,8] [] rfl ⟨kW x0 x1 (dO (gr hsz) (by decide)),⟨⟩⟩ ?_
  refine W.seq ?_
  refine W.sr X [] [(29,⟨false,[.a (.lit (.bool true))]⟩)] [1,2,6,7,8,30] [] rfl ⟨cu (bN x0 (l7 x1)),⟨⟩⟩ ?_
  refine W.cond rfl (fun aD=> ?_) (fun aD=> ?_)
  ·exact absurd aD (by first| (simp;done)| (simp;omega))
  ·clear aD
   refine W.skip ?_
   refine W.seq ?_
   refine W.sd X [(33,325)] [(33,⟨true,[.agg (ay x0)]⟩),(34,⟨false,[.a (.lit (.bool true))]⟩)] [1,2,6,7,8,35] [] 5 MO (by kernel_rfl) rfl ⟨cu x0,bU x0 (by omega),⟨⟩⟩ ?_
   refine W.cond rfl (fun aR=> ?_) (fun aR=> ?_)
   ·exact absurd aR (by first| (simp;done)| (simp;omega))
   ·clear aR
    refine W.skip ?_
    refine W.s0 X [1,2,6,7,8,9] rfl ⟨⟩ ?_
    refine W.sr X [] [(100038,⟨false,[.a (.lit (.int .i64 (1+(bV x0:Nat)))), .agg (ay (iM (1) x0)), .a (.lit (.int .i64 (1)))]⟩)] [1,2,6,8,9] [] rfl ⟨ez x0 (1) (by omega) (by omega),⟨⟩⟩ ?_
    refine W.seq ?_
    refine W.sr X [] [(44,⟨false,[.a (.lit (.bool true))]⟩)] [1,2,6,8,46] [] rfl ⟨fun _=>cu (bN x0 (l7 x1)),⟨⟩⟩ ?_
    refine W.cond rfl (fun dS=> ?_) (fun dS=> ?_)
    ·exact absurd dS (by first| (simp;done)| (simp;omega))
    ·clear dS
     refine W.skip ?_
     refine W.s0 X [1,2,6,8,10] rfl ⟨⟩ ?_
     refine W.sr X [] [(100049,⟨false,[.a (.lit (.int .i64 (1+(bV (bN x0 (l7 x1)):Nat)))), .agg (ay (iM (1) (bN x0 (l7 x1)))), .a (.lit (.int .i64 (1)))]⟩)] [1,2,6,8,10] [] rfl ⟨ez (bN x0 (l7 x1)) (1) (by omega) (by omega),⟨⟩⟩ ?_
     refine W.s0 X [1,2,6,8,10,11] rfl ⟨⟩ ?_
     refine W.sr X [] [(52,⟨false,[.a (.lit (.int .i64 (1+(bV (bN x0 (l7 x1)):Nat))))]⟩)] [1,2,6,8,10,11] [] rfl ⟨eA (bN x0 (l7 x1)) (1) (by omega) (by omega),⟨⟩⟩ ?_
     refine W.seq ?_
     refine W.s0 X [1,2,6,8,10,11,54] rfl ⟨⟩ ?_
     refine W.cond rfl (fun hY=> ?_) (fun hY=> ?_)
     ·exact absurd hY (by first| (simp;done)| (simp;omega))
     ·clear hY
      refine W.skip ?_
      refine W.seq ?_
      refine W.s0 X [1,2,6,8,10,57] rfl ⟨⟩ ?_
      refine W.cond rfl (fun mO=> ?_) (fun mO=> ?_)
      ·exact absurd mO (by first| (simp;done)| (simp;omega))
      ·clear mO
       refine W.skip ?_
       refine W.sr X [(59,350),(61,375)] [(59,⟨true,[.agg (ay x0)]⟩),(61,⟨true,[.agg (ay (bN x0 (l7 x1)))]⟩)] [6,8,10,12] [] rfl ⟨kW x0 x1 (dO (gr hsz) (by decide)),bU x0 (by omega),⟨⟩⟩ ?_
       refine W.seq ?_
       refine W.sr X [] [(64,⟨false,[.a (.lit (.bool true))]⟩)] [8,10,65] [] rfl ⟨cu (bN x0 (l7 x1)),⟨⟩⟩ ?_
       refine W.cond rfl (fun oK=> ?_) (fun oK=> ?_)
       ·exact absurd oK (by first| (simp;done)| (simp;omega))
       ·clear oK
        refine W.skip ?_
        refine W.s0 X [8,10,11] rfl ⟨⟩ ?_
        refine W.sr X [] [(68,⟨false,[.a (.lit (.int .i64 (1+(bV (bN x0 (l7 x1)):Nat))))]⟩)] [10,11] [] rfl ⟨eA (bN x0 (l7 x1)) (1) (by omega) (by omega),⟨⟩⟩ ?_
        refine W.seq ?_
        refine W.s0 X [10,11,70] rfl ⟨⟩ ?_
        refine W.cond rfl (fun vp=> ?_) (fun vp=> ?_)
        ·exact absurd vp (by first| (simp;done)| (simp;omega))
        ·clear vp
         refine W.skip ?_
         refine W.seq ?_
         refine W.s0 X [73] rfl ⟨⟩ ?_
         refine W.cond rfl (fun yP=> ?_) (fun yP=> ?_)
         ·exact absurd yP (by first| (simp;done)| (simp;omega))
         ·clear yP
          refine W.skip ?_
          refine W.s0 X [4] rfl ⟨⟩ ?_
          refine W.ret ?_
          exact Fin.ret rfl ⟨rfl,⟨⟩⟩
end
end Go.Proofs.YtmcgjpdljafkeaaGreat.G
