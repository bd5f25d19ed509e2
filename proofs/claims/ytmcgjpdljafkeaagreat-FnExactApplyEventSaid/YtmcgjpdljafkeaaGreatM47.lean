/-
  FnExactApplyEvent, walked by the symbolic machine: it returns true.
-/
import Derived.Test.YtmcgjpdljafkeaaGreatM15
import Derived.Test.YtmcgjpdljafkeaaGreatM44
namespace Go.Proofs.YtmcgjpdljafkeaaGreat.G
set_option linter.all false
open Go.RowKit L D
section
set_option maxRecDepth 100000
theorem uE(x0:aN)(NC:(iT) x0)(x1:Ev)(XL:(BG) x1):Sound ty Tryz.prog 7 [.agg (ay x0), .agg (fP x1)] [.a (.lit (.bool true))]:=by
 refine Sound.o X Tryz.call7 Tryz.func7 Tryz.ntmps7 rfl rfl ?_
 intro zb
 refine W.s0 X [2,3] rfl ⟨⟩ ?_
 refine W.s0 X [2,3,5] rfl ⟨⟩ ?_
 refine W.sr X [] [(19,⟨false,[.a (.lit (.int .i64 (szr (1048576) (bB x0))))]⟩)] [2,3,5] [] rfl ⟨kG x0 (1048576) (by omega) (by omega),⟨⟩⟩ ?_
 refine W.seq ?_
 refine W.s0 X [2,3,5,21] rfl ⟨⟩ ?_
 refine W.cond rfl (fun hb0=> ?_) (fun hb0=> ?_)
 ·try simp only[nb]at hb0
  refine W.s0 X [4] rfl ⟨⟩ ?_
  refine W.ret ?_
  exact Fin.ret rfl ⟨rfl,⟨⟩⟩
 ·try simp only[nb]at hb0
  obtain⟨e0,JY⟩:=cB hb0
  rw[e0]
  refine W.skip ?_
  refine W.sr X [] [(24,⟨false,[.a (.lit (.int .i64 (szr (1048576-((bB x0):Nat)) (ck x1))))]⟩)] [2,3,5] [] rfl ⟨Ex x1 (1048576-((bB x0):Nat)) (by omega) (by omega),⟨⟩⟩ ?_
  refine W.seq ?_
  refine W.s0 X [2,3,26] rfl ⟨⟩ ?_
  refine W.cond rfl (fun aD=> ?_) (fun aD=> ?_)
  ·try simp only[nb]at aD
   refine W.s0 X [4] rfl ⟨⟩ ?_
   refine W.ret ?_
   exact Fin.ret rfl ⟨rfl,⟨⟩⟩
  ·try simp only[nb]at aD
   obtain⟨e1,WN⟩:=cB aD
   rw[e1]
   have hsz:bB x0≤1048576:=by omega
   have Jd:=dP x0
   have ND:=vE hsz
   have NF:=vF hsz
   have XM:ck x1≤1048576:=by omega
   have DD:x1.body.length≤1048576:=XM
   have Z2:=M6 x1
   have X8:=dP (nx x0 x1)
   have X9:=xS (TM (e:=x1) (gr hsz)) (by decide)
   refine W.skip ?_
   refine W.seq ?_
   refine W.fD X [(29,225),(31,250),(32,275)] [(29,⟨true,[.agg (ay x0)]⟩),(31,⟨true,[.agg (fP x1)]⟩),(32,⟨true,[.agg (ay (nx x0 x1)), .a (.lit (.bool (gx x0 x1)))]⟩)] [2,3,6,7] [] 1535 (.ph 511 (.br 511 9 (.last 1024) (.br 383 9 (.last 1152) (.nil)))) 1 MO (by kernel_rfl) rfl (by kernel_rfl) ⟨j8 x0 x1 (Au (gr hsz) (by decide)) DD,oJ x1 (by omega),bU x0 (by omega),⟨⟩⟩ ?_
   refine W.sr X [(36,300)] [(36,⟨true,[.agg (ay x0)]⟩)] [2,3,6,7,8] [] rfl ⟨bU x0 (by omega),⟨⟩⟩ ?_
   refine W.sr X [(38,325)] [(38,⟨true,[.agg (fP x1)]⟩)] [2,3,6,7,8,9] [] rfl ⟨oJ x1 (by omega),⟨⟩⟩ ?_
   refine W.sr X [(42,350)] [(42,⟨true,[.agg (ay (nx x0 x1)), .a (.lit (.bool (gx x0 x1)))]⟩)] [2,3,6,7,8,9,10,11] [] rfl ⟨gu x0 x1 (Au (gr hsz) (by decide)) DD,⟨⟩⟩ ?_
   refine W.seq ?_
   refine W.sr X [] [(47,⟨false,[.a (.lit (.bool true))]⟩)] [2,3,6,7,8,9,10,11,53] [] rfl ⟨cu (nx x0 x1),⟨⟩⟩ ?_
   refine W.cond rfl (fun aR=> ?_) (fun aR=> ?_)
   ·exact absurd aR (by first| (simp;done)| (simp;omega))
   ·clear aR
    refine W.skip ?_
    refine W.seq ?_
    refine W.sd X [(56,375)] [(56,⟨true,[.agg (ay x0)]⟩),(57,⟨false,[.a (.lit (.bool true))]⟩)] [2,3,6,7,8,9,10,11,58] [] 5 MO (by kernel_rfl) rfl ⟨cu x0,bU x0 (by omega),⟨⟩⟩ ?_
    refine W.cond rfl (fun dS=> ?_) (fun dS=> ?_)
    ·exact absurd dS (by first| (simp;done)| (simp;omega))
    ·clear dS
     refine W.skip ?_
     refine W.seq ?_
     refine W.sd X [(61,400)] [(61,⟨true,[.agg (fP x1)]⟩),(62,⟨false,[.a (.lit (.bool true))]⟩)] [2,3,6,7,8,9,10,11,63] [] 5 MO (by kernel_rfl) rfl ⟨EA x1,oJ x1 (by omega),⟨⟩⟩ ?_
     refine W.cond rfl (fun hY=> ?_) (fun hY=> ?_)
     ·exact absurd hY (by first| (simp;done)| (simp;omega))
     ·clear hY
      refine W.skip ?_
      refine W.s0 X [2,3,6,7,8,9,10,11,12] rfl ⟨⟩ ?_
      refine W.sr X [] [(100066,⟨false,[.a (.lit (.int .i64 (1+(bV x0:Nat)))), .agg (ay (iM (1) x0)), .a (.lit (.int .i64 (1)))]⟩)] [2,3,6,7,9,10,11,12] [] rfl ⟨ez x0 (1) (by omega) (by omega),⟨⟩⟩ ?_
      refine W.sr X [] [(100069,⟨false,[.a (.lit (.int .i64 (1+(bV x0:Nat)+(yO x1:Nat)))), .agg (fP (PK (1+(bV x0:Nat)) x1)), .a (.lit (.int .i64 (1+(bV x0:Nat))))]⟩)] [2,3,6,7,10,11,12] [] rfl ⟨HN x1 (1+(bV x0:Nat)) (by omega) (by omega),⟨⟩⟩ ?_
      refine W.seq ?_
      refine W.sr X [] [(75,⟨false,[.a (.lit (.bool true))]⟩)] [2,3,6,7,10,82] [] rfl ⟨fun _=>cu (nx x0 x1),⟨⟩⟩ ?_
      refine W.cond rfl (fun mO=> ?_) (fun mO=> ?_)
      ·exact absurd mO (by first| (simp;done)| (simp;omega))
      ·clear mO
       refine W.skip ?_
       refine W.s0 X [2,3,6,7,10,13] rfl ⟨⟩ ?_
       refine W.sr X [] [(100085,⟨false,[.a (.lit (.int .i64 (1+(bV (nx x0 x1):Nat)))), .agg (ay (iM (1) (nx x0 x1))), .a (.lit (.int .i64 (1)))]⟩)] [2,3,6,7,10,13] [] rfl ⟨ez (nx x0 x1) (1) (by omega) (by omega),⟨⟩⟩ ?_
       refine W.s0 X [2,3,6,7,10,13,14] rfl ⟨⟩ ?_
       refine W.sr X [] [(88,⟨false,[.a (.lit (.int .i64 (1+(bV (nx x0 x1):Nat))))]⟩)] [2,3,6,7,10,13,14] [] rfl ⟨eA (nx x0 x1) (1) (by omega) (by omega),⟨⟩⟩ ?_
       refine W.seq ?_
       refine W.s0 X [2,3,6,7,10,13,14,90] rfl ⟨⟩ ?_
       refine W.cond rfl (fun oK=> ?_) (fun oK=> ?_)
       ·exact absurd oK (by first| (simp;done)| (simp;omega))
       ·clear oK
        refine W.skip ?_
        refine W.seq ?_
        refine W.s0 X [2,3,6,7,10,13,93] rfl ⟨⟩ ?_
        refine W.cond rfl (fun vp=> ?_) (fun vp=> ?_)
        ·exact absurd vp (by first| (simp;done)| (simp;omega))
        ·clear vp
         refine W.skip ?_
         refine W.seq ?_
         refine W.fD X [(96,425),(98,450),(99,475)] [(96,⟨true,[.agg (ay x0)]⟩),(98,⟨true,[.agg (fP x1)]⟩),(99,⟨true,[.agg (ay (nx x0 x1)), .a (.lit (.bool (gx x0 x1)))]⟩)] [6,7,10,13,15,16] [] 1535 (.ph 511 (.br 511 9 (.last 1024) (.br 383 9 (.last 1152) (.nil)))) 1 MO (by kernel_rfl) rfl (by kernel_rfl) ⟨gu x0 x1 (Au (gr hsz) (by decide)) DD,oJ x1 (by omega),bU x0 (by omega),⟨⟩⟩ ?_
         refine W.seq ?_
         refine W.sr X [] [(104,⟨false,[.a (.lit (.bool true))]⟩)] [10,13,110] [] rfl ⟨cu (nx x0 x1),⟨⟩⟩ ?_
         refine W.cond rfl (fun yP=> ?_) (fun yP=> ?_)
         ·exact absurd yP (by first| (simp;done)| (simp;omega))
         ·clear yP
          refine W.skip ?_
          refine W.s0 X [10,13,14] rfl ⟨⟩ ?_
          refine W.sr X [] [(113,⟨false,[.a (.lit (.int .i64 (1+(bV (nx x0 x1):Nat))))]⟩)] [13,14] [] rfl ⟨eA (nx x0 x1) (1) (by omega) (by omega),⟨⟩⟩ ?_
          refine W.seq ?_
          refine W.s0 X [13,14,115] rfl ⟨⟩ ?_
          refine W.cond rfl (fun PR=> ?_) (fun PR=> ?_)
          ·exact absurd PR (by first| (simp;done)| (simp;omega))
          ·clear PR
           refine W.skip ?_
           refine W.seq ?_
           refine W.s0 X [118] rfl ⟨⟩ ?_
           refine W.cond rfl (fun CB=> ?_) (fun CB=> ?_)
           ·exact absurd CB (by first| (simp;done)| (simp;omega))
           ·clear CB
            refine W.skip ?_
            refine W.s0 X [4] rfl ⟨⟩ ?_
            refine W.ret ?_
            exact Fin.ret rfl ⟨rfl,⟨⟩⟩
end
end Go.Proofs.YtmcgjpdljafkeaaGreat.G
