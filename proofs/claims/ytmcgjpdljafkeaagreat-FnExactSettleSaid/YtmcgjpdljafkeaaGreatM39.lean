/-
  FnExactSettle, walked by the symbolic machine: it returns true.
-/
import Derived.Test.YtmcgjpdljafkeaaGreatM35
import Derived.Test.YtmcgjpdljafkeaaGreatM36
import Derived.Test.YtmcgjpdljafkeaaGreatM37
namespace Go.Proofs.YtmcgjpdljafkeaaGreat.G
set_option linter.all false
open Go.RowKit L D
section
set_option maxRecDepth 100000
theorem uA(x:aN)(hd:x.aa.length≤1048576):Sound ty Tryz.prog 71 [.agg (ay x)] [.a (.lit (.int .i64 (kV x)))]:=by
 refine Sound.o X Tryz.call71 Tryz.func71 Tryz.ntmps71 rfl rfl ?_
 intro zb
 refine W.s0 X [1] rfl ⟨⟩ ?_
 refine W.sd X [] [(4,⟨false,[.a (.lit (.int .i64 (qu x.aa x.aa.length)))]⟩),(6,⟨false,[.a (.lit (.int .i64 (Bu x.aa x.aa.length)))]⟩)] [2] [] 9 MO (by kernel_rfl) rfl (by(repeat' with_reducible first|exact ah.nil|refine ah.mk ?_ ?_|apply And.intro);(iterate 2 all_goals try first|exact(j6 x)|exact(ku x hd))) ?_
 refine W.ret ?_
 exact Fin.ret rfl ⟨rfl,⟨⟩⟩
theorem uU(x:aN)(hC:wC x 4100000):Sound ty Tryz.prog 20 [.agg (ay x)] [.agg (ay (bN x (l7 (kV x))))]:=by
 refine Sound.o X Tryz.call20 Tryz.func20 Tryz.ntmps20 rfl rfl ?_
 intro zb
 have h0:wB x:=AN hC (by decide)
 have hd:=sJ h0
 refine W.s0 X [1,2] rfl ⟨⟩ ?_
 refine W.sd X [] [(5,⟨false,[.a (.lit (.int .i64 (kV x)))]⟩),(6,⟨true,[.agg (ay (bN x (l7 (kV x))))]⟩)] [2] [] 4 MO (by kernel_rfl) rfl (by(repeat' with_reducible first|exact ah.nil|refine ah.mk ?_ ?_|apply And.intro);(iterate 2 all_goals try first|exact(uA x hd)|exact(kW x (kV x) hC))) ?_
 refine W.ret ?_
 exact Fin.ret rfl ⟨rfl,rfl,rfl,rfl,rfl,rfl,rfl,rfl,rfl,rfl,⟨⟩⟩
theorem uB(x:aN)(hd:x.aa.length≤1048576):Sound ty Tryz.prog 70 [.agg (ay x)] [.a (.lit (.int .i64 (kV x)))]:=by
 refine Sound.o X Tryz.call70 Tryz.func70 Tryz.ntmps70 rfl rfl ?_
 intro zb
 refine W.s0 X [1] rfl ⟨⟩ ?_
 refine W.sd X [] [(4,⟨false,[.a (.lit (.int .i64 (qu x.aa x.aa.length)))]⟩),(6,⟨false,[.a (.lit (.int .i64 (Bu x.aa x.aa.length)))]⟩),(7,⟨false,[.a (.lit (.int .i64 (if(Bu x.aa x.aa.length)>(qu x.aa x.aa.length)then(Bu x.aa x.aa.length)else(qu x.aa x.aa.length))))]⟩),(8,⟨false,[.a (.lit (.int .i64 (if(mx (qu x.aa x.aa.length) (Bu x.aa x.aa.length))>0 then(mx (qu x.aa x.aa.length) (Bu x.aa x.aa.length))else 0)))]⟩),(11,⟨false,[.a (.lit (.int .i64 (k9 400 (IntKind.i64.wrap (20+IntKind.i64.wrap (8*mx 0 (mx (qu x.aa x.aa.length) (Bu x.aa x.aa.length))))))))]⟩)] [2] [] 10 MO (by kernel_rfl) rfl (by(repeat' with_reducible first|exact ah.nil|refine ah.mk ?_ ?_|apply And.intro);(iterate 5 all_goals try first|exact(j7 x)|exact(kA x hd)|exact(kH (qu x.aa x.aa.length) (Bu x.aa x.aa.length))|exact(kH 0 (mx (qu x.aa x.aa.length) (Bu x.aa x.aa.length)))|exact(Dr 400 (IntKind.i64.wrap (20+IntKind.i64.wrap (8*mx 0 (mx (qu x.aa x.aa.length) (Bu x.aa x.aa.length)))))))) ?_
 refine W.ret ?_
 exact Fin.ret rfl ⟨by rw[kV,Tc],⟨⟩⟩
theorem DV(x:aN)(hC:wC x 4100000):Sound ty Tryz.prog 19 [.agg (ay x)] [.agg (ay (bN x (l7 (kV x))))]:=by
 refine Sound.o X Tryz.call19 Tryz.func19 Tryz.ntmps19 rfl rfl ?_
 intro zb
 have h0:wB x:=AN hC (by decide)
 have hd:=sJ h0
 refine W.s0 X [1,2] rfl ⟨⟩ ?_
 refine W.sd X [] [(5,⟨false,[.a (.lit (.int .i64 (kV x)))]⟩),(6,⟨true,[.agg (ay (bN x (l7 (kV x))))]⟩)] [2] [] 4 MO (by kernel_rfl) rfl (by(repeat' with_reducible first|exact ah.nil|refine ah.mk ?_ ?_|apply And.intro);(iterate 2 all_goals try first|exact(uB x hd)|exact(pI x (kV x) hC))) ?_
 refine W.ret ?_
 exact Fin.ret rfl ⟨rfl,rfl,rfl,rfl,rfl,rfl,rfl,rfl,rfl,rfl,⟨⟩⟩
end
section
set_option maxRecDepth 100000
theorem AV(x0:aN)(NC:(iT) x0):Sound ty Tryz.prog 5 [.agg (ay x0)] [.a (.lit (.bool true))]:=by
 refine Sound.o X Tryz.call5 Tryz.func5 Tryz.ntmps5 rfl rfl ?_
 intro zb
 refine W.s0 X [1] rfl ⟨⟩ ?_
 refine W.s0 X [1,3] rfl ⟨⟩ ?_
 refine W.sr X [] [(13,⟨false,[.a (.lit (.int .i64 (szr (1048576) (bB x0))))]⟩)] [1,3] [] rfl ⟨kG x0 (1048576) (by omega) (by omega),⟨⟩⟩ ?_
 refine W.seq ?_
 refine W.s0 X [1,15] rfl ⟨⟩ ?_
 refine W.cond rfl (fun hb0=> ?_) (fun hb0=> ?_)
 ·try simp only[nb]at hb0
  refine W.s0 X [2] rfl ⟨⟩ ?_
  refine W.ret ?_
  exact Fin.ret rfl ⟨rfl,⟨⟩⟩
 ·try simp only[nb]at hb0
  obtain⟨e0,JY⟩:=cB hb0
  rw[e0]
  have hsz:bB x0≤1048576:=by omega
  have Jd:=dP x0
  have ND:=vE hsz
  have NF:=vF hsz
  have X8:=dP (bN x0 (l7 (kV x0)))
  have Zq:=GA (kV x0)
  have X9:=xS (Gs (gr hsz) (l7 (kV x0))) (by omega)
  refine W.skip ?_
  refine W.sr X [(17,225),(18,250)] [(17,⟨true,[.agg (ay x0)]⟩),(18,⟨true,[.agg (ay (bN x0 (l7 (kV x0))))]⟩)] [1,4] [] rfl ⟨DV x0 (dO (gr hsz) (by decide)),bU x0 (by omega),⟨⟩⟩ ?_
  refine W.sr X [(20,275)] [(20,⟨true,[.agg (ay x0)]⟩)] [1,4,5] [] rfl ⟨bU x0 (by omega),⟨⟩⟩ ?_
  refine W.sr X [(22,300)] [(22,⟨true,[.agg (ay (bN x0 (l7 (kV x0))))]⟩)] [1,4,5,6] [] rfl ⟨uU x0 (dO (gr hsz) (by decide)),⟨⟩⟩ ?_
  refine W.seq ?_
  refine W.sr X [] [(25,⟨false,[.a (.lit (.bool true))]⟩)] [1,4,5,6,26] [] rfl ⟨cu (bN x0 (l7 (kV x0))),⟨⟩⟩ ?_
  refine W.cond rfl (fun aD=> ?_) (fun aD=> ?_)
  ·exact absurd aD (by first| (simp;done)| (simp;omega))
  ·clear aD
   refine W.skip ?_
   refine W.seq ?_
   refine W.sd X [(29,325)] [(29,⟨true,[.agg (ay x0)]⟩),(30,⟨false,[.a (.lit (.bool true))]⟩)] [1,4,5,6,31] [] 5 MO (by kernel_rfl) rfl ⟨cu x0,bU x0 (by omega),⟨⟩⟩ ?_
   refine W.cond rfl (fun aR=> ?_) (fun aR=> ?_)
   ·exact absurd aR (by first| (simp;done)| (simp;omega))
   ·clear aR
    refine W.skip ?_
    refine W.s0 X [1,4,5,6,7] rfl ⟨⟩ ?_
    refine W.sr X [] [(100034,⟨false,[.a (.lit (.int .i64 (1+(bV x0:Nat)))), .agg (ay (iM (1) x0)), .a (.lit (.int .i64 (1)))]⟩)] [1,4,6,7] [] rfl ⟨ez x0 (1) (by omega) (by omega),⟨⟩⟩ ?_
    refine W.seq ?_
    refine W.sr X [] [(40,⟨false,[.a (.lit (.bool true))]⟩)] [1,4,6,42] [] rfl ⟨fun _=>cu (bN x0 (l7 (kV x0))),⟨⟩⟩ ?_
    refine W.cond rfl (fun dS=> ?_) (fun dS=> ?_)
    ·exact absurd dS (by first| (simp;done)| (simp;omega))
    ·clear dS
     refine W.skip ?_
     refine W.s0 X [1,4,6,8] rfl ⟨⟩ ?_
     refine W.sr X [] [(100045,⟨false,[.a (.lit (.int .i64 (1+(bV (bN x0 (l7 (kV x0))):Nat)))), .agg (ay (iM (1) (bN x0 (l7 (kV x0))))), .a (.lit (.int .i64 (1)))]⟩)] [1,4,6,8] [] rfl ⟨ez (bN x0 (l7 (kV x0))) (1) (by omega) (by omega),⟨⟩⟩ ?_
     refine W.s0 X [1,4,6,8,9] rfl ⟨⟩ ?_
     refine W.sr X [] [(48,⟨false,[.a (.lit (.int .i64 (1+(bV (bN x0 (l7 (kV x0))):Nat))))]⟩)] [1,4,6,8,9] [] rfl ⟨eA (bN x0 (l7 (kV x0))) (1) (by omega) (by omega),⟨⟩⟩ ?_
     refine W.seq ?_
     refine W.s0 X [1,4,6,8,9,50] rfl ⟨⟩ ?_
     refine W.cond rfl (fun hY=> ?_) (fun hY=> ?_)
     ·exact absurd hY (by first| (simp;done)| (simp;omega))
     ·clear hY
      refine W.skip ?_
      refine W.seq ?_
      refine W.s0 X [1,4,6,8,53] rfl ⟨⟩ ?_
      refine W.cond rfl (fun mO=> ?_) (fun mO=> ?_)
      ·exact absurd mO (by first| (simp;done)| (simp;omega))
      ·clear mO
       refine W.skip ?_
       refine W.sr X [(55,350),(56,375)] [(55,⟨true,[.agg (ay x0)]⟩),(56,⟨true,[.agg (ay (bN x0 (l7 (kV x0))))]⟩)] [4,6,8,10] [] rfl ⟨uU x0 (dO (gr hsz) (by decide)),bU x0 (by omega),⟨⟩⟩ ?_
       refine W.seq ?_
       refine W.sr X [] [(59,⟨false,[.a (.lit (.bool true))]⟩)] [6,8,60] [] rfl ⟨cu (bN x0 (l7 (kV x0))),⟨⟩⟩ ?_
       refine W.cond rfl (fun oK=> ?_) (fun oK=> ?_)
       ·exact absurd oK (by first| (simp;done)| (simp;omega))
       ·clear oK
        refine W.skip ?_
        refine W.s0 X [6,8,9] rfl ⟨⟩ ?_
        refine W.sr X [] [(63,⟨false,[.a (.lit (.int .i64 (1+(bV (bN x0 (l7 (kV x0))):Nat))))]⟩)] [8,9] [] rfl ⟨eA (bN x0 (l7 (kV x0))) (1) (by omega) (by omega),⟨⟩⟩ ?_
        refine W.seq ?_
        refine W.s0 X [8,9,65] rfl ⟨⟩ ?_
        refine W.cond rfl (fun vp=> ?_) (fun vp=> ?_)
        ·exact absurd vp (by first| (simp;done)| (simp;omega))
        ·clear vp
         refine W.skip ?_
         refine W.seq ?_
         refine W.s0 X [68] rfl ⟨⟩ ?_
         refine W.cond rfl (fun yP=> ?_) (fun yP=> ?_)
         ·exact absurd yP (by first| (simp;done)| (simp;omega))
         ·clear yP
          refine W.skip ?_
          refine W.s0 X [2] rfl ⟨⟩ ?_
          refine W.ret ?_
          exact Fin.ret rfl ⟨rfl,⟨⟩⟩
end
end Go.Proofs.YtmcgjpdljafkeaaGreat.G
