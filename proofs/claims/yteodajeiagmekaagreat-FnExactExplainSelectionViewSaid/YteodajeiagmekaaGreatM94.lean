/-
  FnExactExplainSelectionView, walked by the symbolic machine: it returns true.
-/
import Derived.Test.YteodajeiagmekaaGreatM83
import Derived.Test.YteodajeiagmekaaGreatM88
namespace Go.Proofs.YteodajeiagmekaaGreat.G
set_option linter.all false
open Go.RowKit L D
section
set_option maxRecDepth 100000
theorem mI(x0:aJ)(UC:(Dl) x0)(x1:Int)(aeP:sD x1)(x2:Int)(aeQ:sD x2)(x3:Int)(aeR:sD x3)(x4:Int)(ahd:sD x4)(x5:Int)(ahe:sD x5):Sound ty Tryz.prog 10 [.agg (aG x0), .a (.lit (.int .i64 x1)), .a (.lit (.int .i64 x2)), .a (.lit (.int .i64 x3)), .a (.lit (.int .i64 x4)), .a (.lit (.int .i64 x5))] [.a (.lit (.bool true))]:=by
 refine Sound.o X Tryz.call10 Tryz.func10 Tryz.ntmps10 rfl rfl ?_
 intro zb
 refine W.s0 X [1,2,3,4,5,6] rfl ⟨⟩ ?_
 refine W.s0 X [1,2,3,4,5,6,13] rfl ⟨⟩ ?_
 refine W.sr X [] [(26,⟨false,[.a (.lit (.int .i64 (szr (1048576) (dB x0))))]⟩)] [1,2,3,4,5,6,13] [] rfl ⟨GV x0 (1048576) (by omega) (by omega),⟨⟩⟩ ?_
 refine W.seq ?_
 refine W.s0 X [1,2,3,4,5,6,28] rfl ⟨⟩ ?_
 refine W.cond rfl (fun hb0=> ?_) (fun hb0=> ?_)
 ·try simp only[nb]at hb0
  refine W.s0 X [12] rfl ⟨⟩ ?_
  refine W.ret ?_
  exact Fin.ret rfl ⟨rfl,⟨⟩⟩
 ·try simp only[nb]at hb0
  obtain⟨e0,Yu⟩:=eD hb0
  rw[e0]
  have hsz:dB x0≤1048576:=by omega
  have Lo:=Es x0
  have aaj:=SW hsz
  have M9:=SX hsz
  have hr:=US x0 x1 x2 x3 x4 x5
  refine W.skip ?_
  refine W.sr X [(31,225),(37,250)] [(31,⟨true,[.agg (aG x0)]⟩),(37,⟨true,[.a (.sl (.sl .int) (vP x0 x1 x2 x3 x4 x5)), .a (.lit (.bool (jZ x0 x1 x3 x5)))]⟩)] [1,2,3,4,5,6,14,15] [] rfl ⟨ny x0 x1 x2 x3 x4 x5 M9,jY x0 (by omega),⟨⟩⟩ ?_
  refine W.sr X [(41,275)] [(41,⟨true,[.agg (aG x0)]⟩)] [1,2,3,4,5,6,14,15,16] [] rfl ⟨jY x0 (by omega),⟨⟩⟩ ?_
  refine W.sr X [(49,300)] [(49,⟨true,[.a (.sl (.sl .int) (vP x0 x1 x2 x3 x4 x5)), .a (.lit (.bool (jZ x0 x1 x3 x5)))]⟩)] [1,2,3,4,5,6,14,15,16,17,18] [] rfl ⟨eR x0 x1 x2 x3 x4 x5 M9,⟨⟩⟩ ?_
  refine W.seq ?_
  refine W.sr X [] [(54,⟨false,[.a (.lit (.bool true))]⟩)] [1,2,3,4,5,6,14,15,16,17,18,60] [] rfl ⟨Bp (vP x0 x1 x2 x3 x4 x5),⟨⟩⟩ ?_
  refine W.cond rfl (fun aB=> ?_) (fun aB=> ?_)
  ·exact absurd aB (by first| (simp;done)| (simp;omega))
  ·clear aB
   refine W.skip ?_
   refine W.seq ?_
   refine W.sd X [(63,325)] [(63,⟨true,[.agg (aG x0)]⟩),(64,⟨false,[.a (.lit (.bool true))]⟩)] [1,2,3,4,5,6,14,15,16,17,18,65] [] 5 MO (by kernel_rfl) rfl ⟨GX x0,jY x0 (by omega),⟨⟩⟩ ?_
   refine W.cond rfl (fun aM=> ?_) (fun aM=> ?_)
   ·exact absurd aM (by first| (simp;done)| (simp;omega))
   ·clear aM
    refine W.skip ?_
    refine W.s0 X [1,2,3,4,5,6,14,15,16,17,18,19] rfl ⟨⟩ ?_
    refine W.sr X [] [(100068,⟨false,[.a (.lit (.int .i64 (1+(kL x0:Nat)))), .agg (aG (HQ (1) x0)), .a (.lit (.int .i64 (1)))]⟩)] [1,2,3,4,5,6,14,15,17,18,19] [] rfl ⟨BV x0 (1) (by omega) (by omega),⟨⟩⟩ ?_
    refine W.seq ?_
    refine W.sr X [] [(74,⟨false,[.a (.lit (.bool true))]⟩)] [1,2,3,4,5,6,14,15,17,81] [] rfl ⟨fun _=>Bp (vP x0 x1 x2 x3 x4 x5),⟨⟩⟩ ?_
    refine W.cond rfl (fun gB=> ?_) (fun gB=> ?_)
    ·exact absurd gB (by first| (simp;done)| (simp;omega))
    ·clear gB
     refine W.skip ?_
     refine W.s0 X [1,2,3,4,5,6,14,15,17,20] rfl ⟨⟩ ?_
     refine W.sr X [] [(100084,⟨false,[.a (.lit (.int .i64 (1+((aD (aD (fun _=>1))) (vP x0 x1 x2 x3 x4 x5):Nat)))), .a (.sl (.sl .int) ((dm (dm (fun k _=>k) (fun _=>1)) (aD (fun _=>1))) (1) (vP x0 x1 x2 x3 x4 x5))), .a (.lit (.int .i64 (1)))]⟩)] [1,2,3,4,5,6,14,15,17,20] [] rfl ⟨Li (vP x0 x1 x2 x3 x4 x5) (1) (by omega) (by omega),⟨⟩⟩ ?_
     refine W.s0 X [1,2,3,4,5,6,14,15,17,20,21] rfl ⟨⟩ ?_
     refine W.sr X [] [(87,⟨false,[.a (.lit (.int .i64 (1+((aD (aD (fun _=>1))) (vP x0 x1 x2 x3 x4 x5):Nat))))]⟩)] [1,2,3,4,5,6,14,15,17,20,21] [] rfl ⟨BX (vP x0 x1 x2 x3 x4 x5) (1) (by omega) (by omega),⟨⟩⟩ ?_
     refine W.seq ?_
     refine W.s0 X [1,2,3,4,5,6,14,15,17,20,21,89] rfl ⟨⟩ ?_
     refine W.cond rfl (fun rz=> ?_) (fun rz=> ?_)
     ·exact absurd rz (by first| (simp;done)| (simp;omega))
     ·clear rz
      refine W.skip ?_
      refine W.seq ?_
      refine W.s0 X [1,2,3,4,5,6,14,15,17,20,92] rfl ⟨⟩ ?_
      refine W.cond rfl (fun E7=> ?_) (fun E7=> ?_)
      ·exact absurd E7 (by first| (simp;done)| (simp;omega))
      ·clear E7
       refine W.skip ?_
       refine W.sr X [(95,350),(101,375)] [(95,⟨true,[.agg (aG x0)]⟩),(101,⟨true,[.a (.sl (.sl .int) (vP x0 x1 x2 x3 x4 x5)), .a (.lit (.bool (jZ x0 x1 x3 x5)))]⟩)] [14,15,17,20,22,23] [] rfl ⟨eR x0 x1 x2 x3 x4 x5 M9,jY x0 (by omega),⟨⟩⟩ ?_
       refine W.seq ?_
       refine W.sr X [] [(106,⟨false,[.a (.lit (.bool true))]⟩)] [17,20,112] [] rfl ⟨Bp (vP x0 x1 x2 x3 x4 x5),⟨⟩⟩ ?_
       refine W.cond rfl (fun C5=> ?_) (fun C5=> ?_)
       ·exact absurd C5 (by first| (simp;done)| (simp;omega))
       ·clear C5
        refine W.skip ?_
        refine W.s0 X [17,20,21] rfl ⟨⟩ ?_
        refine W.sr X [] [(115,⟨false,[.a (.lit (.int .i64 (1+((aD (aD (fun _=>1))) (vP x0 x1 x2 x3 x4 x5):Nat))))]⟩)] [20,21] [] rfl ⟨BX (vP x0 x1 x2 x3 x4 x5) (1) (by omega) (by omega),⟨⟩⟩ ?_
        refine W.seq ?_
        refine W.s0 X [20,21,117] rfl ⟨⟩ ?_
        refine W.cond rfl (fun IC=> ?_) (fun IC=> ?_)
        ·exact absurd IC (by first| (simp;done)| (simp;omega))
        ·clear IC
         refine W.skip ?_
         refine W.seq ?_
         refine W.s0 X [120] rfl ⟨⟩ ?_
         refine W.cond rfl (fun U0=> ?_) (fun U0=> ?_)
         ·exact absurd U0 (by first| (simp;done)| (simp;omega))
         ·clear U0
          refine W.skip ?_
          refine W.s0 X [12] rfl ⟨⟩ ?_
          refine W.ret ?_
          exact Fin.ret rfl ⟨rfl,⟨⟩⟩
end
end Go.Proofs.YteodajeiagmekaaGreat.G
