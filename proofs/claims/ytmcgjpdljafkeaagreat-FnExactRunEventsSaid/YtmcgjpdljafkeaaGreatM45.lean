/-
  FnExactRunEvents, walked by the symbolic machine: it returns true.
-/
import Derived.Test.YtmcgjpdljafkeaaGreatM14
import Derived.Test.YtmcgjpdljafkeaaGreatM20
import Derived.Test.YtmcgjpdljafkeaaGreatM24
import Derived.Test.YtmcgjpdljafkeaaGreatM44
namespace Go.Proofs.YtmcgjpdljafkeaaGreat.G
set_option linter.all false
open Go.RowKit L D
section
set_option maxRecDepth 100000
theorem pJ(x:aN)(l:List Ev)(hC:wC x 4100000)(hl: ∀e,e∈l→e.body.length≤1048576):Sound ty Tryz.prog 32 [.agg (ay x), .a (.sl .Ev l)] [.agg (ay (cq x (aK l)))]:=by
 refine Sound.o X Tryz.call32 Tryz.func32 Tryz.ntmps32 rfl rfl ?_
 intro zb
 refine W.bound 1 rfl (fun jr=> ?_)
 have h0:wB x:=AN hC (by decide)
 have Yf:=Gk (l.length:Int) 100
 refine W.s0 X [1,2,4] rfl ⟨⟩ ?_
 refine W.sr X [] [(9,⟨true,[.agg (ay x)]⟩)] [1,4,5] [] rfl (by(repeat' with_reducible first|exact ah.nil|refine ah.mk ?_ ?_|apply And.intro)<;>first|exact(cD x h0)) ?_
 refine W.seq ?_
 refine W.s0 X [4,5,14,15,16] rfl (by and_intros<;>first|exact⟨⟩| (intros;omega)) ?_
 rw[I7]
 refine W.block ?_
 refine W.aI (fun k=>k≤(aK l).length) (fun k:Nat=> [(16, .one (.a (.lit (.int .i64 k))))]) (fun k=> [(10, .arr .aU (cq x ((aK l).take k)).aj),(11, .arr .aL (cq x ((aK l).take k)).aa),(13, .arr .aA (cq x ((aK l).take k)).ak.rounds),(17, .arr .int (cq x ((aK l).take k)).replaced),(5, .box [.lit (.int .i64 (cq x ((aK l).take k)).rows), .own 10, .own 11, .lit (.int .i64 (cq x ((aK l).take k)).ak.rows), .own 13, .lit (.int .i64 (cq x ((aK l).take k)).az), .lit (.int .i64 (cq x ((aK l).take k)).seed), .lit (.int .i64 (cq x ((aK l).take k)).round), .own 17, .lit (.int .i64 (cq x ((aK l).take k)).cancelled)])]) (fun k=>(aK l).length-k) 0 (fun k=>rfl) (Nat.zero_le _) rfl ?_
 intro k hk
 have VN:=GG hC l k
 have hle:=gV l
 refine W.s0 X [4,5,14,15,16,17] rfl ⟨⟩ ?_
 refine W.seq ?_
 refine W.cond rfl (fun hb0=> ?_) (fun hb0=> ?_)
 ·try simp only[nb,an,au,af]at hb0
  have qA:k<(aK l).length:=hb0
  have hs:=tU x (aK l) k qA
  have Te:=yq hl qA
  refine W.skip ?_
  refine W.seq ?_
  refine W.block ?_
  refine W.s0 X [4,5,7,14,15,16] rfl (by and_intros<;>first|exact⟨⟩| (intros;omega)) ?_
  refine W.fH X [(23,150)] [(23,⟨true,[.agg (ay (nx (cq x ((aK l).take k)) ((aK l).getD k (av .Ev)))), .a (.lit (.bool (gx (cq x ((aK l).take k)) ((aK l).getD k (av .Ev)))))]⟩)] [4,5,14,15,16] [] rfl (by(repeat' with_reducible first|exact ah.nil|refine ah.mk ?_ ?_|apply And.intro)<;>first|exact(gu (cq x ((aK l).take k)) ((aK l).getD k (av .Ev)) VN Te)) ?_
  refine W.swap 151 10 rfl ?_
  refine W.swap 152 11 rfl ?_
  refine W.swap 154 13 rfl ?_
  refine W.swap 158 17 rfl ?_
  refine W.r0 X [4,5,14,15,16] rfl ⟨⟩ ?_
  refine⟨k+1,by omega,by omega,?_⟩
  rw[aV _ k rfl (by omega),hs]
  try rfl
 ·try simp only[nb,an,au,af]at hb0
  have Td:(aK l).take k=(aK l):=List.take_of_length_le hb0
  refine W.exit ?_
  refine W.s0 X [4] rfl (by and_intros<;>exact⟨⟩) ?_
  refine W.ret ?_
  exact Fin.ret rfl (by and_intros<;>first|exact⟨⟩| (rw[Td];done))
theorem zS(x:aN)(l:List Ev)(hC:wC x 4100000)(hl: ∀e,e∈l→e.body.length≤1048576):Sound ty Tryz.prog 30 [.agg (ay x), .a (.sl .Ev l)] [.agg (ay (cq x (aK l)))]:=by
 refine Sound.o X Tryz.call30 Tryz.func30 Tryz.ntmps30 rfl rfl ?_
 intro zb
 refine W.bound 1 rfl (fun jr=> ?_)
 have h0:wB x:=AN hC (by decide)
 refine W.s0 X [1,2,4] rfl ⟨⟩ ?_
 refine W.sr X [] [(10,⟨true,[.agg (ay x)]⟩)] [1,4,5] [] rfl (by(repeat' with_reducible first|exact ah.nil|refine ah.mk ?_ ?_|apply And.intro)<;>first|exact(bT x h0)) ?_
 refine W.seq ?_
 refine W.s0 X [1,4,5,6] rfl ⟨⟩ ?_
 refine W.block ?_
 refine W.aI (fun k=>k≤(aK l).length) (fun k:Nat=> [(6, .one (.a (.lit (.int .i64 k))))]) (fun k=> [(11, .arr .aU (cq x ((aK l).take k)).aj),(12, .arr .aL (cq x ((aK l).take k)).aa),(14, .arr .aA (cq x ((aK l).take k)).ak.rounds),(18, .arr .int (cq x ((aK l).take k)).replaced),(5, .box [.lit (.int .i64 (cq x ((aK l).take k)).rows), .own 11, .own 12, .lit (.int .i64 (cq x ((aK l).take k)).ak.rows), .own 14, .lit (.int .i64 (cq x ((aK l).take k)).az), .lit (.int .i64 (cq x ((aK l).take k)).seed), .lit (.int .i64 (cq x ((aK l).take k)).round), .own 18, .lit (.int .i64 (cq x ((aK l).take k)).cancelled)])]) (fun k=>(aK l).length-k) 0 (fun k=>rfl) (Nat.zero_le _) rfl ?_
 intro k hk
 have VN:=GG hC l k
 have hle:=gV l
 refine W.seq ?_
 refine W.s0 X [1,4,5,6,18] rfl ⟨⟩ ?_
 refine W.cond rfl (fun hb0=> ?_) (fun hb0=> ?_)
 ·have qA:k<(aK l).length:=TS hb0
  have hs:=tU x (aK l) k qA
  have Te:=yq hl qA
  have Yb:=E9 qA
  rw[Yb]at hs Te
  refine W.skip ?_
  refine W.seq ?_
  refine W.block ?_
  refine W.seq ?_
  refine W.fD X [(27,150)] [(27,⟨true,[.agg (ay (nx (cq x ((aK l).take k)) (l.getD k (av .Ev)))), .a (.lit (.bool (gx (cq x ((aK l).take k)) (l.getD k (av .Ev)))))]⟩)] [1,4,5,6,7] [] 3071 (.ph 1023 (.br 1023 10 (.last 2048) (.br 767 10 (.last 2304) (.nil)))) 1 MO (by kernel_rfl) rfl (by kernel_rfl) (by(repeat' with_reducible first|exact ah.nil|refine ah.mk ?_ ?_|apply And.intro)<;>first|exact(j8 (cq x ((aK l).take k)) (l.getD k (av .Ev)) VN Te)| (intros;omega)) ?_
  refine W.r0 X [1,4,5,6] rfl (by and_intros<;>exact⟨⟩) ?_
  refine W.swap 151 11 rfl ?_
  refine W.swap 152 12 rfl ?_
  refine W.swap 154 14 rfl ?_
  refine W.swap 158 18 rfl ?_
  refine W.r0 X [1,4,5,6] rfl ⟨⟩ ?_
  refine⟨k+1,by omega,by omega,?_⟩
  rw[aV _ k rfl (by omega),hs]
  try rfl
 ·have Td:(aK l).take k=(aK l):=Rh hb0
  refine W.exit ?_
  refine W.s0 X [4] rfl (by and_intros<;>exact⟨⟩) ?_
  refine W.ret ?_
  exact Fin.ret rfl (by and_intros<;>first|exact⟨⟩| (rw[Td];done))
end
section
set_option maxRecDepth 100000
theorem v9(x0:aN)(NC:(iT) x0)(x1:(List Ev))(XL:(fun l=> ∀x,x∈l→(BG) x) x1):Sound ty Tryz.prog 8 [.agg (ay x0), .a (.sl .Ev x1)] [.a (.lit (.bool true))]:=by
 refine Sound.o X Tryz.call8 Tryz.func8 Tryz.ntmps8 rfl rfl ?_
 intro zb
 refine W.s0 X [1,2] rfl ⟨⟩ ?_
 refine W.s0 X [1,2,5] rfl ⟨⟩ ?_
 refine W.sr X [] [(16,⟨false,[.a (.lit (.int .i64 (szr (1048576) (bB x0))))]⟩)] [1,2,5] [] rfl ⟨kG x0 (1048576) (by omega) (by omega),⟨⟩⟩ ?_
 refine W.seq ?_
 refine W.s0 X [1,2,5,18] rfl ⟨⟩ ?_
 refine W.cond rfl (fun hb0=> ?_) (fun hb0=> ?_)
 ·try simp only[nb]at hb0
  refine W.s0 X [4] rfl ⟨⟩ ?_
  refine W.ret ?_
  exact Fin.ret rfl ⟨rfl,⟨⟩⟩
 ·try simp only[nb]at hb0
  obtain⟨e0,JY⟩:=cB hb0
  rw[e0]
  refine W.skip ?_
  refine W.sr X [] [(21,⟨false,[.a (.lit (.int .i64 (szr (1048576-((bB x0):Nat)) ((bL ck) x1))))]⟩)] [1,2,5] [] rfl ⟨Cx x1 (1048576-((bB x0):Nat)) (by omega) (by omega),⟨⟩⟩ ?_
  refine W.seq ?_
  refine W.s0 X [1,2,23] rfl ⟨⟩ ?_
  refine W.cond rfl (fun aD=> ?_) (fun aD=> ?_)
  ·try simp only[nb]at aD
   refine W.s0 X [4] rfl ⟨⟩ ?_
   refine W.ret ?_
   exact Fin.ret rfl ⟨rfl,⟨⟩⟩
  ·try simp only[nb]at aD
   obtain⟨e1,WN⟩:=cB aD
   rw[e1]
   have hsz:bB x0≤1048576:=by omega
   have Jd:=dP x0
   have ND:=vE hsz
   have NF:=vF hsz
   have XM:bL ck x1≤1048576:=by omega
   have DD: ∀e,e∈x1→e.body.length≤1048576:=fun e he=>by obtain⟨i,hi⟩:=List.mem_iff_getElem?.1 he;exact eL (f:=ck) XM hi
   have Z2:aC dx x1≤32*bL ck x1:=iJ Eu x1
   have X8:=dP (cq x0 (aK x1))
   have abn:=(gV x1).1
   have X9:=xS (KB (aK x1) (gr hsz)) (by omega)
   refine W.skip ?_
   refine W.sr X [(25,225),(27,250),(28,275)] [(25,⟨true,[.agg (ay x0)]⟩),(27,⟨true,[.a (.sl .Ev x1)]⟩),(28,⟨true,[.agg (ay (cq x0 (aK x1)))]⟩)] [1,2,6] [] rfl ⟨zS x0 x1 (dO (gr hsz) (by decide)) DD,jd x1 (by omega),bU x0 (by omega),⟨⟩⟩ ?_
   refine W.sr X [(30,300)] [(30,⟨true,[.agg (ay x0)]⟩)] [1,2,6,7] [] rfl ⟨bU x0 (by omega),⟨⟩⟩ ?_
   refine W.sr X [(32,325)] [(32,⟨true,[.a (.sl .Ev x1)]⟩)] [1,2,6,7,8] [] rfl ⟨jd x1 (by omega),⟨⟩⟩ ?_
   refine W.sr X [(35,350)] [(35,⟨true,[.agg (ay (cq x0 (aK x1)))]⟩)] [1,2,6,7,8,9] [] rfl ⟨pJ x0 x1 (dO (gr hsz) (by decide)) DD,⟨⟩⟩ ?_
   refine W.seq ?_
   refine W.sr X [] [(38,⟨false,[.a (.lit (.bool true))]⟩)] [1,2,6,7,8,9,39] [] rfl ⟨cu (cq x0 (aK x1)),⟨⟩⟩ ?_
   refine W.cond rfl (fun aR=> ?_) (fun aR=> ?_)
   ·exact absurd aR (by first| (simp;done)| (simp;omega))
   ·clear aR
    refine W.skip ?_
    refine W.seq ?_
    refine W.sd X [(42,375)] [(42,⟨true,[.agg (ay x0)]⟩),(43,⟨false,[.a (.lit (.bool true))]⟩)] [1,2,6,7,8,9,44] [] 5 MO (by kernel_rfl) rfl ⟨cu x0,bU x0 (by omega),⟨⟩⟩ ?_
    refine W.cond rfl (fun dS=> ?_) (fun dS=> ?_)
    ·exact absurd dS (by first| (simp;done)| (simp;omega))
    ·clear dS
     refine W.skip ?_
     refine W.seq ?_
     refine W.sr X [(47,400)] [(47,⟨true,[.a (.sl .Ev x1)]⟩),(48,⟨false,[.a (.lit (.bool true))]⟩)] [1,2,6,7,8,9,49] [] rfl ⟨CA x1,jd x1 (by omega),⟨⟩⟩ ?_
     refine W.cond rfl (fun hY=> ?_) (fun hY=> ?_)
     ·exact absurd hY (by first| (simp;done)| (simp;omega))
     ·clear hY
      refine W.skip ?_
      refine W.s0 X [1,2,6,7,8,9,10] rfl ⟨⟩ ?_
      refine W.sr X [] [(100052,⟨false,[.a (.lit (.int .i64 (1+(bV x0:Nat)))), .agg (ay (iM (1) x0)), .a (.lit (.int .i64 (1)))]⟩)] [1,2,6,8,9,10] [] rfl ⟨ez x0 (1) (by omega) (by omega),⟨⟩⟩ ?_
      refine W.sr X [] [(100055,⟨false,[.a (.lit (.int .i64 (1+(bV x0:Nat)+((aC dx) x1:Nat)))), .a (.sl .Ev ((dc vf dx) (1+(bV x0:Nat)) x1)), .a (.lit (.int .i64 (1+(bV x0:Nat))))]⟩)] [1,2,6,9,10] [] rfl ⟨FZ x1 (1+(bV x0:Nat)) (by omega) (by omega),⟨⟩⟩ ?_
      refine W.seq ?_
      refine W.sr X [] [(61,⟨false,[.a (.lit (.bool true))]⟩)] [1,2,6,9,63] [] rfl ⟨fun _=>cu (cq x0 (aK x1)),⟨⟩⟩ ?_
      refine W.cond rfl (fun mO=> ?_) (fun mO=> ?_)
      ·exact absurd mO (by first| (simp;done)| (simp;omega))
      ·clear mO
       refine W.skip ?_
       refine W.s0 X [1,2,6,9,11] rfl ⟨⟩ ?_
       refine W.sr X [] [(100066,⟨false,[.a (.lit (.int .i64 (1+(bV (cq x0 (aK x1)):Nat)))), .agg (ay (iM (1) (cq x0 (aK x1)))), .a (.lit (.int .i64 (1)))]⟩)] [1,2,6,9,11] [] rfl ⟨ez (cq x0 (aK x1)) (1) (by omega) (by omega),⟨⟩⟩ ?_
       refine W.s0 X [1,2,6,9,11,12] rfl ⟨⟩ ?_
       refine W.sr X [] [(69,⟨false,[.a (.lit (.int .i64 (1+(bV (cq x0 (aK x1)):Nat))))]⟩)] [1,2,6,9,11,12] [] rfl ⟨eA (cq x0 (aK x1)) (1) (by omega) (by omega),⟨⟩⟩ ?_
       refine W.seq ?_
       refine W.s0 X [1,2,6,9,11,12,71] rfl ⟨⟩ ?_
       refine W.cond rfl (fun oK=> ?_) (fun oK=> ?_)
       ·exact absurd oK (by first| (simp;done)| (simp;omega))
       ·clear oK
        refine W.skip ?_
        refine W.seq ?_
        refine W.s0 X [1,2,6,9,11,74] rfl ⟨⟩ ?_
        refine W.cond rfl (fun vp=> ?_) (fun vp=> ?_)
        ·exact absurd vp (by first| (simp;done)| (simp;omega))
        ·clear vp
         refine W.skip ?_
         refine W.sr X [(76,425),(78,450),(79,475)] [(76,⟨true,[.agg (ay x0)]⟩),(78,⟨true,[.a (.sl .Ev x1)]⟩),(79,⟨true,[.agg (ay (cq x0 (aK x1)))]⟩)] [6,9,11,13] [] rfl ⟨pJ x0 x1 (dO (gr hsz) (by decide)) DD,jd x1 (by omega),bU x0 (by omega),⟨⟩⟩ ?_
         refine W.seq ?_
         refine W.sr X [] [(82,⟨false,[.a (.lit (.bool true))]⟩)] [9,11,83] [] rfl ⟨cu (cq x0 (aK x1)),⟨⟩⟩ ?_
         refine W.cond rfl (fun yP=> ?_) (fun yP=> ?_)
         ·exact absurd yP (by first| (simp;done)| (simp;omega))
         ·clear yP
          refine W.skip ?_
          refine W.s0 X [9,11,12] rfl ⟨⟩ ?_
          refine W.sr X [] [(86,⟨false,[.a (.lit (.int .i64 (1+(bV (cq x0 (aK x1)):Nat))))]⟩)] [11,12] [] rfl ⟨eA (cq x0 (aK x1)) (1) (by omega) (by omega),⟨⟩⟩ ?_
          refine W.seq ?_
          refine W.s0 X [11,12,88] rfl ⟨⟩ ?_
          refine W.cond rfl (fun PR=> ?_) (fun PR=> ?_)
          ·exact absurd PR (by first| (simp;done)| (simp;omega))
          ·clear PR
           refine W.skip ?_
           refine W.seq ?_
           refine W.s0 X [91] rfl ⟨⟩ ?_
           refine W.cond rfl (fun CB=> ?_) (fun CB=> ?_)
           ·exact absurd CB (by first| (simp;done)| (simp;omega))
           ·clear CB
            refine W.skip ?_
            refine W.s0 X [4] rfl ⟨⟩ ?_
            refine W.ret ?_
            exact Fin.ret rfl ⟨rfl,⟨⟩⟩
end
end Go.Proofs.YtmcgjpdljafkeaaGreat.G
