/-
  FnExactCountApplied, walked by the symbolic machine: it returns true.
-/
import Derived.Test.YtmcgjpdljafkeaaGreatM25
import Derived.Test.YtmcgjpdljafkeaaGreatM44
namespace Go.Proofs.YtmcgjpdljafkeaaGreat.G
set_option linter.all false
open Go.RowKit L D
section
set_option maxRecDepth 100000
theorem uC(x:aN)(l:List Ev)(hC:wC x 4100000)(hl: ∀e,e∈l→e.body.length≤1048576):Sound ty Tryz.prog 36 [.agg (ay x), .a (.sl .Ev l)] [.a (.lit (.int .i64 ((uk x (aK l):Nat):Int)))]:=by
 refine Sound.o X Tryz.call36 Tryz.func36 Tryz.ntmps36 rfl rfl ?_
 intro zb
 refine W.bound 1 rfl (fun jr=> ?_)
 have h0:wB x:=AN hC (by decide)
 have Yf:=Gk (l.length:Int) 100
 refine W.s0 X [1,2] rfl ⟨⟩ ?_
 refine W.s0 X [1,2,5] rfl ⟨⟩ ?_
 refine W.seq ?_
 refine W.s0 X [2,5,14,15,16] rfl (by and_intros<;>first|exact⟨⟩| (intros;omega)) ?_
 rw[I7]
 refine W.block ?_
 refine W.aI (fun k=>k≤(aK l).length) (fun k:Nat=> [(5, .one (.a (.lit (.int .i64 ((uk x ((aK l).take k):Nat):Int))))),(16, .one (.a (.lit (.int .i64 k))))]) (fun k=> [(2, .box [.lit (.int .i64 (cq x ((aK l).take k)).rows), .sl .aU (cq x ((aK l).take k)).aj, .sl .aL (cq x ((aK l).take k)).aa, .lit (.int .i64 (cq x ((aK l).take k)).ak.rows), .sl .aA (cq x ((aK l).take k)).ak.rounds, .lit (.int .i64 (cq x ((aK l).take k)).az), .lit (.int .i64 (cq x ((aK l).take k)).seed), .lit (.int .i64 (cq x ((aK l).take k)).round), .sl .int (cq x ((aK l).take k)).replaced, .lit (.int .i64 (cq x ((aK l).take k)).cancelled)])]) (fun k=>(aK l).length-k) 0 (fun k=>rfl) (Nat.zero_le _) rfl ?_
 intro k hk
 have VN:=GG hC l k
 have hle:=gV l
 have zZ:=Gv ((aK l).take k) x
 have htl:((aK l).take k).length≤100:=by rw[List.length_take];omega
 refine W.s0 X [2,5,14,15,16,17] rfl ⟨⟩ ?_
 refine W.seq ?_
 refine W.cond rfl (fun hb0=> ?_) (fun hb0=> ?_)
 ·try simp only[nb,an,au,af]at hb0
  have qA:k<(aK l).length:=hb0
  have hs:=tU x (aK l) k qA
  have Te:=yq hl qA
  have Rq:=E2 x (aK l) k qA
  refine W.skip ?_
  refine W.seq ?_
  refine W.block ?_
  refine W.s0 X [2,5,7,14,15,16] rfl (by and_intros<;>first|exact⟨⟩| (intros;omega)) ?_
  refine W.sr X [] [(23,⟨false,[.agg (ay (nx (cq x ((aK l).take k)) ((aK l).getD k (av .Ev)))), .a (.lit (.bool (gx (cq x ((aK l).take k)) ((aK l).getD k (av .Ev)))))]⟩)] [2,5,8,9,14,15,16] [] rfl (by(repeat' with_reducible first|exact ah.nil|refine ah.mk ?_ ?_|apply And.intro)<;>first|exact(gu (cq x ((aK l).take k)) ((aK l).getD k (av .Ev)) VN Te)) ?_
  refine W.seq ?_
  refine W.s0 X [2,5,8,14,15,16,26] rfl ⟨⟩ ?_
  refine W.cond rfl (fun aD=> ?_) (fun aD=> ?_)
  ·have ho:gx (cq x ((aK l).take k)) ((aK l).getD k (av .Ev))=true:=aD
   rw[if_pos ho]at Rq
   refine W.r0 X [2,5,8,14,15,16] rfl ⟨⟩ ?_
   refine W.r0 X [2,5,14,15,16] rfl (by and_intros<;>exact⟨⟩) ?_
   refine W.r0 X [2,5,14,15,16] rfl ⟨⟩ ?_
   refine⟨k+1,by omega,by omega,?_⟩
   rw[aV _ k rfl (by omega),aV _ (uk x ((aK l).take k)) rfl (by omega),hs,Rq]
   try rfl
  ·have ho:gx (cq x ((aK l).take k)) ((aK l).getD k (av .Ev))=false:=aD
   rw[if_neg (by rw[ho];decide),Nat.add_zero]at Rq
   refine W.skip ?_
   refine W.r0 X [2,5,14,15,16] rfl (by and_intros<;>exact⟨⟩) ?_
   refine W.r0 X [2,5,14,15,16] rfl ⟨⟩ ?_
   refine⟨k+1,by omega,by omega,?_⟩
   rw[aV _ k rfl (by omega),hs,Rq]
   try rfl
 ·try simp only[nb,an,au,af]at hb0
  have Td:(aK l).take k=(aK l):=List.take_of_length_le hb0
  refine W.exit ?_
  refine W.s0 X [4] rfl ⟨⟩ ?_
  refine W.ret ?_
  exact Fin.ret rfl ⟨by rw[Td],⟨⟩⟩
theorem uD(x:aN)(l:List Ev)(hC:wC x 4100000)(hl: ∀e,e∈l→e.body.length≤1048576):Sound ty Tryz.prog 35 [.agg (ay x), .a (.sl .Ev l)] [.a (.lit (.int .i64 ((uk x (aK l):Nat):Int)))]:=by
 refine Sound.o X Tryz.call35 Tryz.func35 Tryz.ntmps35 rfl rfl ?_
 intro zb
 refine W.bound 1 rfl (fun jr=> ?_)
 have h0:wB x:=AN hC (by decide)
 refine W.s0 X [1,2] rfl ⟨⟩ ?_
 refine W.s0 X [1,2,5] rfl ⟨⟩ ?_
 refine W.sr X [] [(11,⟨false,[.agg (ay x)]⟩)] [1,5,6] [] rfl (by(repeat' with_reducible first|exact ah.nil|refine ah.mk ?_ ?_|apply And.intro)<;>first|exact(bT x h0)) ?_
 refine W.seq ?_
 refine W.s0 X [1,5,6,7] rfl ⟨⟩ ?_
 refine W.block ?_
 refine W.aI (fun k=>k≤(aK l).length) (fun k:Nat=> [(5, .one (.a (.lit (.int .i64 ((uk x ((aK l).take k):Nat):Int))))),(7, .one (.a (.lit (.int .i64 k))))]) (fun k=> [(6, .box [.lit (.int .i64 (cq x ((aK l).take k)).rows), .sl .aU (cq x ((aK l).take k)).aj, .sl .aL (cq x ((aK l).take k)).aa, .lit (.int .i64 (cq x ((aK l).take k)).ak.rows), .sl .aA (cq x ((aK l).take k)).ak.rounds, .lit (.int .i64 (cq x ((aK l).take k)).az), .lit (.int .i64 (cq x ((aK l).take k)).seed), .lit (.int .i64 (cq x ((aK l).take k)).round), .sl .int (cq x ((aK l).take k)).replaced, .lit (.int .i64 (cq x ((aK l).take k)).cancelled)])]) (fun k=>(aK l).length-k) 0 (fun k=>rfl) (Nat.zero_le _) rfl ?_
 intro k hk
 have VN:=GG hC l k
 have hle:=gV l
 have zZ:=Gv ((aK l).take k) x
 have htl:((aK l).take k).length≤100:=by rw[List.length_take];omega
 refine W.seq ?_
 refine W.s0 X [1,5,6,7,19] rfl ⟨⟩ ?_
 refine W.cond rfl (fun hb0=> ?_) (fun hb0=> ?_)
 ·have qA:k<(aK l).length:=TS hb0
  have hs:=tU x (aK l) k qA
  have Te:=yq hl qA
  have Yb:=E9 qA
  rw[Yb]at hs Te
  have Rq:=E2 x (aK l) k qA
  rw[Yb]at Rq
  refine W.skip ?_
  refine W.seq ?_
  refine W.block ?_
  refine W.seq ?_
  refine W.fD X [] [(28,⟨false,[.agg (ay (nx (cq x ((aK l).take k)) (l.getD k (av .Ev)))), .a (.lit (.bool (gx (cq x ((aK l).take k)) (l.getD k (av .Ev)))))]⟩)] [1,5,6,7,8,9] [] 3071 (.ph 1023 (.br 1023 10 (.last 2048) (.br 767 10 (.last 2304) (.nil)))) 1 MO (by kernel_rfl) rfl (by kernel_rfl) (by(repeat' with_reducible first|exact ah.nil|refine ah.mk ?_ ?_|apply And.intro)<;>first|exact(j8 (cq x ((aK l).take k)) (l.getD k (av .Ev)) VN Te)| (intros;omega)) ?_
  refine W.s0 X [1,5,6,7,9] rfl (by and_intros<;>exact⟨⟩) ?_
  refine W.s0 X [1,5,6,7,32] rfl ⟨⟩ ?_
  refine W.cond rfl (fun aD=> ?_) (fun aD=> ?_)
  ·have ho:gx (cq x ((aK l).take k)) (l.getD k (av .Ev))=true:=aD
   rw[if_pos ho]at Rq
   refine W.r0 X [1,5,6,7] rfl ⟨⟩ ?_
   refine W.r0 X [1,5,6,7] rfl ⟨⟩ ?_
   refine⟨k+1,by omega,by omega,?_⟩
   rw[aV _ k rfl (by omega),aV _ (uk x ((aK l).take k)) rfl (by omega),hs,Rq]
   try rfl
  ·have ho:gx (cq x ((aK l).take k)) (l.getD k (av .Ev))=false:=aD
   rw[if_neg (by rw[ho];decide),Nat.add_zero]at Rq
   refine W.skip ?_
   refine W.r0 X [1,5,6,7] rfl ⟨⟩ ?_
   refine⟨k+1,by omega,by omega,?_⟩
   rw[aV _ k rfl (by omega),hs,Rq]
   try rfl
 ·have Td:(aK l).take k=(aK l):=Rh hb0
  refine W.exit ?_
  refine W.s0 X [4] rfl ⟨⟩ ?_
  refine W.ret ?_
  exact Fin.ret rfl ⟨by rw[Td],⟨⟩⟩
end
section
set_option maxRecDepth 100000
theorem rj(x0:aN)(NC:(iT) x0)(x1:(List Ev))(XL:(fun l=> ∀x,x∈l→(BG) x) x1):Sound ty Tryz.prog 9 [.agg (ay x0), .a (.sl .Ev x1)] [.a (.lit (.bool true))]:=by
 refine Sound.o X Tryz.call9 Tryz.func9 Tryz.ntmps9 rfl rfl ?_
 intro zb
 refine W.s0 X [1,2] rfl ⟨⟩ ?_
 refine W.s0 X [1,2,5] rfl ⟨⟩ ?_
 refine W.sr X [] [(12,⟨false,[.a (.lit (.int .i64 (szr (1048576) (bB x0))))]⟩)] [1,2,5] [] rfl ⟨kG x0 (1048576) (by omega) (by omega),⟨⟩⟩ ?_
 refine W.seq ?_
 refine W.s0 X [1,2,5,14] rfl ⟨⟩ ?_
 refine W.cond rfl (fun hb0=> ?_) (fun hb0=> ?_)
 ·try simp only[nb]at hb0
  refine W.s0 X [4] rfl ⟨⟩ ?_
  refine W.ret ?_
  exact Fin.ret rfl ⟨rfl,⟨⟩⟩
 ·try simp only[nb]at hb0
  obtain⟨e0,JY⟩:=cB hb0
  rw[e0]
  refine W.skip ?_
  refine W.sr X [] [(17,⟨false,[.a (.lit (.int .i64 (szr (1048576-((bB x0):Nat)) ((bL ck) x1))))]⟩)] [1,2,5] [] rfl ⟨Cx x1 (1048576-((bB x0):Nat)) (by omega) (by omega),⟨⟩⟩ ?_
  refine W.seq ?_
  refine W.s0 X [1,2,19] rfl ⟨⟩ ?_
  refine W.cond rfl (fun aD=> ?_) (fun aD=> ?_)
  ·try simp only[nb]at aD
   refine W.s0 X [4] rfl ⟨⟩ ?_
   refine W.ret ?_
   exact Fin.ret rfl ⟨rfl,⟨⟩⟩
  ·try simp only[nb]at aD
   obtain⟨e1,WN⟩:=cB aD
   rw[e1]
   have hsz:bB x0≤1048576:=by omega
   have Jd:=dP x0
   have ND:=vE hsz
   have NF:=vF hsz
   have XM:bL ck x1≤1048576:=by omega
   have DD: ∀e,e∈x1→e.body.length≤1048576:=fun e he=>by obtain⟨i,hi⟩:=List.mem_iff_getElem?.1 he;exact eL (f:=ck) XM hi
   have Z2:aC dx x1≤32*bL ck x1:=iJ Eu x1
   refine W.skip ?_
   refine W.sr X [(21,225),(23,250)] [(21,⟨true,[.agg (ay x0)]⟩),(23,⟨true,[.a (.sl .Ev x1)]⟩),(24,⟨false,[.a (.lit (.int .i64 ((uk x0 (aK x1):Nat):Int)))]⟩)] [1,2,6] [] rfl ⟨uD x0 x1 (dO (gr hsz) (by decide)) DD,jd x1 (by omega),bU x0 (by omega),⟨⟩⟩ ?_
   refine W.sr X [(26,300)] [(26,⟨true,[.agg (ay x0)]⟩)] [1,2,6,7] [] rfl ⟨bU x0 (by omega),⟨⟩⟩ ?_
   refine W.sr X [(28,325)] [(28,⟨true,[.a (.sl .Ev x1)]⟩)] [1,2,6,7,8] [] rfl ⟨jd x1 (by omega),⟨⟩⟩ ?_
   refine W.sr X [] [(31,⟨false,[.a (.lit (.int .i64 ((uk x0 (aK x1):Nat):Int)))]⟩)] [1,2,6,7,8,9] [] rfl ⟨uC x0 x1 (dO (gr hsz) (by decide)) DD,⟨⟩⟩ ?_
   refine W.seq ?_
   refine W.s0 X [1,2,7,8,34] rfl ⟨⟩ ?_
   refine W.cond rfl (fun aR=> ?_) (fun aR=> ?_)
   ·exact absurd aR (by first| (simp;done)| (simp;omega))
   ·clear aR
    refine W.skip ?_
    refine W.seq ?_
    refine W.sd X [(37,375)] [(37,⟨true,[.agg (ay x0)]⟩),(38,⟨false,[.a (.lit (.bool true))]⟩)] [1,8,39] [] 5 MO (by kernel_rfl) rfl ⟨cu x0,bU x0 (by omega),⟨⟩⟩ ?_
    refine W.cond rfl (fun dS=> ?_) (fun dS=> ?_)
    ·exact absurd dS (by first| (simp;done)| (simp;omega))
    ·clear dS
     refine W.skip ?_
     refine W.seq ?_
     refine W.sr X [(42,400)] [(42,⟨true,[.a (.sl .Ev x1)]⟩),(43,⟨false,[.a (.lit (.bool true))]⟩)] [44] [] rfl ⟨CA x1,jd x1 (by omega),⟨⟩⟩ ?_
     refine W.cond rfl (fun hY=> ?_) (fun hY=> ?_)
     ·exact absurd hY (by first| (simp;done)| (simp;omega))
     ·clear hY
      refine W.skip ?_
      refine W.s0 X [4] rfl ⟨⟩ ?_
      refine W.ret ?_
      exact Fin.ret rfl ⟨rfl,⟨⟩⟩
end
end Go.Proofs.YtmcgjpdljafkeaaGreat.G
