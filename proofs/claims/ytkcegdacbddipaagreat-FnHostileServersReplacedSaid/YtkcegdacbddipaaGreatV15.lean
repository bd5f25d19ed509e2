/-
  Events.
-/
import Derived.Test.YtkcegdacbddipaaGreatV11
import Derived.Test.YtkcegdacbddipaaGreatV13
namespace Go.Proofs.YtkcegdacbddipaaGreat.G
set_option linter.all false
open Go.RowKit L D Tryz
section
set_option maxRecDepth 100000
theorem uM(x:aV)(hd:x.aa.length≤1048576):So 41 [.agg (aU x)] [aA (qF x)]:=by
 refine aq X call41 func41 ntmps41 rfl rfl ?_
 intro zb
 exact av X [1] rfl (af (aF X [] [(4,⟨false,[aA (tB x.aa x.aa.length)]⟩),(6,⟨false,[aA (HQ x.aa x.aa.length)]⟩)] [2] [] 511 0 MO (by kernel_rfl) rfl (by kernel_rfl) (by(with_reducible and_intros);(iterate 2 all_goals try first|exact⟨⟩|exact(jT x)|exact(j8 x hd))) (ak (ah rfl ⟨rfl,⟨⟩⟩))))
theorem gZ(x:aV)(c:Int)(hC:wC x 4100000):So 15 [.agg (aU x),aA c] [.agg (aU (b9 x (qE c)))]:=by
 refine aq X call15 func15 ntmps15 rfl rfl ?_
 intro zb
 have h0:wB x:=Hh hC (by decide)
 refine av X [1,2,4] rfl (aC X [] [(7,⟨true,[.agg (aU x)]⟩)] [1,4,5] [] rfl (by(with_reducible and_intros)<;>first|exact⟨⟩|exact(eI x h0)) (af (aC X [] [(9,⟨false,[aG (inr c 0 400)]⟩)] [1,4,5,9] [] rfl (by(with_reducible and_intros)<;>first|exact⟨⟩|exact(aL c 0 400)) ?_)))
 refine an rfl ?_ ?_<;>intro hb0
 ·try simp only[aR]at hb0
  have hin:=DX hb0
  have hrn:=LA c
  refine av X [4,5,10,11] rfl ?_
  refine ay (aE (fun k=>k≤qE c) (fun k:Nat=> [(11, .one ((aA k)))]) (fun k=> [(8, .arr .aX (b9 x k).aj),(9, .arr .bg (b9 x k).aa),(11, .arr .aJ (b9 x k).az.rounds),(15, .arr .int (b9 x k).replaced),(5, .box [cS (b9 x k).rows, .own 8, .own 9,cS (b9 x k).az.rows, .own 11,cS (b9 x k).aT,cS (b9 x k).seed,cS (b9 x k).round, .own 15,cS (b9 x k).cancelled])]) (fun k=>qE c-k) 0 (fun k=>rfl) (Nat.zero_le _) rfl ?_)
  intro k hk
  have hrb:=DY hC (k:=k) (by omega)
  refine av X [4,5,10,11,12] rfl ?_
  refine af (an rfl ?_ ?_)<;>intro bf
  ·try simp only[aR]at bf
   refine au (af (ay (aN X [(14,150)] [(14,⟨true,[.agg (aU (bE (b9 x k)))]⟩)] [4,5,10,11] [] rfl (by(with_reducible and_intros)<;>first|exact⟨⟩|exact(qX (b9 x k) hrb.1)) (n8 151 8 rfl (n8 152 9 rfl (n8 154 11 rfl (n8 158 15 rfl (bu X [4,5,10,11] rfl ?_))))))))
   refine⟨k+1,by omega,by omega,?_⟩
   rw[bC _ k rfl (by omega)]
   try rfl
  ·try simp only[aR]at bf
   have hkk:qE c=k:=by omega
   exact aH (aD X [4] rfl (by trivial) (ak (ah rfl (by and_intros<;>first|exact⟨⟩| (rw[hkk];done)))))
 ·try simp only[aR]at hb0
  have hkk:=No hb0
  exact au (aD X [4] rfl (by trivial) (ak (ah rfl (by and_intros<;>first|exact⟨⟩| (rw[hkk];rfl;done)))))
theorem oD(x:aV)(hC:wC x 4100000):So 19 [.agg (aU x)] [.agg (aU (b9 x (qE (qF x))))]:=by
 refine aq X call19 func19 ntmps19 rfl rfl ?_
 intro zb
 have h0:wB x:=Hh hC (by decide)
 have hd:=Jh h0
 exact av X [1,2] rfl (af (aF X [] [(5,⟨false,[aA (qF x)]⟩),(6,⟨true,[.agg (aU (b9 x (qE (qF x))))]⟩)] [2] [] 15 0 MO (by kernel_rfl) rfl (by kernel_rfl) (by(with_reducible and_intros);(iterate 2 all_goals try first|exact⟨⟩|exact(uM x hd)|exact(gZ x (qF x) hC))) (ak (ah rfl ⟨rfl,rfl,rfl,rfl,rfl,rfl,rfl,rfl,rfl,rfl,⟨⟩⟩))))
end
section
set_option maxRecDepth 100000
theorem tC(x:aV)(i b:Int)(h0:wB x):So 14 [.agg (aU x),aA i,aA b] [.agg (aU (wg x i b)),aG (xV x i b)]:=by
 refine aq X call14 func14 ntmps14 rfl rfl ?_
 intro zb
 refine bH 0 1 rfl rfl (fun hl1=> ?_)
 refine bH 0 2 rfl rfl (fun lO=> ?_)
 have OX:=Jh h0
 have lP:=AX h0
 refine av X [1,2,3,6] rfl (aC X [] [(10,⟨true,[.agg (aU x)]⟩)] [1,2,3,6,8] [] rfl (by(with_reducible and_intros)<;>first|exact⟨⟩|exact(eI x h0)) (af (af ?_)))
 have t1:=(aL i 0 (IntKind.i64.wrap ((x.aj.length:Int)-1)))
 refine aN X [] [(12,⟨false,[aG (okW x)]⟩),(20,⟨false,bM t1⟩),(25,⟨false,[aG (inr b 0 3)]⟩)] [1,2,6,8,27] [] rfl (by(with_reducible and_intros);(iterate 3 all_goals try first|exact⟨⟩|exact(cq x)|exact fun _=>t1|exact fun _=>(aL b 0 3))) ?_
 refine an rfl ?_ ?_<;>intro hb0
 ·have hk:xV x i b=false:=bP hb0 (by simp only[xV,aO]<;>first|rfl|ac_rfl)
  have hq:=YR hk
  exact aD X [6,7] rfl (by trivial) (ak (ah rfl (by and_intros<;>first|exact⟨⟩| (rw[hq];done)| (rw[hk];done))))
 ·have hk:xV x i b=true:=bO hb0 (by simp only[xV,aO]<;>first|rfl|ac_rfl)
  have hcb:=Sr hk
  have hq:=VI hk
  exact au (aD X [6,8] rfl (by and_intros<;>first|exact⟨⟩| (intros;omega)) (aD X [6,7] rfl (by trivial) (ak (ah rfl (by and_intros<;>first|exact⟨⟩| (rw[hq];rfl;done)| (rw[hk];done))))))
end
end Go.Proofs.YtkcegdacbddipaaGreat.G
