/-
  FnHostileServersReplaced: the law, walked by the symbolic machine: it returns true. No condition.
-/
import Derived.Test.YtkcegdacbddipaaGreatV15
import Derived.Test.YtkcegdacbddipaaGreatV17
import Derived.Test.YtkcegdacbddipaaGreatV21
namespace Go.Proofs.YtkcegdacbddipaaGreat.G
set_option linter.all false
open Go.RowKit L D Tryz
section
set_option maxRecDepth 100000
theorem abH{a b:List Int}{k:Nat}(h3: ¬a.getD k (aB .int)=b.getD k (aB .int)):(a==b)=false:=by
 rw[beq_eq_false_iff_ne]
 intro h
 rw[h]at h3
 exact h3 rfl
theorem iB(x:aV)(c:Int)(hd:x.aa.length≤1048576)(hin:cQ List.length (EI x c)≤1048576):So 20 [.agg (aU x),aA c] [.a (.lit (.string (Kg x c)))]:=by
 refine aq X call20 func20 ntmps20 rfl rfl ?_
 intro zb
 have Lz:cQ List.length (x.aa.getD c.toNat (aB .bg)).live.inbox≤1048576:=hin
 have hnl:=dc Lz
 refine av X [1,2] rfl (af (aC X [] [(10,⟨false,[aG (mh x c)]⟩)] [1,2,22] [] rfl (by(repeat' with_reducible first|exact aK|refine aQ ?_ ?_|apply And.intro);(iterate 2 all_goals try first|exact(eH x c)|exact fun _=>(eH x c)|exact fun _ _=>(eH x c)|exact(fun h=>LW hd h)|exact fun _=>(fun h=>LW hd h)|exact fun _ _=>(fun h=>LW hd h));all_goals first| (intros;omega)|exact rfl|exact aP _ (by decide)|exact⟨rfl,aP _ (by decide)⟩| ((intro h1;first| (intro h2;first| (intro h3;refine And.intro ?_ ?_)|refine And.intro ?_ ?_)|refine And.intro ?_ ?_)<;>first|omega| ((try simp only[aR]at*);(try simp(disch:=omega) only[bh]);omega))| ((try simp only[aR]at*);(simp(disch:=omega) only[bh]);omega)| (refine fun _=> ?_;dsimp only[hyps,cV];omega)| (refine fun _ _=> ?_;dsimp only[hyps,cV];omega)|exact(eP _).1|exact(eP _).2|exact(jY _).1|exact(jY _).2| (simp only[cK,maxLen,lens];omega)| (intros;simp only[nb]at*;omega)) ?_))
 refine an rfl ?_ ?_<;>intro hb0
 ·have hkr:HD x c=false:=bP hb0 (by simp only[HD,EI,aO]<;>first|rfl|ac_rfl)
  exact av X [4] rfl (ak (ah rfl ⟨by rw[Kg,hkr];rfl,⟨⟩⟩))
 ·have hkr:HD x c=true:=bO hb0 (by simp only[HD,EI,aO]<;>first|rfl|ac_rfl)
  have hr:=Zj hd hkr
  refine au (aD X [1,2,5] rfl (by and_intros<;>first|exact⟨⟩| (intros;omega)|exact rfl|exact aP _ (by decide)|exact⟨rfl,aP _ (by decide)⟩| ((intro h1;first| (intro h2;first| (intro h3;refine And.intro ?_ ?_)|refine And.intro ?_ ?_)|refine And.intro ?_ ?_)<;>first|omega| ((try simp only[aR]at*);(try simp(disch:=omega) only[bh]);omega))| ((try simp only[aR]at*);(simp(disch:=omega) only[bh]);omega)| (refine fun _=> ?_;dsimp only[hyps,cV];omega)| (refine fun _ _=> ?_;dsimp only[hyps,cV];omega)|exact(eP _).1|exact(eP _).2|exact(jY _).1|exact(jY _).2| (simp only[cK,maxLen,lens];omega)| (intros;simp only[nb]at*;omega)) ?_)
  refine af (aD X [5,30,31,32] rfl (by and_intros<;>first|exact⟨⟩| (intros;omega)|exact rfl|exact aP _ (by decide)|exact⟨rfl,aP _ (by decide)⟩| ((intro h1;first| (intro h2;first| (intro h3;refine And.intro ?_ ?_)|refine And.intro ?_ ?_)|refine And.intro ?_ ?_)<;>first|omega| ((try simp only[aR]at*);(try simp(disch:=omega) only[bh]);omega))| ((try simp only[aR]at*);(simp(disch:=omega) only[bh]);omega)| (refine fun _=> ?_;dsimp only[hyps,cV];omega)| (refine fun _ _=> ?_;dsimp only[hyps,cV];omega)|exact(eP _).1|exact(eP _).2|exact(jY _).1|exact(jY _).2| (simp only[cK,maxLen,lens];omega)| (intros;simp only[nb]at*;omega)) ?_)
  refine ay (aE (fun k=>k≤(x.aa.getD c.toNat (aB .bg)).live.inbox.length) (fun k:Nat=> [(32, .one ((aA k)))]) (fun k=> [(23, .arr .str ((x.aa.getD c.toNat (aB .bg)).live.inbox.take k))]) (fun k=>(x.aa.getD c.toNat (aB .bg)).live.inbox.length-k) 0 (fun k=>rfl) (Nat.zero_le _) rfl ?_)
  intro k hk
  have htl:((x.aa.getD c.toNat (aB .bg)).live.inbox.take k).length≤1048576:=by rw[List.length_take];omega
  refine av X [5,30,31,32,33] rfl ?_
  refine af (an rfl ?_ ?_)<;>intro bf
  ·try simp only[aR]at bf
   have hs:=bq (x.aa.getD c.toNat (aB .bg)).live.inbox k (aB (.sl .u8)) bf
   have hy:=Wh Lz bf
   refine au (af (ay (aD X [5,7,30,31,32] rfl (by and_intros<;>first|exact⟨⟩| (intros;omega)|exact rfl|exact aP _ (by decide)|exact⟨rfl,aP _ (by decide)⟩| ((intro h1;first| (intro h2;first| (intro h3;refine And.intro ?_ ?_)|refine And.intro ?_ ?_)|refine And.intro ?_ ?_)<;>first|omega| ((try simp only[aR]at*);(try simp(disch:=omega) only[bh]);omega))| ((try simp only[aR]at*);(simp(disch:=omega) only[bh]);omega)| (refine fun _=> ?_;dsimp only[hyps,cV];omega)| (refine fun _ _=> ?_;dsimp only[hyps,cV];omega)|exact(eP _).1|exact(eP _).2|exact(jY _).1|exact(jY _).2| (simp only[cK,maxLen,lens];omega)| (intros;simp only[nb]at*;omega)) ?_)))
   refine aN X [(40,23)] [] [5,30,31,32] [] rfl (by(repeat' with_reducible first|exact aK|refine aQ ?_ ?_|apply And.intro)<;>first|exact(by rw[zg,Int.toNat_natCast];unfold maxLen;omega)|exact fun _=>(by rw[zg,Int.toNat_natCast];unfold maxLen;omega)|exact fun _ _=>(by rw[zg,Int.toNat_natCast];unfold maxLen;omega)| (intros;omega)|exact rfl|exact aP _ (by decide)|exact⟨rfl,aP _ (by decide)⟩| ((intro h1;first| (intro h2;first| (intro h3;refine And.intro ?_ ?_)|refine And.intro ?_ ?_)|refine And.intro ?_ ?_)<;>first|omega| ((try simp only[aR]at*);(try simp(disch:=omega) only[bh]);omega))| ((try simp only[aR]at*);(simp(disch:=omega) only[bh]);omega)| (refine fun _=> ?_;dsimp only[hyps,cV];omega)| (refine fun _ _=> ?_;dsimp only[hyps,cV];omega)|exact(eP _).1|exact(eP _).2|exact(jY _).1|exact(jY _).2| (simp only[cK,maxLen,lens];omega)| (intros;simp only[nb]at*;omega)) ?_
   refine bu X [5,30,31,32] rfl ?_
   refine⟨k+1,by omega,by omega,?_⟩
   rw[bC _ k rfl (by omega),hs]
   try rfl
  ·try simp only[aR]at bf
   have ht:(x.aa.getD c.toNat (aB .bg)).live.inbox.take k=(x.aa.getD c.toNat (aB .bg)).live.inbox:=List.take_of_length_le bf
   refine aH (aC X [] [(43,⟨false,[.a (.lit (.string (mI (Lib.join ((x.aa.getD c.toNat (aB .bg)).live.inbox.take k) [124]))))]⟩)] [4] [] rfl (by(repeat' with_reducible first|exact aK|refine aQ ?_ ?_|apply And.intro)<;>first|exact(nB _ 124 (by rw[ht];exact Nat.le_trans Lz (by decide)))|exact fun _=>(nB _ 124 (by rw[ht];exact Nat.le_trans Lz (by decide)))|exact fun _ _=>(nB _ 124 (by rw[ht];exact Nat.le_trans Lz (by decide)))| (intros;omega)|exact rfl|exact aP _ (by decide)|exact⟨rfl,aP _ (by decide)⟩| ((intro h1;first| (intro h2;first| (intro h3;refine And.intro ?_ ?_)|refine And.intro ?_ ?_)|refine And.intro ?_ ?_)<;>first|omega| ((try simp only[aR]at*);(try simp(disch:=omega) only[bh]);omega))| ((try simp only[aR]at*);(simp(disch:=omega) only[bh]);omega)| (refine fun _=> ?_;dsimp only[hyps,cV];omega)| (refine fun _ _=> ?_;dsimp only[hyps,cV];omega)|exact(eP _).1|exact(eP _).2|exact(jY _).1|exact(jY _).2| (simp only[cK,maxLen,lens];omega)| (intros;simp only[nb]at*;omega)) ?_)
   exact ak (ah rfl ⟨by rw[ht,Kg,hkr];rfl,⟨⟩⟩)
theorem cT(x:aV)(hl:x.aj.length≤1048576):So 16 [.agg (aU x)] [.a (.sl .int (gb x.aj))]:=by
 refine aq X call16 func16 ntmps16 rfl rfl ?_
 intro zb
 refine av X [1] rfl (aD X [1,3] rfl (by and_intros<;>first|exact⟨⟩| (intros;omega)|exact rfl|exact aP _ (by decide)|exact⟨rfl,aP _ (by decide)⟩| ((intro h1;first| (intro h2;first| (intro h3;refine And.intro ?_ ?_)|refine And.intro ?_ ?_)|refine And.intro ?_ ?_)<;>first|omega| ((try simp only[aR]at*);(try simp(disch:=omega) only[bh]);omega))| ((try simp only[aR]at*);(simp(disch:=omega) only[bh]);omega)| (refine fun _=> ?_;dsimp only[hyps,cV];omega)| (refine fun _ _=> ?_;dsimp only[hyps,cV];omega)|exact(eP _).1|exact(eP _).2|exact(jY _).1|exact(jY _).2| (simp only[cK,maxLen,lens];omega)| (intros;simp only[nb]at*;omega)) ?_)
 refine af (av X [3,8,9,10] rfl ?_)
 refine ay (aE (fun k=>k≤x.aj.length) (fun k:Nat=> [(10, .one ((aA k)))]) (fun k=> [(6, .arr .int (gb (x.aj.take k)))]) (fun k=>x.aj.length-k) 0 (fun k=>rfl) (Nat.zero_le _) rfl ?_)
 intro k hk
 have hle:=LX x.aj k
 refine av X [3,8,9,10,11] rfl ?_
 refine af (an rfl ?_ ?_)<;>intro hb0
 ·try simp only[aR]at hb0
  have hs:=yF x.aj k hb0
  refine au (af (ay (aD X [3,5,8,9,10] rfl (by and_intros<;>first|exact⟨⟩| (intros;omega)|exact rfl|exact aP _ (by decide)|exact⟨rfl,aP _ (by decide)⟩| ((intro h1;first| (intro h2;first| (intro h3;refine And.intro ?_ ?_)|refine And.intro ?_ ?_)|refine And.intro ?_ ?_)<;>first|omega| ((try simp only[aR]at*);(try simp(disch:=omega) only[bh]);omega))| ((try simp only[aR]at*);(simp(disch:=omega) only[bh]);omega)| (refine fun _=> ?_;dsimp only[hyps,cV];omega)| (refine fun _ _=> ?_;dsimp only[hyps,cV];omega)|exact(eP _).1|exact(eP _).2|exact(jY _).1|exact(jY _).2| (simp only[cK,maxLen,lens];omega)| (intros;simp only[nb]at*;omega)) ?_)))
  refine av X [3,5,8,9,10,16] rfl ?_
  refine an rfl ?_ ?_<;>intro bf
  ·try simp only[aR]at bf
   refine aN X [(21,6)] [] [3,8,9,10] [] rfl (by and_intros<;>first|exact⟨⟩| (intros;omega)|exact rfl|exact aP _ (by decide)|exact⟨rfl,aP _ (by decide)⟩| ((intro h1;first| (intro h2;first| (intro h3;refine And.intro ?_ ?_)|refine And.intro ?_ ?_)|refine And.intro ?_ ?_)<;>first|omega| ((try simp only[aR]at*);(try simp(disch:=omega) only[bh]);omega))| ((try simp only[aR]at*);(simp(disch:=omega) only[bh]);omega)| (refine fun _=> ?_;dsimp only[hyps,cV];omega)| (refine fun _ _=> ?_;dsimp only[hyps,cV];omega)|exact(eP _).1|exact(eP _).2|exact(jY _).1|exact(jY _).2| (simp only[cK,maxLen,lens];omega)| (intros;simp only[nb]at*;omega)) ?_
   refine bu X [3,8,9,10] rfl ?_
   refine⟨k+1,by omega,by omega,?_⟩
   rw[bC _ k rfl (by omega),hs,if_pos bf]
   try rfl
  ·try simp only[aR]at bf
   refine au (bu X [3,8,9,10] rfl ?_)
   refine⟨k+1,by omega,by omega,?_⟩
   rw[bC _ k rfl (by omega),hs,if_neg (by simpa using bf),List.append_nil]
   try rfl
 ·try simp only[aR]at hb0
  exact aH (av X [2] rfl (ak (ah rfl ⟨by rw[List.take_of_length_le hb0],⟨⟩⟩)))
theorem v8(a b:List Int)(hl:a.length≤1048576):So 17 [.a (.sl .int a), .a (.sl .int b)] [aG (a==b)]:=by
 refine aq X call17 func17 ntmps17 rfl rfl ?_
 intro zb
 refine av X [0,1] rfl (af (av X [0,1,10] rfl ?_))
 refine an rfl ?_ ?_<;>intro hb0
 ·try simp only[aR]at hb0
  have hne:(a==b)=false:=by rw[beq_eq_false_iff_ne];intro h;rw[h]at hb0;omega
  exact av X [4] rfl (ak (ah rfl ⟨by rw[hne],⟨⟩⟩))
 ·try simp only[aR]at hb0
  have hlen:a.length=b.length:=by omega
  refine au (af (av X [0,1,5] rfl ?_))
  refine ay (aE (fun k=>k≤a.length∧a.take k=b.take k) (fun k:Nat=> [(5, .one ((aA k)))]) (fun k=> []) (fun k=>a.length-k) 0 (fun k=>rfl) ⟨Nat.zero_le _,by simp⟩ rfl ?_)
  rintro k ⟨hk,hall⟩
  refine af (av X [0,1,5,14] rfl ?_)
  refine an rfl ?_ ?_<;>intro bf
  ·try simp only[aR]at bf
   refine au (af (ay (af (aF X [] [] [0,1,5,25] [] 511 0 MO (by kernel_rfl) rfl (by kernel_rfl) (by and_intros<;>first|exact⟨⟩| (intros;omega)|exact rfl|exact aP _ (by decide)|exact⟨rfl,aP _ (by decide)⟩| ((intro h1;first| (intro h2;first| (intro h3;refine And.intro ?_ ?_)|refine And.intro ?_ ?_)|refine And.intro ?_ ?_)<;>first|omega| ((try simp only[aR]at*);(try simp(disch:=omega) only[bh]);omega))| ((try simp only[aR]at*);(simp(disch:=omega) only[bh]);omega)| (refine fun _=> ?_;dsimp only[hyps,cV];omega)| (refine fun _ _=> ?_;dsimp only[hyps,cV];omega)|exact(eP _).1|exact(eP _).2|exact(jY _).1|exact(jY _).2| (simp only[cK,maxLen,lens];omega)| (intros;simp only[nb]at*;omega)) ?_))))
   refine an rfl ?_ ?_<;>intro bU
   ·try simp only[aR]at bU
    have hne:(a==b)=false:=abH (k:=k) bU
    exact av X [4] rfl (ak (ah rfl ⟨by rw[hne],⟨⟩⟩))
   ·try simp only[aR]at bU
    have he:a.getD k (aB .int)=b.getD k (aB .int):=by omega
    refine au (bu X [0,1,5] rfl ?_)
    refine⟨k+1,⟨by omega,l9 a b (aB .int) k bf (by omega) hall he⟩,by omega,?_⟩
    rw[bC _ k rfl (by omega)]
    try rfl
  ·try simp only[aR]at bf
   exact aH (av X [4] rfl (ak (ah rfl ⟨by rw[qg a b k (by omega) (by omega) hall],⟨⟩⟩)))
theorem fE(x:aV):So 18 [.agg (aU x)] [aA (x.replaced.length:Int)]:=by
 refine aq X call18 func18 ntmps18 rfl rfl ?_
 intro zb
 exact bH 0 8 rfl rfl (fun lO=>(av X [1] rfl (av X [2] rfl (ak (ah rfl ⟨rfl,⟨⟩⟩)))))
end
section
set_option maxRecDepth 100000
theorem Zr{b c:Int}(h:c=if b=3 then 0 else 1):((b==3)==(c==0))=true:=by
 subst h
 by_cases e:b=3
 ·subst e;rfl
 ·rw[if_neg e,show(b==3)=false from by rw[beq_eq_false_iff_ne];exact e];rfl
set_option maxHeartbeats 1000000 in
theorem nC(x0:List UInt8)(adY:(fun l=> ∀x,x∈l→(fun _=>True) x) x0):So 4 [.a (.sl .u8 x0)] [aG true]:=by
 refine aq X call4 func4 ntmps4 rfl rfl ?_
 intro zb
 refine av X [0] rfl (af (aC X [] [(12,⟨false,[aG (decide ((1048576:Int)<(x0.length:Int)))]⟩)] [0,12] [] rfl (by(repeat' with_reducible first|exact aK|refine aQ ?_ ?_|apply And.intro)<;>first|exact(FL x0)|exact fun _=>(FL x0)|exact fun _ _=>(FL x0)| (intros;omega)|exact rfl|exact aP _ (by decide)|exact⟨rfl,aP _ (by decide)⟩| ((intro h1;first| (intro h2;first| (intro h3;refine And.intro ?_ ?_)|refine And.intro ?_ ?_)|refine And.intro ?_ ?_)<;>first|omega| ((try simp only[aR]at*);(try simp(disch:=omega) only[bh]);omega))| ((try simp only[aR]at*);(simp(disch:=omega) only[bh]);omega)| (refine fun _=> ?_;dsimp only[hyps,cV];omega)| (refine fun _ _=> ?_;dsimp only[hyps,cV];omega)|exact(eP _).1|exact(eP _).2|exact(jY _).1|exact(jY _).2| (simp only[cK,maxLen,lens];omega)| (intros;simp only[nb]at*;omega)) ?_))
 refine an rfl ?_ ?_<;>intro hb0
 ·try simp only[aR]at hb0
  exact av X [2] rfl (ak (ah rfl ⟨rfl,⟨⟩⟩))
 ·try simp only[aR]at hb0
  have hl:x0.length≤1048576:=by omega
  have a0:=yB x0 (i:=0) hl (by decide)
  have a1:=yB x0 (i:=1) hl (by decide)
  have a2:=yB x0 (i:=2) hl (by decide)
  have a3:=yB x0 (i:=3) hl (by decide)
  have b2:=Aj (n:=3) a2.1 (by decide)
  have b3:=Aj (n:=3) a3.1 (by decide)
  obtain⟨q,hq⟩: ∃q:Nat,(lW x0 0)=(q:Int):=⟨(lW x0 0).toNat,by omega⟩
  have Et:q<256:=by omega
  obtain⟨k,hk⟩: ∃k:Nat,(lW x0 3).tmod 3=(k:Int):=⟨((lW x0 3).tmod 3).toNat,by omega⟩
  have hk2:k<3:=by omega
  obtain⟨bb,TO⟩: ∃bb:Int,(IntKind.i64.wrap (1+(lW x0 2).tmod 3))=bb:=⟨_,rfl⟩
  have bU:bb=1∨bb=2∨bb=3:=by(rw[bh (by omega)]at TO;omega)
  obtain⟨f1,f2,f3,f7⟩:=Zq (seed:=q) (k:=k) (bt:=(b8 (lW x0 1))) (b:=bb) hk2 bU (TG Et)
  have hw:okW (dO 24 3 1 (q:Int))=true:=Hy (by decide) (by decide) (by decide)
  have hD0:wh (dO 24 3 1 (q:Int)) 0:=⟨hw,Int.le_refl 0,Int.le_refl 0,Nat.le_refl 0⟩
  have hwb:=hD0.B (by decide)
  have hD1:wh (qC (dO 24 3 1 (q:Int)) 0 [(b8 (lW x0 1)),5]) 0:=hD0.sm
  have ZC:=hD1.R (by decide)
  have TW:=hD1.rd (by decide)
  have Pq:=TW.B (by decide)
  refine au (aC X [] [(14,⟨false,[aA (lW x0 0)]⟩),(15,⟨false,[.agg (aU (dO 24 (3:Int).toNat (1:Int).toNat (lW x0 0)))]⟩)] [0,3] [] rfl (by(repeat' with_reducible first|exact aK|refine aQ ?_ ?_|apply And.intro);(iterate 2 all_goals try first|exact(iA x0 0 (by decide))|exact fun _=>(iA x0 0 (by decide))|exact fun _ _=>(iA x0 0 (by decide))|exact(iI 24 3 1 (lW x0 0) (by decide) (by decide) (by decide))|exact fun _=>(iI 24 3 1 (lW x0 0) (by decide) (by decide) (by decide))|exact fun _ _=>(iI 24 3 1 (lW x0 0) (by decide) (by decide) (by decide)));all_goals first| (intros;omega)|exact rfl|exact aP _ (by decide)|exact⟨rfl,aP _ (by decide)⟩| ((intro h1;first| (intro h2;first| (intro h3;refine And.intro ?_ ?_)|refine And.intro ?_ ?_)|refine And.intro ?_ ?_)<;>first|omega| ((try simp only[aR]at*);(try simp(disch:=omega) only[bh]);omega))| ((try simp only[aR]at*);(simp(disch:=omega) only[bh]);omega)| (refine fun _=> ?_;dsimp only[hyps,cV];omega)| (refine fun _ _=> ?_;dsimp only[hyps,cV];omega)|exact(eP _).1|exact(eP _).2|exact(jY _).1|exact(jY _).2| (simp only[cK,maxLen,lens];omega)| (intros;simp only[nb]at*;omega)) ?_)
  rw[hq,show(Int.toNat 3)=3 from rfl,show(Int.toNat 1)=1 from rfl]
  refine af ?_
  have t1:=(lE (dO 24 3 1 (q:Int)) 0 [(b8 (lW x0 1)),5] hwb (by show 2≤1048576;decide))
  refine aF X [] [(19,⟨false,[aA (lW x0 1)]⟩),(22,⟨false,bM t1⟩)] [0,3,4] [] 1535 1 MO (by kernel_rfl) rfl (by kernel_rfl) (by(repeat' with_reducible first|exact aK|refine aQ ?_ ?_|apply And.intro);(iterate 3 all_goals try first|exact(iA x0 1 (by decide))|exact fun _=>(iA x0 1 (by decide))|exact fun _ _=>(iA x0 1 (by decide))|exact t1|exact fun _=>t1|exact fun _ _=>t1|exact(by(show jX [Gb Tryz.prog ty .u8 5,0≤IntKind.u8.wrap (lW x0 1)∧IntKind.u8.wrap (lW x0 1)<256,0≤(5:Int)∧(5:Int)<256,_]);exact⟨⟨rfl,aP _ (by decide)⟩,by(rw[vr];omega),by decide,iA x0 1 (by decide),⟨⟩⟩)|exact fun _=>(by(show jX [Gb Tryz.prog ty .u8 5,0≤IntKind.u8.wrap (lW x0 1)∧IntKind.u8.wrap (lW x0 1)<256,0≤(5:Int)∧(5:Int)<256,_]);exact⟨⟨rfl,aP _ (by decide)⟩,by(rw[vr];omega),by decide,iA x0 1 (by decide),⟨⟩⟩)|exact fun _ _=>(by(show jX [Gb Tryz.prog ty .u8 5,0≤IntKind.u8.wrap (lW x0 1)∧IntKind.u8.wrap (lW x0 1)<256,0≤(5:Int)∧(5:Int)<256,_]);exact⟨⟨rfl,aP _ (by decide)⟩,by(rw[vr];omega),by decide,iA x0 1 (by decide),⟨⟩⟩));all_goals first| (intros;omega)|exact rfl|exact aP _ (by decide)|exact⟨rfl,aP _ (by decide)⟩| ((intro h1;first| (intro h2;first| (intro h3;refine And.intro ?_ ?_)|refine And.intro ?_ ?_)|refine And.intro ?_ ?_)<;>first|omega| ((try simp only[aR]at*);(try simp(disch:=omega) only[bh]);omega))| ((try simp only[aR]at*);(simp(disch:=omega) only[bh]);omega)| (refine fun _=> ?_;dsimp only[hyps,cV];omega)| (refine fun _ _=> ?_;dsimp only[hyps,cV];omega)|exact(eP _).1|exact(eP _).2|exact(jY _).1|exact(jY _).2| (simp only[cK,maxLen,lens];omega)| (intros;simp only[nb]at*;omega)) ?_
  rw[f1]
  generalize (qC (dO 24 3 1 (q:Int)) 0 [(b8 (lW x0 1)),5])=u at f2 f3 f7 ZC Pq ⊢
  refine aC X [] [(26,⟨false,[.agg (aU (bE u))]⟩)] [0,3,4] [] rfl (by(repeat' with_reducible first|exact aK|refine aQ ?_ ?_|apply And.intro)<;>first|exact(iH u ZC)|exact fun _=>(iH u ZC)|exact fun _ _=>(iH u ZC)| (intros;omega)|exact rfl|exact aP _ (by decide)|exact⟨rfl,aP _ (by decide)⟩| ((intro h1;first| (intro h2;first| (intro h3;refine And.intro ?_ ?_)|refine And.intro ?_ ?_)|refine And.intro ?_ ?_)<;>first|omega| ((try simp only[aR]at*);(try simp(disch:=omega) only[bh]);omega))| ((try simp only[aR]at*);(simp(disch:=omega) only[bh]);omega)| (refine fun _=> ?_;dsimp only[hyps,cV];omega)| (refine fun _ _=> ?_;dsimp only[hyps,cV];omega)|exact(eP _).1|exact(eP _).2|exact(jY _).1|exact(jY _).2| (simp only[cK,maxLen,lens];omega)| (intros;simp only[nb]at*;omega)) ?_
  generalize bE u=w at f2 f3 f7 Pq ⊢
  refine aC X [] [(28,⟨false,[aA (lW x0 2)]⟩)] [0,3,4,5] [] rfl (by(repeat' with_reducible first|exact aK|refine aQ ?_ ?_|apply And.intro)<;>first|exact(iA x0 2 (by decide))|exact fun _=>(iA x0 2 (by decide))|exact fun _ _=>(iA x0 2 (by decide))| (intros;omega)|exact rfl|exact aP _ (by decide)|exact⟨rfl,aP _ (by decide)⟩| ((intro h1;first| (intro h2;first| (intro h3;refine And.intro ?_ ?_)|refine And.intro ?_ ?_)|refine And.intro ?_ ?_)<;>first|omega| ((try simp only[aR]at*);(try simp(disch:=omega) only[bh]);omega))| ((try simp only[aR]at*);(simp(disch:=omega) only[bh]);omega)| (refine fun _=> ?_;dsimp only[hyps,cV];omega)| (refine fun _ _=> ?_;dsimp only[hyps,cV];omega)|exact(eP _).1|exact(eP _).2|exact(jY _).1|exact(jY _).2| (simp only[cK,maxLen,lens];omega)| (intros;simp only[nb]at*;omega)) ?_
  rw[TO]
  refine aC X [] [(32,⟨false,[aA (lW x0 3)]⟩)] [0,3,4,5,6] [] rfl (by(repeat' with_reducible first|exact aK|refine aQ ?_ ?_|apply And.intro)<;>first|exact(iA x0 3 (by decide))|exact fun _=>(iA x0 3 (by decide))|exact fun _ _=>(iA x0 3 (by decide))| (intros;omega)|exact rfl|exact aP _ (by decide)|exact⟨rfl,aP _ (by decide)⟩| ((intro h1;first| (intro h2;first| (intro h3;refine And.intro ?_ ?_)|refine And.intro ?_ ?_)|refine And.intro ?_ ?_)<;>first|omega| ((try simp only[aR]at*);(try simp(disch:=omega) only[bh]);omega))| ((try simp only[aR]at*);(simp(disch:=omega) only[bh]);omega)| (refine fun _=> ?_;dsimp only[hyps,cV];omega)| (refine fun _ _=> ?_;dsimp only[hyps,cV];omega)|exact(eP _).1|exact(eP _).2|exact(jY _).1|exact(jY _).2| (simp only[cK,maxLen,lens];omega)| (intros;simp only[nb]at*;omega)) ?_
  rw[hk]
  refine af ?_
  have t1:=(tC w (k:Int) bb Pq)
  refine aN X [] [(38,⟨false,bM t1⟩)] [0,4,5,6,7,8] [] rfl (by(repeat' with_reducible first|exact aK|refine aQ ?_ ?_|apply And.intro)<;>first|exact t1|exact fun _=>t1|exact fun _ _=>t1| (intros;omega)|exact rfl|exact aP _ (by decide)|exact⟨rfl,aP _ (by decide)⟩| ((intro h1;first| (intro h2;first| (intro h3;refine And.intro ?_ ?_)|refine And.intro ?_ ?_)|refine And.intro ?_ ?_)<;>first|omega| ((try simp only[aR]at*);(try simp(disch:=omega) only[bh]);omega))| ((try simp only[aR]at*);(simp(disch:=omega) only[bh]);omega)| (refine fun _=> ?_;dsimp only[hyps,cV];omega)| (refine fun _ _=> ?_;dsimp only[hyps,cV];omega)|exact(eP _).1|exact(eP _).2|exact(jY _).1|exact(jY _).2| (simp only[cK,maxLen,lens];omega)| (intros;simp only[nb]at*;omega)) ?_
  rw[f2]
  generalize wg w (k:Int) bb=x at f3 f7 ⊢
  have hC:wC x 4100000:=kV f7.C (by decide)
  have hwx:=f7.B (by decide)
  have Xs:=AX hwx
  refine aC X [] [(42,⟨false,[.agg (aU (b9 x (qE 2)))]⟩)] [0,4,5,6,7,8,9] [] rfl (by(repeat' with_reducible first|exact aK|refine aQ ?_ ?_|apply And.intro)<;>first|exact(gZ x 2 hC)|exact fun _=>(gZ x 2 hC)|exact fun _ _=>(gZ x 2 hC)| (intros;omega)|exact rfl|exact aP _ (by decide)|exact⟨rfl,aP _ (by decide)⟩| ((intro h1;first| (intro h2;first| (intro h3;refine And.intro ?_ ?_)|refine And.intro ?_ ?_)|refine And.intro ?_ ?_)<;>first|omega| ((try simp only[aR]at*);(try simp(disch:=omega) only[bh]);omega))| ((try simp only[aR]at*);(simp(disch:=omega) only[bh]);omega)| (refine fun _=> ?_;dsimp only[hyps,cV];omega)| (refine fun _ _=> ?_;dsimp only[hyps,cV];omega)|exact(eP _).1|exact(eP _).2|exact(jY _).1|exact(jY _).2| (simp only[cK,maxLen,lens];omega)| (intros;simp only[nb]at*;omega)) ?_
  rw[show qE 2=2 from by decide]
  have hC2:=kV (Hj f7.C 2) (show 8*1+8*2≤1000 by decide)
  generalize b9 x 2=y at f3 hC2 ⊢
  have hwy:=Hh hC2 (by decide)
  have ZQ:=AX hwy
  have hCy:wC y 4100000:=kV hC2 (by decide)
  have XD:y.replaced.length≤1048576:=by(rw[f3.rp];show 1≤1048576;decide)
  refine af (af (NK X [] [(51,⟨false,[.a (.sl .int (gb x.aj))]⟩),(57,⟨false,[.a (.sl .int (gb y.aj))]⟩),(66,⟨false,[aG (y.replaced== [(k:Int)])]⟩),(71,⟨false,[aA (y.replaced.length:Int)]⟩),(1100045,⟨false,[]⟩),(1100049,⟨false,[]⟩),(1100055,⟨false,[]⟩),(1100061,⟨false,[]⟩),(1100069,⟨false,[]⟩)] [0,5,9,73] [] rfl (by(repeat' with_reducible first|exact aK|refine aQ ?_ ?_|apply And.intro);(iterate 7 all_goals try first|exact(cT x Xs)|exact fun _=>(cT x Xs)|exact fun _ _=>(cT x Xs)|exact(cT y ZQ)|exact fun _=>(cT y ZQ)|exact fun _ _=>(cT y ZQ)|exact(v8 y.replaced [(k:Int)] XD)|exact fun _=>(v8 y.replaced [(k:Int)] XD)|exact fun _ _=>(v8 y.replaced [(k:Int)] XD)|exact(fE y)|exact fun _=>(fE y)|exact fun _ _=>(fE y)|exact(by rw[f3.hx];rfl)|exact fun _=>(by rw[f3.hx];rfl)|exact fun _ _=>(by rw[f3.hx];rfl)|exact(by rw[f3.hy];rfl)|exact fun _=>(by rw[f3.hy];rfl)|exact fun _ _=>(by rw[f3.hy];rfl)|exact(by rw[f3.rp,beq_self_eq_true];rfl)|exact fun _=>(by rw[f3.rp,beq_self_eq_true];rfl)|exact fun _ _=>(by rw[f3.rp,beq_self_eq_true];rfl));all_goals first| (intros;omega)|exact rfl|exact aP _ (by decide)|exact⟨rfl,aP _ (by decide)⟩| ((intro h1;first| (intro h2;first| (intro h3;refine And.intro ?_ ?_)|refine And.intro ?_ ?_)|refine And.intro ?_ ?_)<;>first|omega| ((try simp only[aR]at*);(try simp(disch:=omega) only[bh]);omega))| ((try simp only[aR]at*);(simp(disch:=omega) only[bh]);omega)| (refine fun _=> ?_;dsimp only[hyps,cV];omega)| (refine fun _ _=> ?_;dsimp only[hyps,cV];omega)|exact(eP _).1|exact(eP _).2|exact(jY _).1|exact(jY _).2| (simp only[cK,maxLen,lens];omega)| (intros;simp only[nb]at*;omega)) ?_))
  refine an rfl ?_ ?_<;>intro bf
  ·exact absurd bf (by rw[f3.rp];simp)
  ·refine au (aC X [] [(75,⟨false,[.agg (aU (b9 y (qE (qF y))))]⟩)] [0,5,9,10] [] rfl (by(repeat' with_reducible first|exact aK|refine aQ ?_ ?_|apply And.intro)<;>first|exact(oD y hCy)|exact fun _=>(oD y hCy)|exact fun _ _=>(oD y hCy)| (intros;omega)|exact rfl|exact aP _ (by decide)|exact⟨rfl,aP _ (by decide)⟩| ((intro h1;first| (intro h2;first| (intro h3;refine And.intro ?_ ?_)|refine And.intro ?_ ?_)|refine And.intro ?_ ?_)<;>first|omega| ((try simp only[aR]at*);(try simp(disch:=omega) only[bh]);omega))| ((try simp only[aR]at*);(simp(disch:=omega) only[bh]);omega)| (refine fun _=> ?_;dsimp only[hyps,cV];omega)| (refine fun _ _=> ?_;dsimp only[hyps,cV];omega)|exact(eP _).1|exact(eP _).2|exact(jY _).1|exact(jY _).2| (simp only[cK,maxLen,lens];omega)| (intros;simp only[nb]at*;omega)) ?_)
   have hC3:=kV (Hj hC2 (qE (qF y))) (show 1000+8*qE (qF y)≤10000 by have:=LA (qF y);omega)
   generalize b9 y (qE (qF y))=z at f3 hC3 ⊢
   have hwz:=Hh hC3 (by decide)
   have W3:=Jh hwz
   have hiz:cQ List.length (EI z 1)≤1048576:=by(rw[f3.ib];show 1+(2+0)≤1048576;decide)
   refine af (NK X [] [(77,⟨false,[aG (ep z)]⟩),(80,⟨false,[.a (.lit (.string (Kg z 1)))]⟩),(82,⟨false,[aA (lW x0 1)]⟩),(1100078,⟨true,[]⟩),(1100088,⟨true,[]⟩),(1100093,⟨true,[]⟩)] [2] [] rfl (by(repeat' with_reducible first|exact aK|refine aQ ?_ ?_|apply And.intro);(iterate 6 all_goals try first|exact(dZ z W3)|exact fun _=>(dZ z W3)|exact fun _ _=>(dZ z W3)|exact(iB z 1 W3 hiz)|exact fun _=>(iB z 1 W3 hiz)|exact fun _ _=>(iB z 1 W3 hiz)|exact(iA x0 1 (by decide))|exact fun _=>(iA x0 1 (by decide))|exact fun _ _=>(iA x0 1 (by decide))|exact f3.qu|exact fun _=>f3.qu|exact fun _ _=>f3.qu|exact(by rw[f3.tx];exact beq_self_eq_true _)|exact fun _=>(by rw[f3.tx];exact beq_self_eq_true _)|exact fun _ _=>(by rw[f3.tx];exact beq_self_eq_true _)|exact(by rw[f3.ca];split<;>decide)|exact fun _=>(by rw[f3.ca];split<;>decide)|exact fun _ _=>(by rw[f3.ca];split<;>decide));all_goals first| (intros;omega)|exact rfl|exact aP _ (by decide)|exact⟨rfl,aP _ (by decide)⟩| ((intro h1;first| (intro h2;first| (intro h3;refine And.intro ?_ ?_)|refine And.intro ?_ ?_)|refine And.intro ?_ ?_)<;>first|omega| ((try simp only[aR]at*);(try simp(disch:=omega) only[bh]);omega))| ((try simp only[aR]at*);(simp(disch:=omega) only[bh]);omega)| (refine fun _=> ?_;dsimp only[hyps,cV];omega)| (refine fun _ _=> ?_;dsimp only[hyps,cV];omega)|exact(eP _).1|exact(eP _).2|exact(jY _).1|exact(jY _).2| (simp only[cK,maxLen,lens];omega)| (intros;simp only[nb]at*;omega)) ?_)
   exact ak (ah rfl ⟨congrArg Value.bool (Zr f3.ca),⟨⟩⟩)
end
end Go.Proofs.YtkcegdacbddipaaGreat.G
