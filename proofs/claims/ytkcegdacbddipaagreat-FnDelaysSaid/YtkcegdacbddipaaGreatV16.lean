/-
  FnDelays: the law, walked by the symbolic machine: it returns true. No condition.
-/
import Derived.Test.YtkcegdacbddipaaGreatV13
import Derived.Test.YtkcegdacbddipaaGreatV14
namespace Go.Proofs.YtkcegdacbddipaaGreat.G
set_option linter.all false
open Go.RowKit L D Tryz
section
set_option maxRecDepth 100000
theorem hJ(x:aV)(l:Int)(hC:wC x 4100000):So 9 [.agg (aU x),aA l] [aA (delay x l)]:=by
 refine aq X call9 func9 ntmps9 rfl rfl ?_
 intro zb
 have hlm:=VE l
 have hlt:((uL l:Nat):Int)=wA l 400∨(wA l 400<0∧uL l=0):=by unfold uL;omega
 refine av X [1,2] rfl (av X [1,2,5] rfl ?_)
 refine ay (aE (fun k=>k≤uL l∧delay x l=SE x k (uL l-k)) (fun k:Nat=> [(5, .one ((aA k)))]) (fun k=> [(2, .box [cS (b9 x k).rows, .sl .aX (b9 x k).aj, .sl .bg (b9 x k).aa,cS (b9 x k).az.rows, .sl .aJ (b9 x k).az.rounds,cS (b9 x k).aT,cS (b9 x k).seed,cS (b9 x k).round, .sl .int (b9 x k).replaced,cS (b9 x k).cancelled])]) (fun k=>uL l-k) 0 (fun k=>rfl) ⟨Nat.zero_le _,rfl⟩ rfl ?_)
 rintro k ⟨hk,uu⟩
 have hrb:=DY hC (k:=k) (by omega)
 refine af (ay (af (aC X [] [(9,⟨false,[aG (ep (b9 x k))]⟩)] [1,2,5,9] [] rfl (by(with_reducible and_intros)<;>first|exact⟨⟩|exact(dZ (b9 x k) hrb.2)) ?_)))
 refine an rfl ?_ ?_<;>intro hb0
 ·have hq:ep (b9 x k)=true:=hb0
  exact av X [4] rfl (ak (ah rfl ⟨by rw[uu,Np hq],⟨⟩⟩))
 ·have hq:ep (b9 x k)=false:=hb0
  refine au (af (av X [1,2,5,14] rfl ?_))
  refine an rfl ?_ ?_<;>intro bf
  ·try simp only[aR]at bf
   have hke:uL l-k=0:=by omega
   rw[hke,Nq hq]at uu
   exact av X [4] rfl (ak (ah rfl ⟨by rw[uu],⟨⟩⟩))
  ·try simp only[aR]at bf
   have Em:k<uL l:=by omega
   rw[SF hq (by omega),show uL l-k-1=uL l-(k+1)by omega]at uu
   refine au (aN X [] [(16,⟨false,[.agg (aU (bE (b9 x k)))]⟩)] [1,2,5] [] rfl (by(with_reducible and_intros)<;>first|exact⟨⟩|exact(qX (b9 x k) hrb.1)) (bu X [1,2,5] rfl ?_))
   refine⟨k+1,⟨by omega,uu⟩,by omega,?_⟩
   rw[bC _ k rfl (by omega)]
   try rfl
theorem hY(x:aV)(c:Int)(hC:wC x 4100000):So 11 [.agg (aU x),aA c] [.agg (aU (b9 x (qE c)))]:=by
 refine aq X call11 func11 ntmps11 rfl rfl ?_
 intro zb
 have h0:wB x:=Hh hC (by decide)
 refine av X [1,2,4] rfl (aC X [] [(8,⟨true,[.agg (aU x)]⟩)] [1,4,5] [] rfl (by(with_reducible and_intros)<;>first|exact⟨⟩|exact(eN x h0)) (af (av X [1,4,5,6] rfl ?_)))
 refine ay (aE (fun k=>k≤qE c) (fun k:Nat=> [(6, .one ((aA k)))]) (fun k=> [(9, .arr .aX (b9 x k).aj),(10, .arr .bg (b9 x k).aa),(12, .arr .aJ (b9 x k).az.rounds),(16, .arr .int (b9 x k).replaced),(5, .box [cS (b9 x k).rows, .own 9, .own 10,cS (b9 x k).az.rows, .own 12,cS (b9 x k).aT,cS (b9 x k).seed,cS (b9 x k).round, .own 16,cS (b9 x k).cancelled])]) (fun k=>qE c-k) 0 (fun k=>rfl) (Nat.zero_le _) rfl ?_)
 intro k hk
 have hrn:=LA c
 have hrb:=DY hC (k:=k) (by omega)
 refine af (av X [1,4,5,6,15] rfl ?_)
 refine an rfl ?_ ?_<;>intro hb0
 ·have hgo:=abd hb0
  refine au (af (ay (aN X [(19,150)] [(19,⟨true,[.agg (aU (bE (b9 x k)))]⟩)] [1,4,5,6] [] rfl (by(with_reducible and_intros)<;>first|exact⟨⟩|exact(iH (b9 x k) hrb.1)) (n8 151 9 rfl (n8 152 10 rfl (n8 154 12 rfl (n8 158 16 rfl (bu X [1,4,5,6] rfl ?_))))))))
  refine⟨k+1,by omega,by omega,?_⟩
  rw[bC _ k rfl (by omega)]
  try rfl
 ·have hkk:=(YO hk hb0).symm
  exact aH (aD X [4] rfl (by trivial) (ak (ah rfl (by and_intros<;>first|exact⟨⟩| (rw[hkk];done)))))
end
section
set_option maxRecDepth 100000
theorem gO(x:aV):So 12 [.agg (aU x)] [aA (coll x)]:=by
 refine Fb X3 call12 func12 rfl rfl (by decide) ntmps12 (by simp) ?_
 intro zb
 refine bH 0 2 rfl rfl (fun lO=> ?_)
 have hrl:=Al x
 refine av X3 [1] rfl (af (aC X3 [] [(14,⟨false,[aG (okW x)]⟩)] [1,15] [] rfl (by(with_reducible and_intros)<;>first|exact⟨⟩|exact(cq x)) ?_))
 refine an rfl ?_ ?_<;>intro hb0
 ·have hok:okW x=false:=by simpa using hb0
  exact av X3 [2] rfl (ak (ah rfl ⟨by rw[coll,hok];rfl,⟨⟩⟩))
 ·have hok:okW x=true:=by simpa using hb0
  have hn8:=(nR (jC hok)).2.1
  refine au (av X3 [1,3] rfl (aD X3 [1,3,4] rfl (by and_intros<;>first|exact⟨⟩|exact rfl) (af (av X3 [1,3,4,19,20,21] rfl ?_))))
  refine ay (aE (fun k=>k≤x.aa.length) (fun k:Nat=> [(21, .one ((aA k)))]) (fun k=> [(16, .eZ .int (O4 ((lG x).take k)) .mp),(17, .arr .int ((lG x).take k))]) (fun k=>x.aa.length-k) 0 (fun k=>rfl) (Nat.zero_le _) rfl ?_)
  intro k hk
  have hle:=bl (lG x) k
  refine av X3 [1,3,4,19,20,21,22] rfl ?_
  refine af (an rfl ?_ ?_)<;>intro bf
  ·try simp only[aR]at bf
   have hs:=LK (x:=x) (k:=k) (by omega)
   have oK:=FN (lG x) k (by omega)
   rw[uk (by omega)]at oK
   refine au (af (ay (aD X3 [1,3,4,6,19,20,21] rfl (by and_intros<;>first|exact⟨⟩| (intros;omega)) (af ?_))))
   have t1:=(mY ((x.aa.getD k (aB .bg)).live) x.round x.rows)
   refine aN X3 [] [(32,⟨true,bM t1⟩)] [1,3,4,7,19,20,21] [] rfl (by(with_reducible and_intros)<;>first|exact⟨⟩|exact t1) (aC X3 [(39,17)] [] [1,3,4,7,19,20,21] [] rfl (by and_intros<;>first|exact⟨⟩|exact rfl| (simp only[cK,maxLen,lens];omega)) (bu X3 [1,3,4,19,20,21] rfl (bu X3 [1,3,4,19,20,21] rfl ?_)))
   refine⟨k+1,by omega,by omega,?_⟩
   rw[bC _ k rfl (by omega),oK,hs]
   try rfl
  ·try simp only[aR]at bf
   have hta:(lG x).take k=(lG x):=List.take_of_length_le (by omega)
   refine aH (af ?_)
   rw[hta]
   refine bu X3 [1,3,4,10] rfl (af (av X3 [3,4,10,46,47,48] rfl ?_))
   refine ay (aE (fun k1=>k1≤x.aa.length) (fun k1:Nat=> [(10, .one ((aA ((Am x k1:Nat):Int)))),(48, .one ((aA k1)))]) (fun k1=> []) (fun k1=>x.aa.length-k1) 0 (fun k1=>rfl) (Nat.zero_le _) rfl ?_)
   intro k1 hk1
   have qY:=V2 x k1
   refine av X3 [3,4,10,46,47,48,49] rfl ?_
   refine af (an rfl ?_ ?_)<;>intro bU
   ·try simp only[aR]at bU
    have hh:=Y0 (l:=(lG x)) (i:=k1) (by omega) (by omega)
    refine au (af (ay (aD X3 [3,4,10,11,12,46,47,48] rfl (by and_intros<;>first|exact⟨⟩| (intros;omega)) (aC X3 [] [(55,⟨false,[aA (waiting ((x.aa.getD k1 (aB .bg)).live))]⟩)] [3,4,10,46,47,48,65] [] rfl (by(with_reducible and_intros)<;>first|exact⟨⟩|exact(jS ((x.aa.getD k1 (aB .bg)).live))| ((intro h1;first| (intro h2;first| (intro h3;refine And.intro ?_ ?_)|refine And.intro ?_ ?_)|refine And.intro ?_ ?_)<;>first|omega| ((try simp only[aR]at*);(try simp(disch:=omega) only[bh]);omega))| (refine fun _=> ?_;dsimp only[hyps,cV];omega)) ?_))))
    refine an rfl ?_ ?_<;>intro xl
    ·have hc:vZ x k1=true:=by unfold vZ;rw[←hh];simpa using xl
     have hs:=JU hc
     refine bu X3 [3,4,10,46,47,48] rfl (bu X3 [3,4,10,46,47,48] rfl ?_)
     refine⟨k1+1,by omega,by omega,?_⟩
     rw[bC _ k1 rfl (by omega),bC _ (Am x k1) rfl (by omega),hs]
     try rfl
    ·have hc:vZ x k1=false:=by unfold vZ;rw[←hh];simpa using xl
     have hs:=An hc
     refine au (bu X3 [3,4,10,46,47,48] rfl ?_)
     refine⟨k1+1,by omega,by omega,?_⟩
     rw[bC _ k1 rfl (by omega),hs]
     try rfl
   ·try simp only[aR]at bU
    exact aH (av X3 [2] rfl (ak (ah rfl ⟨by rw[coll,if_pos hok,show x.aa.length=k1 by omega],⟨⟩⟩)))
end
section
set_option maxRecDepth 100000
theorem Zf{c n dd:Int}(h:(c=0∧n=1)∨c=1)(hd:dd= -1):(if(if decide (c≤1)=true then(if(c==1)=true then true else n==1)else false)=true then dd== -1 else false)=true:=by
 rcases h with⟨rfl,rfl⟩|rfl<;>subst hd<;>rfl
set_option maxHeartbeats 1000000 in
theorem LS(x0:List UInt8)(adY:(fun l=> ∀x,x∈l→(fun _=>True) x) x0):So 3 [.a (.sl .u8 x0)] [aG true]:=by
 refine aq X call3 func3 ntmps3 rfl rfl ?_
 intro zb
 refine av X [0] rfl (af (aC X [] [(8,⟨false,[aG (decide ((1048576:Int)<(x0.length:Int)))]⟩)] [0,8] [] rfl (by(repeat' with_reducible first|exact aK|refine aQ ?_ ?_|apply And.intro)<;>first|exact(FL x0)|exact fun _=>(FL x0)|exact fun _ _=>(FL x0)| (intros;omega)|exact rfl|exact aP _ (by decide)|exact⟨rfl,aP _ (by decide)⟩| ((intro h1;first| (intro h2;first| (intro h3;refine And.intro ?_ ?_)|refine And.intro ?_ ?_)|refine And.intro ?_ ?_)<;>first|omega| ((try simp only[aR]at*);(try simp(disch:=omega) only[bh]);omega))| ((try simp only[aR]at*);(simp(disch:=omega) only[bh]);omega)| (refine fun _=> ?_;dsimp only[hyps,cV];omega)| (refine fun _ _=> ?_;dsimp only[hyps,cV];omega)|exact(eP _).1|exact(eP _).2|exact(jY _).1|exact(jY _).2| (simp only[cK,maxLen,lens];omega)| (intros;simp only[nb]at*;omega)) ?_))
 refine an rfl ?_ ?_<;>intro hb0
 ·try simp only[aR]at hb0
  exact av X [2] rfl (ak (ah rfl ⟨rfl,⟨⟩⟩))
 ·try simp only[aR]at hb0
  have hl:x0.length≤1048576:=by omega
  have a0:=yB x0 (i:=0) hl (by decide)
  have a1:=yB x0 (i:=1) hl (by decide)
  have a2:=yB x0 (i:=2) hl (by decide)
  have a3:=yB x0 (i:=3) hl (by decide)
  have a4:=yB x0 (i:=4) hl (by decide)
  have b0:=Aj (n:=48) a0.1 (by decide)
  have b1:=Aj (n:=3) a1.1 (by decide)
  have b2:=Aj (n:=2) a2.1 (by decide)
  obtain⟨R,hR⟩: ∃R:Nat,(IntKind.i64.wrap (16+(lW x0 0).tmod 48))=(R:Int):=⟨(16+(lW x0 0).tmod 48).toNat,by rw[bh (by omega)];omega⟩
  obtain⟨s,hs⟩: ∃s:Nat,(IntKind.i64.wrap (2+(lW x0 1).tmod 3))=(s:Int):=⟨(2+(lW x0 1).tmod 3).toNat,by rw[bh (by omega)];omega⟩
  obtain⟨p,hp⟩: ∃p:Nat,(IntKind.i64.wrap (1+(lW x0 2).tmod 2))=(p:Int):=⟨(1+(lW x0 2).tmod 2).toNat,by rw[bh (by omega)];omega⟩
  obtain⟨q,hq⟩: ∃q:Nat,(lW x0 3)=(q:Int):=⟨(lW x0 3).toNat,by omega⟩
  have hR2:16≤R∧R<64:=by(rw[bh (by omega)]at hR;omega)
  have oK:2≤s∧s≤4:=by(rw[bh (by omega)]at hs;omega)
  have W5:1≤p∧p≤2:=by(rw[bh (by omega)]at hp;omega)
  have Et:q<256:=by omega
  have uu:(dO (R:Int) s p (q:Int)).aa.length=2*p:=BS (q:Int) (2*p)
  have b4:=Aj (n:=((dO (R:Int) s p (q:Int)).aa.length:Int)) a4.1 (by omega)
  obtain⟨d,hd⟩: ∃d:Nat,((lW x0 4).tmod ((dO (R:Int) s p (q:Int)).aa.length:Int))=(d:Int):=⟨((lW x0 4).tmod ((dO (R:Int) s p (q:Int)).aa.length:Int)).toNat,by omega⟩
  have hd2:d<2*p:=by omega
  have hw:okW (dO (R:Int) s p (q:Int))=true:=Hy (by omega) oK (by omega)
  have hwD:wh (dO (R:Int) s p (q:Int)) 0:=⟨hw,Int.le_refl 0,Int.le_refl 0,Nat.le_refl 0⟩
  have hwb:=hwD.B (by decide)
  obtain⟨f1,f2,_,_,_,_,f7⟩:=Kb (rows:=(R:Int)) (seed:=(q:Int)) (s:=s) (p:=p) (d:=d) (m:= [7]) (by omega) oK (by omega) hd2 (by decide)
  obtain⟨K,k1,k2,k3,k4,k5,k6⟩:=Ze f2 (by omega) hd2 (by decide) (Tu (Tv Et) hR2 W5 hd2)
  have hr1:qE ((K+1:Nat):Int)=K+1:=by(have:=DX (c:=((K+1:Nat):Int)) (by omega);omega)
  have yL:qE (IntKind.i64.wrap (((K+1:Nat):Int)-1))=K:=by(rw[bh (by omega)];have:=DX (c:=((K+1:Nat):Int)-1) (by omega);omega)
  refine au (af ?_)
  have t1:=(iI (IntKind.i64.wrap (16+(lW x0 0).tmod 48)) (IntKind.i64.wrap (2+(lW x0 1).tmod 3)) (IntKind.i64.wrap (1+(lW x0 2).tmod 2)) (lW x0 3) (by omega) (by omega) (by omega))
  refine aN X [] [(10,⟨false,[aA (lW x0 0)]⟩),(14,⟨false,[aA (lW x0 1)]⟩),(18,⟨false,[aA (lW x0 2)]⟩),(22,⟨false,[aA (lW x0 3)]⟩),(23,⟨false,bM t1⟩)] [0,3] [] rfl (by(repeat' with_reducible first|exact aK|refine aQ ?_ ?_|apply And.intro);(iterate 5 all_goals try first|exact(iA x0 0 (by decide))|exact fun _=>(iA x0 0 (by decide))|exact fun _ _=>(iA x0 0 (by decide))|exact(iA x0 1 (by decide))|exact fun _=>(iA x0 1 (by decide))|exact fun _ _=>(iA x0 1 (by decide))|exact(iA x0 2 (by decide))|exact fun _=>(iA x0 2 (by decide))|exact fun _ _=>(iA x0 2 (by decide))|exact(iA x0 3 (by decide))|exact fun _=>(iA x0 3 (by decide))|exact fun _ _=>(iA x0 3 (by decide))|exact t1|exact fun _=>t1|exact fun _ _=>t1);all_goals first| (intros;omega)|exact rfl|exact aP _ (by decide)|exact⟨rfl,aP _ (by decide)⟩| ((intro h1;first| (intro h2;first| (intro h3;refine And.intro ?_ ?_)|refine And.intro ?_ ?_)|refine And.intro ?_ ?_)<;>first|omega| ((try simp only[aR]at*);(try simp(disch:=omega) only[bh]);omega))| ((try simp only[aR]at*);(simp(disch:=omega) only[bh]);omega)| (refine fun _=> ?_;dsimp only[hyps,cV];omega)| (refine fun _ _=> ?_;dsimp only[hyps,cV];omega)|exact(eP _).1|exact(eP _).2|exact(jY _).1|exact(jY _).2| (simp only[cK,maxLen,lens];omega)| (intros;simp only[nb]at*;omega)) ?_
  rw[hR,hs,hp,hq,Int.toNat_natCast,Int.toNat_natCast]
  refine af ?_
  have t1:=(lE (dO (R:Int) s p (q:Int)) ((lW x0 4).tmod ((dO (R:Int) s p (q:Int)).aa.length:Int)) [7] hwb (by decide))
  refine aF X [] [(27,⟨false,[aA (lW x0 4)]⟩),(33,⟨false,bM t1⟩)] [3,4] [] 12287 1 MO (by kernel_rfl) rfl (by kernel_rfl) (by(repeat' with_reducible first|exact aK|refine aQ ?_ ?_|apply And.intro);(iterate 3 all_goals try first|exact(iA x0 4 (by decide))|exact fun _=>(iA x0 4 (by decide))|exact fun _ _=>(iA x0 4 (by decide))|exact t1|exact fun _=>t1|exact fun _ _=>t1|exact(by(show jX [Gb Tryz.prog ty .u8 7,0≤(7:Int)∧(7:Int)<256]);exact⟨⟨rfl,aP _ (by decide)⟩,by decide,⟨⟩⟩)|exact fun _=>(by(show jX [Gb Tryz.prog ty .u8 7,0≤(7:Int)∧(7:Int)<256]);exact⟨⟨rfl,aP _ (by decide)⟩,by decide,⟨⟩⟩)|exact fun _ _=>(by(show jX [Gb Tryz.prog ty .u8 7,0≤(7:Int)∧(7:Int)<256]);exact⟨⟨rfl,aP _ (by decide)⟩,by decide,⟨⟩⟩));all_goals first| (intros;omega)|exact rfl|exact aP _ (by decide)|exact⟨rfl,aP _ (by decide)⟩| ((intro h1;first| (intro h2;first| (intro h3;refine And.intro ?_ ?_)|refine And.intro ?_ ?_)|refine And.intro ?_ ?_)<;>first|omega| ((try simp only[aR]at*);(try simp(disch:=omega) only[bh]);omega))| ((try simp only[aR]at*);(simp(disch:=omega) only[bh]);omega)| (refine fun _=> ?_;dsimp only[hyps,cV];omega)| (refine fun _ _=> ?_;dsimp only[hyps,cV];omega)|exact(eP _).1|exact(eP _).2|exact(jY _).1|exact(jY _).2| (simp only[cK,maxLen,lens];omega)| (intros;simp only[nb]at*;omega)) ?_
  rw[hd,f1]
  generalize qC (dO (R:Int) s p (q:Int)) (d:Int) [7]=x at f2 f7 k2 k3 k4 k5 k6 ⊢
  have hC:wC x 4100000:=kV f7.C (by decide)
  have TU:=(DY hC (k:=K+1) (by omega)).2
  have Pq:=(DY hC (k:=K) (by omega)).2
  rw[←hr1]at TU k3
  rw[←yL]at Pq k4
  refine aC X [] [(37,⟨false,[aA (delay x 60)]⟩)] [3,4,5] [] rfl (by(repeat' with_reducible first|exact aK|refine aQ ?_ ?_|apply And.intro)<;>first|exact(hJ x 60 hC)|exact fun _=>(hJ x 60 hC)|exact fun _ _=>(hJ x 60 hC)| (intros;omega)|exact rfl|exact aP _ (by decide)|exact⟨rfl,aP _ (by decide)⟩| ((intro h1;first| (intro h2;first| (intro h3;refine And.intro ?_ ?_)|refine And.intro ?_ ?_)|refine And.intro ?_ ?_)<;>first|omega| ((try simp only[aR]at*);(try simp(disch:=omega) only[bh]);omega))| ((try simp only[aR]at*);(simp(disch:=omega) only[bh]);omega)| (refine fun _=> ?_;dsimp only[hyps,cV];omega)| (refine fun _ _=> ?_;dsimp only[hyps,cV];omega)|exact(eP _).1|exact(eP _).2|exact(jY _).1|exact(jY _).2| (simp only[cK,maxLen,lens];omega)| (intros;simp only[nb]at*;omega)) ?_
  rw[k2]
  refine af (af ?_)
  have t1:=(hY x (IntKind.i64.wrap (((K+1:Nat):Int)-1)) hC)
  have t2:=(dZ (b9 x (qE (IntKind.i64.wrap (((K+1:Nat):Int)-1)))) Pq)
  refine aN X [] [(47,⟨false,[.agg (aU (b9 x (qE ((K+1:Nat):Int))))]⟩),(48,⟨false,[aG (ep (b9 x (qE ((K+1:Nat):Int))))]⟩),(55,⟨false,bM t1⟩),(56,⟨false,bM t2⟩)] [3,5,57] [] rfl (by(repeat' with_reducible first|exact aK|refine aQ ?_ ?_|apply And.intro);(iterate 4 all_goals try first|exact(hY x ((K+1:Nat):Int) hC)|exact fun _=>(hY x ((K+1:Nat):Int) hC)|exact fun _ _=>(hY x ((K+1:Nat):Int) hC)|exact(dZ (b9 x (qE ((K+1:Nat):Int))) TU)|exact fun _=>(dZ (b9 x (qE ((K+1:Nat):Int))) TU)|exact fun _ _=>(dZ (b9 x (qE ((K+1:Nat):Int))) TU)|exact t1|exact fun _=>t1|exact fun _ _=>t1|exact t2|exact fun _=>t2|exact fun _ _=>t2);all_goals first| (intros;omega)|exact rfl|exact aP _ (by decide)|exact⟨rfl,aP _ (by decide)⟩| ((intro h1;first| (intro h2;first| (intro h3;refine And.intro ?_ ?_)|refine And.intro ?_ ?_)|refine And.intro ?_ ?_)<;>first|omega| ((try simp only[aR]at*);(try simp(disch:=omega) only[bh]);omega))| ((try simp only[aR]at*);(simp(disch:=omega) only[bh]);omega)| (refine fun _=> ?_;dsimp only[hyps,cV];omega)| (refine fun _ _=> ?_;dsimp only[hyps,cV];omega)|exact(eP _).1|exact(eP _).2|exact(jY _).1|exact(jY _).2| (simp only[cK,maxLen,lens];omega)| (intros;simp only[nb]at*;omega)) ?_
  refine an rfl ?_ ?_<;>intro bf
  ·exact absurd bf (by rw[k3,k4,decide_eq_false (by omega)];decide)
  ·refine au (aC X [] [(59,⟨false,[aA (coll x)]⟩)] [3,5,6] [] rfl (by(repeat' with_reducible first|exact aK|refine aQ ?_ ?_|apply And.intro)<;>first|exact(gO x)|exact fun _=>(gO x)|exact fun _ _=>(gO x)| (intros;omega)|exact rfl|exact aP _ (by decide)|exact⟨rfl,aP _ (by decide)⟩| ((intro h1;first| (intro h2;first| (intro h3;refine And.intro ?_ ?_)|refine And.intro ?_ ?_)|refine And.intro ?_ ?_)<;>first|omega| ((try simp only[aR]at*);(try simp(disch:=omega) only[bh]);omega))| ((try simp only[aR]at*);(simp(disch:=omega) only[bh]);omega)| (refine fun _=> ?_;dsimp only[hyps,cV];omega)| (refine fun _ _=> ?_;dsimp only[hyps,cV];omega)|exact(eP _).1|exact(eP _).2|exact(jY _).1|exact(jY _).2| (simp only[cK,maxLen,lens];omega)| (intros;simp only[nb]at*;omega)) ?_)
   refine aC X [] [(72,⟨false,[aA (delay x 0)]⟩)] [2] [] rfl (by(repeat' with_reducible first|exact aK|refine aQ ?_ ?_|apply And.intro)<;>first|exact(hJ x 0 hC)|exact fun _=>(hJ x 0 hC)|exact fun _ _=>(hJ x 0 hC)| (intros;omega)|exact rfl|exact aP _ (by decide)|exact⟨rfl,aP _ (by decide)⟩| ((intro h1;first| (intro h2;first| (intro h3;refine And.intro ?_ ?_)|refine And.intro ?_ ?_)|refine And.intro ?_ ?_)<;>first|omega| ((try simp only[aR]at*);(try simp(disch:=omega) only[bh]);omega))| ((try simp only[aR]at*);(simp(disch:=omega) only[bh]);omega)| (refine fun _=> ?_;dsimp only[hyps,cV];omega)| (refine fun _ _=> ?_;dsimp only[hyps,cV];omega)|exact(eP _).1|exact(eP _).2|exact(jY _).1|exact(jY _).2| (simp only[cK,maxLen,lens];omega)| (intros;simp only[nb]at*;omega)) ?_
   exact ak (ah rfl ⟨congrArg Value.bool (Zf (k6.imp (fun h=>⟨h.1,by omega⟩) id) k5),⟨⟩⟩)
end
end Go.Proofs.YtkcegdacbddipaaGreat.G
