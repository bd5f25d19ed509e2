/-
  FnHostileServersReplaced: the law, walked by the symbolic machine: it returns true. No condition.
-/
import Derived.Test.YtkcegdacbddipaaGreatP12
import Derived.Test.YtkcegdacbddipaaGreatP14
open And renaming intro→aO
open Go.IntKind renaming u8→cE
open Int renaming le_refl→fE,toNat→cL,toNat_natCast→jc
open List renaming length→aQ,take_of_length_le→aB
open Nat renaming le_trans→dy,zero_le→aD
namespace Go.Proofs.YtkcegdacbddipaaGreat.G
set_option linter.all false
open Go.RowKit L D Tryz
section
set_option maxRecDepth 100000
theorem akD{a b:List Int}{k:Nat}(h3: ¬a.getD k (aP .int)=b.getD k (aP .int)):(a==b)=false:=by
 rw[beq_eq_false_iff_ne]
 intro h
 rw[h]at h3
 exact h3 rfl
theorem mD(x:ck)(c:Int)(hd:x.af.length≤1048576)(hin:fU aQ (J7 x c)≤1048576):So 20 [.agg (b7 x),aM c] [.a (.lit (.string (PZ x c)))]:=by
 refine aC X call20 func20 ntmps20 rfl rfl ?_
 intro zb
 have RE:fU aQ (x.af.getD c.toNat (aP .cz)).live.inbox≤1048576:=hin
 have hnl:=gr RE
 refine aF X [1,2] rfl (ah (aS X [] [(10,⟨false,[bl (rF x c)]⟩)] [1,2,22] [] rfl (by(repeat' with_reducible first|exact bF|refine bJ ?_ ?_|apply aO);(iterate 2 all_goals try first|exact(jd x c)|exact fun _=>(jd x c)|exact fun _ _=>(jd x c)|exact(fun h=>R3 hd h)|exact fun _=>(fun h=>R3 hd h)|exact fun _ _=>(fun h=>R3 hd h));all_goals first| (intros;omega)|exact rfl|exact bM _ (by decide)|exact⟨rfl,bM _ (by decide)⟩| ((intro h1;first| (intro h2;first| (intro h3;refine aO ?_ ?_)|refine aO ?_ ?_)|refine aO ?_ ?_)<;>first|omega| ((try simp only[bO]at*);(try simp(disch:=omega) only[cV]);omega))| ((try simp only[bO]at*);(simp(disch:=omega) only[cV]);omega)| (refine fun _=> ?_;dsimp only[hyps,iH];omega)| (refine fun _ _=> ?_;dsimp only[hyps,iH];omega)|exact(kA _).1|exact(kA _).2|exact(uA _).1|exact(uA _).2| (simp only[gb,maxLen,lens];omega)| (intros;simp only[nb]at*;omega)) ?_))
 refine aA rfl ?_ ?_<;>intro hb0
 ·have hkr:M3 x c=false:=dG hb0 (by simp only[M3,J7,bG]<;>first|rfl|ac_rfl)
  exact aF X [4] rfl (az (aj rfl ⟨by rw[PZ,hkr];rfl,⟨⟩⟩))
 ·have hkr:M3 x c=true:=dF hb0 (by simp only[M3,J7,bG]<;>first|rfl|ac_rfl)
  have hr:=ah7 hd hkr
  refine aE (aT X [1,2,5] rfl (by and_intros<;>first|exact⟨⟩| (intros;omega)|exact rfl|exact bM _ (by decide)|exact⟨rfl,bM _ (by decide)⟩| ((intro h1;first| (intro h2;first| (intro h3;refine aO ?_ ?_)|refine aO ?_ ?_)|refine aO ?_ ?_)<;>first|omega| ((try simp only[bO]at*);(try simp(disch:=omega) only[cV]);omega))| ((try simp only[bO]at*);(simp(disch:=omega) only[cV]);omega)| (refine fun _=> ?_;dsimp only[hyps,iH];omega)| (refine fun _ _=> ?_;dsimp only[hyps,iH];omega)|exact(kA _).1|exact(kA _).2|exact(uA _).1|exact(uA _).2| (simp only[gb,maxLen,lens];omega)| (intros;simp only[nb]at*;omega)) ?_)
  refine ah (aT X [5,30,31,32] rfl (by and_intros<;>first|exact⟨⟩| (intros;omega)|exact rfl|exact bM _ (by decide)|exact⟨rfl,bM _ (by decide)⟩| ((intro h1;first| (intro h2;first| (intro h3;refine aO ?_ ?_)|refine aO ?_ ?_)|refine aO ?_ ?_)<;>first|omega| ((try simp only[bO]at*);(try simp(disch:=omega) only[cV]);omega))| ((try simp only[bO]at*);(simp(disch:=omega) only[cV]);omega)| (refine fun _=> ?_;dsimp only[hyps,iH];omega)| (refine fun _ _=> ?_;dsimp only[hyps,iH];omega)|exact(kA _).1|exact(kA _).2|exact(uA _).1|exact(uA _).2| (simp only[gb,maxLen,lens];omega)| (intros;simp only[nb]at*;omega)) ?_)
  refine aG (aW (fun k=>k≤(x.af.getD c.toNat (aP .cz)).live.inbox.length) (fun k:Nat=> [(32, .one ((aM k)))]) (fun k=> [(23, .arr .str ((x.af.getD c.toNat (aP .cz)).live.inbox.take k))]) (fun k=>(x.af.getD c.toNat (aP .cz)).live.inbox.length-k) 0 (fun k=>rfl) (aD _) rfl ?_)
  intro k hk
  have htl:((x.af.getD c.toNat (aP .cz)).live.inbox.take k).length≤1048576:=by rw[List.length_take];omega
  refine aF X [5,30,31,32,33] rfl ?_
  refine ah (aA rfl ?_ ?_)<;>intro cx
  ·try simp only[bO]at cx
   have hs:=cM (x.af.getD c.toNat (aP .cz)).live.inbox k (aP (.sl .u8)) cx
   have hy:=aeh RE cx
   refine aE (ah (aG (aT X [5,7,30,31,32] rfl (by and_intros<;>first|exact⟨⟩| (intros;omega)|exact rfl|exact bM _ (by decide)|exact⟨rfl,bM _ (by decide)⟩| ((intro h1;first| (intro h2;first| (intro h3;refine aO ?_ ?_)|refine aO ?_ ?_)|refine aO ?_ ?_)<;>first|omega| ((try simp only[bO]at*);(try simp(disch:=omega) only[cV]);omega))| ((try simp only[bO]at*);(simp(disch:=omega) only[cV]);omega)| (refine fun _=> ?_;dsimp only[hyps,iH];omega)| (refine fun _ _=> ?_;dsimp only[hyps,iH];omega)|exact(kA _).1|exact(kA _).2|exact(uA _).1|exact(uA _).2| (simp only[gb,maxLen,lens];omega)| (intros;simp only[nb]at*;omega)) ?_)))
   refine bH X [(40,23)] [] [5,30,31,32] [] rfl (by(repeat' with_reducible first|exact bF|refine bJ ?_ ?_|apply aO)<;>first|exact(by rw[D0,jc];unfold maxLen;omega)|exact fun _=>(by rw[D0,jc];unfold maxLen;omega)|exact fun _ _=>(by rw[D0,jc];unfold maxLen;omega)| (intros;omega)|exact rfl|exact bM _ (by decide)|exact⟨rfl,bM _ (by decide)⟩| ((intro h1;first| (intro h2;first| (intro h3;refine aO ?_ ?_)|refine aO ?_ ?_)|refine aO ?_ ?_)<;>first|omega| ((try simp only[bO]at*);(try simp(disch:=omega) only[cV]);omega))| ((try simp only[bO]at*);(simp(disch:=omega) only[cV]);omega)| (refine fun _=> ?_;dsimp only[hyps,iH];omega)| (refine fun _ _=> ?_;dsimp only[hyps,iH];omega)|exact(kA _).1|exact(kA _).2|exact(uA _).1|exact(uA _).2| (simp only[gb,maxLen,lens];omega)| (intros;simp only[nb]at*;omega)) ?_
   refine cW X [5,30,31,32] rfl ?_
   refine⟨k+1,by omega,by omega,?_⟩
   rw[dh _ k rfl (by omega),hs]
   try rfl
  ·try simp only[bO]at cx
   have ht:(x.af.getD c.toNat (aP .cz)).live.inbox.take k=(x.af.getD c.toNat (aP .cz)).live.inbox:=aB cx
   refine bp (aS X [] [(43,⟨false,[.a (.lit (.string (sk (Lib.join ((x.af.getD c.toNat (aP .cz)).live.inbox.take k) [124]))))]⟩)] [4] [] rfl (by(repeat' with_reducible first|exact bF|refine bJ ?_ ?_|apply aO)<;>first|exact(tB _ 124 (by rw[ht];exact dy RE (by decide)))|exact fun _=>(tB _ 124 (by rw[ht];exact dy RE (by decide)))|exact fun _ _=>(tB _ 124 (by rw[ht];exact dy RE (by decide)))| (intros;omega)|exact rfl|exact bM _ (by decide)|exact⟨rfl,bM _ (by decide)⟩| ((intro h1;first| (intro h2;first| (intro h3;refine aO ?_ ?_)|refine aO ?_ ?_)|refine aO ?_ ?_)<;>first|omega| ((try simp only[bO]at*);(try simp(disch:=omega) only[cV]);omega))| ((try simp only[bO]at*);(simp(disch:=omega) only[cV]);omega)| (refine fun _=> ?_;dsimp only[hyps,iH];omega)| (refine fun _ _=> ?_;dsimp only[hyps,iH];omega)|exact(kA _).1|exact(kA _).2|exact(uA _).1|exact(uA _).2| (simp only[gb,maxLen,lens];omega)| (intros;simp only[nb]at*;omega)) ?_)
   exact az (aj rfl ⟨by rw[ht,PZ,hkr];rfl,⟨⟩⟩)
theorem fZ(x:ck)(hl:x.av.length≤1048576):So 16 [.agg (b7 x)] [.a (.sl .int (kH x.av))]:=by
 refine aC X call16 func16 ntmps16 rfl rfl ?_
 intro zb
 refine aF X [1] rfl (aT X [1,3] rfl (by and_intros<;>first|exact⟨⟩| (intros;omega)|exact rfl|exact bM _ (by decide)|exact⟨rfl,bM _ (by decide)⟩| ((intro h1;first| (intro h2;first| (intro h3;refine aO ?_ ?_)|refine aO ?_ ?_)|refine aO ?_ ?_)<;>first|omega| ((try simp only[bO]at*);(try simp(disch:=omega) only[cV]);omega))| ((try simp only[bO]at*);(simp(disch:=omega) only[cV]);omega)| (refine fun _=> ?_;dsimp only[hyps,iH];omega)| (refine fun _ _=> ?_;dsimp only[hyps,iH];omega)|exact(kA _).1|exact(kA _).2|exact(uA _).1|exact(uA _).2| (simp only[gb,maxLen,lens];omega)| (intros;simp only[nb]at*;omega)) ?_)
 refine ah (aF X [3,8,9,10] rfl ?_)
 refine aG (aW (fun k=>k≤x.av.length) (fun k:Nat=> [(10, .one ((aM k)))]) (fun k=> [(6, .arr .int (kH (x.av.take k)))]) (fun k=>x.av.length-k) 0 (fun k=>rfl) (aD _) rfl ?_)
 intro k hk
 have hle:=R4 x.av k
 refine aF X [3,8,9,10,11] rfl ?_
 refine ah (aA rfl ?_ ?_)<;>intro hb0
 ·try simp only[bO]at hb0
  have hs:=Dm x.av k hb0
  refine aE (ah (aG (aT X [3,5,8,9,10] rfl (by and_intros<;>first|exact⟨⟩| (intros;omega)|exact rfl|exact bM _ (by decide)|exact⟨rfl,bM _ (by decide)⟩| ((intro h1;first| (intro h2;first| (intro h3;refine aO ?_ ?_)|refine aO ?_ ?_)|refine aO ?_ ?_)<;>first|omega| ((try simp only[bO]at*);(try simp(disch:=omega) only[cV]);omega))| ((try simp only[bO]at*);(simp(disch:=omega) only[cV]);omega)| (refine fun _=> ?_;dsimp only[hyps,iH];omega)| (refine fun _ _=> ?_;dsimp only[hyps,iH];omega)|exact(kA _).1|exact(kA _).2|exact(uA _).1|exact(uA _).2| (simp only[gb,maxLen,lens];omega)| (intros;simp only[nb]at*;omega)) ?_)))
  refine aF X [3,5,8,9,10,16] rfl ?_
  refine aA rfl ?_ ?_<;>intro cx
  ·try simp only[bO]at cx
   refine bH X [(21,6)] [] [3,8,9,10] [] rfl (by and_intros<;>first|exact⟨⟩| (intros;omega)|exact rfl|exact bM _ (by decide)|exact⟨rfl,bM _ (by decide)⟩| ((intro h1;first| (intro h2;first| (intro h3;refine aO ?_ ?_)|refine aO ?_ ?_)|refine aO ?_ ?_)<;>first|omega| ((try simp only[bO]at*);(try simp(disch:=omega) only[cV]);omega))| ((try simp only[bO]at*);(simp(disch:=omega) only[cV]);omega)| (refine fun _=> ?_;dsimp only[hyps,iH];omega)| (refine fun _ _=> ?_;dsimp only[hyps,iH];omega)|exact(kA _).1|exact(kA _).2|exact(uA _).1|exact(uA _).2| (simp only[gb,maxLen,lens];omega)| (intros;simp only[nb]at*;omega)) ?_
   refine cW X [3,8,9,10] rfl ?_
   refine⟨k+1,by omega,by omega,?_⟩
   rw[dh _ k rfl (by omega),hs,if_pos cx]
   try rfl
  ·try simp only[bO]at cx
   refine aE (cW X [3,8,9,10] rfl ?_)
   refine⟨k+1,by omega,by omega,?_⟩
   rw[dh _ k rfl (by omega),hs,if_neg (by simpa using cx),List.append_nil]
   try rfl
 ·try simp only[bO]at hb0
  exact bp (aF X [2] rfl (az (aj rfl ⟨by rw[aB hb0],⟨⟩⟩)))
theorem Bx(a b:List Int)(hl:a.length≤1048576):So 17 [.a (.sl .int a), .a (.sl .int b)] [bl (a==b)]:=by
 refine aC X call17 func17 ntmps17 rfl rfl ?_
 intro zb
 refine aF X [0,1] rfl (ah (aF X [0,1,10] rfl ?_))
 refine aA rfl ?_ ?_<;>intro hb0
 ·try simp only[bO]at hb0
  have hne:(a==b)=false:=by rw[beq_eq_false_iff_ne];intro h;rw[h]at hb0;omega
  exact aF X [4] rfl (az (aj rfl ⟨by rw[hne],⟨⟩⟩))
 ·try simp only[bO]at hb0
  have hlen:a.length=b.length:=by omega
  refine aE (ah (aF X [0,1,5] rfl ?_))
  refine aG (aW (fun k=>k≤a.length∧a.take k=b.take k) (fun k:Nat=> [(5, .one ((aM k)))]) (fun k=> []) (fun k=>a.length-k) 0 (fun k=>rfl) ⟨aD _,by simp⟩ rfl ?_)
  rintro k ⟨hk,hall⟩
  refine ah (aF X [0,1,5,14] rfl ?_)
  refine aA rfl ?_ ?_<;>intro cx
  ·try simp only[bO]at cx
   refine aE (ah (aG (ah (aX X [] [] [0,1,5,25] [] 511 0 MO (by kernel_rfl) rfl (by kernel_rfl) (by and_intros<;>first|exact⟨⟩| (intros;omega)|exact rfl|exact bM _ (by decide)|exact⟨rfl,bM _ (by decide)⟩| ((intro h1;first| (intro h2;first| (intro h3;refine aO ?_ ?_)|refine aO ?_ ?_)|refine aO ?_ ?_)<;>first|omega| ((try simp only[bO]at*);(try simp(disch:=omega) only[cV]);omega))| ((try simp only[bO]at*);(simp(disch:=omega) only[cV]);omega)| (refine fun _=> ?_;dsimp only[hyps,iH];omega)| (refine fun _ _=> ?_;dsimp only[hyps,iH];omega)|exact(kA _).1|exact(kA _).2|exact(uA _).1|exact(uA _).2| (simp only[gb,maxLen,lens];omega)| (intros;simp only[nb]at*;omega)) ?_))))
   refine aA rfl ?_ ?_<;>intro dY
   ·try simp only[bO]at dY
    have hne:(a==b)=false:=akD (k:=k) dY
    exact aF X [4] rfl (az (aj rfl ⟨by rw[hne],⟨⟩⟩))
   ·try simp only[bO]at dY
    have he:a.getD k (aP .int)=b.getD k (aP .int):=by omega
    refine aE (cW X [0,1,5] rfl ?_)
    refine⟨k+1,⟨by omega,rD a b (aP .int) k cx (by omega) hall he⟩,by omega,?_⟩
    rw[dh _ k rfl (by omega)]
    try rfl
  ·try simp only[bO]at cx
   exact bp (aF X [4] rfl (az (aj rfl ⟨by rw[vV a b k (by omega) (by omega) hall],⟨⟩⟩)))
theorem jT(x:ck):So 18 [.agg (b7 x)] [aM (x.replaced.length:Int)]:=by
 refine aC X call18 func18 ntmps18 rfl rfl ?_
 intro zb
 exact dn 0 8 rfl rfl (fun ru=>(aF X [1] rfl (aF X [2] rfl (az (aj rfl ⟨rfl,⟨⟩⟩)))))
end
section
set_option maxRecDepth 100000
theorem aii{b c:Int}(h:c=if b=3 then 0 else 1):((b==3)==(c==0))=true:=by
 subst h
 by_cases e:b=3
 ·subst e;rfl
 ·rw[if_neg e,show(b==3)=false from by rw[beq_eq_false_iff_ne];exact e];rfl
set_option maxHeartbeats 1000000 in
theorem tC(x0:List UInt8)(apG:(fun l=> ∀x,x∈l→(fun _=>True) x) x0):So 4 [.a (.sl .u8 x0)] [bl true]:=by
 refine aC X call4 func4 ntmps4 rfl rfl ?_
 intro zb
 refine aF X [0] rfl (ah (aS X [] [(12,⟨false,[bl (decide ((1048576:Int)<(x0.length:Int)))]⟩)] [0,12] [] rfl (by(repeat' with_reducible first|exact bF|refine bJ ?_ ?_|apply aO)<;>first|exact(aah x0)|exact fun _=>(aah x0)|exact fun _ _=>(aah x0)| (intros;omega)|exact rfl|exact bM _ (by decide)|exact⟨rfl,bM _ (by decide)⟩| ((intro h1;first| (intro h2;first| (intro h3;refine aO ?_ ?_)|refine aO ?_ ?_)|refine aO ?_ ?_)<;>first|omega| ((try simp only[bO]at*);(try simp(disch:=omega) only[cV]);omega))| ((try simp only[bO]at*);(simp(disch:=omega) only[cV]);omega)| (refine fun _=> ?_;dsimp only[hyps,iH];omega)| (refine fun _ _=> ?_;dsimp only[hyps,iH];omega)|exact(kA _).1|exact(kA _).2|exact(uA _).1|exact(uA _).2| (simp only[gb,maxLen,lens];omega)| (intros;simp only[nb]at*;omega)) ?_))
 refine aA rfl ?_ ?_<;>intro hb0
 ·try simp only[bO]at hb0
  exact aF X [2] rfl (az (aj rfl ⟨rfl,⟨⟩⟩))
 ·try simp only[bO]at hb0
  have hl:x0.length≤1048576:=by omega
  have a0:=T6 x0 (i:=0) hl (by decide)
  have a1:=T6 x0 (i:=1) hl (by decide)
  have a2:=T6 x0 (i:=2) hl (by decide)
  have a3:=T6 x0 (i:=3) hl (by decide)
  have b2:=aag (n:=3) a2.1 (by decide)
  have b3:=aag (n:=3) a3.1 (by decide)
  obtain⟨q,hq⟩: ∃q:Nat,(BA x0 0)=(q:Int):=⟨(BA x0 0).toNat,by omega⟩
  have LO:q<256:=by omega
  obtain⟨k,hk⟩: ∃k:Nat,(BA x0 3).tmod 3=(k:Int):=⟨((BA x0 3).tmod 3).toNat,by omega⟩
  have hk2:k<3:=by omega
  obtain⟨bb,hbb⟩: ∃bb:Int,(IntKind.i64.wrap (1+(BA x0 2).tmod 3))=bb:=⟨_,rfl⟩
  have dY:bb=1∨bb=2∨bb=3:=by(rw[cV (by omega)]at hbb;omega)
  obtain⟨f1,f2,f3,f7⟩:=aie (seed:=q) (k:=k) (bt:=(b8 (BA x0 1))) (b:=bb) hk2 dY (aaX LO)
  have hw:okW (jC 24 3 1 (q:Int))=true:=T1 (by decide) (by decide) (by decide)
  have hD0:De (jC 24 3 1 (q:Int)) 0:=⟨hw,fE 0,fE 0,Nat.le_refl 0⟩
  have hwb:=hD0.B (by decide)
  have hD1:De (w6 (jC 24 3 1 (q:Int)) 0 [(b8 (BA x0 1)),5]) 0:=hD0.sm
  have hR1:=hD1.R (by decide)
  have hD2:=hD1.rd (by decide)
  have hB2:=hD2.B (by decide)
  refine aE (aS X [] [(14,⟨false,[aM (BA x0 0)]⟩),(15,⟨false,[.agg (b7 (jC 24 (3:Int).toNat (1:Int).toNat (BA x0 0)))]⟩)] [0,3] [] rfl (by(repeat' with_reducible first|exact bF|refine bJ ?_ ?_|apply aO);(iterate 2 all_goals try first|exact(xz x0 0 (by decide))|exact fun _=>(xz x0 0 (by decide))|exact fun _ _=>(xz x0 0 (by decide))|exact(qQ 24 3 1 (BA x0 0) (by decide) (by decide) (by decide))|exact fun _=>(qQ 24 3 1 (BA x0 0) (by decide) (by decide) (by decide))|exact fun _ _=>(qQ 24 3 1 (BA x0 0) (by decide) (by decide) (by decide)));all_goals first| (intros;omega)|exact rfl|exact bM _ (by decide)|exact⟨rfl,bM _ (by decide)⟩| ((intro h1;first| (intro h2;first| (intro h3;refine aO ?_ ?_)|refine aO ?_ ?_)|refine aO ?_ ?_)<;>first|omega| ((try simp only[bO]at*);(try simp(disch:=omega) only[cV]);omega))| ((try simp only[bO]at*);(simp(disch:=omega) only[cV]);omega)| (refine fun _=> ?_;dsimp only[hyps,iH];omega)| (refine fun _ _=> ?_;dsimp only[hyps,iH];omega)|exact(kA _).1|exact(kA _).2|exact(uA _).1|exact(uA _).2| (simp only[gb,maxLen,lens];omega)| (intros;simp only[nb]at*;omega)) ?_)
  rw[hq,show(cL 3)=3 from rfl,show(cL 1)=1 from rfl]
  refine ah ?_
  have t1:=(zf (jC 24 3 1 (q:Int)) 0 [(b8 (BA x0 1)),5] hwb (by show 2≤1048576;decide))
  refine aX X [] [(19,⟨false,[aM (BA x0 1)]⟩),(22,⟨false,dH t1⟩)] [0,3,4] [] 1535 1 MO (by kernel_rfl) rfl (by kernel_rfl) (by(repeat' with_reducible first|exact bF|refine bJ ?_ ?_|apply aO);(iterate 3 all_goals try first|exact(xz x0 1 (by decide))|exact fun _=>(xz x0 1 (by decide))|exact fun _ _=>(xz x0 1 (by decide))|exact t1|exact fun _=>t1|exact fun _ _=>t1|exact(by(show qK [P7 Tryz.prog ty .u8 5,0≤cE.wrap (BA x0 1)∧cE.wrap (BA x0 1)<256,0≤(5:Int)∧(5:Int)<256,_]);exact⟨⟨rfl,bM _ (by decide)⟩,by(rw[AX];omega),by decide,xz x0 1 (by decide),⟨⟩⟩)|exact fun _=>(by(show qK [P7 Tryz.prog ty .u8 5,0≤cE.wrap (BA x0 1)∧cE.wrap (BA x0 1)<256,0≤(5:Int)∧(5:Int)<256,_]);exact⟨⟨rfl,bM _ (by decide)⟩,by(rw[AX];omega),by decide,xz x0 1 (by decide),⟨⟩⟩)|exact fun _ _=>(by(show qK [P7 Tryz.prog ty .u8 5,0≤cE.wrap (BA x0 1)∧cE.wrap (BA x0 1)<256,0≤(5:Int)∧(5:Int)<256,_]);exact⟨⟨rfl,bM _ (by decide)⟩,by(rw[AX];omega),by decide,xz x0 1 (by decide),⟨⟩⟩));all_goals first| (intros;omega)|exact rfl|exact bM _ (by decide)|exact⟨rfl,bM _ (by decide)⟩| ((intro h1;first| (intro h2;first| (intro h3;refine aO ?_ ?_)|refine aO ?_ ?_)|refine aO ?_ ?_)<;>first|omega| ((try simp only[bO]at*);(try simp(disch:=omega) only[cV]);omega))| ((try simp only[bO]at*);(simp(disch:=omega) only[cV]);omega)| (refine fun _=> ?_;dsimp only[hyps,iH];omega)| (refine fun _ _=> ?_;dsimp only[hyps,iH];omega)|exact(kA _).1|exact(kA _).2|exact(uA _).1|exact(uA _).2| (simp only[gb,maxLen,lens];omega)| (intros;simp only[nb]at*;omega)) ?_
  rw[f1]
  generalize (w6 (jC 24 3 1 (q:Int)) 0 [(b8 (BA x0 1)),5])=u at f2 f3 f7 hR1 hB2 ⊢
  refine aS X [] [(26,⟨false,[.agg (b7 (dc u))]⟩)] [0,3,4] [] rfl (by(repeat' with_reducible first|exact bF|refine bJ ?_ ?_|apply aO)<;>first|exact(qP u hR1)|exact fun _=>(qP u hR1)|exact fun _ _=>(qP u hR1)| (intros;omega)|exact rfl|exact bM _ (by decide)|exact⟨rfl,bM _ (by decide)⟩| ((intro h1;first| (intro h2;first| (intro h3;refine aO ?_ ?_)|refine aO ?_ ?_)|refine aO ?_ ?_)<;>first|omega| ((try simp only[bO]at*);(try simp(disch:=omega) only[cV]);omega))| ((try simp only[bO]at*);(simp(disch:=omega) only[cV]);omega)| (refine fun _=> ?_;dsimp only[hyps,iH];omega)| (refine fun _ _=> ?_;dsimp only[hyps,iH];omega)|exact(kA _).1|exact(kA _).2|exact(uA _).1|exact(uA _).2| (simp only[gb,maxLen,lens];omega)| (intros;simp only[nb]at*;omega)) ?_
  generalize dc u=w at f2 f3 f7 hB2 ⊢
  refine aS X [] [(28,⟨false,[aM (BA x0 2)]⟩)] [0,3,4,5] [] rfl (by(repeat' with_reducible first|exact bF|refine bJ ?_ ?_|apply aO)<;>first|exact(xz x0 2 (by decide))|exact fun _=>(xz x0 2 (by decide))|exact fun _ _=>(xz x0 2 (by decide))| (intros;omega)|exact rfl|exact bM _ (by decide)|exact⟨rfl,bM _ (by decide)⟩| ((intro h1;first| (intro h2;first| (intro h3;refine aO ?_ ?_)|refine aO ?_ ?_)|refine aO ?_ ?_)<;>first|omega| ((try simp only[bO]at*);(try simp(disch:=omega) only[cV]);omega))| ((try simp only[bO]at*);(simp(disch:=omega) only[cV]);omega)| (refine fun _=> ?_;dsimp only[hyps,iH];omega)| (refine fun _ _=> ?_;dsimp only[hyps,iH];omega)|exact(kA _).1|exact(kA _).2|exact(uA _).1|exact(uA _).2| (simp only[gb,maxLen,lens];omega)| (intros;simp only[nb]at*;omega)) ?_
  rw[hbb]
  refine aS X [] [(32,⟨false,[aM (BA x0 3)]⟩)] [0,3,4,5,6] [] rfl (by(repeat' with_reducible first|exact bF|refine bJ ?_ ?_|apply aO)<;>first|exact(xz x0 3 (by decide))|exact fun _=>(xz x0 3 (by decide))|exact fun _ _=>(xz x0 3 (by decide))| (intros;omega)|exact rfl|exact bM _ (by decide)|exact⟨rfl,bM _ (by decide)⟩| ((intro h1;first| (intro h2;first| (intro h3;refine aO ?_ ?_)|refine aO ?_ ?_)|refine aO ?_ ?_)<;>first|omega| ((try simp only[bO]at*);(try simp(disch:=omega) only[cV]);omega))| ((try simp only[bO]at*);(simp(disch:=omega) only[cV]);omega)| (refine fun _=> ?_;dsimp only[hyps,iH];omega)| (refine fun _ _=> ?_;dsimp only[hyps,iH];omega)|exact(kA _).1|exact(kA _).2|exact(uA _).1|exact(uA _).2| (simp only[gb,maxLen,lens];omega)| (intros;simp only[nb]at*;omega)) ?_
  rw[hk]
  refine ah ?_
  have t1:=(ze w (k:Int) bb hB2)
  refine bH X [] [(38,⟨false,dH t1⟩)] [0,4,5,6,7,8] [] rfl (by(repeat' with_reducible first|exact bF|refine bJ ?_ ?_|apply aO)<;>first|exact t1|exact fun _=>t1|exact fun _ _=>t1| (intros;omega)|exact rfl|exact bM _ (by decide)|exact⟨rfl,bM _ (by decide)⟩| ((intro h1;first| (intro h2;first| (intro h3;refine aO ?_ ?_)|refine aO ?_ ?_)|refine aO ?_ ?_)<;>first|omega| ((try simp only[bO]at*);(try simp(disch:=omega) only[cV]);omega))| ((try simp only[bO]at*);(simp(disch:=omega) only[cV]);omega)| (refine fun _=> ?_;dsimp only[hyps,iH];omega)| (refine fun _ _=> ?_;dsimp only[hyps,iH];omega)|exact(kA _).1|exact(kA _).2|exact(uA _).1|exact(uA _).2| (simp only[gb,maxLen,lens];omega)| (intros;simp only[nb]at*;omega)) ?_
  rw[f2]
  generalize Bz w (k:Int) bb=x at f3 f7 ⊢
  have hC:wC x 4100000:=rJ f7.C (by decide)
  have hwx:=f7.B (by decide)
  have hsx:=FB hwx
  refine aS X [] [(42,⟨false,[.agg (b7 (jX x (Ge 2)))]⟩)] [0,4,5,6,7,8,9] [] rfl (by(repeat' with_reducible first|exact bF|refine bJ ?_ ?_|apply aO)<;>first|exact(mj x 2 hC)|exact fun _=>(mj x 2 hC)|exact fun _ _=>(mj x 2 hC)| (intros;omega)|exact rfl|exact bM _ (by decide)|exact⟨rfl,bM _ (by decide)⟩| ((intro h1;first| (intro h2;first| (intro h3;refine aO ?_ ?_)|refine aO ?_ ?_)|refine aO ?_ ?_)<;>first|omega| ((try simp only[bO]at*);(try simp(disch:=omega) only[cV]);omega))| ((try simp only[bO]at*);(simp(disch:=omega) only[cV]);omega)| (refine fun _=> ?_;dsimp only[hyps,iH];omega)| (refine fun _ _=> ?_;dsimp only[hyps,iH];omega)|exact(kA _).1|exact(kA _).2|exact(uA _).1|exact(uA _).2| (simp only[gb,maxLen,lens];omega)| (intros;simp only[nb]at*;omega)) ?_
  rw[show Ge 2=2 from by decide]
  have hC2:=rJ (MJ f7.C 2) (show 8*1+8*2≤1000 by decide)
  generalize jX x 2=y at f3 hC2 ⊢
  have hwy:=Pj hC2 (by decide)
  have hsy:=FB hwy
  have hCy:wC y 4100000:=rJ hC2 (by decide)
  have hry:y.replaced.length≤1048576:=by(rw[f3.rp];show 1≤1048576;decide)
  refine ah (ah (Uq X [] [(51,⟨false,[.a (.sl .int (kH x.av))]⟩),(57,⟨false,[.a (.sl .int (kH y.av))]⟩),(66,⟨false,[bl (y.replaced== [(k:Int)])]⟩),(71,⟨false,[aM (y.replaced.length:Int)]⟩),(1100045,⟨false,[]⟩),(1100049,⟨false,[]⟩),(1100055,⟨false,[]⟩),(1100061,⟨false,[]⟩),(1100069,⟨false,[]⟩)] [0,5,9,73] [] rfl (by(repeat' with_reducible first|exact bF|refine bJ ?_ ?_|apply aO);(iterate 7 all_goals try first|exact(fZ x hsx)|exact fun _=>(fZ x hsx)|exact fun _ _=>(fZ x hsx)|exact(fZ y hsy)|exact fun _=>(fZ y hsy)|exact fun _ _=>(fZ y hsy)|exact(Bx y.replaced [(k:Int)] hry)|exact fun _=>(Bx y.replaced [(k:Int)] hry)|exact fun _ _=>(Bx y.replaced [(k:Int)] hry)|exact(jT y)|exact fun _=>(jT y)|exact fun _ _=>(jT y)|exact(by rw[f3.hx];rfl)|exact fun _=>(by rw[f3.hx];rfl)|exact fun _ _=>(by rw[f3.hx];rfl)|exact(by rw[f3.hy];rfl)|exact fun _=>(by rw[f3.hy];rfl)|exact fun _ _=>(by rw[f3.hy];rfl)|exact(by rw[f3.rp,beq_self_eq_true];rfl)|exact fun _=>(by rw[f3.rp,beq_self_eq_true];rfl)|exact fun _ _=>(by rw[f3.rp,beq_self_eq_true];rfl));all_goals first| (intros;omega)|exact rfl|exact bM _ (by decide)|exact⟨rfl,bM _ (by decide)⟩| ((intro h1;first| (intro h2;first| (intro h3;refine aO ?_ ?_)|refine aO ?_ ?_)|refine aO ?_ ?_)<;>first|omega| ((try simp only[bO]at*);(try simp(disch:=omega) only[cV]);omega))| ((try simp only[bO]at*);(simp(disch:=omega) only[cV]);omega)| (refine fun _=> ?_;dsimp only[hyps,iH];omega)| (refine fun _ _=> ?_;dsimp only[hyps,iH];omega)|exact(kA _).1|exact(kA _).2|exact(uA _).1|exact(uA _).2| (simp only[gb,maxLen,lens];omega)| (intros;simp only[nb]at*;omega)) ?_))
  refine aA rfl ?_ ?_<;>intro cx
  ·exact absurd cx (by rw[f3.rp];simp)
  ·refine aE (aS X [] [(75,⟨false,[.agg (b7 (jX y (Ge (wA y))))]⟩)] [0,5,9,10] [] rfl (by(repeat' with_reducible first|exact bF|refine bJ ?_ ?_|apply aO)<;>first|exact(uE y hCy)|exact fun _=>(uE y hCy)|exact fun _ _=>(uE y hCy)| (intros;omega)|exact rfl|exact bM _ (by decide)|exact⟨rfl,bM _ (by decide)⟩| ((intro h1;first| (intro h2;first| (intro h3;refine aO ?_ ?_)|refine aO ?_ ?_)|refine aO ?_ ?_)<;>first|omega| ((try simp only[bO]at*);(try simp(disch:=omega) only[cV]);omega))| ((try simp only[bO]at*);(simp(disch:=omega) only[cV]);omega)| (refine fun _=> ?_;dsimp only[hyps,iH];omega)| (refine fun _ _=> ?_;dsimp only[hyps,iH];omega)|exact(kA _).1|exact(kA _).2|exact(uA _).1|exact(uA _).2| (simp only[gb,maxLen,lens];omega)| (intros;simp only[nb]at*;omega)) ?_)
   have hC3:=rJ (MJ hC2 (Ge (wA y))) (show 1000+8*Ge (wA y)≤10000 by have:=ZU (wA y);omega)
   generalize jX y (Ge (wA y))=z at f3 hC3 ⊢
   have hwz:=Pj hC3 (by decide)
   have hdz:=OW hwz
   have hiz:fU aQ (J7 z 1)≤1048576:=by(rw[f3.ib];show 1+(2+0)≤1048576;decide)
   refine ah (Uq X [] [(77,⟨false,[bl (zc z)]⟩),(80,⟨false,[.a (.lit (.string (PZ z 1)))]⟩),(82,⟨false,[aM (BA x0 1)]⟩),(1100078,⟨true,[]⟩),(1100088,⟨true,[]⟩),(1100093,⟨true,[]⟩)] [2] [] rfl (by(repeat' with_reducible first|exact bF|refine bJ ?_ ?_|apply aO);(iterate 6 all_goals try first|exact(tu z hdz)|exact fun _=>(tu z hdz)|exact fun _ _=>(tu z hdz)|exact(mD z 1 hdz hiz)|exact fun _=>(mD z 1 hdz hiz)|exact fun _ _=>(mD z 1 hdz hiz)|exact(xz x0 1 (by decide))|exact fun _=>(xz x0 1 (by decide))|exact fun _ _=>(xz x0 1 (by decide))|exact f3.qu|exact fun _=>f3.qu|exact fun _ _=>f3.qu|exact(by rw[f3.tx];exact beq_self_eq_true _)|exact fun _=>(by rw[f3.tx];exact beq_self_eq_true _)|exact fun _ _=>(by rw[f3.tx];exact beq_self_eq_true _)|exact(by rw[f3.ca];split<;>decide)|exact fun _=>(by rw[f3.ca];split<;>decide)|exact fun _ _=>(by rw[f3.ca];split<;>decide));all_goals first| (intros;omega)|exact rfl|exact bM _ (by decide)|exact⟨rfl,bM _ (by decide)⟩| ((intro h1;first| (intro h2;first| (intro h3;refine aO ?_ ?_)|refine aO ?_ ?_)|refine aO ?_ ?_)<;>first|omega| ((try simp only[bO]at*);(try simp(disch:=omega) only[cV]);omega))| ((try simp only[bO]at*);(simp(disch:=omega) only[cV]);omega)| (refine fun _=> ?_;dsimp only[hyps,iH];omega)| (refine fun _ _=> ?_;dsimp only[hyps,iH];omega)|exact(kA _).1|exact(kA _).2|exact(uA _).1|exact(uA _).2| (simp only[gb,maxLen,lens];omega)| (intros;simp only[nb]at*;omega)) ?_)
   exact az (aj rfl ⟨congrArg Value.bool (aii f3.ca),⟨⟩⟩)
end
end Go.Proofs.YtkcegdacbddipaaGreat.G
