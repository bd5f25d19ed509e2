/- Steps. -/
import Derived.Lib.AtoiErrMem
import Derived.Test.YtaalpcnbbldlaaaGreatDoorR16
import Derived.Test.YtaalpcnbbldlaaaGreatDoorR21
open And renaming intro→cL
open BitVec renaming ofInt→aF
open Go.IntKind renaming i64→af
open Go.Lib renaming atoi→Om,atoiAll_short→uC,countB→Au,idxOfS→Ua,itoa→bN
open Go.Value renaming string→mA
open List renaming getElem?_map→ec,length→aN,length_map→bt,take_of_length_le→aD
open Nat renaming le_refl→aS,zero_le→aY
namespace Go.Proofs.YtaalpcnbbldlaaaGreatDoor.G
set_option linter.all false
open Go.RowKit L D Tryz
section
set_option maxRecDepth 100000
theorem FY(x:dF)(c:Int)(hd:x.ah.length≤1048576)(hin:gb List.length (Gy x c)≤1048576):So 77 [.agg (bC x),aI c] [.a (.lit (.string (Hw x c)))]:=by
 refine aZ call77 func77 ntmps77 ?_;intro zb;have Zw:gb List.length (x.ah.getD c.toNat (aO .bR)).live.inbox≤1048576:=hin;have hnl:=fT Zw;refine O [1,2] J (bZ [(10,⟨false,[aX (n8 x c)]⟩)] [1,2,22] J (have u1:=(iH x c);(by(with_reducible and_intros);(iterate 2 all_goals try first|exact⟨⟩|exact u1|exact(fun h=>azn hd h)))) ?_);refine aM J ?_ ?_<;>intro hb0
 ·have hkr:Xx x c=false:=dy hb0 aqD;exact O [4] J (au (aj J ⟨by rw[Hw,hkr];rfl,⟨⟩⟩))
 ·have hkr:Xx x c=true:=dr hb0 aqD;have hr:=anS hd hkr;refine av (aL [1,2,5] J qb (aA (aL [5,30,31,32] J je ?_)));refine cm ((x.ah.getD c.toNat (aO .bR)).live.inbox.length) (fun k:Nat=> [(32, .one ((aI k)))]) (fun k=> [(23, .arr .str ((x.ah.getD c.toNat (aO .bR)).live.inbox.take k))]) (fun k=>rfl) rfl ?_;intro k hk;have htl:((x.ah.getD c.toNat (aO .bR)).live.inbox.take k).length≤1048576:=by rw[List.length_take];omega
  refine O [5,30,31,32,33] J ?_;refine eg J ?_ ?_<;>intro cQ
  ·have hs:=cD (x.ah.getD c.toNat (aO .bR)).live.inbox k (aO (.sl .u8)) cQ;have hy:=wU Zw cQ;refine av (aA (aK (aL [5,7,30,31,32] J je (dX [(40,23)] [] [5,30,31,32] [] J (by(repeat' with_reducible first|exact c8|refine dP ?_ ?_|apply And.intro)<;>first|exact(by rw[cZ,Int.toNat_natCast];unfold maxLen;omega)|exact rfl|exact⟨rfl,fA _ cO⟩| (simp only[vI,maxLen,lens];omega)) ?_))));exact bI [5,30,31,32] J gZ
  ·have ht:(x.ah.getD c.toNat (aO .bR)).live.inbox.take k=(x.ah.getD c.toNat (aO .bR)).live.inbox:=List.take_of_length_le cQ;exact bf (bq [(43,⟨false,[.a (.lit (.string (bG (Lib.join ((x.ah.getD c.toNat (aO .bR)).live.inbox.take k) [124]))))]⟩)] [4] J (by(with_reducible and_intros)<;>first|exact⟨⟩|exact(En _ 124 (by rw[ht];exact Nat.le_trans Zw cO))) (au (aj J ⟨by rw[ht,Hw,hkr];rfl,⟨⟩⟩)))
end
section
variable{w w':World}(s:List UInt8){n:Int}
set_option maxRecDepth 100000
theorem aoe{L:List (List UInt8)}(hl:L.length≤1099511627776)(hs: ∀x,x∈L→x.length≤1099511627776):
  Ret ty w [.a (.sl .str L)] (.returned (.slice (some ⟨w.heap.size,0,none⟩) L.length L.length)) (w.alloc (.cells (L.map fun x=>mA (bG x)).toArray (ty .str))):=by
 have hc:(w.alloc (.cells (L.map fun x=>mA (bG x)).toArray (ty .str))).heap[w.heap.size]? =some (.cells (L.map fun x=>mA (bG x)).toArray (ty .str) (0,0)):=tV rfl;have hfl:(L.map fun _=>([]:List Nat)).flatten= []:=by
  induction L with
  |nil=>rfl
  |cons x r ih=>simp
 have hown:Own w.heap.size (w.alloc (.cells (L.map fun x=>mA (bG x)).toArray (ty .str))) (w.heap.size::(L.map fun _=>([]:List Nat)).flatten):=by
  rw[hfl];exact⟨by simp,fun b hb=>by simp at hb;omega,fun b hb=>by simp at hb;subst hb;exact⟨_,_,hc⟩⟩
 have hB:=zO (ko .str) (l:=L) (eS:=L.map fun _=>([]:List Nat)) (o:=0) (n:=L.length) hc (by simp[kk]) (aS _) (by unfold maxLen;omega) ⟨by simp,fun i x f hx hf=> ?_⟩ hown
 ·exact⟨_,_,rfl,(Below.refl _ _).alloc (aS _) _,hown,_,[],hB,rfl,by simp⟩
 ·rw[ec,hx]at hf;simp only[Option.map_some,oI]at hf;subst hf;refine⟨[.string (bG x)],fun j v hj=> ?_,rfl,by have:=hs x (List.mem_of_getElem? hx);unfold maxLen;omega,rfl⟩;cases j with
  |succ j=>simp at hj
  |zero=>
   simp only[List.getElem?_cons_zero,oI]at hj;subst hj;show(match(w.alloc (.cells (L.map fun x=>mA (bG x)).toArray (ty .str))).heap[w.heap.size]? with|some (.cells cs _ _)=>cs[(0+i*1)+0]? |_=>none)=_
   rw[hc];simp[hx]
theorem v8(c:UInt8)(hs:s.length≤1048576):So 12 [.a (.lit (.string (bG s))), .a (.lit (.string (bG [c])))] [.a (.sl .str (dA c s))]:=by
 refine⟨call12,?_⟩;intro w us hA ha;match us,ha with
 | [u,v],⟨h1,h2,_⟩=>
   obtain⟨_,rfl,_,_⟩:=h1;obtain⟨_,rfl,_,_⟩:=h2;obtain⟨m,e,k,hm⟩:=hA.len;refine(Tryz.strings_Split (bG s) (bG [c]) m w (by rw[cZ];omega) ?_ (by rw[cZ];exact aS 1)).mono ?_
   ·show(match w.heap[0]? with|some (.cells cs _ _)=>cs[0]? |_=>none)=_
    rw[hm];rfl
   ·rintro e w' ⟨rfl,rfl⟩;have h1:=ade c (bG [c]) rfl _ (bG s) rfl;have hls:(bG s).data.toList=s:=by simp[bG]
    rw[hls]at h1;have h2:=Lib.splitB_all (bG [c]) (by rw[cZ];exact aS 1) 0 _ (bG s) rfl;have h3:(Lib.splitB (bG [c]) 0 (Au (bG s) (bG [c])) (bG s)).map mA=(dA c s).map fun x=>mA (bG x):=by
     rw[←h1,List.map_map];refine List.map_congr_left fun x _=> ?_;simp[bG]
    have h4:Au (bG s) (bG [c])+1=(dA c s).length:=by rw[←h1,bt,h2]
    rw[h3,h4];have hw:=tj c s;refine aoe (by have:=Ew (dA c s);omega) fun x hx=> ?_;have:=azt hx;omega
theorem L3(hA:Nc w)(h:Below w.heap.size w w'):Nc w':=hA.keep fun b _ hlt=>h.block b hlt
theorem af4{b:Bool}(hb:Below w.heap.size w w'):Ret ty w [.a (.lit (.int .i64 n)), .a (.lit (.bool b))] (.returned (.tuple #[.int .i64 n, .bool b])) w':=
 ⟨_,[],rfl,hb,Own.nil _ _,[_,_],rfl,[],[],⟨[],[],⟨rfl,rfl,rfl⟩,rfl,rfl⟩,⟨[],[],⟨[],[],⟨rfl,rfl,rfl⟩,rfl,rfl⟩,rfl,rfl⟩,rfl⟩
theorem af5{s:List UInt8}(h:gu s=false)(hb:Below w.heap.size w w'):Ret ty w [.a (.lit (.int .i64 (eP s))), .a (.lit (.bool (gu s)))] (.returned (.tuple #[.int .i64 0, .bool false])) w':=by
 rw[show eP s=0 by unfold eP;rw[h];rfl,h];exact af4 hb
theorem azx{s:List UInt8}(h:gu s=true)(hn:n=nh s)(hb:Below w.heap.size w w'):Ret ty w [.a (.lit (.int .i64 (eP s))), .a (.lit (.bool (gu s)))] (.returned (.tuple #[.int .i64 n, .bool true])) w':=by
 rw[show eP s=n by unfold eP;rw[h,hn];rfl,h];exact af4 hb
theorem SA(h13:13<s.length)(hs:s.length≤1048576)(w:World):Calls Tryz.prog 28 #[.string (bG s)] w (Ret ty w [.a (.lit (.int .i64 (eP s))), .a (.lit (.bool (gu s)))]):=by
 have hp:gu s=false:=by
  cases h:gu s with
  |false=>rfl
  |true=>
   simp only[gu,Bool.and_eq_true,decide_eq_true_eq]at h;omega
 have hz:(bG s).size=s.length:=cZ s
 go_enter func28,ntmps28
 go_wp2
 refine bodyPost_ret (results_tmp2 rfl _ _ _) rfl ?_;exact af5 hp (Below.refl _ _)
theorem aan(h13: ¬13<s.length)(ha:Om s=none)(w:World)(hA:Nc w):Calls Tryz.prog 28 #[.string (bG s)] w (Ret ty w [.a (.lit (.int .i64 (eP s))), .a (.lit (.bool (gu s)))]):=by
 have hp:gu s=false:=by
  cases h:gu s with
  |false=>rfl
  |true=>
   have h1:=(aai h).1;rw[uC s aJ,ha]at h1;cases h1
 have hz:(bG s).size=s.length:=cZ s;obtain⟨t,p,e,k,hm⟩:=hA.syn;have hat:=Tryz.strconv_Atoi_err (bG s) aJ aBA (.iface t p) w (by
  show(match w.heap[3]? with|some (.cells cs _ _)=>cs[0]? |_=>none)=_
  rw[hm];rfl) (Or.inr ⟨t,p,rfl⟩)
 go_enter func28,ntmps28
 go_wp2_with (go_at_call 68;refine hat.mono ?_;rintro e w' ⟨N,rfl,_,_,hbel⟩)
 refine bodyPost_ret (results_tmp2 rfl _ _ _) rfl ?_;exact af5 hp hbel
theorem SB(h13: ¬13<s.length)(ha:Om s=some n)(w:World)(hA:Nc w):Calls Tryz.prog 28 #[.string (bG s)] w (Ret ty w [.a (.lit (.int .i64 (eP s))), .a (.lit (.bool (gu s)))]):=by
 have hz:(bG s).size=s.length:=cZ s;have hyes:gu s=true→n=nh s∧bN n=s∧0≤n∧n≤1000000000000:=fun h=>by
  obtain⟨h1,h2,h3⟩:=aai h;rw[uC s aJ,ha]at h1;have h4:n=nh s:=by injection h1
  subst h4;exact⟨rfl,h2,aJ,aJ⟩
 have hat:=Tryz.strconv_Atoi (bG s) n aJ aBA w;have hb:=Lib.atoiAll_bounds (l:=s) (v:=n) (by rw[uC s aJ,ha];rfl);have hbel: ∀T t,Below w.heap.size w (Lib.bytesWorld w T t):=fun T t=>Lib.bytesWorld_below w T t;have hin: ∀w',Nc w'→Calls Tryz.prog 69 #[.int .i64 n, .int .i64 0, .int .i64 1000000000000] w' (ad0 w' (.bool (inr n 0 1000000000000))):=fun w' hA'=>
  PF (bu n 0 1000000000000) (us:= [.int .i64 n, .int .i64 0, .int .i64 1000000000000]) ⟨N1 rfl,N1 rfl,N1 rfl,⟨⟩⟩ hA'
 have hfm: ∀w',Nc w'→Calls Tryz.prog 62 #[.int .i64 n] w' (ad0 w' (.string (bG (bN n)))):=fun w' hA'=>
  PF (cK n hb) (us:= [.int .i64 n]) ⟨N1 rfl,⟨⟩⟩ hA'
 go_enter func28,ntmps28
 go_wp2_with (first| (go_at_call 68;refine hat.mono ?_;rintro e w' ⟨rfl,t,rfl⟩)| (go_at_call 69;refine(hin _ (L3 hA (hbel _ _))).mono ?_;rintro e w1 ⟨rfl,cQ⟩)| (go_at_call 62;refine(hfm _ (L3 (L3 hA (hbel _ _)) (by assumption))).mono ?_;rintro e w2 ⟨rfl,fu⟩))
 ·rename_i hx;refine bodyPost_ret (results_tmp2 rfl _ _ _) rfl ?_;refine af5 ?_ ((hbel _ _).trans ((cQ.trans (fu.mono cQ.size)).mono (hbel _ _).size));cases hp:gu s with
  |false=>rfl
  |true=>rw[(hyes hp).2.1]at hx;simp at hx
 ·rename_i hi hx;refine bodyPost_ret (results_tmp2 rfl _ _ _) rfl ?_;have he:bN n=s:=by
   have hx2:((bG (bN n)).toList==(bG s).toList)=true:=by rwa [Bool.not_eq_false']at hx
   have:=eq_of_beq hx2;rw[ByteArray.toList_eq,ByteArray.toList_eq]at this;exact this
  have hp:gu s=true:=by
   cases hp:gu s with
   |true=>rfl
   |false=>exact absurd he (atP hp aJ (dK.mp hi))
  exact azx hp (hyes hp).1 ((hbel _ _).trans ((cQ.trans (fu.mono cQ.size)).mono (hbel _ _).size))
 ·rename_i hi;refine bodyPost_ret (results_tmp2 rfl _ _ _) rfl ?_;refine af5 ?_ ((hbel _ _).trans (cQ.mono (hbel _ _).size));cases hp:gu s with
  |false=>rfl
  |true=>exact absurd (dK.mpr ⟨(hyes hp).2.2.1,(hyes hp).2.2.2⟩) hi
theorem we(hs:s.length≤1048576):So 28 [.a (.lit (.string (bG s)))] [.a (.lit (.int .i64 (eP s))), .a (.lit (.bool (gu s)))]:=by
 refine⟨call28,?_⟩;intro w us hA ha;match us,ha with
 | [u],⟨h1,_⟩=>
   obtain⟨_,rfl,_,_⟩:=h1;by_cases h13:13<s.length
   ·exact SA s h13 hs w
   ·cases ha:Om s with
    |none=>exact aan s h13 ha w hA
    |some n=>exact SB s h13 ha w hA
theorem azz:Ua (names.map bG) (bG s)=nmI s:=by
 have e: ∀a:List UInt8,(bG a=bG s)=(s=a):=fun a=>by
  refine propext ⟨fun h=> ?_,fun h=>by rw[h]⟩;have:=congrArg (fun b:ByteArray=>b.data.toList) h;simpa[bG]using this.symm
 unfold Ua names nmI;simp only[List.map_cons,List.map_nil,Lib.idxFromS,e];rfl
theorem Ez:So 30 [.a (.sl .str names), .a (.lit (.string (bG s)))] [.a (.lit (.int .i64 (nmI s)))]:=by
 refine⟨call30,?_⟩;rintro w us _ ha;match us,ha with
 | [u,v],⟨h1,h2,_⟩=>
   obtain⟨fp,h1⟩:=h1;obtain⟨_,rfl,_,_⟩:=h2;obtain⟨oa,cap,rfl,hc,hm,h3⟩:=(show Sl 1 aka w u names fp from h1);rcases h3 with⟨h0,_⟩| ⟨b,off,eS,rfl,hb,rfl,hE⟩
   ·exact absurd h0 cO
   ·have:=Tryz.slices_Index_string b off names.length cap (names.map bG) (bG s) w (by rw[bt];exact aS _) cO (fun j hj=>by
      rw[bt]at hj;have hx:names[j]? =some names[j]:=List.getElem?_eq_getElem hj;obtain⟨f,hf⟩:=mQ hE.1 hx;obtain⟨cs,q1,rfl,_⟩:=hE.2 j _ f hx hf;have:=q1 0 _ rfl;rw[Nat.add_zero,Nat.mul_one]at this;rw[this,List.getD_eq_getElem?_getD,ec,hx];rfl)
    refine this.mono ?_;rintro e w' ⟨rfl,rfl⟩;rw[aD (by rw[bt];exact aS _),azz];exact⟨_,[],rfl,Below.refl _ _,Own.nil _ _,⟨[],[],⟨rfl,rfl,rfl⟩,rfl,rfl⟩⟩
end
variable(b:Bool)
set_option maxRecDepth 100000
theorem M3:So 71 [aX b] [.a (.lit (.string (F1 b)))]:=by
 refine eU X2 call71 func71 rfl rfl cO ntmps71 fI ?_;intro zb;refine eH [0] J (mU X2 [3] J ?_);refine aM J ?_ ?_<;>intro hb0
 ·exact eH [2] J (au (aj J ⟨by rw[F1,if_pos hb0],⟨⟩⟩))
 ·exact av (eH [2] J (au (aj J ⟨by rw[F1,if_neg abw],⟨⟩⟩)))
theorem JT:So 65 [aX b] [.a (.lit (.string (Ax b)))]:=by
 refine eU X2 call65 func65 rfl rfl cO ntmps65 fI ?_;intro zb;refine eH [0] J (mU X2 [3] J ?_);refine aM J ?_ ?_<;>intro hb0
 ·exact eH [2] J (au (aj J ⟨by rw[Ax,if_pos hb0],⟨⟩⟩))
 ·exact av (eH [2] J (au (aj J ⟨by rw[Ax,if_neg abw],⟨⟩⟩)))
theorem JU:So 46 [aX b] [.a (.lit (.string (F1 b)))]:=by
 refine eU X2 call46 func46 rfl rfl cO ntmps46 fI ?_;intro zb;refine eH [0] J (mU X2 [3] J ?_);refine aM J ?_ ?_<;>intro hb0
 ·exact eH [2] J (au (aj J ⟨by rw[F1,if_pos hb0],⟨⟩⟩))
 ·exact av (eH [2] J (au (aj J ⟨by rw[F1,if_neg abw],⟨⟩⟩)))
theorem Gt:So 42 [aX b] [.a (.lit (.string (Ax b)))]:=by
 refine eU X2 call42 func42 rfl rfl cO ntmps42 fI ?_;intro zb;refine eH [0] J (mU X2 [3] J ?_);refine aM J ?_ ?_<;>intro hb0
 ·exact eH [2] J (au (aj J ⟨by rw[Ax,if_pos hb0],⟨⟩⟩))
 ·exact av (eH [2] J (au (aj J ⟨by rw[Ax,if_neg abw],⟨⟩⟩)))
theorem JV(l:List lV):So 63 [.a (.sl .lV l)] [aI (F2 l l.length)]:=by
 refine eU X2 call63 func63 rfl rfl cO ntmps63 fI ?_;intro zb;refine fC 0 rfl (fun pK=>(eH [0] J (eH [0,3] J (mU X2 [3,6,7,8] J ?_))));refine cm l.length (fun k:Nat=> [(3, .one ((aI (F2 l k)))),(8, .one ((aI k)))]) (fun k=> []) (fun k=>rfl) rfl ?_;intro k hk;refine eH [3,6,7,8,9] J ?_;refine eg J ?_ ?_<;>intro hb0
 ·refine av (aA (aK (iZ X2 [3,5,6,7,8] J je (iB X2 [3,6,7,8] J gA (mM X2 [3,6,7,8] J ?_)))));exact Fz
 ·exact bf (eH [2] J (au (aj J ⟨by rw[show k=l.length by omega],⟨⟩⟩)))
theorem JX(l:List lV):So 40 [.a (.sl .lV l)] [aI (F2 l l.length)]:=by
 refine eU X2 call40 func40 rfl rfl cO ntmps40 fI ?_;intro zb;refine fC 0 rfl (fun pK=>(eH [0] J (eH [0,3] J (mU X2 [0,3,4] J ?_))));refine cm l.length (fun k:Nat=> [(3, .one ((aI (F2 l k)))),(4, .one ((aI k)))]) (fun k=> []) (fun k=>rfl) rfl ?_;intro k hk;refine mU X2 [0,3,4,8] J ?_;refine bD J ?_ ?_<;>intro hb0
 ·refine av (aA (aK (iB X2 [0,3,4] J je (mM X2 [0,3,4] J ?_))));exact Fz
 ·exact bf (eH [2] J (au (aj J ⟨by rw[show k=l.length by omega],⟨⟩⟩)))
theorem Ch(s:List UInt8)(c:UInt8)(hs:s.length≤1048576):So 10 [.a (.lit (.string (bG s))), .a (.lit (.int .u8 (c.toNat:Int)))] [.a (.sl .str (dA c s))]:=by
 refine eU X2 call10 func10 rfl rfl cO ntmps10 fI ?_;intro zb;have hz:(bG s).size=s.length:=rfl;refine eH [0,1] J (iZ X2 [0,1,5] J qb (eH [0,1,5,6] J (mU X2 [0,1,5,6,7] J ?_)));refine cm (s.length+1) (fun k:Nat=> [(6, .one ((aI ((Gs c s k).2:Int)))),(7, .one ((aI k)))]) (fun k=> [(8, .arr .str (Gs c s k).1)]) (fun k=>rfl) rfl ?_;intro k hk;have hfr:=WE c s k;refine mU X2 [0,1,5,6,7,12] J ?_;refine aM J ?_ ?_<;>intro hb0
 ·have hk2:k≤s.length:=by rw[decide_eq_true_eq]at hb0;omega
  refine av (aA (aK (iZ X2 [0,1,5,6,7,25] J (cL (fun h=>by(have h2:(((k:Int)==((bG s).size:Int))=false):=h;rw[beq_eq_false_iff_ne]at h2;show 0≤(k:Int)∧(k:Int)<((bG s).size:Int);omega)) ⟨⟩) ?_)));refine bD J ?_ ?_<;>intro cQ
  ·have hst:=Ox (aEG cQ);refine aA ?_;have hcz:=azC s (Gs c s k).2 k;have Xd:1048576≤maxLen:=by decide
   have hpc:=aof s (Gs c s k).2 k;refine GM X2 [(32,8)] [] [0,1,5,7] [] J qqm (mM X2 [0,1,5,6,7] J (mM X2 [0,1,5,6,7] J ?_));exact(by refine⟨k+1,aJ,aJ,?_⟩;rw[gT _ k rfl aJ,hst, ←hpc];try rfl)
  ·have hst:=adi (aEH cQ);exact av (mM X2 [0,1,5,6,7] J axD)
 ·have hk3:k=s.length+1:=by rw[decide_eq_false_iff_not]at hb0;omega
  exact bf (eH [4] J (au (aj J ⟨by rw[hk3,atW],⟨⟩⟩)))
theorem wg(s:List UInt8)(hs:s.length≤1048576):So 23 [.a (.lit (.string (bG s)))] [aI (eP s),aX (gu s)]:=by
 refine eU X2 call23 func23 rfl rfl cO ntmps23 fI ?_;intro zb;have hz:(bG s).size=s.length:=rfl;refine eH [0] J (wu X2 [(8,⟨false,[aX (inr (s.length:Int) 1 13)]⟩)] [0,9] J (eY (bJ (s.length:Int) 1 13)) ?_);refine bD J ?_ ?_<;>intro hb0
 ·have hp:=atX (s:=s) aJ;exact eH [2,3] J (au (aj J ⟨by rw[WG hp],by rw[hp],⟨⟩⟩))
 ·have aol:1≤s.length∧s.length≤13:=by omega
  refine av (eH [0,4] J (mU X2 [0,4,5] J ?_));refine aK (ef (fun k=>k≤s.length∧(s.take k).all Ou=true) (fun k:Nat=> [(4, .one ((aI (nh (s.take k):Int)))),(5, .one ((aI k)))]) (fun k=> []) (fun k=>s.length-k) 0 (fun k=>rfl) ⟨aY _,rfl⟩ rfl ?_);rintro k ⟨hk,hall⟩;have aEJ:=atZ hk aol.2 hall;refine mU X2 [0,4,5,13] J ?_;refine bD J ?_ ?_<;>intro cQ
  ·refine av (aA (aK (aA (aA ?_))));have t1:=(bJ (af.wrap ((s.getD k 0).toNat:Int)) 48 57);refine Dj X2 [(20,⟨false,cA t1⟩)] [0,4,5,21] J CW ?_;refine aM J ?_ ?_<;>intro fu
   ·rw[aoi]at fu;have hp:=atY (s:=s) (k:=k) aJ aby;exact eH [2,3] J (au (aj J ⟨by rw[WG hp],by rw[hp],⟨⟩⟩))
   ·rw[aoi]at fu;have hdg:inr ((s.getD k 0).toNat:Int) 48 57=true:=by simpa using fu
    refine av (iB X2 [0,4,5] J je (mM X2 [0,4,5] J ?_));refine⟨k+1,⟨aJ,aog aJ hall hdg⟩,aJ,?_⟩;rw[gT _ k rfl aJ,azD aJ aEJ hdg];try rfl
  ·have htk:s.take k=s:=aD aJ;rw[htk];rw[htk]at hall aEJ;refine bf (wu X2 [(34,⟨false,[.a (.lit (.string (bG (bN (nh s:Int)))))]⟩)] [4,37] J (qqz (bF (nh s:Int) fj)) ?_);refine bD J ?_ ?_<;>intro n9
   ·have hp:=at1 aol.1 aol.2 hall n9;exact eH [2,3] J (au (aj J ⟨by rw[WG hp],by rw[hp],⟨⟩⟩))
   ·have hp:=aoh aol.1 aol.2 hall n9;exact av (eH [2,3] J (au (aj J ⟨by rw[hp.2],by rw[hp.1],⟨⟩⟩)))
theorem F5(x:dF)(c:Int)(hd:x.ah.length≤1048576)(hin:gb aN (Gy x c)≤1048576):So 50 [.agg (bC x),aI c] [.a (.lit (.string (Hw x c)))]:=by
 refine eU X2 call50 func50 rfl rfl cO ntmps50 fI ?_;intro zb;have Zw:gb aN (x.ah.getD c.toNat (aO .bR)).live.inbox≤1048576:=hin;have hnl:=fT Zw;have hw:af.wrap ((x.ah.length:Int)-1)=(x.ah.length:Int)-1:=cY aJ;refine eH [1,2] J (aA (aA ?_));have t1:=(bJ c 0 (af.wrap ((x.ah.length:Int)-1)));refine Dj X2 [(13,⟨false,cA t1⟩)] [1,2,25] J (by(with_reducible and_intros);(iterate 3 all_goals try first|exact⟨⟩|exact t1);all_goals first| ((intro h1;first| (intro h2;first| (intro h3;refine cL ?_ ?_)|refine cL ?_ ?_)|refine cL ?_ ?_)<;>first|omega| ((try simp only[SQ]at*);(try simp(disch:=omega) only[cY]);omega))) ?_;refine aM J ?_ ?_<;>intro hb0
 ·rw[hw]at hb0;have hkr:Xx x c=false:=dy hb0 aqD;exact eH [4] J (au (aj J ⟨by rw[Hw,hkr];rfl,⟨⟩⟩))
 ·rw[hw]at hb0;have hkr:Xx x c=true:=dr hb0 aqD;have hr:=anS hd hkr;refine av (eH [1,2,5] J (iZ X2 [5,6] J je (mU X2 [5,6,7] J ?_)));refine cm ((x.ah.getD c.toNat (aO .bR)).live.inbox.length) (fun k:Nat=> [(5, .one (.a (.lit (.string (jn (Gy x c) 124 k))))),(7, .one ((aI k)))]) (fun k=> []) (fun k=>rfl) rfl ?_;intro k hk;have hjs:=an0 (Gy x c) 124 k;refine mU X2 [5,6,7,36] J ?_;refine bD J ?_ ?_<;>intro cQ
  ·have hy:=wU Zw cQ;refine av (aA (aK (mU X2 [5,6,7,40] J ?_)));refine bD J ?_ ?_<;>intro fu
   ·have hs:=Ot (Gy x c) 124 (k:=k) cQ aJ;exact iB X2 [5,6,7] J (by(with_reducible and_intros);(iterate 2 all_goals try first|exact⟨⟩|exact aA9)) (iB X2 [5,6,7] J aCo (mM X2 [5,6,7] J gZ))
   ·have hs:=JQ (Gy x c) 124 (k:=k) cQ aJ;exact av (iB X2 [5,6,7] J aCo (mM X2 [5,6,7] J gZ))
  ·exact bf (eH [4] J (au (aj J ⟨by rw[Hw,if_pos hkr];unfold jn;rw[aD (show(Gy x c).length≤k from cQ)],⟨⟩⟩)))
theorem JY(r:Int)(h:1≤r∧r≤64):So 130 [aI r] [.agg (gX (⟨r,[]⟩:tE))]:=by
 refine eU X2 call130 func130 rfl rfl cO ntmps130 fI ?_;intro zb;refine eH [0,2] J (wu X2 [(4,⟨false,[aX (inr r 1 64)]⟩)] [0,2,5] J (eY (bu r 1 64)) ?_);refine bD J ?_ ?_<;>intro hb0
 ·omega
 ·exact av (iZ X2 [2] J gA (au (aj J ⟨J,J,⟨⟩⟩)))
theorem L4(i f k s:Int)(h1:0≤i∧i≤7)(h2:0≤f∧f≤7)(h3:i≠f)(h4:1≤k∧k≤2147483646):So 135 [aI i,aI f,aI k,aI s] [.agg (dw (⟨i,f,k,s,[],0,[],0⟩:kf))]:=by
 refine eU X2 call135 func135 rfl rfl cO ntmps135 fI ?_;intro zb;refine eH [0,1,2,3,8] J (wu X2 [(10,⟨false,[aX (inr i 0 7)]⟩),(14,⟨false,[aX (inr f 0 7)]⟩),(24,⟨false,[aX (jZ k)]⟩)] [0,1,2,3,8,26] J (Ut (bu i 0 7) (bu f 0 7) (mo k)) ?_);refine bD J ?_ ?_<;>intro hb0
 ·have hq:jZ k=true:=by unfold jZ;rw[dK];exact h4
  rw[hq]at hb0;simp at hb0;omega
 ·exact av (iZ X2 [8] J gA (au (aj J ⟨J,J,J,J,J,J,J,J,⟨⟩⟩)))
theorem JZ(rows s p seed:Int)(h:((inr rows 1 64&&dR s)&&inr p 1 4)=false):So 72 [aI rows,aI s,aI p,aI seed] [.agg (bC zW)]:=by
 refine eU X2 call72 func72 rfl rfl cO ntmps72 fI ?_;intro zb;refine eH [0,1,2,3,8] J (wu X2 [(13,⟨false,[aX (inr rows 1 64)]⟩),(17,⟨false,[aX (dR s)]⟩),(22,⟨false,[aX (inr p 1 4)]⟩)] [0,1,2,3,8,24] J (Ut (bu rows 1 64) (gy s) (bu p 1 4)) ?_);refine aM J ?_ ?_<;>intro hb0
 ·exact iZ X2 [8] J gA (au (aj J ⟨J,J,J,J,J,J,J,J,J,J,⟨⟩⟩))
 ·exact absurd hb0 (by cases h1:inr rows 1 64<;>cases h2:dR s<;>cases h3:inr p 1 4<;>simp[h1,h2,h3]at h ⊢)
theorem J0(rows s p seed:Int)(h:((inr rows 1 64&&dR s)&&inr p 1 4)=false):So 45 [aI rows,aI s,aI p,aI seed] [.agg (bC zW)]:=by
 refine eU X2 call45 func45 rfl rfl cO ntmps45 fI ?_;intro zb;refine eH [0,1,2,3,8] J (wu X2 [(14,⟨false,[aX (inr rows 1 64)]⟩),(18,⟨false,[aX (dR s)]⟩),(23,⟨false,[aX (inr p 1 4)]⟩)] [0,1,2,3,8,25] J (Ut (bJ rows 1 64) (kC s) (bJ p 1 4)) ?_);refine aM J ?_ ?_<;>intro hb0
 ·exact iZ X2 [8] J gA (au (aj J ⟨J,J,J,J,J,J,J,J,J,J,⟨⟩⟩))
 ·exact absurd hb0 (by cases h1:inr rows 1 64<;>cases h2:dR s<;>cases h3:inr p 1 4<;>simp[h1,h2,h3]at h ⊢)
theorem NJ(rows s p seed:Int)(hr:1≤rows∧rows≤64)(hs:2≤s∧s≤4)(hp:1≤p∧p≤4):So 72 [aI rows,aI s,aI p,aI seed] [.agg (bC (Wb rows s.toNat p.toNat seed))]:=by
 refine eU X2 call72 func72 rfl rfl cO ntmps72 fI ?_;intro zb;refine eH [0,1,2,3,8] J (wu X2 [(13,⟨false,[aX (inr rows 1 64)]⟩),(17,⟨false,[aX (dR s)]⟩),(22,⟨false,[aX (inr p 1 4)]⟩)] [0,1,2,3,8,24] J (Ut (bu rows 1 64) (gy s) (bu p 1 4)) ?_);refine aM J ?_ ?_<;>intro hb0
 ·try simp only[SQ]at hb0
  simp[dR,inr]at hb0;omega
 ·refine av (mK X2 [(28,163)] [(28,⟨true,[.agg (gX (⟨rows,[]⟩:tE))]⟩),(31,⟨false,[aI (kh seed [197])]⟩),(32,⟨false,[aI (GS (kh seed [197]))]⟩)] [0,1,2,3,8,9] [] J (axB (JY rows fj) (dL seed [197] fj) (wK (kh seed [197]))) ?_);refine fD 9 1 161 .cH rfl (fD 9 2 162 .bR rfl (mU X2 [0,2,3,8,9,35,36] J ?_));refine cm s.toNat (fun k:Nat=> [(36, .one ((aI k)))]) (fun k=> [(161, .arr .cH (NG rows k))]) (fun k=>rfl) rfl ?_;intro k hk;have hle:=Wc rows k;refine eH [0,2,3,8,9,35,36,37] J ?_;refine eg J ?_ ?_<;>intro cQ
  ·have hns:=Jp (id:=(k:Int)) (rows:=rows) aJ hr;refine av (aA (aK (eH [0,2,3,8,9,10,35,36] J (cu X2 [(45,161)] [(43,⟨true,[.agg (ep (newS (k:Int) rows 0))]⟩),(500044,⟨true,[]⟩)] [0,2,3,8,9,35,36] [] 63 0 MO gq J gq (GD (Am (k:Int) rows 0)) ?_))));rw[hns];exact mM X2 [0,2,3,8,9,35,36] J aCp
  ·have hks:s.toNat=k:=by omega
   refine bf (mU X2 [3,8,9,49,50] J ?_);refine cm (2*p.toNat) (fun k1:Nat=> [(50, .one ((aI k1)))]) (fun k1=> [(162, .arr .bR (CG seed k1))]) (fun k1=>rfl) rfl ?_;intro k1 hk1;have K0:=Ol seed k1;have hp2:af.wrap (2*p)=2*p:=cY aJ;refine eH [3,8,9,49,50,51] J ?_;refine eg J ?_ ?_<;>intro fu
   ·rw[hp2]at fu;have hkr:=zR (iQ seed [199,(k1:Int).tdiv 2]);have hx:(af.wrap (aF af.bits (k1:Int)^^^aF af.bits 1).toNat)=((k1^^^1:Nat):Int):=Nt k1 aJ;have hxl:=Bh k1 8 aJ cO;have hxn:=Wd k1;have sA:af.wrap ((k1:Int).tdiv 2)=(k1:Int).tdiv 2:=by rw[vh aJ];exact cY aJ
    refine av (aA (aK (eH [3,8,9,11,49,50] J ?_)));have t1:=(dL seed [199,af.wrap ((k1:Int).tdiv 2)] fj);have t2:=(wK (kh seed [199,af.wrap ((k1:Int).tdiv 2)]));have t3:=(L4 (k1:Int) (af.wrap (aF af.bits (k1:Int)^^^aF af.bits 1).toNat) (GS (kh seed [199,af.wrap ((k1:Int).tdiv 2)])) (kh seed [211,(k1:Int)]) aJ ara ara (by rw[sA];omega));refine cu X2 [(71,162)] [(62,⟨false,cA t1⟩),(63,⟨false,cA t2⟩),(67,⟨false,[aI (kh seed [211,(k1:Int)])]⟩),(68,⟨false,cA t3⟩),(69,⟨true,[.agg (dU (⟨(⟨(k1:Int),(af.wrap (aF af.bits (k1:Int)^^^aF af.bits 1).toNat),(GS (kh seed [199,af.wrap ((k1:Int).tdiv 2)])),(kh seed [211,(k1:Int)]),[],0,[],0⟩:kf),(⟨(k1:Int),(af.wrap (aF af.bits (k1:Int)^^^aF af.bits 1).toNat),(GS (kh seed [199,af.wrap ((k1:Int).tdiv 2)])),(kh seed [211,(k1:Int)]),[],0,[],0⟩:kf)⟩:bR))]⟩)] [3,8,9,49,50] [] 655359 2 MO gq J gq (by(repeat' with_reducible first|exact c8|refine dP ?_ ?_|apply cL);(iterate 5 all_goals try first|exact t1|exact t2|exact(dL seed [211,(k1:Int)] fj)|exact t3|exact(uz (⟨(k1:Int),(af.wrap (aF af.bits (k1:Int)^^^aF af.bits 1).toNat),(GS (kh seed [199,af.wrap ((k1:Int).tdiv 2)])),(kh seed [211,(k1:Int)]),[],0,[],0⟩:kf) ⟨aY _,aY _⟩));all_goals first| (intros;omega)|exact rfl|exact⟨rfl,fA _ cO⟩| (simp only[vI,maxLen,lens];omega)) ?_;rw[hx,sA];exact mM X2 [3,8,9,49,50] J aCn
   ·rw[hp2]at fu;have Zv:2*p.toNat=k1:=by omega
    exact bf (iZ X2 [8] J gA (au (aj J ⟨J,by rw[hks];rfl,by rw[←Zv];rfl,J,J,J,J,J,J,J,⟨⟩⟩)))
theorem F6(rows s p seed:Int):So 72 [aI rows,aI s,aI p,aI seed] [.agg (bC (Xl rows s p seed))]:=by
 cases h:((inr rows 1 64&&dR s)&&inr p 1 4)with
 |false=>rw[Wz h];exact JZ rows s p seed h
 |true=>
  obtain⟨h1,h2,h3,h4⟩:=WA h;rw[h1];exact NJ rows s p seed h2 h3 h4
theorem F7(rows s p seed:Int):So 45 [aI rows,aI s,aI p,aI seed] [.agg (bC (Xl rows s p seed))]:=by
 cases h:((inr rows 1 64&&dR s)&&inr p 1 4)with
 |false=>rw[Wz h];exact J0 rows s p seed h
 |true=>
  obtain⟨h1,h2,h3,h4⟩:=WA h;rw[h1];exact NH rows s p seed h2 h3 h4
theorem EB(r row s:Int):So 74 [.agg (bC zW),aI r,aI row,aI s] [.a (.sl .u8 ([]:List UInt8)),aX false]:=by
 refine eU X2 call74 func74 rfl rfl cO ntmps74 fI ?_;intro zb;refine eH [1,2,3,4] J (aem X2 [(21,⟨true,[.agg (bT (l5 zW.aH.rounds r)),aX (nk zW.aH.rounds r)]⟩)] [1,2,3,4,10,11] J (by(with_reducible and_intros)<;>first|exact⟨⟩|exact(mW zW.aH r ⟨aY _,fun _ hi=>nomatch hi⟩)) (wu X2 [(25,⟨false,[aX (okW zW)]⟩)] [1,2,3,4,10,30] J (eY (dY zW)) ?_));refine aM J ?_ ?_<;>intro hb0
 ·exact eH [8,9] J (au (aj J ⟨J,J,⟨⟩⟩))
 ·exact absurd hb0 (by rw[Ex];exact Bool.noConfusion)
theorem EC(r row s:Int):So 53 [.agg (bC zW),aI r,aI row,aI s] [.a (.sl .u8 ([]:List UInt8)),aX false]:=by
 refine eU X2 call53 func53 rfl rfl cO ntmps53 fI ?_;intro zb;refine eH [1,2,3,4] J (wu X2 [(11,⟨false,[aX (okW zW)]⟩)] [1,2,3,4,12] J (eY (eG zW)) ?_);refine aM J ?_ ?_<;>intro hb0
 ·exact iZ X2 [8,9] J qb (au (aj J ⟨J,J,⟨⟩⟩))
 ·exact absurd hb0 (by rw[Ex];exact Bool.noConfusion)
end Go.Proofs.YtaalpcnbbldlaaaGreatDoor.G
