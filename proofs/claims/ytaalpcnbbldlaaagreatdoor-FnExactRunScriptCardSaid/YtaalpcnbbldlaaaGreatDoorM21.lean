/-
  What scripts stand on: numerals, words, networks made anew, words of consent.
-/
import Derived.Lib.AtoiErrMem
import Derived.Test.YtaalpcnbbldlaaaGreatDoorM16
import Derived.Test.YtaalpcnbbldlaaaGreatDoorM20
open And renaming intro→bh
open BitVec renaming ofInt→aH
open ByteArray renaming size_append→bA
open Go.IntKind renaming i64→af
open Go.Lib renaming atoi→JL,atoiAll_short→qP,countB→wY,idxOfS→Ob,itoa→cg
open Go.Value renaming string→kI
open Int renaming toNat_natCast→eE
open List renaming getElem?_map→dB,length→aL,length_map→bt,take_of_length_le→aD
open Nat renaming le_refl→bq,zero_le→aE
namespace Go.Proofs.YtaalpcnbbldlaaaGreatDoor.G
set_option linter.all false
open Go.RowKit L D Tryz
section
set_option maxRecDepth 100000
theorem afa{w:World}{L:List (List UInt8)}(hl:L.length≤1099511627776)(hs: ∀x,x∈L→x.length≤1099511627776):
  Zd ty w [.a (.sl .str L)] (.returned (.slice (some ⟨w.heap.size,0,none⟩) L.length L.length)) (w.alloc (.cells (L.map fun x=>kI (bP x)).toArray (ty .str))):=by
 have hc:(w.alloc (.cells (L.map fun x=>kI (bP x)).toArray (ty .str))).heap[w.heap.size]? =some (.cells (L.map fun x=>kI (bP x)).toArray (ty .str) (0,0)):=ql rfl
 have hfl:(L.map fun _=>([]:List Nat)).flatten= []:=by
  induction L with
  |nil=>rfl
  |cons x r ih=>simp
 have hown:Own w.heap.size (w.alloc (.cells (L.map fun x=>kI (bP x)).toArray (ty .str))) (w.heap.size::(L.map fun _=>([]:List Nat)).flatten):=by
  rw[hfl]
  exact⟨by simp,fun b hb=>by simp at hb;omega,fun b hb=>by simp at hb;subst hb;exact⟨_,_,hc⟩⟩
 have hB:=vZ (iL .str) (l:=L) (dN:=L.map fun _=>([]:List Nat)) (o:=0) (n:=L.length) hc (by simp[kk]) (bq _) (by unfold maxLen;omega) ⟨by simp,fun i x f hx hf=> ?_⟩ hown
 ·exact⟨_,_,rfl,(Below.refl _ _).alloc (bq _) _,hown,_,[],hB,rfl,by simp⟩
 ·rw[dB,hx]at hf
  simp only[Option.map_some,oI]at hf
  subst hf
  refine⟨[.string (bP x)],fun j v hj=> ?_,rfl,by have:=hs x (List.mem_of_getElem? hx);unfold maxLen;omega,rfl⟩
  cases j with
  |succ j=>simp at hj
  |zero=>
   simp only[List.getElem?_cons_zero,oI]at hj
   subst hj
   show(match(w.alloc (.cells (L.map fun x=>kI (bP x)).toArray (ty .str))).heap[w.heap.size]? with|some (.cells cs _ _)=>cs[(0+i*1)+0]? |_=>none)=_
   rw[hc]
   simp[hx]
theorem sE(s:List UInt8)(c:UInt8)(hs:s.length≤1048576):So 12 [.a (.lit (.string (bP s))), .a (.lit (.string (bP [c])))] [.a (.sl .str (dD c s))]:=by
 refine⟨call12,?_⟩
 intro w us hA ha
 match us,ha with
 | [u,v],⟨h1,h2,_⟩=>
   obtain⟨_,rfl,_,_⟩:=h1
   obtain⟨_,rfl,_,_⟩:=h2
   obtain⟨m,e,k,hm⟩:=hA.len
   refine(Tryz.strings_Split (bP s) (bP [c]) m w (by rw[dR];omega) ?_ (by rw[dR];exact bq 1)).mono ?_
   ·show(match w.heap[0]? with|some (.cells cs _ _)=>cs[0]? |_=>none)=_
    rw[hm];rfl
   ·rintro e w' ⟨rfl,rfl⟩
    have h1:=Wa c (bP [c]) rfl _ (bP s) rfl
    have hls:(bP s).data.toList=s:=by simp[bP]
    rw[hls]at h1
    have h2:=Lib.splitB_all (bP [c]) (by rw[dR];exact bq 1) 0 _ (bP s) rfl
    have h3:(Lib.splitB (bP [c]) 0 (wY (bP s) (bP [c])) (bP s)).map kI=(dD c s).map fun x=>kI (bP x):=by
     rw[←h1,List.map_map]
     refine List.map_congr_left fun x _=> ?_
     simp[bP]
    have h4:wY (bP s) (bP [c])+1=(dD c s).length:=by rw[←h1,bt,h2]
    rw[h3,h4]
    have hw:=pY c s
    refine afa (by have:=Bm (dD c s);omega) fun x hx=> ?_
    have:=amO hx
    omega
theorem HO{w w':World}(hA:IK w)(h:Below w.heap.size w w'):IK w':=hA.keep fun b _ hlt=>h.block b hlt
theorem YK{w w':World}{n:Int}{b:Bool}(hb:Below w.heap.size w w'):Zd ty w [.a (.lit (.int .i64 n)), .a (.lit (.bool b))] (.returned (.tuple #[.int .i64 n, .bool b])) w':=
 ⟨_,[],rfl,hb,Own.nil _ _,[_,_],rfl,[],[],⟨[],[],⟨rfl,rfl,rfl⟩,rfl,rfl⟩,⟨[],[],⟨[],[],⟨rfl,rfl,rfl⟩,rfl,rfl⟩,rfl,rfl⟩,rfl⟩
theorem YL{s:List UInt8}(h:fD s=false){w w':World}(hb:Below w.heap.size w w'):Zd ty w [.a (.lit (.int .i64 (ez s))), .a (.lit (.bool (fD s)))] (.returned (.tuple #[.int .i64 0, .bool false])) w':=by
 rw[show ez s=0 by unfold ez;rw[h];rfl,h]
 exact YK hb
theorem amS{s:List UInt8}(h:fD s=true){n:Int}(hn:n=nr s){w w':World}(hb:Below w.heap.size w w'):Zd ty w [.a (.lit (.int .i64 (ez s))), .a (.lit (.bool (fD s)))] (.returned (.tuple #[.int .i64 n, .bool true])) w':=by
 rw[show ez s=n by unfold ez;rw[h,hn];rfl,h]
 exact YK hb
theorem MT(s:List UInt8)(h13:13<s.length)(hs:s.length≤1048576)(w:World):Calls Tryz.prog 28 #[.string (bP s)] w (Zd ty w [.a (.lit (.int .i64 (ez s))), .a (.lit (.bool (fD s)))]):=by
 have hp:fD s=false:=by
  cases h:fD s with
  |false=>rfl
  |true=>
   simp only[fD,Bool.and_eq_true,decide_eq_true_eq]at h
   omega
 have hz:(bP s).size=s.length:=dR s
 go_enter func28,ntmps28
 go_wp2
 refine bodyPost_ret (results_tmp2 rfl _ _ _) rfl ?_
 exact YL hp (Below.refl _ _)
theorem TS(s:List UInt8)(h13: ¬13<s.length)(ha:JL s=none)(w:World)(hA:IK w):Calls Tryz.prog 28 #[.string (bP s)] w (Zd ty w [.a (.lit (.int .i64 (ez s))), .a (.lit (.bool (fD s)))]):=by
 have hp:fD s=false:=by
  cases h:fD s with
  |false=>rfl
  |true=>
   have h1:=(TR h).1
   rw[qP s (by omega),ha]at h1
   cases h1
 have hz:(bP s).size=s.length:=dR s
 obtain⟨t,p,e,k,hm⟩:=hA.syn
 have V1:=Tryz.strconv_Atoi_err (bP s) (by omega) (by rw[show(bP s).data.toList=s by simp[bP]];exact ha) (.iface t p) w (by
  show(match w.heap[3]? with|some (.cells cs _ _)=>cs[0]? |_=>none)=_
  rw[hm];rfl) (Or.inr ⟨t,p,rfl⟩)
 go_enter func28,ntmps28
 go_wp2_with (go_at_call 68;refine V1.mono ?_;rintro e w' ⟨N,rfl,_,_,hbel⟩)
 refine bodyPost_ret (results_tmp2 rfl _ _ _) rfl ?_
 exact YL hp hbel
theorem MU(s:List UInt8)(h13: ¬13<s.length){n:Int}(ha:JL s=some n)(w:World)(hA:IK w):Calls Tryz.prog 28 #[.string (bP s)] w (Zd ty w [.a (.lit (.int .i64 (ez s))), .a (.lit (.bool (fD s)))]):=by
 have hz:(bP s).size=s.length:=dR s
 have hyes:fD s=true→n=nr s∧cg n=s∧0≤n∧n≤1000000000000:=fun h=>by
  obtain⟨h1,h2,h3⟩:=TR h
  rw[qP s (by omega),ha]at h1
  have h4:n=nr s:=by injection h1
  subst h4
  exact⟨rfl,h2,by omega,by omega⟩
 have V1:=Tryz.strconv_Atoi (bP s) n (by omega) (by rw[show(bP s).data.toList=s by simp[bP]];exact ha) w
 have hb:=Lib.atoiAll_bounds (l:=s) (v:=n) (by rw[qP s (by omega),ha];rfl)
 have hbel: ∀T t,Below w.heap.size w (Lib.bytesWorld w T t):=fun T t=>Lib.bytesWorld_below w T t
 have hin: ∀w',IK w'→Calls Tryz.prog 69 #[.int .i64 n, .int .i64 0, .int .i64 1000000000000] w' (WA w' (.bool (inr n 0 1000000000000))):=fun w' hA'=>
  KI (bl n 0 1000000000000) (us:= [.int .i64 n, .int .i64 0, .int .i64 1000000000000]) ⟨Es rfl,Es rfl,Es rfl,⟨⟩⟩ hA'
 have hfm: ∀w',IK w'→Calls Tryz.prog 62 #[.int .i64 n] w' (WA w' (.string (bP (cg n)))):=fun w' hA'=>
  KI (cD n hb) (us:= [.int .i64 n]) ⟨Es rfl,⟨⟩⟩ hA'
 go_enter func28,ntmps28
 go_wp2_with (first| (go_at_call 68;refine V1.mono ?_;rintro e w' ⟨rfl,t,rfl⟩)| (go_at_call 69;refine(hin _ (HO hA (hbel _ _))).mono ?_;rintro e w1 ⟨rfl,bM⟩)| (go_at_call 62;refine(hfm _ (HO (HO hA (hbel _ _)) (by assumption))).mono ?_;rintro e w2 ⟨rfl,cS⟩))
 ·rename_i hx
  refine bodyPost_ret (results_tmp2 rfl _ _ _) rfl ?_
  refine YL ?_ ((hbel _ _).trans ((bM.trans (cS.mono bM.size)).mono (hbel _ _).size))
  cases hp:fD s with
  |false=>rfl
  |true=>rw[(hyes hp).2.1]at hx;simp at hx
 ·rename_i hi hx
  refine bodyPost_ret (results_tmp2 rfl _ _ _) rfl ?_
  have he:cg n=s:=by
   have hx2:((bP (cg n)).toList==(bP s).toList)=true:=by rwa [Bool.not_eq_false']at hx
   have:=eq_of_beq hx2
   rw[ByteArray.toList_eq,ByteArray.toList_eq]at this
   exact this
  have hp:fD s=true:=by
   cases hp:fD s with
   |true=>rfl
   |false=>exact absurd he (aiF hp (by omega) (dS.mp hi))
  exact amS hp (hyes hp).1 ((hbel _ _).trans ((bM.trans (cS.mono bM.size)).mono (hbel _ _).size))
 ·rename_i hi
  refine bodyPost_ret (results_tmp2 rfl _ _ _) rfl ?_
  refine YL ?_ ((hbel _ _).trans (bM.mono (hbel _ _).size))
  cases hp:fD s with
  |false=>rfl
  |true=>exact absurd (dS.mpr ⟨(hyes hp).2.2.1,(hyes hp).2.2.2⟩) hi
theorem sG(s:List UInt8)(hs:s.length≤1048576):So 28 [.a (.lit (.string (bP s)))] [.a (.lit (.int .i64 (ez s))), .a (.lit (.bool (fD s)))]:=by
 refine⟨call28,?_⟩
 intro w us hA ha
 match us,ha with
 | [u],⟨h1,_⟩=>
   obtain⟨_,rfl,_,_⟩:=h1
   by_cases h13:13<s.length
   ·exact MT s h13 hs w
   ·cases ha:JL s with
    |none=>exact TS s h13 ha w hA
    |some n=>exact MU s h13 ha w hA
theorem amU(s:List UInt8):Ob (names.map bP) (bP s)=Un s:=by
 have e: ∀a:List UInt8,(bP a=bP s)=(s=a):=fun a=>by
  refine propext ⟨fun h=> ?_,fun h=>by rw[h]⟩
  have:=congrArg (fun b:ByteArray=>b.data.toList) h
  simpa[bP]using this.symm
 unfold Ob names Un
 simp only[List.map_cons,List.map_nil,Lib.idxFromS,e]
 rfl
theorem Bq(s:List UInt8):So 30 [.a (.sl .str names), .a (.lit (.string (bP s)))] [.a (.lit (.int .i64 (Un s)))]:=by
 refine⟨call30,?_⟩
 rintro w us _ ha
 match us,ha with
 | [u,v],⟨h1,h2,_⟩=>
   obtain⟨fp,h1⟩:=h1
   obtain⟨_,rfl,_,_⟩:=h2
   obtain⟨oa,cap,rfl,hc,hm,h3⟩:=(show Sl 1 aa5 w u names fp from h1)
   rcases h3 with⟨h0,_⟩| ⟨b,off,dN,rfl,hb,rfl,hE⟩
   ·exact absurd h0 (by decide)
   ·have:=Tryz.slices_Index_string b off names.length cap (names.map bP) (bP s) w (by rw[bt];exact bq _) (by decide) (fun j hj=>by
      rw[bt]at hj
      have hx:names[j]? =some names[j]:=List.getElem?_eq_getElem hj
      obtain⟨f,hf⟩:=jZ hE.1 hx
      obtain⟨cs,q1,rfl,_⟩:=hE.2 j _ f hx hf
      have:=q1 0 _ rfl
      rw[Nat.add_zero,Nat.mul_one]at this
      rw[this,List.getD_eq_getElem?_getD,dB,hx]
      rfl)
    refine this.mono ?_
    rintro e w' ⟨rfl,rfl⟩
    rw[aD (by rw[bt];exact bq _),amU]
    exact⟨_,[],rfl,Below.refl _ _,Own.nil _ _,⟨[],[],⟨rfl,rfl,rfl⟩,rfl,rfl⟩⟩
end
section
set_option maxRecDepth 100000
theorem IF(b:Bool):So 71 [aU b] [.a (.lit (.string (FR b)))]:=by
 refine eA X2 call71 func71 rfl rfl (by decide) ntmps71 (by simp) ?_
 intro zb
 refine av X2 [0] rfl (aa (av X2 [3] rfl ?_))
 refine an rfl ?_ ?_<;>intro hb0
 ·exact av X2 [2] rfl (aq (aj rfl ⟨by rw[FR,if_pos hb0],⟨⟩⟩))
 ·exact au (av X2 [2] rfl (aq (aj rfl ⟨by rw[FR,if_neg (by rw[hb0];decide)],⟨⟩⟩)))
theorem FT(b:Bool):So 65 [aU b] [.a (.lit (.string (zC b)))]:=by
 refine eA X2 call65 func65 rfl rfl (by decide) ntmps65 (by simp) ?_
 intro zb
 refine av X2 [0] rfl (aa (av X2 [3] rfl ?_))
 refine an rfl ?_ ?_<;>intro hb0
 ·exact av X2 [2] rfl (aq (aj rfl ⟨by rw[zC,if_pos hb0],⟨⟩⟩))
 ·exact au (av X2 [2] rfl (aq (aj rfl ⟨by rw[zC,if_neg (by rw[hb0];decide)],⟨⟩⟩)))
theorem FU(b:Bool):So 46 [aU b] [.a (.lit (.string (FR b)))]:=by
 refine eA X2 call46 func46 rfl rfl (by decide) ntmps46 (by simp) ?_
 intro zb
 refine av X2 [0] rfl (aa (av X2 [3] rfl ?_))
 refine an rfl ?_ ?_<;>intro hb0
 ·exact av X2 [2] rfl (aq (aj rfl ⟨by rw[FR,if_pos hb0],⟨⟩⟩))
 ·exact au (av X2 [2] rfl (aq (aj rfl ⟨by rw[FR,if_neg (by rw[hb0];decide)],⟨⟩⟩)))
theorem CZ(b:Bool):So 42 [aU b] [.a (.lit (.string (zC b)))]:=by
 refine eA X2 call42 func42 rfl rfl (by decide) ntmps42 (by simp) ?_
 intro zb
 refine av X2 [0] rfl (aa (av X2 [3] rfl ?_))
 refine an rfl ?_ ?_<;>intro hb0
 ·exact av X2 [2] rfl (aq (aj rfl ⟨by rw[zC,if_pos hb0],⟨⟩⟩))
 ·exact au (av X2 [2] rfl (aq (aj rfl ⟨by rw[zC,if_neg (by rw[hb0];decide)],⟨⟩⟩)))
theorem FV(l:List jE):So 63 [.a (.sl .jE l)] [aI (Cz l l.length)]:=by
 refine eA X2 call63 func63 rfl rfl (by decide) ntmps63 (by simp) ?_
 intro zb
 refine eu 0 rfl (fun mK=>(av X2 [0] rfl (av X2 [0,3] rfl (aa (av X2 [3,6,7,8] rfl ?_)))))
 refine aB (aP (fun k=>k≤l.length) (fun k:Nat=> [(3, .one ((aI (Cz l k)))),(8, .one ((aI k)))]) (fun k=> []) (fun k=>l.length-k) 0 (fun k=>rfl) (aE _) rfl ?_)
 intro k hk
 refine av X2 [3,6,7,8,9] rfl ?_
 refine aa (an rfl ?_ ?_)<;>intro hb0
 ·try simp only[bG]at hb0
  refine au (aa (aB (aO X2 [3,5,6,7,8] rfl (by and_intros<;>first|exact⟨⟩| (intros;omega)) (gA X2 [3,6,7,8] rfl (by trivial) (bU X2 [3,6,7,8] rfl ?_)))))
  refine⟨k+1,by omega,by omega,?_⟩
  rw[bZ _ k rfl (by omega)]
  try rfl
 ·try simp only[bG]at hb0
  exact aW (av X2 [2] rfl (aq (aj rfl ⟨by rw[show k=l.length by omega],⟨⟩⟩)))
theorem FW(l:List jE):So 40 [.a (.sl .jE l)] [aI (Cz l l.length)]:=by
 refine eA X2 call40 func40 rfl rfl (by decide) ntmps40 (by simp) ?_
 intro zb
 refine eu 0 rfl (fun mK=>(av X2 [0] rfl (av X2 [0,3] rfl (aa (av X2 [0,3,4] rfl ?_)))))
 refine aB (aP (fun k=>k≤l.length) (fun k:Nat=> [(3, .one ((aI (Cz l k)))),(4, .one ((aI k)))]) (fun k=> []) (fun k=>l.length-k) 0 (fun k=>rfl) (aE _) rfl ?_)
 intro k hk
 refine aa (av X2 [0,3,4,8] rfl ?_)
 refine an rfl ?_ ?_<;>intro hb0
 ·try simp only[bG]at hb0
  refine au (aa (aB (gA X2 [0,3,4] rfl (by and_intros<;>first|exact⟨⟩| (intros;omega)) (bU X2 [0,3,4] rfl ?_))))
  refine⟨k+1,by omega,by omega,?_⟩
  rw[bZ _ k rfl (by omega)]
  try rfl
 ·try simp only[bG]at hb0
  exact aW (av X2 [2] rfl (aq (aj rfl ⟨by rw[show k=l.length by omega],⟨⟩⟩)))
theorem y8(s:List UInt8)(c:UInt8)(hs:s.length≤1048576):So 10 [.a (.lit (.string (bP s))), .a (.lit (.int .u8 (c.toNat:Int)))] [.a (.sl .str (dD c s))]:=by
 refine eA X2 call10 func10 rfl rfl (by decide) ntmps10 (by simp) ?_
 intro zb
 have hz:(bP s).size=s.length:=rfl
 refine av X2 [0,1] rfl (aO X2 [0,1,5] rfl (by and_intros<;>first|exact⟨⟩|exact rfl) (av X2 [0,1,5,6] rfl (aa (av X2 [0,1,5,6,7] rfl ?_))))
 refine aB (aP (fun k=>k≤(s.length+1)) (fun k:Nat=> [(6, .one ((aI ((CY c s k).2:Int)))),(7, .one ((aI k)))]) (fun k=> [(8, .arr .str (CY c s k).1)]) (fun k=>(s.length+1)-k) 0 (fun k=>rfl) (aE _) rfl ?_)
 intro k hk
 have hfr:=Qr c s k
 refine aa (av X2 [0,1,5,6,7,12] rfl ?_)
 refine an rfl ?_ ?_<;>intro hb0
 ·have hk2:k≤s.length:=by rw[decide_eq_true_eq]at hb0;omega
  refine au (aa (aB (aO X2 [0,1,5,6,7,25] rfl (bh (fun h=>by(have h2:(((k:Int)==((bP s).size:Int))=false):=h;rw[beq_eq_false_iff_ne]at h2;show 0≤(k:Int)∧(k:Int)<((bP s).size:Int);omega)) ⟨⟩) ?_)))
  refine an rfl ?_ ?_<;>intro bM
  ·try simp only[bG]at bM
   have hst:=JQ (apE bM)
   refine aa ?_
   have hcz:=amY s (CY c s k).2 k
   have QD:1048576≤maxLen:=by decide
   have hpc:=amX s (CY c s k).2 k
   refine bn X2 [(32,8)] [] [0,1,5,7] [] rfl (by and_intros<;>first|exact⟨⟩| (intros;omega)|exact rfl| (simp only[gR,maxLen,lens];omega)) (bU X2 [0,1,5,6,7] rfl (bU X2 [0,1,5,6,7] rfl ?_))
   refine⟨k+1,by omega,by omega,?_⟩
   rw[bZ _ k rfl (by omega),hst, ←hpc]
   try rfl
  ·try simp only[bG]at bM
   have hst:=Wh (apF bM)
   refine au (bU X2 [0,1,5,6,7] rfl ?_)
   refine⟨k+1,by omega,by omega,?_⟩
   rw[bZ _ k rfl (by omega),hst]
   try rfl
 ·have Zj:k=s.length+1:=by rw[decide_eq_false_iff_not]at hb0;omega
  exact aW (av X2 [4] rfl (aq (aj rfl ⟨by rw[Zj,aiL],⟨⟩⟩)))
theorem sH(s:List UInt8)(hs:s.length≤1048576):So 23 [.a (.lit (.string (bP s)))] [aI (ez s),aU (fD s)]:=by
 refine eA X2 call23 func23 rfl rfl (by decide) ntmps23 (by simp) ?_
 intro zb
 have hz:(bP s).size=s.length:=rfl
 refine av X2 [0] rfl (aa (aM X2 [] [(8,⟨false,[aU (inr (s.length:Int) 1 13)]⟩)] [0,9] [] rfl (by(with_reducible and_intros)<;>first|exact⟨⟩|exact(bD (s.length:Int) 1 13)) ?_))
 refine an rfl ?_ ?_<;>intro hb0
 ·try simp only[bG]at hb0
  have hp:=aiM (s:=s) (by omega)
  exact av X2 [2,3] rfl (aq (aj rfl ⟨by rw[Qs hp],by rw[hp],⟨⟩⟩))
 ·try simp only[bG]at hb0
  have afg:1≤s.length∧s.length≤13:=by omega
  refine au (av X2 [0,4] rfl (aa (av X2 [0,4,5] rfl ?_)))
  refine aB (aP (fun k=>k≤s.length∧(s.take k).all Of=true) (fun k:Nat=> [(4, .one ((aI (nr (s.take k):Int)))),(5, .one ((aI k)))]) (fun k=> []) (fun k=>s.length-k) 0 (fun k=>rfl) ⟨aE _,rfl⟩ rfl ?_)
  rintro k ⟨hk,hall⟩
  have apH:=aiO hk afg.2 hall
  refine aa (av X2 [0,4,5,13] rfl ?_)
  refine an rfl ?_ ?_<;>intro bM
  ·try simp only[bG]at bM
   refine au (aa (aB (aa (aa ?_))))
   have t1:=(bD (af.wrap ((s.getD k 0).toNat:Int)) 48 57)
   refine bn X2 [] [(20,⟨false,cx t1⟩)] [0,4,5,21] [] rfl (by(with_reducible and_intros)<;>first|exact⟨⟩|exact t1| (intros;omega)) ?_
   refine an rfl ?_ ?_<;>intro cS
   ·rw[afd]at cS
    have hp:=aiN (s:=s) (k:=k) (by omega) (by simpa using cS)
    exact av X2 [2,3] rfl (aq (aj rfl ⟨by rw[Qs hp],by rw[hp],⟨⟩⟩))
   ·rw[afd]at cS
    have hdg:inr ((s.getD k 0).toNat:Int) 48 57=true:=by simpa using cS
    refine au (gA X2 [0,4,5] rfl (by and_intros<;>first|exact⟨⟩| (intros;omega)) (bU X2 [0,4,5] rfl ?_))
    refine⟨k+1,⟨by omega,afb (by omega) hall hdg⟩,by omega,?_⟩
    rw[bZ _ k rfl (by omega),amZ (by omega) apH hdg]
    try rfl
  ·try simp only[bG]at bM
   have htk:s.take k=s:=aD (by omega)
   rw[htk]
   rw[htk]at hall apH
   refine aW (aa (aM X2 [] [(34,⟨false,[.a (.lit (.string (bP (cg (nr s:Int)))))]⟩)] [4,37] [] rfl (by(with_reducible and_intros)<;>first|exact⟨⟩|exact fun _=>(bL (nr s:Int) (by first|assumption|omega| (simp;done)| (simp;omega)))) ?_))
   refine an rfl ?_ ?_<;>intro iZ
   ·try simp only[bG]at iZ
    have hp:=aiP afg.1 afg.2 hall iZ
    exact av X2 [2,3] rfl (aq (aj rfl ⟨by rw[Qs hp],by rw[hp],⟨⟩⟩))
   ·try simp only[bG]at iZ
    have hp:=afc afg.1 afg.2 hall iZ
    exact au (av X2 [2,3] rfl (aq (aj rfl ⟨by rw[hp.2],by rw[hp.1],⟨⟩⟩)))
theorem CC(x:bN)(c:Int)(hd:x.ah.length≤1048576)(hin:eN aL (Cv x c)≤1048576):So 50 [.agg (bw x),aI c] [.a (.lit (.string (HH x c)))]:=by
 refine eA X2 call50 func50 rfl rfl (by decide) ntmps50 (by simp) ?_
 intro zb
 have S3:eN aL (x.ah.getD c.toNat (aR .bR)).live.inbox≤1048576:=hin
 have hnl:=eF S3
 have hw:af.wrap ((x.ah.length:Int)-1)=(x.ah.length:Int)-1:=dm (by omega)
 refine av X2 [1,2] rfl (aa (aa ?_))
 have t1:=(bD c 0 (af.wrap ((x.ah.length:Int)-1)))
 refine bn X2 [] [(13,⟨false,cx t1⟩)] [1,2,25] [] rfl (by(with_reducible and_intros);(iterate 3 all_goals try first|exact⟨⟩|exact t1);all_goals first| ((intro h1;first| (intro h2;first| (intro h3;refine bh ?_ ?_)|refine bh ?_ ?_)|refine bh ?_ ?_)<;>first|omega| ((try simp only[bG]at*);(try simp(disch:=omega) only[dm]);omega))) ?_
 refine an rfl ?_ ?_<;>intro hb0
 ·rw[hw]at hb0
  have hkr:LZ x c=false:=cR hb0 (by simp only[LZ,Cv,bC]<;>first|rfl|ac_rfl)
  exact av X2 [4] rfl (aq (aj rfl ⟨by rw[HH,hkr];rfl,⟨⟩⟩))
 ·rw[hw]at hb0
  have hkr:LZ x c=true:=cL hb0 (by simp only[LZ,Cv,bC]<;>first|rfl|ac_rfl)
  have hr:=aeQ hd hkr
  refine au (av X2 [1,2,5] rfl (aO X2 [5,6] rfl (by and_intros<;>first|exact⟨⟩| (intros;omega)) (aa (av X2 [5,6,7] rfl ?_))))
  refine aB (aP (fun k=>k≤(x.ah.getD c.toNat (aR .bR)).live.inbox.length) (fun k:Nat=> [(5, .one (.a (.lit (.string (jn (Cv x c) 124 k))))),(7, .one ((aI k)))]) (fun k=> []) (fun k=>(x.ah.getD c.toNat (aR .bR)).live.inbox.length-k) 0 (fun k=>rfl) (aE _) rfl ?_)
  intro k hk
  have hjs:=aeY (Cv x c) 124 k
  refine aa (av X2 [5,6,7,36] rfl ?_)
  refine an rfl ?_ ?_<;>intro bM
  ·try simp only[bG]at bM
   have hy:=sV S3 bM
   refine au (aa (aB (aa (av X2 [5,6,7,40] rfl ?_))))
   refine an rfl ?_ ?_<;>intro cS
   ·try simp only[bG]at cS
    have hs:=JO (Cv x c) 124 (k:=k) bM (by omega)
    refine gA X2 [5,6,7] rfl (by(with_reducible and_intros);(iterate 2 all_goals try first|exact⟨⟩|exact(by simp only[bA,ko,dR,jV,eE];omega))) (gA X2 [5,6,7] rfl (by(with_reducible and_intros);(iterate 2 all_goals try first|exact⟨⟩|exact(by simp only[bA,ko,dR,jV,eE];omega));all_goals first| (intros;omega)) (bU X2 [5,6,7] rfl ?_))
    refine⟨k+1,by omega,by omega,?_⟩
    rw[bZ _ k rfl (by omega),hs]
    try rfl
   ·try simp only[bG]at cS
    have hs:=FP (Cv x c) 124 (k:=k) bM (by omega)
    refine au (gA X2 [5,6,7] rfl (by(with_reducible and_intros);(iterate 2 all_goals try first|exact⟨⟩|exact(by simp only[bA,ko,dR,jV,eE];omega));all_goals first| (intros;omega)) (bU X2 [5,6,7] rfl ?_))
    refine⟨k+1,by omega,by omega,?_⟩
    rw[bZ _ k rfl (by omega),hs]
    try rfl
  ·try simp only[bG]at bM
   exact aW (av X2 [4] rfl (aq (aj rfl ⟨by rw[HH,if_pos hkr];unfold jn;rw[aD (show(Cv x c).length≤k from bM)],⟨⟩⟩)))
theorem FX(r:Int)(h:1≤r∧r≤64):So 130 [aI r] [.agg (fK (⟨r,[]⟩:mD))]:=by
 refine eA X2 call130 func130 rfl rfl (by decide) ntmps130 (by simp) ?_
 intro zb
 refine av X2 [0,2] rfl (aa (aM X2 [] [(4,⟨false,[aU (inr r 1 64)]⟩)] [0,2,5] [] rfl (by(with_reducible and_intros)<;>first|exact⟨⟩|exact(bl r 1 64)) ?_))
 refine an rfl ?_ ?_<;>intro hb0
 ·try simp only[bG]at hb0
  omega
 ·try simp only[bG]at hb0
  exact au (aO X2 [2] rfl (by trivial) (aq (aj rfl ⟨rfl,rfl,⟨⟩⟩)))
theorem HP(i f k s:Int)(h1:0≤i∧i≤7)(h2:0≤f∧f≤7)(h3:i≠f)(h4:1≤k∧k≤2147483646):So 135 [aI i,aI f,aI k,aI s] [.agg (cM (⟨i,f,k,s,[],0,[],0⟩:gI))]:=by
 refine eA X2 call135 func135 rfl rfl (by decide) ntmps135 (by simp) ?_
 intro zb
 refine av X2 [0,1,2,3,8] rfl (aa (aM X2 [] [(10,⟨false,[aU (inr i 0 7)]⟩),(14,⟨false,[aU (inr f 0 7)]⟩),(24,⟨false,[aU (jl k)]⟩)] [0,1,2,3,8,26] [] rfl (by(with_reducible and_intros);(iterate 3 all_goals try first|exact⟨⟩|exact(bl i 0 7)|exact fun _=>(bl f 0 7)|exact fun _=>(jR k))) ?_))
 refine an rfl ?_ ?_<;>intro hb0
 ·try simp only[bG]at hb0
  have hq:jl k=true:=by unfold jl;rw[dS];exact h4
  rw[hq]at hb0
  simp at hb0
  omega
 ·try simp only[bG]at hb0
  exact au (aO X2 [8] rfl (by trivial) (aq (aj rfl ⟨rfl,rfl,rfl,rfl,rfl,rfl,rfl,rfl,⟨⟩⟩)))
theorem FY(rows s p seed:Int)(h:((inr rows 1 64&&dG s)&&inr p 1 4)=false):So 72 [aI rows,aI s,aI p,aI seed] [.agg (bw zW)]:=by
 refine eA X2 call72 func72 rfl rfl (by decide) ntmps72 (by simp) ?_
 intro zb
 refine av X2 [0,1,2,3,8] rfl (aa (aM X2 [] [(13,⟨false,[aU (inr rows 1 64)]⟩),(17,⟨false,[aU (dG s)]⟩),(22,⟨false,[aU (inr p 1 4)]⟩)] [0,1,2,3,8,24] [] rfl (by(with_reducible and_intros);(iterate 3 all_goals try first|exact⟨⟩|exact(bl rows 1 64)|exact fun _=>(ff s)|exact fun _=>(bl p 1 4))) ?_))
 refine an rfl ?_ ?_<;>intro hb0
 ·exact aO X2 [8] rfl (by trivial) (aq (aj rfl ⟨rfl,rfl,rfl,rfl,rfl,rfl,rfl,rfl,rfl,rfl,⟨⟩⟩))
 ·exact absurd hb0 (by cases h1:inr rows 1 64<;>cases h2:dG s<;>cases h3:inr p 1 4<;>simp[h1,h2,h3]at h ⊢)
theorem FZ(rows s p seed:Int)(h:((inr rows 1 64&&dG s)&&inr p 1 4)=false):So 45 [aI rows,aI s,aI p,aI seed] [.agg (bw zW)]:=by
 refine eA X2 call45 func45 rfl rfl (by decide) ntmps45 (by simp) ?_
 intro zb
 refine av X2 [0,1,2,3,8] rfl (aa (aM X2 [] [(14,⟨false,[aU (inr rows 1 64)]⟩),(18,⟨false,[aU (dG s)]⟩),(23,⟨false,[aU (inr p 1 4)]⟩)] [0,1,2,3,8,25] [] rfl (by(with_reducible and_intros);(iterate 3 all_goals try first|exact⟨⟩|exact(bD rows 1 64)|exact fun _=>(iQ s)|exact fun _=>(bD p 1 4))) ?_))
 refine an rfl ?_ ?_<;>intro hb0
 ·exact aO X2 [8] rfl (by trivial) (aq (aj rfl ⟨rfl,rfl,rfl,rfl,rfl,rfl,rfl,rfl,rfl,rfl,⟨⟩⟩))
 ·exact absurd hb0 (by cases h1:inr rows 1 64<;>cases h2:dG s<;>cases h3:inr p 1 4<;>simp[h1,h2,h3]at h ⊢)
theorem Jk(rows s p seed:Int)(hr:1≤rows∧rows≤64)(hs:2≤s∧s≤4)(hp:1≤p∧p≤4):So 72 [aI rows,aI s,aI p,aI seed] [.agg (bw (aeK rows s.toNat p.toNat seed))]:=by
 refine eA X2 call72 func72 rfl rfl (by decide) ntmps72 (by simp) ?_
 intro zb
 refine av X2 [0,1,2,3,8] rfl (aa (aM X2 [] [(13,⟨false,[aU (inr rows 1 64)]⟩),(17,⟨false,[aU (dG s)]⟩),(22,⟨false,[aU (inr p 1 4)]⟩)] [0,1,2,3,8,24] [] rfl (by(with_reducible and_intros);(iterate 3 all_goals try first|exact⟨⟩|exact(bl rows 1 64)|exact fun _=>(ff s)|exact fun _=>(bl p 1 4))) ?_))
 refine an rfl ?_ ?_<;>intro hb0
 ·try simp only[bG]at hb0
  simp[dG,inr]at hb0
  omega
 ·refine au (aM X2 [(28,163)] [(28,⟨true,[.agg (fK (⟨rows,[]⟩:mD))]⟩),(31,⟨false,[aI (kh seed [197])]⟩),(32,⟨false,[aI (F6 (kh seed [197]))]⟩)] [0,1,2,3,8,9] [] rfl (by(repeat' with_reducible first|exact bH|refine bS ?_ ?_|apply bh);(iterate 3 all_goals try first|exact(FX rows (by first|assumption|omega| (simp;done)| (simp;omega)))|exact(cI seed [197] (by first|assumption|omega| (simp;done)| (simp;omega)))|exact(pz (kh seed [197])));all_goals first|exact⟨rfl,cE _ (by decide)⟩) ?_)
  refine eo 9 1 161 .cu rfl (eo 9 2 162 .bR rfl (aa (av X2 [0,2,3,8,9,35,36] rfl ?_)))
  refine aB (aP (fun k=>k≤s.toNat) (fun k:Nat=> [(36, .one ((aI k)))]) (fun k=> [(161, .arr .cu (Jg rows k))]) (fun k=>s.toNat-k) 0 (fun k=>rfl) (aE _) rfl ?_)
  intro k hk
  have hle:=P0 rows k
  refine av X2 [0,2,3,8,9,35,36,37] rfl ?_
  refine aa (an rfl ?_ ?_)<;>intro bM
  ·try simp only[bG]at bM
   have hns:=Fo (id:=(k:Int)) (rows:=rows) (by omega) hr
   refine au (aa (aB (av X2 [0,2,3,8,9,10,35,36] rfl (aQ X2 [(45,161)] [(43,⟨true,[.agg (dF (newS (k:Int) rows 0))]⟩),(500044,⟨true,[]⟩)] [0,2,3,8,9,35,36] [] 63 0 MO (by kernel_rfl) rfl (by kernel_rfl) (by(repeat' with_reducible first|exact bH|refine bS ?_ ?_|apply bh)<;>first|exact(wS (k:Int) rows 0)|exact rfl|exact⟨rfl,cE _ (by decide)⟩| (simp only[gR,maxLen,lens];omega)) ?_))))
   rw[hns]
   refine bU X2 [0,2,3,8,9,35,36] rfl ?_
   refine⟨k+1,by omega,by omega,?_⟩
   rw[bZ _ k rfl (by omega),Ti]
   try rfl
  ·try simp only[bG]at bM
   have hks:s.toNat=k:=by omega
   refine aW (aa (av X2 [3,8,9,49,50] rfl ?_))
   refine aB (aP (fun k1=>k1≤(2*p.toNat)) (fun k1:Nat=> [(50, .one ((aI k1)))]) (fun k1=> [(162, .arr .bR (zA seed k1))]) (fun k1=>(2*p.toNat)-k1) 0 (fun k1=>rfl) (aE _) rfl ?_)
   intro k1 hk1
   have IX:=P1 seed k1
   have hp2:af.wrap (2*p)=2*p:=dm (by omega)
   refine av X2 [3,8,9,49,50,51] rfl ?_
   refine aa (an rfl ?_ ?_)<;>intro cS
   ·try simp only[bG]at cS
    rw[hp2]at cS
    have hkr:=wg (gB seed [199,(k1:Int).tdiv 2])
    have hx:(af.wrap (aH af.bits (k1:Int)^^^aH af.bits 1).toNat)=((k1^^^1:Nat):Int):=I1 k1 (by omega)
    have hxl:=Ax k1 8 (by omega) (by decide)
    have hxn:=P2 k1
    have oR:af.wrap ((k1:Int).tdiv 2)=(k1:Int).tdiv 2:=by rw[tH (by omega)];exact dm (by omega)
    refine au (aa (aB (av X2 [3,8,9,11,49,50] rfl ?_)))
    have t1:=(cI seed [199,af.wrap ((k1:Int).tdiv 2)] (by first|assumption|omega| (simp;done)| (simp;omega)))
    have t2:=(pz (kh seed [199,af.wrap ((k1:Int).tdiv 2)]))
    have t3:=(HP (k1:Int) (af.wrap (aH af.bits (k1:Int)^^^aH af.bits 1).toNat) (F6 (kh seed [199,af.wrap ((k1:Int).tdiv 2)])) (kh seed [211,(k1:Int)]) (by omega) (by rw[hx];omega) (by rw[hx];omega) (by rw[oR];omega))
    refine aQ X2 [(71,162)] [(62,⟨false,cx t1⟩),(63,⟨false,cx t2⟩),(67,⟨false,[aI (kh seed [211,(k1:Int)])]⟩),(68,⟨false,cx t3⟩),(69,⟨true,[.agg (dj (⟨(⟨(k1:Int),(af.wrap (aH af.bits (k1:Int)^^^aH af.bits 1).toNat),(F6 (kh seed [199,af.wrap ((k1:Int).tdiv 2)])),(kh seed [211,(k1:Int)]),[],0,[],0⟩:gI),(⟨(k1:Int),(af.wrap (aH af.bits (k1:Int)^^^aH af.bits 1).toNat),(F6 (kh seed [199,af.wrap ((k1:Int).tdiv 2)])),(kh seed [211,(k1:Int)]),[],0,[],0⟩:gI)⟩:bR))]⟩)] [3,8,9,49,50] [] 655359 2 MO (by kernel_rfl) rfl (by kernel_rfl) (by(repeat' with_reducible first|exact bH|refine bS ?_ ?_|apply bh);(iterate 5 all_goals try first|exact t1|exact t2|exact(cI seed [211,(k1:Int)] (by first|assumption|omega| (simp;done)| (simp;omega)))|exact t3|exact(qL (⟨(k1:Int),(af.wrap (aH af.bits (k1:Int)^^^aH af.bits 1).toNat),(F6 (kh seed [199,af.wrap ((k1:Int).tdiv 2)])),(kh seed [211,(k1:Int)]),[],0,[],0⟩:gI) ⟨aE _,aE _⟩));all_goals first| (intros;omega)|exact rfl|exact⟨rfl,cE _ (by decide)⟩| (simp only[gR,maxLen,lens];omega)) ?_
    rw[hx,oR]
    refine bU X2 [3,8,9,49,50] rfl ?_
    refine⟨k1+1,by omega,by omega,?_⟩
    rw[bZ _ k1 rfl (by omega),Tj]
    try rfl
   ·try simp only[bG]at cS
    rw[hp2]at cS
    have S2:2*p.toNat=k1:=by omega
    exact aW (aO X2 [8] rfl (by trivial) (aq (aj rfl ⟨rfl,by rw[hks];rfl,by rw[←S2];rfl,rfl,rfl,rfl,rfl,rfl,rfl,rfl,⟨⟩⟩)))
theorem CD(rows s p seed:Int):So 72 [aI rows,aI s,aI p,aI seed] [.agg (bw (Wd rows s p seed))]:=by
 cases h:((inr rows 1 64&&dG s)&&inr p 1 4)with
 |false=>rw[We h];exact FY rows s p seed h
 |true=>
  obtain⟨h1,h2,h3,h4⟩:=Qn h
  rw[h1]
  exact Jk rows s p seed h2 h3 h4
theorem CE(rows s p seed:Int):So 45 [aI rows,aI s,aI p,aI seed] [.agg (bw (Wd rows s p seed))]:=by
 cases h:((inr rows 1 64&&dG s)&&inr p 1 4)with
 |false=>rw[We h];exact FZ rows s p seed h
 |true=>
  obtain⟨h1,h2,h3,h4⟩:=Qn h
  rw[h1]
  exact Jh rows s p seed h2 h3 h4
theorem Bs(r row s:Int):So 74 [.agg (bw zW),aI r,aI row,aI s] [.a (.sl .u8 ([]:List UInt8)),aU false]:=by
 refine eA X2 call74 func74 rfl rfl (by decide) ntmps74 (by simp) ?_
 intro zb
 refine av X2 [1,2,3,4] rfl (aM X2 [] [(21,⟨true,[.agg (bQ (lY zW.aK.rounds r)),aU (oM zW.aK.rounds r)]⟩)] [1,2,3,4,10,11] [] rfl (by(with_reducible and_intros)<;>first|exact⟨⟩|exact(kj zW.aK r ⟨aE _,fun _ hi=>nomatch hi⟩)) (aa (aM X2 [] [(25,⟨false,[aU (okW zW)]⟩)] [1,2,3,4,10,30] [] rfl (by(with_reducible and_intros)<;>first|exact⟨⟩|exact(dy zW)) ?_)))
 refine an rfl ?_ ?_<;>intro hb0
 ·exact av X2 [8,9] rfl (aq (aj rfl ⟨rfl,rfl,⟨⟩⟩))
 ·exact absurd hb0 (by rw[Bn];exact Bool.noConfusion)
theorem Bt(r row s:Int):So 53 [.agg (bw zW),aI r,aI row,aI s] [.a (.sl .u8 ([]:List UInt8)),aU false]:=by
 refine eA X2 call53 func53 rfl rfl (by decide) ntmps53 (by simp) ?_
 intro zb
 refine av X2 [1,2,3,4] rfl (aa (aM X2 [] [(11,⟨false,[aU (okW zW)]⟩)] [1,2,3,4,12] [] rfl (by(with_reducible and_intros)<;>first|exact⟨⟩|exact(dL zW)) ?_))
 refine an rfl ?_ ?_<;>intro hb0
 ·exact aO X2 [8,9] rfl (by and_intros<;>first|exact⟨⟩|exact rfl) (aq (aj rfl ⟨rfl,rfl,⟨⟩⟩))
 ·exact absurd hb0 (by rw[Bn];exact Bool.noConfusion)
end
end Go.Proofs.YtaalpcnbbldlaaaGreatDoor.G
