/-
  What scripts stand on: numerals, words, networks made anew, words of consent.
-/
import Derived.Lib.AtoiErrMem
import Derived.Test.YtaalpcnbbldlaaaGreatDoorR16
import Derived.Test.YtaalpcnbbldlaaaGreatDoorR20
namespace Go.Proofs.YtaalpcnbbldlaaaGreatDoor.G
set_option linter.all false
open Go.RowKit L D Tryz
section
set_option maxRecDepth 100000
theorem UY{w:World}{L:List (List UInt8)}(hl:L.length≤1099511627776)(hs: ∀x,x∈L→x.length≤1099511627776):
  PS ty w [.a (.sl .str L)] (.returned (.slice (some ⟨w.heap.size,0,none⟩) L.length L.length)) (w.alloc (.cells (L.map fun x=>Value.string (aX x)).toArray (ty .str))):=by
 have hc:(w.alloc (.cells (L.map fun x=>Value.string (aX x)).toArray (ty .str))).heap[w.heap.size]? =some (.cells (L.map fun x=>Value.string (aX x)).toArray (ty .str) (0,0)):=kI rfl;have hfl:(L.map fun _=>([]:List Nat)).flatten= []:=by
  induction L with
  |nil=>rfl
  |cons x r ih=>simp
 have hown:Own w.heap.size (w.alloc (.cells (L.map fun x=>Value.string (aX x)).toArray (ty .str))) (w.heap.size::(L.map fun _=>([]:List Nat)).flatten):=by
  rw[hfl];exact⟨by simp,fun b hb=>by simp at hb;omega,fun b hb=>by simp at hb;subst hb;exact⟨_,_,hc⟩⟩
 have hB:=oX (ep .str) (l:=L) (bX:=L.map fun _=>([]:List Nat)) (o:=0) (n:=L.length) hc (by simp[kk]) (Nat.le_refl _) (by unfold maxLen;omega) ⟨by simp,fun i x f hx hf=> ?_⟩ hown
 ·exact⟨_,_,rfl,(Below.refl _ _).alloc (Nat.le_refl _) _,hown,_,[],hB,rfl,by simp⟩
 ·rw[List.getElem?_map,hx]at hf;simp only[Option.map_some,oI]at hf;subst hf;refine⟨[.string (aX x)],fun j v hj=> ?_,rfl,by have:=hs x (List.mem_of_getElem? hx);unfold maxLen;omega,rfl⟩;cases j with
  |succ j=>simp at hj
  |zero=>
   simp only[List.getElem?_cons_zero,oI]at hj;subst hj;show(match(w.alloc (.cells (L.map fun x=>Value.string (aX x)).toArray (ty .str))).heap[w.heap.size]? with|some (.cells cs _ _)=>cs[(0+i*1)+0]? |_=>none)=_
   rw[hc];simp[hx]
theorem l7(s:List UInt8)(c:UInt8)(hs:s.length≤1048576):So 12 [.a (.lit (.string (aX s))), .a (.lit (.string (aX [c])))] [.a (.sl .str (bR c s))]:=by
 refine⟨call12,?_⟩;intro w us hA ha;match us,ha with
 | [u,v],⟨h1,h2,_⟩=>
   obtain⟨_,rfl,_,_⟩:=h1;obtain⟨_,rfl,_,_⟩:=h2;obtain⟨m,e,k,hm⟩:=hA.len;refine(Tryz.strings_Split (aX s) (aX [c]) m w (by rw[bZ];omega) ?_ (by rw[bZ];exact Nat.le_refl 1)).mono ?_
   ·show(match w.heap[0]? with|some (.cells cs _ _)=>cs[0]? |_=>none)=_
    rw[hm];rfl
   ·rintro e w' ⟨rfl,rfl⟩;have h1:=No c (aX [c]) rfl _ (aX s) rfl;have hls:(aX s).data.toList=s:=by simp[aX]
    rw[hls]at h1;have h2:=Lib.splitB_all (aX [c]) (by rw[bZ];exact Nat.le_refl 1) 0 _ (aX s) rfl;have h3:(Lib.splitB (aX [c]) 0 (Lib.countB (aX s) (aX [c])) (aX s)).map Value.string=(bR c s).map fun x=>Value.string (aX x):=by
     rw[←h1,List.map_map];refine List.map_congr_left fun x _=> ?_;simp[aX]
    have h4:Lib.countB (aX s) (aX [c])+1=(bR c s).length:=by rw[←h1,List.length_map,h2]
    rw[h3,h4];have hw:=kr c s;refine UY (by have:=uM (bR c s);omega) fun x hx=> ?_;have:=aal hx;omega
theorem BM{w w':World}(hA:Cq w)(h:Below w.heap.size w w'):Cq w':=hA.keep fun b _ hlt=>h.block b hlt
theorem Pn{w w':World}{n:Int}{b:Bool}(hb:Below w.heap.size w w'):PS ty w [.a (.lit (.int .i64 n)), .a (.lit (.bool b))] (.returned (.tuple #[.int .i64 n, .bool b])) w':=
 ⟨_,[],rfl,hb,Own.nil _ _,[_,_],rfl,[],[],⟨[],[],⟨rfl,rfl,rfl⟩,rfl,rfl⟩,⟨[],[],⟨[],[],⟨rfl,rfl,rfl⟩,rfl,rfl⟩,rfl,rfl⟩,rfl⟩
theorem Po{s:List UInt8}(h:cS s=false){w w':World}(hb:Below w.heap.size w w'):PS ty w [.a (.lit (.int .i64 (cu s))), .a (.lit (.bool (cS s)))] (.returned (.tuple #[.int .i64 0, .bool false])) w':=by
 rw[show cu s=0 by unfold cu;rw[h];rfl,h];exact Pn hb
theorem aao{s:List UInt8}(h:cS s=true){n:Int}(hn:n=iN s){w w':World}(hb:Below w.heap.size w w'):PS ty w [.a (.lit (.int .i64 (cu s))), .a (.lit (.bool (cS s)))] (.returned (.tuple #[.int .i64 n, .bool true])) w':=by
 rw[show cu s=n by unfold cu;rw[h,hn];rfl,h];exact Pn hb
theorem FQ(s:List UInt8)(h13:13<s.length)(hs:s.length≤1048576)(w:World):Calls Tryz.prog 28 #[.string (aX s)] w (PS ty w [.a (.lit (.int .i64 (cu s))), .a (.lit (.bool (cS s)))]):=by
 have hp:cS s=false:=by
  cases h:cS s with
  |false=>rfl
  |true=>
   simp only[cS,Bool.and_eq_true,decide_eq_true_eq]at h;omega
 have hz:(aX s).size=s.length:=bZ s
 go_enter func28,ntmps28
 go_wp2
 refine bodyPost_ret (results_tmp2 rfl _ _ _) rfl ?_;exact Po hp (Below.refl _ _)
theorem Ly(s:List UInt8)(h13: ¬13<s.length)(ha:Lib.atoi s=none)(w:World)(hA:Cq w):Calls Tryz.prog 28 #[.string (aX s)] w (PS ty w [.a (.lit (.int .i64 (cu s))), .a (.lit (.bool (cS s)))]):=by
 have hp:cS s=false:=by
  cases h:cS s with
  |false=>rfl
  |true=>
   have h1:=(Lx h).1;rw[Lib.atoiAll_short s (by omega),ha]at h1;cases h1
 have hz:(aX s).size=s.length:=bZ s;obtain⟨t,p,e,k,hm⟩:=hA.syn;have Nf:=Tryz.strconv_Atoi_err (aX s) (by omega) (by rw[show(aX s).data.toList=s by simp[aX]];exact ha) (.iface t p) w (by
  show(match w.heap[3]? with|some (.cells cs _ _)=>cs[0]? |_=>none)=_
  rw[hm];rfl) (Or.inr ⟨t,p,rfl⟩)
 go_enter func28,ntmps28
 go_wp2_with (go_at_call 68;refine Nf.mono ?_;rintro e w' ⟨N,rfl,_,_,hbel⟩)
 refine bodyPost_ret (results_tmp2 rfl _ _ _) rfl ?_;exact Po hp hbel
theorem FR(s:List UInt8)(h13: ¬13<s.length){n:Int}(ha:Lib.atoi s=some n)(w:World)(hA:Cq w):Calls Tryz.prog 28 #[.string (aX s)] w (PS ty w [.a (.lit (.int .i64 (cu s))), .a (.lit (.bool (cS s)))]):=by
 have hz:(aX s).size=s.length:=bZ s;have hyes:cS s=true→n=iN s∧Lib.itoa n=s∧0≤n∧n≤1000000000000:=fun h=>by
  obtain⟨h1,h2,h3⟩:=Lx h;rw[Lib.atoiAll_short s (by omega),ha]at h1;have h4:n=iN s:=by injection h1
  subst h4;exact⟨rfl,h2,by omega,by omega⟩
 have Nf:=Tryz.strconv_Atoi (aX s) n (by omega) (by rw[show(aX s).data.toList=s by simp[aX]];exact ha) w;have hb:=Lib.atoiAll_bounds (l:=s) (v:=n) (by rw[Lib.atoiAll_short s (by omega),ha];rfl);have hbel: ∀T t,Below w.heap.size w (Lib.bytesWorld w T t):=fun T t=>Lib.bytesWorld_below w T t;have hin: ∀w',Cq w'→Calls Tryz.prog 69 #[.int .i64 n, .int .i64 0, .int .i64 1000000000000] w' (NL w' (.bool (inr n 0 1000000000000))):=fun w' hA'=>
  D9 (aK n 0 1000000000000) (us:= [.int .i64 n, .int .i64 0, .int .i64 1000000000000]) ⟨yL rfl,yL rfl,yL rfl,⟨⟩⟩ hA'
 have hfm: ∀w',Cq w'→Calls Tryz.prog 62 #[.int .i64 n] w' (NL w' (.string (aX (Lib.itoa n)))):=fun w' hA'=>
  D9 (bw n hb) (us:= [.int .i64 n]) ⟨yL rfl,⟨⟩⟩ hA'
 go_enter func28,ntmps28
 go_wp2_with (first| (go_at_call 68;refine Nf.mono ?_;rintro e w' ⟨rfl,t,rfl⟩)| (go_at_call 69;refine(hin _ (BM hA (hbel _ _))).mono ?_;rintro e w1 ⟨rfl,aV⟩)| (go_at_call 62;refine(hfm _ (BM (BM hA (hbel _ _)) (by assumption))).mono ?_;rintro e w2 ⟨rfl,bI⟩))
 ·rename_i hx;refine bodyPost_ret (results_tmp2 rfl _ _ _) rfl ?_;refine Po ?_ ((hbel _ _).trans ((aV.trans (bI.mono aV.size)).mono (hbel _ _).size));cases hp:cS s with
  |false=>rfl
  |true=>rw[(hyes hp).2.1]at hx;simp at hx
 ·rename_i hi hx;refine bodyPost_ret (results_tmp2 rfl _ _ _) rfl ?_;have he:Lib.itoa n=s:=by
   have hx2:((aX (Lib.itoa n)).toList==(aX s).toList)=true:=by rwa [Bool.not_eq_false']at hx
   have:=eq_of_beq hx2;rw[ByteArray.toList_eq,ByteArray.toList_eq]at this;exact this
  have hp:cS s=true:=by
   cases hp:cS s with
   |true=>rfl
   |false=>exact absurd he (Xt hp (by omega) (b7.mp hi))
  exact aao hp (hyes hp).1 ((hbel _ _).trans ((aV.trans (bI.mono aV.size)).mono (hbel _ _).size))
 ·rename_i hi;refine bodyPost_ret (results_tmp2 rfl _ _ _) rfl ?_;refine Po ?_ ((hbel _ _).trans (aV.mono (hbel _ _).size));cases hp:cS s with
  |false=>rfl
  |true=>exact absurd (b7.mpr ⟨(hyes hp).2.2.1,(hyes hp).2.2.2⟩) hi
theorem l8(s:List UInt8)(hs:s.length≤1048576):So 28 [.a (.lit (.string (aX s)))] [.a (.lit (.int .i64 (cu s))), .a (.lit (.bool (cS s)))]:=by
 refine⟨call28,?_⟩;intro w us hA ha;match us,ha with
 | [u],⟨h1,_⟩=>
   obtain⟨_,rfl,_,_⟩:=h1;by_cases h13:13<s.length
   ·exact FQ s h13 hs w
   ·cases ha:Lib.atoi s with
    |none=>exact Ly s h13 ha w hA
    |some n=>exact FR s h13 ha w hA
theorem aaq(s:List UInt8):Lib.idxOfS (names.map aX) (aX s)=LV s:=by
 have e: ∀a:List UInt8,(aX a=aX s)=(s=a):=fun a=>by
  refine propext ⟨fun h=> ?_,fun h=>by rw[h]⟩;have:=congrArg (fun b:ByteArray=>b.data.toList) h;simpa[aX]using this.symm
 unfold Lib.idxOfS names LV;simp only[List.map_cons,List.map_nil,Lib.idxFromS,e];rfl
theorem uQ(s:List UInt8):So 30 [.a (.sl .str names), .a (.lit (.string (aX s)))] [.a (.lit (.int .i64 (LV s)))]:=by
 refine⟨call30,?_⟩;rintro w us _ ha;match us,ha with
 | [u,v],⟨h1,h2,_⟩=>
   obtain⟨fp,h1⟩:=h1;obtain⟨_,rfl,_,_⟩:=h2;obtain⟨oa,cap,rfl,hc,hm,h3⟩:=(show Sl 1 Q1 w u names fp from h1);rcases h3 with⟨h0,_⟩| ⟨b,off,bX,rfl,hb,rfl,hE⟩
   ·exact absurd h0 (by decide)
   ·have:=Tryz.slices_Index_string b off names.length cap (names.map aX) (aX s) w (by rw[List.length_map];exact Nat.le_refl _) (by decide) (fun j hj=>by
      rw[List.length_map]at hj;have hx:names[j]? =some names[j]:=List.getElem?_eq_getElem hj;obtain⟨f,hf⟩:=fG hE.1 hx;obtain⟨cs,q1,rfl,_⟩:=hE.2 j _ f hx hf;have:=q1 0 _ rfl;rw[Nat.add_zero,Nat.mul_one]at this;rw[this,List.getD_eq_getElem?_getD,List.getElem?_map,hx];rfl)
    refine this.mono ?_;rintro e w' ⟨rfl,rfl⟩;rw[List.take_of_length_le (by rw[List.length_map];exact Nat.le_refl _),aaq];exact⟨_,[],rfl,Below.refl _ _,Own.nil _ _,⟨[],[],⟨rfl,rfl,rfl⟩,rfl,rfl⟩⟩
end
section
set_option maxRecDepth 100000
theorem Cn(b:Bool):So 71 [aH b] [.a (.lit (.string (Ag b)))]:=by
 refine cw X2 call71 func71 rfl rfl (by decide) ntmps71 (by simp) ?_;intro zb;refine aq X2 [0] rfl (aa (aq X2 [3] rfl ?_));refine aj rfl ?_ ?_<;>intro hb0
 ·exact aq X2 [2] rfl (ak (ah rfl ⟨by rw[Ag,if_pos hb0],⟨⟩⟩))
 ·exact an (aq X2 [2] rfl (ak (ah rfl ⟨by rw[Ag,if_neg (by rw[hb0];decide)],⟨⟩⟩)))
theorem Ah(b:Bool):So 65 [aH b] [.a (.lit (.string (sK b)))]:=by
 refine cw X2 call65 func65 rfl rfl (by decide) ntmps65 (by simp) ?_;intro zb;refine aq X2 [0] rfl (aa (aq X2 [3] rfl ?_));refine aj rfl ?_ ?_<;>intro hb0
 ·exact aq X2 [2] rfl (ak (ah rfl ⟨by rw[sK,if_pos hb0],⟨⟩⟩))
 ·exact an (aq X2 [2] rfl (ak (ah rfl ⟨by rw[sK,if_neg (by rw[hb0];decide)],⟨⟩⟩)))
theorem Ai(b:Bool):So 46 [aH b] [.a (.lit (.string (Ag b)))]:=by
 refine cw X2 call46 func46 rfl rfl (by decide) ntmps46 (by simp) ?_;intro zb;refine aq X2 [0] rfl (aa (aq X2 [3] rfl ?_));refine aj rfl ?_ ?_<;>intro hb0
 ·exact aq X2 [2] rfl (ak (ah rfl ⟨by rw[Ag,if_pos hb0],⟨⟩⟩))
 ·exact an (aq X2 [2] rfl (ak (ah rfl ⟨by rw[Ag,if_neg (by rw[hb0];decide)],⟨⟩⟩)))
theorem w5(b:Bool):So 42 [aH b] [.a (.lit (.string (sK b)))]:=by
 refine cw X2 call42 func42 rfl rfl (by decide) ntmps42 (by simp) ?_;intro zb;refine aq X2 [0] rfl (aa (aq X2 [3] rfl ?_));refine aj rfl ?_ ?_<;>intro hb0
 ·exact aq X2 [2] rfl (ak (ah rfl ⟨by rw[sK,if_pos hb0],⟨⟩⟩))
 ·exact an (aq X2 [2] rfl (ak (ah rfl ⟨by rw[sK,if_neg (by rw[hb0];decide)],⟨⟩⟩)))
theorem Aj(l:List eZ):So 63 [.a (.sl .eZ l)] [aA (wD l l.length)]:=by
 refine cw X2 call63 func63 rfl rfl (by decide) ntmps63 (by simp) ?_;intro zb;refine ct 0 rfl (fun ir=>(aq X2 [0] rfl (aq X2 [0,3] rfl (aa (aq X2 [3,6,7,8] rfl ?_)))));refine au (aE (fun k=>k≤l.length) (fun k:Nat=> [(3, .one ((aA (wD l k)))),(8, .one ((aA k)))]) (fun k=> []) (fun k=>l.length-k) 0 (fun k=>rfl) (Nat.zero_le _) rfl ?_);intro k hk;refine aq X2 [3,6,7,8,9] rfl ?_;refine aa (aj rfl ?_ ?_)<;>intro hb0
 ·try simp only[aQ]at hb0
  refine an (aa (au (aD X2 [3,5,6,7,8] rfl (by and_intros<;>first|exact⟨⟩| (intros;omega)) (dy X2 [3,6,7,8] rfl (by trivial) (bg X2 [3,6,7,8] rfl ?_)))));refine⟨k+1,by omega,by omega,?_⟩;rw[bh _ k rfl (by omega)];try rfl
 ·try simp only[aQ]at hb0
  exact aI (aq X2 [2] rfl (ak (ah rfl ⟨by rw[show k=l.length by omega],⟨⟩⟩)))
theorem Ak(l:List eZ):So 40 [.a (.sl .eZ l)] [aA (wD l l.length)]:=by
 refine cw X2 call40 func40 rfl rfl (by decide) ntmps40 (by simp) ?_;intro zb;refine ct 0 rfl (fun ir=>(aq X2 [0] rfl (aq X2 [0,3] rfl (aa (aq X2 [0,3,4] rfl ?_)))));refine au (aE (fun k=>k≤l.length) (fun k:Nat=> [(3, .one ((aA (wD l k)))),(4, .one ((aA k)))]) (fun k=> []) (fun k=>l.length-k) 0 (fun k=>rfl) (Nat.zero_le _) rfl ?_);intro k hk;refine aa (aq X2 [0,3,4,8] rfl ?_);refine aj rfl ?_ ?_<;>intro hb0
 ·try simp only[aQ]at hb0
  refine an (aa (au (dy X2 [0,3,4] rfl (by and_intros<;>first|exact⟨⟩| (intros;omega)) (bg X2 [0,3,4] rfl ?_))));refine⟨k+1,by omega,by omega,?_⟩;rw[bh _ k rfl (by omega)];try rfl
 ·try simp only[aQ]at hb0
  exact aI (aq X2 [2] rfl (ak (ah rfl ⟨by rw[show k=l.length by omega],⟨⟩⟩)))
theorem rP(s:List UInt8)(c:UInt8)(hs:s.length≤1048576):So 10 [.a (.lit (.string (aX s))), .a (.lit (.int .u8 (c.toNat:Int)))] [.a (.sl .str (bR c s))]:=by
 refine cw X2 call10 func10 rfl rfl (by decide) ntmps10 (by simp) ?_;intro zb;have hz:(aX s).size=s.length:=rfl;refine aq X2 [0,1] rfl (aD X2 [0,1,5] rfl (by and_intros<;>first|exact⟨⟩|exact rfl) (aq X2 [0,1,5,6] rfl (aa (aq X2 [0,1,5,6,7] rfl ?_))));refine au (aE (fun k=>k≤(s.length+1)) (fun k:Nat=> [(6, .one ((aA ((wZ c s k).2:Int)))),(7, .one ((aA k)))]) (fun k=> [(8, .arr .str (wZ c s k).1)]) (fun k=>(s.length+1)-k) 0 (fun k=>rfl) (Nat.zero_le _) rfl ?_);intro k hk;have hfr:=I3 c s k;refine aa (aq X2 [0,1,5,6,7,12] rfl ?_);refine aj rfl ?_ ?_<;>intro hb0
 ·have hk2:k≤s.length:=by rw[decide_eq_true_eq]at hb0;omega
  refine an (aa (au (aD X2 [0,1,5,6,7,25] rfl (And.intro (fun h=>by(have h2:(((k:Int)==((aX s).size:Int))=false):=h;rw[beq_eq_false_iff_ne]at h2;show 0≤(k:Int)∧(k:Int)<((aX s).size:Int);omega)) ⟨⟩) ?_)));refine aj rfl ?_ ?_<;>intro aV
  ·try simp only[aQ]at aV
   have hst:=Dl (ac3 aV);refine aa ?_;have hcz:=aau s (wZ c s k).2 k;have Jc:1048576≤maxLen:=by decide
   have hpc:=aat s (wZ c s k).2 k;refine aL X2 [(32,8)] [] [0,1,5,7] [] rfl (by and_intros<;>first|exact⟨⟩| (intros;omega)|exact rfl| (simp only[dN,maxLen,lens];omega)) (bg X2 [0,1,5,6,7] rfl (bg X2 [0,1,5,6,7] rfl ?_));refine⟨k+1,by omega,by omega,?_⟩;rw[bh _ k rfl (by omega),hst, ←hpc];try rfl
  ·try simp only[aQ]at aV
   have hst:=Nu (ac4 aV);refine an (bg X2 [0,1,5,6,7] rfl ?_);refine⟨k+1,by omega,by omega,?_⟩;rw[bh _ k rfl (by omega),hst];try rfl
 ·have PW:k=s.length+1:=by rw[decide_eq_false_iff_not]at hb0;omega
  exact aI (aq X2 [4] rfl (ak (ah rfl ⟨by rw[PW,Xz],⟨⟩⟩)))
theorem l9(s:List UInt8)(hs:s.length≤1048576):So 23 [.a (.lit (.string (aX s)))] [aA (cu s),aH (cS s)]:=by
 refine cw X2 call23 func23 rfl rfl (by decide) ntmps23 (by simp) ?_;intro zb;have hz:(aX s).size=s.length:=rfl;refine aq X2 [0] rfl (aa (aC X2 [] [(8,⟨false,[aH (inr (s.length:Int) 1 13)]⟩)] [0,9] [] rfl (by(with_reducible and_intros)<;>first|exact⟨⟩|exact(aP (s.length:Int) 1 13)) ?_));refine aj rfl ?_ ?_<;>intro hb0
 ·try simp only[aQ]at hb0
  have hp:=XA (s:=s) (by omega);exact aq X2 [2,3] rfl (ak (ah rfl ⟨by rw[I4 hp],by rw[hp],⟨⟩⟩))
 ·try simp only[aQ]at hb0
  have U4:1≤s.length∧s.length≤13:=by omega
  refine an (aq X2 [0,4] rfl (aa (aq X2 [0,4,5] rfl ?_)));refine au (aE (fun k=>k≤s.length∧(s.take k).all G6=true) (fun k:Nat=> [(4, .one ((aA (iN (s.take k):Int)))),(5, .one ((aA k)))]) (fun k=> []) (fun k=>s.length-k) 0 (fun k=>rfl) ⟨Nat.zero_le _,rfl⟩ rfl ?_);rintro k ⟨hk,hall⟩;have ac6:=XC hk U4.2 hall;refine aa (aq X2 [0,4,5,13] rfl ?_);refine aj rfl ?_ ?_<;>intro aV
  ·try simp only[aQ]at aV
   refine an (aa (au (aa (aa ?_))));have t1:=(aP (IntKind.i64.wrap ((s.getD k 0).toNat:Int)) 48 57);refine aL X2 [] [(20,⟨false,bq t1⟩)] [0,4,5,21] [] rfl (by(with_reducible and_intros)<;>first|exact⟨⟩|exact t1| (intros;omega)) ?_;refine aj rfl ?_ ?_<;>intro bI
   ·rw[U1]at bI;have hp:=XB (s:=s) (k:=k) (by omega) (by simpa using bI);exact aq X2 [2,3] rfl (ak (ah rfl ⟨by rw[I4 hp],by rw[hp],⟨⟩⟩))
   ·rw[U1]at bI;have hdg:inr ((s.getD k 0).toNat:Int) 48 57=true:=by simpa using bI
    refine an (dy X2 [0,4,5] rfl (by and_intros<;>first|exact⟨⟩| (intros;omega)) (bg X2 [0,4,5] rfl ?_));refine⟨k+1,⟨by omega,UZ (by omega) hall hdg⟩,by omega,?_⟩;rw[bh _ k rfl (by omega),aav (by omega) ac6 hdg];try rfl
  ·try simp only[aQ]at aV
   have htk:s.take k=s:=List.take_of_length_le (by omega);rw[htk];rw[htk]at hall ac6;refine aI (aa (aC X2 [] [(34,⟨false,[.a (.lit (.string (aX (Lib.itoa (iN s:Int)))))]⟩)] [4,37] [] rfl (by(with_reducible and_intros)<;>first|exact⟨⟩|exact fun _=>(aU (iN s:Int) (by first|assumption|omega| (simp;done)| (simp;omega)))) ?_));refine aj rfl ?_ ?_<;>intro eE
   ·try simp only[aQ]at eE
    have hp:=XD U4.1 U4.2 hall eE;exact aq X2 [2,3] rfl (ak (ah rfl ⟨by rw[I4 hp],by rw[hp],⟨⟩⟩))
   ·try simp only[aQ]at eE
    have hp:=U0 U4.1 U4.2 hall eE;exact an (aq X2 [2,3] rfl (ak (ah rfl ⟨by rw[hp.2],by rw[hp.1],⟨⟩⟩)))
theorem wE(x:aW)(c:Int)(hd:x.af.length≤1048576)(hin:cE List.length (wq x c)≤1048576):So 50 [.agg (aN x),aA c] [.a (.lit (.string (BG x c)))]:=by
 refine cw X2 call50 func50 rfl rfl (by decide) ntmps50 (by simp) ?_;intro zb;have K6:cE List.length (x.af.getD c.toNat (aG .aZ)).live.inbox≤1048576:=hin;have Yn:=cA K6;have hw:IntKind.i64.wrap ((x.af.length:Int)-1)=(x.af.length:Int)-1:=bO (by omega);refine aq X2 [1,2] rfl (aa (aa ?_));have t1:=(aP c 0 (IntKind.i64.wrap ((x.af.length:Int)-1)));refine aL X2 [] [(13,⟨false,bq t1⟩)] [1,2,25] [] rfl (by(with_reducible and_intros);(iterate 3 all_goals try first|exact⟨⟩|exact t1);all_goals first| ((intro h1;first| (intro h2;first| (intro h3;refine And.intro ?_ ?_)|refine And.intro ?_ ?_)|refine And.intro ?_ ?_)<;>first|omega| ((try simp only[aQ]at*);(try simp(disch:=omega) only[bO]);omega))) ?_;refine aj rfl ?_ ?_<;>intro hb0
 ·rw[hw]at hb0;have hkr:Fi x c=false:=bH hb0 (by simp only[Fi,wq,aO]<;>first|rfl|ac_rfl);exact aq X2 [4] rfl (ak (ah rfl ⟨by rw[BG,hkr];rfl,⟨⟩⟩))
 ·rw[hw]at hb0;have hkr:Fi x c=true:=bF hb0 (by simp only[Fi,wq,aO]<;>first|rfl|ac_rfl);have hr:=UG hd hkr;refine an (aq X2 [1,2,5] rfl (aD X2 [5,6] rfl (by and_intros<;>first|exact⟨⟩| (intros;omega)) (aa (aq X2 [5,6,7] rfl ?_))));refine au (aE (fun k=>k≤(x.af.getD c.toNat (aG .aZ)).live.inbox.length) (fun k:Nat=> [(5, .one (.a (.lit (.string (jn (wq x c) 124 k))))),(7, .one ((aA k)))]) (fun k=> []) (fun k=>(x.af.getD c.toNat (aG .aZ)).live.inbox.length-k) 0 (fun k=>rfl) (Nat.zero_le _) rfl ?_);intro k hk;have hjs:=UN (wq x c) 124 k;refine aa (aq X2 [5,6,7,36] rfl ?_);refine aj rfl ?_ ?_<;>intro aV
  ·try simp only[aQ]at aV
   have hy:=mD K6 aV;refine an (aa (au (aa (aq X2 [5,6,7,40] rfl ?_))));refine aj rfl ?_ ?_<;>intro bI
   ·try simp only[aQ]at bI
    have hs:=Dj (wq x c) 124 (k:=k) aV (by omega);refine dy X2 [5,6,7] rfl (by(with_reducible and_intros);(iterate 2 all_goals try first|exact⟨⟩|exact(by simp only[ByteArray.size_append,fM,bZ,fE,Int.toNat_natCast];omega))) (dy X2 [5,6,7] rfl (by(with_reducible and_intros);(iterate 2 all_goals try first|exact⟨⟩|exact(by simp only[ByteArray.size_append,fM,bZ,fE,Int.toNat_natCast];omega));all_goals first| (intros;omega)) (bg X2 [5,6,7] rfl ?_));refine⟨k+1,by omega,by omega,?_⟩;rw[bh _ k rfl (by omega),hs];try rfl
   ·try simp only[aQ]at bI
    have hs:=Ae (wq x c) 124 (k:=k) aV (by omega);refine an (dy X2 [5,6,7] rfl (by(with_reducible and_intros);(iterate 2 all_goals try first|exact⟨⟩|exact(by simp only[ByteArray.size_append,fM,bZ,fE,Int.toNat_natCast];omega));all_goals first| (intros;omega)) (bg X2 [5,6,7] rfl ?_));refine⟨k+1,by omega,by omega,?_⟩;rw[bh _ k rfl (by omega),hs];try rfl
  ·try simp only[aQ]at aV
   exact aI (aq X2 [4] rfl (ak (ah rfl ⟨by rw[BG,if_pos hkr];unfold jn;rw[List.take_of_length_le (show(wq x c).length≤k from aV)],⟨⟩⟩)))
theorem Al(r:Int)(h:1≤r∧r≤64):So 130 [aA r] [.agg (cV (⟨r,[]⟩:gZ))]:=by
 refine cw X2 call130 func130 rfl rfl (by decide) ntmps130 (by simp) ?_;intro zb;refine aq X2 [0,2] rfl (aa (aC X2 [] [(4,⟨false,[aH (inr r 1 64)]⟩)] [0,2,5] [] rfl (by(with_reducible and_intros)<;>first|exact⟨⟩|exact(aK r 1 64)) ?_));refine aj rfl ?_ ?_<;>intro hb0
 ·try simp only[aQ]at hb0
  omega
 ·try simp only[aQ]at hb0
  exact an (aD X2 [2] rfl (by trivial) (ak (ah rfl ⟨rfl,rfl,⟨⟩⟩)))
theorem BN(i f k s:Int)(h1:0≤i∧i≤7)(h2:0≤f∧f≤7)(h3:i≠f)(h4:1≤k∧k≤2147483646):So 135 [aA i,aA f,aA k,aA s] [.agg (bG (⟨i,f,k,s,[],0,[],0⟩:dF))]:=by
 refine cw X2 call135 func135 rfl rfl (by decide) ntmps135 (by simp) ?_;intro zb;refine aq X2 [0,1,2,3,8] rfl (aa (aC X2 [] [(10,⟨false,[aH (inr i 0 7)]⟩),(14,⟨false,[aH (inr f 0 7)]⟩),(24,⟨false,[aH (eM k)]⟩)] [0,1,2,3,8,26] [] rfl (by(with_reducible and_intros);(iterate 3 all_goals try first|exact⟨⟩|exact(aK i 0 7)|exact fun _=>(aK f 0 7)|exact fun _=>(fA k))) ?_));refine aj rfl ?_ ?_<;>intro hb0
 ·try simp only[aQ]at hb0
  have hq:eM k=true:=by unfold eM;rw[b7];exact h4
  rw[hq]at hb0;simp at hb0;omega
 ·try simp only[aQ]at hb0
  exact an (aD X2 [8] rfl (by trivial) (ak (ah rfl ⟨rfl,rfl,rfl,rfl,rfl,rfl,rfl,rfl,⟨⟩⟩)))
theorem Am(rows s p seed:Int)(h:((inr rows 1 64&&bT s)&&inr p 1 4)=false):So 72 [aA rows,aA s,aA p,aA seed] [.agg (aN zW)]:=by
 refine cw X2 call72 func72 rfl rfl (by decide) ntmps72 (by simp) ?_;intro zb;refine aq X2 [0,1,2,3,8] rfl (aa (aC X2 [] [(13,⟨false,[aH (inr rows 1 64)]⟩),(17,⟨false,[aH (bT s)]⟩),(22,⟨false,[aH (inr p 1 4)]⟩)] [0,1,2,3,8,24] [] rfl (by(with_reducible and_intros);(iterate 3 all_goals try first|exact⟨⟩|exact(aK rows 1 64)|exact fun _=>(cN s)|exact fun _=>(aK p 1 4))) ?_));refine aj rfl ?_ ?_<;>intro hb0
 ·exact aD X2 [8] rfl (by trivial) (ak (ah rfl ⟨rfl,rfl,rfl,rfl,rfl,rfl,rfl,rfl,rfl,rfl,⟨⟩⟩))
 ·exact absurd hb0 (by cases h1:inr rows 1 64<;>cases h2:bT s<;>cases h3:inr p 1 4<;>simp[h1,h2,h3]at h ⊢)
theorem An(rows s p seed:Int)(h:((inr rows 1 64&&bT s)&&inr p 1 4)=false):So 45 [aA rows,aA s,aA p,aA seed] [.agg (aN zW)]:=by
 refine cw X2 call45 func45 rfl rfl (by decide) ntmps45 (by simp) ?_;intro zb;refine aq X2 [0,1,2,3,8] rfl (aa (aC X2 [] [(14,⟨false,[aH (inr rows 1 64)]⟩),(18,⟨false,[aH (bT s)]⟩),(23,⟨false,[aH (inr p 1 4)]⟩)] [0,1,2,3,8,25] [] rfl (by(with_reducible and_intros);(iterate 3 all_goals try first|exact⟨⟩|exact(aP rows 1 64)|exact fun _=>(ez s)|exact fun _=>(aP p 1 4))) ?_));refine aj rfl ?_ ?_<;>intro hb0
 ·exact aD X2 [8] rfl (by trivial) (ak (ah rfl ⟨rfl,rfl,rfl,rfl,rfl,rfl,rfl,rfl,rfl,rfl,⟨⟩⟩))
 ·exact absurd hb0 (by cases h1:inr rows 1 64<;>cases h2:bT s<;>cases h3:inr p 1 4<;>simp[h1,h2,h3]at h ⊢)
theorem CU(rows s p seed:Int)(hr:1≤rows∧rows≤64)(hs:2≤s∧s≤4)(hp:1≤p∧p≤4):So 72 [aA rows,aA s,aA p,aA seed] [.agg (aN (UB rows s.toNat p.toNat seed))]:=by
 refine cw X2 call72 func72 rfl rfl (by decide) ntmps72 (by simp) ?_;intro zb;refine aq X2 [0,1,2,3,8] rfl (aa (aC X2 [] [(13,⟨false,[aH (inr rows 1 64)]⟩),(17,⟨false,[aH (bT s)]⟩),(22,⟨false,[aH (inr p 1 4)]⟩)] [0,1,2,3,8,24] [] rfl (by(with_reducible and_intros);(iterate 3 all_goals try first|exact⟨⟩|exact(aK rows 1 64)|exact fun _=>(cN s)|exact fun _=>(aK p 1 4))) ?_));refine aj rfl ?_ ?_<;>intro hb0
 ·try simp only[aQ]at hb0
  simp[bT,inr]at hb0;omega
 ·refine an (aC X2 [(28,163)] [(28,⟨true,[.agg (cV (⟨rows,[]⟩:gZ))]⟩),(31,⟨false,[aA (kh seed [197])]⟩),(32,⟨false,[aA (As (kh seed [197]))]⟩)] [0,1,2,3,8,9] [] rfl (by(repeat' with_reducible first|exact aR|refine bf ?_ ?_|apply And.intro);(iterate 3 all_goals try first|exact(Al rows (by first|assumption|omega| (simp;done)| (simp;omega)))|exact(bD seed [197] (by first|assumption|omega| (simp;done)| (simp;omega)))|exact(jX (kh seed [197])));all_goals first|exact⟨rfl,bA _ (by decide)⟩) ?_);refine cm 9 1 161 .bp rfl (cm 9 2 162 .aZ rfl (aa (aq X2 [0,2,3,8,9,35,36] rfl ?_)));refine au (aE (fun k=>k≤s.toNat) (fun k:Nat=> [(36, .one ((aA k)))]) (fun k=> [(161, .arr .bp (CQ rows k))]) (fun k=>s.toNat-k) 0 (fun k=>rfl) (Nat.zero_le _) rfl ?_);intro k hk;have hle:=IN rows k;refine aq X2 [0,2,3,8,9,35,36,37] rfl ?_;refine aa (aj rfl ?_ ?_)<;>intro aV
  ·try simp only[aQ]at aV
   have hns:=zP (id:=(k:Int)) (rows:=rows) (by omega) hr;refine an (aa (au (aq X2 [0,2,3,8,9,10,35,36] rfl (aF X2 [(45,161)] [(43,⟨true,[.agg (bS (newS (k:Int) rows 0))]⟩),(500044,⟨true,[]⟩)] [0,2,3,8,9,35,36] [] 63 0 MO (by kernel_rfl) rfl (by kernel_rfl) (by(repeat' with_reducible first|exact aR|refine bf ?_ ?_|apply And.intro)<;>first|exact(pX (k:Int) rows 0)|exact rfl|exact⟨rfl,bA _ (by decide)⟩| (simp only[dN,maxLen,lens];omega)) ?_))));rw[hns];refine bg X2 [0,2,3,8,9,35,36] rfl ?_;refine⟨k+1,by omega,by omega,?_⟩;rw[bh _ k rfl (by omega),Lj];try rfl
  ·try simp only[aQ]at aV
   have hks:s.toNat=k:=by omega
   refine aI (aa (aq X2 [3,8,9,49,50] rfl ?_));refine au (aE (fun k1=>k1≤(2*p.toNat)) (fun k1:Nat=> [(50, .one ((aA k1)))]) (fun k1=> [(162, .arr .aZ (sI seed k1))]) (fun k1=>(2*p.toNat)-k1) 0 (fun k1=>rfl) (Nat.zero_le _) rfl ?_);intro k1 hk1;have Cx:=IP seed k1;have Vt:IntKind.i64.wrap (2*p)=2*p:=bO (by omega);refine aq X2 [3,8,9,49,50,51] rfl ?_;refine aa (aj rfl ?_ ?_)<;>intro bI
   ·try simp only[aQ]at bI
    rw[Vt]at bI;have hkr:=o7 (dz seed [199,(k1:Int).tdiv 2]);have hx:(IntKind.i64.wrap (BitVec.ofInt IntKind.i64.bits (k1:Int)^^^BitVec.ofInt IntKind.i64.bits 1).toNat)=((k1^^^1:Nat):Int):=CB k1 (by omega);have hxl:=tO k1 8 (by omega) (by decide);have hxn:=IQ k1;have jO:IntKind.i64.wrap ((k1:Int).tdiv 2)=(k1:Int).tdiv 2:=by rw[mR (by omega)];exact bO (by omega)
    refine an (aa (au (aq X2 [3,8,9,11,49,50] rfl ?_)));have t1:=(bD seed [199,IntKind.i64.wrap ((k1:Int).tdiv 2)] (by first|assumption|omega| (simp;done)| (simp;omega)));have t2:=(jX (kh seed [199,IntKind.i64.wrap ((k1:Int).tdiv 2)]));have t3:=(BN (k1:Int) (IntKind.i64.wrap (BitVec.ofInt IntKind.i64.bits (k1:Int)^^^BitVec.ofInt IntKind.i64.bits 1).toNat) (As (kh seed [199,IntKind.i64.wrap ((k1:Int).tdiv 2)])) (kh seed [211,(k1:Int)]) (by omega) (by rw[hx];omega) (by rw[hx];omega) (by rw[jO];omega));refine aF X2 [(71,162)] [(62,⟨false,bq t1⟩),(63,⟨false,bq t2⟩),(67,⟨false,[aA (kh seed [211,(k1:Int)])]⟩),(68,⟨false,bq t3⟩),(69,⟨true,[.agg (bN (⟨(⟨(k1:Int),(IntKind.i64.wrap (BitVec.ofInt IntKind.i64.bits (k1:Int)^^^BitVec.ofInt IntKind.i64.bits 1).toNat),(As (kh seed [199,IntKind.i64.wrap ((k1:Int).tdiv 2)])),(kh seed [211,(k1:Int)]),[],0,[],0⟩:dF),(⟨(k1:Int),(IntKind.i64.wrap (BitVec.ofInt IntKind.i64.bits (k1:Int)^^^BitVec.ofInt IntKind.i64.bits 1).toNat),(As (kh seed [199,IntKind.i64.wrap ((k1:Int).tdiv 2)])),(kh seed [211,(k1:Int)]),[],0,[],0⟩:dF)⟩:aZ))]⟩)] [3,8,9,49,50] [] 655359 2 MO (by kernel_rfl) rfl (by kernel_rfl) (by(repeat' with_reducible first|exact aR|refine bf ?_ ?_|apply And.intro);(iterate 5 all_goals try first|exact t1|exact t2|exact(bD seed [211,(k1:Int)] (by first|assumption|omega| (simp;done)| (simp;omega)))|exact t3|exact(k9 (⟨(k1:Int),(IntKind.i64.wrap (BitVec.ofInt IntKind.i64.bits (k1:Int)^^^BitVec.ofInt IntKind.i64.bits 1).toNat),(As (kh seed [199,IntKind.i64.wrap ((k1:Int).tdiv 2)])),(kh seed [211,(k1:Int)]),[],0,[],0⟩:dF) ⟨Nat.zero_le _,Nat.zero_le _⟩));all_goals first| (intros;omega)|exact rfl|exact⟨rfl,bA _ (by decide)⟩| (simp only[dN,maxLen,lens];omega)) ?_;rw[hx,jO];refine bg X2 [3,8,9,49,50] rfl ?_;refine⟨k1+1,by omega,by omega,?_⟩;rw[bh _ k1 rfl (by omega),Ll];try rfl
   ·try simp only[aQ]at bI
    rw[Vt]at bI;have K5:2*p.toNat=k1:=by omega
    exact aI (aD X2 [8] rfl (by trivial) (ak (ah rfl ⟨rfl,by rw[hks];rfl,by rw[←K5];rfl,rfl,rfl,rfl,rfl,rfl,rfl,rfl,⟨⟩⟩)))
theorem wF(rows s p seed:Int):So 72 [aA rows,aA s,aA p,aA seed] [.agg (aN (Nq rows s p seed))]:=by
 cases h:((inr rows 1 64&&bT s)&&inr p 1 4)with
 |false=>rw[Nr h];exact Am rows s p seed h
 |true=>
  obtain⟨h1,h2,h3,h4⟩:=IZ h;rw[h1];exact CU rows s p seed h2 h3 h4
theorem wG(rows s p seed:Int):So 45 [aA rows,aA s,aA p,aA seed] [.agg (aN (Nq rows s p seed))]:=by
 cases h:((inr rows 1 64&&bT s)&&inr p 1 4)with
 |false=>rw[Nr h];exact An rows s p seed h
 |true=>
  obtain⟨h1,h2,h3,h4⟩:=IZ h;rw[h1];exact CS rows s p seed h2 h3 h4
theorem uS(r row s:Int):So 74 [.agg (aN zW),aA r,aA row,aA s] [.a (.sl .u8 ([]:List UInt8)),aH false]:=by
 refine cw X2 call74 func74 rfl rfl (by decide) ntmps74 (by simp) ?_;intro zb;refine aq X2 [1,2,3,4] rfl (aC X2 [] [(21,⟨true,[.agg (aY (gO zW.aB.rounds r)),aH (jJ zW.aB.rounds r)]⟩)] [1,2,3,4,10,11] [] rfl (by(with_reducible and_intros)<;>first|exact⟨⟩|exact(fL zW.aB r ⟨Nat.zero_le _,fun _ hi=>nomatch hi⟩)) (aa (aC X2 [] [(25,⟨false,[aH (okW zW)]⟩)] [1,2,3,4,10,30] [] rfl (by(with_reducible and_intros)<;>first|exact⟨⟩|exact(bQ zW)) ?_)));refine aj rfl ?_ ?_<;>intro hb0
 ·exact aq X2 [8,9] rfl (ak (ah rfl ⟨rfl,rfl,⟨⟩⟩))
 ·exact absurd hb0 (by rw[uN];exact Bool.noConfusion)
theorem uT(r row s:Int):So 53 [.agg (aN zW),aA r,aA row,aA s] [.a (.sl .u8 ([]:List UInt8)),aH false]:=by
 refine cw X2 call53 func53 rfl rfl (by decide) ntmps53 (by simp) ?_;intro zb;refine aq X2 [1,2,3,4] rfl (aa (aC X2 [] [(11,⟨false,[aH (okW zW)]⟩)] [1,2,3,4,12] [] rfl (by(with_reducible and_intros)<;>first|exact⟨⟩|exact(bV zW)) ?_));refine aj rfl ?_ ?_<;>intro hb0
 ·exact aD X2 [8,9] rfl (by and_intros<;>first|exact⟨⟩|exact rfl) (ak (ah rfl ⟨rfl,rfl,⟨⟩⟩))
 ·exact absurd hb0 (by rw[uN];exact Bool.noConfusion)
end
end Go.Proofs.YtaalpcnbbldlaaaGreatDoor.G
