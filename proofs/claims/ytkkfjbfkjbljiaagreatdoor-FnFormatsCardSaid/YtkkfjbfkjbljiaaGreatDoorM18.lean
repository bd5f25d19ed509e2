/-
  FnFormats: the law, walked by the symbolic machine: it returns true. No condition.
-/
import Derived.Test.YtkkfjbfkjbljiaaGreatDoorM16
import Derived.Test.YtkkfjbfkjbljiaaGreatDoorM17
namespace Go.Proofs.YtkkfjbfkjbljiaaGreatDoor.G
set_option linter.all false
open Go.RowKit L D Tryz
section
set_option maxRecDepth 100000
theorem RH(l:List UInt8):So 4 [.a (.sl .u8 l)] [bh (decide ((1048576:Int)<(l.length:Int)))]:=by
 refine aD X call4 func4 ntmps4 rfl rfl ?_
 intro zb
 exact av X [0] rfl (av X [2] rfl (aj (ah rfl ⟨rfl,⟨⟩⟩)))
theorem YQ{a b c d e f g h:Bool}(ha:a=true)(hb:b=true)(hc:c=true)(hd:d=true)(he:e=true)(hf:f=true)(hg:g=true)(hh:h=true):
  (if(if(if(if(if(if(if a=true then b else false)=true then c else false)=true then d else false)=true then e else false)=true then f else false)=true then g else false)=true then h else false)=true:=by
 subst ha hb hc hd he hf hg hh;rfl
theorem U1(b:List UInt8)(h:b.length≤6):(((kP b).size:Int)==if IntKind.i64.wrap (2*(b.length:Int))>1 then IntKind.i64.wrap (2*(b.length:Int))else 1)=true:=by
 rw[aM (by omega),beq_iff_eq]
 unfold kP
 by_cases h0:b.length=0
 ·rw[if_pos (by rw[h0];rfl),if_neg (by omega)];rfl
 ·rw[if_neg (by simpa using h0),dA,Lib.Hx.encode_length,if_pos (by omega)];omega
theorem YR(v:List Int):(((bI (v.map sel)).size:Int)==(v.length:Int))=true:=by
 rw[dA,List.length_map,beq_iff_eq]
theorem YS{n:Nat}(h:n≤32):(Nn 0 ((n:Int)-1)==if IntKind.i64.wrap ((n:Int)-1)>0 then IntKind.i64.wrap ((n:Int)-1)else 0)=true:=by
 rw[aM (by omega),beq_iff_eq];rfl
set_option maxHeartbeats 1000000 in
theorem Hq(x0:List UInt8)(agj:(fun l=> ∀x,x∈l→(fun _=>True) x) x0):So 3 [.a (.sl .u8 x0)] [bh true]:=by
 refine aD X call3 func3 ntmps3 rfl rfl ?_
 intro zb
 refine av X [0] rfl (aa (aS X [] [(14,⟨false,[bh (decide ((1048576:Int)<(x0.length:Int)))]⟩)] [0,14] [] rfl (by(repeat' with_reducible first|exact aB|refine aE ?_ ?_|apply And.intro)<;>first|exact(RH x0)|exact fun _=>(RH x0)|exact fun _ _=>(RH x0)| (intros;omega)|exact rfl|exact aA _ (by decide)|exact⟨rfl,aA _ (by decide)⟩| ((intro h1;first| (intro h2;first| (intro h3;refine And.intro ?_ ?_)|refine And.intro ?_ ?_)|refine And.intro ?_ ?_)<;>first|omega| ((try simp only[aP]at*);(try simp(disch:=omega) only[aM]);omega))| ((try simp only[aP]at*);(simp(disch:=omega) only[aM]);omega)| (refine fun _=> ?_;dsimp only[hyps,bg];omega)| (refine fun _ _=> ?_;dsimp only[hyps,bg];omega)|exact(cj _).1|exact(cj _).2|exact(cG _).1|exact(cG _).2| (simp only[b7,maxLen,lens];omega)| (intros;simp only[nb]at*;omega)) ?_))
 refine ak rfl ?_ ?_<;>intro hb0
 ·try simp only[aP]at hb0
  exact av X [2] rfl (aj (ah rfl ⟨rfl,⟨⟩⟩))
 ·try simp only[aP]at hb0
  have hl:x0.length≤1048576:=by omega
  obtain⟨hw1,hl1⟩:=UY x0
  have Rj:=bZ (cB x0) (n:=6) (by decide)
  have B8:(n8 (az (cB x0) 6) (aO (cB x0) 6).toNat).length≤6:=by rw[gQ];omega
  have hvl:=abu (cB x0)
  have adJ:=YO (kA x0)
  have hts:(uB ((kA x0).map ig) 32).size≤4000:=by(have h1:=Jm ((kA x0).map ig) 32;have h2:=pJ ig 65 (kA x0) (fun y hy=>by obtain⟨q1,q2,q3⟩:=hw1 y hy;have z1:=b9 q1;have z2:=b9 q2;have z3:=b9 q3;show(MD y).size≤65;unfold MD;simp only[ByteArray.size_append,dA,List.length_cons,List.length_nil]at*;omega);omega)
  have pX:=UU (cB x0)
  have sP:=YL (cB x0)
  have hs1:=sP.1.I
  have hs2:=sP.2.1.I
  have hs3:=sP.2.2.I
  have hca:=(QZ (cB x0))
  have har:=UW (cB x0)
  obtain⟨ha1,Xw⟩:=KE (cB x0)
  obtain⟨VV,yG,Zd⟩:=abo (cB x0) (s:=5) (by decide)
  have hbw:=Yq (cB x0) (s:=5) (by decide)
  have MP:=adB hbw
  have hdl:=J4 MP
  have hrl:=hbw.1.2.2.2
  refine ay (aS X [] [(16,⟨false,[.a (.sl .u8 (n8 (az (cB x0) 6) (aO (cB x0) 6).toNat))]⟩)] [0,3] [] rfl (by(repeat' with_reducible first|exact aB|refine aE ?_ ?_|apply And.intro)<;>first|exact(gM x0 hl)|exact fun _=>(gM x0 hl)|exact fun _ _=>(gM x0 hl)| (intros;omega)|exact rfl|exact aA _ (by decide)|exact⟨rfl,aA _ (by decide)⟩| ((intro h1;first| (intro h2;first| (intro h3;refine And.intro ?_ ?_)|refine And.intro ?_ ?_)|refine And.intro ?_ ?_)<;>first|omega| ((try simp only[aP]at*);(try simp(disch:=omega) only[aM]);omega))| ((try simp only[aP]at*);(simp(disch:=omega) only[aM]);omega)| (refine fun _=> ?_;dsimp only[hyps,bg];omega)| (refine fun _ _=> ?_;dsimp only[hyps,bg];omega)|exact(cj _).1|exact(cj _).2|exact(cG _).1|exact(cG _).2| (simp only[b7,maxLen,lens];omega)| (intros;simp only[nb]at*;omega)) ?_)
  refine aS X [] [(18,⟨false,[.a (.sl .int (B0 (cB x0)))]⟩)] [0,3,4] [] rfl (by(repeat' with_reducible first|exact aB|refine aE ?_ ?_|apply And.intro)<;>first|exact(eV x0 hl)|exact fun _=>(eV x0 hl)|exact fun _ _=>(eV x0 hl)| (intros;omega)|exact rfl|exact aA _ (by decide)|exact⟨rfl,aA _ (by decide)⟩| ((intro h1;first| (intro h2;first| (intro h3;refine And.intro ?_ ?_)|refine And.intro ?_ ?_)|refine And.intro ?_ ?_)<;>first|omega| ((try simp only[aP]at*);(try simp(disch:=omega) only[aM]);omega))| ((try simp only[aP]at*);(simp(disch:=omega) only[aM]);omega)| (refine fun _=> ?_;dsimp only[hyps,bg];omega)| (refine fun _ _=> ?_;dsimp only[hyps,bg];omega)|exact(cj _).1|exact(cj _).2|exact(cG _).1|exact(cG _).2| (simp only[b7,maxLen,lens];omega)| (intros;simp only[nb]at*;omega)) ?_
  refine aS X [] [(20,⟨false,[.a (.sl .iy (kA x0))]⟩)] [0,3,4,5] [] rfl (by(repeat' with_reducible first|exact aB|refine aE ?_ ?_|apply And.intro)<;>first|exact(eW x0 hl)|exact fun _=>(eW x0 hl)|exact fun _ _=>(eW x0 hl)| (intros;omega)|exact rfl|exact aA _ (by decide)|exact⟨rfl,aA _ (by decide)⟩| ((intro h1;first| (intro h2;first| (intro h3;refine And.intro ?_ ?_)|refine And.intro ?_ ?_)|refine And.intro ?_ ?_)<;>first|omega| ((try simp only[aP]at*);(try simp(disch:=omega) only[aM]);omega))| ((try simp only[aP]at*);(simp(disch:=omega) only[aM]);omega)| (refine fun _=> ?_;dsimp only[hyps,bg];omega)| (refine fun _ _=> ?_;dsimp only[hyps,bg];omega)|exact(cj _).1|exact(cj _).2|exact(cG _).1|exact(cG _).2| (simp only[b7,maxLen,lens];omega)| (intros;simp only[nb]at*;omega)) ?_
  refine aS X [] [(22,⟨false,[.agg (dz (ku (cB x0)))]⟩)] [0,3,4,5,6] [] rfl (by(repeat' with_reducible first|exact aB|refine aE ?_ ?_|apply And.intro)<;>first|exact(fJ x0 hl)|exact fun _=>(fJ x0 hl)|exact fun _ _=>(fJ x0 hl)| (intros;omega)|exact rfl|exact aA _ (by decide)|exact⟨rfl,aA _ (by decide)⟩| ((intro h1;first| (intro h2;first| (intro h3;refine And.intro ?_ ?_)|refine And.intro ?_ ?_)|refine And.intro ?_ ?_)<;>first|omega| ((try simp only[aP]at*);(try simp(disch:=omega) only[aM]);omega))| ((try simp only[aP]at*);(simp(disch:=omega) only[aM]);omega)| (refine fun _=> ?_;dsimp only[hyps,bg];omega)| (refine fun _ _=> ?_;dsimp only[hyps,bg];omega)|exact(cj _).1|exact(cj _).2|exact(cG _).1|exact(cG _).2| (simp only[b7,maxLen,lens];omega)| (intros;simp only[nb]at*;omega)) ?_
  refine aS X [] [(24,⟨false,[.agg (cH (gR (cB x0)))]⟩)] [0,3,4,5,6,7] [] rfl (by(repeat' with_reducible first|exact aB|refine aE ?_ ?_|apply And.intro)<;>first|exact(fZ x0 hl)|exact fun _=>(fZ x0 hl)|exact fun _ _=>(fZ x0 hl)| (intros;omega)|exact rfl|exact aA _ (by decide)|exact⟨rfl,aA _ (by decide)⟩| ((intro h1;first| (intro h2;first| (intro h3;refine And.intro ?_ ?_)|refine And.intro ?_ ?_)|refine And.intro ?_ ?_)<;>first|omega| ((try simp only[aP]at*);(try simp(disch:=omega) only[aM]);omega))| ((try simp only[aP]at*);(simp(disch:=omega) only[aM]);omega)| (refine fun _=> ?_;dsimp only[hyps,bg];omega)| (refine fun _ _=> ?_;dsimp only[hyps,bg];omega)|exact(cj _).1|exact(cj _).2|exact(cG _).1|exact(cG _).2| (simp only[b7,maxLen,lens];omega)| (intros;simp only[nb]at*;omega)) ?_
  refine aS X [] [(26,⟨false,[.agg (cF (fE (cB x0)))]⟩)] [0,3,4,5,6,7,8] [] rfl (by(repeat' with_reducible first|exact aB|refine aE ?_ ?_|apply And.intro)<;>first|exact(ga x0 hl)|exact fun _=>(ga x0 hl)|exact fun _ _=>(ga x0 hl)| (intros;omega)|exact rfl|exact aA _ (by decide)|exact⟨rfl,aA _ (by decide)⟩| ((intro h1;first| (intro h2;first| (intro h3;refine And.intro ?_ ?_)|refine And.intro ?_ ?_)|refine And.intro ?_ ?_)<;>first|omega| ((try simp only[aP]at*);(try simp(disch:=omega) only[aM]);omega))| ((try simp only[aP]at*);(simp(disch:=omega) only[aM]);omega)| (refine fun _=> ?_;dsimp only[hyps,bg];omega)| (refine fun _ _=> ?_;dsimp only[hyps,bg];omega)|exact(cj _).1|exact(cj _).2|exact(cG _).1|exact(cG _).2| (simp only[b7,maxLen,lens];omega)| (intros;simp only[nb]at*;omega)) ?_
  refine aS X [] [(28,⟨false,[.agg (bX (xS (cB x0) 5))]⟩)] [3,4,5,6,7,8,9] [] rfl (by(repeat' with_reducible first|exact aB|refine aE ?_ ?_|apply And.intro)<;>first|exact(gD x0 hl)|exact fun _=>(gD x0 hl)|exact fun _ _=>(gD x0 hl)| (intros;omega)|exact rfl|exact aA _ (by decide)|exact⟨rfl,aA _ (by decide)⟩| ((intro h1;first| (intro h2;first| (intro h3;refine And.intro ?_ ?_)|refine And.intro ?_ ?_)|refine And.intro ?_ ?_)<;>first|omega| ((try simp only[aP]at*);(try simp(disch:=omega) only[aM]);omega))| ((try simp only[aP]at*);(simp(disch:=omega) only[aM]);omega)| (refine fun _=> ?_;dsimp only[hyps,bg];omega)| (refine fun _ _=> ?_;dsimp only[hyps,bg];omega)|exact(cj _).1|exact(cj _).2|exact(cG _).1|exact(cG _).2| (simp only[b7,maxLen,lens];omega)| (intros;simp only[nb]at*;omega)) ?_
  refine av X [3,4,5,6,7,8,9,10] rfl (aS X [] [(30,⟨false,[.a (.lit (.string (uB ((kA x0).map ig) 32)))]⟩)] [3,4,5,6,7,8,9,10,11] [] rfl (by(repeat' with_reducible first|exact aB|refine aE ?_ ?_|apply And.intro)<;>first|exact(gC (kA x0) hw1 (by omega))|exact fun _=>(gC (kA x0) hw1 (by omega))|exact fun _ _=>(gC (kA x0) hw1 (by omega))| (intros;omega)|exact rfl|exact aA _ (by decide)|exact⟨rfl,aA _ (by decide)⟩| ((intro h1;first| (intro h2;first| (intro h3;refine And.intro ?_ ?_)|refine And.intro ?_ ?_)|refine And.intro ?_ ?_)<;>first|omega| ((try simp only[aP]at*);(try simp(disch:=omega) only[aM]);omega))| ((try simp only[aP]at*);(simp(disch:=omega) only[aM]);omega)| (refine fun _=> ?_;dsimp only[hyps,bg];omega)| (refine fun _ _=> ?_;dsimp only[hyps,bg];omega)|exact(cj _).1|exact(cj _).2|exact(cG _).1|exact(cG _).2| (simp only[b7,maxLen,lens];omega)| (intros;simp only[nb]at*;omega)) ?_)
  refine aa (av X [3,4,5,6,7,8,9,10,11,12] rfl ?_)
  refine aq (aQ (fun k=>k≤(uB ((kA x0).map ig) 32).size) (fun k:Nat=> [(10, .one ((aL ((mC ((uB ((kA x0).map ig) 32).data.toList.take k):Nat):Int)))),(12, .one ((aL k)))]) (fun k=> []) (fun k=>(uB ((kA x0).map ig) 32).size-k) 0 (fun k=>rfl) (Nat.zero_le _) rfl ?_)
  intro k hk
  have hnk:=abr (uB ((kA x0).map ig) 32).data.toList k
  refine aa (av X [3,4,5,6,7,8,9,10,11,12,34] rfl ?_)
  refine ak rfl ?_ ?_<;>intro bt
  ·try simp only[aP]at bt
   have zx:k<(uB ((kA x0).map ig) 32).data.toList.length:=bt
   refine ay (aa (aq (aN X [3,4,5,6,7,8,9,10,11,12,40] rfl ⟨⟨Int.natCast_nonneg _,by omega⟩,⟨⟩⟩ ?_)))
   refine ak rfl ?_ ?_<;>intro bY
   ·try simp only[aP]at bY
    have hs:=YP zx bY
    refine bT X [3,4,5,6,7,8,9,10,11,12] rfl (bT X [3,4,5,6,7,8,9,10,11,12] rfl ?_)
    refine⟨k+1,by omega,by omega,?_⟩
    rw[cw _ k rfl (by omega),cw _ (mC ((uB ((kA x0).map ig) 32).data.toList.take k)) rfl (by omega),hs]
    try rfl
   ·try simp only[aP]at bY
    have hs:=UZ zx bY
    refine ay (bT X [3,4,5,6,7,8,9,10,11,12] rfl ?_)
    refine⟨k+1,by omega,by omega,?_⟩
    rw[cw _ k rfl (by omega),hs]
    try rfl
  ·try simp only[aP]at bt
   have JG:(uB ((kA x0).map ig) 32).data.toList.take k=(uB ((kA x0).map ig) 32).data.toList:=List.take_of_length_le (by show(uB ((kA x0).map ig) 32).size≤k;omega)
   rw[JG,adJ]
   refine aV (aa ?_)
   have t1:=(wz (n8 (az (cB x0) 6) (aO (cB x0) 6).toNat) (by omega))
   have t2:=(jk 1 (IntKind.i64.wrap (2*((n8 (az (cB x0) 6) (aO (cB x0) 6).toNat).length:Int))))
   have t3:=(jk 0 (IntKind.i64.wrap (((kA x0).length:Int)-1)))
   have t4:=(wA (n8 (az (cB x0) 6) (aO (cB x0) 6).toNat) (by omega))
   refine ct X [] [(44,⟨false,cg t1⟩),(49,⟨false,cg t2⟩),(53,⟨false,[.a (.lit (.string (bI ((B0 (cB x0)).map sel))))]⟩),(64,⟨false,cg t3⟩),(69,⟨false,[.a (.lit (.string (ME (ku (cB x0)))))]⟩),(71,⟨false,[.a (.lit (.string (ME (ku (cB x0)))))]⟩),(76,⟨false,[.a (.lit (.string (Hh (gR (cB x0)))))]⟩),(78,⟨false,[.a (.lit (.string (Hh (gR (cB x0)))))]⟩),(83,⟨false,[.a (.lit (.string (UQ (fE (cB x0)))))]⟩),(85,⟨false,[.a (.lit (.string (UQ (fE (cB x0)))))]⟩),(90,⟨false,[.a (.lit (.string (MF (xS (cB x0) 5))))]⟩),(92,⟨false,[.a (.lit (.string (MF (xS (cB x0) 5))))]⟩),(97,⟨false,cg t1⟩),(99,⟨false,cg t4⟩)] [2] [] 60 MO (by kernel_rfl) rfl (by(repeat' with_reducible first|exact aB|refine aE ?_ ?_|apply And.intro);(iterate 13 all_goals try first|exact t1|exact fun _=>t1|exact fun _ _=>t1|exact t2|exact fun _=>t2|exact fun _ _=>t2|exact(gE (B0 (cB x0)) (by omega))|exact fun _=>(gE (B0 (cB x0)) (by omega))|exact fun _ _=>(gE (B0 (cB x0)) (by omega))|exact t3|exact fun _=>t3|exact fun _ _=>t3|exact(ir (ku (cB x0)) har (fun y hy=>Nat.le_trans (Xw y hy).1 (by decide)) (by omega))|exact fun _=>(ir (ku (cB x0)) har (fun y hy=>Nat.le_trans (Xw y hy).1 (by decide)) (by omega))|exact fun _ _=>(ir (ku (cB x0)) har (fun y hy=>Nat.le_trans (Xw y hy).1 (by decide)) (by omega))|exact(iw (ku (cB x0)) har (fun y hy=>Nat.le_trans (Xw y hy).1 (by decide)) (by omega))|exact fun _=>(iw (ku (cB x0)) har (fun y hy=>Nat.le_trans (Xw y hy).1 (by decide)) (by omega))|exact fun _ _=>(iw (ku (cB x0)) har (fun y hy=>Nat.le_trans (Xw y hy).1 (by decide)) (by omega))|exact(iU (gR (cB x0)) hs1 hs2 hs3)|exact fun _=>(iU (gR (cB x0)) hs1 hs2 hs3)|exact fun _ _=>(iU (gR (cB x0)) hs1 hs2 hs3)|exact(iV (gR (cB x0)) hs1 hs2 hs3)|exact fun _=>(iV (gR (cB x0)) hs1 hs2 hs3)|exact fun _ _=>(iV (gR (cB x0)) hs1 hs2 hs3)|exact(iS (fE (cB x0)) pX)|exact fun _=>(iS (fE (cB x0)) pX)|exact fun _ _=>(iS (fE (cB x0)) pX)|exact(iT (fE (cB x0)) pX)|exact fun _=>(iT (fE (cB x0)) pX)|exact fun _ _=>(iT (fE (cB x0)) pX)|exact(jv (xS (cB x0) 5) VV yG Zd hdl (by omega))|exact fun _=>(jv (xS (cB x0) 5) VV yG Zd hdl (by omega))|exact fun _ _=>(jv (xS (cB x0) 5) VV yG Zd hdl (by omega))|exact(jx (xS (cB x0) 5) VV yG Zd hdl (by omega))|exact fun _=>(jx (xS (cB x0) 5) VV yG Zd hdl (by omega))|exact fun _ _=>(jx (xS (cB x0) 5) VV yG Zd hdl (by omega))|exact t4|exact fun _=>t4|exact fun _ _=>t4);all_goals first| (intros;omega)|exact rfl|exact aA _ (by decide)|exact⟨rfl,aA _ (by decide)⟩| ((intro h1;first| (intro h2;first| (intro h3;refine And.intro ?_ ?_)|refine And.intro ?_ ?_)|refine And.intro ?_ ?_)<;>first|omega| ((try simp only[aP]at*);(try simp(disch:=omega) only[aM]);omega))| ((try simp only[aP]at*);(simp(disch:=omega) only[aM]);omega)| (refine fun _=> ?_;dsimp only[hyps,bg];omega)| (refine fun _ _=> ?_;dsimp only[hyps,bg];omega)|exact(cj _).1|exact(cj _).2|exact(cG _).1|exact(cG _).2| (simp only[b7,maxLen,lens];omega)| (intros;simp only[nb]at*;omega)) ?_
   exact aj (ah rfl ⟨congrArg Value.bool (YQ (U1 _ B8) (YR _) (YS hl1) (beq_self_eq_true _) (beq_self_eq_true _) (beq_self_eq_true _) (beq_self_eq_true _) (beq_self_eq_true _)),⟨⟩⟩)
end
end Go.Proofs.YtkkfjbfkjbljiaaGreatDoor.G
