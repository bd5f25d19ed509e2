/-
  What a line does, by the ways that the two sides take.
-/
import Derived.Test.YtaalpcnbbldlaaaGreatDoorM18
import Derived.Test.YtaalpcnbbldlaaaGreatDoorM19
open Bool renaming and_eq_true→az
open ByteArray renaming data_extract→QK,size_append→bA,size_extract→QL
open Go.IntKind renaming i64→af,u8→cC
open Go.Lib renaming indexByte→ew,itoa→cg
open List renaming all_append→jx,all_cons→kX,all_eq_true→bE,getD_eq_getElem?_getD→aA,getElem?_eq_getElem→aC,getElem_mem→gF,length→aL,length_cons→bF,length_nil→c8,length_take→bV,take_add_one→jm,take_of_length_le→aD
open Nat renaming le_refl→bq,le_succ→qF,le_trans→dH,mul_add→Dn,not_lt_zero→pS,zero_le→aE
open Or renaming inl→bY,inr→bB
namespace Go.Proofs.YtaalpcnbbldlaaaGreatDoor.G
set_option linter.all false
open Go.RowKit L D
section
def zW:bN:=⟨0,[],[],⟨0,[]⟩,0,0,0,[],0⟩
theorem Bn:okW zW=false:=by decide
theorem apA(e:Ev):DU zW e=zW:=by
 have h1:gr zW=zW:=by unfold gr;rw[if_neg];unfold mw;rw[Bn];decide
 have h2: ∀c b,QI zW c b=zW:=fun c b=>by unfold QI;rw[if_neg];unfold fA;rw[Bn];simp
 have h3: ∀c,PR zW c=zW:=fun c=>by unfold PR;rw[if_neg];unfold fA;rw[Bn];simp
 have h4: ∀i b,SY zW i b=zW:=fun i b=>by unfold SY;rw[if_neg];unfold vN;rw[Bn];simp
 have h5: ∀c,Dz zW c=zW:=fun c=>by unfold Dz;rw[if_neg];unfold fA;rw[Bn];simp
 unfold DU
 rw[h1,h2,h3,h4,h5]
 simp
def JW(x:bN)(n:Nat):Prop:=x=zW∨(LW x n∧L6 x.replaced)
theorem JW.mono{x:bN}{n m:Nat}(h:JW x n)(hn:n≤m):JW x m:=h.imp id fun h=>⟨h.1.mono hn,h.2⟩
theorem JW.z(n:Nat):JW zW n:=bY rfl
theorem apB(x:bN)(c:Int):(Dz x c).replaced=x.replaced:=by unfold Dz;split<;>rfl
theorem JW.ev{x:bN}{n:Nat}{e:Ev}(h:JW x n)(hn:n≤99998):JW (DU x e) (n+1):=by
 rcases h with rfl| ⟨h,hr⟩
 ·rw[apA];exact JW.z _
 ·refine bB ?_
  unfold DU
  repeat' split
  ·exact⟨h.rd hn,ae5 hr⟩
  ·exact⟨h.sm.mono (qF _),by rw[apv];exact hr⟩
  ·exact⟨h.cc.mono (qF _),by rw[apw];exact hr⟩
  ·exact⟨h.co.mono (qF _),by rw[apy];exact hr⟩
  ·exact⟨h.sv.mono (qF _),by rw[apB];exact hr⟩
  ·exact⟨h.mono (qF _),hr⟩
theorem JW.run{x:bN}{n:Nat}(h:JW x n): ∀k,n+k≤99998→JW (iK x k) (n+k)
 |0,_=>h
 |k+1,hk=>by
  have h1:=JW.run h k (by omega)
  have:=JW.ev (e:=⟨1,0,0,[]⟩) h1 (by omega)
  unfold DU at this
  show JW (gr (iK x k)) (n+k+1)
  simpa using this
def Wd(a b c d:Int):bN:=if(inr a 1 64&&dG b)&&inr c 1 4 then aeK a b.toNat c.toNat d else zW
theorem We{a b c d:Int}(h:((inr a 1 64&&dG b)&&inr c 1 4)=false):Wd a b c d=zW:=by unfold Wd;rw[h];rfl
theorem Qn{a b c d:Int}(h:((inr a 1 64&&dG b)&&inr c 1 4)=true):Wd a b c d=aeK a b.toNat c.toNat d∧(1≤a∧a≤64)∧(2≤b∧b≤4)∧1≤c∧c≤4:=by
 refine⟨by unfold Wd;rw[h];rfl,?_⟩
 simp only[dG,az,dS]at h
 omega
theorem JW.nw(a b c d:Int):JW (Wd a b c d) 0:=by
 cases h:((inr a 1 64&&dG b)&&inr c 1 4)with
 |false=>rw[We h];exact JW.z _
 |true=>
  obtain⟨h1,h2,h3,h4⟩:=Qn h
  rw[h1]
  exact bB ⟨⟨ah8 h2 (by omega) (by omega),Int.le_refl 0,Int.le_refl 0,bq 0⟩,fun y hy=>by cases hy⟩
theorem JW.C{x:bN}{n:Nat}(h:JW x n):wC x (8*n):=by
 rcases h with rfl| ⟨h,_⟩
 ·exact⟨by decide,by decide,by decide,aE _⟩
 ·exact h.C
theorem JW.R{x:bN}{n:Nat}(h:JW x n)(hn:n≤100000):wR x:=aeh h.C (by omega)
structure JF(x:bN):Prop where
 rd:rY x.round
 ca:rY x.cancelled
 re: ∀y,y∈x.replaced→rY y
 dv:x.ah.length≤8
 sv:x.aG.length≤4
 rl:x.replaced.length≤1048576
 sz:gW x≤1048576
 ar:Ut x.aK
 ay: ∀y,y∈x.aK.rounds→y.db.rows.length≤1048576
 al:x.aK.rounds.length≤1048576
 cl: ∀i,i<x.ah.length→rY (x.ah.getD i (aR .bR)).live.id∧rY (x.ah.getD i (aR .bR)).live.fJ∧rY (x.ah.getD i (aR .bR)).live.sent∧rY (x.ah.getD i (aR .bR)).live.next
 se: ∀i,i<x.aG.length→rY (x.aG.getD i (aR .cu)).id∧rY (x.aG.getD i (aR .cu)).round∧rY (x.aG.getD i (aR .cu)).behavior
theorem JW.F{x:bN}{n:Nat}(h:JW x n)(hn:n≤20000):JF x:=by
 rcases h with rfl| ⟨h,hr⟩
 ·exact{rd:=(show TN 0 by unfold TN;decide).I,ca:=(show TN 0 by unfold TN;decide).I,re:=fun y hy=>(nomatch hy),dv:=by decide,sv:=by decide,rl:=by decide,sz:=by decide,ar:=⟨(show TN 0 by unfold TN;decide).I,fun y hy=>(nomatch hy)⟩,ay:=fun y hy=>(nomatch hy),al:=by decide,cl:=fun i hi=>absurd hi (pS _),se:=fun i hi=>absurd hi (pS _)}
 ·have w:=N5.of h.ok
  have w1:=w.round
  have w2:=w.DM
  have w3:=h.DM
  have w4:=h.VQ
  have ha:=oP.1 w.arc
  have hy: ∀y,y∈x.aK.rounds→(0≤y.round∧y.round≤100000)∧eZ y.db=true:=by
   intro y hy
   obtain⟨i,hi,rfl⟩:=List.mem_iff_getElem.1 hy
   have h2:=ha.2 i hi
   have h3:=nH.1 h2
   have e:x.aK.rounds.getD i (aR .aX)=x.aK.rounds[i]:=by rw[aA,aC hi];rfl
   rw[e]at h3
   refine⟨?_,h3.2.2.1⟩
   have h4:vK x.aK.rows x.aK.rounds i=true:=h2
   simp only[vK,az,dS,e]at h4
   exact h4.1.1.1
  have hs:=Dw gP 15000 4 x.aG (Yy h.ok) w.nsv.2
  have hB:=Dw cz 960 8 x.ah (fun d hd=>qK (N0 h.ok d hd)) w.ndv.2
  have hA:gC x.aK≤1601*8:=Dw gQ 1600 8 _ (fun y h2=>LI (hy y h2).2) ha.1.2
  refine⟨(show TN x.round by unfold TN;omega).I,(show TN x.cancelled by unfold TN;omega).I,hr,w.ndv.2,w.nsv.2,by omega,?_,⟨?_,fun y h2=>⟨(show TN y.round by have:=(hy y h2).1;unfold TN;omega).I,fun _ _ _ _=>trivial⟩⟩,fun y h2=>dH (nE.1 (hy y h2).2).1 (by decide),by have:=ha.1.2;omega,fun i hi=> ?_,fun i hi=> ?_⟩
  ·unfold gW;omega
  ·have:=w.rows;rw[w.Iy];exact(show TN x.rows by unfold TN;omega).I
  ·have hd:=w.dv i hi
   simp only[okD,fu,ga,az,dS,decide_eq_true_eq]at hd
   generalize x.ah.getD i (aR .bR)=d at hd ⊢
   have k1:(0≤d.live.id∧d.live.id≤7)∧(0≤d.live.fJ∧d.live.fJ≤7)∧((d.live.bp.length:Int)≤16)∧(0≤d.live.sent∧d.live.sent≤(d.live.bp.length:Int))∧(0≤d.live.next∧d.live.next≤100001):=by
    omega
   refine⟨?_,?_,?_,?_⟩<;>(unfold rY;omega)
  ·have hd:=(Lc h.ok hi)
   simp only[Mv,ec,Au,az,dS,decide_eq_true_eq]at hd
   generalize x.aG.getD i (aR .cu)=s at hd ⊢
   refine⟨?_,?_,?_⟩<;>(unfold rY;omega)
def YH(l:List UInt8):ByteArray:=if((l.length:Int)==0)=true then⟨#[45]⟩else bP (Lib.Hx.encode l)
def FR(b:Bool):ByteArray:=if b=true then⟨#[111,107]⟩else⟨#[110,111]⟩
def zC(b:Bool):ByteArray:=if b=true then⟨#[121,101,115]⟩else⟨#[110,111]⟩
def Jj:ByteArray:=⟨#[110,111,110,101]⟩
def Wf(x:bN)(e:Ev):bN×Option ByteArray:=(DU x e,some (FR (rK x e)))
def rnO(x:bN)(n:Int):bN×Option ByteArray:=(iK x (yh (kr n 60)),some (wZ (iK x (yh (kr n 60)))))
def Cz(l:List jE):Nat→Int
 |0=>0
 |k+1=>af.wrap (Cz l k+(l.getD k (aR .jE)).bytes)
def DR(x:bN)(r row:Int):Bool:=okW x&&AT x r row 1
def pdT(x:bN)(r row:Int):ByteArray:=if DR x r row=true then YH (EZ x r row 1)else Jj
def gD(x:bN)(w:List UInt8):bN×Option ByteArray:=
 if w= [114,111,117,110,100]then(gr x,some (wZ (gr x)))
 else if w= [115,101,116,116,108,101]then rnO x (zx x)
 else if w= [97,114,99,104,105,118,101]then(x,some (L5 x.aK))
 else if w= [119,111,114,108,100]then(x,some (wZ x))
 else if w= [116,114,97,102,102,105,99]then(x,some (bP (cg (Cz (HK x) (HK x).length))))
 else if w= [97,117,100,105,116]then(x,some (zC (sK x)))
 else if w= [113,117,105,101,116]then(x,some (zC (qN x)))
 else(x,none)
def aaD(x:bN)(n:Int):ByteArray:=if(x.ah.length:Int)≤n then Jj else Qj (x.ah.getD n.toNat (aR .bR)).live
def aaE(x:bN)(n:Int):ByteArray:=if(x.ah.length:Int)≤n then Jj else HH x n
def aaF(x:bN)(n:Int):ByteArray:=if(x.aG.length:Int)≤n then Jj else HJ (x.aG.getD n.toNat (aR .cu))
def kY(x:bN)(w:List UInt8)(n:Int):bN×Option ByteArray:=
 if w= [99,114,97,115,104]then Wf x ⟨3,n,0,[]⟩
 else if w= [115,97,118,101]then Wf x ⟨5,n,0,[]⟩
 else if w= [114,111,117,110,100,115]then rnO x n
 else if w= [99,108,105,101,110,116]then(x,some (aaD x n))
 else if w= [105,110,98,111,120]then(x,some (aaE x n))
 else if w= [115,101,114,118,101,114]then(x,some (aaF x n))
 else(x,none)
def Un(s:List UInt8):Int:=if s= [104,111,110,101,115,116]then 0 else if s= [100,114,111,112,115]then 1 else if s= [97,108,116,101,114,115]then 2 else if s= [108,105,101,115]then 3 else-1
def pZ(x:bN)(w:List UInt8)(n:Int)(s:List UInt8):bN×Option ByteArray:=
 if w= [115,101,110,100]∧s≠ []then Wf x ⟨2,n,0,s⟩
 else if w= [114,101,97,100]∧fD s=true then(x,some (pdT x n (ez s)))
 else if w= [99,111,114,114,117,112,116]∧0≤Un s then Wf x ⟨4,n,Un s,[]⟩
 else(x,none)
def nwO(a b c d:Int):bN×Option ByteArray:=(Wd a b c d,some (FR (okW (Wd a b c d))))
def Wg(x:bN)(a b c d:List UInt8):bN×Option ByteArray:=
 if(fD a&&fD b)&&(fD c&&fD d)then nwO (ez a) (ez b) (ez c) (ez d)else(x,none)
def iB(x:bN):List (List UInt8)→bN×Option ByteArray
 | [w]=>gD x w
 | [w,a]=>if fD a then kY x w (ez a)else(x,none)
 | [w,a,s]=>if fD a then pZ x w (ez a) s else(x,none)
 | [w,a,b,c,d]=>if w= [110,101,119]then Wg x a b c d else(x,none)
 |_=>(x,none)
def mT(x:bN)(w:List UInt8)(n:List Int):bN×Option ByteArray:=
 if w= [110,101,119]∧n.length=4 then nwO (n.getD 0 0) (n.getD 1 0) (n.getD 2 0) (n.getD 3 0)
 else if w= [114,101,97,100]∧n.length=2 then(x,some (pdT x (n.getD 0 0) (n.getD 1 0)))
 else if n.length=1 then kY x w (n.getD 0 0)
 else(x,none)
def B6:Nat:=100000000
def LO(n:Nat)(o:bN×Option ByteArray):Prop:=JW o.1 (n+60)∧ ∀b,o.2=some b→b.size≤B6
theorem YI(b:Bool):(FR b).size≤B6:=by unfold FR B6;split<;>decide
theorem YJ(b:Bool):(zC b).size≤B6:=by unfold zC B6;split<;>decide
theorem JP:Jj.size≤B6:=by decide
theorem Qo{x:bN}(h:JF x):(wZ x).size≤B6:=by
 have z1:=dM h.rd
 have z2:=dM h.ca
 have z3:=dM (PU x.ah x.ah.length)
 have z4:=dM (VK x.ah x.ah.length)
 have hlz:=yw jW 21 x.replaced (Ql h.re)
 have hos:=Qm (x.replaced.map jW) 44
 have hl:=h.rl
 unfold wZ B6
 simp only[bA,dR,bF,c8]at*
 omega
theorem aiG{x:bN}(h:JF x):(L5 x.aK).size≤B6:=by
 have hos:=Qm (x.aK.rounds.map F7) 32
 have hlz:=yw F7 43 x.aK.rounds (V0 h.ar.2 h.ay)
 have hl:=h.al
 unfold L5 B6
 omega
theorem aiH{x:gI}(h1:rY x.id)(h2:rY x.fJ)(h3:rY x.sent)(h4:rY x.next)(h5:x.bp.length≤1048576)(h6:x.inbox.length≤1048576):(Qj x).size≤B6:=by
 have z1:=dM h1
 have z2:=dM h2
 have z3:=dM h3
 have z4:=dM (n:=(x.bp.length:Int)) (by omega)
 have z5:=dM (n:=(x.inbox.length:Int)) (by omega)
 have z6:=dM h4
 unfold Qj B6
 simp only[bA,dR,bF,c8]at*
 omega
theorem aiI{x:cu}(h1:rY x.id)(h2:rY x.round):(HJ x).size≤B6:=by
 have z1:=dM h1
 have z2:=dM h2
 have z3:(L3 x.behavior).size≤6:=by
  unfold L3
  split
  ·exact Qk _
  ·decide
 unfold HJ B6
 simp only[bA,dR,bF,c8]at*
 omega
theorem JF.inb{x:bN}(h:JF x)(c:Int):eN aL (Cv x c)≤1048576:=by
 unfold Cv
 have hz:=h.sz
 by_cases hc:c.toNat<x.ah.length
 ·exact(ET (ES hz hc)).2.1
 ·rw[aA,List.getElem?_eq_none (by omega)]
  decide
theorem aiJ{x:bN}(h:JF x)(c:Int):(HH x c).size≤B6:=by
 have h1:=h.inb c
 have h2:=join_le (Cv x c) 124
 unfold HH B6
 split
 ·rw[dR];omega
 ·decide
theorem Qp(x:bN)(r row s:Int):(EZ x r row s).length≤1048576:=by
 cases h:oM x.aK.rounds r with
 |false=>rw[(Lw h).1];decide
 |true=>
  rw[(PF h).1]
  cases h2:lV (CP x r row s)with
  |false=>rw[E1 h2];decide
  |true=>
   rw[PE h2]
   have:=Lo (Lv h2) (CP x r row s).length
   rwa [List.take_length]at this
theorem ae8{l:List UInt8}(h:l.length≤1048576):(YH l).size≤B6:=by
 unfold YH B6
 split
 ·decide
 ·rw[dR,Lib.Hx.encode_length];omega
theorem amR(x:bN)(r row:Int):(pdT x r row).size≤B6:=by
 unfold pdT
 split
 ·exact ae8 (Qp ..)
 ·exact JP
theorem Qq(l:List jE)(k:Nat): -9223372036854775808≤Cz l k∧Cz l k≤9223372036854775807:=by
 cases k with
 |zero=>exact⟨show(-9223372036854775808:Int)≤0 by decide,show(0:Int)≤9223372036854775807 by decide⟩
 |succ k=>exact PT _
theorem LO.same{x:bN}{n:Nat}(h:JW x n){b:ByteArray}(hb:b.size≤B6):LO n (x,some b):=⟨h.mono (by omega),fun b' e=>by cases e;exact hb⟩
theorem LO.none{x:bN}{n:Nat}(h:JW x n):LO n (x,none):=⟨h.mono (by omega),fun b' e=>by cases e⟩
theorem LO.ov{x:bN}{n:Nat}(h:JW x n)(hn:n≤10000)(e:Ev):LO n (Wf x e):=⟨(h.ev (e:=e) (by omega)).mono (by omega),fun b' e=>by cases e;exact YI _⟩
theorem apC(c:Int):yh (kr c 60)≤60:=by
 unfold yh kr
 split<;>split<;>omega
theorem JW.rn{x:bN}{n:Nat}(h:JW x n)(hn:n≤10000)(c:Int):JW (iK x (yh (kr c 60))) (n+60):=(h.run _ (by have:=apC c;omega)).mono (by have:=apC c;omega)
theorem LO.rn{x:bN}{n:Nat}(h:JW x n)(hn:n≤10000)(c:Int):LO n (rnO x c):=⟨h.rn hn c,fun b' e=>by cases e;exact Qo ((h.rn hn c).F (by omega))⟩
theorem LO.nw(n:Nat)(a b c d:Int):LO n (nwO a b c d):=⟨(JW.nw a b c d).mono (by omega),fun b' e=>by cases e;exact YI _⟩
theorem LO.bare{x:bN}{n:Nat}(h:JW x n)(hn:n≤10000)(w:List UInt8):LO n (gD x w):=by
 have hF:=h.F (n:=n) (by omega)
 have hr:JW (gr x) (n+1):=by
  have:=h.ev (e:=⟨1,0,0,[]⟩) (by omega)
  unfold DU at this
  simpa using this
 unfold gD
 repeat' split
 ·exact⟨hr.mono (by omega),fun b e=>by cases e;exact Qo (hr.F (by omega))⟩
 ·exact LO.rn h hn _
 ·exact LO.same h (aiG hF)
 ·exact LO.same h (Qo hF)
 ·refine LO.same h ?_
  have:=dM (Qq (HK x) (HK x).length)
  unfold B6;omega
 ·exact LO.same h (YJ _)
 ·exact LO.same h (YJ _)
 ·exact LO.none h
theorem JF.cli{x:bN}(h:JF x){n:Int}(hn: ¬(x.ah.length:Int)≤n)(h0:0≤n):(Qj (x.ah.getD n.toNat (aR .bR)).live).size≤B6:=by
 have hi:n.toNat<x.ah.length:=by omega
 obtain⟨q1,q2,q3,q4⟩:=h.cl _ hi
 have hl:=ET (ES h.sz hi)
 exact aiH q1 q2 q3 q4 (eF hl.1) (eF hl.2.1)
theorem JF.srv{x:bN}(h:JF x){n:Int}(hn: ¬(x.aG.length:Int)≤n)(h0:0≤n):(HJ (x.aG.getD n.toNat (aR .cu))).size≤B6:=by
 have hi:n.toNat<x.aG.length:=by omega
 obtain⟨q1,q2,q3⟩:=h.se _ hi
 exact aiI q1 q2
theorem LO.one{x:bN}{n:Nat}(h:JW x n)(hn:n≤10000)(w:List UInt8){c:Int}(hc:0≤c):LO n (kY x w c):=by
 have hF:=h.F (n:=n) (by omega)
 unfold kY
 repeat' split
 ·exact LO.ov h hn _
 ·exact LO.ov h hn _
 ·exact LO.rn h hn _
 ·refine LO.same h ?_
  unfold aaD
  split
  ·exact JP
  ·exact hF.cli (by assumption) hc
 ·refine LO.same h ?_
  unfold aaE
  split
  ·exact JP
  ·exact aiJ hF _
 ·refine LO.same h ?_
  unfold aaF
  split
  ·exact JP
  ·exact hF.srv (by assumption) hc
 ·exact LO.none h
theorem LO.two{x:bN}{n:Nat}(h:JW x n)(hn:n≤10000)(w:List UInt8)(c:Int)(s:List UInt8):LO n (pZ x w c s):=by
 unfold pZ
 repeat' split
 ·exact LO.ov h hn _
 ·exact LO.same h (amR ..)
 ·exact LO.ov h hn _
 ·exact LO.none h
theorem L9(s:List UInt8):0≤ez s:=by unfold ez;split<;>omega
theorem LO.line{x:bN}{n:Nat}(h:JW x n)(hn:n≤10000)(w:List (List UInt8)):LO n (iB x w):=by
 unfold iB
 split
 ·exact LO.bare h hn _
 ·split
  ·exact LO.one h hn _ (L9 _)
  ·exact LO.none h
 ·split
  ·exact LO.two h hn _ _ _
  ·exact LO.none h
 ·split
  ·unfold Wg
   split
   ·exact LO.nw n _ _ _ _
   ·exact LO.none h
  ·exact LO.none h
 ·exact LO.none h
def lnT(o:bN×Option ByteArray):ByteArray:=o.2.getD ⟨#[63]⟩
theorem Ma{n:Nat}{o:bN×Option ByteArray}(h:LO n o):(lnT o).size≤B6:=by
 obtain⟨x,o⟩:=o
 cases o with
 |none=>show(⟨#[63]⟩:ByteArray).size≤B6;decide
 |some b=>exact h.2 b rfl
def nu(L:List (List UInt8)):Nat→bN×ByteArray
 |0=>(zW,⟨#[]⟩)
 |k+1=>if L.getD k []= []then nu L k else((iB (nu L k).1 (dD 32 (L.getD k []))).1,(nu L k).2++(lnT (iB (nu L k).1 (dD 32 (L.getD k [])))++⟨#[10]⟩))
theorem Bo{L:List (List UInt8)}{k:Nat}(h:L.getD k []= []):nu L (k+1)=nu L k:=if_pos h
theorem Bp{L:List (List UInt8)}{k:Nat}(h:L.getD k []≠ []):nu L (k+1)=((iB (nu L k).1 (dD 32 (L.getD k []))).1,(nu L k).2++(lnT (iB (nu L k).1 (dD 32 (L.getD k [])))++⟨#[10]⟩)):=if_neg h
theorem Mb(L:List (List UInt8)): ∀k,k≤81→JW (nu L k).1 (60*k)∧(nu L k).2.size≤(B6+1)*k
 |0,_=>⟨JW.z _,aE _⟩
 |k+1,hk=>by
  obtain⟨h1,h2⟩:=Mb L k (by omega)
  by_cases h:L.getD k []= []
  ·rw[Bo h]
   exact⟨h1.mono (by omega),by rw[Dn];omega⟩
  ·rw[Bp h]
   have hl:=LO.line h1 (by omega) (dD 32 (L.getD k []))
   refine⟨hl.1.mono (by omega),?_⟩
   have:=Ma hl
   rw[bA,bA,show(⟨#[10]⟩:ByteArray).size=1 from rfl]
   rw[Dn];omega
def dK(s:List UInt8):List (List UInt8):=if(dD 10 s).getD ((dD 10 s).length-1) []= []then(dD 10 s).take ((dD 10 s).length-1)else dD 10 s
def ae9(s:List UInt8):Bool:=decide (4000<s.length)||decide (80<(dK s).length)
def apD:ByteArray:=⟨#[116,111,111,32,108,111,110,103,10]⟩
def runM(s:List UInt8):ByteArray:=if ae9 s=true then apD else(nu (dK s) (dK s).length).2
end
section
def CY(c:UInt8)(s:List UInt8):Nat→List (List UInt8)×Nat
 |0=>([],0)
 |k+1=>if k=s.length∨s.getD k 0=c then((CY c s k).1++ [(s.drop (CY c s k).2).take (k-(CY c s k).2)],k+1)else CY c s k
theorem JQ{c:UInt8}{s:List UInt8}{k:Nat}(h:k=s.length∨s.getD k 0=c):CY c s (k+1)=((CY c s k).1++ [(s.drop (CY c s k).2).take (k-(CY c s k).2)],k+1):=if_pos h
theorem Wh{c:UInt8}{s:List UInt8}{k:Nat}(h: ¬(k=s.length∨s.getD k 0=c)):CY c s (k+1)=CY c s k:=if_neg h
theorem Qr(c:UInt8)(s:List UInt8): ∀k,(CY c s k).2≤k∧(CY c s k).1.length≤k
 |0=>⟨bq 0,bq 0⟩
 |k+1=>by
  have h:=Qr c s k
  by_cases hc:k=s.length∨s.getD k 0=c
  ·rw[JQ hc];exact⟨bq _,by rw[List.length_append];simp;omega⟩
  ·rw[Wh hc];omega
theorem amV{l:List UInt8}{j:Nat}{c:UInt8}(h:(l.take j).all (fun b=>b !=c)=true)(hj:l[j]? =some c):ew l c=j:=by
 induction l generalizing j with
 |nil=>simp at hj
 |cons b r ih=>
  cases j with
  |zero=>
   simp only[List.getElem?_cons_zero,oI]at hj
   subst hj
   simp[ew]
  |succ j=>
   simp only[List.take_succ_cons,kX,az,bne_iff_ne,ne_eq]at h
   have:=ih h.2 (by simpa using hj)
   unfold ew
   rw[if_neg (by simpa using h.1),this,if_neg (by simp)]
   omega
theorem aiK{l:List UInt8}{c:UInt8}(h:l.all (fun b=>b !=c)=true):ew l c= -1:=by
 induction l with
 |nil=>rfl
 |cons b r ih=>
  simp only[kX,az,bne_iff_ne,ne_eq]at h
  unfold ew
  rw[if_neg (by simpa using h.1),ih h.2]
  rfl
theorem YN(c:UInt8)(s:List UInt8): ∀k,k≤s.length→(CY c s k).1++dD c (s.drop (CY c s k).2)=dD c s∧((s.drop (CY c s k).2).take (k-(CY c s k).2)).all (fun b=>b !=c)=true
 |0,_=>⟨rfl,rfl⟩
 |k+1,hk=>by
  obtain⟨h1,h2⟩:=YN c s k (by omega)
  have hl:=Qr c s k
  have amW:(s.drop (CY c s k).2)[k-(CY c s k).2]? =some (s.getD k 0):=by
   rw[List.getElem?_drop,show(CY c s k).2+(k-(CY c s k).2)=k by omega,aA,aC (by omega)]
   rfl
  by_cases hc:k=s.length∨s.getD k 0=c
  ·have hc2:s.getD k 0=c:=hc.resolve_left (by omega)
   rw[JQ hc]
   rw[hc2]at amW
   have hw:=HM c _ _ (amV h2 amW)
   rw[List.drop_drop,show(CY c s k).2+(k-(CY c s k).2+1)=k+1 by omega]at hw
   rw[hw]at h1
   refine⟨by rw[List.append_assoc];exact h1,by rw[Nat.sub_self];rfl⟩
  ·rw[Wh hc]
   refine⟨h1,?_⟩
   rw[show k+1-(CY c s k).2=(k-(CY c s k).2)+1 by omega,jm,amW,jx,h2]
   have:s.getD k 0≠c:=fun e=>hc (bB e)
   simpa using this
theorem aiL(c:UInt8)(s:List UInt8):(CY c s (s.length+1)).1=dD c s:=by
 obtain⟨h1,h2⟩:=YN c s s.length (bq _)
 rw[JQ (bY rfl)]
 have hl:=Qr c s s.length
 have e:(s.drop (CY c s s.length).2).take (s.length-(CY c s s.length).2)=s.drop (CY c s s.length).2:=aD (by rw[List.length_drop];exact bq _)
 rw[e]at h2 ⊢
 rw[←h1,HL c _ (aiK h2)]
theorem apE{c:UInt8}{s:List UInt8}{k:Nat}(h:(k:Int)=((bP s).size:Int)∨(((bP s).data.toList.getD k 0).toNat:Int)=(c.toNat:Int)):k=s.length∨s.getD k 0=c:=by
 rcases h with h|h
 ·left;rw[dR]at h;omega
 ·right
  have h2:(s.getD k 0).toNat=c.toNat:=by rw[GA]at h;omega
  exact UInt8.toNat_inj.1 h2
theorem apF{c:UInt8}{s:List UInt8}{k:Nat}(h: ¬(k:Int)=((bP s).size:Int)∧ ¬(((bP s).data.toList.getD k 0).toNat:Int)=(c.toNat:Int)): ¬(k=s.length∨s.getD k 0=c):=by
 rintro(e|e)
 ·exact h.1 (by rw[dR,e])
 ·exact h.2 (by rw[GA,e])
theorem amX(s:List UInt8)(f k:Nat):((bP s).extract (f:Int).toNat (k:Int).toNat).data.toList=(s.drop f).take (k-f):=by
 rw[Int.toNat_natCast,Int.toNat_natCast,QK,Array.toList_extract]
 rfl
theorem amY(s:List UInt8)(f k:Nat):((bP s).extract f k).size≤s.length:=by
 rw[QL,dR];omega
theorem zD{a b:Bool}(h:(if a=true then b else false)=true):a=true∧b=true:=by cases a<;>simp_all
theorem Wi{a b:Bool}(h:(if a=true then b else false)=false): ¬(a=true∧b=true):=by rintro⟨e,f⟩;rw[e,f]at h;cases h
theorem Wj{a:List UInt8}{b:ByteArray}:((bP a).toList==b.toList)=true↔a=b.data.toList:=⟨jI,fun e=>by rw[show bP a=b by rw[e];rfl,beq_self_eq_true]⟩
theorem Br{a b:Int}:(a==b)=true↔a=b:=beq_iff_eq
theorem Qs{s:List UInt8}(h:fD s=false):ez s=0:=by unfold ez;rw[h];rfl
theorem aiM{s:List UInt8}(h: ¬(1≤(s.length:Int)∧(s.length:Int)≤13)):fD s=false:=by
 cases hp:fD s with
 |false=>rfl
 |true=>
  simp only[fD,az,decide_eq_true_eq]at hp
  exact absurd ⟨by omega,by omega⟩ h
theorem Qt(b:UInt8):Of b=inr (b.toNat:Int) 48 57:=by
 apply Bool.eq_iff_iff.2
 rw[dS]
 simp only[Of,az,decide_eq_true_eq]
 omega
theorem aiN{s:List UInt8}{k:Nat}(hk:k<s.length)(h:inr ((s.getD k 0).toNat:Int) 48 57=false):fD s=false:=by
 cases hp:fD s with
 |false=>rfl
 |true=>
  simp only[fD,az,decide_eq_true_eq]at hp
  have h1:=bE.1 hp.2.1 (s.getD k 0) (by rw[aA,aC hk];exact gF hk)
  rw[Qt,h]at h1
  cases h1
theorem Og{s:List UInt8}{k:Nat}(hk:k<s.length):nr (s.take (k+1))=10*nr (s.take k)+((s.getD k 0).toNat-48):=by
 rw[jm,aC hk,aA,aC hk]
 unfold nr
 rw[L7]
 rfl
theorem afb{s:List UInt8}{k:Nat}(hk:k<s.length)(h:(s.take k).all Of=true)(hd:inr ((s.getD k 0).toNat:Int) 48 57=true):(s.take (k+1)).all Of=true:=by
 rw[jm,aC hk,jx,h]
 rw[aA,aC hk]at hd
 have:=Qt s[k]
 rw[show inr ((s[k]).toNat:Int) 48 57=true from hd]at this
 simpa using this
theorem YO(s:List UInt8): ∀k,k≤s.length→(s.take k).all Of=true→nr (s.take k)<10^k
 |0,_,_=>by show 0<1;decide
 |k+1,hk,h=>by
  have hk1:k<s.length:=by omega
  have h0:(s.take k).all Of=true:=by
   rw[jm,jx,az]at h
   exact h.1
  have ih:=YO s k (by omega) h0
  have hd:Of (s.getD k 0)=true:=by
   rw[jm,aC hk1,jx,az]at h
   rw[aA,aC hk1]
   simpa using h.2
  rw[Qt,dS]at hd
  rw[Og hk1,Nat.pow_succ]
  omega
theorem aiO{s:List UInt8}{k:Nat}(hk:k≤s.length)(h13:s.length≤13)(h:(s.take k).all Of=true):nr (s.take k)<10000000000000:=
 Nat.lt_of_lt_of_le (YO s k hk h) (dH (Nat.pow_le_pow_right (by decide) (show k≤13 by omega)) (by decide))
theorem YP{s:List UInt8}(h1:1≤s.length)(h2:s.length≤13)(hall:s.all Of=true):fD s=(decide (nr s≤1000000000000)&&(cg (nr s:Int)==s)):=by
 unfold fD
 rw[decide_eq_true h1,decide_eq_true h2,hall]
 have:cg (nr s:Int)=Lib.decDigits (nr s):=by unfold cg;rw[if_neg (by omega)];rfl
 rw[this]
 rfl
theorem aiP{s:List UInt8}(h1:1≤s.length)(h2:s.length≤13)(hall:s.all Of=true)(h:1000000000000<(nr s:Int)∨ ¬(bP (cg (nr s:Int))).toList=(bP s).toList):fD s=false:=by
 rw[YP h1 h2 hall]
 rcases h with h|h
 ·rw[decide_eq_false (by omega)];rfl
 ·have:(cg (nr s:Int)==s)=false:=by
   rw[beq_eq_false_iff_ne]
   intro e
   rw[e]at h
   exact h rfl
  rw[this,Bool.and_false]
theorem afc{s:List UInt8}(h1:1≤s.length)(h2:s.length≤13)(hall:s.all Of=true)(h:(nr s:Int)≤1000000000000∧(bP (cg (nr s:Int))).toList=(bP s).toList):fD s=true∧ez s=(nr s:Int):=by
 have hp:fD s=true:=by
  rw[YP h1 h2 hall,decide_eq_true (by omega),Bool.true_and]
  rw[beq_iff_eq]
  have:=h.2
  rw[ByteArray.toList_eq,ByteArray.toList_eq]at this
  exact this
 exact⟨hp,by unfold ez;rw[hp];rfl⟩
theorem amZ{s:List UInt8}{k:Nat}(hk:k<s.length)(hn:nr (s.take k)<10000000000000)(hd:inr ((s.getD k 0).toNat:Int) 48 57=true):
  af.wrap (af.wrap (10*(nr (s.take k):Int))+af.wrap (cC.wrap ((((bP s).data.toList.getD (k:Int).toNat 0).toNat:Int)-48)))=(nr (s.take (k+1)):Int):=by
 rw[dS]at hd
 rw[Og hk]
 have e:(bP s).data.toList.getD (k:Int).toNat 0=s.getD k 0:=rfl
 rw[e]
 have h8:cC.wrap (((s.getD k 0).toNat:Int)-48)=((s.getD k 0).toNat:Int)-48:=by
  show(((s.getD k 0).toNat:Int)-48)% 256=_
  omega
 rw[h8,dm (a:=((s.getD k 0).toNat:Int)-48) (by omega),dm (a:=10*(nr (s.take k):Int)) (by omega),dm (by omega)]
 omega
theorem afd(s:List UInt8)(k:Nat):af.wrap ((s.getD k 0).toNat:Int)=((s.getD k 0).toNat:Int):=dm (by have:=(s.getD k 0).toNat_lt;omega)
theorem aiQ{a:List UInt8}{b:ByteArray}(h:(!((bP a).toList==b.toList))=true):a≠b.data.toList:=nq (by simpa using h)
theorem apG{a:List UInt8}{b:ByteArray}(h:a≠b.data.toList):(!((bP a).toList==b.toList))=true:=by
 cases e:((bP a).toList==b.toList)with
 |false=>rfl
 |true=>exact absurd (jI e) h
def pdL(x:bN)(r row:Int):List UInt8:=if okW x=true then EZ x r row 1 else []
theorem afe{x:bN}{r row:Int}(h:DR x r row=true):pdL x r row=EZ x r row 1∧pdT x r row=YH (EZ x r row 1):=by
 have h2:=h
 unfold DR at h2
 rw[az]at h2
 exact⟨if_pos h2.1,if_pos h⟩
theorem akK{x:bN}{r row:Int}(h:DR x r row=false):pdT x r row=Jj:=if_neg (by rw[h];decide)
theorem am0{t:List UInt8}{k:Nat}(hk:k<4)(h:names.getD k []=t):Un t=k:=by
 match k,hk with
 |0,_=>subst h;rfl
 |1,_=>subst h;rfl
 |2,_=>subst h;rfl
 |3,_=>subst h;rfl
theorem aiR{t:List UInt8}(h: ∀j,j<4→names.getD j []≠t):Un t= -1:=by
 unfold Un
 rw[if_neg (fun e=>h 0 (by decide) e.symm),if_neg (fun e=>h 1 (by decide) e.symm),if_neg (fun e=>h 2 (by decide) e.symm),if_neg (fun e=>h 3 (by decide) e.symm)]
def nmL(M:List (List UInt8))(j:Nat):List Int:=(M.take j).map ez
theorem TT{M:List (List UInt8)}{j:Nat}(h:j<M.length):nmL M (j+1)=nmL M j++ [ez (M.getD j [])]:=by
 unfold nmL
 rw[cB M j [] h,List.map_append]
 rfl
theorem YQ{M:List (List UInt8)}{j:Nat}(h:j≤M.length):(nmL M j).length=j:=by
 unfold nmL
 rw[List.length_map,bV];omega
theorem Oh{M:List (List UInt8)}{j:Nat}(h:j<M.length)(hp:fD (M.getD j [])=false):M.all fD=false:=by
 cases e:M.all fD with
 |false=>rfl
 |true=>
  have:=bE.1 e (M.getD j []) (by rw[aA,aC h];exact gF h)
  rw[hp]at this
  cases this
theorem aff{M:List (List UInt8)}{j:Nat}(h:j<M.length)(ha:(M.take j).all fD=true)(hp:fD (M.getD j [])=true):(M.take (j+1)).all fD=true:=by
 rw[cB M j [] h,jx,ha,kX,hp]
 rfl
theorem YR{M:List (List UInt8)}{j:Nat}(h:M.length≤j)(ha:(M.take j).all fD=true):M.all fD=true∧nmL M j=M.map ez:=by
 unfold nmL
 rw[aD h]at*
 exact⟨ha,rfl⟩
def nwL(x:bN)(M:List (List UInt8)):bN×Option ByteArray:=
 if M.all fD=true then nwO ((M.map ez).getD 0 0) ((M.map ez).getD 1 0) ((M.map ez).getD 2 0) ((M.map ez).getD 3 0)else(x,none)
end
section
variable{x:bN}{L:List (List UInt8)}
def TY:List UInt8:= [115,101,110,100]
def Oj:List UInt8:= [99,111,114,114,117,112,116]
def lNew:List UInt8:= [110,101,119]
theorem aiW(h:L.length=1):iB x L=gD x (L.getD 0 []):=by
 match L,h with
 | [w],_=>rfl
theorem Wl(x:bN)(a b c d:List UInt8):Wg x a b c d=nwL x [a,b,c,d]:=by
 unfold Wg nwL
 simp only[kX,List.all_nil,Bool.and_true,Bool.and_assoc]
 rfl
theorem aaH(h:L.length=5)(h0:L.getD 0 []=lNew):iB x L=nwL x (L.drop 1):=by
 match L,h with
 | [w,a,b,c,d],_=>
   have hw:w= [110,101,119]:=h0
   show(if w= [110,101,119]then Wg x a b c d else(x,none))=_
   rw[if_pos hw,Wl]
   rfl
theorem s7(h:L.length=2∨L.length=3)(hp:fD (L.getD 1 [])=false):iB x L=(x,none):=by
 match L,h with
 | [w,a],_=>
   show(if fD a=true then _ else _)=_
   rw[if_neg (by rw[show fD a=false from hp];decide)]
 | [w,a,s],_=>
   show(if fD a=true then _ else _)=_
   rw[if_neg (by rw[show fD a=false from hp];decide)]
theorem YU(h:L.length=2)(hp:fD (L.getD 1 [])=true):iB x L=kY x (L.getD 0 []) (ez (L.getD 1 [])):=by
 match L,h with
 | [w,a],_=>exact if_pos hp
theorem B7(h:L.length=3)(hp:fD (L.getD 1 [])=true):iB x L=pZ x (L.getD 0 []) (ez (L.getD 1 [])) (L.getD 2 []):=by
 match L,h with
 | [w,a,s],_=>exact if_pos hp
theorem afm(h1: ¬L.length=1)(h2: ¬(L.length=2∨L.length=3))(h5: ¬(L.length=5∧L.getD 0 []=lNew)):iB x L=(x,none):=by
 match L with
 | []=>rfl
 | [w]=>exact absurd rfl h1
 | [w,a]=>exact absurd (bY rfl) h2
 | [w,a,b]=>exact absurd (bB rfl) h2
 | [w,a,b,c]=>rfl
 | [w,a,b,c,d]=>exact if_neg fun e=>h5 ⟨rfl,e⟩
 |w::a::b::c::d::e::r=>rfl
theorem afn{w s:List UInt8}{c:Int}(hw:w=TY)(hs:s≠ []):pZ x w c s=Wf x ⟨2,c,0,s⟩:=if_pos ⟨hw,hs⟩
theorem afo{w s:List UInt8}{c:Int}(hw:w=Oj)(hs:0≤Un s):pZ x w c s=Wf x ⟨4,c,Un s,[]⟩:=by
 unfold pZ
 rw[if_neg (fun h=>by rw[hw]at h;exact absurd h.1 (by decide)),if_neg (fun h=>by rw[hw]at h;exact absurd h.1 (by decide)),if_pos ⟨hw,hs⟩]
theorem TZ{w s:List UInt8}{c:Int}(hw:w=Oj)(hs: ¬0≤Un s):pZ x w c s=(x,none):=by
 unfold pZ
 rw[if_neg (fun h=>by rw[hw]at h;exact absurd h.1 (by decide)),if_neg (fun h=>by rw[hw]at h;exact absurd h.1 (by decide)),if_neg (fun h=>hs h.2)]
theorem Wm(h1: ¬L.length=1)(h0:1≤L.length)(hs: ¬(L.getD 0 []=TY∧L.length=3∧L.getD 2 []≠ []))(hc: ¬(L.getD 0 []=Oj∧L.length=3))(hp:(L.drop 1).all fD=false):iB x L=(x,none):=by
 match L with
 | []=>exact absurd h0 (by decide)
 | [w]=>exact absurd rfl h1
 | [w,a]=>
   refine s7 (bY rfl) ?_
   simpa using hp
 | [w,a,s]=>
   cases ha:fD a with
   |false=>exact s7 (bB rfl) ha
   |true=>
    have hps:fD s=false:=by simpa[ha]using hp
    rw[B7 (L:= [w,a,s]) rfl ha]
    show pZ x w (ez a) s=_
    unfold pZ
    rw[if_neg (fun h=>hs ⟨h.1,rfl,h.2⟩),if_neg (fun h=>by rw[hps]at h;exact absurd h.2 (by decide)),if_neg (fun h=>hc ⟨h.1,rfl⟩)]
 | [w,a,b,c]=>rfl
 | [w,a,b,c,d]=>
   show(if w= [110,101,119]then Wg x a b c d else(x,none))=_
   split
   ·rw[Wl]
    exact if_neg (by rw[show([a,b,c,d]:List (List UInt8)).all fD=false from hp];decide)
   ·rfl
 |w::a::b::c::d::e::r=>rfl
theorem aaI(h1: ¬L.length=1)(h0:1≤L.length)(hs: ¬(L.getD 0 []=TY∧L.length=3∧L.getD 2 []≠ []))(hc: ¬(L.getD 0 []=Oj∧L.length=3))(hp:(L.drop 1).all fD=true):iB x L=mT x (L.getD 0 []) ((L.drop 1).map ez):=by
 match L with
 | []=>exact absurd h0 (by decide)
 | [w]=>exact absurd rfl h1
 | [w,a]=>
   have ha:fD a=true:=by simpa using hp
   rw[YU (L:= [w,a]) rfl ha]
   unfold mT
   rw[if_neg (fun h=>absurd h.2 (by show¬1=4;decide)),if_neg (fun h=>absurd h.2 (by show¬1=2;decide)),if_pos (by rfl)]
   rfl
 | [w,a,s]=>
   have hp2:fD a=true∧fD s=true:=by simpa using hp
   rw[B7 (L:= [w,a,s]) rfl hp2.1]
   show pZ x w (ez a) s=mT x w [ez a,ez s]
   have g0: ¬(w= [115,101,110,100]∧s≠ []):=fun h=>hs ⟨h.1,rfl,h.2⟩
   have g1: ¬(w= [110,101,119]∧([ez a,ez s]:List Int).length=4):=fun h=>absurd h.2 (by show¬2=4;decide)
   by_cases hr:w= [114,101,97,100]
   ·have e1:pZ x w (ez a) s=(x,some (pdT x (ez a) (ez s))):=by unfold pZ;rw[if_neg g0,if_pos ⟨hr,hp2.2⟩]
    have e2:mT x w [ez a,ez s]=(x,some (pdT x (ez a) (ez s))):=by unfold mT;rw[if_neg g1,if_pos ⟨hr,rfl⟩];rfl
    rw[e1,e2]
   ·have e1:pZ x w (ez a) s=(x,none):=by unfold pZ;rw[if_neg g0,if_neg (fun h=>hr h.1),if_neg (fun h=>hc ⟨h.1,rfl⟩)]
    have e2:mT x w [ez a,ez s]=(x,none):=by unfold mT;rw[if_neg g1,if_neg (fun h=>hr h.1),if_neg (by show¬2=1;decide)]
    rw[e1,e2]
 | [w,a,b,c]=>
   show(x,none)=mT x w [ez a,ez b,ez c]
   unfold mT
   rw[if_neg (fun h=>absurd h.2 (by show¬3=4;decide)),if_neg (fun h=>absurd h.2 (by show¬3=2;decide)),if_neg (by show¬3=1;decide)]
 | [w,a,b,c,d]=>
   show(if w= [110,101,119]then Wg x a b c d else(x,none))=mT x w [ez a,ez b,ez c,ez d]
   unfold mT
   by_cases hw:w= [110,101,119]
   ·rw[if_pos hw,if_pos ⟨hw,rfl⟩,Wl]
    exact if_pos hp
   ·rw[if_neg hw,if_neg (fun h=>hw h.1),if_neg (fun h=>absurd h.2 (by show¬4=2;decide)),if_neg (by show¬4=1;decide)]
 |w::a::b::c::d::e::r=>
  show(x,none)=mT x w (((a::b::c::d::e::r)).map ez)
  unfold mT
  rw[if_neg (fun h=>absurd h.2 (by simp)),if_neg (fun h=>absurd h.2 (by simp)),if_neg (by simp)]
theorem T0{o:bN×Option ByteArray}(h:o.2.isSome=false):lnT o=⟨#[63]⟩:=by
 obtain⟨x,o⟩:=o
 cases o with
 |none=>rfl
 |some b=>cases h
theorem T3{o:bN×Option ByteArray}(h:o.2.isSome=true):o.2.getD ⟨#[]⟩=lnT o:=by
 obtain⟨x,o⟩:=o
 cases o with
 |none=>cases h
 |some b=>rfl
theorem aiX{l:List (List UInt8)}{y:List UInt8}(h:y∈l):y.length+1≤eN aL l:=by
 induction l with
 |nil=>cases h
 |cons z r ih=>
  unfold eN at ih ⊢
  simp only[bF,List.map_cons,List.sum_cons]
  rcases List.mem_cons.1 h with rfl|h
  ·omega
  ·have:=ih h;omega
theorem YV{s:List UInt8}(h:(dD 10 s).getD ((dD 10 s).length-1) []= []):dK s=(dD 10 s).take ((dD 10 s).length-1):=if_pos h
theorem afp{s:List UInt8}(h:(dD 10 s).getD ((dD 10 s).length-1) []≠ []):dK s=dD 10 s:=if_neg h
theorem aiY{s y:List UInt8}(h:y∈dK s):y∈dD 10 s:=by
 unfold dK at h
 split at h
 ·exact List.mem_of_mem_take h
 ·exact h
theorem YW(s:List UInt8):(dK s).length≤s.length+1:=by
 have h1:=Bm (dD 10 s)
 have h2:=pY 10 s
 unfold dK
 split
 ·rw[bV];omega
 ·omega
theorem Qv{s:List UInt8}{k:Nat}(hk:k<(dK s).length):((dK s).getD k []).length≤s.length:=by
 have hm:(dK s).getD k []∈dK s:=by rw[aA,aC hk];exact gF hk
 have h1:=aiX (aiY hm)
 have h2:=pY 10 s
 omega
theorem Qw{s:List UInt8}(h:4000<s.length∨80<(dK s).length):runM s=apD:=by
 unfold runM ae9
 rw[if_pos]
 rcases h with h|h
 ·rw[decide_eq_true h];rfl
 ·rw[decide_eq_true h,Bool.or_true]
theorem Qx{s:List UInt8}(h: ¬(4000<s.length∨80<(dK s).length)):runM s=(nu (dK s) (dK s).length).2:=by
 unfold runM ae9
 rw[if_neg]
 rw[decide_eq_false (fun e=>h (bY e)),decide_eq_false (fun e=>h (bB e))]
 decide
end
end Go.Proofs.YtaalpcnbbldlaaaGreatDoor.G
