/- Steps. -/
import Derived.Test.YtaalpcnbbldlaaaGreatDoorR19
import Derived.Test.YtaalpcnbbldlaaaGreatDoorR20
open Bool renaming and_eq_true→an,not_eq_true'→bO
open ByteArray renaming append_assoc→tR,data_extract→Xm,ext→IB,size_append→eK,size_extract→Xn
open Go.IntKind renaming i64→af,u8→cJ
open Go.Lib renaming decDigits→gH,indexByte→fJ,itoa→bN
open List renaming all_append→lI,all_cons→nM,all_eq_true→bE,append_assoc→bU,filter_append→s8,filter_cons_of_neg→ez,filter_cons_of_pos→dV,flatMap_cons→fP,getD_eq_getElem?_getD→aq,getElem?_eq_getElem→az,getElem?_eq_none→jh,getElem_mem→kM,length→aN,length_append→aQ,length_cons→bp,length_nil→dh,length_take→ct,mem_cons→bh,mem_cons_of_mem→aE,mem_cons_self→bA,mem_map→bQ,take_add_one→lf,take_of_length_le→aD
open Nat renaming add_assoc→gC,le_refl→aS,le_succ→nF,le_trans→cB,mod_lt→iN,mul_add→jX,not_lt_zero→jE,sub_self→vi,zero_add→dB,zero_le→aY
open Or renaming inl→bP,inr→bw
namespace Go.Proofs.YtaalpcnbbldlaaaGreatDoor.G
set_option linter.all false
open Go.RowKit L D
section
variable{x:dF}{n:Nat}{c:Int}(b:Bool)(s:List UInt8)
def zW:dF:=⟨0,[],[],⟨0,[]⟩,0,0,0,[],0⟩
theorem Ex:okW zW=false:=by decide
theorem aoa(e:Ev):FL zW e=zW:=by
 have h1:gG zW=zW:=by unfold gG;rw[if_neg];unfold tD;rw[Ex];decide
 have h2: ∀c b,TU zW c b=zW:=fun c b=>by unfold TU;rw[if_neg];unfold gY;rw[Ex];simp
 have h3: ∀c,Se zW c=zW:=fun c=>by unfold Se;rw[if_neg];unfold gY;rw[Ex];simp
 have h4: ∀i b,V1 zW i b=zW:=fun i b=>by unfold V1;rw[if_neg];unfold Cl;rw[Ex];simp
 have h5: ∀c,D5 zW c=zW:=fun c=>by unfold D5;rw[if_neg];unfold gY;rw[Ex];simp
 unfold FL;rw[h1,h2,h3,h4,h5];simp
theorem aob: ∀k,jC zW k=zW
 |0=>rfl
 |k+1=>by
  show gG (jC zW k)=zW
  rw[aob k];have:=aoa ⟨1,0,0,[]⟩;unfold FL at this;simpa using this
def JW(x:dF)(n:Nat):Prop:=x=zW∨(QW x n∧Q7 x.replaced)
theorem JW.mono{m:Nat}(h:JW x n)(hn:n≤m):JW x m:=h.imp id fun h=>⟨h.1.mono hn,h.2⟩
theorem JW.z(n:Nat):JW zW n:=bP rfl
theorem aED(x:dF)(c:Int):(D5 x c).replaced=x.replaced:=by unfold D5;split<;>rfl
theorem JW.ev{e:Ev}(h:JW x n)(hn:n≤99998):JW (FL x e) (n+1):=by
 rcases h with rfl| ⟨h,hr⟩
 ·rw[aoa];exact JW.z _
 ·refine bw ?_;unfold FL
  repeat' split
  ·exact⟨h.rd hn,an7 hr⟩
  ·exact⟨h.sm.mono (nF _),by rw[aEz];exact hr⟩
  ·exact⟨h.cc.mono (nF _),by rw[aEA];exact hr⟩
  ·exact⟨h.co.mono (nF _),by rw[aEB];exact hr⟩
  ·exact⟨h.sv.mono (nF _),by rw[aED];exact hr⟩
  ·exact⟨h.mono (nF _),hr⟩
theorem JW.run(h:JW x n): ∀k,n+k≤99998→JW (jC x k) (n+k)
 |0,_=>h
 |k+1,hk=>by
  have h1:=JW.run h k aJ;have:=JW.ev (e:=⟨1,0,0,[]⟩) h1 aJ;unfold FL at this;show JW (gG (jC x k)) (n+k+1)
  simpa using this
def Xl(a b c d:Int):dF:=if(inr a 1 64&&dR b)&&inr c 1 4 then Wb a b.toNat c.toNat d else zW
theorem Wz{a b d:Int}(h:((inr a 1 64&&dR b)&&inr c 1 4)=false):Xl a b c d=zW:=by unfold Xl;rw[h];rfl
theorem WA{a b d:Int}(h:((inr a 1 64&&dR b)&&inr c 1 4)=true):Xl a b c d=Wb a b.toNat c.toNat d∧(1≤a∧a≤64)∧(2≤b∧b≤4)∧1≤c∧c≤4:=by
 refine⟨by unfold Xl;rw[h];rfl,?_⟩;simp only[dR,an,dK]at h;omega
theorem JW.nw(a b c d:Int):JW (Xl a b c d) 0:=by
 cases h:((inr a 1 64&&dR b)&&inr c 1 4)with
 |false=>rw[Wz h];exact JW.z _
 |true=>
  obtain⟨h1,h2,h3,h4⟩:=WA h;rw[h1];exact bw ⟨⟨afA h2 aJ aJ,Int.le_refl 0,Int.le_refl 0,aS 0⟩,fun y hy=>by cases hy⟩
theorem JW.C(h:JW x n):wC x (8*n):=by
 rcases h with rfl| ⟨h,_⟩
 ·exact⟨by decide,by decide,by decide,aY _⟩
 ·exact h.C
theorem JW.R(h:JW x n)(hn:n≤100000):wR x:=ana h.C aJ
structure JF(x:dF):Prop where
 rd:vO x.round
 ca:vO x.cancelled
 re: ∀y,y∈x.replaced→vO y
 dv:x.ah.length≤8
 sv:x.aC.length≤4
 rl:x.replaced.length≤1048576
 sz:jA x≤1048576
 ar:abC x.aH
 ay: ∀y,y∈x.aH.rounds→y.db.rows.length≤1048576
 al:x.aH.rounds.length≤1048576
 cl: ∀i,i<x.ah.length→vO (x.ah.getD i (aO .bR)).live.id∧vO (x.ah.getD i (aO .bR)).live.gJ∧vO (x.ah.getD i (aO .bR)).live.sent∧vO (x.ah.getD i (aO .bR)).live.next
 se: ∀i,i<x.aC.length→vO (x.aC.getD i (aO .cH)).id∧vO (x.aC.getD i (aO .cH)).round∧vO (x.aC.getD i (aO .cH)).behavior
theorem JW.F(h:JW x n)(hn:n≤20000):JF x:=by
 rcases h with rfl| ⟨h,hr⟩
 ·exact{rd:=(show sm5 0 by unfold sm5;decide).I,ca:=(show sm5 0 by unfold sm5;decide).I,re:=fun y hy=>(nomatch hy),dv:=by decide,sv:=by decide,rl:=by decide,sz:=by decide,ar:=⟨(show sm5 0 by unfold sm5;decide).I,fun y hy=>(nomatch hy)⟩,ay:=fun y hy=>(nomatch hy),al:=by decide,cl:=fun i hi=>absurd hi (jE _),se:=fun i hi=>absurd hi (jE _)}
 ·have w:=RP.of h.ok;have w1:=w.round;have w2:=w.CF;have w3:=h.CF;have w4:=h.ZJ;have ha:=rY.1 w.arc;have hy: ∀y,y∈x.aH.rounds→(0≤y.round∧y.round≤100000)∧fZ y.db=true:=by
   intro y hy;obtain⟨i,hi,rfl⟩:=List.mem_iff_getElem.1 hy;have h2:=ha.2 i hi;have h3:=qH.1 h2;have e:x.aH.rounds.getD i (aO .bn)=x.aH.rounds[i]:=by rw[aq,az hi];rfl
   rw[e]at h3;refine⟨?_,h3.2.2.1⟩;have h4:Cj x.aH.rows x.aH.rounds i=true:=h2;simp only[Cj,an,dK,e]at h4;exact h4.1.1.1
  have hs:=G9 jm 15000 4 x.aC (afU h.ok) w.nsv.2;have hB:=G9 cE 960 8 x.ah (fun d hd=>uy (TT h.ok d hd)) w.ndv.2;have hA:iS x.aH≤1601*8:=G9 jo 1600 8 _ (fun y h2=>QF (hy y h2).2) ha.1.2;refine⟨(show sm5 x.round by unfold sm5;omega).I,(show sm5 x.cancelled by unfold sm5;omega).I,hr,w.ndv.2,w.nsv.2,aJ,?_,⟨?_,fun y h2=>⟨(show sm5 y.round by have:=(hy y h2).1;unfold sm5;omega).I,fun _ _ _ _=>trivial⟩⟩,fun y h2=>cB (qF.1 (hy y h2).2).1 cO,by have:=ha.1.2;omega,fun i hi=> ?_,fun i hi=> ?_⟩
  ·unfold jA;omega
  ·have:=w.rows;rw[w.MU];exact(show sm5 x.rows by unfold sm5;omega).I
  ·have hd:=w.dv i hi;simp only[M8,gx,iJ,an,dK,decide_eq_true_eq]at hd;generalize x.ah.getD i (aO .bR)=d at hd ⊢;have k1:(0≤d.live.id∧d.live.id≤7)∧(0≤d.live.gJ∧d.live.gJ≤7)∧((d.live.aT.length:Int)≤16)∧(0≤d.live.sent∧d.live.sent≤(d.live.aT.length:Int))∧(0≤d.live.next∧d.live.next≤100001):=by
    omega
   refine⟨?_,?_,?_,?_⟩<;>(unfold vO;omega)
  ·have hd:=(Qf h.ok hi);simp only[W8,fk,Gb,an,dK,decide_eq_true_eq]at hd;generalize x.aC.getD i (aO .cH)=s at hd ⊢;refine⟨?_,?_,?_⟩<;>(unfold vO;omega)
def Ue(l:List UInt8):ByteArray:=if((l.length:Int)==0)=true then⟨#[45]⟩else bG (Lib.Hx.encode l)
def F1:ByteArray:=if b=true then⟨#[111,107]⟩else⟨#[110,111]⟩
def Ax:ByteArray:=if b=true then⟨#[121,101,115]⟩else⟨#[110,111]⟩
def JS:ByteArray:=⟨#[110,111,110,101]⟩
def ovO(x:dF)(e:Ev):dF×Option ByteArray:=(FL x e,some (F1 (vr x e)))
def rnO(x:dF)(n:Int):dF×Option ByteArray:=(jC x (Ao (lW n 60)),some (yz (jC x (Ao (lW n 60)))))
def F2(l:List lV):Nat→Int
 |0=>0
 |k+1=>af.wrap (F2 l k+(l.getD k (aO .lV)).bytes)
def HC(x:dF)(r row:Int):Bool:=okW x&&Ah x r row 1
def pdT(x:dF)(r row:Int):ByteArray:=if HC x r row=true then Ue (FJ x r row 1)else JS
def iC(x:dF)(w:List UInt8):dF×Option ByteArray:=
 if w= [114,111,117,110,100]then(gG x,some (yz (gG x)))
 else if w= [115,101,116,116,108,101]then rnO x (yy x)
 else if w= [97,114,99,104,105,118,101]then(x,some (LY x.aH))
 else if w= [119,111,114,108,100]then(x,some (yz x))
 else if w= [116,114,97,102,102,105,99]then(x,some (bG (bN (F2 (LZ x) (LZ x).length))))
 else if w= [97,117,100,105,116]then(x,some (Ax (wD x)))
 else if w= [113,117,105,101,116]then(x,some (Ax (vK x)))
 else(x,none)
def aaj(x:dF)(n:Int):ByteArray:=if(x.ah.length:Int)≤n then JS else Q4 (x.ah.getD n.toNat (aO .bR)).live
def aak(x:dF)(n:Int):ByteArray:=if(x.ah.length:Int)≤n then JS else Hw x n
def aal(x:dF)(n:Int):ByteArray:=if(x.aC.length:Int)≤n then JS else Hy (x.aC.getD n.toNat (aO .cH))
def mN(x:dF)(w:List UInt8)(n:Int):dF×Option ByteArray:=
 if w= [99,114,97,115,104]then ovO x ⟨3,n,0,[]⟩
 else if w= [115,97,118,101]then ovO x ⟨5,n,0,[]⟩
 else if w= [114,111,117,110,100,115]then rnO x n
 else if w= [99,108,105,101,110,116]then(x,some (aaj x n))
 else if w= [105,110,98,111,120]then(x,some (aak x n))
 else if w= [115,101,114,118,101,114]then(x,some (aal x n))
 else(x,none)
def nmI:Int:=if s= [104,111,110,101,115,116]then 0 else if s= [100,114,111,112,115]then 1 else if s= [97,108,116,101,114,115]then 2 else if s= [108,105,101,115]then 3 else-1
def qJ(x:dF)(w:List UInt8)(n:Int)(s:List UInt8):dF×Option ByteArray:=
 if w= [115,101,110,100]∧s≠ []then ovO x ⟨2,n,0,s⟩
 else if w= [114,101,97,100]∧gu s=true then(x,some (pdT x n (eP s)))
 else if w= [99,111,114,114,117,112,116]∧0≤nmI s then ovO x ⟨4,n,nmI s,[]⟩
 else(x,none)
def nwO(a b c d:Int):dF×Option ByteArray:=(Xl a b c d,some (F1 (okW (Xl a b c d))))
def Ra(x:dF)(a b c d:List UInt8):dF×Option ByteArray:=
 if(gu a&&gu b)&&(gu c&&gu d)then nwO (eP a) (eP b) (eP c) (eP d)else(x,none)
def iM(x:dF):List (List UInt8)→dF×Option ByteArray
 | [w]=>iC x w
 | [w,a]=>if gu a then mN x w (eP a)else(x,none)
 | [w,a,s]=>if gu a then qJ x w (eP a) s else(x,none)
 | [w,a,b,c,d]=>if w= [110,101,119]then Ra x a b c d else(x,none)
 |_=>(x,none)
def p9(x:dF)(w:List UInt8)(n:List Int):dF×Option ByteArray:=
 if w= [110,101,119]∧n.length=4 then nwO (n.getD 0 0) (n.getD 1 0) (n.getD 2 0) (n.getD 3 0)
 else if w= [114,101,97,100]∧n.length=2 then(x,some (pdT x (n.getD 0 0) (n.getD 1 0)))
 else if n.length=1 then mN x w (n.getD 0 0)
 else(x,none)
def Ey:Nat:=100000000
def LO(n:Nat)(o:dF×Option ByteArray):Prop:=JW o.1 (n+60)∧ ∀b,o.2=some b→b.size≤Ey
theorem af2:(F1 b).size≤Ey:=by unfold F1 Ey;split<;>decide
theorem af3:(Ax b).size≤Ey:=by unfold Ax Ey;split<;>decide
theorem Ov:JS.size≤Ey:=by decide
theorem WB(h:JF x):(yz x).size≤Ey:=by
 have z1:=dO h.rd;have z2:=dO h.ca;have z3:=dO (Og x.ah x.ah.length);have z4:=dO (V5 x.ah x.ah.length);have hlz:=BH mJ 21 x.replaced (Wx h.re);have hos:=Wy (x.replaced.map mJ) 44;have hl:=h.rl;unfold yz Ey;simp only[eK,cZ,bp,dh]at*;omega
theorem atQ(h:JF x):(LY x.aH).size≤Ey:=by
 have hos:=Wy (x.aH.rounds.map Ko) 32;have hlz:=BH Ko 43 x.aH.rounds (ac2 h.ar.2 h.ay);have hl:=h.al;unfold LY Ey;omega
theorem atS{x:kf}(h1:vO x.id)(h2:vO x.gJ)(h3:vO x.sent)(h4:vO x.next)(h5:x.aT.length≤1048576)(h6:x.inbox.length≤1048576):(Q4 x).size≤Ey:=by
 have z1:=dO h1;have z2:=dO h2;have z3:=dO h3;have z4:=dO (n:=(x.aT.length:Int)) aJ;have z5:=dO (n:=(x.inbox.length:Int)) aJ;have z6:=dO h4;unfold Q4 Ey;simp only[eK,cZ,bp,dh]at*;omega
theorem atT{x:cH}(h1:vO x.id)(h2:vO x.round):(Hy x).size≤Ey:=by
 have z1:=dO h1;have z2:=dO h2;have z3:(LX x.behavior).size≤6:=by
  unfold LX;split
  ·exact Ww _
  ·decide
 unfold Hy Ey;simp only[eK,cZ,bp,dh]at*;omega
theorem JF.inb(h:JF x)(c:Int):gb aN (Gy x c)≤1048576:=by
 unfold Gy;have hz:=h.sz;by_cases hc:c.toNat<x.ah.length
 ·exact(I0 (IZ hz hc)).2.1
 ·rw[aq,jh aJ];decide
theorem atU(h:JF x)(c:Int):(Hw x c).size≤Ey:=by
 have h1:=h.inb c;have h2:=join_le (Gy x c) 124;unfold Hw Ey;split
 ·rw[cZ];omega
 ·decide
theorem WC(x:dF)(r row s:Int):(FJ x r row s).length≤1048576:=by
 cases h:nk x.aH.rounds r with
 |false=>rw[(Qx h).1];decide
 |true=>
  rw[(VR h).1];cases h2:nq (yR x r row s)with
  |false=>rw[I6 h2];decide
  |true=>
   rw[Ob h2];have:=Qt (Qw h2) (yR x r row s).length
   rwa [List.take_length]at this
theorem aoc{l:List UInt8}(h:l.length≤1048576):(Ue l).size≤Ey:=by
 unfold Ue Ey;split
 ·decide
 ·rw[cZ,Lib.Hx.encode_length];omega
theorem azw(x:dF)(r row:Int):(pdT x r row).size≤Ey:=by
 unfold pdT;split
 ·exact aoc (WC ..)
 ·exact Ov
theorem WD(l:List lV)(k:Nat): -9223372036854775808≤F2 l k∧F2 l k≤9223372036854775807:=by
 cases k with
 |zero=>exact⟨show(-9223372036854775808:Int)≤0 by decide,show(0:Int)≤9223372036854775807 by decide⟩
 |succ k=>exact V4 _
theorem LO.same(h:JW x n){b:ByteArray}(hb:b.size≤Ey):LO n (x,some b):=⟨h.mono aJ,fun b' e=>by cases e;exact hb⟩
theorem LO.none{x:dF}{n:Nat}(h:JW x n):LO n (x,none):=⟨h.mono aJ,fun b' e=>by cases e⟩
theorem LO.ov(h:JW x n)(hn:n≤10000)(e:Ev):LO n (ovO x e):=⟨(h.ev (e:=e) aJ).mono aJ,fun b' e=>by cases e;exact af2 _⟩
theorem aEE(c:Int):Ao (lW c 60)≤60:=by
 unfold Ao lW;split<;>split<;>omega
theorem JW.rn(h:JW x n)(hn:n≤10000)(c:Int):JW (jC x (Ao (lW c 60))) (n+60):=(h.run _ (by have:=aEE c;omega)).mono (by have:=aEE c;omega)
theorem LO.rn(h:JW x n)(hn:n≤10000)(c:Int):LO n (rnO x c):=⟨h.rn hn c,fun b' e=>by cases e;exact WB ((h.rn hn c).F aJ)⟩
theorem LO.nw(n:Nat)(a b c d:Int):LO n (nwO a b c d):=⟨(JW.nw a b c d).mono aJ,fun b' e=>by cases e;exact af2 _⟩
theorem LO.bare(h:JW x n)(hn:n≤10000)(w:List UInt8):LO n (iC x w):=by
 have hF:=h.F (n:=n) aJ;have hr:JW (gG x) (n+1):=by
  have:=h.ev (e:=⟨1,0,0,[]⟩) aJ;unfold FL at this;simpa using this
 unfold iC
 repeat' split
 ·exact⟨hr.mono aJ,fun b e=>by cases e;exact WB (hr.F aJ)⟩
 ·exact LO.rn h hn _
 ·exact LO.same h (atQ hF)
 ·exact LO.same h (WB hF)
 ·refine LO.same h ?_;have:=dO (WD (LZ x) (LZ x).length);unfold Ey;omega
 ·exact LO.same h (af3 _)
 ·exact LO.same h (af3 _)
 ·exact LO.none h
theorem JF.cli(h:JF x){n:Int}(hn: ¬(x.ah.length:Int)≤n)(h0:0≤n):(Q4 (x.ah.getD n.toNat (aO .bR)).live).size≤Ey:=by
 have hi:n.toNat<x.ah.length:=by omega
 obtain⟨q1,q2,q3,q4⟩:=h.cl _ hi;have hl:=I0 (IZ h.sz hi);exact atS q1 q2 q3 q4 (fT hl.1) (fT hl.2.1)
theorem JF.srv(h:JF x){n:Int}(hn: ¬(x.aC.length:Int)≤n)(h0:0≤n):(Hy (x.aC.getD n.toNat (aO .cH))).size≤Ey:=by
 have hi:n.toNat<x.aC.length:=by omega
 obtain⟨q1,q2,q3⟩:=h.se _ hi;exact atT q1 q2
theorem LO.one(h:JW x n)(hn:n≤10000)(w:List UInt8)(hc:0≤c):LO n (mN x w c):=by
 have hF:=h.F (n:=n) aJ;unfold mN
 repeat' split
 ·exact LO.ov h hn _
 ·exact LO.ov h hn _
 ·exact LO.rn h hn _
 ·refine LO.same h ?_;unfold aaj;split
  ·exact Ov
  ·exact hF.cli (by assumption) hc
 ·refine LO.same h ?_;unfold aak;split
  ·exact Ov
  ·exact atU hF _
 ·refine LO.same h ?_;unfold aal;split
  ·exact Ov
  ·exact hF.srv (by assumption) hc
 ·exact LO.none h
theorem LO.two(h:JW x n)(hn:n≤10000)(w:List UInt8)(c:Int)(s:List UInt8):LO n (qJ x w c s):=by
 unfold qJ
 repeat' split
 ·exact LO.ov h hn _
 ·exact LO.same h (azw ..)
 ·exact LO.ov h hn _
 ·exact LO.none h
theorem Rb:0≤eP s:=by unfold eP;split<;>omega
theorem LO.line(h:JW x n)(hn:n≤10000)(w:List (List UInt8)):LO n (iM x w):=by
 unfold iM;split
 ·exact LO.bare h hn _
 ·split
  ·exact LO.one h hn _ (Rb _)
  ·exact LO.none h
 ·split
  ·exact LO.two h hn _ _ _
  ·exact LO.none h
 ·split
  ·unfold Ra;split
   ·exact LO.nw n _ _ _ _
   ·exact LO.none h
  ·exact LO.none h
 ·exact LO.none h
def lnT(o:dF×Option ByteArray):ByteArray:=o.2.getD ⟨#[63]⟩
theorem Rc{o:dF×Option ByteArray}(h:LO n o):(lnT o).size≤Ey:=by
 obtain⟨x,o⟩:=o;cases o with
 |none=>show(⟨#[63]⟩:ByteArray).size≤Ey;decide
 |some b=>exact h.2 b rfl
def nO(L:List (List UInt8)):Nat→dF×ByteArray
 |0=>(zW,⟨#[]⟩)
 |k+1=>if L.getD k []= []then nO L k else((iM (nO L k).1 (dA 32 (L.getD k []))).1,(nO L k).2++(lnT (iM (nO L k).1 (dA 32 (L.getD k [])))++⟨#[10]⟩))
theorem qK{L:List (List UInt8)}{k:Nat}(h:L.getD k []= []):nO L (k+1)=nO L k:=if_pos h
theorem pH{L:List (List UInt8)}{k:Nat}(h:L.getD k []≠ []):nO L (k+1)=((iM (nO L k).1 (dA 32 (L.getD k []))).1,(nO L k).2++(lnT (iM (nO L k).1 (dA 32 (L.getD k [])))++⟨#[10]⟩)):=if_neg h
theorem HD(L:List (List UInt8)): ∀k,k≤81→JW (nO L k).1 (60*k)∧(nO L k).2.size≤(Ey+1)*k
 |0,_=>⟨JW.z _,aY _⟩
 |k+1,hk=>by
  obtain⟨h1,h2⟩:=HD L k aJ;by_cases h:L.getD k []= []
  ·rw[qK h];exact⟨h1.mono aJ,by rw[jX];omega⟩
  ·rw[pH h];have hl:=LO.line h1 aJ (dA 32 (L.getD k []));refine⟨hl.1.mono aJ,?_⟩;have:=Rc hl;rw[eK,eK,show(⟨#[10]⟩:ByteArray).size=1 from rfl];rw[jX];omega
def eI:List (List UInt8):=if(dA 10 s).getD ((dA 10 s).length-1) []= []then(dA 10 s).take ((dA 10 s).length-1)else dA 10 s
def aod:Bool:=decide (4000<s.length)||decide (80<(eI s).length)
def aEF:ByteArray:=⟨#[116,111,111,32,108,111,110,103,10]⟩
def runM:ByteArray:=if aod s=true then aEF else(nO (eI s) (eI s).length).2
end
section
variable{c:UInt8}{s a:List UInt8}{k j:Nat}{b:ByteArray}{M:List (List UInt8)}
def Gs(c:UInt8)(s:List UInt8):Nat→List (List UInt8)×Nat
 |0=>([],0)
 |k+1=>if k=s.length∨s.getD k 0=c then((Gs c s k).1++ [(s.drop (Gs c s k).2).take (k-(Gs c s k).2)],k+1)else Gs c s k
theorem Ox(h:k=s.length∨s.getD k 0=c):Gs c s (k+1)=((Gs c s k).1++ [(s.drop (Gs c s k).2).take (k-(Gs c s k).2)],k+1):=if_pos h
theorem adi(h: ¬(k=s.length∨s.getD k 0=c)):Gs c s (k+1)=Gs c s k:=if_neg h
theorem WE(c:UInt8)(s:List UInt8): ∀k,(Gs c s k).2≤k∧(Gs c s k).1.length≤k
 |0=>⟨aS 0,aS 0⟩
 |k+1=>by
  have h:=WE c s k;by_cases hc:k=s.length∨s.getD k 0=c
  ·rw[Ox hc];exact⟨aS _,by rw[aQ];simp;omega⟩
  ·rw[adi hc];omega
theorem azA{l:List UInt8}(h:(l.take j).all (fun b=>b !=c)=true)(hj:l[j]? =some c):fJ l c=j:=by
 induction l generalizing j with
 |nil=>simp at hj
 |cons b r ih=>
  cases j with
  |zero=>
   simp only[List.getElem?_cons_zero,oI]at hj;subst hj;simp[fJ]
  |succ j=>
   simp only[List.take_succ_cons,nM,an,bne_iff_ne,ne_eq]at h;have:=ih h.2 aj2;unfold fJ;rw[if_neg (by simpa using h.1),this,if_neg fI];omega
theorem atV{l:List UInt8}(h:l.all (fun b=>b !=c)=true):fJ l c= -1:=by
 induction l with
 |nil=>rfl
 |cons b r ih=>
  simp only[nM,an,bne_iff_ne,ne_eq]at h;unfold fJ;rw[if_neg (by simpa using h.1),ih h.2];rfl
theorem af7(c:UInt8)(s:List UInt8): ∀k,k≤s.length→(Gs c s k).1++dA c (s.drop (Gs c s k).2)=dA c s∧((s.drop (Gs c s k).2).take (k-(Gs c s k).2)).all (fun b=>b !=c)=true
 |0,_=>⟨rfl,rfl⟩
 |k+1,hk=>by
  obtain⟨h1,h2⟩:=af7 c s k aJ;have hl:=WE c s k;have azB:(s.drop (Gs c s k).2)[k-(Gs c s k).2]? =some (s.getD k 0):=by
   rw[List.getElem?_drop,show(Gs c s k).2+(k-(Gs c s k).2)=k by omega,aq,az aJ];rfl
  by_cases hc:k=s.length∨s.getD k 0=c
  ·have hc2:s.getD k 0=c:=hc.resolve_left aJ;rw[Ox hc];rw[hc2]at azB;have hw:=L1 c _ _ (azA h2 azB);rw[List.drop_drop,show(Gs c s k).2+(k-(Gs c s k).2+1)=k+1 by omega]at hw;rw[hw]at h1;refine⟨by rw[bU];exact h1,by rw[vi];rfl⟩
  ·rw[adi hc];refine⟨h1,?_⟩;rw[show k+1-(Gs c s k).2=(k-(Gs c s k).2)+1 by omega,lf,azB,lI,h2];have:s.getD k 0≠c:=fun e=>hc (bw e);simpa using this
theorem atW(c:UInt8)(s:List UInt8):(Gs c s (s.length+1)).1=dA c s:=by
 obtain⟨h1,h2⟩:=af7 c s s.length (aS _);rw[Ox (bP rfl)];have hl:=WE c s s.length;have e:(s.drop (Gs c s s.length).2).take (s.length-(Gs c s s.length).2)=s.drop (Gs c s s.length).2:=aD (by rw[List.length_drop];exact aS _);rw[e]at h2 ⊢;rw[←h1,L0 c _ (atV h2)]
theorem aEG(h:(k:Int)=((bG s).size:Int)∨(((bG s).data.toList.getD k 0).toNat:Int)=(c.toNat:Int)):k=s.length∨s.getD k 0=c:=by
 rcases h with h|h
 ·left;rw[cZ]at h;omega
 ·right;have h2:(s.getD k 0).toNat=c.toNat:=by rw[KU]at h;omega
  exact UInt8.toNat_inj.1 h2
theorem aEH(h: ¬(k:Int)=((bG s).size:Int)∧ ¬(((bG s).data.toList.getD k 0).toNat:Int)=(c.toNat:Int)): ¬(k=s.length∨s.getD k 0=c):=by
 rintro(e|e)
 ·exact h.1 (by rw[cZ,e])
 ·exact h.2 (by rw[KU,e])
theorem aof(s:List UInt8)(f k:Nat):((bG s).extract (f:Int).toNat (k:Int).toNat).data.toList=(s.drop f).take (k-f):=by
 rw[Int.toNat_natCast,Int.toNat_natCast,Xm,Array.toList_extract];rfl
theorem azC(s:List UInt8)(f k:Nat):((bG s).extract f k).size≤s.length:=by
 rw[Xn,cZ];omega
theorem CJ{a b:Bool}(h:(if a=true then b else false)=true):a=true∧b=true:=by cases a<;>simp_all
theorem adj{a b:Bool}(h:(if a=true then b else false)=false): ¬(a=true∧b=true):=by rintro⟨e,f⟩;rw[e,f]at h;cases h
theorem adk:((bG a).toList==b.toList)=true↔a=b.data.toList:=⟨l7,fun e=>by rw[show bG a=b by rw[e];rfl,beq_self_eq_true]⟩
theorem EA{a b:Int}:(a==b)=true↔a=b:=beq_iff_eq
theorem WG(h:gu s=false):eP s=0:=by unfold eP;rw[h];rfl
theorem atX(h: ¬(1≤(s.length:Int)∧(s.length:Int)≤13)):gu s=false:=by
 cases hp:gu s with
 |false=>rfl
 |true=>
  simp only[gu,an,decide_eq_true_eq]at hp;exact absurd ⟨aJ,aJ⟩ h
theorem WH(b:UInt8):Ou b=inr (b.toNat:Int) 48 57:=by
 apply Bool.eq_iff_iff.2;rw[dK];simp only[Ou,an,decide_eq_true_eq];omega
theorem atY(hk:k<s.length)(h:inr ((s.getD k 0).toNat:Int) 48 57=false):gu s=false:=by
 cases hp:gu s with
 |false=>rfl
 |true=>
  simp only[gu,an,decide_eq_true_eq]at hp;have h1:=bE.1 hp.2.1 (s.getD k 0) (by rw[aq,az hk];exact kM hk);rw[WH,h]at h1;cases h1
theorem Uf(hk:k<s.length):nh (s.take (k+1))=10*nh (s.take k)+((s.getD k 0).toNat-48):=by
 rw[lf,az hk,aq,az hk];unfold nh;rw[Q8];rfl
theorem aog(hk:k<s.length)(h:(s.take k).all Ou=true)(hd:inr ((s.getD k 0).toNat:Int) 48 57=true):(s.take (k+1)).all Ou=true:=by
 rw[lf,az hk,lI,h];rw[aq,az hk]at hd;have:=WH s[k];rw[show inr ((s[k]).toNat:Int) 48 57=true from hd]at this;simpa using this
theorem af8(s:List UInt8): ∀k,k≤s.length→(s.take k).all Ou=true→nh (s.take k)<10^k
 |0,_,_=>by show 0<1;decide
 |k+1,hk,h=>by
  have hk1:k<s.length:=by omega
  have h0:(s.take k).all Ou=true:=by
   rw[lf,lI,an]at h;exact h.1
  have ih:=af8 s k aJ h0;have hd:Ou (s.getD k 0)=true:=by
   rw[lf,az hk1,lI,an]at h;rw[aq,az hk1];simpa using h.2
  rw[WH,dK]at hd;rw[Uf hk1,Nat.pow_succ];omega
theorem atZ(hk:k≤s.length)(h13:s.length≤13)(h:(s.take k).all Ou=true):nh (s.take k)<10000000000000:=
 Nat.lt_of_lt_of_le (af8 s k hk h) (cB (Nat.pow_le_pow_right cO (show k≤13 by omega)) cO)
theorem af9(h1:1≤s.length)(h2:s.length≤13)(hall:s.all Ou=true):gu s=(decide (nh s≤1000000000000)&&(bN (nh s:Int)==s)):=by
 unfold gu;rw[decide_eq_true h1,decide_eq_true h2,hall];have:bN (nh s:Int)=gH (nh s):=by unfold bN;rw[if_neg aJ];rfl
 rw[this];rfl
theorem at1(h1:1≤s.length)(h2:s.length≤13)(hall:s.all Ou=true)(h:1000000000000<(nh s:Int)∨ ¬(bG (bN (nh s:Int))).toList=(bG s).toList):gu s=false:=by
 rw[af9 h1 h2 hall];rcases h with h|h
 ·rw[decide_eq_false aJ];rfl
 ·have:(bN (nh s:Int)==s)=false:=by
   rw[beq_eq_false_iff_ne];intro e;rw[e]at h;exact h rfl
  rw[this,Bool.and_false]
theorem aoh(h1:1≤s.length)(h2:s.length≤13)(hall:s.all Ou=true)(h:(nh s:Int)≤1000000000000∧(bG (bN (nh s:Int))).toList=(bG s).toList):gu s=true∧eP s=(nh s:Int):=by
 have hp:gu s=true:=by
  rw[af9 h1 h2 hall,decide_eq_true aJ,Bool.true_and];rw[beq_iff_eq];have:=h.2;rw[ByteArray.toList_eq,ByteArray.toList_eq]at this;exact this
 exact⟨hp,by unfold eP;rw[hp];rfl⟩
theorem azD(hk:k<s.length)(hn:nh (s.take k)<10000000000000)(hd:inr ((s.getD k 0).toNat:Int) 48 57=true):
  af.wrap (af.wrap (10*(nh (s.take k):Int))+af.wrap (cJ.wrap ((((bG s).data.toList.getD (k:Int).toNat 0).toNat:Int)-48)))=(nh (s.take (k+1)):Int):=by
 rw[dK]at hd;rw[Uf hk];have e:(bG s).data.toList.getD (k:Int).toNat 0=s.getD k 0:=rfl;rw[e];have h8:cJ.wrap (((s.getD k 0).toNat:Int)-48)=((s.getD k 0).toNat:Int)-48:=by
  show(((s.getD k 0).toNat:Int)-48)% 256=_
  omega
 rw[h8,cY (a:=((s.getD k 0).toNat:Int)-48) aJ,cY (a:=10*(nh (s.take k):Int)) aJ,cY aJ];omega
theorem aoi(s:List UInt8)(k:Nat):af.wrap ((s.getD k 0).toNat:Int)=((s.getD k 0).toNat:Int):=cY (by have:=(s.getD k 0).toNat_lt;omega)
theorem at2(h:(!((bG a).toList==b.toList))=true):a≠b.data.toList:=qv Fy
theorem aEI(h:a≠b.data.toList):(!((bG a).toList==b.toList))=true:=by
 cases e:((bG a).toList==b.toList)with
 |false=>rfl
 |true=>exact absurd (l7 e) h
def pdL(x:dF)(r row:Int):List UInt8:=if okW x=true then FJ x r row 1 else []
theorem aoj{x:dF}{r row:Int}(h:HC x r row=true):pdL x r row=FJ x r row 1∧pdT x r row=Ue (FJ x r row 1):=by
 have h2:=h;unfold HC at h2;rw[an]at h2;exact⟨if_pos h2.1,if_pos h⟩
theorem awD{x:dF}{r row:Int}(h:HC x r row=false):pdT x r row=JS:=if_neg abx
theorem azE{t:List UInt8}(hk:k<4)(h:names.getD k []=t):nmI t=k:=by
 match k,hk with
 |0,_=>subst h;rfl
 |1,_=>subst h;rfl
 |2,_=>subst h;rfl
 |3,_=>subst h;rfl
theorem at3{t:List UInt8}(h: ∀j,j<4→names.getD j []≠t):nmI t= -1:=by
 unfold nmI;rw[if_neg (fun e=>h 0 cO e.symm),if_neg (fun e=>h 1 cO e.symm),if_neg (fun e=>h 2 cO e.symm),if_neg (fun e=>h 3 cO e.symm)]
def nmL(M:List (List UInt8))(j:Nat):List Int:=(M.take j).map eP
theorem aao(h:j<M.length):nmL M (j+1)=nmL M j++ [eP (M.getD j [])]:=by
 unfold nmL;rw[cD M j [] h,List.map_append];rfl
theorem aga(h:j≤M.length):(nmL M j).length=j:=by
 unfold nmL;rw[List.length_map,ct];omega
theorem Ug(h:j<M.length)(hp:gu (M.getD j [])=false):M.all gu=false:=by
 cases e:M.all gu with
 |false=>rfl
 |true=>
  have:=bE.1 e (M.getD j []) (by rw[aq,az h];exact kM h);rw[hp]at this;cases this
theorem aok(h:j<M.length)(ha:(M.take j).all gu=true)(hp:gu (M.getD j [])=true):(M.take (j+1)).all gu=true:=by
 rw[cD M j [] h,lI,ha,nM,hp];rfl
theorem agb(h:M.length≤j)(ha:(M.take j).all gu=true):M.all gu=true∧nmL M j=M.map eP:=by
 unfold nmL;rw[aD h]at*;exact⟨ha,rfl⟩
def nwL(x:dF)(M:List (List UInt8)):dF×Option ByteArray:=
 if M.all gu=true then nwO ((M.map eP).getD 0 0) ((M.map eP).getD 1 0) ((M.map eP).getD 2 0) ((M.map eP).getD 3 0)else(x,none)
end
section
variable{w s:List UInt8}{c:Int}{x:dF}{L:List (List UInt8)}
def aat:List UInt8:= [115,101,110,100]
def Ui:List UInt8:= [99,111,114,114,117,112,116]
def lNew:List UInt8:= [110,101,119]
theorem at6(h:L.length=1):iM x L=iC x (L.getD 0 []):=by
 match L,h with
 | [w],_=>rfl
theorem adm(x:dF)(a b c d:List UInt8):Ra x a b c d=nwL x [a,b,c,d]:=by
 unfold Ra nwL;simp only[nM,List.all_nil,Bool.and_true,Bool.and_assoc];rfl
theorem aiW(h:L.length=5)(h0:L.getD 0 []=lNew):iM x L=nwL x (L.drop 1):=by
 match L,h with
 | [w,a,b,c,d],_=>
   have hw:w= [110,101,119]:=h0;show(if w= [110,101,119]then Ra x a b c d else(x,none))=_
   rw[if_pos hw,adm];rfl
theorem xk(h:L.length=2∨L.length=3)(hp:gu (L.getD 1 [])=false):iM x L=(x,none):=by
 match L,h with
 | [w,a],_=>
   show(if gu a=true then _ else _)=_
   rw[if_neg (by rw[show gu a=false from hp];decide)]
 | [w,a,s],_=>
   show(if gu a=true then _ else _)=_
   rw[if_neg (by rw[show gu a=false from hp];decide)]
theorem age(h:L.length=2)(hp:gu (L.getD 1 [])=true):iM x L=mN x (L.getD 0 []) (eP (L.getD 1 [])):=by
 match L,h with
 | [w,a],_=>exact if_pos hp
theorem Fu(h:L.length=3)(hp:gu (L.getD 1 [])=true):iM x L=qJ x (L.getD 0 []) (eP (L.getD 1 [])) (L.getD 2 []):=by
 match L,h with
 | [w,a,s],_=>exact if_pos hp
theorem aor(h1: ¬L.length=1)(h2: ¬(L.length=2∨L.length=3))(h5: ¬(L.length=5∧L.getD 0 []=lNew)):iM x L=(x,none):=by
 match L with
 | []=>rfl
 | [w]=>exact absurd rfl h1
 | [w,a]=>exact absurd (bP rfl) h2
 | [w,a,b]=>exact absurd (bw rfl) h2
 | [w,a,b,c]=>rfl
 | [w,a,b,c,d]=>exact if_neg fun e=>h5 ⟨rfl,e⟩
 |w::a::b::c::d::e::r=>rfl
theorem aos(hw:w=aat)(hs:s≠ []):qJ x w c s=ovO x ⟨2,c,0,s⟩:=if_pos ⟨hw,hs⟩
theorem aot(hw:w=Ui)(hs:0≤nmI s):qJ x w c s=ovO x ⟨4,c,nmI s,[]⟩:=by
 unfold qJ;rw[if_neg (fun h=>by rw[hw]at h;exact absurd h.1 cO),if_neg (fun h=>by rw[hw]at h;exact absurd h.1 cO),if_pos ⟨hw,hs⟩]
theorem aau(hw:w=Ui)(hs: ¬0≤nmI s):qJ x w c s=(x,none):=by
 unfold qJ;rw[if_neg (fun h=>by rw[hw]at h;exact absurd h.1 cO),if_neg (fun h=>by rw[hw]at h;exact absurd h.1 cO),if_neg (fun h=>hs h.2)]
theorem adn(h1: ¬L.length=1)(h0:1≤L.length)(hs: ¬(L.getD 0 []=aat∧L.length=3∧L.getD 2 []≠ []))(hc: ¬(L.getD 0 []=Ui∧L.length=3))(hp:(L.drop 1).all gu=false):iM x L=(x,none):=by
 match L with
 | []=>exact absurd h0 cO
 | [w]=>exact absurd rfl h1
 | [w,a]=>
   refine xk (bP rfl) ?_;simpa using hp
 | [w,a,s]=>
   cases ha:gu a with
   |false=>exact xk (bw rfl) ha
   |true=>
    have hps:gu s=false:=by simpa[ha]using hp
    rw[Fu (L:= [w,a,s]) rfl ha];show qJ x w (eP a) s=_
    unfold qJ;rw[if_neg (fun h=>hs ⟨h.1,rfl,h.2⟩),if_neg (fun h=>by rw[hps]at h;exact absurd h.2 cO),if_neg (fun h=>hc ⟨h.1,rfl⟩)]
 | [w,a,b,c]=>rfl
 | [w,a,b,c,d]=>
   show(if w= [110,101,119]then Ra x a b c d else(x,none))=_
   split
   ·rw[adm];exact if_neg (by rw[show([a,b,c,d]:List (List UInt8)).all gu=false from hp];decide)
   ·rfl
 |w::a::b::c::d::e::r=>rfl
theorem aiX(h1: ¬L.length=1)(h0:1≤L.length)(hs: ¬(L.getD 0 []=aat∧L.length=3∧L.getD 2 []≠ []))(hc: ¬(L.getD 0 []=Ui∧L.length=3))(hp:(L.drop 1).all gu=true):iM x L=p9 x (L.getD 0 []) ((L.drop 1).map eP):=by
 match L with
 | []=>exact absurd h0 cO
 | [w]=>exact absurd rfl h1
 | [w,a]=>
   have ha:gu a=true:=by simpa using hp
   rw[age (L:= [w,a]) rfl ha];unfold p9;rw[if_neg (fun h=>absurd h.2 (by show¬1=4;decide)),if_neg (fun h=>absurd h.2 (by show¬1=2;decide)),if_pos (by rfl)];rfl
 | [w,a,s]=>
   have hp2:gu a=true∧gu s=true:=by simpa using hp
   rw[Fu (L:= [w,a,s]) rfl hp2.1];show qJ x w (eP a) s=p9 x w [eP a,eP s]
   have g0: ¬(w= [115,101,110,100]∧s≠ []):=fun h=>hs ⟨h.1,rfl,h.2⟩;have g1: ¬(w= [110,101,119]∧([eP a,eP s]:List Int).length=4):=fun h=>absurd h.2 (by show¬2=4;decide);by_cases hr:w= [114,101,97,100]
   ·have e1:qJ x w (eP a) s=(x,some (pdT x (eP a) (eP s))):=by unfold qJ;rw[if_neg g0,if_pos ⟨hr,hp2.2⟩]
    have e2:p9 x w [eP a,eP s]=(x,some (pdT x (eP a) (eP s))):=by unfold p9;rw[if_neg g1,if_pos ⟨hr,rfl⟩];rfl
    rw[e1,e2]
   ·have e1:qJ x w (eP a) s=(x,none):=by unfold qJ;rw[if_neg g0,if_neg (fun h=>hr h.1),if_neg (fun h=>hc ⟨h.1,rfl⟩)]
    have e2:p9 x w [eP a,eP s]=(x,none):=by unfold p9;rw[if_neg g1,if_neg (fun h=>hr h.1),if_neg (by show¬2=1;decide)]
    rw[e1,e2]
 | [w,a,b,c]=>
   show(x,none)=p9 x w [eP a,eP b,eP c]
   unfold p9;rw[if_neg (fun h=>absurd h.2 (by show¬3=4;decide)),if_neg (fun h=>absurd h.2 (by show¬3=2;decide)),if_neg (by show¬3=1;decide)]
 | [w,a,b,c,d]=>
   show(if w= [110,101,119]then Ra x a b c d else(x,none))=p9 x w [eP a,eP b,eP c,eP d]
   unfold p9;by_cases hw:w= [110,101,119]
   ·rw[if_pos hw,if_pos ⟨hw,rfl⟩,adm];exact if_pos hp
   ·rw[if_neg hw,if_neg (fun h=>hw h.1),if_neg (fun h=>absurd h.2 (by show¬4=2;decide)),if_neg (by show¬4=1;decide)]
 |w::a::b::c::d::e::r=>
  show(x,none)=p9 x w (((a::b::c::d::e::r)).map eP)
  unfold p9;rw[if_neg (fun h=>absurd h.2 fI),if_neg (fun h=>absurd h.2 fI),if_neg fI]
theorem aav{o:dF×Option ByteArray}(h:o.2.isSome=false):lnT o=⟨#[63]⟩:=by
 obtain⟨x,o⟩:=o;cases o with
 |none=>rfl
 |some b=>cases h
theorem aaw{o:dF×Option ByteArray}(h:o.2.isSome=true):o.2.getD ⟨#[]⟩=lnT o:=by
 obtain⟨x,o⟩:=o;cases o with
 |none=>cases h
 |some b=>rfl
theorem at7{l:List (List UInt8)}{y:List UInt8}(h:y∈l):y.length+1≤gb aN l:=by
 induction l with
 |nil=>cases h
 |cons z r ih=>
  unfold gb at ih ⊢;simp only[bp,List.map_cons,List.sum_cons];rcases bh.1 h with rfl|h
  ·omega
  ·have:=ih h;omega
theorem WJ(h:(dA 10 s).getD ((dA 10 s).length-1) []= []):eI s=(dA 10 s).take ((dA 10 s).length-1):=if_pos h
theorem aou(h:(dA 10 s).getD ((dA 10 s).length-1) []≠ []):eI s=dA 10 s:=if_neg h
theorem aua{y:List UInt8}(h:y∈eI s):y∈dA 10 s:=by
 unfold eI at h;split at h
 ·exact List.mem_of_mem_take h
 ·exact h
theorem agf(s:List UInt8):(eI s).length≤s.length+1:=by
 have h1:=Ew (dA 10 s);have h2:=tj 10 s;unfold eI;split
 ·rw[ct];omega
 ·omega
theorem WK{k:Nat}(hk:k<(eI s).length):((eI s).getD k []).length≤s.length:=by
 have hm:(eI s).getD k []∈eI s:=by rw[aq,az hk];exact kM hk
 have h1:=at7 (aua hm);have h2:=tj 10 s;omega
theorem WL(h:4000<s.length∨80<(eI s).length):runM s=aEF:=by
 unfold runM aod;rw[if_pos];rcases h with h|h
 ·rw[decide_eq_true h];rfl
 ·rw[decide_eq_true h,Bool.or_true]
theorem EJ(h: ¬(4000<s.length∨80<(eI s).length)):runM s=(nO (eI s) (eI s).length).2:=by
 unfold runM aod;rw[if_neg];rw[decide_eq_false (fun e=>h (bP e)),decide_eq_false (fun e=>h (bw e))];decide
end
def zC(L:List (List UInt8)):List UInt8:=L.flatMap fun l=>l++ [10]
def Fv(l:List UInt8):Prop:= ∀b,b∈l→b≠10
theorem Un(s:List UInt8): ∀l:List UInt8,Fv l→dA 10 (l++10::s)=l::dA 10 s
 | [],_=>by rw[List.nil_append,dA,if_pos rfl]
 |b::l,h=>by
  have ih:=Un s l fun c hc=>h c (aE _ hc);rw[List.cons_append,dA,if_neg (h b (bA ..)),ih]
theorem agI: ∀L:List (List UInt8),(∀l,l∈L→Fv l)→dA 10 (zC L)=L++ [[]]
 | [],_=>rfl
 |l::L,h=>by
  have e:zC (l::L)=l++10::zC L:=by
   unfold zC;rw[fP,bU];rfl
  rw[e,Un _ l (h l (bA ..)),agI L fun m hm=>h m (aE _ hm)];rfl
theorem adF{L:List (List UInt8)}(h: ∀l,l∈L→Fv l):eI (zC L)=L:=by
 have e:=agI L h;have hl:(L++ [([]:List UInt8)]).length-1=L.length:=by simp
 rw[WJ (by rw[e,hl,aq,List.getElem?_append_right (aS _),vi];rfl),e,hl,List.take_left' rfl]
theorem WY(A B:List (List UInt8)):zC (A++B)=zC A++zC B:=List.flatMap_append ..
theorem agJ(A B:List (List UInt8)): ∀k,k≤A.length→nO (A++B) k=nO A k
 |0,_=>rfl
 |k+1,hk=>by
  have ih:=agJ A B k aJ;have e:(A++B).getD k []=A.getD k []:=by
   rw[aq,aq,List.getElem?_append_left aJ]
  by_cases h:A.getD k []= []
  ·rw[qK h,qK (by rw[e];exact h),ih]
  ·rw[pH h,pH (by rw[e];exact h),ih,e]
theorem aaS(L:List (List UInt8))(k:Nat): ∀j, ∃t:ByteArray,(nO L (k+j)).2=(nO L k).2++t
 |0=>⟨⟨#[]⟩,by rw[Nat.add_zero];apply IB;simp⟩
 |j+1=>by
  obtain⟨t,ht⟩:=aaS L k j;by_cases h:L.getD (k+j) []= []
  ·exact⟨t,by rw[←gC,qK h,ht]⟩
  ·exact⟨t++(lnT (iM (nO L (k+j)).1 (dA 32 (L.getD (k+j) [])))++⟨#[10]⟩),by rw[←gC,pH h];show(nO L (k+j)).2++_=_;rw[ht,tR]⟩
theorem apj{A B:List (List UInt8)}(hA: ∀l,l∈A++B→Fv l)(h1:(zC (A++B)).length≤4000)(h2:(A++B).length≤80): ∃t:ByteArray,runM (zC A++zC B)=runM (zC A)++t:=by
 have hl:(zC A).length≤4000:=by rw[WY,aQ]at h1;omega
 have hm:A.length≤80:=by rw[aQ]at h2;omega
 have eA:=adF (L:=A) fun l hm=>hA l (List.mem_append_left _ hm);have eB:=adF hA;rw[←WY,EJ (by rw[eB];omega),EJ (by rw[eA];omega),eA,eB];obtain⟨t,ht⟩:=aaS (A++B) A.length B.length;refine⟨t,?_⟩;rw[aQ,ht,agJ A B A.length (aS _)]
def c10(l:List UInt8):Nat:=(l.filter fun b=>b==10).length
theorem agK(a b:List UInt8):c10 (a++b)=c10 a+c10 b:=by unfold c10;rw[s8,aQ]
theorem aAb{l:List UInt8}(h:Fv l):c10 l=0:=by
 unfold c10;rw[List.filter_eq_nil_iff.2 fun b hb=>by rw[beq_iff_eq];exact h b hb];rfl
def t10(b:ByteArray):Nat:=c10 b.data.toList
theorem agL(a b:ByteArray):t10 (a++b)=t10 a+t10 b:=by
 unfold t10;rw[show(a++b).data.toList=a.data.toList++b.data.toList by simp,agK]
def neL(l:List UInt8):Bool:= !(l== [])
def neN(L:List (List UInt8)):Nat:=(L.filter neL).length
theorem apk(L:List (List UInt8))(k:Nat)(h:k<L.length):neN (L.take (k+1))=neN (L.take k)+if neL (L.getD k [])=true then 1 else 0:=by
 unfold neN;rw[cD L k [] h,s8,aQ];congr 1;cases hb:neL (L.getD k [])with
 |true=>rw[dV hb];rfl
 |false=>rw[ez (by rw[hb];decide)];rfl
theorem agM{L:List (List UInt8)}(hL: ∀k,k<L.length→L.getD k []≠ []→t10 (lnT (iM (nO L k).1 (dA 32 (L.getD k []))))=0): ∀k,k≤L.length→t10 (nO L k).2=neN (L.take k)
 |0,_=>rfl
 |k+1,hk=>by
  have ih:=agM hL k aJ;rw[apk L k aJ];by_cases h:L.getD k []= []
  ·rw[qK h,ih,h];rfl
  ·rw[pH h,if_pos (by unfold neL;rw[bO,beq_eq_false_iff_ne];exact h)];show t10 (_++(_++_))=_
   rw[agL,agL,ih,hL k aJ h];rfl
def e10:UInt8→List UInt8→Nat
 |_,[]=>0
 |p,b::l=>(if b=10∧p≠10 then 1 else 0)+e10 b l
theorem aaT: ∀(l:List UInt8) (p:UInt8) (s:List UInt8),Fv l→e10 p (l++10::s)=(if l= []then(if p≠10 then 1 else 0)else 1)+e10 10 s
 | [],p,s,_=>by
   show(if(10:UInt8)=10∧p≠10 then 1 else 0)+_=_
   rw[if_pos rfl];by_cases h:p=10
   ·rw[if_neg (fun q=>q.2 h),if_neg (fun q=>q h)]
   ·rw[if_pos ⟨rfl,h⟩,if_pos h]
 |b::l,p,s,h=>by
  have hb:=h b (bA ..);have ih:=aaT l b s fun c hc=>h c (aE _ hc);show(if b=10∧p≠10 then 1 else 0)+e10 b (l++10::s)=_
  rw[if_neg (fun q=>hb q.1),ih,if_neg (by simp: ¬(b::l)= []),dB];by_cases e:l= []
  ·rw[if_pos e,if_pos hb]
  ·rw[if_neg e]
theorem apl: ∀L:List (List UInt8),(∀l,l∈L→Fv l)→e10 10 (zC L)=neN L
 | [],_=>rfl
 |l::L,h=>by
  have e:zC (l::L)=l++10::zC L:=by
   unfold zC;rw[fP,bU];rfl
  rw[e,aaT l 10 _ (h l (bA ..)),apl L fun m hm=>h m (aE _ hm)];unfold neN;by_cases q:l= []
  ·rw[if_pos q,if_neg (fun r=>r rfl),ez (by rw[q];decide),dB]
  ·rw[if_neg q,dV (by unfold neL;rw[bO,beq_eq_false_iff_ne];exact q),bp,Nat.add_comm]
variable{c:UInt8}(x:dF)
theorem OC{a b:List UInt8}(ha:Fv a)(hb:Fv b):Fv (a++b):=fun x hx=>(List.mem_append.1 hx).elim (ha x) (hb x)
theorem WZ:Fv []:=fun x hx=>nomatch hx
theorem BP(h:c≠10):Fv [c]:=fun x hx=>by rw[List.mem_singleton.1 hx];exact h
theorem agN: ∀u,Fv (gH u):=by
 intro u;induction u using Nat.strongRecOn with
 |_ u ih=>
  rw[gH];have hd: ∀k,k<10→UInt8.ofNat (48+k)≠10:=by decide
  split
  ·rename_i h;exact BP (hd u h)
  ·rename_i h;exact OC (ih (u/10) aJ) (BP (hd (u % 10) (iN _ cO)))
theorem aaU(n:Int):Fv (bN n):=by
 unfold bN;split
 ·intro x hx;rcases bh.1 hx with rfl|hx
  ·decide
  ·exact agN _ x hx
 ·exact agN _
theorem aaV(hc:c≠10): ∀{l:List (List UInt8)},(∀y,y∈l→Fv y)→Fv (Lib.join l [c])
 | [],_=>by rw[Lib.join_nil];exact WZ
 |x::r,h=>by
  rw[Lib.join_cons];refine OC (h x (bA ..)) fun b hb=> ?_;unfold Lib.joinTail at hb;obtain⟨y,hy,hb⟩:=List.mem_flatten.1 hb;obtain⟨z,hz,rfl⟩:=bQ.1 hy;exact OC (BP hc) (h z (aE _ hz)) b hb
def nT(b:ByteArray):Prop:=Fv b.data.toList
theorem k8{a b:ByteArray}(ha:nT a)(hb:nT b):nT (a++b):=by
 unfold nT;rw[show(a++b).data.toList=a.data.toList++b.data.toList by simp];exact OC ha hb
theorem auL{l:List UInt8}(h:Fv l):nT (bG l):=h
theorem HM(n:Int):nT (bG (bN n)):=aaU n
theorem Kg(h:c≠10):nT (bG [c]):=BP h
theorem aHF{b:ByteArray}(h:nT b):t10 b=0:=aAb h
theorem apm(hc:c≠10){l:List (List UInt8)}(h: ∀y,y∈l→Fv y):nT (Xk l c):=by
 unfold Xk;split
 ·exact Kg cO
 ·exact auL (aaV hc h)
theorem agO:nT (yz x):=by
 unfold yz;have hi: ∀y,y∈x.replaced.map mJ→Fv y:=fun y hy=>by obtain⟨n,_,rfl⟩:=bQ.1 hy;exact aaU n
 exact k8 (k8 (k8 (k8 (k8 (k8 (k8 (k8 (HM _) (Kg cO)) (HM _)) (Kg cO)) (apm cO hi)) (Kg cO)) (HM _)) (Kg cO)) (HM _)
theorem auM(a:tE):nT (LY a):=by
 unfold LY;refine apm cO fun y hy=> ?_;obtain⟨r,_,rfl⟩:=bQ.1 hy;exact k8 (k8 (HM _) (Kg cO)) (HM _)
theorem auN(x:kf):nT (Q4 x):=by
 unfold Q4;exact k8 (k8 (k8 (k8 (k8 (k8 (k8 (k8 (k8 (k8 (HM _) (Kg cO)) (HM _)) (Kg cO)) (HM _)) (Kg cO)) (HM _)) (Kg cO)) (HM _)) (Kg cO)) (HM _)
theorem auO(b:Int):nT (LX b):=by
 unfold LX;split
 ·refine auL ?_;have key: ∀l,l∈names→Fv l:=by unfold names Fv;decide
  by_cases h:b.toNat<names.length
  ·exact key _ (getD_in _ h)
  ·rw[aq,jh aJ];exact WZ
 ·exact Kg cO
theorem auQ(x:cH):nT (Hy x):=by
 unfold Hy;exact k8 (k8 (k8 (k8 (HM _) (Kg cO)) (HM _)) (Kg cO)) (auO _)
theorem agP: ∀l:List UInt8,Fv (Lib.Hx.encode l)
 | []=>WZ
 |a::t=>by
  have hd: ∀k,k<16→Lib.Hx.digit k≠10:=by decide
  have ha:=a.toNat_lt;rw[Lib.Hx.encode_cons];intro b hb;rcases bh.1 hb with rfl|hb
  ·exact hd _ aJ
  rcases bh.1 hb with rfl|hb
  ·exact hd _ (iN _ cO)
  ·exact agP t b hb
theorem apn(l:List UInt8):nT (Ue l):=by
 unfold Ue;split
 ·exact BP cO
 ·exact auL (agP l)
theorem Kh(b:Bool):nT (F1 b):=by unfold F1 nT Fv;cases b<;>decide
theorem auR(b:Bool):nT (Ax b):=by unfold Ax nT Fv;cases b<;>decide
theorem OD:nT JS:=by unfold JS nT Fv;decide
theorem aAc(r row:Int):nT (pdT x r row):=by
 unfold pdT;split
 ·exact apn _
 ·exact OD
def ajh:Prop:= ∀c:Int, ∀l,l∈Gy x c→Fv l
theorem auS{x:dF}(h:ajh x)(c:Int):nT (Hw x c):=by
 unfold Hw;split
 ·exact auL (aaV cO (h c))
 ·exact BP cO
theorem apo{x:dF}(h:ajh x)(w:List (List UInt8)):nT (lnT (iM x w)):=by
 have hq:nT (⟨#[63]⟩:ByteArray):=BP cO;have hb: ∀v:List UInt8,nT (lnT (iC x v)):=by
  intro v;unfold iC
  repeat' split
  all_goals first
   |exact agO _
   |exact auM _
   |exact HM _
   |exact auR _
   |exact hq
 have h1: ∀(v:List UInt8) (n:Int),nT (lnT (mN x v n)):=by
  intro v n;unfold mN
  repeat' split
  ·exact Kh _
  ·exact Kh _
  ·exact agO _
  ·show nT (aaj x n);unfold aaj;split
   ·exact OD
   ·exact auN _
  ·show nT (aak x n);unfold aak;split
   ·exact OD
   ·exact auS h _
  ·show nT (aal x n);unfold aal;split
   ·exact OD
   ·exact auQ _
  ·exact hq
 have h2: ∀(v:List UInt8) (n:Int) (s:List UInt8),nT (lnT (qJ x v n s)):=by
  intro v n s;unfold qJ
  repeat' split
  ·exact Kh _
  ·exact aAc x n (eP s)
  ·exact Kh _
  ·exact hq
 unfold iM;split
 ·exact hb _
 ·split
  ·exact h1 _ _
  ·exact hq
 ·split
  ·exact h2 _ _ _
  ·exact hq
 ·split
  ·unfold Ra;split
   ·exact Kh _
   ·exact hq
  ·exact hq
 ·exact hq
end Go.Proofs.YtaalpcnbbldlaaaGreatDoor.G
