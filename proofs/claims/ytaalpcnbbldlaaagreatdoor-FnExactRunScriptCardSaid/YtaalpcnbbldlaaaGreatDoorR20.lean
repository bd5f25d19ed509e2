/-
  What a line does, by the ways that the two sides take.
-/
import Derived.Test.YtaalpcnbbldlaaaGreatDoorR18
import Derived.Test.YtaalpcnbbldlaaaGreatDoorR19
namespace Go.Proofs.YtaalpcnbbldlaaaGreatDoor.G
set_option linter.all false
open Go.RowKit L D
section
def zW:aW:=⟨0,[],[],⟨0,[]⟩,0,0,0,[],0⟩
theorem uN:okW zW=false:=by decide
theorem acZ(e:Ev):yd zW e=zW:=by
 have h1:dn zW=zW:=by unfold dn;rw[if_neg];unfold gX;rw[uN];decide
 have h2: ∀c b,Jg zW c b=zW:=fun c b=>by unfold Jg;rw[if_neg];unfold cQ;rw[uN];simp
 have h3: ∀c,ID zW c=zW:=fun c=>by unfold ID;rw[if_neg];unfold cQ;rw[uN];simp
 have h4: ∀i b,K2 zW i b=zW:=fun i b=>by unfold K2;rw[if_neg];unfold oP;rw[uN];simp
 have h5: ∀c,xK zW c=zW:=fun c=>by unfold xK;rw[if_neg];unfold cQ;rw[uN];simp
 unfold yd;rw[h1,h2,h3,h4,h5];simp
def JW(x:aW)(n:Nat):Prop:=x=zW∨(Fh x n∧Fp x.replaced)
theorem JW.mono{x:aW}{n m:Nat}(h:JW x n)(hn:n≤m):JW x m:=h.imp id fun h=>⟨h.1.mono hn,h.2⟩
theorem JW.z(n:Nat):JW zW n:=Or.inl rfl
theorem ac0(x:aW)(c:Int):(xK x c).replaced=x.replaced:=by unfold xK;split<;>rfl
theorem JW.ev{x:aW}{n:Nat}{e:Ev}(h:JW x n)(hn:n≤99998):JW (yd x e) (n+1):=by
 rcases h with rfl| ⟨h,hr⟩
 ·rw[acZ];exact JW.z _
 ·refine Or.inr ?_;unfold yd
  repeat' split
  ·exact⟨h.rd hn,UU hr⟩
  ·exact⟨h.sm.mono (Nat.le_succ _),by rw[acW];exact hr⟩
  ·exact⟨h.cc.mono (Nat.le_succ _),by rw[acX];exact hr⟩
  ·exact⟨h.co.mono (Nat.le_succ _),by rw[acY];exact hr⟩
  ·exact⟨h.sv.mono (Nat.le_succ _),by rw[ac0];exact hr⟩
  ·exact⟨h.mono (Nat.le_succ _),hr⟩
theorem JW.run{x:aW}{n:Nat}(h:JW x n): ∀k,n+k≤99998→JW (eo x k) (n+k)
 |0,_=>h
 |k+1,hk=>by
  have h1:=JW.run h k (by omega);have:=JW.ev (e:=⟨1,0,0,[]⟩) h1 (by omega);unfold yd at this;show JW (dn (eo x k)) (n+k+1)
  simpa using this
def Nq(a b c d:Int):aW:=if(inr a 1 64&&bT b)&&inr c 1 4 then UB a b.toNat c.toNat d else zW
theorem Nr{a b c d:Int}(h:((inr a 1 64&&bT b)&&inr c 1 4)=false):Nq a b c d=zW:=by unfold Nq;rw[h];rfl
theorem IZ{a b c d:Int}(h:((inr a 1 64&&bT b)&&inr c 1 4)=true):Nq a b c d=UB a b.toNat c.toNat d∧(1≤a∧a≤64)∧(2≤b∧b≤4)∧1≤c∧c≤4:=by
 refine⟨by unfold Nq;rw[h];rfl,?_⟩;simp only[bT,Bool.and_eq_true,b7]at h;omega
theorem JW.nw(a b c d:Int):JW (Nq a b c d) 0:=by
 cases h:((inr a 1 64&&bT b)&&inr c 1 4)with
 |false=>rw[Nr h];exact JW.z _
 |true=>
  obtain⟨h1,h2,h3,h4⟩:=IZ h;rw[h1];exact Or.inr ⟨⟨Xg h2 (by omega) (by omega),Int.le_refl 0,Int.le_refl 0,Nat.le_refl 0⟩,fun y hy=>by cases hy⟩
theorem JW.C{x:aW}{n:Nat}(h:JW x n):wC x (8*n):=by
 rcases h with rfl| ⟨h,_⟩
 ·exact⟨by decide,by decide,by decide,Nat.zero_le _⟩
 ·exact h.C
theorem JW.R{x:aW}{n:Nat}(h:JW x n)(hn:n≤100000):wR x:=T8 h.C (by omega)
structure JF(x:aW):Prop where
 rd:lV x.round
 ca:lV x.cancelled
 re: ∀y,y∈x.replaced→lV y
 dv:x.af.length≤8
 sv:x.az.length≤4
 rl:x.replaced.length≤1048576
 sz:dP x≤1048576
 ar:LX x.aB
 ay: ∀y,y∈x.aB.rounds→y.db.rows.length≤1048576
 al:x.aB.rounds.length≤1048576
 cl: ∀i,i<x.af.length→lV (x.af.getD i (aG .aZ)).live.id∧lV (x.af.getD i (aG .aZ)).live.cU∧lV (x.af.getD i (aG .aZ)).live.sent∧lV (x.af.getD i (aG .aZ)).live.next
 se: ∀i,i<x.az.length→lV (x.az.getD i (aG .bp)).id∧lV (x.az.getD i (aG .bp)).round∧lV (x.az.getD i (aG .bp)).behavior
theorem JW.F{x:aW}{n:Nat}(h:JW x n)(hn:n≤20000):JF x:=by
 rcases h with rfl| ⟨h,hr⟩
 ·exact{rd:=(show Lv 0 by unfold Lv;decide).I,ca:=(show Lv 0 by unfold Lv;decide).I,re:=fun y hy=>(nomatch hy),dv:=by decide,sv:=by decide,rl:=by decide,sz:=by decide,ar:=⟨(show Lv 0 by unfold Lv;decide).I,fun y hy=>(nomatch hy)⟩,ay:=fun y hy=>(nomatch hy),al:=by decide,cl:=fun i hi=>absurd hi (Nat.not_lt_zero _),se:=fun i hi=>absurd hi (Nat.not_lt_zero _)}
 ·have w:=GZ.of h.ok;have w1:=w.round;have w2:=w.xW;have w3:=h.xW;have w4:=h.M9;have ha:=jM.1 w.Up;have hy: ∀y,y∈x.aB.rounds→(0≤y.round∧y.round≤100000)∧cL y.db=true:=by
   intro y hy;obtain⟨i,hi,rfl⟩:=List.mem_iff_getElem.1 hy;have h2:=ha.2 i hi;have h3:=iU.1 h2;have e:x.aB.rounds.getD i (aG .aJ)=x.aB.rounds[i]:=by rw[List.getD_eq_getElem?_getD,List.getElem?_eq_getElem hi];rfl
   rw[e]at h3;refine⟨?_,h3.2.2.1⟩;have h4:oM x.aB.rows x.aB.rounds i=true:=h2;simp only[oM,Bool.and_eq_true,b7,e]at h4;exact h4.1.1.1
  have hs:=xH dL 15000 4 x.az (O9 h.ok) w.Vr.2;have hB:=xH bt 960 8 x.af (fun d hd=>k8 (GU h.ok d hd)) w.W9.2;have hA:dA x.aB≤1601*8:=xH dM 1600 8 _ (fun y h2=>E4 (hy y h2).2) ha.1.2;refine⟨(show Lv x.round by unfold Lv;omega).I,(show Lv x.cancelled by unfold Lv;omega).I,hr,w.W9.2,w.Vr.2,by omega,?_,⟨?_,fun y h2=>⟨(show Lv y.round by have:=(hy y h2).1;unfold Lv;omega).I,fun _ _ _ _=>trivial⟩⟩,fun y h2=>Nat.le_trans (iS.1 (hy y h2).2).1 (by decide),by have:=ha.1.2;omega,fun i hi=> ?_,fun i hi=> ?_⟩
  ·unfold dP;omega
  ·have:=w.rows;rw[w.Ck];exact(show Lv x.rows by unfold Lv;omega).I
  ·have hd:=w.dv i hi;simp only[okD,cP,c8,Bool.and_eq_true,b7,decide_eq_true_eq]at hd;generalize x.af.getD i (aG .aZ)=d at hd ⊢;have k1:(0≤d.live.id∧d.live.id≤7)∧(0≤d.live.cU∧d.live.cU≤7)∧((d.live.aM.length:Int)≤16)∧(0≤d.live.sent∧d.live.sent≤(d.live.aM.length:Int))∧(0≤d.live.next∧d.live.next≤100001):=by
    omega
   refine⟨?_,?_,?_,?_⟩<;>(unfold lV;omega)
  ·have hd:=(EC h.ok hi);simp only[FG,cj,tL,Bool.and_eq_true,b7,decide_eq_true_eq]at hd;generalize x.az.getD i (aG .bp)=s at hd ⊢;refine⟨?_,?_,?_⟩<;>(unfold lV;omega)
def Pj(l:List UInt8):ByteArray:=if((l.length:Int)==0)=true then⟨#[45]⟩else aX (Lib.Hx.encode l)
def Ag(b:Bool):ByteArray:=if b=true then⟨#[111,107]⟩else⟨#[110,111]⟩
def sK(b:Bool):ByteArray:=if b=true then⟨#[121,101,115]⟩else⟨#[110,111]⟩
def CT:ByteArray:=⟨#[110,111,110,101]⟩
def Ns(x:aW)(e:Ev):aW×Option ByteArray:=(yd x e,some (Ag (lP x e)))
def rnO(x:aW)(n:Int):aW×Option ByteArray:=(eo x (qW (fP n 60)),some (p7 (eo x (qW (fP n 60)))))
def wD(l:List eZ):Nat→Int
 |0=>0
 |k+1=>IntKind.i64.wrap (wD l k+(l.getD k (aG .eZ)).bytes)
def ya(x:aW)(r row:Int):Bool:=okW x&&uj x r row 1
def Vu(x:aW)(r row:Int):ByteArray:=if ya x r row=true then Pj (zo x r row 1)else CT
def dB(x:aW)(w:List UInt8):aW×Option ByteArray:=
 if w= [114,111,117,110,100]then(dn x,some (p7 (dn x)))
 else if w= [115,101,116,116,108,101]then rnO x (sE x)
 else if w= [97,114,99,104,105,118,101]then(x,some (Fo x.aB))
 else if w= [119,111,114,108,100]then(x,some (p7 x))
 else if w= [116,114,97,102,102,105,99]then(x,some (aX (Lib.itoa (wD (BJ x) (BJ x).length))))
 else if w= [97,117,100,105,116]then(x,some (sK (mj x)))
 else if w= [113,117,105,101,116]then(x,some (sK (lf x)))
 else(x,none)
def QK(x:aW)(n:Int):ByteArray:=if(x.af.length:Int)≤n then CT else IV (x.af.getD n.toNat (aG .aZ)).live
def QL(x:aW)(n:Int):ByteArray:=if(x.af.length:Int)≤n then CT else BG x n
def QM(x:aW)(n:Int):ByteArray:=if(x.az.length:Int)≤n then CT else BI (x.az.getD n.toNat (aG .bp))
def gq(x:aW)(w:List UInt8)(n:Int):aW×Option ByteArray:=
 if w= [99,114,97,115,104]then Ns x ⟨3,n,0,[]⟩
 else if w= [115,97,118,101]then Ns x ⟨5,n,0,[]⟩
 else if w= [114,111,117,110,100,115]then rnO x n
 else if w= [99,108,105,101,110,116]then(x,some (QK x n))
 else if w= [105,110,98,111,120]then(x,some (QL x n))
 else if w= [115,101,114,118,101,114]then(x,some (QM x n))
 else(x,none)
def LV(s:List UInt8):Int:=if s= [104,111,110,101,115,116]then 0 else if s= [100,114,111,112,115]then 1 else if s= [97,108,116,101,114,115]then 2 else if s= [108,105,101,115]then 3 else-1
def ku(x:aW)(w:List UInt8)(n:Int)(s:List UInt8):aW×Option ByteArray:=
 if w= [115,101,110,100]∧s≠ []then Ns x ⟨2,n,0,s⟩
 else if w= [114,101,97,100]∧cS s=true then(x,some (Vu x n (cu s)))
 else if w= [99,111,114,114,117,112,116]∧0≤LV s then Ns x ⟨4,n,LV s,[]⟩
 else(x,none)
def nwO(a b c d:Int):aW×Option ByteArray:=(Nq a b c d,some (Ag (okW (Nq a b c d))))
def Nt(x:aW)(a b c d:List UInt8):aW×Option ByteArray:=
 if(cS a&&cS b)&&(cS c&&cS d)then nwO (cu a) (cu b) (cu c) (cu d)else(x,none)
def dZ(x:aW):List (List UInt8)→aW×Option ByteArray
 | [w]=>dB x w
 | [w,a]=>if cS a then gq x w (cu a)else(x,none)
 | [w,a,s]=>if cS a then ku x w (cu a) s else(x,none)
 | [w,a,b,c,d]=>if w= [110,101,119]then Nt x a b c d else(x,none)
 |_=>(x,none)
def iD(x:aW)(w:List UInt8)(n:List Int):aW×Option ByteArray:=
 if w= [110,101,119]∧n.length=4 then nwO (n.getD 0 0) (n.getD 1 0) (n.getD 2 0) (n.getD 3 0)
 else if w= [114,101,97,100]∧n.length=2 then(x,some (Vu x (n.getD 0 0) (n.getD 1 0)))
 else if n.length=1 then gq x w (n.getD 0 0)
 else(x,none)
def vO:Nat:=100000000
def LO(n:Nat)(o:aW×Option ByteArray):Prop:=JW o.1 (n+60)∧ ∀b,o.2=some b→b.size≤vO
theorem Pk(b:Bool):(Ag b).size≤vO:=by unfold Ag vO;split<;>decide
theorem Pm(b:Bool):(sK b).size≤vO:=by unfold sK vO;split<;>decide
theorem Dk:CT.size≤vO:=by decide
theorem I0{x:aW}(h:JF x):(p7 x).size≤vO:=by
 have z1:=bW h.rd;have z2:=bW h.ca;have z3:=bW (IG x.af x.af.length);have z4:=bW (M3 x.af x.af.length);have hlz:=rj fF 21 x.replaced (IX h.re);have hos:=IY (x.replaced.map fF) 44;have hl:=h.rl;unfold p7 vO;simp only[ByteArray.size_append,bZ,List.length_cons,List.length_nil]at*;omega
theorem Xu{x:aW}(h:JF x):(Fo x.aB).size≤vO:=by
 have hos:=IY (x.aB.rounds.map At) 32;have hlz:=rj At 43 x.aB.rounds (Nd h.ar.2 h.ay);have hl:=h.al;unfold Fo vO;omega
theorem Xv{x:dF}(h1:lV x.id)(h2:lV x.cU)(h3:lV x.sent)(h4:lV x.next)(h5:x.aM.length≤1048576)(h6:x.inbox.length≤1048576):(IV x).size≤vO:=by
 have z1:=bW h1;have z2:=bW h2;have z3:=bW h3;have z4:=bW (n:=(x.aM.length:Int)) (by omega);have z5:=bW (n:=(x.inbox.length:Int)) (by omega);have z6:=bW h4;unfold IV vO;simp only[ByteArray.size_append,bZ,List.length_cons,List.length_nil]at*;omega
theorem Xw{x:bp}(h1:lV x.id)(h2:lV x.round):(BI x).size≤vO:=by
 have z1:=bW h1;have z2:=bW h2;have z3:(Fl x.behavior).size≤6:=by
  unfold Fl;split
  ·exact IW _
  ·decide
 unfold BI vO;simp only[ByteArray.size_append,bZ,List.length_cons,List.length_nil]at*;omega
theorem JF.inb{x:aW}(h:JF x)(c:Int):cE List.length (wq x c)≤1048576:=by
 unfold wq;have hz:=h.sz;by_cases hc:c.toNat<x.af.length
 ·exact(zj (zi hz hc)).2.1
 ·rw[List.getD_eq_getElem?_getD,List.getElem?_eq_none (by omega)];decide
theorem Xx{x:aW}(h:JF x)(c:Int):(BG x c).size≤vO:=by
 have h1:=h.inb c;have h2:=join_le (wq x c) 124;unfold BG vO;split
 ·rw[bZ];omega
 ·decide
theorem I1(x:aW)(r row s:Int):(zo x r row s).length≤1048576:=by
 cases h:jJ x.aB.rounds r with
 |false=>rw[(EV h).1];decide
 |true=>
  rw[(Iu h).1];cases h2:gL (wQ x r row s)with
  |false=>rw[zu h2];decide
  |true=>
   rw[It h2];have:=EN (EU h2) (wQ x r row s).length
   rwa [List.take_length]at this
theorem UW{l:List UInt8}(h:l.length≤1048576):(Pj l).size≤vO:=by
 unfold Pj vO;split
 ·decide
 ·rw[bZ,Lib.Hx.encode_length];omega
theorem aan(x:aW)(r row:Int):(Vu x r row).size≤vO:=by
 unfold Vu;split
 ·exact UW (I1 ..)
 ·exact Dk
theorem I2(l:List eZ)(k:Nat): -9223372036854775808≤wD l k∧wD l k≤9223372036854775807:=by
 cases k with
 |zero=>exact⟨show(-9223372036854775808:Int)≤0 by decide,show(0:Int)≤9223372036854775807 by decide⟩
 |succ k=>exact IF _
theorem LO.same{x:aW}{n:Nat}(h:JW x n){b:ByteArray}(hb:b.size≤vO):LO n (x,some b):=⟨h.mono (by omega),fun b' e=>by cases e;exact hb⟩
theorem LO.none{x:aW}{n:Nat}(h:JW x n):LO n (x,none):=⟨h.mono (by omega),fun b' e=>by cases e⟩
theorem LO.ov{x:aW}{n:Nat}(h:JW x n)(hn:n≤10000)(e:Ev):LO n (Ns x e):=⟨(h.ev (e:=e) (by omega)).mono (by omega),fun b' e=>by cases e;exact Pk _⟩
theorem ac1(c:Int):qW (fP c 60)≤60:=by
 unfold qW fP;split<;>split<;>omega
theorem JW.rn{x:aW}{n:Nat}(h:JW x n)(hn:n≤10000)(c:Int):JW (eo x (qW (fP c 60))) (n+60):=(h.run _ (by have:=ac1 c;omega)).mono (by have:=ac1 c;omega)
theorem LO.rn{x:aW}{n:Nat}(h:JW x n)(hn:n≤10000)(c:Int):LO n (rnO x c):=⟨h.rn hn c,fun b' e=>by cases e;exact I0 ((h.rn hn c).F (by omega))⟩
theorem LO.nw(n:Nat)(a b c d:Int):LO n (nwO a b c d):=⟨(JW.nw a b c d).mono (by omega),fun b' e=>by cases e;exact Pk _⟩
theorem LO.bare{x:aW}{n:Nat}(h:JW x n)(hn:n≤10000)(w:List UInt8):LO n (dB x w):=by
 have hF:=h.F (n:=n) (by omega);have hr:JW (dn x) (n+1):=by
  have:=h.ev (e:=⟨1,0,0,[]⟩) (by omega);unfold yd at this;simpa using this
 unfold dB
 repeat' split
 ·exact⟨hr.mono (by omega),fun b e=>by cases e;exact I0 (hr.F (by omega))⟩
 ·exact LO.rn h hn _
 ·exact LO.same h (Xu hF)
 ·exact LO.same h (I0 hF)
 ·refine LO.same h ?_;have:=bW (I2 (BJ x) (BJ x).length);unfold vO;omega
 ·exact LO.same h (Pm _)
 ·exact LO.same h (Pm _)
 ·exact LO.none h
theorem JF.cli{x:aW}(h:JF x){n:Int}(hn: ¬(x.af.length:Int)≤n)(h0:0≤n):(IV (x.af.getD n.toNat (aG .aZ)).live).size≤vO:=by
 have hi:n.toNat<x.af.length:=by omega
 obtain⟨q1,q2,q3,q4⟩:=h.cl _ hi;have hl:=zj (zi h.sz hi);exact Xv q1 q2 q3 q4 (cA hl.1) (cA hl.2.1)
theorem JF.srv{x:aW}(h:JF x){n:Int}(hn: ¬(x.az.length:Int)≤n)(h0:0≤n):(BI (x.az.getD n.toNat (aG .bp))).size≤vO:=by
 have hi:n.toNat<x.az.length:=by omega
 obtain⟨q1,q2,q3⟩:=h.se _ hi;exact Xw q1 q2
theorem LO.one{x:aW}{n:Nat}(h:JW x n)(hn:n≤10000)(w:List UInt8){c:Int}(hc:0≤c):LO n (gq x w c):=by
 have hF:=h.F (n:=n) (by omega);unfold gq
 repeat' split
 ·exact LO.ov h hn _
 ·exact LO.ov h hn _
 ·exact LO.rn h hn _
 ·refine LO.same h ?_;unfold QK;split
  ·exact Dk
  ·exact hF.cli (by assumption) hc
 ·refine LO.same h ?_;unfold QL;split
  ·exact Dk
  ·exact Xx hF _
 ·refine LO.same h ?_;unfold QM;split
  ·exact Dk
  ·exact hF.srv (by assumption) hc
 ·exact LO.none h
theorem LO.two{x:aW}{n:Nat}(h:JW x n)(hn:n≤10000)(w:List UInt8)(c:Int)(s:List UInt8):LO n (ku x w c s):=by
 unfold ku
 repeat' split
 ·exact LO.ov h hn _
 ·exact LO.same h (aan ..)
 ·exact LO.ov h hn _
 ·exact LO.none h
theorem Ft(s:List UInt8):0≤cu s:=by unfold cu;split<;>omega
theorem LO.line{x:aW}{n:Nat}(h:JW x n)(hn:n≤10000)(w:List (List UInt8)):LO n (dZ x w):=by
 unfold dZ;split
 ·exact LO.bare h hn _
 ·split
  ·exact LO.one h hn _ (Ft _)
  ·exact LO.none h
 ·split
  ·exact LO.two h hn _ _ _
  ·exact LO.none h
 ·split
  ·unfold Nt;split
   ·exact LO.nw n _ _ _ _
   ·exact LO.none h
  ·exact LO.none h
 ·exact LO.none h
def Vv(o:aW×Option ByteArray):ByteArray:=o.2.getD ⟨#[63]⟩
theorem Fu{n:Nat}{o:aW×Option ByteArray}(h:LO n o):(Vv o).size≤vO:=by
 obtain⟨x,o⟩:=o;cases o with
 |none=>show(⟨#[63]⟩:ByteArray).size≤vO;decide
 |some b=>exact h.2 b rfl
def iO(L:List (List UInt8)):Nat→aW×ByteArray
 |0=>(zW,⟨#[]⟩)
 |k+1=>if L.getD k []= []then iO L k else((dZ (iO L k).1 (bR 32 (L.getD k []))).1,(iO L k).2++(Vv (dZ (iO L k).1 (bR 32 (L.getD k [])))++⟨#[10]⟩))
theorem uO{L:List (List UInt8)}{k:Nat}(h:L.getD k []= []):iO L (k+1)=iO L k:=if_pos h
theorem uP{L:List (List UInt8)}{k:Nat}(h:L.getD k []≠ []):iO L (k+1)=((dZ (iO L k).1 (bR 32 (L.getD k []))).1,(iO L k).2++(Vv (dZ (iO L k).1 (bR 32 (L.getD k [])))++⟨#[10]⟩)):=if_neg h
theorem Fv(L:List (List UInt8)): ∀k,k≤81→JW (iO L k).1 (60*k)∧(iO L k).2.size≤(vO+1)*k
 |0,_=>⟨JW.z _,Nat.zero_le _⟩
 |k+1,hk=>by
  obtain⟨h1,h2⟩:=Fv L k (by omega);by_cases h:L.getD k []= []
  ·rw[uO h];exact⟨h1.mono (by omega),by rw[Nat.mul_add];omega⟩
  ·rw[uP h];have hl:=LO.line h1 (by omega) (bR 32 (L.getD k []));refine⟨hl.1.mono (by omega),?_⟩;have:=Fu hl;rw[ByteArray.size_append,ByteArray.size_append,show(⟨#[10]⟩:ByteArray).size=1 from rfl];rw[Nat.mul_add];omega
def bU(s:List UInt8):List (List UInt8):=if(bR 10 s).getD ((bR 10 s).length-1) []= []then(bR 10 s).take ((bR 10 s).length-1)else bR 10 s
def UX(s:List UInt8):Bool:=decide (4000<s.length)||decide (80<(bU s).length)
def ac2:ByteArray:=⟨#[116,111,111,32,108,111,110,103,10]⟩
def runM(s:List UInt8):ByteArray:=if UX s=true then ac2 else(iO (bU s) (bU s).length).2
end
section
def wZ(c:UInt8)(s:List UInt8):Nat→List (List UInt8)×Nat
 |0=>([],0)
 |k+1=>if k=s.length∨s.getD k 0=c then((wZ c s k).1++ [(s.drop (wZ c s k).2).take (k-(wZ c s k).2)],k+1)else wZ c s k
theorem Dl{c:UInt8}{s:List UInt8}{k:Nat}(h:k=s.length∨s.getD k 0=c):wZ c s (k+1)=((wZ c s k).1++ [(s.drop (wZ c s k).2).take (k-(wZ c s k).2)],k+1):=if_pos h
theorem Nu{c:UInt8}{s:List UInt8}{k:Nat}(h: ¬(k=s.length∨s.getD k 0=c)):wZ c s (k+1)=wZ c s k:=if_neg h
theorem I3(c:UInt8)(s:List UInt8): ∀k,(wZ c s k).2≤k∧(wZ c s k).1.length≤k
 |0=>⟨Nat.le_refl 0,Nat.le_refl 0⟩
 |k+1=>by
  have h:=I3 c s k;by_cases hc:k=s.length∨s.getD k 0=c
  ·rw[Dl hc];exact⟨Nat.le_refl _,by rw[List.length_append];simp;omega⟩
  ·rw[Nu hc];omega
theorem aar{l:List UInt8}{j:Nat}{c:UInt8}(h:(l.take j).all (fun b=>b !=c)=true)(hj:l[j]? =some c):Lib.indexByte l c=j:=by
 induction l generalizing j with
 |nil=>simp at hj
 |cons b r ih=>
  cases j with
  |zero=>
   simp only[List.getElem?_cons_zero,oI]at hj;subst hj;simp[Lib.indexByte]
  |succ j=>
   simp only[List.take_succ_cons,List.all_cons,Bool.and_eq_true,bne_iff_ne,ne_eq]at h;have:=ih h.2 (by simpa using hj);unfold Lib.indexByte;rw[if_neg (by simpa using h.1),this,if_neg (by simp)];omega
theorem Xy{l:List UInt8}{c:UInt8}(h:l.all (fun b=>b !=c)=true):Lib.indexByte l c= -1:=by
 induction l with
 |nil=>rfl
 |cons b r ih=>
  simp only[List.all_cons,Bool.and_eq_true,bne_iff_ne,ne_eq]at h;unfold Lib.indexByte;rw[if_neg (by simpa using h.1),ih h.2];rfl
theorem Pp(c:UInt8)(s:List UInt8): ∀k,k≤s.length→(wZ c s k).1++bR c (s.drop (wZ c s k).2)=bR c s∧((s.drop (wZ c s k).2).take (k-(wZ c s k).2)).all (fun b=>b !=c)=true
 |0,_=>⟨rfl,rfl⟩
 |k+1,hk=>by
  obtain⟨h1,h2⟩:=Pp c s k (by omega);have hl:=I3 c s k;have aas:(s.drop (wZ c s k).2)[k-(wZ c s k).2]? =some (s.getD k 0):=by
   rw[List.getElem?_drop,show(wZ c s k).2+(k-(wZ c s k).2)=k by omega,List.getD_eq_getElem?_getD,List.getElem?_eq_getElem (by omega)];rfl
  by_cases hc:k=s.length∨s.getD k 0=c
  ·have hc2:s.getD k 0=c:=hc.resolve_left (by omega);rw[Dl hc];rw[hc2]at aas;have hw:=BL c _ _ (aar h2 aas);rw[List.drop_drop,show(wZ c s k).2+(k-(wZ c s k).2+1)=k+1 by omega]at hw;rw[hw]at h1;refine⟨by rw[List.append_assoc];exact h1,by rw[Nat.sub_self];rfl⟩
  ·rw[Nu hc];refine⟨h1,?_⟩;rw[show k+1-(wZ c s k).2=(k-(wZ c s k).2)+1 by omega,List.take_add_one,aas,List.all_append,h2];have:s.getD k 0≠c:=fun e=>hc (Or.inr e);simpa using this
theorem Xz(c:UInt8)(s:List UInt8):(wZ c s (s.length+1)).1=bR c s:=by
 obtain⟨h1,h2⟩:=Pp c s s.length (Nat.le_refl _);rw[Dl (Or.inl rfl)];have hl:=I3 c s s.length;have e:(s.drop (wZ c s s.length).2).take (s.length-(wZ c s s.length).2)=s.drop (wZ c s s.length).2:=List.take_of_length_le (by rw[List.length_drop];exact Nat.le_refl _);rw[e]at h2 ⊢;rw[←h1,BK c _ (Xy h2)]
theorem ac3{c:UInt8}{s:List UInt8}{k:Nat}(h:(k:Int)=((aX s).size:Int)∨(((aX s).data.toList.getD k 0).toNat:Int)=(c.toNat:Int)):k=s.length∨s.getD k 0=c:=by
 rcases h with h|h
 ·left;rw[bZ]at h;omega
 ·right;have h2:(s.getD k 0).toNat=c.toNat:=by rw[AQ]at h;omega
  exact UInt8.toNat_inj.1 h2
theorem ac4{c:UInt8}{s:List UInt8}{k:Nat}(h: ¬(k:Int)=((aX s).size:Int)∧ ¬(((aX s).data.toList.getD k 0).toNat:Int)=(c.toNat:Int)): ¬(k=s.length∨s.getD k 0=c):=by
 rintro(e|e)
 ·exact h.1 (by rw[bZ,e])
 ·exact h.2 (by rw[AQ,e])
theorem aat(s:List UInt8)(f k:Nat):((aX s).extract (f:Int).toNat (k:Int).toNat).data.toList=(s.drop f).take (k-f):=by
 rw[Int.toNat_natCast,Int.toNat_natCast,ByteArray.data_extract,Array.toList_extract];rfl
theorem aau(s:List UInt8)(f k:Nat):((aX s).extract f k).size≤s.length:=by
 rw[ByteArray.size_extract,bZ];omega
theorem sL{a b:Bool}(h:(if a=true then b else false)=true):a=true∧b=true:=by cases a<;>simp_all
theorem Nv{a b:Bool}(h:(if a=true then b else false)=false): ¬(a=true∧b=true):=by rintro⟨e,f⟩;rw[e,f]at h;cases h
theorem Nw{a:List UInt8}{b:ByteArray}:((aX a).toList==b.toList)=true↔a=b.data.toList:=⟨fj,fun e=>by rw[show aX a=b by rw[e];rfl,beq_self_eq_true]⟩
theorem uR{a b:Int}:(a==b)=true↔a=b:=beq_iff_eq
theorem I4{s:List UInt8}(h:cS s=false):cu s=0:=by unfold cu;rw[h];rfl
theorem XA{s:List UInt8}(h: ¬(1≤(s.length:Int)∧(s.length:Int)≤13)):cS s=false:=by
 cases hp:cS s with
 |false=>rfl
 |true=>
  simp only[cS,Bool.and_eq_true,decide_eq_true_eq]at hp;exact absurd ⟨by omega,by omega⟩ h
theorem I5(b:UInt8):G6 b=inr (b.toNat:Int) 48 57:=by
 apply Bool.eq_iff_iff.2;rw[b7];simp only[G6,Bool.and_eq_true,decide_eq_true_eq];omega
theorem XB{s:List UInt8}{k:Nat}(hk:k<s.length)(h:inr ((s.getD k 0).toNat:Int) 48 57=false):cS s=false:=by
 cases hp:cS s with
 |false=>rfl
 |true=>
  simp only[cS,Bool.and_eq_true,decide_eq_true_eq]at hp;have h1:=List.all_eq_true.1 hp.2.1 (s.getD k 0) (by rw[List.getD_eq_getElem?_getD,List.getElem?_eq_getElem hk];exact List.getElem_mem hk);rw[I5,h]at h1;cases h1
theorem G7{s:List UInt8}{k:Nat}(hk:k<s.length):iN (s.take (k+1))=10*iN (s.take k)+((s.getD k 0).toNat-48):=by
 rw[List.take_add_one,List.getElem?_eq_getElem hk,List.getD_eq_getElem?_getD,List.getElem?_eq_getElem hk];unfold iN;rw[Fq];rfl
theorem UZ{s:List UInt8}{k:Nat}(hk:k<s.length)(h:(s.take k).all G6=true)(hd:inr ((s.getD k 0).toNat:Int) 48 57=true):(s.take (k+1)).all G6=true:=by
 rw[List.take_add_one,List.getElem?_eq_getElem hk,List.all_append,h];rw[List.getD_eq_getElem?_getD,List.getElem?_eq_getElem hk]at hd;have:=I5 s[k];rw[show inr ((s[k]).toNat:Int) 48 57=true from hd]at this;simpa using this
theorem Pq(s:List UInt8): ∀k,k≤s.length→(s.take k).all G6=true→iN (s.take k)<10^k
 |0,_,_=>by show 0<1;decide
 |k+1,hk,h=>by
  have hk1:k<s.length:=by omega
  have h0:(s.take k).all G6=true:=by
   rw[List.take_add_one,List.all_append,Bool.and_eq_true]at h;exact h.1
  have ih:=Pq s k (by omega) h0;have hd:G6 (s.getD k 0)=true:=by
   rw[List.take_add_one,List.getElem?_eq_getElem hk1,List.all_append,Bool.and_eq_true]at h;rw[List.getD_eq_getElem?_getD,List.getElem?_eq_getElem hk1];simpa using h.2
  rw[I5,b7]at hd;rw[G7 hk1,Nat.pow_succ];omega
theorem XC{s:List UInt8}{k:Nat}(hk:k≤s.length)(h13:s.length≤13)(h:(s.take k).all G6=true):iN (s.take k)<10000000000000:=
 Nat.lt_of_lt_of_le (Pq s k hk h) (Nat.le_trans (Nat.pow_le_pow_right (by decide) (show k≤13 by omega)) (by decide))
theorem Pr{s:List UInt8}(h1:1≤s.length)(h2:s.length≤13)(hall:s.all G6=true):cS s=(decide (iN s≤1000000000000)&&(Lib.itoa (iN s:Int)==s)):=by
 unfold cS;rw[decide_eq_true h1,decide_eq_true h2,hall];have:Lib.itoa (iN s:Int)=Lib.decDigits (iN s):=by unfold Lib.itoa;rw[if_neg (by omega)];rfl
 rw[this];rfl
theorem XD{s:List UInt8}(h1:1≤s.length)(h2:s.length≤13)(hall:s.all G6=true)(h:1000000000000<(iN s:Int)∨ ¬(aX (Lib.itoa (iN s:Int))).toList=(aX s).toList):cS s=false:=by
 rw[Pr h1 h2 hall];rcases h with h|h
 ·rw[decide_eq_false (by omega)];rfl
 ·have:(Lib.itoa (iN s:Int)==s)=false:=by
   rw[beq_eq_false_iff_ne];intro e;rw[e]at h;exact h rfl
  rw[this,Bool.and_false]
theorem U0{s:List UInt8}(h1:1≤s.length)(h2:s.length≤13)(hall:s.all G6=true)(h:(iN s:Int)≤1000000000000∧(aX (Lib.itoa (iN s:Int))).toList=(aX s).toList):cS s=true∧cu s=(iN s:Int):=by
 have hp:cS s=true:=by
  rw[Pr h1 h2 hall,decide_eq_true (by omega),Bool.true_and];rw[beq_iff_eq];have:=h.2;rw[ByteArray.toList_eq,ByteArray.toList_eq]at this;exact this
 exact⟨hp,by unfold cu;rw[hp];rfl⟩
theorem aav{s:List UInt8}{k:Nat}(hk:k<s.length)(hn:iN (s.take k)<10000000000000)(hd:inr ((s.getD k 0).toNat:Int) 48 57=true):
  IntKind.i64.wrap (IntKind.i64.wrap (10*(iN (s.take k):Int))+IntKind.i64.wrap (IntKind.u8.wrap ((((aX s).data.toList.getD (k:Int).toNat 0).toNat:Int)-48)))=(iN (s.take (k+1)):Int):=by
 rw[b7]at hd;rw[G7 hk];have e:(aX s).data.toList.getD (k:Int).toNat 0=s.getD k 0:=rfl;rw[e];have h8:IntKind.u8.wrap (((s.getD k 0).toNat:Int)-48)=((s.getD k 0).toNat:Int)-48:=by
  show(((s.getD k 0).toNat:Int)-48)% 256=_
  omega
 rw[h8,bO (a:=((s.getD k 0).toNat:Int)-48) (by omega),bO (a:=10*(iN (s.take k):Int)) (by omega),bO (by omega)];omega
theorem U1(s:List UInt8)(k:Nat):IntKind.i64.wrap ((s.getD k 0).toNat:Int)=((s.getD k 0).toNat:Int):=bO (by have:=(s.getD k 0).toNat_lt;omega)
theorem XE{a:List UInt8}{b:ByteArray}(h:(!((aX a).toList==b.toList))=true):a≠b.data.toList:=iM (by simpa using h)
theorem ac5{a:List UInt8}{b:ByteArray}(h:a≠b.data.toList):(!((aX a).toList==b.toList))=true:=by
 cases e:((aX a).toList==b.toList)with
 |false=>rfl
 |true=>exact absurd (fj e) h
def YF(x:aW)(r row:Int):List UInt8:=if okW x=true then zo x r row 1 else []
theorem U2{x:aW}{r row:Int}(h:ya x r row=true):YF x r row=zo x r row 1∧Vu x r row=Pj (zo x r row 1):=by
 have h2:=h;unfold ya at h2;rw[Bool.and_eq_true]at h2;exact⟨if_pos h2.1,if_pos h⟩
theorem YG{x:aW}{r row:Int}(h:ya x r row=false):Vu x r row=CT:=if_neg (by rw[h];decide)
theorem aaw{t:List UInt8}{k:Nat}(hk:k<4)(h:names.getD k []=t):LV t=k:=by
 match k,hk with
 |0,_=>subst h;rfl
 |1,_=>subst h;rfl
 |2,_=>subst h;rfl
 |3,_=>subst h;rfl
theorem XF{t:List UInt8}(h: ∀j,j<4→names.getD j []≠t):LV t= -1:=by
 unfold LV;rw[if_neg (fun e=>h 0 (by decide) e.symm),if_neg (fun e=>h 1 (by decide) e.symm),if_neg (fun e=>h 2 (by decide) e.symm),if_neg (fun e=>h 3 (by decide) e.symm)]
def XG(M:List (List UInt8))(j:Nat):List Int:=(M.take j).map cu
theorem LA{M:List (List UInt8)}{j:Nat}(h:j<M.length):XG M (j+1)=XG M j++ [cu (M.getD j [])]:=by
 unfold XG;rw[bu M j [] h,List.map_append];rfl
theorem Pt{M:List (List UInt8)}{j:Nat}(h:j≤M.length):(XG M j).length=j:=by
 unfold XG;rw[List.length_map,List.length_take];omega
theorem G8{M:List (List UInt8)}{j:Nat}(h:j<M.length)(hp:cS (M.getD j [])=false):M.all cS=false:=by
 cases e:M.all cS with
 |false=>rfl
 |true=>
  have:=List.all_eq_true.1 e (M.getD j []) (by rw[List.getD_eq_getElem?_getD,List.getElem?_eq_getElem h];exact List.getElem_mem h);rw[hp]at this;cases this
theorem U3{M:List (List UInt8)}{j:Nat}(h:j<M.length)(ha:(M.take j).all cS=true)(hp:cS (M.getD j [])=true):(M.take (j+1)).all cS=true:=by
 rw[bu M j [] h,List.all_append,ha,List.all_cons,hp];rfl
theorem Pu{M:List (List UInt8)}{j:Nat}(h:M.length≤j)(ha:(M.take j).all cS=true):M.all cS=true∧XG M j=M.map cu:=by
 unfold XG;rw[List.take_of_length_le h]at*;exact⟨ha,rfl⟩
def YH(x:aW)(M:List (List UInt8)):aW×Option ByteArray:=
 if M.all cS=true then nwO ((M.map cu).getD 0 0) ((M.map cu).getD 1 0) ((M.map cu).getD 2 0) ((M.map cu).getD 3 0)else(x,none)
end
section
variable{x:aW}{L:List (List UInt8)}
def LF:List UInt8:= [115,101,110,100]
def G9:List UInt8:= [99,111,114,114,117,112,116]
def lNew:List UInt8:= [110,101,119]
theorem XK(h:L.length=1):dZ x L=dB x (L.getD 0 []):=by
 match L,h with
 | [w],_=>rfl
theorem Nx(x:aW)(a b c d:List UInt8):Nt x a b c d=YH x [a,b,c,d]:=by
 unfold Nt YH;simp only[List.all_cons,List.all_nil,Bool.and_true,Bool.and_assoc];rfl
theorem QO(h:L.length=5)(h0:L.getD 0 []=lNew):dZ x L=YH x (L.drop 1):=by
 match L,h with
 | [w,a,b,c,d],_=>
   have hw:w= [110,101,119]:=h0;show(if w= [110,101,119]then Nt x a b c d else(x,none))=_
   rw[if_pos hw,Nx];rfl
theorem mI(h:L.length=2∨L.length=3)(hp:cS (L.getD 1 [])=false):dZ x L=(x,none):=by
 match L,h with
 | [w,a],_=>
   show(if cS a=true then _ else _)=_
   rw[if_neg (by rw[show cS a=false from hp];decide)]
 | [w,a,s],_=>
   show(if cS a=true then _ else _)=_
   rw[if_neg (by rw[show cS a=false from hp];decide)]
theorem Px(h:L.length=2)(hp:cS (L.getD 1 [])=true):dZ x L=gq x (L.getD 0 []) (cu (L.getD 1 [])):=by
 match L,h with
 | [w,a],_=>exact if_pos hp
theorem vP(h:L.length=3)(hp:cS (L.getD 1 [])=true):dZ x L=ku x (L.getD 0 []) (cu (L.getD 1 [])) (L.getD 2 []):=by
 match L,h with
 | [w,a,s],_=>exact if_pos hp
theorem Va(h1: ¬L.length=1)(h2: ¬(L.length=2∨L.length=3))(h5: ¬(L.length=5∧L.getD 0 []=lNew)):dZ x L=(x,none):=by
 match L with
 | []=>rfl
 | [w]=>exact absurd rfl h1
 | [w,a]=>exact absurd (Or.inl rfl) h2
 | [w,a,b]=>exact absurd (Or.inr rfl) h2
 | [w,a,b,c]=>rfl
 | [w,a,b,c,d]=>exact if_neg fun e=>h5 ⟨rfl,e⟩
 |w::a::b::c::d::e::r=>rfl
theorem Vb{w s:List UInt8}{c:Int}(hw:w=LF)(hs:s≠ []):ku x w c s=Ns x ⟨2,c,0,s⟩:=if_pos ⟨hw,hs⟩
theorem Vc{w s:List UInt8}{c:Int}(hw:w=G9)(hs:0≤LV s):ku x w c s=Ns x ⟨4,c,LV s,[]⟩:=by
 unfold ku;rw[if_neg (fun h=>by rw[hw]at h;exact absurd h.1 (by decide)),if_neg (fun h=>by rw[hw]at h;exact absurd h.1 (by decide)),if_pos ⟨hw,hs⟩]
theorem LG{w s:List UInt8}{c:Int}(hw:w=G9)(hs: ¬0≤LV s):ku x w c s=(x,none):=by
 unfold ku;rw[if_neg (fun h=>by rw[hw]at h;exact absurd h.1 (by decide)),if_neg (fun h=>by rw[hw]at h;exact absurd h.1 (by decide)),if_neg (fun h=>hs h.2)]
theorem Ny(h1: ¬L.length=1)(h0:1≤L.length)(hs: ¬(L.getD 0 []=LF∧L.length=3∧L.getD 2 []≠ []))(hc: ¬(L.getD 0 []=G9∧L.length=3))(hp:(L.drop 1).all cS=false):dZ x L=(x,none):=by
 match L with
 | []=>exact absurd h0 (by decide)
 | [w]=>exact absurd rfl h1
 | [w,a]=>
   refine mI (Or.inl rfl) ?_;simpa using hp
 | [w,a,s]=>
   cases ha:cS a with
   |false=>exact mI (Or.inr rfl) ha
   |true=>
    have hps:cS s=false:=by simpa[ha]using hp
    rw[vP (L:= [w,a,s]) rfl ha];show ku x w (cu a) s=_
    unfold ku;rw[if_neg (fun h=>hs ⟨h.1,rfl,h.2⟩),if_neg (fun h=>by rw[hps]at h;exact absurd h.2 (by decide)),if_neg (fun h=>hc ⟨h.1,rfl⟩)]
 | [w,a,b,c]=>rfl
 | [w,a,b,c,d]=>
   show(if w= [110,101,119]then Nt x a b c d else(x,none))=_
   split
   ·rw[Nx];exact if_neg (by rw[show([a,b,c,d]:List (List UInt8)).all cS=false from hp];decide)
   ·rfl
 |w::a::b::c::d::e::r=>rfl
theorem QS(h1: ¬L.length=1)(h0:1≤L.length)(hs: ¬(L.getD 0 []=LF∧L.length=3∧L.getD 2 []≠ []))(hc: ¬(L.getD 0 []=G9∧L.length=3))(hp:(L.drop 1).all cS=true):dZ x L=iD x (L.getD 0 []) ((L.drop 1).map cu):=by
 match L with
 | []=>exact absurd h0 (by decide)
 | [w]=>exact absurd rfl h1
 | [w,a]=>
   have ha:cS a=true:=by simpa using hp
   rw[Px (L:= [w,a]) rfl ha];unfold iD;rw[if_neg (fun h=>absurd h.2 (by show¬1=4;decide)),if_neg (fun h=>absurd h.2 (by show¬1=2;decide)),if_pos (by rfl)];rfl
 | [w,a,s]=>
   have Vt:cS a=true∧cS s=true:=by simpa using hp
   rw[vP (L:= [w,a,s]) rfl Vt.1];show ku x w (cu a) s=iD x w [cu a,cu s]
   have g0: ¬(w= [115,101,110,100]∧s≠ []):=fun h=>hs ⟨h.1,rfl,h.2⟩;have g1: ¬(w= [110,101,119]∧([cu a,cu s]:List Int).length=4):=fun h=>absurd h.2 (by show¬2=4;decide);by_cases hr:w= [114,101,97,100]
   ·have e1:ku x w (cu a) s=(x,some (Vu x (cu a) (cu s))):=by unfold ku;rw[if_neg g0,if_pos ⟨hr,Vt.2⟩]
    have e2:iD x w [cu a,cu s]=(x,some (Vu x (cu a) (cu s))):=by unfold iD;rw[if_neg g1,if_pos ⟨hr,rfl⟩];rfl
    rw[e1,e2]
   ·have e1:ku x w (cu a) s=(x,none):=by unfold ku;rw[if_neg g0,if_neg (fun h=>hr h.1),if_neg (fun h=>hc ⟨h.1,rfl⟩)]
    have e2:iD x w [cu a,cu s]=(x,none):=by unfold iD;rw[if_neg g1,if_neg (fun h=>hr h.1),if_neg (by show¬2=1;decide)]
    rw[e1,e2]
 | [w,a,b,c]=>
   show(x,none)=iD x w [cu a,cu b,cu c]
   unfold iD;rw[if_neg (fun h=>absurd h.2 (by show¬3=4;decide)),if_neg (fun h=>absurd h.2 (by show¬3=2;decide)),if_neg (by show¬3=1;decide)]
 | [w,a,b,c,d]=>
   show(if w= [110,101,119]then Nt x a b c d else(x,none))=iD x w [cu a,cu b,cu c,cu d]
   unfold iD;by_cases hw:w= [110,101,119]
   ·rw[if_pos hw,if_pos ⟨hw,rfl⟩,Nx];exact if_pos hp
   ·rw[if_neg hw,if_neg (fun h=>hw h.1),if_neg (fun h=>absurd h.2 (by show¬4=2;decide)),if_neg (by show¬4=1;decide)]
 |w::a::b::c::d::e::r=>
  show(x,none)=iD x w (((a::b::c::d::e::r)).map cu)
  unfold iD;rw[if_neg (fun h=>absurd h.2 (by simp)),if_neg (fun h=>absurd h.2 (by simp)),if_neg (by simp)]
theorem LH{o:aW×Option ByteArray}(h:o.2.isSome=false):Vv o=⟨#[63]⟩:=by
 obtain⟨x,o⟩:=o;cases o with
 |none=>rfl
 |some b=>cases h
theorem LI{o:aW×Option ByteArray}(h:o.2.isSome=true):o.2.getD ⟨#[]⟩=Vv o:=by
 obtain⟨x,o⟩:=o;cases o with
 |none=>cases h
 |some b=>rfl
theorem XL{l:List (List UInt8)}{y:List UInt8}(h:y∈l):y.length+1≤cE List.length l:=by
 induction l with
 |nil=>cases h
 |cons z r ih=>
  unfold cE at ih ⊢;simp only[List.length_cons,List.map_cons,List.sum_cons];rcases List.mem_cons.1 h with rfl|h
  ·omega
  ·have:=ih h;omega
theorem Py{s:List UInt8}(h:(bR 10 s).getD ((bR 10 s).length-1) []= []):bU s=(bR 10 s).take ((bR 10 s).length-1):=if_pos h
theorem Vd{s:List UInt8}(h:(bR 10 s).getD ((bR 10 s).length-1) []≠ []):bU s=bR 10 s:=if_neg h
theorem XM{s y:List UInt8}(h:y∈bU s):y∈bR 10 s:=by
 unfold bU at h;split at h
 ·exact List.mem_of_mem_take h
 ·exact h
theorem Pz(s:List UInt8):(bU s).length≤s.length+1:=by
 have h1:=uM (bR 10 s);have h2:=kr 10 s;unfold bU;split
 ·rw[List.length_take];omega
 ·omega
theorem I7{s:List UInt8}{k:Nat}(hk:k<(bU s).length):((bU s).getD k []).length≤s.length:=by
 have hm:(bU s).getD k []∈bU s:=by rw[List.getD_eq_getElem?_getD,List.getElem?_eq_getElem hk];exact List.getElem_mem hk
 have h1:=XL (XM hm);have h2:=kr 10 s;omega
theorem I8{s:List UInt8}(h:4000<s.length∨80<(bU s).length):runM s=ac2:=by
 unfold runM UX;rw[if_pos];rcases h with h|h
 ·rw[decide_eq_true h];rfl
 ·rw[decide_eq_true h,Bool.or_true]
theorem I9{s:List UInt8}(h: ¬(4000<s.length∨80<(bU s).length)):runM s=(iO (bU s) (bU s).length).2:=by
 unfold runM UX;rw[if_neg];rw[decide_eq_false (fun e=>h (Or.inl e)),decide_eq_false (fun e=>h (Or.inr e))];decide
end
end Go.Proofs.YtaalpcnbbldlaaaGreatDoor.G
