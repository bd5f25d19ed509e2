/- Steps. -/
import Derived.Test.YtaalpcnbbldlaaaGreatDoorR21
import Derived.Test.YtaalpcnbbldlaaaGreatDoorR25
open Bool renaming and_eq_true→an
open Go.Lib renaming itoa→bN,itoa_nonneg→Rz
open Int renaming le_refl→iK,toNat→cX,toNat_of_nonneg→nA
open List renaming append_assoc→bU,append_nil→cW,cons_append→fE,length_append→aQ,length_cons→bp,length_nil→dh,mem_append→bg,mem_cons→bh,mem_cons_of_mem→aE,mem_cons_self→bA,nil_append→eM,take_of_length_le→aD
open Nat renaming add_mul→cM,le_refl→aS,le_succ→nF,le_trans→cB,mul_le_mul_left→nI,one_mul→mH,zero_add→dB,zero_le→aY
open Or renaming inl→bP,inr→bw
namespace Go.Proofs.YtaalpcnbbldlaaaGreatDoor.G
set_option linter.all false
open Go.RowKit L D
section
variable{N:Nat}
section
variable{Q seed rows n k R:Nat}{x:dF}
theorem IV.mono(h:IV Q seed rows n k R x){k' R':Nat}(hk:k≤k')(hR:R≤R'):IV Q seed rows n k' R' x:=⟨h.ok,h.rws,h.nd,by have:=h.rd;omega,h.dv,cB h.sb hk,h.ar⟩
theorem aaW{i j:Nat}{d:bR}(hj:j<x.ah.length):(FK x i d).ah.getD j (aO .bR)=if i=j then d else x.ah.getD j (aO .bR):=rX _ _ hj
theorem IV.FK(h:IV Q seed rows n k R x){c:Int}{d:bR}(hc:gY x c=true)(hok:okW (FK x c.toNat d)=true){b:Nat}(hd:CI seed c.toNat d.live∧CI seed c.toNat d.saved)(hs:d.live.aT.length≤(D4 x c).live.aT.length+b)(hb:b≤1):IV Q seed rows n (k+b) R (FK x c.toNat d):=by
 obtain⟨_,c1,c2⟩:=p8 hc;have hcn:c.toNat<n:=by have:=h.nd;omega
 refine⟨hok,h.rws,by show(x.ah.set _ _).length=n;rw[List.length_set];exact h.nd,h.rd,fun i hi=> ?_,?_,h.ar⟩
 ·rw[aaW axz];by_cases e:c.toNat=i
  ·rw[if_pos e, ←e];exact hd
  ·rw[if_neg e];exact h.dv i hi
 ·have key: ∀i,i<n→((G.FK x c.toNat d).ah.getD i (aO .bR)).live.aT.length≤(x.ah.getD i (aO .bR)).live.aT.length+(if i=c.toNat then b else 0):=by
   intro i hi;rw[aaW axz];by_cases e:c.toNat=i
   ·rw[if_pos e,if_pos e.symm, ←e];exact hs
   ·rw[if_neg e,if_neg (fun q=>e q.symm)];exact aS _
  have hsb:=h.sb;by_cases e:b=0
  ·subst e;exact cB (Rw n fun i hi=>by have:=key i hi;split at this<;>omega) hsb
  ·obtain rfl:b=1:=by omega
   have:=(agH n key).1;omega
theorem IV.sm(h:IV Q seed rows n k R x)(c:Int)(t:Nat):IV Q seed rows n (k+1) R (TU x c (Gx t)):=by
 have hok:=anD (c:=c) (b:=Gx t) h.ok;unfold TU at hok ⊢;split at hok
 ·rename_i hc;rw[if_pos hc];obtain⟨_,c1,c2⟩:=p8 hc;have hd:=h.dv c.toNat Xy;have hq: ∀q:kf,CI seed c.toNat q→CI seed c.toNat (qG q (Gx t))∧(qG q (Gx t)).aT.length≤q.aT.length+1:=by
   intro q hq;unfold qG;split
   ·refine⟨⟨hq.id,hq.fr,hq.key,hq.seed,fun b hb=> ?_,hq.inb⟩,by show(q.aT++ [Gx t]).length≤_;simp⟩;rcases bg.1 hb with hb|hb
    ·exact hq.sub b hb
    ·exact⟨t,List.mem_singleton.1 hb⟩
   ·exact⟨hq,nF _⟩
  refine h.FK hc hok (b:=1) ?_ ?_ (aS _)
  ·unfold Jf;split
   ·exact⟨(hq _ hd.1).1,(hq _ hd.2).1⟩
   ·exact hd
  ·unfold Jf;split
   ·exact(hq _ hd.1).2
   ·exact nF _
 ·rename_i hc;rw[if_neg hc];exact h.mono (nF _) (aS _)
theorem apq{d:bR}(h:gx d=true):d.saved.aT=d.live.aT:=(mz.1 (Dok.iff.1 h).same).2.symm
theorem IV.cc(h:IV Q seed rows n k R x)(c:Int):IV Q seed rows n k R (Se x c):=by
 have hok:=anE (c:=c) h.ok;unfold Se at hok ⊢;split at hok
 ·rename_i hc;rw[if_pos hc];obtain⟨_,c1,c2⟩:=p8 hc;have hd:=h.dv c.toNat Xy;refine h.FK hc hok (b:=0) ?_ ?_ (aY _)
  ·unfold Zr;split
   ·exact⟨hd.2,hd.2⟩
   ·exact hd
  ·unfold Zr;split
   ·rename_i hk;show(D4 x c).saved.aT.length≤_
    rw[apq hk];exact aS _
   ·exact aS _
 ·rename_i hc;rw[if_neg hc];exact h
theorem IV.sv(h:IV Q seed rows n k R x)(c:Int):IV Q seed rows n k R (D5 x c):=by
 have hok:=anF (c:=c) h.ok;unfold D5 at hok ⊢;split at hok
 ·rename_i hc;rw[if_pos hc];obtain⟨_,c1,c2⟩:=p8 hc;have hd:=h.dv c.toNat Xy;refine h.FK hc hok (b:=0) ?_ ?_ (aY _)
  ·unfold Sd;split
   ·exact⟨hd.1,hd.1⟩
   ·exact hd
  ·unfold Sd;split
   ·exact aS _
   ·exact aS _
 ·rename_i hc;rw[if_neg hc];exact h
theorem IV.co(h:IV Q seed rows n k R x)(i b:Int):IV Q seed rows n k R (V1 x i b):=by
 have hok:=anG (i:=i) (b:=b) h.ok;unfold V1 at hok ⊢;split at hok
 ·rename_i hc;rw[if_pos hc];exact⟨hok,h.rws,h.nd,h.rd,h.dv,h.sb,h.ar⟩
 ·rename_i hc;rw[if_neg hc];exact h
def mkK(k:Nat):Nat:=if 20+8*k<60 then 20+8*k else 60
theorem IV.qt(h:IV Q seed rows n k R x)(hn:n≤8):(qt x.ah n≤k)∧CC x.ah n≤k:=by
 have hb: ∀i,i<n→(x.ah.getD i (aO .bR)).live.aT.length≤16∧(x.ah.getD i (aO .bR)).live.inbox.length≤16∧0≤(x.ah.getD i (aO .bR)).live.sent∧(x.ah.getD i (aO .bR)).live.sent≤(x.ah.getD i (aO .bR)).live.aT.length:=fun i hi=>by
  have:=rU (VH h.ok (c:=(i:Int)) Xy);exact⟨this.1,this.2.1,this.2.2.2.2.1,this.2.2.2.2.2.1⟩
 have k0: ∀m,m≤n→Um x.ah m≤16*m:=by
  intro m;induction m with
  |zero=>intro _;exact aY _
  |succ m ih=>intro hm;have:=ih aJ;have:=(hb m aJ).1;rw[Um];omega
 have k1: ∀m,m≤n→0≤G.qt x.ah m∧G.qt x.ah m≤Um x.ah m:=by
  intro m;induction m with
  |zero=>intro _;exact⟨iK 0,iK 0⟩
  |succ m ih=>
   intro hm;obtain⟨i1,i2⟩:=ih aJ;obtain⟨b1,b2,b3,b4⟩:=hb m aJ;have:=k0 m aJ;rw[G.qt,waiting,Um];rw[cY (a:=((x.ah.getD m (aO .bR)).live.aT.length:Int)-(x.ah.getD m (aO .bR)).live.sent) aJ,cY aJ];omega
 have k2: ∀m,m≤n→ -(16*(m:Int))≤CC x.ah m∧CC x.ah m≤Um x.ah m:=by
  intro m;induction m with
  |zero=>intro _;exact⟨by show-(16*(0:Int))≤0;decide,iK 0⟩
  |succ m ih=>
   intro hm;obtain⟨i1,i2⟩:=ih aJ;obtain⟨b1,b2,b3,b4⟩:=hb m aJ;have h0:=k0 m aJ;rw[Um];by_cases e:(m^^^1)<x.ah.length
   ·obtain⟨_,d2,_⟩:=hb (m^^^1) (by rw[←h.nd];exact e);rw[V6 e];rw[cY (a:=CC x.ah m+((x.ah.getD m (aO .bR)).live.aT.length:Int)) aJ,cY aJ];omega
   ·rw[QL e];omega
 have:=h.sb;exact⟨by have:=(k1 n (aS n)).2;omega,by have:=(k2 n (aS n)).2;omega⟩
theorem IV.set(h:IV Q seed rows n k R x)(hn:n≤8)(hk:k≤100):Ao (lW (yy x) 60)≤mkK k:=by
 obtain⟨p1,p2⟩:=h.qt hn;have r1:=(Og x.ah n).1;have r2:=(V5 x.ah n).1;have hs:yy x≤20+8*k:=by
  unfold yy;rw[h.nd];unfold lW RY;simp only[IntKind.wrap_i64];generalize G.qt x.ah n=p at*;generalize CC x.ah n=u at*
  repeat' split
  all_goals omega
 unfold Ao lW mkK
 repeat' split
 all_goals omega
theorem mk_le{k t:Nat}(h:k+t≤10):(t+1)*mkK k≤364∧mkK k≤60∧20≤mkK k:=by
 have: ∀k,k≤10→ ∀t,t≤10→k+t≤10→(t+1)*mkK k≤364∧mkK k≤60∧20≤mkK k:=by decide
 exact this k aJ t aJ h
variable [HF]
theorem IV.run{t:Nat}(U9:chS 364 seed=true)(hr8:8≤rows∧rows≤16)(hn:n≤4)(hev:n % 2=0)(hkt:k+t≤10)(h:IV 364 seed rows n k (t*mkK k) x)(hj:JW x N)(hN:N≤90000): ∀j,j≤mkK k→IV 364 seed rows n k (t*mkK k+j) (jC x j)
 |0,_=>h
 |j+1,hjk=>by
  have ih:=IV.run U9 hr8 hn hev hkt h hj hN j aJ;obtain⟨m1,m2,m3⟩:=mk_le hkt;have hJ:=hj.run j aJ;have hcc:(jC x j).cancelled<9223372036854775807:=by
   rcases hJ with e| ⟨hd,_⟩
   ·rw[e];decide
   ·have:=hd.CF;omega
  have hR:t*mkK k+j<364:=by
   rw[cM,mH]at m1;omega
  have hd:(t*mkK k+j)/60≤t:=by
   have h1:t*mkK k≤t*60:=nI _ m2;omega
  exact ih.round U9 aJ hr8 hn hev aJ hR hcc
end
def auT:List (List UInt8)→Bool
 | [w,a]=> !(w== [114,111,117,110,100,115])|| (!(a.all Ou)||decide (nh a≤20))
 | [w,_,s]=> !(w== [115,101,110,100])|| (s==Gx 0|| (s==Gx 1||s==Gx 2))
 | [_,_,_,c,_]=>decide (4<nh c)
 |_=>true
section
variable [HF]
def RR(seed rows n m:Nat)(x:dF):Prop:=x=zW∨ ∃k t,k+t≤m∧IV 364 seed rows n k (t*mkK k) x
variable{seed rows n m:Nat}{x:dF}
theorem apr(k:Nat):mkK k≤mkK (k+1):=by unfold mkK;split<;>split<;>omega
theorem RR.mono(h:RR seed rows n m x):RR seed rows n (m+1) x:=h.imp id fun⟨k,t,h1,h2⟩=>⟨k,t,aJ,h2⟩
theorem RR.ev(h:RR seed rows n m x)(e:Ev)(he:e.kind=2→ ∃t,e.body=Gx t)(h1:e.kind≠1):RR seed rows n (m+1) (FL x e):=by
 rcases h with rfl| ⟨k,t,h2,h3⟩
 ·rw[aoa];exact bP rfl
 ·unfold FL;rw[if_neg h1];split
  ·rename_i e2;obtain⟨u,hu⟩:=he e2;rw[hu];exact bw ⟨k+1,t,aJ,(h3.sm _ u).mono (aS _) (nI _ (apr k))⟩
  ·refine RR.mono (bw ⟨k,t,h2,?_⟩)
   repeat' split
   ·exact h3.cc _
   ·exact h3.co _ _
   ·exact h3.sv _
   ·exact h3
theorem RR.run(U9:chS 364 seed=true)(hr8:8≤rows∧rows≤16)(hn:n≤4)(hev:n % 2=0)(hm:m≤10)(h:RR seed rows n m x)(hj:JW x N)(hN:N≤90000)(j:Nat)(hjk:j≤20∨j=Ao (lW (yy x) 60)):RR seed rows n (m+1) (jC x j):=by
 rcases h with rfl| ⟨k,t,h2,h3⟩
 ·rw[aob];exact bP rfl
 ·have h20:=(mk_le (k:=k) (t:=t) aJ).2.2;have hjk:j≤mkK k:=by
   rcases hjk with q|rfl
   ·omega
   ·exact h3.set aJ aJ
  have:=IV.run U9 hr8 hn hev aJ h3 hj hN j hjk;exact bw ⟨k,t+1,aJ,this.mono (aS _) (by rw[cM,mH];omega)⟩
theorem aaX{s:List UInt8}:eP s=0∨(eP s=(nh s:Int)∧s.all Ou=true):=by
 unfold eP;split
 ·rename_i h;simp only[gu,an]at h;exact bw ⟨rfl,h.2.1⟩
 ·exact bP rfl
theorem RR.line(U9:chS 364 seed=true)(hr8:8≤rows∧rows≤16)(hn:n≤4)(hev:n % 2=0)(hm:m≤10)(h:RR seed rows n m x)(hj:JW x N)(hN:N≤90000){w:List (List UInt8)}(hw:auT w=true):RR seed rows n (m+1) (iM x w).1:=by
 have hrun:=fun j q=>RR.run U9 hr8 hn hev hm h hj hN j q;have h1:=hrun 1 (bP aJ);unfold iM;split
 ·unfold iC
  repeat' split
  ·exact h1
  ·exact hrun _ (bw rfl)
  all_goals exact h.mono
 ·rename_i w a;split
  ·unfold mN
   repeat' split
   ·exact h.ev ⟨3,eP a,0,[]⟩ (fun q=>absurd q (show¬(3:Int)=2 by decide)) (show(3:Int)≠1 by decide)
   ·exact h.ev ⟨5,eP a,0,[]⟩ (fun q=>absurd q (show¬(5:Int)=2 by decide)) (show(5:Int)≠1 by decide)
   ·rename_i hwd;refine hrun _ (bP ?_);rw[hwd]at hw;rcases aaX (s:=a)with e| ⟨e,hd⟩
    ·rw[e];decide
    ·rw[e];have:nh a≤20:=by
      have hw:(!([114,111,117,110,100,115]==([114,111,117,110,100,115]:List UInt8))|| (!(a.all Ou)||decide (nh a≤20)))=true:=hw;rw[beq_self_eq_true,hd]at hw;simpa using hw
     unfold Ao lW
     repeat' split
     all_goals omega
   all_goals exact h.mono
  ·exact h.mono
 ·rename_i w a s;split
  ·unfold qJ
   repeat' split
   ·rename_i hwd;refine h.ev ⟨2,eP a,0,s⟩ (fun _=> ?_) (show(2:Int)≠1 by decide);rw[hwd.1]at hw;have hw:(!([115,101,110,100]==([115,101,110,100]:List UInt8))|| (s==Gx 0|| (s==Gx 1||s==Gx 2)))=true:=hw;rw[beq_self_eq_true]at hw;simp only[Bool.not_true,Bool.false_or,Bool.or_eq_true,beq_iff_eq]at hw;rcases hw with e|e|e
    ·exact⟨0,e⟩
    ·exact⟨1,e⟩
    ·exact⟨2,e⟩
   ·exact h.mono
   ·exact h.ev ⟨4,eP a,nmI s,[]⟩ (fun q=>absurd q (show¬(4:Int)=2 by decide)) (show(4:Int)≠1 by decide)
   ·exact h.mono
  ·exact h.mono
 ·rename_i w a b c d;split
  ·unfold Ra;split
   ·refine bP ?_;show Xl (eP a) (eP b) (eP c) (eP d)=zW
    refine Wz ?_;have:4<nh c:=by unfold auT at hw;simpa using hw
    have hc:inr (eP c) 1 4=false:=by
     rw[Bool.eq_false_iff];intro q;rw[dK]at q;rcases aaX (s:=c)with e| ⟨e,_⟩<;>omega
    rw[hc,Bool.and_false]
   ·exact h.mono
  ·exact h.mono
 ·exact h.mono
theorem auU(t:Nat):Fv (Gx t):=by
 unfold Gx;split<;>(unfold Fv;decide)
theorem RR.ajh(h:RR seed rows n m x):ajh x:=by
 intro c l hl;unfold Gy at hl;rcases h with rfl| ⟨k,t,_,h⟩
 ·cases hl
 ·by_cases hc:c.toNat<n
  ·obtain⟨t,rfl⟩:=(h.dv _ hc).1.inb l hl;exact auU t
  ·rw[List.getD_eq_getElem?_getD,List.getElem?_eq_none (by rw[h.nd];omega)]at hl;cases hl
theorem RR.new{s p:Nat}(hr:8≤rows∧rows≤16)(hs:2≤s∧s≤4)(hp:1≤p∧p≤4):RR seed rows (2*p) 0 (Wb (rows:Int) s p (seed:Int)):=by
 have hd: ∀i,i<2*p→(Wb (rows:Int) s p (seed:Int)).ah.getD i (aO .bR)=nwD (seed:Int) i:=fun i hi=>jz _ _ _ _ hi;have hci: ∀i,CI seed i (nwC (seed:Int) i):=fun i=>⟨rfl,rfl,rfl,rfl,fun b hb=>(nomatch hb),fun b hb=>(nomatch hb)⟩;refine bw ⟨0,0,aS 0,afA aJ hs hp,rfl,Ol _ _,by show(0:Int)≤((0*mkK 0:Nat):Int);omega,fun i hi=>by rw[hd i hi];exact⟨hci i,hci i⟩,?_,fun a ha=>nomatch ha⟩;have: ∀m,m≤2*p→Um (Wb (rows:Int) s p (seed:Int)).ah m≤0:=by
  intro m;induction m with
  |zero=>intro _;exact aS 0
  |succ m ih=>
   intro hm;rw[Um,hd m aJ];exact ih aJ
 exact this (2*p) (aS _)
end
end
section
variable(c:xj)(l:List UInt8){k:Nat}{s:List UInt8}
def lsA:List (List UInt8):= [[97],[98,99],[104,101,108,108,111]]
def lsB:List (List UInt8):= [[99,114,97,115,104,32],[115,97,118,101,32]]
def lsC:List (List UInt8):= [[104,111,110,101,115,116],[100,114,111,112,115],[97,108,116,101,114,115],[108,105,101,115],[115,108,101,101,112,115]]
def lsD:List (List UInt8):= [[99,108,105,101,110,116,32],[115,101,114,118,101,114,32],[105,110,98,111,120,32]]
def lsE:List (List UInt8):= [[97,114,99,104,105,118,101],[119,111,114,108,100],[116,114,97,102,102,105,99],[97,117,100,105,116],[113,117,105,101,116]]
def lsF:List (List UInt8):= [[114,111,117,110,100,115,32,50],[115,101,116,116,108,101],[114,111,117,110,100,115,32,53]]
def lsG:List (List UInt8):= [[],[119,104,97,116],[110,101,119,32,56,32,50,32,49],[110,101,119,32,56,32,50,32,57,32,49],[115,101,110,100,32,48],[99,114,97,115,104,32,120],[99,108,105,101,110,116,32,57],[114,101,97,100,32,48,32,57,57],[114,111,117,110,100,115,32,120]]
def stX(l:List (List UInt8)):List UInt8:=l.getD (gV c (l.length:Int)).toNat (aO .str)
def AG:xj:=dn (dn c 5) 12
def pJ:Int:=gV (dn c 5) 12
def dln:List UInt8:=bN (gV c 5)
def Fw:List UInt8:=
 if pJ c=0∨pJ c=1 then(([115,101,110,100,32]++dln c)++ [32])++stX (AG c) lsA
 else if pJ c=2 then stX (AG c) lsB++dln c
 else if pJ c=3 then(([99,111,114,114,117,112,116,32]++dln c)++ [32])++stX (AG c) lsC
 else if pJ c=4 then stX (AG c) lsD++dln c
 else if pJ c=5 then stX (AG c) lsE
 else if pJ c=6 then(([114,101,97,100,32]++dln c)++ [32])++bN (gV (AG c) 9)
 else if pJ c=7 then stX (AG c) lsF
 else if pJ c=8∨pJ c=9∨pJ c=10 then [114,111,117,110,100]
 else stX (AG c) lsG
def Ki:xj:=
 if pJ c=0∨pJ c=1 then dn (AG c) 3
 else if pJ c=2 then dn (AG c) 2
 else if pJ c=3 then dn (AG c) 5
 else if pJ c=4 then dn (AG c) 3
 else if pJ c=5 then dn (AG c) 5
 else if pJ c=6 then dn (AG c) 9
 else if pJ c=7 then dn (AG c) 3
 else if pJ c=8∨pJ c=9∨pJ c=10 then AG c
 else dn (AG c) 9
theorem aFf:(Ki c).b=c.b:=by
 have h:(AG c).b=c.b:=by unfold AG;rw[jO,jO]
 unfold Ki
 repeat' split
 all_goals first|exact(jO _ _).trans h|exact h
def Mf(c:xj):Nat→xj
 |0=>c
 |k+1=>Ki (Mf c k)
theorem aaY(c:xj): ∀k,(Mf c k).b=c.b
 |0=>rfl
 |k+1=>(aFf _).trans (aaY c k)
def HQ(k:Nat):List (List UInt8):=(List.range k).map fun i=>Fw (Mf c i)
theorem aaZ(k:Nat):HQ c (k+1)=HQ c k++ [Fw (Mf c k)]:=by unfold HQ;rw[List.range_succ,List.map_append];rfl
theorem agR(L:List (List UInt8))(l:List UInt8):zC (L++ [l])=(zC L++l)++ [10]:=by
 rw[WY];show zC L++((l++ [10])++ [])=_
 rw[cW,bU]
def Rx:List UInt8:=((((((([110,101,119,32]++bN (8+gV c 9))++ [32])++bN (2+gV (dn c 9) 2))++ [32])++bN (1+gV (dn (dn c 9) 2) 2))++ [32])++bN (gV (dn (dn (dn c 9) 2) 2) 99))
def OE:xj:=dn (dn (dn (dn c 9) 2) 2) 99
theorem apt:(OE c).b=c.b:=by unfold OE;rw[jO,jO,jO,jO]
def AF(m:Int):Nat:=(1+gV (OE c) m).toNat
def HR(m:Int)(k:Nat):List (List UInt8):=Rx c::HQ (dn (OE c) m) k
theorem apu(m:Int)(k:Nat):bG (zC (HR c m (k+1)))=(bG (zC (HR c m k))++bG (Fw (Mf (dn (OE c) m) k)))++bG [10]:=by
 rw[jf,jf];unfold HR;rw[aaZ, ←fE,agR]
theorem aFg(m:Int):bG (Rx c)++bG [10]=bG (zC (HR c m 0)):=by
 rw[jf];unfold HR HQ;show _=bG ((Rx c++ [10])++ [])
 rw[cW]
def CV(n:Nat):List UInt8:=if n<10 then [UInt8.ofNat (48+n)]else [UInt8.ofNat (48+n/10),UInt8.ofNat (48+n % 10)]
theorem Ry{n:Nat}(h:n<100):bN (n:Int)=CV n:=by
 rw[Rz];unfold CV;split
 ·rename_i h;exact Lib.decDigits_one h
 ·rename_i h2;exact Lib.decDigits_two h2 h
theorem W0{n:Nat}(h:n<100):(CV n).length≤2∧(∀b,b∈CV n→b≠10∧b≠32)∧gu (CV n)=true∧eP (CV n)=(n:Int):=by
 have key: ∀n,n<100→(CV n).length≤2∧1≤(CV n).length∧(∀b,b∈CV n→b≠10∧b≠32)∧(CV n).all Ou=true∧nh (CV n)=n:=by decide
 obtain⟨k1,k2,k3,k4,k5⟩:=key n h;have hp:gu (CV n)=true:=by
  unfold gu;rw[k4,k5, ←Rz,Ry h,decide_eq_true k2,decide_eq_true (show(CV n).length≤13 by omega),decide_eq_true (show n≤1000000000000 by omega),beq_self_eq_true];rfl
 exact⟨k1,k3,hp,by unfold eP;rw[if_pos hp,k5]⟩
theorem Kj{c:UInt8}(s:List UInt8): ∀w:List UInt8,(∀b,b∈w→b≠c)→dA c (w++c::s)=w::dA c s
 | [],_=>by rw[eM,dA,if_pos rfl]
 |b::l,h=>by
  have ih:=Kj s l fun c hc=>h c (aE _ hc);rw[fE,dA,if_neg (h b (bA ..)),ih]
theorem agS{c:UInt8}: ∀w:List UInt8,(∀b,b∈w→b≠c)→dA c w= [w]
 | [],_=>rfl
 |b::l,h=>by
  have ih:=agS l fun c hc=>h c (aE _ hc);rw[dA,if_neg (h b (bA ..)),ih]
def Xq:Bool:=auT (dA 32 l)&&(l.all fun b=> !(b==10))&&decide (l.length≤30)
theorem EU{P:List UInt8→Prop}{c:xj}{l:List (List UInt8)}(hl:0<l.length)(h: ∀i,i<l.length→P (l.getD i [])):P (stX c l):=by
 have:=nK c (n:=(l.length:Int)) aJ;exact h _ aJ
theorem aAe: ∃n,n<5∧dln c=CV n:=by
 have:=nK c (n:=5) cO;refine⟨(gV c 5).toNat,aJ,?_⟩;unfold dln;rw[←Ry aJ,nA this.1]
theorem W1:Xq (Fw c)=true:=by
 obtain⟨n,hn,e⟩:=aAe c;have h9:=nK (AG c) (n:=9) cO;have e9:bN (gV (AG c) 9)=CV (gV (AG c) 9).toNat:=by rw[←Ry aJ,nA h9.1]
 have hm:(gV (AG c) 9).toNat<9:=by omega
 unfold Fw;rw[e,e9];generalize (gV (AG c) 9).toNat=m at hm
 repeat' split
 ·exact EU (P:=fun s=>Xq ((([115,101,110,100,32]++CV n)++ [32])++s)=true) cO ((by decide: ∀n,n<5→ ∀i,i<lsA.length→Xq ((([115,101,110,100,32]++CV n)++ [32])++lsA.getD i [])=true) n hn)
 ·exact EU (P:=fun s=>Xq (s++CV n)=true) cO ((by decide: ∀n,n<5→ ∀i,i<lsB.length→Xq (lsB.getD i []++CV n)=true) n hn)
 ·exact EU (P:=fun s=>Xq ((([99,111,114,114,117,112,116,32]++CV n)++ [32])++s)=true) cO ((by decide: ∀n,n<5→ ∀i,i<lsC.length→Xq ((([99,111,114,114,117,112,116,32]++CV n)++ [32])++lsC.getD i [])=true) n hn)
 ·exact EU (P:=fun s=>Xq (s++CV n)=true) cO ((by decide: ∀n,n<5→ ∀i,i<lsD.length→Xq (lsD.getD i []++CV n)=true) n hn)
 ·exact EU (P:=fun s=>Xq s=true) cO (by decide: ∀i,i<lsE.length→Xq (lsE.getD i [])=true)
 ·exact(by decide: ∀n,n<5→ ∀m,m<9→Xq ((([114,101,97,100,32]++CV n)++ [32])++CV m)=true) n hn m hm
 ·exact EU (P:=fun s=>Xq s=true) cO (by decide: ∀i,i<lsF.length→Xq (lsF.getD i [])=true)
 ·decide
 ·exact EU (P:=fun s=>Xq s=true) cO (by decide: ∀i,i<lsG.length→Xq (lsG.getD i [])=true)
theorem agT{l:List UInt8}(h:Xq l=true):auT (dA 32 l)=true∧Fv l∧l.length≤30:=by
 unfold Xq at h;simp only[an,decide_eq_true_eq]at h;refine⟨h.1.1,fun b hb=> ?_,h.2⟩;have:=List.all_eq_true.1 h.1.2 b hb;simpa using this
theorem agU:Fv (Rx c)∧(Rx c).length≤30∧Rx c≠ []∧(∃t,Rx c=110::t)∧ ∃rows s p seed:Nat,(8≤rows∧rows≤16)∧(2≤s∧s≤3)∧(1≤p∧p≤2)∧seed<99∧(iM zW (dA 32 (Rx c))).1=Wb (rows:Int) s p (seed:Int):=by
 have h1:=nK c (n:=9) cO;have h2:=nK (dn c 9) (n:=2) cO;have h3:=nK (dn (dn c 9) 2) (n:=2) cO;have h4:=nK (dn (dn (dn c 9) 2) 2) (n:=99) cO;obtain⟨a,ha⟩: ∃a:Nat,8+gV c 9=(a:Int):=⟨(8+gV c 9).toNat,aJ⟩;obtain⟨s,hs⟩: ∃a:Nat,2+gV (dn c 9) 2=(a:Int):=⟨(2+gV (dn c 9) 2).toNat,aJ⟩;obtain⟨p,hp⟩: ∃a:Nat,1+gV (dn (dn c 9) 2) 2=(a:Int):=⟨(1+gV (dn (dn c 9) 2) 2).toNat,aJ⟩;obtain⟨d,hd⟩: ∃a:Nat,gV (dn (dn (dn c 9) 2) 2) 99=(a:Int):=⟨(gV (dn (dn (dn c 9) 2) 2) 99).toNat,aJ⟩;have e:Rx c= [110,101,119]++32::(CV a++32::(CV s++32::(CV p++32::CV d))):=by
  unfold Rx;rw[ha,hs,hp,hd,Ry aJ,Ry aJ,Ry aJ,Ry aJ];simp only[bU,fE,eM]
 obtain⟨a1,a2,a3,a4⟩:=W0 (n:=a) aJ;obtain⟨s1,s2,s3,s4⟩:=W0 (n:=s) aJ;obtain⟨p1,p2,p3,p4⟩:=W0 (n:=p) aJ;obtain⟨d1,d2,d3,d4⟩:=W0 (n:=d) aJ;refine⟨?_,?_,?_,?_,a,s,p,d,aJ,aJ,aJ,aJ,?_⟩
 ·rw[e];intro b hb;simp only[bg,bh]at hb;rcases hb with(rfl|rfl|rfl|hb)|rfl|hb|rfl|hb|rfl|hb|rfl|hb
  ·decide
  ·decide
  ·decide
  ·cases hb
  ·decide
  ·exact(a2 b hb).1
  ·decide
  ·exact(s2 b hb).1
  ·decide
  ·exact(p2 b hb).1
  ·decide
  ·exact(d2 b hb).1
 ·rw[e];simp only[aQ,bp,dh];omega
 ·rw[e];simp
 ·rw[e];exact⟨_,rfl⟩
 ·rw[e,Kj _ _ cO,Kj _ _ fun b hb=>(a2 b hb).2,Kj _ _ fun b hb=>(s2 b hb).2,Kj _ _ fun b hb=>(p2 b hb).2,agS _ fun b hb=>(d2 b hb).2];show(if([110,101,119]:List UInt8)= [110,101,119]then Ra zW (CV a) (CV s) (CV p) (CV d)else(zW,none)).1=_
  rw[if_pos rfl];unfold Ra;rw[a3,s3,p3,d3];show Xl (eP (CV a)) (eP (CV s)) (eP (CV p)) (eP (CV d))=_
  rw[a4,s4,p4,d4];unfold Xl;rw[show((inr (a:Int) 1 64&&dR (s:Int))&&inr (p:Int) 1 4)=true by
   simp only[dR,an,dK];omega]
  rfl
theorem Mg{m:Int}(h:0<m):(AF c m:Int)≤m∧1≤AF c m∧(AF c m:Int)=1+gV (OE c) m:=by
 have:=nK (OE c) h;unfold AF;omega
theorem adG: ∀{L:List (List UInt8)},(∀l,l∈L→l.length≤30)→(zC L).length≤31*L.length
 | [],_=>aY _
 |l::L,h=>by
  have ih:=adG fun y hy=>h y (aE _ hy);have:=h l (bA ..);show((l++ [10])++zC L).length≤_
  simp only[aQ,bp,dh];omega
theorem W2{c:xj}{l:List UInt8}(h:l∈HQ c k):Fv l∧l.length≤30:=by
 obtain⟨i,_,rfl⟩:=List.mem_map.1 h;exact(agT (W1 _)).2
theorem agV{c:xj}{m:Int}{l:List UInt8}(h:l∈HR c m k):Fv l∧l.length≤30:=by
 rcases bh.1 h with rfl|h
 ·exact⟨(agU c).1,(agU c).2.1⟩
 ·exact W2 h
theorem W3(k:Nat):(HQ c k).length=k:=by unfold HQ;rw[List.length_map,List.length_range]
theorem OF(m:Int)(k:Nat):(HR c m k).length=k+1:=by unfold HR;rw[bp,W3]
theorem adH(m:Int)(k:Nat):(zC (HR c m k)).length≤31*(k+1):=by
 have:=adG (L:=HR c m k) fun l h=>(agV h).2
 rwa [OF]at this
theorem agW(k:Nat):(zC (HQ c k)).length≤31*k:=by
 have:=adG (L:=HQ c k) fun l h=>(W2 h).2
 rwa [W3]at this
theorem ajk(k:Nat):(bG (zC (HQ c k))++bG (Fw (Mf c k)))++bG [10]=bG (zC (HQ c (k+1))):=by
 rw[jf,jf,aaZ,agR]
def SO:xj:=Mf (dn (OE (jQ l)) 12) (AF (jQ l) 12)
def scK:Nat:=(1+gV (SO l) 5).toNat
def wV:List UInt8:=zC (HR (jQ l) 12 (AF (jQ l) 12))
def scB:List UInt8:=zC (HQ (dn (SO l) 5) (scK l))
theorem adI:scK l≤5∧(scK l:Int)=1+gV (SO l) 5:=by
 have:=nK (SO l) (n:=5) cO;unfold scK;omega
theorem W4:(wV l).length≤403:=by
 have:=adH (jQ l) 12 (AF (jQ l) 12);have:=(Mg (jQ l) (m:=12) cO).1;unfold wV;omega
theorem apv:(scB l).length≤155:=by
 have:=agW (dn (SO l) 5) (scK l);have:=(adI l).1;unfold scB;omega
def qtL:Nat→List UInt8
 |0=> []
 |k+1=>qtL k++ [113,117,105,101,116,10]
theorem W5: ∀k,(qtL k).length=6*k
 |0=>rfl
 |k+1=>by rw[qtL,aQ,W5 k];show _+6=_;omega
def l80:List Int:= [80,81,82]
def drQ:Int:=l80.getD (gV (dn (jQ l) 40) 3).toNat (aO .int)
theorem axh:80≤drQ l∧drQ l≤82:=by
 have:=nK (dn (jQ l) 40) (n:=3) cO;have h:(gV (dn (jQ l) 40) 3).toNat<3:=by omega
 unfold drQ;have key: ∀i,i<3→80≤l80.getD i (aO .int)∧l80.getD i (aO .int)≤82:=by decide
 exact key _ h
def Uo:xj:=dn (jQ l) 40
def RS:Int:=6+Sg l 20
def drL:List UInt8:=zC (HR (Uo l) (RS l) (AF (Uo l) (RS l)))
def drR:List UInt8:=if gV (jQ l) 40=0 then qtL (drQ l).toNat else if gV (Mf (dn (OE (Uo l)) (RS l)) (AF (Uo l) (RS l))) 8=0 then drL l++ [119,111,114,108,100]else drL l
theorem axi{l:List UInt8}(h:l.length≤1048576):1≤RS l∧RS l≤26:=by
 have:=azb l h (m:=20) cO;unfold RS;omega
theorem apy{l:List UInt8}(h:l.length≤1048576):(drL l).length≤900:=by
 have:=adH (Uo l) (RS l) (AF (Uo l) (RS l));have h2:=axi h;have:=(Mg (Uo l) (m:=RS l) aJ).1;unfold drL;omega
theorem aAg{l:List UInt8}(h:l.length≤1048576):(drR l).length≤1000:=by
 have h1:=apy h;have h2:=axh l;unfold drR;split
 ·rw[W5];omega
 ·split
  ·rw[aQ];show _+5≤_;omega
  ·omega
section
variable [HF]
theorem ajm(U9: ∀seed,seed<99→chS 364 seed=true)(c0 c:xj)(K:Nat): ∃rows p seed:Nat,(8≤rows∧rows≤16)∧(1≤p∧p≤2)∧seed<99∧ ∀m,m≤11→m≤K→RR seed rows (2*p) m (nO (Rx c0::HQ c K) (m+1)).1:=by
 obtain⟨_,_,hne,_,rows,s,p,seed,hr,hs,hp,hd,hw⟩:=agU c0;refine⟨rows,p,seed,hr,hp,hd,?_⟩;intro m;induction m with
 |zero=>
  intro _ _;have hg:(Rx c0::HQ c K).getD 0 []=Rx c0:=rfl;rw[pH (L:=Rx c0::HQ c K) (k:=0) (by rw[hg];exact hne),hg];show RR seed rows (2*p) 0 (iM zW (dA 32 (Rx c0))).1
  rw[hw];exact RR.new hr aJ aJ
 |succ m ih=>
  intro hm hK;have ih:=ih aJ aJ;have hg:(Rx c0::HQ c K).getD (m+1) []=Fw (Mf c m):=by
   show(HQ c K).getD m []=_
   unfold HQ;exact jz _ _ _ _ aJ
  by_cases h:(Rx c0::HQ c K).getD (m+1) []= []
  ·rw[qK h];exact ih.mono
  ·rw[pH h,hg];have hJ:=(HD (Rx c0::HQ c K) (m+1) aJ).1;exact ih.line (U9 seed hd) hr aJ aJ aJ hJ aJ (agT (W1 _)).1
theorem aAh(U9: ∀seed,seed<99→chS 364 seed=true)(c0 c:xj){K:Nat}(hK:K≤12):t10 (nO (Rx c0::HQ c K) (K+1)).2=neN (Rx c0::HQ c K):=by
 obtain⟨rows,p,seed,_,_,_,h⟩:=ajm U9 c0 c K;have hl:(Rx c0::HQ c K).length=K+1:=by unfold HQ;simp
 have:=agM (L:=Rx c0::HQ c K) (fun k hk _=>aHF (apo (by
  match k with
  |0=>exact(show RR 0 0 0 0 zW from bP rfl).ajh
  |k+1=>exact(h k aJ aJ).ajh) _)) (K+1) aJ
 rw[this,aD aJ]
end
def Up(s:List UInt8):Nat→Nat
 |0=>0
 |k+1=>Up s k+(if s.getD (k+1) 0=10∧s.getD k 0≠10 then 1 else 0)
theorem Uq(p b:UInt8)(l:List UInt8): ∀k,Up (p::b::l) (k+1)=(if b=10∧p≠10 then 1 else 0)+Up (b::l) k
 |0=>by
  show 0+_=_+0
  rw[dB,Nat.add_zero];rfl
 |k+1=>by
  rw[Up,Uq p b l k,Up,Nat.add_assoc];rfl
theorem agX: ∀(l:List UInt8) (p:UInt8),Up (p::l) l.length=e10 p l
 | [],_=>rfl
 |b::l,p=>by
  rw[bp,Uq,agX l b];rfl
theorem apz(s:List UInt8): ∀k,Up s k≤k
 |0=>aS 0
 |k+1=>by
  have:=apz s k;rw[Up];split<;>omega
def Xr(s:List UInt8)(k:Nat):Nat:=c10 (s.take k)
theorem aa0(h:k<s.length):Xr s (k+1)=Xr s k+(if s.getD k 0=10 then 1 else 0):=by
 unfold Xr;rw[cD s k 0 h,agK];congr 1;unfold c10;by_cases e:s.getD k 0=10
 ·rw[if_pos e,e];rfl
 ·rw[if_neg e,List.filter_cons_of_neg (by rw[beq_iff_eq];exact e)];rfl
theorem aAi(s:List UInt8)(k:Nat):Xr s k≤k:=by
 unfold Xr c10;exact cB (List.length_filter_le _ _) (List.length_take_le _ _)
def xL:List UInt8:=(runM (wV l)).data.toList
theorem agY:runM (wV l)=bG (xL l):=(Q6 (runM (wV l))).symm
theorem Mh: ∀y,y∈HR (jQ l) 12 (AF (jQ l) 12)→Fv y:=fun _ hy=>(agV hy).1
theorem aa1: ∃v,wV l=110::v:=by
 obtain⟨_,_,_,⟨u,hu⟩,_⟩:=agU (jQ l);unfold wV HR zC;rw[List.flatMap_cons,hu];exact⟨_,rfl⟩
theorem agZ:eI (wV l)=HR (jQ l) 12 (AF (jQ l) 12):=by
 unfold wV;exact adF (Mh l)
theorem apA: ∃t,runM (wV l++scB l)=bG (xL l++t):=by
 have hk:=Mg (jQ l) (m:=12) cO;have hK:=adI l;have hsz:=W4 l;have aHG:=apv l;obtain⟨t,ht⟩:=apj (A:=HR (jQ l) 12 (AF (jQ l) 12)) (B:=HQ (dn (SO l) 5) (scK l)) (fun y hy=>by
  rcases bg.1 hy with hy|hy
  ·exact Mh l y hy
  ·exact(W2 hy).1) (by
   rw[WY,aQ];unfold wV at hsz;unfold scB at aHG;omega) (by rw[aQ,W3,OF];omega)
 refine⟨t.data.toList,?_⟩;have e:runM (wV l++scB l)=runM (wV l)++t:=ht;rw[e, ←jf, ←agY];exact congrArg (fun z=>runM (wV l)++z) (Q6 t).symm
theorem ajn:Up (wV l) ((wV l).length-1)=neN (HR (jQ l) 12 (AF (jQ l) 12)):=by
 have e3:e10 10 (wV l)=neN (HR (jQ l) 12 (AF (jQ l) 12)):=by
  unfold wV;exact apl _ (Mh l)
 obtain⟨v,hv⟩:=aa1 l;rw[←e3,hv,e10,if_neg cO,dB,bp,Nat.add_sub_cancel];exact agX v 110
section
variable [HF]
theorem aa2(U9: ∀seed,seed<99→chS 364 seed=true)(l:List UInt8):Xr (xL l) (xL l).length=neN (HR (jQ l) 12 (AF (jQ l) 12)):=by
 have hk:=Mg (jQ l) (m:=12) cO;have hsz:=W4 l;have hL:=agZ l;have hlen:=OF (jQ l) 12 (AF (jQ l) 12);have e4:runM (wV l)=(nO (HR (jQ l) 12 (AF (jQ l) 12)) (AF (jQ l) 12+1)).2:=by
  rw[EJ (s:=wV l) (by rw[hL];omega),hL,hlen]
 unfold Xr xL;rw[aD (aS _),e4];exact aAh U9 (jQ l) (dn (OE (jQ l)) 12) (K:=AF (jQ l) 12) aJ
end
theorem Ur(b:UInt8):((b.toNat:Nat):Int)=10↔b=10:=by
 constructor
 ·intro h;have:b.toNat=10:=by omega
  exact UInt8.toNat_inj.1 this
 ·intro h;rw[h];rfl
theorem aFh{i j:Int}(hi:i.toNat=k+1)(hj:j.toNat=k)(h:(((s.getD i.toNat 0).toNat:Nat):Int)=10∧ ¬(((s.getD j.toNat 0).toNat:Nat):Int)=10):Up s (k+1)=Up s k+1:=by
 rw[hi,hj,Ur,Ur]at h;rw[Up,if_pos h]
theorem aFi{i j:Int}(hi:i.toNat=k+1)(hj:j.toNat=k)(h: ¬(((s.getD i.toNat 0).toNat:Nat):Int)=10∨(((s.getD j.toNat 0).toNat:Nat):Int)=10):Up s (k+1)=Up s k:=by
 rw[hi,hj,Ur,Ur]at h;rw[Up,if_neg (fun q=>h.elim (fun z=>z q.1) (fun z=>q.2 z))];rfl
theorem aFj(hk:k<s.length)(h:(((s.getD k 0).toNat:Nat):Int)=10):Xr s (k+1)=Xr s k+1:=by
 rw[Ur]at h;rw[aa0 hk,if_pos h]
theorem aFk(hk:k<s.length)(h: ¬(((s.getD k 0).toNat:Nat):Int)=10):Xr s (k+1)=Xr s k:=by
 rw[Ur]at h;rw[aa0 hk,if_neg h];rfl
theorem aFl:(xL l).length≤2000000000:=by
 have hk:=Mg (jQ l) (m:=12) cO;have hL:=agZ l;have hlen:=OF (jQ l) 12 (AF (jQ l) 12);have hsz:=W4 l;have e4:runM (wV l)=(nO (HR (jQ l) 12 (AF (jQ l) 12)) (AF (jQ l) 12+1)).2:=by
  rw[EJ (s:=wV l) (by rw[hL];omega),hL,hlen]
 have h:=(HD (HR (jQ l) 12 (AF (jQ l) 12)) (AF (jQ l) 12+1) aJ).2;rw[←e4,agY,cZ]at h;unfold Ey at h;omega
theorem aFm{x t:List UInt8}{p q:Nat}(h:p=q):(if(if decide ((((bG (x++t)).size:Nat):Int)≥(((bG x).size:Nat):Int))=true then((bG (x++t)).extract (cX 0) (((bG x).size:Nat):Int).toNat).toList==(bG x).toList else false)=true then((p:Nat):Int)==((q:Nat):Int)else false)=true:=by
 have e:(bG (x++t)).extract (cX 0) (((bG x).size:Nat):Int).toNat=bG x:=by
  have h1:=aof (x++t) 0 x.length;rw[List.drop_zero,Nat.sub_zero,List.take_left' rfl]at h1;exact ByteArray.ext (Array.ext' h1)
 rw[e,decide_eq_true (show(((bG (x++t)).size:Nat):Int)≥(((bG x).size:Nat):Int)by rw[cZ,cZ,aQ];omega),if_pos rfl,if_pos (beq_self_eq_true _),h];exact beq_self_eq_true _
theorem auV:1≤(wV l).length:=by
 obtain⟨v,hv⟩:=aa1 l;rw[hv,bp];omega
end
end Go.Proofs.YtaalpcnbbldlaaaGreatDoor.G
