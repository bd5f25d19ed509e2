/- Steps. -/
import Derived.Test.YtaalpcnbbldlaaaGreatDoorR10
open Bool renaming and_eq_true→an,and_false→ke,true_and→dj
open List renaming any_eq_true→fF,drop_succ_cons→lE,length_map→bt,mem_append→bg,mem_cons_of_mem→aE,mem_singleton→aV,take_left'→sE,take_succ_cons→jd
open Nat renaming add_le_add→Gu,le_refl→aS,zero_le→aY
namespace Go.Proofs.YtaalpcnbbldlaaaGreatDoor.G
set_option linter.all false
open Go.RowKit L D
section
variable{key:Nat}
def Gx:Nat→List UInt8
 |0=> [97]
 |1=> [98,99]
 |_=> [104,101,108,108,111]
theorem aHA(t:Nat):jY (Gx t)=Md t:=by
 match t with
 |0=>rfl
 |1=>rfl
 |_+2=>rfl
theorem apb(t:Nat):(Gx t).length≤14:=by unfold Gx;split<;>decide
def SL(seed q:Nat)(ro:Nat→Option (Nat×Nat))(i:Nat):List UInt8:=match ro i with|some p=>lJ (rB (Kp (seed:Int) i) (uF i)) (p.1:Int) ⟨1,Gx p.2⟩|none=>cover (kh (sOf (seed:Int) i) [(q:Int)])
def Me(rows seed q:Nat)(ro:Nat→Option (Nat×Nat))(i:Nat):Int:=match ro i with|some _=>jK (Kp (seed:Int) i) (q:Int) (uF i) (rows:Int)|none=>Co (sOf (seed:Int) i) (q:Int) (rows:Int)
def F9(rows seed q:Nat)(ro:Nat→Option (Nat×Nat))(j:Nat):Nat→List UInt8
 |0=>VD
 |n+1=>if(Me rows seed q ro n).toNat=j then iA (F9 rows seed q ro j n) (SL seed q ro n)else F9 rows seed q ro j n
def Rv(ro:Nat→Option (Nat×Nat)):Nat→Nat
 |0=>0
 |n+1=>(match ro n with|some p=>p.1+1|none=>0)+Rv ro n
theorem agE{ro:Nat→Option (Nat×Nat)}: ∀(n i:Nat) (p:Nat×Nat),i<n→ro i=some p→p.1+1≤Rv ro n
 |0,i,_,h,_=>absurd h (Nat.not_lt_zero i)
 |n+1,i,p,h,e=>by
  rw[Rv];by_cases q:i=n
  ·subst q;rw[e];exact Nat.le_add_right ..
  ·have:=agE n i p aJ e;omega
section
variable [HF]
theorem aw6{s:Nat}{m:List UInt8}(hk:jZ (key:Int)=true)(hs:s≤1000)(hm:m.length≤14):qX (key:Int) (s:Int) ⟨1,m⟩=true∧jY (lJ (key:Int) (s:Int) ⟨1,m⟩)=seS key s (jY m):=by
 have hso:qX (key:Int) (s:Int) ⟨1,m⟩=true:=by
  simp only[qX,hk,pV,dj,an,dK,decide_eq_true_eq];omega
 refine⟨hso,?_⟩;have hc:sr (key:Int) (s:Int)=((SK (vH key [67,s]):Nat):Int):=by
  unfold sr;rw[show kh (key:Int) [67,(s:Int)]=((vH key [67,s]:Nat):Int)from NR key [67,s],aoW]
 have hp:jY (iR (key:Int) (s:Int) ⟨1,m⟩)=(1::(jY m).length::jY m)++(nY (vH key [61,s]) 18 0).drop (jY m).length:=by
  unfold iR;rw[show kh (key:Int) [61,(s:Int)]=((vH key [61,s]:Nat):Int)from NR key [61,s],Ro,Ro,AE];have e:jY ((stream ((vH key [61,s]:Nat):Int) 18).drop m.length)=(nY (vH key [61,s]) 18 0).drop m.length:=by
   rw[←aaI];unfold jY;rw[List.map_drop]
  show jY [b8 1,b8 (m.length:Int)]++jY m++jY ((stream ((vH key [61,s]:Nat):Int) 18).drop m.length)=_
  rw[e];have h1:(b8 1).toNat=1:=by decide
  have h2:(b8 (m.length:Int)).toNat=m.length:=by rw[auo];omega
  show([(b8 1).toNat,(b8 (m.length:Int)).toNat]++jY m)++_=_
  rw[h1,h2];rfl
 rw[lJ,if_pos hso,Ro,awS,az1,hc,aE4,hp];rfl
theorem aw7{seed q:Nat}{ro:Nat→Option (Nat×Nat)}{i:Nat}(hs: ∀p,ro i=some p→p.1≤1000):(SL seed q ro i).length=24∧c5 (jY (SL seed q ro i))=(match ro i with|some p=>c5 (seS (dq5 seed i) p.1 (Md p.2))|none=>cvf seed q i):=by
 unfold SL;cases h:ro i with
 |none=>
  refine⟨jV _ _,?_⟩;show c5 (jY (cover (kh (sOf (seed:Int) i) [(q:Int)])))=cvf seed q i
  rw[awQ,show kh ((sN seed i:Nat):Int) [(q:Int)]=((vH (sN seed i) [q]:Nat):Int)from NR (sN seed i) [q],aE3];exact(ao5 _ _).symm
 |some p=>
  have hk:=VJ ((kN seed i:Nat):Int) ((ai7 i:Nat):Int);rw[aun]at hk;obtain⟨h1,h2⟩:=aw6 (m:=Gx p.2) hk (hs p h) (apb _);show(lJ (rB (Kp (seed:Int) i) (uF i)) (p.1:Int) ⟨1,Gx p.2⟩).length=24∧c5 (jY (lJ (rB (Kp (seed:Int) i) (uF i)) (p.1:Int) ⟨1,Gx p.2⟩))=c5 (seS (dq5 seed i) p.1 (Md p.2))
  rw[aoX,aoY,aun];exact⟨DN h1,by rw[h2,aHA];rfl⟩
theorem WW(l:List UInt8):byB (jY l):=fun b hb=>by
 obtain⟨x,_,rfl⟩:=List.mem_map.1 hb;exact x.toNat_lt
def kap(rows seed q:Nat)(ro:Nat→Option (Nat×Nat))(j n:Nat)(i:Nat):Bool:=decide (i<n)&&((ro i).isNone&&decide ((Me rows seed q ro i).toNat=j))
def wap(rows seed q:Nat)(ro:Nat→Option (Nat×Nat))(j n:Nat)(i:Nat):Option (Nat×C5):=if i<n∧(Me rows seed q ro i).toNat=j then(match ro i with|some p=>some (p.1,c5 (seS (dq5 seed i) p.1 (Md p.2)))|none=>none)else none
theorem aw8{rows seed q j:Nat}{ro:Nat→Option (Nat×Nat)}(n:Nat)(hs: ∀i,i<n→ ∀p,ro i=some p→p.1≤1000): ∀m,m≤n→(F9 rows seed q ro j m).length=24∧c5 (jY (F9 rows seed q ro j m))=Uj (kap rows seed q ro j n) (wap rows seed q ro j n) (cvf seed q) m
 |0,_=>⟨sV,rfl⟩
 |m+1,hm=>by
  obtain⟨i1,i2⟩:=aw8 (rows:=rows) (seed:=seed) (q:=q) (j:=j) n hs m aJ;obtain⟨c1,c2⟩:=aw7 (seed:=seed) (q:=q) (ro:=ro) (i:=m) (hs m aJ);rw[F9,Uj];by_cases hj:(Me rows seed q ro m).toNat=j
  ·rw[if_pos hj];refine⟨by rw[jg];omega,?_⟩;rw[awT aJ,az2 (by rw[AE,AE];omega) (WW _) (WW _),i2,c2];unfold kap wap;rw[decide_eq_true (show m<n by omega),decide_eq_true hj,if_pos (show m<n∧(Me rows seed q ro m).toNat=j from ⟨aJ,hj⟩)];cases ro m<;>rfl
  ·rw[if_neg hj];refine⟨i1,?_⟩;rw[i2];have e1:kap rows seed q ro j n m=false:=by unfold kap;rw[decide_eq_false hj,ke,ke]
   have e2:wap rows seed q ro j n m=none:=by unfold wap;rw[if_neg fun h=>hj h.2]
   rw[e1,e2];rfl
theorem agF{κ:Nat→Bool}{w:Nat→Option (Nat×C5)}{cv:Nat→C5}{n:Nat}(h: ∀i,n≤i→κ i=false∧w i=none): ∀m,Uj κ w cv (n+m)=Uj κ w cv n∧ck5 κ w (n+m)=ck5 κ w n
 |0=>⟨rfl,rfl⟩
 |m+1=>by
  obtain⟨i1,i2⟩:=agF (κ:=κ) (w:=w) (cv:=cv) h m;obtain⟨h1,h2⟩:=h (n+m) aJ;rw[←Nat.add_assoc,Uj,ck5,h1,h2,i1,i2];exact⟨rfl,Nat.zero_add _⟩
theorem apc{rows seed q j:Nat}{ro:Nat→Option (Nat×Nat)}(n:Nat): ∀m,m≤n→ck5 (kap rows seed q ro j n) (wap rows seed q ro j n) m≤Rv ro m
 |0,_=>aS _
 |m+1,hm=>by
  have ih:=apc (rows:=rows) (seed:=seed) (q:=q) (j:=j) (ro:=ro) n m aJ;rw[ck5,Rv];refine Gu ?_ ih;split
  ·exact aY _
  ·unfold wap;split
   ·exact aY _
   ·rename_i p hp;split at hp
    ·cases hr:ro m with
     |none=>rw[hr]at hp;cases hp
     |some v=>rw[hr]at hp;cases hp;exact aS _
    ·cases hp
theorem Ul{rows seed q j f:Nat}{ro:Nat→Option (Nat×Nat)}{n:Nat}(hl:(SL seed q ro f).length=24)(hf:(Me rows seed q ro f).toNat=j)(ha: ∀i,i<n→i≠f→(Me rows seed q ro i).toNat≠j): ∀m,m≤n→F9 rows seed q ro j m=if f<m then SL seed q ro f else VD
 |0,_=>rfl
 |m+1,hm=>by
  rw[F9,Ul hl hf ha m aJ];by_cases e:m=f
  ·subst e;rw[if_pos hf,if_neg (Nat.lt_irrefl _),if_pos (Nat.lt_succ_self _)];refine azj (by rw[jg,sV,hl];rfl) fun i=> ?_;rw[yl,Oo,UInt8.zero_xor]
  ·rw[if_neg (ha m aJ e)];by_cases h:f<m
   ·rw[if_pos h,if_pos aJ]
   ·rw[if_neg h,if_neg aJ]
theorem agG{c:Nat}{X:List UInt8}(hk:jZ (key:Int)=true)(hc:c≤16)(hl:X.length=24)(h:SR (key:Int) (c:Int) X=true):CT (Kk5 key) (c5 (jY X))=c:=by
 rw[aE5 hk aJ hl]at h;unfold azY at h;rw[ady _ _ _ _ (by rw[AE];omega)]at h;exact ao3 (by rw[AE];exact hl) (WW _) hc (Nat.eq_of_beq_eq_true h)
theorem apd{s:Nat}{m:List UInt8}(hk:jZ (key:Int)=true)(hs:s≤16)(hm:m.length≤14):SR (key:Int) (s:Int) (lJ (key:Int) (s:Int) ⟨1,m⟩)=true∧(lJ (key:Int) (s:Int) ⟨1,m⟩).length=24∧(vV (key:Int) (s:Int) (lJ (key:Int) (s:Int) ⟨1,m⟩)=true→(opP (key:Int) (s:Int) (lJ (key:Int) (s:Int) ⟨1,m⟩)).body=m):=by
 obtain⟨hso,_⟩:=aw6 (m:=m) hk (show s≤1000 by omega) hm;have hl:(iR (key:Int) (s:Int) ⟨1,m⟩).length=20:=aul hm;have e:lJ (key:Int) (s:Int) ⟨1,m⟩=oT (sr (key:Int) (s:Int)) (iR (key:Int) (s:Int) ⟨1,m⟩)++four (ql (key:Int) (s:Int) (oT (sr (key:Int) (s:Int)) (iR (key:Int) (s:Int) ⟨1,m⟩))):=by rw[lJ,if_pos hso]
 have hel:=jS (sr (key:Int) (s:Int)) (iR (key:Int) (s:Int) ⟨1,m⟩);have ht:(lJ (key:Int) (s:Int) ⟨1,m⟩).take 20=oT (sr (key:Int) (s:Int)) (iR (key:Int) (s:Int) ⟨1,m⟩):=by rw[e,sE aJ]
 have hd:(lJ (key:Int) (s:Int) ⟨1,m⟩).drop 20=four (ql (key:Int) (s:Int) (oT (sr (key:Int) (s:Int)) (iR (key:Int) (s:Int) ⟨1,m⟩))):=by rw[e,List.drop_left' aJ]
 have h24:=DN hso;have hp:RN (key:Int) (s:Int) (lJ (key:Int) (s:Int) ⟨1,m⟩)=iR (key:Int) (s:Int) ⟨1,m⟩:=by unfold RN;rw[ht,ai5]
 have h2:N9 (key:Int) (s:Int) (lJ (key:Int) (s:Int) ⟨1,m⟩)=m.length:=by
  unfold N9;rw[hp];show(b8 (m.length:Int)).toNat=_
  have:=vg (m.length:Int);omega
 refine⟨?_,h24,fun ho=> ?_⟩
 ·unfold SR;rw[hk,ht,hd,h24,beq_self_eq_true,show inr (s:Int) 0 1000000000000=true by rw[dK];omega];rfl
 ·rw[I4 ho];show opb _ _ _=m
  unfold opb;rw[hp,h2];unfold iR;show((b8 1::b8 (m.length:Int)::(m++_)).take (2+m.length)).drop 2=m
  rw[Nat.add_comm,jd,jd,lE,lE,List.drop_zero,sE rfl]
theorem ape{r:Nat}(h:8≤r∧r≤16):r ∣ 720720:=by
 have: ∀r,r<17→8≤r→r ∣ 720720:=by decide
 exact this r aJ h.1
theorem apf{Q seed rows q n f:Nat}{ro:Nat→Option (Nat×Nat)}(h:chS Q seed=true)(hq:q<Q)(hQ:Q≤100000)(hr:8≤rows∧rows≤16)(hn:n≤4)(hf:f<n)(hc:Rv ro n≤10-q/60){c:Nat}(hcc:c≤16)
  (ho:vV (rB (Kp (seed:Int) f) (uF f)) (c:Int) (F9 rows seed q ro (jK (Kp (seed:Int) f) (q:Int) (uF f) (rows:Int)).toNat n)=true): ∃t,(opP (rB (Kp (seed:Int) f) (uF f)) (c:Int) (F9 rows seed q ro (jK (Kp (seed:Int) f) (q:Int) (uF f) (rows:Int)).toNat n)).body=Gx t:=by
 have hk:=VJ ((kN seed f:Nat):Int) ((ai7 f:Nat):Int);rw[aun]at hk;have hkf:rB (Kp (seed:Int) f) (uF f)=((dq5 seed f:Nat):Int):=by rw[aoX,aoY,aun];rfl
 have hs: ∀i,i<n→ ∀p,ro i=some p→p.1<10:=fun i hi p hp=>by have:=agE n i p hi hp;omega
 have hmr: ∀i,jK (Kp (seed:Int) i) (q:Int) (uF i) (rows:Int)=((mhf seed q i % rows:Nat):Int):=fun i=>by rw[aoX,aoY,aE0 aJ aJ];rfl
 have hcr: ∀i,Co (sOf (seed:Int) i) (q:Int) (rows:Int)=((chf seed q i % rows:Nat):Int):=fun i=>by rw[awQ,aE1 aJ];rfl
 rw[hkf]at ho ⊢;rw[hmr f]at ho ⊢;rw[Int.toNat_natCast]at ho ⊢;generalize hj:mhf seed q f % rows=j at ho ⊢;obtain⟨l1,l2⟩:=aw8 (rows:=rows) (seed:=seed) (q:=q) (j:=j) (ro:=ro) n (fun i hi p hp=>by have:=hs i hi p hp;omega) n (aS n);have hA:SR ((dq5 seed f:Nat):Int) (c:Int) (F9 rows seed q ro j n)=true:=by
  unfold vV at ho;rw[an]at ho;exact ho.1
 have hv:=agG hk hcc l1 hA;obtain⟨m1,m2⟩:=agF (κ:=kap rows seed q ro j n) (w:=wap rows seed q ro j n) (cv:=cvf seed q) (n:=n) (fun i hi=>⟨by unfold kap;rw[decide_eq_false aJ];rfl,by unfold wap;rw[if_neg fun h=>by omega]⟩) (4-n);rw[show n+(4-n)=4 by omega]at m1 m2;have hck:=apc (rows:=rows) (seed:=seed) (q:=q) (j:=j) (ro:=ro) n n (aS n);have hrow: ∀i,(ro i=none→(Me rows seed q ro i).toNat=chf seed q i % rows)∧(∀p,ro i=some p→(Me rows seed q ro i).toNat=mhf seed q i % rows):=by
  intro i;unfold Me;constructor
  ·intro e;rw[e];show(Co _ _ _).toNat=_;rw[hcr];rfl
  ·intro p e;rw[e];show(jK _ _ _ _).toNat=_;rw[hmr];rfl
 by_cases h3:(∃i,i<4∧kap rows seed q ro j n i=true)∨wap rows seed q ro j n f=none∨ ∃i,i<4∧i≠f∧wap rows seed q ro j n i≠none
 ·have:=adE (κ:=kap rows seed q ro j n) (w:=wap rows seed q ro j n) (r:=rows) h (show f<4 by omega) hq hr.1 (ape hr) (fun i p hp=>by
   unfold wap at hp;split at hp
   ·rename_i hi;cases hro:ro i with
    |none=>rw[hro]at hp;cases hp
    |some v=>
     rw[hro]at hp;cases hp;show c5 (seS (dq5 seed i) v.1 (Md v.2))∈tK [] (tK [] (MLf seed) i) v.1
     rw[aFc aJ (hs i hi.1 v hro),ms_eq];match v.2 with
     |0=>simp
     |1=>simp
     |_+2=>exact aE _ (aE _ (aV.2 rfl))
   ·cases hp) aJ (fun i hi hk=>by
   unfold kap at hk;rw[an,an,decide_eq_true_eq,decide_eq_true_eq,Option.isNone_iff_eq_none]at hk;rw[←(hrow i).1 hk.2.1,hk.2.2,hj]) (fun i hi _ hw=>by
   unfold wap at hw;split at hw
   ·rename_i hi2;cases hro:ro i with
    |none=>rw[hro]at hw;exact absurd rfl hw
    |some v=>rw[←(hrow i).2 v hro,hi2.2,hj]
   ·exact absurd rfl hw) h3
  rw[m1, ←l2]at this;have hv:CT (kf5 seed f) (c5 (jY (F9 rows seed q ro j n)))=c:=hv;omega
 ·have h3a: ∀i,i<4→kap rows seed q ro j n i=false:=fun i hi=>by
   cases e:kap rows seed q ro j n i with
   |false=>rfl
   |true=>exact absurd (Or.inl ⟨i,hi,e⟩) h3
  have h3c: ∀i,i<4→i≠f→wap rows seed q ro j n i=none:=fun i hi e=>by
   cases e2:wap rows seed q ro j n i with
   |none=>rfl
   |some v=>exact absurd (Or.inr (Or.inr ⟨i,hi,e,by rw[e2];exact Option.some_ne_none v⟩)) h3
  cases hro:ro f with
  |none=>
   exfalso;apply h3;right;left;unfold wap;rw[hro];split<;>rfl
  |some p=>
   have hrf:=(hrow f).2 p hro;rw[hj]at hrf;have hal: ∀i,i<n→i≠f→(Me rows seed q ro i).toNat≠j:=by
    intro i hi e q2;cases hri:ro i with
    |none=>
     have:=h3a i aJ;unfold kap at this;rw[decide_eq_true hi,hri,decide_eq_true q2]at this;cases this
    |some v=>
     have:=h3c i aJ e;unfold wap at this;rw[if_pos ⟨hi,q2⟩,hri]at this;cases this
   have hcl:=(aw7 (seed:=seed) (q:=q) (ro:=ro) (i:=f) (fun p hp=>by have:=hs f hf p hp;omega)).1;have hX:=Ul hcl hrf hal n (aS n);rw[if_pos hf]at hX;have hce:SL seed q ro f=lJ ((dq5 seed f:Nat):Int) (p.1:Int) ⟨1,Gx p.2⟩:=by
    unfold SL;rw[hro, ←hkf]
   have aKc:=hs f hf p hro;obtain⟨s1,s2,s3⟩:=apd (m:=Gx p.2) (s:=p.1) hk aJ (apb _);have hv2:=agG hk aJ s2 s1;rw[hX,hce]at hv ho ⊢;have hcs:c=p.1:=hv.symm.trans hv2;subst hcs;exact⟨p.2,s3 ho⟩
end
end
theorem aaR{x:dF}(h:okW x=true)(hg:p7 x.bW (cF x) (eW (cF x)) (mV x) (cF x).length= []):aaF x:=by
 intro i hi j b;have hl:(eW (cF x)).length=x.aC.length:=by rw[show(eW (cF x)).length=(cF x).length from bt ..,mu h]
 have aHB:(rJ x x.ah.length i).id=(i:Int):=(T4 h hi).1;have hk:=Oj h hi (aS x.ah.length);have hp2:(eW (cF x)).getD i (aO .DB)=tJ (rJ x x.ah.length i):=by
  unfold eW;rw[getD_map tJ _ (aO .cH) (by rw[mu h];exact hi),Ok h hi]
 unfold p7 at hg;rw[List.flatMap_eq_nil_iff,mu h]at hg;have h1:=hg i (List.mem_range.2 hi);unfold asY at h1;have az7:M9 x.bW (cF x) (eW (cF x)) (mV x) i=false:=by
  cases hb:M9 x.bW (cF x) (eW (cF x)) (mV x) i with
  |false=>rfl
  |true=>rw[hb]at h1;cases h1
 unfold M9 at az7;rw[Ok h hi,hp2,aHB,Bool.or_eq_false_iff,Bool.not_eq_false']at az7;have h2:=az7.2;rw[D0 (k:=(mV x).length) (fun j hj=>ai4 h hi (getD_in _ hj)) (aS _),hk,dj]at h2;have h3:(tJ (rJ x x.ah.length i)).rows=(yc (rJ x x.ah.length i)).rows:=by
  cases hq:((tJ (rJ x x.ah.length i)).rows==(yc (rJ x x.ah.length i)).rows)with
  |true=>exact eq_of_beq hq
  |false=>rw[hq]at h2;exact absurd h2 cO
 have hsr:=(T4 h hi).2.1;have e:tJ (rJ x x.ah.length i)=l6 x.rows (rcs x i x.ah.length):=by
  have e2:yc (rJ x x.ah.length i)=l6 x.rows (rcs x i x.ah.length):=by
   unfold yc;rw[if_pos hk];show l6 (x.aC.getD i (aO .cH)).rows _=_
   rw[hsr];rfl
  rw[←e2];cases hp:tJ (rJ x x.ah.length i)with
  |mk r1=>
   cases hs:yc (rJ x x.ah.length i)with
   |mk r2=>rw[hp,hs]at h3;exact congrArg DB.mk h3
 rw[e];exact azX h hi j b
theorem ajf(y:dF):(testW y).ah=y.ah∧(testW y).aH=y.aH∧(testW y).rows=y.rows∧(testW y).round=y.round∧(testW y).seed=y.seed:=by
 cases ht:HV y with
 |false=>rw[QK ht];exact⟨rfl,rfl,rfl,rfl,rfl⟩
 |true=>rw[Fp ht];exact⟨rfl,rfl,rfl,rfl,rfl⟩
theorem ajg{x:dF}(h:okW x=true)(hr:x.round<99999)(hc:x.cancelled<9223372036854775807): ∃y,gG x=MR y∧okW y=true∧y.ah=x.ah∧y.rows=x.rows∧y.round=x.round+1∧(0<y.aH.rounds.length→ ∀i,i<y.aC.length→(y.aC.getD i (aO .cH)).behavior≠3)∧
  (y.aH.rounds=x.aH.rounds∨(aaF x∧y.aH.rounds=Oc x.aH x.round (jw (eW (cF x))))):=by
 have w:=RP.of h;have w1:=w.round;have hcl:=Hv h hr;generalize hg:p7 x.bW (cF x) (eW (cF x)) (mV x) (cF x).length=g;have e:gG x=MR (testW (eX x g (jw (eW (cF x))))):=by rw[Hj hcl,hg]
 have hok:okW (eX x g (jw (eW (cF x))))=true:=by
  refine TZ h hr hc fun q=> ?_;subst q;have hj:=(aoQ h (aaR h hg) (j:=0) (by have:=w.rows;omega) 0).1;exact⟨hj.1,by have:=hj.2;have:=w.rows;omega⟩
 have az8:(eX x g (jw (eW (cF x)))).ah=x.ah∧(eX x g (jw (eW (cF x)))).rows=x.rows∧(eX x g (jw (eW (cF x)))).round=x.round+1∧((eX x g (jw (eW (cF x)))).aH.rounds=x.aH.rounds∨(aaF x∧(eX x g (jw (eW (cF x)))).aH.rounds=Oc x.aH x.round (jw (eW (cF x))))):=by
  by_cases hz:g.length=0
  ·rw[QI hcl hz];exact⟨rfl,rfl,cY aJ,Or.inr ⟨aaR h (by rw[hg];exact List.eq_nil_of_length_eq_zero hz),rfl⟩⟩
  ·rw[QJ hcl hz];exact⟨rfl,rfl,cY aJ,Or.inl rfl⟩
 generalize eX x g (jw (eW (cF x)))=c at*;obtain⟨t1,t2,t3,t4,_⟩:=ajf c;obtain⟨f1,f2,f3,f4⟩:=az8;refine⟨testW c,e,ZD hok,t1.trans f1,t3.trans f2,t4.trans f3,fun hp=> ?_,by rw[t2];exact f4⟩;rw[t2]at hp;exact anR hok hp
theorem apg{y:dF}{r row s:Int}(h:okW y=true)(hb:0<y.aH.rounds.length→ ∀i,i<y.aC.length→(y.aC.getD i (aO .cH)).behavior≠3)(hh:nk y.aH.rounds r=true)(hr:0≤row∧row<y.rows):FJ y r row s=(l5 y.aH.rounds r).rows.getD row.toNat (aO (.sl .u8)):=by
 have hp:0<y.aH.rounds.length:=by
  cases hz:y.aH.rounds with
  |nil=>rw[hz]at hh;cases hh
  |cons a l=>simp
 exact(atD h (hb hp) hh hr).2
section
variable{i:Nat}{r:Int}
def GA(Q seed rows n:Nat)(a:bn):Prop:= ∃(q:Nat) (ro:Nat→Option (Nat×Nat)),a.round=(q:Int)∧q<Q∧Rv ro n≤10-q/60∧ ∀j,j<rows→a.db.rows.getD j (aO (.sl .u8))=F9 rows seed q ro j n
def txs(l:List (List UInt8)):Prop:= ∀b,b∈l→ ∃t,b=Gx t
structure CI(seed i:Nat)(c:kf):Prop where
 id:c.id=(i:Int)
 fr:c.gJ=((i^^^1:Nat):Int)
 key:c.key=Kp (seed:Int) i
 seed:c.seed=sOf (seed:Int) i
 sub:txs c.aT
 inb:txs c.inbox
def Um(l:List bR):Nat→Nat
 |0=>0
 |i+1=>Um l i+(l.getD i (aO .bR)).live.aT.length
structure IV(Q seed rows n k R:Nat)(x:dF):Prop where
 ok:okW x=true
 rws:x.rows=(rows:Int)
 nd:x.ah.length=n
 rd:x.round≤(R:Int)
 dv: ∀i,i<n→CI seed i (x.ah.getD i (aO .bR)).live∧CI seed i (x.ah.getD i (aO .bR)).saved
 sb:Um x.ah n≤k
 ar: ∀a,a∈x.aH.rounds→GA Q seed rows n a
theorem CI.dir{seed:Nat}{c:kf}(h:CI seed i c):fK c=uF i:=by unfold fK uF;rw[h.id,h.fr]
theorem Rw{l m:List bR}: ∀n,(∀i,i<n→(l.getD i (aO .bR)).live.aT.length≤(m.getD i (aO .bR)).live.aT.length)→Um l n≤Um m n
 |0,_=>aS _
 |n+1,h=>Gu (Rw n fun i hi=>h i aJ) (h n aJ)
theorem agH{l m:List bR}{c:Nat}: ∀n,(∀i,i<n→(l.getD i (aO .bR)).live.aT.length≤(m.getD i (aO .bR)).live.aT.length+(if i=c then 1 else 0))→Um l n≤Um m n+1∧(n≤c→Um l n≤Um m n)
 |0,_=>⟨aY _,fun _=>aS _⟩
 |n+1,h=>by
  obtain⟨h1,h2⟩:=agH n fun i hi=>h i aJ;have h3:=h n aJ;rw[Um,Um];by_cases e:n=c
  ·rw[if_pos e]at h3;have:=h2 aJ;exact⟨aJ,fun _=>by omega⟩
  ·rw[if_neg e]at h3;exact⟨aJ,fun q=>by have:=h2 aJ;omega⟩
theorem az9{l:List bn}(hh:nk l r=true): ∃a,a∈l∧a.round=r∧l5 l r=a.db:=by
 have hi:l.findIdx (Xh r)<l.length:=by
  rw[List.findIdx_lt_length];obtain⟨y,h1,h2⟩:=fF.1 hh;exact⟨y,h1,h2⟩
 have e:l5 l r=(l.getD (l.findIdx (Xh r)) (aO .bn)).db:=by
  rw[l5,if_pos hh];have hh2:l.any (Xh r)=true:=hh;rw[fidx,if_pos hh2];rfl
 refine⟨l.getD (l.findIdx (Xh r)) (aO .bn),getD_in _ hi,?_,e⟩;have:=List.findIdx_getElem (p:=Xh r) (w:=hi);rw[List.getD_eq_getElem?_getD,List.getElem?_eq_getElem hi];exact eq_of_beq this
def tix(b:List UInt8):Nat:=if b= [97]then 0 else if b= [98,99]then 1 else 2
theorem aAa(t:Nat):Gx (tix (Gx t))=Gx t:=by
 match t with
 |0=>rfl
 |1=>rfl
 |_+2=>rfl
def SN(x:dF)(i:Nat):Option (Nat×Nat):=if(rG x (i:Int)).sent<((rG x (i:Int)).aT.length:Int)then some ((rG x (i:Int)).sent.toNat,tix ((rG x (i:Int)).aT.getD (rG x (i:Int)).sent.toNat (aO (.sl .u8))))else none
section
variable{Q seed rows n k R:Nat}{x:dF}
theorem IV.wr(h:IV Q seed rows n k R x){q:Nat}(hq:x.round=(q:Int))(hi:i<n):mL (rG x (i:Int)) x.round x.rows=Me rows seed q (SN x) i∧jt (rG x (i:Int)) x.round x.rows=SL seed q (SN x) i:=by
 have hc:=VI h.ok (c:=(i:Int)) Xy;have hl:=VH h.ok (c:=(i:Int)) Xy;have hs:=rU hl;have hv:CI seed i (rG x (i:Int)):=(h.dv i hi).1;have hcl:((x.ah.getD i (aO .bR)).live)=rG x (i:Int):=rfl;unfold mL jt Me SL SN;rw[if_pos hc,if_pos hc];by_cases hb:(rG x (i:Int)).sent<((rG x (i:Int)).aT.length:Int)
 ·rw[if_pos hb,if_pos hb,if_pos hb,hv.dir,hv.key,hq,h.rws];refine⟨rfl,?_⟩;have hin:(rG x (i:Int)).aT.getD (rG x (i:Int)).sent.toNat (aO (.sl .u8))∈(rG x (i:Int)).aT:=getD_in _ aJ;obtain⟨t,ht⟩:=hv.sub _ hin;unfold rQ;rw[ht,hv.key,hv.dir];show lJ _ _ _=lJ (rB (Kp (seed:Int) i) (uF i)) (((rG x (i:Int)).sent.toNat:Nat):Int) ⟨1,Gx (tix (Gx t))⟩
  rw[aAa,Int.toNat_of_nonneg aJ]
 ·rw[if_neg hb,if_neg hb,if_neg hb,hv.seed,hq,h.rws];exact⟨rfl,rfl⟩
theorem IV.row(h:IV Q seed rows n k R x){q:Nat}(hq:x.round=(q:Int))(j:Nat):adv x j=F9 rows seed q (SN x) j n:=by
 have key: ∀m,m≤n→(List.range m).foldl (fun a (c:Nat)=>if(mL (rG x (c:Int)) x.round x.rows).toNat=j then iA a (jt (rG x (c:Int)) x.round x.rows)else a) VD=F9 rows seed q (SN x) j m:=by
  intro m;induction m with
  |zero=>intro _;rfl
  |succ m ih=>
   intro hm;obtain⟨e1,e2⟩:=h.wr hq (i:=m) aJ;rw[List.range_succ,List.foldl_append,ih aJ,F9];show(if(mL (rG x (m:Int)) x.round x.rows).toNat=j then _ else _)=_
   rw[e1,e2]
 unfold adv;rw[h.nd];exact key n (aS n)
theorem IV.cost(h:IV Q seed rows n k R x): ∀m,m≤n→Rv (SN x) m≤Um x.ah m
 |0,_=>aS _
 |m+1,hm=>by
  have ih:=h.cost m aJ;have hl:=rU (VH h.ok (c:=(m:Int)) Xy);have hcl:((x.ah.getD m (aO .bR)).live)=rG x (m:Int):=rfl;rw[Rv,Um,hcl];unfold SN;by_cases hb:(rG x (m:Int)).sent<((rG x (m:Int)).aT.length:Int)
  ·rw[if_pos hb];show(rG x (m:Int)).sent.toNat+1+Rv (SN x) m≤_
   omega
  ·rw[if_neg hb];show 0+Rv (SN x) m≤_
   omega
theorem CI.rd{c:kf}(h:CI seed i c){own other:List UInt8}(ho:tM c other=true→ ∃t,(opP (DX c) (c.inbox.length:Int) other).body=Gx t):CI seed i (lO c r own other):=by
 unfold lO;split
 ·refine⟨h.id,h.fr,h.key,h.seed,h.sub,?_⟩;show txs (if tM c other=true then _ else _)
  cases hg:tM c other with
  |false=>exact h.inb
  |true=>
   obtain⟨t,ht⟩:=ho hg;intro b hb;rcases bg.1 hb with hb|hb
   ·exact h.inb b hb
   ·rw[aV.1 hb];exact⟨t,ht⟩
 ·exact h
theorem CI.dev{d:bR}(h:CI seed i d.live∧CI seed i d.saved){own other:List UInt8}(ho:tM d.live other=true→ ∃t,(opP (DX d.live) (d.live.inbox.length:Int) other).body=Gx t):CI seed i (rdev d r own other).live∧CI seed i (rdev d r own other).saved:=by
 have hc:=h.1.rd (r:=r) (own:=own) ho;unfold rdev;split
 ·split
  ·exact⟨hc,hc⟩
  ·exact⟨hc,h.2⟩
 ·exact h
theorem aph(d:bR)(r:Int)(own other:List UInt8):(rdev d r own other).live.aT=d.live.aT:=by
 have hc:=(T0 d.live r own other).1;unfold rdev;split
 ·split
  ·exact hc
  ·exact hc
 ·rfl
variable [HF]
theorem IV.read{y:dF}(U9:chS Q seed=true)(hQ:Q≤100000)(hr8:8≤rows∧rows≤16)(hn:n≤4)(hev:n % 2=0)(hy:okW y=true)(hyr:y.rows=(rows:Int))(hbe:0<y.aH.rounds.length→ ∀i,i<y.aC.length→(y.aC.getD i (aO .cH)).behavior≠3)(har: ∀a,a∈y.aH.rounds→GA Q seed rows n a)(hi:i<n)(d0:bR)(h0:CI seed i d0.live): ∀(l:List Int) (d:bR),(∀r,r∈l→nk y.aH.rounds r=true)→CI seed i d.live∧CI seed i d.saved→(CI seed i (l.foldl (Ls y d0) d).live∧CI seed i (l.foldl (Ls y d0) d).saved)∧(l.foldl (Ls y d0) d).live.aT=d.live.aT
 | [],_,_,hd=>⟨hd,rfl⟩
 |r::l,d,hl,hd=>by
  rw[List.foldl_cons];have hh:=hl r (List.mem_cons_self ..);have hstep:CI seed i (Ls y d0 d r).live∧CI seed i (Ls y d0 d r).saved:=by
   refine CI.dev hd fun hg=> ?_;obtain⟨a,ha,aHE,hdb⟩:=az9 hh;obtain⟨q,ro,hq,hqQ,Tg,hro⟩:=har a ha;have hrq:r=(q:Int):=aHE.symm.trans hq;have hf:i^^^1<n:=Bh i n hi hev;have hi2:(i^^^1)^^^1=i:=by rw[Nat.xor_assoc,Nat.xor_self,Nat.xor_zero]
   have hk:Kp (seed:Int) i=Kp (seed:Int) (i^^^1):=(aoS aJ).symm;have hdi:1-uF i=uF (i^^^1):=by
    have:=aoT (d:=i^^^1) aJ
    rwa [hi2]at this
   have hm:=Qg (key:=Kp (seed:Int) (i^^^1)) (r:=(q:Int)) (d:=uF (i^^^1)) (n:=(rows:Int)) aJ;have hX:FJ y r (jK d0.live.key r (1-fK d0.live) y.rows) d0.live.seed=F9 rows seed q ro (jK (Kp (seed:Int) (i^^^1)) (q:Int) (uF (i^^^1)) (rows:Int)).toNat n:=by
    rw[h0.dir,hdi,h0.key,hk,hyr,hrq];rw[apg hy hbe (by rw[←hrq];exact hh) (by rw[hyr];exact hm),show l5 y.aH.rounds (q:Int)=a.db by rw[←hrq];exact hdb];exact hro _ aJ
   rw[hX]at hg ⊢;unfold tM at hg;simp only[an,decide_eq_true_eq]at hg;have hck:DX d.live=rB (Kp (seed:Int) (i^^^1)) (uF (i^^^1)):=by
    unfold DX;rw[hd.1.dir,hd.1.key,hdi,hk]
   rw[hck]at hg ⊢;exact apf U9 hqQ hQ hr8 hn hf Tg aJ hg.1.1
  obtain⟨i1,i2⟩:=IV.read U9 hQ hr8 hn hev hy hyr hbe har hi d0 h0 l (Ls y d0 d r) (fun q hq=>hl q (aE _ hq)) hstep;exact⟨i1,i2.trans (aph ..)⟩
theorem auK{a:tE}{d:DB}{y:bn}(h:y∈Oc a r d):y∈a.rounds∨y=⟨r,d⟩:=by
 unfold Oc at h;split at h
 ·have h2:y∈Cv a r d:=by
   split at h
   ·exact List.mem_of_mem_drop h
   ·exact h
  unfold Cv at h2;rcases bg.1 h2 with h3|h3
  ·exact Or.inl h3
  ·exact Or.inr (aV.1 h3)
 ·exact Or.inl h
theorem IV.round(h:IV Q seed rows n k R x)(U9:chS Q seed=true)(hQ:Q≤90000)(hr8:8≤rows∧rows≤16)(hn:n≤4)(hev:n % 2=0)(hk:k+R/60≤10)(hR:R<Q)(hc:x.cancelled<9223372036854775807):IV Q seed rows n k (R+1) (gG x):=by
 have w:=RP.of h.ok;have hrd:=h.rd;obtain⟨y,e,y1,y2,y3,y4,y5,y6⟩:=ajg h.ok aJ hc;have har: ∀a,a∈y.aH.rounds→GA Q seed rows n a:=by
  rcases y6 with y6| ⟨hp,y6⟩
  ·rw[y6];exact h.ar
  ·intro a ha;rw[y6]at ha;rcases auK ha with ha|rfl
   ·exact h.ar a ha
   ·have hq:x.round=((x.round.toNat:Nat):Int):=(Int.toNat_of_nonneg w.round.1).symm;refine⟨x.round.toNat,SN x,hq,aJ,?_,fun j hj=> ?_⟩
    ·have:=h.cost n (aS n);have:=h.sb;omega
    ·show(jw (eW (cF x))).rows.getD j (aO (.sl .u8))=_
     rw[row_eq h.ok hp (by rw[h.rws];omega)];exact h.row hq j
 have hyr:y.rows=(rows:Int):=y3.trans h.rws;have hD: ∀i,i<n→(gG x).ah.getD i (aO .bR)=rV y (x.ah.getD i (aO .bR)):=fun i hi=>by
  rw[e,Bv y1];show(y.ah.map _).getD i (aO .bR)=_
  rw[getD_map _ _ (aO .bR) (by rw[y2,h.nd];exact hi),y2]
 have hread: ∀i,i<n→(CI seed i (rV y (x.ah.getD i (aO .bR))).live∧CI seed i (rV y (x.ah.getD i (aO .bR))).saved)∧(rV y (x.ah.getD i (aO .bR))).live.aT=(x.ah.getD i (aO .bR)).live.aT:=fun i hi=>by
  unfold rV VP;exact IV.read U9 aJ hr8 hn hev y1 hyr y5 har hi _ (h.dv i hi).1 _ _ (fun r hr=>by
   obtain⟨_,a,ha,KF⟩:=QU hr;exact fF.2 ⟨a,ha,by unfold Xh;rw[KF];exact beq_self_eq_true r⟩) (h.dv i hi)
 have hz:(gG x)=MR y:=e;refine⟨by rw[hz];exact anu y1,by rw[hz,Bv y1];exact hyr,by rw[hz,Bv y1];show(List.map _ _).length=_;rw[bt,y2,h.nd],by rw[hz,Bv y1];show y.round≤_;omega,fun i hi=>by rw[hD i hi];exact(hread i hi).1,?_,by rw[hz,Bv y1];exact har⟩;refine Nat.le_trans (Rw n fun i hi=> ?_) h.sb;rw[hD i hi,(hread i hi).2];exact aS _
end
end
end Go.Proofs.YtaalpcnbbldlaaaGreatDoor.G
