/-
  The types of this program, the cursor's with them.
-/
import Derived.Test.YteodajeiagmekaaGreatM13
import Derived.Test.YteodajeiagmekaaGreatM14
namespace Go.Proofs.YteodajeiagmekaaGreat.G
set_option linter.all false
open Go.RowKit L D
section
theorem JD(l:List UInt8)(k:Nat)(h:k<l.length):(l.length:Int)::(l.take (k+1)).map (fun c=>(c.toNat:Int))=((l.length:Int)::(l.take k).map (fun c=>(c.toNat:Int)))++ [IntKind.i64.wrap ((l.getD k (au .u8)).toNat:Int)]:=by
 have:=(l.getD k (au .u8)).toNat_lt
 rw[bl (by omega),l9 (fun c:UInt8=>(c.toNat:Int)) l k (au .u8) h]
 rfl
end
section
theorem nV(s:Int)(l:List UInt8):(decr s l).length=l.length:=by simp[decr]
theorem JM(s:Int)(l:List UInt8)(k:Nat)(h:k<l.length):(decr s l).getD k (au .u8)=b8 ((l.getD k (au .u8)).toNat-kh s [(k:Int)]% 256):=eg _ _ k _ h
theorem PR(s:Int)(l:List UInt8)(k:Nat)(h:k<l.length):(decr s l).take (k+1)=(decr s l).take k++ [UInt8.ofNat (IntKind.u8.wrap ((IntKind.i64.wrap (IntKind.i64.wrap ((l.getD k (au .u8)).toNat:Int)-(kh s [(k:Int)]).tmod 256))% 256)).toNat]:=by
 refine BF _ k (au .u8) _ (by rw[nV];exact h) ?_
 rw[JM s l k h]
 refine yU ?_
 have:=dy s [(k:Int)]
 have hx:=(l.getD k (au .u8)).toNat_lt
 rw[dj this.1,bl (a:=((l.getD k (au .u8)).toNat:Int)) (by omega),bl (by omega)]
 omega
end
section
theorem kN{E R:Bool}(h:E=true)(he:E=R):R=true:=by rw[←he];exact h
theorem n8{E R:Bool}(h:E=false)(he:E=R):R=false:=by rw[←he];exact h
end
section
theorem Gt{l:List aO}(h:bX bp l≤1048576){i:Nat}{s:aO}(hs:l[i]? =some s):pU s:=by
 have h1:bX bI s.received≤1048576:=gF h hs
 refine⟨cI h1,fun r hr=> ?_⟩
 obtain⟨j,hj⟩:=List.mem_iff_getElem?.1 hr
 exact gF h1 hj
theorem Gu{x:aJ}(h:wB x):x.ah.length≤1048576:=cI h.1
theorem S5{x:aJ}(h:wB x):x.af.length≤1048576:=cI h.2.1
theorem Mx{l:List aA}{c:Int}{k:Nat}(h:k<l.length)(h1:(l.take k).any (QE c)=false)(h2:QE c (l.getD k (au .aA))=true):jv l c=true∧pV l c=(l.getD k (au .aA)).share:=by
 have ha:jv l c=true:=yR l (QE c) (au .aA) k h h2
 exact⟨ha,by rw[pV,if_pos ha,yV (au .aA) h h1 h2];rfl⟩
theorem CP{l:List aA}{c:Int}(h:l.any (QE c)=false):jv l c=false∧pV l c=⟨[]⟩:=⟨h,by rw[pV,jv,h];rfl⟩
theorem My{l:List aA}{c:Int}(h: ∀r,r∈l→bX List.length r.share.rows≤1048576):bX List.length (pV l c).rows≤1048576:=by
 unfold pV
 split
 ·rw[List.getD_eq_getElem?_getD]
  cases hq:l[(fidx (QE c) l).toNat]? with
  |none=>exact by decide
  |some r=>exact h r (List.mem_of_getElem? hq)
 ·exact by decide
theorem Mz{s:aO}{c:Int}{d:DB}(h:ju s c d=false):Kb s c d=s:=by rw[Kb,h];rfl
theorem Wv{s:aO}{c:Int}{k:Nat}(hb: ∀r,r∈s.received→r.client<c)(hk:k≤s.received.length)(h:(if decide ((k:Int)<(s.received.length:Int))=true then decide ((s.received.getD k (au .aA)).client<c)else false)=false):k=s.received.length:=by
 by_cases h1:k<s.received.length
 ·rw[if_pos (by simpa using h1)]at h
  have:=hb _ (getD_in (au .aA) h1)
  simp only[decide_eq_false_iff_not]at h
  omega
 ·omega
theorem ins_eq(l:List aA)(y:aA): []++List.drop (Int.toNat 0) (List.take ((l.length:Int)).toNat l)++ [y]++ []=l++ [y]:=by simp
theorem ab6{s:aO}{c:Int}{d:DB}(h:(if !cj s then true else !cj (kO s c d))=true):ju s c d=false:=by
 unfold ju
 cases h1:cj s<;>cases h2:cj (kO s c d)<;>simp_all
theorem ab7{s:aO}{c:Int}{d:DB}(h:(if !cj s then true else !cj (kO s c d))=false):ju s c d=true:=by
 unfold ju
 cases h1:cj s<;>cases h2:cj (kO s c d)<;>simp_all
theorem sn(l:List UInt8):(AF l).length=l.length+1:=by simp[AF]
theorem S6(l:List (List UInt8)): ∀k,((l.take k).flatMap AF).length≤bX List.length l:=by
 have key: ∀m:List (List UInt8),(m.flatMap AF).length=bX List.length m:=by
  intro m
  induction m with
  |nil=>rfl
  |cons x r ih=>rw[List.flatMap_cons,List.length_append,ih,sn];unfold bX;simp only[List.length_cons,List.map_cons,List.sum_cons];omega
 intro k
 rw[key]
 have h1:=dx l List.length k
 unfold bX
 have:(l.take k).length≤l.length:=List.length_take_le' _ _
 omega
theorem N9(l:List (List UInt8))(k:Nat)(h:k<l.length):(l.take (k+1)).flatMap AF=(l.take k).flatMap AF++AF (l.getD k (au (.sl .u8))):=by
 rw[aV l k (au (.sl .u8)) h,List.flatMap_append];simp
theorem S7{m s:Int}:(if kh m [173,s]>1 then kh m [173,s]else 1)=fU m s:=by
 have:=dy m [173,s]
 unfold fU CK
 split<;>split<;>omega
theorem AX(x:aJ)(c n:Nat):EC x c (n+1)=EC x c n++ [ZN (fU x.az (n:Int)) (n:Int) (c:Int) x.round ((bk x (c:Int)).getD n (au .DB))]:=by
 unfold EC
 rw[List.range_succ,List.flatMap_append];simp[ab4]
theorem AY(x:aJ)(n:Nat):Cg x (n+1)=Cg x n++EC x n x.ah.length:=by
 unfold Cg
 rw[List.range_succ,List.flatMap_append];simp
theorem zm(x:aJ)(c:Nat): ∀n,(EC x c n).length=n
 |0=>rfl
 |n+1=>by rw[AX,List.length_append,zm x c n];rfl
theorem uA(x:aJ): ∀n,(Cg x n).length=n*x.ah.length
 |0=>by simp[Cg]
 |n+1=>by rw[AY,List.length_append,uA x n,zm,Nat.add_mul];omega
def qO(x:aJ)(k i:Nat):List aO:=(vW x (k+1)).take i++(vW x k).drop i
theorem Kf{x:aJ}(h:okW x=true){k i:Nat}(hk:k<x.af.length)(hi:i≤x.ah.length):(qO x k i).length=x.ah.length:=by
 have h1:=kP h (k:=k) (by omega)
 have h2:=kP h (k:=k+1) (by omega)
 unfold qO
 rw[kr _ _ _ (by omega) (by omega),h1]
theorem Kg{x:aJ}(h:okW x=true){k i:Nat}(hk:k<x.af.length)(hi:i<x.ah.length):(qO x k i).getD i (au .aO)=(vW x k).getD i (au .aO):=by
 have h2:=kP h (k:=k+1) (by omega)
 exact kq _ _ _ _ (by omega)
theorem Gv{x:aJ}(h:okW x=true){k i:Nat}(hk:k<x.af.length)(hi:i<x.ah.length):(qO x k i).set i (Kb ((qO x k i).getD i (au .aO)) (k:Int) ((bk x (k:Int)).getD i (au .DB)))=qO x k (i+1):=by
 have h1:=kP h (k:=k) (by omega)
 have h2:=kP h (k:=k+1) (by omega)
 rw[Kg h hk hi]
 exact ud _ _ _ (au .aO) _ (by omega) (by omega) (Ke h hk hi)
theorem Kh{x:aJ}(h:okW x=true){k i:Nat}(hk:k<x.af.length)(hi:x.ah.length≤i):qO x k i=vW x (k+1):=by
 have h1:=kP h (k:=k) (by omega)
 have h2:=kP h (k:=k+1) (by omega)
 unfold qO
 rw[List.take_of_length_le (by omega),List.drop_of_length_le (by omega),List.append_nil]
theorem Ki{x:aJ}(h:okW x=true){k i:Nat}(hk:k<x.af.length)(hi:i<x.ah.length):below ((qO x k i).getD i (au .aO)) (k:Int)∧pU ((qO x k i).getD i (au .aO))∧bX List.length ((bk x (k:Int)).getD i (au .DB)).rows≤1048576:=by
 rw[Kg h hk hi]
 have c:=col h k (by omega)
 have hl:(bk x (k:Int)).length=x.ah.length:=eV h (by omega)
 exact⟨c.FB _ (getD_in _ (by rw[c.len];exact hi)),c.sml _ (getD_in _ (by rw[c.len];exact hi)),cZ (n9 h _ (getD_in _ (by omega)))⟩
end
section
theorem EG(l:List ay)(f:Int)(k:Nat)(h:k<l.length)(h2:f≤(l.getD k (au .ay)).round):fk (l.take (k+1)) f=fk (l.take k) f++ [(l.getD k (au .ay)).round]:=by
 unfold fk
 rw[aV l k (au .ay) h,List.filter_append,List.map_append]
 generalize l.getD k (au .ay)=r at h2 ⊢
 simp[List.filter_cons,h2]
theorem BL(l:List ay)(f:Int)(k:Nat)(h:k<l.length)(h2: ¬f≤(l.getD k (au .ay)).round):fk (l.take (k+1)) f=fk (l.take k) f:=by
 unfold fk
 rw[aV l k (au .ay) h,List.filter_append,List.map_append]
 generalize l.getD k (au .ay)=r at h2 ⊢
 simp[List.filter_cons,h2]
theorem xy(l:List ay)(f:Int):(fk l f).length≤l.length:=by
 unfold fk
 rw[List.length_map];exact List.length_filter_le _ _
theorem BM(l:List ay)(f:Int)(k:Nat):(fk (l.take k) f).length≤k:=by
 have h1:=xy (l.take k) f
 rw[List.length_take]at h1
 omega
end
section
theorem Ib{key c:Int}{cell:List UInt8}(h:Lv key c cell=true):(Fm key c cell).length=20∧cell.length=24:=by
 simp only[Lv,Bool.and_eq_true,decide_eq_true_eq]at h
 have:cell.length=24:=by omega
 refine⟨?_,this⟩
 unfold Fm
 rw[nV,List.length_take];omega
theorem mU{key c:Int}{cell:List UInt8}(h:mu key c cell=false):Lw key c cell=⟨0,[]⟩:=by rw[Lw,h];rfl
theorem Td(a b c d:UInt8)(n:Int)(h0:0≤n)(h1:n<4294967296):([a,b,c,d]==four n)=decide ((a.toNat:Int)+256*b.toNat+65536*c.toNat+16777216*d.toNat=n):=by
 have ha:=a.toNat_lt;have hb:=b.toNat_lt;have hc:=c.toNat_lt;have hd:=d.toNat_lt
 rw[Bool.eq_iff_iff,beq_iff_eq,decide_eq_true_eq]
 have key: ∀(x:UInt8) (m:Int),x=b8 m↔(x.toNat:Int)=m % 256:=by
  intro x m
  constructor
  ·rintro rfl;exact yT m
  ·intro h;apply HM;rw[yT];exact h
 unfold four
 simp only[List.cons.injEq,and_true,key]
 constructor
 ·rintro⟨q1,q2,q3,q4⟩;omega
 ·intro h;omega
theorem Te{l:List ay}{r:Int}{k:Nat}(h:k<l.length)(h1:(l.take k).any (MA r)=false)(h2:MA r (l.getD k (au .ay))=true):gw l r=true∧dn l r=(l.getD k (au .ay)).db:=by
 have ha:gw l r=true:=yR l (MA r) (au .ay) k h h2
 exact⟨ha,by rw[dn,if_pos ha,yV (au .ay) h h1 h2];rfl⟩
theorem CQ{l:List ay}{r:Int}(h:l.any (MA r)=false):gw l r=false∧dn l r=⟨[]⟩:=⟨h,by rw[dn,gw,h];rfl⟩
theorem Gx(rows:List (List UInt8))(v:List Int)(k:Nat):qP rows v (k+1)=Ww rows v (qP rows v k) k:=by
 unfold qP
 rw[List.range_succ,List.foldl_append];rfl
theorem uF{rows:List (List UInt8)}{v:List Int}{k:Nat}(h:k<v.length)(h1:v.getD k (au .int)=1):qP rows v (k+1)=cJ (qP rows v k) (rows.getD k (au (.sl .u8))):=by
 rw[Gx,Ww,if_pos]
 simp only[Bool.and_eq_true,decide_eq_true_eq,beq_iff_eq]
 exact⟨by omega,h1⟩
theorem nH{rows:List (List UInt8)}{v:List Int}{k:Nat}(h: ¬(k<v.length∧v.getD k (au .int)=1)):qP rows v (k+1)=qP rows v k:=by
 rw[Gx,Ww,if_neg]
 simp only[Bool.and_eq_true,decide_eq_true_eq,beq_iff_eq]
 intro h2
 exact h ⟨by omega,h2.2⟩
theorem Gy(rows:List (List UInt8))(v:List Int)(k:Nat)(h:v.length≤k): ∀n,qP rows v (k+n)=qP rows v k
 |0=>rfl
 |n+1=>by rw[←Nat.add_assoc,nH (by omega)];exact Gy rows v k h n
theorem Kk{rows:List (List UInt8)}{v:List Int}{k:Nat}(hk:k≤rows.length)(h:rows.length≤k∨v.length≤k):qP rows v k=xB rows v:=by
 unfold xB
 rcases h with h|h
 ·rw[show k=rows.length by omega]
 ·have:=Gy rows v k h (rows.length-k)
  rw[show k+(rows.length-k)=rows.length by omega]at this
  exact this.symm
theorem uG{rows:List (List UInt8)}(v:List Int)(h: ∀r,r∈rows→r.length≤1048576): ∀k,k≤rows.length→(qP rows v k).length≤1048576
 |0,_=>Nat.zero_le _
 |k+1,hk=>by
  have ih:=uG v h k (by omega)
  by_cases hh:k<v.length∧v.getD k (au .int)=1
  ·rw[uF hh.1 hh.2,cP]
   have:=h _ (getD_in (au (.sl .u8)) (show k<rows.length by omega))
   omega
  ·rw[nH hh];exact ih
theorem uH(d:DB)(v:List Int):(dM d v).length=24∨dM d v= []:=by
 unfold dM
 split
 ·left
  rename_i h
  simp only[Bool.and_eq_true]at h
  have key: ∀k,k≤d.rows.length→(qP d.rows v k).length≤24:=by
   intro k
   induction k with
   |zero=>intro _;exact Nat.zero_le _
   |succ k ih=>
    intro hk
    by_cases hh:k<v.length∧v.getD k (au .int)=1
    ·rw[uF hh.1 hh.2,cP,lV h.1 k (by omega)]
     have:=ih (by omega);omega
    ·rw[nH hh];exact ih (by omega)
  have:=key d.rows.length (Nat.le_refl _)
  unfold xB
  rw[cP,oX];omega
 ·right;rfl
def ga(key sv r:Int)(d:DB)(v:List Int):bQ:=if iV d v then ZQ key sv r v (dM d v)else noA
theorem A2(l:List (List UInt8))(k:Nat)(h:k<l.length):uE (l.take (k+1))=cJ (uE (l.take k)) (l.getD k (au (.sl .u8))):=by
 unfold uE
 rw[aV l k (au (.sl .u8)) h,List.foldl_append];rfl
theorem Kl{l:List (List UInt8)}(h: ∀a,a∈l→a.length≤1048576): ∀k,(uE (l.take k)).length≤1048576:=by
 intro k
 induction k with
 |zero=>exact Nat.zero_le _
 |succ k ih=>
  by_cases hk:k<l.length
  ·rw[A2 l k hk,cP]
   have:=h _ (getD_in (au (.sl .u8)) hk)
   omega
  ·rw[List.take_of_length_le (by omega)]at ih ⊢
   exact ih
theorem EI(x:aJ)(r:Int)(d:DB)(q:List (List Int))(n:Nat):mZ x r d q (n+1)=mZ x r d q n++ [Tc x r d q n]:=by
 unfold mZ
 rw[List.range_succ,List.map_append];rfl
theorem Gz(x:aJ)(r:Int)(d:DB)(q:List (List Int))(n:Nat):(mZ x r d q n).length=n:=by simp[mZ]
def pz(x:aJ)(r row s:Int):Bool:=gw x.ak.rounds r&&fL (sJ x r row s)
theorem MB{a b:ep}(h:sL a b):bS a=bS b:=by unfold bS;rw[h.1,h.2.1]
theorem P6(x:aJ)(d0:aL)(l:List Int)(k:Nat)(h:k<l.length):Kj x d0 (l.take (k+1))=zo x d0 (Kj x d0 (l.take k)) (l.getD k (au .int)):=by
 unfold Kj
 rw[aV l k (au .int) h,List.foldl_append];rfl
def jh(x:aJ)(k i:Nat):List aL:=(x.af.map (mz x)).take k++(Kj x (x.af.getD k (au .aL)) ((gP x (x.af.getD k (au .aL))).take i)::x.af.drop (k+1))
def P7(x:aJ)(k:Nat):List aL:=(x.af.map (mz x)).take k++x.af.drop k
theorem Tf(x:aJ)(k:Nat)(h:k<x.af.length):jh x k 0=P7 x k:=by
 unfold jh P7
 rw[List.take_zero,List.drop_eq_getElem_cons h,show x.af[k]=x.af.getD k (au .aL)by rw[List.getD_eq_getElem?_getD,List.getElem?_eq_getElem h];rfl];rfl
theorem zq(x:aJ)(k:Nat)(h:k<x.af.length):((x.af.map (mz x)).take k).length=k:=by
 rw[List.length_take,List.length_map];omega
theorem Oc(x:aJ)(k i:Nat)(h:k<x.af.length):(jh x k i).length=x.af.length:=by
 unfold jh
 rw[List.length_append,zq x k h,List.length_cons,List.length_drop];omega
theorem CS(x:aJ)(k i:Nat)(h:k<x.af.length):(jh x k i).getD k (au .aL)=Kj x (x.af.getD k (au .aL)) ((gP x (x.af.getD k (au .aL))).take i):=by
 unfold jh
 rw[List.getD_eq_getElem?_getD,List.getElem?_append_right (by rw[zq x k h];omega),zq x k h,Nat.sub_self];rfl
theorem Km(x:aJ)(k i:Nat)(h:k<x.af.length)(hi:i<(gP x (x.af.getD k (au .aL))).length):(jh x k i).set k (zo x (x.af.getD k (au .aL)) ((jh x k i).getD k (au .aL)) ((gP x (x.af.getD k (au .aL))).getD i (au .int)))=jh x k (i+1):=by
 rw[CS x k i h, ←P6 x _ _ i hi]
 unfold jh
 rw[List.set_append_right _ _ (by rw[zq x k h];omega),zq x k h,Nat.sub_self];rfl
theorem Od(x:aJ)(k i:Nat)(h:k<x.af.length)(hi:(gP x (x.af.getD k (au .aL))).length≤i):jh x k i=P7 x (k+1):=by
 unfold jh P7
 rw[List.take_of_length_le hi,aV (x.af.map (mz x)) k (au .aL) (by rw[List.length_map];exact h),List.append_assoc]
 congr 1
 rw[show(x.af.map (mz x)).getD k (au .aL)=mz x (x.af.getD k (au .aL))by
  rw[List.getD_eq_getElem?_getD,List.getD_eq_getElem?_getD,List.getElem?_map,List.getElem?_eq_getElem h];rfl]
 rfl
theorem Oe(x:aJ)(k:Nat)(h:k<x.af.length):(P7 x k).getD k (au .aL)=x.af.getD k (au .aL):=by rw[←Tf x k h,CS x k 0 h];rfl
theorem Of(x:aJ)(k:Nat)(h:k≤x.af.length):(P7 x k).length=x.af.length:=by
 unfold P7
 rw[kr _ _ _ (by rw[List.length_map]) h]
theorem Og(x:aJ)(k:Nat)(hk:k≤x.af.length)(h:x.af.length≤k):P7 x k=x.af.map (mz x):=by
 unfold P7
 rw[List.take_of_length_le (by rw[List.length_map];exact h),List.drop_of_length_le h,List.append_nil]
end
section
theorem P8(x:UInt8):IntKind.i64.wrap (x.toNat:Int)=x.toNat:=bl (by have:=x.toNat_lt;omega)
def U5(key c:Int)(cell:List UInt8):Int:=((Fm key c cell).getD 0 (au .u8)).toNat
def Fp(key c:Int)(cell:List UInt8):Nat:=((Fm key c cell).getD 1 (au .u8)).toNat
def X1(key c:Int)(cell:List UInt8):List UInt8:=((Fm key c cell).take (2+Fp key c cell)).drop 2
theorem ZR(key c:Int)(cell:List UInt8):Fp key c cell<256:=((Fm key c cell).getD 1 (au .u8)).toNat_lt
theorem Ti(key c:Int)(cell:List UInt8):decr (lB key c) ((cell.take (20:Int).toNat).drop (0:Int).toNat)=Fm key c cell:=by unfold Fm;simp
theorem MC(key c:Int)(cell:List UInt8):((Fm key c cell).take (IntKind.i64.wrap (2+IntKind.i64.wrap (((Fm key c cell).getD (Int.toNat 1) (au .u8)).toNat:Int))).toNat).drop (Int.toNat 2)=X1 key c cell:=by
 have h:=ZR key c cell
 rw[P8,bl (by show _∧2+(Fp key c cell:Int)≤_;show _≤2+(Fp key c cell:Int)∧_;omega)]
 show((Fm key c cell).take (2+(Fp key c cell:Int)).toNat).drop 2=_
 rw[show(2+(Fp key c cell:Int)).toNat=2+Fp key c cell by omega];rfl
theorem X3{key c:Int}{cell:List UInt8}(h:14<Fp key c cell):mu key c cell=false:=by
 have:X0 key c cell=false:=by
  simp only[X0,Bool.and_eq_false_iff,decide_eq_false_iff_not]
  right
  show¬((Fp key c cell:Int)≤14)
  omega
 rw[mu,this,Bool.and_false]
theorem MD{key c:Int}{cell:List UInt8}(h:Lv key c cell=false):mu key c cell=false:=by rw[mu,h];rfl
theorem Ic{key c:Int}{cell:List UInt8}(hA:Lv key c cell=true)(h:Fp key c cell≤14):(X1 key c cell).length=Fp key c cell:=by
 have:=(Ib hA).1
 unfold X1
 rw[List.length_drop,List.length_take];omega
theorem CT{key c:Int}{cell:List UInt8}(h:mu key c cell=true):Lw key c cell=⟨U5 key c cell,X1 key c cell⟩:=by rw[Lw,if_pos h];rfl
theorem ab8{key c:Int}{cell:List UInt8}(hA:Lv key c cell=true)(h:Fp key c cell≤14)(hk:U5 key c cell≤3):mu key c cell=true:=by
 rw[mu,hA,Bool.true_and,X0]
 simp only[Bool.and_eq_true,an,decide_eq_true_eq]
 exact⟨⟨by omega,hk⟩,by show(Fp key c cell:Int)≤14;omega⟩
theorem ZS{key c:Int}{cell:List UInt8}(h:3<U5 key c cell):mu key c cell=false:=by
 have:X0 key c cell=false:=by
  simp only[X0,Bool.and_eq_false_iff]
  left
  rw[aq]
  show¬(0≤U5 key c cell∧U5 key c cell≤3)
  omega
 rw[mu,this,Bool.and_false]
theorem ZT(a b k:Nat)(h:a<2^k):a||| (b*2^k)=a+b*2^k:=by
 have:=Nat.two_pow_add_eq_or_of_lt h b
 rw[Nat.mul_comm b,Nat.or_comm, ←this,Nat.add_comm]
theorem ZU{a:Nat}{b k:Nat}(ha:a<2^k)(hb:b<256)(hk:k=8∨k=16∨k=24):IntKind.i64.wrap (BitVec.ofInt IntKind.i64.bits (a:Int)|||BitVec.ofInt IntKind.i64.bits (IntKind.i64.wrap ((b:Int)*2^k))).toNat=((a+b*2^k:Nat):Int):=by
 have hp:b*2^k<2^32:=by
  rcases hk with rfl|rfl|rfl<;>omega
 have ha2:a<2^24:=by
  rcases hk with rfl|rfl|rfl<;>omega
 have e:((b:Int)*2^k)=((b*2^k:Nat):Int):=by push_cast;rfl
 rw[e,bl (a:=((b*2^k:Nat):Int)) (by omega),BitVec.ofInt_natCast,BitVec.ofInt_natCast,BitVec.toNat_or,BitVec.toNat_ofNat,BitVec.toNat_ofNat]
 show IntKind.i64.wrap (((a % 2^64|||b*2^k % 2^64:Nat)):Int)=_
 rw[Nat.mod_eq_of_lt (by omega),Nat.mod_eq_of_lt (by omega),ZT a b k ha,bl (by omega)]
def ZV(cell:List UInt8):Int:=((cell.getD 20 (au .u8)).toNat:Int)+256*(cell.getD 21 (au .u8)).toNat+65536*(cell.getD 22 (au .u8)).toNat+16777216*(cell.getD 23 (au .u8)).toNat
theorem Wx(cell:List UInt8):IntKind.i64.wrap (BitVec.ofInt IntKind.i64.bits (IntKind.i64.wrap (BitVec.ofInt IntKind.i64.bits (IntKind.i64.wrap (BitVec.ofInt IntKind.i64.bits (IntKind.i64.wrap ((cell.getD (Int.toNat 20) (au .u8)).toNat:Int))|||BitVec.ofInt IntKind.i64.bits (IntKind.i64.wrap (IntKind.i64.wrap ((cell.getD (Int.toNat 21) (au .u8)).toNat:Int)*2^(min (Int.toNat 8) IntKind.i64.bits)))).toNat)|||BitVec.ofInt IntKind.i64.bits (IntKind.i64.wrap (IntKind.i64.wrap ((cell.getD (Int.toNat 22) (au .u8)).toNat:Int)*2^(min (Int.toNat 16) IntKind.i64.bits)))).toNat)|||BitVec.ofInt IntKind.i64.bits (IntKind.i64.wrap (IntKind.i64.wrap ((cell.getD (Int.toNat 23) (au .u8)).toNat:Int)*2^(min (Int.toNat 24) IntKind.i64.bits)))).toNat=ZV cell:=by
 have h0:=(cell.getD 20 (au .u8)).toNat_lt
 have h1:=(cell.getD 21 (au .u8)).toNat_lt
 have h2:=(cell.getD 22 (au .u8)).toNat_lt
 have h3:=(cell.getD 23 (au .u8)).toNat_lt
 rw[P8,P8,P8,P8]
 show IntKind.i64.wrap (BitVec.ofInt IntKind.i64.bits (IntKind.i64.wrap (BitVec.ofInt IntKind.i64.bits (IntKind.i64.wrap (BitVec.ofInt IntKind.i64.bits (((cell.getD 20 (au .u8)).toNat:Nat):Int)|||BitVec.ofInt IntKind.i64.bits (IntKind.i64.wrap ((((cell.getD 21 (au .u8)).toNat:Nat):Int)*2^8))).toNat)|||BitVec.ofInt IntKind.i64.bits (IntKind.i64.wrap ((((cell.getD 22 (au .u8)).toNat:Nat):Int)*2^16))).toNat)|||BitVec.ofInt IntKind.i64.bits (IntKind.i64.wrap ((((cell.getD 23 (au .u8)).toNat:Nat):Int)*2^24))).toNat=_
 rw[ZU (k:=8) h0 h1 (by omega),ZU (k:=16) (by omega) h2 (by omega),ZU (k:=24) (by omega) h3 (by omega)]
 unfold ZV
 omega
theorem ZW{cell:List UInt8}(h:cell.length=24):cell.drop 20= [cell.getD 20 (au .u8),cell.getD 21 (au .u8),cell.getD 22 (au .u8),cell.getD 23 (au .u8)]:=by
 rw[nE cell 20 (au .u8) (by omega),nE cell 21 (au .u8) (by omega),nE cell 22 (au .u8) (by omega),nE cell 23 (au .u8) (by omega),List.drop_of_length_le (by omega)]
theorem Wy{key c:Int}{cell:List UInt8}(h1:fA key=true)(h2:inr c 0 1000000000000=true)(h3:cell.length=24):Lv key c cell=decide (ZV cell=jd key c (cell.take 20)):=by
 have hr:=dy key (71::c::(cell.take 20).map (fun x=>(x.toNat:Int)))
 have Na:0≤jd key c (cell.take 20)∧jd key c (cell.take 20)<2147483647:=hr
 rw[Lv,h1,h2,show decide ((cell.length:Int)=24)=true by rw[decide_eq_true_eq];omega,Bool.true_and,Bool.true_and,Bool.true_and,ZW h3,Td _ _ _ _ _ Na.1 (by omega)]
 rfl
def X4(key c:Int)(cell:List UInt8):Bool:=fA key&&inr c 0 1000000000000&&decide ((cell.length:Int)=24)
theorem ZX{key c:Int}{cell:List UInt8}(h:X4 key c cell=false):mu key c cell=false:=by
 apply MD
 unfold X4 at h
 rw[Lv,h];rfl
theorem ab9{key c:Int}{cell:List UInt8}(h:X4 key c cell=true):fA key=true∧inr c 0 1000000000000=true∧cell.length=24:=by
 simp only[X4,Bool.and_eq_true,decide_eq_true_eq]at h
 exact⟨h.1.1,h.1.2,by omega⟩
theorem Tj(l:List UInt8):l.set (Int.toNat 0) (UInt8.ofNat (IntKind.u8.wrap ((BitVec.ofInt IntKind.u8.bits (((l.getD (Int.toNat 0) (au .u8)).toNat:Nat):Int)^^^BitVec.ofInt IntKind.u8.bits 128).toNat:Int)).toNat)=Ai l:=by
 have:=SJ (l.getD (Int.toNat 0) (au .u8)) 128
 rw[show(((128:UInt8).toNat:Nat):Int)=128 from rfl]at this
 rw[this];rfl
theorem Oh{d:DB}{v:List Int}(h:(dM d v).length=0):iV d v=false:=by rw[iV,h];rfl
theorem zu{d:DB}{v:List Int}(h: ¬(dM d v).length=0):iV d v=true:=by
 rw[iV,Bool.not_eq_true']
 exact beq_eq_false_iff_ne.2 h
theorem Tk{key sv r:Int}{d:DB}{v:List Int}(h:iV d v=false):ga key sv r d v=noA:=by rw[ga,h];rfl
theorem CU{key sv r:Int}{d:DB}{v:List Int}(h:iV d v=true):ga key sv r d v=ZQ key sv r v (dM d v):=by rw[ga,if_pos h]
theorem vL{d:DB}{v:List Int}(h:iV d v=true):(dM d v).length=24:=by
 rcases uH d v with h1|h1
 ·exact h1
 ·rw[iV,h1]at h;cases h
theorem Tl{s:aO}{key r:Int}{d:DB}{v:List Int}(h:(iV d v&&(s.behavior==3))=false):Fo s key r d v=ga key s.id r d v:=by
 unfold Fo ga
 cases hk:iV d v with
 |false=>rfl
 |true=>
  rw[hk,Bool.true_and,beq_eq_false_iff_ne]at h
  rw[if_pos rfl,if_pos rfl,if_neg h]
theorem Oi{s:aO}{key r:Int}{d:DB}{v:List Int}(h:(iV d v&&(s.behavior==3))=true):iV d v=true∧Fo s key r d v=ZQ key s.id r v (Ai (dM d v)):=by
 rw[Bool.and_eq_true,beq_iff_eq]at h
 exact⟨h.1,by rw[Fo,if_pos h.1,if_pos h.2]⟩
theorem Ie(b:List UInt8):(Ai b).length=b.length:=by unfold Ai;rw[List.length_set]
theorem X5(s:aO)(key r:Int)(d:DB){v:List Int}(hv:v.length≤262144):(Fo s key r d v).selection.length≤262144∧(Fo s key r d v).data.length≤262144:=by
 have h:=uH d v
 have h2:(dM d v).length≤262144:=by
  rcases h with h|h
  ·omega
  ·rw[h];exact Nat.zero_le _
 unfold Fo
 split
 ·split
  ·exact⟨hv,by show(Ai (dM d v)).length≤_;rw[Ie];exact h2⟩
  ·exact⟨hv,h2⟩
 ·exact⟨Nat.zero_le _,Nat.zero_le _⟩
theorem Ig{l:List (List UInt8)}(h:fL l=true):Ob l=uE l:=by rw[Ob,if_pos h]
theorem CV{l:List (List UInt8)}(h:fL l=false):Ob l= []:=by rw[Ob,h];rfl
theorem Kn{l:List (List UInt8)}(h:fL l=true): ∀a,a∈l→a.length≤1048576:=by
 intro a ha
 simp only[fL,Bool.and_eq_true,List.all_eq_true,decide_eq_true_eq]at h
 have:=h.2 a ha
 omega
theorem Wz{l:List (List UInt8)}{k:Nat}(hk:k<l.length)(h: ¬(l.getD k (au (.sl .u8))).length=24):fL l=false:=by
 have h2:(l.all fun a=>decide ((a.length:Int)=24))=false:=Ef _ _ (au (.sl .u8)) k hk (by rw[decide_eq_false_iff_not];omega)
 rw[fL,h2,Bool.and_false]
theorem Tm(rows i:Int)(sd:List Int): ∀v,v∈eM rows i sd→v.length≤64:=by
 intro v hv
 unfold eM at hv
 split at hv
 ·rcases List.mem_append.1 hv with h|h
  ·obtain⟨s,_,rfl⟩:=List.mem_map.1 h
   exact iz _ _
  ·rw[List.mem_singleton.1 h]
   exact AM rows i sd
 ·cases hv
theorem Tn(rows i:Int)(sd:List Int):(eM rows i sd).length≤sd.length+1:=by
 unfold eM
 split
 ·rw[List.length_append,List.length_map];simp
 ·exact Nat.zero_le _
theorem Oj{x:aJ}(r row s:Int)(h:okW x=true):(query' x r row s).length≤x.ah.length:=by
 have h1:=Tn x.rows row (cG x.ah.length r row s)
 have h2:=dL x.ah.length r row s
 have h3:=(cN h).2
 unfold query'
 omega
theorem To(x:aJ)(r row s:Int)(k:Nat):((query' x r row s).getD k (au (.sl .int))).length≤64:=by
 rw[List.getD_eq_getElem?_getD]
 cases hq:(query' x r row s)[k]? with
 |none=>exact Nat.zero_le _
 |some v=>exact Tm _ _ _ v (List.mem_of_getElem? hq)
theorem Ih{x:aJ}{r row s:Int}(h:gw x.ak.rounds r=false):xC x r row s= []∧pz x r row s=false:=⟨by rw[xC,h];rfl,by rw[pz,h];rfl⟩
theorem Ok{x:aJ}{r row s:Int}(h:gw x.ak.rounds r=true):xC x r row s=Ob (sJ x r row s)∧pz x r row s=fL (sJ x r row s):=⟨by rw[xC,if_pos h],by rw[pz,h,Bool.true_and]⟩
theorem Ii{x:aJ}(h:okW x=true):x.ak.rounds.length≤8∧ ∀y,y∈x.ak.rounds→bX List.length y.db.rows≤1048576:=by
 have ha:=kD h
 simp only[IN,Bool.and_eq_true]at ha
 have ha:e9 x.ak=true:=ha.1.1.1.1.1.2
 simp only[e9,Em,Bool.and_eq_true,List.all_eq_true,List.mem_range,decide_eq_true_eq]at ha
 refine⟨by omega,fun y hy=> ?_⟩
 obtain⟨i,hi,rfl⟩:=List.mem_iff_getElem.1 hy
 have h2:=ha.2 i hi
 have e:x.ak.rounds.getD i (au .ay)=x.ak.rounds[i]:=by rw[List.getD_eq_getElem?_getD,List.getElem?_eq_getElem hi];rfl
 simp only[rY,e,Bool.and_eq_true]at h2
 exact cZ h2.1.2
end
section
theorem GB(rows:Int)(l:List aA)(k:Nat)(h:k<l.length):gN rows (l.take (k+1))=dD (gN rows (l.take k)) (l.getD k (au .aA)).share:=by
 unfold gN
 rw[aV l k (au .aA) h,List.foldl_append];rfl
theorem On(rows:Int)(l:List aA):bX List.length (gN rows l).rows≤1048576:=cZ (A5 rows l).1
theorem Oo{s:aO}(h:cj s=true):(1≤s.rows∧s.rows≤64)∧s.received.length≤8:=by
 simp only[cj,wI,Bool.and_eq_true,an,decide_eq_true_eq]at h
 omega
theorem EJ{s:aO}(h:cj s=true): ∀r,r∈s.received→bX List.length r.share.rows≤1048576:=by
 intro r hr
 obtain⟨i,hi,rfl⟩:=List.mem_iff_getElem.1 hr
 simp only[cj,Bool.and_eq_true,List.all_eq_true,List.mem_range]at h
 have h2:=h.2 i hi
 have e:s.received.getD i (au .aA)=s.received[i]:=by rw[List.getD_eq_getElem?_getD,List.getElem?_eq_getElem hi];rfl
 simp only[nW,e,Bool.and_eq_true]at h2
 exact cZ h2.1.2
theorem Qd(rows:Int)(l:List aA)(f k:Nat)(h:k<l.length)(hf:f≤k):gN rows ((l.drop f).take (k+1-f))=dD (gN rows ((l.drop f).take (k-f))) (l.getD k (au .aA)).share:=by
 rw[show k+1-f=(k-f)+1 by omega,GB _ _ _ (by rw[List.length_drop];omega)]
 congr 2
 rw[List.getD_eq_getElem?_getD,List.getElem?_drop,show f+(k-f)=k by omega];rfl
theorem Tv(rows:Int)(l:List aA)(f k:Nat)(h:l.length≤k):gN rows ((l.drop f).take (k-f))=gN rows (l.drop f):=by
 rw[List.take_of_length_le (by rw[List.length_drop];omega)]
theorem alt_eq(d:DB):d.rows.set (Int.toNat 0) ((d.rows.getD (Int.toNat 0) (au (.sl .u8))).set (Int.toNat 0) (UInt8.ofNat (IntKind.u8.wrap ((BitVec.ofInt IntKind.u8.bits ((((d.rows.getD (Int.toNat 0) (au (.sl .u8))).getD (Int.toNat 0) (au .u8)).toNat:Nat):Int)^^^BitVec.ofInt IntKind.u8.bits 1).toNat:Int)).toNat))=(alt d).rows:=by
 have:=SJ ((d.rows.getD (Int.toNat 0) (au (.sl .u8))).getD (Int.toNat 0) (au .u8)) 1
 rw[show(((1:UInt8).toNat:Nat):Int)=1 from rfl]at this
 rw[this];rfl
theorem Tw{s:aO}(h:cj s=true):0<(gN s.rows (rcvd s)).rows.length∧0<((gN s.rows (rcvd s)).rows.getD 0 (au (.sl .u8))).length:=by
 have h1:=Oo h
 have h2:=A5 s.rows (rcvd s)
 have h3:(cw s.rows).rows.length=s.rows.toNat:=by rw[iT (by omega)];simp
 have h4:0<(gN s.rows (rcvd s)).rows.length:=by omega
 exact⟨h4,by rw[lV h2.1 0 h4];decide⟩
theorem GC(s:aO):s.behavior=1→rcvd s=s.received.drop 1:=fun h=>if_pos h
theorem Ks(s:aO): ¬s.behavior=1→rcvd s=s.received:=fun h=>if_neg h
theorem WD(s:aO):bX List.length (so s).rows≤1048576:=by
 unfold so
 split
 ·split
  ·exact cZ (Tu (A5 _ _).1)
  ·exact cZ (A5 _ _).1
 ·exact by decide
theorem A6(key:Int)(s:aO)(p:DB): ∀(l:List dP) (k:Nat),(∀j,j<k→jx key s (l.getD j (au .dP))=0)→FF key s p (l.drop k)=FF key s p l
 |l,0,_=>by rw[List.drop_zero]
 | [],k+1,_=>by simp
 |r::l,k+1,h=>by
  have h0:=h 0 (by omega)
  rw[List.drop_succ_cons,A6 key s p l k fun j hj=>by simpa using h (j+1) (by omega)]
  show FF key s p l=if jx key s r=0 then FF key s p l else jx key s r
  rw[if_pos (by simpa using h0)]
theorem Kt{key:Int}{s:aO}{p:DB}{l:List dP}{k:Nat}(h: ∀j,j<k→jx key s (l.getD j (au .dP))=0)(hk:k<l.length)(hn:jx key s (l.getD k (au .dP))≠0):FF key s p l=jx key s (l.getD k (au .dP)):=by
 rw[←A6 key s p l k h,List.drop_eq_getElem_cons hk,show l[k]=l.getD k (au .dP)by rw[List.getD_eq_getElem?_getD,List.getElem?_eq_getElem hk];rfl]
 exact if_neg hn
theorem Ku{key:Int}{s:aO}{p:DB}{l:List dP}{k:Nat}(h: ∀j,j<k→jx key s (l.getD j (au .dP))=0)(hk:l.length≤k):FF key s p l=if cj s&&(p.rows==(FE s).rows)then 0 else 3:=by
 rw[←A6 key s p l k h,List.drop_of_length_le hk];rfl
theorem EK{key:Int}{s:aO}{l:List dP}{k:Nat}(h: ∀j,j<k→jx key s (l.getD j (au .dP))=0)(hk:jx key s (l.getD k (au .dP))=0): ∀j,j<k+1→jx key s (l.getD j (au .dP))=0:=by
 intro j hj
 by_cases hjk:j=k
 ·subst hjk;exact hk
 ·exact h j (by omega)
theorem GD(sv:List aO)(k:Nat)(h:k<sv.length):(bH sv).take (k+1)=(bH sv).take k++ [so (sv.getD k (au .aO))]:=by
 rw[aV (bH sv) k (au .DB) (by unfold bH;rw[List.length_map];exact h)]
 congr 2
 unfold bH
 rw[List.getD_eq_getElem?_getD,List.getD_eq_getElem?_getD,List.getElem?_map,List.getElem?_eq_getElem h];rfl
theorem WE(sv:List aO): ∀d,d∈bH sv→bX List.length d.rows≤1048576:=by
 intro d hd
 obtain⟨s,_,rfl⟩:=List.mem_map.1 hd
 exact WD s
theorem Tx{pb:List DB}(h: ∀d,d∈pb→bX List.length d.rows≤1048576)(k:Nat):bX List.length (pb.getD k (au .DB)).rows≤1048576:=by
 rw[List.getD_eq_getElem?_getD]
 cases hq:pb[k]? with
 |none=>exact by decide
 |some d=>exact h d (List.mem_of_getElem? hq)
theorem EL{x:aJ}(h:okW x=true): ∀s,s∈aN x→pU s:=by
 rw[aN,if_pos h];exact(col h _ (Nat.le_refl _)).sml
theorem aep{key:Int}{s:aO}{r:dP}(h:zx key s r=false)(h1:jv s.received r.client=false):jx key s r=1:=by rw[jx,h,h1];rfl
theorem aer{key:Int}{s:aO}{r:dP}(h:zx key s r=false)(h1:jv s.received r.client=true)(h2:Qc r (pV s.received r.client)=false):jx key s r=2:=by rw[jx,h,h1,h2];rfl
theorem aes{key:Int}{s:aO}{r:dP}(h:zx key s r=false)(h1:jv s.received r.client=true)(h2:Qc r (pV s.received r.client)=true):jx key s r=0:=by rw[jx,h,h1,h2];rfl
theorem aet{key:Int}{s:aO}{r:dP}(h:zx key s r=true):jx key s r=0:=by rw[jx,h];rfl
end
section
def Ft(l:List DB)(k:Nat):DB:=((l.drop 1).take k).foldl dD (l.getD 0 (au .DB))
theorem EN(l:List DB)(k:Nat)(h:k<(l.drop 1).length):Ft l (k+1)=dD (Ft l k) ((l.drop 1).getD k (au .DB)):=by
 unfold Ft
 rw[aV (l.drop 1) k (au .DB) h,List.foldl_append];rfl
theorem Kx{α:Type}(l:List α)(k:Nat)(d:α)(h:k<l.length):l.drop k=l.getD k d::l.drop (k+1):=by
 rw[List.drop_eq_getElem_cons h,show l[k]=l.getD k d by rw[List.getD_eq_getElem?_getD,List.getElem?_eq_getElem h];rfl]
theorem TC(l:List DB)(k:Nat)(h:k<(l.drop 1).length)(hx:gq (Ft l k) ((l.drop 1).getD k (au .DB))=true):Kv (Ft l k) ((l.drop 1).drop k)=Kv (Ft l (k+1)) ((l.drop 1).drop (k+1)):=by
 rw[Kx _ k (au .DB) h,Kv,if_pos hx,EN l k h]
theorem Z1(l:List DB)(k:Nat)(h:k<(l.drop 1).length)(hx:gq (Ft l k) ((l.drop 1).getD k (au .DB))=false):Kv (Ft l k) ((l.drop 1).drop k)=none:=by
 rw[Kx _ k (au .DB) h,Kv,hx];rfl
theorem WH(l:List DB)(k:Nat)(h:(l.drop 1).length≤k):Kv (Ft l k) ((l.drop 1).drop k)=some (Ft l k):=by
 rw[List.drop_of_length_le h];rfl
theorem Z2{l:List DB}(h:BN l): ∀k,bV (Ft l k)=true:=by
 intro k
 induction k with
 |zero=>exact qU h 0
 |succ k ih=>
  by_cases hk:k<(l.drop 1).length
  ·rw[EN l k hk];exact nI ih
  ·have e:Ft l (k+1)=Ft l k:=by unfold Ft;rw[List.take_of_length_le (by omega),List.take_of_length_le (by omega)]
   rw[e];exact ih
theorem WI{l:List DB}(h:cq l.length=false):MF l=none:=by rw[MF,h];rfl
theorem WJ{l:List DB}(h:cq l.length=true):MF l=Kv (Ft l 0) ((l.drop 1).drop 0):=by rw[MF,if_pos h];rfl
theorem Ky{l:List DB}(h:cq l.length=true):2≤l.length∧l.length≤4:=by simp only[cq,an]at h;omega
def EO(id rows b:Int):Bool:=inr id 0 3&&inr rows 1 64&&inr b 0 3
def newS(id rows b:Int):aO:=if EO id rows b then⟨id,rows,0,[],b⟩else⟨0,0,0,[],0⟩
theorem EP(rows rd:Int)(p:List aO×List Int)(g:List Int)(k:Nat)(h:k<g.length):Fq rows rd p (g.take (k+1))=s9 rows rd (Fq rows rd p (g.take k)) (g.getD k (au .int)):=by
 unfold Fq
 rw[aV g k (au .int) h,List.foldl_append];rfl
theorem Im(rows rd:Int)(p:List aO×List Int)(g:List Int): ∀k,k≤g.length→(Fq rows rd p (g.take k)).1.length=p.1.length∧(Fq rows rd p (g.take k)).2.length≤p.2.length+k
 |0,_=>⟨rfl,Nat.le_refl _⟩
 |k+1,hk=>by
  have ih:=Im rows rd p g k (by omega)
  rw[EP _ _ _ _ k (by omega)]
  have:=Ik rows rd (Fq rows rd p (g.take k)) (g.getD k (au .int))
  omega
def ES(rd:Int)(l:List aO):Prop:= ∀s,s∈l→s.round=rd∧pU s
theorem acg{rows rd:Int}{p:List aO×List Int}{id:Int}(h:ES rd p.1):ES rd (s9 rows rd p id).1:=by
 unfold s9
 split
 ·intro s hs
  rcases List.mem_or_eq_of_mem_set hs with h1|h1
  ·exact h s h1
  ·subst h1
   exact⟨rfl,Nat.zero_le _,fun r hr=>by cases hr⟩
 ·exact h
theorem TD{rows rd:Int}{p:List aO×List Int}(g:List Int)(h:ES rd p.1): ∀k,k≤g.length→ES rd (Fq rows rd p (g.take k)).1
 |0,_=>h
 |k+1,hk=>by
  rw[EP _ _ _ _ k (by omega)]
  exact acg (TD g h k (by omega))
theorem TF(l:List aO)(k:Nat)(h:k<l.length):((l.map iI).take k++l.drop k).set k (iI (((l.map iI).take k++l.drop k).getD k (au .aO)))=(l.map iI).take (k+1)++l.drop (k+1):=by
 rw[kq _ _ _ _ (by rw[List.length_map];omega)]
 refine ud _ _ _ (au .aO) _ h (by rw[List.length_map];exact h) ?_
 rw[List.getD_eq_getElem?_getD,List.getD_eq_getElem?_getD,List.getElem?_map,List.getElem?_eq_getElem h];rfl
theorem X7{x:aJ}(h:okW x=true):ES x.round x.ah:=by
 intro s hs
 obtain⟨i,hi,rfl⟩:=List.mem_iff_getElem.1 hs
 have h1:=HX h hi
 have e:x.ah.getD i (au .aO)=x.ah[i]:=by rw[List.getD_eq_getElem?_getD,List.getElem?_eq_getElem hi];rfl
 have he:=AW h _ hs
 simp only[Gj,e,Bool.and_eq_true,beq_iff_eq]at h1
 exact⟨h1.1.2,by rw[he];decide,fun r hr=>by rw[he]at hr;cases hr⟩
theorem Io{x:aJ}{n:Nat}(h:TB x n=true):fW x (n+1)=s9 x.rows x.round (fW x n) (n:Int):=by
 unfold fW Fq
 rw[Oq h,List.foldl_append];rfl
theorem ET{x:aJ}{n:Nat}(h:TB x n=false):fW x (n+1)=fW x n:=by unfold fW;rw[Kw h]
end
section
def TN(c:ep)(b:List UInt8):ep:=⟨c.id,c.eu,c.key,c.seed,c.av++ [b],c.sent,c.inbox,c.next⟩
def A8(c:ep)(b:List UInt8):Bool:=dh c&&dh (TN c b)
def mB(c:ep)(b:List UInt8):ep:=if A8 c b then TN c b else c
def Ci(d:aL)(b:List UInt8):Bool:=(cL d&&A8 d.live b)&&A8 d.saved b
def Cj(d:aL)(b:List UInt8):aL:=if Ci d b then⟨mB d.live b,mB d.saved b⟩else d
def KA(x:aJ)(c:Int)(b:List UInt8):Bool:=iJ x c&&Ci (Ch x c) b
def CY(x:aJ)(c:Int)(b:List UInt8):aJ:=if iJ x c then Qf x c.toNat (Cj (Ch x c) b)else x
theorem Z5{x:aJ}{c:Int}(h:iJ x c=true):Ir (Ch x c):=by
 obtain⟨h1,h2⟩:=CX h
 exact Ot h1 _ (getD_in _ (by omega))
end
section
theorem zB(c:ep):jN c.key (IntKind.i64.wrap (1-bS c))=EH c:=by
 unfold EH
 rw[bl (by unfold bS;split<;>omega)]
theorem KB{c:ep}{r:Int}{own other:List UInt8}(h:oF c r=false):eN c r own other=c:=by rw[eN,h];rfl
theorem TO{c:ep}{r:Int}(h:oF c r=true):dh c=true∧c.next≤r∧r≤99999∧0≤c.next:=by
 simp only[oF,Bool.and_eq_true,an]at h
 have:=(qL h.1).2.2.2.2.2.2.1
 exact⟨h.1,h.2.1,h.2.2,this⟩
theorem Ov{d:aL}{r:Int}{own other:List UInt8}(h:qQ d r=false):rdev d r own other=d:=by rw[rdev,h];rfl
theorem Ox{d:aL}{r:Int}{own other:List UInt8}(h:qQ d r=true)(hn:wM (mw d r own other)=true):rdev d r own other=Lx (mw d r own other):=by
 have hk:cL (mw d r own other)=true:=by
  simp only[wM,Bool.and_eq_true]at hn;exact hn.1
 rw[rdev,if_pos h,if_pos hn,Lx,if_pos hk];rfl
theorem Oy{d:aL}{r:Int}{own other:List UInt8}(h:qQ d r=true)(hn:wM (mw d r own other)=false):rdev d r own other=mw d r own other:=by
 rw[rdev,if_pos h,hn];rfl
theorem KC{d:aL}{r:Int}{own other:List UInt8}(h:qQ d r=true):aP (mw d r own other)≤1048576:=by
 simp only[qQ,Bool.and_eq_true]at h
 have hd:=h.2
 simp only[cL,Bool.and_eq_true]at hd
 have hb:Ir (mw d r own other):=⟨zA (zz hd.1.1.1.1.1) _ _ _,zz hd.1.1.1.1.2⟩
 have:=qW hb
 omega
theorem Z6{x:aJ}(h:okW x=true){k:Nat}(hk:k<x.af.length)(l:List Int):aP (Kj x (x.af.getD k (au .aL)) l)≤1048576:=by
 have:=qW (MI x (x.af.getD k (au .aL)) l _ (Ot h _ (getD_in (au .aL) hk)))
 unfold Kj;omega
theorem TP{x:aJ}(h:okW x=true){k:Nat}(hk:k<x.af.length)(i:Nat):aP ((jh x k i).getD k (au .aL))≤1048576:=by
 rw[CS x k i hk];exact Z6 h hk _
theorem TQ(x:aJ)(k i:Nat)(hk:k<x.af.length):sL ((jh x k i).getD k (au .aL)).live (x.af.getD k (au .aL)).live:=by
 rw[CS x k i hk]
 exact A1 x _ _ _ ⟨rfl,rfl,rfl,rfl⟩
theorem TR(x:aJ)(k i:Nat)(h:k<x.af.length)(hi:i<(gP x (x.af.getD k (au .aL))).length):
  (jh x k i).set k (rdev ((jh x k i).getD k (au .aL)) ((gP x (x.af.getD k (au .aL))).getD i (au .int))
   (xC x ((gP x (x.af.getD k (au .aL))).getD i (au .int)) (dN ((jh x k i).getD k (au .aL)).live.key ((gP x (x.af.getD k (au .aL))).getD i (au .int)) (bS ((jh x k i).getD k (au .aL)).live) x.rows) ((jh x k i).getD k (au .aL)).live.seed)
   (xC x ((gP x (x.af.getD k (au .aL))).getD i (au .int)) (dN ((jh x k i).getD k (au .aL)).live.key ((gP x (x.af.getD k (au .aL))).getD i (au .int)) (1-bS ((jh x k i).getD k (au .aL)).live) x.rows) ((jh x k i).getD k (au .aL)).live.seed))=jh x k (i+1):=by
 have hs:=TQ x k i h
 rw[MB hs,hs.2.2.1,hs.2.2.2]
 exact Km x k i h hi
theorem TS{x:aJ}(h:okW x=false):wN x=x:=by rw[wN,h];rfl
theorem Oz{x:aJ}(h:okW x=true):wN x=⟨x.rows,x.ah,x.af.map (mz x),x.ak,x.az,x.seed,x.round,x.replaced,x.cancelled⟩:=by rw[wN,if_pos h]
theorem TT(c:ep):IntKind.i64.wrap (1-bS c)=1-bS c:=bl (by unfold bS;split<;>omega)
end
section
theorem KF{α:Type}(l:List α)(k:Nat)(d:α):(l.drop 1).getD k d=l.getD (k+1) d:=by
 rw[List.getD_eq_getElem?_getD,List.getD_eq_getElem?_getD,List.getElem?_drop,Nat.add_comm]
theorem aeA{l:List DB}(ha:BN l)(h:(if(!cq l.length)=true then true else !bV (l.getD (Int.toNat 0) (au .DB)))=true):cq l.length=false:=by
 cases hs:cq l.length with
 |false=>rfl
 |true=>
  rw[hs]at h
  have:=qU ha 0
  have h2:bV (l.getD (Int.toNat 0) (au .DB))=true:=this
  rw[h2]at h
  cases h
theorem acp{l:List DB}(h:(if(!cq l.length)=true then true else !bV (l.getD (Int.toNat 0) (au .DB)))=false):cq l.length=true:=by
 cases hs:cq l.length with
 |true=>rfl
 |false=>rw[hs]at h;cases h
theorem aeB{l:List DB}(h:(!cq (l.length:Int))=false):(0:Int)≤0∧(0:Int)<(l.length:Int):=by
 have h2:cq (l.length:Int)=true:=by simpa using h
 have:=Ky h2
 omega
theorem It{rows rd:Int}{p:List aO×List Int}{id:Int}(h:s8 p.1 id=true):s9 rows rd p id=(p.1.set id.toNat ⟨id,rows,rd,[],0⟩,p.2++ [id]):=by rw[s9,if_pos h]
theorem OA{rows rd:Int}{p:List aO×List Int}{id:Int}(h:s8 p.1 id=false):s9 rows rd p id=p:=by rw[s9,h];rfl
theorem TU{l:List aO}{id:Int}(hl:l.length≤4)(h:s8 l id=true):0≤id∧id<l.length:=by
 simp only[s8,an]at h
 rw[bl (by omega)]at h
 omega
theorem EW{id rows:Int}(h:0≤id∧id≤3)(hr:1≤rows∧rows≤64):newS id rows 0=⟨id,rows,0,[],0⟩:=by
 have:EO id rows 0=true:=by simp only[EO,Bool.and_eq_true,an];omega
 rw[newS,if_pos this]
def gM(x:aJ)(g:List Int)(k:Nat):List aO×List Int:=Fq x.rows x.round (x.ah,x.replaced) (g.take k)
theorem KG{x:aJ}{g:List Int}{k:Nat}(h:k<g.length):s9 x.rows x.round (gM x g k) (g.getD k (au .int))=gM x g (k+1):=(EP _ _ _ _ k h).symm
theorem vM{x:aJ}{g:List Int}{k:Nat}(h:g.length≤k):gM x g k=sq x g:=by unfold gM sq;rw[List.take_of_length_le h]
theorem zM{x:aJ}{g:List Int}{k:Nat}(h:k≤g.length):(gM x g k).1.length=x.ah.length∧(gM x g k).2.length≤x.replaced.length+k:=Im _ _ _ g k h
theorem KH{x:aJ}{g:List Int}{k:Nat}(hk:okW x=true)(h:k≤g.length):ES x.round (gM x g k).1:=TD g (X7 hk) k h
theorem X8{x:aJ}(g:List Int)(hk:okW x=true):ES x.round (sq x g).1:=by
 have:=KH (g:=g) hk (Nat.le_refl _)
 rwa [vM (Nat.le_refl _)]at this
theorem OB(x:aJ)(g:List Int):(sq x g).1.length=x.ah.length∧(sq x g).2.length≤x.replaced.length+g.length:=by
 have:=zM (x:=x) (g:=g) (Nat.le_refl _)
 rwa [vM (Nat.le_refl _)]at this
theorem qX{rd:Int}{l:List aO}(h:ES rd l){k:Nat}(hk:k<l.length):(l.getD k (au .aO)).round=rd∧pU (l.getD k (au .aO)):=h _ (getD_in (au .aO) hk)
def Cl(l:List aO)(k:Nat):List aO:=(l.map iI).take k++l.drop k
theorem OC(l:List aO):Cl l 0=l:=by unfold Cl;simp
theorem zN{l:List aO}{k:Nat}(h:k<l.length):(Cl l k).set k (iI ((Cl l k).getD k (au .aO)))=Cl l (k+1):=TF l k h
theorem CZ{l:List aO}{k:Nat}(h:k<l.length):(Cl l k).getD k (au .aO)=l.getD k (au .aO):=kq _ _ _ _ (by rw[List.length_map];omega)
theorem C0{l:List aO}{k:Nat}(h:k≤l.length):(Cl l k).length=l.length:=kr _ _ _ (by rw[List.length_map]) h
theorem C1{l:List aO}{k:Nat}(h:l.length≤k):Cl l k=l.map iI:=by
 unfold Cl
 rw[List.take_of_length_le (by rw[List.length_map];exact h),List.drop_of_length_le h,List.append_nil]
theorem GG{x:aJ}{g:List Int}{d:DB}(h:oy x=false):aQ x g d=x:=by rw[aQ,h];rfl
theorem KI{x:aJ}{g:List Int}{d:DB}(h:oy x=true)(hg:g.length=0):aQ x g d=⟨x.rows,(sq x g).1.map iI,x.af,⟨x.ak.rows,EM x.ak x.round d⟩,x.az,x.seed,IntKind.i64.wrap (x.round+1),(sq x g).2,x.cancelled⟩:=by
 rw[aQ,if_pos h,if_pos hg,if_pos hg]
theorem KJ{x:aJ}{g:List Int}{d:DB}(h:oy x=true)(hg: ¬g.length=0):aQ x g d=⟨x.rows,(sq x g).1.map iI,x.af,x.ak,x.az,x.seed,IntKind.i64.wrap (x.round+1),(sq x g).2,IntKind.i64.wrap (x.cancelled+1)⟩:=by
 rw[aQ,if_pos h,if_neg hg,if_neg hg]
theorem TV{x:aJ}(h:oy x=true):okW x=true∧x.round<99999:=by
 simp only[oy,Bool.and_eq_true,Bool.not_eq_true',decide_eq_false_iff_not]at h
 exact⟨h.1,by omega⟩
theorem TW{a:gW}{r:Int}{d:DB}(h:qV a r d=false):EM a r d=a.rounds:=by rw[EM,h];rfl
theorem OD{a:gW}{r:Int}{d:DB}(h:qV a r d=true):EM a r d=if(8:Int)<(uN a r d).length then(uN a r d).drop 1 else uN a r d:=by rw[EM,if_pos h]
theorem TX{a:gW}{r:Int}{d:DB}(h:qV a r d=true):a.rounds.length≤8∧bV d=true:=by
 simp only[qV,e9,Em,Bool.and_eq_true,decide_eq_true_eq]at h
 exact⟨by omega,h.1.2⟩
theorem zO{x:aJ}(h:okW x=true){r:Int}(hh:gw x.ak.rounds r=true):bV (dn x.ak.rounds r)=true∧((dn x.ak.rounds r).rows.length:Int)=x.rows:=by
 have ha:=kD h
 simp only[IN,Bool.and_eq_true,beq_iff_eq]at ha
 have har:x.ak.rows=x.rows:=ha.1.1.1.1.2
 have hok:e9 x.ak=true:=ha.1.1.1.1.1.2
 simp only[e9,Bool.and_eq_true,List.all_eq_true,List.mem_range]at hok
 have hi:(x.ak.rounds.findIdx (MA r))<x.ak.rounds.length:=by
  rw[List.findIdx_lt_length]
  obtain⟨y,h1,h2⟩:=List.any_eq_true.1 hh
  exact⟨y,h1,h2⟩
 have hd:=hok.2 _ hi
 simp only[rY,Bool.and_eq_true,beq_iff_eq]at hd
 have e:dn x.ak.rounds r=(x.ak.rounds.getD (x.ak.rounds.findIdx (MA r)) (au .ay)).db:=by
  rw[dn,if_pos hh]
  have hh2:x.ak.rounds.any (MA r)=true:=hh
  rw[fidx,if_pos hh2];rfl
 rw[e]
 exact⟨hd.1.2,by rw[←har];exact hd.2⟩
theorem TY{x:aJ}(h:okW x=true){r:Int}(hh:gw x.ak.rounds r=true)(s:Int):iV (dn x.ak.rounds r) (bg s x.rows)=true:=by
 obtain⟨h1,h2⟩:=zO h hh
 apply zu
 have hs:bN (bg s x.rows) ((dn x.ak.rounds r).rows.length:Int)=true:=by rw[h2];exact pG (lK h).1
 rw[dM,h1,hs]
 simp only[Bool.and_self,if_true]
 rw[cP,oX]
 omega
theorem KK{x:aJ}(h:okW x=true)(k:Nat)(hk:k≤x.ah.length):ES x.round (fW x k).1∧(fW x k).1.length=x.ah.length∧(fW x k).2.length≤x.replaced.length+k:=by
 have h1:=TD (rows:=x.rows) (rd:=x.round) (p:=(x.ah,x.replaced)) (Il x k) (X7 h) (Il x k).length (Nat.le_refl _)
 have h2:=Im x.rows x.round (x.ah,x.replaced) (Il x k) (Il x k).length (Nat.le_refl _)
 rw[List.take_length]at h1 h2
 have h3:=Is x k
 exact⟨h1,h2.1,by have h4:=h2.2;show(Fq x.rows x.round (x.ah,x.replaced) (Il x k)).2.length≤_;dsimp only at h4;omega⟩
theorem EX{x:aJ}(h:uO x=false):testW x=x:=by rw[testW,h];rfl
theorem Be{x:aJ}(h:uO x=true):testW x=⟨x.rows,(fW x x.ah.length).1,x.af,x.ak,x.az,x.seed,x.round,(fW x x.ah.length).2,x.cancelled⟩:=by rw[testW,if_pos h]
theorem MK{x:aJ}(h:oy x=true):kS x=wN (testW (aQ x (gT x.az (aN x) (bH (aN x)) (dO x) (aN x).length) (jw (bH (aN x))))):=by rw[kS,if_pos h]
theorem TZ{x:aJ}(h:wB x):x.ak.rounds.length≤1048576∧ ∀y,y∈x.ak.rounds→bX List.length y.db.rows≤1048576:=by
 have h2:bX aZ x.ak.rounds≤1048576:=h.2.2.1
 refine⟨cI h2,fun y hy=> ?_⟩
 obtain⟨i,hi⟩:=List.mem_iff_getElem?.1 hy
 exact gF h2 hi
end
section
theorem WS{x:aJ}(h:wB x)(hok:okW x=true)(hr:x.replaced.length≤4194000):wB (aQ x (gT x.az (aN x) (bH (aN x)) (dO x) (aN x).length) (jw (bH (aN x))))∧wB (testW (aQ x (gT x.az (aN x) (bH (aN x)) (dO x) (aN x).length) (jw (bH (aN x))))):=by
 have h1:=uM x.az (aN x) (bH (aN x)) (dO x) (aN x).length
 have h4:=(cN hok).1
 rw[mA hok]at h1
 have hc:wC x 4194000:=⟨h.1,h.2.1,h.2.2.1,hr⟩
 have h2:=Kz (g:=gT x.az (aN x) (bH (aN x)) (dO x) (aN x).length) (d:=jw (bH (aN x))) hc (BO _ (kR _))
 rw[mA hok]at h2 ⊢
 exact⟨WK h2 (by omega),WK (Ou h2) (by omega)⟩
end
section
theorem WT{c:ep}{b:List UInt8}(h:A8 c b=false):mB c b=c:=by rw[mB,h];rfl
theorem EY{c:ep}{b:List UInt8}(h:A8 c b=true):mB c b=TN c b:=by rw[mB,if_pos h]
theorem WU{d:aL}{b:List UInt8}(h:Ci d b=false):Cj d b=d:=by rw[Cj,h];rfl
theorem T0{d:aL}{b:List UInt8}(h:Ci d b=true):Cj d b=⟨mB d.live b,mB d.saved b⟩:=by rw[Cj,if_pos h]
theorem T1{x:aJ}{c:Int}(h:iJ x c=true):aP (x.af.getD c.toNat (au .aL))≤1048576:=by
 have:=qW (Z5 h)
 unfold Ch at this
 omega
theorem Z8{x:aJ}{c:Int}{b:List UInt8}(h:iJ x c=false):CY x c b=x∧KA x c b=false:=⟨by rw[CY,h];rfl,by rw[KA,h];rfl⟩
theorem WV{x:aJ}{c:Int}{b:List UInt8}(h:iJ x c=true):CY x c b=Qf x c.toNat (Cj (Ch x c) b)∧KA x c b=Ci (Ch x c) b:=⟨by rw[CY,if_pos h],by rw[KA,h,Bool.true_and]⟩
theorem Z9{x:aJ}{c:Int}(h:iJ x c=false):TJ x c=x:=by rw[TJ,h];rfl
theorem WW{x:aJ}{c:Int}(h:iJ x c=true):TJ x c=Qf x c.toNat (WM (Ch x c)):=by rw[TJ,if_pos h]
theorem aaa{x:aJ}{i b:Int}(h:EU x i b=false):TL x i b=x:=by rw[TL,h];rfl
theorem WX{x:aJ}{i b:Int}(h:EU x i b=true):TL x i b=acm x i.toNat (beh (x.ah.getD i.toNat (au .aO)) b):=by rw[TL,if_pos h]
end
section
theorem E1{a:gW}(h:a.rounds= []):bR a= -1:=by rw[bR,h];rfl
end
section
theorem Uh(x:Int):0≤Qm x∧Qm x≤255:=by
 have h:(BitVec.ofInt IntKind.i64.bits x&&&BitVec.ofInt IntKind.i64.bits 255).toNat≤255:=by
  rw[BitVec.toNat_and];exact Nat.le_trans Nat.and_le_right (by decide)
 unfold Qm
 rw[bl (by omega)];omega
theorem jy.x_b(c:jy):0≤c.x∧c.x≤255:=by
 unfold jy.x
 split
 ·exact Uh _
 ·exact Uh _
def bZ(c:jy)(n:Int):Int:=if n≤0 then 0 else if n≤256 then c.x.tmod n else(IntKind.i64.wrap (IntKind.i64.wrap (IntKind.i64.wrap (c.x*65536)+IntKind.i64.wrap (c.n.x*256))+c.n.n.x)).tmod n
def aI(c:jy)(n:Int):jy:=if n≤0 then c else if n≤256 then c.n else c.n.n.n
theorem ef(c:jy)(n:Int):(aI c n).b=c.b:=by
 unfold aI
 split
 ·rfl
 ·split<;>rfl
theorem lT(c:jy){n:Int}(h:0<n):0≤bZ c n∧bZ c n<n:=by
 have h1:=c.x_b;have h2:=c.n.x_b;have h3:=c.n.n.x_b
 unfold bZ
 rw[if_neg (by omega)]
 split
 ·rw[dj h1.1];exact⟨Int.emod_nonneg _ (by omega),Int.emod_lt_of_pos _ h⟩
 ·rw[bl (a:=c.x*65536) (by omega),bl (a:=c.n.x*256) (by omega),bl (a:=c.x*65536+c.n.x*256) (by omega),bl (by omega),dj (by omega)]
  exact⟨Int.emod_nonneg _ (by omega),Int.emod_lt_of_pos _ h⟩
theorem Ui(c:jy)(n:Int):0≤bZ c n:=by
 by_cases h:0<n
 ·exact(lT c h).1
 ·rw[bZ,if_pos (by omega)];exact Int.le_refl 0
def IP(c:jy):Nat→jy
 |0=>c
 |k+1=>(IP c k).n
def OK(c:jy):Nat→List UInt8
 |0=> []
 |k+1=>OK c k++ [b8 (IP c k).x]
theorem Uj(c:jy): ∀k,(IP c k).b=c.b
 |0=>rfl
 |k+1=>Uj c k
theorem C3(c:jy): ∀k,(OK c k).length=k
 |0=>rfl
 |k+1=>by rw[OK,List.length_append,C3 c k];rfl
def acy(h:Int)(x:UInt8):Int:=IntKind.i64.wrap (BitVec.ofInt IntKind.i64.bits (IntKind.i64.wrap (IntKind.i64.wrap (IntKind.i64.wrap (h*137)+IntKind.i64.wrap (x.toNat:Int))+11))&&&BitVec.ofInt IntKind.i64.bits 1073741823).toNat
def W7(l:List UInt8)(k:Nat):Int:=(l.take k).foldl acy (IntKind.i64.wrap (193017+(l.length:Int)))
theorem Qo{l:List UInt8}{k:Nat}(h:k<l.length):W7 l (k+1)=acy (W7 l k) (l.getD k (au .u8)):=jK _ _ _ _ _ h
def E3(l:List UInt8):Nat:=min l.length 4000
def qZ(l:List UInt8):jy:=⟨l,0,W7 l (E3 l)⟩
theorem aah{l:List UInt8}{k:Nat}(h:(if decide ((k:Int)<(l.length:Int))=true then decide ((k:Int)<4000)else false)=true):k<E3 l:=by
 unfold E3
 by_cases h1:(k:Int)<(l.length:Int)
 ·rw[if_pos (by simpa using h1),decide_eq_true_eq]at h;omega
 ·rw[if_neg (by simpa using h1)]at h;cases h
theorem W8{l:List UInt8}{k:Nat}(hk:k≤E3 l)(h:(if decide ((k:Int)<(l.length:Int))=true then decide ((k:Int)<4000)else false)=false):k=E3 l:=by
 unfold E3 at hk ⊢
 by_cases h1:(k:Int)<(l.length:Int)
 ·rw[if_pos (by simpa using h1),decide_eq_false_iff_not]at h;omega
 ·omega
def mW(l:List UInt8)(m:Int):Int:=if IntKind.i64.wrap (3+IntKind.i64.wrap ((l.length:Int).tdiv 12))>m then m else IntKind.i64.wrap (3+IntKind.i64.wrap ((l.length:Int).tdiv 12))
def nwC(seed:Int)(i:Nat):ep:=⟨(i:Int),((i^^^1:Nat):Int),CK (kh seed [199,(i:Int).tdiv 2]),kh seed [211,(i:Int)],[],0,[],0⟩
def nwD(seed:Int)(i:Nat):aL:=⟨nwC seed i,nwC seed i⟩
def nwS(rows:Int)(i:Nat):aO:=⟨(i:Int),rows,0,[],0⟩
def Cp(rows:Int)(n:Nat):List aO:=(List.range n).map (nwS rows)
def tq(seed:Int)(n:Nat):List aL:=(List.range n).map (nwD seed)
def Uk(rows:Int)(s p:Nat)(seed:Int):aJ:=⟨rows,Cp rows s,tq seed (2*p),⟨rows,[]⟩,CK (kh seed [197]),seed,0,[],0⟩
theorem Iy(rows:Int)(n:Nat):(Cp rows n).length=n:=by simp[Cp]
theorem Iz(seed:Int)(n:Nat):(tq seed n).length=n:=by simp[tq]
theorem Ul(rows:Int)(k:Nat):Cp rows (k+1)=Cp rows k++ [nwS rows k]:=rV _ k
theorem Um(seed:Int)(k:Nat):tq seed (k+1)=tq seed k++ [nwD seed k]:=rV _ k
theorem Qp(i:Nat):((i^^^1:Nat):Int).tdiv 2=(i:Int).tdiv 2:=by
 have h:(i^^^1)/2=i/2:=by
  rw[Nat.xor_div_two]
  simp
 rw[ue (by omega),ue (by omega)]
 omega
theorem OL(i:Nat):i^^^1≠i:=by
 intro h
 have h2:(i^^^1)^^^i=i^^^i:=by rw[h]
 rw[Nat.xor_comm i 1,Nat.xor_assoc,Nat.xor_self,Nat.xor_zero]at h2
 cases h2
theorem aai{seed:Int}{i:Nat}(hi:i<8):dh (nwC seed i)=true:=by
 have hk:=vE (dy seed [199,(i:Int).tdiv 2])
 have hx:i^^^1<8:=xd i 8 hi (by decide)
 have hn:=OL i
 have hB:Iq (nwC seed i):=by
  refine⟨Nat.zero_le _,Nat.zero_le _,?_,?_⟩<;>(intro b hb;cases hb)
 refine vN.2 ⟨⟨⟨by show 0≤(i:Int)∧(i:Int)≤7;omega,by show 0≤((i^^^1:Nat):Int)∧((i^^^1:Nat):Int)≤7;omega⟩,by show(i:Int)≠((i^^^1:Nat):Int);omega,?_⟩,hB,by show(0:Int)≤0∧(0:Int)≤0;omega,by show(0:Int)≤0;omega,by show(0:Int)≤100000;omega⟩
 show fA (CK _)=true
 unfold fA
 rw[an];omega
theorem W9{rows seed:Int}{s p:Nat}(hr:1≤rows∧rows≤64)(hs:2≤s∧s≤4)(hp:1≤p∧p≤4):okW (Uk rows s p seed)=true:=by
 have nj:=Iy rows s
 have j0:=Iz seed (2*p)
 have hk:=vE (dy seed [197])
 refine yd.ok ⟨hr,by show 2≤(Cp rows s).length∧(Cp rows s).length≤4;omega,by show 2≤(tq seed (2*p)).length∧(tq seed (2*p)).length≤8;omega,by show(tq seed (2*p)).length % 2=0;omega,lS.2 ⟨⟨hr,by show 0≤8;omega⟩,fun i hi=>by cases hi⟩,rfl,?_,?_,by show(0:Int)≤0∧(0:Int)≤100000;omega,by show(0:Int)≤0;omega,fun i hi=> ?_,fun i hi=> ?_⟩
 ·show bR ⟨rows,[]⟩<0
  rw[E1 rfl];decide
 ·show fA (CK _)=true
  unfold fA
  rw[an];omega
 ·have hi':i<s:=by have:i<(Cp rows s).length:=hi;omega
  have e:(Cp rows s).getD i (au .aO)=nwS rows i:=eg _ _ _ _ hi'
  show WY rows 0 i ((Cp rows s).getD i (au .aO))
  rw[e]
  exact⟨rfl,rfl,rfl,rfl,by show(0:Int)≤0;omega,by show(0:Int)≤3;omega⟩
 ·have hi':i<2*p:=by have:i<(tq seed (2*p)).length:=hi;omega
  have hx:=xd i (2*p) hi' (by omega)
  have e: ∀j,j<2*p→(tq seed (2*p)).getD j (au .aL)=nwD seed j:=fun j hj=>eg _ _ _ _ hj
  have hc:=aai (seed:=seed) (i:=i) (by omega)
  have aaj:cL (nwD seed i)=true:=Qi.iff.2 ⟨hc,hc,gE.2 ⟨⟨rfl,rfl,rfl,rfl⟩,rfl⟩,Int.le_refl _,Int.le_refl _,Bi _⟩
  show(cL ((tq seed (2*p)).getD i (au .aL))&&(((tq seed (2*p)).getD i (au .aL)).live.id==(i:Int))&&(((tq seed (2*p)).getD i (au .aL)).live.eu==((i^^^1:Nat):Int))&&(((tq seed (2*p)).getD i (au .aL)).live.key==((tq seed (2*p)).getD (i^^^1) (au .aL)).live.key)&&decide (((tq seed (2*p)).getD i (au .aL)).live.next≤0))=true
  rw[e i hi',e _ hx,aaj]
  simp only[Bool.and_eq_true,beq_iff_eq,decide_eq_true_eq]
  refine⟨⟨⟨⟨trivial,rfl⟩,rfl⟩,?_⟩,Int.le_refl _⟩
  show CK (kh seed [199,(i:Int).tdiv 2])=CK (kh seed [199,((i^^^1:Nat):Int).tdiv 2])
  rw[Qp]
theorem OM{c:ep}{b:List UInt8}(h:dh c=true):dh (mB c b)=true:=by
 unfold mB
 split
 ·rename_i hk;simp only[A8,Bool.and_eq_true]at hk;exact hk.2
 ·exact h
theorem GL(c:ep)(b:List UInt8):sL (mB c b) c∧(mB c b).next=c.next∧(mB c b).sent=c.sent∧(mB c b).inbox=c.inbox:=by
 unfold mB
 split
 ·exact⟨⟨rfl,rfl,rfl,rfl⟩,rfl,rfl,rfl⟩
 ·exact⟨⟨rfl,rfl,rfl,rfl⟩,rfl,rfl,rfl⟩
theorem Xa{d:aL}{b:List UInt8}(h:cL d=true):cL (Cj d b)=true∧sL (Cj d b).live d.live∧(Cj d b).live.next=d.live.next:=by
 unfold Cj
 split
 ·rename_i hk
  simp only[Ci,Bool.and_eq_true]at hk
  have hd:=Qi.iff.1 h
  obtain⟨p1,p2⟩:=gE.1 hd.same
  obtain⟨a1,a2,a3,a4⟩:=GL d.live b
  obtain⟨b1,b2,b3,b4⟩:=GL d.saved b
  refine⟨Qi.iff.2 ⟨OM hd.live,OM hd.saved,gE.2 ⟨⟨a1.1.trans (p1.1.trans b1.1.symm),a1.2.1.trans (p1.2.1.trans b1.2.1.symm),a1.2.2.1.trans (p1.2.2.1.trans b1.2.2.1.symm),a1.2.2.2.trans (p1.2.2.2.trans b1.2.2.2.symm)⟩,?_⟩,?_,?_,?_⟩,a1,a2⟩
  ·show(mB d.live b).av=(mB d.saved b).av
   rw[EY hk.1.2,EY hk.2]
   show d.live.av++ [b]=d.saved.av++ [b]
   rw[p2]
  ·show(mB d.saved b).sent≤(mB d.live b).sent
   rw[a3,b3];exact hd.sent
  ·show(mB d.saved b).next≤(mB d.live b).next
   rw[a2,b2];exact hd.next
  ·show AK (mB d.saved b).inbox (mB d.live b).inbox=true
   rw[a4,b4];exact hd.pre
 ·exact⟨h,⟨rfl,rfl,rfl,rfl⟩,rfl⟩
theorem Un{x:aJ}{c:Int}{b:List UInt8}(h:okW x=true):okW (CY x c b)=true:=by
 unfold CY
 split
 ·rename_i hk
  obtain⟨h1,h2,h3⟩:=Uf hk
  obtain⟨q1,q2,q3⟩:=Xa (b:=b) h2
  exact Ix h h1 q1 q2 (by rw[q3];exact h3)
 ·exact h
theorem sy.sm{x:aJ}{n:Nat}{c:Int}{b:List UInt8}(h:sy x n):sy (CY x c b) n:=by
 refine⟨Un h.ok,?_,?_,?_⟩<;>(unfold CY;split)<;>first|exact h.round|exact h.oA|exact h.KO
def gO(p:jy×aJ):jy×aJ:=
 (IP (aI (aI p.1 p.2.af.length) 4) (bZ (aI p.1 p.2.af.length) 4).toNat,CY p.2 (bZ p.1 p.2.af.length) (OK (aI (aI p.1 p.2.af.length) 4) (bZ (aI p.1 p.2.af.length) 4).toNat))
def Uo(k:Int)(p:jy×aJ):jy×aJ:=
 if k=0 then gO p
 else if k=1 then(aI p.1 p.2.af.length,TJ p.2 (bZ p.1 p.2.af.length))
 else if k=2 then(aI (aI p.1 p.2.ah.length) 4,TL p.2 (bZ p.1 p.2.ah.length) (bZ (aI p.1 p.2.ah.length) 4))
 else(p.1,kS p.2)
def cR(p:jy×aJ):jy×aJ:=Uo (bZ p.1 8) (aI p.1 8,p.2)
def bP{α:Type}(f:α→α)(a:α):Nat→α
 |0=>a
 |k+1=>f (bP f a k)
def MQ:List Int:= [12,16]
def ON(c:jy):jy:=aI (aI (aI (aI c 2) 2) 2) 999
def nw0(c:jy):aJ:=Uk (MQ.getD (bZ c 2).toNat (au .int)) (2+bZ (aI c 2) 2).toNat (1+bZ (aI (aI c 2) 2) 2).toNat (bZ (aI (aI (aI c 2) 2) 2) 999)
def n32(c:jy):Nat:=(bZ (ON c) 5).toNat
def hY(c:jy):jy×aJ:=(aI (ON c) 5,nw0 c)
def sQ(c:jy):jy×aJ:=bP gO (hY c) (n32 c)
def Up(c:jy)(s:Int):Nat:=(bZ (sQ c).1 s).toNat
def cY(c:jy)(s:Int):jy×aJ:=(aI (sQ c).1 s,(sQ c).2)
def Cq(c:jy)(s:Int):jy×aJ:=bP cR (cY c s) (Up c s)
def aT(l:List UInt8):aJ:=(Cq (qZ l) (3+mW l 12)).2
theorem Uq(l:List UInt8)(h:l.length≤1048576){m:Int}(hm:3≤m):3≤mW l m∧mW l m≤m:=by
 unfold mW
 rw[ue (by omega),bl (a:=(l.length:Int)/12) (by omega),bl (by omega)]
 split<;>omega
theorem Ur(p:jy×aJ):(gO p).1.b=p.1.b:=by
 show(IP _ _).b=_
 rw[Uj,ef,ef]
theorem acA(p:jy×aJ):(cR p).1.b=p.1.b:=by
 unfold cR Uo
 split
 ·rw[Ur];exact ef _ _
 ·split
  ·show(aI (aI p.1 8) _).b=_;rw[ef,ef]
  ·split
   ·show(aI (aI (aI p.1 8) _) 4).b=_;rw[ef,ef,ef]
   ·exact ef _ _
theorem OO{f:jy×aJ→jy×aJ}(h: ∀p,(f p).1.b=p.1.b)(p:jy×aJ): ∀k,(bP f p k).1.b=p.1.b
 |0=>rfl
 |k+1=>(h _).trans (OO h p k)
theorem Yb(c:jy):(ON c).b=c.b:=by unfold ON;rw[ef,ef,ef,ef]
theorem Yc(c:jy):(sQ c).1.b=c.b:=by
 unfold sQ
 rw[OO Ur]
 show(aI (ON c) 5).b=c.b
 rw[ef,Yb]
theorem OP{c:jy}:MQ.getD (bZ c 2).toNat (au .int)=12∨MQ.getD (bZ c 2).toNat (au .int)=16:=by
 have h:=lT c (n:=2) (by omega)
 rcases(show(bZ c 2).toNat=0∨(bZ c 2).toNat=1 by omega)with e|e<;>rw[e]
 ·exact Or.inl rfl
 ·exact Or.inr rfl
theorem Yd(c:jy):sy (nw0 c) 0∧(nw0 c).af.length≤4∧(nw0 c).ah.length≤3:=by
 have h1:=lT (aI c 2) (n:=2) (by omega)
 have h2:=lT (aI (aI c 2) 2) (n:=2) (by omega)
 have h3:=OP (c:=c)
 refine⟨⟨W9 (by omega) (by omega) (by omega),Int.le_refl 0,Int.le_refl 0,Nat.le_refl 0⟩,?_,?_⟩
 ·show(tq _ _).length≤4
  rw[Iz];omega
 ·show(Cp _ _).length≤3
  rw[Iy];omega
theorem Ut{p:jy×aJ}{n:Nat}(h:sy p.2 n):sy (gO p).2 n:=h.sm
theorem acB{p:jy×aJ}{n:Nat}(h:sy p.2 n)(hn:n≤99998):sy (cR p).2 (n+1):=by
 unfold cR Uo
 split
 ·exact(Ut (p:=(aI p.1 8,p.2)) h).mono (by omega)
 ·split
  ·exact h.cc.mono (by omega)
  ·split
   ·exact h.co.mono (by omega)
   ·exact h.rd hn
theorem acC(c:jy):sy (sQ c).2 0:=by
 have: ∀k,sy (bP gO (hY c) k).2 0:=by
  intro k
  induction k with
  |zero=>exact(Yd c).1
  |succ k ih=>exact Ut ih
 exact this _
theorem Uu(c:jy)(s:Int): ∀k,k≤99998→sy (bP cR (cY c s) k).2 k
 |0,_=>acC c
 |k+1,h=>acB (Uu c s k (by omega)) (by omega)
theorem Ye(c:jy){s:Int}(h:0<s):(Up c s:Int)<s:=by
 have:=lT (sQ c).1 h
 unfold Up;omega
theorem OQ{l:List UInt8}(h:l.length≤1048576):sy (aT l) 15:=by
 have h1:=Uq l h (m:=12) (by omega)
 have h2:=Ye (qZ l) (s:=3+mW l 12) (by omega)
 exact(Uu (qZ l) (3+mW l 12) _ (by omega)).mono (by omega)
end
section
theorem Xb:(Tryz.prog.info? 215).map (fun i=>(i.zero,i.size,i.bytes))=some (some (.agg #[.slice none 0 0, .int .i64 0, .int .i64 0]),3,40):=by kernel_rfl
theorem Uv:cA Tryz.prog 215 (.st [.slice none 0 0, .int .i64 0, .int .i64 0] [some .u8,none,none] [0,1,2]):=iY Tryz.underlying215 Xb rfl (by kernel_rfl)
def aak:List (Nat×TK):=(215, .st [.slice none 0 0, .int .i64 0, .int .i64 0] [some .u8,none,none] [0,1,2])::tys
def Γ2(t:Nat):TK:=match look aak t with|some k=>k|none=> .other
theorem aal: ∀e,e∈aak→cA Tryz.prog e.1 e.2:=by
 intro e he
 rcases List.mem_cons.1 he with rfl|he
 ·exact Uv
 ·exact kinds e he
theorem acD: ∀e,e∈aak→(∀z tg fo,e.2≠ .st z tg fo)→(Tryz.prog.info? e.1).map (·.size)=some 1:=by
 intro e he h
 rcases List.mem_cons.1 he with rfl|he
 ·exact absurd rfl (h _ _ _)
 ·exact abJ e he h
theorem X2:Ctx Tryz.prog ty Γ2 where
 kind:=fun t=>by
  unfold Γ2
  split
  ·rename_i k hk;exact aal (t,k) (ew hk)
  ·trivial
 one:=fun t h1 h2=>by
  unfold Γ2 at h1 h2
  split at h1
  ·rename_i k hk;exact acD (t,k) (ew hk) h1
  ·rename_i hk;rw[hk]at h2;exact absurd rfl h2
end
end Go.Proofs.YteodajeiagmekaaGreat.G
