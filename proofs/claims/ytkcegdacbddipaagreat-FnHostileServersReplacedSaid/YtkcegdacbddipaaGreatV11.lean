/-
  Worlds that are drawn, and bent. No program in sight.
-/
import Derived.Test.YtkcegdacbddipaaGreatV10
namespace Go.Proofs.YtkcegdacbddipaaGreat.G
set_option linter.all false
open Go.RowKit L D
section
theorem Ox(a:List UInt8):(mI a).data.toList=a:=rfl
theorem zg(a:List UInt8):(mI a).size=a.length:=rfl
theorem IP(l:List (List UInt8)):l.map ((fun x:ByteArray=>x.data.toList)∘mI)=l:=List.map_id l
end
section
set_option maxRecDepth 100000
def xy(x:aV):Nat:=(cQ dr) x.aj+(cQ bD) x.aa+ey x.az+List.length x.replaced
end
section
def DQ(x:aV)(i:Nat)(s:aX):aV:=⟨x.rows,x.aj.set i s,x.aa,x.az,x.aT,x.seed,x.round,x.replaced,x.cancelled⟩
def TZ(s:aX)(b:Int):aX:=⟨s.id,s.rows,s.round,s.received,b⟩
def xV(x:aV)(i b:Int):Bool:=(okW x&&inr i 0 (IntKind.i64.wrap ((x.aj.length:Int)-1)))&&inr b 0 3
def wg(x:aV)(i b:Int):aV:=if xV x i b then DQ x i.toNat (TZ (x.aj.getD i.toNat (aB .aX)) b)else x
theorem Sr{x:aV}{i b:Int}(h:xV x i b=true):okW x=true∧(0≤i∧i<x.aj.length)∧0≤b∧b≤3:=by
 simp only[xV,Bool.and_eq_true,bN]at h
 have:=dj h.1.1
 rw[bh (a:=(x.aj.length:Int)-1) (by omega)]at h
 exact⟨h.1.1,by omega,h.2⟩
end
section
def qF(x:aV):Int:=wA 400 (IntKind.i64.wrap (20+IntKind.i64.wrap (8*N2 (N2 0 (tB x.aa x.aa.length)) (HQ x.aa x.aa.length))))
end
section
theorem YR{x:aV}{i b:Int}(h:xV x i b=false):wg x i b=x:=by rw[wg,h];rfl
theorem VI{x:aV}{i b:Int}(h:xV x i b=true):wg x i b=DQ x i.toNat (TZ (x.aj.getD i.toNat (aB .aX)) b):=by rw[wg,if_pos h]
end
section
theorem JL{x:aV}(h:okW x=true):okW (testW x)=true:=by
 unfold testW
 split
 ·have w:=yx.of h
  have hp:=Hv (rows:=x.rows) (rd:=x.round) (Ep x x.aj.length) (p:=(x.aj,x.replaced)) w.VL.2 w.sv
  have w2:=w.VL
  refine yx.ok ⟨w.rows,?_,w.T1,w.even,w.FF,w.yy,w.last,w.key,w.round,w.lF,hp.1,fun i hi=>FG (x:=x) rfl (Int.le_refl _) (w.dv i hi)⟩
  have W5:(DM x.rows x.round (x.aj,x.replaced) (Ep x x.aj.length)).1.length=x.aj.length:=hp.2
  show 2≤(DM x.rows x.round (x.aj,x.replaced) (Ep x x.aj.length)).1.length∧(DM x.rows x.round (x.aj,x.replaced) (Ep x x.aj.length)).1.length≤4
  rw[W5];exact w2
 ·exact h
end
section
theorem FI(rows:Int)(l:List aM):(dV rows l).rows.length=(cE rows).rows.length:=FH (fun r:aM=>r.share) l _
theorem SR(d:DB):(alt d).rows.length=d.rows.length:=List.length_set ..
theorem SS{x:aV}(h:okW x=true){d:DB}(hd:d∈bK (aY x)):(d.rows.length:Int)=x.rows:=by
 obtain⟨s,hs,rfl⟩:=List.mem_map.1 hd
 obtain⟨i,hi⟩:=List.mem_iff_getElem?.1 hs
 have hl:i<x.aj.length:=by
  have:=(List.getElem?_eq_some_iff.1 hi).1
  rw[dX h]at this;exact this
 have e:s=ef x x.aa.length i:=by
  rw[←qH h hl,List.getD_eq_getElem?_getD,hi];rfl
 have hr:s.rows=x.rows:=by rw[e];exact(A5 h hl).2.1
 have hk:bS s=true:=by rw[e];exact oq h hl (Nat.le_refl _)
 have hw:=lM h
 have hn:((cE s.rows).rows.length:Int)=x.rows:=by rw[hr];exact qG (by omega)
 unfold fQ
 rw[if_pos hk]
 split
 ·rw[SR,FI];exact hn
 ·rw[FI];exact hn
theorem JN: ∀(l:List DB) (a:DB),cg a=true→(∀d,d∈l→cg d=true∧d.rows.length=a.rows.length)→ ∃d,HP a l=some d∧d.rows.length=a.rows.length
 | [],a,_,_=>⟨a,rfl,rfl⟩
 |s::r,a,ha,hl=>by
  have hs:=hl s (List.mem_cons_self ..)
  have hx:gu a s=true:=by
   simp only[gu,Bool.and_eq_true,decide_eq_true_eq]
   exact⟨⟨ha,hs.1⟩,by omega⟩
  have he:=qz a s
  obtain⟨d,h1,h2⟩:=JN r (eL a s) (uf ha) (fun d hd=>by
   have:=hl d (List.mem_cons_of_mem _ hd)
   exact⟨this.1,by omega⟩)
  exact⟨d,by rw[HP,if_pos hx,h1],by omega⟩
theorem JO{x:aV}(h:okW x=true):Bi (bK (aY x))=true∧((jw (bK (aY x))).rows.length:Int)=x.rows:=by
 have hs:=dj h
 have hl:(bK (aY x)).length=x.aj.length:=by rw[show(bK (aY x)).length=(aY x).length from List.length_map ..,dX h]
 have h0:(bK (aY x)).getD 0 (aB .DB)∈bK (aY x):=getD_in _ (by omega)
 have e0:=SS h h0
 obtain⟨d,h1,h2⟩:=JN ((bK (aY x)).drop 1) ((bK (aY x)).getD 0 (aB .DB)) (n9 (aY x) _ h0) (fun d hd=>by
  have hm:=List.mem_of_mem_drop hd
  have:=SS h hm
  exact⟨n9 (aY x) _ hm,by omega⟩)
 have e:Lv (bK (aY x))=some d:=by
  rw[Lv,if_pos (by simp only[b7,bN];omega),h1]
 exact⟨by rw[Bi,e];rfl,by rw[jw,e];show(d.rows.length:Int)=x.rows;omega⟩
end
section
def VV(c:O1)(n:Int):O1:=if n≤0 then c else if n≤256 then c.n else c.n.n.n
theorem YU{x:aV}{i b:Int}(h:okW x=true):okW (wg x i b)=true:=by
 unfold wg
 split
 ·rename_i hk
  obtain⟨_,h1,h2⟩:=Sr hk
  have w:=yx.of h
  refine yx.ok ⟨w.rows,by show 2≤(x.aj.set i.toNat (TZ (x.aj.getD i.toNat (aB .aX)) b)).length∧(x.aj.set i.toNat (TZ (x.aj.getD i.toNat (aB .aX)) b)).length≤4;rw[List.length_set];exact w.VL,w.T1,w.even,w.FF,w.yy,w.last,w.key,w.round,w.lF,fun j hj=> ?_,w.dv⟩
  have hj:j<x.aj.length:=by have:j<(x.aj.set i.toNat (TZ (x.aj.getD i.toNat (aB .aX)) b)).length:=hj;rwa [List.length_set]at this
  show W4 x.rows x.round j ((x.aj.set i.toNat (TZ (x.aj.getD i.toNat (aB .aX)) b)).getD j (aB .aX))
  rw[fP _ _ hj]
  have hq:=w.sv j hj
  split
  ·rename_i e
   subst e
   obtain⟨q1,q2,q3,q4,_⟩:=hq
   exact⟨q1,q2,q3,q4,h2.1,h2.2⟩
  ·exact hq
 ·exact h
theorem abg(x:aV):(yI x).round=x.round∧(yI x).cancelled=x.cancelled∧(yI x).replaced=x.replaced∧(yI x).rows=x.rows∧(yI x).aj=x.aj∧(yI x).az=x.az∧(yI x).aa.length=x.aa.length∧(yI x).aT=x.aT:=by
 unfold yI
 split
 ·exact⟨rfl,rfl,rfl,rfl,rfl,rfl,List.length_map ..,rfl⟩
 ·exact⟨rfl,rfl,rfl,rfl,rfl,rfl,rfl,rfl⟩
theorem VW(x:aV):(testW x).round=x.round∧(testW x).cancelled=x.cancelled∧(testW x).rows=x.rows∧(testW x).az=x.az∧(testW x).aa=x.aa∧(testW x).aT=x.aT:=by
 unfold testW
 split
 ·exact⟨rfl,rfl,rfl,rfl,rfl,rfl⟩
 ·exact⟨rfl,rfl,rfl,rfl,rfl,rfl⟩
theorem O2{x:aV}(h:okW x=true)(hc:x.cancelled<9223372036854775807):okW (bE x)=true:=by
 unfold bE
 split
 ·rename_i hk
  have hr:x.round<99999:=by simp only[jj,h,Bool.true_and,Bool.not_eq_true',decide_eq_false_iff_not]at hk;omega
  exact Hw (JL (Af h hr hc fun _=>⟨FA _ (n9 _),(JO h).2⟩))
 ·exact h
theorem SX{x:aV}(h:okW x=true)(hr:x.round<99999)(hc:x.cancelled<9223372036854775807):(bE x).round=x.round+1∧(bE x).cancelled=(if(gY x.aT (aY x) (bK (aY x)) (eX x) (aY x).length).length=0 then x.cancelled else x.cancelled+1)∧(bE x).rows=x.rows∧(bE x).aa.length=x.aa.length∧bR (bE x).az=(if(gY x.aT (aY x) (bK (aY x)) (eX x) (aY x).length).length=0 then x.round else bR x.az):=by
 have w:=yx.of h
 have w3:=w.round;have w4:=w.lF
 have hk:=kQ h hr
 rw[bE,if_pos hk]
 obtain⟨a1,a2,_,a4,_,a6,a7,_⟩:=abg (testW (bQ x (gY x.aT (aY x) (bK (aY x)) (eX x) (aY x).length) (jw (bK (aY x)))))
 obtain⟨b1,b2,b3,b4,b5,_⟩:=VW (bQ x (gY x.aT (aY x) (bK (aY x)) (eX x) (aY x).length) (jw (bK (aY x))))
 have hj:=JO h
 rw[a1,a2,a4,a6,a7,b1,b2,b3,b4,b5,bQ,if_pos hk]
 refine⟨bh (by omega),?_,rfl,rfl,?_⟩
 ·dsimp only
  split
  ·rfl
  ·exact bh (by omega)
 ·dsimp only
  split
  ·exact(LB w.FF w3 w.last (FA _ (n9 _)) (by rw[w.yy];exact hj.2)).2.1
  ·rfl
theorem wh.R{x:aV}{n:Nat}(h:wh x n)(hn:n≤100000):wR x:=W2 h.C (by omega)
theorem wh.co{x:aV}{n:Nat}{i b:Int}(h:wh x n):wh (wg x i b) n:=by
 refine⟨YU h.ok,?_,?_,?_⟩<;>(unfold wg;split)<;>first|exact h.round|exact h.lF|exact h.Bp
theorem wh.rd{x:aV}{n:Nat}(h:wh x n)(hn:n≤99998):wh (bE x) (n+1):=by
 have h1:=h.round;have h2:=h.lF
 have hf:=SX h.ok (by omega) (by omega)
 have hC:=JC h.C
 refine⟨O2 h.ok (by omega),by omega,?_,by have:=hC.2.2.2;omega⟩
 rw[hf.2.1];split<;>omega
end
section
theorem YY{b:List UInt8}(h:0<b.length):Fw b≠b:=by
 intro he
 have h1:(Fw b).getD 0 (aB .u8)=b.getD 0 (aB .u8):=by rw[he]
 unfold Fw at h1
 rw[fP _ _ h,if_pos rfl]at h1
 have h2:b.getD 0 (aB .u8)^^^(b.getD 0 (aB .u8)^^^128)=b.getD 0 (aB .u8)^^^b.getD 0 (aB .u8):=by rw[h1]
 rw[←UInt8.xor_assoc,UInt8.xor_self,UInt8.zero_xor]at h2
 exact absurd h2 (by decide)
theorem LJ{x:aV}(h:okW x=true)(hh:gh x.az.rounds (bR x.az)=true){k:Nat}(hb:(x.aj.getD k (aB .aX)).behavior=3):Px x k=true:=by
 have T0:=Nl h hh (kh x.seed [227,x.round,(k:Int)])
 have h24:=ue T0
 have e:YG x k=Vt (tsK x k) (x.aj.getD k (aB .aX)).id (bR x.az) (bw (kh x.seed [227,x.round,(k:Int)]) x.rows) (Fw (eg (fG x.az.rounds (bR x.az)) (bw (kh x.seed [227,x.round,(k:Int)]) x.rows))):=by
  unfold YG
  rw[GX,if_pos T0,if_pos hb]
 unfold Px YF
 rw[e]
 simp only[Bool.and_eq_true,Bool.not_eq_true',beq_eq_false_iff_ne]
 exact⟨by unfold OW Vt;simp,YY (by omega)⟩
theorem D2{a:iC}(h:0<a.rounds.length):gh a.rounds (bR a)=true:=by
 rw[pO h]
 refine List.any_eq_true.2 ⟨a.rounds.getD (a.rounds.length-1) (aB .aJ),getD_in _ (by omega),?_⟩
 unfold MQ;simp
theorem V0{x:aV}(h:okW x=true)(ha:0<x.az.rounds.length):ry x=true:=by rw[ry,h,D2 ha];rfl
end
section
theorem Tc{α:Type}{l:List α}{a:α}(d:α)(h:a∈l): ∃i,i<l.length∧l.getD i d=a:=by
 obtain⟨i,hi,rfl⟩:=List.mem_iff_getElem.1 h
 exact⟨i,hi,by rw[List.getD_eq_getElem?_getD,List.getElem?_eq_getElem hi];rfl⟩
end
section
section
variable{rows seed:Int}{m:List UInt8}{n d:Nat}{y z:aV}{r nx:Nat}{st:Bool}
theorem V7{seed:Int}{m:List UInt8}{d i:Nat}{nx:Int}{o:List UInt8}(h:Eo (iD (Er seed i) (1-oF i)) (((fZ m d (i^^^1)).length:Nat):Int) o=false):fu (dm seed m d true i nx) o=false:=by
 have:kJ (qR (dm seed m d true i nx)) (((dm seed m d true i nx).inbox.length:Nat):Int) o=false:=DE h
 unfold fu
 rw[this];rfl
theorem At.idle(h:At rows seed m n d y r true nx)(hq:Reads y z)(hr:r<99999)(ho: ∀i,i<n→EH rows seed m n n (r:Int) (fZ m d (i^^^1)).length i=false): ∀i,i<n→fF z (i:Int)=dm seed m d true i ((r+1:Nat):Int):=by
 intro i hi
 have hh:gA (dm seed m d true i (nx:Int)) (kR rows seed m n (dW n d true) (r:Int) (rG rows seed (r:Int) i))=false:=by
  unfold gA
  have:decide ((dm seed m d true i (nx:Int)).sent<(((dm seed m d true i (nx:Int)).aI.length:Nat):Int))=false:=by
   rw[decide_eq_false_iff_not]
   show¬((fZ m d i).length:Int)<((fZ m d i).length:Int)
   omega
  rw[this,Bool.false_and]
 rw[h.next hq i hi,J0 (h.kK hr hi) hh (V7 (o:=kR rows seed m n (dW n d true) (r:Int) (D7 rows seed (r:Int) i)) (ho i hi))]
 rfl
end
end
section
theorem Ed{α:Type}{f:Nat→List α}{k:Nat}: ∀n,k<n→(∀i,i<n→i≠k→f i= [])→(List.range n).flatMap f=f k
 |0,hk,_=>absurd hk (Nat.not_lt_zero _)
 |n+1,hk,h=>by
  rw[List.range_succ,List.flatMap_append]
  by_cases e:k=n
  ·subst e
   have:(List.range k).flatMap f= []:=by
    rw[List.flatMap_eq_nil_iff]
    intro i hi
    have hi:=List.mem_range.1 hi
    exact h i (by omega) (by omega)
   rw[this,List.nil_append];simp
  ·rw[Ed n (by omega) fun i hi=>h i (by omega)]
   have:=h n (by omega) (fun q=>e q.symm)
   simp[this]
def LU(x:aV)(k:Nat)(b:Int):Prop:=k<x.aj.length∧ ∀i,i<x.aj.length→(x.aj.getD i (aB .aX)).behavior=if i=k then b else 0
theorem Tx{x:aV}(h:okW x=true){k:Nat}(hk:k<x.aj.length):DM x.rows x.round (x.aj,x.replaced) [(k:Int)]=(x.aj.set k ⟨(k:Int),x.rows,x.round,[],0⟩,x.replaced++ [(k:Int)]):=by
 have w:=(yx.of h).VL
 have ho:uC x.aj (k:Int)=true:=by
  rw[uC,bN,bh (by omega)];omega
 show xS x.rows x.round (x.aj,x.replaced) (k:Int)=_
 rw[xS,if_pos ho];rfl
theorem NL{l:List aX}{k:Nat}{b:Int}{s:aX}(hk:k<l.length)(h: ∀i,i<l.length→(l.getD i (aB .aX)).behavior=if i=k then b else 0)(hs:s.behavior=0): ∀i,i<(l.set k s).length→((l.set k s).getD i (aB .aX)).behavior=0:=by
 intro i hi
 rw[List.length_set]at hi
 rw[fP _ _ hi]
 by_cases e:k=i
 ·rw[if_pos e];exact hs
 ·rw[if_neg e,h i hi,if_neg fun q=>e q.symm]
theorem Wd{l:List aX}(h: ∀i,i<l.length→(l.getD i (aB .aX)).behavior=0): ∀i,i<(l.map fN).length→((l.map fN).getD i (aB .aX)).behavior=0:=by
 intro i hi
 rw[List.length_map]at hi
 rw[getD_map fN _ (aB .aX) hi,D5,h i hi]
structure abA(x y:aV)(k:Nat)(c:Int):Prop where
 ok:okW y=true
 rows:y.rows=x.rows
 nd:y.aa.length=x.aa.length
 ns:y.aj.length=x.aj.length
 hon:hon y
 round:y.round=x.round+1
 lF:y.cancelled=x.cancelled+c
 Bp:y.replaced=x.replaced++ [(k:Int)]
theorem We{x:aV}(h:okW x=true){k:Nat}{b:Int}(hb:LU x k b)(hp: ¬(fQ (ef x x.aa.length k)).rows=(jZ (ef x x.aa.length k)).rows):gY x.aT (aY x) (bK (aY x)) (eX x) (aY x).length= [(k:Int)]:=by
 have hk:=hb.1
 have hl:(bK (aY x)).length=x.aj.length:=by rw[show(bK (aY x)).length=(aY x).length from List.length_map ..,dX h]
 unfold gY
 rw[dX h,Ed x.aj.length hk fun i hi e=>Td h hi (Or.inl (by rw[hb.2 i hi,if_neg e]))]
 have hid:=(A5 h hk).1
 have V4:(ef x x.aa.length k).id=(k:Int):=hid
 have W5:(bK (aY x)).getD k (aB .DB)=fQ (ef x x.aa.length k):=by
  unfold bK
  rw[getD_map fQ _ (aB .aX) (by rw[dX h];exact hk),qH h hk]
 have hok:=oq h hk (Nat.le_refl x.aa.length)
 have ha:xP (fY x.aT (k:Int)) (ef x x.aa.length k) (fQ (ef x x.aa.length k)) (eX x)=3:=by
  rw[pJ (k:=(eX x).length) (fun j hj=>FP h hk (getD_in _ hj)) (Nat.le_refl _)]
  rw[hok,show((fQ (ef x x.aa.length k)).rows==(jZ (ef x x.aa.length k)).rows)=false from by rw[beq_eq_false_iff_ne];exact hp];rfl
 have hbad:uB x.aT (aY x) (bK (aY x)) (eX x) k=true:=by
  unfold uB
  rw[qH h hk,W5,V4,ha,Bool.or_eq_true]
  right;rfl
 unfold OV
 rw[hbad,qH h hk,V4];rfl
theorem LV{x:aV}(h:okW x=true){k:Nat}{b:Int}(hb:LU x k b)(hp: ¬(fQ (ef x x.aa.length k)).rows=(jZ (ef x x.aa.length k)).rows)(hr:x.round<99999)(hc:x.cancelled<1000000)(hn: ∀i:Nat,i<x.aa.length→bR x.az<(fF x (i:Int)).next):
  abA x (bE x) k 1∧(bE x).az=x.az∧ ∀i:Nat,i<x.aa.length→fF (bE x) (i:Int)=fF x (i:Int):=by
 have w:=yx.of h
 have qY:=kQ h hr
 have hok:=Af (g:= [(k:Int)]) (d:=jw (bK (aY x))) h hr (by omega) (fun q=>by cases q)
 have BU:=DU (g:= [(k:Int)]) (d:=jw (bK (aY x))) qY (by show¬(1=0);decide)
 have abB:qB x [(k:Int)]=(x.aj.set k ⟨(k:Int),x.rows,x.round,[],0⟩,x.replaced++ [(k:Int)]):=Tx h hb.1
 generalize hy:bQ x [(k:Int)] (jw (bK (aY x)))=y at*
 have lP:y.aj=(x.aj.set k ⟨(k:Int),x.rows,x.round,[],0⟩).map fN:=by rw[BU,abB]
 have OX:y.aa=x.aa:=by rw[BU]
 have Y3:hon y:=by
  intro i hi
  rw[lP]at hi ⊢
  exact Wd (NL hb.1 hb.2 rfl) i hi
 have w1:=w.round;have w2:=w.lF
 have e:bE x=yI y:=by
  rw[ny qY,We h hb hp,hy,JZ Y3]
 have har:y.az=x.az:=by rw[BU]
 have Xy:y.aa.map (jP y)=x.aa:=by
  rw[OX]
  apply List.ext_getElem
  ·rw[List.length_map]
  ·intro i h1 h2
   rw[List.getElem_map]
   have hg:x.aa.getD i (aB .bg)=x.aa[i]:=by rw[List.getD_eq_getElem?_getD,List.getElem?_eq_getElem h2];rfl
   have hni:bR x.az<x.aa[i].live.next:=by rw[←hg];exact hn i h2
   have AB:nY y x.aa[i]= []:=by
    unfold nY eY
    rw[har,List.filter_eq_nil_iff.2 (fun z hz=>by have:=(Hu w.FF z hz).2;rw[decide_eq_true_eq];omega)];rfl
   unfold jP
   rw[AB];rfl
 have hrd:=ug hok
 rw[Xy]at hrd
 rw[e]
 refine⟨⟨Hw hok,by rw[hrd];rw[BU],by rw[hrd],by rw[hrd];show y.aj.length=_;rw[lP,List.length_map,List.length_set],by rw[hrd];exact Y3,?_,?_,?_⟩,by rw[hrd];exact har,fun i hi=>by rw[hrd];rfl⟩
 ·rw[hrd];show y.round=_;rw[BU];exact bh (by omega)
 ·rw[hrd];show y.cancelled=_;rw[BU];exact bh (by omega)
 ·rw[hrd];show y.replaced=_;rw[BU,abB]
theorem Pe{x:aV}(h:okW x=true){k:Nat}(hb:LU x k 3)(hr:x.round<99999)(hc:x.cancelled<1000000)(hn: ∀i:Nat,i<x.aa.length→bR x.az<(fF x (i:Int)).next∧(fF x (i:Int)).next≤x.round):
  abA x (bE x) k 0∧bR (bE x).az=x.round∧Reads x (bE x):=by
 have w:=yx.of h
 have wr:=w.rows
 have hW:LM x:=fun i hi=>by
  rw[hb.2 i hi]
  by_cases e:i=k
  ·rw[if_pos e];exact Or.inr rfl
  ·rw[if_neg e];exact Or.inl rfl
 have qY:=kQ h hr
 have hj:=(JY h hW (j:=0) (by omega) 0).1
 have hjl:((jw (bK (aY x))).rows.length:Int)=x.rows:=by have:=hj.2;omega
 obtain⟨c1,c2,c3,c4⟩:=Nt (d:=jw (bK (aY x))) h hr (by omega) hj.1 hjl
 have BU:=yp (g:= []) (d:=jw (bK (aY x))) qY rfl
 generalize hy:bQ x [] (jw (bK (aY x)))=y at*
 have lP:y.aj=x.aj.map fN:=by rw[BU];rfl
 have Kp:y.aj.length=x.aj.length:=by rw[lP,List.length_map]
 have OX:y.aa=x.aa:=by rw[BU]
 have hrw:y.rows=x.rows:=by rw[BU]
 have har:y.az.rounds=zU x.az x.round (jw (bK (aY x))):=by rw[BU]
 have OY:y.replaced=x.replaced:=by rw[BU];rfl
 have Is: ∀i,i<y.aj.length→(y.aj.getD i (aB .aX)).behavior=if i=k then 3 else 0:=fun i hi=>by
  rw[lP,getD_map fN _ (aB .aX) (by omega),D5]
  exact hb.2 i (by omega)
 have hpos:0<y.az.rounds.length:=by
  cases hz:y.az.rounds.length with
  |zero=>
   have:=vY (a:=y.az) (List.eq_nil_of_length_eq_zero hz)
   have w1:=w.round
   omega
  |succ n=>omega
 have ha:=D2 hpos
 have hI:Ep y y.aj.length= [(k:Int)]:=by
  unfold Ep
  rw[Ed y.aj.length (by rw[Kp];exact hb.1) fun i hi e=>by rw[ND c2 ha (by rw[Is i hi,if_neg e];decide)];rfl]
  rw[LJ c2 ha (by rw[Is k (by rw[Kp];exact hb.1),if_pos rfl])];rfl
 have hP:yJ y y.aj.length=(y.aj.set k ⟨(k:Int),y.rows,y.round,[],0⟩,y.replaced++ [(k:Int)]):=by
  unfold yJ
  rw[hI]
  exact Tx c2 (by rw[Kp];exact hb.1)
 have ht:=uj (V0 c2 hpos)
 rw[hP]at ht
 have Zh:=JL c2
 have hht:hon (testW y):=by
  rw[ht]
  exact NL (by rw[Kp];exact hb.1) Is rfl
 have e:bE x=yI (testW y):=by rw[ny qY,NC h hW,hy]
 rw[e]
 have hrd:=ug Zh
 have hdt:(testW y).aa=x.aa:=by rw[ht];exact OX
 refine⟨⟨Hw Zh,by rw[hrd];show(testW y).rows=_;rw[ht];exact hrw,by rw[hrd];show(List.map _ _).length=_;rw[List.length_map,hdt],by rw[hrd];show(testW y).aj.length=_;rw[ht];show(y.aj.set _ _).length=_;rw[List.length_set,Kp],by rw[hrd];exact hht,by rw[hrd];show(testW y).round=_;rw[ht];exact c1,by rw[hrd];show(testW y).cancelled=_;rw[ht];show y.cancelled=_;rw[c4,Int.add_zero],by rw[hrd];show(testW y).replaced=_;rw[ht];show y.replaced++_=_;rw[OY]⟩,?_,fun i hi=> ?_⟩
 ·rw[hrd];show bR (testW y).az=_;rw[ht];exact c3
 ·exact FQ h hW Zh hht (by rw[ht];exact hrw) hdt (by rw[ht];exact har) hr hn hi
theorem Zi{d:DB}(h0:0<d.rows.length)(h1:0<(d.rows.getD 0 (aB (.sl .u8))).length): ¬(alt d).rows=d.rows:=by
 intro e
 have h2:((alt d).rows.getD 0 (aB (.sl .u8))).getD 0 (aB .u8)=(d.rows.getD 0 (aB (.sl .u8))).getD 0 (aB .u8):=by rw[e]
 unfold alt at h2
 rw[fP _ _ h0,if_pos rfl,fP _ _ h1,if_pos rfl]at h2
 have h3:(d.rows.getD 0 (aB (.sl .u8))).getD 0 (aB .u8)^^^((d.rows.getD 0 (aB (.sl .u8))).getD 0 (aB .u8)^^^1)=(d.rows.getD 0 (aB (.sl .u8))).getD 0 (aB .u8)^^^(d.rows.getD 0 (aB (.sl .u8))).getD 0 (aB .u8):=by rw[h2]
 rw[←UInt8.xor_assoc,UInt8.xor_self,UInt8.zero_xor]at h3
 exact absurd h3 (by decide)
theorem Wf{x:aV}(h:okW x=true){k:Nat}(hb:LU x k 2): ¬(fQ (ef x x.aa.length k)).rows=(jZ (ef x x.aa.length k)).rows:=by
 have hk:=oq h hb.1 (Nat.le_refl x.aa.length)
 have h2:(ef x x.aa.length k).behavior=2:=by show(x.aj.getD k (aB .aX)).behavior=2;rw[hb.2 k hb.1,if_pos rfl]
 obtain⟨q1,q2⟩:=Lt hk
 have e:rcvd (ef x x.aa.length k)=(ef x x.aa.length k).received:=DF _ (by omega)
 rw[e]at q1 q2
 unfold fQ jZ
 rw[if_pos hk,if_pos hk,if_pos h2,e]
 exact Zi q1 q2
theorem Ty{x:aV}(h:okW x=true){k:Nat}(hb:LU x k 1){j b:Nat}(hne:dJ (Ai x k 0) j b≠0): ¬(fQ (ef x x.aa.length k)).rows=(jZ (ef x x.aa.length k)).rows:=by
 have hk:=oq h hb.1 (Nat.le_refl x.aa.length)
 have h1:(ef x x.aa.length k).behavior=1:=by show(x.aj.getD k (aB .aX)).behavior=1;rw[hb.2 k hb.1,if_pos rfl]
 have hr:=Db h
 have hn:=SQ h
 have Um:=(A5 h hb.1).2.1
 have e:rcvd (ef x x.aa.length k)=(rcs x k x.aa.length).drop 1:=zR _ h1
 unfold fQ jZ
 rw[if_pos hk,if_pos hk,if_neg (by omega),e]
 show¬(dV (x.aj.getD k (aB .aX)).rows _).rows=(dV (x.aj.getD k (aB .aX)).rows (rcs x k x.aa.length)).rows
 rw[Um]
 intro he
 have hok: ∀s,s∈rcs x k x.aa.length→FO x.rows.toNat s.share:=by
  intro s hs
  obtain⟨c,hc,rfl⟩:=List.mem_map.1 hs
  have:=LG h hb.1 (List.mem_range.1 hc)
  exact⟨this.1,by have:=this.2;show(Ai x k c).rows.length=_;omega⟩
 have q1:=(Ao (fun r:aM=>r.share) x.rows.toNat j b (rcs x k x.aa.length) (cE x.rows) (S8 (by omega)) hok).2
 have q2:=(Ao (fun r:aM=>r.share) x.rows.toNat j b ((rcs x k x.aa.length).drop 1) (cE x.rows) (S8 (by omega)) (fun s hs=>hok s (List.mem_of_mem_drop hs))).2
 have hd:=iW (rcs x k x.aa.length) 0 (aB .aM) (by rw[Hx];omega)
 rw[List.drop_zero,yz x k x.aa.length (by omega),Nat.zero_add]at hd
 have q3:dJ (dV x.rows (rcs x k x.aa.length)) j b=dJ (Ai x k 0) j b^^^dJ (dV x.rows ((rcs x k x.aa.length).drop 1)) j b:=by
  refine q1.trans ?_
  rw[show dJ (dV x.rows ((rcs x k x.aa.length).drop 1)) j b=_ from q2]
  rw[LL,UInt8.zero_xor,UInt8.zero_xor]
  rw[show xs (fun s:aM=>dJ s.share j b) (rcs x k x.aa.length)=xs (fun s:aM=>dJ s.share j b) (⟨((0:Nat):Int),Ai x k 0⟩::(rcs x k x.aa.length).drop 1)from by rw[←hd]]
  rw[dP]
 have q4:dJ (dV x.rows ((rcs x k x.aa.length).drop 1)) j b=dJ (dV x.rows (rcs x k x.aa.length)) j b:=by unfold dJ;rw[he]
 rw[q4]at q3
 have q5:dJ (dV x.rows (rcs x k x.aa.length)) j b^^^dJ (dV x.rows (rcs x k x.aa.length)) j b=(dJ (Ai x k 0) j b^^^dJ (dV x.rows (rcs x k x.aa.length)) j b)^^^dJ (dV x.rows (rcs x k x.aa.length)) j b:=by rw[←q3]
 rw[UInt8.xor_self,UInt8.xor_assoc,UInt8.xor_self,UInt8.xor_zero]at q5
 exact hne q5.symm
end
section
structure ArP where
 c:O1
 a:iC
 r:Int
end
section
def n4(c:O1)(a b:Int):O1:=VV (VV (VV (VV c a) b) 99) 999
structure ClP where
 c:O1
 x:dK
def nx(x:dK)(n:Int):dK:=⟨x.id,x.dz,x.key,x.seed,x.aI,x.sent,x.inbox,n⟩
end
section
structure DvP where
 c:O1
 d:bg
def ad5(p:DvP):Prop:=p.d.live.sent<(p.d.live.aI.length:Int)
instance (p:DvP):Decidable (ad5 p):=inferInstanceAs (Decidable (_<_))
structure SvP where
 c:O1
 s:aX
end
section
theorem Wg{x:aV}(h:okW x=true): ∀s,s∈x.aj→dr s≤15000:=by
 intro s hs
 have:=uc h s hs
 unfold dr
 rw[this]
 exact Nat.zero_le _
end
end Go.Proofs.YtkcegdacbddipaaGreat.G
