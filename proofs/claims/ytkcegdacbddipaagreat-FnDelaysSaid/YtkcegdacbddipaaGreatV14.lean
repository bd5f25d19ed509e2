/-
  Delays, computed for every seed. No program in sight.
-/
import Derived.Test.YtkcegdacbddipaaGreatV10
namespace Go.Proofs.YtkcegdacbddipaaGreat.G
set_option linter.all false
open Go.RowKit L D
section
theorem abd{c:Int}{k:Nat}(h:(if decide ((k:Int)<c)=true then decide (c≤400)else false)=true):k<qE c:=by
 by_cases h1:(k:Int)<c
 ·rw[if_pos (by simpa using h1),decide_eq_true_eq]at h
  have:=DX (c:=c) (by omega)
  omega
 ·rw[if_neg (by simpa using h1)]at h;cases h
theorem YO{c:Int}{k:Nat}(hk:k≤qE c)(h:(if decide ((k:Int)<c)=true then decide (c≤400)else false)=false):k=qE c:=by
 by_cases hc:0≤c∧c≤400
 ·have h2:=DX hc
  by_cases h1:(k:Int)<c
  ·rw[if_pos (by simpa using h1),decide_eq_false_iff_not]at h
   omega
  ·omega
 ·have:=No hc;omega
def SE(x:aV):Nat→Nat→Int
 |k,0=>if ep (b9 x k)then(k:Int)else-1
 |k,n+1=>if ep (b9 x k)then(k:Int)else SE x (k+1) n
def uL(l:Int):Nat:=(wA l 400).toNat
def delay(x:aV)(l:Int):Int:=SE x 0 (uL l)
theorem VE(l:Int):uL l≤400:=by unfold uL wA;split<;>omega
theorem Np{x:aV}{k n:Nat}(h:ep (b9 x k)=true):SE x k n=k:=by cases n<;>simp[SE,h]
theorem Nq{x:aV}{k:Nat}(h:ep (b9 x k)=false):SE x k 0= -1:=by simp[SE,h]
theorem SF{x:aV}{k n:Nat}(h:ep (b9 x k)=false)(hn:0<n):SE x k n=SE x (k+1) (n-1):=by
 obtain⟨m,rfl⟩: ∃m,n=m+1:=⟨n-1,by omega⟩
 simp[SE,h]
end
section
theorem FM(y x v:Int): ∀l:List Int,nE (Ci l x v) y=if y=x then v else nE l y
 | []=>by
   show nE [x,v] y=_
   rw[nE];try rfl
 | [a]=>by
   show nE [x,v] y=_
   rw[nE];try rfl
 |k::w::r=>by
  rw[Ci]
  by_cases h:x=k
  ·subst h
   rw[if_pos rfl,nE,nE]
   by_cases h2:y=x
   ·rw[if_pos h2,if_pos h2]
   ·rw[if_neg h2,if_neg h2,if_neg h2]
  ·rw[if_neg h,nE,nE,FM y x v r]
   by_cases h2:y=k
   ·subst h2
    rw[if_pos rfl,if_pos rfl,if_neg (fun e=>h e.symm)]
   ·rw[if_neg h2,if_neg h2]
def YZ(m:List Int)(r:Int):List Int:=Ci m r (IntKind.i64.wrap (nE m r+1))
def O4(l:List Int):List Int:=l.foldl YZ []
theorem FN(l:List Int)(k:Nat)(h:k<l.length):O4 (l.take (k+1))=YZ (O4 (l.take k)) (l.getD k (aB .int)):=qh _ _ _ _ _ h
theorem S4(l:List Int)(r:Int)(h:l.length≤1000):nE (O4 l) r=(l.count r:Int):=by
 have key: ∀k,k≤l.length→nE (O4 (l.take k)) r=((l.take k).count r:Int):=by
  intro k
  induction k with
  |zero=>intro _;rfl
  |succ k ih=>
   intro hk
   have ih:=ih (by omega)
   have hc:=List.count_le_length (a:=r) (l:=l.take k)
   rw[List.length_take]at hc
   rw[FN l k (by omega),YZ,FM,bq l k (aB .int) (by omega),List.count_append,List.count_singleton]
   by_cases hr:r=l.getD k (aB .int)
   ·rw[if_pos hr, ←hr,ih,bh (by omega)]
    simp
   ·have hb:(l.getD k (aB .int)==r)=false:=by rw[beq_eq_false_iff_ne];exact fun e=>hr e.symm
    rw[if_neg hr,ih,hb]
    simp
 have:=key l.length (Nat.le_refl _)
 rwa [List.take_length]at this
def V1(l:List Int)(i m:Nat):Bool:=(List.range m).any fun j=> !decide (j=i)&&decide (l.getD j (aB .int)=l.getD i (aB .int))
theorem Y0{l:List Int}{i:Nat}(hi:i<l.length)(hl:l.length≤1000):decide (nE (O4 l) (l.getD i (aB .int))>1)=V1 l i l.length:=by
 rw[S4 _ _ hl]
 have hg:l.getD i (aB .int)=l[i]:=by rw[List.getD_eq_getElem?_getD,List.getElem?_eq_getElem hi];rfl
 have hc:l.count l[i]=(l.take i).count l[i]+1+(l.drop (i+1)).count l[i]:=by
  have e: ∀a,l.count a=(l.take i).count a+(l.drop i).count a:=fun a=>by rw[←List.count_append,List.take_append_drop]
  rw[e,List.drop_eq_getElem_cons hi,List.count_cons_self];omega
 rw[hg,hc,Bool.eq_iff_iff,decide_eq_true_eq]
 constructor
 ·intro h
  have:0<(l.take i).count l[i]∨0<(l.drop (i+1)).count l[i]:=by omega
  rcases this with h|h
  ·obtain⟨j,hj,he⟩:=List.mem_iff_getElem.1 (List.count_pos_iff.1 h)
   have hj2:j<i:=by rw[List.length_take]at hj;omega
   refine List.any_eq_true.2 ⟨j,List.mem_range.2 (by omega),?_⟩
   rw[List.getElem_take]at he
   have:l.getD j (aB .int)=l[j]:=by rw[List.getD_eq_getElem?_getD,List.getElem?_eq_getElem (by omega)];rfl
   simp only[this,hg,he,Bool.and_eq_true,Bool.not_eq_true',decide_eq_false_iff_not,decide_eq_true_eq]
   exact⟨by omega,trivial⟩
  ·obtain⟨j,hj,he⟩:=List.mem_iff_getElem.1 (List.count_pos_iff.1 h)
   rw[List.length_drop]at hj
   refine List.any_eq_true.2 ⟨i+1+j,List.mem_range.2 (by omega),?_⟩
   rw[List.getElem_drop]at he
   have:l.getD (i+1+j) (aB .int)=l[i+1+j]:=by rw[List.getD_eq_getElem?_getD,List.getElem?_eq_getElem (by omega)];rfl
   simp only[this,hg,he,Bool.and_eq_true,Bool.not_eq_true',decide_eq_false_iff_not,decide_eq_true_eq]
   exact⟨by omega,trivial⟩
 ·intro h
  obtain⟨j,hj,he⟩:=List.any_eq_true.1 h
  have hj:=List.mem_range.1 hj
  simp only[Bool.and_eq_true,Bool.not_eq_true',decide_eq_false_iff_not,decide_eq_true_eq]at he
  have hjg:l.getD j (aB .int)=l[j]:=by rw[List.getD_eq_getElem?_getD,List.getElem?_eq_getElem hj];rfl
  rw[hjg,hg]at he
  rcases Nat.lt_or_gt_of_ne he.1 with h1|h1
  ·have:0<(l.take i).count l[i]:=List.count_pos_iff.2 (List.mem_iff_getElem.2 ⟨j,by rw[List.length_take];omega,by rw[List.getElem_take];exact he.2⟩)
   omega
  ·have:0<(l.drop (i+1)).count l[i]:=List.count_pos_iff.2 (List.mem_iff_getElem.2 ⟨j-(i+1),by rw[List.length_drop];omega,by rw[List.getElem_drop];rw[←he.2];congr 1;omega⟩)
   omega
def lG(x:aV):List Int:=x.aa.map fun d=>eu d.live x.round x.rows
theorem Al(x:aV):(lG x).length=x.aa.length:=List.length_map ..
theorem uk{x:aV}{k:Nat}(h:k<x.aa.length):(lG x).getD k (aB .int)=eu (x.aa.getD k (aB .bg)).live x.round x.rows:=by
 unfold lG
 rw[List.getD_eq_getElem?_getD,List.getElem?_map,List.getElem?_eq_getElem h,List.getD_eq_getElem?_getD,List.getElem?_eq_getElem h];rfl
theorem LK{x:aV}{k:Nat}(h:k<x.aa.length):(lG x).take (k+1)=(lG x).take k++ [eu (x.aa.getD k (aB .bg)).live x.round x.rows]:=by
 rw[bq _ k (aB .int) (by rw[Al];exact h),uk h]
def vZ(x:aV)(i:Nat):Bool:=decide (waiting (x.aa.getD i (aB .bg)).live>0)&&V1 (lG x) i (lG x).length
def Am(x:aV)(k:Nat):Nat:=((List.range k).filter (vZ x)).length
theorem JU{x:aV}{k:Nat}(h:vZ x k=true):Am x (k+1)=Am x k+1:=by unfold Am;rw[List.range_succ,List.filter_append,List.length_append];simp[h]
theorem An{x:aV}{k:Nat}(h:vZ x k=false):Am x (k+1)=Am x k:=by unfold Am;rw[List.range_succ,List.filter_append,List.length_append];simp[h]
theorem V2(x:aV)(k:Nat):Am x k≤k:=by
 unfold Am
 have:=List.length_filter_le (vZ x) (List.range k)
 simpa using this
def coll(x:aV):Int:=if okW x then(Am x x.aa.length:Int)else 0
end
section
theorem S5(w:World):(zeroValue 3).run Tryz.prog w= .ok (.int .i64 0) w:=by
 have h:(Tryz.prog.info? 3).map (fun i=>i.zero)=some (some (.int .i64 0)):=by kernel_rfl
 cases hq:Tryz.prog.info? 3 with
 |none=>rw[hq]at h;cases h
 |some i=>
  rw[hq]at h
  simp only[Option.map_some,oI]at h
  simp[zeroValue,typeInfo,hq,h]
theorem JV:cG Tryz.prog 63 .mp:=⟨3,3,Tryz.underlying63,Tryz.underlying3,S5,by kernel_rfl⟩
def Y1:List (Nat×TK):=(63, .mp)::tys
def Γ3(t:Nat):TK:=match look Y1 t with|some k=>k|none=> .other
theorem Y2: ∀e,e∈Y1→cG Tryz.prog e.1 e.2:=by
 intro e he
 rcases List.mem_cons.1 he with rfl|he
 ·exact JV
 ·exact kinds e he
theorem abi: ∀e,e∈Y1→(∀z tg fo,e.2≠ .st z tg fo)→(Tryz.prog.info? e.1).map (·.size)=some 1:=by
 intro e he h
 rcases List.mem_cons.1 he with rfl|he
 ·obtain⟨_,_,_,_,_,h⟩:=JV
  exact h
 ·exact aax e he h
theorem X3:Ctx Tryz.prog ty Γ3 where
 kind:=fun t=>by
  unfold Γ3
  split
  ·rename_i k hk;exact Y2 (t,k) (dQ hk)
  ·trivial
 one:=fun t h1 h2=>by
  unfold Γ3 at h1 h2
  split at h1
  ·rename_i k hk;exact abi (t,k) (dQ hk) h1
  ·rename_i hk;rw[hk]at h2;exact absurd rfl h2
end
section
section
variable{rows seed:Int}{m:List UInt8}{n d:Nat}{y z:aV}{r nx:Nat}{st:Bool}
theorem At.adO(h:At rows seed m n d y r false nx)(hd:d<n):ep y=false:=by
 have hn8:n≤8:=by have:=(yx.of h.ok).T1;have:=h.nd;omega
 have key: ∀k,k≤n→tB y.aa k=if d<k then 1 else 0:=by
  intro k
  induction k with
  |zero=>intro _;rfl
  |succ k ih=>
   intro hk
   have e:(y.aa.getD k (aB .bg)).live=dm seed m d false k (nx:Int):=h.lv k (by omega)
   show IntKind.i64.wrap (tB y.aa k+waiting (y.aa.getD k (aB .bg)).live)=_
   rw[ih (by omega),e]
   show IntKind.i64.wrap ((if d<k then(1:Int)else 0)+IntKind.i64.wrap (((fZ m d k).length:Int)-0))=_
   by_cases h1:k=d
   ·subst h1
    rw[oG,if_neg (Nat.lt_irrefl _),if_pos (Nat.lt_succ_self _)]
    show IntKind.i64.wrap (0+IntKind.i64.wrap (1-0))=1
    decide
   ·rw[oH h1]
    show IntKind.i64.wrap ((if d<k then(1:Int)else 0)+IntKind.i64.wrap (0-0))=_
    by_cases h2:d<k
    ·rw[if_pos h2,if_pos (by omega)];decide
    ·rw[if_neg h2,if_neg (by omega)];decide
 unfold ep
 rw[h.nd,key n (Nat.le_refl _),if_pos hd];rfl
end
end
section
section
variable [HF]
def LR(rows seed:Nat)(m:List Nat)(n d:Nat):Nat→Nat→Bool
 |0,_=>false
 |k+1,r=>cond (qJ rows seed n d r) (ga (fun i=>or (Nat.beq i (Nat.xor d 1)) (Ar rows seed m n d r 0 i)) n)
  (and (not (Y8 (Aq rows seed m d r (Ea (kN seed d) r (oJ d) rows) n) (LQ seed m d))) (and (ga (Ar rows seed m n d r 0) n) (LR rows seed m n d k (Nat.succ r))))
section
variable{rows seed n d r:Nat}{m:List UInt8}
theorem FU(h:1≤rows∧rows≤64)(hm:m.length≤14): ∀(k r:Nat),r+k≤100000→LR rows seed (dy m) n d k r=true→ ∃K,r≤K∧K<r+k∧D8 (rows:Int) (seed:Int) n d (K:Int)∧(∀i,i<n→i≠d^^^1→EH (rows:Int) (seed:Int) m n d (K:Int) 0 i=false)∧
  (∀q,r≤q→q<K→ ¬D8 (rows:Int) (seed:Int) n d (q:Int)∧(kR (rows:Int) (seed:Int) m n d (q:Int) (rG (rows:Int) (seed:Int) (q:Int) d)==rF (seed:Int) m d)=false∧ ∀i,i<n→EH (rows:Int) (seed:Int) m n d (q:Int) 0 i=false)
 |0,_,_,hc=>by cases hc
 |k+1,r,hr,hc=>by
  rw[LR]at hc
  cases ha:qJ rows seed n d r with
  |true=>
   rw[ha]at hc
   refine⟨r,Nat.le_refl _,by omega,(Tr h (by omega)).1 ha,fun i hi e=> ?_,fun q h1 h2=>by omega⟩
   have:=fB hc i hi
   rw[Bool.or_eq_true]at this
   rcases this with h1|h1
   ·exact absurd (Nat.eq_of_beq_eq_true h1) e
   ·rw[NI h (by omega) hm (by omega),h1];rfl
  |false=>
   rw[ha]at hc
   have hc:(not (Y8 (Aq rows seed (dy m) d r (Ea (kN seed d) r (oJ d) rows) n) (LQ seed (dy m) d))&&(ga (Ar rows seed (dy m) n d r 0) n&&LR rows seed (dy m) n d k (r+1)))=true:=hc
   simp only[Bool.and_eq_true,Bool.not_eq_true']at hc
   obtain⟨c1,c2,c3⟩:=hc
   obtain⟨K,k1,k2,k3,k4,k5⟩:=FU h hm k (r+1) (by omega) c3
   refine⟨K,by omega,by omega,k3,k4,fun q q1 q2=> ?_⟩
   by_cases e:q=r
   ·subst e
    refine⟨fun q3=>(by rw[(Tr h (by omega)).2 q3]at ha;cases ha),?_,fun i hi=>by rw[NI h (by omega) hm (by omega),fB c2 i hi];rfl⟩
    rw[beq_eq_false_iff_ne]
    intro e
    have e2:rG (rows:Int) (seed:Int) (q:Int) d=Ea (kN seed d) q (oJ d) rows:=by
     unfold rG
     rw[FR,J5,NG h (by omega)];rfl
    rw[e2]at e
    have e3:=(NH (seed:=seed) (d:=d) h (by omega:q≤100000) hm (Ea (kN seed d) q (oJ d) rows) n).2
    rw[e,Tn seed d hm]at e3
    rw[HB e3.symm]at c1
    cases c1
   ·exact k5 q (by omega) q2
end
end
end
section
section
variable{rows seed:Int}{s p d:Nat}{m:List UInt8}
end
section
variable{rows seed:Int}{m:List UInt8}{n d:Nat}{x:aV}
theorem Wb(h:At rows seed m n d x 0 false 0)(hd:d<n):(coll x=0∧D8 rows seed n d 0)∨coll x=1:=by
 have hw: ∀i,i<n→waiting (x.aa.getD i (aB .bg)).live=if i=d then 1 else 0:=by
  intro i hi
  have e:(x.aa.getD i (aB .bg)).live=dm seed m d false i ((0:Nat):Int):=h.lv i hi
  rw[e]
  show IntKind.i64.wrap (((fZ m d i).length:Int)-0)=_
  by_cases h1:i=d
  ·subst h1
   rw[oG,if_pos rfl]
   show IntKind.i64.wrap (1-0)=1
   decide
  ·rw[oH h1,if_neg h1];decide
 have hc: ∀i,i<n→i≠d→vZ x i=false:=fun i hi e=>by unfold vZ;rw[hw i hi,if_neg e];rfl
 have key: ∀k,k≤n→Am x k=if d<k∧vZ x d=true then 1 else 0:=by
  intro k
  induction k with
  |zero=>intro _;rfl
  |succ k ih=>
   intro hk
   have ih:=ih (by omega)
   by_cases e:k=d
   ·subst e
    cases hb:vZ x k with
    |true=>rw[JU hb,ih,if_neg (by omega),if_pos ⟨Nat.lt_succ_self k,rfl⟩]
    |false=>rw[An hb,ih,if_neg (by omega),if_neg (by rintro⟨_,q⟩;cases q)]
   ·rw[An (hc k (by omega) e),ih]
    by_cases h2:d<k∧vZ x d=true
    ·rw[if_pos h2,if_pos ⟨by omega,h2.2⟩]
    ·rw[if_neg h2,if_neg (fun q=>h2 ⟨by omega,q.2⟩)]
 have e:coll x=(Am x n:Int):=by unfold coll;rw[if_pos h.ok,h.nd]
 rw[e,key n (Nat.le_refl _)]
 cases hb:vZ x d with
 |true=>right;rw[if_pos ⟨hd,rfl⟩];rfl
 |false=>
  left
  refine⟨by rw[if_neg (by rintro⟨_,q⟩;cases q)];rfl,fun i hi hne hq=> ?_⟩
  have hh:V1 (lG x) d (lG x).length=false:=by
   unfold vZ at hb
   rw[hw d hd,if_pos rfl]at hb
   simpa using hb
  have hlen:(lG x).length=n:=by rw[Al,h.nd]
  unfold V1 at hh
  rw[List.any_eq_false]at hh
  have:=hh i (List.mem_range.2 (by omega))
  simp only[Bool.and_eq_true,Bool.not_eq_true',decide_eq_false_iff_not,decide_eq_true_eq,not_and]at this
  refine this hne ?_
  rw[uk (by rw[h.nd];exact hi),uk (by rw[h.nd];exact hd)]
  have q1:=h.wr hi
  have q2:=h.wr hd
  exact q1.trans (hq.trans q2.symm)
theorem Tt(h0:LO rows seed m n d x 0 false 0){K:Nat}(hK:K<90000)(hq: ∀q:Nat,q<K→(kR rows seed m n d (q:Int) (rG rows seed (q:Int) d)==rF seed m d)=false∧ ∀i,i<n→EH rows seed m n d (q:Int) 0 i=false): ∀r,r≤K→LO rows seed m n d (b9 x r) r false r
 |0,_=>h0
 |r+1,hr=>by
  have ih:=Tt h0 hK hq r (by omega)
  obtain⟨q1,q2⟩:=hq r (by omega)
  exact ih.mk' (by omega) (ih.toAt.stay (ih.Y4 (by omega)).1 (by omega) q1 q2)
theorem Kc{K:Nat}(h1: ∀k,k≤K→ep (b9 x k)=false)(h2:ep (b9 x (K+1))=true): ∀(a k:Nat),k+a=K+1→ ∀N,a≤N→SE x k N=((K+1:Nat):Int)
 |0,k,e,N,_=>by
  have:k=K+1:=by omega
  subst this
  exact Np h2
 |a+1,k,e,N,hN=>by
  rw[SF (h1 k (by omega)) (by omega)]
  exact Kc h1 h2 a (k+1) (by omega) (N-1) (by omega)
end
theorem Ze [HF]{rows seed n d:Nat}{m:List UInt8}{x:aV}(h0:LO (rows:Int) (seed:Int) m n d x 0 false 0)(hr:1≤rows∧rows≤64)(hd:d<n)(hm:m.length≤14)(hc:LR rows seed (dy m) n d 60 0=true):
  ∃K:Nat,K<60∧delay x 60=((K+1:Nat):Int)∧ep (b9 x (K+1))=true∧ep (b9 x K)=false∧delay x 0= -1∧((coll x=0∧K=0)∨coll x=1):=by
 obtain⟨K,k1,k2,k3,k4,k5⟩:=FU (n:=n) (d:=d) (seed:=seed) hr hm 60 0 (by omega) hc
 have hA:=Tt h0 (K:=K) (by omega) (fun q hq=>(k5 q (by omega) hq).2)
 have hl: ∀k,k≤K→ep (b9 x k)=false:=fun k hk=>(hA k hk).toAt.adO hd
 have hAK:=hA K (Nat.le_refl _)
 have hAL:=hAK.mk' (by omega) (hAK.toAt.abl (hAK.Y4 (by omega)).1 (by omega) hd hm k3 k4)
 have hz:ep (b9 x (K+1))=true:=(quiet_of hAL.nd hAL.lv).2.2
 refine⟨K,by omega,?_,hz,hl K (Nat.le_refl _),?_,?_⟩
 ·exact Kc hl hz (K+1) 0 (by omega) _ (by show K+1≤uL 60;rw[show uL 60=60 by decide];omega)
 ·unfold delay
  rw[show uL 0=0 by decide]
  exact Nq (hl 0 (by omega))
 ·rcases Wb h0.toAt hd with⟨c1,c2⟩|c1
  ·left
   refine⟨c1,?_⟩
   by_cases e:K=0
   ·exact e
   ·exact absurd c2 (k5 0 (by omega) (by omega)).1
  ·exact Or.inr c1
def Br [HF](seed:Nat):Bool:=ga (fun q=>ga (fun p=>ga (fun d=>LR (Nat.add 16 q) seed [7] (Nat.mul 2 (Nat.succ p)) d 60 0) (Nat.mul 2 (Nat.succ p))) 2) 48
theorem Tu [HF]{seed:Nat}(h:Br seed=true){rows p d:Nat}(hr:16≤rows∧rows<64)(hp:1≤p∧p≤2)(hd:d<2*p):LR rows seed [7] (2*p) d 60 0=true:=by
 have h1:=fB h (rows-16) (by omega)
 have h2:=fB h1 (p-1) (by omega)
 have e:Nat.mul 2 (Nat.succ (p-1))=2*p:=by show 2*(p-1+1)=_;omega
 have h3:=fB h2 d (by rw[e];exact hd)
 rw[e,show Nat.add 16 (rows-16)=rows by show 16+(rows-16)=rows;omega]at h3
 exact h3
end
section
set_option maxRecDepth 100000
theorem dk0:ga (fun s=>Br (Nat.add 0 s)) 32=true:=by decide+kernel
theorem dk1:ga (fun s=>Br (Nat.add 32 s)) 32=true:=by decide+kernel
theorem dk2:ga (fun s=>Br (Nat.add 64 s)) 32=true:=by decide+kernel
theorem dk3:ga (fun s=>Br (Nat.add 96 s)) 32=true:=by decide+kernel
theorem dk4:ga (fun s=>Br (Nat.add 128 s)) 32=true:=by decide+kernel
theorem dk5:ga (fun s=>Br (Nat.add 160 s)) 32=true:=by decide+kernel
theorem dk6:ga (fun s=>Br (Nat.add 192 s)) 32=true:=by decide+kernel
theorem dk7:ga (fun s=>Br (Nat.add 224 s)) 32=true:=by decide+kernel
theorem Tv{seed:Nat}(h:seed<256):Br seed=true:=by
 have key: ∀q,q≤seed→seed<q+32→ga (fun s=>Br (Nat.add q s)) 32=true→Br seed=true:=by
  intro q h1 h2 h3
  have h4:=fB h3 (seed-q) (by omega)
  rwa [show Nat.add q (seed-q)=seed by show q+(seed-q)=seed;omega]at h4
 rcases(by omega:(0≤seed∧seed<32)∨(32≤seed∧seed<64)∨(64≤seed∧seed<96)∨(96≤seed∧seed<128)∨(128≤seed∧seed<160)∨(160≤seed∧seed<192)∨(192≤seed∧seed<224)∨(224≤seed∧seed<256))with⟨h1,h2⟩| ⟨h1,h2⟩| ⟨h1,h2⟩| ⟨h1,h2⟩| ⟨h1,h2⟩| ⟨h1,h2⟩| ⟨h1,h2⟩| ⟨h1,h2⟩
 ·exact key 0 h1 h2 dk0
 ·exact key 32 h1 h2 dk1
 ·exact key 64 h1 h2 dk2
 ·exact key 96 h1 h2 dk3
 ·exact key 128 h1 h2 dk4
 ·exact key 160 h1 h2 dk5
 ·exact key 192 h1 h2 dk6
 ·exact key 224 h1 h2 dk7
end
end Go.Proofs.YtkcegdacbddipaaGreat.G
