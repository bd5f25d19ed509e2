/-
  Reading: with servers that do not lie, what is read is the row; whoever lies is found; who has read has read all. No program in sight.
-/
import Derived.Test.YteodajeiagmekaaGreatM53
import Derived.Test.YteodajeiagmekaaGreatM58
namespace Go.Proofs.YteodajeiagmekaaGreat.G
set_option linter.all false
open Go.RowKit L D
section
theorem zT: ∀(a b:List UInt8) (i:Nat),wH (cJ a b) i=wH a i^^^wH b i
 | [],b,i=>by rw[eU];simp[wH]
 |x::a,[],i=>by rw[ey];simp[wH]
 |x::a,y::b,0=>by simp[cJ,wH]
 |x::a,y::b,i+1=>by
  have:=zT a b i
  rw[cJ]
  simpa[wH]using this
theorem aeI{a b:List UInt8}(hl:a.length=b.length)(h: ∀i,wH a i=wH b i):a=b:=by
 apply List.ext_getElem hl
 intro i h1 h2
 have:=h i
 unfold wH at this
 rw[List.getD_eq_getElem?_getD,List.getElem?_eq_getElem h1,List.getD_eq_getElem?_getD,List.getElem?_eq_getElem h2]at this
 exact this
theorem KP(rows:List (List UInt8))(v:List Int)(i:Nat): ∀n,wH (qP rows v n) i=sx rows v i n
 |0=>rfl
 |n+1=>by
  have ih:=KP rows v i n
  by_cases h:n<v.length∧v.getD n (au .int)=1
  ·rw[uF h.1 h.2,zT,ih,sx,sb,if_pos h]
  ·rw[nH h,ih,sx,sb,if_neg h,UInt8.xor_zero]
theorem MR{α:Type}(g:α→UInt8): ∀(l:List α) (z:UInt8),l.foldl (fun z s=>z^^^g s) z=z^^^l.foldl (fun z s=>z^^^g s) 0
 | [],z=>by simp
 |s::l,z=>by
  rw[List.foldl_cons,List.foldl_cons,MR g l (z^^^g s),MR g l (0^^^g s),UInt8.zero_xor,UInt8.xor_assoc]
theorem Xc(i:Nat):wH Mo i=0:=by
 unfold wH Mo
 rw[List.getD_eq_getElem?_getD,List.getElem?_replicate]
 split<;>rfl
theorem Uy{d:DB}{v:List Int}(hd:bV d=true)(hv:bN v d.rows.length=true):dM d v=cJ Mo (xB d.rows v):=by
 rw[dM,hd,hv];rfl
theorem Uz{d:DB}{v:List Int}(hd:bV d=true)(hv:bN v d.rows.length=true)(i:Nat):wH (dM d v) i=sx d.rows v i d.rows.length:=by
 rw[Uy hd hv,zT,Xc,UInt8.zero_xor]
 exact KP d.rows v i _
theorem UA{d:DB}{v:List Int}(hd:bV d=true)(hv:bN v d.rows.length=true):iV d v=true:=by
 apply zu
 rw[Uy hd hv,cP,oX]
 omega
theorem OY{d:DB}{v:List Int}(hd:bV d=true)(hv:bN v d.rows.length=true):(dM d v).length=24:=vL (UA hd hv)
theorem Xd(db:List (List UInt8)){rows i:Int}(h:cX rows i=true)(j:Nat): ∀n:Nat,(n:Int)≤rows→sx db (gD rows i) j n=if i<(n:Int)then wH (db.getD i.toNat (au (.sl .u8))) j else 0:=by
 obtain⟨h1,h2,h3,h4⟩:=mj h
 intro n
 induction n with
 |zero=>intro _;rw[if_neg (by omega)];rfl
 |succ n ih=>
  intro hn
  have hg:(gD rows i).getD n (au .int)=if i.toNat=n then 1 else 0:=by
   rw[iS h,lR _ _ (by rw[List.length_replicate];omega)]
   split
   ·rfl
   ·rw[List.getD_eq_getElem?_getD,List.getElem?_replicate,if_pos (by omega)];rfl
  have hl:n<(gD rows i).length:=by rw[iS h,List.length_set,List.length_replicate];omega
  rw[sx,ih (by omega),sb,hg]
  by_cases he:i.toNat=n
  ·rw[if_neg (by omega),if_pos ⟨hl,if_pos he⟩,if_pos (by omega),UInt8.zero_xor,he]
  ·rw[if_neg (show¬(n<(gD rows i).length∧(if i.toNat=n then(1:Int)else 0)=1)by rw[if_neg he];omega),UInt8.xor_zero]
   by_cases hi:i<(n:Int)
   ·rw[if_pos hi,if_pos (by omega)]
   ·rw[if_neg hi,if_neg (by omega)]
theorem OZ(i:Nat): ∀(l:List (List UInt8)) (a:List UInt8),wH (l.foldl cJ a) i=l.foldl (fun z b=>z^^^wH b i) (wH a i)
 | [],_=>rfl
 |b::l,a=>by rw[List.foldl_cons,List.foldl_cons,OZ i l,zT]
theorem KQ: ∀(l:List (List UInt8)) (a:List UInt8),(∀b,b∈l→b.length=24)→a.length=24∨(l≠ []∧a.length≤24)→(l.foldl cJ a).length=24
 | [],a,_,h=>by
   rcases h with h|h
   ·exact h
   ·exact absurd rfl h.1
 |b::l,a,hb,h=>by
  rw[List.foldl_cons]
  refine KQ l _ (fun y hy=>hb y (List.mem_cons_of_mem _ hy)) (Or.inl ?_)
  have:=hb b (List.mem_cons_self ..)
  rw[cP]
  rcases h with h|h<;>omega
theorem Qq{d:DB}{rows row:Int}{sd:List Int}(hd:bV d=true)(hl:(d.rows.length:Int)=rows)(hu:cX rows row=true)(hc:sk rows row sd=true):
  (∀v,v∈eM rows row sd→bN v d.rows.length=true)∧uE ((eM rows row sd).map (dM d))=d.rows.getD row.toNat (au (.sl .u8)):=by
 obtain⟨h1,h2,h3,h4⟩:=mj hu
 have hsel: ∀s,bN (bg s rows) rows=true:=fun s=>pG ⟨h1,h2⟩
 have UB: ∀i k,bN (qB rows row sd) rows=true∧sx d.rows (qB rows row sd) i k=sd.foldl (fun z s=>z^^^sx d.rows (bg s rows) i k) (sx d.rows (gD rows row) i k):=fun i k=>E5 d.rows ⟨h1,h2⟩ i k sd _ (zS hu)
 have hv: ∀v,v∈eM rows row sd→bN v d.rows.length=true:=by
  intro v hm
  rw[hl]
  rw[eM,if_pos hc]at hm
  rcases List.mem_append.1 hm with h|h
  ·obtain⟨s,_,rfl⟩:=List.mem_map.1 h;exact hsel s
  ·rw[List.mem_singleton.1 h];exact(UB 0 0).1
 refine⟨hv,aeI ?_ fun i=> ?_⟩
 ·rw[lV hd _ (by omega)]
  refine KQ _ _ (fun b hb=> ?_) (Or.inr ⟨?_,by show 0≤24;omega⟩)
  ·obtain⟨v,hm,rfl⟩:=List.mem_map.1 hb
   exact OY hd (hv v hm)
  ·rw[eM,if_pos hc];simp
 ·show wH (((eM rows row sd).map (dM d)).foldl cJ []) i=_
  rw[OZ,List.foldl_map,eM,if_pos hc,List.foldl_append]
  have e0:wH ([]:List UInt8) i=0:=rfl
  have e1:(sd.map fun s=>bg s rows).foldl (fun z v=>z^^^wH (dM d v) i) 0=sd.foldl (fun z s=>z^^^sx d.rows (bg s rows) i d.rows.length) 0:=by
   rw[List.foldl_map]
   have:(fun(z:UInt8) s=>z^^^wH (dM d (bg s rows)) i)=fun z s=>z^^^sx d.rows (bg s rows) i d.rows.length:=by
    funext z s
    rw[Uz hd (by rw[hl];exact hsel s)]
   rw[this]
  rw[e0,e1,List.foldl_cons,List.foldl_nil,Uz hd (by rw[hl];exact(UB 0 0).1),(UB i d.rows.length).2,MR _ sd (sx d.rows (gD rows row) i d.rows.length),Xd d.rows hu i d.rows.length (by omega),if_pos (by omega)]
  rw[UInt8.xor_comm (wH _ i), ←UInt8.xor_assoc,UInt8.xor_self,UInt8.zero_xor]
theorem MS{α β:Type}(f:α→β)(l:List α)(d:α):((List.range l.length).map fun i=>f (l.getD i d))=l.map f:=by
 apply List.ext_getElem
 ·simp
 ·intro i h1 h2
  simp only[List.length_map,List.length_range]at h1
  simp[List.getD_eq_getElem?_getD,List.getElem?_eq_getElem h1]
theorem Xe{x:aJ}{r row s:Int}(h:okW x=true)(hb: ∀i,i<x.ah.length→(x.ah.getD i (au .aO)).behavior≠3)(hh:gw x.ak.rounds r=true)(hr:0≤row∧row<x.rows):
  pz x r row s=true∧xC x r row s=(dn x.ak.rounds r).rows.getD row.toNat (au (.sl .u8)):=by
 have hs:=cN h
 have hrw:=(lK h).1
 obtain⟨hd,hl⟩:=zO h hh
 have hu:cX x.rows row=true:=by
  simp only[cX,Bool.and_eq_true,an]
  rw[bl (by omega)];omega
 have rN:=dL x.ah.length r row s
 have Lr:=dZ (zS hu)
 have hc:sk x.rows row (cG x.ah.length r row s)=true:=by
  simp only[sk,Bool.and_eq_true,Bool.not_eq_true',decide_eq_false_iff_not,cq,an]
  rw[rN,bl (by omega)];omega
 obtain⟨q1,q2⟩:=Qq (sd:=cG x.ah.length r row s) hd hl hu hc
 have hql:(query' x r row s).length=x.ah.length:=by
  show(eM x.rows row (cG x.ah.length r row s)).length=_
  rw[eM,if_pos hc,List.length_append,List.length_map,rN]
  show x.ah.length-1+1=_
  omega
 have hp:sJ x r row s=(query' x r row s).map (dM (dn x.ak.rounds r)):=by
  unfold sJ mZ
  rw[List.map_map, ←MS (dM (dn x.ak.rounds r)) (query' x r row s) (au (.sl .int))]
  apply List.map_congr_left
  intro i hi
  have hi:=List.mem_range.1 hi
  have hm:(query' x r row s).getD i (au (.sl .int))∈query' x r row s:=getD_in _ hi
  have X9:=UA hd (q1 _ hm)
  show(Fo _ _ _ _ _).data=_
  rw[Fo,if_pos X9,if_neg (hb i (by omega))]
  rfl
 have hall: ∀a,a∈sJ x r row s→a.length=24:=by
  intro a ha
  rw[hp]at ha
  obtain⟨v,hm,rfl⟩:=List.mem_map.1 ha
  exact OY hd (q1 v hm)
 have U9:fL (sJ x r row s)=true:=by
  simp only[fL,Bool.and_eq_true,List.all_eq_true,decide_eq_true_eq,cq,an]
  refine⟨?_,fun a ha=>by have:=hall a ha;omega⟩
  rw[hp,List.length_map,hql];omega
 refine⟨by rw[pz,hh,U9];rfl,?_⟩
 rw[xC,if_pos hh,Ig U9,hp]
 exact q2
theorem aao{b:List UInt8}(h:0<b.length):Ai b≠b:=by
 intro he
 have h1:(Ai b).getD 0 (au .u8)=b.getD 0 (au .u8):=by rw[he]
 unfold Ai at h1
 rw[lR _ _ h,if_pos rfl]at h1
 have h2:b.getD 0 (au .u8)^^^(b.getD 0 (au .u8)^^^128)=b.getD 0 (au .u8)^^^b.getD 0 (au .u8):=by rw[h1]
 rw[←UInt8.xor_assoc,UInt8.xor_self,UInt8.zero_xor]at h2
 exact absurd h2 (by decide)
theorem MT{x:aJ}(h:okW x=true)(hh:gw x.ak.rounds (bR x.ak)=true){k:Nat}(hb:(x.ah.getD k (au .aO)).behavior=3):TB x k=true:=by
 have X9:=TY h hh (kh x.seed [227,x.round,(k:Int)])
 have h24:=vL X9
 have e:Z0 x k=ZQ (tsK x k) (x.ah.getD k (au .aO)).id (bR x.ak) (bg (kh x.seed [227,x.round,(k:Int)]) x.rows) (Ai (dM (dn x.ak.rounds (bR x.ak)) (bg (kh x.seed [227,x.round,(k:Int)]) x.rows))):=by
  unfold Z0
  rw[Fo,if_pos X9,if_pos hb]
 unfold TB X6
 rw[e]
 simp only[Bool.and_eq_true,Bool.not_eq_true',beq_eq_false_iff_ne]
 exact⟨by unfold Qe ZQ;simp,aao (by omega)⟩
theorem E6{a:gW}(h:0<a.rounds.length):gw a.rounds (bR a)=true:=by
 rw[nJ h]
 refine List.any_eq_true.2 ⟨a.rounds.getD (a.rounds.length-1) (au .ay),getD_in _ (by omega),?_⟩
 unfold MA;simp
theorem Xf{x:aJ}(h:okW x=true)(ha:0<x.ak.rounds.length):uO x=true:=by rw[uO,h,E6 ha];rfl
theorem KR{x:aJ}(h:okW x=true)(ha:0<x.ak.rounds.length): ∀i,i<(testW x).ah.length→((testW x).ah.getD i (au .aO)).behavior≠3:=by
 have hh:=E6 ha
 have hs:=cN h
 have key: ∀k,k≤x.ah.length→ ∀i,i<x.ah.length→(i<k→((fW x k).1.getD i (au .aO)).behavior≠3)∧(k≤i→(fW x k).1.getD i (au .aO)=x.ah.getD i (au .aO)):=by
  intro k
  induction k with
  |zero=>intro _ i _;exact⟨fun hi=>by omega,fun _=>rfl⟩
  |succ k ih=>
   intro hk i hi
   have hlen:=(KK h k (by omega)).2.1
   have q:=ih (by omega) i hi
   cases hb:TB x k with
   |true=>
    have ho:s8 (fW x k).1 (k:Int)=true:=by
     rw[s8,an,hlen,bl (by omega)];omega
    rw[Io hb,It ho]
    show(i<k+1→((((fW x k).1.set (k:Int).toNat _).getD i (au .aO)).behavior≠3))∧(k+1≤i→((fW x k).1.set (k:Int).toNat _).getD i (au .aO)=_)
    rw[lR _ _ (by omega)]
    refine⟨fun h1=> ?_,fun h1=> ?_⟩
    ·split
     ·show(0:Int)≠3;decide
     ·exact q.1 (by omega)
    ·rw[if_neg (by omega)];exact q.2 (by omega)
   |false=>
    rw[ET hb]
    refine⟨fun h1=> ?_,fun h1=>q.2 (by omega)⟩
    by_cases hik:i<k
    ·exact q.1 hik
    ·have:i=k:=by omega
     subst this
     rw[q.2 (Nat.le_refl _)]
     intro h3
     rw[MT h hh h3]at hb
     cases hb
 have hn:=(KK h x.ah.length (Nat.le_refl _)).2.1
 rw[Be (Xf h ha)]
 intro i hi
 have hi':i<x.ah.length:=by dsimp only at hi;omega
 exact(key x.ah.length (Nat.le_refl _) i hi').1 hi'
theorem GM(x:aJ)(d0:aL): ∀(l:List Int) (d:aL),cL d=true→(∀r,r∈l→d.live.next≤r∧r≤99999)→l.Pairwise (· < ·)→d.live.next≤(l.foldl (zo x d0) d).live.next∧ ∀r,r∈l→r<(l.foldl (zo x d0) d).live.next
 | [],d,_,_,_=>⟨Int.le_refl _,fun r hr=>by cases hr⟩
 |r::l,d,hd,hl,hp=>by
  have h1:=hl r (List.mem_cons_self ..)
  have hc:dh d.live=true:=(Qi.iff.1 hd).live
  have hk:oF d.live r=true:=by simp only[oF,hc,Bool.true_and,an];omega
  have hk2:qQ d r=true:=by rw[qQ,hk,hd];rfl
  have hn:(zo x d0 d r).live.next=r+1:=by
   unfold zo
   rw[rdev,if_pos hk2]
   split
   ·show(eN _ _ _ _).next=_
    rw[eN,if_pos hk]
   ·show(eN _ _ _ _).next=_
    rw[eN,if_pos hk]
  obtain⟨fu,hp2⟩:=List.pairwise_cons.1 hp
  have hd2:cL (zo x d0 d r)=true:=OE hd
  have ih:=GM x d0 l (zo x d0 d r) hd2 (fun q hq=>by have:=fu q hq;have:=hl q (List.mem_cons_of_mem _ hq);omega) hp2
  rw[List.foldl_cons]
  refine⟨by omega,fun q hq=> ?_⟩
  rcases List.mem_cons.1 hq with rfl|hq
  ·omega
  ·exact ih.2 q hq
theorem KS{rows:Int}{l:List ay}(h:inc rows l)(f:Int):(fk l f).Pairwise (· < ·):=by
 unfold fk
 rw[List.pairwise_map]
 apply List.Pairwise.filter
 rw[List.pairwise_iff_getElem]
 intro i j hi hj hij
 have:=MM h j i hij hj
 rw[List.getD_eq_getElem?_getD,List.getElem?_eq_getElem hi,List.getD_eq_getElem?_getD,List.getElem?_eq_getElem hj]at this
 exact this
theorem Xg{x:aJ}(h:okW x=true){i:Nat}(hi:i<x.af.length):bR x.ak<(mz x (x.af.getD i (au .aL))).live.next:=by
 have w:=yd.of h
 have hq:=o9 h hi
 simp only[okD,Bool.and_eq_true,decide_eq_true_eq]at hq
 have hd:=hq.1.1.1.1
 have hla:=w.last
 have hrd:=w.round
 have key:=GM x (x.af.getD i (au .aL)) (gP x (x.af.getD i (au .aL))) (x.af.getD i (au .aL)) hd (fun r hr=>by
  obtain⟨h1,y,hy,rfl⟩:=E0 hr
  have:=(T4 w.QF y hy).2
  omega) (KS (lS.1 w.QF).2 _)
 show bR x.ak<((gP x (x.af.getD i (au .aL))).foldl (zo x (x.af.getD i (au .aL))) (x.af.getD i (au .aL))).live.next
 have hn0:=(vN.1 (Qi.iff.1 hd).live).2.2.2.1
 by_cases ha:0<x.ak.rounds.length
 ·by_cases hb:(x.af.getD i (au .aL)).live.next≤bR x.ak
  ·refine key.2 _ ?_
   rw[nJ ha]at hb ⊢
   unfold gP fk
   exact List.mem_map.2 ⟨_,List.mem_filter.2 ⟨getD_in _ (by omega),by simpa using hb⟩,rfl⟩
  ·omega
 ·have e:x.ak.rounds= []:=List.eq_nil_of_length_eq_zero (by omega)
  rw[E1 e];omega
end
end Go.Proofs.YteodajeiagmekaaGreat.G
