/-
  What the law on views of servers asks. No program in sight.
-/
import Derived.Test.YteodajeiagmekaaGreatM45
import Derived.Test.YteodajeiagmekaaGreatM61
import Derived.Test.YteodajeiagmekaaGreatM75
import Derived.Test.YteodajeiagmekaaGreatM85
namespace Go.Proofs.YteodajeiagmekaaGreat.G
set_option linter.all false
open Go.RowKit L D
section
theorem Fb: ∀a b c:List UInt8,cJ (cJ a b) c=cJ a (cJ b c)
 | [],b,c=>by rw[eU,eU]
 |x::a,[],c=>by rw[ey,eU]
 |x::a,y::b,[]=>by rw[ey,ey]
 |x::a,y::b,z::c=>by rw[cJ,cJ,cJ,cJ,Fb a b c,UInt8.xor_assoc]
theorem GS: ∀(k:Nat) (r:List UInt8),k≤r.length→cJ (List.replicate k (au .u8)) r=r
 |0,r,_=>eU r
 |k+1,[],h=>by simp at h
 |k+1,x::r,h=>by
  rw[List.replicate_succ,cJ,GS k r (by simpa using h)]
  show((0:UInt8)^^^x)::r=x::r
  rw[UInt8.zero_xor]
theorem GU: ∀r:List UInt8,cJ r r=List.replicate r.length (au .u8)
 | []=>rfl
 |x::r=>by
  rw[cJ,GU r,UInt8.xor_self];rfl
def Cs(n:Int)(d:DB):Prop:=bV d=true∧(d.rows.length:Int)=n
theorem O4{n:Int}{a b:DB}(ha:Cs n a)(hb:Cs n b):gq a b=true:=by
 simp only[gq,ha.1,hb.1,Bool.and_self,Bool.true_and,decide_eq_true_eq]
 rw[ha.2,hb.2]
theorem ve{n:Int}{a b:DB}(ha:Cs n a)(hb:Cs n b):dD a b=⟨List.zipWith cJ a.rows b.rows⟩:=qG (O4 ha hb)
theorem C9{n:Int}{a b:DB}(ha:Cs n a):Cs n (dD a b):=⟨nI ha.1,by rw[ox];exact ha.2⟩
theorem UT{n:Int}{a:DB}(ha:Cs n a){i:Nat}(hi:i<a.rows.length):(a.rows[i]).length=24:=(iF.1 ha.1).2 _ (List.getElem_mem hi)
theorem Fc{n:Int}(hn:1≤n∧n≤64):Cs n (cw n):=⟨Ko n,xM (by omega)⟩
theorem UU{n:Int}(hn:1≤n∧n≤64):nA (Cs n) dD (cw n) where
 cl:=fun a b ha _=>C9 ha
 cm:=fun a b ha hb=>by
  rw[ve ha hb,ve hb ha]
  congr 1
  refine List.ext_getElem (by simp[Nat.min_comm]) fun i h1 h2=> ?_
  rw[List.getElem_zipWith,List.getElem_zipWith,AG]
 ac:=fun a b c ha hb hc=>by
  rw[ve (C9 ha) hc,ve ha (C9 hb),ve ha hb,ve hb hc]
  congr 1
  refine List.ext_getElem (by simp[Nat.min_assoc]) fun i h1 h2=> ?_
  simp only[List.getElem_zipWith]
  exact Fb _ _ _
 id:=fun a ha=>by
  rw[ve (Fc hn) ha]
  have hl:=(Fc hn).2
  have h2:=ha.2
  obtain⟨r⟩:=a
  congr 1
  refine List.ext_getElem (by rw[List.length_zipWith];show min _ r.length=r.length;simp only at h2;omega) fun i h1 h3=> ?_
  rw[List.getElem_zipWith]
  have e:(cw n).rows[i]'(by simp only at h2;omega)=Mo:=by
   have:=iT (rows:=n) (by omega)
   simp only[this,List.getElem_replicate]
  rw[e]
  exact GS 24 _ (by rw[UT ha h3];exact Nat.le_refl _)
 pe:=Fc hn
 iv:=fun a ha=>by
  rw[ve ha ha]
  have h2:=ha.2
  have hp:=iT (rows:=n) (by omega)
  show(⟨_⟩:DB)=⟨(cw n).rows⟩
  congr 1
  rw[hp]
  refine List.ext_getElem (by rw[List.length_zipWith,List.length_replicate];omega) fun i h1 h3=> ?_
  rw[List.getElem_zipWith,List.getElem_replicate,GU,UT ha (by rw[List.length_zipWith]at h1;omega)]
  rfl
theorem K5{n:Int}: ∀(l:List DB) (a:DB),Cs n a→(∀d,d∈l→Cs n d)→Kv a l=some (l.foldl dD a)
 | [],a,_,_=>rfl
 |d::l,a,ha,hl=>by
  have hd:=hl d (by simp)
  rw[Kv,if_pos (O4 ha hd),K5 l (dD a d) (C9 ha) fun e he=>hl e (by simp[he])]
  rfl
theorem Xw{n:Int}(hn:1≤n∧n≤64){l:List DB}(h2:2≤l.length∧l.length≤4)(hl: ∀d,d∈l→Cs n d):zy l=true∧jw l=l.foldl dD (cw n):=by
 have hs:cq l.length=true:=by simp only[cq,an];omega
 cases l with
 |nil=>simp at h2
 |cons d l=>
  have hd:=hl d (by simp)
  have e:MF (d::l)=some (l.foldl dD d):=by
   rw[MF,if_pos hs]
   exact K5 l d hd fun e he=>hl e (by simp[he])
  obtain⟨q1,q2⟩:=Ij e
  refine⟨q2,?_⟩
  rw[q1,List.foldl_cons,(UU hn).id d hd]
theorem Xx{x:aJ}{sv cl row:Int}{c:List UInt8}(h:kY x sv cl row c=true):
  (uZ x sv cl row c).length=x.ah.length∧zy (uZ x sv cl row c)=true∧jw (uZ x sv cl row c)=Ah x.rows row c∧(uZ x sv cl row c).getD sv.toNat (au .DB)=(bk x cl).getD sv.toNat (au .DB)∧BN (uZ x sv cl row c):=by
 obtain⟨h1,h2⟩:=Xt h
 have q:=MX.of h1
 have q1:=q.UN;have q3:=q.xsv;have q4:=q.xn;have q5:=q.Xn;have ho:=Bl sv
 obtain⟨g1,g2⟩:=UP h
 rw[MZ h]
 obtain⟨j1,j2⟩:=Xw q1 (l:=Xp x sv cl row c) (by omega) g2
 have hne:(dV sv).toNat≠sv.toNat:=by unfold dV;split<;>omega
 refine⟨g1,j1,?_,?_,fun d hd=>(g2 d hd).1⟩
 ·rw[j2]
  exact((UU q1).fit (l:=bk x cl) (i:=(dV sv).toNat) (u:=Ah x.rows row c) q.xel (by omega) ⟨(xl h2).1,zQ h2⟩).2
 ·unfold Xp
  rw[List.getD_eq_getElem?_getD,List.getD_eq_getElem?_getD,List.getElem?_set_ne hne]
theorem acS{x:aJ}{sv cl row:Int}{c:List UInt8}(h:okW x=true)(h1:0≤sv∧sv<(x.ah.length:Int))(h2:0≤cl∧cl<(x.af.length:Int))(h3:0≤row∧row<x.rows)(hc:c.length=24):kY x sv cl row c=true:=by
 have w:=yd.of h
 have w1:=w.rows;have w2:=w.KL;have w3:=w.Qh
 simp only[kY,Qw,h,qy,zj,Bool.true_and,Bool.and_eq_true,an,decide_eq_true_eq]
 rw[bl (a:=(x.ah.length:Int)-1) (by omega),bl (a:=x.rows-1) (by omega)]
 omega
def Fe(l:List (List UInt8)):Nat:=(l.map fun b=>if(b.any fun c=>(c.toNat:Int) !=0)=true then 1 else 0).sum
theorem Qx(l:List (List UInt8))(k:Nat)(h:k<l.length):Fe (l.take (k+1))=Fe (l.take k)+(if((l.getD k (au (.sl .u8))).any fun c=>(c.toNat:Int) !=0)=true then 1 else 0):=by
 unfold Fe
 rw[aV l k (au (.sl .u8)) h]
 simp
theorem Xy(l:List (List UInt8)):Fe l≤l.length:=by
 unfold Fe
 induction l with
 |nil=>exact Nat.le_refl _
 |cons b l ih=>
  rw[List.map_cons,List.sum_cons,List.length_cons]
  split<;>omega
theorem O5{α:Type}(g:α→Nat)(c:α): ∀(l:List α) (i:Nat),(∀b,b∈l→g b=0)→((l.set i c).map g).sum≤g c
 | [],_,_=>Nat.zero_le _
 |b::l,0,h=>by
  have h0:(l.map g).sum=0:=by
   have: ∀l:List α,(∀b,b∈l→g b=0)→(l.map g).sum=0:=by
    intro l
    induction l with
    |nil=>intro _;rfl
    |cons a l ih=>intro hl;rw[List.map_cons,List.sum_cons,hl a (by simp),ih fun b hb=>hl b (by simp[hb])]
   exact this l fun b hb=>h b (by simp[hb])
  rw[List.set_cons_zero,List.map_cons,List.sum_cons,h0];omega
 |b::l,i+1,h=>by
  rw[List.set_cons_succ,List.map_cons,List.sum_cons,h b (by simp)]
  have:=O5 g c l i fun b hb=>h b (by simp[hb])
  omega
theorem UW{rows i:Int}{c:List UInt8}(h:fT rows i c=true):(Ah rows i c).rows.getD i.toNat (au (.sl .u8))=c∧Fe (Ah rows i c).rows≤1:=by
 have h0:=h
 rw[zj]at h0
 simp only[Bool.and_eq_true,an]at h0
 have hr:=(xl h).2
 have h2:=h0.1.2
 rw[bl (by omega)]at h2
 simp only[fT,Bool.and_eq_true]at h
 have e:(Ah rows i c).rows=(List.replicate rows.toNat Mo).set i.toNat c:=by
  rw[Ah,if_pos h.1,qF h.2,iT (by omega)]
 rw[e]
 refine⟨?_,?_⟩
 ·rw[List.getD_eq_getElem?_getD,List.getElem?_set_self (by rw[List.length_replicate];omega)];rfl
 ·refine Nat.le_trans (O5 _ c _ _ fun b hb=> ?_) (by split<;>omega)
  rw[(List.mem_replicate.1 hb).2]
  decide
theorem Ff{x:aJ}{sv:Int}(h:okW x=true)(hs:0≤sv∧sv<(x.ah.length:Int)): ∀k,k≤x.af.length→lJ x sv k=(List.range k).map fun c:Nat=>(bk x (c:Int)).getD sv.toNat (au .DB)
 |0,_=>rfl
 |k+1,hk=>by rw[PY h hs k (by omega),Ff h hs k (by omega),List.range_succ,List.map_append];rfl
theorem view_eq{x:aJ}{sv:Int}(h:okW x=true)(hs:0≤sv∧sv<(x.ah.length:Int)):bf x sv=(List.range x.af.length).map fun c:Nat=>(bk x (c:Int)).getD sv.toNat (au .DB):=by
 have w2:=(yd.of h).KL
 rw[bf,if_pos,Ff h hs _ (Nat.le_refl _)]
 simp only[J6,h,Bool.true_and,an]
 rw[bl (by omega)];omega
theorem K6{x:aJ}{sv:Int}(h:okW x=true)(hs:0≤sv∧sv<(x.ah.length:Int)):(bf x sv).length=x.af.length:=by rw[view_eq h hs];simp
theorem Xz{x:aJ}{sv cl:Int}(h:okW x=true)(hs:0≤sv∧sv<(x.ah.length:Int))(hc:0≤cl∧cl<(x.af.length:Int)):(bf x sv).getD cl.toNat (au .DB)=(bk x cl).getD sv.toNat (au .DB):=by
 rw[view_eq h hs,eg _ _ _ _ (by omega),show((cl.toNat:Nat):Int)=cl by omega]
theorem Bn{α:Type}(g:α→Nat)(c:Nat): ∀l:List α,(∀a,a∈l→g a=c)→(l.map g).sum=c*l.length
 | [],_=>by simp
 |a::l,h=>by
  rw[List.map_cons,List.sum_cons,h a (by simp),Bn g c l fun b hb=>h b (by simp[hb]),List.length_cons,Nat.mul_succ];omega
theorem M1{x:aJ}{sv:Int}(h:okW x=true)(hs:0≤sv∧sv<(x.ah.length:Int)):IntKind.i64.wrap (IntKind.i64.wrap ((x.af.length:Int)*x.rows)*24)=((cvb x sv:Nat):Int):=by
 have w:=yd.of h
 have w1:=w.rows;have w2:=w.KL;have w3:=w.Qh
 have e:cvb x sv=24*x.rows.toNat*x.af.length:=by
  unfold cvb
  rw[Bn Cf (24*x.rows.toNat) _ (fun d hd=> ?_),K6 h hs]
  rw[view_eq h hs]at hd
  obtain⟨k,hk,rfl⟩:=List.mem_map.1 hd
  have nG:=List.mem_range.1 hk
  have hl:=eV h (c:=(k:Int)) (by omega)
  have hm:(bk x (k:Int)).getD sv.toNat (au .DB)∈bk x (k:Int):=getD_in _ (by omega)
  have h1:=n9 h _ hm
  have h2:=xN _ hm
  unfold Cf
  rw[Bn List.length 24 _ (iF.1 h1).2]
  congr 1
  omega
 have hm:x.af.length*x.rows.toNat≤8*64:=Nat.mul_le_mul w3.2 (by omega)
 have e2:(x.af.length:Int)*x.rows=((x.af.length*x.rows.toNat:Nat):Int):=by rw[Int.natCast_mul];congr 1;omega
 rw[e,e2,bl (a:=((x.af.length*x.rows.toNat:Nat):Int)) (by omega),bl (by omega),Nat.mul_assoc,Nat.mul_comm x.rows.toNat]
 omega
theorem Ys{x:aJ}{cl:Int}(h:okW x=true)(hc:0≤cl∧cl<(x.af.length:Int)){s:Nat}(hs:s<x.ah.length-1):(bk x cl).getD s (au .DB)=J2 (kh x.seed [223,x.round,cl,(s:Int)]) x.rows:=by
 rw[bk,mY,if_pos (Gs h hc),List.getD_eq_getElem?_getD,List.getElem?_append_left (by rw[List.length_map,iE];exact hs),List.getElem?_map,gr,List.getElem?_map,List.getElem?_range hs]
 rfl
theorem Yt(x:aJ)(c:Int)(b:List UInt8):(CY x c b).seed=x.seed∧(CY x c b).round=x.round∧(CY x c b).ah=x.ah∧(CY x c b).rows=x.rows∧(CY x c b).af.length=x.af.length:=by
 unfold CY
 split
 ·refine⟨rfl,rfl,rfl,rfl,?_⟩
  exact List.length_set
 ·exact⟨rfl,rfl,rfl,rfl,rfl⟩
def K7(k:Nat):List Int:=(List.range k).map fun i:Nat=>(i:Int)
theorem UX(k:Nat):(K7 k).length=k:=by simp[K7]
theorem Qy(k:Nat):K7 (k+1)=K7 k++ [(k:Int)]:=rV _ k
theorem aaG{x:aJ}{c:Int}{b:List UInt8}(h:okW x=true):ssv x (CY x c b) (K7 (x.ah.length-1))=true:=by
 have hy:=Un (c:=c) (b:=b) h
 obtain⟨f1,f2,f3,f4,f5⟩:=Yt x c b
 refine List.all_eq_true.2 fun s hs=> ?_
 obtain⟨i,hi,rfl⟩:=List.mem_map.1 hs
 have hi:=List.mem_range.1 hi
 have e:bf x (i:Int)=bf (CY x c b) (i:Int):=by
  rw[view_eq h (by omega),view_eq hy (by rw[f3];omega),f5]
  refine List.map_congr_left fun k hk=> ?_
  have hk:=List.mem_range.1 hk
  rw[show((i:Int)).toNat=i by omega,Ys h (by omega) hi,Ys hy (by rw[f5];omega) (by rw[f3];exact hi),f1,f2,f4]
 rw[e,qN]
 simp
end
end Go.Proofs.YteodajeiagmekaaGreat.G
