/-
  Exclusive or of selections and of databases: what explains a view fits. No program in sight.
-/
import Derived.Test.YteodajeiagmekaaGreatM74
import Derived.Test.YteodajeiagmekaaGreatM85
namespace Go.Proofs.YteodajeiagmekaaGreat.G
set_option linter.all false
open Go.RowKit L D
section
theorem acO(x y:Int):xb x y=xb y x:=by
 unfold xb
 by_cases h:x=y
 ·rw[if_pos h,if_pos h.symm]
 ·rw[if_neg h,if_neg (fun h2=>h h2.symm)]
theorem C8{v:List Int}{r:Int}(h:bN v r=true){i:Nat}(hi:i<v.length):v[i]=0∨v[i]=1:=by
 have:=qA h i hi
 rwa [List.getD_eq_getElem?_getD,List.getElem?_eq_getElem hi]at this
theorem acP{x y z:Int}(hx:x=0∨x=1)(hy:y=0∨y=1)(hz:z=0∨z=1):xb (xb x y) z=xb x (xb y z):=by
 rcases hx with rfl|rfl<;>rcases hy with rfl|rfl<;>rcases hz with rfl|rfl<;>decide
def E9(n:Int):List Int:=List.replicate n.toNat (au .int)
theorem K3{n:Int}{i:Nat}(h:i<(E9 n).length):(E9 n)[i]=0:=List.getElem_replicate (by simpa[E9]using h)
theorem K4{n:Int}(hn:1≤n∧n≤64):bN (E9 n) n=true:=by
 simp only[bN,Bool.and_eq_true,decide_eq_true_eq,List.all_eq_true,an,E9,List.length_replicate]
 refine⟨⟨by omega,hn.2⟩,fun x hx=> ?_⟩
 rw[(List.mem_replicate.1 hx).2]
 show(0:Int)≤0∧(0:Int)≤1
 omega
theorem Xs{n:Int}(hn:1≤n∧n≤64):nA (fun v=>bN v n=true) eA (E9 n) where
 cl:=fun a b ha hb=>by rw[fX ha hb];exact C4 ha hb
 cm:=fun a b ha hb=>by
  rw[fX ha hb,fX hb ha]
  refine List.ext_getElem (by simp[Nat.min_comm]) fun i h1 h2=> ?_
  rw[List.getElem_zipWith,List.getElem_zipWith,acO]
 ac:=fun a b c ha hb hc=>by
  rw[fX ha hb,fX (C4 ha hb) hc,fX hb hc,fX ha (C4 hb hc)]
  refine List.ext_getElem (by simp[Nat.min_assoc]) fun i h1 h2=> ?_
  simp only[List.getElem_zipWith]
  have h3:i<a.length∧i<b.length∧i<c.length:=by simp at h1;omega
  exact acP (C8 ha h3.1) (C8 hb h3.2.1) (C8 hc h3.2.2)
 id:=fun a ha=>by
  rw[fX (K4 hn) ha]
  have hl:=dZ ha
  refine List.ext_getElem (by simp[E9];omega) fun i h1 h2=> ?_
  rw[List.getElem_zipWith]
  rw[K3]
  rcases C8 ha h2 with h|h<;>rw[h]<;>decide
 pe:=K4 hn
 iv:=fun a ha=>by
  rw[fX ha ha]
  have hl:=dZ ha
  refine List.ext_getElem (by simp[E9];omega) fun i h1 h2=> ?_
  rw[List.getElem_zipWith,K3 h2]
  unfold xb;rw[if_pos rfl]
def zW(l:List (List Int)):List Int:=l.foldl eA (E9 ((l.getD 0 (au (.sl .int))).length:Int))
theorem II{x:aJ}{sv r row s o:Int}(h:jZ x sv row o=true):
  (vP x sv r row s o).length=x.ah.length∧(vP x sv r row s o).getD sv.toNat (au (.sl .int))=eE x sv r row s∧(∀v,v∈vP x sv r row s o→bN v x.rows=true)∧zW (vP x sv r row s o)=gD x.rows o∧bN (eE x sv r row s) x.rows=true:=by
 obtain⟨hk,hx⟩:=aaC (r:=r) (s:=s) h
 have q:=Yk.of (r:=r) (s:=s) hk
 have q1:=q.KX;have q3:=q.qsv;have q4:=q.qn;have q5:=q.Xl;have ho:=Bl sv
 have X:=Xs q1
 have hu:cX x.rows o=true:=by
  rw[Yn q1]
  simp only[jZ,Bool.and_eq_true]at h
  exact h.2
 obtain⟨hP,hF⟩:=X.fit (l:=query x r row s) (i:=(dV sv).toNat) (u:=gD x.rows o) q.MV (by omega) (zS hu)
 have hne:(dV sv).toNat≠sv.toNat:=by unfold dV;split<;>omega
 have hmem: ∀v,v∈Xm x sv r row s o→bN v x.rows=true:=by
  intro v hv
  rcases List.mem_or_eq_of_mem_set hv with hv|rfl
  ·exact q.MV v hv
  ·exact hP
 have hl:(Xm x sv r row s o).length=x.ah.length:=by unfold Xm;rw[List.length_set];exact q5
 have hg:(Xm x sv r row s o).getD sv.toNat (au (.sl .int))=(query x r row s).getD sv.toNat (au (.sl .int)):=by
  unfold Xm
  rw[List.getD_eq_getElem?_getD,List.getD_eq_getElem?_getD,List.getElem?_set_ne hne]
 have hs:eE x sv r row s=(query x r row s).getD sv.toNat (au (.sl .int)):=by rw[eE,if_pos hk]
 rw[MW h]
 refine⟨hl,by rw[hg,hs],hmem,?_,by rw[hs];exact q.MV _ (getD_in _ (by omega))⟩
 have h0:=dZ (hmem _ (getD_in (au (.sl .int)) (k:=0) (by omega)))
 rw[zW,h0.1]
 exact hF
end
end Go.Proofs.YteodajeiagmekaaGreat.G
