/-
  Selections, their exclusive or, queries, seeds of reads. No program in sight.
-/
import Derived.Test.YteodajeiagmekaaGreatM11
namespace Go.Proofs.YteodajeiagmekaaGreat.G
set_option linter.all false
open Go.RowKit L D
section
theorem ad8{x:Int}(h:0≤x):IntKind.i64.wrap (BitVec.ofInt IntKind.i64.bits x&&&BitVec.ofInt IntKind.i64.bits 1).toNat=x % 2:=by
 obtain⟨n,rfl⟩:=Int.eq_ofNat_of_zero_le h
 have e:(BitVec.ofInt IntKind.i64.bits (n:Int)&&&BitVec.ofInt IntKind.i64.bits 1).toNat=n % 2:=by
  rw[BitVec.toNat_and]
  have h1:(BitVec.ofInt IntKind.i64.bits 1).toNat=1:=by decide
  have h2:(BitVec.ofInt IntKind.i64.bits (n:Int)).toNat=n % 2^64:=by
   rw[BitVec.ofInt_natCast,BitVec.toNat_ofNat];rfl
  rw[h1,h2,Nat.and_one_is_mod]
  omega
 rw[e,bl (by omega)]
 omega
theorem Zs{h:Int}(h0:0≤h)(h1:h<2147483647):IntKind.i64.wrap (BitVec.ofInt IntKind.i64.bits (((IntKind.i64.wrap (h*h)).tmod 2147483647).fdiv (2^(min (Int.toNat 9) IntKind.i64.bits)))&&&BitVec.ofInt IntKind.i64.bits 1).toNat=rsb h:=by
 have:=abK h0 h1
 have e:(2:Int)^(min (Int.toNat 9) IntKind.i64.bits)=512:=by decide
 rw[bl (a:=h*h) (by omega),dj (by omega),e,Int.fdiv_eq_ediv_of_nonneg _ (by decide)]
 have hm:0≤h*h % 2147483647:=Int.emod_nonneg _ (by decide)
 rw[ad8 (by omega)]
 rfl
end
section
theorem iz(s rows:Int):(bg s rows).length≤64:=by
 unfold bg
 split
 ·simp;omega
 ·simp
theorem En(s rows:Int)(k:Nat)(h0:(k:Int)<rows)(h1:rows≤64):k<(bg s rows).length:=by
 rw[bg,if_pos (by omega)];simp;omega
theorem yZ(s rows:Int)(k:Nat)(h0:(k:Int)<rows)(h1:rows≤64):(bg s rows).take (k+1)=(bg s rows).take k++ [IntKind.i64.wrap (BitVec.ofInt IntKind.i64.bits (((IntKind.i64.wrap (kh s [(k:Int),41]*kh s [(k:Int),41])).tmod 2147483647).fdiv (2^(min (Int.toNat 9) IntKind.i64.bits)))&&&BitVec.ofInt IntKind.i64.bits 1).toNat]:=by
 rw[Zs (dy _ _).1 (dy _ _).2,aV _ _ 0 (En s rows k h0 h1)]
 congr 2
 rw[bg,if_pos (by omega),eg _ _ _ _ (by omega)]
 rfl
theorem BH(s rows:Int)(k:Nat)(h:rows≤64→rows≤k):(bg s rows).take k=bg s rows:=by
 refine List.take_of_length_le ?_
 unfold bg
 split
 ·simp;omega
 ·simp
theorem abP{x y:Int}(hx:x=0∨x=1)(hy:y=0∨y=1):IntKind.i64.wrap (BitVec.ofInt IntKind.i64.bits x^^^BitVec.ofInt IntKind.i64.bits y).toNat=xb x y:=by
 rcases hx with rfl|rfl<;>rcases hy with rfl|rfl<;>decide
theorem nF{a b:List Int}(h:kG a b=true):b.length=a.length∧a.length≤64:=by
 simp only[kG,Bool.and_eq_true]at h
 have h1:=dZ h.1
 have h2:=dZ h.2
 omega
theorem za{a b:List Int}(h:kG a b=true):(List.zipWith xb a b).length=a.length:=by
 have:=nF h
 rw[List.length_zipWith];omega
theorem xh(a b:List Int):(eA a b).length≤64:=by
 cases h:kG a b with
 |true=>rw[sj h,za h];exact(nF h).2
 |false=>rw[eA,if_neg (by rw[h];decide)];simp
theorem N2{a b:List Int}(h:kG a b=true)(k:Nat)(hk:k<a.length):(List.zipWith xb a b).getD k (au .int)=IntKind.i64.wrap (BitVec.ofInt IntKind.i64.bits (a.getD k (au .int))^^^BitVec.ofInt IntKind.i64.bits (b.getD k (au .int))).toNat:=by
 have hl:=nF h
 have h':=h
 simp only[kG,Bool.and_eq_true]at h'
 rw[abP (qA h'.1 k hk) (qA h'.2 k (by omega))]
 rw[List.getD_eq_getElem?_getD,List.getD_eq_getElem?_getD,List.getD_eq_getElem?_getD,List.getElem?_zipWith,List.getElem?_eq_getElem hk,List.getElem?_eq_getElem (show k<b.length by omega)]
 rfl
theorem JN{a b:List Int}(h:kG a b=true)(k:Nat)(hk:k<a.length):(List.zipWith xb a b).take (k+1)=(List.zipWith xb a b).take k++ [IntKind.i64.wrap (BitVec.ofInt IntKind.i64.bits (a.getD k (au .int))^^^BitVec.ofInt IntKind.i64.bits (b.getD k (au .int))).toNat]:=by
 rw[aV _ k (au .int) (by rw[za h];exact hk),N2 h k hk]
theorem vF{rows i:Int}(h:cX rows i=false):gD rows i= []:=by rw[gD,if_neg (by rw[h];decide)]
theorem lF(rows i:Int):(gD rows i).length≤64:=by
 cases h:cX rows i with
 |true=>rw[iS h];have:=mj h;simp;omega
 |false=>rw[vF h];simp
theorem Eo(rows i:Int)(sd:List Int)(k:Nat)(h:k<sd.length):qB rows i (sd.take (k+1))=eA (qB rows i (sd.take k)) (bg (sd.getD k (au .int)) rows):=jK _ _ sd k _ h
theorem AM(rows i:Int)(sd:List Int):(qB rows i sd).length≤64:=by
 rcases List.eq_nil_or_concat sd with rfl| ⟨l,x,rfl⟩
 ·exact lF _ _
 ·rw[List.concat_eq_append,qB,List.foldl_append];exact xh _ _
theorem JO{rows i:Int}{sd:List Int}(h:sk rows i sd=true)(hl:sd.length≤1048576):sd.length≤3:=by
 simp only[sk,cq,Bool.and_eq_true,an]at h
 rw[bl (by omega)]at h
 omega
theorem uq(n:Nat)(r row s:Int)(k:Nat)(h:k<n-1):(cG n r row s).take (k+1)=(cG n r row s).take k++ [kh s [229,r,row,(k:Int)]]:=by
 rw[aV _ k (au .int) (by rw[dL];exact h),cG,eg _ _ _ _ h]
end
end Go.Proofs.YteodajeiagmekaaGreat.G
