/-
  Cells opened: what the two programs look at. No program in sight.
-/
import Derived.Test.YteodajeiagmekaaGreatM24
import Derived.Test.YteodajeiagmekaaGreatM32
namespace Go.Proofs.YteodajeiagmekaaGreat.G
set_option linter.all false
open Go.RowKit L D
section
theorem Tg(s:aO)(key r:Int)(d:DB)(v:List Int):(Fo s key r d v).data.length=24∨(iV d v=false∧(Fo s key r d v).data= []):=by
 unfold Fo
 cases h:iV d v with
 |false=>right;exact⟨rfl,rfl⟩
 |true=>
  left
  have h1:=uH d v
  have h2:(dM d v).length=24:=by
   rcases h1 with h1|h1
   ·exact h1
   ·rw[iV,h1]at h;cases h
  simp only[if_true]
  split
  ·show(Ai (dM d v)).length=24
   unfold Ai;rw[List.length_set];exact h2
  ·exact h2
theorem Th{x:aJ}{r row s:Int}{k:Nat}(hk:k<(query' x r row s).length)(h:iV (dn x.ak.rounds r) ((query' x r row s).getD k (au (.sl .int)))=false):fL (sJ x r row s)=false:=by
 unfold fL
 have h1:(Tc x r (dn x.ak.rounds r) (query' x r row s) k).data∈sJ x r row s:=by
  unfold sJ mZ
  rw[List.map_map]
  exact List.mem_map.2 ⟨k,List.mem_range.2 hk,rfl⟩
 have h2:(Tc x r (dn x.ak.rounds r) (query' x r row s) k).data= []:=by
  rcases Tg (x.ah.getD k (au .aO)) (fU x.az (k:Int)) r (dn x.ak.rounds r) ((query' x r row s).getD k (au (.sl .int)))with h3|h3
  ·unfold Tc;unfold Fo;rw[h];rfl
  ·exact h3.2
 have h3:((sJ x r row s).all fun a=>decide ((a.length:Int)=24))=false:=by
  rw[List.all_eq_false]
  exact⟨_,h1,by rw[h2];decide⟩
 rw[h3,Bool.and_false]
end
section
theorem acd{key c:Int}{cell:List UInt8}(hA:Lv key c cell=true)(h:Fp key c cell≤14):jA ⟨U5 key c cell,X1 key c cell⟩=mu key c cell:=by
 have hl:=Ic hA h
 rw[mu,hA,Bool.true_and,jA,X0]
 show(inr (U5 key c cell) 0 3&&decide (((X1 key c cell).length:Int)≤14))=(inr (U5 key c cell) 0 3&&decide ((Fp key c cell:Int)≤14))
 rw[hl]
end
end Go.Proofs.YteodajeiagmekaaGreat.G
