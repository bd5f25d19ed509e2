/-
  Selections, their exclusive or, queries, seeds of reads. No program in sight.
-/
import Derived.Test.YteodajeiagmekaaGreatM11
namespace Go.Proofs.YteodajeiagmekaaGreat.G
set_option linter.all false
open Go.RowKit L D
section
def mT(x:aJ)(sv row:Int):Bool:=(okW x&&inr sv 0 (IntKind.i64.wrap ((x.ah.length:Int)-1)))&&inr row 0 (IntKind.i64.wrap (x.rows-1))
def query(x:aJ)(r row s:Int):List (List Int):=eM x.rows row (cG x.ah.length r row s)
theorem CM{x:aJ}{sv row:Int}(h:mT x sv row=true):0≤sv∧sv<x.ah.length∧x.ah.length≤4∧2≤x.ah.length:=by
 simp only[mT,Bool.and_eq_true]at h
 have h1:=cN h.1.1
 have h2:=h.1.2
 rw[an,bl (by omega)]at h2
 omega
theorem JP{x:aJ}(h:okW x=true):1≤x.rows∧x.rows≤64:=by
 have:=kD h
 simp only[IN,an,Bool.and_eq_true]at this
 have h1:=this.1.1.1.1.1.1.1.1.1
 omega
theorem AN{x:aJ}{sv row:Int}(r s:Int)(h:mT x sv row=true):(eM x.rows row (cG x.ah.length r row s)).length=x.ah.length:=by
 have hs:=CM h
 simp only[mT,Bool.and_eq_true]at h
 have hr:=JP h.1.1
 have hu:cX x.rows row=true:=by
  have h2:=h.2
  simp only[cX,Bool.and_eq_true]
  exact⟨by rw[an];omega,h2⟩
 have hm:sk x.rows row (cG x.ah.length r row s)=true:=by
  simp only[sk,cq,Bool.and_eq_true,an,dL]
  rw[bl (by omega)]
  refine⟨?_,by omega⟩
  rw[iS hu,List.length_set,List.length_replicate]
  simp;omega
 rw[eM,if_pos hm,List.length_append,List.length_map,dL]
 simp;omega
end
end Go.Proofs.YteodajeiagmekaaGreat.G
