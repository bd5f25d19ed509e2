/-
  Exclusive or of selections and of databases: what explains a view fits. No program in sight.
-/
import Derived.Test.YteodajeiagmekaaGreatM14
import Derived.Test.YteodajeiagmekaaGreatM72
namespace Go.Proofs.YteodajeiagmekaaGreat.G
set_option linter.all false
open Go.RowKit L D
section
theorem nA.fold{α:Type}{P:α→Prop}{f:α→α→α}{e:α}(X:nA P f e): ∀(l:List α) (z:α),(∀a,a∈l→P a)→P z→P (l.foldl f z)∧l.foldl f z=f z (l.foldl f e)
 | [],z,_,hz=>⟨hz,by show z=f z e;rw[X.cm z e hz X.pe,X.id z hz]⟩
 |a::l,z,hl,hz=>by
  have ha:=hl a (by simp)
  have hl': ∀a,a∈l→P a:=fun b hb=>hl b (by simp[hb])
  have h1:=nA.fold X l (f z a) hl' (X.cl z a hz ha)
  have h2:=nA.fold X l (f e a) hl' (X.cl e a X.pe ha)
  have h3:=nA.fold X l e hl' X.pe
  refine⟨h1.1,?_⟩
  show l.foldl f (f z a)=f z (l.foldl f (f e a))
  rw[h1.2,h2.2,X.id a ha,X.ac z a _ hz ha h3.1]
theorem nA.fit{α:Type}{P:α→Prop}{f:α→α→α}{e:α}(X:nA P f e){l:List α}{i:Nat}{u:α}(hl: ∀a,a∈l→P a)(hi:i<l.length)(hu:P u):
  P ((yf l i).foldl f u)∧(l.set i ((yf l i).foldl f u)).foldl f e=u:=by
 have hA: ∀a,a∈l.take i→P a:=fun a h=>hl a (List.mem_of_mem_take h)
 have hB: ∀a,a∈l.drop (i+1)→P a:=fun a h=>hl a (List.mem_of_mem_drop h)
 have hy:(yf l i).foldl f u=f (f u ((l.take i).foldl f e)) ((l.drop (i+1)).foldl f e):=by
  unfold yf
  rw[List.foldl_append,(X.fold (l.drop (i+1)) _ hB (X.fold (l.take i) u hA hu).1).2,(X.fold (l.take i) u hA hu).2]
 have ha:=(X.fold (l.take i) e hA X.pe).1
 have hb:=(X.fold (l.drop (i+1)) e hB X.pe).1
 have hc:=X.cl _ _ ha hb
 have Sb:(yf l i).foldl f u=f u (f ((l.take i).foldl f e) ((l.drop (i+1)).foldl f e)):=by rw[hy,X.ac u _ _ hu ha hb]
 have hP:P ((yf l i).foldl f u):=by rw[Sb];exact X.cl _ _ hu hc
 refine⟨hP,?_⟩
 rw[List.set_eq_take_append_cons_drop,if_pos hi,List.foldl_append,List.foldl_cons,(X.fold _ _ hB (X.cl _ _ ha hP)).2,X.cm _ _ ha hP,X.ac _ _ _ hP ha hb,Sb,X.ac u _ _ hu hc hc,X.iv _ hc,X.cm u _ hu X.pe,X.id u hu]
end
end Go.Proofs.YteodajeiagmekaaGreat.G
