/-
  Reading: with servers that do not lie, what is read is the row; whoever lies is found; who has read has read all. No program in sight.
-/
import Derived.Test.YteodajeiagmekaaGreatM11
namespace Go.Proofs.YteodajeiagmekaaGreat.G
set_option linter.all false
open Go.RowKit L D
section
theorem aam{a b:List Int}(hl:b.length=a.length){k:Nat}(hk:k<a.length):(List.zipWith xb a b).getD k (au .int)=xb (a.getD k (au .int)) (b.getD k (au .int)):=by
 have hz:k<(List.zipWith xb a b).length:=by rw[List.length_zipWith];omega
 rw[List.getD_eq_getElem?_getD,List.getElem?_eq_getElem hz,List.getElem_zipWith,List.getD_eq_getElem?_getD,List.getElem?_eq_getElem hk,List.getD_eq_getElem?_getD,List.getElem?_eq_getElem (show k<b.length by omega)]
 rfl
theorem aan(rows:List (List UInt8)){a b:List Int}{n:Int}(ha:bN a n=true)(hb:bN b n=true)(i k:Nat):sb rows (List.zipWith xb a b) i k=sb rows a i k^^^sb rows b i k:=by
 have h1:=dZ ha
 have h2:=dZ hb
 have hl:b.length=a.length:=by omega
 have hz:(List.zipWith xb a b).length=a.length:=by rw[List.length_zipWith];omega
 unfold sb
 rw[hz,hl]
 by_cases hk:k<a.length
 ·rw[aam hl hk]
  rcases qA ha k hk with e1|e1<;>rcases qA hb k (by omega)with e2|e2<;>rw[e1,e2]<;>simp[xb,hk]
 ·simp[hk]
theorem aeH(a b c d:UInt8):(a^^^b)^^^(c^^^d)=(a^^^c)^^^(b^^^d):=by
 rw[UInt8.xor_assoc,UInt8.xor_assoc, ←UInt8.xor_assoc b c d,UInt8.xor_comm b c,UInt8.xor_assoc c b d]
theorem Ux(rows:List (List UInt8)){a b:List Int}{n:Int}(ha:bN a n=true)(hb:bN b n=true)(i:Nat): ∀k,sx rows (List.zipWith xb a b) i k=sx rows a i k^^^sx rows b i k
 |0=>by simp[sx]
 |k+1=>by rw[sx,sx,sx,Ux rows ha hb i k,aan rows ha hb,aeH]
theorem C4{a b:List Int}{n:Int}(ha:bN a n=true)(hb:bN b n=true):bN (List.zipWith xb a b) n=true:=by
 have h1:=dZ ha
 have h2:=dZ hb
 have hz:(List.zipWith xb a b).length=a.length:=by rw[List.length_zipWith];omega
 simp only[bN,Bool.and_eq_true,decide_eq_true_eq,List.all_eq_true,an]
 refine⟨⟨by omega,h1.2⟩,fun x hx=> ?_⟩
 obtain⟨k,hk,rfl⟩:=List.mem_iff_getElem.1 hx
 rw[List.getElem_zipWith]
 unfold xb
 split<;>omega
theorem fX{a b:List Int}{n:Int}(ha:bN a n=true)(hb:bN b n=true):eA a b=List.zipWith xb a b:=by
 have h1:=dZ ha
 apply sj
 rw[kG,h1.1,ha,hb];rfl
theorem E5(rows:List (List UInt8)){n:Int}(hn:1≤n∧n≤64)(i k:Nat): ∀(sd:List Int) (l:List Int),bN l n=true→
  bN (sd.foldl (fun l s=>eA l (bg s n)) l) n=true∧sx rows (sd.foldl (fun l s=>eA l (bg s n)) l) i k=sd.foldl (fun z s=>z^^^sx rows (bg s n) i k) (sx rows l i k)
 | [],l,h=>⟨h,rfl⟩
 |s::sd,l,h=>by
  have hr:=pG (s:=s) hn
  have e:=fX h hr
  have hz:=C4 h hr
  have ih:=E5 rows hn i k sd (List.zipWith xb l (bg s n)) hz
  rw[List.foldl_cons,List.foldl_cons,e]
  refine⟨ih.1,?_⟩
  rw[ih.2,Ux rows h hr]
theorem zS{rows i:Int}(h:cX rows i=true):bN (gD rows i) rows=true:=by
 obtain⟨h1,h2,h3,h4⟩:=mj h
 rw[iS h]
 simp only[bN,Bool.and_eq_true,decide_eq_true_eq,List.all_eq_true,an,List.length_set,List.length_replicate]
 refine⟨⟨by omega,h2⟩,fun x hx=> ?_⟩
 rcases List.mem_or_eq_of_mem_set hx with h5|h5
 ·have h6:=(List.mem_replicate.1 h5).2
  rw[h6]
  show 0≤(0:Int)∧(0:Int)≤1
  omega
 ·omega
end
end Go.Proofs.YteodajeiagmekaaGreat.G
