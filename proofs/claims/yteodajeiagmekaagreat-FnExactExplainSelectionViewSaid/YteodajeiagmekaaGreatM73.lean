/-
  What the views of a server are explained by. No program in sight.
-/
import Derived.Test.YteodajeiagmekaaGreatM12
import Derived.Test.YteodajeiagmekaaGreatM72
namespace Go.Proofs.YteodajeiagmekaaGreat.G
set_option linter.all false
open Go.RowKit L D
section
def tv{α:Type}(l:List α)(i k:Nat):List α:=(l.take k).take i++(l.take k).drop (i+1)
theorem UH{α:Type}{l:List α}{i:Nat}:tv l i 0= []:=by unfold tv;simp
theorem KY{α:Type}{l:List α}{i k:Nat}(h:l.length≤k):tv l i k=yf l i:=by unfold tv yf;rw[List.take_of_length_le h]
theorem GQ{α:Type}{l:List α}{i:Nat}:tv l i (i+1)=tv l i i:=by
 unfold tv
 rw[List.take_take,List.take_take,List.drop_eq_nil_of_le (by rw[List.length_take];omega),List.drop_eq_nil_of_le (by rw[List.length_take];omega)]
 congr 2
 omega
theorem GR{α:Type}{l:List α}{i k:Nat}(d:α)(h:k<l.length)(hne:k≠i):tv l i (k+1)=tv l i k++ [l.getD k d]:=by
 unfold tv
 rw[aV l k d h]
 have hl:(l.take k).length=k:=by rw[List.length_take];omega
 by_cases hk:k<i
 ·rw[List.take_of_length_le (by rw[List.length_append,hl];show k+1≤i;omega),List.take_of_length_le (show(l.take k).length≤i by omega),List.drop_eq_nil_of_le (by rw[List.length_append,hl];show k+1≤i+1;omega),List.drop_eq_nil_of_le (show(l.take k).length≤i+1 by omega)]
  simp
 ·rw[List.take_append_of_le_length (by omega),List.drop_append_of_le_length (by omega),List.append_assoc]
theorem KZ{α:Type}(l:List α)(i k:Nat):(tv l i k).length≤l.length:=by
 unfold tv
 rw[List.length_append,List.length_take,List.length_drop,List.length_take];omega
end
end Go.Proofs.YteodajeiagmekaaGreat.G
