/-
  How much what explains a view holds. No program in sight.
-/
import Derived.Test.YteodajeiagmekaaGreatM60
import Derived.Test.YteodajeiagmekaaGreatM84
import Derived.Test.YteodajeiagmekaaGreatM86
namespace Go.Proofs.YteodajeiagmekaaGreat.G
set_option linter.all false
open Go.RowKit L D
section
theorem acQ{x:aJ}:rq x 0 0 100<100:=by
 unfold rq
 split
 ·have:=Yp (x.af.getD (0:Int).toNat (au .aL)).live.key 0 x.rows (p7 100 100-1).toNat
  have e:(p7 100 100-1).toNat=99:=by decide
  rw[e]at this ⊢
  omega
 ·omega
end
section
theorem Yq{x:aJ}{sv row o:Int}(h:okW x=true)(h1:0≤sv∧sv<(x.ah.length:Int))(h2:0≤row∧row<x.rows)(h3:0≤o∧o<x.rows):jZ x sv row o=true:=by
 have w:=yd.of h
 have w1:=w.rows;have w2:=w.KL
 simp only[jZ,mT,h,Bool.true_and,Bool.and_eq_true,an]
 rw[bl (a:=(x.ah.length:Int)-1) (by omega),bl (a:=x.rows-1) (by omega)]
 omega
def Yr(l:List (List Int))(k:Nat):List Int:=(l.take k).foldl eA (E9 ((l.getD 0 (au (.sl .int))).length:Int))
theorem UR(l:List (List Int))(k:Nat)(h:k<l.length):Yr l (k+1)=eA (Yr l k) (l.getD k (au (.sl .int))):=jK _ _ _ _ _ h
theorem Xu{l:List (List Int)}{k:Nat}(h:l.length≤k):Yr l k=zW l:=by unfold Yr zW;rw[List.take_of_length_le h]
theorem Xv{l:List (List Int)}(h:(l.getD 0 (au (.sl .int))).length≤64)(k:Nat):(Yr l k).length≤64:=by
 have: ∀(l:List (List Int)) (a:List Int),a.length≤64→(l.foldl eA a).length≤64:=by
  intro l
  induction l with
  |nil=>intro a h;exact h
  |cons v l ih=>intro a _;exact ih _ (xh _ _)
 exact this _ _ (by simp only[E9,List.length_replicate];omega)
theorem acR{a b:List Int}{k:Nat}(h3: ¬a.getD k (au .int)=b.getD k (au .int)):(a==b)=false:=by
 rw[beq_eq_false_iff_ne]
 intro h
 rw[h]at h3
 exact h3 rfl
end
end Go.Proofs.YteodajeiagmekaaGreat.G
