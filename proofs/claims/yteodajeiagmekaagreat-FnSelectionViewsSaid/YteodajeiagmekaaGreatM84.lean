/-
  Rows of a mailbox that stay; transfers. No program in sight.
-/
import Derived.Test.YteodajeiagmekaaGreatM16
namespace Go.Proofs.YteodajeiagmekaaGreat.G
set_option linter.all false
open Go.RowKit L D
section
def lkp(key f n:Int)(j:Nat):Bool:=dN key (f+((j+1:Nat):Int)) 0 n==dN key (f+(j:Int)) 0 n
def lk(key f n:Int)(m:Nat):Nat:=((List.range m).filter (lkp key f n)).length
theorem Yp(key f n:Int)(m:Nat):lk key f n m≤m:=by
 unfold lk
 have:=List.length_filter_le (lkp key f n) (List.range m)
 simpa using this
theorem aaE{key f n:Int}{k:Nat}(h:dN key (f+((k+1:Nat):Int)) 0 n=dN key (f+(k:Int)) 0 n):lk key f n (k+1)=lk key f n k+1:=by
 unfold lk;rw[List.range_succ,List.filter_append,List.length_append]
 have:lkp key f n k=true:=by unfold lkp;rw[h];simp
 simp[this]
theorem Xq{key f n:Int}{k:Nat}(h:dN key (f+((k+1:Nat):Int)) 0 n≠dN key (f+(k:Int)) 0 n):lk key f n (k+1)=lk key f n k:=by
 unfold lk;rw[List.range_succ,List.filter_append,List.length_append]
 have:lkp key f n k=false:=by unfold lkp;simpa using h
 simp[this]
def M0(x:aJ)(c f:Int):Bool:=okW x&&qy x c&&inr f 0 100000
def rq(x:aJ)(c f m:Int):Int:=if M0 x c f=true then(lk (x.af.getD c.toNat (au .aL)).live.key f x.rows (p7 m 100-1).toNat:Int)else 0
theorem Xr(a b:Int):p7 a b≤a∧p7 a b≤b∧(p7 a b=a∨p7 a b=b):=by unfold p7;split<;>omega
theorem aaF{x:aJ}{c f:Int}(h:M0 x c f=true):(0≤c∧c<x.af.length)∧0≤f∧f≤100000:=by
 simp only[M0,qy,Bool.and_eq_true,an]at h
 omega
end
end Go.Proofs.YteodajeiagmekaaGreat.G
