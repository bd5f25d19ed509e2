/-
  Rounds in a row, until all is quiet. No program in sight.
-/
import Derived.Test.YtmcgjpdljafkeaaGreatM10
import Derived.Test.YtmcgjpdljafkeaaGreatM17
import Derived.Test.YtmcgjpdljafkeaaGreatM22
namespace Go.Proofs.YtmcgjpdljafkeaaGreat.G
set_option linter.all false
open Go.RowKit L D
section
def jm(x:aN):Bool:=(qu x.aa x.aa.length==0)&&(Bu x.aa x.aa.length==0)
def Q9(x:aN):Nat→Nat→Int
 |k,0=>if jm (bN x k)then(k:Int)else-1
 |k,n+1=>if jm (bN x k)then(k:Int)else Q9 x (k+1) n
def nq(l:Int):Nat:=(k9 l 400).toNat
def delay(x:aN)(l:Int):Int:=Q9 x 0 (nq l)
theorem Mo(l:Int):nq l≤400:=by unfold nq k9;split<;>omega
theorem Mp{x:aN}{k n:Nat}(h:jm (bN x k)=true):Q9 x k n=k:=by cases n<;>simp[Q9,h]
theorem Mq{x:aN}{k:Nat}(h:jm (bN x k)=false):Q9 x k 0= -1:=by simp[Q9,h]
theorem Ra{x:aN}{k n:Nat}(h:jm (bN x k)=false)(hn:0<n):Q9 x k n=Q9 x (k+1) (n-1):=by
 obtain⟨m,rfl⟩: ∃m,n=m+1:=⟨n-1,by omega⟩
 simp[Q9,h]
theorem VM(l:Int):(if k9 l 400>0 then k9 l 400 else 0)=((nq l:Nat):Int):=by
 unfold nq
 split<;>omega
end
end Go.Proofs.YtmcgjpdljafkeaaGreat.G
