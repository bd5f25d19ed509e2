/-
  Events: what the two programs look at. No program in sight.
-/
import Derived.Test.YtmcgjpdljafkeaaGreatM13
import Derived.Test.YtmcgjpdljafkeaaGreatM23
namespace Go.Proofs.YtmcgjpdljafkeaaGreat.G
set_option linter.all false
open Go.RowKit L D
section
def cq(x:aN)(l:List Ev):aN:=l.foldl nx x
theorem tU(x:aN)(l:List Ev)(k:Nat)(h:k<l.length):cq x (l.take (k+1))=nx (cq x (l.take k)) (l.getD k (av .Ev)):=by
 unfold cq
 rw[bf l k (av .Ev) h,List.foldl_append];rfl
theorem KB: ∀(l:List Ev) {x:aN} {n:Nat},wC x n→wC (cq x l) (n+8*l.length)
 | [],_,_,h=>h
 |e::l,x,n,h=>dO (KB l (TM (e:=e) h)) (by rw[List.length_cons];omega)
end
section
def aK(l:List Ev):List Ev:=l.take 100
theorem I7(l:List Ev):(l.take (k9 (l.length:Int) 100).toNat).drop (Int.toNat 0)=aK l:=by
 unfold aK k9
 rw[show(Int.toNat 0)=0 from rfl,List.drop_zero]
 split
 ·rfl
 ·rw[List.take_of_length_le (by omega),List.take_of_length_le (by omega)]
theorem gV(l:List Ev):(aK l).length≤100∧(aK l).length≤l.length∧(∀k,k<(aK l).length↔k<l.length∧k<100):=by
 unfold aK
 rw[List.length_take]
 exact⟨by omega,by omega,fun k=>by omega⟩
theorem E9{l:List Ev}{k:Nat}(h:k<(aK l).length):(aK l).getD k (av .Ev)=l.getD k (av .Ev):=by
 have:=(gV l).2.2 k
 unfold aK
 rw[List.getD_eq_getElem?_getD,List.getD_eq_getElem?_getD,List.getElem?_take,if_pos (by omega)]
theorem TS{l:List Ev}{k:Nat}(h:(if decide ((k:Int)<(l.length:Int))=true then decide ((k:Int)<100)else false)=true):k<(aK l).length:=by
 have:=(gV l).2.2 k
 by_cases h1:(k:Int)<(l.length:Int)
 ·rw[if_pos (by simpa using h1),decide_eq_true_eq]at h;omega
 ·rw[if_neg (by simpa using h1)]at h;cases h
theorem Rh{l:List Ev}{k:Nat}(h:(if decide ((k:Int)<(l.length:Int))=true then decide ((k:Int)<100)else false)=false):(aK l).take k=aK l:=by
 have:=(gV l).2.2 k
 refine List.take_of_length_le ?_
 by_cases h1:(k:Int)<(l.length:Int)
 ·rw[if_pos (by simpa using h1),decide_eq_false_iff_not]at h;omega
 ·omega
theorem yq{l:List Ev}(h: ∀e,e∈l→e.body.length≤1048576){k:Nat}(hk:k<(aK l).length):((aK l).getD k (av .Ev)).body.length≤1048576:=
 h _ (List.mem_of_mem_take (getD_in (av .Ev) hk))
theorem GG{x:aN}(h:wC x 4100000)(l:List Ev)(k:Nat):wR (cq x ((aK l).take k)):=by
 have h1:=KB ((aK l).take k) h
 have h2:=(gV l).1
 have h3:((aK l).take k).length≤(aK l).length:=by rw[List.length_take];omega
 exact Au h1 (by omega)
end
end Go.Proofs.YtmcgjpdljafkeaaGreat.G
