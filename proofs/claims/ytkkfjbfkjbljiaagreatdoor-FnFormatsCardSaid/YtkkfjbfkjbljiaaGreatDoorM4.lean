/-
  Surroundings that a call counts on: the library's table of powers of ten lies in its block.
-/
import Derived.Lib.ItoaNum
import Derived.Test.YtkkfjbfkjbljiaaGreatDoorM3
namespace Go.Proofs.YtkkfjbfkjbljiaaGreatDoor.G
set_option linter.all false
open Go.RowKit L D
section
def Fi(b:Nat):Prop:=b=0
def zj(w:World):Prop:= ∃e k,w.heap[0]? =some (.cells (Lib.pow10Tab.map fun z=>Value.int .u64 z).toArray e k)
theorem zj.keep{w w':World}(h:zj w)(hk: ∀b,Fi b→b<w.heap.size→w'.heap[b]? =w.heap[b]?):zj w':=by
 obtain⟨e,k,h⟩:=h
 exact⟨e,k,by rw[hk _ rfl (Array.getElem?_eq_some_iff.1 h).1];exact h⟩
theorem zj.lt{w:World}(h:zj w){b:Nat}(hb:Fi b):b<w.heap.size:=by
 obtain⟨e,k,h⟩:=h
 have:b=0:=hb
 rw[this];exact(Array.getElem?_eq_some_iff.1 h).1
end
end Go.Proofs.YtkkfjbfkjbljiaaGreatDoor.G
