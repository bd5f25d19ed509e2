/- Steps. -/
import Derived.Lib.ItoaNum
import Derived.Test.YtaalpcnbbldlaaaGreatDoorR3
namespace Go.Proofs.YtaalpcnbbldlaaaGreatDoor.G
set_option linter.all false
open Go.RowKit L D
variable{w:World}
def ahn(b:Nat):Prop:=b=5∨b=0∨b=3∨b=4
structure Nc(w:World):Prop where
 tab: ∃e k,w.heap[5]? =some (.cells (Lib.pow10Tab.map fun z=>Value.int .u64 z).toArray e k)
 len: ∃m e k,w.heap[0]? =some (.cells #[.int .i64 m] e k)
 syn: ∃t p e k,w.heap[3]? =some (.cells #[.iface t p] e k)
 ran: ∃t p e k,w.heap[4]? =some (.cells #[.iface t p] e k)
theorem yB{b:Nat}{o:Go.Obj}(h:w.heap[b]? =some o):b<w.heap.size:=(Array.getElem?_eq_some_iff.1 h).1
theorem Nc.keep{w':World}(h:Nc w)(hk: ∀b,ahn b→b<w.heap.size→w'.heap[b]? =w.heap[b]?):Nc w':=by
 obtain⟨⟨e,k,h1⟩,⟨m,e2,k2,h2⟩,⟨t3,p3,e3,k3,h3⟩,⟨t4,p4,e4,k4,h4⟩⟩:=h;exact⟨⟨e,k,(hk _ (Or.inl rfl) (yB h1)).trans h1⟩,⟨m,e2,k2,(hk _ (Or.inr (Or.inl rfl)) (yB h2)).trans h2⟩,⟨t3,p3,e3,k3,(hk _ (Or.inr (Or.inr (Or.inl rfl))) (yB h3)).trans h3⟩,⟨t4,p4,e4,k4,(hk _ (Or.inr (Or.inr (Or.inr rfl))) (yB h4)).trans h4⟩⟩
theorem Nc.lt(h:Nc w){b:Nat}(hb:ahn b):b<w.heap.size:=by
 obtain⟨⟨e,k,h1⟩,⟨m,e2,k2,h2⟩,⟨t3,p3,e3,k3,h3⟩,⟨t4,p4,e4,k4,h4⟩⟩:=h;rcases hb with rfl|rfl|rfl|rfl
 ·exact yB h1
 ·exact yB h2
 ·exact yB h3
 ·exact yB h4
end Go.Proofs.YtaalpcnbbldlaaaGreatDoor.G
