/- Steps. -/
import Derived.BigQuiet
import Derived.Deep.QuietTactic
import Derived.StillTailTactics
import Derived.Test.YtaalpcnbbldlaaaGreatDoorR1
open Array renaming getElem?_eq_some_iff→dZ
namespace Go.Proofs.YtaalpcnbbldlaaaGreatDoor.L
set_option linter.all false
open Go.RowKit
variable{w:World}{o:Obj}{k b:Nat}{arr:Array Value}{e:TypeId}{f:Nat×Nat}{α:Type}{fp:List Nat}
theorem tV(hk:k=w.heap.size):(w.alloc o).heap[k]? =some o:=by
 subst hk;show(w.heap.push o)[w.heap.size]? =_
 simp
theorem blk{W w1:World}(hb:Below W.heap.size W w1)(h:W.heap[b]? =some o):w1.heap[b]? =some o:=by
 rw[hb.block b (dZ.1 h).1,h]
theorem XM(h:w.heap[b]? =some (.cells arr e f))(o:Nat):w.cell? ⟨b,o,none⟩=arr[o]? :=by simp[World.cell?,h]
theorem aFY(h:w.heap[b]? =some (.cells arr e (0,0)))(o:Nat):w.frozen? ⟨b,o,none⟩=false:=by simp[World.frozen?,h]
theorem au6(h:w.heap[b]? =some o):b<w.heap.size:=(dZ.1 h).1
theorem akt(h:w.heap[b]? =some (.cells arr e f)):w.rangeAt b 0 arr.toList:=fun j v hv=>by
 rw[Nat.zero_add,XM h];simpa using hv
theorem art(h:w.heap[b]? =some (.cells arr e f))(o:Nat)(cs:List Value)(hc: ∀j v,cs[j]? =some v→arr[o+j]? =some v):w.rangeAt b o cs:=fun j v hv=>by
 rw[XM h];exact hc j v hv
theorem abE(h:w.heap[b]? =some (.cells arr e (0,0)))(o n:Nat)(hn:o+n≤arr.size):w.there b o n:=fun j hj=>by
 rw[XM h,aFY h];simp;omega
theorem ahg{g o:Nat}{c:Array Value}{v:Value}(h:w.heap[g]? =some (.cells c e (0,0))):(w.setCell ⟨g,o,none⟩ v).heap[g]? =some (.cells (c.setIfInBounds o v) e (0,0)):=heap_setCell_same w g o c e v h
def splice(c:Array Value):Nat→List Value→Array Value
 |_,[]=>c
 |o,v::r=>splice (c.setIfInBounds o v) (o+1) r
theorem OX{g:Nat}{e:TypeId}: ∀{vs:List Value} {o:Nat} {w:World} {c:Array Value},w.heap[g]? =some (.cells c e (0,0))→(w.setCells g o vs).heap[g]? =some (.cells (splice c o vs) e (0,0))
 | [],_,_,_,h=>h
 |_::_,_,_,_,h=>by rw[World.setCells,splice];exact OX (ahg h)
theorem mZ.drew{E:ER α}(G:mZ k E){cs:List Value}{x:α}(h:E w cs x fp):E w.drew cs x fp:=G.agree h (fun _ _=>rfl)
theorem mZ.below{E:ER α}(G:mZ k E){w':World}{cs:List Value}{x:α}(h:E w cs x fp)(hb:Below w.heap.size w w'):E w' cs x fp:=G.agree h (uR hb (G.lt h))
theorem Sl.drew{E:ER α}(G:mZ k E){v:Value}{l:List α}(h:Sl k E w v l fp):Sl k E w.drew v l fp:=Sl.agree G h (fun _ _=>rfl)
def ad0(w:World)(v:Value)(en:Ending)(w':World):Prop:=en= .returned v∧Below w.heap.size w w'
def gb(f:α→Nat)(l:List α):Nat:=l.length+(l.map f).sum
theorem XN(l:List α)(f:α→Nat)(k:Nat)(x:α)(h:l[k]? =some x):((l.take (k+1)).map f).sum=((l.take k).map f).sum+f x:=by
 rw[List.take_add_one,h];simp
theorem nj(l:List α)(f:α→Nat)(k:Nat):((l.take k).map f).sum≤(l.map f).sum:=by
 have:=congrArg (fun q=>(q.map f).sum) (List.take_append_drop k l);simp only[List.map_append,List.sum_append]at this;omega
theorem fT{f:α→Nat}{l:List α}(h:gb f l≤b):l.length≤b:=by unfold gb at h;omega
theorem pO{f:α→Nat}{l:List α}(h:gb f l≤b){i:Nat}{x:α}(hx:l[i]? =some x):f x≤b:=by
 have h1:=XN l f i x hx;have h2:=nj l f (i+1);unfold gb at h;omega
end Go.Proofs.YtaalpcnbbldlaaaGreatDoor.L
