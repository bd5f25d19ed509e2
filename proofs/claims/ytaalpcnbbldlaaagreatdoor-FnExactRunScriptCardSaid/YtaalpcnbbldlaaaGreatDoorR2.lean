/-
  Small laws for the walk: blocks known whole, stores into them, results in memory, loads in regions that draw. No program in sight.
-/
import Derived.BigQuiet
import Derived.Deep.QuietTactic
import Derived.StillTailTactics
import Derived.Test.YtaalpcnbbldlaaaGreatDoorR1
namespace Go.Proofs.YtaalpcnbbldlaaaGreatDoor.L
set_option linter.all false
open Go.RowKit
section
theorem kI{w:World}{o:Obj}{k:Nat}(hk:k=w.heap.size):(w.alloc o).heap[k]? =some o:=by
 subst hk;show(w.heap.push o)[w.heap.size]? =_
 simp
theorem blk{W w1:World}(hb:Below W.heap.size W w1){b:Nat}{o:Obj}(h:W.heap[b]? =some o):w1.heap[b]? =some o:=by
 rw[hb.block b (Array.getElem?_eq_some_iff.1 h).1,h]
theorem Jk{w:World}{b:Nat}{arr:Array Value}{e:TypeId}{f:Nat×Nat}(h:w.heap[b]? =some (.cells arr e f))(o:Nat):w.cell? ⟨b,o,none⟩=arr[o]? :=by simp[World.cell?,h]
theorem adG{w:World}{b:Nat}{arr:Array Value}{e:TypeId}(h:w.heap[b]? =some (.cells arr e (0,0)))(o:Nat):w.frozen? ⟨b,o,none⟩=false:=by simp[World.frozen?,h]
theorem XR{w:World}{b:Nat}{o:Obj}(h:w.heap[b]? =some o):b<w.heap.size:=(Array.getElem?_eq_some_iff.1 h).1
theorem Rk{w:World}{b:Nat}{arr:Array Value}{e:TypeId}{f:Nat×Nat}(h:w.heap[b]? =some (.cells arr e f)):w.rangeAt b 0 arr.toList:=fun j v hv=>by
 rw[Nat.zero_add,Jk h];simpa using hv
theorem VD{w:World}{b:Nat}{arr:Array Value}{e:TypeId}{f:Nat×Nat}(h:w.heap[b]? =some (.cells arr e f))(o:Nat)(cs:List Value)(hc: ∀j v,cs[j]? =some v→arr[o+j]? =some v):w.rangeAt b o cs:=fun j v hv=>by
 rw[Jk h];exact hc j v hv
theorem LZ{w:World}{b:Nat}{arr:Array Value}{e:TypeId}(h:w.heap[b]? =some (.cells arr e (0,0)))(o n:Nat)(hn:o+n≤arr.size):w.there b o n:=fun j hj=>by
 rw[Jk h,adG h];simp;omega
theorem PD{w:World}{g o:Nat}{c:Array Value}{e:TypeId}{v:Value}(h:w.heap[g]? =some (.cells c e (0,0))):(w.setCell ⟨g,o,none⟩ v).heap[g]? =some (.cells (c.setIfInBounds o v) e (0,0)):=heap_setCell_same w g o c e v h
def splice(c:Array Value):Nat→List Value→Array Value
 |_,[]=>c
 |o,v::r=>splice (c.setIfInBounds o v) (o+1) r
theorem Dw{g:Nat}{e:TypeId}: ∀{vs:List Value} {o:Nat} {w:World} {c:Array Value},w.heap[g]? =some (.cells c e (0,0))→(w.setCells g o vs).heap[g]? =some (.cells (splice c o vs) e (0,0))
 | [],_,_,_,h=>h
 |_::_,_,_,_,h=>by rw[World.setCells,splice];exact Dw (PD h)
theorem fN.drew{α:Type}{k:Nat}{E:ER α}(G:fN k E){w:World}{cs:List Value}{x:α}{fp:List Nat}(h:E w cs x fp):E w.drew cs x fp:=G.agree h (fun _ _=>rfl)
theorem fN.below{α:Type}{k:Nat}{E:ER α}(G:fN k E){w w':World}{cs:List Value}{x:α}{fp:List Nat}(h:E w cs x fp)(hb:Below w.heap.size w w'):E w' cs x fp:=G.agree h (lq hb (G.lt h))
theorem Sl.drew{α:Type}{k:Nat}{E:ER α}(G:fN k E){w:World}{v:Value}{l:List α}{fp:List Nat}(h:Sl k E w v l fp):Sl k E w.drew v l fp:=Sl.agree G h (fun _ _=>rfl)
def NL(w:World)(v:Value)(en:Ending)(w':World):Prop:=en= .returned v∧Below w.heap.size w w'
def cE{α:Type}(f:α→Nat)(l:List α):Nat:=l.length+(l.map f).sum
theorem Jl{α:Type}(l:List α)(f:α→Nat)(k:Nat)(x:α)(h:l[k]? =some x):((l.take (k+1)).map f).sum=((l.take k).map f).sum+f x:=by
 rw[List.take_add_one,h];simp
theorem fX{α:Type}(l:List α)(f:α→Nat)(k:Nat):((l.take k).map f).sum≤(l.map f).sum:=by
 have:=congrArg (fun q=>(q.map f).sum) (List.take_append_drop k l);simp only[List.map_append,List.sum_append]at this;omega
theorem cA{α:Type}{f:α→Nat}{l:List α}{b:Nat}(h:cE f l≤b):l.length≤b:=by unfold cE at h;omega
theorem ig{α:Type}{f:α→Nat}{l:List α}{b:Nat}(h:cE f l≤b){i:Nat}{x:α}(hx:l[i]? =some x):f x≤b:=by
 have h1:=Jl l f i x hx;have h2:=fX l f (i+1);unfold cE at h;omega
end
end Go.Proofs.YtaalpcnbbldlaaaGreatDoor.L
