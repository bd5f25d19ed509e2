/-
  Small laws for the walk: blocks known whole, stores into them, results in memory, loads in regions that draw. No program in sight.
-/
import Derived.BigQuiet
import Derived.Deep.QuietTactic
import Derived.StillTailTactics
import Derived.Test.YtmcgjpdljafkeaaGreatM1
namespace Go.Proofs.YtmcgjpdljafkeaaGreat.L
set_option linter.all false
open Go.RowKit
section
theorem oz{w:World}{o:Obj}{k:Nat}(hk:k=w.heap.size):(w.alloc o).heap[k]? =some o:=by
 subst hk
 show(w.heap.push o)[w.heap.size]? =_
 simp
theorem uV{W w1:World}(hb:Below W.heap.size W w1){b:Nat}{o:Obj}(h:W.heap[b]? =some o):w1.heap[b]? =some o:=by
 rw[hb.block b (Array.getElem?_eq_some_iff.1 h).1,h]
theorem GO{w:World}{b:Nat}{arr:Array Value}{e:TypeId}{f:Nat×Nat}(h:w.heap[b]? =some (.cells arr e f))(o:Nat):w.cell? ⟨b,o,none⟩=arr[o]? :=by simp[World.cell?,h]
theorem Ye{w:World}{b:Nat}{arr:Array Value}{e:TypeId}(h:w.heap[b]? =some (.cells arr e (0,0)))(o:Nat):w.frozen? ⟨b,o,none⟩=false:=by simp[World.frozen?,h]
theorem N9{w:World}{b:Nat}{o:Obj}(h:w.heap[b]? =some o):b<w.heap.size:=(Array.getElem?_eq_some_iff.1 h).1
theorem Oa{w:World}{b:Nat}{arr:Array Value}{e:TypeId}{f:Nat×Nat}(h:w.heap[b]? =some (.cells arr e f)):w.rangeAt b 0 arr.toList:=fun j v hv=>by
 rw[Nat.zero_add,GO h];simpa using hv
theorem Rx{w:World}{b:Nat}{arr:Array Value}{e:TypeId}{f:Nat×Nat}(h:w.heap[b]? =some (.cells arr e f))(o:Nat)(cs:List Value)(hc: ∀j v,cs[j]? =some v→arr[o+j]? =some v):w.rangeAt b o cs:=fun j v hv=>by
 rw[GO h];exact hc j v hv
theorem Jt{w:World}{b:Nat}{arr:Array Value}{e:TypeId}(h:w.heap[b]? =some (.cells arr e (0,0)))(o n:Nat)(hn:o+n≤arr.size):w.there b o n:=fun j hj=>by
 rw[GO h,Ye h];simp;omega
theorem My{w:World}{g o:Nat}{c:Array Value}{e:TypeId}{v:Value}(h:w.heap[g]? =some (.cells c e (0,0))):(w.setCell ⟨g,o,none⟩ v).heap[g]? =some (.cells (c.setIfInBounds o v) e (0,0)):=heap_setCell_same w g o c e v h
def splice(c:Array Value):Nat→List Value→Array Value
 |_,[]=>c
 |o,v::r=>splice (c.setIfInBounds o v) (o+1) r
theorem BH{g:Nat}{e:TypeId}: ∀{vs:List Value} {o:Nat} {w:World} {c:Array Value},w.heap[g]? =some (.cells c e (0,0))→(w.setCells g o vs).heap[g]? =some (.cells (splice c o vs) e (0,0))
 | [],_,_,_,h=>h
 |_::_,_,_,_,h=>by rw[World.setCells,splice];exact BH (My h)
theorem Own.app{lo m:Nat}{w:World}{a b:List Nat}(ha:Own lo w a)(hlt: ∀x,x∈a→x<m)(hb:Own m w b)(VQ:lo≤m):Own lo w (a++b):=by
 refine⟨List.nodup_append.2 ⟨ha.nodup,hb.nodup,fun x hx y hy e=> ?_⟩,fun x hx=> ?_,fun x hx=> ?_⟩
 ·have h1:=hlt x hx;have h2:=hb.ge y hy;omega
 ·rcases List.mem_append.1 hx with hx|hx
  ·exact ha.ge x hx
  ·exact Nat.le_trans VQ (hb.ge x hx)
 ·rcases List.mem_append.1 hx with hx|hx
  ·exact ha.kind x hx
  ·exact hb.kind x hx
theorem fF.drew{α:Type}{k:Nat}{E:ER α}(G:fF k E){w:World}{cs:List Value}{x:α}{fp:List Nat}(h:E w cs x fp):E w.drew cs x fp:=G.bp h (fun _ _=>rfl)
theorem fF.below{α:Type}{k:Nat}{E:ER α}(G:fF k E){w w':World}{cs:List Value}{x:α}{fp:List Nat}(h:E w cs x fp)(hb:Below w.heap.size w w'):E w' cs x fp:=G.bp h (k8 hb (G.lt h))
theorem Sl.drew{α:Type}{k:Nat}{E:ER α}(G:fF k E){w:World}{v:Value}{l:List α}{fp:List Nat}(h:Sl k E w v l fp):Sl k E w.drew v l fp:=Sl.bp G h (fun _ _=>rfl)
def zX(w:World)(v:Value)(en:Ending)(w':World):Prop:=en= .returned v∧Below w.heap.size w w'
def bL{α:Type}(f:α→Nat)(l:List α):Nat:=l.length+(l.map f).sum
theorem GP{α:Type}(l:List α)(f:α→Nat)(k:Nat)(x:α)(h:l[k]? =some x):((l.take (k+1)).map f).sum=((l.take k).map f).sum+f x:=by
 rw[List.take_add_one,h];simp
theorem dn{α:Type}(l:List α)(f:α→Nat)(k:Nat):((l.take k).map f).sum≤(l.map f).sum:=by
 have:=congrArg (fun q=>(q.map f).sum) (List.take_append_drop k l)
 simp only[List.map_append,List.sum_append]at this
 omega
theorem cg{α:Type}{f:α→Nat}{l:List α}{b:Nat}(h:bL f l≤b):l.length≤b:=by unfold bL at h;omega
theorem eL{α:Type}{f:α→Nat}{l:List α}{b:Nat}(h:bL f l≤b){i:Nat}{x:α}(hx:l[i]? =some x):f x≤b:=by
 have h1:=GP l f i x hx
 have h2:=dn l f (i+1)
 unfold bL at h;omega
end
end Go.Proofs.YtmcgjpdljafkeaaGreat.L
