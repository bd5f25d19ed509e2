/-
  Events: messages submitted, clients crashed and saved, servers corrupted, rounds. No program in sight.
-/
import Derived.Test.YtmcgjpdljafkeaaGreatM24
namespace Go.Proofs.YtmcgjpdljafkeaaGreat.G
set_option linter.all false
open Go.RowKit L D
section
def uk:aN→List Ev→Nat
 |_,[]=>0
 |x,e::l=>(if gx x e then 1 else 0)+uk (nx x e) l
theorem IP: ∀(l:List Ev) (x:aN) (e:Ev),uk x (l++ [e])=uk x l+(if gx (cq x l) e then 1 else 0)
 | [],x,e=>by
   show(if gx x e then 1 else 0)+0=0+_
   rw[Nat.add_zero,Nat.zero_add];rfl
 |y::l,x,e=>by
  show(if gx x y then 1 else 0)+uk (nx x y) (l++ [e])=(if gx x y then 1 else 0)+uk (nx x y) l+_
  rw[IP l (nx x y) e]
  show _=_+(if gx (cq (nx x y) l) e then 1 else 0)
  omega
theorem E2(x:aN)(l:List Ev)(k:Nat)(h:k<l.length):uk x (l.take (k+1))=uk x (l.take k)+(if gx (cq x (l.take k)) (l.getD k (av .Ev))then 1 else 0):=by
 rw[bf l k (av .Ev) h,IP]
theorem Gv: ∀(l:List Ev) (x:aN),uk x l≤l.length
 | [],_=>Nat.le_refl _
 |e::l,x=>by
  have:=Gv l (nx x e)
  show(if gx x e then 1 else 0)+_≤l.length+1
  split<;>omega
end
end Go.Proofs.YtmcgjpdljafkeaaGreat.G
