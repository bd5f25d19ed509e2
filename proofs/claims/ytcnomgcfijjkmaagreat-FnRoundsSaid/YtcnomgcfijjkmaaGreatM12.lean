/-
  What the laws on phases, reads, rounds and events ask. No program in sight.
-/
import Derived.Test.YtcnomgcfijjkmaaGreatM10
namespace Go.Proofs.YtcnomgcfijjkmaaGreat.G
set_option linter.all false
open Go.RowKit L D
section
def xB(x:bp)(c:Int):Bool:=ku x c&&decide (((c.toNat^^^1:Nat):Int)<x.ak.length)
theorem PZ{x:bp}{c:Int}(hd:x.ak.length≤1048576):(ku x c&&ku x (IntKind.i64.wrap (BitVec.ofInt IntKind.i64.bits c^^^BitVec.ofInt IntKind.i64.bits 1).toNat))=xB x c:=by
 by_cases hc:ku x c=true
 ·have JB:0≤c∧c<x.ak.length:=by simp only[ku,cL]at hc;omega
  obtain⟨n,rfl⟩:=Int.eq_ofNat_of_zero_le JB.1
  rw[SQ n (by omega),xB,hc]
  simp only[Bool.true_and,ku,Int.toNat_natCast]
  rw[Bool.eq_iff_iff,cL,decide_eq_true_eq]
  omega
 ·rw[Bool.not_eq_true]at hc
  rw[xB,hc];rfl
end
section
def oH(x:bp):List Int:=if okW x then jf x.aX (bM x) (cZ (bM x)) (gG x) (bM x).length else []
end
section
def lZ(x:bp):Nat→bp
 |0=>x
 |k+1=>cR (lZ x k)
end
section
theorem MM{x:bp}{n:Nat}(h:wC x n): ∀k,wC (lZ x k) (n+8*k)
 |0=>h
 |k+1=>jK (zO (MM h k)) (by omega)
end
section
theorem aak{x:bp}{n k:Nat}(h:wC x n)(hn:n+8*k≤4194000):wR (lZ x k):=K8 (MM h k) hn
end
section
theorem TZ(a b c:Int):IntKind.i64.wrap (a+IntKind.i64.wrap (b-c))=IntKind.i64.wrap (IntKind.i64.wrap (a+b)-c):=by
 simp only[IntKind.wrap_i64];omega
def waiting(c:eg):Int:=IntKind.i64.wrap ((c.aJ.length:Int)-c.sent)
def MS(l:List bC):Nat→Int
 |0=>0
 |k+1=>IntKind.i64.wrap (MS l k+waiting (l.getD k (aI .bC)).live)
def QF(l:List bC):Nat→Int
 |0=>0
 |k+1=>if(k^^^1)<l.length then IntKind.i64.wrap (IntKind.i64.wrap (QF l k+((l.getD k (aI .bC)).live.aJ.length:Int))-((l.getD (k^^^1) (aI .bC)).live.inbox.length:Int))else QF l k
theorem Xf{l:List bC}{k:Nat}(h:(k^^^1)<l.length):QF l (k+1)=IntKind.i64.wrap (IntKind.i64.wrap (QF l k+((l.getD k (aI .bC)).live.aJ.length:Int))-((l.getD (k^^^1) (aI .bC)).live.inbox.length:Int)):=if_pos h
theorem T0{l:List bC}{k:Nat}(h: ¬(k^^^1)<l.length):QF l (k+1)=QF l k:=if_neg h
theorem Fi{x:bp}{k:Nat}(h:k<x.ak.length):xB x (k:Int)=decide ((k^^^1)<x.ak.length):=by
 have:ku x (k:Int)=true:=by rw[ku,cL];omega
 rw[xB,this,Bool.true_and]
 simp only[Int.toNat_natCast,Int.ofNat_lt]
end
section
def K9(c:Int):Nat:=if 0≤c∧c≤400 then c.toNat else 0
theorem aal(c:Int):K9 c≤400:=by unfold K9;split<;>omega
theorem aam{c:Int}(h:0≤c∧c≤400):(K9 c:Int)=c:=by unfold K9;rw[if_pos h];omega
theorem Xg{c:Int}(h: ¬(0≤c∧c≤400)):K9 c=0:=by unfold K9;rw[if_neg h]
def IK(x:bp):Bool:=(MS x.ak x.ak.length==0)&&(QF x.ak x.ak.length==0)
theorem aan{x:bp}(h:wC x 4100000){k:Nat}(hk:k≤401):wR (lZ x k)∧(lZ x k).ak.length≤1048576:=by
 have h1:=aak h (k:=k) (by omega)
 exact⟨h1,wY h1.1⟩
end
section
theorem Qp{x:bp}(h:okW x=true):(cR x).av.length=x.av.length:=by
 unfold cR
 split
 ·rename_i hk
  obtain⟨_,_,_,_,a5,_⟩:=Ys (testW (cP x (jf x.aX (bM x) (cZ (bM x)) (gG x) (bM x).length) (jw (cZ (bM x)))))
  rw[a5]
  have ht: ∀y:bp,(testW y).av.length=y.av.length:=by
   intro y
   unfold testW
   split
   ·rename_i hq
    have hy:okW y=true:=by unfold xS at hq;rw[Bool.and_eq_true]at hq;exact hq.1
    exact(TY hy y.av.length (Nat.le_refl _)).2.1
   ·rfl
  rw[ht,cP,if_pos hk]
  show((sB x _).1.map jD).length=_
  rw[List.length_map]
  exact(IF x _).1
 ·rfl
end
end Go.Proofs.YtcnomgcfijjkmaaGreat.G
