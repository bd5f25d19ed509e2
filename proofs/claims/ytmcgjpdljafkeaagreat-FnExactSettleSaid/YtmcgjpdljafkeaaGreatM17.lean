/-
  Messages that wait, messages not read yet. No program in sight.
-/
import Derived.Test.YtmcgjpdljafkeaaGreatM9
namespace Go.Proofs.YtmcgjpdljafkeaaGreat.G
set_option linter.all false
open Go.RowKit L D
section
def vA(x:aN)(c:Int):Bool:=jh x c&&decide (((c.toNat^^^1:Nat):Int)<x.aa.length)
theorem Nh{x:aN}{c:Int}(hd:x.aa.length≤1048576):(jh x c&&jh x (IntKind.i64.wrap (BitVec.ofInt IntKind.i64.bits c^^^BitVec.ofInt IntKind.i64.bits 1).toNat))=vA x c:=by
 by_cases hc:jh x c=true
 ·have Ji:0≤c∧c<x.aa.length:=by simp only[jh,an]at hc;omega
  obtain⟨n,rfl⟩:=Int.eq_ofNat_of_zero_le Ji.1
  rw[Ng n (by omega),vA,hc]
  simp only[Bool.true_and,jh,Int.toNat_natCast]
  rw[Bool.eq_iff_iff,an,decide_eq_true_eq]
  omega
 ·rw[Bool.not_eq_true]at hc
  rw[vA,hc];rfl
end
section
theorem Q8(a b c:Int):IntKind.i64.wrap (a+IntKind.i64.wrap (b-c))=IntKind.i64.wrap (IntKind.i64.wrap (a+b)-c):=by
 simp only[IntKind.wrap_i64];omega
def waiting(c:dV):Int:=IntKind.i64.wrap ((c.aq.length:Int)-c.sent)
def qu(l:List aL):Nat→Int
 |0=>0
 |k+1=>IntKind.i64.wrap (qu l k+waiting (l.getD k (av .aL)).live)
def Bu(l:List aL):Nat→Int
 |0=>0
 |k+1=>if(k^^^1)<l.length then IntKind.i64.wrap (IntKind.i64.wrap (Bu l k+((l.getD k (av .aL)).live.aq.length:Int))-((l.getD (k^^^1) (av .aL)).live.inbox.length:Int))else Bu l k
theorem Mm{l:List aL}{k:Nat}(h:(k^^^1)<l.length):Bu l (k+1)=IntKind.i64.wrap (IntKind.i64.wrap (Bu l k+((l.getD k (av .aL)).live.aq.length:Int))-((l.getD (k^^^1) (av .aL)).live.inbox.length:Int)):=if_pos h
theorem I4{l:List aL}{k:Nat}(h: ¬(k^^^1)<l.length):Bu l (k+1)=Bu l k:=if_neg h
theorem Dq{x:aN}{k:Nat}(h:k<x.aa.length):vA x (k:Int)=decide ((k^^^1)<x.aa.length):=by
 have:jh x (k:Int)=true:=by rw[jh,an];omega
 rw[vA,this,Bool.true_and]
 simp only[Int.toNat_natCast,Int.ofNat_lt]
end
end Go.Proofs.YtmcgjpdljafkeaaGreat.G
