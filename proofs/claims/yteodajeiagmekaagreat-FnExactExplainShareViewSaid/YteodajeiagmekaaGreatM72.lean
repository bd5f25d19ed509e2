/-
  How much what explains a view holds. No program in sight.
-/
import Derived.Test.YteodajeiagmekaaGreatM31
import Derived.Test.YteodajeiagmekaaGreatM58
namespace Go.Proofs.YteodajeiagmekaaGreat.G
set_option linter.all false
open Go.RowKit L D
section
def dV(sv:Int):Int:=if sv=0 then 1 else 0
def yf{α:Type}(l:List α)(i:Nat):List α:=l.take i++l.drop (i+1)
theorem aaB{rows row:Int}{sd:List Int}(hu:cX rows row=true)(hc:sk rows row sd=true): ∀v,v∈eM rows row sd→bN v rows=true:=by
 obtain⟨h1,h2,_,_⟩:=mj hu
 intro v hm
 rw[eM,if_pos hc]at hm
 rcases List.mem_append.1 hm with h|h
 ·obtain⟨s,_,rfl⟩:=List.mem_map.1 h;exact pG ⟨h1,h2⟩
 ·rw[List.mem_singleton.1 h];exact(E5 [] ⟨h1,h2⟩ 0 0 sd _ (zS hu)).1
structure Yk(x:aJ)(sv r row s:Int):Prop where
 qok:okW x=true
 KX:1≤x.rows∧x.rows≤64
 acM:0≤row∧row<x.rows
 qsv:0≤sv∧sv<(x.ah.length:Int)
 qn:2≤x.ah.length∧x.ah.length≤4
 Xl:(query x r row s).length=x.ah.length
 MV: ∀v,v∈query x r row s→bN v x.rows=true
theorem Yk.of{x:aJ}{sv r row s:Int}(h:mT x sv row=true):Yk x sv r row s:=by
 have hs:=CM h
 have hl:=AN r s h
 simp only[mT,Bool.and_eq_true]at h
 have hr:=JP h.1.1
 have h2:=h.2
 rw[an,bl (by omega)]at h2
 have hu:cX x.rows row=true:=by
  simp only[cX,Bool.and_eq_true,an]
  rw[bl (by omega)];omega
 have hm:sk x.rows row (cG x.ah.length r row s)=true:=by
  simp only[sk,cq,Bool.and_eq_true,an,dL]
  rw[bl (by omega)]
  refine⟨?_,by omega⟩
  rw[iS hu,List.length_set,List.length_replicate]
  simp;omega
 exact⟨h.1.1,hr,by omega,⟨hs.1,hs.2.1⟩,⟨hs.2.2.2,hs.2.2.1⟩,hl,aaB hu hm⟩
theorem zV{α:Type}{l:List α}{i:Nat}{y:α}(h:y∈yf l i):y∈l:=by
 rcases List.mem_append.1 h with h|h
 ·exact List.mem_of_mem_take h
 ·exact List.mem_of_mem_drop h
theorem C6{α:Type}{l:List α}{i:Nat}(h:i<l.length):(yf l i).length=l.length-1:=by
 unfold yf
 rw[List.length_append,List.length_take,List.length_drop];omega
theorem Bl(sv:Int):0≤dV sv∧dV sv≤1:=by unfold dV;split<;>omega
theorem UG{α:Type}(l:List α){a:Int}(h:0≤a∧a≤1):l.take a.toNat++(l.take (l.length:Int).toNat).drop (IntKind.i64.wrap (a+1)).toNat=yf l a.toNat:=by
 rw[bl (by omega)]
 unfold yf
 congr 1
 rw[show((l.length:Int)).toNat=l.length by omega,List.take_length,show(a+1).toNat=a.toNat+1 by omega]
end
section
def Qw(x:aJ)(sv cl:Int):Bool:=(okW x&&inr sv 0 (IntKind.i64.wrap ((x.ah.length:Int)-1)))&&qy x cl
structure MX(x:aJ)(sv cl:Int):Prop where
 xok:okW x=true
 UN:1≤x.rows∧x.rows≤64
 xsv:0≤sv∧sv<(x.ah.length:Int)
 xcl:0≤cl∧cl<(x.af.length:Int)
 xn:2≤x.ah.length∧x.ah.length≤4
 Xn:(bk x cl).length=x.ah.length
 xel: ∀d,d∈bk x cl→bV d=true∧(d.rows.length:Int)=x.rows
theorem MX.of{x:aJ}{sv cl:Int}(h:Qw x sv cl=true):MX x sv cl:=by
 simp only[Qw,Bool.and_eq_true]at h
 have w:=yd.of h.1.1
 have w1:=w.rows;have w2:=w.KL;have w3:=w.Qh
 have h2:=h.1.2;have h3:=h.2
 unfold qy at h3
 rw[an,bl (by omega)]at h2
 rw[an]at h3
 exact⟨h.1.1,w1,by omega,by omega,w2,eV h.1.1 (by omega),fun d hd=>⟨n9 h.1.1 d hd,xN _ hd⟩⟩
end
section
structure nA{α:Type}(P:α→Prop)(f:α→α→α)(e:α):Prop where
 cl: ∀a b,P a→P b→P (f a b)
 cm: ∀a b,P a→P b→f a b=f b a
 ac: ∀a b c,P a→P b→P c→f (f a b) c=f a (f b c)
 id: ∀a,P a→f e a=a
 pe:P e
 iv: ∀a,P a→f a a=e
end
section

end
end Go.Proofs.YteodajeiagmekaaGreat.G
