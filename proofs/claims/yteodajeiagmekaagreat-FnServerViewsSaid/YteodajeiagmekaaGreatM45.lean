/-
  What servers see of writes, compared and counted. No program in sight.
-/
import Derived.Test.YteodajeiagmekaaGreatM16
import Derived.Test.YteodajeiagmekaaGreatM31
import Derived.Test.YteodajeiagmekaaGreatM41
namespace Go.Proofs.YteodajeiagmekaaGreat.G
set_option linter.all false
open Go.RowKit L D
section
def Wt(x:aJ)(sv:Int)(c:Nat):List DB:=if sv<((cO x (c:Int)).length:Int)then [(cO x (c:Int)).getD sv.toNat (au .DB)]else []
def lJ(x:aJ)(sv:Int)(n:Nat):List DB:=(List.range n).flatMap (Wt x sv)
def J6(x:aJ)(sv:Int):Bool:=okW x&&inr sv 0 (IntKind.i64.wrap ((x.ah.length:Int)-1))
def bf(x:aJ)(sv:Int):List DB:=if J6 x sv then lJ x sv x.af.length else []
theorem xm(x:aJ)(sv:Int)(k:Nat)(h:sv<((cO x (k:Int)).length:Int)):lJ x sv (k+1)=lJ x sv k++ [(cO x (k:Int)).getD sv.toNat (au .DB)]:=by
 unfold lJ
 rw[List.range_succ,List.flatMap_append]
 simp[Wt,h]
theorem BK(x:aJ)(sv:Int)(k:Nat)(h: ¬sv<((cO x (k:Int)).length:Int)):lJ x sv (k+1)=lJ x sv k:=by
 unfold lJ
 rw[List.range_succ,List.flatMap_append]
 simp[Wt,h]
theorem xp(x:aJ)(sv:Int): ∀k,(lJ x sv k).length≤k
 |0=>Nat.le_refl _
 |k+1=>by
  have ih:=xp x sv k
  by_cases h:sv<((cO x (k:Int)).length:Int)
  ·rw[xm x sv k h,List.length_append];simp;omega
  ·rw[BK x sv k h];omega
theorem Ms{x:aJ}{sv:Int}(h:J6 x sv=true):okW x=true∧0≤sv∧x.af.length≤8:=by
 simp only[J6,Bool.and_eq_true,an]at h
 exact⟨h.1,h.2.1,(oS (kD h.1)).2.1⟩
end
section
theorem PY{x:aJ}{sv:Int}(h:okW x=true)(hs:0≤sv∧sv<x.ah.length)(k:Nat)(hk:k<x.af.length):lJ x sv (k+1)=lJ x sv k++ [(bk x (k:Int)).getD sv.toNat (au .DB)]:=by
 have hc:0≤(k:Int)∧(k:Int)<x.af.length:=by omega
 rw[xm x sv k (by rw[iG h hc,eV h hc];omega),iG h hc]
end
section
theorem zl{x:aJ}{sv:Int}: ∀d,d∈bf x sv→bV d=true:=by
 intro d hd
 unfold bf at hd
 split at hd
 ·rename_i hs
  have hk:=Ms hs
  simp only[lJ,List.mem_flatMap,List.mem_range]at hd
  obtain⟨k,nG,hd⟩:=hd
  unfold Wt at hd
  split at hd
  ·rename_i hlt
   rw[List.mem_singleton]at hd
   subst hd
   have hm:=getD_in (au .DB) (l:=cO x (k:Int)) (k:=sv.toNat) (by omega)
   rw[iG hk.1 (by omega)]at hm ⊢
   exact J9 (lK hk.1).1.2 _ hm
  ·cases hd
 ·cases hd
theorem wL(x:aJ)(sv:Int):(bf x sv).length≤8:=by
 unfold bf
 split
 ·rename_i hs
  have:=(Ms hs).2.2
  have:=xp x sv x.af.length
  omega
 ·simp
theorem H6{x:aJ}{sv:Int}{k:Nat}(h:k<(bf x sv).length):bV ((bf x sv).getD k (au .DB))=true:=zl _ (getD_in _ h)
def cvb(x:aJ)(sv:Int):Nat:=((bf x sv).map Cf).sum
theorem N7(x:aJ)(sv:Int)(k:Nat):(((bf x sv).take k).map Cf).sum≤12288:=by
 have h1:=Ka Cf 1536 ((bf x sv).take k) fun d hd=>HZ (zl d (List.mem_of_mem_take hd))
 have h2:=wL x sv
 have h3:((bf x sv).take k).length≤8:=by rw[List.length_take];omega
 omega
theorem S3{α:Type}(f:α→Nat)(l:List α)(k:Nat)(d:α)(h:k<l.length):((l.take (k+1)).map f).sum=((l.take k).map f).sum+f (l.getD k d):=by
 rw[aV l k d h];simp
theorem PZ(d:DB):d.rows.flatten.length=Cf d:=by unfold Cf;rw[List.length_flatten]
def qN(a b:List DB):Bool:=a.map DB.rows==b.map DB.rows
theorem P0{a b:List DB}(h:a.length≠b.length):qN a b=false:=by
 rw[qN,beq_eq_false_iff_ne]
 intro e
 exact h (by simpa using congrArg List.length e)
theorem S4{a b:List DB}{k:Nat}(ha:k<a.length)(hb:k<b.length)(h:((a.getD k (au .DB)).rows==(b.getD k (au .DB)).rows)=false):qN a b=false:=by
 rw[beq_eq_false_iff_ne]at h
 rw[qN,beq_eq_false_iff_ne]
 intro e
 apply h
 have:=congrArg (fun l=>l[k]?) e
 simp only[List.getElem?_map,List.getElem?_eq_getElem ha,List.getElem?_eq_getElem hb,Option.map_some,Option.some.injEq]at this
 rw[List.getD_eq_getElem?_getD,List.getD_eq_getElem?_getD,List.getElem?_eq_getElem ha,List.getElem?_eq_getElem hb]
 exact this
theorem Mv{a b:List DB}{k:Nat}(ha:k<a.length)(hb:k<b.length)(h0:(a.take k).map DB.rows=(b.take k).map DB.rows)(h:((a.getD k (au .DB)).rows==(b.getD k (au .DB)).rows)=true):(a.take (k+1)).map DB.rows=(b.take (k+1)).map DB.rows:=by
 rw[aV a k (au .DB) ha,aV b k (au .DB) hb,List.map_append,List.map_append,h0]
 rw[List.map_singleton,List.map_singleton,eq_of_beq h]
theorem P1{a b:List DB}{k:Nat}(ha:a.length≤k)(hb:b.length≤k)(h0:(a.take k).map DB.rows=(b.take k).map DB.rows):qN a b=true:=by
 rw[List.take_of_length_le ha,List.take_of_length_le hb]at h0
 rw[qN,h0];simp
def ssv(a b:aJ)(l:List Int):Bool:=l.all fun s=>qN (bf a s) (bf b s)
theorem ZM(a b:Nat)(h:a+b≤1152921504606846976):IntKind.i64.wrap ((a:Int)+(b:Int))=((a+b:Nat):Int):=by
 rw[bl (by omega)];omega
end
end Go.Proofs.YteodajeiagmekaaGreat.G
