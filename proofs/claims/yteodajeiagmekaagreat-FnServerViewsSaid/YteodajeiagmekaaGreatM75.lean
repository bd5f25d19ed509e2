/-
  How much what explains a view holds. No program in sight.
-/
import Derived.Test.YteodajeiagmekaaGreatM41
import Derived.Test.YteodajeiagmekaaGreatM72
namespace Go.Proofs.YteodajeiagmekaaGreat.G
set_option linter.all false
open Go.RowKit L D
section
def MY(rows i:Int)(c:List UInt8)(l:List DB):DB:=l.foldl dD (Ah rows i c)
def U7(rows i:Int)(c:List UInt8)(l:List DB):DB:=if fT rows i c then MY rows i c l else⟨[]⟩
theorem K2(rows i:Int)(c:List UInt8)(l:List DB)(k:Nat)(h:k<l.length):MY rows i c (l.take (k+1))=dD (MY rows i c (l.take k)) (l.getD k (au .DB)):=jK _ _ _ _ _ h
theorem IG{rows i:Int}{c:List UInt8}(h:fT rows i c=true)(l:List DB):bV (MY rows i c l)=true∧((MY rows i c l).rows.length:Int)=rows:=by
 have: ∀(l:List DB) (a:DB),bV a=true→(a.rows.length:Int)=rows→bV (l.foldl dD a)=true∧((l.foldl dD a).rows.length:Int)=rows:=by
  intro l
  induction l with
  |nil=>intro a h1 h2;exact⟨h1,h2⟩
  |cons d l ih=>intro a h1 h2;exact ih _ (nI h1) (by rw[ox];exact h2)
 exact this l _ (xl h).1 (zQ h)
theorem Yo{rows i:Int}{c:List UInt8}{l:List DB}(h:fT rows i c=true)(ha: ∀d,d∈l→bV d=true∧(d.rows.length:Int)=rows){k:Nat}(hk:k<l.length):gq (MY rows i c (l.take k)) (l.getD k (au .DB))=true:=by
 obtain⟨h1,h2⟩:=IG h (l.take k)
 obtain⟨h3,h4⟩:=ha _ (getD_in (au .DB) hk)
 simp only[gq,h1,h3,Bool.and_self,Bool.true_and,decide_eq_true_eq]
 omega
theorem Xo{n:Nat}{u b:Bool}(h0:0<n)(h:(if(!u)=true then true else decide ((n:Int)=0))=b):u= !b:=by
 cases u with
 |false=>rw[←h];rfl
 |true=>rw[if_neg (by decide)]at h;rw[←h];simp;omega
def kY(x:aJ)(sv cl row:Int)(c:List UInt8):Bool:=Qw x sv cl&&fT x.rows row c
def Xp(x:aJ)(sv cl row:Int)(c:List UInt8):List DB:=(bk x cl).set (dV sv).toNat (MY x.rows row c (yf (bk x cl) (dV sv).toNat))
def uZ(x:aJ)(sv cl row:Int)(c:List UInt8):List DB:=if kY x sv cl row c then Xp x sv cl row c else []
theorem O3{x:aJ}{sv cl row:Int}{c:List UInt8}(h:kY x sv cl row c=false):uZ x sv cl row c= []:=by rw[uZ,h];rfl
theorem MZ{x:aJ}{sv cl row:Int}{c:List UInt8}(h:kY x sv cl row c=true):uZ x sv cl row c=Xp x sv cl row c:=by rw[uZ,if_pos h]
end
section
theorem Xt{x:aJ}{sv cl row:Int}{c:List UInt8}(h:kY x sv cl row c=true):Qw x sv cl=true∧fT x.rows row c=true:=by
 simpa only[kY,Bool.and_eq_true]using h
theorem UP{x:aJ}{sv cl row:Int}{c:List UInt8}(h:kY x sv cl row c=true):(Xp x sv cl row c).length=x.ah.length∧ ∀d,d∈Xp x sv cl row c→bV d=true∧(d.rows.length:Int)=x.rows:=by
 obtain⟨h1,h2⟩:=Xt h
 have q:=MX.of h1
 refine⟨by unfold Xp;rw[List.length_set];exact q.Xn,fun d hd=> ?_⟩
 rcases List.mem_or_eq_of_mem_set hd with hd|rfl
 ·exact q.xel d hd
 ·exact IG h2 _
end
end Go.Proofs.YteodajeiagmekaaGreat.G
