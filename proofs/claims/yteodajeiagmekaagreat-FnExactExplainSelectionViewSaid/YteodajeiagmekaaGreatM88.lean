/-
  How much what explains a view holds. No program in sight.
-/
import Derived.Test.YteodajeiagmekaaGreatM77
import Derived.Test.YteodajeiagmekaaGreatM86
namespace Go.Proofs.YteodajeiagmekaaGreat.G
set_option linter.all false
open Go.RowKit L D
section
theorem US(x:aJ)(sv r row s o:Int):aD (aD (fun _=>1)) (vP x sv r row s o)≤1048576:=by
 have hb:(vP x sv r row s o).length≤4∧ ∀v,v∈vP x sv r row s o→aD (fun _=>1) v≤64:=by
  cases hk:jZ x sv row o with
  |true=>
   obtain⟨h1,_,h3,_,_⟩:=II (r:=r) (s:=s) hk
   have q:=(Yk.of (r:=r) (s:=s) (aaC (r:=r) (s:=s) hk).1).qn
   refine⟨by omega,fun v hv=>by rw[HR];exact K1 (h3 v hv)⟩
  |false=>rw[O2 hk];exact⟨Nat.zero_le _,fun d hd=>by cases hd⟩
 have h3:=Ka (aD fun _:Int=>1) 64 _ hb.2
 have h4:=hb.1
 unfold aD at h3 ⊢
 omega
end
end Go.Proofs.YteodajeiagmekaaGreat.G
