/-
  slices.Grow at nil: a new slice without elements.
-/
import Derived.Test.YteodajeiagmekaaGreatM15
import Derived.Test.YteodajeiagmekaaGreatM16
import Derived.Test.YteodajeiagmekaaGreatM17
namespace Go.Proofs.YteodajeiagmekaaGreat.G
set_option linter.all false
open Go.RowKit L D
section
set_option maxRecDepth 100000
theorem PM(w:World)(n:Nat)(h1:n≤1099511627776):Calls Tryz.prog 366 #[Dv, .int .i64 n] w (Ret ty w [.a (.sl .u8 [])]):=by
 have sH:El Tryz.prog ty .u8:=bA _ (by decide)
 cases hq:Tryz.prog.info? (ty .u8)with
 |none=>simp[El,hq]at sH
 |some inf=>
  simp[El,hq]at sH
  obtain⟨z1,z2,z3⟩:=sH
  by_cases h0:n=0
  ·subst h0
   go_enter Tryz.func366,Tryz.ntmps366
   go_wp2
   go_ret
   exact NU
  ·have hsz:inf.size=1:=z2
   have hby:inf.bytes≤8:=by rw[z3];decide
   have hmul:n*inf.bytes≤8796093022208:=Nat.le_trans (Nat.mul_le_mul (show n≤1099511627776 from h1) hby) (by decide)
   have hrun:=Lib.run_append_nil_zeros (P:=Tryz.prog) w 22 3 22 (ty .u8) inf (eZ .u8) .i64 .i64 (X.kind 22).1 (X.kind 3) hq z1 n (by omega) (by omega) (by omega) (by omega)
   have hge:=grownCap_ge w n 0 (ty .u8)
   have Lo:=grownCap_le_maxLen w n 0 (ty .u8) (by unfold maxLen;omega)
   generalize grownCap w n 0 (ty .u8)=g at hrun hge Lo
   go_enter Tryz.func366,Tryz.ntmps366
   go_wp2_with (at_builtin;refine Lib.wpList_append_run _ rfl _ _ _ _ rfl _ _ rfl rfl _ _ hrun ?_)
   go_ret
   refine JE (t:= .u8) rfl ((Below.refl _ _).drew.alloc (Nat.le_refl _) _) (nB rfl) ?_ Lo
   rw[Array.size_append,size_zeroCells,size_zeroCells, ←Nat.add_mul,show n+(g-n)=g by omega]
   rfl
theorem qm(n:Nat)(h1:n≤1099511627776):Sound ty Tryz.prog 366 [.a (.lit Dv), .a (.lit (.int .i64 n))] [.a (.sl .u8 [])]:=by
 refine⟨fun args w=>Tryz.call366 args w,fun w us _ ha=> ?_⟩
 match us,ha with
 | [u1,u2],⟨⟨_,e1⟩,⟨_,e2⟩,_⟩=>
   obtain⟨e1,_⟩:=e1
   obtain⟨e2,_⟩:=e2
   rw[e1,e2]
   exact PM w n h1
end
end Go.Proofs.YteodajeiagmekaaGreat.G
