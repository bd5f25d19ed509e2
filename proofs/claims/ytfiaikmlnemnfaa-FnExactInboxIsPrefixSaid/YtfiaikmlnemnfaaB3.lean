/-
  An inbox is a prefix: the machine's contracts, as the law's walk asks for them.
-/
import Derived.Test.YtfiaikmlnemnfaaB2
import Derived.Test.YtfiaikmlnemnfaaE3
namespace Go.Proofs.Ytfiaikmlnemnfaa.C
open Go.RowKit L D
theorem spec_InboxIsPrefix (w : World) (cs : List Value) (x : Wld) (fp : List Nat) (h : EWld w cs x fp) (c : Int) (_hc : I64 c) (hs : size_Wld x ≤ 1048576) (_hw : wf_Wld x) :
    Calls Try.prog 30 #[.agg cs.toArray, .int .i64 c] w (Gives w (.bool (G.prefixed x c))) :=
  G.gives_of (G.c_spec_InboxIsPrefix x c (devices_le hs)) ⟨G.arg_agg (G.reads_Wld h), G.arg_lit rfl, ⟨⟩⟩
theorem impl_InboxIsPrefix (w : World) (cs : List Value) (x : Wld) (fp : List Nat) (h : EWld w cs x fp) (c : Int) (_hc : I64 c) (hs : size_Wld x ≤ 1048576) (_hw : wf_Wld x) :
    Calls Try.prog 31 #[.agg cs.toArray, .int .i64 c] w (Gives w (.bool (G.prefixed x c))) :=
  G.gives_of (G.c_impl_InboxIsPrefix x c (devices_le hs)) ⟨G.arg_agg (G.reads_Wld h), G.arg_lit rfl, ⟨⟩⟩
end Go.Proofs.Ytfiaikmlnemnfaa.C
