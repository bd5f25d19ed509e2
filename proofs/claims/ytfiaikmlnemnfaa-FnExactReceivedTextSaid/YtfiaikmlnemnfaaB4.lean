/-
  What a client has received: the machine's contracts, as the law's walk asks for them.
-/
import Derived.Test.YtfiaikmlnemnfaaB2
import Derived.Test.YtfiaikmlnemnfaaE4
namespace Go.Proofs.Ytfiaikmlnemnfaa.C
open Go.RowKit L D
theorem inbox_le {x : Wld} {c : Int} (h : size_Wld x ≤ 1048576) (h0 : 0 ≤ c ∧ c < x.devices.length) : lsz List.length (G.inbox x c) ≤ 1048576 := by
  have hd : lsz size_Dev x.devices ≤ 1048576 := by unfold size_Wld at h; omega
  have hx : x.devices[c.toNat]? = some (x.devices.getD c.toNat (G.dfl .Dev)) := by rw [List.getD_eq_getElem?_getD, List.getElem?_eq_getElem (by omega)]; rfl
  have := lsz_mem hd hx
  unfold size_Dev size_Cli at this
  unfold G.inbox
  omega
theorem spec_ReceivedText (w : World) (cs : List Value) (x : Wld) (fp : List Nat) (h : EWld w cs x fp) (c : Int) (_hc : I64 c) (hs : size_Wld x ≤ 1048576) (_hw : wf_Wld x) :
    Calls Try.prog 32 #[.agg cs.toArray, .int .i64 c] w (Gives w (.string (G.recv x c))) :=
  G.gives_of (G.c_spec_ReceivedText x c (devices_le hs) (inbox_le hs)) ⟨G.arg_agg (G.reads_Wld h), G.arg_lit rfl, ⟨⟩⟩
theorem impl_ReceivedText (w : World) (cs : List Value) (x : Wld) (fp : List Nat) (h : EWld w cs x fp) (c : Int) (_hc : I64 c) (hs : size_Wld x ≤ 1048576) (_hw : wf_Wld x) :
    Calls Try.prog 33 #[.agg cs.toArray, .int .i64 c] w (Gives w (.string (G.recv x c))) :=
  G.gives_of (G.c_impl_ReceivedText x c (devices_le hs) (inbox_le hs)) ⟨G.arg_agg (G.reads_Wld h), G.arg_lit rfl, ⟨⟩⟩
end Go.Proofs.Ytfiaikmlnemnfaa.C
