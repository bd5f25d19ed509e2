/-
  The archive is recent: the machine's contracts, as the law's walk asks for them.
-/
import Derived.Test.YtfiaikmlnemnfaaC0
import Derived.Test.YtfiaikmlnemnfaaE2
namespace Go.Proofs.Ytfiaikmlnemnfaa.C
open Go.RowKit L D
theorem rounds_le {x : Wld} (h : size_Wld x ≤ 1048576) : x.archive.rounds.length ≤ 1048576 := by
  have h2 : size_Arc x.archive ≤ 1048576 := by unfold size_Wld at h; omega
  exact lsz_len h2
theorem devices_le {x : Wld} (h : size_Wld x ≤ 1048576) : x.devices.length ≤ 1048576 := by
  have h2 : lsz size_Dev x.devices ≤ 1048576 := by unfold size_Wld at h; omega
  exact lsz_len h2
theorem spec_ArchiveIsRecent (w : World) (cs : List Value) (x : Wld) (fp : List Nat) (h : EWld w cs x fp) (hs : size_Wld x ≤ 1048576) (_hw : wf_Wld x) :
    Calls Try.prog 24 #[.agg cs.toArray] w (Gives w (.bool (G.recent x))) :=
  G.gives_of (G.c_spec_ArchiveIsRecent x (rounds_le hs) (devices_le hs)) ⟨G.arg_agg (G.reads_Wld h), ⟨⟩⟩
theorem impl_ArchiveIsRecent (w : World) (cs : List Value) (x : Wld) (fp : List Nat) (h : EWld w cs x fp) (hs : size_Wld x ≤ 1048576) (_hw : wf_Wld x) :
    Calls Try.prog 25 #[.agg cs.toArray] w (Gives w (.bool (G.recent x))) :=
  G.gives_of (G.c_impl_ArchiveIsRecent x (rounds_le hs) (devices_le hs)) ⟨G.arg_agg (G.reads_Wld h), ⟨⟩⟩
end Go.Proofs.Ytfiaikmlnemnfaa.C
