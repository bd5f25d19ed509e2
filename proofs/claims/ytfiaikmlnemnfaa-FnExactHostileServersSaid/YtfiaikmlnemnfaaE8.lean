/-
  What a world's size bounds.
-/
import Derived.Test.YtfiaikmlnemnfaaH0
namespace Go.Proofs.Ytfiaikmlnemnfaa.G
set_option linter.all false
open Go.RowKit L D
theorem dev_le {x : Wld} (h : size_Wld x ≤ 1048576) : x.devices.length ≤ 1048576 := by
  have h2 : lsz size_Dev x.devices ≤ 1048576 := by unfold size_Wld at h; omega
  exact lsz_len h2
theorem srv_le {x : Wld} (h : size_Wld x ≤ 1048576) : x.servers.length ≤ 1048576 := by
  have h2 : lsz size_Srv x.servers ≤ 1048576 := by unfold size_Wld at h; omega
  exact lsz_len h2
theorem rounds_le {x : Wld} (h : size_Wld x ≤ 1048576) : x.archive.rounds.length ≤ 1048576 := by
  have h2 : size_Arc x.archive ≤ 1048576 := by unfold size_Wld at h; omega
  unfold size_Arc at h2
  exact lsz_len h2
end Go.Proofs.Ytfiaikmlnemnfaa.G
