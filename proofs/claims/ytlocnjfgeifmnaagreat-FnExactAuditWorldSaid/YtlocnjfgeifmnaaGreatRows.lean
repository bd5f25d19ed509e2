/-
  No cell of these rows narrows 'for every input' (looked for: loops, veiled, ifaces, maps, wideKeys, modest, calm, conditions, laid).
  DERIVED. THE GIVEN ROWS OF THIS SEAT. 10 by the template 'for every input the law returns true; each argument reads behind the call as it read before'; 0 by the template 'total and deterministic' (their statements: YtlocnjfgeifmnaaGreatTotals.lean).
  GIVEN WITH THE SEED: the statements are not yours to turn. If you find one false, say at which input.
  Laid BY PROGRAM, IN A SANDBOX (cutbox-rows.mjs): the forced cells as the released guide's own fill.sh prints them over the translation eccf5d4a64bd0b22… (all of the seat's roots in one cut). By AI agents, Wed Nov 11 2026. No macro, syntax, notation, axiom, sorry.
-/
import Derived.Test.YtlocnjfgeifmnaaGreatChecked
import GoSem.Claim
import GoSem.ClaimJoined
import GoSem.ClaimMapViews
import Derived.JoinedTies
import Derived.KernelRfl
namespace Go.Proofs.YtlocnjfgeifmnaaGreat
/- THE CELL 'sum', in the pinned program and in every row, IS THE sha256 OF THE DUMP (.gsa) THAT YtlocnjfgeifmnaaGreatProg.lean LOADS. Nothing in Lean hashes anything: it is a label: what it is worth is what the hold of that sum in a sandbox is worth. -/
noncomputable def Tryz.pinned : Pinned := { name := "ytlocnjfgeifmnaagreat", sum := "eccf5d4a64bd0b22087c963bfb7d5de41a3ffe0a165a774bb03fcc98b588fd32", checked := Tryz.checked }
namespace Rows
def none {H : Type} : Left H := { results := [], args := [] }

/-- 'laws.FnExactCountCollided': WHATEVER THE INPUT: true; the input reads as it did. -/
def fnExactCountCollidedSpec : ChangeSpec := { name := "fnExactCountCollided", fn := fun _ => fun
  | [d] => { results := [.lit (.bool true)], args := [d] }
  | _ => none }
def fnExactCountCollidedRow : OpenClaim := { program := "ytlocnjfgeifmnaagreat", sum := "eccf5d4a64bd0b22087c963bfb7d5de41a3ffe0a165a774bb03fcc98b588fd32", func := "loop.example/g00516/laws.FnExactCountCollided", spec := "fnExactCountCollided", unfollowed := true, recurses := true, apart := false }
def FnExactCountCollidedSaid : Prop := fnExactCountCollidedRow.holds Tryz.pinned (OpenSpec.ofChange fnExactCountCollidedSpec)

/-- ITS FALSE NEIGHBOUR: 'it returns false'. Refute it at one input. -/
def fnExactCountCollidedWrong : ChangeSpec := { name := "fnExactCountCollided", fn := fun _ => fun
  | [d] => { results := [.lit (.bool false)], args := [d] }
  | _ => none }
def FnExactCountCollidedWrongFalsely : Prop := fnExactCountCollidedRow.holds Tryz.pinned (OpenSpec.ofChange fnExactCountCollidedWrong)

/-- 'laws.FnExactSelectionView': WHATEVER THE INPUT: true; the input reads as it did. -/
def fnExactSelectionViewSpec : ChangeSpec := { name := "fnExactSelectionView", fn := fun _ => fun
  | [d1, d2, d3, d4, d5] => { results := [.lit (.bool true)], args := [d1, d2, d3, d4, d5] }
  | _ => none }
def fnExactSelectionViewRow : OpenClaim := { program := "ytlocnjfgeifmnaagreat", sum := "eccf5d4a64bd0b22087c963bfb7d5de41a3ffe0a165a774bb03fcc98b588fd32", func := "loop.example/g00516/laws.FnExactSelectionView", spec := "fnExactSelectionView", unfollowed := true, recurses := true, apart := false }
def FnExactSelectionViewSaid : Prop := fnExactSelectionViewRow.holds Tryz.pinned (OpenSpec.ofChange fnExactSelectionViewSpec)

/-- ITS FALSE NEIGHBOUR: 'it returns false'. Refute it at one input. -/
def fnExactSelectionViewWrong : ChangeSpec := { name := "fnExactSelectionView", fn := fun _ => fun
  | [d1, d2, d3, d4, d5] => { results := [.lit (.bool false)], args := [d1, d2, d3, d4, d5] }
  | _ => none }
def FnExactSelectionViewWrongFalsely : Prop := fnExactSelectionViewRow.holds Tryz.pinned (OpenSpec.ofChange fnExactSelectionViewWrong)

/-- 'laws.FnExactAuditWorld': WHATEVER THE INPUT: true; the input reads as it did. -/
def fnExactAuditWorldSpec : ChangeSpec := { name := "fnExactAuditWorld", fn := fun _ => fun
  | [d] => { results := [.lit (.bool true)], args := [d] }
  | _ => none }
def fnExactAuditWorldRow : OpenClaim := { program := "ytlocnjfgeifmnaagreat", sum := "eccf5d4a64bd0b22087c963bfb7d5de41a3ffe0a165a774bb03fcc98b588fd32", func := "loop.example/g00516/laws.FnExactAuditWorld", spec := "fnExactAuditWorld", unfollowed := true, recurses := true, apart := false }
def FnExactAuditWorldSaid : Prop := fnExactAuditWorldRow.holds Tryz.pinned (OpenSpec.ofChange fnExactAuditWorldSpec)

/-- ITS FALSE NEIGHBOUR: 'it returns false'. Refute it at one input. -/
def fnExactAuditWorldWrong : ChangeSpec := { name := "fnExactAuditWorld", fn := fun _ => fun
  | [d] => { results := [.lit (.bool false)], args := [d] }
  | _ => none }
def FnExactAuditWorldWrongFalsely : Prop := fnExactAuditWorldRow.holds Tryz.pinned (OpenSpec.ofChange fnExactAuditWorldWrong)

/-- 'laws.FnExactExplainSelectionView': WHATEVER THE INPUT: true; the input reads as it did. -/
def fnExactExplainSelectionViewSpec : ChangeSpec := { name := "fnExactExplainSelectionView", fn := fun _ => fun
  | [d1, d2, d3, d4, d5, d6] => { results := [.lit (.bool true)], args := [d1, d2, d3, d4, d5, d6] }
  | _ => none }
def fnExactExplainSelectionViewRow : OpenClaim := { program := "ytlocnjfgeifmnaagreat", sum := "eccf5d4a64bd0b22087c963bfb7d5de41a3ffe0a165a774bb03fcc98b588fd32", func := "loop.example/g00516/laws.FnExactExplainSelectionView", spec := "fnExactExplainSelectionView", unfollowed := true, recurses := true, apart := false }
def FnExactExplainSelectionViewSaid : Prop := fnExactExplainSelectionViewRow.holds Tryz.pinned (OpenSpec.ofChange fnExactExplainSelectionViewSpec)

/-- ITS FALSE NEIGHBOUR: 'it returns false'. Refute it at one input. -/
def fnExactExplainSelectionViewWrong : ChangeSpec := { name := "fnExactExplainSelectionView", fn := fun _ => fun
  | [d1, d2, d3, d4, d5, d6] => { results := [.lit (.bool false)], args := [d1, d2, d3, d4, d5, d6] }
  | _ => none }
def FnExactExplainSelectionViewWrongFalsely : Prop := fnExactExplainSelectionViewRow.holds Tryz.pinned (OpenSpec.ofChange fnExactExplainSelectionViewWrong)

/-- 'laws.FnExactCountViewBytes': WHATEVER THE INPUT: true; the input reads as it did. -/
def fnExactCountViewBytesSpec : ChangeSpec := { name := "fnExactCountViewBytes", fn := fun _ => fun
  | [d1, d2] => { results := [.lit (.bool true)], args := [d1, d2] }
  | _ => none }
def fnExactCountViewBytesRow : OpenClaim := { program := "ytlocnjfgeifmnaagreat", sum := "eccf5d4a64bd0b22087c963bfb7d5de41a3ffe0a165a774bb03fcc98b588fd32", func := "loop.example/g00516/laws.FnExactCountViewBytes", spec := "fnExactCountViewBytes", unfollowed := true, recurses := true, apart := false }
def FnExactCountViewBytesSaid : Prop := fnExactCountViewBytesRow.holds Tryz.pinned (OpenSpec.ofChange fnExactCountViewBytesSpec)

/-- ITS FALSE NEIGHBOUR: 'it returns false'. Refute it at one input. -/
def fnExactCountViewBytesWrong : ChangeSpec := { name := "fnExactCountViewBytes", fn := fun _ => fun
  | [d1, d2] => { results := [.lit (.bool false)], args := [d1, d2] }
  | _ => none }
def FnExactCountViewBytesWrongFalsely : Prop := fnExactCountViewBytesRow.holds Tryz.pinned (OpenSpec.ofChange fnExactCountViewBytesWrong)

/-- 'laws.FnExactSameShareViews': WHATEVER THE INPUT: true; the input reads as it did. -/
def fnExactSameShareViewsSpec : ChangeSpec := { name := "fnExactSameShareViews", fn := fun _ => fun
  | [d1, d2, d3] => { results := [.lit (.bool true)], args := [d1, d2, d3] }
  | _ => none }
def fnExactSameShareViewsRow : OpenClaim := { program := "ytlocnjfgeifmnaagreat", sum := "eccf5d4a64bd0b22087c963bfb7d5de41a3ffe0a165a774bb03fcc98b588fd32", func := "loop.example/g00516/laws.FnExactSameShareViews", spec := "fnExactSameShareViews", unfollowed := true, recurses := true, apart := false }
def FnExactSameShareViewsSaid : Prop := fnExactSameShareViewsRow.holds Tryz.pinned (OpenSpec.ofChange fnExactSameShareViewsSpec)

/-- ITS FALSE NEIGHBOUR: 'it returns false'. Refute it at one input. -/
def fnExactSameShareViewsWrong : ChangeSpec := { name := "fnExactSameShareViews", fn := fun _ => fun
  | [d1, d2, d3] => { results := [.lit (.bool false)], args := [d1, d2, d3] }
  | _ => none }
def FnExactSameShareViewsWrongFalsely : Prop := fnExactSameShareViewsRow.holds Tryz.pinned (OpenSpec.ofChange fnExactSameShareViewsWrong)

/-- 'laws.FnExactShareView': WHATEVER THE INPUT: true; the input reads as it did. -/
def fnExactShareViewSpec : ChangeSpec := { name := "fnExactShareView", fn := fun _ => fun
  | [d1, d2] => { results := [.lit (.bool true)], args := [d1, d2] }
  | _ => none }
def fnExactShareViewRow : OpenClaim := { program := "ytlocnjfgeifmnaagreat", sum := "eccf5d4a64bd0b22087c963bfb7d5de41a3ffe0a165a774bb03fcc98b588fd32", func := "loop.example/g00516/laws.FnExactShareView", spec := "fnExactShareView", unfollowed := true, recurses := true, apart := false }
def FnExactShareViewSaid : Prop := fnExactShareViewRow.holds Tryz.pinned (OpenSpec.ofChange fnExactShareViewSpec)

/-- ITS FALSE NEIGHBOUR: 'it returns false'. Refute it at one input. -/
def fnExactShareViewWrong : ChangeSpec := { name := "fnExactShareView", fn := fun _ => fun
  | [d1, d2] => { results := [.lit (.bool false)], args := [d1, d2] }
  | _ => none }
def FnExactShareViewWrongFalsely : Prop := fnExactShareViewRow.holds Tryz.pinned (OpenSpec.ofChange fnExactShareViewWrong)

/-- 'laws.FnExactExplainShareView': WHATEVER THE INPUT: true; the input reads as it did. -/
def fnExactExplainShareViewSpec : ChangeSpec := { name := "fnExactExplainShareView", fn := fun _ => fun
  | [d1, d2, d3, d4, d5] => { results := [.lit (.bool true)], args := [d1, d2, d3, d4, d5] }
  | _ => none }
def fnExactExplainShareViewRow : OpenClaim := { program := "ytlocnjfgeifmnaagreat", sum := "eccf5d4a64bd0b22087c963bfb7d5de41a3ffe0a165a774bb03fcc98b588fd32", func := "loop.example/g00516/laws.FnExactExplainShareView", spec := "fnExactExplainShareView", unfollowed := true, recurses := true, apart := false }
def FnExactExplainShareViewSaid : Prop := fnExactExplainShareViewRow.holds Tryz.pinned (OpenSpec.ofChange fnExactExplainShareViewSpec)

/-- ITS FALSE NEIGHBOUR: 'it returns false'. Refute it at one input. -/
def fnExactExplainShareViewWrong : ChangeSpec := { name := "fnExactExplainShareView", fn := fun _ => fun
  | [d1, d2, d3, d4, d5] => { results := [.lit (.bool false)], args := [d1, d2, d3, d4, d5] }
  | _ => none }
def FnExactExplainShareViewWrongFalsely : Prop := fnExactExplainShareViewRow.holds Tryz.pinned (OpenSpec.ofChange fnExactExplainShareViewWrong)

/-- 'laws.FnExactCollectShares': WHATEVER THE INPUT: true; the input reads as it did. -/
def fnExactCollectSharesSpec : ChangeSpec := { name := "fnExactCollectShares", fn := fun _ => fun
  | [d] => { results := [.lit (.bool true)], args := [d] }
  | _ => none }
def fnExactCollectSharesRow : OpenClaim := { program := "ytlocnjfgeifmnaagreat", sum := "eccf5d4a64bd0b22087c963bfb7d5de41a3ffe0a165a774bb03fcc98b588fd32", func := "loop.example/g00516/laws.FnExactCollectShares", spec := "fnExactCollectShares", inPlace := ["slices.overlaps[loop.example/g00516/impl.ReceivedShare]"], unfollowed := true, recurses := true, apart := false }
def FnExactCollectSharesSaid : Prop := fnExactCollectSharesRow.holds Tryz.pinned (OpenSpec.ofChange fnExactCollectSharesSpec)

/-- ITS FALSE NEIGHBOUR: 'it returns false'. Refute it at one input. -/
def fnExactCollectSharesWrong : ChangeSpec := { name := "fnExactCollectShares", fn := fun _ => fun
  | [d] => { results := [.lit (.bool false)], args := [d] }
  | _ => none }
def FnExactCollectSharesWrongFalsely : Prop := fnExactCollectSharesRow.holds Tryz.pinned (OpenSpec.ofChange fnExactCollectSharesWrong)

/-- 'laws.FnExactGuiltyServers': WHATEVER THE INPUT: true; the input reads as it did. -/
def fnExactGuiltyServersSpec : ChangeSpec := { name := "fnExactGuiltyServers", fn := fun _ => fun
  | [d] => { results := [.lit (.bool true)], args := [d] }
  | _ => none }
def fnExactGuiltyServersRow : OpenClaim := { program := "ytlocnjfgeifmnaagreat", sum := "eccf5d4a64bd0b22087c963bfb7d5de41a3ffe0a165a774bb03fcc98b588fd32", func := "loop.example/g00516/laws.FnExactGuiltyServers", spec := "fnExactGuiltyServers", inPlace := ["slices.overlaps[loop.example/g00516/impl.ReceivedShare]"], unfollowed := true, recurses := true, apart := false }
def FnExactGuiltyServersSaid : Prop := fnExactGuiltyServersRow.holds Tryz.pinned (OpenSpec.ofChange fnExactGuiltyServersSpec)

/-- ITS FALSE NEIGHBOUR: 'it returns false'. Refute it at one input. -/
def fnExactGuiltyServersWrong : ChangeSpec := { name := "fnExactGuiltyServers", fn := fun _ => fun
  | [d] => { results := [.lit (.bool false)], args := [d] }
  | _ => none }
def FnExactGuiltyServersWrongFalsely : Prop := fnExactGuiltyServersRow.holds Tryz.pinned (OpenSpec.ofChange fnExactGuiltyServersWrong)

/- THE SECOND FORM. 'bulk': how many values and letters a reading holds, each counted each time it is reached (what is shared counts as often as it is met; a slice's spare places count too). A statement '..UptoSaid' is the law's where the arguments, and the package variables that the reading takes, are together of bulk at most 1048576: NARROWER than '..Said'. Prove '..Said' where nothing that the law and all that it calls make is longer than what came in: it says more and counts as full. Else prove '..UptoSaid'. A law counts once. -/
mutual
def uptoBulk {H : Type} : DataW H → Nat
  | .lit (.string bytes) => bytes.length + 1
  | .lit _ => 1
  | .nil => 1
  | .ptr d => uptoBulk d + 1
  | .slice elems spare => uptoBulkAll elems + uptoBulkAll spare + 1
  | .agg parts => uptoBulkAll parts + 1
  | .iface _ d => uptoBulk d + 1
  | .map entries => uptoBulkEntries entries + 1
  | .held _ => 1
def uptoBulkAll {H : Type} : List (DataW H) → Nat
  | [] => 0
  | d :: r => uptoBulk d + uptoBulkAll r
def uptoBulkEntries {H : Type} : List (Lit × DataW H) → Nat
  | [] => 0
  | x :: r => uptoBulkEntry x + uptoBulkEntries r
def uptoBulkEntry {H : Type} : Lit × DataW H → Nat
  | (.string bytes, d) => bytes.length + uptoBulk d + 1
  | (_, d) => uptoBulk d + 1
 end
def uptoSmall : (H : Type) → List (DataW H) → Bool := fun _ ds => decide (uptoBulkAll ds ≤ 1048576)
def OpenSpec.upto (s : _root_.Go.ChangeSpec) : _root_.Go.OpenSpec := { _root_.Go.OpenSpec.ofChange s with cond := some uptoSmall }

/-- 'laws.FnExactCountCollided', WHERE WHAT IT READS IS OF BULK AT MOST 1048576: true; the input reads as it did. -/
def fnExactCountCollidedUptoRow : OpenClaim := { program := "ytlocnjfgeifmnaagreat", sum := "eccf5d4a64bd0b22087c963bfb7d5de41a3ffe0a165a774bb03fcc98b588fd32", func := "loop.example/g00516/laws.FnExactCountCollided", spec := "fnExactCountCollided", unfollowed := true, recurses := true, apart := false, narrowed := true }
def FnExactCountCollidedUptoSaid : Prop := fnExactCountCollidedUptoRow.holds Tryz.pinned (OpenSpec.upto fnExactCountCollidedSpec)

/-- 'laws.FnExactSelectionView', WHERE WHAT IT READS IS OF BULK AT MOST 1048576: true; the input reads as it did. -/
def fnExactSelectionViewUptoRow : OpenClaim := { program := "ytlocnjfgeifmnaagreat", sum := "eccf5d4a64bd0b22087c963bfb7d5de41a3ffe0a165a774bb03fcc98b588fd32", func := "loop.example/g00516/laws.FnExactSelectionView", spec := "fnExactSelectionView", unfollowed := true, recurses := true, apart := false, narrowed := true }
def FnExactSelectionViewUptoSaid : Prop := fnExactSelectionViewUptoRow.holds Tryz.pinned (OpenSpec.upto fnExactSelectionViewSpec)

/-- 'laws.FnExactAuditWorld', WHERE WHAT IT READS IS OF BULK AT MOST 1048576: true; the input reads as it did. -/
def fnExactAuditWorldUptoRow : OpenClaim := { program := "ytlocnjfgeifmnaagreat", sum := "eccf5d4a64bd0b22087c963bfb7d5de41a3ffe0a165a774bb03fcc98b588fd32", func := "loop.example/g00516/laws.FnExactAuditWorld", spec := "fnExactAuditWorld", unfollowed := true, recurses := true, apart := false, narrowed := true }
def FnExactAuditWorldUptoSaid : Prop := fnExactAuditWorldUptoRow.holds Tryz.pinned (OpenSpec.upto fnExactAuditWorldSpec)

/-- 'laws.FnExactExplainSelectionView', WHERE WHAT IT READS IS OF BULK AT MOST 1048576: true; the input reads as it did. -/
def fnExactExplainSelectionViewUptoRow : OpenClaim := { program := "ytlocnjfgeifmnaagreat", sum := "eccf5d4a64bd0b22087c963bfb7d5de41a3ffe0a165a774bb03fcc98b588fd32", func := "loop.example/g00516/laws.FnExactExplainSelectionView", spec := "fnExactExplainSelectionView", unfollowed := true, recurses := true, apart := false, narrowed := true }
def FnExactExplainSelectionViewUptoSaid : Prop := fnExactExplainSelectionViewUptoRow.holds Tryz.pinned (OpenSpec.upto fnExactExplainSelectionViewSpec)

/-- 'laws.FnExactCountViewBytes', WHERE WHAT IT READS IS OF BULK AT MOST 1048576: true; the input reads as it did. -/
def fnExactCountViewBytesUptoRow : OpenClaim := { program := "ytlocnjfgeifmnaagreat", sum := "eccf5d4a64bd0b22087c963bfb7d5de41a3ffe0a165a774bb03fcc98b588fd32", func := "loop.example/g00516/laws.FnExactCountViewBytes", spec := "fnExactCountViewBytes", unfollowed := true, recurses := true, apart := false, narrowed := true }
def FnExactCountViewBytesUptoSaid : Prop := fnExactCountViewBytesUptoRow.holds Tryz.pinned (OpenSpec.upto fnExactCountViewBytesSpec)

/-- 'laws.FnExactSameShareViews', WHERE WHAT IT READS IS OF BULK AT MOST 1048576: true; the input reads as it did. -/
def fnExactSameShareViewsUptoRow : OpenClaim := { program := "ytlocnjfgeifmnaagreat", sum := "eccf5d4a64bd0b22087c963bfb7d5de41a3ffe0a165a774bb03fcc98b588fd32", func := "loop.example/g00516/laws.FnExactSameShareViews", spec := "fnExactSameShareViews", unfollowed := true, recurses := true, apart := false, narrowed := true }
def FnExactSameShareViewsUptoSaid : Prop := fnExactSameShareViewsUptoRow.holds Tryz.pinned (OpenSpec.upto fnExactSameShareViewsSpec)

/-- 'laws.FnExactShareView', WHERE WHAT IT READS IS OF BULK AT MOST 1048576: true; the input reads as it did. -/
def fnExactShareViewUptoRow : OpenClaim := { program := "ytlocnjfgeifmnaagreat", sum := "eccf5d4a64bd0b22087c963bfb7d5de41a3ffe0a165a774bb03fcc98b588fd32", func := "loop.example/g00516/laws.FnExactShareView", spec := "fnExactShareView", unfollowed := true, recurses := true, apart := false, narrowed := true }
def FnExactShareViewUptoSaid : Prop := fnExactShareViewUptoRow.holds Tryz.pinned (OpenSpec.upto fnExactShareViewSpec)

/-- 'laws.FnExactExplainShareView', WHERE WHAT IT READS IS OF BULK AT MOST 1048576: true; the input reads as it did. -/
def fnExactExplainShareViewUptoRow : OpenClaim := { program := "ytlocnjfgeifmnaagreat", sum := "eccf5d4a64bd0b22087c963bfb7d5de41a3ffe0a165a774bb03fcc98b588fd32", func := "loop.example/g00516/laws.FnExactExplainShareView", spec := "fnExactExplainShareView", unfollowed := true, recurses := true, apart := false, narrowed := true }
def FnExactExplainShareViewUptoSaid : Prop := fnExactExplainShareViewUptoRow.holds Tryz.pinned (OpenSpec.upto fnExactExplainShareViewSpec)

/-- 'laws.FnExactCollectShares', WHERE WHAT IT READS IS OF BULK AT MOST 1048576: true; the input reads as it did. -/
def fnExactCollectSharesUptoRow : OpenClaim := { program := "ytlocnjfgeifmnaagreat", sum := "eccf5d4a64bd0b22087c963bfb7d5de41a3ffe0a165a774bb03fcc98b588fd32", func := "loop.example/g00516/laws.FnExactCollectShares", spec := "fnExactCollectShares", inPlace := ["slices.overlaps[loop.example/g00516/impl.ReceivedShare]"], unfollowed := true, recurses := true, apart := false, narrowed := true }
def FnExactCollectSharesUptoSaid : Prop := fnExactCollectSharesUptoRow.holds Tryz.pinned (OpenSpec.upto fnExactCollectSharesSpec)

/-- 'laws.FnExactGuiltyServers', WHERE WHAT IT READS IS OF BULK AT MOST 1048576: true; the input reads as it did. -/
def fnExactGuiltyServersUptoRow : OpenClaim := { program := "ytlocnjfgeifmnaagreat", sum := "eccf5d4a64bd0b22087c963bfb7d5de41a3ffe0a165a774bb03fcc98b588fd32", func := "loop.example/g00516/laws.FnExactGuiltyServers", spec := "fnExactGuiltyServers", inPlace := ["slices.overlaps[loop.example/g00516/impl.ReceivedShare]"], unfollowed := true, recurses := true, apart := false, narrowed := true }
def FnExactGuiltyServersUptoSaid : Prop := fnExactGuiltyServersUptoRow.holds Tryz.pinned (OpenSpec.upto fnExactGuiltyServersSpec)

end Rows
end Go.Proofs.YtlocnjfgeifmnaaGreat
