/-
  No cell of these rows narrows 'for every input' (looked for: loops, veiled, ifaces, maps, wideKeys, modest, calm, conditions, laid).
  DERIVED. THE GIVEN ROWS OF THIS SEAT. 10 by the template 'for every input the law returns true; each argument reads behind the call as it read before'; 0 by the template 'total and deterministic' (their statements: YteodajeiagmekaaGreatTotals.lean).
  GIVEN WITH THE SEED: the statements are not yours to turn. If you find one false, say at which input.
  Laid BY PROGRAM, IN A SANDBOX (cutbox-rows.mjs): the forced cells as the released guide's own fill.sh prints them over the translation e6b262f3cfdd3904… (all of the seat's roots in one cut). By AI agents, Wed Nov 11 2026. No macro, syntax, notation, axiom, sorry.
-/
import Derived.Test.YteodajeiagmekaaGreatChecked
import GoSem.Claim
import GoSem.ClaimJoined
import GoSem.ClaimMapViews
import Derived.JoinedTies
import Derived.KernelRfl
namespace Go.Proofs.YteodajeiagmekaaGreat
/- THE CELL 'sum', in the pinned program and in every row, IS THE sha256 OF THE DUMP (.gsa) THAT YteodajeiagmekaaGreatProg.lean LOADS. Nothing in Lean hashes anything: it is a label: what it is worth is what the hold of that sum in a sandbox is worth. -/
noncomputable def Tryz.pinned : Pinned := { name := "yteodajeiagmekaagreat", sum := "e6b262f3cfdd39044c328c9a550883a7a1ad801446cf7f686519426e87bbe0db", checked := Tryz.checked }
namespace Rows
def none {H : Type} : Left H := { results := [], args := [] }

/-- 'laws.FnPhases': WHATEVER THE INPUT: true; the input reads as it did. -/
def fnPhasesSpec : ChangeSpec := { name := "fnPhases", fn := fun _ => fun
  | [d] => { results := [.lit (.bool true)], args := [d] }
  | _ => none }
def fnPhasesRow : OpenClaim := { program := "yteodajeiagmekaagreat", sum := "e6b262f3cfdd39044c328c9a550883a7a1ad801446cf7f686519426e87bbe0db", func := "loop.example/g00516/laws.FnPhases", spec := "fnPhases", inPlace := ["slices.overlaps[loop.example/g00516/impl.ReceivedShare]"], unfollowed := true, recurses := true, apart := false }
def FnPhasesSaid : Prop := fnPhasesRow.holds Tryz.pinned (OpenSpec.ofChange fnPhasesSpec)

/-- ITS FALSE NEIGHBOUR: 'it returns false'. Refute it at one input. -/
def fnPhasesWrong : ChangeSpec := { name := "fnPhases", fn := fun _ => fun
  | [d] => { results := [.lit (.bool false)], args := [d] }
  | _ => none }
def FnPhasesWrongFalsely : Prop := fnPhasesRow.holds Tryz.pinned (OpenSpec.ofChange fnPhasesWrong)

/-- 'laws.FnReads': WHATEVER THE INPUT: true; the input reads as it did. -/
def fnReadsSpec : ChangeSpec := { name := "fnReads", fn := fun _ => fun
  | [d] => { results := [.lit (.bool true)], args := [d] }
  | _ => none }
def fnReadsRow : OpenClaim := { program := "yteodajeiagmekaagreat", sum := "e6b262f3cfdd39044c328c9a550883a7a1ad801446cf7f686519426e87bbe0db", func := "loop.example/g00516/laws.FnReads", spec := "fnReads", unfollowed := true, recurses := true, apart := false }
def FnReadsSaid : Prop := fnReadsRow.holds Tryz.pinned (OpenSpec.ofChange fnReadsSpec)

/-- ITS FALSE NEIGHBOUR: 'it returns false'. Refute it at one input. -/
def fnReadsWrong : ChangeSpec := { name := "fnReads", fn := fun _ => fun
  | [d] => { results := [.lit (.bool false)], args := [d] }
  | _ => none }
def FnReadsWrongFalsely : Prop := fnReadsRow.holds Tryz.pinned (OpenSpec.ofChange fnReadsWrong)

/-- 'laws.FnAuditDetects': WHATEVER THE INPUT: true; the input reads as it did. -/
def fnAuditDetectsSpec : ChangeSpec := { name := "fnAuditDetects", fn := fun _ => fun
  | [d] => { results := [.lit (.bool true)], args := [d] }
  | _ => none }
def fnAuditDetectsRow : OpenClaim := { program := "yteodajeiagmekaagreat", sum := "e6b262f3cfdd39044c328c9a550883a7a1ad801446cf7f686519426e87bbe0db", func := "loop.example/g00516/laws.FnAuditDetects", spec := "fnAuditDetects", inPlace := ["internal/abi.NoEscape", "internal/bytealg.MakeNoZero"], unfollowed := true, recurses := true, apart := false }
def FnAuditDetectsSaid : Prop := fnAuditDetectsRow.holds Tryz.pinned (OpenSpec.ofChange fnAuditDetectsSpec)

/-- ITS FALSE NEIGHBOUR: 'it returns false'. Refute it at one input. -/
def fnAuditDetectsWrong : ChangeSpec := { name := "fnAuditDetects", fn := fun _ => fun
  | [d] => { results := [.lit (.bool false)], args := [d] }
  | _ => none }
def FnAuditDetectsWrongFalsely : Prop := fnAuditDetectsRow.holds Tryz.pinned (OpenSpec.ofChange fnAuditDetectsWrong)

/-- 'laws.FnRounds': WHATEVER THE INPUT: true; the input reads as it did. -/
def fnRoundsSpec : ChangeSpec := { name := "fnRounds", fn := fun _ => fun
  | [d] => { results := [.lit (.bool true)], args := [d] }
  | _ => none }
def fnRoundsRow : OpenClaim := { program := "yteodajeiagmekaagreat", sum := "e6b262f3cfdd39044c328c9a550883a7a1ad801446cf7f686519426e87bbe0db", func := "loop.example/g00516/laws.FnRounds", spec := "fnRounds", inPlace := ["slices.overlaps[loop.example/g00516/impl.ReceivedShare]"], unfollowed := true, recurses := true, apart := false }
def FnRoundsSaid : Prop := fnRoundsRow.holds Tryz.pinned (OpenSpec.ofChange fnRoundsSpec)

/-- ITS FALSE NEIGHBOUR: 'it returns false'. Refute it at one input. -/
def fnRoundsWrong : ChangeSpec := { name := "fnRounds", fn := fun _ => fun
  | [d] => { results := [.lit (.bool false)], args := [d] }
  | _ => none }
def FnRoundsWrongFalsely : Prop := fnRoundsRow.holds Tryz.pinned (OpenSpec.ofChange fnRoundsWrong)

/-- 'laws.FnEvents': WHATEVER THE INPUT: true; the input reads as it did. -/
def fnEventsSpec : ChangeSpec := { name := "fnEvents", fn := fun _ => fun
  | [d] => { results := [.lit (.bool true)], args := [d] }
  | _ => none }
def fnEventsRow : OpenClaim := { program := "yteodajeiagmekaagreat", sum := "e6b262f3cfdd39044c328c9a550883a7a1ad801446cf7f686519426e87bbe0db", func := "loop.example/g00516/laws.FnEvents", spec := "fnEvents", inPlace := ["slices.overlaps[loop.example/g00516/impl.ReceivedShare]"], unfollowed := true, recurses := true, apart := false }
def FnEventsSaid : Prop := fnEventsRow.holds Tryz.pinned (OpenSpec.ofChange fnEventsSpec)

/-- ITS FALSE NEIGHBOUR: 'it returns false'. Refute it at one input. -/
def fnEventsWrong : ChangeSpec := { name := "fnEvents", fn := fun _ => fun
  | [d] => { results := [.lit (.bool false)], args := [d] }
  | _ => none }
def FnEventsWrongFalsely : Prop := fnEventsRow.holds Tryz.pinned (OpenSpec.ofChange fnEventsWrong)

/-- 'laws.FnSelectionViews': WHATEVER THE INPUT: true; the input reads as it did. -/
def fnSelectionViewsSpec : ChangeSpec := { name := "fnSelectionViews", fn := fun _ => fun
  | [d] => { results := [.lit (.bool true)], args := [d] }
  | _ => none }
def fnSelectionViewsRow : OpenClaim := { program := "yteodajeiagmekaagreat", sum := "e6b262f3cfdd39044c328c9a550883a7a1ad801446cf7f686519426e87bbe0db", func := "loop.example/g00516/laws.FnSelectionViews", spec := "fnSelectionViews", unfollowed := true, recurses := true, apart := false }
def FnSelectionViewsSaid : Prop := fnSelectionViewsRow.holds Tryz.pinned (OpenSpec.ofChange fnSelectionViewsSpec)

/-- ITS FALSE NEIGHBOUR: 'it returns false'. Refute it at one input. -/
def fnSelectionViewsWrong : ChangeSpec := { name := "fnSelectionViews", fn := fun _ => fun
  | [d] => { results := [.lit (.bool false)], args := [d] }
  | _ => none }
def FnSelectionViewsWrongFalsely : Prop := fnSelectionViewsRow.holds Tryz.pinned (OpenSpec.ofChange fnSelectionViewsWrong)

/-- 'laws.FnServerViews': WHATEVER THE INPUT: true; the input reads as it did. -/
def fnServerViewsSpec : ChangeSpec := { name := "fnServerViews", fn := fun _ => fun
  | [d] => { results := [.lit (.bool true)], args := [d] }
  | _ => none }
def fnServerViewsRow : OpenClaim := { program := "yteodajeiagmekaagreat", sum := "e6b262f3cfdd39044c328c9a550883a7a1ad801446cf7f686519426e87bbe0db", func := "loop.example/g00516/laws.FnServerViews", spec := "fnServerViews", unfollowed := true, recurses := true, apart := false }
def FnServerViewsSaid : Prop := fnServerViewsRow.holds Tryz.pinned (OpenSpec.ofChange fnServerViewsSpec)

/-- ITS FALSE NEIGHBOUR: 'it returns false'. Refute it at one input. -/
def fnServerViewsWrong : ChangeSpec := { name := "fnServerViews", fn := fun _ => fun
  | [d] => { results := [.lit (.bool false)], args := [d] }
  | _ => none }
def FnServerViewsWrongFalsely : Prop := fnServerViewsRow.holds Tryz.pinned (OpenSpec.ofChange fnServerViewsWrong)

/-- 'laws.FnExactExplainSelectionView': WHATEVER THE INPUT: true; the input reads as it did. -/
def fnExactExplainSelectionViewSpec : ChangeSpec := { name := "fnExactExplainSelectionView", fn := fun _ => fun
  | [d1, d2, d3, d4, d5, d6] => { results := [.lit (.bool true)], args := [d1, d2, d3, d4, d5, d6] }
  | _ => none }
def fnExactExplainSelectionViewRow : OpenClaim := { program := "yteodajeiagmekaagreat", sum := "e6b262f3cfdd39044c328c9a550883a7a1ad801446cf7f686519426e87bbe0db", func := "loop.example/g00516/laws.FnExactExplainSelectionView", spec := "fnExactExplainSelectionView", unfollowed := true, recurses := true, apart := false }
def FnExactExplainSelectionViewSaid : Prop := fnExactExplainSelectionViewRow.holds Tryz.pinned (OpenSpec.ofChange fnExactExplainSelectionViewSpec)

/-- ITS FALSE NEIGHBOUR: 'it returns false'. Refute it at one input. -/
def fnExactExplainSelectionViewWrong : ChangeSpec := { name := "fnExactExplainSelectionView", fn := fun _ => fun
  | [d1, d2, d3, d4, d5, d6] => { results := [.lit (.bool false)], args := [d1, d2, d3, d4, d5, d6] }
  | _ => none }
def FnExactExplainSelectionViewWrongFalsely : Prop := fnExactExplainSelectionViewRow.holds Tryz.pinned (OpenSpec.ofChange fnExactExplainSelectionViewWrong)

/-- 'laws.FnExactExplainShareView': WHATEVER THE INPUT: true; the input reads as it did. -/
def fnExactExplainShareViewSpec : ChangeSpec := { name := "fnExactExplainShareView", fn := fun _ => fun
  | [d1, d2, d3, d4, d5] => { results := [.lit (.bool true)], args := [d1, d2, d3, d4, d5] }
  | _ => none }
def fnExactExplainShareViewRow : OpenClaim := { program := "yteodajeiagmekaagreat", sum := "e6b262f3cfdd39044c328c9a550883a7a1ad801446cf7f686519426e87bbe0db", func := "loop.example/g00516/laws.FnExactExplainShareView", spec := "fnExactExplainShareView", unfollowed := true, recurses := true, apart := false }
def FnExactExplainShareViewSaid : Prop := fnExactExplainShareViewRow.holds Tryz.pinned (OpenSpec.ofChange fnExactExplainShareViewSpec)

/-- ITS FALSE NEIGHBOUR: 'it returns false'. Refute it at one input. -/
def fnExactExplainShareViewWrong : ChangeSpec := { name := "fnExactExplainShareView", fn := fun _ => fun
  | [d1, d2, d3, d4, d5] => { results := [.lit (.bool false)], args := [d1, d2, d3, d4, d5] }
  | _ => none }
def FnExactExplainShareViewWrongFalsely : Prop := fnExactExplainShareViewRow.holds Tryz.pinned (OpenSpec.ofChange fnExactExplainShareViewWrong)

/-- 'laws.FnExactCountCollided': WHATEVER THE INPUT: true; the input reads as it did. -/
def fnExactCountCollidedSpec : ChangeSpec := { name := "fnExactCountCollided", fn := fun _ => fun
  | [d] => { results := [.lit (.bool true)], args := [d] }
  | _ => none }
def fnExactCountCollidedRow : OpenClaim := { program := "yteodajeiagmekaagreat", sum := "e6b262f3cfdd39044c328c9a550883a7a1ad801446cf7f686519426e87bbe0db", func := "loop.example/g00516/laws.FnExactCountCollided", spec := "fnExactCountCollided", unfollowed := true, recurses := true, apart := false }
def FnExactCountCollidedSaid : Prop := fnExactCountCollidedRow.holds Tryz.pinned (OpenSpec.ofChange fnExactCountCollidedSpec)

/-- ITS FALSE NEIGHBOUR: 'it returns false'. Refute it at one input. -/
def fnExactCountCollidedWrong : ChangeSpec := { name := "fnExactCountCollided", fn := fun _ => fun
  | [d] => { results := [.lit (.bool false)], args := [d] }
  | _ => none }
def FnExactCountCollidedWrongFalsely : Prop := fnExactCountCollidedRow.holds Tryz.pinned (OpenSpec.ofChange fnExactCountCollidedWrong)

/- THE SECOND FORM. 'bulk': how many values and letters a reading holds, each counted each time it is reached (what is shared counts as often as it is met; a slice's spare places count too). A statement '..UptoSaid' is the law's where the arguments, and the package variables that the reading takes, are together of bulk at most 1048576: NARROWER than '..Said'. Prove '..Said' where nothing that the law and all that it calls make is longer than what came in: it says more and counts as full. Else prove '..UptoSaid'. A law counts once. -/
mutual
def uptoBulk {H : Type} : DataW H → Nat
  | .lit (.string bytes) => bytes.length + 1
  | .lit _ => 1
  | .nil => 1
  | .ptr d => uptoBulk d + 1
  | .slice elems spare => uptoBulkAll elems + uptoBulkAll spare + 1
  | .agg parts => uptoBulkAll parts + 1
  | .iface _ d => uptoBulk d + 1
  | .map entries => uptoBulkEntries entries + 1
  | .held _ => 1
def uptoBulkAll {H : Type} : List (DataW H) → Nat
  | [] => 0
  | d :: r => uptoBulk d + uptoBulkAll r
def uptoBulkEntries {H : Type} : List (Lit × DataW H) → Nat
  | [] => 0
  | x :: r => uptoBulkEntry x + uptoBulkEntries r
def uptoBulkEntry {H : Type} : Lit × DataW H → Nat
  | (.string bytes, d) => bytes.length + uptoBulk d + 1
  | (_, d) => uptoBulk d + 1
 end
def uptoSmall : (H : Type) → List (DataW H) → Bool := fun _ ds => decide (uptoBulkAll ds ≤ 1048576)
def OpenSpec.upto (s : _root_.Go.ChangeSpec) : _root_.Go.OpenSpec := { _root_.Go.OpenSpec.ofChange s with cond := some uptoSmall }

/-- 'laws.FnPhases', WHERE WHAT IT READS IS OF BULK AT MOST 1048576: true; the input reads as it did. -/
def fnPhasesUptoRow : OpenClaim := { program := "yteodajeiagmekaagreat", sum := "e6b262f3cfdd39044c328c9a550883a7a1ad801446cf7f686519426e87bbe0db", func := "loop.example/g00516/laws.FnPhases", spec := "fnPhases", inPlace := ["slices.overlaps[loop.example/g00516/impl.ReceivedShare]"], unfollowed := true, recurses := true, apart := false, narrowed := true }
def FnPhasesUptoSaid : Prop := fnPhasesUptoRow.holds Tryz.pinned (OpenSpec.upto fnPhasesSpec)

/-- 'laws.FnReads', WHERE WHAT IT READS IS OF BULK AT MOST 1048576: true; the input reads as it did. -/
def fnReadsUptoRow : OpenClaim := { program := "yteodajeiagmekaagreat", sum := "e6b262f3cfdd39044c328c9a550883a7a1ad801446cf7f686519426e87bbe0db", func := "loop.example/g00516/laws.FnReads", spec := "fnReads", unfollowed := true, recurses := true, apart := false, narrowed := true }
def FnReadsUptoSaid : Prop := fnReadsUptoRow.holds Tryz.pinned (OpenSpec.upto fnReadsSpec)

/-- 'laws.FnAuditDetects', WHERE WHAT IT READS IS OF BULK AT MOST 1048576: true; the input reads as it did. -/
def fnAuditDetectsUptoRow : OpenClaim := { program := "yteodajeiagmekaagreat", sum := "e6b262f3cfdd39044c328c9a550883a7a1ad801446cf7f686519426e87bbe0db", func := "loop.example/g00516/laws.FnAuditDetects", spec := "fnAuditDetects", inPlace := ["internal/abi.NoEscape", "internal/bytealg.MakeNoZero"], unfollowed := true, recurses := true, apart := false, narrowed := true }
def FnAuditDetectsUptoSaid : Prop := fnAuditDetectsUptoRow.holds Tryz.pinned (OpenSpec.upto fnAuditDetectsSpec)

/-- 'laws.FnRounds', WHERE WHAT IT READS IS OF BULK AT MOST 1048576: true; the input reads as it did. -/
def fnRoundsUptoRow : OpenClaim := { program := "yteodajeiagmekaagreat", sum := "e6b262f3cfdd39044c328c9a550883a7a1ad801446cf7f686519426e87bbe0db", func := "loop.example/g00516/laws.FnRounds", spec := "fnRounds", inPlace := ["slices.overlaps[loop.example/g00516/impl.ReceivedShare]"], unfollowed := true, recurses := true, apart := false, narrowed := true }
def FnRoundsUptoSaid : Prop := fnRoundsUptoRow.holds Tryz.pinned (OpenSpec.upto fnRoundsSpec)

/-- 'laws.FnEvents', WHERE WHAT IT READS IS OF BULK AT MOST 1048576: true; the input reads as it did. -/
def fnEventsUptoRow : OpenClaim := { program := "yteodajeiagmekaagreat", sum := "e6b262f3cfdd39044c328c9a550883a7a1ad801446cf7f686519426e87bbe0db", func := "loop.example/g00516/laws.FnEvents", spec := "fnEvents", inPlace := ["slices.overlaps[loop.example/g00516/impl.ReceivedShare]"], unfollowed := true, recurses := true, apart := false, narrowed := true }
def FnEventsUptoSaid : Prop := fnEventsUptoRow.holds Tryz.pinned (OpenSpec.upto fnEventsSpec)

/-- 'laws.FnSelectionViews', WHERE WHAT IT READS IS OF BULK AT MOST 1048576: true; the input reads as it did. -/
def fnSelectionViewsUptoRow : OpenClaim := { program := "yteodajeiagmekaagreat", sum := "e6b262f3cfdd39044c328c9a550883a7a1ad801446cf7f686519426e87bbe0db", func := "loop.example/g00516/laws.FnSelectionViews", spec := "fnSelectionViews", unfollowed := true, recurses := true, apart := false, narrowed := true }
def FnSelectionViewsUptoSaid : Prop := fnSelectionViewsUptoRow.holds Tryz.pinned (OpenSpec.upto fnSelectionViewsSpec)

/-- 'laws.FnServerViews', WHERE WHAT IT READS IS OF BULK AT MOST 1048576: true; the input reads as it did. -/
def fnServerViewsUptoRow : OpenClaim := { program := "yteodajeiagmekaagreat", sum := "e6b262f3cfdd39044c328c9a550883a7a1ad801446cf7f686519426e87bbe0db", func := "loop.example/g00516/laws.FnServerViews", spec := "fnServerViews", unfollowed := true, recurses := true, apart := false, narrowed := true }
def FnServerViewsUptoSaid : Prop := fnServerViewsUptoRow.holds Tryz.pinned (OpenSpec.upto fnServerViewsSpec)

/-- 'laws.FnExactExplainSelectionView', WHERE WHAT IT READS IS OF BULK AT MOST 1048576: true; the input reads as it did. -/
def fnExactExplainSelectionViewUptoRow : OpenClaim := { program := "yteodajeiagmekaagreat", sum := "e6b262f3cfdd39044c328c9a550883a7a1ad801446cf7f686519426e87bbe0db", func := "loop.example/g00516/laws.FnExactExplainSelectionView", spec := "fnExactExplainSelectionView", unfollowed := true, recurses := true, apart := false, narrowed := true }
def FnExactExplainSelectionViewUptoSaid : Prop := fnExactExplainSelectionViewUptoRow.holds Tryz.pinned (OpenSpec.upto fnExactExplainSelectionViewSpec)

/-- 'laws.FnExactExplainShareView', WHERE WHAT IT READS IS OF BULK AT MOST 1048576: true; the input reads as it did. -/
def fnExactExplainShareViewUptoRow : OpenClaim := { program := "yteodajeiagmekaagreat", sum := "e6b262f3cfdd39044c328c9a550883a7a1ad801446cf7f686519426e87bbe0db", func := "loop.example/g00516/laws.FnExactExplainShareView", spec := "fnExactExplainShareView", unfollowed := true, recurses := true, apart := false, narrowed := true }
def FnExactExplainShareViewUptoSaid : Prop := fnExactExplainShareViewUptoRow.holds Tryz.pinned (OpenSpec.upto fnExactExplainShareViewSpec)

/-- 'laws.FnExactCountCollided', WHERE WHAT IT READS IS OF BULK AT MOST 1048576: true; the input reads as it did. -/
def fnExactCountCollidedUptoRow : OpenClaim := { program := "yteodajeiagmekaagreat", sum := "e6b262f3cfdd39044c328c9a550883a7a1ad801446cf7f686519426e87bbe0db", func := "loop.example/g00516/laws.FnExactCountCollided", spec := "fnExactCountCollided", unfollowed := true, recurses := true, apart := false, narrowed := true }
def FnExactCountCollidedUptoSaid : Prop := fnExactCountCollidedUptoRow.holds Tryz.pinned (OpenSpec.upto fnExactCountCollidedSpec)

end Rows
end Go.Proofs.YteodajeiagmekaaGreat
