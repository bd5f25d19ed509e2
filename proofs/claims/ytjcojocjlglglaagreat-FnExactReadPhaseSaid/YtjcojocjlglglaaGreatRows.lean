/-
  No cell of these rows narrows 'for every input' (looked for: loops, veiled, ifaces, maps, wideKeys, modest, calm, conditions, laid).
  DERIVED. THE GIVEN ROWS OF THIS SEAT. 11 by the template 'for every input the law returns true; each argument reads behind the call as it read before'; 0 by the template 'total and deterministic' (their statements: YtjcojocjlglglaaGreatTotals.lean).
  GIVEN WITH THE SEED: the statements are not yours to turn. If you find one false, say at which input.
  Laid BY PROGRAM, IN A SANDBOX (cutbox-rows.mjs): the forced cells as the released guide's own fill.sh prints them over the translation a0599c02ced657a9… (all of the seat's roots in one cut). By AI agents, Wed Nov 11 2026. No macro, syntax, notation, axiom, sorry.
-/
import Derived.Test.YtjcojocjlglglaaGreatChecked
import GoSem.Claim
import GoSem.ClaimJoined
import GoSem.ClaimMapViews
import Derived.JoinedTies
import Derived.KernelRfl
namespace Go.Proofs.YtjcojocjlglglaaGreat
/- THE CELL 'sum', in the pinned program and in every row, IS THE sha256 OF THE DUMP (.gsa) THAT YtjcojocjlglglaaGreatProg.lean LOADS. Nothing in Lean hashes anything: it is a label: what it is worth is what the hold of that sum in a sandbox is worth. -/
noncomputable def Tryz.pinned : Pinned := { name := "ytjcojocjlglglaagreat", sum := "a0599c02ced657a97802e2baf440170d0816c96276e4d1bc82cf63686035af7a", checked := Tryz.checked }
namespace Rows
def none {H : Type} : Left H := { results := [], args := [] }

/-- 'laws.FnExactReadPhase': WHATEVER THE INPUT: true; the input reads as it did. -/
def fnExactReadPhaseSpec : ChangeSpec := { name := "fnExactReadPhase", fn := fun _ => fun
  | [d] => { results := [.lit (.bool true)], args := [d] }
  | _ => none }
def fnExactReadPhaseRow : OpenClaim := { program := "ytjcojocjlglglaagreat", sum := "a0599c02ced657a97802e2baf440170d0816c96276e4d1bc82cf63686035af7a", func := "loop.example/g00516/laws.FnExactReadPhase", spec := "fnExactReadPhase", unfollowed := true, recurses := true, apart := false }
def FnExactReadPhaseSaid : Prop := fnExactReadPhaseRow.holds Tryz.pinned (OpenSpec.ofChange fnExactReadPhaseSpec)

/-- ITS FALSE NEIGHBOUR: 'it returns false'. Refute it at one input. -/
def fnExactReadPhaseWrong : ChangeSpec := { name := "fnExactReadPhase", fn := fun _ => fun
  | [d] => { results := [.lit (.bool false)], args := [d] }
  | _ => none }
def FnExactReadPhaseWrongFalsely : Prop := fnExactReadPhaseRow.holds Tryz.pinned (OpenSpec.ofChange fnExactReadPhaseWrong)

/-- 'laws.FnExactRunRound': WHATEVER THE INPUT: true; the input reads as it did. -/
def fnExactRunRoundSpec : ChangeSpec := { name := "fnExactRunRound", fn := fun _ => fun
  | [d] => { results := [.lit (.bool true)], args := [d] }
  | _ => none }
def fnExactRunRoundRow : OpenClaim := { program := "ytjcojocjlglglaagreat", sum := "a0599c02ced657a97802e2baf440170d0816c96276e4d1bc82cf63686035af7a", func := "loop.example/g00516/laws.FnExactRunRound", spec := "fnExactRunRound", inPlace := ["slices.overlaps[loop.example/g00516/impl.ReceivedShare]"], unfollowed := true, recurses := true, apart := false }
def FnExactRunRoundSaid : Prop := fnExactRunRoundRow.holds Tryz.pinned (OpenSpec.ofChange fnExactRunRoundSpec)

/-- ITS FALSE NEIGHBOUR: 'it returns false'. Refute it at one input. -/
def fnExactRunRoundWrong : ChangeSpec := { name := "fnExactRunRound", fn := fun _ => fun
  | [d] => { results := [.lit (.bool false)], args := [d] }
  | _ => none }
def FnExactRunRoundWrongFalsely : Prop := fnExactRunRoundRow.holds Tryz.pinned (OpenSpec.ofChange fnExactRunRoundWrong)

/-- 'laws.FnExactRunRounds': WHATEVER THE INPUT: true; the input reads as it did. -/
def fnExactRunRoundsSpec : ChangeSpec := { name := "fnExactRunRounds", fn := fun _ => fun
  | [d1, d2] => { results := [.lit (.bool true)], args := [d1, d2] }
  | _ => none }
def fnExactRunRoundsRow : OpenClaim := { program := "ytjcojocjlglglaagreat", sum := "a0599c02ced657a97802e2baf440170d0816c96276e4d1bc82cf63686035af7a", func := "loop.example/g00516/laws.FnExactRunRounds", spec := "fnExactRunRounds", inPlace := ["slices.overlaps[loop.example/g00516/impl.ReceivedShare]"], unfollowed := true, recurses := true, apart := false }
def FnExactRunRoundsSaid : Prop := fnExactRunRoundsRow.holds Tryz.pinned (OpenSpec.ofChange fnExactRunRoundsSpec)

/-- ITS FALSE NEIGHBOUR: 'it returns false'. Refute it at one input. -/
def fnExactRunRoundsWrong : ChangeSpec := { name := "fnExactRunRounds", fn := fun _ => fun
  | [d1, d2] => { results := [.lit (.bool false)], args := [d1, d2] }
  | _ => none }
def FnExactRunRoundsWrongFalsely : Prop := fnExactRunRoundsRow.holds Tryz.pinned (OpenSpec.ofChange fnExactRunRoundsWrong)

/-- 'laws.FnExactSettle': WHATEVER THE INPUT: true; the input reads as it did. -/
def fnExactSettleSpec : ChangeSpec := { name := "fnExactSettle", fn := fun _ => fun
  | [d] => { results := [.lit (.bool true)], args := [d] }
  | _ => none }
def fnExactSettleRow : OpenClaim := { program := "ytjcojocjlglglaagreat", sum := "a0599c02ced657a97802e2baf440170d0816c96276e4d1bc82cf63686035af7a", func := "loop.example/g00516/laws.FnExactSettle", spec := "fnExactSettle", inPlace := ["slices.overlaps[loop.example/g00516/impl.ReceivedShare]"], unfollowed := true, recurses := true, apart := false }
def FnExactSettleSaid : Prop := fnExactSettleRow.holds Tryz.pinned (OpenSpec.ofChange fnExactSettleSpec)

/-- ITS FALSE NEIGHBOUR: 'it returns false'. Refute it at one input. -/
def fnExactSettleWrong : ChangeSpec := { name := "fnExactSettle", fn := fun _ => fun
  | [d] => { results := [.lit (.bool false)], args := [d] }
  | _ => none }
def FnExactSettleWrongFalsely : Prop := fnExactSettleRow.holds Tryz.pinned (OpenSpec.ofChange fnExactSettleWrong)

/-- 'laws.FnExactDelay': WHATEVER THE INPUT: true; the input reads as it did. -/
def fnExactDelaySpec : ChangeSpec := { name := "fnExactDelay", fn := fun _ => fun
  | [d1, d2] => { results := [.lit (.bool true)], args := [d1, d2] }
  | _ => none }
def fnExactDelayRow : OpenClaim := { program := "ytjcojocjlglglaagreat", sum := "a0599c02ced657a97802e2baf440170d0816c96276e4d1bc82cf63686035af7a", func := "loop.example/g00516/laws.FnExactDelay", spec := "fnExactDelay", inPlace := ["slices.overlaps[loop.example/g00516/impl.ReceivedShare]"], unfollowed := true, recurses := true, apart := false }
def FnExactDelaySaid : Prop := fnExactDelayRow.holds Tryz.pinned (OpenSpec.ofChange fnExactDelaySpec)

/-- ITS FALSE NEIGHBOUR: 'it returns false'. Refute it at one input. -/
def fnExactDelayWrong : ChangeSpec := { name := "fnExactDelay", fn := fun _ => fun
  | [d1, d2] => { results := [.lit (.bool false)], args := [d1, d2] }
  | _ => none }
def FnExactDelayWrongFalsely : Prop := fnExactDelayRow.holds Tryz.pinned (OpenSpec.ofChange fnExactDelayWrong)

/-- 'laws.FnExactCountApplied': WHATEVER THE INPUT: true; the input reads as it did. -/
def fnExactCountAppliedSpec : ChangeSpec := { name := "fnExactCountApplied", fn := fun _ => fun
  | [d1, d2] => { results := [.lit (.bool true)], args := [d1, d2] }
  | _ => none }
def fnExactCountAppliedRow : OpenClaim := { program := "ytjcojocjlglglaagreat", sum := "a0599c02ced657a97802e2baf440170d0816c96276e4d1bc82cf63686035af7a", func := "loop.example/g00516/laws.FnExactCountApplied", spec := "fnExactCountApplied", inPlace := ["slices.overlaps[loop.example/g00516/impl.ReceivedShare]"], unfollowed := true, recurses := true, apart := false }
def FnExactCountAppliedSaid : Prop := fnExactCountAppliedRow.holds Tryz.pinned (OpenSpec.ofChange fnExactCountAppliedSpec)

/-- ITS FALSE NEIGHBOUR: 'it returns false'. Refute it at one input. -/
def fnExactCountAppliedWrong : ChangeSpec := { name := "fnExactCountApplied", fn := fun _ => fun
  | [d1, d2] => { results := [.lit (.bool false)], args := [d1, d2] }
  | _ => none }
def FnExactCountAppliedWrongFalsely : Prop := fnExactCountAppliedRow.holds Tryz.pinned (OpenSpec.ofChange fnExactCountAppliedWrong)

/-- 'laws.FnExactApplyEvent': WHATEVER THE INPUT: true; the input reads as it did. -/
def fnExactApplyEventSpec : ChangeSpec := { name := "fnExactApplyEvent", fn := fun _ => fun
  | [d1, d2] => { results := [.lit (.bool true)], args := [d1, d2] }
  | _ => none }
def fnExactApplyEventRow : OpenClaim := { program := "ytjcojocjlglglaagreat", sum := "a0599c02ced657a97802e2baf440170d0816c96276e4d1bc82cf63686035af7a", func := "loop.example/g00516/laws.FnExactApplyEvent", spec := "fnExactApplyEvent", inPlace := ["slices.overlaps[loop.example/g00516/impl.ReceivedShare]"], unfollowed := true, recurses := true, apart := false }
def FnExactApplyEventSaid : Prop := fnExactApplyEventRow.holds Tryz.pinned (OpenSpec.ofChange fnExactApplyEventSpec)

/-- ITS FALSE NEIGHBOUR: 'it returns false'. Refute it at one input. -/
def fnExactApplyEventWrong : ChangeSpec := { name := "fnExactApplyEvent", fn := fun _ => fun
  | [d1, d2] => { results := [.lit (.bool false)], args := [d1, d2] }
  | _ => none }
def FnExactApplyEventWrongFalsely : Prop := fnExactApplyEventRow.holds Tryz.pinned (OpenSpec.ofChange fnExactApplyEventWrong)

/-- 'laws.FnExactRunEvents': WHATEVER THE INPUT: true; the input reads as it did. -/
def fnExactRunEventsSpec : ChangeSpec := { name := "fnExactRunEvents", fn := fun _ => fun
  | [d1, d2] => { results := [.lit (.bool true)], args := [d1, d2] }
  | _ => none }
def fnExactRunEventsRow : OpenClaim := { program := "ytjcojocjlglglaagreat", sum := "a0599c02ced657a97802e2baf440170d0816c96276e4d1bc82cf63686035af7a", func := "loop.example/g00516/laws.FnExactRunEvents", spec := "fnExactRunEvents", inPlace := ["slices.overlaps[loop.example/g00516/impl.ReceivedShare]"], unfollowed := true, recurses := true, apart := false }
def FnExactRunEventsSaid : Prop := fnExactRunEventsRow.holds Tryz.pinned (OpenSpec.ofChange fnExactRunEventsSpec)

/-- ITS FALSE NEIGHBOUR: 'it returns false'. Refute it at one input. -/
def fnExactRunEventsWrong : ChangeSpec := { name := "fnExactRunEvents", fn := fun _ => fun
  | [d1, d2] => { results := [.lit (.bool false)], args := [d1, d2] }
  | _ => none }
def FnExactRunEventsWrongFalsely : Prop := fnExactRunEventsRow.holds Tryz.pinned (OpenSpec.ofChange fnExactRunEventsWrong)

/-- 'laws.FnExactCountCollided': WHATEVER THE INPUT: true; the input reads as it did. -/
def fnExactCountCollidedSpec : ChangeSpec := { name := "fnExactCountCollided", fn := fun _ => fun
  | [d] => { results := [.lit (.bool true)], args := [d] }
  | _ => none }
def fnExactCountCollidedRow : OpenClaim := { program := "ytjcojocjlglglaagreat", sum := "a0599c02ced657a97802e2baf440170d0816c96276e4d1bc82cf63686035af7a", func := "loop.example/g00516/laws.FnExactCountCollided", spec := "fnExactCountCollided", unfollowed := true, recurses := true, apart := false }
def FnExactCountCollidedSaid : Prop := fnExactCountCollidedRow.holds Tryz.pinned (OpenSpec.ofChange fnExactCountCollidedSpec)

/-- ITS FALSE NEIGHBOUR: 'it returns false'. Refute it at one input. -/
def fnExactCountCollidedWrong : ChangeSpec := { name := "fnExactCountCollided", fn := fun _ => fun
  | [d] => { results := [.lit (.bool false)], args := [d] }
  | _ => none }
def FnExactCountCollidedWrongFalsely : Prop := fnExactCountCollidedRow.holds Tryz.pinned (OpenSpec.ofChange fnExactCountCollidedWrong)

/-- 'laws.FnExactExplainSelectionView': WHATEVER THE INPUT: true; the input reads as it did. -/
def fnExactExplainSelectionViewSpec : ChangeSpec := { name := "fnExactExplainSelectionView", fn := fun _ => fun
  | [d1, d2, d3, d4, d5, d6] => { results := [.lit (.bool true)], args := [d1, d2, d3, d4, d5, d6] }
  | _ => none }
def fnExactExplainSelectionViewRow : OpenClaim := { program := "ytjcojocjlglglaagreat", sum := "a0599c02ced657a97802e2baf440170d0816c96276e4d1bc82cf63686035af7a", func := "loop.example/g00516/laws.FnExactExplainSelectionView", spec := "fnExactExplainSelectionView", unfollowed := true, recurses := true, apart := false }
def FnExactExplainSelectionViewSaid : Prop := fnExactExplainSelectionViewRow.holds Tryz.pinned (OpenSpec.ofChange fnExactExplainSelectionViewSpec)

/-- ITS FALSE NEIGHBOUR: 'it returns false'. Refute it at one input. -/
def fnExactExplainSelectionViewWrong : ChangeSpec := { name := "fnExactExplainSelectionView", fn := fun _ => fun
  | [d1, d2, d3, d4, d5, d6] => { results := [.lit (.bool false)], args := [d1, d2, d3, d4, d5, d6] }
  | _ => none }
def FnExactExplainSelectionViewWrongFalsely : Prop := fnExactExplainSelectionViewRow.holds Tryz.pinned (OpenSpec.ofChange fnExactExplainSelectionViewWrong)

/-- 'laws.FnExactExplainShareView': WHATEVER THE INPUT: true; the input reads as it did. -/
def fnExactExplainShareViewSpec : ChangeSpec := { name := "fnExactExplainShareView", fn := fun _ => fun
  | [d1, d2, d3, d4, d5] => { results := [.lit (.bool true)], args := [d1, d2, d3, d4, d5] }
  | _ => none }
def fnExactExplainShareViewRow : OpenClaim := { program := "ytjcojocjlglglaagreat", sum := "a0599c02ced657a97802e2baf440170d0816c96276e4d1bc82cf63686035af7a", func := "loop.example/g00516/laws.FnExactExplainShareView", spec := "fnExactExplainShareView", unfollowed := true, recurses := true, apart := false }
def FnExactExplainShareViewSaid : Prop := fnExactExplainShareViewRow.holds Tryz.pinned (OpenSpec.ofChange fnExactExplainShareViewSpec)

/-- ITS FALSE NEIGHBOUR: 'it returns false'. Refute it at one input. -/
def fnExactExplainShareViewWrong : ChangeSpec := { name := "fnExactExplainShareView", fn := fun _ => fun
  | [d1, d2, d3, d4, d5] => { results := [.lit (.bool false)], args := [d1, d2, d3, d4, d5] }
  | _ => none }
def FnExactExplainShareViewWrongFalsely : Prop := fnExactExplainShareViewRow.holds Tryz.pinned (OpenSpec.ofChange fnExactExplainShareViewWrong)

/- THE SECOND FORM. 'bulk': how many values and letters a reading holds, each counted each time it is reached (what is shared counts as often as it is met; a slice's spare places count too). A statement '..UptoSaid' is the law's where the arguments, and the package variables that the reading takes, are together of bulk at most 1048576: NARROWER than '..Said'. Prove '..Said' where nothing that the law and all that it calls make is longer than what came in: it says more and counts as full. Else prove '..UptoSaid'. A law counts once. -/
mutual
def uptoBulk {H : Type} : DataW H → Nat
  | .lit (.string bytes) => bytes.length + 1
  | .lit _ => 1
  | .nil => 1
  | .ptr d => uptoBulk d + 1
  | .slice elems spare => uptoBulkAll elems + uptoBulkAll spare + 1
  | .agg parts => uptoBulkAll parts + 1
  | .iface _ d => uptoBulk d + 1
  | .map entries => uptoBulkEntries entries + 1
  | .held _ => 1
def uptoBulkAll {H : Type} : List (DataW H) → Nat
  | [] => 0
  | d :: r => uptoBulk d + uptoBulkAll r
def uptoBulkEntries {H : Type} : List (Lit × DataW H) → Nat
  | [] => 0
  | x :: r => uptoBulkEntry x + uptoBulkEntries r
def uptoBulkEntry {H : Type} : Lit × DataW H → Nat
  | (.string bytes, d) => bytes.length + uptoBulk d + 1
  | (_, d) => uptoBulk d + 1
 end
def uptoSmall : (H : Type) → List (DataW H) → Bool := fun _ ds => decide (uptoBulkAll ds ≤ 1048576)
def OpenSpec.upto (s : _root_.Go.ChangeSpec) : _root_.Go.OpenSpec := { _root_.Go.OpenSpec.ofChange s with cond := some uptoSmall }

/-- 'laws.FnExactReadPhase', WHERE WHAT IT READS IS OF BULK AT MOST 1048576: true; the input reads as it did. -/
def fnExactReadPhaseUptoRow : OpenClaim := { program := "ytjcojocjlglglaagreat", sum := "a0599c02ced657a97802e2baf440170d0816c96276e4d1bc82cf63686035af7a", func := "loop.example/g00516/laws.FnExactReadPhase", spec := "fnExactReadPhase", unfollowed := true, recurses := true, apart := false, narrowed := true }
def FnExactReadPhaseUptoSaid : Prop := fnExactReadPhaseUptoRow.holds Tryz.pinned (OpenSpec.upto fnExactReadPhaseSpec)

/-- 'laws.FnExactRunRound', WHERE WHAT IT READS IS OF BULK AT MOST 1048576: true; the input reads as it did. -/
def fnExactRunRoundUptoRow : OpenClaim := { program := "ytjcojocjlglglaagreat", sum := "a0599c02ced657a97802e2baf440170d0816c96276e4d1bc82cf63686035af7a", func := "loop.example/g00516/laws.FnExactRunRound", spec := "fnExactRunRound", inPlace := ["slices.overlaps[loop.example/g00516/impl.ReceivedShare]"], unfollowed := true, recurses := true, apart := false, narrowed := true }
def FnExactRunRoundUptoSaid : Prop := fnExactRunRoundUptoRow.holds Tryz.pinned (OpenSpec.upto fnExactRunRoundSpec)

/-- 'laws.FnExactRunRounds', WHERE WHAT IT READS IS OF BULK AT MOST 1048576: true; the input reads as it did. -/
def fnExactRunRoundsUptoRow : OpenClaim := { program := "ytjcojocjlglglaagreat", sum := "a0599c02ced657a97802e2baf440170d0816c96276e4d1bc82cf63686035af7a", func := "loop.example/g00516/laws.FnExactRunRounds", spec := "fnExactRunRounds", inPlace := ["slices.overlaps[loop.example/g00516/impl.ReceivedShare]"], unfollowed := true, recurses := true, apart := false, narrowed := true }
def FnExactRunRoundsUptoSaid : Prop := fnExactRunRoundsUptoRow.holds Tryz.pinned (OpenSpec.upto fnExactRunRoundsSpec)

/-- 'laws.FnExactSettle', WHERE WHAT IT READS IS OF BULK AT MOST 1048576: true; the input reads as it did. -/
def fnExactSettleUptoRow : OpenClaim := { program := "ytjcojocjlglglaagreat", sum := "a0599c02ced657a97802e2baf440170d0816c96276e4d1bc82cf63686035af7a", func := "loop.example/g00516/laws.FnExactSettle", spec := "fnExactSettle", inPlace := ["slices.overlaps[loop.example/g00516/impl.ReceivedShare]"], unfollowed := true, recurses := true, apart := false, narrowed := true }
def FnExactSettleUptoSaid : Prop := fnExactSettleUptoRow.holds Tryz.pinned (OpenSpec.upto fnExactSettleSpec)

/-- 'laws.FnExactDelay', WHERE WHAT IT READS IS OF BULK AT MOST 1048576: true; the input reads as it did. -/
def fnExactDelayUptoRow : OpenClaim := { program := "ytjcojocjlglglaagreat", sum := "a0599c02ced657a97802e2baf440170d0816c96276e4d1bc82cf63686035af7a", func := "loop.example/g00516/laws.FnExactDelay", spec := "fnExactDelay", inPlace := ["slices.overlaps[loop.example/g00516/impl.ReceivedShare]"], unfollowed := true, recurses := true, apart := false, narrowed := true }
def FnExactDelayUptoSaid : Prop := fnExactDelayUptoRow.holds Tryz.pinned (OpenSpec.upto fnExactDelaySpec)

/-- 'laws.FnExactCountApplied', WHERE WHAT IT READS IS OF BULK AT MOST 1048576: true; the input reads as it did. -/
def fnExactCountAppliedUptoRow : OpenClaim := { program := "ytjcojocjlglglaagreat", sum := "a0599c02ced657a97802e2baf440170d0816c96276e4d1bc82cf63686035af7a", func := "loop.example/g00516/laws.FnExactCountApplied", spec := "fnExactCountApplied", inPlace := ["slices.overlaps[loop.example/g00516/impl.ReceivedShare]"], unfollowed := true, recurses := true, apart := false, narrowed := true }
def FnExactCountAppliedUptoSaid : Prop := fnExactCountAppliedUptoRow.holds Tryz.pinned (OpenSpec.upto fnExactCountAppliedSpec)

/-- 'laws.FnExactApplyEvent', WHERE WHAT IT READS IS OF BULK AT MOST 1048576: true; the input reads as it did. -/
def fnExactApplyEventUptoRow : OpenClaim := { program := "ytjcojocjlglglaagreat", sum := "a0599c02ced657a97802e2baf440170d0816c96276e4d1bc82cf63686035af7a", func := "loop.example/g00516/laws.FnExactApplyEvent", spec := "fnExactApplyEvent", inPlace := ["slices.overlaps[loop.example/g00516/impl.ReceivedShare]"], unfollowed := true, recurses := true, apart := false, narrowed := true }
def FnExactApplyEventUptoSaid : Prop := fnExactApplyEventUptoRow.holds Tryz.pinned (OpenSpec.upto fnExactApplyEventSpec)

/-- 'laws.FnExactRunEvents', WHERE WHAT IT READS IS OF BULK AT MOST 1048576: true; the input reads as it did. -/
def fnExactRunEventsUptoRow : OpenClaim := { program := "ytjcojocjlglglaagreat", sum := "a0599c02ced657a97802e2baf440170d0816c96276e4d1bc82cf63686035af7a", func := "loop.example/g00516/laws.FnExactRunEvents", spec := "fnExactRunEvents", inPlace := ["slices.overlaps[loop.example/g00516/impl.ReceivedShare]"], unfollowed := true, recurses := true, apart := false, narrowed := true }
def FnExactRunEventsUptoSaid : Prop := fnExactRunEventsUptoRow.holds Tryz.pinned (OpenSpec.upto fnExactRunEventsSpec)

/-- 'laws.FnExactCountCollided', WHERE WHAT IT READS IS OF BULK AT MOST 1048576: true; the input reads as it did. -/
def fnExactCountCollidedUptoRow : OpenClaim := { program := "ytjcojocjlglglaagreat", sum := "a0599c02ced657a97802e2baf440170d0816c96276e4d1bc82cf63686035af7a", func := "loop.example/g00516/laws.FnExactCountCollided", spec := "fnExactCountCollided", unfollowed := true, recurses := true, apart := false, narrowed := true }
def FnExactCountCollidedUptoSaid : Prop := fnExactCountCollidedUptoRow.holds Tryz.pinned (OpenSpec.upto fnExactCountCollidedSpec)

/-- 'laws.FnExactExplainSelectionView', WHERE WHAT IT READS IS OF BULK AT MOST 1048576: true; the input reads as it did. -/
def fnExactExplainSelectionViewUptoRow : OpenClaim := { program := "ytjcojocjlglglaagreat", sum := "a0599c02ced657a97802e2baf440170d0816c96276e4d1bc82cf63686035af7a", func := "loop.example/g00516/laws.FnExactExplainSelectionView", spec := "fnExactExplainSelectionView", unfollowed := true, recurses := true, apart := false, narrowed := true }
def FnExactExplainSelectionViewUptoSaid : Prop := fnExactExplainSelectionViewUptoRow.holds Tryz.pinned (OpenSpec.upto fnExactExplainSelectionViewSpec)

/-- 'laws.FnExactExplainShareView', WHERE WHAT IT READS IS OF BULK AT MOST 1048576: true; the input reads as it did. -/
def fnExactExplainShareViewUptoRow : OpenClaim := { program := "ytjcojocjlglglaagreat", sum := "a0599c02ced657a97802e2baf440170d0816c96276e4d1bc82cf63686035af7a", func := "loop.example/g00516/laws.FnExactExplainShareView", spec := "fnExactExplainShareView", unfollowed := true, recurses := true, apart := false, narrowed := true }
def FnExactExplainShareViewUptoSaid : Prop := fnExactExplainShareViewUptoRow.holds Tryz.pinned (OpenSpec.upto fnExactExplainShareViewSpec)

end Rows
end Go.Proofs.YtjcojocjlglglaaGreat
