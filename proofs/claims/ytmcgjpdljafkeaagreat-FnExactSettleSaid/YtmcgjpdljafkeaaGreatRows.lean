/-
  No cell of these rows narrows 'for every input' (looked for: loops, veiled, ifaces, maps, wideKeys, modest, calm, conditions, laid).
  DERIVED. THE GIVEN ROWS OF THIS SEAT. 7 by the template 'for every input the law returns true; each argument reads behind the call as it read before'; 0 by the template 'total and deterministic' (their statements: YtmcgjpdljafkeaaGreatTotals.lean).
  GIVEN WITH THE SEED: the statements are not yours to turn. If you find one false, say at which input.
  Laid BY PROGRAM, IN A SANDBOX (cutbox-rows.mjs): the forced cells as the released guide's own fill.sh prints them over the translation 8e9dccbd4022b82f… (all of the seat's roots in one cut). By AI agents, Wed Nov 11 2026. No macro, syntax, notation, axiom, sorry.
-/
import Derived.Test.YtmcgjpdljafkeaaGreatChecked
import GoSem.Claim
import GoSem.ClaimJoined
import GoSem.ClaimMapViews
import Derived.JoinedTies
import Derived.KernelRfl
namespace Go.Proofs.YtmcgjpdljafkeaaGreat
/- THE CELL 'sum', in the pinned program and in every row, IS THE sha256 OF THE DUMP (.gsa) THAT YtmcgjpdljafkeaaGreatProg.lean LOADS. Nothing in Lean hashes anything: it is a label: what it is worth is what the hold of that sum in a sandbox is worth. -/
noncomputable def Tryz.pinned : Pinned := { name := "ytmcgjpdljafkeaagreat", sum := "8e9dccbd4022b82f74d12818be4eda81c0642bffc6d91b7a5d68d3791257777f", checked := Tryz.checked }
namespace Rows
def none {H : Type} : Left H := { results := [], args := [] }

/-- 'laws.FnExactRunRound': WHATEVER THE INPUT: true; the input reads as it did. -/
def fnExactRunRoundSpec : ChangeSpec := { name := "fnExactRunRound", fn := fun _ => fun
  | [d] => { results := [.lit (.bool true)], args := [d] }
  | _ => none }
def fnExactRunRoundRow : OpenClaim := { program := "ytmcgjpdljafkeaagreat", sum := "8e9dccbd4022b82f74d12818be4eda81c0642bffc6d91b7a5d68d3791257777f", func := "loop.example/g00516/laws.FnExactRunRound", spec := "fnExactRunRound", inPlace := ["slices.overlaps[loop.example/g00516/impl.ReceivedShare]"], unfollowed := true, recurses := true, apart := false }
def FnExactRunRoundSaid : Prop := fnExactRunRoundRow.holds Tryz.pinned (OpenSpec.ofChange fnExactRunRoundSpec)

/-- ITS FALSE NEIGHBOUR: 'it returns false'. Refute it at one input. -/
def fnExactRunRoundWrong : ChangeSpec := { name := "fnExactRunRound", fn := fun _ => fun
  | [d] => { results := [.lit (.bool false)], args := [d] }
  | _ => none }
def FnExactRunRoundWrongFalsely : Prop := fnExactRunRoundRow.holds Tryz.pinned (OpenSpec.ofChange fnExactRunRoundWrong)

/-- 'laws.FnExactRunRounds': WHATEVER THE INPUT: true; the input reads as it did. -/
def fnExactRunRoundsSpec : ChangeSpec := { name := "fnExactRunRounds", fn := fun _ => fun
  | [d1, d2] => { results := [.lit (.bool true)], args := [d1, d2] }
  | _ => none }
def fnExactRunRoundsRow : OpenClaim := { program := "ytmcgjpdljafkeaagreat", sum := "8e9dccbd4022b82f74d12818be4eda81c0642bffc6d91b7a5d68d3791257777f", func := "loop.example/g00516/laws.FnExactRunRounds", spec := "fnExactRunRounds", inPlace := ["slices.overlaps[loop.example/g00516/impl.ReceivedShare]"], unfollowed := true, recurses := true, apart := false }
def FnExactRunRoundsSaid : Prop := fnExactRunRoundsRow.holds Tryz.pinned (OpenSpec.ofChange fnExactRunRoundsSpec)

/-- ITS FALSE NEIGHBOUR: 'it returns false'. Refute it at one input. -/
def fnExactRunRoundsWrong : ChangeSpec := { name := "fnExactRunRounds", fn := fun _ => fun
  | [d1, d2] => { results := [.lit (.bool false)], args := [d1, d2] }
  | _ => none }
def FnExactRunRoundsWrongFalsely : Prop := fnExactRunRoundsRow.holds Tryz.pinned (OpenSpec.ofChange fnExactRunRoundsWrong)

/-- 'laws.FnExactSettle': WHATEVER THE INPUT: true; the input reads as it did. -/
def fnExactSettleSpec : ChangeSpec := { name := "fnExactSettle", fn := fun _ => fun
  | [d] => { results := [.lit (.bool true)], args := [d] }
  | _ => none }
def fnExactSettleRow : OpenClaim := { program := "ytmcgjpdljafkeaagreat", sum := "8e9dccbd4022b82f74d12818be4eda81c0642bffc6d91b7a5d68d3791257777f", func := "loop.example/g00516/laws.FnExactSettle", spec := "fnExactSettle", inPlace := ["slices.overlaps[loop.example/g00516/impl.ReceivedShare]"], unfollowed := true, recurses := true, apart := false }
def FnExactSettleSaid : Prop := fnExactSettleRow.holds Tryz.pinned (OpenSpec.ofChange fnExactSettleSpec)

/-- ITS FALSE NEIGHBOUR: 'it returns false'. Refute it at one input. -/
def fnExactSettleWrong : ChangeSpec := { name := "fnExactSettle", fn := fun _ => fun
  | [d] => { results := [.lit (.bool false)], args := [d] }
  | _ => none }
def FnExactSettleWrongFalsely : Prop := fnExactSettleRow.holds Tryz.pinned (OpenSpec.ofChange fnExactSettleWrong)

/-- 'laws.FnExactDelay': WHATEVER THE INPUT: true; the input reads as it did. -/
def fnExactDelaySpec : ChangeSpec := { name := "fnExactDelay", fn := fun _ => fun
  | [d1, d2] => { results := [.lit (.bool true)], args := [d1, d2] }
  | _ => none }
def fnExactDelayRow : OpenClaim := { program := "ytmcgjpdljafkeaagreat", sum := "8e9dccbd4022b82f74d12818be4eda81c0642bffc6d91b7a5d68d3791257777f", func := "loop.example/g00516/laws.FnExactDelay", spec := "fnExactDelay", inPlace := ["slices.overlaps[loop.example/g00516/impl.ReceivedShare]"], unfollowed := true, recurses := true, apart := false }
def FnExactDelaySaid : Prop := fnExactDelayRow.holds Tryz.pinned (OpenSpec.ofChange fnExactDelaySpec)

/-- ITS FALSE NEIGHBOUR: 'it returns false'. Refute it at one input. -/
def fnExactDelayWrong : ChangeSpec := { name := "fnExactDelay", fn := fun _ => fun
  | [d1, d2] => { results := [.lit (.bool false)], args := [d1, d2] }
  | _ => none }
def FnExactDelayWrongFalsely : Prop := fnExactDelayRow.holds Tryz.pinned (OpenSpec.ofChange fnExactDelayWrong)

/-- 'laws.FnExactApplyEvent': WHATEVER THE INPUT: true; the input reads as it did. -/
def fnExactApplyEventSpec : ChangeSpec := { name := "fnExactApplyEvent", fn := fun _ => fun
  | [d1, d2] => { results := [.lit (.bool true)], args := [d1, d2] }
  | _ => none }
def fnExactApplyEventRow : OpenClaim := { program := "ytmcgjpdljafkeaagreat", sum := "8e9dccbd4022b82f74d12818be4eda81c0642bffc6d91b7a5d68d3791257777f", func := "loop.example/g00516/laws.FnExactApplyEvent", spec := "fnExactApplyEvent", inPlace := ["slices.overlaps[loop.example/g00516/impl.ReceivedShare]"], unfollowed := true, recurses := true, apart := false }
def FnExactApplyEventSaid : Prop := fnExactApplyEventRow.holds Tryz.pinned (OpenSpec.ofChange fnExactApplyEventSpec)

/-- ITS FALSE NEIGHBOUR: 'it returns false'. Refute it at one input. -/
def fnExactApplyEventWrong : ChangeSpec := { name := "fnExactApplyEvent", fn := fun _ => fun
  | [d1, d2] => { results := [.lit (.bool false)], args := [d1, d2] }
  | _ => none }
def FnExactApplyEventWrongFalsely : Prop := fnExactApplyEventRow.holds Tryz.pinned (OpenSpec.ofChange fnExactApplyEventWrong)

/-- 'laws.FnExactRunEvents': WHATEVER THE INPUT: true; the input reads as it did. -/
def fnExactRunEventsSpec : ChangeSpec := { name := "fnExactRunEvents", fn := fun _ => fun
  | [d1, d2] => { results := [.lit (.bool true)], args := [d1, d2] }
  | _ => none }
def fnExactRunEventsRow : OpenClaim := { program := "ytmcgjpdljafkeaagreat", sum := "8e9dccbd4022b82f74d12818be4eda81c0642bffc6d91b7a5d68d3791257777f", func := "loop.example/g00516/laws.FnExactRunEvents", spec := "fnExactRunEvents", inPlace := ["slices.overlaps[loop.example/g00516/impl.ReceivedShare]"], unfollowed := true, recurses := true, apart := false }
def FnExactRunEventsSaid : Prop := fnExactRunEventsRow.holds Tryz.pinned (OpenSpec.ofChange fnExactRunEventsSpec)

/-- ITS FALSE NEIGHBOUR: 'it returns false'. Refute it at one input. -/
def fnExactRunEventsWrong : ChangeSpec := { name := "fnExactRunEvents", fn := fun _ => fun
  | [d1, d2] => { results := [.lit (.bool false)], args := [d1, d2] }
  | _ => none }
def FnExactRunEventsWrongFalsely : Prop := fnExactRunEventsRow.holds Tryz.pinned (OpenSpec.ofChange fnExactRunEventsWrong)

/-- 'laws.FnExactCountApplied': WHATEVER THE INPUT: true; the input reads as it did. -/
def fnExactCountAppliedSpec : ChangeSpec := { name := "fnExactCountApplied", fn := fun _ => fun
  | [d1, d2] => { results := [.lit (.bool true)], args := [d1, d2] }
  | _ => none }
def fnExactCountAppliedRow : OpenClaim := { program := "ytmcgjpdljafkeaagreat", sum := "8e9dccbd4022b82f74d12818be4eda81c0642bffc6d91b7a5d68d3791257777f", func := "loop.example/g00516/laws.FnExactCountApplied", spec := "fnExactCountApplied", inPlace := ["slices.overlaps[loop.example/g00516/impl.ReceivedShare]"], unfollowed := true, recurses := true, apart := false }
def FnExactCountAppliedSaid : Prop := fnExactCountAppliedRow.holds Tryz.pinned (OpenSpec.ofChange fnExactCountAppliedSpec)

/-- ITS FALSE NEIGHBOUR: 'it returns false'. Refute it at one input. -/
def fnExactCountAppliedWrong : ChangeSpec := { name := "fnExactCountApplied", fn := fun _ => fun
  | [d1, d2] => { results := [.lit (.bool false)], args := [d1, d2] }
  | _ => none }
def FnExactCountAppliedWrongFalsely : Prop := fnExactCountAppliedRow.holds Tryz.pinned (OpenSpec.ofChange fnExactCountAppliedWrong)

/- THE SECOND FORM. 'bulk': how many values and letters a reading holds, each counted each time it is reached (what is shared counts as often as it is met; a slice's spare places count too). A statement '..UptoSaid' is the law's where the arguments, and the package variables that the reading takes, are together of bulk at most 1048576: NARROWER than '..Said'. Prove '..Said' where nothing that the law and all that it calls make is longer than what came in: it says more and counts as full. Else prove '..UptoSaid'. A law counts once. -/
mutual
def uptoBulk {H : Type} : DataW H → Nat
  | .lit (.string bytes) => bytes.length + 1
  | .lit _ => 1
  | .nil => 1
  | .ptr d => uptoBulk d + 1
  | .slice elems spare => uptoBulkAll elems + uptoBulkAll spare + 1
  | .agg parts => uptoBulkAll parts + 1
  | .iface _ d => uptoBulk d + 1
  | .map entries => uptoBulkEntries entries + 1
  | .held _ => 1
def uptoBulkAll {H : Type} : List (DataW H) → Nat
  | [] => 0
  | d :: r => uptoBulk d + uptoBulkAll r
def uptoBulkEntries {H : Type} : List (Lit × DataW H) → Nat
  | [] => 0
  | x :: r => uptoBulkEntry x + uptoBulkEntries r
def uptoBulkEntry {H : Type} : Lit × DataW H → Nat
  | (.string bytes, d) => bytes.length + uptoBulk d + 1
  | (_, d) => uptoBulk d + 1
 end
def uptoSmall : (H : Type) → List (DataW H) → Bool := fun _ ds => decide (uptoBulkAll ds ≤ 1048576)
def OpenSpec.upto (s : _root_.Go.ChangeSpec) : _root_.Go.OpenSpec := { _root_.Go.OpenSpec.ofChange s with cond := some uptoSmall }

/-- 'laws.FnExactRunRound', WHERE WHAT IT READS IS OF BULK AT MOST 1048576: true; the input reads as it did. -/
def fnExactRunRoundUptoRow : OpenClaim := { program := "ytmcgjpdljafkeaagreat", sum := "8e9dccbd4022b82f74d12818be4eda81c0642bffc6d91b7a5d68d3791257777f", func := "loop.example/g00516/laws.FnExactRunRound", spec := "fnExactRunRound", inPlace := ["slices.overlaps[loop.example/g00516/impl.ReceivedShare]"], unfollowed := true, recurses := true, apart := false, narrowed := true }
def FnExactRunRoundUptoSaid : Prop := fnExactRunRoundUptoRow.holds Tryz.pinned (OpenSpec.upto fnExactRunRoundSpec)

/-- 'laws.FnExactRunRounds', WHERE WHAT IT READS IS OF BULK AT MOST 1048576: true; the input reads as it did. -/
def fnExactRunRoundsUptoRow : OpenClaim := { program := "ytmcgjpdljafkeaagreat", sum := "8e9dccbd4022b82f74d12818be4eda81c0642bffc6d91b7a5d68d3791257777f", func := "loop.example/g00516/laws.FnExactRunRounds", spec := "fnExactRunRounds", inPlace := ["slices.overlaps[loop.example/g00516/impl.ReceivedShare]"], unfollowed := true, recurses := true, apart := false, narrowed := true }
def FnExactRunRoundsUptoSaid : Prop := fnExactRunRoundsUptoRow.holds Tryz.pinned (OpenSpec.upto fnExactRunRoundsSpec)

/-- 'laws.FnExactSettle', WHERE WHAT IT READS IS OF BULK AT MOST 1048576: true; the input reads as it did. -/
def fnExactSettleUptoRow : OpenClaim := { program := "ytmcgjpdljafkeaagreat", sum := "8e9dccbd4022b82f74d12818be4eda81c0642bffc6d91b7a5d68d3791257777f", func := "loop.example/g00516/laws.FnExactSettle", spec := "fnExactSettle", inPlace := ["slices.overlaps[loop.example/g00516/impl.ReceivedShare]"], unfollowed := true, recurses := true, apart := false, narrowed := true }
def FnExactSettleUptoSaid : Prop := fnExactSettleUptoRow.holds Tryz.pinned (OpenSpec.upto fnExactSettleSpec)

/-- 'laws.FnExactDelay', WHERE WHAT IT READS IS OF BULK AT MOST 1048576: true; the input reads as it did. -/
def fnExactDelayUptoRow : OpenClaim := { program := "ytmcgjpdljafkeaagreat", sum := "8e9dccbd4022b82f74d12818be4eda81c0642bffc6d91b7a5d68d3791257777f", func := "loop.example/g00516/laws.FnExactDelay", spec := "fnExactDelay", inPlace := ["slices.overlaps[loop.example/g00516/impl.ReceivedShare]"], unfollowed := true, recurses := true, apart := false, narrowed := true }
def FnExactDelayUptoSaid : Prop := fnExactDelayUptoRow.holds Tryz.pinned (OpenSpec.upto fnExactDelaySpec)

/-- 'laws.FnExactApplyEvent', WHERE WHAT IT READS IS OF BULK AT MOST 1048576: true; the input reads as it did. -/
def fnExactApplyEventUptoRow : OpenClaim := { program := "ytmcgjpdljafkeaagreat", sum := "8e9dccbd4022b82f74d12818be4eda81c0642bffc6d91b7a5d68d3791257777f", func := "loop.example/g00516/laws.FnExactApplyEvent", spec := "fnExactApplyEvent", inPlace := ["slices.overlaps[loop.example/g00516/impl.ReceivedShare]"], unfollowed := true, recurses := true, apart := false, narrowed := true }
def FnExactApplyEventUptoSaid : Prop := fnExactApplyEventUptoRow.holds Tryz.pinned (OpenSpec.upto fnExactApplyEventSpec)

/-- 'laws.FnExactRunEvents', WHERE WHAT IT READS IS OF BULK AT MOST 1048576: true; the input reads as it did. -/
def fnExactRunEventsUptoRow : OpenClaim := { program := "ytmcgjpdljafkeaagreat", sum := "8e9dccbd4022b82f74d12818be4eda81c0642bffc6d91b7a5d68d3791257777f", func := "loop.example/g00516/laws.FnExactRunEvents", spec := "fnExactRunEvents", inPlace := ["slices.overlaps[loop.example/g00516/impl.ReceivedShare]"], unfollowed := true, recurses := true, apart := false, narrowed := true }
def FnExactRunEventsUptoSaid : Prop := fnExactRunEventsUptoRow.holds Tryz.pinned (OpenSpec.upto fnExactRunEventsSpec)

/-- 'laws.FnExactCountApplied', WHERE WHAT IT READS IS OF BULK AT MOST 1048576: true; the input reads as it did. -/
def fnExactCountAppliedUptoRow : OpenClaim := { program := "ytmcgjpdljafkeaagreat", sum := "8e9dccbd4022b82f74d12818be4eda81c0642bffc6d91b7a5d68d3791257777f", func := "loop.example/g00516/laws.FnExactCountApplied", spec := "fnExactCountApplied", inPlace := ["slices.overlaps[loop.example/g00516/impl.ReceivedShare]"], unfollowed := true, recurses := true, apart := false, narrowed := true }
def FnExactCountAppliedUptoSaid : Prop := fnExactCountAppliedUptoRow.holds Tryz.pinned (OpenSpec.upto fnExactCountAppliedSpec)

end Rows
end Go.Proofs.YtmcgjpdljafkeaaGreat
