/-
  No cell of these rows narrows 'for every input' (looked for: loops, veiled, ifaces, maps, wideKeys, modest, calm, conditions, laid).
  DERIVED. THE GIVEN ROWS OF THIS SEAT. 6 by the template 'for every input the law returns true; each argument reads behind the call as it read before'; 0 by the template 'total and deterministic' (their statements: YthlflnplnajjiaaTotals.lean).
  GIVEN WITH THE SEED: the statements are not yours to turn. If you find one false, say at which input.
  Laid BY PROGRAM, IN A SANDBOX (cutbox-rows.mjs): the forced cells as the released guide's own fill.sh prints them over the translation a5b3ff356e6093a2… (all of the seat's roots in one cut). By AI agents, Wed Nov 11 2026. No macro, syntax, notation, axiom, sorry.
-/
import Derived.Test.YthlflnplnajjiaaChecked
import GoSem.Claim
import GoSem.ClaimJoined
import GoSem.ClaimMapViews
import Derived.JoinedTies
import Derived.KernelRfl
namespace Go.Proofs.Ythlflnplnajjiaa
/- THE CELL 'sum', in the pinned program and in every row, IS THE sha256 OF THE DUMP (.gsa) THAT YthlflnplnajjiaaProg.lean LOADS. Nothing in Lean hashes anything: it is a label: what it is worth is what the hold of that sum in a sandbox is worth. -/
noncomputable def Try.pinned : Pinned := { name := "ythlflnplnajjiaa", sum := "a5b3ff356e6093a229e80bf7f6d48e88193acb0a5a45f3a0c8306bc74e35db20", checked := Try.checked }
namespace Rows
def none {H : Type} : Left H := { results := [], args := [] }

/-- 'laws.FnExactEventName': WHATEVER THE INPUT: true; the input reads as it did. -/
def fnExactEventNameSpec : ChangeSpec := { name := "fnExactEventName", fn := fun _ => fun
  | [d] => { results := [.lit (.bool true)], args := [d] }
  | _ => none }
def fnExactEventNameRow : OpenClaim := { program := "ythlflnplnajjiaa", sum := "a5b3ff356e6093a229e80bf7f6d48e88193acb0a5a45f3a0c8306bc74e35db20", func := "loop.example/g00516/laws.FnExactEventName", spec := "fnExactEventName", apart := false }
def FnExactEventNameSaid : Prop := fnExactEventNameRow.holds Try.pinned (OpenSpec.ofChange fnExactEventNameSpec)

/-- ITS FALSE NEIGHBOUR: 'it returns false'. Refute it at one input. -/
def fnExactEventNameWrong : ChangeSpec := { name := "fnExactEventName", fn := fun _ => fun
  | [d] => { results := [.lit (.bool false)], args := [d] }
  | _ => none }
def FnExactEventNameWrongFalsely : Prop := fnExactEventNameRow.holds Try.pinned (OpenSpec.ofChange fnExactEventNameWrong)

/-- 'laws.FnExactRowsForClients': WHATEVER THE INPUT: true; the input reads as it did. -/
def fnExactRowsForClientsSpec : ChangeSpec := { name := "fnExactRowsForClients", fn := fun _ => fun
  | [d] => { results := [.lit (.bool true)], args := [d] }
  | _ => none }
def fnExactRowsForClientsRow : OpenClaim := { program := "ythlflnplnajjiaa", sum := "a5b3ff356e6093a229e80bf7f6d48e88193acb0a5a45f3a0c8306bc74e35db20", func := "loop.example/g00516/laws.FnExactRowsForClients", spec := "fnExactRowsForClients", apart := false }
def FnExactRowsForClientsSaid : Prop := fnExactRowsForClientsRow.holds Try.pinned (OpenSpec.ofChange fnExactRowsForClientsSpec)

/-- ITS FALSE NEIGHBOUR: 'it returns false'. Refute it at one input. -/
def fnExactRowsForClientsWrong : ChangeSpec := { name := "fnExactRowsForClients", fn := fun _ => fun
  | [d] => { results := [.lit (.bool false)], args := [d] }
  | _ => none }
def FnExactRowsForClientsWrongFalsely : Prop := fnExactRowsForClientsRow.holds Try.pinned (OpenSpec.ofChange fnExactRowsForClientsWrong)

/-- 'laws.FnExactFormatSelection': WHATEVER THE INPUT: true; the input reads as it did. -/
def fnExactFormatSelectionSpec : ChangeSpec := { name := "fnExactFormatSelection", fn := fun _ => fun
  | [d] => { results := [.lit (.bool true)], args := [d] }
  | _ => none }
def fnExactFormatSelectionRow : OpenClaim := { program := "ythlflnplnajjiaa", sum := "a5b3ff356e6093a229e80bf7f6d48e88193acb0a5a45f3a0c8306bc74e35db20", func := "loop.example/g00516/laws.FnExactFormatSelection", spec := "fnExactFormatSelection", apart := false }
def FnExactFormatSelectionSaid : Prop := fnExactFormatSelectionRow.holds Try.pinned (OpenSpec.ofChange fnExactFormatSelectionSpec)

/-- ITS FALSE NEIGHBOUR: 'it returns false'. Refute it at one input. -/
def fnExactFormatSelectionWrong : ChangeSpec := { name := "fnExactFormatSelection", fn := fun _ => fun
  | [d] => { results := [.lit (.bool false)], args := [d] }
  | _ => none }
def FnExactFormatSelectionWrongFalsely : Prop := fnExactFormatSelectionRow.holds Try.pinned (OpenSpec.ofChange fnExactFormatSelectionWrong)

/-- 'laws.FnExactFormatCell': WHATEVER THE INPUT: true; the input reads as it did. -/
def fnExactFormatCellSpec : ChangeSpec := { name := "fnExactFormatCell", fn := fun _ => fun
  | [d] => { results := [.lit (.bool true)], args := [d] }
  | _ => none }
def fnExactFormatCellRow : OpenClaim := { program := "ythlflnplnajjiaa", sum := "a5b3ff356e6093a229e80bf7f6d48e88193acb0a5a45f3a0c8306bc74e35db20", func := "loop.example/g00516/laws.FnExactFormatCell", spec := "fnExactFormatCell", apart := false }
def FnExactFormatCellSaid : Prop := fnExactFormatCellRow.holds Try.pinned (OpenSpec.ofChange fnExactFormatCellSpec)

/-- ITS FALSE NEIGHBOUR: 'it returns false'. Refute it at one input. -/
def fnExactFormatCellWrong : ChangeSpec := { name := "fnExactFormatCell", fn := fun _ => fun
  | [d] => { results := [.lit (.bool false)], args := [d] }
  | _ => none }
def FnExactFormatCellWrongFalsely : Prop := fnExactFormatCellRow.holds Try.pinned (OpenSpec.ofChange fnExactFormatCellWrong)

/-- 'laws.FnExactCountCorruptions': WHATEVER THE INPUT: true; the input reads as it did. -/
def fnExactCountCorruptionsSpec : ChangeSpec := { name := "fnExactCountCorruptions", fn := fun _ => fun
  | [d] => { results := [.lit (.bool true)], args := [d] }
  | _ => none }
def fnExactCountCorruptionsRow : OpenClaim := { program := "ythlflnplnajjiaa", sum := "a5b3ff356e6093a229e80bf7f6d48e88193acb0a5a45f3a0c8306bc74e35db20", func := "loop.example/g00516/laws.FnExactCountCorruptions", spec := "fnExactCountCorruptions", apart := false }
def FnExactCountCorruptionsSaid : Prop := fnExactCountCorruptionsRow.holds Try.pinned (OpenSpec.ofChange fnExactCountCorruptionsSpec)

/-- ITS FALSE NEIGHBOUR: 'it returns false'. Refute it at one input. -/
def fnExactCountCorruptionsWrong : ChangeSpec := { name := "fnExactCountCorruptions", fn := fun _ => fun
  | [d] => { results := [.lit (.bool false)], args := [d] }
  | _ => none }
def FnExactCountCorruptionsWrongFalsely : Prop := fnExactCountCorruptionsRow.holds Try.pinned (OpenSpec.ofChange fnExactCountCorruptionsWrong)

/-- 'laws.FnExactSubmittedBodies': WHATEVER THE INPUT: true; the input reads as it did. -/
def fnExactSubmittedBodiesSpec : ChangeSpec := { name := "fnExactSubmittedBodies", fn := fun _ => fun
  | [d1, d2] => { results := [.lit (.bool true)], args := [d1, d2] }
  | _ => none }
def fnExactSubmittedBodiesRow : OpenClaim := { program := "ythlflnplnajjiaa", sum := "a5b3ff356e6093a229e80bf7f6d48e88193acb0a5a45f3a0c8306bc74e35db20", func := "loop.example/g00516/laws.FnExactSubmittedBodies", spec := "fnExactSubmittedBodies", apart := false }
def FnExactSubmittedBodiesSaid : Prop := fnExactSubmittedBodiesRow.holds Try.pinned (OpenSpec.ofChange fnExactSubmittedBodiesSpec)

/-- ITS FALSE NEIGHBOUR: 'it returns false'. Refute it at one input. -/
def fnExactSubmittedBodiesWrong : ChangeSpec := { name := "fnExactSubmittedBodies", fn := fun _ => fun
  | [d1, d2] => { results := [.lit (.bool false)], args := [d1, d2] }
  | _ => none }
def FnExactSubmittedBodiesWrongFalsely : Prop := fnExactSubmittedBodiesRow.holds Try.pinned (OpenSpec.ofChange fnExactSubmittedBodiesWrong)

/- THE SECOND FORM. 'bulk': how many values and letters a reading holds, each counted each time it is reached (what is shared counts as often as it is met; a slice's spare places count too). A statement '..UptoSaid' is the law's where the arguments, and the package variables that the reading takes, are together of bulk at most 1048576: NARROWER than '..Said'. Prove '..Said' where nothing that the law and all that it calls make is longer than what came in: it says more and counts as full. Else prove '..UptoSaid'. A law counts once. -/
mutual
def uptoBulk {H : Type} : DataW H → Nat
  | .lit (.string bytes) => bytes.length + 1
  | .lit _ => 1
  | .nil => 1
  | .ptr d => uptoBulk d + 1
  | .slice elems spare => uptoBulkAll elems + uptoBulkAll spare + 1
  | .agg parts => uptoBulkAll parts + 1
  | .iface _ d => uptoBulk d + 1
  | .map entries => uptoBulkEntries entries + 1
  | .held _ => 1
def uptoBulkAll {H : Type} : List (DataW H) → Nat
  | [] => 0
  | d :: r => uptoBulk d + uptoBulkAll r
def uptoBulkEntries {H : Type} : List (Lit × DataW H) → Nat
  | [] => 0
  | x :: r => uptoBulkEntry x + uptoBulkEntries r
def uptoBulkEntry {H : Type} : Lit × DataW H → Nat
  | (.string bytes, d) => bytes.length + uptoBulk d + 1
  | (_, d) => uptoBulk d + 1
 end
def uptoSmall : (H : Type) → List (DataW H) → Bool := fun _ ds => decide (uptoBulkAll ds ≤ 1048576)
def OpenSpec.upto (s : _root_.Go.ChangeSpec) : _root_.Go.OpenSpec := { _root_.Go.OpenSpec.ofChange s with cond := some uptoSmall }

/-- 'laws.FnExactEventName', WHERE WHAT IT READS IS OF BULK AT MOST 1048576: true; the input reads as it did. -/
def fnExactEventNameUptoRow : OpenClaim := { program := "ythlflnplnajjiaa", sum := "a5b3ff356e6093a229e80bf7f6d48e88193acb0a5a45f3a0c8306bc74e35db20", func := "loop.example/g00516/laws.FnExactEventName", spec := "fnExactEventName", apart := false, narrowed := true }
def FnExactEventNameUptoSaid : Prop := fnExactEventNameUptoRow.holds Try.pinned (OpenSpec.upto fnExactEventNameSpec)

/-- 'laws.FnExactRowsForClients', WHERE WHAT IT READS IS OF BULK AT MOST 1048576: true; the input reads as it did. -/
def fnExactRowsForClientsUptoRow : OpenClaim := { program := "ythlflnplnajjiaa", sum := "a5b3ff356e6093a229e80bf7f6d48e88193acb0a5a45f3a0c8306bc74e35db20", func := "loop.example/g00516/laws.FnExactRowsForClients", spec := "fnExactRowsForClients", apart := false, narrowed := true }
def FnExactRowsForClientsUptoSaid : Prop := fnExactRowsForClientsUptoRow.holds Try.pinned (OpenSpec.upto fnExactRowsForClientsSpec)

/-- 'laws.FnExactFormatSelection', WHERE WHAT IT READS IS OF BULK AT MOST 1048576: true; the input reads as it did. -/
def fnExactFormatSelectionUptoRow : OpenClaim := { program := "ythlflnplnajjiaa", sum := "a5b3ff356e6093a229e80bf7f6d48e88193acb0a5a45f3a0c8306bc74e35db20", func := "loop.example/g00516/laws.FnExactFormatSelection", spec := "fnExactFormatSelection", apart := false, narrowed := true }
def FnExactFormatSelectionUptoSaid : Prop := fnExactFormatSelectionUptoRow.holds Try.pinned (OpenSpec.upto fnExactFormatSelectionSpec)

/-- 'laws.FnExactFormatCell', WHERE WHAT IT READS IS OF BULK AT MOST 1048576: true; the input reads as it did. -/
def fnExactFormatCellUptoRow : OpenClaim := { program := "ythlflnplnajjiaa", sum := "a5b3ff356e6093a229e80bf7f6d48e88193acb0a5a45f3a0c8306bc74e35db20", func := "loop.example/g00516/laws.FnExactFormatCell", spec := "fnExactFormatCell", apart := false, narrowed := true }
def FnExactFormatCellUptoSaid : Prop := fnExactFormatCellUptoRow.holds Try.pinned (OpenSpec.upto fnExactFormatCellSpec)

/-- 'laws.FnExactCountCorruptions', WHERE WHAT IT READS IS OF BULK AT MOST 1048576: true; the input reads as it did. -/
def fnExactCountCorruptionsUptoRow : OpenClaim := { program := "ythlflnplnajjiaa", sum := "a5b3ff356e6093a229e80bf7f6d48e88193acb0a5a45f3a0c8306bc74e35db20", func := "loop.example/g00516/laws.FnExactCountCorruptions", spec := "fnExactCountCorruptions", apart := false, narrowed := true }
def FnExactCountCorruptionsUptoSaid : Prop := fnExactCountCorruptionsUptoRow.holds Try.pinned (OpenSpec.upto fnExactCountCorruptionsSpec)

/-- 'laws.FnExactSubmittedBodies', WHERE WHAT IT READS IS OF BULK AT MOST 1048576: true; the input reads as it did. -/
def fnExactSubmittedBodiesUptoRow : OpenClaim := { program := "ythlflnplnajjiaa", sum := "a5b3ff356e6093a229e80bf7f6d48e88193acb0a5a45f3a0c8306bc74e35db20", func := "loop.example/g00516/laws.FnExactSubmittedBodies", spec := "fnExactSubmittedBodies", apart := false, narrowed := true }
def FnExactSubmittedBodiesUptoSaid : Prop := fnExactSubmittedBodiesUptoRow.holds Try.pinned (OpenSpec.upto fnExactSubmittedBodiesSpec)

end Rows
end Go.Proofs.Ythlflnplnajjiaa
