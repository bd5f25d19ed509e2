/-
  No cell of these rows narrows 'for every input' (looked for: loops, veiled, ifaces, maps, wideKeys, modest, calm, conditions, laid).
  DERIVED. THE GIVEN ROWS OF THIS SEAT. 12 by the template 'for every input the law returns true; each argument reads behind the call as it read before'; 0 by the template 'total and deterministic' (their statements: YtfiaikmlnemnfaaTotals.lean).
  GIVEN WITH THE SEED: the statements are not yours to turn. If you find one false, say at which input.
  Laid BY PROGRAM, IN A SANDBOX (cutbox-rows.mjs): the forced cells as the released guide's own fill.sh prints them over the translation 82c82a2d67146731… (all of the seat's roots in one cut). By AI agents, Wed Nov 11 2026. No macro, syntax, notation, axiom, sorry.
-/
import Derived.Test.YtfiaikmlnemnfaaChecked
import GoSem.Claim
import GoSem.ClaimJoined
import GoSem.ClaimMapViews
import Derived.JoinedTies
import Derived.KernelRfl
namespace Go.Proofs.Ytfiaikmlnemnfaa
/- THE CELL 'sum', in the pinned program and in every row, IS THE sha256 OF THE DUMP (.gsa) THAT YtfiaikmlnemnfaaProg.lean LOADS. Nothing in Lean hashes anything: it is a label: what it is worth is what the hold of that sum in a sandbox is worth. -/
noncomputable def Try.pinned : Pinned := { name := "ytfiaikmlnemnfaa", sum := "82c82a2d671467312d58524edf490f78232ac8e329584e15be8e0aa4c74975d2", checked := Try.checked }
namespace Rows
def none {H : Type} : Left H := { results := [], args := [] }

/-- 'laws.FnExactCountReplacements': WHATEVER THE INPUT: true; the input reads as it did. -/
def fnExactCountReplacementsSpec : ChangeSpec := { name := "fnExactCountReplacements", fn := fun _ => fun
  | [d] => { results := [.lit (.bool true)], args := [d] }
  | _ => none }
def fnExactCountReplacementsRow : OpenClaim := { program := "ytfiaikmlnemnfaa", sum := "82c82a2d671467312d58524edf490f78232ac8e329584e15be8e0aa4c74975d2", func := "loop.example/g00516/laws.FnExactCountReplacements", spec := "fnExactCountReplacements", apart := false }
def FnExactCountReplacementsSaid : Prop := fnExactCountReplacementsRow.holds Try.pinned (OpenSpec.ofChange fnExactCountReplacementsSpec)

/-- ITS FALSE NEIGHBOUR: 'it returns false'. Refute it at one input. -/
def fnExactCountReplacementsWrong : ChangeSpec := { name := "fnExactCountReplacements", fn := fun _ => fun
  | [d] => { results := [.lit (.bool false)], args := [d] }
  | _ => none }
def FnExactCountReplacementsWrongFalsely : Prop := fnExactCountReplacementsRow.holds Try.pinned (OpenSpec.ofChange fnExactCountReplacementsWrong)

/-- 'laws.FnExactPendingMessages': WHATEVER THE INPUT: true; the input reads as it did. -/
def fnExactPendingMessagesSpec : ChangeSpec := { name := "fnExactPendingMessages", fn := fun _ => fun
  | [d] => { results := [.lit (.bool true)], args := [d] }
  | _ => none }
def fnExactPendingMessagesRow : OpenClaim := { program := "ytfiaikmlnemnfaa", sum := "82c82a2d671467312d58524edf490f78232ac8e329584e15be8e0aa4c74975d2", func := "loop.example/g00516/laws.FnExactPendingMessages", spec := "fnExactPendingMessages", apart := false }
def FnExactPendingMessagesSaid : Prop := fnExactPendingMessagesRow.holds Try.pinned (OpenSpec.ofChange fnExactPendingMessagesSpec)

/-- ITS FALSE NEIGHBOUR: 'it returns false'. Refute it at one input. -/
def fnExactPendingMessagesWrong : ChangeSpec := { name := "fnExactPendingMessages", fn := fun _ => fun
  | [d] => { results := [.lit (.bool false)], args := [d] }
  | _ => none }
def FnExactPendingMessagesWrongFalsely : Prop := fnExactPendingMessagesRow.holds Try.pinned (OpenSpec.ofChange fnExactPendingMessagesWrong)

/-- 'laws.FnExactUnreadMessages': WHATEVER THE INPUT: true; the input reads as it did. -/
def fnExactUnreadMessagesSpec : ChangeSpec := { name := "fnExactUnreadMessages", fn := fun _ => fun
  | [d] => { results := [.lit (.bool true)], args := [d] }
  | _ => none }
def fnExactUnreadMessagesRow : OpenClaim := { program := "ytfiaikmlnemnfaa", sum := "82c82a2d671467312d58524edf490f78232ac8e329584e15be8e0aa4c74975d2", func := "loop.example/g00516/laws.FnExactUnreadMessages", spec := "fnExactUnreadMessages", apart := false }
def FnExactUnreadMessagesSaid : Prop := fnExactUnreadMessagesRow.holds Try.pinned (OpenSpec.ofChange fnExactUnreadMessagesSpec)

/-- ITS FALSE NEIGHBOUR: 'it returns false'. Refute it at one input. -/
def fnExactUnreadMessagesWrong : ChangeSpec := { name := "fnExactUnreadMessages", fn := fun _ => fun
  | [d] => { results := [.lit (.bool false)], args := [d] }
  | _ => none }
def FnExactUnreadMessagesWrongFalsely : Prop := fnExactUnreadMessagesRow.holds Try.pinned (OpenSpec.ofChange fnExactUnreadMessagesWrong)

/-- 'laws.FnExactArchiveIsRecent': WHATEVER THE INPUT: true; the input reads as it did. -/
def fnExactArchiveIsRecentSpec : ChangeSpec := { name := "fnExactArchiveIsRecent", fn := fun _ => fun
  | [d] => { results := [.lit (.bool true)], args := [d] }
  | _ => none }
def fnExactArchiveIsRecentRow : OpenClaim := { program := "ytfiaikmlnemnfaa", sum := "82c82a2d671467312d58524edf490f78232ac8e329584e15be8e0aa4c74975d2", func := "loop.example/g00516/laws.FnExactArchiveIsRecent", spec := "fnExactArchiveIsRecent", apart := false }
def FnExactArchiveIsRecentSaid : Prop := fnExactArchiveIsRecentRow.holds Try.pinned (OpenSpec.ofChange fnExactArchiveIsRecentSpec)

/-- ITS FALSE NEIGHBOUR: 'it returns false'. Refute it at one input. -/
def fnExactArchiveIsRecentWrong : ChangeSpec := { name := "fnExactArchiveIsRecent", fn := fun _ => fun
  | [d] => { results := [.lit (.bool false)], args := [d] }
  | _ => none }
def FnExactArchiveIsRecentWrongFalsely : Prop := fnExactArchiveIsRecentRow.holds Try.pinned (OpenSpec.ofChange fnExactArchiveIsRecentWrong)

/-- 'laws.FnExactIsQuiet': WHATEVER THE INPUT: true; the input reads as it did. -/
def fnExactIsQuietSpec : ChangeSpec := { name := "fnExactIsQuiet", fn := fun _ => fun
  | [d] => { results := [.lit (.bool true)], args := [d] }
  | _ => none }
def fnExactIsQuietRow : OpenClaim := { program := "ytfiaikmlnemnfaa", sum := "82c82a2d671467312d58524edf490f78232ac8e329584e15be8e0aa4c74975d2", func := "loop.example/g00516/laws.FnExactIsQuiet", spec := "fnExactIsQuiet", apart := false }
def FnExactIsQuietSaid : Prop := fnExactIsQuietRow.holds Try.pinned (OpenSpec.ofChange fnExactIsQuietSpec)

/-- ITS FALSE NEIGHBOUR: 'it returns false'. Refute it at one input. -/
def fnExactIsQuietWrong : ChangeSpec := { name := "fnExactIsQuiet", fn := fun _ => fun
  | [d] => { results := [.lit (.bool false)], args := [d] }
  | _ => none }
def FnExactIsQuietWrongFalsely : Prop := fnExactIsQuietRow.holds Try.pinned (OpenSpec.ofChange fnExactIsQuietWrong)

/-- 'laws.FnExactSettleRounds': WHATEVER THE INPUT: true; the input reads as it did. -/
def fnExactSettleRoundsSpec : ChangeSpec := { name := "fnExactSettleRounds", fn := fun _ => fun
  | [d] => { results := [.lit (.bool true)], args := [d] }
  | _ => none }
def fnExactSettleRoundsRow : OpenClaim := { program := "ytfiaikmlnemnfaa", sum := "82c82a2d671467312d58524edf490f78232ac8e329584e15be8e0aa4c74975d2", func := "loop.example/g00516/laws.FnExactSettleRounds", spec := "fnExactSettleRounds", apart := false }
def FnExactSettleRoundsSaid : Prop := fnExactSettleRoundsRow.holds Try.pinned (OpenSpec.ofChange fnExactSettleRoundsSpec)

/-- ITS FALSE NEIGHBOUR: 'it returns false'. Refute it at one input. -/
def fnExactSettleRoundsWrong : ChangeSpec := { name := "fnExactSettleRounds", fn := fun _ => fun
  | [d] => { results := [.lit (.bool false)], args := [d] }
  | _ => none }
def FnExactSettleRoundsWrongFalsely : Prop := fnExactSettleRoundsRow.holds Try.pinned (OpenSpec.ofChange fnExactSettleRoundsWrong)

/-- 'laws.FnExactInboxIsPrefix': WHATEVER THE INPUT: true; the input reads as it did. -/
def fnExactInboxIsPrefixSpec : ChangeSpec := { name := "fnExactInboxIsPrefix", fn := fun _ => fun
  | [d1, d2] => { results := [.lit (.bool true)], args := [d1, d2] }
  | _ => none }
def fnExactInboxIsPrefixRow : OpenClaim := { program := "ytfiaikmlnemnfaa", sum := "82c82a2d671467312d58524edf490f78232ac8e329584e15be8e0aa4c74975d2", func := "loop.example/g00516/laws.FnExactInboxIsPrefix", spec := "fnExactInboxIsPrefix", unfollowed := true, recurses := true, apart := false }
def FnExactInboxIsPrefixSaid : Prop := fnExactInboxIsPrefixRow.holds Try.pinned (OpenSpec.ofChange fnExactInboxIsPrefixSpec)

/-- ITS FALSE NEIGHBOUR: 'it returns false'. Refute it at one input. -/
def fnExactInboxIsPrefixWrong : ChangeSpec := { name := "fnExactInboxIsPrefix", fn := fun _ => fun
  | [d1, d2] => { results := [.lit (.bool false)], args := [d1, d2] }
  | _ => none }
def FnExactInboxIsPrefixWrongFalsely : Prop := fnExactInboxIsPrefixRow.holds Try.pinned (OpenSpec.ofChange fnExactInboxIsPrefixWrong)

/-- 'laws.FnExactReceivedText': WHATEVER THE INPUT: true; the input reads as it did. -/
def fnExactReceivedTextSpec : ChangeSpec := { name := "fnExactReceivedText", fn := fun _ => fun
  | [d1, d2] => { results := [.lit (.bool true)], args := [d1, d2] }
  | _ => none }
def fnExactReceivedTextRow : OpenClaim := { program := "ytfiaikmlnemnfaa", sum := "82c82a2d671467312d58524edf490f78232ac8e329584e15be8e0aa4c74975d2", func := "loop.example/g00516/laws.FnExactReceivedText", spec := "fnExactReceivedText", inPlace := ["internal/abi.NoEscape", "internal/bytealg.MakeNoZero"], apart := false }
def FnExactReceivedTextSaid : Prop := fnExactReceivedTextRow.holds Try.pinned (OpenSpec.ofChange fnExactReceivedTextSpec)

/-- ITS FALSE NEIGHBOUR: 'it returns false'. Refute it at one input. -/
def fnExactReceivedTextWrong : ChangeSpec := { name := "fnExactReceivedText", fn := fun _ => fun
  | [d1, d2] => { results := [.lit (.bool false)], args := [d1, d2] }
  | _ => none }
def FnExactReceivedTextWrongFalsely : Prop := fnExactReceivedTextRow.holds Try.pinned (OpenSpec.ofChange fnExactReceivedTextWrong)

/-- 'laws.FnExactHostileServers': WHATEVER THE INPUT: true; the input reads as it did. -/
def fnExactHostileServersSpec : ChangeSpec := { name := "fnExactHostileServers", fn := fun _ => fun
  | [d] => { results := [.lit (.bool true)], args := [d] }
  | _ => none }
def fnExactHostileServersRow : OpenClaim := { program := "ytfiaikmlnemnfaa", sum := "82c82a2d671467312d58524edf490f78232ac8e329584e15be8e0aa4c74975d2", func := "loop.example/g00516/laws.FnExactHostileServers", spec := "fnExactHostileServers", apart := false }
def FnExactHostileServersSaid : Prop := fnExactHostileServersRow.holds Try.pinned (OpenSpec.ofChange fnExactHostileServersSpec)

/-- ITS FALSE NEIGHBOUR: 'it returns false'. Refute it at one input. -/
def fnExactHostileServersWrong : ChangeSpec := { name := "fnExactHostileServers", fn := fun _ => fun
  | [d] => { results := [.lit (.bool false)], args := [d] }
  | _ => none }
def FnExactHostileServersWrongFalsely : Prop := fnExactHostileServersRow.holds Try.pinned (OpenSpec.ofChange fnExactHostileServersWrong)

/-- 'laws.FnExactAllInboxes': WHATEVER THE INPUT: true; the input reads as it did. -/
def fnExactAllInboxesSpec : ChangeSpec := { name := "fnExactAllInboxes", fn := fun _ => fun
  | [d] => { results := [.lit (.bool true)], args := [d] }
  | _ => none }
def fnExactAllInboxesRow : OpenClaim := { program := "ytfiaikmlnemnfaa", sum := "82c82a2d671467312d58524edf490f78232ac8e329584e15be8e0aa4c74975d2", func := "loop.example/g00516/laws.FnExactAllInboxes", spec := "fnExactAllInboxes", apart := false }
def FnExactAllInboxesSaid : Prop := fnExactAllInboxesRow.holds Try.pinned (OpenSpec.ofChange fnExactAllInboxesSpec)

/-- ITS FALSE NEIGHBOUR: 'it returns false'. Refute it at one input. -/
def fnExactAllInboxesWrong : ChangeSpec := { name := "fnExactAllInboxes", fn := fun _ => fun
  | [d] => { results := [.lit (.bool false)], args := [d] }
  | _ => none }
def FnExactAllInboxesWrongFalsely : Prop := fnExactAllInboxesRow.holds Try.pinned (OpenSpec.ofChange fnExactAllInboxesWrong)

/-- 'laws.FnExactIsRoomy': WHATEVER THE INPUT: true; the input reads as it did. -/
def fnExactIsRoomySpec : ChangeSpec := { name := "fnExactIsRoomy", fn := fun _ => fun
  | [d] => { results := [.lit (.bool true)], args := [d] }
  | _ => none }
def fnExactIsRoomyRow : OpenClaim := { program := "ytfiaikmlnemnfaa", sum := "82c82a2d671467312d58524edf490f78232ac8e329584e15be8e0aa4c74975d2", func := "loop.example/g00516/laws.FnExactIsRoomy", spec := "fnExactIsRoomy", unfollowed := true, recurses := true, apart := false }
def FnExactIsRoomySaid : Prop := fnExactIsRoomyRow.holds Try.pinned (OpenSpec.ofChange fnExactIsRoomySpec)

/-- ITS FALSE NEIGHBOUR: 'it returns false'. Refute it at one input. -/
def fnExactIsRoomyWrong : ChangeSpec := { name := "fnExactIsRoomy", fn := fun _ => fun
  | [d] => { results := [.lit (.bool false)], args := [d] }
  | _ => none }
def FnExactIsRoomyWrongFalsely : Prop := fnExactIsRoomyRow.holds Try.pinned (OpenSpec.ofChange fnExactIsRoomyWrong)

/-- 'laws.FnExactSentIsReceived': WHATEVER THE INPUT: true; the input reads as it did. -/
def fnExactSentIsReceivedSpec : ChangeSpec := { name := "fnExactSentIsReceived", fn := fun _ => fun
  | [d1, d2] => { results := [.lit (.bool true)], args := [d1, d2] }
  | _ => none }
def fnExactSentIsReceivedRow : OpenClaim := { program := "ytfiaikmlnemnfaa", sum := "82c82a2d671467312d58524edf490f78232ac8e329584e15be8e0aa4c74975d2", func := "loop.example/g00516/laws.FnExactSentIsReceived", spec := "fnExactSentIsReceived", apart := false }
def FnExactSentIsReceivedSaid : Prop := fnExactSentIsReceivedRow.holds Try.pinned (OpenSpec.ofChange fnExactSentIsReceivedSpec)

/-- ITS FALSE NEIGHBOUR: 'it returns false'. Refute it at one input. -/
def fnExactSentIsReceivedWrong : ChangeSpec := { name := "fnExactSentIsReceived", fn := fun _ => fun
  | [d1, d2] => { results := [.lit (.bool false)], args := [d1, d2] }
  | _ => none }
def FnExactSentIsReceivedWrongFalsely : Prop := fnExactSentIsReceivedRow.holds Try.pinned (OpenSpec.ofChange fnExactSentIsReceivedWrong)

/- THE SECOND FORM. 'bulk': how many values and letters a reading holds, each counted each time it is reached (what is shared counts as often as it is met; a slice's spare places count too). A statement '..UptoSaid' is the law's where the arguments, and the package variables that the reading takes, are together of bulk at most 1048576: NARROWER than '..Said'. Prove '..Said' where nothing that the law and all that it calls make is longer than what came in: it says more and counts as full. Else prove '..UptoSaid'. A law counts once. -/
mutual
def uptoBulk {H : Type} : DataW H → Nat
  | .lit (.string bytes) => bytes.length + 1
  | .lit _ => 1
  | .nil => 1
  | .ptr d => uptoBulk d + 1
  | .slice elems spare => uptoBulkAll elems + uptoBulkAll spare + 1
  | .agg parts => uptoBulkAll parts + 1
  | .iface _ d => uptoBulk d + 1
  | .map entries => uptoBulkEntries entries + 1
  | .held _ => 1
def uptoBulkAll {H : Type} : List (DataW H) → Nat
  | [] => 0
  | d :: r => uptoBulk d + uptoBulkAll r
def uptoBulkEntries {H : Type} : List (Lit × DataW H) → Nat
  | [] => 0
  | x :: r => uptoBulkEntry x + uptoBulkEntries r
def uptoBulkEntry {H : Type} : Lit × DataW H → Nat
  | (.string bytes, d) => bytes.length + uptoBulk d + 1
  | (_, d) => uptoBulk d + 1
 end
def uptoSmall : (H : Type) → List (DataW H) → Bool := fun _ ds => decide (uptoBulkAll ds ≤ 1048576)
def OpenSpec.upto (s : _root_.Go.ChangeSpec) : _root_.Go.OpenSpec := { _root_.Go.OpenSpec.ofChange s with cond := some uptoSmall }

/-- 'laws.FnExactCountReplacements', WHERE WHAT IT READS IS OF BULK AT MOST 1048576: true; the input reads as it did. -/
def fnExactCountReplacementsUptoRow : OpenClaim := { program := "ytfiaikmlnemnfaa", sum := "82c82a2d671467312d58524edf490f78232ac8e329584e15be8e0aa4c74975d2", func := "loop.example/g00516/laws.FnExactCountReplacements", spec := "fnExactCountReplacements", apart := false, narrowed := true }
def FnExactCountReplacementsUptoSaid : Prop := fnExactCountReplacementsUptoRow.holds Try.pinned (OpenSpec.upto fnExactCountReplacementsSpec)

/-- 'laws.FnExactPendingMessages', WHERE WHAT IT READS IS OF BULK AT MOST 1048576: true; the input reads as it did. -/
def fnExactPendingMessagesUptoRow : OpenClaim := { program := "ytfiaikmlnemnfaa", sum := "82c82a2d671467312d58524edf490f78232ac8e329584e15be8e0aa4c74975d2", func := "loop.example/g00516/laws.FnExactPendingMessages", spec := "fnExactPendingMessages", apart := false, narrowed := true }
def FnExactPendingMessagesUptoSaid : Prop := fnExactPendingMessagesUptoRow.holds Try.pinned (OpenSpec.upto fnExactPendingMessagesSpec)

/-- 'laws.FnExactUnreadMessages', WHERE WHAT IT READS IS OF BULK AT MOST 1048576: true; the input reads as it did. -/
def fnExactUnreadMessagesUptoRow : OpenClaim := { program := "ytfiaikmlnemnfaa", sum := "82c82a2d671467312d58524edf490f78232ac8e329584e15be8e0aa4c74975d2", func := "loop.example/g00516/laws.FnExactUnreadMessages", spec := "fnExactUnreadMessages", apart := false, narrowed := true }
def FnExactUnreadMessagesUptoSaid : Prop := fnExactUnreadMessagesUptoRow.holds Try.pinned (OpenSpec.upto fnExactUnreadMessagesSpec)

/-- 'laws.FnExactArchiveIsRecent', WHERE WHAT IT READS IS OF BULK AT MOST 1048576: true; the input reads as it did. -/
def fnExactArchiveIsRecentUptoRow : OpenClaim := { program := "ytfiaikmlnemnfaa", sum := "82c82a2d671467312d58524edf490f78232ac8e329584e15be8e0aa4c74975d2", func := "loop.example/g00516/laws.FnExactArchiveIsRecent", spec := "fnExactArchiveIsRecent", apart := false, narrowed := true }
def FnExactArchiveIsRecentUptoSaid : Prop := fnExactArchiveIsRecentUptoRow.holds Try.pinned (OpenSpec.upto fnExactArchiveIsRecentSpec)

/-- 'laws.FnExactIsQuiet', WHERE WHAT IT READS IS OF BULK AT MOST 1048576: true; the input reads as it did. -/
def fnExactIsQuietUptoRow : OpenClaim := { program := "ytfiaikmlnemnfaa", sum := "82c82a2d671467312d58524edf490f78232ac8e329584e15be8e0aa4c74975d2", func := "loop.example/g00516/laws.FnExactIsQuiet", spec := "fnExactIsQuiet", apart := false, narrowed := true }
def FnExactIsQuietUptoSaid : Prop := fnExactIsQuietUptoRow.holds Try.pinned (OpenSpec.upto fnExactIsQuietSpec)

/-- 'laws.FnExactSettleRounds', WHERE WHAT IT READS IS OF BULK AT MOST 1048576: true; the input reads as it did. -/
def fnExactSettleRoundsUptoRow : OpenClaim := { program := "ytfiaikmlnemnfaa", sum := "82c82a2d671467312d58524edf490f78232ac8e329584e15be8e0aa4c74975d2", func := "loop.example/g00516/laws.FnExactSettleRounds", spec := "fnExactSettleRounds", apart := false, narrowed := true }
def FnExactSettleRoundsUptoSaid : Prop := fnExactSettleRoundsUptoRow.holds Try.pinned (OpenSpec.upto fnExactSettleRoundsSpec)

/-- 'laws.FnExactInboxIsPrefix', WHERE WHAT IT READS IS OF BULK AT MOST 1048576: true; the input reads as it did. -/
def fnExactInboxIsPrefixUptoRow : OpenClaim := { program := "ytfiaikmlnemnfaa", sum := "82c82a2d671467312d58524edf490f78232ac8e329584e15be8e0aa4c74975d2", func := "loop.example/g00516/laws.FnExactInboxIsPrefix", spec := "fnExactInboxIsPrefix", unfollowed := true, recurses := true, apart := false, narrowed := true }
def FnExactInboxIsPrefixUptoSaid : Prop := fnExactInboxIsPrefixUptoRow.holds Try.pinned (OpenSpec.upto fnExactInboxIsPrefixSpec)

/-- 'laws.FnExactReceivedText', WHERE WHAT IT READS IS OF BULK AT MOST 1048576: true; the input reads as it did. -/
def fnExactReceivedTextUptoRow : OpenClaim := { program := "ytfiaikmlnemnfaa", sum := "82c82a2d671467312d58524edf490f78232ac8e329584e15be8e0aa4c74975d2", func := "loop.example/g00516/laws.FnExactReceivedText", spec := "fnExactReceivedText", inPlace := ["internal/abi.NoEscape", "internal/bytealg.MakeNoZero"], apart := false, narrowed := true }
def FnExactReceivedTextUptoSaid : Prop := fnExactReceivedTextUptoRow.holds Try.pinned (OpenSpec.upto fnExactReceivedTextSpec)

/-- 'laws.FnExactHostileServers', WHERE WHAT IT READS IS OF BULK AT MOST 1048576: true; the input reads as it did. -/
def fnExactHostileServersUptoRow : OpenClaim := { program := "ytfiaikmlnemnfaa", sum := "82c82a2d671467312d58524edf490f78232ac8e329584e15be8e0aa4c74975d2", func := "loop.example/g00516/laws.FnExactHostileServers", spec := "fnExactHostileServers", apart := false, narrowed := true }
def FnExactHostileServersUptoSaid : Prop := fnExactHostileServersUptoRow.holds Try.pinned (OpenSpec.upto fnExactHostileServersSpec)

/-- 'laws.FnExactAllInboxes', WHERE WHAT IT READS IS OF BULK AT MOST 1048576: true; the input reads as it did. -/
def fnExactAllInboxesUptoRow : OpenClaim := { program := "ytfiaikmlnemnfaa", sum := "82c82a2d671467312d58524edf490f78232ac8e329584e15be8e0aa4c74975d2", func := "loop.example/g00516/laws.FnExactAllInboxes", spec := "fnExactAllInboxes", apart := false, narrowed := true }
def FnExactAllInboxesUptoSaid : Prop := fnExactAllInboxesUptoRow.holds Try.pinned (OpenSpec.upto fnExactAllInboxesSpec)

/-- 'laws.FnExactIsRoomy', WHERE WHAT IT READS IS OF BULK AT MOST 1048576: true; the input reads as it did. -/
def fnExactIsRoomyUptoRow : OpenClaim := { program := "ytfiaikmlnemnfaa", sum := "82c82a2d671467312d58524edf490f78232ac8e329584e15be8e0aa4c74975d2", func := "loop.example/g00516/laws.FnExactIsRoomy", spec := "fnExactIsRoomy", unfollowed := true, recurses := true, apart := false, narrowed := true }
def FnExactIsRoomyUptoSaid : Prop := fnExactIsRoomyUptoRow.holds Try.pinned (OpenSpec.upto fnExactIsRoomySpec)

/-- 'laws.FnExactSentIsReceived', WHERE WHAT IT READS IS OF BULK AT MOST 1048576: true; the input reads as it did. -/
def fnExactSentIsReceivedUptoRow : OpenClaim := { program := "ytfiaikmlnemnfaa", sum := "82c82a2d671467312d58524edf490f78232ac8e329584e15be8e0aa4c74975d2", func := "loop.example/g00516/laws.FnExactSentIsReceived", spec := "fnExactSentIsReceived", apart := false, narrowed := true }
def FnExactSentIsReceivedUptoSaid : Prop := fnExactSentIsReceivedUptoRow.holds Try.pinned (OpenSpec.upto fnExactSentIsReceivedSpec)

end Rows
end Go.Proofs.Ytfiaikmlnemnfaa
