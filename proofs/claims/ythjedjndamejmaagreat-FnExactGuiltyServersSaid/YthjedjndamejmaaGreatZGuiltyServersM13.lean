/-
  Sizes, and closed facts on types.
-/
import Derived.Test.YthjedjndamejmaaGreatZGuiltyServersM2
import Derived.Test.YthjedjndamejmaaGreatRows
namespace Go.Proofs.YthjedjndamejmaaGreat.C
set_option linter.all false
open Go.RowKit L D
def size_DB (x : DB) : Nat := (lsz List.length) x.rows
def size_RShare (x : RShare) : Nat := size_DB x.share
def size_Srv (x : Srv) : Nat := (lsz size_RShare) x.received
def size_ARound (x : ARound) : Nat := size_DB x.db
def size_Arc (x : Arc) : Nat := (lsz size_ARound) x.rounds
def size_Cli (x : Cli) : Nat := (lsz List.length) x.submitted + (lsz List.length) x.inbox
def size_Dev (x : Dev) : Nat := size_Cli x.live + size_Cli x.saved
def size_Wld (x : Wld) : Nat := (lsz size_Srv) x.servers + (lsz size_Dev) x.devices + size_Arc x.archive + List.length x.replaced
end Go.Proofs.YthjedjndamejmaaGreat.C
