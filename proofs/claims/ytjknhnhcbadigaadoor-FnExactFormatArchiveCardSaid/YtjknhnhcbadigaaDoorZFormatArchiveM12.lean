/-
  Sizes, and closed facts on types.
-/
import Derived.Test.YtjknhnhcbadigaaDoorZFormatArchiveM2
import Derived.Test.YtjknhnhcbadigaaDoorRows
namespace Go.Proofs.YtjknhnhcbadigaaDoor.C
set_option linter.all false
open Go.RowKit L D
def size_DB (x : DB) : Nat := (lsz List.length) x.rows
def size_ARound (x : ARound) : Nat := size_DB x.db
def size_Arc (x : Arc) : Nat := (lsz size_ARound) x.rounds
end Go.Proofs.YtjknhnhcbadigaaDoor.C
