/-
  Sizes, and closed facts on types.
-/
import Derived.Test.YtjknhnhcbadigaaDoorZFormatServerM2
import Derived.Test.YtjknhnhcbadigaaDoorRows
namespace Go.Proofs.YtjknhnhcbadigaaDoor.C
set_option linter.all false
open Go.RowKit L D
def size_DB (x : DB) : Nat := (lsz List.length) x.rows
def size_RShare (x : RShare) : Nat := size_DB x.share
def size_Srv (x : Srv) : Nat := (lsz size_RShare) x.received
end Go.Proofs.YtjknhnhcbadigaaDoor.C
