/-
  Sizes, and closed facts on types.
-/
import Derived.Test.YthlflnplnajjiaaL4
import Derived.Test.YthlflnplnajjiaaRows
namespace Go.Proofs.Ythlflnplnajjiaa.C
set_option linter.all false
open Go.RowKit L D
def size_Ev (x : Ev) : Nat := List.length x.body
theorem infz_Byte_impl : (Try.prog.info? 5).map (fun i => (i.zero, i.size, i.bytes)) = some (some (.int .u8 0), 1, 1) := by kernel_rfl
theorem infz_Int_impl : (Try.prog.info? 3).map (fun i => (i.zero, i.size, i.bytes)) = some (some (.int .i64 0), 1, 8) := by kernel_rfl
theorem infz_ByteS_impl : (Try.prog.info? 30).map (fun i => (i.zero, i.size, i.bytes)) = some (some (.slice none 0 0), 1, 24) := by kernel_rfl
theorem row_Ev_laws : IsRowT Try.prog 54 4 := ⟨_, Try.underlying54, rfl, by kernel_rfl⟩
theorem row_Ev_impl : IsRowT Try.prog 55 4 := ⟨_, Try.underlying55, rfl, by kernel_rfl⟩
theorem infz_Event_laws : (Try.prog.info? 54).map (fun i => (i.zero, i.size, i.bytes)) = some (some (.agg #[.int .i64 0, .int .i64 0, .int .i64 0, .slice none 0 0]), 4, 48) := by kernel_rfl
theorem infz_Event_impl : (Try.prog.info? 55).map (fun i => (i.zero, i.size, i.bytes)) = some (some (.agg #[.int .i64 0, .int .i64 0, .int .i64 0, .slice none 0 0]), 4, 48) := by kernel_rfl
end Go.Proofs.Ythlflnplnajjiaa.C
