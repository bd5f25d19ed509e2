/-
  Sizes, and closed facts on types.
-/
import Derived.Test.YtlocnjfgeifmnaaZLinkableRowsM2
import Derived.Test.YtlocnjfgeifmnaaRows
namespace Go.Proofs.Ytlocnjfgeifmnaa.C
set_option linter.all false
open Go.RowKit L D
def size_DB (x : DB) : Nat := (lsz List.length) x.rows
def size_RShare (x : RShare) : Nat := size_DB x.share
def size_Srv (x : Srv) : Nat := (lsz size_RShare) x.received
def size_ARound (x : ARound) : Nat := size_DB x.db
def size_Arc (x : Arc) : Nat := (lsz size_ARound) x.rounds
def size_Cli (x : Cli) : Nat := (lsz List.length) x.submitted + (lsz List.length) x.inbox
def size_Dev (x : Dev) : Nat := size_Cli x.live + size_Cli x.saved
def size_Wld (x : Wld) : Nat := (lsz size_Srv) x.servers + (lsz size_Dev) x.devices + size_Arc x.archive + List.length x.replaced
def size_Trf (x : Trf) : Nat := 0
theorem infz_Byte_impl : (Try.prog.info? 5).map (fun i => (i.zero, i.size, i.bytes)) = some (some (.int .u8 0), 1, 1) := by kernel_rfl
theorem infz_Int_impl : (Try.prog.info? 3).map (fun i => (i.zero, i.size, i.bytes)) = some (some (.int .i64 0), 1, 8) := by kernel_rfl
theorem infz_ByteS_impl : (Try.prog.info? 129).map (fun i => (i.zero, i.size, i.bytes)) = some (some (.slice none 0 0), 1, 24) := by kernel_rfl
theorem row_DB_laws : IsRowT Try.prog 114 1 := ⟨_, Try.underlying114, rfl, by kernel_rfl⟩
theorem row_DB_impl : IsRowT Try.prog 119 1 := ⟨_, Try.underlying119, rfl, by kernel_rfl⟩
theorem row_RShare_laws : IsRowT Try.prog 137 2 := ⟨_, Try.underlying137, rfl, by kernel_rfl⟩
theorem row_RShare_impl : IsRowT Try.prog 127 2 := ⟨_, Try.underlying127, rfl, by kernel_rfl⟩
theorem infz_ReceivedShare_laws : (Try.prog.info? 137).map (fun i => (i.zero, i.size, i.bytes)) = some (some (.agg #[.int .i64 0, .slice none 0 0]), 2, 32) := by kernel_rfl
theorem infz_ReceivedShare_impl : (Try.prog.info? 127).map (fun i => (i.zero, i.size, i.bytes)) = some (some (.agg #[.int .i64 0, .slice none 0 0]), 2, 32) := by kernel_rfl
theorem row_Srv_laws : IsRowT Try.prog 82 5 := ⟨_, Try.underlying82, rfl, by kernel_rfl⟩
theorem row_Srv_impl : IsRowT Try.prog 91 5 := ⟨_, Try.underlying91, rfl, by kernel_rfl⟩
theorem row_ARound_laws : IsRowT Try.prog 116 2 := ⟨_, Try.underlying116, rfl, by kernel_rfl⟩
theorem row_ARound_impl : IsRowT Try.prog 121 2 := ⟨_, Try.underlying121, rfl, by kernel_rfl⟩
theorem infz_ArchivedRound_laws : (Try.prog.info? 116).map (fun i => (i.zero, i.size, i.bytes)) = some (some (.agg #[.int .i64 0, .slice none 0 0]), 2, 32) := by kernel_rfl
theorem infz_ArchivedRound_impl : (Try.prog.info? 121).map (fun i => (i.zero, i.size, i.bytes)) = some (some (.agg #[.int .i64 0, .slice none 0 0]), 2, 32) := by kernel_rfl
theorem row_Arc_laws : IsRowT Try.prog 26 2 := ⟨_, Try.underlying26, rfl, by kernel_rfl⟩
theorem row_Arc_impl : IsRowT Try.prog 37 2 := ⟨_, Try.underlying37, rfl, by kernel_rfl⟩
theorem row_Cli_laws : IsRowT Try.prog 84 8 := ⟨_, Try.underlying84, rfl, by kernel_rfl⟩
theorem row_Cli_impl : IsRowT Try.prog 74 8 := ⟨_, Try.underlying74, rfl, by kernel_rfl⟩
theorem row_Dev_laws : IsRowT Try.prog 86 16 := ⟨_, Try.underlying86, rfl, by kernel_rfl⟩
theorem row_Dev_impl : IsRowT Try.prog 76 16 := ⟨_, Try.underlying76, rfl, by kernel_rfl⟩
theorem infz_Server_laws : (Try.prog.info? 82).map (fun i => (i.zero, i.size, i.bytes)) = some (some (.agg #[.int .i64 0, .int .i64 0, .int .i64 0, .slice none 0 0, .int .i64 0]), 5, 56) := by kernel_rfl
theorem infz_Server_impl : (Try.prog.info? 91).map (fun i => (i.zero, i.size, i.bytes)) = some (some (.agg #[.int .i64 0, .int .i64 0, .int .i64 0, .slice none 0 0, .int .i64 0]), 5, 56) := by kernel_rfl
theorem infz_Device_laws : (Try.prog.info? 86).map (fun i => (i.zero, i.size, i.bytes)) = some (some (.agg #[.int .i64 0, .int .i64 0, .int .i64 0, .int .i64 0, .slice none 0 0, .int .i64 0, .slice none 0 0, .int .i64 0, .int .i64 0, .int .i64 0, .int .i64 0, .int .i64 0, .slice none 0 0, .int .i64 0, .slice none 0 0, .int .i64 0]), 16, 192) := by kernel_rfl
theorem infz_Device_impl : (Try.prog.info? 76).map (fun i => (i.zero, i.size, i.bytes)) = some (some (.agg #[.int .i64 0, .int .i64 0, .int .i64 0, .int .i64 0, .slice none 0 0, .int .i64 0, .slice none 0 0, .int .i64 0, .int .i64 0, .int .i64 0, .int .i64 0, .int .i64 0, .slice none 0 0, .int .i64 0, .slice none 0 0, .int .i64 0]), 16, 192) := by kernel_rfl
theorem row_Wld_laws : IsRowT Try.prog 29 10 := ⟨_, Try.underlying29, rfl, by kernel_rfl⟩
theorem row_Wld_impl : IsRowT Try.prog 39 10 := ⟨_, Try.underlying39, rfl, by kernel_rfl⟩
theorem row_Trf_impl : IsRowT Try.prog 61 3 := ⟨_, Try.underlying61, rfl, by kernel_rfl⟩
theorem infz_Transfer_impl : (Try.prog.info? 61).map (fun i => (i.zero, i.size, i.bytes)) = some (some (.agg #[.int .i64 0, .int .i64 0, .int .i64 0]), 3, 24) := by kernel_rfl
end Go.Proofs.Ytlocnjfgeifmnaa.C
