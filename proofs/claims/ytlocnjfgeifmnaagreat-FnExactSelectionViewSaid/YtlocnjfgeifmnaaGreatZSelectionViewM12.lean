/-
  Sizes, and closed facts on types.
-/
import Derived.Test.YtlocnjfgeifmnaaGreatZSelectionViewM2
import Derived.Test.YtlocnjfgeifmnaaGreatRows
namespace Go.Proofs.YtlocnjfgeifmnaaGreat.C
set_option linter.all false
open Go.RowKit L D
def size_DB (x : DB) : Nat := (lsz List.length) x.rows
def size_RShare (x : RShare) : Nat := size_DB x.share
def size_Srv (x : Srv) : Nat := (lsz size_RShare) x.received
def size_ARound (x : ARound) : Nat := size_DB x.db
def size_Arc (x : Arc) : Nat := (lsz size_ARound) x.rounds
def size_Cli (x : Cli) : Nat := (lsz List.length) x.submitted + (lsz List.length) x.inbox
def size_Dev (x : Dev) : Nat := size_Cli x.live + size_Cli x.saved
def size_Wld (x : Wld) : Nat := (lsz size_Srv) x.servers + (lsz size_Dev) x.devices + size_Arc x.archive + List.length x.replaced
def size_Rcp (x : Rcp) : Nat := 0
theorem infz_Byte_impl : (Tryz.prog.info? 5).map (fun i => (i.zero, i.size, i.bytes)) = some (some (.int .u8 0), 1, 1) := by kernel_rfl
theorem infz_Int_impl : (Tryz.prog.info? 3).map (fun i => (i.zero, i.size, i.bytes)) = some (some (.int .i64 0), 1, 8) := by kernel_rfl
theorem infz_ByteS_impl : (Tryz.prog.info? 62).map (fun i => (i.zero, i.size, i.bytes)) = some (some (.slice none 0 0), 1, 24) := by kernel_rfl
theorem row_DB_laws : IsRowT Tryz.prog 190 1 := ⟨_, Tryz.underlying190, rfl, by kernel_rfl⟩
theorem row_DB_impl : IsRowT Tryz.prog 105 1 := ⟨_, Tryz.underlying105, rfl, by kernel_rfl⟩
theorem row_RShare_laws : IsRowT Tryz.prog 224 2 := ⟨_, Tryz.underlying224, rfl, by kernel_rfl⟩
theorem row_RShare_impl : IsRowT Tryz.prog 176 2 := ⟨_, Tryz.underlying176, rfl, by kernel_rfl⟩
theorem infz_ReceivedShare_laws : (Tryz.prog.info? 224).map (fun i => (i.zero, i.size, i.bytes)) = some (some (.agg #[.int .i64 0, .slice none 0 0]), 2, 32) := by kernel_rfl
theorem infz_ReceivedShare_impl : (Tryz.prog.info? 176).map (fun i => (i.zero, i.size, i.bytes)) = some (some (.agg #[.int .i64 0, .slice none 0 0]), 2, 32) := by kernel_rfl
theorem row_Srv_laws : IsRowT Tryz.prog 131 5 := ⟨_, Tryz.underlying131, rfl, by kernel_rfl⟩
theorem row_Srv_impl : IsRowT Tryz.prog 115 5 := ⟨_, Tryz.underlying115, rfl, by kernel_rfl⟩
theorem row_ARound_laws : IsRowT Tryz.prog 192 2 := ⟨_, Tryz.underlying192, rfl, by kernel_rfl⟩
theorem row_ARound_impl : IsRowT Tryz.prog 159 2 := ⟨_, Tryz.underlying159, rfl, by kernel_rfl⟩
theorem infz_ArchivedRound_laws : (Tryz.prog.info? 192).map (fun i => (i.zero, i.size, i.bytes)) = some (some (.agg #[.int .i64 0, .slice none 0 0]), 2, 32) := by kernel_rfl
theorem infz_ArchivedRound_impl : (Tryz.prog.info? 159).map (fun i => (i.zero, i.size, i.bytes)) = some (some (.agg #[.int .i64 0, .slice none 0 0]), 2, 32) := by kernel_rfl
theorem row_Arc_laws : IsRowT Tryz.prog 26 2 := ⟨_, Tryz.underlying26, rfl, by kernel_rfl⟩
theorem row_Arc_impl : IsRowT Tryz.prog 36 2 := ⟨_, Tryz.underlying36, rfl, by kernel_rfl⟩
theorem row_Cli_laws : IsRowT Tryz.prog 133 8 := ⟨_, Tryz.underlying133, rfl, by kernel_rfl⟩
theorem row_Cli_impl : IsRowT Tryz.prog 84 8 := ⟨_, Tryz.underlying84, rfl, by kernel_rfl⟩
theorem row_Dev_laws : IsRowT Tryz.prog 135 16 := ⟨_, Tryz.underlying135, rfl, by kernel_rfl⟩
theorem row_Dev_impl : IsRowT Tryz.prog 86 16 := ⟨_, Tryz.underlying86, rfl, by kernel_rfl⟩
theorem infz_Server_laws : (Tryz.prog.info? 131).map (fun i => (i.zero, i.size, i.bytes)) = some (some (.agg #[.int .i64 0, .int .i64 0, .int .i64 0, .slice none 0 0, .int .i64 0]), 5, 56) := by kernel_rfl
theorem infz_Server_impl : (Tryz.prog.info? 115).map (fun i => (i.zero, i.size, i.bytes)) = some (some (.agg #[.int .i64 0, .int .i64 0, .int .i64 0, .slice none 0 0, .int .i64 0]), 5, 56) := by kernel_rfl
theorem infz_Device_laws : (Tryz.prog.info? 135).map (fun i => (i.zero, i.size, i.bytes)) = some (some (.agg #[.int .i64 0, .int .i64 0, .int .i64 0, .int .i64 0, .slice none 0 0, .int .i64 0, .slice none 0 0, .int .i64 0, .int .i64 0, .int .i64 0, .int .i64 0, .int .i64 0, .slice none 0 0, .int .i64 0, .slice none 0 0, .int .i64 0]), 16, 192) := by kernel_rfl
theorem infz_Device_impl : (Tryz.prog.info? 86).map (fun i => (i.zero, i.size, i.bytes)) = some (some (.agg #[.int .i64 0, .int .i64 0, .int .i64 0, .int .i64 0, .slice none 0 0, .int .i64 0, .slice none 0 0, .int .i64 0, .int .i64 0, .int .i64 0, .int .i64 0, .int .i64 0, .slice none 0 0, .int .i64 0, .slice none 0 0, .int .i64 0]), 16, 192) := by kernel_rfl
theorem row_Wld_laws : IsRowT Tryz.prog 29 10 := ⟨_, Tryz.underlying29, rfl, by kernel_rfl⟩
theorem row_Wld_impl : IsRowT Tryz.prog 38 10 := ⟨_, Tryz.underlying38, rfl, by kernel_rfl⟩
theorem row_Rcp_impl : IsRowT Tryz.prog 119 5 := ⟨_, Tryz.underlying119, rfl, by kernel_rfl⟩
theorem infz_Database_laws : (Tryz.prog.info? 190).map (fun i => (i.zero, i.size, i.bytes)) = some (some (.agg #[.slice none 0 0]), 1, 24) := by kernel_rfl
theorem infz_Database_impl : (Tryz.prog.info? 105).map (fun i => (i.zero, i.size, i.bytes)) = some (some (.agg #[.slice none 0 0]), 1, 24) := by kernel_rfl
theorem infz_Receipt_impl : (Tryz.prog.info? 119).map (fun i => (i.zero, i.size, i.bytes)) = some (some (.agg #[.int .i64 0, .int .i64 0, .int .i64 0, .int .i64 0, .int .i64 0]), 5, 40) := by kernel_rfl
end Go.Proofs.YtlocnjfgeifmnaaGreat.C
