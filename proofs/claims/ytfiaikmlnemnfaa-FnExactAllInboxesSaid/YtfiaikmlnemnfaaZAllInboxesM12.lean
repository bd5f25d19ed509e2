/-
  Sizes, and closed facts on types.
-/
import Derived.Test.YtfiaikmlnemnfaaZAllInboxesM2
import Derived.Test.YtfiaikmlnemnfaaRows
namespace Go.Proofs.Ytfiaikmlnemnfaa.C
set_option linter.all false
open Go.RowKit L D
def size_DB (x : DB) : Nat := (lsz List.length) x.rows
def size_RShare (x : RShare) : Nat := size_DB x.share
def size_Srv (x : Srv) : Nat := (lsz size_RShare) x.received
def size_ARound (x : ARound) : Nat := size_DB x.db
def size_Arc (x : Arc) : Nat := (lsz size_ARound) x.rounds
def size_Cli (x : Cli) : Nat := (lsz List.length) x.submitted + (lsz List.length) x.inbox
def size_Dev (x : Dev) : Nat := size_Cli x.live + size_Cli x.saved
def size_Wld (x : Wld) : Nat := (lsz size_Srv) x.servers + (lsz size_Dev) x.devices + size_Arc x.archive + List.length x.replaced
theorem infz_Byte_impl : (Try.prog.info? 5).map (fun i => (i.zero, i.size, i.bytes)) = some (some (.int .u8 0), 1, 1) := by kernel_rfl
theorem infz_Int_impl : (Try.prog.info? 3).map (fun i => (i.zero, i.size, i.bytes)) = some (some (.int .i64 0), 1, 8) := by kernel_rfl
theorem infz_ByteS_impl : (Try.prog.info? 76).map (fun i => (i.zero, i.size, i.bytes)) = some (some (.slice none 0 0), 1, 24) := by kernel_rfl
theorem row_DB_laws : IsRowT Try.prog 132 1 := ⟨_, Try.underlying132, rfl, by kernel_rfl⟩
theorem row_DB_impl : IsRowT Try.prog 71 1 := ⟨_, Try.underlying71, rfl, by kernel_rfl⟩
theorem row_RShare_laws : IsRowT Try.prog 158 2 := ⟨_, Try.underlying158, rfl, by kernel_rfl⟩
theorem row_RShare_impl : IsRowT Try.prog 144 2 := ⟨_, Try.underlying144, rfl, by kernel_rfl⟩
theorem infz_ReceivedShare_laws : (Try.prog.info? 158).map (fun i => (i.zero, i.size, i.bytes)) = some (some (.agg #[.int .i64 0, .slice none 0 0]), 2, 32) := by kernel_rfl
theorem infz_ReceivedShare_impl : (Try.prog.info? 144).map (fun i => (i.zero, i.size, i.bytes)) = some (some (.agg #[.int .i64 0, .slice none 0 0]), 2, 32) := by kernel_rfl
theorem row_Srv_laws : IsRowT Try.prog 96 5 := ⟨_, Try.underlying96, rfl, by kernel_rfl⟩
theorem row_Srv_impl : IsRowT Try.prog 81 5 := ⟨_, Try.underlying81, rfl, by kernel_rfl⟩
theorem row_ARound_laws : IsRowT Try.prog 134 2 := ⟨_, Try.underlying134, rfl, by kernel_rfl⟩
theorem row_ARound_impl : IsRowT Try.prog 73 2 := ⟨_, Try.underlying73, rfl, by kernel_rfl⟩
theorem infz_ArchivedRound_laws : (Try.prog.info? 134).map (fun i => (i.zero, i.size, i.bytes)) = some (some (.agg #[.int .i64 0, .slice none 0 0]), 2, 32) := by kernel_rfl
theorem infz_ArchivedRound_impl : (Try.prog.info? 73).map (fun i => (i.zero, i.size, i.bytes)) = some (some (.agg #[.int .i64 0, .slice none 0 0]), 2, 32) := by kernel_rfl
theorem row_Arc_laws : IsRowT Try.prog 26 2 := ⟨_, Try.underlying26, rfl, by kernel_rfl⟩
theorem row_Arc_impl : IsRowT Try.prog 36 2 := ⟨_, Try.underlying36, rfl, by kernel_rfl⟩
theorem row_Cli_laws : IsRowT Try.prog 98 8 := ⟨_, Try.underlying98, rfl, by kernel_rfl⟩
theorem row_Cli_impl : IsRowT Try.prog 66 8 := ⟨_, Try.underlying66, rfl, by kernel_rfl⟩
theorem row_Dev_laws : IsRowT Try.prog 100 16 := ⟨_, Try.underlying100, rfl, by kernel_rfl⟩
theorem row_Dev_impl : IsRowT Try.prog 68 16 := ⟨_, Try.underlying68, rfl, by kernel_rfl⟩
theorem infz_Server_laws : (Try.prog.info? 96).map (fun i => (i.zero, i.size, i.bytes)) = some (some (.agg #[.int .i64 0, .int .i64 0, .int .i64 0, .slice none 0 0, .int .i64 0]), 5, 56) := by kernel_rfl
theorem infz_Server_impl : (Try.prog.info? 81).map (fun i => (i.zero, i.size, i.bytes)) = some (some (.agg #[.int .i64 0, .int .i64 0, .int .i64 0, .slice none 0 0, .int .i64 0]), 5, 56) := by kernel_rfl
theorem infz_Device_laws : (Try.prog.info? 100).map (fun i => (i.zero, i.size, i.bytes)) = some (some (.agg #[.int .i64 0, .int .i64 0, .int .i64 0, .int .i64 0, .slice none 0 0, .int .i64 0, .slice none 0 0, .int .i64 0, .int .i64 0, .int .i64 0, .int .i64 0, .int .i64 0, .slice none 0 0, .int .i64 0, .slice none 0 0, .int .i64 0]), 16, 192) := by kernel_rfl
theorem infz_Device_impl : (Try.prog.info? 68).map (fun i => (i.zero, i.size, i.bytes)) = some (some (.agg #[.int .i64 0, .int .i64 0, .int .i64 0, .int .i64 0, .slice none 0 0, .int .i64 0, .slice none 0 0, .int .i64 0, .int .i64 0, .int .i64 0, .int .i64 0, .int .i64 0, .slice none 0 0, .int .i64 0, .slice none 0 0, .int .i64 0]), 16, 192) := by kernel_rfl
theorem row_Wld_laws : IsRowT Try.prog 29 10 := ⟨_, Try.underlying29, rfl, by kernel_rfl⟩
theorem row_Wld_impl : IsRowT Try.prog 38 10 := ⟨_, Try.underlying38, rfl, by kernel_rfl⟩
end Go.Proofs.Ytfiaikmlnemnfaa.C
