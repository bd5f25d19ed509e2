/-
  Which data are valid. No program in sight.
-/
import Derived.Test.YtjknhnhcbadigaaDoorZFormatTransfersM8
import Derived.Test.YtjknhnhcbadigaaDoorRows
import Derived.KernelRfl
namespace Go.Proofs.YtjknhnhcbadigaaDoor.G
set_option linter.all false
open Go.RowKit L D

theorem inf_3 : (Tryd.prog.info? 3).map (fun i => (i.zero, i.size, i.bytes)) = some (some (.int .i64 0), 1, 8) := by kernel_rfl
theorem inf_5 : (Tryd.prog.info? 5).map (fun i => (i.zero, i.size, i.bytes)) = some (some (.int .u8 0), 1, 1) := by kernel_rfl
theorem inf_9 : (Tryd.prog.info? 9).map (fun i => (i.zero, i.size, i.bytes)) = some (some (.string ⟨#[]⟩), 1, 16) := by kernel_rfl
theorem inf_109 : (Tryd.prog.info? 109).map (fun i => (i.zero, i.size, i.bytes)) = some (some (.slice none 0 0), 1, 24) := by kernel_rfl
theorem inf_62 : (Tryd.prog.info? 62).map (fun i => (i.zero, i.size, i.bytes)) = some (some (.slice none 0 0), 1, 24) := by kernel_rfl
theorem inf_22 : (Tryd.prog.info? 22).map (fun i => (i.zero, i.size, i.bytes)) = some (some (.slice none 0 0), 1, 24) := by kernel_rfl
theorem inf_92 : (Tryd.prog.info? 92).map (fun i => (i.zero, i.size, i.bytes)) = some (some (.agg #[.slice none 0 0]), 1, 24) := by kernel_rfl
theorem inf_113 : (Tryd.prog.info? 113).map (fun i => (i.zero, i.size, i.bytes)) = some (some (.agg #[.slice none 0 0]), 1, 24) := by kernel_rfl
theorem inf_117 : (Tryd.prog.info? 117).map (fun i => (i.zero, i.size, i.bytes)) = some (some (.agg #[.int .i64 0, .slice none 0 0]), 2, 32) := by kernel_rfl
theorem inf_115 : (Tryd.prog.info? 115).map (fun i => (i.zero, i.size, i.bytes)) = some (some (.agg #[.int .i64 0, .slice none 0 0]), 2, 32) := by kernel_rfl
theorem inf_45 : (Tryd.prog.info? 45).map (fun i => (i.zero, i.size, i.bytes)) = some (some (.agg #[.int .i64 0, .int .i64 0, .int .i64 0, .slice none 0 0, .int .i64 0]), 5, 56) := by kernel_rfl
theorem inf_40 : (Tryd.prog.info? 40).map (fun i => (i.zero, i.size, i.bytes)) = some (some (.agg #[.int .i64 0, .int .i64 0, .int .i64 0, .slice none 0 0, .int .i64 0]), 5, 56) := by kernel_rfl
theorem inf_94 : (Tryd.prog.info? 94).map (fun i => (i.zero, i.size, i.bytes)) = some (some (.agg #[.int .i64 0, .slice none 0 0]), 2, 32) := by kernel_rfl
theorem inf_122 : (Tryd.prog.info? 122).map (fun i => (i.zero, i.size, i.bytes)) = some (some (.agg #[.int .i64 0, .slice none 0 0]), 2, 32) := by kernel_rfl
theorem inf_56 : (Tryd.prog.info? 56).map (fun i => (i.zero, i.size, i.bytes)) = some (some (.agg #[.int .i64 0, .slice none 0 0]), 2, 32) := by kernel_rfl
theorem inf_51 : (Tryd.prog.info? 51).map (fun i => (i.zero, i.size, i.bytes)) = some (some (.agg #[.int .i64 0, .slice none 0 0]), 2, 32) := by kernel_rfl
theorem inf_27 : (Tryd.prog.info? 27).map (fun i => (i.zero, i.size, i.bytes)) = some (some (.agg #[.int .i64 0, .int .i64 0, .int .i64 0, .int .i64 0, .slice none 0 0, .int .i64 0, .slice none 0 0, .int .i64 0]), 8, 96) := by kernel_rfl
theorem inf_24 : (Tryd.prog.info? 24).map (fun i => (i.zero, i.size, i.bytes)) = some (some (.agg #[.int .i64 0, .int .i64 0, .int .i64 0, .int .i64 0, .slice none 0 0, .int .i64 0, .slice none 0 0, .int .i64 0]), 8, 96) := by kernel_rfl
theorem inf_131 : (Tryd.prog.info? 131).map (fun i => (i.zero, i.size, i.bytes)) = some (some (.agg #[.int .i64 0, .int .i64 0, .int .i64 0, .int .i64 0, .slice none 0 0, .int .i64 0, .slice none 0 0, .int .i64 0, .int .i64 0, .int .i64 0, .int .i64 0, .int .i64 0, .slice none 0 0, .int .i64 0, .slice none 0 0, .int .i64 0]), 16, 192) := by kernel_rfl
theorem inf_128 : (Tryd.prog.info? 128).map (fun i => (i.zero, i.size, i.bytes)) = some (some (.agg #[.int .i64 0, .int .i64 0, .int .i64 0, .int .i64 0, .slice none 0 0, .int .i64 0, .slice none 0 0, .int .i64 0, .int .i64 0, .int .i64 0, .int .i64 0, .int .i64 0, .slice none 0 0, .int .i64 0, .slice none 0 0, .int .i64 0]), 16, 192) := by kernel_rfl
theorem inf_70 : (Tryd.prog.info? 70).map (fun i => (i.zero, i.size, i.bytes)) = some (some (.agg #[.int .i64 0, .slice none 0 0, .slice none 0 0, .int .i64 0, .slice none 0 0, .int .i64 0, .int .i64 0, .int .i64 0, .slice none 0 0, .int .i64 0]), 10, 144) := by kernel_rfl
theorem inf_64 : (Tryd.prog.info? 64).map (fun i => (i.zero, i.size, i.bytes)) = some (some (.agg #[.int .i64 0, .slice none 0 0, .slice none 0 0, .int .i64 0, .slice none 0 0, .int .i64 0, .int .i64 0, .int .i64 0, .slice none 0 0, .int .i64 0]), 10, 144) := by kernel_rfl
theorem inf_79 : (Tryd.prog.info? 79).map (fun i => (i.zero, i.size, i.bytes)) = some (some (.agg #[.int .i64 0, .int .i64 0, .int .i64 0]), 3, 24) := by kernel_rfl
theorem inf_81 : (Tryd.prog.info? 81).map (fun i => (i.zero, i.size, i.bytes)) = some (some (.agg #[.int .i64 0, .int .i64 0, .int .i64 0]), 3, 24) := by kernel_rfl
theorem sz_of {P : Program} {i : Nat} {z : Option Value} {k b : Nat} (h : (P.info? i).map (fun i => (i.zero, i.size, i.bytes)) = some (z, k, b)) : (P.info? i).map (·.size) = some k := by
  cases hq : P.info? i with
  | none => simp [hq] at h
  | some x => simp [hq] at h; simp [h]
theorem sz_z_of {P : Program} {i : Nat} {z : Option Value} {k b : Nat} (h : (P.info? i).map (fun i => (i.zero, i.size, i.bytes)) = some (z, k, b)) : (P.info? i).map (fun i => (i.size, i.zero)) = some (k, z) := by
  cases hq : P.info? i with
  | none => simp [hq] at h
  | some x => simp [hq] at h; simp [h]
theorem st_ok {P : Program} {t : Nat} {z : List Value} {tg : List (Option Tag)} {fo : List Nat} {fs : Array Field} {b : Nat} (hu : P.underlying t = some (.struct fs)) (hi : (P.info? t).map (fun i => (i.zero, i.size, i.bytes)) = some (some (.agg z.toArray), z.length, b)) (hz : z.all (·.oneCell') = true) (hf : fieldsok P z.length fs.toList fo = true) : TKok P t (.st z tg fo) :=
  ⟨fs, hu, sz_z_of hi, fun v hv => List.all_eq_true.1 hz v hv, fun f k h => by obtain ⟨fd, h1, h2⟩ := (fieldsok_ok hf).1 f k h; exact ⟨fd, by simpa using h1, h2⟩, (fieldsok_ok hf).2⟩
theorem one_of {P : Program} {i : Nat} (h : (P.info? i).map (fun i => Nat.beq i.size 1) = some true) : (P.info? i).map (·.size) = some 1 := by
  cases hq : P.info? i with
  | none => simp [hq] at h
  | some x => simp [hq] at h; simp [h]
def tys : List (Nat × TK) := [(3, .int .i64),
  (2, .int .i64),
  (21, .int .i32),
  (5, .int .u8),
  (164, .int .u32),
  (167, .int .u64),
  (153, .int .u64),
  (12, .int .u64),
  (4, .bool),
  (9, .str),
  (92, .st [.slice none 0 0] [some (.sl .u8)] [0]),
  (113, .st [.slice none 0 0] [some (.sl .u8)] [0]),
  (117, .st [.int .i64 0, .slice none 0 0] [none, some (.sl .u8)] [0, 1]),
  (115, .st [.int .i64 0, .slice none 0 0] [none, some (.sl .u8)] [0, 1]),
  (45, .st [.int .i64 0, .int .i64 0, .int .i64 0, .slice none 0 0, .int .i64 0] [none, none, none, some .RShare, none] [0, 1, 2, 3, 4]),
  (40, .st [.int .i64 0, .int .i64 0, .int .i64 0, .slice none 0 0, .int .i64 0] [none, none, none, some .RShare, none] [0, 1, 2, 3, 4]),
  (94, .st [.int .i64 0, .slice none 0 0] [none, some (.sl .u8)] [0, 1]),
  (122, .st [.int .i64 0, .slice none 0 0] [none, some (.sl .u8)] [0, 1]),
  (56, .st [.int .i64 0, .slice none 0 0] [none, some .ARound] [0, 1]),
  (51, .st [.int .i64 0, .slice none 0 0] [none, some .ARound] [0, 1]),
  (27, .st [.int .i64 0, .int .i64 0, .int .i64 0, .int .i64 0, .slice none 0 0, .int .i64 0, .slice none 0 0, .int .i64 0] [none, none, none, none, some (.sl .u8), none, some (.sl .u8), none] [0, 1, 2, 3, 4, 5, 6, 7]),
  (24, .st [.int .i64 0, .int .i64 0, .int .i64 0, .int .i64 0, .slice none 0 0, .int .i64 0, .slice none 0 0, .int .i64 0] [none, none, none, none, some (.sl .u8), none, some (.sl .u8), none] [0, 1, 2, 3, 4, 5, 6, 7]),
  (131, .st [.int .i64 0, .int .i64 0, .int .i64 0, .int .i64 0, .slice none 0 0, .int .i64 0, .slice none 0 0, .int .i64 0, .int .i64 0, .int .i64 0, .int .i64 0, .int .i64 0, .slice none 0 0, .int .i64 0, .slice none 0 0, .int .i64 0] [none, none, none, none, some (.sl .u8), none, some (.sl .u8), none, none, none, none, none, some (.sl .u8), none, some (.sl .u8), none] [0, 8]),
  (128, .st [.int .i64 0, .int .i64 0, .int .i64 0, .int .i64 0, .slice none 0 0, .int .i64 0, .slice none 0 0, .int .i64 0, .int .i64 0, .int .i64 0, .int .i64 0, .int .i64 0, .slice none 0 0, .int .i64 0, .slice none 0 0, .int .i64 0] [none, none, none, none, some (.sl .u8), none, some (.sl .u8), none, none, none, none, none, some (.sl .u8), none, some (.sl .u8), none] [0, 8]),
  (70, .st [.int .i64 0, .slice none 0 0, .slice none 0 0, .int .i64 0, .slice none 0 0, .int .i64 0, .int .i64 0, .int .i64 0, .slice none 0 0, .int .i64 0] [none, some .Srv, some .Dev, none, some .ARound, none, none, none, some .int, none] [0, 1, 2, 3, 5, 6, 7, 8, 9]),
  (64, .st [.int .i64 0, .slice none 0 0, .slice none 0 0, .int .i64 0, .slice none 0 0, .int .i64 0, .int .i64 0, .int .i64 0, .slice none 0 0, .int .i64 0] [none, some .Srv, some .Dev, none, some .ARound, none, none, none, some .int, none] [0, 1, 2, 3, 5, 6, 7, 8, 9]),
  (79, .st [.int .i64 0, .int .i64 0, .int .i64 0] [none, none, none] [0, 1, 2]),
  (81, .st [.int .i64 0, .int .i64 0, .int .i64 0] [none, none, none] [0, 1, 2]),
  (62, .sl .int 3),
  (109, .sl .u8 5),
  (82, .sl .str 9),
  (22, .sl (.sl .u8) 109),
  (43, .sl .RShare 117),
  (38, .sl .RShare 115),
  (67, .sl .Srv 45),
  (60, .sl .Srv 40),
  (54, .sl .ARound 94),
  (49, .sl .ARound 122),
  (68, .sl .Dev 131),
  (61, .sl .Dev 128),
  (34, .sl .Trf 79),
  (31, .sl .Trf 81)]
def Γ (t : Nat) : TK := match look tys t with | some k => k | none => .other
def ty : Tag → Nat
  | .int => 3
  | .u8 => 5
  | .str => 9
  | (.sl .u8) => 109
  | (.sl .int) => 62
  | (.sl (.sl .u8)) => 22
  | .DB => 92
  | .RShare => 117
  | .Srv => 45
  | .ARound => 94
  | .Arc => 56
  | .Cli => 27
  | .Dev => 131
  | .Wld => 70
  | .Trf => 79
  | _ => 1000000000
theorem kind_3 : TKok Tryd.prog 3 (.int .i64) := Tryd.underlying3
theorem kind_2 : TKok Tryd.prog 2 (.int .i64) := Tryd.underlying2
theorem kind_21 : TKok Tryd.prog 21 (.int .i32) := Tryd.underlying21
theorem kind_5 : TKok Tryd.prog 5 (.int .u8) := Tryd.underlying5
theorem kind_164 : TKok Tryd.prog 164 (.int .u32) := Tryd.underlying164
theorem kind_167 : TKok Tryd.prog 167 (.int .u64) := Tryd.underlying167
theorem kind_153 : TKok Tryd.prog 153 (.int .u64) := Tryd.underlying153
theorem kind_12 : TKok Tryd.prog 12 (.int .u64) := Tryd.underlying12
theorem kind_4 : TKok Tryd.prog 4 (.bool) := Tryd.underlying4
theorem kind_9 : TKok Tryd.prog 9 (.str) := Tryd.underlying9
theorem kind_92 : TKok Tryd.prog 92 (.st [.slice none 0 0] [some (.sl .u8)] [0]) := st_ok Tryd.underlying92 inf_92 rfl (by kernel_rfl)
theorem kind_113 : TKok Tryd.prog 113 (.st [.slice none 0 0] [some (.sl .u8)] [0]) := st_ok Tryd.underlying113 inf_113 rfl (by kernel_rfl)
theorem kind_117 : TKok Tryd.prog 117 (.st [.int .i64 0, .slice none 0 0] [none, some (.sl .u8)] [0, 1]) := st_ok Tryd.underlying117 inf_117 rfl (by kernel_rfl)
theorem kind_115 : TKok Tryd.prog 115 (.st [.int .i64 0, .slice none 0 0] [none, some (.sl .u8)] [0, 1]) := st_ok Tryd.underlying115 inf_115 rfl (by kernel_rfl)
theorem kind_45 : TKok Tryd.prog 45 (.st [.int .i64 0, .int .i64 0, .int .i64 0, .slice none 0 0, .int .i64 0] [none, none, none, some .RShare, none] [0, 1, 2, 3, 4]) := st_ok Tryd.underlying45 inf_45 rfl (by kernel_rfl)
theorem kind_40 : TKok Tryd.prog 40 (.st [.int .i64 0, .int .i64 0, .int .i64 0, .slice none 0 0, .int .i64 0] [none, none, none, some .RShare, none] [0, 1, 2, 3, 4]) := st_ok Tryd.underlying40 inf_40 rfl (by kernel_rfl)
theorem kind_94 : TKok Tryd.prog 94 (.st [.int .i64 0, .slice none 0 0] [none, some (.sl .u8)] [0, 1]) := st_ok Tryd.underlying94 inf_94 rfl (by kernel_rfl)
theorem kind_122 : TKok Tryd.prog 122 (.st [.int .i64 0, .slice none 0 0] [none, some (.sl .u8)] [0, 1]) := st_ok Tryd.underlying122 inf_122 rfl (by kernel_rfl)
theorem kind_56 : TKok Tryd.prog 56 (.st [.int .i64 0, .slice none 0 0] [none, some .ARound] [0, 1]) := st_ok Tryd.underlying56 inf_56 rfl (by kernel_rfl)
theorem kind_51 : TKok Tryd.prog 51 (.st [.int .i64 0, .slice none 0 0] [none, some .ARound] [0, 1]) := st_ok Tryd.underlying51 inf_51 rfl (by kernel_rfl)
theorem kind_27 : TKok Tryd.prog 27 (.st [.int .i64 0, .int .i64 0, .int .i64 0, .int .i64 0, .slice none 0 0, .int .i64 0, .slice none 0 0, .int .i64 0] [none, none, none, none, some (.sl .u8), none, some (.sl .u8), none] [0, 1, 2, 3, 4, 5, 6, 7]) := st_ok Tryd.underlying27 inf_27 rfl (by kernel_rfl)
theorem kind_24 : TKok Tryd.prog 24 (.st [.int .i64 0, .int .i64 0, .int .i64 0, .int .i64 0, .slice none 0 0, .int .i64 0, .slice none 0 0, .int .i64 0] [none, none, none, none, some (.sl .u8), none, some (.sl .u8), none] [0, 1, 2, 3, 4, 5, 6, 7]) := st_ok Tryd.underlying24 inf_24 rfl (by kernel_rfl)
theorem kind_131 : TKok Tryd.prog 131 (.st [.int .i64 0, .int .i64 0, .int .i64 0, .int .i64 0, .slice none 0 0, .int .i64 0, .slice none 0 0, .int .i64 0, .int .i64 0, .int .i64 0, .int .i64 0, .int .i64 0, .slice none 0 0, .int .i64 0, .slice none 0 0, .int .i64 0] [none, none, none, none, some (.sl .u8), none, some (.sl .u8), none, none, none, none, none, some (.sl .u8), none, some (.sl .u8), none] [0, 8]) := st_ok Tryd.underlying131 inf_131 rfl (by kernel_rfl)
theorem kind_128 : TKok Tryd.prog 128 (.st [.int .i64 0, .int .i64 0, .int .i64 0, .int .i64 0, .slice none 0 0, .int .i64 0, .slice none 0 0, .int .i64 0, .int .i64 0, .int .i64 0, .int .i64 0, .int .i64 0, .slice none 0 0, .int .i64 0, .slice none 0 0, .int .i64 0] [none, none, none, none, some (.sl .u8), none, some (.sl .u8), none, none, none, none, none, some (.sl .u8), none, some (.sl .u8), none] [0, 8]) := st_ok Tryd.underlying128 inf_128 rfl (by kernel_rfl)
theorem kind_70 : TKok Tryd.prog 70 (.st [.int .i64 0, .slice none 0 0, .slice none 0 0, .int .i64 0, .slice none 0 0, .int .i64 0, .int .i64 0, .int .i64 0, .slice none 0 0, .int .i64 0] [none, some .Srv, some .Dev, none, some .ARound, none, none, none, some .int, none] [0, 1, 2, 3, 5, 6, 7, 8, 9]) := st_ok Tryd.underlying70 inf_70 rfl (by kernel_rfl)
theorem kind_64 : TKok Tryd.prog 64 (.st [.int .i64 0, .slice none 0 0, .slice none 0 0, .int .i64 0, .slice none 0 0, .int .i64 0, .int .i64 0, .int .i64 0, .slice none 0 0, .int .i64 0] [none, some .Srv, some .Dev, none, some .ARound, none, none, none, some .int, none] [0, 1, 2, 3, 5, 6, 7, 8, 9]) := st_ok Tryd.underlying64 inf_64 rfl (by kernel_rfl)
theorem kind_79 : TKok Tryd.prog 79 (.st [.int .i64 0, .int .i64 0, .int .i64 0] [none, none, none] [0, 1, 2]) := st_ok Tryd.underlying79 inf_79 rfl (by kernel_rfl)
theorem kind_81 : TKok Tryd.prog 81 (.st [.int .i64 0, .int .i64 0, .int .i64 0] [none, none, none] [0, 1, 2]) := st_ok Tryd.underlying81 inf_81 rfl (by kernel_rfl)
theorem kind_62 : TKok Tryd.prog 62 (.sl .int 3) := ⟨Tryd.underlying62, sz_of inf_3⟩
theorem kind_109 : TKok Tryd.prog 109 (.sl .u8 5) := ⟨Tryd.underlying109, sz_of inf_5⟩
theorem kind_82 : TKok Tryd.prog 82 (.sl .str 9) := ⟨Tryd.underlying82, sz_of inf_9⟩
theorem kind_22 : TKok Tryd.prog 22 (.sl (.sl .u8) 109) := ⟨Tryd.underlying22, sz_of inf_109⟩
theorem kind_43 : TKok Tryd.prog 43 (.sl .RShare 117) := ⟨Tryd.underlying43, sz_of inf_117⟩
theorem kind_38 : TKok Tryd.prog 38 (.sl .RShare 115) := ⟨Tryd.underlying38, sz_of inf_115⟩
theorem kind_67 : TKok Tryd.prog 67 (.sl .Srv 45) := ⟨Tryd.underlying67, sz_of inf_45⟩
theorem kind_60 : TKok Tryd.prog 60 (.sl .Srv 40) := ⟨Tryd.underlying60, sz_of inf_40⟩
theorem kind_54 : TKok Tryd.prog 54 (.sl .ARound 94) := ⟨Tryd.underlying54, sz_of inf_94⟩
theorem kind_49 : TKok Tryd.prog 49 (.sl .ARound 122) := ⟨Tryd.underlying49, sz_of inf_122⟩
theorem kind_68 : TKok Tryd.prog 68 (.sl .Dev 131) := ⟨Tryd.underlying68, sz_of inf_131⟩
theorem kind_61 : TKok Tryd.prog 61 (.sl .Dev 128) := ⟨Tryd.underlying61, sz_of inf_128⟩
theorem kind_34 : TKok Tryd.prog 34 (.sl .Trf 79) := ⟨Tryd.underlying34, sz_of inf_79⟩
theorem kind_31 : TKok Tryd.prog 31 (.sl .Trf 81) := ⟨Tryd.underlying31, sz_of inf_81⟩
set_option maxRecDepth 100000 in
theorem kinds : ∀ e, e ∈ tys → TKok Tryd.prog e.1 e.2 := by
  simp only [tys, List.forall_mem_cons]
  exact ⟨kind_3, kind_2, kind_21, kind_5, kind_164, kind_167, kind_153, kind_12, kind_4, kind_9, kind_92, kind_113, kind_117, kind_115, kind_45, kind_40, kind_94, kind_122, kind_56, kind_51, kind_27, kind_24, kind_131, kind_128, kind_70, kind_64, kind_79, kind_81, kind_62, kind_109, kind_82, kind_22, kind_43, kind_38, kind_67, kind_60, kind_54, kind_49, kind_68, kind_61, kind_34, kind_31, by simp⟩
set_option maxRecDepth 100000 in
theorem ones : ∀ e, e ∈ tys → (∀ z tg fo, e.2 ≠ .st z tg fo) → (Tryd.prog.info? e.1).map (·.size) = some 1 := by
  simp only [tys, List.forall_mem_cons]
  refine ⟨fun _ => one_of (by kernel_rfl), fun _ => one_of (by kernel_rfl), fun _ => one_of (by kernel_rfl), fun _ => one_of (by kernel_rfl), fun _ => one_of (by kernel_rfl), fun _ => one_of (by kernel_rfl), fun _ => one_of (by kernel_rfl), fun _ => one_of (by kernel_rfl), fun _ => one_of (by kernel_rfl), fun _ => one_of (by kernel_rfl), fun h => absurd rfl (h _ _ _), fun h => absurd rfl (h _ _ _), fun h => absurd rfl (h _ _ _), fun h => absurd rfl (h _ _ _), fun h => absurd rfl (h _ _ _), fun h => absurd rfl (h _ _ _), fun h => absurd rfl (h _ _ _), fun h => absurd rfl (h _ _ _), fun h => absurd rfl (h _ _ _), fun h => absurd rfl (h _ _ _), fun h => absurd rfl (h _ _ _), fun h => absurd rfl (h _ _ _), fun h => absurd rfl (h _ _ _), fun h => absurd rfl (h _ _ _), fun h => absurd rfl (h _ _ _), fun h => absurd rfl (h _ _ _), fun h => absurd rfl (h _ _ _), fun h => absurd rfl (h _ _ _), fun _ => one_of (by kernel_rfl), fun _ => one_of (by kernel_rfl), fun _ => one_of (by kernel_rfl), fun _ => one_of (by kernel_rfl), fun _ => one_of (by kernel_rfl), fun _ => one_of (by kernel_rfl), fun _ => one_of (by kernel_rfl), fun _ => one_of (by kernel_rfl), fun _ => one_of (by kernel_rfl), fun _ => one_of (by kernel_rfl), fun _ => one_of (by kernel_rfl), fun _ => one_of (by kernel_rfl), fun _ => one_of (by kernel_rfl), fun _ => one_of (by kernel_rfl), by simp⟩
theorem X : Ctx Tryd.prog ty Γ where
  kind := fun t => by
    unfold Γ
    split
    · rename_i k hk; exact kinds (t, k) (look_mem hk)
    · trivial
  one := fun t h1 h2 => by
    unfold Γ at h1 h2
    split at h1
    · rename_i k hk; exact ones (t, k) (look_mem hk) h1
    · rename_i hk; rw [hk] at h2; exact absurd rfl h2
theorem El_all (t : Tag) (h : ty t < 1000000000) : El Tryd.prog ty t := by
  unfold ty at h
  split at h
  · exact inf_3
  · exact inf_5
  · exact inf_9
  · exact inf_109
  · exact inf_62
  · exact inf_22
  · exact inf_92
  · exact inf_117
  · exact inf_45
  · exact inf_94
  · exact inf_56
  · exact inf_27
  · exact inf_131
  · exact inf_70
  · exact inf_79
  · exact absurd h (by decide)
end Go.Proofs.YtjknhnhcbadigaaDoor.G
namespace Go.Proofs.YtjknhnhcbadigaaDoor.G
set_option linter.all false
open Go.RowKit L D
theorem MO : Tryd.prog.follows .mixedOrders = true := by kernel_rfl
/-- What bools say, as propositions: one law to rewrite with. -/
theorem nb : (∀ (p : Prop) [Decidable p], (decide p = true) = p) ∧ (∀ (p : Prop) [Decidable p], (decide p = false) = ¬ p) ∧ (∀ b : Bool, ((!b) = true) = (b = false)) ∧ (∀ b : Bool, ((!b) = false) = (b = true)) ∧
    (∀ (α : Type) [BEq α] [LawfulBEq α] (a b : α), ((a == b) = true) = (a = b)) ∧ (∀ (α : Type) [BEq α] [LawfulBEq α] (a b : α), ((a != b) = true) = (¬ a = b)) ∧ (∀ (α : Type) [BEq α] [LawfulBEq α] (a b : α), ((a == b) = false) = (¬ a = b)) ∧ (∀ (α : Type) [BEq α] [LawfulBEq α] (a b : α), ((a != b) = false) = (a = b)) ∧
    (∀ (α : Type) (a b : α), (a ≠ b) = ¬ a = b) ∧ (∀ a b : Int, (a > b) = (b < a)) ∧ (∀ a b : Int, (a ≥ b) = (b ≤ a)) ∧ (∀ a b : Nat, (a > b) = (b < a)) ∧ (∀ a b : Nat, (a ≥ b) = (b ≤ a)) ∧ (∀ a b : Int, (¬ a < b) = (b ≤ a)) ∧ (∀ a b : Int, (¬ a ≤ b) = (b < a)) ∧
    (∀ (p : Prop) [Decidable p], (¬ ¬ p) = p) ∧ (∀ n : Nat, (n : Int).toNat = n) ∧ (∀ m n : Nat, ((m : Int) < n) = (m < n)) ∧ (∀ m n : Nat, ((m : Int) ≤ n) = (m ≤ n)) ∧ (∀ a b : Nat, (¬ a < b) = (b ≤ a)) ∧ (∀ a b : Nat, (¬ a ≤ b) = (b < a)) ∧
    (∀ (p : Prop) [Decidable p] (b : Bool), (if p then b else false) = (decide p && b)) ∧ (∀ (p : Prop) [Decidable p] (b : Bool), (if p then true else b) = (decide p || b)) ∧ (∀ (p : Prop) [Decidable p] (b : Bool), (if p then false else b) = (!decide p && b)) ∧ (∀ (p : Prop) [Decidable p] (b : Bool), (if p then b else true) = (!decide p || b)) ∧
    (∀ a b : Bool, ((a && b) = true) = (a = true ∧ b = true)) ∧ (∀ a b : Bool, ((a || b) = true) = (a = true ∨ b = true)) ∧ (∀ a b : Bool, ((a && b) = false) = (a = false ∨ b = false)) ∧ (∀ a b : Bool, ((a || b) = false) = (a = false ∧ b = false)) ∧ (∀ (b : Bool), decide (b = true) = b) := by
  refine ⟨by simp, by simp, by simp, by simp, fun _ _ _ a b => propext beq_iff_eq, fun _ _ _ a b => propext bne_iff_ne, fun _ _ _ a b => propext beq_eq_false_iff_ne, fun _ _ _ a b => propext bne_eq_false_iff_eq, by simp, by simp, by simp, by simp, by simp, by simp, by simp, by simp, by simp, by simp, by simp, by simp, by simp, by simp, by simp, by simp, by simp, by simp, by simp, by simp, by simp, by simp⟩
/-- Lengths. -/
theorem lens : (∀ n : Nat, (n : Int).toNat = n) ∧ (∀ (α : Type) (a b : List α), (a ++ b).length = a.length + b.length) ∧ (∀ (α : Type) (a : α), [a].length = 1) ∧ (∀ (α : Type) (a : α) (l : List α), (a :: l).length = l.length + 1) ∧ (∀ (α : Type), ([] : List α).length = 0) ∧ (∀ (α : Type) (n : Nat) (a : α), (List.replicate n a).length = n) ∧
    (∀ (α : Type) (l : List α) (n : Nat) (a : α), (l.set n a).length = l.length) ∧ (∀ (α β : Type) (f : α → β) (l : List α), (l.map f).length = l.length) ∧ (∀ (α : Type) (l : List α) (n : Nat), (l.take n).length = min n l.length) ∧ (∀ (α : Type) (l : List α) (n : Nat), (l.drop n).length = l.length - n) ∧ (∀ n : Nat, (List.range n).length = n) := by
  refine ⟨by simp, by simp, by simp, by simp, by simp, by simp, by simp, by simp, by simp, by simp, by simp⟩
theorem AllP.mk {p : Prop} {l : List Prop} (h : p) (k : AllP l) : AllP (p :: l) := ⟨h, k⟩
theorem AllP.nil : AllP [] := True.intro
theorem take_snoc {α : Type} (l : List α) (k : Nat) (d : α) (h : k < l.length) : l.take (k + 1) = l.take k ++ [l.getD k d] := by
  rw [List.take_add_one, List.getD_eq_getElem?_getD, List.getElem?_eq_getElem h]; rfl
theorem wadd (a : Int) (n : Nat) (h : a = n) (h2 : n < 9223372036854775807) : IntKind.i64.wrap (a + 1) = ((n + 1 : Nat) : Int) := by
  subst h; rw [IntWalk.i64_in _ (by omega)]; omega
/-- A scalar's contract, as the laws' walks ask for it. -/
theorem gives_of {P : Program} {ty : Tag → Nat} {f : FuncId} {xs : List S1} {v : Value} (h : Sound ty P f xs [.a (.lit v)]) {w : World} {us : List Value} (ha : All2 (Arg1 w) xs us) (hA : Amb w := by first | assumption | exact trivial) : Calls P f us.toArray w (Gives w v) := by
  refine (h.2 w us hA ha).mono ?_
  rintro e w' ⟨u, fp, rfl, hb, _, f1, f2, ⟨rfl, _⟩, _⟩
  exact ⟨rfl, hb⟩
/-- A slice has no more elements than a slice can have. -/
theorem W.bound {P : Program} {ty : Tag → Nat} {w0 : Base} {c : Code} {Q : Post} {st : St} (d : Nat) {t : Tag} {l : List (T t)} (h : look st.sl d = some (.one (.a (.sl t l)))) (k : l.length ≤ 9223372036854775807 → W P ty w0 c Q st) : W P ty w0 c Q st := by
  intro a w iv
  obtain ⟨env, g⟩ := iv.good
  obtain ⟨fp, ⟨oa, cap, _, h1, h2, _⟩, _⟩ := g.slot d _ h
  have e : maxLen = 9223372036854775807 := by decide
  exact k (by omega) a w iv
theorem str8_app (a b : List UInt8) : str8 a ++ str8 b = str8 (a ++ b) := by
  apply ByteArray.ext
  simp [str8]
theorem str8_list (a : List UInt8) : (str8 a).data.toList = a := rfl
theorem str8_size (a : List UInt8) : (str8 a).size = a.length := rfl
theorem map_str8 (l : List (List UInt8)) : l.map ((fun x : ByteArray => x.data.toList) ∘ str8) = l := List.map_id l
theorem max64 : IntKind.i64.max = 9223372036854775807 := by decide
end Go.Proofs.YtjknhnhcbadigaaDoor.G
namespace Go.Proofs.YtjknhnhcbadigaaDoor.G
set_option linter.all false
open Go.RowKit L D
def szr (left : Int) (n : Nat) : Int := if (n : Int) ≤ left then left - n else -1
theorem szr_pos {l : Int} {n : Nat} (h : 0 ≤ szr l n) : szr l n = l - n ∧ (n : Int) ≤ l := by
  unfold szr at *
  split at h
  · rename_i h1; exact ⟨by rw [if_pos h1], h1⟩
  · omega
theorem szr_ge {l : Int} {n : Nat} (h : (n : Int) ≤ l) : szr l n = l - n := by unfold szr; rw [if_pos h]
theorem szr_lt {l : Int} {n : Nat} (h : l < (n : Int)) : szr l n = -1 := by unfold szr; rw [if_neg (by omega)]
theorem set_step {α : Type} (l : List α) (d : α) (k : Nat) (h : k < l.length) : (l.take k ++ List.replicate (l.length - k) d).set k (l.getD k d) = l.take (k + 1) ++ List.replicate (l.length - (k + 1)) d := by
  have hk : (l.take k).length = k := by rw [List.length_take]; omega
  rw [List.set_append_right _ _ (by omega), hk, Nat.sub_self, show l.length - k = (l.length - (k + 1)) + 1 by omega, List.replicate_succ, List.set_cons_zero, take_snoc l k d h, List.append_assoc]
  rfl
theorem set_len {α : Type} (l : List α) (d : α) (k : Nat) (h : k ≤ l.length) : (l.take k ++ List.replicate (l.length - k) d).length = l.length := by
  simp; omega
theorem u8w (n : Int) : 0 ≤ IntKind.u8.wrap n ∧ IntKind.u8.wrap n < 256 := by
  unfold IntKind.wrap
  simp only [IntKind.signed, IntKind.bits]
  simp
  omega
theorem u8n (x : UInt8) : 0 ≤ ((x.toNat : Nat) : Int) ∧ ((x.toNat : Nat) : Int) < 256 := by
  have := x.toNat_lt
  omega
section
variable {α : Type} {mk : Int → α → α} {mn : α → Nat}
end
theorem W.conv {P : Program} {ty : Tag → Nat} {zb : Base} {c : Code} {Q : Post} {st : St} (st' : St) (h : st = st') (k : W P ty zb c Q st') : W P ty zb c Q st := h ▸ k
end Go.Proofs.YtjknhnhcbadigaaDoor.G
namespace Go.Proofs.YtjknhnhcbadigaaDoor.G
set_option linter.all false
open Go.RowKit L D
set_option maxRecDepth 100000
theorem getD_some {α : Type} (l : List α) (d : α) (k : Nat) (h : k < l.length) : l[k]? = some (l.getD k d) := by
  rw [List.getD_eq_getElem?_getD, List.getElem?_eq_getElem h]; rfl
def size_Trf (x : Trf) : Nat := 0
end Go.Proofs.YtjknhnhcbadigaaDoor.G
namespace Go.Proofs.YtjknhnhcbadigaaDoor.G
set_option linter.all false
open Go.RowKit L D
set_option maxRecDepth 100000
theorem c_szTransferS (l : (List Trf)) (left : Int) (h0 : 0 ≤ left) (h1 : left ≤ 1048576) : Sound ty Tryd.prog 13 [.a (.sl .Trf l), .a (.lit (.int .i64 left))] [.a (.lit (.int .i64 (szr left ((lsz size_Trf) l))))] := by
  refine Sound.of X Tryd.call13 Tryd.func13 rfl rfl (by decide) Tryd.ntmps13 (by simp) ?_
  intro zb
  refine W.bound 0 rfl fun hl => ?_
  refine W.seq ?_
  refine W.reg X [] [] [0, 1] [] rfl ⟨⟩ ?_
  refine W.seq ?_
  refine W.reg X [] [] [1] [] rfl ⟨⟩ ?_
  rw [IntWalk.i64_in (left - (l.length : Nat)) (by omega)]
  refine W.seq ?_
  refine W.seq ?_
  refine W.reg X [] [] [1, 10] [] rfl ⟨⟩ ?_
  refine W.cond rfl (fun hb0 => ?_) (fun hb0 => ?_)
  · try simp only [nb] at hb0
    refine W.seq ?_
    refine W.reg X [] [] [4] [] rfl ⟨⟩ ?_
    refine W.ret ?_
    exact Fin.ret rfl ⟨by rw [szr_lt (by unfold lsz; omega)], ⟨⟩⟩
  · try simp only [nb] at hb0
    refine W.skip ?_
    refine W.seq ?_
    refine W.reg X [] [] [4] [] rfl ⟨⟩ ?_
    refine W.ret ?_
    have hz : ∀ m : List Trf, (m.map size_Trf).sum = 0 := by intro m; induction m with | nil => rfl | cons y r ih => rw [List.map_cons, List.sum_cons, ih]; rfl
    have hzl := hz l
    exact Fin.ret rfl ⟨by rw [szr_ge (by unfold lsz; omega)]; congr 1; unfold lsz; omega, ⟨⟩⟩
end Go.Proofs.YtjknhnhcbadigaaDoor.G
namespace Go.Proofs.YtjknhnhcbadigaaDoor.G
set_option linter.all false
open Go.RowKit L D
set_option maxRecDepth 100000
theorem c_toTransfer (x : Trf) (hx : size_Trf x ≤ 1048576) : Sound ty Tryd.prog 38 [.agg (dec_Trf x)] [.agg (dec_Trf x)] := by
  refine Sound.of X Tryd.call38 Tryd.func38 rfl rfl (by decide) Tryd.ntmps38 (by simp) ?_
  intro zb
  refine W.seq ?_
  refine W.reg X [] [] [1, 2] [] rfl ⟨⟩ ?_
  refine W.seq ?_
  refine W.reg X [] [] [1, 2, 3] [] rfl ⟨⟩ ?_
  refine W.seq ?_
  refine W.reg X [] [] [1, 2, 3] [] rfl ⟨⟩ ?_
  refine W.seq ?_
  refine W.reg X [] [] [1, 2, 3] [] rfl ⟨⟩ ?_
  refine W.seq ?_
  refine W.reg X [] [] [2, 3] [] rfl ⟨⟩ ?_
  refine W.seq ?_
  refine W.reg X [] [] [2] [] rfl (by (repeat' (first | exact True.intro | apply And.intro)) <;> first | (intros; omega) | exact rfl | exact El_all _ (by decide) | exact ⟨rfl, El_all _ (by decide)⟩ | ((intro h1; first | (intro h2; first | (intro h3; refine And.intro ?_ ?_) | refine And.intro ?_ ?_) | refine And.intro ?_ ?_) <;> first | omega | ((try simp only [nb, inr_t, inr_f] at *); (try simp (disch := omega) only [i64w]); omega)) | ((try simp only [nb, inr_t, inr_f] at *); (simp (disch := omega) only [i64w]); omega) | (refine fun _ => ?_; dsimp only [hyps, imps]; omega) | (refine fun _ _ => ?_; dsimp only [hyps, imps]; omega) | exact (u8w _).1 | exact (u8w _).2 | exact (u8n _).1 | exact (u8n _).2 | (simp only [byt, maxLen, lens]; omega) | (intros; simp only [nb] at *; omega)) ?_
  refine W.ret ?_
  exact Fin.ret rfl (by (repeat' (first | exact True.intro | apply And.intro)) <;> rfl)
theorem c_toTransferS (l : (List Trf)) (hx : ((lsz size_Trf) l) ≤ 1048576) : Sound ty Tryd.prog 15 [.a (.sl .Trf l)] [.a (.sl .Trf l)] := by
  refine Sound.of X Tryd.call15 Tryd.func15 rfl rfl (by decide) Tryd.ntmps15 (by simp) ?_
  intro zb
  have hl : l.length ≤ 1048576 := lsz_len hx
  refine W.seq ?_
  refine W.reg X [] [] [0] [] rfl ⟨⟩ ?_
  refine W.seq ?_
  refine W.reg X [] [] [0, 3] [] rfl (by (repeat' (first | exact True.intro | apply And.intro)) <;> first | (intros; omega) | exact rfl | exact El_all _ (by decide) | exact ⟨rfl, El_all _ (by decide)⟩ | ((intro h1; first | (intro h2; first | (intro h3; refine And.intro ?_ ?_) | refine And.intro ?_ ?_) | refine And.intro ?_ ?_) <;> first | omega | ((try simp only [nb, inr_t, inr_f] at *); (try simp (disch := omega) only [i64w]); omega)) | ((try simp only [nb, inr_t, inr_f] at *); (simp (disch := omega) only [i64w]); omega) | (refine fun _ => ?_; dsimp only [hyps, imps]; omega) | (refine fun _ _ => ?_; dsimp only [hyps, imps]; omega) | exact (u8w _).1 | exact (u8w _).2 | exact (u8n _).1 | exact (u8n _).2 | (simp only [byt, maxLen, lens]; omega) | (intros; simp only [nb] at *; omega)) ?_
  refine W.seq ?_
  refine W.seq ?_
  refine W.reg X [] [] [0, 3, 4] [] rfl ⟨⟩ ?_
  refine W.block ?_
  refine W.loopO (fun k => k ≤ l.length) (fun k : Nat => [(4, .one (.a (.lit (.int .i64 k))))]) (fun k => [(7, .arr .Trf (l.take k ++ List.replicate (l.length - k) (dfl .Trf)))]) (fun k => l.length - k) 0 (fun k => rfl) (Nat.zero_le _) rfl ?_
  intro k hk
  refine W.seq ?_
  refine W.seq ?_
  refine W.reg X [] [] [0, 3, 4, 11] [] rfl ⟨⟩ ?_
  refine W.cond rfl (fun hb0 => ?_) (fun hb0 => ?_)
  · try simp only [nb] at hb0
    have hsl := set_len l (dfl .Trf) k (by omega)
    refine W.skip ?_
    refine W.seq ?_
    refine W.block ?_
    refine W.reg X [(20, 300)] [(20, ⟨true, [.agg (dec_Trf (l.getD k (dfl .Trf)))]⟩)] [0, 3, 4] [] rfl (by (repeat' (first | with_reducible exact AllP.nil | with_reducible refine AllP.mk ?_ ?_ | with_reducible apply And.intro)) <;> skip; (iterate 1 (all_goals try (first | exact c_toTransfer (l.getD k (dfl .Trf)) (lsz_mem hx (getD_some l _ k hb0)) | exact fun _ => c_toTransfer (l.getD k (dfl .Trf)) (lsz_mem hx (getD_some l _ k hb0)) | exact fun _ _ => c_toTransfer (l.getD k (dfl .Trf)) (lsz_mem hx (getD_some l _ k hb0))))); all_goals (first | (intros; omega) | exact rfl | exact El_all _ (by decide) | exact ⟨rfl, El_all _ (by decide)⟩ | ((intro h1; first | (intro h2; first | (intro h3; refine And.intro ?_ ?_) | refine And.intro ?_ ?_) | refine And.intro ?_ ?_) <;> first | omega | ((try simp only [nb, inr_t, inr_f] at *); (try simp (disch := omega) only [i64w]); omega)) | ((try simp only [nb, inr_t, inr_f] at *); (simp (disch := omega) only [i64w]); omega) | (refine fun _ => ?_; dsimp only [hyps, imps]; omega) | (refine fun _ _ => ?_; dsimp only [hyps, imps]; omega) | exact (u8w _).1 | exact (u8w _).2 | exact (u8n _).1 | exact (u8n _).2 | (simp only [byt, maxLen, lens]; omega) | (intros; simp only [nb] at *; omega))) ?_
    have e1 := set_step l (dfl .Trf) k hb0
    refine W.reg X [] [] [0, 3, 4] [] rfl ⟨⟩ ?_
    refine ⟨k + 1, by omega, by omega, ?_⟩
    rw [wadd _ k rfl (by omega), ← e1]
    try rfl
  · try simp only [nb] at hb0
    refine W.exit ?_
    refine W.seq ?_
    refine W.reg X [] [] [2] [] rfl ⟨⟩ ?_
    refine W.ret ?_
    exact Fin.ret rfl ⟨by rw [List.take_of_length_le (by omega), show l.length - k = 0 by omega, List.replicate_zero, List.append_nil], ⟨⟩⟩
end Go.Proofs.YtjknhnhcbadigaaDoor.G
namespace Go.Proofs.YtjknhnhcbadigaaDoor.G
set_option linter.all false
open Go.RowKit L D
set_option maxRecDepth 100000
theorem c_eqTransfer (x : Trf) : Sound ty Tryd.prog 40 [.agg (dec_Trf x), .agg (dec_Trf x)] [.a (.lit (.bool true))] := by
  refine Sound.of X Tryd.call40 Tryd.func40 rfl rfl (by decide) Tryd.ntmps40 (by simp) ?_
  intro zb
  refine W.seq ?_
  refine W.reg X [] [] [2, 3] [] rfl ⟨⟩ ?_
  refine W.seq ?_
  refine W.seq ?_
  refine W.reg X [] [] [2, 3, 9] [] rfl ⟨⟩ ?_
  refine W.cond rfl (fun hb0 => ?_) (fun hb0 => ?_)
  · exact absurd hb0 (by simp)
  · clear hb0
    refine W.skip ?_
    refine W.seq ?_
    refine W.seq ?_
    refine W.reg X [] [] [2, 3, 14] [] rfl ⟨⟩ ?_
    refine W.cond rfl (fun hb1 => ?_) (fun hb1 => ?_)
    · exact absurd hb1 (by simp)
    · clear hb1
      refine W.skip ?_
      refine W.seq ?_
      refine W.seq ?_
      refine W.reg X [] [] [19] [] rfl ⟨⟩ ?_
      refine W.cond rfl (fun hb2 => ?_) (fun hb2 => ?_)
      · exact absurd hb2 (by simp)
      · clear hb2
        refine W.skip ?_
        refine W.seq ?_
        refine W.reg X [] [] [4] [] rfl ⟨⟩ ?_
        refine W.ret ?_
        exact Fin.ret rfl ⟨rfl, ⟨⟩⟩
theorem c_eqTransferS (l : (List Trf)) : Sound ty Tryd.prog 17 [.a (.sl .Trf l), .a (.sl .Trf l)] [.a (.lit (.bool true))] := by
  refine Sound.of X Tryd.call17 Tryd.func17 rfl rfl (by decide) Tryd.ntmps17 (by simp) ?_
  intro zb
  refine W.bound 0 rfl fun hl => ?_
  refine W.seq ?_
  refine W.reg X [] [] [0, 1] [] rfl ⟨⟩ ?_
  refine W.seq ?_
  refine W.seq ?_
  refine W.reg X [] [] [0, 1, 10] [] rfl ⟨⟩ ?_
  refine W.cond rfl (fun hb0 => ?_) (fun hb0 => ?_)
  · exact absurd hb0 (by simp)
  · clear hb0
    refine W.skip ?_
    refine W.seq ?_
    refine W.seq ?_
    refine W.reg X [] [] [0, 1, 5] [] rfl ⟨⟩ ?_
    refine W.block ?_
    refine W.loopO (fun k => k ≤ l.length) (fun k : Nat => [(5, .one (.a (.lit (.int .i64 k))))]) (fun k => []) (fun k => l.length - k) 0 (fun k => rfl) (Nat.zero_le _) rfl ?_
    intro k hk
    refine W.seq ?_
    refine W.seq ?_
    refine W.reg X [] [] [0, 1, 5, 14] [] rfl ⟨⟩ ?_
    refine W.cond rfl (fun hb1 => ?_) (fun hb1 => ?_)
    · try simp only [nb] at hb1
      refine W.skip ?_
      refine W.seq ?_
      refine W.block ?_
      refine W.seq ?_
      refine W.draw X [] [(25, ⟨false, [.a (.lit (.bool true))]⟩)] [0, 1, 5, 26] [] 10 MO (by kernel_rfl) rfl ⟨c_eqTransfer (l.getD k (dfl .Trf)), by omega, by omega, ⟨⟩⟩ ?_
      refine W.cond rfl (fun hb2 => ?_) (fun hb2 => ?_)
      · exact absurd hb2 (by simp)
      · clear hb2
        refine W.skip ?_
        refine W.reg X [] [] [0, 1, 5] [] rfl ⟨⟩ ?_
        refine ⟨k + 1, by omega, by omega, ?_⟩
        rw [wadd _ k rfl (by omega)]
        try rfl
    · try simp only [nb] at hb1
      refine W.exit ?_
      refine W.seq ?_
      refine W.reg X [] [] [4] [] rfl ⟨⟩ ?_
      refine W.ret ?_
      exact Fin.ret rfl ⟨rfl, ⟨⟩⟩
end Go.Proofs.YtjknhnhcbadigaaDoor.G
namespace Go.Proofs.YtjknhnhcbadigaaDoor.G
set_option linter.all false
open Go.RowKit L D
set_option maxRecDepth 100000

end Go.Proofs.YtjknhnhcbadigaaDoor.G
namespace Go.Proofs.YtjknhnhcbadigaaDoor.G
set_option linter.all false
open Go.RowKit L D
set_option maxRecDepth 100000

end Go.Proofs.YtjknhnhcbadigaaDoor.G
namespace Go.Proofs.YtjknhnhcbadigaaDoor.G
set_option linter.all false
open Go.RowKit L D
theorem i64w {a : Int} (h : -9223372036854775808 ≤ a ∧ a ≤ 9223372036854775807) : IntKind.i64.wrap a = a := IntWalk.i64_in _ (by omega)
theorem u8w_eq (n : Int) : IntKind.u8.wrap n = n % 256 := by
  unfold IntKind.wrap
  simp only [IntKind.signed, IntKind.bits]
  simp
def hs1 (h v : Int) : Int := (h * 1000003 + v % 2147483647 + 13) % 2147483647
def hsh (l : List Int) : Int := l.foldl hs1 11
def kh (k : Int) (l : List Int) : Int := hsh (k :: (l ++ [k]))
def cs (s k : Int) : Int := (kh s [47, k] * kh s [47, k] + 5) % 2147483647
def inr (x lo hi : Int) : Bool := if decide (x ≥ lo) then decide (x ≤ hi) else false
theorem inr_t {x lo hi : Int} : (inr x lo hi = true) = (lo ≤ x ∧ x ≤ hi) := by simp [inr]
theorem inr_f {x lo hi : Int} : (inr x lo hi = false) = ¬ (lo ≤ x ∧ x ≤ hi) := by rw [← inr_t]; simp
theorem isEmpty_t {α : Type} {l : List α} : (l.isEmpty = true) = (l = []) := by simp
end Go.Proofs.YtjknhnhcbadigaaDoor.G
namespace Go.Proofs.YtjknhnhcbadigaaDoor.G
set_option linter.all false
open Go.RowKit L D
end Go.Proofs.YtjknhnhcbadigaaDoor.G
namespace Go.Proofs.YtjknhnhcbadigaaDoor.G
set_option linter.all false
open Go.RowKit L D
end Go.Proofs.YtjknhnhcbadigaaDoor.G
namespace Go.Proofs.YtjknhnhcbadigaaDoor.G
set_option linter.all false
open Go.RowKit L D
end Go.Proofs.YtjknhnhcbadigaaDoor.G
