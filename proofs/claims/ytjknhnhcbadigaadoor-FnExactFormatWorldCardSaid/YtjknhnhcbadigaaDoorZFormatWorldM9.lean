/-
  Worlds that are valid; what a client writes. No program in sight.
-/
import Derived.Test.YtjknhnhcbadigaaDoorZFormatWorldM8
import Derived.Test.YtjknhnhcbadigaaDoorRows
import Derived.KernelRfl
namespace Go.Proofs.YtjknhnhcbadigaaDoor.G
set_option linter.all false
open Go.RowKit L D

theorem inf_3 : (Tryd.prog.info? 3).map (fun i => (i.zero, i.size, i.bytes)) = some (some (.int .i64 0), 1, 8) := by kernel_rfl
theorem inf_5 : (Tryd.prog.info? 5).map (fun i => (i.zero, i.size, i.bytes)) = some (some (.int .u8 0), 1, 1) := by kernel_rfl
theorem inf_9 : (Tryd.prog.info? 9).map (fun i => (i.zero, i.size, i.bytes)) = some (some (.string ⟨#[]⟩), 1, 16) := by kernel_rfl
theorem inf_109 : (Tryd.prog.info? 109).map (fun i => (i.zero, i.size, i.bytes)) = some (some (.slice none 0 0), 1, 24) := by kernel_rfl
theorem inf_62 : (Tryd.prog.info? 62).map (fun i => (i.zero, i.size, i.bytes)) = some (some (.slice none 0 0), 1, 24) := by kernel_rfl
theorem inf_22 : (Tryd.prog.info? 22).map (fun i => (i.zero, i.size, i.bytes)) = some (some (.slice none 0 0), 1, 24) := by kernel_rfl
theorem inf_92 : (Tryd.prog.info? 92).map (fun i => (i.zero, i.size, i.bytes)) = some (some (.agg #[.slice none 0 0]), 1, 24) := by kernel_rfl
theorem inf_113 : (Tryd.prog.info? 113).map (fun i => (i.zero, i.size, i.bytes)) = some (some (.agg #[.slice none 0 0]), 1, 24) := by kernel_rfl
theorem inf_117 : (Tryd.prog.info? 117).map (fun i => (i.zero, i.size, i.bytes)) = some (some (.agg #[.int .i64 0, .slice none 0 0]), 2, 32) := by kernel_rfl
theorem inf_115 : (Tryd.prog.info? 115).map (fun i => (i.zero, i.size, i.bytes)) = some (some (.agg #[.int .i64 0, .slice none 0 0]), 2, 32) := by kernel_rfl
theorem inf_45 : (Tryd.prog.info? 45).map (fun i => (i.zero, i.size, i.bytes)) = some (some (.agg #[.int .i64 0, .int .i64 0, .int .i64 0, .slice none 0 0, .int .i64 0]), 5, 56) := by kernel_rfl
theorem inf_40 : (Tryd.prog.info? 40).map (fun i => (i.zero, i.size, i.bytes)) = some (some (.agg #[.int .i64 0, .int .i64 0, .int .i64 0, .slice none 0 0, .int .i64 0]), 5, 56) := by kernel_rfl
theorem inf_94 : (Tryd.prog.info? 94).map (fun i => (i.zero, i.size, i.bytes)) = some (some (.agg #[.int .i64 0, .slice none 0 0]), 2, 32) := by kernel_rfl
theorem inf_122 : (Tryd.prog.info? 122).map (fun i => (i.zero, i.size, i.bytes)) = some (some (.agg #[.int .i64 0, .slice none 0 0]), 2, 32) := by kernel_rfl
theorem inf_56 : (Tryd.prog.info? 56).map (fun i => (i.zero, i.size, i.bytes)) = some (some (.agg #[.int .i64 0, .slice none 0 0]), 2, 32) := by kernel_rfl
theorem inf_51 : (Tryd.prog.info? 51).map (fun i => (i.zero, i.size, i.bytes)) = some (some (.agg #[.int .i64 0, .slice none 0 0]), 2, 32) := by kernel_rfl
theorem inf_27 : (Tryd.prog.info? 27).map (fun i => (i.zero, i.size, i.bytes)) = some (some (.agg #[.int .i64 0, .int .i64 0, .int .i64 0, .int .i64 0, .slice none 0 0, .int .i64 0, .slice none 0 0, .int .i64 0]), 8, 96) := by kernel_rfl
theorem inf_24 : (Tryd.prog.info? 24).map (fun i => (i.zero, i.size, i.bytes)) = some (some (.agg #[.int .i64 0, .int .i64 0, .int .i64 0, .int .i64 0, .slice none 0 0, .int .i64 0, .slice none 0 0, .int .i64 0]), 8, 96) := by kernel_rfl
theorem inf_131 : (Tryd.prog.info? 131).map (fun i => (i.zero, i.size, i.bytes)) = some (some (.agg #[.int .i64 0, .int .i64 0, .int .i64 0, .int .i64 0, .slice none 0 0, .int .i64 0, .slice none 0 0, .int .i64 0, .int .i64 0, .int .i64 0, .int .i64 0, .int .i64 0, .slice none 0 0, .int .i64 0, .slice none 0 0, .int .i64 0]), 16, 192) := by kernel_rfl
theorem inf_128 : (Tryd.prog.info? 128).map (fun i => (i.zero, i.size, i.bytes)) = some (some (.agg #[.int .i64 0, .int .i64 0, .int .i64 0, .int .i64 0, .slice none 0 0, .int .i64 0, .slice none 0 0, .int .i64 0, .int .i64 0, .int .i64 0, .int .i64 0, .int .i64 0, .slice none 0 0, .int .i64 0, .slice none 0 0, .int .i64 0]), 16, 192) := by kernel_rfl
theorem inf_70 : (Tryd.prog.info? 70).map (fun i => (i.zero, i.size, i.bytes)) = some (some (.agg #[.int .i64 0, .slice none 0 0, .slice none 0 0, .int .i64 0, .slice none 0 0, .int .i64 0, .int .i64 0, .int .i64 0, .slice none 0 0, .int .i64 0]), 10, 144) := by kernel_rfl
theorem inf_64 : (Tryd.prog.info? 64).map (fun i => (i.zero, i.size, i.bytes)) = some (some (.agg #[.int .i64 0, .slice none 0 0, .slice none 0 0, .int .i64 0, .slice none 0 0, .int .i64 0, .int .i64 0, .int .i64 0, .slice none 0 0, .int .i64 0]), 10, 144) := by kernel_rfl
theorem inf_79 : (Tryd.prog.info? 79).map (fun i => (i.zero, i.size, i.bytes)) = some (some (.agg #[.int .i64 0, .int .i64 0, .int .i64 0]), 3, 24) := by kernel_rfl
theorem inf_81 : (Tryd.prog.info? 81).map (fun i => (i.zero, i.size, i.bytes)) = some (some (.agg #[.int .i64 0, .int .i64 0, .int .i64 0]), 3, 24) := by kernel_rfl
theorem sz_of {P : Program} {i : Nat} {z : Option Value} {k b : Nat} (h : (P.info? i).map (fun i => (i.zero, i.size, i.bytes)) = some (z, k, b)) : (P.info? i).map (·.size) = some k := by
  cases hq : P.info? i with
  | none => simp [hq] at h
  | some x => simp [hq] at h; simp [h]
theorem sz_z_of {P : Program} {i : Nat} {z : Option Value} {k b : Nat} (h : (P.info? i).map (fun i => (i.zero, i.size, i.bytes)) = some (z, k, b)) : (P.info? i).map (fun i => (i.size, i.zero)) = some (k, z) := by
  cases hq : P.info? i with
  | none => simp [hq] at h
  | some x => simp [hq] at h; simp [h]
theorem st_ok {P : Program} {t : Nat} {z : List Value} {tg : List (Option Tag)} {fo : List Nat} {fs : Array Field} {b : Nat} (hu : P.underlying t = some (.struct fs)) (hi : (P.info? t).map (fun i => (i.zero, i.size, i.bytes)) = some (some (.agg z.toArray), z.length, b)) (hz : z.all (·.oneCell') = true) (hf : fieldsok P z.length fs.toList fo = true) : TKok P t (.st z tg fo) :=
  ⟨fs, hu, sz_z_of hi, fun v hv => List.all_eq_true.1 hz v hv, fun f k h => by obtain ⟨fd, h1, h2⟩ := (fieldsok_ok hf).1 f k h; exact ⟨fd, by simpa using h1, h2⟩, (fieldsok_ok hf).2⟩
theorem one_of {P : Program} {i : Nat} (h : (P.info? i).map (fun i => Nat.beq i.size 1) = some true) : (P.info? i).map (·.size) = some 1 := by
  cases hq : P.info? i with
  | none => simp [hq] at h
  | some x => simp [hq] at h; simp [h]
def tys : List (Nat × TK) := [(3, .int .i64),
  (2, .int .i64),
  (21, .int .i32),
  (5, .int .u8),
  (164, .int .u32),
  (167, .int .u64),
  (153, .int .u64),
  (12, .int .u64),
  (4, .bool),
  (9, .str),
  (92, .st [.slice none 0 0] [some (.sl .u8)] [0]),
  (113, .st [.slice none 0 0] [some (.sl .u8)] [0]),
  (117, .st [.int .i64 0, .slice none 0 0] [none, some (.sl .u8)] [0, 1]),
  (115, .st [.int .i64 0, .slice none 0 0] [none, some (.sl .u8)] [0, 1]),
  (45, .st [.int .i64 0, .int .i64 0, .int .i64 0, .slice none 0 0, .int .i64 0] [none, none, none, some .RShare, none] [0, 1, 2, 3, 4]),
  (40, .st [.int .i64 0, .int .i64 0, .int .i64 0, .slice none 0 0, .int .i64 0] [none, none, none, some .RShare, none] [0, 1, 2, 3, 4]),
  (94, .st [.int .i64 0, .slice none 0 0] [none, some (.sl .u8)] [0, 1]),
  (122, .st [.int .i64 0, .slice none 0 0] [none, some (.sl .u8)] [0, 1]),
  (56, .st [.int .i64 0, .slice none 0 0] [none, some .ARound] [0, 1]),
  (51, .st [.int .i64 0, .slice none 0 0] [none, some .ARound] [0, 1]),
  (27, .st [.int .i64 0, .int .i64 0, .int .i64 0, .int .i64 0, .slice none 0 0, .int .i64 0, .slice none 0 0, .int .i64 0] [none, none, none, none, some (.sl .u8), none, some (.sl .u8), none] [0, 1, 2, 3, 4, 5, 6, 7]),
  (24, .st [.int .i64 0, .int .i64 0, .int .i64 0, .int .i64 0, .slice none 0 0, .int .i64 0, .slice none 0 0, .int .i64 0] [none, none, none, none, some (.sl .u8), none, some (.sl .u8), none] [0, 1, 2, 3, 4, 5, 6, 7]),
  (131, .st [.int .i64 0, .int .i64 0, .int .i64 0, .int .i64 0, .slice none 0 0, .int .i64 0, .slice none 0 0, .int .i64 0, .int .i64 0, .int .i64 0, .int .i64 0, .int .i64 0, .slice none 0 0, .int .i64 0, .slice none 0 0, .int .i64 0] [none, none, none, none, some (.sl .u8), none, some (.sl .u8), none, none, none, none, none, some (.sl .u8), none, some (.sl .u8), none] [0, 8]),
  (128, .st [.int .i64 0, .int .i64 0, .int .i64 0, .int .i64 0, .slice none 0 0, .int .i64 0, .slice none 0 0, .int .i64 0, .int .i64 0, .int .i64 0, .int .i64 0, .int .i64 0, .slice none 0 0, .int .i64 0, .slice none 0 0, .int .i64 0] [none, none, none, none, some (.sl .u8), none, some (.sl .u8), none, none, none, none, none, some (.sl .u8), none, some (.sl .u8), none] [0, 8]),
  (70, .st [.int .i64 0, .slice none 0 0, .slice none 0 0, .int .i64 0, .slice none 0 0, .int .i64 0, .int .i64 0, .int .i64 0, .slice none 0 0, .int .i64 0] [none, some .Srv, some .Dev, none, some .ARound, none, none, none, some .int, none] [0, 1, 2, 3, 5, 6, 7, 8, 9]),
  (64, .st [.int .i64 0, .slice none 0 0, .slice none 0 0, .int .i64 0, .slice none 0 0, .int .i64 0, .int .i64 0, .int .i64 0, .slice none 0 0, .int .i64 0] [none, some .Srv, some .Dev, none, some .ARound, none, none, none, some .int, none] [0, 1, 2, 3, 5, 6, 7, 8, 9]),
  (79, .st [.int .i64 0, .int .i64 0, .int .i64 0] [none, none, none] [0, 1, 2]),
  (81, .st [.int .i64 0, .int .i64 0, .int .i64 0] [none, none, none] [0, 1, 2]),
  (62, .sl .int 3),
  (109, .sl .u8 5),
  (82, .sl .str 9),
  (22, .sl (.sl .u8) 109),
  (43, .sl .RShare 117),
  (38, .sl .RShare 115),
  (67, .sl .Srv 45),
  (60, .sl .Srv 40),
  (54, .sl .ARound 94),
  (49, .sl .ARound 122),
  (68, .sl .Dev 131),
  (61, .sl .Dev 128),
  (34, .sl .Trf 79),
  (31, .sl .Trf 81)]
def Γ (t : Nat) : TK := match look tys t with | some k => k | none => .other
def ty : Tag → Nat
  | .int => 3
  | .u8 => 5
  | .str => 9
  | (.sl .u8) => 109
  | (.sl .int) => 62
  | (.sl (.sl .u8)) => 22
  | .DB => 92
  | .RShare => 117
  | .Srv => 45
  | .ARound => 94
  | .Arc => 56
  | .Cli => 27
  | .Dev => 131
  | .Wld => 70
  | .Trf => 79
  | _ => 1000000000
theorem kind_3 : TKok Tryd.prog 3 (.int .i64) := Tryd.underlying3
theorem kind_2 : TKok Tryd.prog 2 (.int .i64) := Tryd.underlying2
theorem kind_21 : TKok Tryd.prog 21 (.int .i32) := Tryd.underlying21
theorem kind_5 : TKok Tryd.prog 5 (.int .u8) := Tryd.underlying5
theorem kind_164 : TKok Tryd.prog 164 (.int .u32) := Tryd.underlying164
theorem kind_167 : TKok Tryd.prog 167 (.int .u64) := Tryd.underlying167
theorem kind_153 : TKok Tryd.prog 153 (.int .u64) := Tryd.underlying153
theorem kind_12 : TKok Tryd.prog 12 (.int .u64) := Tryd.underlying12
theorem kind_4 : TKok Tryd.prog 4 (.bool) := Tryd.underlying4
theorem kind_9 : TKok Tryd.prog 9 (.str) := Tryd.underlying9
theorem kind_92 : TKok Tryd.prog 92 (.st [.slice none 0 0] [some (.sl .u8)] [0]) := st_ok Tryd.underlying92 inf_92 rfl (by kernel_rfl)
theorem kind_113 : TKok Tryd.prog 113 (.st [.slice none 0 0] [some (.sl .u8)] [0]) := st_ok Tryd.underlying113 inf_113 rfl (by kernel_rfl)
theorem kind_117 : TKok Tryd.prog 117 (.st [.int .i64 0, .slice none 0 0] [none, some (.sl .u8)] [0, 1]) := st_ok Tryd.underlying117 inf_117 rfl (by kernel_rfl)
theorem kind_115 : TKok Tryd.prog 115 (.st [.int .i64 0, .slice none 0 0] [none, some (.sl .u8)] [0, 1]) := st_ok Tryd.underlying115 inf_115 rfl (by kernel_rfl)
theorem kind_45 : TKok Tryd.prog 45 (.st [.int .i64 0, .int .i64 0, .int .i64 0, .slice none 0 0, .int .i64 0] [none, none, none, some .RShare, none] [0, 1, 2, 3, 4]) := st_ok Tryd.underlying45 inf_45 rfl (by kernel_rfl)
theorem kind_40 : TKok Tryd.prog 40 (.st [.int .i64 0, .int .i64 0, .int .i64 0, .slice none 0 0, .int .i64 0] [none, none, none, some .RShare, none] [0, 1, 2, 3, 4]) := st_ok Tryd.underlying40 inf_40 rfl (by kernel_rfl)
theorem kind_94 : TKok Tryd.prog 94 (.st [.int .i64 0, .slice none 0 0] [none, some (.sl .u8)] [0, 1]) := st_ok Tryd.underlying94 inf_94 rfl (by kernel_rfl)
theorem kind_122 : TKok Tryd.prog 122 (.st [.int .i64 0, .slice none 0 0] [none, some (.sl .u8)] [0, 1]) := st_ok Tryd.underlying122 inf_122 rfl (by kernel_rfl)
theorem kind_56 : TKok Tryd.prog 56 (.st [.int .i64 0, .slice none 0 0] [none, some .ARound] [0, 1]) := st_ok Tryd.underlying56 inf_56 rfl (by kernel_rfl)
theorem kind_51 : TKok Tryd.prog 51 (.st [.int .i64 0, .slice none 0 0] [none, some .ARound] [0, 1]) := st_ok Tryd.underlying51 inf_51 rfl (by kernel_rfl)
theorem kind_27 : TKok Tryd.prog 27 (.st [.int .i64 0, .int .i64 0, .int .i64 0, .int .i64 0, .slice none 0 0, .int .i64 0, .slice none 0 0, .int .i64 0] [none, none, none, none, some (.sl .u8), none, some (.sl .u8), none] [0, 1, 2, 3, 4, 5, 6, 7]) := st_ok Tryd.underlying27 inf_27 rfl (by kernel_rfl)
theorem kind_24 : TKok Tryd.prog 24 (.st [.int .i64 0, .int .i64 0, .int .i64 0, .int .i64 0, .slice none 0 0, .int .i64 0, .slice none 0 0, .int .i64 0] [none, none, none, none, some (.sl .u8), none, some (.sl .u8), none] [0, 1, 2, 3, 4, 5, 6, 7]) := st_ok Tryd.underlying24 inf_24 rfl (by kernel_rfl)
theorem kind_131 : TKok Tryd.prog 131 (.st [.int .i64 0, .int .i64 0, .int .i64 0, .int .i64 0, .slice none 0 0, .int .i64 0, .slice none 0 0, .int .i64 0, .int .i64 0, .int .i64 0, .int .i64 0, .int .i64 0, .slice none 0 0, .int .i64 0, .slice none 0 0, .int .i64 0] [none, none, none, none, some (.sl .u8), none, some (.sl .u8), none, none, none, none, none, some (.sl .u8), none, some (.sl .u8), none] [0, 8]) := st_ok Tryd.underlying131 inf_131 rfl (by kernel_rfl)
theorem kind_128 : TKok Tryd.prog 128 (.st [.int .i64 0, .int .i64 0, .int .i64 0, .int .i64 0, .slice none 0 0, .int .i64 0, .slice none 0 0, .int .i64 0, .int .i64 0, .int .i64 0, .int .i64 0, .int .i64 0, .slice none 0 0, .int .i64 0, .slice none 0 0, .int .i64 0] [none, none, none, none, some (.sl .u8), none, some (.sl .u8), none, none, none, none, none, some (.sl .u8), none, some (.sl .u8), none] [0, 8]) := st_ok Tryd.underlying128 inf_128 rfl (by kernel_rfl)
theorem kind_70 : TKok Tryd.prog 70 (.st [.int .i64 0, .slice none 0 0, .slice none 0 0, .int .i64 0, .slice none 0 0, .int .i64 0, .int .i64 0, .int .i64 0, .slice none 0 0, .int .i64 0] [none, some .Srv, some .Dev, none, some .ARound, none, none, none, some .int, none] [0, 1, 2, 3, 5, 6, 7, 8, 9]) := st_ok Tryd.underlying70 inf_70 rfl (by kernel_rfl)
theorem kind_64 : TKok Tryd.prog 64 (.st [.int .i64 0, .slice none 0 0, .slice none 0 0, .int .i64 0, .slice none 0 0, .int .i64 0, .int .i64 0, .int .i64 0, .slice none 0 0, .int .i64 0] [none, some .Srv, some .Dev, none, some .ARound, none, none, none, some .int, none] [0, 1, 2, 3, 5, 6, 7, 8, 9]) := st_ok Tryd.underlying64 inf_64 rfl (by kernel_rfl)
theorem kind_79 : TKok Tryd.prog 79 (.st [.int .i64 0, .int .i64 0, .int .i64 0] [none, none, none] [0, 1, 2]) := st_ok Tryd.underlying79 inf_79 rfl (by kernel_rfl)
theorem kind_81 : TKok Tryd.prog 81 (.st [.int .i64 0, .int .i64 0, .int .i64 0] [none, none, none] [0, 1, 2]) := st_ok Tryd.underlying81 inf_81 rfl (by kernel_rfl)
theorem kind_62 : TKok Tryd.prog 62 (.sl .int 3) := ⟨Tryd.underlying62, sz_of inf_3⟩
theorem kind_109 : TKok Tryd.prog 109 (.sl .u8 5) := ⟨Tryd.underlying109, sz_of inf_5⟩
theorem kind_82 : TKok Tryd.prog 82 (.sl .str 9) := ⟨Tryd.underlying82, sz_of inf_9⟩
theorem kind_22 : TKok Tryd.prog 22 (.sl (.sl .u8) 109) := ⟨Tryd.underlying22, sz_of inf_109⟩
theorem kind_43 : TKok Tryd.prog 43 (.sl .RShare 117) := ⟨Tryd.underlying43, sz_of inf_117⟩
theorem kind_38 : TKok Tryd.prog 38 (.sl .RShare 115) := ⟨Tryd.underlying38, sz_of inf_115⟩
theorem kind_67 : TKok Tryd.prog 67 (.sl .Srv 45) := ⟨Tryd.underlying67, sz_of inf_45⟩
theorem kind_60 : TKok Tryd.prog 60 (.sl .Srv 40) := ⟨Tryd.underlying60, sz_of inf_40⟩
theorem kind_54 : TKok Tryd.prog 54 (.sl .ARound 94) := ⟨Tryd.underlying54, sz_of inf_94⟩
theorem kind_49 : TKok Tryd.prog 49 (.sl .ARound 122) := ⟨Tryd.underlying49, sz_of inf_122⟩
theorem kind_68 : TKok Tryd.prog 68 (.sl .Dev 131) := ⟨Tryd.underlying68, sz_of inf_131⟩
theorem kind_61 : TKok Tryd.prog 61 (.sl .Dev 128) := ⟨Tryd.underlying61, sz_of inf_128⟩
theorem kind_34 : TKok Tryd.prog 34 (.sl .Trf 79) := ⟨Tryd.underlying34, sz_of inf_79⟩
theorem kind_31 : TKok Tryd.prog 31 (.sl .Trf 81) := ⟨Tryd.underlying31, sz_of inf_81⟩
set_option maxRecDepth 100000 in
theorem kinds : ∀ e, e ∈ tys → TKok Tryd.prog e.1 e.2 := by
  simp only [tys, List.forall_mem_cons]
  exact ⟨kind_3, kind_2, kind_21, kind_5, kind_164, kind_167, kind_153, kind_12, kind_4, kind_9, kind_92, kind_113, kind_117, kind_115, kind_45, kind_40, kind_94, kind_122, kind_56, kind_51, kind_27, kind_24, kind_131, kind_128, kind_70, kind_64, kind_79, kind_81, kind_62, kind_109, kind_82, kind_22, kind_43, kind_38, kind_67, kind_60, kind_54, kind_49, kind_68, kind_61, kind_34, kind_31, by simp⟩
set_option maxRecDepth 100000 in
theorem ones : ∀ e, e ∈ tys → (∀ z tg fo, e.2 ≠ .st z tg fo) → (Tryd.prog.info? e.1).map (·.size) = some 1 := by
  simp only [tys, List.forall_mem_cons]
  refine ⟨fun _ => one_of (by kernel_rfl), fun _ => one_of (by kernel_rfl), fun _ => one_of (by kernel_rfl), fun _ => one_of (by kernel_rfl), fun _ => one_of (by kernel_rfl), fun _ => one_of (by kernel_rfl), fun _ => one_of (by kernel_rfl), fun _ => one_of (by kernel_rfl), fun _ => one_of (by kernel_rfl), fun _ => one_of (by kernel_rfl), fun h => absurd rfl (h _ _ _), fun h => absurd rfl (h _ _ _), fun h => absurd rfl (h _ _ _), fun h => absurd rfl (h _ _ _), fun h => absurd rfl (h _ _ _), fun h => absurd rfl (h _ _ _), fun h => absurd rfl (h _ _ _), fun h => absurd rfl (h _ _ _), fun h => absurd rfl (h _ _ _), fun h => absurd rfl (h _ _ _), fun h => absurd rfl (h _ _ _), fun h => absurd rfl (h _ _ _), fun h => absurd rfl (h _ _ _), fun h => absurd rfl (h _ _ _), fun h => absurd rfl (h _ _ _), fun h => absurd rfl (h _ _ _), fun h => absurd rfl (h _ _ _), fun h => absurd rfl (h _ _ _), fun _ => one_of (by kernel_rfl), fun _ => one_of (by kernel_rfl), fun _ => one_of (by kernel_rfl), fun _ => one_of (by kernel_rfl), fun _ => one_of (by kernel_rfl), fun _ => one_of (by kernel_rfl), fun _ => one_of (by kernel_rfl), fun _ => one_of (by kernel_rfl), fun _ => one_of (by kernel_rfl), fun _ => one_of (by kernel_rfl), fun _ => one_of (by kernel_rfl), fun _ => one_of (by kernel_rfl), fun _ => one_of (by kernel_rfl), fun _ => one_of (by kernel_rfl), by simp⟩
theorem X : Ctx Tryd.prog ty Γ where
  kind := fun t => by
    unfold Γ
    split
    · rename_i k hk; exact kinds (t, k) (look_mem hk)
    · trivial
  one := fun t h1 h2 => by
    unfold Γ at h1 h2
    split at h1
    · rename_i k hk; exact ones (t, k) (look_mem hk) h1
    · rename_i hk; rw [hk] at h2; exact absurd rfl h2
theorem El_all (t : Tag) (h : ty t < 1000000000) : El Tryd.prog ty t := by
  unfold ty at h
  split at h
  · exact inf_3
  · exact inf_5
  · exact inf_9
  · exact inf_109
  · exact inf_62
  · exact inf_22
  · exact inf_92
  · exact inf_117
  · exact inf_45
  · exact inf_94
  · exact inf_56
  · exact inf_27
  · exact inf_131
  · exact inf_70
  · exact inf_79
  · exact absurd h (by decide)
end Go.Proofs.YtjknhnhcbadigaaDoor.G
namespace Go.Proofs.YtjknhnhcbadigaaDoor.G
set_option linter.all false
open Go.RowKit L D
theorem MO : Tryd.prog.follows .mixedOrders = true := by kernel_rfl
/-- What bools say, as propositions: one law to rewrite with. -/
theorem nb : (∀ (p : Prop) [Decidable p], (decide p = true) = p) ∧ (∀ (p : Prop) [Decidable p], (decide p = false) = ¬ p) ∧ (∀ b : Bool, ((!b) = true) = (b = false)) ∧ (∀ b : Bool, ((!b) = false) = (b = true)) ∧
    (∀ (α : Type) [BEq α] [LawfulBEq α] (a b : α), ((a == b) = true) = (a = b)) ∧ (∀ (α : Type) [BEq α] [LawfulBEq α] (a b : α), ((a != b) = true) = (¬ a = b)) ∧ (∀ (α : Type) [BEq α] [LawfulBEq α] (a b : α), ((a == b) = false) = (¬ a = b)) ∧ (∀ (α : Type) [BEq α] [LawfulBEq α] (a b : α), ((a != b) = false) = (a = b)) ∧
    (∀ (α : Type) (a b : α), (a ≠ b) = ¬ a = b) ∧ (∀ a b : Int, (a > b) = (b < a)) ∧ (∀ a b : Int, (a ≥ b) = (b ≤ a)) ∧ (∀ a b : Nat, (a > b) = (b < a)) ∧ (∀ a b : Nat, (a ≥ b) = (b ≤ a)) ∧ (∀ a b : Int, (¬ a < b) = (b ≤ a)) ∧ (∀ a b : Int, (¬ a ≤ b) = (b < a)) ∧
    (∀ (p : Prop) [Decidable p], (¬ ¬ p) = p) ∧ (∀ n : Nat, (n : Int).toNat = n) ∧ (∀ m n : Nat, ((m : Int) < n) = (m < n)) ∧ (∀ m n : Nat, ((m : Int) ≤ n) = (m ≤ n)) ∧ (∀ a b : Nat, (¬ a < b) = (b ≤ a)) ∧ (∀ a b : Nat, (¬ a ≤ b) = (b < a)) ∧
    (∀ (p : Prop) [Decidable p] (b : Bool), (if p then b else false) = (decide p && b)) ∧ (∀ (p : Prop) [Decidable p] (b : Bool), (if p then true else b) = (decide p || b)) ∧ (∀ (p : Prop) [Decidable p] (b : Bool), (if p then false else b) = (!decide p && b)) ∧ (∀ (p : Prop) [Decidable p] (b : Bool), (if p then b else true) = (!decide p || b)) ∧
    (∀ a b : Bool, ((a && b) = true) = (a = true ∧ b = true)) ∧ (∀ a b : Bool, ((a || b) = true) = (a = true ∨ b = true)) ∧ (∀ a b : Bool, ((a && b) = false) = (a = false ∨ b = false)) ∧ (∀ a b : Bool, ((a || b) = false) = (a = false ∧ b = false)) ∧ (∀ (b : Bool), decide (b = true) = b) := by
  refine ⟨by simp, by simp, by simp, by simp, fun _ _ _ a b => propext beq_iff_eq, fun _ _ _ a b => propext bne_iff_ne, fun _ _ _ a b => propext beq_eq_false_iff_ne, fun _ _ _ a b => propext bne_eq_false_iff_eq, by simp, by simp, by simp, by simp, by simp, by simp, by simp, by simp, by simp, by simp, by simp, by simp, by simp, by simp, by simp, by simp, by simp, by simp, by simp, by simp, by simp, by simp⟩
/-- Lengths. -/
theorem lens : (∀ n : Nat, (n : Int).toNat = n) ∧ (∀ (α : Type) (a b : List α), (a ++ b).length = a.length + b.length) ∧ (∀ (α : Type) (a : α), [a].length = 1) ∧ (∀ (α : Type) (a : α) (l : List α), (a :: l).length = l.length + 1) ∧ (∀ (α : Type), ([] : List α).length = 0) ∧ (∀ (α : Type) (n : Nat) (a : α), (List.replicate n a).length = n) ∧
    (∀ (α : Type) (l : List α) (n : Nat) (a : α), (l.set n a).length = l.length) ∧ (∀ (α β : Type) (f : α → β) (l : List α), (l.map f).length = l.length) ∧ (∀ (α : Type) (l : List α) (n : Nat), (l.take n).length = min n l.length) ∧ (∀ (α : Type) (l : List α) (n : Nat), (l.drop n).length = l.length - n) ∧ (∀ n : Nat, (List.range n).length = n) := by
  refine ⟨by simp, by simp, by simp, by simp, by simp, by simp, by simp, by simp, by simp, by simp, by simp⟩
theorem AllP.mk {p : Prop} {l : List Prop} (h : p) (k : AllP l) : AllP (p :: l) := ⟨h, k⟩
theorem AllP.nil : AllP [] := True.intro
theorem take_snoc {α : Type} (l : List α) (k : Nat) (d : α) (h : k < l.length) : l.take (k + 1) = l.take k ++ [l.getD k d] := by
  rw [List.take_add_one, List.getD_eq_getElem?_getD, List.getElem?_eq_getElem h]; rfl
theorem wadd (a : Int) (n : Nat) (h : a = n) (h2 : n < 9223372036854775807) : IntKind.i64.wrap (a + 1) = ((n + 1 : Nat) : Int) := by
  subst h; rw [IntWalk.i64_in _ (by omega)]; omega
/-- A scalar's contract, as the laws' walks ask for it. -/
theorem gives_of {P : Program} {ty : Tag → Nat} {f : FuncId} {xs : List S1} {v : Value} (h : Sound ty P f xs [.a (.lit v)]) {w : World} {us : List Value} (ha : All2 (Arg1 w) xs us) (hA : Amb w := by first | assumption | exact trivial) : Calls P f us.toArray w (Gives w v) := by
  refine (h.2 w us hA ha).mono ?_
  rintro e w' ⟨u, fp, rfl, hb, _, f1, f2, ⟨rfl, _⟩, _⟩
  exact ⟨rfl, hb⟩
theorem arg_agg {w : World} {l : List V} {cs : List Value} {fp : List Nat} (h : RIs w l cs fp) : Arg1 w (.agg l) (.agg cs.toArray) := ⟨cs, fp, rfl, h⟩
/-- A slice has no more elements than a slice can have. -/
theorem W.bound {P : Program} {ty : Tag → Nat} {w0 : Base} {c : Code} {Q : Post} {st : St} (d : Nat) {t : Tag} {l : List (T t)} (h : look st.sl d = some (.one (.a (.sl t l)))) (k : l.length ≤ 9223372036854775807 → W P ty w0 c Q st) : W P ty w0 c Q st := by
  intro a w iv
  obtain ⟨env, g⟩ := iv.good
  obtain ⟨fp, ⟨oa, cap, _, h1, h2, _⟩, _⟩ := g.slot d _ h
  have e : maxLen = 9223372036854775807 := by decide
  exact k (by omega) a w iv
theorem W.boundA {P : Program} {ty : Tag → Nat} {w0 : Base} {c : Code} {Q : Post} {st : St} (d i : Nat) {cs : List V} {t : Tag} {l : List (T t)} (h : look st.sl d = some (.one (.agg cs))) (hc : cs[i]? = some (.sl t l)) (k : l.length ≤ 9223372036854775807 → W P ty w0 c Q st) : W P ty w0 c Q st := by
  intro a w iv
  obtain ⟨env, g⟩ := iv.good
  obtain ⟨us, _, hr⟩ := g.slot d _ h
  obtain ⟨u, _, fp, ⟨oa, cap, _, h1, h2, _⟩, _⟩ := hr.at hc
  have e : maxLen = 9223372036854775807 := by decide
  exact k (by omega) a w iv
theorem str8_app (a b : List UInt8) : str8 a ++ str8 b = str8 (a ++ b) := by
  apply ByteArray.ext
  simp [str8]
theorem str8_list (a : List UInt8) : (str8 a).data.toList = a := rfl
theorem str8_size (a : List UInt8) : (str8 a).size = a.length := rfl
theorem map_str8 (l : List (List UInt8)) : l.map ((fun x : ByteArray => x.data.toList) ∘ str8) = l := List.map_id l
theorem max64 : IntKind.i64.max = 9223372036854775807 := by decide
end Go.Proofs.YtjknhnhcbadigaaDoor.G
namespace Go.Proofs.YtjknhnhcbadigaaDoor.G
set_option linter.all false
open Go.RowKit L D
def szr (left : Int) (n : Nat) : Int := if (n : Int) ≤ left then left - n else -1
theorem szr_pos {l : Int} {n : Nat} (h : 0 ≤ szr l n) : szr l n = l - n ∧ (n : Int) ≤ l := by
  unfold szr at *
  split at h
  · rename_i h1; exact ⟨by rw [if_pos h1], h1⟩
  · omega
theorem szr_neg {l : Int} {n : Nat} (h0 : 0 ≤ l) (h : szr l n < 0) : l < n := by
  unfold szr at h
  split at h <;> omega
theorem szr_ge {l : Int} {n : Nat} (h : (n : Int) ≤ l) : szr l n = l - n := by unfold szr; rw [if_pos h]
theorem szr_lt {l : Int} {n : Nat} (h : l < (n : Int)) : szr l n = -1 := by unfold szr; rw [if_neg (by omega)]
theorem sum_step {α : Type} (f : α → Nat) (l : List α) (d : α) (k : Nat) (h : k < l.length) : ((l.take (k + 1)).map f).sum = ((l.take k).map f).sum + f (l.getD k d) :=
  take_sum l f k _ (by rw [List.getD_eq_getElem?_getD, List.getElem?_eq_getElem h]; rfl)
theorem set_step {α : Type} (l : List α) (d : α) (k : Nat) (h : k < l.length) : (l.take k ++ List.replicate (l.length - k) d).set k (l.getD k d) = l.take (k + 1) ++ List.replicate (l.length - (k + 1)) d := by
  have hk : (l.take k).length = k := by rw [List.length_take]; omega
  rw [List.set_append_right _ _ (by omega), hk, Nat.sub_self, show l.length - k = (l.length - (k + 1)) + 1 by omega, List.replicate_succ, List.set_cons_zero, take_snoc l k d h, List.append_assoc]
  rfl
theorem set_len {α : Type} (l : List α) (d : α) (k : Nat) (h : k ≤ l.length) : (l.take k ++ List.replicate (l.length - k) d).length = l.length := by
  simp; omega
theorem u8_back (x : UInt8) : UInt8.ofNat (Int.toNat ((x.toNat : Nat) : Int)) = x := by simp
theorem u8w (n : Int) : 0 ≤ IntKind.u8.wrap n ∧ IntKind.u8.wrap n < 256 := by
  unfold IntKind.wrap
  simp only [IntKind.signed, IntKind.bits]
  simp
  omega
theorem u8n (x : UInt8) : 0 ≤ ((x.toNat : Nat) : Int) ∧ ((x.toNat : Nat) : Int) < 256 := by
  have := x.toNat_lt
  omega
def mnl {α : Type} (mn : α → Nat) (l : List α) : Nat := (l.map mn).sum
section
variable {α : Type} {mk : Int → α → α} {mn : α → Nat}
theorem mnl_cons (x : α) (r : List α) : mnl mn (x :: r) = mn x + mnl mn r := by simp [mnl]
end
theorem W.conv {P : Program} {ty : Tag → Nat} {zb : Base} {c : Code} {Q : Post} {st : St} (st' : St) (h : st = st') (k : W P ty zb c Q st') : W P ty zb c Q st := h ▸ k
end Go.Proofs.YtjknhnhcbadigaaDoor.G
namespace Go.Proofs.YtjknhnhcbadigaaDoor.G
set_option linter.all false
open Go.RowKit L D
set_option maxRecDepth 100000
theorem getD_some {α : Type} (l : List α) (d : α) (k : Nat) (h : k < l.length) : l[k]? = some (l.getD k d) := by
  rw [List.getD_eq_getElem?_getD, List.getElem?_eq_getElem h]; rfl
def size_DB (x : DB) : Nat := (lsz List.length) x.rows
def size_RShare (x : RShare) : Nat := size_DB x.share
def mne_RShare (x : RShare) : Nat := 1 + (mnl (mnl (fun _ => 1))) x.share.rows
def size_Srv (x : Srv) : Nat := (lsz size_RShare) x.received
def mne_Srv (x : Srv) : Nat := 1 + 1 + 1 + (mnl mne_RShare) x.received + 1
def size_ARound (x : ARound) : Nat := size_DB x.db
def mne_ARound (x : ARound) : Nat := 1 + (mnl (mnl (fun _ => 1))) x.db.rows
def size_Arc (x : Arc) : Nat := (lsz size_ARound) x.rounds
def mnv_Arc (x : Arc) : Nat := (mnl mne_ARound) x.rounds
def size_Cli (x : Cli) : Nat := (lsz List.length) x.submitted + (lsz List.length) x.inbox
def size_Dev (x : Dev) : Nat := size_Cli x.live + size_Cli x.saved
def mne_Dev (x : Dev) : Nat := 1 + 1 + 1 + 1 + (mnl (mnl (fun _ => 1))) x.live.submitted + 1 + (mnl (mnl (fun _ => 1))) x.live.inbox + 1 + 1 + 1 + 1 + 1 + (mnl (mnl (fun _ => 1))) x.saved.submitted + 1 + (mnl (mnl (fun _ => 1))) x.saved.inbox + 1
def size_Wld (x : Wld) : Nat := (lsz size_Srv) x.servers + (lsz size_Dev) x.devices + size_Arc x.archive + List.length x.replaced
def mnv_Wld (x : Wld) : Nat := (mnl mne_Srv) x.servers + (mnl mne_Dev) x.devices + mnv_Arc x.archive + (mnl (fun _ => 1)) x.replaced
theorem mnl_one {α : Type} (l : List α) : mnl (fun _ => 1) l = l.length := by
  induction l with
  | nil => rfl
  | cons x r ih => rw [mnl_cons, ih, List.length_cons]; omega
theorem mnl_lsz {α : Type} {mn sz : α → Nat} {C : Nat} (h : ∀ e, mn e ≤ C * (1 + sz e)) (l : List α) : mnl mn l ≤ C * lsz sz l := by
  unfold lsz mnl
  induction l with
  | nil => simp
  | cons x r ih =>
    simp only [List.map_cons, List.sum_cons, List.length_cons]
    have := h x
    have e : C * (r.length + 1 + (sz x + (r.map sz).sum)) = C * (1 + sz x) + C * (r.length + (r.map sz).sum) := by rw [← Nat.mul_add]; congr 1; omega
    omega
theorem mnl_len {α : Type} (l : List α) : mnl (fun _ => 1) l ≤ 32 * List.length l := by rw [mnl_one]; omega
theorem mne_le_RShare (x : RShare) : mne_RShare x ≤ 32 * (1 + size_RShare x) := by
  have h0 : (mnl (mnl (fun _ => 1))) x.share.rows ≤ 32 * (lsz List.length) x.share.rows := mnl_lsz (C := 32) (sz := List.length) (fun e => by have : (mnl (fun _ => 1)) e ≤ 32 * List.length e := mnl_len e; omega) x.share.rows
  simp only [mne_RShare, size_RShare, size_DB]
  omega
theorem mne_le_Srv (x : Srv) : mne_Srv x ≤ 32 * (1 + size_Srv x) := by
  have h0 : (mnl mne_RShare) x.received ≤ 32 * (lsz size_RShare) x.received := mnl_lsz (C := 32) (sz := size_RShare) mne_le_RShare x.received
  simp only [mne_Srv, size_Srv]
  omega
theorem mne_le_ARound (x : ARound) : mne_ARound x ≤ 32 * (1 + size_ARound x) := by
  have h0 : (mnl (mnl (fun _ => 1))) x.db.rows ≤ 32 * (lsz List.length) x.db.rows := mnl_lsz (C := 32) (sz := List.length) (fun e => by have : (mnl (fun _ => 1)) e ≤ 32 * List.length e := mnl_len e; omega) x.db.rows
  simp only [mne_ARound, size_ARound, size_DB]
  omega
theorem mne_le_Dev (x : Dev) : mne_Dev x ≤ 32 * (1 + size_Dev x) := by
  have h0 : (mnl (mnl (fun _ => 1))) x.live.submitted ≤ 32 * (lsz List.length) x.live.submitted := mnl_lsz (C := 32) (sz := List.length) (fun e => by have : (mnl (fun _ => 1)) e ≤ 32 * List.length e := mnl_len e; omega) x.live.submitted
  have h1 : (mnl (mnl (fun _ => 1))) x.live.inbox ≤ 32 * (lsz List.length) x.live.inbox := mnl_lsz (C := 32) (sz := List.length) (fun e => by have : (mnl (fun _ => 1)) e ≤ 32 * List.length e := mnl_len e; omega) x.live.inbox
  have h2 : (mnl (mnl (fun _ => 1))) x.saved.submitted ≤ 32 * (lsz List.length) x.saved.submitted := mnl_lsz (C := 32) (sz := List.length) (fun e => by have : (mnl (fun _ => 1)) e ≤ 32 * List.length e := mnl_len e; omega) x.saved.submitted
  have h3 : (mnl (mnl (fun _ => 1))) x.saved.inbox ≤ 32 * (lsz List.length) x.saved.inbox := mnl_lsz (C := 32) (sz := List.length) (fun e => by have : (mnl (fun _ => 1)) e ≤ 32 * List.length e := mnl_len e; omega) x.saved.inbox
  simp only [mne_Dev, size_Dev, size_Cli]
  omega
theorem mnv_le_Wld (x : Wld) : mnv_Wld x ≤ 32 * size_Wld x := by
  have h0 : (mnl mne_Srv) x.servers ≤ 32 * (lsz size_Srv) x.servers := mnl_lsz (C := 32) (sz := size_Srv) mne_le_Srv x.servers
  have h1 : (mnl mne_Dev) x.devices ≤ 32 * (lsz size_Dev) x.devices := mnl_lsz (C := 32) (sz := size_Dev) mne_le_Dev x.devices
  have h2 : (mnl mne_ARound) x.archive.rounds ≤ 32 * (lsz size_ARound) x.archive.rounds := mnl_lsz (C := 32) (sz := size_ARound) mne_le_ARound x.archive.rounds
  have h3 : (mnl (fun _ => 1)) x.replaced ≤ 32 * List.length x.replaced := mnl_len x.replaced
  simp only [mnv_Wld, mnv_Arc, size_Wld, size_Arc]
  omega
end Go.Proofs.YtjknhnhcbadigaaDoor.G
namespace Go.Proofs.YtjknhnhcbadigaaDoor.G
set_option linter.all false
open Go.RowKit L D
set_option maxRecDepth 100000
theorem c_szByteS (l : (List UInt8)) (left : Int) (h0 : 0 ≤ left) (h1 : left ≤ 1048576) : Sound ty Tryd.prog 65 [.a (.sl .u8 l), .a (.lit (.int .i64 left))] [.a (.lit (.int .i64 (szr left (List.length l))))] := by
  refine Sound.of X Tryd.call65 Tryd.func65 rfl rfl (by decide) Tryd.ntmps65 (by simp) ?_
  intro zb
  refine W.bound 0 rfl fun hl => ?_
  refine W.seq ?_
  refine W.reg X [] [] [0, 1] [] rfl ⟨⟩ ?_
  refine W.seq ?_
  refine W.reg X [] [] [1] [] rfl ⟨⟩ ?_
  rw [IntWalk.i64_in (left - (l.length : Nat)) (by omega)]
  refine W.seq ?_
  refine W.seq ?_
  refine W.reg X [] [] [1, 10] [] rfl ⟨⟩ ?_
  refine W.cond rfl (fun hb0 => ?_) (fun hb0 => ?_)
  · try simp only [nb] at hb0
    refine W.seq ?_
    refine W.reg X [] [] [4] [] rfl ⟨⟩ ?_
    refine W.ret ?_
    exact Fin.ret rfl ⟨by rw [szr_lt (by omega)], ⟨⟩⟩
  · try simp only [nb] at hb0
    refine W.skip ?_
    refine W.seq ?_
    refine W.reg X [] [] [4] [] rfl ⟨⟩ ?_
    refine W.ret ?_
    exact Fin.ret rfl ⟨by rw [szr_ge (by omega)], ⟨⟩⟩
theorem c_szByteSS (l : (List (List UInt8))) (left : Int) (h0 : 0 ≤ left) (h1 : left ≤ 1048576) : Sound ty Tryd.prog 33 [.a (.sl (.sl .u8) l), .a (.lit (.int .i64 left))] [.a (.lit (.int .i64 (szr left ((lsz List.length) l))))] := by
  refine Sound.of X Tryd.call33 Tryd.func33 rfl rfl (by decide) Tryd.ntmps33 (by simp) ?_
  intro zb
  refine W.bound 0 rfl fun hl => ?_
  refine W.seq ?_
  refine W.reg X [] [] [0, 1] [] rfl ⟨⟩ ?_
  refine W.seq ?_
  refine W.reg X [] [] [0, 1] [] rfl ⟨⟩ ?_
  rw [IntWalk.i64_in (left - (l.length : Nat)) (by omega)]
  refine W.seq ?_
  refine W.seq ?_
  refine W.reg X [] [] [0, 1, 11] [] rfl ⟨⟩ ?_
  refine W.cond rfl (fun hb0 => ?_) (fun hb0 => ?_)
  · try simp only [nb] at hb0
    refine W.seq ?_
    refine W.reg X [] [] [4] [] rfl ⟨⟩ ?_
    refine W.ret ?_
    exact Fin.ret rfl ⟨by rw [szr_lt (by unfold lsz; omega)], ⟨⟩⟩
  · try simp only [nb] at hb0
    refine W.skip ?_
    refine W.seq ?_
    refine W.seq ?_
    refine W.reg X [] [] [0, 1, 5] [] rfl ⟨⟩ ?_
    refine W.block ?_
    refine W.loopO (fun k => k ≤ l.length ∧ (l.length : Int) + (((l.take k).map List.length).sum : Nat) ≤ left) (fun k : Nat => [(1, .one (.a (.lit (.int .i64 (left - (l.length : Nat) - (((l.take k).map List.length).sum : Nat)))))), (5, .one (.a (.lit (.int .i64 k))))]) (fun k => []) (fun k => l.length - k) 0 (fun k => rfl) ⟨Nat.zero_le _, by simp; omega⟩ (by simp) ?_
    rintro k ⟨hk, hs⟩
    refine W.seq ?_
    refine W.seq ?_
    refine W.reg X [] [] [0, 1, 5, 15] [] rfl ⟨⟩ ?_
    refine W.cond rfl (fun hb1 => ?_) (fun hb1 => ?_)
    · try simp only [nb] at hb1
      have hsum := sum_step List.length l (dfl (.sl .u8)) k hb1
      have hle := take_sum_le l List.length (k + 1)
      refine W.skip ?_
      refine W.seq ?_
      refine W.block ?_
      refine W.seq ?_
      refine W.reg X [] [(23, ⟨false, [.a (.lit (.int .i64 (szr (left - (l.length : Nat) - (((l.take k).map List.length).sum : Nat)) (List.length (l.getD k (dfl (.sl .u8)))))))]⟩)] [0, 1, 5] [] rfl ⟨c_szByteS (l.getD k (dfl (.sl .u8))) _ (by omega) (by omega), by omega, ⟨⟩⟩ ?_
      refine W.seq ?_
      refine W.reg X [] [] [0, 1, 5, 25] [] rfl ⟨⟩ ?_
      refine W.cond rfl (fun hb2 => ?_) (fun hb2 => ?_)
      · try simp only [nb] at hb2
        have hn := szr_neg (by omega) hb2
        refine W.seq ?_
        refine W.reg X [] [] [4] [] rfl ⟨⟩ ?_
        refine W.ret ?_
        exact Fin.ret rfl ⟨by rw [szr_lt (by unfold lsz; omega)], ⟨⟩⟩
      · try simp only [nb] at hb2
        obtain ⟨e2, e3⟩ := szr_pos hb2
        rw [e2]
        refine W.skip ?_
        refine W.reg X [] [] [0, 1, 5] [] rfl ⟨⟩ ?_
        refine ⟨k + 1, ⟨by omega, by omega⟩, by omega, ?_⟩
        rw [wadd _ k rfl (by omega), show left - (l.length : Nat) - (((l.take k).map List.length).sum : Nat) - (List.length (l.getD k (dfl (.sl .u8))) : Nat) = left - (l.length : Nat) - (((l.take (k + 1)).map List.length).sum : Nat) by omega]
    · try simp only [nb] at hb1
      refine W.exit ?_
      refine W.seq ?_
      refine W.reg X [] [] [4] [] rfl ⟨⟩ ?_
      refine W.ret ?_
      have hf : l.take k = l := List.take_of_length_le (by omega)
      rw [hf] at hs
      exact Fin.ret rfl ⟨by rw [hf, szr_ge (by unfold lsz; omega)]; congr 1; unfold lsz; omega, ⟨⟩⟩
theorem c_szDatabase (x : DB) (left : Int) (h0 : 0 ≤ left) (h1 : left ≤ 1048576) : Sound ty Tryd.prog 88 [.agg (dec_DB x), .a (.lit (.int .i64 left))] [.a (.lit (.int .i64 (szr left (size_DB x))))] := by
  refine Sound.of X Tryd.call88 Tryd.func88 rfl rfl (by decide) Tryd.ntmps88 (by simp) ?_
  intro zb
  refine W.seq ?_
  refine W.reg X [] [] [1, 2] [] rfl ⟨⟩ ?_
  refine W.seq ?_
  refine W.reg X [] [(8, ⟨false, [.a (.lit (.int .i64 (szr (left) ((lsz List.length) x.rows))))]⟩)] [1] [] rfl ⟨c_szByteSS x.rows (left) (by omega) (by omega), ⟨⟩⟩ ?_
  refine W.seq ?_
  refine W.seq ?_
  refine W.reg X [] [] [1, 10] [] rfl ⟨⟩ ?_
  refine W.cond rfl (fun hb0 => ?_) (fun hb0 => ?_)
  · try simp only [nb] at hb0
    refine W.seq ?_
    refine W.reg X [] [] [4] [] rfl ⟨⟩ ?_
    refine W.ret ?_
    exact Fin.ret rfl ⟨by rw [szr_lt (by have := szr_neg (by omega) hb0; unfold size_DB; omega)], ⟨⟩⟩
  · try simp only [nb] at hb0
    obtain ⟨e0, e0'⟩ := szr_pos hb0
    rw [e0]
    refine W.skip ?_
    refine W.seq ?_
    refine W.reg X [] [] [4] [] rfl ⟨⟩ ?_
    refine W.ret ?_
    exact Fin.ret rfl ⟨by rw [szr_ge (by unfold size_DB; omega)]; first | done | (congr 1; done) | (congr 1; unfold size_DB; omega), ⟨⟩⟩
theorem c_szArchivedRound (x : ARound) (left : Int) (h0 : 0 ≤ left) (h1 : left ≤ 1048576) : Sound ty Tryd.prog 73 [.agg (dec_ARound x), .a (.lit (.int .i64 left))] [.a (.lit (.int .i64 (szr left (size_ARound x))))] := by
  refine Sound.of X Tryd.call73 Tryd.func73 rfl rfl (by decide) Tryd.ntmps73 (by simp) ?_
  intro zb
  refine W.seq ?_
  refine W.reg X [] [] [1, 2] [] rfl ⟨⟩ ?_
  refine W.seq ?_
  refine W.reg X [] [(8, ⟨false, [.a (.lit (.int .i64 (szr (left) (size_DB x.db))))]⟩)] [1] [] rfl ⟨c_szDatabase x.db (left) (by omega) (by omega), ⟨⟩⟩ ?_
  refine W.seq ?_
  refine W.seq ?_
  refine W.reg X [] [] [1, 10] [] rfl ⟨⟩ ?_
  refine W.cond rfl (fun hb0 => ?_) (fun hb0 => ?_)
  · try simp only [nb] at hb0
    refine W.seq ?_
    refine W.reg X [] [] [4] [] rfl ⟨⟩ ?_
    refine W.ret ?_
    exact Fin.ret rfl ⟨by rw [szr_lt (by have := szr_neg (by omega) hb0; unfold size_ARound; omega)], ⟨⟩⟩
  · try simp only [nb] at hb0
    obtain ⟨e0, e0'⟩ := szr_pos hb0
    rw [e0]
    refine W.skip ?_
    refine W.seq ?_
    refine W.reg X [] [] [4] [] rfl ⟨⟩ ?_
    refine W.ret ?_
    exact Fin.ret rfl ⟨by rw [szr_ge (by unfold size_ARound; omega)]; first | done | (congr 1; done) | (congr 1; unfold size_ARound; omega), ⟨⟩⟩
theorem c_szArchivedRoundS (l : (List ARound)) (left : Int) (h0 : 0 ≤ left) (h1 : left ≤ 1048576) : Sound ty Tryd.prog 47 [.a (.sl .ARound l), .a (.lit (.int .i64 left))] [.a (.lit (.int .i64 (szr left ((lsz size_ARound) l))))] := by
  refine Sound.of X Tryd.call47 Tryd.func47 rfl rfl (by decide) Tryd.ntmps47 (by simp) ?_
  intro zb
  refine W.bound 0 rfl fun hl => ?_
  refine W.seq ?_
  refine W.reg X [] [] [0, 1] [] rfl ⟨⟩ ?_
  refine W.seq ?_
  refine W.reg X [] [] [0, 1] [] rfl ⟨⟩ ?_
  rw [IntWalk.i64_in (left - (l.length : Nat)) (by omega)]
  refine W.seq ?_
  refine W.seq ?_
  refine W.reg X [] [] [0, 1, 11] [] rfl ⟨⟩ ?_
  refine W.cond rfl (fun hb0 => ?_) (fun hb0 => ?_)
  · try simp only [nb] at hb0
    refine W.seq ?_
    refine W.reg X [] [] [4] [] rfl ⟨⟩ ?_
    refine W.ret ?_
    exact Fin.ret rfl ⟨by rw [szr_lt (by unfold lsz; omega)], ⟨⟩⟩
  · try simp only [nb] at hb0
    refine W.skip ?_
    refine W.seq ?_
    refine W.seq ?_
    refine W.reg X [] [] [0, 1, 5] [] rfl ⟨⟩ ?_
    refine W.block ?_
    refine W.loopO (fun k => k ≤ l.length ∧ (l.length : Int) + (((l.take k).map size_ARound).sum : Nat) ≤ left) (fun k : Nat => [(1, .one (.a (.lit (.int .i64 (left - (l.length : Nat) - (((l.take k).map size_ARound).sum : Nat)))))), (5, .one (.a (.lit (.int .i64 k))))]) (fun k => []) (fun k => l.length - k) 0 (fun k => rfl) ⟨Nat.zero_le _, by simp; omega⟩ (by simp) ?_
    rintro k ⟨hk, hs⟩
    refine W.seq ?_
    refine W.seq ?_
    refine W.reg X [] [] [0, 1, 5, 15] [] rfl ⟨⟩ ?_
    refine W.cond rfl (fun hb1 => ?_) (fun hb1 => ?_)
    · try simp only [nb] at hb1
      have hsum := sum_step size_ARound l (dfl .ARound) k hb1
      have hle := take_sum_le l size_ARound (k + 1)
      refine W.skip ?_
      refine W.seq ?_
      refine W.block ?_
      refine W.seq ?_
      refine W.reg X [] [(23, ⟨false, [.a (.lit (.int .i64 (szr (left - (l.length : Nat) - (((l.take k).map size_ARound).sum : Nat)) (size_ARound (l.getD k (dfl .ARound))))))]⟩)] [0, 1, 5] [] rfl ⟨c_szArchivedRound (l.getD k (dfl .ARound)) _ (by omega) (by omega), by omega, ⟨⟩⟩ ?_
      refine W.seq ?_
      refine W.reg X [] [] [0, 1, 5, 25] [] rfl ⟨⟩ ?_
      refine W.cond rfl (fun hb2 => ?_) (fun hb2 => ?_)
      · try simp only [nb] at hb2
        have hn := szr_neg (by omega) hb2
        refine W.seq ?_
        refine W.reg X [] [] [4] [] rfl ⟨⟩ ?_
        refine W.ret ?_
        exact Fin.ret rfl ⟨by rw [szr_lt (by unfold lsz; omega)], ⟨⟩⟩
      · try simp only [nb] at hb2
        obtain ⟨e2, e3⟩ := szr_pos hb2
        rw [e2]
        refine W.skip ?_
        refine W.reg X [] [] [0, 1, 5] [] rfl ⟨⟩ ?_
        refine ⟨k + 1, ⟨by omega, by omega⟩, by omega, ?_⟩
        rw [wadd _ k rfl (by omega), show left - (l.length : Nat) - (((l.take k).map size_ARound).sum : Nat) - (size_ARound (l.getD k (dfl .ARound)) : Nat) = left - (l.length : Nat) - (((l.take (k + 1)).map size_ARound).sum : Nat) by omega]
    · try simp only [nb] at hb1
      refine W.exit ?_
      refine W.seq ?_
      refine W.reg X [] [] [4] [] rfl ⟨⟩ ?_
      refine W.ret ?_
      have hf : l.take k = l := List.take_of_length_le (by omega)
      rw [hf] at hs
      exact Fin.ret rfl ⟨by rw [hf, szr_ge (by unfold lsz; omega)]; congr 1; unfold lsz; omega, ⟨⟩⟩
theorem c_szArchive (x : Arc) (left : Int) (h0 : 0 ≤ left) (h1 : left ≤ 1048576) : Sound ty Tryd.prog 23 [.agg (dec_Arc x), .a (.lit (.int .i64 left))] [.a (.lit (.int .i64 (szr left (size_Arc x))))] := by
  refine Sound.of X Tryd.call23 Tryd.func23 rfl rfl (by decide) Tryd.ntmps23 (by simp) ?_
  intro zb
  refine W.seq ?_
  refine W.reg X [] [] [1, 2] [] rfl ⟨⟩ ?_
  refine W.seq ?_
  refine W.reg X [] [(8, ⟨false, [.a (.lit (.int .i64 (szr (left) ((lsz size_ARound) x.rounds))))]⟩)] [1] [] rfl ⟨c_szArchivedRoundS x.rounds (left) (by omega) (by omega), ⟨⟩⟩ ?_
  refine W.seq ?_
  refine W.seq ?_
  refine W.reg X [] [] [1, 10] [] rfl ⟨⟩ ?_
  refine W.cond rfl (fun hb0 => ?_) (fun hb0 => ?_)
  · try simp only [nb] at hb0
    refine W.seq ?_
    refine W.reg X [] [] [4] [] rfl ⟨⟩ ?_
    refine W.ret ?_
    exact Fin.ret rfl ⟨by rw [szr_lt (by have := szr_neg (by omega) hb0; unfold size_Arc; omega)], ⟨⟩⟩
  · try simp only [nb] at hb0
    obtain ⟨e0, e0'⟩ := szr_pos hb0
    rw [e0]
    refine W.skip ?_
    refine W.seq ?_
    refine W.reg X [] [] [4] [] rfl ⟨⟩ ?_
    refine W.ret ?_
    exact Fin.ret rfl ⟨by rw [szr_ge (by unfold size_Arc; omega)]; first | done | (congr 1; done) | (congr 1; unfold size_Arc; omega), ⟨⟩⟩
theorem c_szClient (x : Cli) (left : Int) (h0 : 0 ≤ left) (h1 : left ≤ 1048576) : Sound ty Tryd.prog 8 [.agg (dec_Cli x), .a (.lit (.int .i64 left))] [.a (.lit (.int .i64 (szr left (size_Cli x))))] := by
  refine Sound.of X Tryd.call8 Tryd.func8 rfl rfl (by decide) Tryd.ntmps8 (by simp) ?_
  intro zb
  refine W.seq ?_
  refine W.reg X [] [] [1, 2] [] rfl ⟨⟩ ?_
  refine W.seq ?_
  refine W.reg X [] [(8, ⟨false, [.a (.lit (.int .i64 (szr (left) ((lsz List.length) x.submitted))))]⟩)] [1, 2] [] rfl ⟨c_szByteSS x.submitted (left) (by omega) (by omega), ⟨⟩⟩ ?_
  refine W.seq ?_
  refine W.seq ?_
  refine W.reg X [] [] [1, 2, 10] [] rfl ⟨⟩ ?_
  refine W.cond rfl (fun hb0 => ?_) (fun hb0 => ?_)
  · try simp only [nb] at hb0
    refine W.seq ?_
    refine W.reg X [] [] [4] [] rfl ⟨⟩ ?_
    refine W.ret ?_
    exact Fin.ret rfl ⟨by rw [szr_lt (by have := szr_neg (by omega) hb0; unfold size_Cli; omega)], ⟨⟩⟩
  · try simp only [nb] at hb0
    obtain ⟨e0, e0'⟩ := szr_pos hb0
    rw [e0]
    refine W.skip ?_
    refine W.seq ?_
    refine W.reg X [] [(14, ⟨false, [.a (.lit (.int .i64 (szr (left - (((lsz List.length) x.submitted) : Nat)) ((lsz List.length) x.inbox))))]⟩)] [1] [] rfl ⟨c_szByteSS x.inbox (left - (((lsz List.length) x.submitted) : Nat)) (by omega) (by omega), ⟨⟩⟩ ?_
    refine W.seq ?_
    refine W.seq ?_
    refine W.reg X [] [] [1, 16] [] rfl ⟨⟩ ?_
    refine W.cond rfl (fun hb1 => ?_) (fun hb1 => ?_)
    · try simp only [nb] at hb1
      refine W.seq ?_
      refine W.reg X [] [] [4] [] rfl ⟨⟩ ?_
      refine W.ret ?_
      exact Fin.ret rfl ⟨by rw [szr_lt (by have := szr_neg (by omega) hb1; unfold size_Cli; omega)], ⟨⟩⟩
    · try simp only [nb] at hb1
      obtain ⟨e1, e1'⟩ := szr_pos hb1
      rw [e1]
      refine W.skip ?_
      refine W.seq ?_
      refine W.reg X [] [] [4] [] rfl ⟨⟩ ?_
      refine W.ret ?_
      exact Fin.ret rfl ⟨by rw [szr_ge (by unfold size_Cli; omega)]; first | done | (congr 1; done) | (congr 1; unfold size_Cli; omega), ⟨⟩⟩
theorem c_szDevice (x : Dev) (left : Int) (h0 : 0 ≤ left) (h1 : left ≤ 1048576) : Sound ty Tryd.prog 78 [.agg (dec_Dev x), .a (.lit (.int .i64 left))] [.a (.lit (.int .i64 (szr left (size_Dev x))))] := by
  refine Sound.of X Tryd.call78 Tryd.func78 rfl rfl (by decide) Tryd.ntmps78 (by simp) ?_
  intro zb
  refine W.seq ?_
  refine W.reg X [] [] [1, 2] [] rfl ⟨⟩ ?_
  refine W.seq ?_
  refine W.reg X [] [(8, ⟨false, [.a (.lit (.int .i64 (szr (left) (size_Cli x.live))))]⟩)] [1, 2] [] rfl ⟨c_szClient x.live (left) (by omega) (by omega), ⟨⟩⟩ ?_
  refine W.seq ?_
  refine W.seq ?_
  refine W.reg X [] [] [1, 2, 10] [] rfl ⟨⟩ ?_
  refine W.cond rfl (fun hb0 => ?_) (fun hb0 => ?_)
  · try simp only [nb] at hb0
    refine W.seq ?_
    refine W.reg X [] [] [4] [] rfl ⟨⟩ ?_
    refine W.ret ?_
    exact Fin.ret rfl ⟨by rw [szr_lt (by have := szr_neg (by omega) hb0; unfold size_Dev; omega)], ⟨⟩⟩
  · try simp only [nb] at hb0
    obtain ⟨e0, e0'⟩ := szr_pos hb0
    rw [e0]
    refine W.skip ?_
    refine W.seq ?_
    refine W.reg X [] [(14, ⟨false, [.a (.lit (.int .i64 (szr (left - ((size_Cli x.live) : Nat)) (size_Cli x.saved))))]⟩)] [1] [] rfl ⟨c_szClient x.saved (left - ((size_Cli x.live) : Nat)) (by omega) (by omega), ⟨⟩⟩ ?_
    refine W.seq ?_
    refine W.seq ?_
    refine W.reg X [] [] [1, 16] [] rfl ⟨⟩ ?_
    refine W.cond rfl (fun hb1 => ?_) (fun hb1 => ?_)
    · try simp only [nb] at hb1
      refine W.seq ?_
      refine W.reg X [] [] [4] [] rfl ⟨⟩ ?_
      refine W.ret ?_
      exact Fin.ret rfl ⟨by rw [szr_lt (by have := szr_neg (by omega) hb1; unfold size_Dev; omega)], ⟨⟩⟩
    · try simp only [nb] at hb1
      obtain ⟨e1, e1'⟩ := szr_pos hb1
      rw [e1]
      refine W.skip ?_
      refine W.seq ?_
      refine W.reg X [] [] [4] [] rfl ⟨⟩ ?_
      refine W.ret ?_
      exact Fin.ret rfl ⟨by rw [szr_ge (by unfold size_Dev; omega)]; first | done | (congr 1; done) | (congr 1; unfold size_Dev; omega), ⟨⟩⟩
theorem c_szDeviceS (l : (List Dev)) (left : Int) (h0 : 0 ≤ left) (h1 : left ≤ 1048576) : Sound ty Tryd.prog 53 [.a (.sl .Dev l), .a (.lit (.int .i64 left))] [.a (.lit (.int .i64 (szr left ((lsz size_Dev) l))))] := by
  refine Sound.of X Tryd.call53 Tryd.func53 rfl rfl (by decide) Tryd.ntmps53 (by simp) ?_
  intro zb
  refine W.bound 0 rfl fun hl => ?_
  refine W.seq ?_
  refine W.reg X [] [] [0, 1] [] rfl ⟨⟩ ?_
  refine W.seq ?_
  refine W.reg X [] [] [0, 1] [] rfl ⟨⟩ ?_
  rw [IntWalk.i64_in (left - (l.length : Nat)) (by omega)]
  refine W.seq ?_
  refine W.seq ?_
  refine W.reg X [] [] [0, 1, 11] [] rfl ⟨⟩ ?_
  refine W.cond rfl (fun hb0 => ?_) (fun hb0 => ?_)
  · try simp only [nb] at hb0
    refine W.seq ?_
    refine W.reg X [] [] [4] [] rfl ⟨⟩ ?_
    refine W.ret ?_
    exact Fin.ret rfl ⟨by rw [szr_lt (by unfold lsz; omega)], ⟨⟩⟩
  · try simp only [nb] at hb0
    refine W.skip ?_
    refine W.seq ?_
    refine W.seq ?_
    refine W.reg X [] [] [0, 1, 5] [] rfl ⟨⟩ ?_
    refine W.block ?_
    refine W.loopO (fun k => k ≤ l.length ∧ (l.length : Int) + (((l.take k).map size_Dev).sum : Nat) ≤ left) (fun k : Nat => [(1, .one (.a (.lit (.int .i64 (left - (l.length : Nat) - (((l.take k).map size_Dev).sum : Nat)))))), (5, .one (.a (.lit (.int .i64 k))))]) (fun k => []) (fun k => l.length - k) 0 (fun k => rfl) ⟨Nat.zero_le _, by simp; omega⟩ (by simp) ?_
    rintro k ⟨hk, hs⟩
    refine W.seq ?_
    refine W.seq ?_
    refine W.reg X [] [] [0, 1, 5, 15] [] rfl ⟨⟩ ?_
    refine W.cond rfl (fun hb1 => ?_) (fun hb1 => ?_)
    · try simp only [nb] at hb1
      have hsum := sum_step size_Dev l (dfl .Dev) k hb1
      have hle := take_sum_le l size_Dev (k + 1)
      refine W.skip ?_
      refine W.seq ?_
      refine W.block ?_
      refine W.seq ?_
      refine W.reg X [] [(23, ⟨false, [.a (.lit (.int .i64 (szr (left - (l.length : Nat) - (((l.take k).map size_Dev).sum : Nat)) (size_Dev (l.getD k (dfl .Dev))))))]⟩)] [0, 1, 5] [] rfl ⟨c_szDevice (l.getD k (dfl .Dev)) _ (by omega) (by omega), by omega, ⟨⟩⟩ ?_
      refine W.seq ?_
      refine W.reg X [] [] [0, 1, 5, 25] [] rfl ⟨⟩ ?_
      refine W.cond rfl (fun hb2 => ?_) (fun hb2 => ?_)
      · try simp only [nb] at hb2
        have hn := szr_neg (by omega) hb2
        refine W.seq ?_
        refine W.reg X [] [] [4] [] rfl ⟨⟩ ?_
        refine W.ret ?_
        exact Fin.ret rfl ⟨by rw [szr_lt (by unfold lsz; omega)], ⟨⟩⟩
      · try simp only [nb] at hb2
        obtain ⟨e2, e3⟩ := szr_pos hb2
        rw [e2]
        refine W.skip ?_
        refine W.reg X [] [] [0, 1, 5] [] rfl ⟨⟩ ?_
        refine ⟨k + 1, ⟨by omega, by omega⟩, by omega, ?_⟩
        rw [wadd _ k rfl (by omega), show left - (l.length : Nat) - (((l.take k).map size_Dev).sum : Nat) - (size_Dev (l.getD k (dfl .Dev)) : Nat) = left - (l.length : Nat) - (((l.take (k + 1)).map size_Dev).sum : Nat) by omega]
    · try simp only [nb] at hb1
      refine W.exit ?_
      refine W.seq ?_
      refine W.reg X [] [] [4] [] rfl ⟨⟩ ?_
      refine W.ret ?_
      have hf : l.take k = l := List.take_of_length_le (by omega)
      rw [hf] at hs
      exact Fin.ret rfl ⟨by rw [hf, szr_ge (by unfold lsz; omega)]; congr 1; unfold lsz; omega, ⟨⟩⟩
theorem c_szIntS (l : (List Int)) (left : Int) (h0 : 0 ≤ left) (h1 : left ≤ 1048576) : Sound ty Tryd.prog 54 [.a (.sl .int l), .a (.lit (.int .i64 left))] [.a (.lit (.int .i64 (szr left (List.length l))))] := by
  refine Sound.of X Tryd.call54 Tryd.func54 rfl rfl (by decide) Tryd.ntmps54 (by simp) ?_
  intro zb
  refine W.bound 0 rfl fun hl => ?_
  refine W.seq ?_
  refine W.reg X [] [] [0, 1] [] rfl ⟨⟩ ?_
  refine W.seq ?_
  refine W.reg X [] [] [1] [] rfl ⟨⟩ ?_
  rw [IntWalk.i64_in (left - (l.length : Nat)) (by omega)]
  refine W.seq ?_
  refine W.seq ?_
  refine W.reg X [] [] [1, 10] [] rfl ⟨⟩ ?_
  refine W.cond rfl (fun hb0 => ?_) (fun hb0 => ?_)
  · try simp only [nb] at hb0
    refine W.seq ?_
    refine W.reg X [] [] [4] [] rfl ⟨⟩ ?_
    refine W.ret ?_
    exact Fin.ret rfl ⟨by rw [szr_lt (by omega)], ⟨⟩⟩
  · try simp only [nb] at hb0
    refine W.skip ?_
    refine W.seq ?_
    refine W.reg X [] [] [4] [] rfl ⟨⟩ ?_
    refine W.ret ?_
    exact Fin.ret rfl ⟨by rw [szr_ge (by omega)], ⟨⟩⟩
theorem c_szReceivedShare (x : RShare) (left : Int) (h0 : 0 ≤ left) (h1 : left ≤ 1048576) : Sound ty Tryd.prog 70 [.agg (dec_RShare x), .a (.lit (.int .i64 left))] [.a (.lit (.int .i64 (szr left (size_RShare x))))] := by
  refine Sound.of X Tryd.call70 Tryd.func70 rfl rfl (by decide) Tryd.ntmps70 (by simp) ?_
  intro zb
  refine W.seq ?_
  refine W.reg X [] [] [1, 2] [] rfl ⟨⟩ ?_
  refine W.seq ?_
  refine W.reg X [] [(8, ⟨false, [.a (.lit (.int .i64 (szr (left) (size_DB x.share))))]⟩)] [1] [] rfl ⟨c_szDatabase x.share (left) (by omega) (by omega), ⟨⟩⟩ ?_
  refine W.seq ?_
  refine W.seq ?_
  refine W.reg X [] [] [1, 10] [] rfl ⟨⟩ ?_
  refine W.cond rfl (fun hb0 => ?_) (fun hb0 => ?_)
  · try simp only [nb] at hb0
    refine W.seq ?_
    refine W.reg X [] [] [4] [] rfl ⟨⟩ ?_
    refine W.ret ?_
    exact Fin.ret rfl ⟨by rw [szr_lt (by have := szr_neg (by omega) hb0; unfold size_RShare; omega)], ⟨⟩⟩
  · try simp only [nb] at hb0
    obtain ⟨e0, e0'⟩ := szr_pos hb0
    rw [e0]
    refine W.skip ?_
    refine W.seq ?_
    refine W.reg X [] [] [4] [] rfl ⟨⟩ ?_
    refine W.ret ?_
    exact Fin.ret rfl ⟨by rw [szr_ge (by unfold size_RShare; omega)]; first | done | (congr 1; done) | (congr 1; unfold size_RShare; omega), ⟨⟩⟩
theorem c_szReceivedShareS (l : (List RShare)) (left : Int) (h0 : 0 ≤ left) (h1 : left ≤ 1048576) : Sound ty Tryd.prog 41 [.a (.sl .RShare l), .a (.lit (.int .i64 left))] [.a (.lit (.int .i64 (szr left ((lsz size_RShare) l))))] := by
  refine Sound.of X Tryd.call41 Tryd.func41 rfl rfl (by decide) Tryd.ntmps41 (by simp) ?_
  intro zb
  refine W.bound 0 rfl fun hl => ?_
  refine W.seq ?_
  refine W.reg X [] [] [0, 1] [] rfl ⟨⟩ ?_
  refine W.seq ?_
  refine W.reg X [] [] [0, 1] [] rfl ⟨⟩ ?_
  rw [IntWalk.i64_in (left - (l.length : Nat)) (by omega)]
  refine W.seq ?_
  refine W.seq ?_
  refine W.reg X [] [] [0, 1, 11] [] rfl ⟨⟩ ?_
  refine W.cond rfl (fun hb0 => ?_) (fun hb0 => ?_)
  · try simp only [nb] at hb0
    refine W.seq ?_
    refine W.reg X [] [] [4] [] rfl ⟨⟩ ?_
    refine W.ret ?_
    exact Fin.ret rfl ⟨by rw [szr_lt (by unfold lsz; omega)], ⟨⟩⟩
  · try simp only [nb] at hb0
    refine W.skip ?_
    refine W.seq ?_
    refine W.seq ?_
    refine W.reg X [] [] [0, 1, 5] [] rfl ⟨⟩ ?_
    refine W.block ?_
    refine W.loopO (fun k => k ≤ l.length ∧ (l.length : Int) + (((l.take k).map size_RShare).sum : Nat) ≤ left) (fun k : Nat => [(1, .one (.a (.lit (.int .i64 (left - (l.length : Nat) - (((l.take k).map size_RShare).sum : Nat)))))), (5, .one (.a (.lit (.int .i64 k))))]) (fun k => []) (fun k => l.length - k) 0 (fun k => rfl) ⟨Nat.zero_le _, by simp; omega⟩ (by simp) ?_
    rintro k ⟨hk, hs⟩
    refine W.seq ?_
    refine W.seq ?_
    refine W.reg X [] [] [0, 1, 5, 15] [] rfl ⟨⟩ ?_
    refine W.cond rfl (fun hb1 => ?_) (fun hb1 => ?_)
    · try simp only [nb] at hb1
      have hsum := sum_step size_RShare l (dfl .RShare) k hb1
      have hle := take_sum_le l size_RShare (k + 1)
      refine W.skip ?_
      refine W.seq ?_
      refine W.block ?_
      refine W.seq ?_
      refine W.reg X [] [(23, ⟨false, [.a (.lit (.int .i64 (szr (left - (l.length : Nat) - (((l.take k).map size_RShare).sum : Nat)) (size_RShare (l.getD k (dfl .RShare))))))]⟩)] [0, 1, 5] [] rfl ⟨c_szReceivedShare (l.getD k (dfl .RShare)) _ (by omega) (by omega), by omega, ⟨⟩⟩ ?_
      refine W.seq ?_
      refine W.reg X [] [] [0, 1, 5, 25] [] rfl ⟨⟩ ?_
      refine W.cond rfl (fun hb2 => ?_) (fun hb2 => ?_)
      · try simp only [nb] at hb2
        have hn := szr_neg (by omega) hb2
        refine W.seq ?_
        refine W.reg X [] [] [4] [] rfl ⟨⟩ ?_
        refine W.ret ?_
        exact Fin.ret rfl ⟨by rw [szr_lt (by unfold lsz; omega)], ⟨⟩⟩
      · try simp only [nb] at hb2
        obtain ⟨e2, e3⟩ := szr_pos hb2
        rw [e2]
        refine W.skip ?_
        refine W.reg X [] [] [0, 1, 5] [] rfl ⟨⟩ ?_
        refine ⟨k + 1, ⟨by omega, by omega⟩, by omega, ?_⟩
        rw [wadd _ k rfl (by omega), show left - (l.length : Nat) - (((l.take k).map size_RShare).sum : Nat) - (size_RShare (l.getD k (dfl .RShare)) : Nat) = left - (l.length : Nat) - (((l.take (k + 1)).map size_RShare).sum : Nat) by omega]
    · try simp only [nb] at hb1
      refine W.exit ?_
      refine W.seq ?_
      refine W.reg X [] [] [4] [] rfl ⟨⟩ ?_
      refine W.ret ?_
      have hf : l.take k = l := List.take_of_length_le (by omega)
      rw [hf] at hs
      exact Fin.ret rfl ⟨by rw [hf, szr_ge (by unfold lsz; omega)]; congr 1; unfold lsz; omega, ⟨⟩⟩
theorem c_szServer (x : Srv) (left : Int) (h0 : 0 ≤ left) (h1 : left ≤ 1048576) : Sound ty Tryd.prog 18 [.agg (dec_Srv x), .a (.lit (.int .i64 left))] [.a (.lit (.int .i64 (szr left (size_Srv x))))] := by
  refine Sound.of X Tryd.call18 Tryd.func18 rfl rfl (by decide) Tryd.ntmps18 (by simp) ?_
  intro zb
  refine W.seq ?_
  refine W.reg X [] [] [1, 2] [] rfl ⟨⟩ ?_
  refine W.seq ?_
  refine W.reg X [] [(8, ⟨false, [.a (.lit (.int .i64 (szr (left) ((lsz size_RShare) x.received))))]⟩)] [1] [] rfl ⟨c_szReceivedShareS x.received (left) (by omega) (by omega), ⟨⟩⟩ ?_
  refine W.seq ?_
  refine W.seq ?_
  refine W.reg X [] [] [1, 10] [] rfl ⟨⟩ ?_
  refine W.cond rfl (fun hb0 => ?_) (fun hb0 => ?_)
  · try simp only [nb] at hb0
    refine W.seq ?_
    refine W.reg X [] [] [4] [] rfl ⟨⟩ ?_
    refine W.ret ?_
    exact Fin.ret rfl ⟨by rw [szr_lt (by have := szr_neg (by omega) hb0; unfold size_Srv; omega)], ⟨⟩⟩
  · try simp only [nb] at hb0
    obtain ⟨e0, e0'⟩ := szr_pos hb0
    rw [e0]
    refine W.skip ?_
    refine W.seq ?_
    refine W.reg X [] [] [4] [] rfl ⟨⟩ ?_
    refine W.ret ?_
    exact Fin.ret rfl ⟨by rw [szr_ge (by unfold size_Srv; omega)]; first | done | (congr 1; done) | (congr 1; unfold size_Srv; omega), ⟨⟩⟩
theorem c_szServerS (l : (List Srv)) (left : Int) (h0 : 0 ≤ left) (h1 : left ≤ 1048576) : Sound ty Tryd.prog 52 [.a (.sl .Srv l), .a (.lit (.int .i64 left))] [.a (.lit (.int .i64 (szr left ((lsz size_Srv) l))))] := by
  refine Sound.of X Tryd.call52 Tryd.func52 rfl rfl (by decide) Tryd.ntmps52 (by simp) ?_
  intro zb
  refine W.bound 0 rfl fun hl => ?_
  refine W.seq ?_
  refine W.reg X [] [] [0, 1] [] rfl ⟨⟩ ?_
  refine W.seq ?_
  refine W.reg X [] [] [0, 1] [] rfl ⟨⟩ ?_
  rw [IntWalk.i64_in (left - (l.length : Nat)) (by omega)]
  refine W.seq ?_
  refine W.seq ?_
  refine W.reg X [] [] [0, 1, 11] [] rfl ⟨⟩ ?_
  refine W.cond rfl (fun hb0 => ?_) (fun hb0 => ?_)
  · try simp only [nb] at hb0
    refine W.seq ?_
    refine W.reg X [] [] [4] [] rfl ⟨⟩ ?_
    refine W.ret ?_
    exact Fin.ret rfl ⟨by rw [szr_lt (by unfold lsz; omega)], ⟨⟩⟩
  · try simp only [nb] at hb0
    refine W.skip ?_
    refine W.seq ?_
    refine W.seq ?_
    refine W.reg X [] [] [0, 1, 5] [] rfl ⟨⟩ ?_
    refine W.block ?_
    refine W.loopO (fun k => k ≤ l.length ∧ (l.length : Int) + (((l.take k).map size_Srv).sum : Nat) ≤ left) (fun k : Nat => [(1, .one (.a (.lit (.int .i64 (left - (l.length : Nat) - (((l.take k).map size_Srv).sum : Nat)))))), (5, .one (.a (.lit (.int .i64 k))))]) (fun k => []) (fun k => l.length - k) 0 (fun k => rfl) ⟨Nat.zero_le _, by simp; omega⟩ (by simp) ?_
    rintro k ⟨hk, hs⟩
    refine W.seq ?_
    refine W.seq ?_
    refine W.reg X [] [] [0, 1, 5, 15] [] rfl ⟨⟩ ?_
    refine W.cond rfl (fun hb1 => ?_) (fun hb1 => ?_)
    · try simp only [nb] at hb1
      have hsum := sum_step size_Srv l (dfl .Srv) k hb1
      have hle := take_sum_le l size_Srv (k + 1)
      refine W.skip ?_
      refine W.seq ?_
      refine W.block ?_
      refine W.seq ?_
      refine W.reg X [] [(23, ⟨false, [.a (.lit (.int .i64 (szr (left - (l.length : Nat) - (((l.take k).map size_Srv).sum : Nat)) (size_Srv (l.getD k (dfl .Srv))))))]⟩)] [0, 1, 5] [] rfl ⟨c_szServer (l.getD k (dfl .Srv)) _ (by omega) (by omega), by omega, ⟨⟩⟩ ?_
      refine W.seq ?_
      refine W.reg X [] [] [0, 1, 5, 25] [] rfl ⟨⟩ ?_
      refine W.cond rfl (fun hb2 => ?_) (fun hb2 => ?_)
      · try simp only [nb] at hb2
        have hn := szr_neg (by omega) hb2
        refine W.seq ?_
        refine W.reg X [] [] [4] [] rfl ⟨⟩ ?_
        refine W.ret ?_
        exact Fin.ret rfl ⟨by rw [szr_lt (by unfold lsz; omega)], ⟨⟩⟩
      · try simp only [nb] at hb2
        obtain ⟨e2, e3⟩ := szr_pos hb2
        rw [e2]
        refine W.skip ?_
        refine W.reg X [] [] [0, 1, 5] [] rfl ⟨⟩ ?_
        refine ⟨k + 1, ⟨by omega, by omega⟩, by omega, ?_⟩
        rw [wadd _ k rfl (by omega), show left - (l.length : Nat) - (((l.take k).map size_Srv).sum : Nat) - (size_Srv (l.getD k (dfl .Srv)) : Nat) = left - (l.length : Nat) - (((l.take (k + 1)).map size_Srv).sum : Nat) by omega]
    · try simp only [nb] at hb1
      refine W.exit ?_
      refine W.seq ?_
      refine W.reg X [] [] [4] [] rfl ⟨⟩ ?_
      refine W.ret ?_
      have hf : l.take k = l := List.take_of_length_le (by omega)
      rw [hf] at hs
      exact Fin.ret rfl ⟨by rw [hf, szr_ge (by unfold lsz; omega)]; congr 1; unfold lsz; omega, ⟨⟩⟩
theorem c_szWorld (x : Wld) (left : Int) (h0 : 0 ≤ left) (h1 : left ≤ 1048576) : Sound ty Tryd.prog 28 [.agg (dec_Wld x), .a (.lit (.int .i64 left))] [.a (.lit (.int .i64 (szr left (size_Wld x))))] := by
  refine Sound.of X Tryd.call28 Tryd.func28 rfl rfl (by decide) Tryd.ntmps28 (by simp) ?_
  intro zb
  refine W.seq ?_
  refine W.reg X [] [] [1, 2] [] rfl ⟨⟩ ?_
  refine W.seq ?_
  refine W.reg X [] [(8, ⟨false, [.a (.lit (.int .i64 (szr (left) ((lsz size_Srv) x.servers))))]⟩)] [1, 2] [] rfl ⟨c_szServerS x.servers (left) (by omega) (by omega), ⟨⟩⟩ ?_
  refine W.seq ?_
  refine W.seq ?_
  refine W.reg X [] [] [1, 2, 10] [] rfl ⟨⟩ ?_
  refine W.cond rfl (fun hb0 => ?_) (fun hb0 => ?_)
  · try simp only [nb] at hb0
    refine W.seq ?_
    refine W.reg X [] [] [4] [] rfl ⟨⟩ ?_
    refine W.ret ?_
    exact Fin.ret rfl ⟨by rw [szr_lt (by have := szr_neg (by omega) hb0; unfold size_Wld; omega)], ⟨⟩⟩
  · try simp only [nb] at hb0
    obtain ⟨e0, e0'⟩ := szr_pos hb0
    rw [e0]
    refine W.skip ?_
    refine W.seq ?_
    refine W.reg X [] [(14, ⟨false, [.a (.lit (.int .i64 (szr (left - (((lsz size_Srv) x.servers) : Nat)) ((lsz size_Dev) x.devices))))]⟩)] [1, 2] [] rfl ⟨c_szDeviceS x.devices (left - (((lsz size_Srv) x.servers) : Nat)) (by omega) (by omega), ⟨⟩⟩ ?_
    refine W.seq ?_
    refine W.seq ?_
    refine W.reg X [] [] [1, 2, 16] [] rfl ⟨⟩ ?_
    refine W.cond rfl (fun hb1 => ?_) (fun hb1 => ?_)
    · try simp only [nb] at hb1
      refine W.seq ?_
      refine W.reg X [] [] [4] [] rfl ⟨⟩ ?_
      refine W.ret ?_
      exact Fin.ret rfl ⟨by rw [szr_lt (by have := szr_neg (by omega) hb1; unfold size_Wld; omega)], ⟨⟩⟩
    · try simp only [nb] at hb1
      obtain ⟨e1, e1'⟩ := szr_pos hb1
      rw [e1]
      refine W.skip ?_
      refine W.seq ?_
      refine W.reg X [] [(20, ⟨false, [.a (.lit (.int .i64 (szr (left - (((lsz size_Srv) x.servers) : Nat) - (((lsz size_Dev) x.devices) : Nat)) (size_Arc x.archive))))]⟩)] [1, 2] [] rfl ⟨c_szArchive x.archive (left - (((lsz size_Srv) x.servers) : Nat) - (((lsz size_Dev) x.devices) : Nat)) (by omega) (by omega), ⟨⟩⟩ ?_
      refine W.seq ?_
      refine W.seq ?_
      refine W.reg X [] [] [1, 2, 22] [] rfl ⟨⟩ ?_
      refine W.cond rfl (fun hb2 => ?_) (fun hb2 => ?_)
      · try simp only [nb] at hb2
        refine W.seq ?_
        refine W.reg X [] [] [4] [] rfl ⟨⟩ ?_
        refine W.ret ?_
        exact Fin.ret rfl ⟨by rw [szr_lt (by have := szr_neg (by omega) hb2; unfold size_Wld; omega)], ⟨⟩⟩
      · try simp only [nb] at hb2
        obtain ⟨e2, e2'⟩ := szr_pos hb2
        rw [e2]
        refine W.skip ?_
        refine W.seq ?_
        refine W.reg X [] [(26, ⟨false, [.a (.lit (.int .i64 (szr (left - (((lsz size_Srv) x.servers) : Nat) - (((lsz size_Dev) x.devices) : Nat) - ((size_Arc x.archive) : Nat)) (List.length x.replaced))))]⟩)] [1] [] rfl ⟨c_szIntS x.replaced (left - (((lsz size_Srv) x.servers) : Nat) - (((lsz size_Dev) x.devices) : Nat) - ((size_Arc x.archive) : Nat)) (by omega) (by omega), ⟨⟩⟩ ?_
        refine W.seq ?_
        refine W.seq ?_
        refine W.reg X [] [] [1, 28] [] rfl ⟨⟩ ?_
        refine W.cond rfl (fun hb3 => ?_) (fun hb3 => ?_)
        · try simp only [nb] at hb3
          refine W.seq ?_
          refine W.reg X [] [] [4] [] rfl ⟨⟩ ?_
          refine W.ret ?_
          exact Fin.ret rfl ⟨by rw [szr_lt (by have := szr_neg (by omega) hb3; unfold size_Wld; omega)], ⟨⟩⟩
        · try simp only [nb] at hb3
          obtain ⟨e3, e3'⟩ := szr_pos hb3
          rw [e3]
          refine W.skip ?_
          refine W.seq ?_
          refine W.reg X [] [] [4] [] rfl ⟨⟩ ?_
          refine W.ret ?_
          exact Fin.ret rfl ⟨by rw [szr_ge (by unfold size_Wld; omega)]; first | done | (congr 1; done) | (congr 1; unfold size_Wld; omega), ⟨⟩⟩
end Go.Proofs.YtjknhnhcbadigaaDoor.G
namespace Go.Proofs.YtjknhnhcbadigaaDoor.G
set_option linter.all false
open Go.RowKit L D
set_option maxRecDepth 100000
theorem c_toByteS (l : (List UInt8)) (hx : (List.length l) ≤ 1048576) : Sound ty Tryd.prog 66 [.a (.sl .u8 l)] [.a (.sl .u8 l)] := by
  refine Sound.of X Tryd.call66 Tryd.func66 rfl rfl (by decide) Tryd.ntmps66 (by simp) ?_
  intro zb
  have hl : l.length ≤ 1048576 := hx
  refine W.seq ?_
  refine W.reg X [] [] [0] [] rfl ⟨⟩ ?_
  refine W.seq ?_
  refine W.reg X [] [] [0, 3] [] rfl (by (repeat' (first | exact True.intro | apply And.intro)) <;> first | (intros; omega) | exact rfl | exact El_all _ (by decide) | exact ⟨rfl, El_all _ (by decide)⟩ | ((intro h1; first | (intro h2; first | (intro h3; refine And.intro ?_ ?_) | refine And.intro ?_ ?_) | refine And.intro ?_ ?_) <;> first | omega | ((try simp only [nb, inr_t, inr_f] at *); (try simp (disch := omega) only [i64w]); omega)) | ((try simp only [nb, inr_t, inr_f] at *); (simp (disch := omega) only [i64w]); omega) | (refine fun _ => ?_; dsimp only [hyps, imps]; omega) | (refine fun _ _ => ?_; dsimp only [hyps, imps]; omega) | exact (u8w _).1 | exact (u8w _).2 | exact (u8n _).1 | exact (u8n _).2 | (simp only [byt, maxLen, lens]; omega) | (intros; simp only [nb] at *; omega)) ?_
  refine W.seq ?_
  refine W.seq ?_
  refine W.reg X [] [] [0, 3, 4] [] rfl ⟨⟩ ?_
  refine W.block ?_
  refine W.loopO (fun k => k ≤ l.length) (fun k : Nat => [(4, .one (.a (.lit (.int .i64 k))))]) (fun k => [(7, .arr .u8 (l.take k ++ List.replicate (l.length - k) (dfl .u8)))]) (fun k => l.length - k) 0 (fun k => rfl) (Nat.zero_le _) rfl ?_
  intro k hk
  refine W.seq ?_
  refine W.seq ?_
  refine W.reg X [] [] [0, 3, 4, 11] [] rfl ⟨⟩ ?_
  refine W.cond rfl (fun hb0 => ?_) (fun hb0 => ?_)
  · try simp only [nb] at hb0
    have hsl := set_len l (dfl .u8) k (by omega)
    refine W.skip ?_
    refine W.seq ?_
    refine W.block ?_
    refine W.reg X [] [] [0, 3, 4] [] rfl (by (repeat' (first | exact True.intro | apply And.intro)) <;> first | (intros; omega) | exact rfl | exact El_all _ (by decide) | exact ⟨rfl, El_all _ (by decide)⟩ | ((intro h1; first | (intro h2; first | (intro h3; refine And.intro ?_ ?_) | refine And.intro ?_ ?_) | refine And.intro ?_ ?_) <;> first | omega | ((try simp only [nb, inr_t, inr_f] at *); (try simp (disch := omega) only [i64w]); omega)) | ((try simp only [nb, inr_t, inr_f] at *); (simp (disch := omega) only [i64w]); omega) | (refine fun _ => ?_; dsimp only [hyps, imps]; omega) | (refine fun _ _ => ?_; dsimp only [hyps, imps]; omega) | exact (u8w _).1 | exact (u8w _).2 | exact (u8n _).1 | exact (u8n _).2 | (simp only [byt, maxLen, lens]; omega) | (intros; simp only [nb] at *; omega)) ?_
    have e1 := set_step l (dfl .u8) k hb0
    refine W.reg X [] [] [0, 3, 4] [] rfl ⟨⟩ ?_
    refine ⟨k + 1, by omega, by omega, ?_⟩
    rw [u8_back]
    rw [wadd _ k rfl (by omega), ← e1]
    try rfl
  · try simp only [nb] at hb0
    refine W.exit ?_
    refine W.seq ?_
    refine W.reg X [] [] [2] [] rfl ⟨⟩ ?_
    refine W.ret ?_
    exact Fin.ret rfl ⟨by rw [List.take_of_length_le (by omega), show l.length - k = 0 by omega, List.replicate_zero, List.append_nil], ⟨⟩⟩
theorem c_toByteSS (l : (List (List UInt8))) (hx : ((lsz List.length) l) ≤ 1048576) : Sound ty Tryd.prog 35 [.a (.sl (.sl .u8) l)] [.a (.sl (.sl .u8) l)] := by
  refine Sound.of X Tryd.call35 Tryd.func35 rfl rfl (by decide) Tryd.ntmps35 (by simp) ?_
  intro zb
  have hl : l.length ≤ 1048576 := lsz_len hx
  refine W.seq ?_
  refine W.reg X [] [] [0] [] rfl ⟨⟩ ?_
  refine W.seq ?_
  refine W.reg X [] [] [0, 3] [] rfl (by (repeat' (first | exact True.intro | apply And.intro)) <;> first | (intros; omega) | exact rfl | exact El_all _ (by decide) | exact ⟨rfl, El_all _ (by decide)⟩ | ((intro h1; first | (intro h2; first | (intro h3; refine And.intro ?_ ?_) | refine And.intro ?_ ?_) | refine And.intro ?_ ?_) <;> first | omega | ((try simp only [nb, inr_t, inr_f] at *); (try simp (disch := omega) only [i64w]); omega)) | ((try simp only [nb, inr_t, inr_f] at *); (simp (disch := omega) only [i64w]); omega) | (refine fun _ => ?_; dsimp only [hyps, imps]; omega) | (refine fun _ _ => ?_; dsimp only [hyps, imps]; omega) | exact (u8w _).1 | exact (u8w _).2 | exact (u8n _).1 | exact (u8n _).2 | (simp only [byt, maxLen, lens]; omega) | (intros; simp only [nb] at *; omega)) ?_
  refine W.seq ?_
  refine W.seq ?_
  refine W.reg X [] [] [0, 3, 4] [] rfl ⟨⟩ ?_
  refine W.block ?_
  refine W.loopO (fun k => k ≤ l.length) (fun k : Nat => [(4, .one (.a (.lit (.int .i64 k))))]) (fun k => [(7, .arr (.sl .u8) (l.take k ++ List.replicate (l.length - k) (dfl (.sl .u8))))]) (fun k => l.length - k) 0 (fun k => rfl) (Nat.zero_le _) rfl ?_
  intro k hk
  refine W.seq ?_
  refine W.seq ?_
  refine W.reg X [] [] [0, 3, 4, 11] [] rfl ⟨⟩ ?_
  refine W.cond rfl (fun hb0 => ?_) (fun hb0 => ?_)
  · try simp only [nb] at hb0
    have hsl := set_len l (dfl (.sl .u8)) k (by omega)
    refine W.skip ?_
    refine W.seq ?_
    refine W.block ?_
    refine W.reg X [(20, 300)] [(20, ⟨true, [.a (.sl .u8 (l.getD k (dfl (.sl .u8))))]⟩)] [0, 3, 4] [] rfl (by (repeat' (first | with_reducible exact AllP.nil | with_reducible refine AllP.mk ?_ ?_ | with_reducible apply And.intro)) <;> skip; (iterate 1 (all_goals try (first | exact c_toByteS (l.getD k (dfl (.sl .u8))) (lsz_mem hx (getD_some l _ k hb0)) | exact fun _ => c_toByteS (l.getD k (dfl (.sl .u8))) (lsz_mem hx (getD_some l _ k hb0)) | exact fun _ _ => c_toByteS (l.getD k (dfl (.sl .u8))) (lsz_mem hx (getD_some l _ k hb0))))); all_goals (first | (intros; omega) | exact rfl | exact El_all _ (by decide) | exact ⟨rfl, El_all _ (by decide)⟩ | ((intro h1; first | (intro h2; first | (intro h3; refine And.intro ?_ ?_) | refine And.intro ?_ ?_) | refine And.intro ?_ ?_) <;> first | omega | ((try simp only [nb, inr_t, inr_f] at *); (try simp (disch := omega) only [i64w]); omega)) | ((try simp only [nb, inr_t, inr_f] at *); (simp (disch := omega) only [i64w]); omega) | (refine fun _ => ?_; dsimp only [hyps, imps]; omega) | (refine fun _ _ => ?_; dsimp only [hyps, imps]; omega) | exact (u8w _).1 | exact (u8w _).2 | exact (u8n _).1 | exact (u8n _).2 | (simp only [byt, maxLen, lens]; omega) | (intros; simp only [nb] at *; omega))) ?_
    have e1 := set_step l (dfl (.sl .u8)) k hb0
    refine W.reg X [] [] [0, 3, 4] [] rfl ⟨⟩ ?_
    refine ⟨k + 1, by omega, by omega, ?_⟩
    rw [wadd _ k rfl (by omega), ← e1]
    try rfl
  · try simp only [nb] at hb0
    refine W.exit ?_
    refine W.seq ?_
    refine W.reg X [] [] [2] [] rfl ⟨⟩ ?_
    refine W.ret ?_
    exact Fin.ret rfl ⟨by rw [List.take_of_length_le (by omega), show l.length - k = 0 by omega, List.replicate_zero, List.append_nil], ⟨⟩⟩
theorem c_toDatabase (x : DB) (hx : size_DB x ≤ 1048576) : Sound ty Tryd.prog 89 [.agg (dec_DB x)] [.agg (dec_DB x)] := by
  refine Sound.of X Tryd.call89 Tryd.func89 rfl rfl (by decide) Tryd.ntmps89 (by simp) ?_
  intro zb
  have hx2 := hx
  unfold size_DB at hx2
  refine W.seq ?_
  refine W.reg X [] [] [1, 2] [] rfl ⟨⟩ ?_
  refine W.seq ?_
  refine W.reg X [] [] [1, 2, 3] [] rfl ⟨⟩ ?_
  refine W.seq ?_
  refine W.reg X [(6, 230)] [(6, ⟨true, [.a (.sl (.sl .u8) x.rows)]⟩)] [2, 3] [] rfl ⟨c_toByteSS x.rows (by omega), ⟨⟩⟩ ?_
  refine W.seq ?_
  refine W.reg X [] [] [2] [] rfl (by (repeat' (first | exact True.intro | apply And.intro)) <;> first | (intros; omega) | exact rfl | exact El_all _ (by decide) | exact ⟨rfl, El_all _ (by decide)⟩ | ((intro h1; first | (intro h2; first | (intro h3; refine And.intro ?_ ?_) | refine And.intro ?_ ?_) | refine And.intro ?_ ?_) <;> first | omega | ((try simp only [nb, inr_t, inr_f] at *); (try simp (disch := omega) only [i64w]); omega)) | ((try simp only [nb, inr_t, inr_f] at *); (simp (disch := omega) only [i64w]); omega) | (refine fun _ => ?_; dsimp only [hyps, imps]; omega) | (refine fun _ _ => ?_; dsimp only [hyps, imps]; omega) | exact (u8w _).1 | exact (u8w _).2 | exact (u8n _).1 | exact (u8n _).2 | (simp only [byt, maxLen, lens]; omega) | (intros; simp only [nb] at *; omega)) ?_
  refine W.ret ?_
  exact Fin.ret rfl (by (repeat' (first | exact True.intro | apply And.intro)) <;> rfl)
theorem c_toArchivedRound (x : ARound) (hx : size_ARound x ≤ 1048576) : Sound ty Tryd.prog 75 [.agg (dec_ARound x)] [.agg (dec_ARound x)] := by
  refine Sound.of X Tryd.call75 Tryd.func75 rfl rfl (by decide) Tryd.ntmps75 (by simp) ?_
  intro zb
  have hx2 := hx
  unfold size_ARound at hx2
  refine W.seq ?_
  refine W.reg X [] [] [1, 2] [] rfl ⟨⟩ ?_
  refine W.seq ?_
  refine W.reg X [] [] [1, 2, 3] [] rfl ⟨⟩ ?_
  refine W.seq ?_
  refine W.reg X [] [] [1, 2, 3] [] rfl ⟨⟩ ?_
  refine W.seq ?_
  refine W.reg X [(9, 230)] [(9, ⟨true, [.agg (dec_DB x.db)]⟩)] [2, 3] [] rfl ⟨c_toDatabase x.db (by omega), ⟨⟩⟩ ?_
  refine W.seq ?_
  refine W.reg X [] [] [2] [] rfl (by (repeat' (first | exact True.intro | apply And.intro)) <;> first | (intros; omega) | exact rfl | exact El_all _ (by decide) | exact ⟨rfl, El_all _ (by decide)⟩ | ((intro h1; first | (intro h2; first | (intro h3; refine And.intro ?_ ?_) | refine And.intro ?_ ?_) | refine And.intro ?_ ?_) <;> first | omega | ((try simp only [nb, inr_t, inr_f] at *); (try simp (disch := omega) only [i64w]); omega)) | ((try simp only [nb, inr_t, inr_f] at *); (simp (disch := omega) only [i64w]); omega) | (refine fun _ => ?_; dsimp only [hyps, imps]; omega) | (refine fun _ _ => ?_; dsimp only [hyps, imps]; omega) | exact (u8w _).1 | exact (u8w _).2 | exact (u8n _).1 | exact (u8n _).2 | (simp only [byt, maxLen, lens]; omega) | (intros; simp only [nb] at *; omega)) ?_
  refine W.ret ?_
  exact Fin.ret rfl (by (repeat' (first | exact True.intro | apply And.intro)) <;> rfl)
theorem c_toArchivedRoundS (l : (List ARound)) (hx : ((lsz size_ARound) l) ≤ 1048576) : Sound ty Tryd.prog 49 [.a (.sl .ARound l)] [.a (.sl .ARound l)] := by
  refine Sound.of X Tryd.call49 Tryd.func49 rfl rfl (by decide) Tryd.ntmps49 (by simp) ?_
  intro zb
  have hl : l.length ≤ 1048576 := lsz_len hx
  refine W.seq ?_
  refine W.reg X [] [] [0] [] rfl ⟨⟩ ?_
  refine W.seq ?_
  refine W.reg X [] [] [0, 3] [] rfl (by (repeat' (first | exact True.intro | apply And.intro)) <;> first | (intros; omega) | exact rfl | exact El_all _ (by decide) | exact ⟨rfl, El_all _ (by decide)⟩ | ((intro h1; first | (intro h2; first | (intro h3; refine And.intro ?_ ?_) | refine And.intro ?_ ?_) | refine And.intro ?_ ?_) <;> first | omega | ((try simp only [nb, inr_t, inr_f] at *); (try simp (disch := omega) only [i64w]); omega)) | ((try simp only [nb, inr_t, inr_f] at *); (simp (disch := omega) only [i64w]); omega) | (refine fun _ => ?_; dsimp only [hyps, imps]; omega) | (refine fun _ _ => ?_; dsimp only [hyps, imps]; omega) | exact (u8w _).1 | exact (u8w _).2 | exact (u8n _).1 | exact (u8n _).2 | (simp only [byt, maxLen, lens]; omega) | (intros; simp only [nb] at *; omega)) ?_
  refine W.seq ?_
  refine W.seq ?_
  refine W.reg X [] [] [0, 3, 4] [] rfl ⟨⟩ ?_
  refine W.block ?_
  refine W.loopO (fun k => k ≤ l.length) (fun k : Nat => [(4, .one (.a (.lit (.int .i64 k))))]) (fun k => [(7, .arr .ARound (l.take k ++ List.replicate (l.length - k) (dfl .ARound)))]) (fun k => l.length - k) 0 (fun k => rfl) (Nat.zero_le _) rfl ?_
  intro k hk
  refine W.seq ?_
  refine W.seq ?_
  refine W.reg X [] [] [0, 3, 4, 11] [] rfl ⟨⟩ ?_
  refine W.cond rfl (fun hb0 => ?_) (fun hb0 => ?_)
  · try simp only [nb] at hb0
    have hsl := set_len l (dfl .ARound) k (by omega)
    refine W.skip ?_
    refine W.seq ?_
    refine W.block ?_
    refine W.reg X [(20, 300)] [(20, ⟨true, [.agg (dec_ARound (l.getD k (dfl .ARound)))]⟩)] [0, 3, 4] [] rfl (by (repeat' (first | with_reducible exact AllP.nil | with_reducible refine AllP.mk ?_ ?_ | with_reducible apply And.intro)) <;> skip; (iterate 1 (all_goals try (first | exact c_toArchivedRound (l.getD k (dfl .ARound)) (lsz_mem hx (getD_some l _ k hb0)) | exact fun _ => c_toArchivedRound (l.getD k (dfl .ARound)) (lsz_mem hx (getD_some l _ k hb0)) | exact fun _ _ => c_toArchivedRound (l.getD k (dfl .ARound)) (lsz_mem hx (getD_some l _ k hb0))))); all_goals (first | (intros; omega) | exact rfl | exact El_all _ (by decide) | exact ⟨rfl, El_all _ (by decide)⟩ | ((intro h1; first | (intro h2; first | (intro h3; refine And.intro ?_ ?_) | refine And.intro ?_ ?_) | refine And.intro ?_ ?_) <;> first | omega | ((try simp only [nb, inr_t, inr_f] at *); (try simp (disch := omega) only [i64w]); omega)) | ((try simp only [nb, inr_t, inr_f] at *); (simp (disch := omega) only [i64w]); omega) | (refine fun _ => ?_; dsimp only [hyps, imps]; omega) | (refine fun _ _ => ?_; dsimp only [hyps, imps]; omega) | exact (u8w _).1 | exact (u8w _).2 | exact (u8n _).1 | exact (u8n _).2 | (simp only [byt, maxLen, lens]; omega) | (intros; simp only [nb] at *; omega))) ?_
    have e1 := set_step l (dfl .ARound) k hb0
    refine W.reg X [] [] [0, 3, 4] [] rfl ⟨⟩ ?_
    refine ⟨k + 1, by omega, by omega, ?_⟩
    rw [wadd _ k rfl (by omega), ← e1]
    try rfl
  · try simp only [nb] at hb0
    refine W.exit ?_
    refine W.seq ?_
    refine W.reg X [] [] [2] [] rfl ⟨⟩ ?_
    refine W.ret ?_
    exact Fin.ret rfl ⟨by rw [List.take_of_length_le (by omega), show l.length - k = 0 by omega, List.replicate_zero, List.append_nil], ⟨⟩⟩
theorem c_toArchive (x : Arc) (hx : size_Arc x ≤ 1048576) : Sound ty Tryd.prog 25 [.agg (dec_Arc x)] [.agg (dec_Arc x)] := by
  refine Sound.of X Tryd.call25 Tryd.func25 rfl rfl (by decide) Tryd.ntmps25 (by simp) ?_
  intro zb
  have hx2 := hx
  unfold size_Arc at hx2
  refine W.seq ?_
  refine W.reg X [] [] [1, 2] [] rfl ⟨⟩ ?_
  refine W.seq ?_
  refine W.reg X [] [] [1, 2, 3] [] rfl ⟨⟩ ?_
  refine W.seq ?_
  refine W.reg X [] [] [1, 2, 3] [] rfl ⟨⟩ ?_
  refine W.seq ?_
  refine W.reg X [(9, 230)] [(9, ⟨true, [.a (.sl .ARound x.rounds)]⟩)] [2, 3] [] rfl ⟨c_toArchivedRoundS x.rounds (by omega), ⟨⟩⟩ ?_
  refine W.seq ?_
  refine W.reg X [] [] [2] [] rfl (by (repeat' (first | exact True.intro | apply And.intro)) <;> first | (intros; omega) | exact rfl | exact El_all _ (by decide) | exact ⟨rfl, El_all _ (by decide)⟩ | ((intro h1; first | (intro h2; first | (intro h3; refine And.intro ?_ ?_) | refine And.intro ?_ ?_) | refine And.intro ?_ ?_) <;> first | omega | ((try simp only [nb, inr_t, inr_f] at *); (try simp (disch := omega) only [i64w]); omega)) | ((try simp only [nb, inr_t, inr_f] at *); (simp (disch := omega) only [i64w]); omega) | (refine fun _ => ?_; dsimp only [hyps, imps]; omega) | (refine fun _ _ => ?_; dsimp only [hyps, imps]; omega) | exact (u8w _).1 | exact (u8w _).2 | exact (u8n _).1 | exact (u8n _).2 | (simp only [byt, maxLen, lens]; omega) | (intros; simp only [nb] at *; omega)) ?_
  refine W.ret ?_
  exact Fin.ret rfl (by (repeat' (first | exact True.intro | apply And.intro)) <;> rfl)
theorem c_toClient (x : Cli) (hx : size_Cli x ≤ 1048576) : Sound ty Tryd.prog 10 [.agg (dec_Cli x)] [.agg (dec_Cli x)] := by
  refine Sound.of X Tryd.call10 Tryd.func10 rfl rfl (by decide) Tryd.ntmps10 (by simp) ?_
  intro zb
  have hx2 := hx
  unfold size_Cli at hx2
  refine W.seq ?_
  refine W.reg X [] [] [1, 2] [] rfl ⟨⟩ ?_
  refine W.seq ?_
  refine W.reg X [] [] [1, 2, 3] [] rfl ⟨⟩ ?_
  refine W.seq ?_
  refine W.reg X [] [] [1, 2, 3] [] rfl ⟨⟩ ?_
  refine W.seq ?_
  refine W.reg X [] [] [1, 2, 3] [] rfl ⟨⟩ ?_
  refine W.seq ?_
  refine W.reg X [] [] [1, 2, 3] [] rfl ⟨⟩ ?_
  refine W.seq ?_
  refine W.reg X [] [] [1, 2, 3] [] rfl ⟨⟩ ?_
  refine W.seq ?_
  refine W.reg X [(18, 230)] [(18, ⟨true, [.a (.sl (.sl .u8) x.submitted)]⟩)] [1, 2, 3] [] rfl ⟨c_toByteSS x.submitted (by omega), ⟨⟩⟩ ?_
  refine W.seq ?_
  refine W.reg X [] [] [1, 2, 3] [] rfl ⟨⟩ ?_
  refine W.seq ?_
  refine W.reg X [(25, 260)] [(25, ⟨true, [.a (.sl (.sl .u8) x.inbox)]⟩)] [1, 2, 3] [] rfl ⟨c_toByteSS x.inbox (by omega), ⟨⟩⟩ ?_
  refine W.seq ?_
  refine W.reg X [] [] [2, 3] [] rfl ⟨⟩ ?_
  refine W.seq ?_
  refine W.reg X [] [] [2] [] rfl (by (repeat' (first | exact True.intro | apply And.intro)) <;> first | (intros; omega) | exact rfl | exact El_all _ (by decide) | exact ⟨rfl, El_all _ (by decide)⟩ | ((intro h1; first | (intro h2; first | (intro h3; refine And.intro ?_ ?_) | refine And.intro ?_ ?_) | refine And.intro ?_ ?_) <;> first | omega | ((try simp only [nb, inr_t, inr_f] at *); (try simp (disch := omega) only [i64w]); omega)) | ((try simp only [nb, inr_t, inr_f] at *); (simp (disch := omega) only [i64w]); omega) | (refine fun _ => ?_; dsimp only [hyps, imps]; omega) | (refine fun _ _ => ?_; dsimp only [hyps, imps]; omega) | exact (u8w _).1 | exact (u8w _).2 | exact (u8n _).1 | exact (u8n _).2 | (simp only [byt, maxLen, lens]; omega) | (intros; simp only [nb] at *; omega)) ?_
  refine W.ret ?_
  exact Fin.ret rfl (by (repeat' (first | exact True.intro | apply And.intro)) <;> rfl)
theorem c_toDevice (x : Dev) (hx : size_Dev x ≤ 1048576) : Sound ty Tryd.prog 80 [.agg (dec_Dev x)] [.agg (dec_Dev x)] := by
  refine Sound.of X Tryd.call80 Tryd.func80 rfl rfl (by decide) Tryd.ntmps80 (by simp) ?_
  intro zb
  have hx2 := hx
  unfold size_Dev at hx2
  refine W.seq ?_
  refine W.reg X [] [] [1, 2] [] rfl ⟨⟩ ?_
  refine W.seq ?_
  refine W.reg X [] [] [1, 2, 3] [] rfl ⟨⟩ ?_
  refine W.seq ?_
  refine W.reg X [(6, 230)] [(6, ⟨true, [.agg (dec_Cli x.live)]⟩)] [1, 2, 3] [] rfl ⟨c_toClient x.live (by omega), ⟨⟩⟩ ?_
  refine W.seq ?_
  refine W.reg X [(10, 260)] [(10, ⟨true, [.agg (dec_Cli x.saved)]⟩)] [2, 3] [] rfl ⟨c_toClient x.saved (by omega), ⟨⟩⟩ ?_
  refine W.seq ?_
  refine W.reg X [] [] [2] [] rfl (by (repeat' (first | exact True.intro | apply And.intro)) <;> first | (intros; omega) | exact rfl | exact El_all _ (by decide) | exact ⟨rfl, El_all _ (by decide)⟩ | ((intro h1; first | (intro h2; first | (intro h3; refine And.intro ?_ ?_) | refine And.intro ?_ ?_) | refine And.intro ?_ ?_) <;> first | omega | ((try simp only [nb, inr_t, inr_f] at *); (try simp (disch := omega) only [i64w]); omega)) | ((try simp only [nb, inr_t, inr_f] at *); (simp (disch := omega) only [i64w]); omega) | (refine fun _ => ?_; dsimp only [hyps, imps]; omega) | (refine fun _ _ => ?_; dsimp only [hyps, imps]; omega) | exact (u8w _).1 | exact (u8w _).2 | exact (u8n _).1 | exact (u8n _).2 | (simp only [byt, maxLen, lens]; omega) | (intros; simp only [nb] at *; omega)) ?_
  refine W.ret ?_
  exact Fin.ret rfl (by (repeat' (first | exact True.intro | apply And.intro)) <;> rfl)
theorem c_toDeviceS (l : (List Dev)) (hx : ((lsz size_Dev) l) ≤ 1048576) : Sound ty Tryd.prog 58 [.a (.sl .Dev l)] [.a (.sl .Dev l)] := by
  refine Sound.of X Tryd.call58 Tryd.func58 rfl rfl (by decide) Tryd.ntmps58 (by simp) ?_
  intro zb
  have hl : l.length ≤ 1048576 := lsz_len hx
  refine W.seq ?_
  refine W.reg X [] [] [0] [] rfl ⟨⟩ ?_
  refine W.seq ?_
  refine W.reg X [] [] [0, 3] [] rfl (by (repeat' (first | exact True.intro | apply And.intro)) <;> first | (intros; omega) | exact rfl | exact El_all _ (by decide) | exact ⟨rfl, El_all _ (by decide)⟩ | ((intro h1; first | (intro h2; first | (intro h3; refine And.intro ?_ ?_) | refine And.intro ?_ ?_) | refine And.intro ?_ ?_) <;> first | omega | ((try simp only [nb, inr_t, inr_f] at *); (try simp (disch := omega) only [i64w]); omega)) | ((try simp only [nb, inr_t, inr_f] at *); (simp (disch := omega) only [i64w]); omega) | (refine fun _ => ?_; dsimp only [hyps, imps]; omega) | (refine fun _ _ => ?_; dsimp only [hyps, imps]; omega) | exact (u8w _).1 | exact (u8w _).2 | exact (u8n _).1 | exact (u8n _).2 | (simp only [byt, maxLen, lens]; omega) | (intros; simp only [nb] at *; omega)) ?_
  refine W.seq ?_
  refine W.seq ?_
  refine W.reg X [] [] [0, 3, 4] [] rfl ⟨⟩ ?_
  refine W.block ?_
  refine W.loopO (fun k => k ≤ l.length) (fun k : Nat => [(4, .one (.a (.lit (.int .i64 k))))]) (fun k => [(7, .arr .Dev (l.take k ++ List.replicate (l.length - k) (dfl .Dev)))]) (fun k => l.length - k) 0 (fun k => rfl) (Nat.zero_le _) rfl ?_
  intro k hk
  refine W.seq ?_
  refine W.seq ?_
  refine W.reg X [] [] [0, 3, 4, 11] [] rfl ⟨⟩ ?_
  refine W.cond rfl (fun hb0 => ?_) (fun hb0 => ?_)
  · try simp only [nb] at hb0
    have hsl := set_len l (dfl .Dev) k (by omega)
    refine W.skip ?_
    refine W.seq ?_
    refine W.block ?_
    refine W.reg X [(20, 300)] [(20, ⟨true, [.agg (dec_Dev (l.getD k (dfl .Dev)))]⟩)] [0, 3, 4] [] rfl (by (repeat' (first | with_reducible exact AllP.nil | with_reducible refine AllP.mk ?_ ?_ | with_reducible apply And.intro)) <;> skip; (iterate 1 (all_goals try (first | exact c_toDevice (l.getD k (dfl .Dev)) (lsz_mem hx (getD_some l _ k hb0)) | exact fun _ => c_toDevice (l.getD k (dfl .Dev)) (lsz_mem hx (getD_some l _ k hb0)) | exact fun _ _ => c_toDevice (l.getD k (dfl .Dev)) (lsz_mem hx (getD_some l _ k hb0))))); all_goals (first | (intros; omega) | exact rfl | exact El_all _ (by decide) | exact ⟨rfl, El_all _ (by decide)⟩ | ((intro h1; first | (intro h2; first | (intro h3; refine And.intro ?_ ?_) | refine And.intro ?_ ?_) | refine And.intro ?_ ?_) <;> first | omega | ((try simp only [nb, inr_t, inr_f] at *); (try simp (disch := omega) only [i64w]); omega)) | ((try simp only [nb, inr_t, inr_f] at *); (simp (disch := omega) only [i64w]); omega) | (refine fun _ => ?_; dsimp only [hyps, imps]; omega) | (refine fun _ _ => ?_; dsimp only [hyps, imps]; omega) | exact (u8w _).1 | exact (u8w _).2 | exact (u8n _).1 | exact (u8n _).2 | (simp only [byt, maxLen, lens]; omega) | (intros; simp only [nb] at *; omega))) ?_
    have e1 := set_step l (dfl .Dev) k hb0
    refine W.reg X [] [] [0, 3, 4] [] rfl ⟨⟩ ?_
    refine ⟨k + 1, by omega, by omega, ?_⟩
    rw [wadd _ k rfl (by omega), ← e1]
    try rfl
  · try simp only [nb] at hb0
    refine W.exit ?_
    refine W.seq ?_
    refine W.reg X [] [] [2] [] rfl ⟨⟩ ?_
    refine W.ret ?_
    exact Fin.ret rfl ⟨by rw [List.take_of_length_le (by omega), show l.length - k = 0 by omega, List.replicate_zero, List.append_nil], ⟨⟩⟩
theorem c_toIntS (l : (List Int)) (hx : (List.length l) ≤ 1048576) : Sound ty Tryd.prog 59 [.a (.sl .int l)] [.a (.sl .int l)] := by
  refine Sound.of X Tryd.call59 Tryd.func59 rfl rfl (by decide) Tryd.ntmps59 (by simp) ?_
  intro zb
  have hl : l.length ≤ 1048576 := hx
  refine W.seq ?_
  refine W.reg X [] [] [0] [] rfl ⟨⟩ ?_
  refine W.seq ?_
  refine W.reg X [] [] [0, 3] [] rfl (by (repeat' (first | exact True.intro | apply And.intro)) <;> first | (intros; omega) | exact rfl | exact El_all _ (by decide) | exact ⟨rfl, El_all _ (by decide)⟩ | ((intro h1; first | (intro h2; first | (intro h3; refine And.intro ?_ ?_) | refine And.intro ?_ ?_) | refine And.intro ?_ ?_) <;> first | omega | ((try simp only [nb, inr_t, inr_f] at *); (try simp (disch := omega) only [i64w]); omega)) | ((try simp only [nb, inr_t, inr_f] at *); (simp (disch := omega) only [i64w]); omega) | (refine fun _ => ?_; dsimp only [hyps, imps]; omega) | (refine fun _ _ => ?_; dsimp only [hyps, imps]; omega) | exact (u8w _).1 | exact (u8w _).2 | exact (u8n _).1 | exact (u8n _).2 | (simp only [byt, maxLen, lens]; omega) | (intros; simp only [nb] at *; omega)) ?_
  refine W.seq ?_
  refine W.seq ?_
  refine W.reg X [] [] [0, 3, 4] [] rfl ⟨⟩ ?_
  refine W.block ?_
  refine W.loopO (fun k => k ≤ l.length) (fun k : Nat => [(4, .one (.a (.lit (.int .i64 k))))]) (fun k => [(7, .arr .int (l.take k ++ List.replicate (l.length - k) (dfl .int)))]) (fun k => l.length - k) 0 (fun k => rfl) (Nat.zero_le _) rfl ?_
  intro k hk
  refine W.seq ?_
  refine W.seq ?_
  refine W.reg X [] [] [0, 3, 4, 11] [] rfl ⟨⟩ ?_
  refine W.cond rfl (fun hb0 => ?_) (fun hb0 => ?_)
  · try simp only [nb] at hb0
    have hsl := set_len l (dfl .int) k (by omega)
    refine W.skip ?_
    refine W.seq ?_
    refine W.block ?_
    refine W.reg X [] [] [0, 3, 4] [] rfl (by (repeat' (first | exact True.intro | apply And.intro)) <;> first | (intros; omega) | exact rfl | exact El_all _ (by decide) | exact ⟨rfl, El_all _ (by decide)⟩ | ((intro h1; first | (intro h2; first | (intro h3; refine And.intro ?_ ?_) | refine And.intro ?_ ?_) | refine And.intro ?_ ?_) <;> first | omega | ((try simp only [nb, inr_t, inr_f] at *); (try simp (disch := omega) only [i64w]); omega)) | ((try simp only [nb, inr_t, inr_f] at *); (simp (disch := omega) only [i64w]); omega) | (refine fun _ => ?_; dsimp only [hyps, imps]; omega) | (refine fun _ _ => ?_; dsimp only [hyps, imps]; omega) | exact (u8w _).1 | exact (u8w _).2 | exact (u8n _).1 | exact (u8n _).2 | (simp only [byt, maxLen, lens]; omega) | (intros; simp only [nb] at *; omega)) ?_
    have e1 := set_step l (dfl .int) k hb0
    refine W.reg X [] [] [0, 3, 4] [] rfl ⟨⟩ ?_
    refine ⟨k + 1, by omega, by omega, ?_⟩
    rw [wadd _ k rfl (by omega), ← e1]
    try rfl
  · try simp only [nb] at hb0
    refine W.exit ?_
    refine W.seq ?_
    refine W.reg X [] [] [2] [] rfl ⟨⟩ ?_
    refine W.ret ?_
    exact Fin.ret rfl ⟨by rw [List.take_of_length_le (by omega), show l.length - k = 0 by omega, List.replicate_zero, List.append_nil], ⟨⟩⟩
theorem c_toReceivedShare (x : RShare) (hx : size_RShare x ≤ 1048576) : Sound ty Tryd.prog 71 [.agg (dec_RShare x)] [.agg (dec_RShare x)] := by
  refine Sound.of X Tryd.call71 Tryd.func71 rfl rfl (by decide) Tryd.ntmps71 (by simp) ?_
  intro zb
  have hx2 := hx
  unfold size_RShare at hx2
  refine W.seq ?_
  refine W.reg X [] [] [1, 2] [] rfl ⟨⟩ ?_
  refine W.seq ?_
  refine W.reg X [] [] [1, 2, 3] [] rfl ⟨⟩ ?_
  refine W.seq ?_
  refine W.reg X [] [] [1, 2, 3] [] rfl ⟨⟩ ?_
  refine W.seq ?_
  refine W.reg X [(9, 230)] [(9, ⟨true, [.agg (dec_DB x.share)]⟩)] [2, 3] [] rfl ⟨c_toDatabase x.share (by omega), ⟨⟩⟩ ?_
  refine W.seq ?_
  refine W.reg X [] [] [2] [] rfl (by (repeat' (first | exact True.intro | apply And.intro)) <;> first | (intros; omega) | exact rfl | exact El_all _ (by decide) | exact ⟨rfl, El_all _ (by decide)⟩ | ((intro h1; first | (intro h2; first | (intro h3; refine And.intro ?_ ?_) | refine And.intro ?_ ?_) | refine And.intro ?_ ?_) <;> first | omega | ((try simp only [nb, inr_t, inr_f] at *); (try simp (disch := omega) only [i64w]); omega)) | ((try simp only [nb, inr_t, inr_f] at *); (simp (disch := omega) only [i64w]); omega) | (refine fun _ => ?_; dsimp only [hyps, imps]; omega) | (refine fun _ _ => ?_; dsimp only [hyps, imps]; omega) | exact (u8w _).1 | exact (u8w _).2 | exact (u8n _).1 | exact (u8n _).2 | (simp only [byt, maxLen, lens]; omega) | (intros; simp only [nb] at *; omega)) ?_
  refine W.ret ?_
  exact Fin.ret rfl (by (repeat' (first | exact True.intro | apply And.intro)) <;> rfl)
theorem c_toReceivedShareS (l : (List RShare)) (hx : ((lsz size_RShare) l) ≤ 1048576) : Sound ty Tryd.prog 43 [.a (.sl .RShare l)] [.a (.sl .RShare l)] := by
  refine Sound.of X Tryd.call43 Tryd.func43 rfl rfl (by decide) Tryd.ntmps43 (by simp) ?_
  intro zb
  have hl : l.length ≤ 1048576 := lsz_len hx
  refine W.seq ?_
  refine W.reg X [] [] [0] [] rfl ⟨⟩ ?_
  refine W.seq ?_
  refine W.reg X [] [] [0, 3] [] rfl (by (repeat' (first | exact True.intro | apply And.intro)) <;> first | (intros; omega) | exact rfl | exact El_all _ (by decide) | exact ⟨rfl, El_all _ (by decide)⟩ | ((intro h1; first | (intro h2; first | (intro h3; refine And.intro ?_ ?_) | refine And.intro ?_ ?_) | refine And.intro ?_ ?_) <;> first | omega | ((try simp only [nb, inr_t, inr_f] at *); (try simp (disch := omega) only [i64w]); omega)) | ((try simp only [nb, inr_t, inr_f] at *); (simp (disch := omega) only [i64w]); omega) | (refine fun _ => ?_; dsimp only [hyps, imps]; omega) | (refine fun _ _ => ?_; dsimp only [hyps, imps]; omega) | exact (u8w _).1 | exact (u8w _).2 | exact (u8n _).1 | exact (u8n _).2 | (simp only [byt, maxLen, lens]; omega) | (intros; simp only [nb] at *; omega)) ?_
  refine W.seq ?_
  refine W.seq ?_
  refine W.reg X [] [] [0, 3, 4] [] rfl ⟨⟩ ?_
  refine W.block ?_
  refine W.loopO (fun k => k ≤ l.length) (fun k : Nat => [(4, .one (.a (.lit (.int .i64 k))))]) (fun k => [(7, .arr .RShare (l.take k ++ List.replicate (l.length - k) (dfl .RShare)))]) (fun k => l.length - k) 0 (fun k => rfl) (Nat.zero_le _) rfl ?_
  intro k hk
  refine W.seq ?_
  refine W.seq ?_
  refine W.reg X [] [] [0, 3, 4, 11] [] rfl ⟨⟩ ?_
  refine W.cond rfl (fun hb0 => ?_) (fun hb0 => ?_)
  · try simp only [nb] at hb0
    have hsl := set_len l (dfl .RShare) k (by omega)
    refine W.skip ?_
    refine W.seq ?_
    refine W.block ?_
    refine W.reg X [(20, 300)] [(20, ⟨true, [.agg (dec_RShare (l.getD k (dfl .RShare)))]⟩)] [0, 3, 4] [] rfl (by (repeat' (first | with_reducible exact AllP.nil | with_reducible refine AllP.mk ?_ ?_ | with_reducible apply And.intro)) <;> skip; (iterate 1 (all_goals try (first | exact c_toReceivedShare (l.getD k (dfl .RShare)) (lsz_mem hx (getD_some l _ k hb0)) | exact fun _ => c_toReceivedShare (l.getD k (dfl .RShare)) (lsz_mem hx (getD_some l _ k hb0)) | exact fun _ _ => c_toReceivedShare (l.getD k (dfl .RShare)) (lsz_mem hx (getD_some l _ k hb0))))); all_goals (first | (intros; omega) | exact rfl | exact El_all _ (by decide) | exact ⟨rfl, El_all _ (by decide)⟩ | ((intro h1; first | (intro h2; first | (intro h3; refine And.intro ?_ ?_) | refine And.intro ?_ ?_) | refine And.intro ?_ ?_) <;> first | omega | ((try simp only [nb, inr_t, inr_f] at *); (try simp (disch := omega) only [i64w]); omega)) | ((try simp only [nb, inr_t, inr_f] at *); (simp (disch := omega) only [i64w]); omega) | (refine fun _ => ?_; dsimp only [hyps, imps]; omega) | (refine fun _ _ => ?_; dsimp only [hyps, imps]; omega) | exact (u8w _).1 | exact (u8w _).2 | exact (u8n _).1 | exact (u8n _).2 | (simp only [byt, maxLen, lens]; omega) | (intros; simp only [nb] at *; omega))) ?_
    have e1 := set_step l (dfl .RShare) k hb0
    refine W.reg X [] [] [0, 3, 4] [] rfl ⟨⟩ ?_
    refine ⟨k + 1, by omega, by omega, ?_⟩
    rw [wadd _ k rfl (by omega), ← e1]
    try rfl
  · try simp only [nb] at hb0
    refine W.exit ?_
    refine W.seq ?_
    refine W.reg X [] [] [2] [] rfl ⟨⟩ ?_
    refine W.ret ?_
    exact Fin.ret rfl ⟨by rw [List.take_of_length_le (by omega), show l.length - k = 0 by omega, List.replicate_zero, List.append_nil], ⟨⟩⟩
theorem c_toServer (x : Srv) (hx : size_Srv x ≤ 1048576) : Sound ty Tryd.prog 20 [.agg (dec_Srv x)] [.agg (dec_Srv x)] := by
  refine Sound.of X Tryd.call20 Tryd.func20 rfl rfl (by decide) Tryd.ntmps20 (by simp) ?_
  intro zb
  have hx2 := hx
  unfold size_Srv at hx2
  refine W.seq ?_
  refine W.reg X [] [] [1, 2] [] rfl ⟨⟩ ?_
  refine W.seq ?_
  refine W.reg X [] [] [1, 2, 3] [] rfl ⟨⟩ ?_
  refine W.seq ?_
  refine W.reg X [] [] [1, 2, 3] [] rfl ⟨⟩ ?_
  refine W.seq ?_
  refine W.reg X [] [] [1, 2, 3] [] rfl ⟨⟩ ?_
  refine W.seq ?_
  refine W.reg X [] [] [1, 2, 3] [] rfl ⟨⟩ ?_
  refine W.seq ?_
  refine W.reg X [(15, 230)] [(15, ⟨true, [.a (.sl .RShare x.received)]⟩)] [1, 2, 3] [] rfl ⟨c_toReceivedShareS x.received (by omega), ⟨⟩⟩ ?_
  refine W.seq ?_
  refine W.reg X [] [] [2, 3] [] rfl ⟨⟩ ?_
  refine W.seq ?_
  refine W.reg X [] [] [2] [] rfl (by (repeat' (first | exact True.intro | apply And.intro)) <;> first | (intros; omega) | exact rfl | exact El_all _ (by decide) | exact ⟨rfl, El_all _ (by decide)⟩ | ((intro h1; first | (intro h2; first | (intro h3; refine And.intro ?_ ?_) | refine And.intro ?_ ?_) | refine And.intro ?_ ?_) <;> first | omega | ((try simp only [nb, inr_t, inr_f] at *); (try simp (disch := omega) only [i64w]); omega)) | ((try simp only [nb, inr_t, inr_f] at *); (simp (disch := omega) only [i64w]); omega) | (refine fun _ => ?_; dsimp only [hyps, imps]; omega) | (refine fun _ _ => ?_; dsimp only [hyps, imps]; omega) | exact (u8w _).1 | exact (u8w _).2 | exact (u8n _).1 | exact (u8n _).2 | (simp only [byt, maxLen, lens]; omega) | (intros; simp only [nb] at *; omega)) ?_
  refine W.ret ?_
  exact Fin.ret rfl (by (repeat' (first | exact True.intro | apply And.intro)) <;> rfl)
theorem c_toServerS (l : (List Srv)) (hx : ((lsz size_Srv) l) ≤ 1048576) : Sound ty Tryd.prog 57 [.a (.sl .Srv l)] [.a (.sl .Srv l)] := by
  refine Sound.of X Tryd.call57 Tryd.func57 rfl rfl (by decide) Tryd.ntmps57 (by simp) ?_
  intro zb
  have hl : l.length ≤ 1048576 := lsz_len hx
  refine W.seq ?_
  refine W.reg X [] [] [0] [] rfl ⟨⟩ ?_
  refine W.seq ?_
  refine W.reg X [] [] [0, 3] [] rfl (by (repeat' (first | exact True.intro | apply And.intro)) <;> first | (intros; omega) | exact rfl | exact El_all _ (by decide) | exact ⟨rfl, El_all _ (by decide)⟩ | ((intro h1; first | (intro h2; first | (intro h3; refine And.intro ?_ ?_) | refine And.intro ?_ ?_) | refine And.intro ?_ ?_) <;> first | omega | ((try simp only [nb, inr_t, inr_f] at *); (try simp (disch := omega) only [i64w]); omega)) | ((try simp only [nb, inr_t, inr_f] at *); (simp (disch := omega) only [i64w]); omega) | (refine fun _ => ?_; dsimp only [hyps, imps]; omega) | (refine fun _ _ => ?_; dsimp only [hyps, imps]; omega) | exact (u8w _).1 | exact (u8w _).2 | exact (u8n _).1 | exact (u8n _).2 | (simp only [byt, maxLen, lens]; omega) | (intros; simp only [nb] at *; omega)) ?_
  refine W.seq ?_
  refine W.seq ?_
  refine W.reg X [] [] [0, 3, 4] [] rfl ⟨⟩ ?_
  refine W.block ?_
  refine W.loopO (fun k => k ≤ l.length) (fun k : Nat => [(4, .one (.a (.lit (.int .i64 k))))]) (fun k => [(7, .arr .Srv (l.take k ++ List.replicate (l.length - k) (dfl .Srv)))]) (fun k => l.length - k) 0 (fun k => rfl) (Nat.zero_le _) rfl ?_
  intro k hk
  refine W.seq ?_
  refine W.seq ?_
  refine W.reg X [] [] [0, 3, 4, 11] [] rfl ⟨⟩ ?_
  refine W.cond rfl (fun hb0 => ?_) (fun hb0 => ?_)
  · try simp only [nb] at hb0
    have hsl := set_len l (dfl .Srv) k (by omega)
    refine W.skip ?_
    refine W.seq ?_
    refine W.block ?_
    refine W.reg X [(20, 300)] [(20, ⟨true, [.agg (dec_Srv (l.getD k (dfl .Srv)))]⟩)] [0, 3, 4] [] rfl (by (repeat' (first | with_reducible exact AllP.nil | with_reducible refine AllP.mk ?_ ?_ | with_reducible apply And.intro)) <;> skip; (iterate 1 (all_goals try (first | exact c_toServer (l.getD k (dfl .Srv)) (lsz_mem hx (getD_some l _ k hb0)) | exact fun _ => c_toServer (l.getD k (dfl .Srv)) (lsz_mem hx (getD_some l _ k hb0)) | exact fun _ _ => c_toServer (l.getD k (dfl .Srv)) (lsz_mem hx (getD_some l _ k hb0))))); all_goals (first | (intros; omega) | exact rfl | exact El_all _ (by decide) | exact ⟨rfl, El_all _ (by decide)⟩ | ((intro h1; first | (intro h2; first | (intro h3; refine And.intro ?_ ?_) | refine And.intro ?_ ?_) | refine And.intro ?_ ?_) <;> first | omega | ((try simp only [nb, inr_t, inr_f] at *); (try simp (disch := omega) only [i64w]); omega)) | ((try simp only [nb, inr_t, inr_f] at *); (simp (disch := omega) only [i64w]); omega) | (refine fun _ => ?_; dsimp only [hyps, imps]; omega) | (refine fun _ _ => ?_; dsimp only [hyps, imps]; omega) | exact (u8w _).1 | exact (u8w _).2 | exact (u8n _).1 | exact (u8n _).2 | (simp only [byt, maxLen, lens]; omega) | (intros; simp only [nb] at *; omega))) ?_
    have e1 := set_step l (dfl .Srv) k hb0
    refine W.reg X [] [] [0, 3, 4] [] rfl ⟨⟩ ?_
    refine ⟨k + 1, by omega, by omega, ?_⟩
    rw [wadd _ k rfl (by omega), ← e1]
    try rfl
  · try simp only [nb] at hb0
    refine W.exit ?_
    refine W.seq ?_
    refine W.reg X [] [] [2] [] rfl ⟨⟩ ?_
    refine W.ret ?_
    exact Fin.ret rfl ⟨by rw [List.take_of_length_le (by omega), show l.length - k = 0 by omega, List.replicate_zero, List.append_nil], ⟨⟩⟩
theorem c_toWorld (x : Wld) (hx : size_Wld x ≤ 1048576) : Sound ty Tryd.prog 30 [.agg (dec_Wld x)] [.agg (dec_Wld x)] := by
  refine Sound.of X Tryd.call30 Tryd.func30 rfl rfl (by decide) Tryd.ntmps30 (by simp) ?_
  intro zb
  have hx2 := hx
  unfold size_Wld at hx2
  refine W.seq ?_
  refine W.reg X [] [] [1, 2] [] rfl ⟨⟩ ?_
  refine W.seq ?_
  refine W.reg X [] [] [1, 2, 3] [] rfl ⟨⟩ ?_
  refine W.seq ?_
  refine W.reg X [] [] [1, 2, 3] [] rfl ⟨⟩ ?_
  refine W.seq ?_
  refine W.reg X [(9, 230)] [(9, ⟨true, [.a (.sl .Srv x.servers)]⟩)] [1, 2, 3] [] rfl ⟨c_toServerS x.servers (by omega), ⟨⟩⟩ ?_
  refine W.seq ?_
  refine W.reg X [(13, 260)] [(13, ⟨true, [.a (.sl .Dev x.devices)]⟩)] [1, 2, 3] [] rfl ⟨c_toDeviceS x.devices (by omega), ⟨⟩⟩ ?_
  refine W.seq ?_
  refine W.reg X [(17, 290)] [(17, ⟨true, [.agg (dec_Arc x.archive)]⟩)] [1, 2, 3] [] rfl ⟨c_toArchive x.archive (by omega), ⟨⟩⟩ ?_
  refine W.seq ?_
  refine W.reg X [] [] [1, 2, 3] [] rfl ⟨⟩ ?_
  refine W.seq ?_
  refine W.reg X [] [] [1, 2, 3] [] rfl ⟨⟩ ?_
  refine W.seq ?_
  refine W.reg X [] [] [1, 2, 3] [] rfl ⟨⟩ ?_
  refine W.seq ?_
  refine W.reg X [(30, 320)] [(30, ⟨true, [.a (.sl .int x.replaced)]⟩)] [1, 2, 3] [] rfl ⟨c_toIntS x.replaced (by omega), ⟨⟩⟩ ?_
  refine W.seq ?_
  refine W.reg X [] [] [2, 3] [] rfl ⟨⟩ ?_
  refine W.seq ?_
  refine W.reg X [] [] [2] [] rfl (by (repeat' (first | exact True.intro | apply And.intro)) <;> first | (intros; omega) | exact rfl | exact El_all _ (by decide) | exact ⟨rfl, El_all _ (by decide)⟩ | ((intro h1; first | (intro h2; first | (intro h3; refine And.intro ?_ ?_) | refine And.intro ?_ ?_) | refine And.intro ?_ ?_) <;> first | omega | ((try simp only [nb, inr_t, inr_f] at *); (try simp (disch := omega) only [i64w]); omega)) | ((try simp only [nb, inr_t, inr_f] at *); (simp (disch := omega) only [i64w]); omega) | (refine fun _ => ?_; dsimp only [hyps, imps]; omega) | (refine fun _ _ => ?_; dsimp only [hyps, imps]; omega) | exact (u8w _).1 | exact (u8w _).2 | exact (u8n _).1 | exact (u8n _).2 | (simp only [byt, maxLen, lens]; omega) | (intros; simp only [nb] at *; omega)) ?_
  refine W.ret ?_
  exact Fin.ret rfl (by (repeat' (first | exact True.intro | apply And.intro)) <;> rfl)
end Go.Proofs.YtjknhnhcbadigaaDoor.G
namespace Go.Proofs.YtjknhnhcbadigaaDoor.G
set_option linter.all false
open Go.RowKit L D
set_option maxRecDepth 100000
theorem c_eqByteS (l : (List UInt8)) : Sound ty Tryd.prog 68 [.a (.sl .u8 l), .a (.sl .u8 l)] [.a (.lit (.bool true))] := by
  refine Sound.of X Tryd.call68 Tryd.func68 rfl rfl (by decide) Tryd.ntmps68 (by simp) ?_
  intro zb
  refine W.bound 0 rfl fun hl => ?_
  refine W.seq ?_
  refine W.reg X [] [] [0, 1] [] rfl ⟨⟩ ?_
  refine W.seq ?_
  refine W.seq ?_
  refine W.reg X [] [] [0, 1, 10] [] rfl ⟨⟩ ?_
  refine W.cond rfl (fun hb0 => ?_) (fun hb0 => ?_)
  · exact absurd hb0 (by simp)
  · clear hb0
    refine W.skip ?_
    refine W.seq ?_
    refine W.seq ?_
    refine W.reg X [] [] [0, 1, 5] [] rfl ⟨⟩ ?_
    refine W.block ?_
    refine W.loopO (fun k => k ≤ l.length) (fun k : Nat => [(5, .one (.a (.lit (.int .i64 k))))]) (fun k => []) (fun k => l.length - k) 0 (fun k => rfl) (Nat.zero_le _) rfl ?_
    intro k hk
    refine W.seq ?_
    refine W.seq ?_
    refine W.reg X [] [] [0, 1, 5, 14] [] rfl ⟨⟩ ?_
    refine W.cond rfl (fun hb1 => ?_) (fun hb1 => ?_)
    · try simp only [nb] at hb1
      refine W.skip ?_
      refine W.seq ?_
      refine W.block ?_
      refine W.seq ?_
      refine W.draw X [] [] [0, 1, 5, 25] [] 9 MO (by kernel_rfl) rfl (by (repeat' (first | exact True.intro | apply And.intro)) <;> first | (intros; omega) | exact rfl | exact El_all _ (by decide) | exact ⟨rfl, El_all _ (by decide)⟩ | ((intro h1; first | (intro h2; first | (intro h3; refine And.intro ?_ ?_) | refine And.intro ?_ ?_) | refine And.intro ?_ ?_) <;> first | omega | ((try simp only [nb, inr_t, inr_f] at *); (try simp (disch := omega) only [i64w]); omega)) | ((try simp only [nb, inr_t, inr_f] at *); (simp (disch := omega) only [i64w]); omega) | (refine fun _ => ?_; dsimp only [hyps, imps]; omega) | (refine fun _ _ => ?_; dsimp only [hyps, imps]; omega) | exact (u8w _).1 | exact (u8w _).2 | exact (u8n _).1 | exact (u8n _).2 | (simp only [byt, maxLen, lens]; omega) | (intros; simp only [nb] at *; omega)) ?_
      refine W.cond rfl (fun hb2 => ?_) (fun hb2 => ?_)
      · exact absurd hb2 (by simp)
      · clear hb2
        refine W.skip ?_
        refine W.reg X [] [] [0, 1, 5] [] rfl ⟨⟩ ?_
        refine ⟨k + 1, by omega, by omega, ?_⟩
        rw [wadd _ k rfl (by omega)]
        try rfl
    · try simp only [nb] at hb1
      refine W.exit ?_
      refine W.seq ?_
      refine W.reg X [] [] [4] [] rfl ⟨⟩ ?_
      refine W.ret ?_
      exact Fin.ret rfl ⟨rfl, ⟨⟩⟩
theorem c_eqByteSS (l : (List (List UInt8))) : Sound ty Tryd.prog 37 [.a (.sl (.sl .u8) l), .a (.sl (.sl .u8) l)] [.a (.lit (.bool true))] := by
  refine Sound.of X Tryd.call37 Tryd.func37 rfl rfl (by decide) Tryd.ntmps37 (by simp) ?_
  intro zb
  refine W.bound 0 rfl fun hl => ?_
  refine W.seq ?_
  refine W.reg X [] [] [0, 1] [] rfl ⟨⟩ ?_
  refine W.seq ?_
  refine W.seq ?_
  refine W.reg X [] [] [0, 1, 10] [] rfl ⟨⟩ ?_
  refine W.cond rfl (fun hb0 => ?_) (fun hb0 => ?_)
  · exact absurd hb0 (by simp)
  · clear hb0
    refine W.skip ?_
    refine W.seq ?_
    refine W.seq ?_
    refine W.reg X [] [] [0, 1, 5] [] rfl ⟨⟩ ?_
    refine W.block ?_
    refine W.loopO (fun k => k ≤ l.length) (fun k : Nat => [(5, .one (.a (.lit (.int .i64 k))))]) (fun k => []) (fun k => l.length - k) 0 (fun k => rfl) (Nat.zero_le _) rfl ?_
    intro k hk
    refine W.seq ?_
    refine W.seq ?_
    refine W.reg X [] [] [0, 1, 5, 14] [] rfl ⟨⟩ ?_
    refine W.cond rfl (fun hb1 => ?_) (fun hb1 => ?_)
    · try simp only [nb] at hb1
      refine W.skip ?_
      refine W.seq ?_
      refine W.block ?_
      refine W.seq ?_
      refine W.draw X [] [(25, ⟨false, [.a (.lit (.bool true))]⟩)] [0, 1, 5, 26] [] 10 MO (by kernel_rfl) rfl ⟨c_eqByteS (l.getD k (dfl (.sl .u8))), by omega, by omega, ⟨⟩⟩ ?_
      refine W.cond rfl (fun hb2 => ?_) (fun hb2 => ?_)
      · exact absurd hb2 (by simp)
      · clear hb2
        refine W.skip ?_
        refine W.reg X [] [] [0, 1, 5] [] rfl ⟨⟩ ?_
        refine ⟨k + 1, by omega, by omega, ?_⟩
        rw [wadd _ k rfl (by omega)]
        try rfl
    · try simp only [nb] at hb1
      refine W.exit ?_
      refine W.seq ?_
      refine W.reg X [] [] [4] [] rfl ⟨⟩ ?_
      refine W.ret ?_
      exact Fin.ret rfl ⟨rfl, ⟨⟩⟩
theorem c_eqDatabase (x : DB) : Sound ty Tryd.prog 90 [.agg (dec_DB x), .agg (dec_DB x)] [.a (.lit (.bool true))] := by
  refine Sound.of X Tryd.call90 Tryd.func90 rfl rfl (by decide) Tryd.ntmps90 (by simp) ?_
  intro zb
  refine W.seq ?_
  refine W.reg X [] [] [2, 3] [] rfl ⟨⟩ ?_
  refine W.seq ?_
  refine W.seq ?_
  refine W.reg X [] [(9, ⟨false, [.a (.lit (.bool true))]⟩)] [10] [] rfl ⟨c_eqByteSS x.rows, ⟨⟩⟩ ?_
  refine W.cond rfl (fun hb0 => ?_) (fun hb0 => ?_)
  · exact absurd hb0 (by simp)
  · clear hb0
    refine W.skip ?_
    refine W.seq ?_
    refine W.reg X [] [] [4] [] rfl ⟨⟩ ?_
    refine W.ret ?_
    exact Fin.ret rfl ⟨rfl, ⟨⟩⟩
theorem c_eqArchivedRound (x : ARound) : Sound ty Tryd.prog 77 [.agg (dec_ARound x), .agg (dec_ARound x)] [.a (.lit (.bool true))] := by
  refine Sound.of X Tryd.call77 Tryd.func77 rfl rfl (by decide) Tryd.ntmps77 (by simp) ?_
  intro zb
  refine W.seq ?_
  refine W.reg X [] [] [2, 3] [] rfl ⟨⟩ ?_
  refine W.seq ?_
  refine W.seq ?_
  refine W.reg X [] [] [2, 3, 9] [] rfl ⟨⟩ ?_
  refine W.cond rfl (fun hb0 => ?_) (fun hb0 => ?_)
  · exact absurd hb0 (by simp)
  · clear hb0
    refine W.skip ?_
    refine W.seq ?_
    refine W.seq ?_
    refine W.reg X [] [(14, ⟨false, [.a (.lit (.bool true))]⟩)] [15] [] rfl ⟨c_eqDatabase x.db, ⟨⟩⟩ ?_
    refine W.cond rfl (fun hb1 => ?_) (fun hb1 => ?_)
    · exact absurd hb1 (by simp)
    · clear hb1
      refine W.skip ?_
      refine W.seq ?_
      refine W.reg X [] [] [4] [] rfl ⟨⟩ ?_
      refine W.ret ?_
      exact Fin.ret rfl ⟨rfl, ⟨⟩⟩
theorem c_eqArchivedRoundS (l : (List ARound)) : Sound ty Tryd.prog 51 [.a (.sl .ARound l), .a (.sl .ARound l)] [.a (.lit (.bool true))] := by
  refine Sound.of X Tryd.call51 Tryd.func51 rfl rfl (by decide) Tryd.ntmps51 (by simp) ?_
  intro zb
  refine W.bound 0 rfl fun hl => ?_
  refine W.seq ?_
  refine W.reg X [] [] [0, 1] [] rfl ⟨⟩ ?_
  refine W.seq ?_
  refine W.seq ?_
  refine W.reg X [] [] [0, 1, 10] [] rfl ⟨⟩ ?_
  refine W.cond rfl (fun hb0 => ?_) (fun hb0 => ?_)
  · exact absurd hb0 (by simp)
  · clear hb0
    refine W.skip ?_
    refine W.seq ?_
    refine W.seq ?_
    refine W.reg X [] [] [0, 1, 5] [] rfl ⟨⟩ ?_
    refine W.block ?_
    refine W.loopO (fun k => k ≤ l.length) (fun k : Nat => [(5, .one (.a (.lit (.int .i64 k))))]) (fun k => []) (fun k => l.length - k) 0 (fun k => rfl) (Nat.zero_le _) rfl ?_
    intro k hk
    refine W.seq ?_
    refine W.seq ?_
    refine W.reg X [] [] [0, 1, 5, 14] [] rfl ⟨⟩ ?_
    refine W.cond rfl (fun hb1 => ?_) (fun hb1 => ?_)
    · try simp only [nb] at hb1
      refine W.skip ?_
      refine W.seq ?_
      refine W.block ?_
      refine W.seq ?_
      refine W.draw X [] [(25, ⟨false, [.a (.lit (.bool true))]⟩)] [0, 1, 5, 26] [] 10 MO (by kernel_rfl) rfl ⟨c_eqArchivedRound (l.getD k (dfl .ARound)), by omega, by omega, ⟨⟩⟩ ?_
      refine W.cond rfl (fun hb2 => ?_) (fun hb2 => ?_)
      · exact absurd hb2 (by simp)
      · clear hb2
        refine W.skip ?_
        refine W.reg X [] [] [0, 1, 5] [] rfl ⟨⟩ ?_
        refine ⟨k + 1, by omega, by omega, ?_⟩
        rw [wadd _ k rfl (by omega)]
        try rfl
    · try simp only [nb] at hb1
      refine W.exit ?_
      refine W.seq ?_
      refine W.reg X [] [] [4] [] rfl ⟨⟩ ?_
      refine W.ret ?_
      exact Fin.ret rfl ⟨rfl, ⟨⟩⟩
theorem c_eqArchive (x : Arc) : Sound ty Tryd.prog 27 [.agg (dec_Arc x), .agg (dec_Arc x)] [.a (.lit (.bool true))] := by
  refine Sound.of X Tryd.call27 Tryd.func27 rfl rfl (by decide) Tryd.ntmps27 (by simp) ?_
  intro zb
  refine W.seq ?_
  refine W.reg X [] [] [2, 3] [] rfl ⟨⟩ ?_
  refine W.seq ?_
  refine W.seq ?_
  refine W.reg X [] [] [2, 3, 9] [] rfl ⟨⟩ ?_
  refine W.cond rfl (fun hb0 => ?_) (fun hb0 => ?_)
  · exact absurd hb0 (by simp)
  · clear hb0
    refine W.skip ?_
    refine W.seq ?_
    refine W.seq ?_
    refine W.reg X [] [(14, ⟨false, [.a (.lit (.bool true))]⟩)] [15] [] rfl ⟨c_eqArchivedRoundS x.rounds, ⟨⟩⟩ ?_
    refine W.cond rfl (fun hb1 => ?_) (fun hb1 => ?_)
    · exact absurd hb1 (by simp)
    · clear hb1
      refine W.skip ?_
      refine W.seq ?_
      refine W.reg X [] [] [4] [] rfl ⟨⟩ ?_
      refine W.ret ?_
      exact Fin.ret rfl ⟨rfl, ⟨⟩⟩
theorem c_eqClient (x : Cli) : Sound ty Tryd.prog 12 [.agg (dec_Cli x), .agg (dec_Cli x)] [.a (.lit (.bool true))] := by
  refine Sound.of X Tryd.call12 Tryd.func12 rfl rfl (by decide) Tryd.ntmps12 (by simp) ?_
  intro zb
  refine W.seq ?_
  refine W.reg X [] [] [2, 3] [] rfl ⟨⟩ ?_
  refine W.seq ?_
  refine W.seq ?_
  refine W.reg X [] [] [2, 3, 9] [] rfl ⟨⟩ ?_
  refine W.cond rfl (fun hb0 => ?_) (fun hb0 => ?_)
  · exact absurd hb0 (by simp)
  · clear hb0
    refine W.skip ?_
    refine W.seq ?_
    refine W.seq ?_
    refine W.reg X [] [] [2, 3, 14] [] rfl ⟨⟩ ?_
    refine W.cond rfl (fun hb1 => ?_) (fun hb1 => ?_)
    · exact absurd hb1 (by simp)
    · clear hb1
      refine W.skip ?_
      refine W.seq ?_
      refine W.seq ?_
      refine W.reg X [] [] [2, 3, 19] [] rfl ⟨⟩ ?_
      refine W.cond rfl (fun hb2 => ?_) (fun hb2 => ?_)
      · exact absurd hb2 (by simp)
      · clear hb2
        refine W.skip ?_
        refine W.seq ?_
        refine W.seq ?_
        refine W.reg X [] [] [2, 3, 24] [] rfl ⟨⟩ ?_
        refine W.cond rfl (fun hb3 => ?_) (fun hb3 => ?_)
        · exact absurd hb3 (by simp)
        · clear hb3
          refine W.skip ?_
          refine W.seq ?_
          refine W.seq ?_
          refine W.reg X [] [(29, ⟨false, [.a (.lit (.bool true))]⟩)] [2, 3, 30] [] rfl ⟨c_eqByteSS x.submitted, ⟨⟩⟩ ?_
          refine W.cond rfl (fun hb4 => ?_) (fun hb4 => ?_)
          · exact absurd hb4 (by simp)
          · clear hb4
            refine W.skip ?_
            refine W.seq ?_
            refine W.seq ?_
            refine W.reg X [] [] [2, 3, 35] [] rfl ⟨⟩ ?_
            refine W.cond rfl (fun hb5 => ?_) (fun hb5 => ?_)
            · exact absurd hb5 (by simp)
            · clear hb5
              refine W.skip ?_
              refine W.seq ?_
              refine W.seq ?_
              refine W.reg X [] [(40, ⟨false, [.a (.lit (.bool true))]⟩)] [2, 3, 41] [] rfl ⟨c_eqByteSS x.inbox, ⟨⟩⟩ ?_
              refine W.cond rfl (fun hb6 => ?_) (fun hb6 => ?_)
              · exact absurd hb6 (by simp)
              · clear hb6
                refine W.skip ?_
                refine W.seq ?_
                refine W.seq ?_
                refine W.reg X [] [] [46] [] rfl ⟨⟩ ?_
                refine W.cond rfl (fun hb7 => ?_) (fun hb7 => ?_)
                · exact absurd hb7 (by simp)
                · clear hb7
                  refine W.skip ?_
                  refine W.seq ?_
                  refine W.reg X [] [] [4] [] rfl ⟨⟩ ?_
                  refine W.ret ?_
                  exact Fin.ret rfl ⟨rfl, ⟨⟩⟩
theorem c_eqDevice (x : Dev) : Sound ty Tryd.prog 83 [.agg (dec_Dev x), .agg (dec_Dev x)] [.a (.lit (.bool true))] := by
  refine Sound.of X Tryd.call83 Tryd.func83 rfl rfl (by decide) Tryd.ntmps83 (by simp) ?_
  intro zb
  refine W.seq ?_
  refine W.reg X [] [] [2, 3] [] rfl ⟨⟩ ?_
  refine W.seq ?_
  refine W.seq ?_
  refine W.reg X [] [(9, ⟨false, [.a (.lit (.bool true))]⟩)] [2, 3, 10] [] rfl ⟨c_eqClient x.live, ⟨⟩⟩ ?_
  refine W.cond rfl (fun hb0 => ?_) (fun hb0 => ?_)
  · exact absurd hb0 (by simp)
  · clear hb0
    refine W.skip ?_
    refine W.seq ?_
    refine W.seq ?_
    refine W.reg X [] [(15, ⟨false, [.a (.lit (.bool true))]⟩)] [16] [] rfl ⟨c_eqClient x.saved, ⟨⟩⟩ ?_
    refine W.cond rfl (fun hb1 => ?_) (fun hb1 => ?_)
    · exact absurd hb1 (by simp)
    · clear hb1
      refine W.skip ?_
      refine W.seq ?_
      refine W.reg X [] [] [4] [] rfl ⟨⟩ ?_
      refine W.ret ?_
      exact Fin.ret rfl ⟨rfl, ⟨⟩⟩
theorem c_eqDeviceS (l : (List Dev)) : Sound ty Tryd.prog 63 [.a (.sl .Dev l), .a (.sl .Dev l)] [.a (.lit (.bool true))] := by
  refine Sound.of X Tryd.call63 Tryd.func63 rfl rfl (by decide) Tryd.ntmps63 (by simp) ?_
  intro zb
  refine W.bound 0 rfl fun hl => ?_
  refine W.seq ?_
  refine W.reg X [] [] [0, 1] [] rfl ⟨⟩ ?_
  refine W.seq ?_
  refine W.seq ?_
  refine W.reg X [] [] [0, 1, 10] [] rfl ⟨⟩ ?_
  refine W.cond rfl (fun hb0 => ?_) (fun hb0 => ?_)
  · exact absurd hb0 (by simp)
  · clear hb0
    refine W.skip ?_
    refine W.seq ?_
    refine W.seq ?_
    refine W.reg X [] [] [0, 1, 5] [] rfl ⟨⟩ ?_
    refine W.block ?_
    refine W.loopO (fun k => k ≤ l.length) (fun k : Nat => [(5, .one (.a (.lit (.int .i64 k))))]) (fun k => []) (fun k => l.length - k) 0 (fun k => rfl) (Nat.zero_le _) rfl ?_
    intro k hk
    refine W.seq ?_
    refine W.seq ?_
    refine W.reg X [] [] [0, 1, 5, 14] [] rfl ⟨⟩ ?_
    refine W.cond rfl (fun hb1 => ?_) (fun hb1 => ?_)
    · try simp only [nb] at hb1
      refine W.skip ?_
      refine W.seq ?_
      refine W.block ?_
      refine W.seq ?_
      refine W.draw X [] [(25, ⟨false, [.a (.lit (.bool true))]⟩)] [0, 1, 5, 26] [] 10 MO (by kernel_rfl) rfl ⟨c_eqDevice (l.getD k (dfl .Dev)), by omega, by omega, ⟨⟩⟩ ?_
      refine W.cond rfl (fun hb2 => ?_) (fun hb2 => ?_)
      · exact absurd hb2 (by simp)
      · clear hb2
        refine W.skip ?_
        refine W.reg X [] [] [0, 1, 5] [] rfl ⟨⟩ ?_
        refine ⟨k + 1, by omega, by omega, ?_⟩
        rw [wadd _ k rfl (by omega)]
        try rfl
    · try simp only [nb] at hb1
      refine W.exit ?_
      refine W.seq ?_
      refine W.reg X [] [] [4] [] rfl ⟨⟩ ?_
      refine W.ret ?_
      exact Fin.ret rfl ⟨rfl, ⟨⟩⟩
theorem c_eqIntS (l : (List Int)) : Sound ty Tryd.prog 64 [.a (.sl .int l), .a (.sl .int l)] [.a (.lit (.bool true))] := by
  refine Sound.of X Tryd.call64 Tryd.func64 rfl rfl (by decide) Tryd.ntmps64 (by simp) ?_
  intro zb
  refine W.bound 0 rfl fun hl => ?_
  refine W.seq ?_
  refine W.reg X [] [] [0, 1] [] rfl ⟨⟩ ?_
  refine W.seq ?_
  refine W.seq ?_
  refine W.reg X [] [] [0, 1, 10] [] rfl ⟨⟩ ?_
  refine W.cond rfl (fun hb0 => ?_) (fun hb0 => ?_)
  · exact absurd hb0 (by simp)
  · clear hb0
    refine W.skip ?_
    refine W.seq ?_
    refine W.seq ?_
    refine W.reg X [] [] [0, 1, 5] [] rfl ⟨⟩ ?_
    refine W.block ?_
    refine W.loopO (fun k => k ≤ l.length) (fun k : Nat => [(5, .one (.a (.lit (.int .i64 k))))]) (fun k => []) (fun k => l.length - k) 0 (fun k => rfl) (Nat.zero_le _) rfl ?_
    intro k hk
    refine W.seq ?_
    refine W.seq ?_
    refine W.reg X [] [] [0, 1, 5, 14] [] rfl ⟨⟩ ?_
    refine W.cond rfl (fun hb1 => ?_) (fun hb1 => ?_)
    · try simp only [nb] at hb1
      refine W.skip ?_
      refine W.seq ?_
      refine W.block ?_
      refine W.seq ?_
      refine W.draw X [] [] [0, 1, 5, 25] [] 9 MO (by kernel_rfl) rfl (by (repeat' (first | exact True.intro | apply And.intro)) <;> first | (intros; omega) | exact rfl | exact El_all _ (by decide) | exact ⟨rfl, El_all _ (by decide)⟩ | ((intro h1; first | (intro h2; first | (intro h3; refine And.intro ?_ ?_) | refine And.intro ?_ ?_) | refine And.intro ?_ ?_) <;> first | omega | ((try simp only [nb, inr_t, inr_f] at *); (try simp (disch := omega) only [i64w]); omega)) | ((try simp only [nb, inr_t, inr_f] at *); (simp (disch := omega) only [i64w]); omega) | (refine fun _ => ?_; dsimp only [hyps, imps]; omega) | (refine fun _ _ => ?_; dsimp only [hyps, imps]; omega) | exact (u8w _).1 | exact (u8w _).2 | exact (u8n _).1 | exact (u8n _).2 | (simp only [byt, maxLen, lens]; omega) | (intros; simp only [nb] at *; omega)) ?_
      refine W.cond rfl (fun hb2 => ?_) (fun hb2 => ?_)
      · exact absurd hb2 (by simp)
      · clear hb2
        refine W.skip ?_
        refine W.reg X [] [] [0, 1, 5] [] rfl ⟨⟩ ?_
        refine ⟨k + 1, by omega, by omega, ?_⟩
        rw [wadd _ k rfl (by omega)]
        try rfl
    · try simp only [nb] at hb1
      refine W.exit ?_
      refine W.seq ?_
      refine W.reg X [] [] [4] [] rfl ⟨⟩ ?_
      refine W.ret ?_
      exact Fin.ret rfl ⟨rfl, ⟨⟩⟩
theorem c_eqReceivedShare (x : RShare) : Sound ty Tryd.prog 72 [.agg (dec_RShare x), .agg (dec_RShare x)] [.a (.lit (.bool true))] := by
  refine Sound.of X Tryd.call72 Tryd.func72 rfl rfl (by decide) Tryd.ntmps72 (by simp) ?_
  intro zb
  refine W.seq ?_
  refine W.reg X [] [] [2, 3] [] rfl ⟨⟩ ?_
  refine W.seq ?_
  refine W.seq ?_
  refine W.reg X [] [] [2, 3, 9] [] rfl ⟨⟩ ?_
  refine W.cond rfl (fun hb0 => ?_) (fun hb0 => ?_)
  · exact absurd hb0 (by simp)
  · clear hb0
    refine W.skip ?_
    refine W.seq ?_
    refine W.seq ?_
    refine W.reg X [] [(14, ⟨false, [.a (.lit (.bool true))]⟩)] [15] [] rfl ⟨c_eqDatabase x.share, ⟨⟩⟩ ?_
    refine W.cond rfl (fun hb1 => ?_) (fun hb1 => ?_)
    · exact absurd hb1 (by simp)
    · clear hb1
      refine W.skip ?_
      refine W.seq ?_
      refine W.reg X [] [] [4] [] rfl ⟨⟩ ?_
      refine W.ret ?_
      exact Fin.ret rfl ⟨rfl, ⟨⟩⟩
theorem c_eqReceivedShareS (l : (List RShare)) : Sound ty Tryd.prog 46 [.a (.sl .RShare l), .a (.sl .RShare l)] [.a (.lit (.bool true))] := by
  refine Sound.of X Tryd.call46 Tryd.func46 rfl rfl (by decide) Tryd.ntmps46 (by simp) ?_
  intro zb
  refine W.bound 0 rfl fun hl => ?_
  refine W.seq ?_
  refine W.reg X [] [] [0, 1] [] rfl ⟨⟩ ?_
  refine W.seq ?_
  refine W.seq ?_
  refine W.reg X [] [] [0, 1, 10] [] rfl ⟨⟩ ?_
  refine W.cond rfl (fun hb0 => ?_) (fun hb0 => ?_)
  · exact absurd hb0 (by simp)
  · clear hb0
    refine W.skip ?_
    refine W.seq ?_
    refine W.seq ?_
    refine W.reg X [] [] [0, 1, 5] [] rfl ⟨⟩ ?_
    refine W.block ?_
    refine W.loopO (fun k => k ≤ l.length) (fun k : Nat => [(5, .one (.a (.lit (.int .i64 k))))]) (fun k => []) (fun k => l.length - k) 0 (fun k => rfl) (Nat.zero_le _) rfl ?_
    intro k hk
    refine W.seq ?_
    refine W.seq ?_
    refine W.reg X [] [] [0, 1, 5, 14] [] rfl ⟨⟩ ?_
    refine W.cond rfl (fun hb1 => ?_) (fun hb1 => ?_)
    · try simp only [nb] at hb1
      refine W.skip ?_
      refine W.seq ?_
      refine W.block ?_
      refine W.seq ?_
      refine W.draw X [] [(25, ⟨false, [.a (.lit (.bool true))]⟩)] [0, 1, 5, 26] [] 10 MO (by kernel_rfl) rfl ⟨c_eqReceivedShare (l.getD k (dfl .RShare)), by omega, by omega, ⟨⟩⟩ ?_
      refine W.cond rfl (fun hb2 => ?_) (fun hb2 => ?_)
      · exact absurd hb2 (by simp)
      · clear hb2
        refine W.skip ?_
        refine W.reg X [] [] [0, 1, 5] [] rfl ⟨⟩ ?_
        refine ⟨k + 1, by omega, by omega, ?_⟩
        rw [wadd _ k rfl (by omega)]
        try rfl
    · try simp only [nb] at hb1
      refine W.exit ?_
      refine W.seq ?_
      refine W.reg X [] [] [4] [] rfl ⟨⟩ ?_
      refine W.ret ?_
      exact Fin.ret rfl ⟨rfl, ⟨⟩⟩
theorem c_eqServer (x : Srv) : Sound ty Tryd.prog 22 [.agg (dec_Srv x), .agg (dec_Srv x)] [.a (.lit (.bool true))] := by
  refine Sound.of X Tryd.call22 Tryd.func22 rfl rfl (by decide) Tryd.ntmps22 (by simp) ?_
  intro zb
  refine W.seq ?_
  refine W.reg X [] [] [2, 3] [] rfl ⟨⟩ ?_
  refine W.seq ?_
  refine W.seq ?_
  refine W.reg X [] [] [2, 3, 9] [] rfl ⟨⟩ ?_
  refine W.cond rfl (fun hb0 => ?_) (fun hb0 => ?_)
  · exact absurd hb0 (by simp)
  · clear hb0
    refine W.skip ?_
    refine W.seq ?_
    refine W.seq ?_
    refine W.reg X [] [] [2, 3, 14] [] rfl ⟨⟩ ?_
    refine W.cond rfl (fun hb1 => ?_) (fun hb1 => ?_)
    · exact absurd hb1 (by simp)
    · clear hb1
      refine W.skip ?_
      refine W.seq ?_
      refine W.seq ?_
      refine W.reg X [] [] [2, 3, 19] [] rfl ⟨⟩ ?_
      refine W.cond rfl (fun hb2 => ?_) (fun hb2 => ?_)
      · exact absurd hb2 (by simp)
      · clear hb2
        refine W.skip ?_
        refine W.seq ?_
        refine W.seq ?_
        refine W.reg X [] [(24, ⟨false, [.a (.lit (.bool true))]⟩)] [2, 3, 25] [] rfl ⟨c_eqReceivedShareS x.received, ⟨⟩⟩ ?_
        refine W.cond rfl (fun hb3 => ?_) (fun hb3 => ?_)
        · exact absurd hb3 (by simp)
        · clear hb3
          refine W.skip ?_
          refine W.seq ?_
          refine W.seq ?_
          refine W.reg X [] [] [30] [] rfl ⟨⟩ ?_
          refine W.cond rfl (fun hb4 => ?_) (fun hb4 => ?_)
          · exact absurd hb4 (by simp)
          · clear hb4
            refine W.skip ?_
            refine W.seq ?_
            refine W.reg X [] [] [4] [] rfl ⟨⟩ ?_
            refine W.ret ?_
            exact Fin.ret rfl ⟨rfl, ⟨⟩⟩
theorem c_eqServerS (l : (List Srv)) : Sound ty Tryd.prog 62 [.a (.sl .Srv l), .a (.sl .Srv l)] [.a (.lit (.bool true))] := by
  refine Sound.of X Tryd.call62 Tryd.func62 rfl rfl (by decide) Tryd.ntmps62 (by simp) ?_
  intro zb
  refine W.bound 0 rfl fun hl => ?_
  refine W.seq ?_
  refine W.reg X [] [] [0, 1] [] rfl ⟨⟩ ?_
  refine W.seq ?_
  refine W.seq ?_
  refine W.reg X [] [] [0, 1, 10] [] rfl ⟨⟩ ?_
  refine W.cond rfl (fun hb0 => ?_) (fun hb0 => ?_)
  · exact absurd hb0 (by simp)
  · clear hb0
    refine W.skip ?_
    refine W.seq ?_
    refine W.seq ?_
    refine W.reg X [] [] [0, 1, 5] [] rfl ⟨⟩ ?_
    refine W.block ?_
    refine W.loopO (fun k => k ≤ l.length) (fun k : Nat => [(5, .one (.a (.lit (.int .i64 k))))]) (fun k => []) (fun k => l.length - k) 0 (fun k => rfl) (Nat.zero_le _) rfl ?_
    intro k hk
    refine W.seq ?_
    refine W.seq ?_
    refine W.reg X [] [] [0, 1, 5, 14] [] rfl ⟨⟩ ?_
    refine W.cond rfl (fun hb1 => ?_) (fun hb1 => ?_)
    · try simp only [nb] at hb1
      refine W.skip ?_
      refine W.seq ?_
      refine W.block ?_
      refine W.seq ?_
      refine W.draw X [] [(25, ⟨false, [.a (.lit (.bool true))]⟩)] [0, 1, 5, 26] [] 10 MO (by kernel_rfl) rfl ⟨c_eqServer (l.getD k (dfl .Srv)), by omega, by omega, ⟨⟩⟩ ?_
      refine W.cond rfl (fun hb2 => ?_) (fun hb2 => ?_)
      · exact absurd hb2 (by simp)
      · clear hb2
        refine W.skip ?_
        refine W.reg X [] [] [0, 1, 5] [] rfl ⟨⟩ ?_
        refine ⟨k + 1, by omega, by omega, ?_⟩
        rw [wadd _ k rfl (by omega)]
        try rfl
    · try simp only [nb] at hb1
      refine W.exit ?_
      refine W.seq ?_
      refine W.reg X [] [] [4] [] rfl ⟨⟩ ?_
      refine W.ret ?_
      exact Fin.ret rfl ⟨rfl, ⟨⟩⟩
theorem c_eqWorld (x : Wld) : Sound ty Tryd.prog 32 [.agg (dec_Wld x), .agg (dec_Wld x)] [.a (.lit (.bool true))] := by
  refine Sound.of X Tryd.call32 Tryd.func32 rfl rfl (by decide) Tryd.ntmps32 (by simp) ?_
  intro zb
  refine W.seq ?_
  refine W.reg X [] [] [2, 3] [] rfl ⟨⟩ ?_
  refine W.seq ?_
  refine W.seq ?_
  refine W.reg X [] [] [2, 3, 9] [] rfl ⟨⟩ ?_
  refine W.cond rfl (fun hb0 => ?_) (fun hb0 => ?_)
  · exact absurd hb0 (by simp)
  · clear hb0
    refine W.skip ?_
    refine W.seq ?_
    refine W.seq ?_
    refine W.reg X [] [(14, ⟨false, [.a (.lit (.bool true))]⟩)] [2, 3, 15] [] rfl ⟨c_eqServerS x.servers, ⟨⟩⟩ ?_
    refine W.cond rfl (fun hb1 => ?_) (fun hb1 => ?_)
    · exact absurd hb1 (by simp)
    · clear hb1
      refine W.skip ?_
      refine W.seq ?_
      refine W.seq ?_
      refine W.reg X [] [(20, ⟨false, [.a (.lit (.bool true))]⟩)] [2, 3, 21] [] rfl ⟨c_eqDeviceS x.devices, ⟨⟩⟩ ?_
      refine W.cond rfl (fun hb2 => ?_) (fun hb2 => ?_)
      · exact absurd hb2 (by simp)
      · clear hb2
        refine W.skip ?_
        refine W.seq ?_
        refine W.seq ?_
        refine W.reg X [] [(26, ⟨false, [.a (.lit (.bool true))]⟩)] [2, 3, 27] [] rfl ⟨c_eqArchive x.archive, ⟨⟩⟩ ?_
        refine W.cond rfl (fun hb3 => ?_) (fun hb3 => ?_)
        · exact absurd hb3 (by simp)
        · clear hb3
          refine W.skip ?_
          refine W.seq ?_
          refine W.seq ?_
          refine W.reg X [] [] [2, 3, 32] [] rfl ⟨⟩ ?_
          refine W.cond rfl (fun hb4 => ?_) (fun hb4 => ?_)
          · exact absurd hb4 (by simp)
          · clear hb4
            refine W.skip ?_
            refine W.seq ?_
            refine W.seq ?_
            refine W.reg X [] [] [2, 3, 37] [] rfl ⟨⟩ ?_
            refine W.cond rfl (fun hb5 => ?_) (fun hb5 => ?_)
            · exact absurd hb5 (by simp)
            · clear hb5
              refine W.skip ?_
              refine W.seq ?_
              refine W.seq ?_
              refine W.reg X [] [] [2, 3, 42] [] rfl ⟨⟩ ?_
              refine W.cond rfl (fun hb6 => ?_) (fun hb6 => ?_)
              · exact absurd hb6 (by simp)
              · clear hb6
                refine W.skip ?_
                refine W.seq ?_
                refine W.seq ?_
                refine W.reg X [] [(47, ⟨false, [.a (.lit (.bool true))]⟩)] [2, 3, 48] [] rfl ⟨c_eqIntS x.replaced, ⟨⟩⟩ ?_
                refine W.cond rfl (fun hb7 => ?_) (fun hb7 => ?_)
                · exact absurd hb7 (by simp)
                · clear hb7
                  refine W.skip ?_
                  refine W.seq ?_
                  refine W.seq ?_
                  refine W.reg X [] [] [53] [] rfl ⟨⟩ ?_
                  refine W.cond rfl (fun hb8 => ?_) (fun hb8 => ?_)
                  · exact absurd hb8 (by simp)
                  · clear hb8
                    refine W.skip ?_
                    refine W.seq ?_
                    refine W.reg X [] [] [4] [] rfl ⟨⟩ ?_
                    refine W.ret ?_
                    exact Fin.ret rfl ⟨rfl, ⟨⟩⟩
end Go.Proofs.YtjknhnhcbadigaaDoor.G
namespace Go.Proofs.YtjknhnhcbadigaaDoor.G
set_option linter.all false
open Go.RowKit L D
set_option maxRecDepth 100000

end Go.Proofs.YtjknhnhcbadigaaDoor.G
namespace Go.Proofs.YtjknhnhcbadigaaDoor.G
set_option linter.all false
open Go.RowKit L D
set_option maxRecDepth 100000

end Go.Proofs.YtjknhnhcbadigaaDoor.G
namespace Go.Proofs.YtjknhnhcbadigaaDoor.G
set_option linter.all false
open Go.RowKit L D
theorem i64w {a : Int} (h : -9223372036854775808 ≤ a ∧ a ≤ 9223372036854775807) : IntKind.i64.wrap a = a := IntWalk.i64_in _ (by omega)
theorem u8w_eq (n : Int) : IntKind.u8.wrap n = n % 256 := by
  unfold IntKind.wrap
  simp only [IntKind.signed, IntKind.bits]
  simp
def hs1 (h v : Int) : Int := (h * 1000003 + v % 2147483647 + 13) % 2147483647
def hsh (l : List Int) : Int := l.foldl hs1 11
def kh (k : Int) (l : List Int) : Int := hsh (k :: (l ++ [k]))
def cs (s k : Int) : Int := (kh s [47, k] * kh s [47, k] + 5) % 2147483647
def inr (x lo hi : Int) : Bool := if decide (x ≥ lo) then decide (x ≤ hi) else false
theorem inr_t {x lo hi : Int} : (inr x lo hi = true) = (lo ≤ x ∧ x ≤ hi) := by simp [inr]
theorem inr_f {x lo hi : Int} : (inr x lo hi = false) = ¬ (lo ≤ x ∧ x ≤ hi) := by rw [← inr_t]; simp
theorem isEmpty_t {α : Type} {l : List α} : (l.isEmpty = true) = (l = []) := by simp
end Go.Proofs.YtjknhnhcbadigaaDoor.G
namespace Go.Proofs.YtjknhnhcbadigaaDoor.G
set_option linter.all false
open Go.RowKit L D
theorem dev_le {x : Wld} (h : size_Wld x ≤ 1048576) : x.devices.length ≤ 1048576 := by
  have h2 : lsz size_Dev x.devices ≤ 1048576 := by unfold size_Wld at h; omega
  exact lsz_len h2
theorem srv_le {x : Wld} (h : size_Wld x ≤ 1048576) : x.servers.length ≤ 1048576 := by
  have h2 : lsz size_Srv x.servers ≤ 1048576 := by unfold size_Wld at h; omega
  exact lsz_len h2
end Go.Proofs.YtjknhnhcbadigaaDoor.G
namespace Go.Proofs.YtjknhnhcbadigaaDoor.G
set_option linter.all false
open Go.RowKit L D
end Go.Proofs.YtjknhnhcbadigaaDoor.G
namespace Go.Proofs.YtjknhnhcbadigaaDoor.G
set_option linter.all false
open Go.RowKit L D
theorem ite_ff (b c : Bool) : (if b = true then c else false) = (b && c) := by cases b <;> rfl
end Go.Proofs.YtjknhnhcbadigaaDoor.G
namespace Go.Proofs.YtjknhnhcbadigaaDoor.G
set_option linter.all false
open Go.RowKit L D
theorem xorN (k : Nat) (h : k < 2 ^ 62) : IntKind.i64.wrap (BitVec.ofInt IntKind.i64.bits (k : Int) ^^^ BitVec.ofInt IntKind.i64.bits 1).toNat = ((k ^^^ 1 : Nat) : Int) := by
  have h2 : (BitVec.ofInt IntKind.i64.bits (k : Int) ^^^ BitVec.ofInt IntKind.i64.bits 1).toNat = k ^^^ 1 := by
    rw [BitVec.toNat_xor]
    have h1 : (BitVec.ofInt IntKind.i64.bits 1).toNat = 1 := by decide
    have h2 : (BitVec.ofInt IntKind.i64.bits (k : Int)).toNat = k % 2 ^ 64 := by rw [BitVec.ofInt_natCast, BitVec.toNat_ofNat]; rfl
    rw [h1, h2, Nat.mod_eq_of_lt (by omega)]
  have hx := Nat.xor_lt_two_pow (n := 62) h (show 1 < 2 ^ 62 by decide)
  rw [h2, i64w (by omega)]
def hasC (x : Wld) (c : Int) : Bool := inr c 0 (x.devices.length - 1)
def pairOK (x : Wld) (c : Int) : Bool := hasC x c && decide (((c.toNat ^^^ 1 : Nat) : Int) < x.devices.length)
theorem pair_impl {x : Wld} {c : Int} (hd : x.devices.length ≤ 1048576) : (hasC x c && hasC x (IntKind.i64.wrap (BitVec.ofInt IntKind.i64.bits c ^^^ BitVec.ofInt IntKind.i64.bits 1).toNat)) = pairOK x c := by
  by_cases hc : hasC x c = true
  · have hc2 : 0 ≤ c ∧ c < x.devices.length := by simp only [hasC, inr_t] at hc; omega
    obtain ⟨n, rfl⟩ := Int.eq_ofNat_of_zero_le hc2.1
    rw [xorN n (by omega), pairOK, hc]
    simp only [Bool.true_and, hasC, Int.toNat_natCast]
    rw [Bool.eq_iff_iff, inr_t, decide_eq_true_eq]
    omega
  · rw [Bool.not_eq_true] at hc
    rw [pairOK, hc]; rfl
end Go.Proofs.YtjknhnhcbadigaaDoor.G
