/-
  What a world's size bounds.
-/
import Derived.Test.YtlocnjfgeifmnaaZRoundTransfersM7
import Derived.Test.YtlocnjfgeifmnaaRows
import Derived.KernelRfl
namespace Go.Proofs.Ytlocnjfgeifmnaa.G
set_option linter.all false
open Go.RowKit L D

theorem inf_3 : (Try.prog.info? 3).map (fun i => (i.zero, i.size, i.bytes)) = some (some (.int .i64 0), 1, 8) := by kernel_rfl
theorem inf_5 : (Try.prog.info? 5).map (fun i => (i.zero, i.size, i.bytes)) = some (some (.int .u8 0), 1, 1) := by kernel_rfl
theorem inf_9 : (Try.prog.info? 9).map (fun i => (i.zero, i.size, i.bytes)) = some (some (.string ⟨#[]⟩), 1, 16) := by kernel_rfl
theorem inf_129 : (Try.prog.info? 129).map (fun i => (i.zero, i.size, i.bytes)) = some (some (.slice none 0 0), 1, 24) := by kernel_rfl
theorem inf_27 : (Try.prog.info? 27).map (fun i => (i.zero, i.size, i.bytes)) = some (some (.slice none 0 0), 1, 24) := by kernel_rfl
theorem inf_72 : (Try.prog.info? 72).map (fun i => (i.zero, i.size, i.bytes)) = some (some (.slice none 0 0), 1, 24) := by kernel_rfl
theorem inf_119 : (Try.prog.info? 119).map (fun i => (i.zero, i.size, i.bytes)) = some (some (.agg #[.slice none 0 0]), 1, 24) := by kernel_rfl
theorem inf_114 : (Try.prog.info? 114).map (fun i => (i.zero, i.size, i.bytes)) = some (some (.agg #[.slice none 0 0]), 1, 24) := by kernel_rfl
theorem inf_127 : (Try.prog.info? 127).map (fun i => (i.zero, i.size, i.bytes)) = some (some (.agg #[.int .i64 0, .slice none 0 0]), 2, 32) := by kernel_rfl
theorem inf_137 : (Try.prog.info? 137).map (fun i => (i.zero, i.size, i.bytes)) = some (some (.agg #[.int .i64 0, .slice none 0 0]), 2, 32) := by kernel_rfl
theorem inf_91 : (Try.prog.info? 91).map (fun i => (i.zero, i.size, i.bytes)) = some (some (.agg #[.int .i64 0, .int .i64 0, .int .i64 0, .slice none 0 0, .int .i64 0]), 5, 56) := by kernel_rfl
theorem inf_82 : (Try.prog.info? 82).map (fun i => (i.zero, i.size, i.bytes)) = some (some (.agg #[.int .i64 0, .int .i64 0, .int .i64 0, .slice none 0 0, .int .i64 0]), 5, 56) := by kernel_rfl
theorem inf_121 : (Try.prog.info? 121).map (fun i => (i.zero, i.size, i.bytes)) = some (some (.agg #[.int .i64 0, .slice none 0 0]), 2, 32) := by kernel_rfl
theorem inf_116 : (Try.prog.info? 116).map (fun i => (i.zero, i.size, i.bytes)) = some (some (.agg #[.int .i64 0, .slice none 0 0]), 2, 32) := by kernel_rfl
theorem inf_37 : (Try.prog.info? 37).map (fun i => (i.zero, i.size, i.bytes)) = some (some (.agg #[.int .i64 0, .slice none 0 0]), 2, 32) := by kernel_rfl
theorem inf_26 : (Try.prog.info? 26).map (fun i => (i.zero, i.size, i.bytes)) = some (some (.agg #[.int .i64 0, .slice none 0 0]), 2, 32) := by kernel_rfl
theorem inf_74 : (Try.prog.info? 74).map (fun i => (i.zero, i.size, i.bytes)) = some (some (.agg #[.int .i64 0, .int .i64 0, .int .i64 0, .int .i64 0, .slice none 0 0, .int .i64 0, .slice none 0 0, .int .i64 0]), 8, 96) := by kernel_rfl
theorem inf_84 : (Try.prog.info? 84).map (fun i => (i.zero, i.size, i.bytes)) = some (some (.agg #[.int .i64 0, .int .i64 0, .int .i64 0, .int .i64 0, .slice none 0 0, .int .i64 0, .slice none 0 0, .int .i64 0]), 8, 96) := by kernel_rfl
theorem inf_76 : (Try.prog.info? 76).map (fun i => (i.zero, i.size, i.bytes)) = some (some (.agg #[.int .i64 0, .int .i64 0, .int .i64 0, .int .i64 0, .slice none 0 0, .int .i64 0, .slice none 0 0, .int .i64 0, .int .i64 0, .int .i64 0, .int .i64 0, .int .i64 0, .slice none 0 0, .int .i64 0, .slice none 0 0, .int .i64 0]), 16, 192) := by kernel_rfl
theorem inf_86 : (Try.prog.info? 86).map (fun i => (i.zero, i.size, i.bytes)) = some (some (.agg #[.int .i64 0, .int .i64 0, .int .i64 0, .int .i64 0, .slice none 0 0, .int .i64 0, .slice none 0 0, .int .i64 0, .int .i64 0, .int .i64 0, .int .i64 0, .int .i64 0, .slice none 0 0, .int .i64 0, .slice none 0 0, .int .i64 0]), 16, 192) := by kernel_rfl
theorem inf_39 : (Try.prog.info? 39).map (fun i => (i.zero, i.size, i.bytes)) = some (some (.agg #[.int .i64 0, .slice none 0 0, .slice none 0 0, .int .i64 0, .slice none 0 0, .int .i64 0, .int .i64 0, .int .i64 0, .slice none 0 0, .int .i64 0]), 10, 144) := by kernel_rfl
theorem inf_29 : (Try.prog.info? 29).map (fun i => (i.zero, i.size, i.bytes)) = some (some (.agg #[.int .i64 0, .slice none 0 0, .slice none 0 0, .int .i64 0, .slice none 0 0, .int .i64 0, .int .i64 0, .int .i64 0, .slice none 0 0, .int .i64 0]), 10, 144) := by kernel_rfl
theorem inf_61 : (Try.prog.info? 61).map (fun i => (i.zero, i.size, i.bytes)) = some (some (.agg #[.int .i64 0, .int .i64 0, .int .i64 0]), 3, 24) := by kernel_rfl
theorem inf_31 : (Try.prog.info? 31).map (fun i => (i.zero, i.size, i.bytes)) = some (some (.slice none 0 0), 1, 24) := by kernel_rfl
theorem sz_of {P : Program} {i : Nat} {z : Option Value} {k b : Nat} (h : (P.info? i).map (fun i => (i.zero, i.size, i.bytes)) = some (z, k, b)) : (P.info? i).map (·.size) = some k := by
  cases hq : P.info? i with
  | none => simp [hq] at h
  | some x => simp [hq] at h; simp [h]
theorem sz_z_of {P : Program} {i : Nat} {z : Option Value} {k b : Nat} (h : (P.info? i).map (fun i => (i.zero, i.size, i.bytes)) = some (z, k, b)) : (P.info? i).map (fun i => (i.size, i.zero)) = some (k, z) := by
  cases hq : P.info? i with
  | none => simp [hq] at h
  | some x => simp [hq] at h; simp [h]
theorem st_ok {P : Program} {t : Nat} {z : List Value} {tg : List (Option Tag)} {fo : List Nat} {fs : Array Field} {b : Nat} (hu : P.underlying t = some (.struct fs)) (hi : (P.info? t).map (fun i => (i.zero, i.size, i.bytes)) = some (some (.agg z.toArray), z.length, b)) (hz : z.all (·.oneCell') = true) (hf : fieldsok P z.length fs.toList fo = true) : TKok P t (.st z tg fo) :=
  ⟨fs, hu, sz_z_of hi, fun v hv => List.all_eq_true.1 hz v hv, fun f k h => by obtain ⟨fd, h1, h2⟩ := (fieldsok_ok hf).1 f k h; exact ⟨fd, by simpa using h1, h2⟩, (fieldsok_ok hf).2⟩
theorem one_of {P : Program} {i : Nat} (h : (P.info? i).map (fun i => Nat.beq i.size 1) = some true) : (P.info? i).map (·.size) = some 1 := by
  cases hq : P.info? i with
  | none => simp [hq] at h
  | some x => simp [hq] at h; simp [h]
def tys : List (Nat × TK) := [(3, .int .i64),
  (2, .int .i64),
  (21, .int .i32),
  (5, .int .u8),
  (160, .int .u32),
  (12, .int .u64),
  (4, .bool),
  (9, .str),
  (119, .st [.slice none 0 0] [some (.sl .u8)] [0]),
  (114, .st [.slice none 0 0] [some (.sl .u8)] [0]),
  (127, .st [.int .i64 0, .slice none 0 0] [none, some (.sl .u8)] [0, 1]),
  (137, .st [.int .i64 0, .slice none 0 0] [none, some (.sl .u8)] [0, 1]),
  (91, .st [.int .i64 0, .int .i64 0, .int .i64 0, .slice none 0 0, .int .i64 0] [none, none, none, some .RShare, none] [0, 1, 2, 3, 4]),
  (82, .st [.int .i64 0, .int .i64 0, .int .i64 0, .slice none 0 0, .int .i64 0] [none, none, none, some .RShare, none] [0, 1, 2, 3, 4]),
  (121, .st [.int .i64 0, .slice none 0 0] [none, some (.sl .u8)] [0, 1]),
  (116, .st [.int .i64 0, .slice none 0 0] [none, some (.sl .u8)] [0, 1]),
  (37, .st [.int .i64 0, .slice none 0 0] [none, some .ARound] [0, 1]),
  (26, .st [.int .i64 0, .slice none 0 0] [none, some .ARound] [0, 1]),
  (74, .st [.int .i64 0, .int .i64 0, .int .i64 0, .int .i64 0, .slice none 0 0, .int .i64 0, .slice none 0 0, .int .i64 0] [none, none, none, none, some (.sl .u8), none, some (.sl .u8), none] [0, 1, 2, 3, 4, 5, 6, 7]),
  (84, .st [.int .i64 0, .int .i64 0, .int .i64 0, .int .i64 0, .slice none 0 0, .int .i64 0, .slice none 0 0, .int .i64 0] [none, none, none, none, some (.sl .u8), none, some (.sl .u8), none] [0, 1, 2, 3, 4, 5, 6, 7]),
  (76, .st [.int .i64 0, .int .i64 0, .int .i64 0, .int .i64 0, .slice none 0 0, .int .i64 0, .slice none 0 0, .int .i64 0, .int .i64 0, .int .i64 0, .int .i64 0, .int .i64 0, .slice none 0 0, .int .i64 0, .slice none 0 0, .int .i64 0] [none, none, none, none, some (.sl .u8), none, some (.sl .u8), none, none, none, none, none, some (.sl .u8), none, some (.sl .u8), none] [0, 8]),
  (86, .st [.int .i64 0, .int .i64 0, .int .i64 0, .int .i64 0, .slice none 0 0, .int .i64 0, .slice none 0 0, .int .i64 0, .int .i64 0, .int .i64 0, .int .i64 0, .int .i64 0, .slice none 0 0, .int .i64 0, .slice none 0 0, .int .i64 0] [none, none, none, none, some (.sl .u8), none, some (.sl .u8), none, none, none, none, none, some (.sl .u8), none, some (.sl .u8), none] [0, 8]),
  (39, .st [.int .i64 0, .slice none 0 0, .slice none 0 0, .int .i64 0, .slice none 0 0, .int .i64 0, .int .i64 0, .int .i64 0, .slice none 0 0, .int .i64 0] [none, some .Srv, some .Dev, none, some .ARound, none, none, none, some .int, none] [0, 1, 2, 3, 5, 6, 7, 8, 9]),
  (29, .st [.int .i64 0, .slice none 0 0, .slice none 0 0, .int .i64 0, .slice none 0 0, .int .i64 0, .int .i64 0, .int .i64 0, .slice none 0 0, .int .i64 0] [none, some .Srv, some .Dev, none, some .ARound, none, none, none, some .int, none] [0, 1, 2, 3, 5, 6, 7, 8, 9]),
  (61, .st [.int .i64 0, .int .i64 0, .int .i64 0] [none, none, none] [0, 1, 2]),
  (27, .sl .int 3),
  (129, .sl .u8 5),
  (72, .sl (.sl .u8) 129),
  (146, .sl (.sl .int) 27),
  (89, .sl .RShare 127),
  (80, .sl .RShare 137),
  (33, .sl .Srv 91),
  (22, .sl .Srv 82),
  (35, .sl .ARound 121),
  (24, .sl .ARound 116),
  (34, .sl .Dev 76),
  (23, .sl .Dev 86),
  (31, .sl .Trf 61),
  (95, .sl (.sl .Trf) 31)]
def Γ (t : Nat) : TK := match look tys t with | some k => k | none => .other
def ty : Tag → Nat
  | .int => 3
  | .u8 => 5
  | .str => 9
  | (.sl .u8) => 129
  | (.sl .int) => 27
  | (.sl (.sl .u8)) => 72
  | .DB => 119
  | .RShare => 127
  | .Srv => 91
  | .ARound => 121
  | .Arc => 37
  | .Cli => 74
  | .Dev => 76
  | .Wld => 39
  | .Trf => 61
  | (.sl .Trf) => 31
  | _ => 1000000000
theorem kind_3 : TKok Try.prog 3 (.int .i64) := Try.underlying3
theorem kind_2 : TKok Try.prog 2 (.int .i64) := Try.underlying2
theorem kind_21 : TKok Try.prog 21 (.int .i32) := Try.underlying21
theorem kind_5 : TKok Try.prog 5 (.int .u8) := Try.underlying5
theorem kind_160 : TKok Try.prog 160 (.int .u32) := Try.underlying160
theorem kind_12 : TKok Try.prog 12 (.int .u64) := Try.underlying12
theorem kind_4 : TKok Try.prog 4 (.bool) := Try.underlying4
theorem kind_9 : TKok Try.prog 9 (.str) := Try.underlying9
theorem kind_119 : TKok Try.prog 119 (.st [.slice none 0 0] [some (.sl .u8)] [0]) := st_ok Try.underlying119 inf_119 rfl (by kernel_rfl)
theorem kind_114 : TKok Try.prog 114 (.st [.slice none 0 0] [some (.sl .u8)] [0]) := st_ok Try.underlying114 inf_114 rfl (by kernel_rfl)
theorem kind_127 : TKok Try.prog 127 (.st [.int .i64 0, .slice none 0 0] [none, some (.sl .u8)] [0, 1]) := st_ok Try.underlying127 inf_127 rfl (by kernel_rfl)
theorem kind_137 : TKok Try.prog 137 (.st [.int .i64 0, .slice none 0 0] [none, some (.sl .u8)] [0, 1]) := st_ok Try.underlying137 inf_137 rfl (by kernel_rfl)
theorem kind_91 : TKok Try.prog 91 (.st [.int .i64 0, .int .i64 0, .int .i64 0, .slice none 0 0, .int .i64 0] [none, none, none, some .RShare, none] [0, 1, 2, 3, 4]) := st_ok Try.underlying91 inf_91 rfl (by kernel_rfl)
theorem kind_82 : TKok Try.prog 82 (.st [.int .i64 0, .int .i64 0, .int .i64 0, .slice none 0 0, .int .i64 0] [none, none, none, some .RShare, none] [0, 1, 2, 3, 4]) := st_ok Try.underlying82 inf_82 rfl (by kernel_rfl)
theorem kind_121 : TKok Try.prog 121 (.st [.int .i64 0, .slice none 0 0] [none, some (.sl .u8)] [0, 1]) := st_ok Try.underlying121 inf_121 rfl (by kernel_rfl)
theorem kind_116 : TKok Try.prog 116 (.st [.int .i64 0, .slice none 0 0] [none, some (.sl .u8)] [0, 1]) := st_ok Try.underlying116 inf_116 rfl (by kernel_rfl)
theorem kind_37 : TKok Try.prog 37 (.st [.int .i64 0, .slice none 0 0] [none, some .ARound] [0, 1]) := st_ok Try.underlying37 inf_37 rfl (by kernel_rfl)
theorem kind_26 : TKok Try.prog 26 (.st [.int .i64 0, .slice none 0 0] [none, some .ARound] [0, 1]) := st_ok Try.underlying26 inf_26 rfl (by kernel_rfl)
theorem kind_74 : TKok Try.prog 74 (.st [.int .i64 0, .int .i64 0, .int .i64 0, .int .i64 0, .slice none 0 0, .int .i64 0, .slice none 0 0, .int .i64 0] [none, none, none, none, some (.sl .u8), none, some (.sl .u8), none] [0, 1, 2, 3, 4, 5, 6, 7]) := st_ok Try.underlying74 inf_74 rfl (by kernel_rfl)
theorem kind_84 : TKok Try.prog 84 (.st [.int .i64 0, .int .i64 0, .int .i64 0, .int .i64 0, .slice none 0 0, .int .i64 0, .slice none 0 0, .int .i64 0] [none, none, none, none, some (.sl .u8), none, some (.sl .u8), none] [0, 1, 2, 3, 4, 5, 6, 7]) := st_ok Try.underlying84 inf_84 rfl (by kernel_rfl)
theorem kind_76 : TKok Try.prog 76 (.st [.int .i64 0, .int .i64 0, .int .i64 0, .int .i64 0, .slice none 0 0, .int .i64 0, .slice none 0 0, .int .i64 0, .int .i64 0, .int .i64 0, .int .i64 0, .int .i64 0, .slice none 0 0, .int .i64 0, .slice none 0 0, .int .i64 0] [none, none, none, none, some (.sl .u8), none, some (.sl .u8), none, none, none, none, none, some (.sl .u8), none, some (.sl .u8), none] [0, 8]) := st_ok Try.underlying76 inf_76 rfl (by kernel_rfl)
theorem kind_86 : TKok Try.prog 86 (.st [.int .i64 0, .int .i64 0, .int .i64 0, .int .i64 0, .slice none 0 0, .int .i64 0, .slice none 0 0, .int .i64 0, .int .i64 0, .int .i64 0, .int .i64 0, .int .i64 0, .slice none 0 0, .int .i64 0, .slice none 0 0, .int .i64 0] [none, none, none, none, some (.sl .u8), none, some (.sl .u8), none, none, none, none, none, some (.sl .u8), none, some (.sl .u8), none] [0, 8]) := st_ok Try.underlying86 inf_86 rfl (by kernel_rfl)
theorem kind_39 : TKok Try.prog 39 (.st [.int .i64 0, .slice none 0 0, .slice none 0 0, .int .i64 0, .slice none 0 0, .int .i64 0, .int .i64 0, .int .i64 0, .slice none 0 0, .int .i64 0] [none, some .Srv, some .Dev, none, some .ARound, none, none, none, some .int, none] [0, 1, 2, 3, 5, 6, 7, 8, 9]) := st_ok Try.underlying39 inf_39 rfl (by kernel_rfl)
theorem kind_29 : TKok Try.prog 29 (.st [.int .i64 0, .slice none 0 0, .slice none 0 0, .int .i64 0, .slice none 0 0, .int .i64 0, .int .i64 0, .int .i64 0, .slice none 0 0, .int .i64 0] [none, some .Srv, some .Dev, none, some .ARound, none, none, none, some .int, none] [0, 1, 2, 3, 5, 6, 7, 8, 9]) := st_ok Try.underlying29 inf_29 rfl (by kernel_rfl)
theorem kind_61 : TKok Try.prog 61 (.st [.int .i64 0, .int .i64 0, .int .i64 0] [none, none, none] [0, 1, 2]) := st_ok Try.underlying61 inf_61 rfl (by kernel_rfl)
theorem kind_27 : TKok Try.prog 27 (.sl .int 3) := ⟨Try.underlying27, sz_of inf_3⟩
theorem kind_129 : TKok Try.prog 129 (.sl .u8 5) := ⟨Try.underlying129, sz_of inf_5⟩
theorem kind_72 : TKok Try.prog 72 (.sl (.sl .u8) 129) := ⟨Try.underlying72, sz_of inf_129⟩
theorem kind_146 : TKok Try.prog 146 (.sl (.sl .int) 27) := ⟨Try.underlying146, sz_of inf_27⟩
theorem kind_89 : TKok Try.prog 89 (.sl .RShare 127) := ⟨Try.underlying89, sz_of inf_127⟩
theorem kind_80 : TKok Try.prog 80 (.sl .RShare 137) := ⟨Try.underlying80, sz_of inf_137⟩
theorem kind_33 : TKok Try.prog 33 (.sl .Srv 91) := ⟨Try.underlying33, sz_of inf_91⟩
theorem kind_22 : TKok Try.prog 22 (.sl .Srv 82) := ⟨Try.underlying22, sz_of inf_82⟩
theorem kind_35 : TKok Try.prog 35 (.sl .ARound 121) := ⟨Try.underlying35, sz_of inf_121⟩
theorem kind_24 : TKok Try.prog 24 (.sl .ARound 116) := ⟨Try.underlying24, sz_of inf_116⟩
theorem kind_34 : TKok Try.prog 34 (.sl .Dev 76) := ⟨Try.underlying34, sz_of inf_76⟩
theorem kind_23 : TKok Try.prog 23 (.sl .Dev 86) := ⟨Try.underlying23, sz_of inf_86⟩
theorem kind_31 : TKok Try.prog 31 (.sl .Trf 61) := ⟨Try.underlying31, sz_of inf_61⟩
theorem kind_95 : TKok Try.prog 95 (.sl (.sl .Trf) 31) := ⟨Try.underlying95, sz_of inf_31⟩
set_option maxRecDepth 100000 in
theorem kinds : ∀ e, e ∈ tys → TKok Try.prog e.1 e.2 := by
  simp only [tys, List.forall_mem_cons]
  exact ⟨kind_3, kind_2, kind_21, kind_5, kind_160, kind_12, kind_4, kind_9, kind_119, kind_114, kind_127, kind_137, kind_91, kind_82, kind_121, kind_116, kind_37, kind_26, kind_74, kind_84, kind_76, kind_86, kind_39, kind_29, kind_61, kind_27, kind_129, kind_72, kind_146, kind_89, kind_80, kind_33, kind_22, kind_35, kind_24, kind_34, kind_23, kind_31, kind_95, by simp⟩
set_option maxRecDepth 100000 in
theorem ones : ∀ e, e ∈ tys → (∀ z tg fo, e.2 ≠ .st z tg fo) → (Try.prog.info? e.1).map (·.size) = some 1 := by
  simp only [tys, List.forall_mem_cons]
  refine ⟨fun _ => one_of (by kernel_rfl), fun _ => one_of (by kernel_rfl), fun _ => one_of (by kernel_rfl), fun _ => one_of (by kernel_rfl), fun _ => one_of (by kernel_rfl), fun _ => one_of (by kernel_rfl), fun _ => one_of (by kernel_rfl), fun _ => one_of (by kernel_rfl), fun h => absurd rfl (h _ _ _), fun h => absurd rfl (h _ _ _), fun h => absurd rfl (h _ _ _), fun h => absurd rfl (h _ _ _), fun h => absurd rfl (h _ _ _), fun h => absurd rfl (h _ _ _), fun h => absurd rfl (h _ _ _), fun h => absurd rfl (h _ _ _), fun h => absurd rfl (h _ _ _), fun h => absurd rfl (h _ _ _), fun h => absurd rfl (h _ _ _), fun h => absurd rfl (h _ _ _), fun h => absurd rfl (h _ _ _), fun h => absurd rfl (h _ _ _), fun h => absurd rfl (h _ _ _), fun h => absurd rfl (h _ _ _), fun h => absurd rfl (h _ _ _), fun _ => one_of (by kernel_rfl), fun _ => one_of (by kernel_rfl), fun _ => one_of (by kernel_rfl), fun _ => one_of (by kernel_rfl), fun _ => one_of (by kernel_rfl), fun _ => one_of (by kernel_rfl), fun _ => one_of (by kernel_rfl), fun _ => one_of (by kernel_rfl), fun _ => one_of (by kernel_rfl), fun _ => one_of (by kernel_rfl), fun _ => one_of (by kernel_rfl), fun _ => one_of (by kernel_rfl), fun _ => one_of (by kernel_rfl), fun _ => one_of (by kernel_rfl), by simp⟩
theorem X : Ctx Try.prog ty Γ where
  kind := fun t => by
    unfold Γ
    split
    · rename_i k hk; exact kinds (t, k) (look_mem hk)
    · trivial
  one := fun t h1 h2 => by
    unfold Γ at h1 h2
    split at h1
    · rename_i k hk; exact ones (t, k) (look_mem hk) h1
    · rename_i hk; rw [hk] at h2; exact absurd rfl h2
theorem El_all (t : Tag) (h : ty t < 1000000000) : El Try.prog ty t := by
  unfold ty at h
  split at h
  · exact inf_3
  · exact inf_5
  · exact inf_9
  · exact inf_129
  · exact inf_27
  · exact inf_72
  · exact inf_119
  · exact inf_127
  · exact inf_91
  · exact inf_121
  · exact inf_37
  · exact inf_74
  · exact inf_76
  · exact inf_39
  · exact inf_61
  · exact inf_31
  · exact absurd h (by decide)
end Go.Proofs.Ytlocnjfgeifmnaa.G
namespace Go.Proofs.Ytlocnjfgeifmnaa.G
set_option linter.all false
open Go.RowKit L D
theorem MO : Try.prog.follows .mixedOrders = true := by kernel_rfl
/-- What bools say, as propositions: one law to rewrite with. -/
theorem nb : (∀ (p : Prop) [Decidable p], (decide p = true) = p) ∧ (∀ (p : Prop) [Decidable p], (decide p = false) = ¬ p) ∧ (∀ b : Bool, ((!b) = true) = (b = false)) ∧ (∀ b : Bool, ((!b) = false) = (b = true)) ∧
    (∀ (α : Type) [BEq α] [LawfulBEq α] (a b : α), ((a == b) = true) = (a = b)) ∧ (∀ (α : Type) [BEq α] [LawfulBEq α] (a b : α), ((a != b) = true) = (¬ a = b)) ∧ (∀ (α : Type) [BEq α] [LawfulBEq α] (a b : α), ((a == b) = false) = (¬ a = b)) ∧ (∀ (α : Type) [BEq α] [LawfulBEq α] (a b : α), ((a != b) = false) = (a = b)) ∧
    (∀ (α : Type) (a b : α), (a ≠ b) = ¬ a = b) ∧ (∀ a b : Int, (a > b) = (b < a)) ∧ (∀ a b : Int, (a ≥ b) = (b ≤ a)) ∧ (∀ a b : Nat, (a > b) = (b < a)) ∧ (∀ a b : Nat, (a ≥ b) = (b ≤ a)) ∧ (∀ a b : Int, (¬ a < b) = (b ≤ a)) ∧ (∀ a b : Int, (¬ a ≤ b) = (b < a)) ∧
    (∀ (p : Prop) [Decidable p], (¬ ¬ p) = p) ∧ (∀ n : Nat, (n : Int).toNat = n) ∧ (∀ m n : Nat, ((m : Int) < n) = (m < n)) ∧ (∀ m n : Nat, ((m : Int) ≤ n) = (m ≤ n)) ∧ (∀ a b : Nat, (¬ a < b) = (b ≤ a)) ∧ (∀ a b : Nat, (¬ a ≤ b) = (b < a)) ∧
    (∀ (p : Prop) [Decidable p] (b : Bool), (if p then b else false) = (decide p && b)) ∧ (∀ (p : Prop) [Decidable p] (b : Bool), (if p then true else b) = (decide p || b)) ∧ (∀ (p : Prop) [Decidable p] (b : Bool), (if p then false else b) = (!decide p && b)) ∧ (∀ (p : Prop) [Decidable p] (b : Bool), (if p then b else true) = (!decide p || b)) ∧
    (∀ a b : Bool, ((a && b) = true) = (a = true ∧ b = true)) ∧ (∀ a b : Bool, ((a || b) = true) = (a = true ∨ b = true)) ∧ (∀ a b : Bool, ((a && b) = false) = (a = false ∨ b = false)) ∧ (∀ a b : Bool, ((a || b) = false) = (a = false ∧ b = false)) ∧ (∀ (b : Bool), decide (b = true) = b) := by
  refine ⟨by simp, by simp, by simp, by simp, fun _ _ _ a b => propext beq_iff_eq, fun _ _ _ a b => propext bne_iff_ne, fun _ _ _ a b => propext beq_eq_false_iff_ne, fun _ _ _ a b => propext bne_eq_false_iff_eq, by simp, by simp, by simp, by simp, by simp, by simp, by simp, by simp, by simp, by simp, by simp, by simp, by simp, by simp, by simp, by simp, by simp, by simp, by simp, by simp, by simp, by simp⟩
/-- Lengths. -/
theorem lens : (∀ n : Nat, (n : Int).toNat = n) ∧ (∀ (α : Type) (a b : List α), (a ++ b).length = a.length + b.length) ∧ (∀ (α : Type) (a : α), [a].length = 1) ∧ (∀ (α : Type) (a : α) (l : List α), (a :: l).length = l.length + 1) ∧ (∀ (α : Type), ([] : List α).length = 0) ∧ (∀ (α : Type) (n : Nat) (a : α), (List.replicate n a).length = n) ∧
    (∀ (α : Type) (l : List α) (n : Nat) (a : α), (l.set n a).length = l.length) ∧ (∀ (α β : Type) (f : α → β) (l : List α), (l.map f).length = l.length) ∧ (∀ (α : Type) (l : List α) (n : Nat), (l.take n).length = min n l.length) ∧ (∀ (α : Type) (l : List α) (n : Nat), (l.drop n).length = l.length - n) ∧ (∀ n : Nat, (List.range n).length = n) := by
  refine ⟨by simp, by simp, by simp, by simp, by simp, by simp, by simp, by simp, by simp, by simp, by simp⟩
theorem AllP.mk {p : Prop} {l : List Prop} (h : p) (k : AllP l) : AllP (p :: l) := ⟨h, k⟩
theorem AllP.nil : AllP [] := True.intro
theorem take_snoc {α : Type} (l : List α) (k : Nat) (d : α) (h : k < l.length) : l.take (k + 1) = l.take k ++ [l.getD k d] := by
  rw [List.take_add_one, List.getD_eq_getElem?_getD, List.getElem?_eq_getElem h]; rfl
theorem wadd (a : Int) (n : Nat) (h : a = n) (h2 : n < 9223372036854775807) : IntKind.i64.wrap (a + 1) = ((n + 1 : Nat) : Int) := by
  subst h; rw [IntWalk.i64_in _ (by omega)]; omega
/-- A scalar's contract, as the laws' walks ask for it. -/
theorem gives_of {P : Program} {ty : Tag → Nat} {f : FuncId} {xs : List S1} {v : Value} (h : Sound ty P f xs [.a (.lit v)]) {w : World} {us : List Value} (ha : All2 (Arg1 w) xs us) : Calls P f us.toArray w (Gives w v) := by
  refine (h.2 w us ha).mono ?_
  rintro e w' ⟨u, fp, rfl, hb, _, f1, f2, ⟨rfl, _⟩, _⟩
  exact ⟨rfl, hb⟩
theorem arg_agg {w : World} {l : List V} {cs : List Value} {fp : List Nat} (h : RIs w l cs fp) : Arg1 w (.agg l) (.agg cs.toArray) := ⟨cs, fp, rfl, h⟩
/-- A slice has no more elements than a slice can have. -/
theorem W.bound {P : Program} {ty : Tag → Nat} {w0 : Base} {c : Code} {Q : Post} {st : St} (d : Nat) {t : Tag} {l : List (T t)} (h : look st.sl d = some (.one (.a (.sl t l)))) (k : l.length ≤ 9223372036854775807 → W P ty w0 c Q st) : W P ty w0 c Q st := by
  intro a w iv
  obtain ⟨env, g⟩ := iv.good
  obtain ⟨fp, ⟨oa, cap, _, h1, h2, _⟩, _⟩ := g.slot d _ h
  have e : maxLen = 9223372036854775807 := by decide
  exact k (by omega) a w iv
end Go.Proofs.Ytlocnjfgeifmnaa.G
namespace Go.Proofs.Ytlocnjfgeifmnaa.G
set_option linter.all false
open Go.RowKit L D
def szr (left : Int) (n : Nat) : Int := if (n : Int) ≤ left then left - n else -1
theorem szr_pos {l : Int} {n : Nat} (h : 0 ≤ szr l n) : szr l n = l - n ∧ (n : Int) ≤ l := by
  unfold szr at *
  split at h
  · rename_i h1; exact ⟨by rw [if_pos h1], h1⟩
  · omega
theorem szr_neg {l : Int} {n : Nat} (h0 : 0 ≤ l) (h : szr l n < 0) : l < n := by
  unfold szr at h
  split at h <;> omega
theorem szr_ge {l : Int} {n : Nat} (h : (n : Int) ≤ l) : szr l n = l - n := by unfold szr; rw [if_pos h]
theorem szr_lt {l : Int} {n : Nat} (h : l < (n : Int)) : szr l n = -1 := by unfold szr; rw [if_neg (by omega)]
theorem sum_step {α : Type} (f : α → Nat) (l : List α) (d : α) (k : Nat) (h : k < l.length) : ((l.take (k + 1)).map f).sum = ((l.take k).map f).sum + f (l.getD k d) :=
  take_sum l f k _ (by rw [List.getD_eq_getElem?_getD, List.getElem?_eq_getElem h]; rfl)
theorem set_step {α : Type} (l : List α) (d : α) (k : Nat) (h : k < l.length) : (l.take k ++ List.replicate (l.length - k) d).set k (l.getD k d) = l.take (k + 1) ++ List.replicate (l.length - (k + 1)) d := by
  have hk : (l.take k).length = k := by rw [List.length_take]; omega
  rw [List.set_append_right _ _ (by omega), hk, Nat.sub_self, show l.length - k = (l.length - (k + 1)) + 1 by omega, List.replicate_succ, List.set_cons_zero, take_snoc l k d h, List.append_assoc]
  rfl
theorem set_len {α : Type} (l : List α) (d : α) (k : Nat) (h : k ≤ l.length) : (l.take k ++ List.replicate (l.length - k) d).length = l.length := by
  simp; omega
theorem u8_back (x : UInt8) : UInt8.ofNat (Int.toNat ((x.toNat : Nat) : Int)) = x := by simp
theorem u8w (n : Int) : 0 ≤ IntKind.u8.wrap n ∧ IntKind.u8.wrap n < 256 := by
  unfold IntKind.wrap
  simp only [IntKind.signed, IntKind.bits]
  simp
  omega
theorem u8n (x : UInt8) : 0 ≤ ((x.toNat : Nat) : Int) ∧ ((x.toNat : Nat) : Int) < 256 := by
  have := x.toNat_lt
  omega
theorem u8_rt (n : Int) : (((UInt8.ofNat (IntKind.u8.wrap n).toNat).toNat : Nat) : Int) = IntKind.u8.wrap n := by
  have h := u8w n
  generalize IntKind.u8.wrap n = m at h
  simp
  omega
/-- Marks laid into a list's elements, from k on. -/
def mkl {α : Type} (mk : Int → α → α) (mn : α → Nat) : Int → List α → List α
  | _, [] => []
  | k, x :: r => mk k x :: mkl mk mn (k + mn x) r
def mnl {α : Type} (mn : α → Nat) (l : List α) : Nat := (l.map mn).sum
section
variable {α : Type} {mk : Int → α → α} {mn : α → Nat}
theorem mkl_len : ∀ {l : List α} {k : Int}, (mkl mk mn k l).length = l.length
  | [], _ => rfl
  | _ :: r, k => by rw [mkl, List.length_cons, List.length_cons, mkl_len]
theorem mnl_cons (x : α) (r : List α) : mnl mn (x :: r) = mn x + mnl mn r := by simp [mnl]
theorem mnl_step (l : List α) (d : α) (j : Nat) (h : j < l.length) : mnl mn (l.take (j + 1)) = mnl mn (l.take j) + mn (l.getD j d) := sum_step mn l d j h
theorem mnl_le (l : List α) (j : Nat) : mnl mn (l.take j) ≤ mnl mn l := take_sum_le l mn j
theorem mkl_app : ∀ {l m : List α} {k : Int}, mkl mk mn k (l ++ m) = mkl mk mn k l ++ mkl mk mn (k + mnl mn l) m
  | [], m, k => by simp [mkl, mnl]
  | x :: r, m, k => by
    rw [List.cons_append, mkl, mkl, mkl_app, List.cons_append, mnl_cons]
    congr 3
    omega
theorem mkl_getD {l : List α} {k : Int} {d : α} {j : Nat} (h : j < l.length) : (mkl mk mn k l).getD j d = mk (k + mnl mn (l.take j)) (l.getD j d) := by
  have e : l = l.take j ++ l.getD j d :: l.drop (j + 1) := by
    have : l.drop j = l.getD j d :: l.drop (j + 1) := by
      rw [List.drop_eq_getElem_cons h, List.getD_eq_getElem?_getD, List.getElem?_eq_getElem h]; rfl
    rw [← this, List.take_append_drop]
  have hj : (l.take j).length = j := by rw [List.length_take]; omega
  generalize l.getD j d = x at e ⊢
  rw [show mkl mk mn k l = mkl mk mn k (l.take j ++ x :: l.drop (j + 1)) by rw [← e], mkl_app, mkl]
  rw [List.getD_eq_getElem?_getD, List.getElem?_append_right (by rw [mkl_len, hj]; exact Nat.le_refl _), mkl_len, hj, Nat.sub_self]
  rfl
theorem mk_cur (l : List α) (k : Int) (d : α) (j : Nat) (h : j < l.length) : (mkl mk mn k (l.take j) ++ l.drop j).getD j d = l.getD j d := by
  have hj : (mkl mk mn k (l.take j)).length = j := by rw [mkl_len, List.length_take]; omega
  rw [List.getD_eq_getElem?_getD, List.getElem?_append_right (by omega), hj, Nat.sub_self, List.getElem?_drop, List.getD_eq_getElem?_getD, Nat.add_zero]
theorem mk_len (l : List α) (k : Int) (j : Nat) (h : j ≤ l.length) : (mkl mk mn k (l.take j) ++ l.drop j).length = l.length := by
  rw [List.length_append, mkl_len, List.length_take, List.length_drop]; omega
theorem mk_step (l : List α) (k : Int) (d : α) (j : Nat) (h : j < l.length) : (mkl mk mn k (l.take j) ++ l.drop j).set j (mk (k + mnl mn (l.take j)) (l.getD j d)) = mkl mk mn k (l.take (j + 1)) ++ l.drop (j + 1) := by
  have hj : (mkl mk mn k (l.take j)).length = j := by rw [mkl_len, List.length_take]; omega
  rw [List.set_append_right _ _ (by omega), hj, Nat.sub_self, List.drop_eq_getElem_cons h, List.set_cons_zero, take_snoc l j d h, mkl_app, mkl, mkl, List.append_assoc]
  rfl
theorem getD_set (L : List α) (d y : α) (j : Nat) (h : j < L.length) : (L.set j y).getD j d = y := by
  rw [List.getD_eq_getElem?_getD, List.getElem?_set_self h]; rfl
end
theorem W.boundO {P : Program} {ty : Tag → Nat} {zb : Base} {c : Code} {Q : Post} {st : St} (n : Nat) {t : Tag} {l : List (T t)} (h : look st.hp n = some (.arr t l)) (k : l.length ≤ 9223372036854775807 → W P ty zb c Q st) : W P ty zb c Q st := by
  intro a w iv
  obtain ⟨env, g⟩ := iv.good
  obtain ⟨oa, cap, _, h1, h2, _⟩ := RO.sl (g.obj n _ h)
  have e : maxLen = 9223372036854775807 := by decide
  exact k (by omega) a w iv
theorem W.conv {P : Program} {ty : Tag → Nat} {zb : Base} {c : Code} {Q : Post} {st : St} (st' : St) (h : st = st') (k : W P ty zb c Q st') : W P ty zb c Q st := h ▸ k
end Go.Proofs.Ytlocnjfgeifmnaa.G
namespace Go.Proofs.Ytlocnjfgeifmnaa.G
set_option linter.all false
open Go.RowKit L D
set_option maxRecDepth 100000
def mku8 (k : Int) (_ : UInt8) : UInt8 := UInt8.ofNat (IntKind.u8.wrap k).toNat
theorem getD_some {α : Type} (l : List α) (d : α) (k : Nat) (h : k < l.length) : l[k]? = some (l.getD k d) := by
  rw [List.getD_eq_getElem?_getD, List.getElem?_eq_getElem h]; rfl
def size_DB (x : DB) : Nat := (lsz List.length) x.rows
def mne_DB (x : DB) : Nat := (mnl (mnl (fun _ => 1))) x.rows
def size_RShare (x : RShare) : Nat := size_DB x.share
def mne_RShare (x : RShare) : Nat := 1 + (mnl (mnl (fun _ => 1))) x.share.rows
def mke_RShare (k : Int) (x : RShare) : RShare := ⟨k, ⟨(mkl (mkl mku8 (fun _ => 1)) (mnl (fun _ => 1))) (k + 1) x.share.rows⟩⟩
def size_Srv (x : Srv) : Nat := (lsz size_RShare) x.received
def mne_Srv (x : Srv) : Nat := 1 + 1 + 1 + (mnl mne_RShare) x.received + 1
def mke_Srv (k : Int) (x : Srv) : Srv := ⟨k, k + 1, k + 1 + 1, (mkl mke_RShare mne_RShare) (k + 1 + 1 + 1) x.received, k + 1 + 1 + 1 + ((mnl mne_RShare) x.received : Nat)⟩
def size_ARound (x : ARound) : Nat := size_DB x.db
def mne_ARound (x : ARound) : Nat := 1 + (mnl (mnl (fun _ => 1))) x.db.rows
def mke_ARound (k : Int) (x : ARound) : ARound := ⟨k, ⟨(mkl (mkl mku8 (fun _ => 1)) (mnl (fun _ => 1))) (k + 1) x.db.rows⟩⟩
def size_Arc (x : Arc) : Nat := (lsz size_ARound) x.rounds
def mnv_Arc (x : Arc) : Nat := (mnl mne_ARound) x.rounds
def mkv_Arc (k : Int) (x : Arc) : Arc := ⟨x.rows, (mkl mke_ARound mne_ARound) (k) x.rounds⟩
def size_Cli (x : Cli) : Nat := (lsz List.length) x.submitted + (lsz List.length) x.inbox
def mne_Cli (x : Cli) : Nat := 1 + 1 + 1 + 1 + (mnl (mnl (fun _ => 1))) x.submitted + 1 + (mnl (mnl (fun _ => 1))) x.inbox + 1
def size_Dev (x : Dev) : Nat := size_Cli x.live + size_Cli x.saved
def mne_Dev (x : Dev) : Nat := 1 + 1 + 1 + 1 + (mnl (mnl (fun _ => 1))) x.live.submitted + 1 + (mnl (mnl (fun _ => 1))) x.live.inbox + 1 + 1 + 1 + 1 + 1 + (mnl (mnl (fun _ => 1))) x.saved.submitted + 1 + (mnl (mnl (fun _ => 1))) x.saved.inbox + 1
def mke_Dev (k : Int) (x : Dev) : Dev := ⟨⟨k, k + 1, k + 1 + 1, k + 1 + 1 + 1, (mkl (mkl mku8 (fun _ => 1)) (mnl (fun _ => 1))) (k + 1 + 1 + 1 + 1) x.live.submitted, k + 1 + 1 + 1 + 1 + ((mnl (mnl (fun _ => 1))) x.live.submitted : Nat), (mkl (mkl mku8 (fun _ => 1)) (mnl (fun _ => 1))) (k + 1 + 1 + 1 + 1 + ((mnl (mnl (fun _ => 1))) x.live.submitted : Nat) + 1) x.live.inbox, k + 1 + 1 + 1 + 1 + ((mnl (mnl (fun _ => 1))) x.live.submitted : Nat) + 1 + ((mnl (mnl (fun _ => 1))) x.live.inbox : Nat)⟩, ⟨k + 1 + 1 + 1 + 1 + ((mnl (mnl (fun _ => 1))) x.live.submitted : Nat) + 1 + ((mnl (mnl (fun _ => 1))) x.live.inbox : Nat) + 1, k + 1 + 1 + 1 + 1 + ((mnl (mnl (fun _ => 1))) x.live.submitted : Nat) + 1 + ((mnl (mnl (fun _ => 1))) x.live.inbox : Nat) + 1 + 1, k + 1 + 1 + 1 + 1 + ((mnl (mnl (fun _ => 1))) x.live.submitted : Nat) + 1 + ((mnl (mnl (fun _ => 1))) x.live.inbox : Nat) + 1 + 1 + 1, k + 1 + 1 + 1 + 1 + ((mnl (mnl (fun _ => 1))) x.live.submitted : Nat) + 1 + ((mnl (mnl (fun _ => 1))) x.live.inbox : Nat) + 1 + 1 + 1 + 1, (mkl (mkl mku8 (fun _ => 1)) (mnl (fun _ => 1))) (k + 1 + 1 + 1 + 1 + ((mnl (mnl (fun _ => 1))) x.live.submitted : Nat) + 1 + ((mnl (mnl (fun _ => 1))) x.live.inbox : Nat) + 1 + 1 + 1 + 1 + 1) x.saved.submitted, k + 1 + 1 + 1 + 1 + ((mnl (mnl (fun _ => 1))) x.live.submitted : Nat) + 1 + ((mnl (mnl (fun _ => 1))) x.live.inbox : Nat) + 1 + 1 + 1 + 1 + 1 + ((mnl (mnl (fun _ => 1))) x.saved.submitted : Nat), (mkl (mkl mku8 (fun _ => 1)) (mnl (fun _ => 1))) (k + 1 + 1 + 1 + 1 + ((mnl (mnl (fun _ => 1))) x.live.submitted : Nat) + 1 + ((mnl (mnl (fun _ => 1))) x.live.inbox : Nat) + 1 + 1 + 1 + 1 + 1 + ((mnl (mnl (fun _ => 1))) x.saved.submitted : Nat) + 1) x.saved.inbox, k + 1 + 1 + 1 + 1 + ((mnl (mnl (fun _ => 1))) x.live.submitted : Nat) + 1 + ((mnl (mnl (fun _ => 1))) x.live.inbox : Nat) + 1 + 1 + 1 + 1 + 1 + ((mnl (mnl (fun _ => 1))) x.saved.submitted : Nat) + 1 + ((mnl (mnl (fun _ => 1))) x.saved.inbox : Nat)⟩⟩
def size_Wld (x : Wld) : Nat := (lsz size_Srv) x.servers + (lsz size_Dev) x.devices + size_Arc x.archive + List.length x.replaced
def mnv_Wld (x : Wld) : Nat := (mnl mne_Srv) x.servers + (mnl mne_Dev) x.devices + mnv_Arc x.archive + (mnl (fun _ => 1)) x.replaced
def mkv_Wld (k : Int) (x : Wld) : Wld := ⟨x.rows, (mkl mke_Srv mne_Srv) (k) x.servers, (mkl mke_Dev mne_Dev) (k + ((mnl mne_Srv) x.servers : Nat)) x.devices, mkv_Arc (k + ((mnl mne_Srv) x.servers : Nat) + ((mnl mne_Dev) x.devices : Nat)) x.archive, x.master, x.seed, x.round, (mkl (fun k _ => k) (fun _ => 1)) (k + ((mnl mne_Srv) x.servers : Nat) + ((mnl mne_Dev) x.devices : Nat) + (mnv_Arc x.archive : Nat)) x.replaced, x.cancelled⟩
def size_Trf (x : Trf) : Nat := 0
def mne_Trf (x : Trf) : Nat := 1 + 1 + 1
def mke_Trf (k : Int) (x : Trf) : Trf := ⟨k, k + 1, k + 1 + 1⟩
theorem mnl_one {α : Type} (l : List α) : mnl (fun _ => 1) l = l.length := by
  induction l with
  | nil => rfl
  | cons x r ih => rw [mnl_cons, ih, List.length_cons]; omega
theorem mnl_lsz {α : Type} {mn sz : α → Nat} {C : Nat} (h : ∀ e, mn e ≤ C * (1 + sz e)) (l : List α) : mnl mn l ≤ C * lsz sz l := by
  unfold lsz mnl
  induction l with
  | nil => simp
  | cons x r ih =>
    simp only [List.map_cons, List.sum_cons, List.length_cons]
    have := h x
    have e : C * (r.length + 1 + (sz x + (r.map sz).sum)) = C * (1 + sz x) + C * (r.length + (r.map sz).sum) := by rw [← Nat.mul_add]; congr 1; omega
    omega
theorem mnl_len {α : Type} (l : List α) : mnl (fun _ => 1) l ≤ 32 * List.length l := by rw [mnl_one]; omega
theorem mne_le_RShare (x : RShare) : mne_RShare x ≤ 32 * (1 + size_RShare x) := by
  have h0 : (mnl (mnl (fun _ => 1))) x.share.rows ≤ 32 * (lsz List.length) x.share.rows := mnl_lsz (C := 32) (sz := List.length) (fun e => by have : (mnl (fun _ => 1)) e ≤ 32 * List.length e := mnl_len e; omega) x.share.rows
  simp only [mne_RShare, size_RShare, size_DB]
  omega
theorem mne_le_Srv (x : Srv) : mne_Srv x ≤ 32 * (1 + size_Srv x) := by
  have h0 : (mnl mne_RShare) x.received ≤ 32 * (lsz size_RShare) x.received := mnl_lsz (C := 32) (sz := size_RShare) mne_le_RShare x.received
  simp only [mne_Srv, size_Srv]
  omega
theorem mne_le_ARound (x : ARound) : mne_ARound x ≤ 32 * (1 + size_ARound x) := by
  have h0 : (mnl (mnl (fun _ => 1))) x.db.rows ≤ 32 * (lsz List.length) x.db.rows := mnl_lsz (C := 32) (sz := List.length) (fun e => by have : (mnl (fun _ => 1)) e ≤ 32 * List.length e := mnl_len e; omega) x.db.rows
  simp only [mne_ARound, size_ARound, size_DB]
  omega
theorem mne_le_Dev (x : Dev) : mne_Dev x ≤ 32 * (1 + size_Dev x) := by
  have h0 : (mnl (mnl (fun _ => 1))) x.live.submitted ≤ 32 * (lsz List.length) x.live.submitted := mnl_lsz (C := 32) (sz := List.length) (fun e => by have : (mnl (fun _ => 1)) e ≤ 32 * List.length e := mnl_len e; omega) x.live.submitted
  have h1 : (mnl (mnl (fun _ => 1))) x.live.inbox ≤ 32 * (lsz List.length) x.live.inbox := mnl_lsz (C := 32) (sz := List.length) (fun e => by have : (mnl (fun _ => 1)) e ≤ 32 * List.length e := mnl_len e; omega) x.live.inbox
  have h2 : (mnl (mnl (fun _ => 1))) x.saved.submitted ≤ 32 * (lsz List.length) x.saved.submitted := mnl_lsz (C := 32) (sz := List.length) (fun e => by have : (mnl (fun _ => 1)) e ≤ 32 * List.length e := mnl_len e; omega) x.saved.submitted
  have h3 : (mnl (mnl (fun _ => 1))) x.saved.inbox ≤ 32 * (lsz List.length) x.saved.inbox := mnl_lsz (C := 32) (sz := List.length) (fun e => by have : (mnl (fun _ => 1)) e ≤ 32 * List.length e := mnl_len e; omega) x.saved.inbox
  simp only [mne_Dev, size_Dev, size_Cli]
  omega
theorem mnv_le_Wld (x : Wld) : mnv_Wld x ≤ 32 * size_Wld x := by
  have h0 : (mnl mne_Srv) x.servers ≤ 32 * (lsz size_Srv) x.servers := mnl_lsz (C := 32) (sz := size_Srv) mne_le_Srv x.servers
  have h1 : (mnl mne_Dev) x.devices ≤ 32 * (lsz size_Dev) x.devices := mnl_lsz (C := 32) (sz := size_Dev) mne_le_Dev x.devices
  have h2 : (mnl mne_ARound) x.archive.rounds ≤ 32 * (lsz size_ARound) x.archive.rounds := mnl_lsz (C := 32) (sz := size_ARound) mne_le_ARound x.archive.rounds
  have h3 : (mnl (fun _ => 1)) x.replaced ≤ 32 * List.length x.replaced := mnl_len x.replaced
  simp only [mnv_Wld, mnv_Arc, size_Wld, size_Arc]
  omega
theorem mne_le_Trf (x : Trf) : mne_Trf x ≤ 32 * (1 + size_Trf x) := by
  simp only [mne_Trf, size_Trf]
  omega
end Go.Proofs.Ytlocnjfgeifmnaa.G
namespace Go.Proofs.Ytlocnjfgeifmnaa.G
set_option linter.all false
open Go.RowKit L D
set_option maxRecDepth 100000
theorem c_szByteS (l : (List UInt8)) (left : Int) (h0 : 0 ≤ left) (h1 : left ≤ 1048576) : Sound ty Try.prog 121 [.a (.sl .u8 l), .a (.lit (.int .i64 left))] [.a (.lit (.int .i64 (szr left (List.length l))))] := by
  refine Sound.of X Try.call121 Try.func121 rfl rfl (by decide) Try.ntmps121 (by simp) ?_
  intro zb
  refine W.bound 0 rfl fun hl => ?_
  refine W.seq ?_
  refine W.reg X [] [] [0, 1] [] rfl ⟨⟩ ?_
  refine W.seq ?_
  refine W.reg X [] [] [1] [] rfl ⟨⟩ ?_
  rw [IntWalk.i64_in (left - (l.length : Nat)) (by omega)]
  refine W.seq ?_
  refine W.seq ?_
  refine W.reg X [] [] [1, 10] [] rfl ⟨⟩ ?_
  refine W.cond rfl (fun hb0 => ?_) (fun hb0 => ?_)
  · try simp only [nb] at hb0
    refine W.seq ?_
    refine W.reg X [] [] [4] [] rfl ⟨⟩ ?_
    refine W.ret ?_
    exact Fin.ret rfl ⟨by rw [szr_lt (by omega)], ⟨⟩⟩
  · try simp only [nb] at hb0
    refine W.skip ?_
    refine W.seq ?_
    refine W.reg X [] [] [4] [] rfl ⟨⟩ ?_
    refine W.ret ?_
    exact Fin.ret rfl ⟨by rw [szr_ge (by omega)], ⟨⟩⟩
theorem c_szByteSS (l : (List (List UInt8))) (left : Int) (h0 : 0 ≤ left) (h1 : left ≤ 1048576) : Sound ty Try.prog 104 [.a (.sl (.sl .u8) l), .a (.lit (.int .i64 left))] [.a (.lit (.int .i64 (szr left ((lsz List.length) l))))] := by
  refine Sound.of X Try.call104 Try.func104 rfl rfl (by decide) Try.ntmps104 (by simp) ?_
  intro zb
  refine W.bound 0 rfl fun hl => ?_
  refine W.seq ?_
  refine W.reg X [] [] [0, 1] [] rfl ⟨⟩ ?_
  refine W.seq ?_
  refine W.reg X [] [] [0, 1] [] rfl ⟨⟩ ?_
  rw [IntWalk.i64_in (left - (l.length : Nat)) (by omega)]
  refine W.seq ?_
  refine W.seq ?_
  refine W.reg X [] [] [0, 1, 11] [] rfl ⟨⟩ ?_
  refine W.cond rfl (fun hb0 => ?_) (fun hb0 => ?_)
  · try simp only [nb] at hb0
    refine W.seq ?_
    refine W.reg X [] [] [4] [] rfl ⟨⟩ ?_
    refine W.ret ?_
    exact Fin.ret rfl ⟨by rw [szr_lt (by unfold lsz; omega)], ⟨⟩⟩
  · try simp only [nb] at hb0
    refine W.skip ?_
    refine W.seq ?_
    refine W.seq ?_
    refine W.reg X [] [] [0, 1, 5] [] rfl ⟨⟩ ?_
    refine W.block ?_
    refine W.loopO (fun k => k ≤ l.length ∧ (l.length : Int) + (((l.take k).map List.length).sum : Nat) ≤ left) (fun k : Nat => [(1, .one (.a (.lit (.int .i64 (left - (l.length : Nat) - (((l.take k).map List.length).sum : Nat)))))), (5, .one (.a (.lit (.int .i64 k))))]) (fun k => []) (fun k => l.length - k) 0 (fun k => rfl) ⟨Nat.zero_le _, by simp; omega⟩ (by simp) ?_
    rintro k ⟨hk, hs⟩
    refine W.seq ?_
    refine W.seq ?_
    refine W.reg X [] [] [0, 1, 5, 15] [] rfl ⟨⟩ ?_
    refine W.cond rfl (fun hb1 => ?_) (fun hb1 => ?_)
    · try simp only [nb] at hb1
      have hsum := sum_step List.length l (dfl (.sl .u8)) k hb1
      have hle := take_sum_le l List.length (k + 1)
      refine W.skip ?_
      refine W.seq ?_
      refine W.block ?_
      refine W.seq ?_
      refine W.reg X [] [(23, ⟨false, [.a (.lit (.int .i64 (szr (left - (l.length : Nat) - (((l.take k).map List.length).sum : Nat)) (List.length (l.getD k (dfl (.sl .u8)))))))]⟩)] [0, 1, 5] [] rfl ⟨c_szByteS (l.getD k (dfl (.sl .u8))) _ (by omega) (by omega), by omega, ⟨⟩⟩ ?_
      refine W.seq ?_
      refine W.reg X [] [] [0, 1, 5, 25] [] rfl ⟨⟩ ?_
      refine W.cond rfl (fun hb2 => ?_) (fun hb2 => ?_)
      · try simp only [nb] at hb2
        have hn := szr_neg (by omega) hb2
        refine W.seq ?_
        refine W.reg X [] [] [4] [] rfl ⟨⟩ ?_
        refine W.ret ?_
        exact Fin.ret rfl ⟨by rw [szr_lt (by unfold lsz; omega)], ⟨⟩⟩
      · try simp only [nb] at hb2
        obtain ⟨e2, e3⟩ := szr_pos hb2
        rw [e2]
        refine W.skip ?_
        refine W.reg X [] [] [0, 1, 5] [] rfl ⟨⟩ ?_
        refine ⟨k + 1, ⟨by omega, by omega⟩, by omega, ?_⟩
        rw [wadd _ k rfl (by omega), show left - (l.length : Nat) - (((l.take k).map List.length).sum : Nat) - (List.length (l.getD k (dfl (.sl .u8))) : Nat) = left - (l.length : Nat) - (((l.take (k + 1)).map List.length).sum : Nat) by omega]
    · try simp only [nb] at hb1
      refine W.exit ?_
      refine W.seq ?_
      refine W.reg X [] [] [4] [] rfl ⟨⟩ ?_
      refine W.ret ?_
      have hf : l.take k = l := List.take_of_length_le (by omega)
      rw [hf] at hs
      exact Fin.ret rfl ⟨by rw [hf, szr_ge (by unfold lsz; omega)]; congr 1; unfold lsz; omega, ⟨⟩⟩
theorem c_szDatabase (x : DB) (left : Int) (h0 : 0 ≤ left) (h1 : left ≤ 1048576) : Sound ty Try.prog 105 [.agg (dec_DB x), .a (.lit (.int .i64 left))] [.a (.lit (.int .i64 (szr left (size_DB x))))] := by
  refine Sound.of X Try.call105 Try.func105 rfl rfl (by decide) Try.ntmps105 (by simp) ?_
  intro zb
  refine W.seq ?_
  refine W.reg X [] [] [1, 2] [] rfl ⟨⟩ ?_
  refine W.seq ?_
  refine W.reg X [] [(8, ⟨false, [.a (.lit (.int .i64 (szr (left) ((lsz List.length) x.rows))))]⟩)] [1] [] rfl ⟨c_szByteSS x.rows (left) (by omega) (by omega), ⟨⟩⟩ ?_
  refine W.seq ?_
  refine W.seq ?_
  refine W.reg X [] [] [1, 10] [] rfl ⟨⟩ ?_
  refine W.cond rfl (fun hb0 => ?_) (fun hb0 => ?_)
  · try simp only [nb] at hb0
    refine W.seq ?_
    refine W.reg X [] [] [4] [] rfl ⟨⟩ ?_
    refine W.ret ?_
    exact Fin.ret rfl ⟨by rw [szr_lt (by have := szr_neg (by omega) hb0; unfold size_DB; omega)], ⟨⟩⟩
  · try simp only [nb] at hb0
    obtain ⟨e0, e0'⟩ := szr_pos hb0
    rw [e0]
    refine W.skip ?_
    refine W.seq ?_
    refine W.reg X [] [] [4] [] rfl ⟨⟩ ?_
    refine W.ret ?_
    exact Fin.ret rfl ⟨by rw [szr_ge (by unfold size_DB; omega)]; first | done | (congr 1; done) | (congr 1; unfold size_DB; omega), ⟨⟩⟩
theorem c_szArchivedRound (x : ARound) (left : Int) (h0 : 0 ≤ left) (h1 : left ≤ 1048576) : Sound ty Try.prog 83 [.agg (dec_ARound x), .a (.lit (.int .i64 left))] [.a (.lit (.int .i64 (szr left (size_ARound x))))] := by
  refine Sound.of X Try.call83 Try.func83 rfl rfl (by decide) Try.ntmps83 (by simp) ?_
  intro zb
  refine W.seq ?_
  refine W.reg X [] [] [1, 2] [] rfl ⟨⟩ ?_
  refine W.seq ?_
  refine W.reg X [] [(8, ⟨false, [.a (.lit (.int .i64 (szr (left) (size_DB x.db))))]⟩)] [1] [] rfl ⟨c_szDatabase x.db (left) (by omega) (by omega), ⟨⟩⟩ ?_
  refine W.seq ?_
  refine W.seq ?_
  refine W.reg X [] [] [1, 10] [] rfl ⟨⟩ ?_
  refine W.cond rfl (fun hb0 => ?_) (fun hb0 => ?_)
  · try simp only [nb] at hb0
    refine W.seq ?_
    refine W.reg X [] [] [4] [] rfl ⟨⟩ ?_
    refine W.ret ?_
    exact Fin.ret rfl ⟨by rw [szr_lt (by have := szr_neg (by omega) hb0; unfold size_ARound; omega)], ⟨⟩⟩
  · try simp only [nb] at hb0
    obtain ⟨e0, e0'⟩ := szr_pos hb0
    rw [e0]
    refine W.skip ?_
    refine W.seq ?_
    refine W.reg X [] [] [4] [] rfl ⟨⟩ ?_
    refine W.ret ?_
    exact Fin.ret rfl ⟨by rw [szr_ge (by unfold size_ARound; omega)]; first | done | (congr 1; done) | (congr 1; unfold size_ARound; omega), ⟨⟩⟩
theorem c_szArchivedRoundS (l : (List ARound)) (left : Int) (h0 : 0 ≤ left) (h1 : left ≤ 1048576) : Sound ty Try.prog 49 [.a (.sl .ARound l), .a (.lit (.int .i64 left))] [.a (.lit (.int .i64 (szr left ((lsz size_ARound) l))))] := by
  refine Sound.of X Try.call49 Try.func49 rfl rfl (by decide) Try.ntmps49 (by simp) ?_
  intro zb
  refine W.bound 0 rfl fun hl => ?_
  refine W.seq ?_
  refine W.reg X [] [] [0, 1] [] rfl ⟨⟩ ?_
  refine W.seq ?_
  refine W.reg X [] [] [0, 1] [] rfl ⟨⟩ ?_
  rw [IntWalk.i64_in (left - (l.length : Nat)) (by omega)]
  refine W.seq ?_
  refine W.seq ?_
  refine W.reg X [] [] [0, 1, 11] [] rfl ⟨⟩ ?_
  refine W.cond rfl (fun hb0 => ?_) (fun hb0 => ?_)
  · try simp only [nb] at hb0
    refine W.seq ?_
    refine W.reg X [] [] [4] [] rfl ⟨⟩ ?_
    refine W.ret ?_
    exact Fin.ret rfl ⟨by rw [szr_lt (by unfold lsz; omega)], ⟨⟩⟩
  · try simp only [nb] at hb0
    refine W.skip ?_
    refine W.seq ?_
    refine W.seq ?_
    refine W.reg X [] [] [0, 1, 5] [] rfl ⟨⟩ ?_
    refine W.block ?_
    refine W.loopO (fun k => k ≤ l.length ∧ (l.length : Int) + (((l.take k).map size_ARound).sum : Nat) ≤ left) (fun k : Nat => [(1, .one (.a (.lit (.int .i64 (left - (l.length : Nat) - (((l.take k).map size_ARound).sum : Nat)))))), (5, .one (.a (.lit (.int .i64 k))))]) (fun k => []) (fun k => l.length - k) 0 (fun k => rfl) ⟨Nat.zero_le _, by simp; omega⟩ (by simp) ?_
    rintro k ⟨hk, hs⟩
    refine W.seq ?_
    refine W.seq ?_
    refine W.reg X [] [] [0, 1, 5, 15] [] rfl ⟨⟩ ?_
    refine W.cond rfl (fun hb1 => ?_) (fun hb1 => ?_)
    · try simp only [nb] at hb1
      have hsum := sum_step size_ARound l (dfl .ARound) k hb1
      have hle := take_sum_le l size_ARound (k + 1)
      refine W.skip ?_
      refine W.seq ?_
      refine W.block ?_
      refine W.seq ?_
      refine W.reg X [] [(23, ⟨false, [.a (.lit (.int .i64 (szr (left - (l.length : Nat) - (((l.take k).map size_ARound).sum : Nat)) (size_ARound (l.getD k (dfl .ARound))))))]⟩)] [0, 1, 5] [] rfl ⟨c_szArchivedRound (l.getD k (dfl .ARound)) _ (by omega) (by omega), by omega, ⟨⟩⟩ ?_
      refine W.seq ?_
      refine W.reg X [] [] [0, 1, 5, 25] [] rfl ⟨⟩ ?_
      refine W.cond rfl (fun hb2 => ?_) (fun hb2 => ?_)
      · try simp only [nb] at hb2
        have hn := szr_neg (by omega) hb2
        refine W.seq ?_
        refine W.reg X [] [] [4] [] rfl ⟨⟩ ?_
        refine W.ret ?_
        exact Fin.ret rfl ⟨by rw [szr_lt (by unfold lsz; omega)], ⟨⟩⟩
      · try simp only [nb] at hb2
        obtain ⟨e2, e3⟩ := szr_pos hb2
        rw [e2]
        refine W.skip ?_
        refine W.reg X [] [] [0, 1, 5] [] rfl ⟨⟩ ?_
        refine ⟨k + 1, ⟨by omega, by omega⟩, by omega, ?_⟩
        rw [wadd _ k rfl (by omega), show left - (l.length : Nat) - (((l.take k).map size_ARound).sum : Nat) - (size_ARound (l.getD k (dfl .ARound)) : Nat) = left - (l.length : Nat) - (((l.take (k + 1)).map size_ARound).sum : Nat) by omega]
    · try simp only [nb] at hb1
      refine W.exit ?_
      refine W.seq ?_
      refine W.reg X [] [] [4] [] rfl ⟨⟩ ?_
      refine W.ret ?_
      have hf : l.take k = l := List.take_of_length_le (by omega)
      rw [hf] at hs
      exact Fin.ret rfl ⟨by rw [hf, szr_ge (by unfold lsz; omega)]; congr 1; unfold lsz; omega, ⟨⟩⟩
theorem c_szArchive (x : Arc) (left : Int) (h0 : 0 ≤ left) (h1 : left ≤ 1048576) : Sound ty Try.prog 18 [.agg (dec_Arc x), .a (.lit (.int .i64 left))] [.a (.lit (.int .i64 (szr left (size_Arc x))))] := by
  refine Sound.of X Try.call18 Try.func18 rfl rfl (by decide) Try.ntmps18 (by simp) ?_
  intro zb
  refine W.seq ?_
  refine W.reg X [] [] [1, 2] [] rfl ⟨⟩ ?_
  refine W.seq ?_
  refine W.reg X [] [(8, ⟨false, [.a (.lit (.int .i64 (szr (left) ((lsz size_ARound) x.rounds))))]⟩)] [1] [] rfl ⟨c_szArchivedRoundS x.rounds (left) (by omega) (by omega), ⟨⟩⟩ ?_
  refine W.seq ?_
  refine W.seq ?_
  refine W.reg X [] [] [1, 10] [] rfl ⟨⟩ ?_
  refine W.cond rfl (fun hb0 => ?_) (fun hb0 => ?_)
  · try simp only [nb] at hb0
    refine W.seq ?_
    refine W.reg X [] [] [4] [] rfl ⟨⟩ ?_
    refine W.ret ?_
    exact Fin.ret rfl ⟨by rw [szr_lt (by have := szr_neg (by omega) hb0; unfold size_Arc; omega)], ⟨⟩⟩
  · try simp only [nb] at hb0
    obtain ⟨e0, e0'⟩ := szr_pos hb0
    rw [e0]
    refine W.skip ?_
    refine W.seq ?_
    refine W.reg X [] [] [4] [] rfl ⟨⟩ ?_
    refine W.ret ?_
    exact Fin.ret rfl ⟨by rw [szr_ge (by unfold size_Arc; omega)]; first | done | (congr 1; done) | (congr 1; unfold size_Arc; omega), ⟨⟩⟩
theorem c_szClient (x : Cli) (left : Int) (h0 : 0 ≤ left) (h1 : left ≤ 1048576) : Sound ty Try.prog 82 [.agg (dec_Cli x), .a (.lit (.int .i64 left))] [.a (.lit (.int .i64 (szr left (size_Cli x))))] := by
  refine Sound.of X Try.call82 Try.func82 rfl rfl (by decide) Try.ntmps82 (by simp) ?_
  intro zb
  refine W.seq ?_
  refine W.reg X [] [] [1, 2] [] rfl ⟨⟩ ?_
  refine W.seq ?_
  refine W.reg X [] [(8, ⟨false, [.a (.lit (.int .i64 (szr (left) ((lsz List.length) x.submitted))))]⟩)] [1, 2] [] rfl ⟨c_szByteSS x.submitted (left) (by omega) (by omega), ⟨⟩⟩ ?_
  refine W.seq ?_
  refine W.seq ?_
  refine W.reg X [] [] [1, 2, 10] [] rfl ⟨⟩ ?_
  refine W.cond rfl (fun hb0 => ?_) (fun hb0 => ?_)
  · try simp only [nb] at hb0
    refine W.seq ?_
    refine W.reg X [] [] [4] [] rfl ⟨⟩ ?_
    refine W.ret ?_
    exact Fin.ret rfl ⟨by rw [szr_lt (by have := szr_neg (by omega) hb0; unfold size_Cli; omega)], ⟨⟩⟩
  · try simp only [nb] at hb0
    obtain ⟨e0, e0'⟩ := szr_pos hb0
    rw [e0]
    refine W.skip ?_
    refine W.seq ?_
    refine W.reg X [] [(14, ⟨false, [.a (.lit (.int .i64 (szr (left - (((lsz List.length) x.submitted) : Nat)) ((lsz List.length) x.inbox))))]⟩)] [1] [] rfl ⟨c_szByteSS x.inbox (left - (((lsz List.length) x.submitted) : Nat)) (by omega) (by omega), ⟨⟩⟩ ?_
    refine W.seq ?_
    refine W.seq ?_
    refine W.reg X [] [] [1, 16] [] rfl ⟨⟩ ?_
    refine W.cond rfl (fun hb1 => ?_) (fun hb1 => ?_)
    · try simp only [nb] at hb1
      refine W.seq ?_
      refine W.reg X [] [] [4] [] rfl ⟨⟩ ?_
      refine W.ret ?_
      exact Fin.ret rfl ⟨by rw [szr_lt (by have := szr_neg (by omega) hb1; unfold size_Cli; omega)], ⟨⟩⟩
    · try simp only [nb] at hb1
      obtain ⟨e1, e1'⟩ := szr_pos hb1
      rw [e1]
      refine W.skip ?_
      refine W.seq ?_
      refine W.reg X [] [] [4] [] rfl ⟨⟩ ?_
      refine W.ret ?_
      exact Fin.ret rfl ⟨by rw [szr_ge (by unfold size_Cli; omega)]; first | done | (congr 1; done) | (congr 1; unfold size_Cli; omega), ⟨⟩⟩
theorem c_szDevice (x : Dev) (left : Int) (h0 : 0 ≤ left) (h1 : left ≤ 1048576) : Sound ty Try.prog 48 [.agg (dec_Dev x), .a (.lit (.int .i64 left))] [.a (.lit (.int .i64 (szr left (size_Dev x))))] := by
  refine Sound.of X Try.call48 Try.func48 rfl rfl (by decide) Try.ntmps48 (by simp) ?_
  intro zb
  refine W.seq ?_
  refine W.reg X [] [] [1, 2] [] rfl ⟨⟩ ?_
  refine W.seq ?_
  refine W.reg X [] [(8, ⟨false, [.a (.lit (.int .i64 (szr (left) (size_Cli x.live))))]⟩)] [1, 2] [] rfl ⟨c_szClient x.live (left) (by omega) (by omega), ⟨⟩⟩ ?_
  refine W.seq ?_
  refine W.seq ?_
  refine W.reg X [] [] [1, 2, 10] [] rfl ⟨⟩ ?_
  refine W.cond rfl (fun hb0 => ?_) (fun hb0 => ?_)
  · try simp only [nb] at hb0
    refine W.seq ?_
    refine W.reg X [] [] [4] [] rfl ⟨⟩ ?_
    refine W.ret ?_
    exact Fin.ret rfl ⟨by rw [szr_lt (by have := szr_neg (by omega) hb0; unfold size_Dev; omega)], ⟨⟩⟩
  · try simp only [nb] at hb0
    obtain ⟨e0, e0'⟩ := szr_pos hb0
    rw [e0]
    refine W.skip ?_
    refine W.seq ?_
    refine W.reg X [] [(14, ⟨false, [.a (.lit (.int .i64 (szr (left - ((size_Cli x.live) : Nat)) (size_Cli x.saved))))]⟩)] [1] [] rfl ⟨c_szClient x.saved (left - ((size_Cli x.live) : Nat)) (by omega) (by omega), ⟨⟩⟩ ?_
    refine W.seq ?_
    refine W.seq ?_
    refine W.reg X [] [] [1, 16] [] rfl ⟨⟩ ?_
    refine W.cond rfl (fun hb1 => ?_) (fun hb1 => ?_)
    · try simp only [nb] at hb1
      refine W.seq ?_
      refine W.reg X [] [] [4] [] rfl ⟨⟩ ?_
      refine W.ret ?_
      exact Fin.ret rfl ⟨by rw [szr_lt (by have := szr_neg (by omega) hb1; unfold size_Dev; omega)], ⟨⟩⟩
    · try simp only [nb] at hb1
      obtain ⟨e1, e1'⟩ := szr_pos hb1
      rw [e1]
      refine W.skip ?_
      refine W.seq ?_
      refine W.reg X [] [] [4] [] rfl ⟨⟩ ?_
      refine W.ret ?_
      exact Fin.ret rfl ⟨by rw [szr_ge (by unfold size_Dev; omega)]; first | done | (congr 1; done) | (congr 1; unfold size_Dev; omega), ⟨⟩⟩
theorem c_szDeviceS (l : (List Dev)) (left : Int) (h0 : 0 ≤ left) (h1 : left ≤ 1048576) : Sound ty Try.prog 17 [.a (.sl .Dev l), .a (.lit (.int .i64 left))] [.a (.lit (.int .i64 (szr left ((lsz size_Dev) l))))] := by
  refine Sound.of X Try.call17 Try.func17 rfl rfl (by decide) Try.ntmps17 (by simp) ?_
  intro zb
  refine W.bound 0 rfl fun hl => ?_
  refine W.seq ?_
  refine W.reg X [] [] [0, 1] [] rfl ⟨⟩ ?_
  refine W.seq ?_
  refine W.reg X [] [] [0, 1] [] rfl ⟨⟩ ?_
  rw [IntWalk.i64_in (left - (l.length : Nat)) (by omega)]
  refine W.seq ?_
  refine W.seq ?_
  refine W.reg X [] [] [0, 1, 11] [] rfl ⟨⟩ ?_
  refine W.cond rfl (fun hb0 => ?_) (fun hb0 => ?_)
  · try simp only [nb] at hb0
    refine W.seq ?_
    refine W.reg X [] [] [4] [] rfl ⟨⟩ ?_
    refine W.ret ?_
    exact Fin.ret rfl ⟨by rw [szr_lt (by unfold lsz; omega)], ⟨⟩⟩
  · try simp only [nb] at hb0
    refine W.skip ?_
    refine W.seq ?_
    refine W.seq ?_
    refine W.reg X [] [] [0, 1, 5] [] rfl ⟨⟩ ?_
    refine W.block ?_
    refine W.loopO (fun k => k ≤ l.length ∧ (l.length : Int) + (((l.take k).map size_Dev).sum : Nat) ≤ left) (fun k : Nat => [(1, .one (.a (.lit (.int .i64 (left - (l.length : Nat) - (((l.take k).map size_Dev).sum : Nat)))))), (5, .one (.a (.lit (.int .i64 k))))]) (fun k => []) (fun k => l.length - k) 0 (fun k => rfl) ⟨Nat.zero_le _, by simp; omega⟩ (by simp) ?_
    rintro k ⟨hk, hs⟩
    refine W.seq ?_
    refine W.seq ?_
    refine W.reg X [] [] [0, 1, 5, 15] [] rfl ⟨⟩ ?_
    refine W.cond rfl (fun hb1 => ?_) (fun hb1 => ?_)
    · try simp only [nb] at hb1
      have hsum := sum_step size_Dev l (dfl .Dev) k hb1
      have hle := take_sum_le l size_Dev (k + 1)
      refine W.skip ?_
      refine W.seq ?_
      refine W.block ?_
      refine W.seq ?_
      refine W.reg X [] [(23, ⟨false, [.a (.lit (.int .i64 (szr (left - (l.length : Nat) - (((l.take k).map size_Dev).sum : Nat)) (size_Dev (l.getD k (dfl .Dev))))))]⟩)] [0, 1, 5] [] rfl ⟨c_szDevice (l.getD k (dfl .Dev)) _ (by omega) (by omega), by omega, ⟨⟩⟩ ?_
      refine W.seq ?_
      refine W.reg X [] [] [0, 1, 5, 25] [] rfl ⟨⟩ ?_
      refine W.cond rfl (fun hb2 => ?_) (fun hb2 => ?_)
      · try simp only [nb] at hb2
        have hn := szr_neg (by omega) hb2
        refine W.seq ?_
        refine W.reg X [] [] [4] [] rfl ⟨⟩ ?_
        refine W.ret ?_
        exact Fin.ret rfl ⟨by rw [szr_lt (by unfold lsz; omega)], ⟨⟩⟩
      · try simp only [nb] at hb2
        obtain ⟨e2, e3⟩ := szr_pos hb2
        rw [e2]
        refine W.skip ?_
        refine W.reg X [] [] [0, 1, 5] [] rfl ⟨⟩ ?_
        refine ⟨k + 1, ⟨by omega, by omega⟩, by omega, ?_⟩
        rw [wadd _ k rfl (by omega), show left - (l.length : Nat) - (((l.take k).map size_Dev).sum : Nat) - (size_Dev (l.getD k (dfl .Dev)) : Nat) = left - (l.length : Nat) - (((l.take (k + 1)).map size_Dev).sum : Nat) by omega]
    · try simp only [nb] at hb1
      refine W.exit ?_
      refine W.seq ?_
      refine W.reg X [] [] [4] [] rfl ⟨⟩ ?_
      refine W.ret ?_
      have hf : l.take k = l := List.take_of_length_le (by omega)
      rw [hf] at hs
      exact Fin.ret rfl ⟨by rw [hf, szr_ge (by unfold lsz; omega)]; congr 1; unfold lsz; omega, ⟨⟩⟩
theorem c_szIntS (l : (List Int)) (left : Int) (h0 : 0 ≤ left) (h1 : left ≤ 1048576) : Sound ty Try.prog 19 [.a (.sl .int l), .a (.lit (.int .i64 left))] [.a (.lit (.int .i64 (szr left (List.length l))))] := by
  refine Sound.of X Try.call19 Try.func19 rfl rfl (by decide) Try.ntmps19 (by simp) ?_
  intro zb
  refine W.bound 0 rfl fun hl => ?_
  refine W.seq ?_
  refine W.reg X [] [] [0, 1] [] rfl ⟨⟩ ?_
  refine W.seq ?_
  refine W.reg X [] [] [1] [] rfl ⟨⟩ ?_
  rw [IntWalk.i64_in (left - (l.length : Nat)) (by omega)]
  refine W.seq ?_
  refine W.seq ?_
  refine W.reg X [] [] [1, 10] [] rfl ⟨⟩ ?_
  refine W.cond rfl (fun hb0 => ?_) (fun hb0 => ?_)
  · try simp only [nb] at hb0
    refine W.seq ?_
    refine W.reg X [] [] [4] [] rfl ⟨⟩ ?_
    refine W.ret ?_
    exact Fin.ret rfl ⟨by rw [szr_lt (by omega)], ⟨⟩⟩
  · try simp only [nb] at hb0
    refine W.skip ?_
    refine W.seq ?_
    refine W.reg X [] [] [4] [] rfl ⟨⟩ ?_
    refine W.ret ?_
    exact Fin.ret rfl ⟨by rw [szr_ge (by omega)], ⟨⟩⟩
theorem c_szReceivedShare (x : RShare) (left : Int) (h0 : 0 ≤ left) (h1 : left ≤ 1048576) : Sound ty Try.prog 103 [.agg (dec_RShare x), .a (.lit (.int .i64 left))] [.a (.lit (.int .i64 (szr left (size_RShare x))))] := by
  refine Sound.of X Try.call103 Try.func103 rfl rfl (by decide) Try.ntmps103 (by simp) ?_
  intro zb
  refine W.seq ?_
  refine W.reg X [] [] [1, 2] [] rfl ⟨⟩ ?_
  refine W.seq ?_
  refine W.reg X [] [(8, ⟨false, [.a (.lit (.int .i64 (szr (left) (size_DB x.share))))]⟩)] [1] [] rfl ⟨c_szDatabase x.share (left) (by omega) (by omega), ⟨⟩⟩ ?_
  refine W.seq ?_
  refine W.seq ?_
  refine W.reg X [] [] [1, 10] [] rfl ⟨⟩ ?_
  refine W.cond rfl (fun hb0 => ?_) (fun hb0 => ?_)
  · try simp only [nb] at hb0
    refine W.seq ?_
    refine W.reg X [] [] [4] [] rfl ⟨⟩ ?_
    refine W.ret ?_
    exact Fin.ret rfl ⟨by rw [szr_lt (by have := szr_neg (by omega) hb0; unfold size_RShare; omega)], ⟨⟩⟩
  · try simp only [nb] at hb0
    obtain ⟨e0, e0'⟩ := szr_pos hb0
    rw [e0]
    refine W.skip ?_
    refine W.seq ?_
    refine W.reg X [] [] [4] [] rfl ⟨⟩ ?_
    refine W.ret ?_
    exact Fin.ret rfl ⟨by rw [szr_ge (by unfold size_RShare; omega)]; first | done | (congr 1; done) | (congr 1; unfold size_RShare; omega), ⟨⟩⟩
theorem c_szReceivedShareS (l : (List RShare)) (left : Int) (h0 : 0 ≤ left) (h1 : left ≤ 1048576) : Sound ty Try.prog 81 [.a (.sl .RShare l), .a (.lit (.int .i64 left))] [.a (.lit (.int .i64 (szr left ((lsz size_RShare) l))))] := by
  refine Sound.of X Try.call81 Try.func81 rfl rfl (by decide) Try.ntmps81 (by simp) ?_
  intro zb
  refine W.bound 0 rfl fun hl => ?_
  refine W.seq ?_
  refine W.reg X [] [] [0, 1] [] rfl ⟨⟩ ?_
  refine W.seq ?_
  refine W.reg X [] [] [0, 1] [] rfl ⟨⟩ ?_
  rw [IntWalk.i64_in (left - (l.length : Nat)) (by omega)]
  refine W.seq ?_
  refine W.seq ?_
  refine W.reg X [] [] [0, 1, 11] [] rfl ⟨⟩ ?_
  refine W.cond rfl (fun hb0 => ?_) (fun hb0 => ?_)
  · try simp only [nb] at hb0
    refine W.seq ?_
    refine W.reg X [] [] [4] [] rfl ⟨⟩ ?_
    refine W.ret ?_
    exact Fin.ret rfl ⟨by rw [szr_lt (by unfold lsz; omega)], ⟨⟩⟩
  · try simp only [nb] at hb0
    refine W.skip ?_
    refine W.seq ?_
    refine W.seq ?_
    refine W.reg X [] [] [0, 1, 5] [] rfl ⟨⟩ ?_
    refine W.block ?_
    refine W.loopO (fun k => k ≤ l.length ∧ (l.length : Int) + (((l.take k).map size_RShare).sum : Nat) ≤ left) (fun k : Nat => [(1, .one (.a (.lit (.int .i64 (left - (l.length : Nat) - (((l.take k).map size_RShare).sum : Nat)))))), (5, .one (.a (.lit (.int .i64 k))))]) (fun k => []) (fun k => l.length - k) 0 (fun k => rfl) ⟨Nat.zero_le _, by simp; omega⟩ (by simp) ?_
    rintro k ⟨hk, hs⟩
    refine W.seq ?_
    refine W.seq ?_
    refine W.reg X [] [] [0, 1, 5, 15] [] rfl ⟨⟩ ?_
    refine W.cond rfl (fun hb1 => ?_) (fun hb1 => ?_)
    · try simp only [nb] at hb1
      have hsum := sum_step size_RShare l (dfl .RShare) k hb1
      have hle := take_sum_le l size_RShare (k + 1)
      refine W.skip ?_
      refine W.seq ?_
      refine W.block ?_
      refine W.seq ?_
      refine W.reg X [] [(23, ⟨false, [.a (.lit (.int .i64 (szr (left - (l.length : Nat) - (((l.take k).map size_RShare).sum : Nat)) (size_RShare (l.getD k (dfl .RShare))))))]⟩)] [0, 1, 5] [] rfl ⟨c_szReceivedShare (l.getD k (dfl .RShare)) _ (by omega) (by omega), by omega, ⟨⟩⟩ ?_
      refine W.seq ?_
      refine W.reg X [] [] [0, 1, 5, 25] [] rfl ⟨⟩ ?_
      refine W.cond rfl (fun hb2 => ?_) (fun hb2 => ?_)
      · try simp only [nb] at hb2
        have hn := szr_neg (by omega) hb2
        refine W.seq ?_
        refine W.reg X [] [] [4] [] rfl ⟨⟩ ?_
        refine W.ret ?_
        exact Fin.ret rfl ⟨by rw [szr_lt (by unfold lsz; omega)], ⟨⟩⟩
      · try simp only [nb] at hb2
        obtain ⟨e2, e3⟩ := szr_pos hb2
        rw [e2]
        refine W.skip ?_
        refine W.reg X [] [] [0, 1, 5] [] rfl ⟨⟩ ?_
        refine ⟨k + 1, ⟨by omega, by omega⟩, by omega, ?_⟩
        rw [wadd _ k rfl (by omega), show left - (l.length : Nat) - (((l.take k).map size_RShare).sum : Nat) - (size_RShare (l.getD k (dfl .RShare)) : Nat) = left - (l.length : Nat) - (((l.take (k + 1)).map size_RShare).sum : Nat) by omega]
    · try simp only [nb] at hb1
      refine W.exit ?_
      refine W.seq ?_
      refine W.reg X [] [] [4] [] rfl ⟨⟩ ?_
      refine W.ret ?_
      have hf : l.take k = l := List.take_of_length_le (by omega)
      rw [hf] at hs
      exact Fin.ret rfl ⟨by rw [hf, szr_ge (by unfold lsz; omega)]; congr 1; unfold lsz; omega, ⟨⟩⟩
theorem c_szServer (x : Srv) (left : Int) (h0 : 0 ≤ left) (h1 : left ≤ 1048576) : Sound ty Try.prog 47 [.agg (dec_Srv x), .a (.lit (.int .i64 left))] [.a (.lit (.int .i64 (szr left (size_Srv x))))] := by
  refine Sound.of X Try.call47 Try.func47 rfl rfl (by decide) Try.ntmps47 (by simp) ?_
  intro zb
  refine W.seq ?_
  refine W.reg X [] [] [1, 2] [] rfl ⟨⟩ ?_
  refine W.seq ?_
  refine W.reg X [] [(8, ⟨false, [.a (.lit (.int .i64 (szr (left) ((lsz size_RShare) x.received))))]⟩)] [1] [] rfl ⟨c_szReceivedShareS x.received (left) (by omega) (by omega), ⟨⟩⟩ ?_
  refine W.seq ?_
  refine W.seq ?_
  refine W.reg X [] [] [1, 10] [] rfl ⟨⟩ ?_
  refine W.cond rfl (fun hb0 => ?_) (fun hb0 => ?_)
  · try simp only [nb] at hb0
    refine W.seq ?_
    refine W.reg X [] [] [4] [] rfl ⟨⟩ ?_
    refine W.ret ?_
    exact Fin.ret rfl ⟨by rw [szr_lt (by have := szr_neg (by omega) hb0; unfold size_Srv; omega)], ⟨⟩⟩
  · try simp only [nb] at hb0
    obtain ⟨e0, e0'⟩ := szr_pos hb0
    rw [e0]
    refine W.skip ?_
    refine W.seq ?_
    refine W.reg X [] [] [4] [] rfl ⟨⟩ ?_
    refine W.ret ?_
    exact Fin.ret rfl ⟨by rw [szr_ge (by unfold size_Srv; omega)]; first | done | (congr 1; done) | (congr 1; unfold size_Srv; omega), ⟨⟩⟩
theorem c_szServerS (l : (List Srv)) (left : Int) (h0 : 0 ≤ left) (h1 : left ≤ 1048576) : Sound ty Try.prog 16 [.a (.sl .Srv l), .a (.lit (.int .i64 left))] [.a (.lit (.int .i64 (szr left ((lsz size_Srv) l))))] := by
  refine Sound.of X Try.call16 Try.func16 rfl rfl (by decide) Try.ntmps16 (by simp) ?_
  intro zb
  refine W.bound 0 rfl fun hl => ?_
  refine W.seq ?_
  refine W.reg X [] [] [0, 1] [] rfl ⟨⟩ ?_
  refine W.seq ?_
  refine W.reg X [] [] [0, 1] [] rfl ⟨⟩ ?_
  rw [IntWalk.i64_in (left - (l.length : Nat)) (by omega)]
  refine W.seq ?_
  refine W.seq ?_
  refine W.reg X [] [] [0, 1, 11] [] rfl ⟨⟩ ?_
  refine W.cond rfl (fun hb0 => ?_) (fun hb0 => ?_)
  · try simp only [nb] at hb0
    refine W.seq ?_
    refine W.reg X [] [] [4] [] rfl ⟨⟩ ?_
    refine W.ret ?_
    exact Fin.ret rfl ⟨by rw [szr_lt (by unfold lsz; omega)], ⟨⟩⟩
  · try simp only [nb] at hb0
    refine W.skip ?_
    refine W.seq ?_
    refine W.seq ?_
    refine W.reg X [] [] [0, 1, 5] [] rfl ⟨⟩ ?_
    refine W.block ?_
    refine W.loopO (fun k => k ≤ l.length ∧ (l.length : Int) + (((l.take k).map size_Srv).sum : Nat) ≤ left) (fun k : Nat => [(1, .one (.a (.lit (.int .i64 (left - (l.length : Nat) - (((l.take k).map size_Srv).sum : Nat)))))), (5, .one (.a (.lit (.int .i64 k))))]) (fun k => []) (fun k => l.length - k) 0 (fun k => rfl) ⟨Nat.zero_le _, by simp; omega⟩ (by simp) ?_
    rintro k ⟨hk, hs⟩
    refine W.seq ?_
    refine W.seq ?_
    refine W.reg X [] [] [0, 1, 5, 15] [] rfl ⟨⟩ ?_
    refine W.cond rfl (fun hb1 => ?_) (fun hb1 => ?_)
    · try simp only [nb] at hb1
      have hsum := sum_step size_Srv l (dfl .Srv) k hb1
      have hle := take_sum_le l size_Srv (k + 1)
      refine W.skip ?_
      refine W.seq ?_
      refine W.block ?_
      refine W.seq ?_
      refine W.reg X [] [(23, ⟨false, [.a (.lit (.int .i64 (szr (left - (l.length : Nat) - (((l.take k).map size_Srv).sum : Nat)) (size_Srv (l.getD k (dfl .Srv))))))]⟩)] [0, 1, 5] [] rfl ⟨c_szServer (l.getD k (dfl .Srv)) _ (by omega) (by omega), by omega, ⟨⟩⟩ ?_
      refine W.seq ?_
      refine W.reg X [] [] [0, 1, 5, 25] [] rfl ⟨⟩ ?_
      refine W.cond rfl (fun hb2 => ?_) (fun hb2 => ?_)
      · try simp only [nb] at hb2
        have hn := szr_neg (by omega) hb2
        refine W.seq ?_
        refine W.reg X [] [] [4] [] rfl ⟨⟩ ?_
        refine W.ret ?_
        exact Fin.ret rfl ⟨by rw [szr_lt (by unfold lsz; omega)], ⟨⟩⟩
      · try simp only [nb] at hb2
        obtain ⟨e2, e3⟩ := szr_pos hb2
        rw [e2]
        refine W.skip ?_
        refine W.reg X [] [] [0, 1, 5] [] rfl ⟨⟩ ?_
        refine ⟨k + 1, ⟨by omega, by omega⟩, by omega, ?_⟩
        rw [wadd _ k rfl (by omega), show left - (l.length : Nat) - (((l.take k).map size_Srv).sum : Nat) - (size_Srv (l.getD k (dfl .Srv)) : Nat) = left - (l.length : Nat) - (((l.take (k + 1)).map size_Srv).sum : Nat) by omega]
    · try simp only [nb] at hb1
      refine W.exit ?_
      refine W.seq ?_
      refine W.reg X [] [] [4] [] rfl ⟨⟩ ?_
      refine W.ret ?_
      have hf : l.take k = l := List.take_of_length_le (by omega)
      rw [hf] at hs
      exact Fin.ret rfl ⟨by rw [hf, szr_ge (by unfold lsz; omega)]; congr 1; unfold lsz; omega, ⟨⟩⟩
theorem c_szWorld (x : Wld) (left : Int) (h0 : 0 ≤ left) (h1 : left ≤ 1048576) : Sound ty Try.prog 5 [.agg (dec_Wld x), .a (.lit (.int .i64 left))] [.a (.lit (.int .i64 (szr left (size_Wld x))))] := by
  refine Sound.of X Try.call5 Try.func5 rfl rfl (by decide) Try.ntmps5 (by simp) ?_
  intro zb
  refine W.seq ?_
  refine W.reg X [] [] [1, 2] [] rfl ⟨⟩ ?_
  refine W.seq ?_
  refine W.reg X [] [(8, ⟨false, [.a (.lit (.int .i64 (szr (left) ((lsz size_Srv) x.servers))))]⟩)] [1, 2] [] rfl ⟨c_szServerS x.servers (left) (by omega) (by omega), ⟨⟩⟩ ?_
  refine W.seq ?_
  refine W.seq ?_
  refine W.reg X [] [] [1, 2, 10] [] rfl ⟨⟩ ?_
  refine W.cond rfl (fun hb0 => ?_) (fun hb0 => ?_)
  · try simp only [nb] at hb0
    refine W.seq ?_
    refine W.reg X [] [] [4] [] rfl ⟨⟩ ?_
    refine W.ret ?_
    exact Fin.ret rfl ⟨by rw [szr_lt (by have := szr_neg (by omega) hb0; unfold size_Wld; omega)], ⟨⟩⟩
  · try simp only [nb] at hb0
    obtain ⟨e0, e0'⟩ := szr_pos hb0
    rw [e0]
    refine W.skip ?_
    refine W.seq ?_
    refine W.reg X [] [(14, ⟨false, [.a (.lit (.int .i64 (szr (left - (((lsz size_Srv) x.servers) : Nat)) ((lsz size_Dev) x.devices))))]⟩)] [1, 2] [] rfl ⟨c_szDeviceS x.devices (left - (((lsz size_Srv) x.servers) : Nat)) (by omega) (by omega), ⟨⟩⟩ ?_
    refine W.seq ?_
    refine W.seq ?_
    refine W.reg X [] [] [1, 2, 16] [] rfl ⟨⟩ ?_
    refine W.cond rfl (fun hb1 => ?_) (fun hb1 => ?_)
    · try simp only [nb] at hb1
      refine W.seq ?_
      refine W.reg X [] [] [4] [] rfl ⟨⟩ ?_
      refine W.ret ?_
      exact Fin.ret rfl ⟨by rw [szr_lt (by have := szr_neg (by omega) hb1; unfold size_Wld; omega)], ⟨⟩⟩
    · try simp only [nb] at hb1
      obtain ⟨e1, e1'⟩ := szr_pos hb1
      rw [e1]
      refine W.skip ?_
      refine W.seq ?_
      refine W.reg X [] [(20, ⟨false, [.a (.lit (.int .i64 (szr (left - (((lsz size_Srv) x.servers) : Nat) - (((lsz size_Dev) x.devices) : Nat)) (size_Arc x.archive))))]⟩)] [1, 2] [] rfl ⟨c_szArchive x.archive (left - (((lsz size_Srv) x.servers) : Nat) - (((lsz size_Dev) x.devices) : Nat)) (by omega) (by omega), ⟨⟩⟩ ?_
      refine W.seq ?_
      refine W.seq ?_
      refine W.reg X [] [] [1, 2, 22] [] rfl ⟨⟩ ?_
      refine W.cond rfl (fun hb2 => ?_) (fun hb2 => ?_)
      · try simp only [nb] at hb2
        refine W.seq ?_
        refine W.reg X [] [] [4] [] rfl ⟨⟩ ?_
        refine W.ret ?_
        exact Fin.ret rfl ⟨by rw [szr_lt (by have := szr_neg (by omega) hb2; unfold size_Wld; omega)], ⟨⟩⟩
      · try simp only [nb] at hb2
        obtain ⟨e2, e2'⟩ := szr_pos hb2
        rw [e2]
        refine W.skip ?_
        refine W.seq ?_
        refine W.reg X [] [(26, ⟨false, [.a (.lit (.int .i64 (szr (left - (((lsz size_Srv) x.servers) : Nat) - (((lsz size_Dev) x.devices) : Nat) - ((size_Arc x.archive) : Nat)) (List.length x.replaced))))]⟩)] [1] [] rfl ⟨c_szIntS x.replaced (left - (((lsz size_Srv) x.servers) : Nat) - (((lsz size_Dev) x.devices) : Nat) - ((size_Arc x.archive) : Nat)) (by omega) (by omega), ⟨⟩⟩ ?_
        refine W.seq ?_
        refine W.seq ?_
        refine W.reg X [] [] [1, 28] [] rfl ⟨⟩ ?_
        refine W.cond rfl (fun hb3 => ?_) (fun hb3 => ?_)
        · try simp only [nb] at hb3
          refine W.seq ?_
          refine W.reg X [] [] [4] [] rfl ⟨⟩ ?_
          refine W.ret ?_
          exact Fin.ret rfl ⟨by rw [szr_lt (by have := szr_neg (by omega) hb3; unfold size_Wld; omega)], ⟨⟩⟩
        · try simp only [nb] at hb3
          obtain ⟨e3, e3'⟩ := szr_pos hb3
          rw [e3]
          refine W.skip ?_
          refine W.seq ?_
          refine W.reg X [] [] [4] [] rfl ⟨⟩ ?_
          refine W.ret ?_
          exact Fin.ret rfl ⟨by rw [szr_ge (by unfold size_Wld; omega)]; first | done | (congr 1; done) | (congr 1; unfold size_Wld; omega), ⟨⟩⟩
end Go.Proofs.Ytlocnjfgeifmnaa.G
namespace Go.Proofs.Ytlocnjfgeifmnaa.G
set_option linter.all false
open Go.RowKit L D
set_option maxRecDepth 100000
theorem c_toByteS (l : (List UInt8)) (hx : (List.length l) ≤ 1048576) : Sound ty Try.prog 122 [.a (.sl .u8 l)] [.a (.sl .u8 l)] := by
  refine Sound.of X Try.call122 Try.func122 rfl rfl (by decide) Try.ntmps122 (by simp) ?_
  intro zb
  have hl : l.length ≤ 1048576 := hx
  refine W.seq ?_
  refine W.reg X [] [] [0] [] rfl ⟨⟩ ?_
  refine W.seq ?_
  refine W.reg X [] [] [0, 3] [] rfl (by (repeat' (first | exact True.intro | apply And.intro)) <;> first | (intros; omega) | exact rfl | (simp only [byt, maxLen, lens]; omega)) ?_
  refine W.seq ?_
  refine W.seq ?_
  refine W.reg X [] [] [0, 3, 4] [] rfl ⟨⟩ ?_
  refine W.block ?_
  refine W.loopO (fun k => k ≤ l.length) (fun k : Nat => [(4, .one (.a (.lit (.int .i64 k))))]) (fun k => [(7, .arr .u8 (l.take k ++ List.replicate (l.length - k) (dfl .u8)))]) (fun k => l.length - k) 0 (fun k => rfl) (Nat.zero_le _) rfl ?_
  intro k hk
  refine W.seq ?_
  refine W.seq ?_
  refine W.reg X [] [] [0, 3, 4, 11] [] rfl ⟨⟩ ?_
  refine W.cond rfl (fun hb0 => ?_) (fun hb0 => ?_)
  · try simp only [nb] at hb0
    have hsl := set_len l (dfl .u8) k (by omega)
    refine W.skip ?_
    refine W.seq ?_
    refine W.block ?_
    refine W.reg X [] [] [0, 3, 4] [] rfl (by (repeat' (first | exact True.intro | apply And.intro)) <;> first | (intros; omega) | exact (u8n _).2) ?_
    have e1 := set_step l (dfl .u8) k hb0
    refine W.reg X [] [] [0, 3, 4] [] rfl ⟨⟩ ?_
    refine ⟨k + 1, by omega, by omega, ?_⟩
    rw [u8_back]
    rw [wadd _ k rfl (by omega), ← e1]
    try rfl
  · try simp only [nb] at hb0
    refine W.exit ?_
    refine W.seq ?_
    refine W.reg X [] [] [2] [] rfl ⟨⟩ ?_
    refine W.ret ?_
    exact Fin.ret rfl ⟨by rw [List.take_of_length_le (by omega), show l.length - k = 0 by omega, List.replicate_zero, List.append_nil], ⟨⟩⟩
theorem c_toByteSS (l : (List (List UInt8))) (hx : ((lsz List.length) l) ≤ 1048576) : Sound ty Try.prog 107 [.a (.sl (.sl .u8) l)] [.a (.sl (.sl .u8) l)] := by
  refine Sound.of X Try.call107 Try.func107 rfl rfl (by decide) Try.ntmps107 (by simp) ?_
  intro zb
  have hl : l.length ≤ 1048576 := lsz_len hx
  refine W.seq ?_
  refine W.reg X [] [] [0] [] rfl ⟨⟩ ?_
  refine W.seq ?_
  refine W.reg X [] [] [0, 3] [] rfl (by (repeat' (first | exact True.intro | apply And.intro)) <;> first | (intros; omega) | exact rfl | (simp only [byt, maxLen, lens]; omega)) ?_
  refine W.seq ?_
  refine W.seq ?_
  refine W.reg X [] [] [0, 3, 4] [] rfl ⟨⟩ ?_
  refine W.block ?_
  refine W.loopO (fun k => k ≤ l.length) (fun k : Nat => [(4, .one (.a (.lit (.int .i64 k))))]) (fun k => [(7, .arr (.sl .u8) (l.take k ++ List.replicate (l.length - k) (dfl (.sl .u8))))]) (fun k => l.length - k) 0 (fun k => rfl) (Nat.zero_le _) rfl ?_
  intro k hk
  refine W.seq ?_
  refine W.seq ?_
  refine W.reg X [] [] [0, 3, 4, 11] [] rfl ⟨⟩ ?_
  refine W.cond rfl (fun hb0 => ?_) (fun hb0 => ?_)
  · try simp only [nb] at hb0
    have hsl := set_len l (dfl (.sl .u8)) k (by omega)
    refine W.skip ?_
    refine W.seq ?_
    refine W.block ?_
    refine W.reg X [(20, 300)] [(20, ⟨true, [.a (.sl .u8 (l.getD k (dfl (.sl .u8))))]⟩)] [0, 3, 4] [] rfl (by (repeat' (first | with_reducible exact AllP.nil | with_reducible refine AllP.mk ?_ ?_ | with_reducible apply And.intro)) <;> skip; (iterate 1 (all_goals try (first | exact c_toByteS (l.getD k (dfl (.sl .u8))) (lsz_mem hx (getD_some l _ k hb0))))); all_goals (first | (intros; omega))) ?_
    have e1 := set_step l (dfl (.sl .u8)) k hb0
    refine W.reg X [] [] [0, 3, 4] [] rfl ⟨⟩ ?_
    refine ⟨k + 1, by omega, by omega, ?_⟩
    rw [wadd _ k rfl (by omega), ← e1]
    try rfl
  · try simp only [nb] at hb0
    refine W.exit ?_
    refine W.seq ?_
    refine W.reg X [] [] [2] [] rfl ⟨⟩ ?_
    refine W.ret ?_
    exact Fin.ret rfl ⟨by rw [List.take_of_length_le (by omega), show l.length - k = 0 by omega, List.replicate_zero, List.append_nil], ⟨⟩⟩
theorem c_toDatabase (x : DB) (hx : size_DB x ≤ 1048576) : Sound ty Try.prog 108 [.agg (dec_DB x)] [.agg (dec_DB x)] := by
  refine Sound.of X Try.call108 Try.func108 rfl rfl (by decide) Try.ntmps108 (by simp) ?_
  intro zb
  have hx2 := hx
  unfold size_DB at hx2
  refine W.seq ?_
  refine W.reg X [] [] [1, 2] [] rfl ⟨⟩ ?_
  refine W.seq ?_
  refine W.reg X [] [] [1, 2, 3] [] rfl ⟨⟩ ?_
  refine W.seq ?_
  refine W.reg X [(6, 230)] [(6, ⟨true, [.a (.sl (.sl .u8) x.rows)]⟩)] [2, 3] [] rfl ⟨c_toByteSS x.rows (by omega), ⟨⟩⟩ ?_
  refine W.seq ?_
  refine W.reg X [] [] [2] [] rfl (by (repeat' (first | exact True.intro | apply And.intro))) ?_
  refine W.ret ?_
  exact Fin.ret rfl (by (repeat' (first | exact True.intro | apply And.intro)) <;> rfl)
theorem c_toArchivedRound (x : ARound) (hx : size_ARound x ≤ 1048576) : Sound ty Try.prog 88 [.agg (dec_ARound x)] [.agg (dec_ARound x)] := by
  refine Sound.of X Try.call88 Try.func88 rfl rfl (by decide) Try.ntmps88 (by simp) ?_
  intro zb
  have hx2 := hx
  unfold size_ARound at hx2
  refine W.seq ?_
  refine W.reg X [] [] [1, 2] [] rfl ⟨⟩ ?_
  refine W.seq ?_
  refine W.reg X [] [] [1, 2, 3] [] rfl ⟨⟩ ?_
  refine W.seq ?_
  refine W.reg X [] [] [1, 2, 3] [] rfl ⟨⟩ ?_
  refine W.seq ?_
  refine W.reg X [(9, 230)] [(9, ⟨true, [.agg (dec_DB x.db)]⟩)] [2, 3] [] rfl ⟨c_toDatabase x.db (by omega), ⟨⟩⟩ ?_
  refine W.seq ?_
  refine W.reg X [] [] [2] [] rfl (by (repeat' (first | exact True.intro | apply And.intro))) ?_
  refine W.ret ?_
  exact Fin.ret rfl (by (repeat' (first | exact True.intro | apply And.intro)) <;> rfl)
theorem c_toArchivedRoundS (l : (List ARound)) (hx : ((lsz size_ARound) l) ≤ 1048576) : Sound ty Try.prog 55 [.a (.sl .ARound l)] [.a (.sl .ARound l)] := by
  refine Sound.of X Try.call55 Try.func55 rfl rfl (by decide) Try.ntmps55 (by simp) ?_
  intro zb
  have hl : l.length ≤ 1048576 := lsz_len hx
  refine W.seq ?_
  refine W.reg X [] [] [0] [] rfl ⟨⟩ ?_
  refine W.seq ?_
  refine W.reg X [] [] [0, 3] [] rfl (by (repeat' (first | exact True.intro | apply And.intro)) <;> first | (intros; omega) | exact rfl | (simp only [byt, maxLen, lens]; omega)) ?_
  refine W.seq ?_
  refine W.seq ?_
  refine W.reg X [] [] [0, 3, 4] [] rfl ⟨⟩ ?_
  refine W.block ?_
  refine W.loopO (fun k => k ≤ l.length) (fun k : Nat => [(4, .one (.a (.lit (.int .i64 k))))]) (fun k => [(7, .arr .ARound (l.take k ++ List.replicate (l.length - k) (dfl .ARound)))]) (fun k => l.length - k) 0 (fun k => rfl) (Nat.zero_le _) rfl ?_
  intro k hk
  refine W.seq ?_
  refine W.seq ?_
  refine W.reg X [] [] [0, 3, 4, 11] [] rfl ⟨⟩ ?_
  refine W.cond rfl (fun hb0 => ?_) (fun hb0 => ?_)
  · try simp only [nb] at hb0
    have hsl := set_len l (dfl .ARound) k (by omega)
    refine W.skip ?_
    refine W.seq ?_
    refine W.block ?_
    refine W.reg X [(20, 300)] [(20, ⟨true, [.agg (dec_ARound (l.getD k (dfl .ARound)))]⟩)] [0, 3, 4] [] rfl (by (repeat' (first | with_reducible exact AllP.nil | with_reducible refine AllP.mk ?_ ?_ | with_reducible apply And.intro)) <;> skip; (iterate 1 (all_goals try (first | exact c_toArchivedRound (l.getD k (dfl .ARound)) (lsz_mem hx (getD_some l _ k hb0))))); all_goals (first | (intros; omega))) ?_
    have e1 := set_step l (dfl .ARound) k hb0
    refine W.reg X [] [] [0, 3, 4] [] rfl ⟨⟩ ?_
    refine ⟨k + 1, by omega, by omega, ?_⟩
    rw [wadd _ k rfl (by omega), ← e1]
    try rfl
  · try simp only [nb] at hb0
    refine W.exit ?_
    refine W.seq ?_
    refine W.reg X [] [] [2] [] rfl ⟨⟩ ?_
    refine W.ret ?_
    exact Fin.ret rfl ⟨by rw [List.take_of_length_le (by omega), show l.length - k = 0 by omega, List.replicate_zero, List.append_nil], ⟨⟩⟩
theorem c_toArchive (x : Arc) (hx : size_Arc x ≤ 1048576) : Sound ty Try.prog 25 [.agg (dec_Arc x)] [.agg (dec_Arc x)] := by
  refine Sound.of X Try.call25 Try.func25 rfl rfl (by decide) Try.ntmps25 (by simp) ?_
  intro zb
  have hx2 := hx
  unfold size_Arc at hx2
  refine W.seq ?_
  refine W.reg X [] [] [1, 2] [] rfl ⟨⟩ ?_
  refine W.seq ?_
  refine W.reg X [] [] [1, 2, 3] [] rfl ⟨⟩ ?_
  refine W.seq ?_
  refine W.reg X [] [] [1, 2, 3] [] rfl ⟨⟩ ?_
  refine W.seq ?_
  refine W.reg X [(9, 230)] [(9, ⟨true, [.a (.sl .ARound x.rounds)]⟩)] [2, 3] [] rfl ⟨c_toArchivedRoundS x.rounds (by omega), ⟨⟩⟩ ?_
  refine W.seq ?_
  refine W.reg X [] [] [2] [] rfl (by (repeat' (first | exact True.intro | apply And.intro))) ?_
  refine W.ret ?_
  exact Fin.ret rfl (by (repeat' (first | exact True.intro | apply And.intro)) <;> rfl)
theorem c_toClient (x : Cli) (hx : size_Cli x ≤ 1048576) : Sound ty Try.prog 87 [.agg (dec_Cli x)] [.agg (dec_Cli x)] := by
  refine Sound.of X Try.call87 Try.func87 rfl rfl (by decide) Try.ntmps87 (by simp) ?_
  intro zb
  have hx2 := hx
  unfold size_Cli at hx2
  refine W.seq ?_
  refine W.reg X [] [] [1, 2] [] rfl ⟨⟩ ?_
  refine W.seq ?_
  refine W.reg X [] [] [1, 2, 3] [] rfl ⟨⟩ ?_
  refine W.seq ?_
  refine W.reg X [] [] [1, 2, 3] [] rfl ⟨⟩ ?_
  refine W.seq ?_
  refine W.reg X [] [] [1, 2, 3] [] rfl ⟨⟩ ?_
  refine W.seq ?_
  refine W.reg X [] [] [1, 2, 3] [] rfl ⟨⟩ ?_
  refine W.seq ?_
  refine W.reg X [] [] [1, 2, 3] [] rfl ⟨⟩ ?_
  refine W.seq ?_
  refine W.reg X [(18, 230)] [(18, ⟨true, [.a (.sl (.sl .u8) x.submitted)]⟩)] [1, 2, 3] [] rfl ⟨c_toByteSS x.submitted (by omega), ⟨⟩⟩ ?_
  refine W.seq ?_
  refine W.reg X [] [] [1, 2, 3] [] rfl ⟨⟩ ?_
  refine W.seq ?_
  refine W.reg X [(25, 260)] [(25, ⟨true, [.a (.sl (.sl .u8) x.inbox)]⟩)] [1, 2, 3] [] rfl ⟨c_toByteSS x.inbox (by omega), ⟨⟩⟩ ?_
  refine W.seq ?_
  refine W.reg X [] [] [2, 3] [] rfl ⟨⟩ ?_
  refine W.seq ?_
  refine W.reg X [] [] [2] [] rfl (by (repeat' (first | exact True.intro | apply And.intro))) ?_
  refine W.ret ?_
  exact Fin.ret rfl (by (repeat' (first | exact True.intro | apply And.intro)) <;> rfl)
theorem c_toDevice (x : Dev) (hx : size_Dev x ≤ 1048576) : Sound ty Try.prog 54 [.agg (dec_Dev x)] [.agg (dec_Dev x)] := by
  refine Sound.of X Try.call54 Try.func54 rfl rfl (by decide) Try.ntmps54 (by simp) ?_
  intro zb
  have hx2 := hx
  unfold size_Dev at hx2
  refine W.seq ?_
  refine W.reg X [] [] [1, 2] [] rfl ⟨⟩ ?_
  refine W.seq ?_
  refine W.reg X [] [] [1, 2, 3] [] rfl ⟨⟩ ?_
  refine W.seq ?_
  refine W.reg X [(6, 230)] [(6, ⟨true, [.agg (dec_Cli x.live)]⟩)] [1, 2, 3] [] rfl ⟨c_toClient x.live (by omega), ⟨⟩⟩ ?_
  refine W.seq ?_
  refine W.reg X [(10, 260)] [(10, ⟨true, [.agg (dec_Cli x.saved)]⟩)] [2, 3] [] rfl ⟨c_toClient x.saved (by omega), ⟨⟩⟩ ?_
  refine W.seq ?_
  refine W.reg X [] [] [2] [] rfl (by (repeat' (first | exact True.intro | apply And.intro))) ?_
  refine W.ret ?_
  exact Fin.ret rfl (by (repeat' (first | exact True.intro | apply And.intro)) <;> rfl)
theorem c_toDeviceS (l : (List Dev)) (hx : ((lsz size_Dev) l) ≤ 1048576) : Sound ty Try.prog 24 [.a (.sl .Dev l)] [.a (.sl .Dev l)] := by
  refine Sound.of X Try.call24 Try.func24 rfl rfl (by decide) Try.ntmps24 (by simp) ?_
  intro zb
  have hl : l.length ≤ 1048576 := lsz_len hx
  refine W.seq ?_
  refine W.reg X [] [] [0] [] rfl ⟨⟩ ?_
  refine W.seq ?_
  refine W.reg X [] [] [0, 3] [] rfl (by (repeat' (first | exact True.intro | apply And.intro)) <;> first | (intros; omega) | exact rfl | (simp only [byt, maxLen, lens]; omega)) ?_
  refine W.seq ?_
  refine W.seq ?_
  refine W.reg X [] [] [0, 3, 4] [] rfl ⟨⟩ ?_
  refine W.block ?_
  refine W.loopO (fun k => k ≤ l.length) (fun k : Nat => [(4, .one (.a (.lit (.int .i64 k))))]) (fun k => [(7, .arr .Dev (l.take k ++ List.replicate (l.length - k) (dfl .Dev)))]) (fun k => l.length - k) 0 (fun k => rfl) (Nat.zero_le _) rfl ?_
  intro k hk
  refine W.seq ?_
  refine W.seq ?_
  refine W.reg X [] [] [0, 3, 4, 11] [] rfl ⟨⟩ ?_
  refine W.cond rfl (fun hb0 => ?_) (fun hb0 => ?_)
  · try simp only [nb] at hb0
    have hsl := set_len l (dfl .Dev) k (by omega)
    refine W.skip ?_
    refine W.seq ?_
    refine W.block ?_
    refine W.reg X [(20, 300)] [(20, ⟨true, [.agg (dec_Dev (l.getD k (dfl .Dev)))]⟩)] [0, 3, 4] [] rfl (by (repeat' (first | with_reducible exact AllP.nil | with_reducible refine AllP.mk ?_ ?_ | with_reducible apply And.intro)) <;> skip; (iterate 1 (all_goals try (first | exact c_toDevice (l.getD k (dfl .Dev)) (lsz_mem hx (getD_some l _ k hb0))))); all_goals (first | (intros; omega))) ?_
    have e1 := set_step l (dfl .Dev) k hb0
    refine W.reg X [] [] [0, 3, 4] [] rfl ⟨⟩ ?_
    refine ⟨k + 1, by omega, by omega, ?_⟩
    rw [wadd _ k rfl (by omega), ← e1]
    try rfl
  · try simp only [nb] at hb0
    refine W.exit ?_
    refine W.seq ?_
    refine W.reg X [] [] [2] [] rfl ⟨⟩ ?_
    refine W.ret ?_
    exact Fin.ret rfl ⟨by rw [List.take_of_length_le (by omega), show l.length - k = 0 by omega, List.replicate_zero, List.append_nil], ⟨⟩⟩
theorem c_toIntS (l : (List Int)) (hx : (List.length l) ≤ 1048576) : Sound ty Try.prog 26 [.a (.sl .int l)] [.a (.sl .int l)] := by
  refine Sound.of X Try.call26 Try.func26 rfl rfl (by decide) Try.ntmps26 (by simp) ?_
  intro zb
  have hl : l.length ≤ 1048576 := hx
  refine W.seq ?_
  refine W.reg X [] [] [0] [] rfl ⟨⟩ ?_
  refine W.seq ?_
  refine W.reg X [] [] [0, 3] [] rfl (by (repeat' (first | exact True.intro | apply And.intro)) <;> first | (intros; omega) | exact rfl | (simp only [byt, maxLen, lens]; omega)) ?_
  refine W.seq ?_
  refine W.seq ?_
  refine W.reg X [] [] [0, 3, 4] [] rfl ⟨⟩ ?_
  refine W.block ?_
  refine W.loopO (fun k => k ≤ l.length) (fun k : Nat => [(4, .one (.a (.lit (.int .i64 k))))]) (fun k => [(7, .arr .int (l.take k ++ List.replicate (l.length - k) (dfl .int)))]) (fun k => l.length - k) 0 (fun k => rfl) (Nat.zero_le _) rfl ?_
  intro k hk
  refine W.seq ?_
  refine W.seq ?_
  refine W.reg X [] [] [0, 3, 4, 11] [] rfl ⟨⟩ ?_
  refine W.cond rfl (fun hb0 => ?_) (fun hb0 => ?_)
  · try simp only [nb] at hb0
    have hsl := set_len l (dfl .int) k (by omega)
    refine W.skip ?_
    refine W.seq ?_
    refine W.block ?_
    refine W.reg X [] [] [0, 3, 4] [] rfl (by (repeat' (first | exact True.intro | apply And.intro)) <;> first | (intros; omega)) ?_
    have e1 := set_step l (dfl .int) k hb0
    refine W.reg X [] [] [0, 3, 4] [] rfl ⟨⟩ ?_
    refine ⟨k + 1, by omega, by omega, ?_⟩
    rw [wadd _ k rfl (by omega), ← e1]
    try rfl
  · try simp only [nb] at hb0
    refine W.exit ?_
    refine W.seq ?_
    refine W.reg X [] [] [2] [] rfl ⟨⟩ ?_
    refine W.ret ?_
    exact Fin.ret rfl ⟨by rw [List.take_of_length_le (by omega), show l.length - k = 0 by omega, List.replicate_zero, List.append_nil], ⟨⟩⟩
theorem c_toReceivedShare (x : RShare) (hx : size_RShare x ≤ 1048576) : Sound ty Try.prog 106 [.agg (dec_RShare x)] [.agg (dec_RShare x)] := by
  refine Sound.of X Try.call106 Try.func106 rfl rfl (by decide) Try.ntmps106 (by simp) ?_
  intro zb
  have hx2 := hx
  unfold size_RShare at hx2
  refine W.seq ?_
  refine W.reg X [] [] [1, 2] [] rfl ⟨⟩ ?_
  refine W.seq ?_
  refine W.reg X [] [] [1, 2, 3] [] rfl ⟨⟩ ?_
  refine W.seq ?_
  refine W.reg X [] [] [1, 2, 3] [] rfl ⟨⟩ ?_
  refine W.seq ?_
  refine W.reg X [(9, 230)] [(9, ⟨true, [.agg (dec_DB x.share)]⟩)] [2, 3] [] rfl ⟨c_toDatabase x.share (by omega), ⟨⟩⟩ ?_
  refine W.seq ?_
  refine W.reg X [] [] [2] [] rfl (by (repeat' (first | exact True.intro | apply And.intro))) ?_
  refine W.ret ?_
  exact Fin.ret rfl (by (repeat' (first | exact True.intro | apply And.intro)) <;> rfl)
theorem c_toReceivedShareS (l : (List RShare)) (hx : ((lsz size_RShare) l) ≤ 1048576) : Sound ty Try.prog 86 [.a (.sl .RShare l)] [.a (.sl .RShare l)] := by
  refine Sound.of X Try.call86 Try.func86 rfl rfl (by decide) Try.ntmps86 (by simp) ?_
  intro zb
  have hl : l.length ≤ 1048576 := lsz_len hx
  refine W.seq ?_
  refine W.reg X [] [] [0] [] rfl ⟨⟩ ?_
  refine W.seq ?_
  refine W.reg X [] [] [0, 3] [] rfl (by (repeat' (first | exact True.intro | apply And.intro)) <;> first | (intros; omega) | exact rfl | (simp only [byt, maxLen, lens]; omega)) ?_
  refine W.seq ?_
  refine W.seq ?_
  refine W.reg X [] [] [0, 3, 4] [] rfl ⟨⟩ ?_
  refine W.block ?_
  refine W.loopO (fun k => k ≤ l.length) (fun k : Nat => [(4, .one (.a (.lit (.int .i64 k))))]) (fun k => [(7, .arr .RShare (l.take k ++ List.replicate (l.length - k) (dfl .RShare)))]) (fun k => l.length - k) 0 (fun k => rfl) (Nat.zero_le _) rfl ?_
  intro k hk
  refine W.seq ?_
  refine W.seq ?_
  refine W.reg X [] [] [0, 3, 4, 11] [] rfl ⟨⟩ ?_
  refine W.cond rfl (fun hb0 => ?_) (fun hb0 => ?_)
  · try simp only [nb] at hb0
    have hsl := set_len l (dfl .RShare) k (by omega)
    refine W.skip ?_
    refine W.seq ?_
    refine W.block ?_
    refine W.reg X [(20, 300)] [(20, ⟨true, [.agg (dec_RShare (l.getD k (dfl .RShare)))]⟩)] [0, 3, 4] [] rfl (by (repeat' (first | with_reducible exact AllP.nil | with_reducible refine AllP.mk ?_ ?_ | with_reducible apply And.intro)) <;> skip; (iterate 1 (all_goals try (first | exact c_toReceivedShare (l.getD k (dfl .RShare)) (lsz_mem hx (getD_some l _ k hb0))))); all_goals (first | (intros; omega))) ?_
    have e1 := set_step l (dfl .RShare) k hb0
    refine W.reg X [] [] [0, 3, 4] [] rfl ⟨⟩ ?_
    refine ⟨k + 1, by omega, by omega, ?_⟩
    rw [wadd _ k rfl (by omega), ← e1]
    try rfl
  · try simp only [nb] at hb0
    refine W.exit ?_
    refine W.seq ?_
    refine W.reg X [] [] [2] [] rfl ⟨⟩ ?_
    refine W.ret ?_
    exact Fin.ret rfl ⟨by rw [List.take_of_length_le (by omega), show l.length - k = 0 by omega, List.replicate_zero, List.append_nil], ⟨⟩⟩
theorem c_toServer (x : Srv) (hx : size_Srv x ≤ 1048576) : Sound ty Try.prog 53 [.agg (dec_Srv x)] [.agg (dec_Srv x)] := by
  refine Sound.of X Try.call53 Try.func53 rfl rfl (by decide) Try.ntmps53 (by simp) ?_
  intro zb
  have hx2 := hx
  unfold size_Srv at hx2
  refine W.seq ?_
  refine W.reg X [] [] [1, 2] [] rfl ⟨⟩ ?_
  refine W.seq ?_
  refine W.reg X [] [] [1, 2, 3] [] rfl ⟨⟩ ?_
  refine W.seq ?_
  refine W.reg X [] [] [1, 2, 3] [] rfl ⟨⟩ ?_
  refine W.seq ?_
  refine W.reg X [] [] [1, 2, 3] [] rfl ⟨⟩ ?_
  refine W.seq ?_
  refine W.reg X [] [] [1, 2, 3] [] rfl ⟨⟩ ?_
  refine W.seq ?_
  refine W.reg X [(15, 230)] [(15, ⟨true, [.a (.sl .RShare x.received)]⟩)] [1, 2, 3] [] rfl ⟨c_toReceivedShareS x.received (by omega), ⟨⟩⟩ ?_
  refine W.seq ?_
  refine W.reg X [] [] [2, 3] [] rfl ⟨⟩ ?_
  refine W.seq ?_
  refine W.reg X [] [] [2] [] rfl (by (repeat' (first | exact True.intro | apply And.intro))) ?_
  refine W.ret ?_
  exact Fin.ret rfl (by (repeat' (first | exact True.intro | apply And.intro)) <;> rfl)
theorem c_toServerS (l : (List Srv)) (hx : ((lsz size_Srv) l) ≤ 1048576) : Sound ty Try.prog 23 [.a (.sl .Srv l)] [.a (.sl .Srv l)] := by
  refine Sound.of X Try.call23 Try.func23 rfl rfl (by decide) Try.ntmps23 (by simp) ?_
  intro zb
  have hl : l.length ≤ 1048576 := lsz_len hx
  refine W.seq ?_
  refine W.reg X [] [] [0] [] rfl ⟨⟩ ?_
  refine W.seq ?_
  refine W.reg X [] [] [0, 3] [] rfl (by (repeat' (first | exact True.intro | apply And.intro)) <;> first | (intros; omega) | exact rfl | (simp only [byt, maxLen, lens]; omega)) ?_
  refine W.seq ?_
  refine W.seq ?_
  refine W.reg X [] [] [0, 3, 4] [] rfl ⟨⟩ ?_
  refine W.block ?_
  refine W.loopO (fun k => k ≤ l.length) (fun k : Nat => [(4, .one (.a (.lit (.int .i64 k))))]) (fun k => [(7, .arr .Srv (l.take k ++ List.replicate (l.length - k) (dfl .Srv)))]) (fun k => l.length - k) 0 (fun k => rfl) (Nat.zero_le _) rfl ?_
  intro k hk
  refine W.seq ?_
  refine W.seq ?_
  refine W.reg X [] [] [0, 3, 4, 11] [] rfl ⟨⟩ ?_
  refine W.cond rfl (fun hb0 => ?_) (fun hb0 => ?_)
  · try simp only [nb] at hb0
    have hsl := set_len l (dfl .Srv) k (by omega)
    refine W.skip ?_
    refine W.seq ?_
    refine W.block ?_
    refine W.reg X [(20, 300)] [(20, ⟨true, [.agg (dec_Srv (l.getD k (dfl .Srv)))]⟩)] [0, 3, 4] [] rfl (by (repeat' (first | with_reducible exact AllP.nil | with_reducible refine AllP.mk ?_ ?_ | with_reducible apply And.intro)) <;> skip; (iterate 1 (all_goals try (first | exact c_toServer (l.getD k (dfl .Srv)) (lsz_mem hx (getD_some l _ k hb0))))); all_goals (first | (intros; omega))) ?_
    have e1 := set_step l (dfl .Srv) k hb0
    refine W.reg X [] [] [0, 3, 4] [] rfl ⟨⟩ ?_
    refine ⟨k + 1, by omega, by omega, ?_⟩
    rw [wadd _ k rfl (by omega), ← e1]
    try rfl
  · try simp only [nb] at hb0
    refine W.exit ?_
    refine W.seq ?_
    refine W.reg X [] [] [2] [] rfl ⟨⟩ ?_
    refine W.ret ?_
    exact Fin.ret rfl ⟨by rw [List.take_of_length_le (by omega), show l.length - k = 0 by omega, List.replicate_zero, List.append_nil], ⟨⟩⟩
theorem c_toWorld (x : Wld) (hx : size_Wld x ≤ 1048576) : Sound ty Try.prog 7 [.agg (dec_Wld x)] [.agg (dec_Wld x)] := by
  refine Sound.of X Try.call7 Try.func7 rfl rfl (by decide) Try.ntmps7 (by simp) ?_
  intro zb
  have hx2 := hx
  unfold size_Wld at hx2
  refine W.seq ?_
  refine W.reg X [] [] [1, 2] [] rfl ⟨⟩ ?_
  refine W.seq ?_
  refine W.reg X [] [] [1, 2, 3] [] rfl ⟨⟩ ?_
  refine W.seq ?_
  refine W.reg X [] [] [1, 2, 3] [] rfl ⟨⟩ ?_
  refine W.seq ?_
  refine W.reg X [(9, 230)] [(9, ⟨true, [.a (.sl .Srv x.servers)]⟩)] [1, 2, 3] [] rfl ⟨c_toServerS x.servers (by omega), ⟨⟩⟩ ?_
  refine W.seq ?_
  refine W.reg X [(13, 260)] [(13, ⟨true, [.a (.sl .Dev x.devices)]⟩)] [1, 2, 3] [] rfl ⟨c_toDeviceS x.devices (by omega), ⟨⟩⟩ ?_
  refine W.seq ?_
  refine W.reg X [(17, 290)] [(17, ⟨true, [.agg (dec_Arc x.archive)]⟩)] [1, 2, 3] [] rfl ⟨c_toArchive x.archive (by omega), ⟨⟩⟩ ?_
  refine W.seq ?_
  refine W.reg X [] [] [1, 2, 3] [] rfl ⟨⟩ ?_
  refine W.seq ?_
  refine W.reg X [] [] [1, 2, 3] [] rfl ⟨⟩ ?_
  refine W.seq ?_
  refine W.reg X [] [] [1, 2, 3] [] rfl ⟨⟩ ?_
  refine W.seq ?_
  refine W.reg X [(30, 320)] [(30, ⟨true, [.a (.sl .int x.replaced)]⟩)] [1, 2, 3] [] rfl ⟨c_toIntS x.replaced (by omega), ⟨⟩⟩ ?_
  refine W.seq ?_
  refine W.reg X [] [] [2, 3] [] rfl ⟨⟩ ?_
  refine W.seq ?_
  refine W.reg X [] [] [2] [] rfl (by (repeat' (first | exact True.intro | apply And.intro))) ?_
  refine W.ret ?_
  exact Fin.ret rfl (by (repeat' (first | exact True.intro | apply And.intro)) <;> rfl)
end Go.Proofs.Ytlocnjfgeifmnaa.G
namespace Go.Proofs.Ytlocnjfgeifmnaa.G
set_option linter.all false
open Go.RowKit L D
set_option maxRecDepth 100000
theorem c_eqByteS (l : (List UInt8)) : Sound ty Try.prog 123 [.a (.sl .u8 l), .a (.sl .u8 l)] [.a (.lit (.bool true))] := by
  refine Sound.of X Try.call123 Try.func123 rfl rfl (by decide) Try.ntmps123 (by simp) ?_
  intro zb
  refine W.bound 0 rfl fun hl => ?_
  refine W.seq ?_
  refine W.reg X [] [] [0, 1] [] rfl ⟨⟩ ?_
  refine W.seq ?_
  refine W.seq ?_
  refine W.reg X [] [] [0, 1, 10] [] rfl ⟨⟩ ?_
  refine W.cond rfl (fun hb0 => ?_) (fun hb0 => ?_)
  · exact absurd hb0 (by simp)
  · clear hb0
    refine W.skip ?_
    refine W.seq ?_
    refine W.seq ?_
    refine W.reg X [] [] [0, 1, 5] [] rfl ⟨⟩ ?_
    refine W.block ?_
    refine W.loopO (fun k => k ≤ l.length) (fun k : Nat => [(5, .one (.a (.lit (.int .i64 k))))]) (fun k => []) (fun k => l.length - k) 0 (fun k => rfl) (Nat.zero_le _) rfl ?_
    intro k hk
    refine W.seq ?_
    refine W.seq ?_
    refine W.reg X [] [] [0, 1, 5, 14] [] rfl ⟨⟩ ?_
    refine W.cond rfl (fun hb1 => ?_) (fun hb1 => ?_)
    · try simp only [nb] at hb1
      refine W.skip ?_
      refine W.seq ?_
      refine W.block ?_
      refine W.seq ?_
      refine W.draw X [] [] [0, 1, 5, 25] [] 9 MO (by kernel_rfl) rfl (by (repeat' (first | exact True.intro | apply And.intro)) <;> first | (intros; omega)) ?_
      refine W.cond rfl (fun hb2 => ?_) (fun hb2 => ?_)
      · exact absurd hb2 (by simp)
      · clear hb2
        refine W.skip ?_
        refine W.reg X [] [] [0, 1, 5] [] rfl ⟨⟩ ?_
        refine ⟨k + 1, by omega, by omega, ?_⟩
        rw [wadd _ k rfl (by omega)]
        try rfl
    · try simp only [nb] at hb1
      refine W.exit ?_
      refine W.seq ?_
      refine W.reg X [] [] [4] [] rfl ⟨⟩ ?_
      refine W.ret ?_
      exact Fin.ret rfl ⟨rfl, ⟨⟩⟩
theorem c_eqByteSS (l : (List (List UInt8))) : Sound ty Try.prog 110 [.a (.sl (.sl .u8) l), .a (.sl (.sl .u8) l)] [.a (.lit (.bool true))] := by
  refine Sound.of X Try.call110 Try.func110 rfl rfl (by decide) Try.ntmps110 (by simp) ?_
  intro zb
  refine W.bound 0 rfl fun hl => ?_
  refine W.seq ?_
  refine W.reg X [] [] [0, 1] [] rfl ⟨⟩ ?_
  refine W.seq ?_
  refine W.seq ?_
  refine W.reg X [] [] [0, 1, 10] [] rfl ⟨⟩ ?_
  refine W.cond rfl (fun hb0 => ?_) (fun hb0 => ?_)
  · exact absurd hb0 (by simp)
  · clear hb0
    refine W.skip ?_
    refine W.seq ?_
    refine W.seq ?_
    refine W.reg X [] [] [0, 1, 5] [] rfl ⟨⟩ ?_
    refine W.block ?_
    refine W.loopO (fun k => k ≤ l.length) (fun k : Nat => [(5, .one (.a (.lit (.int .i64 k))))]) (fun k => []) (fun k => l.length - k) 0 (fun k => rfl) (Nat.zero_le _) rfl ?_
    intro k hk
    refine W.seq ?_
    refine W.seq ?_
    refine W.reg X [] [] [0, 1, 5, 14] [] rfl ⟨⟩ ?_
    refine W.cond rfl (fun hb1 => ?_) (fun hb1 => ?_)
    · try simp only [nb] at hb1
      refine W.skip ?_
      refine W.seq ?_
      refine W.block ?_
      refine W.seq ?_
      refine W.draw X [] [(25, ⟨false, [.a (.lit (.bool true))]⟩)] [0, 1, 5, 26] [] 10 MO (by kernel_rfl) rfl ⟨c_eqByteS (l.getD k (dfl (.sl .u8))), by omega, by omega, ⟨⟩⟩ ?_
      refine W.cond rfl (fun hb2 => ?_) (fun hb2 => ?_)
      · exact absurd hb2 (by simp)
      · clear hb2
        refine W.skip ?_
        refine W.reg X [] [] [0, 1, 5] [] rfl ⟨⟩ ?_
        refine ⟨k + 1, by omega, by omega, ?_⟩
        rw [wadd _ k rfl (by omega)]
        try rfl
    · try simp only [nb] at hb1
      refine W.exit ?_
      refine W.seq ?_
      refine W.reg X [] [] [4] [] rfl ⟨⟩ ?_
      refine W.ret ?_
      exact Fin.ret rfl ⟨rfl, ⟨⟩⟩
theorem c_eqDatabase (x : DB) : Sound ty Try.prog 111 [.agg (dec_DB x), .agg (dec_DB x)] [.a (.lit (.bool true))] := by
  refine Sound.of X Try.call111 Try.func111 rfl rfl (by decide) Try.ntmps111 (by simp) ?_
  intro zb
  refine W.seq ?_
  refine W.reg X [] [] [2, 3] [] rfl ⟨⟩ ?_
  refine W.seq ?_
  refine W.seq ?_
  refine W.reg X [] [(9, ⟨false, [.a (.lit (.bool true))]⟩)] [10] [] rfl ⟨c_eqByteSS x.rows, ⟨⟩⟩ ?_
  refine W.cond rfl (fun hb0 => ?_) (fun hb0 => ?_)
  · exact absurd hb0 (by simp)
  · clear hb0
    refine W.skip ?_
    refine W.seq ?_
    refine W.reg X [] [] [4] [] rfl ⟨⟩ ?_
    refine W.ret ?_
    exact Fin.ret rfl ⟨rfl, ⟨⟩⟩
theorem c_eqArchivedRound (x : ARound) : Sound ty Try.prog 91 [.agg (dec_ARound x), .agg (dec_ARound x)] [.a (.lit (.bool true))] := by
  refine Sound.of X Try.call91 Try.func91 rfl rfl (by decide) Try.ntmps91 (by simp) ?_
  intro zb
  refine W.seq ?_
  refine W.reg X [] [] [2, 3] [] rfl ⟨⟩ ?_
  refine W.seq ?_
  refine W.seq ?_
  refine W.reg X [] [] [2, 3, 9] [] rfl ⟨⟩ ?_
  refine W.cond rfl (fun hb0 => ?_) (fun hb0 => ?_)
  · exact absurd hb0 (by simp)
  · clear hb0
    refine W.skip ?_
    refine W.seq ?_
    refine W.seq ?_
    refine W.reg X [] [(14, ⟨false, [.a (.lit (.bool true))]⟩)] [15] [] rfl ⟨c_eqDatabase x.db, ⟨⟩⟩ ?_
    refine W.cond rfl (fun hb1 => ?_) (fun hb1 => ?_)
    · exact absurd hb1 (by simp)
    · clear hb1
      refine W.skip ?_
      refine W.seq ?_
      refine W.reg X [] [] [4] [] rfl ⟨⟩ ?_
      refine W.ret ?_
      exact Fin.ret rfl ⟨rfl, ⟨⟩⟩
theorem c_eqArchivedRoundS (l : (List ARound)) : Sound ty Try.prog 62 [.a (.sl .ARound l), .a (.sl .ARound l)] [.a (.lit (.bool true))] := by
  refine Sound.of X Try.call62 Try.func62 rfl rfl (by decide) Try.ntmps62 (by simp) ?_
  intro zb
  refine W.bound 0 rfl fun hl => ?_
  refine W.seq ?_
  refine W.reg X [] [] [0, 1] [] rfl ⟨⟩ ?_
  refine W.seq ?_
  refine W.seq ?_
  refine W.reg X [] [] [0, 1, 10] [] rfl ⟨⟩ ?_
  refine W.cond rfl (fun hb0 => ?_) (fun hb0 => ?_)
  · exact absurd hb0 (by simp)
  · clear hb0
    refine W.skip ?_
    refine W.seq ?_
    refine W.seq ?_
    refine W.reg X [] [] [0, 1, 5] [] rfl ⟨⟩ ?_
    refine W.block ?_
    refine W.loopO (fun k => k ≤ l.length) (fun k : Nat => [(5, .one (.a (.lit (.int .i64 k))))]) (fun k => []) (fun k => l.length - k) 0 (fun k => rfl) (Nat.zero_le _) rfl ?_
    intro k hk
    refine W.seq ?_
    refine W.seq ?_
    refine W.reg X [] [] [0, 1, 5, 14] [] rfl ⟨⟩ ?_
    refine W.cond rfl (fun hb1 => ?_) (fun hb1 => ?_)
    · try simp only [nb] at hb1
      refine W.skip ?_
      refine W.seq ?_
      refine W.block ?_
      refine W.seq ?_
      refine W.draw X [] [(25, ⟨false, [.a (.lit (.bool true))]⟩)] [0, 1, 5, 26] [] 10 MO (by kernel_rfl) rfl ⟨c_eqArchivedRound (l.getD k (dfl .ARound)), by omega, by omega, ⟨⟩⟩ ?_
      refine W.cond rfl (fun hb2 => ?_) (fun hb2 => ?_)
      · exact absurd hb2 (by simp)
      · clear hb2
        refine W.skip ?_
        refine W.reg X [] [] [0, 1, 5] [] rfl ⟨⟩ ?_
        refine ⟨k + 1, by omega, by omega, ?_⟩
        rw [wadd _ k rfl (by omega)]
        try rfl
    · try simp only [nb] at hb1
      refine W.exit ?_
      refine W.seq ?_
      refine W.reg X [] [] [4] [] rfl ⟨⟩ ?_
      refine W.ret ?_
      exact Fin.ret rfl ⟨rfl, ⟨⟩⟩
theorem c_eqArchive (x : Arc) : Sound ty Try.prog 34 [.agg (dec_Arc x), .agg (dec_Arc x)] [.a (.lit (.bool true))] := by
  refine Sound.of X Try.call34 Try.func34 rfl rfl (by decide) Try.ntmps34 (by simp) ?_
  intro zb
  refine W.seq ?_
  refine W.reg X [] [] [2, 3] [] rfl ⟨⟩ ?_
  refine W.seq ?_
  refine W.seq ?_
  refine W.reg X [] [] [2, 3, 9] [] rfl ⟨⟩ ?_
  refine W.cond rfl (fun hb0 => ?_) (fun hb0 => ?_)
  · exact absurd hb0 (by simp)
  · clear hb0
    refine W.skip ?_
    refine W.seq ?_
    refine W.seq ?_
    refine W.reg X [] [(14, ⟨false, [.a (.lit (.bool true))]⟩)] [15] [] rfl ⟨c_eqArchivedRoundS x.rounds, ⟨⟩⟩ ?_
    refine W.cond rfl (fun hb1 => ?_) (fun hb1 => ?_)
    · exact absurd hb1 (by simp)
    · clear hb1
      refine W.skip ?_
      refine W.seq ?_
      refine W.reg X [] [] [4] [] rfl ⟨⟩ ?_
      refine W.ret ?_
      exact Fin.ret rfl ⟨rfl, ⟨⟩⟩
theorem c_eqClient (x : Cli) : Sound ty Try.prog 90 [.agg (dec_Cli x), .agg (dec_Cli x)] [.a (.lit (.bool true))] := by
  refine Sound.of X Try.call90 Try.func90 rfl rfl (by decide) Try.ntmps90 (by simp) ?_
  intro zb
  refine W.seq ?_
  refine W.reg X [] [] [2, 3] [] rfl ⟨⟩ ?_
  refine W.seq ?_
  refine W.seq ?_
  refine W.reg X [] [] [2, 3, 9] [] rfl ⟨⟩ ?_
  refine W.cond rfl (fun hb0 => ?_) (fun hb0 => ?_)
  · exact absurd hb0 (by simp)
  · clear hb0
    refine W.skip ?_
    refine W.seq ?_
    refine W.seq ?_
    refine W.reg X [] [] [2, 3, 14] [] rfl ⟨⟩ ?_
    refine W.cond rfl (fun hb1 => ?_) (fun hb1 => ?_)
    · exact absurd hb1 (by simp)
    · clear hb1
      refine W.skip ?_
      refine W.seq ?_
      refine W.seq ?_
      refine W.reg X [] [] [2, 3, 19] [] rfl ⟨⟩ ?_
      refine W.cond rfl (fun hb2 => ?_) (fun hb2 => ?_)
      · exact absurd hb2 (by simp)
      · clear hb2
        refine W.skip ?_
        refine W.seq ?_
        refine W.seq ?_
        refine W.reg X [] [] [2, 3, 24] [] rfl ⟨⟩ ?_
        refine W.cond rfl (fun hb3 => ?_) (fun hb3 => ?_)
        · exact absurd hb3 (by simp)
        · clear hb3
          refine W.skip ?_
          refine W.seq ?_
          refine W.seq ?_
          refine W.reg X [] [(29, ⟨false, [.a (.lit (.bool true))]⟩)] [2, 3, 30] [] rfl ⟨c_eqByteSS x.submitted, ⟨⟩⟩ ?_
          refine W.cond rfl (fun hb4 => ?_) (fun hb4 => ?_)
          · exact absurd hb4 (by simp)
          · clear hb4
            refine W.skip ?_
            refine W.seq ?_
            refine W.seq ?_
            refine W.reg X [] [] [2, 3, 35] [] rfl ⟨⟩ ?_
            refine W.cond rfl (fun hb5 => ?_) (fun hb5 => ?_)
            · exact absurd hb5 (by simp)
            · clear hb5
              refine W.skip ?_
              refine W.seq ?_
              refine W.seq ?_
              refine W.reg X [] [(40, ⟨false, [.a (.lit (.bool true))]⟩)] [2, 3, 41] [] rfl ⟨c_eqByteSS x.inbox, ⟨⟩⟩ ?_
              refine W.cond rfl (fun hb6 => ?_) (fun hb6 => ?_)
              · exact absurd hb6 (by simp)
              · clear hb6
                refine W.skip ?_
                refine W.seq ?_
                refine W.seq ?_
                refine W.reg X [] [] [46] [] rfl ⟨⟩ ?_
                refine W.cond rfl (fun hb7 => ?_) (fun hb7 => ?_)
                · exact absurd hb7 (by simp)
                · clear hb7
                  refine W.skip ?_
                  refine W.seq ?_
                  refine W.reg X [] [] [4] [] rfl ⟨⟩ ?_
                  refine W.ret ?_
                  exact Fin.ret rfl ⟨rfl, ⟨⟩⟩
theorem c_eqDevice (x : Dev) : Sound ty Try.prog 61 [.agg (dec_Dev x), .agg (dec_Dev x)] [.a (.lit (.bool true))] := by
  refine Sound.of X Try.call61 Try.func61 rfl rfl (by decide) Try.ntmps61 (by simp) ?_
  intro zb
  refine W.seq ?_
  refine W.reg X [] [] [2, 3] [] rfl ⟨⟩ ?_
  refine W.seq ?_
  refine W.seq ?_
  refine W.reg X [] [(9, ⟨false, [.a (.lit (.bool true))]⟩)] [2, 3, 10] [] rfl ⟨c_eqClient x.live, ⟨⟩⟩ ?_
  refine W.cond rfl (fun hb0 => ?_) (fun hb0 => ?_)
  · exact absurd hb0 (by simp)
  · clear hb0
    refine W.skip ?_
    refine W.seq ?_
    refine W.seq ?_
    refine W.reg X [] [(15, ⟨false, [.a (.lit (.bool true))]⟩)] [16] [] rfl ⟨c_eqClient x.saved, ⟨⟩⟩ ?_
    refine W.cond rfl (fun hb1 => ?_) (fun hb1 => ?_)
    · exact absurd hb1 (by simp)
    · clear hb1
      refine W.skip ?_
      refine W.seq ?_
      refine W.reg X [] [] [4] [] rfl ⟨⟩ ?_
      refine W.ret ?_
      exact Fin.ret rfl ⟨rfl, ⟨⟩⟩
theorem c_eqDeviceS (l : (List Dev)) : Sound ty Try.prog 33 [.a (.sl .Dev l), .a (.sl .Dev l)] [.a (.lit (.bool true))] := by
  refine Sound.of X Try.call33 Try.func33 rfl rfl (by decide) Try.ntmps33 (by simp) ?_
  intro zb
  refine W.bound 0 rfl fun hl => ?_
  refine W.seq ?_
  refine W.reg X [] [] [0, 1] [] rfl ⟨⟩ ?_
  refine W.seq ?_
  refine W.seq ?_
  refine W.reg X [] [] [0, 1, 10] [] rfl ⟨⟩ ?_
  refine W.cond rfl (fun hb0 => ?_) (fun hb0 => ?_)
  · exact absurd hb0 (by simp)
  · clear hb0
    refine W.skip ?_
    refine W.seq ?_
    refine W.seq ?_
    refine W.reg X [] [] [0, 1, 5] [] rfl ⟨⟩ ?_
    refine W.block ?_
    refine W.loopO (fun k => k ≤ l.length) (fun k : Nat => [(5, .one (.a (.lit (.int .i64 k))))]) (fun k => []) (fun k => l.length - k) 0 (fun k => rfl) (Nat.zero_le _) rfl ?_
    intro k hk
    refine W.seq ?_
    refine W.seq ?_
    refine W.reg X [] [] [0, 1, 5, 14] [] rfl ⟨⟩ ?_
    refine W.cond rfl (fun hb1 => ?_) (fun hb1 => ?_)
    · try simp only [nb] at hb1
      refine W.skip ?_
      refine W.seq ?_
      refine W.block ?_
      refine W.seq ?_
      refine W.draw X [] [(25, ⟨false, [.a (.lit (.bool true))]⟩)] [0, 1, 5, 26] [] 10 MO (by kernel_rfl) rfl ⟨c_eqDevice (l.getD k (dfl .Dev)), by omega, by omega, ⟨⟩⟩ ?_
      refine W.cond rfl (fun hb2 => ?_) (fun hb2 => ?_)
      · exact absurd hb2 (by simp)
      · clear hb2
        refine W.skip ?_
        refine W.reg X [] [] [0, 1, 5] [] rfl ⟨⟩ ?_
        refine ⟨k + 1, by omega, by omega, ?_⟩
        rw [wadd _ k rfl (by omega)]
        try rfl
    · try simp only [nb] at hb1
      refine W.exit ?_
      refine W.seq ?_
      refine W.reg X [] [] [4] [] rfl ⟨⟩ ?_
      refine W.ret ?_
      exact Fin.ret rfl ⟨rfl, ⟨⟩⟩
theorem c_eqIntS (l : (List Int)) : Sound ty Try.prog 35 [.a (.sl .int l), .a (.sl .int l)] [.a (.lit (.bool true))] := by
  refine Sound.of X Try.call35 Try.func35 rfl rfl (by decide) Try.ntmps35 (by simp) ?_
  intro zb
  refine W.bound 0 rfl fun hl => ?_
  refine W.seq ?_
  refine W.reg X [] [] [0, 1] [] rfl ⟨⟩ ?_
  refine W.seq ?_
  refine W.seq ?_
  refine W.reg X [] [] [0, 1, 10] [] rfl ⟨⟩ ?_
  refine W.cond rfl (fun hb0 => ?_) (fun hb0 => ?_)
  · exact absurd hb0 (by simp)
  · clear hb0
    refine W.skip ?_
    refine W.seq ?_
    refine W.seq ?_
    refine W.reg X [] [] [0, 1, 5] [] rfl ⟨⟩ ?_
    refine W.block ?_
    refine W.loopO (fun k => k ≤ l.length) (fun k : Nat => [(5, .one (.a (.lit (.int .i64 k))))]) (fun k => []) (fun k => l.length - k) 0 (fun k => rfl) (Nat.zero_le _) rfl ?_
    intro k hk
    refine W.seq ?_
    refine W.seq ?_
    refine W.reg X [] [] [0, 1, 5, 14] [] rfl ⟨⟩ ?_
    refine W.cond rfl (fun hb1 => ?_) (fun hb1 => ?_)
    · try simp only [nb] at hb1
      refine W.skip ?_
      refine W.seq ?_
      refine W.block ?_
      refine W.seq ?_
      refine W.draw X [] [] [0, 1, 5, 25] [] 9 MO (by kernel_rfl) rfl (by (repeat' (first | exact True.intro | apply And.intro)) <;> first | (intros; omega)) ?_
      refine W.cond rfl (fun hb2 => ?_) (fun hb2 => ?_)
      · exact absurd hb2 (by simp)
      · clear hb2
        refine W.skip ?_
        refine W.reg X [] [] [0, 1, 5] [] rfl ⟨⟩ ?_
        refine ⟨k + 1, by omega, by omega, ?_⟩
        rw [wadd _ k rfl (by omega)]
        try rfl
    · try simp only [nb] at hb1
      refine W.exit ?_
      refine W.seq ?_
      refine W.reg X [] [] [4] [] rfl ⟨⟩ ?_
      refine W.ret ?_
      exact Fin.ret rfl ⟨rfl, ⟨⟩⟩
theorem c_eqReceivedShare (x : RShare) : Sound ty Try.prog 109 [.agg (dec_RShare x), .agg (dec_RShare x)] [.a (.lit (.bool true))] := by
  refine Sound.of X Try.call109 Try.func109 rfl rfl (by decide) Try.ntmps109 (by simp) ?_
  intro zb
  refine W.seq ?_
  refine W.reg X [] [] [2, 3] [] rfl ⟨⟩ ?_
  refine W.seq ?_
  refine W.seq ?_
  refine W.reg X [] [] [2, 3, 9] [] rfl ⟨⟩ ?_
  refine W.cond rfl (fun hb0 => ?_) (fun hb0 => ?_)
  · exact absurd hb0 (by simp)
  · clear hb0
    refine W.skip ?_
    refine W.seq ?_
    refine W.seq ?_
    refine W.reg X [] [(14, ⟨false, [.a (.lit (.bool true))]⟩)] [15] [] rfl ⟨c_eqDatabase x.share, ⟨⟩⟩ ?_
    refine W.cond rfl (fun hb1 => ?_) (fun hb1 => ?_)
    · exact absurd hb1 (by simp)
    · clear hb1
      refine W.skip ?_
      refine W.seq ?_
      refine W.reg X [] [] [4] [] rfl ⟨⟩ ?_
      refine W.ret ?_
      exact Fin.ret rfl ⟨rfl, ⟨⟩⟩
theorem c_eqReceivedShareS (l : (List RShare)) : Sound ty Try.prog 89 [.a (.sl .RShare l), .a (.sl .RShare l)] [.a (.lit (.bool true))] := by
  refine Sound.of X Try.call89 Try.func89 rfl rfl (by decide) Try.ntmps89 (by simp) ?_
  intro zb
  refine W.bound 0 rfl fun hl => ?_
  refine W.seq ?_
  refine W.reg X [] [] [0, 1] [] rfl ⟨⟩ ?_
  refine W.seq ?_
  refine W.seq ?_
  refine W.reg X [] [] [0, 1, 10] [] rfl ⟨⟩ ?_
  refine W.cond rfl (fun hb0 => ?_) (fun hb0 => ?_)
  · exact absurd hb0 (by simp)
  · clear hb0
    refine W.skip ?_
    refine W.seq ?_
    refine W.seq ?_
    refine W.reg X [] [] [0, 1, 5] [] rfl ⟨⟩ ?_
    refine W.block ?_
    refine W.loopO (fun k => k ≤ l.length) (fun k : Nat => [(5, .one (.a (.lit (.int .i64 k))))]) (fun k => []) (fun k => l.length - k) 0 (fun k => rfl) (Nat.zero_le _) rfl ?_
    intro k hk
    refine W.seq ?_
    refine W.seq ?_
    refine W.reg X [] [] [0, 1, 5, 14] [] rfl ⟨⟩ ?_
    refine W.cond rfl (fun hb1 => ?_) (fun hb1 => ?_)
    · try simp only [nb] at hb1
      refine W.skip ?_
      refine W.seq ?_
      refine W.block ?_
      refine W.seq ?_
      refine W.draw X [] [(25, ⟨false, [.a (.lit (.bool true))]⟩)] [0, 1, 5, 26] [] 10 MO (by kernel_rfl) rfl ⟨c_eqReceivedShare (l.getD k (dfl .RShare)), by omega, by omega, ⟨⟩⟩ ?_
      refine W.cond rfl (fun hb2 => ?_) (fun hb2 => ?_)
      · exact absurd hb2 (by simp)
      · clear hb2
        refine W.skip ?_
        refine W.reg X [] [] [0, 1, 5] [] rfl ⟨⟩ ?_
        refine ⟨k + 1, by omega, by omega, ?_⟩
        rw [wadd _ k rfl (by omega)]
        try rfl
    · try simp only [nb] at hb1
      refine W.exit ?_
      refine W.seq ?_
      refine W.reg X [] [] [4] [] rfl ⟨⟩ ?_
      refine W.ret ?_
      exact Fin.ret rfl ⟨rfl, ⟨⟩⟩
theorem c_eqServer (x : Srv) : Sound ty Try.prog 60 [.agg (dec_Srv x), .agg (dec_Srv x)] [.a (.lit (.bool true))] := by
  refine Sound.of X Try.call60 Try.func60 rfl rfl (by decide) Try.ntmps60 (by simp) ?_
  intro zb
  refine W.seq ?_
  refine W.reg X [] [] [2, 3] [] rfl ⟨⟩ ?_
  refine W.seq ?_
  refine W.seq ?_
  refine W.reg X [] [] [2, 3, 9] [] rfl ⟨⟩ ?_
  refine W.cond rfl (fun hb0 => ?_) (fun hb0 => ?_)
  · exact absurd hb0 (by simp)
  · clear hb0
    refine W.skip ?_
    refine W.seq ?_
    refine W.seq ?_
    refine W.reg X [] [] [2, 3, 14] [] rfl ⟨⟩ ?_
    refine W.cond rfl (fun hb1 => ?_) (fun hb1 => ?_)
    · exact absurd hb1 (by simp)
    · clear hb1
      refine W.skip ?_
      refine W.seq ?_
      refine W.seq ?_
      refine W.reg X [] [] [2, 3, 19] [] rfl ⟨⟩ ?_
      refine W.cond rfl (fun hb2 => ?_) (fun hb2 => ?_)
      · exact absurd hb2 (by simp)
      · clear hb2
        refine W.skip ?_
        refine W.seq ?_
        refine W.seq ?_
        refine W.reg X [] [(24, ⟨false, [.a (.lit (.bool true))]⟩)] [2, 3, 25] [] rfl ⟨c_eqReceivedShareS x.received, ⟨⟩⟩ ?_
        refine W.cond rfl (fun hb3 => ?_) (fun hb3 => ?_)
        · exact absurd hb3 (by simp)
        · clear hb3
          refine W.skip ?_
          refine W.seq ?_
          refine W.seq ?_
          refine W.reg X [] [] [30] [] rfl ⟨⟩ ?_
          refine W.cond rfl (fun hb4 => ?_) (fun hb4 => ?_)
          · exact absurd hb4 (by simp)
          · clear hb4
            refine W.skip ?_
            refine W.seq ?_
            refine W.reg X [] [] [4] [] rfl ⟨⟩ ?_
            refine W.ret ?_
            exact Fin.ret rfl ⟨rfl, ⟨⟩⟩
theorem c_eqServerS (l : (List Srv)) : Sound ty Try.prog 32 [.a (.sl .Srv l), .a (.sl .Srv l)] [.a (.lit (.bool true))] := by
  refine Sound.of X Try.call32 Try.func32 rfl rfl (by decide) Try.ntmps32 (by simp) ?_
  intro zb
  refine W.bound 0 rfl fun hl => ?_
  refine W.seq ?_
  refine W.reg X [] [] [0, 1] [] rfl ⟨⟩ ?_
  refine W.seq ?_
  refine W.seq ?_
  refine W.reg X [] [] [0, 1, 10] [] rfl ⟨⟩ ?_
  refine W.cond rfl (fun hb0 => ?_) (fun hb0 => ?_)
  · exact absurd hb0 (by simp)
  · clear hb0
    refine W.skip ?_
    refine W.seq ?_
    refine W.seq ?_
    refine W.reg X [] [] [0, 1, 5] [] rfl ⟨⟩ ?_
    refine W.block ?_
    refine W.loopO (fun k => k ≤ l.length) (fun k : Nat => [(5, .one (.a (.lit (.int .i64 k))))]) (fun k => []) (fun k => l.length - k) 0 (fun k => rfl) (Nat.zero_le _) rfl ?_
    intro k hk
    refine W.seq ?_
    refine W.seq ?_
    refine W.reg X [] [] [0, 1, 5, 14] [] rfl ⟨⟩ ?_
    refine W.cond rfl (fun hb1 => ?_) (fun hb1 => ?_)
    · try simp only [nb] at hb1
      refine W.skip ?_
      refine W.seq ?_
      refine W.block ?_
      refine W.seq ?_
      refine W.draw X [] [(25, ⟨false, [.a (.lit (.bool true))]⟩)] [0, 1, 5, 26] [] 10 MO (by kernel_rfl) rfl ⟨c_eqServer (l.getD k (dfl .Srv)), by omega, by omega, ⟨⟩⟩ ?_
      refine W.cond rfl (fun hb2 => ?_) (fun hb2 => ?_)
      · exact absurd hb2 (by simp)
      · clear hb2
        refine W.skip ?_
        refine W.reg X [] [] [0, 1, 5] [] rfl ⟨⟩ ?_
        refine ⟨k + 1, by omega, by omega, ?_⟩
        rw [wadd _ k rfl (by omega)]
        try rfl
    · try simp only [nb] at hb1
      refine W.exit ?_
      refine W.seq ?_
      refine W.reg X [] [] [4] [] rfl ⟨⟩ ?_
      refine W.ret ?_
      exact Fin.ret rfl ⟨rfl, ⟨⟩⟩
theorem c_eqTransfer (x : Trf) : Sound ty Try.prog 31 [.agg (dec_Trf x), .agg (dec_Trf x)] [.a (.lit (.bool true))] := by
  refine Sound.of X Try.call31 Try.func31 rfl rfl (by decide) Try.ntmps31 (by simp) ?_
  intro zb
  refine W.seq ?_
  refine W.reg X [] [] [2, 3] [] rfl ⟨⟩ ?_
  refine W.seq ?_
  refine W.seq ?_
  refine W.reg X [] [] [2, 3, 9] [] rfl ⟨⟩ ?_
  refine W.cond rfl (fun hb0 => ?_) (fun hb0 => ?_)
  · exact absurd hb0 (by simp)
  · clear hb0
    refine W.skip ?_
    refine W.seq ?_
    refine W.seq ?_
    refine W.reg X [] [] [2, 3, 14] [] rfl ⟨⟩ ?_
    refine W.cond rfl (fun hb1 => ?_) (fun hb1 => ?_)
    · exact absurd hb1 (by simp)
    · clear hb1
      refine W.skip ?_
      refine W.seq ?_
      refine W.seq ?_
      refine W.reg X [] [] [19] [] rfl ⟨⟩ ?_
      refine W.cond rfl (fun hb2 => ?_) (fun hb2 => ?_)
      · exact absurd hb2 (by simp)
      · clear hb2
        refine W.skip ?_
        refine W.seq ?_
        refine W.reg X [] [] [4] [] rfl ⟨⟩ ?_
        refine W.ret ?_
        exact Fin.ret rfl ⟨rfl, ⟨⟩⟩
theorem c_eqTransferS (l : (List Trf)) : Sound ty Try.prog 9 [.a (.sl .Trf l), .a (.sl .Trf l)] [.a (.lit (.bool true))] := by
  refine Sound.of X Try.call9 Try.func9 rfl rfl (by decide) Try.ntmps9 (by simp) ?_
  intro zb
  refine W.bound 0 rfl fun hl => ?_
  refine W.seq ?_
  refine W.reg X [] [] [0, 1] [] rfl ⟨⟩ ?_
  refine W.seq ?_
  refine W.seq ?_
  refine W.reg X [] [] [0, 1, 10] [] rfl ⟨⟩ ?_
  refine W.cond rfl (fun hb0 => ?_) (fun hb0 => ?_)
  · exact absurd hb0 (by simp)
  · clear hb0
    refine W.skip ?_
    refine W.seq ?_
    refine W.seq ?_
    refine W.reg X [] [] [0, 1, 5] [] rfl ⟨⟩ ?_
    refine W.block ?_
    refine W.loopO (fun k => k ≤ l.length) (fun k : Nat => [(5, .one (.a (.lit (.int .i64 k))))]) (fun k => []) (fun k => l.length - k) 0 (fun k => rfl) (Nat.zero_le _) rfl ?_
    intro k hk
    refine W.seq ?_
    refine W.seq ?_
    refine W.reg X [] [] [0, 1, 5, 14] [] rfl ⟨⟩ ?_
    refine W.cond rfl (fun hb1 => ?_) (fun hb1 => ?_)
    · try simp only [nb] at hb1
      refine W.skip ?_
      refine W.seq ?_
      refine W.block ?_
      refine W.seq ?_
      refine W.draw X [] [(25, ⟨false, [.a (.lit (.bool true))]⟩)] [0, 1, 5, 26] [] 10 MO (by kernel_rfl) rfl ⟨c_eqTransfer (l.getD k (dfl .Trf)), by omega, by omega, ⟨⟩⟩ ?_
      refine W.cond rfl (fun hb2 => ?_) (fun hb2 => ?_)
      · exact absurd hb2 (by simp)
      · clear hb2
        refine W.skip ?_
        refine W.reg X [] [] [0, 1, 5] [] rfl ⟨⟩ ?_
        refine ⟨k + 1, by omega, by omega, ?_⟩
        rw [wadd _ k rfl (by omega)]
        try rfl
    · try simp only [nb] at hb1
      refine W.exit ?_
      refine W.seq ?_
      refine W.reg X [] [] [4] [] rfl ⟨⟩ ?_
      refine W.ret ?_
      exact Fin.ret rfl ⟨rfl, ⟨⟩⟩
theorem c_eqWorld (x : Wld) : Sound ty Try.prog 10 [.agg (dec_Wld x), .agg (dec_Wld x)] [.a (.lit (.bool true))] := by
  refine Sound.of X Try.call10 Try.func10 rfl rfl (by decide) Try.ntmps10 (by simp) ?_
  intro zb
  refine W.seq ?_
  refine W.reg X [] [] [2, 3] [] rfl ⟨⟩ ?_
  refine W.seq ?_
  refine W.seq ?_
  refine W.reg X [] [] [2, 3, 9] [] rfl ⟨⟩ ?_
  refine W.cond rfl (fun hb0 => ?_) (fun hb0 => ?_)
  · exact absurd hb0 (by simp)
  · clear hb0
    refine W.skip ?_
    refine W.seq ?_
    refine W.seq ?_
    refine W.reg X [] [(14, ⟨false, [.a (.lit (.bool true))]⟩)] [2, 3, 15] [] rfl ⟨c_eqServerS x.servers, ⟨⟩⟩ ?_
    refine W.cond rfl (fun hb1 => ?_) (fun hb1 => ?_)
    · exact absurd hb1 (by simp)
    · clear hb1
      refine W.skip ?_
      refine W.seq ?_
      refine W.seq ?_
      refine W.reg X [] [(20, ⟨false, [.a (.lit (.bool true))]⟩)] [2, 3, 21] [] rfl ⟨c_eqDeviceS x.devices, ⟨⟩⟩ ?_
      refine W.cond rfl (fun hb2 => ?_) (fun hb2 => ?_)
      · exact absurd hb2 (by simp)
      · clear hb2
        refine W.skip ?_
        refine W.seq ?_
        refine W.seq ?_
        refine W.reg X [] [(26, ⟨false, [.a (.lit (.bool true))]⟩)] [2, 3, 27] [] rfl ⟨c_eqArchive x.archive, ⟨⟩⟩ ?_
        refine W.cond rfl (fun hb3 => ?_) (fun hb3 => ?_)
        · exact absurd hb3 (by simp)
        · clear hb3
          refine W.skip ?_
          refine W.seq ?_
          refine W.seq ?_
          refine W.reg X [] [] [2, 3, 32] [] rfl ⟨⟩ ?_
          refine W.cond rfl (fun hb4 => ?_) (fun hb4 => ?_)
          · exact absurd hb4 (by simp)
          · clear hb4
            refine W.skip ?_
            refine W.seq ?_
            refine W.seq ?_
            refine W.reg X [] [] [2, 3, 37] [] rfl ⟨⟩ ?_
            refine W.cond rfl (fun hb5 => ?_) (fun hb5 => ?_)
            · exact absurd hb5 (by simp)
            · clear hb5
              refine W.skip ?_
              refine W.seq ?_
              refine W.seq ?_
              refine W.reg X [] [] [2, 3, 42] [] rfl ⟨⟩ ?_
              refine W.cond rfl (fun hb6 => ?_) (fun hb6 => ?_)
              · exact absurd hb6 (by simp)
              · clear hb6
                refine W.skip ?_
                refine W.seq ?_
                refine W.seq ?_
                refine W.reg X [] [(47, ⟨false, [.a (.lit (.bool true))]⟩)] [2, 3, 48] [] rfl ⟨c_eqIntS x.replaced, ⟨⟩⟩ ?_
                refine W.cond rfl (fun hb7 => ?_) (fun hb7 => ?_)
                · exact absurd hb7 (by simp)
                · clear hb7
                  refine W.skip ?_
                  refine W.seq ?_
                  refine W.seq ?_
                  refine W.reg X [] [] [53] [] rfl ⟨⟩ ?_
                  refine W.cond rfl (fun hb8 => ?_) (fun hb8 => ?_)
                  · exact absurd hb8 (by simp)
                  · clear hb8
                    refine W.skip ?_
                    refine W.seq ?_
                    refine W.reg X [] [] [4] [] rfl ⟨⟩ ?_
                    refine W.ret ?_
                    exact Fin.ret rfl ⟨rfl, ⟨⟩⟩
end Go.Proofs.Ytlocnjfgeifmnaa.G
namespace Go.Proofs.Ytlocnjfgeifmnaa.G
set_option linter.all false
open Go.RowKit L D
set_option maxRecDepth 100000
theorem c_markByteS (l : (List UInt8)) (k0 : Int) (h0 : 0 ≤ k0) (h1 : k0 + ((mnl (fun _ => 1)) l : Nat) ≤ 1099511627776) : SoundM Try.prog 92 [.a (.sl .u8 l), .a (.lit (.int .i64 k0))] [.a (.sl .u8 ((mkl mku8 (fun _ => 1)) k0 l)), .a (.lit (.int .i64 k0))] (.int .i64 (k0 + ((mnl (fun _ => 1)) l : Nat))) := by
  refine SoundM.of X Try.call92 Try.func92 rfl rfl Try.ntmps92 (by simp) ?_
  intro zb
  refine W.boundO 1000 rfl fun hl => ?_
  refine W.seq ?_
  refine W.reg X [] [] [0, 1] [] rfl ⟨⟩ ?_
  refine W.seq ?_
  refine W.seq ?_
  refine W.reg X [] [] [0, 1, 5] [] rfl ⟨⟩ ?_
  refine W.block ?_
  refine W.loopO (fun k => k ≤ l.length) (fun k : Nat => [(1, .one (.a (.lit (.int .i64 (k0 + (mnl (fun _ => 1) (l.take k) : Nat)))))), (5, .one (.a (.lit (.int .i64 k))))]) (fun k => [(1000, .arr .u8 (mkl mku8 (fun _ => 1) k0 (l.take k) ++ l.drop k))]) (fun k => l.length - k) 0 (fun k => rfl) (Nat.zero_le _) (by simp [mkl, mnl]) ?_
  intro k hk
  refine W.seq ?_
  refine W.seq ?_
  refine W.reg X [] [] [0, 1, 5, 9] [] rfl ⟨⟩ ?_
  refine W.cond rfl (fun hb0 => ?_) (fun hb0 => ?_)
  · rw [mk_len l k0 k hk] at hb0
    try simp only [nb] at hb0
    have hc := mk_cur (mk := mku8) (mn := (fun _ => 1)) l k0 (dfl .u8) k hb0
    have hlen := mk_len (mk := mku8) (mn := (fun _ => 1)) l k0 k (by omega)
    have hst := mk_step (mk := mku8) (mn := (fun _ => 1)) l k0 (dfl .u8) k hb0
    have hms := mnl_step (mn := (fun _ => 1)) l (dfl .u8) k hb0
    have hml := mnl_le (mn := (fun _ => 1)) l (k + 1)
    generalize mkl mku8 (fun _ => 1) k0 (l.take k) ++ l.drop k = L at hc hlen hst ⊢
    generalize l.getD k (dfl .u8) = e at hc hst hms
    have hL : k < L.length := by omega
    have gs : ∀ y : UInt8, (L.set k y).getD k (dfl .u8) = y := fun y => getD_set L _ y k hL
    have gl : ∀ y : UInt8, (L.set k y).length = L.length := fun y => List.length_set
    refine W.skip ?_
    refine W.seq ?_
    refine W.block ?_
    refine W.seq ?_
    refine W.reg X [] [] [0, 1, 5] [] rfl (by (repeat' (first | exact True.intro | apply And.intro)) <;> first | (intros; omega) | exact (u8w _).1 | exact (u8w _).2) ?_
    simp only [Int.toNat_natCast, gs, hc, List.set_set]
    refine W.reg X [] [] [0, 1, 5] [] rfl ⟨⟩ ?_
    rw [IntWalk.i64_in ((k0 + (mnl (fun _ => 1) (l.take k) : Nat)) + 1) (by omega)]
    refine W.reg X [] [] [0, 1, 5] [] rfl ⟨⟩ ?_
    refine ⟨k + 1, by omega, by omega, ?_⟩
    rw [wadd _ k rfl (by omega), show (k0 + (mnl (fun _ => 1) (l.take k) : Nat)) + 1 = k0 + (mnl (fun _ => 1) (l.take (k + 1)) : Nat) by omega, ← hst]
    try rfl
  · rw [mk_len l k0 k hk] at hb0
    try simp only [nb] at hb0
    refine W.exit ?_
    refine W.seq ?_
    refine W.reg X [] [] [4] [] rfl ⟨⟩ ?_
    refine W.ret ?_
    have hf : l.take k = l := List.take_of_length_le (by omega)
    have hd : l.drop k = [] := List.drop_eq_nil_of_le (by omega)
    exact FinM.ret rfl ⟨by rw [hf], by rw [hf, hd, List.append_nil], rfl, ⟨⟩⟩
theorem c_markByteSS (l : (List (List UInt8))) (k0 : Int) (h0 : 0 ≤ k0) (h1 : k0 + ((mnl (mnl (fun _ => 1))) l : Nat) ≤ 1099511627776) : SoundM Try.prog 64 [.a (.sl (.sl .u8) l), .a (.lit (.int .i64 k0))] [.a (.sl (.sl .u8) ((mkl (mkl mku8 (fun _ => 1)) (mnl (fun _ => 1))) k0 l)), .a (.lit (.int .i64 k0))] (.int .i64 (k0 + ((mnl (mnl (fun _ => 1))) l : Nat))) := by
  refine SoundM.of X Try.call64 Try.func64 rfl rfl Try.ntmps64 (by simp) ?_
  intro zb
  refine W.boundO 1000 rfl fun hl => ?_
  refine W.seq ?_
  refine W.reg X [] [] [0, 1] [] rfl ⟨⟩ ?_
  refine W.seq ?_
  refine W.seq ?_
  refine W.reg X [] [] [0, 1, 5] [] rfl ⟨⟩ ?_
  refine W.block ?_
  refine W.loopO (fun k => k ≤ l.length) (fun k : Nat => [(1, .one (.a (.lit (.int .i64 (k0 + (mnl (mnl (fun _ => 1)) (l.take k) : Nat)))))), (5, .one (.a (.lit (.int .i64 k))))]) (fun k => [(1000, .arr (.sl .u8) (mkl (mkl mku8 (fun _ => 1)) (mnl (fun _ => 1)) k0 (l.take k) ++ l.drop k))]) (fun k => l.length - k) 0 (fun k => rfl) (Nat.zero_le _) (by simp [mkl, mnl]) ?_
  intro k hk
  refine W.seq ?_
  refine W.seq ?_
  refine W.reg X [] [] [0, 1, 5, 9] [] rfl ⟨⟩ ?_
  refine W.cond rfl (fun hb0 => ?_) (fun hb0 => ?_)
  · rw [mk_len l k0 k hk] at hb0
    try simp only [nb] at hb0
    have hc := mk_cur (mk := (mkl mku8 (fun _ => 1))) (mn := (mnl (fun _ => 1))) l k0 (dfl (.sl .u8)) k hb0
    have hlen := mk_len (mk := (mkl mku8 (fun _ => 1))) (mn := (mnl (fun _ => 1))) l k0 k (by omega)
    have hst := mk_step (mk := (mkl mku8 (fun _ => 1))) (mn := (mnl (fun _ => 1))) l k0 (dfl (.sl .u8)) k hb0
    have hms := mnl_step (mn := (mnl (fun _ => 1))) l (dfl (.sl .u8)) k hb0
    have hml := mnl_le (mn := (mnl (fun _ => 1))) l (k + 1)
    generalize mkl (mkl mku8 (fun _ => 1)) (mnl (fun _ => 1)) k0 (l.take k) ++ l.drop k = L at hc hlen hst ⊢
    generalize l.getD k (dfl (.sl .u8)) = e at hc hst hms
    have hL : k < L.length := by omega
    have gs : ∀ y : (List UInt8), (L.set k y).getD k (dfl (.sl .u8)) = y := fun y => getD_set L _ y k hL
    have gl : ∀ y : (List UInt8), (L.set k y).length = L.length := fun y => List.length_set
    refine W.skip ?_
    refine W.seq ?_
    refine W.block ?_
    refine W.reg X [] [(200017, ⟨false, [.a (.lit (.int .i64 ((k0 + (mnl (mnl (fun _ => 1)) (l.take k) : Nat)) + ((mnl (fun _ => 1)) e : Nat)))), .a (.sl .u8 ((mkl mku8 (fun _ => 1)) ((k0 + (mnl (mnl (fun _ => 1)) (l.take k) : Nat))) e)), .a (.lit (.int .i64 ((k0 + (mnl (mnl (fun _ => 1)) (l.take k) : Nat)))))]⟩)] [0, 1, 5] [] rfl (by (repeat' (first | exact True.intro | exact c_markByteS e ((k0 + (mnl (mnl (fun _ => 1)) (l.take k) : Nat))) (by omega) (by omega) | (simp only [Int.toNat_natCast, gs, hc]; exact c_markByteS e ((k0 + (mnl (mnl (fun _ => 1)) (l.take k) : Nat))) (by omega) (by omega)) | apply And.intro)) <;> first | (intros; omega)) ?_
    simp only [Int.toNat_natCast, gs, hc, List.set_set]
    refine W.reg X [] [] [0, 1, 5] [] rfl ⟨⟩ ?_
    refine ⟨k + 1, by omega, by omega, ?_⟩
    rw [wadd _ k rfl (by omega), show (k0 + (mnl (mnl (fun _ => 1)) (l.take k) : Nat)) + ((mnl (fun _ => 1)) e : Nat) = k0 + (mnl (mnl (fun _ => 1)) (l.take (k + 1)) : Nat) by omega, ← hst]
    try rfl
  · rw [mk_len l k0 k hk] at hb0
    try simp only [nb] at hb0
    refine W.exit ?_
    refine W.seq ?_
    refine W.reg X [] [] [4] [] rfl ⟨⟩ ?_
    refine W.ret ?_
    have hf : l.take k = l := List.take_of_length_le (by omega)
    have hd : l.drop k = [] := List.drop_eq_nil_of_le (by omega)
    exact FinM.ret rfl ⟨by rw [hf], by rw [hf, hd, List.append_nil], rfl, ⟨⟩⟩
theorem c_markArchivedRoundS (l : (List ARound)) (k0 : Int) (h0 : 0 ≤ k0) (h1 : k0 + ((mnl mne_ARound) l : Nat) ≤ 1099511627776) : SoundM Try.prog 65 [.a (.sl .ARound l), .a (.lit (.int .i64 k0))] [.a (.sl .ARound ((mkl mke_ARound mne_ARound) k0 l)), .a (.lit (.int .i64 k0))] (.int .i64 (k0 + ((mnl mne_ARound) l : Nat))) := by
  refine SoundM.of X Try.call65 Try.func65 rfl rfl Try.ntmps65 (by simp) ?_
  intro zb
  refine W.boundO 1000 rfl fun hl => ?_
  refine W.seq ?_
  refine W.reg X [] [] [0, 1] [] rfl ⟨⟩ ?_
  refine W.seq ?_
  refine W.seq ?_
  refine W.reg X [] [] [0, 1, 5] [] rfl ⟨⟩ ?_
  refine W.block ?_
  refine W.loopO (fun k => k ≤ l.length) (fun k : Nat => [(1, .one (.a (.lit (.int .i64 (k0 + (mnl mne_ARound (l.take k) : Nat)))))), (5, .one (.a (.lit (.int .i64 k))))]) (fun k => [(1000, .arr .ARound (mkl mke_ARound mne_ARound k0 (l.take k) ++ l.drop k))]) (fun k => l.length - k) 0 (fun k => rfl) (Nat.zero_le _) (by simp [mkl, mnl]) ?_
  intro k hk
  refine W.seq ?_
  refine W.seq ?_
  refine W.reg X [] [] [0, 1, 5, 9] [] rfl ⟨⟩ ?_
  refine W.cond rfl (fun hb0 => ?_) (fun hb0 => ?_)
  · rw [mk_len l k0 k hk] at hb0
    try simp only [nb] at hb0
    have hc := mk_cur (mk := mke_ARound) (mn := mne_ARound) l k0 (dfl .ARound) k hb0
    have hlen := mk_len (mk := mke_ARound) (mn := mne_ARound) l k0 k (by omega)
    have hst := mk_step (mk := mke_ARound) (mn := mne_ARound) l k0 (dfl .ARound) k hb0
    have hms := mnl_step (mn := mne_ARound) l (dfl .ARound) k hb0
    have hml := mnl_le (mn := mne_ARound) l (k + 1)
    generalize mkl mke_ARound mne_ARound k0 (l.take k) ++ l.drop k = L at hc hlen hst ⊢
    generalize l.getD k (dfl .ARound) = e at hc hst hms
    have hL : k < L.length := by omega
    have gs : ∀ y : ARound, (L.set k y).getD k (dfl .ARound) = y := fun y => getD_set L _ y k hL
    have gl : ∀ y : ARound, (L.set k y).length = L.length := fun y => List.length_set
    simp only [mne_ARound, mne_DB] at hms
    refine W.skip ?_
    refine W.seq ?_
    refine W.block ?_
    refine W.seq ?_
    refine W.reg X [] [] [0, 1, 5] [] rfl (by (repeat' (first | exact True.intro | apply And.intro)) <;> first | (intros; omega)) ?_
    simp only [Int.toNat_natCast, gs, hc, List.set_set]
    refine W.seq ?_
    refine W.reg X [] [] [0, 1, 5] [] rfl ⟨⟩ ?_
    rw [IntWalk.i64_in ((k0 + (mnl mne_ARound (l.take k) : Nat)) + 1) (by omega)]
    refine W.reg X [] [(200026, ⟨false, [.a (.lit (.int .i64 ((k0 + (mnl mne_ARound (l.take k) : Nat)) + 1 + ((mnl (mnl (fun _ => 1))) e.db.rows : Nat)))), .a (.sl (.sl .u8) ((mkl (mkl mku8 (fun _ => 1)) (mnl (fun _ => 1))) ((k0 + (mnl mne_ARound (l.take k) : Nat)) + 1) e.db.rows)), .a (.lit (.int .i64 ((k0 + (mnl mne_ARound (l.take k) : Nat)) + 1)))]⟩)] [0, 1, 5] [] rfl (by (repeat' (first | exact True.intro | exact c_markByteSS e.db.rows ((k0 + (mnl mne_ARound (l.take k) : Nat)) + 1) (by omega) (by omega) | (simp only [Int.toNat_natCast, gs, hc]; exact c_markByteSS e.db.rows ((k0 + (mnl mne_ARound (l.take k) : Nat)) + 1) (by omega) (by omega)) | apply And.intro)) <;> first | (intros; omega) | (simp only [byt, maxLen, lens]; omega)) ?_
    simp only [Int.toNat_natCast, gs, hc, List.set_set]
    refine W.reg X [] [] [0, 1, 5] [] rfl ⟨⟩ ?_
    refine ⟨k + 1, by omega, by omega, ?_⟩
    rw [wadd _ k rfl (by omega), show (k0 + (mnl mne_ARound (l.take k) : Nat)) + 1 + ((mnl (mnl (fun _ => 1))) e.db.rows : Nat) = k0 + (mnl mne_ARound (l.take (k + 1)) : Nat) by omega, ← hst]
    try rfl
  · rw [mk_len l k0 k hk] at hb0
    try simp only [nb] at hb0
    refine W.exit ?_
    refine W.seq ?_
    refine W.reg X [] [] [4] [] rfl ⟨⟩ ?_
    refine W.ret ?_
    have hf : l.take k = l := List.take_of_length_le (by omega)
    have hd : l.drop k = [] := List.drop_eq_nil_of_le (by omega)
    exact FinM.ret rfl ⟨by rw [hf], by rw [hf, hd, List.append_nil], rfl, ⟨⟩⟩
theorem c_markArchive (x : Arc) (k0 : Int) (h0 : 0 ≤ k0) (h1 : k0 + (mnv_Arc x : Nat) ≤ 1099511627776) : SoundM Try.prog 38 [.agg (dec_Arc x), .a (.lit (.int .i64 k0))] [.agg (dec_Arc (mkv_Arc k0 x)), .a (.lit (.int .i64 k0))] (.int .i64 (k0 + (mnv_Arc x : Nat))) := by
  refine SoundM.of X Try.call38 Try.func38 rfl rfl Try.ntmps38 (by simp) ?_
  intro zb
  unfold mnv_Arc at h1 ⊢
  refine W.seq ?_
  refine W.reg X [] [] [1, 2] [] rfl ⟨⟩ ?_
  refine W.seq ?_
  refine W.reg X [] [(100008, ⟨false, [.a (.lit (.int .i64 (k0 + ((mnl mne_ARound) x.rounds : Nat)))), .a (.sl .ARound ((mkl mke_ARound mne_ARound) (k0) x.rounds)), .a (.lit (.int .i64 (k0)))]⟩)] [1] [] rfl ⟨c_markArchivedRoundS x.rounds (k0) (by omega) (by omega), ⟨⟩⟩ ?_
  refine W.seq ?_
  refine W.reg X [] [] [4] [] rfl ⟨⟩ ?_
  refine W.ret ?_
  exact FinM.ret rfl (by (repeat' (first | exact True.intro | apply And.intro)) <;> first | rfl | (congr 1; omega))
theorem c_markDeviceS (l : (List Dev)) (k0 : Int) (h0 : 0 ≤ k0) (h1 : k0 + ((mnl mne_Dev) l : Nat) ≤ 1099511627776) : SoundM Try.prog 37 [.a (.sl .Dev l), .a (.lit (.int .i64 k0))] [.a (.sl .Dev ((mkl mke_Dev mne_Dev) k0 l)), .a (.lit (.int .i64 k0))] (.int .i64 (k0 + ((mnl mne_Dev) l : Nat))) := by
  refine SoundM.of X Try.call37 Try.func37 rfl rfl Try.ntmps37 (by simp) ?_
  intro zb
  refine W.boundO 1000 rfl fun hl => ?_
  refine W.seq ?_
  refine W.reg X [] [] [0, 1] [] rfl ⟨⟩ ?_
  refine W.seq ?_
  refine W.seq ?_
  refine W.reg X [] [] [0, 1, 5] [] rfl ⟨⟩ ?_
  refine W.block ?_
  refine W.loopO (fun k => k ≤ l.length) (fun k : Nat => [(1, .one (.a (.lit (.int .i64 (k0 + (mnl mne_Dev (l.take k) : Nat)))))), (5, .one (.a (.lit (.int .i64 k))))]) (fun k => [(1000, .arr .Dev (mkl mke_Dev mne_Dev k0 (l.take k) ++ l.drop k))]) (fun k => l.length - k) 0 (fun k => rfl) (Nat.zero_le _) (by simp [mkl, mnl]) ?_
  intro k hk
  refine W.seq ?_
  refine W.seq ?_
  refine W.reg X [] [] [0, 1, 5, 9] [] rfl ⟨⟩ ?_
  refine W.cond rfl (fun hb0 => ?_) (fun hb0 => ?_)
  · rw [mk_len l k0 k hk] at hb0
    try simp only [nb] at hb0
    have hc := mk_cur (mk := mke_Dev) (mn := mne_Dev) l k0 (dfl .Dev) k hb0
    have hlen := mk_len (mk := mke_Dev) (mn := mne_Dev) l k0 k (by omega)
    have hst := mk_step (mk := mke_Dev) (mn := mne_Dev) l k0 (dfl .Dev) k hb0
    have hms := mnl_step (mn := mne_Dev) l (dfl .Dev) k hb0
    have hml := mnl_le (mn := mne_Dev) l (k + 1)
    generalize mkl mke_Dev mne_Dev k0 (l.take k) ++ l.drop k = L at hc hlen hst ⊢
    generalize l.getD k (dfl .Dev) = e at hc hst hms
    have hL : k < L.length := by omega
    have gs : ∀ y : Dev, (L.set k y).getD k (dfl .Dev) = y := fun y => getD_set L _ y k hL
    have gl : ∀ y : Dev, (L.set k y).length = L.length := fun y => List.length_set
    simp only [mne_Dev, mne_Cli] at hms
    refine W.skip ?_
    refine W.seq ?_
    refine W.block ?_
    refine W.seq ?_
    refine W.reg X [] [] [0, 1, 5] [] rfl (by (repeat' (first | exact True.intro | apply And.intro)) <;> first | (intros; omega)) ?_
    simp only [Int.toNat_natCast, gs, hc, List.set_set]
    refine W.seq ?_
    refine W.reg X [] [] [0, 1, 5] [] rfl ⟨⟩ ?_
    rw [IntWalk.i64_in ((k0 + (mnl mne_Dev (l.take k) : Nat)) + 1) (by omega)]
    refine W.seq ?_
    refine W.reg X [] [] [0, 1, 5] [] rfl (by (repeat' (first | exact True.intro | apply And.intro)) <;> first | (intros; omega) | (simp only [byt, maxLen, lens]; omega)) ?_
    simp only [Int.toNat_natCast, gs, hc, List.set_set]
    refine W.seq ?_
    refine W.reg X [] [] [0, 1, 5] [] rfl ⟨⟩ ?_
    rw [IntWalk.i64_in ((k0 + (mnl mne_Dev (l.take k) : Nat)) + 1 + 1) (by omega)]
    refine W.seq ?_
    refine W.reg X [] [] [0, 1, 5] [] rfl (by (repeat' (first | exact True.intro | apply And.intro)) <;> first | (intros; omega) | (simp only [byt, maxLen, lens]; omega)) ?_
    simp only [Int.toNat_natCast, gs, hc, List.set_set]
    refine W.seq ?_
    refine W.reg X [] [] [0, 1, 5] [] rfl ⟨⟩ ?_
    rw [IntWalk.i64_in ((k0 + (mnl mne_Dev (l.take k) : Nat)) + 1 + 1 + 1) (by omega)]
    refine W.seq ?_
    refine W.reg X [] [] [0, 1, 5] [] rfl (by (repeat' (first | exact True.intro | apply And.intro)) <;> first | (intros; omega) | (simp only [byt, maxLen, lens]; omega)) ?_
    simp only [Int.toNat_natCast, gs, hc, List.set_set]
    refine W.seq ?_
    refine W.reg X [] [] [0, 1, 5] [] rfl ⟨⟩ ?_
    rw [IntWalk.i64_in ((k0 + (mnl mne_Dev (l.take k) : Nat)) + 1 + 1 + 1 + 1) (by omega)]
    refine W.seq ?_
    refine W.reg X [] [(200051, ⟨false, [.a (.lit (.int .i64 ((k0 + (mnl mne_Dev (l.take k) : Nat)) + 1 + 1 + 1 + 1 + ((mnl (mnl (fun _ => 1))) e.live.submitted : Nat)))), .a (.sl (.sl .u8) ((mkl (mkl mku8 (fun _ => 1)) (mnl (fun _ => 1))) ((k0 + (mnl mne_Dev (l.take k) : Nat)) + 1 + 1 + 1 + 1) e.live.submitted)), .a (.lit (.int .i64 ((k0 + (mnl mne_Dev (l.take k) : Nat)) + 1 + 1 + 1 + 1)))]⟩)] [0, 1, 5] [] rfl (by (repeat' (first | exact True.intro | exact c_markByteSS e.live.submitted ((k0 + (mnl mne_Dev (l.take k) : Nat)) + 1 + 1 + 1 + 1) (by omega) (by omega) | (simp only [Int.toNat_natCast, gs, hc]; exact c_markByteSS e.live.submitted ((k0 + (mnl mne_Dev (l.take k) : Nat)) + 1 + 1 + 1 + 1) (by omega) (by omega)) | apply And.intro)) <;> first | (intros; omega) | (simp only [byt, maxLen, lens]; omega)) ?_
    simp only [Int.toNat_natCast, gs, hc, List.set_set]
    refine W.seq ?_
    refine W.reg X [] [] [0, 1, 5] [] rfl (by (repeat' (first | exact True.intro | apply And.intro)) <;> first | (intros; omega) | (simp only [byt, maxLen, lens]; omega)) ?_
    simp only [Int.toNat_natCast, gs, hc, List.set_set]
    refine W.seq ?_
    refine W.reg X [] [] [0, 1, 5] [] rfl ⟨⟩ ?_
    rw [IntWalk.i64_in ((k0 + (mnl mne_Dev (l.take k) : Nat)) + 1 + 1 + 1 + 1 + ((mnl (mnl (fun _ => 1))) e.live.submitted : Nat) + 1) (by omega)]
    refine W.seq ?_
    refine W.reg X [] [(200067, ⟨false, [.a (.lit (.int .i64 ((k0 + (mnl mne_Dev (l.take k) : Nat)) + 1 + 1 + 1 + 1 + ((mnl (mnl (fun _ => 1))) e.live.submitted : Nat) + 1 + ((mnl (mnl (fun _ => 1))) e.live.inbox : Nat)))), .a (.sl (.sl .u8) ((mkl (mkl mku8 (fun _ => 1)) (mnl (fun _ => 1))) ((k0 + (mnl mne_Dev (l.take k) : Nat)) + 1 + 1 + 1 + 1 + ((mnl (mnl (fun _ => 1))) e.live.submitted : Nat) + 1) e.live.inbox)), .a (.lit (.int .i64 ((k0 + (mnl mne_Dev (l.take k) : Nat)) + 1 + 1 + 1 + 1 + ((mnl (mnl (fun _ => 1))) e.live.submitted : Nat) + 1)))]⟩)] [0, 1, 5] [] rfl (by (repeat' (first | exact True.intro | exact c_markByteSS e.live.inbox ((k0 + (mnl mne_Dev (l.take k) : Nat)) + 1 + 1 + 1 + 1 + ((mnl (mnl (fun _ => 1))) e.live.submitted : Nat) + 1) (by omega) (by omega) | (simp only [Int.toNat_natCast, gs, hc]; exact c_markByteSS e.live.inbox ((k0 + (mnl mne_Dev (l.take k) : Nat)) + 1 + 1 + 1 + 1 + ((mnl (mnl (fun _ => 1))) e.live.submitted : Nat) + 1) (by omega) (by omega)) | apply And.intro)) <;> first | (intros; omega) | (simp only [byt, maxLen, lens]; omega)) ?_
    simp only [Int.toNat_natCast, gs, hc, List.set_set]
    refine W.seq ?_
    refine W.reg X [] [] [0, 1, 5] [] rfl (by (repeat' (first | exact True.intro | apply And.intro)) <;> first | (intros; omega) | (simp only [byt, maxLen, lens]; omega)) ?_
    simp only [Int.toNat_natCast, gs, hc, List.set_set]
    refine W.seq ?_
    refine W.reg X [] [] [0, 1, 5] [] rfl ⟨⟩ ?_
    rw [IntWalk.i64_in ((k0 + (mnl mne_Dev (l.take k) : Nat)) + 1 + 1 + 1 + 1 + ((mnl (mnl (fun _ => 1))) e.live.submitted : Nat) + 1 + ((mnl (mnl (fun _ => 1))) e.live.inbox : Nat) + 1) (by omega)]
    refine W.seq ?_
    refine W.reg X [] [] [0, 1, 5] [] rfl (by (repeat' (first | exact True.intro | apply And.intro)) <;> first | (intros; omega) | (simp only [byt, maxLen, lens]; omega)) ?_
    simp only [Int.toNat_natCast, gs, hc, List.set_set]
    refine W.seq ?_
    refine W.reg X [] [] [0, 1, 5] [] rfl ⟨⟩ ?_
    rw [IntWalk.i64_in ((k0 + (mnl mne_Dev (l.take k) : Nat)) + 1 + 1 + 1 + 1 + ((mnl (mnl (fun _ => 1))) e.live.submitted : Nat) + 1 + ((mnl (mnl (fun _ => 1))) e.live.inbox : Nat) + 1 + 1) (by omega)]
    refine W.seq ?_
    refine W.reg X [] [] [0, 1, 5] [] rfl (by (repeat' (first | exact True.intro | apply And.intro)) <;> first | (intros; omega) | (simp only [byt, maxLen, lens]; omega)) ?_
    simp only [Int.toNat_natCast, gs, hc, List.set_set]
    refine W.seq ?_
    refine W.reg X [] [] [0, 1, 5] [] rfl ⟨⟩ ?_
    rw [IntWalk.i64_in ((k0 + (mnl mne_Dev (l.take k) : Nat)) + 1 + 1 + 1 + 1 + ((mnl (mnl (fun _ => 1))) e.live.submitted : Nat) + 1 + ((mnl (mnl (fun _ => 1))) e.live.inbox : Nat) + 1 + 1 + 1) (by omega)]
    refine W.seq ?_
    refine W.reg X [] [] [0, 1, 5] [] rfl (by (repeat' (first | exact True.intro | apply And.intro)) <;> first | (intros; omega) | (simp only [byt, maxLen, lens]; omega)) ?_
    simp only [Int.toNat_natCast, gs, hc, List.set_set]
    refine W.seq ?_
    refine W.reg X [] [] [0, 1, 5] [] rfl ⟨⟩ ?_
    rw [IntWalk.i64_in ((k0 + (mnl mne_Dev (l.take k) : Nat)) + 1 + 1 + 1 + 1 + ((mnl (mnl (fun _ => 1))) e.live.submitted : Nat) + 1 + ((mnl (mnl (fun _ => 1))) e.live.inbox : Nat) + 1 + 1 + 1 + 1) (by omega)]
    refine W.seq ?_
    refine W.reg X [] [] [0, 1, 5] [] rfl (by (repeat' (first | exact True.intro | apply And.intro)) <;> first | (intros; omega) | (simp only [byt, maxLen, lens]; omega)) ?_
    simp only [Int.toNat_natCast, gs, hc, List.set_set]
    refine W.seq ?_
    refine W.reg X [] [] [0, 1, 5] [] rfl ⟨⟩ ?_
    rw [IntWalk.i64_in ((k0 + (mnl mne_Dev (l.take k) : Nat)) + 1 + 1 + 1 + 1 + ((mnl (mnl (fun _ => 1))) e.live.submitted : Nat) + 1 + ((mnl (mnl (fun _ => 1))) e.live.inbox : Nat) + 1 + 1 + 1 + 1 + 1) (by omega)]
    refine W.seq ?_
    refine W.reg X [] [(200115, ⟨false, [.a (.lit (.int .i64 ((k0 + (mnl mne_Dev (l.take k) : Nat)) + 1 + 1 + 1 + 1 + ((mnl (mnl (fun _ => 1))) e.live.submitted : Nat) + 1 + ((mnl (mnl (fun _ => 1))) e.live.inbox : Nat) + 1 + 1 + 1 + 1 + 1 + ((mnl (mnl (fun _ => 1))) e.saved.submitted : Nat)))), .a (.sl (.sl .u8) ((mkl (mkl mku8 (fun _ => 1)) (mnl (fun _ => 1))) ((k0 + (mnl mne_Dev (l.take k) : Nat)) + 1 + 1 + 1 + 1 + ((mnl (mnl (fun _ => 1))) e.live.submitted : Nat) + 1 + ((mnl (mnl (fun _ => 1))) e.live.inbox : Nat) + 1 + 1 + 1 + 1 + 1) e.saved.submitted)), .a (.lit (.int .i64 ((k0 + (mnl mne_Dev (l.take k) : Nat)) + 1 + 1 + 1 + 1 + ((mnl (mnl (fun _ => 1))) e.live.submitted : Nat) + 1 + ((mnl (mnl (fun _ => 1))) e.live.inbox : Nat) + 1 + 1 + 1 + 1 + 1)))]⟩)] [0, 1, 5] [] rfl (by (repeat' (first | exact True.intro | exact c_markByteSS e.saved.submitted ((k0 + (mnl mne_Dev (l.take k) : Nat)) + 1 + 1 + 1 + 1 + ((mnl (mnl (fun _ => 1))) e.live.submitted : Nat) + 1 + ((mnl (mnl (fun _ => 1))) e.live.inbox : Nat) + 1 + 1 + 1 + 1 + 1) (by omega) (by omega) | (simp only [Int.toNat_natCast, gs, hc]; exact c_markByteSS e.saved.submitted ((k0 + (mnl mne_Dev (l.take k) : Nat)) + 1 + 1 + 1 + 1 + ((mnl (mnl (fun _ => 1))) e.live.submitted : Nat) + 1 + ((mnl (mnl (fun _ => 1))) e.live.inbox : Nat) + 1 + 1 + 1 + 1 + 1) (by omega) (by omega)) | apply And.intro)) <;> first | (intros; omega) | (simp only [byt, maxLen, lens]; omega)) ?_
    simp only [Int.toNat_natCast, gs, hc, List.set_set]
    refine W.seq ?_
    refine W.reg X [] [] [0, 1, 5] [] rfl (by (repeat' (first | exact True.intro | apply And.intro)) <;> first | (intros; omega) | (simp only [byt, maxLen, lens]; omega)) ?_
    simp only [Int.toNat_natCast, gs, hc, List.set_set]
    refine W.seq ?_
    refine W.reg X [] [] [0, 1, 5] [] rfl ⟨⟩ ?_
    rw [IntWalk.i64_in ((k0 + (mnl mne_Dev (l.take k) : Nat)) + 1 + 1 + 1 + 1 + ((mnl (mnl (fun _ => 1))) e.live.submitted : Nat) + 1 + ((mnl (mnl (fun _ => 1))) e.live.inbox : Nat) + 1 + 1 + 1 + 1 + 1 + ((mnl (mnl (fun _ => 1))) e.saved.submitted : Nat) + 1) (by omega)]
    refine W.seq ?_
    refine W.reg X [] [(200131, ⟨false, [.a (.lit (.int .i64 ((k0 + (mnl mne_Dev (l.take k) : Nat)) + 1 + 1 + 1 + 1 + ((mnl (mnl (fun _ => 1))) e.live.submitted : Nat) + 1 + ((mnl (mnl (fun _ => 1))) e.live.inbox : Nat) + 1 + 1 + 1 + 1 + 1 + ((mnl (mnl (fun _ => 1))) e.saved.submitted : Nat) + 1 + ((mnl (mnl (fun _ => 1))) e.saved.inbox : Nat)))), .a (.sl (.sl .u8) ((mkl (mkl mku8 (fun _ => 1)) (mnl (fun _ => 1))) ((k0 + (mnl mne_Dev (l.take k) : Nat)) + 1 + 1 + 1 + 1 + ((mnl (mnl (fun _ => 1))) e.live.submitted : Nat) + 1 + ((mnl (mnl (fun _ => 1))) e.live.inbox : Nat) + 1 + 1 + 1 + 1 + 1 + ((mnl (mnl (fun _ => 1))) e.saved.submitted : Nat) + 1) e.saved.inbox)), .a (.lit (.int .i64 ((k0 + (mnl mne_Dev (l.take k) : Nat)) + 1 + 1 + 1 + 1 + ((mnl (mnl (fun _ => 1))) e.live.submitted : Nat) + 1 + ((mnl (mnl (fun _ => 1))) e.live.inbox : Nat) + 1 + 1 + 1 + 1 + 1 + ((mnl (mnl (fun _ => 1))) e.saved.submitted : Nat) + 1)))]⟩)] [0, 1, 5] [] rfl (by (repeat' (first | exact True.intro | exact c_markByteSS e.saved.inbox ((k0 + (mnl mne_Dev (l.take k) : Nat)) + 1 + 1 + 1 + 1 + ((mnl (mnl (fun _ => 1))) e.live.submitted : Nat) + 1 + ((mnl (mnl (fun _ => 1))) e.live.inbox : Nat) + 1 + 1 + 1 + 1 + 1 + ((mnl (mnl (fun _ => 1))) e.saved.submitted : Nat) + 1) (by omega) (by omega) | (simp only [Int.toNat_natCast, gs, hc]; exact c_markByteSS e.saved.inbox ((k0 + (mnl mne_Dev (l.take k) : Nat)) + 1 + 1 + 1 + 1 + ((mnl (mnl (fun _ => 1))) e.live.submitted : Nat) + 1 + ((mnl (mnl (fun _ => 1))) e.live.inbox : Nat) + 1 + 1 + 1 + 1 + 1 + ((mnl (mnl (fun _ => 1))) e.saved.submitted : Nat) + 1) (by omega) (by omega)) | apply And.intro)) <;> first | (intros; omega) | (simp only [byt, maxLen, lens]; omega)) ?_
    simp only [Int.toNat_natCast, gs, hc, List.set_set]
    refine W.seq ?_
    refine W.reg X [] [] [0, 1, 5] [] rfl (by (repeat' (first | exact True.intro | apply And.intro)) <;> first | (intros; omega) | (simp only [byt, maxLen, lens]; omega)) ?_
    simp only [Int.toNat_natCast, gs, hc, List.set_set]
    refine W.reg X [] [] [0, 1, 5] [] rfl ⟨⟩ ?_
    rw [IntWalk.i64_in ((k0 + (mnl mne_Dev (l.take k) : Nat)) + 1 + 1 + 1 + 1 + ((mnl (mnl (fun _ => 1))) e.live.submitted : Nat) + 1 + ((mnl (mnl (fun _ => 1))) e.live.inbox : Nat) + 1 + 1 + 1 + 1 + 1 + ((mnl (mnl (fun _ => 1))) e.saved.submitted : Nat) + 1 + ((mnl (mnl (fun _ => 1))) e.saved.inbox : Nat) + 1) (by omega)]
    refine W.reg X [] [] [0, 1, 5] [] rfl ⟨⟩ ?_
    refine ⟨k + 1, by omega, by omega, ?_⟩
    rw [wadd _ k rfl (by omega), show (k0 + (mnl mne_Dev (l.take k) : Nat)) + 1 + 1 + 1 + 1 + ((mnl (mnl (fun _ => 1))) e.live.submitted : Nat) + 1 + ((mnl (mnl (fun _ => 1))) e.live.inbox : Nat) + 1 + 1 + 1 + 1 + 1 + ((mnl (mnl (fun _ => 1))) e.saved.submitted : Nat) + 1 + ((mnl (mnl (fun _ => 1))) e.saved.inbox : Nat) + 1 = k0 + (mnl mne_Dev (l.take (k + 1)) : Nat) by omega, ← hst]
    try rfl
  · rw [mk_len l k0 k hk] at hb0
    try simp only [nb] at hb0
    refine W.exit ?_
    refine W.seq ?_
    refine W.reg X [] [] [4] [] rfl ⟨⟩ ?_
    refine W.ret ?_
    have hf : l.take k = l := List.take_of_length_le (by omega)
    have hd : l.drop k = [] := List.drop_eq_nil_of_le (by omega)
    exact FinM.ret rfl ⟨by rw [hf], by rw [hf, hd, List.append_nil], rfl, ⟨⟩⟩
theorem c_markIntS (l : (List Int)) (k0 : Int) (h0 : 0 ≤ k0) (h1 : k0 + ((mnl (fun _ => 1)) l : Nat) ≤ 1099511627776) : SoundM Try.prog 39 [.a (.sl .int l), .a (.lit (.int .i64 k0))] [.a (.sl .int ((mkl (fun k _ => k) (fun _ => 1)) k0 l)), .a (.lit (.int .i64 k0))] (.int .i64 (k0 + ((mnl (fun _ => 1)) l : Nat))) := by
  refine SoundM.of X Try.call39 Try.func39 rfl rfl Try.ntmps39 (by simp) ?_
  intro zb
  refine W.boundO 1000 rfl fun hl => ?_
  refine W.seq ?_
  refine W.reg X [] [] [0, 1] [] rfl ⟨⟩ ?_
  refine W.seq ?_
  refine W.seq ?_
  refine W.reg X [] [] [0, 1, 5] [] rfl ⟨⟩ ?_
  refine W.block ?_
  refine W.loopO (fun k => k ≤ l.length) (fun k : Nat => [(1, .one (.a (.lit (.int .i64 (k0 + (mnl (fun _ => 1) (l.take k) : Nat)))))), (5, .one (.a (.lit (.int .i64 k))))]) (fun k => [(1000, .arr .int (mkl (fun k _ => k) (fun _ => 1) k0 (l.take k) ++ l.drop k))]) (fun k => l.length - k) 0 (fun k => rfl) (Nat.zero_le _) (by simp [mkl, mnl]) ?_
  intro k hk
  refine W.seq ?_
  refine W.seq ?_
  refine W.reg X [] [] [0, 1, 5, 9] [] rfl ⟨⟩ ?_
  refine W.cond rfl (fun hb0 => ?_) (fun hb0 => ?_)
  · rw [mk_len l k0 k hk] at hb0
    try simp only [nb] at hb0
    have hc := mk_cur (mk := (fun k _ => k)) (mn := (fun _ => 1)) l k0 (dfl .int) k hb0
    have hlen := mk_len (mk := (fun k _ => k)) (mn := (fun _ => 1)) l k0 k (by omega)
    have hst := mk_step (mk := (fun k _ => k)) (mn := (fun _ => 1)) l k0 (dfl .int) k hb0
    have hms := mnl_step (mn := (fun _ => 1)) l (dfl .int) k hb0
    have hml := mnl_le (mn := (fun _ => 1)) l (k + 1)
    generalize mkl (fun k _ => k) (fun _ => 1) k0 (l.take k) ++ l.drop k = L at hc hlen hst ⊢
    generalize l.getD k (dfl .int) = e at hc hst hms
    have hL : k < L.length := by omega
    have gs : ∀ y : Int, (L.set k y).getD k (dfl .int) = y := fun y => getD_set L _ y k hL
    have gl : ∀ y : Int, (L.set k y).length = L.length := fun y => List.length_set
    refine W.skip ?_
    refine W.seq ?_
    refine W.block ?_
    refine W.seq ?_
    refine W.reg X [] [] [0, 1, 5] [] rfl (by (repeat' (first | exact True.intro | apply And.intro)) <;> first | (intros; omega)) ?_
    simp only [Int.toNat_natCast, gs, hc, List.set_set]
    refine W.reg X [] [] [0, 1, 5] [] rfl ⟨⟩ ?_
    rw [IntWalk.i64_in ((k0 + (mnl (fun _ => 1) (l.take k) : Nat)) + 1) (by omega)]
    refine W.reg X [] [] [0, 1, 5] [] rfl ⟨⟩ ?_
    refine ⟨k + 1, by omega, by omega, ?_⟩
    rw [wadd _ k rfl (by omega), show (k0 + (mnl (fun _ => 1) (l.take k) : Nat)) + 1 = k0 + (mnl (fun _ => 1) (l.take (k + 1)) : Nat) by omega, ← hst]
    try rfl
  · rw [mk_len l k0 k hk] at hb0
    try simp only [nb] at hb0
    refine W.exit ?_
    refine W.seq ?_
    refine W.reg X [] [] [4] [] rfl ⟨⟩ ?_
    refine W.ret ?_
    have hf : l.take k = l := List.take_of_length_le (by omega)
    have hd : l.drop k = [] := List.drop_eq_nil_of_le (by omega)
    exact FinM.ret rfl ⟨by rw [hf], by rw [hf, hd, List.append_nil], rfl, ⟨⟩⟩
theorem c_markReceivedShareS (l : (List RShare)) (k0 : Int) (h0 : 0 ≤ k0) (h1 : k0 + ((mnl mne_RShare) l : Nat) ≤ 1099511627776) : SoundM Try.prog 63 [.a (.sl .RShare l), .a (.lit (.int .i64 k0))] [.a (.sl .RShare ((mkl mke_RShare mne_RShare) k0 l)), .a (.lit (.int .i64 k0))] (.int .i64 (k0 + ((mnl mne_RShare) l : Nat))) := by
  refine SoundM.of X Try.call63 Try.func63 rfl rfl Try.ntmps63 (by simp) ?_
  intro zb
  refine W.boundO 1000 rfl fun hl => ?_
  refine W.seq ?_
  refine W.reg X [] [] [0, 1] [] rfl ⟨⟩ ?_
  refine W.seq ?_
  refine W.seq ?_
  refine W.reg X [] [] [0, 1, 5] [] rfl ⟨⟩ ?_
  refine W.block ?_
  refine W.loopO (fun k => k ≤ l.length) (fun k : Nat => [(1, .one (.a (.lit (.int .i64 (k0 + (mnl mne_RShare (l.take k) : Nat)))))), (5, .one (.a (.lit (.int .i64 k))))]) (fun k => [(1000, .arr .RShare (mkl mke_RShare mne_RShare k0 (l.take k) ++ l.drop k))]) (fun k => l.length - k) 0 (fun k => rfl) (Nat.zero_le _) (by simp [mkl, mnl]) ?_
  intro k hk
  refine W.seq ?_
  refine W.seq ?_
  refine W.reg X [] [] [0, 1, 5, 9] [] rfl ⟨⟩ ?_
  refine W.cond rfl (fun hb0 => ?_) (fun hb0 => ?_)
  · rw [mk_len l k0 k hk] at hb0
    try simp only [nb] at hb0
    have hc := mk_cur (mk := mke_RShare) (mn := mne_RShare) l k0 (dfl .RShare) k hb0
    have hlen := mk_len (mk := mke_RShare) (mn := mne_RShare) l k0 k (by omega)
    have hst := mk_step (mk := mke_RShare) (mn := mne_RShare) l k0 (dfl .RShare) k hb0
    have hms := mnl_step (mn := mne_RShare) l (dfl .RShare) k hb0
    have hml := mnl_le (mn := mne_RShare) l (k + 1)
    generalize mkl mke_RShare mne_RShare k0 (l.take k) ++ l.drop k = L at hc hlen hst ⊢
    generalize l.getD k (dfl .RShare) = e at hc hst hms
    have hL : k < L.length := by omega
    have gs : ∀ y : RShare, (L.set k y).getD k (dfl .RShare) = y := fun y => getD_set L _ y k hL
    have gl : ∀ y : RShare, (L.set k y).length = L.length := fun y => List.length_set
    simp only [mne_RShare, mne_DB] at hms
    refine W.skip ?_
    refine W.seq ?_
    refine W.block ?_
    refine W.seq ?_
    refine W.reg X [] [] [0, 1, 5] [] rfl (by (repeat' (first | exact True.intro | apply And.intro)) <;> first | (intros; omega)) ?_
    simp only [Int.toNat_natCast, gs, hc, List.set_set]
    refine W.seq ?_
    refine W.reg X [] [] [0, 1, 5] [] rfl ⟨⟩ ?_
    rw [IntWalk.i64_in ((k0 + (mnl mne_RShare (l.take k) : Nat)) + 1) (by omega)]
    refine W.reg X [] [(200026, ⟨false, [.a (.lit (.int .i64 ((k0 + (mnl mne_RShare (l.take k) : Nat)) + 1 + ((mnl (mnl (fun _ => 1))) e.share.rows : Nat)))), .a (.sl (.sl .u8) ((mkl (mkl mku8 (fun _ => 1)) (mnl (fun _ => 1))) ((k0 + (mnl mne_RShare (l.take k) : Nat)) + 1) e.share.rows)), .a (.lit (.int .i64 ((k0 + (mnl mne_RShare (l.take k) : Nat)) + 1)))]⟩)] [0, 1, 5] [] rfl (by (repeat' (first | exact True.intro | exact c_markByteSS e.share.rows ((k0 + (mnl mne_RShare (l.take k) : Nat)) + 1) (by omega) (by omega) | (simp only [Int.toNat_natCast, gs, hc]; exact c_markByteSS e.share.rows ((k0 + (mnl mne_RShare (l.take k) : Nat)) + 1) (by omega) (by omega)) | apply And.intro)) <;> first | (intros; omega) | (simp only [byt, maxLen, lens]; omega)) ?_
    simp only [Int.toNat_natCast, gs, hc, List.set_set]
    refine W.reg X [] [] [0, 1, 5] [] rfl ⟨⟩ ?_
    refine ⟨k + 1, by omega, by omega, ?_⟩
    rw [wadd _ k rfl (by omega), show (k0 + (mnl mne_RShare (l.take k) : Nat)) + 1 + ((mnl (mnl (fun _ => 1))) e.share.rows : Nat) = k0 + (mnl mne_RShare (l.take (k + 1)) : Nat) by omega, ← hst]
    try rfl
  · rw [mk_len l k0 k hk] at hb0
    try simp only [nb] at hb0
    refine W.exit ?_
    refine W.seq ?_
    refine W.reg X [] [] [4] [] rfl ⟨⟩ ?_
    refine W.ret ?_
    have hf : l.take k = l := List.take_of_length_le (by omega)
    have hd : l.drop k = [] := List.drop_eq_nil_of_le (by omega)
    exact FinM.ret rfl ⟨by rw [hf], by rw [hf, hd, List.append_nil], rfl, ⟨⟩⟩
theorem c_markServerS (l : (List Srv)) (k0 : Int) (h0 : 0 ≤ k0) (h1 : k0 + ((mnl mne_Srv) l : Nat) ≤ 1099511627776) : SoundM Try.prog 36 [.a (.sl .Srv l), .a (.lit (.int .i64 k0))] [.a (.sl .Srv ((mkl mke_Srv mne_Srv) k0 l)), .a (.lit (.int .i64 k0))] (.int .i64 (k0 + ((mnl mne_Srv) l : Nat))) := by
  refine SoundM.of X Try.call36 Try.func36 rfl rfl Try.ntmps36 (by simp) ?_
  intro zb
  refine W.boundO 1000 rfl fun hl => ?_
  refine W.seq ?_
  refine W.reg X [] [] [0, 1] [] rfl ⟨⟩ ?_
  refine W.seq ?_
  refine W.seq ?_
  refine W.reg X [] [] [0, 1, 5] [] rfl ⟨⟩ ?_
  refine W.block ?_
  refine W.loopO (fun k => k ≤ l.length) (fun k : Nat => [(1, .one (.a (.lit (.int .i64 (k0 + (mnl mne_Srv (l.take k) : Nat)))))), (5, .one (.a (.lit (.int .i64 k))))]) (fun k => [(1000, .arr .Srv (mkl mke_Srv mne_Srv k0 (l.take k) ++ l.drop k))]) (fun k => l.length - k) 0 (fun k => rfl) (Nat.zero_le _) (by simp [mkl, mnl]) ?_
  intro k hk
  refine W.seq ?_
  refine W.seq ?_
  refine W.reg X [] [] [0, 1, 5, 9] [] rfl ⟨⟩ ?_
  refine W.cond rfl (fun hb0 => ?_) (fun hb0 => ?_)
  · rw [mk_len l k0 k hk] at hb0
    try simp only [nb] at hb0
    have hc := mk_cur (mk := mke_Srv) (mn := mne_Srv) l k0 (dfl .Srv) k hb0
    have hlen := mk_len (mk := mke_Srv) (mn := mne_Srv) l k0 k (by omega)
    have hst := mk_step (mk := mke_Srv) (mn := mne_Srv) l k0 (dfl .Srv) k hb0
    have hms := mnl_step (mn := mne_Srv) l (dfl .Srv) k hb0
    have hml := mnl_le (mn := mne_Srv) l (k + 1)
    generalize mkl mke_Srv mne_Srv k0 (l.take k) ++ l.drop k = L at hc hlen hst ⊢
    generalize l.getD k (dfl .Srv) = e at hc hst hms
    have hL : k < L.length := by omega
    have gs : ∀ y : Srv, (L.set k y).getD k (dfl .Srv) = y := fun y => getD_set L _ y k hL
    have gl : ∀ y : Srv, (L.set k y).length = L.length := fun y => List.length_set
    simp only [mne_Srv] at hms
    refine W.skip ?_
    refine W.seq ?_
    refine W.block ?_
    refine W.seq ?_
    refine W.reg X [] [] [0, 1, 5] [] rfl (by (repeat' (first | exact True.intro | apply And.intro)) <;> first | (intros; omega)) ?_
    simp only [Int.toNat_natCast, gs, hc, List.set_set]
    refine W.seq ?_
    refine W.reg X [] [] [0, 1, 5] [] rfl ⟨⟩ ?_
    rw [IntWalk.i64_in ((k0 + (mnl mne_Srv (l.take k) : Nat)) + 1) (by omega)]
    refine W.seq ?_
    refine W.reg X [] [] [0, 1, 5] [] rfl (by (repeat' (first | exact True.intro | apply And.intro)) <;> first | (intros; omega) | (simp only [byt, maxLen, lens]; omega)) ?_
    simp only [Int.toNat_natCast, gs, hc, List.set_set]
    refine W.seq ?_
    refine W.reg X [] [] [0, 1, 5] [] rfl ⟨⟩ ?_
    rw [IntWalk.i64_in ((k0 + (mnl mne_Srv (l.take k) : Nat)) + 1 + 1) (by omega)]
    refine W.seq ?_
    refine W.reg X [] [] [0, 1, 5] [] rfl (by (repeat' (first | exact True.intro | apply And.intro)) <;> first | (intros; omega) | (simp only [byt, maxLen, lens]; omega)) ?_
    simp only [Int.toNat_natCast, gs, hc, List.set_set]
    refine W.seq ?_
    refine W.reg X [] [] [0, 1, 5] [] rfl ⟨⟩ ?_
    rw [IntWalk.i64_in ((k0 + (mnl mne_Srv (l.take k) : Nat)) + 1 + 1 + 1) (by omega)]
    refine W.seq ?_
    refine W.reg X [] [(200039, ⟨false, [.a (.lit (.int .i64 ((k0 + (mnl mne_Srv (l.take k) : Nat)) + 1 + 1 + 1 + ((mnl mne_RShare) e.received : Nat)))), .a (.sl .RShare ((mkl mke_RShare mne_RShare) ((k0 + (mnl mne_Srv (l.take k) : Nat)) + 1 + 1 + 1) e.received)), .a (.lit (.int .i64 ((k0 + (mnl mne_Srv (l.take k) : Nat)) + 1 + 1 + 1)))]⟩)] [0, 1, 5] [] rfl (by (repeat' (first | exact True.intro | exact c_markReceivedShareS e.received ((k0 + (mnl mne_Srv (l.take k) : Nat)) + 1 + 1 + 1) (by omega) (by omega) | (simp only [Int.toNat_natCast, gs, hc]; exact c_markReceivedShareS e.received ((k0 + (mnl mne_Srv (l.take k) : Nat)) + 1 + 1 + 1) (by omega) (by omega)) | apply And.intro)) <;> first | (intros; omega) | (simp only [byt, maxLen, lens]; omega)) ?_
    simp only [Int.toNat_natCast, gs, hc, List.set_set]
    refine W.seq ?_
    refine W.reg X [] [] [0, 1, 5] [] rfl (by (repeat' (first | exact True.intro | apply And.intro)) <;> first | (intros; omega) | (simp only [byt, maxLen, lens]; omega)) ?_
    simp only [Int.toNat_natCast, gs, hc, List.set_set]
    refine W.reg X [] [] [0, 1, 5] [] rfl ⟨⟩ ?_
    rw [IntWalk.i64_in ((k0 + (mnl mne_Srv (l.take k) : Nat)) + 1 + 1 + 1 + ((mnl mne_RShare) e.received : Nat) + 1) (by omega)]
    refine W.reg X [] [] [0, 1, 5] [] rfl ⟨⟩ ?_
    refine ⟨k + 1, by omega, by omega, ?_⟩
    rw [wadd _ k rfl (by omega), show (k0 + (mnl mne_Srv (l.take k) : Nat)) + 1 + 1 + 1 + ((mnl mne_RShare) e.received : Nat) + 1 = k0 + (mnl mne_Srv (l.take (k + 1)) : Nat) by omega, ← hst]
    try rfl
  · rw [mk_len l k0 k hk] at hb0
    try simp only [nb] at hb0
    refine W.exit ?_
    refine W.seq ?_
    refine W.reg X [] [] [4] [] rfl ⟨⟩ ?_
    refine W.ret ?_
    have hf : l.take k = l := List.take_of_length_le (by omega)
    have hd : l.drop k = [] := List.drop_eq_nil_of_le (by omega)
    exact FinM.ret rfl ⟨by rw [hf], by rw [hf, hd, List.append_nil], rfl, ⟨⟩⟩
theorem c_markTransferS (l : (List Trf)) (k0 : Int) (h0 : 0 ≤ k0) (h1 : k0 + ((mnl mne_Trf) l : Nat) ≤ 1099511627776) : SoundM Try.prog 12 [.a (.sl .Trf l), .a (.lit (.int .i64 k0))] [.a (.sl .Trf ((mkl mke_Trf mne_Trf) k0 l)), .a (.lit (.int .i64 k0))] (.int .i64 (k0 + ((mnl mne_Trf) l : Nat))) := by
  refine SoundM.of X Try.call12 Try.func12 rfl rfl Try.ntmps12 (by simp) ?_
  intro zb
  refine W.boundO 1000 rfl fun hl => ?_
  refine W.seq ?_
  refine W.reg X [] [] [0, 1] [] rfl ⟨⟩ ?_
  refine W.seq ?_
  refine W.seq ?_
  refine W.reg X [] [] [0, 1, 5] [] rfl ⟨⟩ ?_
  refine W.block ?_
  refine W.loopO (fun k => k ≤ l.length) (fun k : Nat => [(1, .one (.a (.lit (.int .i64 (k0 + (mnl mne_Trf (l.take k) : Nat)))))), (5, .one (.a (.lit (.int .i64 k))))]) (fun k => [(1000, .arr .Trf (mkl mke_Trf mne_Trf k0 (l.take k) ++ l.drop k))]) (fun k => l.length - k) 0 (fun k => rfl) (Nat.zero_le _) (by simp [mkl, mnl]) ?_
  intro k hk
  refine W.seq ?_
  refine W.seq ?_
  refine W.reg X [] [] [0, 1, 5, 9] [] rfl ⟨⟩ ?_
  refine W.cond rfl (fun hb0 => ?_) (fun hb0 => ?_)
  · rw [mk_len l k0 k hk] at hb0
    try simp only [nb] at hb0
    have hc := mk_cur (mk := mke_Trf) (mn := mne_Trf) l k0 (dfl .Trf) k hb0
    have hlen := mk_len (mk := mke_Trf) (mn := mne_Trf) l k0 k (by omega)
    have hst := mk_step (mk := mke_Trf) (mn := mne_Trf) l k0 (dfl .Trf) k hb0
    have hms := mnl_step (mn := mne_Trf) l (dfl .Trf) k hb0
    have hml := mnl_le (mn := mne_Trf) l (k + 1)
    generalize mkl mke_Trf mne_Trf k0 (l.take k) ++ l.drop k = L at hc hlen hst ⊢
    generalize l.getD k (dfl .Trf) = e at hc hst hms
    have hL : k < L.length := by omega
    have gs : ∀ y : Trf, (L.set k y).getD k (dfl .Trf) = y := fun y => getD_set L _ y k hL
    have gl : ∀ y : Trf, (L.set k y).length = L.length := fun y => List.length_set
    simp only [mne_Trf] at hms
    refine W.skip ?_
    refine W.seq ?_
    refine W.block ?_
    refine W.seq ?_
    refine W.reg X [] [] [0, 1, 5] [] rfl (by (repeat' (first | exact True.intro | apply And.intro)) <;> first | (intros; omega)) ?_
    simp only [Int.toNat_natCast, gs, hc, List.set_set]
    refine W.seq ?_
    refine W.reg X [] [] [0, 1, 5] [] rfl ⟨⟩ ?_
    rw [IntWalk.i64_in ((k0 + (mnl mne_Trf (l.take k) : Nat)) + 1) (by omega)]
    refine W.seq ?_
    refine W.reg X [] [] [0, 1, 5] [] rfl (by (repeat' (first | exact True.intro | apply And.intro)) <;> first | (intros; omega) | (simp only [byt, maxLen, lens]; omega)) ?_
    simp only [Int.toNat_natCast, gs, hc, List.set_set]
    refine W.seq ?_
    refine W.reg X [] [] [0, 1, 5] [] rfl ⟨⟩ ?_
    rw [IntWalk.i64_in ((k0 + (mnl mne_Trf (l.take k) : Nat)) + 1 + 1) (by omega)]
    refine W.seq ?_
    refine W.reg X [] [] [0, 1, 5] [] rfl (by (repeat' (first | exact True.intro | apply And.intro)) <;> first | (intros; omega) | (simp only [byt, maxLen, lens]; omega)) ?_
    simp only [Int.toNat_natCast, gs, hc, List.set_set]
    refine W.reg X [] [] [0, 1, 5] [] rfl ⟨⟩ ?_
    rw [IntWalk.i64_in ((k0 + (mnl mne_Trf (l.take k) : Nat)) + 1 + 1 + 1) (by omega)]
    refine W.reg X [] [] [0, 1, 5] [] rfl ⟨⟩ ?_
    refine ⟨k + 1, by omega, by omega, ?_⟩
    rw [wadd _ k rfl (by omega), show (k0 + (mnl mne_Trf (l.take k) : Nat)) + 1 + 1 + 1 = k0 + (mnl mne_Trf (l.take (k + 1)) : Nat) by omega, ← hst]
    try rfl
  · rw [mk_len l k0 k hk] at hb0
    try simp only [nb] at hb0
    refine W.exit ?_
    refine W.seq ?_
    refine W.reg X [] [] [4] [] rfl ⟨⟩ ?_
    refine W.ret ?_
    have hf : l.take k = l := List.take_of_length_le (by omega)
    have hd : l.drop k = [] := List.drop_eq_nil_of_le (by omega)
    exact FinM.ret rfl ⟨by rw [hf], by rw [hf, hd, List.append_nil], rfl, ⟨⟩⟩
theorem c_markWorld (x : Wld) (k0 : Int) (h0 : 0 ≤ k0) (h1 : k0 + (mnv_Wld x : Nat) ≤ 1099511627776) : SoundM Try.prog 11 [.agg (dec_Wld x), .a (.lit (.int .i64 k0))] [.agg (dec_Wld (mkv_Wld k0 x)), .a (.lit (.int .i64 k0))] (.int .i64 (k0 + (mnv_Wld x : Nat))) := by
  refine SoundM.of X Try.call11 Try.func11 rfl rfl Try.ntmps11 (by simp) ?_
  intro zb
  unfold mnv_Wld at h1 ⊢
  refine W.seq ?_
  refine W.reg X [] [] [1, 2] [] rfl ⟨⟩ ?_
  refine W.seq ?_
  refine W.reg X [] [(100008, ⟨false, [.a (.lit (.int .i64 (k0 + ((mnl mne_Srv) x.servers : Nat)))), .a (.sl .Srv ((mkl mke_Srv mne_Srv) (k0) x.servers)), .a (.lit (.int .i64 (k0)))]⟩)] [1, 2] [] rfl ⟨c_markServerS x.servers (k0) (by omega) (by omega), ⟨⟩⟩ ?_
  refine W.seq ?_
  refine W.reg X [] [(100012, ⟨false, [.a (.lit (.int .i64 (k0 + ((mnl mne_Srv) x.servers : Nat) + ((mnl mne_Dev) x.devices : Nat)))), .a (.sl .Dev ((mkl mke_Dev mne_Dev) (k0 + ((mnl mne_Srv) x.servers : Nat)) x.devices)), .a (.lit (.int .i64 (k0 + ((mnl mne_Srv) x.servers : Nat))))]⟩)] [1, 2] [] rfl ⟨c_markDeviceS x.devices (k0 + ((mnl mne_Srv) x.servers : Nat)) (by omega) (by omega), ⟨⟩⟩ ?_
  refine W.seq ?_
  refine W.reg X [] [(100016, ⟨false, [.a (.lit (.int .i64 (k0 + ((mnl mne_Srv) x.servers : Nat) + ((mnl mne_Dev) x.devices : Nat) + (mnv_Arc x.archive : Nat)))), .agg (dec_Arc (mkv_Arc (k0 + ((mnl mne_Srv) x.servers : Nat) + ((mnl mne_Dev) x.devices : Nat)) x.archive)), .a (.lit (.int .i64 (k0 + ((mnl mne_Srv) x.servers : Nat) + ((mnl mne_Dev) x.devices : Nat))))]⟩)] [1, 2] [] rfl ⟨c_markArchive x.archive (k0 + ((mnl mne_Srv) x.servers : Nat) + ((mnl mne_Dev) x.devices : Nat)) (by omega) (by omega), ⟨⟩⟩ ?_
  refine W.seq ?_
  refine W.reg X [] [(100020, ⟨false, [.a (.lit (.int .i64 (k0 + ((mnl mne_Srv) x.servers : Nat) + ((mnl mne_Dev) x.devices : Nat) + (mnv_Arc x.archive : Nat) + ((mnl (fun _ => 1)) x.replaced : Nat)))), .a (.sl .int ((mkl (fun k _ => k) (fun _ => 1)) (k0 + ((mnl mne_Srv) x.servers : Nat) + ((mnl mne_Dev) x.devices : Nat) + (mnv_Arc x.archive : Nat)) x.replaced)), .a (.lit (.int .i64 (k0 + ((mnl mne_Srv) x.servers : Nat) + ((mnl mne_Dev) x.devices : Nat) + (mnv_Arc x.archive : Nat))))]⟩)] [1] [] rfl ⟨c_markIntS x.replaced (k0 + ((mnl mne_Srv) x.servers : Nat) + ((mnl mne_Dev) x.devices : Nat) + (mnv_Arc x.archive : Nat)) (by omega) (by omega), ⟨⟩⟩ ?_
  refine W.seq ?_
  refine W.reg X [] [] [4] [] rfl ⟨⟩ ?_
  refine W.ret ?_
  exact FinM.ret rfl (by (repeat' (first | exact True.intro | apply And.intro)) <;> first | rfl | (congr 1; omega))
end Go.Proofs.Ytlocnjfgeifmnaa.G
namespace Go.Proofs.Ytlocnjfgeifmnaa.G
set_option linter.all false
open Go.RowKit L D
set_option maxRecDepth 100000
theorem c_heldTransferS (l : (List Trf)) (k0 : Int) (h0 : 0 ≤ k0) (h1 : k0 + ((mnl mne_Trf) l : Nat) ≤ 1099511627776) : Sound ty Try.prog 13 [.a (.sl .Trf ((mkl mke_Trf mne_Trf) k0 l)), .a (.lit (.int .i64 k0))] [.a (.lit (.int .i64 (k0 + ((mnl mne_Trf) l : Nat))))] := by
  refine Sound.of X Try.call13 Try.func13 rfl rfl (by decide) Try.ntmps13 (by simp) ?_
  intro zb
  refine W.bound 0 rfl fun hl => ?_
  rw [mkl_len] at hl
  refine W.seq ?_
  refine W.reg X [] [] [0, 1] [] rfl ⟨⟩ ?_
  refine W.seq ?_
  refine W.seq ?_
  refine W.reg X [] [] [0, 1, 5] [] rfl ⟨⟩ ?_
  refine W.block ?_
  refine W.loopO (fun k => k ≤ l.length) (fun k : Nat => [(1, .one (.a (.lit (.int .i64 (k0 + (mnl mne_Trf (l.take k) : Nat)))))), (5, .one (.a (.lit (.int .i64 k))))]) (fun k => []) (fun k => l.length - k) 0 (fun k => rfl) (Nat.zero_le _) (by simp [mnl]) ?_
  intro k hk
  refine W.seq ?_
  refine W.seq ?_
  refine W.reg X [] [] [0, 1, 5, 9] [] rfl ⟨⟩ ?_
  refine W.cond rfl (fun hb0 => ?_) (fun hb0 => ?_)
  · rw [mkl_len] at hb0
    try simp only [nb] at hb0
    have hg := mkl_getD (mk := mke_Trf) (mn := mne_Trf) (k := k0) (d := dfl .Trf) hb0
    have hms := mnl_step (mn := mne_Trf) l (dfl .Trf) k hb0
    have hml := mnl_le (mn := mne_Trf) l (k + 1)
    have hlen : (mkl mke_Trf mne_Trf k0 l).length = l.length := mkl_len
    generalize l.getD k (dfl .Trf) = e at hg hms
    simp only [mne_Trf] at hms
    simp only [mke_Trf] at hg
    refine W.skip ?_
    refine W.seq ?_
    refine W.block ?_
    refine W.seq ?_
    refine W.seq ?_
    refine W.reg X [] [] [0, 1, 5, 18] [] rfl (by (repeat' (first | exact True.intro | apply And.intro)) <;> first | (intros; omega)) ?_
    refine W.cond rfl (fun hb1 => ?_) (fun hb1 => ?_)
    · exact absurd hb1 (by first | (simp only [decide_eq_true_eq]; omega) | (simp only [Int.toNat_natCast, hg]; simp; done) | (simp only [Int.toNat_natCast, hg, mku8, u8_rt]; simp))
    · clear hb1
      refine W.skip ?_
      refine W.seq ?_
      refine W.reg X [] [] [0, 1, 5] [] rfl ⟨⟩ ?_
      rw [IntWalk.i64_in ((k0 + (mnl mne_Trf (l.take k) : Nat)) + 1) (by omega)]
      refine W.seq ?_
      refine W.seq ?_
      refine W.reg X [] [] [0, 1, 5, 27] [] rfl (by (repeat' (first | exact True.intro | apply And.intro)) <;> first | (intros; omega)) ?_
      refine W.cond rfl (fun hb2 => ?_) (fun hb2 => ?_)
      · exact absurd hb2 (by first | (simp only [decide_eq_true_eq]; omega) | (simp only [Int.toNat_natCast, hg]; simp; done) | (simp only [Int.toNat_natCast, hg, mku8, u8_rt]; simp))
      · clear hb2
        refine W.skip ?_
        refine W.seq ?_
        refine W.reg X [] [] [0, 1, 5] [] rfl ⟨⟩ ?_
        rw [IntWalk.i64_in ((k0 + (mnl mne_Trf (l.take k) : Nat)) + 1 + 1) (by omega)]
        refine W.seq ?_
        refine W.seq ?_
        refine W.reg X [] [] [0, 1, 5, 36] [] rfl (by (repeat' (first | exact True.intro | apply And.intro)) <;> first | (intros; omega)) ?_
        refine W.cond rfl (fun hb3 => ?_) (fun hb3 => ?_)
        · exact absurd hb3 (by first | (simp only [decide_eq_true_eq]; omega) | (simp only [Int.toNat_natCast, hg]; simp; done) | (simp only [Int.toNat_natCast, hg, mku8, u8_rt]; simp))
        · clear hb3
          refine W.skip ?_
          refine W.reg X [] [] [0, 1, 5] [] rfl ⟨⟩ ?_
          rw [IntWalk.i64_in ((k0 + (mnl mne_Trf (l.take k) : Nat)) + 1 + 1 + 1) (by omega)]
          refine W.reg X [] [] [0, 1, 5] [] rfl ⟨⟩ ?_
          refine ⟨k + 1, by omega, by omega, ?_⟩
          rw [wadd _ k rfl (by omega), show (k0 + (mnl mne_Trf (l.take k) : Nat)) + 1 + 1 + 1 = k0 + (mnl mne_Trf (l.take (k + 1)) : Nat) by omega]
          try rfl
  · rw [mkl_len] at hb0
    try simp only [nb] at hb0
    refine W.exit ?_
    refine W.seq ?_
    refine W.reg X [] [] [4] [] rfl ⟨⟩ ?_
    refine W.ret ?_
    exact Fin.ret rfl ⟨by rw [List.take_of_length_le (by omega)], ⟨⟩⟩
end Go.Proofs.Ytlocnjfgeifmnaa.G
namespace Go.Proofs.Ytlocnjfgeifmnaa.G
set_option linter.all false
open Go.RowKit L D
theorem i64w {a : Int} (h : -9223372036854775808 ≤ a ∧ a ≤ 9223372036854775807) : IntKind.i64.wrap a = a := IntWalk.i64_in _ (by omega)
theorem tdiv_pos {a b : Int} (h : 0 ≤ a) : a.tdiv b = a / b := Int.tdiv_eq_ediv_of_nonneg h
def hs1 (h v : Int) : Int := (h * 1000003 + v % 2147483647 + 13) % 2147483647
def hsh (l : List Int) : Int := l.foldl hs1 11
def kh (k : Int) (l : List Int) : Int := hsh (k :: (l ++ [k]))
def cs (s k : Int) : Int := (kh s [47, k] * kh s [47, k] + 5) % 2147483647
def inr (x lo hi : Int) : Bool := if decide (x ≥ lo) then decide (x ≤ hi) else false
theorem inr_t {x lo hi : Int} : (inr x lo hi = true) = (lo ≤ x ∧ x ≤ hi) := by simp [inr]
theorem inr_f {x lo hi : Int} : (inr x lo hi = false) = ¬ (lo ≤ x ∧ x ≤ hi) := by rw [← inr_t]; simp
theorem isEmpty_t {α : Type} {l : List α} : (l.isEmpty = true) = (l = []) := by simp
theorem lensum_step {α : Type} (l : List (List α)) (d : List α) (k : Nat) (h : k < l.length) : ((l.take (k + 1)).map List.length).sum = ((l.take k).map List.length).sum + (l.getD k d).length := sum_step List.length l d k h
theorem flatten_step {α : Type} (l : List (List α)) (d : List α) (k : Nat) (h : k < l.length) : (l.take (k + 1)).flatten = (l.take k).flatten ++ l.getD k d := by
  rw [take_snoc l k d h, List.flatten_append]; simp
theorem flatten_len {α : Type} (l : List (List α)) (k : Nat) : (l.take k).flatten.length ≤ (l.map List.length).sum := by
  rw [List.length_flatten]; exact take_sum_le l List.length k
end Go.Proofs.Ytlocnjfgeifmnaa.G
namespace Go.Proofs.Ytlocnjfgeifmnaa.G
set_option linter.all false
open Go.RowKit L D
end Go.Proofs.Ytlocnjfgeifmnaa.G
namespace Go.Proofs.Ytlocnjfgeifmnaa.G
set_option linter.all false
open Go.RowKit L D
theorem ite_tt (b c : Bool) : (if b = true then true else c) = (b || c) := by cases b <;> rfl
theorem ite_ff (b c : Bool) : (if b = true then c else false) = (b && c) := by cases b <;> rfl
theorem not_dlt (a b : Int) : (!decide (a < b)) = decide (b ≤ a) := by rw [← decide_not]; congr 1; exact propext Int.not_lt
theorem not_dle (a b : Int) : (!decide (a ≤ b)) = decide (b < a) := by rw [← decide_not]; congr 1; exact propext Int.not_le
theorem bne_not (a b : Int) : (a != b) = !(a == b) := rfl
theorem deq (a b : Int) : decide (a = b) = (a == b) := rfl
theorem or_no1 {E R : Bool} (h : E = true) (he : E = !R) : R = false := by
  rw [h] at he
  cases R with
  | false => rfl
  | true => exact absurd he (by decide)
theorem or_yes {E R : Bool} (h : E = false) (he : E = !R) : R = true := by
  rw [h] at he
  cases R with
  | true => rfl
  | false => exact absurd he (by decide)
def srvCnt (n : Int) : Bool := inr n 2 4
end Go.Proofs.Ytlocnjfgeifmnaa.G
namespace Go.Proofs.Ytlocnjfgeifmnaa.G
set_option linter.all false
open Go.RowKit L D
theorem dev_le {x : Wld} (h : size_Wld x ≤ 1048576) : x.devices.length ≤ 1048576 := by
  have h2 : lsz size_Dev x.devices ≤ 1048576 := by unfold size_Wld at h; omega
  exact lsz_len h2
theorem srv_le {x : Wld} (h : size_Wld x ≤ 1048576) : x.servers.length ≤ 1048576 := by
  have h2 : lsz size_Srv x.servers ≤ 1048576 := by unfold size_Wld at h; omega
  exact lsz_len h2
end Go.Proofs.Ytlocnjfgeifmnaa.G
