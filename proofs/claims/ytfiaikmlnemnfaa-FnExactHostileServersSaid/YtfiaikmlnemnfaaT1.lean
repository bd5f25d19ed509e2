/-
  The types of this program, for the symbolic machine.
-/
import Derived.Test.YtfiaikmlnemnfaaG18
import Derived.Test.YtfiaikmlnemnfaaRows
import Derived.KernelRfl
namespace Go.Proofs.Ytfiaikmlnemnfaa.G
set_option linter.all false
open Go.RowKit L D

theorem inf_3 : (Try.prog.info? 3).map (fun i => (i.zero, i.size, i.bytes)) = some (some (.int .i64 0), 1, 8) := by kernel_rfl
theorem inf_5 : (Try.prog.info? 5).map (fun i => (i.zero, i.size, i.bytes)) = some (some (.int .u8 0), 1, 1) := by kernel_rfl
theorem inf_9 : (Try.prog.info? 9).map (fun i => (i.zero, i.size, i.bytes)) = some (some (.string ⟨#[]⟩), 1, 16) := by kernel_rfl
theorem inf_76 : (Try.prog.info? 76).map (fun i => (i.zero, i.size, i.bytes)) = some (some (.slice none 0 0), 1, 24) := by kernel_rfl
theorem inf_27 : (Try.prog.info? 27).map (fun i => (i.zero, i.size, i.bytes)) = some (some (.slice none 0 0), 1, 24) := by kernel_rfl
theorem inf_50 : (Try.prog.info? 50).map (fun i => (i.zero, i.size, i.bytes)) = some (some (.slice none 0 0), 1, 24) := by kernel_rfl
theorem inf_71 : (Try.prog.info? 71).map (fun i => (i.zero, i.size, i.bytes)) = some (some (.agg #[.slice none 0 0]), 1, 24) := by kernel_rfl
theorem inf_132 : (Try.prog.info? 132).map (fun i => (i.zero, i.size, i.bytes)) = some (some (.agg #[.slice none 0 0]), 1, 24) := by kernel_rfl
theorem inf_144 : (Try.prog.info? 144).map (fun i => (i.zero, i.size, i.bytes)) = some (some (.agg #[.int .i64 0, .slice none 0 0]), 2, 32) := by kernel_rfl
theorem inf_158 : (Try.prog.info? 158).map (fun i => (i.zero, i.size, i.bytes)) = some (some (.agg #[.int .i64 0, .slice none 0 0]), 2, 32) := by kernel_rfl
theorem inf_81 : (Try.prog.info? 81).map (fun i => (i.zero, i.size, i.bytes)) = some (some (.agg #[.int .i64 0, .int .i64 0, .int .i64 0, .slice none 0 0, .int .i64 0]), 5, 56) := by kernel_rfl
theorem inf_96 : (Try.prog.info? 96).map (fun i => (i.zero, i.size, i.bytes)) = some (some (.agg #[.int .i64 0, .int .i64 0, .int .i64 0, .slice none 0 0, .int .i64 0]), 5, 56) := by kernel_rfl
theorem inf_73 : (Try.prog.info? 73).map (fun i => (i.zero, i.size, i.bytes)) = some (some (.agg #[.int .i64 0, .slice none 0 0]), 2, 32) := by kernel_rfl
theorem inf_134 : (Try.prog.info? 134).map (fun i => (i.zero, i.size, i.bytes)) = some (some (.agg #[.int .i64 0, .slice none 0 0]), 2, 32) := by kernel_rfl
theorem inf_36 : (Try.prog.info? 36).map (fun i => (i.zero, i.size, i.bytes)) = some (some (.agg #[.int .i64 0, .slice none 0 0]), 2, 32) := by kernel_rfl
theorem inf_26 : (Try.prog.info? 26).map (fun i => (i.zero, i.size, i.bytes)) = some (some (.agg #[.int .i64 0, .slice none 0 0]), 2, 32) := by kernel_rfl
theorem inf_66 : (Try.prog.info? 66).map (fun i => (i.zero, i.size, i.bytes)) = some (some (.agg #[.int .i64 0, .int .i64 0, .int .i64 0, .int .i64 0, .slice none 0 0, .int .i64 0, .slice none 0 0, .int .i64 0]), 8, 96) := by kernel_rfl
theorem inf_98 : (Try.prog.info? 98).map (fun i => (i.zero, i.size, i.bytes)) = some (some (.agg #[.int .i64 0, .int .i64 0, .int .i64 0, .int .i64 0, .slice none 0 0, .int .i64 0, .slice none 0 0, .int .i64 0]), 8, 96) := by kernel_rfl
theorem inf_68 : (Try.prog.info? 68).map (fun i => (i.zero, i.size, i.bytes)) = some (some (.agg #[.int .i64 0, .int .i64 0, .int .i64 0, .int .i64 0, .slice none 0 0, .int .i64 0, .slice none 0 0, .int .i64 0, .int .i64 0, .int .i64 0, .int .i64 0, .int .i64 0, .slice none 0 0, .int .i64 0, .slice none 0 0, .int .i64 0]), 16, 192) := by kernel_rfl
theorem inf_100 : (Try.prog.info? 100).map (fun i => (i.zero, i.size, i.bytes)) = some (some (.agg #[.int .i64 0, .int .i64 0, .int .i64 0, .int .i64 0, .slice none 0 0, .int .i64 0, .slice none 0 0, .int .i64 0, .int .i64 0, .int .i64 0, .int .i64 0, .int .i64 0, .slice none 0 0, .int .i64 0, .slice none 0 0, .int .i64 0]), 16, 192) := by kernel_rfl
theorem inf_38 : (Try.prog.info? 38).map (fun i => (i.zero, i.size, i.bytes)) = some (some (.agg #[.int .i64 0, .slice none 0 0, .slice none 0 0, .int .i64 0, .slice none 0 0, .int .i64 0, .int .i64 0, .int .i64 0, .slice none 0 0, .int .i64 0]), 10, 144) := by kernel_rfl
theorem inf_29 : (Try.prog.info? 29).map (fun i => (i.zero, i.size, i.bytes)) = some (some (.agg #[.int .i64 0, .slice none 0 0, .slice none 0 0, .int .i64 0, .slice none 0 0, .int .i64 0, .int .i64 0, .int .i64 0, .slice none 0 0, .int .i64 0]), 10, 144) := by kernel_rfl
theorem inf_128 : (Try.prog.info? 128).map (fun i => (i.zero, i.size, i.bytes)) = some (some (.agg #[.int .i64 0, .slice none 0 0]), 2, 32) := by kernel_rfl
theorem sz_of {P : Program} {i : Nat} {z : Option Value} {k b : Nat} (h : (P.info? i).map (fun i => (i.zero, i.size, i.bytes)) = some (z, k, b)) : (P.info? i).map (·.size) = some k := by
  cases hq : P.info? i with
  | none => simp [hq] at h
  | some x => simp [hq] at h; simp [h]
theorem sz_z_of {P : Program} {i : Nat} {z : Option Value} {k b : Nat} (h : (P.info? i).map (fun i => (i.zero, i.size, i.bytes)) = some (z, k, b)) : (P.info? i).map (fun i => (i.size, i.zero)) = some (k, z) := by
  cases hq : P.info? i with
  | none => simp [hq] at h
  | some x => simp [hq] at h; simp [h]
theorem st_ok {P : Program} {t : Nat} {z : List Value} {tg : List (Option Tag)} {fo : List Nat} {fs : Array Field} {b : Nat} (hu : P.underlying t = some (.struct fs)) (hi : (P.info? t).map (fun i => (i.zero, i.size, i.bytes)) = some (some (.agg z.toArray), z.length, b)) (hz : z.all (·.oneCell') = true) (hf : fieldsok P z.length fs.toList fo = true) : TKok P t (.st z tg fo) :=
  ⟨fs, hu, sz_z_of hi, fun v hv => List.all_eq_true.1 hz v hv, fun f k h => by obtain ⟨fd, h1, h2⟩ := (fieldsok_ok hf).1 f k h; exact ⟨fd, by simpa using h1, h2⟩, (fieldsok_ok hf).2⟩
theorem one_of {P : Program} {i : Nat} (h : (P.info? i).map (fun i => Nat.beq i.size 1) = some true) : (P.info? i).map (·.size) = some 1 := by
  cases hq : P.info? i with
  | none => simp [hq] at h
  | some x => simp [hq] at h; simp [h]
def tys : List (Nat × TK) := [(3, .int .i64),
  (2, .int .i64),
  (21, .int .i32),
  (5, .int .u8),
  (179, .int .u32),
  (152, .int .u64),
  (12, .int .u64),
  (4, .bool),
  (9, .str),
  (71, .st [.slice none 0 0] [some (.sl .u8)] [0]),
  (132, .st [.slice none 0 0] [some (.sl .u8)] [0]),
  (144, .st [.int .i64 0, .slice none 0 0] [none, some (.sl .u8)] [0, 1]),
  (158, .st [.int .i64 0, .slice none 0 0] [none, some (.sl .u8)] [0, 1]),
  (81, .st [.int .i64 0, .int .i64 0, .int .i64 0, .slice none 0 0, .int .i64 0] [none, none, none, some .RShare, none] [0, 1, 2, 3, 4]),
  (96, .st [.int .i64 0, .int .i64 0, .int .i64 0, .slice none 0 0, .int .i64 0] [none, none, none, some .RShare, none] [0, 1, 2, 3, 4]),
  (73, .st [.int .i64 0, .slice none 0 0] [none, some (.sl .u8)] [0, 1]),
  (134, .st [.int .i64 0, .slice none 0 0] [none, some (.sl .u8)] [0, 1]),
  (36, .st [.int .i64 0, .slice none 0 0] [none, some .ARound] [0, 1]),
  (26, .st [.int .i64 0, .slice none 0 0] [none, some .ARound] [0, 1]),
  (66, .st [.int .i64 0, .int .i64 0, .int .i64 0, .int .i64 0, .slice none 0 0, .int .i64 0, .slice none 0 0, .int .i64 0] [none, none, none, none, some (.sl .u8), none, some (.sl .u8), none] [0, 1, 2, 3, 4, 5, 6, 7]),
  (98, .st [.int .i64 0, .int .i64 0, .int .i64 0, .int .i64 0, .slice none 0 0, .int .i64 0, .slice none 0 0, .int .i64 0] [none, none, none, none, some (.sl .u8), none, some (.sl .u8), none] [0, 1, 2, 3, 4, 5, 6, 7]),
  (68, .st [.int .i64 0, .int .i64 0, .int .i64 0, .int .i64 0, .slice none 0 0, .int .i64 0, .slice none 0 0, .int .i64 0, .int .i64 0, .int .i64 0, .int .i64 0, .int .i64 0, .slice none 0 0, .int .i64 0, .slice none 0 0, .int .i64 0] [none, none, none, none, some (.sl .u8), none, some (.sl .u8), none, none, none, none, none, some (.sl .u8), none, some (.sl .u8), none] [0, 8]),
  (100, .st [.int .i64 0, .int .i64 0, .int .i64 0, .int .i64 0, .slice none 0 0, .int .i64 0, .slice none 0 0, .int .i64 0, .int .i64 0, .int .i64 0, .int .i64 0, .int .i64 0, .slice none 0 0, .int .i64 0, .slice none 0 0, .int .i64 0] [none, none, none, none, some (.sl .u8), none, some (.sl .u8), none, none, none, none, none, some (.sl .u8), none, some (.sl .u8), none] [0, 8]),
  (38, .st [.int .i64 0, .slice none 0 0, .slice none 0 0, .int .i64 0, .slice none 0 0, .int .i64 0, .int .i64 0, .int .i64 0, .slice none 0 0, .int .i64 0] [none, some .Srv, some .Dev, none, some .ARound, none, none, none, some .int, none] [0, 1, 2, 3, 5, 6, 7, 8, 9]),
  (29, .st [.int .i64 0, .slice none 0 0, .slice none 0 0, .int .i64 0, .slice none 0 0, .int .i64 0, .int .i64 0, .int .i64 0, .slice none 0 0, .int .i64 0] [none, some .Srv, some .Dev, none, some .ARound, none, none, none, some .int, none] [0, 1, 2, 3, 5, 6, 7, 8, 9]),
  (128, .st [.int .i64 0, .slice none 0 0] [none, some .u8] [0, 1]),
  (27, .sl .int 3),
  (76, .sl .u8 5),
  (77, .sl .str 9),
  (50, .sl (.sl .u8) 76),
  (169, .sl (.sl .int) 27),
  (79, .sl .RShare 144),
  (94, .sl .RShare 158),
  (32, .sl .Srv 81),
  (22, .sl .Srv 96),
  (34, .sl .ARound 73),
  (24, .sl .ARound 134),
  (33, .sl .Dev 68),
  (23, .sl .Dev 100)]
def Γ (t : Nat) : TK := match look tys t with | some k => k | none => .other
def ty : Tag → Nat
  | .int => 3
  | .u8 => 5
  | .str => 9
  | (.sl .u8) => 76
  | (.sl .int) => 27
  | (.sl (.sl .u8)) => 50
  | .DB => 71
  | .RShare => 144
  | .Srv => 81
  | .ARound => 73
  | .Arc => 36
  | .Cli => 66
  | .Dev => 68
  | .Wld => 38
  | .Plain => 128
  | _ => 1000000000
theorem kind_3 : TKok Try.prog 3 (.int .i64) := Try.underlying3
theorem kind_2 : TKok Try.prog 2 (.int .i64) := Try.underlying2
theorem kind_21 : TKok Try.prog 21 (.int .i32) := Try.underlying21
theorem kind_5 : TKok Try.prog 5 (.int .u8) := Try.underlying5
theorem kind_179 : TKok Try.prog 179 (.int .u32) := Try.underlying179
theorem kind_152 : TKok Try.prog 152 (.int .u64) := Try.underlying152
theorem kind_12 : TKok Try.prog 12 (.int .u64) := Try.underlying12
theorem kind_4 : TKok Try.prog 4 (.bool) := Try.underlying4
theorem kind_9 : TKok Try.prog 9 (.str) := Try.underlying9
theorem kind_71 : TKok Try.prog 71 (.st [.slice none 0 0] [some (.sl .u8)] [0]) := st_ok Try.underlying71 inf_71 rfl (by kernel_rfl)
theorem kind_132 : TKok Try.prog 132 (.st [.slice none 0 0] [some (.sl .u8)] [0]) := st_ok Try.underlying132 inf_132 rfl (by kernel_rfl)
theorem kind_144 : TKok Try.prog 144 (.st [.int .i64 0, .slice none 0 0] [none, some (.sl .u8)] [0, 1]) := st_ok Try.underlying144 inf_144 rfl (by kernel_rfl)
theorem kind_158 : TKok Try.prog 158 (.st [.int .i64 0, .slice none 0 0] [none, some (.sl .u8)] [0, 1]) := st_ok Try.underlying158 inf_158 rfl (by kernel_rfl)
theorem kind_81 : TKok Try.prog 81 (.st [.int .i64 0, .int .i64 0, .int .i64 0, .slice none 0 0, .int .i64 0] [none, none, none, some .RShare, none] [0, 1, 2, 3, 4]) := st_ok Try.underlying81 inf_81 rfl (by kernel_rfl)
theorem kind_96 : TKok Try.prog 96 (.st [.int .i64 0, .int .i64 0, .int .i64 0, .slice none 0 0, .int .i64 0] [none, none, none, some .RShare, none] [0, 1, 2, 3, 4]) := st_ok Try.underlying96 inf_96 rfl (by kernel_rfl)
theorem kind_73 : TKok Try.prog 73 (.st [.int .i64 0, .slice none 0 0] [none, some (.sl .u8)] [0, 1]) := st_ok Try.underlying73 inf_73 rfl (by kernel_rfl)
theorem kind_134 : TKok Try.prog 134 (.st [.int .i64 0, .slice none 0 0] [none, some (.sl .u8)] [0, 1]) := st_ok Try.underlying134 inf_134 rfl (by kernel_rfl)
theorem kind_36 : TKok Try.prog 36 (.st [.int .i64 0, .slice none 0 0] [none, some .ARound] [0, 1]) := st_ok Try.underlying36 inf_36 rfl (by kernel_rfl)
theorem kind_26 : TKok Try.prog 26 (.st [.int .i64 0, .slice none 0 0] [none, some .ARound] [0, 1]) := st_ok Try.underlying26 inf_26 rfl (by kernel_rfl)
theorem kind_66 : TKok Try.prog 66 (.st [.int .i64 0, .int .i64 0, .int .i64 0, .int .i64 0, .slice none 0 0, .int .i64 0, .slice none 0 0, .int .i64 0] [none, none, none, none, some (.sl .u8), none, some (.sl .u8), none] [0, 1, 2, 3, 4, 5, 6, 7]) := st_ok Try.underlying66 inf_66 rfl (by kernel_rfl)
theorem kind_98 : TKok Try.prog 98 (.st [.int .i64 0, .int .i64 0, .int .i64 0, .int .i64 0, .slice none 0 0, .int .i64 0, .slice none 0 0, .int .i64 0] [none, none, none, none, some (.sl .u8), none, some (.sl .u8), none] [0, 1, 2, 3, 4, 5, 6, 7]) := st_ok Try.underlying98 inf_98 rfl (by kernel_rfl)
theorem kind_68 : TKok Try.prog 68 (.st [.int .i64 0, .int .i64 0, .int .i64 0, .int .i64 0, .slice none 0 0, .int .i64 0, .slice none 0 0, .int .i64 0, .int .i64 0, .int .i64 0, .int .i64 0, .int .i64 0, .slice none 0 0, .int .i64 0, .slice none 0 0, .int .i64 0] [none, none, none, none, some (.sl .u8), none, some (.sl .u8), none, none, none, none, none, some (.sl .u8), none, some (.sl .u8), none] [0, 8]) := st_ok Try.underlying68 inf_68 rfl (by kernel_rfl)
theorem kind_100 : TKok Try.prog 100 (.st [.int .i64 0, .int .i64 0, .int .i64 0, .int .i64 0, .slice none 0 0, .int .i64 0, .slice none 0 0, .int .i64 0, .int .i64 0, .int .i64 0, .int .i64 0, .int .i64 0, .slice none 0 0, .int .i64 0, .slice none 0 0, .int .i64 0] [none, none, none, none, some (.sl .u8), none, some (.sl .u8), none, none, none, none, none, some (.sl .u8), none, some (.sl .u8), none] [0, 8]) := st_ok Try.underlying100 inf_100 rfl (by kernel_rfl)
theorem kind_38 : TKok Try.prog 38 (.st [.int .i64 0, .slice none 0 0, .slice none 0 0, .int .i64 0, .slice none 0 0, .int .i64 0, .int .i64 0, .int .i64 0, .slice none 0 0, .int .i64 0] [none, some .Srv, some .Dev, none, some .ARound, none, none, none, some .int, none] [0, 1, 2, 3, 5, 6, 7, 8, 9]) := st_ok Try.underlying38 inf_38 rfl (by kernel_rfl)
theorem kind_29 : TKok Try.prog 29 (.st [.int .i64 0, .slice none 0 0, .slice none 0 0, .int .i64 0, .slice none 0 0, .int .i64 0, .int .i64 0, .int .i64 0, .slice none 0 0, .int .i64 0] [none, some .Srv, some .Dev, none, some .ARound, none, none, none, some .int, none] [0, 1, 2, 3, 5, 6, 7, 8, 9]) := st_ok Try.underlying29 inf_29 rfl (by kernel_rfl)
theorem kind_128 : TKok Try.prog 128 (.st [.int .i64 0, .slice none 0 0] [none, some .u8] [0, 1]) := st_ok Try.underlying128 inf_128 rfl (by kernel_rfl)
theorem kind_27 : TKok Try.prog 27 (.sl .int 3) := ⟨Try.underlying27, sz_of inf_3⟩
theorem kind_76 : TKok Try.prog 76 (.sl .u8 5) := ⟨Try.underlying76, sz_of inf_5⟩
theorem kind_77 : TKok Try.prog 77 (.sl .str 9) := ⟨Try.underlying77, sz_of inf_9⟩
theorem kind_50 : TKok Try.prog 50 (.sl (.sl .u8) 76) := ⟨Try.underlying50, sz_of inf_76⟩
theorem kind_169 : TKok Try.prog 169 (.sl (.sl .int) 27) := ⟨Try.underlying169, sz_of inf_27⟩
theorem kind_79 : TKok Try.prog 79 (.sl .RShare 144) := ⟨Try.underlying79, sz_of inf_144⟩
theorem kind_94 : TKok Try.prog 94 (.sl .RShare 158) := ⟨Try.underlying94, sz_of inf_158⟩
theorem kind_32 : TKok Try.prog 32 (.sl .Srv 81) := ⟨Try.underlying32, sz_of inf_81⟩
theorem kind_22 : TKok Try.prog 22 (.sl .Srv 96) := ⟨Try.underlying22, sz_of inf_96⟩
theorem kind_34 : TKok Try.prog 34 (.sl .ARound 73) := ⟨Try.underlying34, sz_of inf_73⟩
theorem kind_24 : TKok Try.prog 24 (.sl .ARound 134) := ⟨Try.underlying24, sz_of inf_134⟩
theorem kind_33 : TKok Try.prog 33 (.sl .Dev 68) := ⟨Try.underlying33, sz_of inf_68⟩
theorem kind_23 : TKok Try.prog 23 (.sl .Dev 100) := ⟨Try.underlying23, sz_of inf_100⟩
set_option maxRecDepth 100000 in
theorem kinds : ∀ e, e ∈ tys → TKok Try.prog e.1 e.2 := by
  simp only [tys, List.forall_mem_cons]
  exact ⟨kind_3, kind_2, kind_21, kind_5, kind_179, kind_152, kind_12, kind_4, kind_9, kind_71, kind_132, kind_144, kind_158, kind_81, kind_96, kind_73, kind_134, kind_36, kind_26, kind_66, kind_98, kind_68, kind_100, kind_38, kind_29, kind_128, kind_27, kind_76, kind_77, kind_50, kind_169, kind_79, kind_94, kind_32, kind_22, kind_34, kind_24, kind_33, kind_23, by simp⟩
set_option maxRecDepth 100000 in
theorem ones : ∀ e, e ∈ tys → (∀ z tg fo, e.2 ≠ .st z tg fo) → (Try.prog.info? e.1).map (·.size) = some 1 := by
  simp only [tys, List.forall_mem_cons]
  refine ⟨fun _ => one_of (by kernel_rfl), fun _ => one_of (by kernel_rfl), fun _ => one_of (by kernel_rfl), fun _ => one_of (by kernel_rfl), fun _ => one_of (by kernel_rfl), fun _ => one_of (by kernel_rfl), fun _ => one_of (by kernel_rfl), fun _ => one_of (by kernel_rfl), fun _ => one_of (by kernel_rfl), fun h => absurd rfl (h _ _ _), fun h => absurd rfl (h _ _ _), fun h => absurd rfl (h _ _ _), fun h => absurd rfl (h _ _ _), fun h => absurd rfl (h _ _ _), fun h => absurd rfl (h _ _ _), fun h => absurd rfl (h _ _ _), fun h => absurd rfl (h _ _ _), fun h => absurd rfl (h _ _ _), fun h => absurd rfl (h _ _ _), fun h => absurd rfl (h _ _ _), fun h => absurd rfl (h _ _ _), fun h => absurd rfl (h _ _ _), fun h => absurd rfl (h _ _ _), fun h => absurd rfl (h _ _ _), fun h => absurd rfl (h _ _ _), fun h => absurd rfl (h _ _ _), fun _ => one_of (by kernel_rfl), fun _ => one_of (by kernel_rfl), fun _ => one_of (by kernel_rfl), fun _ => one_of (by kernel_rfl), fun _ => one_of (by kernel_rfl), fun _ => one_of (by kernel_rfl), fun _ => one_of (by kernel_rfl), fun _ => one_of (by kernel_rfl), fun _ => one_of (by kernel_rfl), fun _ => one_of (by kernel_rfl), fun _ => one_of (by kernel_rfl), fun _ => one_of (by kernel_rfl), fun _ => one_of (by kernel_rfl), by simp⟩
theorem X : Ctx Try.prog ty Γ where
  kind := fun t => by
    unfold Γ
    split
    · rename_i k hk; exact kinds (t, k) (look_mem hk)
    · trivial
  one := fun t h1 h2 => by
    unfold Γ at h1 h2
    split at h1
    · rename_i k hk; exact ones (t, k) (look_mem hk) h1
    · rename_i hk; rw [hk] at h2; exact absurd rfl h2
theorem El_int : El Try.prog ty (.int) := inf_3
theorem El_u8 : El Try.prog ty (.u8) := inf_5
theorem El_str : El Try.prog ty (.str) := inf_9
theorem El_slu8 : El Try.prog ty ((.sl .u8)) := inf_76
theorem El_slint : El Try.prog ty ((.sl .int)) := inf_27
theorem El_slslu8 : El Try.prog ty ((.sl (.sl .u8))) := inf_50
theorem El_DB : El Try.prog ty (.DB) := inf_71
theorem El_RShare : El Try.prog ty (.RShare) := inf_144
theorem El_Srv : El Try.prog ty (.Srv) := inf_81
theorem El_ARound : El Try.prog ty (.ARound) := inf_73
theorem El_Arc : El Try.prog ty (.Arc) := inf_36
theorem El_Cli : El Try.prog ty (.Cli) := inf_66
theorem El_Dev : El Try.prog ty (.Dev) := inf_68
theorem El_Wld : El Try.prog ty (.Wld) := inf_38
theorem El_Plain : El Try.prog ty (.Plain) := inf_128
theorem El_all (t : Tag) (h : ty t < 1000000000) : El Try.prog ty t := by
  unfold ty at h
  split at h
  · exact inf_3
  · exact inf_5
  · exact inf_9
  · exact inf_76
  · exact inf_27
  · exact inf_50
  · exact inf_71
  · exact inf_144
  · exact inf_81
  · exact inf_73
  · exact inf_36
  · exact inf_66
  · exact inf_68
  · exact inf_38
  · exact inf_128
  · exact absurd h (by decide)
end Go.Proofs.Ytfiaikmlnemnfaa.G
