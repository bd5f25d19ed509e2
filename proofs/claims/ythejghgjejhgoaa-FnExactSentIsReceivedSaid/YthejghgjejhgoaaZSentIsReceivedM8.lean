/-
  Bounds out of a world's size; audits. No program in sight.
-/
import Derived.Test.YthejghgjejhgoaaZSentIsReceivedM7
import Derived.Test.YthejghgjejhgoaaRows
import Derived.KernelRfl
namespace Go.Proofs.Ythejghgjejhgoaa.G
set_option linter.all false
open Go.RowKit L D

theorem inf_3 : (Try.prog.info? 3).map (fun i => (i.zero, i.size, i.bytes)) = some (some (.int .i64 0), 1, 8) := by kernel_rfl
theorem inf_5 : (Try.prog.info? 5).map (fun i => (i.zero, i.size, i.bytes)) = some (some (.int .u8 0), 1, 1) := by kernel_rfl
theorem inf_9 : (Try.prog.info? 9).map (fun i => (i.zero, i.size, i.bytes)) = some (some (.string ⟨#[]⟩), 1, 16) := by kernel_rfl
theorem inf_57 : (Try.prog.info? 57).map (fun i => (i.zero, i.size, i.bytes)) = some (some (.slice none 0 0), 1, 24) := by kernel_rfl
theorem inf_27 : (Try.prog.info? 27).map (fun i => (i.zero, i.size, i.bytes)) = some (some (.slice none 0 0), 1, 24) := by kernel_rfl
theorem inf_46 : (Try.prog.info? 46).map (fun i => (i.zero, i.size, i.bytes)) = some (some (.slice none 0 0), 1, 24) := by kernel_rfl
theorem inf_52 : (Try.prog.info? 52).map (fun i => (i.zero, i.size, i.bytes)) = some (some (.agg #[.slice none 0 0]), 1, 24) := by kernel_rfl
theorem inf_99 : (Try.prog.info? 99).map (fun i => (i.zero, i.size, i.bytes)) = some (some (.agg #[.slice none 0 0]), 1, 24) := by kernel_rfl
theorem inf_124 : (Try.prog.info? 124).map (fun i => (i.zero, i.size, i.bytes)) = some (some (.agg #[.int .i64 0, .slice none 0 0]), 2, 32) := by kernel_rfl
theorem inf_120 : (Try.prog.info? 120).map (fun i => (i.zero, i.size, i.bytes)) = some (some (.agg #[.int .i64 0, .slice none 0 0]), 2, 32) := by kernel_rfl
theorem inf_88 : (Try.prog.info? 88).map (fun i => (i.zero, i.size, i.bytes)) = some (some (.agg #[.int .i64 0, .int .i64 0, .int .i64 0, .slice none 0 0, .int .i64 0]), 5, 56) := by kernel_rfl
theorem inf_74 : (Try.prog.info? 74).map (fun i => (i.zero, i.size, i.bytes)) = some (some (.agg #[.int .i64 0, .int .i64 0, .int .i64 0, .slice none 0 0, .int .i64 0]), 5, 56) := by kernel_rfl
theorem inf_54 : (Try.prog.info? 54).map (fun i => (i.zero, i.size, i.bytes)) = some (some (.agg #[.int .i64 0, .slice none 0 0]), 2, 32) := by kernel_rfl
theorem inf_101 : (Try.prog.info? 101).map (fun i => (i.zero, i.size, i.bytes)) = some (some (.agg #[.int .i64 0, .slice none 0 0]), 2, 32) := by kernel_rfl
theorem inf_36 : (Try.prog.info? 36).map (fun i => (i.zero, i.size, i.bytes)) = some (some (.agg #[.int .i64 0, .slice none 0 0]), 2, 32) := by kernel_rfl
theorem inf_26 : (Try.prog.info? 26).map (fun i => (i.zero, i.size, i.bytes)) = some (some (.agg #[.int .i64 0, .slice none 0 0]), 2, 32) := by kernel_rfl
theorem inf_48 : (Try.prog.info? 48).map (fun i => (i.zero, i.size, i.bytes)) = some (some (.agg #[.int .i64 0, .int .i64 0, .int .i64 0, .int .i64 0, .slice none 0 0, .int .i64 0, .slice none 0 0, .int .i64 0]), 8, 96) := by kernel_rfl
theorem inf_76 : (Try.prog.info? 76).map (fun i => (i.zero, i.size, i.bytes)) = some (some (.agg #[.int .i64 0, .int .i64 0, .int .i64 0, .int .i64 0, .slice none 0 0, .int .i64 0, .slice none 0 0, .int .i64 0]), 8, 96) := by kernel_rfl
theorem inf_50 : (Try.prog.info? 50).map (fun i => (i.zero, i.size, i.bytes)) = some (some (.agg #[.int .i64 0, .int .i64 0, .int .i64 0, .int .i64 0, .slice none 0 0, .int .i64 0, .slice none 0 0, .int .i64 0, .int .i64 0, .int .i64 0, .int .i64 0, .int .i64 0, .slice none 0 0, .int .i64 0, .slice none 0 0, .int .i64 0]), 16, 192) := by kernel_rfl
theorem inf_78 : (Try.prog.info? 78).map (fun i => (i.zero, i.size, i.bytes)) = some (some (.agg #[.int .i64 0, .int .i64 0, .int .i64 0, .int .i64 0, .slice none 0 0, .int .i64 0, .slice none 0 0, .int .i64 0, .int .i64 0, .int .i64 0, .int .i64 0, .int .i64 0, .slice none 0 0, .int .i64 0, .slice none 0 0, .int .i64 0]), 16, 192) := by kernel_rfl
theorem inf_38 : (Try.prog.info? 38).map (fun i => (i.zero, i.size, i.bytes)) = some (some (.agg #[.int .i64 0, .slice none 0 0, .slice none 0 0, .int .i64 0, .slice none 0 0, .int .i64 0, .int .i64 0, .int .i64 0, .slice none 0 0, .int .i64 0]), 10, 144) := by kernel_rfl
theorem inf_29 : (Try.prog.info? 29).map (fun i => (i.zero, i.size, i.bytes)) = some (some (.agg #[.int .i64 0, .slice none 0 0, .slice none 0 0, .int .i64 0, .slice none 0 0, .int .i64 0, .int .i64 0, .int .i64 0, .slice none 0 0, .int .i64 0]), 10, 144) := by kernel_rfl
theorem inf_85 : (Try.prog.info? 85).map (fun i => (i.zero, i.size, i.bytes)) = some (some (.agg #[.int .i64 0, .slice none 0 0]), 2, 32) := by kernel_rfl
theorem sz_of {P : Program} {i : Nat} {z : Option Value} {k b : Nat} (h : (P.info? i).map (fun i => (i.zero, i.size, i.bytes)) = some (z, k, b)) : (P.info? i).map (·.size) = some k := by
  cases hq : P.info? i with
  | none => simp [hq] at h
  | some x => simp [hq] at h; simp [h]
theorem sz_z_of {P : Program} {i : Nat} {z : Option Value} {k b : Nat} (h : (P.info? i).map (fun i => (i.zero, i.size, i.bytes)) = some (z, k, b)) : (P.info? i).map (fun i => (i.size, i.zero)) = some (k, z) := by
  cases hq : P.info? i with
  | none => simp [hq] at h
  | some x => simp [hq] at h; simp [h]
theorem st_ok {P : Program} {t : Nat} {z : List Value} {tg : List (Option Tag)} {fo : List Nat} {fs : Array Field} {b : Nat} (hu : P.underlying t = some (.struct fs)) (hi : (P.info? t).map (fun i => (i.zero, i.size, i.bytes)) = some (some (.agg z.toArray), z.length, b)) (hz : z.all (·.oneCell') = true) (hf : fieldsok P z.length fs.toList fo = true) : TKok P t (.st z tg fo) :=
  ⟨fs, hu, sz_z_of hi, fun v hv => List.all_eq_true.1 hz v hv, fun f k h => by obtain ⟨fd, h1, h2⟩ := (fieldsok_ok hf).1 f k h; exact ⟨fd, by simpa using h1, h2⟩, (fieldsok_ok hf).2⟩
theorem one_of {P : Program} {i : Nat} (h : (P.info? i).map (fun i => Nat.beq i.size 1) = some true) : (P.info? i).map (·.size) = some 1 := by
  cases hq : P.info? i with
  | none => simp [hq] at h
  | some x => simp [hq] at h; simp [h]
def tys : List (Nat × TK) := [(3, .int .i64),
  (2, .int .i64),
  (21, .int .i32),
  (5, .int .u8),
  (141, .int .u32),
  (108, .int .u64),
  (12, .int .u64),
  (4, .bool),
  (9, .str),
  (52, .st [.slice none 0 0] [some (.sl .u8)] [0]),
  (99, .st [.slice none 0 0] [some (.sl .u8)] [0]),
  (124, .st [.int .i64 0, .slice none 0 0] [none, some (.sl .u8)] [0, 1]),
  (120, .st [.int .i64 0, .slice none 0 0] [none, some (.sl .u8)] [0, 1]),
  (88, .st [.int .i64 0, .int .i64 0, .int .i64 0, .slice none 0 0, .int .i64 0] [none, none, none, some .RShare, none] [0, 1, 2, 3, 4]),
  (74, .st [.int .i64 0, .int .i64 0, .int .i64 0, .slice none 0 0, .int .i64 0] [none, none, none, some .RShare, none] [0, 1, 2, 3, 4]),
  (54, .st [.int .i64 0, .slice none 0 0] [none, some (.sl .u8)] [0, 1]),
  (101, .st [.int .i64 0, .slice none 0 0] [none, some (.sl .u8)] [0, 1]),
  (36, .st [.int .i64 0, .slice none 0 0] [none, some .ARound] [0, 1]),
  (26, .st [.int .i64 0, .slice none 0 0] [none, some .ARound] [0, 1]),
  (48, .st [.int .i64 0, .int .i64 0, .int .i64 0, .int .i64 0, .slice none 0 0, .int .i64 0, .slice none 0 0, .int .i64 0] [none, none, none, none, some (.sl .u8), none, some (.sl .u8), none] [0, 1, 2, 3, 4, 5, 6, 7]),
  (76, .st [.int .i64 0, .int .i64 0, .int .i64 0, .int .i64 0, .slice none 0 0, .int .i64 0, .slice none 0 0, .int .i64 0] [none, none, none, none, some (.sl .u8), none, some (.sl .u8), none] [0, 1, 2, 3, 4, 5, 6, 7]),
  (50, .st [.int .i64 0, .int .i64 0, .int .i64 0, .int .i64 0, .slice none 0 0, .int .i64 0, .slice none 0 0, .int .i64 0, .int .i64 0, .int .i64 0, .int .i64 0, .int .i64 0, .slice none 0 0, .int .i64 0, .slice none 0 0, .int .i64 0] [none, none, none, none, some (.sl .u8), none, some (.sl .u8), none, none, none, none, none, some (.sl .u8), none, some (.sl .u8), none] [0, 8]),
  (78, .st [.int .i64 0, .int .i64 0, .int .i64 0, .int .i64 0, .slice none 0 0, .int .i64 0, .slice none 0 0, .int .i64 0, .int .i64 0, .int .i64 0, .int .i64 0, .int .i64 0, .slice none 0 0, .int .i64 0, .slice none 0 0, .int .i64 0] [none, none, none, none, some (.sl .u8), none, some (.sl .u8), none, none, none, none, none, some (.sl .u8), none, some (.sl .u8), none] [0, 8]),
  (38, .st [.int .i64 0, .slice none 0 0, .slice none 0 0, .int .i64 0, .slice none 0 0, .int .i64 0, .int .i64 0, .int .i64 0, .slice none 0 0, .int .i64 0] [none, some .Srv, some .Dev, none, some .ARound, none, none, none, some .int, none] [0, 1, 2, 3, 5, 6, 7, 8, 9]),
  (29, .st [.int .i64 0, .slice none 0 0, .slice none 0 0, .int .i64 0, .slice none 0 0, .int .i64 0, .int .i64 0, .int .i64 0, .slice none 0 0, .int .i64 0] [none, some .Srv, some .Dev, none, some .ARound, none, none, none, some .int, none] [0, 1, 2, 3, 5, 6, 7, 8, 9]),
  (85, .st [.int .i64 0, .slice none 0 0] [none, some .u8] [0, 1]),
  (27, .sl .int 3),
  (57, .sl .u8 5),
  (46, .sl (.sl .u8) 57),
  (128, .sl (.sl .int) 27),
  (86, .sl .RShare 124),
  (72, .sl .RShare 120),
  (32, .sl .Srv 88),
  (22, .sl .Srv 74),
  (34, .sl .ARound 54),
  (24, .sl .ARound 101),
  (33, .sl .Dev 50),
  (23, .sl .Dev 78)]
def Γ (t : Nat) : TK := match look tys t with | some k => k | none => .other
def ty : Tag → Nat
  | .int => 3
  | .u8 => 5
  | .str => 9
  | (.sl .u8) => 57
  | (.sl .int) => 27
  | (.sl (.sl .u8)) => 46
  | .DB => 52
  | .RShare => 124
  | .Srv => 88
  | .ARound => 54
  | .Arc => 36
  | .Cli => 48
  | .Dev => 50
  | .Wld => 38
  | .Plain => 85
  | _ => 1000000000
theorem kind_3 : TKok Try.prog 3 (.int .i64) := Try.underlying3
theorem kind_2 : TKok Try.prog 2 (.int .i64) := Try.underlying2
theorem kind_21 : TKok Try.prog 21 (.int .i32) := Try.underlying21
theorem kind_5 : TKok Try.prog 5 (.int .u8) := Try.underlying5
theorem kind_141 : TKok Try.prog 141 (.int .u32) := Try.underlying141
theorem kind_108 : TKok Try.prog 108 (.int .u64) := Try.underlying108
theorem kind_12 : TKok Try.prog 12 (.int .u64) := Try.underlying12
theorem kind_4 : TKok Try.prog 4 (.bool) := Try.underlying4
theorem kind_9 : TKok Try.prog 9 (.str) := Try.underlying9
theorem kind_52 : TKok Try.prog 52 (.st [.slice none 0 0] [some (.sl .u8)] [0]) := st_ok Try.underlying52 inf_52 rfl (by kernel_rfl)
theorem kind_99 : TKok Try.prog 99 (.st [.slice none 0 0] [some (.sl .u8)] [0]) := st_ok Try.underlying99 inf_99 rfl (by kernel_rfl)
theorem kind_124 : TKok Try.prog 124 (.st [.int .i64 0, .slice none 0 0] [none, some (.sl .u8)] [0, 1]) := st_ok Try.underlying124 inf_124 rfl (by kernel_rfl)
theorem kind_120 : TKok Try.prog 120 (.st [.int .i64 0, .slice none 0 0] [none, some (.sl .u8)] [0, 1]) := st_ok Try.underlying120 inf_120 rfl (by kernel_rfl)
theorem kind_88 : TKok Try.prog 88 (.st [.int .i64 0, .int .i64 0, .int .i64 0, .slice none 0 0, .int .i64 0] [none, none, none, some .RShare, none] [0, 1, 2, 3, 4]) := st_ok Try.underlying88 inf_88 rfl (by kernel_rfl)
theorem kind_74 : TKok Try.prog 74 (.st [.int .i64 0, .int .i64 0, .int .i64 0, .slice none 0 0, .int .i64 0] [none, none, none, some .RShare, none] [0, 1, 2, 3, 4]) := st_ok Try.underlying74 inf_74 rfl (by kernel_rfl)
theorem kind_54 : TKok Try.prog 54 (.st [.int .i64 0, .slice none 0 0] [none, some (.sl .u8)] [0, 1]) := st_ok Try.underlying54 inf_54 rfl (by kernel_rfl)
theorem kind_101 : TKok Try.prog 101 (.st [.int .i64 0, .slice none 0 0] [none, some (.sl .u8)] [0, 1]) := st_ok Try.underlying101 inf_101 rfl (by kernel_rfl)
theorem kind_36 : TKok Try.prog 36 (.st [.int .i64 0, .slice none 0 0] [none, some .ARound] [0, 1]) := st_ok Try.underlying36 inf_36 rfl (by kernel_rfl)
theorem kind_26 : TKok Try.prog 26 (.st [.int .i64 0, .slice none 0 0] [none, some .ARound] [0, 1]) := st_ok Try.underlying26 inf_26 rfl (by kernel_rfl)
theorem kind_48 : TKok Try.prog 48 (.st [.int .i64 0, .int .i64 0, .int .i64 0, .int .i64 0, .slice none 0 0, .int .i64 0, .slice none 0 0, .int .i64 0] [none, none, none, none, some (.sl .u8), none, some (.sl .u8), none] [0, 1, 2, 3, 4, 5, 6, 7]) := st_ok Try.underlying48 inf_48 rfl (by kernel_rfl)
theorem kind_76 : TKok Try.prog 76 (.st [.int .i64 0, .int .i64 0, .int .i64 0, .int .i64 0, .slice none 0 0, .int .i64 0, .slice none 0 0, .int .i64 0] [none, none, none, none, some (.sl .u8), none, some (.sl .u8), none] [0, 1, 2, 3, 4, 5, 6, 7]) := st_ok Try.underlying76 inf_76 rfl (by kernel_rfl)
theorem kind_50 : TKok Try.prog 50 (.st [.int .i64 0, .int .i64 0, .int .i64 0, .int .i64 0, .slice none 0 0, .int .i64 0, .slice none 0 0, .int .i64 0, .int .i64 0, .int .i64 0, .int .i64 0, .int .i64 0, .slice none 0 0, .int .i64 0, .slice none 0 0, .int .i64 0] [none, none, none, none, some (.sl .u8), none, some (.sl .u8), none, none, none, none, none, some (.sl .u8), none, some (.sl .u8), none] [0, 8]) := st_ok Try.underlying50 inf_50 rfl (by kernel_rfl)
theorem kind_78 : TKok Try.prog 78 (.st [.int .i64 0, .int .i64 0, .int .i64 0, .int .i64 0, .slice none 0 0, .int .i64 0, .slice none 0 0, .int .i64 0, .int .i64 0, .int .i64 0, .int .i64 0, .int .i64 0, .slice none 0 0, .int .i64 0, .slice none 0 0, .int .i64 0] [none, none, none, none, some (.sl .u8), none, some (.sl .u8), none, none, none, none, none, some (.sl .u8), none, some (.sl .u8), none] [0, 8]) := st_ok Try.underlying78 inf_78 rfl (by kernel_rfl)
theorem kind_38 : TKok Try.prog 38 (.st [.int .i64 0, .slice none 0 0, .slice none 0 0, .int .i64 0, .slice none 0 0, .int .i64 0, .int .i64 0, .int .i64 0, .slice none 0 0, .int .i64 0] [none, some .Srv, some .Dev, none, some .ARound, none, none, none, some .int, none] [0, 1, 2, 3, 5, 6, 7, 8, 9]) := st_ok Try.underlying38 inf_38 rfl (by kernel_rfl)
theorem kind_29 : TKok Try.prog 29 (.st [.int .i64 0, .slice none 0 0, .slice none 0 0, .int .i64 0, .slice none 0 0, .int .i64 0, .int .i64 0, .int .i64 0, .slice none 0 0, .int .i64 0] [none, some .Srv, some .Dev, none, some .ARound, none, none, none, some .int, none] [0, 1, 2, 3, 5, 6, 7, 8, 9]) := st_ok Try.underlying29 inf_29 rfl (by kernel_rfl)
theorem kind_85 : TKok Try.prog 85 (.st [.int .i64 0, .slice none 0 0] [none, some .u8] [0, 1]) := st_ok Try.underlying85 inf_85 rfl (by kernel_rfl)
theorem kind_27 : TKok Try.prog 27 (.sl .int 3) := ⟨Try.underlying27, sz_of inf_3⟩
theorem kind_57 : TKok Try.prog 57 (.sl .u8 5) := ⟨Try.underlying57, sz_of inf_5⟩
theorem kind_46 : TKok Try.prog 46 (.sl (.sl .u8) 57) := ⟨Try.underlying46, sz_of inf_57⟩
theorem kind_128 : TKok Try.prog 128 (.sl (.sl .int) 27) := ⟨Try.underlying128, sz_of inf_27⟩
theorem kind_86 : TKok Try.prog 86 (.sl .RShare 124) := ⟨Try.underlying86, sz_of inf_124⟩
theorem kind_72 : TKok Try.prog 72 (.sl .RShare 120) := ⟨Try.underlying72, sz_of inf_120⟩
theorem kind_32 : TKok Try.prog 32 (.sl .Srv 88) := ⟨Try.underlying32, sz_of inf_88⟩
theorem kind_22 : TKok Try.prog 22 (.sl .Srv 74) := ⟨Try.underlying22, sz_of inf_74⟩
theorem kind_34 : TKok Try.prog 34 (.sl .ARound 54) := ⟨Try.underlying34, sz_of inf_54⟩
theorem kind_24 : TKok Try.prog 24 (.sl .ARound 101) := ⟨Try.underlying24, sz_of inf_101⟩
theorem kind_33 : TKok Try.prog 33 (.sl .Dev 50) := ⟨Try.underlying33, sz_of inf_50⟩
theorem kind_23 : TKok Try.prog 23 (.sl .Dev 78) := ⟨Try.underlying23, sz_of inf_78⟩
set_option maxRecDepth 100000 in
theorem kinds : ∀ e, e ∈ tys → TKok Try.prog e.1 e.2 := by
  simp only [tys, List.forall_mem_cons]
  exact ⟨kind_3, kind_2, kind_21, kind_5, kind_141, kind_108, kind_12, kind_4, kind_9, kind_52, kind_99, kind_124, kind_120, kind_88, kind_74, kind_54, kind_101, kind_36, kind_26, kind_48, kind_76, kind_50, kind_78, kind_38, kind_29, kind_85, kind_27, kind_57, kind_46, kind_128, kind_86, kind_72, kind_32, kind_22, kind_34, kind_24, kind_33, kind_23, by simp⟩
set_option maxRecDepth 100000 in
theorem ones : ∀ e, e ∈ tys → (∀ z tg fo, e.2 ≠ .st z tg fo) → (Try.prog.info? e.1).map (·.size) = some 1 := by
  simp only [tys, List.forall_mem_cons]
  refine ⟨fun _ => one_of (by kernel_rfl), fun _ => one_of (by kernel_rfl), fun _ => one_of (by kernel_rfl), fun _ => one_of (by kernel_rfl), fun _ => one_of (by kernel_rfl), fun _ => one_of (by kernel_rfl), fun _ => one_of (by kernel_rfl), fun _ => one_of (by kernel_rfl), fun _ => one_of (by kernel_rfl), fun h => absurd rfl (h _ _ _), fun h => absurd rfl (h _ _ _), fun h => absurd rfl (h _ _ _), fun h => absurd rfl (h _ _ _), fun h => absurd rfl (h _ _ _), fun h => absurd rfl (h _ _ _), fun h => absurd rfl (h _ _ _), fun h => absurd rfl (h _ _ _), fun h => absurd rfl (h _ _ _), fun h => absurd rfl (h _ _ _), fun h => absurd rfl (h _ _ _), fun h => absurd rfl (h _ _ _), fun h => absurd rfl (h _ _ _), fun h => absurd rfl (h _ _ _), fun h => absurd rfl (h _ _ _), fun h => absurd rfl (h _ _ _), fun h => absurd rfl (h _ _ _), fun _ => one_of (by kernel_rfl), fun _ => one_of (by kernel_rfl), fun _ => one_of (by kernel_rfl), fun _ => one_of (by kernel_rfl), fun _ => one_of (by kernel_rfl), fun _ => one_of (by kernel_rfl), fun _ => one_of (by kernel_rfl), fun _ => one_of (by kernel_rfl), fun _ => one_of (by kernel_rfl), fun _ => one_of (by kernel_rfl), fun _ => one_of (by kernel_rfl), fun _ => one_of (by kernel_rfl), by simp⟩
theorem X : Ctx Try.prog ty Γ where
  kind := fun t => by
    unfold Γ
    split
    · rename_i k hk; exact kinds (t, k) (look_mem hk)
    · trivial
  one := fun t h1 h2 => by
    unfold Γ at h1 h2
    split at h1
    · rename_i k hk; exact ones (t, k) (look_mem hk) h1
    · rename_i hk; rw [hk] at h2; exact absurd rfl h2
theorem El_all (t : Tag) (h : ty t < 1000000000) : El Try.prog ty t := by
  unfold ty at h
  split at h
  · exact inf_3
  · exact inf_5
  · exact inf_9
  · exact inf_57
  · exact inf_27
  · exact inf_46
  · exact inf_52
  · exact inf_124
  · exact inf_88
  · exact inf_54
  · exact inf_36
  · exact inf_48
  · exact inf_50
  · exact inf_38
  · exact inf_85
  · exact absurd h (by decide)
end Go.Proofs.Ythejghgjejhgoaa.G
namespace Go.Proofs.Ythejghgjejhgoaa.G
set_option linter.all false
open Go.RowKit L D
theorem MO : Try.prog.follows .mixedOrders = true := by kernel_rfl
/-- What bools say, as propositions: one law to rewrite with. -/
theorem nb : (∀ (p : Prop) [Decidable p], (decide p = true) = p) ∧ (∀ (p : Prop) [Decidable p], (decide p = false) = ¬ p) ∧ (∀ b : Bool, ((!b) = true) = (b = false)) ∧ (∀ b : Bool, ((!b) = false) = (b = true)) ∧
    (∀ (α : Type) [BEq α] [LawfulBEq α] (a b : α), ((a == b) = true) = (a = b)) ∧ (∀ (α : Type) [BEq α] [LawfulBEq α] (a b : α), ((a != b) = true) = (¬ a = b)) ∧ (∀ (α : Type) [BEq α] [LawfulBEq α] (a b : α), ((a == b) = false) = (¬ a = b)) ∧ (∀ (α : Type) [BEq α] [LawfulBEq α] (a b : α), ((a != b) = false) = (a = b)) ∧
    (∀ (α : Type) (a b : α), (a ≠ b) = ¬ a = b) ∧ (∀ a b : Int, (a > b) = (b < a)) ∧ (∀ a b : Int, (a ≥ b) = (b ≤ a)) ∧ (∀ a b : Nat, (a > b) = (b < a)) ∧ (∀ a b : Nat, (a ≥ b) = (b ≤ a)) ∧ (∀ a b : Int, (¬ a < b) = (b ≤ a)) ∧ (∀ a b : Int, (¬ a ≤ b) = (b < a)) ∧
    (∀ (p : Prop) [Decidable p], (¬ ¬ p) = p) ∧ (∀ n : Nat, (n : Int).toNat = n) ∧ (∀ m n : Nat, ((m : Int) < n) = (m < n)) ∧ (∀ m n : Nat, ((m : Int) ≤ n) = (m ≤ n)) ∧ (∀ a b : Nat, (¬ a < b) = (b ≤ a)) ∧ (∀ a b : Nat, (¬ a ≤ b) = (b < a)) ∧
    (∀ (p : Prop) [Decidable p] (b : Bool), (if p then b else false) = (decide p && b)) ∧ (∀ (p : Prop) [Decidable p] (b : Bool), (if p then true else b) = (decide p || b)) ∧ (∀ (p : Prop) [Decidable p] (b : Bool), (if p then false else b) = (!decide p && b)) ∧ (∀ (p : Prop) [Decidable p] (b : Bool), (if p then b else true) = (!decide p || b)) ∧
    (∀ a b : Bool, ((a && b) = true) = (a = true ∧ b = true)) ∧ (∀ a b : Bool, ((a || b) = true) = (a = true ∨ b = true)) ∧ (∀ a b : Bool, ((a && b) = false) = (a = false ∨ b = false)) ∧ (∀ a b : Bool, ((a || b) = false) = (a = false ∧ b = false)) ∧ (∀ (b : Bool), decide (b = true) = b) := by
  refine ⟨by simp, by simp, by simp, by simp, fun _ _ _ a b => propext beq_iff_eq, fun _ _ _ a b => propext bne_iff_ne, fun _ _ _ a b => propext beq_eq_false_iff_ne, fun _ _ _ a b => propext bne_eq_false_iff_eq, by simp, by simp, by simp, by simp, by simp, by simp, by simp, by simp, by simp, by simp, by simp, by simp, by simp, by simp, by simp, by simp, by simp, by simp, by simp, by simp, by simp, by simp⟩
/-- Lengths. -/
theorem lens : (∀ n : Nat, (n : Int).toNat = n) ∧ (∀ (α : Type) (a b : List α), (a ++ b).length = a.length + b.length) ∧ (∀ (α : Type) (a : α), [a].length = 1) ∧ (∀ (α : Type) (a : α) (l : List α), (a :: l).length = l.length + 1) ∧ (∀ (α : Type), ([] : List α).length = 0) ∧ (∀ (α : Type) (n : Nat) (a : α), (List.replicate n a).length = n) ∧
    (∀ (α : Type) (l : List α) (n : Nat) (a : α), (l.set n a).length = l.length) ∧ (∀ (α β : Type) (f : α → β) (l : List α), (l.map f).length = l.length) ∧ (∀ (α : Type) (l : List α) (n : Nat), (l.take n).length = min n l.length) ∧ (∀ (α : Type) (l : List α) (n : Nat), (l.drop n).length = l.length - n) ∧ (∀ n : Nat, (List.range n).length = n) := by
  refine ⟨by simp, by simp, by simp, by simp, by simp, by simp, by simp, by simp, by simp, by simp, by simp⟩
theorem AllP.mk {p : Prop} {l : List Prop} (h : p) (k : AllP l) : AllP (p :: l) := ⟨h, k⟩
theorem AllP.nil : AllP [] := True.intro
theorem take_snoc {α : Type} (l : List α) (k : Nat) (d : α) (h : k < l.length) : l.take (k + 1) = l.take k ++ [l.getD k d] := by
  rw [List.take_add_one, List.getD_eq_getElem?_getD, List.getElem?_eq_getElem h]; rfl
theorem wadd (a : Int) (n : Nat) (h : a = n) (h2 : n < 9223372036854775807) : IntKind.i64.wrap (a + 1) = ((n + 1 : Nat) : Int) := by
  subst h; rw [IntWalk.i64_in _ (by omega)]; omega
/-- A scalar's contract, as the laws' walks ask for it. -/
theorem gives_of {P : Program} {ty : Tag → Nat} {f : FuncId} {xs : List S1} {v : Value} (h : Sound ty P f xs [.a (.lit v)]) {w : World} {us : List Value} (ha : All2 (Arg1 w) xs us) (hA : Amb w := by first | assumption | exact trivial) : Calls P f us.toArray w (Gives w v) := by
  refine (h.2 w us hA ha).mono ?_
  rintro e w' ⟨u, fp, rfl, hb, _, f1, f2, ⟨rfl, _⟩, _⟩
  exact ⟨rfl, hb⟩
theorem arg_agg {w : World} {l : List V} {cs : List Value} {fp : List Nat} (h : RIs w l cs fp) : Arg1 w (.agg l) (.agg cs.toArray) := ⟨cs, fp, rfl, h⟩
theorem arg_lit {w : World} {v : Value} (h : v.oneCell' = true) : Arg1 w (.a (.lit v)) v := ⟨[], rfl, h, rfl⟩
/-- A slice has no more elements than a slice can have. -/
theorem W.bound {P : Program} {ty : Tag → Nat} {w0 : Base} {c : Code} {Q : Post} {st : St} (d : Nat) {t : Tag} {l : List (T t)} (h : look st.sl d = some (.one (.a (.sl t l)))) (k : l.length ≤ 9223372036854775807 → W P ty w0 c Q st) : W P ty w0 c Q st := by
  intro a w iv
  obtain ⟨env, g⟩ := iv.good
  obtain ⟨fp, ⟨oa, cap, _, h1, h2, _⟩, _⟩ := g.slot d _ h
  have e : maxLen = 9223372036854775807 := by decide
  exact k (by omega) a w iv
theorem W.boundA {P : Program} {ty : Tag → Nat} {w0 : Base} {c : Code} {Q : Post} {st : St} (d i : Nat) {cs : List V} {t : Tag} {l : List (T t)} (h : look st.sl d = some (.one (.agg cs))) (hc : cs[i]? = some (.sl t l)) (k : l.length ≤ 9223372036854775807 → W P ty w0 c Q st) : W P ty w0 c Q st := by
  intro a w iv
  obtain ⟨env, g⟩ := iv.good
  obtain ⟨us, _, hr⟩ := g.slot d _ h
  obtain ⟨u, _, fp, ⟨oa, cap, _, h1, h2, _⟩, _⟩ := hr.at hc
  have e : maxLen = 9223372036854775807 := by decide
  exact k (by omega) a w iv
theorem take_eq_step {α : Type} [DecidableEq α] (a b : List α) (d : α) (k : Nat) (ha : k < a.length) (hb : k < b.length) (h : a.take k = b.take k) (he : a.getD k d = b.getD k d) : a.take (k + 1) = b.take (k + 1) := by
  rw [take_snoc a k d ha, take_snoc b k d hb, h, he]
theorem ne_of_getD {α : Type} [BEq α] [LawfulBEq α] (a b : List α) (d : α) (k : Nat) (he : a.getD k d ≠ b.getD k d) : (a == b) = false := by
  rw [beq_eq_false_iff_ne]; rintro rfl; exact he rfl
theorem eq_of_take {α : Type} [BEq α] [LawfulBEq α] (a b : List α) (k : Nat) (hk : k = a.length) (hl : a.length = b.length) (h : a.take k = b.take k) : (a == b) = true := by
  rw [List.take_of_length_le (by omega), List.take_of_length_le (by omega)] at h
  rw [h]; simp
theorem ne_of_len {α : Type} [BEq α] [LawfulBEq α] (a b : List α) (hl : (a.length : Int) ≠ b.length) : (a == b) = false := by
  rw [beq_eq_false_iff_ne]; rintro rfl; exact hl rfl
theorem u8_inj {x y : UInt8} (h : (x.toNat : Int) = y.toNat) : x = y := by
  have : x.toNat = y.toNat := by omega
  exact UInt8.toNat_inj.1 this
end Go.Proofs.Ythejghgjejhgoaa.G
namespace Go.Proofs.Ythejghgjejhgoaa.G
set_option linter.all false
open Go.RowKit L D
def szr (left : Int) (n : Nat) : Int := if (n : Int) ≤ left then left - n else -1
theorem szr_pos {l : Int} {n : Nat} (h : 0 ≤ szr l n) : szr l n = l - n ∧ (n : Int) ≤ l := by
  unfold szr at *
  split at h
  · rename_i h1; exact ⟨by rw [if_pos h1], h1⟩
  · omega
theorem szr_neg {l : Int} {n : Nat} (h0 : 0 ≤ l) (h : szr l n < 0) : l < n := by
  unfold szr at h
  split at h <;> omega
theorem szr_ge {l : Int} {n : Nat} (h : (n : Int) ≤ l) : szr l n = l - n := by unfold szr; rw [if_pos h]
theorem szr_lt {l : Int} {n : Nat} (h : l < (n : Int)) : szr l n = -1 := by unfold szr; rw [if_neg (by omega)]
theorem sum_step {α : Type} (f : α → Nat) (l : List α) (d : α) (k : Nat) (h : k < l.length) : ((l.take (k + 1)).map f).sum = ((l.take k).map f).sum + f (l.getD k d) :=
  take_sum l f k _ (by rw [List.getD_eq_getElem?_getD, List.getElem?_eq_getElem h]; rfl)
theorem set_step {α : Type} (l : List α) (d : α) (k : Nat) (h : k < l.length) : (l.take k ++ List.replicate (l.length - k) d).set k (l.getD k d) = l.take (k + 1) ++ List.replicate (l.length - (k + 1)) d := by
  have hk : (l.take k).length = k := by rw [List.length_take]; omega
  rw [List.set_append_right _ _ (by omega), hk, Nat.sub_self, show l.length - k = (l.length - (k + 1)) + 1 by omega, List.replicate_succ, List.set_cons_zero, take_snoc l k d h, List.append_assoc]
  rfl
theorem set_len {α : Type} (l : List α) (d : α) (k : Nat) (h : k ≤ l.length) : (l.take k ++ List.replicate (l.length - k) d).length = l.length := by
  simp; omega
theorem u8_back (x : UInt8) : UInt8.ofNat (Int.toNat ((x.toNat : Nat) : Int)) = x := by simp
theorem u8w (n : Int) : 0 ≤ IntKind.u8.wrap n ∧ IntKind.u8.wrap n < 256 := by
  unfold IntKind.wrap
  simp only [IntKind.signed, IntKind.bits]
  simp
  omega
theorem u8n (x : UInt8) : 0 ≤ ((x.toNat : Nat) : Int) ∧ ((x.toNat : Nat) : Int) < 256 := by
  have := x.toNat_lt
  omega
theorem u8_rt (n : Int) : (((UInt8.ofNat (IntKind.u8.wrap n).toNat).toNat : Nat) : Int) = IntKind.u8.wrap n := by
  have h := u8w n
  generalize IntKind.u8.wrap n = m at h
  simp
  omega
def mnl {α : Type} (mn : α → Nat) (l : List α) : Nat := (l.map mn).sum
section
variable {α : Type} {mk : Int → α → α} {mn : α → Nat}
theorem mnl_cons (x : α) (r : List α) : mnl mn (x :: r) = mn x + mnl mn r := by simp [mnl]
end
theorem W.conv {P : Program} {ty : Tag → Nat} {zb : Base} {c : Code} {Q : Post} {st : St} (st' : St) (h : st = st') (k : W P ty zb c Q st') : W P ty zb c Q st := h ▸ k
end Go.Proofs.Ythejghgjejhgoaa.G
namespace Go.Proofs.Ythejghgjejhgoaa.G
set_option linter.all false
open Go.RowKit L D
set_option maxRecDepth 100000
theorem getD_some {α : Type} (l : List α) (d : α) (k : Nat) (h : k < l.length) : l[k]? = some (l.getD k d) := by
  rw [List.getD_eq_getElem?_getD, List.getElem?_eq_getElem h]; rfl
def size_DB (x : DB) : Nat := (lsz List.length) x.rows
def size_RShare (x : RShare) : Nat := size_DB x.share
def mne_RShare (x : RShare) : Nat := 1 + (mnl (mnl (fun _ => 1))) x.share.rows
def size_Srv (x : Srv) : Nat := (lsz size_RShare) x.received
def mne_Srv (x : Srv) : Nat := 1 + 1 + 1 + (mnl mne_RShare) x.received + 1
def size_ARound (x : ARound) : Nat := size_DB x.db
def mne_ARound (x : ARound) : Nat := 1 + (mnl (mnl (fun _ => 1))) x.db.rows
def size_Arc (x : Arc) : Nat := (lsz size_ARound) x.rounds
def mnv_Arc (x : Arc) : Nat := (mnl mne_ARound) x.rounds
def size_Cli (x : Cli) : Nat := (lsz List.length) x.submitted + (lsz List.length) x.inbox
def size_Dev (x : Dev) : Nat := size_Cli x.live + size_Cli x.saved
def mne_Dev (x : Dev) : Nat := 1 + 1 + 1 + 1 + (mnl (mnl (fun _ => 1))) x.live.submitted + 1 + (mnl (mnl (fun _ => 1))) x.live.inbox + 1 + 1 + 1 + 1 + 1 + (mnl (mnl (fun _ => 1))) x.saved.submitted + 1 + (mnl (mnl (fun _ => 1))) x.saved.inbox + 1
def size_Wld (x : Wld) : Nat := (lsz size_Srv) x.servers + (lsz size_Dev) x.devices + size_Arc x.archive + List.length x.replaced
def mnv_Wld (x : Wld) : Nat := (mnl mne_Srv) x.servers + (mnl mne_Dev) x.devices + mnv_Arc x.archive + (mnl (fun _ => 1)) x.replaced
theorem mnl_one {α : Type} (l : List α) : mnl (fun _ => 1) l = l.length := by
  induction l with
  | nil => rfl
  | cons x r ih => rw [mnl_cons, ih, List.length_cons]; omega
theorem mnl_lsz {α : Type} {mn sz : α → Nat} {C : Nat} (h : ∀ e, mn e ≤ C * (1 + sz e)) (l : List α) : mnl mn l ≤ C * lsz sz l := by
  unfold lsz mnl
  induction l with
  | nil => simp
  | cons x r ih =>
    simp only [List.map_cons, List.sum_cons, List.length_cons]
    have := h x
    have e : C * (r.length + 1 + (sz x + (r.map sz).sum)) = C * (1 + sz x) + C * (r.length + (r.map sz).sum) := by rw [← Nat.mul_add]; congr 1; omega
    omega
theorem mnl_len {α : Type} (l : List α) : mnl (fun _ => 1) l ≤ 32 * List.length l := by rw [mnl_one]; omega
theorem mne_le_RShare (x : RShare) : mne_RShare x ≤ 32 * (1 + size_RShare x) := by
  have h0 : (mnl (mnl (fun _ => 1))) x.share.rows ≤ 32 * (lsz List.length) x.share.rows := mnl_lsz (C := 32) (sz := List.length) (fun e => by have : (mnl (fun _ => 1)) e ≤ 32 * List.length e := mnl_len e; omega) x.share.rows
  simp only [mne_RShare, size_RShare, size_DB]
  omega
theorem mne_le_Srv (x : Srv) : mne_Srv x ≤ 32 * (1 + size_Srv x) := by
  have h0 : (mnl mne_RShare) x.received ≤ 32 * (lsz size_RShare) x.received := mnl_lsz (C := 32) (sz := size_RShare) mne_le_RShare x.received
  simp only [mne_Srv, size_Srv]
  omega
theorem mne_le_ARound (x : ARound) : mne_ARound x ≤ 32 * (1 + size_ARound x) := by
  have h0 : (mnl (mnl (fun _ => 1))) x.db.rows ≤ 32 * (lsz List.length) x.db.rows := mnl_lsz (C := 32) (sz := List.length) (fun e => by have : (mnl (fun _ => 1)) e ≤ 32 * List.length e := mnl_len e; omega) x.db.rows
  simp only [mne_ARound, size_ARound, size_DB]
  omega
theorem mne_le_Dev (x : Dev) : mne_Dev x ≤ 32 * (1 + size_Dev x) := by
  have h0 : (mnl (mnl (fun _ => 1))) x.live.submitted ≤ 32 * (lsz List.length) x.live.submitted := mnl_lsz (C := 32) (sz := List.length) (fun e => by have : (mnl (fun _ => 1)) e ≤ 32 * List.length e := mnl_len e; omega) x.live.submitted
  have h1 : (mnl (mnl (fun _ => 1))) x.live.inbox ≤ 32 * (lsz List.length) x.live.inbox := mnl_lsz (C := 32) (sz := List.length) (fun e => by have : (mnl (fun _ => 1)) e ≤ 32 * List.length e := mnl_len e; omega) x.live.inbox
  have h2 : (mnl (mnl (fun _ => 1))) x.saved.submitted ≤ 32 * (lsz List.length) x.saved.submitted := mnl_lsz (C := 32) (sz := List.length) (fun e => by have : (mnl (fun _ => 1)) e ≤ 32 * List.length e := mnl_len e; omega) x.saved.submitted
  have h3 : (mnl (mnl (fun _ => 1))) x.saved.inbox ≤ 32 * (lsz List.length) x.saved.inbox := mnl_lsz (C := 32) (sz := List.length) (fun e => by have : (mnl (fun _ => 1)) e ≤ 32 * List.length e := mnl_len e; omega) x.saved.inbox
  simp only [mne_Dev, size_Dev, size_Cli]
  omega
theorem mnv_le_Wld (x : Wld) : mnv_Wld x ≤ 32 * size_Wld x := by
  have h0 : (mnl mne_Srv) x.servers ≤ 32 * (lsz size_Srv) x.servers := mnl_lsz (C := 32) (sz := size_Srv) mne_le_Srv x.servers
  have h1 : (mnl mne_Dev) x.devices ≤ 32 * (lsz size_Dev) x.devices := mnl_lsz (C := 32) (sz := size_Dev) mne_le_Dev x.devices
  have h2 : (mnl mne_ARound) x.archive.rounds ≤ 32 * (lsz size_ARound) x.archive.rounds := mnl_lsz (C := 32) (sz := size_ARound) mne_le_ARound x.archive.rounds
  have h3 : (mnl (fun _ => 1)) x.replaced ≤ 32 * List.length x.replaced := mnl_len x.replaced
  simp only [mnv_Wld, mnv_Arc, size_Wld, size_Arc]
  omega
end Go.Proofs.Ythejghgjejhgoaa.G
namespace Go.Proofs.Ythejghgjejhgoaa.G
set_option linter.all false
open Go.RowKit L D
set_option maxRecDepth 100000
theorem c_szByteS (l : (List UInt8)) (left : Int) (h0 : 0 ≤ left) (h1 : left ≤ 1048576) : Sound ty Try.prog 94 [.a (.sl .u8 l), .a (.lit (.int .i64 left))] [.a (.lit (.int .i64 (szr left (List.length l))))] := by
  refine Sound.of X Try.call94 Try.func94 rfl rfl (by decide) Try.ntmps94 (by simp) ?_
  intro zb
  refine W.bound 0 rfl fun hl => ?_
  refine W.seq ?_
  refine W.reg X [] [] [0, 1] [] rfl ⟨⟩ ?_
  refine W.seq ?_
  refine W.reg X [] [] [1] [] rfl ⟨⟩ ?_
  rw [IntWalk.i64_in (left - (l.length : Nat)) (by omega)]
  refine W.seq ?_
  refine W.seq ?_
  refine W.reg X [] [] [1, 10] [] rfl ⟨⟩ ?_
  refine W.cond rfl (fun hb0 => ?_) (fun hb0 => ?_)
  · try simp only [nb] at hb0
    refine W.seq ?_
    refine W.reg X [] [] [4] [] rfl ⟨⟩ ?_
    refine W.ret ?_
    exact Fin.ret rfl ⟨by rw [szr_lt (by omega)], ⟨⟩⟩
  · try simp only [nb] at hb0
    refine W.skip ?_
    refine W.seq ?_
    refine W.reg X [] [] [4] [] rfl ⟨⟩ ?_
    refine W.ret ?_
    exact Fin.ret rfl ⟨by rw [szr_ge (by omega)], ⟨⟩⟩
theorem c_szByteSS (l : (List (List UInt8))) (left : Int) (h0 : 0 ≤ left) (h1 : left ≤ 1048576) : Sound ty Try.prog 82 [.a (.sl (.sl .u8) l), .a (.lit (.int .i64 left))] [.a (.lit (.int .i64 (szr left ((lsz List.length) l))))] := by
  refine Sound.of X Try.call82 Try.func82 rfl rfl (by decide) Try.ntmps82 (by simp) ?_
  intro zb
  refine W.bound 0 rfl fun hl => ?_
  refine W.seq ?_
  refine W.reg X [] [] [0, 1] [] rfl ⟨⟩ ?_
  refine W.seq ?_
  refine W.reg X [] [] [0, 1] [] rfl ⟨⟩ ?_
  rw [IntWalk.i64_in (left - (l.length : Nat)) (by omega)]
  refine W.seq ?_
  refine W.seq ?_
  refine W.reg X [] [] [0, 1, 11] [] rfl ⟨⟩ ?_
  refine W.cond rfl (fun hb0 => ?_) (fun hb0 => ?_)
  · try simp only [nb] at hb0
    refine W.seq ?_
    refine W.reg X [] [] [4] [] rfl ⟨⟩ ?_
    refine W.ret ?_
    exact Fin.ret rfl ⟨by rw [szr_lt (by unfold lsz; omega)], ⟨⟩⟩
  · try simp only [nb] at hb0
    refine W.skip ?_
    refine W.seq ?_
    refine W.seq ?_
    refine W.reg X [] [] [0, 1, 5] [] rfl ⟨⟩ ?_
    refine W.block ?_
    refine W.loopO (fun k => k ≤ l.length ∧ (l.length : Int) + (((l.take k).map List.length).sum : Nat) ≤ left) (fun k : Nat => [(1, .one (.a (.lit (.int .i64 (left - (l.length : Nat) - (((l.take k).map List.length).sum : Nat)))))), (5, .one (.a (.lit (.int .i64 k))))]) (fun k => []) (fun k => l.length - k) 0 (fun k => rfl) ⟨Nat.zero_le _, by simp; omega⟩ (by simp) ?_
    rintro k ⟨hk, hs⟩
    refine W.seq ?_
    refine W.seq ?_
    refine W.reg X [] [] [0, 1, 5, 15] [] rfl ⟨⟩ ?_
    refine W.cond rfl (fun hb1 => ?_) (fun hb1 => ?_)
    · try simp only [nb] at hb1
      have hsum := sum_step List.length l (dfl (.sl .u8)) k hb1
      have hle := take_sum_le l List.length (k + 1)
      refine W.skip ?_
      refine W.seq ?_
      refine W.block ?_
      refine W.seq ?_
      refine W.reg X [] [(23, ⟨false, [.a (.lit (.int .i64 (szr (left - (l.length : Nat) - (((l.take k).map List.length).sum : Nat)) (List.length (l.getD k (dfl (.sl .u8)))))))]⟩)] [0, 1, 5] [] rfl ⟨c_szByteS (l.getD k (dfl (.sl .u8))) _ (by omega) (by omega), by omega, ⟨⟩⟩ ?_
      refine W.seq ?_
      refine W.reg X [] [] [0, 1, 5, 25] [] rfl ⟨⟩ ?_
      refine W.cond rfl (fun hb2 => ?_) (fun hb2 => ?_)
      · try simp only [nb] at hb2
        have hn := szr_neg (by omega) hb2
        refine W.seq ?_
        refine W.reg X [] [] [4] [] rfl ⟨⟩ ?_
        refine W.ret ?_
        exact Fin.ret rfl ⟨by rw [szr_lt (by unfold lsz; omega)], ⟨⟩⟩
      · try simp only [nb] at hb2
        obtain ⟨e2, e3⟩ := szr_pos hb2
        rw [e2]
        refine W.skip ?_
        refine W.reg X [] [] [0, 1, 5] [] rfl ⟨⟩ ?_
        refine ⟨k + 1, ⟨by omega, by omega⟩, by omega, ?_⟩
        rw [wadd _ k rfl (by omega), show left - (l.length : Nat) - (((l.take k).map List.length).sum : Nat) - (List.length (l.getD k (dfl (.sl .u8))) : Nat) = left - (l.length : Nat) - (((l.take (k + 1)).map List.length).sum : Nat) by omega]
    · try simp only [nb] at hb1
      refine W.exit ?_
      refine W.seq ?_
      refine W.reg X [] [] [4] [] rfl ⟨⟩ ?_
      refine W.ret ?_
      have hf : l.take k = l := List.take_of_length_le (by omega)
      rw [hf] at hs
      exact Fin.ret rfl ⟨by rw [hf, szr_ge (by unfold lsz; omega)]; congr 1; unfold lsz; omega, ⟨⟩⟩
theorem c_szDatabase (x : DB) (left : Int) (h0 : 0 ≤ left) (h1 : left ≤ 1048576) : Sound ty Try.prog 83 [.agg (dec_DB x), .a (.lit (.int .i64 left))] [.a (.lit (.int .i64 (szr left (size_DB x))))] := by
  refine Sound.of X Try.call83 Try.func83 rfl rfl (by decide) Try.ntmps83 (by simp) ?_
  intro zb
  refine W.seq ?_
  refine W.reg X [] [] [1, 2] [] rfl ⟨⟩ ?_
  refine W.seq ?_
  refine W.reg X [] [(8, ⟨false, [.a (.lit (.int .i64 (szr (left) ((lsz List.length) x.rows))))]⟩)] [1] [] rfl ⟨c_szByteSS x.rows (left) (by omega) (by omega), ⟨⟩⟩ ?_
  refine W.seq ?_
  refine W.seq ?_
  refine W.reg X [] [] [1, 10] [] rfl ⟨⟩ ?_
  refine W.cond rfl (fun hb0 => ?_) (fun hb0 => ?_)
  · try simp only [nb] at hb0
    refine W.seq ?_
    refine W.reg X [] [] [4] [] rfl ⟨⟩ ?_
    refine W.ret ?_
    exact Fin.ret rfl ⟨by rw [szr_lt (by have := szr_neg (by omega) hb0; unfold size_DB; omega)], ⟨⟩⟩
  · try simp only [nb] at hb0
    obtain ⟨e0, e0'⟩ := szr_pos hb0
    rw [e0]
    refine W.skip ?_
    refine W.seq ?_
    refine W.reg X [] [] [4] [] rfl ⟨⟩ ?_
    refine W.ret ?_
    exact Fin.ret rfl ⟨by rw [szr_ge (by unfold size_DB; omega)]; first | done | (congr 1; done) | (congr 1; unfold size_DB; omega), ⟨⟩⟩
theorem c_szArchivedRound (x : ARound) (left : Int) (h0 : 0 ≤ left) (h1 : left ≤ 1048576) : Sound ty Try.prog 57 [.agg (dec_ARound x), .a (.lit (.int .i64 left))] [.a (.lit (.int .i64 (szr left (size_ARound x))))] := by
  refine Sound.of X Try.call57 Try.func57 rfl rfl (by decide) Try.ntmps57 (by simp) ?_
  intro zb
  refine W.seq ?_
  refine W.reg X [] [] [1, 2] [] rfl ⟨⟩ ?_
  refine W.seq ?_
  refine W.reg X [] [(8, ⟨false, [.a (.lit (.int .i64 (szr (left) (size_DB x.db))))]⟩)] [1] [] rfl ⟨c_szDatabase x.db (left) (by omega) (by omega), ⟨⟩⟩ ?_
  refine W.seq ?_
  refine W.seq ?_
  refine W.reg X [] [] [1, 10] [] rfl ⟨⟩ ?_
  refine W.cond rfl (fun hb0 => ?_) (fun hb0 => ?_)
  · try simp only [nb] at hb0
    refine W.seq ?_
    refine W.reg X [] [] [4] [] rfl ⟨⟩ ?_
    refine W.ret ?_
    exact Fin.ret rfl ⟨by rw [szr_lt (by have := szr_neg (by omega) hb0; unfold size_ARound; omega)], ⟨⟩⟩
  · try simp only [nb] at hb0
    obtain ⟨e0, e0'⟩ := szr_pos hb0
    rw [e0]
    refine W.skip ?_
    refine W.seq ?_
    refine W.reg X [] [] [4] [] rfl ⟨⟩ ?_
    refine W.ret ?_
    exact Fin.ret rfl ⟨by rw [szr_ge (by unfold size_ARound; omega)]; first | done | (congr 1; done) | (congr 1; unfold size_ARound; omega), ⟨⟩⟩
theorem c_szArchivedRoundS (l : (List ARound)) (left : Int) (h0 : 0 ≤ left) (h1 : left ≤ 1048576) : Sound ty Try.prog 35 [.a (.sl .ARound l), .a (.lit (.int .i64 left))] [.a (.lit (.int .i64 (szr left ((lsz size_ARound) l))))] := by
  refine Sound.of X Try.call35 Try.func35 rfl rfl (by decide) Try.ntmps35 (by simp) ?_
  intro zb
  refine W.bound 0 rfl fun hl => ?_
  refine W.seq ?_
  refine W.reg X [] [] [0, 1] [] rfl ⟨⟩ ?_
  refine W.seq ?_
  refine W.reg X [] [] [0, 1] [] rfl ⟨⟩ ?_
  rw [IntWalk.i64_in (left - (l.length : Nat)) (by omega)]
  refine W.seq ?_
  refine W.seq ?_
  refine W.reg X [] [] [0, 1, 11] [] rfl ⟨⟩ ?_
  refine W.cond rfl (fun hb0 => ?_) (fun hb0 => ?_)
  · try simp only [nb] at hb0
    refine W.seq ?_
    refine W.reg X [] [] [4] [] rfl ⟨⟩ ?_
    refine W.ret ?_
    exact Fin.ret rfl ⟨by rw [szr_lt (by unfold lsz; omega)], ⟨⟩⟩
  · try simp only [nb] at hb0
    refine W.skip ?_
    refine W.seq ?_
    refine W.seq ?_
    refine W.reg X [] [] [0, 1, 5] [] rfl ⟨⟩ ?_
    refine W.block ?_
    refine W.loopO (fun k => k ≤ l.length ∧ (l.length : Int) + (((l.take k).map size_ARound).sum : Nat) ≤ left) (fun k : Nat => [(1, .one (.a (.lit (.int .i64 (left - (l.length : Nat) - (((l.take k).map size_ARound).sum : Nat)))))), (5, .one (.a (.lit (.int .i64 k))))]) (fun k => []) (fun k => l.length - k) 0 (fun k => rfl) ⟨Nat.zero_le _, by simp; omega⟩ (by simp) ?_
    rintro k ⟨hk, hs⟩
    refine W.seq ?_
    refine W.seq ?_
    refine W.reg X [] [] [0, 1, 5, 15] [] rfl ⟨⟩ ?_
    refine W.cond rfl (fun hb1 => ?_) (fun hb1 => ?_)
    · try simp only [nb] at hb1
      have hsum := sum_step size_ARound l (dfl .ARound) k hb1
      have hle := take_sum_le l size_ARound (k + 1)
      refine W.skip ?_
      refine W.seq ?_
      refine W.block ?_
      refine W.seq ?_
      refine W.reg X [] [(23, ⟨false, [.a (.lit (.int .i64 (szr (left - (l.length : Nat) - (((l.take k).map size_ARound).sum : Nat)) (size_ARound (l.getD k (dfl .ARound))))))]⟩)] [0, 1, 5] [] rfl ⟨c_szArchivedRound (l.getD k (dfl .ARound)) _ (by omega) (by omega), by omega, ⟨⟩⟩ ?_
      refine W.seq ?_
      refine W.reg X [] [] [0, 1, 5, 25] [] rfl ⟨⟩ ?_
      refine W.cond rfl (fun hb2 => ?_) (fun hb2 => ?_)
      · try simp only [nb] at hb2
        have hn := szr_neg (by omega) hb2
        refine W.seq ?_
        refine W.reg X [] [] [4] [] rfl ⟨⟩ ?_
        refine W.ret ?_
        exact Fin.ret rfl ⟨by rw [szr_lt (by unfold lsz; omega)], ⟨⟩⟩
      · try simp only [nb] at hb2
        obtain ⟨e2, e3⟩ := szr_pos hb2
        rw [e2]
        refine W.skip ?_
        refine W.reg X [] [] [0, 1, 5] [] rfl ⟨⟩ ?_
        refine ⟨k + 1, ⟨by omega, by omega⟩, by omega, ?_⟩
        rw [wadd _ k rfl (by omega), show left - (l.length : Nat) - (((l.take k).map size_ARound).sum : Nat) - (size_ARound (l.getD k (dfl .ARound)) : Nat) = left - (l.length : Nat) - (((l.take (k + 1)).map size_ARound).sum : Nat) by omega]
    · try simp only [nb] at hb1
      refine W.exit ?_
      refine W.seq ?_
      refine W.reg X [] [] [4] [] rfl ⟨⟩ ?_
      refine W.ret ?_
      have hf : l.take k = l := List.take_of_length_le (by omega)
      rw [hf] at hs
      exact Fin.ret rfl ⟨by rw [hf, szr_ge (by unfold lsz; omega)]; congr 1; unfold lsz; omega, ⟨⟩⟩
theorem c_szArchive (x : Arc) (left : Int) (h0 : 0 ≤ left) (h1 : left ≤ 1048576) : Sound ty Try.prog 11 [.agg (dec_Arc x), .a (.lit (.int .i64 left))] [.a (.lit (.int .i64 (szr left (size_Arc x))))] := by
  refine Sound.of X Try.call11 Try.func11 rfl rfl (by decide) Try.ntmps11 (by simp) ?_
  intro zb
  refine W.seq ?_
  refine W.reg X [] [] [1, 2] [] rfl ⟨⟩ ?_
  refine W.seq ?_
  refine W.reg X [] [(8, ⟨false, [.a (.lit (.int .i64 (szr (left) ((lsz size_ARound) x.rounds))))]⟩)] [1] [] rfl ⟨c_szArchivedRoundS x.rounds (left) (by omega) (by omega), ⟨⟩⟩ ?_
  refine W.seq ?_
  refine W.seq ?_
  refine W.reg X [] [] [1, 10] [] rfl ⟨⟩ ?_
  refine W.cond rfl (fun hb0 => ?_) (fun hb0 => ?_)
  · try simp only [nb] at hb0
    refine W.seq ?_
    refine W.reg X [] [] [4] [] rfl ⟨⟩ ?_
    refine W.ret ?_
    exact Fin.ret rfl ⟨by rw [szr_lt (by have := szr_neg (by omega) hb0; unfold size_Arc; omega)], ⟨⟩⟩
  · try simp only [nb] at hb0
    obtain ⟨e0, e0'⟩ := szr_pos hb0
    rw [e0]
    refine W.skip ?_
    refine W.seq ?_
    refine W.reg X [] [] [4] [] rfl ⟨⟩ ?_
    refine W.ret ?_
    exact Fin.ret rfl ⟨by rw [szr_ge (by unfold size_Arc; omega)]; first | done | (congr 1; done) | (congr 1; unfold size_Arc; omega), ⟨⟩⟩
theorem c_szClient (x : Cli) (left : Int) (h0 : 0 ≤ left) (h1 : left ≤ 1048576) : Sound ty Try.prog 56 [.agg (dec_Cli x), .a (.lit (.int .i64 left))] [.a (.lit (.int .i64 (szr left (size_Cli x))))] := by
  refine Sound.of X Try.call56 Try.func56 rfl rfl (by decide) Try.ntmps56 (by simp) ?_
  intro zb
  refine W.seq ?_
  refine W.reg X [] [] [1, 2] [] rfl ⟨⟩ ?_
  refine W.seq ?_
  refine W.reg X [] [(8, ⟨false, [.a (.lit (.int .i64 (szr (left) ((lsz List.length) x.submitted))))]⟩)] [1, 2] [] rfl ⟨c_szByteSS x.submitted (left) (by omega) (by omega), ⟨⟩⟩ ?_
  refine W.seq ?_
  refine W.seq ?_
  refine W.reg X [] [] [1, 2, 10] [] rfl ⟨⟩ ?_
  refine W.cond rfl (fun hb0 => ?_) (fun hb0 => ?_)
  · try simp only [nb] at hb0
    refine W.seq ?_
    refine W.reg X [] [] [4] [] rfl ⟨⟩ ?_
    refine W.ret ?_
    exact Fin.ret rfl ⟨by rw [szr_lt (by have := szr_neg (by omega) hb0; unfold size_Cli; omega)], ⟨⟩⟩
  · try simp only [nb] at hb0
    obtain ⟨e0, e0'⟩ := szr_pos hb0
    rw [e0]
    refine W.skip ?_
    refine W.seq ?_
    refine W.reg X [] [(14, ⟨false, [.a (.lit (.int .i64 (szr (left - (((lsz List.length) x.submitted) : Nat)) ((lsz List.length) x.inbox))))]⟩)] [1] [] rfl ⟨c_szByteSS x.inbox (left - (((lsz List.length) x.submitted) : Nat)) (by omega) (by omega), ⟨⟩⟩ ?_
    refine W.seq ?_
    refine W.seq ?_
    refine W.reg X [] [] [1, 16] [] rfl ⟨⟩ ?_
    refine W.cond rfl (fun hb1 => ?_) (fun hb1 => ?_)
    · try simp only [nb] at hb1
      refine W.seq ?_
      refine W.reg X [] [] [4] [] rfl ⟨⟩ ?_
      refine W.ret ?_
      exact Fin.ret rfl ⟨by rw [szr_lt (by have := szr_neg (by omega) hb1; unfold size_Cli; omega)], ⟨⟩⟩
    · try simp only [nb] at hb1
      obtain ⟨e1, e1'⟩ := szr_pos hb1
      rw [e1]
      refine W.skip ?_
      refine W.seq ?_
      refine W.reg X [] [] [4] [] rfl ⟨⟩ ?_
      refine W.ret ?_
      exact Fin.ret rfl ⟨by rw [szr_ge (by unfold size_Cli; omega)]; first | done | (congr 1; done) | (congr 1; unfold size_Cli; omega), ⟨⟩⟩
theorem c_szDevice (x : Dev) (left : Int) (h0 : 0 ≤ left) (h1 : left ≤ 1048576) : Sound ty Try.prog 34 [.agg (dec_Dev x), .a (.lit (.int .i64 left))] [.a (.lit (.int .i64 (szr left (size_Dev x))))] := by
  refine Sound.of X Try.call34 Try.func34 rfl rfl (by decide) Try.ntmps34 (by simp) ?_
  intro zb
  refine W.seq ?_
  refine W.reg X [] [] [1, 2] [] rfl ⟨⟩ ?_
  refine W.seq ?_
  refine W.reg X [] [(8, ⟨false, [.a (.lit (.int .i64 (szr (left) (size_Cli x.live))))]⟩)] [1, 2] [] rfl ⟨c_szClient x.live (left) (by omega) (by omega), ⟨⟩⟩ ?_
  refine W.seq ?_
  refine W.seq ?_
  refine W.reg X [] [] [1, 2, 10] [] rfl ⟨⟩ ?_
  refine W.cond rfl (fun hb0 => ?_) (fun hb0 => ?_)
  · try simp only [nb] at hb0
    refine W.seq ?_
    refine W.reg X [] [] [4] [] rfl ⟨⟩ ?_
    refine W.ret ?_
    exact Fin.ret rfl ⟨by rw [szr_lt (by have := szr_neg (by omega) hb0; unfold size_Dev; omega)], ⟨⟩⟩
  · try simp only [nb] at hb0
    obtain ⟨e0, e0'⟩ := szr_pos hb0
    rw [e0]
    refine W.skip ?_
    refine W.seq ?_
    refine W.reg X [] [(14, ⟨false, [.a (.lit (.int .i64 (szr (left - ((size_Cli x.live) : Nat)) (size_Cli x.saved))))]⟩)] [1] [] rfl ⟨c_szClient x.saved (left - ((size_Cli x.live) : Nat)) (by omega) (by omega), ⟨⟩⟩ ?_
    refine W.seq ?_
    refine W.seq ?_
    refine W.reg X [] [] [1, 16] [] rfl ⟨⟩ ?_
    refine W.cond rfl (fun hb1 => ?_) (fun hb1 => ?_)
    · try simp only [nb] at hb1
      refine W.seq ?_
      refine W.reg X [] [] [4] [] rfl ⟨⟩ ?_
      refine W.ret ?_
      exact Fin.ret rfl ⟨by rw [szr_lt (by have := szr_neg (by omega) hb1; unfold size_Dev; omega)], ⟨⟩⟩
    · try simp only [nb] at hb1
      obtain ⟨e1, e1'⟩ := szr_pos hb1
      rw [e1]
      refine W.skip ?_
      refine W.seq ?_
      refine W.reg X [] [] [4] [] rfl ⟨⟩ ?_
      refine W.ret ?_
      exact Fin.ret rfl ⟨by rw [szr_ge (by unfold size_Dev; omega)]; first | done | (congr 1; done) | (congr 1; unfold size_Dev; omega), ⟨⟩⟩
theorem c_szDeviceS (l : (List Dev)) (left : Int) (h0 : 0 ≤ left) (h1 : left ≤ 1048576) : Sound ty Try.prog 10 [.a (.sl .Dev l), .a (.lit (.int .i64 left))] [.a (.lit (.int .i64 (szr left ((lsz size_Dev) l))))] := by
  refine Sound.of X Try.call10 Try.func10 rfl rfl (by decide) Try.ntmps10 (by simp) ?_
  intro zb
  refine W.bound 0 rfl fun hl => ?_
  refine W.seq ?_
  refine W.reg X [] [] [0, 1] [] rfl ⟨⟩ ?_
  refine W.seq ?_
  refine W.reg X [] [] [0, 1] [] rfl ⟨⟩ ?_
  rw [IntWalk.i64_in (left - (l.length : Nat)) (by omega)]
  refine W.seq ?_
  refine W.seq ?_
  refine W.reg X [] [] [0, 1, 11] [] rfl ⟨⟩ ?_
  refine W.cond rfl (fun hb0 => ?_) (fun hb0 => ?_)
  · try simp only [nb] at hb0
    refine W.seq ?_
    refine W.reg X [] [] [4] [] rfl ⟨⟩ ?_
    refine W.ret ?_
    exact Fin.ret rfl ⟨by rw [szr_lt (by unfold lsz; omega)], ⟨⟩⟩
  · try simp only [nb] at hb0
    refine W.skip ?_
    refine W.seq ?_
    refine W.seq ?_
    refine W.reg X [] [] [0, 1, 5] [] rfl ⟨⟩ ?_
    refine W.block ?_
    refine W.loopO (fun k => k ≤ l.length ∧ (l.length : Int) + (((l.take k).map size_Dev).sum : Nat) ≤ left) (fun k : Nat => [(1, .one (.a (.lit (.int .i64 (left - (l.length : Nat) - (((l.take k).map size_Dev).sum : Nat)))))), (5, .one (.a (.lit (.int .i64 k))))]) (fun k => []) (fun k => l.length - k) 0 (fun k => rfl) ⟨Nat.zero_le _, by simp; omega⟩ (by simp) ?_
    rintro k ⟨hk, hs⟩
    refine W.seq ?_
    refine W.seq ?_
    refine W.reg X [] [] [0, 1, 5, 15] [] rfl ⟨⟩ ?_
    refine W.cond rfl (fun hb1 => ?_) (fun hb1 => ?_)
    · try simp only [nb] at hb1
      have hsum := sum_step size_Dev l (dfl .Dev) k hb1
      have hle := take_sum_le l size_Dev (k + 1)
      refine W.skip ?_
      refine W.seq ?_
      refine W.block ?_
      refine W.seq ?_
      refine W.reg X [] [(23, ⟨false, [.a (.lit (.int .i64 (szr (left - (l.length : Nat) - (((l.take k).map size_Dev).sum : Nat)) (size_Dev (l.getD k (dfl .Dev))))))]⟩)] [0, 1, 5] [] rfl ⟨c_szDevice (l.getD k (dfl .Dev)) _ (by omega) (by omega), by omega, ⟨⟩⟩ ?_
      refine W.seq ?_
      refine W.reg X [] [] [0, 1, 5, 25] [] rfl ⟨⟩ ?_
      refine W.cond rfl (fun hb2 => ?_) (fun hb2 => ?_)
      · try simp only [nb] at hb2
        have hn := szr_neg (by omega) hb2
        refine W.seq ?_
        refine W.reg X [] [] [4] [] rfl ⟨⟩ ?_
        refine W.ret ?_
        exact Fin.ret rfl ⟨by rw [szr_lt (by unfold lsz; omega)], ⟨⟩⟩
      · try simp only [nb] at hb2
        obtain ⟨e2, e3⟩ := szr_pos hb2
        rw [e2]
        refine W.skip ?_
        refine W.reg X [] [] [0, 1, 5] [] rfl ⟨⟩ ?_
        refine ⟨k + 1, ⟨by omega, by omega⟩, by omega, ?_⟩
        rw [wadd _ k rfl (by omega), show left - (l.length : Nat) - (((l.take k).map size_Dev).sum : Nat) - (size_Dev (l.getD k (dfl .Dev)) : Nat) = left - (l.length : Nat) - (((l.take (k + 1)).map size_Dev).sum : Nat) by omega]
    · try simp only [nb] at hb1
      refine W.exit ?_
      refine W.seq ?_
      refine W.reg X [] [] [4] [] rfl ⟨⟩ ?_
      refine W.ret ?_
      have hf : l.take k = l := List.take_of_length_le (by omega)
      rw [hf] at hs
      exact Fin.ret rfl ⟨by rw [hf, szr_ge (by unfold lsz; omega)]; congr 1; unfold lsz; omega, ⟨⟩⟩
theorem c_szIntS (l : (List Int)) (left : Int) (h0 : 0 ≤ left) (h1 : left ≤ 1048576) : Sound ty Try.prog 12 [.a (.sl .int l), .a (.lit (.int .i64 left))] [.a (.lit (.int .i64 (szr left (List.length l))))] := by
  refine Sound.of X Try.call12 Try.func12 rfl rfl (by decide) Try.ntmps12 (by simp) ?_
  intro zb
  refine W.bound 0 rfl fun hl => ?_
  refine W.seq ?_
  refine W.reg X [] [] [0, 1] [] rfl ⟨⟩ ?_
  refine W.seq ?_
  refine W.reg X [] [] [1] [] rfl ⟨⟩ ?_
  rw [IntWalk.i64_in (left - (l.length : Nat)) (by omega)]
  refine W.seq ?_
  refine W.seq ?_
  refine W.reg X [] [] [1, 10] [] rfl ⟨⟩ ?_
  refine W.cond rfl (fun hb0 => ?_) (fun hb0 => ?_)
  · try simp only [nb] at hb0
    refine W.seq ?_
    refine W.reg X [] [] [4] [] rfl ⟨⟩ ?_
    refine W.ret ?_
    exact Fin.ret rfl ⟨by rw [szr_lt (by omega)], ⟨⟩⟩
  · try simp only [nb] at hb0
    refine W.skip ?_
    refine W.seq ?_
    refine W.reg X [] [] [4] [] rfl ⟨⟩ ?_
    refine W.ret ?_
    exact Fin.ret rfl ⟨by rw [szr_ge (by omega)], ⟨⟩⟩
theorem c_szReceivedShare (x : RShare) (left : Int) (h0 : 0 ≤ left) (h1 : left ≤ 1048576) : Sound ty Try.prog 81 [.agg (dec_RShare x), .a (.lit (.int .i64 left))] [.a (.lit (.int .i64 (szr left (size_RShare x))))] := by
  refine Sound.of X Try.call81 Try.func81 rfl rfl (by decide) Try.ntmps81 (by simp) ?_
  intro zb
  refine W.seq ?_
  refine W.reg X [] [] [1, 2] [] rfl ⟨⟩ ?_
  refine W.seq ?_
  refine W.reg X [] [(8, ⟨false, [.a (.lit (.int .i64 (szr (left) (size_DB x.share))))]⟩)] [1] [] rfl ⟨c_szDatabase x.share (left) (by omega) (by omega), ⟨⟩⟩ ?_
  refine W.seq ?_
  refine W.seq ?_
  refine W.reg X [] [] [1, 10] [] rfl ⟨⟩ ?_
  refine W.cond rfl (fun hb0 => ?_) (fun hb0 => ?_)
  · try simp only [nb] at hb0
    refine W.seq ?_
    refine W.reg X [] [] [4] [] rfl ⟨⟩ ?_
    refine W.ret ?_
    exact Fin.ret rfl ⟨by rw [szr_lt (by have := szr_neg (by omega) hb0; unfold size_RShare; omega)], ⟨⟩⟩
  · try simp only [nb] at hb0
    obtain ⟨e0, e0'⟩ := szr_pos hb0
    rw [e0]
    refine W.skip ?_
    refine W.seq ?_
    refine W.reg X [] [] [4] [] rfl ⟨⟩ ?_
    refine W.ret ?_
    exact Fin.ret rfl ⟨by rw [szr_ge (by unfold size_RShare; omega)]; first | done | (congr 1; done) | (congr 1; unfold size_RShare; omega), ⟨⟩⟩
theorem c_szReceivedShareS (l : (List RShare)) (left : Int) (h0 : 0 ≤ left) (h1 : left ≤ 1048576) : Sound ty Try.prog 55 [.a (.sl .RShare l), .a (.lit (.int .i64 left))] [.a (.lit (.int .i64 (szr left ((lsz size_RShare) l))))] := by
  refine Sound.of X Try.call55 Try.func55 rfl rfl (by decide) Try.ntmps55 (by simp) ?_
  intro zb
  refine W.bound 0 rfl fun hl => ?_
  refine W.seq ?_
  refine W.reg X [] [] [0, 1] [] rfl ⟨⟩ ?_
  refine W.seq ?_
  refine W.reg X [] [] [0, 1] [] rfl ⟨⟩ ?_
  rw [IntWalk.i64_in (left - (l.length : Nat)) (by omega)]
  refine W.seq ?_
  refine W.seq ?_
  refine W.reg X [] [] [0, 1, 11] [] rfl ⟨⟩ ?_
  refine W.cond rfl (fun hb0 => ?_) (fun hb0 => ?_)
  · try simp only [nb] at hb0
    refine W.seq ?_
    refine W.reg X [] [] [4] [] rfl ⟨⟩ ?_
    refine W.ret ?_
    exact Fin.ret rfl ⟨by rw [szr_lt (by unfold lsz; omega)], ⟨⟩⟩
  · try simp only [nb] at hb0
    refine W.skip ?_
    refine W.seq ?_
    refine W.seq ?_
    refine W.reg X [] [] [0, 1, 5] [] rfl ⟨⟩ ?_
    refine W.block ?_
    refine W.loopO (fun k => k ≤ l.length ∧ (l.length : Int) + (((l.take k).map size_RShare).sum : Nat) ≤ left) (fun k : Nat => [(1, .one (.a (.lit (.int .i64 (left - (l.length : Nat) - (((l.take k).map size_RShare).sum : Nat)))))), (5, .one (.a (.lit (.int .i64 k))))]) (fun k => []) (fun k => l.length - k) 0 (fun k => rfl) ⟨Nat.zero_le _, by simp; omega⟩ (by simp) ?_
    rintro k ⟨hk, hs⟩
    refine W.seq ?_
    refine W.seq ?_
    refine W.reg X [] [] [0, 1, 5, 15] [] rfl ⟨⟩ ?_
    refine W.cond rfl (fun hb1 => ?_) (fun hb1 => ?_)
    · try simp only [nb] at hb1
      have hsum := sum_step size_RShare l (dfl .RShare) k hb1
      have hle := take_sum_le l size_RShare (k + 1)
      refine W.skip ?_
      refine W.seq ?_
      refine W.block ?_
      refine W.seq ?_
      refine W.reg X [] [(23, ⟨false, [.a (.lit (.int .i64 (szr (left - (l.length : Nat) - (((l.take k).map size_RShare).sum : Nat)) (size_RShare (l.getD k (dfl .RShare))))))]⟩)] [0, 1, 5] [] rfl ⟨c_szReceivedShare (l.getD k (dfl .RShare)) _ (by omega) (by omega), by omega, ⟨⟩⟩ ?_
      refine W.seq ?_
      refine W.reg X [] [] [0, 1, 5, 25] [] rfl ⟨⟩ ?_
      refine W.cond rfl (fun hb2 => ?_) (fun hb2 => ?_)
      · try simp only [nb] at hb2
        have hn := szr_neg (by omega) hb2
        refine W.seq ?_
        refine W.reg X [] [] [4] [] rfl ⟨⟩ ?_
        refine W.ret ?_
        exact Fin.ret rfl ⟨by rw [szr_lt (by unfold lsz; omega)], ⟨⟩⟩
      · try simp only [nb] at hb2
        obtain ⟨e2, e3⟩ := szr_pos hb2
        rw [e2]
        refine W.skip ?_
        refine W.reg X [] [] [0, 1, 5] [] rfl ⟨⟩ ?_
        refine ⟨k + 1, ⟨by omega, by omega⟩, by omega, ?_⟩
        rw [wadd _ k rfl (by omega), show left - (l.length : Nat) - (((l.take k).map size_RShare).sum : Nat) - (size_RShare (l.getD k (dfl .RShare)) : Nat) = left - (l.length : Nat) - (((l.take (k + 1)).map size_RShare).sum : Nat) by omega]
    · try simp only [nb] at hb1
      refine W.exit ?_
      refine W.seq ?_
      refine W.reg X [] [] [4] [] rfl ⟨⟩ ?_
      refine W.ret ?_
      have hf : l.take k = l := List.take_of_length_le (by omega)
      rw [hf] at hs
      exact Fin.ret rfl ⟨by rw [hf, szr_ge (by unfold lsz; omega)]; congr 1; unfold lsz; omega, ⟨⟩⟩
theorem c_szServer (x : Srv) (left : Int) (h0 : 0 ≤ left) (h1 : left ≤ 1048576) : Sound ty Try.prog 33 [.agg (dec_Srv x), .a (.lit (.int .i64 left))] [.a (.lit (.int .i64 (szr left (size_Srv x))))] := by
  refine Sound.of X Try.call33 Try.func33 rfl rfl (by decide) Try.ntmps33 (by simp) ?_
  intro zb
  refine W.seq ?_
  refine W.reg X [] [] [1, 2] [] rfl ⟨⟩ ?_
  refine W.seq ?_
  refine W.reg X [] [(8, ⟨false, [.a (.lit (.int .i64 (szr (left) ((lsz size_RShare) x.received))))]⟩)] [1] [] rfl ⟨c_szReceivedShareS x.received (left) (by omega) (by omega), ⟨⟩⟩ ?_
  refine W.seq ?_
  refine W.seq ?_
  refine W.reg X [] [] [1, 10] [] rfl ⟨⟩ ?_
  refine W.cond rfl (fun hb0 => ?_) (fun hb0 => ?_)
  · try simp only [nb] at hb0
    refine W.seq ?_
    refine W.reg X [] [] [4] [] rfl ⟨⟩ ?_
    refine W.ret ?_
    exact Fin.ret rfl ⟨by rw [szr_lt (by have := szr_neg (by omega) hb0; unfold size_Srv; omega)], ⟨⟩⟩
  · try simp only [nb] at hb0
    obtain ⟨e0, e0'⟩ := szr_pos hb0
    rw [e0]
    refine W.skip ?_
    refine W.seq ?_
    refine W.reg X [] [] [4] [] rfl ⟨⟩ ?_
    refine W.ret ?_
    exact Fin.ret rfl ⟨by rw [szr_ge (by unfold size_Srv; omega)]; first | done | (congr 1; done) | (congr 1; unfold size_Srv; omega), ⟨⟩⟩
theorem c_szServerS (l : (List Srv)) (left : Int) (h0 : 0 ≤ left) (h1 : left ≤ 1048576) : Sound ty Try.prog 9 [.a (.sl .Srv l), .a (.lit (.int .i64 left))] [.a (.lit (.int .i64 (szr left ((lsz size_Srv) l))))] := by
  refine Sound.of X Try.call9 Try.func9 rfl rfl (by decide) Try.ntmps9 (by simp) ?_
  intro zb
  refine W.bound 0 rfl fun hl => ?_
  refine W.seq ?_
  refine W.reg X [] [] [0, 1] [] rfl ⟨⟩ ?_
  refine W.seq ?_
  refine W.reg X [] [] [0, 1] [] rfl ⟨⟩ ?_
  rw [IntWalk.i64_in (left - (l.length : Nat)) (by omega)]
  refine W.seq ?_
  refine W.seq ?_
  refine W.reg X [] [] [0, 1, 11] [] rfl ⟨⟩ ?_
  refine W.cond rfl (fun hb0 => ?_) (fun hb0 => ?_)
  · try simp only [nb] at hb0
    refine W.seq ?_
    refine W.reg X [] [] [4] [] rfl ⟨⟩ ?_
    refine W.ret ?_
    exact Fin.ret rfl ⟨by rw [szr_lt (by unfold lsz; omega)], ⟨⟩⟩
  · try simp only [nb] at hb0
    refine W.skip ?_
    refine W.seq ?_
    refine W.seq ?_
    refine W.reg X [] [] [0, 1, 5] [] rfl ⟨⟩ ?_
    refine W.block ?_
    refine W.loopO (fun k => k ≤ l.length ∧ (l.length : Int) + (((l.take k).map size_Srv).sum : Nat) ≤ left) (fun k : Nat => [(1, .one (.a (.lit (.int .i64 (left - (l.length : Nat) - (((l.take k).map size_Srv).sum : Nat)))))), (5, .one (.a (.lit (.int .i64 k))))]) (fun k => []) (fun k => l.length - k) 0 (fun k => rfl) ⟨Nat.zero_le _, by simp; omega⟩ (by simp) ?_
    rintro k ⟨hk, hs⟩
    refine W.seq ?_
    refine W.seq ?_
    refine W.reg X [] [] [0, 1, 5, 15] [] rfl ⟨⟩ ?_
    refine W.cond rfl (fun hb1 => ?_) (fun hb1 => ?_)
    · try simp only [nb] at hb1
      have hsum := sum_step size_Srv l (dfl .Srv) k hb1
      have hle := take_sum_le l size_Srv (k + 1)
      refine W.skip ?_
      refine W.seq ?_
      refine W.block ?_
      refine W.seq ?_
      refine W.reg X [] [(23, ⟨false, [.a (.lit (.int .i64 (szr (left - (l.length : Nat) - (((l.take k).map size_Srv).sum : Nat)) (size_Srv (l.getD k (dfl .Srv))))))]⟩)] [0, 1, 5] [] rfl ⟨c_szServer (l.getD k (dfl .Srv)) _ (by omega) (by omega), by omega, ⟨⟩⟩ ?_
      refine W.seq ?_
      refine W.reg X [] [] [0, 1, 5, 25] [] rfl ⟨⟩ ?_
      refine W.cond rfl (fun hb2 => ?_) (fun hb2 => ?_)
      · try simp only [nb] at hb2
        have hn := szr_neg (by omega) hb2
        refine W.seq ?_
        refine W.reg X [] [] [4] [] rfl ⟨⟩ ?_
        refine W.ret ?_
        exact Fin.ret rfl ⟨by rw [szr_lt (by unfold lsz; omega)], ⟨⟩⟩
      · try simp only [nb] at hb2
        obtain ⟨e2, e3⟩ := szr_pos hb2
        rw [e2]
        refine W.skip ?_
        refine W.reg X [] [] [0, 1, 5] [] rfl ⟨⟩ ?_
        refine ⟨k + 1, ⟨by omega, by omega⟩, by omega, ?_⟩
        rw [wadd _ k rfl (by omega), show left - (l.length : Nat) - (((l.take k).map size_Srv).sum : Nat) - (size_Srv (l.getD k (dfl .Srv)) : Nat) = left - (l.length : Nat) - (((l.take (k + 1)).map size_Srv).sum : Nat) by omega]
    · try simp only [nb] at hb1
      refine W.exit ?_
      refine W.seq ?_
      refine W.reg X [] [] [4] [] rfl ⟨⟩ ?_
      refine W.ret ?_
      have hf : l.take k = l := List.take_of_length_le (by omega)
      rw [hf] at hs
      exact Fin.ret rfl ⟨by rw [hf, szr_ge (by unfold lsz; omega)]; congr 1; unfold lsz; omega, ⟨⟩⟩
theorem c_szWorld (x : Wld) (left : Int) (h0 : 0 ≤ left) (h1 : left ≤ 1048576) : Sound ty Try.prog 4 [.agg (dec_Wld x), .a (.lit (.int .i64 left))] [.a (.lit (.int .i64 (szr left (size_Wld x))))] := by
  refine Sound.of X Try.call4 Try.func4 rfl rfl (by decide) Try.ntmps4 (by simp) ?_
  intro zb
  refine W.seq ?_
  refine W.reg X [] [] [1, 2] [] rfl ⟨⟩ ?_
  refine W.seq ?_
  refine W.reg X [] [(8, ⟨false, [.a (.lit (.int .i64 (szr (left) ((lsz size_Srv) x.servers))))]⟩)] [1, 2] [] rfl ⟨c_szServerS x.servers (left) (by omega) (by omega), ⟨⟩⟩ ?_
  refine W.seq ?_
  refine W.seq ?_
  refine W.reg X [] [] [1, 2, 10] [] rfl ⟨⟩ ?_
  refine W.cond rfl (fun hb0 => ?_) (fun hb0 => ?_)
  · try simp only [nb] at hb0
    refine W.seq ?_
    refine W.reg X [] [] [4] [] rfl ⟨⟩ ?_
    refine W.ret ?_
    exact Fin.ret rfl ⟨by rw [szr_lt (by have := szr_neg (by omega) hb0; unfold size_Wld; omega)], ⟨⟩⟩
  · try simp only [nb] at hb0
    obtain ⟨e0, e0'⟩ := szr_pos hb0
    rw [e0]
    refine W.skip ?_
    refine W.seq ?_
    refine W.reg X [] [(14, ⟨false, [.a (.lit (.int .i64 (szr (left - (((lsz size_Srv) x.servers) : Nat)) ((lsz size_Dev) x.devices))))]⟩)] [1, 2] [] rfl ⟨c_szDeviceS x.devices (left - (((lsz size_Srv) x.servers) : Nat)) (by omega) (by omega), ⟨⟩⟩ ?_
    refine W.seq ?_
    refine W.seq ?_
    refine W.reg X [] [] [1, 2, 16] [] rfl ⟨⟩ ?_
    refine W.cond rfl (fun hb1 => ?_) (fun hb1 => ?_)
    · try simp only [nb] at hb1
      refine W.seq ?_
      refine W.reg X [] [] [4] [] rfl ⟨⟩ ?_
      refine W.ret ?_
      exact Fin.ret rfl ⟨by rw [szr_lt (by have := szr_neg (by omega) hb1; unfold size_Wld; omega)], ⟨⟩⟩
    · try simp only [nb] at hb1
      obtain ⟨e1, e1'⟩ := szr_pos hb1
      rw [e1]
      refine W.skip ?_
      refine W.seq ?_
      refine W.reg X [] [(20, ⟨false, [.a (.lit (.int .i64 (szr (left - (((lsz size_Srv) x.servers) : Nat) - (((lsz size_Dev) x.devices) : Nat)) (size_Arc x.archive))))]⟩)] [1, 2] [] rfl ⟨c_szArchive x.archive (left - (((lsz size_Srv) x.servers) : Nat) - (((lsz size_Dev) x.devices) : Nat)) (by omega) (by omega), ⟨⟩⟩ ?_
      refine W.seq ?_
      refine W.seq ?_
      refine W.reg X [] [] [1, 2, 22] [] rfl ⟨⟩ ?_
      refine W.cond rfl (fun hb2 => ?_) (fun hb2 => ?_)
      · try simp only [nb] at hb2
        refine W.seq ?_
        refine W.reg X [] [] [4] [] rfl ⟨⟩ ?_
        refine W.ret ?_
        exact Fin.ret rfl ⟨by rw [szr_lt (by have := szr_neg (by omega) hb2; unfold size_Wld; omega)], ⟨⟩⟩
      · try simp only [nb] at hb2
        obtain ⟨e2, e2'⟩ := szr_pos hb2
        rw [e2]
        refine W.skip ?_
        refine W.seq ?_
        refine W.reg X [] [(26, ⟨false, [.a (.lit (.int .i64 (szr (left - (((lsz size_Srv) x.servers) : Nat) - (((lsz size_Dev) x.devices) : Nat) - ((size_Arc x.archive) : Nat)) (List.length x.replaced))))]⟩)] [1] [] rfl ⟨c_szIntS x.replaced (left - (((lsz size_Srv) x.servers) : Nat) - (((lsz size_Dev) x.devices) : Nat) - ((size_Arc x.archive) : Nat)) (by omega) (by omega), ⟨⟩⟩ ?_
        refine W.seq ?_
        refine W.seq ?_
        refine W.reg X [] [] [1, 28] [] rfl ⟨⟩ ?_
        refine W.cond rfl (fun hb3 => ?_) (fun hb3 => ?_)
        · try simp only [nb] at hb3
          refine W.seq ?_
          refine W.reg X [] [] [4] [] rfl ⟨⟩ ?_
          refine W.ret ?_
          exact Fin.ret rfl ⟨by rw [szr_lt (by have := szr_neg (by omega) hb3; unfold size_Wld; omega)], ⟨⟩⟩
        · try simp only [nb] at hb3
          obtain ⟨e3, e3'⟩ := szr_pos hb3
          rw [e3]
          refine W.skip ?_
          refine W.seq ?_
          refine W.reg X [] [] [4] [] rfl ⟨⟩ ?_
          refine W.ret ?_
          exact Fin.ret rfl ⟨by rw [szr_ge (by unfold size_Wld; omega)]; first | done | (congr 1; done) | (congr 1; unfold size_Wld; omega), ⟨⟩⟩
end Go.Proofs.Ythejghgjejhgoaa.G
namespace Go.Proofs.Ythejghgjejhgoaa.G
set_option linter.all false
open Go.RowKit L D
set_option maxRecDepth 100000
theorem c_toByteS (l : (List UInt8)) (hx : (List.length l) ≤ 1048576) : Sound ty Try.prog 95 [.a (.sl .u8 l)] [.a (.sl .u8 l)] := by
  refine Sound.of X Try.call95 Try.func95 rfl rfl (by decide) Try.ntmps95 (by simp) ?_
  intro zb
  have hl : l.length ≤ 1048576 := hx
  refine W.seq ?_
  refine W.reg X [] [] [0] [] rfl ⟨⟩ ?_
  refine W.seq ?_
  refine W.reg X [] [] [0, 3] [] rfl (by (repeat' (first | exact True.intro | apply And.intro)) <;> first | (intros; omega) | exact rfl | (simp only [byt, maxLen, lens]; omega)) ?_
  refine W.seq ?_
  refine W.seq ?_
  refine W.reg X [] [] [0, 3, 4] [] rfl ⟨⟩ ?_
  refine W.block ?_
  refine W.loopO (fun k => k ≤ l.length) (fun k : Nat => [(4, .one (.a (.lit (.int .i64 k))))]) (fun k => [(7, .arr .u8 (l.take k ++ List.replicate (l.length - k) (dfl .u8)))]) (fun k => l.length - k) 0 (fun k => rfl) (Nat.zero_le _) rfl ?_
  intro k hk
  refine W.seq ?_
  refine W.seq ?_
  refine W.reg X [] [] [0, 3, 4, 11] [] rfl ⟨⟩ ?_
  refine W.cond rfl (fun hb0 => ?_) (fun hb0 => ?_)
  · try simp only [nb] at hb0
    have hsl := set_len l (dfl .u8) k (by omega)
    refine W.skip ?_
    refine W.seq ?_
    refine W.block ?_
    refine W.reg X [] [] [0, 3, 4] [] rfl (by (repeat' (first | exact True.intro | apply And.intro)) <;> first | (intros; omega) | exact (u8n _).2) ?_
    have e1 := set_step l (dfl .u8) k hb0
    refine W.reg X [] [] [0, 3, 4] [] rfl ⟨⟩ ?_
    refine ⟨k + 1, by omega, by omega, ?_⟩
    rw [u8_back]
    rw [wadd _ k rfl (by omega), ← e1]
    try rfl
  · try simp only [nb] at hb0
    refine W.exit ?_
    refine W.seq ?_
    refine W.reg X [] [] [2] [] rfl ⟨⟩ ?_
    refine W.ret ?_
    exact Fin.ret rfl ⟨by rw [List.take_of_length_le (by omega), show l.length - k = 0 by omega, List.replicate_zero, List.append_nil], ⟨⟩⟩
theorem c_toByteSS (l : (List (List UInt8))) (hx : ((lsz List.length) l) ≤ 1048576) : Sound ty Try.prog 86 [.a (.sl (.sl .u8) l)] [.a (.sl (.sl .u8) l)] := by
  refine Sound.of X Try.call86 Try.func86 rfl rfl (by decide) Try.ntmps86 (by simp) ?_
  intro zb
  have hl : l.length ≤ 1048576 := lsz_len hx
  refine W.seq ?_
  refine W.reg X [] [] [0] [] rfl ⟨⟩ ?_
  refine W.seq ?_
  refine W.reg X [] [] [0, 3] [] rfl (by (repeat' (first | exact True.intro | apply And.intro)) <;> first | (intros; omega) | exact rfl | (simp only [byt, maxLen, lens]; omega)) ?_
  refine W.seq ?_
  refine W.seq ?_
  refine W.reg X [] [] [0, 3, 4] [] rfl ⟨⟩ ?_
  refine W.block ?_
  refine W.loopO (fun k => k ≤ l.length) (fun k : Nat => [(4, .one (.a (.lit (.int .i64 k))))]) (fun k => [(7, .arr (.sl .u8) (l.take k ++ List.replicate (l.length - k) (dfl (.sl .u8))))]) (fun k => l.length - k) 0 (fun k => rfl) (Nat.zero_le _) rfl ?_
  intro k hk
  refine W.seq ?_
  refine W.seq ?_
  refine W.reg X [] [] [0, 3, 4, 11] [] rfl ⟨⟩ ?_
  refine W.cond rfl (fun hb0 => ?_) (fun hb0 => ?_)
  · try simp only [nb] at hb0
    have hsl := set_len l (dfl (.sl .u8)) k (by omega)
    refine W.skip ?_
    refine W.seq ?_
    refine W.block ?_
    refine W.reg X [(20, 300)] [(20, ⟨true, [.a (.sl .u8 (l.getD k (dfl (.sl .u8))))]⟩)] [0, 3, 4] [] rfl (by (repeat' (first | with_reducible exact AllP.nil | with_reducible refine AllP.mk ?_ ?_ | with_reducible apply And.intro)) <;> skip; (iterate 1 (all_goals try (first | exact c_toByteS (l.getD k (dfl (.sl .u8))) (lsz_mem hx (getD_some l _ k hb0))))); all_goals (first | (intros; omega))) ?_
    have e1 := set_step l (dfl (.sl .u8)) k hb0
    refine W.reg X [] [] [0, 3, 4] [] rfl ⟨⟩ ?_
    refine ⟨k + 1, by omega, by omega, ?_⟩
    rw [wadd _ k rfl (by omega), ← e1]
    try rfl
  · try simp only [nb] at hb0
    refine W.exit ?_
    refine W.seq ?_
    refine W.reg X [] [] [2] [] rfl ⟨⟩ ?_
    refine W.ret ?_
    exact Fin.ret rfl ⟨by rw [List.take_of_length_le (by omega), show l.length - k = 0 by omega, List.replicate_zero, List.append_nil], ⟨⟩⟩
theorem c_toDatabase (x : DB) (hx : size_DB x ≤ 1048576) : Sound ty Try.prog 87 [.agg (dec_DB x)] [.agg (dec_DB x)] := by
  refine Sound.of X Try.call87 Try.func87 rfl rfl (by decide) Try.ntmps87 (by simp) ?_
  intro zb
  have hx2 := hx
  unfold size_DB at hx2
  refine W.seq ?_
  refine W.reg X [] [] [1, 2] [] rfl ⟨⟩ ?_
  refine W.seq ?_
  refine W.reg X [] [] [1, 2, 3] [] rfl ⟨⟩ ?_
  refine W.seq ?_
  refine W.reg X [(6, 230)] [(6, ⟨true, [.a (.sl (.sl .u8) x.rows)]⟩)] [2, 3] [] rfl ⟨c_toByteSS x.rows (by omega), ⟨⟩⟩ ?_
  refine W.seq ?_
  refine W.reg X [] [] [2] [] rfl (by (repeat' (first | exact True.intro | apply And.intro))) ?_
  refine W.ret ?_
  exact Fin.ret rfl (by (repeat' (first | exact True.intro | apply And.intro)) <;> rfl)
theorem c_toArchivedRound (x : ARound) (hx : size_ARound x ≤ 1048576) : Sound ty Try.prog 68 [.agg (dec_ARound x)] [.agg (dec_ARound x)] := by
  refine Sound.of X Try.call68 Try.func68 rfl rfl (by decide) Try.ntmps68 (by simp) ?_
  intro zb
  have hx2 := hx
  unfold size_ARound at hx2
  refine W.seq ?_
  refine W.reg X [] [] [1, 2] [] rfl ⟨⟩ ?_
  refine W.seq ?_
  refine W.reg X [] [] [1, 2, 3] [] rfl ⟨⟩ ?_
  refine W.seq ?_
  refine W.reg X [] [] [1, 2, 3] [] rfl ⟨⟩ ?_
  refine W.seq ?_
  refine W.reg X [(9, 230)] [(9, ⟨true, [.agg (dec_DB x.db)]⟩)] [2, 3] [] rfl ⟨c_toDatabase x.db (by omega), ⟨⟩⟩ ?_
  refine W.seq ?_
  refine W.reg X [] [] [2] [] rfl (by (repeat' (first | exact True.intro | apply And.intro))) ?_
  refine W.ret ?_
  exact Fin.ret rfl (by (repeat' (first | exact True.intro | apply And.intro)) <;> rfl)
theorem c_toArchivedRoundS (l : (List ARound)) (hx : ((lsz size_ARound) l) ≤ 1048576) : Sound ty Try.prog 43 [.a (.sl .ARound l)] [.a (.sl .ARound l)] := by
  refine Sound.of X Try.call43 Try.func43 rfl rfl (by decide) Try.ntmps43 (by simp) ?_
  intro zb
  have hl : l.length ≤ 1048576 := lsz_len hx
  refine W.seq ?_
  refine W.reg X [] [] [0] [] rfl ⟨⟩ ?_
  refine W.seq ?_
  refine W.reg X [] [] [0, 3] [] rfl (by (repeat' (first | exact True.intro | apply And.intro)) <;> first | (intros; omega) | exact rfl | (simp only [byt, maxLen, lens]; omega)) ?_
  refine W.seq ?_
  refine W.seq ?_
  refine W.reg X [] [] [0, 3, 4] [] rfl ⟨⟩ ?_
  refine W.block ?_
  refine W.loopO (fun k => k ≤ l.length) (fun k : Nat => [(4, .one (.a (.lit (.int .i64 k))))]) (fun k => [(7, .arr .ARound (l.take k ++ List.replicate (l.length - k) (dfl .ARound)))]) (fun k => l.length - k) 0 (fun k => rfl) (Nat.zero_le _) rfl ?_
  intro k hk
  refine W.seq ?_
  refine W.seq ?_
  refine W.reg X [] [] [0, 3, 4, 11] [] rfl ⟨⟩ ?_
  refine W.cond rfl (fun hb0 => ?_) (fun hb0 => ?_)
  · try simp only [nb] at hb0
    have hsl := set_len l (dfl .ARound) k (by omega)
    refine W.skip ?_
    refine W.seq ?_
    refine W.block ?_
    refine W.reg X [(20, 300)] [(20, ⟨true, [.agg (dec_ARound (l.getD k (dfl .ARound)))]⟩)] [0, 3, 4] [] rfl (by (repeat' (first | with_reducible exact AllP.nil | with_reducible refine AllP.mk ?_ ?_ | with_reducible apply And.intro)) <;> skip; (iterate 1 (all_goals try (first | exact c_toArchivedRound (l.getD k (dfl .ARound)) (lsz_mem hx (getD_some l _ k hb0))))); all_goals (first | (intros; omega))) ?_
    have e1 := set_step l (dfl .ARound) k hb0
    refine W.reg X [] [] [0, 3, 4] [] rfl ⟨⟩ ?_
    refine ⟨k + 1, by omega, by omega, ?_⟩
    rw [wadd _ k rfl (by omega), ← e1]
    try rfl
  · try simp only [nb] at hb0
    refine W.exit ?_
    refine W.seq ?_
    refine W.reg X [] [] [2] [] rfl ⟨⟩ ?_
    refine W.ret ?_
    exact Fin.ret rfl ⟨by rw [List.take_of_length_le (by omega), show l.length - k = 0 by omega, List.replicate_zero, List.append_nil], ⟨⟩⟩
theorem c_toArchive (x : Arc) (hx : size_Arc x ≤ 1048576) : Sound ty Try.prog 21 [.agg (dec_Arc x)] [.agg (dec_Arc x)] := by
  refine Sound.of X Try.call21 Try.func21 rfl rfl (by decide) Try.ntmps21 (by simp) ?_
  intro zb
  have hx2 := hx
  unfold size_Arc at hx2
  refine W.seq ?_
  refine W.reg X [] [] [1, 2] [] rfl ⟨⟩ ?_
  refine W.seq ?_
  refine W.reg X [] [] [1, 2, 3] [] rfl ⟨⟩ ?_
  refine W.seq ?_
  refine W.reg X [] [] [1, 2, 3] [] rfl ⟨⟩ ?_
  refine W.seq ?_
  refine W.reg X [(9, 230)] [(9, ⟨true, [.a (.sl .ARound x.rounds)]⟩)] [2, 3] [] rfl ⟨c_toArchivedRoundS x.rounds (by omega), ⟨⟩⟩ ?_
  refine W.seq ?_
  refine W.reg X [] [] [2] [] rfl (by (repeat' (first | exact True.intro | apply And.intro))) ?_
  refine W.ret ?_
  exact Fin.ret rfl (by (repeat' (first | exact True.intro | apply And.intro)) <;> rfl)
theorem c_toClient (x : Cli) (hx : size_Cli x ≤ 1048576) : Sound ty Try.prog 67 [.agg (dec_Cli x)] [.agg (dec_Cli x)] := by
  refine Sound.of X Try.call67 Try.func67 rfl rfl (by decide) Try.ntmps67 (by simp) ?_
  intro zb
  have hx2 := hx
  unfold size_Cli at hx2
  refine W.seq ?_
  refine W.reg X [] [] [1, 2] [] rfl ⟨⟩ ?_
  refine W.seq ?_
  refine W.reg X [] [] [1, 2, 3] [] rfl ⟨⟩ ?_
  refine W.seq ?_
  refine W.reg X [] [] [1, 2, 3] [] rfl ⟨⟩ ?_
  refine W.seq ?_
  refine W.reg X [] [] [1, 2, 3] [] rfl ⟨⟩ ?_
  refine W.seq ?_
  refine W.reg X [] [] [1, 2, 3] [] rfl ⟨⟩ ?_
  refine W.seq ?_
  refine W.reg X [] [] [1, 2, 3] [] rfl ⟨⟩ ?_
  refine W.seq ?_
  refine W.reg X [(18, 230)] [(18, ⟨true, [.a (.sl (.sl .u8) x.submitted)]⟩)] [1, 2, 3] [] rfl ⟨c_toByteSS x.submitted (by omega), ⟨⟩⟩ ?_
  refine W.seq ?_
  refine W.reg X [] [] [1, 2, 3] [] rfl ⟨⟩ ?_
  refine W.seq ?_
  refine W.reg X [(25, 260)] [(25, ⟨true, [.a (.sl (.sl .u8) x.inbox)]⟩)] [1, 2, 3] [] rfl ⟨c_toByteSS x.inbox (by omega), ⟨⟩⟩ ?_
  refine W.seq ?_
  refine W.reg X [] [] [2, 3] [] rfl ⟨⟩ ?_
  refine W.seq ?_
  refine W.reg X [] [] [2] [] rfl (by (repeat' (first | exact True.intro | apply And.intro))) ?_
  refine W.ret ?_
  exact Fin.ret rfl (by (repeat' (first | exact True.intro | apply And.intro)) <;> rfl)
theorem c_toDevice (x : Dev) (hx : size_Dev x ≤ 1048576) : Sound ty Try.prog 42 [.agg (dec_Dev x)] [.agg (dec_Dev x)] := by
  refine Sound.of X Try.call42 Try.func42 rfl rfl (by decide) Try.ntmps42 (by simp) ?_
  intro zb
  have hx2 := hx
  unfold size_Dev at hx2
  refine W.seq ?_
  refine W.reg X [] [] [1, 2] [] rfl ⟨⟩ ?_
  refine W.seq ?_
  refine W.reg X [] [] [1, 2, 3] [] rfl ⟨⟩ ?_
  refine W.seq ?_
  refine W.reg X [(6, 230)] [(6, ⟨true, [.agg (dec_Cli x.live)]⟩)] [1, 2, 3] [] rfl ⟨c_toClient x.live (by omega), ⟨⟩⟩ ?_
  refine W.seq ?_
  refine W.reg X [(10, 260)] [(10, ⟨true, [.agg (dec_Cli x.saved)]⟩)] [2, 3] [] rfl ⟨c_toClient x.saved (by omega), ⟨⟩⟩ ?_
  refine W.seq ?_
  refine W.reg X [] [] [2] [] rfl (by (repeat' (first | exact True.intro | apply And.intro))) ?_
  refine W.ret ?_
  exact Fin.ret rfl (by (repeat' (first | exact True.intro | apply And.intro)) <;> rfl)
theorem c_toDeviceS (l : (List Dev)) (hx : ((lsz size_Dev) l) ≤ 1048576) : Sound ty Try.prog 20 [.a (.sl .Dev l)] [.a (.sl .Dev l)] := by
  refine Sound.of X Try.call20 Try.func20 rfl rfl (by decide) Try.ntmps20 (by simp) ?_
  intro zb
  have hl : l.length ≤ 1048576 := lsz_len hx
  refine W.seq ?_
  refine W.reg X [] [] [0] [] rfl ⟨⟩ ?_
  refine W.seq ?_
  refine W.reg X [] [] [0, 3] [] rfl (by (repeat' (first | exact True.intro | apply And.intro)) <;> first | (intros; omega) | exact rfl | (simp only [byt, maxLen, lens]; omega)) ?_
  refine W.seq ?_
  refine W.seq ?_
  refine W.reg X [] [] [0, 3, 4] [] rfl ⟨⟩ ?_
  refine W.block ?_
  refine W.loopO (fun k => k ≤ l.length) (fun k : Nat => [(4, .one (.a (.lit (.int .i64 k))))]) (fun k => [(7, .arr .Dev (l.take k ++ List.replicate (l.length - k) (dfl .Dev)))]) (fun k => l.length - k) 0 (fun k => rfl) (Nat.zero_le _) rfl ?_
  intro k hk
  refine W.seq ?_
  refine W.seq ?_
  refine W.reg X [] [] [0, 3, 4, 11] [] rfl ⟨⟩ ?_
  refine W.cond rfl (fun hb0 => ?_) (fun hb0 => ?_)
  · try simp only [nb] at hb0
    have hsl := set_len l (dfl .Dev) k (by omega)
    refine W.skip ?_
    refine W.seq ?_
    refine W.block ?_
    refine W.reg X [(20, 300)] [(20, ⟨true, [.agg (dec_Dev (l.getD k (dfl .Dev)))]⟩)] [0, 3, 4] [] rfl (by (repeat' (first | with_reducible exact AllP.nil | with_reducible refine AllP.mk ?_ ?_ | with_reducible apply And.intro)) <;> skip; (iterate 1 (all_goals try (first | exact c_toDevice (l.getD k (dfl .Dev)) (lsz_mem hx (getD_some l _ k hb0))))); all_goals (first | (intros; omega))) ?_
    have e1 := set_step l (dfl .Dev) k hb0
    refine W.reg X [] [] [0, 3, 4] [] rfl ⟨⟩ ?_
    refine ⟨k + 1, by omega, by omega, ?_⟩
    rw [wadd _ k rfl (by omega), ← e1]
    try rfl
  · try simp only [nb] at hb0
    refine W.exit ?_
    refine W.seq ?_
    refine W.reg X [] [] [2] [] rfl ⟨⟩ ?_
    refine W.ret ?_
    exact Fin.ret rfl ⟨by rw [List.take_of_length_le (by omega), show l.length - k = 0 by omega, List.replicate_zero, List.append_nil], ⟨⟩⟩
theorem c_toIntS (l : (List Int)) (hx : (List.length l) ≤ 1048576) : Sound ty Try.prog 22 [.a (.sl .int l)] [.a (.sl .int l)] := by
  refine Sound.of X Try.call22 Try.func22 rfl rfl (by decide) Try.ntmps22 (by simp) ?_
  intro zb
  have hl : l.length ≤ 1048576 := hx
  refine W.seq ?_
  refine W.reg X [] [] [0] [] rfl ⟨⟩ ?_
  refine W.seq ?_
  refine W.reg X [] [] [0, 3] [] rfl (by (repeat' (first | exact True.intro | apply And.intro)) <;> first | (intros; omega) | exact rfl | (simp only [byt, maxLen, lens]; omega)) ?_
  refine W.seq ?_
  refine W.seq ?_
  refine W.reg X [] [] [0, 3, 4] [] rfl ⟨⟩ ?_
  refine W.block ?_
  refine W.loopO (fun k => k ≤ l.length) (fun k : Nat => [(4, .one (.a (.lit (.int .i64 k))))]) (fun k => [(7, .arr .int (l.take k ++ List.replicate (l.length - k) (dfl .int)))]) (fun k => l.length - k) 0 (fun k => rfl) (Nat.zero_le _) rfl ?_
  intro k hk
  refine W.seq ?_
  refine W.seq ?_
  refine W.reg X [] [] [0, 3, 4, 11] [] rfl ⟨⟩ ?_
  refine W.cond rfl (fun hb0 => ?_) (fun hb0 => ?_)
  · try simp only [nb] at hb0
    have hsl := set_len l (dfl .int) k (by omega)
    refine W.skip ?_
    refine W.seq ?_
    refine W.block ?_
    refine W.reg X [] [] [0, 3, 4] [] rfl (by (repeat' (first | exact True.intro | apply And.intro)) <;> first | (intros; omega)) ?_
    have e1 := set_step l (dfl .int) k hb0
    refine W.reg X [] [] [0, 3, 4] [] rfl ⟨⟩ ?_
    refine ⟨k + 1, by omega, by omega, ?_⟩
    rw [wadd _ k rfl (by omega), ← e1]
    try rfl
  · try simp only [nb] at hb0
    refine W.exit ?_
    refine W.seq ?_
    refine W.reg X [] [] [2] [] rfl ⟨⟩ ?_
    refine W.ret ?_
    exact Fin.ret rfl ⟨by rw [List.take_of_length_le (by omega), show l.length - k = 0 by omega, List.replicate_zero, List.append_nil], ⟨⟩⟩
theorem c_toReceivedShare (x : RShare) (hx : size_RShare x ≤ 1048576) : Sound ty Try.prog 85 [.agg (dec_RShare x)] [.agg (dec_RShare x)] := by
  refine Sound.of X Try.call85 Try.func85 rfl rfl (by decide) Try.ntmps85 (by simp) ?_
  intro zb
  have hx2 := hx
  unfold size_RShare at hx2
  refine W.seq ?_
  refine W.reg X [] [] [1, 2] [] rfl ⟨⟩ ?_
  refine W.seq ?_
  refine W.reg X [] [] [1, 2, 3] [] rfl ⟨⟩ ?_
  refine W.seq ?_
  refine W.reg X [] [] [1, 2, 3] [] rfl ⟨⟩ ?_
  refine W.seq ?_
  refine W.reg X [(9, 230)] [(9, ⟨true, [.agg (dec_DB x.share)]⟩)] [2, 3] [] rfl ⟨c_toDatabase x.share (by omega), ⟨⟩⟩ ?_
  refine W.seq ?_
  refine W.reg X [] [] [2] [] rfl (by (repeat' (first | exact True.intro | apply And.intro))) ?_
  refine W.ret ?_
  exact Fin.ret rfl (by (repeat' (first | exact True.intro | apply And.intro)) <;> rfl)
theorem c_toReceivedShareS (l : (List RShare)) (hx : ((lsz size_RShare) l) ≤ 1048576) : Sound ty Try.prog 66 [.a (.sl .RShare l)] [.a (.sl .RShare l)] := by
  refine Sound.of X Try.call66 Try.func66 rfl rfl (by decide) Try.ntmps66 (by simp) ?_
  intro zb
  have hl : l.length ≤ 1048576 := lsz_len hx
  refine W.seq ?_
  refine W.reg X [] [] [0] [] rfl ⟨⟩ ?_
  refine W.seq ?_
  refine W.reg X [] [] [0, 3] [] rfl (by (repeat' (first | exact True.intro | apply And.intro)) <;> first | (intros; omega) | exact rfl | (simp only [byt, maxLen, lens]; omega)) ?_
  refine W.seq ?_
  refine W.seq ?_
  refine W.reg X [] [] [0, 3, 4] [] rfl ⟨⟩ ?_
  refine W.block ?_
  refine W.loopO (fun k => k ≤ l.length) (fun k : Nat => [(4, .one (.a (.lit (.int .i64 k))))]) (fun k => [(7, .arr .RShare (l.take k ++ List.replicate (l.length - k) (dfl .RShare)))]) (fun k => l.length - k) 0 (fun k => rfl) (Nat.zero_le _) rfl ?_
  intro k hk
  refine W.seq ?_
  refine W.seq ?_
  refine W.reg X [] [] [0, 3, 4, 11] [] rfl ⟨⟩ ?_
  refine W.cond rfl (fun hb0 => ?_) (fun hb0 => ?_)
  · try simp only [nb] at hb0
    have hsl := set_len l (dfl .RShare) k (by omega)
    refine W.skip ?_
    refine W.seq ?_
    refine W.block ?_
    refine W.reg X [(20, 300)] [(20, ⟨true, [.agg (dec_RShare (l.getD k (dfl .RShare)))]⟩)] [0, 3, 4] [] rfl (by (repeat' (first | with_reducible exact AllP.nil | with_reducible refine AllP.mk ?_ ?_ | with_reducible apply And.intro)) <;> skip; (iterate 1 (all_goals try (first | exact c_toReceivedShare (l.getD k (dfl .RShare)) (lsz_mem hx (getD_some l _ k hb0))))); all_goals (first | (intros; omega))) ?_
    have e1 := set_step l (dfl .RShare) k hb0
    refine W.reg X [] [] [0, 3, 4] [] rfl ⟨⟩ ?_
    refine ⟨k + 1, by omega, by omega, ?_⟩
    rw [wadd _ k rfl (by omega), ← e1]
    try rfl
  · try simp only [nb] at hb0
    refine W.exit ?_
    refine W.seq ?_
    refine W.reg X [] [] [2] [] rfl ⟨⟩ ?_
    refine W.ret ?_
    exact Fin.ret rfl ⟨by rw [List.take_of_length_le (by omega), show l.length - k = 0 by omega, List.replicate_zero, List.append_nil], ⟨⟩⟩
theorem c_toServer (x : Srv) (hx : size_Srv x ≤ 1048576) : Sound ty Try.prog 41 [.agg (dec_Srv x)] [.agg (dec_Srv x)] := by
  refine Sound.of X Try.call41 Try.func41 rfl rfl (by decide) Try.ntmps41 (by simp) ?_
  intro zb
  have hx2 := hx
  unfold size_Srv at hx2
  refine W.seq ?_
  refine W.reg X [] [] [1, 2] [] rfl ⟨⟩ ?_
  refine W.seq ?_
  refine W.reg X [] [] [1, 2, 3] [] rfl ⟨⟩ ?_
  refine W.seq ?_
  refine W.reg X [] [] [1, 2, 3] [] rfl ⟨⟩ ?_
  refine W.seq ?_
  refine W.reg X [] [] [1, 2, 3] [] rfl ⟨⟩ ?_
  refine W.seq ?_
  refine W.reg X [] [] [1, 2, 3] [] rfl ⟨⟩ ?_
  refine W.seq ?_
  refine W.reg X [(15, 230)] [(15, ⟨true, [.a (.sl .RShare x.received)]⟩)] [1, 2, 3] [] rfl ⟨c_toReceivedShareS x.received (by omega), ⟨⟩⟩ ?_
  refine W.seq ?_
  refine W.reg X [] [] [2, 3] [] rfl ⟨⟩ ?_
  refine W.seq ?_
  refine W.reg X [] [] [2] [] rfl (by (repeat' (first | exact True.intro | apply And.intro))) ?_
  refine W.ret ?_
  exact Fin.ret rfl (by (repeat' (first | exact True.intro | apply And.intro)) <;> rfl)
theorem c_toServerS (l : (List Srv)) (hx : ((lsz size_Srv) l) ≤ 1048576) : Sound ty Try.prog 19 [.a (.sl .Srv l)] [.a (.sl .Srv l)] := by
  refine Sound.of X Try.call19 Try.func19 rfl rfl (by decide) Try.ntmps19 (by simp) ?_
  intro zb
  have hl : l.length ≤ 1048576 := lsz_len hx
  refine W.seq ?_
  refine W.reg X [] [] [0] [] rfl ⟨⟩ ?_
  refine W.seq ?_
  refine W.reg X [] [] [0, 3] [] rfl (by (repeat' (first | exact True.intro | apply And.intro)) <;> first | (intros; omega) | exact rfl | (simp only [byt, maxLen, lens]; omega)) ?_
  refine W.seq ?_
  refine W.seq ?_
  refine W.reg X [] [] [0, 3, 4] [] rfl ⟨⟩ ?_
  refine W.block ?_
  refine W.loopO (fun k => k ≤ l.length) (fun k : Nat => [(4, .one (.a (.lit (.int .i64 k))))]) (fun k => [(7, .arr .Srv (l.take k ++ List.replicate (l.length - k) (dfl .Srv)))]) (fun k => l.length - k) 0 (fun k => rfl) (Nat.zero_le _) rfl ?_
  intro k hk
  refine W.seq ?_
  refine W.seq ?_
  refine W.reg X [] [] [0, 3, 4, 11] [] rfl ⟨⟩ ?_
  refine W.cond rfl (fun hb0 => ?_) (fun hb0 => ?_)
  · try simp only [nb] at hb0
    have hsl := set_len l (dfl .Srv) k (by omega)
    refine W.skip ?_
    refine W.seq ?_
    refine W.block ?_
    refine W.reg X [(20, 300)] [(20, ⟨true, [.agg (dec_Srv (l.getD k (dfl .Srv)))]⟩)] [0, 3, 4] [] rfl (by (repeat' (first | with_reducible exact AllP.nil | with_reducible refine AllP.mk ?_ ?_ | with_reducible apply And.intro)) <;> skip; (iterate 1 (all_goals try (first | exact c_toServer (l.getD k (dfl .Srv)) (lsz_mem hx (getD_some l _ k hb0))))); all_goals (first | (intros; omega))) ?_
    have e1 := set_step l (dfl .Srv) k hb0
    refine W.reg X [] [] [0, 3, 4] [] rfl ⟨⟩ ?_
    refine ⟨k + 1, by omega, by omega, ?_⟩
    rw [wadd _ k rfl (by omega), ← e1]
    try rfl
  · try simp only [nb] at hb0
    refine W.exit ?_
    refine W.seq ?_
    refine W.reg X [] [] [2] [] rfl ⟨⟩ ?_
    refine W.ret ?_
    exact Fin.ret rfl ⟨by rw [List.take_of_length_le (by omega), show l.length - k = 0 by omega, List.replicate_zero, List.append_nil], ⟨⟩⟩
theorem c_toWorld (x : Wld) (hx : size_Wld x ≤ 1048576) : Sound ty Try.prog 6 [.agg (dec_Wld x)] [.agg (dec_Wld x)] := by
  refine Sound.of X Try.call6 Try.func6 rfl rfl (by decide) Try.ntmps6 (by simp) ?_
  intro zb
  have hx2 := hx
  unfold size_Wld at hx2
  refine W.seq ?_
  refine W.reg X [] [] [1, 2] [] rfl ⟨⟩ ?_
  refine W.seq ?_
  refine W.reg X [] [] [1, 2, 3] [] rfl ⟨⟩ ?_
  refine W.seq ?_
  refine W.reg X [] [] [1, 2, 3] [] rfl ⟨⟩ ?_
  refine W.seq ?_
  refine W.reg X [(9, 230)] [(9, ⟨true, [.a (.sl .Srv x.servers)]⟩)] [1, 2, 3] [] rfl ⟨c_toServerS x.servers (by omega), ⟨⟩⟩ ?_
  refine W.seq ?_
  refine W.reg X [(13, 260)] [(13, ⟨true, [.a (.sl .Dev x.devices)]⟩)] [1, 2, 3] [] rfl ⟨c_toDeviceS x.devices (by omega), ⟨⟩⟩ ?_
  refine W.seq ?_
  refine W.reg X [(17, 290)] [(17, ⟨true, [.agg (dec_Arc x.archive)]⟩)] [1, 2, 3] [] rfl ⟨c_toArchive x.archive (by omega), ⟨⟩⟩ ?_
  refine W.seq ?_
  refine W.reg X [] [] [1, 2, 3] [] rfl ⟨⟩ ?_
  refine W.seq ?_
  refine W.reg X [] [] [1, 2, 3] [] rfl ⟨⟩ ?_
  refine W.seq ?_
  refine W.reg X [] [] [1, 2, 3] [] rfl ⟨⟩ ?_
  refine W.seq ?_
  refine W.reg X [(30, 320)] [(30, ⟨true, [.a (.sl .int x.replaced)]⟩)] [1, 2, 3] [] rfl ⟨c_toIntS x.replaced (by omega), ⟨⟩⟩ ?_
  refine W.seq ?_
  refine W.reg X [] [] [2, 3] [] rfl ⟨⟩ ?_
  refine W.seq ?_
  refine W.reg X [] [] [2] [] rfl (by (repeat' (first | exact True.intro | apply And.intro))) ?_
  refine W.ret ?_
  exact Fin.ret rfl (by (repeat' (first | exact True.intro | apply And.intro)) <;> rfl)
end Go.Proofs.Ythejghgjejhgoaa.G
namespace Go.Proofs.Ythejghgjejhgoaa.G
set_option linter.all false
open Go.RowKit L D
set_option maxRecDepth 100000
theorem c_eqByteS (l : (List UInt8)) : Sound ty Try.prog 96 [.a (.sl .u8 l), .a (.sl .u8 l)] [.a (.lit (.bool true))] := by
  refine Sound.of X Try.call96 Try.func96 rfl rfl (by decide) Try.ntmps96 (by simp) ?_
  intro zb
  refine W.bound 0 rfl fun hl => ?_
  refine W.seq ?_
  refine W.reg X [] [] [0, 1] [] rfl ⟨⟩ ?_
  refine W.seq ?_
  refine W.seq ?_
  refine W.reg X [] [] [0, 1, 10] [] rfl ⟨⟩ ?_
  refine W.cond rfl (fun hb0 => ?_) (fun hb0 => ?_)
  · exact absurd hb0 (by simp)
  · clear hb0
    refine W.skip ?_
    refine W.seq ?_
    refine W.seq ?_
    refine W.reg X [] [] [0, 1, 5] [] rfl ⟨⟩ ?_
    refine W.block ?_
    refine W.loopO (fun k => k ≤ l.length) (fun k : Nat => [(5, .one (.a (.lit (.int .i64 k))))]) (fun k => []) (fun k => l.length - k) 0 (fun k => rfl) (Nat.zero_le _) rfl ?_
    intro k hk
    refine W.seq ?_
    refine W.seq ?_
    refine W.reg X [] [] [0, 1, 5, 14] [] rfl ⟨⟩ ?_
    refine W.cond rfl (fun hb1 => ?_) (fun hb1 => ?_)
    · try simp only [nb] at hb1
      refine W.skip ?_
      refine W.seq ?_
      refine W.block ?_
      refine W.seq ?_
      refine W.draw X [] [] [0, 1, 5, 25] [] 9 MO (by kernel_rfl) rfl (by (repeat' (first | exact True.intro | apply And.intro)) <;> first | (intros; omega)) ?_
      refine W.cond rfl (fun hb2 => ?_) (fun hb2 => ?_)
      · exact absurd hb2 (by simp)
      · clear hb2
        refine W.skip ?_
        refine W.reg X [] [] [0, 1, 5] [] rfl ⟨⟩ ?_
        refine ⟨k + 1, by omega, by omega, ?_⟩
        rw [wadd _ k rfl (by omega)]
        try rfl
    · try simp only [nb] at hb1
      refine W.exit ?_
      refine W.seq ?_
      refine W.reg X [] [] [4] [] rfl ⟨⟩ ?_
      refine W.ret ?_
      exact Fin.ret rfl ⟨rfl, ⟨⟩⟩
theorem c_eqByteSS (l : (List (List UInt8))) : Sound ty Try.prog 92 [.a (.sl (.sl .u8) l), .a (.sl (.sl .u8) l)] [.a (.lit (.bool true))] := by
  refine Sound.of X Try.call92 Try.func92 rfl rfl (by decide) Try.ntmps92 (by simp) ?_
  intro zb
  refine W.bound 0 rfl fun hl => ?_
  refine W.seq ?_
  refine W.reg X [] [] [0, 1] [] rfl ⟨⟩ ?_
  refine W.seq ?_
  refine W.seq ?_
  refine W.reg X [] [] [0, 1, 10] [] rfl ⟨⟩ ?_
  refine W.cond rfl (fun hb0 => ?_) (fun hb0 => ?_)
  · exact absurd hb0 (by simp)
  · clear hb0
    refine W.skip ?_
    refine W.seq ?_
    refine W.seq ?_
    refine W.reg X [] [] [0, 1, 5] [] rfl ⟨⟩ ?_
    refine W.block ?_
    refine W.loopO (fun k => k ≤ l.length) (fun k : Nat => [(5, .one (.a (.lit (.int .i64 k))))]) (fun k => []) (fun k => l.length - k) 0 (fun k => rfl) (Nat.zero_le _) rfl ?_
    intro k hk
    refine W.seq ?_
    refine W.seq ?_
    refine W.reg X [] [] [0, 1, 5, 14] [] rfl ⟨⟩ ?_
    refine W.cond rfl (fun hb1 => ?_) (fun hb1 => ?_)
    · try simp only [nb] at hb1
      refine W.skip ?_
      refine W.seq ?_
      refine W.block ?_
      refine W.seq ?_
      refine W.draw X [] [(25, ⟨false, [.a (.lit (.bool true))]⟩)] [0, 1, 5, 26] [] 10 MO (by kernel_rfl) rfl ⟨c_eqByteS (l.getD k (dfl (.sl .u8))), by omega, by omega, ⟨⟩⟩ ?_
      refine W.cond rfl (fun hb2 => ?_) (fun hb2 => ?_)
      · exact absurd hb2 (by simp)
      · clear hb2
        refine W.skip ?_
        refine W.reg X [] [] [0, 1, 5] [] rfl ⟨⟩ ?_
        refine ⟨k + 1, by omega, by omega, ?_⟩
        rw [wadd _ k rfl (by omega)]
        try rfl
    · try simp only [nb] at hb1
      refine W.exit ?_
      refine W.seq ?_
      refine W.reg X [] [] [4] [] rfl ⟨⟩ ?_
      refine W.ret ?_
      exact Fin.ret rfl ⟨rfl, ⟨⟩⟩
theorem c_eqDatabase (x : DB) : Sound ty Try.prog 93 [.agg (dec_DB x), .agg (dec_DB x)] [.a (.lit (.bool true))] := by
  refine Sound.of X Try.call93 Try.func93 rfl rfl (by decide) Try.ntmps93 (by simp) ?_
  intro zb
  refine W.seq ?_
  refine W.reg X [] [] [2, 3] [] rfl ⟨⟩ ?_
  refine W.seq ?_
  refine W.seq ?_
  refine W.reg X [] [(9, ⟨false, [.a (.lit (.bool true))]⟩)] [10] [] rfl ⟨c_eqByteSS x.rows, ⟨⟩⟩ ?_
  refine W.cond rfl (fun hb0 => ?_) (fun hb0 => ?_)
  · exact absurd hb0 (by simp)
  · clear hb0
    refine W.skip ?_
    refine W.seq ?_
    refine W.reg X [] [] [4] [] rfl ⟨⟩ ?_
    refine W.ret ?_
    exact Fin.ret rfl ⟨rfl, ⟨⟩⟩
theorem c_eqArchivedRound (x : ARound) : Sound ty Try.prog 80 [.agg (dec_ARound x), .agg (dec_ARound x)] [.a (.lit (.bool true))] := by
  refine Sound.of X Try.call80 Try.func80 rfl rfl (by decide) Try.ntmps80 (by simp) ?_
  intro zb
  refine W.seq ?_
  refine W.reg X [] [] [2, 3] [] rfl ⟨⟩ ?_
  refine W.seq ?_
  refine W.seq ?_
  refine W.reg X [] [] [2, 3, 9] [] rfl ⟨⟩ ?_
  refine W.cond rfl (fun hb0 => ?_) (fun hb0 => ?_)
  · exact absurd hb0 (by simp)
  · clear hb0
    refine W.skip ?_
    refine W.seq ?_
    refine W.seq ?_
    refine W.reg X [] [(14, ⟨false, [.a (.lit (.bool true))]⟩)] [15] [] rfl ⟨c_eqDatabase x.db, ⟨⟩⟩ ?_
    refine W.cond rfl (fun hb1 => ?_) (fun hb1 => ?_)
    · exact absurd hb1 (by simp)
    · clear hb1
      refine W.skip ?_
      refine W.seq ?_
      refine W.reg X [] [] [4] [] rfl ⟨⟩ ?_
      refine W.ret ?_
      exact Fin.ret rfl ⟨rfl, ⟨⟩⟩
theorem c_eqArchivedRoundS (l : (List ARound)) : Sound ty Try.prog 54 [.a (.sl .ARound l), .a (.sl .ARound l)] [.a (.lit (.bool true))] := by
  refine Sound.of X Try.call54 Try.func54 rfl rfl (by decide) Try.ntmps54 (by simp) ?_
  intro zb
  refine W.bound 0 rfl fun hl => ?_
  refine W.seq ?_
  refine W.reg X [] [] [0, 1] [] rfl ⟨⟩ ?_
  refine W.seq ?_
  refine W.seq ?_
  refine W.reg X [] [] [0, 1, 10] [] rfl ⟨⟩ ?_
  refine W.cond rfl (fun hb0 => ?_) (fun hb0 => ?_)
  · exact absurd hb0 (by simp)
  · clear hb0
    refine W.skip ?_
    refine W.seq ?_
    refine W.seq ?_
    refine W.reg X [] [] [0, 1, 5] [] rfl ⟨⟩ ?_
    refine W.block ?_
    refine W.loopO (fun k => k ≤ l.length) (fun k : Nat => [(5, .one (.a (.lit (.int .i64 k))))]) (fun k => []) (fun k => l.length - k) 0 (fun k => rfl) (Nat.zero_le _) rfl ?_
    intro k hk
    refine W.seq ?_
    refine W.seq ?_
    refine W.reg X [] [] [0, 1, 5, 14] [] rfl ⟨⟩ ?_
    refine W.cond rfl (fun hb1 => ?_) (fun hb1 => ?_)
    · try simp only [nb] at hb1
      refine W.skip ?_
      refine W.seq ?_
      refine W.block ?_
      refine W.seq ?_
      refine W.draw X [] [(25, ⟨false, [.a (.lit (.bool true))]⟩)] [0, 1, 5, 26] [] 10 MO (by kernel_rfl) rfl ⟨c_eqArchivedRound (l.getD k (dfl .ARound)), by omega, by omega, ⟨⟩⟩ ?_
      refine W.cond rfl (fun hb2 => ?_) (fun hb2 => ?_)
      · exact absurd hb2 (by simp)
      · clear hb2
        refine W.skip ?_
        refine W.reg X [] [] [0, 1, 5] [] rfl ⟨⟩ ?_
        refine ⟨k + 1, by omega, by omega, ?_⟩
        rw [wadd _ k rfl (by omega)]
        try rfl
    · try simp only [nb] at hb1
      refine W.exit ?_
      refine W.seq ?_
      refine W.reg X [] [] [4] [] rfl ⟨⟩ ?_
      refine W.ret ?_
      exact Fin.ret rfl ⟨rfl, ⟨⟩⟩
theorem c_eqArchive (x : Arc) : Sound ty Try.prog 31 [.agg (dec_Arc x), .agg (dec_Arc x)] [.a (.lit (.bool true))] := by
  refine Sound.of X Try.call31 Try.func31 rfl rfl (by decide) Try.ntmps31 (by simp) ?_
  intro zb
  refine W.seq ?_
  refine W.reg X [] [] [2, 3] [] rfl ⟨⟩ ?_
  refine W.seq ?_
  refine W.seq ?_
  refine W.reg X [] [] [2, 3, 9] [] rfl ⟨⟩ ?_
  refine W.cond rfl (fun hb0 => ?_) (fun hb0 => ?_)
  · exact absurd hb0 (by simp)
  · clear hb0
    refine W.skip ?_
    refine W.seq ?_
    refine W.seq ?_
    refine W.reg X [] [(14, ⟨false, [.a (.lit (.bool true))]⟩)] [15] [] rfl ⟨c_eqArchivedRoundS x.rounds, ⟨⟩⟩ ?_
    refine W.cond rfl (fun hb1 => ?_) (fun hb1 => ?_)
    · exact absurd hb1 (by simp)
    · clear hb1
      refine W.skip ?_
      refine W.seq ?_
      refine W.reg X [] [] [4] [] rfl ⟨⟩ ?_
      refine W.ret ?_
      exact Fin.ret rfl ⟨rfl, ⟨⟩⟩
theorem c_eqClient (x : Cli) : Sound ty Try.prog 79 [.agg (dec_Cli x), .agg (dec_Cli x)] [.a (.lit (.bool true))] := by
  refine Sound.of X Try.call79 Try.func79 rfl rfl (by decide) Try.ntmps79 (by simp) ?_
  intro zb
  refine W.seq ?_
  refine W.reg X [] [] [2, 3] [] rfl ⟨⟩ ?_
  refine W.seq ?_
  refine W.seq ?_
  refine W.reg X [] [] [2, 3, 9] [] rfl ⟨⟩ ?_
  refine W.cond rfl (fun hb0 => ?_) (fun hb0 => ?_)
  · exact absurd hb0 (by simp)
  · clear hb0
    refine W.skip ?_
    refine W.seq ?_
    refine W.seq ?_
    refine W.reg X [] [] [2, 3, 14] [] rfl ⟨⟩ ?_
    refine W.cond rfl (fun hb1 => ?_) (fun hb1 => ?_)
    · exact absurd hb1 (by simp)
    · clear hb1
      refine W.skip ?_
      refine W.seq ?_
      refine W.seq ?_
      refine W.reg X [] [] [2, 3, 19] [] rfl ⟨⟩ ?_
      refine W.cond rfl (fun hb2 => ?_) (fun hb2 => ?_)
      · exact absurd hb2 (by simp)
      · clear hb2
        refine W.skip ?_
        refine W.seq ?_
        refine W.seq ?_
        refine W.reg X [] [] [2, 3, 24] [] rfl ⟨⟩ ?_
        refine W.cond rfl (fun hb3 => ?_) (fun hb3 => ?_)
        · exact absurd hb3 (by simp)
        · clear hb3
          refine W.skip ?_
          refine W.seq ?_
          refine W.seq ?_
          refine W.reg X [] [(29, ⟨false, [.a (.lit (.bool true))]⟩)] [2, 3, 30] [] rfl ⟨c_eqByteSS x.submitted, ⟨⟩⟩ ?_
          refine W.cond rfl (fun hb4 => ?_) (fun hb4 => ?_)
          · exact absurd hb4 (by simp)
          · clear hb4
            refine W.skip ?_
            refine W.seq ?_
            refine W.seq ?_
            refine W.reg X [] [] [2, 3, 35] [] rfl ⟨⟩ ?_
            refine W.cond rfl (fun hb5 => ?_) (fun hb5 => ?_)
            · exact absurd hb5 (by simp)
            · clear hb5
              refine W.skip ?_
              refine W.seq ?_
              refine W.seq ?_
              refine W.reg X [] [(40, ⟨false, [.a (.lit (.bool true))]⟩)] [2, 3, 41] [] rfl ⟨c_eqByteSS x.inbox, ⟨⟩⟩ ?_
              refine W.cond rfl (fun hb6 => ?_) (fun hb6 => ?_)
              · exact absurd hb6 (by simp)
              · clear hb6
                refine W.skip ?_
                refine W.seq ?_
                refine W.seq ?_
                refine W.reg X [] [] [46] [] rfl ⟨⟩ ?_
                refine W.cond rfl (fun hb7 => ?_) (fun hb7 => ?_)
                · exact absurd hb7 (by simp)
                · clear hb7
                  refine W.skip ?_
                  refine W.seq ?_
                  refine W.reg X [] [] [4] [] rfl ⟨⟩ ?_
                  refine W.ret ?_
                  exact Fin.ret rfl ⟨rfl, ⟨⟩⟩
theorem c_eqDevice (x : Dev) : Sound ty Try.prog 53 [.agg (dec_Dev x), .agg (dec_Dev x)] [.a (.lit (.bool true))] := by
  refine Sound.of X Try.call53 Try.func53 rfl rfl (by decide) Try.ntmps53 (by simp) ?_
  intro zb
  refine W.seq ?_
  refine W.reg X [] [] [2, 3] [] rfl ⟨⟩ ?_
  refine W.seq ?_
  refine W.seq ?_
  refine W.reg X [] [(9, ⟨false, [.a (.lit (.bool true))]⟩)] [2, 3, 10] [] rfl ⟨c_eqClient x.live, ⟨⟩⟩ ?_
  refine W.cond rfl (fun hb0 => ?_) (fun hb0 => ?_)
  · exact absurd hb0 (by simp)
  · clear hb0
    refine W.skip ?_
    refine W.seq ?_
    refine W.seq ?_
    refine W.reg X [] [(15, ⟨false, [.a (.lit (.bool true))]⟩)] [16] [] rfl ⟨c_eqClient x.saved, ⟨⟩⟩ ?_
    refine W.cond rfl (fun hb1 => ?_) (fun hb1 => ?_)
    · exact absurd hb1 (by simp)
    · clear hb1
      refine W.skip ?_
      refine W.seq ?_
      refine W.reg X [] [] [4] [] rfl ⟨⟩ ?_
      refine W.ret ?_
      exact Fin.ret rfl ⟨rfl, ⟨⟩⟩
theorem c_eqDeviceS (l : (List Dev)) : Sound ty Try.prog 30 [.a (.sl .Dev l), .a (.sl .Dev l)] [.a (.lit (.bool true))] := by
  refine Sound.of X Try.call30 Try.func30 rfl rfl (by decide) Try.ntmps30 (by simp) ?_
  intro zb
  refine W.bound 0 rfl fun hl => ?_
  refine W.seq ?_
  refine W.reg X [] [] [0, 1] [] rfl ⟨⟩ ?_
  refine W.seq ?_
  refine W.seq ?_
  refine W.reg X [] [] [0, 1, 10] [] rfl ⟨⟩ ?_
  refine W.cond rfl (fun hb0 => ?_) (fun hb0 => ?_)
  · exact absurd hb0 (by simp)
  · clear hb0
    refine W.skip ?_
    refine W.seq ?_
    refine W.seq ?_
    refine W.reg X [] [] [0, 1, 5] [] rfl ⟨⟩ ?_
    refine W.block ?_
    refine W.loopO (fun k => k ≤ l.length) (fun k : Nat => [(5, .one (.a (.lit (.int .i64 k))))]) (fun k => []) (fun k => l.length - k) 0 (fun k => rfl) (Nat.zero_le _) rfl ?_
    intro k hk
    refine W.seq ?_
    refine W.seq ?_
    refine W.reg X [] [] [0, 1, 5, 14] [] rfl ⟨⟩ ?_
    refine W.cond rfl (fun hb1 => ?_) (fun hb1 => ?_)
    · try simp only [nb] at hb1
      refine W.skip ?_
      refine W.seq ?_
      refine W.block ?_
      refine W.seq ?_
      refine W.draw X [] [(25, ⟨false, [.a (.lit (.bool true))]⟩)] [0, 1, 5, 26] [] 10 MO (by kernel_rfl) rfl ⟨c_eqDevice (l.getD k (dfl .Dev)), by omega, by omega, ⟨⟩⟩ ?_
      refine W.cond rfl (fun hb2 => ?_) (fun hb2 => ?_)
      · exact absurd hb2 (by simp)
      · clear hb2
        refine W.skip ?_
        refine W.reg X [] [] [0, 1, 5] [] rfl ⟨⟩ ?_
        refine ⟨k + 1, by omega, by omega, ?_⟩
        rw [wadd _ k rfl (by omega)]
        try rfl
    · try simp only [nb] at hb1
      refine W.exit ?_
      refine W.seq ?_
      refine W.reg X [] [] [4] [] rfl ⟨⟩ ?_
      refine W.ret ?_
      exact Fin.ret rfl ⟨rfl, ⟨⟩⟩
theorem c_eqIntS (l : (List Int)) : Sound ty Try.prog 32 [.a (.sl .int l), .a (.sl .int l)] [.a (.lit (.bool true))] := by
  refine Sound.of X Try.call32 Try.func32 rfl rfl (by decide) Try.ntmps32 (by simp) ?_
  intro zb
  refine W.bound 0 rfl fun hl => ?_
  refine W.seq ?_
  refine W.reg X [] [] [0, 1] [] rfl ⟨⟩ ?_
  refine W.seq ?_
  refine W.seq ?_
  refine W.reg X [] [] [0, 1, 10] [] rfl ⟨⟩ ?_
  refine W.cond rfl (fun hb0 => ?_) (fun hb0 => ?_)
  · exact absurd hb0 (by simp)
  · clear hb0
    refine W.skip ?_
    refine W.seq ?_
    refine W.seq ?_
    refine W.reg X [] [] [0, 1, 5] [] rfl ⟨⟩ ?_
    refine W.block ?_
    refine W.loopO (fun k => k ≤ l.length) (fun k : Nat => [(5, .one (.a (.lit (.int .i64 k))))]) (fun k => []) (fun k => l.length - k) 0 (fun k => rfl) (Nat.zero_le _) rfl ?_
    intro k hk
    refine W.seq ?_
    refine W.seq ?_
    refine W.reg X [] [] [0, 1, 5, 14] [] rfl ⟨⟩ ?_
    refine W.cond rfl (fun hb1 => ?_) (fun hb1 => ?_)
    · try simp only [nb] at hb1
      refine W.skip ?_
      refine W.seq ?_
      refine W.block ?_
      refine W.seq ?_
      refine W.draw X [] [] [0, 1, 5, 25] [] 9 MO (by kernel_rfl) rfl (by (repeat' (first | exact True.intro | apply And.intro)) <;> first | (intros; omega)) ?_
      refine W.cond rfl (fun hb2 => ?_) (fun hb2 => ?_)
      · exact absurd hb2 (by simp)
      · clear hb2
        refine W.skip ?_
        refine W.reg X [] [] [0, 1, 5] [] rfl ⟨⟩ ?_
        refine ⟨k + 1, by omega, by omega, ?_⟩
        rw [wadd _ k rfl (by omega)]
        try rfl
    · try simp only [nb] at hb1
      refine W.exit ?_
      refine W.seq ?_
      refine W.reg X [] [] [4] [] rfl ⟨⟩ ?_
      refine W.ret ?_
      exact Fin.ret rfl ⟨rfl, ⟨⟩⟩
theorem c_eqReceivedShare (x : RShare) : Sound ty Try.prog 91 [.agg (dec_RShare x), .agg (dec_RShare x)] [.a (.lit (.bool true))] := by
  refine Sound.of X Try.call91 Try.func91 rfl rfl (by decide) Try.ntmps91 (by simp) ?_
  intro zb
  refine W.seq ?_
  refine W.reg X [] [] [2, 3] [] rfl ⟨⟩ ?_
  refine W.seq ?_
  refine W.seq ?_
  refine W.reg X [] [] [2, 3, 9] [] rfl ⟨⟩ ?_
  refine W.cond rfl (fun hb0 => ?_) (fun hb0 => ?_)
  · exact absurd hb0 (by simp)
  · clear hb0
    refine W.skip ?_
    refine W.seq ?_
    refine W.seq ?_
    refine W.reg X [] [(14, ⟨false, [.a (.lit (.bool true))]⟩)] [15] [] rfl ⟨c_eqDatabase x.share, ⟨⟩⟩ ?_
    refine W.cond rfl (fun hb1 => ?_) (fun hb1 => ?_)
    · exact absurd hb1 (by simp)
    · clear hb1
      refine W.skip ?_
      refine W.seq ?_
      refine W.reg X [] [] [4] [] rfl ⟨⟩ ?_
      refine W.ret ?_
      exact Fin.ret rfl ⟨rfl, ⟨⟩⟩
theorem c_eqReceivedShareS (l : (List RShare)) : Sound ty Try.prog 78 [.a (.sl .RShare l), .a (.sl .RShare l)] [.a (.lit (.bool true))] := by
  refine Sound.of X Try.call78 Try.func78 rfl rfl (by decide) Try.ntmps78 (by simp) ?_
  intro zb
  refine W.bound 0 rfl fun hl => ?_
  refine W.seq ?_
  refine W.reg X [] [] [0, 1] [] rfl ⟨⟩ ?_
  refine W.seq ?_
  refine W.seq ?_
  refine W.reg X [] [] [0, 1, 10] [] rfl ⟨⟩ ?_
  refine W.cond rfl (fun hb0 => ?_) (fun hb0 => ?_)
  · exact absurd hb0 (by simp)
  · clear hb0
    refine W.skip ?_
    refine W.seq ?_
    refine W.seq ?_
    refine W.reg X [] [] [0, 1, 5] [] rfl ⟨⟩ ?_
    refine W.block ?_
    refine W.loopO (fun k => k ≤ l.length) (fun k : Nat => [(5, .one (.a (.lit (.int .i64 k))))]) (fun k => []) (fun k => l.length - k) 0 (fun k => rfl) (Nat.zero_le _) rfl ?_
    intro k hk
    refine W.seq ?_
    refine W.seq ?_
    refine W.reg X [] [] [0, 1, 5, 14] [] rfl ⟨⟩ ?_
    refine W.cond rfl (fun hb1 => ?_) (fun hb1 => ?_)
    · try simp only [nb] at hb1
      refine W.skip ?_
      refine W.seq ?_
      refine W.block ?_
      refine W.seq ?_
      refine W.draw X [] [(25, ⟨false, [.a (.lit (.bool true))]⟩)] [0, 1, 5, 26] [] 10 MO (by kernel_rfl) rfl ⟨c_eqReceivedShare (l.getD k (dfl .RShare)), by omega, by omega, ⟨⟩⟩ ?_
      refine W.cond rfl (fun hb2 => ?_) (fun hb2 => ?_)
      · exact absurd hb2 (by simp)
      · clear hb2
        refine W.skip ?_
        refine W.reg X [] [] [0, 1, 5] [] rfl ⟨⟩ ?_
        refine ⟨k + 1, by omega, by omega, ?_⟩
        rw [wadd _ k rfl (by omega)]
        try rfl
    · try simp only [nb] at hb1
      refine W.exit ?_
      refine W.seq ?_
      refine W.reg X [] [] [4] [] rfl ⟨⟩ ?_
      refine W.ret ?_
      exact Fin.ret rfl ⟨rfl, ⟨⟩⟩
theorem c_eqServer (x : Srv) : Sound ty Try.prog 52 [.agg (dec_Srv x), .agg (dec_Srv x)] [.a (.lit (.bool true))] := by
  refine Sound.of X Try.call52 Try.func52 rfl rfl (by decide) Try.ntmps52 (by simp) ?_
  intro zb
  refine W.seq ?_
  refine W.reg X [] [] [2, 3] [] rfl ⟨⟩ ?_
  refine W.seq ?_
  refine W.seq ?_
  refine W.reg X [] [] [2, 3, 9] [] rfl ⟨⟩ ?_
  refine W.cond rfl (fun hb0 => ?_) (fun hb0 => ?_)
  · exact absurd hb0 (by simp)
  · clear hb0
    refine W.skip ?_
    refine W.seq ?_
    refine W.seq ?_
    refine W.reg X [] [] [2, 3, 14] [] rfl ⟨⟩ ?_
    refine W.cond rfl (fun hb1 => ?_) (fun hb1 => ?_)
    · exact absurd hb1 (by simp)
    · clear hb1
      refine W.skip ?_
      refine W.seq ?_
      refine W.seq ?_
      refine W.reg X [] [] [2, 3, 19] [] rfl ⟨⟩ ?_
      refine W.cond rfl (fun hb2 => ?_) (fun hb2 => ?_)
      · exact absurd hb2 (by simp)
      · clear hb2
        refine W.skip ?_
        refine W.seq ?_
        refine W.seq ?_
        refine W.reg X [] [(24, ⟨false, [.a (.lit (.bool true))]⟩)] [2, 3, 25] [] rfl ⟨c_eqReceivedShareS x.received, ⟨⟩⟩ ?_
        refine W.cond rfl (fun hb3 => ?_) (fun hb3 => ?_)
        · exact absurd hb3 (by simp)
        · clear hb3
          refine W.skip ?_
          refine W.seq ?_
          refine W.seq ?_
          refine W.reg X [] [] [30] [] rfl ⟨⟩ ?_
          refine W.cond rfl (fun hb4 => ?_) (fun hb4 => ?_)
          · exact absurd hb4 (by simp)
          · clear hb4
            refine W.skip ?_
            refine W.seq ?_
            refine W.reg X [] [] [4] [] rfl ⟨⟩ ?_
            refine W.ret ?_
            exact Fin.ret rfl ⟨rfl, ⟨⟩⟩
theorem c_eqServerS (l : (List Srv)) : Sound ty Try.prog 29 [.a (.sl .Srv l), .a (.sl .Srv l)] [.a (.lit (.bool true))] := by
  refine Sound.of X Try.call29 Try.func29 rfl rfl (by decide) Try.ntmps29 (by simp) ?_
  intro zb
  refine W.bound 0 rfl fun hl => ?_
  refine W.seq ?_
  refine W.reg X [] [] [0, 1] [] rfl ⟨⟩ ?_
  refine W.seq ?_
  refine W.seq ?_
  refine W.reg X [] [] [0, 1, 10] [] rfl ⟨⟩ ?_
  refine W.cond rfl (fun hb0 => ?_) (fun hb0 => ?_)
  · exact absurd hb0 (by simp)
  · clear hb0
    refine W.skip ?_
    refine W.seq ?_
    refine W.seq ?_
    refine W.reg X [] [] [0, 1, 5] [] rfl ⟨⟩ ?_
    refine W.block ?_
    refine W.loopO (fun k => k ≤ l.length) (fun k : Nat => [(5, .one (.a (.lit (.int .i64 k))))]) (fun k => []) (fun k => l.length - k) 0 (fun k => rfl) (Nat.zero_le _) rfl ?_
    intro k hk
    refine W.seq ?_
    refine W.seq ?_
    refine W.reg X [] [] [0, 1, 5, 14] [] rfl ⟨⟩ ?_
    refine W.cond rfl (fun hb1 => ?_) (fun hb1 => ?_)
    · try simp only [nb] at hb1
      refine W.skip ?_
      refine W.seq ?_
      refine W.block ?_
      refine W.seq ?_
      refine W.draw X [] [(25, ⟨false, [.a (.lit (.bool true))]⟩)] [0, 1, 5, 26] [] 10 MO (by kernel_rfl) rfl ⟨c_eqServer (l.getD k (dfl .Srv)), by omega, by omega, ⟨⟩⟩ ?_
      refine W.cond rfl (fun hb2 => ?_) (fun hb2 => ?_)
      · exact absurd hb2 (by simp)
      · clear hb2
        refine W.skip ?_
        refine W.reg X [] [] [0, 1, 5] [] rfl ⟨⟩ ?_
        refine ⟨k + 1, by omega, by omega, ?_⟩
        rw [wadd _ k rfl (by omega)]
        try rfl
    · try simp only [nb] at hb1
      refine W.exit ?_
      refine W.seq ?_
      refine W.reg X [] [] [4] [] rfl ⟨⟩ ?_
      refine W.ret ?_
      exact Fin.ret rfl ⟨rfl, ⟨⟩⟩
theorem c_eqWorld (x : Wld) : Sound ty Try.prog 8 [.agg (dec_Wld x), .agg (dec_Wld x)] [.a (.lit (.bool true))] := by
  refine Sound.of X Try.call8 Try.func8 rfl rfl (by decide) Try.ntmps8 (by simp) ?_
  intro zb
  refine W.seq ?_
  refine W.reg X [] [] [2, 3] [] rfl ⟨⟩ ?_
  refine W.seq ?_
  refine W.seq ?_
  refine W.reg X [] [] [2, 3, 9] [] rfl ⟨⟩ ?_
  refine W.cond rfl (fun hb0 => ?_) (fun hb0 => ?_)
  · exact absurd hb0 (by simp)
  · clear hb0
    refine W.skip ?_
    refine W.seq ?_
    refine W.seq ?_
    refine W.reg X [] [(14, ⟨false, [.a (.lit (.bool true))]⟩)] [2, 3, 15] [] rfl ⟨c_eqServerS x.servers, ⟨⟩⟩ ?_
    refine W.cond rfl (fun hb1 => ?_) (fun hb1 => ?_)
    · exact absurd hb1 (by simp)
    · clear hb1
      refine W.skip ?_
      refine W.seq ?_
      refine W.seq ?_
      refine W.reg X [] [(20, ⟨false, [.a (.lit (.bool true))]⟩)] [2, 3, 21] [] rfl ⟨c_eqDeviceS x.devices, ⟨⟩⟩ ?_
      refine W.cond rfl (fun hb2 => ?_) (fun hb2 => ?_)
      · exact absurd hb2 (by simp)
      · clear hb2
        refine W.skip ?_
        refine W.seq ?_
        refine W.seq ?_
        refine W.reg X [] [(26, ⟨false, [.a (.lit (.bool true))]⟩)] [2, 3, 27] [] rfl ⟨c_eqArchive x.archive, ⟨⟩⟩ ?_
        refine W.cond rfl (fun hb3 => ?_) (fun hb3 => ?_)
        · exact absurd hb3 (by simp)
        · clear hb3
          refine W.skip ?_
          refine W.seq ?_
          refine W.seq ?_
          refine W.reg X [] [] [2, 3, 32] [] rfl ⟨⟩ ?_
          refine W.cond rfl (fun hb4 => ?_) (fun hb4 => ?_)
          · exact absurd hb4 (by simp)
          · clear hb4
            refine W.skip ?_
            refine W.seq ?_
            refine W.seq ?_
            refine W.reg X [] [] [2, 3, 37] [] rfl ⟨⟩ ?_
            refine W.cond rfl (fun hb5 => ?_) (fun hb5 => ?_)
            · exact absurd hb5 (by simp)
            · clear hb5
              refine W.skip ?_
              refine W.seq ?_
              refine W.seq ?_
              refine W.reg X [] [] [2, 3, 42] [] rfl ⟨⟩ ?_
              refine W.cond rfl (fun hb6 => ?_) (fun hb6 => ?_)
              · exact absurd hb6 (by simp)
              · clear hb6
                refine W.skip ?_
                refine W.seq ?_
                refine W.seq ?_
                refine W.reg X [] [(47, ⟨false, [.a (.lit (.bool true))]⟩)] [2, 3, 48] [] rfl ⟨c_eqIntS x.replaced, ⟨⟩⟩ ?_
                refine W.cond rfl (fun hb7 => ?_) (fun hb7 => ?_)
                · exact absurd hb7 (by simp)
                · clear hb7
                  refine W.skip ?_
                  refine W.seq ?_
                  refine W.seq ?_
                  refine W.reg X [] [] [53] [] rfl ⟨⟩ ?_
                  refine W.cond rfl (fun hb8 => ?_) (fun hb8 => ?_)
                  · exact absurd hb8 (by simp)
                  · clear hb8
                    refine W.skip ?_
                    refine W.seq ?_
                    refine W.reg X [] [] [4] [] rfl ⟨⟩ ?_
                    refine W.ret ?_
                    exact Fin.ret rfl ⟨rfl, ⟨⟩⟩
end Go.Proofs.Ythejghgjejhgoaa.G
namespace Go.Proofs.Ythejghgjejhgoaa.G
set_option linter.all false
open Go.RowKit L D
set_option maxRecDepth 100000

end Go.Proofs.Ythejghgjejhgoaa.G
namespace Go.Proofs.Ythejghgjejhgoaa.G
set_option linter.all false
open Go.RowKit L D
set_option maxRecDepth 100000

end Go.Proofs.Ythejghgjejhgoaa.G
namespace Go.Proofs.Ythejghgjejhgoaa.G
set_option linter.all false
open Go.RowKit L D
theorem i64w {a : Int} (h : -9223372036854775808 ≤ a ∧ a ≤ 9223372036854775807) : IntKind.i64.wrap a = a := IntWalk.i64_in _ (by omega)
theorem u8w_eq (n : Int) : IntKind.u8.wrap n = n % 256 := by
  unfold IntKind.wrap
  simp only [IntKind.signed, IntKind.bits]
  simp
/-- An integer's lowest byte. -/
def b8 (n : Int) : UInt8 := UInt8.ofNat (IntKind.u8.wrap n).toNat
theorem b8_toNat (n : Int) : ((b8 n).toNat : Int) = n % 256 := by unfold b8; rw [u8_rt, u8w_eq]
theorem u8_ext {x y : UInt8} (h : (x.toNat : Int) = y.toNat) : x = y := u8_inj h
theorem b8_congr {a b : Int} (h : a % 256 = b % 256) : b8 a = b8 b := by
  apply u8_ext; rw [b8_toNat, b8_toNat, h]
theorem tmod_pos {a b : Int} (h : 0 ≤ a) : a.tmod b = a % b := Int.tmod_eq_emod_of_nonneg h
theorem tdiv_pos {a b : Int} (h : 0 ≤ a) : a.tdiv b = a / b := Int.tdiv_eq_ediv_of_nonneg h
/-- Go's remainder, made positive. -/
theorem md_eq (p q : Int) (h1 : 1 ≤ q) (h2 : q ≤ 1000000000000) : (IntKind.i64.wrap (p.tmod q + q)).tmod q = p % q := by
  have hb : -q < p.tmod q ∧ p.tmod q < q := ⟨Int.lt_tmod_of_pos p (by omega), Int.tmod_lt_of_pos p (by omega)⟩
  rw [i64w (by omega), tmod_pos (by omega), Int.add_emod_right]
  rcases Int.le_total 0 p with h | h
  · rw [tmod_pos h, Int.emod_emod_of_dvd _ (Int.dvd_refl q)]
  · have e : p.tmod q = p - q * p.tdiv q := by have := Int.tmod_add_mul_tdiv p q; omega
    rw [e, Int.sub_mul_emod_self_left]
def hs1 (h v : Int) : Int := (h * 1000003 + v % 2147483647 + 13) % 2147483647
def hsh (l : List Int) : Int := l.foldl hs1 11
def kh (k : Int) (l : List Int) : Int := hsh (k :: (l ++ [k]))
theorem hs1_range (h v : Int) : 0 ≤ hs1 h v ∧ hs1 h v < 2147483647 := ⟨Int.emod_nonneg _ (by decide), Int.emod_lt_of_pos _ (by decide)⟩
theorem foldl_snoc {α β : Type} (f : β → α → β) (b : β) (l : List α) (k : Nat) (d : α) (h : k < l.length) : (l.take (k + 1)).foldl f b = f ((l.take k).foldl f b) (l.getD k d) := by
  rw [take_snoc l k d h, List.foldl_append]; rfl
theorem hsh_range : ∀ l : List Int, 0 ≤ hsh l ∧ hsh l < 2147483647 := by
  have g : ∀ (l : List Int) (a : Int), (0 ≤ a ∧ a < 2147483647) → 0 ≤ l.foldl hs1 a ∧ l.foldl hs1 a < 2147483647 := by
    intro l
    induction l with
    | nil => intro a h; exact h
    | cons x r ih => intro a _; exact ih _ (hs1_range a x)
  exact fun l => g l 11 (by decide)
theorem kh_range (k : Int) (l : List Int) : 0 ≤ kh k l ∧ kh k l < 2147483647 := hsh_range _
theorem hs1_eq {h v : Int} (h0 : 0 ≤ h) (h1 : h < 2147483647) : (IntKind.i64.wrap (IntKind.i64.wrap (IntKind.i64.wrap (h * 1000003) + v % 2147483647) + 13)).tmod 2147483647 = hs1 h v := by
  have hv : 0 ≤ v % 2147483647 ∧ v % 2147483647 < 2147483647 := ⟨Int.emod_nonneg _ (by decide), Int.emod_lt_of_pos _ (by decide)⟩
  rw [i64w (a := h * 1000003) (by omega), i64w (a := h * 1000003 + v % 2147483647) (by omega), i64w (by omega), tmod_pos (by omega)]
  rfl
def or1 (n : Int) : Int := if n = 0 then 1 else n
theorem or1_max {n : Int} (h : 0 ≤ n) : (if n > 1 then n else 1) = or1 n := by
  unfold or1; split <;> split <;> omega
theorem sq_b {h : Int} (h0 : 0 ≤ h) (h1 : h < 2147483647) : 0 ≤ h * h ∧ h * h ≤ 4611686009837453316 := by
  have := Int.mul_le_mul (show h ≤ 2147483646 by omega) (show h ≤ 2147483646 by omega) h0 (by decide)
  exact ⟨Int.mul_nonneg h0 h0, by omega⟩
def cs (s k : Int) : Int := (kh s [47, k] * kh s [47, k] + 5) % 2147483647
theorem cs_range (s k : Int) : 0 ≤ cs s k ∧ cs s k < 2147483647 := ⟨Int.emod_nonneg _ (by decide), Int.emod_lt_of_pos _ (by decide)⟩
theorem cs_eq {h : Int} (h0 : 0 ≤ h) (h1 : h < 2147483647) : (IntKind.i64.wrap (IntKind.i64.wrap (h * h) + 5)).tmod 2147483647 = (h * h + 5) % 2147483647 := by
  have := sq_b h0 h1
  rw [i64w (a := h * h) (by omega), i64w (by omega), tmod_pos (by omega)]
theorem getD_drop {α : Type} (l : List α) (k : Nat) (d : α) (h : k < l.length) : l.drop k = l.getD k d :: l.drop (k + 1) := by
  rw [List.drop_eq_getElem_cons h, List.getD_eq_getElem?_getD, List.getElem?_eq_getElem h]; rfl
/-- A list changed up to k, its rest as it was. -/
theorem part_set {α : Type} (f l : List α) (k : Nat) (d y : α) (h : k < l.length) (hf : k < f.length) (hy : f.getD k d = y) : (f.take k ++ l.drop k).set k y = f.take (k + 1) ++ l.drop (k + 1) := by
  have hk : (f.take k).length = k := by rw [List.length_take]; omega
  rw [List.set_append_right _ _ (by omega), hk, Nat.sub_self, getD_drop l k d h, List.set_cons_zero, take_snoc f k d hf, List.append_assoc, hy]
  rfl
theorem part_get {α : Type} (f l : List α) (k : Nat) (d : α) (hf : k ≤ f.length) : (f.take k ++ l.drop k).getD k d = l.getD k d := by
  have hk : (f.take k).length = k := by rw [List.length_take]; omega
  rw [List.getD_eq_getElem?_getD, List.getElem?_append_right (by omega), hk, Nat.sub_self, List.getElem?_drop, List.getD_eq_getElem?_getD, Nat.add_zero]
theorem part_len {α : Type} (f l : List α) (k : Nat) (hf : f.length = l.length) (h : k ≤ l.length) : (f.take k ++ l.drop k).length = l.length := by
  rw [List.length_append, List.length_take, List.length_drop]; omega
theorem map_snoc {α β : Type} (f : α → β) (l : List α) (k : Nat) (d : α) (h : k < l.length) : (l.take (k + 1)).map f = (l.take k).map f ++ [f (l.getD k d)] := by
  rw [take_snoc l k d h, List.map_append]; rfl
theorem range_snoc {β : Type} (f : Nat → β) (k : Nat) : (List.range (k + 1)).map f = (List.range k).map f ++ [f k] := by
  rw [List.range_succ, List.map_append]; rfl
theorem getD_some' {α : Type} (l : List α) (k : Nat) (d : α) (h : k < l.length) : l[k]? = some (l.getD k d) := by
  rw [List.getD_eq_getElem?_getD, List.getElem?_eq_getElem h]; rfl
theorem take_le_len {α : Type} (l : List α) (k : Nat) : (l.take k).length ≤ k := by rw [List.length_take]; omega
def inr (x lo hi : Int) : Bool := if decide (x ≥ lo) then decide (x ≤ hi) else false
theorem inr_t {x lo hi : Int} : (inr x lo hi = true) = (lo ≤ x ∧ x ≤ hi) := by simp [inr]
theorem inr_f {x lo hi : Int} : (inr x lo hi = false) = ¬ (lo ≤ x ∧ x ≤ hi) := by rw [← inr_t]; simp
theorem isEmpty_t {α : Type} {l : List α} : (l.isEmpty = true) = (l = []) := by simp
theorem hsh_step (l : List Int) (k : Nat) (h : k < l.length) : hsh (l.take (k + 1)) = (IntKind.i64.wrap (IntKind.i64.wrap (IntKind.i64.wrap (hsh (l.take k) * 1000003) + (l.getD k (dfl .int)) % 2147483647) + 13)).tmod 2147483647 := by
  rw [hs1_eq (hsh_range _).1 (hsh_range _).2]
  exact foldl_snoc hs1 11 l k _ h
def stream (s : Int) (n : Nat) : List UInt8 := (List.range n).map fun i : Nat => b8 (cs s (100 + (i : Int)) / 256)
theorem stream_len (s : Int) (n : Nat) : (stream s n).length = n := by simp [stream]
theorem stream_step (s : Int) (k : Nat) (h : k ≤ 1000) : stream s (k + 1) = stream s k ++ [UInt8.ofNat (IntKind.u8.wrap (IntKind.i64.wrap ((cs s (IntKind.i64.wrap (100 + (k : Int)))).tdiv 256))).toNat] := by
  have h1 := cs_range s (100 + (k : Int))
  rw [i64w (a := 100 + (k : Int)) (by omega), tdiv_pos h1.1, i64w (by omega)]
  exact range_snoc (fun i : Nat => b8 (cs s (100 + (i : Int)) / 256)) k
theorem lensum_step {α : Type} (l : List (List α)) (d : List α) (k : Nat) (h : k < l.length) : ((l.take (k + 1)).map List.length).sum = ((l.take k).map List.length).sum + (l.getD k d).length := sum_step List.length l d k h
theorem flatten_step {α : Type} (l : List (List α)) (d : List α) (k : Nat) (h : k < l.length) : (l.take (k + 1)).flatten = (l.take k).flatten ++ l.getD k d := by
  rw [take_snoc l k d h, List.flatten_append]; simp
theorem flatten_len {α : Type} (l : List (List α)) (k : Nat) : (l.take k).flatten.length ≤ (l.map List.length).sum := by
  rw [List.length_flatten]; exact take_sum_le l List.length k
end Go.Proofs.Ythejghgjejhgoaa.G
namespace Go.Proofs.Ythejghgjejhgoaa.G
set_option linter.all false
open Go.RowKit L D
theorem inplace_step {α : Type} (f l : List α) (k : Nat) (d y : α) (h : k < l.length) (hf : f.length = l.length) (hy : f.getD k d = y) : f.take (k + 1) ++ l.drop (k + 1) = (f.take k ++ l.drop k).set k y := (part_set f l k d y h (by omega) hy).symm
theorem append_step {α : Type} (f : List α) (k : Nat) (d y : α) (h : k < f.length) (hy : f.getD k d = y) : f.take (k + 1) = f.take k ++ [y] := by rw [take_snoc f k d h, hy]
theorem inplace_done {α : Type} (f l : List α) (k : Nat) (hf : f.length = l.length) (h : l.length ≤ k) : f.take k ++ l.drop k = f := by
  rw [List.take_of_length_le (by omega), List.drop_eq_nil_of_le h, List.append_nil]
theorem mapRange_get {β : Type} (n : Nat) (g : Nat → β) (k : Nat) (d : β) (h : k < n) : ((List.range n).map g).getD k d = g k := by
  rw [List.getD_eq_getElem?_getD, List.getElem?_map, List.getElem?_range h]; rfl
def encr (s : Int) (l : List UInt8) : List UInt8 := (List.range l.length).map fun i : Nat => b8 ((l.getD i (dfl .u8)).toNat + kh s [(i : Int)] % 256)
theorem encr_len (s : Int) (l : List UInt8) : (encr s l).length = l.length := by simp [encr]
theorem encr_get (s : Int) (l : List UInt8) (k : Nat) (h : k < l.length) : (encr s l).getD k (dfl .u8) = b8 ((l.getD k (dfl .u8)).toNat + kh s [(k : Int)] % 256) := mapRange_get _ _ k _ h
theorem encr_impl (s : Int) (l : List UInt8) (k : Nat) (h : k < l.length) : (encr s l).take (k + 1) ++ l.drop (k + 1) = ((encr s l).take k ++ l.drop k).set k (UInt8.ofNat (IntKind.u8.wrap ((((encr s l).take k ++ l.drop k).getD k (dfl .u8)).toNat + IntKind.u8.wrap ((kh s [(k : Int)]).tmod 256))).toNat) := by
  refine inplace_step _ _ k (dfl .u8) _ h (encr_len s l) ?_
  rw [encr_get s l k h, part_get _ _ _ _ (by rw [encr_len]; omega)]
  refine b8_congr ?_
  have := kh_range s [(k : Int)]
  rw [u8w_eq ((kh s [(k : Int)]).tmod 256), tmod_pos this.1]
  omega
theorem encr_spec (s : Int) (l : List UInt8) (k : Nat) (h : k < l.length) : (encr s l).take (k + 1) = (encr s l).take k ++ [UInt8.ofNat (IntKind.u8.wrap ((IntKind.i64.wrap (IntKind.i64.wrap ((l.getD k (dfl .u8)).toNat : Int) + (kh s [(k : Int)]).tmod 256)).tmod 256)).toNat] := by
  refine append_step _ k (dfl .u8) _ (by rw [encr_len]; exact h) ?_
  rw [encr_get s l k h]
  refine b8_congr ?_
  have := kh_range s [(k : Int)]
  have hx := (l.getD k (dfl .u8)).toNat_lt
  rw [tmod_pos this.1, i64w (a := ((l.getD k (dfl .u8)).toNat : Int)) (by omega), i64w (by omega), tmod_pos (by omega)]
  omega
theorem lsz_el {l : List (List UInt8)} (h : lsz List.length l ≤ 1048576) (k : Nat) (hk : k < l.length) : (l.getD k (dfl (.sl .u8))).length ≤ 1048576 := lsz_mem h (getD_some' l k _ hk)
def mrow (key round dir rows : Int) : Int := if (1 ≤ rows ∧ rows ≤ 64) ∧ 0 ≤ round ∧ round ≤ 1000000000000 then cs (kh key [79, round, dir]) 0 % rows else -1
def ccheck (key counter : Int) (data : List UInt8) : Int := kh key ([71, counter] ++ data.map fun c => (c.toNat : Int))
theorem cc_step (l : List UInt8) (counter : Int) (k : Nat) (h : k < l.length) : [71, counter] ++ (l.take (k + 1)).map (fun c => (c.toNat : Int)) = ([71, counter] ++ (l.take k).map (fun c => (c.toNat : Int))) ++ [IntKind.i64.wrap ((l.getD k (dfl .u8)).toNat : Int)] := by
  have := (l.getD k (dfl .u8)).toNat_lt
  rw [i64w (by omega), map_snoc (fun c : UInt8 => (c.toNat : Int)) l k (dfl .u8) h, List.append_assoc]
/-- The four bytes of a check value. -/
def four (n : Int) : List UInt8 := [b8 n, b8 (n / 256), b8 (n / 65536), b8 (n / 16777216)]
theorem four_eq (n : Int) : [UInt8.ofNat (IntKind.u8.wrap n).toNat, UInt8.ofNat (IntKind.u8.wrap (n.fdiv (2 ^ (min (Int.toNat 8) IntKind.i64.bits)))).toNat, UInt8.ofNat (IntKind.u8.wrap (n.fdiv (2 ^ (min (Int.toNat 16) IntKind.i64.bits)))).toNat, UInt8.ofNat (IntKind.u8.wrap (n.fdiv (2 ^ (min (Int.toNat 24) IntKind.i64.bits)))).toNat] = four n := by
  have e1 : (2 : Int) ^ (min (Int.toNat 8) IntKind.i64.bits) = 256 := by decide
  have e2 : (2 : Int) ^ (min (Int.toNat 16) IntKind.i64.bits) = 65536 := by decide
  have e3 : (2 : Int) ^ (min (Int.toNat 24) IntKind.i64.bits) = 16777216 := by decide
  rw [e1, e2, e3, Int.fdiv_eq_ediv_of_nonneg _ (by decide), Int.fdiv_eq_ediv_of_nonneg _ (by decide), Int.fdiv_eq_ediv_of_nonneg _ (by decide)]
  rfl
def okPlain (p : Plain) : Bool := (inr p.kind 0 3) && decide ((p.body.length : Int) ≤ 14)
def okKey (k : Int) : Bool := inr k 1 2147483646
def sealOK (key counter : Int) (p : Plain) : Bool := okKey key && (inr counter 0 1000000000000) && okPlain p
def padded (key counter : Int) (p : Plain) : List UInt8 := [b8 p.kind, b8 p.body.length] ++ p.body ++ (stream (kh key [61, counter]) 18).drop p.body.length
def ckey (key counter : Int) : Int := or1 (kh key [67, counter])
def sealC (key counter : Int) (p : Plain) : List UInt8 := if sealOK key counter p then encr (ckey key counter) (padded key counter p) ++ four (ccheck key counter (encr (ckey key counter) (padded key counter p))) else []
def dkey (key dir : Int) : Int := or1 (kh key [83, dir])
end Go.Proofs.Ythejghgjejhgoaa.G
namespace Go.Proofs.Ythejghgjejhgoaa.G
set_option linter.all false
open Go.RowKit L D
theorem ite_tt (b c : Bool) : (if b = true then true else c) = (b || c) := by cases b <;> rfl
theorem ite_ff (b c : Bool) : (if b = true then c else false) = (b && c) := by cases b <;> rfl
theorem not_dlt (a b : Int) : (!decide (a < b)) = decide (b ≤ a) := by rw [← decide_not]; congr 1; exact propext Int.not_lt
theorem not_dle (a b : Int) : (!decide (a ≤ b)) = decide (b < a) := by rw [← decide_not]; congr 1; exact propext Int.not_le
theorem bne_not (a b : Int) : (a != b) = !(a == b) := rfl
theorem deq (a b : Int) : decide (a = b) = (a == b) := rfl
theorem or_no1 {E R : Bool} (h : E = true) (he : E = !R) : R = false := by
  rw [h] at he
  cases R with
  | false => rfl
  | true => exact absurd he (by decide)
theorem or_yes {E R : Bool} (h : E = false) (he : E = !R) : R = true := by
  rw [h] at he
  cases R with
  | true => rfl
  | false => exact absurd he (by decide)
end Go.Proofs.Ythejghgjejhgoaa.G
namespace Go.Proofs.Ythejghgjejhgoaa.G
set_option linter.all false
open Go.RowKit L D
theorem xorN (k : Nat) (h : k < 2 ^ 62) : IntKind.i64.wrap (BitVec.ofInt IntKind.i64.bits (k : Int) ^^^ BitVec.ofInt IntKind.i64.bits 1).toNat = ((k ^^^ 1 : Nat) : Int) := by
  have h2 : (BitVec.ofInt IntKind.i64.bits (k : Int) ^^^ BitVec.ofInt IntKind.i64.bits 1).toNat = k ^^^ 1 := by
    rw [BitVec.toNat_xor]
    have h1 : (BitVec.ofInt IntKind.i64.bits 1).toNat = 1 := by decide
    have h2 : (BitVec.ofInt IntKind.i64.bits (k : Int)).toNat = k % 2 ^ 64 := by rw [BitVec.ofInt_natCast, BitVec.toNat_ofNat]; rfl
    rw [h1, h2, Nat.mod_eq_of_lt (by omega)]
  have hx := Nat.xor_lt_two_pow (n := 62) h (show 1 < 2 ^ 62 by decide)
  rw [h2, i64w (by omega)]
def hasC (x : Wld) (c : Int) : Bool := inr c 0 (x.devices.length - 1)
def pairOK (x : Wld) (c : Int) : Bool := hasC x c && decide (((c.toNat ^^^ 1 : Nat) : Int) < x.devices.length)
def dirn (c : Cli) : Int := if c.id < c.friend then 0 else 1
def mcell (c : Cli) (at' : Int) : List UInt8 := sealC (dkey c.key (dirn c)) at' ⟨1, c.submitted.getD at'.toNat (dfl (.sl .u8))⟩
theorem sealOK_body {k c : Int} {p : Plain} (h : sealOK k c p = true) : p.body.length ≤ 14 := by
  simp only [sealOK, okPlain, Bool.and_eq_true, decide_eq_true_eq] at h
  omega
def rowOK (d : DB) (i : Int) : Bool := inr i 0 (d.rows.length - 1)
def rowAt (d : DB) (i : Int) : List UInt8 := if rowOK d i = true then d.rows.getD i.toNat (dfl (.sl .u8)) else []
def rstep (x : Wld) (c f : Cli) (n : Nat) (r : ARound) : Nat :=
  if r.round < f.next ∨ c.submitted.length ≤ n then n else
  if (rowOK r.db (mrow c.key r.round (dirn c) x.rows) && (rowAt r.db (mrow c.key r.round (dirn c) x.rows) == mcell c n)) = true then n + 1 else n
def rcount (x : Wld) (c f : Cli) (l : List ARound) : Nat := l.foldl (rstep x c f) f.inbox.length
theorem rcount_stay (x : Wld) (c f : Cli) : ∀ (l : List ARound) (n : Nat), c.submitted.length ≤ n → l.foldl (rstep x c f) n = n
  | [], _, _ => rfl
  | r :: l, n, h => by
    rw [List.foldl_cons, show rstep x c f n r = n from if_pos (Or.inr h)]
    exact rcount_stay x c f l n h
theorem rcount_le (x : Wld) (c f : Cli) (l : List ARound) (k : Nat) : rcount x c f (l.take k) ≤ f.inbox.length + k := by
  have g : ∀ (l : List ARound) (n : Nat), l.foldl (rstep x c f) n ≤ n + l.length := by
    intro l
    induction l with
    | nil => intro n; exact Nat.le_refl _
    | cons r l ih =>
      intro n
      have h1 : rstep x c f n r ≤ n + 1 := by unfold rstep; split; omega; split <;> omega
      have := ih (rstep x c f n r)
      rw [List.foldl_cons, List.length_cons]; omega
  have := g (l.take k) f.inbox.length
  have := take_le_len l k
  unfold rcount; omega
theorem rcount_step (x : Wld) (c f : Cli) (l : List ARound) (k : Nat) (h : k < l.length) : rcount x c f (l.take (k + 1)) = rstep x c f (rcount x c f (l.take k)) (l.getD k (dfl .ARound)) := foldl_snoc _ _ l k _ h
theorem rcount_done (x : Wld) (c f : Cli) (l : List ARound) (k : Nat) (h : c.submitted.length ≤ rcount x c f (l.take k)) : rcount x c f l = rcount x c f (l.take k) := by
  have e : l = l.take k ++ l.drop k := (List.take_append_drop k l).symm
  conv => lhs; rw [e]
  unfold rcount at h ⊢
  rw [List.foldl_append, rcount_stay x c f _ _ h]
def sentRecv (x : Wld) (i : Int) : Bool := if pairOK x i = true then decide ((x.devices.getD i.toNat (dfl .Dev)).live.sent ≤ (rcount x (x.devices.getD i.toNat (dfl .Dev)).live (x.devices.getD (i.toNat ^^^ 1) (dfl .Dev)).live x.archive.rounds : Int)) else false
theorem pair_impl {x : Wld} {c : Int} (hd : x.devices.length ≤ 1048576) : (hasC x c && hasC x (IntKind.i64.wrap (BitVec.ofInt IntKind.i64.bits c ^^^ BitVec.ofInt IntKind.i64.bits 1).toNat)) = pairOK x c := by
  by_cases hc : hasC x c = true
  · have hc2 : 0 ≤ c ∧ c < x.devices.length := by simp only [hasC, inr_t] at hc; omega
    obtain ⟨n, rfl⟩ := Int.eq_ofNat_of_zero_le hc2.1
    rw [xorN n (by omega), pairOK, hc]
    simp only [Bool.true_and, hasC, Int.toNat_natCast]
    rw [Bool.eq_iff_iff, inr_t, decide_eq_true_eq]
    omega
  · rw [Bool.not_eq_true] at hc
    rw [pairOK, hc]; rfl
theorem pair_spec {x : Wld} {c : Int} (hd : x.devices.length ≤ 1048576) : (inr c 0 (x.devices.length - 1) && decide (IntKind.i64.wrap (BitVec.ofInt IntKind.i64.bits c ^^^ BitVec.ofInt IntKind.i64.bits 1).toNat < (x.devices.length : Int))) = pairOK x c := by
  by_cases hc : hasC x c = true
  · have hc2 : 0 ≤ c ∧ c < x.devices.length := by simp only [hasC, inr_t] at hc; omega
    obtain ⟨n, rfl⟩ := Int.eq_ofNat_of_zero_le hc2.1
    rw [xorN n (by omega)]; rfl
  · rw [Bool.not_eq_true] at hc
    rw [pairOK, hc, show inr c 0 (x.devices.length - 1) = false from hc]; rfl
theorem pair_lt {x : Wld} {i : Int} (h : pairOK x i = true) : 0 ≤ i ∧ i.toNat < x.devices.length ∧ i.toNat ^^^ 1 < x.devices.length ∧ i = (i.toNat : Int) := by
  simp only [pairOK, hasC, inr_t, Bool.and_eq_true, decide_eq_true_eq] at h
  omega
end Go.Proofs.Ythejghgjejhgoaa.G
namespace Go.Proofs.Ythejghgjejhgoaa.G
set_option linter.all false
open Go.RowKit L D
theorem dev_le {x : Wld} (h : size_Wld x ≤ 1048576) : x.devices.length ≤ 1048576 := by
  have h2 : lsz size_Dev x.devices ≤ 1048576 := by unfold size_Wld at h; omega
  exact lsz_len h2
theorem srv_le {x : Wld} (h : size_Wld x ≤ 1048576) : x.servers.length ≤ 1048576 := by
  have h2 : lsz size_Srv x.servers ≤ 1048576 := by unfold size_Wld at h; omega
  exact lsz_len h2
theorem rounds_le {x : Wld} (h : size_Wld x ≤ 1048576) : x.archive.rounds.length ≤ 1048576 := by
  have h2 : size_Arc x.archive ≤ 1048576 := by unfold size_Wld at h; omega
  unfold size_Arc at h2
  exact lsz_len h2
end Go.Proofs.Ythejghgjejhgoaa.G
namespace Go.Proofs.Ythejghgjejhgoaa.G
set_option linter.all false
open Go.RowKit L D
theorem lsz_ar {x : Wld} (h : size_Wld x ≤ 1048576) (k : Nat) (hk : k < x.archive.rounds.length) : lsz List.length (x.archive.rounds.getD k (dfl .ARound)).db.rows ≤ 1048576 := by
  have h2 : size_Arc x.archive ≤ 1048576 := by unfold size_Wld at h; omega
  unfold size_Arc at h2
  have h3 := lsz_mem h2 (getD_some' _ k (dfl .ARound) hk)
  unfold size_ARound size_DB at h3
  exact h3
theorem lsz_cli {x : Wld} (h : size_Wld x ≤ 1048576) {k : Nat} (hk : k < x.devices.length) : size_Dev (x.devices.getD k (dfl .Dev)) ≤ 1048576 := by
  have h2 : lsz size_Dev x.devices ≤ 1048576 := by unfold size_Wld at h; omega
  exact lsz_mem h2 (getD_some' _ k (dfl .Dev) hk)
theorem live_le {d : Dev} (h : size_Dev d ≤ 1048576) : lsz List.length d.live.submitted ≤ 1048576 ∧ lsz List.length d.live.inbox ≤ 1048576 ∧ lsz List.length d.saved.submitted ≤ 1048576 ∧ lsz List.length d.saved.inbox ≤ 1048576 := by
  unfold size_Dev size_Cli at h
  omega
theorem inbox_le {x : Wld} (h : size_Wld x ≤ 1048576) {k : Nat} (hk : k < x.devices.length) : (x.devices.getD k (dfl .Dev)).live.inbox.length ≤ 1048576 := lsz_len (live_le (lsz_cli h hk)).2.1
theorem rstep_skip {x : Wld} {c f : Cli} {n : Nat} {r : ARound} (h : r.round < f.next ∨ c.submitted.length ≤ n) : rstep x c f n r = n := if_pos h
theorem rstep_hit {x : Wld} {c f : Cli} {n : Nat} {r : ARound} (h : ¬ (r.round < f.next ∨ c.submitted.length ≤ n)) (h2 : (rowOK r.db (mrow c.key r.round (dirn c) x.rows) && (rowAt r.db (mrow c.key r.round (dirn c) x.rows) == mcell c n)) = true) : rstep x c f n r = n + 1 := by
  unfold rstep; rw [if_neg h, if_pos h2]
theorem rstep_miss {x : Wld} {c f : Cli} {n : Nat} {r : ARound} (h : ¬ (r.round < f.next ∨ c.submitted.length ≤ n)) (h2 : (rowOK r.db (mrow c.key r.round (dirn c) x.rows) && (rowAt r.db (mrow c.key r.round (dirn c) x.rows) == mcell c n)) = false) : rstep x c f n r = n := by
  unfold rstep; rw [if_neg h, if_neg (by rw [h2]; decide)]
end Go.Proofs.Ythejghgjejhgoaa.G
