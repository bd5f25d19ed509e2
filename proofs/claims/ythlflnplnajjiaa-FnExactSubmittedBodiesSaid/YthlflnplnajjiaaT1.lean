/-
  The types of this program, for the symbolic machine.
-/
import Derived.Test.YthlflnplnajjiaaG18
import Derived.Test.YthlflnplnajjiaaRows
import Derived.KernelRfl
namespace Go.Proofs.Ythlflnplnajjiaa.G
set_option linter.all false
open Go.RowKit L D

theorem inf_3 : (Try.prog.info? 3).map (fun i => (i.zero, i.size, i.bytes)) = some (some (.int .i64 0), 1, 8) := by kernel_rfl
theorem inf_5 : (Try.prog.info? 5).map (fun i => (i.zero, i.size, i.bytes)) = some (some (.int .u8 0), 1, 1) := by kernel_rfl
theorem inf_9 : (Try.prog.info? 9).map (fun i => (i.zero, i.size, i.bytes)) = some (some (.string ⟨#[]⟩), 1, 16) := by kernel_rfl
theorem inf_30 : (Try.prog.info? 30).map (fun i => (i.zero, i.size, i.bytes)) = some (some (.slice none 0 0), 1, 24) := by kernel_rfl
theorem inf_25 : (Try.prog.info? 25).map (fun i => (i.zero, i.size, i.bytes)) = some (some (.slice none 0 0), 1, 24) := by kernel_rfl
theorem inf_42 : (Try.prog.info? 42).map (fun i => (i.zero, i.size, i.bytes)) = some (some (.slice none 0 0), 1, 24) := by kernel_rfl
theorem inf_55 : (Try.prog.info? 55).map (fun i => (i.zero, i.size, i.bytes)) = some (some (.agg #[.int .i64 0, .int .i64 0, .int .i64 0, .slice none 0 0]), 4, 48) := by kernel_rfl
theorem inf_54 : (Try.prog.info? 54).map (fun i => (i.zero, i.size, i.bytes)) = some (some (.agg #[.int .i64 0, .int .i64 0, .int .i64 0, .slice none 0 0]), 4, 48) := by kernel_rfl
theorem sz_of {P : Program} {i : Nat} {z : Option Value} {k b : Nat} (h : (P.info? i).map (fun i => (i.zero, i.size, i.bytes)) = some (z, k, b)) : (P.info? i).map (·.size) = some k := by
  cases hq : P.info? i with
  | none => simp [hq] at h
  | some x => simp [hq] at h; simp [h]
theorem sz_z_of {P : Program} {i : Nat} {z : Option Value} {k b : Nat} (h : (P.info? i).map (fun i => (i.zero, i.size, i.bytes)) = some (z, k, b)) : (P.info? i).map (fun i => (i.size, i.zero)) = some (k, z) := by
  cases hq : P.info? i with
  | none => simp [hq] at h
  | some x => simp [hq] at h; simp [h]
theorem st_ok {P : Program} {t : Nat} {z : List Value} {tg : List (Option Tag)} {fo : List Nat} {fs : Array Field} {b : Nat} (hu : P.underlying t = some (.struct fs)) (hi : (P.info? t).map (fun i => (i.zero, i.size, i.bytes)) = some (some (.agg z.toArray), z.length, b)) (hz : z.all (·.oneCell') = true) (hf : fieldsok P z.length fs.toList fo = true) : TKok P t (.st z tg fo) :=
  ⟨fs, hu, sz_z_of hi, fun v hv => List.all_eq_true.1 hz v hv, fun f k h => by obtain ⟨fd, h1, h2⟩ := (fieldsok_ok hf).1 f k h; exact ⟨fd, by simpa using h1, h2⟩, (fieldsok_ok hf).2⟩
theorem one_of {P : Program} {i : Nat} (h : (P.info? i).map (fun i => Nat.beq i.size 1) = some true) : (P.info? i).map (·.size) = some 1 := by
  cases hq : P.info? i with
  | none => simp [hq] at h
  | some x => simp [hq] at h; simp [h]
def tys : List (Nat × TK) := [(3, .int .i64),
  (2, .int .i64),
  (21, .int .i32),
  (5, .int .u8),
  (67, .int .u32),
  (51, .int .u64),
  (12, .int .u64),
  (4, .bool),
  (9, .str),
  (55, .st [.int .i64 0, .int .i64 0, .int .i64 0, .slice none 0 0] [none, none, none, some .u8] [0, 1, 2, 3]),
  (54, .st [.int .i64 0, .int .i64 0, .int .i64 0, .slice none 0 0] [none, none, none, some .u8] [0, 1, 2, 3]),
  (25, .sl .int 3),
  (30, .sl .u8 5),
  (49, .sl .str 9),
  (42, .sl (.sl .u8) 30),
  (38, .sl .Ev 55),
  (35, .sl .Ev 54)]
def Γ (t : Nat) : TK := match look tys t with | some k => k | none => .other
def ty : Tag → Nat
  | .int => 3
  | .u8 => 5
  | .str => 9
  | (.sl .u8) => 30
  | (.sl .int) => 25
  | (.sl (.sl .u8)) => 42
  | .Ev => 55
  | _ => 1000000000
theorem kind_3 : TKok Try.prog 3 (.int .i64) := Try.underlying3
theorem kind_2 : TKok Try.prog 2 (.int .i64) := Try.underlying2
theorem kind_21 : TKok Try.prog 21 (.int .i32) := Try.underlying21
theorem kind_5 : TKok Try.prog 5 (.int .u8) := Try.underlying5
theorem kind_67 : TKok Try.prog 67 (.int .u32) := Try.underlying67
theorem kind_51 : TKok Try.prog 51 (.int .u64) := Try.underlying51
theorem kind_12 : TKok Try.prog 12 (.int .u64) := Try.underlying12
theorem kind_4 : TKok Try.prog 4 (.bool) := Try.underlying4
theorem kind_9 : TKok Try.prog 9 (.str) := Try.underlying9
theorem kind_55 : TKok Try.prog 55 (.st [.int .i64 0, .int .i64 0, .int .i64 0, .slice none 0 0] [none, none, none, some .u8] [0, 1, 2, 3]) := st_ok Try.underlying55 inf_55 rfl (by kernel_rfl)
theorem kind_54 : TKok Try.prog 54 (.st [.int .i64 0, .int .i64 0, .int .i64 0, .slice none 0 0] [none, none, none, some .u8] [0, 1, 2, 3]) := st_ok Try.underlying54 inf_54 rfl (by kernel_rfl)
theorem kind_25 : TKok Try.prog 25 (.sl .int 3) := ⟨Try.underlying25, sz_of inf_3⟩
theorem kind_30 : TKok Try.prog 30 (.sl .u8 5) := ⟨Try.underlying30, sz_of inf_5⟩
theorem kind_49 : TKok Try.prog 49 (.sl .str 9) := ⟨Try.underlying49, sz_of inf_9⟩
theorem kind_42 : TKok Try.prog 42 (.sl (.sl .u8) 30) := ⟨Try.underlying42, sz_of inf_30⟩
theorem kind_38 : TKok Try.prog 38 (.sl .Ev 55) := ⟨Try.underlying38, sz_of inf_55⟩
theorem kind_35 : TKok Try.prog 35 (.sl .Ev 54) := ⟨Try.underlying35, sz_of inf_54⟩
set_option maxRecDepth 100000 in
theorem kinds : ∀ e, e ∈ tys → TKok Try.prog e.1 e.2 := by
  simp only [tys, List.forall_mem_cons]
  exact ⟨kind_3, kind_2, kind_21, kind_5, kind_67, kind_51, kind_12, kind_4, kind_9, kind_55, kind_54, kind_25, kind_30, kind_49, kind_42, kind_38, kind_35, by simp⟩
set_option maxRecDepth 100000 in
theorem ones : ∀ e, e ∈ tys → (∀ z tg fo, e.2 ≠ .st z tg fo) → (Try.prog.info? e.1).map (·.size) = some 1 := by
  simp only [tys, List.forall_mem_cons]
  refine ⟨fun _ => one_of (by kernel_rfl), fun _ => one_of (by kernel_rfl), fun _ => one_of (by kernel_rfl), fun _ => one_of (by kernel_rfl), fun _ => one_of (by kernel_rfl), fun _ => one_of (by kernel_rfl), fun _ => one_of (by kernel_rfl), fun _ => one_of (by kernel_rfl), fun _ => one_of (by kernel_rfl), fun h => absurd rfl (h _ _ _), fun h => absurd rfl (h _ _ _), fun _ => one_of (by kernel_rfl), fun _ => one_of (by kernel_rfl), fun _ => one_of (by kernel_rfl), fun _ => one_of (by kernel_rfl), fun _ => one_of (by kernel_rfl), fun _ => one_of (by kernel_rfl), by simp⟩
theorem X : Ctx Try.prog ty Γ where
  kind := fun t => by
    unfold Γ
    split
    · rename_i k hk; exact kinds (t, k) (look_mem hk)
    · trivial
  one := fun t h1 h2 => by
    unfold Γ at h1 h2
    split at h1
    · rename_i k hk; exact ones (t, k) (look_mem hk) h1
    · rename_i hk; rw [hk] at h2; exact absurd rfl h2
theorem El_int : El Try.prog ty (.int) := inf_3
theorem El_u8 : El Try.prog ty (.u8) := inf_5
theorem El_str : El Try.prog ty (.str) := inf_9
theorem El_slu8 : El Try.prog ty ((.sl .u8)) := inf_30
theorem El_slint : El Try.prog ty ((.sl .int)) := inf_25
theorem El_slslu8 : El Try.prog ty ((.sl (.sl .u8))) := inf_42
theorem El_Ev : El Try.prog ty (.Ev) := inf_55
theorem El_all (t : Tag) (h : ty t < 1000000000) : El Try.prog ty t := by
  unfold ty at h
  split at h
  · exact inf_3
  · exact inf_5
  · exact inf_9
  · exact inf_30
  · exact inf_25
  · exact inf_42
  · exact inf_55
  · exact absurd h (by decide)
end Go.Proofs.Ythlflnplnajjiaa.G
