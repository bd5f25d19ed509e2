/-
  Shares of a client's write, as one server sees them. No program in sight.
-/
import Derived.Test.YthjedjndamejmaaGreatZCollectSharesM7
import Derived.Test.YthjedjndamejmaaGreatRows
import Derived.KernelRfl
namespace Go.Proofs.YthjedjndamejmaaGreat.G
set_option linter.all false
open Go.RowKit L D

theorem inf_3 : (Tryz.prog.info? 3).map (fun i => (i.zero, i.size, i.bytes)) = some (some (.int .i64 0), 1, 8) := by kernel_rfl
theorem inf_5 : (Tryz.prog.info? 5).map (fun i => (i.zero, i.size, i.bytes)) = some (some (.int .u8 0), 1, 1) := by kernel_rfl
theorem inf_9 : (Tryz.prog.info? 9).map (fun i => (i.zero, i.size, i.bytes)) = some (some (.string ⟨#[]⟩), 1, 16) := by kernel_rfl
theorem inf_105 : (Tryz.prog.info? 105).map (fun i => (i.zero, i.size, i.bytes)) = some (some (.slice none 0 0), 1, 24) := by kernel_rfl
theorem inf_27 : (Tryz.prog.info? 27).map (fun i => (i.zero, i.size, i.bytes)) = some (some (.slice none 0 0), 1, 24) := by kernel_rfl
theorem inf_64 : (Tryz.prog.info? 64).map (fun i => (i.zero, i.size, i.bytes)) = some (some (.slice none 0 0), 1, 24) := by kernel_rfl
theorem inf_66 : (Tryz.prog.info? 66).map (fun i => (i.zero, i.size, i.bytes)) = some (some (.agg #[.slice none 0 0]), 1, 24) := by kernel_rfl
theorem inf_138 : (Tryz.prog.info? 138).map (fun i => (i.zero, i.size, i.bytes)) = some (some (.agg #[.slice none 0 0]), 1, 24) := by kernel_rfl
theorem inf_111 : (Tryz.prog.info? 111).map (fun i => (i.zero, i.size, i.bytes)) = some (some (.agg #[.int .i64 0, .slice none 0 0]), 2, 32) := by kernel_rfl
theorem inf_178 : (Tryz.prog.info? 178).map (fun i => (i.zero, i.size, i.bytes)) = some (some (.agg #[.int .i64 0, .slice none 0 0]), 2, 32) := by kernel_rfl
theorem inf_61 : (Tryz.prog.info? 61).map (fun i => (i.zero, i.size, i.bytes)) = some (some (.agg #[.int .i64 0, .int .i64 0, .int .i64 0, .slice none 0 0, .int .i64 0]), 5, 56) := by kernel_rfl
theorem inf_88 : (Tryz.prog.info? 88).map (fun i => (i.zero, i.size, i.bytes)) = some (some (.agg #[.int .i64 0, .int .i64 0, .int .i64 0, .slice none 0 0, .int .i64 0]), 5, 56) := by kernel_rfl
theorem inf_142 : (Tryz.prog.info? 142).map (fun i => (i.zero, i.size, i.bytes)) = some (some (.agg #[.int .i64 0, .slice none 0 0]), 2, 32) := by kernel_rfl
theorem inf_140 : (Tryz.prog.info? 140).map (fun i => (i.zero, i.size, i.bytes)) = some (some (.agg #[.int .i64 0, .slice none 0 0]), 2, 32) := by kernel_rfl
theorem inf_38 : (Tryz.prog.info? 38).map (fun i => (i.zero, i.size, i.bytes)) = some (some (.agg #[.int .i64 0, .slice none 0 0]), 2, 32) := by kernel_rfl
theorem inf_26 : (Tryz.prog.info? 26).map (fun i => (i.zero, i.size, i.bytes)) = some (some (.agg #[.int .i64 0, .slice none 0 0]), 2, 32) := by kernel_rfl
theorem inf_100 : (Tryz.prog.info? 100).map (fun i => (i.zero, i.size, i.bytes)) = some (some (.agg #[.int .i64 0, .int .i64 0, .int .i64 0, .int .i64 0, .slice none 0 0, .int .i64 0, .slice none 0 0, .int .i64 0]), 8, 96) := by kernel_rfl
theorem inf_91 : (Tryz.prog.info? 91).map (fun i => (i.zero, i.size, i.bytes)) = some (some (.agg #[.int .i64 0, .int .i64 0, .int .i64 0, .int .i64 0, .slice none 0 0, .int .i64 0, .slice none 0 0, .int .i64 0]), 8, 96) := by kernel_rfl
theorem inf_102 : (Tryz.prog.info? 102).map (fun i => (i.zero, i.size, i.bytes)) = some (some (.agg #[.int .i64 0, .int .i64 0, .int .i64 0, .int .i64 0, .slice none 0 0, .int .i64 0, .slice none 0 0, .int .i64 0, .int .i64 0, .int .i64 0, .int .i64 0, .int .i64 0, .slice none 0 0, .int .i64 0, .slice none 0 0, .int .i64 0]), 16, 192) := by kernel_rfl
theorem inf_93 : (Tryz.prog.info? 93).map (fun i => (i.zero, i.size, i.bytes)) = some (some (.agg #[.int .i64 0, .int .i64 0, .int .i64 0, .int .i64 0, .slice none 0 0, .int .i64 0, .slice none 0 0, .int .i64 0, .int .i64 0, .int .i64 0, .int .i64 0, .int .i64 0, .slice none 0 0, .int .i64 0, .slice none 0 0, .int .i64 0]), 16, 192) := by kernel_rfl
theorem inf_40 : (Tryz.prog.info? 40).map (fun i => (i.zero, i.size, i.bytes)) = some (some (.agg #[.int .i64 0, .slice none 0 0, .slice none 0 0, .int .i64 0, .slice none 0 0, .int .i64 0, .int .i64 0, .int .i64 0, .slice none 0 0, .int .i64 0]), 10, 144) := by kernel_rfl
theorem inf_29 : (Tryz.prog.info? 29).map (fun i => (i.zero, i.size, i.bytes)) = some (some (.agg #[.int .i64 0, .slice none 0 0, .slice none 0 0, .int .i64 0, .slice none 0 0, .int .i64 0, .int .i64 0, .int .i64 0, .slice none 0 0, .int .i64 0]), 10, 144) := by kernel_rfl
theorem inf_68 : (Tryz.prog.info? 68).map (fun i => (i.zero, i.size, i.bytes)) = some (some (.agg #[.int .i64 0, .int .i64 0, .int .i64 0, .int .i64 0, .int .i64 0]), 5, 40) := by kernel_rfl
theorem inf_184 : (Tryz.prog.info? 184).map (fun i => (i.zero, i.size, i.bytes)) = some (some (.agg #[.int .i64 0, .slice none 0 0]), 2, 32) := by kernel_rfl
theorem sz_of {P : Program} {i : Nat} {z : Option Value} {k b : Nat} (h : (P.info? i).map (fun i => (i.zero, i.size, i.bytes)) = some (z, k, b)) : (P.info? i).map (·.size) = some k := by
  cases hq : P.info? i with
  | none => simp [hq] at h
  | some x => simp [hq] at h; simp [h]
theorem sz_z_of {P : Program} {i : Nat} {z : Option Value} {k b : Nat} (h : (P.info? i).map (fun i => (i.zero, i.size, i.bytes)) = some (z, k, b)) : (P.info? i).map (fun i => (i.size, i.zero)) = some (k, z) := by
  cases hq : P.info? i with
  | none => simp [hq] at h
  | some x => simp [hq] at h; simp [h]
theorem st_ok {P : Program} {t : Nat} {z : List Value} {tg : List (Option Tag)} {fo : List Nat} {fs : Array Field} {b : Nat} (hu : P.underlying t = some (.struct fs)) (hi : (P.info? t).map (fun i => (i.zero, i.size, i.bytes)) = some (some (.agg z.toArray), z.length, b)) (hz : z.all (·.oneCell') = true) (hf : fieldsok P z.length fs.toList fo = true) : TKok P t (.st z tg fo) :=
  ⟨fs, hu, sz_z_of hi, fun v hv => List.all_eq_true.1 hz v hv, fun f k h => by obtain ⟨fd, h1, h2⟩ := (fieldsok_ok hf).1 f k h; exact ⟨fd, by simpa using h1, h2⟩, (fieldsok_ok hf).2⟩
theorem one_of {P : Program} {i : Nat} (h : (P.info? i).map (fun i => Nat.beq i.size 1) = some true) : (P.info? i).map (·.size) = some 1 := by
  cases hq : P.info? i with
  | none => simp [hq] at h
  | some x => simp [hq] at h; simp [h]
def tys : List (Nat × TK) := [(3, .int .i64),
  (2, .int .i64),
  (21, .int .i32),
  (5, .int .u8),
  (210, .int .u32),
  (198, .int .u64),
  (12, .int .u64),
  (4, .bool),
  (9, .str),
  (66, .st [.slice none 0 0] [some (.sl .u8)] [0]),
  (138, .st [.slice none 0 0] [some (.sl .u8)] [0]),
  (111, .st [.int .i64 0, .slice none 0 0] [none, some (.sl .u8)] [0, 1]),
  (178, .st [.int .i64 0, .slice none 0 0] [none, some (.sl .u8)] [0, 1]),
  (61, .st [.int .i64 0, .int .i64 0, .int .i64 0, .slice none 0 0, .int .i64 0] [none, none, none, some .RShare, none] [0, 1, 2, 3, 4]),
  (88, .st [.int .i64 0, .int .i64 0, .int .i64 0, .slice none 0 0, .int .i64 0] [none, none, none, some .RShare, none] [0, 1, 2, 3, 4]),
  (142, .st [.int .i64 0, .slice none 0 0] [none, some (.sl .u8)] [0, 1]),
  (140, .st [.int .i64 0, .slice none 0 0] [none, some (.sl .u8)] [0, 1]),
  (38, .st [.int .i64 0, .slice none 0 0] [none, some .ARound] [0, 1]),
  (26, .st [.int .i64 0, .slice none 0 0] [none, some .ARound] [0, 1]),
  (100, .st [.int .i64 0, .int .i64 0, .int .i64 0, .int .i64 0, .slice none 0 0, .int .i64 0, .slice none 0 0, .int .i64 0] [none, none, none, none, some (.sl .u8), none, some (.sl .u8), none] [0, 1, 2, 3, 4, 5, 6, 7]),
  (91, .st [.int .i64 0, .int .i64 0, .int .i64 0, .int .i64 0, .slice none 0 0, .int .i64 0, .slice none 0 0, .int .i64 0] [none, none, none, none, some (.sl .u8), none, some (.sl .u8), none] [0, 1, 2, 3, 4, 5, 6, 7]),
  (102, .st [.int .i64 0, .int .i64 0, .int .i64 0, .int .i64 0, .slice none 0 0, .int .i64 0, .slice none 0 0, .int .i64 0, .int .i64 0, .int .i64 0, .int .i64 0, .int .i64 0, .slice none 0 0, .int .i64 0, .slice none 0 0, .int .i64 0] [none, none, none, none, some (.sl .u8), none, some (.sl .u8), none, none, none, none, none, some (.sl .u8), none, some (.sl .u8), none] [0, 8]),
  (93, .st [.int .i64 0, .int .i64 0, .int .i64 0, .int .i64 0, .slice none 0 0, .int .i64 0, .slice none 0 0, .int .i64 0, .int .i64 0, .int .i64 0, .int .i64 0, .int .i64 0, .slice none 0 0, .int .i64 0, .slice none 0 0, .int .i64 0] [none, none, none, none, some (.sl .u8), none, some (.sl .u8), none, none, none, none, none, some (.sl .u8), none, some (.sl .u8), none] [0, 8]),
  (40, .st [.int .i64 0, .slice none 0 0, .slice none 0 0, .int .i64 0, .slice none 0 0, .int .i64 0, .int .i64 0, .int .i64 0, .slice none 0 0, .int .i64 0] [none, some .Srv, some .Dev, none, some .ARound, none, none, none, some .int, none] [0, 1, 2, 3, 5, 6, 7, 8, 9]),
  (29, .st [.int .i64 0, .slice none 0 0, .slice none 0 0, .int .i64 0, .slice none 0 0, .int .i64 0, .int .i64 0, .int .i64 0, .slice none 0 0, .int .i64 0] [none, some .Srv, some .Dev, none, some .ARound, none, none, none, some .int, none] [0, 1, 2, 3, 5, 6, 7, 8, 9]),
  (68, .st [.int .i64 0, .int .i64 0, .int .i64 0, .int .i64 0, .int .i64 0] [none, none, none, none, none] [0, 1, 2, 3, 4]),
  (184, .st [.int .i64 0, .slice none 0 0] [none, some .u8] [0, 1]),
  (27, .sl .int 3),
  (105, .sl .u8 5),
  (64, .sl (.sl .u8) 105),
  (192, .sl (.sl .int) 27),
  (57, .sl .DB 66),
  (59, .sl .RShare 111),
  (86, .sl .RShare 178),
  (31, .sl .Srv 61),
  (22, .sl .Srv 88),
  (36, .sl .ARound 142),
  (24, .sl .ARound 140),
  (35, .sl .Dev 102),
  (23, .sl .Dev 93),
  (32, .sl .Rcp 68)]
def Γ (t : Nat) : TK := match look tys t with | some k => k | none => .other
def ty : Tag → Nat
  | .int => 3
  | .u8 => 5
  | .str => 9
  | (.sl .u8) => 105
  | (.sl .int) => 27
  | (.sl (.sl .u8)) => 64
  | .DB => 66
  | .RShare => 111
  | .Srv => 61
  | .ARound => 142
  | .Arc => 38
  | .Cli => 100
  | .Dev => 102
  | .Wld => 40
  | .Rcp => 68
  | .Plain => 184
  | _ => 1000000000
theorem kind_3 : TKok Tryz.prog 3 (.int .i64) := Tryz.underlying3
theorem kind_2 : TKok Tryz.prog 2 (.int .i64) := Tryz.underlying2
theorem kind_21 : TKok Tryz.prog 21 (.int .i32) := Tryz.underlying21
theorem kind_5 : TKok Tryz.prog 5 (.int .u8) := Tryz.underlying5
theorem kind_210 : TKok Tryz.prog 210 (.int .u32) := Tryz.underlying210
theorem kind_198 : TKok Tryz.prog 198 (.int .u64) := Tryz.underlying198
theorem kind_12 : TKok Tryz.prog 12 (.int .u64) := Tryz.underlying12
theorem kind_4 : TKok Tryz.prog 4 (.bool) := Tryz.underlying4
theorem kind_9 : TKok Tryz.prog 9 (.str) := Tryz.underlying9
theorem kind_66 : TKok Tryz.prog 66 (.st [.slice none 0 0] [some (.sl .u8)] [0]) := st_ok Tryz.underlying66 inf_66 rfl (by kernel_rfl)
theorem kind_138 : TKok Tryz.prog 138 (.st [.slice none 0 0] [some (.sl .u8)] [0]) := st_ok Tryz.underlying138 inf_138 rfl (by kernel_rfl)
theorem kind_111 : TKok Tryz.prog 111 (.st [.int .i64 0, .slice none 0 0] [none, some (.sl .u8)] [0, 1]) := st_ok Tryz.underlying111 inf_111 rfl (by kernel_rfl)
theorem kind_178 : TKok Tryz.prog 178 (.st [.int .i64 0, .slice none 0 0] [none, some (.sl .u8)] [0, 1]) := st_ok Tryz.underlying178 inf_178 rfl (by kernel_rfl)
theorem kind_61 : TKok Tryz.prog 61 (.st [.int .i64 0, .int .i64 0, .int .i64 0, .slice none 0 0, .int .i64 0] [none, none, none, some .RShare, none] [0, 1, 2, 3, 4]) := st_ok Tryz.underlying61 inf_61 rfl (by kernel_rfl)
theorem kind_88 : TKok Tryz.prog 88 (.st [.int .i64 0, .int .i64 0, .int .i64 0, .slice none 0 0, .int .i64 0] [none, none, none, some .RShare, none] [0, 1, 2, 3, 4]) := st_ok Tryz.underlying88 inf_88 rfl (by kernel_rfl)
theorem kind_142 : TKok Tryz.prog 142 (.st [.int .i64 0, .slice none 0 0] [none, some (.sl .u8)] [0, 1]) := st_ok Tryz.underlying142 inf_142 rfl (by kernel_rfl)
theorem kind_140 : TKok Tryz.prog 140 (.st [.int .i64 0, .slice none 0 0] [none, some (.sl .u8)] [0, 1]) := st_ok Tryz.underlying140 inf_140 rfl (by kernel_rfl)
theorem kind_38 : TKok Tryz.prog 38 (.st [.int .i64 0, .slice none 0 0] [none, some .ARound] [0, 1]) := st_ok Tryz.underlying38 inf_38 rfl (by kernel_rfl)
theorem kind_26 : TKok Tryz.prog 26 (.st [.int .i64 0, .slice none 0 0] [none, some .ARound] [0, 1]) := st_ok Tryz.underlying26 inf_26 rfl (by kernel_rfl)
theorem kind_100 : TKok Tryz.prog 100 (.st [.int .i64 0, .int .i64 0, .int .i64 0, .int .i64 0, .slice none 0 0, .int .i64 0, .slice none 0 0, .int .i64 0] [none, none, none, none, some (.sl .u8), none, some (.sl .u8), none] [0, 1, 2, 3, 4, 5, 6, 7]) := st_ok Tryz.underlying100 inf_100 rfl (by kernel_rfl)
theorem kind_91 : TKok Tryz.prog 91 (.st [.int .i64 0, .int .i64 0, .int .i64 0, .int .i64 0, .slice none 0 0, .int .i64 0, .slice none 0 0, .int .i64 0] [none, none, none, none, some (.sl .u8), none, some (.sl .u8), none] [0, 1, 2, 3, 4, 5, 6, 7]) := st_ok Tryz.underlying91 inf_91 rfl (by kernel_rfl)
theorem kind_102 : TKok Tryz.prog 102 (.st [.int .i64 0, .int .i64 0, .int .i64 0, .int .i64 0, .slice none 0 0, .int .i64 0, .slice none 0 0, .int .i64 0, .int .i64 0, .int .i64 0, .int .i64 0, .int .i64 0, .slice none 0 0, .int .i64 0, .slice none 0 0, .int .i64 0] [none, none, none, none, some (.sl .u8), none, some (.sl .u8), none, none, none, none, none, some (.sl .u8), none, some (.sl .u8), none] [0, 8]) := st_ok Tryz.underlying102 inf_102 rfl (by kernel_rfl)
theorem kind_93 : TKok Tryz.prog 93 (.st [.int .i64 0, .int .i64 0, .int .i64 0, .int .i64 0, .slice none 0 0, .int .i64 0, .slice none 0 0, .int .i64 0, .int .i64 0, .int .i64 0, .int .i64 0, .int .i64 0, .slice none 0 0, .int .i64 0, .slice none 0 0, .int .i64 0] [none, none, none, none, some (.sl .u8), none, some (.sl .u8), none, none, none, none, none, some (.sl .u8), none, some (.sl .u8), none] [0, 8]) := st_ok Tryz.underlying93 inf_93 rfl (by kernel_rfl)
theorem kind_40 : TKok Tryz.prog 40 (.st [.int .i64 0, .slice none 0 0, .slice none 0 0, .int .i64 0, .slice none 0 0, .int .i64 0, .int .i64 0, .int .i64 0, .slice none 0 0, .int .i64 0] [none, some .Srv, some .Dev, none, some .ARound, none, none, none, some .int, none] [0, 1, 2, 3, 5, 6, 7, 8, 9]) := st_ok Tryz.underlying40 inf_40 rfl (by kernel_rfl)
theorem kind_29 : TKok Tryz.prog 29 (.st [.int .i64 0, .slice none 0 0, .slice none 0 0, .int .i64 0, .slice none 0 0, .int .i64 0, .int .i64 0, .int .i64 0, .slice none 0 0, .int .i64 0] [none, some .Srv, some .Dev, none, some .ARound, none, none, none, some .int, none] [0, 1, 2, 3, 5, 6, 7, 8, 9]) := st_ok Tryz.underlying29 inf_29 rfl (by kernel_rfl)
theorem kind_68 : TKok Tryz.prog 68 (.st [.int .i64 0, .int .i64 0, .int .i64 0, .int .i64 0, .int .i64 0] [none, none, none, none, none] [0, 1, 2, 3, 4]) := st_ok Tryz.underlying68 inf_68 rfl (by kernel_rfl)
theorem kind_184 : TKok Tryz.prog 184 (.st [.int .i64 0, .slice none 0 0] [none, some .u8] [0, 1]) := st_ok Tryz.underlying184 inf_184 rfl (by kernel_rfl)
theorem kind_27 : TKok Tryz.prog 27 (.sl .int 3) := ⟨Tryz.underlying27, sz_of inf_3⟩
theorem kind_105 : TKok Tryz.prog 105 (.sl .u8 5) := ⟨Tryz.underlying105, sz_of inf_5⟩
theorem kind_64 : TKok Tryz.prog 64 (.sl (.sl .u8) 105) := ⟨Tryz.underlying64, sz_of inf_105⟩
theorem kind_192 : TKok Tryz.prog 192 (.sl (.sl .int) 27) := ⟨Tryz.underlying192, sz_of inf_27⟩
theorem kind_57 : TKok Tryz.prog 57 (.sl .DB 66) := ⟨Tryz.underlying57, sz_of inf_66⟩
theorem kind_59 : TKok Tryz.prog 59 (.sl .RShare 111) := ⟨Tryz.underlying59, sz_of inf_111⟩
theorem kind_86 : TKok Tryz.prog 86 (.sl .RShare 178) := ⟨Tryz.underlying86, sz_of inf_178⟩
theorem kind_31 : TKok Tryz.prog 31 (.sl .Srv 61) := ⟨Tryz.underlying31, sz_of inf_61⟩
theorem kind_22 : TKok Tryz.prog 22 (.sl .Srv 88) := ⟨Tryz.underlying22, sz_of inf_88⟩
theorem kind_36 : TKok Tryz.prog 36 (.sl .ARound 142) := ⟨Tryz.underlying36, sz_of inf_142⟩
theorem kind_24 : TKok Tryz.prog 24 (.sl .ARound 140) := ⟨Tryz.underlying24, sz_of inf_140⟩
theorem kind_35 : TKok Tryz.prog 35 (.sl .Dev 102) := ⟨Tryz.underlying35, sz_of inf_102⟩
theorem kind_23 : TKok Tryz.prog 23 (.sl .Dev 93) := ⟨Tryz.underlying23, sz_of inf_93⟩
theorem kind_32 : TKok Tryz.prog 32 (.sl .Rcp 68) := ⟨Tryz.underlying32, sz_of inf_68⟩
set_option maxRecDepth 100000 in
theorem kinds : ∀ e, e ∈ tys → TKok Tryz.prog e.1 e.2 := by
  simp only [tys, List.forall_mem_cons]
  exact ⟨kind_3, kind_2, kind_21, kind_5, kind_210, kind_198, kind_12, kind_4, kind_9, kind_66, kind_138, kind_111, kind_178, kind_61, kind_88, kind_142, kind_140, kind_38, kind_26, kind_100, kind_91, kind_102, kind_93, kind_40, kind_29, kind_68, kind_184, kind_27, kind_105, kind_64, kind_192, kind_57, kind_59, kind_86, kind_31, kind_22, kind_36, kind_24, kind_35, kind_23, kind_32, by simp⟩
set_option maxRecDepth 100000 in
theorem ones : ∀ e, e ∈ tys → (∀ z tg fo, e.2 ≠ .st z tg fo) → (Tryz.prog.info? e.1).map (·.size) = some 1 := by
  simp only [tys, List.forall_mem_cons]
  refine ⟨fun _ => one_of (by kernel_rfl), fun _ => one_of (by kernel_rfl), fun _ => one_of (by kernel_rfl), fun _ => one_of (by kernel_rfl), fun _ => one_of (by kernel_rfl), fun _ => one_of (by kernel_rfl), fun _ => one_of (by kernel_rfl), fun _ => one_of (by kernel_rfl), fun _ => one_of (by kernel_rfl), fun h => absurd rfl (h _ _ _), fun h => absurd rfl (h _ _ _), fun h => absurd rfl (h _ _ _), fun h => absurd rfl (h _ _ _), fun h => absurd rfl (h _ _ _), fun h => absurd rfl (h _ _ _), fun h => absurd rfl (h _ _ _), fun h => absurd rfl (h _ _ _), fun h => absurd rfl (h _ _ _), fun h => absurd rfl (h _ _ _), fun h => absurd rfl (h _ _ _), fun h => absurd rfl (h _ _ _), fun h => absurd rfl (h _ _ _), fun h => absurd rfl (h _ _ _), fun h => absurd rfl (h _ _ _), fun h => absurd rfl (h _ _ _), fun h => absurd rfl (h _ _ _), fun h => absurd rfl (h _ _ _), fun _ => one_of (by kernel_rfl), fun _ => one_of (by kernel_rfl), fun _ => one_of (by kernel_rfl), fun _ => one_of (by kernel_rfl), fun _ => one_of (by kernel_rfl), fun _ => one_of (by kernel_rfl), fun _ => one_of (by kernel_rfl), fun _ => one_of (by kernel_rfl), fun _ => one_of (by kernel_rfl), fun _ => one_of (by kernel_rfl), fun _ => one_of (by kernel_rfl), fun _ => one_of (by kernel_rfl), fun _ => one_of (by kernel_rfl), fun _ => one_of (by kernel_rfl), by simp⟩
theorem X : Ctx Tryz.prog ty Γ where
  kind := fun t => by
    unfold Γ
    split
    · rename_i k hk; exact kinds (t, k) (look_mem hk)
    · trivial
  one := fun t h1 h2 => by
    unfold Γ at h1 h2
    split at h1
    · rename_i k hk; exact ones (t, k) (look_mem hk) h1
    · rename_i hk; rw [hk] at h2; exact absurd rfl h2
theorem El_all (t : Tag) (h : ty t < 1000000000) : El Tryz.prog ty t := by
  unfold ty at h
  split at h
  · exact inf_3
  · exact inf_5
  · exact inf_9
  · exact inf_105
  · exact inf_27
  · exact inf_64
  · exact inf_66
  · exact inf_111
  · exact inf_61
  · exact inf_142
  · exact inf_38
  · exact inf_100
  · exact inf_102
  · exact inf_40
  · exact inf_68
  · exact inf_184
  · exact absurd h (by decide)
end Go.Proofs.YthjedjndamejmaaGreat.G
namespace Go.Proofs.YthjedjndamejmaaGreat.G
set_option linter.all false
open Go.RowKit L D
theorem MO : Tryz.prog.follows .mixedOrders = true := by kernel_rfl
/-- What bools say, as propositions: one law to rewrite with. -/
theorem nb : (∀ (p : Prop) [Decidable p], (decide p = true) = p) ∧ (∀ (p : Prop) [Decidable p], (decide p = false) = ¬ p) ∧ (∀ b : Bool, ((!b) = true) = (b = false)) ∧ (∀ b : Bool, ((!b) = false) = (b = true)) ∧
    (∀ (α : Type) [BEq α] [LawfulBEq α] (a b : α), ((a == b) = true) = (a = b)) ∧ (∀ (α : Type) [BEq α] [LawfulBEq α] (a b : α), ((a != b) = true) = (¬ a = b)) ∧ (∀ (α : Type) [BEq α] [LawfulBEq α] (a b : α), ((a == b) = false) = (¬ a = b)) ∧ (∀ (α : Type) [BEq α] [LawfulBEq α] (a b : α), ((a != b) = false) = (a = b)) ∧
    (∀ (α : Type) (a b : α), (a ≠ b) = ¬ a = b) ∧ (∀ a b : Int, (a > b) = (b < a)) ∧ (∀ a b : Int, (a ≥ b) = (b ≤ a)) ∧ (∀ a b : Nat, (a > b) = (b < a)) ∧ (∀ a b : Nat, (a ≥ b) = (b ≤ a)) ∧ (∀ a b : Int, (¬ a < b) = (b ≤ a)) ∧ (∀ a b : Int, (¬ a ≤ b) = (b < a)) ∧
    (∀ (p : Prop) [Decidable p], (¬ ¬ p) = p) ∧ (∀ n : Nat, (n : Int).toNat = n) ∧ (∀ m n : Nat, ((m : Int) < n) = (m < n)) ∧ (∀ m n : Nat, ((m : Int) ≤ n) = (m ≤ n)) ∧ (∀ a b : Nat, (¬ a < b) = (b ≤ a)) ∧ (∀ a b : Nat, (¬ a ≤ b) = (b < a)) ∧
    (∀ (p : Prop) [Decidable p] (b : Bool), (if p then b else false) = (decide p && b)) ∧ (∀ (p : Prop) [Decidable p] (b : Bool), (if p then true else b) = (decide p || b)) ∧ (∀ (p : Prop) [Decidable p] (b : Bool), (if p then false else b) = (!decide p && b)) ∧ (∀ (p : Prop) [Decidable p] (b : Bool), (if p then b else true) = (!decide p || b)) ∧
    (∀ a b : Bool, ((a && b) = true) = (a = true ∧ b = true)) ∧ (∀ a b : Bool, ((a || b) = true) = (a = true ∨ b = true)) ∧ (∀ a b : Bool, ((a && b) = false) = (a = false ∨ b = false)) ∧ (∀ a b : Bool, ((a || b) = false) = (a = false ∧ b = false)) ∧ (∀ (b : Bool), decide (b = true) = b) := by
  refine ⟨by simp, by simp, by simp, by simp, fun _ _ _ a b => propext beq_iff_eq, fun _ _ _ a b => propext bne_iff_ne, fun _ _ _ a b => propext beq_eq_false_iff_ne, fun _ _ _ a b => propext bne_eq_false_iff_eq, by simp, by simp, by simp, by simp, by simp, by simp, by simp, by simp, by simp, by simp, by simp, by simp, by simp, by simp, by simp, by simp, by simp, by simp, by simp, by simp, by simp, by simp⟩
/-- Lengths. -/
theorem lens : (∀ n : Nat, (n : Int).toNat = n) ∧ (∀ (α : Type) (a b : List α), (a ++ b).length = a.length + b.length) ∧ (∀ (α : Type) (a : α), [a].length = 1) ∧ (∀ (α : Type) (a : α) (l : List α), (a :: l).length = l.length + 1) ∧ (∀ (α : Type), ([] : List α).length = 0) ∧ (∀ (α : Type) (n : Nat) (a : α), (List.replicate n a).length = n) ∧
    (∀ (α : Type) (l : List α) (n : Nat) (a : α), (l.set n a).length = l.length) ∧ (∀ (α β : Type) (f : α → β) (l : List α), (l.map f).length = l.length) ∧ (∀ (α : Type) (l : List α) (n : Nat), (l.take n).length = min n l.length) ∧ (∀ (α : Type) (l : List α) (n : Nat), (l.drop n).length = l.length - n) ∧ (∀ n : Nat, (List.range n).length = n) := by
  refine ⟨by simp, by simp, by simp, by simp, by simp, by simp, by simp, by simp, by simp, by simp, by simp⟩
theorem AllP.mk {p : Prop} {l : List Prop} (h : p) (k : AllP l) : AllP (p :: l) := ⟨h, k⟩
theorem AllP.nil : AllP [] := True.intro
theorem take_snoc {α : Type} (l : List α) (k : Nat) (d : α) (h : k < l.length) : l.take (k + 1) = l.take k ++ [l.getD k d] := by
  rw [List.take_add_one, List.getD_eq_getElem?_getD, List.getElem?_eq_getElem h]; rfl
theorem wadd (a : Int) (n : Nat) (h : a = n) (h2 : n < 9223372036854775807) : IntKind.i64.wrap (a + 1) = ((n + 1 : Nat) : Int) := by
  subst h; rw [IntWalk.i64_in _ (by omega)]; omega
/-- A scalar's contract, as the laws' walks ask for it. -/
theorem gives_of {P : Program} {ty : Tag → Nat} {f : FuncId} {xs : List S1} {v : Value} (h : Sound ty P f xs [.a (.lit v)]) {w : World} {us : List Value} (ha : All2 (Arg1 w) xs us) (hA : Amb w := by first | assumption | exact trivial) : Calls P f us.toArray w (Gives w v) := by
  refine (h.2 w us hA ha).mono ?_
  rintro e w' ⟨u, fp, rfl, hb, _, f1, f2, ⟨rfl, _⟩, _⟩
  exact ⟨rfl, hb⟩
theorem arg_agg {w : World} {l : List V} {cs : List Value} {fp : List Nat} (h : RIs w l cs fp) : Arg1 w (.agg l) (.agg cs.toArray) := ⟨cs, fp, rfl, h⟩
/-- A slice has no more elements than a slice can have. -/
theorem W.bound {P : Program} {ty : Tag → Nat} {w0 : Base} {c : Code} {Q : Post} {st : St} (d : Nat) {t : Tag} {l : List (T t)} (h : look st.sl d = some (.one (.a (.sl t l)))) (k : l.length ≤ 9223372036854775807 → W P ty w0 c Q st) : W P ty w0 c Q st := by
  intro a w iv
  obtain ⟨env, g⟩ := iv.good
  obtain ⟨fp, ⟨oa, cap, _, h1, h2, _⟩, _⟩ := g.slot d _ h
  have e : maxLen = 9223372036854775807 := by decide
  exact k (by omega) a w iv
theorem W.boundA {P : Program} {ty : Tag → Nat} {w0 : Base} {c : Code} {Q : Post} {st : St} (d i : Nat) {cs : List V} {t : Tag} {l : List (T t)} (h : look st.sl d = some (.one (.agg cs))) (hc : cs[i]? = some (.sl t l)) (k : l.length ≤ 9223372036854775807 → W P ty w0 c Q st) : W P ty w0 c Q st := by
  intro a w iv
  obtain ⟨env, g⟩ := iv.good
  obtain ⟨us, _, hr⟩ := g.slot d _ h
  obtain ⟨u, _, fp, ⟨oa, cap, _, h1, h2, _⟩, _⟩ := hr.at hc
  have e : maxLen = 9223372036854775807 := by decide
  exact k (by omega) a w iv
theorem take_eq_step {α : Type} [DecidableEq α] (a b : List α) (d : α) (k : Nat) (ha : k < a.length) (hb : k < b.length) (h : a.take k = b.take k) (he : a.getD k d = b.getD k d) : a.take (k + 1) = b.take (k + 1) := by
  rw [take_snoc a k d ha, take_snoc b k d hb, h, he]
theorem ne_of_getD {α : Type} [BEq α] [LawfulBEq α] (a b : List α) (d : α) (k : Nat) (he : a.getD k d ≠ b.getD k d) : (a == b) = false := by
  rw [beq_eq_false_iff_ne]; rintro rfl; exact he rfl
theorem eq_of_take {α : Type} [BEq α] [LawfulBEq α] (a b : List α) (k : Nat) (hk : k = a.length) (hl : a.length = b.length) (h : a.take k = b.take k) : (a == b) = true := by
  rw [List.take_of_length_le (by omega), List.take_of_length_le (by omega)] at h
  rw [h]; simp
theorem ne_of_len {α : Type} [BEq α] [LawfulBEq α] (a b : List α) (hl : (a.length : Int) ≠ b.length) : (a == b) = false := by
  rw [beq_eq_false_iff_ne]; rintro rfl; exact hl rfl
theorem u8_inj {x y : UInt8} (h : (x.toNat : Int) = y.toNat) : x = y := by
  have : x.toNat = y.toNat := by omega
  exact UInt8.toNat_inj.1 this
end Go.Proofs.YthjedjndamejmaaGreat.G
namespace Go.Proofs.YthjedjndamejmaaGreat.G
set_option linter.all false
open Go.RowKit L D
def szr (left : Int) (n : Nat) : Int := if (n : Int) ≤ left then left - n else -1
theorem szr_pos {l : Int} {n : Nat} (h : 0 ≤ szr l n) : szr l n = l - n ∧ (n : Int) ≤ l := by
  unfold szr at *
  split at h
  · rename_i h1; exact ⟨by rw [if_pos h1], h1⟩
  · omega
theorem szr_neg {l : Int} {n : Nat} (h0 : 0 ≤ l) (h : szr l n < 0) : l < n := by
  unfold szr at h
  split at h <;> omega
theorem szr_ge {l : Int} {n : Nat} (h : (n : Int) ≤ l) : szr l n = l - n := by unfold szr; rw [if_pos h]
theorem szr_lt {l : Int} {n : Nat} (h : l < (n : Int)) : szr l n = -1 := by unfold szr; rw [if_neg (by omega)]
theorem sum_step {α : Type} (f : α → Nat) (l : List α) (d : α) (k : Nat) (h : k < l.length) : ((l.take (k + 1)).map f).sum = ((l.take k).map f).sum + f (l.getD k d) :=
  take_sum l f k _ (by rw [List.getD_eq_getElem?_getD, List.getElem?_eq_getElem h]; rfl)
theorem set_step {α : Type} (l : List α) (d : α) (k : Nat) (h : k < l.length) : (l.take k ++ List.replicate (l.length - k) d).set k (l.getD k d) = l.take (k + 1) ++ List.replicate (l.length - (k + 1)) d := by
  have hk : (l.take k).length = k := by rw [List.length_take]; omega
  rw [List.set_append_right _ _ (by omega), hk, Nat.sub_self, show l.length - k = (l.length - (k + 1)) + 1 by omega, List.replicate_succ, List.set_cons_zero, take_snoc l k d h, List.append_assoc]
  rfl
theorem set_len {α : Type} (l : List α) (d : α) (k : Nat) (h : k ≤ l.length) : (l.take k ++ List.replicate (l.length - k) d).length = l.length := by
  simp; omega
theorem u8_back (x : UInt8) : UInt8.ofNat (Int.toNat ((x.toNat : Nat) : Int)) = x := by simp
theorem u8w (n : Int) : 0 ≤ IntKind.u8.wrap n ∧ IntKind.u8.wrap n < 256 := by
  unfold IntKind.wrap
  simp only [IntKind.signed, IntKind.bits]
  simp
  omega
theorem u8n (x : UInt8) : 0 ≤ ((x.toNat : Nat) : Int) ∧ ((x.toNat : Nat) : Int) < 256 := by
  have := x.toNat_lt
  omega
theorem u8_rt (n : Int) : (((UInt8.ofNat (IntKind.u8.wrap n).toNat).toNat : Nat) : Int) = IntKind.u8.wrap n := by
  have h := u8w n
  generalize IntKind.u8.wrap n = m at h
  simp
  omega
/-- Marks laid into a list's elements, from k on. -/
def mkl {α : Type} (mk : Int → α → α) (mn : α → Nat) : Int → List α → List α
  | _, [] => []
  | k, x :: r => mk k x :: mkl mk mn (k + mn x) r
def mnl {α : Type} (mn : α → Nat) (l : List α) : Nat := (l.map mn).sum
section
variable {α : Type} {mk : Int → α → α} {mn : α → Nat}
theorem mkl_len : ∀ {l : List α} {k : Int}, (mkl mk mn k l).length = l.length
  | [], _ => rfl
  | _ :: r, k => by rw [mkl, List.length_cons, List.length_cons, mkl_len]
theorem mnl_cons (x : α) (r : List α) : mnl mn (x :: r) = mn x + mnl mn r := by simp [mnl]
theorem mnl_step (l : List α) (d : α) (j : Nat) (h : j < l.length) : mnl mn (l.take (j + 1)) = mnl mn (l.take j) + mn (l.getD j d) := sum_step mn l d j h
theorem mnl_le (l : List α) (j : Nat) : mnl mn (l.take j) ≤ mnl mn l := take_sum_le l mn j
theorem mkl_app : ∀ {l m : List α} {k : Int}, mkl mk mn k (l ++ m) = mkl mk mn k l ++ mkl mk mn (k + mnl mn l) m
  | [], m, k => by simp [mkl, mnl]
  | x :: r, m, k => by
    rw [List.cons_append, mkl, mkl, mkl_app, List.cons_append, mnl_cons]
    congr 3
    omega
theorem mkl_getD {l : List α} {k : Int} {d : α} {j : Nat} (h : j < l.length) : (mkl mk mn k l).getD j d = mk (k + mnl mn (l.take j)) (l.getD j d) := by
  have e : l = l.take j ++ l.getD j d :: l.drop (j + 1) := by
    have : l.drop j = l.getD j d :: l.drop (j + 1) := by
      rw [List.drop_eq_getElem_cons h, List.getD_eq_getElem?_getD, List.getElem?_eq_getElem h]; rfl
    rw [← this, List.take_append_drop]
  have hj : (l.take j).length = j := by rw [List.length_take]; omega
  generalize l.getD j d = x at e ⊢
  rw [show mkl mk mn k l = mkl mk mn k (l.take j ++ x :: l.drop (j + 1)) by rw [← e], mkl_app, mkl]
  rw [List.getD_eq_getElem?_getD, List.getElem?_append_right (by rw [mkl_len, hj]; exact Nat.le_refl _), mkl_len, hj, Nat.sub_self]
  rfl
theorem mk_cur (l : List α) (k : Int) (d : α) (j : Nat) (h : j < l.length) : (mkl mk mn k (l.take j) ++ l.drop j).getD j d = l.getD j d := by
  have hj : (mkl mk mn k (l.take j)).length = j := by rw [mkl_len, List.length_take]; omega
  rw [List.getD_eq_getElem?_getD, List.getElem?_append_right (by omega), hj, Nat.sub_self, List.getElem?_drop, List.getD_eq_getElem?_getD, Nat.add_zero]
theorem mk_len (l : List α) (k : Int) (j : Nat) (h : j ≤ l.length) : (mkl mk mn k (l.take j) ++ l.drop j).length = l.length := by
  rw [List.length_append, mkl_len, List.length_take, List.length_drop]; omega
theorem mk_step (l : List α) (k : Int) (d : α) (j : Nat) (h : j < l.length) : (mkl mk mn k (l.take j) ++ l.drop j).set j (mk (k + mnl mn (l.take j)) (l.getD j d)) = mkl mk mn k (l.take (j + 1)) ++ l.drop (j + 1) := by
  have hj : (mkl mk mn k (l.take j)).length = j := by rw [mkl_len, List.length_take]; omega
  rw [List.set_append_right _ _ (by omega), hj, Nat.sub_self, List.drop_eq_getElem_cons h, List.set_cons_zero, take_snoc l j d h, mkl_app, mkl, mkl, List.append_assoc]
  rfl
theorem getD_set (L : List α) (d y : α) (j : Nat) (h : j < L.length) : (L.set j y).getD j d = y := by
  rw [List.getD_eq_getElem?_getD, List.getElem?_set_self h]; rfl
end
theorem W.boundO {P : Program} {ty : Tag → Nat} {zb : Base} {c : Code} {Q : Post} {st : St} (n : Nat) {t : Tag} {l : List (T t)} (h : look st.hp n = some (.arr t l)) (k : l.length ≤ 9223372036854775807 → W P ty zb c Q st) : W P ty zb c Q st := by
  intro a w iv
  obtain ⟨env, g⟩ := iv.good
  obtain ⟨oa, cap, _, h1, h2, _⟩ := RO.sl (g.obj n _ h)
  have e : maxLen = 9223372036854775807 := by decide
  exact k (by omega) a w iv
theorem W.conv {P : Program} {ty : Tag → Nat} {zb : Base} {c : Code} {Q : Post} {st : St} (st' : St) (h : st = st') (k : W P ty zb c Q st') : W P ty zb c Q st := h ▸ k
end Go.Proofs.YthjedjndamejmaaGreat.G
namespace Go.Proofs.YthjedjndamejmaaGreat.G
set_option linter.all false
open Go.RowKit L D
set_option maxRecDepth 100000
def mku8 (k : Int) (_ : UInt8) : UInt8 := UInt8.ofNat (IntKind.u8.wrap k).toNat
theorem getD_some {α : Type} (l : List α) (d : α) (k : Nat) (h : k < l.length) : l[k]? = some (l.getD k d) := by
  rw [List.getD_eq_getElem?_getD, List.getElem?_eq_getElem h]; rfl
def size_DB (x : DB) : Nat := (lsz List.length) x.rows
def mne_DB (x : DB) : Nat := (mnl (mnl (fun _ => 1))) x.rows
def mke_DB (k : Int) (x : DB) : DB := ⟨(mkl (mkl mku8 (fun _ => 1)) (mnl (fun _ => 1))) (k) x.rows⟩
def size_RShare (x : RShare) : Nat := size_DB x.share
def mne_RShare (x : RShare) : Nat := 1 + (mnl (mnl (fun _ => 1))) x.share.rows
def mke_RShare (k : Int) (x : RShare) : RShare := ⟨k, ⟨(mkl (mkl mku8 (fun _ => 1)) (mnl (fun _ => 1))) (k + 1) x.share.rows⟩⟩
def size_Srv (x : Srv) : Nat := (lsz size_RShare) x.received
def mne_Srv (x : Srv) : Nat := 1 + 1 + 1 + (mnl mne_RShare) x.received + 1
def mke_Srv (k : Int) (x : Srv) : Srv := ⟨k, k + 1, k + 1 + 1, (mkl mke_RShare mne_RShare) (k + 1 + 1 + 1) x.received, k + 1 + 1 + 1 + ((mnl mne_RShare) x.received : Nat)⟩
def size_ARound (x : ARound) : Nat := size_DB x.db
def mne_ARound (x : ARound) : Nat := 1 + (mnl (mnl (fun _ => 1))) x.db.rows
def mke_ARound (k : Int) (x : ARound) : ARound := ⟨k, ⟨(mkl (mkl mku8 (fun _ => 1)) (mnl (fun _ => 1))) (k + 1) x.db.rows⟩⟩
def size_Arc (x : Arc) : Nat := (lsz size_ARound) x.rounds
def mnv_Arc (x : Arc) : Nat := (mnl mne_ARound) x.rounds
def mkv_Arc (k : Int) (x : Arc) : Arc := ⟨x.rows, (mkl mke_ARound mne_ARound) (k) x.rounds⟩
def size_Cli (x : Cli) : Nat := (lsz List.length) x.submitted + (lsz List.length) x.inbox
def mne_Cli (x : Cli) : Nat := 1 + 1 + 1 + 1 + (mnl (mnl (fun _ => 1))) x.submitted + 1 + (mnl (mnl (fun _ => 1))) x.inbox + 1
def size_Dev (x : Dev) : Nat := size_Cli x.live + size_Cli x.saved
def mne_Dev (x : Dev) : Nat := 1 + 1 + 1 + 1 + (mnl (mnl (fun _ => 1))) x.live.submitted + 1 + (mnl (mnl (fun _ => 1))) x.live.inbox + 1 + 1 + 1 + 1 + 1 + (mnl (mnl (fun _ => 1))) x.saved.submitted + 1 + (mnl (mnl (fun _ => 1))) x.saved.inbox + 1
def mke_Dev (k : Int) (x : Dev) : Dev := ⟨⟨k, k + 1, k + 1 + 1, k + 1 + 1 + 1, (mkl (mkl mku8 (fun _ => 1)) (mnl (fun _ => 1))) (k + 1 + 1 + 1 + 1) x.live.submitted, k + 1 + 1 + 1 + 1 + ((mnl (mnl (fun _ => 1))) x.live.submitted : Nat), (mkl (mkl mku8 (fun _ => 1)) (mnl (fun _ => 1))) (k + 1 + 1 + 1 + 1 + ((mnl (mnl (fun _ => 1))) x.live.submitted : Nat) + 1) x.live.inbox, k + 1 + 1 + 1 + 1 + ((mnl (mnl (fun _ => 1))) x.live.submitted : Nat) + 1 + ((mnl (mnl (fun _ => 1))) x.live.inbox : Nat)⟩, ⟨k + 1 + 1 + 1 + 1 + ((mnl (mnl (fun _ => 1))) x.live.submitted : Nat) + 1 + ((mnl (mnl (fun _ => 1))) x.live.inbox : Nat) + 1, k + 1 + 1 + 1 + 1 + ((mnl (mnl (fun _ => 1))) x.live.submitted : Nat) + 1 + ((mnl (mnl (fun _ => 1))) x.live.inbox : Nat) + 1 + 1, k + 1 + 1 + 1 + 1 + ((mnl (mnl (fun _ => 1))) x.live.submitted : Nat) + 1 + ((mnl (mnl (fun _ => 1))) x.live.inbox : Nat) + 1 + 1 + 1, k + 1 + 1 + 1 + 1 + ((mnl (mnl (fun _ => 1))) x.live.submitted : Nat) + 1 + ((mnl (mnl (fun _ => 1))) x.live.inbox : Nat) + 1 + 1 + 1 + 1, (mkl (mkl mku8 (fun _ => 1)) (mnl (fun _ => 1))) (k + 1 + 1 + 1 + 1 + ((mnl (mnl (fun _ => 1))) x.live.submitted : Nat) + 1 + ((mnl (mnl (fun _ => 1))) x.live.inbox : Nat) + 1 + 1 + 1 + 1 + 1) x.saved.submitted, k + 1 + 1 + 1 + 1 + ((mnl (mnl (fun _ => 1))) x.live.submitted : Nat) + 1 + ((mnl (mnl (fun _ => 1))) x.live.inbox : Nat) + 1 + 1 + 1 + 1 + 1 + ((mnl (mnl (fun _ => 1))) x.saved.submitted : Nat), (mkl (mkl mku8 (fun _ => 1)) (mnl (fun _ => 1))) (k + 1 + 1 + 1 + 1 + ((mnl (mnl (fun _ => 1))) x.live.submitted : Nat) + 1 + ((mnl (mnl (fun _ => 1))) x.live.inbox : Nat) + 1 + 1 + 1 + 1 + 1 + ((mnl (mnl (fun _ => 1))) x.saved.submitted : Nat) + 1) x.saved.inbox, k + 1 + 1 + 1 + 1 + ((mnl (mnl (fun _ => 1))) x.live.submitted : Nat) + 1 + ((mnl (mnl (fun _ => 1))) x.live.inbox : Nat) + 1 + 1 + 1 + 1 + 1 + ((mnl (mnl (fun _ => 1))) x.saved.submitted : Nat) + 1 + ((mnl (mnl (fun _ => 1))) x.saved.inbox : Nat)⟩⟩
def size_Wld (x : Wld) : Nat := (lsz size_Srv) x.servers + (lsz size_Dev) x.devices + size_Arc x.archive + List.length x.replaced
def mnv_Wld (x : Wld) : Nat := (mnl mne_Srv) x.servers + (mnl mne_Dev) x.devices + mnv_Arc x.archive + (mnl (fun _ => 1)) x.replaced
def mkv_Wld (k : Int) (x : Wld) : Wld := ⟨x.rows, (mkl mke_Srv mne_Srv) (k) x.servers, (mkl mke_Dev mne_Dev) (k + ((mnl mne_Srv) x.servers : Nat)) x.devices, mkv_Arc (k + ((mnl mne_Srv) x.servers : Nat) + ((mnl mne_Dev) x.devices : Nat)) x.archive, x.master, x.seed, x.round, (mkl (fun k _ => k) (fun _ => 1)) (k + ((mnl mne_Srv) x.servers : Nat) + ((mnl mne_Dev) x.devices : Nat) + (mnv_Arc x.archive : Nat)) x.replaced, x.cancelled⟩
def size_Rcp (x : Rcp) : Nat := 0
def mne_Rcp (x : Rcp) : Nat := 1 + 1 + 1 + 1 + 1
def mke_Rcp (k : Int) (x : Rcp) : Rcp := ⟨k, k + 1, k + 1 + 1, k + 1 + 1 + 1, k + 1 + 1 + 1 + 1⟩
theorem mnl_one {α : Type} (l : List α) : mnl (fun _ => 1) l = l.length := by
  induction l with
  | nil => rfl
  | cons x r ih => rw [mnl_cons, ih, List.length_cons]; omega
theorem mnl_lsz {α : Type} {mn sz : α → Nat} {C : Nat} (h : ∀ e, mn e ≤ C * (1 + sz e)) (l : List α) : mnl mn l ≤ C * lsz sz l := by
  unfold lsz mnl
  induction l with
  | nil => simp
  | cons x r ih =>
    simp only [List.map_cons, List.sum_cons, List.length_cons]
    have := h x
    have e : C * (r.length + 1 + (sz x + (r.map sz).sum)) = C * (1 + sz x) + C * (r.length + (r.map sz).sum) := by rw [← Nat.mul_add]; congr 1; omega
    omega
theorem mnl_len {α : Type} (l : List α) : mnl (fun _ => 1) l ≤ 32 * List.length l := by rw [mnl_one]; omega
theorem mne_le_RShare (x : RShare) : mne_RShare x ≤ 32 * (1 + size_RShare x) := by
  have h0 : (mnl (mnl (fun _ => 1))) x.share.rows ≤ 32 * (lsz List.length) x.share.rows := mnl_lsz (C := 32) (sz := List.length) (fun e => by have : (mnl (fun _ => 1)) e ≤ 32 * List.length e := mnl_len e; omega) x.share.rows
  simp only [mne_RShare, size_RShare, size_DB]
  omega
theorem mne_le_Srv (x : Srv) : mne_Srv x ≤ 32 * (1 + size_Srv x) := by
  have h0 : (mnl mne_RShare) x.received ≤ 32 * (lsz size_RShare) x.received := mnl_lsz (C := 32) (sz := size_RShare) mne_le_RShare x.received
  simp only [mne_Srv, size_Srv]
  omega
theorem mne_le_ARound (x : ARound) : mne_ARound x ≤ 32 * (1 + size_ARound x) := by
  have h0 : (mnl (mnl (fun _ => 1))) x.db.rows ≤ 32 * (lsz List.length) x.db.rows := mnl_lsz (C := 32) (sz := List.length) (fun e => by have : (mnl (fun _ => 1)) e ≤ 32 * List.length e := mnl_len e; omega) x.db.rows
  simp only [mne_ARound, size_ARound, size_DB]
  omega
theorem mne_le_Dev (x : Dev) : mne_Dev x ≤ 32 * (1 + size_Dev x) := by
  have h0 : (mnl (mnl (fun _ => 1))) x.live.submitted ≤ 32 * (lsz List.length) x.live.submitted := mnl_lsz (C := 32) (sz := List.length) (fun e => by have : (mnl (fun _ => 1)) e ≤ 32 * List.length e := mnl_len e; omega) x.live.submitted
  have h1 : (mnl (mnl (fun _ => 1))) x.live.inbox ≤ 32 * (lsz List.length) x.live.inbox := mnl_lsz (C := 32) (sz := List.length) (fun e => by have : (mnl (fun _ => 1)) e ≤ 32 * List.length e := mnl_len e; omega) x.live.inbox
  have h2 : (mnl (mnl (fun _ => 1))) x.saved.submitted ≤ 32 * (lsz List.length) x.saved.submitted := mnl_lsz (C := 32) (sz := List.length) (fun e => by have : (mnl (fun _ => 1)) e ≤ 32 * List.length e := mnl_len e; omega) x.saved.submitted
  have h3 : (mnl (mnl (fun _ => 1))) x.saved.inbox ≤ 32 * (lsz List.length) x.saved.inbox := mnl_lsz (C := 32) (sz := List.length) (fun e => by have : (mnl (fun _ => 1)) e ≤ 32 * List.length e := mnl_len e; omega) x.saved.inbox
  simp only [mne_Dev, size_Dev, size_Cli]
  omega
theorem mnv_le_Wld (x : Wld) : mnv_Wld x ≤ 32 * size_Wld x := by
  have h0 : (mnl mne_Srv) x.servers ≤ 32 * (lsz size_Srv) x.servers := mnl_lsz (C := 32) (sz := size_Srv) mne_le_Srv x.servers
  have h1 : (mnl mne_Dev) x.devices ≤ 32 * (lsz size_Dev) x.devices := mnl_lsz (C := 32) (sz := size_Dev) mne_le_Dev x.devices
  have h2 : (mnl mne_ARound) x.archive.rounds ≤ 32 * (lsz size_ARound) x.archive.rounds := mnl_lsz (C := 32) (sz := size_ARound) mne_le_ARound x.archive.rounds
  have h3 : (mnl (fun _ => 1)) x.replaced ≤ 32 * List.length x.replaced := mnl_len x.replaced
  simp only [mnv_Wld, mnv_Arc, size_Wld, size_Arc]
  omega
theorem mne_le_Rcp (x : Rcp) : mne_Rcp x ≤ 32 * (1 + size_Rcp x) := by
  simp only [mne_Rcp, size_Rcp]
  omega
end Go.Proofs.YthjedjndamejmaaGreat.G
namespace Go.Proofs.YthjedjndamejmaaGreat.G
set_option linter.all false
open Go.RowKit L D
set_option maxRecDepth 100000
theorem c_szByteS (l : (List UInt8)) (left : Int) (h0 : 0 ≤ left) (h1 : left ≤ 1048576) : Sound ty Tryz.prog 199 [.a (.sl .u8 l), .a (.lit (.int .i64 left))] [.a (.lit (.int .i64 (szr left (List.length l))))] := by
  refine Sound.of X Tryz.call199 Tryz.func199 rfl rfl (by decide) Tryz.ntmps199 (by simp) ?_
  intro zb
  refine W.bound 0 rfl fun hl => ?_
  refine W.seq ?_
  refine W.reg X [] [] [0, 1] [] rfl ⟨⟩ ?_
  refine W.seq ?_
  refine W.reg X [] [] [1] [] rfl ⟨⟩ ?_
  rw [IntWalk.i64_in (left - (l.length : Nat)) (by omega)]
  refine W.seq ?_
  refine W.seq ?_
  refine W.reg X [] [] [1, 10] [] rfl ⟨⟩ ?_
  refine W.cond rfl (fun hb0 => ?_) (fun hb0 => ?_)
  · try simp only [nb] at hb0
    refine W.seq ?_
    refine W.reg X [] [] [4] [] rfl ⟨⟩ ?_
    refine W.ret ?_
    exact Fin.ret rfl ⟨by rw [szr_lt (by omega)], ⟨⟩⟩
  · try simp only [nb] at hb0
    refine W.skip ?_
    refine W.seq ?_
    refine W.reg X [] [] [4] [] rfl ⟨⟩ ?_
    refine W.ret ?_
    exact Fin.ret rfl ⟨by rw [szr_ge (by omega)], ⟨⟩⟩
theorem c_szByteSS (l : (List (List UInt8))) (left : Int) (h0 : 0 ≤ left) (h1 : left ≤ 1048576) : Sound ty Tryz.prog 168 [.a (.sl (.sl .u8) l), .a (.lit (.int .i64 left))] [.a (.lit (.int .i64 (szr left ((lsz List.length) l))))] := by
  refine Sound.of X Tryz.call168 Tryz.func168 rfl rfl (by decide) Tryz.ntmps168 (by simp) ?_
  intro zb
  refine W.bound 0 rfl fun hl => ?_
  refine W.seq ?_
  refine W.reg X [] [] [0, 1] [] rfl ⟨⟩ ?_
  refine W.seq ?_
  refine W.reg X [] [] [0, 1] [] rfl ⟨⟩ ?_
  rw [IntWalk.i64_in (left - (l.length : Nat)) (by omega)]
  refine W.seq ?_
  refine W.seq ?_
  refine W.reg X [] [] [0, 1, 11] [] rfl ⟨⟩ ?_
  refine W.cond rfl (fun hb0 => ?_) (fun hb0 => ?_)
  · try simp only [nb] at hb0
    refine W.seq ?_
    refine W.reg X [] [] [4] [] rfl ⟨⟩ ?_
    refine W.ret ?_
    exact Fin.ret rfl ⟨by rw [szr_lt (by unfold lsz; omega)], ⟨⟩⟩
  · try simp only [nb] at hb0
    refine W.skip ?_
    refine W.seq ?_
    refine W.seq ?_
    refine W.reg X [] [] [0, 1, 5] [] rfl ⟨⟩ ?_
    refine W.block ?_
    refine W.loopO (fun k => k ≤ l.length ∧ (l.length : Int) + (((l.take k).map List.length).sum : Nat) ≤ left) (fun k : Nat => [(1, .one (.a (.lit (.int .i64 (left - (l.length : Nat) - (((l.take k).map List.length).sum : Nat)))))), (5, .one (.a (.lit (.int .i64 k))))]) (fun k => []) (fun k => l.length - k) 0 (fun k => rfl) ⟨Nat.zero_le _, by simp; omega⟩ (by simp) ?_
    rintro k ⟨hk, hs⟩
    refine W.seq ?_
    refine W.seq ?_
    refine W.reg X [] [] [0, 1, 5, 15] [] rfl ⟨⟩ ?_
    refine W.cond rfl (fun hb1 => ?_) (fun hb1 => ?_)
    · try simp only [nb] at hb1
      have hsum := sum_step List.length l (dfl (.sl .u8)) k hb1
      have hle := take_sum_le l List.length (k + 1)
      refine W.skip ?_
      refine W.seq ?_
      refine W.block ?_
      refine W.seq ?_
      refine W.reg X [] [(23, ⟨false, [.a (.lit (.int .i64 (szr (left - (l.length : Nat) - (((l.take k).map List.length).sum : Nat)) (List.length (l.getD k (dfl (.sl .u8)))))))]⟩)] [0, 1, 5] [] rfl ⟨c_szByteS (l.getD k (dfl (.sl .u8))) _ (by omega) (by omega), by omega, ⟨⟩⟩ ?_
      refine W.seq ?_
      refine W.reg X [] [] [0, 1, 5, 25] [] rfl ⟨⟩ ?_
      refine W.cond rfl (fun hb2 => ?_) (fun hb2 => ?_)
      · try simp only [nb] at hb2
        have hn := szr_neg (by omega) hb2
        refine W.seq ?_
        refine W.reg X [] [] [4] [] rfl ⟨⟩ ?_
        refine W.ret ?_
        exact Fin.ret rfl ⟨by rw [szr_lt (by unfold lsz; omega)], ⟨⟩⟩
      · try simp only [nb] at hb2
        obtain ⟨e2, e3⟩ := szr_pos hb2
        rw [e2]
        refine W.skip ?_
        refine W.reg X [] [] [0, 1, 5] [] rfl ⟨⟩ ?_
        refine ⟨k + 1, ⟨by omega, by omega⟩, by omega, ?_⟩
        rw [wadd _ k rfl (by omega), show left - (l.length : Nat) - (((l.take k).map List.length).sum : Nat) - (List.length (l.getD k (dfl (.sl .u8))) : Nat) = left - (l.length : Nat) - (((l.take (k + 1)).map List.length).sum : Nat) by omega]
    · try simp only [nb] at hb1
      refine W.exit ?_
      refine W.seq ?_
      refine W.reg X [] [] [4] [] rfl ⟨⟩ ?_
      refine W.ret ?_
      have hf : l.take k = l := List.take_of_length_le (by omega)
      rw [hf] at hs
      exact Fin.ret rfl ⟨by rw [hf, szr_ge (by unfold lsz; omega)]; congr 1; unfold lsz; omega, ⟨⟩⟩
theorem c_szDatabase (x : DB) (left : Int) (h0 : 0 ≤ left) (h1 : left ≤ 1048576) : Sound ty Tryz.prog 169 [.agg (dec_DB x), .a (.lit (.int .i64 left))] [.a (.lit (.int .i64 (szr left (size_DB x))))] := by
  refine Sound.of X Tryz.call169 Tryz.func169 rfl rfl (by decide) Tryz.ntmps169 (by simp) ?_
  intro zb
  refine W.seq ?_
  refine W.reg X [] [] [1, 2] [] rfl ⟨⟩ ?_
  refine W.seq ?_
  refine W.reg X [] [(8, ⟨false, [.a (.lit (.int .i64 (szr (left) ((lsz List.length) x.rows))))]⟩)] [1] [] rfl ⟨c_szByteSS x.rows (left) (by omega) (by omega), ⟨⟩⟩ ?_
  refine W.seq ?_
  refine W.seq ?_
  refine W.reg X [] [] [1, 10] [] rfl ⟨⟩ ?_
  refine W.cond rfl (fun hb0 => ?_) (fun hb0 => ?_)
  · try simp only [nb] at hb0
    refine W.seq ?_
    refine W.reg X [] [] [4] [] rfl ⟨⟩ ?_
    refine W.ret ?_
    exact Fin.ret rfl ⟨by rw [szr_lt (by have := szr_neg (by omega) hb0; unfold size_DB; omega)], ⟨⟩⟩
  · try simp only [nb] at hb0
    obtain ⟨e0, e0'⟩ := szr_pos hb0
    rw [e0]
    refine W.skip ?_
    refine W.seq ?_
    refine W.reg X [] [] [4] [] rfl ⟨⟩ ?_
    refine W.ret ?_
    exact Fin.ret rfl ⟨by rw [szr_ge (by unfold size_DB; omega)]; first | done | (congr 1; done) | (congr 1; unfold size_DB; omega), ⟨⟩⟩
theorem c_szArchivedRound (x : ARound) (left : Int) (h0 : 0 ≤ left) (h1 : left ≤ 1048576) : Sound ty Tryz.prog 111 [.agg (dec_ARound x), .a (.lit (.int .i64 left))] [.a (.lit (.int .i64 (szr left (size_ARound x))))] := by
  refine Sound.of X Tryz.call111 Tryz.func111 rfl rfl (by decide) Tryz.ntmps111 (by simp) ?_
  intro zb
  refine W.seq ?_
  refine W.reg X [] [] [1, 2] [] rfl ⟨⟩ ?_
  refine W.seq ?_
  refine W.reg X [] [(8, ⟨false, [.a (.lit (.int .i64 (szr (left) (size_DB x.db))))]⟩)] [1] [] rfl ⟨c_szDatabase x.db (left) (by omega) (by omega), ⟨⟩⟩ ?_
  refine W.seq ?_
  refine W.seq ?_
  refine W.reg X [] [] [1, 10] [] rfl ⟨⟩ ?_
  refine W.cond rfl (fun hb0 => ?_) (fun hb0 => ?_)
  · try simp only [nb] at hb0
    refine W.seq ?_
    refine W.reg X [] [] [4] [] rfl ⟨⟩ ?_
    refine W.ret ?_
    exact Fin.ret rfl ⟨by rw [szr_lt (by have := szr_neg (by omega) hb0; unfold size_ARound; omega)], ⟨⟩⟩
  · try simp only [nb] at hb0
    obtain ⟨e0, e0'⟩ := szr_pos hb0
    rw [e0]
    refine W.skip ?_
    refine W.seq ?_
    refine W.reg X [] [] [4] [] rfl ⟨⟩ ?_
    refine W.ret ?_
    exact Fin.ret rfl ⟨by rw [szr_ge (by unfold size_ARound; omega)]; first | done | (congr 1; done) | (congr 1; unfold size_ARound; omega), ⟨⟩⟩
theorem c_szArchivedRoundS (l : (List ARound)) (left : Int) (h0 : 0 ≤ left) (h1 : left ≤ 1048576) : Sound ty Tryz.prog 56 [.a (.sl .ARound l), .a (.lit (.int .i64 left))] [.a (.lit (.int .i64 (szr left ((lsz size_ARound) l))))] := by
  refine Sound.of X Tryz.call56 Tryz.func56 rfl rfl (by decide) Tryz.ntmps56 (by simp) ?_
  intro zb
  refine W.bound 0 rfl fun hl => ?_
  refine W.seq ?_
  refine W.reg X [] [] [0, 1] [] rfl ⟨⟩ ?_
  refine W.seq ?_
  refine W.reg X [] [] [0, 1] [] rfl ⟨⟩ ?_
  rw [IntWalk.i64_in (left - (l.length : Nat)) (by omega)]
  refine W.seq ?_
  refine W.seq ?_
  refine W.reg X [] [] [0, 1, 11] [] rfl ⟨⟩ ?_
  refine W.cond rfl (fun hb0 => ?_) (fun hb0 => ?_)
  · try simp only [nb] at hb0
    refine W.seq ?_
    refine W.reg X [] [] [4] [] rfl ⟨⟩ ?_
    refine W.ret ?_
    exact Fin.ret rfl ⟨by rw [szr_lt (by unfold lsz; omega)], ⟨⟩⟩
  · try simp only [nb] at hb0
    refine W.skip ?_
    refine W.seq ?_
    refine W.seq ?_
    refine W.reg X [] [] [0, 1, 5] [] rfl ⟨⟩ ?_
    refine W.block ?_
    refine W.loopO (fun k => k ≤ l.length ∧ (l.length : Int) + (((l.take k).map size_ARound).sum : Nat) ≤ left) (fun k : Nat => [(1, .one (.a (.lit (.int .i64 (left - (l.length : Nat) - (((l.take k).map size_ARound).sum : Nat)))))), (5, .one (.a (.lit (.int .i64 k))))]) (fun k => []) (fun k => l.length - k) 0 (fun k => rfl) ⟨Nat.zero_le _, by simp; omega⟩ (by simp) ?_
    rintro k ⟨hk, hs⟩
    refine W.seq ?_
    refine W.seq ?_
    refine W.reg X [] [] [0, 1, 5, 15] [] rfl ⟨⟩ ?_
    refine W.cond rfl (fun hb1 => ?_) (fun hb1 => ?_)
    · try simp only [nb] at hb1
      have hsum := sum_step size_ARound l (dfl .ARound) k hb1
      have hle := take_sum_le l size_ARound (k + 1)
      refine W.skip ?_
      refine W.seq ?_
      refine W.block ?_
      refine W.seq ?_
      refine W.reg X [] [(23, ⟨false, [.a (.lit (.int .i64 (szr (left - (l.length : Nat) - (((l.take k).map size_ARound).sum : Nat)) (size_ARound (l.getD k (dfl .ARound))))))]⟩)] [0, 1, 5] [] rfl ⟨c_szArchivedRound (l.getD k (dfl .ARound)) _ (by omega) (by omega), by omega, ⟨⟩⟩ ?_
      refine W.seq ?_
      refine W.reg X [] [] [0, 1, 5, 25] [] rfl ⟨⟩ ?_
      refine W.cond rfl (fun hb2 => ?_) (fun hb2 => ?_)
      · try simp only [nb] at hb2
        have hn := szr_neg (by omega) hb2
        refine W.seq ?_
        refine W.reg X [] [] [4] [] rfl ⟨⟩ ?_
        refine W.ret ?_
        exact Fin.ret rfl ⟨by rw [szr_lt (by unfold lsz; omega)], ⟨⟩⟩
      · try simp only [nb] at hb2
        obtain ⟨e2, e3⟩ := szr_pos hb2
        rw [e2]
        refine W.skip ?_
        refine W.reg X [] [] [0, 1, 5] [] rfl ⟨⟩ ?_
        refine ⟨k + 1, ⟨by omega, by omega⟩, by omega, ?_⟩
        rw [wadd _ k rfl (by omega), show left - (l.length : Nat) - (((l.take k).map size_ARound).sum : Nat) - (size_ARound (l.getD k (dfl .ARound)) : Nat) = left - (l.length : Nat) - (((l.take (k + 1)).map size_ARound).sum : Nat) by omega]
    · try simp only [nb] at hb1
      refine W.exit ?_
      refine W.seq ?_
      refine W.reg X [] [] [4] [] rfl ⟨⟩ ?_
      refine W.ret ?_
      have hf : l.take k = l := List.take_of_length_le (by omega)
      rw [hf] at hs
      exact Fin.ret rfl ⟨by rw [hf, szr_ge (by unfold lsz; omega)]; congr 1; unfold lsz; omega, ⟨⟩⟩
theorem c_szArchive (x : Arc) (left : Int) (h0 : 0 ≤ left) (h1 : left ≤ 1048576) : Sound ty Tryz.prog 24 [.agg (dec_Arc x), .a (.lit (.int .i64 left))] [.a (.lit (.int .i64 (szr left (size_Arc x))))] := by
  refine Sound.of X Tryz.call24 Tryz.func24 rfl rfl (by decide) Tryz.ntmps24 (by simp) ?_
  intro zb
  refine W.seq ?_
  refine W.reg X [] [] [1, 2] [] rfl ⟨⟩ ?_
  refine W.seq ?_
  refine W.reg X [] [(8, ⟨false, [.a (.lit (.int .i64 (szr (left) ((lsz size_ARound) x.rounds))))]⟩)] [1] [] rfl ⟨c_szArchivedRoundS x.rounds (left) (by omega) (by omega), ⟨⟩⟩ ?_
  refine W.seq ?_
  refine W.seq ?_
  refine W.reg X [] [] [1, 10] [] rfl ⟨⟩ ?_
  refine W.cond rfl (fun hb0 => ?_) (fun hb0 => ?_)
  · try simp only [nb] at hb0
    refine W.seq ?_
    refine W.reg X [] [] [4] [] rfl ⟨⟩ ?_
    refine W.ret ?_
    exact Fin.ret rfl ⟨by rw [szr_lt (by have := szr_neg (by omega) hb0; unfold size_Arc; omega)], ⟨⟩⟩
  · try simp only [nb] at hb0
    obtain ⟨e0, e0'⟩ := szr_pos hb0
    rw [e0]
    refine W.skip ?_
    refine W.seq ?_
    refine W.reg X [] [] [4] [] rfl ⟨⟩ ?_
    refine W.ret ?_
    exact Fin.ret rfl ⟨by rw [szr_ge (by unfold size_Arc; omega)]; first | done | (congr 1; done) | (congr 1; unfold size_Arc; omega), ⟨⟩⟩
theorem c_szClient (x : Cli) (left : Int) (h0 : 0 ≤ left) (h1 : left ≤ 1048576) : Sound ty Tryz.prog 110 [.agg (dec_Cli x), .a (.lit (.int .i64 left))] [.a (.lit (.int .i64 (szr left (size_Cli x))))] := by
  refine Sound.of X Tryz.call110 Tryz.func110 rfl rfl (by decide) Tryz.ntmps110 (by simp) ?_
  intro zb
  refine W.seq ?_
  refine W.reg X [] [] [1, 2] [] rfl ⟨⟩ ?_
  refine W.seq ?_
  refine W.reg X [] [(8, ⟨false, [.a (.lit (.int .i64 (szr (left) ((lsz List.length) x.submitted))))]⟩)] [1, 2] [] rfl ⟨c_szByteSS x.submitted (left) (by omega) (by omega), ⟨⟩⟩ ?_
  refine W.seq ?_
  refine W.seq ?_
  refine W.reg X [] [] [1, 2, 10] [] rfl ⟨⟩ ?_
  refine W.cond rfl (fun hb0 => ?_) (fun hb0 => ?_)
  · try simp only [nb] at hb0
    refine W.seq ?_
    refine W.reg X [] [] [4] [] rfl ⟨⟩ ?_
    refine W.ret ?_
    exact Fin.ret rfl ⟨by rw [szr_lt (by have := szr_neg (by omega) hb0; unfold size_Cli; omega)], ⟨⟩⟩
  · try simp only [nb] at hb0
    obtain ⟨e0, e0'⟩ := szr_pos hb0
    rw [e0]
    refine W.skip ?_
    refine W.seq ?_
    refine W.reg X [] [(14, ⟨false, [.a (.lit (.int .i64 (szr (left - (((lsz List.length) x.submitted) : Nat)) ((lsz List.length) x.inbox))))]⟩)] [1] [] rfl ⟨c_szByteSS x.inbox (left - (((lsz List.length) x.submitted) : Nat)) (by omega) (by omega), ⟨⟩⟩ ?_
    refine W.seq ?_
    refine W.seq ?_
    refine W.reg X [] [] [1, 16] [] rfl ⟨⟩ ?_
    refine W.cond rfl (fun hb1 => ?_) (fun hb1 => ?_)
    · try simp only [nb] at hb1
      refine W.seq ?_
      refine W.reg X [] [] [4] [] rfl ⟨⟩ ?_
      refine W.ret ?_
      exact Fin.ret rfl ⟨by rw [szr_lt (by have := szr_neg (by omega) hb1; unfold size_Cli; omega)], ⟨⟩⟩
    · try simp only [nb] at hb1
      obtain ⟨e1, e1'⟩ := szr_pos hb1
      rw [e1]
      refine W.skip ?_
      refine W.seq ?_
      refine W.reg X [] [] [4] [] rfl ⟨⟩ ?_
      refine W.ret ?_
      exact Fin.ret rfl ⟨by rw [szr_ge (by unfold size_Cli; omega)]; first | done | (congr 1; done) | (congr 1; unfold size_Cli; omega), ⟨⟩⟩
theorem c_szDevice (x : Dev) (left : Int) (h0 : 0 ≤ left) (h1 : left ≤ 1048576) : Sound ty Tryz.prog 55 [.agg (dec_Dev x), .a (.lit (.int .i64 left))] [.a (.lit (.int .i64 (szr left (size_Dev x))))] := by
  refine Sound.of X Tryz.call55 Tryz.func55 rfl rfl (by decide) Tryz.ntmps55 (by simp) ?_
  intro zb
  refine W.seq ?_
  refine W.reg X [] [] [1, 2] [] rfl ⟨⟩ ?_
  refine W.seq ?_
  refine W.reg X [] [(8, ⟨false, [.a (.lit (.int .i64 (szr (left) (size_Cli x.live))))]⟩)] [1, 2] [] rfl ⟨c_szClient x.live (left) (by omega) (by omega), ⟨⟩⟩ ?_
  refine W.seq ?_
  refine W.seq ?_
  refine W.reg X [] [] [1, 2, 10] [] rfl ⟨⟩ ?_
  refine W.cond rfl (fun hb0 => ?_) (fun hb0 => ?_)
  · try simp only [nb] at hb0
    refine W.seq ?_
    refine W.reg X [] [] [4] [] rfl ⟨⟩ ?_
    refine W.ret ?_
    exact Fin.ret rfl ⟨by rw [szr_lt (by have := szr_neg (by omega) hb0; unfold size_Dev; omega)], ⟨⟩⟩
  · try simp only [nb] at hb0
    obtain ⟨e0, e0'⟩ := szr_pos hb0
    rw [e0]
    refine W.skip ?_
    refine W.seq ?_
    refine W.reg X [] [(14, ⟨false, [.a (.lit (.int .i64 (szr (left - ((size_Cli x.live) : Nat)) (size_Cli x.saved))))]⟩)] [1] [] rfl ⟨c_szClient x.saved (left - ((size_Cli x.live) : Nat)) (by omega) (by omega), ⟨⟩⟩ ?_
    refine W.seq ?_
    refine W.seq ?_
    refine W.reg X [] [] [1, 16] [] rfl ⟨⟩ ?_
    refine W.cond rfl (fun hb1 => ?_) (fun hb1 => ?_)
    · try simp only [nb] at hb1
      refine W.seq ?_
      refine W.reg X [] [] [4] [] rfl ⟨⟩ ?_
      refine W.ret ?_
      exact Fin.ret rfl ⟨by rw [szr_lt (by have := szr_neg (by omega) hb1; unfold size_Dev; omega)], ⟨⟩⟩
    · try simp only [nb] at hb1
      obtain ⟨e1, e1'⟩ := szr_pos hb1
      rw [e1]
      refine W.skip ?_
      refine W.seq ?_
      refine W.reg X [] [] [4] [] rfl ⟨⟩ ?_
      refine W.ret ?_
      exact Fin.ret rfl ⟨by rw [szr_ge (by unfold size_Dev; omega)]; first | done | (congr 1; done) | (congr 1; unfold size_Dev; omega), ⟨⟩⟩
theorem c_szDeviceS (l : (List Dev)) (left : Int) (h0 : 0 ≤ left) (h1 : left ≤ 1048576) : Sound ty Tryz.prog 23 [.a (.sl .Dev l), .a (.lit (.int .i64 left))] [.a (.lit (.int .i64 (szr left ((lsz size_Dev) l))))] := by
  refine Sound.of X Tryz.call23 Tryz.func23 rfl rfl (by decide) Tryz.ntmps23 (by simp) ?_
  intro zb
  refine W.bound 0 rfl fun hl => ?_
  refine W.seq ?_
  refine W.reg X [] [] [0, 1] [] rfl ⟨⟩ ?_
  refine W.seq ?_
  refine W.reg X [] [] [0, 1] [] rfl ⟨⟩ ?_
  rw [IntWalk.i64_in (left - (l.length : Nat)) (by omega)]
  refine W.seq ?_
  refine W.seq ?_
  refine W.reg X [] [] [0, 1, 11] [] rfl ⟨⟩ ?_
  refine W.cond rfl (fun hb0 => ?_) (fun hb0 => ?_)
  · try simp only [nb] at hb0
    refine W.seq ?_
    refine W.reg X [] [] [4] [] rfl ⟨⟩ ?_
    refine W.ret ?_
    exact Fin.ret rfl ⟨by rw [szr_lt (by unfold lsz; omega)], ⟨⟩⟩
  · try simp only [nb] at hb0
    refine W.skip ?_
    refine W.seq ?_
    refine W.seq ?_
    refine W.reg X [] [] [0, 1, 5] [] rfl ⟨⟩ ?_
    refine W.block ?_
    refine W.loopO (fun k => k ≤ l.length ∧ (l.length : Int) + (((l.take k).map size_Dev).sum : Nat) ≤ left) (fun k : Nat => [(1, .one (.a (.lit (.int .i64 (left - (l.length : Nat) - (((l.take k).map size_Dev).sum : Nat)))))), (5, .one (.a (.lit (.int .i64 k))))]) (fun k => []) (fun k => l.length - k) 0 (fun k => rfl) ⟨Nat.zero_le _, by simp; omega⟩ (by simp) ?_
    rintro k ⟨hk, hs⟩
    refine W.seq ?_
    refine W.seq ?_
    refine W.reg X [] [] [0, 1, 5, 15] [] rfl ⟨⟩ ?_
    refine W.cond rfl (fun hb1 => ?_) (fun hb1 => ?_)
    · try simp only [nb] at hb1
      have hsum := sum_step size_Dev l (dfl .Dev) k hb1
      have hle := take_sum_le l size_Dev (k + 1)
      refine W.skip ?_
      refine W.seq ?_
      refine W.block ?_
      refine W.seq ?_
      refine W.reg X [] [(23, ⟨false, [.a (.lit (.int .i64 (szr (left - (l.length : Nat) - (((l.take k).map size_Dev).sum : Nat)) (size_Dev (l.getD k (dfl .Dev))))))]⟩)] [0, 1, 5] [] rfl ⟨c_szDevice (l.getD k (dfl .Dev)) _ (by omega) (by omega), by omega, ⟨⟩⟩ ?_
      refine W.seq ?_
      refine W.reg X [] [] [0, 1, 5, 25] [] rfl ⟨⟩ ?_
      refine W.cond rfl (fun hb2 => ?_) (fun hb2 => ?_)
      · try simp only [nb] at hb2
        have hn := szr_neg (by omega) hb2
        refine W.seq ?_
        refine W.reg X [] [] [4] [] rfl ⟨⟩ ?_
        refine W.ret ?_
        exact Fin.ret rfl ⟨by rw [szr_lt (by unfold lsz; omega)], ⟨⟩⟩
      · try simp only [nb] at hb2
        obtain ⟨e2, e3⟩ := szr_pos hb2
        rw [e2]
        refine W.skip ?_
        refine W.reg X [] [] [0, 1, 5] [] rfl ⟨⟩ ?_
        refine ⟨k + 1, ⟨by omega, by omega⟩, by omega, ?_⟩
        rw [wadd _ k rfl (by omega), show left - (l.length : Nat) - (((l.take k).map size_Dev).sum : Nat) - (size_Dev (l.getD k (dfl .Dev)) : Nat) = left - (l.length : Nat) - (((l.take (k + 1)).map size_Dev).sum : Nat) by omega]
    · try simp only [nb] at hb1
      refine W.exit ?_
      refine W.seq ?_
      refine W.reg X [] [] [4] [] rfl ⟨⟩ ?_
      refine W.ret ?_
      have hf : l.take k = l := List.take_of_length_le (by omega)
      rw [hf] at hs
      exact Fin.ret rfl ⟨by rw [hf, szr_ge (by unfold lsz; omega)]; congr 1; unfold lsz; omega, ⟨⟩⟩
theorem c_szIntS (l : (List Int)) (left : Int) (h0 : 0 ≤ left) (h1 : left ≤ 1048576) : Sound ty Tryz.prog 25 [.a (.sl .int l), .a (.lit (.int .i64 left))] [.a (.lit (.int .i64 (szr left (List.length l))))] := by
  refine Sound.of X Tryz.call25 Tryz.func25 rfl rfl (by decide) Tryz.ntmps25 (by simp) ?_
  intro zb
  refine W.bound 0 rfl fun hl => ?_
  refine W.seq ?_
  refine W.reg X [] [] [0, 1] [] rfl ⟨⟩ ?_
  refine W.seq ?_
  refine W.reg X [] [] [1] [] rfl ⟨⟩ ?_
  rw [IntWalk.i64_in (left - (l.length : Nat)) (by omega)]
  refine W.seq ?_
  refine W.seq ?_
  refine W.reg X [] [] [1, 10] [] rfl ⟨⟩ ?_
  refine W.cond rfl (fun hb0 => ?_) (fun hb0 => ?_)
  · try simp only [nb] at hb0
    refine W.seq ?_
    refine W.reg X [] [] [4] [] rfl ⟨⟩ ?_
    refine W.ret ?_
    exact Fin.ret rfl ⟨by rw [szr_lt (by omega)], ⟨⟩⟩
  · try simp only [nb] at hb0
    refine W.skip ?_
    refine W.seq ?_
    refine W.reg X [] [] [4] [] rfl ⟨⟩ ?_
    refine W.ret ?_
    exact Fin.ret rfl ⟨by rw [szr_ge (by omega)], ⟨⟩⟩
theorem c_szReceivedShare (x : RShare) (left : Int) (h0 : 0 ≤ left) (h1 : left ≤ 1048576) : Sound ty Tryz.prog 167 [.agg (dec_RShare x), .a (.lit (.int .i64 left))] [.a (.lit (.int .i64 (szr left (size_RShare x))))] := by
  refine Sound.of X Tryz.call167 Tryz.func167 rfl rfl (by decide) Tryz.ntmps167 (by simp) ?_
  intro zb
  refine W.seq ?_
  refine W.reg X [] [] [1, 2] [] rfl ⟨⟩ ?_
  refine W.seq ?_
  refine W.reg X [] [(8, ⟨false, [.a (.lit (.int .i64 (szr (left) (size_DB x.share))))]⟩)] [1] [] rfl ⟨c_szDatabase x.share (left) (by omega) (by omega), ⟨⟩⟩ ?_
  refine W.seq ?_
  refine W.seq ?_
  refine W.reg X [] [] [1, 10] [] rfl ⟨⟩ ?_
  refine W.cond rfl (fun hb0 => ?_) (fun hb0 => ?_)
  · try simp only [nb] at hb0
    refine W.seq ?_
    refine W.reg X [] [] [4] [] rfl ⟨⟩ ?_
    refine W.ret ?_
    exact Fin.ret rfl ⟨by rw [szr_lt (by have := szr_neg (by omega) hb0; unfold size_RShare; omega)], ⟨⟩⟩
  · try simp only [nb] at hb0
    obtain ⟨e0, e0'⟩ := szr_pos hb0
    rw [e0]
    refine W.skip ?_
    refine W.seq ?_
    refine W.reg X [] [] [4] [] rfl ⟨⟩ ?_
    refine W.ret ?_
    exact Fin.ret rfl ⟨by rw [szr_ge (by unfold size_RShare; omega)]; first | done | (congr 1; done) | (congr 1; unfold size_RShare; omega), ⟨⟩⟩
theorem c_szReceivedShareS (l : (List RShare)) (left : Int) (h0 : 0 ≤ left) (h1 : left ≤ 1048576) : Sound ty Tryz.prog 109 [.a (.sl .RShare l), .a (.lit (.int .i64 left))] [.a (.lit (.int .i64 (szr left ((lsz size_RShare) l))))] := by
  refine Sound.of X Tryz.call109 Tryz.func109 rfl rfl (by decide) Tryz.ntmps109 (by simp) ?_
  intro zb
  refine W.bound 0 rfl fun hl => ?_
  refine W.seq ?_
  refine W.reg X [] [] [0, 1] [] rfl ⟨⟩ ?_
  refine W.seq ?_
  refine W.reg X [] [] [0, 1] [] rfl ⟨⟩ ?_
  rw [IntWalk.i64_in (left - (l.length : Nat)) (by omega)]
  refine W.seq ?_
  refine W.seq ?_
  refine W.reg X [] [] [0, 1, 11] [] rfl ⟨⟩ ?_
  refine W.cond rfl (fun hb0 => ?_) (fun hb0 => ?_)
  · try simp only [nb] at hb0
    refine W.seq ?_
    refine W.reg X [] [] [4] [] rfl ⟨⟩ ?_
    refine W.ret ?_
    exact Fin.ret rfl ⟨by rw [szr_lt (by unfold lsz; omega)], ⟨⟩⟩
  · try simp only [nb] at hb0
    refine W.skip ?_
    refine W.seq ?_
    refine W.seq ?_
    refine W.reg X [] [] [0, 1, 5] [] rfl ⟨⟩ ?_
    refine W.block ?_
    refine W.loopO (fun k => k ≤ l.length ∧ (l.length : Int) + (((l.take k).map size_RShare).sum : Nat) ≤ left) (fun k : Nat => [(1, .one (.a (.lit (.int .i64 (left - (l.length : Nat) - (((l.take k).map size_RShare).sum : Nat)))))), (5, .one (.a (.lit (.int .i64 k))))]) (fun k => []) (fun k => l.length - k) 0 (fun k => rfl) ⟨Nat.zero_le _, by simp; omega⟩ (by simp) ?_
    rintro k ⟨hk, hs⟩
    refine W.seq ?_
    refine W.seq ?_
    refine W.reg X [] [] [0, 1, 5, 15] [] rfl ⟨⟩ ?_
    refine W.cond rfl (fun hb1 => ?_) (fun hb1 => ?_)
    · try simp only [nb] at hb1
      have hsum := sum_step size_RShare l (dfl .RShare) k hb1
      have hle := take_sum_le l size_RShare (k + 1)
      refine W.skip ?_
      refine W.seq ?_
      refine W.block ?_
      refine W.seq ?_
      refine W.reg X [] [(23, ⟨false, [.a (.lit (.int .i64 (szr (left - (l.length : Nat) - (((l.take k).map size_RShare).sum : Nat)) (size_RShare (l.getD k (dfl .RShare))))))]⟩)] [0, 1, 5] [] rfl ⟨c_szReceivedShare (l.getD k (dfl .RShare)) _ (by omega) (by omega), by omega, ⟨⟩⟩ ?_
      refine W.seq ?_
      refine W.reg X [] [] [0, 1, 5, 25] [] rfl ⟨⟩ ?_
      refine W.cond rfl (fun hb2 => ?_) (fun hb2 => ?_)
      · try simp only [nb] at hb2
        have hn := szr_neg (by omega) hb2
        refine W.seq ?_
        refine W.reg X [] [] [4] [] rfl ⟨⟩ ?_
        refine W.ret ?_
        exact Fin.ret rfl ⟨by rw [szr_lt (by unfold lsz; omega)], ⟨⟩⟩
      · try simp only [nb] at hb2
        obtain ⟨e2, e3⟩ := szr_pos hb2
        rw [e2]
        refine W.skip ?_
        refine W.reg X [] [] [0, 1, 5] [] rfl ⟨⟩ ?_
        refine ⟨k + 1, ⟨by omega, by omega⟩, by omega, ?_⟩
        rw [wadd _ k rfl (by omega), show left - (l.length : Nat) - (((l.take k).map size_RShare).sum : Nat) - (size_RShare (l.getD k (dfl .RShare)) : Nat) = left - (l.length : Nat) - (((l.take (k + 1)).map size_RShare).sum : Nat) by omega]
    · try simp only [nb] at hb1
      refine W.exit ?_
      refine W.seq ?_
      refine W.reg X [] [] [4] [] rfl ⟨⟩ ?_
      refine W.ret ?_
      have hf : l.take k = l := List.take_of_length_le (by omega)
      rw [hf] at hs
      exact Fin.ret rfl ⟨by rw [hf, szr_ge (by unfold lsz; omega)]; congr 1; unfold lsz; omega, ⟨⟩⟩
theorem c_szServer (x : Srv) (left : Int) (h0 : 0 ≤ left) (h1 : left ≤ 1048576) : Sound ty Tryz.prog 54 [.agg (dec_Srv x), .a (.lit (.int .i64 left))] [.a (.lit (.int .i64 (szr left (size_Srv x))))] := by
  refine Sound.of X Tryz.call54 Tryz.func54 rfl rfl (by decide) Tryz.ntmps54 (by simp) ?_
  intro zb
  refine W.seq ?_
  refine W.reg X [] [] [1, 2] [] rfl ⟨⟩ ?_
  refine W.seq ?_
  refine W.reg X [] [(8, ⟨false, [.a (.lit (.int .i64 (szr (left) ((lsz size_RShare) x.received))))]⟩)] [1] [] rfl ⟨c_szReceivedShareS x.received (left) (by omega) (by omega), ⟨⟩⟩ ?_
  refine W.seq ?_
  refine W.seq ?_
  refine W.reg X [] [] [1, 10] [] rfl ⟨⟩ ?_
  refine W.cond rfl (fun hb0 => ?_) (fun hb0 => ?_)
  · try simp only [nb] at hb0
    refine W.seq ?_
    refine W.reg X [] [] [4] [] rfl ⟨⟩ ?_
    refine W.ret ?_
    exact Fin.ret rfl ⟨by rw [szr_lt (by have := szr_neg (by omega) hb0; unfold size_Srv; omega)], ⟨⟩⟩
  · try simp only [nb] at hb0
    obtain ⟨e0, e0'⟩ := szr_pos hb0
    rw [e0]
    refine W.skip ?_
    refine W.seq ?_
    refine W.reg X [] [] [4] [] rfl ⟨⟩ ?_
    refine W.ret ?_
    exact Fin.ret rfl ⟨by rw [szr_ge (by unfold size_Srv; omega)]; first | done | (congr 1; done) | (congr 1; unfold size_Srv; omega), ⟨⟩⟩
theorem c_szServerS (l : (List Srv)) (left : Int) (h0 : 0 ≤ left) (h1 : left ≤ 1048576) : Sound ty Tryz.prog 22 [.a (.sl .Srv l), .a (.lit (.int .i64 left))] [.a (.lit (.int .i64 (szr left ((lsz size_Srv) l))))] := by
  refine Sound.of X Tryz.call22 Tryz.func22 rfl rfl (by decide) Tryz.ntmps22 (by simp) ?_
  intro zb
  refine W.bound 0 rfl fun hl => ?_
  refine W.seq ?_
  refine W.reg X [] [] [0, 1] [] rfl ⟨⟩ ?_
  refine W.seq ?_
  refine W.reg X [] [] [0, 1] [] rfl ⟨⟩ ?_
  rw [IntWalk.i64_in (left - (l.length : Nat)) (by omega)]
  refine W.seq ?_
  refine W.seq ?_
  refine W.reg X [] [] [0, 1, 11] [] rfl ⟨⟩ ?_
  refine W.cond rfl (fun hb0 => ?_) (fun hb0 => ?_)
  · try simp only [nb] at hb0
    refine W.seq ?_
    refine W.reg X [] [] [4] [] rfl ⟨⟩ ?_
    refine W.ret ?_
    exact Fin.ret rfl ⟨by rw [szr_lt (by unfold lsz; omega)], ⟨⟩⟩
  · try simp only [nb] at hb0
    refine W.skip ?_
    refine W.seq ?_
    refine W.seq ?_
    refine W.reg X [] [] [0, 1, 5] [] rfl ⟨⟩ ?_
    refine W.block ?_
    refine W.loopO (fun k => k ≤ l.length ∧ (l.length : Int) + (((l.take k).map size_Srv).sum : Nat) ≤ left) (fun k : Nat => [(1, .one (.a (.lit (.int .i64 (left - (l.length : Nat) - (((l.take k).map size_Srv).sum : Nat)))))), (5, .one (.a (.lit (.int .i64 k))))]) (fun k => []) (fun k => l.length - k) 0 (fun k => rfl) ⟨Nat.zero_le _, by simp; omega⟩ (by simp) ?_
    rintro k ⟨hk, hs⟩
    refine W.seq ?_
    refine W.seq ?_
    refine W.reg X [] [] [0, 1, 5, 15] [] rfl ⟨⟩ ?_
    refine W.cond rfl (fun hb1 => ?_) (fun hb1 => ?_)
    · try simp only [nb] at hb1
      have hsum := sum_step size_Srv l (dfl .Srv) k hb1
      have hle := take_sum_le l size_Srv (k + 1)
      refine W.skip ?_
      refine W.seq ?_
      refine W.block ?_
      refine W.seq ?_
      refine W.reg X [] [(23, ⟨false, [.a (.lit (.int .i64 (szr (left - (l.length : Nat) - (((l.take k).map size_Srv).sum : Nat)) (size_Srv (l.getD k (dfl .Srv))))))]⟩)] [0, 1, 5] [] rfl ⟨c_szServer (l.getD k (dfl .Srv)) _ (by omega) (by omega), by omega, ⟨⟩⟩ ?_
      refine W.seq ?_
      refine W.reg X [] [] [0, 1, 5, 25] [] rfl ⟨⟩ ?_
      refine W.cond rfl (fun hb2 => ?_) (fun hb2 => ?_)
      · try simp only [nb] at hb2
        have hn := szr_neg (by omega) hb2
        refine W.seq ?_
        refine W.reg X [] [] [4] [] rfl ⟨⟩ ?_
        refine W.ret ?_
        exact Fin.ret rfl ⟨by rw [szr_lt (by unfold lsz; omega)], ⟨⟩⟩
      · try simp only [nb] at hb2
        obtain ⟨e2, e3⟩ := szr_pos hb2
        rw [e2]
        refine W.skip ?_
        refine W.reg X [] [] [0, 1, 5] [] rfl ⟨⟩ ?_
        refine ⟨k + 1, ⟨by omega, by omega⟩, by omega, ?_⟩
        rw [wadd _ k rfl (by omega), show left - (l.length : Nat) - (((l.take k).map size_Srv).sum : Nat) - (size_Srv (l.getD k (dfl .Srv)) : Nat) = left - (l.length : Nat) - (((l.take (k + 1)).map size_Srv).sum : Nat) by omega]
    · try simp only [nb] at hb1
      refine W.exit ?_
      refine W.seq ?_
      refine W.reg X [] [] [4] [] rfl ⟨⟩ ?_
      refine W.ret ?_
      have hf : l.take k = l := List.take_of_length_le (by omega)
      rw [hf] at hs
      exact Fin.ret rfl ⟨by rw [hf, szr_ge (by unfold lsz; omega)]; congr 1; unfold lsz; omega, ⟨⟩⟩
theorem c_szWorld (x : Wld) (left : Int) (h0 : 0 ≤ left) (h1 : left ≤ 1048576) : Sound ty Tryz.prog 5 [.agg (dec_Wld x), .a (.lit (.int .i64 left))] [.a (.lit (.int .i64 (szr left (size_Wld x))))] := by
  refine Sound.of X Tryz.call5 Tryz.func5 rfl rfl (by decide) Tryz.ntmps5 (by simp) ?_
  intro zb
  refine W.seq ?_
  refine W.reg X [] [] [1, 2] [] rfl ⟨⟩ ?_
  refine W.seq ?_
  refine W.reg X [] [(8, ⟨false, [.a (.lit (.int .i64 (szr (left) ((lsz size_Srv) x.servers))))]⟩)] [1, 2] [] rfl ⟨c_szServerS x.servers (left) (by omega) (by omega), ⟨⟩⟩ ?_
  refine W.seq ?_
  refine W.seq ?_
  refine W.reg X [] [] [1, 2, 10] [] rfl ⟨⟩ ?_
  refine W.cond rfl (fun hb0 => ?_) (fun hb0 => ?_)
  · try simp only [nb] at hb0
    refine W.seq ?_
    refine W.reg X [] [] [4] [] rfl ⟨⟩ ?_
    refine W.ret ?_
    exact Fin.ret rfl ⟨by rw [szr_lt (by have := szr_neg (by omega) hb0; unfold size_Wld; omega)], ⟨⟩⟩
  · try simp only [nb] at hb0
    obtain ⟨e0, e0'⟩ := szr_pos hb0
    rw [e0]
    refine W.skip ?_
    refine W.seq ?_
    refine W.reg X [] [(14, ⟨false, [.a (.lit (.int .i64 (szr (left - (((lsz size_Srv) x.servers) : Nat)) ((lsz size_Dev) x.devices))))]⟩)] [1, 2] [] rfl ⟨c_szDeviceS x.devices (left - (((lsz size_Srv) x.servers) : Nat)) (by omega) (by omega), ⟨⟩⟩ ?_
    refine W.seq ?_
    refine W.seq ?_
    refine W.reg X [] [] [1, 2, 16] [] rfl ⟨⟩ ?_
    refine W.cond rfl (fun hb1 => ?_) (fun hb1 => ?_)
    · try simp only [nb] at hb1
      refine W.seq ?_
      refine W.reg X [] [] [4] [] rfl ⟨⟩ ?_
      refine W.ret ?_
      exact Fin.ret rfl ⟨by rw [szr_lt (by have := szr_neg (by omega) hb1; unfold size_Wld; omega)], ⟨⟩⟩
    · try simp only [nb] at hb1
      obtain ⟨e1, e1'⟩ := szr_pos hb1
      rw [e1]
      refine W.skip ?_
      refine W.seq ?_
      refine W.reg X [] [(20, ⟨false, [.a (.lit (.int .i64 (szr (left - (((lsz size_Srv) x.servers) : Nat) - (((lsz size_Dev) x.devices) : Nat)) (size_Arc x.archive))))]⟩)] [1, 2] [] rfl ⟨c_szArchive x.archive (left - (((lsz size_Srv) x.servers) : Nat) - (((lsz size_Dev) x.devices) : Nat)) (by omega) (by omega), ⟨⟩⟩ ?_
      refine W.seq ?_
      refine W.seq ?_
      refine W.reg X [] [] [1, 2, 22] [] rfl ⟨⟩ ?_
      refine W.cond rfl (fun hb2 => ?_) (fun hb2 => ?_)
      · try simp only [nb] at hb2
        refine W.seq ?_
        refine W.reg X [] [] [4] [] rfl ⟨⟩ ?_
        refine W.ret ?_
        exact Fin.ret rfl ⟨by rw [szr_lt (by have := szr_neg (by omega) hb2; unfold size_Wld; omega)], ⟨⟩⟩
      · try simp only [nb] at hb2
        obtain ⟨e2, e2'⟩ := szr_pos hb2
        rw [e2]
        refine W.skip ?_
        refine W.seq ?_
        refine W.reg X [] [(26, ⟨false, [.a (.lit (.int .i64 (szr (left - (((lsz size_Srv) x.servers) : Nat) - (((lsz size_Dev) x.devices) : Nat) - ((size_Arc x.archive) : Nat)) (List.length x.replaced))))]⟩)] [1] [] rfl ⟨c_szIntS x.replaced (left - (((lsz size_Srv) x.servers) : Nat) - (((lsz size_Dev) x.devices) : Nat) - ((size_Arc x.archive) : Nat)) (by omega) (by omega), ⟨⟩⟩ ?_
        refine W.seq ?_
        refine W.seq ?_
        refine W.reg X [] [] [1, 28] [] rfl ⟨⟩ ?_
        refine W.cond rfl (fun hb3 => ?_) (fun hb3 => ?_)
        · try simp only [nb] at hb3
          refine W.seq ?_
          refine W.reg X [] [] [4] [] rfl ⟨⟩ ?_
          refine W.ret ?_
          exact Fin.ret rfl ⟨by rw [szr_lt (by have := szr_neg (by omega) hb3; unfold size_Wld; omega)], ⟨⟩⟩
        · try simp only [nb] at hb3
          obtain ⟨e3, e3'⟩ := szr_pos hb3
          rw [e3]
          refine W.skip ?_
          refine W.seq ?_
          refine W.reg X [] [] [4] [] rfl ⟨⟩ ?_
          refine W.ret ?_
          exact Fin.ret rfl ⟨by rw [szr_ge (by unfold size_Wld; omega)]; first | done | (congr 1; done) | (congr 1; unfold size_Wld; omega), ⟨⟩⟩
end Go.Proofs.YthjedjndamejmaaGreat.G
namespace Go.Proofs.YthjedjndamejmaaGreat.G
set_option linter.all false
open Go.RowKit L D
set_option maxRecDepth 100000
theorem c_toByteS (l : (List UInt8)) (hx : (List.length l) ≤ 1048576) : Sound ty Tryz.prog 205 [.a (.sl .u8 l)] [.a (.sl .u8 l)] := by
  refine Sound.of X Tryz.call205 Tryz.func205 rfl rfl (by decide) Tryz.ntmps205 (by simp) ?_
  intro zb
  have hl : l.length ≤ 1048576 := hx
  refine W.seq ?_
  refine W.reg X [] [] [0] [] rfl ⟨⟩ ?_
  refine W.seq ?_
  refine W.reg X [] [] [0, 3] [] rfl (by (repeat' (first | exact True.intro | apply And.intro)) <;> first | (intros; omega) | exact rfl | (simp only [byt, maxLen, lens]; omega)) ?_
  refine W.seq ?_
  refine W.seq ?_
  refine W.reg X [] [] [0, 3, 4] [] rfl ⟨⟩ ?_
  refine W.block ?_
  refine W.loopO (fun k => k ≤ l.length) (fun k : Nat => [(4, .one (.a (.lit (.int .i64 k))))]) (fun k => [(7, .arr .u8 (l.take k ++ List.replicate (l.length - k) (dfl .u8)))]) (fun k => l.length - k) 0 (fun k => rfl) (Nat.zero_le _) rfl ?_
  intro k hk
  refine W.seq ?_
  refine W.seq ?_
  refine W.reg X [] [] [0, 3, 4, 11] [] rfl ⟨⟩ ?_
  refine W.cond rfl (fun hb0 => ?_) (fun hb0 => ?_)
  · try simp only [nb] at hb0
    have hsl := set_len l (dfl .u8) k (by omega)
    refine W.skip ?_
    refine W.seq ?_
    refine W.block ?_
    refine W.reg X [] [] [0, 3, 4] [] rfl (by (repeat' (first | exact True.intro | apply And.intro)) <;> first | (intros; omega) | exact (u8n _).2) ?_
    have e1 := set_step l (dfl .u8) k hb0
    refine W.reg X [] [] [0, 3, 4] [] rfl ⟨⟩ ?_
    refine ⟨k + 1, by omega, by omega, ?_⟩
    rw [u8_back]
    rw [wadd _ k rfl (by omega), ← e1]
    try rfl
  · try simp only [nb] at hb0
    refine W.exit ?_
    refine W.seq ?_
    refine W.reg X [] [] [2] [] rfl ⟨⟩ ?_
    refine W.ret ?_
    exact Fin.ret rfl ⟨by rw [List.take_of_length_le (by omega), show l.length - k = 0 by omega, List.replicate_zero, List.append_nil], ⟨⟩⟩
theorem c_toByteSS (l : (List (List UInt8))) (hx : ((lsz List.length) l) ≤ 1048576) : Sound ty Tryz.prog 180 [.a (.sl (.sl .u8) l)] [.a (.sl (.sl .u8) l)] := by
  refine Sound.of X Tryz.call180 Tryz.func180 rfl rfl (by decide) Tryz.ntmps180 (by simp) ?_
  intro zb
  have hl : l.length ≤ 1048576 := lsz_len hx
  refine W.seq ?_
  refine W.reg X [] [] [0] [] rfl ⟨⟩ ?_
  refine W.seq ?_
  refine W.reg X [] [] [0, 3] [] rfl (by (repeat' (first | exact True.intro | apply And.intro)) <;> first | (intros; omega) | exact rfl | (simp only [byt, maxLen, lens]; omega)) ?_
  refine W.seq ?_
  refine W.seq ?_
  refine W.reg X [] [] [0, 3, 4] [] rfl ⟨⟩ ?_
  refine W.block ?_
  refine W.loopO (fun k => k ≤ l.length) (fun k : Nat => [(4, .one (.a (.lit (.int .i64 k))))]) (fun k => [(7, .arr (.sl .u8) (l.take k ++ List.replicate (l.length - k) (dfl (.sl .u8))))]) (fun k => l.length - k) 0 (fun k => rfl) (Nat.zero_le _) rfl ?_
  intro k hk
  refine W.seq ?_
  refine W.seq ?_
  refine W.reg X [] [] [0, 3, 4, 11] [] rfl ⟨⟩ ?_
  refine W.cond rfl (fun hb0 => ?_) (fun hb0 => ?_)
  · try simp only [nb] at hb0
    have hsl := set_len l (dfl (.sl .u8)) k (by omega)
    refine W.skip ?_
    refine W.seq ?_
    refine W.block ?_
    refine W.reg X [(20, 300)] [(20, ⟨true, [.a (.sl .u8 (l.getD k (dfl (.sl .u8))))]⟩)] [0, 3, 4] [] rfl (by (repeat' (first | with_reducible exact AllP.nil | with_reducible refine AllP.mk ?_ ?_ | with_reducible apply And.intro)) <;> skip; (iterate 1 (all_goals try (first | exact c_toByteS (l.getD k (dfl (.sl .u8))) (lsz_mem hx (getD_some l _ k hb0))))); all_goals (first | (intros; omega))) ?_
    have e1 := set_step l (dfl (.sl .u8)) k hb0
    refine W.reg X [] [] [0, 3, 4] [] rfl ⟨⟩ ?_
    refine ⟨k + 1, by omega, by omega, ?_⟩
    rw [wadd _ k rfl (by omega), ← e1]
    try rfl
  · try simp only [nb] at hb0
    refine W.exit ?_
    refine W.seq ?_
    refine W.reg X [] [] [2] [] rfl ⟨⟩ ?_
    refine W.ret ?_
    exact Fin.ret rfl ⟨by rw [List.take_of_length_le (by omega), show l.length - k = 0 by omega, List.replicate_zero, List.append_nil], ⟨⟩⟩
theorem c_toDatabase (x : DB) (hx : size_DB x ≤ 1048576) : Sound ty Tryz.prog 181 [.agg (dec_DB x)] [.agg (dec_DB x)] := by
  refine Sound.of X Tryz.call181 Tryz.func181 rfl rfl (by decide) Tryz.ntmps181 (by simp) ?_
  intro zb
  have hx2 := hx
  unfold size_DB at hx2
  refine W.seq ?_
  refine W.reg X [] [] [1, 2] [] rfl ⟨⟩ ?_
  refine W.seq ?_
  refine W.reg X [] [] [1, 2, 3] [] rfl ⟨⟩ ?_
  refine W.seq ?_
  refine W.reg X [(6, 230)] [(6, ⟨true, [.a (.sl (.sl .u8) x.rows)]⟩)] [2, 3] [] rfl ⟨c_toByteSS x.rows (by omega), ⟨⟩⟩ ?_
  refine W.seq ?_
  refine W.reg X [] [] [2] [] rfl (by (repeat' (first | exact True.intro | apply And.intro))) ?_
  refine W.ret ?_
  exact Fin.ret rfl (by (repeat' (first | exact True.intro | apply And.intro)) <;> rfl)
theorem c_toArchivedRound (x : ARound) (hx : size_ARound x ≤ 1048576) : Sound ty Tryz.prog 132 [.agg (dec_ARound x)] [.agg (dec_ARound x)] := by
  refine Sound.of X Tryz.call132 Tryz.func132 rfl rfl (by decide) Tryz.ntmps132 (by simp) ?_
  intro zb
  have hx2 := hx
  unfold size_ARound at hx2
  refine W.seq ?_
  refine W.reg X [] [] [1, 2] [] rfl ⟨⟩ ?_
  refine W.seq ?_
  refine W.reg X [] [] [1, 2, 3] [] rfl ⟨⟩ ?_
  refine W.seq ?_
  refine W.reg X [] [] [1, 2, 3] [] rfl ⟨⟩ ?_
  refine W.seq ?_
  refine W.reg X [(9, 230)] [(9, ⟨true, [.agg (dec_DB x.db)]⟩)] [2, 3] [] rfl ⟨c_toDatabase x.db (by omega), ⟨⟩⟩ ?_
  refine W.seq ?_
  refine W.reg X [] [] [2] [] rfl (by (repeat' (first | exact True.intro | apply And.intro))) ?_
  refine W.ret ?_
  exact Fin.ret rfl (by (repeat' (first | exact True.intro | apply And.intro)) <;> rfl)
theorem c_toArchivedRoundS (l : (List ARound)) (hx : ((lsz size_ARound) l) ≤ 1048576) : Sound ty Tryz.prog 77 [.a (.sl .ARound l)] [.a (.sl .ARound l)] := by
  refine Sound.of X Tryz.call77 Tryz.func77 rfl rfl (by decide) Tryz.ntmps77 (by simp) ?_
  intro zb
  have hl : l.length ≤ 1048576 := lsz_len hx
  refine W.seq ?_
  refine W.reg X [] [] [0] [] rfl ⟨⟩ ?_
  refine W.seq ?_
  refine W.reg X [] [] [0, 3] [] rfl (by (repeat' (first | exact True.intro | apply And.intro)) <;> first | (intros; omega) | exact rfl | (simp only [byt, maxLen, lens]; omega)) ?_
  refine W.seq ?_
  refine W.seq ?_
  refine W.reg X [] [] [0, 3, 4] [] rfl ⟨⟩ ?_
  refine W.block ?_
  refine W.loopO (fun k => k ≤ l.length) (fun k : Nat => [(4, .one (.a (.lit (.int .i64 k))))]) (fun k => [(7, .arr .ARound (l.take k ++ List.replicate (l.length - k) (dfl .ARound)))]) (fun k => l.length - k) 0 (fun k => rfl) (Nat.zero_le _) rfl ?_
  intro k hk
  refine W.seq ?_
  refine W.seq ?_
  refine W.reg X [] [] [0, 3, 4, 11] [] rfl ⟨⟩ ?_
  refine W.cond rfl (fun hb0 => ?_) (fun hb0 => ?_)
  · try simp only [nb] at hb0
    have hsl := set_len l (dfl .ARound) k (by omega)
    refine W.skip ?_
    refine W.seq ?_
    refine W.block ?_
    refine W.reg X [(20, 300)] [(20, ⟨true, [.agg (dec_ARound (l.getD k (dfl .ARound)))]⟩)] [0, 3, 4] [] rfl (by (repeat' (first | with_reducible exact AllP.nil | with_reducible refine AllP.mk ?_ ?_ | with_reducible apply And.intro)) <;> skip; (iterate 1 (all_goals try (first | exact c_toArchivedRound (l.getD k (dfl .ARound)) (lsz_mem hx (getD_some l _ k hb0))))); all_goals (first | (intros; omega))) ?_
    have e1 := set_step l (dfl .ARound) k hb0
    refine W.reg X [] [] [0, 3, 4] [] rfl ⟨⟩ ?_
    refine ⟨k + 1, by omega, by omega, ?_⟩
    rw [wadd _ k rfl (by omega), ← e1]
    try rfl
  · try simp only [nb] at hb0
    refine W.exit ?_
    refine W.seq ?_
    refine W.reg X [] [] [2] [] rfl ⟨⟩ ?_
    refine W.ret ?_
    exact Fin.ret rfl ⟨by rw [List.take_of_length_le (by omega), show l.length - k = 0 by omega, List.replicate_zero, List.append_nil], ⟨⟩⟩
theorem c_toArchive (x : Arc) (hx : size_Arc x ≤ 1048576) : Sound ty Tryz.prog 34 [.agg (dec_Arc x)] [.agg (dec_Arc x)] := by
  refine Sound.of X Tryz.call34 Tryz.func34 rfl rfl (by decide) Tryz.ntmps34 (by simp) ?_
  intro zb
  have hx2 := hx
  unfold size_Arc at hx2
  refine W.seq ?_
  refine W.reg X [] [] [1, 2] [] rfl ⟨⟩ ?_
  refine W.seq ?_
  refine W.reg X [] [] [1, 2, 3] [] rfl ⟨⟩ ?_
  refine W.seq ?_
  refine W.reg X [] [] [1, 2, 3] [] rfl ⟨⟩ ?_
  refine W.seq ?_
  refine W.reg X [(9, 230)] [(9, ⟨true, [.a (.sl .ARound x.rounds)]⟩)] [2, 3] [] rfl ⟨c_toArchivedRoundS x.rounds (by omega), ⟨⟩⟩ ?_
  refine W.seq ?_
  refine W.reg X [] [] [2] [] rfl (by (repeat' (first | exact True.intro | apply And.intro))) ?_
  refine W.ret ?_
  exact Fin.ret rfl (by (repeat' (first | exact True.intro | apply And.intro)) <;> rfl)
theorem c_toClient (x : Cli) (hx : size_Cli x ≤ 1048576) : Sound ty Tryz.prog 131 [.agg (dec_Cli x)] [.agg (dec_Cli x)] := by
  refine Sound.of X Tryz.call131 Tryz.func131 rfl rfl (by decide) Tryz.ntmps131 (by simp) ?_
  intro zb
  have hx2 := hx
  unfold size_Cli at hx2
  refine W.seq ?_
  refine W.reg X [] [] [1, 2] [] rfl ⟨⟩ ?_
  refine W.seq ?_
  refine W.reg X [] [] [1, 2, 3] [] rfl ⟨⟩ ?_
  refine W.seq ?_
  refine W.reg X [] [] [1, 2, 3] [] rfl ⟨⟩ ?_
  refine W.seq ?_
  refine W.reg X [] [] [1, 2, 3] [] rfl ⟨⟩ ?_
  refine W.seq ?_
  refine W.reg X [] [] [1, 2, 3] [] rfl ⟨⟩ ?_
  refine W.seq ?_
  refine W.reg X [] [] [1, 2, 3] [] rfl ⟨⟩ ?_
  refine W.seq ?_
  refine W.reg X [(18, 230)] [(18, ⟨true, [.a (.sl (.sl .u8) x.submitted)]⟩)] [1, 2, 3] [] rfl ⟨c_toByteSS x.submitted (by omega), ⟨⟩⟩ ?_
  refine W.seq ?_
  refine W.reg X [] [] [1, 2, 3] [] rfl ⟨⟩ ?_
  refine W.seq ?_
  refine W.reg X [(25, 260)] [(25, ⟨true, [.a (.sl (.sl .u8) x.inbox)]⟩)] [1, 2, 3] [] rfl ⟨c_toByteSS x.inbox (by omega), ⟨⟩⟩ ?_
  refine W.seq ?_
  refine W.reg X [] [] [2, 3] [] rfl ⟨⟩ ?_
  refine W.seq ?_
  refine W.reg X [] [] [2] [] rfl (by (repeat' (first | exact True.intro | apply And.intro))) ?_
  refine W.ret ?_
  exact Fin.ret rfl (by (repeat' (first | exact True.intro | apply And.intro)) <;> rfl)
theorem c_toDevice (x : Dev) (hx : size_Dev x ≤ 1048576) : Sound ty Tryz.prog 76 [.agg (dec_Dev x)] [.agg (dec_Dev x)] := by
  refine Sound.of X Tryz.call76 Tryz.func76 rfl rfl (by decide) Tryz.ntmps76 (by simp) ?_
  intro zb
  have hx2 := hx
  unfold size_Dev at hx2
  refine W.seq ?_
  refine W.reg X [] [] [1, 2] [] rfl ⟨⟩ ?_
  refine W.seq ?_
  refine W.reg X [] [] [1, 2, 3] [] rfl ⟨⟩ ?_
  refine W.seq ?_
  refine W.reg X [(6, 230)] [(6, ⟨true, [.agg (dec_Cli x.live)]⟩)] [1, 2, 3] [] rfl ⟨c_toClient x.live (by omega), ⟨⟩⟩ ?_
  refine W.seq ?_
  refine W.reg X [(10, 260)] [(10, ⟨true, [.agg (dec_Cli x.saved)]⟩)] [2, 3] [] rfl ⟨c_toClient x.saved (by omega), ⟨⟩⟩ ?_
  refine W.seq ?_
  refine W.reg X [] [] [2] [] rfl (by (repeat' (first | exact True.intro | apply And.intro))) ?_
  refine W.ret ?_
  exact Fin.ret rfl (by (repeat' (first | exact True.intro | apply And.intro)) <;> rfl)
theorem c_toDeviceS (l : (List Dev)) (hx : ((lsz size_Dev) l) ≤ 1048576) : Sound ty Tryz.prog 33 [.a (.sl .Dev l)] [.a (.sl .Dev l)] := by
  refine Sound.of X Tryz.call33 Tryz.func33 rfl rfl (by decide) Tryz.ntmps33 (by simp) ?_
  intro zb
  have hl : l.length ≤ 1048576 := lsz_len hx
  refine W.seq ?_
  refine W.reg X [] [] [0] [] rfl ⟨⟩ ?_
  refine W.seq ?_
  refine W.reg X [] [] [0, 3] [] rfl (by (repeat' (first | exact True.intro | apply And.intro)) <;> first | (intros; omega) | exact rfl | (simp only [byt, maxLen, lens]; omega)) ?_
  refine W.seq ?_
  refine W.seq ?_
  refine W.reg X [] [] [0, 3, 4] [] rfl ⟨⟩ ?_
  refine W.block ?_
  refine W.loopO (fun k => k ≤ l.length) (fun k : Nat => [(4, .one (.a (.lit (.int .i64 k))))]) (fun k => [(7, .arr .Dev (l.take k ++ List.replicate (l.length - k) (dfl .Dev)))]) (fun k => l.length - k) 0 (fun k => rfl) (Nat.zero_le _) rfl ?_
  intro k hk
  refine W.seq ?_
  refine W.seq ?_
  refine W.reg X [] [] [0, 3, 4, 11] [] rfl ⟨⟩ ?_
  refine W.cond rfl (fun hb0 => ?_) (fun hb0 => ?_)
  · try simp only [nb] at hb0
    have hsl := set_len l (dfl .Dev) k (by omega)
    refine W.skip ?_
    refine W.seq ?_
    refine W.block ?_
    refine W.reg X [(20, 300)] [(20, ⟨true, [.agg (dec_Dev (l.getD k (dfl .Dev)))]⟩)] [0, 3, 4] [] rfl (by (repeat' (first | with_reducible exact AllP.nil | with_reducible refine AllP.mk ?_ ?_ | with_reducible apply And.intro)) <;> skip; (iterate 1 (all_goals try (first | exact c_toDevice (l.getD k (dfl .Dev)) (lsz_mem hx (getD_some l _ k hb0))))); all_goals (first | (intros; omega))) ?_
    have e1 := set_step l (dfl .Dev) k hb0
    refine W.reg X [] [] [0, 3, 4] [] rfl ⟨⟩ ?_
    refine ⟨k + 1, by omega, by omega, ?_⟩
    rw [wadd _ k rfl (by omega), ← e1]
    try rfl
  · try simp only [nb] at hb0
    refine W.exit ?_
    refine W.seq ?_
    refine W.reg X [] [] [2] [] rfl ⟨⟩ ?_
    refine W.ret ?_
    exact Fin.ret rfl ⟨by rw [List.take_of_length_le (by omega), show l.length - k = 0 by omega, List.replicate_zero, List.append_nil], ⟨⟩⟩
theorem c_toIntS (l : (List Int)) (hx : (List.length l) ≤ 1048576) : Sound ty Tryz.prog 35 [.a (.sl .int l)] [.a (.sl .int l)] := by
  refine Sound.of X Tryz.call35 Tryz.func35 rfl rfl (by decide) Tryz.ntmps35 (by simp) ?_
  intro zb
  have hl : l.length ≤ 1048576 := hx
  refine W.seq ?_
  refine W.reg X [] [] [0] [] rfl ⟨⟩ ?_
  refine W.seq ?_
  refine W.reg X [] [] [0, 3] [] rfl (by (repeat' (first | exact True.intro | apply And.intro)) <;> first | (intros; omega) | exact rfl | (simp only [byt, maxLen, lens]; omega)) ?_
  refine W.seq ?_
  refine W.seq ?_
  refine W.reg X [] [] [0, 3, 4] [] rfl ⟨⟩ ?_
  refine W.block ?_
  refine W.loopO (fun k => k ≤ l.length) (fun k : Nat => [(4, .one (.a (.lit (.int .i64 k))))]) (fun k => [(7, .arr .int (l.take k ++ List.replicate (l.length - k) (dfl .int)))]) (fun k => l.length - k) 0 (fun k => rfl) (Nat.zero_le _) rfl ?_
  intro k hk
  refine W.seq ?_
  refine W.seq ?_
  refine W.reg X [] [] [0, 3, 4, 11] [] rfl ⟨⟩ ?_
  refine W.cond rfl (fun hb0 => ?_) (fun hb0 => ?_)
  · try simp only [nb] at hb0
    have hsl := set_len l (dfl .int) k (by omega)
    refine W.skip ?_
    refine W.seq ?_
    refine W.block ?_
    refine W.reg X [] [] [0, 3, 4] [] rfl (by (repeat' (first | exact True.intro | apply And.intro)) <;> first | (intros; omega)) ?_
    have e1 := set_step l (dfl .int) k hb0
    refine W.reg X [] [] [0, 3, 4] [] rfl ⟨⟩ ?_
    refine ⟨k + 1, by omega, by omega, ?_⟩
    rw [wadd _ k rfl (by omega), ← e1]
    try rfl
  · try simp only [nb] at hb0
    refine W.exit ?_
    refine W.seq ?_
    refine W.reg X [] [] [2] [] rfl ⟨⟩ ?_
    refine W.ret ?_
    exact Fin.ret rfl ⟨by rw [List.take_of_length_le (by omega), show l.length - k = 0 by omega, List.replicate_zero, List.append_nil], ⟨⟩⟩
theorem c_toReceivedShare (x : RShare) (hx : size_RShare x ≤ 1048576) : Sound ty Tryz.prog 179 [.agg (dec_RShare x)] [.agg (dec_RShare x)] := by
  refine Sound.of X Tryz.call179 Tryz.func179 rfl rfl (by decide) Tryz.ntmps179 (by simp) ?_
  intro zb
  have hx2 := hx
  unfold size_RShare at hx2
  refine W.seq ?_
  refine W.reg X [] [] [1, 2] [] rfl ⟨⟩ ?_
  refine W.seq ?_
  refine W.reg X [] [] [1, 2, 3] [] rfl ⟨⟩ ?_
  refine W.seq ?_
  refine W.reg X [] [] [1, 2, 3] [] rfl ⟨⟩ ?_
  refine W.seq ?_
  refine W.reg X [(9, 230)] [(9, ⟨true, [.agg (dec_DB x.share)]⟩)] [2, 3] [] rfl ⟨c_toDatabase x.share (by omega), ⟨⟩⟩ ?_
  refine W.seq ?_
  refine W.reg X [] [] [2] [] rfl (by (repeat' (first | exact True.intro | apply And.intro))) ?_
  refine W.ret ?_
  exact Fin.ret rfl (by (repeat' (first | exact True.intro | apply And.intro)) <;> rfl)
theorem c_toReceivedShareS (l : (List RShare)) (hx : ((lsz size_RShare) l) ≤ 1048576) : Sound ty Tryz.prog 130 [.a (.sl .RShare l)] [.a (.sl .RShare l)] := by
  refine Sound.of X Tryz.call130 Tryz.func130 rfl rfl (by decide) Tryz.ntmps130 (by simp) ?_
  intro zb
  have hl : l.length ≤ 1048576 := lsz_len hx
  refine W.seq ?_
  refine W.reg X [] [] [0] [] rfl ⟨⟩ ?_
  refine W.seq ?_
  refine W.reg X [] [] [0, 3] [] rfl (by (repeat' (first | exact True.intro | apply And.intro)) <;> first | (intros; omega) | exact rfl | (simp only [byt, maxLen, lens]; omega)) ?_
  refine W.seq ?_
  refine W.seq ?_
  refine W.reg X [] [] [0, 3, 4] [] rfl ⟨⟩ ?_
  refine W.block ?_
  refine W.loopO (fun k => k ≤ l.length) (fun k : Nat => [(4, .one (.a (.lit (.int .i64 k))))]) (fun k => [(7, .arr .RShare (l.take k ++ List.replicate (l.length - k) (dfl .RShare)))]) (fun k => l.length - k) 0 (fun k => rfl) (Nat.zero_le _) rfl ?_
  intro k hk
  refine W.seq ?_
  refine W.seq ?_
  refine W.reg X [] [] [0, 3, 4, 11] [] rfl ⟨⟩ ?_
  refine W.cond rfl (fun hb0 => ?_) (fun hb0 => ?_)
  · try simp only [nb] at hb0
    have hsl := set_len l (dfl .RShare) k (by omega)
    refine W.skip ?_
    refine W.seq ?_
    refine W.block ?_
    refine W.reg X [(20, 300)] [(20, ⟨true, [.agg (dec_RShare (l.getD k (dfl .RShare)))]⟩)] [0, 3, 4] [] rfl (by (repeat' (first | with_reducible exact AllP.nil | with_reducible refine AllP.mk ?_ ?_ | with_reducible apply And.intro)) <;> skip; (iterate 1 (all_goals try (first | exact c_toReceivedShare (l.getD k (dfl .RShare)) (lsz_mem hx (getD_some l _ k hb0))))); all_goals (first | (intros; omega))) ?_
    have e1 := set_step l (dfl .RShare) k hb0
    refine W.reg X [] [] [0, 3, 4] [] rfl ⟨⟩ ?_
    refine ⟨k + 1, by omega, by omega, ?_⟩
    rw [wadd _ k rfl (by omega), ← e1]
    try rfl
  · try simp only [nb] at hb0
    refine W.exit ?_
    refine W.seq ?_
    refine W.reg X [] [] [2] [] rfl ⟨⟩ ?_
    refine W.ret ?_
    exact Fin.ret rfl ⟨by rw [List.take_of_length_le (by omega), show l.length - k = 0 by omega, List.replicate_zero, List.append_nil], ⟨⟩⟩
theorem c_toServer (x : Srv) (hx : size_Srv x ≤ 1048576) : Sound ty Tryz.prog 75 [.agg (dec_Srv x)] [.agg (dec_Srv x)] := by
  refine Sound.of X Tryz.call75 Tryz.func75 rfl rfl (by decide) Tryz.ntmps75 (by simp) ?_
  intro zb
  have hx2 := hx
  unfold size_Srv at hx2
  refine W.seq ?_
  refine W.reg X [] [] [1, 2] [] rfl ⟨⟩ ?_
  refine W.seq ?_
  refine W.reg X [] [] [1, 2, 3] [] rfl ⟨⟩ ?_
  refine W.seq ?_
  refine W.reg X [] [] [1, 2, 3] [] rfl ⟨⟩ ?_
  refine W.seq ?_
  refine W.reg X [] [] [1, 2, 3] [] rfl ⟨⟩ ?_
  refine W.seq ?_
  refine W.reg X [] [] [1, 2, 3] [] rfl ⟨⟩ ?_
  refine W.seq ?_
  refine W.reg X [(15, 230)] [(15, ⟨true, [.a (.sl .RShare x.received)]⟩)] [1, 2, 3] [] rfl ⟨c_toReceivedShareS x.received (by omega), ⟨⟩⟩ ?_
  refine W.seq ?_
  refine W.reg X [] [] [2, 3] [] rfl ⟨⟩ ?_
  refine W.seq ?_
  refine W.reg X [] [] [2] [] rfl (by (repeat' (first | exact True.intro | apply And.intro))) ?_
  refine W.ret ?_
  exact Fin.ret rfl (by (repeat' (first | exact True.intro | apply And.intro)) <;> rfl)
theorem c_toServerS (l : (List Srv)) (hx : ((lsz size_Srv) l) ≤ 1048576) : Sound ty Tryz.prog 32 [.a (.sl .Srv l)] [.a (.sl .Srv l)] := by
  refine Sound.of X Tryz.call32 Tryz.func32 rfl rfl (by decide) Tryz.ntmps32 (by simp) ?_
  intro zb
  have hl : l.length ≤ 1048576 := lsz_len hx
  refine W.seq ?_
  refine W.reg X [] [] [0] [] rfl ⟨⟩ ?_
  refine W.seq ?_
  refine W.reg X [] [] [0, 3] [] rfl (by (repeat' (first | exact True.intro | apply And.intro)) <;> first | (intros; omega) | exact rfl | (simp only [byt, maxLen, lens]; omega)) ?_
  refine W.seq ?_
  refine W.seq ?_
  refine W.reg X [] [] [0, 3, 4] [] rfl ⟨⟩ ?_
  refine W.block ?_
  refine W.loopO (fun k => k ≤ l.length) (fun k : Nat => [(4, .one (.a (.lit (.int .i64 k))))]) (fun k => [(7, .arr .Srv (l.take k ++ List.replicate (l.length - k) (dfl .Srv)))]) (fun k => l.length - k) 0 (fun k => rfl) (Nat.zero_le _) rfl ?_
  intro k hk
  refine W.seq ?_
  refine W.seq ?_
  refine W.reg X [] [] [0, 3, 4, 11] [] rfl ⟨⟩ ?_
  refine W.cond rfl (fun hb0 => ?_) (fun hb0 => ?_)
  · try simp only [nb] at hb0
    have hsl := set_len l (dfl .Srv) k (by omega)
    refine W.skip ?_
    refine W.seq ?_
    refine W.block ?_
    refine W.reg X [(20, 300)] [(20, ⟨true, [.agg (dec_Srv (l.getD k (dfl .Srv)))]⟩)] [0, 3, 4] [] rfl (by (repeat' (first | with_reducible exact AllP.nil | with_reducible refine AllP.mk ?_ ?_ | with_reducible apply And.intro)) <;> skip; (iterate 1 (all_goals try (first | exact c_toServer (l.getD k (dfl .Srv)) (lsz_mem hx (getD_some l _ k hb0))))); all_goals (first | (intros; omega))) ?_
    have e1 := set_step l (dfl .Srv) k hb0
    refine W.reg X [] [] [0, 3, 4] [] rfl ⟨⟩ ?_
    refine ⟨k + 1, by omega, by omega, ?_⟩
    rw [wadd _ k rfl (by omega), ← e1]
    try rfl
  · try simp only [nb] at hb0
    refine W.exit ?_
    refine W.seq ?_
    refine W.reg X [] [] [2] [] rfl ⟨⟩ ?_
    refine W.ret ?_
    exact Fin.ret rfl ⟨by rw [List.take_of_length_le (by omega), show l.length - k = 0 by omega, List.replicate_zero, List.append_nil], ⟨⟩⟩
theorem c_toWorld (x : Wld) (hx : size_Wld x ≤ 1048576) : Sound ty Tryz.prog 7 [.agg (dec_Wld x)] [.agg (dec_Wld x)] := by
  refine Sound.of X Tryz.call7 Tryz.func7 rfl rfl (by decide) Tryz.ntmps7 (by simp) ?_
  intro zb
  have hx2 := hx
  unfold size_Wld at hx2
  refine W.seq ?_
  refine W.reg X [] [] [1, 2] [] rfl ⟨⟩ ?_
  refine W.seq ?_
  refine W.reg X [] [] [1, 2, 3] [] rfl ⟨⟩ ?_
  refine W.seq ?_
  refine W.reg X [] [] [1, 2, 3] [] rfl ⟨⟩ ?_
  refine W.seq ?_
  refine W.reg X [(9, 230)] [(9, ⟨true, [.a (.sl .Srv x.servers)]⟩)] [1, 2, 3] [] rfl ⟨c_toServerS x.servers (by omega), ⟨⟩⟩ ?_
  refine W.seq ?_
  refine W.reg X [(13, 260)] [(13, ⟨true, [.a (.sl .Dev x.devices)]⟩)] [1, 2, 3] [] rfl ⟨c_toDeviceS x.devices (by omega), ⟨⟩⟩ ?_
  refine W.seq ?_
  refine W.reg X [(17, 290)] [(17, ⟨true, [.agg (dec_Arc x.archive)]⟩)] [1, 2, 3] [] rfl ⟨c_toArchive x.archive (by omega), ⟨⟩⟩ ?_
  refine W.seq ?_
  refine W.reg X [] [] [1, 2, 3] [] rfl ⟨⟩ ?_
  refine W.seq ?_
  refine W.reg X [] [] [1, 2, 3] [] rfl ⟨⟩ ?_
  refine W.seq ?_
  refine W.reg X [] [] [1, 2, 3] [] rfl ⟨⟩ ?_
  refine W.seq ?_
  refine W.reg X [(30, 320)] [(30, ⟨true, [.a (.sl .int x.replaced)]⟩)] [1, 2, 3] [] rfl ⟨c_toIntS x.replaced (by omega), ⟨⟩⟩ ?_
  refine W.seq ?_
  refine W.reg X [] [] [2, 3] [] rfl ⟨⟩ ?_
  refine W.seq ?_
  refine W.reg X [] [] [2] [] rfl (by (repeat' (first | exact True.intro | apply And.intro))) ?_
  refine W.ret ?_
  exact Fin.ret rfl (by (repeat' (first | exact True.intro | apply And.intro)) <;> rfl)
end Go.Proofs.YthjedjndamejmaaGreat.G
namespace Go.Proofs.YthjedjndamejmaaGreat.G
set_option linter.all false
open Go.RowKit L D
set_option maxRecDepth 100000
theorem c_eqByteS (l : (List UInt8)) : Sound ty Tryz.prog 214 [.a (.sl .u8 l), .a (.sl .u8 l)] [.a (.lit (.bool true))] := by
  refine Sound.of X Tryz.call214 Tryz.func214 rfl rfl (by decide) Tryz.ntmps214 (by simp) ?_
  intro zb
  refine W.bound 0 rfl fun hl => ?_
  refine W.seq ?_
  refine W.reg X [] [] [0, 1] [] rfl ⟨⟩ ?_
  refine W.seq ?_
  refine W.seq ?_
  refine W.reg X [] [] [0, 1, 10] [] rfl ⟨⟩ ?_
  refine W.cond rfl (fun hb0 => ?_) (fun hb0 => ?_)
  · exact absurd hb0 (by simp)
  · clear hb0
    refine W.skip ?_
    refine W.seq ?_
    refine W.seq ?_
    refine W.reg X [] [] [0, 1, 5] [] rfl ⟨⟩ ?_
    refine W.block ?_
    refine W.loopO (fun k => k ≤ l.length) (fun k : Nat => [(5, .one (.a (.lit (.int .i64 k))))]) (fun k => []) (fun k => l.length - k) 0 (fun k => rfl) (Nat.zero_le _) rfl ?_
    intro k hk
    refine W.seq ?_
    refine W.seq ?_
    refine W.reg X [] [] [0, 1, 5, 14] [] rfl ⟨⟩ ?_
    refine W.cond rfl (fun hb1 => ?_) (fun hb1 => ?_)
    · try simp only [nb] at hb1
      refine W.skip ?_
      refine W.seq ?_
      refine W.block ?_
      refine W.seq ?_
      refine W.draw X [] [] [0, 1, 5, 25] [] 9 MO (by kernel_rfl) rfl (by (repeat' (first | exact True.intro | apply And.intro)) <;> first | (intros; omega)) ?_
      refine W.cond rfl (fun hb2 => ?_) (fun hb2 => ?_)
      · exact absurd hb2 (by simp)
      · clear hb2
        refine W.skip ?_
        refine W.reg X [] [] [0, 1, 5] [] rfl ⟨⟩ ?_
        refine ⟨k + 1, by omega, by omega, ?_⟩
        rw [wadd _ k rfl (by omega)]
        try rfl
    · try simp only [nb] at hb1
      refine W.exit ?_
      refine W.seq ?_
      refine W.reg X [] [] [4] [] rfl ⟨⟩ ?_
      refine W.ret ?_
      exact Fin.ret rfl ⟨rfl, ⟨⟩⟩
theorem c_eqByteSS (l : (List (List UInt8))) : Sound ty Tryz.prog 198 [.a (.sl (.sl .u8) l), .a (.sl (.sl .u8) l)] [.a (.lit (.bool true))] := by
  refine Sound.of X Tryz.call198 Tryz.func198 rfl rfl (by decide) Tryz.ntmps198 (by simp) ?_
  intro zb
  refine W.bound 0 rfl fun hl => ?_
  refine W.seq ?_
  refine W.reg X [] [] [0, 1] [] rfl ⟨⟩ ?_
  refine W.seq ?_
  refine W.seq ?_
  refine W.reg X [] [] [0, 1, 10] [] rfl ⟨⟩ ?_
  refine W.cond rfl (fun hb0 => ?_) (fun hb0 => ?_)
  · exact absurd hb0 (by simp)
  · clear hb0
    refine W.skip ?_
    refine W.seq ?_
    refine W.seq ?_
    refine W.reg X [] [] [0, 1, 5] [] rfl ⟨⟩ ?_
    refine W.block ?_
    refine W.loopO (fun k => k ≤ l.length) (fun k : Nat => [(5, .one (.a (.lit (.int .i64 k))))]) (fun k => []) (fun k => l.length - k) 0 (fun k => rfl) (Nat.zero_le _) rfl ?_
    intro k hk
    refine W.seq ?_
    refine W.seq ?_
    refine W.reg X [] [] [0, 1, 5, 14] [] rfl ⟨⟩ ?_
    refine W.cond rfl (fun hb1 => ?_) (fun hb1 => ?_)
    · try simp only [nb] at hb1
      refine W.skip ?_
      refine W.seq ?_
      refine W.block ?_
      refine W.seq ?_
      refine W.draw X [] [(25, ⟨false, [.a (.lit (.bool true))]⟩)] [0, 1, 5, 26] [] 10 MO (by kernel_rfl) rfl ⟨c_eqByteS (l.getD k (dfl (.sl .u8))), by omega, by omega, ⟨⟩⟩ ?_
      refine W.cond rfl (fun hb2 => ?_) (fun hb2 => ?_)
      · exact absurd hb2 (by simp)
      · clear hb2
        refine W.skip ?_
        refine W.reg X [] [] [0, 1, 5] [] rfl ⟨⟩ ?_
        refine ⟨k + 1, by omega, by omega, ?_⟩
        rw [wadd _ k rfl (by omega)]
        try rfl
    · try simp only [nb] at hb1
      refine W.exit ?_
      refine W.seq ?_
      refine W.reg X [] [] [4] [] rfl ⟨⟩ ?_
      refine W.ret ?_
      exact Fin.ret rfl ⟨rfl, ⟨⟩⟩
theorem c_eqDatabase (x : DB) : Sound ty Tryz.prog 197 [.agg (dec_DB x), .agg (dec_DB x)] [.a (.lit (.bool true))] := by
  refine Sound.of X Tryz.call197 Tryz.func197 rfl rfl (by decide) Tryz.ntmps197 (by simp) ?_
  intro zb
  refine W.seq ?_
  refine W.reg X [] [] [2, 3] [] rfl ⟨⟩ ?_
  refine W.seq ?_
  refine W.seq ?_
  refine W.reg X [] [(9, ⟨false, [.a (.lit (.bool true))]⟩)] [10] [] rfl ⟨c_eqByteSS x.rows, ⟨⟩⟩ ?_
  refine W.cond rfl (fun hb0 => ?_) (fun hb0 => ?_)
  · exact absurd hb0 (by simp)
  · clear hb0
    refine W.skip ?_
    refine W.seq ?_
    refine W.reg X [] [] [4] [] rfl ⟨⟩ ?_
    refine W.ret ?_
    exact Fin.ret rfl ⟨rfl, ⟨⟩⟩
theorem c_eqArchivedRound (x : ARound) : Sound ty Tryz.prog 153 [.agg (dec_ARound x), .agg (dec_ARound x)] [.a (.lit (.bool true))] := by
  refine Sound.of X Tryz.call153 Tryz.func153 rfl rfl (by decide) Tryz.ntmps153 (by simp) ?_
  intro zb
  refine W.seq ?_
  refine W.reg X [] [] [2, 3] [] rfl ⟨⟩ ?_
  refine W.seq ?_
  refine W.seq ?_
  refine W.reg X [] [] [2, 3, 9] [] rfl ⟨⟩ ?_
  refine W.cond rfl (fun hb0 => ?_) (fun hb0 => ?_)
  · exact absurd hb0 (by simp)
  · clear hb0
    refine W.skip ?_
    refine W.seq ?_
    refine W.seq ?_
    refine W.reg X [] [(14, ⟨false, [.a (.lit (.bool true))]⟩)] [15] [] rfl ⟨c_eqDatabase x.db, ⟨⟩⟩ ?_
    refine W.cond rfl (fun hb1 => ?_) (fun hb1 => ?_)
    · exact absurd hb1 (by simp)
    · clear hb1
      refine W.skip ?_
      refine W.seq ?_
      refine W.reg X [] [] [4] [] rfl ⟨⟩ ?_
      refine W.ret ?_
      exact Fin.ret rfl ⟨rfl, ⟨⟩⟩
theorem c_eqArchivedRoundS (l : (List ARound)) : Sound ty Tryz.prog 101 [.a (.sl .ARound l), .a (.sl .ARound l)] [.a (.lit (.bool true))] := by
  refine Sound.of X Tryz.call101 Tryz.func101 rfl rfl (by decide) Tryz.ntmps101 (by simp) ?_
  intro zb
  refine W.bound 0 rfl fun hl => ?_
  refine W.seq ?_
  refine W.reg X [] [] [0, 1] [] rfl ⟨⟩ ?_
  refine W.seq ?_
  refine W.seq ?_
  refine W.reg X [] [] [0, 1, 10] [] rfl ⟨⟩ ?_
  refine W.cond rfl (fun hb0 => ?_) (fun hb0 => ?_)
  · exact absurd hb0 (by simp)
  · clear hb0
    refine W.skip ?_
    refine W.seq ?_
    refine W.seq ?_
    refine W.reg X [] [] [0, 1, 5] [] rfl ⟨⟩ ?_
    refine W.block ?_
    refine W.loopO (fun k => k ≤ l.length) (fun k : Nat => [(5, .one (.a (.lit (.int .i64 k))))]) (fun k => []) (fun k => l.length - k) 0 (fun k => rfl) (Nat.zero_le _) rfl ?_
    intro k hk
    refine W.seq ?_
    refine W.seq ?_
    refine W.reg X [] [] [0, 1, 5, 14] [] rfl ⟨⟩ ?_
    refine W.cond rfl (fun hb1 => ?_) (fun hb1 => ?_)
    · try simp only [nb] at hb1
      refine W.skip ?_
      refine W.seq ?_
      refine W.block ?_
      refine W.seq ?_
      refine W.draw X [] [(25, ⟨false, [.a (.lit (.bool true))]⟩)] [0, 1, 5, 26] [] 10 MO (by kernel_rfl) rfl ⟨c_eqArchivedRound (l.getD k (dfl .ARound)), by omega, by omega, ⟨⟩⟩ ?_
      refine W.cond rfl (fun hb2 => ?_) (fun hb2 => ?_)
      · exact absurd hb2 (by simp)
      · clear hb2
        refine W.skip ?_
        refine W.reg X [] [] [0, 1, 5] [] rfl ⟨⟩ ?_
        refine ⟨k + 1, by omega, by omega, ?_⟩
        rw [wadd _ k rfl (by omega)]
        try rfl
    · try simp only [nb] at hb1
      refine W.exit ?_
      refine W.seq ?_
      refine W.reg X [] [] [4] [] rfl ⟨⟩ ?_
      refine W.ret ?_
      exact Fin.ret rfl ⟨rfl, ⟨⟩⟩
theorem c_eqArchive (x : Arc) : Sound ty Tryz.prog 45 [.agg (dec_Arc x), .agg (dec_Arc x)] [.a (.lit (.bool true))] := by
  refine Sound.of X Tryz.call45 Tryz.func45 rfl rfl (by decide) Tryz.ntmps45 (by simp) ?_
  intro zb
  refine W.seq ?_
  refine W.reg X [] [] [2, 3] [] rfl ⟨⟩ ?_
  refine W.seq ?_
  refine W.seq ?_
  refine W.reg X [] [] [2, 3, 9] [] rfl ⟨⟩ ?_
  refine W.cond rfl (fun hb0 => ?_) (fun hb0 => ?_)
  · exact absurd hb0 (by simp)
  · clear hb0
    refine W.skip ?_
    refine W.seq ?_
    refine W.seq ?_
    refine W.reg X [] [(14, ⟨false, [.a (.lit (.bool true))]⟩)] [15] [] rfl ⟨c_eqArchivedRoundS x.rounds, ⟨⟩⟩ ?_
    refine W.cond rfl (fun hb1 => ?_) (fun hb1 => ?_)
    · exact absurd hb1 (by simp)
    · clear hb1
      refine W.skip ?_
      refine W.seq ?_
      refine W.reg X [] [] [4] [] rfl ⟨⟩ ?_
      refine W.ret ?_
      exact Fin.ret rfl ⟨rfl, ⟨⟩⟩
theorem c_eqClient (x : Cli) : Sound ty Tryz.prog 152 [.agg (dec_Cli x), .agg (dec_Cli x)] [.a (.lit (.bool true))] := by
  refine Sound.of X Tryz.call152 Tryz.func152 rfl rfl (by decide) Tryz.ntmps152 (by simp) ?_
  intro zb
  refine W.seq ?_
  refine W.reg X [] [] [2, 3] [] rfl ⟨⟩ ?_
  refine W.seq ?_
  refine W.seq ?_
  refine W.reg X [] [] [2, 3, 9] [] rfl ⟨⟩ ?_
  refine W.cond rfl (fun hb0 => ?_) (fun hb0 => ?_)
  · exact absurd hb0 (by simp)
  · clear hb0
    refine W.skip ?_
    refine W.seq ?_
    refine W.seq ?_
    refine W.reg X [] [] [2, 3, 14] [] rfl ⟨⟩ ?_
    refine W.cond rfl (fun hb1 => ?_) (fun hb1 => ?_)
    · exact absurd hb1 (by simp)
    · clear hb1
      refine W.skip ?_
      refine W.seq ?_
      refine W.seq ?_
      refine W.reg X [] [] [2, 3, 19] [] rfl ⟨⟩ ?_
      refine W.cond rfl (fun hb2 => ?_) (fun hb2 => ?_)
      · exact absurd hb2 (by simp)
      · clear hb2
        refine W.skip ?_
        refine W.seq ?_
        refine W.seq ?_
        refine W.reg X [] [] [2, 3, 24] [] rfl ⟨⟩ ?_
        refine W.cond rfl (fun hb3 => ?_) (fun hb3 => ?_)
        · exact absurd hb3 (by simp)
        · clear hb3
          refine W.skip ?_
          refine W.seq ?_
          refine W.seq ?_
          refine W.reg X [] [(29, ⟨false, [.a (.lit (.bool true))]⟩)] [2, 3, 30] [] rfl ⟨c_eqByteSS x.submitted, ⟨⟩⟩ ?_
          refine W.cond rfl (fun hb4 => ?_) (fun hb4 => ?_)
          · exact absurd hb4 (by simp)
          · clear hb4
            refine W.skip ?_
            refine W.seq ?_
            refine W.seq ?_
            refine W.reg X [] [] [2, 3, 35] [] rfl ⟨⟩ ?_
            refine W.cond rfl (fun hb5 => ?_) (fun hb5 => ?_)
            · exact absurd hb5 (by simp)
            · clear hb5
              refine W.skip ?_
              refine W.seq ?_
              refine W.seq ?_
              refine W.reg X [] [(40, ⟨false, [.a (.lit (.bool true))]⟩)] [2, 3, 41] [] rfl ⟨c_eqByteSS x.inbox, ⟨⟩⟩ ?_
              refine W.cond rfl (fun hb6 => ?_) (fun hb6 => ?_)
              · exact absurd hb6 (by simp)
              · clear hb6
                refine W.skip ?_
                refine W.seq ?_
                refine W.seq ?_
                refine W.reg X [] [] [46] [] rfl ⟨⟩ ?_
                refine W.cond rfl (fun hb7 => ?_) (fun hb7 => ?_)
                · exact absurd hb7 (by simp)
                · clear hb7
                  refine W.skip ?_
                  refine W.seq ?_
                  refine W.reg X [] [] [4] [] rfl ⟨⟩ ?_
                  refine W.ret ?_
                  exact Fin.ret rfl ⟨rfl, ⟨⟩⟩
theorem c_eqDevice (x : Dev) : Sound ty Tryz.prog 100 [.agg (dec_Dev x), .agg (dec_Dev x)] [.a (.lit (.bool true))] := by
  refine Sound.of X Tryz.call100 Tryz.func100 rfl rfl (by decide) Tryz.ntmps100 (by simp) ?_
  intro zb
  refine W.seq ?_
  refine W.reg X [] [] [2, 3] [] rfl ⟨⟩ ?_
  refine W.seq ?_
  refine W.seq ?_
  refine W.reg X [] [(9, ⟨false, [.a (.lit (.bool true))]⟩)] [2, 3, 10] [] rfl ⟨c_eqClient x.live, ⟨⟩⟩ ?_
  refine W.cond rfl (fun hb0 => ?_) (fun hb0 => ?_)
  · exact absurd hb0 (by simp)
  · clear hb0
    refine W.skip ?_
    refine W.seq ?_
    refine W.seq ?_
    refine W.reg X [] [(15, ⟨false, [.a (.lit (.bool true))]⟩)] [16] [] rfl ⟨c_eqClient x.saved, ⟨⟩⟩ ?_
    refine W.cond rfl (fun hb1 => ?_) (fun hb1 => ?_)
    · exact absurd hb1 (by simp)
    · clear hb1
      refine W.skip ?_
      refine W.seq ?_
      refine W.reg X [] [] [4] [] rfl ⟨⟩ ?_
      refine W.ret ?_
      exact Fin.ret rfl ⟨rfl, ⟨⟩⟩
theorem c_eqDeviceS (l : (List Dev)) : Sound ty Tryz.prog 44 [.a (.sl .Dev l), .a (.sl .Dev l)] [.a (.lit (.bool true))] := by
  refine Sound.of X Tryz.call44 Tryz.func44 rfl rfl (by decide) Tryz.ntmps44 (by simp) ?_
  intro zb
  refine W.bound 0 rfl fun hl => ?_
  refine W.seq ?_
  refine W.reg X [] [] [0, 1] [] rfl ⟨⟩ ?_
  refine W.seq ?_
  refine W.seq ?_
  refine W.reg X [] [] [0, 1, 10] [] rfl ⟨⟩ ?_
  refine W.cond rfl (fun hb0 => ?_) (fun hb0 => ?_)
  · exact absurd hb0 (by simp)
  · clear hb0
    refine W.skip ?_
    refine W.seq ?_
    refine W.seq ?_
    refine W.reg X [] [] [0, 1, 5] [] rfl ⟨⟩ ?_
    refine W.block ?_
    refine W.loopO (fun k => k ≤ l.length) (fun k : Nat => [(5, .one (.a (.lit (.int .i64 k))))]) (fun k => []) (fun k => l.length - k) 0 (fun k => rfl) (Nat.zero_le _) rfl ?_
    intro k hk
    refine W.seq ?_
    refine W.seq ?_
    refine W.reg X [] [] [0, 1, 5, 14] [] rfl ⟨⟩ ?_
    refine W.cond rfl (fun hb1 => ?_) (fun hb1 => ?_)
    · try simp only [nb] at hb1
      refine W.skip ?_
      refine W.seq ?_
      refine W.block ?_
      refine W.seq ?_
      refine W.draw X [] [(25, ⟨false, [.a (.lit (.bool true))]⟩)] [0, 1, 5, 26] [] 10 MO (by kernel_rfl) rfl ⟨c_eqDevice (l.getD k (dfl .Dev)), by omega, by omega, ⟨⟩⟩ ?_
      refine W.cond rfl (fun hb2 => ?_) (fun hb2 => ?_)
      · exact absurd hb2 (by simp)
      · clear hb2
        refine W.skip ?_
        refine W.reg X [] [] [0, 1, 5] [] rfl ⟨⟩ ?_
        refine ⟨k + 1, by omega, by omega, ?_⟩
        rw [wadd _ k rfl (by omega)]
        try rfl
    · try simp only [nb] at hb1
      refine W.exit ?_
      refine W.seq ?_
      refine W.reg X [] [] [4] [] rfl ⟨⟩ ?_
      refine W.ret ?_
      exact Fin.ret rfl ⟨rfl, ⟨⟩⟩
theorem c_eqIntS (l : (List Int)) : Sound ty Tryz.prog 19 [.a (.sl .int l), .a (.sl .int l)] [.a (.lit (.bool true))] := by
  refine Sound.of X Tryz.call19 Tryz.func19 rfl rfl (by decide) Tryz.ntmps19 (by simp) ?_
  intro zb
  refine W.bound 0 rfl fun hl => ?_
  refine W.seq ?_
  refine W.reg X [] [] [0, 1] [] rfl ⟨⟩ ?_
  refine W.seq ?_
  refine W.seq ?_
  refine W.reg X [] [] [0, 1, 10] [] rfl ⟨⟩ ?_
  refine W.cond rfl (fun hb0 => ?_) (fun hb0 => ?_)
  · exact absurd hb0 (by simp)
  · clear hb0
    refine W.skip ?_
    refine W.seq ?_
    refine W.seq ?_
    refine W.reg X [] [] [0, 1, 5] [] rfl ⟨⟩ ?_
    refine W.block ?_
    refine W.loopO (fun k => k ≤ l.length) (fun k : Nat => [(5, .one (.a (.lit (.int .i64 k))))]) (fun k => []) (fun k => l.length - k) 0 (fun k => rfl) (Nat.zero_le _) rfl ?_
    intro k hk
    refine W.seq ?_
    refine W.seq ?_
    refine W.reg X [] [] [0, 1, 5, 14] [] rfl ⟨⟩ ?_
    refine W.cond rfl (fun hb1 => ?_) (fun hb1 => ?_)
    · try simp only [nb] at hb1
      refine W.skip ?_
      refine W.seq ?_
      refine W.block ?_
      refine W.seq ?_
      refine W.draw X [] [] [0, 1, 5, 25] [] 9 MO (by kernel_rfl) rfl (by (repeat' (first | exact True.intro | apply And.intro)) <;> first | (intros; omega)) ?_
      refine W.cond rfl (fun hb2 => ?_) (fun hb2 => ?_)
      · exact absurd hb2 (by simp)
      · clear hb2
        refine W.skip ?_
        refine W.reg X [] [] [0, 1, 5] [] rfl ⟨⟩ ?_
        refine ⟨k + 1, by omega, by omega, ?_⟩
        rw [wadd _ k rfl (by omega)]
        try rfl
    · try simp only [nb] at hb1
      refine W.exit ?_
      refine W.seq ?_
      refine W.reg X [] [] [4] [] rfl ⟨⟩ ?_
      refine W.ret ?_
      exact Fin.ret rfl ⟨rfl, ⟨⟩⟩
theorem c_eqReceipt (x : Rcp) : Sound ty Tryz.prog 43 [.agg (dec_Rcp x), .agg (dec_Rcp x)] [.a (.lit (.bool true))] := by
  refine Sound.of X Tryz.call43 Tryz.func43 rfl rfl (by decide) Tryz.ntmps43 (by simp) ?_
  intro zb
  refine W.seq ?_
  refine W.reg X [] [] [2, 3] [] rfl ⟨⟩ ?_
  refine W.seq ?_
  refine W.seq ?_
  refine W.reg X [] [] [2, 3, 9] [] rfl ⟨⟩ ?_
  refine W.cond rfl (fun hb0 => ?_) (fun hb0 => ?_)
  · exact absurd hb0 (by simp)
  · clear hb0
    refine W.skip ?_
    refine W.seq ?_
    refine W.seq ?_
    refine W.reg X [] [] [2, 3, 14] [] rfl ⟨⟩ ?_
    refine W.cond rfl (fun hb1 => ?_) (fun hb1 => ?_)
    · exact absurd hb1 (by simp)
    · clear hb1
      refine W.skip ?_
      refine W.seq ?_
      refine W.seq ?_
      refine W.reg X [] [] [2, 3, 19] [] rfl ⟨⟩ ?_
      refine W.cond rfl (fun hb2 => ?_) (fun hb2 => ?_)
      · exact absurd hb2 (by simp)
      · clear hb2
        refine W.skip ?_
        refine W.seq ?_
        refine W.seq ?_
        refine W.reg X [] [] [2, 3, 24] [] rfl ⟨⟩ ?_
        refine W.cond rfl (fun hb3 => ?_) (fun hb3 => ?_)
        · exact absurd hb3 (by simp)
        · clear hb3
          refine W.skip ?_
          refine W.seq ?_
          refine W.seq ?_
          refine W.reg X [] [] [29] [] rfl ⟨⟩ ?_
          refine W.cond rfl (fun hb4 => ?_) (fun hb4 => ?_)
          · exact absurd hb4 (by simp)
          · clear hb4
            refine W.skip ?_
            refine W.seq ?_
            refine W.reg X [] [] [4] [] rfl ⟨⟩ ?_
            refine W.ret ?_
            exact Fin.ret rfl ⟨rfl, ⟨⟩⟩
theorem c_eqReceiptS (l : (List Rcp)) : Sound ty Tryz.prog 10 [.a (.sl .Rcp l), .a (.sl .Rcp l)] [.a (.lit (.bool true))] := by
  refine Sound.of X Tryz.call10 Tryz.func10 rfl rfl (by decide) Tryz.ntmps10 (by simp) ?_
  intro zb
  refine W.bound 0 rfl fun hl => ?_
  refine W.seq ?_
  refine W.reg X [] [] [0, 1] [] rfl ⟨⟩ ?_
  refine W.seq ?_
  refine W.seq ?_
  refine W.reg X [] [] [0, 1, 10] [] rfl ⟨⟩ ?_
  refine W.cond rfl (fun hb0 => ?_) (fun hb0 => ?_)
  · exact absurd hb0 (by simp)
  · clear hb0
    refine W.skip ?_
    refine W.seq ?_
    refine W.seq ?_
    refine W.reg X [] [] [0, 1, 5] [] rfl ⟨⟩ ?_
    refine W.block ?_
    refine W.loopO (fun k => k ≤ l.length) (fun k : Nat => [(5, .one (.a (.lit (.int .i64 k))))]) (fun k => []) (fun k => l.length - k) 0 (fun k => rfl) (Nat.zero_le _) rfl ?_
    intro k hk
    refine W.seq ?_
    refine W.seq ?_
    refine W.reg X [] [] [0, 1, 5, 14] [] rfl ⟨⟩ ?_
    refine W.cond rfl (fun hb1 => ?_) (fun hb1 => ?_)
    · try simp only [nb] at hb1
      refine W.skip ?_
      refine W.seq ?_
      refine W.block ?_
      refine W.seq ?_
      refine W.draw X [] [(25, ⟨false, [.a (.lit (.bool true))]⟩)] [0, 1, 5, 26] [] 10 MO (by kernel_rfl) rfl ⟨c_eqReceipt (l.getD k (dfl .Rcp)), by omega, by omega, ⟨⟩⟩ ?_
      refine W.cond rfl (fun hb2 => ?_) (fun hb2 => ?_)
      · exact absurd hb2 (by simp)
      · clear hb2
        refine W.skip ?_
        refine W.reg X [] [] [0, 1, 5] [] rfl ⟨⟩ ?_
        refine ⟨k + 1, by omega, by omega, ?_⟩
        rw [wadd _ k rfl (by omega)]
        try rfl
    · try simp only [nb] at hb1
      refine W.exit ?_
      refine W.seq ?_
      refine W.reg X [] [] [4] [] rfl ⟨⟩ ?_
      refine W.ret ?_
      exact Fin.ret rfl ⟨rfl, ⟨⟩⟩
theorem c_eqReceivedShare (x : RShare) : Sound ty Tryz.prog 151 [.agg (dec_RShare x), .agg (dec_RShare x)] [.a (.lit (.bool true))] := by
  refine Sound.of X Tryz.call151 Tryz.func151 rfl rfl (by decide) Tryz.ntmps151 (by simp) ?_
  intro zb
  refine W.seq ?_
  refine W.reg X [] [] [2, 3] [] rfl ⟨⟩ ?_
  refine W.seq ?_
  refine W.seq ?_
  refine W.reg X [] [] [2, 3, 9] [] rfl ⟨⟩ ?_
  refine W.cond rfl (fun hb0 => ?_) (fun hb0 => ?_)
  · exact absurd hb0 (by simp)
  · clear hb0
    refine W.skip ?_
    refine W.seq ?_
    refine W.seq ?_
    refine W.reg X [] [(14, ⟨false, [.a (.lit (.bool true))]⟩)] [15] [] rfl ⟨c_eqDatabase x.share, ⟨⟩⟩ ?_
    refine W.cond rfl (fun hb1 => ?_) (fun hb1 => ?_)
    · exact absurd hb1 (by simp)
    · clear hb1
      refine W.skip ?_
      refine W.seq ?_
      refine W.reg X [] [] [4] [] rfl ⟨⟩ ?_
      refine W.ret ?_
      exact Fin.ret rfl ⟨rfl, ⟨⟩⟩
theorem c_eqReceivedShareS (l : (List RShare)) : Sound ty Tryz.prog 99 [.a (.sl .RShare l), .a (.sl .RShare l)] [.a (.lit (.bool true))] := by
  refine Sound.of X Tryz.call99 Tryz.func99 rfl rfl (by decide) Tryz.ntmps99 (by simp) ?_
  intro zb
  refine W.bound 0 rfl fun hl => ?_
  refine W.seq ?_
  refine W.reg X [] [] [0, 1] [] rfl ⟨⟩ ?_
  refine W.seq ?_
  refine W.seq ?_
  refine W.reg X [] [] [0, 1, 10] [] rfl ⟨⟩ ?_
  refine W.cond rfl (fun hb0 => ?_) (fun hb0 => ?_)
  · exact absurd hb0 (by simp)
  · clear hb0
    refine W.skip ?_
    refine W.seq ?_
    refine W.seq ?_
    refine W.reg X [] [] [0, 1, 5] [] rfl ⟨⟩ ?_
    refine W.block ?_
    refine W.loopO (fun k => k ≤ l.length) (fun k : Nat => [(5, .one (.a (.lit (.int .i64 k))))]) (fun k => []) (fun k => l.length - k) 0 (fun k => rfl) (Nat.zero_le _) rfl ?_
    intro k hk
    refine W.seq ?_
    refine W.seq ?_
    refine W.reg X [] [] [0, 1, 5, 14] [] rfl ⟨⟩ ?_
    refine W.cond rfl (fun hb1 => ?_) (fun hb1 => ?_)
    · try simp only [nb] at hb1
      refine W.skip ?_
      refine W.seq ?_
      refine W.block ?_
      refine W.seq ?_
      refine W.draw X [] [(25, ⟨false, [.a (.lit (.bool true))]⟩)] [0, 1, 5, 26] [] 10 MO (by kernel_rfl) rfl ⟨c_eqReceivedShare (l.getD k (dfl .RShare)), by omega, by omega, ⟨⟩⟩ ?_
      refine W.cond rfl (fun hb2 => ?_) (fun hb2 => ?_)
      · exact absurd hb2 (by simp)
      · clear hb2
        refine W.skip ?_
        refine W.reg X [] [] [0, 1, 5] [] rfl ⟨⟩ ?_
        refine ⟨k + 1, by omega, by omega, ?_⟩
        rw [wadd _ k rfl (by omega)]
        try rfl
    · try simp only [nb] at hb1
      refine W.exit ?_
      refine W.seq ?_
      refine W.reg X [] [] [4] [] rfl ⟨⟩ ?_
      refine W.ret ?_
      exact Fin.ret rfl ⟨rfl, ⟨⟩⟩
theorem c_eqServer (x : Srv) : Sound ty Tryz.prog 42 [.agg (dec_Srv x), .agg (dec_Srv x)] [.a (.lit (.bool true))] := by
  refine Sound.of X Tryz.call42 Tryz.func42 rfl rfl (by decide) Tryz.ntmps42 (by simp) ?_
  intro zb
  refine W.seq ?_
  refine W.reg X [] [] [2, 3] [] rfl ⟨⟩ ?_
  refine W.seq ?_
  refine W.seq ?_
  refine W.reg X [] [] [2, 3, 9] [] rfl ⟨⟩ ?_
  refine W.cond rfl (fun hb0 => ?_) (fun hb0 => ?_)
  · exact absurd hb0 (by simp)
  · clear hb0
    refine W.skip ?_
    refine W.seq ?_
    refine W.seq ?_
    refine W.reg X [] [] [2, 3, 14] [] rfl ⟨⟩ ?_
    refine W.cond rfl (fun hb1 => ?_) (fun hb1 => ?_)
    · exact absurd hb1 (by simp)
    · clear hb1
      refine W.skip ?_
      refine W.seq ?_
      refine W.seq ?_
      refine W.reg X [] [] [2, 3, 19] [] rfl ⟨⟩ ?_
      refine W.cond rfl (fun hb2 => ?_) (fun hb2 => ?_)
      · exact absurd hb2 (by simp)
      · clear hb2
        refine W.skip ?_
        refine W.seq ?_
        refine W.seq ?_
        refine W.reg X [] [(24, ⟨false, [.a (.lit (.bool true))]⟩)] [2, 3, 25] [] rfl ⟨c_eqReceivedShareS x.received, ⟨⟩⟩ ?_
        refine W.cond rfl (fun hb3 => ?_) (fun hb3 => ?_)
        · exact absurd hb3 (by simp)
        · clear hb3
          refine W.skip ?_
          refine W.seq ?_
          refine W.seq ?_
          refine W.reg X [] [] [30] [] rfl ⟨⟩ ?_
          refine W.cond rfl (fun hb4 => ?_) (fun hb4 => ?_)
          · exact absurd hb4 (by simp)
          · clear hb4
            refine W.skip ?_
            refine W.seq ?_
            refine W.reg X [] [] [4] [] rfl ⟨⟩ ?_
            refine W.ret ?_
            exact Fin.ret rfl ⟨rfl, ⟨⟩⟩
theorem c_eqServerS (l : (List Srv)) : Sound ty Tryz.prog 9 [.a (.sl .Srv l), .a (.sl .Srv l)] [.a (.lit (.bool true))] := by
  refine Sound.of X Tryz.call9 Tryz.func9 rfl rfl (by decide) Tryz.ntmps9 (by simp) ?_
  intro zb
  refine W.bound 0 rfl fun hl => ?_
  refine W.seq ?_
  refine W.reg X [] [] [0, 1] [] rfl ⟨⟩ ?_
  refine W.seq ?_
  refine W.seq ?_
  refine W.reg X [] [] [0, 1, 10] [] rfl ⟨⟩ ?_
  refine W.cond rfl (fun hb0 => ?_) (fun hb0 => ?_)
  · exact absurd hb0 (by simp)
  · clear hb0
    refine W.skip ?_
    refine W.seq ?_
    refine W.seq ?_
    refine W.reg X [] [] [0, 1, 5] [] rfl ⟨⟩ ?_
    refine W.block ?_
    refine W.loopO (fun k => k ≤ l.length) (fun k : Nat => [(5, .one (.a (.lit (.int .i64 k))))]) (fun k => []) (fun k => l.length - k) 0 (fun k => rfl) (Nat.zero_le _) rfl ?_
    intro k hk
    refine W.seq ?_
    refine W.seq ?_
    refine W.reg X [] [] [0, 1, 5, 14] [] rfl ⟨⟩ ?_
    refine W.cond rfl (fun hb1 => ?_) (fun hb1 => ?_)
    · try simp only [nb] at hb1
      refine W.skip ?_
      refine W.seq ?_
      refine W.block ?_
      refine W.seq ?_
      refine W.draw X [] [(25, ⟨false, [.a (.lit (.bool true))]⟩)] [0, 1, 5, 26] [] 10 MO (by kernel_rfl) rfl ⟨c_eqServer (l.getD k (dfl .Srv)), by omega, by omega, ⟨⟩⟩ ?_
      refine W.cond rfl (fun hb2 => ?_) (fun hb2 => ?_)
      · exact absurd hb2 (by simp)
      · clear hb2
        refine W.skip ?_
        refine W.reg X [] [] [0, 1, 5] [] rfl ⟨⟩ ?_
        refine ⟨k + 1, by omega, by omega, ?_⟩
        rw [wadd _ k rfl (by omega)]
        try rfl
    · try simp only [nb] at hb1
      refine W.exit ?_
      refine W.seq ?_
      refine W.reg X [] [] [4] [] rfl ⟨⟩ ?_
      refine W.ret ?_
      exact Fin.ret rfl ⟨rfl, ⟨⟩⟩
theorem c_eqWorld (x : Wld) : Sound ty Tryz.prog 11 [.agg (dec_Wld x), .agg (dec_Wld x)] [.a (.lit (.bool true))] := by
  refine Sound.of X Tryz.call11 Tryz.func11 rfl rfl (by decide) Tryz.ntmps11 (by simp) ?_
  intro zb
  refine W.seq ?_
  refine W.reg X [] [] [2, 3] [] rfl ⟨⟩ ?_
  refine W.seq ?_
  refine W.seq ?_
  refine W.reg X [] [] [2, 3, 9] [] rfl ⟨⟩ ?_
  refine W.cond rfl (fun hb0 => ?_) (fun hb0 => ?_)
  · exact absurd hb0 (by simp)
  · clear hb0
    refine W.skip ?_
    refine W.seq ?_
    refine W.seq ?_
    refine W.reg X [] [(14, ⟨false, [.a (.lit (.bool true))]⟩)] [2, 3, 15] [] rfl ⟨c_eqServerS x.servers, ⟨⟩⟩ ?_
    refine W.cond rfl (fun hb1 => ?_) (fun hb1 => ?_)
    · exact absurd hb1 (by simp)
    · clear hb1
      refine W.skip ?_
      refine W.seq ?_
      refine W.seq ?_
      refine W.reg X [] [(20, ⟨false, [.a (.lit (.bool true))]⟩)] [2, 3, 21] [] rfl ⟨c_eqDeviceS x.devices, ⟨⟩⟩ ?_
      refine W.cond rfl (fun hb2 => ?_) (fun hb2 => ?_)
      · exact absurd hb2 (by simp)
      · clear hb2
        refine W.skip ?_
        refine W.seq ?_
        refine W.seq ?_
        refine W.reg X [] [(26, ⟨false, [.a (.lit (.bool true))]⟩)] [2, 3, 27] [] rfl ⟨c_eqArchive x.archive, ⟨⟩⟩ ?_
        refine W.cond rfl (fun hb3 => ?_) (fun hb3 => ?_)
        · exact absurd hb3 (by simp)
        · clear hb3
          refine W.skip ?_
          refine W.seq ?_
          refine W.seq ?_
          refine W.reg X [] [] [2, 3, 32] [] rfl ⟨⟩ ?_
          refine W.cond rfl (fun hb4 => ?_) (fun hb4 => ?_)
          · exact absurd hb4 (by simp)
          · clear hb4
            refine W.skip ?_
            refine W.seq ?_
            refine W.seq ?_
            refine W.reg X [] [] [2, 3, 37] [] rfl ⟨⟩ ?_
            refine W.cond rfl (fun hb5 => ?_) (fun hb5 => ?_)
            · exact absurd hb5 (by simp)
            · clear hb5
              refine W.skip ?_
              refine W.seq ?_
              refine W.seq ?_
              refine W.reg X [] [] [2, 3, 42] [] rfl ⟨⟩ ?_
              refine W.cond rfl (fun hb6 => ?_) (fun hb6 => ?_)
              · exact absurd hb6 (by simp)
              · clear hb6
                refine W.skip ?_
                refine W.seq ?_
                refine W.seq ?_
                refine W.reg X [] [(47, ⟨false, [.a (.lit (.bool true))]⟩)] [2, 3, 48] [] rfl ⟨c_eqIntS x.replaced, ⟨⟩⟩ ?_
                refine W.cond rfl (fun hb7 => ?_) (fun hb7 => ?_)
                · exact absurd hb7 (by simp)
                · clear hb7
                  refine W.skip ?_
                  refine W.seq ?_
                  refine W.seq ?_
                  refine W.reg X [] [] [53] [] rfl ⟨⟩ ?_
                  refine W.cond rfl (fun hb8 => ?_) (fun hb8 => ?_)
                  · exact absurd hb8 (by simp)
                  · clear hb8
                    refine W.skip ?_
                    refine W.seq ?_
                    refine W.reg X [] [] [4] [] rfl ⟨⟩ ?_
                    refine W.ret ?_
                    exact Fin.ret rfl ⟨rfl, ⟨⟩⟩
end Go.Proofs.YthjedjndamejmaaGreat.G
namespace Go.Proofs.YthjedjndamejmaaGreat.G
set_option linter.all false
open Go.RowKit L D
set_option maxRecDepth 100000
theorem c_markByteS (l : (List UInt8)) (k0 : Int) (h0 : 0 ≤ k0) (h1 : k0 + ((mnl (fun _ => 1)) l : Nat) ≤ 1099511627776) : SoundM Tryz.prog 154 [.a (.sl .u8 l), .a (.lit (.int .i64 k0))] [.a (.sl .u8 ((mkl mku8 (fun _ => 1)) k0 l)), .a (.lit (.int .i64 k0))] (.int .i64 (k0 + ((mnl (fun _ => 1)) l : Nat))) := by
  refine SoundM.of X Tryz.call154 Tryz.func154 rfl rfl Tryz.ntmps154 (by simp) ?_
  intro zb
  refine W.boundO 1000 rfl fun hl => ?_
  refine W.seq ?_
  refine W.reg X [] [] [0, 1] [] rfl ⟨⟩ ?_
  refine W.seq ?_
  refine W.seq ?_
  refine W.reg X [] [] [0, 1, 5] [] rfl ⟨⟩ ?_
  refine W.block ?_
  refine W.loopO (fun k => k ≤ l.length) (fun k : Nat => [(1, .one (.a (.lit (.int .i64 (k0 + (mnl (fun _ => 1) (l.take k) : Nat)))))), (5, .one (.a (.lit (.int .i64 k))))]) (fun k => [(1000, .arr .u8 (mkl mku8 (fun _ => 1) k0 (l.take k) ++ l.drop k))]) (fun k => l.length - k) 0 (fun k => rfl) (Nat.zero_le _) (by simp [mkl, mnl]) ?_
  intro k hk
  refine W.seq ?_
  refine W.seq ?_
  refine W.reg X [] [] [0, 1, 5, 9] [] rfl ⟨⟩ ?_
  refine W.cond rfl (fun hb0 => ?_) (fun hb0 => ?_)
  · rw [mk_len l k0 k hk] at hb0
    try simp only [nb] at hb0
    have hc := mk_cur (mk := mku8) (mn := (fun _ => 1)) l k0 (dfl .u8) k hb0
    have hlen := mk_len (mk := mku8) (mn := (fun _ => 1)) l k0 k (by omega)
    have hst := mk_step (mk := mku8) (mn := (fun _ => 1)) l k0 (dfl .u8) k hb0
    have hms := mnl_step (mn := (fun _ => 1)) l (dfl .u8) k hb0
    have hml := mnl_le (mn := (fun _ => 1)) l (k + 1)
    generalize mkl mku8 (fun _ => 1) k0 (l.take k) ++ l.drop k = L at hc hlen hst ⊢
    generalize l.getD k (dfl .u8) = e at hc hst hms
    have hL : k < L.length := by omega
    have gs : ∀ y : UInt8, (L.set k y).getD k (dfl .u8) = y := fun y => getD_set L _ y k hL
    have gl : ∀ y : UInt8, (L.set k y).length = L.length := fun y => List.length_set
    refine W.skip ?_
    refine W.seq ?_
    refine W.block ?_
    refine W.seq ?_
    refine W.reg X [] [] [0, 1, 5] [] rfl (by (repeat' (first | exact True.intro | apply And.intro)) <;> first | (intros; omega) | exact (u8w _).1 | exact (u8w _).2) ?_
    simp only [Int.toNat_natCast, gs, hc, List.set_set]
    refine W.reg X [] [] [0, 1, 5] [] rfl ⟨⟩ ?_
    rw [IntWalk.i64_in ((k0 + (mnl (fun _ => 1) (l.take k) : Nat)) + 1) (by omega)]
    refine W.reg X [] [] [0, 1, 5] [] rfl ⟨⟩ ?_
    refine ⟨k + 1, by omega, by omega, ?_⟩
    rw [wadd _ k rfl (by omega), show (k0 + (mnl (fun _ => 1) (l.take k) : Nat)) + 1 = k0 + (mnl (fun _ => 1) (l.take (k + 1)) : Nat) by omega, ← hst]
    try rfl
  · rw [mk_len l k0 k hk] at hb0
    try simp only [nb] at hb0
    refine W.exit ?_
    refine W.seq ?_
    refine W.reg X [] [] [4] [] rfl ⟨⟩ ?_
    refine W.ret ?_
    have hf : l.take k = l := List.take_of_length_le (by omega)
    have hd : l.drop k = [] := List.drop_eq_nil_of_le (by omega)
    exact FinM.ret rfl ⟨by rw [hf], by rw [hf, hd, List.append_nil], rfl, ⟨⟩⟩
theorem c_markByteSS (l : (List (List UInt8))) (k0 : Int) (h0 : 0 ≤ k0) (h1 : k0 + ((mnl (mnl (fun _ => 1))) l : Nat) ≤ 1099511627776) : SoundM Tryz.prog 102 [.a (.sl (.sl .u8) l), .a (.lit (.int .i64 k0))] [.a (.sl (.sl .u8) ((mkl (mkl mku8 (fun _ => 1)) (mnl (fun _ => 1))) k0 l)), .a (.lit (.int .i64 k0))] (.int .i64 (k0 + ((mnl (mnl (fun _ => 1))) l : Nat))) := by
  refine SoundM.of X Tryz.call102 Tryz.func102 rfl rfl Tryz.ntmps102 (by simp) ?_
  intro zb
  refine W.boundO 1000 rfl fun hl => ?_
  refine W.seq ?_
  refine W.reg X [] [] [0, 1] [] rfl ⟨⟩ ?_
  refine W.seq ?_
  refine W.seq ?_
  refine W.reg X [] [] [0, 1, 5] [] rfl ⟨⟩ ?_
  refine W.block ?_
  refine W.loopO (fun k => k ≤ l.length) (fun k : Nat => [(1, .one (.a (.lit (.int .i64 (k0 + (mnl (mnl (fun _ => 1)) (l.take k) : Nat)))))), (5, .one (.a (.lit (.int .i64 k))))]) (fun k => [(1000, .arr (.sl .u8) (mkl (mkl mku8 (fun _ => 1)) (mnl (fun _ => 1)) k0 (l.take k) ++ l.drop k))]) (fun k => l.length - k) 0 (fun k => rfl) (Nat.zero_le _) (by simp [mkl, mnl]) ?_
  intro k hk
  refine W.seq ?_
  refine W.seq ?_
  refine W.reg X [] [] [0, 1, 5, 9] [] rfl ⟨⟩ ?_
  refine W.cond rfl (fun hb0 => ?_) (fun hb0 => ?_)
  · rw [mk_len l k0 k hk] at hb0
    try simp only [nb] at hb0
    have hc := mk_cur (mk := (mkl mku8 (fun _ => 1))) (mn := (mnl (fun _ => 1))) l k0 (dfl (.sl .u8)) k hb0
    have hlen := mk_len (mk := (mkl mku8 (fun _ => 1))) (mn := (mnl (fun _ => 1))) l k0 k (by omega)
    have hst := mk_step (mk := (mkl mku8 (fun _ => 1))) (mn := (mnl (fun _ => 1))) l k0 (dfl (.sl .u8)) k hb0
    have hms := mnl_step (mn := (mnl (fun _ => 1))) l (dfl (.sl .u8)) k hb0
    have hml := mnl_le (mn := (mnl (fun _ => 1))) l (k + 1)
    generalize mkl (mkl mku8 (fun _ => 1)) (mnl (fun _ => 1)) k0 (l.take k) ++ l.drop k = L at hc hlen hst ⊢
    generalize l.getD k (dfl (.sl .u8)) = e at hc hst hms
    have hL : k < L.length := by omega
    have gs : ∀ y : (List UInt8), (L.set k y).getD k (dfl (.sl .u8)) = y := fun y => getD_set L _ y k hL
    have gl : ∀ y : (List UInt8), (L.set k y).length = L.length := fun y => List.length_set
    refine W.skip ?_
    refine W.seq ?_
    refine W.block ?_
    refine W.reg X [] [(200017, ⟨false, [.a (.lit (.int .i64 ((k0 + (mnl (mnl (fun _ => 1)) (l.take k) : Nat)) + ((mnl (fun _ => 1)) e : Nat)))), .a (.sl .u8 ((mkl mku8 (fun _ => 1)) ((k0 + (mnl (mnl (fun _ => 1)) (l.take k) : Nat))) e)), .a (.lit (.int .i64 ((k0 + (mnl (mnl (fun _ => 1)) (l.take k) : Nat)))))]⟩)] [0, 1, 5] [] rfl (by (repeat' (first | exact True.intro | exact c_markByteS e ((k0 + (mnl (mnl (fun _ => 1)) (l.take k) : Nat))) (by omega) (by omega) | (simp only [Int.toNat_natCast, gs, hc]; exact c_markByteS e ((k0 + (mnl (mnl (fun _ => 1)) (l.take k) : Nat))) (by omega) (by omega)) | apply And.intro)) <;> first | (intros; omega)) ?_
    simp only [Int.toNat_natCast, gs, hc, List.set_set]
    refine W.reg X [] [] [0, 1, 5] [] rfl ⟨⟩ ?_
    refine ⟨k + 1, by omega, by omega, ?_⟩
    rw [wadd _ k rfl (by omega), show (k0 + (mnl (mnl (fun _ => 1)) (l.take k) : Nat)) + ((mnl (fun _ => 1)) e : Nat) = k0 + (mnl (mnl (fun _ => 1)) (l.take (k + 1)) : Nat) by omega, ← hst]
    try rfl
  · rw [mk_len l k0 k hk] at hb0
    try simp only [nb] at hb0
    refine W.exit ?_
    refine W.seq ?_
    refine W.reg X [] [] [4] [] rfl ⟨⟩ ?_
    refine W.ret ?_
    have hf : l.take k = l := List.take_of_length_le (by omega)
    have hd : l.drop k = [] := List.drop_eq_nil_of_le (by omega)
    exact FinM.ret rfl ⟨by rw [hf], by rw [hf, hd, List.append_nil], rfl, ⟨⟩⟩
theorem c_markArchivedRoundS (l : (List ARound)) (k0 : Int) (h0 : 0 ≤ k0) (h1 : k0 + ((mnl mne_ARound) l : Nat) ≤ 1099511627776) : SoundM Tryz.prog 103 [.a (.sl .ARound l), .a (.lit (.int .i64 k0))] [.a (.sl .ARound ((mkl mke_ARound mne_ARound) k0 l)), .a (.lit (.int .i64 k0))] (.int .i64 (k0 + ((mnl mne_ARound) l : Nat))) := by
  refine SoundM.of X Tryz.call103 Tryz.func103 rfl rfl Tryz.ntmps103 (by simp) ?_
  intro zb
  refine W.boundO 1000 rfl fun hl => ?_
  refine W.seq ?_
  refine W.reg X [] [] [0, 1] [] rfl ⟨⟩ ?_
  refine W.seq ?_
  refine W.seq ?_
  refine W.reg X [] [] [0, 1, 5] [] rfl ⟨⟩ ?_
  refine W.block ?_
  refine W.loopO (fun k => k ≤ l.length) (fun k : Nat => [(1, .one (.a (.lit (.int .i64 (k0 + (mnl mne_ARound (l.take k) : Nat)))))), (5, .one (.a (.lit (.int .i64 k))))]) (fun k => [(1000, .arr .ARound (mkl mke_ARound mne_ARound k0 (l.take k) ++ l.drop k))]) (fun k => l.length - k) 0 (fun k => rfl) (Nat.zero_le _) (by simp [mkl, mnl]) ?_
  intro k hk
  refine W.seq ?_
  refine W.seq ?_
  refine W.reg X [] [] [0, 1, 5, 9] [] rfl ⟨⟩ ?_
  refine W.cond rfl (fun hb0 => ?_) (fun hb0 => ?_)
  · rw [mk_len l k0 k hk] at hb0
    try simp only [nb] at hb0
    have hc := mk_cur (mk := mke_ARound) (mn := mne_ARound) l k0 (dfl .ARound) k hb0
    have hlen := mk_len (mk := mke_ARound) (mn := mne_ARound) l k0 k (by omega)
    have hst := mk_step (mk := mke_ARound) (mn := mne_ARound) l k0 (dfl .ARound) k hb0
    have hms := mnl_step (mn := mne_ARound) l (dfl .ARound) k hb0
    have hml := mnl_le (mn := mne_ARound) l (k + 1)
    generalize mkl mke_ARound mne_ARound k0 (l.take k) ++ l.drop k = L at hc hlen hst ⊢
    generalize l.getD k (dfl .ARound) = e at hc hst hms
    have hL : k < L.length := by omega
    have gs : ∀ y : ARound, (L.set k y).getD k (dfl .ARound) = y := fun y => getD_set L _ y k hL
    have gl : ∀ y : ARound, (L.set k y).length = L.length := fun y => List.length_set
    simp only [mne_ARound, mne_DB] at hms
    refine W.skip ?_
    refine W.seq ?_
    refine W.block ?_
    refine W.seq ?_
    refine W.reg X [] [] [0, 1, 5] [] rfl (by (repeat' (first | exact True.intro | apply And.intro)) <;> first | (intros; omega)) ?_
    simp only [Int.toNat_natCast, gs, hc, List.set_set]
    refine W.seq ?_
    refine W.reg X [] [] [0, 1, 5] [] rfl ⟨⟩ ?_
    rw [IntWalk.i64_in ((k0 + (mnl mne_ARound (l.take k) : Nat)) + 1) (by omega)]
    refine W.reg X [] [(200026, ⟨false, [.a (.lit (.int .i64 ((k0 + (mnl mne_ARound (l.take k) : Nat)) + 1 + ((mnl (mnl (fun _ => 1))) e.db.rows : Nat)))), .a (.sl (.sl .u8) ((mkl (mkl mku8 (fun _ => 1)) (mnl (fun _ => 1))) ((k0 + (mnl mne_ARound (l.take k) : Nat)) + 1) e.db.rows)), .a (.lit (.int .i64 ((k0 + (mnl mne_ARound (l.take k) : Nat)) + 1)))]⟩)] [0, 1, 5] [] rfl (by (repeat' (first | exact True.intro | exact c_markByteSS e.db.rows ((k0 + (mnl mne_ARound (l.take k) : Nat)) + 1) (by omega) (by omega) | (simp only [Int.toNat_natCast, gs, hc]; exact c_markByteSS e.db.rows ((k0 + (mnl mne_ARound (l.take k) : Nat)) + 1) (by omega) (by omega)) | apply And.intro)) <;> first | (intros; omega) | (simp only [byt, maxLen, lens]; omega)) ?_
    simp only [Int.toNat_natCast, gs, hc, List.set_set]
    refine W.reg X [] [] [0, 1, 5] [] rfl ⟨⟩ ?_
    refine ⟨k + 1, by omega, by omega, ?_⟩
    rw [wadd _ k rfl (by omega), show (k0 + (mnl mne_ARound (l.take k) : Nat)) + 1 + ((mnl (mnl (fun _ => 1))) e.db.rows : Nat) = k0 + (mnl mne_ARound (l.take (k + 1)) : Nat) by omega, ← hst]
    try rfl
  · rw [mk_len l k0 k hk] at hb0
    try simp only [nb] at hb0
    refine W.exit ?_
    refine W.seq ?_
    refine W.reg X [] [] [4] [] rfl ⟨⟩ ?_
    refine W.ret ?_
    have hf : l.take k = l := List.take_of_length_le (by omega)
    have hd : l.drop k = [] := List.drop_eq_nil_of_le (by omega)
    exact FinM.ret rfl ⟨by rw [hf], by rw [hf, hd, List.append_nil], rfl, ⟨⟩⟩
theorem c_markArchive (x : Arc) (k0 : Int) (h0 : 0 ≤ k0) (h1 : k0 + (mnv_Arc x : Nat) ≤ 1099511627776) : SoundM Tryz.prog 47 [.agg (dec_Arc x), .a (.lit (.int .i64 k0))] [.agg (dec_Arc (mkv_Arc k0 x)), .a (.lit (.int .i64 k0))] (.int .i64 (k0 + (mnv_Arc x : Nat))) := by
  refine SoundM.of X Tryz.call47 Tryz.func47 rfl rfl Tryz.ntmps47 (by simp) ?_
  intro zb
  unfold mnv_Arc at h1 ⊢
  refine W.seq ?_
  refine W.reg X [] [] [1, 2] [] rfl ⟨⟩ ?_
  refine W.seq ?_
  refine W.reg X [] [(100008, ⟨false, [.a (.lit (.int .i64 (k0 + ((mnl mne_ARound) x.rounds : Nat)))), .a (.sl .ARound ((mkl mke_ARound mne_ARound) (k0) x.rounds)), .a (.lit (.int .i64 (k0)))]⟩)] [1] [] rfl ⟨c_markArchivedRoundS x.rounds (k0) (by omega) (by omega), ⟨⟩⟩ ?_
  refine W.seq ?_
  refine W.reg X [] [] [4] [] rfl ⟨⟩ ?_
  refine W.ret ?_
  exact FinM.ret rfl (by (repeat' (first | exact True.intro | apply And.intro)) <;> first | rfl | (congr 1; omega))
theorem c_markDeviceS (l : (List Dev)) (k0 : Int) (h0 : 0 ≤ k0) (h1 : k0 + ((mnl mne_Dev) l : Nat) ≤ 1099511627776) : SoundM Tryz.prog 46 [.a (.sl .Dev l), .a (.lit (.int .i64 k0))] [.a (.sl .Dev ((mkl mke_Dev mne_Dev) k0 l)), .a (.lit (.int .i64 k0))] (.int .i64 (k0 + ((mnl mne_Dev) l : Nat))) := by
  refine SoundM.of X Tryz.call46 Tryz.func46 rfl rfl Tryz.ntmps46 (by simp) ?_
  intro zb
  refine W.boundO 1000 rfl fun hl => ?_
  refine W.seq ?_
  refine W.reg X [] [] [0, 1] [] rfl ⟨⟩ ?_
  refine W.seq ?_
  refine W.seq ?_
  refine W.reg X [] [] [0, 1, 5] [] rfl ⟨⟩ ?_
  refine W.block ?_
  refine W.loopO (fun k => k ≤ l.length) (fun k : Nat => [(1, .one (.a (.lit (.int .i64 (k0 + (mnl mne_Dev (l.take k) : Nat)))))), (5, .one (.a (.lit (.int .i64 k))))]) (fun k => [(1000, .arr .Dev (mkl mke_Dev mne_Dev k0 (l.take k) ++ l.drop k))]) (fun k => l.length - k) 0 (fun k => rfl) (Nat.zero_le _) (by simp [mkl, mnl]) ?_
  intro k hk
  refine W.seq ?_
  refine W.seq ?_
  refine W.reg X [] [] [0, 1, 5, 9] [] rfl ⟨⟩ ?_
  refine W.cond rfl (fun hb0 => ?_) (fun hb0 => ?_)
  · rw [mk_len l k0 k hk] at hb0
    try simp only [nb] at hb0
    have hc := mk_cur (mk := mke_Dev) (mn := mne_Dev) l k0 (dfl .Dev) k hb0
    have hlen := mk_len (mk := mke_Dev) (mn := mne_Dev) l k0 k (by omega)
    have hst := mk_step (mk := mke_Dev) (mn := mne_Dev) l k0 (dfl .Dev) k hb0
    have hms := mnl_step (mn := mne_Dev) l (dfl .Dev) k hb0
    have hml := mnl_le (mn := mne_Dev) l (k + 1)
    generalize mkl mke_Dev mne_Dev k0 (l.take k) ++ l.drop k = L at hc hlen hst ⊢
    generalize l.getD k (dfl .Dev) = e at hc hst hms
    have hL : k < L.length := by omega
    have gs : ∀ y : Dev, (L.set k y).getD k (dfl .Dev) = y := fun y => getD_set L _ y k hL
    have gl : ∀ y : Dev, (L.set k y).length = L.length := fun y => List.length_set
    simp only [mne_Dev, mne_Cli] at hms
    refine W.skip ?_
    refine W.seq ?_
    refine W.block ?_
    refine W.seq ?_
    refine W.reg X [] [] [0, 1, 5] [] rfl (by (repeat' (first | exact True.intro | apply And.intro)) <;> first | (intros; omega)) ?_
    simp only [Int.toNat_natCast, gs, hc, List.set_set]
    refine W.seq ?_
    refine W.reg X [] [] [0, 1, 5] [] rfl ⟨⟩ ?_
    rw [IntWalk.i64_in ((k0 + (mnl mne_Dev (l.take k) : Nat)) + 1) (by omega)]
    refine W.seq ?_
    refine W.reg X [] [] [0, 1, 5] [] rfl (by (repeat' (first | exact True.intro | apply And.intro)) <;> first | (intros; omega) | (simp only [byt, maxLen, lens]; omega)) ?_
    simp only [Int.toNat_natCast, gs, hc, List.set_set]
    refine W.seq ?_
    refine W.reg X [] [] [0, 1, 5] [] rfl ⟨⟩ ?_
    rw [IntWalk.i64_in ((k0 + (mnl mne_Dev (l.take k) : Nat)) + 1 + 1) (by omega)]
    refine W.seq ?_
    refine W.reg X [] [] [0, 1, 5] [] rfl (by (repeat' (first | exact True.intro | apply And.intro)) <;> first | (intros; omega) | (simp only [byt, maxLen, lens]; omega)) ?_
    simp only [Int.toNat_natCast, gs, hc, List.set_set]
    refine W.seq ?_
    refine W.reg X [] [] [0, 1, 5] [] rfl ⟨⟩ ?_
    rw [IntWalk.i64_in ((k0 + (mnl mne_Dev (l.take k) : Nat)) + 1 + 1 + 1) (by omega)]
    refine W.seq ?_
    refine W.reg X [] [] [0, 1, 5] [] rfl (by (repeat' (first | exact True.intro | apply And.intro)) <;> first | (intros; omega) | (simp only [byt, maxLen, lens]; omega)) ?_
    simp only [Int.toNat_natCast, gs, hc, List.set_set]
    refine W.seq ?_
    refine W.reg X [] [] [0, 1, 5] [] rfl ⟨⟩ ?_
    rw [IntWalk.i64_in ((k0 + (mnl mne_Dev (l.take k) : Nat)) + 1 + 1 + 1 + 1) (by omega)]
    refine W.seq ?_
    refine W.reg X [] [(200051, ⟨false, [.a (.lit (.int .i64 ((k0 + (mnl mne_Dev (l.take k) : Nat)) + 1 + 1 + 1 + 1 + ((mnl (mnl (fun _ => 1))) e.live.submitted : Nat)))), .a (.sl (.sl .u8) ((mkl (mkl mku8 (fun _ => 1)) (mnl (fun _ => 1))) ((k0 + (mnl mne_Dev (l.take k) : Nat)) + 1 + 1 + 1 + 1) e.live.submitted)), .a (.lit (.int .i64 ((k0 + (mnl mne_Dev (l.take k) : Nat)) + 1 + 1 + 1 + 1)))]⟩)] [0, 1, 5] [] rfl (by (repeat' (first | exact True.intro | exact c_markByteSS e.live.submitted ((k0 + (mnl mne_Dev (l.take k) : Nat)) + 1 + 1 + 1 + 1) (by omega) (by omega) | (simp only [Int.toNat_natCast, gs, hc]; exact c_markByteSS e.live.submitted ((k0 + (mnl mne_Dev (l.take k) : Nat)) + 1 + 1 + 1 + 1) (by omega) (by omega)) | apply And.intro)) <;> first | (intros; omega) | (simp only [byt, maxLen, lens]; omega)) ?_
    simp only [Int.toNat_natCast, gs, hc, List.set_set]
    refine W.seq ?_
    refine W.reg X [] [] [0, 1, 5] [] rfl (by (repeat' (first | exact True.intro | apply And.intro)) <;> first | (intros; omega) | (simp only [byt, maxLen, lens]; omega)) ?_
    simp only [Int.toNat_natCast, gs, hc, List.set_set]
    refine W.seq ?_
    refine W.reg X [] [] [0, 1, 5] [] rfl ⟨⟩ ?_
    rw [IntWalk.i64_in ((k0 + (mnl mne_Dev (l.take k) : Nat)) + 1 + 1 + 1 + 1 + ((mnl (mnl (fun _ => 1))) e.live.submitted : Nat) + 1) (by omega)]
    refine W.seq ?_
    refine W.reg X [] [(200067, ⟨false, [.a (.lit (.int .i64 ((k0 + (mnl mne_Dev (l.take k) : Nat)) + 1 + 1 + 1 + 1 + ((mnl (mnl (fun _ => 1))) e.live.submitted : Nat) + 1 + ((mnl (mnl (fun _ => 1))) e.live.inbox : Nat)))), .a (.sl (.sl .u8) ((mkl (mkl mku8 (fun _ => 1)) (mnl (fun _ => 1))) ((k0 + (mnl mne_Dev (l.take k) : Nat)) + 1 + 1 + 1 + 1 + ((mnl (mnl (fun _ => 1))) e.live.submitted : Nat) + 1) e.live.inbox)), .a (.lit (.int .i64 ((k0 + (mnl mne_Dev (l.take k) : Nat)) + 1 + 1 + 1 + 1 + ((mnl (mnl (fun _ => 1))) e.live.submitted : Nat) + 1)))]⟩)] [0, 1, 5] [] rfl (by (repeat' (first | exact True.intro | exact c_markByteSS e.live.inbox ((k0 + (mnl mne_Dev (l.take k) : Nat)) + 1 + 1 + 1 + 1 + ((mnl (mnl (fun _ => 1))) e.live.submitted : Nat) + 1) (by omega) (by omega) | (simp only [Int.toNat_natCast, gs, hc]; exact c_markByteSS e.live.inbox ((k0 + (mnl mne_Dev (l.take k) : Nat)) + 1 + 1 + 1 + 1 + ((mnl (mnl (fun _ => 1))) e.live.submitted : Nat) + 1) (by omega) (by omega)) | apply And.intro)) <;> first | (intros; omega) | (simp only [byt, maxLen, lens]; omega)) ?_
    simp only [Int.toNat_natCast, gs, hc, List.set_set]
    refine W.seq ?_
    refine W.reg X [] [] [0, 1, 5] [] rfl (by (repeat' (first | exact True.intro | apply And.intro)) <;> first | (intros; omega) | (simp only [byt, maxLen, lens]; omega)) ?_
    simp only [Int.toNat_natCast, gs, hc, List.set_set]
    refine W.seq ?_
    refine W.reg X [] [] [0, 1, 5] [] rfl ⟨⟩ ?_
    rw [IntWalk.i64_in ((k0 + (mnl mne_Dev (l.take k) : Nat)) + 1 + 1 + 1 + 1 + ((mnl (mnl (fun _ => 1))) e.live.submitted : Nat) + 1 + ((mnl (mnl (fun _ => 1))) e.live.inbox : Nat) + 1) (by omega)]
    refine W.seq ?_
    refine W.reg X [] [] [0, 1, 5] [] rfl (by (repeat' (first | exact True.intro | apply And.intro)) <;> first | (intros; omega) | (simp only [byt, maxLen, lens]; omega)) ?_
    simp only [Int.toNat_natCast, gs, hc, List.set_set]
    refine W.seq ?_
    refine W.reg X [] [] [0, 1, 5] [] rfl ⟨⟩ ?_
    rw [IntWalk.i64_in ((k0 + (mnl mne_Dev (l.take k) : Nat)) + 1 + 1 + 1 + 1 + ((mnl (mnl (fun _ => 1))) e.live.submitted : Nat) + 1 + ((mnl (mnl (fun _ => 1))) e.live.inbox : Nat) + 1 + 1) (by omega)]
    refine W.seq ?_
    refine W.reg X [] [] [0, 1, 5] [] rfl (by (repeat' (first | exact True.intro | apply And.intro)) <;> first | (intros; omega) | (simp only [byt, maxLen, lens]; omega)) ?_
    simp only [Int.toNat_natCast, gs, hc, List.set_set]
    refine W.seq ?_
    refine W.reg X [] [] [0, 1, 5] [] rfl ⟨⟩ ?_
    rw [IntWalk.i64_in ((k0 + (mnl mne_Dev (l.take k) : Nat)) + 1 + 1 + 1 + 1 + ((mnl (mnl (fun _ => 1))) e.live.submitted : Nat) + 1 + ((mnl (mnl (fun _ => 1))) e.live.inbox : Nat) + 1 + 1 + 1) (by omega)]
    refine W.seq ?_
    refine W.reg X [] [] [0, 1, 5] [] rfl (by (repeat' (first | exact True.intro | apply And.intro)) <;> first | (intros; omega) | (simp only [byt, maxLen, lens]; omega)) ?_
    simp only [Int.toNat_natCast, gs, hc, List.set_set]
    refine W.seq ?_
    refine W.reg X [] [] [0, 1, 5] [] rfl ⟨⟩ ?_
    rw [IntWalk.i64_in ((k0 + (mnl mne_Dev (l.take k) : Nat)) + 1 + 1 + 1 + 1 + ((mnl (mnl (fun _ => 1))) e.live.submitted : Nat) + 1 + ((mnl (mnl (fun _ => 1))) e.live.inbox : Nat) + 1 + 1 + 1 + 1) (by omega)]
    refine W.seq ?_
    refine W.reg X [] [] [0, 1, 5] [] rfl (by (repeat' (first | exact True.intro | apply And.intro)) <;> first | (intros; omega) | (simp only [byt, maxLen, lens]; omega)) ?_
    simp only [Int.toNat_natCast, gs, hc, List.set_set]
    refine W.seq ?_
    refine W.reg X [] [] [0, 1, 5] [] rfl ⟨⟩ ?_
    rw [IntWalk.i64_in ((k0 + (mnl mne_Dev (l.take k) : Nat)) + 1 + 1 + 1 + 1 + ((mnl (mnl (fun _ => 1))) e.live.submitted : Nat) + 1 + ((mnl (mnl (fun _ => 1))) e.live.inbox : Nat) + 1 + 1 + 1 + 1 + 1) (by omega)]
    refine W.seq ?_
    refine W.reg X [] [(200115, ⟨false, [.a (.lit (.int .i64 ((k0 + (mnl mne_Dev (l.take k) : Nat)) + 1 + 1 + 1 + 1 + ((mnl (mnl (fun _ => 1))) e.live.submitted : Nat) + 1 + ((mnl (mnl (fun _ => 1))) e.live.inbox : Nat) + 1 + 1 + 1 + 1 + 1 + ((mnl (mnl (fun _ => 1))) e.saved.submitted : Nat)))), .a (.sl (.sl .u8) ((mkl (mkl mku8 (fun _ => 1)) (mnl (fun _ => 1))) ((k0 + (mnl mne_Dev (l.take k) : Nat)) + 1 + 1 + 1 + 1 + ((mnl (mnl (fun _ => 1))) e.live.submitted : Nat) + 1 + ((mnl (mnl (fun _ => 1))) e.live.inbox : Nat) + 1 + 1 + 1 + 1 + 1) e.saved.submitted)), .a (.lit (.int .i64 ((k0 + (mnl mne_Dev (l.take k) : Nat)) + 1 + 1 + 1 + 1 + ((mnl (mnl (fun _ => 1))) e.live.submitted : Nat) + 1 + ((mnl (mnl (fun _ => 1))) e.live.inbox : Nat) + 1 + 1 + 1 + 1 + 1)))]⟩)] [0, 1, 5] [] rfl (by (repeat' (first | exact True.intro | exact c_markByteSS e.saved.submitted ((k0 + (mnl mne_Dev (l.take k) : Nat)) + 1 + 1 + 1 + 1 + ((mnl (mnl (fun _ => 1))) e.live.submitted : Nat) + 1 + ((mnl (mnl (fun _ => 1))) e.live.inbox : Nat) + 1 + 1 + 1 + 1 + 1) (by omega) (by omega) | (simp only [Int.toNat_natCast, gs, hc]; exact c_markByteSS e.saved.submitted ((k0 + (mnl mne_Dev (l.take k) : Nat)) + 1 + 1 + 1 + 1 + ((mnl (mnl (fun _ => 1))) e.live.submitted : Nat) + 1 + ((mnl (mnl (fun _ => 1))) e.live.inbox : Nat) + 1 + 1 + 1 + 1 + 1) (by omega) (by omega)) | apply And.intro)) <;> first | (intros; omega) | (simp only [byt, maxLen, lens]; omega)) ?_
    simp only [Int.toNat_natCast, gs, hc, List.set_set]
    refine W.seq ?_
    refine W.reg X [] [] [0, 1, 5] [] rfl (by (repeat' (first | exact True.intro | apply And.intro)) <;> first | (intros; omega) | (simp only [byt, maxLen, lens]; omega)) ?_
    simp only [Int.toNat_natCast, gs, hc, List.set_set]
    refine W.seq ?_
    refine W.reg X [] [] [0, 1, 5] [] rfl ⟨⟩ ?_
    rw [IntWalk.i64_in ((k0 + (mnl mne_Dev (l.take k) : Nat)) + 1 + 1 + 1 + 1 + ((mnl (mnl (fun _ => 1))) e.live.submitted : Nat) + 1 + ((mnl (mnl (fun _ => 1))) e.live.inbox : Nat) + 1 + 1 + 1 + 1 + 1 + ((mnl (mnl (fun _ => 1))) e.saved.submitted : Nat) + 1) (by omega)]
    refine W.seq ?_
    refine W.reg X [] [(200131, ⟨false, [.a (.lit (.int .i64 ((k0 + (mnl mne_Dev (l.take k) : Nat)) + 1 + 1 + 1 + 1 + ((mnl (mnl (fun _ => 1))) e.live.submitted : Nat) + 1 + ((mnl (mnl (fun _ => 1))) e.live.inbox : Nat) + 1 + 1 + 1 + 1 + 1 + ((mnl (mnl (fun _ => 1))) e.saved.submitted : Nat) + 1 + ((mnl (mnl (fun _ => 1))) e.saved.inbox : Nat)))), .a (.sl (.sl .u8) ((mkl (mkl mku8 (fun _ => 1)) (mnl (fun _ => 1))) ((k0 + (mnl mne_Dev (l.take k) : Nat)) + 1 + 1 + 1 + 1 + ((mnl (mnl (fun _ => 1))) e.live.submitted : Nat) + 1 + ((mnl (mnl (fun _ => 1))) e.live.inbox : Nat) + 1 + 1 + 1 + 1 + 1 + ((mnl (mnl (fun _ => 1))) e.saved.submitted : Nat) + 1) e.saved.inbox)), .a (.lit (.int .i64 ((k0 + (mnl mne_Dev (l.take k) : Nat)) + 1 + 1 + 1 + 1 + ((mnl (mnl (fun _ => 1))) e.live.submitted : Nat) + 1 + ((mnl (mnl (fun _ => 1))) e.live.inbox : Nat) + 1 + 1 + 1 + 1 + 1 + ((mnl (mnl (fun _ => 1))) e.saved.submitted : Nat) + 1)))]⟩)] [0, 1, 5] [] rfl (by (repeat' (first | exact True.intro | exact c_markByteSS e.saved.inbox ((k0 + (mnl mne_Dev (l.take k) : Nat)) + 1 + 1 + 1 + 1 + ((mnl (mnl (fun _ => 1))) e.live.submitted : Nat) + 1 + ((mnl (mnl (fun _ => 1))) e.live.inbox : Nat) + 1 + 1 + 1 + 1 + 1 + ((mnl (mnl (fun _ => 1))) e.saved.submitted : Nat) + 1) (by omega) (by omega) | (simp only [Int.toNat_natCast, gs, hc]; exact c_markByteSS e.saved.inbox ((k0 + (mnl mne_Dev (l.take k) : Nat)) + 1 + 1 + 1 + 1 + ((mnl (mnl (fun _ => 1))) e.live.submitted : Nat) + 1 + ((mnl (mnl (fun _ => 1))) e.live.inbox : Nat) + 1 + 1 + 1 + 1 + 1 + ((mnl (mnl (fun _ => 1))) e.saved.submitted : Nat) + 1) (by omega) (by omega)) | apply And.intro)) <;> first | (intros; omega) | (simp only [byt, maxLen, lens]; omega)) ?_
    simp only [Int.toNat_natCast, gs, hc, List.set_set]
    refine W.seq ?_
    refine W.reg X [] [] [0, 1, 5] [] rfl (by (repeat' (first | exact True.intro | apply And.intro)) <;> first | (intros; omega) | (simp only [byt, maxLen, lens]; omega)) ?_
    simp only [Int.toNat_natCast, gs, hc, List.set_set]
    refine W.reg X [] [] [0, 1, 5] [] rfl ⟨⟩ ?_
    rw [IntWalk.i64_in ((k0 + (mnl mne_Dev (l.take k) : Nat)) + 1 + 1 + 1 + 1 + ((mnl (mnl (fun _ => 1))) e.live.submitted : Nat) + 1 + ((mnl (mnl (fun _ => 1))) e.live.inbox : Nat) + 1 + 1 + 1 + 1 + 1 + ((mnl (mnl (fun _ => 1))) e.saved.submitted : Nat) + 1 + ((mnl (mnl (fun _ => 1))) e.saved.inbox : Nat) + 1) (by omega)]
    refine W.reg X [] [] [0, 1, 5] [] rfl ⟨⟩ ?_
    refine ⟨k + 1, by omega, by omega, ?_⟩
    rw [wadd _ k rfl (by omega), show (k0 + (mnl mne_Dev (l.take k) : Nat)) + 1 + 1 + 1 + 1 + ((mnl (mnl (fun _ => 1))) e.live.submitted : Nat) + 1 + ((mnl (mnl (fun _ => 1))) e.live.inbox : Nat) + 1 + 1 + 1 + 1 + 1 + ((mnl (mnl (fun _ => 1))) e.saved.submitted : Nat) + 1 + ((mnl (mnl (fun _ => 1))) e.saved.inbox : Nat) + 1 = k0 + (mnl mne_Dev (l.take (k + 1)) : Nat) by omega, ← hst]
    try rfl
  · rw [mk_len l k0 k hk] at hb0
    try simp only [nb] at hb0
    refine W.exit ?_
    refine W.seq ?_
    refine W.reg X [] [] [4] [] rfl ⟨⟩ ?_
    refine W.ret ?_
    have hf : l.take k = l := List.take_of_length_le (by omega)
    have hd : l.drop k = [] := List.drop_eq_nil_of_le (by omega)
    exact FinM.ret rfl ⟨by rw [hf], by rw [hf, hd, List.append_nil], rfl, ⟨⟩⟩
theorem c_markIntS (l : (List Int)) (k0 : Int) (h0 : 0 ≤ k0) (h1 : k0 + ((mnl (fun _ => 1)) l : Nat) ≤ 1099511627776) : SoundM Tryz.prog 20 [.a (.sl .int l), .a (.lit (.int .i64 k0))] [.a (.sl .int ((mkl (fun k _ => k) (fun _ => 1)) k0 l)), .a (.lit (.int .i64 k0))] (.int .i64 (k0 + ((mnl (fun _ => 1)) l : Nat))) := by
  refine SoundM.of X Tryz.call20 Tryz.func20 rfl rfl Tryz.ntmps20 (by simp) ?_
  intro zb
  refine W.boundO 1000 rfl fun hl => ?_
  refine W.seq ?_
  refine W.reg X [] [] [0, 1] [] rfl ⟨⟩ ?_
  refine W.seq ?_
  refine W.seq ?_
  refine W.reg X [] [] [0, 1, 5] [] rfl ⟨⟩ ?_
  refine W.block ?_
  refine W.loopO (fun k => k ≤ l.length) (fun k : Nat => [(1, .one (.a (.lit (.int .i64 (k0 + (mnl (fun _ => 1) (l.take k) : Nat)))))), (5, .one (.a (.lit (.int .i64 k))))]) (fun k => [(1000, .arr .int (mkl (fun k _ => k) (fun _ => 1) k0 (l.take k) ++ l.drop k))]) (fun k => l.length - k) 0 (fun k => rfl) (Nat.zero_le _) (by simp [mkl, mnl]) ?_
  intro k hk
  refine W.seq ?_
  refine W.seq ?_
  refine W.reg X [] [] [0, 1, 5, 9] [] rfl ⟨⟩ ?_
  refine W.cond rfl (fun hb0 => ?_) (fun hb0 => ?_)
  · rw [mk_len l k0 k hk] at hb0
    try simp only [nb] at hb0
    have hc := mk_cur (mk := (fun k _ => k)) (mn := (fun _ => 1)) l k0 (dfl .int) k hb0
    have hlen := mk_len (mk := (fun k _ => k)) (mn := (fun _ => 1)) l k0 k (by omega)
    have hst := mk_step (mk := (fun k _ => k)) (mn := (fun _ => 1)) l k0 (dfl .int) k hb0
    have hms := mnl_step (mn := (fun _ => 1)) l (dfl .int) k hb0
    have hml := mnl_le (mn := (fun _ => 1)) l (k + 1)
    generalize mkl (fun k _ => k) (fun _ => 1) k0 (l.take k) ++ l.drop k = L at hc hlen hst ⊢
    generalize l.getD k (dfl .int) = e at hc hst hms
    have hL : k < L.length := by omega
    have gs : ∀ y : Int, (L.set k y).getD k (dfl .int) = y := fun y => getD_set L _ y k hL
    have gl : ∀ y : Int, (L.set k y).length = L.length := fun y => List.length_set
    refine W.skip ?_
    refine W.seq ?_
    refine W.block ?_
    refine W.seq ?_
    refine W.reg X [] [] [0, 1, 5] [] rfl (by (repeat' (first | exact True.intro | apply And.intro)) <;> first | (intros; omega)) ?_
    simp only [Int.toNat_natCast, gs, hc, List.set_set]
    refine W.reg X [] [] [0, 1, 5] [] rfl ⟨⟩ ?_
    rw [IntWalk.i64_in ((k0 + (mnl (fun _ => 1) (l.take k) : Nat)) + 1) (by omega)]
    refine W.reg X [] [] [0, 1, 5] [] rfl ⟨⟩ ?_
    refine ⟨k + 1, by omega, by omega, ?_⟩
    rw [wadd _ k rfl (by omega), show (k0 + (mnl (fun _ => 1) (l.take k) : Nat)) + 1 = k0 + (mnl (fun _ => 1) (l.take (k + 1)) : Nat) by omega, ← hst]
    try rfl
  · rw [mk_len l k0 k hk] at hb0
    try simp only [nb] at hb0
    refine W.exit ?_
    refine W.seq ?_
    refine W.reg X [] [] [4] [] rfl ⟨⟩ ?_
    refine W.ret ?_
    have hf : l.take k = l := List.take_of_length_le (by omega)
    have hd : l.drop k = [] := List.drop_eq_nil_of_le (by omega)
    exact FinM.ret rfl ⟨by rw [hf], by rw [hf, hd, List.append_nil], rfl, ⟨⟩⟩
theorem c_markReceiptS (l : (List Rcp)) (k0 : Int) (h0 : 0 ≤ k0) (h1 : k0 + ((mnl mne_Rcp) l : Nat) ≤ 1099511627776) : SoundM Tryz.prog 14 [.a (.sl .Rcp l), .a (.lit (.int .i64 k0))] [.a (.sl .Rcp ((mkl mke_Rcp mne_Rcp) k0 l)), .a (.lit (.int .i64 k0))] (.int .i64 (k0 + ((mnl mne_Rcp) l : Nat))) := by
  refine SoundM.of X Tryz.call14 Tryz.func14 rfl rfl Tryz.ntmps14 (by simp) ?_
  intro zb
  refine W.boundO 1000 rfl fun hl => ?_
  refine W.seq ?_
  refine W.reg X [] [] [0, 1] [] rfl ⟨⟩ ?_
  refine W.seq ?_
  refine W.seq ?_
  refine W.reg X [] [] [0, 1, 5] [] rfl ⟨⟩ ?_
  refine W.block ?_
  refine W.loopO (fun k => k ≤ l.length) (fun k : Nat => [(1, .one (.a (.lit (.int .i64 (k0 + (mnl mne_Rcp (l.take k) : Nat)))))), (5, .one (.a (.lit (.int .i64 k))))]) (fun k => [(1000, .arr .Rcp (mkl mke_Rcp mne_Rcp k0 (l.take k) ++ l.drop k))]) (fun k => l.length - k) 0 (fun k => rfl) (Nat.zero_le _) (by simp [mkl, mnl]) ?_
  intro k hk
  refine W.seq ?_
  refine W.seq ?_
  refine W.reg X [] [] [0, 1, 5, 9] [] rfl ⟨⟩ ?_
  refine W.cond rfl (fun hb0 => ?_) (fun hb0 => ?_)
  · rw [mk_len l k0 k hk] at hb0
    try simp only [nb] at hb0
    have hc := mk_cur (mk := mke_Rcp) (mn := mne_Rcp) l k0 (dfl .Rcp) k hb0
    have hlen := mk_len (mk := mke_Rcp) (mn := mne_Rcp) l k0 k (by omega)
    have hst := mk_step (mk := mke_Rcp) (mn := mne_Rcp) l k0 (dfl .Rcp) k hb0
    have hms := mnl_step (mn := mne_Rcp) l (dfl .Rcp) k hb0
    have hml := mnl_le (mn := mne_Rcp) l (k + 1)
    generalize mkl mke_Rcp mne_Rcp k0 (l.take k) ++ l.drop k = L at hc hlen hst ⊢
    generalize l.getD k (dfl .Rcp) = e at hc hst hms
    have hL : k < L.length := by omega
    have gs : ∀ y : Rcp, (L.set k y).getD k (dfl .Rcp) = y := fun y => getD_set L _ y k hL
    have gl : ∀ y : Rcp, (L.set k y).length = L.length := fun y => List.length_set
    simp only [mne_Rcp] at hms
    refine W.skip ?_
    refine W.seq ?_
    refine W.block ?_
    refine W.seq ?_
    refine W.reg X [] [] [0, 1, 5] [] rfl (by (repeat' (first | exact True.intro | apply And.intro)) <;> first | (intros; omega)) ?_
    simp only [Int.toNat_natCast, gs, hc, List.set_set]
    refine W.seq ?_
    refine W.reg X [] [] [0, 1, 5] [] rfl ⟨⟩ ?_
    rw [IntWalk.i64_in ((k0 + (mnl mne_Rcp (l.take k) : Nat)) + 1) (by omega)]
    refine W.seq ?_
    refine W.reg X [] [] [0, 1, 5] [] rfl (by (repeat' (first | exact True.intro | apply And.intro)) <;> first | (intros; omega) | (simp only [byt, maxLen, lens]; omega)) ?_
    simp only [Int.toNat_natCast, gs, hc, List.set_set]
    refine W.seq ?_
    refine W.reg X [] [] [0, 1, 5] [] rfl ⟨⟩ ?_
    rw [IntWalk.i64_in ((k0 + (mnl mne_Rcp (l.take k) : Nat)) + 1 + 1) (by omega)]
    refine W.seq ?_
    refine W.reg X [] [] [0, 1, 5] [] rfl (by (repeat' (first | exact True.intro | apply And.intro)) <;> first | (intros; omega) | (simp only [byt, maxLen, lens]; omega)) ?_
    simp only [Int.toNat_natCast, gs, hc, List.set_set]
    refine W.seq ?_
    refine W.reg X [] [] [0, 1, 5] [] rfl ⟨⟩ ?_
    rw [IntWalk.i64_in ((k0 + (mnl mne_Rcp (l.take k) : Nat)) + 1 + 1 + 1) (by omega)]
    refine W.seq ?_
    refine W.reg X [] [] [0, 1, 5] [] rfl (by (repeat' (first | exact True.intro | apply And.intro)) <;> first | (intros; omega) | (simp only [byt, maxLen, lens]; omega)) ?_
    simp only [Int.toNat_natCast, gs, hc, List.set_set]
    refine W.seq ?_
    refine W.reg X [] [] [0, 1, 5] [] rfl ⟨⟩ ?_
    rw [IntWalk.i64_in ((k0 + (mnl mne_Rcp (l.take k) : Nat)) + 1 + 1 + 1 + 1) (by omega)]
    refine W.seq ?_
    refine W.reg X [] [] [0, 1, 5] [] rfl (by (repeat' (first | exact True.intro | apply And.intro)) <;> first | (intros; omega) | (simp only [byt, maxLen, lens]; omega)) ?_
    simp only [Int.toNat_natCast, gs, hc, List.set_set]
    refine W.reg X [] [] [0, 1, 5] [] rfl ⟨⟩ ?_
    rw [IntWalk.i64_in ((k0 + (mnl mne_Rcp (l.take k) : Nat)) + 1 + 1 + 1 + 1 + 1) (by omega)]
    refine W.reg X [] [] [0, 1, 5] [] rfl ⟨⟩ ?_
    refine ⟨k + 1, by omega, by omega, ?_⟩
    rw [wadd _ k rfl (by omega), show (k0 + (mnl mne_Rcp (l.take k) : Nat)) + 1 + 1 + 1 + 1 + 1 = k0 + (mnl mne_Rcp (l.take (k + 1)) : Nat) by omega, ← hst]
    try rfl
  · rw [mk_len l k0 k hk] at hb0
    try simp only [nb] at hb0
    refine W.exit ?_
    refine W.seq ?_
    refine W.reg X [] [] [4] [] rfl ⟨⟩ ?_
    refine W.ret ?_
    have hf : l.take k = l := List.take_of_length_le (by omega)
    have hd : l.drop k = [] := List.drop_eq_nil_of_le (by omega)
    exact FinM.ret rfl ⟨by rw [hf], by rw [hf, hd, List.append_nil], rfl, ⟨⟩⟩
theorem c_markReceivedShareS (l : (List RShare)) (k0 : Int) (h0 : 0 ≤ k0) (h1 : k0 + ((mnl mne_RShare) l : Nat) ≤ 1099511627776) : SoundM Tryz.prog 48 [.a (.sl .RShare l), .a (.lit (.int .i64 k0))] [.a (.sl .RShare ((mkl mke_RShare mne_RShare) k0 l)), .a (.lit (.int .i64 k0))] (.int .i64 (k0 + ((mnl mne_RShare) l : Nat))) := by
  refine SoundM.of X Tryz.call48 Tryz.func48 rfl rfl Tryz.ntmps48 (by simp) ?_
  intro zb
  refine W.boundO 1000 rfl fun hl => ?_
  refine W.seq ?_
  refine W.reg X [] [] [0, 1] [] rfl ⟨⟩ ?_
  refine W.seq ?_
  refine W.seq ?_
  refine W.reg X [] [] [0, 1, 5] [] rfl ⟨⟩ ?_
  refine W.block ?_
  refine W.loopO (fun k => k ≤ l.length) (fun k : Nat => [(1, .one (.a (.lit (.int .i64 (k0 + (mnl mne_RShare (l.take k) : Nat)))))), (5, .one (.a (.lit (.int .i64 k))))]) (fun k => [(1000, .arr .RShare (mkl mke_RShare mne_RShare k0 (l.take k) ++ l.drop k))]) (fun k => l.length - k) 0 (fun k => rfl) (Nat.zero_le _) (by simp [mkl, mnl]) ?_
  intro k hk
  refine W.seq ?_
  refine W.seq ?_
  refine W.reg X [] [] [0, 1, 5, 9] [] rfl ⟨⟩ ?_
  refine W.cond rfl (fun hb0 => ?_) (fun hb0 => ?_)
  · rw [mk_len l k0 k hk] at hb0
    try simp only [nb] at hb0
    have hc := mk_cur (mk := mke_RShare) (mn := mne_RShare) l k0 (dfl .RShare) k hb0
    have hlen := mk_len (mk := mke_RShare) (mn := mne_RShare) l k0 k (by omega)
    have hst := mk_step (mk := mke_RShare) (mn := mne_RShare) l k0 (dfl .RShare) k hb0
    have hms := mnl_step (mn := mne_RShare) l (dfl .RShare) k hb0
    have hml := mnl_le (mn := mne_RShare) l (k + 1)
    generalize mkl mke_RShare mne_RShare k0 (l.take k) ++ l.drop k = L at hc hlen hst ⊢
    generalize l.getD k (dfl .RShare) = e at hc hst hms
    have hL : k < L.length := by omega
    have gs : ∀ y : RShare, (L.set k y).getD k (dfl .RShare) = y := fun y => getD_set L _ y k hL
    have gl : ∀ y : RShare, (L.set k y).length = L.length := fun y => List.length_set
    simp only [mne_RShare, mne_DB] at hms
    refine W.skip ?_
    refine W.seq ?_
    refine W.block ?_
    refine W.seq ?_
    refine W.reg X [] [] [0, 1, 5] [] rfl (by (repeat' (first | exact True.intro | apply And.intro)) <;> first | (intros; omega)) ?_
    simp only [Int.toNat_natCast, gs, hc, List.set_set]
    refine W.seq ?_
    refine W.reg X [] [] [0, 1, 5] [] rfl ⟨⟩ ?_
    rw [IntWalk.i64_in ((k0 + (mnl mne_RShare (l.take k) : Nat)) + 1) (by omega)]
    refine W.reg X [] [(200026, ⟨false, [.a (.lit (.int .i64 ((k0 + (mnl mne_RShare (l.take k) : Nat)) + 1 + ((mnl (mnl (fun _ => 1))) e.share.rows : Nat)))), .a (.sl (.sl .u8) ((mkl (mkl mku8 (fun _ => 1)) (mnl (fun _ => 1))) ((k0 + (mnl mne_RShare (l.take k) : Nat)) + 1) e.share.rows)), .a (.lit (.int .i64 ((k0 + (mnl mne_RShare (l.take k) : Nat)) + 1)))]⟩)] [0, 1, 5] [] rfl (by (repeat' (first | exact True.intro | exact c_markByteSS e.share.rows ((k0 + (mnl mne_RShare (l.take k) : Nat)) + 1) (by omega) (by omega) | (simp only [Int.toNat_natCast, gs, hc]; exact c_markByteSS e.share.rows ((k0 + (mnl mne_RShare (l.take k) : Nat)) + 1) (by omega) (by omega)) | apply And.intro)) <;> first | (intros; omega) | (simp only [byt, maxLen, lens]; omega)) ?_
    simp only [Int.toNat_natCast, gs, hc, List.set_set]
    refine W.reg X [] [] [0, 1, 5] [] rfl ⟨⟩ ?_
    refine ⟨k + 1, by omega, by omega, ?_⟩
    rw [wadd _ k rfl (by omega), show (k0 + (mnl mne_RShare (l.take k) : Nat)) + 1 + ((mnl (mnl (fun _ => 1))) e.share.rows : Nat) = k0 + (mnl mne_RShare (l.take (k + 1)) : Nat) by omega, ← hst]
    try rfl
  · rw [mk_len l k0 k hk] at hb0
    try simp only [nb] at hb0
    refine W.exit ?_
    refine W.seq ?_
    refine W.reg X [] [] [4] [] rfl ⟨⟩ ?_
    refine W.ret ?_
    have hf : l.take k = l := List.take_of_length_le (by omega)
    have hd : l.drop k = [] := List.drop_eq_nil_of_le (by omega)
    exact FinM.ret rfl ⟨by rw [hf], by rw [hf, hd, List.append_nil], rfl, ⟨⟩⟩
theorem c_markServerS (l : (List Srv)) (k0 : Int) (h0 : 0 ≤ k0) (h1 : k0 + ((mnl mne_Srv) l : Nat) ≤ 1099511627776) : SoundM Tryz.prog 13 [.a (.sl .Srv l), .a (.lit (.int .i64 k0))] [.a (.sl .Srv ((mkl mke_Srv mne_Srv) k0 l)), .a (.lit (.int .i64 k0))] (.int .i64 (k0 + ((mnl mne_Srv) l : Nat))) := by
  refine SoundM.of X Tryz.call13 Tryz.func13 rfl rfl Tryz.ntmps13 (by simp) ?_
  intro zb
  refine W.boundO 1000 rfl fun hl => ?_
  refine W.seq ?_
  refine W.reg X [] [] [0, 1] [] rfl ⟨⟩ ?_
  refine W.seq ?_
  refine W.seq ?_
  refine W.reg X [] [] [0, 1, 5] [] rfl ⟨⟩ ?_
  refine W.block ?_
  refine W.loopO (fun k => k ≤ l.length) (fun k : Nat => [(1, .one (.a (.lit (.int .i64 (k0 + (mnl mne_Srv (l.take k) : Nat)))))), (5, .one (.a (.lit (.int .i64 k))))]) (fun k => [(1000, .arr .Srv (mkl mke_Srv mne_Srv k0 (l.take k) ++ l.drop k))]) (fun k => l.length - k) 0 (fun k => rfl) (Nat.zero_le _) (by simp [mkl, mnl]) ?_
  intro k hk
  refine W.seq ?_
  refine W.seq ?_
  refine W.reg X [] [] [0, 1, 5, 9] [] rfl ⟨⟩ ?_
  refine W.cond rfl (fun hb0 => ?_) (fun hb0 => ?_)
  · rw [mk_len l k0 k hk] at hb0
    try simp only [nb] at hb0
    have hc := mk_cur (mk := mke_Srv) (mn := mne_Srv) l k0 (dfl .Srv) k hb0
    have hlen := mk_len (mk := mke_Srv) (mn := mne_Srv) l k0 k (by omega)
    have hst := mk_step (mk := mke_Srv) (mn := mne_Srv) l k0 (dfl .Srv) k hb0
    have hms := mnl_step (mn := mne_Srv) l (dfl .Srv) k hb0
    have hml := mnl_le (mn := mne_Srv) l (k + 1)
    generalize mkl mke_Srv mne_Srv k0 (l.take k) ++ l.drop k = L at hc hlen hst ⊢
    generalize l.getD k (dfl .Srv) = e at hc hst hms
    have hL : k < L.length := by omega
    have gs : ∀ y : Srv, (L.set k y).getD k (dfl .Srv) = y := fun y => getD_set L _ y k hL
    have gl : ∀ y : Srv, (L.set k y).length = L.length := fun y => List.length_set
    simp only [mne_Srv] at hms
    refine W.skip ?_
    refine W.seq ?_
    refine W.block ?_
    refine W.seq ?_
    refine W.reg X [] [] [0, 1, 5] [] rfl (by (repeat' (first | exact True.intro | apply And.intro)) <;> first | (intros; omega)) ?_
    simp only [Int.toNat_natCast, gs, hc, List.set_set]
    refine W.seq ?_
    refine W.reg X [] [] [0, 1, 5] [] rfl ⟨⟩ ?_
    rw [IntWalk.i64_in ((k0 + (mnl mne_Srv (l.take k) : Nat)) + 1) (by omega)]
    refine W.seq ?_
    refine W.reg X [] [] [0, 1, 5] [] rfl (by (repeat' (first | exact True.intro | apply And.intro)) <;> first | (intros; omega) | (simp only [byt, maxLen, lens]; omega)) ?_
    simp only [Int.toNat_natCast, gs, hc, List.set_set]
    refine W.seq ?_
    refine W.reg X [] [] [0, 1, 5] [] rfl ⟨⟩ ?_
    rw [IntWalk.i64_in ((k0 + (mnl mne_Srv (l.take k) : Nat)) + 1 + 1) (by omega)]
    refine W.seq ?_
    refine W.reg X [] [] [0, 1, 5] [] rfl (by (repeat' (first | exact True.intro | apply And.intro)) <;> first | (intros; omega) | (simp only [byt, maxLen, lens]; omega)) ?_
    simp only [Int.toNat_natCast, gs, hc, List.set_set]
    refine W.seq ?_
    refine W.reg X [] [] [0, 1, 5] [] rfl ⟨⟩ ?_
    rw [IntWalk.i64_in ((k0 + (mnl mne_Srv (l.take k) : Nat)) + 1 + 1 + 1) (by omega)]
    refine W.seq ?_
    refine W.reg X [] [(200039, ⟨false, [.a (.lit (.int .i64 ((k0 + (mnl mne_Srv (l.take k) : Nat)) + 1 + 1 + 1 + ((mnl mne_RShare) e.received : Nat)))), .a (.sl .RShare ((mkl mke_RShare mne_RShare) ((k0 + (mnl mne_Srv (l.take k) : Nat)) + 1 + 1 + 1) e.received)), .a (.lit (.int .i64 ((k0 + (mnl mne_Srv (l.take k) : Nat)) + 1 + 1 + 1)))]⟩)] [0, 1, 5] [] rfl (by (repeat' (first | exact True.intro | exact c_markReceivedShareS e.received ((k0 + (mnl mne_Srv (l.take k) : Nat)) + 1 + 1 + 1) (by omega) (by omega) | (simp only [Int.toNat_natCast, gs, hc]; exact c_markReceivedShareS e.received ((k0 + (mnl mne_Srv (l.take k) : Nat)) + 1 + 1 + 1) (by omega) (by omega)) | apply And.intro)) <;> first | (intros; omega) | (simp only [byt, maxLen, lens]; omega)) ?_
    simp only [Int.toNat_natCast, gs, hc, List.set_set]
    refine W.seq ?_
    refine W.reg X [] [] [0, 1, 5] [] rfl (by (repeat' (first | exact True.intro | apply And.intro)) <;> first | (intros; omega) | (simp only [byt, maxLen, lens]; omega)) ?_
    simp only [Int.toNat_natCast, gs, hc, List.set_set]
    refine W.reg X [] [] [0, 1, 5] [] rfl ⟨⟩ ?_
    rw [IntWalk.i64_in ((k0 + (mnl mne_Srv (l.take k) : Nat)) + 1 + 1 + 1 + ((mnl mne_RShare) e.received : Nat) + 1) (by omega)]
    refine W.reg X [] [] [0, 1, 5] [] rfl ⟨⟩ ?_
    refine ⟨k + 1, by omega, by omega, ?_⟩
    rw [wadd _ k rfl (by omega), show (k0 + (mnl mne_Srv (l.take k) : Nat)) + 1 + 1 + 1 + ((mnl mne_RShare) e.received : Nat) + 1 = k0 + (mnl mne_Srv (l.take (k + 1)) : Nat) by omega, ← hst]
    try rfl
  · rw [mk_len l k0 k hk] at hb0
    try simp only [nb] at hb0
    refine W.exit ?_
    refine W.seq ?_
    refine W.reg X [] [] [4] [] rfl ⟨⟩ ?_
    refine W.ret ?_
    have hf : l.take k = l := List.take_of_length_le (by omega)
    have hd : l.drop k = [] := List.drop_eq_nil_of_le (by omega)
    exact FinM.ret rfl ⟨by rw [hf], by rw [hf, hd, List.append_nil], rfl, ⟨⟩⟩
theorem c_markWorld (x : Wld) (k0 : Int) (h0 : 0 ≤ k0) (h1 : k0 + (mnv_Wld x : Nat) ≤ 1099511627776) : SoundM Tryz.prog 12 [.agg (dec_Wld x), .a (.lit (.int .i64 k0))] [.agg (dec_Wld (mkv_Wld k0 x)), .a (.lit (.int .i64 k0))] (.int .i64 (k0 + (mnv_Wld x : Nat))) := by
  refine SoundM.of X Tryz.call12 Tryz.func12 rfl rfl Tryz.ntmps12 (by simp) ?_
  intro zb
  unfold mnv_Wld at h1 ⊢
  refine W.seq ?_
  refine W.reg X [] [] [1, 2] [] rfl ⟨⟩ ?_
  refine W.seq ?_
  refine W.reg X [] [(100008, ⟨false, [.a (.lit (.int .i64 (k0 + ((mnl mne_Srv) x.servers : Nat)))), .a (.sl .Srv ((mkl mke_Srv mne_Srv) (k0) x.servers)), .a (.lit (.int .i64 (k0)))]⟩)] [1, 2] [] rfl ⟨c_markServerS x.servers (k0) (by omega) (by omega), ⟨⟩⟩ ?_
  refine W.seq ?_
  refine W.reg X [] [(100012, ⟨false, [.a (.lit (.int .i64 (k0 + ((mnl mne_Srv) x.servers : Nat) + ((mnl mne_Dev) x.devices : Nat)))), .a (.sl .Dev ((mkl mke_Dev mne_Dev) (k0 + ((mnl mne_Srv) x.servers : Nat)) x.devices)), .a (.lit (.int .i64 (k0 + ((mnl mne_Srv) x.servers : Nat))))]⟩)] [1, 2] [] rfl ⟨c_markDeviceS x.devices (k0 + ((mnl mne_Srv) x.servers : Nat)) (by omega) (by omega), ⟨⟩⟩ ?_
  refine W.seq ?_
  refine W.reg X [] [(100016, ⟨false, [.a (.lit (.int .i64 (k0 + ((mnl mne_Srv) x.servers : Nat) + ((mnl mne_Dev) x.devices : Nat) + (mnv_Arc x.archive : Nat)))), .agg (dec_Arc (mkv_Arc (k0 + ((mnl mne_Srv) x.servers : Nat) + ((mnl mne_Dev) x.devices : Nat)) x.archive)), .a (.lit (.int .i64 (k0 + ((mnl mne_Srv) x.servers : Nat) + ((mnl mne_Dev) x.devices : Nat))))]⟩)] [1, 2] [] rfl ⟨c_markArchive x.archive (k0 + ((mnl mne_Srv) x.servers : Nat) + ((mnl mne_Dev) x.devices : Nat)) (by omega) (by omega), ⟨⟩⟩ ?_
  refine W.seq ?_
  refine W.reg X [] [(100020, ⟨false, [.a (.lit (.int .i64 (k0 + ((mnl mne_Srv) x.servers : Nat) + ((mnl mne_Dev) x.devices : Nat) + (mnv_Arc x.archive : Nat) + ((mnl (fun _ => 1)) x.replaced : Nat)))), .a (.sl .int ((mkl (fun k _ => k) (fun _ => 1)) (k0 + ((mnl mne_Srv) x.servers : Nat) + ((mnl mne_Dev) x.devices : Nat) + (mnv_Arc x.archive : Nat)) x.replaced)), .a (.lit (.int .i64 (k0 + ((mnl mne_Srv) x.servers : Nat) + ((mnl mne_Dev) x.devices : Nat) + (mnv_Arc x.archive : Nat))))]⟩)] [1] [] rfl ⟨c_markIntS x.replaced (k0 + ((mnl mne_Srv) x.servers : Nat) + ((mnl mne_Dev) x.devices : Nat) + (mnv_Arc x.archive : Nat)) (by omega) (by omega), ⟨⟩⟩ ?_
  refine W.seq ?_
  refine W.reg X [] [] [4] [] rfl ⟨⟩ ?_
  refine W.ret ?_
  exact FinM.ret rfl (by (repeat' (first | exact True.intro | apply And.intro)) <;> first | rfl | (congr 1; omega))
end Go.Proofs.YthjedjndamejmaaGreat.G
namespace Go.Proofs.YthjedjndamejmaaGreat.G
set_option linter.all false
open Go.RowKit L D
set_option maxRecDepth 100000
theorem c_heldByteS (l : (List UInt8)) (k0 : Int) (h0 : 0 ≤ k0) (h1 : k0 + ((mnl (fun _ => 1)) l : Nat) ≤ 1099511627776) : Sound ty Tryz.prog 155 [.a (.sl .u8 ((mkl mku8 (fun _ => 1)) k0 l)), .a (.lit (.int .i64 k0))] [.a (.lit (.int .i64 (k0 + ((mnl (fun _ => 1)) l : Nat))))] := by
  refine Sound.of X Tryz.call155 Tryz.func155 rfl rfl (by decide) Tryz.ntmps155 (by simp) ?_
  intro zb
  refine W.bound 0 rfl fun hl => ?_
  rw [mkl_len] at hl
  refine W.seq ?_
  refine W.reg X [] [] [0, 1] [] rfl ⟨⟩ ?_
  refine W.seq ?_
  refine W.seq ?_
  refine W.reg X [] [] [0, 1, 5] [] rfl ⟨⟩ ?_
  refine W.block ?_
  refine W.loopO (fun k => k ≤ l.length) (fun k : Nat => [(1, .one (.a (.lit (.int .i64 (k0 + (mnl (fun _ => 1) (l.take k) : Nat)))))), (5, .one (.a (.lit (.int .i64 k))))]) (fun k => []) (fun k => l.length - k) 0 (fun k => rfl) (Nat.zero_le _) (by simp [mnl]) ?_
  intro k hk
  refine W.seq ?_
  refine W.seq ?_
  refine W.reg X [] [] [0, 1, 5, 9] [] rfl ⟨⟩ ?_
  refine W.cond rfl (fun hb0 => ?_) (fun hb0 => ?_)
  · rw [mkl_len] at hb0
    try simp only [nb] at hb0
    have hg := mkl_getD (mk := mku8) (mn := (fun _ => 1)) (k := k0) (d := dfl .u8) hb0
    have hms := mnl_step (mn := (fun _ => 1)) l (dfl .u8) k hb0
    have hml := mnl_le (mn := (fun _ => 1)) l (k + 1)
    have hlen : (mkl mku8 (fun _ => 1) k0 l).length = l.length := mkl_len
    generalize l.getD k (dfl .u8) = e at hg hms
    refine W.skip ?_
    refine W.seq ?_
    refine W.block ?_
    refine W.seq ?_
    refine W.seq ?_
    refine W.reg X [] [] [0, 1, 5, 18] [] rfl (by (repeat' (first | exact True.intro | apply And.intro)) <;> first | (intros; omega)) ?_
    refine W.cond rfl (fun hb1 => ?_) (fun hb1 => ?_)
    · exact absurd hb1 (by first | (simp only [decide_eq_true_eq]; omega) | (simp only [Int.toNat_natCast, hg]; simp; done) | (simp only [Int.toNat_natCast, hg, mku8, u8_rt]; simp))
    · clear hb1
      refine W.skip ?_
      refine W.reg X [] [] [0, 1, 5] [] rfl ⟨⟩ ?_
      rw [IntWalk.i64_in ((k0 + (mnl (fun _ => 1) (l.take k) : Nat)) + 1) (by omega)]
      refine W.reg X [] [] [0, 1, 5] [] rfl ⟨⟩ ?_
      refine ⟨k + 1, by omega, by omega, ?_⟩
      rw [wadd _ k rfl (by omega), show (k0 + (mnl (fun _ => 1) (l.take k) : Nat)) + 1 = k0 + (mnl (fun _ => 1) (l.take (k + 1)) : Nat) by omega]
      try rfl
  · rw [mkl_len] at hb0
    try simp only [nb] at hb0
    refine W.exit ?_
    refine W.seq ?_
    refine W.reg X [] [] [4] [] rfl ⟨⟩ ?_
    refine W.ret ?_
    exact Fin.ret rfl ⟨by rw [List.take_of_length_le (by omega)], ⟨⟩⟩
theorem c_heldByteSS (l : (List (List UInt8))) (k0 : Int) (h0 : 0 ≤ k0) (h1 : k0 + ((mnl (mnl (fun _ => 1))) l : Nat) ≤ 1099511627776) : Sound ty Tryz.prog 104 [.a (.sl (.sl .u8) ((mkl (mkl mku8 (fun _ => 1)) (mnl (fun _ => 1))) k0 l)), .a (.lit (.int .i64 k0))] [.a (.lit (.int .i64 (k0 + ((mnl (mnl (fun _ => 1))) l : Nat))))] := by
  refine Sound.of X Tryz.call104 Tryz.func104 rfl rfl (by decide) Tryz.ntmps104 (by simp) ?_
  intro zb
  refine W.bound 0 rfl fun hl => ?_
  rw [mkl_len] at hl
  refine W.seq ?_
  refine W.reg X [] [] [0, 1] [] rfl ⟨⟩ ?_
  refine W.seq ?_
  refine W.seq ?_
  refine W.reg X [] [] [0, 1, 5] [] rfl ⟨⟩ ?_
  refine W.block ?_
  refine W.loopO (fun k => k ≤ l.length) (fun k : Nat => [(1, .one (.a (.lit (.int .i64 (k0 + (mnl (mnl (fun _ => 1)) (l.take k) : Nat)))))), (5, .one (.a (.lit (.int .i64 k))))]) (fun k => []) (fun k => l.length - k) 0 (fun k => rfl) (Nat.zero_le _) (by simp [mnl]) ?_
  intro k hk
  refine W.seq ?_
  refine W.seq ?_
  refine W.reg X [] [] [0, 1, 5, 9] [] rfl ⟨⟩ ?_
  refine W.cond rfl (fun hb0 => ?_) (fun hb0 => ?_)
  · rw [mkl_len] at hb0
    try simp only [nb] at hb0
    have hg := mkl_getD (mk := (mkl mku8 (fun _ => 1))) (mn := (mnl (fun _ => 1))) (k := k0) (d := dfl (.sl .u8)) hb0
    have hms := mnl_step (mn := (mnl (fun _ => 1))) l (dfl (.sl .u8)) k hb0
    have hml := mnl_le (mn := (mnl (fun _ => 1))) l (k + 1)
    have hlen : (mkl (mkl mku8 (fun _ => 1)) (mnl (fun _ => 1)) k0 l).length = l.length := mkl_len
    generalize l.getD k (dfl (.sl .u8)) = e at hg hms
    refine W.skip ?_
    refine W.seq ?_
    refine W.block ?_
    refine W.seq ?_
    refine W.reg X [] [(17, ⟨false, [.a (.lit (.int .i64 ((k0 + (mnl (mnl (fun _ => 1)) (l.take k) : Nat)) + ((mnl (fun _ => 1)) e : Nat))))]⟩)] [0, 1, 5] [] rfl (by (repeat' (first | exact True.intro | exact c_heldByteS e ((k0 + (mnl (mnl (fun _ => 1)) (l.take k) : Nat))) (by omega) (by omega) | (simp only [Int.toNat_natCast, hg]; exact c_heldByteS e ((k0 + (mnl (mnl (fun _ => 1)) (l.take k) : Nat))) (by omega) (by omega)) | apply And.intro)) <;> first | (intros; omega)) ?_
    refine W.seq ?_
    refine W.reg X [] [] [0, 1, 5, 19] [] rfl ⟨⟩ ?_
    refine W.cond rfl (fun hb1 => ?_) (fun hb1 => ?_)
    · exact absurd hb1 (by first | (simp only [decide_eq_true_eq]; omega) | (simp only [Int.toNat_natCast, hg]; simp; done) | (simp only [Int.toNat_natCast, hg, mku8, u8_rt]; simp))
    · clear hb1
      refine W.skip ?_
      refine W.reg X [] [] [0, 1, 5] [] rfl ⟨⟩ ?_
      refine ⟨k + 1, by omega, by omega, ?_⟩
      rw [wadd _ k rfl (by omega), show (k0 + (mnl (mnl (fun _ => 1)) (l.take k) : Nat)) + ((mnl (fun _ => 1)) e : Nat) = k0 + (mnl (mnl (fun _ => 1)) (l.take (k + 1)) : Nat) by omega]
      try rfl
  · rw [mkl_len] at hb0
    try simp only [nb] at hb0
    refine W.exit ?_
    refine W.seq ?_
    refine W.reg X [] [] [4] [] rfl ⟨⟩ ?_
    refine W.ret ?_
    exact Fin.ret rfl ⟨by rw [List.take_of_length_le (by omega)], ⟨⟩⟩
theorem c_heldReceiptS (l : (List Rcp)) (k0 : Int) (h0 : 0 ≤ k0) (h1 : k0 + ((mnl mne_Rcp) l : Nat) ≤ 1099511627776) : Sound ty Tryz.prog 16 [.a (.sl .Rcp ((mkl mke_Rcp mne_Rcp) k0 l)), .a (.lit (.int .i64 k0))] [.a (.lit (.int .i64 (k0 + ((mnl mne_Rcp) l : Nat))))] := by
  refine Sound.of X Tryz.call16 Tryz.func16 rfl rfl (by decide) Tryz.ntmps16 (by simp) ?_
  intro zb
  refine W.bound 0 rfl fun hl => ?_
  rw [mkl_len] at hl
  refine W.seq ?_
  refine W.reg X [] [] [0, 1] [] rfl ⟨⟩ ?_
  refine W.seq ?_
  refine W.seq ?_
  refine W.reg X [] [] [0, 1, 5] [] rfl ⟨⟩ ?_
  refine W.block ?_
  refine W.loopO (fun k => k ≤ l.length) (fun k : Nat => [(1, .one (.a (.lit (.int .i64 (k0 + (mnl mne_Rcp (l.take k) : Nat)))))), (5, .one (.a (.lit (.int .i64 k))))]) (fun k => []) (fun k => l.length - k) 0 (fun k => rfl) (Nat.zero_le _) (by simp [mnl]) ?_
  intro k hk
  refine W.seq ?_
  refine W.seq ?_
  refine W.reg X [] [] [0, 1, 5, 9] [] rfl ⟨⟩ ?_
  refine W.cond rfl (fun hb0 => ?_) (fun hb0 => ?_)
  · rw [mkl_len] at hb0
    try simp only [nb] at hb0
    have hg := mkl_getD (mk := mke_Rcp) (mn := mne_Rcp) (k := k0) (d := dfl .Rcp) hb0
    have hms := mnl_step (mn := mne_Rcp) l (dfl .Rcp) k hb0
    have hml := mnl_le (mn := mne_Rcp) l (k + 1)
    have hlen : (mkl mke_Rcp mne_Rcp k0 l).length = l.length := mkl_len
    generalize l.getD k (dfl .Rcp) = e at hg hms
    simp only [mne_Rcp] at hms
    simp only [mke_Rcp] at hg
    refine W.skip ?_
    refine W.seq ?_
    refine W.block ?_
    refine W.seq ?_
    refine W.seq ?_
    refine W.reg X [] [] [0, 1, 5, 18] [] rfl (by (repeat' (first | exact True.intro | apply And.intro)) <;> first | (intros; omega)) ?_
    refine W.cond rfl (fun hb1 => ?_) (fun hb1 => ?_)
    · exact absurd hb1 (by first | (simp only [decide_eq_true_eq]; omega) | (simp only [Int.toNat_natCast, hg]; simp; done) | (simp only [Int.toNat_natCast, hg, mku8, u8_rt]; simp))
    · clear hb1
      refine W.skip ?_
      refine W.seq ?_
      refine W.reg X [] [] [0, 1, 5] [] rfl ⟨⟩ ?_
      rw [IntWalk.i64_in ((k0 + (mnl mne_Rcp (l.take k) : Nat)) + 1) (by omega)]
      refine W.seq ?_
      refine W.seq ?_
      refine W.reg X [] [] [0, 1, 5, 27] [] rfl (by (repeat' (first | exact True.intro | apply And.intro)) <;> first | (intros; omega)) ?_
      refine W.cond rfl (fun hb2 => ?_) (fun hb2 => ?_)
      · exact absurd hb2 (by first | (simp only [decide_eq_true_eq]; omega) | (simp only [Int.toNat_natCast, hg]; simp; done) | (simp only [Int.toNat_natCast, hg, mku8, u8_rt]; simp))
      · clear hb2
        refine W.skip ?_
        refine W.seq ?_
        refine W.reg X [] [] [0, 1, 5] [] rfl ⟨⟩ ?_
        rw [IntWalk.i64_in ((k0 + (mnl mne_Rcp (l.take k) : Nat)) + 1 + 1) (by omega)]
        refine W.seq ?_
        refine W.seq ?_
        refine W.reg X [] [] [0, 1, 5, 36] [] rfl (by (repeat' (first | exact True.intro | apply And.intro)) <;> first | (intros; omega)) ?_
        refine W.cond rfl (fun hb3 => ?_) (fun hb3 => ?_)
        · exact absurd hb3 (by first | (simp only [decide_eq_true_eq]; omega) | (simp only [Int.toNat_natCast, hg]; simp; done) | (simp only [Int.toNat_natCast, hg, mku8, u8_rt]; simp))
        · clear hb3
          refine W.skip ?_
          refine W.seq ?_
          refine W.reg X [] [] [0, 1, 5] [] rfl ⟨⟩ ?_
          rw [IntWalk.i64_in ((k0 + (mnl mne_Rcp (l.take k) : Nat)) + 1 + 1 + 1) (by omega)]
          refine W.seq ?_
          refine W.seq ?_
          refine W.reg X [] [] [0, 1, 5, 45] [] rfl (by (repeat' (first | exact True.intro | apply And.intro)) <;> first | (intros; omega)) ?_
          refine W.cond rfl (fun hb4 => ?_) (fun hb4 => ?_)
          · exact absurd hb4 (by first | (simp only [decide_eq_true_eq]; omega) | (simp only [Int.toNat_natCast, hg]; simp; done) | (simp only [Int.toNat_natCast, hg, mku8, u8_rt]; simp))
          · clear hb4
            refine W.skip ?_
            refine W.seq ?_
            refine W.reg X [] [] [0, 1, 5] [] rfl ⟨⟩ ?_
            rw [IntWalk.i64_in ((k0 + (mnl mne_Rcp (l.take k) : Nat)) + 1 + 1 + 1 + 1) (by omega)]
            refine W.seq ?_
            refine W.seq ?_
            refine W.reg X [] [] [0, 1, 5, 54] [] rfl (by (repeat' (first | exact True.intro | apply And.intro)) <;> first | (intros; omega)) ?_
            refine W.cond rfl (fun hb5 => ?_) (fun hb5 => ?_)
            · exact absurd hb5 (by first | (simp only [decide_eq_true_eq]; omega) | (simp only [Int.toNat_natCast, hg]; simp; done) | (simp only [Int.toNat_natCast, hg, mku8, u8_rt]; simp))
            · clear hb5
              refine W.skip ?_
              refine W.reg X [] [] [0, 1, 5] [] rfl ⟨⟩ ?_
              rw [IntWalk.i64_in ((k0 + (mnl mne_Rcp (l.take k) : Nat)) + 1 + 1 + 1 + 1 + 1) (by omega)]
              refine W.reg X [] [] [0, 1, 5] [] rfl ⟨⟩ ?_
              refine ⟨k + 1, by omega, by omega, ?_⟩
              rw [wadd _ k rfl (by omega), show (k0 + (mnl mne_Rcp (l.take k) : Nat)) + 1 + 1 + 1 + 1 + 1 = k0 + (mnl mne_Rcp (l.take (k + 1)) : Nat) by omega]
              try rfl
  · rw [mkl_len] at hb0
    try simp only [nb] at hb0
    refine W.exit ?_
    refine W.seq ?_
    refine W.reg X [] [] [4] [] rfl ⟨⟩ ?_
    refine W.ret ?_
    exact Fin.ret rfl ⟨by rw [List.take_of_length_le (by omega)], ⟨⟩⟩
theorem c_heldReceivedShareS (l : (List RShare)) (k0 : Int) (h0 : 0 ≤ k0) (h1 : k0 + ((mnl mne_RShare) l : Nat) ≤ 1099511627776) : Sound ty Tryz.prog 49 [.a (.sl .RShare ((mkl mke_RShare mne_RShare) k0 l)), .a (.lit (.int .i64 k0))] [.a (.lit (.int .i64 (k0 + ((mnl mne_RShare) l : Nat))))] := by
  refine Sound.of X Tryz.call49 Tryz.func49 rfl rfl (by decide) Tryz.ntmps49 (by simp) ?_
  intro zb
  refine W.bound 0 rfl fun hl => ?_
  rw [mkl_len] at hl
  refine W.seq ?_
  refine W.reg X [] [] [0, 1] [] rfl ⟨⟩ ?_
  refine W.seq ?_
  refine W.seq ?_
  refine W.reg X [] [] [0, 1, 5] [] rfl ⟨⟩ ?_
  refine W.block ?_
  refine W.loopO (fun k => k ≤ l.length) (fun k : Nat => [(1, .one (.a (.lit (.int .i64 (k0 + (mnl mne_RShare (l.take k) : Nat)))))), (5, .one (.a (.lit (.int .i64 k))))]) (fun k => []) (fun k => l.length - k) 0 (fun k => rfl) (Nat.zero_le _) (by simp [mnl]) ?_
  intro k hk
  refine W.seq ?_
  refine W.seq ?_
  refine W.reg X [] [] [0, 1, 5, 9] [] rfl ⟨⟩ ?_
  refine W.cond rfl (fun hb0 => ?_) (fun hb0 => ?_)
  · rw [mkl_len] at hb0
    try simp only [nb] at hb0
    have hg := mkl_getD (mk := mke_RShare) (mn := mne_RShare) (k := k0) (d := dfl .RShare) hb0
    have hms := mnl_step (mn := mne_RShare) l (dfl .RShare) k hb0
    have hml := mnl_le (mn := mne_RShare) l (k + 1)
    have hlen : (mkl mke_RShare mne_RShare k0 l).length = l.length := mkl_len
    generalize l.getD k (dfl .RShare) = e at hg hms
    simp only [mne_RShare, mne_DB] at hms
    simp only [mke_RShare, mke_DB] at hg
    refine W.skip ?_
    refine W.seq ?_
    refine W.block ?_
    refine W.seq ?_
    refine W.seq ?_
    refine W.reg X [] [] [0, 1, 5, 18] [] rfl (by (repeat' (first | exact True.intro | apply And.intro)) <;> first | (intros; omega)) ?_
    refine W.cond rfl (fun hb1 => ?_) (fun hb1 => ?_)
    · exact absurd hb1 (by first | (simp only [decide_eq_true_eq]; omega) | (simp only [Int.toNat_natCast, hg]; simp; done) | (simp only [Int.toNat_natCast, hg, mku8, u8_rt]; simp))
    · clear hb1
      refine W.skip ?_
      refine W.seq ?_
      refine W.reg X [] [] [0, 1, 5] [] rfl ⟨⟩ ?_
      rw [IntWalk.i64_in ((k0 + (mnl mne_RShare (l.take k) : Nat)) + 1) (by omega)]
      refine W.seq ?_
      refine W.reg X [] [(28, ⟨false, [.a (.lit (.int .i64 ((k0 + (mnl mne_RShare (l.take k) : Nat)) + 1 + ((mnl (mnl (fun _ => 1))) e.share.rows : Nat))))]⟩)] [0, 1, 5] [] rfl (by (repeat' (first | exact True.intro | exact c_heldByteSS e.share.rows ((k0 + (mnl mne_RShare (l.take k) : Nat)) + 1) (by omega) (by omega) | (simp only [Int.toNat_natCast, hg]; exact c_heldByteSS e.share.rows ((k0 + (mnl mne_RShare (l.take k) : Nat)) + 1) (by omega) (by omega)) | apply And.intro)) <;> first | (intros; omega)) ?_
      refine W.seq ?_
      refine W.reg X [] [] [0, 1, 5, 30] [] rfl ⟨⟩ ?_
      refine W.cond rfl (fun hb2 => ?_) (fun hb2 => ?_)
      · exact absurd hb2 (by first | (simp only [decide_eq_true_eq]; omega) | (simp only [Int.toNat_natCast, hg]; simp; done) | (simp only [Int.toNat_natCast, hg, mku8, u8_rt]; simp))
      · clear hb2
        refine W.skip ?_
        refine W.reg X [] [] [0, 1, 5] [] rfl ⟨⟩ ?_
        refine ⟨k + 1, by omega, by omega, ?_⟩
        rw [wadd _ k rfl (by omega), show (k0 + (mnl mne_RShare (l.take k) : Nat)) + 1 + ((mnl (mnl (fun _ => 1))) e.share.rows : Nat) = k0 + (mnl mne_RShare (l.take (k + 1)) : Nat) by omega]
        try rfl
  · rw [mkl_len] at hb0
    try simp only [nb] at hb0
    refine W.exit ?_
    refine W.seq ?_
    refine W.reg X [] [] [4] [] rfl ⟨⟩ ?_
    refine W.ret ?_
    exact Fin.ret rfl ⟨by rw [List.take_of_length_le (by omega)], ⟨⟩⟩
theorem c_heldServerS (l : (List Srv)) (k0 : Int) (h0 : 0 ≤ k0) (h1 : k0 + ((mnl mne_Srv) l : Nat) ≤ 1099511627776) : Sound ty Tryz.prog 15 [.a (.sl .Srv ((mkl mke_Srv mne_Srv) k0 l)), .a (.lit (.int .i64 k0))] [.a (.lit (.int .i64 (k0 + ((mnl mne_Srv) l : Nat))))] := by
  refine Sound.of X Tryz.call15 Tryz.func15 rfl rfl (by decide) Tryz.ntmps15 (by simp) ?_
  intro zb
  refine W.bound 0 rfl fun hl => ?_
  rw [mkl_len] at hl
  refine W.seq ?_
  refine W.reg X [] [] [0, 1] [] rfl ⟨⟩ ?_
  refine W.seq ?_
  refine W.seq ?_
  refine W.reg X [] [] [0, 1, 5] [] rfl ⟨⟩ ?_
  refine W.block ?_
  refine W.loopO (fun k => k ≤ l.length) (fun k : Nat => [(1, .one (.a (.lit (.int .i64 (k0 + (mnl mne_Srv (l.take k) : Nat)))))), (5, .one (.a (.lit (.int .i64 k))))]) (fun k => []) (fun k => l.length - k) 0 (fun k => rfl) (Nat.zero_le _) (by simp [mnl]) ?_
  intro k hk
  refine W.seq ?_
  refine W.seq ?_
  refine W.reg X [] [] [0, 1, 5, 9] [] rfl ⟨⟩ ?_
  refine W.cond rfl (fun hb0 => ?_) (fun hb0 => ?_)
  · rw [mkl_len] at hb0
    try simp only [nb] at hb0
    have hg := mkl_getD (mk := mke_Srv) (mn := mne_Srv) (k := k0) (d := dfl .Srv) hb0
    have hms := mnl_step (mn := mne_Srv) l (dfl .Srv) k hb0
    have hml := mnl_le (mn := mne_Srv) l (k + 1)
    have hlen : (mkl mke_Srv mne_Srv k0 l).length = l.length := mkl_len
    generalize l.getD k (dfl .Srv) = e at hg hms
    simp only [mne_Srv] at hms
    simp only [mke_Srv] at hg
    refine W.skip ?_
    refine W.seq ?_
    refine W.block ?_
    refine W.seq ?_
    refine W.seq ?_
    refine W.reg X [] [] [0, 1, 5, 18] [] rfl (by (repeat' (first | exact True.intro | apply And.intro)) <;> first | (intros; omega)) ?_
    refine W.cond rfl (fun hb1 => ?_) (fun hb1 => ?_)
    · exact absurd hb1 (by first | (simp only [decide_eq_true_eq]; omega) | (simp only [Int.toNat_natCast, hg]; simp; done) | (simp only [Int.toNat_natCast, hg, mku8, u8_rt]; simp))
    · clear hb1
      refine W.skip ?_
      refine W.seq ?_
      refine W.reg X [] [] [0, 1, 5] [] rfl ⟨⟩ ?_
      rw [IntWalk.i64_in ((k0 + (mnl mne_Srv (l.take k) : Nat)) + 1) (by omega)]
      refine W.seq ?_
      refine W.seq ?_
      refine W.reg X [] [] [0, 1, 5, 27] [] rfl (by (repeat' (first | exact True.intro | apply And.intro)) <;> first | (intros; omega)) ?_
      refine W.cond rfl (fun hb2 => ?_) (fun hb2 => ?_)
      · exact absurd hb2 (by first | (simp only [decide_eq_true_eq]; omega) | (simp only [Int.toNat_natCast, hg]; simp; done) | (simp only [Int.toNat_natCast, hg, mku8, u8_rt]; simp))
      · clear hb2
        refine W.skip ?_
        refine W.seq ?_
        refine W.reg X [] [] [0, 1, 5] [] rfl ⟨⟩ ?_
        rw [IntWalk.i64_in ((k0 + (mnl mne_Srv (l.take k) : Nat)) + 1 + 1) (by omega)]
        refine W.seq ?_
        refine W.seq ?_
        refine W.reg X [] [] [0, 1, 5, 36] [] rfl (by (repeat' (first | exact True.intro | apply And.intro)) <;> first | (intros; omega)) ?_
        refine W.cond rfl (fun hb3 => ?_) (fun hb3 => ?_)
        · exact absurd hb3 (by first | (simp only [decide_eq_true_eq]; omega) | (simp only [Int.toNat_natCast, hg]; simp; done) | (simp only [Int.toNat_natCast, hg, mku8, u8_rt]; simp))
        · clear hb3
          refine W.skip ?_
          refine W.seq ?_
          refine W.reg X [] [] [0, 1, 5] [] rfl ⟨⟩ ?_
          rw [IntWalk.i64_in ((k0 + (mnl mne_Srv (l.take k) : Nat)) + 1 + 1 + 1) (by omega)]
          refine W.seq ?_
          refine W.reg X [] [(45, ⟨false, [.a (.lit (.int .i64 ((k0 + (mnl mne_Srv (l.take k) : Nat)) + 1 + 1 + 1 + ((mnl mne_RShare) e.received : Nat))))]⟩)] [0, 1, 5] [] rfl (by (repeat' (first | exact True.intro | exact c_heldReceivedShareS e.received ((k0 + (mnl mne_Srv (l.take k) : Nat)) + 1 + 1 + 1) (by omega) (by omega) | (simp only [Int.toNat_natCast, hg]; exact c_heldReceivedShareS e.received ((k0 + (mnl mne_Srv (l.take k) : Nat)) + 1 + 1 + 1) (by omega) (by omega)) | apply And.intro)) <;> first | (intros; omega)) ?_
          refine W.seq ?_
          refine W.seq ?_
          refine W.reg X [] [] [0, 1, 5, 47] [] rfl ⟨⟩ ?_
          refine W.cond rfl (fun hb4 => ?_) (fun hb4 => ?_)
          · exact absurd hb4 (by first | (simp only [decide_eq_true_eq]; omega) | (simp only [Int.toNat_natCast, hg]; simp; done) | (simp only [Int.toNat_natCast, hg, mku8, u8_rt]; simp))
          · clear hb4
            refine W.skip ?_
            refine W.seq ?_
            refine W.seq ?_
            refine W.reg X [] [] [0, 1, 5, 54] [] rfl (by (repeat' (first | exact True.intro | apply And.intro)) <;> first | (intros; omega)) ?_
            refine W.cond rfl (fun hb5 => ?_) (fun hb5 => ?_)
            · exact absurd hb5 (by first | (simp only [decide_eq_true_eq]; omega) | (simp only [Int.toNat_natCast, hg]; simp; done) | (simp only [Int.toNat_natCast, hg, mku8, u8_rt]; simp))
            · clear hb5
              refine W.skip ?_
              refine W.reg X [] [] [0, 1, 5] [] rfl ⟨⟩ ?_
              rw [IntWalk.i64_in ((k0 + (mnl mne_Srv (l.take k) : Nat)) + 1 + 1 + 1 + ((mnl mne_RShare) e.received : Nat) + 1) (by omega)]
              refine W.reg X [] [] [0, 1, 5] [] rfl ⟨⟩ ?_
              refine ⟨k + 1, by omega, by omega, ?_⟩
              rw [wadd _ k rfl (by omega), show (k0 + (mnl mne_Srv (l.take k) : Nat)) + 1 + 1 + 1 + ((mnl mne_RShare) e.received : Nat) + 1 = k0 + (mnl mne_Srv (l.take (k + 1)) : Nat) by omega]
              try rfl
  · rw [mkl_len] at hb0
    try simp only [nb] at hb0
    refine W.exit ?_
    refine W.seq ?_
    refine W.reg X [] [] [4] [] rfl ⟨⟩ ?_
    refine W.ret ?_
    exact Fin.ret rfl ⟨by rw [List.take_of_length_le (by omega)], ⟨⟩⟩
end Go.Proofs.YthjedjndamejmaaGreat.G
namespace Go.Proofs.YthjedjndamejmaaGreat.G
set_option linter.all false
open Go.RowKit L D
theorem i64w {a : Int} (h : -9223372036854775808 ≤ a ∧ a ≤ 9223372036854775807) : IntKind.i64.wrap a = a := IntWalk.i64_in _ (by omega)
theorem u8w_eq (n : Int) : IntKind.u8.wrap n = n % 256 := by
  unfold IntKind.wrap
  simp only [IntKind.signed, IntKind.bits]
  simp
/-- An integer's lowest byte. -/
def b8 (n : Int) : UInt8 := UInt8.ofNat (IntKind.u8.wrap n).toNat
theorem b8_toNat (n : Int) : ((b8 n).toNat : Int) = n % 256 := by unfold b8; rw [u8_rt, u8w_eq]
theorem u8_ext {x y : UInt8} (h : (x.toNat : Int) = y.toNat) : x = y := u8_inj h
theorem ofNat_toNat (n : Int) (h0 : 0 ≤ n) (h1 : n < 256) : ((UInt8.ofNat n.toNat).toNat : Int) = n := by
  simp; omega
theorem ofNat_eq {n : Int} {x : UInt8} (h0 : 0 ≤ n) (h1 : n < 256) (h : n = x.toNat) : UInt8.ofNat n.toNat = x := by
  apply u8_ext; rw [ofNat_toNat n h0 h1, h]
theorem b8_congr {a b : Int} (h : a % 256 = b % 256) : b8 a = b8 b := by
  apply u8_ext; rw [b8_toNat, b8_toNat, h]
theorem tmod_pos {a b : Int} (h : 0 ≤ a) : a.tmod b = a % b := Int.tmod_eq_emod_of_nonneg h
theorem tdiv_pos {a b : Int} (h : 0 ≤ a) : a.tdiv b = a / b := Int.tdiv_eq_ediv_of_nonneg h
/-- Go's remainder, made positive. -/
theorem md_eq (p q : Int) (h1 : 1 ≤ q) (h2 : q ≤ 1000000000000) : (IntKind.i64.wrap (p.tmod q + q)).tmod q = p % q := by
  have hb : -q < p.tmod q ∧ p.tmod q < q := ⟨Int.lt_tmod_of_pos p (by omega), Int.tmod_lt_of_pos p (by omega)⟩
  rw [i64w (by omega), tmod_pos (by omega), Int.add_emod_right]
  rcases Int.le_total 0 p with h | h
  · rw [tmod_pos h, Int.emod_emod_of_dvd _ (Int.dvd_refl q)]
  · have e : p.tmod q = p - q * p.tdiv q := by have := Int.tmod_add_mul_tdiv p q; omega
    rw [e, Int.sub_mul_emod_self_left]
def hs1 (h v : Int) : Int := (h * 1000003 + v % 2147483647 + 13) % 2147483647
def hsh (l : List Int) : Int := l.foldl hs1 11
def kh (k : Int) (l : List Int) : Int := hsh (k :: (l ++ [k]))
theorem hs1_range (h v : Int) : 0 ≤ hs1 h v ∧ hs1 h v < 2147483647 := ⟨Int.emod_nonneg _ (by decide), Int.emod_lt_of_pos _ (by decide)⟩
theorem foldl_snoc {α β : Type} (f : β → α → β) (b : β) (l : List α) (k : Nat) (d : α) (h : k < l.length) : (l.take (k + 1)).foldl f b = f ((l.take k).foldl f b) (l.getD k d) := by
  rw [take_snoc l k d h, List.foldl_append]; rfl
theorem hsh_range : ∀ l : List Int, 0 ≤ hsh l ∧ hsh l < 2147483647 := by
  have g : ∀ (l : List Int) (a : Int), (0 ≤ a ∧ a < 2147483647) → 0 ≤ l.foldl hs1 a ∧ l.foldl hs1 a < 2147483647 := by
    intro l
    induction l with
    | nil => intro a h; exact h
    | cons x r ih => intro a _; exact ih _ (hs1_range a x)
  exact fun l => g l 11 (by decide)
theorem kh_range (k : Int) (l : List Int) : 0 ≤ kh k l ∧ kh k l < 2147483647 := hsh_range _
theorem hs1_eq {h v : Int} (h0 : 0 ≤ h) (h1 : h < 2147483647) : (IntKind.i64.wrap (IntKind.i64.wrap (IntKind.i64.wrap (h * 1000003) + v % 2147483647) + 13)).tmod 2147483647 = hs1 h v := by
  have hv : 0 ≤ v % 2147483647 ∧ v % 2147483647 < 2147483647 := ⟨Int.emod_nonneg _ (by decide), Int.emod_lt_of_pos _ (by decide)⟩
  rw [i64w (a := h * 1000003) (by omega), i64w (a := h * 1000003 + v % 2147483647) (by omega), i64w (by omega), tmod_pos (by omega)]
  rfl
def or1 (n : Int) : Int := if n = 0 then 1 else n
theorem or1_max {n : Int} (h : 0 ≤ n) : (if n > 1 then n else 1) = or1 n := by
  unfold or1; split <;> split <;> omega
theorem or1_range {n : Int} (h : 0 ≤ n ∧ n < 2147483647) : 1 ≤ or1 n ∧ or1 n < 2147483647 := by unfold or1; split <;> omega
theorem sq_b {h : Int} (h0 : 0 ≤ h) (h1 : h < 2147483647) : 0 ≤ h * h ∧ h * h ≤ 4611686009837453316 := by
  have := Int.mul_le_mul (show h ≤ 2147483646 by omega) (show h ≤ 2147483646 by omega) h0 (by decide)
  exact ⟨Int.mul_nonneg h0 h0, by omega⟩
def cs (s k : Int) : Int := (kh s [47, k] * kh s [47, k] + 5) % 2147483647
theorem cs_range (s k : Int) : 0 ≤ cs s k ∧ cs s k < 2147483647 := ⟨Int.emod_nonneg _ (by decide), Int.emod_lt_of_pos _ (by decide)⟩
theorem cs_eq {h : Int} (h0 : 0 ≤ h) (h1 : h < 2147483647) : (IntKind.i64.wrap (IntKind.i64.wrap (h * h) + 5)).tmod 2147483647 = (h * h + 5) % 2147483647 := by
  have := sq_b h0 h1
  rw [i64w (a := h * h) (by omega), i64w (by omega), tmod_pos (by omega)]
/-- Exclusive or of byte strings, the shorter one padded with zeros. -/
def xorb : List UInt8 → List UInt8 → List UInt8
  | [], b => b
  | a, [] => a
  | x :: a, y :: b => (x ^^^ y) :: xorb a b
theorem xorb_nil_right (a : List UInt8) : xorb a [] = a := by cases a <;> rfl
theorem xorb_nil_left (a : List UInt8) : xorb [] a = a := by cases a <;> rfl
theorem xorb_length : ∀ a b : List UInt8, (xorb a b).length = max a.length b.length
  | [], b => by simp [xorb]
  | x :: a, [] => by simp [xorb]
  | x :: a, y :: b => by simp [xorb, xorb_length a b]
theorem xorb_comm : ∀ a b : List UInt8, xorb a b = xorb b a
  | [], b => by rw [xorb_nil_left, xorb_nil_right]
  | x :: a, [] => by rw [xorb_nil_left, xorb_nil_right]
  | x :: a, y :: b => by rw [xorb, xorb, xorb_comm a b, UInt8.xor_comm]
theorem xor8 (x y : UInt8) : UInt8.ofNat (IntKind.u8.wrap ((BitVec.ofInt IntKind.u8.bits (x.toNat : Int) ^^^ BitVec.ofInt IntKind.u8.bits (y.toNat : Int)).toNat : Int)).toNat = x ^^^ y := by
  have h : (BitVec.ofInt IntKind.u8.bits (x.toNat : Int) ^^^ BitVec.ofInt IntKind.u8.bits (y.toNat : Int)).toNat = (x ^^^ y).toNat := by
    rw [BitVec.ofInt_natCast, BitVec.ofInt_natCast, BitVec.toNat_xor, BitVec.toNat_ofNat, BitVec.toNat_ofNat, UInt8.toNat_xor]
    have hx := x.toNat_lt
    have hy := y.toNat_lt
    show x.toNat % 2 ^ 8 ^^^ y.toNat % 2 ^ 8 = _
    rw [Nat.mod_eq_of_lt (by omega), Nat.mod_eq_of_lt (by omega)]
  rw [h, u8w_eq]
  apply ofNat_eq <;> have := (x ^^^ y).toNat_lt <;> omega
/-- The i-th byte, 0 behind the end. -/
def at0 (l : List UInt8) (i : Nat) : UInt8 := l.getD i 0
theorem xorb_take : ∀ (a b : List UInt8) (k : Nat), k < max a.length b.length → (xorb a b).take (k + 1) = (xorb a b).take k ++ [at0 a k ^^^ at0 b k]
  | [], b, k, h => by
    rw [xorb_nil_left, take_snoc b k 0 (by simpa using h)]
    simp [at0]
  | x :: a, [], k, h => by
    rw [xorb_nil_right, take_snoc (x :: a) k 0 (by simpa using h)]
    simp [at0]
  | x :: a, y :: b, 0, h => by simp [xorb, at0]
  | x :: a, y :: b, k + 1, h => by
    rw [xorb, List.take_succ_cons, List.take_succ_cons, xorb_take a b k (by simp at h; omega)]
    simp [at0]
theorem getD_drop {α : Type} (l : List α) (k : Nat) (d : α) (h : k < l.length) : l.drop k = l.getD k d :: l.drop (k + 1) := by
  rw [List.drop_eq_getElem_cons h, List.getD_eq_getElem?_getD, List.getElem?_eq_getElem h]; rfl
/-- A list changed up to k, its rest as it was. -/
theorem part_set {α : Type} (f l : List α) (k : Nat) (d y : α) (h : k < l.length) (hf : k < f.length) (hy : f.getD k d = y) : (f.take k ++ l.drop k).set k y = f.take (k + 1) ++ l.drop (k + 1) := by
  have hk : (f.take k).length = k := by rw [List.length_take]; omega
  rw [List.set_append_right _ _ (by omega), hk, Nat.sub_self, getD_drop l k d h, List.set_cons_zero, take_snoc f k d hf, List.append_assoc, hy]
  rfl
theorem part_get {α : Type} (f l : List α) (k : Nat) (d : α) (hf : k ≤ f.length) : (f.take k ++ l.drop k).getD k d = l.getD k d := by
  have hk : (f.take k).length = k := by rw [List.length_take]; omega
  rw [List.getD_eq_getElem?_getD, List.getElem?_append_right (by omega), hk, Nat.sub_self, List.getElem?_drop, List.getD_eq_getElem?_getD, Nat.add_zero]
theorem part_len {α : Type} (f l : List α) (k : Nat) (hf : f.length = l.length) (h : k ≤ l.length) : (f.take k ++ l.drop k).length = l.length := by
  rw [List.length_append, List.length_take, List.length_drop]; omega
theorem map_snoc {α β : Type} (f : α → β) (l : List α) (k : Nat) (d : α) (h : k < l.length) : (l.take (k + 1)).map f = (l.take k).map f ++ [f (l.getD k d)] := by
  rw [take_snoc l k d h, List.map_append]; rfl
theorem range_snoc {β : Type} (f : Nat → β) (k : Nat) : (List.range (k + 1)).map f = (List.range k).map f ++ [f k] := by
  rw [List.range_succ, List.map_append]; rfl
theorem all_snoc {α : Type} (p : α → Bool) (l : List α) (k : Nat) (d : α) (h : k < l.length) : (l.take (k + 1)).all p = ((l.take k).all p && p (l.getD k d)) := by
  rw [take_snoc l k d h, List.all_append]; simp
theorem any_snoc {α : Type} (p : α → Bool) (l : List α) (k : Nat) (d : α) (h : k < l.length) : (l.take (k + 1)).any p = ((l.take k).any p || p (l.getD k d)) := by
  rw [take_snoc l k d h, List.any_append]; simp
theorem any_yes {α : Type} (l : List α) (p : α → Bool) (d : α) (k : Nat) (h : k < l.length) (h2 : p (l.getD k d) = true) : l.any p = true := by
  rw [List.any_eq_true]
  refine ⟨l.getD k d, ?_, h2⟩
  rw [List.getD_eq_getElem?_getD, List.getElem?_eq_getElem h]; simp
theorem all_no {α : Type} (l : List α) (p : α → Bool) (d : α) (k : Nat) (h : k < l.length) (h2 : p (l.getD k d) = false) : l.all p = false := by
  rw [List.all_eq_false]
  refine ⟨l.getD k d, ?_, by rw [h2]; decide⟩
  rw [List.getD_eq_getElem?_getD, List.getElem?_eq_getElem h]; simp
theorem getD_some' {α : Type} (l : List α) (k : Nat) (d : α) (h : k < l.length) : l[k]? = some (l.getD k d) := by
  rw [List.getD_eq_getElem?_getD, List.getElem?_eq_getElem h]; rfl
theorem take_le_len {α : Type} (l : List α) (k : Nat) : (l.take k).length ≤ k := by rw [List.length_take]; omega
def inr (x lo hi : Int) : Bool := if decide (x ≥ lo) then decide (x ≤ hi) else false
theorem inr_t {x lo hi : Int} : (inr x lo hi = true) = (lo ≤ x ∧ x ≤ hi) := by simp [inr]
theorem inr_f {x lo hi : Int} : (inr x lo hi = false) = ¬ (lo ≤ x ∧ x ≤ hi) := by rw [← inr_t]; simp
theorem isEmpty_t {α : Type} {l : List α} : (l.isEmpty = true) = (l = []) := by simp
theorem hsh_step (l : List Int) (k : Nat) (h : k < l.length) : hsh (l.take (k + 1)) = (IntKind.i64.wrap (IntKind.i64.wrap (IntKind.i64.wrap (hsh (l.take k) * 1000003) + (l.getD k (dfl .int)) % 2147483647) + 13)).tmod 2147483647 := by
  rw [hs1_eq (hsh_range _).1 (hsh_range _).2]
  exact foldl_snoc hs1 11 l k _ h
def b2i (l : List UInt8) : List Int := (l.length : Int) :: l.map fun c => (c.toNat : Int)
theorem b2i_step (l : List UInt8) (k : Nat) (h : k < l.length) : (l.length : Int) :: (l.take (k + 1)).map (fun c => (c.toNat : Int)) = ((l.length : Int) :: (l.take k).map (fun c => (c.toNat : Int))) ++ [IntKind.i64.wrap ((l.getD k (dfl .u8)).toNat : Int)] := by
  have := (l.getD k (dfl .u8)).toNat_lt
  rw [i64w (by omega), map_snoc (fun c : UInt8 => (c.toNat : Int)) l k (dfl .u8) h]
  rfl
def stream (s : Int) (n : Nat) : List UInt8 := (List.range n).map fun i : Nat => b8 (cs s (100 + (i : Int)) / 256)
theorem stream_len (s : Int) (n : Nat) : (stream s n).length = n := by simp [stream]
theorem stream_step (s : Int) (k : Nat) (h : k ≤ 1000) : stream s (k + 1) = stream s k ++ [UInt8.ofNat (IntKind.u8.wrap (IntKind.i64.wrap ((cs s (IntKind.i64.wrap (100 + (k : Int)))).tdiv 256))).toNat] := by
  have h1 := cs_range s (100 + (k : Int))
  rw [i64w (a := 100 + (k : Int)) (by omega), tdiv_pos h1.1, i64w (by omega)]
  exact range_snoc (fun i : Nat => b8 (cs s (100 + (i : Int)) / 256)) k
theorem lensum_step {α : Type} (l : List (List α)) (d : List α) (k : Nat) (h : k < l.length) : ((l.take (k + 1)).map List.length).sum = ((l.take k).map List.length).sum + (l.getD k d).length := sum_step List.length l d k h
theorem flatten_step {α : Type} (l : List (List α)) (d : List α) (k : Nat) (h : k < l.length) : (l.take (k + 1)).flatten = (l.take k).flatten ++ l.getD k d := by
  rw [take_snoc l k d h, List.flatten_append]; simp
theorem flatten_len {α : Type} (l : List (List α)) (k : Nat) : (l.take k).flatten.length ≤ (l.map List.length).sum := by
  rw [List.length_flatten]; exact take_sum_le l List.length k
end Go.Proofs.YthjedjndamejmaaGreat.G
namespace Go.Proofs.YthjedjndamejmaaGreat.G
set_option linter.all false
open Go.RowKit L D
theorem inplace_step {α : Type} (f l : List α) (k : Nat) (d y : α) (h : k < l.length) (hf : f.length = l.length) (hy : f.getD k d = y) : f.take (k + 1) ++ l.drop (k + 1) = (f.take k ++ l.drop k).set k y := (part_set f l k d y h (by omega) hy).symm
theorem append_step {α : Type} (f : List α) (k : Nat) (d y : α) (h : k < f.length) (hy : f.getD k d = y) : f.take (k + 1) = f.take k ++ [y] := by rw [take_snoc f k d h, hy]
theorem inplace_done {α : Type} (f l : List α) (k : Nat) (hf : f.length = l.length) (h : l.length ≤ k) : f.take k ++ l.drop k = f := by
  rw [List.take_of_length_le (by omega), List.drop_eq_nil_of_le h, List.append_nil]
theorem mapRange_get {β : Type} (n : Nat) (g : Nat → β) (k : Nat) (d : β) (h : k < n) : ((List.range n).map g).getD k d = g k := by
  rw [List.getD_eq_getElem?_getD, List.getElem?_map, List.getElem?_range h]; rfl
def encr (s : Int) (l : List UInt8) : List UInt8 := (List.range l.length).map fun i : Nat => b8 ((l.getD i (dfl .u8)).toNat + kh s [(i : Int)] % 256)
theorem encr_len (s : Int) (l : List UInt8) : (encr s l).length = l.length := by simp [encr]
theorem encr_get (s : Int) (l : List UInt8) (k : Nat) (h : k < l.length) : (encr s l).getD k (dfl .u8) = b8 ((l.getD k (dfl .u8)).toNat + kh s [(k : Int)] % 256) := mapRange_get _ _ k _ h
theorem encr_impl (s : Int) (l : List UInt8) (k : Nat) (h : k < l.length) : (encr s l).take (k + 1) ++ l.drop (k + 1) = ((encr s l).take k ++ l.drop k).set k (UInt8.ofNat (IntKind.u8.wrap ((((encr s l).take k ++ l.drop k).getD k (dfl .u8)).toNat + IntKind.u8.wrap ((kh s [(k : Int)]).tmod 256))).toNat) := by
  refine inplace_step _ _ k (dfl .u8) _ h (encr_len s l) ?_
  rw [encr_get s l k h, part_get _ _ _ _ (by rw [encr_len]; omega)]
  refine b8_congr ?_
  have := kh_range s [(k : Int)]
  rw [u8w_eq ((kh s [(k : Int)]).tmod 256), tmod_pos this.1]
  omega
theorem encr_spec (s : Int) (l : List UInt8) (k : Nat) (h : k < l.length) : (encr s l).take (k + 1) = (encr s l).take k ++ [UInt8.ofNat (IntKind.u8.wrap ((IntKind.i64.wrap (IntKind.i64.wrap ((l.getD k (dfl .u8)).toNat : Int) + (kh s [(k : Int)]).tmod 256)).tmod 256)).toNat] := by
  refine append_step _ k (dfl .u8) _ (by rw [encr_len]; exact h) ?_
  rw [encr_get s l k h]
  refine b8_congr ?_
  have := kh_range s [(k : Int)]
  have hx := (l.getD k (dfl .u8)).toNat_lt
  rw [tmod_pos this.1, i64w (a := ((l.getD k (dfl .u8)).toNat : Int)) (by omega), i64w (by omega), tmod_pos (by omega)]
  omega
theorem xorb_get (a b : List UInt8) (k : Nat) (h : k < max a.length b.length) : (xorb a b).getD k (dfl .u8) = a.getD k 0 ^^^ b.getD k 0 := by
  have h1 := xorb_take a b k h
  have h2 := take_snoc (xorb a b) k (dfl .u8) (by rw [xorb_length]; exact h)
  rw [h1] at h2
  have := List.append_inj_right h2 rfl
  simp only [List.cons.injEq, and_true] at this
  rw [← this]; rfl
theorem xor_impl (p q : List UInt8) (k : Nat) (h : k < q.length) (hl : q.length ≤ p.length) : (xorb p q).take (k + 1) ++ p.drop (k + 1) = ((xorb p q).take k ++ p.drop k).set k (UInt8.ofNat (IntKind.u8.wrap ((BitVec.ofInt IntKind.u8.bits ((((xorb p q).take k ++ p.drop k).getD k (dfl .u8)).toNat : Int) ^^^ BitVec.ofInt IntKind.u8.bits ((q.getD k (dfl .u8)).toNat : Int)).toNat : Int)).toNat) := by
  refine inplace_step _ _ k (dfl .u8) _ (by omega) (by rw [xorb_length]; omega) ?_
  rw [xorb_get p q k (by omega), part_get _ _ _ _ (by rw [xorb_length]; omega), xor8]
  rfl
theorem xor_done (p q : List UInt8) (k : Nat) (h : q.length ≤ k) (hl : q.length ≤ p.length) (hk : k ≤ q.length) : (xorb p q).take k ++ p.drop k = xorb p q := by
  have hk : k = q.length := by omega
  subst hk
  have key : ∀ p q : List UInt8, q.length ≤ p.length → (xorb p q).take q.length ++ p.drop q.length = xorb p q := by
    intro p
    induction p with
    | nil => intro q h; cases q with | nil => rfl | cons _ _ => simp at h
    | cons x p ih => intro q h; cases q with
      | nil => rw [xorb_nil_right]; rfl
      | cons y q => simp only [xorb, List.length_cons, List.take_succ_cons, List.drop_succ_cons, List.cons_append]; rw [ih q (by simpa using h)]
  exact key p q hl
theorem xor_ab (a b : List UInt8) (k : Nat) (ha : k < a.length) (hb : k < b.length) : (xorb a b).take (k + 1) = (xorb a b).take k ++ [UInt8.ofNat (IntKind.u8.wrap ((BitVec.ofInt IntKind.u8.bits ((a.getD k (dfl .u8)).toNat : Int) ^^^ BitVec.ofInt IntKind.u8.bits ((b.getD k (dfl .u8)).toNat : Int)).toNat : Int)).toNat] := by
  rw [xorb_take a b k (by omega), xor8]; rfl
theorem getD_out {α : Type} (l : List α) (k : Nat) (d : α) (h : l.length ≤ k) : l.getD k d = d := by
  rw [List.getD_eq_getElem?_getD, List.getElem?_eq_none h]; rfl
theorem xor_a (a b : List UInt8) (k : Nat) (ha : k < a.length) (hb : b.length ≤ k) : (xorb a b).take (k + 1) = (xorb a b).take k ++ [UInt8.ofNat (((a.getD k (dfl .u8)).toNat : Int)).toNat] := by
  rw [xorb_take a b k (by omega), u8_back]
  have : at0 b k = 0 := getD_out b k 0 hb
  rw [this]; simp; rfl
theorem xor_b (a b : List UInt8) (k : Nat) (ha : a.length ≤ k) (hb : k < b.length) : (xorb a b).take (k + 1) = (xorb a b).take k ++ [UInt8.ofNat (IntKind.u8.wrap ((BitVec.ofInt IntKind.u8.bits (0 : Int) ^^^ BitVec.ofInt IntKind.u8.bits ((b.getD k (dfl .u8)).toNat : Int)).toNat : Int)).toNat] := by
  rw [xorb_take a b k (by omega)]
  have : at0 a k = 0 := getD_out a k 0 ha
  rw [this]
  have := xor8 0 (b.getD k (dfl .u8))
  rw [show ((0 : UInt8).toNat : Int) = 0 from rfl] at this
  rw [this]; rfl
theorem lsz_el {l : List (List UInt8)} (h : lsz List.length l ≤ 1048576) (k : Nat) (hk : k < l.length) : (l.getD k (dfl (.sl .u8))).length ≤ 1048576 := lsz_mem h (getD_some' l k _ hk)
def mrow (key round dir rows : Int) : Int := if (1 ≤ rows ∧ rows ≤ 64) ∧ 0 ≤ round ∧ round ≤ 1000000000000 then cs (kh key [79, round, dir]) 0 % rows else -1
def crow (seed round rows : Int) : Int := if 1 ≤ rows ∧ rows ≤ 64 then cs (kh seed [157, round]) 0 % rows else -1
def ccheck (key counter : Int) (data : List UInt8) : Int := kh key ([71, counter] ++ data.map fun c => (c.toNat : Int))
theorem cc_step (l : List UInt8) (counter : Int) (k : Nat) (h : k < l.length) : [71, counter] ++ (l.take (k + 1)).map (fun c => (c.toNat : Int)) = ([71, counter] ++ (l.take k).map (fun c => (c.toNat : Int))) ++ [IntKind.i64.wrap ((l.getD k (dfl .u8)).toNat : Int)] := by
  have := (l.getD k (dfl .u8)).toNat_lt
  rw [i64w (by omega), map_snoc (fun c : UInt8 => (c.toNat : Int)) l k (dfl .u8) h, List.append_assoc]
/-- The four bytes of a check value. -/
def four (n : Int) : List UInt8 := [b8 n, b8 (n / 256), b8 (n / 65536), b8 (n / 16777216)]
theorem four_eq (n : Int) : [UInt8.ofNat (IntKind.u8.wrap n).toNat, UInt8.ofNat (IntKind.u8.wrap (n.fdiv (2 ^ (min (Int.toNat 8) IntKind.i64.bits)))).toNat, UInt8.ofNat (IntKind.u8.wrap (n.fdiv (2 ^ (min (Int.toNat 16) IntKind.i64.bits)))).toNat, UInt8.ofNat (IntKind.u8.wrap (n.fdiv (2 ^ (min (Int.toNat 24) IntKind.i64.bits)))).toNat] = four n := by
  have e1 : (2 : Int) ^ (min (Int.toNat 8) IntKind.i64.bits) = 256 := by decide
  have e2 : (2 : Int) ^ (min (Int.toNat 16) IntKind.i64.bits) = 65536 := by decide
  have e3 : (2 : Int) ^ (min (Int.toNat 24) IntKind.i64.bits) = 16777216 := by decide
  rw [e1, e2, e3, Int.fdiv_eq_ediv_of_nonneg _ (by decide), Int.fdiv_eq_ediv_of_nonneg _ (by decide), Int.fdiv_eq_ediv_of_nonneg _ (by decide)]
  rfl
def okPlain (p : Plain) : Bool := (inr p.kind 0 3) && decide ((p.body.length : Int) ≤ 14)
def okKey (k : Int) : Bool := inr k 1 2147483646
def sealOK (key counter : Int) (p : Plain) : Bool := okKey key && (inr counter 0 1000000000000) && okPlain p
def padded (key counter : Int) (p : Plain) : List UInt8 := [b8 p.kind, b8 p.body.length] ++ p.body ++ (stream (kh key [61, counter]) 18).drop p.body.length
def ckey (key counter : Int) : Int := or1 (kh key [67, counter])
def sealC (key counter : Int) (p : Plain) : List UInt8 := if sealOK key counter p then encr (ckey key counter) (padded key counter p) ++ four (ccheck key counter (encr (ckey key counter) (padded key counter p))) else []
def dkey (key dir : Int) : Int := or1 (kh key [83, dir])
def cover (seed : Int) : List UInt8 := stream (kh seed [73]) 24
end Go.Proofs.YthjedjndamejmaaGreat.G
namespace Go.Proofs.YthjedjndamejmaaGreat.G
set_option linter.all false
open Go.RowKit L D
theorem ite_tt (b c : Bool) : (if b = true then true else c) = (b || c) := by cases b <;> rfl
theorem ite_ff (b c : Bool) : (if b = true then c else false) = (b && c) := by cases b <;> rfl
theorem not_dlt (a b : Int) : (!decide (a < b)) = decide (b ≤ a) := by rw [← decide_not]; congr 1; exact propext Int.not_lt
theorem not_dle (a b : Int) : (!decide (a ≤ b)) = decide (b < a) := by rw [← decide_not]; congr 1; exact propext Int.not_le
theorem bne_not (a b : Int) : (a != b) = !(a == b) := rfl
theorem deq (a b : Int) : decide (a = b) = (a == b) := rfl
theorem or_no {E R S : Bool} (h : E = true) (he : E = !R) : (R && S) = false := by
  rw [h] at he
  cases R with
  | false => rfl
  | true => exact absurd he (by decide)
theorem or_no1 {E R : Bool} (h : E = true) (he : E = !R) : R = false := by
  rw [h] at he
  cases R with
  | false => rfl
  | true => exact absurd he (by decide)
theorem or_yes {E R : Bool} (h : E = false) (he : E = !R) : R = true := by
  rw [h] at he
  cases R with
  | true => rfl
  | false => exact absurd he (by decide)
def okDB (d : DB) : Bool := decide ((d.rows.length : Int) ≤ 64) && d.rows.all fun r => decide ((r.length : Int) = 24)
def okRec (rows : Int) (l : List RShare) (i : Nat) : Bool := inr (l.getD i (dfl .RShare)).client 0 7 && !(decide ((0 : Int) < i) && decide ((l.getD i (dfl .RShare)).client ≤ (l.getD (i - 1) (dfl .RShare)).client)) && okDB (l.getD i (dfl .RShare)).share && (((l.getD i (dfl .RShare)).share.rows.length : Int) == rows)
def hdSrv (s : Srv) : Bool := inr s.id 0 3 && inr s.rows 1 64 && inr s.behavior 0 3 && inr s.round 0 100000 && decide ((s.received.length : Int) ≤ 8)
def okSrv (s : Srv) : Bool := hdSrv s && (List.range s.received.length).all (okRec s.rows s.received)
def okAr (rows : Int) (l : List ARound) (i : Nat) : Bool := inr (l.getD i (dfl .ARound)).round 0 100000 && !(decide ((0 : Int) < i) && decide ((l.getD i (dfl .ARound)).round ≤ (l.getD (i - 1) (dfl .ARound)).round)) && okDB (l.getD i (dfl .ARound)).db && (((l.getD i (dfl .ARound)).db.rows.length : Int) == rows)
def hdArc (a : Arc) : Bool := inr a.rows 1 64 && decide ((a.rounds.length : Int) ≤ 8)
def okArc (a : Arc) : Bool := hdArc a && (List.range a.rounds.length).all (okAr a.rows a.rounds)
def lastR (a : Arc) : Int := if a.rounds.length = 0 then -1 else (a.rounds.getD (a.rounds.length - 1) (dfl .ARound)).round
def long (b : List UInt8) : Bool := decide ((14 : Int) < b.length)
def okCli (c : Cli) : Bool := inr c.id 0 7 && inr c.friend 0 7 && !(c.id == c.friend) && okKey c.key && decide ((c.submitted.length : Int) ≤ 16) && decide ((c.inbox.length : Int) ≤ 16) && !c.submitted.any long && !c.inbox.any long && inr c.sent 0 c.submitted.length && inr c.next 0 100000
def sameOwn (a b : Cli) : Bool := (a.id == b.id) && (a.friend == b.friend) && (a.key == b.key) && (a.seed == b.seed) && (a.submitted == b.submitted)
def preL (a b : List (List UInt8)) : Bool := decide ((a.length : Int) ≤ b.length) && (a == b.take a.length)
def okDev (d : Dev) : Bool := okCli d.live && okCli d.saved && sameOwn d.live d.saved && decide (d.saved.sent ≤ d.live.sent) && decide (d.saved.next ≤ d.live.next) && preL d.saved.inbox d.live.inbox
def srvCnt (n : Int) : Bool := inr n 2 4
def okS (x : Wld) (i : Nat) : Bool := okSrv (x.servers.getD i (dfl .Srv)) && ((x.servers.getD i (dfl .Srv)).id == (i : Int)) && ((x.servers.getD i (dfl .Srv)).rows == x.rows) && ((x.servers.getD i (dfl .Srv)).round == x.round) && decide (((x.servers.getD i (dfl .Srv)).received.length : Int) ≤ 0)
def okD (x : Wld) (i : Nat) : Bool := okDev (x.devices.getD i (dfl .Dev)) && ((x.devices.getD i (dfl .Dev)).live.id == (i : Int)) && ((x.devices.getD i (dfl .Dev)).live.friend == ((i ^^^ 1 : Nat) : Int)) && ((x.devices.getD i (dfl .Dev)).live.key == (x.devices.getD (i ^^^ 1) (dfl .Dev)).live.key) && decide ((x.devices.getD i (dfl .Dev)).live.next ≤ x.round)
def hdW (x : Wld) : Bool := inr x.rows 1 64 && srvCnt x.servers.length && inr x.devices.length 2 8 && ((x.devices.length : Int).tmod 2 == 0) && okArc x.archive && (x.archive.rows == x.rows) && decide (lastR x.archive < x.round) && okKey x.master && inr x.round 0 100000 && decide (0 ≤ x.cancelled)
def okW (x : Wld) : Bool := hdW x && (List.range x.servers.length).all (okS x) && (List.range x.devices.length).all (okD x)
theorem range_all {p : Nat → Bool} {k : Nat} (h : (List.range k).all p = true) (hk : p k = true) : (List.range (k + 1)).all p = true := by
  rw [List.range_succ, List.all_append, h]; simp [hk]
theorem range_no {p : Nat → Bool} {k n : Nat} (h : k < n) (hk : p k = false) : (List.range n).all p = false := by
  rw [List.all_eq_false]
  exact ⟨k, List.mem_range.2 h, by rw [hk]; decide⟩
/-- The place of the first element that p takes; -1 if there is none. -/
def fidx {α : Type} (p : α → Bool) (l : List α) : Int := if l.any p then (l.findIdx p : Int) else -1
theorem fidx_hit {α : Type} {p : α → Bool} {l : List α} {k : Nat} (d : α) (h : k < l.length) (h1 : (l.take k).any p = false) (h2 : p (l.getD k d) = true) : fidx p l = k := by
  have ha : l.any p = true := any_yes l p d k h h2
  have e : l = l.take k ++ l.getD k d :: l.drop (k + 1) := by rw [← getD_drop l k d h, List.take_append_drop]
  unfold fidx
  rw [if_pos ha]
  have hf : l.findIdx p = k := by
    rw [List.findIdx_eq h]
    refine ⟨?_, fun j hj => ?_⟩
    · rw [List.getD_eq_getElem?_getD, List.getElem?_eq_getElem h] at h2; exact h2
    · rw [List.any_eq_false] at h1
      have := h1 l[j] (by rw [List.mem_take_iff_getElem]; exact ⟨j, by omega, rfl⟩)
      simpa using this
  rw [hf]
theorem fidx_miss {α : Type} {p : α → Bool} {l : List α} (h : l.any p = false) : fidx p l = -1 := by unfold fidx; rw [if_neg (by rw [h]; decide)]
theorem fidx_ge {α : Type} (p : α → Bool) (l : List α) : decide (fidx p l ≥ 0) = l.any p := by
  unfold fidx
  cases h : l.any p
  · rw [if_neg (by decide)]; rfl
  · rw [if_pos rfl]; simp
theorem any_no {α : Type} {p : α → Bool} {l : List α} {k : Nat} (d : α) (h : k < l.length) (h1 : (l.take k).any p = false) (h2 : p (l.getD k d) = false) : (l.take (k + 1)).any p = false := by
  rw [any_snoc p l k d h, h1, h2]; rfl
theorem any_not_all {α : Type} (l : List α) (p : α → Bool) : l.all p = !(l.any fun b => !p b) := by
  induction l with
  | nil => rfl
  | cons a r ih => simp [ih]
end Go.Proofs.YthjedjndamejmaaGreat.G
namespace Go.Proofs.YthjedjndamejmaaGreat.G
set_option linter.all false
open Go.RowKit L D
theorem xor_lt (k n : Nat) (h : k < n) (he : n % 2 = 0) : k ^^^ 1 < n := by
  have h1 : (k ^^^ 1) / 2 = k / 2 := by
    have := Nat.xor_div_two (a := k) (b := 1)
    simpa using this
  have h2 : k ^^^ 1 < 2 * (k / 2) + 2 := by
    have := Nat.div_add_mod (k ^^^ 1) 2
    have := Nat.mod_lt (k ^^^ 1) (show 0 < 2 by decide)
    omega
  omega
theorem xorN (k : Nat) (h : k < 2 ^ 62) : IntKind.i64.wrap (BitVec.ofInt IntKind.i64.bits (k : Int) ^^^ BitVec.ofInt IntKind.i64.bits 1).toNat = ((k ^^^ 1 : Nat) : Int) := by
  have h2 : (BitVec.ofInt IntKind.i64.bits (k : Int) ^^^ BitVec.ofInt IntKind.i64.bits 1).toNat = k ^^^ 1 := by
    rw [BitVec.toNat_xor]
    have h1 : (BitVec.ofInt IntKind.i64.bits 1).toNat = 1 := by decide
    have h2 : (BitVec.ofInt IntKind.i64.bits (k : Int)).toNat = k % 2 ^ 64 := by rw [BitVec.ofInt_natCast, BitVec.toNat_ofNat]; rfl
    rw [h1, h2, Nat.mod_eq_of_lt (by omega)]
  have hx := Nat.xor_lt_two_pow (n := 62) h (show 1 < 2 ^ 62 by decide)
  rw [h2, i64w (by omega)]
theorem hdW_dev {x : Wld} (h : hdW x = true) : x.devices.length % 2 = 0 ∧ x.devices.length ≤ 8 ∧ 2 ≤ x.devices.length := by
  simp only [hdW, inr_t, Bool.and_eq_true, beq_iff_eq] at h
  have h1 := h.1.1.1.1.1.1.2
  have h2 := h.1.1.1.1.1.1.1.2
  rw [tmod_pos (by omega)] at h1
  omega
theorem okW_hd {x : Wld} (h : okW x = true) : hdW x = true := by simp only [okW, Bool.and_eq_true] at h; exact h.1.1
theorem okW_srv {x : Wld} (h : okW x = true) : x.servers.length ≤ 4 ∧ 2 ≤ x.servers.length := by
  have := okW_hd h
  simp only [hdW, srvCnt, inr_t, Bool.and_eq_true, beq_iff_eq] at this
  have h1 := this.1.1.1.1.1.1.1.1.2
  omega
def svW (x : Wld) : Bool := (List.range x.servers.length).all (okS x) && srvCnt x.servers.length
def dvW (x : Wld) : Bool := ((x.devices.length : Int).tmod 2 == 0) && inr x.devices.length 2 8 && (List.range x.devices.length).all (okD x)
def hasC (x : Wld) (c : Int) : Bool := inr c 0 (x.devices.length - 1)
def dirn (c : Cli) : Int := if c.id < c.friend then 0 else 1
def mcell (c : Cli) (at' : Int) : List UInt8 := sealC (dkey c.key (dirn c)) at' ⟨1, c.submitted.getD at'.toNat (dfl (.sl .u8))⟩
def cwOK (c : Cli) (r n : Int) : Bool := okCli c && inr r 0 100000 && inr n 1 64
def cwRow (c : Cli) (r n : Int) : Int := if cwOK c r n = true then (if c.sent < c.submitted.length then mrow c.key r (dirn c) n else crow c.seed r n) else 0
def cwCell (c : Cli) (r n : Int) : List UInt8 := if cwOK c r n = true then (if c.sent < c.submitted.length then mcell c c.sent else cover (kh c.seed [r])) else []
theorem cwOK_sent {c : Cli} {r n : Int} (h : cwOK c r n = true) : 0 ≤ c.sent ∧ c.sent ≤ c.submitted.length := by
  simp only [cwOK, okCli, inr_t, Bool.and_eq_true] at h
  exact h.1.1.1.2
theorem sealOK_body {k c : Int} {p : Plain} (h : sealOK k c p = true) : p.body.length ≤ 14 := by
  simp only [sealOK, okPlain, Bool.and_eq_true, decide_eq_true_eq] at h
  omega
end Go.Proofs.YthjedjndamejmaaGreat.G
namespace Go.Proofs.YthjedjndamejmaaGreat.G
set_option linter.all false
open Go.RowKit L D
theorem maxi0 (n : Nat) (h : n ≤ 1048576) : maxi 0 (IntKind.i64.wrap ((n : Int) - 1)) = ((n - 1 : Nat) : Int) := by
  rw [i64w (by omega)]; unfold maxi; split <;> omega
end Go.Proofs.YthjedjndamejmaaGreat.G
namespace Go.Proofs.YthjedjndamejmaaGreat.G
set_option linter.all false
open Go.RowKit L D
theorem dev_le {x : Wld} (h : size_Wld x ≤ 1048576) : x.devices.length ≤ 1048576 := by
  have h2 : lsz size_Dev x.devices ≤ 1048576 := by unfold size_Wld at h; omega
  exact lsz_len h2
theorem srv_le {x : Wld} (h : size_Wld x ≤ 1048576) : x.servers.length ≤ 1048576 := by
  have h2 : lsz size_Srv x.servers ≤ 1048576 := by unfold size_Wld at h; omega
  exact lsz_len h2
end Go.Proofs.YthjedjndamejmaaGreat.G
namespace Go.Proofs.YthjedjndamejmaaGreat.G
set_option linter.all false
open Go.RowKit L D
def zer : List UInt8 := List.replicate 24 (dfl .u8)
def newDB (rows : Int) : DB := ⟨if 0 ≤ rows ∧ rows ≤ 64 then List.replicate rows.toNat zer else []⟩
theorem rep_take {α : Type} (n k : Nat) (x : α) (h : k < n) : (List.replicate n x).take (k + 1) = (List.replicate n x).take k ++ [x] := by
  rw [List.take_replicate, List.take_replicate, Nat.min_eq_left (by omega), Nat.min_eq_left (by omega), List.replicate_succ']
theorem newDB_len (rows : Int) : (newDB rows).rows.length ≤ 64 := by
  unfold newDB; dsimp only; split
  · simp; omega
  · simp
theorem newDB_pos {rows : Int} (h : 0 ≤ rows ∧ rows ≤ 64) : (newDB rows).rows = List.replicate rows.toNat zer := by unfold newDB; dsimp only; rw [if_pos h]
theorem newDB_step (rows : Int) (k : Nat) (h0 : (k : Int) < rows) (h1 : rows ≤ 64) : (newDB rows).rows.take (k + 1) = (newDB rows).rows.take k ++ [zer] := by
  rw [newDB_pos (by omega)]; exact rep_take _ _ _ (by omega)
theorem newDB_in (rows : Int) (k : Nat) (h0 : (k : Int) < rows) (h1 : rows ≤ 64) : k < (newDB rows).rows.length := by
  rw [newDB_pos (by omega)]; simp; omega
theorem newDB_end (rows : Int) (k : Nat) (h : rows ≤ 64 → rows ≤ k) : (newDB rows).rows.take k = (newDB rows).rows := by
  refine List.take_of_length_le ?_
  unfold newDB; dsimp only; split
  · simp; omega
  · simp
def repOK (d : DB) (i : Int) (c : List UInt8) : Bool := inr i 0 (IntKind.i64.wrap ((d.rows.length : Int) - 1)) && decide ((c.length : Int) = 24)
def repDB (d : DB) (i : Int) (c : List UInt8) : DB := if repOK d i c then ⟨d.rows.set i.toNat c⟩ else d
theorem repOK_b {d : DB} {i : Int} {c : List UInt8} (hl : d.rows.length ≤ 1048576) (h : repOK d i c = true) : 0 ≤ i ∧ i < d.rows.length ∧ c.length = 24 := by
  simp only [repOK, Bool.and_eq_true, inr_t, decide_eq_true_eq] at h
  rw [i64w (by omega)] at h
  omega
theorem repDB_pos {d : DB} {i : Int} {c : List UInt8} (h : repOK d i c = true) : repDB d i c = ⟨d.rows.set i.toNat c⟩ := by rw [repDB, if_pos h]
theorem repDB_neg {d : DB} {i : Int} {c : List UInt8} (h : repOK d i c = false) : repDB d i c = d := by rw [repDB, if_neg (by rw [h]; decide)]
def xdOK (a b : DB) : Bool := (okDB a && okDB b) && decide ((a.rows.length : Int) = b.rows.length)
def xdRows (a b : DB) : List (List UInt8) := List.zipWith xorb a.rows b.rows
def xorDB (a b : DB) : DB := if xdOK a b then ⟨xdRows a b⟩ else a
theorem okDB_len {d : DB} (h : okDB d = true) : d.rows.length ≤ 64 := by
  simp only [okDB, Bool.and_eq_true, decide_eq_true_eq] at h; omega
theorem okDB_el {d : DB} (h : okDB d = true) (k : Nat) (hk : k < d.rows.length) : (d.rows.getD k (dfl (.sl .u8))).length = 24 := by
  simp only [okDB, Bool.and_eq_true, List.all_eq_true, decide_eq_true_eq] at h
  have := h.2 (d.rows.getD k (dfl (.sl .u8))) (by rw [List.getD_eq_getElem?_getD, List.getElem?_eq_getElem hk]; exact List.getElem_mem _)
  omega
theorem xdOK_b {a b : DB} (h : xdOK a b = true) : okDB a = true ∧ okDB b = true ∧ a.rows.length = b.rows.length ∧ a.rows.length ≤ 64 := by
  simp only [xdOK, Bool.and_eq_true, decide_eq_true_eq] at h
  have := okDB_len h.1.1
  exact ⟨h.1.1, h.1.2, by omega, this⟩
theorem xdRows_len {a b : DB} (h : xdOK a b = true) : (xdRows a b).length = a.rows.length := by
  have := xdOK_b h
  rw [xdRows, List.length_zipWith]; omega
theorem xdRows_get {a b : DB} (h : xdOK a b = true) (k : Nat) (hk : k < a.rows.length) : (xdRows a b).getD k (dfl (.sl .u8)) = xorb (a.rows.getD k (dfl (.sl .u8))) (b.rows.getD k (dfl (.sl .u8))) := by
  have hb := xdOK_b h
  rw [xdRows, List.getD_eq_getElem?_getD, List.getD_eq_getElem?_getD, List.getD_eq_getElem?_getD, List.getElem?_zipWith, List.getElem?_eq_getElem hk, List.getElem?_eq_getElem (show k < b.rows.length by omega)]
  rfl
theorem xdRows_spec {a b : DB} (h : xdOK a b = true) (k : Nat) (hk : k < a.rows.length) : (xdRows a b).take (k + 1) = (xdRows a b).take k ++ [xorb (a.rows.getD k (dfl (.sl .u8))) (b.rows.getD k (dfl (.sl .u8)))] := by
  rw [take_snoc _ k (dfl (.sl .u8)) (by rw [xdRows_len h]; exact hk), xdRows_get h k hk]
theorem xdRows_impl {a b : DB} (h : xdOK a b = true) (k : Nat) (hk : k < b.rows.length) : (xdRows a b).take (k + 1) ++ a.rows.drop (k + 1) = ((xdRows a b).take k ++ a.rows.drop k).set k (xorb (((xdRows a b).take k ++ a.rows.drop k).getD k (dfl (.sl .u8))) (b.rows.getD k (dfl (.sl .u8)))) := by
  have hb := xdOK_b h
  have hl := xdRows_len h
  rw [part_set _ _ k (dfl (.sl .u8)) _ (by omega) (by omega)]
  rw [part_get _ _ _ _ (by omega), xdRows_get h k (by omega)]
theorem xd_part {a b : DB} (h : xdOK a b = true) (k : Nat) (hk : k < b.rows.length) : ((xdRows a b).take k ++ a.rows.drop k).getD k (dfl (.sl .u8)) = a.rows.getD k (dfl (.sl .u8)) := by
  have hb := xdOK_b h
  have hl := xdRows_len h
  rw [part_get _ _ _ _ (by omega)]
theorem xorDB_pos {a b : DB} (h : xdOK a b = true) : xorDB a b = ⟨xdRows a b⟩ := by rw [xorDB, if_pos h]
theorem xorDB_neg {a b : DB} (h : xdOK a b = false) : xorDB a b = a := by rw [xorDB, if_neg (by rw [h]; decide)]
def wseeds (x : Wld) (c : Int) : List Int := (List.range (x.servers.length - 1)).map fun i : Nat => kh x.seed [223, x.round, c, (i : Int)]
theorem wseeds_len (x : Wld) (c : Int) : (wseeds x c).length = x.servers.length - 1 := by simp [wseeds]
theorem wseeds_step (x : Wld) (c : Int) (k : Nat) (h : k < x.servers.length - 1) : (wseeds x c).take (k + 1) = (wseeds x c).take k ++ [kh x.seed [223, x.round, c, (k : Int)]] := by
  rw [take_snoc _ k (dfl .int) (by rw [wseeds_len]; exact h), wseeds, mapRange_get _ _ _ _ h]
def unOK (rows i : Int) (c : List UInt8) : Bool := inr rows 1 64 && repOK (newDB rows) i c
def unW (rows i : Int) (c : List UInt8) : DB := if inr rows 1 64 then repDB (newDB rows) i c else ⟨[]⟩
theorem zer_len : zer.length = 24 := by simp [zer]
theorem newDB_lsz (rows : Int) : lsz List.length (newDB rows).rows ≤ 1048576 := by
  have h := newDB_len rows
  have h2 : ((newDB rows).rows.map List.length).sum ≤ 24 * (newDB rows).rows.length := by
    unfold newDB; dsimp only; split
    · simp [zer_len]; omega
    · simp
  unfold lsz; omega
end Go.Proofs.YthjedjndamejmaaGreat.G
namespace Go.Proofs.YthjedjndamejmaaGreat.G
set_option linter.all false
open Go.RowKit L D
theorem okDB_iff {d : DB} : okDB d = true ↔ d.rows.length ≤ 64 ∧ ∀ r, r ∈ d.rows → r.length = 24 := by
  simp only [okDB, Bool.and_eq_true, decide_eq_true_eq, List.all_eq_true]
  constructor
  · rintro ⟨h1, h2⟩; exact ⟨by omega, fun r hr => by have := h2 r hr; omega⟩
  · rintro ⟨h1, h2⟩; exact ⟨by omega, fun r hr => by have := h2 r hr; omega⟩
theorem okDB_lsz {d : DB} (h : okDB d = true) : lsz List.length d.rows ≤ 1048576 := by
  obtain ⟨h1, h2⟩ := okDB_iff.1 h
  have h3 : ∀ l : List (List UInt8), (∀ r, r ∈ l → r.length = 24) → (l.map List.length).sum = 24 * l.length := by
    intro l
    induction l with
    | nil => intro _; rfl
    | cons x r ih => intro hl; rw [List.map_cons, List.sum_cons, ih fun y hy => hl y (by simp [hy]), hl x (by simp), List.length_cons]; omega
  have := h3 _ h2
  unfold lsz; omega
theorem xorDB_ok {a b : DB} (ha : okDB a = true) (hb : okDB b = true) : okDB (xorDB a b) = true := by
  cases h : xdOK a b with
  | false => rw [xorDB_neg h]; exact ha
  | true =>
    rw [xorDB_pos h, okDB_iff]
    have hl := xdRows_len h
    refine ⟨by have := okDB_len ha; show (xdRows a b).length ≤ 64; omega, fun r hr => ?_⟩
    obtain ⟨k, hk⟩ := List.getElem?_of_mem hr
    have hk2 : k < (xdRows a b).length := (List.getElem?_eq_some_iff.1 hk).1
    have hg := xdRows_get h k (by omega)
    rw [List.getD_eq_getElem?_getD, hk] at hg
    have hx := xdOK_b h
    rw [show r = _ from hg, xorb_length, okDB_el ha k (by omega), okDB_el hb k (by omega)]; rfl
def mdbRows (s rows : Int) : List (List UInt8) := (List.range rows.toNat).map fun r : Nat => stream (IntKind.i64.wrap (s + IntKind.i64.wrap (1000 * (r : Int)))) (24 : Int).toNat
def mdb (s rows : Int) : DB := ⟨mdbRows s rows⟩
theorem mdbRows_len (s rows : Int) : (mdbRows s rows).length = rows.toNat := by simp [mdbRows]
theorem mdbRows_step (s rows : Int) (k : Nat) (h : k < rows.toNat) : (mdbRows s rows).take (k + 1) = (mdbRows s rows).take k ++ [stream (IntKind.i64.wrap (s + IntKind.i64.wrap (1000 * (k : Int)))) (24 : Int).toNat] := by
  rw [take_snoc _ k (dfl (.sl .u8)) (by rw [mdbRows_len]; exact h), mdbRows, mapRange_get _ _ _ _ h]
theorem mdb_ok (s rows : Int) (h : rows ≤ 64) : okDB (mdb s rows) = true := by
  rw [okDB_iff]
  refine ⟨by show (mdbRows s rows).length ≤ 64; rw [mdbRows_len]; omega, fun r hr => ?_⟩
  obtain ⟨k, _, rfl⟩ := List.mem_map.1 (show r ∈ mdbRows s rows from hr)
  exact stream_len _ _
def mwOK (rows i : Int) (c : List UInt8) (sd : List Int) : Bool := unOK rows i c && srvCnt (IntKind.i64.wrap ((sd.length : Int) + 1))
def lastW (rows i : Int) (c : List UInt8) (sd : List Int) : DB := sd.foldl (fun d s => xorDB d (mdb s rows)) (unW rows i c)
def makeW (rows i : Int) (c : List UInt8) (sd : List Int) : List DB := if mwOK rows i c sd then sd.map (fun s => mdb s rows) ++ [lastW rows i c sd] else []
theorem unW_ok {rows i : Int} {c : List UInt8} (h : unOK rows i c = true) : okDB (unW rows i c) = true ∧ 1 ≤ rows ∧ rows ≤ 64 := by
  simp only [unOK, Bool.and_eq_true] at h
  obtain ⟨h1, h2⟩ := h
  have hr : 1 ≤ rows ∧ rows ≤ 64 := by rw [inr_t] at h1; exact h1
  have hb := repOK_b (Nat.le_trans (newDB_len rows) (by decide)) h2
  refine ⟨?_, hr⟩
  rw [unW, if_pos h1, repDB_pos h2, okDB_iff, newDB_pos (by omega)]
  refine ⟨by simp; omega, fun r hr => ?_⟩
  rcases List.mem_or_eq_of_mem_set hr with h | rfl
  · rw [(List.mem_replicate.1 h).2, zer_len]
  · exact hb.2.2
theorem lastW_step (rows i : Int) (c : List UInt8) (sd : List Int) (k : Nat) (h : k < sd.length) : lastW rows i c (sd.take (k + 1)) = xorDB (lastW rows i c (sd.take k)) (mdb (sd.getD k (dfl .int)) rows) := foldl_snoc _ _ sd k _ h
theorem lastW_ok {rows i : Int} {c : List UInt8} (h : unOK rows i c = true) (sd : List Int) : okDB (lastW rows i c sd) = true := by
  have hu := unW_ok h
  have g : ∀ (l : List Int) (d : DB), okDB d = true → okDB (l.foldl (fun d s => xorDB d (mdb s rows)) d) = true := by
    intro l
    induction l with
    | nil => intro d hd; exact hd
    | cons x r ih => intro d hd; exact ih _ (xorDB_ok hd (mdb_ok x rows hu.2.2))
  exact g sd _ hu.1
theorem mwOK_len {rows i : Int} {c : List UInt8} {sd : List Int} (h : mwOK rows i c sd = true) (hl : sd.length ≤ 1048576) : unOK rows i c = true ∧ sd.length ≤ 3 := by
  simp only [mwOK, srvCnt, Bool.and_eq_true, inr_t] at h
  rw [i64w (by omega)] at h
  exact ⟨h.1, by omega⟩
theorem unOK_row (rows i : Int) (c : List UInt8) : unOK rows i c = (inr rows 1 64 && inr i 0 (IntKind.i64.wrap (rows - 1)) && decide ((c.length : Int) = 24)) := by
  unfold unOK
  cases h : inr rows 1 64 with
  | false => rfl
  | true =>
    rw [inr_t] at h
    have : ((newDB rows).rows.length : Int) = rows := by rw [newDB_pos (by omega)]; simp; omega
    rw [repOK, this]
    simp
theorem unW_row {rows i : Int} {c : List UInt8} {sd : List Int} (h : mwOK rows i c sd = true) : repDB (newDB rows) i c = unW rows i c := by
  simp only [mwOK, unOK, Bool.and_eq_true] at h
  rw [unW, if_pos h.1.1]
end Go.Proofs.YthjedjndamejmaaGreat.G
namespace Go.Proofs.YthjedjndamejmaaGreat.G
set_option linter.all false
open Go.RowKit L D
theorem sealC_len (k c : Int) (p : Plain) : (sealC k c p).length ≤ 100 := by
  unfold sealC
  split
  · rename_i h
    have hb := sealOK_body h
    have hp : (padded k c p).length ≤ 40 := by
      unfold padded
      simp only [List.length_append, List.length_drop, List.length_cons, List.length_nil, stream_len]; omega
    rw [List.length_append, encr_len]
    simp only [four, List.length_cons, List.length_nil]; omega
  · exact Nat.zero_le _
theorem cwCell_len (c : Cli) (r n : Int) : (cwCell c r n).length ≤ 1048576 := by
  unfold cwCell
  split
  · split
    · exact Nat.le_trans (sealC_len _ _ _) (by decide)
    · unfold cover; rw [stream_len]; decide
  · exact Nat.zero_le _
def liv (x : Wld) (c : Int) : Cli := (x.devices.getD c.toNat (dfl .Dev)).live
def sharesW (x : Wld) (c : Int) : List DB := makeW x.rows (cwRow (liv x c) x.round x.rows) (cwCell (liv x c) x.round x.rows) (wseeds x c)
theorem sharesW_neg {x : Wld} {c : Int} (h : cwOK (liv x c) x.round x.rows = false) : sharesW x c = [] := by
  have hc : cwCell (liv x c) x.round x.rows = [] := by rw [cwCell, if_neg (by rw [h]; decide)]
  unfold sharesW makeW
  rw [hc]
  rw [if_neg]
  simp [mwOK, unOK, repOK]
def wsOK (x : Wld) (c : Int) : Bool := okW x && hasC x c
def wshares (x : Wld) (c : Int) : List DB := if wsOK x c then sharesW x c else []
theorem wsOK_c {x : Wld} {c : Int} (h : wsOK x c = true) : 0 ≤ c ∧ c < x.devices.length := by
  simp only [wsOK, hasC, inr_t, Bool.and_eq_true] at h
  omega
end Go.Proofs.YthjedjndamejmaaGreat.G
