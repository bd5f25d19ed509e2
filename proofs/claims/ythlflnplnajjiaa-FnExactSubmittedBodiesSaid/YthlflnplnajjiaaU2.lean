/-
  From cells back to data: what an element is made of.
-/
import Derived.Test.YthlflnplnajjiaaU1
namespace Go.Proofs.Ythlflnplnajjiaa.G
set_option linter.all false
open Go.RowKit L D
def castL : (t t' : Tag) → List (T t') → Option (List (T t))
  | .int, .int, l => some l
  | .u8, .u8, l => some l
  | .str, .str, l => some l
  | .sl .int, .sl .int, l => some l
  | .sl .u8, .sl .u8, l => some l
  | .sl .str, .sl .str, l => some l
  | .sl (.sl .u8), .sl (.sl .u8), l => some l
  | .sl (.sl .int), .sl (.sl .int), l => some l
  | .DB, .DB, l => some l
  | .RShare, .RShare, l => some l
  | .Srv, .Srv, l => some l
  | .ARound, .ARound, l => some l
  | .Arc, .Arc, l => some l
  | .Cli, .Cli, l => some l
  | .Dev, .Dev, l => some l
  | .Wld, .Wld, l => some l
  | .Ev, .Ev, l => some l
  | .Trf, .Trf, l => some l
  | .Rcp, .Rcp, l => some l
  | .Plain, .Plain, l => some l
  | .SAns, .SAns, l => some l
  | _, _, _ => none
theorem castL_ok {t t' : Tag} {l : List (T t')} {l2 : List (T t)} (h : castL t t' l = some l2) : ∃ e : t' = t, l2 = e ▸ l := by
  unfold castL at h
  split at h <;> first
    | (simp only [Option.some.injEq] at h; exact ⟨rfl, h.symm⟩)
    | cases h
def gi : V → Option Int
  | .lit (.int .i64 n) => some n
  | _ => none
def gs (t : Tag) : V → Option (List (T t))
  | .sl t' l => castL t t' l
  | .lit (.slice none 0 0) => some []
  | _ => none
theorem gi_ok {w : World} {v : V} {u : Value} {f : List Nat} {n : Int} (h : gi v = some n) (hr : RI w v u f) : u = .int .i64 n ∧ f = [] := by
  unfold gi at h
  split at h
  · simp only [Option.some.injEq] at h
    subst h
    exact ⟨hr.1, hr.2.2⟩
  · cases h
theorem gs_ok {w : World} {t : Tag} {v : V} {u : Value} {f : List Nat} {l : List (T t)} (h : gs t v = some l) (hr : RI w v u f) : Sl (kk t) (rd t) w u l f := by
  unfold gs at h
  split at h
  · rename_i t' l'
    obtain ⟨he, rfl⟩ := castL_ok h
    subst he
    exact hr
  · simp only [Option.some.injEq] at h
    subst h
    obtain ⟨rfl, _, rfl⟩ := hr
    exact ⟨none, 0, rfl, Nat.le_refl _, Nat.zero_le _, Or.inl ⟨rfl, rfl, fun _ => rfl⟩⟩
  · cases h
def enc_DB : List V → Option DB
  | [a0] => match gs (.sl .u8) a0 with
    | some x0 => some ⟨x0⟩
    | _ => none
  | _ => none
theorem enc_DB_ok {w : World} {c : List V} {us : List Value} {fp : List Nat} {x : DB} (h : enc_DB c = some x) (hr : RIs w c us fp) : EDB w us x fp := by
  unfold enc_DB at h
  split at h
  · rename_i a0
    split at h
    · rename_i x0 e0
      simp only [Option.some.injEq] at h
      subst h
      match us, hr with
      | [u0], ⟨f0, g0, r0, h9, q0⟩ =>
        have h9 : g0 = [] := h9
        have z0 := gs_ok e0 r0
        refine ⟨u0, f0, ?_, z0, ?_⟩
        · rfl
        · simp [q0, h9]
    · cases h
  · cases h
def enc_RShare : List V → Option RShare
  | [a0, a1] => match gi a0, enc_DB [a1] with
    | some x0, some x1 => some ⟨x0, x1⟩
    | _, _ => none
  | _ => none
theorem enc_RShare_ok {w : World} {c : List V} {us : List Value} {fp : List Nat} {x : RShare} (h : enc_RShare c = some x) (hr : RIs w c us fp) : ERShare w us x fp := by
  unfold enc_RShare at h
  split at h
  · rename_i a0 a1
    split at h
    · rename_i x0 x1 e0 e1
      simp only [Option.some.injEq] at h
      subst h
      match us, hr with
      | [u0, u1], ⟨f0, g0, r0, ⟨f1, g1, r1, h9, q1⟩, q0⟩ =>
        have h9 : g1 = [] := h9
        obtain ⟨z0, y0⟩ := gi_ok e0 r0
        have z1 := enc_DB_ok (w := w) (us := [u1]) (fp := (f1 ++ [])) e1 ⟨f1, _, r1, rfl, rfl⟩
        refine ⟨[u1], (f1 ++ []), ?_, z1, ?_⟩
        · simp [z0]
        · simp [q0, q1, h9, y0]
    · cases h
  · cases h
def enc_Srv : List V → Option Srv
  | [a0, a1, a2, a3, a4] => match gi a0, gi a1, gi a2, gs .RShare a3, gi a4 with
    | some x0, some x1, some x2, some x3, some x4 => some ⟨x0, x1, x2, x3, x4⟩
    | _, _, _, _, _ => none
  | _ => none
theorem enc_Srv_ok {w : World} {c : List V} {us : List Value} {fp : List Nat} {x : Srv} (h : enc_Srv c = some x) (hr : RIs w c us fp) : ESrv w us x fp := by
  unfold enc_Srv at h
  split at h
  · rename_i a0 a1 a2 a3 a4
    split at h
    · rename_i x0 x1 x2 x3 x4 e0 e1 e2 e3 e4
      simp only [Option.some.injEq] at h
      subst h
      match us, hr with
      | [u0, u1, u2, u3, u4], ⟨f0, g0, r0, ⟨f1, g1, r1, ⟨f2, g2, r2, ⟨f3, g3, r3, ⟨f4, g4, r4, h9, q4⟩, q3⟩, q2⟩, q1⟩, q0⟩ =>
        have h9 : g4 = [] := h9
        obtain ⟨z0, y0⟩ := gi_ok e0 r0
        obtain ⟨z1, y1⟩ := gi_ok e1 r1
        obtain ⟨z2, y2⟩ := gi_ok e2 r2
        have z3 := gs_ok e3 r3
        obtain ⟨z4, y4⟩ := gi_ok e4 r4
        refine ⟨u3, f3, ?_, z3, ?_⟩
        · simp [z0, z1, z2, z4]
        · simp [q0, q1, q2, q3, q4, h9, y0, y1, y2, y4]
    · cases h
  · cases h
def enc_ARound : List V → Option ARound
  | [a0, a1] => match gi a0, enc_DB [a1] with
    | some x0, some x1 => some ⟨x0, x1⟩
    | _, _ => none
  | _ => none
theorem enc_ARound_ok {w : World} {c : List V} {us : List Value} {fp : List Nat} {x : ARound} (h : enc_ARound c = some x) (hr : RIs w c us fp) : EARound w us x fp := by
  unfold enc_ARound at h
  split at h
  · rename_i a0 a1
    split at h
    · rename_i x0 x1 e0 e1
      simp only [Option.some.injEq] at h
      subst h
      match us, hr with
      | [u0, u1], ⟨f0, g0, r0, ⟨f1, g1, r1, h9, q1⟩, q0⟩ =>
        have h9 : g1 = [] := h9
        obtain ⟨z0, y0⟩ := gi_ok e0 r0
        have z1 := enc_DB_ok (w := w) (us := [u1]) (fp := (f1 ++ [])) e1 ⟨f1, _, r1, rfl, rfl⟩
        refine ⟨[u1], (f1 ++ []), ?_, z1, ?_⟩
        · simp [z0]
        · simp [q0, q1, h9, y0]
    · cases h
  · cases h
def enc_Arc : List V → Option Arc
  | [a0, a1] => match gi a0, gs .ARound a1 with
    | some x0, some x1 => some ⟨x0, x1⟩
    | _, _ => none
  | _ => none
theorem enc_Arc_ok {w : World} {c : List V} {us : List Value} {fp : List Nat} {x : Arc} (h : enc_Arc c = some x) (hr : RIs w c us fp) : EArc w us x fp := by
  unfold enc_Arc at h
  split at h
  · rename_i a0 a1
    split at h
    · rename_i x0 x1 e0 e1
      simp only [Option.some.injEq] at h
      subst h
      match us, hr with
      | [u0, u1], ⟨f0, g0, r0, ⟨f1, g1, r1, h9, q1⟩, q0⟩ =>
        have h9 : g1 = [] := h9
        obtain ⟨z0, y0⟩ := gi_ok e0 r0
        have z1 := gs_ok e1 r1
        refine ⟨u1, f1, ?_, z1, ?_⟩
        · simp [z0]
        · simp [q0, q1, h9, y0]
    · cases h
  · cases h
def enc_Cli : List V → Option Cli
  | [a0, a1, a2, a3, a4, a5, a6, a7] => match gi a0, gi a1, gi a2, gi a3, gs (.sl .u8) a4, gi a5, gs (.sl .u8) a6, gi a7 with
    | some x0, some x1, some x2, some x3, some x4, some x5, some x6, some x7 => some ⟨x0, x1, x2, x3, x4, x5, x6, x7⟩
    | _, _, _, _, _, _, _, _ => none
  | _ => none
theorem enc_Cli_ok {w : World} {c : List V} {us : List Value} {fp : List Nat} {x : Cli} (h : enc_Cli c = some x) (hr : RIs w c us fp) : ECli w us x fp := by
  unfold enc_Cli at h
  split at h
  · rename_i a0 a1 a2 a3 a4 a5 a6 a7
    split at h
    · rename_i x0 x1 x2 x3 x4 x5 x6 x7 e0 e1 e2 e3 e4 e5 e6 e7
      simp only [Option.some.injEq] at h
      subst h
      match us, hr with
      | [u0, u1, u2, u3, u4, u5, u6, u7], ⟨f0, g0, r0, ⟨f1, g1, r1, ⟨f2, g2, r2, ⟨f3, g3, r3, ⟨f4, g4, r4, ⟨f5, g5, r5, ⟨f6, g6, r6, ⟨f7, g7, r7, h9, q7⟩, q6⟩, q5⟩, q4⟩, q3⟩, q2⟩, q1⟩, q0⟩ =>
        have h9 : g7 = [] := h9
        obtain ⟨z0, y0⟩ := gi_ok e0 r0
        obtain ⟨z1, y1⟩ := gi_ok e1 r1
        obtain ⟨z2, y2⟩ := gi_ok e2 r2
        obtain ⟨z3, y3⟩ := gi_ok e3 r3
        have z4 := gs_ok e4 r4
        obtain ⟨z5, y5⟩ := gi_ok e5 r5
        have z6 := gs_ok e6 r6
        obtain ⟨z7, y7⟩ := gi_ok e7 r7
        refine ⟨u4, u6, f4, f6, ?_, z4, z6, ?_⟩
        · simp [z0, z1, z2, z3, z5, z7]
        · simp [q0, q1, q2, q3, q4, q5, q6, q7, h9, y0, y1, y2, y3, y5, y7]
    · cases h
  · cases h
def enc_Dev : List V → Option Dev
  | [a0, a1, a2, a3, a4, a5, a6, a7, a8, a9, a10, a11, a12, a13, a14, a15] => match enc_Cli [a0, a1, a2, a3, a4, a5, a6, a7], enc_Cli [a8, a9, a10, a11, a12, a13, a14, a15] with
    | some x0, some x8 => some ⟨x0, x8⟩
    | _, _ => none
  | _ => none
theorem enc_Dev_ok {w : World} {c : List V} {us : List Value} {fp : List Nat} {x : Dev} (h : enc_Dev c = some x) (hr : RIs w c us fp) : EDev w us x fp := by
  unfold enc_Dev at h
  split at h
  · rename_i a0 a1 a2 a3 a4 a5 a6 a7 a8 a9 a10 a11 a12 a13 a14 a15
    split at h
    · rename_i x0 x8 e0 e1
      simp only [Option.some.injEq] at h
      subst h
      match us, hr with
      | [u0, u1, u2, u3, u4, u5, u6, u7, u8, u9, u10, u11, u12, u13, u14, u15], ⟨f0, g0, r0, ⟨f1, g1, r1, ⟨f2, g2, r2, ⟨f3, g3, r3, ⟨f4, g4, r4, ⟨f5, g5, r5, ⟨f6, g6, r6, ⟨f7, g7, r7, ⟨f8, g8, r8, ⟨f9, g9, r9, ⟨f10, g10, r10, ⟨f11, g11, r11, ⟨f12, g12, r12, ⟨f13, g13, r13, ⟨f14, g14, r14, ⟨f15, g15, r15, h9, q15⟩, q14⟩, q13⟩, q12⟩, q11⟩, q10⟩, q9⟩, q8⟩, q7⟩, q6⟩, q5⟩, q4⟩, q3⟩, q2⟩, q1⟩, q0⟩ =>
        have h9 : g15 = [] := h9
        have z0 := enc_Cli_ok (w := w) (us := [u0, u1, u2, u3, u4, u5, u6, u7]) (fp := (f0 ++ (f1 ++ (f2 ++ (f3 ++ (f4 ++ (f5 ++ (f6 ++ (f7 ++ []))))))))) e0 ⟨f0, _, r0, ⟨f1, _, r1, ⟨f2, _, r2, ⟨f3, _, r3, ⟨f4, _, r4, ⟨f5, _, r5, ⟨f6, _, r6, ⟨f7, _, r7, rfl, rfl⟩, rfl⟩, rfl⟩, rfl⟩, rfl⟩, rfl⟩, rfl⟩, rfl⟩
        have z8 := enc_Cli_ok (w := w) (us := [u8, u9, u10, u11, u12, u13, u14, u15]) (fp := (f8 ++ (f9 ++ (f10 ++ (f11 ++ (f12 ++ (f13 ++ (f14 ++ (f15 ++ []))))))))) e1 ⟨f8, _, r8, ⟨f9, _, r9, ⟨f10, _, r10, ⟨f11, _, r11, ⟨f12, _, r12, ⟨f13, _, r13, ⟨f14, _, r14, ⟨f15, _, r15, rfl, rfl⟩, rfl⟩, rfl⟩, rfl⟩, rfl⟩, rfl⟩, rfl⟩, rfl⟩
        refine ⟨[u0, u1, u2, u3, u4, u5, u6, u7], [u8, u9, u10, u11, u12, u13, u14, u15], (f0 ++ (f1 ++ (f2 ++ (f3 ++ (f4 ++ (f5 ++ (f6 ++ (f7 ++ [])))))))), (f8 ++ (f9 ++ (f10 ++ (f11 ++ (f12 ++ (f13 ++ (f14 ++ (f15 ++ [])))))))), ?_, z0, z8, ?_⟩
        · rfl
        · simp [q0, q1, q2, q3, q4, q5, q6, q7, q8, q9, q10, q11, q12, q13, q14, q15, h9]
    · cases h
  · cases h
def enc_Wld : List V → Option Wld
  | [a0, a1, a2, a3, a4, a5, a6, a7, a8, a9] => match gi a0, gs .Srv a1, gs .Dev a2, enc_Arc [a3, a4], gi a5, gi a6, gi a7, gs .int a8, gi a9 with
    | some x0, some x1, some x2, some x3, some x5, some x6, some x7, some x8, some x9 => some ⟨x0, x1, x2, x3, x5, x6, x7, x8, x9⟩
    | _, _, _, _, _, _, _, _, _ => none
  | _ => none
theorem enc_Wld_ok {w : World} {c : List V} {us : List Value} {fp : List Nat} {x : Wld} (h : enc_Wld c = some x) (hr : RIs w c us fp) : EWld w us x fp := by
  unfold enc_Wld at h
  split at h
  · rename_i a0 a1 a2 a3 a4 a5 a6 a7 a8 a9
    split at h
    · rename_i x0 x1 x2 x3 x5 x6 x7 x8 x9 e0 e1 e2 e3 e4 e5 e6 e7 e8
      simp only [Option.some.injEq] at h
      subst h
      match us, hr with
      | [u0, u1, u2, u3, u4, u5, u6, u7, u8, u9], ⟨f0, g0, r0, ⟨f1, g1, r1, ⟨f2, g2, r2, ⟨f3, g3, r3, ⟨f4, g4, r4, ⟨f5, g5, r5, ⟨f6, g6, r6, ⟨f7, g7, r7, ⟨f8, g8, r8, ⟨f9, g9, r9, h9, q9⟩, q8⟩, q7⟩, q6⟩, q5⟩, q4⟩, q3⟩, q2⟩, q1⟩, q0⟩ =>
        have h9 : g9 = [] := h9
        obtain ⟨z0, y0⟩ := gi_ok e0 r0
        have z1 := gs_ok e1 r1
        have z2 := gs_ok e2 r2
        have z3 := enc_Arc_ok (w := w) (us := [u3, u4]) (fp := (f3 ++ (f4 ++ []))) e3 ⟨f3, _, r3, ⟨f4, _, r4, rfl, rfl⟩, rfl⟩
        obtain ⟨z5, y5⟩ := gi_ok e4 r5
        obtain ⟨z6, y6⟩ := gi_ok e5 r6
        obtain ⟨z7, y7⟩ := gi_ok e6 r7
        have z8 := gs_ok e7 r8
        obtain ⟨z9, y9⟩ := gi_ok e8 r9
        refine ⟨u1, u2, [u3, u4], u8, f1, f2, (f3 ++ (f4 ++ [])), f8, ?_, z1, z2, z3, z8, ?_⟩
        · simp [z0, z5, z6, z7, z9]
        · simp [q0, q1, q2, q3, q4, q5, q6, q7, q8, q9, h9, y0, y5, y6, y7, y9]
    · cases h
  · cases h
def enc_Ev : List V → Option Ev
  | [a0, a1, a2, a3] => match gi a0, gi a1, gi a2, gs .u8 a3 with
    | some x0, some x1, some x2, some x3 => some ⟨x0, x1, x2, x3⟩
    | _, _, _, _ => none
  | _ => none
theorem enc_Ev_ok {w : World} {c : List V} {us : List Value} {fp : List Nat} {x : Ev} (h : enc_Ev c = some x) (hr : RIs w c us fp) : EEv w us x fp := by
  unfold enc_Ev at h
  split at h
  · rename_i a0 a1 a2 a3
    split at h
    · rename_i x0 x1 x2 x3 e0 e1 e2 e3
      simp only [Option.some.injEq] at h
      subst h
      match us, hr with
      | [u0, u1, u2, u3], ⟨f0, g0, r0, ⟨f1, g1, r1, ⟨f2, g2, r2, ⟨f3, g3, r3, h9, q3⟩, q2⟩, q1⟩, q0⟩ =>
        have h9 : g3 = [] := h9
        obtain ⟨z0, y0⟩ := gi_ok e0 r0
        obtain ⟨z1, y1⟩ := gi_ok e1 r1
        obtain ⟨z2, y2⟩ := gi_ok e2 r2
        have z3 := gs_ok e3 r3
        refine ⟨u3, f3, ?_, z3, ?_⟩
        · simp [z0, z1, z2]
        · simp [q0, q1, q2, q3, h9, y0, y1, y2]
    · cases h
  · cases h
def enc_Trf : List V → Option Trf
  | [a0, a1, a2] => match gi a0, gi a1, gi a2 with
    | some x0, some x1, some x2 => some ⟨x0, x1, x2⟩
    | _, _, _ => none
  | _ => none
theorem enc_Trf_ok {w : World} {c : List V} {us : List Value} {fp : List Nat} {x : Trf} (h : enc_Trf c = some x) (hr : RIs w c us fp) : ETrf w us x fp := by
  unfold enc_Trf at h
  split at h
  · rename_i a0 a1 a2
    split at h
    · rename_i x0 x1 x2 e0 e1 e2
      simp only [Option.some.injEq] at h
      subst h
      match us, hr with
      | [u0, u1, u2], ⟨f0, g0, r0, ⟨f1, g1, r1, ⟨f2, g2, r2, h9, q2⟩, q1⟩, q0⟩ =>
        have h9 : g2 = [] := h9
        obtain ⟨z0, y0⟩ := gi_ok e0 r0
        obtain ⟨z1, y1⟩ := gi_ok e1 r1
        obtain ⟨z2, y2⟩ := gi_ok e2 r2
        refine ⟨?_, ?_⟩
        · simp [z0, z1, z2]
        · simp [q0, q1, q2, h9, y0, y1, y2]
    · cases h
  · cases h
def enc_Rcp : List V → Option Rcp
  | [a0, a1, a2, a3, a4] => match gi a0, gi a1, gi a2, gi a3, gi a4 with
    | some x0, some x1, some x2, some x3, some x4 => some ⟨x0, x1, x2, x3, x4⟩
    | _, _, _, _, _ => none
  | _ => none
theorem enc_Rcp_ok {w : World} {c : List V} {us : List Value} {fp : List Nat} {x : Rcp} (h : enc_Rcp c = some x) (hr : RIs w c us fp) : ERcp w us x fp := by
  unfold enc_Rcp at h
  split at h
  · rename_i a0 a1 a2 a3 a4
    split at h
    · rename_i x0 x1 x2 x3 x4 e0 e1 e2 e3 e4
      simp only [Option.some.injEq] at h
      subst h
      match us, hr with
      | [u0, u1, u2, u3, u4], ⟨f0, g0, r0, ⟨f1, g1, r1, ⟨f2, g2, r2, ⟨f3, g3, r3, ⟨f4, g4, r4, h9, q4⟩, q3⟩, q2⟩, q1⟩, q0⟩ =>
        have h9 : g4 = [] := h9
        obtain ⟨z0, y0⟩ := gi_ok e0 r0
        obtain ⟨z1, y1⟩ := gi_ok e1 r1
        obtain ⟨z2, y2⟩ := gi_ok e2 r2
        obtain ⟨z3, y3⟩ := gi_ok e3 r3
        obtain ⟨z4, y4⟩ := gi_ok e4 r4
        refine ⟨?_, ?_⟩
        · simp [z0, z1, z2, z3, z4]
        · simp [q0, q1, q2, q3, q4, h9, y0, y1, y2, y3, y4]
    · cases h
  · cases h
def enc_Plain : List V → Option Plain
  | [a0, a1] => match gi a0, gs .u8 a1 with
    | some x0, some x1 => some ⟨x0, x1⟩
    | _, _ => none
  | _ => none
theorem enc_Plain_ok {w : World} {c : List V} {us : List Value} {fp : List Nat} {x : Plain} (h : enc_Plain c = some x) (hr : RIs w c us fp) : EPlain w us x fp := by
  unfold enc_Plain at h
  split at h
  · rename_i a0 a1
    split at h
    · rename_i x0 x1 e0 e1
      simp only [Option.some.injEq] at h
      subst h
      match us, hr with
      | [u0, u1], ⟨f0, g0, r0, ⟨f1, g1, r1, h9, q1⟩, q0⟩ =>
        have h9 : g1 = [] := h9
        obtain ⟨z0, y0⟩ := gi_ok e0 r0
        have z1 := gs_ok e1 r1
        refine ⟨u1, f1, ?_, z1, ?_⟩
        · simp [z0]
        · simp [q0, q1, h9, y0]
    · cases h
  · cases h
def enc_SAns : List V → Option SAns
  | [a0, a1, a2, a3, a4] => match gi a0, gi a1, gs .int a2, gs .u8 a3, gi a4 with
    | some x0, some x1, some x2, some x3, some x4 => some ⟨x0, x1, x2, x3, x4⟩
    | _, _, _, _, _ => none
  | _ => none
theorem enc_SAns_ok {w : World} {c : List V} {us : List Value} {fp : List Nat} {x : SAns} (h : enc_SAns c = some x) (hr : RIs w c us fp) : ESAns w us x fp := by
  unfold enc_SAns at h
  split at h
  · rename_i a0 a1 a2 a3 a4
    split at h
    · rename_i x0 x1 x2 x3 x4 e0 e1 e2 e3 e4
      simp only [Option.some.injEq] at h
      subst h
      match us, hr with
      | [u0, u1, u2, u3, u4], ⟨f0, g0, r0, ⟨f1, g1, r1, ⟨f2, g2, r2, ⟨f3, g3, r3, ⟨f4, g4, r4, h9, q4⟩, q3⟩, q2⟩, q1⟩, q0⟩ =>
        have h9 : g4 = [] := h9
        obtain ⟨z0, y0⟩ := gi_ok e0 r0
        obtain ⟨z1, y1⟩ := gi_ok e1 r1
        have z2 := gs_ok e2 r2
        have z3 := gs_ok e3 r3
        obtain ⟨z4, y4⟩ := gi_ok e4 r4
        refine ⟨u2, u3, f2, f3, ?_, z2, z3, ?_⟩
        · simp [z0, z1, z4]
        · simp [q0, q1, q2, q3, q4, h9, y0, y1, y4]
    · cases h
  · cases h
/-- An element out of its cells; what must hold for it. -/
def enc_int : List V → Option (List Prop × Int)
  | [v] => match gi v with | some n => some ([], n) | none => none
  | _ => none
def enc_u8 : List V → Option (List Prop × UInt8)
  | [.lit (.int .u8 n)] => some ([0 ≤ n ∧ n < 256], UInt8.ofNat n.toNat)
  | _ => none
def enc_str : List V → Option (List Prop × List UInt8)
  | [.lit (.string s)] => some ([s.size ≤ maxLen], s.data.toList)
  | _ => none
def enc_sl (t : Tag) : List V → Option (List Prop × List (T t))
  | [v] => match gs t v with | some l => some ([], l) | none => none
  | _ => none
def encS {α : Type} : Option α → Option (List Prop × α)
  | some x => some ([], x)
  | none => none
theorem encS_some {α : Type} {o : Option α} {vc : List Prop} {x : α} (h : encS o = some (vc, x)) : o = some x := by
  cases o with
  | none => cases h
  | some y => simp only [encS, Option.some.injEq, Prod.mk.injEq] at h; rw [h.2]
def enc : (t : Tag) → List V → Option (List Prop × T t)
  | .int, c => enc_int c
  | .u8, c => enc_u8 c
  | .str, c => enc_str c
  | .sl t, c => enc_sl t c
  | .DB, c => encS (enc_DB c)
  | .RShare, c => encS (enc_RShare c)
  | .Srv, c => encS (enc_Srv c)
  | .ARound, c => encS (enc_ARound c)
  | .Arc, c => encS (enc_Arc c)
  | .Cli, c => encS (enc_Cli c)
  | .Dev, c => encS (enc_Dev c)
  | .Wld, c => encS (enc_Wld c)
  | .Ev, c => encS (enc_Ev c)
  | .Trf, c => encS (enc_Trf c)
  | .Rcp, c => encS (enc_Rcp c)
  | .Plain, c => encS (enc_Plain c)
  | .SAns, c => encS (enc_SAns c)
theorem enc_ok {w : World} : (t : Tag) → {c : List V} → {us : List Value} → {fp : List Nat} → {vc : List Prop} → {x : T t} → enc t c = some (vc, x) → (∀ q, q ∈ vc → q) → RIs w c us fp → rd t w us x fp
  | .int, c, us, fp, vc, x, h, hv, hr => by
    have h : enc_int c = some (vc, x) := h
    unfold enc_int at h
    split at h <;> first | (cases h; done) | skip
    · split at h
      · rename_i v _ n e
        simp only [Option.some.injEq, Prod.mk.injEq] at h
        obtain ⟨rfl, rfl⟩ := h
        match us, hr with
        | [u], ⟨f, g, r, h9, q⟩ =>
          obtain ⟨z, y⟩ := gi_ok e r
          have h9 : g = [] := h9
          exact ⟨by rw [z], by simp [q, y, h9]⟩
      · cases h
  | .u8, c, us, fp, vc, x, h, hv, hr => by
    have h : enc_u8 c = some (vc, x) := h
    unfold enc_u8 at h
    split at h <;> first | (cases h; done) | skip
    · rename_i n _
      simp only [Option.some.injEq, Prod.mk.injEq] at h
      obtain ⟨rfl, rfl⟩ := h
      obtain ⟨h0, h1⟩ := hv _ (List.mem_singleton.2 rfl)
      match us, hr with
      | [u], ⟨f, g, r, h9, q⟩ =>
        have h9 : g = [] := h9
        obtain ⟨rfl, _, rfl⟩ := r
        refine ⟨?_, by simp [q, h9]⟩
        have : ((UInt8.ofNat n.toNat).toNat : Int) = n := by rw [UInt8.toNat_ofNat']; omega
        rw [this]
  | .str, c, us, fp, vc, x, h, hv, hr => by
    have h : enc_str c = some (vc, x) := h
    unfold enc_str at h
    split at h <;> first | (cases h; done) | skip
    · rename_i s _
      simp only [Option.some.injEq, Prod.mk.injEq] at h
      obtain ⟨rfl, rfl⟩ := h
      have h0 := hv _ (List.mem_singleton.2 rfl)
      match us, hr with
      | [u], ⟨f, g, r, h9, q⟩ =>
        have h9 : g = [] := h9
        obtain ⟨rfl, _, rfl⟩ := r
        exact ⟨rfl, h0, by simp [q, h9]⟩
  | .sl t, c, us, fp, vc, x, h, hv, hr => by
    have h : enc_sl t c = some (vc, x) := h
    unfold enc_sl at h
    split at h <;> first | (cases h; done) | skip
    · split at h
      · rename_i v _ l e
        simp only [Option.some.injEq, Prod.mk.injEq] at h
        obtain ⟨rfl, rfl⟩ := h
        match us, hr with
        | [u], ⟨f, g, r, h9, q⟩ =>
          have h9 : g = [] := h9
          refine ⟨u, rfl, ?_⟩
          have := gs_ok e r
          rw [q, h9, List.append_nil]; exact this
      · cases h
  | .DB, c, us, fp, vc, x, h, hv, hr => by
    exact enc_DB_ok (encS_some (show encS (enc_DB c) = _ from h)) hr
  | .RShare, c, us, fp, vc, x, h, hv, hr => by
    exact enc_RShare_ok (encS_some (show encS (enc_RShare c) = _ from h)) hr
  | .Srv, c, us, fp, vc, x, h, hv, hr => by
    exact enc_Srv_ok (encS_some (show encS (enc_Srv c) = _ from h)) hr
  | .ARound, c, us, fp, vc, x, h, hv, hr => by
    exact enc_ARound_ok (encS_some (show encS (enc_ARound c) = _ from h)) hr
  | .Arc, c, us, fp, vc, x, h, hv, hr => by
    exact enc_Arc_ok (encS_some (show encS (enc_Arc c) = _ from h)) hr
  | .Cli, c, us, fp, vc, x, h, hv, hr => by
    exact enc_Cli_ok (encS_some (show encS (enc_Cli c) = _ from h)) hr
  | .Dev, c, us, fp, vc, x, h, hv, hr => by
    exact enc_Dev_ok (encS_some (show encS (enc_Dev c) = _ from h)) hr
  | .Wld, c, us, fp, vc, x, h, hv, hr => by
    exact enc_Wld_ok (encS_some (show encS (enc_Wld c) = _ from h)) hr
  | .Ev, c, us, fp, vc, x, h, hv, hr => by
    exact enc_Ev_ok (encS_some (show encS (enc_Ev c) = _ from h)) hr
  | .Trf, c, us, fp, vc, x, h, hv, hr => by
    exact enc_Trf_ok (encS_some (show encS (enc_Trf c) = _ from h)) hr
  | .Rcp, c, us, fp, vc, x, h, hv, hr => by
    exact enc_Rcp_ok (encS_some (show encS (enc_Rcp c) = _ from h)) hr
  | .Plain, c, us, fp, vc, x, h, hv, hr => by
    exact enc_Plain_ok (encS_some (show encS (enc_Plain c) = _ from h)) hr
  | .SAns, c, us, fp, vc, x, h, hv, hr => by
    exact enc_SAns_ok (encS_some (show encS (enc_SAns c) = _ from h)) hr
/-- Zero values of elements, their bytes; whose readings pass no block. -/
def zval : Tag → Value
  | .int => .int .i64 0
  | .u8 => .int .u8 0
  | .str => .string ⟨#[]⟩
  | .sl _ => .slice none 0 0
  | .DB => .agg #[.slice none 0 0]
  | .RShare => .agg #[.int .i64 0, .slice none 0 0]
  | .Srv => .agg #[.int .i64 0, .int .i64 0, .int .i64 0, .slice none 0 0, .int .i64 0]
  | .ARound => .agg #[.int .i64 0, .slice none 0 0]
  | .Arc => .agg #[.int .i64 0, .slice none 0 0]
  | .Cli => .agg #[.int .i64 0, .int .i64 0, .int .i64 0, .int .i64 0, .slice none 0 0, .int .i64 0, .slice none 0 0, .int .i64 0]
  | .Dev => .agg #[.int .i64 0, .int .i64 0, .int .i64 0, .int .i64 0, .slice none 0 0, .int .i64 0, .slice none 0 0, .int .i64 0, .int .i64 0, .int .i64 0, .int .i64 0, .int .i64 0, .slice none 0 0, .int .i64 0, .slice none 0 0, .int .i64 0]
  | .Wld => .agg #[.int .i64 0, .slice none 0 0, .slice none 0 0, .int .i64 0, .slice none 0 0, .int .i64 0, .int .i64 0, .int .i64 0, .slice none 0 0, .int .i64 0]
  | .Ev => .agg #[.int .i64 0, .int .i64 0, .int .i64 0, .slice none 0 0]
  | .Trf => .agg #[.int .i64 0, .int .i64 0, .int .i64 0]
  | .Rcp => .agg #[.int .i64 0, .int .i64 0, .int .i64 0, .int .i64 0, .int .i64 0]
  | .Plain => .agg #[.int .i64 0, .slice none 0 0]
  | .SAns => .agg #[.int .i64 0, .int .i64 0, .slice none 0 0, .slice none 0 0, .int .i64 0]
def byt : Tag → Nat
  | .int => 8
  | .u8 => 1
  | .str => 16
  | .sl _ => 24
  | .DB => 24
  | .RShare => 32
  | .Srv => 56
  | .ARound => 32
  | .Arc => 32
  | .Cli => 96
  | .Dev => 192
  | .Wld => 144
  | .Ev => 48
  | .Trf => 24
  | .Rcp => 40
  | .Plain => 32
  | .SAns => 72
theorem zval_cells : (t : Tag) → (zval t).cells.size = kk t
  | .int => rfl
  | .u8 => rfl
  | .str => rfl
  | .sl _ => rfl
  | .DB => rfl
  | .RShare => rfl
  | .Srv => rfl
  | .ARound => rfl
  | .Arc => rfl
  | .Cli => rfl
  | .Dev => rfl
  | .Wld => rfl
  | .Ev => rfl
  | .Trf => rfl
  | .Rcp => rfl
  | .Plain => rfl
  | .SAns => rfl
def flat : Tag → Bool
  | .int => true
  | .u8 => true
  | .str => true
  | .sl _ => false
  | .DB => false
  | .RShare => false
  | .Srv => false
  | .ARound => false
  | .Arc => false
  | .Cli => false
  | .Dev => false
  | .Wld => false
  | .Ev => false
  | .Trf => true
  | .Rcp => true
  | .Plain => false
  | .SAns => false
theorem flat_ok {w : World} (t : Tag) {cs : List Value} {x : T t} {fp : List Nat} (hf : flat t = true) (h : rd t w cs x fp) : fp = [] := by
  cases t with
  | int => exact (show EInt w cs x fp from h).2
  | u8 => exact (show EU8 w cs x fp from h).2
  | str => exact (show EStr w cs x fp from h).2.2
  | sl _ => cases hf
  | DB => cases hf
  | RShare => cases hf
  | Srv => cases hf
  | ARound => cases hf
  | Arc => cases hf
  | Cli => cases hf
  | Dev => cases hf
  | Wld => cases hf
  | Ev => cases hf
  | Trf => exact (show ETrf w cs x fp from h).2
  | Rcp => exact (show ERcp w cs x fp from h).2
  | Plain => cases hf
  | SAns => cases hf
theorem RIs.lits {w : World} : ∀ {z : List Value}, (∀ v, v ∈ z → v.oneCell' = true) → RIs w (z.map V.lit) z []
  | [], _ => rfl
  | v :: r, h => ⟨[], [], ⟨rfl, h v (by simp), rfl⟩, RIs.lits fun u hu => h u (by simp [hu]), rfl⟩
/-- Zero values read as the default. -/
theorem zero_ok {w : World} : (t : Tag) → rd t w (zval t).cells.toList (dfl t) []
  | .int => ⟨rfl, rfl⟩
  | .u8 => ⟨rfl, rfl⟩
  | .str => ⟨rfl, by decide, rfl⟩
  | .sl _ => ⟨_, rfl, none, 0, rfl, Nat.le_refl _, Nat.zero_le _, Or.inl ⟨rfl, rfl, fun _ => rfl⟩⟩
  | .DB => enc_DB_ok (c := (zval .DB).cells.toList.map V.lit) rfl (RIs.lits (by simp [zval, Value.cells, Value.oneCell']))
  | .RShare => enc_RShare_ok (c := (zval .RShare).cells.toList.map V.lit) rfl (RIs.lits (by simp [zval, Value.cells, Value.oneCell']))
  | .Srv => enc_Srv_ok (c := (zval .Srv).cells.toList.map V.lit) rfl (RIs.lits (by simp [zval, Value.cells, Value.oneCell']))
  | .ARound => enc_ARound_ok (c := (zval .ARound).cells.toList.map V.lit) rfl (RIs.lits (by simp [zval, Value.cells, Value.oneCell']))
  | .Arc => enc_Arc_ok (c := (zval .Arc).cells.toList.map V.lit) rfl (RIs.lits (by simp [zval, Value.cells, Value.oneCell']))
  | .Cli => enc_Cli_ok (c := (zval .Cli).cells.toList.map V.lit) rfl (RIs.lits (by simp [zval, Value.cells, Value.oneCell']))
  | .Dev => enc_Dev_ok (c := (zval .Dev).cells.toList.map V.lit) rfl (RIs.lits (by simp [zval, Value.cells, Value.oneCell']))
  | .Wld => enc_Wld_ok (c := (zval .Wld).cells.toList.map V.lit) rfl (RIs.lits (by simp [zval, Value.cells, Value.oneCell']))
  | .Ev => enc_Ev_ok (c := (zval .Ev).cells.toList.map V.lit) rfl (RIs.lits (by simp [zval, Value.cells, Value.oneCell']))
  | .Trf => enc_Trf_ok (c := (zval .Trf).cells.toList.map V.lit) rfl (RIs.lits (by simp [zval, Value.cells, Value.oneCell']))
  | .Rcp => enc_Rcp_ok (c := (zval .Rcp).cells.toList.map V.lit) rfl (RIs.lits (by simp [zval, Value.cells, Value.oneCell']))
  | .Plain => enc_Plain_ok (c := (zval .Plain).cells.toList.map V.lit) rfl (RIs.lits (by simp [zval, Value.cells, Value.oneCell']))
  | .SAns => enc_SAns_ok (c := (zval .SAns).cells.toList.map V.lit) rfl (RIs.lits (by simp [zval, Value.cells, Value.oneCell']))
end Go.Proofs.Ythlflnplnajjiaa.G
