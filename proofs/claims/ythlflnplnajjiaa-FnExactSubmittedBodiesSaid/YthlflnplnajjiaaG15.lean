/-
  A quiet operation does the same in any state that agrees where it looks.
-/
import Derived.Test.YthlflnplnajjiaaG14
namespace Go.Proofs.Ythlflnplnajjiaa.G
set_option linter.all false
open Go.RowKit L D
variable {ty : Tag → Nat}
/-- Two states' objects: where both have a name, they have one object. -/
def Compat (hp hp' : Hp) : Prop := ∀ n o o', look hp n = some o → look hp' n = some o' → o = o'
section
variable {zb : Base} {st T : St} {a : Act} {w : World} {env : Env}
theorem imm_mono (c : Compat st.hp T.hp) {tg : Option Tag} {v x : V} {u : Value} (hr : RA w T.hp env v u) (h : imm st tg v = some x) : imm T tg v = some x := by
  cases v with
  | own n =>
    obtain ⟨⟨t, l, hl⟩, _⟩ := hr
    simp only [imm] at h ⊢
    split at h
    · rename_i t' l' hl'
      have := c n _ _ hl' hl
      simp only [Obj.arr.injEq] at this
      obtain ⟨rfl, hll⟩ := this
      rw [hl]
      simp only [← eq_of_heq hll]
      exact h
    · cases h
  | sl t l => exact h
  | vw n p t l => exact h
  | lit v =>
    have e : imm T tg (.lit v) = imm st tg (.lit v) := by
      cases v with
      | slice a n c => cases a <;> cases n <;> cases c <;> rfl
      | _ => rfl
    rw [e]; exact h
  | _ => simp [imm] at h
theorem imms_mono (c : Compat st.hp T.hp) : ∀ {vs : List V} {tg : List (Option Tag)} {xs : List V} {us : List Value}, All2 (RA w T.hp env) vs us → imms st tg vs = some xs → imms T tg vs = some xs
  | [], _, xs, us, _, h => h
  | v :: r, tg, xs, us, hr, h => by
    cases us with
    | nil => exact hr.elim
    | cons u us =>
      simp only [imms] at h ⊢
      split at h
      · rename_i x y h1 h2
        rw [imm_mono c hr.1 h1, imms_mono c hr.2 h2]
        exact h
      · cases h
theorem arg1_mono (c : Compat st.hp T.hp) {k : TK} {v x : S1} {u : Value} (hr : RS1 w T.hp env v u) (h : arg1 st k v = some x) : arg1 T k v = some x := by
  cases v with
  | a v =>
    simp only [arg1] at h ⊢
    split at h
    · rename_i y hy
      rw [imm_mono c hr hy]
      exact h
    · cases h
  | agg l =>
    obtain ⟨cs, _, hl⟩ := hr
    simp only [arg1] at h ⊢
    split at h
    · rename_i y hy
      rw [imms_mono c hl hy]
      exact h
    · cases h
theorem opv_mono {p : List (Nat × Bool)} {x : Operand} (hs : ∀ t, x = .tmp t → look st.sl t = look T.sl t) : opv st p x = opv T p x := by
  cases x with
  | tmp t => simp only [opv, hs t rfl]
  | _ => rfl
theorem args_mono {Γ : Nat → TK} (c : Compat st.hp T.hp) (g : Good ty zb T a.tmps w env) {p : List (Nat × Bool)} (hp : holds a.tmps p) : ∀ {xs : List Operand} {ts : List Nat} {as : List S1}, (∀ x, x ∈ xs → ∀ t, x = .tmp t → look st.sl t = look T.sl t) → args Γ st p xs ts = some as → args Γ T p xs ts = some as
  | [], _, as, _, h => h
  | x :: r, ts, as, hs, h => by
    simp only [args] at h ⊢
    rw [← opv_mono (st := st) (T := T) (hs x (by simp))]
    split at h
    · rename_i v hv
      split at h
      · rename_i y ys h1 h2
        have hr := opv_ok g hp (by rw [← opv_mono (hs x (by simp))]; exact hv)
        rw [arg1_mono c hr h1, args_mono c g hp (fun z hz => hs z (List.mem_cons_of_mem _ hz)) h2]
        exact h
      · cases h
    · cases h
theorem lenOf_mono (c : Compat st.hp T.hp) {k : TK} {v : V} {u : Value} {n : Int} (hr : RA w T.hp env v u) (h : lenOf st k v = some n) : lenOf T k v = some n := by
  cases v with
  | own m =>
    obtain ⟨⟨t, l, hl⟩, _⟩ := hr
    simp only [lenOf] at h ⊢
    split at h
    · split at h
      · rename_i t' l' hl'
        have := c m _ _ hl' hl
        simp only [Obj.arr.injEq] at this
        obtain ⟨rfl, hll⟩ := this
        rw [hl]
        simp only [← eq_of_heq hll]
        exact h
      · cases h
    · cases h
  | sl t l => exact h
  | vw n p t l => exact h
  | lit v =>
    have e : lenOf T k (.lit v) = lenOf st k (.lit v) := by
      cases v with
      | slice a n c => cases a <;> cases n <;> cases c <;> rfl
      | _ => rfl
    rw [e]; exact h
  | _ => simp [lenOf] at h
theorem bytesOf_mono (c : Compat st.hp T.hp) {v : V} {u : Value} (hr : RA w T.hp env v u) {l : List UInt8} (h : bytesOf st v = some l) : bytesOf T v = some l := by
  cases v with
  | own n =>
    obtain ⟨⟨t, l2, hl2⟩, _⟩ := hr
    simp only [bytesOf] at h ⊢
    split at h
    · rename_i l3 hl3
      simp only [Option.some.injEq] at h
      subst h
      have := c n _ _ hl3 hl2
      simp only [Obj.arr.injEq] at this
      obtain ⟨rfl, hll⟩ := this
      rw [hl2]
      simp only [eq_of_heq hll]
    · cases h
  | sl t l =>
    have e : bytesOf T (.sl t l) = bytesOf st (.sl t l) := by cases t <;> rfl
    rw [e]; exact h
  | vw n p t l =>
    have e : bytesOf T (.vw n p t l) = bytesOf st (.vw n p t l) := by cases t <;> rfl
    rw [e]; exact h
  | lit v =>
    have e : bytesOf T (.lit v) = bytesOf st (.lit v) := by
      cases v with
      | slice a n c => cases a <;> cases n <;> cases c <;> rfl
      | _ => rfl
    rw [e]; exact h
  | _ => simp [bytesOf] at h
theorem qparts_mono {p : List (Nat × Bool)} {g : Tag} : ∀ {xs : List (Nat × Operand)} {i : Nat}, (∀ x, x ∈ xs → opv st p x.2 = opv T p x.2) → qparts st p g i xs = qparts T p g i xs
  | [], _, _ => rfl
  | (j, x) :: r, i, h => by
    simp only [qparts]
    rw [h (j, x) (by simp), qparts_mono (fun y hy => h y (List.mem_cons_of_mem _ hy))]
theorem bfill_mono {p : List (Nat × Bool)} {n : Nat} {fo : List Nat} : ∀ {xs : List (Nat × Operand)} {c : List V}, (∀ x, x ∈ xs → opv st p x.2 = opv T p x.2) → bfill st p n fo xs c = bfill T p n fo xs c
  | [], _, _ => rfl
  | (j, x) :: r, c, h => by
    simp only [bfill]
    rw [h (j, x) (by simp)]
    have : ∀ c', bfill st p n fo r c' = bfill T p n fo r c' := fun c' => bfill_mono (fun y hy => h y (List.mem_cons_of_mem _ hy))
    simp only [this]
theorem iopvs_mono {p : List (Nat × Bool)} : ∀ {xs : List Operand}, (∀ x, x ∈ xs → opv st p x = opv T p x) → iopvs st p xs = iopvs T p xs
  | [], _ => rfl
  | x :: r, h => by
    simp only [iopvs, iopv]
    rw [h x (by simp), iopvs_mono (fun y hy => h y (List.mem_cons_of_mem _ hy))]
theorem named_obj (c : Compat st.hp T.hp) {v : V} {u : Value} (hr : RA w T.hp env v u) {n : Nat} (hn : v.name = some n) {o : Obj} (h : look st.hp n = some o) : look T.hp n = some o := by
  have : ∃ o', look T.hp n = some o' := by
    cases v <;> simp only [V.name, Option.some.injEq, reduceCtorEq] at hn
    case own m => subst hn; obtain ⟨⟨t, l, hl⟩, _⟩ := hr; exact ⟨_, hl⟩
    case ptr m off => subst hn; obtain ⟨⟨c, hl⟩, _⟩ := hr; exact ⟨_, hl⟩
    case eptr m i off => subst hn; obtain ⟨t, l, hl, _⟩ := hr; exact ⟨_, hl⟩
    case vw m p t l => subst hn; obtain ⟨⟨t, l, hl⟩, _⟩ := hr; exact ⟨_, hl⟩
    case vip m t x off => subst hn; obtain ⟨⟨t, l, hl⟩, _⟩ := hr; exact ⟨_, hl⟩
  obtain ⟨o', h'⟩ := this
  rw [c n _ _ h h']; exact h'
theorem quiet_mono {Γ : Nat → TK} {E : Tag → Nat → Prop} {S : FuncId → List S1 → List S1 → Prop} (c : Compat st.hp T.hp) (g : Good ty zb T a.tmps w env) {p : List (Nat × Bool)} (hp : holds a.tmps p) {cr : List (Nat × CR)} {d m : Nat} {op : Op} {out : Out}
    (hs : ∀ x, x ∈ op.operands.toList → ∀ t, x = .tmp t → look st.sl t = look T.sl t) (h : quiet Γ E S cr st p d m op = some out) : quiet Γ E S cr T p d m op = some out := by
  have ho : ∀ {q x}, x ∈ op.operands.toList → opv st q x = opv T q x := fun hx => opv_mono (hs _ hx)
  have hr : ∀ {x v}, x ∈ op.operands.toList → opv st p x = some v → RS1 w T.hp env v (a.eval x) := fun hx hv => opv_ok g hp (by rw [← ho hx]; exact hv)
  have rn : ∀ {x v n o}, x ∈ op.operands.toList → opv st p x = some (.a v) → v.name = some n → look st.hp n = some o → look T.hp n = some o := fun hx hv hn hl => named_obj c (hr hx hv) hn hl
  cases op with
  | move x => simp only [quiet] at h ⊢; rw [← ho (by simp [Op.operands])]; exact h
  | assign x => simp only [quiet] at h ⊢; rw [← ho (by simp [Op.operands])]; exact h
  | nilCheck x => simp only [quiet] at h ⊢; rw [← ho (by simp [Op.operands])]; exact h
  | makeSlice t x y => simp only [quiet] at h ⊢; rw [← ho (x := x) (by simp [Op.operands]), ← ho (x := y) (by simp [Op.operands])]; exact h
  | buildSlice t n xs =>
    simp only [quiet] at h ⊢
    have hq : ∀ g, qparts st p g 0 xs.toList = qparts T p g 0 xs.toList := fun g => qparts_mono fun x hx => ho (by simp only [Op.operands, List.mem_map]; exact ⟨x, hx, rfl⟩)
    simp only [← hq]
    exact h
  | build t xs =>
    simp only [quiet] at h ⊢
    have hq : ∀ n fo z, bfill st p n fo xs.toList z = bfill T p n fo xs.toList z := fun n fo z => bfill_mono fun x hx => ho (by simp only [Op.operands, List.mem_map]; exact ⟨x, hx, rfl⟩)
    simp only [← hq]
    exact h
  | pick x y z =>
    cases x with
    | tmp t =>
      simp only [quiet] at h ⊢
      rw [← ho (x := .tmp t) (by simp [Op.operands]), ← ho (x := y) (by simp [Op.operands]), ← ho (x := z) (by simp [Op.operands])]
      exact h
    | _ => simp [quiet] at h
  | box e x => simp only [quiet] at h ⊢; rw [← ho (by simp [Op.operands])]; exact h
  | alloc t => exact h
  | load t x =>
    have hm : x ∈ (Op.load t x).operands.toList := by simp [Op.operands]
    simp only [quiet] at h ⊢
    rw [← ho hm]
    split at h
    · rename_i n off hx
      try rw [hx]
      try dsimp only
      split at h
      · rename_i c2 hl2
        rw [rn hm hx rfl hl2]
        exact h
      · cases h
    · rename_i hx
      try rw [hx]
      exact h
    · rename_i hx
      try rw [hx]
      exact h
    · rename_i n i off hx
      try rw [hx]
      try dsimp only
      split at h
      · rename_i c2 hl2
        rw [rn hm hx rfl hl2]
        exact h
      · cases h
    · cases h
  | binOp op t x y t' =>
    simp only [quiet] at h ⊢
    rw [← ho (x := x) (by simp [Op.operands]), ← ho (x := y) (by simp [Op.operands])]
    exact h
  | unOp op t x =>
    cases op with
    | not => simp only [quiet] at h ⊢; rw [← ho (by simp [Op.operands])]; exact h
    | _ => simp [quiet] at h
  | convert s t x =>
    simp only [quiet] at h ⊢
    rw [← ho (x := x) (by simp [Op.operands])]
    split at h
    · rename_i ik n k1 k2 hx hk1 hk2
      try rw [hx, hk1, hk2]
      exact h
    · rename_i v g' e hx hk1 hk2
      try rw [hx, hk1, hk2]
      try dsimp only
      split at h
      · rename_i l hk3 hl
        rw [hk3, bytesOf_mono c (show RA w T.hp env v _ from hr (x := x) (by simp [Op.operands]) hx) hl]
        exact h
      · cases h
    · cases h
  | slice t x lo hi mx =>
    cases mx with
    | some _ => simp [quiet] at h
    | none =>
      have hb : ∀ (b : Option Operand), (∀ y, b = some y → y ∈ (Op.slice t x lo hi none).operands.toList) → ∀ z, bnd st p z b = bnd T p z b := by
        intro b hm z
        cases b with
        | none => rfl
        | some y => simp only [bnd]; rw [ho (hm y rfl)]
      have hm : x ∈ (Op.slice t x lo hi none).operands.toList := by simp [Op.operands]
      simp only [quiet] at h ⊢
      rw [← ho hm, ← hb lo (by rintro y rfl; simp [Op.operands])]
      simp only [← hb hi (by rintro y rfl; simp [Op.operands])]
      split at h
      · split at h
        · rename_i hx hlo
          try rw [hx, hlo]
          exact h
        · rename_i hx hlo
          try rw [hx, hlo]
          exact h
        · rename_i hx hlo
          try rw [hx, hlo]
          try dsimp only
          split at h
          · rename_i hl2
            rw [rn hm hx rfl hl2]
            exact h
          · cases h
        · cases h
      · exact h
      · cases h
  | fieldAddr t x f =>
    simp only [quiet] at h ⊢
    rw [← ho (x := x) (by simp [Op.operands])]
    exact h
  | indexAddr t x i =>
    have hm : x ∈ (Op.indexAddr t x i).operands.toList := by simp [Op.operands]
    simp only [quiet] at h ⊢
    rw [← ho hm, ← ho (x := i) (by simp [Op.operands])]
    split at h
    · split at h
      · rename_i hx hi
        try rw [hx, hi]
        exact h
      · rename_i hx hi
        try rw [hx, hi]
        try dsimp only
        split at h
        · rename_i hl2
          rw [rn hm hx rfl hl2]
          exact h
        · cases h
      · rename_i hx hi
        try rw [hx, hi]
        exact h
      · cases h
    · cases h
  | extract x i =>
    cases x with
    | tmp t => simp only [quiet] at h ⊢; rw [← hs (.tmp t) (by simp [Op.operands]) t rfl]; exact h
    | _ => simp [quiet] at h
  | call cl =>
    obtain ⟨callee, xs, ts⟩ := cl
    have hop : ∀ x, x ∈ xs.toList → x ∈ (Op.call ⟨callee, xs, ts⟩).operands.toList := by
      intro x hx
      simp only [Op.operands, Call.operands, Array.toList_append]
      exact List.mem_append_right _ hx
    cases callee with
    | value x =>
      cases x with
      | func f =>
        simp only [quiet] at h ⊢
        split at h
        · rename_i as c1 h1 h2
          rw [args_mono c g hp (fun x hx => hs x (hop x hx)) h1, h2]
          exact h
        · cases h
      | tmp y =>
        simp only [quiet] at h ⊢
        rw [← ho (x := .tmp y) (by simp [Op.operands, Call.operands])]
        split at h
        · rename_i v hv
          try rw [hv]
          try dsimp only
          split at h
          · rename_i f hf
            try rw [hf]
            try dsimp only
            split at h
            · rename_i as c1 h1 h2
              rw [args_mono c g hp (fun x hx => hs x (hop x hx)) h1, h2]
              exact h
            · cases h
          · cases h
        · cases h
      | _ => simp [quiet] at h
    | builtin b =>
      cases b with
      | len =>
        simp only [quiet] at h ⊢
        split at h
        · rename_i x t hxl htl
          have hm : x ∈ xs.toList := by rw [hxl]; simp
          try rw [hxl, htl]
          try dsimp only
          rw [← ho (hop x hm)]
          split at h
          · rename_i v hv
            try rw [hv]
            try dsimp only
            split at h
            · rename_i n hn
              rw [lenOf_mono c (show RA w T.hp env v _ from hr (hop x hm) hv) hn]
              exact h
            · cases h
          · cases h
        · cases h
      | max => simp only [quiet] at h ⊢; rw [← iopvs_mono (st := st) (T := T) (xs := xs.toList) (fun x hx => ho (hop x hx))]; exact h
      | min => simp only [quiet] at h ⊢; rw [← iopvs_mono (st := st) (T := T) (xs := xs.toList) (fun x hx => ho (hop x hx))]; exact h
      | _ => simp [quiet] at h
    | invoke _ _ => simp [quiet] at h
  | _ => simp [quiet] at h
theorem hyps_mono {p : List (Nat × Bool)} (hs : ∀ e, e ∈ p → look st.sl e.1 = look T.sl e.1) : hyps st p = hyps T p := by
  induction p with
  | nil => rfl
  | cons e r ih =>
    obtain ⟨d, x⟩ := e
    simp only [hyps]
    rw [hs (d, x) (by simp), ih fun e he => hs e (by simp [he])]
theorem qcore_mono {Γ : Nat → TK} {E : Tag → Nat → Prop} {S : FuncId → List S1 → List S1 → Prop} (c : Compat st.hp T.hp) (g : Good ty zb T a.tmps w env) (hn : T.n = st.n) {ren : List (Nat × Nat)} {cr : List (Nat × CR)} {ops : List Oper} {o : Oper} {p : List (Nat × Bool)} (hgp : guardp st ops o = some p) (hgp2 : guardp T ops o = some p) (hp : holds a.tmps p)
    (hs : ∀ x, x ∈ o.op.operands.toList → ∀ t, x = .tmp t → look st.sl t = look T.sl t) (hps : ∀ e, e ∈ p → look st.sl e.1 = look T.sl e.1) {vc : List Prop} {v : SV} {os : Hp} (hf : fresh T.hp os = true) (h : qcore Γ E S ren cr ops st o = some (vc, v, os)) :
    qcore Γ E S ren cr ops T o = some (vc, v, os) := by
  have hd : dstok T o.dst = dstok st o.dst := by unfold dstok; rw [hn]
  simp only [qcore] at h ⊢
  rw [hd, hgp2]
  rw [hgp] at h
  split at h
  · rename_i m e1 e2 e3
    simp only [Option.some.injEq] at e3
    subst e3
    try rw [e1, e2]
    try dsimp only
    split at h
    · rename_i vc1 v1 os1 hq
      rw [quiet_mono c g hp hs hq]
      try dsimp only
      split at h
      · rename_i h1 h2
        simp only [Option.some.injEq, Prod.mk.injEq] at h
        obtain ⟨rfl, rfl, rfl⟩ := h
        simp only [hf, h2]
      · cases h
    · cases h
  · rename_i m e p' e1 e2 e3
    simp only [Option.some.injEq] at e3
    subst e3
    try rw [e1, e2]
    try dsimp only
    split at h
    · rename_i h1
      try rw [h1]
      try dsimp only
      split at h
      · rename_i vc1 v1 hq
        rw [quiet_mono c g hp hs hq]
        try dsimp only
        rw [← hyps_mono hps]
        exact h
      · cases h
    · cases h
  · cases h
end
end Go.Proofs.Ythlflnplnajjiaa.G
