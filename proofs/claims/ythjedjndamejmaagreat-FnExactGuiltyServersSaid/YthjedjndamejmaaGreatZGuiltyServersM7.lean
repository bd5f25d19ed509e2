/-
  A variable's own slice, seen: what is read out of it are views.
-/
import Derived.Test.YthjedjndamejmaaGreatZGuiltyServersM6
import Derived.Orders
namespace Go.Proofs.YthjedjndamejmaaGreat.G
set_option linter.all false
open Go.RowKit L D
variable {ty : Tag → Nat}
/-- The quiet part of a region, in the text's order. -/
def runQ (Γ : Nat → TK) (E : Tag → Nat → Prop) (S : FuncId → List S1 → List S1 → Prop) (ren : List (Nat × Nat)) (cr : List (Nat × CR)) (ops : List Oper) : List Oper → St → List Prop → Option (List Prop × St)
  | [], st, acc => some (acc, st)
  | o :: r, ⟨n, sl, hp⟩, acc => match o.dst with
    | some d => match sl.any (fun e => e.2.mentions d), qcore Γ E S ren cr ops ⟨n, sl, hp⟩ o with
      | false, some ([], v, os) => runQ Γ E S ren cr ops r ⟨n, (d, v) :: sl, app1 os hp⟩ acc
      | false, some ([p], v, os) => runQ Γ E S ren cr ops r ⟨n, (d, v) :: sl, app1 os hp⟩ (p :: acc)
      | false, some ([p, q], v, os) => runQ Γ E S ren cr ops r ⟨n, (d, v) :: sl, app1 os hp⟩ (p :: q :: acc)
      | false, some (l, v, os) => runQ Γ E S ren cr ops r ⟨n, (d, v) :: sl, app1 os hp⟩ (l ++ acc)
      | _, _ => none
    | none => none
/-- What an operation has added. -/
structure TE where
  d : Nat
  v : SV
  os : Hp
def app (s : St) (e : TE) : St := ⟨s.n, (e.d, e.v) :: s.sl, e.os ++ s.hp⟩
theorem runQ_split {Γ : Nat → TK} {E : Tag → Nat → Prop} {S : FuncId → List S1 → List S1 → Prop} {ren : List (Nat × Nat)} {cr : List (Nat × CR)} {ops : List Oper} {o : Oper} {r : List Oper} {st : St} {acc vcs : List Prop} {st2 : St} (h : runQ Γ E S ren cr ops (o :: r) st acc = some (vcs, st2)) :
    ∃ vc e, o.dst = some e.d ∧ (st.sl.any fun x => x.2.mentions e.d) = false ∧ qcore Γ E S ren cr ops st o = some (vc, e.v, e.os) ∧ runQ Γ E S ren cr ops r (app st e) (vc ++ acc) = some (vcs, st2) := by
  obtain ⟨n, sl, hp⟩ := st
  simp only [runQ] at h
  split at h
  · rename_i d hd
    split at h
    · rename_i v os h1 h2; exact ⟨[], ⟨d, v, os⟩, hd, h1, h2, by simp only [app1_eq] at h; exact h⟩
    · rename_i p v os h1 h2; exact ⟨[p], ⟨d, v, os⟩, hd, h1, h2, by simp only [app1_eq] at h; exact h⟩
    · rename_i p q v os h1 h2; exact ⟨[p, q], ⟨d, v, os⟩, hd, h1, h2, by simp only [app1_eq] at h; exact h⟩
    · rename_i l v os _ _ _ h1 h2; exact ⟨_, ⟨d, v, os⟩, hd, h1, h2, by simp only [app1_eq] at h; exact h⟩
    · cases h
  · cases h
def nocond (sl : List (Nat × SV)) : Bool := sl.all fun e => match e.2 with | .cond _ _ => false | _ => true
/-- A region that draws: its state behind. -/
def regD (P : Program) (ty : Tag → Nat) (Γ : Nat → TK) (ren : List (Nat × Nat)) (cr : List (Nat × CR)) (ks hs : List Nat) (m : Nat) (ops : List Oper) : St → Option (List Prop × St)
  | ⟨n, sl0, hp0⟩ => match nocond sl0, runQ Γ (Elt P ty) (Sound ty P) ren cr ops (ops.take m) ⟨n, sl0, hp0⟩ [] with
    | true, some (vc1, s1) => match run P ty Γ ren cr ops (ops.drop m) s1 vc1 with
      | some (vc, st') => match keepS st'.sl ks, keepH st'.hp (autoH st'.sl st'.hp ks hs) with
        | some sl, some hp => match closedk sl hp, Nat.beq st'.n n with
          | true, true => some (vc, ⟨n, sl, hp⟩)
          | _, _ => none
        | _, _ => none
      | none => none
    | _, _ => none

/-! ### Edges -/
def edges (o : Oper) : List Nat := o.after.toList.filterMap fun e => if Region.binds .any e then some e.on else none
def cloStep (acc : List Nat) (o : Oper) : List Nat := acc ++ [(edges o).foldl (fun s j => s ||| 2 ^ j ||| acc.getD j 0) 0]
/-- For each operation the bits of those that must stand before it. -/
def clo (ops : List Oper) : List Nat := ops.foldl cloStep []
def tmpsOf (o : Oper) : List Nat := o.op.operands.toList.filterMap fun | .tmp t => some t | _ => none
def dstIs (o : Oper) (t : Nat) : Bool := match o.dst with | some d => Nat.beq d t | none => false
def idx {α : Type} : Nat → List α → List (Nat × α)
  | _, [] => []
  | i, x :: r => (i, x) :: idx (i + 1) r
/-- Nothing of an operation's operands is written beside it. -/
def usesok (A : List (Nat × Oper)) (cl : List Nat) (i : Nat) (o : Oper) : Bool :=
  (tmpsOf o).all fun t => A.all fun e => !(dstIs e.2 t) || Nat.beq e.1 i || (edges o).any (Nat.beq e.1) || (Nat.blt i e.1 && (cl.getD e.1 0).testBit i)
def guardok (m : Nat) (i : Nat) (o : Oper) : Bool := match o.guard with
  | none => true
  | some (j, _) => Nat.blt j i && Nat.blt j m && (edges o).any (Nat.beq j)
def dstok1 (A : List (Nat × Oper)) (i : Nat) (o : Oper) : Bool := match o.dst with
  | some d => A.all fun e => Nat.beq e.1 i || !(dstIs e.2 d)
  | none => false
/-- The order is of no account: for a region whose first m operations are quiet. -/
def chk (ops : List Oper) (m : Nat) : Bool :=
  let cl := clo ops
  let A := idx 0 (ops.take m)
  (Nat.ble m ops.length) &&
  ((idx 0 ops).all fun e => (edges e.2).all fun j => Nat.blt j e.1) &&
  (A.all fun e => usesok A cl e.1 e.2 && guardok m e.1 e.2 && dstok1 A e.1 e.2) &&
  ((idx 0 ops).all fun e => Nat.blt e.1 m || (List.range e.1).all fun j => (cl.getD e.1 0).testBit j)
end Go.Proofs.YthjedjndamejmaaGreat.G
namespace Go.Proofs.YthjedjndamejmaaGreat.G
set_option linter.all false
open Go.RowKit L D
variable {ty : Tag → Nat}
/-- Two states' objects: where both have a name, they have one object. -/
def Compat (hp hp' : Hp) : Prop := ∀ n o o', look hp n = some o → look hp' n = some o' → o = o'
section
variable {zb : Base} {st T : St} {a : Act} {w : World} {env : Env}
theorem imm_mono (c : Compat st.hp T.hp) {tg : Option Tag} {v x : V} {u : Value} (hr : RA w T.hp env v u) (h : imm st tg v = some x) : imm T tg v = some x := by
  cases v with
  | own n =>
    obtain ⟨⟨t, l, hl⟩, _⟩ := hr
    simp only [imm] at h ⊢
    split at h
    · rename_i t' l' hl'
      have := c n _ _ hl' hl
      simp only [Obj.arr.injEq] at this
      obtain ⟨rfl, hll⟩ := this
      rw [hl]
      simp only [← eq_of_heq hll]
      exact h
    · cases h
  | sl t l => exact h
  | vw n p t l => exact h
  | lit v =>
    have e : imm T tg (.lit v) = imm st tg (.lit v) := by
      cases v with
      | slice a n c => cases a <;> cases n <;> cases c <;> rfl
      | _ => rfl
    rw [e]; exact h
  | _ => simp [imm] at h
theorem imms_mono (c : Compat st.hp T.hp) : ∀ {vs : List V} {tg : List (Option Tag)} {xs : List V} {us : List Value}, All2 (RA w T.hp env) vs us → imms st tg vs = some xs → imms T tg vs = some xs
  | [], _, xs, us, _, h => h
  | v :: r, tg, xs, us, hr, h => by
    cases us with
    | nil => exact hr.elim
    | cons u us =>
      simp only [imms] at h ⊢
      split at h
      · rename_i x y h1 h2
        rw [imm_mono c hr.1 h1, imms_mono c hr.2 h2]
        exact h
      · cases h
theorem arg1_mono (c : Compat st.hp T.hp) {k : TK} {v x : S1} {u : Value} (hr : RS1 w T.hp env v u) (h : arg1 st k v = some x) : arg1 T k v = some x := by
  cases v with
  | a v =>
    simp only [arg1] at h ⊢
    split at h
    · rename_i y hy
      rw [imm_mono c hr hy]
      exact h
    · cases h
  | agg l =>
    obtain ⟨cs, _, hl⟩ := hr
    simp only [arg1] at h ⊢
    split at h
    · rename_i y hy
      rw [imms_mono c hl hy]
      exact h
    · cases h
theorem opv_mono {p : List (Nat × Bool)} {x : Operand} (hs : ∀ t, x = .tmp t → look st.sl t = look T.sl t) : opv st p x = opv T p x := by
  cases x with
  | tmp t => simp only [opv, hs t rfl]
  | _ => rfl
theorem argb_mono {b : Bool} (c : Compat st.hp T.hp) {k : TK} {v x : S1} {u : Value} (hr : RS1 w T.hp env v u) (h : argb b st k v = some x) : argb b T k v = some x := by
  unfold argb at h ⊢
  split at h
  · exact h
  · exact arg1_mono c hr h
theorem args_mono {b : Bool} {Γ : Nat → TK} (c : Compat st.hp T.hp) (g : Good ty zb T a.tmps w env) {p : List (Nat × Bool)} (hp : holds a.tmps p) : ∀ {xs : List Operand} {ts : List Nat} {as : List S1}, (∀ x, x ∈ xs → ∀ t, x = .tmp t → look st.sl t = look T.sl t) → args b Γ st p xs ts = some as → args b Γ T p xs ts = some as
  | [], _, as, _, h => h
  | x :: r, ts, as, hs, h => by
    simp only [args] at h ⊢
    rw [← opv_mono (st := st) (T := T) (hs x (by simp))]
    split at h
    · rename_i v hv
      split at h
      · rename_i y ys h1 h2
        have hr := opv_ok g hp (by rw [← opv_mono (hs x (by simp))]; exact hv)
        rw [argb_mono c hr h1, args_mono c g hp (fun z hz => hs z (List.mem_cons_of_mem _ hz)) h2]
        exact h
      · cases h
    · cases h
theorem lenOf_mono (c : Compat st.hp T.hp) {k : TK} {v : V} {u : Value} {n : Int} (hr : RA w T.hp env v u) (h : lenOf st k v = some n) : lenOf T k v = some n := by
  cases v with
  | own m =>
    obtain ⟨⟨t, l, hl⟩, _⟩ := hr
    simp only [lenOf] at h ⊢
    split at h
    · split at h
      · rename_i t' l' hl'
        have := c m _ _ hl' hl
        simp only [Obj.arr.injEq] at this
        obtain ⟨rfl, hll⟩ := this
        rw [hl]
        simp only [← eq_of_heq hll]
        exact h
      · cases h
    · cases h
  | sl t l => exact h
  | vw n p t l => exact h
  | lit v =>
    have e : lenOf T k (.lit v) = lenOf st k (.lit v) := by
      cases v with
      | slice a n c => cases a <;> cases n <;> cases c <;> rfl
      | _ => rfl
    rw [e]; exact h
  | _ => simp [lenOf] at h
theorem bytesOf_mono (c : Compat st.hp T.hp) {v : V} {u : Value} (hr : RA w T.hp env v u) {l : List UInt8} (h : bytesOf st v = some l) : bytesOf T v = some l := by
  cases v with
  | own n =>
    obtain ⟨⟨t, l2, hl2⟩, _⟩ := hr
    simp only [bytesOf] at h ⊢
    split at h
    · rename_i l3 hl3
      simp only [Option.some.injEq] at h
      subst h
      have := c n _ _ hl3 hl2
      simp only [Obj.arr.injEq] at this
      obtain ⟨rfl, hll⟩ := this
      rw [hl2]
      simp only [eq_of_heq hll]
    · cases h
  | sl t l =>
    have e : bytesOf T (.sl t l) = bytesOf st (.sl t l) := by cases t <;> rfl
    rw [e]; exact h
  | vw n p t l =>
    have e : bytesOf T (.vw n p t l) = bytesOf st (.vw n p t l) := by cases t <;> rfl
    rw [e]; exact h
  | lit v =>
    have e : bytesOf T (.lit v) = bytesOf st (.lit v) := by
      cases v with
      | slice a n c => cases a <;> cases n <;> cases c <;> rfl
      | _ => rfl
    rw [e]; exact h
  | _ => simp [bytesOf] at h
theorem qparts_mono {p : List (Nat × Bool)} {g : Tag} : ∀ {xs : List (Nat × Operand)} {i : Nat}, (∀ x, x ∈ xs → opv st p x.2 = opv T p x.2) → qparts st p g i xs = qparts T p g i xs
  | [], _, _ => rfl
  | (j, x) :: r, i, h => by
    simp only [qparts]
    rw [h (j, x) (by simp), qparts_mono (fun y hy => h y (List.mem_cons_of_mem _ hy))]
theorem bfill_mono {p : List (Nat × Bool)} {n : Nat} {fo : List Nat} : ∀ {xs : List (Nat × Operand)} {c : List V}, (∀ x, x ∈ xs → opv st p x.2 = opv T p x.2) → bfill st p n fo xs c = bfill T p n fo xs c
  | [], _, _ => rfl
  | (j, x) :: r, c, h => by
    simp only [bfill]
    rw [h (j, x) (by simp)]
    have : ∀ c', bfill st p n fo r c' = bfill T p n fo r c' := fun c' => bfill_mono (fun y hy => h y (List.mem_cons_of_mem _ hy))
    simp only [this]
theorem iopvs_mono {p : List (Nat × Bool)} : ∀ {xs : List Operand}, (∀ x, x ∈ xs → opv st p x = opv T p x) → iopvs st p xs = iopvs T p xs
  | [], _ => rfl
  | x :: r, h => by
    simp only [iopvs, iopv]
    rw [h x (by simp), iopvs_mono (fun y hy => h y (List.mem_cons_of_mem _ hy))]
theorem named_obj (c : Compat st.hp T.hp) {v : V} {u : Value} (hr : RA w T.hp env v u) {n : Nat} (hn : v.name = some n) {o : Obj} (h : look st.hp n = some o) : look T.hp n = some o := by
  have : ∃ o', look T.hp n = some o' := by
    cases v <;> simp only [V.name, Option.some.injEq, reduceCtorEq] at hn
    case own m => subst hn; obtain ⟨⟨t, l, hl⟩, _⟩ := hr; exact ⟨_, hl⟩
    case ptr m off => subst hn; obtain ⟨⟨c, hl⟩, _⟩ := hr; exact ⟨_, hl⟩
    case eptr m i off => subst hn; obtain ⟨t, l, hl, _⟩ := hr; exact ⟨_, hl⟩
    case vw m p t l => subst hn; obtain ⟨⟨t, l, hl⟩, _⟩ := hr; exact ⟨_, hl⟩
    case bsl m t l => subst hn; obtain ⟨⟨t, l, hl⟩, _⟩ := hr; exact ⟨_, hl⟩
    case fnp f m => subst hn; obtain ⟨⟨c, hl⟩, _⟩ := hr; exact ⟨_, hl⟩
    case vip m p t x off => subst hn; obtain ⟨⟨t, l, hl⟩, _⟩ := hr; exact ⟨_, hl⟩
  obtain ⟨o', h'⟩ := this
  rw [c n _ _ h h']; exact h'
theorem own1_mono (c : Compat st.hp T.hp) : ∀ {l d : List V} {n : Nat} {us : List Value}, All2 (RA w T.hp env) l us → own1 st.hp l = some (d, n) → own1 T.hp l = some (d, n)
  | [], _, _, _, _, h => by simp [own1] at h
  | v :: r, d, n, us, hr, h => by
    cases us with
    | nil => exact hr.elim
    | cons u us =>
      unfold own1 at h
      split at h
      · rename_i m r' he
        simp only [List.cons.injEq] at he
        obtain ⟨rfl, rfl⟩ := he
        split at h
        · rename_i t l hl hpl
          have := named_obj c hr.1 (n := m) rfl hl
          simp only [own1, this, hpl]
          exact h
        · cases h
      · cases h
      · rename_i x r' hns he
        simp only [List.cons.injEq] at he
        obtain ⟨rfl, rfl⟩ := he
        split at h
        · rename_i c' n' h'
          have := own1_mono c hr.2 h'
          unfold own1
          split
          · rename_i e; simp at e
          · rename_i e; simp only [List.cons.injEq, V.lit.injEq] at e; exact absurd e.1 (by rintro rfl; exact hns _ _ _ rfl)
          · rename_i e
            simp only [List.cons.injEq, V.lit.injEq] at e
            obtain ⟨rfl, rfl⟩ := e
            rw [this]; exact h
          · rename_i e1 e2 e3; exact absurd rfl (e3 _ _)
        · cases h
      · cases h
theorem quiet_mono {Γ : Nat → TK} {E : Tag → Nat → Prop} {S : FuncId → List S1 → List S1 → Prop} (c : Compat st.hp T.hp) (g : Good ty zb T a.tmps w env) {p : List (Nat × Bool)} (hp : holds a.tmps p) {cr : List (Nat × CR)} {d m : Nat} {op : Op} {out : Out}
    (hs : ∀ x, x ∈ op.operands.toList → ∀ t, x = .tmp t → look st.sl t = look T.sl t) (h : quiet Γ E S cr st p d m op = some out) : quiet Γ E S cr T p d m op = some out := by
  have ho : ∀ {q x}, x ∈ op.operands.toList → opv st q x = opv T q x := fun hx => opv_mono (hs _ hx)
  have hr : ∀ {x v}, x ∈ op.operands.toList → opv st p x = some v → RS1 w T.hp env v (a.eval x) := fun hx hv => opv_ok g hp (by rw [← ho hx]; exact hv)
  have rn : ∀ {x v n o}, x ∈ op.operands.toList → opv st p x = some (.a v) → v.name = some n → look st.hp n = some o → look T.hp n = some o := fun hx hv hn hl => named_obj c (hr hx hv) hn hl
  cases op with
  | move x =>
    have hm : mvt st x = mvt T x := by
      cases x with
      | tmp t => simp only [mvt]; rw [hs (.tmp t) (by simp [Op.operands]) t rfl]
      | _ => rfl
    simp only [quiet] at h ⊢; rw [← ho (by simp [Op.operands]), ← hm]; exact h
  | assign x =>
    have hm : mvt st x = mvt T x := by
      cases x with
      | tmp t => simp only [mvt]; rw [hs (.tmp t) (by simp [Op.operands]) t rfl]
      | _ => rfl
    simp only [quiet] at h ⊢; rw [← ho (by simp [Op.operands]), ← hm]; exact h
  | nilCheck x => simp only [quiet] at h ⊢; rw [← ho (by simp [Op.operands])]; exact h
  | makeSlice t x y => simp only [quiet] at h ⊢; rw [← ho (x := x) (by simp [Op.operands]), ← ho (x := y) (by simp [Op.operands])]; exact h
  | buildSlice t n xs =>
    simp only [quiet] at h ⊢
    have hq : ∀ g, qparts st p g 0 xs.toList = qparts T p g 0 xs.toList := fun g => qparts_mono fun x hx => ho (by simp only [Op.operands, List.mem_map]; exact ⟨x, hx, rfl⟩)
    simp only [← hq]
    split at h
    case h_2 => cases h
    rename_i gt e hk
    cases hkey : (look cr (d + 500000)).isSome with
    | false => simp only [hkey] at h ⊢; exact h
    | true =>
      simp only [hkey] at h ⊢
      split at h
      case h_2 => cases h
      rename_i x hlen hps
      split at h
      case h_2 => cases h
      rename_i s hx
      split at h
      case h_2 => cases h
      rename_i cc n1 hc
      have hmem : x ∈ (Op.buildSlice t n xs).operands.toList := by
        simp only [Op.operands, List.mem_map, Array.toList_map]
        exact ⟨(0, x), by rw [hps]; simp, rfl⟩
      have hrx := hr hmem hx
      have hown : own1 T.hp (cellsOf s) = some (cc, n1) := by
        cases s with
        | agg l => obtain ⟨cs, _, hl⟩ := hrx; exact own1_mono c hl hc
        | a v => exact own1_mono c (us := [a.eval x]) ⟨hrx, trivial⟩ hc
      simp only [← ho hmem, hx, hown]
      exact h
  | build t xs =>
    simp only [quiet] at h ⊢
    have hq : ∀ n fo z, bfill st p n fo xs.toList z = bfill T p n fo xs.toList z := fun n fo z => bfill_mono fun x hx => ho (by simp only [Op.operands, List.mem_map]; exact ⟨x, hx, rfl⟩)
    simp only [← hq]
    exact h
  | pick x y z =>
    cases x with
    | tmp t =>
      simp only [quiet] at h ⊢
      rw [← ho (x := .tmp t) (by simp [Op.operands]), ← ho (x := y) (by simp [Op.operands]), ← ho (x := z) (by simp [Op.operands])]
      exact h
    | _ => simp [quiet] at h
  | box e x => simp only [quiet] at h ⊢; rw [← ho (by simp [Op.operands])]; exact h
  | alloc t => exact h
  | load t x =>
    have hm : x ∈ (Op.load t x).operands.toList := by simp [Op.operands]
    simp only [quiet] at h ⊢
    rw [← ho hm]
    split at h
    · rename_i n off hx
      try rw [hx]
      try dsimp only
      split at h
      · rename_i c2 hl2
        rw [rn hm hx rfl hl2]
        exact h
      · cases h
    · rename_i hx
      try rw [hx]
      exact h
    · rename_i hx
      try rw [hx]
      exact h
    · rename_i n i off hx
      try rw [hx]
      try dsimp only
      split at h
      · rename_i c2 hl2
        rw [rn hm hx rfl hl2]
        exact h
      · cases h
    · cases h
  | binOp op t x y t' =>
    simp only [quiet] at h ⊢
    rw [← ho (x := x) (by simp [Op.operands]), ← ho (x := y) (by simp [Op.operands])]
    exact h
  | unOp op t x =>
    cases op with
    | not => simp only [quiet] at h ⊢; rw [← ho (by simp [Op.operands])]; exact h
    | neg => simp only [quiet] at h ⊢; rw [← ho (by simp [Op.operands])]; exact h
    | _ => simp [quiet] at h
  | convert s t x =>
    simp only [quiet] at h ⊢
    rw [← ho (x := x) (by simp [Op.operands])]
    split at h
    · rename_i ik n k1 k2 hx hk1 hk2
      try rw [hx, hk1, hk2]
      exact h
    · rename_i v g' e hx hk1 hk2
      try rw [hx, hk1, hk2]
      try dsimp only
      split at h
      · rename_i l hk3 hl
        rw [hk3, bytesOf_mono c (show RA w T.hp env v _ from hr (x := x) (by simp [Op.operands]) hx) hl]
        exact h
      · cases h
    · cases h
  | slice t x lo hi mx =>
    cases mx with
    | some _ => simp [quiet] at h
    | none =>
      have hb : ∀ (b : Option Operand), (∀ y, b = some y → y ∈ (Op.slice t x lo hi none).operands.toList) → ∀ z, bnd st p z b = bnd T p z b := by
        intro b hm z
        cases b with
        | none => rfl
        | some y => simp only [bnd]; rw [ho (hm y rfl)]
      have hm : x ∈ (Op.slice t x lo hi none).operands.toList := by simp [Op.operands]
      simp only [quiet] at h ⊢
      rw [← ho hm, ← hb lo (by rintro y rfl; simp [Op.operands])]
      simp only [← hb hi (by rintro y rfl; simp [Op.operands])]
      cases hkey : (look cr (d + 600000)).isSome with
      | true => simp only [hkey] at h ⊢; exact h
      | false =>
        simp only [hkey] at h ⊢
        split at h
        · split at h
          · rename_i hx hlo
            try rw [hx, hlo]
            exact h
          · rename_i hx hlo
            try rw [hx, hlo]
            exact h
          · rename_i hx hlo
            try rw [hx, hlo]
            try dsimp only
            split at h
            · rename_i hl2
              rw [rn hm hx rfl hl2]
              exact h
            · cases h
          · cases h
        · exact h
        · cases h
  | makeFunc fn first captured =>
    cases fn with
    | func f =>
      simp only [quiet] at h ⊢
      split at h
      · rename_i x hf hc
        try rw [hf, hc]
        try dsimp only
        have hm : x ∈ (Op.makeFunc (.func f) first captured).operands.toList := by simp only [Op.operands, Array.toList_append, hf, hc]; simp
        have e := ho (q := p) hm
        rw [← e]
        exact h
      · cases h
    | _ => simp [quiet] at h
  | fieldAddr t x f =>
    simp only [quiet] at h ⊢
    rw [← ho (x := x) (by simp [Op.operands])]
    exact h
  | indexAddr t x i =>
    have hm : x ∈ (Op.indexAddr t x i).operands.toList := by simp [Op.operands]
    simp only [quiet] at h ⊢
    rw [← ho hm, ← ho (x := i) (by simp [Op.operands])]
    split at h
    · split at h
      · rename_i hx hi
        try rw [hx, hi]
        exact h
      · rename_i hx hi
        try rw [hx, hi]
        try dsimp only
        split at h
        · rename_i hl2
          rw [rn hm hx rfl hl2]
          exact h
        · cases h
      · rename_i hx hi
        try rw [hx, hi]
        exact h
      · cases h
    · cases h
  | extract x i =>
    cases x with
    | tmp t => simp only [quiet] at h ⊢; rw [← hs (.tmp t) (by simp [Op.operands]) t rfl]; exact h
    | _ => simp [quiet] at h
  | call cl =>
    obtain ⟨callee, xs, ts⟩ := cl
    have hop : ∀ x, x ∈ xs.toList → x ∈ (Op.call ⟨callee, xs, ts⟩).operands.toList := by
      intro x hx
      simp only [Op.operands, Call.operands, Array.toList_append]
      exact List.mem_append_right _ hx
    cases callee with
    | value x =>
      cases x with
      | func f =>
        simp only [quiet] at h ⊢
        split at h
        · rename_i as c1 h1 h2
          rw [args_mono c g hp (fun x hx => hs x (hop x hx)) h1, h2]
          exact h
        · cases h
      | tmp y =>
        simp only [quiet] at h ⊢
        rw [← ho (x := .tmp y) (by simp [Op.operands, Call.operands])]
        split at h
        · rename_i v hv
          try rw [hv]
          try dsimp only
          split at h
          · rename_i f hf
            try rw [hf]
            try dsimp only
            split at h
            · rename_i as c1 h1 h2
              rw [args_mono c g hp (fun x hx => hs x (hop x hx)) h1, h2]
              exact h
            · cases h
          · cases h
        · cases h
      | _ => simp [quiet] at h
    | builtin b =>
      cases b with
      | len =>
        simp only [quiet] at h ⊢
        split at h
        · rename_i x t hxl htl
          have hm : x ∈ xs.toList := by rw [hxl]; simp
          try rw [hxl, htl]
          try dsimp only
          rw [← ho (hop x hm)]
          split at h
          · rename_i v hv
            try rw [hv]
            try dsimp only
            split at h
            · rename_i n hn
              rw [lenOf_mono c (show RA w T.hp env v _ from hr (hop x hm) hv) hn]
              exact h
            · cases h
          · cases h
        · cases h
      | max => simp only [quiet] at h ⊢; rw [← iopvs_mono (st := st) (T := T) (xs := xs.toList) (fun x hx => ho (hop x hx))]; exact h
      | min => simp only [quiet] at h ⊢; rw [← iopvs_mono (st := st) (T := T) (xs := xs.toList) (fun x hx => ho (hop x hx))]; exact h
      | _ => simp [quiet] at h
    | invoke _ _ => simp [quiet] at h
  | _ => simp [quiet] at h
theorem hyps_mono {p : List (Nat × Bool)} (hs : ∀ e, e ∈ p → look st.sl e.1 = look T.sl e.1) : hyps st p = hyps T p := by
  induction p with
  | nil => rfl
  | cons e r ih =>
    obtain ⟨d, x⟩ := e
    simp only [hyps]
    rw [hs (d, x) (by simp), ih fun e he => hs e (by simp [he])]
theorem qcore_mono {Γ : Nat → TK} {E : Tag → Nat → Prop} {S : FuncId → List S1 → List S1 → Prop} (c : Compat st.hp T.hp) (g : Good ty zb T a.tmps w env) (hn : T.n = st.n) {ren : List (Nat × Nat)} {cr : List (Nat × CR)} {ops : List Oper} {o : Oper} {p : List (Nat × Bool)} (hgp : guardp st ops o = some p) (hgp2 : guardp T ops o = some p) (hp : holds a.tmps p)
    (hs : ∀ x, x ∈ o.op.operands.toList → ∀ t, x = .tmp t → look st.sl t = look T.sl t) (hps : ∀ e, e ∈ p → look st.sl e.1 = look T.sl e.1) {vc : List Prop} {v : SV} {os : Hp} (hf : fresh T.hp os = true) (h : qcore Γ E S ren cr ops st o = some (vc, v, os)) :
    qcore Γ E S ren cr ops T o = some (vc, v, os) := by
  have hd : dstok T o.dst = dstok st o.dst := by unfold dstok; rw [hn]
  simp only [qcore] at h ⊢
  rw [hd, hgp2]
  rw [hgp] at h
  split at h
  · rename_i m e1 e2 e3
    simp only [Option.some.injEq] at e3
    subst e3
    try rw [e1, e2]
    try dsimp only
    split at h
    · rename_i vc1 v1 os1 hq
      rw [quiet_mono c g hp hs hq]
      try dsimp only
      split at h
      · rename_i h1 h2
        simp only [Option.some.injEq, Prod.mk.injEq] at h
        obtain ⟨rfl, rfl, rfl⟩ := h
        simp only [hf, h2]
      · cases h
    · cases h
  · rename_i m e p' e1 e2 e3
    simp only [Option.some.injEq] at e3
    subst e3
    try rw [e1, e2]
    try dsimp only
    split at h
    · rename_i h1
      try rw [h1]
      try dsimp only
      split at h
      · rename_i vc1 v1 hq
        rw [quiet_mono c g hp hs hq]
        try dsimp only
        rw [← hyps_mono hps]
        exact h
      · cases h
    · cases h
  · cases h
end
end Go.Proofs.YthjedjndamejmaaGreat.G
namespace Go.Proofs.YthjedjndamejmaaGreat.G
set_option linter.all false
open Go.RowKit L D
variable {ty : Tag → Nat}
/-- The state behind those of the first i operations that have run. -/
def mkD (inD : Nat → Bool) (tr : List TE) (s : St) : Nat → St
  | 0 => s
  | i + 1 => match inD i, tr[i]? with
    | true, some e => app (mkD inD tr s i) e
    | _, _ => mkD inD tr s i
abbrev pre (tr : List TE) (s : St) (i : Nat) : St := mkD (fun _ => true) tr s i
/-- What the text's order has made of the quiet operations. -/
structure Trace (Γ : Nat → TK) (E : Tag → Nat → Prop) (S : FuncId → List S1 → List S1 → Prop) (ren : List (Nat × Nat)) (cr : List (Nat × CR)) (ops : List Oper) (m : Nat) (s : St) (tr : List TE) (vcs : List Prop) : Prop where
  len : tr.length = m
  one : ∀ i, i < m → ∃ o e vc, ops[i]? = some o ∧ tr[i]? = some e ∧ o.dst = some e.d ∧ ((pre tr s i).sl.any fun x => x.2.mentions e.d) = false ∧ qcore Γ E S ren cr ops (pre tr s i) o = some (vc, e.v, e.os) ∧ ∀ q, q ∈ vc → q ∈ vcs
theorem runQ_acc {Γ : Nat → TK} {E : Tag → Nat → Prop} {S : FuncId → List S1 → List S1 → Prop} {ren : List (Nat × Nat)} {cr : List (Nat × CR)} {ops : List Oper} : ∀ {l : List Oper} {st st2 : St} {acc vcs : List Prop}, runQ Γ E S ren cr ops l st acc = some (vcs, st2) → ∀ q, q ∈ acc → q ∈ vcs
  | [], st, st2, acc, vcs, h, q, hq => by
    simp only [runQ, Option.some.injEq, Prod.mk.injEq] at h
    rw [← h.1]; exact hq
  | o :: r, st, st2, acc, vcs, h, q, hq => by
    obtain ⟨vc, e, _, _, _, h2⟩ := runQ_split h
    exact runQ_acc h2 q (List.mem_append_right _ hq)
theorem mkD_cons (inD : Nat → Bool) (e : TE) (tr : List TE) (s : St) (h : inD 0 = true) : ∀ i, mkD inD (e :: tr) s (i + 1) = mkD (fun j => inD (j + 1)) tr (app s e) i
  | 0 => by simp [mkD, h]
  | i + 1 => by
    rw [mkD, mkD_cons inD e tr s h i, mkD]
    simp only [List.getElem?_cons_succ]
theorem trace_of {Γ : Nat → TK} {E : Tag → Nat → Prop} {S : FuncId → List S1 → List S1 → Prop} {ren : List (Nat × Nat)} {cr : List (Nat × CR)} {ops : List Oper} : ∀ {l : List Oper} {k : Nat} {st st2 : St} {acc vcs : List Prop}, runQ Γ E S ren cr ops l st acc = some (vcs, st2) → (∀ i o, l[i]? = some o → ops[k + i]? = some o) →
    ∃ tr : List TE, tr.length = l.length ∧ st2 = pre tr st l.length ∧ ∀ i, i < l.length → ∃ o e vc, ops[k + i]? = some o ∧ tr[i]? = some e ∧ o.dst = some e.d ∧ ((pre tr st i).sl.any fun x => x.2.mentions e.d) = false ∧ qcore Γ E S ren cr ops (pre tr st i) o = some (vc, e.v, e.os) ∧ ∀ q, q ∈ vc → q ∈ vcs
  | [], k, st, st2, acc, vcs, h, _ => by
    simp only [runQ, Option.some.injEq, Prod.mk.injEq] at h
    exact ⟨[], rfl, h.2.symm, fun i hi => absurd hi (by simp)⟩
  | o :: r, k, st, st2, acc, vcs, h, hk => by
    obtain ⟨vc, e, h1, h2, h3, h4⟩ := runQ_split h
    obtain ⟨tr, q1, q2, q3⟩ := trace_of (k := k + 1) h4 (fun i o' ho => by
      have := hk (i + 1) o' (by simpa using ho)
      rw [show k + 1 + i = k + (i + 1) by omega]; exact this)
    refine ⟨e :: tr, by simp [q1], ?_, ?_⟩
    · rw [q2, List.length_cons]
      exact (mkD_cons (fun _ => true) e tr st rfl _).symm
    · intro i hi
      cases i with
      | zero => exact ⟨o, e, vc, hk 0 o rfl, rfl, h1, h2, h3, fun q hq => runQ_acc h4 q (List.mem_append_left _ hq)⟩
      | succ i =>
        obtain ⟨o', e', vc', p1, p2, p3, p4, p5, p6⟩ := q3 i (by simpa using hi)
        refine ⟨o', e', vc', by rw [show k + (i + 1) = k + 1 + i by omega]; exact p1, by simpa using p2, p3, ?_, ?_, p6⟩
        · rw [pre, mkD_cons (fun _ => true) e tr st rfl i]; exact p4
        · rw [pre, mkD_cons (fun _ => true) e tr st rfl i]; exact p5

section
variable {inD inE : Nat → Bool} {tr : List TE} {s : St}
theorem mkD_succ_in {i : Nat} {e : TE} (h : inD i = true) (he : tr[i]? = some e) : mkD inD tr s (i + 1) = app (mkD inD tr s i) e := by rw [mkD, h, he]
theorem mkD_succ_out {i : Nat} (h : inD i = false) : mkD inD tr s (i + 1) = mkD inD tr s i := by rw [mkD, h]
theorem mkD_n : ∀ i, (mkD inD tr s i).n = s.n
  | 0 => rfl
  | i + 1 => by
    rw [mkD]
    split
    · exact mkD_n i
    · exact mkD_n i
theorem mkD_slot : ∀ {i j : Nat} {e : TE}, j < i → inD j = true → tr[j]? = some e → (∀ j' e', j' < i → inD j' = true → tr[j']? = some e' → e'.d = e.d → j' = j) → look (mkD inD tr s i).sl e.d = some e.v
  | i + 1, j, e, hj, hin, he, hd => by
    by_cases hij : j = i
    · subst hij
      rw [mkD_succ_in hin he]; exact look_eq
    · have ih := mkD_slot (i := i) (j := j) (by omega) hin he (fun j' e' h1 h2 h3 h4 => hd j' e' (by omega) h2 h3 h4)
      rw [mkD]
      split
      · rename_i e' h1 h2
        have hne : e.d ≠ e'.d := fun hh => by
          have := hd i e' (by omega) h1 h2 hh.symm
          omega
        show look ((e'.d, e'.v) :: _) e.d = _
        rw [look_ne hne]; exact ih
      · exact ih
theorem mkD_base : ∀ {i : Nat} {t : Nat}, (∀ j e, j < i → inD j = true → tr[j]? = some e → e.d ≠ t) → look (mkD inD tr s i).sl t = look s.sl t
  | 0, _, _ => rfl
  | i + 1, t, h => by
    have ih := mkD_base (i := i) (t := t) fun j e h1 h2 h3 => h j e (by omega) h2 h3
    rw [mkD]
    split
    · rename_i e' h1 h2
      have hne : t ≠ e'.d := fun hh => h i e' (by omega) h1 h2 hh.symm
      show look ((e'.d, e'.v) :: _) t = _
      rw [look_ne hne]; exact ih
    · exact ih
theorem mkD_mem : ∀ {i : Nat} {x : Nat × SV}, x ∈ (mkD inD tr s i).sl → x ∈ s.sl ∨ ∃ j e, j < i ∧ inD j = true ∧ tr[j]? = some e ∧ x = (e.d, e.v)
  | 0, _, h => Or.inl h
  | i + 1, x, h => by
    rw [mkD] at h
    split at h
    · rename_i e' h1 h2
      rcases List.mem_cons.1 (show x ∈ (e'.d, e'.v) :: (mkD inD tr s i).sl from h) with rfl | h
      · exact Or.inr ⟨i, e', by omega, h1, h2, rfl⟩
      · rcases mkD_mem h with h | ⟨j, e, a, b⟩
        · exact Or.inl h
        · exact Or.inr ⟨j, e, by omega, b⟩
    · rcases mkD_mem h with h | ⟨j, e, a, b⟩
      · exact Or.inl h
      · exact Or.inr ⟨j, e, by omega, b⟩
/-- Every operation's objects are new where the text's order comes to it. -/
def FreshAll (tr : List TE) (s : St) (m : Nat) : Prop := ∀ i e, i < m → tr[i]? = some e → ∀ n o, look e.os n = some o → look (pre tr s i).hp n = none
theorem pre_hp_mono {m : Nat} (hf : FreshAll tr s m) : ∀ {j i : Nat}, i ≤ j → j ≤ m → ∀ {n o}, look (pre tr s i).hp n = some o → look (pre tr s j).hp n = some o
  | 0, i, hi, _, n, o, h => by
    have : i = 0 := by omega
    subst this; exact h
  | j + 1, i, hi, hm, n, o, h => by
    by_cases hij : i = j + 1
    · subst hij; exact h
    · have ih := pre_hp_mono hf (j := j) (i := i) (by omega) (by omega) h
      show look (mkD (fun _ => true) tr s (j + 1)).hp n = _
      rw [mkD]
      split
      · rename_i e' _ h2
        show look (e'.os ++ (pre tr s j).hp) n = _
        cases hq : look e'.os n with
        | none => rw [look_app_none hq]; exact ih
        | some o' =>
          have := hf j e' (by omega) h2 n o' hq
          rw [this] at ih; cases ih
      · exact ih
theorem mkD_hp_pre {m : Nat} (hf : FreshAll tr s m) : ∀ {i : Nat}, i ≤ m → ∀ {n o}, look (mkD inD tr s i).hp n = some o → look (pre tr s i).hp n = some o
  | 0, _, n, o, h => h
  | i + 1, hm, n, o, h => by
    rw [mkD] at h
    split at h
    · rename_i e' h1 h2
      have h : look (e'.os ++ (mkD inD tr s i).hp) n = some o := h
      rw [pre, mkD_succ_in rfl h2]
      show look (e'.os ++ (pre tr s i).hp) n = some o
      cases hq : look e'.os n with
      | none => rw [look_app_none hq] at h ⊢; exact mkD_hp_pre hf (by omega) h
      | some o' => rw [look_app_some hq] at h ⊢; exact h
    · exact pre_hp_mono hf (Nat.le_succ i) hm (mkD_hp_pre hf (by omega) h)
theorem mkD_hp_case : ∀ {i : Nat} {n : Nat} {o : Obj}, look (mkD inD tr s i).hp n = some o → look s.hp n = some o ∨ ∃ j e, j < i ∧ inD j = true ∧ tr[j]? = some e ∧ look e.os n = some o
  | 0, _, _, h => Or.inl h
  | i + 1, n, o, h => by
    rw [mkD] at h
    split at h
    · rename_i e' h1 h2
      have h : look (e'.os ++ (mkD inD tr s i).hp) n = some o := h
      cases hq : look e'.os n with
      | none =>
        rw [look_app_none hq] at h
        rcases mkD_hp_case h with h | ⟨j, e, a, b⟩
        · exact Or.inl h
        · exact Or.inr ⟨j, e, by omega, b⟩
      | some o' =>
        rw [look_app_some hq] at h
        exact Or.inr ⟨i, e', by omega, h1, h2, by rw [hq]; exact h⟩
    · rcases mkD_hp_case h with h | ⟨j, e, a, b⟩
      · exact Or.inl h
      · exact Or.inr ⟨j, e, by omega, b⟩
theorem mkD_hp_base {m : Nat} (hf : FreshAll tr s m) : ∀ {i : Nat}, i ≤ m → ∀ {n o}, look s.hp n = some o → look (mkD inD tr s i).hp n = some o
  | 0, _, n, o, h => h
  | i + 1, hm, n, o, h => by
    have ih := mkD_hp_base hf (i := i) (by omega) h
    rw [mkD]
    split
    · rename_i e' h1 h2
      show look (e'.os ++ (mkD inD tr s i).hp) n = some o
      cases hq : look e'.os n with
      | none => rw [look_app_none hq]; exact ih
      | some o' =>
        have h1 := hf i e' (by omega) h2 n o' hq
        have h3 := mkD_hp_pre hf (by omega) ih
        rw [h1] at h3; cases h3
    · exact ih
theorem mkD_hp_in {m : Nat} (hf : FreshAll tr s m) : ∀ {i : Nat}, i ≤ m → ∀ {j : Nat} {e : TE} {n : Nat} {o : Obj}, j < i → inD j = true → tr[j]? = some e → look e.os n = some o → look (mkD inD tr s i).hp n = some o
  | i + 1, hm, j, e, n, o, hj, hin, he, h => by
    by_cases hij : j = i
    · subst hij
      rw [mkD_succ_in hin he]
      exact look_app_some h
    · have ih := mkD_hp_in hf (i := i) (by omega) (j := j) (by omega) hin he h
      rw [mkD]
      split
      · rename_i e' h1 h2
        show look (e'.os ++ (mkD inD tr s i).hp) n = some o
        cases hq : look e'.os n with
        | none => rw [look_app_none hq]; exact ih
        | some o' =>
          have h1 := hf i e' (by omega) h2 n o' hq
          have h3 := mkD_hp_pre hf (by omega) ih
          rw [h1] at h3; cases h3
      · exact ih
end
theorem fresh_of {hp : Hp} : ∀ {os : Hp}, (∀ n o, look os n = some o → look hp n = none ∧ pin n = false) → fresh hp os = true
  | [], _ => rfl
  | (n, x) :: r, h => by
    simp only [fresh, Bool.and_eq_true]
    obtain ⟨h1, h2⟩ := h n x look_eq
    refine ⟨⟨by rw [h1], by rw [h2]; rfl⟩, fresh_of fun k o hk => ?_⟩
    by_cases hkn : k = n
    · subst hkn; exact h k x look_eq
    · exact h k o (by rw [look_ne hkn]; exact hk)
theorem Good.congr {zb : Base} {st st' : St} {tmps : Array Value} {w : World} {env : Env} (g : Good ty zb st tmps w env) (hs : ∀ s v, look st'.sl s = some v → look st.sl s = some v) (hh : ∀ n, look st'.hp n = look st.hp n) : Good ty zb st' tmps w env := by
  have s : Step (fun _ => True) (fun _ => True) w st.hp env w st'.hp env := by
    refine ⟨fun _ _ _ => rfl, ?_, ?_, ?_⟩
    · rintro b _ ⟨n, o, h1, h2⟩; exact ⟨n, o, by rw [← hh]; exact h1, h2⟩
    · intro n o _ h1
      exact ⟨o, by rw [hh]; exact h1, by cases o <;> simp [Obj.like], rfl⟩
    · intro n t l _ h1
      exact ⟨by rw [hh]; exact h1, rfl, fun _ _ => rfl⟩
  refine ⟨fun n o hl => ?_, fun n m o o' hne h1 h2 => g.dis n m o o' hne (by rw [← hh]; exact h1) (by rw [← hh]; exact h2), fun t v hl => RSV.step s (fun v _ => v.hangs_all) (g.slot t v (hs t v hl)), fun n o hl => g.dom n o (by rw [← hh]; exact hl), g.pins⟩
  exact (g.obj n o (by rw [← hh]; exact hl)).step s (fun _ _ v _ => v.hangs_all) (fun _ _ => rfl)
end Go.Proofs.YthjedjndamejmaaGreat.G
namespace Go.Proofs.YthjedjndamejmaaGreat.G
set_option linter.all false
open Go.RowKit L D
variable {ty : Tag → Nat}
/-! ### What the look at the edges gives -/
theorem idx_get {α : Type} : ∀ {l : List α} {k i : Nat} {x : α}, l[i]? = some x → (k + i, x) ∈ idx k l
  | y :: r, k, 0, x, h => by simp at h; simp [idx, h]
  | y :: r, k, i + 1, x, h => by
    have := idx_get (l := r) (k := k + 1) (i := i) (by simpa using h)
    rw [idx]; right
    rw [show k + (i + 1) = k + 1 + i by omega]; exact this
structure Chk (ops : List Oper) (m : Nat) : Prop where
  le : m ≤ ops.length
  back : ∀ i o, ops[i]? = some o → ∀ j, j ∈ edges o → j < i
  uses : ∀ i o, i < m → ops[i]? = some o → ∀ t, t ∈ tmpsOf o → ∀ k o', k < m → ops[k]? = some o' → o'.dst = some t → k = i ∨ k ∈ edges o ∨ (i < k ∧ ((clo ops).getD k 0).testBit i = true)
  guard : ∀ i o j x, i < m → ops[i]? = some o → o.guard = some (j, x) → j < i ∧ j < m ∧ j ∈ edges o
  dist : ∀ i o k o' d, i < m → k < m → ops[i]? = some o → ops[k]? = some o' → o.dst = some d → o'.dst = some d → k = i
  tail : ∀ i o, m ≤ i → ops[i]? = some o → ∀ j, j < i → ((clo ops).getD i 0).testBit j = true
theorem chk_ok {ops : List Oper} {m : Nat} (h : chk ops m = true) : Chk ops m := by
  simp only [chk, Bool.and_eq_true, List.all_eq_true, Bool.or_eq_true] at h
  obtain ⟨⟨⟨h1, h2⟩, h3⟩, h4⟩ := h
  have hA : ∀ {i o}, i < m → ops[i]? = some o → (i, o) ∈ idx 0 (ops.take m) := by
    intro i o hi ho
    have := idx_get (l := ops.take m) (k := 0) (i := i) (x := o) (by rw [List.getElem?_take, if_pos hi]; exact ho)
    simpa using this
  have hall : ∀ {i o}, ops[i]? = some o → (i, o) ∈ idx 0 ops := by
    intro i o ho
    simpa using idx_get (l := ops) (k := 0) ho
  refine ⟨Nat.le_of_ble_eq_true h1, fun i o ho j hj => ?_, fun i o hi ho t ht k o' hk ho' hd => ?_, fun i o j x hi ho hg => ?_, fun i o k o' d hi hk ho ho' hd hd' => ?_, fun i o hi ho j hj => ?_⟩
  · have := h2 _ (hall ho) j hj
    exact Nat.le_of_ble_eq_true this
  · have hu := (h3 _ (hA hi ho)).1.1
    simp only [usesok, List.all_eq_true, Bool.or_eq_true, Bool.not_eq_true', List.any_eq_true, Bool.and_eq_true] at hu
    have hdi : dstIs o' t = true := by simp [dstIs, hd]
    rcases hu t ht _ (hA hk ho') with ((q | q) | q) | q
    · rw [hdi] at q; cases q
    · exact Or.inl (Nat.eq_of_beq_eq_true q)
    · obtain ⟨y, hy, q⟩ := q
      have hky : k = y := Nat.eq_of_beq_eq_true q
      exact Or.inr (Or.inl (by rw [hky]; exact hy))
    · exact Or.inr (Or.inr ⟨Nat.le_of_ble_eq_true q.1, q.2⟩)
  · have hgd := (h3 _ (hA hi ho)).1.2
    simp only [guardok, hg, Bool.and_eq_true, List.any_eq_true] at hgd
    obtain ⟨⟨q1, q2⟩, y, hy, q3⟩ := hgd
    have := Nat.eq_of_beq_eq_true q3
    exact ⟨Nat.le_of_ble_eq_true q1, Nat.le_of_ble_eq_true q2, by rw [this]; exact hy⟩
  · have hds := (h3 _ (hA hi ho)).2
    simp only [dstok1, hd, List.all_eq_true, Bool.or_eq_true, Bool.not_eq_true'] at hds
    rcases hds _ (hA hk ho') with q | q
    · exact Nat.eq_of_beq_eq_true q
    · simp [dstIs, hd'] at q
  · rcases h4 _ (hall ho) with q | q
    · have := Nat.le_of_ble_eq_true q
      simp only at this
      omega
    · exact q j (List.mem_range.2 hj)
theorem clo_get : ∀ (l : List Oper) (acc : List Nat), (∀ j, j < acc.length → (l.foldl cloStep acc).getD j 0 = acc.getD j 0) ∧
    ∀ i o, l[i]? = some o → (∀ j, j ∈ edges o → j < acc.length + i) → (l.foldl cloStep acc).getD (acc.length + i) 0 = (edges o).foldl (fun s j => s ||| 2 ^ j ||| (l.foldl cloStep acc).getD j 0) 0
  | [], acc => ⟨fun _ _ => rfl, fun i o h => by simp at h⟩
  | o :: r, acc => by
    obtain ⟨h1, h2⟩ := clo_get r (cloStep acc o)
    have hl : (cloStep acc o).length = acc.length + 1 := by simp [cloStep]
    have ha : ∀ j, j < acc.length → ((o :: r).foldl cloStep acc).getD j 0 = acc.getD j 0 := by
      intro j hj
      rw [List.foldl_cons, h1 j (by omega)]
      simp only [cloStep, List.getD_eq_getElem?_getD]
      rw [List.getElem?_append_left hj]
    refine ⟨ha, fun i o' ho hj => ?_⟩
    cases i with
    | zero =>
      simp at ho
      subst ho
      rw [Nat.add_zero, List.foldl_cons, h1 _ (by omega)]
      have : (cloStep acc o).getD acc.length 0 = (edges o).foldl (fun s j => s ||| 2 ^ j ||| acc.getD j 0) 0 := by
        simp [cloStep, List.getD_eq_getElem?_getD]
      rw [this]
      have hcong : ∀ (es : List Nat) (s0 : Nat), (∀ j, j ∈ es → j < acc.length) → es.foldl (fun s j => s ||| 2 ^ j ||| acc.getD j 0) s0 = es.foldl (fun s j => s ||| 2 ^ j ||| (r.foldl cloStep (cloStep acc o)).getD j 0) s0 := by
        intro es
        induction es with
        | nil => intros; rfl
        | cons j es ih =>
          intro s0 hh
          rw [List.foldl_cons, List.foldl_cons, ih _ fun k hk => hh k (by simp [hk])]
          have := ha j (hh j (by simp))
          rw [List.foldl_cons] at this
          rw [this]
      exact hcong _ _ fun j hjj => by simpa using hj j hjj
    | succ i =>
      have := h2 i o' (by simpa using ho) (fun j hjj => by rw [hl]; have := hj j hjj; omega)
      rw [hl, show acc.length + 1 + i = acc.length + (i + 1) by omega] at this
      rw [List.foldl_cons]; exact this
theorem bits_foldl (g : Nat → Nat) (k : Nat) : ∀ (es : List Nat) (s0 : Nat), (es.foldl (fun s j => s ||| 2 ^ j ||| g j) s0).testBit k = true → s0.testBit k = true ∨ ∃ j, j ∈ es ∧ (k = j ∨ (g j).testBit k = true)
  | [], s0, h => Or.inl h
  | j :: es, s0, h => by
    rcases bits_foldl g k es _ h with h | ⟨i, hi, h⟩
    · rw [Nat.testBit_or, Nat.testBit_or, Nat.testBit_two_pow] at h
      simp only [Bool.or_eq_true, decide_eq_true_eq] at h
      rcases h with (h | h) | h
      · exact Or.inl h
      · exact Or.inr ⟨j, by simp, Or.inl h.symm⟩
      · exact Or.inr ⟨j, by simp, Or.inr h⟩
    · exact Or.inr ⟨i, by simp [hi], h⟩
theorem clo_ok {ops : List Oper} (hb : ∀ i o, ops[i]? = some o → ∀ j, j ∈ edges o → j < i) {D : Nat → Prop} (hD : ∀ i o, D i → ops[i]? = some o → ∀ j, j ∈ edges o → D j) : ∀ (i : Nat) (o : Oper), ops[i]? = some o → (∀ j, j ∈ edges o → D j) → ∀ k, ((clo ops).getD i 0).testBit k = true → D k := by
  intro i
  induction i using Nat.strongRecOn with
  | _ i ih =>
    intro o ho he k hk
    have := (clo_get ops []).2 i o ho (fun j hj => by simpa using hb i o ho j hj)
    simp only [List.length_nil, Nat.zero_add] at this
    have hc : (clo ops).getD i 0 = (edges o).foldl (fun s j => s ||| 2 ^ j ||| (clo ops).getD j 0) 0 := this
    rw [hc] at hk
    rcases bits_foldl _ k _ _ hk with h | ⟨j, hj, h⟩
    · simp at h
    · rcases h with rfl | h
      · exact he k hj
      · have hji := hb i o ho j hj
        have hlen : j < ops.length := by have := (List.getElem?_eq_some_iff.1 ho).1; omega
        exact ih j hji ops[j] (List.getElem?_eq_getElem hlen) (hD j _ (he j hj) (List.getElem?_eq_getElem hlen)) k h

section
variable {P : Program} {Γ : Nat → TK} {ren : List (Nat × Nat)} {cr : List (Nat × CR)} {ops : List Oper} {m : Nat} {s : St} {tr : List TE} {vcs : List Prop}
theorem qcore_path {E : Tag → Nat → Prop} {S : FuncId → List S1 → List S1 → Prop} {st : St} {o : Oper} {vc : List Prop} {v : SV} {os : Hp} (h : qcore Γ E S ren cr ops st o = some (vc, v, os)) :
    ∃ p, guardp st ops o = some p ∧ (p = [] → ∀ q x, v ≠ .cond q x) ∧ (p ≠ [] → (∃ x, v = .cond p x) ∧ os = [] ∧ ∀ d, o.dst = some d → ∀ e, e ∈ p → e.1 ≠ d) ∧ (∀ n x, look os n = some x → look st.hp n = none ∧ pin n = false) := by
  unfold qcore at h
  split at h
  · rename_i nm _ _ hg
    split at h
    · rename_i vc1 v1 os1 hq
      split at h
      · rename_i hf _
        simp only [Option.some.injEq, Prod.mk.injEq] at h
        obtain ⟨_, rfl, rfl⟩ := h
        refine ⟨[], hg, fun _ q x => ?_, fun hh => absurd rfl hh, fun n x hl => ⟨fresh_spec hf n x hl, fresh_pin hf n x hl⟩⟩
        rintro rfl
        unfold quiet mvt at hq
        repeat' split at hq
        all_goals first
          | (cases hq; done)
          | (simp only [out1, Option.some.injEq, Out.mk.injEq] at hq; cases hq.2.1; done)
          | (simp only [Option.some.injEq, Out.mk.injEq] at hq; cases hq.2.1; done)
          | (simp only [Option.some.injEq] at hq; unfold outs at hq; (repeat' split at hq) <;> (simp only [Out.mk.injEq] at hq; cases hq.2.1))
      · cases h
    · cases h
  · rename_i nm e p _ _ hg
    split at h
    · rename_i hany
      split at h
      · rename_i vc1 v1 hq
        simp only [Option.some.injEq, Prod.mk.injEq] at h
        obtain ⟨_, rfl, rfl⟩ := h
        refine ⟨e :: p, hg, (fun hh => by cases hh), fun _ => ⟨⟨_, rfl⟩, rfl, fun d hd x hx hxd => ?_⟩, fun n x hl => by simp [look] at hl⟩
        rw [List.any_eq_false] at hany
        exact hany x hx (by rw [hd, hxd]; simp)
      · cases h
    · cases h
  · cases h
theorem Trace.fresh {E : Tag → Nat → Prop} {S : FuncId → List S1 → List S1 → Prop} (T : Trace Γ E S ren cr ops m s tr vcs) : FreshAll tr s m := by
  intro i e hi he n x hl
  obtain ⟨o, e', vc, _, he', _, _, hq, _⟩ := T.one i hi
  rw [he] at he'
  simp only [Option.some.injEq] at he'
  subst he'
  obtain ⟨p, _, _, _, hf⟩ := qcore_path hq
  exact (hf n x hl).1
theorem Trace.path {E : Tag → Nat → Prop} {S : FuncId → List S1 → List S1 → Prop} (T : Trace Γ E S ren cr ops m s tr vcs) (K : Chk ops m) : ∀ (i : Nat), i < m → ∀ o p, ops[i]? = some o → guardp (pre tr s i) ops o = some p → ∀ e, e ∈ p →
    ∃ k o', k < i ∧ ops[k]? = some o' ∧ o'.dst = some e.1 ∧ ∀ D : Nat → Prop, (∀ i o, D i → ops[i]? = some o → ∀ j, j ∈ edges o → D j) → (∀ j, j ∈ edges o → D j) → D k := by
  intro i
  induction i using Nat.strongRecOn with
  | _ i ih =>
    intro hi o p ho hg e he
    unfold guardp at hg
    split at hg
    · simp at hg; subst hg; simp at he
    · rename_i j x hgd
      obtain ⟨hji, hjm, hje⟩ := K.guard i o j x hi ho hgd
      obtain ⟨q, ej, vcj, hq, hej, hdj, _, hqc, _⟩ := T.one j hjm
      rw [hq] at hg
      dsimp only at hg
      rw [hdj] at hg
      dsimp only at hg
      have hsl : look (pre tr s i).sl ej.d = some ej.v := by
        refine mkD_slot hji rfl hej fun j' e' h1 _ h3 h4 => ?_
        obtain ⟨q', e2, _, hq', he2, hd2, _⟩ := T.one j' (by omega)
        rw [h3] at he2
        simp only [Option.some.injEq] at he2
        subst he2
        exact K.dist j q j' q' ej.d hjm (by omega) hq hq' hdj (by rw [hd2, h4])
      rw [hsl] at hg
      obtain ⟨pj, hgj, hp0, hp1, _⟩ := qcore_path hqc
      have base : ∃ k o', k < i ∧ ops[k]? = some o' ∧ o'.dst = some ej.d ∧ ∀ D : Nat → Prop, (∀ i o, D i → ops[i]? = some o → ∀ j, j ∈ edges o → D j) → (∀ j, j ∈ edges o → D j) → D k :=
        ⟨j, q, hji, hq, hdj, fun D _ hE => hE j hje⟩
      split at hg
      · simp only [Option.some.injEq] at hg
        subst hg
        simp only [List.mem_singleton] at he
        subst he
        exact base
      · rename_i p' b hv
        simp only [Option.some.injEq] at hv
        simp only [Option.some.injEq] at hg
        subst hg
        rcases List.mem_cons.1 he with rfl | he
        · exact base
        · have hpj : pj = p' := by
            by_cases hnil : pj = []
            · exact absurd hv (hp0 hnil _ _)
            · obtain ⟨x', hx'⟩ := (hp1 hnil).1
              rw [hx'] at hv
              simp only [SV.cond.injEq] at hv
              exact hv.1
          subst hpj
          obtain ⟨k, o', h1, h2, h3, h4⟩ := ih j hji hjm q pj hq hgj e he
          exact ⟨k, o', by omega, h2, h3, fun D hD hE => h4 D hD (hD j q (hE j hje) hq)⟩
      · cases hg
/-- One of the quiet operations runs. -/
theorem draw_step (C : ∀ t, TKok P t (Γ t)) (T : Trace Γ (Elt P ty) (Sound ty P) ren cr ops m s tr vcs) (K : Chk ops m) (hv : ∀ q, q ∈ vcs → q) (hnc : nocond s.sl = true) {zb : Base} {Q : Exit → Act → World → Prop} {D : Nat → Bool} (hDm : ∀ i, D i = true → i < m) (hDc : ∀ i o, D i = true → ops[i]? = some o → ∀ j, j ∈ edges o → D j = true)
    {i : Nat} (hi : i < m) (hDi : D i = false) {o : Oper} (ho : ops[i]? = some o) (hE : ∀ j, j ∈ edges o → D j = true) {a : Act} {w : World} (iv : Inv ty zb (mkD D tr s m) a w) :
    Runs P ops.toArray o a w (fun a' w' => Inv ty zb (mkD (fun j => D j || j == i) tr s m) a' w') Q := by
  obtain ⟨o', e, vc, ho', he, hd, hnm, hq, hvc⟩ := T.one i hi
  rw [ho] at ho'
  simp only [Option.some.injEq] at ho'
  subst ho'
  have hfr := T.fresh
  have hdist : ∀ {j e'}, j < m → tr[j]? = some e' → ∃ q, ops[j]? = some q ∧ q.dst = some e'.d := by
    intro j e' hj he'
    obtain ⟨q, e2, _, hq', he2, hd2, _⟩ := T.one j hj
    rw [he'] at he2
    simp only [Option.some.injEq] at he2
    subst he2
    exact ⟨q, hq', hd2⟩
  have huniq : ∀ {j j' : Nat} {e1 e2 : TE}, j < m → j' < m → tr[j]? = some e1 → tr[j']? = some e2 → e2.d = e1.d → j' = j := by
    intro j j' e1 e2 h1 h2 h3 h4 h5
    obtain ⟨q1, p1, p2⟩ := hdist h1 h3
    obtain ⟨q2, p3, p4⟩ := hdist h2 h4
    exact K.dist j q1 j' q2 e1.d h1 h2 p1 p3 p2 (by rw [p4, h5])
  -- where both states agree
  have agree : ∀ t, (∀ k o', k < m → ops[k]? = some o' → o'.dst = some t → k = i ∨ (k < i ∧ D k = true) ∨ (i < k ∧ D k = false)) → look (pre tr s i).sl t = look (mkD D tr s m).sl t := by
    intro t ht
    by_cases hex : ∃ k e', k < i ∧ D k = true ∧ tr[k]? = some e' ∧ e'.d = t
    · obtain ⟨k, e', hk, hDk, he', rfl⟩ := hex
      rw [mkD_slot hk rfl he' fun j' e2 h1 _ h3 h4 => huniq (by omega) (by omega) he' h3 h4, mkD_slot (by omega) hDk he' fun j' e2 h1 _ h3 h4 => huniq (by omega) h1 he' h3 h4]
    · rw [mkD_base (fun k e' hk _ he' hdt => by
          obtain ⟨q, h1, h2⟩ := hdist (by omega) he'
          rcases ht k q (by omega) h1 (by rw [h2, hdt]) with h | h | h
          · omega
          · exact hex ⟨k, e', hk, h.2, he', hdt⟩
          · omega),
        mkD_base (fun k e' hk hDk he' hdt => by
          obtain ⟨q, h1, h2⟩ := hdist hk he'
          rcases ht k q hk h1 (by rw [h2, hdt]) with h | h | h
          · subst h; rw [hDi] at hDk; cases hDk
          · exact hex ⟨k, e', h.1, h.2, he', hdt⟩
          · rw [h.2] at hDk; cases hDk)]
  obtain ⟨p, hgp, hp0, hp1, hpin⟩ := qcore_path hq
  have hpath : ∀ x, x ∈ p → ∃ k o', k < i ∧ ops[k]? = some o' ∧ o'.dst = some x.1 ∧ D k = true := by
    intro x hx
    obtain ⟨k, o', h1, h2, h3, h4⟩ := T.path K i hi o p ho hgp x hx
    exact ⟨k, o', h1, h2, h3, h4 (fun j => D j = true) hDc hE⟩
  have hpagree : ∀ x, x ∈ p → look (pre tr s i).sl x.1 = look (mkD D tr s m).sl x.1 := by
    intro x hx
    obtain ⟨k, o', h1, h2, h3, h4⟩ := hpath x hx
    refine agree x.1 fun k' o2 hk' ho2 hd2 => ?_
    have : k' = k := K.dist k o' k' o2 x.1 (by omega) hk' h2 ho2 h3 hd2
    subst this
    exact Or.inr (Or.inl ⟨h1, h4⟩)
  have hgp2 : guardp (mkD D tr s m) ops o = some p := by
    rw [← hgp]
    unfold guardp
    split
    · rfl
    · rename_i j x hgd
      split
      · rename_i q hqq
        split
        · rename_i d hdq
          have hmem : ∃ y, (d, y) ∈ p := by
            unfold guardp at hgp
            rw [hgd] at hgp
            dsimp only at hgp
            rw [hqq] at hgp
            dsimp only at hgp
            rw [hdq] at hgp
            dsimp only at hgp
            split at hgp
            · simp only [Option.some.injEq] at hgp; exact ⟨x, by rw [← hgp]; simp⟩
            · simp only [Option.some.injEq] at hgp; exact ⟨x, by rw [← hgp]; simp⟩
            · cases hgp
          obtain ⟨y, hy⟩ := hmem
          rw [← hpagree (d, y) hy]
        · rfl
      · rfl
  have hfresh : fresh (mkD D tr s m).hp e.os = true := by
    refine fresh_of fun n x hl => ?_
    cases hq2 : look (mkD D tr s m).hp n with
    | none => exact ⟨rfl, (hpin n x hl).2⟩
    | some y =>
      exfalso
      have hpi := hfr i e hi he n x hl
      rcases mkD_hp_case hq2 with h | ⟨j, e', hj, hDj, he', h⟩
      · have := mkD_hp_base (inD := fun _ => true) hfr (i := i) (by omega) h
        rw [show mkD (fun _ => true) tr s i = pre tr s i from rfl, hpi] at this
        cases this
      · have hji : j ≠ i := by rintro rfl; rw [hDi] at hDj; cases hDj
        by_cases hlt : j < i
        · have := mkD_hp_in (inD := fun _ => true) hfr (i := i) (by omega) hlt rfl he' h
          rw [show mkD (fun _ => true) tr s i = pre tr s i from rfl, hpi] at this
          cases this
        · have h2 := hfr j e' hj he' n y h
          have := mkD_hp_in (inD := fun _ => true) hfr (i := j) (by omega) (j := i) (by omega) rfl he hl
          rw [show mkD (fun _ => true) tr s j = pre tr s j from rfl, h2] at this
          cases this
  have hnom : ((mkD D tr s m).sl.any fun x => x.2.mentions e.d) = false := by
    rw [List.any_eq_false]
    intro x hx hm
    rcases mkD_mem hx with h | ⟨j, e', hj, hDj, he', rfl⟩
    · simp only [nocond, List.all_eq_true] at hnc
      have := hnc x h
      cases hx2 : x.2 with
      | cond q y => simp [hx2] at this
      | one y => simp [hx2, SV.mentions] at hm
      | tup y => simp [hx2, SV.mentions] at hm
    · obtain ⟨q, e2, vc2, hqq, he2, hd2, _, hqc, _⟩ := T.one j hj
      rw [he'] at he2
      simp only [Option.some.injEq] at he2
      subst he2
      obtain ⟨pj, hgj, hj0, hj1, _⟩ := qcore_path hqc
      by_cases hnil : pj = []
      · cases hx2 : e'.v with
        | cond q y => exact hj0 hnil _ _ hx2
        | one y => simp [hx2, SV.mentions] at hm
        | tup y => simp [hx2, SV.mentions] at hm
      · obtain ⟨y, hy⟩ := (hj1 hnil).1
        simp only [hy, SV.mentions, List.any_eq_true] at hm
        obtain ⟨z, hz, hzd⟩ := hm
        have hzd := Nat.eq_of_beq_eq_true hzd
        obtain ⟨k, o2, k1, k2, k3, k4⟩ := T.path K j hj q pj hqq hgj z hz
        have hDk := k4 (fun j => D j = true) hDc (hDc j q hDj hqq)
        have : k = i := K.dist i o k o2 e.d hi (by omega) ho k2 hd (by rw [k3, hzd])
        subst this
        rw [hDi] at hDk; cases hDk
  -- the state behind
  have hdm : e.v.mentions e.d = false := by
    by_cases hnil : p = []
    · cases hx2 : e.v with
      | cond q y => exact absurd hx2 (hp0 hnil _ _)
      | one y => rfl
      | tup y => rfl
    · obtain ⟨⟨y, hy⟩, _, hne⟩ := hp1 hnil
      rw [hy]
      simp only [SV.mentions]
      rw [List.any_eq_false]
      intro z hz hb
      exact hne e.d hd z hz (Nat.eq_of_beq_eq_true hb)
  have behind : ∀ a' w', Inv ty zb (app (mkD D tr s m) e) a' w' → Inv ty zb (mkD (fun j => D j || j == i) tr s m) a' w' := by
    intro a' w' iv'
    obtain ⟨env, g⟩ := iv'.good
    refine ⟨by rw [iv'.size, mkD_n]; show (mkD D tr s m).n = s.n; exact mkD_n m, iv'.defers, iv'.kept, iv'.amb, env, g.congr ?_ ?_⟩
    · intro t v hl
      show look ((e.d, e.v) :: (mkD D tr s m).sl) t = some v
      by_cases ht : t = e.d
      · subst ht
        rw [mkD_slot hi (by simp) he fun j' e2 h1 _ h3 h4 => huniq hi h1 he h3 h4] at hl
        rw [look_eq]; exact hl
      · rw [look_ne ht]
        by_cases hex : ∃ k e', k < m ∧ D k = true ∧ tr[k]? = some e' ∧ e'.d = t
        · obtain ⟨k, e', hk, hDk, he', rfl⟩ := hex
          rw [mkD_slot hk (by simp [hDk]) he' fun j' e2 h1 _ h3 h4 => huniq hk h1 he' h3 h4] at hl
          rw [mkD_slot hk hDk he' fun j' e2 h1 _ h3 h4 => huniq hk h1 he' h3 h4]
          exact hl
        · rw [mkD_base fun k e' hk hDk he' hdt => by
            simp only [Bool.or_eq_true, beq_iff_eq] at hDk
            rcases hDk with h | rfl
            · exact hex ⟨k, e', hk, h, he', hdt⟩
            · rw [he] at he'
              simp only [Option.some.injEq] at he'
              exact ht (by rw [he', hdt])] at hl
          rw [mkD_base fun k e' hk hDk he' hdt => hex ⟨k, e', hk, hDk, he', hdt⟩]
          exact hl
    · intro n
      show look (mkD (fun j => D j || j == i) tr s m).hp n = look (e.os ++ (mkD D tr s m).hp) n
      cases hl : look e.os n with
      | some x =>
        rw [look_app_some hl]
        exact mkD_hp_in hfr (Nat.le_refl _) hi (by simp) he hl
      | none =>
        rw [look_app_none hl]
        cases hx : look (mkD (fun j => D j || j == i) tr s m).hp n with
        | some y =>
          rcases mkD_hp_case hx with h | ⟨j, e', hj, hDj, he', h⟩
          · exact (mkD_hp_base hfr (Nat.le_refl _) h).symm
          · have hji : j ≠ i := by
              rintro rfl
              rw [he] at he'
              simp only [Option.some.injEq] at he'
              subst he'
              rw [hl] at h; cases h
            have hDj : D j = true := by
              simp only [Bool.or_eq_true, beq_iff_eq] at hDj
              exact hDj.resolve_right hji
            exact (mkD_hp_in hfr (Nat.le_refl _) hj hDj he' h).symm
        | none =>
          cases hy : look (mkD D tr s m).hp n with
          | none => rfl
          | some y =>
            rcases mkD_hp_case hy with h | ⟨j, e', hj, hDj, he', h⟩
            · rw [mkD_hp_base hfr (Nat.le_refl _) h] at hx; cases hx
            · rw [mkD_hp_in hfr (Nat.le_refl _) hj (by simp [hDj]) he' h] at hx; cases hx
  have hput : St.put ⟨(mkD D tr s m).n, (mkD D tr s m).sl, e.os ++ (mkD D tr s m).hp⟩ o.dst e.v = app (mkD D tr s m) e := by
    rw [hd]
    simp only [St.put, hnom]
    rfl
  by_cases hw : Region.wanted o (yielded ops.toArray a.tmps) = true
  · have hh : holds a.tmps p := by
      obtain ⟨env, g⟩ := iv.good
      unfold guardp at hgp2
      split at hgp2
      · simp at hgp2; subst hgp2; intro y hy; simp at hy
      · rename_i j x hgd
        split at hgp2
        · rename_i q hqq
          split at hgp2
          · rename_i d hdq
            have hwd := (wanted_iff (ops := ops.toArray) hgd (by simpa using hqq) hdq a.tmps).1 hw
            split at hgp2
            · simp only [Option.some.injEq] at hgp2
              subst hgp2
              intro y hy
              simp at hy
              subst hy
              exact hwd
            · rename_i p' b hl
              simp only [Option.some.injEq] at hgp2
              subst hgp2
              intro y hy
              rcases List.mem_cons.1 hy with rfl | hy
              · exact hwd
              · exact (cond_bool g hl hwd).1 y hy
            · cases hgp2
          · cases hgp2
        · cases hgp2
    obtain ⟨env, g⟩ := iv.good
    have hcompat : Compat (pre tr s i).hp (mkD D tr s m).hp := by
      intro n x y h1 h2
      have h3 := pre_hp_mono hfr (Nat.le_of_lt hi) (Nat.le_refl m) h1
      have h4 := mkD_hp_pre hfr (Nat.le_refl m) h2
      rw [h3] at h4
      simpa using h4
    have hmono := qcore_mono hcompat g (by rw [mkD_n, mkD_n]) hgp hgp2 hh (fun x hx t hxt => agree t fun k o2 hk ho2 hd2 => by
        have ht : t ∈ tmpsOf o := by
          simp only [tmpsOf, List.mem_filterMap]
          exact ⟨x, hx, by rw [hxt]⟩
        rcases K.uses i o hi ho t ht k o2 hk ho2 hd2 with h | h | h
        · exact Or.inl h
        · exact Or.inr (Or.inl ⟨K.back i o ho k h, hE k h⟩)
        · refine Or.inr (Or.inr ⟨h.1, ?_⟩)
          cases hDk : D k with
          | false => rfl
          | true =>
            have := clo_ok (D := fun j => D j = true) K.back hDc k o2 ho2 (hDc k o2 hDk ho2) i h.2
            rw [hDi] at this; cases this) hpagree hfresh hq
    have := qcore_ok (Q := Q) C hmono iv (fun q hq => hv q (hvc q hq))
    rw [hput] at this
    exact this.mono behind
  · unfold Runs
    rw [if_neg hw]
    have hnil : p ≠ [] := by
      rintro rfl
      unfold guardp at hgp
      split at hgp
      · rename_i hgd; exact hw (by simp [Region.wanted, hgd])
      · repeat' split at hgp
        all_goals simp at hgp
    obtain ⟨⟨y, hy⟩, hos, _⟩ := hp1 hnil
    have hnh : ¬ holds a.tmps p := by
      intro hh
      unfold guardp at hgp
      split at hgp
      · rename_i hgd; exact hw (by simp [Region.wanted, hgd])
      · rename_i j x hgd
        split at hgp
        · rename_i q hqq
          split at hgp
          · rename_i d hdq
            have hdx : (d, x) ∈ p := by
              split at hgp
              · simp only [Option.some.injEq] at hgp; rw [← hgp]; simp
              · simp only [Option.some.injEq] at hgp; rw [← hgp]; simp
              · cases hgp
            exact hw ((wanted_iff (ops := ops.toArray) hgd (by simpa using hqq) hdq a.tmps).2 (hh _ hdx))
          · cases hgp
        · cases hgp
    apply behind
    obtain ⟨env, g⟩ := iv.good
    have hlt : e.d < a.tmps.size := by
      unfold qcore at hq
      have : dstok (pre tr s i) o.dst = true := by
        cases hdk : dstok (pre tr s i) o.dst with
        | true => rfl
        | false => rw [hdk] at hq; simp at hq
      rw [hd] at this
      rw [iv.size, mkD_n]
      have := Nat.le_of_ble_eq_true this
      rw [show (pre tr s i).n = s.n from mkD_n i] at this
      exact this
    have hgp3 := g.put (d := e.d) hlt (v := e.v) (u := undef) (by rw [hy]; exact ⟨fun hh => absurd hh hnh, fun _ => rfl⟩) hdm
    refine ⟨by rw [put_size]; exact iv.size, by rw [put_defers]; exact iv.defers, iv.kept, iv.amb, env, ?_⟩
    rw [hd]
    have happ : (mkD D tr s m).put (some e.d) e.v = app (mkD D tr s m) e := by
      simp only [St.put, hnom, app, hos]
      rfl
    rw [happ] at hgp3
    exact hgp3
end
end Go.Proofs.YthjedjndamejmaaGreat.G
namespace Go.Proofs.YthjedjndamejmaaGreat.G
set_option linter.all false
open Go.RowKit L D
variable {ty : Tag → Nat}
theorem ready_iff {ops : List Oper} {listed : Array Bool} (hl : listed.size = ops.length) {i : Nat} : i ∈ Region.ready .any ops.toArray listed ↔ ∃ o, ops[i]? = some o ∧ listed.getD i false = false ∧ ∀ j, j ∈ edges o → listed.getD j false = true := by
  unfold Region.ready
  rw [List.mem_filter, List.mem_range]
  simp only [List.size_toArray, List.getElem?_toArray, Bool.and_eq_true, Bool.not_eq_true']
  constructor
  · rintro ⟨hi, h1, h2⟩
    refine ⟨ops[i], List.getElem?_eq_getElem hi, ?_, ?_⟩
    · have : listed[i]? = some listed[i] := by simp [hl, hi]
      rw [Array.getD_eq_getD_getElem?, this] at h1 ⊢
      exact h1
    · intro j hj
      simp only [edges, List.mem_filterMap, Array.mem_toList_iff] at hj
      obtain ⟨e, he, hj⟩ := hj
      split at hj
      · rename_i hb
        simp only [Option.some.injEq] at hj
        subst hj
        rw [List.getElem?_eq_getElem hi] at h2
        simp only [Option.map_some, Option.getD_some] at h2
        have := Array.all_eq_true_iff_forall_mem.1 h2 e he
        simpa [hb] using this
      · cases hj
  · rintro ⟨o, ho, h1, h2⟩
    have hi := (List.getElem?_eq_some_iff.1 ho).1
    refine ⟨hi, ?_, ?_⟩
    · have : listed[i]? = some listed[i] := by simp [hl, hi]
      rw [Array.getD_eq_getD_getElem?, this] at h1 ⊢
      exact h1
    · rw [ho]
      simp only [Option.map_some, Option.getD_some]
      rw [Array.all_eq_true_iff_forall_mem]
      intro e he
      cases hb : Region.binds .any e with
      | false => simp
      | true =>
        have := h2 e.on (by
          simp only [edges, List.mem_filterMap, Array.mem_toList_iff]
          exact ⟨e, he, by simp [hb]⟩)
        simp [this]
theorem set_getD {listed : Array Bool} {i j : Nat} (hi : i < listed.size) : (listed.setIfInBounds i true).getD j false = (listed.getD j false || j == i) := by
  rw [Array.getD_eq_getD_getElem?, Array.getD_eq_getD_getElem?]
  by_cases hij : i = j
  · subst hij
    rw [Array.getElem?_setIfInBounds_self_of_lt hi]; simp
  · rw [Array.getElem?_setIfInBounds_ne hij]
    simp [show ¬ j = i from fun h => hij h.symm]
/-- How many are not yet listed. -/
def cnt (n : Nat) (D : Nat → Bool) : Nat := ((List.range n).filter fun i => !D i).length
theorem filter_lt {p q : Nat → Bool} : ∀ {l : List Nat}, (∀ x, x ∈ l → q x = true → p x = true) → (∃ x, x ∈ l ∧ p x = true ∧ q x = false) → (l.filter q).length < (l.filter p).length
  | y :: r, h, ⟨x, hx, hp, hq⟩ => by
    have le : ∀ {l : List Nat}, (∀ x, x ∈ l → q x = true → p x = true) → (l.filter q).length ≤ (l.filter p).length := by
      intro l
      induction l with
      | nil => intro _; simp
      | cons z l ih =>
        intro hh
        have := ih fun x hx => hh x (by simp [hx])
        cases hz : q z with
        | true => rw [List.filter_cons_of_pos hz, List.filter_cons_of_pos (hh z (by simp) hz)]; simp; exact this
        | false =>
          rw [List.filter_cons_of_neg (by simp [hz])]
          cases hz2 : p z with
          | true => rw [List.filter_cons_of_pos hz2]; simp; omega
          | false => rw [List.filter_cons_of_neg (by simp [hz2])]; exact this
    rcases List.mem_cons.1 hx with rfl | hx
    · rw [List.filter_cons_of_neg (by simp [hq]), List.filter_cons_of_pos hp]
      have := le (l := r) fun x hx => h x (by simp [hx])
      simp; omega
    · have ih := filter_lt (l := r) (fun x hx => h x (by simp [hx])) ⟨x, hx, hp, hq⟩
      cases hy : q y with
      | true => rw [List.filter_cons_of_pos hy, List.filter_cons_of_pos (h y (by simp) hy)]; simp; exact ih
      | false =>
        rw [List.filter_cons_of_neg (by simp [hy])]
        cases hy2 : p y with
        | true => rw [List.filter_cons_of_pos hy2]; simp; omega
        | false => rw [List.filter_cons_of_neg (by simp [hy2])]; exact ih
theorem cnt_set {n i : Nat} {D : Nat → Bool} (hi : i < n) (hD : D i = false) : cnt n (fun j => D j || j == i) < cnt n D := by
  refine filter_lt ?_ ⟨i, List.mem_range.2 hi, by simp [hD], by simp⟩
  intro x _ h
  simp only [Bool.not_eq_true', Bool.or_eq_false_iff] at h
  simp [h.1]
theorem cnt_zero {n : Nat} {D : Nat → Bool} (h : cnt n D = 0) : ∀ i, i < n → D i = true := by
  intro i hi
  have := List.eq_nil_of_length_eq_zero h
  cases hd : D i with
  | true => rfl
  | false =>
    have : i ∈ (List.range n).filter fun i => !D i := List.mem_filter.2 ⟨List.mem_range.2 hi, by simp [hd]⟩
    simp_all
section
variable {P : Program} {Γ : Nat → TK} {ren : List (Nat × Nat)} {cr : List (Nat × CR)} {ops : List Oper} {m : Nat} {s : St} {tr : List TE} {zb : Base} {Q : Exit → Act → World → Prop}
theorem tail_any (X : Ctx P ty Γ) (K : Chk ops m) {vcs : List Prop} {st2 : St} (hv : ∀ q, q ∈ vcs → q) (hQ : ∀ a w, Inv ty zb st2 a w → Q .normal a w) : ∀ (fuel k : Nat) (st : St) (acc : List Prop) (listed : Array Bool) (a : Act) (w : World), m ≤ k → k ≤ ops.length → ops.length - k ≤ fuel → listed.size = ops.length →
    (∀ i, listed.getD i false = true ↔ i < k) → run P ty Γ ren cr ops (ops.drop k) st acc = some (vcs, st2) → Inv ty zb st a w → wpAny P .any ops.toArray Q fuel listed a w := by
  have fin : ∀ {k st acc a w}, ops.length ≤ k → run P ty Γ ren cr ops (ops.drop k) st acc = some (vcs, st2) → Inv ty zb st a w → Q .normal a w := by
    intro k st acc a w hk hr iv
    rw [List.drop_eq_nil_of_le hk] at hr
    simp only [run, Option.some.injEq, Prod.mk.injEq] at hr
    exact hQ a w (hr.2 ▸ iv)
  have rdy : ∀ {k : Nat} {listed : Array Bool}, k < ops.length → listed.size = ops.length → (∀ i, listed.getD i false = true ↔ i < k) → k ∈ Region.ready .any ops.toArray listed := by
    intro k listed hk hl hL
    rw [ready_iff hl]
    refine ⟨ops[k], List.getElem?_eq_getElem hk, ?_, fun j hj => (hL j).2 (K.back k _ (List.getElem?_eq_getElem hk) j hj)⟩
    cases h : listed.getD k false with
    | false => rfl
    | true => have := (hL k).1 h; omega
  intro fuel
  induction fuel with
  | zero =>
    intro k st acc listed a w hmk hkn hf hl hL hr iv
    refine ⟨?_, fin (by omega) hr iv⟩
    apply List.eq_nil_iff_forall_not_mem.2
    intro i hi
    obtain ⟨o, ho, h1, _⟩ := (ready_iff hl).1 hi
    have := (List.getElem?_eq_some_iff.1 ho).1
    rw [(hL i).2 (by omega)] at h1
    cases h1
  | succ fuel ih =>
    intro k st acc listed a w hmk hkn hf hl hL hr iv
    refine ⟨fun hnil => ?_, fun i hi => ?_⟩
    · by_cases hk : k < ops.length
      · have := rdy hk hl hL
        rw [hnil] at this
        simp at this
      · exact fin (by omega) hr iv
    · obtain ⟨o, ho, h1, h2⟩ := (ready_iff hl).1 hi
      have hin := (List.getElem?_eq_some_iff.1 ho).1
      have hki : k ≤ i := by
        rcases Nat.lt_or_ge i k with h | h
        · rw [(hL i).2 h] at h1; cases h1
        · exact h
      have hik : i = k := by
        rcases Nat.lt_or_ge k i with h | h
        · exfalso
          have hc : ∀ i o, listed.getD i false = true → ops[i]? = some o → ∀ j, j ∈ edges o → listed.getD j false = true := fun i o hi ho j hj => (hL j).2 (by have := K.back i o ho j hj; have := (hL i).1 hi; omega)
          have := clo_ok (D := fun j => listed.getD j false = true) K.back hc i o ho h2 k (K.tail i o (by omega) ho k h)
          have := (hL k).1 this
          omega
        · omega
      subst hik
      have hdrop : ops.drop i = o :: ops.drop (i + 1) := by
        rw [List.drop_eq_getElem_cons hin]
        congr 1
        have := List.getElem?_eq_getElem hin
        rw [ho] at this
        simpa using this.symm
      rw [hdrop] at hr
      obtain ⟨vc, st1, hs, hr2⟩ := run_split hr
      have hstep := step_ok (Q := Q) X.kind X.one hs iv (fun q hq => hv q (run_acc hr2 q (List.mem_append_left _ hq)))
      unfold wpOp
      rw [List.getElem?_toArray, ho]
      dsimp only
      have := hstep.mono fun a' w' iv' => ih (i + 1) st1 _ (listed.setIfInBounds i true) a' w' (by omega) (by omega) (by omega) (by simpa using hl)
        (fun j => by
          rw [set_getD (by omega)]
          simp only [Bool.or_eq_true, beq_iff_eq, hL]
          omega) hr2 iv'
      exact this
theorem head_any (X : Ctx P ty Γ) (K : Chk ops m) {vc1 vcs : List Prop} {st2 : St} (T : Trace Γ (Elt P ty) (Sound ty P) ren cr ops m s tr vcs) (hnc : nocond s.sl = true) (hv : ∀ q, q ∈ vcs → q) (hQ : ∀ a w, Inv ty zb st2 a w → Q .normal a w)
    (hr : run P ty Γ ren cr ops (ops.drop m) (pre tr s m) vc1 = some (vcs, st2)) : ∀ (fuel : Nat) (listed : Array Bool) (a : Act) (w : World), cnt ops.length (fun i => listed.getD i false) ≤ fuel → listed.size = ops.length → (∀ i, listed.getD i false = true → i < m) →
    (∀ i o, listed.getD i false = true → ops[i]? = some o → ∀ j, j ∈ edges o → listed.getD j false = true) → Inv ty zb (mkD (fun i => listed.getD i false) tr s m) a w → wpAny P .any ops.toArray Q fuel listed a w := by
  have all : ∀ {listed : Array Bool} {fuel : Nat} {a : Act} {w : World}, listed.size = ops.length → (∀ i, listed.getD i false = true → i < m) → (∀ i, i < m → listed.getD i false = true) → cnt ops.length (fun i => listed.getD i false) ≤ fuel → Inv ty zb (mkD (fun i => listed.getD i false) tr s m) a w → wpAny P .any ops.toArray Q fuel listed a w := by
    intro listed fuel a w hl h1 h2 hf iv
    have heq : ∀ i, i ≤ m → mkD (fun i => listed.getD i false) tr s i = pre tr s i := by
      intro i
      induction i with
      | zero => intro _; rfl
      | succ i ih =>
        intro hi
        rw [mkD, pre, mkD, ih (by omega), h2 i (by omega)]
    rw [heq m (Nat.le_refl _)] at iv
    refine tail_any X K hv hQ fuel m _ vc1 listed a w (Nat.le_refl _) K.le ?_ hl (fun i => ⟨h1 i, h2 i⟩) hr iv
    refine Nat.le_trans ?_ hf
    unfold cnt
    have hsub : (List.range ops.length).filter (fun i => !listed.getD i false) = (List.range ops.length).filter fun i => decide (m ≤ i) := by
      apply List.filter_congr
      intro i _
      by_cases h : m ≤ i
      · cases hh : listed.getD i false with
        | true => have := h1 i hh; omega
        | false => simp [h]
      · simp [h2 i (by omega), h]
    rw [hsub]
    have : ∀ n, m ≤ n → ((List.range n).filter fun i => decide (m ≤ i)).length = n - m := by
      intro n hn
      induction n with
      | zero => simp
      | succ n ih =>
        rw [List.range_succ, List.filter_append]
        by_cases h : m ≤ n
        · simp [ih h, h]; omega
        · have : (List.range n).filter (fun i => decide (m ≤ i)) = [] := by
            apply List.filter_eq_nil_iff.2
            intro i hi
            have := List.mem_range.1 hi
            simp; omega
          simp [this, h]; omega
    rw [this _ K.le]
    exact Nat.le_refl _
  intro fuel
  induction fuel with
  | zero =>
    intro listed a w hf hl h1 h2 iv
    have hz := cnt_zero (by omega : cnt ops.length (fun i => listed.getD i false) = 0)
    exact all hl h1 (fun i hi => hz i (by have := K.le; omega)) hf iv
  | succ fuel ih =>
    intro listed a w hf hl h1 h2 iv
    by_cases hall : ∀ i, i < m → listed.getD i false = true
    · exact all hl h1 hall hf iv
    · have hex : ∃ i, i < m ∧ listed.getD i false = false ∧ ∀ j, j < i → listed.getD j false = true := by
        have : ∃ i, i < m ∧ listed.getD i false = false := by
          apply Classical.byContradiction
          intro hno
          apply hall
          intro i hi
          cases h : listed.getD i false with
          | true => rfl
          | false => exact absurd ⟨i, hi, h⟩ hno
        obtain ⟨i, hi, h⟩ := this
        induction i using Nat.strongRecOn with
        | _ i ihi =>
          by_cases hlow : ∀ j, j < i → listed.getD j false = true
          · exact ⟨i, hi, h, hlow⟩
          · have : ∃ j, j < i ∧ listed.getD j false = false := by
              apply Classical.byContradiction
              intro hno
              apply hlow
              intro j hj
              cases hh : listed.getD j false with
              | true => rfl
              | false => exact absurd ⟨j, hj, hh⟩ hno
            obtain ⟨j, hj, hjf⟩ := this
            exact ihi j hj (by omega) hjf
      have hml := K.le
      refine ⟨fun hnil => ?_, fun i hi => ?_⟩
      · obtain ⟨i, hi, hif, hlow⟩ := hex
        have hin : i < ops.length := by omega
        have : i ∈ Region.ready .any ops.toArray listed := (ready_iff hl).2 ⟨ops[i], List.getElem?_eq_getElem hin, hif, fun j hj => hlow j (K.back i _ (List.getElem?_eq_getElem hin) j hj)⟩
        rw [hnil] at this
        simp at this
      · obtain ⟨o, ho, hif, hE⟩ := (ready_iff hl).1 hi
        have hin := (List.getElem?_eq_some_iff.1 ho).1
        have him : i < m := by
          rcases Nat.lt_or_ge i m with h | h
          · exact h
          · exfalso
            obtain ⟨j, hj, hjf, _⟩ := hex
            have := clo_ok (D := fun j => listed.getD j false = true) K.back h2 i o ho hE j (K.tail i o h ho j (by omega))
            rw [hjf] at this; cases this
        unfold wpOp
        rw [List.getElem?_toArray, ho]
        dsimp only
        have hstep := draw_step (Q := Q) X.kind T K hv hnc (D := fun i => listed.getD i false) h1 h2 him hif ho hE iv
        have hset : ∀ j, (listed.setIfInBounds i true).getD j false = (listed.getD j false || j == i) := fun j => set_getD (by omega)
        have hfun : (fun j => (listed.setIfInBounds i true).getD j false) = fun j => listed.getD j false || j == i := funext hset
        have := hstep.mono fun a' w' iv' => ih (listed.setIfInBounds i true) a' w'
          (by rw [hfun]; have := cnt_set (D := fun i => listed.getD i false) hin hif; omega) (by simpa using hl)
          (fun j hj => by
            rw [hset, Bool.or_eq_true, beq_iff_eq] at hj
            rcases hj with hj | rfl
            · exact h1 j hj
            · exact him)
          (fun j o' hj ho' x hx => by
            rw [hset] at hj ⊢
            rw [Bool.or_eq_true, beq_iff_eq] at hj
            rw [Bool.or_eq_true]
            rcases hj with hj | rfl
            · exact Or.inl (h2 j o' hj ho' x hx)
            · rw [ho] at ho'
              simp only [Option.some.injEq] at ho'
              subst ho'
              exact Or.inl (hE x hx))
          (by rw [hfun]; exact iv')
        exact this
end
section
variable {P : Program} {Γ : Nat → TK} {zb : Base} {Q : Post} {st : St}
theorem W.draw (X : Ctx P ty Γ) (ren : List (Nat × Nat)) (cr : List (Nat × CR)) (ks hs : List Nat) (m : Nat) {id : Nat} {ops : List Oper} {vc : List Prop} {st' : St} (hm : P.follows .mixedOrders = true) (hc : chk ops m = true) (h : regD P ty Γ ren cr ks hs m ops st = some (vc, st')) (hv : AllP vc) (k : Q .normal st') :
    W P ty zb (.region id ops.toArray true) Q st := by
  intro a w iv
  obtain ⟨n, sl0, hp0⟩ := st
  have K := chk_ok hc
  simp only [regD] at h
  split at h
  · rename_i vc1 s1 hnc hq
    split at h
    · rename_i vc2 s2 hr
      split at h
      · rename_i sl hp h1 h2
        split at h
        · rename_i hcl hn
          simp only [Option.some.injEq, Prod.mk.injEq] at h
          obtain ⟨rfl, rfl⟩ := h
          obtain ⟨tr, t1, t2, t3⟩ := trace_of (k := 0) hq (fun i o ho => by
            rw [List.getElem?_take] at ho
            split at ho
            · simpa using ho
            · cases ho)
          have hlen : (ops.take m).length = m := by rw [List.length_take]; have := K.le; omega
          rw [hlen] at t1 t2 t3
          subst t2
          have T : Trace Γ (Elt P ty) (Sound ty P) ren cr ops m ⟨n, sl0, hp0⟩ tr vc2 := ⟨t1, fun i hi => by
            obtain ⟨o, e, vc, p1, p2, p3, p4, p5, p6⟩ := t3 i hi
            exact ⟨o, e, vc, by simpa using p1, p2, p3, p4, p5, fun q hq => run_acc hr q (p6 q hq)⟩⟩
          refine wp_region_any hm ?_
          have hz : ∀ i, (Array.replicate ops.toArray.size false).getD i false = false := by
            intro i
            rw [Array.getD_eq_getD_getElem?, Array.getElem?_replicate]
            split <;> rfl
          refine head_any (Q := Lift ty zb Q) X K T hnc hv.out (fun a w iv' => ⟨_, iv'.weaken (Nat.eq_of_beq_eq_true hn).symm (keepS_look h1) (keepH_look h2) hcl, k⟩) hr _ _ a _ ?_ (by simp) (fun i hi => by rw [hz] at hi; cases hi) (fun i o hi => by rw [hz] at hi; cases hi) ?_
          · unfold cnt
            refine Nat.le_trans (List.length_filter_le _ _) ?_
            simp
          · have hD : (fun i => (Array.replicate ops.toArray.size false).getD i false) = fun _ => false := funext hz
            rw [hD]
            have hmk : ∀ i, mkD (fun _ => false) tr ⟨n, sl0, hp0⟩ i = ⟨n, sl0, hp0⟩ := by
              intro i
              induction i with
              | zero => rfl
              | succ i ih => rw [mkD_succ_out rfl, ih]
            rw [hmk]
            obtain ⟨env, g⟩ := iv.good
            have hdr : Below w.heap.size w w.drew := (Below.refl _ _).drew
            refine ⟨iv.size, iv.defers, iv.kept.trans (kept_below hdr iv.kept.size), iv.amb, env, ?_⟩
            have := g.grow (os := []) (w' := w.drew) (env' := env) iv.kept.size rfl (News.none hdr)
            exact this
        · cases h
      · cases h
    · cases h
  · cases h
end
end Go.Proofs.YthjedjndamejmaaGreat.G
namespace Go.Proofs.YthjedjndamejmaaGreat.G
set_option linter.all false
open Go.RowKit L D
variable {ty : Tag → Nat}
def splitLast (l : List Oper) : Option (List Oper × Oper) := match l.reverse with
  | [] => none
  | o :: r => some (r.reverse, o)
theorem splitLast_ok {l p : List Oper} {q : Oper} (h : splitLast l = some (p, q)) : l = p ++ [q] := by
  unfold splitLast at h
  split at h
  · cases h
  · rename_i o r he
    simp only [Option.some.injEq, Prod.mk.injEq] at h
    obtain ⟨rfl, rfl⟩ := h
    have := congrArg List.reverse he
    rw [List.reverse_reverse, List.reverse_cons] at this
    exact this
def nilProp (Γ : Nat → TK) (st : St) (o : Oper) : Option (Nat × Prop) := match o.guard, o.dst, o.op with
  | none, some d, .binOp .eql t (.tmp s) (.const (.slice none 0 0)) _ => match Γ t, look st.sl s, Nat.blt d st.n with
    | .sl _ _, some (.one (.a (.sl _ l))), true => some (d, l = [])
    | .sl _ _, some (.one (.a (.vw _ _ _ l))), true => some (d, l = [])
    | .sl _ _, some (.one (.a (.own n))), true => match look st.hp n with
      | some (.arr _ l) => some (d, l = [])
      | _ => none
    | _, _, _ => none
  | _, _, _ => none
def keepC (n : Nat) (st' : St) (ks : List Nat) : Option St := match keepS st'.sl ks, keepH st'.hp (autoH st'.sl st'.hp ks []) with
  | some sl, some hp => match closedk sl hp with
    | true => some ⟨n, sl, hp⟩
    | false => none
  | _, _ => none
def keepB (st1 : St) (ks : List Nat) (d : Nat) (b : Bool) : Option St := keepC st1.n (st1.put (some d) (.one (.a (.lit (.bool b))))) ks
def regNil (P : Program) (ty : Tag → Nat) (Γ : Nat → TK) (ren : List (Nat × Nat)) (cr : List (Nat × CR)) (ks : List Nat) (ops : List Oper) (st : St) : Option (List Prop × Prop × St × St) :=
  match splitLast ops with
  | some (pre, o) => match run P ty Γ ren cr ops pre st [] with
    | some (vc, st1) => match nilProp Γ st1 o with
      | some (d, p) => match keepB st1 ks d true, keepB st1 ks d false with
        | some a, some b => some (vc, p, a, b)
        | _, _ => none
      | none => none
    | none => none
  | none => none
section
variable {P : Program} {Γ : Nat → TK} {zb : Base} {Q : Post} {st : St}
theorem run_ok2 (C : ∀ t, TKok P t (Γ t)) (Z : ∀ t, (∀ z tg fo, Γ t ≠ .st z tg fo) → Γ t ≠ .other → (P.info? t).map (·.size) = some 1) {ren : List (Nat × Nat)} {cr : List (Nat × CR)} {ops : List Oper} {st2 : St} {vcs : List Prop} {Q : Exit → Act → World → Prop} {tail : List Oper}
    (hQ : ∀ a w, Inv ty zb st2 a w → wpList P ops.toArray Q tail a w) : ∀ {l : List Oper} {st : St} {acc : List Prop} {a : Act} {w : World}, run P ty Γ ren cr ops l st acc = some (vcs, st2) → (∀ q, q ∈ vcs → q) → Inv ty zb st a w → wpList P ops.toArray Q (l ++ tail) a w
  | [], st, acc, a, w, h, hv, iv => by
    simp only [run, Option.some.injEq, Prod.mk.injEq] at h
    obtain ⟨_, rfl⟩ := h
    exact hQ a w iv
  | o :: r, st, acc, a, w, h, hv, iv => by
    obtain ⟨vc, st1, h1, h2⟩ := run_split h
    have := step_ok (Q := Q) C Z h1 iv (fun q hq => hv q (run_acc h2 q (List.mem_append_left _ hq)))
    exact this.mono fun a' w' iv' => run_ok2 C Z hQ h2 hv iv'
theorem equalIn_nil {w : World} {t e : Nat} (d : Nat) (hu : P.underlying t = some (.slice e)) {oa : Option Addr} {n cap : Nat} : (Op.equalIn (d + 1) t (.slice oa n cap) (.slice none 0 0)).run P w = .ok oa.isNone w := by
  cases oa <;> simp [Op.equalIn, run_underlying hu]
theorem nil_wp {o : Oper} {a : Act} {w : World} {K : Act → World → Prop} {Q : Exit → Act → World → Prop} {t s e ge : Nat} {ty2 : TypeId} (ho : o.op = .binOp .eql t (.tmp s) (.const (.slice none 0 0)) ty2) (hu : P.underlying t = some (.slice e)) {oa : Option Addr} {n cap : Nat} (hs : a.tmps.getD s undef = .slice oa n cap)
    (h : K (a.put o.dst (.bool oa.isNone)) w) : o.wp P a w K Q := by
  have hx : a.eval (.tmp s) = .slice oa n cap := hs
  have hrun : (execOp a.eval o).run P w = .ok (.value (.bool oa.isNone)) w := by
    have hy : a.eval (.const (.slice none 0 0)) = .slice none 0 0 := rfl
    unfold execOp
    simp only [ho, hx, hy]
    have he : (Op.equal t (.slice oa n cap) (.slice none 0 0)).run P w = .ok oa.isNone w := equalIn_nil 9999 hu
    have hb : (binOp .eql t (.slice oa n cap) (.slice none 0 0)).run P w = .ok (.bool oa.isNone) w := by
      show (do pure (.bool (← Op.equal t (.slice oa n cap) (.slice none 0 0))) : Sem Value).run P w = _
      simp only [Sem.run_bind, he, Result.andThen_ok, Sem.run_pure]
    have hg : (eqGuard .eql t (.tmp s) (.const (.slice none 0 0)) (.slice oa n cap) (.slice none 0 0)).run P w = .ok () w := by simp [eqGuard]
    simp only [Sem.run_bind, hg, hb, Result.andThen_ok, Sem.run_pure]
  unfold Oper.wp
  rw [hrun]
  exact h
theorem keepB_ok {st1 st' : St} {ks : List Nat} {d : Nat} {b : Bool} (h : keepB st1 ks d b = some st') {a : Act} {w : World} (iv : Inv ty zb st1 a w) (hd : Nat.blt d st1.n = true) : Inv ty zb st' (a.put (some d) (.bool b)) w := by
  have iv2 : Inv ty zb (st1.put (some d) (.one (.a (.lit (.bool b))))) (a.put (some d) (.bool b)) w := by
    obtain ⟨env, g⟩ := iv.good
    have hlt : ∀ d', some d = some d' → d' < a.tmps.size := by
      intro d' e
      simp only [Option.some.injEq] at e
      subst e
      rw [iv.size]
      exact Nat.le_of_ble_eq_true hd
    exact ⟨by rw [put_size, put_n]; exact iv.size, by rw [put_defers]; exact iv.defers, iv.kept, iv.amb, env, put_good (dst := some d) g hlt (u := .bool b) (show RSV w st1.hp env a.tmps (.one (.a (.lit (.bool b)))) (.bool b) from ⟨rfl, rfl⟩) fun d _ => no_mentions ⟨_, rfl⟩⟩
  unfold keepB keepC at h
  split at h
  · rename_i sl hp h1 h2
    split at h
    · rename_i hc
      simp only [Option.some.injEq] at h
      subst h
      exact iv2.weaken (by rw [put_n]) (keepS_look h1) (keepH_look h2) hc
    · cases h
  · cases h
theorem W.isNil (X : Ctx P ty Γ) (ren : List (Nat × Nat)) (cr : List (Nat × CR)) (ks : List Nat) {id : Nat} {ops : List Oper} {vc : List Prop} {p : Prop} {sT sF : St} (h : regNil P ty Γ ren cr ks ops st = some (vc, p, sT, sF)) (hv : AllP vc) (kT : p → Q .normal sT) (kF : Q .normal sF) :
    W P ty zb (.region id ops.toArray false) Q st := by
  intro a w iv
  unfold regNil at h
  split at h
  case h_2 => cases h
  rename_i pre o hsp
  split at h
  case h_2 => cases h
  rename_i vc1 st1 hrun
  split at h
  case h_2 => cases h
  rename_i d p1 hnp
  split at h
  case h_2 => cases h
  rename_i sa sb hT hF
  simp only [Option.some.injEq, Prod.mk.injEq] at h
  obtain ⟨rfl, rfl, rfl, rfl⟩ := h
  refine wp_region_lit ?_
  rw [show wpList P ops.toArray (Lift ty zb Q) ops a w = wpList P ops.toArray (Lift ty zb Q) (pre ++ [o]) a w by rw [← splitLast_ok hsp]]
  refine run_ok2 X.kind X.one (fun a w iv => ?_) hrun hv.out iv
  obtain ⟨env, g⟩ := iv.good
  unfold nilProp at hnp
  split at hnp
  case h_2 => cases hnp
  rename_i d0 t s ty2 hg hd hop
  have fin : ∀ {oa : Option Addr} {n cap : Nat} {e ge : Nat}, P.underlying t = some (.slice e) → a.tmps.getD s undef = .slice oa n cap → (oa = none → p1) → d0 = d → Nat.blt d0 st1.n = true → wpList P ops.toArray (Lift ty zb Q) [o] a w := by
    intro oa n cap e ge hu hs hn hdd hlt
    subst hdd
    have hk : ∀ a' w', (fun a' w' => a' = a.put (some d0) (.bool oa.isNone) ∧ w' = w) a' w' → wpList P ops.toArray (Lift ty zb Q) [] a' w' := by
      rintro a' w' ⟨rfl, rfl⟩
      refine wpList_nil ?_
      cases oa with
      | none => exact ⟨sa, keepB_ok hT iv hlt, kT (hn rfl)⟩
      | some x => exact ⟨sb, keepB_ok hF iv hlt, kF⟩
    have hR : Runs P ops.toArray o a w (fun a' w' => a' = a.put (some d0) (.bool oa.isNone) ∧ w' = w) (Lift ty zb Q) := guard_none hg (nil_wp (ge := ge) hop hu hs ⟨by rw [hd], rfl⟩)
    exact hR.mono hk
  split at hnp
  · rename_i g1 e1 t1 l hk hl hlt
    simp only [Option.some.injEq, Prod.mk.injEq] at hnp
    have hC := X.kind t
    rw [hk] at hC
    obtain ⟨fp, hsl, _⟩ := g.slot s _ hl
    obtain ⟨oa, cap, hv0, _, _, h3⟩ := hsl
    refine fin (ge := 0) hC.1 hv0 (fun hn => ?_) hnp.1 hlt
    rw [← hnp.2]
    rcases h3 with ⟨h3, _⟩ | ⟨b, off, fps, rfl, _⟩
    · exact h3
    · cases hn
  · rename_i g1 e1 n1 p2 t1 l hk hl hlt
    simp only [Option.some.injEq, Prod.mk.injEq] at hnp
    have hC := X.kind t
    rw [hk] at hC
    obtain ⟨_, ⟨fp, hsl, _⟩, _⟩ := g.slot s _ hl
    obtain ⟨oa, cap, hv0, _, _, h3⟩ := hsl
    refine fin (ge := 0) hC.1 hv0 (fun hn => ?_) hnp.1 hlt
    rw [← hnp.2]
    rcases h3 with ⟨h3, _⟩ | ⟨b, off, fps, rfl, _⟩
    · exact h3
    · cases hn
  · rename_i g1 e1 n1 hk hl hlt
    split at hnp
    · rename_i t1 l hobj
      simp only [Option.some.injEq, Prod.mk.injEq] at hnp
      have hC := X.kind t
      rw [hk] at hC
      obtain ⟨_, hu⟩ := g.slot s _ hl
      obtain ⟨oa, cap, hv0, _, _, h3⟩ := RO.sl (g.obj n1 _ hobj)
      refine fin (ge := 0) hC.1 (hu.trans hv0) (fun hn => ?_) hnp.1 hlt
      rw [← hnp.2]
      rcases h3 with ⟨h3, _⟩ | ⟨b, off, fps, rfl, _⟩
      · exact h3
      · cases hn
    · cases hnp
  · cases hnp
end
end Go.Proofs.YthjedjndamejmaaGreat.G
namespace Go.Proofs.YthjedjndamejmaaGreat.G
set_option linter.all false
open Go.RowKit L D
variable {ty : Tag → Nat}
def V.rev (hp : Hp) (ks ns : List Nat) (m0 : Nat) : V → V
  | .own n => match ns.any (Nat.beq n) with
    | true => match look hp n with | some (.arr t l) => .vw m0 none t l | _ => .any
    | false => (V.own n).kills ks []
  | v => v.kills ks []
def S1.rev (hp : Hp) (ks ns : List Nat) (m0 : Nat) : S1 → S1
  | .a v => .a (v.rev hp ks ns m0)
  | .agg l => .agg (l.map (V.rev hp ks ns m0))
def SV.rev (hp : Hp) (ks ns : List Nat) (m0 : Nat) : SV → SV
  | .one x => .one (x.rev hp ks ns m0)
  | .tup l => .tup (l.map (S1.rev hp ks ns m0))
  | .cond p x => .cond p (x.rev hp ks ns m0)
def Obj.rev (hp : Hp) (ks ns : List Nat) (m0 : Nat) : Obj → Obj
  | .box c => .box (c.map (V.rev hp ks ns m0))
  | .arr t l => .arr t l
def hrev (hp0 : Hp) (ks ns : List Nat) (m0 : Nat) (hp : Hp) : Hp := (hp.filter fun e => !ks.any (Nat.beq e.1)).map fun e => (e.1, e.2.rev hp0 ks ns m0)
theorem hrev_look {hp0 : Hp} {ks ns : List Nat} {m0 : Nat} {hp : Hp} {n : Nat} : look (hrev hp0 ks ns m0 hp) n = if n ∈ ks then none else (look hp n).map (Obj.rev hp0 ks ns m0) := by
  unfold hrev
  rw [look_map (α := Obj) (f := fun e : Nat × Obj => e.2.rev hp0 ks ns m0)]
  have h := hkills_look (ks := ks) (kv := []) (hp := hp) (n := n)
  unfold hkills at h
  rw [look_map (α := Obj) (f := fun e : Nat × Obj => e.2.kills ks [])] at h
  by_cases hn : n ∈ ks
  · rw [if_pos hn] at h ⊢
    cases hq : look (hp.filter fun e => !ks.any (Nat.beq e.1)) n with
    | none => rfl
    | some o => rw [hq] at h; cases h
  · rw [if_neg hn] at h ⊢
    have : look (hp.filter fun e => !ks.any (Nat.beq e.1)) n = look hp n := by
      induction hp with
      | nil => rfl
      | cons e r ih =>
        obtain ⟨j, x⟩ := e
        by_cases hj : j ∈ ks
        · have hne : n ≠ j := by rintro rfl; exact hn hj
          have hb : (ks.any (Nat.beq j)) = true := List.any_eq_true.2 ⟨j, hj, by simp⟩
          rw [List.filter_cons_of_neg (by simp [hb])] at h ⊢
          rw [look_ne hne] at h ⊢
          exact ih h
        · have hb : (ks.any (Nat.beq j)) = false := by
            rw [List.any_eq_false]
            intro y hy h2
            exact hj (by rw [Nat.eq_of_beq_eq_true h2]; exact hy)
          rw [List.filter_cons_of_pos (by simp [hb])] at h ⊢
          by_cases hnj : n = j
          · subst hnj; rw [look_eq, look_eq]
          · rw [look_ne hnj] at h ⊢
            rw [look_ne hnj] at h ⊢
            exact ih h
    rw [this]
section
variable {ks ns : List Nat} {m0 : Nat} {w w' : World} {hp hp' : Hp} {env env' : Env}
theorem mem_of_any {ns : List Nat} {n : Nat} (h : ns.any (Nat.beq n) = true) : n ∈ ns := by
  obtain ⟨y, hy, h2⟩ := List.any_eq_true.1 h
  rw [Nat.eq_of_beq_eq_true h2]; exact hy
theorem RA.rev (s : Turn ks [] w hp env w' hp' env') (hv : ∀ n t l, n ∈ ns → look hp n = some (.arr t l) → RA w' hp' env' (.vw m0 none t l) (env n).v) {v : V} {u : Value} (h : RA w hp env v u) : RA w' hp' env' (v.rev hp ks ns m0) u := by
  cases v with
  | own n =>
    have e : V.rev hp ks ns m0 (.own n) = match ns.any (Nat.beq n) with
      | true => (match look hp n with | some (.arr t l) => .vw m0 none t l | _ => .any)
      | false => (V.own n).kills ks [] := rfl
    rw [e]
    cases hn : ns.any (Nat.beq n) with
    | true =>
      obtain ⟨⟨t, l, hl⟩, rfl⟩ := h
      rw [hl]
      exact hv n t l (mem_of_any hn) hl
    | false => exact RA.turn s h
  | _ => exact RA.turn s h
theorem RS1.rev (s : Turn ks [] w hp env w' hp' env') (hv : ∀ n t l, n ∈ ns → look hp n = some (.arr t l) → RA w' hp' env' (.vw m0 none t l) (env n).v) {x : S1} {u : Value} (h : RS1 w hp env x u) : RS1 w' hp' env' (x.rev hp ks ns m0) u := by
  cases x with
  | a v => exact RA.rev s hv h
  | agg l => obtain ⟨cs, hu, hl⟩ := h; exact ⟨cs, hu, hl.map fun a b hr => RA.rev s hv hr⟩
theorem RSV.rev (s : Turn ks [] w hp env w' hp' env') (hv : ∀ n t l, n ∈ ns → look hp n = some (.arr t l) → RA w' hp' env' (.vw m0 none t l) (env n).v) {tmps : Array Value} {x : SV} {u : Value} (h : RSV w hp env tmps x u) : RSV w' hp' env' tmps (x.rev hp ks ns m0) u := by
  cases x with
  | one x => exact RS1.rev s hv h
  | tup l => obtain ⟨us, hu, hl⟩ := h; exact ⟨us, hu, hl.map fun a b hr => RS1.rev s hv hr⟩
  | cond p x => exact ⟨fun hh => RS1.rev s hv (h.1 hh), h.2⟩
theorem RO.rev (s : Turn ks [] w hp env w' hp' env') (hv : ∀ n t l, n ∈ ns → look hp n = some (.arr t l) → RA w' hp' env' (.vw m0 none t l) (env n).v) {n : Nat} {o : Obj} {co : CO} (h : RO ty w hp env n o co) (hk : ∀ b, b ∈ co.fp → w'.heap[b]? = w.heap[b]?) : RO ty w' hp' env' n (o.rev hp ks ns m0) co := by
  cases o with
  | box c =>
    obtain ⟨b, cs, e, rfl, hh, hc⟩ := h
    exact ⟨b, cs, e, rfl, by rw [hk b (by simp)]; exact hh, hc.map fun a u hr => RA.rev s hv hr⟩
  | arr t l => exact RO.agree h hk
end
section
variable {P : Program} {zb : Base} {st : St} {a : Act} {w : World} {env : Env}
theorem good_rev (g : Good ty zb st a.tmps w env) (hB : zb.w.heap.size ≤ w.heap.size) {ks ns : List Nat} {d : Nat} (hdp : pin d = false) (hd : look (hkills ks [] st.hp) d = none) {v v' : Value} {w' : World} {t : Tag} {l : List (T t)} {fp fx fp' : List Nat}
    (hfp : ∀ b, b ∈ fp ++ fx → ∃ i o, i ∈ ks ∧ look st.hp i = some o ∧ b ∈ (env i).fp) (hvb : ∀ b, v.ownBlock = some b → b ∈ fp)
    (hB' : Bld (kk t) (rd t) 0 (ty t) w' v' l fp') (hg : w.grownBy w' v.ownBlock) (hsub : ∀ b, b ∈ fp' → b ∈ fp ∨ b ∈ fx ∨ w.heap.size ≤ b)
    (hns : ∀ n, n ∈ ns → n ∈ ks) (hin : ∀ n o b, n ∈ ns → look st.hp n = some o → b ∈ (env n).fp → b ∈ fp' ∧ w'.heap[b]? = w.heap[b]?) :
    ∃ env', Good ty zb ⟨st.n, st.sl.map fun e => (e.1, e.2.rev st.hp ks ns d), (d, .arr t l) :: hrev st.hp ks ns d st.hp⟩ a.tmps w' env' ∧ (env' d).v = v' := by
  refine ⟨fun n => if n = d then ⟨v', fp'⟩ else env n, ?_, by simp⟩
  have hlk : ∀ m o, look ((d, Obj.arr t l) :: hrev st.hp ks ns d st.hp) m = some o → (m = d ∧ o = .arr t l) ∨ (m ≠ d ∧ m ∉ ks ∧ ∃ o', look st.hp m = some o' ∧ o = o'.rev st.hp ks ns d) := by
    intro m o hm
    by_cases hmd : m = d
    · subst hmd; rw [look_eq] at hm; simp only [Option.some.injEq] at hm; exact Or.inl ⟨rfl, hm.symm⟩
    · rw [look_ne hmd, hrev_look] at hm
      split at hm
      · cases hm
      · rename_i hks
        cases hq : look st.hp m with
        | none => rw [hq] at hm; cases hm
        | some o' => rw [hq] at hm; simp only [Option.map_some, Option.some.injEq] at hm; exact Or.inr ⟨hmd, hks, o', rfl, hm.symm⟩
  have how : ∀ b, b ∈ fp' → b < w.heap.size → ∃ i o, i ∈ ks ∧ look st.hp i = some o ∧ b ∈ (env i).fp := by
    intro b hb hlt
    rcases hsub b hb with h | h | h
    · exact hfp b (List.mem_append_left _ h)
    · exact hfp b (List.mem_append_right _ h)
    · omega
  have hnd : ∀ m o, m ∉ ks → look st.hp m = some o → m ≠ d := by
    rintro m o hks h1 rfl
    rw [hkills_look, if_neg hks, h1] at hd
    cases hd
  have hst : ∀ m o, m ∉ ks → look st.hp m = some o → ∀ b, b ∈ (env m).fp → w'.heap[b]? = w.heap[b]? := by
    intro m o hks h3 b hb
    refine hg.block b ((g.obj m o h3).blk b hb) fun e => ?_
    obtain ⟨i, oi, hi, h5, h6⟩ := hfp b (List.mem_append_left _ (hvb b e.symm))
    exact g.dis m i _ _ (fun e => hks (e ▸ hi)) h3 h5 b hb h6
  have s : Turn ks [] w st.hp env w' ((d, .arr t l) :: hrev st.hp ks ns d st.hp) (fun n => if n = d then ⟨v', fp'⟩ else env n) := by
    refine ⟨fun b hb hno => hg.block b hb fun e => ?_, ?_, ?_, ?_⟩
    · obtain ⟨i, o', _, h1, h2⟩ := hfp b (List.mem_append_left _ (hvb b e.symm))
      exact hno ⟨i, o', h1, h2⟩
    · rintro b hb ⟨m, o', h1, h2⟩
      rcases hlk m o' h1 with ⟨rfl, rfl⟩ | ⟨hmd, hks, o'', h3, rfl⟩
      · simp at h2
        obtain ⟨i, o', _, h3, h4⟩ := how b h2 hb
        exact ⟨i, o', h3, h4⟩
      · simp [hmd] at h2
        exact ⟨m, o'', h3, h2⟩
    · intro m o' hks h1
      have hmd := hnd m o' hks h1
      refine ⟨o'.rev st.hp ks ns d, by rw [look_ne hmd, hrev_look, if_neg hks, h1]; rfl, by cases o' <;> simp [Obj.like, Obj.rev], by simp [hmd]⟩
    · rintro m t' l' ⟨hks, _⟩ h1
      have hmd := hnd m _ hks h1
      exact ⟨by rw [look_ne hmd, hrev_look, if_neg hks, h1]; rfl, by simp [hmd], hst m _ hks h1⟩
  have hv : ∀ n t1 l1, n ∈ ns → look st.hp n = some (.arr t1 l1) → RA w' ((d, .arr t l) :: hrev st.hp ks ns d st.hp) (fun n => if n = d then ⟨v', fp'⟩ else env n) (.vw d none t1 l1) (env n).v := by
    intro n t1 l1 hn hl
    have hsl := RO.sl (g.obj n _ hl)
    refine ⟨⟨_, _, look_eq⟩, ⟨_, Sl.agree (fine t1) hsl fun b hb => (hin n _ b hn hl hb).2, (RO.own (g.obj n _ hl)).nodup, fun b hb => ?_⟩, fun _ _ h => by cases h⟩
    simp only [if_true]
    exact (hin n _ b hn hl hb).1
  have hgood : Good ty zb ⟨st.n, st.sl.map fun e => (e.1, e.2.rev st.hp ks ns d), (d, .arr t l) :: hrev st.hp ks ns d st.hp⟩ a.tmps w' (fun n => if n = d then ⟨v', fp'⟩ else env n) := by
    refine ⟨fun m o' hm => ?_, fun m m' o1 o2 hne h1 h2 b hb hb' => ?_, fun s1 x hl => ?_, fun m o' hm b hb => ?_, fun m hm => ?_⟩
    · rcases hlk m o' hm with ⟨rfl, rfl⟩ | ⟨hmd, hks, o'', h3, rfl⟩
      · simp only [if_true]; exact RO.ofBld hB'
      · simp only [if_neg hmd]
        exact RO.rev s hv (g.obj m o'' h3) (hst m o'' hks h3)
    · rcases hlk m o1 h1 with ⟨e1, _⟩ | ⟨hmd, hks, q1, h3, _⟩ <;> rcases hlk m' o2 h2 with ⟨e2, _⟩ | ⟨hmd', hks', q2, h4, _⟩
      · exact hne (e1.trans e2.symm)
      · simp only [if_pos e1] at hb
        simp only [if_neg hmd'] at hb'
        have hlt := (g.obj m' q2 h4).blk b hb'
        obtain ⟨i, oi, hi, h5, h6⟩ := how b hb hlt
        exact g.dis m' i _ _ (fun e => hks' (e ▸ hi)) h4 h5 b hb' h6
      · simp only [if_pos e2] at hb'
        simp only [if_neg hmd] at hb
        have hlt := (g.obj m q1 h3).blk b hb
        obtain ⟨i, oi, hi, h5, h6⟩ := how b hb' hlt
        exact g.dis m i _ _ (fun e => hks (e ▸ hi)) h3 h5 b hb h6
      · simp only [if_neg hmd] at hb
        simp only [if_neg hmd'] at hb'
        exact g.dis m m' _ _ hne h3 h4 b hb hb'
    · have hl : look (st.sl.map fun e => (e.1, e.2.rev st.hp ks ns d)) s1 = some x := hl
      rw [look_map (α := SV) (f := fun e : Nat × SV => e.2.rev st.hp ks ns d)] at hl
      cases hq : look st.sl s1 with
      | none => rw [hq] at hl; cases hl
      | some y =>
        rw [hq] at hl
        simp only [Option.map_some, Option.some.injEq] at hl
        subst hl
        exact RSV.rev s hv (g.slot s1 y hq)
    · rcases hlk m o' hm with ⟨e1, _⟩ | ⟨hmd, hks, q1, h3, _⟩
      · simp only [if_pos e1] at hb
        by_cases hlt : b < w.heap.size
        · obtain ⟨i, oi, hi, h5, h6⟩ := how b hb hlt
          exact g.dom i oi h5 b h6
        · exact Or.inr (by omega)
      · simp only [if_neg hmd] at hb
        exact g.dom m q1 h3 b hb
    · have : m ≠ d := by rintro rfl; rw [hdp] at hm; cases hm
      simp only [if_neg this]
      exact g.pins m hm
  exact hgood
theorem takes_ok2 (g : Good ty zb st a.tmps w env) : ∀ {l c : List V} {k : List Nat} {us : List Value}, All2 (RA w st.hp env) l us → takes st l = some (c, k) → k.Nodup →
    ∃ fp, RIs w c us fp ∧ Own 0 w fp ∧ (∀ b, b ∈ fp → ∃ i o, i ∈ k ∧ look st.hp i = some o ∧ b ∈ (env i).fp) ∧ ∀ i b, i ∈ k → b ∈ (env i).fp → b ∈ fp
  | [], c, k, us, hr, h, _ => by
    simp only [takes, Option.some.injEq, Prod.mk.injEq] at h
    obtain ⟨rfl, rfl⟩ := h
    cases us with
    | nil => exact ⟨[], rfl, Own.nil _ _, by simp, by simp⟩
    | cons _ _ => exact hr.elim
  | v :: r, c, k, us, hr, h, hnd => by
    cases us with
    | nil => exact hr.elim
    | cons u us =>
      cases v with
      | lit x =>
        simp only [takes] at h
        split at h
        · rename_i c' k' h'
          simp only [Option.some.injEq, Prod.mk.injEq] at h
          obtain ⟨rfl, rfl⟩ := h
          obtain ⟨fp, h1, h2, h3, h4⟩ := takes_ok2 g hr.2 h' hnd
          obtain ⟨e1, e2⟩ := hr.1
          exact ⟨fp, ⟨[], fp, ⟨e1, e2, rfl⟩, h1, rfl⟩, h2, h3, h4⟩
        · cases h
      | own n =>
        simp only [takes] at h
        split at h
        · rename_i t l c' k' hl h'
          simp only [Option.some.injEq, Prod.mk.injEq] at h
          obtain ⟨rfl, rfl⟩ := h
          obtain ⟨hn1, hn2⟩ := List.nodup_cons.1 hnd
          obtain ⟨fp, h1, h2, h3, h6⟩ := takes_ok2 g hr.2 h' hn2
          obtain ⟨_, rfl⟩ := hr.1
          have hb := RO.sl (g.obj n _ hl)
          have ho := RO.own (g.obj n _ hl)
          refine ⟨(env n).fp ++ fp, ⟨_, _, hb, h1, rfl⟩, ⟨List.nodup_append.2 ⟨ho.nodup, h2.nodup, ?_⟩, fun b hb => ?_, fun b hb => ?_⟩, fun b hb => ?_, fun i b hi hbi => ?_⟩
          · rintro b hb x hx rfl
            obtain ⟨i, o, hi, h4, h5⟩ := h3 b hx
            exact g.dis n i _ _ (fun e => hn1 (e ▸ hi)) hl h4 b hb h5
          · rcases List.mem_append.1 hb with hb | hb
            · exact ho.ge b hb
            · exact h2.ge b hb
          · rcases List.mem_append.1 hb with hb | hb
            · exact ho.kind b hb
            · exact h2.kind b hb
          · rcases List.mem_append.1 hb with hb | hb
            · exact ⟨n, _, by simp, hl, hb⟩
            · obtain ⟨i, o, hi, h4, h5⟩ := h3 b hb
              exact ⟨i, o, List.mem_cons_of_mem _ hi, h4, h5⟩
          · rcases List.mem_cons.1 hi with rfl | hi
            · exact List.mem_append_left _ hbi
            · exact List.mem_append_right _ (h6 i b hi hbi)
        · cases h
      | _ => simp [takes] at h
theorem bparts_ok2 (g : Good ty zb st a.tmps w env) {t : Tag} : ∀ {ps : List (Nat × Operand)} {i : Nat} {vc : List Prop} {xs : List (T t)} {ks : List Nat}, bparts st t i ps = some (vc, xs, ks) → ks.Nodup → (∀ q, q ∈ vc → q) →
    (ps.map fun p => (p.1, a.eval p.2)) = seqv i (ps.map fun p => a.eval p.2) ∧ xs.length = ps.length ∧ ∃ fps : List (List Nat), fps.length = xs.length ∧
      (∀ (i : Nat) (x : T t) (f : List Nat), xs[i]? = some x → fps[i]? = some f → ∃ p : Nat × Operand, ps[i]? = some p ∧ rd t w (a.eval p.2).cells.toList x f) ∧ Own 0 w fps.flatten ∧ (∀ b, b ∈ fps.flatten → ∃ i o, i ∈ ks ∧ look st.hp i = some o ∧ b ∈ (env i).fp) ∧
      ∀ i b, i ∈ ks → b ∈ (env i).fp → b ∈ fps.flatten
  | [], i, vc, xs, ks, h, _, _ => by
    simp only [bparts, Option.some.injEq, Prod.mk.injEq] at h
    obtain ⟨rfl, rfl, rfl⟩ := h
    exact ⟨rfl, rfl, [], rfl, by simp, Own.nil _ _, by simp, by simp⟩
  | (j, x) :: r, i, vc, xs, ks, h, hnd, hv => by
    simp only [bparts] at h
    split at h
    · rename_i s hij hx
      have hij := Nat.eq_of_beq_eq_true hij
      subst hij
      split at h
      · rename_i c k hc
        split at h
        · rename_i vc1 y vcs ys ks1 he hb
          simp only [Option.some.injEq, Prod.mk.injEq] at h
          obtain ⟨rfl, rfl, rfl⟩ := h
          obtain ⟨hn1, hn2, hn3⟩ := List.nodup_append.1 hnd
          obtain ⟨q1, q2, fps, q3, q4, q5, q6, q7⟩ := bparts_ok2 g hb hn2 (fun q hq => hv q (List.mem_append_right _ hq))
          obtain ⟨fp, r1, r2, r3, r4⟩ := takes_ok2 g (cellsOf_ok g (opv_ok g (fun e he => by simp at he) hx) (takes_noany hc)) hc hn1
          have hE := enc_ok t he (fun q hq => hv q (List.mem_append_left _ hq)) r1
          refine ⟨by simp [seqv, q1], by simp [q2], fp :: fps, by simp [q3], ?_, ⟨?_, ?_, ?_⟩, ?_, ?_⟩
          · intro i' x' f hx' hf
            cases i' with
            | zero => simp at hx' hf; subst hx'; subst hf; exact ⟨(i, x), rfl, hE⟩
            | succ n => simp at hx' hf; obtain ⟨p, h1, h2⟩ := q4 n x' f hx' hf; exact ⟨p, by simpa using h1, h2⟩
          · rw [List.flatten_cons]
            refine List.nodup_append.2 ⟨r2.nodup, q5.nodup, ?_⟩
            rintro b hb z hz rfl
            obtain ⟨n, o1, h1, h2, h3⟩ := r3 b hb
            obtain ⟨m, o2, h4, h5, h6⟩ := q6 b hz
            exact g.dis n m _ _ (fun e => hn3 n h1 m h4 e) h2 h5 b h3 h6
          · intro b hb
            rw [List.flatten_cons] at hb
            rcases List.mem_append.1 hb with hb | hb
            · exact r2.ge b hb
            · exact q5.ge b hb
          · intro b hb
            rw [List.flatten_cons] at hb
            rcases List.mem_append.1 hb with hb | hb
            · exact r2.kind b hb
            · exact q5.kind b hb
          · intro b hb
            rw [List.flatten_cons] at hb
            rcases List.mem_append.1 hb with hb | hb
            · obtain ⟨n, o1, h1, h2, h3⟩ := r3 b hb; exact ⟨n, o1, List.mem_append_left _ h1, h2, h3⟩
            · obtain ⟨n, o1, h1, h2, h3⟩ := q6 b hb; exact ⟨n, o1, List.mem_append_right _ h1, h2, h3⟩
          · intro n b hn hb
            rw [List.flatten_cons]
            rcases List.mem_append.1 hn with hn | hn
            · exact List.mem_append_left _ (r4 n b hn hb)
            · exact List.mem_append_right _ (q7 n b hn hb)
        · cases h
      · cases h
    · cases h
end
/-- An operand that does not read a temporary. -/
def offT (d : Nat) : Operand → Bool
  | .tmp s => !Nat.beq s d
  | .const _ => true
  | _ => false
/-- What append puts is written out, and read on. -/
def eapk (P : Program) (ty : Tag → Nat) (Γ : Nat → TK) (st : St) (m0 : Nat) (o1 o2 : Oper) : Option (List Prop × St) :=
  match o1.guard, o1.dst, o1.op with
  | none, some d1, .buildSlice tb len parts => match Γ tb with
    | .sl t e => match Nat.beq e (ty t) && Nat.beq parts.toList.length len && Nat.ble (len * kk t) 16777216, bparts st t 0 parts.toList with
      | true, some (vc, lx, m) => match o2.guard, o2.dst, o2.op with
        | none, some d2, .call ⟨.builtin .append, xs, ts⟩ => match xs.toList, ts.toList with
          | [s, .tmp d], [t1, t2] => match Nat.beq d d1 && offT d1 s && Nat.beq t1 tb && Nat.beq t2 tb, opv st [] s with
            | true, some vs => match appDst st t vs with
              | some (l, k) => match nodupn m && notin k m && !pinned k && !pin m0 && Nat.blt d1 st.n && Nat.blt d2 st.n, look (hkills (app1 k m) [] st.hp) m0 with
                | true, none => some ([El P ty t, (l.length + lx.length) * byt t ≤ 140737488355328 ∧ l.length + lx.length ≤ maxLen] ++ vc,
                    (St.put ⟨st.n, st.sl.map fun e => (e.1, e.2.rev st.hp (app1 k m) m m0), (m0, .arr t (l ++ lx)) :: hrev st.hp (app1 k m) m m0 st.hp⟩ (some d1) (.one (.a .any))).put (some d2) (.one (.a (.own m0))))
                | _, _ => none
              | none => none
            | _, _ => none
          | _, _ => none
        | _, _, _ => none
      | _, _ => none
    | _ => none
  | _, _, _ => none
section
variable {P : Program} {zb : Base} {st : St} {a : Act} {w : World} {env : Env} {o : Oper}
theorem eapk_ok {Γ : Nat → TK} (C : ∀ t, TKok P t (Γ t)) {m0 : Nat} {o1 o2 : Oper} {vc : List Prop} {st' : St} (h : eapk P ty Γ st m0 o1 o2 = some (vc, st')) (hv : ∀ q, q ∈ vc → q) (iv : Inv ty zb st a w)
    {ops : Array Oper} {tail : List Oper} {Q : Exit → Act → World → Prop} (hQ : ∀ a w, Inv ty zb st' a w → wpList P ops Q tail a w) : wpList P ops Q (o1 :: o2 :: tail) a w := by
  obtain ⟨env, g⟩ := iv.good
  have hB := iv.kept.size
  unfold eapk at h
  split at h
  case h_2 => cases h
  rename_i d1 tb len parts hg1 hd1 ho1
  split at h
  case h_2 => cases h
  rename_i t e hk
  split at h
  case h_2 => cases h
  rename_i vc1 lx m hc1 hb
  split at h
  case h_2 => cases h
  rename_i d2 xs ts hg2 hd2 ho2
  split at h
  case h_2 => cases h
  rename_i s d t1 t2 hxl htl
  split at h
  case h_2 => cases h
  rename_i vs hc2 hs
  split at h
  case h_2 => cases h
  rename_i l k hds
  split at h
  case h_2 => cases h
  rename_i hc3 hlk
  simp only [Option.some.injEq, Prod.mk.injEq, app1_eq] at h
  rw [app1_eq] at hlk
  obtain ⟨rfl, hst'⟩ := h
  simp only [Bool.and_eq_true, Bool.not_eq_true'] at hc1 hc2 hc3
  obtain ⟨⟨he, hlen⟩, hbig⟩ := hc1
  obtain ⟨⟨⟨hdd, hoff⟩, ht1⟩, ht2⟩ := hc2
  obtain ⟨⟨⟨⟨⟨hnd, hno⟩, hpk⟩, hpm⟩, hl1⟩, hl2⟩ := hc3
  have he := Nat.eq_of_beq_eq_true he
  obtain rfl := Nat.eq_of_beq_eq_true hdd
  obtain rfl := Nat.eq_of_beq_eq_true ht1
  obtain rfl := Nat.eq_of_beq_eq_true ht2
  obtain rfl : xs = #[s, .tmp d] := by cases xs; simp_all
  obtain rfl : ts = #[t2, t2] := by cases ts; simp_all
  have hEl : El P ty t := hv _ (by simp)
  obtain ⟨hb1, hb2⟩ : (l.length + lx.length) * byt t ≤ 140737488355328 ∧ l.length + lx.length ≤ maxLen := hv _ (by simp)
  obtain ⟨q1, q2, fps, q3, q4, q5, q6, q7⟩ := bparts_ok2 g hb (nodupn_ok hnd) (fun q hq => hv q (by simp [hq]))
  have hC := C t2
  rw [hk, he] at hC
  have hlen := Nat.eq_of_beq_eq_true hlen
  obtain ⟨w1, r1, r2, r3⟩ := run_built (P := P) (w := w) (a := a) ho1 hC.1 hEl (Nat.le_of_ble_eq_true hbig) hlen (Nat.zero_le _) q1 q2 q3 q4 q5
  have g1 : Good ty zb st a.tmps w1 env := by
    have := Good.grow hB g (os := []) rfl (News.none r2)
    exact this
  have hB1 : zb.w.heap.size ≤ w1.heap.size := Nat.le_trans hB r2.size
  have hR1 : Runs P ops o1 a w (fun a' w' => a' = a.put o1.dst (.slice (some ⟨w.heap.size, 0, none⟩) len len) ∧ w1 = w') Q := by
    refine guard_none hg1 ?_
    unfold Oper.wp
    rw [r1]
    exact ⟨rfl, rfl⟩
  refine hR1.mono ?_
  rintro a1 w1 ⟨rfl, rfl⟩
  have hdl : d < a.tmps.size := by rw [iv.size]; exact Nat.le_of_ble_eq_true hl1
  have hdl2 : d2 < a.tmps.size := by rw [iv.size]; exact Nat.le_of_ble_eq_true hl2
  rw [hd1]
  have hsv : (a.put (some d) (.slice (some ⟨w.heap.size, 0, none⟩) len len)).eval s = a.eval s := by
    cases s with
    | tmp s =>
      simp only [offT, Bool.not_eq_true'] at hoff
      have hne : s ≠ d := by rintro rfl; simp at hoff
      show (a.tmps.setIfInBounds d _).getD s undef = a.tmps.getD s undef
      rw [Array.getD_eq_getD_getElem?, Array.getD_eq_getD_getElem?, Array.getElem?_setIfInBounds_ne (fun e => hne e.symm)]
    | const v => rfl
    | _ => simp [offT] at hoff
  have hxv : (a.put (some d) (.slice (some ⟨w.heap.size, 0, none⟩) len len)).eval (.tmp d) = .slice (some ⟨w.heap.size, 0, none⟩) len len := by
    show (a.tmps.setIfInBounds d _).getD d undef = _
    rw [Array.getD_eq_getD_getElem?, Array.getElem?_setIfInBounds_self_of_lt hdl]; rfl
  obtain ⟨fp, hD, hDk⟩ := appDst_ok g1 (opv_ok g1 (fun e he => by simp at he) hs) hds hpk
  obtain ⟨news, fx, hown, hfl, hfe, hfp, hfo⟩ := r3
  have hff : fx.flatten = fps.flatten := by simpa [Value.ownBlock] using hfp.symm
  have hq5 : Own 0 w1 fps.flatten := q5.below r2
  have hlx : len = lx.length := by rw [q2, hlen]
  have hOwn : Own 0 w1 (fp ++ fx.flatten) := by
    rw [hff]
    have ho := hD.own
    refine ⟨List.nodup_append.2 ⟨ho.nodup, hq5.nodup, ?_⟩, fun b hb => ?_, fun b hb => ?_⟩
    · rintro b hb c hc rfl
      obtain ⟨i, oi, hi, h1, h2⟩ := hDk b hb
      obtain ⟨j, oj, hj, h3, h4⟩ := q6 b hc
      have hij : i ≠ j := by
        rintro rfl
        simp only [notin, List.all_eq_true, Bool.not_eq_true', List.any_eq_false] at hno
        exact hno i hi i hj (by simp)
      exact g.dis i j _ _ hij h1 h3 b h2 h4
    · rcases List.mem_append.1 hb with hb | hb
      · exact ho.ge b hb
      · exact hq5.ge b hb
    · rcases List.mem_append.1 hb with hb | hb
      · exact ho.kind b hb
      · exact hq5.kind b hb
  have hvb : ∀ b, (a.eval s).ownBlock = some b → b ∈ fp := by
    intro b hb
    obtain ⟨xs, fps, _, _, _, hfp, _⟩ := hD
    rw [hfp, hb]; simp
  have hsrc : Src w1 (.slice (some ⟨w.heap.size, 0, none⟩) len len) lx.length news := by
    subst hlx
    exact Or.inr ⟨⟨w.heap.size, 0, none⟩, _, rfl, hown.cells (g := w.heap.size) rfl⟩
  have hR2 : Runs P ops o2 (a.put (some d) (.slice (some ⟨w.heap.size, 0, none⟩) len len)) w1 (fun a' w' => Inv ty zb st' a' w') Q := by
    refine guard_none hg2 ?_
    refine wp_app' s (.tmp d) t2 ho2 (fine t) (kk_pos t) 0 (ty t) (zval t) (byt t) hC.1 hEl (zval_cells t) (a.eval s) l fp hsv hD _ hxv lx news fx hsrc hfl hown.1 hfe hOwn hb2 hb1 (Nat.zero_le _) ?_
    intro v' w' fp' k1 k2 k3 k4 k5 k6
    obtain ⟨env', hg', hv'⟩ := good_rev (ty := ty) g1 hB1 (ks := k ++ m) (ns := m) hpm hlk (v := a.eval s) (fp := fp) (fx := fps.flatten)
      (by
        intro b hb
        rcases List.mem_append.1 hb with hb | hb
        · obtain ⟨i, oi, hi, h1⟩ := hDk b hb; exact ⟨i, oi, List.mem_append_left _ hi, h1⟩
        · obtain ⟨i, oi, hi, h1⟩ := q6 b hb; exact ⟨i, oi, List.mem_append_right _ hi, h1⟩)
      hvb k1 k2 (fun b hb => by
        rcases k4 b hb with h | h | h
        · exact Or.inl h
        · exact Or.inr (Or.inl (hff ▸ h))
        · exact Or.inr (Or.inr (by omega)))
      (fun n hn => List.mem_append_right _ hn)
      (fun n o b hn hl hb => by
        have hbf := q7 n b hn hb
        refine ⟨k6 b (by rw [hff]; exact hbf), k2.block b (hq5.lt b hbf) fun e => ?_⟩
        obtain ⟨i, oi, hi, h1, h2⟩ := hDk b (hvb b e.symm)
        have hij : i ≠ n := by
          rintro rfl
          simp only [notin, List.all_eq_true, Bool.not_eq_true', List.any_eq_false] at hno
          exact hno i hi i hn (by simp)
        exact g.dis i n _ _ hij h1 hl b h2 hb)
    have hkept : Kept zb w1 w' := by
      refine ⟨k2.os, k2.tape, k2.output, k2.size, fun b hb hn => k2.block b (by omega) fun e => ?_, k5⟩
      obtain ⟨i, oi, hi, h1, h2⟩ := hDk b (hvb b e.symm)
      rcases g.dom i oi h1 b h2 with h | h
      · exact hn h
      · omega
    rw [← hst']
    refine ⟨?_, ?_, (iv.kept.trans (kept_below r2 hB)).trans hkept, iv.amb, env', ?_⟩
    · rw [put_size, put_size, put_n, put_n]; exact iv.size
    · rw [put_defers, put_defers]; exact iv.defers
    · have gp := put_good hg' (dst := some d) (fun _ e => by cases e; exact hdl) (v := .one (.a .any)) (u := .slice (some ⟨w.heap.size, 0, none⟩) len len) trivial (fun d _ => no_mentions ⟨_, rfl⟩)
      rw [hd2]
      refine put_good gp (fun _ e => by cases e; rw [put_size]; exact hdl2) ?_ (fun d _ => no_mentions ⟨_, rfl⟩)
      rw [put_hp]
      exact ⟨⟨t, _, look_eq⟩, hv'.symm⟩
  exact hR2.mono fun a' w' iv' => hQ a' w' iv'
end
def pairAt : Nat → List Oper → Option (List Oper × Oper × Oper × List Oper)
  | 0, o1 :: o2 :: r => some ([], o1, o2, r)
  | n + 1, o :: r => match pairAt n r with
    | some (p, o1, o2, q) => some (o :: p, o1, o2, q)
    | none => none
  | _, _ => none
theorem pairAt_ok : ∀ {n : Nat} {l p q : List Oper} {o1 o2 : Oper}, pairAt n l = some (p, o1, o2, q) → l = p ++ o1 :: o2 :: q
  | 0, [], _, _, _, _, h => by cases h
  | 0, [_], _, _, _, _, h => by cases h
  | 0, o1 :: o2 :: r, p, q, a, b, h => by
    simp only [pairAt, Option.some.injEq, Prod.mk.injEq] at h
    obtain ⟨rfl, rfl, rfl, rfl⟩ := h; rfl
  | n + 1, [], _, _, _, _, h => by cases h
  | n + 1, o :: r, p, q, a, b, h => by
    simp only [pairAt] at h
    split at h
    · rename_i p' o1 o2 q' h'
      simp only [Option.some.injEq, Prod.mk.injEq] at h
      obtain ⟨rfl, rfl, rfl, rfl⟩ := h
      rw [pairAt_ok h']; rfl
    · cases h
def runK (P : Program) (ty : Tag → Nat) (Γ : Nat → TK) (ren : List (Nat × Nat)) (cr : List (Nat × CR)) (ops rest : List Oper) (vc1 : List Prop) : Option (List Prop × St) → Option (List Prop × St)
  | some ([p, q], ⟨n, sl, hp⟩) => run P ty Γ ren cr ops rest ⟨n, sl, hp⟩ (p :: q :: vc1)
  | some ([p, q, r], ⟨n, sl, hp⟩) => run P ty Γ ren cr ops rest ⟨n, sl, hp⟩ (p :: q :: r :: vc1)
  | some (l, ⟨n, sl, hp⟩) => run P ty Γ ren cr ops rest ⟨n, sl, hp⟩ (l ++ vc1)
  | none => none
def fR : Option (List Prop × St) → Option (List Prop × St)
  | some (l, st) => match fSt st with | some st => some (l, st) | none => none
  | none => none
theorem fR_eq {x : Option (List Prop × St)} {y : List Prop × St} (h : fR x = some y) : x = some y := by
  unfold fR at h
  split at h
  · split at h
    · rename_i l st st2 hs
      simp only [Option.some.injEq] at h
      rw [← h, fSt_eq hs]
    · cases h
  · cases h
theorem runK_ok {P : Program} {Γ : Nat → TK} {ren : List (Nat × Nat)} {cr : List (Nat × CR)} {ops rest : List Oper} {vc1 : List Prop} {x : Option (List Prop × St)} {y : List Prop × St} (h : runK P ty Γ ren cr ops rest vc1 x = some y) :
    ∃ l st acc, x = some (l, st) ∧ run P ty Γ ren cr ops rest st acc = some y ∧ ∀ q, q ∈ l ++ vc1 → q ∈ acc := by
  unfold runK at h
  split at h
  · exact ⟨_, _, _, rfl, h, fun q hq => by simpa using hq⟩
  · exact ⟨_, _, _, rfl, h, fun q hq => by simpa using hq⟩
  · exact ⟨_, _, _, rfl, h, fun q hq => by simpa using hq⟩
  · cases h
/-- A region with such an append. -/
def regK (P : Program) (ty : Tag → Nat) (Γ : Nat → TK) (ren : List (Nat × Nat)) (cr : List (Nat × CR)) (ks : List Nat) (ix m0 : Nat) (ops : List Oper) : St → Option (List Prop × St)
  | ⟨n, sl0, hp0⟩ => match pairAt ix ops with
    | some (pre, o1, o2, rest) => match run P ty Γ ren cr ops pre ⟨n, sl0, hp0⟩ [] with
      | some (vc1, st1) => match runK P ty Γ ren cr ops rest vc1 (fR (eapk P ty Γ st1 m0 o1 o2)) with
        | some (vc, st') => match keepC n st' ks, Nat.beq st'.n n with
          | some st2, true => some (vc, st2)
          | _, _ => none
        | none => none
      | none => none
    | none => none
section
variable {P : Program} {Γ : Nat → TK} {zb : Base} {Q : Post} {st : St}
theorem W.regK (X : Ctx P ty Γ) (ren : List (Nat × Nat)) (cr : List (Nat × CR)) (ks : List Nat) (ix m0 : Nat) {id : Nat} {ops : List Oper} {vc : List Prop} {st' : St} (h : regK P ty Γ ren cr ks ix m0 ops st = some (vc, st')) (hv : AllP vc) (k : Q .normal st') :
    W P ty zb (.region id ops.toArray false) Q st := by
  intro a w iv
  obtain ⟨n, sl0, hp0⟩ := st
  unfold G.regK at h
  dsimp only at h
  split at h
  case h_2 => cases h
  rename_i pre o1 o2 rest hsp
  split at h
  case h_2 => cases h
  rename_i vc1 st1 hrun
  split at h
  case h_2 => cases h
  rename_i vc2 st2 hk
  split at h
  case h_2 => cases h
  rename_i st3 hkeep hn
  simp only [Option.some.injEq, Prod.mk.injEq] at h
  obtain ⟨rfl, rfl⟩ := h
  obtain ⟨l, st4, acc, he, hrun2, hacc⟩ := runK_ok hk
  have he := fR_eq he
  have hv := hv.out
  refine wp_region_lit ?_
  rw [show wpList P ops.toArray (Lift ty zb Q) ops a w = wpList P ops.toArray (Lift ty zb Q) (pre ++ o1 :: o2 :: rest) a w by rw [← pairAt_ok hsp]]
  refine run_ok2 X.kind X.one (fun a w iv => ?_) hrun (fun q hq => hv q (run_acc hrun2 q (hacc q (List.mem_append_right _ hq)))) iv
  refine eapk_ok X.kind he (fun q hq => hv q (run_acc hrun2 q (hacc q (List.mem_append_left _ hq)))) iv fun a w iv => ?_
  refine run_ok X.kind X.one (fun a w iv => ⟨_, ?_, k⟩) hrun2 hv iv
  unfold keepC at hkeep
  split at hkeep
  · rename_i sl hp h1 h2
    split at hkeep
    · rename_i hc
      simp only [Option.some.injEq] at hkeep
      subst hkeep
      exact iv.weaken (Nat.eq_of_beq_eq_true hn).symm (keepS_look h1) (keepH_look h2) hc
    · cases hkeep
  · cases hkeep
end
/-- A nil in a box's cell is a slice of the call's own, without elements. -/
def nilOwn (st : St) (b i m : Nat) (t : Tag) : Option St := match look st.hp b, pin m, look st.hp m with
  | some (.box c), false, none => match elt c i with
    | some (.lit (.slice none 0 0)) => fSt ⟨st.n, st.sl, (b, .box (c.set i (.own m))) :: (m, .arr t []) :: st.hp⟩
    | _ => none
  | _, _, _ => none
theorem All2.set' {R R' : V → Value → Prop} {y : V} (hm : ∀ a u, R a u → R' a u) : ∀ {c : List V} {cs : List Value} {i : Nat} {v : V}, All2 R c cs → elt c i = some v → (∀ u, R v u → R' y u) → All2 R' (c.set i y) cs
  | [], _, _, _, _, h, _ => by cases h
  | a :: r, [], _, _, h, _, _ => h.elim
  | a :: r, u :: us, 0, v, ⟨h1, h2⟩, h, hy => by
    simp only [elt, Option.some.injEq] at h
    subst h
    exact ⟨hy u h1, h2.mono fun a b _ h => hm a b h⟩
  | a :: r, u :: us, i + 1, v, ⟨h1, h2⟩, h, hy => ⟨hm a u h1, All2.set' hm h2 (by simpa [elt] using h) hy⟩
theorem nilOwn_ok {zb : Base} {st st' : St} {b i m : Nat} {t : Tag} (h : nilOwn st b i m t = some st') {a : Act} {w : World} (iv : Inv ty zb st a w) : Inv ty zb st' a w := by
  obtain ⟨env, g⟩ := iv.good
  have hB := iv.kept.size
  unfold nilOwn at h
  split at h
  case h_2 => cases h
  rename_i c hl hpm hlk
  split at h
  case h_2 => cases h
  rename_i he
  have h := fSt_eq h
  have hne : b ≠ m := by rintro rfl; rw [hl] at hlk; cases hlk
  have hN : News (ty := ty) w w st.hp [(m, .arr t [])] env (fun n => if n = m then ⟨nilv, []⟩ else env n) := by
    refine ⟨Below.refl _ _, fun n hn => ?_, fun n o hn => ?_, fun n n' o o' hne h1 h2 => ?_⟩
    · by_cases hnm : n = m
      · subst hnm; rw [look_eq] at hn; cases hn
      · simp [hnm]
    · by_cases hnm : n = m
      · subst hnm
        rw [look_eq] at hn
        simp only [Option.some.injEq] at hn
        subst hn
        simp only [if_true]
        exact ⟨RO.ofBld (Bld.nil _ _ _ _ _), by simp⟩
      · rw [look_ne hnm] at hn; cases hn
    · intro x hx
      by_cases hnm : n = m
      · subst hnm; simp at hx
      · rw [look_ne hnm] at h1; cases h1
  have g1 := Good.grow hB g (os := [(m, .arr t [])]) (by simp [fresh, hlk, hpm]) hN
  have hl1 : look ([(m, Obj.arr t [])] ++ st.hp) b = some (.box c) := by
    show look ((m, Obj.arr t []) :: st.hp) b = _
    rw [look_ne hne]; exact hl
  obtain ⟨b', cs, e, hco, hh, hc⟩ := g1.obj b _ hl1
  have g2 := good_box (off := 0) (us := []) (c' := c.set i (.own m)) g1 hl1 hco hh (Nat.zero_le _) (by
    simp only [List.take_zero, List.nil_append, Nat.zero_add, List.length_nil, List.drop_zero]
    refine All2.set' (fun _ _ h => h) hc he fun u hu => ?_
    obtain ⟨rfl, _⟩ := hu
    refine ⟨⟨t, [], look_eq⟩, ?_⟩
    simp only [if_true])
  rw [h]
  exact ⟨iv.size, iv.defers, iv.kept, iv.amb, _, g2⟩
theorem W.nilOwn {P : Program} {zb : Base} {Q : Post} {st st' : St} {c : Code} (b i m : Nat) (t : Tag) (h : G.nilOwn st b i m t = some st') (k : W P ty zb c Q st') : W P ty zb c Q st := fun a w iv => k a w (nilOwn_ok h iv)
/-- A box's slice gets another name. -/
def renameB (st : St) (b i m : Nat) : Option St := match look st.hp b with
  | some (.box c) => match elt c i with
    | some (.own n) => match look st.hp n, pinned [n], pin m, look (hkills [n] [] st.hp) m with
      | some (.arr t l), false, false, none => match st.gone [n] m t l with
        | ⟨nn, sl, hp⟩ => fSt ⟨nn, sl, (b, .box ((c.map fun v => v.kills [n] []).set i (.own m))) :: hp⟩
      | _, _, _, _ => none
    | _ => none
  | _ => none
theorem All2.setm {R R' : V → Value → Prop} {f : V → V} {y : V} (hm : ∀ a u, R a u → R' (f a) u) : ∀ {c : List V} {cs : List Value} {i : Nat} {v : V}, All2 R c cs → elt c i = some v → (∀ u, R v u → R' y u) → All2 R' ((c.map f).set i y) cs
  | [], _, _, _, _, h, _ => by cases h
  | a :: r, [], _, _, h, _, _ => h.elim
  | a :: r, u :: us, 0, v, ⟨h1, h2⟩, h, hy => by
    simp only [elt, Option.some.injEq] at h
    subst h
    exact ⟨hy u h1, h2.map hm⟩
  | a :: r, u :: us, i + 1, v, ⟨h1, h2⟩, h, hy => ⟨hm a u h1, All2.setm hm h2 (by simpa [elt] using h) hy⟩
theorem renameB_ok {zb : Base} {st st' : St} {b i m : Nat} (h : renameB st b i m = some st') {a : Act} {w : World} (iv : Inv ty zb st a w) : Inv ty zb st' a w := by
  obtain ⟨env, g⟩ := iv.good
  have hB := iv.kept.size
  unfold renameB at h
  split at h
  case h_2 => cases h
  rename_i c hbx
  split at h
  case h_2 => cases h
  rename_i n he
  split at h
  case h_2 => cases h
  rename_i t l hl hpk hpm hlk
  rw [St.gone_eq] at h
  have h := fSt_eq h
  have hsf : soft n = false := pinned_mem hpk (by simp)
  have hb := RO.bld hsf (g.obj n _ hl)
  have hvb : ∀ b, (env n).v.ownBlock = some b → b ∈ (env n).fp := by
    intro b hb'
    obtain ⟨xs, fps, _, _, _, hfp, _⟩ := hb
    rw [hfp, hb']; simp
  obtain ⟨env', hg', hv', hold, hfpm⟩ := good_app2 (ty := ty) g hB (ks := [n]) hpk hpm hlk (v := (env n).v) (v' := (env n).v) (w' := w) (fp := (env n).fp) (fx := []) (by
    intro b hb
    rw [List.append_nil] at hb
    exact ⟨n, _, by simp, hl, hb⟩) hvb hb ⟨rfl, rfl, rfl, Nat.le_refl _, fun _ _ _ => rfl⟩ (fun b hb => Or.inl hb)
  have hbn : b ≠ n := by rintro rfl; rw [hbx] at hl; cases hl
  have hbk : look (hkills [n] [] st.hp) b = some (.box (c.map fun v => v.kills [n] [])) := by
    rw [hkills_look, if_neg (by simpa using hbn), hbx]; rfl
  have hbm : b ≠ m := by rintro rfl; rw [hbk] at hlk; cases hlk
  have hb2 : look ((m, Obj.arr t l) :: hkills [n] [] st.hp) b = some (.box (c.map fun v => v.kills [n] [])) := by rw [look_ne hbm]; exact hbk
  obtain ⟨b', cs, e, hco, hh, hc⟩ := hg'.obj b _ hb2
  obtain ⟨b0, cs0, e0, hco0, hh0, hc0⟩ := g.obj b _ hbx
  have hbb : b' = b0 := by
    rw [hold b hbm, hco0] at hco
    simpa using hco.symm
  subst hbb
  have hcs : cs = cs0 := by
    rw [hh0] at hh
    simp at hh
    exact hh.1.symm
  subst hcs
  have s : Turn [n] [] w st.hp env w ((m, Obj.arr t l) :: hkills [n] [] st.hp) env' := by
    have hnm : ∀ x o, x ≠ n → look st.hp x = some o → x ≠ m := by
      rintro x o hx h1 rfl
      rw [hkills_look, if_neg (by simpa using hx), h1] at hlk; cases hlk
    refine ⟨fun _ _ _ => rfl, ?_, ?_, ?_⟩
    · rintro x hx ⟨y, o', h1, h2⟩
      by_cases hy : y = m
      · subst hy
        exact ⟨n, _, hl, by rw [← hfpm]; exact h2⟩
      · rw [hold y hy] at h2
        rw [look_ne hy, hkills_look] at h1
        split at h1
        · cases h1
        · cases hq : look st.hp y with
          | none => rw [hq] at h1; cases h1
          | some o => exact ⟨y, o, hq, h2⟩
    · intro x o hx h1
      have hx : x ≠ n := by simpa using hx
      have hxm := hnm x o hx h1
      exact ⟨o.kills [n] [], by rw [look_ne hxm, hkills_look, if_neg (by simpa using hx), h1]; rfl, by cases o <;> simp [Obj.like, Obj.kills], by rw [hold x hxm]⟩
    · rintro x t' l' ⟨hx, _⟩ h1
      have hx : x ≠ n := by simpa using hx
      have hxm := hnm x _ hx h1
      exact ⟨by rw [look_ne hxm, hkills_look, if_neg (by simpa using hx), h1]; rfl, by rw [hold x hxm], fun _ _ => rfl⟩
  have g2 := good_box (off := 0) (us := []) (c' := (c.map fun v => v.kills [n] []).set i (.own m)) hg' hb2 hco hh (Nat.zero_le _) (by
    simp only [List.take_zero, List.nil_append, Nat.zero_add, List.length_nil, List.drop_zero]
    refine All2.setm (fun v u h => RA.turn s h) hc0 he fun u hu => ?_
    obtain ⟨_, hu⟩ := hu
    exact ⟨⟨t, l, look_eq⟩, by rw [hu, hv']⟩)
  rw [h]
  exact ⟨iv.size, iv.defers, iv.kept, iv.amb, _, g2⟩
theorem W.renameB {P : Program} {zb : Base} {Q : Post} {st st' : St} {c : Code} (b i m : Nat) (h : G.renameB st b i m = some st') (k : W P ty zb c Q st') : W P ty zb c Q st := fun a w iv => k a w (renameB_ok h iv)
end Go.Proofs.YthjedjndamejmaaGreat.G
namespace Go.Proofs.YthjedjndamejmaaGreat.G
set_option linter.all false
open Go.RowKit L D
variable {ty : Tag → Nat}
/-- How a region's operations may come: phases of quiet operations (bits q), between them turns t, each with the bits d of the quiet ones that have run before it. -/
inductive Plan where
  | last (q : Nat)
  | ph (q : Nat) (c : Plan)
  | br (d t : Nat) (sub next : Plan)
  | nil
def Plan.brs : Plan → List (Nat × Nat × Plan)
  | .br d t sub next => (d, t, sub) :: next.brs
  | _ => []
def Plan.isph : Plan → Bool
  | .last _ => true
  | .ph _ _ => true
  | _ => false
/-- The quiet operations of a phase, in the text's order. -/
def runX (Γ : Nat → TK) (E : Tag → Nat → Prop) (S : FuncId → List S1 → List S1 → Prop) (ren : List (Nat × Nat)) (cr : List (Nat × CR)) (ops : List Oper) (q : Nat) : Nat → List Oper → St → Option (List TE × List (Nat × List Prop))
  | _, [], _ => some ([], [])
  | i, o :: r, ⟨n, sl, hp⟩ => match q.testBit i with
    | false => match runX Γ E S ren cr ops q (i + 1) r ⟨n, sl, hp⟩ with
      | some (tr, vq) => some (⟨0, .tup [], []⟩ :: tr, vq)
      | none => none
    | true => match o.dst with
      | some d => match sl.any (fun e => e.2.mentions d), qcore Γ E S ren cr ops ⟨n, sl, hp⟩ o with
        | false, some (vc, v, os) => match fS v, fHp os with
          | some v, some os => match runX Γ E S ren cr ops q (i + 1) r ⟨n, (d, v) :: sl, app1 os hp⟩ with
            | some (tr, vq) => some (⟨d, v, os⟩ :: tr, (i, vc) :: vq)
            | none => none
          | _, _ => none
        | _, _ => none
      | none => none
/-- Those of d have run. -/
def appD (d : Nat) : Nat → List TE → St → St
  | _, [], s => s
  | i, e :: r, s => match d.testBit i with
    | true => appD d (i + 1) r (app s e)
    | false => appD d (i + 1) r s
def insV (i : Nat) (vc : List Prop) : List (Nat × List Prop) → List (Nat × List Prop)
  | [] => [(i, vc)]
  | (j, v) :: r => match Nat.blt j i with
    | true => (i, vc) :: (j, v) :: r
    | false => (j, v) :: insV i vc r
def insD (d : Nat) : List (Nat × List Prop) → List (Nat × List Prop) → List (Nat × List Prop)
  | [], acc => acc
  | (i, vc) :: r, acc => match d.testBit i with
    | true => insD d r (insV i vc acc)
    | false => insD d r acc
def flatV : List (Nat × List Prop) → Option (List Prop)
  | [] => some []
  | (_, []) :: r => flatV r
  | (_, [p]) :: r => match flatV r with | some l => some (p :: l) | none => none
  | (_, [p, q]) :: r => match flatV r with | some l => some (p :: q :: l) | none => none
  | (_, l) :: r => match flatV r with | some l' => some (l ++ l') | none => none
theorem insV_mem {i : Nat} {vc : List Prop} : ∀ {l : List (Nat × List Prop)} {x : Nat × List Prop}, x ∈ insV i vc l ↔ x = (i, vc) ∨ x ∈ l
  | [], x => by simp [insV]
  | (j, v) :: r, x => by
    simp only [insV]
    split
    · simp
    · rw [List.mem_cons, List.mem_cons, insV_mem]
      constructor
      · rintro (h | h | h)
        · exact Or.inr (Or.inl h)
        · exact Or.inl h
        · exact Or.inr (Or.inr h)
      · rintro (h | h | h)
        · exact Or.inr (Or.inl h)
        · exact Or.inl h
        · exact Or.inr (Or.inr h)
theorem insD_mem {d : Nat} : ∀ {vq acc : List (Nat × List Prop)} {x : Nat × List Prop}, x ∈ insD d vq acc ↔ (x ∈ vq ∧ d.testBit x.1 = true) ∨ x ∈ acc
  | [], acc, x => by simp [insD]
  | (i, vc) :: r, acc, x => by
    simp only [insD]
    split
    · rename_i hb
      rw [insD_mem, insV_mem]
      constructor
      · rintro (⟨h1, h2⟩ | rfl | h)
        · exact Or.inl ⟨List.mem_cons_of_mem _ h1, h2⟩
        · exact Or.inl ⟨by simp, hb⟩
        · exact Or.inr h
      · rintro (⟨h1, h2⟩ | h)
        · rcases List.mem_cons.1 h1 with rfl | h1
          · exact Or.inr (Or.inl rfl)
          · exact Or.inl ⟨h1, h2⟩
        · exact Or.inr (Or.inr h)
    · rename_i hb
      rw [insD_mem]
      constructor
      · rintro (⟨h1, h2⟩ | h)
        · exact Or.inl ⟨List.mem_cons_of_mem _ h1, h2⟩
        · exact Or.inr h
      · rintro (⟨h1, h2⟩ | h)
        · rcases List.mem_cons.1 h1 with rfl | h1
          · simp only at h2; rw [h2] at hb; cases hb
          · exact Or.inl ⟨h1, h2⟩
        · exact Or.inr h
theorem flatV_mem : ∀ {l : List (Nat × List Prop)} {m : List Prop}, flatV l = some m → ∀ x, x ∈ l → ∀ q, q ∈ x.2 → q ∈ m
  | [], _, _, x, hx => by cases hx
  | (i, v) :: r, m, h, x, hx => by
    have key : ∃ l', flatV r = some l' ∧ m = v ++ l' := by
      unfold flatV at h
      split at h
      · rename_i he; cases he
      · rename_i he; simp only [List.cons.injEq, Prod.mk.injEq] at he; obtain ⟨⟨rfl, rfl⟩, rfl⟩ := he; exact ⟨m, h, rfl⟩
      · rename_i he
        simp only [List.cons.injEq, Prod.mk.injEq] at he; obtain ⟨⟨rfl, rfl⟩, rfl⟩ := he
        split at h
        · rename_i l' h1; simp only [Option.some.injEq] at h; exact ⟨l', h1, h.symm⟩
        · cases h
      · rename_i he
        simp only [List.cons.injEq, Prod.mk.injEq] at he; obtain ⟨⟨rfl, rfl⟩, rfl⟩ := he
        split at h
        · rename_i l' h1; simp only [Option.some.injEq] at h; exact ⟨l', h1, h.symm⟩
        · cases h
      · rename_i he
        simp only [List.cons.injEq, Prod.mk.injEq] at he; obtain ⟨⟨rfl, rfl⟩, rfl⟩ := he
        split at h
        · rename_i l' h1; simp only [Option.some.injEq] at h; exact ⟨l', h1, h.symm⟩
        · cases h
    obtain ⟨l', h1, rfl⟩ := key
    intro q hq
    rcases List.mem_cons.1 hx with rfl | hx
    · exact List.mem_append_left _ hq
    · exact List.mem_append_right _ (flatV_mem h1 x hx q hq)
/-- All ways of a plan: what must hold, the state behind. -/
def execX (P : Program) (ty : Tag → Nat) (Γ : Nat → TK) (ren : List (Nat × Nat)) (cr : List (Nat × CR)) (ks hs : List Nat) (ops : List Oper) (n0 : Nat) : Plan → St → List TE → List (Nat × List Prop) → List (Nat × List Prop) → Option (List (List Prop × St))
  | .last q, s, _, _, acc => match runX Γ (Elt P ty) (Sound ty P) ren cr ops q 0 ops s with
    | some (tr, vq) => match fSt (appD q 0 tr s) with
      | some ⟨n, sl1, hp1⟩ => match keepS sl1 ks, keepH hp1 (autoH sl1 hp1 ks hs), flatV (insD q vq acc) with
        | some sl, some hp, some vc => match closedk sl hp, Nat.beq n n0 with
          | true, true => some [(vc, ⟨n0, sl, hp⟩)]
          | _, _ => none
        | _, _, _ => none
      | none => none
    | none => none
  | .ph q c, s, _, _, acc => match runX Γ (Elt P ty) (Sound ty P) ren cr ops q 0 ops s with
    | some (tr, vq) => execX P ty Γ ren cr ks hs ops n0 c s tr vq acc
    | none => none
  | .br d t sub next, s, tr, vq, acc => match fSt (appD d 0 tr s), ops[t]? with
    | some s1, some o => match step P ty Γ ren cr ops s1 o with
      | some (vc, s2) => match fSt s2 with
        | some s2 => match execX P ty Γ ren cr ks hs ops n0 sub s2 [] [] (insV t vc (insD d vq acc)), execX P ty Γ ren cr ks hs ops n0 next s tr vq acc with
          | some l1, some l2 => some (app1 l1 l2)
          | _, _ => none
        | none => none
      | none => none
    | _, _ => none
  | .nil, _, _, _, _ => some []
/-! ### The plan against the edges -/
/-- The bits that may have run before t. -/
def enumX (ops : List Oper) (B q must : Nat) : Nat → Nat → Nat → List Nat
  | 0, _, d => [d]
  | m + 1, i, d => match q.testBit i with
    | false => enumX ops B q must m (i + 1) d
    | true => (match ((ops[i]?).map fun o => (edges o).all fun j => B.testBit j || d.testBit j).getD false with
      | true => enumX ops B q must m (i + 1) (d ||| 2 ^ i)
      | false => []) ++ (match must.testBit i with
      | true => []
      | false => enumX ops B q must m (i + 1) d)
/-- A phase: q is all that is quiet and may run behind B; nothing of an operation's operands is written beside it. -/
def phok (ops : List Oper) (cl : List Nat) (A : List (Nat × Oper)) (qs B q : Nat) : Bool :=
  A.all fun e => (!(q.testBit e.1) || !(B.testBit e.1)) &&
    (B.testBit e.1 || q.testBit e.1 || !(qs.testBit e.1) || !((edges e.2).all fun j => B.testBit j || q.testBit j)) &&
    (!(q.testBit e.1) ||
      ((tmpsOf e.2).all fun t => A.all fun f => !(q.testBit f.1) || !(dstIs f.2 t) || Nat.beq f.1 e.1 || (cl.getD e.1 0).testBit f.1 || (Nat.blt e.1 f.1 && (cl.getD f.1 0).testBit e.1)) &&
      (match e.2.guard with
        | none => true
        | some (j, _) => (edges e.2).any (Nat.beq j)) &&
      (match e.2.dst with
        | some d => A.all fun f => Nat.beq f.1 e.1 || !(dstIs f.2 d)
        | none => false) && (edges e.2).all fun j => B.testBit j || q.testBit j)
/-- Every turn that may come is there, with whatever may have run. -/
def coverX (ops : List Oper) (cl : List Nat) (n B q : Nat) (c : Plan) : Bool :=
  (List.range n).all fun t => B.testBit t || q.testBit t ||
    (enumX ops B q (cl.getD t 0) n 0 0).all fun d => !(((ops[t]?).map fun o => (edges o).all fun j => B.testBit j || d.testBit j).getD false) || c.brs.any fun b => Nat.beq b.1 d && Nat.beq b.2.1 t
def okX (ops : List Oper) (cl : List Nat) (A : List (Nat × Oper)) (qs n : Nat) : Nat → Plan → Bool
  | B, .last q => phok ops cl A qs B q && (List.range n).all fun i => B.testBit i || q.testBit i
  | B, .ph q c => phok ops cl A qs B q && coverX ops cl n B q c && !((List.range n).all fun i => B.testBit i || q.testBit i) && okX ops cl A qs n B c
  | B, .br d t sub next => sub.isph && Nat.blt t n && okX ops cl A qs n (B ||| d ||| 2 ^ t) sub && okX ops cl A qs n B next
  | _, .nil => true
def chkX (ops : List Oper) (qs : Nat) (p : Plan) : Bool :=
  ((idx 0 ops).all fun e => (edges e.2).all fun j => Nat.blt j e.1) && p.isph && okX ops (clo ops) (idx 0 ops) qs ops.length 0 p

section
variable {inD D : Nat → Bool} {tr : List TE} {s : St}
theorem mkD_cons_out (inD : Nat → Bool) (e : TE) (tr : List TE) (s : St) (h : inD 0 = false) : ∀ i, mkD inD (e :: tr) s (i + 1) = mkD (fun j => inD (j + 1)) tr s i
  | 0 => by simp [mkD, h]
  | i + 1 => by
    rw [mkD, mkD_cons_out inD e tr s h i, mkD]
    simp only [List.getElem?_cons_succ]
theorem appD_mkD (d : Nat) : ∀ (tr : List TE) (k : Nat) (s : St), appD d k tr s = mkD (fun i => d.testBit (k + i)) tr s tr.length
  | [], _, _ => rfl
  | e :: r, k, s => by
    have hf : (fun j => d.testBit (k + (j + 1))) = fun i => d.testBit (k + 1 + i) := by funext j; congr 1; omega
    simp only [appD]
    split
    · rename_i h
      rw [appD_mkD d r (k + 1) (app s e), List.length_cons, mkD_cons _ e r s (by simpa using h), hf]
    · rename_i h
      rw [appD_mkD d r (k + 1) s, List.length_cons, mkD_cons_out _ e r s (by simpa using h), hf]
theorem mkD_congr {D' : Nat → Bool} : ∀ {n : Nat}, (∀ i, i < n → D i = D' i) → mkD D tr s n = mkD D' tr s n
  | 0, _ => rfl
  | n + 1, h => by rw [mkD, mkD, mkD_congr (n := n) fun i hi => h i (by omega), h n (by omega)]
theorem mkD_none : ∀ {n : Nat}, mkD (fun _ => false) tr s n = s
  | 0 => rfl
  | n + 1 => by rw [mkD_succ_out rfl, mkD_none]
theorem mkD_sl_base : ∀ {i : Nat} {x : Nat × SV}, x ∈ s.sl → x ∈ (mkD D tr s i).sl
  | 0, _, h => h
  | i + 1, x, h => by
    rw [mkD]
    split
    · exact List.mem_cons_of_mem _ (mkD_sl_base h)
    · exact mkD_sl_base h
/-- Every operation's objects are new where the text's order comes to it. -/
def FreshX (Qb : Nat → Bool) (tr : List TE) (s : St) (m : Nat) : Prop := ∀ i e, i < m → Qb i = true → tr[i]? = some e → ∀ n o, look e.os n = some o → look (mkD Qb tr s i).hp n = none
variable {Qb : Nat → Bool}
theorem preX_mono {m : Nat} (hf : FreshX Qb tr s m) : ∀ {j i : Nat}, i ≤ j → j ≤ m → ∀ {n o}, look (mkD Qb tr s i).hp n = some o → look (mkD Qb tr s j).hp n = some o
  | 0, i, hi, _, n, o, h => by
    have : i = 0 := by omega
    subst this; exact h
  | j + 1, i, hi, hm, n, o, h => by
    by_cases hij : i = j + 1
    · subst hij; exact h
    · have ih := preX_mono hf (j := j) (i := i) (by omega) (by omega) h
      rw [mkD]
      split
      · rename_i e' h1 h2
        show look (e'.os ++ (mkD Qb tr s j).hp) n = _
        cases hq : look e'.os n with
        | none => rw [look_app_none hq]; exact ih
        | some o' =>
          have := hf j e' (by omega) h1 h2 n o' hq
          rw [this] at ih; cases ih
      · exact ih
theorem mkDX_pre {m : Nat} (hf : FreshX Qb tr s m) (hD : ∀ i, D i = true → Qb i = true) : ∀ {i : Nat}, i ≤ m → ∀ {n o}, look (mkD D tr s i).hp n = some o → look (mkD Qb tr s i).hp n = some o
  | 0, _, n, o, h => h
  | i + 1, hm, n, o, h => by
    rw [mkD] at h
    split at h
    · rename_i e' h1 h2
      have h : look (e'.os ++ (mkD D tr s i).hp) n = some o := h
      rw [mkD_succ_in (hD i h1) h2]
      show look (e'.os ++ (mkD Qb tr s i).hp) n = some o
      cases hq : look e'.os n with
      | none => rw [look_app_none hq] at h ⊢; exact mkDX_pre hf hD (by omega) h
      | some o' => rw [look_app_some hq] at h ⊢; exact h
    · exact preX_mono hf (Nat.le_succ i) hm (mkDX_pre hf hD (by omega) h)
theorem mkDX_base {m : Nat} (hf : FreshX Qb tr s m) (hD : ∀ i, D i = true → Qb i = true) : ∀ {i : Nat}, i ≤ m → ∀ {n o}, look s.hp n = some o → look (mkD D tr s i).hp n = some o
  | 0, _, n, o, h => h
  | i + 1, hm, n, o, h => by
    have ih := mkDX_base hf hD (i := i) (by omega) h
    rw [mkD]
    split
    · rename_i e' h1 h2
      show look (e'.os ++ (mkD D tr s i).hp) n = some o
      cases hq : look e'.os n with
      | none => rw [look_app_none hq]; exact ih
      | some o' =>
        have h3 := hf i e' (by omega) (hD i h1) h2 n o' hq
        have h4 := mkDX_pre hf hD (by omega) ih
        rw [h3] at h4; cases h4
    · exact ih
theorem mkDX_in {m : Nat} (hf : FreshX Qb tr s m) (hD : ∀ i, D i = true → Qb i = true) : ∀ {i : Nat}, i ≤ m → ∀ {j : Nat} {e : TE} {n : Nat} {o : Obj}, j < i → D j = true → tr[j]? = some e → look e.os n = some o → look (mkD D tr s i).hp n = some o
  | i + 1, hm, j, e, n, o, hj, hin, he, h => by
    by_cases hij : j = i
    · subst hij
      rw [mkD_succ_in hin he]
      exact look_app_some h
    · have ih := mkDX_in hf hD (i := i) (by omega) (j := j) (by omega) hin he h
      rw [mkD]
      split
      · rename_i e' h1 h2
        show look (e'.os ++ (mkD D tr s i).hp) n = some o
        cases hq : look e'.os n with
        | none => rw [look_app_none hq]; exact ih
        | some o' =>
          have h3 := hf i e' (by omega) (hD i h1) h2 n o' hq
          have h4 := mkDX_pre hf hD (by omega) ih
          rw [h3] at h4; cases h4
      · exact ih
end
/-- What the text's order has made of a phase's quiet operations. -/
structure TrX (Γ : Nat → TK) (E : Tag → Nat → Prop) (S : FuncId → List S1 → List S1 → Prop) (ren : List (Nat × Nat)) (cr : List (Nat × CR)) (ops : List Oper) (q : Nat) (s : St) (tr : List TE) (vq : List (Nat × List Prop)) : Prop where
  len : tr.length = ops.length
  one : ∀ i, i < ops.length → q.testBit i = true → ∃ o e vc, ops[i]? = some o ∧ tr[i]? = some e ∧ o.dst = some e.d ∧ ((mkD (fun j => q.testBit j) tr s i).sl.any fun x => x.2.mentions e.d) = false ∧ qcore Γ E S ren cr ops (mkD (fun j => q.testBit j) tr s i) o = some (vc, e.v, e.os) ∧ (i, vc) ∈ vq
theorem runX_trace {Γ : Nat → TK} {E : Tag → Nat → Prop} {S : FuncId → List S1 → List S1 → Prop} {ren : List (Nat × Nat)} {cr : List (Nat × CR)} {ops : List Oper} {q : Nat} : ∀ {l : List Oper} {k : Nat} {st : St} {tr : List TE} {vq : List (Nat × List Prop)}, runX Γ E S ren cr ops q k l st = some (tr, vq) → (∀ i o, l[i]? = some o → ops[k + i]? = some o) →
    tr.length = l.length ∧ ∀ i, i < l.length → q.testBit (k + i) = true → ∃ o e vc, ops[k + i]? = some o ∧ tr[i]? = some e ∧ o.dst = some e.d ∧ ((mkD (fun j => q.testBit (k + j)) tr st i).sl.any fun x => x.2.mentions e.d) = false ∧ qcore Γ E S ren cr ops (mkD (fun j => q.testBit (k + j)) tr st i) o = some (vc, e.v, e.os) ∧ (k + i, vc) ∈ vq
  | [], k, st, tr, vq, h, _ => by
    simp only [runX, Option.some.injEq, Prod.mk.injEq] at h
    exact ⟨by rw [← h.1]; rfl, fun i hi => absurd hi (by simp)⟩
  | o :: r, k, ⟨n, sl, hp⟩, tr, vq, h, hk => by
    have hk' : ∀ i o', r[i]? = some o' → ops[k + 1 + i]? = some o' := fun i o' ho => by
      have := hk (i + 1) o' (by simpa using ho)
      rw [show k + 1 + i = k + (i + 1) by omega]; exact this
    have hf : (fun j => q.testBit (k + (j + 1))) = fun i => q.testBit (k + 1 + i) := by funext j; congr 1; omega
    simp only [runX] at h
    split at h
    · rename_i hb
      split at h
      case h_2 => cases h
      rename_i tr' vq' h2
      simp only [Option.some.injEq, Prod.mk.injEq] at h
      obtain ⟨rfl, rfl⟩ := h
      obtain ⟨q1, q2⟩ := runX_trace h2 hk'
      refine ⟨by simp [q1], fun i hi hq => ?_⟩
      cases i with
      | zero => rw [Nat.add_zero, hb] at hq; cases hq
      | succ i =>
        obtain ⟨o', e', vc', p1, p2, p3, p4, p5, p6⟩ := q2 i (by simpa using hi) (by rw [show k + 1 + i = k + (i + 1) by omega]; exact hq)
        refine ⟨o', e', vc', by rw [show k + (i + 1) = k + 1 + i by omega]; exact p1, by simpa using p2, p3, ?_, ?_, by rw [show k + (i + 1) = k + 1 + i by omega]; exact p6⟩
        · rw [mkD_cons_out _ _ tr' _ (by simpa using hb) i, hf]; exact p4
        · rw [mkD_cons_out _ _ tr' _ (by simpa using hb) i, hf]; exact p5
    · rename_i hb
      split at h
      case h_2 => cases h
      rename_i d hd
      split at h
      case h_2 => cases h
      rename_i vc v os hm hq0
      split at h
      case h_2 => cases h
      rename_i v2 os2 hv2 hos2
      have hv2 := fS_eq hv2
      have hos2 := fHp_eq hos2
      subst hv2; subst hos2
      split at h
      case h_2 => cases h
      rename_i tr' vq' h2
      simp only [Option.some.injEq, Prod.mk.injEq] at h
      obtain ⟨rfl, rfl⟩ := h
      rw [app1_eq] at h2
      obtain ⟨q1, q2⟩ := runX_trace h2 hk'
      refine ⟨by simp [q1], fun i hi hq => ?_⟩
      cases i with
      | zero => exact ⟨o, ⟨d, v2, os2⟩, vc, hk 0 o rfl, rfl, hd, hm, hq0, by simp⟩
      | succ i =>
        obtain ⟨o', e', vc', p1, p2, p3, p4, p5, p6⟩ := q2 i (by simpa using hi) (by rw [show k + 1 + i = k + (i + 1) by omega]; exact hq)
        have hc := mkD_cons (fun j => q.testBit (k + j)) ⟨d, v2, os2⟩ tr' ⟨n, sl, hp⟩ (by simpa using hb) i
        refine ⟨o', e', vc', by rw [show k + (i + 1) = k + 1 + i by omega]; exact p1, by simpa using p2, p3, ?_, ?_, by rw [show k + (i + 1) = k + 1 + i by omega]; exact List.mem_cons_of_mem _ p6⟩
        · rw [hc, hf]; exact p4
        · rw [hc, hf]; exact p5
theorem TrX.of {Γ : Nat → TK} {E : Tag → Nat → Prop} {S : FuncId → List S1 → List S1 → Prop} {ren : List (Nat × Nat)} {cr : List (Nat × CR)} {ops : List Oper} {q : Nat} {s : St} {tr : List TE} {vq : List (Nat × List Prop)} (h : runX Γ E S ren cr ops q 0 ops s = some (tr, vq)) : TrX Γ E S ren cr ops q s tr vq := by
  obtain ⟨h1, h2⟩ := runX_trace h (fun i o ho => by simpa using ho)
  refine ⟨h1, fun i hi hq => ?_⟩
  have := h2 i hi (by simpa using hq)
  simpa using this
/-- What the look at a phase gives. -/
structure PhX (ops : List Oper) (qs B q : Nat) : Prop where
  back : ∀ i o, ops[i]? = some o → ∀ j, j ∈ edges o → j < i
  dis : ∀ i, i < ops.length → q.testBit i = true → B.testBit i = false
  full : ∀ i o, ops[i]? = some o → B.testBit i = false → qs.testBit i = true → (∀ j, j ∈ edges o → B.testBit j = true ∨ q.testBit j = true) → q.testBit i = true
  uses : ∀ i o, q.testBit i = true → ops[i]? = some o → ∀ t, t ∈ tmpsOf o → ∀ k o', q.testBit k = true → ops[k]? = some o' → o'.dst = some t → k = i ∨ ((clo ops).getD i 0).testBit k = true ∨ (i < k ∧ ((clo ops).getD k 0).testBit i = true)
  guard : ∀ i o j x, q.testBit i = true → ops[i]? = some o → o.guard = some (j, x) → j ∈ edges o
  dist : ∀ i o k o' d, q.testBit i = true → ops[i]? = some o → ops[k]? = some o' → o.dst = some d → o'.dst = some d → k = i
  clq : ∀ i o, q.testBit i = true → ops[i]? = some o → ∀ j, j ∈ edges o → (B.testBit j = true ∨ q.testBit j = true)
theorem backX {ops : List Oper} (h : ((idx 0 ops).all fun e => (edges e.2).all fun j => Nat.blt j e.1) = true) : ∀ i o, ops[i]? = some o → ∀ j, j ∈ edges o → j < i := by
  intro i o ho j hj
  simp only [List.all_eq_true] at h
  have := h _ (by simpa using idx_get (l := ops) (k := 0) ho) j hj
  exact Nat.le_of_ble_eq_true this
theorem phok_ok {ops : List Oper} {qs B q : Nat} (hb : ∀ i o, ops[i]? = some o → ∀ j, j ∈ edges o → j < i) (h : phok ops (clo ops) (idx 0 ops) qs B q = true) : PhX ops qs B q := by
  simp only [phok, List.all_eq_true, Bool.and_eq_true, Bool.or_eq_true, Bool.not_eq_true'] at h
  have hA : ∀ {i o}, ops[i]? = some o → (i, o) ∈ idx 0 ops := by
    intro i o ho
    simpa using idx_get (l := ops) (k := 0) ho
  have hdi : ∀ {o : Oper} {t : Nat}, o.dst = some t → dstIs o t = true := by intro o t hd; simp [dstIs, hd]
  refine ⟨hb, fun i hi hq => ?_, fun i o ho hB hqs he => ?_, fun i o hq ho t ht k o' hqk ho' hd => ?_, fun i o j x hq ho hg => ?_, fun i o k o' d hq ho ho' hd hd' => ?_, fun i o hq ho j hj => ?_⟩
  · rcases (h _ (hA (List.getElem?_eq_getElem hi))).1.1 with h1 | h1
    · simp only at h1; rw [hq] at h1; cases h1
    · exact h1
  · rcases (h _ (hA ho)).1.2 with ((h1 | h1) | h1) | h1
    · simp only at h1; rw [hB] at h1; cases h1
    · exact h1
    · simp only at h1; rw [hqs] at h1; cases h1
    · exfalso
      have : ((edges o).all fun j => B.testBit j || q.testBit j) = true := by
        rw [List.all_eq_true]; intro j hj
        rcases he j hj with h | h
        · rw [h]; rfl
        · rw [h]; simp
      simp only at h1
      rw [this] at h1; cases h1
  · rcases (h _ (hA ho)).2 with h1 | h1
    · simp only at h1; rw [hq] at h1; cases h1
    · rcases h1.1.1.1 t ht _ (hA ho') with (((h2 | h2) | h2) | h2) | h2
      · simp only at h2; rw [hqk] at h2; cases h2
      · rw [hdi hd] at h2; cases h2
      · exact Or.inl (Nat.eq_of_beq_eq_true h2)
      · exact Or.inr (Or.inl h2)
      · exact Or.inr (Or.inr ⟨Nat.le_of_ble_eq_true h2.1, h2.2⟩)
  · rcases (h _ (hA ho)).2 with h1 | h1
    · simp only at h1; rw [hq] at h1; cases h1
    · have h2 := h1.1.1.2
      simp only [hg, List.any_eq_true] at h2
      obtain ⟨y, hy, h3⟩ := h2
      rw [Nat.eq_of_beq_eq_true h3]; exact hy
  · rcases (h _ (hA ho)).2 with h1 | h1
    · simp only at h1; rw [hq] at h1; cases h1
    · have h2 := h1.1.2
      simp only [hd, List.all_eq_true, Bool.or_eq_true, Bool.not_eq_true'] at h2
      rcases h2 _ (hA ho') with h3 | h3
      · exact Nat.eq_of_beq_eq_true h3
      · rw [hdi hd'] at h3; cases h3
  · rcases (h _ (hA ho)).2 with h1 | h1
    · simp only at h1; rw [hq] at h1; cases h1
    · exact h1.2 j hj
end Go.Proofs.YthjedjndamejmaaGreat.G
namespace Go.Proofs.YthjedjndamejmaaGreat.G
set_option linter.all false
open Go.RowKit L D
variable {ty : Tag → Nat}
section
variable {P : Program} {Γ : Nat → TK} {ren : List (Nat × Nat)} {cr : List (Nat × CR)} {ops : List Oper} {s : St} {tr : List TE} {vq : List (Nat × List Prop)} {qs B q : Nat}
theorem TrX.fresh {E : Tag → Nat → Prop} {S : FuncId → List S1 → List S1 → Prop} (T : TrX Γ E S ren cr ops q s tr vq) : FreshX (fun j => q.testBit j) tr s ops.length := by
  intro i e hi hq he n x hl
  obtain ⟨o, e', vc, _, he', _, _, hqc, _⟩ := T.one i hi hq
  rw [he] at he'
  simp only [Option.some.injEq] at he'
  subst he'
  obtain ⟨p, _, _, _, hf⟩ := qcore_path hqc
  exact (hf n x hl).1
theorem TrX.path {E : Tag → Nat → Prop} {S : FuncId → List S1 → List S1 → Prop} (T : TrX Γ E S ren cr ops q s tr vq) (K : PhX ops qs B q) : ∀ (i : Nat), i < ops.length → q.testBit i = true → ∀ o p, ops[i]? = some o → guardp (mkD (fun j => q.testBit j) tr s i) ops o = some p → ∀ e, e ∈ p →
    ∀ k o', q.testBit k = true → ops[k]? = some o' → o'.dst = some e.1 → ∀ D : Nat → Prop, (∀ i o, D i → ops[i]? = some o → ∀ j, j ∈ edges o → D j) → (∀ j, j ∈ edges o → D j) → D k := by
  intro i
  induction i using Nat.strongRecOn with
  | _ i ih =>
    intro hi hqi o p ho hg e he k o' hqk hok hdk D hD hE
    have hkl : k < ops.length := (List.getElem?_eq_some_iff.1 hok).1
    unfold guardp at hg
    split at hg
    · simp at hg; subst hg; simp at he
    · rename_i j x hgd
      have hje := K.guard i o j x hqi ho hgd
      have hji := K.back i o ho j hje
      split at hg
      case h_2 => cases hg
      rename_i qj hqj
      split at hg
      case h_2 => cases hg
      rename_i d hdj
      -- the guard's own slot
      have base : e.1 = d → D k := by
        intro hed
        have : j = k := K.dist k o' j qj d hqk hok hqj (by rw [hdk, hed]) hdj
        rw [← this]; exact hE j hje
      split at hg
      · simp only [Option.some.injEq] at hg
        subst hg
        simp only [List.mem_singleton] at he
        exact base (by rw [he])
      · rename_i p' b hsl
        simp only [Option.some.injEq] at hg
        subst hg
        rcases List.mem_cons.1 he with h | h
        · exact base (by rw [h])
        · by_cases hqq : q.testBit j = true
          · obtain ⟨q2, ej, vcj, hq2, hej, hdj2, _, hqc, _⟩ := T.one j (by omega) hqq
            rw [hqj] at hq2
            simp only [Option.some.injEq] at hq2
            subst hq2
            rw [hdj] at hdj2
            simp only [Option.some.injEq] at hdj2
            subst hdj2
            have hsl2 : look (mkD (fun j => q.testBit j) tr s i).sl ej.d = some ej.v := by
              refine mkD_slot hji hqq hej fun j' e' h1 h2 h3 h4 => ?_
              obtain ⟨q', e2, _, hq', he2, hd2, _⟩ := T.one j' (by omega) h2
              rw [h3] at he2
              simp only [Option.some.injEq] at he2
              subst he2
              exact K.dist j _ j' q' ej.d hqq hqj hq' hdj (by rw [hd2, h4])
            rw [hsl2] at hsl
            simp only [Option.some.injEq] at hsl
            obtain ⟨pj, hgj, hp0, hp1, _⟩ := qcore_path hqc
            have hpj : pj = p' := by
              by_cases hnil : pj = []
              · exact absurd hsl (hp0 hnil _ _)
              · obtain ⟨x', hx'⟩ := (hp1 hnil).1
                rw [hx'] at hsl
                simp only [SV.cond.injEq] at hsl
                exact hsl.1
            subst hpj
            exact ih j hji (by omega) hqq _ pj hqj hgj e h k o' hqk hok hdk D hD (hD j _ (hE j hje) hqj)
          · -- the path lies in the state before
            exfalso
            have hsl2 : look (mkD (fun j => q.testBit j) tr s i).sl d = look s.sl d := by
              refine mkD_base fun j' e' h1 h2 h3 h4 => ?_
              obtain ⟨q', e2, _, hq', he2, hd2, _⟩ := T.one j' (by omega) h2
              rw [h3] at he2
              simp only [Option.some.injEq] at he2
              subst he2
              have := K.dist j' q' j qj d h2 hq' hqj (by rw [hd2, h4]) hdj
              subst this
              exact hqq h2
            rw [hsl2] at hsl
            obtain ⟨q2, ek, vck, hq2, hek, hdk2, hnm, _, _⟩ := T.one k hkl hqk
            rw [hok] at hq2
            simp only [Option.some.injEq] at hq2
            subst hq2
            rw [hdk] at hdk2
            simp only [Option.some.injEq] at hdk2
            rw [List.any_eq_false] at hnm
            refine hnm (d, .cond p' (.a (.lit (.bool b)))) (mkD_sl_base (look_mem hsl)) ?_
            simp only [SV.mentions, List.any_eq_true]
            exact ⟨e, h, by rw [hdk2]; simp⟩
      · cases hg
/-- One of a phase's quiet operations runs. -/
theorem drawX_step (C : ∀ t, TKok P t (Γ t)) (T : TrX Γ (Elt P ty) (Sound ty P) ren cr ops q s tr vq) (K : PhX ops qs B q) (hv : ∀ x, x ∈ vq → q.testBit x.1 = true → x.1 < ops.length → ∀ p, p ∈ x.2 → p) {zb : Base} {Q : Exit → Act → World → Prop} {D : Nat → Bool} (hDq : ∀ i, D i = true → q.testBit i = true) (hDm : ∀ i, D i = true → i < ops.length)
    (hDc : ∀ i o, (B.testBit i = true ∨ D i = true) → ops[i]? = some o → ∀ j, j ∈ edges o → (B.testBit j = true ∨ D j = true))
    {i : Nat} (hqi : q.testBit i = true) (hDi : D i = false) {o : Oper} (ho : ops[i]? = some o) (hE : ∀ j, j ∈ edges o → (B.testBit j = true ∨ D j = true)) {a : Act} {w : World} (iv : Inv ty zb (mkD D tr s ops.length) a w) :
    Runs P ops.toArray o a w (fun a' w' => Inv ty zb (mkD (fun j => D j || j == i) tr s ops.length) a' w') Q := by
  have hi : i < ops.length := (List.getElem?_eq_some_iff.1 ho).1
  obtain ⟨o', e, vc, ho', he, hd, hnm, hq, hvc⟩ := T.one i hi hqi
  rw [ho] at ho'
  simp only [Option.some.injEq] at ho'
  subst ho'
  have hfr := T.fresh
  have hlist : ∀ {k}, q.testBit k = true → k < ops.length → (B.testBit k = true ∨ D k = true) → D k = true := by
    intro k hk hkl h
    rcases h with h | h
    · rw [K.dis k hkl hk] at h; cases h
    · exact h
  have hclo : ∀ {x}, ((clo ops).getD i 0).testBit x = true → (B.testBit x = true ∨ D x = true) := fun h => clo_ok (D := fun j => B.testBit j = true ∨ D j = true) K.back hDc i o ho hE _ h
  have hcloi : ∀ {x}, ((clo ops).getD i 0).testBit x = true → x < i := fun h => clo_ok (D := fun j => j < i) K.back (fun a b hab hb j hj => Nat.lt_trans (K.back a b hb j hj) hab) i o ho (fun j hj => K.back i o ho j hj) _ h
  have hdist : ∀ {j e'}, j < ops.length → q.testBit j = true → tr[j]? = some e' → ∃ q, ops[j]? = some q ∧ q.dst = some e'.d := by
    intro j e' hj hqj he'
    obtain ⟨q, e2, _, hq', he2, hd2, _⟩ := T.one j hj hqj
    rw [he'] at he2
    simp only [Option.some.injEq] at he2
    subst he2
    exact ⟨q, hq', hd2⟩
  have huniq : ∀ {j j' : Nat} {e1 e2 : TE}, j < ops.length → j' < ops.length → q.testBit j = true → q.testBit j' = true → tr[j]? = some e1 → tr[j']? = some e2 → e2.d = e1.d → j' = j := by
    intro j j' e1 e2 h1 h2 g1 g2 h3 h4 h5
    obtain ⟨q1, p1, p2⟩ := hdist h1 g1 h3
    obtain ⟨q2, p3, p4⟩ := hdist h2 g2 h4
    exact K.dist j q1 j' q2 e1.d g1 p1 p3 p2 (by rw [p4, h5])
  -- where both states agree
  have agree : ∀ t, (∀ k o', k < ops.length → q.testBit k = true → ops[k]? = some o' → o'.dst = some t → k = i ∨ (k < i ∧ D k = true) ∨ (i < k ∧ D k = false)) → look (mkD (fun j => q.testBit j) tr s i).sl t = look (mkD D tr s ops.length).sl t := by
    intro t ht
    by_cases hex : ∃ k e', k < i ∧ D k = true ∧ tr[k]? = some e' ∧ e'.d = t
    · obtain ⟨k, e', hk, hDk, he', rfl⟩ := hex
      rw [mkD_slot hk (hDq k hDk) he' fun j' e2 h1 h2 h3 h4 => huniq (by omega) (by omega) (hDq k hDk) h2 he' h3 h4, mkD_slot (by omega) hDk he' fun j' e2 h1 h2 h3 h4 => huniq (by omega) h1 (hDq k hDk) (hDq j' h2) he' h3 h4]
    · rw [mkD_base (fun k e' hk hqk he' hdt => by
          obtain ⟨q', h1, h2⟩ := hdist (by omega) hqk he'
          rcases ht k q' (by omega) hqk h1 (by rw [h2, hdt]) with h | h | h
          · omega
          · exact hex ⟨k, e', hk, h.2, he', hdt⟩
          · omega),
        mkD_base (fun k e' hk hDk he' hdt => by
          obtain ⟨q', h1, h2⟩ := hdist hk (hDq k hDk) he'
          rcases ht k q' hk (hDq k hDk) h1 (by rw [h2, hdt]) with h | h | h
          · subst h; rw [hDi] at hDk; cases hDk
          · exact hex ⟨k, e', h.1, h.2, he', hdt⟩
          · rw [h.2] at hDk; cases hDk)]
  obtain ⟨p, hgp, hp0, hp1, hpin⟩ := qcore_path hq
  have hpagree : ∀ x, x ∈ p → look (mkD (fun j => q.testBit j) tr s i).sl x.1 = look (mkD D tr s ops.length).sl x.1 := by
    intro x hx
    refine agree x.1 fun k o2 hkl hqk ho2 hd2 => Or.inr (Or.inl ⟨?_, hlist hqk hkl ?_⟩)
    · exact T.path K i hi hqi o p ho hgp x hx k o2 hqk ho2 hd2 (fun j => j < i) (fun a b hab hb j hj => Nat.lt_trans (K.back a b hb j hj) hab) (fun j hj => K.back i o ho j hj)
    · exact T.path K i hi hqi o p ho hgp x hx k o2 hqk ho2 hd2 (fun j => B.testBit j = true ∨ D j = true) hDc hE
  have hgp2 : guardp (mkD D tr s ops.length) ops o = some p := by
    rw [← hgp]
    unfold guardp
    split
    · rfl
    · rename_i j x hgd
      split
      · rename_i q hqq
        split
        · rename_i d hdq
          have hmem : ∃ y, (d, y) ∈ p := by
            unfold guardp at hgp
            rw [hgd] at hgp
            dsimp only at hgp
            rw [hqq] at hgp
            dsimp only at hgp
            rw [hdq] at hgp
            dsimp only at hgp
            split at hgp
            · simp only [Option.some.injEq] at hgp; exact ⟨x, by rw [← hgp]; simp⟩
            · simp only [Option.some.injEq] at hgp; exact ⟨x, by rw [← hgp]; simp⟩
            · cases hgp
          obtain ⟨y, hy⟩ := hmem
          rw [← hpagree (d, y) hy]
        · rfl
      · rfl
  have hfresh : fresh (mkD D tr s ops.length).hp e.os = true := by
    refine fresh_of fun n x hl => ?_
    cases hq2 : look (mkD D tr s ops.length).hp n with
    | none => exact ⟨rfl, (hpin n x hl).2⟩
    | some y =>
      exfalso
      have hpi := hfr i e hi hqi he n x hl
      rcases mkD_hp_case hq2 with h | ⟨j, e', hj, hDj, he', h⟩
      · have := mkDX_base (D := fun j => q.testBit j) hfr (fun _ h => h) (i := i) (by omega) h
        rw [hpi] at this
        cases this
      · have hji : j ≠ i := by rintro rfl; rw [hDi] at hDj; cases hDj
        by_cases hlt : j < i
        · have := mkDX_in (D := fun j => q.testBit j) hfr (fun _ h => h) (i := i) (by omega) hlt (hDq j hDj) he' h
          rw [hpi] at this
          cases this
        · have h2 := hfr j e' hj (hDq j hDj) he' n y h
          have := mkDX_in (D := fun j => q.testBit j) hfr (fun _ h => h) (i := j) (by omega) (j := i) (by omega) hqi he hl
          rw [h2] at this
          cases this
  have hnom : ((mkD D tr s ops.length).sl.any fun x => x.2.mentions e.d) = false := by
    rw [List.any_eq_false]
    intro x hx hm
    rcases mkD_mem hx with h | ⟨j, e', hj, hDj, he', rfl⟩
    · rw [List.any_eq_false] at hnm
      exact hnm x (mkD_sl_base h) hm
    · obtain ⟨qq, e2, vc2, hqq, he2, hd2, _, hqc, _⟩ := T.one j hj (hDq j hDj)
      rw [he'] at he2
      simp only [Option.some.injEq] at he2
      subst he2
      obtain ⟨pj, hgj, hj0, hj1, _⟩ := qcore_path hqc
      by_cases hnil : pj = []
      · cases hx2 : e'.v with
        | cond q y => exact hj0 hnil _ _ hx2
        | one y => simp [hx2, SV.mentions] at hm
        | tup y => simp [hx2, SV.mentions] at hm
      · obtain ⟨y, hy⟩ := (hj1 hnil).1
        simp only [hy, SV.mentions, List.any_eq_true] at hm
        obtain ⟨z, hz, hzd⟩ := hm
        have hzd := Nat.eq_of_beq_eq_true hzd
        have h4 := T.path K j hj (hDq j hDj) qq pj hqq hgj z hz i o hqi ho (by rw [hd, hzd]) (fun j => B.testBit j = true ∨ D j = true) hDc (hDc j qq (Or.inr hDj) hqq)
        have := hlist hqi hi h4
        rw [hDi] at this; cases this
  -- the state behind
  have hdm : e.v.mentions e.d = false := by
    by_cases hnil : p = []
    · cases hx2 : e.v with
      | cond q y => exact absurd hx2 (hp0 hnil _ _)
      | one y => rfl
      | tup y => rfl
    · obtain ⟨⟨y, hy⟩, _, hne⟩ := hp1 hnil
      rw [hy]
      simp only [SV.mentions]
      rw [List.any_eq_false]
      intro z hz hb
      exact hne e.d hd z hz (Nat.eq_of_beq_eq_true hb)
  have hD2 : ∀ j, (fun j => D j || j == i) j = true → q.testBit j = true := by
    intro j hj
    simp only [Bool.or_eq_true, beq_iff_eq] at hj
    rcases hj with h | rfl
    · exact hDq j h
    · exact hqi
  have behind : ∀ a' w', Inv ty zb (app (mkD D tr s ops.length) e) a' w' → Inv ty zb (mkD (fun j => D j || j == i) tr s ops.length) a' w' := by
    intro a' w' iv'
    obtain ⟨env, g⟩ := iv'.good
    refine ⟨by rw [iv'.size, mkD_n]; show (mkD D tr s ops.length).n = s.n; exact mkD_n _, iv'.defers, iv'.kept, iv'.amb, env, g.congr ?_ ?_⟩
    · intro t v hl
      show look ((e.d, e.v) :: (mkD D tr s ops.length).sl) t = some v
      by_cases ht : t = e.d
      · subst ht
        rw [mkD_slot hi (by simp) he fun j' e2 h1 h2 h3 h4 => huniq hi h1 hqi (hD2 j' h2) he h3 h4] at hl
        rw [look_eq]; exact hl
      · rw [look_ne ht]
        by_cases hex : ∃ k e', k < ops.length ∧ D k = true ∧ tr[k]? = some e' ∧ e'.d = t
        · obtain ⟨k, e', hk, hDk, he', rfl⟩ := hex
          rw [mkD_slot hk (by simp [hDk]) he' fun j' e2 h1 h2 h3 h4 => huniq hk h1 (hDq k hDk) (hD2 j' h2) he' h3 h4] at hl
          rw [mkD_slot hk hDk he' fun j' e2 h1 h2 h3 h4 => huniq hk h1 (hDq k hDk) (hDq j' h2) he' h3 h4]
          exact hl
        · rw [mkD_base fun k e' hk hDk he' hdt => by
            simp only [Bool.or_eq_true, beq_iff_eq] at hDk
            rcases hDk with h | rfl
            · exact hex ⟨k, e', hk, h, he', hdt⟩
            · rw [he] at he'
              simp only [Option.some.injEq] at he'
              exact ht (by rw [he', hdt])] at hl
          rw [mkD_base fun k e' hk hDk he' hdt => hex ⟨k, e', hk, hDk, he', hdt⟩]
          exact hl
    · intro n
      show look (mkD (fun j => D j || j == i) tr s ops.length).hp n = look (e.os ++ (mkD D tr s ops.length).hp) n
      cases hl : look e.os n with
      | some x =>
        rw [look_app_some hl]
        exact mkDX_in hfr hD2 (Nat.le_refl _) hi (by simp) he hl
      | none =>
        rw [look_app_none hl]
        cases hx : look (mkD (fun j => D j || j == i) tr s ops.length).hp n with
        | some y =>
          rcases mkD_hp_case hx with h | ⟨j, e', hj, hDj, he', h⟩
          · exact (mkDX_base hfr hDq (Nat.le_refl _) h).symm
          · have hji : j ≠ i := by
              rintro rfl
              rw [he] at he'
              simp only [Option.some.injEq] at he'
              subst he'
              rw [hl] at h; cases h
            have hDj : D j = true := by
              simp only [Bool.or_eq_true, beq_iff_eq] at hDj
              exact hDj.resolve_right hji
            exact (mkDX_in hfr hDq (Nat.le_refl _) hj hDj he' h).symm
        | none =>
          cases hy : look (mkD D tr s ops.length).hp n with
          | none => rfl
          | some y =>
            rcases mkD_hp_case hy with h | ⟨j, e', hj, hDj, he', h⟩
            · rw [mkDX_base hfr hD2 (Nat.le_refl _) h] at hx; cases hx
            · rw [mkDX_in hfr hD2 (Nat.le_refl _) hj (by simp [hDj]) he' h] at hx; cases hx
  have hput : St.put ⟨(mkD D tr s ops.length).n, (mkD D tr s ops.length).sl, e.os ++ (mkD D tr s ops.length).hp⟩ o.dst e.v = app (mkD D tr s ops.length) e := by
    rw [hd]
    simp only [St.put, hnom]
    rfl
  by_cases hw : Region.wanted o (yielded ops.toArray a.tmps) = true
  · have hh : holds a.tmps p := by
      obtain ⟨env, g⟩ := iv.good
      unfold guardp at hgp2
      split at hgp2
      · simp at hgp2; subst hgp2; intro y hy; simp at hy
      · rename_i j x hgd
        split at hgp2
        · rename_i q hqq
          split at hgp2
          · rename_i d hdq
            have hwd := (wanted_iff (ops := ops.toArray) hgd (by simpa using hqq) hdq a.tmps).1 hw
            split at hgp2
            · simp only [Option.some.injEq] at hgp2
              subst hgp2
              intro y hy
              simp at hy
              subst hy
              exact hwd
            · rename_i p' b hl
              simp only [Option.some.injEq] at hgp2
              subst hgp2
              intro y hy
              rcases List.mem_cons.1 hy with rfl | hy
              · exact hwd
              · exact (cond_bool g hl hwd).1 y hy
            · cases hgp2
          · cases hgp2
        · cases hgp2
    obtain ⟨env, g⟩ := iv.good
    have hcompat : Compat (mkD (fun j => q.testBit j) tr s i).hp (mkD D tr s ops.length).hp := by
      intro n x y h1 h2
      have h3 := preX_mono hfr (Nat.le_of_lt hi) (Nat.le_refl _) h1
      have h4 := mkDX_pre hfr hDq (Nat.le_refl _) h2
      rw [h3] at h4
      simpa using h4
    have hmono := qcore_mono hcompat g (by rw [mkD_n, mkD_n]) hgp hgp2 hh (fun x hx t hxt => agree t fun k o2 hk hqk ho2 hd2 => by
        have ht : t ∈ tmpsOf o := by
          simp only [tmpsOf, List.mem_filterMap]
          exact ⟨x, hx, by rw [hxt]⟩
        rcases K.uses i o hqi ho t ht k o2 hqk ho2 hd2 with h | h | h
        · exact Or.inl h
        · exact Or.inr (Or.inl ⟨hcloi h, hlist hqk hk (hclo h)⟩)
        · refine Or.inr (Or.inr ⟨h.1, ?_⟩)
          cases hDk : D k with
          | false => rfl
          | true =>
            have := clo_ok (D := fun j => B.testBit j = true ∨ D j = true) K.back hDc k o2 ho2 (hDc k o2 (Or.inr hDk) ho2) i h.2
            have := hlist hqi hi this
            rw [hDi] at this; cases this) hpagree hfresh hq
    have := qcore_ok (Q := Q) C hmono iv (fun p hp => hv _ hvc hqi hi p hp)
    rw [hput] at this
    exact this.mono behind
  · unfold Runs
    rw [if_neg hw]
    have hnil : p ≠ [] := by
      rintro rfl
      unfold guardp at hgp
      split at hgp
      · rename_i hgd; exact hw (by simp [Region.wanted, hgd])
      · repeat' split at hgp
        all_goals simp at hgp
    obtain ⟨⟨y, hy⟩, hos, _⟩ := hp1 hnil
    have hnh : ¬ holds a.tmps p := by
      intro hh
      unfold guardp at hgp
      split at hgp
      · rename_i hgd; exact hw (by simp [Region.wanted, hgd])
      · rename_i j x hgd
        split at hgp
        · rename_i q hqq
          split at hgp
          · rename_i d hdq
            have hdx : (d, x) ∈ p := by
              split at hgp
              · simp only [Option.some.injEq] at hgp; rw [← hgp]; simp
              · simp only [Option.some.injEq] at hgp; rw [← hgp]; simp
              · cases hgp
            exact hw ((wanted_iff (ops := ops.toArray) hgd (by simpa using hqq) hdq a.tmps).2 (hh _ hdx))
          · cases hgp
        · cases hgp
    apply behind
    obtain ⟨env, g⟩ := iv.good
    have hlt : e.d < a.tmps.size := by
      unfold qcore at hq
      have : dstok (mkD (fun j => q.testBit j) tr s i) o.dst = true := by
        cases hdk : dstok (mkD (fun j => q.testBit j) tr s i) o.dst with
        | true => rfl
        | false => rw [hdk] at hq; simp at hq
      rw [hd] at this
      rw [iv.size, mkD_n]
      have := Nat.le_of_ble_eq_true this
      rw [show (mkD (fun j => q.testBit j) tr s i).n = s.n from mkD_n i] at this
      exact this
    have hgp3 := g.put (d := e.d) hlt (v := e.v) (u := undef) (by rw [hy]; exact ⟨fun hh => absurd hh hnh, fun _ => rfl⟩) hdm
    refine ⟨by rw [put_size]; exact iv.size, by rw [put_defers]; exact iv.defers, iv.kept, iv.amb, env, ?_⟩
    rw [hd]
    have happ : (mkD D tr s ops.length).put (some e.d) e.v = app (mkD D tr s ops.length) e := by
      simp only [St.put, hnom, app, hos]
      rfl
    rw [happ] at hgp3
    exact hgp3
end
/-! ### Plans -/
theorem enumX_ok {ops : List Oper} {B q must : Nat} {D : Nat → Bool} (hDq : ∀ i, D i = true → q.testBit i = true) (hDn : ∀ i, D i = true → i < ops.length) (hb : ∀ i o, ops[i]? = some o → ∀ j, j ∈ edges o → j < i)
    (hc : ∀ i o, D i = true → ops[i]? = some o → ∀ j, j ∈ edges o → (B.testBit j = true ∨ D j = true)) (hmust : ∀ i, q.testBit i = true → must.testBit i = true → D i = true) :
    ∀ (m i d : Nat), i + m = ops.length → (∀ j, d.testBit j = (decide (j < i) && D j)) → ∃ d', d' ∈ enumX ops B q must m i d ∧ ∀ j, d'.testBit j = D j
  | 0, i, d, him, hd => by
    refine ⟨d, by simp [enumX], fun j => ?_⟩
    rw [hd j]
    cases hj : D j with
    | false => simp
    | true => have := hDn j hj; simp; omega
  | m + 1, i, d, him, hd => by
    have hstep : D i = false → ∀ j, d.testBit j = (decide (j < i + 1) && D j) := by
      intro hDi j
      rw [hd j]
      by_cases hji : j = i
      · subst hji; simp [hDi]
      · have : decide (j < i) = decide (j < i + 1) := by
          apply decide_eq_decide.2; omega
        rw [this]
    simp only [enumX]
    split
    · rename_i hq
      have hDi : D i = false := by
        cases h : D i with
        | false => rfl
        | true => rw [hDq i h] at hq; cases hq
      exact enumX_ok hDq hDn hb hc hmust m (i + 1) d (by omega) (hstep hDi)
    · rename_i hq
      cases hDi : D i with
      | true =>
        have hlt := hDn i hDi
        have ho := List.getElem?_eq_getElem hlt
        have hcond : (((ops[i]?).map fun o => (edges o).all fun j => B.testBit j || d.testBit j).getD false) = true := by
          rw [ho]
          simp only [Option.map_some, Option.getD_some, List.all_eq_true, Bool.or_eq_true]
          intro j hj
          rcases hc i _ hDi ho j hj with h | h
          · exact Or.inl h
          · exact Or.inr (by rw [hd j, h]; have := hb i _ ho j hj; simp [this])
        obtain ⟨d', h1, h2⟩ := enumX_ok hDq hDn hb hc hmust m (i + 1) (d ||| 2 ^ i) (by omega) (fun j => by
          rw [Nat.testBit_or, Nat.testBit_two_pow, hd j]
          by_cases hji : i = j
          · subst hji; simp [hDi]
          · have : decide (j < i) = decide (j < i + 1) := by
              apply decide_eq_decide.2; omega
            simp [hji, this])
        refine ⟨d', ?_, h2⟩
        rw [hcond]
        exact List.mem_append_left _ h1
      | false =>
        obtain ⟨d', h1, h2⟩ := enumX_ok hDq hDn hb hc hmust m (i + 1) d (by omega) (hstep hDi)
        refine ⟨d', List.mem_append_right _ ?_, h2⟩
        split
        · rename_i hm
          have := hmust i hq hm
          rw [hDi] at this; cases this
        · exact h1
section
variable {P : Program} {Γ : Nat → TK} {ren : List (Nat × Nat)} {cr : List (Nat × CR)} {ks hs : List Nat} {ops : List Oper} {n0 qs : Nat}
theorem execX_chain : ∀ {c : Plan} {s : St} {tr : List TE} {vq acc : List (Nat × List Prop)} {lv : List (List Prop × St)}, execX P ty Γ ren cr ks hs ops n0 c s tr vq acc = some lv → ∀ d t sub, (d, t, sub) ∈ c.brs →
    ∃ o vc s2 l1, ops[t]? = some o ∧ step P ty Γ ren cr ops (appD d 0 tr s) o = some (vc, s2) ∧ execX P ty Γ ren cr ks hs ops n0 sub s2 [] [] (insV t vc (insD d vq acc)) = some l1 ∧ ∀ x, x ∈ l1 → x ∈ lv
  | .br d0 t0 sub0 next, s, tr, vq, acc, lv, h, d, t, sub, hm => by
    simp only [execX] at h
    split at h
    case h_2 => cases h
    rename_i s1 o hs1 ho
    have hs1 := fSt_eq hs1
    subst hs1
    split at h
    case h_2 => cases h
    rename_i vc s2 hst
    split at h
    case h_2 => cases h
    rename_i s3 hs3
    have hs3 := fSt_eq hs3
    subst hs3
    split at h
    case h_2 => cases h
    rename_i l1 l2 h1 h2
    simp only [Option.some.injEq] at h
    rw [app1_eq] at h
    subst h
    simp only [Plan.brs, List.mem_cons, Prod.mk.injEq] at hm
    rcases hm with ⟨rfl, rfl, rfl⟩ | hm
    · exact ⟨o, vc, _, l1, ho, hst, h1, fun x hx => List.mem_append_left _ hx⟩
    · obtain ⟨o', vc', s', l', p1, p2, p3, p4⟩ := execX_chain h2 d t sub hm
      exact ⟨o', vc', s', l', p1, p2, p3, fun x hx => List.mem_append_right _ (p4 x hx)⟩
  | .last _, _, _, _, _, _, _, _, _, _, hm => by simp [Plan.brs] at hm
  | .ph _ _, _, _, _, _, _, _, _, _, _, hm => by simp [Plan.brs] at hm
  | .nil, _, _, _, _, _, _, _, _, _, hm => by simp [Plan.brs] at hm
theorem execX_acc : ∀ {c : Plan} {s : St} {tr : List TE} {vq acc : List (Nat × List Prop)} {lv : List (List Prop × St)}, execX P ty Γ ren cr ks hs ops n0 c s tr vq acc = some lv → ∀ x, x ∈ lv → ∀ y, y ∈ acc → ∀ p, p ∈ y.2 → p ∈ x.1
  | .last q, s, tr, vq, acc, lv, h, x, hx, y, hy, p, hp => by
    simp only [execX] at h
    repeat' split at h
    all_goals first
      | (cases h; done)
      | skip
    rename_i hf _ _ _ _
    simp only [Option.some.injEq] at h
    subst h
    rw [List.mem_singleton] at hx
    subst hx
    exact flatV_mem hf y (insD_mem.2 (Or.inr hy)) p hp
  | .ph q c, s, tr, vq, acc, lv, h, x, hx, y, hy, p, hp => by
    simp only [execX] at h
    split at h
    · exact execX_acc h x hx y hy p hp
    · cases h
  | .br d0 t0 sub0 next, s, tr, vq, acc, lv, h, x, hx, y, hy, p, hp => by
    simp only [execX] at h
    split at h
    case h_2 => cases h
    split at h
    case h_2 => cases h
    split at h
    case h_2 => cases h
    split at h
    case h_2 => cases h
    rename_i l1 l2 h1 h2
    simp only [Option.some.injEq] at h
    rw [app1_eq] at h
    subst h
    rcases List.mem_append.1 hx with hx | hx
    · exact execX_acc h1 x hx y (insV_mem.2 (Or.inr (insD_mem.2 (Or.inr hy)))) p hp
    · exact execX_acc h2 x hx y hy p hp
  | .nil, _, _, _, _, _, h, x, hx, _, _, _, _ => by
    simp only [execX, Option.some.injEq] at h
    subst h
    cases hx
theorem okX_chain {n : Nat} : ∀ {c : Plan} {B : Nat}, okX ops (clo ops) (idx 0 ops) qs n B c = true → ∀ d t sub, (d, t, sub) ∈ c.brs → sub.isph = true ∧ t < n ∧ okX ops (clo ops) (idx 0 ops) qs n (B ||| d ||| 2 ^ t) sub = true ∧ SizeOf.sizeOf sub < SizeOf.sizeOf c
  | .br d0 t0 sub0 next, B, h, d, t, sub, hm => by
    simp only [okX, Bool.and_eq_true] at h
    simp only [Plan.brs, List.mem_cons, Prod.mk.injEq] at hm
    rcases hm with ⟨rfl, rfl, rfl⟩ | hm
    · exact ⟨h.1.1.1, Nat.le_of_ble_eq_true h.1.1.2, h.1.2, by simp only [Plan.br.sizeOf_spec]; omega⟩
    · obtain ⟨p1, p2, p3, p4⟩ := okX_chain h.2 d t sub hm
      exact ⟨p1, p2, p3, by simp only [Plan.br.sizeOf_spec]; omega⟩
  | .last _, _, _, _, _, _, hm => by simp [Plan.brs] at hm
  | .ph _ _, _, _, _, _, _, hm => by simp [Plan.brs] at hm
  | .nil, _, _, _, _, _, hm => by simp [Plan.brs] at hm
/-- A turn that may come is in the plan. -/
theorem coverX_ok {B q : Nat} {c : Plan} (h : coverX ops (clo ops) ops.length B q c = true) (K : PhX ops qs B q) {D : Nat → Bool} (hDq : ∀ i, D i = true → q.testBit i = true) (hDn : ∀ i, D i = true → i < ops.length)
    (hDc : ∀ i o, (B.testBit i = true ∨ D i = true) → ops[i]? = some o → ∀ j, j ∈ edges o → (B.testBit j = true ∨ D j = true)) {t : Nat} {o : Oper} (ho : ops[t]? = some o) (ht : B.testBit t = false) (hqt : q.testBit t = false) (hE : ∀ j, j ∈ edges o → (B.testBit j = true ∨ D j = true)) :
    ∃ d sub, (d, t, sub) ∈ c.brs ∧ ∀ i, d.testBit i = D i := by
  have htl : t < ops.length := (List.getElem?_eq_some_iff.1 ho).1
  simp only [coverX, List.all_eq_true, List.mem_range, Bool.or_eq_true] at h
  obtain ⟨d, h1, h2⟩ := enumX_ok (B := B) (q := q) (must := (clo ops).getD t 0) hDq hDn K.back (fun i o hi => hDc i o (Or.inr hi)) (fun i hqi hm => by
    have := clo_ok (D := fun j => B.testBit j = true ∨ D j = true) K.back hDc t o ho hE i hm
    rcases this with h | h
    · have hil : i < ops.length := by
        have := clo_ok (D := fun j => j < t) K.back (fun a b hab hb j hj => Nat.lt_trans (K.back a b hb j hj) hab) t o ho (fun j hj => K.back t o ho j hj) _ hm
        omega
      rw [K.dis i hil hqi] at h; cases h
    · exact h) ops.length 0 0 (by omega) (fun j => by simp)
  rcases h t htl with (h3 | h3) | h3
  · rw [ht] at h3; cases h3
  · rw [hqt] at h3; cases h3
  · have h4 := h3 d h1
    simp only [Bool.not_eq_true', List.any_eq_true, Bool.and_eq_true] at h4
    rcases h4 with h4 | ⟨⟨d', t', sub⟩, h5, h6, h7⟩
    · exfalso
      rw [ho] at h4
      simp only [Option.map_some, Option.getD_some] at h4
      have : ((edges o).all fun j => B.testBit j || d.testBit j) = true := by
        rw [List.all_eq_true]
        intro j hj
        rw [Bool.or_eq_true, h2 j]
        exact hE j hj
      rw [this] at h4; cases h4
    · have h6 := Nat.eq_of_beq_eq_true h6
      have h7 := Nat.eq_of_beq_eq_true h7
      simp only at h6 h7
      subst h6; subst h7
      exact ⟨d', sub, h5, h2⟩
/-- Where a phase is not the last one, a turn stands behind all of it. -/
theorem ph_turn {B q : Nat} {c : Plan} (hcov : coverX ops (clo ops) ops.length B q c = true) (K : PhX ops qs B q) (hBc : ∀ i o, B.testBit i = true → ops[i]? = some o → ∀ j, j ∈ edges o → B.testBit j = true)
    (hqc : ∀ i o, q.testBit i = true → ops[i]? = some o → ∀ j, j ∈ edges o → (B.testBit j = true ∨ q.testBit j = true)) (hnot : ((List.range ops.length).all fun i => B.testBit i || q.testBit i) = false) :
    ∃ d t sub, (d, t, sub) ∈ c.brs ∧ (∀ i, d.testBit i = (q.testBit i && decide (i < ops.length))) ∧ ∀ o, ops[t]? = some o → ∀ j, j ∈ edges o → (B.testBit j = true ∨ d.testBit j = true) := by
  have : ∃ i, i < ops.length ∧ B.testBit i = false ∧ q.testBit i = false ∧ ∀ j, j < i → B.testBit j = true ∨ q.testBit j = true := by
    rw [List.all_eq_false] at hnot
    obtain ⟨i, hi, hn⟩ := hnot
    rw [List.mem_range] at hi
    simp only [Bool.or_eq_true, not_or, Bool.not_eq_true] at hn
    induction i using Nat.strongRecOn with
    | _ i ih =>
      by_cases hl : ∀ j, j < i → B.testBit j = true ∨ q.testBit j = true
      · exact ⟨i, hi, hn.1, hn.2, hl⟩
      · have : ∃ j, j < i ∧ B.testBit j = false ∧ q.testBit j = false := by
          apply Classical.byContradiction
          intro hno
          apply hl
          intro j hj
          cases hb : B.testBit j with
          | true => exact Or.inl rfl
          | false =>
            cases hq : q.testBit j with
            | true => exact Or.inr rfl
            | false => exact absurd ⟨j, hj, hb, hq⟩ hno
        obtain ⟨j, hj, h1, h2⟩ := this
        exact ih j hj (by omega) ⟨h1, h2⟩
  obtain ⟨i, hi, h1, h2, h3⟩ := this
  have ho := List.getElem?_eq_getElem hi
  obtain ⟨d, sub, h4, h5⟩ := coverX_ok (D := fun j => q.testBit j && decide (j < ops.length)) hcov K (fun j hj => by simp at hj; exact hj.1) (fun j hj => by simp at hj; exact hj.2)
    (fun a b hab hb j hj => by
      have hal : a < ops.length := (List.getElem?_eq_some_iff.1 hb).1
      have hjl : j < ops.length := Nat.lt_trans (K.back a b hb j hj) hal
      rcases hab with h | h
      · exact Or.inl (hBc a b h hb j hj)
      · simp at h
        rcases hqc a b h.1 hb j hj with h | h
        · exact Or.inl h
        · exact Or.inr (by simp [h, hjl])) ho h1 h2 (fun j hj => by
      have hji := K.back i _ ho j hj
      rcases h3 j hji with h | h
      · exact Or.inl h
      · exact Or.inr (by simp [h]; omega))
  refine ⟨d, i, sub, h4, h5, fun o ho' j hj => ?_⟩
  have hji := K.back i _ ho' j hj
  rcases h3 j hji with h | h
  · exact Or.inl h
  · exact Or.inr (by rw [h5 j, h]; simp; omega)
theorem closedB {B d t q : Nat} (K : PhX ops qs B q) (hBc : ∀ i o, B.testBit i = true → ops[i]? = some o → ∀ j, j ∈ edges o → B.testBit j = true) (hd : ∀ i o, d.testBit i = true → ops[i]? = some o → ∀ j, j ∈ edges o → (B.testBit j = true ∨ d.testBit j = true))
    (ht : ∀ o, ops[t]? = some o → ∀ j, j ∈ edges o → (B.testBit j = true ∨ d.testBit j = true)) : ∀ i o, (B ||| d ||| 2 ^ t).testBit i = true → ops[i]? = some o → ∀ j, j ∈ edges o → (B ||| d ||| 2 ^ t).testBit j = true := by
  intro i o hi ho j hj
  simp only [Nat.testBit_or, Nat.testBit_two_pow, Bool.or_eq_true, decide_eq_true_eq] at hi ⊢
  rcases hi with (h | h) | h
  · exact Or.inl (Or.inl (hBc i o h ho j hj))
  · exact Or.inl (hd i o h ho j hj)
  · subst h; exact Or.inl (ht o ho j hj)
/-- A phase has a way to its end. -/
theorem execX_ne : ∀ (N : Nat) (p : Plan), SizeOf.sizeOf p ≤ N → p.isph = true → ∀ (B : Nat) (s : St) (tr : List TE) (vq acc : List (Nat × List Prop)) (lv : List (List Prop × St)), (∀ i o, ops[i]? = some o → ∀ j, j ∈ edges o → j < i) → (∀ i o, B.testBit i = true → ops[i]? = some o → ∀ j, j ∈ edges o → B.testBit j = true) →
    okX ops (clo ops) (idx 0 ops) qs ops.length B p = true → execX P ty Γ ren cr ks hs ops n0 p s tr vq acc = some lv → lv ≠ []
  | N, .last q, _, _, B, s, tr, vq, acc, lv, hb, hBc, hok, h => by
    simp only [execX] at h
    repeat' split at h
    all_goals first
      | (cases h; done)
      | skip
    simp only [Option.some.injEq] at h
    rw [← h]; simp
  | 0, .ph q c, hN, _, _, _, _, _, _, _, _, _, _, _ => by simp only [Plan.ph.sizeOf_spec] at hN; omega
  | N + 1, .ph q c, hN, _, B, s, tr, vq, acc, lv, hb, hBc, hok, h => by
    simp only [okX, Bool.and_eq_true, Bool.not_eq_true'] at hok
    have K := phok_ok hb hok.1.1.1
    obtain ⟨d, t, sub, hm, hd, ht⟩ := ph_turn hok.1.1.2 K hBc K.clq hok.1.2
    simp only [execX] at h
    split at h
    case h_2 => cases h
    rename_i tr' vq' hr
    obtain ⟨o, vc, s2, l1, h1, h2, h3, h4⟩ := execX_chain h d t sub hm
    obtain ⟨p1, p2, p3, p4⟩ := okX_chain hok.2 d t sub hm
    have hsz : SizeOf.sizeOf sub ≤ N := by simp only [Plan.ph.sizeOf_spec] at hN; omega
    have := execX_ne N sub hsz p1 (B ||| d ||| 2 ^ t) s2 [] [] _ l1 hb (closedB K hBc (fun i o hi ho j hj => by
      rw [hd i] at hi
      simp only [Bool.and_eq_true, decide_eq_true_eq] at hi
      rcases K.clq i o hi.1 ho j hj with h | h
      · exact Or.inl h
      · exact Or.inr (by rw [hd j, h]; have := K.back i o ho j hj; simp; omega)) ht) p3 h3
    intro hnil
    cases l1 with
    | nil => exact this rfl
    | cons x r => have := h4 x (by simp); rw [hnil] at this; cases this
  | _, .br _ _ _ _, _, hp, _, _, _, _, _, _, _, _, _, _ => by cases hp
  | _, .nil, _, hp, _, _, _, _, _, _, _, _, _, _ => by cases hp
variable {zb : Base} {Q : Exit → Act → World → Prop}
/-- A phase's operations, in any order; behind them all, or at a turn, the rest. -/
theorem phase_run (X : Ctx P ty Γ) {B q : Nat} {s : St} {tr : List TE} {vq : List (Nat × List Prop)} (T : TrX Γ (Elt P ty) (Sound ty P) ren cr ops q s tr vq) (K : PhX ops qs B q) (hv : ∀ x, x ∈ vq → q.testBit x.1 = true → x.1 < ops.length → ∀ p, p ∈ x.2 → p) (hBc : ∀ i o, B.testBit i = true → ops[i]? = some o → ∀ j, j ∈ edges o → B.testBit j = true)
    (fin : ∀ a w, (∀ i, i < ops.length → B.testBit i = true ∨ q.testBit i = true) → Inv ty zb (mkD (fun j => q.testBit j) tr s ops.length) a w → Q .normal a w)
    (turn : ∀ (fuel : Nat) (D : Nat → Bool) (listed : Array Bool) (i : Nat) (o : Oper) (a : Act) (w : World), listed.size = ops.length → (∀ j, j < ops.length → listed.getD j false = (B.testBit j || D j)) → (∀ i, D i = true → q.testBit i = true) → (∀ i, D i = true → i < ops.length) →
      (∀ i o, (B.testBit i = true ∨ D i = true) → ops[i]? = some o → ∀ j, j ∈ edges o → (B.testBit j = true ∨ D j = true)) → ops[i]? = some o → B.testBit i = false → q.testBit i = false → (∀ j, j ∈ edges o → (B.testBit j = true ∨ D j = true)) → cnt ops.length (fun j => (listed.setIfInBounds i true).getD j false) ≤ fuel →
      Inv ty zb (mkD D tr s ops.length) a w → Runs P ops.toArray o a w (wpAny P .any ops.toArray Q fuel (listed.setIfInBounds i true)) Q) :
    ∀ (fuel : Nat) (D : Nat → Bool) (listed : Array Bool) (a : Act) (w : World), listed.size = ops.length → (∀ j, j < ops.length → listed.getD j false = (B.testBit j || D j)) → (∀ i, D i = true → q.testBit i = true) → (∀ i, D i = true → i < ops.length) →
      (∀ i o, (B.testBit i = true ∨ D i = true) → ops[i]? = some o → ∀ j, j ∈ edges o → (B.testBit j = true ∨ D j = true)) → cnt ops.length (fun j => listed.getD j false) ≤ fuel → Inv ty zb (mkD D tr s ops.length) a w → wpAny P .any ops.toArray Q fuel listed a w := by
  have all : ∀ {D : Nat → Bool} {listed : Array Bool} {a : Act} {w : World}, listed.size = ops.length → (∀ j, j < ops.length → listed.getD j false = (B.testBit j || D j)) → (∀ i, D i = true → q.testBit i = true) → Region.ready .any ops.toArray listed = [] → Inv ty zb (mkD D tr s ops.length) a w → Q .normal a w := by
    intro D listed a w hl hL hDq hnil iv
    have hlow : ∀ i, i < ops.length → listed.getD i false = true := by
      intro i
      induction i using Nat.strongRecOn with
      | _ i ih =>
        intro hi
        cases hd : listed.getD i false with
        | true => rfl
        | false =>
          have : i ∈ Region.ready .any ops.toArray listed := (ready_iff hl).2 ⟨ops[i], List.getElem?_eq_getElem hi, hd, fun j hj => by
            have := K.back i _ (List.getElem?_eq_getElem hi) j hj
            exact ih j this (by omega)⟩
          rw [hnil] at this
          cases this
    have hBD : ∀ i, i < ops.length → B.testBit i = true ∨ D i = true := by
      intro i hi
      have := hlow i hi
      rw [hL i hi, Bool.or_eq_true] at this
      exact this
    refine fin a w (fun i hi => (hBD i hi).imp id (hDq i)) ?_
    rw [← mkD_congr (D := D) fun i hi => ?_]
    · exact iv
    · cases hq : q.testBit i with
      | false =>
        cases hd : D i with
        | false => rfl
        | true => rw [hDq i hd] at hq; cases hq
      | true =>
        rcases hBD i hi with h | h
        · rw [K.dis i hi hq] at h; cases h
        · exact h
  intro fuel
  induction fuel with
  | zero =>
    intro D listed a w hl hL hDq hDm hDc hf iv
    have hz := cnt_zero (by omega : cnt ops.length (fun i => listed.getD i false) = 0)
    have hnil : Region.ready .any ops.toArray listed = [] := by
      apply List.eq_nil_iff_forall_not_mem.2
      intro i hi
      obtain ⟨o, ho, h1, _⟩ := (ready_iff hl).1 hi
      rw [hz i (List.getElem?_eq_some_iff.1 ho).1] at h1
      cases h1
    exact ⟨hnil, all hl hL hDq hnil iv⟩
  | succ fuel ih =>
    intro D listed a w hl hL hDq hDm hDc hf iv
    refine ⟨fun hnil => all hl hL hDq hnil iv, fun i hi => ?_⟩
    obtain ⟨o, ho, hif, hE0⟩ := (ready_iff hl).1 hi
    have hin := (List.getElem?_eq_some_iff.1 ho).1
    have hE : ∀ j, j ∈ edges o → (B.testBit j = true ∨ D j = true) := by
      intro j hj
      have := hE0 j hj
      rw [hL j (by have := K.back i o ho j hj; omega), Bool.or_eq_true] at this
      exact this
    rw [hL i hin, Bool.or_eq_false_iff] at hif
    obtain ⟨hBi, hDi⟩ := hif
    have hset : ∀ j, (listed.setIfInBounds i true).getD j false = (listed.getD j false || j == i) := fun j => set_getD (by omega)
    have hfun : (fun j => (listed.setIfInBounds i true).getD j false) = fun j => listed.getD j false || j == i := funext hset
    have hcnt : cnt ops.length (fun j => (listed.setIfInBounds i true).getD j false) ≤ fuel := by
      rw [hfun]
      have := cnt_set (D := fun i => listed.getD i false) hin (by rw [hL i hin, hBi, hDi]; rfl)
      omega
    unfold wpOp
    rw [List.getElem?_toArray, ho]
    dsimp only
    cases hqi : q.testBit i with
    | true =>
      have hstep := drawX_step (Q := Q) X.kind T K hv hDq hDm hDc hqi hDi ho hE iv
      refine Runs.mono (fun a' w' iv' => ih (fun j => D j || j == i) (listed.setIfInBounds i true) a' w' (by simpa using hl) (fun j hj => ?_) (fun j hj => ?_) (fun j hj => ?_) (fun a b hab hb j hj => ?_) hcnt iv') hstep
      · rw [hset, hL j hj, Bool.or_assoc]
      · simp only [Bool.or_eq_true, beq_iff_eq] at hj
        rcases hj with h | rfl
        · exact hDq j h
        · exact hqi
      · simp only [Bool.or_eq_true, beq_iff_eq] at hj
        rcases hj with h | rfl
        · exact hDm j h
        · exact hin
      · have up : ∀ {x}, (B.testBit x = true ∨ D x = true) → (B.testBit x = true ∨ (D x || x == i) = true) := fun h => h.imp id (fun h => by simp [h])
        simp only [Bool.or_eq_true, beq_iff_eq] at hab
        rcases hab with h | h | rfl
        · exact up (hDc a b (Or.inl h) hb j hj)
        · exact up (hDc a b (Or.inr h) hb j hj)
        · rw [ho] at hb
          simp only [Option.some.injEq] at hb
          subst hb
          exact up (hE j hj)
    | false => exact turn fuel D listed i o a w hl hL hDq hDm hDc ho hBi hqi hE hcnt iv
theorem plan_run (X : Ctx P ty Γ) (hb : ∀ i o, ops[i]? = some o → ∀ j, j ∈ edges o → j < i) : ∀ (N : Nat) (p : Plan), SizeOf.sizeOf p ≤ N → p.isph = true → ∀ (B : Nat) (s : St) (tr0 : List TE) (vq0 acc : List (Nat × List Prop)) (lv : List (List Prop × St)),
    (∀ i o, B.testBit i = true → ops[i]? = some o → ∀ j, j ∈ edges o → B.testBit j = true) → okX ops (clo ops) (idx 0 ops) qs ops.length B p = true → execX P ty Γ ren cr ks hs ops n0 p s tr0 vq0 acc = some lv →
    (∀ x, x ∈ lv → (∀ q, q ∈ x.1 → q) ∧ ∀ a w, Inv ty zb x.2 a w → Q .normal a w) →
    ∀ (fuel : Nat) (listed : Array Bool) (a : Act) (w : World), listed.size = ops.length → (∀ j, j < ops.length → listed.getD j false = B.testBit j) → cnt ops.length (fun j => listed.getD j false) ≤ fuel → Inv ty zb s a w → wpAny P .any ops.toArray Q fuel listed a w
  | N, .last q, hN, _, B, s, tr0, vq0, acc, lv, hBc, hok, h, hlv, fuel, listed, a, w, hl, hL, hf, iv => by
    simp only [okX, Bool.and_eq_true] at hok
    have K := phok_ok hb hok.1
    simp only [execX] at h
    split at h
    case h_2 => cases h
    rename_i tr vq hr
    split at h
    case h_2 => cases h
    rename_i n sl1 hp1 hs1
    have hs1 := fSt_eq hs1
    split at h
    case h_2 => cases h
    rename_i sl hp vc h1 h2 h3
    split at h
    case h_2 => cases h
    rename_i hcl hn
    simp only [Option.some.injEq] at h
    have T := TrX.of hr
    obtain ⟨hx1, hx2⟩ := hlv (vc, ⟨n0, sl, hp⟩) (by rw [← h]; simp)
    have hmk : mkD (fun j => q.testBit j) tr s ops.length = ⟨n, sl1, hp1⟩ := by
      rw [hs1, appD_mkD, T.len]
      congr 1
      funext j; rw [Nat.zero_add]
    refine phase_run X T K (fun x hx hq _ p hp => hx1 p (flatV_mem h3 x (insD_mem.2 (Or.inl ⟨hx, hq⟩)) p hp)) hBc (fun a w _ iv' => ?_) (fun fuel D listed i o a w _ _ _ _ _ ho hBi hqi _ _ _ => ?_) fuel (fun _ => false) listed a w hl (fun j hj => by rw [hL j hj, Bool.or_false]) (by simp) (by simp) (fun i o hi ho j hj => by
        rcases hi with h | h
        · exact Or.inl (hBc i o h ho j hj)
        · cases h) hf (by rw [mkD_none]; exact iv)
    · rw [hmk] at iv'
      exact hx2 a w (iv'.weaken (Nat.eq_of_beq_eq_true hn).symm (keepS_look h1) (keepH_look h2) hcl)
    · exfalso
      have hil := (List.getElem?_eq_some_iff.1 ho).1
      have := List.all_eq_true.1 hok.2 i (List.mem_range.2 hil)
      rw [hBi, hqi] at this; cases this
  | 0, .ph q c, hN, _, _, _, _, _, _, _, _, _, _, _, _, _, _, _, _, _, _, _ => by simp only [Plan.ph.sizeOf_spec] at hN; omega
  | N + 1, .ph q c, hN, _, B, s, tr0, vq0, acc, lv, hBc, hok, h, hlv, fuel, listed, a, w, hl, hL, hf, iv => by
    simp only [okX, Bool.and_eq_true, Bool.not_eq_true'] at hok
    have K := phok_ok hb hok.1.1.1
    obtain ⟨d, t, sub, hm, hd, ht⟩ := ph_turn hok.1.1.2 K hBc K.clq hok.1.2
    simp only [execX] at h
    split at h
    case h_2 => cases h
    rename_i tr vq hr
    have T := TrX.of hr
    have hv : ∀ x, x ∈ vq → q.testBit x.1 = true → x.1 < ops.length → ∀ p, p ∈ x.2 → p := by
      obtain ⟨o, vc, s2, l1, h1, h2, h3, h4⟩ := execX_chain h d t sub hm
      obtain ⟨p1, p2, p3, p4⟩ := okX_chain hok.2 d t sub hm
      have hsz : SizeOf.sizeOf sub ≤ N := by simp only [Plan.ph.sizeOf_spec] at hN; omega
      have hne := execX_ne N sub hsz p1 (B ||| d ||| 2 ^ t) s2 [] [] _ l1 hb (closedB K hBc (fun i o hi ho j hj => by
        rw [hd i] at hi
        simp only [Bool.and_eq_true, decide_eq_true_eq] at hi
        rcases K.clq i o hi.1 ho j hj with h | h
        · exact Or.inl h
        · exact Or.inr (by rw [hd j, h]; have := K.back i o ho j hj; simp; omega)) ht) p3 h3
      cases l1 with
      | nil => exact absurd rfl hne
      | cons x r =>
        intro y hy hq hyl p hp
        exact (hlv x (h4 x (by simp))).1 p (execX_acc h3 x (by simp) y (insV_mem.2 (Or.inr (insD_mem.2 (Or.inl ⟨hy, by rw [hd y.1, hq]; simp [hyl]⟩)))) p hp)
    refine phase_run X T K hv hBc (fun a w hall _ => ?_) (fun fuel D listed i o a w hl hL hDq hDm hDc ho hBi hqi hE hcnt iv' => ?_) fuel (fun _ => false) listed a w hl (fun j hj => by rw [hL j hj, Bool.or_false]) (by simp) (by simp) (fun i o hi ho j hj => by
        rcases hi with h | h
        · exact Or.inl (hBc i o h ho j hj)
        · cases h) hf (by rw [mkD_none]; exact iv)
    · exfalso
      have : ((List.range ops.length).all fun i => B.testBit i || q.testBit i) = true := by
        rw [List.all_eq_true]
        intro i hi
        rw [Bool.or_eq_true]
        exact hall i (List.mem_range.1 hi)
      rw [hok.1.2] at this; cases this
    · obtain ⟨d, sub, hm, hd⟩ := coverX_ok hok.1.1.2 K hDq hDm hDc ho hBi hqi hE
      obtain ⟨o', vc, s2, l1, h1, h2, h3, h4⟩ := execX_chain h d i sub hm
      rw [ho] at h1
      simp only [Option.some.injEq] at h1
      subst h1
      obtain ⟨p1, p2, p3, p4⟩ := okX_chain hok.2 d i sub hm
      have hsz : SizeOf.sizeOf sub ≤ N := by simp only [Plan.ph.sizeOf_spec] at hN; omega
      have hmk : appD d 0 tr s = mkD D tr s ops.length := by
        rw [appD_mkD, T.len]
        exact mkD_congr fun j _ => by rw [Nat.zero_add]; exact hd j
      rw [hmk] at h2
      have hBc2 := closedB (d := d) (t := i) K hBc (fun i o hi ho j hj => by
        rw [hd i] at hi
        rw [hd j]
        exact hDc i o (Or.inr hi) ho j hj) (fun o2 ho2 j hj => by
        rw [ho] at ho2
        simp only [Option.some.injEq] at ho2
        subst ho2
        rw [hd j]
        exact hE j hj)
      have hne := execX_ne N sub hsz p1 (B ||| d ||| 2 ^ i) s2 [] [] _ l1 hb hBc2 p3 h3
      have hvc : ∀ p, p ∈ vc → p := by
        cases l1 with
        | nil => exact absurd rfl hne
        | cons x r =>
          intro p hp
          exact (hlv x (h4 x (by simp))).1 p (execX_acc h3 x (by simp) (i, vc) (insV_mem.2 (Or.inl rfl)) p hp)
      have hstep := step_ok (Q := Q) X.kind X.one h2 iv' hvc
      refine Runs.mono (fun a' w' iv2 => plan_run X hb N sub hsz p1 (B ||| d ||| 2 ^ i) s2 [] [] _ l1 hBc2 p3 h3 (fun x hx => hlv x (h4 x hx)) fuel (listed.setIfInBounds i true) a' w' (by simpa using hl) (fun j hj => ?_) hcnt iv2) hstep
      have hin := (List.getElem?_eq_some_iff.1 ho).1
      rw [set_getD (by omega), hL j hj]
      simp only [Nat.testBit_or, Nat.testBit_two_pow, hd j]
      by_cases hji : j = i
      · subst hji; simp
      · have : ¬ i = j := fun e => hji e.symm
        simp [hji, this]
  | _, .br _ _ _ _, _, hp, _, _, _, _, _, _, _, _, _, _, _, _, _, _, _, _, _, _ => by cases hp
  | _, .nil, _, hp, _, _, _, _, _, _, _, _, _, _, _, _, _, _, _, _, _, _ => by cases hp
end
def AllEq (x : List Prop × St) : List (List Prop × St) → Prop
  | [] => True
  | y :: r => y = x ∧ AllEq x r
theorem AllEq.out {x : List Prop × St} : ∀ {l : List (List Prop × St)}, AllEq x l → ∀ y, y ∈ l → y = x
  | _ :: _, h, y, hy => by
    rcases List.mem_cons.1 hy with rfl | hy
    · exact h.1
    · exact AllEq.out h.2 y hy
section
variable {P : Program} {Γ : Nat → TK} {zb : Base} {Q : Post} {st : St}
/-- A region that draws, all of whose orders are walked; they meet in one state. -/
theorem W.drawX (X : Ctx P ty Γ) (ren : List (Nat × Nat)) (cr : List (Nat × CR)) (ks hs : List Nat) (qs : Nat) (pl : Plan) {id : Nat} {ops : List Oper} {vc : List Prop} {st' : St} {rest : List (List Prop × St)} (hm : P.follows .mixedOrders = true) (hc : chkX ops qs pl = true) (h : execX P ty Γ ren cr ks hs ops st.n pl st [] [] [] = some ((vc, st') :: rest)) (he : AllEq (vc, st') rest) (hv : AllP vc) (k : Q .normal st') :
    W P ty zb (.region id ops.toArray true) Q st := by
  intro a w iv
  simp only [chkX, Bool.and_eq_true] at hc
  have hb := backX hc.1.1
  refine wp_region_any hm ?_
  have hz : ∀ i, (Array.replicate ops.toArray.size false).getD i false = false := by
    intro i
    rw [Array.getD_eq_getD_getElem?, Array.getElem?_replicate]
    split <;> rfl
  refine plan_run (zb := zb) (Q := Lift ty zb Q) X hb _ pl (Nat.le_refl _) hc.1.2 0 st [] [] [] _ (fun i o hi => by simp at hi) hc.2 h (fun x hx => ?_) _ _ a _ (by simp) (fun j hj => by rw [hz]; simp) ?_ ?_
  · have hx : x = (vc, st') := by
      rcases List.mem_cons.1 hx with rfl | hx
      · rfl
      · exact he.out x hx
    subst hx
    exact ⟨hv.out, fun a w iv' => ⟨st', iv', k⟩⟩
  · unfold cnt
    refine Nat.le_trans (List.length_filter_le _ _) ?_
    simp
  · obtain ⟨env, g⟩ := iv.good
    have hdr : Below w.heap.size w w.drew := (Below.refl _ _).drew
    refine ⟨iv.size, iv.defers, iv.kept.trans (kept_below hdr iv.kept.size), iv.amb, env, ?_⟩
    have := g.grow (os := []) (w' := w.drew) (env' := env) iv.kept.size rfl (News.none hdr)
    exact this
end
section
variable {P : Program} {Γ : Nat → TK} {zb : Base} {Q : Post} {st : St}
/-- The same: the text's order says what comes out; that all orders come to it is left to the kernel. -/
theorem W.drawK (X : Ctx P ty Γ) (ren : List (Nat × Nat)) (cr : List (Nat × CR)) (ks hs : List Nat) (qs : Nat) (pl : Plan) (nw : Nat) {id : Nat} {ops : List Oper} {vc : List Prop} {st' : St} (hm : P.follows .mixedOrders = true) (hc : chkX ops qs pl = true) (_h0 : G.reg P ty Γ ren cr ks hs ops st = some (vc, st')) (h : execX P ty Γ ren cr ks hs ops st.n pl st [] [] [] = some ((vc, st') :: List.replicate nw (vc, st'))) (hv : AllP vc) (k : Q .normal st') :
    W P ty zb (.region id ops.toArray true) Q st := by
  refine W.drawX X ren cr ks hs qs pl hm hc h ?_ hv k
  have : ∀ n, AllEq (vc, st') (List.replicate n (vc, st')) := by
    intro n
    induction n with
    | zero => trivial
    | succ n ih => exact ⟨rfl, ih⟩
  exact this nw
end
end Go.Proofs.YthjedjndamejmaaGreat.G
namespace Go.Proofs.YthjedjndamejmaaGreat.G
set_option linter.all false
open Go.RowKit L D
variable {ty : Tag → Nat}
def viewB (st : St) (n i : Nat) : Option St := match look st.hp n with
  | some (.box c) => match elt c i with
    | some (.own m) => match look st.hp m with
      | some (.arr t l) => match fHp ((n, .box (c.set i (.vw m none t l))) :: st.hp.filter fun e => !Nat.beq e.1 n) with
        | some hp => some ⟨st.n, st.sl, hp⟩
        | none => none
      | _ => none
    | _ => none
  | _ => none
theorem look_filter_ne {α : Type} {hp : List (Nat × α)} {n m : Nat} (h : m ≠ n) : look (hp.filter fun e => !Nat.beq e.1 n) m = look hp m := by
  induction hp with
  | nil => rfl
  | cons e r ih =>
    obtain ⟨j, x⟩ := e
    by_cases hj : j = n
    · subst hj
      rw [List.filter_cons_of_neg (by simp), ih, look_ne h]
    · have : Nat.beq j n = false := by
        cases hb : Nat.beq j n with
        | false => rfl
        | true => exact absurd (Nat.eq_of_beq_eq_true hb) hj
      rw [List.filter_cons_of_pos (by simp [this])]
      by_cases hm : m = j
      · subst hm; rw [look_eq, look_eq]
      · rw [look_ne hm, look_ne hm, ih]
theorem All2.set {α β : Type} {R : α → β → Prop} : ∀ {as : List α} {bs : List β} {i : Nat} {x : α}, All2 R as bs → (∀ y, bs[i]? = some y → R x y) → All2 R (as.set i x) bs
  | [], [], _, _, _, _ => trivial
  | a :: as, b :: bs, 0, x, h, hx => ⟨hx b rfl, h.2⟩
  | a :: as, b :: bs, i + 1, x, h, hx => ⟨h.1, All2.set h.2 (fun y hy => hx y (by simpa using hy))⟩
  | [], _ :: _, _, _, h, _ => h.elim
  | _ :: _, [], _, _, h, _ => h.elim
section
variable {P : Program} {zb : Base} {st st' : St} {Q : Post}
theorem Inv.viewB {a : Act} {w : World} (n i : Nat) (h : G.viewB st n i = some st') (iv : Inv ty zb st a w) : Inv ty zb st' a w := by
  unfold G.viewB at h
  split at h
  case h_2 => cases h
  rename_i c hc
  split at h
  case h_2 => cases h
  rename_i m hm
  split at h
  case h_2 => cases h
  rename_i t l hl
  split at h
  case h_2 => cases h
  rename_i hp hf
  simp only [Option.some.injEq] at h
  subst h
  have hf := fHp_eq hf
  obtain ⟨env, g⟩ := iv.good
  have hmn : m ≠ n := by rintro rfl; rw [hl] at hc; cases hc
  have hlk : ∀ k o, look hp k = some o → (k = n ∧ o = .box (c.set i (.vw m none t l))) ∨ (k ≠ n ∧ look st.hp k = some o) := by
    intro k o hk
    rw [hf] at hk
    by_cases hkn : k = n
    · subst hkn; rw [look_eq] at hk; simp only [Option.some.injEq] at hk; exact Or.inl ⟨rfl, hk.symm⟩
    · rw [look_ne hkn, look_filter_ne hkn] at hk; exact Or.inr ⟨hkn, hk⟩
  have hne : ∀ k o, k ≠ n → look st.hp k = some o → look hp k = some o := by
    intro k o hkn hk
    rw [hf, look_ne hkn, look_filter_ne hkn]; exact hk
  have hnn : look hp n = some (.box (c.set i (.vw m none t l))) := by rw [hf, look_eq]
  have s : Step (fun _ => True) (fun _ => True) w st.hp env w hp env := by
    refine ⟨fun _ _ _ => rfl, ?_, ?_, ?_⟩
    · rintro b _ ⟨k, o, h1, h2⟩
      rcases hlk k o h1 with ⟨rfl, _⟩ | ⟨_, h3⟩
      · exact ⟨_, _, hc, h2⟩
      · exact ⟨k, o, h3, h2⟩
    · intro k o _ h1
      by_cases hkn : k = n
      · subst hkn
        rw [hc] at h1
        simp only [Option.some.injEq] at h1
        subst h1
        exact ⟨_, hnn, trivial, rfl⟩
      · exact ⟨o, hne k o hkn h1, by cases o <;> simp [Obj.like], rfl⟩
    · intro k t' l' _ h1
      have hkn : k ≠ n := by rintro rfl; rw [hc] at h1; cases h1
      exact ⟨hne k _ hkn h1, rfl, fun _ _ => rfl⟩
  refine ⟨iv.size, iv.defers, iv.kept, iv.amb, env, ⟨fun k o hk => ?_, fun k k' o o' hkk h1 h2 => ?_, fun t v hv => RSV.step s (fun v _ => v.hangs_all) (g.slot t v hv), fun k o hk b hb => ?_, g.pins⟩⟩
  · rcases hlk k o hk with ⟨rfl, rfl⟩ | ⟨hkn, h3⟩
    · obtain ⟨b, cs, e, h1, h2, h3⟩ := g.obj _ _ hc
      refine ⟨b, cs, e, h1, h2, All2.set (h3.mono fun x y _ hr => RA.step s x.hangs_all hr) fun y hy => ?_⟩
      rw [elt_get] at hm
      obtain ⟨y', hy', hr⟩ := h3.at hm
      rw [hy] at hy'
      simp only [Option.some.injEq] at hy'
      subst hy'
      obtain ⟨_, hu⟩ := hr
      have hro := g.obj m _ hl
      have hlm := hne m _ hmn hl
      refine ⟨⟨t, l, hlm⟩, ⟨(env m).fp, ?_, (RO.own hro).nodup, fun _ h => h⟩, by simp⟩
      rw [hu]; exact RO.sl hro
    · exact (g.obj k o h3).step s (fun _ _ v _ => v.hangs_all) (fun _ _ => rfl)
  · have : ∀ k o, look hp k = some o → ∃ x, look st.hp k = some x := by
      intro k o hk
      rcases hlk k o hk with ⟨rfl, _⟩ | ⟨_, h3⟩
      · exact ⟨_, hc⟩
      · exact ⟨_, h3⟩
    obtain ⟨x, hx⟩ := this k o h1
    obtain ⟨y, hy⟩ := this k' o' h2
    exact g.dis k k' x y hkk hx hy
  · rcases hlk k o hk with ⟨rfl, _⟩ | ⟨_, h3⟩
    · exact g.dom _ _ hc b hb
    · exact g.dom k o h3 b hb
theorem W.viewB {c : Code} (n i : Nat) (h : G.viewB st n i = some st') (k : W P ty zb c Q st') : W P ty zb c Q st := fun a w iv => k a w (iv.viewB n i h)
end
end Go.Proofs.YthjedjndamejmaaGreat.G
